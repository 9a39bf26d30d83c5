/-
  Plain program logic, part 20: a law's arguments, opened by their shapes.
-/
import Derived.Test.YtjkkefgkhafmfaaWx19
import Derived.WideShapes
namespace Wx
open Go Go.RowKit Go.WideShapes
theorem open_slice {H : Type} {enc : TypeId × Value → H} {P : Program} {w w2 : World} {base base2 : Nat} {r : Reach} {spare : Nat → Bool} {held : Bool} {t e : TypeId} {v : Value} {d : DataW H} {p : List MemPlace} (es : Sh) (ht : P.underlying t = some (.slice e)) (hok : Value.okWide P w2 r base2 t v)
    (h : DataW.Trod enc P w base spare held t v d p) (hf : (Sh.slice es).fits P (.inl t) = true) : ∃ x : SlV es.T, v = .slice x.a x.l.length x.c ∧ (Sh.slice es).ok w x := by
  obtain ⟨a, len, cap, rfl⟩ := okWide_slice ht hok
  obtain ⟨x, hx, hk⟩ := open_arg (Sh.slice es) hf h
  refine ⟨x, ?_, hk⟩
  simpa [Value.cells, Sh.cells] using hx
theorem open_struct {H : Type} {enc : TypeId × Value → H} {P : Program} {w w2 : World} {base base2 : Nat} {r : Reach} {spare : Nat → Bool} {held : Bool} {t : TypeId} {fs : Array Field} {v : Value} {d : DataW H} {p : List MemPlace} (s : Sh) (ht : P.underlying t = some (.struct fs)) (hok : Value.okWide P w2 r base2 t v)
    (h : DataW.Trod enc P w base spare held t v d p) (hf : s.fits P (.inl t) = true) : ∃ x : s.T, v = .agg (s.cells x).toArray ∧ s.ok w x := by
  obtain ⟨cs, rfl, _⟩ := okWide_struct ht hok
  obtain ⟨x, hx, hk⟩ := open_arg s hf h
  refine ⟨x, ?_, hk⟩
  have : cs.toList = s.cells x := hx
  rw [← this]
theorem wf32 {n : Int} (h : (Lit.int .u32 n).wf = true) : 0 ≤ n ∧ n < 4294967296 := by
  simp [Lit.wf, IntKind.min, IntKind.max, IntKind.signed, IntKind.bits] at h; omega
theorem wfi64 {n : Int} (h : (Lit.int .i64 n).wf = true) : -9223372036854775808 ≤ n ∧ n ≤ 9223372036854775807 := wf64 h
/-- A slice of integers: what is seen, what each is. -/
theorem Sh.okQ_ints {q : List HP} {k : IntKind} {x : SlV Int} (h : (Sh.slice (.int k)).okQ q x) : x.l.length ≤ x.c ∧ x.c ≤ maxLen ∧ Sees q x.a (x.l.map (Value.int k)) ∧ ∀ n ∈ x.l, (Lit.int k n).wf = true := by
  obtain ⟨h1, h2, _, h4, h5⟩ := h
  refine ⟨h1, h2, ?_, h5⟩
  have : x.l.flatMap (Sh.cells (.int k)) = x.l.map (Value.int k) := by
    induction x.l with
    | nil => rfl
    | cons y r ih => rw [List.flatMap_cons, ih]; rfl
  rw [← this]; exact h4
end Wx
