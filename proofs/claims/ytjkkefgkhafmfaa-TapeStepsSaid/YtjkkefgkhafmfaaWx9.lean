/-
  Plain program logic, part 9: from a contract to a call; slices that came in.
-/
import Derived.Test.YtjkkefgkhafmfaaWx8
namespace Wx
open Go Go.RowKit
theorem wf64 {n : Int} (h : (Lit.int .i64 n).wf = true) : -9223372036854775808 ≤ n ∧ n ≤ 9223372036854775807 := by
  simpa [Lit.wf, IntKind.min, IntKind.max, IntKind.signed, IntKind.bits] using h
theorem wf8 {n : Int} (h : (Lit.int .u8 n).wf = true) : 0 ≤ n ∧ n ≤ 255 := by
  simpa [Lit.wf, IntKind.min, IntKind.max, IntKind.signed, IntKind.bits] using h
/-- A slice of integers that came in stays as it was: it may be read at all times. -/
theorem row_in {k : IntKind} {w : World} {a : Option Addr} {len cap : Nat} {zs : List Int} (h : (a = none ∧ len = 0 ∧ cap = 0 ∧ zs = []) ∨
      ∃ x, a = some x ∧ len ≤ cap ∧ cap ≤ maxLen ∧ zs.length = cap ∧ (∀ i, i < zs.length → w.cell? (x.add i) = some (.int k (zs.getD i 0))) ∧ ∀ n ∈ zs, (Lit.int k n).wf = true) {q0 : List HP} (s : St w w q0) :
    ∃ (q : List HP) (l : List Int), l.length = len ∧ len ≤ maxLen ∧ (∀ n ∈ l, (Lit.int k n).wf = true) ∧ St w w (q ++ q0) ∧ Sees q a (l.map (Value.int k)) := by
  rcases h with ⟨rfl, rfl, rfl, rfl⟩ | ⟨x, rfl, hl, hm, hz, hc, hw⟩
  · exact ⟨[], [], rfl, by simp, by simp, by simpa using s, Sees.nil _ _⟩
  · by_cases h0 : zs.length = 0
    · have e : zs = [] := List.eq_nil_of_length_eq_zero h0
      subst e
      exact ⟨[], [], by simp at hz ⊢; omega, by omega, by simp, by simpa using s, Sees.nil _ _⟩
    · obtain ⟨b, off, spot⟩ := x
      have hc0 := hc 0 (by omega)
      have hspot : spot = none := by simpa [Addr.add] using World.cell?_spot hc0
      subst hspot
      have hob : ∃ o, w.heap[b]? = some o := by
        rw [add_addr] at hc0
        simp only [World.cell?] at hc0
        split at hc0
        · exact ⟨_, by assumption⟩
        · cases hc0
      obtain ⟨o, ho⟩ := hob
      refine ⟨[im b o], zs.take len, by simp; omega, by omega, fun n hn => hw n (List.mem_of_mem_take hn), s.of_old ho, ?_⟩
      intro G w' s' i u hu
      have hb' : w'.heap[b]? = some o := s'.has (Has.im _ _ _)
      simp only [List.getElem?_map, List.getElem?_take] at hu
      split at hu
      · rename_i hi
        have hi' : i < zs.length := by omega
        rw [List.getElem?_eq_getElem hi'] at hu
        simp only [Option.map_some, Option.some.injEq] at hu
        subst hu
        refine ⟨b, off, rfl, ?_⟩
        have hi2 := hc i hi'
        rw [add_addr] at hi2
        rw [List.getD_eq_getElem?_getD, List.getElem?_eq_getElem hi', Option.getD_some] at hi2
        rw [← hi2]
        simp only [World.cell?, hb', ho]
      · cases hu
/-- What a law's walk is asked for. -/
theorem CallF.law {P : Program} {fn : FuncId} {vs : List Value} {q : List HP} {w : World} {R : Value → List HP → Prop} (h : CallF P w fn vs q (Ret R)) (hR : ∀ v q', R v q' → v = .bool true) (s : St w w q) :
    Calls P fn vs.toArray w fun e w' => e = .returned (.bool true) ∧ Below w.heap.size w w' :=
  (h [] w (by simpa using s)).mono fun e w' ⟨_, q', ⟨v, he, hv⟩, s'⟩ => ⟨by rw [he, hR v q' hv], s'.below⟩
end Wx
