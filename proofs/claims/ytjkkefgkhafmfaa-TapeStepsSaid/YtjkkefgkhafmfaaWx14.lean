/-
  Plain program logic, part 14: functions compared with nil, conversions of bytes, make, copy, typed asserts.
-/
import Derived.Test.YtjkkefgkhafmfaaWx13
namespace Wx
open Go Go.RowKit
set_option linter.unusedVariables false
set_option linter.unusedSimpArgs false
section
variable {P : Program} {G : World} {p : PE} {q r : List HP} {d : Option Tmp} {ty : TypeId} {pos : String} {af : Array Edge} {gd : Option (Nat × Bool)} {x y : Operand} {t t' e : TypeId} {kd ky : IntKind} {m n : Int}
theorem Pu.eqlFNil {u v : Array TypeId} {b : Bool} {fn : Fn} {l m : Array Value} (hx : evp p x = some (.func fn l m)) (ht : P.underlying t = some (.func u v b)) :
    Pu P p ⟨d, .binOp .eql t x (.const .nilFunc) t', ty, pos, af, gd⟩ (.bool false) := fun tm w ag => by
  have he : (Op.equal t (.func fn l m) .nilFunc).run P w = .ok false w := eqlFNil_ 9999 ht fn l m w
  have hn : evA tm (.const .nilFunc) = .nilFunc := rfl
  simp [execOp, evA_of ag hx, hn, eqGuard, Go.binOp, he]
theorem Pu.neqFNil {u v : Array TypeId} {b : Bool} {fn : Fn} {l m : Array Value} (hx : evp p x = some (.func fn l m)) (ht : P.underlying t = some (.func u v b)) :
    Pu P p ⟨d, .binOp .neq t x (.const .nilFunc) t', ty, pos, af, gd⟩ (.bool true) := fun tm w ag => by
  have he : (Op.equal t (.func fn l m) .nilFunc).run P w = .ok false w := eqlFNil_ 9999 ht fn l m w
  have hn : evA tm (.const .nilFunc) = .nilFunc := rfl
  simp [execOp, evA_of ag hx, hn, eqGuard, Go.binOp, he]
theorem wu8 (n : Int) : IntKind.u8.wrap n = n % 256 := by simp [IntKind.wrap, IntKind.bits, IntKind.signed]
theorem wu32 (n : Int) : IntKind.u32.wrap n = n % 4294967296 := by simp [IntKind.wrap, IntKind.bits, IntKind.signed]
theorem wu64 (n : Int) : IntKind.u64.wrap n = n % 18446744073709551616 := by simp [IntKind.wrap, IntKind.bits, IntKind.signed]
/-- []byte of bytes that stand in a literal: its block is marked, its cells stay. -/
theorem Ef.convSame {g n : Nat} {vs : List Value} (hx : evp p x = some (.slice (some ⟨g, 0, none⟩) n n)) (hs : P.underlying t = some (.slice e)) (he : P.underlying e = some (.int .u8)) (hq : Le q (slH (some ⟨g, 0, none⟩) n e 1 n vs :: r)) (h0 : Nat.blt 0 n = true) :
    Ef P G p q ⟨d, .convert t t x, ty, pos, af, gd⟩ fun v q' => v = .slice (some ⟨g, 0, none⟩) n n ∧ q' = im g (.cells vs.toArray e (n, n + 1)) :: r := by
  intro tm w ag s
  obtain ⟨h1, h2 | ⟨g', cur, q1, q2, q3, q4, q5, s'⟩⟩ := (s.le hq).slH_elim
  · cases h2.1
  · cases q1
    have hb : w.heap[g]? = some (.cells cur e (0, 0)) := s'.has (Has.pto _ _ _)
    have hcur : cur = vs.toArray := by
      have : cur.toList.length = n * 1 := by rw [← q4]; simp
      rw [List.take_of_length_le (by omega)] at q5
      rw [← q5]
    have hsh : w.shape? g = some (e, n) := by simp [World.shape?, hb, q4]
    have hlt : g < w.heap.size := (Array.getElem?_eq_some_iff.1 hb).1
    refine ⟨_, w.freeze ⟨g, n, none⟩ 1, _, .inl ?_, ?_, rfl, rfl⟩
    · simp [execOp, evA_of ag hx, convert, run_underlying hs, run_underlying he, markStringish, hsh]
    · refine (s'.put (o' := .cells vs.toArray e (n, n + 1)) (w' := w.freeze ⟨g, n, none⟩ 1) ?_ ?_ ?_ rfl rfl rfl).freeze
      · simp only [World.freeze]
        rw [if_neg (by decide)]
        simp [Array.getElem?_modify, hb, hcur]
      · intro k hk
        simp only [World.freeze]
        rw [if_neg (by decide)]
        simp only [Array.getElem?_modify]
        rw [if_neg (fun h => hk h.symm)]
      · simp only [World.freeze]
        rw [if_neg (by decide)]
        simp
theorem Sees.im {b : Nat} {cs : List Value} {z : Nat × Nat} (q : List HP) : Sees (im b (.cells cs.toArray e z) :: q) (some ⟨b, 0, none⟩) cs := by
  intro G w s i u hu
  refine ⟨b, 0, rfl, ?_⟩
  have hb := s.has (Has.im b (.cells cs.toArray e z) q)
  simp [World.cell?, hb, hu]
/-- make([]T, n) -/
theorem Ef.make {z : Value} {bytes sz n : Nat} (hx : evp p x = some (.int kd n)) (hy : evp p y = some (.int ky n)) (ht : P.underlying t = some (.slice e)) (hi : (P.info? e).map (fun i => (i.zero, i.size, i.bytes)) = some (some z, sz, bytes)) (hz : z.cells.size = sz) (hsz : Nat.blt 0 sz = true)
    (hby : bytes * n ≤ 140737488355328) (hn : n ≤ 9223372036854775807) :
    Ef P G p q ⟨d, .makeSlice t x y, ty, pos, af, gd⟩ fun v q' => ∃ g, v = .slice (some ⟨g, 0, none⟩) n n ∧ q' = slH (some ⟨g, 0, none⟩) n e sz n ((List.replicate n z.cells.toList).flatten) :: q := by
  obtain ⟨I, hI, e1, e2, e3⟩ := info_parts hi
  subst e2; subst e3
  have hsz' : 0 < I.size := by simpa [Nat.blt_eq] using hsz
  intro tm w ag s
  have hr := run_make (P := P) w t e I z ht hI e1 kd ky (n : Int) (n : Int) (by omega) (Int.le_refl _) (by omega) (by omega)
  simp only [Int.toNat_natCast] at hr
  refine ⟨_, w.alloc (.cells (madeCells z.cells (n * I.size)) e), _, .inl ?_, ?_, w.heap.size, rfl, rfl⟩
  · simp [execOp, evA_of ag hx, evA_of ag hy, hr]
  · have s2 : St G (w.alloc (.cells (madeCells z.cells (n * I.size)) e)) (pto w.heap.size (.cells (madeCells z.cells (n * I.size)) e (0, 0)) :: q) := s.new rfl rfl rfl rfl
    refine s2.le (Le.slH_intro (Nat.le_refl _) (by simpa [maxLen] using hn) (size_madeCells _ _) ?_ q)
    have : (madeCells z.cells (n * I.size)).toList = (List.replicate n z.cells.toList).flatten := by
      apply List.ext_getElem?
      intro i
      have hlen : ((List.replicate n z.cells.toList).flatten).length = n * I.size := by simp [hz]
      rcases Nat.lt_or_ge i (n * I.size) with h | h
      · have hm : i % I.size < I.size := Nat.mod_lt _ hsz'
        have hd : i / I.size < n := by rw [Nat.div_lt_iff_lt_mul hsz']; exact h
        have h1 := get_flatMap (f := fun (l : List Value) => z.cells.toList) (sz := I.size) (fun _ => by simp [hz]) (List.replicate n ([] : List Value)) (i / I.size) (i % I.size) [] hm (by simp [hd])
        have h2 : (List.replicate n ([] : List Value)).flatMap (fun _ => z.cells.toList) = (List.replicate n z.cells.toList).flatten := by
          simp [List.flatMap, List.map_replicate]
        rw [h2, Nat.mul_comm, Nat.div_add_mod] at h1
        rw [h1]
        simp [madeCells, h, hz]
        rw [getElem!_pos z.cells _ (by rw [hz]; exact hm)]
        simp [hm, hz]
      · rw [List.getElem?_eq_none (by simp [madeCells]; exact h), List.getElem?_eq_none (by rw [hlen]; exact h)]
    rw [this, List.take_of_length_le (by simp [hz])]
/-- x.(T), ok: of what is of the type. -/
theorem Pu.assertT {D : TypeDesc} {xt : TypeId} {v : Value} (hx : evp p x = some (.iface t v)) (ht : P.underlying t = some D) (hD : (match D with | .interface _ => false | _ => true) = true) :
    Pu P p ⟨d, .typeAssert x xt t true, ty, pos, af, gd⟩ (.tuple [v, .bool true].toArray) := fun tm w ag => by
  simp only [execOp, evA_of ag hx, Instr.typeAssert, Sem.run_bind, run_underlying ht, Result.andThen_ok]
  cases D <;> first | (cases hD; done) | simp
theorem Pu.assertN {D : TypeDesc} {xt : TypeId} {z : Value} (hx : evp p x = some .nilIface) (ht : P.underlying t = some D) (hD : (match D with | .interface _ => false | _ => true) = true) (hz : ∀ w, (zeroValue t).run P w = .ok z w) :
    Pu P p ⟨d, .typeAssert x xt t true, ty, pos, af, gd⟩ (.tuple [z, .bool false].toArray) := fun tm w ag => by
  simp only [execOp, evA_of ag hx, Instr.typeAssert, Sem.run_bind, run_underlying ht, Result.andThen_ok]
  cases D <;> first | (cases hD; done) | simp [hz]
end
end Wx
