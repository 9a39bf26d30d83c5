/-
  Plain program logic, part 28: arrays.
-/
import Derived.Test.YtjkkefgkhafmfaaWx27
import Derived.ChangeKeysEq
namespace Wx
open Go Go.RowKit
section
variable {P : Program} {G : World} {p : PE} {q : List HP} {d : Option Tmp} {ty : TypeId} {pos : String} {af : Array Edge} {gd : Option (Nat × Bool)} {x y : Operand} {t e : TypeId} {kd : IntKind}
/-- The address of an array's element. -/
theorem Pu.indexAddrA {b o n : Nat} {i : Int} {sz : Nat} (hx : evp p x = some (.pointer (some ⟨b, o, none⟩))) (hy : evp p y = some (.int kd i)) (ht : P.underlying t = some (.array n e)) (hs : ∀ w, (Go.sizeOf e).run P w = .ok sz w)
    (h0 : 0 ≤ i) (h1 : i < n) : Pu P p ⟨d, .indexAddr t x y, ty, pos, af, gd⟩ (.pointer (some ⟨b, o + i.toNat * sz, none⟩)) :=
  fun tm w ag => by
    have hc : 0 ≤ i ∧ i < (n : Int) := ⟨h0, h1⟩
    simp [execOp, evA_of ag hx, evA_of ag hy, Instr.indexAt, Instr.sureAddr, asIntOf, run_underlying ht, hc, hs, add_addr]
theorem eqItems_ints {k : Nat} {e : TypeId} (he : P.underlying e = some (.int kd)) (ha : ∀ w, (isAgg e).run P w = .ok false w) (xs ys : List Int) (hl : xs.length = ys.length) : ∀ (is : List Nat) (w : World), (∀ i ∈ is, i < xs.length) →
    (Op.eqItems (k + 1) e 1 (xs.map (Value.int kd)).toArray (ys.map (Value.int kd)).toArray is).run P w = .ok (is.all fun i => xs.getD i 0 == ys.getD i 0) w
  | [], w, _ => by simp [Op.eqItems]
  | i :: is, w, h => by
    have hi := h i (List.mem_cons_self ..)
    have hi2 : i < ys.length := by omega
    have hq := run_equalIn_int (P := P) w k e kd kd xs[i] ys[i] he
    simp only [Op.eqItems, Sem.run_bind, part, ha, Result.andThen_ok, Bool.false_eq_true, if_false, Nat.mul_one, List.getElem?_toArray, List.getElem?_map, List.getElem?_eq_getElem hi, List.getElem?_eq_getElem hi2, Option.map_some, Sem.run_pure, hq, List.all_cons, List.getD_eq_getElem?_getD, Option.getD_some]
    cases hb : (xs[i] == ys[i]) with
    | false => simp
    | true =>
      have := eqItems_ints (k := k) he ha xs ys hl is w (fun j hj => h j (List.mem_cons_of_mem _ hj))
      simp only [List.getD_eq_getElem?_getD] at this
      simp [this]
theorem EqV.ints {k : Nat} {n : Nat} {i : TypeInfo} (hu : P.underlying t = some (.array n e)) (hi : P.info? e = some i) (hc : P.cellsOf e = 1) (he : P.underlying e = some (.int kd)) (ha : ∀ w, (isAgg e).run P w = .ok false w) {xs ys : List Int} (hx : xs.length = n) (hy : ys.length = n) :
    EqV P (k + 2) t (.agg (xs.map (Value.int kd)).toArray) (.agg (ys.map (Value.int kd)).toArray) (decide (xs = ys)) := fun w => by
  rw [run_equalIn_array w (k + 1) _ _ hu hi, hc, eqItems_ints he ha xs ys (by omega) _ w (fun j hj => by rw [List.mem_range] at hj; omega)]
  congr 1
  rw [Bool.eq_iff_iff, decide_eq_true_iff, List.all_eq_true]
  constructor
  · intro h
    refine List.ext_getElem (by omega) fun j h1 h2 => ?_
    have := h j (List.mem_range.2 (by omega))
    simpa [List.getD_eq_getElem?_getD, List.getElem?_eq_getElem h1, List.getElem?_eq_getElem h2] using this
  · rintro rfl j _; simp
end
/-- An array of zeros. -/
theorem Pu.buildA0 {P : Program} {p : PE} {d : Option Tmp} {ty : TypeId} {pos : String} {af : Array Edge} {gd : Option (Nat × Bool)} {t e : TypeId} {n sz : Nat} {z : Array Value} (hz : ∀ w, (zeroValue t).run P w = .ok (.agg z) w) (ht : P.underlying t = some (.array n e)) (hs : ∀ w, (Go.sizeOf e).run P w = .ok sz w) :
    Pu P p ⟨d, .build t #[], ty, pos, af, gd⟩ (.agg z) := fun tm w ag => by
  simp [execOp, Instr.build, hz, run_underlying ht, hs, Value.cells, Instr.fill]
/-! of an array that is told as a list -/
theorem nth_map {α : Type} {f : α → Value} {l : List α} {n : Nat} (h : n < l.length) : nth (l.map f) n = some (f l[n]) := by rw [nth_eq]; simp [List.getElem?_eq_getElem h]
theorem setl_map {α : Type} {f : α → Value} (l : List α) (n : Nat) (x : α) : setl (l.map f) n (f x) = (l.set n x).map f := by rw [setl_eq, List.map_set]
end Wx
