/- What functions of package log, of its references and of its laws do: contracts of calls, proved by walking their code. -/
import Derived.Test.YtiehcgmbkjdagaaRows
import Derived.Test.YtiehcgmbkjdagaaWx15
import Derived.KernelRfl
set_option maxRecDepth 100000
set_option linter.unusedVariables false
set_option linter.unusedSimpArgs false
namespace Go.Proofs.Ytiehcgmbkjdagaa
open Go Go.RowKit Wx

theorem Try.info5 : (Try.prog.info? 5).map (fun i => (i.zero, i.size, i.bytes)) = some (some (.int .u8 0), 1, 1) := by kernel_rfl
theorem Try.info3 : (Try.prog.info? 3).map (fun i => (i.zero, i.size, i.bytes)) = some (some (.int .i64 0), 1, 8) := by kernel_rfl
theorem Try.info2 : (Try.prog.info? 2).map (fun i => (i.zero, i.size, i.bytes)) = some (some (.int .i64 0), 1, 8) := by kernel_rfl
theorem Try.info57 : (Try.prog.info? 57).map (fun i => (i.zero, i.size, i.bytes)) = some (some (.agg #[.int .i64 0, .int .i64 0]), 2, 16) := by kernel_rfl
theorem Try.info29 : (Try.prog.info? 29).map (fun i => (i.zero, i.size, i.bytes)) = some (some (.agg #[.int .u32 0, .slice none 0 0, .int .i64 0, .int .i64 0, .int .i64 0, .int .i64 0]), 6, 64) := by kernel_rfl
theorem Try.mixed : Try.prog.follows .mixedOrders = true := by kernel_rfl
/-! ### what was taken, as plain data -/
abbrev Turn := Int × Int
abbrev Outc := Int × Int × Int × Int
structure Tkn where
  hash : Int
  turns : List Turn
  e : Outc
def tcs (x : Turn) : List Value := [.int .i64 x.1, .int .i64 x.2]
def ocs (x : Outc) : List Value := [.int .i64 x.1, .int .i64 x.2.1, .int .i64 x.2.2.1, .int .i64 x.2.2.2]
def Tkn.cs (t : Tkn) (a : Option Addr) (c : Nat) : List Value := [.int .u32 t.hash, .slice a t.turns.length c, .int .i64 t.e.1, .int .i64 t.e.2.1, .int .i64 t.e.2.2.1, .int .i64 t.e.2.2.2]
def Tkn.v (t : Tkn) (a : Option Addr) (c : Nat) : Value := .agg (t.cs a c).toArray
def okE (o : Outc) : Prop := (1 ≤ o.1 ∧ o.1 ≤ 3 ∧ o.2.1 = 0 ∧ o.2.2.1 = 0 ∧ o.2.2.2 = 0) ∨ (o.1 = 4 ∧ 1 ≤ o.2.1 ∧ o.2.1 ≤ 5 ∧ 0 ≤ o.2.2.1 ∧ o.2.2.1 ≤ 7 ∧ 0 ≤ o.2.2.2 ∧ o.2.2.2 ≤ 511)
instance (o : Outc) : Decidable (okE o) := by unfold okE; infer_instance
def goT : Option Int → Int → List Turn → Prop
  | _, _, [] => True
  | p, s, x :: r => (0 ≤ x.1 ∧ x.1 ≤ 7 ∧ 1 ≤ x.2 ∧ s + x.2 ≤ 2147483647 ∧ p ≠ some x.1) ∧ goT (some x.1) (s + x.2) r
instance goT.dec : (p : Option Int) → (s : Int) → (l : List Turn) → Decidable (goT p s l)
  | _, _, [] => .isTrue trivial
  | p, s, x :: r => have := goT.dec (some x.1) (s + x.2) r; by unfold goT; infer_instance
def okT (t : Tkn) : Prop := t.turns.length ≤ 65536 ∧ okE t.e ∧ goT none 0 t.turns
instance (t : Tkn) : Decidable (okT t) := by unfold okT; infer_instance
def chk (t : Tkn) : Int := if okT t then 0 else 2
def prevT (l : List Turn) (n : Nat) : Option Int := if n = 0 then none else (l[n - 1]?).map (·.1)
theorem goT_end {l : List Turn} {n : Nat} {p : Option Int} {s : Int} (h : l.length ≤ n) : goT p s (l.drop n) := by rw [List.drop_eq_nil_of_le h]; trivial
theorem goT_step {l : List Turn} {n : Nat} {p : Option Int} {s : Int} (h : n < l.length) : goT p s (l.drop n) ↔ (0 ≤ l[n].1 ∧ l[n].1 ≤ 7 ∧ 1 ≤ l[n].2 ∧ s + l[n].2 ≤ 2147483647 ∧ p ≠ some l[n].1) ∧ goT (prevT l (n + 1)) (s + l[n].2) (l.drop (n + 1)) := by
  rw [List.drop_eq_getElem_cons h]
  simp [goT, prevT, h]
theorem prevT_pos {l : List Turn} {n : Nat} (h : n < l.length) (h0 : 0 < n) : prevT l n = some (l[n - 1]'(by omega)).1 := by
  simp [prevT, Nat.ne_of_gt h0, List.getElem?_eq_getElem (show n - 1 < l.length by omega)]
theorem prevT_zero (l : List Turn) : prevT l 0 = none := rfl
section
variable {G : World} {q : List HP} {t : Tkn} {a : Option Addr} {c : Nat}

theorem num_ok (n : Int) : CallF Try.prog G 15 [.int .i64 n] [] (Ret fun v q' => v = .int .i64 n ∧ q' = []) := by
  refine CallF.of Try.func15 Try.ntmps15 rfl (fun F cs => ?_)
  refine X.sub (p' := [(0, _)]) ⟨rfl, trivial⟩ ?_
  refine X.seq ?_
  refine X.region ?_
  refine XO.pu (Pu.assign rfl) ?_
  refine XO.nil ?_
  refine X.sub (p' := [(2, _), (0, _)]) ⟨rfl, rfl, trivial⟩ ?_
  refine X.seq ?_
  refine X.region ?_
  refine XO.pu (Pu.move rfl) ?_
  refine XO.pu (Pu.assign rfl) ?_
  refine XO.nil ?_
  refine X.sub (p' := [(2, _)]) ⟨rfl, trivial⟩ ?_
  refine X.retL [] Try.func15 (res1 Try.results15 rfl) ⟨_, rfl, rfl, rfl⟩
theorem within64_ok (n l m : Int) : CallF Try.prog G 31 [.int .i64 n, .int .i64 l, .int .i64 m] [] (Ret fun v q' => v = .bool (decide (l ≤ n ∧ n ≤ m)) ∧ q' = []) := by
  refine CallF.of Try.func31 Try.ntmps31 rfl (fun F cs => ?_)
  refine X.sub (p' := [(0, _), (1, _), (2, _)]) ⟨rfl, rfl, rfl, trivial⟩ ?_
  refine X.seq ?_
  refine X.region ?_
  refine XO.pu (Pu.assign rfl) ?_
  refine XO.nil ?_
  refine X.sub (p' := [(6, _), (0, _), (1, _), (2, _)]) ⟨rfl, rfl, rfl, rfl, trivial⟩ ?_
  refine X.seq ?_
  refine X.region ?_
  refine XO.pu (Pu.move rfl) ?_
  refine XO.pu (Pu.move rfl) ?_
  refine XO.pu (Pu.geq rfl rfl) ?_
  refine XO.pu (Pu.move rfl) ?_
  refine XO.sub (p' := [(10, _), (6, _), (0, _), (2, _)]) ⟨rfl, rfl, rfl, rfl, trivial⟩ ?_
  apply XO.cutAnd 4 14 10 rfl
  · skip
    intro g1 M1; have h1 := g1; try simp only [decide_eq_true_eq, decide_eq_false_iff_not, bne_iff_ne, beq_iff_eq, ne_eq, bne_eq_false_iff_eq, beq_eq_false_iff_ne, Bool.not_eq_true', Bool.not_eq_false', Int.not_lt, Int.not_le, Bool.not_not, Bool.and_eq_true, Bool.and_eq_false_iff, Bool.true_and, Bool.and_true, beq_self_eq_true, Bool.or_eq_true, Bool.or_eq_false_iff] at h1
    refine XO.pu (Pu.move rfl) ?_
    refine XO.pu (Pu.move rfl) ?_
    refine XO.pu (Pu.leq rfl rfl) ?_
    refine XO.pu (Pu.pickT rfl rfl) ?_
    exact XO.fin M1 ⟨andT g1, congrArg (fun x => some (Value.bool x)) g1.symm, rfl, rfl, rfl, trivial⟩
  · skip
    intro g1 M1; have h1 := g1; try simp only [decide_eq_true_eq, decide_eq_false_iff_not, bne_iff_ne, beq_iff_eq, ne_eq, bne_eq_false_iff_eq, beq_eq_false_iff_ne, Bool.not_eq_true', Bool.not_eq_false', Int.not_lt, Int.not_le, Bool.not_not, Bool.and_eq_true, Bool.and_eq_false_iff, Bool.true_and, Bool.and_true, beq_self_eq_true, Bool.or_eq_true, Bool.or_eq_false_iff] at h1
    refine XO.pass rfl ?_
    refine XO.pass rfl ?_
    refine XO.pass rfl ?_
    refine XO.pu (Pu.pickF rfl rfl) ?_
    exact XO.fin M1 ⟨andF g1, congrArg (fun x => some (Value.bool x)) g1.symm, rfl, rfl, rfl, trivial⟩
  · skip
    refine XO.pu (Pu.assign rfl) ?_
    refine XO.nil ?_
    refine X.sub (p' := [(6, _)]) ⟨rfl, trivial⟩ ?_
    refine X.retL [] Try.func31 (res1 Try.results31 rfl) ⟨_, rfl, congrArg Value.bool (by simp; try omega), rfl⟩
theorem within_ok (n l m : Int) : CallF Try.prog G 39 [.int .i64 n, .int .i64 l, .int .i64 m] [] (Ret fun v q' => v = .bool (decide (l ≤ n ∧ n ≤ m)) ∧ q' = []) := by
  refine CallF.of Try.func39 Try.ntmps39 rfl (fun F cs => ?_)
  refine X.sub (p' := [(0, _), (1, _), (2, _)]) ⟨rfl, rfl, rfl, trivial⟩ ?_
  refine X.seq ?_
  refine X.region ?_
  refine XO.pu (Pu.assign rfl) ?_
  refine XO.nil ?_
  refine X.sub (p' := [(6, _), (0, _), (1, _), (2, _)]) ⟨rfl, rfl, rfl, rfl, trivial⟩ ?_
  refine X.seq ?_
  refine X.region ?_
  refine XO.pu (Pu.move rfl) ?_
  refine XO.pu (Pu.move rfl) ?_
  refine XO.pu (Pu.leq rfl rfl) ?_
  refine XO.pu (Pu.move rfl) ?_
  refine XO.sub (p' := [(10, _), (6, _), (0, _), (2, _)]) ⟨rfl, rfl, rfl, rfl, trivial⟩ ?_
  apply XO.cutAnd 4 14 10 rfl
  · skip
    intro g1 M1; have h1 := g1; try simp only [decide_eq_true_eq, decide_eq_false_iff_not, bne_iff_ne, beq_iff_eq, ne_eq, bne_eq_false_iff_eq, beq_eq_false_iff_ne, Bool.not_eq_true', Bool.not_eq_false', Int.not_lt, Int.not_le, Bool.not_not, Bool.and_eq_true, Bool.and_eq_false_iff, Bool.true_and, Bool.and_true, beq_self_eq_true, Bool.or_eq_true, Bool.or_eq_false_iff] at h1
    refine XO.pu (Pu.move rfl) ?_
    refine XO.pu (Pu.move rfl) ?_
    refine XO.pu (Pu.leq rfl rfl) ?_
    refine XO.pu (Pu.pickT rfl rfl) ?_
    exact XO.fin M1 ⟨andT g1, congrArg (fun x => some (Value.bool x)) g1.symm, rfl, rfl, rfl, trivial⟩
  · skip
    intro g1 M1; have h1 := g1; try simp only [decide_eq_true_eq, decide_eq_false_iff_not, bne_iff_ne, beq_iff_eq, ne_eq, bne_eq_false_iff_eq, beq_eq_false_iff_ne, Bool.not_eq_true', Bool.not_eq_false', Int.not_lt, Int.not_le, Bool.not_not, Bool.and_eq_true, Bool.and_eq_false_iff, Bool.true_and, Bool.and_true, beq_self_eq_true, Bool.or_eq_true, Bool.or_eq_false_iff] at h1
    refine XO.pass rfl ?_
    refine XO.pass rfl ?_
    refine XO.pass rfl ?_
    refine XO.pu (Pu.pickF rfl rfl) ?_
    exact XO.fin M1 ⟨andF g1, congrArg (fun x => some (Value.bool x)) g1.symm, rfl, rfl, rfl, trivial⟩
  · skip
    refine XO.pu (Pu.assign rfl) ?_
    refine XO.nil ?_
    refine X.sub (p' := [(6, _)]) ⟨rfl, trivial⟩ ?_
    refine X.retL [] Try.func39 (res1 Try.results39 rfl) ⟨_, rfl, congrArg Value.bool (by simp; try omega), rfl⟩
theorem withinT_ok (n l m : Int) : CallF Try.prog G 47 [.int .i64 n, .int .i64 l, .int .i64 m] [] (Ret fun v q' => v = .bool (decide (l ≤ n ∧ n ≤ m)) ∧ q' = []) := by
  refine CallF.of Try.func47 Try.ntmps47 rfl (fun F cs => ?_)
  refine X.sub (p' := [(0, _), (1, _), (2, _)]) ⟨rfl, rfl, rfl, trivial⟩ ?_
  refine X.seq ?_
  refine X.region ?_
  refine XO.pu (Pu.assign rfl) ?_
  refine XO.nil ?_
  refine X.sub (p' := [(6, _), (0, _), (1, _), (2, _)]) ⟨rfl, rfl, rfl, rfl, trivial⟩ ?_
  refine X.seq ?_
  refine X.region ?_
  refine XO.pu (Pu.move rfl) ?_
  refine XO.pu (Pu.move rfl) ?_
  refine XO.pu (Pu.leq rfl rfl) ?_
  refine XO.pu (Pu.move rfl) ?_
  refine XO.sub (p' := [(10, _), (6, _), (0, _), (2, _)]) ⟨rfl, rfl, rfl, rfl, trivial⟩ ?_
  apply XO.cutAnd 4 14 10 rfl
  · skip
    intro g1 M1; have h1 := g1; try simp only [decide_eq_true_eq, decide_eq_false_iff_not, bne_iff_ne, beq_iff_eq, ne_eq, bne_eq_false_iff_eq, beq_eq_false_iff_ne, Bool.not_eq_true', Bool.not_eq_false', Int.not_lt, Int.not_le, Bool.not_not, Bool.and_eq_true, Bool.and_eq_false_iff, Bool.true_and, Bool.and_true, beq_self_eq_true, Bool.or_eq_true, Bool.or_eq_false_iff] at h1
    refine XO.pu (Pu.move rfl) ?_
    refine XO.pu (Pu.move rfl) ?_
    refine XO.pu (Pu.leq rfl rfl) ?_
    refine XO.pu (Pu.pickT rfl rfl) ?_
    exact XO.fin M1 ⟨andT g1, congrArg (fun x => some (Value.bool x)) g1.symm, rfl, rfl, rfl, trivial⟩
  · skip
    intro g1 M1; have h1 := g1; try simp only [decide_eq_true_eq, decide_eq_false_iff_not, bne_iff_ne, beq_iff_eq, ne_eq, bne_eq_false_iff_eq, beq_eq_false_iff_ne, Bool.not_eq_true', Bool.not_eq_false', Int.not_lt, Int.not_le, Bool.not_not, Bool.and_eq_true, Bool.and_eq_false_iff, Bool.true_and, Bool.and_true, beq_self_eq_true, Bool.or_eq_true, Bool.or_eq_false_iff] at h1
    refine XO.pass rfl ?_
    refine XO.pass rfl ?_
    refine XO.pass rfl ?_
    refine XO.pu (Pu.pickF rfl rfl) ?_
    exact XO.fin M1 ⟨andF g1, congrArg (fun x => some (Value.bool x)) g1.symm, rfl, rfl, rfl, trivial⟩
  · skip
    refine XO.pu (Pu.assign rfl) ?_
    refine XO.nil ?_
    refine X.sub (p' := [(6, _)]) ⟨rfl, trivial⟩ ?_
    refine X.retL [] Try.func47 (res1 Try.results47 rfl) ⟨_, rfl, congrArg Value.bool (by simp; try omega), rfl⟩
theorem threadMay_ok (n : Int) : CallF Try.prog G 37 [.int .i64 n] [] (Ret fun v q' => v = .bool (decide (0 ≤ n ∧ n ≤ 7)) ∧ q' = []) := by
  refine CallF.of Try.func37 Try.ntmps37 rfl (fun F cs => ?_)
  refine X.sub (p' := [(0, _)]) ⟨rfl, trivial⟩ ?_
  refine X.seq ?_
  refine X.region ?_
  refine XO.pu (Pu.assign rfl) ?_
  refine XO.nil ?_
  refine X.sub (p' := [(2, _), (0, _)]) ⟨rfl, rfl, trivial⟩ ?_
  refine X.seq ?_
  refine X.region ?_
  refine XO.pu (Pu.move rfl) ?_
  refine XO.cF Try.call39 (within_ok _ _ _) ?_
  rintro _ _ ⟨rfl, rfl⟩ _ e_; simp only [ca, na] at e_; subst e_
  refine XO.pu (Pu.assign rfl) ?_
  refine XO.nil ?_
  refine X.sub (p' := [(2, _)]) ⟨rfl, trivial⟩ ?_
  refine X.retL [] Try.func37 (res1 Try.results37 rfl) ⟨_, rfl, rfl, rfl⟩
theorem endMay_ok (x : Outc) : CallF Try.prog G 38 [.agg (ocs x).toArray] [] (Ret fun v q' => v = .bool (decide (okE x)) ∧ q' = []) := by
  refine CallF.of Try.func38 Try.ntmps38 rfl (fun F cs => ?_)
  refine X.sub (p' := [(0, _)]) ⟨rfl, trivial⟩ ?_
  obtain ⟨k, tr, th, s⟩ := x; simp only [ocs]
  refine X.seq ?_
  refine X.region ?_
  refine XO.ef (Ef.box rfl) ?_
  rintro _ _ ⟨n1, rfl, rfl⟩
  refine XO.pu (Pu.assign rfl) ?_
  refine XO.nil ?_
  refine X.sub (p' := [(2, _), (1, _)]) ⟨rfl, rfl, trivial⟩ ?_
  refine X.seq ?_
  refine X.seq ?_
  refine X.region ?_
  refine XO.pu (Pu.fieldAddr 24 0 0 rfl Try.underlying27 rfl Try.sizeOf24) ?_
  refine XO.ld Try.isAgg24 ?_
  refine XO.nil ?_
  refine X.sub (p' := [(4, _), (2, _), (1, _)]) ⟨rfl, rfl, rfl, trivial⟩ ?_
  refine X.block ?_
  refine X.seq ?_
  refine X.seq ?_
  refine X.region ?_
  refine XO.pu (Pu.eql rfl rfl) ?_
  refine XO.pu (Pu.assign rfl) ?_
  refine XO.nil ?_
  refine X.sub (p' := [(5, _), (4, _), (2, _), (1, _)]) ⟨rfl, rfl, rfl, rfl, trivial⟩ ?_
  refine X.part 5 rfl (fun h1 => ?_) (fun h1 => ?_)
  · skip
    try simp only [decide_eq_true_eq, decide_eq_false_iff_not, bne_iff_ne, beq_iff_eq, ne_eq, bne_eq_false_iff_eq, beq_eq_false_iff_ne, Bool.not_eq_true', Bool.not_eq_false', Int.not_lt, Int.not_le, Bool.not_not, Bool.and_eq_true, Bool.and_eq_false_iff, Bool.true_and, Bool.and_true, beq_self_eq_true, Bool.or_eq_true, Bool.or_eq_false_iff] at h1
    refine X.condT rfl ?_
    refine X.skip ?_
    refine X.condT rfl ?_
    refine X.seq ?_
    refine X.region ?_
    refine XO.ldA Try.isAgg27 Try.sizeOf27 ?_
    refine XO.pu (Pu.fieldAddr 24 0 0 rfl Try.underlying27 rfl Try.sizeOf24) ?_
    refine XO.ld Try.isAgg24 ?_
    refine XO.pu (Pu.build (cells := [_, _, _, _]) [(0, 1), (1, 1), (2, 1), (3, 1)] Try.zeroValue27 Try.underlying27 (by kernel_rfl) rfl rfl) ?_
    refine XO.pu (Pu.eqlA rfl rfl (by kernel_rfl) (EqV.struct Try.underlying27 (by kernel_rfl) (by kernel_rfl) ⟨_, _, _, _, rfl, rfl, Try.isAgg24, (EqV.int Try.underlying24 _ _), ⟨_, _, _, _, rfl, rfl, Try.isAgg25, (EqV.int Try.underlying25 _ _), ⟨_, _, _, _, rfl, rfl, Try.isAgg3, (EqV.int Try.underlying3 _ _), ⟨_, _, _, _, rfl, rfl, Try.isAgg3, (EqV.int Try.underlying3 _ _), rfl, rfl⟩, rfl⟩, rfl⟩, rfl⟩)) ?_
    refine XO.pu (Pu.assign rfl) ?_
    refine XO.nil ?_
    refine X.sub (p' := [(2, _)]) ⟨rfl, trivial⟩ ?_
    refine X.retL [] Try.func38 (res1 Try.results38 rfl) ⟨_, rfl, congrArg Value.bool (by rw [Bool.eq_iff_iff, decide_eq_true_iff (p := okE _)]; unfold okE; simp; try omega), rfl⟩
  · skip
    try simp only [decide_eq_true_eq, decide_eq_false_iff_not, bne_iff_ne, beq_iff_eq, ne_eq, bne_eq_false_iff_eq, beq_eq_false_iff_ne, Bool.not_eq_true', Bool.not_eq_false', Int.not_lt, Int.not_le, Bool.not_not, Bool.and_eq_true, Bool.and_eq_false_iff, Bool.true_and, Bool.and_true, beq_self_eq_true, Bool.or_eq_true, Bool.or_eq_false_iff] at h1
    refine X.condF rfl ?_
    refine X.seq ?_
    refine X.region ?_
    refine XO.pu (Pu.eql rfl rfl) ?_
    refine XO.pu (Pu.assign rfl) ?_
    refine XO.nil ?_
    refine X.sub (p' := [(5, _), (4, _), (2, _), (1, _)]) ⟨rfl, rfl, rfl, rfl, trivial⟩ ?_
    refine X.part 5 rfl (fun h2 => ?_) (fun h2 => ?_)
    · skip
      try simp only [decide_eq_true_eq, decide_eq_false_iff_not, bne_iff_ne, beq_iff_eq, ne_eq, bne_eq_false_iff_eq, beq_eq_false_iff_ne, Bool.not_eq_true', Bool.not_eq_false', Int.not_lt, Int.not_le, Bool.not_not, Bool.and_eq_true, Bool.and_eq_false_iff, Bool.true_and, Bool.and_true, beq_self_eq_true, Bool.or_eq_true, Bool.or_eq_false_iff] at h2
      refine X.condT rfl ?_
      refine X.skip ?_
      refine X.condT rfl ?_
      refine X.seq ?_
      refine X.region ?_
      refine XO.ldA Try.isAgg27 Try.sizeOf27 ?_
      refine XO.pu (Pu.fieldAddr 24 0 0 rfl Try.underlying27 rfl Try.sizeOf24) ?_
      refine XO.ld Try.isAgg24 ?_
      refine XO.pu (Pu.build (cells := [_, _, _, _]) [(0, 1), (1, 1), (2, 1), (3, 1)] Try.zeroValue27 Try.underlying27 (by kernel_rfl) rfl rfl) ?_
      refine XO.pu (Pu.eqlA rfl rfl (by kernel_rfl) (EqV.struct Try.underlying27 (by kernel_rfl) (by kernel_rfl) ⟨_, _, _, _, rfl, rfl, Try.isAgg24, (EqV.int Try.underlying24 _ _), ⟨_, _, _, _, rfl, rfl, Try.isAgg25, (EqV.int Try.underlying25 _ _), ⟨_, _, _, _, rfl, rfl, Try.isAgg3, (EqV.int Try.underlying3 _ _), ⟨_, _, _, _, rfl, rfl, Try.isAgg3, (EqV.int Try.underlying3 _ _), rfl, rfl⟩, rfl⟩, rfl⟩, rfl⟩)) ?_
      refine XO.pu (Pu.assign rfl) ?_
      refine XO.nil ?_
      refine X.sub (p' := [(2, _)]) ⟨rfl, trivial⟩ ?_
      refine X.retL [] Try.func38 (res1 Try.results38 rfl) ⟨_, rfl, congrArg Value.bool (by rw [Bool.eq_iff_iff, decide_eq_true_iff (p := okE _)]; unfold okE; simp; try omega), rfl⟩
    · skip
      try simp only [decide_eq_true_eq, decide_eq_false_iff_not, bne_iff_ne, beq_iff_eq, ne_eq, bne_eq_false_iff_eq, beq_eq_false_iff_ne, Bool.not_eq_true', Bool.not_eq_false', Int.not_lt, Int.not_le, Bool.not_not, Bool.and_eq_true, Bool.and_eq_false_iff, Bool.true_and, Bool.and_true, beq_self_eq_true, Bool.or_eq_true, Bool.or_eq_false_iff] at h2
      refine X.condF rfl ?_
      refine X.region ?_
      refine XO.pu (Pu.eql rfl rfl) ?_
      refine XO.pu (Pu.assign rfl) ?_
      refine XO.nil ?_
      refine X.sub (p' := [(5, _), (4, _), (2, _), (1, _)]) ⟨rfl, rfl, rfl, rfl, trivial⟩ ?_
      refine X.part 5 rfl (fun h3 => ?_) (fun h3 => ?_)
      · skip
        try simp only [decide_eq_true_eq, decide_eq_false_iff_not, bne_iff_ne, beq_iff_eq, ne_eq, bne_eq_false_iff_eq, beq_eq_false_iff_ne, Bool.not_eq_true', Bool.not_eq_false', Int.not_lt, Int.not_le, Bool.not_not, Bool.and_eq_true, Bool.and_eq_false_iff, Bool.true_and, Bool.and_true, beq_self_eq_true, Bool.or_eq_true, Bool.or_eq_false_iff] at h3
        refine X.condT rfl ?_
        refine X.seq ?_
        refine X.region ?_
        refine XO.ldA Try.isAgg27 Try.sizeOf27 ?_
        refine XO.pu (Pu.fieldAddr 24 0 0 rfl Try.underlying27 rfl Try.sizeOf24) ?_
        refine XO.ld Try.isAgg24 ?_
        refine XO.pu (Pu.build (cells := [_, _, _, _]) [(0, 1), (1, 1), (2, 1), (3, 1)] Try.zeroValue27 Try.underlying27 (by kernel_rfl) rfl rfl) ?_
        refine XO.pu (Pu.eqlA rfl rfl (by kernel_rfl) (EqV.struct Try.underlying27 (by kernel_rfl) (by kernel_rfl) ⟨_, _, _, _, rfl, rfl, Try.isAgg24, (EqV.int Try.underlying24 _ _), ⟨_, _, _, _, rfl, rfl, Try.isAgg25, (EqV.int Try.underlying25 _ _), ⟨_, _, _, _, rfl, rfl, Try.isAgg3, (EqV.int Try.underlying3 _ _), ⟨_, _, _, _, rfl, rfl, Try.isAgg3, (EqV.int Try.underlying3 _ _), rfl, rfl⟩, rfl⟩, rfl⟩, rfl⟩)) ?_
        refine XO.pu (Pu.assign rfl) ?_
        refine XO.nil ?_
        refine X.sub (p' := [(2, _)]) ⟨rfl, trivial⟩ ?_
        refine X.retL [] Try.func38 (res1 Try.results38 rfl) ⟨_, rfl, congrArg Value.bool (by rw [Bool.eq_iff_iff, decide_eq_true_iff (p := okE _)]; unfold okE; simp; try omega), rfl⟩
      · skip
        try simp only [decide_eq_true_eq, decide_eq_false_iff_not, bne_iff_ne, beq_iff_eq, ne_eq, bne_eq_false_iff_eq, beq_eq_false_iff_ne, Bool.not_eq_true', Bool.not_eq_false', Int.not_lt, Int.not_le, Bool.not_not, Bool.and_eq_true, Bool.and_eq_false_iff, Bool.true_and, Bool.and_true, beq_self_eq_true, Bool.or_eq_true, Bool.or_eq_false_iff] at h3
        refine X.condF rfl ?_
        refine X.seq ?_
        refine X.region ?_
        refine XO.pu (Pu.eql rfl rfl) ?_
        refine XO.pu (Pu.assign rfl) ?_
        refine XO.nil ?_
        refine X.sub (p' := [(14, _), (2, _), (1, _)]) ⟨rfl, rfl, rfl, trivial⟩ ?_
        refine X.part 14 rfl (fun h4 => ?_) (fun h4 => ?_)
        · skip
          try simp only [decide_eq_true_eq, decide_eq_false_iff_not, bne_iff_ne, beq_iff_eq, ne_eq, bne_eq_false_iff_eq, beq_eq_false_iff_ne, Bool.not_eq_true', Bool.not_eq_false', Int.not_lt, Int.not_le, Bool.not_not, Bool.and_eq_true, Bool.and_eq_false_iff, Bool.true_and, Bool.and_true, beq_self_eq_true, Bool.or_eq_true, Bool.or_eq_false_iff] at h4
          refine X.condT rfl ?_
          refine X.seq ?_
          refine X.region ?_
          refine XO.pu (Pu.fieldAddr 25 1 0 rfl Try.underlying27 rfl Try.sizeOf25) ?_
          refine XO.ld Try.isAgg25 ?_
          refine XO.cF Try.call47 (withinT_ok _ _ _) ?_
          rintro _ _ ⟨rfl, rfl⟩ _ e_; simp only [ca, na] at e_; subst e_
          refine XO.pu (Pu.move rfl) ?_
          refine XO.sub (p' := [(19, _), (2, _), (1, _)]) ⟨rfl, rfl, rfl, trivial⟩ ?_
          apply XO.cutAnd 4 23 19 rfl
          · skip
            intro g5 M5; have h5 := g5; try simp only [decide_eq_true_eq, decide_eq_false_iff_not, bne_iff_ne, beq_iff_eq, ne_eq, bne_eq_false_iff_eq, beq_eq_false_iff_ne, Bool.not_eq_true', Bool.not_eq_false', Int.not_lt, Int.not_le, Bool.not_not, Bool.and_eq_true, Bool.and_eq_false_iff, Bool.true_and, Bool.and_true, beq_self_eq_true, Bool.or_eq_true, Bool.or_eq_false_iff] at h5
            refine XO.pu (Pu.fieldAddr 3 2 0 rfl Try.underlying27 rfl Try.sizeOf3) ?_
            refine XO.ld Try.isAgg3 ?_
            refine XO.cF Try.call37 (threadMay_ok _) ?_
            rintro _ _ ⟨rfl, rfl⟩ _ e_; simp only [ca, na] at e_; subst e_
            refine XO.pu (Pu.pickT rfl rfl) ?_
            exact XO.fin M5 ⟨andT g5, congrArg (fun x => some (Value.bool x)) g5.symm, rfl, rfl, trivial⟩
          · skip
            intro g5 M5; have h5 := g5; try simp only [decide_eq_true_eq, decide_eq_false_iff_not, bne_iff_ne, beq_iff_eq, ne_eq, bne_eq_false_iff_eq, beq_eq_false_iff_ne, Bool.not_eq_true', Bool.not_eq_false', Int.not_lt, Int.not_le, Bool.not_not, Bool.and_eq_true, Bool.and_eq_false_iff, Bool.true_and, Bool.and_true, beq_self_eq_true, Bool.or_eq_true, Bool.or_eq_false_iff] at h5
            refine XO.pass rfl ?_
            refine XO.pass rfl ?_
            refine XO.pass rfl ?_
            refine XO.pu (Pu.pickF rfl rfl) ?_
            exact XO.fin M5 ⟨andF g5, congrArg (fun x => some (Value.bool x)) g5.symm, rfl, rfl, trivial⟩
          · skip
            refine XO.pu (Pu.move rfl) ?_
            refine XO.sub (p' := [(24, _), (2, _), (1, _)]) ⟨rfl, rfl, rfl, trivial⟩ ?_
            apply XO.cutAnd 4 28 24 rfl
            · skip
              intro g5 M5; have h5 := g5; try simp only [decide_eq_true_eq, decide_eq_false_iff_not, bne_iff_ne, beq_iff_eq, ne_eq, bne_eq_false_iff_eq, beq_eq_false_iff_ne, Bool.not_eq_true', Bool.not_eq_false', Int.not_lt, Int.not_le, Bool.not_not, Bool.and_eq_true, Bool.and_eq_false_iff, Bool.true_and, Bool.and_true, beq_self_eq_true, Bool.or_eq_true, Bool.or_eq_false_iff] at h5
              refine XO.pu (Pu.fieldAddr 3 3 0 rfl Try.underlying27 rfl Try.sizeOf3) ?_
              refine XO.ld Try.isAgg3 ?_
              refine XO.cF Try.call39 (within_ok _ _ _) ?_
              rintro _ _ ⟨rfl, rfl⟩ _ e_; simp only [ca, na] at e_; subst e_
              refine XO.pu (Pu.pickT rfl rfl) ?_
              exact XO.fin M5 ⟨andT g5, congrArg (fun x => some (Value.bool x)) g5.symm, rfl, rfl, trivial⟩
            · skip
              intro g5 M5; have h5 := g5; try simp only [decide_eq_true_eq, decide_eq_false_iff_not, bne_iff_ne, beq_iff_eq, ne_eq, bne_eq_false_iff_eq, beq_eq_false_iff_ne, Bool.not_eq_true', Bool.not_eq_false', Int.not_lt, Int.not_le, Bool.not_not, Bool.and_eq_true, Bool.and_eq_false_iff, Bool.true_and, Bool.and_true, beq_self_eq_true, Bool.or_eq_true, Bool.or_eq_false_iff] at h5
              refine XO.pass rfl ?_
              refine XO.pass rfl ?_
              refine XO.pass rfl ?_
              refine XO.pu (Pu.pickF rfl rfl) ?_
              exact XO.fin M5 ⟨andF g5, congrArg (fun x => some (Value.bool x)) g5.symm, rfl, rfl, trivial⟩
            · skip
              refine XO.pu (Pu.assign rfl) ?_
              refine XO.nil ?_
              refine X.sub (p' := [(2, _)]) ⟨rfl, trivial⟩ ?_
              refine X.retL [] Try.func38 (res1 Try.results38 rfl) ⟨_, rfl, congrArg Value.bool (by rw [Bool.eq_iff_iff, decide_eq_true_iff (p := okE _)]; unfold okE; simp; try omega), rfl⟩
        · skip
          try simp only [decide_eq_true_eq, decide_eq_false_iff_not, bne_iff_ne, beq_iff_eq, ne_eq, bne_eq_false_iff_eq, beq_eq_false_iff_ne, Bool.not_eq_true', Bool.not_eq_false', Int.not_lt, Int.not_le, Bool.not_not, Bool.and_eq_true, Bool.and_eq_false_iff, Bool.true_and, Bool.and_true, beq_self_eq_true, Bool.or_eq_true, Bool.or_eq_false_iff] at h4
          refine X.condF rfl ?_
          refine X.skip ?_
          refine X.inBlock ?_
          refine X.seq ?_
          refine X.region ?_
          refine XO.pu (Pu.assign rfl) ?_
          refine XO.nil ?_
          refine X.sub (p' := [(2, _)]) ⟨rfl, trivial⟩ ?_
          refine X.retL [] Try.func38 (res1 Try.results38 rfl) ⟨_, rfl, congrArg Value.bool (by rw [Bool.eq_iff_iff, decide_eq_true_iff (p := okE _)]; unfold okE; simp; try omega), rfl⟩
set_option maxHeartbeats 1000000 in
theorem Check_ok (hs : Sees q a (t.turns.flatMap tcs)) : CallF Try.prog G 26 [t.v a c] q (Ret fun v q' => v = .int .i64 (chk t) ∧ q' = q) := by
  refine CallF.of Try.func26 Try.ntmps26 rfl (fun F cs => ?_)
  refine X.sub (p' := [(0, _)]) ⟨rfl, trivial⟩ ?_
  unfold Tkn.v Tkn.cs
  refine X.seq ?_
  refine X.region ?_
  refine XO.ef (Ef.box rfl) ?_
  rintro _ _ ⟨n1, rfl, rfl⟩
  refine XO.pu (Pu.assign rfl) ?_
  refine XO.nil ?_
  refine X.sub (p' := [(2, _), (1, _)]) ⟨rfl, rfl, trivial⟩ ?_
  refine X.seq ?_
  refine X.seq ?_
  refine X.region ?_
  refine XO.pu (Pu.fieldAddr 23 1 0 rfl Try.underlying29 rfl Try.sizeOf23) ?_
  refine XO.ld Try.isAgg23 ?_
  refine XO.pu (Pu.len rfl Try.underlying23) ?_
  refine XO.pu (Pu.gtr rfl rfl) ?_
  refine XO.pu (Pu.move rfl) ?_
  refine XO.sub (p' := [(10, _), (2, _), (1, _)]) ⟨rfl, rfl, rfl, trivial⟩ ?_
  apply XO.cutOr 5 15 10 rfl
  · skip
    intro g1 M1; have h1 := g1; try simp only [decide_eq_true_eq, decide_eq_false_iff_not, bne_iff_ne, beq_iff_eq, ne_eq, bne_eq_false_iff_eq, beq_eq_false_iff_ne, Bool.not_eq_true', Bool.not_eq_false', Int.not_lt, Int.not_le, Bool.not_not, Bool.and_eq_true, Bool.and_eq_false_iff, Bool.true_and, Bool.and_true, beq_self_eq_true, Bool.or_eq_true, Bool.or_eq_false_iff] at h1
    refine XO.pu (Pu.fieldAddr 27 2 3 rfl Try.underlying29 rfl Try.sizeOf27) ?_
    refine XO.ldA Try.isAgg27 Try.sizeOf27 ?_
    refine XO.cF Try.call38 (endMay_ok t.e) ?_
    rintro _ _ ⟨rfl, rfl⟩ _ e_; simp only [ca, na] at e_; subst e_
    refine XO.pu (Pu.not rfl) ?_
    refine XO.pu (Pu.pickF rfl rfl) ?_
    exact XO.fin M1 ⟨orF g1, congrArg (fun x => some (Value.bool x)) g1.symm, rfl, rfl, trivial⟩
  · skip
    intro g1 M1; have h1 := g1; try simp only [decide_eq_true_eq, decide_eq_false_iff_not, bne_iff_ne, beq_iff_eq, ne_eq, bne_eq_false_iff_eq, beq_eq_false_iff_ne, Bool.not_eq_true', Bool.not_eq_false', Int.not_lt, Int.not_le, Bool.not_not, Bool.and_eq_true, Bool.and_eq_false_iff, Bool.true_and, Bool.and_true, beq_self_eq_true, Bool.or_eq_true, Bool.or_eq_false_iff] at h1
    refine XO.pass rfl ?_
    refine XO.pass rfl ?_
    refine XO.pass rfl ?_
    refine XO.pass rfl ?_
    refine XO.pu (Pu.pickT rfl rfl) ?_
    exact XO.fin M1 ⟨orT g1, congrArg (fun x => some (Value.bool x)) g1.symm, rfl, rfl, trivial⟩
  · skip
    refine XO.nil ?_
    refine X.sub (p' := [(15, _), (2, _), (1, _)]) ⟨rfl, rfl, rfl, trivial⟩ ?_
    refine X.part 15 rfl (fun h1 => ?_) (fun h1 => ?_)
    · skip
      try simp only [decide_eq_true_eq, decide_eq_false_iff_not, bne_iff_ne, beq_iff_eq, ne_eq, bne_eq_false_iff_eq, beq_eq_false_iff_ne, Bool.not_eq_true', Bool.not_eq_false', Int.not_lt, Int.not_le, Bool.not_not, Bool.and_eq_true, Bool.and_eq_false_iff, Bool.true_and, Bool.and_true, beq_self_eq_true, Bool.or_eq_true, Bool.or_eq_false_iff] at h1
      refine X.condT rfl ?_
      refine X.seq ?_
      refine X.region ?_
      refine XO.pu (Pu.assign rfl) ?_
      refine XO.nil ?_
      refine X.sub (p' := [(2, _), (1, _)]) ⟨rfl, rfl, trivial⟩ ?_
      refine X.retL (q) Try.func26 (res1 Try.results26 rfl) ⟨_, rfl, by rw [chk, if_neg (by unfold okT; rintro ⟨x, y, _⟩; rcases h1 with h1 | h1; omega; exact h1 y)], rfl⟩
    · skip
      try simp only [decide_eq_true_eq, decide_eq_false_iff_not, bne_iff_ne, beq_iff_eq, ne_eq, bne_eq_false_iff_eq, beq_eq_false_iff_ne, Bool.not_eq_true', Bool.not_eq_false', Int.not_lt, Int.not_le, Bool.not_not, Bool.and_eq_true, Bool.and_eq_false_iff, Bool.true_and, Bool.and_true, beq_self_eq_true, Bool.or_eq_true, Bool.or_eq_false_iff] at h1
      refine X.condF rfl ?_
      refine X.skip ?_
      refine X.seq ?_
      refine X.region ?_
      refine XO.pu (Pu.assign rfl) ?_
      refine XO.nil ?_
      refine X.sub (p' := [(3, _), (2, _), (1, _)]) ⟨rfl, rfl, rfl, trivial⟩ ?_
      refine X.seq ?_
      refine X.seq ?_
      refine X.region ?_
      refine XO.pu (Pu.fieldAddr 23 1 0 rfl Try.underlying29 rfl Try.sizeOf23) ?_
      refine XO.ld Try.isAgg23 ?_
      refine XO.pu (Pu.len rfl Try.underlying23) ?_
      refine XO.pu (Pu.move rfl) ?_
      refine XO.nil ?_
      refine X.sub (p' := [(19, _), (18, _), (17, _), (3, _), (2, _), (1, _)]) ⟨rfl, rfl, rfl, rfl, rfl, rfl, trivial⟩ ?_
      refine X.block ?_
      have hl : t.turns.length ≤ 65536 := by omega
      have he : okE t.e := h1.2
      refine X.at (X.loop (fun (s : Nat × Int) => (s.1 ≤ t.turns.length ∧ 0 ≤ s.2 ∧ s.2 ≤ 2147483647) ∧ (goT none 0 t.turns ↔ goT (prevT t.turns s.1) s.2 (t.turns.drop s.1))) (fun s => [(19, .int .i64 (s.1 : Int)), (3, .int .i64 s.2), (1, .pointer (some ⟨n1, 0, none⟩)), (17, .slice a t.turns.length c), (18, .int .i64 (t.turns.length : Int))]) (fun s => pto n1 (.cells (t.cs a c).toArray 29 (0, 0)) :: (q ++ F)) (fun s => t.turns.length - s.1) (fun s hi_ ih => ?_) (0, 0) ⟨⟨by omega, by omega, by omega⟩, by simp [prevT_zero]⟩) ⟨(by first | rfl | exact congrArg some (congrArg (Value.int _) (by omega)) | (show some _ = some _; simp; done) | (show some _ = some _; simp; omega)), (by first | rfl | exact congrArg some (congrArg (Value.int _) (by omega)) | (show some _ = some _; simp; done) | (show some _ = some _; simp; omega)), (by first | rfl | exact congrArg some (congrArg (Value.int _) (by omega)) | (show some _ = some _; simp; done) | (show some _ = some _; simp; omega)), (by first | rfl | exact congrArg some (congrArg (Value.int _) (by omega)) | (show some _ = some _; simp; done) | (show some _ = some _; simp; omega)), (by first | rfl | exact congrArg some (congrArg (Value.int _) (by omega)) | (show some _ = some _; simp; done) | (show some _ = some _; simp; omega)), trivial⟩ leA
      try dsimp only at hi_ ih ⊢
      obtain ⟨⟨hi1, hi2, hi3⟩, hg⟩ := hi_
      obtain ⟨i, s⟩ := s; dsimp only at *
      have hlen := flatMap_len (f := tcs) (sz := 2) (fun _ => rfl) t.turns
      refine X.seq ?_
      refine X.region ?_
      refine XO.pu (Pu.lss rfl rfl) ?_
      refine XO.nil ?_
      refine X.sub (p' := [(20, _), (19, _), (3, _), (1, _), (17, _), (18, _)]) ⟨rfl, rfl, rfl, rfl, rfl, rfl, trivial⟩ ?_
      refine X.seq ?_
      refine X.part 20 rfl (fun h0 => ?_) (fun h0 => ?_)
      · skip
        try simp only [decide_eq_true_eq, decide_eq_false_iff_not, bne_iff_ne, beq_iff_eq, ne_eq, bne_eq_false_iff_eq, beq_eq_false_iff_ne, Bool.not_eq_true', Bool.not_eq_false', Int.not_lt, Int.not_le, Bool.not_not, Bool.and_eq_true, Bool.and_eq_false_iff, Bool.true_and, Bool.and_true, beq_self_eq_true, Bool.or_eq_true, Bool.or_eq_false_iff] at h0
        have hi0 : i < t.turns.length := by omega
        refine X.condT rfl ?_
        refine X.skip ?_
        refine X.seq ?_
        refine X.block ?_
        refine X.seq ?_
        refine X.region ?_
        refine XO.pu (Pu.move rfl) ?_
        refine XO.adr hs (by rw [hlen]; omega) (fun b23 o23 e_ => ?_); subst e_
        refine XO.pu (Pu.indexAddr rfl rfl Try.underlying23 Try.sizeOf57 (by omega) (by omega)) ?_
        refine XO.ldS (n := i) Try.isAgg57 Try.sizeOf57 hs (by omega) ?_
        refine XO.ef (Ef.alloc Try.zeroValue57) ?_
        rintro _ _ ⟨n2, rfl, rfl⟩
        refine XO.pu (Pu.assign rfl) ?_
        refine XO.ef0 (Ef.stA Try.sizeOf57) ?_
        rintro _ _ ⟨rfl, rfl⟩
        refine XO.nil ?_
        refine X.sub (p' := [(4, _), (5, _), (19, _), (3, _), (1, _), (17, _), (18, _)]) ⟨rfl, rfl, rfl, rfl, rfl, rfl, rfl, trivial⟩ ?_
        refine X.seq ?_
        refine X.seq ?_
        refine X.draw [] Try.mixed (by kernel_rfl) (by kernel_rfl) rfl ?_
        refine XD.pu 0 rfl (Pu.fieldAddr 3 0 0 rfl Try.underlying57 rfl Try.sizeOf3) ?_
        refine XD.ld 1 Try.isAgg3 ?_
        refine XD.cF 2 Try.call37 (threadMay_ok _) ?_
        rintro _ _ ⟨rfl, rfl⟩ _ e_; simp only [ca, na] at e_; subst e_
        refine ⟨trivial, ?_⟩
        refine XD.pu 3 rfl (Pu.not rfl) ?_
        refine XD.pu 4 rfl (Pu.move rfl) ?_
        refine XD.sub (p' := [(28, _), (4, _), (5, _), (19, _), (3, _), (1, _), (17, _), (18, _)]) ⟨rfl, rfl, rfl, rfl, rfl, rfl, rfl, rfl, trivial⟩ ?_
        apply XD.cutOr 16 [0, 1, 2, 3, 4, 5, 6, 7, 8, 9, 10, 11] 35 28 rfl
        · skip
          intro g1 M1; have h1 := g1; try simp only [decide_eq_true_eq, decide_eq_false_iff_not, bne_iff_ne, beq_iff_eq, ne_eq, bne_eq_false_iff_eq, beq_eq_false_iff_ne, Bool.not_eq_true', Bool.not_eq_false', Int.not_lt, Int.not_le, Bool.not_not, Bool.and_eq_true, Bool.and_eq_false_iff, Bool.true_and, Bool.and_true, beq_self_eq_true, Bool.or_eq_true, Bool.or_eq_false_iff] at h1
          refine XD.pu 5 rfl (Pu.fieldAddr 3 1 0 rfl Try.underlying57 rfl Try.sizeOf3) ?_
          refine XD.ld 6 Try.isAgg3 ?_
          refine XD.pu 7 rfl (Pu.move rfl) ?_
          refine XD.pu 8 rfl (Pu.sub rfl rfl (by omega) (by omega)) ?_
          refine XD.cF 9 Try.call39 (within_ok _ _ _) ?_
          rintro _ _ ⟨rfl, rfl⟩ _ e_; simp only [ca, na] at e_; subst e_
          refine ⟨trivial, ?_⟩
          refine XD.pu 10 rfl (Pu.not rfl) ?_
          refine XD.pu 11 rfl (Pu.pickF rfl rfl) ?_
          exact XD.fin M1 ⟨orF g1, congrArg (fun x => some (Value.bool x)) g1.symm, rfl, rfl, rfl, rfl, rfl, rfl, rfl, trivial⟩
        · skip
          intro g1 M1; have h1 := g1; try simp only [decide_eq_true_eq, decide_eq_false_iff_not, bne_iff_ne, beq_iff_eq, ne_eq, bne_eq_false_iff_eq, beq_eq_false_iff_ne, Bool.not_eq_true', Bool.not_eq_false', Int.not_lt, Int.not_le, Bool.not_not, Bool.and_eq_true, Bool.and_eq_false_iff, Bool.true_and, Bool.and_true, beq_self_eq_true, Bool.or_eq_true, Bool.or_eq_false_iff] at h1
          refine XD.pass 5 rfl ?_
          refine XD.pass 6 rfl ?_
          refine XD.pass 7 rfl ?_
          refine XD.pass 8 rfl ?_
          refine XD.pass 9 rfl ?_
          refine XD.pass 10 rfl ?_
          refine XD.pu 11 rfl (Pu.pickT rfl rfl) ?_
          exact XD.fin M1 ⟨orT g1, congrArg (fun x => some (Value.bool x)) g1.symm, rfl, rfl, rfl, rfl, rfl, rfl, rfl, trivial⟩
        · skip
          intro L_
          refine XD.pu 12 rfl (Pu.move rfl) ?_
          refine XD.sub (p' := [(36, _), (4, _), (5, _), (19, _), (3, _), (1, _), (17, _), (18, _)]) ⟨rfl, rfl, rfl, rfl, rfl, rfl, rfl, rfl, trivial⟩ ?_
          apply XD.cutOr 0 [0, 1, 2, 3, 4, 5, 6, 7, 8, 9, 10, 11, 12, 13, 14, 15, 16, 17, 18, 19, 20, 21, 22, 23, 24, 25, 26, 27] 51 36 rfl
          · skip
            intro g1 M1; have h1 := g1; try simp only [decide_eq_true_eq, decide_eq_false_iff_not, bne_iff_ne, beq_iff_eq, ne_eq, bne_eq_false_iff_eq, beq_eq_false_iff_ne, Bool.not_eq_true', Bool.not_eq_false', Int.not_lt, Int.not_le, Bool.not_not, Bool.and_eq_true, Bool.and_eq_false_iff, Bool.true_and, Bool.and_true, beq_self_eq_true, Bool.or_eq_true, Bool.or_eq_false_iff] at h1
            refine XD.pu 13 rfl (Pu.move rfl) ?_
            refine XD.pu 14 rfl (Pu.gtr rfl rfl) ?_
            refine XD.pu 15 rfl (Pu.move rfl) ?_
            refine XD.sub (p' := [(39, _), (36, _), (4, _), (5, _), (19, _), (3, _), (1, _), (17, _), (18, _)]) ⟨rfl, rfl, rfl, rfl, rfl, rfl, rfl, rfl, rfl, trivial⟩ ?_
            apply XD.cutAnd 1 [0, 1, 2, 3, 4, 5, 6, 7, 8, 9, 10, 11, 12, 13, 14, 15, 16, 17, 18, 19, 20, 21, 22, 23, 24, 25, 26] 50 39 rfl
            · skip
              intro g2 M2; have h2 := g2; try simp only [decide_eq_true_eq, decide_eq_false_iff_not, bne_iff_ne, beq_iff_eq, ne_eq, bne_eq_false_iff_eq, beq_eq_false_iff_ne, Bool.not_eq_true', Bool.not_eq_false', Int.not_lt, Int.not_le, Bool.not_not, Bool.and_eq_true, Bool.and_eq_false_iff, Bool.true_and, Bool.and_true, beq_self_eq_true, Bool.or_eq_true, Bool.or_eq_false_iff] at h2
              refine XD.pu 16 rfl (Pu.fieldAddr 23 1 0 rfl Try.underlying29 rfl Try.sizeOf23) ?_
              refine XD.ld 17 Try.isAgg23 ?_
              refine XD.pu 18 rfl (Pu.move rfl) ?_
              refine XD.pu 19 rfl (Pu.sub rfl rfl (by omega) (by omega)) ?_
              refine XD.pu 20 rfl (Pu.indexAddr rfl rfl Try.underlying23 Try.sizeOf57 (by omega) (by omega)) ?_
              refine XD.pu 21 rfl (Pu.fieldAddr 3 0 0 rfl Try.underlying57 rfl Try.sizeOf3) ?_
              refine XD.ld 22 Try.isAgg3 ?_
              refine XD.pu 23 rfl (Pu.fieldAddr 3 0 0 rfl Try.underlying57 rfl Try.sizeOf3) ?_
              refine XD.ld 24 Try.isAgg3 ?_
              refine XD.pu 25 rfl (Pu.eql rfl rfl) ?_
              refine XD.pu 26 rfl (Pu.pickT rfl rfl) ?_
              exact XD.fin M2 ⟨andT g2, congrArg (fun x => some (Value.bool x)) g2.symm, rfl, rfl, rfl, rfl, rfl, rfl, rfl, rfl, trivial⟩
            · skip
              intro g2 M2; have h2 := g2; try simp only [decide_eq_true_eq, decide_eq_false_iff_not, bne_iff_ne, beq_iff_eq, ne_eq, bne_eq_false_iff_eq, beq_eq_false_iff_ne, Bool.not_eq_true', Bool.not_eq_false', Int.not_lt, Int.not_le, Bool.not_not, Bool.and_eq_true, Bool.and_eq_false_iff, Bool.true_and, Bool.and_true, beq_self_eq_true, Bool.or_eq_true, Bool.or_eq_false_iff] at h2
              refine XD.pass 16 rfl ?_
              refine XD.pass 17 rfl ?_
              refine XD.pass 18 rfl ?_
              refine XD.pass 19 rfl ?_
              refine XD.pass 20 rfl ?_
              refine XD.pass 21 rfl ?_
              refine XD.pass 22 rfl ?_
              refine XD.pass 23 rfl ?_
              refine XD.pass 24 rfl ?_
              refine XD.pass 25 rfl ?_
              refine XD.pu 26 rfl (Pu.pickF rfl rfl) ?_
              exact XD.fin M2 ⟨andF g2, congrArg (fun x => some (Value.bool x)) g2.symm, rfl, rfl, rfl, rfl, rfl, rfl, rfl, rfl, trivial⟩
            · skip
              intro L_
              refine XD.pu 27 rfl (Pu.pickF rfl rfl) ?_
              exact XD.fin M1 ⟨orF g1, congrArg (fun x => some (Value.bool x)) g1.symm, rfl, rfl, rfl, rfl, rfl, rfl, rfl, trivial⟩
          · skip
            intro g1 M1; have h1 := g1; try simp only [decide_eq_true_eq, decide_eq_false_iff_not, bne_iff_ne, beq_iff_eq, ne_eq, bne_eq_false_iff_eq, beq_eq_false_iff_ne, Bool.not_eq_true', Bool.not_eq_false', Int.not_lt, Int.not_le, Bool.not_not, Bool.and_eq_true, Bool.and_eq_false_iff, Bool.true_and, Bool.and_true, beq_self_eq_true, Bool.or_eq_true, Bool.or_eq_false_iff] at h1
            refine XD.pass 13 rfl ?_
            refine XD.pass 14 rfl ?_
            refine XD.pass 15 rfl ?_
            refine XD.pass 16 rfl ?_
            refine XD.pass 17 rfl ?_
            refine XD.pass 18 rfl ?_
            refine XD.pass 19 rfl ?_
            refine XD.pass 20 rfl ?_
            refine XD.pass 21 rfl ?_
            refine XD.pass 22 rfl ?_
            refine XD.pass 23 rfl ?_
            refine XD.pass 24 rfl ?_
            refine XD.pass 25 rfl ?_
            refine XD.pass 26 rfl ?_
            refine XD.pu 27 rfl (Pu.pickT rfl rfl) ?_
            exact XD.fin M1 ⟨orT g1, congrArg (fun x => some (Value.bool x)) g1.symm, rfl, rfl, rfl, rfl, rfl, rfl, rfl, trivial⟩
          · skip
            intro L_
            refine XD.nil ?_
            refine X.sub (p' := [(51, _), (5, _), (19, _), (3, _), (1, _), (17, _), (18, _)]) ⟨rfl, rfl, rfl, rfl, rfl, rfl, rfl, trivial⟩ ?_
            refine X.part 51 rfl (fun h1 => ?_) (fun h1 => ?_)
            · skip
              try simp only [decide_eq_true_eq, decide_eq_false_iff_not, bne_iff_ne, beq_iff_eq, ne_eq, bne_eq_false_iff_eq, beq_eq_false_iff_ne, Bool.not_eq_true', Bool.not_eq_false', Int.not_lt, Int.not_le, Bool.not_not, Bool.and_eq_true, Bool.and_eq_false_iff, Bool.true_and, Bool.and_true, beq_self_eq_true, Bool.or_eq_true, Bool.or_eq_false_iff] at h1
              refine X.condT rfl ?_
              refine X.seq ?_
              refine X.region ?_
              refine XO.pu (Pu.assign rfl) ?_
              refine XO.nil ?_
              refine X.sub (p' := [(2, _), (5, _), (19, _), (3, _), (1, _), (17, _), (18, _)]) ⟨rfl, rfl, rfl, rfl, rfl, rfl, rfl, trivial⟩ ?_
              have hst := goT_step (p := prevT t.turns i) (s := s) (show i < t.turns.length by omega)
              refine X.retL (q) Try.func26 (res1 Try.results26 rfl) ⟨_, rfl, by rw [chk, if_neg]; rintro ⟨_, _, g⟩; rw [hg, hst] at g; obtain ⟨⟨g1, g2, g3, g4, g5⟩, _⟩ := g; first | omega | (exact g5 (by rw [prevT_pos (by omega) (by omega)]; exact congrArg some (by omega))), rfl⟩
            · skip
              try simp only [decide_eq_true_eq, decide_eq_false_iff_not, bne_iff_ne, beq_iff_eq, ne_eq, bne_eq_false_iff_eq, beq_eq_false_iff_ne, Bool.not_eq_true', Bool.not_eq_false', Int.not_lt, Int.not_le, Bool.not_not, Bool.and_eq_true, Bool.and_eq_false_iff, Bool.true_and, Bool.and_true, beq_self_eq_true, Bool.or_eq_true, Bool.or_eq_false_iff] at h1
              refine X.condF rfl ?_
              refine X.skip ?_
              refine X.region ?_
              refine XO.pu (Pu.move rfl) ?_
              refine XO.pu (Pu.fieldAddr 3 1 0 rfl Try.underlying57 rfl Try.sizeOf3) ?_
              refine XO.ld Try.isAgg3 ?_
              refine XO.pu (Pu.add rfl rfl (by omega) (by omega)) ?_
              refine XO.pu (Pu.assign rfl) ?_
              refine XO.nil ?_
              refine X.sub (p' := [(3, _), (19, _), (1, _), (17, _), (18, _)]) ⟨rfl, rfl, rfl, rfl, rfl, trivial⟩ ?_
              refine X.inBlock ?_
              refine X.region ?_
              refine XO.pu (Pu.add rfl rfl (by omega) (by omega)) ?_
              refine XO.pu (Pu.move rfl) ?_
              refine XO.nil ?_
              refine X.sub (p' := [(19, _), (3, _), (1, _), (17, _), (18, _)]) ⟨rfl, rfl, rfl, rfl, rfl, trivial⟩ ?_
              have hst := goT_step (p := prevT t.turns i) (s := s) (show i < t.turns.length by omega)
              refine X.at (ih (i + 1, s + t.turns[i].2) ⟨⟨by dsimp only; omega, by dsimp only; omega, by dsimp only; omega⟩, hg.trans (hst.trans ⟨fun h => h.2, fun h => ⟨⟨by omega, by omega, by omega, by omega, by rcases Nat.eq_zero_or_pos i with e | e; exact (by subst e; simp [prevT_zero]); rw [prevT_pos (by omega) e]; simp only [ne_eq, Option.some.injEq]; omega⟩, h⟩⟩)⟩ (by dsimp only; omega)) ⟨(by first | rfl | exact congrArg some (congrArg (Value.int _) (by omega)) | (show some _ = some _; simp; done) | (show some _ = some _; simp; omega)), (by first | rfl | exact congrArg some (congrArg (Value.int _) (by omega)) | (show some _ = some _; simp; done) | (show some _ = some _; simp; omega)), (by first | rfl | exact congrArg some (congrArg (Value.int _) (by omega)) | (show some _ = some _; simp; done) | (show some _ = some _; simp; omega)), (by first | rfl | exact congrArg some (congrArg (Value.int _) (by omega)) | (show some _ = some _; simp; done) | (show some _ = some _; simp; omega)), (by first | rfl | exact congrArg some (congrArg (Value.int _) (by omega)) | (show some _ = some _; simp; done) | (show some _ = some _; simp; omega)), trivial⟩ leA
      · skip
        try simp only [decide_eq_true_eq, decide_eq_false_iff_not, bne_iff_ne, beq_iff_eq, ne_eq, bne_eq_false_iff_eq, beq_eq_false_iff_ne, Bool.not_eq_true', Bool.not_eq_false', Int.not_lt, Int.not_le, Bool.not_not, Bool.and_eq_true, Bool.and_eq_false_iff, Bool.true_and, Bool.and_true, beq_self_eq_true, Bool.or_eq_true, Bool.or_eq_false_iff] at h0
        refine X.condF rfl ?_
        refine X.exit rfl ?_
        refine X.seq ?_
        refine X.region ?_
        refine XO.pu (Pu.assign rfl) ?_
        refine XO.nil ?_
        refine X.sub (p' := [(2, _)]) ⟨rfl, trivial⟩ ?_
        refine X.retL (q) Try.func26 (res1 Try.results26 rfl) ⟨_, rfl, by rw [chk, if_pos ⟨hl, he, hg.2 (goT_end (by omega))⟩], rfl⟩
set_option maxHeartbeats 1000000 in
theorem RCheck_ok (hs : Sees q a (t.turns.flatMap tcs)) : CallF Try.prog G 14 [t.v a c] q (Ret fun v q' => v = .int .i64 (chk t) ∧ q' = q) := by
  refine CallF.of Try.func14 Try.ntmps14 rfl (fun F cs => ?_)
  refine X.sub (p' := [(0, _)]) ⟨rfl, trivial⟩ ?_
  unfold Tkn.v Tkn.cs
  refine X.seq ?_
  refine X.region ?_
  refine XO.ef (Ef.box rfl) ?_
  rintro _ _ ⟨n1, rfl, rfl⟩
  refine XO.pu (Pu.assign rfl) ?_
  refine XO.nil ?_
  refine X.sub (p' := [(2, _), (1, _)]) ⟨rfl, rfl, trivial⟩ ?_
  refine X.seq ?_
  refine X.seq ?_
  refine X.region ?_
  refine XO.pu (Pu.fieldAddr 23 1 0 rfl Try.underlying29 rfl Try.sizeOf23) ?_
  refine XO.ld Try.isAgg23 ?_
  refine XO.pu (Pu.len rfl Try.underlying23) ?_
  refine XO.pu (Pu.gtr rfl rfl) ?_
  refine XO.nil ?_
  refine X.sub (p' := [(11, _), (2, _), (1, _)]) ⟨rfl, rfl, rfl, trivial⟩ ?_
  refine X.part 11 rfl (fun h1 => ?_) (fun h1 => ?_)
  · skip
    try simp only [decide_eq_true_eq, decide_eq_false_iff_not, bne_iff_ne, beq_iff_eq, ne_eq, bne_eq_false_iff_eq, beq_eq_false_iff_ne, Bool.not_eq_true', Bool.not_eq_false', Int.not_lt, Int.not_le, Bool.not_not, Bool.and_eq_true, Bool.and_eq_false_iff, Bool.true_and, Bool.and_true, beq_self_eq_true, Bool.or_eq_true, Bool.or_eq_false_iff] at h1
    refine X.condT rfl ?_
    refine X.seq ?_
    refine X.region ?_
    refine XO.pu (Pu.assign rfl) ?_
    refine XO.nil ?_
    refine X.sub (p' := [(2, _), (1, _)]) ⟨rfl, rfl, trivial⟩ ?_
    refine X.retL (q) Try.func14 (res1 Try.results14 rfl) ⟨_, rfl, by rw [chk, if_neg (by rintro ⟨x, _, _⟩; omega)], rfl⟩
  · skip
    try simp only [decide_eq_true_eq, decide_eq_false_iff_not, bne_iff_ne, beq_iff_eq, ne_eq, bne_eq_false_iff_eq, beq_eq_false_iff_ne, Bool.not_eq_true', Bool.not_eq_false', Int.not_lt, Int.not_le, Bool.not_not, Bool.and_eq_true, Bool.and_eq_false_iff, Bool.true_and, Bool.and_true, beq_self_eq_true, Bool.or_eq_true, Bool.or_eq_false_iff] at h1
    refine X.condF rfl ?_
    refine X.skip ?_
    refine X.seq ?_
    refine X.region ?_
    refine XO.pu (Pu.assign rfl) ?_
    refine XO.nil ?_
    refine X.sub (p' := [(3, _), (2, _), (1, _)]) ⟨rfl, rfl, rfl, trivial⟩ ?_
    refine X.seq ?_
    refine X.seq ?_
    refine X.region ?_
    refine XO.pu (Pu.assign rfl) ?_
    refine XO.nil ?_
    refine X.sub (p' := [(4, _), (3, _), (2, _), (1, _)]) ⟨rfl, rfl, rfl, rfl, trivial⟩ ?_
    refine X.block ?_
    have hl : t.turns.length ≤ 65536 := by omega
    refine X.at (X.loop (fun (s : Nat × Int) => (s.1 ≤ t.turns.length ∧ 0 ≤ s.2 ∧ s.2 ≤ 2147483647) ∧ (goT none 0 t.turns ↔ goT (prevT t.turns s.1) s.2 (t.turns.drop s.1))) (fun s => [(4, .int .i64 (s.1 : Int)), (3, .int .i64 s.2), (1, .pointer (some ⟨n1, 0, none⟩))]) (fun s => pto n1 (.cells (t.cs a c).toArray 29 (0, 0)) :: (q ++ F)) (fun s => t.turns.length - s.1) (fun s hi_ ih => ?_) (0, 0) ⟨⟨by omega, by omega, by omega⟩, by simp [prevT_zero]⟩) ⟨(by first | rfl | exact congrArg some (congrArg (Value.int _) (by omega)) | (show some _ = some _; simp; done) | (show some _ = some _; simp; omega)), (by first | rfl | exact congrArg some (congrArg (Value.int _) (by omega)) | (show some _ = some _; simp; done) | (show some _ = some _; simp; omega)), (by first | rfl | exact congrArg some (congrArg (Value.int _) (by omega)) | (show some _ = some _; simp; done) | (show some _ = some _; simp; omega)), trivial⟩ leA
    try dsimp only at hi_ ih ⊢
    obtain ⟨⟨hi1, hi2, hi3⟩, hg⟩ := hi_
    obtain ⟨i, s⟩ := s; dsimp only at *
    have hlen := flatMap_len (f := tcs) (sz := 2) (fun _ => rfl) t.turns
    refine X.seq ?_
    refine X.seq ?_
    refine X.region ?_
    refine XO.pu (Pu.move rfl) ?_
    refine XO.pu (Pu.fieldAddr 23 1 0 rfl Try.underlying29 rfl Try.sizeOf23) ?_
    refine XO.ld Try.isAgg23 ?_
    refine XO.pu (Pu.len rfl Try.underlying23) ?_
    refine XO.pu (Pu.lss rfl rfl) ?_
    refine XO.nil ?_
    refine X.sub (p' := [(16, _), (4, _), (3, _), (1, _)]) ⟨rfl, rfl, rfl, rfl, trivial⟩ ?_
    refine X.part 16 rfl (fun h0 => ?_) (fun h0 => ?_)
    · skip
      try simp only [decide_eq_true_eq, decide_eq_false_iff_not, bne_iff_ne, beq_iff_eq, ne_eq, bne_eq_false_iff_eq, beq_eq_false_iff_ne, Bool.not_eq_true', Bool.not_eq_false', Int.not_lt, Int.not_le, Bool.not_not, Bool.and_eq_true, Bool.and_eq_false_iff, Bool.true_and, Bool.and_true, beq_self_eq_true, Bool.or_eq_true, Bool.or_eq_false_iff] at h0
      have hi0 : i < t.turns.length := by omega
      refine X.condT rfl ?_
      refine X.skip ?_
      refine X.seq ?_
      refine X.block ?_
      refine X.seq ?_
      refine X.region ?_
      refine XO.pu (Pu.fieldAddr 23 1 0 rfl Try.underlying29 rfl Try.sizeOf23) ?_
      refine XO.ld Try.isAgg23 ?_
      refine XO.pu (Pu.move rfl) ?_
      refine XO.adr hs (by rw [hlen]; omega) (fun b23 o23 e_ => ?_); subst e_
      refine XO.pu (Pu.indexAddr rfl rfl Try.underlying23 Try.sizeOf57 (by omega) (by omega)) ?_
      refine XO.ldS (n := i) Try.isAgg57 Try.sizeOf57 hs (by omega) ?_
      refine XO.ef (Ef.alloc Try.zeroValue57) ?_
      rintro _ _ ⟨n2, rfl, rfl⟩
      refine XO.ef0 (Ef.stA Try.sizeOf57) ?_
      rintro _ _ ⟨rfl, rfl⟩
      refine XO.nil ?_
      refine X.sub (p' := [(5, _), (4, _), (3, _), (1, _)]) ⟨rfl, rfl, rfl, rfl, trivial⟩ ?_
      refine X.seq ?_
      refine X.seq ?_
      refine X.draw [] Try.mixed (by kernel_rfl) (by kernel_rfl) rfl ?_
      refine XD.pu 0 rfl (Pu.fieldAddr 3 0 0 rfl Try.underlying57 rfl Try.sizeOf3) ?_
      refine XD.ld 1 Try.isAgg3 ?_
      refine XD.cF 2 Try.call31 (within64_ok _ _ _) ?_
      rintro _ _ ⟨rfl, rfl⟩ _ e_; simp only [ca, na] at e_; subst e_
      refine ⟨trivial, ?_⟩
      refine XD.pu 3 rfl (Pu.not rfl) ?_
      refine XD.pu 4 rfl (Pu.move rfl) ?_
      refine XD.sub (p' := [(28, _), (5, _), (4, _), (3, _), (1, _)]) ⟨rfl, rfl, rfl, rfl, rfl, trivial⟩ ?_
      apply XD.cutOr 16 [0, 1, 2, 3, 4, 5, 6, 7, 8, 9] 33 28 rfl
      · skip
        intro g1 M1; have h1 := g1; try simp only [decide_eq_true_eq, decide_eq_false_iff_not, bne_iff_ne, beq_iff_eq, ne_eq, bne_eq_false_iff_eq, beq_eq_false_iff_ne, Bool.not_eq_true', Bool.not_eq_false', Int.not_lt, Int.not_le, Bool.not_not, Bool.and_eq_true, Bool.and_eq_false_iff, Bool.true_and, Bool.and_true, beq_self_eq_true, Bool.or_eq_true, Bool.or_eq_false_iff] at h1
        refine XD.pu 5 rfl (Pu.fieldAddr 3 1 0 rfl Try.underlying57 rfl Try.sizeOf3) ?_
        refine XD.ld 6 Try.isAgg3 ?_
        refine XD.cF 7 Try.call31 (within64_ok _ _ _) ?_
        rintro _ _ ⟨rfl, rfl⟩ _ e_; simp only [ca, na] at e_; subst e_
        refine ⟨trivial, ?_⟩
        refine XD.pu 8 rfl (Pu.not rfl) ?_
        refine XD.pu 9 rfl (Pu.pickF rfl rfl) ?_
        exact XD.fin M1 ⟨orF g1, congrArg (fun x => some (Value.bool x)) g1.symm, rfl, rfl, rfl, rfl, trivial⟩
      · skip
        intro g1 M1; have h1 := g1; try simp only [decide_eq_true_eq, decide_eq_false_iff_not, bne_iff_ne, beq_iff_eq, ne_eq, bne_eq_false_iff_eq, beq_eq_false_iff_ne, Bool.not_eq_true', Bool.not_eq_false', Int.not_lt, Int.not_le, Bool.not_not, Bool.and_eq_true, Bool.and_eq_false_iff, Bool.true_and, Bool.and_true, beq_self_eq_true, Bool.or_eq_true, Bool.or_eq_false_iff] at h1
        refine XD.pass 5 rfl ?_
        refine XD.pass 6 rfl ?_
        refine XD.pass 7 rfl ?_
        refine XD.pass 8 rfl ?_
        refine XD.pu 9 rfl (Pu.pickT rfl rfl) ?_
        exact XD.fin M1 ⟨orT g1, congrArg (fun x => some (Value.bool x)) g1.symm, rfl, rfl, rfl, rfl, trivial⟩
      · skip
        intro L_
        refine XD.pu 10 rfl (Pu.move rfl) ?_
        refine XD.sub (p' := [(34, _), (5, _), (4, _), (3, _), (1, _)]) ⟨rfl, rfl, rfl, rfl, rfl, trivial⟩ ?_
        apply XD.cutOr 0 [0, 1, 2, 3, 4, 5, 6, 7, 8, 9, 10, 11, 12, 13, 14, 15, 16, 17, 18, 19, 20, 21, 22, 23, 24, 25] 49 34 rfl
        · skip
          intro g1 M1; have h1 := g1; try simp only [decide_eq_true_eq, decide_eq_false_iff_not, bne_iff_ne, beq_iff_eq, ne_eq, bne_eq_false_iff_eq, beq_eq_false_iff_ne, Bool.not_eq_true', Bool.not_eq_false', Int.not_lt, Int.not_le, Bool.not_not, Bool.and_eq_true, Bool.and_eq_false_iff, Bool.true_and, Bool.and_true, beq_self_eq_true, Bool.or_eq_true, Bool.or_eq_false_iff] at h1
          refine XD.pu 11 rfl (Pu.move rfl) ?_
          refine XD.pu 12 rfl (Pu.gtr rfl rfl) ?_
          refine XD.pu 13 rfl (Pu.move rfl) ?_
          refine XD.sub (p' := [(37, _), (34, _), (5, _), (4, _), (3, _), (1, _)]) ⟨rfl, rfl, rfl, rfl, rfl, rfl, trivial⟩ ?_
          apply XD.cutAnd 1 [0, 1, 2, 3, 4, 5, 6, 7, 8, 9, 10, 11, 12, 13, 14, 15, 16, 17, 18, 19, 20, 21, 22, 23, 24] 48 37 rfl
          · skip
            intro g2 M2; have h2 := g2; try simp only [decide_eq_true_eq, decide_eq_false_iff_not, bne_iff_ne, beq_iff_eq, ne_eq, bne_eq_false_iff_eq, beq_eq_false_iff_ne, Bool.not_eq_true', Bool.not_eq_false', Int.not_lt, Int.not_le, Bool.not_not, Bool.and_eq_true, Bool.and_eq_false_iff, Bool.true_and, Bool.and_true, beq_self_eq_true, Bool.or_eq_true, Bool.or_eq_false_iff] at h2
            refine XD.pu 14 rfl (Pu.fieldAddr 23 1 0 rfl Try.underlying29 rfl Try.sizeOf23) ?_
            refine XD.ld 15 Try.isAgg23 ?_
            refine XD.pu 16 rfl (Pu.move rfl) ?_
            refine XD.pu 17 rfl (Pu.sub rfl rfl (by omega) (by omega)) ?_
            refine XD.pu 18 rfl (Pu.indexAddr rfl rfl Try.underlying23 Try.sizeOf57 (by omega) (by omega)) ?_
            refine XD.pu 19 rfl (Pu.fieldAddr 3 0 0 rfl Try.underlying57 rfl Try.sizeOf3) ?_
            refine XD.ld 20 Try.isAgg3 ?_
            refine XD.pu 21 rfl (Pu.fieldAddr 3 0 0 rfl Try.underlying57 rfl Try.sizeOf3) ?_
            refine XD.ld 22 Try.isAgg3 ?_
            refine XD.pu 23 rfl (Pu.eql rfl rfl) ?_
            refine XD.pu 24 rfl (Pu.pickT rfl rfl) ?_
            exact XD.fin M2 ⟨andT g2, congrArg (fun x => some (Value.bool x)) g2.symm, rfl, rfl, rfl, rfl, rfl, trivial⟩
          · skip
            intro g2 M2; have h2 := g2; try simp only [decide_eq_true_eq, decide_eq_false_iff_not, bne_iff_ne, beq_iff_eq, ne_eq, bne_eq_false_iff_eq, beq_eq_false_iff_ne, Bool.not_eq_true', Bool.not_eq_false', Int.not_lt, Int.not_le, Bool.not_not, Bool.and_eq_true, Bool.and_eq_false_iff, Bool.true_and, Bool.and_true, beq_self_eq_true, Bool.or_eq_true, Bool.or_eq_false_iff] at h2
            refine XD.pass 14 rfl ?_
            refine XD.pass 15 rfl ?_
            refine XD.pass 16 rfl ?_
            refine XD.pass 17 rfl ?_
            refine XD.pass 18 rfl ?_
            refine XD.pass 19 rfl ?_
            refine XD.pass 20 rfl ?_
            refine XD.pass 21 rfl ?_
            refine XD.pass 22 rfl ?_
            refine XD.pass 23 rfl ?_
            refine XD.pu 24 rfl (Pu.pickF rfl rfl) ?_
            exact XD.fin M2 ⟨andF g2, congrArg (fun x => some (Value.bool x)) g2.symm, rfl, rfl, rfl, rfl, rfl, trivial⟩
          · skip
            intro L_
            refine XD.pu 25 rfl (Pu.pickF rfl rfl) ?_
            exact XD.fin M1 ⟨orF g1, congrArg (fun x => some (Value.bool x)) g1.symm, rfl, rfl, rfl, rfl, trivial⟩
        · skip
          intro g1 M1; have h1 := g1; try simp only [decide_eq_true_eq, decide_eq_false_iff_not, bne_iff_ne, beq_iff_eq, ne_eq, bne_eq_false_iff_eq, beq_eq_false_iff_ne, Bool.not_eq_true', Bool.not_eq_false', Int.not_lt, Int.not_le, Bool.not_not, Bool.and_eq_true, Bool.and_eq_false_iff, Bool.true_and, Bool.and_true, beq_self_eq_true, Bool.or_eq_true, Bool.or_eq_false_iff] at h1
          refine XD.pass 11 rfl ?_
          refine XD.pass 12 rfl ?_
          refine XD.pass 13 rfl ?_
          refine XD.pass 14 rfl ?_
          refine XD.pass 15 rfl ?_
          refine XD.pass 16 rfl ?_
          refine XD.pass 17 rfl ?_
          refine XD.pass 18 rfl ?_
          refine XD.pass 19 rfl ?_
          refine XD.pass 20 rfl ?_
          refine XD.pass 21 rfl ?_
          refine XD.pass 22 rfl ?_
          refine XD.pass 23 rfl ?_
          refine XD.pass 24 rfl ?_
          refine XD.pu 25 rfl (Pu.pickT rfl rfl) ?_
          exact XD.fin M1 ⟨orT g1, congrArg (fun x => some (Value.bool x)) g1.symm, rfl, rfl, rfl, rfl, trivial⟩
        · skip
          intro L_
          refine XD.nil ?_
          refine X.sub (p' := [(49, _), (5, _), (4, _), (3, _), (1, _)]) ⟨rfl, rfl, rfl, rfl, rfl, trivial⟩ ?_
          refine X.part 49 rfl (fun h1 => ?_) (fun h1 => ?_)
          · skip
            try simp only [decide_eq_true_eq, decide_eq_false_iff_not, bne_iff_ne, beq_iff_eq, ne_eq, bne_eq_false_iff_eq, beq_eq_false_iff_ne, Bool.not_eq_true', Bool.not_eq_false', Int.not_lt, Int.not_le, Bool.not_not, Bool.and_eq_true, Bool.and_eq_false_iff, Bool.true_and, Bool.and_true, beq_self_eq_true, Bool.or_eq_true, Bool.or_eq_false_iff] at h1
            refine X.condT rfl ?_
            refine X.seq ?_
            refine X.region ?_
            refine XO.pu (Pu.assign rfl) ?_
            refine XO.nil ?_
            refine X.sub (p' := [(2, _), (5, _), (4, _), (3, _), (1, _)]) ⟨rfl, rfl, rfl, rfl, rfl, trivial⟩ ?_
            have hst := goT_step (p := prevT t.turns i) (s := s) (show i < t.turns.length by omega)
            refine X.retL (q) Try.func14 (res1 Try.results14 rfl) ⟨_, rfl, by rw [chk, if_neg]; rintro ⟨_, _, g⟩; rw [hg, hst] at g; obtain ⟨⟨g1, g2, g3, g4, g5⟩, _⟩ := g; first | omega | (exact g5 (by rw [prevT_pos (by omega) (by omega)]; exact congrArg some (by omega))), rfl⟩
          · skip
            try simp only [decide_eq_true_eq, decide_eq_false_iff_not, bne_iff_ne, beq_iff_eq, ne_eq, bne_eq_false_iff_eq, beq_eq_false_iff_ne, Bool.not_eq_true', Bool.not_eq_false', Int.not_lt, Int.not_le, Bool.not_not, Bool.and_eq_true, Bool.and_eq_false_iff, Bool.true_and, Bool.and_true, beq_self_eq_true, Bool.or_eq_true, Bool.or_eq_false_iff] at h1
            refine X.condF rfl ?_
            refine X.skip ?_
            refine X.seq ?_
            refine X.region ?_
            refine XO.pu (Pu.move rfl) ?_
            refine XO.pu (Pu.fieldAddr 3 1 0 rfl Try.underlying57 rfl Try.sizeOf3) ?_
            refine XO.ld Try.isAgg3 ?_
            refine XO.pu (Pu.add rfl rfl (by omega) (by omega)) ?_
            refine XO.pu (Pu.assign rfl) ?_
            refine XO.nil ?_
            refine X.sub (p' := [(3, _), (4, _), (1, _)]) ⟨rfl, rfl, rfl, trivial⟩ ?_
            refine X.seq ?_
            refine X.region ?_
            refine XO.pu (Pu.move rfl) ?_
            refine XO.pu (Pu.gtr rfl rfl) ?_
            refine XO.nil ?_
            refine X.sub (p' := [(55, _), (3, _), (4, _), (1, _)]) ⟨rfl, rfl, rfl, rfl, trivial⟩ ?_
            refine X.part 55 rfl (fun h2 => ?_) (fun h2 => ?_)
            · skip
              try simp only [decide_eq_true_eq, decide_eq_false_iff_not, bne_iff_ne, beq_iff_eq, ne_eq, bne_eq_false_iff_eq, beq_eq_false_iff_ne, Bool.not_eq_true', Bool.not_eq_false', Int.not_lt, Int.not_le, Bool.not_not, Bool.and_eq_true, Bool.and_eq_false_iff, Bool.true_and, Bool.and_true, beq_self_eq_true, Bool.or_eq_true, Bool.or_eq_false_iff] at h2
              refine X.condT rfl ?_
              refine X.seq ?_
              refine X.region ?_
              refine XO.pu (Pu.assign rfl) ?_
              refine XO.nil ?_
              refine X.sub (p' := [(2, _), (3, _), (4, _), (1, _)]) ⟨rfl, rfl, rfl, rfl, trivial⟩ ?_
              have hst := goT_step (p := prevT t.turns i) (s := s) (show i < t.turns.length by omega)
              refine X.retL (q) Try.func14 (res1 Try.results14 rfl) ⟨_, rfl, by rw [chk, if_neg]; rintro ⟨_, _, g⟩; rw [hg, hst] at g; obtain ⟨⟨g1, g2, g3, g4, g5⟩, _⟩ := g; first | omega | (exact g5 (by rw [prevT_pos (by omega) (by omega)]; exact congrArg some (by omega))), rfl⟩
            · skip
              try simp only [decide_eq_true_eq, decide_eq_false_iff_not, bne_iff_ne, beq_iff_eq, ne_eq, bne_eq_false_iff_eq, beq_eq_false_iff_ne, Bool.not_eq_true', Bool.not_eq_false', Int.not_lt, Int.not_le, Bool.not_not, Bool.and_eq_true, Bool.and_eq_false_iff, Bool.true_and, Bool.and_true, beq_self_eq_true, Bool.or_eq_true, Bool.or_eq_false_iff] at h2
              refine X.condF rfl ?_
              refine X.skip ?_
              refine X.inBlock ?_
              refine X.region ?_
              refine XO.pu (Pu.move rfl) ?_
              refine XO.pu (Pu.add rfl rfl (by omega) (by omega)) ?_
              refine XO.pu (Pu.assign rfl) ?_
              refine XO.nil ?_
              refine X.sub (p' := [(4, _), (3, _), (1, _)]) ⟨rfl, rfl, rfl, trivial⟩ ?_
              have hst := goT_step (p := prevT t.turns i) (s := s) (show i < t.turns.length by omega)
              refine X.at (ih (i + 1, s + t.turns[i].2) ⟨⟨by dsimp only; omega, by dsimp only; omega, by dsimp only; omega⟩, hg.trans (hst.trans ⟨fun h => h.2, fun h => ⟨⟨by omega, by omega, by omega, by omega, by rcases Nat.eq_zero_or_pos i with e | e; exact (by subst e; simp [prevT_zero]); rw [prevT_pos (by omega) e]; simp only [ne_eq, Option.some.injEq]; omega⟩, h⟩⟩)⟩ (by dsimp only; omega)) ⟨(by first | rfl | exact congrArg some (congrArg (Value.int _) (by omega)) | (show some _ = some _; simp; done) | (show some _ = some _; simp; omega)), (by first | rfl | exact congrArg some (congrArg (Value.int _) (by omega)) | (show some _ = some _; simp; done) | (show some _ = some _; simp; omega)), (by first | rfl | exact congrArg some (congrArg (Value.int _) (by omega)) | (show some _ = some _; simp; done) | (show some _ = some _; simp; omega)), trivial⟩ leA
    · skip
      try simp only [decide_eq_true_eq, decide_eq_false_iff_not, bne_iff_ne, beq_iff_eq, ne_eq, bne_eq_false_iff_eq, beq_eq_false_iff_ne, Bool.not_eq_true', Bool.not_eq_false', Int.not_lt, Int.not_le, Bool.not_not, Bool.and_eq_true, Bool.and_eq_false_iff, Bool.true_and, Bool.and_true, beq_self_eq_true, Bool.or_eq_true, Bool.or_eq_false_iff] at h0
      refine X.condF rfl ?_
      refine X.exit rfl ?_
      refine X.seq ?_
      refine X.region ?_
      refine XO.pu (Pu.fieldAddr 27 2 3 rfl Try.underlying29 rfl Try.sizeOf27) ?_
      refine XO.ldA Try.isAgg27 Try.sizeOf27 ?_
      refine XO.ef (Ef.alloc Try.zeroValue27) ?_
      rintro _ _ ⟨n3, rfl, rfl⟩
      refine XO.ef0 (Ef.stA Try.sizeOf27) ?_
      rintro _ _ ⟨rfl, rfl⟩
      refine XO.nil ?_
      refine X.sub (p' := [(6, _)]) ⟨rfl, trivial⟩ ?_
      refine X.seq ?_
      refine X.region ?_
      refine XO.pu (Pu.fieldAddr 24 0 0 rfl Try.underlying27 rfl Try.sizeOf24) ?_
      refine XO.ld Try.isAgg24 ?_
      refine XO.pu (Pu.assign rfl) ?_
      refine XO.nil ?_
      refine X.sub (p' := [(7, _), (6, _)]) ⟨rfl, rfl, trivial⟩ ?_
      refine X.seq ?_
      refine X.seq ?_
      refine X.region ?_
      refine XO.pu (Pu.move rfl) ?_
      refine XO.pu (Pu.geq rfl rfl) ?_
      refine XO.pu (Pu.move rfl) ?_
      refine XO.sub (p' := [(62, _), (7, _), (6, _)]) ⟨rfl, rfl, rfl, trivial⟩ ?_
      apply XO.cutAnd 3 65 62 rfl
      · skip
        intro g1 M1; have h1 := g1; try simp only [decide_eq_true_eq, decide_eq_false_iff_not, bne_iff_ne, beq_iff_eq, ne_eq, bne_eq_false_iff_eq, beq_eq_false_iff_ne, Bool.not_eq_true', Bool.not_eq_false', Int.not_lt, Int.not_le, Bool.not_not, Bool.and_eq_true, Bool.and_eq_false_iff, Bool.true_and, Bool.and_true, beq_self_eq_true, Bool.or_eq_true, Bool.or_eq_false_iff] at h1
        refine XO.pu (Pu.move rfl) ?_
        refine XO.pu (Pu.leq rfl rfl) ?_
        refine XO.pu (Pu.pickT rfl rfl) ?_
        exact XO.fin M1 ⟨andT g1, congrArg (fun x => some (Value.bool x)) g1.symm, rfl, rfl, trivial⟩
      · skip
        intro g1 M1; have h1 := g1; try simp only [decide_eq_true_eq, decide_eq_false_iff_not, bne_iff_ne, beq_iff_eq, ne_eq, bne_eq_false_iff_eq, beq_eq_false_iff_ne, Bool.not_eq_true', Bool.not_eq_false', Int.not_lt, Int.not_le, Bool.not_not, Bool.and_eq_true, Bool.and_eq_false_iff, Bool.true_and, Bool.and_true, beq_self_eq_true, Bool.or_eq_true, Bool.or_eq_false_iff] at h1
        refine XO.pass rfl ?_
        refine XO.pass rfl ?_
        refine XO.pu (Pu.pickF rfl rfl) ?_
        exact XO.fin M1 ⟨andF g1, congrArg (fun x => some (Value.bool x)) g1.symm, rfl, rfl, trivial⟩
      · skip
        refine XO.pu (Pu.move rfl) ?_
        refine XO.sub (p' := [(66, _), (7, _), (6, _)]) ⟨rfl, rfl, rfl, trivial⟩ ?_
        apply XO.cutAnd 6 72 66 rfl
        · skip
          intro g1 M1; have h1 := g1; try simp only [decide_eq_true_eq, decide_eq_false_iff_not, bne_iff_ne, beq_iff_eq, ne_eq, bne_eq_false_iff_eq, beq_eq_false_iff_ne, Bool.not_eq_true', Bool.not_eq_false', Int.not_lt, Int.not_le, Bool.not_not, Bool.and_eq_true, Bool.and_eq_false_iff, Bool.true_and, Bool.and_true, beq_self_eq_true, Bool.or_eq_true, Bool.or_eq_false_iff] at h1
          refine XO.ldA Try.isAgg27 Try.sizeOf27 ?_
          refine XO.pu (Pu.fieldAddr 24 0 0 rfl Try.underlying27 rfl Try.sizeOf24) ?_
          refine XO.ld Try.isAgg24 ?_
          refine XO.pu (Pu.build (cells := [_, _, _, _]) [(0, 1), (1, 1), (2, 1), (3, 1)] Try.zeroValue27 Try.underlying27 (by kernel_rfl) rfl rfl) ?_
          refine XO.pu (Pu.eqlA rfl rfl (by kernel_rfl) (EqV.struct Try.underlying27 (by kernel_rfl) (by kernel_rfl) ⟨_, _, _, _, rfl, rfl, Try.isAgg24, (EqV.int Try.underlying24 _ _), ⟨_, _, _, _, rfl, rfl, Try.isAgg25, (EqV.int Try.underlying25 _ _), ⟨_, _, _, _, rfl, rfl, Try.isAgg3, (EqV.int Try.underlying3 _ _), ⟨_, _, _, _, rfl, rfl, Try.isAgg3, (EqV.int Try.underlying3 _ _), rfl, rfl⟩, rfl⟩, rfl⟩, rfl⟩)) ?_
          refine XO.pu (Pu.pickT rfl rfl) ?_
          exact XO.fin M1 ⟨andT g1, congrArg (fun x => some (Value.bool x)) g1.symm, rfl, rfl, trivial⟩
        · skip
          intro g1 M1; have h1 := g1; try simp only [decide_eq_true_eq, decide_eq_false_iff_not, bne_iff_ne, beq_iff_eq, ne_eq, bne_eq_false_iff_eq, beq_eq_false_iff_ne, Bool.not_eq_true', Bool.not_eq_false', Int.not_lt, Int.not_le, Bool.not_not, Bool.and_eq_true, Bool.and_eq_false_iff, Bool.true_and, Bool.and_true, beq_self_eq_true, Bool.or_eq_true, Bool.or_eq_false_iff] at h1
          refine XO.pass rfl ?_
          refine XO.pass rfl ?_
          refine XO.pass rfl ?_
          refine XO.pass rfl ?_
          refine XO.pass rfl ?_
          refine XO.pu (Pu.pickF rfl rfl) ?_
          exact XO.fin M1 ⟨andF g1, congrArg (fun x => some (Value.bool x)) g1.symm, rfl, rfl, trivial⟩
        · skip
          refine XO.nil ?_
          refine X.sub (p' := [(72, _), (7, _), (6, _)]) ⟨rfl, rfl, rfl, trivial⟩ ?_
          refine X.part 72 rfl (fun h1 => ?_) (fun h1 => ?_)
          · skip
            try simp only [decide_eq_true_eq, decide_eq_false_iff_not, bne_iff_ne, beq_iff_eq, ne_eq, bne_eq_false_iff_eq, beq_eq_false_iff_ne, Bool.not_eq_true', Bool.not_eq_false', Int.not_lt, Int.not_le, Bool.not_not, Bool.and_eq_true, Bool.and_eq_false_iff, Bool.true_and, Bool.and_true, beq_self_eq_true, Bool.or_eq_true, Bool.or_eq_false_iff] at h1
            refine X.condT rfl ?_
            refine X.seq ?_
            refine X.region ?_
            refine XO.pu (Pu.assign rfl) ?_
            refine XO.nil ?_
            refine X.sub (p' := [(2, _), (7, _), (6, _)]) ⟨rfl, rfl, rfl, trivial⟩ ?_
            have hG := hg.2 (goT_end (by omega))
            refine X.retL (q) Try.func14 (res1 Try.results14 rfl) ⟨_, rfl, by rw [chk, if_pos ⟨hl, (by unfold okE; omega), hG⟩], rfl⟩
          · skip
            try simp only [decide_eq_true_eq, decide_eq_false_iff_not, bne_iff_ne, beq_iff_eq, ne_eq, bne_eq_false_iff_eq, beq_eq_false_iff_ne, Bool.not_eq_true', Bool.not_eq_false', Int.not_lt, Int.not_le, Bool.not_not, Bool.and_eq_true, Bool.and_eq_false_iff, Bool.true_and, Bool.and_true, beq_self_eq_true, Bool.or_eq_true, Bool.or_eq_false_iff] at h1
            refine X.condF rfl ?_
            refine X.skip ?_
            refine X.seq ?_
            refine X.seq ?_
            refine X.region ?_
            refine XO.pu (Pu.move rfl) ?_
            refine XO.pu (Pu.eql rfl rfl) ?_
            refine XO.pu (Pu.move rfl) ?_
            refine XO.sub (p' := [(75, _), (6, _)]) ⟨rfl, rfl, trivial⟩ ?_
            apply XO.cutAnd 4 79 75 rfl
            · skip
              intro g2 M2; have h2 := g2; try simp only [decide_eq_true_eq, decide_eq_false_iff_not, bne_iff_ne, beq_iff_eq, ne_eq, bne_eq_false_iff_eq, beq_eq_false_iff_ne, Bool.not_eq_true', Bool.not_eq_false', Int.not_lt, Int.not_le, Bool.not_not, Bool.and_eq_true, Bool.and_eq_false_iff, Bool.true_and, Bool.and_true, beq_self_eq_true, Bool.or_eq_true, Bool.or_eq_false_iff] at h2
              refine XO.pu (Pu.fieldAddr 25 1 0 rfl Try.underlying27 rfl Try.sizeOf25) ?_
              refine XO.ld Try.isAgg25 ?_
              refine XO.cF Try.call31 (within64_ok _ _ _) ?_
              rintro _ _ ⟨rfl, rfl⟩ _ e_; simp only [ca, na] at e_; subst e_
              refine XO.pu (Pu.pickT rfl rfl) ?_
              exact XO.fin M2 ⟨andT g2, congrArg (fun x => some (Value.bool x)) g2.symm, rfl, trivial⟩
            · skip
              intro g2 M2; have h2 := g2; try simp only [decide_eq_true_eq, decide_eq_false_iff_not, bne_iff_ne, beq_iff_eq, ne_eq, bne_eq_false_iff_eq, beq_eq_false_iff_ne, Bool.not_eq_true', Bool.not_eq_false', Int.not_lt, Int.not_le, Bool.not_not, Bool.and_eq_true, Bool.and_eq_false_iff, Bool.true_and, Bool.and_true, beq_self_eq_true, Bool.or_eq_true, Bool.or_eq_false_iff] at h2
              refine XO.pass rfl ?_
              refine XO.pass rfl ?_
              refine XO.pass rfl ?_
              refine XO.pu (Pu.pickF rfl rfl) ?_
              exact XO.fin M2 ⟨andF g2, congrArg (fun x => some (Value.bool x)) g2.symm, rfl, trivial⟩
            · skip
              refine XO.pu (Pu.move rfl) ?_
              refine XO.sub (p' := [(80, _), (6, _)]) ⟨rfl, rfl, trivial⟩ ?_
              apply XO.cutAnd 4 84 80 rfl
              · skip
                intro g2 M2; have h2 := g2; try simp only [decide_eq_true_eq, decide_eq_false_iff_not, bne_iff_ne, beq_iff_eq, ne_eq, bne_eq_false_iff_eq, beq_eq_false_iff_ne, Bool.not_eq_true', Bool.not_eq_false', Int.not_lt, Int.not_le, Bool.not_not, Bool.and_eq_true, Bool.and_eq_false_iff, Bool.true_and, Bool.and_true, beq_self_eq_true, Bool.or_eq_true, Bool.or_eq_false_iff] at h2
                refine XO.pu (Pu.fieldAddr 3 2 0 rfl Try.underlying27 rfl Try.sizeOf3) ?_
                refine XO.ld Try.isAgg3 ?_
                refine XO.cF Try.call31 (within64_ok _ _ _) ?_
                rintro _ _ ⟨rfl, rfl⟩ _ e_; simp only [ca, na] at e_; subst e_
                refine XO.pu (Pu.pickT rfl rfl) ?_
                exact XO.fin M2 ⟨andT g2, congrArg (fun x => some (Value.bool x)) g2.symm, rfl, trivial⟩
              · skip
                intro g2 M2; have h2 := g2; try simp only [decide_eq_true_eq, decide_eq_false_iff_not, bne_iff_ne, beq_iff_eq, ne_eq, bne_eq_false_iff_eq, beq_eq_false_iff_ne, Bool.not_eq_true', Bool.not_eq_false', Int.not_lt, Int.not_le, Bool.not_not, Bool.and_eq_true, Bool.and_eq_false_iff, Bool.true_and, Bool.and_true, beq_self_eq_true, Bool.or_eq_true, Bool.or_eq_false_iff] at h2
                refine XO.pass rfl ?_
                refine XO.pass rfl ?_
                refine XO.pass rfl ?_
                refine XO.pu (Pu.pickF rfl rfl) ?_
                exact XO.fin M2 ⟨andF g2, congrArg (fun x => some (Value.bool x)) g2.symm, rfl, trivial⟩
              · skip
                refine XO.pu (Pu.move rfl) ?_
                refine XO.sub (p' := [(85, _), (6, _)]) ⟨rfl, rfl, trivial⟩ ?_
                apply XO.cutAnd 4 89 85 rfl
                · skip
                  intro g2 M2; have h2 := g2; try simp only [decide_eq_true_eq, decide_eq_false_iff_not, bne_iff_ne, beq_iff_eq, ne_eq, bne_eq_false_iff_eq, beq_eq_false_iff_ne, Bool.not_eq_true', Bool.not_eq_false', Int.not_lt, Int.not_le, Bool.not_not, Bool.and_eq_true, Bool.and_eq_false_iff, Bool.true_and, Bool.and_true, beq_self_eq_true, Bool.or_eq_true, Bool.or_eq_false_iff] at h2
                  refine XO.pu (Pu.fieldAddr 3 3 0 rfl Try.underlying27 rfl Try.sizeOf3) ?_
                  refine XO.ld Try.isAgg3 ?_
                  refine XO.cF Try.call31 (within64_ok _ _ _) ?_
                  rintro _ _ ⟨rfl, rfl⟩ _ e_; simp only [ca, na] at e_; subst e_
                  refine XO.pu (Pu.pickT rfl rfl) ?_
                  exact XO.fin M2 ⟨andT g2, congrArg (fun x => some (Value.bool x)) g2.symm, rfl, trivial⟩
                · skip
                  intro g2 M2; have h2 := g2; try simp only [decide_eq_true_eq, decide_eq_false_iff_not, bne_iff_ne, beq_iff_eq, ne_eq, bne_eq_false_iff_eq, beq_eq_false_iff_ne, Bool.not_eq_true', Bool.not_eq_false', Int.not_lt, Int.not_le, Bool.not_not, Bool.and_eq_true, Bool.and_eq_false_iff, Bool.true_and, Bool.and_true, beq_self_eq_true, Bool.or_eq_true, Bool.or_eq_false_iff] at h2
                  refine XO.pass rfl ?_
                  refine XO.pass rfl ?_
                  refine XO.pass rfl ?_
                  refine XO.pu (Pu.pickF rfl rfl) ?_
                  exact XO.fin M2 ⟨andF g2, congrArg (fun x => some (Value.bool x)) g2.symm, rfl, trivial⟩
                · skip
                  refine XO.nil ?_
                  refine X.sub (p' := [(89, _)]) ⟨rfl, trivial⟩ ?_
                  refine X.part 89 rfl (fun h2 => ?_) (fun h2 => ?_)
                  · skip
                    try simp only [decide_eq_true_eq, decide_eq_false_iff_not, bne_iff_ne, beq_iff_eq, ne_eq, bne_eq_false_iff_eq, beq_eq_false_iff_ne, Bool.not_eq_true', Bool.not_eq_false', Int.not_lt, Int.not_le, Bool.not_not, Bool.and_eq_true, Bool.and_eq_false_iff, Bool.true_and, Bool.and_true, beq_self_eq_true, Bool.or_eq_true, Bool.or_eq_false_iff] at h2
                    refine X.condT rfl ?_
                    refine X.seq ?_
                    refine X.region ?_
                    refine XO.pu (Pu.assign rfl) ?_
                    refine XO.nil ?_
                    refine X.sub (p' := [(2, _)]) ⟨rfl, trivial⟩ ?_
                    have hG := hg.2 (goT_end (by omega))
                    refine X.retL (q) Try.func14 (res1 Try.results14 rfl) ⟨_, rfl, by rw [chk, if_pos ⟨hl, (by unfold okE; omega), hG⟩], rfl⟩
                  · skip
                    try simp only [decide_eq_true_eq, decide_eq_false_iff_not, bne_iff_ne, beq_iff_eq, ne_eq, bne_eq_false_iff_eq, beq_eq_false_iff_ne, Bool.not_eq_true', Bool.not_eq_false', Int.not_lt, Int.not_le, Bool.not_not, Bool.and_eq_true, Bool.and_eq_false_iff, Bool.true_and, Bool.and_true, beq_self_eq_true, Bool.or_eq_true, Bool.or_eq_false_iff] at h2
                    refine X.condF rfl ?_
                    refine X.skip ?_
                    refine X.seq ?_
                    refine X.region ?_
                    refine XO.pu (Pu.assign rfl) ?_
                    refine XO.nil ?_
                    refine X.sub (p' := [(2, _)]) ⟨rfl, trivial⟩ ?_
                    have hG := hg.2 (goT_end (by omega))
                    refine X.retL (q) Try.func14 (res1 Try.results14 rfl) ⟨_, rfl, by rw [chk, if_neg]; rintro ⟨_, he, _⟩; unfold okE at he; omega, rfl⟩
end
end Go.Proofs.Ytiehcgmbkjdagaa

