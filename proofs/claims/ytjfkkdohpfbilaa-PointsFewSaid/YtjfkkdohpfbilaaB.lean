/- What functions of package points, and of its laws, do: contracts of calls, proved by walking their code. -/
import Derived.Test.YtjfkkdohpfbilaaA
import Derived.KernelRfl
set_option maxRecDepth 100000
set_option linter.unusedVariables false
set_option linter.unusedSimpArgs false
namespace Go.Proofs.Ytjfkkdohpfbilaa
open Go Go.RowKit Wx

abbrev I : Int → Value := Value.int .i64
/-- Points as plain data. -/
structure Pt where
  every : Int
  most : Int
  kept : List Int
  gone : Int
  last : Int
  came : Bool
def PtH (b : Nat) (p : Pt) : HP := ex fun a => ex fun c => star (pto b (ptsO p.every p.most (.slice a p.kept.length c) p.gone p.last p.came)) (lsH I 3 a c p.kept)
structure Pt.Ok (p : Pt) : Prop where
  e1 : 1 ≤ p.every
  e2 : p.every ≤ 1073741824
  m1 : 2 ≤ p.most
  m2 : p.most ≤ 4096
  k1 : p.kept.length ≤ p.most
  k2 : ∀ x ∈ p.kept, 0 ≤ x ∧ x ≤ 1099511627776
section
variable {P : Program} {G : World} {f : Fc} {Q : Post} {k : List Item} {pe : PE} {ds : List Deferred} {cs : List Frame} {q r : List HP} {b : Nat} {p : Pt}
theorem X.open {todo : List Item} (x : ∀ a c, X P G f Q todo pe ds cs (pto b (ptsO p.every p.most (.slice a p.kept.length c) p.gone p.last p.came) :: lsH I 3 a c p.kept :: q)) : X P G f Q todo pe ds cs (PtH b p :: q) :=
  .ex fun a => .ex fun c => .le (.split _ _ _) (x a c)
theorem PtH.close {a : Option Addr} {c : Nat} (h : Le q (pto b (ptsO p.every p.most (.slice a p.kept.length c) p.gone p.last p.came) :: lsH I 3 a c p.kept :: r)) : Le q (PtH b p :: r) :=
  (h.trans (.fuse _ _ _)).trans (Le.to_ex (A := fun a => ex fun c => star (pto b (ptsO p.every p.most (.slice a p.kept.length c) p.gone p.last p.came)) (lsH I 3 a c p.kept)) a (Le.to_ex c (.refl _)))
end
def LEt (a b : List HP) : Prop := Le a b
section
variable {G : World}
theorem New_yes {every most : Int} (h1 : 1 ≤ every) (h2 : every ≤ 1073741824) (h3 : 2 ≤ most) (h4 : most ≤ 4096) :
    CallF Try.prog G 16 [.int .i64 every, .int .i64 most] [] (Ret fun v q => ∃ b, v = .tuple [.pointer (some ⟨b, 0, none⟩), .int .i64 0].toArray ∧ q = [PtH b ⟨every, most, [], 0, 0, false⟩]) := by
  refine CallF.of Try.func16 Try.ntmps16 rfl (fun F cs => ?_)
  refine X.sub (p' := [(0, _), (1, _)]) ⟨rfl, rfl, trivial⟩ ?_
  refine X.seq ?_
  refine X.region ?_
  refine XO.pu (Pu.assign rfl) ?_
  refine XO.pu (Pu.assign rfl) ?_
  refine XO.nil ?_
  refine X.sub (p' := [(5, _), (4, _), (0, _), (1, _)]) ⟨rfl, rfl, rfl, rfl, trivial⟩ ?_
  refine X.seq ?_
  refine X.seq ?_
  refine X.region ?_
  refine XO.pu (Pu.move rfl) ?_
  refine XO.pu (Pu.lss rfl rfl) ?_
  refine XO.pu (Pu.move rfl) ?_
  refine XO.know 8 (.bool false) rfl (congrArg Value.bool (decide_eq_false (by omega))) ?_
  refine XO.pu (Pu.move rfl) ?_
  refine XO.pu (Pu.gtr rfl rfl) ?_
  refine XO.pu (Pu.pickF rfl rfl) ?_
  refine XO.pu (Pu.move rfl) ?_
  refine XO.know 12 (.bool false) rfl (congrArg Value.bool (decide_eq_false (by omega))) ?_
  refine XO.pu (Pu.move rfl) ?_
  refine XO.pu (Pu.lss rfl rfl) ?_
  refine XO.pu (Pu.pickF rfl rfl) ?_
  refine XO.pu (Pu.move rfl) ?_
  refine XO.know 16 (.bool false) rfl (congrArg Value.bool (decide_eq_false (by omega))) ?_
  refine XO.pu (Pu.move rfl) ?_
  refine XO.pu (Pu.gtr rfl rfl) ?_
  refine XO.pu (Pu.pickF rfl rfl) ?_
  refine XO.nil ?_
  refine X.sub (p' := [(19, _), (5, _), (4, _), (0, _), (1, _)]) ⟨rfl, rfl, rfl, rfl, rfl, trivial⟩ ?_
  refine X.know 19 (.bool false) rfl (congrArg Value.bool (decide_eq_false (by omega))) ?_
  refine X.condF rfl ?_
  refine X.skip ?_
  refine X.seq ?_
  refine X.region ?_
  refine XO.pu (Pu.move rfl) ?_
  refine XO.pu (Pu.move rfl) ?_
  refine XO.pu (Pu.build (cells := [_, _]) [(0, 1), (1, 1)] Try.zeroValue58 Try.underlying58 (by kernel_rfl) rfl rfl) ?_
  refine XO.pu (Pu.build (cells := [_, _, _, _, _, _]) [(0, 2), (2, 1), (3, 1), (4, 1), (5, 1)] Try.zeroValue60 Try.underlying60 (by kernel_rfl) rfl rfl) ?_
  refine XO.ef (Ef.box rfl) ?_
  rintro _ _ ⟨n1, rfl, rfl⟩
  refine XO.pu (Pu.assign rfl) ?_
  refine XO.pu (Pu.assign rfl) ?_
  refine XO.nil ?_
  refine X.sub (p' := [(5, _), (4, _)]) ⟨rfl, rfl, trivial⟩ ?_
  refine X.ret ⟨rfl, Lv.ret (q' := [_]) Try.func16 (res2 Try.results16 rfl rfl) ⟨_, rfl, n1, rfl, rfl⟩ (PtH.close (p := ⟨every, most, [], 0, 0, false⟩) (a := none) (c := 0) (Le.pick (by repeat first | exact Le.here _ _ | apply Le.there) (Le.trans (by repeat (first | exact Le.refl _ | refine Le.pick (by repeat first | exact Le.here _ _ | apply Le.there) ?_ | refine Le.lose ?_)) (Le.lsH_nil I 3 _))))⟩
theorem New_no {every most : Int} (h : ¬ (1 ≤ every ∧ every ≤ 1073741824 ∧ 2 ≤ most ∧ most ≤ 4096)) :
    CallF Try.prog G 16 [.int .i64 every, .int .i64 most] [] (Ret fun v q => v = .tuple [.pointer none, .int .i64 2].toArray ∧ q = []) := by
  refine CallF.of Try.func16 Try.ntmps16 rfl (fun F cs => ?_)
  refine X.sub (p' := [(0, _), (1, _)]) ⟨rfl, rfl, trivial⟩ ?_
  refine X.seq ?_
  refine X.region ?_
  refine XO.pu (Pu.assign rfl) ?_
  refine XO.pu (Pu.assign rfl) ?_
  refine XO.nil ?_
  refine X.sub (p' := [(5, _), (4, _), (0, _), (1, _)]) ⟨rfl, rfl, rfl, rfl, trivial⟩ ?_
  refine X.seq ?_
  refine X.seq ?_
  refine X.region ?_
  refine XO.pu (Pu.move rfl) ?_
  refine XO.pu (Pu.lss rfl rfl) ?_
  refine XO.pu (Pu.move rfl) ?_
  refine XO.part 8 rfl (fun h1 => ?_) (fun h1 => ?_)
  · skip
    try simp only [decide_eq_true_eq, decide_eq_false_iff_not, bne_iff_ne, beq_iff_eq, ne_eq, bne_eq_false_iff_eq, beq_eq_false_iff_ne, Bool.not_eq_true', Bool.not_eq_false', Int.not_lt, Int.not_le, Bool.not_not] at h1
    refine XO.pass rfl ?_
    refine XO.pass rfl ?_
    refine XO.pu (Pu.pickT rfl rfl) ?_
    refine XO.pu (Pu.move rfl) ?_
    refine XO.pass rfl ?_
    refine XO.pass rfl ?_
    refine XO.pu (Pu.pickT rfl rfl) ?_
    refine XO.pu (Pu.move rfl) ?_
    refine XO.pass rfl ?_
    refine XO.pass rfl ?_
    refine XO.pu (Pu.pickT rfl rfl) ?_
    refine XO.nil ?_
    refine X.sub (p' := [(19, _), (5, _), (4, _), (0, _), (1, _)]) ⟨rfl, rfl, rfl, rfl, rfl, trivial⟩ ?_
    refine X.condT rfl ?_
    refine X.seq ?_
    refine X.region ?_
    refine XO.pu (Pu.assign rfl) ?_
    refine XO.pu (Pu.assign rfl) ?_
    refine XO.nil ?_
    refine X.sub (p' := [(5, _), (4, _), (0, _), (1, _)]) ⟨rfl, rfl, rfl, rfl, trivial⟩ ?_
    refine X.ret ⟨rfl, Lv.ret (q' := []) Try.func16 (res2 Try.results16 rfl rfl) ⟨_, rfl, rfl, rfl⟩ (by repeat (first | exact Le.refl _ | refine Le.pick (by repeat first | exact Le.here _ _ | apply Le.there) ?_ | refine Le.lose ?_))⟩
  · skip
    try simp only [decide_eq_true_eq, decide_eq_false_iff_not, bne_iff_ne, beq_iff_eq, ne_eq, bne_eq_false_iff_eq, beq_eq_false_iff_ne, Bool.not_eq_true', Bool.not_eq_false', Int.not_lt, Int.not_le, Bool.not_not] at h1
    refine XO.pu (Pu.move rfl) ?_
    refine XO.pu (Pu.gtr rfl rfl) ?_
    refine XO.pu (Pu.pickF rfl rfl) ?_
    refine XO.pu (Pu.move rfl) ?_
    refine XO.part 12 rfl (fun h2 => ?_) (fun h2 => ?_)
    · skip
      try simp only [decide_eq_true_eq, decide_eq_false_iff_not, bne_iff_ne, beq_iff_eq, ne_eq, bne_eq_false_iff_eq, beq_eq_false_iff_ne, Bool.not_eq_true', Bool.not_eq_false', Int.not_lt, Int.not_le, Bool.not_not] at h2
      refine XO.pass rfl ?_
      refine XO.pass rfl ?_
      refine XO.pu (Pu.pickT rfl rfl) ?_
      refine XO.pu (Pu.move rfl) ?_
      refine XO.pass rfl ?_
      refine XO.pass rfl ?_
      refine XO.pu (Pu.pickT rfl rfl) ?_
      refine XO.nil ?_
      refine X.sub (p' := [(19, _), (5, _), (4, _), (0, _), (1, _)]) ⟨rfl, rfl, rfl, rfl, rfl, trivial⟩ ?_
      refine X.condT rfl ?_
      refine X.seq ?_
      refine X.region ?_
      refine XO.pu (Pu.assign rfl) ?_
      refine XO.pu (Pu.assign rfl) ?_
      refine XO.nil ?_
      refine X.sub (p' := [(5, _), (4, _), (0, _), (1, _)]) ⟨rfl, rfl, rfl, rfl, trivial⟩ ?_
      refine X.ret ⟨rfl, Lv.ret (q' := []) Try.func16 (res2 Try.results16 rfl rfl) ⟨_, rfl, rfl, rfl⟩ (by repeat (first | exact Le.refl _ | refine Le.pick (by repeat first | exact Le.here _ _ | apply Le.there) ?_ | refine Le.lose ?_))⟩
    · skip
      try simp only [decide_eq_true_eq, decide_eq_false_iff_not, bne_iff_ne, beq_iff_eq, ne_eq, bne_eq_false_iff_eq, beq_eq_false_iff_ne, Bool.not_eq_true', Bool.not_eq_false', Int.not_lt, Int.not_le, Bool.not_not] at h2
      refine XO.pu (Pu.move rfl) ?_
      refine XO.pu (Pu.lss rfl rfl) ?_
      refine XO.pu (Pu.pickF rfl rfl) ?_
      refine XO.pu (Pu.move rfl) ?_
      refine XO.part 16 rfl (fun h3 => ?_) (fun h3 => ?_)
      · skip
        try simp only [decide_eq_true_eq, decide_eq_false_iff_not, bne_iff_ne, beq_iff_eq, ne_eq, bne_eq_false_iff_eq, beq_eq_false_iff_ne, Bool.not_eq_true', Bool.not_eq_false', Int.not_lt, Int.not_le, Bool.not_not] at h3
        refine XO.pass rfl ?_
        refine XO.pass rfl ?_
        refine XO.pu (Pu.pickT rfl rfl) ?_
        refine XO.nil ?_
        refine X.sub (p' := [(19, _), (5, _), (4, _), (0, _), (1, _)]) ⟨rfl, rfl, rfl, rfl, rfl, trivial⟩ ?_
        refine X.condT rfl ?_
        refine X.seq ?_
        refine X.region ?_
        refine XO.pu (Pu.assign rfl) ?_
        refine XO.pu (Pu.assign rfl) ?_
        refine XO.nil ?_
        refine X.sub (p' := [(5, _), (4, _), (0, _), (1, _)]) ⟨rfl, rfl, rfl, rfl, trivial⟩ ?_
        refine X.ret ⟨rfl, Lv.ret (q' := []) Try.func16 (res2 Try.results16 rfl rfl) ⟨_, rfl, rfl, rfl⟩ (by repeat (first | exact Le.refl _ | refine Le.pick (by repeat first | exact Le.here _ _ | apply Le.there) ?_ | refine Le.lose ?_))⟩
      · skip
        try simp only [decide_eq_true_eq, decide_eq_false_iff_not, bne_iff_ne, beq_iff_eq, ne_eq, bne_eq_false_iff_eq, beq_eq_false_iff_ne, Bool.not_eq_true', Bool.not_eq_false', Int.not_lt, Int.not_le, Bool.not_not] at h3
        refine XO.pu (Pu.move rfl) ?_
        refine XO.pu (Pu.gtr rfl rfl) ?_
        refine XO.pu (Pu.pickF rfl rfl) ?_
        refine XO.nil ?_
        refine X.sub (p' := [(19, _), (5, _), (4, _), (0, _), (1, _)]) ⟨rfl, rfl, rfl, rfl, rfl, trivial⟩ ?_
        refine X.cond rfl (fun h4 => ?_) (fun h4 => ?_)
        · skip
          try simp only [decide_eq_true_eq, decide_eq_false_iff_not, bne_iff_ne, beq_iff_eq, ne_eq, bne_eq_false_iff_eq, beq_eq_false_iff_ne, Bool.not_eq_true', Bool.not_eq_false', Int.not_lt, Int.not_le, Bool.not_not] at h4
          refine X.seq ?_
          refine X.region ?_
          refine XO.pu (Pu.assign rfl) ?_
          refine XO.pu (Pu.assign rfl) ?_
          refine XO.nil ?_
          refine X.sub (p' := [(5, _), (4, _), (0, _), (1, _)]) ⟨rfl, rfl, rfl, rfl, trivial⟩ ?_
          refine X.ret ⟨rfl, Lv.ret (q' := []) Try.func16 (res2 Try.results16 rfl rfl) ⟨_, rfl, rfl, rfl⟩ (by repeat (first | exact Le.refl _ | refine Le.pick (by repeat first | exact Le.here _ _ | apply Le.there) ?_ | refine Le.lose ?_))⟩
        · skip
          try simp only [decide_eq_true_eq, decide_eq_false_iff_not, bne_iff_ne, beq_iff_eq, ne_eq, bne_eq_false_iff_eq, beq_eq_false_iff_ne, Bool.not_eq_true', Bool.not_eq_false', Int.not_lt, Int.not_le, Bool.not_not] at h4
          refine X.skip ?_
          refine X.seq ?_
          refine X.region ?_
          refine XO.pu (Pu.move rfl) ?_
          refine XO.pu (Pu.move rfl) ?_
          refine XO.pu (Pu.build (cells := [_, _]) [(0, 1), (1, 1)] Try.zeroValue58 Try.underlying58 (by kernel_rfl) rfl rfl) ?_
          refine XO.pu (Pu.build (cells := [_, _, _, _, _, _]) [(0, 2), (2, 1), (3, 1), (4, 1), (5, 1)] Try.zeroValue60 Try.underlying60 (by kernel_rfl) rfl rfl) ?_
          refine XO.ef (Ef.box rfl) ?_
          rintro _ _ ⟨n2, rfl, rfl⟩
          refine XO.pu (Pu.assign rfl) ?_
          refine XO.pu (Pu.assign rfl) ?_
          refine XO.nil ?_
          refine X.sub (p' := [(5, _), (4, _)]) ⟨rfl, rfl, trivial⟩ ?_
          exfalso; omega
end
end Go.Proofs.Ytjfkkdohpfbilaa

