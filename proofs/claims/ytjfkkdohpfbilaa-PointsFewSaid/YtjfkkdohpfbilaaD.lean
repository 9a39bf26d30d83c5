/- What functions of package points, and of its laws, do: contracts of calls, proved by walking their code. -/
import Derived.Test.YtjfkkdohpfbilaaC
import Derived.KernelRfl
set_option maxRecDepth 100000
set_option linter.unusedVariables false
set_option linter.unusedSimpArgs false
namespace Go.Proofs.Ytjfkkdohpfbilaa
open Go Go.RowKit Wx

section
variable {G : World} {every most gone last : Int} {came : Bool} {a : Option Addr} {c b bx by' : Nat} {k : List Int}
theorem far_succ {i : Nat} (h : 1 ≤ i) : far k (i + 1) = gap k (argm k i) := by unfold far; rw [if_neg (by omega), Nat.add_sub_cancel]
theorem sof_succ {i : Nat} (h : 1 ≤ i) : sof k (i + 1) = (argm k i : Nat) := by unfold sof; rw [if_neg (by omega), Nat.add_sub_cancel]
theorem argm_yes {i : Nat} (h : 1 ≤ i) (hc : i = 1 ∨ gap k i < far k i) : argm k i = i := by
  obtain ⟨m, rfl⟩ : ∃ m, i = m + 1 := ⟨i - 1, by omega⟩
  simp only [argm]
  rcases hc with h1 | h1
  · have : m = 0 := by omega
    subst this; simp [argm]
  · by_cases hm : m = 0
    · subst hm; simp [argm]
    · rw [far_succ (by omega)] at h1
      rw [if_pos h1]
theorem argm_no {i : Nat} (h : 2 ≤ i) (hc : ¬ gap k i < far k i) : argm k i = argm k (i - 1) := by
  obtain ⟨m, rfl⟩ : ∃ m, i = m + 2 := ⟨i - 2, by omega⟩
  rw [far_succ (by omega)] at hc
  show argm k (m + 1 + 1) = argm k (m + 1)
  conv => lhs; rw [argm]
  rw [if_neg hc]
abbrev c1 (v : Value) (t : TypeId) : Obj := .cells [v].toArray t (0, 0)
theorem least_ok {b1 b2 : Nat} (h3 : 3 ≤ k.length) (hk : ∀ x ∈ k, 0 ≤ x ∧ x ≤ 1099511627776) (hn : k.length ≤ 5000) :
    CallF Try.prog G 30 [.func (.func 36) #[] #[.pointer (some ⟨b2, 0, none⟩)], .func (.func 32) #[] #[.pointer (some ⟨b1, 0, none⟩)]] [pto b2 (bxO b), pto b1 (bxO b), SH b every most gone last came a c k, lsH I 3 a c k]
      (Ret fun v q => v = .int .i64 (argm k (k.length - 2) : Nat) ∧ q = [pto b1 (bxO b), SH b every most gone last came a c k, lsH I 3 a c k]) := by
  refine CallF.of Try.func30 Try.ntmps30 rfl (fun F cs => ?_)
  refine X.sub (p' := [(0, _), (1, _)]) ⟨rfl, rfl, trivial⟩ ?_
  refine X.seq ?_
  refine X.region ?_
  refine XO.ef (Ef.box rfl) ?_
  rintro _ _ ⟨n4, rfl, rfl⟩
  refine XO.ef (Ef.alloc Try.zeroValue3) ?_
  rintro _ _ ⟨n5, rfl, rfl⟩
  refine XO.nil ?_
  refine X.sub (p' := [(4, _), (3, _), (0, _)]) ⟨rfl, rfl, rfl, trivial⟩ ?_
  refine X.seq ?_
  refine X.region ?_
  refine XO.ef (Ef.alloc Try.zeroValue3) ?_
  rintro _ _ ⟨n6, rfl, rfl⟩
  refine XO.ef (Ef.alloc Try.zeroValue4) ?_
  rintro _ _ ⟨n7, rfl, rfl⟩
  refine XO.ef0 (Ef.store rfl rfl Try.sizeOf3 rfl rfl (by repeat first | exact Le.here _ _ | apply Le.there) rfl) ?_
  rintro _ _ ⟨rfl, rfl⟩
  refine XO.ef0 (Ef.store rfl rfl Try.sizeOf4 rfl rfl (by repeat first | exact Le.here _ _ | apply Le.there) rfl) ?_
  rintro _ _ ⟨rfl, rfl⟩
  refine XO.nil ?_
  refine X.sub (p' := [(6, _), (5, _), (4, _), (3, _), (0, _)]) ⟨rfl, rfl, rfl, rfl, rfl, trivial⟩ ?_
  refine X.seq ?_
  refine X.seq ?_
  refine X.region ?_
  refine XO.pu (Pu.move rfl) ?_
  refine XO.nil ?_
  refine X.sub (p' := [(9, _), (6, _), (5, _), (4, _), (3, _)]) ⟨rfl, rfl, rfl, rfl, rfl, trivial⟩ ?_
  refine X.block ?_
  refine X.rangeFunc (pre := [pto b2 (bxO b), SH b every most gone last came a c k, lsH I 3 a c k, pto b1 (bxO b), pto n4 (c1 (.func (.func 32) #[] #[.pointer (some ⟨b1, 0, none⟩)]) 49), pto n5 (c1 (.int .i64 0) 3), pto n6 (c1 (.int .i64 0) 3), pto n7 (c1 (.bool false) 4)]) (R' := fun pend q1 => pend = none ∧ q1 = [SH b every most gone last came a c k, lsH I 3 a c k, pto b1 (bxO b), pto n4 (c1 (.func (.func 32) #[] #[.pointer (some ⟨b1, 0, none⟩)]) 49), pto n5 (c1 (.int .i64 (argm k (k.length - 2) : Nat)) 3), pto n6 (c1 (.int .i64 (far k (k.length - 1))) 3), pto n7 (c1 (.bool (decide (1 < k.length - 1))) 4)]) rfl rfl (by repeat (first | exact Le.refl _ | refine Le.pick (by repeat first | exact Le.here _ _ | apply Le.there) ?_ | refine Le.lose ?_)) (fun l rec hrec => ?_) (fun r pend q1 h => ?_)
  · skip
    refine CallV.conv (pre' := [pto b2 (bxO b), SH b every most gone last came a c k, lsH I 3 a c k, (fun i => stars [lp rec l .ready none, pto b1 (bxO b), pto n4 (c1 (.func (.func 32) #[] #[.pointer (some ⟨b1, 0, none⟩)]) 49), pto n5 (c1 (.int .i64 (sof k i)) 3), pto n6 (c1 (.int .i64 (far k i)) 3), pto n7 (c1 (.bool (decide (1 < i))) 4)]) 1]) ?_ (CallV.of_callF (a := []) (b := [.pointer (some ⟨b2, 0, none⟩)]) Try.call36 (iter_ok (l := l) (J := fun i => stars [lp rec l .ready none, pto b1 (bxO b), pto n4 (c1 (.func (.func 32) #[] #[.pointer (some ⟨b1, 0, none⟩)]) 49), pto n5 (c1 (.int .i64 (sof k i)) 3), pto n6 (c1 (.int .i64 (far k i)) 3), pto n7 (c1 (.bool (decide (1 < i))) 4)]) hn (fun i hi1 hi2 => ?_))) ?_
    · exact Le.trans (b := [pto b2 (bxO b), SH b every most gone last came a c k, lsH I 3 a c k] ++ ([lp rec l .ready none, pto b1 (bxO b), pto n4 (c1 (.func (.func 32) #[] #[.pointer (some ⟨b1, 0, none⟩)]) 49), pto n5 (c1 (.int .i64 (sof k 1)) 3), pto n6 (c1 (.int .i64 (far k 1)) 3), pto n7 (c1 (.bool (decide (1 < 1))) 4)] ++ [])) (by repeat (first | exact Le.refl _ | refine Le.pick (by repeat first | exact Le.here _ _ | apply Le.there) ?_ | refine Le.lose ?_)) (Le.append_left _ (Le.stars_in _ _))
    · refine CallV.conv (pre' := lp rec l .ready none :: [SH b every most gone last came a c k, lsH I 3 a c k, pto b1 (bxO b), pto n4 (c1 (.func (.func 32) #[] #[.pointer (some ⟨b1, 0, none⟩)]) 49), pto n5 (c1 (.int .i64 (sof k i)) 3), pto n6 (c1 (.int .i64 (far k i)) 3), pto n7 (c1 (.bool (decide (1 < i))) 4)]) (Le.trans (Le.append_left [SH b every most gone last came a c k, lsH I 3 a c k] (Le.stars_out _ [])) (by repeat (first | exact Le.refl _ | refine Le.pick (by repeat first | exact Le.here _ _ | apply Le.there) ?_ | refine Le.lose ?_)))
        (CallV.yield (R := Ret fun v q => v = .bool true ∧ q = lp rec l .ready none :: [SH b every most gone last came a c k, lsH I 3 a c k, pto b1 (bxO b), pto n4 (c1 (.func (.func 32) #[] #[.pointer (some ⟨b1, 0, none⟩)]) 49), pto n5 (c1 (.int .i64 (sof k (i + 1))) 3), pto n6 (c1 (.int .i64 (far k (i + 1))) 3), pto n7 (c1 (.bool (decide (1 < i + 1))) 4)]) hrec rfl rfl (by rw [Try.func30]; rfl) (fun F cs => ?_)) ?_
      · refine X.sub (p' := [(10, _), (9, _), (6, _), (5, _), (4, _), (3, _)]) ⟨rfl, rfl, rfl, rfl, rfl, rfl, trivial⟩ ?_
        have hm := argm_le k (i - 1)
        refine X.region ?_
        refine XO.pu (Pu.assign rfl) ?_
        refine XO.nil ?_
        refine X.sub (p' := [(7, _), (6, _), (5, _), (4, _), (3, _)]) ⟨rfl, rfl, rfl, rfl, rfl, trivial⟩ ?_
        refine X.beginRound rfl (by repeat (first | exact Le.refl _ | refine Le.pick (by repeat first | exact Le.here _ _ | apply Le.there) ?_ | refine Le.lose ?_)) ?_
        refine X.block ?_
        refine X.seq ?_
        refine X.region ?_
        refine XO.rd (Rd.load rfl Try.isAgg49 (Cl.of (by repeat first | exact Has.pto _ _ _ | exact Has.im _ _ _ | refine Has.there ?_) (by rfl))) ?_
        refine XO.pu (Pu.move rfl) ?_
        refine XO.call rfl rfl (CallV.of_callF (a := []) (b := [.pointer (some ⟨b1, 0, none⟩)]) Try.call32 (gapF_ok (every := every) (most := most) (gone := gone) (last := last) (came := came) (a := a) (c := c) (b := b) (bx := b1) hi1 hi2 hk hn)) (by repeat (first | exact Le.refl _ | refine Le.pick (by repeat first | exact Le.here _ _ | apply Le.there) ?_ | refine Le.lose ?_)) ?_
        rintro _ _ ⟨rfl, rfl⟩ q_ hq_
        simp only [List.cons_append, List.nil_append] at hq_; subst hq_
        refine XO.pu (Pu.assign rfl) ?_
        refine XO.nil ?_
        refine X.sub (p' := [(8, _), (7, _), (6, _), (5, _), (4, _)]) ⟨rfl, rfl, rfl, rfl, rfl, trivial⟩ ?_
        refine X.seq ?_
        refine X.region ?_
        refine XO.rd (Rd.load rfl Try.isAgg4 (Cl.of (by repeat first | exact Has.pto _ _ _ | exact Has.im _ _ _ | refine Has.there ?_) (by rfl))) ?_
        refine XO.pu (Pu.not rfl) ?_
        refine XO.pu (Pu.move rfl) ?_
        refine XO.part 16 rfl (fun h1 => ?_) (fun h1 => ?_)
        · skip
          try simp only [decide_eq_true_eq, decide_eq_false_iff_not, bne_iff_ne, beq_iff_eq, ne_eq, bne_eq_false_iff_eq, beq_eq_false_iff_ne, Bool.not_eq_true', Bool.not_eq_false', Int.not_lt, Int.not_le, Bool.not_not] at h1
          refine XO.pass rfl ?_
          refine XO.pass rfl ?_
          refine XO.pass rfl ?_
          refine XO.pu (Pu.pickT rfl rfl) ?_
          refine XO.nil ?_
          refine X.sub (p' := [(20, _), (8, _), (7, _), (6, _), (5, _), (4, _)]) ⟨rfl, rfl, rfl, rfl, rfl, rfl, trivial⟩ ?_
          refine X.condT rfl ?_
          refine X.region ?_
          refine XO.pu (Pu.move rfl) ?_
          refine XO.pu (Pu.move rfl) ?_
          refine XO.ef0 (Ef.store rfl rfl Try.sizeOf3 rfl rfl (by repeat first | exact Le.here _ _ | apply Le.there) rfl) ?_
          rintro _ _ ⟨rfl, rfl⟩
          refine XO.ef0 (Ef.store rfl rfl Try.sizeOf3 rfl rfl (by repeat first | exact Le.here _ _ | apply Le.there) rfl) ?_
          rintro _ _ ⟨rfl, rfl⟩
          refine XO.ef0 (Ef.store rfl rfl Try.sizeOf4 rfl rfl (by repeat first | exact Le.here _ _ | apply Le.there) rfl) ?_
          rintro _ _ ⟨rfl, rfl⟩
          refine XO.nil ?_
          refine X.sub (p' := []) trivial ?_
          refine X.inBlock ?_
          have hi : i = 1 := by omega
          have e1 := far_succ (k := k) hi1
          have e2 := sof_succ (k := k) hi1
          refine X.fall ⟨rfl, rfl, [SH b every most gone last came a c k, lsH I 3 a c k, pto b1 (bxO b), pto n4 (c1 (.func (.func 32) #[] #[.pointer (some ⟨b1, 0, none⟩)]) 49), pto n5 (c1 (.int .i64 (sof k (i + 1))) 3), pto n6 (c1 (.int .i64 (far k (i + 1))) 3), pto n7 (c1 (.bool (decide (1 < i + 1))) 4)], ⟨_, rfl, rfl, rfl⟩, ?_⟩
          rw [e1, e2, argm_yes hi1 (.inl hi), show decide (1 < i + 1) = true from by simp; omega]
          exact (by repeat (first | exact Le.refl _ | refine Le.pick (by repeat first | exact Le.here _ _ | apply Le.there) ?_ | refine Le.lose ?_))
        · skip
          try simp only [decide_eq_true_eq, decide_eq_false_iff_not, bne_iff_ne, beq_iff_eq, ne_eq, bne_eq_false_iff_eq, beq_eq_false_iff_ne, Bool.not_eq_true', Bool.not_eq_false', Int.not_lt, Int.not_le, Bool.not_not] at h1
          refine XO.pu (Pu.move rfl) ?_
          refine XO.rd (Rd.load rfl Try.isAgg3 (Cl.of (by repeat first | exact Has.pto _ _ _ | exact Has.im _ _ _ | refine Has.there ?_) (by rfl))) ?_
          refine XO.pu (Pu.lss rfl rfl) ?_
          refine XO.pu (Pu.pickF rfl rfl) ?_
          refine XO.nil ?_
          refine X.sub (p' := [(20, _), (8, _), (7, _), (6, _), (5, _), (4, _)]) ⟨rfl, rfl, rfl, rfl, rfl, rfl, trivial⟩ ?_
          refine X.cond rfl (fun h2 => ?_) (fun h2 => ?_)
          · skip
            try simp only [decide_eq_true_eq, decide_eq_false_iff_not, bne_iff_ne, beq_iff_eq, ne_eq, bne_eq_false_iff_eq, beq_eq_false_iff_ne, Bool.not_eq_true', Bool.not_eq_false', Int.not_lt, Int.not_le, Bool.not_not] at h2
            refine X.region ?_
            refine XO.pu (Pu.move rfl) ?_
            refine XO.pu (Pu.move rfl) ?_
            refine XO.ef0 (Ef.store rfl rfl Try.sizeOf3 rfl rfl (by repeat first | exact Le.here _ _ | apply Le.there) rfl) ?_
            rintro _ _ ⟨rfl, rfl⟩
            refine XO.ef0 (Ef.store rfl rfl Try.sizeOf3 rfl rfl (by repeat first | exact Le.here _ _ | apply Le.there) rfl) ?_
            rintro _ _ ⟨rfl, rfl⟩
            refine XO.ef0 (Ef.store rfl rfl Try.sizeOf4 rfl rfl (by repeat first | exact Le.here _ _ | apply Le.there) rfl) ?_
            rintro _ _ ⟨rfl, rfl⟩
            refine XO.nil ?_
            refine X.sub (p' := []) trivial ?_
            refine X.inBlock ?_
            have e1 := far_succ (k := k) hi1
            have e2 := sof_succ (k := k) hi1
            refine X.fall ⟨rfl, rfl, [SH b every most gone last came a c k, lsH I 3 a c k, pto b1 (bxO b), pto n4 (c1 (.func (.func 32) #[] #[.pointer (some ⟨b1, 0, none⟩)]) 49), pto n5 (c1 (.int .i64 (sof k (i + 1))) 3), pto n6 (c1 (.int .i64 (far k (i + 1))) 3), pto n7 (c1 (.bool (decide (1 < i + 1))) 4)], ⟨_, rfl, rfl, rfl⟩, ?_⟩
            rw [e1, e2, argm_yes hi1 (.inr (by assumption)), show decide (1 < i + 1) = true from by simp; omega]
            exact (by repeat (first | exact Le.refl _ | refine Le.pick (by repeat first | exact Le.here _ _ | apply Le.there) ?_ | refine Le.lose ?_))
          · skip
            try simp only [decide_eq_true_eq, decide_eq_false_iff_not, bne_iff_ne, beq_iff_eq, ne_eq, bne_eq_false_iff_eq, beq_eq_false_iff_ne, Bool.not_eq_true', Bool.not_eq_false', Int.not_lt, Int.not_le, Bool.not_not] at h2
            refine X.skip ?_
            refine X.inBlock ?_
            have hi : 2 ≤ i := by omega
            have e3 := argm_no (k := k) hi (by omega)
            have e4 : far k i = gap k (argm k (i - 1)) := by unfold far; rw [if_neg (by omega)]
            have e5 : sof k i = (argm k (i - 1) : Nat) := by unfold sof; rw [if_neg (by omega)]
            rw [e4, e5, show decide (1 < i) = true from by simp; omega]
            have e1 := far_succ (k := k) hi1
            have e2 := sof_succ (k := k) hi1
            refine X.fall ⟨rfl, rfl, [SH b every most gone last came a c k, lsH I 3 a c k, pto b1 (bxO b), pto n4 (c1 (.func (.func 32) #[] #[.pointer (some ⟨b1, 0, none⟩)]) 49), pto n5 (c1 (.int .i64 (sof k (i + 1))) 3), pto n6 (c1 (.int .i64 (far k (i + 1))) 3), pto n7 (c1 (.bool (decide (1 < i + 1))) 4)], ⟨_, rfl, rfl, rfl⟩, ?_⟩
            rw [e1, e2, e3, show decide (1 < i + 1) = true from by simp; omega]
            exact (by repeat (first | exact Le.refl _ | refine Le.pick (by repeat first | exact Le.here _ _ | apply Le.there) ?_ | refine Le.lose ?_))
      · rintro e q ⟨v, rfl, rfl, rfl⟩
        exact ⟨_, ⟨_, rfl, rfl, rfl⟩, Le.trans (b := [SH b every most gone last came a c k, lsH I 3 a c k] ++ ([lp rec l .ready none, pto b1 (bxO b), pto n4 (c1 (.func (.func 32) #[] #[.pointer (some ⟨b1, 0, none⟩)]) 49), pto n5 (c1 (.int .i64 (sof k (i + 1))) 3), pto n6 (c1 (.int .i64 (far k (i + 1))) 3), pto n7 (c1 (.bool (decide (1 < i + 1))) 4)] ++ [])) (by repeat (first | exact Le.refl _ | refine Le.pick (by repeat first | exact Le.here _ _ | apply Le.there) ?_ | refine Le.lose ?_)) (Le.append_left _ (Le.stars_in _ _))⟩
    · rintro e q ⟨v, rfl, rfl⟩
      have e0 : max 1 (k.length - 1) = k.length - 1 := by omega
      have e1 : sof k (k.length - 1) = (argm k (k.length - 2) : Nat) := by unfold sof; rw [if_neg (by omega)]; rfl
      refine ⟨_, ⟨_, rfl, .ready, none, _, by simp, rfl, rfl, rfl⟩, ?_⟩
      rw [e0]
      refine (Le.append_left [SH b every most gone last came a c k, lsH I 3 a c k] (Le.stars_out _ [])).trans ?_
      rw [e1]
      exact (by repeat (first | exact Le.refl _ | refine Le.pick (by repeat first | exact Le.here _ _ | apply Le.there) ?_ | refine Le.lose ?_))
  · skip
    obtain ⟨rfl, rfl⟩ := h
    refine X.le (q' := _ :: _ :: _ :: _ :: _ :: _ :: _ :: _ :: _) (Le.refl _) ?_
    refine X.inBlock ?_
    refine X.seq ?_
    refine X.region ?_
    refine XO.rd (Rd.load rfl Try.isAgg3 (Cl.of (by repeat first | exact Has.pto _ _ _ | exact Has.im _ _ _ | refine Has.there ?_) (by rfl))) ?_
    refine XO.ef0 (Ef.store rfl rfl Try.sizeOf3 rfl rfl (by repeat first | exact Le.here _ _ | apply Le.there) rfl) ?_
    rintro _ _ ⟨rfl, rfl⟩
    refine XO.nil ?_
    refine X.sub (p' := [(4, _)]) ⟨rfl, trivial⟩ ?_
    refine X.ret ⟨rfl, Lv.mark (by simp) (by repeat first | exact Le.here _ _ | apply Le.there) (Lv.ret (q' := [_, _, _]) Try.func30 (resC1 Try.results30 ⟨⟨_, rfl, LV.cell Try.isAgg3 (Cl.of (by repeat first | exact Has.pto _ _ _ | exact Has.im _ _ _ | refine Has.there ?_) (by rfl))⟩, trivial⟩) ⟨_, rfl, rfl, rfl⟩ (by repeat (first | exact Le.refl _ | refine Le.pick (by repeat first | exact Le.here _ _ | apply Le.there) ?_ | refine Le.lose ?_)))⟩
end
end Go.Proofs.Ytjfkkdohpfbilaa

