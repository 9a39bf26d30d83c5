/- What functions of package log, of its references and of its laws do: contracts of calls, proved by walking their code. -/
import Derived.Test.YtiehcgmbkjdagaaI
import Derived.Test.YtiehcgmbkjdagaaJ
import Derived.Test.YtiehcgmbkjdagaaWx19
import Derived.KernelRfl
set_option maxRecDepth 100000
set_option linter.unusedVariables false
set_option linter.unusedSimpArgs false
namespace Go.Proofs.Ytiehcgmbkjdagaa
open Go Go.RowKit Wx

theorem takenP_okT {l : List Int} {t : Tkn} (h : takenP l = some t) : okT t := by
  unfold takenP at h
  split at h
  · cases h
  · split at h
    · cases h
    · split at h
      · cases h
      · unfold pEnd at h
        split at h
        · cases h
        · split at h
          · cases h
          · split at h
            · cases h
            · split at h
              · cases h
              · split at h
                · rename_i hk; cases h; exact hk.2
                · cases h
theorem decP_turns (l : List Int) : ((decP l).1.getD noT).turns.length ≤ 65536 := by
  unfold decP
  split
  · simp [noT]
  · cases h : takenP (l.take (l.length - 4)) with
    | none => simp [noT]
    | some t => exact (takenP_okT h).1
section
variable {G : World} {q : List HP} {a b : Option Addr} {c d p n2 n3 i0 : Nat} {l : List Int} {t u : Tkn}
set_option maxHeartbeats 1000000 in
theorem logSealed_ok (hs : Sees q a (By l)) (hb : Bs l) : CallF Try.prog G 6 [.slice a l.length c] q (Ret fun v q' => v = .bool true ∧ q' = q) := by
  refine CallF.of Try.func6 Try.ntmps6 rfl (fun F cs => ?_)
  refine X.sub (p' := [(0, _)]) ⟨rfl, trivial⟩ ?_
  refine X.seq ?_
  refine X.region ?_
  refine XO.pu (Pu.assign rfl) ?_
  refine XO.nil ?_
  refine X.sub (p' := [(2, _), (0, _)]) ⟨rfl, rfl, trivial⟩ ?_
  refine X.seq ?_
  refine X.seq ?_
  refine X.region ?_
  refine XO.pu (Pu.move rfl) ?_
  refine XO.pu (Pu.len rfl Try.underlying31) ?_
  refine XO.pu (Pu.gtr rfl rfl) ?_
  refine XO.nil ?_
  refine X.sub (p' := [(10, _), (2, _), (0, _)]) ⟨rfl, rfl, rfl, trivial⟩ ?_
  refine X.part 10 rfl (fun h0 => ?_) (fun h0 => ?_)
  · skip
    refine X.condT rfl ?_
    refine X.seq ?_
    refine X.region ?_
    refine XO.cF Try.call12 (works_ok) ?_
    rintro _ _ ⟨rfl, rfl⟩ _ e_; simp only [ca, na] at e_; subst e_
    refine XO.pu (Pu.assign rfl) ?_
    refine XO.nil ?_
    refine X.sub (p' := [(2, _), (0, _)]) ⟨rfl, rfl, trivial⟩ ?_
    refine X.retL (q) Try.func6 (res1 Try.results6 rfl) ⟨_, rfl, rfl, rfl⟩
  · skip
    try simp only [decide_eq_true_eq, decide_eq_false_iff_not, bne_iff_ne, beq_iff_eq, ne_eq, bne_eq_false_iff_eq, beq_eq_false_iff_ne, Bool.not_eq_true', Bool.not_eq_false', Int.not_lt, Int.not_le, Bool.not_not, Bool.and_eq_true, Bool.and_eq_false_iff, Bool.true_and, Bool.and_true, beq_self_eq_true, Bool.or_eq_true, Bool.or_eq_false_iff] at h0
    have hL : l.length ≤ 3000 := (by omega); have hbs := sealB_bs hb; have hsl : (sealB l).length = l.length + 4 := (by unfold sealB; rw [List.length_append]; rfl)
    refine X.condF rfl ?_
    refine X.skip ?_
    refine X.seq ?_
    refine X.region ?_
    refine XO.pu (Pu.move rfl) ?_
    refine XO.cX Try.call20 (Le.refl _) (Sealed_ok (l := l) (hs.le leA) hb (by omega)) ?_
    rintro _ _ ⟨a1, c1, rfl, rfl⟩
    refine XO.fact (fun w s => s.lsLen) (fun hcap => ?_)
    refine XO.pu (Pu.assign rfl) ?_
    refine XO.nil ?_
    refine X.sub (p' := [(3, _), (2, _)]) ⟨rfl, rfl, trivial⟩ ?_
    refine X.seq ?_
    refine X.region ?_
    refine XO.pu (Pu.move rfl) ?_
    refine XO.cX Try.call17 (Le.refl _) (Decode_ok (l := sealB l) ((Sees.lsH []).le leA) hbs (by omega) hcap.1) ?_
    rintro _ _ ⟨t1, a3, c3, ht1, rfl, rfl⟩
    refine XO.pu (Pu.move rfl) ?_
    refine XO.pu (Pu.extract rfl rfl) ?_
    refine XO.pu (Pu.extract rfl rfl) ?_
    refine XO.ef (Ef.alloc Try.zeroValue29) ?_
    rintro _ _ ⟨n1, rfl, rfl⟩
    refine XO.ef0 (Ef.stA Try.sizeOf29) ?_
    rintro _ _ ⟨rfl, rfl⟩
    refine XO.pu (Pu.assign rfl) ?_
    refine XO.nil ?_
    refine X.sub (p' := [(5, _), (4, _), (3, _), (2, _)]) ⟨rfl, rfl, rfl, rfl, trivial⟩ ?_
    refine X.seq ?_
    refine X.region ?_
    refine XO.pu (Pu.move rfl) ?_
    refine XO.cX Try.call18 (Le.refl _) (RDecode_ok (l := sealB l) ((Sees.lsH []).le leA) hbs (by omega) hcap.1) ?_
    rintro _ _ ⟨t2, a4, c4, ht2, rfl, rfl⟩
    have htt : t1 = t2 := ht1.trans ht2.symm; subst htt
    have htl : t1.turns.length ≤ 65536 := by rw [ht1]; exact decP_turns _
    refine XO.pu (Pu.move rfl) ?_
    refine XO.pu (Pu.extract rfl rfl) ?_
    refine XO.pu (Pu.extract rfl rfl) ?_
    refine XO.ef (Ef.alloc Try.zeroValue29) ?_
    rintro _ _ ⟨n2, rfl, rfl⟩
    refine XO.ef0 (Ef.stA Try.sizeOf29) ?_
    rintro _ _ ⟨rfl, rfl⟩
    refine XO.pu (Pu.assign rfl) ?_
    refine XO.nil ?_
    refine X.sub (p' := [(7, _), (6, _), (5, _), (4, _), (2, _)]) ⟨rfl, rfl, rfl, rfl, rfl, trivial⟩ ?_
    refine X.seq ?_
    refine X.region ?_
    refine XO.ldA Try.isAgg29 Try.sizeOf29 ?_
    refine XO.ldA Try.isAgg29 Try.sizeOf29 ?_
    refine XO.cR Try.call19 (RSame_ok (t := t1) (u := t1) (a := a3) (b := a4) ((Sees.rsH []).le leA) ((Sees.rsH []).le leA) (by omega)) ?_
    refine XO.pu (Pu.move rfl) ?_
    refine XO.know 27 (.bool true) rfl (congrArg Value.bool (by simp)) ?_
    refine XO.pu (Pu.move rfl) ?_
    refine XO.cF Try.call15 (num_ok _) ?_
    rintro _ _ ⟨rfl, rfl⟩ _ e_; simp only [ca, na] at e_; subst e_
    refine XO.pu (Pu.move rfl) ?_
    refine XO.pu (Pu.eql rfl rfl) ?_
    refine XO.pu (Pu.pickT rfl rfl) ?_
    refine XO.pu (Pu.move rfl) ?_
    refine XO.know 33 (.bool true) rfl (congrArg Value.bool (by simp)) ?_
    refine XO.cF Try.call12 (works_ok) ?_
    rintro _ _ ⟨rfl, rfl⟩ _ e_; simp only [ca, na] at e_; subst e_
    refine XO.pu (Pu.pickT rfl rfl) ?_
    refine XO.pu (Pu.assign rfl) ?_
    refine XO.nil ?_
    refine X.sub (p' := [(2, _)]) ⟨rfl, trivial⟩ ?_
    refine X.retL (q) Try.func6 (res1 Try.results6 rfl) ⟨_, rfl, rfl, rfl⟩
set_option maxHeartbeats 2000000 in
theorem logDecodes_ok (hs : Sees q a (By l)) (hb : Bs l) (hc : l.length ≤ c) : CallF Try.prog G 5 [.slice a l.length c] q (Ret fun v q' => v = .bool true ∧ q' = q) := by
  refine CallF.of Try.func5 Try.ntmps5 rfl (fun F cs => ?_)
  refine X.sub (p' := [(0, _)]) ⟨rfl, trivial⟩ ?_
  refine X.seq ?_
  refine X.region ?_
  refine XO.pu (Pu.assign rfl) ?_
  refine XO.nil ?_
  refine X.sub (p' := [(2, _), (0, _)]) ⟨rfl, rfl, trivial⟩ ?_
  refine X.seq ?_
  refine X.seq ?_
  refine X.region ?_
  refine XO.pu (Pu.move rfl) ?_
  refine XO.pu (Pu.len rfl Try.underlying31) ?_
  refine XO.pu (Pu.gtr rfl rfl) ?_
  refine XO.nil ?_
  refine X.sub (p' := [(10, _), (2, _), (0, _)]) ⟨rfl, rfl, rfl, trivial⟩ ?_
  refine X.part 10 rfl (fun h0 => ?_) (fun h0 => ?_)
  · skip
    refine X.condT rfl ?_
    refine X.seq ?_
    refine X.region ?_
    refine XO.cF Try.call12 (works_ok) ?_
    rintro _ _ ⟨rfl, rfl⟩ _ e_; simp only [ca, na] at e_; subst e_
    refine XO.pu (Pu.assign rfl) ?_
    refine XO.nil ?_
    refine X.sub (p' := [(2, _), (0, _)]) ⟨rfl, rfl, trivial⟩ ?_
    refine X.retL (q) Try.func5 (res1 Try.results5 rfl) ⟨_, rfl, rfl, rfl⟩
  · skip
    try simp only [decide_eq_true_eq, decide_eq_false_iff_not, bne_iff_ne, beq_iff_eq, ne_eq, bne_eq_false_iff_eq, beq_eq_false_iff_ne, Bool.not_eq_true', Bool.not_eq_false', Int.not_lt, Int.not_le, Bool.not_not, Bool.and_eq_true, Bool.and_eq_false_iff, Bool.true_and, Bool.and_true, beq_self_eq_true, Bool.or_eq_true, Bool.or_eq_false_iff] at h0
    have hL : l.length ≤ 3000 := (by omega)
    refine X.condF rfl ?_
    refine X.skip ?_
    refine X.seq ?_
    refine X.region ?_
    refine XO.ef (Ef.lit0 (Value.int .u8) Try.underlying31 Try.info5) ?_
    rintro _ _ ⟨g1, rfl, rfl⟩
    refine XO.pu (Pu.move rfl) ?_
    refine XO.ef (Ef.appA (f := Value.int .u8) (l := []) (m := l) Try.underlying31 Try.info5 rfl rfl rfl fndA (hs.le leA) (fun _ => rfl) (by simp; omega) (by simp; omega)) ?_
    rintro _ _ ⟨a1, c1, rfl, rfl⟩
    rw [List.nil_append]
    refine XO.ef (Ef.lit1 (u := 77) (Value.int .u8) Try.underlying31 Try.info5 rfl rfl) ?_
    rintro _ _ ⟨g2, rfl, rfl⟩
    refine XO.ef (Ef.appA (f := Value.int .u8) (l := l) (m := [77]) Try.underlying31 Try.info5 rfl rfl rfl fndA ((Sees.lsH _).le leA) (fun _ => rfl) (by simp; omega) (by simp; omega)) ?_
    rintro _ _ ⟨a2, c2, rfl, rfl⟩
    refine XO.fact (fun w s => s.lsLen) (fun hcap => ?_)
    rw [List.length_append, List.length_singleton] at hcap
    have hcap1 := hcap.1
    refine XO.pu (Pu.move rfl) ?_
    refine XO.pu (Pu.len rfl Try.underlying31) ?_
    refine XO.pu (Pu.sliceHi rfl rfl Try.underlying31 Try.sizeOf5 (by omega) (by omega)) ?_
    refine XO.know 19 (.slice a2 l.length c2) rfl (congrArg (fun n => Value.slice a2 n c2) (by omega)) ?_
    refine XO.pu (Pu.assign rfl) ?_
    refine XO.nil ?_
    refine X.sub (p' := [(3, _), (2, _), (0, _)]) ⟨rfl, rfl, rfl, trivial⟩ ?_
    refine X.seq ?_
    refine X.region ?_
    refine XO.pu (Pu.move rfl) ?_
    have hs2 : Sees [lsH (Value.int .u8) 5 a2 c2 (l ++ [77])] a2 (By l) := by have := (Sees.lsH (f := Value.int .u8) (ty := 5) (a := a2) (c := c2) (l := l ++ [77]) []).take l.length; rwa [← List.map_take, List.take_left] at this
    refine XO.lsadr (l := l ++ [77]) (fl := Value.int .u8) (by simp) (fun g9 e_ => ?_); subst e_
    refine XO.cX Try.call17 (Le.refl _) (Decode_ok (l := l) (hs2.le leA) hb (by omega) (show l.length ≤ c2 by omega)) ?_
    rintro _ _ ⟨t1, a3, c3, ht1, rfl, rfl⟩
    refine XO.pu (Pu.move rfl) ?_
    refine XO.pu (Pu.extract rfl rfl) ?_
    refine XO.pu (Pu.extract rfl rfl) ?_
    refine XO.ef (Ef.alloc Try.zeroValue29) ?_
    rintro _ _ ⟨n1, rfl, rfl⟩
    refine XO.ef0 (Ef.stA Try.sizeOf29) ?_
    rintro _ _ ⟨rfl, rfl⟩
    refine XO.pu (Pu.assign rfl) ?_
    refine XO.nil ?_
    refine X.sub (p' := [(5, _), (4, _), (3, _), (2, _), (0, _)]) ⟨rfl, rfl, rfl, rfl, rfl, trivial⟩ ?_
    refine X.seq ?_
    refine X.region ?_
    refine XO.pu (Pu.move rfl) ?_
    refine XO.cX Try.call18 (Le.refl _) (RDecode_ok (l := l) (hs.le leA) hb (by omega) hc) ?_
    rintro _ _ ⟨t2, a4, c4, ht2, rfl, rfl⟩
    have htt : t1 = t2 := ht1.trans ht2.symm; subst htt
    have htl : t1.turns.length ≤ 65536 := by rw [ht1]; exact decP_turns _
    refine XO.pu (Pu.move rfl) ?_
    refine XO.pu (Pu.extract rfl rfl) ?_
    refine XO.pu (Pu.extract rfl rfl) ?_
    refine XO.ef (Ef.alloc Try.zeroValue29) ?_
    rintro _ _ ⟨n2, rfl, rfl⟩
    refine XO.ef0 (Ef.stA Try.sizeOf29) ?_
    rintro _ _ ⟨rfl, rfl⟩
    refine XO.pu (Pu.assign rfl) ?_
    refine XO.nil ?_
    refine X.sub (p' := [(7, _), (6, _), (5, _), (4, _), (3, _), (2, _), (0, _)]) ⟨rfl, rfl, rfl, rfl, rfl, rfl, rfl, trivial⟩ ?_
    refine X.seq ?_
    refine X.region ?_
    refine XO.ldA Try.isAgg29 Try.sizeOf29 ?_
    refine XO.ldA Try.isAgg29 Try.sizeOf29 ?_
    refine XO.cR Try.call19 (RSame_ok (t := t1) (u := t1) (a := a3) (b := a4) ((Sees.rsH []).le leA) ((Sees.rsH []).le leA) (by omega)) ?_
    refine XO.pu (Pu.move rfl) ?_
    refine XO.know 33 (.bool true) rfl (congrArg Value.bool (by simp)) ?_
    refine XO.pu (Pu.move rfl) ?_
    refine XO.cF Try.call15 (num_ok _) ?_
    rintro _ _ ⟨rfl, rfl⟩ _ e_; simp only [ca, na] at e_; subst e_
    refine XO.pu (Pu.move rfl) ?_
    refine XO.pu (Pu.eql rfl rfl) ?_
    refine XO.pu (Pu.pickT rfl rfl) ?_
    refine XO.pu (Pu.move rfl) ?_
    refine XO.know 39 (.bool true) rfl (congrArg Value.bool (by simp)) ?_
    refine XO.pu (Pu.move rfl) ?_
    refine XO.toStr l Try.underlying31 Try.underlying5 Try.underlying9 (hs2.le leA) ?_
    refine XO.pu (Pu.move rfl) ?_
    refine XO.toStr l Try.underlying31 Try.underlying5 Try.underlying9 (hs.le leA) ?_
    refine XO.pu (Pu.eqlS rfl rfl) ?_
    refine XO.pu (Pu.pickT rfl rfl) ?_
    refine XO.pu (Pu.move rfl) ?_
    refine XO.know 46 (.bool true) rfl (congrArg Value.bool (by simp)) ?_
    have hsz : Sees [lsH (Value.int .u8) 5 (some ⟨g9, 0, none⟩) c2 (l ++ [77])] (some ⟨g9, 0, none⟩) ((l ++ [77]).map (Value.int .u8)) := Sees.lsH []
    refine XO.pu (Pu.move rfl) ?_
    refine XO.pu (Pu.move rfl) ?_
    refine XO.pu (Pu.len rfl Try.underlying31) ?_
    refine XO.pu (Pu.add rfl rfl (by omega) (by omega)) ?_
    refine XO.pu (Pu.sliceHi rfl rfl Try.underlying31 Try.sizeOf5 (by omega) (by omega)) ?_
    refine XO.pu (Pu.move rfl) ?_
    refine XO.pu (Pu.len rfl Try.underlying31) ?_
    refine XO.pu (Pu.indexAddr rfl rfl Try.underlying31 Try.sizeOf5 (by omega) (by omega)) ?_
    refine XO.ld Try.isAgg5 ?_ (hc := (by first | exact clA | exact Cl.e1 (n := l.length) hsz leA (by simp) rfl))
    refine XO.pu (Pu.eql rfl rfl) ?_
    refine XO.pu (Pu.pickT rfl rfl) ?_
    refine XO.pu (Pu.move rfl) ?_
    refine XO.know 58 (.bool true) rfl (congrArg Value.bool (by simp)) ?_
    refine XO.cF Try.call12 (works_ok) ?_
    rintro _ _ ⟨rfl, rfl⟩ _ e_; simp only [ca, na] at e_; subst e_
    refine XO.pu (Pu.pickT rfl rfl) ?_
    refine XO.pu (Pu.assign rfl) ?_
    refine XO.nil ?_
    refine X.sub (p' := [(2, _)]) ⟨rfl, trivial⟩ ?_
    refine X.retL (q) Try.func5 (res1 Try.results5 rfl) ⟨_, rfl, rfl, rfl⟩
end
end Go.Proofs.Ytiehcgmbkjdagaa

