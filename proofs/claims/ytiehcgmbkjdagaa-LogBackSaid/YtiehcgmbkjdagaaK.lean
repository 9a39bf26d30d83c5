/- What functions of package log, of its references and of its laws do: contracts of calls, proved by walking their code. -/
import Derived.Test.YtiehcgmbkjdagaaJ
import Derived.Test.YtiehcgmbkjdagaaWx19
import Derived.KernelRfl
set_option maxRecDepth 100000
set_option linter.unusedVariables false
set_option linter.unusedSimpArgs false
namespace Go.Proofs.Ytiehcgmbkjdagaa
open Go Go.RowKit Wx

theorem encB_len {t : Tkn} (ok : okT t) : (encB t).length ≤ 1000000 := by
  have f := okF ok
  have h1 := encT_len t.turns
  have h2 := f.len
  have h3 := vb_len t.turns.length
  have h4 := vb_len t.e.2.2.2.toNat
  have h5 : (le4 t.hash).length = 4 := rfl
  have h6 : (le4 (sumB (encP t))).length = 4 := rfl
  simp only [encB, sealB, encP, List.length_append, List.length_cons, List.length_nil] at *
  omega
section
variable {G : World} {q : List HP} {a b : Option Addr} {c d p n2 n3 i0 : Nat} {l : List Int} {t u : Tkn}
theorem logSums_ok (hs : Sees q a (By l)) (hb : Bs l) : CallF Try.prog G 7 [.slice a l.length c] q (Ret fun v q' => v = .bool true ∧ q' = q) := by
  refine CallF.of Try.func7 Try.ntmps7 rfl (fun F cs => ?_)
  refine X.sub (p' := [(0, _)]) ⟨rfl, trivial⟩ ?_
  refine X.seq ?_
  refine X.region ?_
  refine XO.pu (Pu.assign rfl) ?_
  refine XO.nil ?_
  refine X.sub (p' := [(2, _), (0, _)]) ⟨rfl, rfl, trivial⟩ ?_
  refine X.seq ?_
  refine X.seq ?_
  refine X.region ?_
  refine XO.pu (Pu.move rfl) ?_
  refine XO.pu (Pu.len rfl Try.underlying31) ?_
  refine XO.pu (Pu.gtr rfl rfl) ?_
  refine XO.nil ?_
  refine X.sub (p' := [(5, _), (2, _), (0, _)]) ⟨rfl, rfl, rfl, trivial⟩ ?_
  refine X.part 5 rfl (fun h0 => ?_) (fun h0 => ?_)
  · skip
    refine X.condT rfl ?_
    refine X.seq ?_
    refine X.region ?_
    refine XO.cF Try.call12 (works_ok) ?_
    rintro _ _ ⟨rfl, rfl⟩ _ e_; simp only [ca, na] at e_; subst e_
    refine XO.pu (Pu.assign rfl) ?_
    refine XO.nil ?_
    refine X.sub (p' := [(2, _), (0, _)]) ⟨rfl, rfl, trivial⟩ ?_
    refine X.retL (q) Try.func7 (res1 Try.results7 rfl) ⟨_, rfl, rfl, rfl⟩
  · skip
    try simp only [decide_eq_true_eq, decide_eq_false_iff_not, bne_iff_ne, beq_iff_eq, ne_eq, bne_eq_false_iff_eq, beq_eq_false_iff_ne, Bool.not_eq_true', Bool.not_eq_false', Int.not_lt, Int.not_le, Bool.not_not, Bool.and_eq_true, Bool.and_eq_false_iff, Bool.true_and, Bool.and_true, beq_self_eq_true, Bool.or_eq_true, Bool.or_eq_false_iff] at h0
    have hL : l.length ≤ 3000 := (by omega)
    refine X.condF rfl ?_
    refine X.skip ?_
    refine X.seq ?_
    refine X.region ?_
    refine XO.pu (Pu.move rfl) ?_
    refine XO.cR Try.call21 (Sum_ok (l := l) (hs.le leA) hb (by omega)) ?_
    refine XO.pu (Pu.move rfl) ?_
    refine XO.cR Try.call22 (RSum_ok (l := l) (hs.le leA) hb (by omega)) ?_
    refine XO.pu (Pu.eql rfl rfl) ?_
    refine XO.pu (Pu.move rfl) ?_
    refine XO.know 12 (.bool true) rfl (congrArg Value.bool (by simp)) ?_
    refine XO.cF Try.call12 (works_ok) ?_
    rintro _ _ ⟨rfl, rfl⟩ _ e_; simp only [ca, na] at e_; subst e_
    refine XO.pu (Pu.pickT rfl rfl) ?_
    refine XO.pu (Pu.assign rfl) ?_
    refine XO.nil ?_
    refine X.sub (p' := [(2, _)]) ⟨rfl, trivial⟩ ?_
    refine X.retL (q) Try.func7 (res1 Try.results7 rfl) ⟨_, rfl, rfl, rfl⟩
set_option maxHeartbeats 1000000 in
theorem logChecks_ok (hs : Sees q a (t.turns.flatMap tcs)) (ht : Sees q b (u.turns.flatMap tcs)) : CallF Try.prog G 9 [t.v a c, u.v b d] q (Ret fun v q' => v = .bool true ∧ q' = q) := by
  refine CallF.of Try.func9 Try.ntmps9 rfl (fun F cs => ?_)
  refine X.sub (p' := [(0, _), (1, _)]) ⟨rfl, rfl, trivial⟩ ?_
  unfold Tkn.v Tkn.cs
  refine X.seq ?_
  refine X.region ?_
  refine XO.ef (Ef.box rfl) ?_
  rintro _ _ ⟨n1, rfl, rfl⟩
  refine XO.ef (Ef.box rfl) ?_
  rintro _ _ ⟨n2, rfl, rfl⟩
  refine XO.pu (Pu.assign rfl) ?_
  refine XO.nil ?_
  refine X.sub (p' := [(4, _), (3, _), (2, _)]) ⟨rfl, rfl, rfl, trivial⟩ ?_
  refine X.seq ?_
  refine X.seq ?_
  refine X.region ?_
  refine XO.pu (Pu.fieldAddr 23 1 0 rfl Try.underlying29 rfl Try.sizeOf23) ?_
  refine XO.ld Try.isAgg23 ?_
  refine XO.pu (Pu.len rfl Try.underlying23) ?_
  refine XO.pu (Pu.gtr rfl rfl) ?_
  refine XO.pu (Pu.move rfl) ?_
  refine XO.sub (p' := [(9, _), (4, _), (3, _), (2, _)]) ⟨rfl, rfl, rfl, rfl, trivial⟩ ?_
  apply XO.cutOr 5 14 9 rfl
  · skip
    intro g1 M1; have h1 := g1; try simp only [decide_eq_true_eq, decide_eq_false_iff_not, bne_iff_ne, beq_iff_eq, ne_eq, bne_eq_false_iff_eq, beq_eq_false_iff_ne, Bool.not_eq_true', Bool.not_eq_false', Int.not_lt, Int.not_le, Bool.not_not, Bool.and_eq_true, Bool.and_eq_false_iff, Bool.true_and, Bool.and_true, beq_self_eq_true, Bool.or_eq_true, Bool.or_eq_false_iff] at h1
    refine XO.pu (Pu.fieldAddr 23 1 0 rfl Try.underlying29 rfl Try.sizeOf23) ?_
    refine XO.ld Try.isAgg23 ?_
    refine XO.pu (Pu.len rfl Try.underlying23) ?_
    refine XO.pu (Pu.gtr rfl rfl) ?_
    refine XO.pu (Pu.pickF rfl rfl) ?_
    exact XO.fin M1 ⟨orF g1, congrArg (fun x => some (Value.bool x)) g1.symm, rfl, rfl, rfl, trivial⟩
  · skip
    intro g1 M1; have h1 := g1; try simp only [decide_eq_true_eq, decide_eq_false_iff_not, bne_iff_ne, beq_iff_eq, ne_eq, bne_eq_false_iff_eq, beq_eq_false_iff_ne, Bool.not_eq_true', Bool.not_eq_false', Int.not_lt, Int.not_le, Bool.not_not, Bool.and_eq_true, Bool.and_eq_false_iff, Bool.true_and, Bool.and_true, beq_self_eq_true, Bool.or_eq_true, Bool.or_eq_false_iff] at h1
    refine XO.pass rfl ?_
    refine XO.pass rfl ?_
    refine XO.pass rfl ?_
    refine XO.pass rfl ?_
    refine XO.pu (Pu.pickT rfl rfl) ?_
    exact XO.fin M1 ⟨orT g1, congrArg (fun x => some (Value.bool x)) g1.symm, rfl, rfl, rfl, trivial⟩
  · skip
    refine XO.nil ?_
    refine X.sub (p' := [(14, _), (4, _), (3, _), (2, _)]) ⟨rfl, rfl, rfl, rfl, trivial⟩ ?_
    refine X.part 14 rfl (fun h0 => ?_) (fun h0 => ?_)
    · skip
      refine X.condT rfl ?_
      refine X.seq ?_
      refine X.region ?_
      refine XO.cF Try.call12 (works_ok) ?_
      rintro _ _ ⟨rfl, rfl⟩ _ e_; simp only [ca, na] at e_; subst e_
      refine XO.pu (Pu.assign rfl) ?_
      refine XO.nil ?_
      refine X.sub (p' := [(4, _), (3, _), (2, _)]) ⟨rfl, rfl, rfl, trivial⟩ ?_
      refine X.retL (q) Try.func9 (res1 Try.results9 rfl) ⟨_, rfl, rfl, rfl⟩
    · skip
      try simp only [decide_eq_true_eq, decide_eq_false_iff_not, bne_iff_ne, beq_iff_eq, ne_eq, bne_eq_false_iff_eq, beq_eq_false_iff_ne, Bool.not_eq_true', Bool.not_eq_false', Int.not_lt, Int.not_le, Bool.not_not, Bool.and_eq_true, Bool.and_eq_false_iff, Bool.true_and, Bool.and_true, beq_self_eq_true, Bool.or_eq_true, Bool.or_eq_false_iff] at h0
      have hL : t.turns.length ≤ 500 := (by omega); have hL2 : u.turns.length ≤ 500 := (by omega)
      refine X.condF rfl ?_
      refine X.skip ?_
      refine X.seq ?_
      refine X.draw [] Try.mixed (by kernel_rfl) (by kernel_rfl) rfl ?_
      refine XD.loadA 0 rfl rfl Try.isAgg29 Try.sizeOf29 hasA (by rfl) ?_
      refine XD.loadA 3 rfl rfl Try.isAgg29 Try.sizeOf29 hasA (by rfl) ?_
      refine XD.cRL 1 Try.call26 (Check_ok (t := t) (a := a) (c := c) (hs.le leA)) ?_
      refine XD.cF 2 Try.call15 (num_ok _) ?_
      rintro _ _ ⟨rfl, rfl⟩ _ e_; simp only [ca, na] at e_; subst e_
      refine ⟨hlA, ?_⟩
      refine XD.cRL 4 Try.call14 (RCheck_ok (t := t) (a := a) (c := c) (hs.le leA)) ?_
      refine XD.pu 5 rfl (Pu.eql rfl rfl) ?_
      refine XD.pu 6 rfl (Pu.move rfl) ?_
      refine XD.know 22 (.bool true) rfl (congrArg Value.bool (by simp)) ?_
      refine XD.loadA 7 rfl rfl Try.isAgg29 Try.sizeOf29 hasA (by rfl) ?_
      refine XD.loadA 8 rfl rfl Try.isAgg29 Try.sizeOf29 hasA (by rfl) ?_
      refine XD.loadA 10 rfl rfl Try.isAgg29 Try.sizeOf29 hasA (by rfl) ?_
      refine XD.loadA 11 rfl rfl Try.isAgg29 Try.sizeOf29 hasA (by rfl) ?_
      refine XD.cRL 9 Try.call27 (Same_ok (t := t) (u := u) (a := a) (b := b) (hs.le leA) (ht.le leA) (by omega)) ?_
      refine XD.cRL 12 Try.call19 (RSame_ok (t := t) (u := u) (a := a) (b := b) (hs.le leA) (ht.le leA) (by omega)) ?_
      refine XD.pu 13 rfl (Pu.eqlB rfl rfl Try.underlying4) ?_
      refine XD.pu 14 rfl (Pu.pickT rfl rfl) ?_
      refine XD.pu 15 rfl (Pu.move rfl) ?_
      refine XD.know 31 (.bool true) rfl (congrArg Value.bool (by simp)) ?_
      refine XD.loadA 16 rfl rfl Try.isAgg29 Try.sizeOf29 hasA (by rfl) ?_
      refine XD.loadA 17 rfl rfl Try.isAgg29 Try.sizeOf29 hasA (by rfl) ?_
      refine XD.cRL 18 Try.call27 (Same_ok (t := t) (u := t) (a := a) (b := a) (hs.le leA) (hs.le leA) (by omega)) ?_
      refine XD.pu 19 rfl (Pu.pickT rfl rfl) ?_
      refine XD.pu 20 rfl (Pu.move rfl) ?_
      refine XD.know 36 (.bool true) rfl (congrArg Value.bool (by simp)) ?_
      refine XD.cF 21 Try.call12 (works_ok) ?_
      rintro _ _ ⟨rfl, rfl⟩ _ e_; simp only [ca, na] at e_; subst e_
      refine ⟨trivial, ?_⟩
      refine XD.pu 22 rfl (Pu.pickT rfl rfl) ?_
      refine XD.pu 23 rfl (Pu.assign rfl) ?_
      refine XD.nil ?_
      refine X.sub (p' := [(4, _)]) ⟨rfl, trivial⟩ ?_
      refine X.retL (q) Try.func9 (res1 Try.results9 rfl) ⟨_, rfl, rfl, rfl⟩
set_option maxHeartbeats 1000000 in
theorem logEncodes_ok (hs : Sees q a (t.turns.flatMap tcs)) (hh : 0 ≤ t.hash ∧ t.hash < 4294967296) : CallF Try.prog G 3 [t.v a c] q (Ret fun v q' => v = .bool true ∧ q' = q) := by
  refine CallF.of Try.func3 Try.ntmps3 rfl (fun F cs => ?_)
  refine X.sub (p' := [(0, _)]) ⟨rfl, trivial⟩ ?_
  unfold Tkn.v Tkn.cs
  refine X.seq ?_
  refine X.region ?_
  refine XO.ef (Ef.box rfl) ?_
  rintro _ _ ⟨n1, rfl, rfl⟩
  refine XO.pu (Pu.assign rfl) ?_
  refine XO.nil ?_
  refine X.sub (p' := [(2, _), (1, _)]) ⟨rfl, rfl, trivial⟩ ?_
  refine X.seq ?_
  refine X.seq ?_
  refine X.region ?_
  refine XO.pu (Pu.fieldAddr 23 1 0 rfl Try.underlying29 rfl Try.sizeOf23) ?_
  refine XO.ld Try.isAgg23 ?_
  refine XO.pu (Pu.len rfl Try.underlying23) ?_
  refine XO.pu (Pu.gtr rfl rfl) ?_
  refine XO.nil ?_
  refine X.sub (p' := [(8, _), (2, _), (1, _)]) ⟨rfl, rfl, rfl, trivial⟩ ?_
  refine X.part 8 rfl (fun h0 => ?_) (fun h0 => ?_)
  · skip
    refine X.condT rfl ?_
    refine X.seq ?_
    refine X.region ?_
    refine XO.cF Try.call12 (works_ok) ?_
    rintro _ _ ⟨rfl, rfl⟩ _ e_; simp only [ca, na] at e_; subst e_
    refine XO.pu (Pu.assign rfl) ?_
    refine XO.nil ?_
    refine X.sub (p' := [(2, _), (1, _)]) ⟨rfl, rfl, trivial⟩ ?_
    refine X.retL (q) Try.func3 (res1 Try.results3 rfl) ⟨_, rfl, rfl, rfl⟩
  · skip
    try simp only [decide_eq_true_eq, decide_eq_false_iff_not, bne_iff_ne, beq_iff_eq, ne_eq, bne_eq_false_iff_eq, beq_eq_false_iff_ne, Bool.not_eq_true', Bool.not_eq_false', Int.not_lt, Int.not_le, Bool.not_not, Bool.and_eq_true, Bool.and_eq_false_iff, Bool.true_and, Bool.and_true, beq_self_eq_true, Bool.or_eq_true, Bool.or_eq_false_iff] at h0
    refine X.condF rfl ?_
    refine X.skip ?_
    refine X.seq ?_
    refine X.region ?_
    refine XO.ldA Try.isAgg29 Try.sizeOf29 ?_
    rcases Decidable.em (okT t) with ok | ok
    · skip
      refine XO.cX Try.call13 (Le.refl _) (Encode_ok (t := t) (a := a) (c := c) (hs.le leA) ok hh) ?_
      rintro _ _ ⟨a2, c2, rfl, rfl⟩
      refine XO.pu (Pu.move rfl) ?_
      refine XO.pu (Pu.extract rfl rfl) ?_
      refine XO.pu (Pu.extract rfl rfl) ?_
      refine XO.pu (Pu.assign rfl) ?_
      refine XO.pu (Pu.assign rfl) ?_
      refine XO.nil ?_
      refine X.sub (p' := [(4, _), (3, _), (2, _), (1, _)]) ⟨rfl, rfl, rfl, rfl, trivial⟩ ?_
      refine X.seq ?_
      refine X.seq ?_
      refine X.region ?_
      refine XO.ldA Try.isAgg29 Try.sizeOf29 ?_
      refine XO.cR Try.call14 (RCheck_ok (t := t) (a := a) (c := c) (hs.le leA)) ?_
      rw [show chk t = 0 from if_pos ok]
      refine XO.pu (Pu.neq rfl rfl) ?_
      refine XO.nil ?_
      refine X.sub (p' := [(17, _), (4, _), (3, _), (2, _), (1, _)]) ⟨rfl, rfl, rfl, rfl, rfl, trivial⟩ ?_
      refine X.know 17 (.bool false) rfl (congrArg Value.bool (rfl)) ?_
      refine X.condF rfl ?_
      refine X.skip ?_
      refine X.seq ?_
      refine X.draw [] Try.mixed (by kernel_rfl) (by kernel_rfl) rfl ?_
      refine XD.pu 0 rfl (Pu.move rfl) ?_
      refine XD.cF 1 Try.call15 (num_ok _) ?_
      rintro _ _ ⟨rfl, rfl⟩ _ e_; simp only [ca, na] at e_; subst e_
      refine ⟨trivial, ?_⟩
      refine XD.pu 2 rfl (Pu.eql rfl rfl) ?_
      refine XD.pu 3 rfl (Pu.move rfl) ?_
      refine XD.know 32 (.bool true) rfl (congrArg Value.bool (rfl)) ?_
      have hbs := encB_bs ok; have hbl := encB_len ok
      refine XD.pu 4 rfl (Pu.move rfl) ?_
      have hb0 : 0 < (encB (t)).length := by unfold encB sealB; rw [List.length_append]; have : (le4 (sumB (encP (t)))).length = 4 := rfl; omega
      refine XD.lsadr (l := encB (t)) (fl := Value.int .u8) hb0 (fun g5 e_ => ?_); subst e_
      refine XD.toStrN 5 (encB (t)) Try.underlying31 Try.underlying5 Try.underlying9 ((Sees.lsH (f := Value.int .u8) (ty := 5) (c := c2) (a := some ⟨g5, 0, none⟩) (l := encB (t)) [])) ?_
      refine XD.loadA 6 rfl rfl Try.isAgg29 Try.sizeOf29 hasA (by rfl) ?_
      refine XD.cX 7 Try.call16 (Le.refl _) (REncode_ok (t := t) (a := a) (c := c) (hs.le leA) ok hh) ?_
      rintro _ _ ⟨a3, c3, rfl, rfl⟩
      rw [cut_rdA_t (i := 6) rfl, cut_rdA (i := 5) rfl]
      refine ⟨HL.app (HL.bytes (Sees.lsH (f := Value.int .u8) (ty := 5) (c := c2) (a := some ⟨g5, 0, none⟩) (l := encB (t)) [])) hlA, ?_⟩
      refine XD.lsadr (l := encB (t)) (fl := Value.int .u8) (a := a3) hb0 (fun g6 e_ => ?_); subst e_
      refine XD.toStrN 8 (encB (t)) Try.underlying31 Try.underlying5 Try.underlying9 (Sees.lsH (f := Value.int .u8) (ty := 5) (c := c3) (a := some ⟨g6, 0, none⟩) (l := encB (t)) []) ?_
      refine XD.pu 9 rfl (Pu.eqlS rfl rfl) ?_
      refine XD.pu 10 rfl (Pu.pickT rfl rfl) ?_
      refine XD.pu 11 rfl (Pu.move rfl) ?_
      refine XD.know 40 (.bool true) rfl (congrArg Value.bool (by simp)) ?_
      refine XD.cF 12 Try.call12 works_ok ?_
      rintro _ _ ⟨rfl, rfl⟩ _ e_; simp only [ca, na] at e_; subst e_
      rw [cut_rdA rfl, cut_rdA rfl]
      refine ⟨HL.app (HL.bytes (Sees.lsH (f := Value.int .u8) (ty := 5) (c := c3) (a := some ⟨g6, 0, none⟩) (l := encB (t)) [])) (HL.app (HL.bytes (Sees.lsH (f := Value.int .u8) (ty := 5) (c := c2) (a := some ⟨g5, 0, none⟩) (l := encB (t)) [])) hlA), ?_⟩
      refine XD.pu 13 rfl (Pu.pickT rfl rfl) ?_
      refine XD.pu 14 rfl (Pu.assign rfl) ?_
      refine XD.nil ?_
      refine X.sub (p' := [(2, _)]) ⟨rfl, trivial⟩ ?_
      refine X.retL (q) Try.func3 (res1 Try.results3 rfl) ⟨_, rfl, rfl, rfl⟩
    · skip
      refine XO.cX Try.call13 (Le.refl _) (Encode_no (t := t) (a := a) (c := c) (hs.le leA) ok) ?_
      rintro _ _ ⟨rfl, rfl⟩
      refine XO.pu (Pu.move rfl) ?_
      refine XO.pu (Pu.extract rfl rfl) ?_
      refine XO.pu (Pu.extract rfl rfl) ?_
      refine XO.pu (Pu.assign rfl) ?_
      refine XO.pu (Pu.assign rfl) ?_
      refine XO.nil ?_
      refine X.sub (p' := [(4, _), (3, _), (2, _), (1, _)]) ⟨rfl, rfl, rfl, rfl, trivial⟩ ?_
      refine X.seq ?_
      refine X.seq ?_
      refine X.region ?_
      refine XO.ldA Try.isAgg29 Try.sizeOf29 ?_
      refine XO.cR Try.call14 (RCheck_ok (t := t) (a := a) (c := c) (hs.le leA)) ?_
      rw [show chk t = 2 from if_neg ok]
      refine XO.pu (Pu.neq rfl rfl) ?_
      refine XO.nil ?_
      refine X.sub (p' := [(17, _), (4, _), (3, _), (2, _), (1, _)]) ⟨rfl, rfl, rfl, rfl, rfl, trivial⟩ ?_
      refine X.know 17 (.bool true) rfl (congrArg Value.bool (rfl)) ?_
      refine X.condT rfl ?_
      refine X.seq ?_
      refine X.region ?_
      refine XO.pu (Pu.move rfl) ?_
      refine XO.pu (Pu.len rfl Try.underlying31) ?_
      refine XO.pu (Pu.eql rfl rfl) ?_
      refine XO.pu (Pu.move rfl) ?_
      refine XO.know 21 (.bool true) rfl (congrArg Value.bool (rfl)) ?_
      refine XO.pu (Pu.move rfl) ?_
      refine XO.cF Try.call15 (num_ok _) ?_
      rintro _ _ ⟨rfl, rfl⟩ _ e_; simp only [ca, na] at e_; subst e_
      refine XO.pu (Pu.eql rfl rfl) ?_
      refine XO.pu (Pu.pickT rfl rfl) ?_
      refine XO.pu (Pu.move rfl) ?_
      refine XO.know 26 (.bool true) rfl (congrArg Value.bool (rfl)) ?_
      refine XO.cF Try.call12 (works_ok) ?_
      rintro _ _ ⟨rfl, rfl⟩ _ e_; simp only [ca, na] at e_; subst e_
      refine XO.pu (Pu.pickT rfl rfl) ?_
      refine XO.pu (Pu.assign rfl) ?_
      refine XO.nil ?_
      refine X.sub (p' := [(2, _), (4, _), (3, _), (1, _)]) ⟨rfl, rfl, rfl, rfl, trivial⟩ ?_
      refine X.retL (q) Try.func3 (res1 Try.results3 rfl) ⟨_, rfl, rfl, rfl⟩
set_option maxHeartbeats 1000000 in
theorem logEnds_ok (e : Outc) : CallF Try.prog G 4 [.agg (ocs e).toArray] [] (Ret fun v q' => v = .bool true ∧ q' = []) := by
  refine CallF.of Try.func4 Try.ntmps4 rfl (fun F cs => ?_)
  refine X.sub (p' := [(0, _)]) ⟨rfl, trivial⟩ ?_
  obtain ⟨e1, e2, e3, e4⟩ := e
  have hs : ∀ q, Sees q none ((⟨0, [], e1, e2, e3, e4⟩ : Tkn).turns.flatMap tcs) := fun q => Sees.nil q none
  have hh : 0 ≤ (⟨0, [], e1, e2, e3, e4⟩ : Tkn).hash ∧ (⟨0, [], e1, e2, e3, e4⟩ : Tkn).hash < 4294967296 := show (0 : Int) ≤ 0 ∧ (0 : Int) < 4294967296 from by decide
  unfold ocs
  refine X.seq ?_
  refine X.region ?_
  refine XO.ef (Ef.box rfl) ?_
  rintro _ _ ⟨n1, rfl, rfl⟩
  refine XO.pu (Pu.assign rfl) ?_
  refine XO.nil ?_
  refine X.sub (p' := [(2, _), (1, _)]) ⟨rfl, rfl, trivial⟩ ?_
  refine X.seq ?_
  refine X.region ?_
  refine XO.ldA Try.isAgg27 Try.sizeOf27 ?_
  refine XO.pu (Pu.build (cells := [_, _, _, _, _, _]) [(0, 1), (1, 1), (2, 4)] Try.zeroValue29 Try.underlying29 (by kernel_rfl) rfl rfl) ?_
  refine XO.ef (Ef.alloc Try.zeroValue29) ?_
  rintro _ _ ⟨n2, rfl, rfl⟩
  refine XO.ef0 (Ef.stA Try.sizeOf29) ?_
  rintro _ _ ⟨rfl, rfl⟩
  refine XO.nil ?_
  refine X.sub (p' := [(3, _), (2, _)]) ⟨rfl, rfl, trivial⟩ ?_
  refine X.seq ?_
  refine X.region ?_
  refine XO.ldA Try.isAgg29 Try.sizeOf29 ?_
  generalize ht : (⟨0, [], e1, e2, e3, e4⟩ : Tkn) = t at hs hh
  rcases Decidable.em (okT t) with ok | ok
  · skip
    subst ht
    refine XO.cX Try.call13 (Le.refl _) (Encode_ok (t := (⟨0, [], e1, e2, e3, e4⟩ : Tkn)) (a := none) (c := 0) (hs _) ok hh) ?_
    rintro _ _ ⟨a2, c2, rfl, rfl⟩
    refine XO.pu (Pu.move rfl) ?_
    refine XO.pu (Pu.extract rfl rfl) ?_
    refine XO.pu (Pu.extract rfl rfl) ?_
    refine XO.pu (Pu.assign rfl) ?_
    refine XO.pu (Pu.assign rfl) ?_
    refine XO.nil ?_
    refine X.sub (p' := [(5, _), (4, _), (3, _), (2, _)]) ⟨rfl, rfl, rfl, rfl, trivial⟩ ?_
    refine X.seq ?_
    refine X.seq ?_
    refine X.region ?_
    refine XO.ldA Try.isAgg29 Try.sizeOf29 ?_
    refine XO.cR Try.call14 (RCheck_ok (t := (⟨0, [], e1, e2, e3, e4⟩ : Tkn)) (a := none) (c := 0) (hs _)) ?_
    rw [show chk (⟨0, [], e1, e2, e3, e4⟩ : Tkn) = 0 from if_pos ok]
    refine XO.pu (Pu.neq rfl rfl) ?_
    refine XO.nil ?_
    refine X.sub (p' := [(15, _), (5, _), (4, _), (3, _), (2, _)]) ⟨rfl, rfl, rfl, rfl, rfl, trivial⟩ ?_
    refine X.know 15 (.bool false) rfl (congrArg Value.bool (rfl)) ?_
    refine X.condF rfl ?_
    refine X.skip ?_
    refine X.seq ?_
    refine X.draw [] Try.mixed (by kernel_rfl) (by kernel_rfl) rfl ?_
    refine XD.pu 0 rfl (Pu.move rfl) ?_
    refine XD.cF 1 Try.call15 (num_ok _) ?_
    rintro _ _ ⟨rfl, rfl⟩ _ e_; simp only [ca, na] at e_; subst e_
    refine ⟨trivial, ?_⟩
    refine XD.pu 2 rfl (Pu.eql rfl rfl) ?_
    refine XD.pu 3 rfl (Pu.move rfl) ?_
    refine XD.know 30 (.bool true) rfl (congrArg Value.bool (rfl)) ?_
    have hbs := encB_bs ok; have hbl := encB_len ok
    refine XD.pu 4 rfl (Pu.move rfl) ?_
    have hb0 : 0 < (encB ((⟨0, [], e1, e2, e3, e4⟩ : Tkn))).length := by unfold encB sealB; rw [List.length_append]; have : (le4 (sumB (encP ((⟨0, [], e1, e2, e3, e4⟩ : Tkn))))).length = 4 := rfl; omega
    refine XD.lsadr (l := encB ((⟨0, [], e1, e2, e3, e4⟩ : Tkn))) (fl := Value.int .u8) hb0 (fun g5 e_ => ?_); subst e_
    refine XD.toStrN 5 (encB ((⟨0, [], e1, e2, e3, e4⟩ : Tkn))) Try.underlying31 Try.underlying5 Try.underlying9 ((Sees.lsH (f := Value.int .u8) (ty := 5) (c := c2) (a := some ⟨g5, 0, none⟩) (l := encB ((⟨0, [], e1, e2, e3, e4⟩ : Tkn))) [])) ?_
    refine XD.loadA 6 rfl rfl Try.isAgg29 Try.sizeOf29 hasA (by rfl) ?_
    refine XD.cX 7 Try.call16 (Le.refl _) (REncode_ok (t := (⟨0, [], e1, e2, e3, e4⟩ : Tkn)) (a := none) (c := 0) (hs _) ok hh) ?_
    rintro _ _ ⟨a3, c3, rfl, rfl⟩
    rw [cut_rdA_t (i := 6) rfl, cut_rdA (i := 5) rfl]
    refine ⟨HL.app (HL.bytes (Sees.lsH (f := Value.int .u8) (ty := 5) (c := c2) (a := some ⟨g5, 0, none⟩) (l := encB ((⟨0, [], e1, e2, e3, e4⟩ : Tkn))) [])) hlA, ?_⟩
    refine XD.lsadr (l := encB ((⟨0, [], e1, e2, e3, e4⟩ : Tkn))) (fl := Value.int .u8) (a := a3) hb0 (fun g6 e_ => ?_); subst e_
    refine XD.toStrN 8 (encB ((⟨0, [], e1, e2, e3, e4⟩ : Tkn))) Try.underlying31 Try.underlying5 Try.underlying9 (Sees.lsH (f := Value.int .u8) (ty := 5) (c := c3) (a := some ⟨g6, 0, none⟩) (l := encB ((⟨0, [], e1, e2, e3, e4⟩ : Tkn))) []) ?_
    refine XD.pu 9 rfl (Pu.eqlS rfl rfl) ?_
    refine XD.pu 10 rfl (Pu.pickT rfl rfl) ?_
    refine XD.pu 11 rfl (Pu.move rfl) ?_
    refine XD.know 38 (.bool true) rfl (congrArg Value.bool (by simp)) ?_
    refine XD.cF 12 Try.call12 works_ok ?_
    rintro _ _ ⟨rfl, rfl⟩ _ e_; simp only [ca, na] at e_; subst e_
    rw [cut_rdA rfl, cut_rdA rfl]
    refine ⟨HL.app (HL.bytes (Sees.lsH (f := Value.int .u8) (ty := 5) (c := c3) (a := some ⟨g6, 0, none⟩) (l := encB ((⟨0, [], e1, e2, e3, e4⟩ : Tkn))) [])) (HL.app (HL.bytes (Sees.lsH (f := Value.int .u8) (ty := 5) (c := c2) (a := some ⟨g5, 0, none⟩) (l := encB ((⟨0, [], e1, e2, e3, e4⟩ : Tkn))) [])) hlA), ?_⟩
    refine XD.pu 13 rfl (Pu.pickT rfl rfl) ?_
    refine XD.pu 14 rfl (Pu.assign rfl) ?_
    refine XD.nil ?_
    refine X.sub (p' := [(2, _)]) ⟨rfl, trivial⟩ ?_
    refine X.retL [] Try.func4 (res1 Try.results4 rfl) ⟨_, rfl, rfl, rfl⟩
  · skip
    subst ht
    refine XO.cX Try.call13 (Le.refl _) (Encode_no (t := (⟨0, [], e1, e2, e3, e4⟩ : Tkn)) (a := none) (c := 0) (hs _) ok) ?_
    rintro _ _ ⟨rfl, rfl⟩
    refine XO.pu (Pu.move rfl) ?_
    refine XO.pu (Pu.extract rfl rfl) ?_
    refine XO.pu (Pu.extract rfl rfl) ?_
    refine XO.pu (Pu.assign rfl) ?_
    refine XO.pu (Pu.assign rfl) ?_
    refine XO.nil ?_
    refine X.sub (p' := [(5, _), (4, _), (3, _), (2, _)]) ⟨rfl, rfl, rfl, rfl, trivial⟩ ?_
    refine X.seq ?_
    refine X.seq ?_
    refine X.region ?_
    refine XO.ldA Try.isAgg29 Try.sizeOf29 ?_
    refine XO.cR Try.call14 (RCheck_ok (t := (⟨0, [], e1, e2, e3, e4⟩ : Tkn)) (a := none) (c := 0) (hs _)) ?_
    rw [show chk (⟨0, [], e1, e2, e3, e4⟩ : Tkn) = 2 from if_neg ok]
    refine XO.pu (Pu.neq rfl rfl) ?_
    refine XO.nil ?_
    refine X.sub (p' := [(15, _), (5, _), (4, _), (3, _), (2, _)]) ⟨rfl, rfl, rfl, rfl, rfl, trivial⟩ ?_
    refine X.know 15 (.bool true) rfl (congrArg Value.bool (rfl)) ?_
    refine X.condT rfl ?_
    refine X.seq ?_
    refine X.region ?_
    refine XO.pu (Pu.move rfl) ?_
    refine XO.pu (Pu.len rfl Try.underlying31) ?_
    refine XO.pu (Pu.eql rfl rfl) ?_
    refine XO.pu (Pu.move rfl) ?_
    refine XO.know 19 (.bool true) rfl (congrArg Value.bool (rfl)) ?_
    refine XO.pu (Pu.move rfl) ?_
    refine XO.cF Try.call15 (num_ok _) ?_
    rintro _ _ ⟨rfl, rfl⟩ _ e_; simp only [ca, na] at e_; subst e_
    refine XO.pu (Pu.eql rfl rfl) ?_
    refine XO.pu (Pu.pickT rfl rfl) ?_
    refine XO.pu (Pu.move rfl) ?_
    refine XO.know 24 (.bool true) rfl (congrArg Value.bool (rfl)) ?_
    refine XO.cF Try.call12 (works_ok) ?_
    rintro _ _ ⟨rfl, rfl⟩ _ e_; simp only [ca, na] at e_; subst e_
    refine XO.pu (Pu.pickT rfl rfl) ?_
    refine XO.pu (Pu.assign rfl) ?_
    refine XO.nil ?_
    refine X.sub (p' := [(2, _), (5, _), (4, _), (3, _)]) ⟨rfl, rfl, rfl, rfl, trivial⟩ ?_
    refine X.retL [] Try.func4 (res1 Try.results4 rfl) ⟨_, rfl, rfl, rfl⟩
set_option maxHeartbeats 2000000 in
theorem logTurns_ok {th : List Int} (hs : Sees q a (th.map (Value.int .i64))) : CallF Try.prog G 8 [.slice a th.length c] q (Ret fun v q' => v = .bool true ∧ q' = q) := by
  refine CallF.of Try.func8 Try.ntmps8 rfl (fun F cs => ?_)
  refine X.sub (p' := [(0, _)]) ⟨rfl, trivial⟩ ?_
  refine X.seq ?_
  refine X.region ?_
  refine XO.pu (Pu.assign rfl) ?_
  refine XO.nil ?_
  refine X.sub (p' := [(2, _), (0, _)]) ⟨rfl, rfl, trivial⟩ ?_
  refine X.seq ?_
  refine X.seq ?_
  refine X.region ?_
  refine XO.pu (Pu.move rfl) ?_
  refine XO.pu (Pu.len rfl Try.underlying48) ?_
  refine XO.pu (Pu.gtr rfl rfl) ?_
  refine XO.nil ?_
  refine X.sub (p' := [(10, _), (2, _), (0, _)]) ⟨rfl, rfl, rfl, trivial⟩ ?_
  refine X.part 10 rfl (fun h0 => ?_) (fun h0 => ?_)
  · skip
    refine X.condT rfl ?_
    refine X.seq ?_
    refine X.region ?_
    refine XO.cF Try.call12 (works_ok) ?_
    rintro _ _ ⟨rfl, rfl⟩ _ e_; simp only [ca, na] at e_; subst e_
    refine XO.pu (Pu.assign rfl) ?_
    refine XO.nil ?_
    refine X.sub (p' := [(2, _), (0, _)]) ⟨rfl, rfl, trivial⟩ ?_
    refine X.retL (q) Try.func8 (res1 Try.results8 rfl) ⟨_, rfl, rfl, rfl⟩
  · skip
    try simp only [decide_eq_true_eq, decide_eq_false_iff_not, bne_iff_ne, beq_iff_eq, ne_eq, bne_eq_false_iff_eq, beq_eq_false_iff_ne, Bool.not_eq_true', Bool.not_eq_false', Int.not_lt, Int.not_le, Bool.not_not, Bool.and_eq_true, Bool.and_eq_false_iff, Bool.true_and, Bool.and_true, beq_self_eq_true, Bool.or_eq_true, Bool.or_eq_false_iff] at h0
    have hL : th.length ≤ 1000 := (by omega)
    refine X.condF rfl ?_
    refine X.skip ?_
    refine X.seq ?_
    refine X.region ?_
    refine XO.ef (Ef.lit0 (Value.int .i64) Try.underlying48 Try.info3) ?_
    rintro _ _ ⟨g1, rfl, rfl⟩
    refine XO.pu (Pu.move rfl) ?_
    refine XO.ef (Ef.appA (f := Value.int .i64) (l := []) (m := th) Try.underlying48 Try.info3 rfl rfl rfl fndA (hs.le leA) (fun _ => rfl) (by simp; omega) (by simp; omega)) ?_
    rintro _ _ ⟨a1, c1, rfl, rfl⟩
    rw [List.nil_append]
    refine XO.ef (Ef.lit1 (u := 77) (Value.int .i64) Try.underlying48 Try.info3 rfl rfl) ?_
    rintro _ _ ⟨g2, rfl, rfl⟩
    refine XO.ef (Ef.appA (f := Value.int .i64) (l := th) (m := [77]) Try.underlying48 Try.info3 rfl rfl rfl fndA ((Sees.lsH _).le leA) (fun _ => rfl) (by simp; omega) (by simp; omega)) ?_
    rintro _ _ ⟨a2, c2, rfl, rfl⟩
    refine XO.fact (fun w s => s.lsLen) (fun hcap => ?_)
    rw [List.length_append, List.length_singleton] at hcap
    have hcap1 := hcap.1
    refine XO.pu (Pu.move rfl) ?_
    refine XO.pu (Pu.len rfl Try.underlying48) ?_
    refine XO.pu (Pu.sliceHi rfl rfl Try.underlying48 Try.sizeOf3 (by omega) (by omega)) ?_
    refine XO.know 19 (.slice a2 th.length c2) rfl (congrArg (fun n => Value.slice a2 n c2) (by omega)) ?_
    refine XO.pu (Pu.assign rfl) ?_
    refine XO.nil ?_
    refine X.sub (p' := [(3, _), (2, _), (0, _)]) ⟨rfl, rfl, rfl, trivial⟩ ?_
    refine X.seq ?_
    refine X.region ?_
    refine XO.pu (Pu.move rfl) ?_
    have hs2 : Sees [lsH (Value.int .i64) 3 a2 c2 (th ++ [77])] a2 (th.map (Value.int .i64)) := by have := (Sees.lsH (f := Value.int .i64) (ty := 3) (a := a2) (c := c2) (l := th ++ [77]) []).take th.length; rwa [← List.map_take, List.take_left] at this
    refine XO.lsadr (l := th ++ [77]) (fl := Value.int .i64) (by simp) (fun g9 e_ => ?_); subst e_
    rcases Decidable.em (∀ x ∈ th, 0 ≤ x ∧ x ≤ 7) with ok | ok
    · skip
      refine XO.cX Try.call23 (Le.refl _) (Turns_ok (th := th) (hs2.le leA) (by omega) ok) ?_
      rintro _ _ ⟨a3, c3, rfl, rfl⟩
      refine XO.pu (Pu.move rfl) ?_
      refine XO.pu (Pu.extract rfl rfl) ?_
      refine XO.pu (Pu.extract rfl rfl) ?_
      refine XO.pu (Pu.assign rfl) ?_
      refine XO.pu (Pu.assign rfl) ?_
      refine XO.nil ?_
      refine X.sub (p' := [(5, _), (4, _), (3, _), (2, _), (0, _)]) ⟨rfl, rfl, rfl, rfl, rfl, trivial⟩ ?_
      refine X.seq ?_
      refine X.region ?_
      refine XO.pu (Pu.move rfl) ?_
      refine XO.cX Try.call24 (Le.refl _) (RTurns_ok (th := th) (hs.le leA) (by omega) ok) ?_
      rintro _ _ ⟨a4, c4, rfl, rfl⟩
      have htl : (turnsOf th).length ≤ 1000 := by have := turnsOf_len th th.length; rw [List.take_length] at this; omega
      refine XO.pu (Pu.move rfl) ?_
      refine XO.pu (Pu.extract rfl rfl) ?_
      refine XO.pu (Pu.extract rfl rfl) ?_
      refine XO.pu (Pu.assign rfl) ?_
      refine XO.pu (Pu.assign rfl) ?_
      refine XO.nil ?_
      refine X.sub (p' := [(7, _), (6, _), (5, _), (4, _), (3, _), (2, _), (0, _)]) ⟨rfl, rfl, rfl, rfl, rfl, rfl, rfl, trivial⟩ ?_
      refine X.seq ?_
      refine X.draw [] Try.mixed (by kernel_rfl) (by kernel_rfl) rfl ?_
      refine XD.pu 0 rfl (Pu.move rfl) ?_
      refine XD.pu 1 rfl (Pu.move rfl) ?_
      refine XD.cRL 2 Try.call25 (SameTurns_ok (l := turnsOf th) (m := turnsOf th) (a := a3) (b := a4) ((Sees.rsH []).le leA) ((Sees.rsH []).le leA) (by omega)) ?_
      refine XD.pu 3 rfl (Pu.move rfl) ?_
      refine XD.know 33 (.bool true) rfl (congrArg Value.bool (by simp)) ?_
      refine XD.pu 4 rfl (Pu.move rfl) ?_
      refine XD.pu 6 rfl (Pu.move rfl) ?_
      refine XD.cF 5 Try.call15 (num_ok _) ?_
      rintro _ _ ⟨rfl, rfl⟩ _ e_; simp only [ca, na] at e_; subst e_
      refine ⟨trivial, ?_⟩
      refine XD.pu 7 rfl (Pu.eql rfl rfl) ?_
      refine XD.pu 8 rfl (Pu.pickT rfl rfl) ?_
      refine XD.pu 9 rfl (Pu.move rfl) ?_
      refine XD.know 39 (.bool true) rfl (congrArg Value.bool (by simp)) ?_
      have hz : th = [] ∨ 0 < th.length := by cases th with | nil => exact .inl rfl | cons y r => exact .inr (by simp)
      rcases hz with hz | hz
      · skip
        subst hz
        refine XD.pu 10 rfl (Pu.move rfl) ?_
        refine XD.pu 11 rfl (Pu.len rfl Try.underlying48) ?_
        refine XD.pu 12 rfl (Pu.eql rfl rfl) ?_
        refine XD.pu 13 rfl (Pu.move rfl) ?_
        refine XD.know 43 (.bool true) rfl (congrArg Value.bool (by simp)) ?_
        have hsz : Sees [lsH (Value.int .i64) 3 (some ⟨g9, 0, none⟩) c2 (([] : List Int) ++ [77])] (some ⟨g9, 0, none⟩) ((([] : List Int) ++ [77]).map (Value.int .i64)) := Sees.lsH []
        refine XD.pass 14 rfl ?_
        refine XD.pass 15 rfl ?_
        refine XD.pass 16 rfl ?_
        refine XD.pass 17 rfl ?_
        refine XD.pass 18 rfl ?_
        refine XD.pass 19 rfl ?_
        refine XD.pass 20 rfl ?_
        refine XD.pu 21 rfl (Pu.pickT rfl rfl) ?_
        refine XD.pu 22 rfl (Pu.pickT rfl rfl) ?_
        refine XD.pu 23 rfl (Pu.move rfl) ?_
        refine XD.pu 24 rfl (Pu.move rfl) ?_
        refine XD.pu 25 rfl (Pu.move rfl) ?_
        refine XD.pu 26 rfl (Pu.len rfl Try.underlying48) ?_
        refine XD.pu 27 rfl (Pu.add rfl rfl (by omega) (by omega)) ?_
        refine XD.pu 28 rfl (Pu.sliceHi rfl rfl Try.underlying48 Try.sizeOf3 (by omega) (by omega)) ?_
        refine XD.pu 29 rfl (Pu.move rfl) ?_
        refine XD.pu 30 rfl (Pu.len rfl Try.underlying48) ?_
        refine XD.pu 31 rfl (Pu.indexAddr rfl rfl Try.underlying48 Try.sizeOf3 (by omega) (by omega)) ?_
        refine XD.ld 32 Try.isAgg3 ?_ (hc := (by first | exact clA | exact Cl.e1 (n := (([] : List Int) : List Int).length) hsz leA (by simp) rfl))
        refine XD.pu 33 rfl (Pu.eql rfl rfl) ?_
        refine XD.pu 34 rfl (Pu.pickT rfl rfl) ?_
        refine XD.pu 35 rfl (Pu.move rfl) ?_
        refine XD.know 65 (.bool true) rfl (congrArg Value.bool (by simp)) ?_
        refine XD.cF 36 Try.call12 (works_ok) ?_
        rintro _ _ ⟨rfl, rfl⟩ _ e_; simp only [ca, na] at e_; subst e_
        refine ⟨(by repeat first | exact trivial | refine ⟨(by first | exact clA | exact Cl.e1 (n := (([] : List Int) : List Int).length) hsz leA (by simp) rfl | exact Cl.e1 (n := 0) hs2 leA hz rfl | exact Cl.e1 (n := 0) hs leA hz rfl), ?_⟩), ?_⟩
        refine XD.pu 37 rfl (Pu.pickT rfl rfl) ?_
        refine XD.pu 38 rfl (Pu.assign rfl) ?_
        refine XD.nil ?_
        refine X.sub (p' := [(2, _)]) ⟨rfl, trivial⟩ ?_
        refine X.retL (q) Try.func8 (res1 Try.results8 rfl) ⟨_, rfl, rfl, rfl⟩
      · skip
        refine XD.adr hs (by simpa using hz) (fun b8 o8 e_ => ?_); subst e_
        have hcl : Cl q ⟨b8, o8 + (0 : Int).toNat * 1, none⟩ (Value.int .i64 th[0]) := hs.at (n := 0) rfl hz
        refine XD.pu 10 rfl (Pu.move rfl) ?_
        refine XD.pu 11 rfl (Pu.len rfl Try.underlying48) ?_
        refine XD.pu 12 rfl (Pu.eql rfl rfl) ?_
        refine XD.pu 13 rfl (Pu.move rfl) ?_
        refine XD.know 43 (.bool false) rfl (congrArg Value.bool (by rw [beq_eq_false_iff_ne]; omega)) ?_
        refine XD.pu 14 rfl (Pu.move rfl) ?_
        refine XD.pu 15 rfl (Pu.indexAddr rfl rfl Try.underlying48 Try.sizeOf3 (by omega) (by omega)) ?_
        refine XD.ld 16 Try.isAgg3 ?_ (hc := (by first | exact clA | exact Cl.e1 (n := 0) hs2 leA hz rfl | exact Cl.e1 (n := 0) hs leA hz rfl))
        refine XD.pu 17 rfl (Pu.move rfl) ?_
        refine XD.pu 18 rfl (Pu.indexAddr rfl rfl Try.underlying48 Try.sizeOf3 (by omega) (by omega)) ?_
        refine XD.ld 19 Try.isAgg3 ?_ (hc := (by first | exact clA | exact Cl.e1 (n := 0) hs2 leA hz rfl | exact Cl.e1 (n := 0) hs leA hz rfl))
        refine XD.pu 20 rfl (Pu.eql rfl rfl) ?_
        refine XD.pu 21 rfl (Pu.pickF rfl rfl) ?_
        refine XD.pu 22 rfl (Pu.pickT rfl rfl) ?_
        refine XD.pu 23 rfl (Pu.move rfl) ?_
        refine XD.know 53 (.bool true) rfl (congrArg Value.bool (by simp)) ?_
        have hsz : Sees [lsH (Value.int .i64) 3 (some ⟨g9, 0, none⟩) c2 (th ++ [77])] (some ⟨g9, 0, none⟩) ((th ++ [77]).map (Value.int .i64)) := Sees.lsH []
        refine XD.pu 24 rfl (Pu.move rfl) ?_
        refine XD.pu 25 rfl (Pu.move rfl) ?_
        refine XD.pu 26 rfl (Pu.len rfl Try.underlying48) ?_
        refine XD.pu 27 rfl (Pu.add rfl rfl (by omega) (by omega)) ?_
        refine XD.pu 28 rfl (Pu.sliceHi rfl rfl Try.underlying48 Try.sizeOf3 (by omega) (by omega)) ?_
        refine XD.pu 29 rfl (Pu.move rfl) ?_
        refine XD.pu 30 rfl (Pu.len rfl Try.underlying48) ?_
        refine XD.pu 31 rfl (Pu.indexAddr rfl rfl Try.underlying48 Try.sizeOf3 (by omega) (by omega)) ?_
        refine XD.ld 32 Try.isAgg3 ?_ (hc := (by first | exact clA | exact Cl.e1 (n := (th : List Int).length) hsz leA (by simp) rfl))
        refine XD.pu 33 rfl (Pu.eql rfl rfl) ?_
        refine XD.pu 34 rfl (Pu.pickT rfl rfl) ?_
        refine XD.pu 35 rfl (Pu.move rfl) ?_
        refine XD.know 65 (.bool true) rfl (congrArg Value.bool (by simp)) ?_
        refine XD.cF 36 Try.call12 (works_ok) ?_
        rintro _ _ ⟨rfl, rfl⟩ _ e_; simp only [ca, na] at e_; subst e_
        refine ⟨(by repeat first | exact trivial | refine ⟨(by first | exact clA | exact Cl.e1 (n := (th : List Int).length) hsz leA (by simp) rfl | exact Cl.e1 (n := 0) hs2 leA hz rfl | exact Cl.e1 (n := 0) hs leA hz rfl), ?_⟩), ?_⟩
        refine XD.pu 37 rfl (Pu.pickT rfl rfl) ?_
        refine XD.pu 38 rfl (Pu.assign rfl) ?_
        refine XD.nil ?_
        refine X.sub (p' := [(2, _)]) ⟨rfl, trivial⟩ ?_
        refine X.retL (q) Try.func8 (res1 Try.results8 rfl) ⟨_, rfl, rfl, rfl⟩
    · skip
      refine XO.cX Try.call23 (Le.refl _) (Turns_no (th := th) (hs2.le leA) (by omega) ok) ?_
      rintro _ _ ⟨rfl, rfl⟩
      refine XO.pu (Pu.move rfl) ?_
      refine XO.pu (Pu.extract rfl rfl) ?_
      refine XO.pu (Pu.extract rfl rfl) ?_
      refine XO.pu (Pu.assign rfl) ?_
      refine XO.pu (Pu.assign rfl) ?_
      refine XO.nil ?_
      refine X.sub (p' := [(5, _), (4, _), (3, _), (2, _), (0, _)]) ⟨rfl, rfl, rfl, rfl, rfl, trivial⟩ ?_
      refine X.seq ?_
      refine X.region ?_
      refine XO.pu (Pu.move rfl) ?_
      refine XO.cX Try.call24 (Le.refl _) (RTurns_no (th := th) (hs.le leA) (by omega) ok) ?_
      rintro _ _ ⟨rfl, rfl⟩
      refine XO.pu (Pu.move rfl) ?_
      refine XO.pu (Pu.extract rfl rfl) ?_
      refine XO.pu (Pu.extract rfl rfl) ?_
      refine XO.pu (Pu.assign rfl) ?_
      refine XO.pu (Pu.assign rfl) ?_
      refine XO.nil ?_
      refine X.sub (p' := [(7, _), (6, _), (5, _), (4, _), (3, _), (2, _), (0, _)]) ⟨rfl, rfl, rfl, rfl, rfl, rfl, rfl, trivial⟩ ?_
      refine X.seq ?_
      refine X.draw [] Try.mixed (by kernel_rfl) (by kernel_rfl) rfl ?_
      refine XD.pu 0 rfl (Pu.move rfl) ?_
      refine XD.pu 1 rfl (Pu.move rfl) ?_
      refine XD.cRL 2 Try.call25 (SameTurns_ok (l := ([] : List Turn)) (m := ([] : List Turn)) (a := none) (b := none) (Sees.nil _ _) (Sees.nil _ _) (by simp)) ?_
      refine XD.pu 3 rfl (Pu.move rfl) ?_
      refine XD.know 33 (.bool true) rfl (congrArg Value.bool (by simp)) ?_
      refine XD.pu 4 rfl (Pu.move rfl) ?_
      refine XD.pu 6 rfl (Pu.move rfl) ?_
      refine XD.cF 5 Try.call15 (num_ok _) ?_
      rintro _ _ ⟨rfl, rfl⟩ _ e_; simp only [ca, na] at e_; subst e_
      refine ⟨trivial, ?_⟩
      refine XD.pu 7 rfl (Pu.eql rfl rfl) ?_
      refine XD.pu 8 rfl (Pu.pickT rfl rfl) ?_
      refine XD.pu 9 rfl (Pu.move rfl) ?_
      refine XD.know 39 (.bool true) rfl (congrArg Value.bool (by simp)) ?_
      have hz : th = [] ∨ 0 < th.length := by cases th with | nil => exact .inl rfl | cons y r => exact .inr (by simp)
      rcases hz with hz | hz
      · skip
        subst hz
        refine XD.pu 10 rfl (Pu.move rfl) ?_
        refine XD.pu 11 rfl (Pu.len rfl Try.underlying48) ?_
        refine XD.pu 12 rfl (Pu.eql rfl rfl) ?_
        refine XD.pu 13 rfl (Pu.move rfl) ?_
        refine XD.know 43 (.bool true) rfl (congrArg Value.bool (by simp)) ?_
        have hsz : Sees [lsH (Value.int .i64) 3 (some ⟨g9, 0, none⟩) c2 (([] : List Int) ++ [77])] (some ⟨g9, 0, none⟩) ((([] : List Int) ++ [77]).map (Value.int .i64)) := Sees.lsH []
        refine XD.pass 14 rfl ?_
        refine XD.pass 15 rfl ?_
        refine XD.pass 16 rfl ?_
        refine XD.pass 17 rfl ?_
        refine XD.pass 18 rfl ?_
        refine XD.pass 19 rfl ?_
        refine XD.pass 20 rfl ?_
        refine XD.pu 21 rfl (Pu.pickT rfl rfl) ?_
        refine XD.pu 22 rfl (Pu.pickT rfl rfl) ?_
        refine XD.pu 23 rfl (Pu.move rfl) ?_
        refine XD.pu 24 rfl (Pu.move rfl) ?_
        refine XD.pu 25 rfl (Pu.move rfl) ?_
        refine XD.pu 26 rfl (Pu.len rfl Try.underlying48) ?_
        refine XD.pu 27 rfl (Pu.add rfl rfl (by omega) (by omega)) ?_
        refine XD.pu 28 rfl (Pu.sliceHi rfl rfl Try.underlying48 Try.sizeOf3 (by omega) (by omega)) ?_
        refine XD.pu 29 rfl (Pu.move rfl) ?_
        refine XD.pu 30 rfl (Pu.len rfl Try.underlying48) ?_
        refine XD.pu 31 rfl (Pu.indexAddr rfl rfl Try.underlying48 Try.sizeOf3 (by omega) (by omega)) ?_
        refine XD.ld 32 Try.isAgg3 ?_ (hc := (by first | exact clA | exact Cl.e1 (n := (([] : List Int) : List Int).length) hsz leA (by simp) rfl))
        refine XD.pu 33 rfl (Pu.eql rfl rfl) ?_
        refine XD.pu 34 rfl (Pu.pickT rfl rfl) ?_
        refine XD.pu 35 rfl (Pu.move rfl) ?_
        refine XD.know 65 (.bool true) rfl (congrArg Value.bool (by simp)) ?_
        refine XD.cF 36 Try.call12 (works_ok) ?_
        rintro _ _ ⟨rfl, rfl⟩ _ e_; simp only [ca, na] at e_; subst e_
        refine ⟨(by repeat first | exact trivial | refine ⟨(by first | exact clA | exact Cl.e1 (n := (([] : List Int) : List Int).length) hsz leA (by simp) rfl | exact Cl.e1 (n := 0) hs2 leA hz rfl | exact Cl.e1 (n := 0) hs leA hz rfl), ?_⟩), ?_⟩
        refine XD.pu 37 rfl (Pu.pickT rfl rfl) ?_
        refine XD.pu 38 rfl (Pu.assign rfl) ?_
        refine XD.nil ?_
        refine X.sub (p' := [(2, _)]) ⟨rfl, trivial⟩ ?_
        refine X.retL (q) Try.func8 (res1 Try.results8 rfl) ⟨_, rfl, rfl, rfl⟩
      · skip
        refine XD.adr hs (by simpa using hz) (fun b8 o8 e_ => ?_); subst e_
        have hcl : Cl q ⟨b8, o8 + (0 : Int).toNat * 1, none⟩ (Value.int .i64 th[0]) := hs.at (n := 0) rfl hz
        refine XD.pu 10 rfl (Pu.move rfl) ?_
        refine XD.pu 11 rfl (Pu.len rfl Try.underlying48) ?_
        refine XD.pu 12 rfl (Pu.eql rfl rfl) ?_
        refine XD.pu 13 rfl (Pu.move rfl) ?_
        refine XD.know 43 (.bool false) rfl (congrArg Value.bool (by rw [beq_eq_false_iff_ne]; omega)) ?_
        refine XD.pu 14 rfl (Pu.move rfl) ?_
        refine XD.pu 15 rfl (Pu.indexAddr rfl rfl Try.underlying48 Try.sizeOf3 (by omega) (by omega)) ?_
        refine XD.ld 16 Try.isAgg3 ?_ (hc := (by first | exact clA | exact Cl.e1 (n := 0) hs2 leA hz rfl | exact Cl.e1 (n := 0) hs leA hz rfl))
        refine XD.pu 17 rfl (Pu.move rfl) ?_
        refine XD.pu 18 rfl (Pu.indexAddr rfl rfl Try.underlying48 Try.sizeOf3 (by omega) (by omega)) ?_
        refine XD.ld 19 Try.isAgg3 ?_ (hc := (by first | exact clA | exact Cl.e1 (n := 0) hs2 leA hz rfl | exact Cl.e1 (n := 0) hs leA hz rfl))
        refine XD.pu 20 rfl (Pu.eql rfl rfl) ?_
        refine XD.pu 21 rfl (Pu.pickF rfl rfl) ?_
        refine XD.pu 22 rfl (Pu.pickT rfl rfl) ?_
        refine XD.pu 23 rfl (Pu.move rfl) ?_
        refine XD.know 53 (.bool true) rfl (congrArg Value.bool (by simp)) ?_
        have hsz : Sees [lsH (Value.int .i64) 3 (some ⟨g9, 0, none⟩) c2 (th ++ [77])] (some ⟨g9, 0, none⟩) ((th ++ [77]).map (Value.int .i64)) := Sees.lsH []
        refine XD.pu 24 rfl (Pu.move rfl) ?_
        refine XD.pu 25 rfl (Pu.move rfl) ?_
        refine XD.pu 26 rfl (Pu.len rfl Try.underlying48) ?_
        refine XD.pu 27 rfl (Pu.add rfl rfl (by omega) (by omega)) ?_
        refine XD.pu 28 rfl (Pu.sliceHi rfl rfl Try.underlying48 Try.sizeOf3 (by omega) (by omega)) ?_
        refine XD.pu 29 rfl (Pu.move rfl) ?_
        refine XD.pu 30 rfl (Pu.len rfl Try.underlying48) ?_
        refine XD.pu 31 rfl (Pu.indexAddr rfl rfl Try.underlying48 Try.sizeOf3 (by omega) (by omega)) ?_
        refine XD.ld 32 Try.isAgg3 ?_ (hc := (by first | exact clA | exact Cl.e1 (n := (th : List Int).length) hsz leA (by simp) rfl))
        refine XD.pu 33 rfl (Pu.eql rfl rfl) ?_
        refine XD.pu 34 rfl (Pu.pickT rfl rfl) ?_
        refine XD.pu 35 rfl (Pu.move rfl) ?_
        refine XD.know 65 (.bool true) rfl (congrArg Value.bool (by simp)) ?_
        refine XD.cF 36 Try.call12 (works_ok) ?_
        rintro _ _ ⟨rfl, rfl⟩ _ e_; simp only [ca, na] at e_; subst e_
        refine ⟨(by repeat first | exact trivial | refine ⟨(by first | exact clA | exact Cl.e1 (n := (th : List Int).length) hsz leA (by simp) rfl | exact Cl.e1 (n := 0) hs2 leA hz rfl | exact Cl.e1 (n := 0) hs leA hz rfl), ?_⟩), ?_⟩
        refine XD.pu 37 rfl (Pu.pickT rfl rfl) ?_
        refine XD.pu 38 rfl (Pu.assign rfl) ?_
        refine XD.nil ?_
        refine X.sub (p' := [(2, _)]) ⟨rfl, trivial⟩ ?_
        refine X.retL (q) Try.func8 (res1 Try.results8 rfl) ⟨_, rfl, rfl, rfl⟩
end
end Go.Proofs.Ytiehcgmbkjdagaa

