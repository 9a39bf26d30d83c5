/- What functions of package sync, of its references and of its laws do: contracts of calls, proved by walking their code. -/
import Derived.Test.YtlgnnhpbomfdiaaJ
import Derived.KernelRfl
set_option maxRecDepth 100000
set_option linter.unusedVariables false
set_option linter.unusedSimpArgs false
namespace Go.Proofs.Ytlgnnhpbomfdiaa
open Go Go.RowKit Wx
attribute [local irreducible] Wx.lsH Wx.rsH Wx.lsM Wx.rsM Wx.stars

section
variable {G : World} {q : List HP} {a b : Option Addr} {c d g p i n : Nat} {r : RS} {s : Sy} {k t v m mm cc : Int} {rooms : List Int}
set_option maxHeartbeats 1000000 in
theorem RSend_ok (h : Ref r s) {N : Nat} (hs : s.ok N) (hN : N ≤ 900) : CallF Try.prog G 51 [.agg [.slice r.ow.a r.ow.l.length r.ow.c, .slice r.cs.a r.cs.l.length r.cs.c, .slice r.rm.a r.rm.l.length r.rm.c, .slice r.st.a r.st.l.length r.st.c, .slice r.tk.a r.tk.l.length r.tk.c].toArray, .int .i64 k, .int .i64 t] [refM r] (Ret fun v q' => ∃ r', Ref r' (sendS s k t).1 ∧ v = .tuple [.agg [.slice r'.ow.a r'.ow.l.length r'.ow.c, .slice r'.cs.a r'.cs.l.length r'.cs.c, .slice r'.rm.a r'.rm.l.length r'.rm.c, .slice r'.st.a r'.st.l.length r'.st.c, .slice r'.tk.a r'.tk.l.length r'.tk.c].toArray, .int .i64 (sendS s k t).2.1, .int .i64 (sendS s k t).2.2].toArray ∧ q' = [refM r']) := by
  refine CallF.of Try.func51 Try.ntmps51 rfl (fun F cs => ?_)
  refine X.sub (p' := [(0, _), (1, _), (2, _)]) ⟨rfl, rfl, rfl, trivial⟩ ?_
  change X _ _ _ _ _ _ _ _ (refM r :: F)
  refine X.refM (fun hr => ?_)
  have hz : ∀ q', Le q' (refM r :: F) → RSee q' r := fun q' l => hr.le l; have hl := h.len hs (by omega); have hlo := hl.o; have hlc := hl.c; have hlm := hl.m; have hlt := hl.t; have hlk := hl.k; have eo := h.lo; have ec := h.lc; have em := h.lm; have et := h.lt; have ek := h.lk
  refine X.seq ?_
  refine X.region ?_
  refine XO.ef (Ef.box rfl) ?_
  rintro _ _ ⟨n1, rfl, rfl⟩
  refine XO.ef (Ef.alloc Try.zeroValue53) ?_
  rintro _ _ ⟨n2, rfl, rfl⟩
  refine XO.pu (Pu.assign rfl) ?_
  refine XO.pu (Pu.assign rfl) ?_
  refine XO.nil ?_
  refine X.sub (p' := [(8, _), (7, _), (6, _), (3, _), (1, _), (2, _)]) ⟨rfl, rfl, rfl, rfl, rfl, rfl, trivial⟩ ?_
  refine X.seq ?_
  refine X.seq ?_
  refine X.region ?_
  refine XO.pu (Pu.move rfl) ?_
  refine XO.pu (Pu.lss rfl rfl) ?_
  refine XO.pu (Pu.move rfl) ?_
  refine XO.sub (p' := [(12, _), (8, _), (7, _), (6, _), (3, _), (1, _), (2, _)]) ⟨rfl, rfl, rfl, rfl, rfl, rfl, rfl, trivial⟩ ?_
  apply XO.cutOr 6 18 12 rfl
  · skip
    intro g1 M1; have h1 := g1; try simp only [decide_eq_true_eq, decide_eq_false_iff_not, bne_iff_ne, beq_iff_eq, ne_eq, bne_eq_false_iff_eq, beq_eq_false_iff_ne, Bool.not_eq_true', Bool.not_eq_false', Int.not_lt, Int.not_le, Bool.not_not, Bool.and_eq_true, Bool.and_eq_false_iff, Bool.true_and, Bool.and_true, beq_self_eq_true, Bool.or_eq_true, Bool.or_eq_false_iff] at h1
    refine XO.pu (Pu.move rfl) ?_
    refine XO.pu (Pu.fieldAddr 29 2 0 rfl Try.underlying53 rfl Try.sizeOf29) ?_
    refine XO.ld Try.isAgg29 ?_
    refine XO.pu (Pu.len rfl Try.underlying29) ?_
    refine XO.pu (Pu.geq rfl rfl) ?_
    refine XO.pu (Pu.pickF rfl rfl) ?_
    exact XO.fin M1 ⟨orF g1, congrArg (fun x => some (Value.bool x)) g1.symm, rfl, rfl, rfl, rfl, rfl, rfl, trivial⟩
  · skip
    intro g1 M1; have h1 := g1; try simp only [decide_eq_true_eq, decide_eq_false_iff_not, bne_iff_ne, beq_iff_eq, ne_eq, bne_eq_false_iff_eq, beq_eq_false_iff_ne, Bool.not_eq_true', Bool.not_eq_false', Int.not_lt, Int.not_le, Bool.not_not, Bool.and_eq_true, Bool.and_eq_false_iff, Bool.true_and, Bool.and_true, beq_self_eq_true, Bool.or_eq_true, Bool.or_eq_false_iff] at h1
    refine XO.pass rfl ?_
    refine XO.pass rfl ?_
    refine XO.pass rfl ?_
    refine XO.pass rfl ?_
    refine XO.pass rfl ?_
    refine XO.pu (Pu.pickT rfl rfl) ?_
    exact XO.fin M1 ⟨orT g1, congrArg (fun x => some (Value.bool x)) g1.symm, rfl, rfl, rfl, rfl, rfl, rfl, trivial⟩
  · skip
    refine XO.nil ?_
    refine X.sub (p' := [(18, _), (8, _), (7, _), (6, _), (3, _), (1, _), (2, _)]) ⟨rfl, rfl, rfl, rfl, rfl, rfl, rfl, trivial⟩ ?_
    rcases Decidable.em (inR k r.rm.l.length) with hr0 | hr0
    · skip
      have hr' : inR k s.chans.length := by rw [← em]; exact hr0
      obtain ⟨i, rfl⟩ := Int.eq_ofNat_of_zero_le hr0.1; have hi : i < r.rm.l.length := (by have := hr0.2; omega)
      refine X.know 18 (.bool false) rfl (congrArg Value.bool (by simp; omega)) ?_
      refine X.condF rfl ?_
      refine X.skip ?_
      refine X.seq ?_
      refine X.seq ?_
      refine X.region ?_
      refine XO.pu (Pu.move rfl) ?_
      refine XO.pu (Pu.lss rfl rfl) ?_
      refine XO.pu (Pu.move rfl) ?_
      refine XO.sub (p' := [(22, _), (8, _), (7, _), (6, _), (3, _), (1, _), (2, _)]) ⟨rfl, rfl, rfl, rfl, rfl, rfl, rfl, trivial⟩ ?_
      apply XO.cutOr 3 25 22 rfl
      · skip
        intro g1 M1; have h1 := g1; try simp only [decide_eq_true_eq, decide_eq_false_iff_not, bne_iff_ne, beq_iff_eq, ne_eq, bne_eq_false_iff_eq, beq_eq_false_iff_ne, Bool.not_eq_true', Bool.not_eq_false', Int.not_lt, Int.not_le, Bool.not_not, Bool.and_eq_true, Bool.and_eq_false_iff, Bool.true_and, Bool.and_true, beq_self_eq_true, Bool.or_eq_true, Bool.or_eq_false_iff] at h1
        refine XO.pu (Pu.move rfl) ?_
        refine XO.pu (Pu.gtr rfl rfl) ?_
        refine XO.pu (Pu.pickF rfl rfl) ?_
        exact XO.fin M1 ⟨orF g1, congrArg (fun x => some (Value.bool x)) g1.symm, rfl, rfl, rfl, rfl, rfl, rfl, trivial⟩
      · skip
        intro g1 M1; have h1 := g1; try simp only [decide_eq_true_eq, decide_eq_false_iff_not, bne_iff_ne, beq_iff_eq, ne_eq, bne_eq_false_iff_eq, beq_eq_false_iff_ne, Bool.not_eq_true', Bool.not_eq_false', Int.not_lt, Int.not_le, Bool.not_not, Bool.and_eq_true, Bool.and_eq_false_iff, Bool.true_and, Bool.and_true, beq_self_eq_true, Bool.or_eq_true, Bool.or_eq_false_iff] at h1
        refine XO.pass rfl ?_
        refine XO.pass rfl ?_
        refine XO.pu (Pu.pickT rfl rfl) ?_
        exact XO.fin M1 ⟨orT g1, congrArg (fun x => some (Value.bool x)) g1.symm, rfl, rfl, rfl, rfl, rfl, rfl, trivial⟩
      · skip
        refine XO.nil ?_
        refine X.sub (p' := [(25, _), (8, _), (7, _), (6, _), (3, _), (1, _), (2, _)]) ⟨rfl, rfl, rfl, rfl, rfl, rfl, rfl, trivial⟩ ?_
        rcases Decidable.em (val t) with hg | hg
        · skip
          refine X.know 25 (.bool false) rfl (congrArg Value.bool (by unfold val at hg; simp; omega)) ?_
          have hi2 : i < r.st.l.length := (by omega); have hi3 : i < r.tk.l.length := (by omega); have hi4 : i < r.rm.l.length := (by omega)
          have hch := hs.h _ (getD_mem (d := ch0) (show i < s.chans.length by omega)); obtain ⟨⟨hr1, hr2⟩, htk, hal, hit, hva⟩ := hch; have hm := h.ml (i := i) (by omega); have ht := h.tl (i := i) (by omega); have hk := h.kl (i := i) (by omega); have hitl : (s.chans.getD i ch0).items.length = r.st.l[i].l.length - (r.tk.l[i]).toNat := (by unfold Ch.items; rw [List.length_drop, ht]; omega); have htl := congrArg List.length ht
          refine X.adr ((hz _ leA).sr) (by simp; omega) (fun b7 o7 e7 => ?_); have hs7 := hr.sr; rw [e7] at hs7; rw [e7]
          refine X.condF rfl ?_
          refine X.skip ?_
          refine X.seq ?_
          refine X.seq ?_
          refine X.draw [] Try.mixed (by kernel_rfl) (by kernel_rfl) rfl ?_
          refine XD.loadA 0 rfl rfl Try.isAgg53 Try.sizeOf53 hasA (by rfl) ?_
          refine XD.pu 1 rfl (Pu.move rfl) ?_
          refine XD.pu 4 rfl (Pu.fieldAddr 29 2 0 rfl Try.underlying53 rfl Try.sizeOf29) ?_
          refine XD.ld 5 Try.isAgg29 ?_
          refine XD.pu 6 rfl (Pu.move rfl) ?_
          refine XD.pu 7 rfl (Pu.indexAddr rfl rfl Try.underlying29 Try.sizeOf3 (by omega) (by omega)) ?_
          refine XD.ld 8 Try.isAgg3 ?_
          refine XD.know 27 (.agg [.slice r.ow.a r.ow.l.length r.ow.c, .slice r.cs.a r.cs.l.length r.cs.c, .slice r.rm.a r.rm.l.length r.rm.c, .slice r.st.a r.st.l.length r.st.c, .slice r.tk.a r.tk.l.length r.tk.c].toArray) rfl (by rw [e7]; rfl) ?_
          refine XD.cRL 2 Try.call53 (RVals_ok (i := i) (hz _ leA) hl (by omega) (by omega) (by omega)) ?_
          refine XD.pu 3 rfl (Pu.len rfl Try.underlying28) ?_
          refine XD.pu 9 rfl (Pu.geq rfl rfl) ?_
          refine XD.nil ?_
          refine X.sub (p' := [(36, _), (8, _), (7, _), (6, _), (3, _), (1, _), (2, _)]) ⟨rfl, rfl, rfl, rfl, rfl, rfl, rfl, trivial⟩ ?_
          rcases Decidable.em (((s.chans.getD i ch0).items.length : Int) < (s.chans.getD i ch0).room) with hx | hx
          · skip
            refine X.know 36 (.bool false) rfl (congrArg Value.bool (by simp; omega)) ?_
            refine X.condF rfl ?_
            refine X.skip ?_
            refine X.seq ?_
            refine X.region ?_
            refine XO.ldA Try.isAgg53 Try.sizeOf53 ?_
            rw [← e7]
            refine XO.cX Try.call70 (Le.refl _) (RCopy_ok (hz _ leA) hl) ?_
            rintro _ _ ⟨r1, hs1, rfl, rfl⟩
            have h1 := hs1.ref h; have el1 := h1.lo; have ec1 := h1.lc; have em1 := h1.lm; have et1 := h1.lt; have ek1 := h1.lk; have hl1 := h1.len hs (by omega)
            unfold refO; simp only [ca, na]
            have hi1 : i < r1.st.l.length := (by omega); have hci := hl1.ti _ (List.getElem_mem hi1)
            refine XO.lsadr (l := r1.st.l) (by omega) (fun g e6 => ?_); rw [e6]
            have hs9 : Sees (lsH slV 28 (some ⟨g, 0, none⟩) r1.st.c r1.st.l :: []) (some ⟨g, 0, none⟩) (r1.st.l.map slV) := Sees.lsH []
            refine XO.le (Le.focV (l := r1.st.l) hi1) ?_
            refine XO.ef (Ef.alloc Try.zeroValue53) ?_
            rintro _ _ ⟨n3, rfl, rfl⟩
            refine XO.ef0 (Ef.stA Try.sizeOf53) ?_
            rintro _ _ ⟨rfl, rfl⟩
            refine XO.nil ?_
            refine X.sub (p' := [(9, _), (8, _), (7, _), (6, _), (3, _), (1, _), (2, _)]) ⟨rfl, rfl, rfl, rfl, rfl, rfl, rfl, trivial⟩ ?_
            refine X.seq ?_
            refine X.draw [] Try.mixed (by kernel_rfl) (by kernel_rfl) rfl ?_
            refine XD.pu 0 rfl (Pu.fieldAddr 51 3 0 rfl Try.underlying53 rfl Try.sizeOf51) ?_
            refine XD.ld 1 Try.isAgg51 ?_
            refine XD.pu 2 rfl (Pu.move rfl) ?_
            refine XD.pu 3 rfl (Pu.fieldAddr 51 3 0 rfl Try.underlying53 rfl Try.sizeOf51) ?_
            refine XD.ld 4 Try.isAgg51 ?_
            refine XD.pu 5 rfl (Pu.move rfl) ?_
            refine XD.pu 6 rfl (Pu.indexAddr rfl rfl Try.underlying51 Try.sizeOf28 (by omega) (by omega)) ?_
            refine XD.ld 7 Try.isAgg28 ?_
            refine XD.pu 8 rfl (Pu.move rfl) ?_
            refine XD.ef 9 rfl (Ef.lit1 (u := t) I64 Try.underlying28 Try.info2 rfl rfl) ?_
            rintro _ _ ⟨g7, rfl, rfl⟩
            refine ⟨(by repeat first | exact trivial | refine ⟨clA, ?_⟩), ?_⟩
            refine XD.ef 10 rfl (Ef.appA (f := I64) (l := r1.st.l[i].l) (m := [t]) Try.underlying28 Try.info2 rfl rfl rfl fndA ((Sees.lsH _).le leA) (fun _ => rfl) (by simp; omega) (by simp; omega)) ?_
            rintro _ _ ⟨a8, c8, rfl, rfl⟩
            refine ⟨(by repeat first | exact trivial | refine ⟨clA, ?_⟩), ?_⟩
            refine XD.pu 11 rfl (Pu.indexAddr rfl rfl Try.underlying51 Try.sizeOf28 (by omega) (by omega)) ?_
            refine XD.ef0 12 rfl (Ef.setL (f := slV) (l := r1.st.l) (u := ⟨a8, c8, r1.st.l[i].l ++ [t]⟩) (n := i) (g := g) (j := (i : Int)) rfl rfl Try.sizeOf28 rfl hi1 rfl rfl fndA) ?_
            rintro _ _ ⟨rfl, rfl⟩
            refine ⟨trivial, ?_⟩
            refine XD.adr ((hz _ leA).ss) (by simp; omega) (fun b9 o9 e9 => ?_); have hs9 := hr.ss; rw [e9] at hs9; rw [e9]
            refine XD.nil ?_
            refine X.sub (p' := [(9, _), (8, _), (7, _), (6, _), (3, _), (1, _)]) ⟨rfl, rfl, rfl, rfl, rfl, rfl, trivial⟩ ?_
            refine X.seq ?_
            refine X.draw [] Try.mixed (by kernel_rfl) (by kernel_rfl) rfl ?_
            refine XD.loadA 0 rfl rfl Try.isAgg53 Try.sizeOf53 hasA (by rfl) ?_
            refine XD.pu 1 rfl (Pu.fieldAddr 51 3 0 rfl Try.underlying53 rfl Try.sizeOf51) ?_
            refine XD.ld 2 Try.isAgg51 ?_
            refine XD.pu 3 rfl (Pu.move rfl) ?_
            refine XD.pu 4 rfl (Pu.indexAddr rfl rfl Try.underlying51 Try.sizeOf28 (by omega) (by omega)) ?_
            refine XD.ld 5 Try.isAgg28 ?_
            refine XD.pu 6 rfl (Pu.len rfl Try.underlying28) ?_
            refine XD.ef0 7 rfl (Ef.stA Try.sizeOf53) ?_
            rintro _ _ ⟨rfl, rfl⟩
            refine ⟨(by repeat first | exact trivial | refine ⟨clA, ?_⟩), ?_⟩
            refine XD.pu 8 rfl (Pu.assign rfl) ?_
            refine XD.pu 9 rfl (Pu.assign rfl) ?_
            refine XD.nil ?_
            refine X.sub (p' := [(8, _), (7, _), (6, _)]) ⟨rfl, rfl, rfl, trivial⟩ ?_
            have htl1 := h1.tl hi1; have hll : r1.st.l[i].l = r.st.l[i].l := htl1.symm.trans ht; have hlen1 := congrArg List.length hll
            refine X.le (Le.unfV (l := r1.st.l) hi1 (a := a8) (c := c8) (m := r1.st.l[i].l ++ [t])) ?_
            have hok2 : ({ s with chans := s.chans.set i { s.chans.getD i ch0 with all := r1.st.l[i].l ++ [t] } } : Sy).ok (N + 1) := by have := sendS_ok hs (i : Int) t; rwa [show sendS s (i : Int) t = ({ s with chans := s.chans.set i { s.chans.getD i ch0 with all := r1.st.l[i].l ++ [t] } }, (r1.st.l[i].l.length : Int), 0) from (if_pos hr').trans ((if_pos hg).trans ((if_pos hx).trans (by rw [← htl1]; rfl)))] at this
            have href2 : Ref { r1 with st := ⟨some ⟨g, 0, none⟩, r1.st.c, r1.st.l.set i ⟨a8, c8, r1.st.l[i].l ++ [t]⟩⟩ } { s with chans := s.chans.set i { s.chans.getD i ch0 with all := r1.st.l[i].l ++ [t] } } := h1.setT i ⟨a8, c8, r1.st.l[i].l ++ [t]⟩ _ _
            have hLt : r.st.l[i].l.length = r1.st.l[i].l.length := hlen1.symm
            refine X.turn (q' := refM { r1 with st := ⟨some ⟨g, 0, none⟩, r1.st.c, r1.st.l.set i ⟨a8, c8, r1.st.l[i].l ++ [t]⟩⟩ } :: pto n2 _ :: F) (fun w s0 => St.refFz hok2 (by omega) href2 (s0.le (show Le _ (refO { r1 with st := ⟨some ⟨g, 0, none⟩, r1.st.c, r1.st.l.set i ⟨a8, c8, r1.st.l[i].l ++ [t]⟩⟩ } ++ (pto n2 _ :: F)) from by unfold refO; simp only [ca, na]; exact leA))) ?_
            rw [show sendS s (i : Int) t = ({ s with chans := s.chans.set i { s.chans.getD i ch0 with all := r1.st.l[i].l ++ [t] } }, (r1.st.l[i].l.length : Int), 0) from (if_pos hr').trans ((if_pos hg).trans ((if_pos hx).trans (by rw [← htl1]; rfl)))]
            refine X.retL [refM { r1 with st := ⟨some ⟨g, 0, none⟩, r1.st.c, r1.st.l.set i ⟨a8, c8, r1.st.l[i].l ++ [t]⟩⟩ }] Try.func51 (resC Try.results51 (ResOk.cell rfl (LV.agg Try.isAgg53 Try.sizeOf53 hasA rfl) (ResOk.tmp rfl (ResOk.tmp rfl ResOk.nil)))) ⟨_, rfl, { r1 with st := ⟨some ⟨g, 0, none⟩, r1.st.c, r1.st.l.set i ⟨a8, c8, r1.st.l[i].l ++ [t]⟩⟩ }, href2, by simp [Wx.sub, splice, hll, slV], rfl⟩
          · skip
            refine X.know 36 (.bool true) rfl (congrArg Value.bool (by simp; omega)) ?_
            rw [← e7]
            refine X.condT rfl ?_
            refine X.seq ?_
            refine X.region ?_
            refine XO.ldA Try.isAgg53 Try.sizeOf53 ?_
            refine XO.ef0 (Ef.stA Try.sizeOf53) ?_
            rintro _ _ ⟨rfl, rfl⟩
            refine XO.pu (Pu.assign rfl) ?_
            refine XO.pu (Pu.assign rfl) ?_
            refine XO.nil ?_
            refine X.sub (p' := [(8, _), (7, _), (6, _), (3, _), (1, _), (2, _)]) ⟨rfl, rfl, rfl, rfl, rfl, rfl, trivial⟩ ?_
            rw [show sendS s (i : Int) t = (s, -1, 0) from (if_pos hr').trans ((if_pos hg).trans (if_neg hx))]
            refine X.retL [refM r] Try.func51 (resC Try.results51 (ResOk.cell rfl (LV.agg Try.isAgg53 Try.sizeOf53 hasA rfl) (ResOk.tmp rfl (ResOk.tmp rfl ResOk.nil)))) ⟨_, rfl, r, h, rfl, rfl⟩
        · skip
          refine X.know 25 (.bool true) rfl (congrArg Value.bool (by unfold val at hg; simp; omega)) ?_
          refine X.condT rfl ?_
          refine X.seq ?_
          refine X.region ?_
          refine XO.ldA Try.isAgg53 Try.sizeOf53 ?_
          refine XO.ef0 (Ef.stA Try.sizeOf53) ?_
          rintro _ _ ⟨rfl, rfl⟩
          refine XO.pu (Pu.assign rfl) ?_
          refine XO.pu (Pu.assign rfl) ?_
          refine XO.nil ?_
          refine X.sub (p' := [(8, _), (7, _), (6, _), (3, _), (1, _), (2, _)]) ⟨rfl, rfl, rfl, rfl, rfl, rfl, trivial⟩ ?_
          rw [show sendS s (i : Int) t = (s, -1, 2) from (if_pos hr').trans (if_neg hg)]
          refine X.retL [refM r] Try.func51 (resC Try.results51 (ResOk.cell rfl (LV.agg Try.isAgg53 Try.sizeOf53 hasA rfl) (ResOk.tmp rfl (ResOk.tmp rfl ResOk.nil)))) ⟨_, rfl, r, h, rfl, rfl⟩
    · skip
      have hr' : ¬ inR k s.chans.length := by rw [← em]; exact hr0
      refine X.know 18 (.bool true) rfl (congrArg Value.bool (by simp; omega)) ?_
      refine X.condT rfl ?_
      refine X.seq ?_
      refine X.region ?_
      refine XO.ldA Try.isAgg53 Try.sizeOf53 ?_
      refine XO.ef0 (Ef.stA Try.sizeOf53) ?_
      rintro _ _ ⟨rfl, rfl⟩
      refine XO.pu (Pu.assign rfl) ?_
      refine XO.pu (Pu.assign rfl) ?_
      refine XO.nil ?_
      refine X.sub (p' := [(8, _), (7, _), (6, _), (3, _), (1, _), (2, _)]) ⟨rfl, rfl, rfl, rfl, rfl, rfl, trivial⟩ ?_
      rw [show sendS s k t = (s, -1, 4) from if_neg hr']
      refine X.retL [refM r] Try.func51 (resC Try.results51 (ResOk.cell rfl (LV.agg Try.isAgg53 Try.sizeOf53 hasA rfl) (ResOk.tmp rfl (ResOk.tmp rfl ResOk.nil)))) ⟨_, rfl, r, h, rfl, rfl⟩
theorem getD_lt' {α : Type} (l : List α) (n : Nat) (d : α) (h : n < l.length) : l.getD n d = l[n] := by simp [List.getD, h]
set_option maxHeartbeats 1000000 in
theorem RRecv_ok (h : Ref r s) {N : Nat} (hs : s.ok N) (hN : N ≤ 900) : CallF Try.prog G 52 [.agg [.slice r.ow.a r.ow.l.length r.ow.c, .slice r.cs.a r.cs.l.length r.cs.c, .slice r.rm.a r.rm.l.length r.rm.c, .slice r.st.a r.st.l.length r.st.c, .slice r.tk.a r.tk.l.length r.tk.c].toArray, .int .i64 k] [refM r] (Ret fun v q' => ∃ r', Ref r' (recvS s k).1 ∧ v = .tuple [.agg [.slice r'.ow.a r'.ow.l.length r'.ow.c, .slice r'.cs.a r'.cs.l.length r'.cs.c, .slice r'.rm.a r'.rm.l.length r'.rm.c, .slice r'.st.a r'.st.l.length r'.st.c, .slice r'.tk.a r'.tk.l.length r'.tk.c].toArray, .int .i64 (recvS s k).2.1, .int .i64 (recvS s k).2.2.1, .int .i64 (recvS s k).2.2.2].toArray ∧ q' = [refM r']) := by
  refine CallF.of Try.func52 Try.ntmps52 rfl (fun F cs => ?_)
  refine X.sub (p' := [(0, _), (1, _)]) ⟨rfl, rfl, trivial⟩ ?_
  change X _ _ _ _ _ _ _ _ (refM r :: F)
  refine X.refM (fun hr => ?_)
  have hz : ∀ q', Le q' (refM r :: F) → RSee q' r := fun q' l => hr.le l; have hl := h.len hs (by omega); have hlo := hl.o; have hlc := hl.c; have hlm := hl.m; have hlt := hl.t; have hlk := hl.k; have eo := h.lo; have ec := h.lc; have em := h.lm; have et := h.lt; have ek := h.lk
  refine X.seq ?_
  refine X.region ?_
  refine XO.ef (Ef.box rfl) ?_
  rintro _ _ ⟨n1, rfl, rfl⟩
  refine XO.ef (Ef.alloc Try.zeroValue53) ?_
  rintro _ _ ⟨n2, rfl, rfl⟩
  refine XO.pu (Pu.assign rfl) ?_
  refine XO.pu (Pu.assign rfl) ?_
  refine XO.pu (Pu.assign rfl) ?_
  refine XO.nil ?_
  refine X.sub (p' := [(7, _), (6, _), (5, _), (4, _), (2, _), (1, _)]) ⟨rfl, rfl, rfl, rfl, rfl, rfl, trivial⟩ ?_
  refine X.seq ?_
  refine X.seq ?_
  refine X.region ?_
  refine XO.pu (Pu.move rfl) ?_
  refine XO.pu (Pu.lss rfl rfl) ?_
  refine XO.pu (Pu.move rfl) ?_
  refine XO.sub (p' := [(11, _), (7, _), (6, _), (5, _), (4, _), (2, _), (1, _)]) ⟨rfl, rfl, rfl, rfl, rfl, rfl, rfl, trivial⟩ ?_
  apply XO.cutOr 6 17 11 rfl
  · skip
    intro g1 M1; have h1 := g1; try simp only [decide_eq_true_eq, decide_eq_false_iff_not, bne_iff_ne, beq_iff_eq, ne_eq, bne_eq_false_iff_eq, beq_eq_false_iff_ne, Bool.not_eq_true', Bool.not_eq_false', Int.not_lt, Int.not_le, Bool.not_not, Bool.and_eq_true, Bool.and_eq_false_iff, Bool.true_and, Bool.and_true, beq_self_eq_true, Bool.or_eq_true, Bool.or_eq_false_iff] at h1
    refine XO.pu (Pu.move rfl) ?_
    refine XO.pu (Pu.fieldAddr 29 2 0 rfl Try.underlying53 rfl Try.sizeOf29) ?_
    refine XO.ld Try.isAgg29 ?_
    refine XO.pu (Pu.len rfl Try.underlying29) ?_
    refine XO.pu (Pu.geq rfl rfl) ?_
    refine XO.pu (Pu.pickF rfl rfl) ?_
    exact XO.fin M1 ⟨orF g1, congrArg (fun x => some (Value.bool x)) g1.symm, rfl, rfl, rfl, rfl, rfl, rfl, trivial⟩
  · skip
    intro g1 M1; have h1 := g1; try simp only [decide_eq_true_eq, decide_eq_false_iff_not, bne_iff_ne, beq_iff_eq, ne_eq, bne_eq_false_iff_eq, beq_eq_false_iff_ne, Bool.not_eq_true', Bool.not_eq_false', Int.not_lt, Int.not_le, Bool.not_not, Bool.and_eq_true, Bool.and_eq_false_iff, Bool.true_and, Bool.and_true, beq_self_eq_true, Bool.or_eq_true, Bool.or_eq_false_iff] at h1
    refine XO.pass rfl ?_
    refine XO.pass rfl ?_
    refine XO.pass rfl ?_
    refine XO.pass rfl ?_
    refine XO.pass rfl ?_
    refine XO.pu (Pu.pickT rfl rfl) ?_
    exact XO.fin M1 ⟨orT g1, congrArg (fun x => some (Value.bool x)) g1.symm, rfl, rfl, rfl, rfl, rfl, rfl, trivial⟩
  · skip
    refine XO.nil ?_
    refine X.sub (p' := [(17, _), (7, _), (6, _), (5, _), (4, _), (2, _), (1, _)]) ⟨rfl, rfl, rfl, rfl, rfl, rfl, rfl, trivial⟩ ?_
    rcases Decidable.em (inR k r.rm.l.length) with hr0 | hr0
    · skip
      have hr' : inR k s.chans.length := by rw [← em]; exact hr0
      obtain ⟨i, rfl⟩ := Int.eq_ofNat_of_zero_le hr0.1; have hi : i < r.rm.l.length := (by have := hr0.2; omega)
      refine X.know 17 (.bool false) rfl (congrArg Value.bool (by simp; omega)) ?_
      have hi2 : i < r.st.l.length := (by omega); have hi3 : i < r.tk.l.length := (by omega); have hi4 : i < r.rm.l.length := (by omega)
      have hch := hs.h _ (getD_mem (d := ch0) (show i < s.chans.length by omega)); obtain ⟨⟨hr1, hr2⟩, htk, hal, hit, hva⟩ := hch; have hm := h.ml (i := i) (by omega); have ht := h.tl (i := i) (by omega); have hk := h.kl (i := i) (by omega); have hitl : (s.chans.getD i ch0).items.length = r.st.l[i].l.length - (r.tk.l[i]).toNat := (by unfold Ch.items; rw [List.length_drop, ht]; omega); have htl := congrArg List.length ht
      refine X.condF rfl ?_
      refine X.skip ?_
      refine X.seq ?_
      refine X.seq ?_
      refine X.region ?_
      refine XO.ldA Try.isAgg53 Try.sizeOf53 ?_
      refine XO.pu (Pu.move rfl) ?_
      refine XO.cR Try.call53 (RVals_ok (i := i) (hz _ leA) hl (by omega) (by omega) (by omega)) ?_
      refine XO.pu (Pu.len rfl Try.underlying28) ?_
      refine XO.pu (Pu.eql rfl rfl) ?_
      refine XO.nil ?_
      refine X.sub (p' := [(23, _), (7, _), (6, _), (5, _), (4, _), (2, _), (1, _)]) ⟨rfl, rfl, rfl, rfl, rfl, rfl, rfl, trivial⟩ ?_
      rcases Decidable.em ((s.chans.getD i ch0).items = []) with hx | hx
      · skip
        rw [hx] at hitl; simp only [List.length_nil] at hitl
        refine X.know 23 (.bool true) rfl (congrArg Value.bool (by simp; omega)) ?_
        refine X.condT rfl ?_
        refine X.seq ?_
        refine X.region ?_
        refine XO.ldA Try.isAgg53 Try.sizeOf53 ?_
        refine XO.ef0 (Ef.stA Try.sizeOf53) ?_
        rintro _ _ ⟨rfl, rfl⟩
        refine XO.pu (Pu.assign rfl) ?_
        refine XO.pu (Pu.assign rfl) ?_
        refine XO.pu (Pu.assign rfl) ?_
        refine XO.nil ?_
        refine X.sub (p' := [(7, _), (6, _), (5, _), (4, _), (2, _), (1, _)]) ⟨rfl, rfl, rfl, rfl, rfl, rfl, trivial⟩ ?_
        rw [show recvS s (i : Int) = (s, 0, -1, 0) from (if_pos hr').trans (if_pos hx)]
        refine X.retL [refM r] Try.func52 (resC Try.results52 (ResOk.cell rfl (LV.agg Try.isAgg53 Try.sizeOf53 hasA rfl) (ResOk.tmp rfl (ResOk.tmp rfl (ResOk.tmp rfl ResOk.nil))))) ⟨_, rfl, r, h, rfl, rfl⟩
      · skip
        have hpos := List.length_pos_iff.2 hx
        refine X.know 23 (.bool false) rfl (congrArg Value.bool (by simp; omega)) ?_
        refine X.condF rfl ?_
        refine X.skip ?_
        refine X.seq ?_
        refine X.region ?_
        refine XO.ldA Try.isAgg53 Try.sizeOf53 ?_
        refine XO.cX Try.call70 (Le.refl _) (RCopy_ok (hz _ leA) hl) ?_
        rintro _ _ ⟨r1, hs1, rfl, rfl⟩
        have h1 := hs1.ref h; have el1 := h1.lo; have ec1 := h1.lc; have em1 := h1.lm; have et1 := h1.lt; have ek1 := h1.lk; have hl1 := h1.len hs (by omega)
        unfold refO; simp only [ca, na]
        have hi1 : i < r1.tk.l.length := (by omega); have hk1 := h1.kl hi1; have hkk : r1.tk.l[i] = r.tk.l[i] := hk1.symm.trans hk
        refine XO.lsadr (l := r1.tk.l) (by omega) (fun g e6 => ?_); rw [e6]
        have hs9 : Sees (lsH I64 3 (some ⟨g, 0, none⟩) r1.tk.c r1.tk.l :: []) (some ⟨g, 0, none⟩) (r1.tk.l.map I64) := Sees.lsH []
        refine XO.ef (Ef.alloc Try.zeroValue53) ?_
        rintro _ _ ⟨n3, rfl, rfl⟩
        refine XO.ef0 (Ef.stA Try.sizeOf53) ?_
        rintro _ _ ⟨rfl, rfl⟩
        refine XO.nil ?_
        refine X.sub (p' := [(8, _), (7, _), (6, _), (5, _), (4, _), (2, _), (1, _)]) ⟨rfl, rfl, rfl, rfl, rfl, rfl, rfl, trivial⟩ ?_
        refine X.seq ?_
        refine X.region ?_
        refine XO.pu (Pu.fieldAddr 29 4 0 rfl Try.underlying53 rfl Try.sizeOf29) ?_
        refine XO.ld Try.isAgg29 ?_
        refine XO.pu (Pu.move rfl) ?_
        refine XO.pu (Pu.indexAddr rfl rfl Try.underlying29 Try.sizeOf3 (by omega) (by omega)) ?_
        refine XO.ld Try.isAgg3 ?_
        refine XO.pu (Pu.add rfl rfl (by omega) (by omega)) ?_
        refine XO.pu (Pu.indexAddr rfl rfl Try.underlying29 Try.sizeOf3 (by omega) (by omega)) ?_
        refine XO.know 32 (.int .i64 (((s.chans.getD i ch0).taken + 1 : Nat) : Int)) rfl (congrArg (Value.int .i64) (by rw [← hk1]; omega)) ?_
        refine XO.ef0 (Ef.setL (f := I64) (l := r1.tk.l) (u := (((s.chans.getD i ch0).taken + 1 : Nat) : Int)) (n := i) (g := g) (j := (i : Int)) rfl rfl Try.sizeOf3 rfl hi1 rfl rfl fndA) ?_
        rintro _ _ ⟨rfl, rfl⟩
        have hsi := hr.ssi i hi2
        refine XO.adr ((hz _ leA).ss) (by simp; omega) (fun b7 o7 e7 => ?_); have hs7 := hr.ss; rw [e7] at hs7; rw [e7]
        refine XO.adr ((hz _ leA).sk) (by simp; omega) (fun b8 o8 e8 => ?_); have hs8 := hr.sk; rw [e8] at hs8; rw [e8]
        refine XO.adr (hsi.le leA) (by simp; omega) (fun b9 o9 e9 => ?_); rw [e9] at hsi
        refine XO.nil ?_
        refine X.sub (p' := [(8, _), (7, _), (6, _), (5, _), (4, _), (2, _), (1, _)]) ⟨rfl, rfl, rfl, rfl, rfl, rfl, rfl, trivial⟩ ?_
        refine X.seq ?_
        refine X.draw [] Try.mixed (by kernel_rfl) (by kernel_rfl) rfl ?_
        refine XD.loadA 0 rfl rfl Try.isAgg53 Try.sizeOf53 hasA (by rfl) ?_
        refine XD.pu 1 rfl (Pu.fieldAddr 51 3 0 rfl Try.underlying53 rfl Try.sizeOf51) ?_
        refine XD.ld 2 Try.isAgg51 ?_
        refine XD.pu 3 rfl (Pu.move rfl) ?_
        refine XD.pu 4 rfl (Pu.indexAddr rfl rfl Try.underlying51 Try.sizeOf28 (by omega) (by omega)) ?_
        refine XD.ld 5 Try.isAgg28 ?_
        refine XD.pu 6 rfl (Pu.fieldAddr 29 4 0 rfl Try.underlying53 rfl Try.sizeOf29) ?_
        refine XD.ld 7 Try.isAgg29 ?_
        refine XD.pu 8 rfl (Pu.move rfl) ?_
        refine XD.pu 9 rfl (Pu.indexAddr rfl rfl Try.underlying29 Try.sizeOf3 (by omega) (by omega)) ?_
        refine XD.ld 10 Try.isAgg3 ?_
        refine XD.know 39 (.slice (some ⟨b9, o9, none⟩) r.st.l[i].l.length r.st.l[i].c) rfl (by unfold slV; rw [e9]) ?_
        refine XD.know 44 (.int .i64 (((s.chans.getD i ch0).taken : Nat) : Int)) rfl (congrArg (Value.int .i64) hk.symm) ?_
        have htl5 : (s.chans.getD i ch0).taken < r.st.l[i].l.length := (by omega)
        refine XD.pu 11 rfl (Pu.indexAddr rfl rfl Try.underlying28 Try.sizeOf2 (by omega) (by omega)) ?_
        refine XD.ld 12 Try.isAgg2 ?_
        refine XD.pu 13 rfl (Pu.fieldAddr 29 4 0 rfl Try.underlying53 rfl Try.sizeOf29) ?_
        refine XD.ld 14 Try.isAgg29 ?_
        refine XD.pu 15 rfl (Pu.move rfl) ?_
        refine XD.pu 16 rfl (Pu.indexAddr rfl rfl Try.underlying29 Try.sizeOf3 (by omega) (by omega)) ?_
        refine XD.ld 17 Try.isAgg3 ?_
        refine XD.ef0 18 rfl (Ef.stA Try.sizeOf53) ?_
        rintro _ _ ⟨rfl, rfl⟩
        refine ⟨(by repeat first | exact trivial | refine ⟨clA, ?_⟩), ?_⟩
        refine XD.pu 19 rfl (Pu.assign rfl) ?_
        refine XD.pu 20 rfl (Pu.assign rfl) ?_
        refine XD.pu 21 rfl (Pu.assign rfl) ?_
        refine XD.nil ?_
        refine X.sub (p' := [(7, _), (6, _), (5, _), (4, _)]) ⟨rfl, rfl, rfl, rfl, trivial⟩ ?_
        have hgt : (s.chans.getD i ch0).all.getD (s.chans.getD i ch0).taken 0 = r.st.l[i].l[(s.chans.getD i ch0).taken] := by rw [ht]; exact getD_lt' _ _ _ htl5
        have hok2 : ({ s with chans := s.chans.set i { s.chans.getD i ch0 with taken := (s.chans.getD i ch0).taken + 1 } } : Sy).ok N := by have := recvS_ok hs (i : Int); rwa [show recvS s (i : Int) = ({ s with chans := s.chans.set i { s.chans.getD i ch0 with taken := (s.chans.getD i ch0).taken + 1 } }, r.st.l[i].l[(s.chans.getD i ch0).taken], ((s.chans.getD i ch0).taken : Int), 0) from (if_pos hr').trans ((if_neg hx).trans (by rw [← hgt]; rfl))] at this
        have href2 : Ref { r1 with tk := ⟨some ⟨g, 0, none⟩, r1.tk.c, r1.tk.l.set i (((s.chans.getD i ch0).taken + 1 : Nat) : Int)⟩ } { s with chans := s.chans.set i { s.chans.getD i ch0 with taken := (s.chans.getD i ch0).taken + 1 } } := h1.setK i _ _ _
        refine X.turn (q' := refM { r1 with tk := ⟨some ⟨g, 0, none⟩, r1.tk.c, r1.tk.l.set i (((s.chans.getD i ch0).taken + 1 : Nat) : Int)⟩ } :: pto n2 _ :: F) (fun w s0 => St.refFz hok2 (by omega) href2 (s0.le (show Le _ (refO { r1 with tk := ⟨some ⟨g, 0, none⟩, r1.tk.c, r1.tk.l.set i (((s.chans.getD i ch0).taken + 1 : Nat) : Int)⟩ } ++ (pto n2 _ :: F)) from by unfold refO; simp only [ca, na]; exact leA))) ?_
        rw [show recvS s (i : Int) = ({ s with chans := s.chans.set i { s.chans.getD i ch0 with taken := (s.chans.getD i ch0).taken + 1 } }, r.st.l[i].l[(s.chans.getD i ch0).taken], ((s.chans.getD i ch0).taken : Int), 0) from (if_pos hr').trans ((if_neg hx).trans (by rw [← hgt]; rfl))]
        refine X.retL [refM { r1 with tk := ⟨some ⟨g, 0, none⟩, r1.tk.c, r1.tk.l.set i (((s.chans.getD i ch0).taken + 1 : Nat) : Int)⟩ }] Try.func52 (resC Try.results52 (ResOk.cell rfl (LV.agg Try.isAgg53 Try.sizeOf53 hasA rfl) (ResOk.tmp rfl (ResOk.tmp rfl (ResOk.tmp rfl ResOk.nil))))) ⟨_, rfl, { r1 with tk := ⟨some ⟨g, 0, none⟩, r1.tk.c, r1.tk.l.set i (((s.chans.getD i ch0).taken + 1 : Nat) : Int)⟩ }, href2, by simp [Wx.sub, splice, slV]; simpa using hk.symm, rfl⟩
    · skip
      have hr' : ¬ inR k s.chans.length := by rw [← em]; exact hr0
      refine X.know 17 (.bool true) rfl (congrArg Value.bool (by simp; omega)) ?_
      refine X.condT rfl ?_
      refine X.seq ?_
      refine X.region ?_
      refine XO.ldA Try.isAgg53 Try.sizeOf53 ?_
      refine XO.ef0 (Ef.stA Try.sizeOf53) ?_
      rintro _ _ ⟨rfl, rfl⟩
      refine XO.pu (Pu.assign rfl) ?_
      refine XO.pu (Pu.assign rfl) ?_
      refine XO.pu (Pu.assign rfl) ?_
      refine XO.nil ?_
      refine X.sub (p' := [(7, _), (6, _), (5, _), (4, _), (2, _), (1, _)]) ⟨rfl, rfl, rfl, rfl, rfl, rfl, trivial⟩ ?_
      rw [show recvS s k = (s, 0, -1, 4) from if_neg hr']
      refine X.retL [refM r] Try.func52 (resC Try.results52 (ResOk.cell rfl (LV.agg Try.isAgg53 Try.sizeOf53 hasA rfl) (ResOk.tmp rfl (ResOk.tmp rfl (ResOk.tmp rfl ResOk.nil))))) ⟨_, rfl, r, h, rfl, rfl⟩
end
end Go.Proofs.Ytlgnnhpbomfdiaa

