/- What functions of package sync, of its references and of its laws do: contracts of calls, proved by walking their code. -/
import Derived.Test.YtlgnnhpbomfdiaaJ
import Derived.KernelRfl
set_option maxRecDepth 100000
set_option linter.unusedVariables false
set_option linter.unusedSimpArgs false
namespace Go.Proofs.Ytlgnnhpbomfdiaa
open Go Go.RowKit Wx

section
variable {G : World} {q : List HP} {a b : Option Addr} {c d g p i n : Nat} {r : RS} {s : Sy} {k t v m : Int}
set_option maxHeartbeats 1000000 in
theorem RAll_ok (h : Ref r s) {N : Nat} (hs : s.ok N) (hN : N ≤ 900) : CallF Try.prog G 50 [.agg [.slice r.ow.a r.ow.l.length r.ow.c, .slice r.cs.a r.cs.l.length r.cs.c, .slice r.rm.a r.rm.l.length r.rm.c, .slice r.st.a r.st.l.length r.st.c, .slice r.tk.a r.tk.l.length r.tk.c].toArray, .int .i64 k] [refM r] (Ret fun v q' => ∃ r', Ref r' (allS s k).1 ∧ ∃ a' c', v = .tuple [.agg [.slice r'.ow.a r'.ow.l.length r'.ow.c, .slice r'.cs.a r'.cs.l.length r'.cs.c, .slice r'.rm.a r'.rm.l.length r'.rm.c, .slice r'.st.a r'.st.l.length r'.st.c, .slice r'.tk.a r'.tk.l.length r'.tk.c].toArray, .slice a' (allS s k).2.1.length c', .int .i64 (allS s k).2.2].toArray ∧ q' = [refM r', shM (.slice IS) ⟨a', c', (allS s k).2.1⟩]) := by
  refine CallF.of Try.func50 Try.ntmps50 rfl (fun F cs => ?_)
  refine X.sub (p' := [(0, _), (1, _)]) ⟨rfl, rfl, trivial⟩ ?_
  change X _ _ _ _ _ _ _ _ (refM r :: F)
  refine X.refM (fun hr => ?_)
  have hz : ∀ q', Le q' (refM r :: F) → RSee q' r := fun q' l => hr.le l; have hl := h.len hs (by omega); have hlo := hl.o; have hlc := hl.c; have hlm := hl.m; have hlt := hl.t; have hlk := hl.k; have eo := h.lo; have ec := h.lc; have em := h.lm; have et := h.lt; have ek := h.lk
  refine X.seq ?_
  refine X.region ?_
  refine XO.ef (Ef.box rfl) ?_
  rintro _ _ ⟨n1, rfl, rfl⟩
  refine XO.ef (Ef.alloc Try.zeroValue53) ?_
  rintro _ _ ⟨n2, rfl, rfl⟩
  refine XO.pu (Pu.assign rfl) ?_
  refine XO.pu (Pu.assign rfl) ?_
  refine XO.nil ?_
  refine X.sub (p' := [(6, _), (5, _), (4, _), (2, _), (1, _)]) ⟨rfl, rfl, rfl, rfl, rfl, trivial⟩ ?_
  refine X.seq ?_
  refine X.seq ?_
  refine X.region ?_
  refine XO.pu (Pu.move rfl) ?_
  refine XO.pu (Pu.lss rfl rfl) ?_
  refine XO.pu (Pu.move rfl) ?_
  refine XO.sub (p' := [(10, _), (6, _), (5, _), (4, _), (2, _), (1, _)]) ⟨rfl, rfl, rfl, rfl, rfl, rfl, trivial⟩ ?_
  apply XO.cutOr 6 16 10 rfl
  · skip
    intro g1 M1; have h1 := g1; try simp only [decide_eq_true_eq, decide_eq_false_iff_not, bne_iff_ne, beq_iff_eq, ne_eq, bne_eq_false_iff_eq, beq_eq_false_iff_ne, Bool.not_eq_true', Bool.not_eq_false', Int.not_lt, Int.not_le, Bool.not_not, Bool.and_eq_true, Bool.and_eq_false_iff, Bool.true_and, Bool.and_true, beq_self_eq_true, Bool.or_eq_true, Bool.or_eq_false_iff] at h1
    refine XO.pu (Pu.move rfl) ?_
    refine XO.pu (Pu.fieldAddr 50 1 0 rfl Try.underlying53 rfl Try.sizeOf50) ?_
    refine XO.ld Try.isAgg50 ?_
    refine XO.pu (Pu.len rfl Try.underlying50) ?_
    refine XO.pu (Pu.geq rfl rfl) ?_
    refine XO.pu (Pu.pickF rfl rfl) ?_
    exact XO.fin M1 ⟨orF g1, congrArg (fun x => some (Value.bool x)) g1.symm, rfl, rfl, rfl, rfl, rfl, trivial⟩
  · skip
    intro g1 M1; have h1 := g1; try simp only [decide_eq_true_eq, decide_eq_false_iff_not, bne_iff_ne, beq_iff_eq, ne_eq, bne_eq_false_iff_eq, beq_eq_false_iff_ne, Bool.not_eq_true', Bool.not_eq_false', Int.not_lt, Int.not_le, Bool.not_not, Bool.and_eq_true, Bool.and_eq_false_iff, Bool.true_and, Bool.and_true, beq_self_eq_true, Bool.or_eq_true, Bool.or_eq_false_iff] at h1
    refine XO.pass rfl ?_
    refine XO.pass rfl ?_
    refine XO.pass rfl ?_
    refine XO.pass rfl ?_
    refine XO.pass rfl ?_
    refine XO.pu (Pu.pickT rfl rfl) ?_
    exact XO.fin M1 ⟨orT g1, congrArg (fun x => some (Value.bool x)) g1.symm, rfl, rfl, rfl, rfl, rfl, trivial⟩
  · skip
    refine XO.nil ?_
    refine X.sub (p' := [(16, _), (6, _), (5, _), (4, _), (2, _), (1, _)]) ⟨rfl, rfl, rfl, rfl, rfl, rfl, trivial⟩ ?_
    rcases Decidable.em (inR k r.cs.l.length) with hr0 | hr0
    · skip
      have hr' : inR k s.conds.length := by rw [← ec]; exact hr0
      obtain ⟨i, rfl⟩ := Int.eq_ofNat_of_zero_le hr0.1; have hi : i < r.cs.l.length := (by have := hr0.2; omega)
      refine X.know 16 (.bool false) rfl (congrArg Value.bool (by simp; omega)) ?_
      have hcl := h.cl hi
      refine X.condF rfl ?_
      refine X.skip ?_
      refine X.seq ?_
      refine X.region ?_
      refine XO.ldA Try.isAgg53 Try.sizeOf53 ?_
      refine XO.cX Try.call70 (Le.refl _) (RCopy_ok (hz _ leA) hl) ?_
      rintro _ _ ⟨r1, hs1, rfl, rfl⟩
      have h1 := hs1.ref h; have el1 := h1.lo; have ec1 := h1.lc; have em1 := h1.lm; have et1 := h1.lt; have ek1 := h1.lk; have hl1 := h1.len hs (by omega)
      unfold refO; simp only [ca, na]
      have hi1 : i < r1.cs.l.length := (by omega)
      refine XO.lsadr (l := r1.cs.l) (by omega) (fun g e6 => ?_); rw [e6]
      have hs9 : Sees (lsH slV 29 (some ⟨g, 0, none⟩) r1.cs.c r1.cs.l :: []) (some ⟨g, 0, none⟩) (r1.cs.l.map slV) := Sees.lsH []
      refine XO.ef (Ef.alloc Try.zeroValue53) ?_
      rintro _ _ ⟨n3, rfl, rfl⟩
      refine XO.ef0 (Ef.stA Try.sizeOf53) ?_
      rintro _ _ ⟨rfl, rfl⟩
      refine XO.nil ?_
      refine X.sub (p' := [(7, _), (6, _), (5, _), (4, _), (2, _), (1, _)]) ⟨rfl, rfl, rfl, rfl, rfl, rfl, trivial⟩ ?_
      refine X.seq ?_
      refine X.region ?_
      refine XO.pu (Pu.fieldAddr 50 1 0 rfl Try.underlying53 rfl Try.sizeOf50) ?_
      refine XO.ld Try.isAgg50 ?_
      refine XO.pu (Pu.move rfl) ?_
      refine XO.pu (Pu.indexAddr rfl rfl Try.underlying50 Try.sizeOf29 (by omega) (by omega)) ?_
      refine XO.le (Le.focV (l := r1.cs.l) hi1) ?_
      refine XO.le (Le.lsH_nil I64 3 _) ?_
      refine XO.le (Le.unfV (l := r1.cs.l) hi1 (a := none) (c := 0) (m := [])) ?_
      refine XO.ef0 (Ef.setL (f := slV) (l := r1.cs.l) (u := ⟨none, 0, []⟩) (n := i) (g := g) (j := (i : Int)) rfl rfl Try.sizeOf29 rfl hi1 rfl rfl fndA) ?_
      rintro _ _ ⟨rfl, rfl⟩
      refine XO.adr ((hz _ leA).sc) (by simp; omega) (fun b7 o7 e7 => ?_); have hs7 := hr.sc; rw [e7] at hs7; rw [e7]
      refine XO.nil ?_
      refine X.sub (p' := [(7, _), (6, _), (5, _), (4, _), (2, _), (1, _)]) ⟨rfl, rfl, rfl, rfl, rfl, rfl, trivial⟩ ?_
      refine X.seq ?_
      refine X.draw [] Try.mixed (by kernel_rfl) (by kernel_rfl) rfl ?_
      refine XD.loadA 0 rfl rfl Try.isAgg53 Try.sizeOf53 hasA (by rfl) ?_
      refine XD.pu 1 rfl (Pu.fieldAddr 50 1 0 rfl Try.underlying53 rfl Try.sizeOf50) ?_
      refine XD.ld 2 Try.isAgg50 ?_
      refine XD.pu 3 rfl (Pu.move rfl) ?_
      refine XD.pu 4 rfl (Pu.indexAddr rfl rfl Try.underlying50 Try.sizeOf29 (by omega) (by omega)) ?_
      refine XD.ld 5 Try.isAgg29 ?_
      refine XD.ef0 6 rfl (Ef.stA Try.sizeOf53) ?_
      rintro _ _ ⟨rfl, rfl⟩
      refine ⟨hlA, ?_⟩
      refine XD.pu 7 rfl (Pu.assign rfl) ?_
      refine XD.pu 8 rfl (Pu.assign rfl) ?_
      refine XD.nil ?_
      refine X.sub (p' := [(6, _), (5, _), (4, _)]) ⟨rfl, rfl, rfl, trivial⟩ ?_
      have hok2 : ({ s with conds := s.conds.set i [] } : Sy).ok N := by have := allS_ok hs (i : Int); rwa [show allS s (i : Int) = ({ s with conds := s.conds.set i [] }, r.cs.l[i].l, 0) from (if_pos hr').trans (by rw [← hcl]; rfl)] at this
      have href2 : Ref { r1 with cs := ⟨some ⟨g, 0, none⟩, r1.cs.c, r1.cs.l.set i ⟨none, 0, []⟩⟩ } { s with conds := s.conds.set i [] } := h1.setC i ⟨none, 0, []⟩ _ _
      refine X.turn (q' := refM { r1 with cs := ⟨some ⟨g, 0, none⟩, r1.cs.c, r1.cs.l.set i ⟨none, 0, []⟩⟩ } :: refM r :: pto n2 _ :: F) (fun w s => St.refFz hok2 (by omega) href2 (s.le (show Le _ (refO { r1 with cs := ⟨some ⟨g, 0, none⟩, r1.cs.c, r1.cs.l.set i ⟨none, 0, []⟩⟩ } ++ (refM r :: pto n2 _ :: F)) from by unfold refO; simp only [ca, na]; exact leA))) ?_
      rw [show allS s (i : Int) = ({ s with conds := s.conds.set i [] }, r.cs.l[i].l, 0) from (if_pos hr').trans (by rw [← hcl]; rfl)]
      refine X.le (q' := shM (.slice IS) r.cs.l[i] :: _) (Le.trans (show Le _ (refM r :: _) from fndA) (.one fun M x p => p.2.1.2.2.2.2 _ (List.getElem_mem hi))) ?_
      refine X.retL [refM { r1 with cs := ⟨some ⟨g, 0, none⟩, r1.cs.c, r1.cs.l.set i ⟨none, 0, []⟩⟩ }, shM (.slice IS) r.cs.l[i]] Try.func50 (resC Try.results50 (ResOk.cell rfl (LV.agg Try.isAgg53 Try.sizeOf53 hasA rfl) (ResOk.tmp rfl (ResOk.tmp rfl ResOk.nil)))) ⟨_, rfl, { r1 with cs := ⟨some ⟨g, 0, none⟩, r1.cs.c, r1.cs.l.set i ⟨none, 0, []⟩⟩ }, href2, r.cs.l[i].a, r.cs.l[i].c, by simp [Wx.sub, splice, slV], rfl⟩
    · skip
      have hr' : ¬ inR k s.conds.length := by rw [← ec]; exact hr0
      refine X.know 16 (.bool true) rfl (congrArg Value.bool (by simp; omega)) ?_
      refine X.condT rfl ?_
      refine X.seq ?_
      refine X.region ?_
      refine XO.ldA Try.isAgg53 Try.sizeOf53 ?_
      refine XO.ef0 (Ef.stA Try.sizeOf53) ?_
      rintro _ _ ⟨rfl, rfl⟩
      refine XO.pu (Pu.assign rfl) ?_
      refine XO.pu (Pu.assign rfl) ?_
      refine XO.nil ?_
      refine X.sub (p' := [(6, _), (5, _), (4, _), (2, _), (1, _)]) ⟨rfl, rfl, rfl, rfl, rfl, trivial⟩ ?_
      rw [show allS s k = (s, [], 4) from if_neg hr']
      refine X.retL [refM r, shM (.slice IS) ⟨none, 0, []⟩] Try.func50 (resC Try.results50 (ResOk.cell rfl (LV.agg Try.isAgg53 Try.sizeOf53 hasA rfl) (ResOk.tmp rfl (ResOk.tmp rfl ResOk.nil)))) ⟨_, rfl, r, h, none, 0, rfl, rfl⟩ (Le.trans (Le.shM_pure (s := .slice IS) (v := ⟨none, 0, []⟩) (fun M => ⟨Nat.le_refl _, by simp [maxLen], fun _ => rfl, fun i u h => by simp at h, fun y hy => by simp at hy⟩) _) leA)
set_option maxHeartbeats 1000000 in
theorem RWait_ok (h : Ref r s) {N : Nat} (hs : s.ok N) (hN : N ≤ 900) : CallF Try.prog G 48 [.agg [.slice r.ow.a r.ow.l.length r.ow.c, .slice r.cs.a r.cs.l.length r.cs.c, .slice r.rm.a r.rm.l.length r.rm.c, .slice r.st.a r.st.l.length r.st.c, .slice r.tk.a r.tk.l.length r.tk.c].toArray, .int .i64 k, .int .i64 t] [refM r] (Ret fun v q' => ∃ r', Ref r' (waitS s k t).1 ∧ v = .tuple [.agg [.slice r'.ow.a r'.ow.l.length r'.ow.c, .slice r'.cs.a r'.cs.l.length r'.cs.c, .slice r'.rm.a r'.rm.l.length r'.rm.c, .slice r'.st.a r'.st.l.length r'.st.c, .slice r'.tk.a r'.tk.l.length r'.tk.c].toArray, .int .i64 (waitS s k t).2].toArray ∧ q' = [refM r']) := by
  refine CallF.of Try.func48 Try.ntmps48 rfl (fun F cs => ?_)
  refine X.sub (p' := [(0, _), (1, _), (2, _)]) ⟨rfl, rfl, rfl, trivial⟩ ?_
  change X _ _ _ _ _ _ _ _ (refM r :: F)
  refine X.refM (fun hr => ?_)
  have hz : ∀ q', Le q' (refM r :: F) → RSee q' r := fun q' l => hr.le l; have hl := h.len hs (by omega); have hlo := hl.o; have hlc := hl.c; have hlm := hl.m; have hlt := hl.t; have hlk := hl.k; have eo := h.lo; have ec := h.lc; have em := h.lm; have et := h.lt; have ek := h.lk
  refine X.seq ?_
  refine X.region ?_
  refine XO.ef (Ef.box rfl) ?_
  rintro _ _ ⟨n1, rfl, rfl⟩
  refine XO.ef (Ef.alloc Try.zeroValue53) ?_
  rintro _ _ ⟨n2, rfl, rfl⟩
  refine XO.pu (Pu.assign rfl) ?_
  refine XO.nil ?_
  refine X.sub (p' := [(7, _), (6, _), (3, _), (1, _), (2, _)]) ⟨rfl, rfl, rfl, rfl, rfl, trivial⟩ ?_
  refine X.seq ?_
  refine X.seq ?_
  refine X.region ?_
  refine XO.pu (Pu.move rfl) ?_
  refine XO.pu (Pu.lss rfl rfl) ?_
  refine XO.pu (Pu.move rfl) ?_
  refine XO.sub (p' := [(13, _), (7, _), (6, _), (3, _), (1, _), (2, _)]) ⟨rfl, rfl, rfl, rfl, rfl, rfl, trivial⟩ ?_
  apply XO.cutOr 6 19 13 rfl
  · skip
    intro g1 M1; have h1 := g1; try simp only [decide_eq_true_eq, decide_eq_false_iff_not, bne_iff_ne, beq_iff_eq, ne_eq, bne_eq_false_iff_eq, beq_eq_false_iff_ne, Bool.not_eq_true', Bool.not_eq_false', Int.not_lt, Int.not_le, Bool.not_not, Bool.and_eq_true, Bool.and_eq_false_iff, Bool.true_and, Bool.and_true, beq_self_eq_true, Bool.or_eq_true, Bool.or_eq_false_iff] at h1
    refine XO.pu (Pu.move rfl) ?_
    refine XO.pu (Pu.fieldAddr 50 1 0 rfl Try.underlying53 rfl Try.sizeOf50) ?_
    refine XO.ld Try.isAgg50 ?_
    refine XO.pu (Pu.len rfl Try.underlying50) ?_
    refine XO.pu (Pu.geq rfl rfl) ?_
    refine XO.pu (Pu.pickF rfl rfl) ?_
    exact XO.fin M1 ⟨orF g1, congrArg (fun x => some (Value.bool x)) g1.symm, rfl, rfl, rfl, rfl, rfl, trivial⟩
  · skip
    intro g1 M1; have h1 := g1; try simp only [decide_eq_true_eq, decide_eq_false_iff_not, bne_iff_ne, beq_iff_eq, ne_eq, bne_eq_false_iff_eq, beq_eq_false_iff_ne, Bool.not_eq_true', Bool.not_eq_false', Int.not_lt, Int.not_le, Bool.not_not, Bool.and_eq_true, Bool.and_eq_false_iff, Bool.true_and, Bool.and_true, beq_self_eq_true, Bool.or_eq_true, Bool.or_eq_false_iff] at h1
    refine XO.pass rfl ?_
    refine XO.pass rfl ?_
    refine XO.pass rfl ?_
    refine XO.pass rfl ?_
    refine XO.pass rfl ?_
    refine XO.pu (Pu.pickT rfl rfl) ?_
    exact XO.fin M1 ⟨orT g1, congrArg (fun x => some (Value.bool x)) g1.symm, rfl, rfl, rfl, rfl, rfl, trivial⟩
  · skip
    refine XO.nil ?_
    refine X.sub (p' := [(19, _), (7, _), (6, _), (3, _), (1, _), (2, _)]) ⟨rfl, rfl, rfl, rfl, rfl, rfl, trivial⟩ ?_
    rcases Decidable.em (inR k r.cs.l.length) with hr0 | hr0
    · skip
      have hr' : inR k s.conds.length := by rw [← ec]; exact hr0
      obtain ⟨i, rfl⟩ := Int.eq_ofNat_of_zero_le hr0.1; have hi : i < r.cs.l.length := (by have := hr0.2; omega)
      refine X.know 19 (.bool false) rfl (congrArg Value.bool (by simp; omega)) ?_
      refine X.condF rfl ?_
      refine X.skip ?_
      refine X.seq ?_
      refine X.seq ?_
      refine X.region ?_
      refine XO.pu (Pu.move rfl) ?_
      refine XO.cR Try.call69 (thread_ok) ?_
      refine XO.pu (Pu.not rfl) ?_
      refine XO.nil ?_
      refine X.sub (p' := [(23, _), (7, _), (6, _), (3, _), (1, _), (2, _)]) ⟨rfl, rfl, rfl, rfl, rfl, rfl, trivial⟩ ?_
      rcases Decidable.em (thr t) with hg | hg
      · skip
        refine X.know 23 (.bool false) rfl (congrArg Value.bool (by simp [hg])) ?_
        have hcl := h.cl hi
        refine X.condF rfl ?_
        refine X.skip ?_
        refine X.seq ?_
        refine X.seq ?_
        refine X.region ?_
        refine XO.pu (Pu.assign rfl) ?_
        refine XO.nil ?_
        refine X.sub (p' := [(8, _), (7, _), (6, _), (3, _), (1, _), (2, _)]) ⟨rfl, rfl, rfl, rfl, rfl, rfl, trivial⟩ ?_
        refine X.block ?_
        refine X.at (X.loop (fun (x : Nat) => x ≤ r.cs.l.length ∧ ∀ y ∈ r.cs.l.take x, t ∉ y.l) (fun x => [(1, .int .i64 (i : Int)), (2, .int .i64 t), (3, .pointer (some ⟨n1, 0, none⟩)), (6, .pointer (some ⟨n2, 0, none⟩)), (8, .int .i64 (x : Int))]) (fun x => pto n1 (.cells [.slice r.ow.a r.ow.l.length r.ow.c, .slice r.cs.a r.cs.l.length r.cs.c, .slice r.rm.a r.rm.l.length r.rm.c, .slice r.st.a r.st.l.length r.st.c, .slice r.tk.a r.tk.l.length r.tk.c].toArray 53 (0, 0)) :: pto n2 (.cells [.slice none 0 0, .slice none 0 0, .slice none 0 0, .slice none 0 0, .slice none 0 0].toArray 53 (0, 0)) :: refM r :: F) (fun x => r.cs.l.length - x) (fun x hi_ ih => ?_) 0 ⟨by omega, by simp⟩) ⟨(by first | rfl | exact congrArg some (congrArg (Value.int _) (by omega)) | (show some _ = some _; simp; done) | (show some _ = some _; simp; omega)), (by first | rfl | exact congrArg some (congrArg (Value.int _) (by omega)) | (show some _ = some _; simp; done) | (show some _ = some _; simp; omega)), (by first | rfl | exact congrArg some (congrArg (Value.int _) (by omega)) | (show some _ = some _; simp; done) | (show some _ = some _; simp; omega)), (by first | rfl | exact congrArg some (congrArg (Value.int _) (by omega)) | (show some _ = some _; simp; done) | (show some _ = some _; simp; omega)), (by first | rfl | exact congrArg some (congrArg (Value.int _) (by omega)) | (show some _ = some _; simp; done) | (show some _ = some _; simp; omega)), trivial⟩ leA
        try dsimp only at hi_ ih ⊢
        obtain ⟨hi1, hi2⟩ := hi_
        refine X.seq ?_
        refine X.seq ?_
        refine X.region ?_
        refine XO.pu (Pu.move rfl) ?_
        refine XO.pu (Pu.fieldAddr 50 1 0 rfl Try.underlying53 rfl Try.sizeOf50) ?_
        refine XO.ld Try.isAgg50 ?_
        refine XO.pu (Pu.len rfl Try.underlying50) ?_
        refine XO.pu (Pu.lss rfl rfl) ?_
        refine XO.nil ?_
        refine X.sub (p' := [(29, _), (1, _), (2, _), (3, _), (6, _), (8, _)]) ⟨rfl, rfl, rfl, rfl, rfl, rfl, trivial⟩ ?_
        refine X.part 29 rfl (fun h0 => ?_) (fun h0 => ?_)
        · skip
          have h0 := of_decide_eq_true h0; have hx0 : x < r.cs.l.length := (by omega); have hci := hl.ci _ (List.getElem_mem hx0)
          refine X.adr ((hz _ leA).sc) (by simp; omega) (fun b7 o7 e7 => ?_); have hs7 := hr.sc; rw [e7] at hs7; rw [e7]
          refine X.condT rfl ?_
          refine X.skip ?_
          refine X.seq ?_
          refine X.block ?_
          refine X.seq ?_
          refine X.region ?_
          refine XO.pu (Pu.assign rfl) ?_
          refine XO.nil ?_
          refine X.sub (p' := [(9, _), (1, _), (2, _), (3, _), (6, _), (8, _)]) ⟨rfl, rfl, rfl, rfl, rfl, rfl, trivial⟩ ?_
          refine X.block ?_
          refine X.at (X.loop (fun (z : Nat) => z ≤ r.cs.l[x].l.length ∧ t ∉ r.cs.l[x].l.take z) (fun z => [(1, .int .i64 (i : Int)), (2, .int .i64 t), (3, .pointer (some ⟨n1, 0, none⟩)), (6, .pointer (some ⟨n2, 0, none⟩)), (8, .int .i64 (x : Int)), (9, .int .i64 (z : Int))]) (fun z => pto n1 (.cells [.slice r.ow.a r.ow.l.length r.ow.c, .slice (some ⟨b7, o7, none⟩) r.cs.l.length r.cs.c, .slice r.rm.a r.rm.l.length r.rm.c, .slice r.st.a r.st.l.length r.st.c, .slice r.tk.a r.tk.l.length r.tk.c].toArray 53 (0, 0)) :: pto n2 (.cells [.slice none 0 0, .slice none 0 0, .slice none 0 0, .slice none 0 0, .slice none 0 0].toArray 53 (0, 0)) :: refM r :: F) (fun z => r.cs.l[x].l.length - z) (fun z hi_ ih2 => ?_) 0 ⟨by omega, by simp⟩) ⟨(by first | rfl | exact congrArg some (congrArg (Value.int _) (by omega)) | (show some _ = some _; simp; done) | (show some _ = some _; simp; omega)), (by first | rfl | exact congrArg some (congrArg (Value.int _) (by omega)) | (show some _ = some _; simp; done) | (show some _ = some _; simp; omega)), (by first | rfl | exact congrArg some (congrArg (Value.int _) (by omega)) | (show some _ = some _; simp; done) | (show some _ = some _; simp; omega)), (by first | rfl | exact congrArg some (congrArg (Value.int _) (by omega)) | (show some _ = some _; simp; done) | (show some _ = some _; simp; omega)), (by first | rfl | exact congrArg some (congrArg (Value.int _) (by omega)) | (show some _ = some _; simp; done) | (show some _ = some _; simp; omega)), (by first | rfl | exact congrArg some (congrArg (Value.int _) (by omega)) | (show some _ = some _; simp; done) | (show some _ = some _; simp; omega)), trivial⟩ leA
          try dsimp only at hi_ ih2 ⊢
          obtain ⟨hj1, hj2⟩ := hi_
          refine X.seq ?_
          refine X.seq ?_
          refine X.region ?_
          refine XO.pu (Pu.move rfl) ?_
          refine XO.pu (Pu.fieldAddr 50 1 0 rfl Try.underlying53 rfl Try.sizeOf50) ?_
          refine XO.ld Try.isAgg50 ?_
          refine XO.pu (Pu.move rfl) ?_
          refine XO.pu (Pu.indexAddr rfl rfl Try.underlying50 Try.sizeOf29 (by omega) (by omega)) ?_
          refine XO.ld Try.isAgg29 ?_
          refine XO.pu (Pu.len rfl Try.underlying29) ?_
          refine XO.pu (Pu.lss rfl rfl) ?_
          refine XO.nil ?_
          refine X.sub (p' := [(39, _), (1, _), (2, _), (3, _), (6, _), (8, _), (9, _)]) ⟨rfl, rfl, rfl, rfl, rfl, rfl, rfl, trivial⟩ ?_
          refine X.part 39 rfl (fun h9 => ?_) (fun h9 => ?_)
          · skip
            have h9 := of_decide_eq_true h9; have hz0 : z < r.cs.l[x].l.length := (by omega)
            have hs8 := hr.sci x hx0; refine X.adr (hs8.le leA) (by simp; omega) (fun b8 o8 e8 => ?_); rw [e8] at hs8
            refine X.condT rfl ?_
            refine X.skip ?_
            refine X.seq ?_
            refine X.block ?_
            refine X.seq ?_
            refine X.region ?_
            refine XO.pu (Pu.fieldAddr 50 1 0 rfl Try.underlying53 rfl Try.sizeOf50) ?_
            refine XO.ld Try.isAgg50 ?_
            refine XO.pu (Pu.move rfl) ?_
            refine XO.pu (Pu.indexAddr rfl rfl Try.underlying50 Try.sizeOf29 (by omega) (by omega)) ?_
            refine XO.ld Try.isAgg29 ?_
            refine XO.pu (Pu.move rfl) ?_
            refine XO.know 46 (.slice (some ⟨b8, o8, none⟩) r.cs.l[x].l.length r.cs.l[x].c) rfl (by unfold slV; rw [e8]) ?_
            refine XO.pu (Pu.indexAddr rfl rfl Try.underlying29 Try.sizeOf3 (by omega) (by omega)) ?_
            refine XO.ld Try.isAgg3 ?_
            refine XO.pu (Pu.move rfl) ?_
            refine XO.pu (Pu.eql rfl rfl) ?_
            refine XO.nil ?_
            refine X.sub (p' := [(51, _), (1, _), (2, _), (3, _), (6, _), (8, _), (9, _)]) ⟨rfl, rfl, rfl, rfl, rfl, rfl, rfl, trivial⟩ ?_
            refine X.part 51 rfl (fun h10 => ?_) (fun h10 => ?_)
            · skip
              have h10 := of_decide_eq_true h10
              refine X.condT rfl ?_
              refine X.seq ?_
              refine X.region ?_
              refine XO.ldA Try.isAgg53 Try.sizeOf53 ?_
              refine XO.ef0 (Ef.stA Try.sizeOf53) ?_
              rintro _ _ ⟨rfl, rfl⟩
              refine XO.pu (Pu.assign rfl) ?_
              refine XO.nil ?_
              refine X.sub (p' := [(7, _), (1, _), (2, _), (3, _), (6, _), (8, _), (9, _)]) ⟨rfl, rfl, rfl, rfl, rfl, rfl, rfl, trivial⟩ ?_
              have hm : ∃ l ∈ s.conds, t ∈ l := ⟨r.cs.l[x].l, by rw [← h.c]; exact List.mem_map_of_mem (List.getElem_mem hx0), by rw [← h10]; exact List.getElem_mem hz0⟩
              rw [← e7]
              rw [show waitS s (i : Int) t = (s, 141) from (if_pos hr').trans ((if_pos hg).trans (if_pos hm))]
              refine X.retL [refM r] Try.func48 (resC Try.results48 (ResOk.cell rfl (LV.agg Try.isAgg53 Try.sizeOf53 hasA rfl) (ResOk.tmp rfl ResOk.nil))) ⟨_, rfl, r, h, rfl, rfl⟩
            · skip
              have h10 := of_decide_eq_false h10
              refine X.condF rfl ?_
              refine X.skip ?_
              refine X.inBlock ?_
              refine X.region ?_
              refine XO.pu (Pu.move rfl) ?_
              refine XO.pu (Pu.add rfl rfl (by omega) (by omega)) ?_
              refine XO.pu (Pu.assign rfl) ?_
              refine XO.nil ?_
              refine X.sub (p' := [(9, _), (1, _), (2, _), (3, _), (6, _), (8, _)]) ⟨rfl, rfl, rfl, rfl, rfl, rfl, trivial⟩ ?_
              refine X.at (ih2 (z + 1) ⟨by omega, by rw [List.take_succ_eq_append_getElem hz0, List.mem_append]; rintro (hm | hm); exact hj2 hm; rw [List.mem_singleton] at hm; exact h10 hm.symm⟩ (by omega)) ⟨(by first | rfl | exact congrArg some (congrArg (Value.int _) (by omega)) | (show some _ = some _; simp; done) | (show some _ = some _; simp; omega)), (by first | rfl | exact congrArg some (congrArg (Value.int _) (by omega)) | (show some _ = some _; simp; done) | (show some _ = some _; simp; omega)), (by first | rfl | exact congrArg some (congrArg (Value.int _) (by omega)) | (show some _ = some _; simp; done) | (show some _ = some _; simp; omega)), (by first | rfl | exact congrArg some (congrArg (Value.int _) (by omega)) | (show some _ = some _; simp; done) | (show some _ = some _; simp; omega)), (by first | rfl | exact congrArg some (congrArg (Value.int _) (by omega)) | (show some _ = some _; simp; done) | (show some _ = some _; simp; omega)), (by first | rfl | exact congrArg some (congrArg (Value.int _) (by omega)) | (show some _ = some _; simp; done) | (show some _ = some _; simp; omega)), trivial⟩ leA
          · skip
            have h9 := of_decide_eq_false h9; obtain rfl : z = r.cs.l[x].l.length := by omega
            rw [List.take_length] at hj2
            refine X.condF rfl ?_
            refine X.exit rfl ?_
            refine X.inBlock ?_
            refine X.region ?_
            refine XO.pu (Pu.move rfl) ?_
            refine XO.pu (Pu.add rfl rfl (by omega) (by omega)) ?_
            refine XO.pu (Pu.assign rfl) ?_
            refine XO.nil ?_
            refine X.sub (p' := [(8, _), (1, _), (2, _), (3, _), (6, _)]) ⟨rfl, rfl, rfl, rfl, rfl, trivial⟩ ?_
            rw [← e7]
            refine X.at (ih (x + 1) ⟨by omega, by rw [List.take_succ_eq_append_getElem hx0]; intro y hy; rcases List.mem_append.1 hy with hy | hy; exact hi2 y hy; rw [List.mem_singleton.1 hy]; exact hj2⟩ (by omega)) ⟨(by first | rfl | exact congrArg some (congrArg (Value.int _) (by omega)) | (show some _ = some _; simp; done) | (show some _ = some _; simp; omega)), (by first | rfl | exact congrArg some (congrArg (Value.int _) (by omega)) | (show some _ = some _; simp; done) | (show some _ = some _; simp; omega)), (by first | rfl | exact congrArg some (congrArg (Value.int _) (by omega)) | (show some _ = some _; simp; done) | (show some _ = some _; simp; omega)), (by first | rfl | exact congrArg some (congrArg (Value.int _) (by omega)) | (show some _ = some _; simp; done) | (show some _ = some _; simp; omega)), (by first | rfl | exact congrArg some (congrArg (Value.int _) (by omega)) | (show some _ = some _; simp; done) | (show some _ = some _; simp; omega)), trivial⟩ leA
        · skip
          have h0 := of_decide_eq_false h0; obtain rfl : x = r.cs.l.length := by omega
          rw [List.take_length] at hi2; clear ih h0 hi1
          have hno : ¬ ∃ l ∈ s.conds, t ∈ l := by rintro ⟨l, hl, ht⟩; rw [← h.c] at hl; obtain ⟨y, hy, rfl⟩ := List.mem_map.1 hl; exact hi2 y hy ht
          refine X.condF rfl ?_
          refine X.exit rfl ?_
          refine X.seq ?_
          refine X.region ?_
          refine XO.ldA Try.isAgg53 Try.sizeOf53 ?_
          refine XO.cX Try.call70 (Le.refl _) (RCopy_ok (hz _ leA) hl) ?_
          rintro _ _ ⟨r1, hs1, rfl, rfl⟩
          have h1 := hs1.ref h; have el1 := h1.lo; have ec1 := h1.lc; have em1 := h1.lm; have et1 := h1.lt; have ek1 := h1.lk; have hl1 := h1.len hs (by omega)
          unfold refO; simp only [ca, na]
          have hi1 : i < r1.cs.l.length := (by omega); have hci := hl1.ci _ (List.getElem_mem hi1)
          refine XO.lsadr (l := r1.cs.l) (by omega) (fun g e6 => ?_); rw [e6]
          have hs9 : Sees (lsH slV 29 (some ⟨g, 0, none⟩) r1.cs.c r1.cs.l :: []) (some ⟨g, 0, none⟩) (r1.cs.l.map slV) := Sees.lsH []
          refine XO.le (Le.focV (l := r1.cs.l) hi1) ?_
          refine XO.ef (Ef.alloc Try.zeroValue53) ?_
          rintro _ _ ⟨n3, rfl, rfl⟩
          refine XO.ef0 (Ef.stA Try.sizeOf53) ?_
          rintro _ _ ⟨rfl, rfl⟩
          refine XO.nil ?_
          refine X.sub (p' := [(10, _), (1, _), (2, _), (6, _)]) ⟨rfl, rfl, rfl, rfl, trivial⟩ ?_
          refine X.seq ?_
          refine X.draw [] Try.mixed (by kernel_rfl) (by kernel_rfl) rfl ?_
          refine XD.pu 0 rfl (Pu.fieldAddr 50 1 0 rfl Try.underlying53 rfl Try.sizeOf50) ?_
          refine XD.ld 1 Try.isAgg50 ?_
          refine XD.pu 2 rfl (Pu.move rfl) ?_
          refine XD.pu 3 rfl (Pu.fieldAddr 50 1 0 rfl Try.underlying53 rfl Try.sizeOf50) ?_
          refine XD.ld 4 Try.isAgg50 ?_
          refine XD.pu 5 rfl (Pu.move rfl) ?_
          refine XD.pu 6 rfl (Pu.indexAddr rfl rfl Try.underlying50 Try.sizeOf29 (by omega) (by omega)) ?_
          refine XD.ld 7 Try.isAgg29 ?_
          refine XD.pu 8 rfl (Pu.move rfl) ?_
          refine XD.ef 9 rfl (Ef.lit1 (u := t) I64 Try.underlying29 Try.info3 rfl rfl) ?_
          rintro _ _ ⟨g7, rfl, rfl⟩
          refine ⟨hlA, ?_⟩
          refine XD.ef 10 rfl (Ef.appA (f := I64) (l := r1.cs.l[i].l) (m := [t]) Try.underlying29 Try.info3 rfl rfl rfl fndA ((Sees.lsH _).le leA) (fun _ => rfl) (by simp; omega) (by simp; omega)) ?_
          rintro _ _ ⟨a8, c8, rfl, rfl⟩
          refine ⟨hlA, ?_⟩
          refine XD.pu 11 rfl (Pu.indexAddr rfl rfl Try.underlying50 Try.sizeOf29 (by omega) (by omega)) ?_
          refine XD.ef0 12 rfl (Ef.setL (f := slV) (l := r1.cs.l) (u := ⟨a8, c8, r1.cs.l[i].l ++ [t]⟩) (n := i) (g := g) (j := (i : Int)) rfl rfl Try.sizeOf29 rfl hi1 rfl rfl fndA) ?_
          rintro _ _ ⟨rfl, rfl⟩
          refine ⟨trivial, ?_⟩
          refine XD.nil ?_
          refine X.sub (p' := [(10, _), (6, _)]) ⟨rfl, rfl, trivial⟩ ?_
          refine X.seq ?_
          refine X.region ?_
          refine XO.ldA Try.isAgg53 Try.sizeOf53 ?_
          refine XO.ef0 (Ef.stA Try.sizeOf53) ?_
          rintro _ _ ⟨rfl, rfl⟩
          refine XO.pu (Pu.assign rfl) ?_
          refine XO.nil ?_
          refine X.sub (p' := [(7, _), (6, _)]) ⟨rfl, rfl, trivial⟩ ?_
          refine X.le (Le.unfV (l := r1.cs.l) hi1 (a := a8) (c := c8) (m := r1.cs.l[i].l ++ [t])) ?_
          have hcl1 := h1.cl hi1
          have hok2 : ({ s with conds := s.conds.set i (r1.cs.l[i].l ++ [t]) } : Sy).ok (N + 1) := by have := waitS_ok hs (i : Int) t; rwa [show waitS s (i : Int) t = ({ s with conds := s.conds.set i (r1.cs.l[i].l ++ [t]) }, 0) from (if_pos hr').trans ((if_pos hg).trans ((if_neg hno).trans (by rw [← hcl1]; rfl)))] at this
          have href2 : Ref { r1 with cs := ⟨some ⟨g, 0, none⟩, r1.cs.c, r1.cs.l.set i ⟨a8, c8, r1.cs.l[i].l ++ [t]⟩⟩ } { s with conds := s.conds.set i (r1.cs.l[i].l ++ [t]) } := h1.setC i ⟨a8, c8, r1.cs.l[i].l ++ [t]⟩ _ _
          refine X.turn (q' := refM { r1 with cs := ⟨some ⟨g, 0, none⟩, r1.cs.c, r1.cs.l.set i ⟨a8, c8, r1.cs.l[i].l ++ [t]⟩⟩ } :: pto n2 _ :: F) (fun w s => St.refFz hok2 (by omega) href2 (s.le (show Le _ (refO { r1 with cs := ⟨some ⟨g, 0, none⟩, r1.cs.c, r1.cs.l.set i ⟨a8, c8, r1.cs.l[i].l ++ [t]⟩⟩ } ++ (pto n2 _ :: F)) from by unfold refO; simp only [ca, na]; exact leA))) ?_
          rw [show waitS s (i : Int) t = ({ s with conds := s.conds.set i (r1.cs.l[i].l ++ [t]) }, 0) from (if_pos hr').trans ((if_pos hg).trans ((if_neg hno).trans (by rw [← hcl1]; rfl)))]
          refine X.retL [refM { r1 with cs := ⟨some ⟨g, 0, none⟩, r1.cs.c, r1.cs.l.set i ⟨a8, c8, r1.cs.l[i].l ++ [t]⟩⟩ }] Try.func48 (resC Try.results48 (ResOk.cell rfl (LV.agg Try.isAgg53 Try.sizeOf53 hasA rfl) (ResOk.tmp rfl ResOk.nil))) ⟨_, rfl, { r1 with cs := ⟨some ⟨g, 0, none⟩, r1.cs.c, r1.cs.l.set i ⟨a8, c8, r1.cs.l[i].l ++ [t]⟩⟩ }, href2, by simp [Wx.sub, splice], rfl⟩
      · skip
        refine X.know 23 (.bool true) rfl (congrArg Value.bool (by simp [hg])) ?_
        refine X.condT rfl ?_
        refine X.seq ?_
        refine X.region ?_
        refine XO.ldA Try.isAgg53 Try.sizeOf53 ?_
        refine XO.ef0 (Ef.stA Try.sizeOf53) ?_
        rintro _ _ ⟨rfl, rfl⟩
        refine XO.pu (Pu.assign rfl) ?_
        refine XO.nil ?_
        refine X.sub (p' := [(7, _), (6, _), (3, _), (1, _), (2, _)]) ⟨rfl, rfl, rfl, rfl, rfl, trivial⟩ ?_
        rw [show waitS s (i : Int) t = (s, 2) from (if_pos hr').trans (if_neg hg)]
        refine X.retL [refM r] Try.func48 (resC Try.results48 (ResOk.cell rfl (LV.agg Try.isAgg53 Try.sizeOf53 hasA rfl) (ResOk.tmp rfl ResOk.nil))) ⟨_, rfl, r, h, rfl, rfl⟩
    · skip
      have hr' : ¬ inR k s.conds.length := by rw [← ec]; exact hr0
      refine X.know 19 (.bool true) rfl (congrArg Value.bool (by simp; omega)) ?_
      refine X.condT rfl ?_
      refine X.seq ?_
      refine X.region ?_
      refine XO.ldA Try.isAgg53 Try.sizeOf53 ?_
      refine XO.ef0 (Ef.stA Try.sizeOf53) ?_
      rintro _ _ ⟨rfl, rfl⟩
      refine XO.pu (Pu.assign rfl) ?_
      refine XO.nil ?_
      refine X.sub (p' := [(7, _), (6, _), (3, _), (1, _), (2, _)]) ⟨rfl, rfl, rfl, rfl, rfl, trivial⟩ ?_
      rw [show waitS s k t = (s, 4) from if_neg hr']
      refine X.retL [refM r] Try.func48 (resC Try.results48 (ResOk.cell rfl (LV.agg Try.isAgg53 Try.sizeOf53 hasA rfl) (ResOk.tmp rfl ResOk.nil))) ⟨_, rfl, r, h, rfl, rfl⟩
set_option maxHeartbeats 1000000 in
theorem RSignal_ok (h : Ref r s) {N : Nat} (hs : s.ok N) (hN : N ≤ 900) : CallF Try.prog G 49 [.agg [.slice r.ow.a r.ow.l.length r.ow.c, .slice r.cs.a r.cs.l.length r.cs.c, .slice r.rm.a r.rm.l.length r.rm.c, .slice r.st.a r.st.l.length r.st.c, .slice r.tk.a r.tk.l.length r.tk.c].toArray, .int .i64 k] [refM r] (Ret fun v q' => ∃ r', Ref r' (signalS s k).1 ∧ v = .tuple [.agg [.slice r'.ow.a r'.ow.l.length r'.ow.c, .slice r'.cs.a r'.cs.l.length r'.cs.c, .slice r'.rm.a r'.rm.l.length r'.rm.c, .slice r'.st.a r'.st.l.length r'.st.c, .slice r'.tk.a r'.tk.l.length r'.tk.c].toArray, .int .i64 (signalS s k).2.1, .int .i64 (signalS s k).2.2].toArray ∧ q' = [refM r']) := by
  refine CallF.of Try.func49 Try.ntmps49 rfl (fun F cs => ?_)
  refine X.sub (p' := [(0, _), (1, _)]) ⟨rfl, rfl, trivial⟩ ?_
  change X _ _ _ _ _ _ _ _ (refM r :: F)
  refine X.refM (fun hr => ?_)
  have hz : ∀ q', Le q' (refM r :: F) → RSee q' r := fun q' l => hr.le l; have hl := h.len hs (by omega); have hlo := hl.o; have hlc := hl.c; have hlm := hl.m; have hlt := hl.t; have hlk := hl.k; have eo := h.lo; have ec := h.lc; have em := h.lm; have et := h.lt; have ek := h.lk
  refine X.seq ?_
  refine X.region ?_
  refine XO.ef (Ef.box rfl) ?_
  rintro _ _ ⟨n1, rfl, rfl⟩
  refine XO.ef (Ef.alloc Try.zeroValue53) ?_
  rintro _ _ ⟨n2, rfl, rfl⟩
  refine XO.pu (Pu.assign rfl) ?_
  refine XO.pu (Pu.assign rfl) ?_
  refine XO.nil ?_
  refine X.sub (p' := [(6, _), (5, _), (4, _), (2, _), (1, _)]) ⟨rfl, rfl, rfl, rfl, rfl, trivial⟩ ?_
  refine X.seq ?_
  refine X.seq ?_
  refine X.region ?_
  refine XO.pu (Pu.move rfl) ?_
  refine XO.pu (Pu.lss rfl rfl) ?_
  refine XO.pu (Pu.move rfl) ?_
  refine XO.sub (p' := [(10, _), (6, _), (5, _), (4, _), (2, _), (1, _)]) ⟨rfl, rfl, rfl, rfl, rfl, rfl, trivial⟩ ?_
  apply XO.cutOr 6 16 10 rfl
  · skip
    intro g1 M1; have h1 := g1; try simp only [decide_eq_true_eq, decide_eq_false_iff_not, bne_iff_ne, beq_iff_eq, ne_eq, bne_eq_false_iff_eq, beq_eq_false_iff_ne, Bool.not_eq_true', Bool.not_eq_false', Int.not_lt, Int.not_le, Bool.not_not, Bool.and_eq_true, Bool.and_eq_false_iff, Bool.true_and, Bool.and_true, beq_self_eq_true, Bool.or_eq_true, Bool.or_eq_false_iff] at h1
    refine XO.pu (Pu.move rfl) ?_
    refine XO.pu (Pu.fieldAddr 50 1 0 rfl Try.underlying53 rfl Try.sizeOf50) ?_
    refine XO.ld Try.isAgg50 ?_
    refine XO.pu (Pu.len rfl Try.underlying50) ?_
    refine XO.pu (Pu.geq rfl rfl) ?_
    refine XO.pu (Pu.pickF rfl rfl) ?_
    exact XO.fin M1 ⟨orF g1, congrArg (fun x => some (Value.bool x)) g1.symm, rfl, rfl, rfl, rfl, rfl, trivial⟩
  · skip
    intro g1 M1; have h1 := g1; try simp only [decide_eq_true_eq, decide_eq_false_iff_not, bne_iff_ne, beq_iff_eq, ne_eq, bne_eq_false_iff_eq, beq_eq_false_iff_ne, Bool.not_eq_true', Bool.not_eq_false', Int.not_lt, Int.not_le, Bool.not_not, Bool.and_eq_true, Bool.and_eq_false_iff, Bool.true_and, Bool.and_true, beq_self_eq_true, Bool.or_eq_true, Bool.or_eq_false_iff] at h1
    refine XO.pass rfl ?_
    refine XO.pass rfl ?_
    refine XO.pass rfl ?_
    refine XO.pass rfl ?_
    refine XO.pass rfl ?_
    refine XO.pu (Pu.pickT rfl rfl) ?_
    exact XO.fin M1 ⟨orT g1, congrArg (fun x => some (Value.bool x)) g1.symm, rfl, rfl, rfl, rfl, rfl, trivial⟩
  · skip
    refine XO.nil ?_
    refine X.sub (p' := [(16, _), (6, _), (5, _), (4, _), (2, _), (1, _)]) ⟨rfl, rfl, rfl, rfl, rfl, rfl, trivial⟩ ?_
    rcases Decidable.em (inR k r.cs.l.length) with hr0 | hr0
    · skip
      have hr' : inR k s.conds.length := by rw [← ec]; exact hr0
      obtain ⟨i, rfl⟩ := Int.eq_ofNat_of_zero_le hr0.1; have hi : i < r.cs.l.length := (by have := hr0.2; omega)
      refine X.know 16 (.bool false) rfl (congrArg Value.bool (by simp; omega)) ?_
      have hcl := h.cl hi; have hci := hl.ci _ (List.getElem_mem hi)
      refine X.adr ((hz _ leA).sc) (by simp; omega) (fun b7 o7 e7 => ?_); have hs7 := hr.sc; rw [e7] at hs7; rw [e7]
      refine X.condF rfl ?_
      refine X.skip ?_
      refine X.seq ?_
      refine X.seq ?_
      refine X.region ?_
      refine XO.pu (Pu.fieldAddr 50 1 0 rfl Try.underlying53 rfl Try.sizeOf50) ?_
      refine XO.ld Try.isAgg50 ?_
      refine XO.pu (Pu.move rfl) ?_
      refine XO.pu (Pu.indexAddr rfl rfl Try.underlying50 Try.sizeOf29 (by omega) (by omega)) ?_
      refine XO.ld Try.isAgg29 ?_
      refine XO.pu (Pu.len rfl Try.underlying29) ?_
      refine XO.pu (Pu.eql rfl rfl) ?_
      refine XO.nil ?_
      refine X.sub (p' := [(24, _), (6, _), (5, _), (4, _), (2, _), (1, _)]) ⟨rfl, rfl, rfl, rfl, rfl, rfl, trivial⟩ ?_
      rcases Decidable.em (r.cs.l[i].l = []) with hx | hx
      · skip
        refine X.know 24 (.bool true) rfl (congrArg Value.bool (by simp [hx, slV])) ?_
        rw [← e7]
        refine X.condT rfl ?_
        refine X.seq ?_
        refine X.region ?_
        refine XO.ldA Try.isAgg53 Try.sizeOf53 ?_
        refine XO.ef0 (Ef.stA Try.sizeOf53) ?_
        rintro _ _ ⟨rfl, rfl⟩
        refine XO.pu (Pu.assign rfl) ?_
        refine XO.pu (Pu.assign rfl) ?_
        refine XO.nil ?_
        refine X.sub (p' := [(6, _), (5, _), (4, _), (2, _), (1, _)]) ⟨rfl, rfl, rfl, rfl, rfl, trivial⟩ ?_
        rw [show signalS s (i : Int) = (s, -1, 0) from (if_pos hr').trans (if_pos (hcl.trans hx))]
        refine X.retL [refM r] Try.func49 (resC Try.results49 (ResOk.cell rfl (LV.agg Try.isAgg53 Try.sizeOf53 hasA rfl) (ResOk.tmp rfl (ResOk.tmp rfl ResOk.nil)))) ⟨_, rfl, r, h, rfl, rfl⟩
      · skip
        have hpos : 0 < r.cs.l[i].l.length := List.length_pos_iff.2 hx
        refine X.know 24 (.bool false) rfl (congrArg Value.bool (by simp; omega)) ?_
        refine X.condF rfl ?_
        refine X.skip ?_
        refine X.seq ?_
        refine X.region ?_
        refine XO.ldA Try.isAgg53 Try.sizeOf53 ?_
        rw [← e7]
        refine XO.cX Try.call70 (Le.refl _) (RCopy_ok (hz _ leA) hl) ?_
        rintro _ _ ⟨r1, hs1, rfl, rfl⟩
        have h1 := hs1.ref h; have el1 := h1.lo; have ec1 := h1.lc; have em1 := h1.lm; have et1 := h1.lt; have ek1 := h1.lk; have hl1 := h1.len hs (by omega)
        unfold refO; simp only [ca, na]
        have hi1 : i < r1.cs.l.length := (by omega)
        refine XO.lsadr (l := r1.cs.l) (by omega) (fun g e6 => ?_); rw [e6]
        have hs9 : Sees (lsH slV 29 (some ⟨g, 0, none⟩) r1.cs.c r1.cs.l :: []) (some ⟨g, 0, none⟩) (r1.cs.l.map slV) := Sees.lsH []
        have hcl1 := h1.cl hi1; have hll : r1.cs.l[i].l = r.cs.l[i].l := hcl1.symm.trans hcl; have hlen1 := congrArg List.length hll
        refine XO.le (Le.focV (l := r1.cs.l) hi1) ?_
        refine XO.fact (fun w s => (s.le (show Le _ (lsH I64 3 r1.cs.l[i].a r1.cs.l[i].c r1.cs.l[i].l :: _) from fndA)).lsLen) (fun hcap => ?_)
        refine XO.ef (Ef.alloc Try.zeroValue53) ?_
        rintro _ _ ⟨n3, rfl, rfl⟩
        refine XO.ef0 (Ef.stA Try.sizeOf53) ?_
        rintro _ _ ⟨rfl, rfl⟩
        refine XO.nil ?_
        refine X.sub (p' := [(7, _), (6, _), (5, _), (4, _), (2, _), (1, _)]) ⟨rfl, rfl, rfl, rfl, rfl, rfl, trivial⟩ ?_
        refine X.seq ?_
        refine X.draw [] Try.mixed (by kernel_rfl) (by kernel_rfl) rfl ?_
        refine XD.pu 0 rfl (Pu.fieldAddr 50 1 0 rfl Try.underlying53 rfl Try.sizeOf50) ?_
        refine XD.ld 1 Try.isAgg50 ?_
        refine XD.pu 2 rfl (Pu.move rfl) ?_
        refine XD.pu 3 rfl (Pu.fieldAddr 50 1 0 rfl Try.underlying53 rfl Try.sizeOf50) ?_
        refine XD.ld 4 Try.isAgg50 ?_
        refine XD.pu 5 rfl (Pu.move rfl) ?_
        refine XD.pu 6 rfl (Pu.indexAddr rfl rfl Try.underlying50 Try.sizeOf29 (by omega) (by omega)) ?_
        refine XD.ld 7 Try.isAgg29 ?_
        refine XD.know 35 (.slice r1.cs.l[i].a r1.cs.l[i].l.length r1.cs.l[i].c) rfl (rfl) ?_
        refine XD.pu 8 rfl (Pu.sliceLo rfl rfl Try.underlying29 Try.sizeOf3 (by omega) (by omega)) ?_
        refine XD.pu 9 rfl (Pu.indexAddr rfl rfl Try.underlying50 Try.sizeOf29 (by omega) (by omega)) ?_
        refine XD.know 36 (.slice (sufA r1.cs.l[i].a r1.cs.l[i].c 1 1) (r1.cs.l[i].l.drop 1).length (r1.cs.l[i].c - 1)) rfl (by simp) ?_
        refine XD.ef0 10 rfl (Ef.setL (f := slV) (l := r1.cs.l) (u := ⟨sufA r1.cs.l[i].a r1.cs.l[i].c 1 1, r1.cs.l[i].c - 1, r1.cs.l[i].l.drop 1⟩) (n := i) (g := g) (j := (i : Int)) rfl rfl Try.sizeOf29 rfl hi1 rfl rfl fndA) ?_
        rintro _ _ ⟨rfl, rfl⟩
        refine ⟨trivial, ?_⟩
        have hsi := hr.sci i hi
        refine XD.adr ((hz _ leA).sc) (by simp; omega) (fun b8 o8 e8 => ?_); have hs8 := hr.sc; rw [e8] at hs8; rw [e8]
        refine XD.adr (hsi.le leA) (by simp; omega) (fun b9 o9 e9 => ?_); rw [e9] at hsi
        refine XD.nil ?_
        refine X.sub (p' := [(7, _), (6, _), (5, _), (4, _), (2, _), (1, _)]) ⟨rfl, rfl, rfl, rfl, rfl, rfl, trivial⟩ ?_
        refine X.seq ?_
        refine X.draw [] Try.mixed (by kernel_rfl) (by kernel_rfl) rfl ?_
        refine XD.loadA 0 rfl rfl Try.isAgg53 Try.sizeOf53 hasA (by rfl) ?_
        refine XD.pu 1 rfl (Pu.fieldAddr 50 1 0 rfl Try.underlying53 rfl Try.sizeOf50) ?_
        refine XD.ld 2 Try.isAgg50 ?_
        refine XD.pu 3 rfl (Pu.move rfl) ?_
        refine XD.pu 4 rfl (Pu.indexAddr rfl rfl Try.underlying50 Try.sizeOf29 (by omega) (by omega)) ?_
        refine XD.ld 5 Try.isAgg29 ?_
        refine XD.know 43 (.slice (some ⟨b9, o9, none⟩) r.cs.l[i].l.length r.cs.l[i].c) rfl (by unfold slV; rw [e9]) ?_
        refine XD.pu 6 rfl (Pu.indexAddr rfl rfl Try.underlying29 Try.sizeOf3 (by omega) (by omega)) ?_
        refine XD.ld 7 Try.isAgg3 ?_
        refine XD.ef0 8 rfl (Ef.stA Try.sizeOf53) ?_
        rintro _ _ ⟨rfl, rfl⟩
        refine ⟨(by repeat first | exact trivial | refine ⟨clA, ?_⟩), ?_⟩
        refine XD.pu 9 rfl (Pu.assign rfl) ?_
        refine XD.pu 10 rfl (Pu.assign rfl) ?_
        refine XD.nil ?_
        refine X.sub (p' := [(6, _), (5, _), (4, _)]) ⟨rfl, rfl, rfl, trivial⟩ ?_
        have hok2 : ({ s with conds := s.conds.set i (r1.cs.l[i].l.drop 1) } : Sy).ok N := by have := signalS_ok hs (i : Int); rwa [show signalS s (i : Int) = ({ s with conds := s.conds.set i (r1.cs.l[i].l.drop 1) }, r1.cs.l[i].l.headD 0, 0) from (if_pos hr').trans ((if_neg (fun e => hx (hcl.symm.trans e))).trans (by rw [show s.conds.getD (Int.toNat ((i : Nat) : Int)) [] = r1.cs.l[i].l from hcl1]; rfl))] at this
        have href2 : Ref { r1 with cs := ⟨some ⟨g, 0, none⟩, r1.cs.c, r1.cs.l.set i ⟨sufA r1.cs.l[i].a r1.cs.l[i].c 1 1, r1.cs.l[i].c - 1, r1.cs.l[i].l.drop 1⟩⟩ } { s with conds := s.conds.set i (r1.cs.l[i].l.drop 1) } := h1.setC i ⟨sufA r1.cs.l[i].a r1.cs.l[i].c 1 1, r1.cs.l[i].c - 1, r1.cs.l[i].l.drop 1⟩ _ _
        obtain ⟨w1, w2, w3, w4, w5⟩ := hok2.wf (by omega) href2; obtain ⟨v1, v2, v3, v4, v5⟩ := hs.wf (by omega) h1
        refine X.turn (fun w s => St.insSuf (ty := 3) (k := 1) (x := r1.cs.l[i]) (v2 _ (List.getElem_mem hi1)) (by omega) (s.le (show Le _ (lsV 3 r1.cs.l[i] :: _) from fndA))) ?_
        refine X.turn (fun w s => St.insAll (ty := 3) (l := r1.cs.l.eraseIdx i) (fun x hx => v2 x (List.mem_of_mem_eraseIdx hx)) (s.le (show Le _ (stars ((r1.cs.l.eraseIdx i).map (lsV 3)) :: _) from fndA))) ?_
        refine X.turn (fun w s => St.insAll (ty := 2) (l := r1.st.l) v4 (s.le (show Le _ (stars (r1.st.l.map (lsV 2)) :: _) from fndA))) ?_
        refine X.le (q' := stars ((r1.cs.l.set i ⟨sufA r1.cs.l[i].a r1.cs.l[i].c 1 1, r1.cs.l[i].c - 1, r1.cs.l[i].l.drop 1⟩).map (shM (.slice IS))) :: _) (Le.trans (show Le _ (shM (.slice IS) ⟨sufA r1.cs.l[i].a r1.cs.l[i].c 1 1, r1.cs.l[i].c - 1, r1.cs.l[i].l.drop 1⟩ :: stars ((r1.cs.l.eraseIdx i).map (shM (.slice IS))) :: _) from Le.pick fndA fndA) (Le.unfocus (shM (.slice IS)) hi1 ⟨sufA r1.cs.l[i].a r1.cs.l[i].c 1 1, r1.cs.l[i].c - 1, r1.cs.l[i].l.drop 1⟩ _)) ?_
        refine X.turn (q' := refM { r1 with cs := ⟨some ⟨g, 0, none⟩, r1.cs.c, r1.cs.l.set i ⟨sufA r1.cs.l[i].a r1.cs.l[i].c 1 1, r1.cs.l[i].c - 1, r1.cs.l[i].l.drop 1⟩⟩ } :: pto n2 _ :: F) (fun w s => St.refP w1 w3 w5 (s.le (show Le _ (refP { r1 with cs := ⟨some ⟨g, 0, none⟩, r1.cs.c, r1.cs.l.set i ⟨sufA r1.cs.l[i].a r1.cs.l[i].c 1 1, r1.cs.l[i].c - 1, r1.cs.l[i].l.drop 1⟩⟩ } ++ (pto n2 _ :: F)) from by unfold refP; simp only [ca, na]; exact leA))) ?_
        rw [show signalS s (i : Int) = ({ s with conds := s.conds.set i (r1.cs.l[i].l.drop 1) }, r1.cs.l[i].l.headD 0, 0) from (if_pos hr').trans ((if_neg (fun e => hx (hcl.symm.trans e))).trans (by rw [show s.conds.getD (Int.toNat ((i : Nat) : Int)) [] = r1.cs.l[i].l from hcl1]; rfl))]
        refine X.retL [refM { r1 with cs := ⟨some ⟨g, 0, none⟩, r1.cs.c, r1.cs.l.set i ⟨sufA r1.cs.l[i].a r1.cs.l[i].c 1 1, r1.cs.l[i].c - 1, r1.cs.l[i].l.drop 1⟩⟩ }] Try.func49 (resC Try.results49 (ResOk.cell rfl (LV.agg Try.isAgg53 Try.sizeOf53 hasA rfl) (ResOk.tmp rfl (ResOk.tmp rfl ResOk.nil)))) ⟨_, rfl, { r1 with cs := ⟨some ⟨g, 0, none⟩, r1.cs.c, r1.cs.l.set i ⟨sufA r1.cs.l[i].a r1.cs.l[i].c 1 1, r1.cs.l[i].c - 1, r1.cs.l[i].l.drop 1⟩⟩ }, href2, by simp [Wx.sub, splice, hll]; rw [List.head?_eq_getElem?, List.getElem?_eq_getElem hpos]; rfl, rfl⟩
    · skip
      have hr' : ¬ inR k s.conds.length := by rw [← ec]; exact hr0
      refine X.know 16 (.bool true) rfl (congrArg Value.bool (by simp; omega)) ?_
      refine X.condT rfl ?_
      refine X.seq ?_
      refine X.region ?_
      refine XO.ldA Try.isAgg53 Try.sizeOf53 ?_
      refine XO.ef0 (Ef.stA Try.sizeOf53) ?_
      rintro _ _ ⟨rfl, rfl⟩
      refine XO.pu (Pu.assign rfl) ?_
      refine XO.pu (Pu.assign rfl) ?_
      refine XO.nil ?_
      refine X.sub (p' := [(6, _), (5, _), (4, _), (2, _), (1, _)]) ⟨rfl, rfl, rfl, rfl, rfl, trivial⟩ ?_
      rw [show signalS s k = (s, -1, 4) from if_neg hr']
      refine X.retL [refM r] Try.func49 (resC Try.results49 (ResOk.cell rfl (LV.agg Try.isAgg53 Try.sizeOf53 hasA rfl) (ResOk.tmp rfl (ResOk.tmp rfl ResOk.nil)))) ⟨_, rfl, r, h, rfl, rfl⟩
end
end Go.Proofs.Ytlgnnhpbomfdiaa

