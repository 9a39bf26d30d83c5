/- What functions of package verify, of its references and of its laws do: contracts of calls, proved by walking their code. -/
import Derived.Test.YtmdnfhpoplpaoaaDoorR
import Derived.KernelRfl
set_option maxRecDepth 100000
set_option linter.unusedVariables false
set_option linter.unusedSimpArgs false
namespace Go.Proofs.YtmdnfhpoplpaoaaDoor
open Go Go.RowKit Wx
attribute [local irreducible] Wx.lsH Wx.rsH Wx.lsM Wx.rsM Wx.stars

theorem dp_bad {m : Mdl} {th : Int} (h : ¬ (mchk m = 0 ∧ 0 ≤ th ∧ th.toNat < m.threads.length)) : dpOf m th = ([], 2) := by
  unfold dpOf
  by_cases h0 : mchk m = 0
  · rw [if_neg (by omega), dif_neg (fun k => h ⟨h0, k⟩)]
  · rw [if_pos h0]; congr 1; unfold mchk at h0 ⊢; split <;> simp_all
theorem mchk_two {m : Mdl} (h : mchk m ≠ 0) : mchk m = 2 := by unfold mchk at h ⊢; split <;> simp_all
section
variable {G : World} {q pre : List HP} {a b A : Option Addr} {c d C p p0 p1 p2 i : Nat} {lo hi n cd dep : Int} {fv : Value} {x y : Ins} {t : Cod} {m : Mdl} {at_ : Int}
variable {n : Nat} {th : Int}
theorem Depths_bad (gc : GC q) (g : GE q) (hq : MdlQ q m) (h : ¬ (mchk m = 0 ∧ 0 ≤ th ∧ th.toNat < m.threads.length)) : CallF Tryd.prog G 14 [.agg (mdlC m).toArray, .int .i64 th] q (Ret fun v q' => v = .tuple [.slice none 0 0, .int .i64 2].toArray ∧ q' = q) :=
  (Depths_ok gc g hq).mono fun e q' hh => by
    obtain ⟨v, rfl, hh⟩ := hh
    rw [dp_bad h] at hh
    rcases hh with ⟨_, h1, h2⟩ | ⟨h1, _⟩
    · exact ⟨v, rfl, h1, h2⟩
    · exact absurd h1 (by decide)
set_option maxHeartbeats 1000000 in
theorem verifyChecks_ok (gc : GC q) (g : GE q) (hq : MdlQ q m) : CallF Tryd.prog G 3 [.agg (mdlC m).toArray] (q) (Ret fun v q' => v = .bool true ∧ q' = q) := by
  refine CallF.of Tryd.func3 Tryd.ntmps3 rfl (fun F cs => ?_)
  refine xo 2 ?_
  refine XO.ef (Ef.box rfl) ?_
  rintro _ _ ⟨n1, rfl, rfl⟩
  refine oo 5 ?_
  refine XO.ldA Tryd.isAgg26 Tryd.sizeOf26 ?_
  refine XO.cX Tryd.call9 (Le.refl _) (few_ok (hq.le leA)) ?_
  rintro _ _ ⟨bb, rfl, rfl⟩
  refine XO.pu (Pu.not rfl) ?_
  refine ox 1 ?_
  refine X.part 5 rfl (fun h1 => ?_) (fun h1 => ?_)
  · skip
    replace h1 := sp h1
    refine xo 3 ?_
    refine XO.cR Tryd.call10 (works_ok (gc.le leA) (g.le leA)) ?_
    refine ox 2 ?_
    refine X.retL (q) Tryd.func3 (res1 Tryd.results3 rfl) ⟨_, rfl, rfl, rfl⟩
  · skip
    replace h1 := sp h1
    refine xx 3 ?_
    refine X.draw [] Tryd.mixed (by kernel_rfl) (by kernel_rfl) rfl ?_
    refine XD.loadA 0 rfl rfl Tryd.isAgg26 Tryd.sizeOf26 hasA (by rfl) ?_
    refine XD.loadA 3 rfl rfl Tryd.isAgg26 Tryd.sizeOf26 hasA (by rfl) ?_
    refine XD.cRL 1 Tryd.call12 (VCheck_ok (gc.le leA) (g.le leA) (hq.le leA)) ?_
    refine XD.cRL 2 Tryd.call11 (num_ok) ?_
    refine XD.cRL 4 Tryd.call13 (RCheck7_ok (hq.le leA)) ?_
    refine dd [5, 6] ?_
    refine XD.know 13 (.bool true) rfl (congrArg Value.bool (by rw [beq_iff_eq])) ?_
    refine XD.cRL 7 Tryd.call10 (works_ok (gc.le leA) (g.le leA)) ?_
    refine dd [8, 9] ?_
    refine XD.nil ?_
    refine X.retL (q) Tryd.func3 (res1 Tryd.results3 rfl) ⟨_, rfl, rfl, rfl⟩
set_option maxHeartbeats 2000000 in
theorem verifyEffects_ok (gc : GC q) (g : GE q) : CallF Tryd.prog G 7 [.int .i64 cd] (q) (Ret fun v q' => v = .bool true ∧ q' = q) := by
  refine CallF.of Tryd.func7 Tryd.ntmps7 rfl (fun F cs => ?_)
  rcases Decidable.em (1 ≤ cd ∧ cd ≤ 34) with hcd | hcd
  · skip
    refine xo 7 ?_
    refine XO.cR Tryd.call18 (Effect_ok (g.le leA)) ?_
    refine XO.know 11 (.tuple [.int .i64 (effS cd).1, .int .i64 (effS cd).2, .bool true].toArray) rfl (if_pos hcd) ?_
    refine oo 11 ?_
    refine XO.cR Tryd.call19 (REffect_ok) ?_
    refine XO.know 17 (.tuple [.int .i64 (effS cd).1, .int .i64 (effS cd).2, .bool true].toArray) rfl (if_pos hcd) ?_
    refine oo 14 ?_
    refine XO.know 24 (.bool true) rfl (congrArg Value.bool (by first | rfl | (rw [beq_iff_eq]; done) | (simp; done))) ?_
    refine oo 5 ?_
    refine XO.know 29 (.bool true) rfl (congrArg Value.bool (by first | rfl | (rw [beq_iff_eq]; done) | (simp; done))) ?_
    refine oo 5 ?_
    refine XO.know 34 (.bool true) rfl (congrArg Value.bool (by first | rfl | (rw [beq_iff_eq]; done) | (simp; done))) ?_
    refine XO.cR Tryd.call10 (works_ok (gc.le leA) (g.le leA)) ?_
    refine ox 3 ?_
    refine X.sb [2] ?_
    refine X.retL (q) Tryd.func7 (res1 Tryd.results7 rfl) ⟨_, rfl, rfl, rfl⟩
  · skip
    refine xo 7 ?_
    refine XO.cR Tryd.call18 (Effect_ok (g.le leA)) ?_
    refine XO.know 11 (.tuple [.int .i64 0, .int .i64 0, .bool false].toArray) rfl (if_neg hcd) ?_
    refine oo 11 ?_
    refine XO.cR Tryd.call19 (REffect_ok) ?_
    refine XO.know 17 (.tuple [.int .i64 0, .int .i64 0, .bool false].toArray) rfl (if_neg hcd) ?_
    refine oo 14 ?_
    refine XO.know 24 (.bool true) rfl (congrArg Value.bool (by first | rfl | (rw [beq_iff_eq]; done) | (simp; done))) ?_
    refine oo 5 ?_
    refine XO.know 29 (.bool true) rfl (congrArg Value.bool (by first | rfl | (rw [beq_iff_eq]; done) | (simp; done))) ?_
    refine oo 5 ?_
    refine XO.know 34 (.bool true) rfl (congrArg Value.bool (by first | rfl | (rw [beq_iff_eq]; done) | (simp; done))) ?_
    refine XO.cR Tryd.call10 (works_ok (gc.le leA) (g.le leA)) ?_
    refine ox 3 ?_
    refine X.sb [2] ?_
    refine X.retL (q) Tryd.func7 (res1 Tryd.results7 rfl) ⟨_, rfl, rfl, rfl⟩
set_option maxHeartbeats 4000000 in
theorem verifyDepths_ok (gc : GC q) (g : GE q) (hq : MdlQ q m) : CallF Tryd.prog G 4 [.agg (mdlC m).toArray, .int .i64 th] (q) (Ret fun v q' => v = .bool true ∧ q' = q) := by
  refine CallF.of Tryd.func4 Tryd.ntmps4 rfl (fun F cs => ?_)
  have hlen := flatMap_len (f := codC) (sz := 4) (fun _ => rfl) m.threads; have hnt := hq.nt
  refine xo 2 ?_
  refine XO.ef (Ef.box rfl) ?_
  rintro _ _ ⟨n1, rfl, rfl⟩
  refine oo 5 ?_
  refine XO.ldA Tryd.isAgg26 Tryd.sizeOf26 ?_
  refine XO.cX Tryd.call9 (Le.refl _) (few_ok (hq.le leA)) ?_
  rintro _ _ ⟨bb, rfl, rfl⟩
  refine XO.pu (Pu.not rfl) ?_
  refine ox 1 ?_
  refine X.part 11 rfl (fun h1 => ?_) (fun h1 => ?_)
  · skip
    replace h1 := sp h1
    refine xo 3 ?_
    refine XO.cR Tryd.call10 (works_ok (gc.le leA) (g.le leA)) ?_
    refine ox 2 ?_
    refine X.retL (q) Tryd.func4 (res1 Tryd.results4 rfl) ⟨_, rfl, rfl, rfl⟩
  · skip
    replace h1 := sp h1
    refine xo 4 ?_
    refine XO.ldA Tryd.isAgg26 Tryd.sizeOf26 ?_
    refine oo 1 ?_
    rcases Decidable.em (mchk m = 0 ∧ 0 ≤ th ∧ th.toNat < m.threads.length) with hg | hg
    · skip
      obtain ⟨hk0, hth0, hth⟩ := hg; obtain ⟨hin, hL⟩ := mdlOk_thr hk0 (List.getElem_mem hth)
      have hdp : dpOf m th = dOf m m.threads[th.toNat] := by unfold dpOf; rw [if_neg (by omega), dif_pos ⟨hth0, hth⟩]
      refine XO.cX Tryd.call14 (Le.refl _) (Depths_ok (gc.le leA) (g.le leA) (hq.le leA)) ?_
      rintro _ _ (⟨hz, rfl, rfl⟩ | ⟨hz, a1, c1, rfl, rfl⟩)
      · skip
        rw [hdp] at hz ⊢
        refine oo 9 ?_
        refine XO.ldA Tryd.isAgg26 Tryd.sizeOf26 ?_
        refine XO.cR Tryd.call15 (RCheck_ok (hq.le leA)) ?_
        refine XO.know 20 (.int .i64 0) rfl (congrArg (Value.int .i64) hk0) ?_
        refine oo 2 ?_
        refine XO.know 22 (.bool false) rfl knw ?_
        refine oo 4 ?_
        refine XO.know 26 (.bool false) rfl (congrArg Value.bool (decide_eq_false (by omega))) ?_
        refine oo 2 ?_
        refine XO.ld Tryd.isAgg24 ?_
        refine ox 4 ?_
        refine X.sb [32, 6, 5, 4, 2, 1] ?_
        refine X.know 32 (.bool false) rfl (congrArg Value.bool (decide_eq_false (by omega))) ?_
        refine xx 3 ?_
        refine X.draw [] Tryd.mixed (by kernel_rfl) (by kernel_rfl) rfl ?_
        refine XD.loadA 0 rfl rfl Tryd.isAgg26 Tryd.sizeOf26 hasA (by rfl) ?_
        refine dd [1] ?_
        refine XD.ld 2 Tryd.isAgg24 ?_
        refine dd [3] ?_
        refine XD.adr hq.t (by rw [hlen]; omega) (fun b1 o1 e1 => ?_)
        have hs1 := hq.t; rw [e1] at hs1
        refine XD.know 47 (.slice (some ⟨b1, o1, none⟩) m.threads.length m.tc) rfl (by rw [e1]) ?_
        refine dd [4] ?_
        refine XD.ldS 5 (m := th.toNat) Tryd.isAgg39 Tryd.sizeOf39 hs1 hth ?_
        refine XD.cX 6 Tryd.call16 (Le.refl _) (RThread_ok (m := m) (t := m.threads[th.toNat]) ((hq.x _ (List.getElem_mem hth)).le leA) hin hL) ?_
        rintro _ _ (⟨hz2, rfl, rfl⟩ | ⟨hz2, a2, c2, rfl, rfl⟩) <;> refine ⟨(hlA (h := by repeat first | exact trivial | refine ⟨clA, ?_⟩ | refine ⟨Cl.row hs1 leA (fun _ => rfl) hth rfl 0 _ rfl, ?_⟩ | refine ⟨Cl.row hs1 leA (fun _ => rfl) hth rfl 1 _ rfl, ?_⟩ | refine ⟨Cl.row hs1 leA (fun _ => rfl) hth rfl 2 _ rfl, ?_⟩ | refine ⟨Cl.row hs1 leA (fun _ => rfl) hth rfl 3 _ rfl, ?_⟩)), ?_⟩
        rotate_left; · exact absurd hz2 hz
        refine dd [7, 8, 9, 10, 11] ?_
        refine XD.nil ?_
        refine xo 4 ?_
        refine XO.cR Tryd.call17 (ints_ok (a := none) (b := none) (l := []) (l2 := []) (Sees.none_ _) (Sees.none_ _) (by decide) (by decide)) ?_
        refine XO.know 56 (.bool true) rfl (by first | rfl | exact congrArg Value.bool (decide_eq_true rfl)) ?_
        refine oo 1 ?_
        refine XO.know 57 (.bool true) rfl (congrArg Value.bool (by first | rfl | (rw [beq_iff_eq]; done) | (simp; done))) ?_
        refine oo 1 ?_
        refine XO.cR Tryd.call11 (num_ok) ?_
        refine oo 4 ?_
        refine XO.know 63 (.bool true) rfl (congrArg Value.bool (by first | rfl | (rw [beq_iff_eq]; done) | (simp; done))) ?_
        refine XO.cR Tryd.call10 (works_ok (gc.le leA) (g.le leA)) ?_
        refine ox 3 ?_
        refine X.sb [4] ?_
        refine X.retL (q) Tryd.func4 (res1 Tryd.results4 rfl) ⟨_, rfl, rfl, rfl⟩
      · skip
        rw [hdp] at hz ⊢
        refine oo 9 ?_
        refine XO.ldA Tryd.isAgg26 Tryd.sizeOf26 ?_
        refine XO.cR Tryd.call15 (RCheck_ok (hq.le leA)) ?_
        refine XO.know 20 (.int .i64 0) rfl (congrArg (Value.int .i64) hk0) ?_
        refine XO.lsmax (l := (dOf m m.threads[th.toNat]).1) (fun hmx => ?_)
        refine oo 2 ?_
        refine XO.know 22 (.bool false) rfl knw ?_
        refine oo 4 ?_
        refine XO.know 26 (.bool false) rfl (congrArg Value.bool (decide_eq_false (by omega))) ?_
        refine oo 2 ?_
        refine XO.ld Tryd.isAgg24 ?_
        refine ox 4 ?_
        refine X.sb [32, 6, 5, 4, 2, 1] ?_
        refine X.know 32 (.bool false) rfl (congrArg Value.bool (decide_eq_false (by omega))) ?_
        refine xx 3 ?_
        refine X.draw [] Tryd.mixed (by kernel_rfl) (by kernel_rfl) rfl ?_
        refine XD.loadA 0 rfl rfl Tryd.isAgg26 Tryd.sizeOf26 hasA (by rfl) ?_
        refine dd [1] ?_
        refine XD.ld 2 Tryd.isAgg24 ?_
        refine dd [3] ?_
        refine XD.adr hq.t (by rw [hlen]; omega) (fun b1 o1 e1 => ?_)
        have hs1 := hq.t; rw [e1] at hs1
        refine XD.know 47 (.slice (some ⟨b1, o1, none⟩) m.threads.length m.tc) rfl (by rw [e1]) ?_
        refine dd [4] ?_
        refine XD.ldS 5 (m := th.toNat) Tryd.isAgg39 Tryd.sizeOf39 hs1 hth ?_
        refine XD.cX 6 Tryd.call16 (Le.refl _) (RThread_ok (m := m) (t := m.threads[th.toNat]) ((hq.x _ (List.getElem_mem hth)).le leA) hin hL) ?_
        rintro _ _ (⟨hz2, rfl, rfl⟩ | ⟨hz2, a2, c2, rfl, rfl⟩) <;> refine ⟨(hlA (h := by repeat first | exact trivial | refine ⟨clA, ?_⟩ | refine ⟨Cl.row hs1 leA (fun _ => rfl) hth rfl 0 _ rfl, ?_⟩ | refine ⟨Cl.row hs1 leA (fun _ => rfl) hth rfl 1 _ rfl, ?_⟩ | refine ⟨Cl.row hs1 leA (fun _ => rfl) hth rfl 2 _ rfl, ?_⟩ | refine ⟨Cl.row hs1 leA (fun _ => rfl) hth rfl 3 _ rfl, ?_⟩)), ?_⟩
        · exact absurd hz hz2
        refine dd [7, 8, 9, 10, 11] ?_
        refine XD.nil ?_
        refine xo 4 ?_
        refine XO.cR Tryd.call17 (ints_ok (a := a1) (b := a2) (l := (dOf m m.threads[th.toNat]).1) (l2 := (dOf m m.threads[th.toNat]).1) ((Sees.lsH _).le fndA) ((Sees.lsH _).le fndA) hmx hmx) ?_
        refine XO.know 56 (.bool true) rfl (by first | rfl | exact congrArg Value.bool (decide_eq_true rfl)) ?_
        refine oo 1 ?_
        refine XO.know 57 (.bool true) rfl (congrArg Value.bool (by first | rfl | (rw [beq_iff_eq]; done) | (simp; done))) ?_
        refine oo 1 ?_
        refine XO.cR Tryd.call11 (num_ok) ?_
        refine oo 4 ?_
        refine XO.know 63 (.bool true) rfl (congrArg Value.bool (by first | rfl | (rw [beq_iff_eq]; done) | (simp; done))) ?_
        refine XO.cR Tryd.call10 (works_ok (gc.le leA) (g.le leA)) ?_
        refine ox 3 ?_
        refine X.sb [4] ?_
        refine X.retL (q) Tryd.func4 (res1 Tryd.results4 rfl) ⟨_, rfl, rfl, rfl⟩
    · skip
      refine XO.cR Tryd.call14 (Depths_bad (gc.le leA) (g.le leA) (hq.le leA) hg) ?_
      refine oo 9 ?_
      refine XO.ldA Tryd.isAgg26 Tryd.sizeOf26 ?_
      refine XO.cR Tryd.call15 (RCheck_ok (hq.le leA)) ?_
      refine oo 2 ?_
      refine XO.part 22 rfl (fun h1 => ?_) (fun h1 => ?_)
      · skip
        replace h1 := sp h1
        refine oo 18 ?_
        refine XO.know 36 (.bool true) rfl (congrArg Value.bool (by first | rfl | (rw [beq_iff_eq]; done) | (simp; done))) ?_
        refine oo 1 ?_
        refine XO.cR Tryd.call11 (num_ok) ?_
        refine oo 3 ?_
        refine XO.know 41 (.bool true) rfl (congrArg Value.bool (by first | rfl | (rw [beq_iff_eq]; done) | (simp; done))) ?_
        refine XO.cR Tryd.call10 (works_ok (gc.le leA) (g.le leA)) ?_
        refine ox 3 ?_
        refine X.sb [4, 6, 5, 2, 1] ?_
        refine X.retL (q) Tryd.func4 (res1 Tryd.results4 rfl) ⟨_, rfl, rfl, rfl⟩
      · skip
        replace h1 := sp h1
        refine oo 4 ?_
        refine XO.part 26 rfl (fun h2 => ?_) (fun h2 => ?_)
        · skip
          replace h2 := sp h2
          refine oo 14 ?_
          refine XO.know 36 (.bool true) rfl (congrArg Value.bool (by first | rfl | (rw [beq_iff_eq]; done) | (simp; done))) ?_
          refine oo 1 ?_
          refine XO.cR Tryd.call11 (num_ok) ?_
          refine oo 3 ?_
          refine XO.know 41 (.bool true) rfl (congrArg Value.bool (by first | rfl | (rw [beq_iff_eq]; done) | (simp; done))) ?_
          refine XO.cR Tryd.call10 (works_ok (gc.le leA) (g.le leA)) ?_
          refine ox 3 ?_
          refine X.sb [4, 6, 5, 2, 1] ?_
          refine X.retL (q) Tryd.func4 (res1 Tryd.results4 rfl) ⟨_, rfl, rfl, rfl⟩
        · skip
          replace h2 := sp h2
          refine oo 2 ?_
          refine XO.ld Tryd.isAgg24 ?_
          refine ox 4 ?_
          refine X.sb [32, 6, 5, 4, 2, 1] ?_
          refine X.part 32 rfl (fun h3 => ?_) (fun h3 => ?_)
          · skip
            replace h3 := sp h3
            refine xo 7 ?_
            refine XO.know 36 (.bool true) rfl (congrArg Value.bool (by first | rfl | (rw [beq_iff_eq]; done) | (simp; done))) ?_
            refine oo 1 ?_
            refine XO.cR Tryd.call11 (num_ok) ?_
            refine oo 3 ?_
            refine XO.know 41 (.bool true) rfl (congrArg Value.bool (by first | rfl | (rw [beq_iff_eq]; done) | (simp; done))) ?_
            refine XO.cR Tryd.call10 (works_ok (gc.le leA) (g.le leA)) ?_
            refine ox 3 ?_
            refine X.retL (q) Tryd.func4 (res1 Tryd.results4 rfl) ⟨_, rfl, rfl, rfl⟩
          · skip
            replace h3 := sp h3
            refine xx 3 ?_
            refine X.draw [] Tryd.mixed (by kernel_rfl) (by kernel_rfl) rfl ?_
            refine XD.loadA 0 rfl rfl Tryd.isAgg26 Tryd.sizeOf26 hasA (by rfl) ?_
            refine dd [1] ?_
            refine XD.ld 2 Tryd.isAgg24 ?_
            refine dd [3] ?_
            exact absurd ⟨by omega, by omega, by omega⟩ hg
end
end Go.Proofs.YtmdnfhpoplpaoaaDoor

