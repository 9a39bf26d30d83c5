/- What functions of package vm, of its references and of its laws do: contracts of calls, proved by walking their code. -/
import Derived.Test.YtcklgodcjnnllaaGreatDoorQ
import Derived.KernelRfl
set_option maxRecDepth 100000
set_option linter.unusedVariables false
set_option linter.unusedSimpArgs false
namespace Go.Proofs.YtcklgodcjnnllaaGreatDoor
open Go Go.RowKit Wx
attribute [local irreducible] Wx.lsH Wx.rsH Wx.lsM Wx.rsM Wx.stars

theorem getD_lt {α : Type} {l : List α} {n : Nat} {d : α} (h : n < l.length) : l.getD n d = l[n] := by simp [List.getD, h]
section
variable {G : World} {q pre : List HP} {a b A : Option Addr} {c d C p p0 p1 p2 i : Nat} {lo hi n cd dep : Int} {fv : Value} {x y : Ins} {t : Cod} {m : Mdl} {at_ : Int}
variable {l l2 : List Int} {f : Frm} {th k : Int}
theorem Clone_ok (hs : Sees q a (l.map I64)) (hL : l.length ≤ 1000000000) : CallF Tryz.prog G 60 [.slice a l.length c] (q) (Ret fun v q' => ∃ a' c', v = .slice a' l.length c' ∧ q' = lsH I64 2 a' c' (l) :: q) := by
 refine CallF.of Tryz.func60 Tryz.ntmps60 rfl (fun F cs => ?_)
 rcases Nat.eq_zero_or_pos l.length with hl0 | hl0
 · skip
   obtain rfl := List.eq_nil_of_length_eq_zero hl0
   refine xx 10 ?_
   refine X.part 4 rfl (fun h1 => ?_) (fun h1 => ?_)
   · skip
     refine xx 5 ?_
     refine X.retL (lsH I64 2 none 0 [] :: q) Tryz.func60 (res1 Tryz.results60 rfl) ⟨_, rfl, none, 0, rfl, rfl⟩ ((leA).trans (Le.lsH_nil _ _ _))
   · skip
     refine xo 4 ?_
     refine XO.ef (Ef.lit0 I64 Tryz.underlying22 Tryz.info2) ?_
     rintro _ _ ⟨g, rfl, rfl⟩
     refine oo 1 ?_
     refine XO.ef (Ef.appA (f := I64) (l := []) (m := []) Tryz.underlying22 Tryz.info2 rfl rfl rfl fndA (hs.le leA) (fun _ => rfl) (by simp; try omega) (by simp; try omega)) ?_
     rintro _ _ ⟨a2, c2, rfl, rfl⟩
     refine ox 2 ?_
     refine X.retL (lsH I64 2 a2 c2 [] :: q) Tryz.func60 (res1 Tryz.results60 rfl) ⟨_, rfl, a2, c2, by simp, rfl⟩
 · skip
   refine X.adr hs (by simp; omega) (fun b1 o1 e_ => ?_); subst e_
   refine xx 10 ?_
   refine X.kf 4 ?_
   refine xo 4 ?_
   refine XO.ef (Ef.lit0 I64 Tryz.underlying22 Tryz.info2) ?_
   rintro _ _ ⟨g, rfl, rfl⟩
   refine oo 1 ?_
   refine XO.ef (Ef.appA (f := I64) (l := []) (m := l) Tryz.underlying22 Tryz.info2 rfl rfl rfl fndA (hs.le leA) (fun _ => rfl) (by simp; try omega) (by simp; try omega)) ?_
   rintro _ _ ⟨a2, c2, rfl, rfl⟩
   refine ox 2 ?_
   refine X.retL (lsH I64 2 a2 c2 l :: q) Tryz.func60 (res1 Tryz.results60 rfl) ⟨_, rfl, a2, c2, by simp, rfl⟩
theorem copied_ok (hf : FrmQ q f) (hl : f.loc.length ≤ 1000000000) (hs : f.stk.length ≤ 1000000000) : CallF Tryz.prog G 39 [.agg (frmC f).toArray] (q) (Ret fun v q' => ∃ la lc sa sc, v = .agg (frmC ⟨f.code, f.pc, f.loc, f.stk, la, lc, sa, sc⟩).toArray ∧ q' = lsH I64 2 sa sc (f.stk) :: lsH I64 2 la lc (f.loc) :: q) := by
 refine CallF.of Tryz.func39 Tryz.ntmps39 rfl (fun F cs => ?_)
 refine xo 2 ?_
 refine XO.bx fun n1 => ?_
 refine XO.al Tryz.zeroValue28 fun n2 => ?_
 refine ox 2 ?_
 refine drw ?_
 refine dd [0] ?_
 refine ldD 1 ?_
 refine dd [3] ?_
 refine ldD 4 ?_
 refine XD.cX 2 Tryz.call60 (Le.refl _) (Clone_ok (l := f.loc) (hf.l.le leA) hl) ?_
 rintro _ _ ⟨la, lc, rfl, rfl⟩
 refine ⟨hlA, ?_⟩
 refine dd [6] ?_
 refine XD.cX 5 Tryz.call60 (Le.refl _) (Clone_ok (l := f.stk) (hf.s.le leA) hs) ?_
 rintro _ _ ⟨sa, sc, rfl, rfl⟩
 refine ⟨trivial, ?_⟩
 refine stD 7 ?_
 refine dd [8] ?_
 refine stD 9 ?_
 refine XD.nil ?_
 refine xo 2 ?_
 refine ldA ?_
 refine stA ?_
 refine ox 1 ?_
 refine X.retL (lsH I64 2 sa sc (f.stk) :: lsH I64 2 la lc (f.loc) :: q) Tryz.func39 (resC1 Tryz.results39 (ResOk.cell rfl (LV.agg Tryz.isAgg28 Tryz.sizeOf28 hasA rfl) ResOk.nil)) ⟨_, rfl, la, lc, sa, sc, rfl, rfl⟩
set_option maxHeartbeats 1000000 in
theorem New_ok (gc : GC q) (g : GE q) (hq : MdlQ q m) : CallF Tryz.prog G 18 [.agg (mdlC m).toArray, .int .i64 th] (q) (Ret fun v q' => (∃ h : vchk m = 0 ∧ 0 ≤ th ∧ th.toNat < m.threads.length, ∃ la lc, v = .tuple [.agg (frmC ⟨th, 0, List.replicate (m.threads[th.toNat]'h.2.2).locals.toNat 0, [], la, lc, none, 0⟩).toArray, .int .i64 0].toArray ∧ q' = lsH I64 2 la lc (List.replicate (m.threads[th.toNat]'h.2.2).locals.toNat 0) :: q) ∨ (¬ (vchk m = 0 ∧ 0 ≤ th ∧ th.toNat < m.threads.length) ∧ v = .tuple [.agg (frmC zFrm).toArray, .int .i64 2].toArray ∧ q' = q)) := by
 refine CallF.of Tryz.func18 Tryz.ntmps18 rfl (fun F cs => ?_)
 have hlen := flatMap_len (f := codC) (sz := 4) (fun _ => rfl) m.threads; have hnt := hq.nt
 refine xo 2 ?_
 refine XO.bx fun n1 => ?_
 refine XO.al Tryz.zeroValue28 fun n2 => ?_
 refine oo 6 ?_
 refine XO.cX Tryz.call35 fndA (there_ok (gc.le leA) (g.le leA) (hq.le leA)) ?_
 rintro _ _ ⟨rfl, rfl⟩
 refine XO.pu (Pu.not rfl) ?_
 refine ox 1 ?_
 refine X.part 8 rfl (fun h1 => ?_) (fun h1 => ?_)
 · skip
   replace h1 := sp h1
   refine xo 4 ?_
   refine stA ?_
   refine ox 2 ?_
   refine X.retL (q) Tryz.func18 (resC Tryz.results18 (ResOk.cell rfl (LV.agg Tryz.isAgg28 Tryz.sizeOf28 hasA rfl) (ResOk.tmp rfl ResOk.nil))) ⟨_, rfl, .inr ⟨by omega, rfl, rfl⟩⟩
 · skip
   replace h1 := sp h1
   refine xo 6 ?_
   refine ld ?_
   refine oo 1 ?_
   have hth : th.toNat < m.threads.length := by omega
   have hco := (mdlOk_of h1.1).2.2.2.2.2.2 _ (List.getElem_mem hth); have hloc := hco.2.1; unfold within at hloc
   obtain ⟨nl, hnl⟩ : ∃ nl : Nat, m.threads[th.toNat].locals = (nl : Int) := ⟨m.threads[th.toNat].locals.toNat, by omega⟩
   refine XO.adr hq.t (by rw [hlen]; omega) (fun b1 o1 e1 => ?_)
   have hs1 := hq.t; rw [e1] at hs1
   refine XO.know 12 (.slice (some ⟨b1, o1, none⟩) m.threads.length m.tc) rfl (by rw [e1]) ?_
   refine oo 2 ?_
   refine ld ?_ (hc := (Cl.row (j := th) hs1 leA (fun _ => rfl) hth (by omega) 1 _ rfl))
   refine XO.know 16 (.int .i64 (nl : Int)) rfl (congrArg (Value.int .i64) hnl) ?_
   refine XO.ef (Ef.make (n := nl) rfl rfl Tryz.underlying22 Tryz.info2 rfl rfl (by omega) (by omega)) ?_
   rintro _ _ ⟨g3, rfl, rfl⟩
   refine XO.le (q' := lsH I64 2 (some ⟨g3, 0, none⟩) nl (List.replicate nl 0) :: _) (Le.trans fndA (by rw [← ls_made (f := I64) (u := 0) rfl]; exact Le.refl _)) ?_
   refine oo 1 ?_
   refine stA ?_
   refine ox 2 ?_
   refine X.sb [5, 4] ?_
   refine X.retL (lsH I64 2 (some ⟨g3, 0, none⟩) nl (List.replicate nl 0) :: q) Tryz.func18 (resC Tryz.results18 (ResOk.cell rfl (LV.agg Tryz.isAgg28 Tryz.sizeOf28 hasA rfl) (ResOk.tmp rfl ResOk.nil))) ⟨_, rfl, .inl ⟨⟨h1.1, h1.2.1, hth⟩, some ⟨g3, 0, none⟩, nl, by rw [hnl]; simp [frmC]; rfl, by rw [hnl]; rfl⟩⟩
set_option maxHeartbeats 1000000 in
theorem count_ok (hq : MdlQ q m) (hk : vchk m = 0) : CallF Tryz.prog G 37 [.pointer (some ⟨p, 0, none⟩)] (pto p (.cells (mdlC m).toArray 26 (0, 0)) :: q) (Ret fun v q' => v = .int .i64 (cntS m) ∧ q' = pto p (.cells (mdlC m).toArray 26 (0, 0)) :: q) := by
 refine CallF.of Tryz.func37 Tryz.ntmps37 rfl (fun F cs => ?_)
 have hmo := mdlOk_of hk; have hv1 := hmo.2.2.1.1; have ha1 := hmo.2.2.2.1
 refine xo 9 ?_
 refine ld ?_
 refine oo 9 ?_
 refine ld ?_
 refine ox 4 ?_
 refine X.know 3 (.int .i64 ((m.vars.length : Int) + sumI (m.arrays.take 0))) rfl (congrArg (Value.int .i64) (by simp [sumI])) ?_
 refine X.at (X.loop (fun (s : Nat) => s ≤ m.arrays.length) (fun s => [(16, .int .i64 (s : Int)), (15, .int .i64 (m.arrays.length : Int)), (14, .slice m.aa m.arrays.length m.ac), (3, .int .i64 ((m.vars.length : Int) + sumI (m.arrays.take s))), (2, .int .i64 0)]) (fun s => pto p (.cells (mdlC m).toArray 26 (0, 0)) :: (q ++ F)) (fun s => m.arrays.length - s) (fun s hi_ ih => ?_) 0 (Nat.zero_le _)) subA leA
 try dsimp only at hi_ ih ⊢
 obtain hs0 := hi_
 refine xx 5 ?_
 refine X.part 17 rfl (fun h0 => ?_) (fun h0 => ?_)
 · skip
   replace h0 := sp h0
   have hk1 : s < m.arrays.length := by omega
   have hsu := sumI_take_le hmo s; have hx := ha1.2 _ (List.getElem_mem hk1); unfold within at hx
   refine xo 6 ?_
   refine XO.adr hq.a (by simp; omega) (fun b1 o1 e1 => ?_)
   have hs1 := hq.a; rw [e1] at hs1
   refine XO.know 14 (.slice (some ⟨b1, o1, none⟩) m.arrays.length m.ac) rfl (by rw [e1]) ?_
   refine oo 1 ?_
   refine ld ?_ (hc := (Cl.e1 hs1 leA hk1 rfl))
   refine ox 13 ?_
   refine X.know 3 (.int .i64 ((m.vars.length : Int) + sumI (m.arrays.take (s + 1)))) rfl (congrArg (Value.int .i64) (by rw [sumI_take hk1]; omega)) ?_
   refine X.know 14 (.slice m.aa m.arrays.length m.ac) rfl (by rw [e1]) ?_
   refine X.at (ih (s + 1) (by omega) (by omega)) subA leA
 · skip
   replace h0 := sp h0
   refine xx 7 ?_
   refine X.retL (pto p (.cells (mdlC m).toArray 26 (0, 0)) :: q) Tryz.func37 (res1 Tryz.results37 rfl) ⟨_, rfl, by unfold cntS; rw [List.take_of_length_le (by omega)], rfl⟩
set_option maxHeartbeats 1000000 in
theorem Cells_ok (gc : GC q) (g : GE q) (hq : MdlQ q m) : CallF Tryz.prog G 19 [.agg (mdlC m).toArray] (q) (Ret fun v q' => (vchk m = 0 ∧ ∃ a' c', v = .tuple [.slice a' (cntS m).toNat c', .int .i64 0].toArray ∧ q' = lsH I64 2 a' c' (m.vars ++ List.replicate (sumI m.arrays).toNat 0) :: q) ∨ (vchk m ≠ 0 ∧ v = .tuple [.slice none 0 0, .int .i64 2].toArray ∧ q' = q)) := by
 refine CallF.of Tryz.func19 Tryz.ntmps19 rfl (fun F cs => ?_)
 refine xo 2 ?_
 refine XO.bx fun n1 => ?_
 refine oo 6 ?_
 refine ldA ?_
 refine XO.cR Tryz.call36 (VCheck_ok (gc.le leA) (g.le leA) (hq.le leA)) ?_
 refine ox 7 ?_
 refine X.part 9 rfl (fun h1 => ?_) (fun h1 => ?_)
 · skip
   replace h1 := sp h1
   refine xx 6 ?_
   refine X.retL (q) Tryz.func19 (res2 Tryz.results19 rfl rfl) ⟨_, rfl, .inr ⟨by omega, rfl, rfl⟩⟩
 · skip
   replace h1 := sp h1
   refine xo 4 ?_
   have hk : vchk m = 0 := by omega
   have hmo := mdlOk_of hk; have hv1 := hmo.2.2.1.1; have hsu := sumI_take_le hmo m.arrays.length; rw [List.take_length] at hsu
   obtain ⟨N, hN⟩ : ∃ N : Nat, sumI m.arrays = (N : Int) := ⟨(sumI m.arrays).toNat, by omega⟩
   refine XO.cX Tryz.call37 fndA (count_ok (hq.le leA) hk) ?_
   rintro _ _ ⟨rfl, rfl⟩
   refine XO.know 10 (.int .i64 ((m.vars.length + N : Nat) : Int)) rfl (congrArg (Value.int .i64) (by unfold cntS; omega)) ?_
   refine XO.ef (Ef.make (n := m.vars.length + N) rfl rfl Tryz.underlying22 Tryz.info2 rfl rfl (by omega) (by omega)) ?_
   rintro _ _ ⟨g3, rfl, rfl⟩
   refine XO.le (q' := lsH I64 2 (some ⟨g3, 0, none⟩) (m.vars.length + N) (List.replicate (m.vars.length + N) 0) :: _) (Le.trans fndA (by rw [← ls_made (f := I64) (u := 0) rfl]; exact Le.refl _)) ?_
   refine oo 6 ?_
   refine ld ?_
   refine XO.know 12 (.slice (some ⟨g3, 0, none⟩) (List.replicate (m.vars.length + N) (0 : Int)).length (m.vars.length + N)) rfl (by rw [List.length_replicate]) ?_
   refine XO.ef (Ef.copyL (f := I64) (l := List.replicate (m.vars.length + N) 0) (m := m.vars) Tryz.underlying22 Tryz.info2 rfl rfl fndA (hq.v.le leA) (fun _ => rfl) (by rw [List.length_replicate]; omega)) ?_
   rintro _ _ ⟨rfl, rfl⟩
   rw [List.drop_replicate, Nat.add_sub_cancel_left]
   refine ox 7 ?_
   refine X.sb [3, 2] ?_
   refine X.retL (lsH I64 2 (some ⟨g3, 0, none⟩) (m.vars.length + N) (m.vars ++ List.replicate N 0) :: q) Tryz.func19 (res2 Tryz.results19 rfl rfl) ⟨_, rfl, .inl ⟨hk, some ⟨g3, 0, none⟩, m.vars.length + N, by rw [show (cntS m).toNat = m.vars.length + N by unfold cntS; omega], by rw [hN]; rfl⟩⟩
set_option maxHeartbeats 1000000 in
theorem VNext_ok (gc : GC q) (g : GE q) (hq : MdlQ q m) (hf : FrmQ q f) : CallF Tryz.prog G 27 [.agg (mdlC m).toArray, .agg (frmC f).toArray] (q) (Ret fun v q' => (∃ h : mayS m f 0, v = .tuple [.agg (insC ((m.threads[f.code.toNat]'h.2.2.1).ins.getD f.pc.toNat zIns)).toArray, .int .i64 0].toArray ∧ q' = q) ∨ (¬ mayS m f 0 ∧ v = .tuple [.agg (insC zIns).toArray, .int .i64 2].toArray ∧ q' = q)) := by
 refine CallF.of Tryz.func27 Tryz.ntmps27 rfl (fun F cs => ?_)
 have hlen := flatMap_len (f := codC) (sz := 4) (fun _ => rfl) m.threads; have hnt := hq.nt
 refine xo 2 ?_
 refine XO.bx fun n1 => ?_
 refine XO.bx fun n2 => ?_
 refine XO.al Tryz.zeroValue52 fun n3 => ?_
 refine oo 5 ?_
 refine ldA ?_
 refine ldA ?_
 refine XO.cX Tryz.call26 (Le.refl _) (May_ok (gc.le leA) (g.le leA) (hq.le leA) (hf.le leA)) ?_
 rintro _ _ ⟨⟨bb, rfl, hbb⟩, rfl⟩
 refine XO.pu (Pu.not rfl) ?_
 refine ox 1 ?_
 refine X.part 9 rfl (fun h1 => ?_) (fun h1 => ?_)
 · skip
   replace h1 := sp h1
   refine xo 4 ?_
   refine stA ?_
   refine ox 2 ?_
   refine X.retL (q) Tryz.func27 (resC Tryz.results27 (ResOk.cell rfl (LV.agg Tryz.isAgg52 Tryz.sizeOf52 hasA rfl) (ResOk.tmp rfl ResOk.nil))) ⟨_, rfl, .inr ⟨fun k => by have := hbb.2 k; simp [this] at h1, rfl, rfl⟩⟩
 · skip
   replace h1 := sp h1
   refine xx 3 ?_
   refine drw ?_
   refine dd [0] ?_
   refine ldD 1 ?_
   refine dd [2] ?_
   refine ldD 3 ?_
   have hm := hbb.1 (by simpa using h1); obtain ⟨hm1, hm2, hth, hm3, hm4, hm5⟩ := hm
   have hpc : f.pc.toNat < m.threads[f.code.toNat].ins.length := by omega
   have hql := hq.x _ (List.getElem_mem hth); have hni := hql.ni; have hsi := hql.i; have hlen2 := flatMap_len (f := insC) (sz := 4) (fun _ => rfl) m.threads[f.code.toNat].ins
   refine XD.adr hq.t (by rw [hlen]; omega) (fun b1 o1 e1 => ?_)
   have hs1 := hq.t; rw [e1] at hs1
   refine XD.know 12 (.slice (some ⟨b1, o1, none⟩) m.threads.length m.tc) rfl (by rw [e1]) ?_
   refine dd [4, 5] ?_
   refine ldD 6 ?_ (hc := (Cl.row (j := f.code) hs1 leA (fun _ => rfl) hth (by omega) 2 _ rfl))
   refine dd [7] ?_
   refine ldD 8 ?_
   refine XD.adr hsi (by rw [hlen2]; omega) (fun b2 o2 e2 => ?_)
   have hs2 := hsi; rw [e2] at hs2
   refine XD.know 17 (.slice (some ⟨b2, o2, none⟩) m.threads[f.code.toNat].ins.length m.threads[f.code.toNat].ic) rfl (by rw [e2]) ?_
   refine dd [9] ?_
   refine XD.ldS 10 (m := f.pc.toNat) Tryz.isAgg52 Tryz.sizeOf52 hs2 hpc ?_
   refine stAD 11 ?_
   refine dd [12] ?_
   refine XD.nil ?_
   refine X.retL (q) Tryz.func27 (resC Tryz.results27 (ResOk.cell rfl (LV.agg Tryz.isAgg52 Tryz.sizeOf52 hasA rfl) (ResOk.tmp rfl ResOk.nil))) ⟨_, rfl, .inl ⟨⟨hm1, hm2, hth, hm3, hm4, hm5⟩, by rw [getD_lt hpc]; rfl, rfl⟩⟩
end
end Go.Proofs.YtcklgodcjnnllaaGreatDoor

