/- What functions of package vm, of its references and of its laws do: contracts of calls, proved by walking their code. -/
import Derived.Test.YtcklgodcjnnllaaGreatDoorRe
import Derived.Test.YtcklgodcjnnllaaGreatDoorWe
import Derived.KernelRfl
set_option maxRecDepth 100000
set_option linter.unusedVariables false
set_option linter.unusedSimpArgs false
namespace Go.Proofs.YtcklgodcjnnllaaGreatDoor
open Go Go.RowKit Wx
attribute [local irreducible] Wx.lsH Wx.rsH Wx.lsM Wx.rsM Wx.stars

theorem Sees.takeB {α : Type} {g : α → Value} {q : List HP} {a : Option Addr} {l : List α} (h : Sees q a (l.map g)) (n : Nat) : Sees q a ((l.take n).map g) := fun G w s i u hu => h G w s i u (by
  rw [List.map_take, List.getElem?_take] at hu
  split at hu
  · exact hu
  · cases hu)
/-- May a value be given to a frame? -/
def giveS (m : Mdl) (f : Frm) (z : Int) : Prop := mayS m { f with stk := f.stk ++ [z] } 0 ∧ f.pc ≠ 0 ∧ ((thrAt m f.code).ins.getD (f.pc.toNat - 1) zIns).c = 30
theorem mayS_addr {m : Mdl} {f : Frm} {less : Int} (la sa : Option Addr) (lc sc : Nat) : mayS m { f with la := la, lc := lc, sa := sa, sc := sc } less ↔ mayS m f less := Iff.rfl
theorem mayS_push {m : Mdl} {f : Frm} {z : Int} : mayS m { f with stk := f.stk ++ [z] } 0 ↔ mayS m f 1 ∧ val z := by
  unfold mayS vals
  simp only [List.length_append, List.length_singleton, List.mem_append, List.mem_singleton]
  constructor
  · rintro ⟨h1, h2, h3, h4, h5, h6, h7, h8, h9, h10⟩
    exact ⟨⟨h1, h2, h3, h4, h5, h6, h7, fun n hn => h8 n (.inl hn), h9, by omega⟩, h8 z (.inr rfl)⟩
  · rintro ⟨⟨h1, h2, h3, h4, h5, h6, h7, h8, h9, h10⟩, hz⟩
    exact ⟨h1, h2, h3, h4, h5, h6, h7, fun n hn => by rcases hn with hn | rfl; exact h8 n hn; exact hz, h9, by omega⟩
section
variable {G : World} {q pre : List HP} {a b A : Option Addr} {c d C p p0 p1 p2 i : Nat} {lo hi n cd dep : Int} {fv : Value} {x y : Ins} {t : Cod} {m : Mdl} {at_ : Int}
variable {l cells loc : List Int} {idx arr z k u pc code : Int} {x1 x2 x3 x4 x5 x6 old : Value} {pm cc lc n1 n2 : Nat} {la cda : Option Addr}
variable {f f2 : Frm} {th : Int} {l2 : List Int}
set_option maxHeartbeats 8000000 in
theorem Give_ok (gc : GC q) (g : GE q) (hq : MdlQ q m) (hf : FrmQ q f) (hb : f.loc.length ≤ 1000 ∧ f.stk.length ≤ 1000) : CallF Tryz.prog G 23 [.agg (mdlC m).toArray, .agg (frmC f).toArray, .int .i64 z] (q) (Ret fun v q' => (giveS m f z ∧ ∃ la lc sa sc, v = .tuple [.agg (frmC ⟨f.code, f.pc, f.loc, f.stk ++ [z], la, lc, sa, sc⟩).toArray, .int .i64 0].toArray ∧ q' = lsH I64 2 sa sc (f.stk ++ [z]) :: lsH I64 2 la lc (f.loc) :: q) ∨ (¬ giveS m f z ∧ v = .tuple [.agg (frmC zFrm).toArray, .int .i64 2].toArray ∧ q' = q)) := by
 refine CallF.of Tryz.func23 Tryz.ntmps23 rfl (fun F cs => ?_)
 have hlen := flatMap_len (f := codC) (sz := 4) (fun _ => rfl) m.threads; have hnt := hq.nt
 refine xo 2 ?_
 refine XO.bx fun n1 => ?_
 refine XO.bx fun n2 => ?_
 refine XO.al Tryz.zeroValue28 fun n3 => ?_
 refine oo 4 ?_
 refine ldA ?_
 refine XO.cX Tryz.call39 (Le.refl _) (copied_ok (hf.le leA) (by omega) (by omega)) ?_
 rintro _ _ ⟨la, lc, sa, sc, rfl, rfl⟩
 refine XO.al Tryz.zeroValue28 fun n4 => ?_
 refine stA ?_
 refine oo 4 ?_
 refine ld ?_
 refine oo 1 ?_
 refine XO.ef (Ef.litL I64 [z] Tryz.underlying22 Tryz.info2 rfl rfl rfl rfl rfl rfl (fun _ => rfl)) ?_
 rintro _ _ ⟨gz, rfl, rfl⟩
 refine XO.ef (Ef.appA (f := I64) (l := f.stk) (m := [z]) Tryz.underlying22 Tryz.info2 rfl rfl rfl fndA ((Sees.lsH _).le fndA) (fun _ => rfl) (by simp; omega) (by simp; omega)) ?_
 rintro _ _ ⟨a2, c2, rfl, rfl⟩
 refine oo 1 ?_
 refine st ?_
 refine ox 3 ?_
 refine drw ?_
 refine ldAD 0 ?_
 refine ldAD 1 ?_
 refine XD.cX 2 Tryz.call26 (Le.refl _) (May_ok (f := ⟨f.code, f.pc, f.loc, f.stk ++ [z], la, lc, a2, c2⟩) (gc.le leA) (g.le leA) (hq.le leA) ⟨(Sees.lsH _).le fndA, (Sees.lsH _).le fndA, (by show f.loc.length ≤ _; omega), (by simp; omega)⟩) ?_
 rintro _ _ ⟨⟨bb, rfl, hbb⟩, rfl⟩
 refine ⟨trivial, ?_⟩
 replace hbb : bb = true ↔ mayS m { f with stk := f.stk ++ [z] } 0 := hbb
 refine XD.pu 3 rfl (Pu.not rfl) ?_
 refine dd [4] ?_
 refine XD.part 21 rfl (fun h1 => ?_) (fun h1 => ?_)
 · skip
   replace h1 := sp h1
   refine dd [5, 6, 7, 8, 9, 10, 11, 12, 13, 14, 15, 16, 17, 18, 19, 20, 21, 22, 23, 24] ?_
   refine XD.nil ?_
   refine xo 4 ?_
   refine stA ?_
   refine ox 2 ?_
   refine X.sb [7, 8, 6] ?_
   refine X.retL (q) Tryz.func23 (resC Tryz.results23 (ResOk.cell rfl (LV.agg Tryz.isAgg28 Tryz.sizeOf28 hasA rfl) (ResOk.tmp rfl ResOk.nil))) ⟨_, rfl, .inr ⟨fun k => by first | exact bb_false hbb (by simpa using h1) k.1 | exact absurd (by omega) k.2.1, rfl, rfl⟩⟩
 · skip
   replace h1 := sp h1
   refine dd [5] ?_
   refine ldD 6 ?_
   refine dd [7, 8, 9] ?_
   refine XD.part 26 rfl (fun h2 => ?_) (fun h2 => ?_)
   · skip
     replace h2 := sp h2
     refine dd [10, 11, 12, 13, 14, 15, 16, 17, 18, 19, 20, 21, 22, 23, 24] ?_
     refine XD.nil ?_
     refine xo 4 ?_
     refine stA ?_
     refine ox 2 ?_
     refine X.sb [7, 8, 6] ?_
     refine X.retL (q) Tryz.func23 (resC Tryz.results23 (ResOk.cell rfl (LV.agg Tryz.isAgg28 Tryz.sizeOf28 hasA rfl) (ResOk.tmp rfl ResOk.nil))) ⟨_, rfl, .inr ⟨fun k => by first | exact bb_false hbb (by simpa using h1) k.1 | exact absurd (by omega) k.2.1, rfl, rfl⟩⟩
   · skip
     replace h2 := sp h2
     refine dd [10] ?_
     refine ldD 11 ?_
     refine dd [12] ?_
     refine ldD 13 ?_
     have hm := hbb.1 (by simpa using h1); obtain ⟨hm1, hm2, hth, hm3, hm4, hm5⟩ := id hm; dsimp only at hm2 hth hm3 hm4
     have hpc : (f.pc - 1).toNat < m.threads[f.code.toNat].ins.length := by omega
     have hql := hq.x _ (List.getElem_mem hth); have hni := hql.ni; have hsi := hql.i; have hlen2 := flatMap_len (f := insC) (sz := 4) (fun _ => rfl) m.threads[f.code.toNat].ins
     have hp65 := (vOk hm1 hth).2.1
     have hxe : (thrAt m f.code).ins.getD (f.pc.toNat - 1) zIns = m.threads[f.code.toNat].ins[(f.pc - 1).toNat] := by rw [show thrAt m f.code = m.threads[f.code.toNat] from getD_lt hth, show f.pc.toNat - 1 = (f.pc - 1).toNat by omega]; exact getD_lt hpc
     refine XD.adr hq.t (by rw [hlen]; omega) (fun b1 o1 e1 => ?_)
     have hs1 := hq.t; rw [e1] at hs1
     refine XD.know 28 (.slice (some ⟨b1, o1, none⟩) m.threads.length m.tc) rfl (by rw [e1]) ?_
     refine dd [14, 15] ?_
     refine ldD 16 ?_ (hc := (Cl.row (j := f.code) hs1 leA (fun _ => rfl) hth (by omega) 2 _ rfl))
     refine dd [17] ?_
     refine ldD 18 ?_
     refine dd [19] ?_
     refine XD.adr hsi (by rw [hlen2]; omega) (fun b2 o2 e2 => ?_)
     have hs2 := hsi; rw [e2] at hs2
     refine XD.know 33 (.slice (some ⟨b2, o2, none⟩) m.threads[f.code.toNat].ins.length m.threads[f.code.toNat].ic) rfl (by rw [e2]) ?_
     refine dd [20, 21] ?_
     refine ldD 22 ?_ (hc := (Cl.row (j := f.pc - 1) (sz := 4) hs2 leA (fun _ => rfl) hpc (by omega) 0 _ rfl))
     refine dd [23, 24] ?_
     refine XD.nil ?_
     refine X.part 41 rfl (fun h3 => ?_) (fun h3 => ?_)
     · skip
       replace h3 := sp h3
       refine xo 4 ?_
       refine stA ?_
       refine ox 2 ?_
       refine X.sb [7, 8, 6] ?_
       refine X.retL (q) Tryz.func23 (resC Tryz.results23 (ResOk.cell rfl (LV.agg Tryz.isAgg28 Tryz.sizeOf28 hasA rfl) (ResOk.tmp rfl ResOk.nil))) ⟨_, rfl, .inr ⟨fun k => absurd k.2.2 (by rw [hxe]; first | assumption | omega), rfl, rfl⟩⟩
     · skip
       replace h3 := sp h3
       refine xo 4 ?_
       refine ldA ?_
       refine stA ?_
       refine ox 2 ?_
       refine X.sb [7, 6] ?_
       refine X.retL (lsH I64 2 a2 c2 (f.stk ++ [z]) :: lsH I64 2 la lc (f.loc) :: q) Tryz.func23 (resC Tryz.results23 (ResOk.cell rfl (LV.agg Tryz.isAgg28 Tryz.sizeOf28 hasA rfl) (ResOk.tmp rfl ResOk.nil))) ⟨_, rfl, .inl ⟨⟨hm, by omega, by rw [hxe]; first | assumption | omega⟩, la, lc, a2, c2, rfl, rfl⟩⟩
theorem RV3_ok (hs : Sees q a (l.map I64)) (hs2 : Sees q b (l2.map I64)) (hL : l.length ≤ 9223372036854775807) (hL2 : l2.length ≤ 9223372036854775807) : CallF Tryz.prog G 21 [.slice a l.length c, .slice b l2.length d] (q) (Ret fun v q' => v = .bool (decide (l = l2)) ∧ q' = q) := by
 refine CallF.of Tryz.func21 Tryz.ntmps21 rfl (fun F cs => ?_)
 refine xx 13 ?_
 refine X.part 10 rfl (fun h0 => ?_) (fun h0 => ?_)
 · skip
   replace h0 := sp h0
   refine xx 5 ?_
   refine X.retL (q) Tryz.func21 (res1 Tryz.results21 rfl) ⟨_, rfl, congrArg Value.bool (by symm; rw [decide_eq_false_iff_not]; intro e; rw [e] at h0; exact h0 rfl), rfl⟩
 · skip
   replace h0 := sp h0; have hll : l.length = l2.length := by omega
   refine xx 8 ?_
   refine X.at (X.loop (fun (s : Nat × Option Addr × Option Addr) => s.1 ≤ l.length ∧ s.2.1 = a ∧ s.2.2 = b ∧ ∀ j (h : j < l.length) (h2 : j < l2.length), j < s.1 → l[j] = l2[j]) (fun s => [(5, .int .i64 (s.1 : Int)), (0, .slice s.2.1 l.length c), (1, .slice s.2.2 l2.length d), (4, .bool false)]) (fun s => (q ++ F)) (fun s => l.length - s.1) (fun s hi_ ih => ?_) (0, a, b) ⟨Nat.zero_le _, rfl, rfl, fun j _ _ k => absurd k (Nat.not_lt_zero j)⟩) subA leA
   try dsimp only at hi_ ih ⊢
   obtain ⟨hk, ha, hb, hP⟩ := hi_
   obtain ⟨k, a2, b2⟩ := s; dsimp only at *; subst ha; subst hb
   refine xx 8 ?_
   refine X.part 14 rfl (fun h0 => ?_) (fun h0 => ?_)
   · skip
     replace h0 := sp h0
     have hk1 : k < l.length := by omega
     have hk2 : k < l2.length := by omega
     refine X.adr hs (by simp; omega) (fun ba oa e1 => ?_); subst e1
     refine X.adr hs2 (by simp; omega) (fun bb ob e2 => ?_); subst e2
     refine xx 5 ?_
     refine drw ?_
     refine dd [0, 1, 2] ?_
     refine ldD 3 ?_ (hc := (Cl.e1 hs leA hk1 rfl))
     refine dd [4, 5, 6] ?_
     refine ldD 7 ?_ (hc := (Cl.e1 hs2 leA hk2 rfl))
     refine dd [8] ?_
     refine XD.nil ?_
     refine X.part 25 rfl (fun h1 => ?_) (fun h1 => ?_)
     · skip
       replace h1 := sp h1
       refine xx 5 ?_
       refine X.retL (q) Tryz.func21 (res1 Tryz.results21 rfl) ⟨_, rfl, congrArg Value.bool (by symm; rw [decide_eq_false_iff_not]; rintro rfl; exact absurd rfl h1), rfl⟩
     · skip
       replace h1 := sp h1
       refine xx 8 ?_
       refine X.sb [5, 0, 1, 4] ?_
       refine X.at (ih (k + 1, some ⟨ba, oa, none⟩, some ⟨bb, ob, none⟩) ⟨by dsimp only; omega, rfl, rfl, fun j g1 g2 g3 => by dsimp only at g3; rcases Nat.lt_or_ge j k with e | e; exact hP j g1 g2 e; obtain rfl : j = k := (by omega); exact h1⟩ (by dsimp only; omega)) subA leA
   · skip
     replace h0 := sp h0
     refine xx 6 ?_
     refine X.retL (q) Tryz.func21 (res1 Tryz.results21 rfl) ⟨_, rfl, congrArg Value.bool (by symm; rw [decide_eq_true_iff]; exact List.ext_getElem hll (fun j g1 g2 => hP j g1 g2 (by omega))), rfl⟩
set_option maxHeartbeats 32000000 in
theorem vmBegins_ok (gc : GC q) (g : GE q) (hq : MdlQ q m) (hf : FrmQ q f) : CallF Tryz.prog G 7 [.agg (mdlC m).toArray, .int .i64 th, .agg (frmC f ++ [Value.int .i64 z]).toArray] (q) (Ret fun v q' => v = .bool true ∧ q' = q) := by
 refine CallF.of Tryz.func7 Tryz.ntmps7 rfl (fun F cs => ?_)
 have hlen := flatMap_len (f := codC) (sz := 4) (fun _ => rfl) m.threads; have hnt := hq.nt
 refine xo 2 ?_
 refine XO.bx fun n1 => ?_
 refine XO.bx fun n2 => ?_
 refine oo 5 ?_
 refine ldA ?_
 refine oo 1 ?_
 refine ldA ?_
 refine XO.cX Tryz.call9 (Le.refl _) (large_ok (f := f) (cells := []) (hq.le leA) (hf.le leA) (Nat.zero_le _)) ?_
 rintro _ _ ⟨bb, rfl, hbb, rfl⟩
 refine ox 1 ?_
 refine X.part 19 rfl (fun h1 => ?_) (fun h1 => ?_)
 · skip
   replace h1 := sp h1
   refine xo 3 ?_
   refine XO.cR Tryz.call10 (known_ok (gc.le leA) (g.le leA)) ?_
   refine ox 2 ?_
   refine X.retL (q) Tryz.func7 (res1 Tryz.results7 rfl) ⟨_, rfl, by first | rfl | (simp; done), rfl⟩
 · skip
   replace h1 := sp h1
   refine xo 4 ?_
   refine ldA ?_
   refine oo 1 ?_
   have hbs := hbb (by simpa using h1)
   rcases Classical.em (vchk m = 0) with hv | hv
   · skip
     rcases Classical.em (0 ≤ th ∧ th.toNat < m.threads.length) with hn | hn
     · skip
       refine XO.cX Tryz.call18 (Le.refl _) (New_ok (th := th) (gc.le leA) (g.le leA) (hq.le leA)) ?_
       rintro _ _ (⟨hok, la, lc, rfl, rfl⟩ | ⟨hno, rfl, rfl⟩)
       rotate_left; · exact absurd ⟨hv, hn.1, hn.2⟩ hno
       refine oo 3 ?_
       refine XO.al Tryz.zeroValue28 fun n3 => ?_
       refine stA ?_
       refine oo 4 ?_
       refine ldA ?_
       refine XO.cX Tryz.call19 (Le.refl _) (Cells_ok (gc.le leA) (g.le leA) (hq.le leA)) ?_
       rintro _ _ (⟨hv2, ac, cc2, rfl, rfl⟩ | ⟨hv2, rfl, rfl⟩)
       rotate_left; · exact absurd hv hv2
       refine XO.lscap (fl := I64) (l := m.vars ++ List.replicate (sumI m.arrays).toNat 0) (fun hcc => ?_)
       have hsm := sumI_take_le (mdlOk_of hv) m.arrays.length; rw [List.take_length] at hsm; have hmv := (mdlOk_of hv).2.2.1.1
       have hcn : ((cntS m).toNat : Int) = cntS m := by unfold cntS; omega
       have hcc2 : m.vars.length ≤ cc2 := by rw [List.length_append] at hcc; omega
       refine oo 8 ?_
       refine ldA ?_
       refine XO.cR Tryz.call20 (RCheck7_ok (hq.le leA)) ?_
       refine ox 5 ?_
       refine X.sb [11, 10, 9, 8, 7, 6, 5, 3, 1] ?_
       refine drw ?_
       refine dd [0, 1, 2, 3, 4] ?_
       refine XD.know 39 (.bool false) rfl (congrArg Value.bool (by first | rfl | (simp; done) | (simp [hv]; done) | (simp [hv, hcn]; done) | (rw [hg3]; rfl) | (rw [beq_eq_false_iff_ne.2 gne]; rfl) | (simp; omega) | (simp [hv]; omega) | (rw [bne_eq_false_iff_eq]; simp only [List.length_replicate]; omega) | (rw [beq_iff_eq]; assumption) | (rw [beq_eq_false_iff_ne]; assumption) | (rw [bne_iff_ne]; omega) | (rw [bne_eq_false_iff_eq]; omega) | exact decide_eq_true (by omega) | exact decide_eq_false (by omega))) ?_
       refine dd [5, 6] ?_
       refine XD.know 41 (.bool true) rfl (congrArg Value.bool (by first | rfl | (simp; done) | (simp [hv]; done) | (simp [hv, hcn]; done) | (rw [hg3]; rfl) | (rw [beq_eq_false_iff_ne.2 gne]; rfl) | (simp; omega) | (simp [hv]; omega) | (rw [bne_eq_false_iff_eq]; simp only [List.length_replicate]; omega) | (rw [beq_iff_eq]; assumption) | (rw [beq_eq_false_iff_ne]; assumption) | (rw [bne_iff_ne]; omega) | (rw [bne_eq_false_iff_eq]; omega) | exact decide_eq_true (by omega) | exact decide_eq_false (by omega))) ?_
       refine dd [7, 8] ?_
       refine ldAD 9 ?_
       refine XD.cRL 10 Tryz.call15 (RCount_ok (hq.le leA) hv) ?_
       refine dd [11, 12] ?_
       refine XD.know 47 (.bool false) rfl (congrArg Value.bool (by first | rfl | (simp; done) | (simp [hv]; done) | (simp [hv, hcn]; done) | (rw [hg3]; rfl) | (rw [beq_eq_false_iff_ne.2 gne]; rfl) | (simp; omega) | (simp [hv]; omega) | (rw [bne_eq_false_iff_eq]; simp only [List.length_replicate]; omega) | (rw [beq_iff_eq]; assumption) | (rw [beq_eq_false_iff_ne]; assumption) | (rw [bne_iff_ne]; omega) | (rw [bne_eq_false_iff_eq]; omega) | exact decide_eq_true (by omega) | exact decide_eq_false (by omega))) ?_
       refine dd [13, 14] ?_
       refine ldD 15 ?_
       refine dd [16, 17, 18] ?_
       refine ldD 19 ?_
       refine XD.know 52 (.slice ac ((m.vars ++ List.replicate (sumI m.arrays).toNat 0).take m.vars.length).length cc2) rfl (by rw [List.take_left]; congr 1) ?_
       refine XD.cRL 20 Tryz.call21 (RV3_ok (l := (m.vars ++ List.replicate (sumI m.arrays).toNat 0).take m.vars.length) (l2 := m.vars) (Sees.takeB ((Sees.lsH _).le fndA) _) (hq.v.le leA) (by rw [List.take_left]; exact hq.nv) hq.nv) ?_ (hL := (hlA (h := by repeat first | exact trivial | refine ⟨clA, ?_⟩ | refine ⟨(Cl.row (j := th) hs1 leA (fun _ => rfl) hth (by omega) 1 _ rfl), ?_⟩ | refine ⟨(Cl.row (j := f.code) hs5 leA (fun _ => rfl) gth (by omega) 2 _ rfl), ?_⟩ | refine ⟨(Cl.row (j := f.pc - 1) (sz := 4) hs6 leA (fun _ => rfl) gpc (by omega) 0 _ rfl), ?_⟩)))
       refine XD.know 55 (.bool true) rfl (congrArg Value.bool (decide_eq_true (List.take_left ..))) ?_
       refine XD.pu 21 rfl (Pu.not rfl) ?_
       refine dd [22, 23, 24, 25] ?_
       refine XD.know 60 (.bool false) rfl (congrArg Value.bool (by first | rfl | (simp; done) | (simp [hv]; done) | (simp [hv, hcn]; done) | (rw [hg3]; rfl) | (rw [beq_eq_false_iff_ne.2 gne]; rfl) | (simp; omega) | (simp [hv]; omega) | (rw [bne_eq_false_iff_eq]; simp only [List.length_replicate]; omega) | (rw [beq_iff_eq]; assumption) | (rw [beq_eq_false_iff_ne]; assumption) | (rw [bne_iff_ne]; omega) | (rw [bne_eq_false_iff_eq]; omega) | exact decide_eq_true (by omega) | exact decide_eq_false (by omega))) ?_
       refine dd [26] ?_
       refine XD.pu 27 rfl (Pu.not rfl) ?_
       refine dd [28] ?_
       refine XD.know 63 (.bool false) rfl (congrArg Value.bool (by first | rfl | (simp; done) | (simp [hv]; done) | (simp [hv, hcn]; done) | (rw [hg3]; rfl) | (rw [beq_eq_false_iff_ne.2 gne]; rfl) | (simp; omega) | (simp [hv]; omega) | (rw [bne_eq_false_iff_eq]; simp only [List.length_replicate]; omega) | (rw [beq_iff_eq]; assumption) | (rw [beq_eq_false_iff_ne]; assumption) | (rw [bne_iff_ne]; omega) | (rw [bne_eq_false_iff_eq]; omega) | exact decide_eq_true (by omega) | exact decide_eq_false (by omega))) ?_
       refine dd [29, 30, 31, 32, 33] ?_
       refine XD.nil ?_
       refine xo 7 ?_
       refine XO.know 70 (.bool true) rfl (congrArg Value.bool (by first | rfl | (simp; done) | (simp [hv]; done) | (simp [hv, hcn]; done) | (rw [hg3]; rfl) | (rw [beq_eq_false_iff_ne.2 gne]; rfl) | (simp; omega) | (simp [hv]; omega) | (rw [bne_eq_false_iff_eq]; simp only [List.length_replicate]; omega) | (rw [beq_iff_eq]; assumption) | (rw [beq_eq_false_iff_ne]; assumption) | (rw [bne_iff_ne]; omega) | (rw [bne_eq_false_iff_eq]; omega) | exact decide_eq_true (by omega) | exact decide_eq_false (by omega))) ?_
       refine oo 4 ?_
       refine XO.know 74 (.bool true) rfl (congrArg Value.bool (by first | rfl | (simp; done) | (simp [hv]; done) | (simp [hv, hcn]; done) | (rw [hg3]; rfl) | (rw [beq_eq_false_iff_ne.2 gne]; rfl) | (simp; omega) | (simp [hv]; omega) | (rw [bne_eq_false_iff_eq]; simp only [List.length_replicate]; omega) | (rw [beq_iff_eq]; assumption) | (rw [beq_eq_false_iff_ne]; assumption) | (rw [bne_iff_ne]; omega) | (rw [bne_eq_false_iff_eq]; omega) | exact decide_eq_true (by omega) | exact decide_eq_false (by omega))) ?_
       refine oo 2 ?_
       refine ld ?_
       refine ox 4 ?_
       refine X.sb [80, 8, 7, 6, 5, 3, 1] ?_
       refine X.know 80 (.bool true) rfl (congrArg Value.bool (by first | rfl | (simp; done) | (simp [hv]; done) | (simp [hv, hcn]; done) | (rw [hg3]; rfl) | (rw [beq_eq_false_iff_ne.2 gne]; rfl) | (simp; omega) | (simp [hv]; omega) | (rw [bne_eq_false_iff_eq]; simp only [List.length_replicate]; omega) | (rw [beq_iff_eq]; assumption) | (rw [beq_eq_false_iff_ne]; assumption) | (rw [bne_iff_ne]; omega) | (rw [bne_eq_false_iff_eq]; omega) | exact decide_eq_true (by omega) | exact decide_eq_false (by omega))) ?_
       refine xx 2 ?_
       refine drw ?_
       refine dd [0, 1, 2] ?_
       refine XD.know 83 (.bool false) rfl (congrArg Value.bool (by first | rfl | (simp; done) | (simp [hv]; done) | (simp [hv, hcn]; done) | (rw [hg3]; rfl) | (rw [beq_eq_false_iff_ne.2 gne]; rfl) | (simp; omega) | (simp [hv]; omega) | (rw [bne_eq_false_iff_eq]; simp only [List.length_replicate]; omega) | (rw [beq_iff_eq]; assumption) | (rw [beq_eq_false_iff_ne]; assumption) | (rw [bne_iff_ne]; omega) | (rw [bne_eq_false_iff_eq]; omega) | exact decide_eq_true (by omega) | exact decide_eq_false (by omega))) ?_
       refine dd [3] ?_
       refine ldD 4 ?_
       refine dd [5, 6, 7, 8] ?_
       refine XD.know 89 (.bool false) rfl (congrArg Value.bool (by first | rfl | (simp; done) | (simp [hv]; done) | (simp [hv, hcn]; done) | (rw [hg3]; rfl) | (rw [beq_eq_false_iff_ne.2 gne]; rfl) | (simp; omega) | (simp [hv]; omega) | (rw [bne_eq_false_iff_eq]; simp only [List.length_replicate]; omega) | (rw [beq_iff_eq]; assumption) | (rw [beq_eq_false_iff_ne]; assumption) | (rw [bne_iff_ne]; omega) | (rw [bne_eq_false_iff_eq]; omega) | exact decide_eq_true (by omega) | exact decide_eq_false (by omega))) ?_
       refine dd [9] ?_
       refine ldD 10 ?_
       refine dd [11, 12, 13] ?_
       refine XD.know 94 (.bool false) rfl (congrArg Value.bool (by first | rfl | (simp; done) | (simp [hv]; done) | (simp [hv, hcn]; done) | (rw [hg3]; rfl) | (rw [beq_eq_false_iff_ne.2 gne]; rfl) | (simp; omega) | (simp [hv]; omega) | (rw [bne_eq_false_iff_eq]; simp only [List.length_replicate]; omega) | (rw [beq_iff_eq]; assumption) | (rw [beq_eq_false_iff_ne]; assumption) | (rw [bne_iff_ne]; omega) | (rw [bne_eq_false_iff_eq]; omega) | exact decide_eq_true (by omega) | exact decide_eq_false (by omega))) ?_
       refine dd [14] ?_
       refine ldD 15 ?_
       refine dd [16, 17] ?_
       refine ldD 18 ?_
       refine dd [19] ?_
       have hth := hn.2; have hnl : (List.replicate (m.threads[th.toNat]).locals.toNat (0 : Int)).length = (m.threads[th.toNat]).locals.toNat := List.length_replicate; have hco := (mdlOk_of hv).2.2.2.2.2.2 _ (List.getElem_mem hth); have hloc := hco.2.1; unfold within at hloc
       refine XD.adr hq.t (by rw [hlen]; omega) (fun b1 o1 e1 => ?_)
       have hs1 := hq.t; rw [e1] at hs1
       refine XD.know 99 (.slice (some ⟨b1, o1, none⟩) m.threads.length m.tc) rfl (by rw [e1]) ?_
       refine dd [20, 21] ?_
       refine ldD 22 ?_ (hc := (Cl.row (j := th) hs1 leA (fun _ => rfl) hth (by omega) 1 _ rfl))
       refine dd [23, 24, 25] ?_
       refine XD.know 106 (.bool false) rfl (congrArg Value.bool (by first | rfl | (simp; done) | (simp [hv]; done) | (simp [hv, hcn]; done) | (rw [hg3]; rfl) | (rw [beq_eq_false_iff_ne.2 gne]; rfl) | (simp; omega) | (simp [hv]; omega) | (rw [bne_eq_false_iff_eq]; simp only [List.length_replicate]; omega) | (rw [beq_iff_eq]; assumption) | (rw [beq_eq_false_iff_ne]; assumption) | (rw [bne_iff_ne]; omega) | (rw [bne_eq_false_iff_eq]; omega) | exact decide_eq_true (by omega) | exact decide_eq_false (by omega))) ?_
       refine dd [26] ?_
       refine ldD 27 ?_
       refine dd [28, 29, 30] ?_
       refine XD.nil ?_
       refine X.know 111 (.bool false) rfl (congrArg Value.bool (by first | rfl | (simp; done) | (simp [hv]; done) | (simp [hv, hcn]; done) | (rw [hg3]; rfl) | (rw [beq_eq_false_iff_ne.2 gne]; rfl) | (simp; omega) | (simp [hv]; omega) | (rw [bne_eq_false_iff_eq]; simp only [List.length_replicate]; omega) | (rw [beq_iff_eq]; assumption) | (rw [beq_eq_false_iff_ne]; assumption) | (rw [bne_iff_ne]; omega) | (rw [bne_eq_false_iff_eq]; omega) | exact decide_eq_true (by omega) | exact decide_eq_false (by omega))) ?_
       refine xo 4 ?_
       refine ldA ?_
       refine oo 1 ?_
       refine ldA ?_
       refine oo 1 ?_
       refine ld ?_
       have hv1 : m.vars.length ≤ 9223372036854775807 := hq.nv
       refine XO.cX Tryz.call23 (Le.refl _) (Give_ok (f := f) (z := z) (gc.le leA) (g.le leA) (hq.le leA) (hf.le leA) ⟨by omega, by omega⟩) ?_
       rintro _ _ (⟨hg, la3, lc3, sa3, sc3, rfl, rfl⟩ | ⟨hg, rfl, rfl⟩)
       · skip
         obtain ⟨hg1, hg2, hg3⟩ := hg; obtain ⟨hg4, hg5⟩ := mayS_push.1 hg1; obtain ⟨gm1, gm2, gth, gm3, gm4, gm5⟩ := id hg4; have hv3 : vals [z] := by intro n hn; rw [List.mem_singleton.1 hn]; exact hg5
         refine oo 3 ?_
         refine XO.al Tryz.zeroValue28 fun n4 => ?_
         refine stA ?_
         refine ox 3 ?_
         refine X.sb [13, 12, 6, 5, 3] ?_
         refine drw ?_
         refine ldAD 0 ?_
         refine dd [1] ?_
         refine ldAD 2 ?_
         refine XD.cX 3 Tryz.call24 (Le.refl _) (RMay_ok (f := f) (less := 1) (hq.le leA) (hf.le leA) (by omega) (by omega)) ?_
         rintro _ _ ⟨⟨b1, rfl, hb1⟩, rfl⟩
         refine ⟨trivial, ?_⟩
         obtain rfl : b1 = true := hb1.2 hg4
         refine dd [4] ?_
         refine XD.know 133 (.bool true) rfl (congrArg Value.bool (by first | rfl | (simp; done) | (simp [hv]; done) | (simp [hv, hcn]; done) | (rw [hg3]; rfl) | (rw [beq_eq_false_iff_ne.2 gne]; rfl) | (simp; omega) | (simp [hv]; omega) | (rw [bne_eq_false_iff_eq]; simp only [List.length_replicate]; omega) | (rw [beq_iff_eq]; assumption) | (rw [beq_eq_false_iff_ne]; assumption) | (rw [bne_iff_ne]; omega) | (rw [bne_eq_false_iff_eq]; omega) | exact decide_eq_true (by omega) | exact decide_eq_false (by omega))) ?_
         refine dd [5] ?_
         refine ldD 6 ?_
         refine XD.ef 7 rfl (Ef.litL I64 [z] Tryz.underlying22 Tryz.info2 rfl rfl rfl rfl rfl rfl (fun _ => rfl)) ?_
         rintro _ _ ⟨gz136, rfl, rfl⟩
         refine ⟨trivial, ?_⟩
         refine XD.cRL 8 Tryz.call13 (RValues_ok (l := [z]) ((Sees.lsH _).le fndA) (show 1 ≤ 9223372036854775807 by decide)) ?_
         refine dd [9, 10] ?_
         refine XD.know 139 (.bool true) rfl (congrArg Value.bool (by first | rfl | (simp; done) | (simp [hv]; done) | (simp [hv, hcn]; done) | (rw [hg3]; rfl) | (rw [beq_eq_false_iff_ne.2 gne]; rfl) | (simp; omega) | (simp [hv]; omega) | (rw [bne_eq_false_iff_eq]; simp only [List.length_replicate]; omega) | (rw [beq_iff_eq]; assumption) | (rw [beq_eq_false_iff_ne]; assumption) | (rw [bne_iff_ne]; omega) | (rw [bne_eq_false_iff_eq]; omega) | exact decide_eq_true (by omega) | exact decide_eq_false (by omega))) ?_
         refine dd [11, 12] ?_
         refine ldD 13 ?_
         refine dd [14, 15, 16] ?_
         refine XD.know 145 (.bool true) rfl (congrArg Value.bool (by first | rfl | (simp; done) | (simp [hv]; done) | (simp [hv, hcn]; done) | (rw [hg3]; rfl) | (rw [beq_eq_false_iff_ne.2 gne]; rfl) | (simp; omega) | (simp [hv]; omega) | (rw [bne_eq_false_iff_eq]; simp only [List.length_replicate]; omega) | (rw [beq_iff_eq]; assumption) | (rw [beq_eq_false_iff_ne]; assumption) | (rw [bne_iff_ne]; omega) | (rw [bne_eq_false_iff_eq]; omega) | exact decide_eq_true (by omega) | exact decide_eq_false (by omega))) ?_
         refine dd [17] ?_
         refine ldD 18 ?_
         refine dd [19, 20] ?_
         refine ldD 21 ?_
         have gpc : (f.pc - 1).toNat < m.threads[f.code.toNat].ins.length := (by omega); have gql := hq.x _ (List.getElem_mem gth); have gni := gql.ni; have gsi := gql.i; have glen := flatMap_len (f := insC) (sz := 4) (fun _ => rfl) m.threads[f.code.toNat].ins; have gp65 := (vOk gm1 gth).2.1
         have gxe : (thrAt m f.code).ins.getD (f.pc.toNat - 1) zIns = m.threads[f.code.toNat].ins[(f.pc - 1).toNat] := by rw [show thrAt m f.code = m.threads[f.code.toNat] from getD_lt gth, show f.pc.toNat - 1 = (f.pc - 1).toNat by omega]; exact getD_lt gpc
         rw [gxe] at hg3
         refine XD.adr hq.t (by rw [hlen]; omega) (fun b5 o5 e5 => ?_)
         have hs5 := hq.t; rw [e5] at hs5
         refine XD.know 147 (.slice (some ⟨b5, o5, none⟩) m.threads.length m.tc) rfl (by rw [e5]) ?_
         refine dd [22, 23] ?_
         refine ldD 24 ?_ (hc := (Cl.row (j := f.code) hs5 leA (fun _ => rfl) gth (by omega) 2 _ rfl))
         refine dd [25, 26] ?_
         refine ldD 27 ?_
         refine dd [28] ?_
         refine XD.adr gsi (by rw [glen]; omega) (fun b6 o6 e6 => ?_)
         have hs6 := gsi; rw [e6] at hs6
         refine XD.know 153 (.slice (some ⟨b6, o6, none⟩) m.threads[f.code.toNat].ins.length m.threads[f.code.toNat].ic) rfl (by rw [e6]) ?_
         refine dd [29, 30] ?_
         refine ldD 31 ?_ (hc := (Cl.row (j := f.pc - 1) (sz := 4) hs6 leA (fun _ => rfl) gpc (by omega) 0 _ rfl))
         refine dd [32, 33, 34] ?_
         refine XD.nil ?_
         refine xo 3 ?_
         refine ldA ?_
         refine XO.al Tryz.zeroValue28 fun n5 => ?_
         refine stA ?_
         refine ox 2 ?_
         refine X.sb [15, 14, 13, 12, 6, 5] ?_
         refine drw ?_
         refine dd [0, 1] ?_
         refine ldD 2 ?_
         refine dd [4] ?_
         refine ldD 5 ?_
         refine XD.le (q' := lsH I64 2 none 0 [] :: _) (Le.lsH_nil _ _ _) ?_
         refine XD.float (fl := [⟨6, 171, fun g => .slice (some ⟨g, 0, none⟩) 1 1, fun g => lsH I64 2 (some ⟨g, 0, none⟩) 1 [z]⟩]) ?_
         refine XF.ef 3 ⟨⟨_, rfl, rfl, rfl, rfl, rfl, rfl, fun q => Ef.litL I64 [z] Tryz.underlying22 Tryz.info2 rfl rfl rfl rfl rfl rfl (fun _ => rfl)⟩, trivial⟩ (Ef.appE (fe := I64) (l := []) (m := f.stk) Tryz.underlying22 Tryz.info2 rfl rfl rfl fndA (hf.s.le leA) (fun _ => rfl) (by simp; omega) (by simp; omega)) ?_
         rintro _ _ ⟨a7, c7, rfl, rfl⟩
         refine ⟨(hlA (h := by repeat first | exact trivial | refine ⟨clA, ?_⟩ | refine ⟨(Cl.row (j := th) hs1 leA (fun _ => rfl) hth (by omega) 1 _ rfl), ?_⟩ | refine ⟨(Cl.row (j := f.code) hs5 leA (fun _ => rfl) gth (by omega) 2 _ rfl), ?_⟩ | refine ⟨(Cl.row (j := f.pc - 1) (sz := 4) hs6 leA (fun _ => rfl) gpc (by omega) 0 _ rfl), ?_⟩)), ?_⟩
         refine XF.abs (e0 := ⟨6, 171, fun g => .slice (some ⟨g, 0, none⟩) 1 1, fun g => lsH I64 2 (some ⟨g, 0, none⟩) 1 [z]⟩) (hnd := by simp) 6 ⟨⟨_, rfl, rfl, rfl, rfl, rfl, rfl, fun q => Ef.litL I64 [z] Tryz.underlying22 Tryz.info2 rfl rfl rfl rfl rfl rfl (fun _ => rfl)⟩, trivial⟩ (fun gz171 => ?_) (hL := (hlA (h := by repeat first | exact trivial | refine ⟨clA, ?_⟩ | refine ⟨(Cl.row (j := th) hs1 leA (fun _ => rfl) hth (by omega) 1 _ rfl), ?_⟩ | refine ⟨(Cl.row (j := f.code) hs5 leA (fun _ => rfl) gth (by omega) 2 _ rfl), ?_⟩ | refine ⟨(Cl.row (j := f.pc - 1) (sz := 4) hs6 leA (fun _ => rfl) gpc (by omega) 0 _ rfl), ?_⟩)))
         change XF _ _ _ _ _ _ _ [] _ _ _ ((171, .slice (some ⟨gz171, 0, none⟩) 1 1) :: _) _ _ (lsH I64 2 (some ⟨gz171, 0, none⟩) 1 [z] :: _)
         refine XF.back ?_ (hL := (hlA (h := by repeat first | exact trivial | refine ⟨clA, ?_⟩ | refine ⟨(Cl.row (j := th) hs1 leA (fun _ => rfl) hth (by omega) 1 _ rfl), ?_⟩ | refine ⟨(Cl.row (j := f.code) hs5 leA (fun _ => rfl) gth (by omega) 2 _ rfl), ?_⟩ | refine ⟨(Cl.row (j := f.pc - 1) (sz := 4) hs6 leA (fun _ => rfl) gpc (by omega) 0 _ rfl), ?_⟩)))
         refine XD.ef 7 rfl (Ef.appA (f := I64) (l := [] ++ f.stk) (m := [z]) Tryz.underlying22 Tryz.info2 rfl rfl rfl fndA ((Sees.lsH _).le fndA) (fun _ => rfl) (by simp; omega) (by simp; omega)) ?_
         rintro _ _ ⟨a8, c8, rfl, rfl⟩
         refine ⟨(hlA (h := by repeat first | exact trivial | refine ⟨clA, ?_⟩ | refine ⟨(Cl.row (j := th) hs1 leA (fun _ => rfl) hth (by omega) 1 _ rfl), ?_⟩ | refine ⟨(Cl.row (j := f.code) hs5 leA (fun _ => rfl) gth (by omega) 2 _ rfl), ?_⟩ | refine ⟨(Cl.row (j := f.pc - 1) (sz := 4) hs6 leA (fun _ => rfl) gpc (by omega) 0 _ rfl), ?_⟩)), ?_⟩
         try rw [List.nil_append]
         refine dd [8] ?_
         refine stD 9 ?_
         refine XD.nil ?_
         refine xo 7 ?_
         refine XO.know 178 (.bool true) rfl (congrArg Value.bool (by first | rfl | (simp; done) | (simp [hv]; done) | (simp [hv, hcn]; done) | (rw [hg3]; rfl) | (rw [beq_eq_false_iff_ne.2 gne]; rfl) | (simp; omega) | (simp [hv]; omega) | (rw [bne_eq_false_iff_eq]; simp only [List.length_replicate]; omega) | (rw [beq_iff_eq]; assumption) | (rw [beq_eq_false_iff_ne]; assumption) | (rw [bne_iff_ne]; omega) | (rw [bne_eq_false_iff_eq]; omega) | exact decide_eq_true (by omega) | exact decide_eq_false (by omega))) ?_
         refine oo 1 ?_
         refine XO.pu (Pu.not rfl) ?_
         refine oo 1 ?_
         refine XO.know 181 (.bool false) rfl (congrArg Value.bool (by first | rfl | (simp; done) | (simp [hv]; done) | (simp [hv, hcn]; done) | (rw [hg3]; rfl) | (rw [beq_eq_false_iff_ne.2 gne]; rfl) | (simp; omega) | (simp [hv]; omega) | (rw [bne_eq_false_iff_eq]; simp only [List.length_replicate]; omega) | (rw [beq_iff_eq]; assumption) | (rw [beq_eq_false_iff_ne]; assumption) | (rw [bne_iff_ne]; omega) | (rw [bne_eq_false_iff_eq]; omega) | exact decide_eq_true (by omega) | exact decide_eq_false (by omega))) ?_
         refine oo 7 ?_
         refine XO.know 188 (.bool true) rfl (congrArg Value.bool (by first | rfl | (simp; done) | (simp [hv]; done) | (simp [hv, hcn]; done) | (rw [hg3]; rfl) | (rw [beq_eq_false_iff_ne.2 gne]; rfl) | (simp; omega) | (simp [hv]; omega) | (rw [bne_eq_false_iff_eq]; simp only [List.length_replicate]; omega) | (rw [beq_iff_eq]; assumption) | (rw [beq_eq_false_iff_ne]; assumption) | (rw [bne_iff_ne]; omega) | (rw [bne_eq_false_iff_eq]; omega) | exact decide_eq_true (by omega) | exact decide_eq_false (by omega))) ?_
         refine ldA ?_
         refine ldA ?_
         refine XO.cR Tryz.call22 (Same_ok (f := ⟨f.code, f.pc, f.loc, f.stk ++ [z], la3, lc3, sa3, sc3⟩) (f2 := ⟨f.code, f.pc, f.loc, f.stk ++ [z], f.la, f.lc, a8, c8⟩) ⟨(Sees.lsH _).le fndA, (Sees.lsH _).le fndA, hf.nl, (by simp; omega)⟩ ⟨hf.l.le leA, (Sees.lsH _).le fndA, hf.nl, (by simp; omega)⟩) ?_
         refine XO.know 191 (.bool true) rfl (congrArg Value.bool (decide_eq_true ⟨rfl, rfl, rfl, rfl⟩)) ?_
         refine oo 4 ?_
         refine XO.cR Tryz.call10 (known_ok (gc.le leA) (g.le leA)) ?_
         refine XO.pu (Pu.pick rfl rfl rfl) ?_
         refine ox 2 ?_
         refine X.sb [6] ?_
         refine X.retL (q) Tryz.func7 (res1 Tryz.results7 rfl) ⟨_, rfl, by first | rfl | (simp; done), rfl⟩
       · skip
         refine oo 3 ?_
         refine XO.al Tryz.zeroValue28 fun n6 => ?_
         refine stA ?_
         refine ox 3 ?_
         refine X.sb [13, 12, 6, 5, 3] ?_
         refine drw ?_
         refine ldAD 0 ?_
         refine dd [1] ?_
         refine ldAD 2 ?_
         refine XD.cX 3 Tryz.call24 (Le.refl _) (RMay_ok (f := f) (less := 1) (hq.le leA) (hf.le leA) (by omega) (by omega)) ?_
         rintro _ _ ⟨⟨b1, rfl, hb1⟩, rfl⟩
         refine ⟨trivial, ?_⟩
         refine dd [4] ?_
         refine XD.part 133 rfl (fun k3 => ?_) (fun k3 => ?_)
         · skip
           replace k3 := sp k3
           refine dd [5] ?_
           refine ldD 6 ?_
           refine XD.ef 7 rfl (Ef.litL I64 [z] Tryz.underlying22 Tryz.info2 rfl rfl rfl rfl rfl rfl (fun _ => rfl)) ?_
           rintro _ _ ⟨gz136, rfl, rfl⟩
           refine ⟨trivial, ?_⟩
           refine XD.cRL 8 Tryz.call13 (RValues_ok (l := [z]) ((Sees.lsH _).le fndA) (show 1 ≤ 9223372036854775807 by decide)) ?_
           refine dd [9, 10] ?_
           refine XD.part 139 rfl (fun k4 => ?_) (fun k4 => ?_)
           · skip
             replace k4 := sp k4
             refine dd [11, 12] ?_
             refine ldD 13 ?_
             refine dd [14, 15, 16] ?_
             refine XD.part 145 rfl (fun k5 => ?_) (fun k5 => ?_)
             · skip
               replace k5 := sp k5
               refine dd [17] ?_
               refine ldD 18 ?_
               refine dd [19, 20] ?_
               refine ldD 21 ?_
               have hmf := hb1.1 (by assumption); obtain ⟨gm1, gm2, gth, gm3, gm4, gm5⟩ := id hmf
               have gpc : (f.pc - 1).toNat < m.threads[f.code.toNat].ins.length := (by omega); have gql := hq.x _ (List.getElem_mem gth); have gni := gql.ni; have gsi := gql.i; have glen := flatMap_len (f := insC) (sz := 4) (fun _ => rfl) m.threads[f.code.toNat].ins; have gp65 := (vOk gm1 gth).2.1
               have gxe : (thrAt m f.code).ins.getD (f.pc.toNat - 1) zIns = m.threads[f.code.toNat].ins[(f.pc - 1).toNat] := by rw [show thrAt m f.code = m.threads[f.code.toNat] from getD_lt gth, show f.pc.toNat - 1 = (f.pc - 1).toNat by omega]; exact getD_lt gpc
               have gne : m.threads[f.code.toNat].ins[(f.pc - 1).toNat].c ≠ 30 := fun h => hg ⟨mayS_push.2 ⟨hmf, by have h5 : vals [z] := (by assumption); exact h5 z (List.mem_singleton.2 rfl)⟩, by omega, by rw [gxe]; exact h⟩
               refine XD.adr hq.t (by rw [hlen]; omega) (fun b5 o5 e5 => ?_)
               have hs5 := hq.t; rw [e5] at hs5
               refine XD.know 147 (.slice (some ⟨b5, o5, none⟩) m.threads.length m.tc) rfl (by rw [e5]) ?_
               refine dd [22, 23] ?_
               refine ldD 24 ?_ (hc := (Cl.row (j := f.code) hs5 leA (fun _ => rfl) gth (by omega) 2 _ rfl))
               refine dd [25, 26] ?_
               refine ldD 27 ?_
               refine dd [28] ?_
               refine XD.adr gsi (by rw [glen]; omega) (fun b6 o6 e6 => ?_)
               have hs6 := gsi; rw [e6] at hs6
               refine XD.know 153 (.slice (some ⟨b6, o6, none⟩) m.threads[f.code.toNat].ins.length m.threads[f.code.toNat].ic) rfl (by rw [e6]) ?_
               refine dd [29, 30] ?_
               refine ldD 31 ?_ (hc := (Cl.row (j := f.pc - 1) (sz := 4) hs6 leA (fun _ => rfl) gpc (by omega) 0 _ rfl))
               refine dd [32, 33, 34] ?_
               refine XD.nil ?_
               refine xo 3 ?_
               refine ldA ?_
               refine XO.al Tryz.zeroValue28 fun n7 => ?_
               refine stA ?_
               refine ox 2 ?_
               refine X.sb [15, 14, 13, 12, 6, 5] ?_
               refine drw ?_
               refine dd [0, 1] ?_
               refine ldD 2 ?_
               refine dd [4] ?_
               refine ldD 5 ?_
               refine XD.le (q' := lsH I64 2 none 0 [] :: _) (Le.lsH_nil _ _ _) ?_
               refine XD.float (fl := [⟨6, 171, fun g => .slice (some ⟨g, 0, none⟩) 1 1, fun g => lsH I64 2 (some ⟨g, 0, none⟩) 1 [z]⟩]) ?_
               refine XF.ef 3 ⟨⟨_, rfl, rfl, rfl, rfl, rfl, rfl, fun q => Ef.litL I64 [z] Tryz.underlying22 Tryz.info2 rfl rfl rfl rfl rfl rfl (fun _ => rfl)⟩, trivial⟩ (Ef.appE (fe := I64) (l := []) (m := f.stk) Tryz.underlying22 Tryz.info2 rfl rfl rfl fndA (hf.s.le leA) (fun _ => rfl) (by simp; omega) (by simp; omega)) ?_
               rintro _ _ ⟨a7, c7, rfl, rfl⟩
               refine ⟨(hlA (h := by repeat first | exact trivial | refine ⟨clA, ?_⟩ | refine ⟨(Cl.row (j := th) hs1 leA (fun _ => rfl) hth (by omega) 1 _ rfl), ?_⟩ | refine ⟨(Cl.row (j := f.code) hs5 leA (fun _ => rfl) gth (by omega) 2 _ rfl), ?_⟩ | refine ⟨(Cl.row (j := f.pc - 1) (sz := 4) hs6 leA (fun _ => rfl) gpc (by omega) 0 _ rfl), ?_⟩)), ?_⟩
               refine XF.abs (e0 := ⟨6, 171, fun g => .slice (some ⟨g, 0, none⟩) 1 1, fun g => lsH I64 2 (some ⟨g, 0, none⟩) 1 [z]⟩) (hnd := by simp) 6 ⟨⟨_, rfl, rfl, rfl, rfl, rfl, rfl, fun q => Ef.litL I64 [z] Tryz.underlying22 Tryz.info2 rfl rfl rfl rfl rfl rfl (fun _ => rfl)⟩, trivial⟩ (fun gz171 => ?_) (hL := (hlA (h := by repeat first | exact trivial | refine ⟨clA, ?_⟩ | refine ⟨(Cl.row (j := th) hs1 leA (fun _ => rfl) hth (by omega) 1 _ rfl), ?_⟩ | refine ⟨(Cl.row (j := f.code) hs5 leA (fun _ => rfl) gth (by omega) 2 _ rfl), ?_⟩ | refine ⟨(Cl.row (j := f.pc - 1) (sz := 4) hs6 leA (fun _ => rfl) gpc (by omega) 0 _ rfl), ?_⟩)))
               change XF _ _ _ _ _ _ _ [] _ _ _ ((171, .slice (some ⟨gz171, 0, none⟩) 1 1) :: _) _ _ (lsH I64 2 (some ⟨gz171, 0, none⟩) 1 [z] :: _)
               refine XF.back ?_ (hL := (hlA (h := by repeat first | exact trivial | refine ⟨clA, ?_⟩ | refine ⟨(Cl.row (j := th) hs1 leA (fun _ => rfl) hth (by omega) 1 _ rfl), ?_⟩ | refine ⟨(Cl.row (j := f.code) hs5 leA (fun _ => rfl) gth (by omega) 2 _ rfl), ?_⟩ | refine ⟨(Cl.row (j := f.pc - 1) (sz := 4) hs6 leA (fun _ => rfl) gpc (by omega) 0 _ rfl), ?_⟩)))
               refine XD.ef 7 rfl (Ef.appA (f := I64) (l := [] ++ f.stk) (m := [z]) Tryz.underlying22 Tryz.info2 rfl rfl rfl fndA ((Sees.lsH _).le fndA) (fun _ => rfl) (by simp; omega) (by simp; omega)) ?_
               rintro _ _ ⟨a8, c8, rfl, rfl⟩
               refine ⟨(hlA (h := by repeat first | exact trivial | refine ⟨clA, ?_⟩ | refine ⟨(Cl.row (j := th) hs1 leA (fun _ => rfl) hth (by omega) 1 _ rfl), ?_⟩ | refine ⟨(Cl.row (j := f.code) hs5 leA (fun _ => rfl) gth (by omega) 2 _ rfl), ?_⟩ | refine ⟨(Cl.row (j := f.pc - 1) (sz := 4) hs6 leA (fun _ => rfl) gpc (by omega) 0 _ rfl), ?_⟩)), ?_⟩
               try rw [List.nil_append]
               refine dd [8] ?_
               refine stD 9 ?_
               refine XD.nil ?_
               refine xo 7 ?_
               refine XO.know 178 (.bool true) rfl (congrArg Value.bool (by first | rfl | (simp; done) | (simp [hv]; done) | (simp [hv, hcn]; done) | (rw [hg3]; rfl) | (rw [beq_eq_false_iff_ne.2 gne]; rfl) | (simp; omega) | (simp [hv]; omega) | (rw [bne_eq_false_iff_eq]; simp only [List.length_replicate]; omega) | (rw [beq_iff_eq]; assumption) | (rw [beq_eq_false_iff_ne]; assumption) | (rw [bne_iff_ne]; omega) | (rw [bne_eq_false_iff_eq]; omega) | exact decide_eq_true (by omega) | exact decide_eq_false (by omega))) ?_
               refine oo 1 ?_
               refine XO.pu (Pu.not rfl) ?_
               refine oo 1 ?_
               refine XO.know 181 (.bool true) rfl (congrArg Value.bool (by first | rfl | (simp; done) | (simp [hv]; done) | (simp [hv, hcn]; done) | (rw [hg3]; rfl) | (rw [beq_eq_false_iff_ne.2 gne]; rfl) | (simp; omega) | (simp [hv]; omega) | (rw [bne_eq_false_iff_eq]; simp only [List.length_replicate]; omega) | (rw [beq_iff_eq]; assumption) | (rw [beq_eq_false_iff_ne]; assumption) | (rw [bne_iff_ne]; omega) | (rw [bne_eq_false_iff_eq]; omega) | exact decide_eq_true (by omega) | exact decide_eq_false (by omega))) ?_
               refine ldA ?_
               refine oo 1 ?_
               refine XO.cR Tryz.call22 (Same_ok (f := zFrm) (f2 := zFrm) ⟨Sees.nil _ _, Sees.nil _ _, Nat.zero_le _, Nat.zero_le _⟩ ⟨Sees.nil _ _, Sees.nil _ _, Nat.zero_le _, Nat.zero_le _⟩) ?_
               refine XO.know 184 (.bool true) rfl (congrArg Value.bool (decide_eq_true ⟨rfl, rfl, rfl, rfl⟩)) ?_
               refine oo 2 ?_
               refine XO.know 186 (.bool true) rfl (congrArg Value.bool (by first | rfl | (simp; done) | (simp [hv]; done) | (simp [hv, hcn]; done) | (rw [hg3]; rfl) | (rw [beq_eq_false_iff_ne.2 gne]; rfl) | (simp; omega) | (simp [hv]; omega) | (rw [bne_eq_false_iff_eq]; simp only [List.length_replicate]; omega) | (rw [beq_iff_eq]; assumption) | (rw [beq_eq_false_iff_ne]; assumption) | (rw [bne_iff_ne]; omega) | (rw [bne_eq_false_iff_eq]; omega) | exact decide_eq_true (by omega) | exact decide_eq_false (by omega))) ?_
               refine oo 9 ?_
               refine XO.cR Tryz.call10 (known_ok (gc.le leA) (g.le leA)) ?_
               refine ox 3 ?_
               refine X.sb [6] ?_
               refine X.retL (q) Tryz.func7 (res1 Tryz.results7 rfl) ⟨_, rfl, by first | rfl | (simp; done), rfl⟩
             · skip
               replace k5 := sp k5
               refine dd [17, 18, 19, 20, 21, 22, 23, 24, 25, 26, 27, 28, 29, 30, 31, 32, 33, 34] ?_
               refine XD.nil ?_
               refine xo 3 ?_
               refine ldA ?_
               refine XO.al Tryz.zeroValue28 fun n8 => ?_
               refine stA ?_
               refine ox 2 ?_
               refine X.sb [15, 14, 13, 12, 6, 5] ?_
               refine drw ?_
               refine dd [0, 1] ?_
               refine ldD 2 ?_
               refine dd [4] ?_
               refine ldD 5 ?_
               refine XD.le (q' := lsH I64 2 none 0 [] :: _) (Le.lsH_nil _ _ _) ?_
               refine XD.float (fl := [⟨6, 171, fun g => .slice (some ⟨g, 0, none⟩) 1 1, fun g => lsH I64 2 (some ⟨g, 0, none⟩) 1 [z]⟩]) ?_
               refine XF.ef 3 ⟨⟨_, rfl, rfl, rfl, rfl, rfl, rfl, fun q => Ef.litL I64 [z] Tryz.underlying22 Tryz.info2 rfl rfl rfl rfl rfl rfl (fun _ => rfl)⟩, trivial⟩ (Ef.appE (fe := I64) (l := []) (m := f.stk) Tryz.underlying22 Tryz.info2 rfl rfl rfl fndA (hf.s.le leA) (fun _ => rfl) (by simp; omega) (by simp; omega)) ?_
               rintro _ _ ⟨a7, c7, rfl, rfl⟩
               refine ⟨(hlA (h := by repeat first | exact trivial | refine ⟨clA, ?_⟩ | refine ⟨(Cl.row (j := th) hs1 leA (fun _ => rfl) hth (by omega) 1 _ rfl), ?_⟩ | refine ⟨(Cl.row (j := f.code) hs5 leA (fun _ => rfl) gth (by omega) 2 _ rfl), ?_⟩ | refine ⟨(Cl.row (j := f.pc - 1) (sz := 4) hs6 leA (fun _ => rfl) gpc (by omega) 0 _ rfl), ?_⟩)), ?_⟩
               refine XF.abs (e0 := ⟨6, 171, fun g => .slice (some ⟨g, 0, none⟩) 1 1, fun g => lsH I64 2 (some ⟨g, 0, none⟩) 1 [z]⟩) (hnd := by simp) 6 ⟨⟨_, rfl, rfl, rfl, rfl, rfl, rfl, fun q => Ef.litL I64 [z] Tryz.underlying22 Tryz.info2 rfl rfl rfl rfl rfl rfl (fun _ => rfl)⟩, trivial⟩ (fun gz171 => ?_) (hL := (hlA (h := by repeat first | exact trivial | refine ⟨clA, ?_⟩ | refine ⟨(Cl.row (j := th) hs1 leA (fun _ => rfl) hth (by omega) 1 _ rfl), ?_⟩ | refine ⟨(Cl.row (j := f.code) hs5 leA (fun _ => rfl) gth (by omega) 2 _ rfl), ?_⟩ | refine ⟨(Cl.row (j := f.pc - 1) (sz := 4) hs6 leA (fun _ => rfl) gpc (by omega) 0 _ rfl), ?_⟩)))
               change XF _ _ _ _ _ _ _ [] _ _ _ ((171, .slice (some ⟨gz171, 0, none⟩) 1 1) :: _) _ _ (lsH I64 2 (some ⟨gz171, 0, none⟩) 1 [z] :: _)
               refine XF.back ?_ (hL := (hlA (h := by repeat first | exact trivial | refine ⟨clA, ?_⟩ | refine ⟨(Cl.row (j := th) hs1 leA (fun _ => rfl) hth (by omega) 1 _ rfl), ?_⟩ | refine ⟨(Cl.row (j := f.code) hs5 leA (fun _ => rfl) gth (by omega) 2 _ rfl), ?_⟩ | refine ⟨(Cl.row (j := f.pc - 1) (sz := 4) hs6 leA (fun _ => rfl) gpc (by omega) 0 _ rfl), ?_⟩)))
               refine XD.ef 7 rfl (Ef.appA (f := I64) (l := [] ++ f.stk) (m := [z]) Tryz.underlying22 Tryz.info2 rfl rfl rfl fndA ((Sees.lsH _).le fndA) (fun _ => rfl) (by simp; omega) (by simp; omega)) ?_
               rintro _ _ ⟨a8, c8, rfl, rfl⟩
               refine ⟨(hlA (h := by repeat first | exact trivial | refine ⟨clA, ?_⟩ | refine ⟨(Cl.row (j := th) hs1 leA (fun _ => rfl) hth (by omega) 1 _ rfl), ?_⟩ | refine ⟨(Cl.row (j := f.code) hs5 leA (fun _ => rfl) gth (by omega) 2 _ rfl), ?_⟩ | refine ⟨(Cl.row (j := f.pc - 1) (sz := 4) hs6 leA (fun _ => rfl) gpc (by omega) 0 _ rfl), ?_⟩)), ?_⟩
               try rw [List.nil_append]
               refine dd [8] ?_
               refine stD 9 ?_
               refine XD.nil ?_
               refine xo 7 ?_
               refine XO.know 178 (.bool true) rfl (congrArg Value.bool (by first | rfl | (simp; done) | (simp [hv]; done) | (simp [hv, hcn]; done) | (rw [hg3]; rfl) | (rw [beq_eq_false_iff_ne.2 gne]; rfl) | (simp; omega) | (simp [hv]; omega) | (rw [bne_eq_false_iff_eq]; simp only [List.length_replicate]; omega) | (rw [beq_iff_eq]; assumption) | (rw [beq_eq_false_iff_ne]; assumption) | (rw [bne_iff_ne]; omega) | (rw [bne_eq_false_iff_eq]; omega) | exact decide_eq_true (by omega) | exact decide_eq_false (by omega))) ?_
               refine oo 3 ?_
               refine ldA ?_
               refine oo 1 ?_
               refine XO.cR Tryz.call22 (Same_ok (f := zFrm) (f2 := zFrm) ⟨Sees.nil _ _, Sees.nil _ _, Nat.zero_le _, Nat.zero_le _⟩ ⟨Sees.nil _ _, Sees.nil _ _, Nat.zero_le _, Nat.zero_le _⟩) ?_
               refine XO.know 184 (.bool true) rfl (congrArg Value.bool (decide_eq_true ⟨rfl, rfl, rfl, rfl⟩)) ?_
               refine oo 2 ?_
               refine XO.know 186 (.bool true) rfl (congrArg Value.bool (by first | rfl | (simp; done) | (simp [hv]; done) | (simp [hv, hcn]; done) | (rw [hg3]; rfl) | (rw [beq_eq_false_iff_ne.2 gne]; rfl) | (simp; omega) | (simp [hv]; omega) | (rw [bne_eq_false_iff_eq]; simp only [List.length_replicate]; omega) | (rw [beq_iff_eq]; assumption) | (rw [beq_eq_false_iff_ne]; assumption) | (rw [bne_iff_ne]; omega) | (rw [bne_eq_false_iff_eq]; omega) | exact decide_eq_true (by omega) | exact decide_eq_false (by omega))) ?_
               refine oo 9 ?_
               refine XO.cR Tryz.call10 (known_ok (gc.le leA) (g.le leA)) ?_
               refine ox 3 ?_
               refine X.sb [6] ?_
               refine X.retL (q) Tryz.func7 (res1 Tryz.results7 rfl) ⟨_, rfl, by first | rfl | (simp; done), rfl⟩
           · skip
             replace k4 := sp k4
             refine dd [11, 12, 13, 14, 15, 16, 17, 18, 19, 20, 21, 22, 23, 24, 25, 26, 27, 28, 29, 30, 31, 32, 33, 34] ?_
             refine XD.nil ?_
             refine xo 3 ?_
             refine ldA ?_
             refine XO.al Tryz.zeroValue28 fun n9 => ?_
             refine stA ?_
             refine ox 2 ?_
             refine X.sb [15, 14, 13, 12, 6, 5] ?_
             refine drw ?_
             refine dd [0, 1] ?_
             refine ldD 2 ?_
             refine dd [4] ?_
             refine ldD 5 ?_
             refine XD.le (q' := lsH I64 2 none 0 [] :: _) (Le.lsH_nil _ _ _) ?_
             refine XD.float (fl := [⟨6, 171, fun g => .slice (some ⟨g, 0, none⟩) 1 1, fun g => lsH I64 2 (some ⟨g, 0, none⟩) 1 [z]⟩]) ?_
             refine XF.ef 3 ⟨⟨_, rfl, rfl, rfl, rfl, rfl, rfl, fun q => Ef.litL I64 [z] Tryz.underlying22 Tryz.info2 rfl rfl rfl rfl rfl rfl (fun _ => rfl)⟩, trivial⟩ (Ef.appE (fe := I64) (l := []) (m := f.stk) Tryz.underlying22 Tryz.info2 rfl rfl rfl fndA (hf.s.le leA) (fun _ => rfl) (by simp; omega) (by simp; omega)) ?_
             rintro _ _ ⟨a7, c7, rfl, rfl⟩
             refine ⟨(hlA (h := by repeat first | exact trivial | refine ⟨clA, ?_⟩ | refine ⟨(Cl.row (j := th) hs1 leA (fun _ => rfl) hth (by omega) 1 _ rfl), ?_⟩ | refine ⟨(Cl.row (j := f.code) hs5 leA (fun _ => rfl) gth (by omega) 2 _ rfl), ?_⟩ | refine ⟨(Cl.row (j := f.pc - 1) (sz := 4) hs6 leA (fun _ => rfl) gpc (by omega) 0 _ rfl), ?_⟩)), ?_⟩
             refine XF.abs (e0 := ⟨6, 171, fun g => .slice (some ⟨g, 0, none⟩) 1 1, fun g => lsH I64 2 (some ⟨g, 0, none⟩) 1 [z]⟩) (hnd := by simp) 6 ⟨⟨_, rfl, rfl, rfl, rfl, rfl, rfl, fun q => Ef.litL I64 [z] Tryz.underlying22 Tryz.info2 rfl rfl rfl rfl rfl rfl (fun _ => rfl)⟩, trivial⟩ (fun gz171 => ?_) (hL := (hlA (h := by repeat first | exact trivial | refine ⟨clA, ?_⟩ | refine ⟨(Cl.row (j := th) hs1 leA (fun _ => rfl) hth (by omega) 1 _ rfl), ?_⟩ | refine ⟨(Cl.row (j := f.code) hs5 leA (fun _ => rfl) gth (by omega) 2 _ rfl), ?_⟩ | refine ⟨(Cl.row (j := f.pc - 1) (sz := 4) hs6 leA (fun _ => rfl) gpc (by omega) 0 _ rfl), ?_⟩)))
             change XF _ _ _ _ _ _ _ [] _ _ _ ((171, .slice (some ⟨gz171, 0, none⟩) 1 1) :: _) _ _ (lsH I64 2 (some ⟨gz171, 0, none⟩) 1 [z] :: _)
             refine XF.back ?_ (hL := (hlA (h := by repeat first | exact trivial | refine ⟨clA, ?_⟩ | refine ⟨(Cl.row (j := th) hs1 leA (fun _ => rfl) hth (by omega) 1 _ rfl), ?_⟩ | refine ⟨(Cl.row (j := f.code) hs5 leA (fun _ => rfl) gth (by omega) 2 _ rfl), ?_⟩ | refine ⟨(Cl.row (j := f.pc - 1) (sz := 4) hs6 leA (fun _ => rfl) gpc (by omega) 0 _ rfl), ?_⟩)))
             refine XD.ef 7 rfl (Ef.appA (f := I64) (l := [] ++ f.stk) (m := [z]) Tryz.underlying22 Tryz.info2 rfl rfl rfl fndA ((Sees.lsH _).le fndA) (fun _ => rfl) (by simp; omega) (by simp; omega)) ?_
             rintro _ _ ⟨a8, c8, rfl, rfl⟩
             refine ⟨(hlA (h := by repeat first | exact trivial | refine ⟨clA, ?_⟩ | refine ⟨(Cl.row (j := th) hs1 leA (fun _ => rfl) hth (by omega) 1 _ rfl), ?_⟩ | refine ⟨(Cl.row (j := f.code) hs5 leA (fun _ => rfl) gth (by omega) 2 _ rfl), ?_⟩ | refine ⟨(Cl.row (j := f.pc - 1) (sz := 4) hs6 leA (fun _ => rfl) gpc (by omega) 0 _ rfl), ?_⟩)), ?_⟩
             try rw [List.nil_append]
             refine dd [8] ?_
             refine stD 9 ?_
             refine XD.nil ?_
             refine xo 7 ?_
             refine XO.know 178 (.bool true) rfl (congrArg Value.bool (by first | rfl | (simp; done) | (simp [hv]; done) | (simp [hv, hcn]; done) | (rw [hg3]; rfl) | (rw [beq_eq_false_iff_ne.2 gne]; rfl) | (simp; omega) | (simp [hv]; omega) | (rw [bne_eq_false_iff_eq]; simp only [List.length_replicate]; omega) | (rw [beq_iff_eq]; assumption) | (rw [beq_eq_false_iff_ne]; assumption) | (rw [bne_iff_ne]; omega) | (rw [bne_eq_false_iff_eq]; omega) | exact decide_eq_true (by omega) | exact decide_eq_false (by omega))) ?_
             refine oo 3 ?_
             refine ldA ?_
             refine oo 1 ?_
             refine XO.cR Tryz.call22 (Same_ok (f := zFrm) (f2 := zFrm) ⟨Sees.nil _ _, Sees.nil _ _, Nat.zero_le _, Nat.zero_le _⟩ ⟨Sees.nil _ _, Sees.nil _ _, Nat.zero_le _, Nat.zero_le _⟩) ?_
             refine XO.know 184 (.bool true) rfl (congrArg Value.bool (decide_eq_true ⟨rfl, rfl, rfl, rfl⟩)) ?_
             refine oo 2 ?_
             refine XO.know 186 (.bool true) rfl (congrArg Value.bool (by first | rfl | (simp; done) | (simp [hv]; done) | (simp [hv, hcn]; done) | (rw [hg3]; rfl) | (rw [beq_eq_false_iff_ne.2 gne]; rfl) | (simp; omega) | (simp [hv]; omega) | (rw [bne_eq_false_iff_eq]; simp only [List.length_replicate]; omega) | (rw [beq_iff_eq]; assumption) | (rw [beq_eq_false_iff_ne]; assumption) | (rw [bne_iff_ne]; omega) | (rw [bne_eq_false_iff_eq]; omega) | exact decide_eq_true (by omega) | exact decide_eq_false (by omega))) ?_
             refine oo 9 ?_
             refine XO.cR Tryz.call10 (known_ok (gc.le leA) (g.le leA)) ?_
             refine ox 3 ?_
             refine X.sb [6] ?_
             refine X.retL (q) Tryz.func7 (res1 Tryz.results7 rfl) ⟨_, rfl, by first | rfl | (simp; done), rfl⟩
         · skip
           replace k3 := sp k3
           refine dd [5, 6, 7, 8, 9, 10, 11, 12, 13, 14, 15, 16, 17, 18, 19, 20, 21, 22, 23, 24, 25, 26, 27, 28, 29, 30, 31, 32, 33, 34] ?_
           refine XD.nil ?_
           refine xo 3 ?_
           refine ldA ?_
           refine XO.al Tryz.zeroValue28 fun n10 => ?_
           refine stA ?_
           refine ox 2 ?_
           refine X.sb [15, 14, 13, 12, 6, 5] ?_
           refine drw ?_
           refine dd [0, 1] ?_
           refine ldD 2 ?_
           refine dd [4] ?_
           refine ldD 5 ?_
           refine XD.le (q' := lsH I64 2 none 0 [] :: _) (Le.lsH_nil _ _ _) ?_
           refine XD.float (fl := [⟨6, 171, fun g => .slice (some ⟨g, 0, none⟩) 1 1, fun g => lsH I64 2 (some ⟨g, 0, none⟩) 1 [z]⟩]) ?_
           refine XF.ef 3 ⟨⟨_, rfl, rfl, rfl, rfl, rfl, rfl, fun q => Ef.litL I64 [z] Tryz.underlying22 Tryz.info2 rfl rfl rfl rfl rfl rfl (fun _ => rfl)⟩, trivial⟩ (Ef.appE (fe := I64) (l := []) (m := f.stk) Tryz.underlying22 Tryz.info2 rfl rfl rfl fndA (hf.s.le leA) (fun _ => rfl) (by simp; omega) (by simp; omega)) ?_
           rintro _ _ ⟨a7, c7, rfl, rfl⟩
           refine ⟨(hlA (h := by repeat first | exact trivial | refine ⟨clA, ?_⟩ | refine ⟨(Cl.row (j := th) hs1 leA (fun _ => rfl) hth (by omega) 1 _ rfl), ?_⟩ | refine ⟨(Cl.row (j := f.code) hs5 leA (fun _ => rfl) gth (by omega) 2 _ rfl), ?_⟩ | refine ⟨(Cl.row (j := f.pc - 1) (sz := 4) hs6 leA (fun _ => rfl) gpc (by omega) 0 _ rfl), ?_⟩)), ?_⟩
           refine XF.abs (e0 := ⟨6, 171, fun g => .slice (some ⟨g, 0, none⟩) 1 1, fun g => lsH I64 2 (some ⟨g, 0, none⟩) 1 [z]⟩) (hnd := by simp) 6 ⟨⟨_, rfl, rfl, rfl, rfl, rfl, rfl, fun q => Ef.litL I64 [z] Tryz.underlying22 Tryz.info2 rfl rfl rfl rfl rfl rfl (fun _ => rfl)⟩, trivial⟩ (fun gz171 => ?_) (hL := (hlA (h := by repeat first | exact trivial | refine ⟨clA, ?_⟩ | refine ⟨(Cl.row (j := th) hs1 leA (fun _ => rfl) hth (by omega) 1 _ rfl), ?_⟩ | refine ⟨(Cl.row (j := f.code) hs5 leA (fun _ => rfl) gth (by omega) 2 _ rfl), ?_⟩ | refine ⟨(Cl.row (j := f.pc - 1) (sz := 4) hs6 leA (fun _ => rfl) gpc (by omega) 0 _ rfl), ?_⟩)))
           change XF _ _ _ _ _ _ _ [] _ _ _ ((171, .slice (some ⟨gz171, 0, none⟩) 1 1) :: _) _ _ (lsH I64 2 (some ⟨gz171, 0, none⟩) 1 [z] :: _)
           refine XF.back ?_ (hL := (hlA (h := by repeat first | exact trivial | refine ⟨clA, ?_⟩ | refine ⟨(Cl.row (j := th) hs1 leA (fun _ => rfl) hth (by omega) 1 _ rfl), ?_⟩ | refine ⟨(Cl.row (j := f.code) hs5 leA (fun _ => rfl) gth (by omega) 2 _ rfl), ?_⟩ | refine ⟨(Cl.row (j := f.pc - 1) (sz := 4) hs6 leA (fun _ => rfl) gpc (by omega) 0 _ rfl), ?_⟩)))
           refine XD.ef 7 rfl (Ef.appA (f := I64) (l := [] ++ f.stk) (m := [z]) Tryz.underlying22 Tryz.info2 rfl rfl rfl fndA ((Sees.lsH _).le fndA) (fun _ => rfl) (by simp; omega) (by simp; omega)) ?_
           rintro _ _ ⟨a8, c8, rfl, rfl⟩
           refine ⟨(hlA (h := by repeat first | exact trivial | refine ⟨clA, ?_⟩ | refine ⟨(Cl.row (j := th) hs1 leA (fun _ => rfl) hth (by omega) 1 _ rfl), ?_⟩ | refine ⟨(Cl.row (j := f.code) hs5 leA (fun _ => rfl) gth (by omega) 2 _ rfl), ?_⟩ | refine ⟨(Cl.row (j := f.pc - 1) (sz := 4) hs6 leA (fun _ => rfl) gpc (by omega) 0 _ rfl), ?_⟩)), ?_⟩
           try rw [List.nil_append]
           refine dd [8] ?_
           refine stD 9 ?_
           refine XD.nil ?_
           refine xo 7 ?_
           refine XO.know 178 (.bool true) rfl (congrArg Value.bool (by first | rfl | (simp; done) | (simp [hv]; done) | (simp [hv, hcn]; done) | (rw [hg3]; rfl) | (rw [beq_eq_false_iff_ne.2 gne]; rfl) | (simp; omega) | (simp [hv]; omega) | (rw [bne_eq_false_iff_eq]; simp only [List.length_replicate]; omega) | (rw [beq_iff_eq]; assumption) | (rw [beq_eq_false_iff_ne]; assumption) | (rw [bne_iff_ne]; omega) | (rw [bne_eq_false_iff_eq]; omega) | exact decide_eq_true (by omega) | exact decide_eq_false (by omega))) ?_
           refine oo 3 ?_
           refine ldA ?_
           refine oo 1 ?_
           refine XO.cR Tryz.call22 (Same_ok (f := zFrm) (f2 := zFrm) ⟨Sees.nil _ _, Sees.nil _ _, Nat.zero_le _, Nat.zero_le _⟩ ⟨Sees.nil _ _, Sees.nil _ _, Nat.zero_le _, Nat.zero_le _⟩) ?_
           refine XO.know 184 (.bool true) rfl (congrArg Value.bool (decide_eq_true ⟨rfl, rfl, rfl, rfl⟩)) ?_
           refine oo 2 ?_
           refine XO.know 186 (.bool true) rfl (congrArg Value.bool (by first | rfl | (simp; done) | (simp [hv]; done) | (simp [hv, hcn]; done) | (rw [hg3]; rfl) | (rw [beq_eq_false_iff_ne.2 gne]; rfl) | (simp; omega) | (simp [hv]; omega) | (rw [bne_eq_false_iff_eq]; simp only [List.length_replicate]; omega) | (rw [beq_iff_eq]; assumption) | (rw [beq_eq_false_iff_ne]; assumption) | (rw [bne_iff_ne]; omega) | (rw [bne_eq_false_iff_eq]; omega) | exact decide_eq_true (by omega) | exact decide_eq_false (by omega))) ?_
           refine oo 9 ?_
           refine XO.cR Tryz.call10 (known_ok (gc.le leA) (g.le leA)) ?_
           refine ox 3 ?_
           refine X.sb [6] ?_
           refine X.retL (q) Tryz.func7 (res1 Tryz.results7 rfl) ⟨_, rfl, by first | rfl | (simp; done), rfl⟩
     · skip
       refine XO.cX Tryz.call18 (Le.refl _) (New_ok (th := th) (gc.le leA) (g.le leA) (hq.le leA)) ?_
       rintro _ _ (⟨hok, la, lc, rfl, rfl⟩ | ⟨hno, rfl, rfl⟩)
       · exact absurd ⟨hok.2.1, hok.2.2⟩ hn
       refine oo 3 ?_
       refine XO.al Tryz.zeroValue28 fun n11 => ?_
       refine stA ?_
       refine oo 4 ?_
       refine ldA ?_
       refine XO.cX Tryz.call19 (Le.refl _) (Cells_ok (gc.le leA) (g.le leA) (hq.le leA)) ?_
       rintro _ _ (⟨hv2, ac, cc2, rfl, rfl⟩ | ⟨hv2, rfl, rfl⟩)
       rotate_left; · exact absurd hv hv2
       refine XO.lscap (fl := I64) (l := m.vars ++ List.replicate (sumI m.arrays).toNat 0) (fun hcc => ?_)
       have hsm := sumI_take_le (mdlOk_of hv) m.arrays.length; rw [List.take_length] at hsm; have hmv := (mdlOk_of hv).2.2.1.1
       have hcn : ((cntS m).toNat : Int) = cntS m := by unfold cntS; omega
       have hcc2 : m.vars.length ≤ cc2 := by rw [List.length_append] at hcc; omega
       refine oo 8 ?_
       refine ldA ?_
       refine XO.cR Tryz.call20 (RCheck7_ok (hq.le leA)) ?_
       refine ox 5 ?_
       refine X.sb [11, 10, 9, 8, 7, 6, 5, 3, 1] ?_
       refine drw ?_
       refine dd [0, 1, 2, 3, 4] ?_
       refine XD.know 39 (.bool false) rfl (congrArg Value.bool (by first | rfl | (simp; done) | (simp [hv]; done) | (simp [hv, hcn]; done) | (rw [hg3]; rfl) | (rw [beq_eq_false_iff_ne.2 gne]; rfl) | (simp; omega) | (simp [hv]; omega) | (rw [bne_eq_false_iff_eq]; simp only [List.length_replicate]; omega) | (rw [beq_iff_eq]; assumption) | (rw [beq_eq_false_iff_ne]; assumption) | (rw [bne_iff_ne]; omega) | (rw [bne_eq_false_iff_eq]; omega) | exact decide_eq_true (by omega) | exact decide_eq_false (by omega))) ?_
       refine dd [5, 6] ?_
       refine XD.know 41 (.bool true) rfl (congrArg Value.bool (by first | rfl | (simp; done) | (simp [hv]; done) | (simp [hv, hcn]; done) | (rw [hg3]; rfl) | (rw [beq_eq_false_iff_ne.2 gne]; rfl) | (simp; omega) | (simp [hv]; omega) | (rw [bne_eq_false_iff_eq]; simp only [List.length_replicate]; omega) | (rw [beq_iff_eq]; assumption) | (rw [beq_eq_false_iff_ne]; assumption) | (rw [bne_iff_ne]; omega) | (rw [bne_eq_false_iff_eq]; omega) | exact decide_eq_true (by omega) | exact decide_eq_false (by omega))) ?_
       refine dd [7, 8] ?_
       refine ldAD 9 ?_
       refine XD.cRL 10 Tryz.call15 (RCount_ok (hq.le leA) hv) ?_
       refine dd [11, 12] ?_
       refine XD.know 47 (.bool false) rfl (congrArg Value.bool (by first | rfl | (simp; done) | (simp [hv]; done) | (simp [hv, hcn]; done) | (rw [hg3]; rfl) | (rw [beq_eq_false_iff_ne.2 gne]; rfl) | (simp; omega) | (simp [hv]; omega) | (rw [bne_eq_false_iff_eq]; simp only [List.length_replicate]; omega) | (rw [beq_iff_eq]; assumption) | (rw [beq_eq_false_iff_ne]; assumption) | (rw [bne_iff_ne]; omega) | (rw [bne_eq_false_iff_eq]; omega) | exact decide_eq_true (by omega) | exact decide_eq_false (by omega))) ?_
       refine dd [13, 14] ?_
       refine ldD 15 ?_
       refine dd [16, 17, 18] ?_
       refine ldD 19 ?_
       refine XD.know 52 (.slice ac ((m.vars ++ List.replicate (sumI m.arrays).toNat 0).take m.vars.length).length cc2) rfl (by rw [List.take_left]; congr 1) ?_
       refine XD.cRL 20 Tryz.call21 (RV3_ok (l := (m.vars ++ List.replicate (sumI m.arrays).toNat 0).take m.vars.length) (l2 := m.vars) (Sees.takeB ((Sees.lsH _).le fndA) _) (hq.v.le leA) (by rw [List.take_left]; exact hq.nv) hq.nv) ?_ (hL := (hlA (h := by repeat first | exact trivial | refine ⟨clA, ?_⟩ | refine ⟨(Cl.row (j := th) hs1 leA (fun _ => rfl) hth (by omega) 1 _ rfl), ?_⟩ | refine ⟨(Cl.row (j := f.code) hs5 leA (fun _ => rfl) gth (by omega) 2 _ rfl), ?_⟩ | refine ⟨(Cl.row (j := f.pc - 1) (sz := 4) hs6 leA (fun _ => rfl) gpc (by omega) 0 _ rfl), ?_⟩)))
       refine XD.know 55 (.bool true) rfl (congrArg Value.bool (decide_eq_true (List.take_left ..))) ?_
       refine XD.pu 21 rfl (Pu.not rfl) ?_
       refine dd [22, 23, 24, 25] ?_
       refine XD.know 60 (.bool false) rfl (congrArg Value.bool (by first | rfl | (simp; done) | (simp [hv]; done) | (simp [hv, hcn]; done) | (rw [hg3]; rfl) | (rw [beq_eq_false_iff_ne.2 gne]; rfl) | (simp; omega) | (simp [hv]; omega) | (rw [bne_eq_false_iff_eq]; simp only [List.length_replicate]; omega) | (rw [beq_iff_eq]; assumption) | (rw [beq_eq_false_iff_ne]; assumption) | (rw [bne_iff_ne]; omega) | (rw [bne_eq_false_iff_eq]; omega) | exact decide_eq_true (by omega) | exact decide_eq_false (by omega))) ?_
       refine dd [26] ?_
       refine XD.pu 27 rfl (Pu.not rfl) ?_
       refine dd [28] ?_
       refine XD.know 63 (.bool false) rfl (congrArg Value.bool (by first | rfl | (simp; done) | (simp [hv]; done) | (simp [hv, hcn]; done) | (rw [hg3]; rfl) | (rw [beq_eq_false_iff_ne.2 gne]; rfl) | (simp; omega) | (simp [hv]; omega) | (rw [bne_eq_false_iff_eq]; simp only [List.length_replicate]; omega) | (rw [beq_iff_eq]; assumption) | (rw [beq_eq_false_iff_ne]; assumption) | (rw [bne_iff_ne]; omega) | (rw [bne_eq_false_iff_eq]; omega) | exact decide_eq_true (by omega) | exact decide_eq_false (by omega))) ?_
       refine dd [29, 30, 31, 32, 33] ?_
       refine XD.nil ?_
       refine xo 7 ?_
       refine XO.know 70 (.bool true) rfl (congrArg Value.bool (by first | rfl | (simp; done) | (simp [hv]; done) | (simp [hv, hcn]; done) | (rw [hg3]; rfl) | (rw [beq_eq_false_iff_ne.2 gne]; rfl) | (simp; omega) | (simp [hv]; omega) | (rw [bne_eq_false_iff_eq]; simp only [List.length_replicate]; omega) | (rw [beq_iff_eq]; assumption) | (rw [beq_eq_false_iff_ne]; assumption) | (rw [bne_iff_ne]; omega) | (rw [bne_eq_false_iff_eq]; omega) | exact decide_eq_true (by omega) | exact decide_eq_false (by omega))) ?_
       refine oo 4 ?_
       refine XO.part 74 rfl (fun k2 => ?_) (fun k2 => ?_)
       · skip
         replace k2 := sp k2
         refine oo 2 ?_
         refine ld ?_
         refine ox 4 ?_
         refine X.sb [80, 8, 7, 6, 5, 3, 1] ?_
         refine X.know 80 (.bool false) rfl (congrArg Value.bool (by first | rfl | (simp; done) | (simp [hv]; done) | (simp [hv, hcn]; done) | (rw [hg3]; rfl) | (rw [beq_eq_false_iff_ne.2 gne]; rfl) | (simp; omega) | (simp [hv]; omega) | (rw [bne_eq_false_iff_eq]; simp only [List.length_replicate]; omega) | (rw [beq_iff_eq]; assumption) | (rw [beq_eq_false_iff_ne]; assumption) | (rw [bne_iff_ne]; omega) | (rw [bne_eq_false_iff_eq]; omega) | exact decide_eq_true (by omega) | exact decide_eq_false (by omega))) ?_
         refine xo 6 ?_
         refine XO.know 114 (.bool false) rfl (congrArg Value.bool (by first | rfl | (simp; done) | (simp [hv]; done) | (simp [hv, hcn]; done) | (rw [hg3]; rfl) | (rw [beq_eq_false_iff_ne.2 gne]; rfl) | (simp; omega) | (simp [hv]; omega) | (rw [bne_eq_false_iff_eq]; simp only [List.length_replicate]; omega) | (rw [beq_iff_eq]; assumption) | (rw [beq_eq_false_iff_ne]; assumption) | (rw [bne_iff_ne]; omega) | (rw [bne_eq_false_iff_eq]; omega) | exact decide_eq_true (by omega) | exact decide_eq_false (by omega))) ?_
         refine ldA ?_
         refine oo 1 ?_
         refine XO.cR Tryz.call22 (Same_ok (f := zFrm) (f2 := zFrm) ⟨Sees.nil _ _, Sees.nil _ _, Nat.zero_le _, Nat.zero_le _⟩ ⟨Sees.nil _ _, Sees.nil _ _, Nat.zero_le _, Nat.zero_le _⟩) ?_
         refine XO.know 117 (.bool true) rfl (congrArg Value.bool (decide_eq_true ⟨rfl, rfl, rfl, rfl⟩)) ?_
         refine XO.pu (Pu.not rfl) ?_
         refine ox 2 ?_
         refine X.know 119 (.bool false) rfl (congrArg Value.bool (by first | rfl | (simp; done) | (simp [hv]; done) | (simp [hv, hcn]; done) | (rw [hg3]; rfl) | (rw [beq_eq_false_iff_ne.2 gne]; rfl) | (simp; omega) | (simp [hv]; omega) | (rw [bne_eq_false_iff_eq]; simp only [List.length_replicate]; omega) | (rw [beq_iff_eq]; assumption) | (rw [beq_eq_false_iff_ne]; assumption) | (rw [bne_iff_ne]; omega) | (rw [bne_eq_false_iff_eq]; omega) | exact decide_eq_true (by omega) | exact decide_eq_false (by omega))) ?_
         refine xo 4 ?_
         refine ldA ?_
         refine oo 1 ?_
         refine ldA ?_
         refine oo 1 ?_
         refine ld ?_
         have hv1 : m.vars.length ≤ 9223372036854775807 := hq.nv
         refine XO.cX Tryz.call23 (Le.refl _) (Give_ok (f := f) (z := z) (gc.le leA) (g.le leA) (hq.le leA) (hf.le leA) ⟨by omega, by omega⟩) ?_
         rintro _ _ (⟨hg, la3, lc3, sa3, sc3, rfl, rfl⟩ | ⟨hg, rfl, rfl⟩)
         · skip
           obtain ⟨hg1, hg2, hg3⟩ := hg; obtain ⟨hg4, hg5⟩ := mayS_push.1 hg1; obtain ⟨gm1, gm2, gth, gm3, gm4, gm5⟩ := id hg4; have hv3 : vals [z] := by intro n hn; rw [List.mem_singleton.1 hn]; exact hg5
           refine oo 3 ?_
           refine XO.al Tryz.zeroValue28 fun n12 => ?_
           refine stA ?_
           refine ox 3 ?_
           refine X.sb [13, 12, 6, 5, 3] ?_
           refine drw ?_
           refine ldAD 0 ?_
           refine dd [1] ?_
           refine ldAD 2 ?_
           refine XD.cX 3 Tryz.call24 (Le.refl _) (RMay_ok (f := f) (less := 1) (hq.le leA) (hf.le leA) (by omega) (by omega)) ?_
           rintro _ _ ⟨⟨b1, rfl, hb1⟩, rfl⟩
           refine ⟨trivial, ?_⟩
           obtain rfl : b1 = true := hb1.2 hg4
           refine dd [4] ?_
           refine XD.know 133 (.bool true) rfl (congrArg Value.bool (by first | rfl | (simp; done) | (simp [hv]; done) | (simp [hv, hcn]; done) | (rw [hg3]; rfl) | (rw [beq_eq_false_iff_ne.2 gne]; rfl) | (simp; omega) | (simp [hv]; omega) | (rw [bne_eq_false_iff_eq]; simp only [List.length_replicate]; omega) | (rw [beq_iff_eq]; assumption) | (rw [beq_eq_false_iff_ne]; assumption) | (rw [bne_iff_ne]; omega) | (rw [bne_eq_false_iff_eq]; omega) | exact decide_eq_true (by omega) | exact decide_eq_false (by omega))) ?_
           refine dd [5] ?_
           refine ldD 6 ?_
           refine XD.ef 7 rfl (Ef.litL I64 [z] Tryz.underlying22 Tryz.info2 rfl rfl rfl rfl rfl rfl (fun _ => rfl)) ?_
           rintro _ _ ⟨gz136, rfl, rfl⟩
           refine ⟨trivial, ?_⟩
           refine XD.cRL 8 Tryz.call13 (RValues_ok (l := [z]) ((Sees.lsH _).le fndA) (show 1 ≤ 9223372036854775807 by decide)) ?_
           refine dd [9, 10] ?_
           refine XD.know 139 (.bool true) rfl (congrArg Value.bool (by first | rfl | (simp; done) | (simp [hv]; done) | (simp [hv, hcn]; done) | (rw [hg3]; rfl) | (rw [beq_eq_false_iff_ne.2 gne]; rfl) | (simp; omega) | (simp [hv]; omega) | (rw [bne_eq_false_iff_eq]; simp only [List.length_replicate]; omega) | (rw [beq_iff_eq]; assumption) | (rw [beq_eq_false_iff_ne]; assumption) | (rw [bne_iff_ne]; omega) | (rw [bne_eq_false_iff_eq]; omega) | exact decide_eq_true (by omega) | exact decide_eq_false (by omega))) ?_
           refine dd [11, 12] ?_
           refine ldD 13 ?_
           refine dd [14, 15, 16] ?_
           refine XD.know 145 (.bool true) rfl (congrArg Value.bool (by first | rfl | (simp; done) | (simp [hv]; done) | (simp [hv, hcn]; done) | (rw [hg3]; rfl) | (rw [beq_eq_false_iff_ne.2 gne]; rfl) | (simp; omega) | (simp [hv]; omega) | (rw [bne_eq_false_iff_eq]; simp only [List.length_replicate]; omega) | (rw [beq_iff_eq]; assumption) | (rw [beq_eq_false_iff_ne]; assumption) | (rw [bne_iff_ne]; omega) | (rw [bne_eq_false_iff_eq]; omega) | exact decide_eq_true (by omega) | exact decide_eq_false (by omega))) ?_
           refine dd [17] ?_
           refine ldD 18 ?_
           refine dd [19, 20] ?_
           refine ldD 21 ?_
           have gpc : (f.pc - 1).toNat < m.threads[f.code.toNat].ins.length := (by omega); have gql := hq.x _ (List.getElem_mem gth); have gni := gql.ni; have gsi := gql.i; have glen := flatMap_len (f := insC) (sz := 4) (fun _ => rfl) m.threads[f.code.toNat].ins; have gp65 := (vOk gm1 gth).2.1
           have gxe : (thrAt m f.code).ins.getD (f.pc.toNat - 1) zIns = m.threads[f.code.toNat].ins[(f.pc - 1).toNat] := by rw [show thrAt m f.code = m.threads[f.code.toNat] from getD_lt gth, show f.pc.toNat - 1 = (f.pc - 1).toNat by omega]; exact getD_lt gpc
           rw [gxe] at hg3
           refine XD.adr hq.t (by rw [hlen]; omega) (fun b5 o5 e5 => ?_)
           have hs5 := hq.t; rw [e5] at hs5
           refine XD.know 147 (.slice (some ⟨b5, o5, none⟩) m.threads.length m.tc) rfl (by rw [e5]) ?_
           refine dd [22, 23] ?_
           refine ldD 24 ?_ (hc := (Cl.row (j := f.code) hs5 leA (fun _ => rfl) gth (by omega) 2 _ rfl))
           refine dd [25, 26] ?_
           refine ldD 27 ?_
           refine dd [28] ?_
           refine XD.adr gsi (by rw [glen]; omega) (fun b6 o6 e6 => ?_)
           have hs6 := gsi; rw [e6] at hs6
           refine XD.know 153 (.slice (some ⟨b6, o6, none⟩) m.threads[f.code.toNat].ins.length m.threads[f.code.toNat].ic) rfl (by rw [e6]) ?_
           refine dd [29, 30] ?_
           refine ldD 31 ?_ (hc := (Cl.row (j := f.pc - 1) (sz := 4) hs6 leA (fun _ => rfl) gpc (by omega) 0 _ rfl))
           refine dd [32, 33, 34] ?_
           refine XD.nil ?_
           refine xo 3 ?_
           refine ldA ?_
           refine XO.al Tryz.zeroValue28 fun n13 => ?_
           refine stA ?_
           refine ox 2 ?_
           refine X.sb [15, 14, 13, 12, 6, 5] ?_
           refine drw ?_
           refine dd [0, 1] ?_
           refine ldD 2 ?_
           refine dd [4] ?_
           refine ldD 5 ?_
           refine XD.le (q' := lsH I64 2 none 0 [] :: _) (Le.lsH_nil _ _ _) ?_
           refine XD.float (fl := [⟨6, 171, fun g => .slice (some ⟨g, 0, none⟩) 1 1, fun g => lsH I64 2 (some ⟨g, 0, none⟩) 1 [z]⟩]) ?_
           refine XF.ef 3 ⟨⟨_, rfl, rfl, rfl, rfl, rfl, rfl, fun q => Ef.litL I64 [z] Tryz.underlying22 Tryz.info2 rfl rfl rfl rfl rfl rfl (fun _ => rfl)⟩, trivial⟩ (Ef.appE (fe := I64) (l := []) (m := f.stk) Tryz.underlying22 Tryz.info2 rfl rfl rfl fndA (hf.s.le leA) (fun _ => rfl) (by simp; omega) (by simp; omega)) ?_
           rintro _ _ ⟨a7, c7, rfl, rfl⟩
           refine ⟨(hlA (h := by repeat first | exact trivial | refine ⟨clA, ?_⟩ | refine ⟨(Cl.row (j := th) hs1 leA (fun _ => rfl) hth (by omega) 1 _ rfl), ?_⟩ | refine ⟨(Cl.row (j := f.code) hs5 leA (fun _ => rfl) gth (by omega) 2 _ rfl), ?_⟩ | refine ⟨(Cl.row (j := f.pc - 1) (sz := 4) hs6 leA (fun _ => rfl) gpc (by omega) 0 _ rfl), ?_⟩)), ?_⟩
           refine XF.abs (e0 := ⟨6, 171, fun g => .slice (some ⟨g, 0, none⟩) 1 1, fun g => lsH I64 2 (some ⟨g, 0, none⟩) 1 [z]⟩) (hnd := by simp) 6 ⟨⟨_, rfl, rfl, rfl, rfl, rfl, rfl, fun q => Ef.litL I64 [z] Tryz.underlying22 Tryz.info2 rfl rfl rfl rfl rfl rfl (fun _ => rfl)⟩, trivial⟩ (fun gz171 => ?_) (hL := (hlA (h := by repeat first | exact trivial | refine ⟨clA, ?_⟩ | refine ⟨(Cl.row (j := th) hs1 leA (fun _ => rfl) hth (by omega) 1 _ rfl), ?_⟩ | refine ⟨(Cl.row (j := f.code) hs5 leA (fun _ => rfl) gth (by omega) 2 _ rfl), ?_⟩ | refine ⟨(Cl.row (j := f.pc - 1) (sz := 4) hs6 leA (fun _ => rfl) gpc (by omega) 0 _ rfl), ?_⟩)))
           change XF _ _ _ _ _ _ _ [] _ _ _ ((171, .slice (some ⟨gz171, 0, none⟩) 1 1) :: _) _ _ (lsH I64 2 (some ⟨gz171, 0, none⟩) 1 [z] :: _)
           refine XF.back ?_ (hL := (hlA (h := by repeat first | exact trivial | refine ⟨clA, ?_⟩ | refine ⟨(Cl.row (j := th) hs1 leA (fun _ => rfl) hth (by omega) 1 _ rfl), ?_⟩ | refine ⟨(Cl.row (j := f.code) hs5 leA (fun _ => rfl) gth (by omega) 2 _ rfl), ?_⟩ | refine ⟨(Cl.row (j := f.pc - 1) (sz := 4) hs6 leA (fun _ => rfl) gpc (by omega) 0 _ rfl), ?_⟩)))
           refine XD.ef 7 rfl (Ef.appA (f := I64) (l := [] ++ f.stk) (m := [z]) Tryz.underlying22 Tryz.info2 rfl rfl rfl fndA ((Sees.lsH _).le fndA) (fun _ => rfl) (by simp; omega) (by simp; omega)) ?_
           rintro _ _ ⟨a8, c8, rfl, rfl⟩
           refine ⟨(hlA (h := by repeat first | exact trivial | refine ⟨clA, ?_⟩ | refine ⟨(Cl.row (j := th) hs1 leA (fun _ => rfl) hth (by omega) 1 _ rfl), ?_⟩ | refine ⟨(Cl.row (j := f.code) hs5 leA (fun _ => rfl) gth (by omega) 2 _ rfl), ?_⟩ | refine ⟨(Cl.row (j := f.pc - 1) (sz := 4) hs6 leA (fun _ => rfl) gpc (by omega) 0 _ rfl), ?_⟩)), ?_⟩
           try rw [List.nil_append]
           refine dd [8] ?_
           refine stD 9 ?_
           refine XD.nil ?_
           refine xo 7 ?_
           refine XO.know 178 (.bool true) rfl (congrArg Value.bool (by first | rfl | (simp; done) | (simp [hv]; done) | (simp [hv, hcn]; done) | (rw [hg3]; rfl) | (rw [beq_eq_false_iff_ne.2 gne]; rfl) | (simp; omega) | (simp [hv]; omega) | (rw [bne_eq_false_iff_eq]; simp only [List.length_replicate]; omega) | (rw [beq_iff_eq]; assumption) | (rw [beq_eq_false_iff_ne]; assumption) | (rw [bne_iff_ne]; omega) | (rw [bne_eq_false_iff_eq]; omega) | exact decide_eq_true (by omega) | exact decide_eq_false (by omega))) ?_
           refine oo 1 ?_
           refine XO.pu (Pu.not rfl) ?_
           refine oo 1 ?_
           refine XO.know 181 (.bool false) rfl (congrArg Value.bool (by first | rfl | (simp; done) | (simp [hv]; done) | (simp [hv, hcn]; done) | (rw [hg3]; rfl) | (rw [beq_eq_false_iff_ne.2 gne]; rfl) | (simp; omega) | (simp [hv]; omega) | (rw [bne_eq_false_iff_eq]; simp only [List.length_replicate]; omega) | (rw [beq_iff_eq]; assumption) | (rw [beq_eq_false_iff_ne]; assumption) | (rw [bne_iff_ne]; omega) | (rw [bne_eq_false_iff_eq]; omega) | exact decide_eq_true (by omega) | exact decide_eq_false (by omega))) ?_
           refine oo 7 ?_
           refine XO.know 188 (.bool true) rfl (congrArg Value.bool (by first | rfl | (simp; done) | (simp [hv]; done) | (simp [hv, hcn]; done) | (rw [hg3]; rfl) | (rw [beq_eq_false_iff_ne.2 gne]; rfl) | (simp; omega) | (simp [hv]; omega) | (rw [bne_eq_false_iff_eq]; simp only [List.length_replicate]; omega) | (rw [beq_iff_eq]; assumption) | (rw [beq_eq_false_iff_ne]; assumption) | (rw [bne_iff_ne]; omega) | (rw [bne_eq_false_iff_eq]; omega) | exact decide_eq_true (by omega) | exact decide_eq_false (by omega))) ?_
           refine ldA ?_
           refine ldA ?_
           refine XO.cR Tryz.call22 (Same_ok (f := ⟨f.code, f.pc, f.loc, f.stk ++ [z], la3, lc3, sa3, sc3⟩) (f2 := ⟨f.code, f.pc, f.loc, f.stk ++ [z], f.la, f.lc, a8, c8⟩) ⟨(Sees.lsH _).le fndA, (Sees.lsH _).le fndA, hf.nl, (by simp; omega)⟩ ⟨hf.l.le leA, (Sees.lsH _).le fndA, hf.nl, (by simp; omega)⟩) ?_
           refine XO.know 191 (.bool true) rfl (congrArg Value.bool (decide_eq_true ⟨rfl, rfl, rfl, rfl⟩)) ?_
           refine oo 4 ?_
           refine XO.cR Tryz.call10 (known_ok (gc.le leA) (g.le leA)) ?_
           refine XO.pu (Pu.pick rfl rfl rfl) ?_
           refine ox 2 ?_
           refine X.sb [6] ?_
           refine X.retL (q) Tryz.func7 (res1 Tryz.results7 rfl) ⟨_, rfl, by first | rfl | (simp; done), rfl⟩
         · skip
           refine oo 3 ?_
           refine XO.al Tryz.zeroValue28 fun n14 => ?_
           refine stA ?_
           refine ox 3 ?_
           refine X.sb [13, 12, 6, 5, 3] ?_
           refine drw ?_
           refine ldAD 0 ?_
           refine dd [1] ?_
           refine ldAD 2 ?_
           refine XD.cX 3 Tryz.call24 (Le.refl _) (RMay_ok (f := f) (less := 1) (hq.le leA) (hf.le leA) (by omega) (by omega)) ?_
           rintro _ _ ⟨⟨b1, rfl, hb1⟩, rfl⟩
           refine ⟨trivial, ?_⟩
           refine dd [4] ?_
           refine XD.part 133 rfl (fun k3 => ?_) (fun k3 => ?_)
           · skip
             replace k3 := sp k3
             refine dd [5] ?_
             refine ldD 6 ?_
             refine XD.ef 7 rfl (Ef.litL I64 [z] Tryz.underlying22 Tryz.info2 rfl rfl rfl rfl rfl rfl (fun _ => rfl)) ?_
             rintro _ _ ⟨gz136, rfl, rfl⟩
             refine ⟨trivial, ?_⟩
             refine XD.cRL 8 Tryz.call13 (RValues_ok (l := [z]) ((Sees.lsH _).le fndA) (show 1 ≤ 9223372036854775807 by decide)) ?_
             refine dd [9, 10] ?_
             refine XD.part 139 rfl (fun k4 => ?_) (fun k4 => ?_)
             · skip
               replace k4 := sp k4
               refine dd [11, 12] ?_
               refine ldD 13 ?_
               refine dd [14, 15, 16] ?_
               refine XD.part 145 rfl (fun k5 => ?_) (fun k5 => ?_)
               · skip
                 replace k5 := sp k5
                 refine dd [17] ?_
                 refine ldD 18 ?_
                 refine dd [19, 20] ?_
                 refine ldD 21 ?_
                 have hmf := hb1.1 (by assumption); obtain ⟨gm1, gm2, gth, gm3, gm4, gm5⟩ := id hmf
                 have gpc : (f.pc - 1).toNat < m.threads[f.code.toNat].ins.length := (by omega); have gql := hq.x _ (List.getElem_mem gth); have gni := gql.ni; have gsi := gql.i; have glen := flatMap_len (f := insC) (sz := 4) (fun _ => rfl) m.threads[f.code.toNat].ins; have gp65 := (vOk gm1 gth).2.1
                 have gxe : (thrAt m f.code).ins.getD (f.pc.toNat - 1) zIns = m.threads[f.code.toNat].ins[(f.pc - 1).toNat] := by rw [show thrAt m f.code = m.threads[f.code.toNat] from getD_lt gth, show f.pc.toNat - 1 = (f.pc - 1).toNat by omega]; exact getD_lt gpc
                 have gne : m.threads[f.code.toNat].ins[(f.pc - 1).toNat].c ≠ 30 := fun h => hg ⟨mayS_push.2 ⟨hmf, by have h5 : vals [z] := (by assumption); exact h5 z (List.mem_singleton.2 rfl)⟩, by omega, by rw [gxe]; exact h⟩
                 refine XD.adr hq.t (by rw [hlen]; omega) (fun b5 o5 e5 => ?_)
                 have hs5 := hq.t; rw [e5] at hs5
                 refine XD.know 147 (.slice (some ⟨b5, o5, none⟩) m.threads.length m.tc) rfl (by rw [e5]) ?_
                 refine dd [22, 23] ?_
                 refine ldD 24 ?_ (hc := (Cl.row (j := f.code) hs5 leA (fun _ => rfl) gth (by omega) 2 _ rfl))
                 refine dd [25, 26] ?_
                 refine ldD 27 ?_
                 refine dd [28] ?_
                 refine XD.adr gsi (by rw [glen]; omega) (fun b6 o6 e6 => ?_)
                 have hs6 := gsi; rw [e6] at hs6
                 refine XD.know 153 (.slice (some ⟨b6, o6, none⟩) m.threads[f.code.toNat].ins.length m.threads[f.code.toNat].ic) rfl (by rw [e6]) ?_
                 refine dd [29, 30] ?_
                 refine ldD 31 ?_ (hc := (Cl.row (j := f.pc - 1) (sz := 4) hs6 leA (fun _ => rfl) gpc (by omega) 0 _ rfl))
                 refine dd [32, 33, 34] ?_
                 refine XD.nil ?_
                 refine xo 3 ?_
                 refine ldA ?_
                 refine XO.al Tryz.zeroValue28 fun n15 => ?_
                 refine stA ?_
                 refine ox 2 ?_
                 refine X.sb [15, 14, 13, 12, 6, 5] ?_
                 refine drw ?_
                 refine dd [0, 1] ?_
                 refine ldD 2 ?_
                 refine dd [4] ?_
                 refine ldD 5 ?_
                 refine XD.le (q' := lsH I64 2 none 0 [] :: _) (Le.lsH_nil _ _ _) ?_
                 refine XD.float (fl := [⟨6, 171, fun g => .slice (some ⟨g, 0, none⟩) 1 1, fun g => lsH I64 2 (some ⟨g, 0, none⟩) 1 [z]⟩]) ?_
                 refine XF.ef 3 ⟨⟨_, rfl, rfl, rfl, rfl, rfl, rfl, fun q => Ef.litL I64 [z] Tryz.underlying22 Tryz.info2 rfl rfl rfl rfl rfl rfl (fun _ => rfl)⟩, trivial⟩ (Ef.appE (fe := I64) (l := []) (m := f.stk) Tryz.underlying22 Tryz.info2 rfl rfl rfl fndA (hf.s.le leA) (fun _ => rfl) (by simp; omega) (by simp; omega)) ?_
                 rintro _ _ ⟨a7, c7, rfl, rfl⟩
                 refine ⟨(hlA (h := by repeat first | exact trivial | refine ⟨clA, ?_⟩ | refine ⟨(Cl.row (j := th) hs1 leA (fun _ => rfl) hth (by omega) 1 _ rfl), ?_⟩ | refine ⟨(Cl.row (j := f.code) hs5 leA (fun _ => rfl) gth (by omega) 2 _ rfl), ?_⟩ | refine ⟨(Cl.row (j := f.pc - 1) (sz := 4) hs6 leA (fun _ => rfl) gpc (by omega) 0 _ rfl), ?_⟩)), ?_⟩
                 refine XF.abs (e0 := ⟨6, 171, fun g => .slice (some ⟨g, 0, none⟩) 1 1, fun g => lsH I64 2 (some ⟨g, 0, none⟩) 1 [z]⟩) (hnd := by simp) 6 ⟨⟨_, rfl, rfl, rfl, rfl, rfl, rfl, fun q => Ef.litL I64 [z] Tryz.underlying22 Tryz.info2 rfl rfl rfl rfl rfl rfl (fun _ => rfl)⟩, trivial⟩ (fun gz171 => ?_) (hL := (hlA (h := by repeat first | exact trivial | refine ⟨clA, ?_⟩ | refine ⟨(Cl.row (j := th) hs1 leA (fun _ => rfl) hth (by omega) 1 _ rfl), ?_⟩ | refine ⟨(Cl.row (j := f.code) hs5 leA (fun _ => rfl) gth (by omega) 2 _ rfl), ?_⟩ | refine ⟨(Cl.row (j := f.pc - 1) (sz := 4) hs6 leA (fun _ => rfl) gpc (by omega) 0 _ rfl), ?_⟩)))
                 change XF _ _ _ _ _ _ _ [] _ _ _ ((171, .slice (some ⟨gz171, 0, none⟩) 1 1) :: _) _ _ (lsH I64 2 (some ⟨gz171, 0, none⟩) 1 [z] :: _)
                 refine XF.back ?_ (hL := (hlA (h := by repeat first | exact trivial | refine ⟨clA, ?_⟩ | refine ⟨(Cl.row (j := th) hs1 leA (fun _ => rfl) hth (by omega) 1 _ rfl), ?_⟩ | refine ⟨(Cl.row (j := f.code) hs5 leA (fun _ => rfl) gth (by omega) 2 _ rfl), ?_⟩ | refine ⟨(Cl.row (j := f.pc - 1) (sz := 4) hs6 leA (fun _ => rfl) gpc (by omega) 0 _ rfl), ?_⟩)))
                 refine XD.ef 7 rfl (Ef.appA (f := I64) (l := [] ++ f.stk) (m := [z]) Tryz.underlying22 Tryz.info2 rfl rfl rfl fndA ((Sees.lsH _).le fndA) (fun _ => rfl) (by simp; omega) (by simp; omega)) ?_
                 rintro _ _ ⟨a8, c8, rfl, rfl⟩
                 refine ⟨(hlA (h := by repeat first | exact trivial | refine ⟨clA, ?_⟩ | refine ⟨(Cl.row (j := th) hs1 leA (fun _ => rfl) hth (by omega) 1 _ rfl), ?_⟩ | refine ⟨(Cl.row (j := f.code) hs5 leA (fun _ => rfl) gth (by omega) 2 _ rfl), ?_⟩ | refine ⟨(Cl.row (j := f.pc - 1) (sz := 4) hs6 leA (fun _ => rfl) gpc (by omega) 0 _ rfl), ?_⟩)), ?_⟩
                 try rw [List.nil_append]
                 refine dd [8] ?_
                 refine stD 9 ?_
                 refine XD.nil ?_
                 refine xo 7 ?_
                 refine XO.know 178 (.bool true) rfl (congrArg Value.bool (by first | rfl | (simp; done) | (simp [hv]; done) | (simp [hv, hcn]; done) | (rw [hg3]; rfl) | (rw [beq_eq_false_iff_ne.2 gne]; rfl) | (simp; omega) | (simp [hv]; omega) | (rw [bne_eq_false_iff_eq]; simp only [List.length_replicate]; omega) | (rw [beq_iff_eq]; assumption) | (rw [beq_eq_false_iff_ne]; assumption) | (rw [bne_iff_ne]; omega) | (rw [bne_eq_false_iff_eq]; omega) | exact decide_eq_true (by omega) | exact decide_eq_false (by omega))) ?_
                 refine oo 1 ?_
                 refine XO.pu (Pu.not rfl) ?_
                 refine oo 1 ?_
                 refine XO.know 181 (.bool true) rfl (congrArg Value.bool (by first | rfl | (simp; done) | (simp [hv]; done) | (simp [hv, hcn]; done) | (rw [hg3]; rfl) | (rw [beq_eq_false_iff_ne.2 gne]; rfl) | (simp; omega) | (simp [hv]; omega) | (rw [bne_eq_false_iff_eq]; simp only [List.length_replicate]; omega) | (rw [beq_iff_eq]; assumption) | (rw [beq_eq_false_iff_ne]; assumption) | (rw [bne_iff_ne]; omega) | (rw [bne_eq_false_iff_eq]; omega) | exact decide_eq_true (by omega) | exact decide_eq_false (by omega))) ?_
                 refine ldA ?_
                 refine oo 1 ?_
                 refine XO.cR Tryz.call22 (Same_ok (f := zFrm) (f2 := zFrm) ⟨Sees.nil _ _, Sees.nil _ _, Nat.zero_le _, Nat.zero_le _⟩ ⟨Sees.nil _ _, Sees.nil _ _, Nat.zero_le _, Nat.zero_le _⟩) ?_
                 refine XO.know 184 (.bool true) rfl (congrArg Value.bool (decide_eq_true ⟨rfl, rfl, rfl, rfl⟩)) ?_
                 refine oo 2 ?_
                 refine XO.know 186 (.bool true) rfl (congrArg Value.bool (by first | rfl | (simp; done) | (simp [hv]; done) | (simp [hv, hcn]; done) | (rw [hg3]; rfl) | (rw [beq_eq_false_iff_ne.2 gne]; rfl) | (simp; omega) | (simp [hv]; omega) | (rw [bne_eq_false_iff_eq]; simp only [List.length_replicate]; omega) | (rw [beq_iff_eq]; assumption) | (rw [beq_eq_false_iff_ne]; assumption) | (rw [bne_iff_ne]; omega) | (rw [bne_eq_false_iff_eq]; omega) | exact decide_eq_true (by omega) | exact decide_eq_false (by omega))) ?_
                 refine oo 9 ?_
                 refine XO.cR Tryz.call10 (known_ok (gc.le leA) (g.le leA)) ?_
                 refine ox 3 ?_
                 refine X.sb [6] ?_
                 refine X.retL (q) Tryz.func7 (res1 Tryz.results7 rfl) ⟨_, rfl, by first | rfl | (simp; done), rfl⟩
               · skip
                 replace k5 := sp k5
                 refine dd [17, 18, 19, 20, 21, 22, 23, 24, 25, 26, 27, 28, 29, 30, 31, 32, 33, 34] ?_
                 refine XD.nil ?_
                 refine xo 3 ?_
                 refine ldA ?_
                 refine XO.al Tryz.zeroValue28 fun n16 => ?_
                 refine stA ?_
                 refine ox 2 ?_
                 refine X.sb [15, 14, 13, 12, 6, 5] ?_
                 refine drw ?_
                 refine dd [0, 1] ?_
                 refine ldD 2 ?_
                 refine dd [4] ?_
                 refine ldD 5 ?_
                 refine XD.le (q' := lsH I64 2 none 0 [] :: _) (Le.lsH_nil _ _ _) ?_
                 refine XD.float (fl := [⟨6, 171, fun g => .slice (some ⟨g, 0, none⟩) 1 1, fun g => lsH I64 2 (some ⟨g, 0, none⟩) 1 [z]⟩]) ?_
                 refine XF.ef 3 ⟨⟨_, rfl, rfl, rfl, rfl, rfl, rfl, fun q => Ef.litL I64 [z] Tryz.underlying22 Tryz.info2 rfl rfl rfl rfl rfl rfl (fun _ => rfl)⟩, trivial⟩ (Ef.appE (fe := I64) (l := []) (m := f.stk) Tryz.underlying22 Tryz.info2 rfl rfl rfl fndA (hf.s.le leA) (fun _ => rfl) (by simp; omega) (by simp; omega)) ?_
                 rintro _ _ ⟨a7, c7, rfl, rfl⟩
                 refine ⟨(hlA (h := by repeat first | exact trivial | refine ⟨clA, ?_⟩ | refine ⟨(Cl.row (j := th) hs1 leA (fun _ => rfl) hth (by omega) 1 _ rfl), ?_⟩ | refine ⟨(Cl.row (j := f.code) hs5 leA (fun _ => rfl) gth (by omega) 2 _ rfl), ?_⟩ | refine ⟨(Cl.row (j := f.pc - 1) (sz := 4) hs6 leA (fun _ => rfl) gpc (by omega) 0 _ rfl), ?_⟩)), ?_⟩
                 refine XF.abs (e0 := ⟨6, 171, fun g => .slice (some ⟨g, 0, none⟩) 1 1, fun g => lsH I64 2 (some ⟨g, 0, none⟩) 1 [z]⟩) (hnd := by simp) 6 ⟨⟨_, rfl, rfl, rfl, rfl, rfl, rfl, fun q => Ef.litL I64 [z] Tryz.underlying22 Tryz.info2 rfl rfl rfl rfl rfl rfl (fun _ => rfl)⟩, trivial⟩ (fun gz171 => ?_) (hL := (hlA (h := by repeat first | exact trivial | refine ⟨clA, ?_⟩ | refine ⟨(Cl.row (j := th) hs1 leA (fun _ => rfl) hth (by omega) 1 _ rfl), ?_⟩ | refine ⟨(Cl.row (j := f.code) hs5 leA (fun _ => rfl) gth (by omega) 2 _ rfl), ?_⟩ | refine ⟨(Cl.row (j := f.pc - 1) (sz := 4) hs6 leA (fun _ => rfl) gpc (by omega) 0 _ rfl), ?_⟩)))
                 change XF _ _ _ _ _ _ _ [] _ _ _ ((171, .slice (some ⟨gz171, 0, none⟩) 1 1) :: _) _ _ (lsH I64 2 (some ⟨gz171, 0, none⟩) 1 [z] :: _)
                 refine XF.back ?_ (hL := (hlA (h := by repeat first | exact trivial | refine ⟨clA, ?_⟩ | refine ⟨(Cl.row (j := th) hs1 leA (fun _ => rfl) hth (by omega) 1 _ rfl), ?_⟩ | refine ⟨(Cl.row (j := f.code) hs5 leA (fun _ => rfl) gth (by omega) 2 _ rfl), ?_⟩ | refine ⟨(Cl.row (j := f.pc - 1) (sz := 4) hs6 leA (fun _ => rfl) gpc (by omega) 0 _ rfl), ?_⟩)))
                 refine XD.ef 7 rfl (Ef.appA (f := I64) (l := [] ++ f.stk) (m := [z]) Tryz.underlying22 Tryz.info2 rfl rfl rfl fndA ((Sees.lsH _).le fndA) (fun _ => rfl) (by simp; omega) (by simp; omega)) ?_
                 rintro _ _ ⟨a8, c8, rfl, rfl⟩
                 refine ⟨(hlA (h := by repeat first | exact trivial | refine ⟨clA, ?_⟩ | refine ⟨(Cl.row (j := th) hs1 leA (fun _ => rfl) hth (by omega) 1 _ rfl), ?_⟩ | refine ⟨(Cl.row (j := f.code) hs5 leA (fun _ => rfl) gth (by omega) 2 _ rfl), ?_⟩ | refine ⟨(Cl.row (j := f.pc - 1) (sz := 4) hs6 leA (fun _ => rfl) gpc (by omega) 0 _ rfl), ?_⟩)), ?_⟩
                 try rw [List.nil_append]
                 refine dd [8] ?_
                 refine stD 9 ?_
                 refine XD.nil ?_
                 refine xo 7 ?_
                 refine XO.know 178 (.bool true) rfl (congrArg Value.bool (by first | rfl | (simp; done) | (simp [hv]; done) | (simp [hv, hcn]; done) | (rw [hg3]; rfl) | (rw [beq_eq_false_iff_ne.2 gne]; rfl) | (simp; omega) | (simp [hv]; omega) | (rw [bne_eq_false_iff_eq]; simp only [List.length_replicate]; omega) | (rw [beq_iff_eq]; assumption) | (rw [beq_eq_false_iff_ne]; assumption) | (rw [bne_iff_ne]; omega) | (rw [bne_eq_false_iff_eq]; omega) | exact decide_eq_true (by omega) | exact decide_eq_false (by omega))) ?_
                 refine oo 3 ?_
                 refine ldA ?_
                 refine oo 1 ?_
                 refine XO.cR Tryz.call22 (Same_ok (f := zFrm) (f2 := zFrm) ⟨Sees.nil _ _, Sees.nil _ _, Nat.zero_le _, Nat.zero_le _⟩ ⟨Sees.nil _ _, Sees.nil _ _, Nat.zero_le _, Nat.zero_le _⟩) ?_
                 refine XO.know 184 (.bool true) rfl (congrArg Value.bool (decide_eq_true ⟨rfl, rfl, rfl, rfl⟩)) ?_
                 refine oo 2 ?_
                 refine XO.know 186 (.bool true) rfl (congrArg Value.bool (by first | rfl | (simp; done) | (simp [hv]; done) | (simp [hv, hcn]; done) | (rw [hg3]; rfl) | (rw [beq_eq_false_iff_ne.2 gne]; rfl) | (simp; omega) | (simp [hv]; omega) | (rw [bne_eq_false_iff_eq]; simp only [List.length_replicate]; omega) | (rw [beq_iff_eq]; assumption) | (rw [beq_eq_false_iff_ne]; assumption) | (rw [bne_iff_ne]; omega) | (rw [bne_eq_false_iff_eq]; omega) | exact decide_eq_true (by omega) | exact decide_eq_false (by omega))) ?_
                 refine oo 9 ?_
                 refine XO.cR Tryz.call10 (known_ok (gc.le leA) (g.le leA)) ?_
                 refine ox 3 ?_
                 refine X.sb [6] ?_
                 refine X.retL (q) Tryz.func7 (res1 Tryz.results7 rfl) ⟨_, rfl, by first | rfl | (simp; done), rfl⟩
             · skip
               replace k4 := sp k4
               refine dd [11, 12, 13, 14, 15, 16, 17, 18, 19, 20, 21, 22, 23, 24, 25, 26, 27, 28, 29, 30, 31, 32, 33, 34] ?_
               refine XD.nil ?_
               refine xo 3 ?_
               refine ldA ?_
               refine XO.al Tryz.zeroValue28 fun n17 => ?_
               refine stA ?_
               refine ox 2 ?_
               refine X.sb [15, 14, 13, 12, 6, 5] ?_
               refine drw ?_
               refine dd [0, 1] ?_
               refine ldD 2 ?_
               refine dd [4] ?_
               refine ldD 5 ?_
               refine XD.le (q' := lsH I64 2 none 0 [] :: _) (Le.lsH_nil _ _ _) ?_
               refine XD.float (fl := [⟨6, 171, fun g => .slice (some ⟨g, 0, none⟩) 1 1, fun g => lsH I64 2 (some ⟨g, 0, none⟩) 1 [z]⟩]) ?_
               refine XF.ef 3 ⟨⟨_, rfl, rfl, rfl, rfl, rfl, rfl, fun q => Ef.litL I64 [z] Tryz.underlying22 Tryz.info2 rfl rfl rfl rfl rfl rfl (fun _ => rfl)⟩, trivial⟩ (Ef.appE (fe := I64) (l := []) (m := f.stk) Tryz.underlying22 Tryz.info2 rfl rfl rfl fndA (hf.s.le leA) (fun _ => rfl) (by simp; omega) (by simp; omega)) ?_
               rintro _ _ ⟨a7, c7, rfl, rfl⟩
               refine ⟨(hlA (h := by repeat first | exact trivial | refine ⟨clA, ?_⟩ | refine ⟨(Cl.row (j := th) hs1 leA (fun _ => rfl) hth (by omega) 1 _ rfl), ?_⟩ | refine ⟨(Cl.row (j := f.code) hs5 leA (fun _ => rfl) gth (by omega) 2 _ rfl), ?_⟩ | refine ⟨(Cl.row (j := f.pc - 1) (sz := 4) hs6 leA (fun _ => rfl) gpc (by omega) 0 _ rfl), ?_⟩)), ?_⟩
               refine XF.abs (e0 := ⟨6, 171, fun g => .slice (some ⟨g, 0, none⟩) 1 1, fun g => lsH I64 2 (some ⟨g, 0, none⟩) 1 [z]⟩) (hnd := by simp) 6 ⟨⟨_, rfl, rfl, rfl, rfl, rfl, rfl, fun q => Ef.litL I64 [z] Tryz.underlying22 Tryz.info2 rfl rfl rfl rfl rfl rfl (fun _ => rfl)⟩, trivial⟩ (fun gz171 => ?_) (hL := (hlA (h := by repeat first | exact trivial | refine ⟨clA, ?_⟩ | refine ⟨(Cl.row (j := th) hs1 leA (fun _ => rfl) hth (by omega) 1 _ rfl), ?_⟩ | refine ⟨(Cl.row (j := f.code) hs5 leA (fun _ => rfl) gth (by omega) 2 _ rfl), ?_⟩ | refine ⟨(Cl.row (j := f.pc - 1) (sz := 4) hs6 leA (fun _ => rfl) gpc (by omega) 0 _ rfl), ?_⟩)))
               change XF _ _ _ _ _ _ _ [] _ _ _ ((171, .slice (some ⟨gz171, 0, none⟩) 1 1) :: _) _ _ (lsH I64 2 (some ⟨gz171, 0, none⟩) 1 [z] :: _)
               refine XF.back ?_ (hL := (hlA (h := by repeat first | exact trivial | refine ⟨clA, ?_⟩ | refine ⟨(Cl.row (j := th) hs1 leA (fun _ => rfl) hth (by omega) 1 _ rfl), ?_⟩ | refine ⟨(Cl.row (j := f.code) hs5 leA (fun _ => rfl) gth (by omega) 2 _ rfl), ?_⟩ | refine ⟨(Cl.row (j := f.pc - 1) (sz := 4) hs6 leA (fun _ => rfl) gpc (by omega) 0 _ rfl), ?_⟩)))
               refine XD.ef 7 rfl (Ef.appA (f := I64) (l := [] ++ f.stk) (m := [z]) Tryz.underlying22 Tryz.info2 rfl rfl rfl fndA ((Sees.lsH _).le fndA) (fun _ => rfl) (by simp; omega) (by simp; omega)) ?_
               rintro _ _ ⟨a8, c8, rfl, rfl⟩
               refine ⟨(hlA (h := by repeat first | exact trivial | refine ⟨clA, ?_⟩ | refine ⟨(Cl.row (j := th) hs1 leA (fun _ => rfl) hth (by omega) 1 _ rfl), ?_⟩ | refine ⟨(Cl.row (j := f.code) hs5 leA (fun _ => rfl) gth (by omega) 2 _ rfl), ?_⟩ | refine ⟨(Cl.row (j := f.pc - 1) (sz := 4) hs6 leA (fun _ => rfl) gpc (by omega) 0 _ rfl), ?_⟩)), ?_⟩
               try rw [List.nil_append]
               refine dd [8] ?_
               refine stD 9 ?_
               refine XD.nil ?_
               refine xo 7 ?_
               refine XO.know 178 (.bool true) rfl (congrArg Value.bool (by first | rfl | (simp; done) | (simp [hv]; done) | (simp [hv, hcn]; done) | (rw [hg3]; rfl) | (rw [beq_eq_false_iff_ne.2 gne]; rfl) | (simp; omega) | (simp [hv]; omega) | (rw [bne_eq_false_iff_eq]; simp only [List.length_replicate]; omega) | (rw [beq_iff_eq]; assumption) | (rw [beq_eq_false_iff_ne]; assumption) | (rw [bne_iff_ne]; omega) | (rw [bne_eq_false_iff_eq]; omega) | exact decide_eq_true (by omega) | exact decide_eq_false (by omega))) ?_
               refine oo 3 ?_
               refine ldA ?_
               refine oo 1 ?_
               refine XO.cR Tryz.call22 (Same_ok (f := zFrm) (f2 := zFrm) ⟨Sees.nil _ _, Sees.nil _ _, Nat.zero_le _, Nat.zero_le _⟩ ⟨Sees.nil _ _, Sees.nil _ _, Nat.zero_le _, Nat.zero_le _⟩) ?_
               refine XO.know 184 (.bool true) rfl (congrArg Value.bool (decide_eq_true ⟨rfl, rfl, rfl, rfl⟩)) ?_
               refine oo 2 ?_
               refine XO.know 186 (.bool true) rfl (congrArg Value.bool (by first | rfl | (simp; done) | (simp [hv]; done) | (simp [hv, hcn]; done) | (rw [hg3]; rfl) | (rw [beq_eq_false_iff_ne.2 gne]; rfl) | (simp; omega) | (simp [hv]; omega) | (rw [bne_eq_false_iff_eq]; simp only [List.length_replicate]; omega) | (rw [beq_iff_eq]; assumption) | (rw [beq_eq_false_iff_ne]; assumption) | (rw [bne_iff_ne]; omega) | (rw [bne_eq_false_iff_eq]; omega) | exact decide_eq_true (by omega) | exact decide_eq_false (by omega))) ?_
               refine oo 9 ?_
               refine XO.cR Tryz.call10 (known_ok (gc.le leA) (g.le leA)) ?_
               refine ox 3 ?_
               refine X.sb [6] ?_
               refine X.retL (q) Tryz.func7 (res1 Tryz.results7 rfl) ⟨_, rfl, by first | rfl | (simp; done), rfl⟩
           · skip
             replace k3 := sp k3
             refine dd [5, 6, 7, 8, 9, 10, 11, 12, 13, 14, 15, 16, 17, 18, 19, 20, 21, 22, 23, 24, 25, 26, 27, 28, 29, 30, 31, 32, 33, 34] ?_
             refine XD.nil ?_
             refine xo 3 ?_
             refine ldA ?_
             refine XO.al Tryz.zeroValue28 fun n18 => ?_
             refine stA ?_
             refine ox 2 ?_
             refine X.sb [15, 14, 13, 12, 6, 5] ?_
             refine drw ?_
             refine dd [0, 1] ?_
             refine ldD 2 ?_
             refine dd [4] ?_
             refine ldD 5 ?_
             refine XD.le (q' := lsH I64 2 none 0 [] :: _) (Le.lsH_nil _ _ _) ?_
             refine XD.float (fl := [⟨6, 171, fun g => .slice (some ⟨g, 0, none⟩) 1 1, fun g => lsH I64 2 (some ⟨g, 0, none⟩) 1 [z]⟩]) ?_
             refine XF.ef 3 ⟨⟨_, rfl, rfl, rfl, rfl, rfl, rfl, fun q => Ef.litL I64 [z] Tryz.underlying22 Tryz.info2 rfl rfl rfl rfl rfl rfl (fun _ => rfl)⟩, trivial⟩ (Ef.appE (fe := I64) (l := []) (m := f.stk) Tryz.underlying22 Tryz.info2 rfl rfl rfl fndA (hf.s.le leA) (fun _ => rfl) (by simp; omega) (by simp; omega)) ?_
             rintro _ _ ⟨a7, c7, rfl, rfl⟩
             refine ⟨(hlA (h := by repeat first | exact trivial | refine ⟨clA, ?_⟩ | refine ⟨(Cl.row (j := th) hs1 leA (fun _ => rfl) hth (by omega) 1 _ rfl), ?_⟩ | refine ⟨(Cl.row (j := f.code) hs5 leA (fun _ => rfl) gth (by omega) 2 _ rfl), ?_⟩ | refine ⟨(Cl.row (j := f.pc - 1) (sz := 4) hs6 leA (fun _ => rfl) gpc (by omega) 0 _ rfl), ?_⟩)), ?_⟩
             refine XF.abs (e0 := ⟨6, 171, fun g => .slice (some ⟨g, 0, none⟩) 1 1, fun g => lsH I64 2 (some ⟨g, 0, none⟩) 1 [z]⟩) (hnd := by simp) 6 ⟨⟨_, rfl, rfl, rfl, rfl, rfl, rfl, fun q => Ef.litL I64 [z] Tryz.underlying22 Tryz.info2 rfl rfl rfl rfl rfl rfl (fun _ => rfl)⟩, trivial⟩ (fun gz171 => ?_) (hL := (hlA (h := by repeat first | exact trivial | refine ⟨clA, ?_⟩ | refine ⟨(Cl.row (j := th) hs1 leA (fun _ => rfl) hth (by omega) 1 _ rfl), ?_⟩ | refine ⟨(Cl.row (j := f.code) hs5 leA (fun _ => rfl) gth (by omega) 2 _ rfl), ?_⟩ | refine ⟨(Cl.row (j := f.pc - 1) (sz := 4) hs6 leA (fun _ => rfl) gpc (by omega) 0 _ rfl), ?_⟩)))
             change XF _ _ _ _ _ _ _ [] _ _ _ ((171, .slice (some ⟨gz171, 0, none⟩) 1 1) :: _) _ _ (lsH I64 2 (some ⟨gz171, 0, none⟩) 1 [z] :: _)
             refine XF.back ?_ (hL := (hlA (h := by repeat first | exact trivial | refine ⟨clA, ?_⟩ | refine ⟨(Cl.row (j := th) hs1 leA (fun _ => rfl) hth (by omega) 1 _ rfl), ?_⟩ | refine ⟨(Cl.row (j := f.code) hs5 leA (fun _ => rfl) gth (by omega) 2 _ rfl), ?_⟩ | refine ⟨(Cl.row (j := f.pc - 1) (sz := 4) hs6 leA (fun _ => rfl) gpc (by omega) 0 _ rfl), ?_⟩)))
             refine XD.ef 7 rfl (Ef.appA (f := I64) (l := [] ++ f.stk) (m := [z]) Tryz.underlying22 Tryz.info2 rfl rfl rfl fndA ((Sees.lsH _).le fndA) (fun _ => rfl) (by simp; omega) (by simp; omega)) ?_
             rintro _ _ ⟨a8, c8, rfl, rfl⟩
             refine ⟨(hlA (h := by repeat first | exact trivial | refine ⟨clA, ?_⟩ | refine ⟨(Cl.row (j := th) hs1 leA (fun _ => rfl) hth (by omega) 1 _ rfl), ?_⟩ | refine ⟨(Cl.row (j := f.code) hs5 leA (fun _ => rfl) gth (by omega) 2 _ rfl), ?_⟩ | refine ⟨(Cl.row (j := f.pc - 1) (sz := 4) hs6 leA (fun _ => rfl) gpc (by omega) 0 _ rfl), ?_⟩)), ?_⟩
             try rw [List.nil_append]
             refine dd [8] ?_
             refine stD 9 ?_
             refine XD.nil ?_
             refine xo 7 ?_
             refine XO.know 178 (.bool true) rfl (congrArg Value.bool (by first | rfl | (simp; done) | (simp [hv]; done) | (simp [hv, hcn]; done) | (rw [hg3]; rfl) | (rw [beq_eq_false_iff_ne.2 gne]; rfl) | (simp; omega) | (simp [hv]; omega) | (rw [bne_eq_false_iff_eq]; simp only [List.length_replicate]; omega) | (rw [beq_iff_eq]; assumption) | (rw [beq_eq_false_iff_ne]; assumption) | (rw [bne_iff_ne]; omega) | (rw [bne_eq_false_iff_eq]; omega) | exact decide_eq_true (by omega) | exact decide_eq_false (by omega))) ?_
             refine oo 3 ?_
             refine ldA ?_
             refine oo 1 ?_
             refine XO.cR Tryz.call22 (Same_ok (f := zFrm) (f2 := zFrm) ⟨Sees.nil _ _, Sees.nil _ _, Nat.zero_le _, Nat.zero_le _⟩ ⟨Sees.nil _ _, Sees.nil _ _, Nat.zero_le _, Nat.zero_le _⟩) ?_
             refine XO.know 184 (.bool true) rfl (congrArg Value.bool (decide_eq_true ⟨rfl, rfl, rfl, rfl⟩)) ?_
             refine oo 2 ?_
             refine XO.know 186 (.bool true) rfl (congrArg Value.bool (by first | rfl | (simp; done) | (simp [hv]; done) | (simp [hv, hcn]; done) | (rw [hg3]; rfl) | (rw [beq_eq_false_iff_ne.2 gne]; rfl) | (simp; omega) | (simp [hv]; omega) | (rw [bne_eq_false_iff_eq]; simp only [List.length_replicate]; omega) | (rw [beq_iff_eq]; assumption) | (rw [beq_eq_false_iff_ne]; assumption) | (rw [bne_iff_ne]; omega) | (rw [bne_eq_false_iff_eq]; omega) | exact decide_eq_true (by omega) | exact decide_eq_false (by omega))) ?_
             refine oo 9 ?_
             refine XO.cR Tryz.call10 (known_ok (gc.le leA) (g.le leA)) ?_
             refine ox 3 ?_
             refine X.sb [6] ?_
             refine X.retL (q) Tryz.func7 (res1 Tryz.results7 rfl) ⟨_, rfl, by first | rfl | (simp; done), rfl⟩
       · skip
         replace k2 := sp k2
         refine oo 13 ?_
         refine XO.know 114 (.bool false) rfl (congrArg Value.bool (by first | rfl | (simp; done) | (simp [hv]; done) | (simp [hv, hcn]; done) | (rw [hg3]; rfl) | (rw [beq_eq_false_iff_ne.2 gne]; rfl) | (simp; omega) | (simp [hv]; omega) | (rw [bne_eq_false_iff_eq]; simp only [List.length_replicate]; omega) | (rw [beq_iff_eq]; assumption) | (rw [beq_eq_false_iff_ne]; assumption) | (rw [bne_iff_ne]; omega) | (rw [bne_eq_false_iff_eq]; omega) | exact decide_eq_true (by omega) | exact decide_eq_false (by omega))) ?_
         refine ldA ?_
         refine oo 1 ?_
         refine XO.cR Tryz.call22 (Same_ok (f := zFrm) (f2 := zFrm) ⟨Sees.nil _ _, Sees.nil _ _, Nat.zero_le _, Nat.zero_le _⟩ ⟨Sees.nil _ _, Sees.nil _ _, Nat.zero_le _, Nat.zero_le _⟩) ?_
         refine XO.know 117 (.bool true) rfl (congrArg Value.bool (decide_eq_true ⟨rfl, rfl, rfl, rfl⟩)) ?_
         refine XO.pu (Pu.not rfl) ?_
         refine ox 2 ?_
         refine X.sb [119, 6, 5, 3] ?_
         refine X.know 119 (.bool false) rfl (congrArg Value.bool (by first | rfl | (simp; done) | (simp [hv]; done) | (simp [hv, hcn]; done) | (rw [hg3]; rfl) | (rw [beq_eq_false_iff_ne.2 gne]; rfl) | (simp; omega) | (simp [hv]; omega) | (rw [bne_eq_false_iff_eq]; simp only [List.length_replicate]; omega) | (rw [beq_iff_eq]; assumption) | (rw [beq_eq_false_iff_ne]; assumption) | (rw [bne_iff_ne]; omega) | (rw [bne_eq_false_iff_eq]; omega) | exact decide_eq_true (by omega) | exact decide_eq_false (by omega))) ?_
         refine xo 4 ?_
         refine ldA ?_
         refine oo 1 ?_
         refine ldA ?_
         refine oo 1 ?_
         refine ld ?_
         have hv1 : m.vars.length ≤ 9223372036854775807 := hq.nv
         refine XO.cX Tryz.call23 (Le.refl _) (Give_ok (f := f) (z := z) (gc.le leA) (g.le leA) (hq.le leA) (hf.le leA) ⟨by omega, by omega⟩) ?_
         rintro _ _ (⟨hg, la3, lc3, sa3, sc3, rfl, rfl⟩ | ⟨hg, rfl, rfl⟩)
         · skip
           obtain ⟨hg1, hg2, hg3⟩ := hg; obtain ⟨hg4, hg5⟩ := mayS_push.1 hg1; obtain ⟨gm1, gm2, gth, gm3, gm4, gm5⟩ := id hg4; have hv3 : vals [z] := by intro n hn; rw [List.mem_singleton.1 hn]; exact hg5
           refine oo 3 ?_
           refine XO.al Tryz.zeroValue28 fun n19 => ?_
           refine stA ?_
           refine ox 3 ?_
           refine drw ?_
           refine ldAD 0 ?_
           refine dd [1] ?_
           refine ldAD 2 ?_
           refine XD.cX 3 Tryz.call24 (Le.refl _) (RMay_ok (f := f) (less := 1) (hq.le leA) (hf.le leA) (by omega) (by omega)) ?_
           rintro _ _ ⟨⟨b1, rfl, hb1⟩, rfl⟩
           refine ⟨trivial, ?_⟩
           obtain rfl : b1 = true := hb1.2 hg4
           refine dd [4] ?_
           refine XD.know 133 (.bool true) rfl (congrArg Value.bool (by first | rfl | (simp; done) | (simp [hv]; done) | (simp [hv, hcn]; done) | (rw [hg3]; rfl) | (rw [beq_eq_false_iff_ne.2 gne]; rfl) | (simp; omega) | (simp [hv]; omega) | (rw [bne_eq_false_iff_eq]; simp only [List.length_replicate]; omega) | (rw [beq_iff_eq]; assumption) | (rw [beq_eq_false_iff_ne]; assumption) | (rw [bne_iff_ne]; omega) | (rw [bne_eq_false_iff_eq]; omega) | exact decide_eq_true (by omega) | exact decide_eq_false (by omega))) ?_
           refine dd [5] ?_
           refine ldD 6 ?_
           refine XD.ef 7 rfl (Ef.litL I64 [z] Tryz.underlying22 Tryz.info2 rfl rfl rfl rfl rfl rfl (fun _ => rfl)) ?_
           rintro _ _ ⟨gz136, rfl, rfl⟩
           refine ⟨trivial, ?_⟩
           refine XD.cRL 8 Tryz.call13 (RValues_ok (l := [z]) ((Sees.lsH _).le fndA) (show 1 ≤ 9223372036854775807 by decide)) ?_
           refine dd [9, 10] ?_
           refine XD.know 139 (.bool true) rfl (congrArg Value.bool (by first | rfl | (simp; done) | (simp [hv]; done) | (simp [hv, hcn]; done) | (rw [hg3]; rfl) | (rw [beq_eq_false_iff_ne.2 gne]; rfl) | (simp; omega) | (simp [hv]; omega) | (rw [bne_eq_false_iff_eq]; simp only [List.length_replicate]; omega) | (rw [beq_iff_eq]; assumption) | (rw [beq_eq_false_iff_ne]; assumption) | (rw [bne_iff_ne]; omega) | (rw [bne_eq_false_iff_eq]; omega) | exact decide_eq_true (by omega) | exact decide_eq_false (by omega))) ?_
           refine dd [11, 12] ?_
           refine ldD 13 ?_
           refine dd [14, 15, 16] ?_
           refine XD.know 145 (.bool true) rfl (congrArg Value.bool (by first | rfl | (simp; done) | (simp [hv]; done) | (simp [hv, hcn]; done) | (rw [hg3]; rfl) | (rw [beq_eq_false_iff_ne.2 gne]; rfl) | (simp; omega) | (simp [hv]; omega) | (rw [bne_eq_false_iff_eq]; simp only [List.length_replicate]; omega) | (rw [beq_iff_eq]; assumption) | (rw [beq_eq_false_iff_ne]; assumption) | (rw [bne_iff_ne]; omega) | (rw [bne_eq_false_iff_eq]; omega) | exact decide_eq_true (by omega) | exact decide_eq_false (by omega))) ?_
           refine dd [17] ?_
           refine ldD 18 ?_
           refine dd [19, 20] ?_
           refine ldD 21 ?_
           have gpc : (f.pc - 1).toNat < m.threads[f.code.toNat].ins.length := (by omega); have gql := hq.x _ (List.getElem_mem gth); have gni := gql.ni; have gsi := gql.i; have glen := flatMap_len (f := insC) (sz := 4) (fun _ => rfl) m.threads[f.code.toNat].ins; have gp65 := (vOk gm1 gth).2.1
           have gxe : (thrAt m f.code).ins.getD (f.pc.toNat - 1) zIns = m.threads[f.code.toNat].ins[(f.pc - 1).toNat] := by rw [show thrAt m f.code = m.threads[f.code.toNat] from getD_lt gth, show f.pc.toNat - 1 = (f.pc - 1).toNat by omega]; exact getD_lt gpc
           rw [gxe] at hg3
           refine XD.adr hq.t (by rw [hlen]; omega) (fun b5 o5 e5 => ?_)
           have hs5 := hq.t; rw [e5] at hs5
           refine XD.know 147 (.slice (some ⟨b5, o5, none⟩) m.threads.length m.tc) rfl (by rw [e5]) ?_
           refine dd [22, 23] ?_
           refine ldD 24 ?_ (hc := (Cl.row (j := f.code) hs5 leA (fun _ => rfl) gth (by omega) 2 _ rfl))
           refine dd [25, 26] ?_
           refine ldD 27 ?_
           refine dd [28] ?_
           refine XD.adr gsi (by rw [glen]; omega) (fun b6 o6 e6 => ?_)
           have hs6 := gsi; rw [e6] at hs6
           refine XD.know 153 (.slice (some ⟨b6, o6, none⟩) m.threads[f.code.toNat].ins.length m.threads[f.code.toNat].ic) rfl (by rw [e6]) ?_
           refine dd [29, 30] ?_
           refine ldD 31 ?_ (hc := (Cl.row (j := f.pc - 1) (sz := 4) hs6 leA (fun _ => rfl) gpc (by omega) 0 _ rfl))
           refine dd [32, 33, 34] ?_
           refine XD.nil ?_
           refine xo 3 ?_
           refine ldA ?_
           refine XO.al Tryz.zeroValue28 fun n20 => ?_
           refine stA ?_
           refine ox 2 ?_
           refine X.sb [15, 14, 13, 12, 6, 5] ?_
           refine drw ?_
           refine dd [0, 1] ?_
           refine ldD 2 ?_
           refine dd [4] ?_
           refine ldD 5 ?_
           refine XD.le (q' := lsH I64 2 none 0 [] :: _) (Le.lsH_nil _ _ _) ?_
           refine XD.float (fl := [⟨6, 171, fun g => .slice (some ⟨g, 0, none⟩) 1 1, fun g => lsH I64 2 (some ⟨g, 0, none⟩) 1 [z]⟩]) ?_
           refine XF.ef 3 ⟨⟨_, rfl, rfl, rfl, rfl, rfl, rfl, fun q => Ef.litL I64 [z] Tryz.underlying22 Tryz.info2 rfl rfl rfl rfl rfl rfl (fun _ => rfl)⟩, trivial⟩ (Ef.appE (fe := I64) (l := []) (m := f.stk) Tryz.underlying22 Tryz.info2 rfl rfl rfl fndA (hf.s.le leA) (fun _ => rfl) (by simp; omega) (by simp; omega)) ?_
           rintro _ _ ⟨a7, c7, rfl, rfl⟩
           refine ⟨(hlA (h := by repeat first | exact trivial | refine ⟨clA, ?_⟩ | refine ⟨(Cl.row (j := th) hs1 leA (fun _ => rfl) hth (by omega) 1 _ rfl), ?_⟩ | refine ⟨(Cl.row (j := f.code) hs5 leA (fun _ => rfl) gth (by omega) 2 _ rfl), ?_⟩ | refine ⟨(Cl.row (j := f.pc - 1) (sz := 4) hs6 leA (fun _ => rfl) gpc (by omega) 0 _ rfl), ?_⟩)), ?_⟩
           refine XF.abs (e0 := ⟨6, 171, fun g => .slice (some ⟨g, 0, none⟩) 1 1, fun g => lsH I64 2 (some ⟨g, 0, none⟩) 1 [z]⟩) (hnd := by simp) 6 ⟨⟨_, rfl, rfl, rfl, rfl, rfl, rfl, fun q => Ef.litL I64 [z] Tryz.underlying22 Tryz.info2 rfl rfl rfl rfl rfl rfl (fun _ => rfl)⟩, trivial⟩ (fun gz171 => ?_) (hL := (hlA (h := by repeat first | exact trivial | refine ⟨clA, ?_⟩ | refine ⟨(Cl.row (j := th) hs1 leA (fun _ => rfl) hth (by omega) 1 _ rfl), ?_⟩ | refine ⟨(Cl.row (j := f.code) hs5 leA (fun _ => rfl) gth (by omega) 2 _ rfl), ?_⟩ | refine ⟨(Cl.row (j := f.pc - 1) (sz := 4) hs6 leA (fun _ => rfl) gpc (by omega) 0 _ rfl), ?_⟩)))
           change XF _ _ _ _ _ _ _ [] _ _ _ ((171, .slice (some ⟨gz171, 0, none⟩) 1 1) :: _) _ _ (lsH I64 2 (some ⟨gz171, 0, none⟩) 1 [z] :: _)
           refine XF.back ?_ (hL := (hlA (h := by repeat first | exact trivial | refine ⟨clA, ?_⟩ | refine ⟨(Cl.row (j := th) hs1 leA (fun _ => rfl) hth (by omega) 1 _ rfl), ?_⟩ | refine ⟨(Cl.row (j := f.code) hs5 leA (fun _ => rfl) gth (by omega) 2 _ rfl), ?_⟩ | refine ⟨(Cl.row (j := f.pc - 1) (sz := 4) hs6 leA (fun _ => rfl) gpc (by omega) 0 _ rfl), ?_⟩)))
           refine XD.ef 7 rfl (Ef.appA (f := I64) (l := [] ++ f.stk) (m := [z]) Tryz.underlying22 Tryz.info2 rfl rfl rfl fndA ((Sees.lsH _).le fndA) (fun _ => rfl) (by simp; omega) (by simp; omega)) ?_
           rintro _ _ ⟨a8, c8, rfl, rfl⟩
           refine ⟨(hlA (h := by repeat first | exact trivial | refine ⟨clA, ?_⟩ | refine ⟨(Cl.row (j := th) hs1 leA (fun _ => rfl) hth (by omega) 1 _ rfl), ?_⟩ | refine ⟨(Cl.row (j := f.code) hs5 leA (fun _ => rfl) gth (by omega) 2 _ rfl), ?_⟩ | refine ⟨(Cl.row (j := f.pc - 1) (sz := 4) hs6 leA (fun _ => rfl) gpc (by omega) 0 _ rfl), ?_⟩)), ?_⟩
           try rw [List.nil_append]
           refine dd [8] ?_
           refine stD 9 ?_
           refine XD.nil ?_
           refine xo 7 ?_
           refine XO.know 178 (.bool true) rfl (congrArg Value.bool (by first | rfl | (simp; done) | (simp [hv]; done) | (simp [hv, hcn]; done) | (rw [hg3]; rfl) | (rw [beq_eq_false_iff_ne.2 gne]; rfl) | (simp; omega) | (simp [hv]; omega) | (rw [bne_eq_false_iff_eq]; simp only [List.length_replicate]; omega) | (rw [beq_iff_eq]; assumption) | (rw [beq_eq_false_iff_ne]; assumption) | (rw [bne_iff_ne]; omega) | (rw [bne_eq_false_iff_eq]; omega) | exact decide_eq_true (by omega) | exact decide_eq_false (by omega))) ?_
           refine oo 1 ?_
           refine XO.pu (Pu.not rfl) ?_
           refine oo 1 ?_
           refine XO.know 181 (.bool false) rfl (congrArg Value.bool (by first | rfl | (simp; done) | (simp [hv]; done) | (simp [hv, hcn]; done) | (rw [hg3]; rfl) | (rw [beq_eq_false_iff_ne.2 gne]; rfl) | (simp; omega) | (simp [hv]; omega) | (rw [bne_eq_false_iff_eq]; simp only [List.length_replicate]; omega) | (rw [beq_iff_eq]; assumption) | (rw [beq_eq_false_iff_ne]; assumption) | (rw [bne_iff_ne]; omega) | (rw [bne_eq_false_iff_eq]; omega) | exact decide_eq_true (by omega) | exact decide_eq_false (by omega))) ?_
           refine oo 7 ?_
           refine XO.know 188 (.bool true) rfl (congrArg Value.bool (by first | rfl | (simp; done) | (simp [hv]; done) | (simp [hv, hcn]; done) | (rw [hg3]; rfl) | (rw [beq_eq_false_iff_ne.2 gne]; rfl) | (simp; omega) | (simp [hv]; omega) | (rw [bne_eq_false_iff_eq]; simp only [List.length_replicate]; omega) | (rw [beq_iff_eq]; assumption) | (rw [beq_eq_false_iff_ne]; assumption) | (rw [bne_iff_ne]; omega) | (rw [bne_eq_false_iff_eq]; omega) | exact decide_eq_true (by omega) | exact decide_eq_false (by omega))) ?_
           refine ldA ?_
           refine ldA ?_
           refine XO.cR Tryz.call22 (Same_ok (f := ⟨f.code, f.pc, f.loc, f.stk ++ [z], la3, lc3, sa3, sc3⟩) (f2 := ⟨f.code, f.pc, f.loc, f.stk ++ [z], f.la, f.lc, a8, c8⟩) ⟨(Sees.lsH _).le fndA, (Sees.lsH _).le fndA, hf.nl, (by simp; omega)⟩ ⟨hf.l.le leA, (Sees.lsH _).le fndA, hf.nl, (by simp; omega)⟩) ?_
           refine XO.know 191 (.bool true) rfl (congrArg Value.bool (decide_eq_true ⟨rfl, rfl, rfl, rfl⟩)) ?_
           refine oo 4 ?_
           refine XO.cR Tryz.call10 (known_ok (gc.le leA) (g.le leA)) ?_
           refine XO.pu (Pu.pick rfl rfl rfl) ?_
           refine ox 2 ?_
           refine X.sb [6] ?_
           refine X.retL (q) Tryz.func7 (res1 Tryz.results7 rfl) ⟨_, rfl, by first | rfl | (simp; done), rfl⟩
         · skip
           refine oo 3 ?_
           refine XO.al Tryz.zeroValue28 fun n21 => ?_
           refine stA ?_
           refine ox 3 ?_
           refine drw ?_
           refine ldAD 0 ?_
           refine dd [1] ?_
           refine ldAD 2 ?_
           refine XD.cX 3 Tryz.call24 (Le.refl _) (RMay_ok (f := f) (less := 1) (hq.le leA) (hf.le leA) (by omega) (by omega)) ?_
           rintro _ _ ⟨⟨b1, rfl, hb1⟩, rfl⟩
           refine ⟨trivial, ?_⟩
           refine dd [4] ?_
           refine XD.part 133 rfl (fun k3 => ?_) (fun k3 => ?_)
           · skip
             replace k3 := sp k3
             refine dd [5] ?_
             refine ldD 6 ?_
             refine XD.ef 7 rfl (Ef.litL I64 [z] Tryz.underlying22 Tryz.info2 rfl rfl rfl rfl rfl rfl (fun _ => rfl)) ?_
             rintro _ _ ⟨gz136, rfl, rfl⟩
             refine ⟨trivial, ?_⟩
             refine XD.cRL 8 Tryz.call13 (RValues_ok (l := [z]) ((Sees.lsH _).le fndA) (show 1 ≤ 9223372036854775807 by decide)) ?_
             refine dd [9, 10] ?_
             refine XD.part 139 rfl (fun k4 => ?_) (fun k4 => ?_)
             · skip
               replace k4 := sp k4
               refine dd [11, 12] ?_
               refine ldD 13 ?_
               refine dd [14, 15, 16] ?_
               refine XD.part 145 rfl (fun k5 => ?_) (fun k5 => ?_)
               · skip
                 replace k5 := sp k5
                 refine dd [17] ?_
                 refine ldD 18 ?_
                 refine dd [19, 20] ?_
                 refine ldD 21 ?_
                 have hmf := hb1.1 (by assumption); obtain ⟨gm1, gm2, gth, gm3, gm4, gm5⟩ := id hmf
                 have gpc : (f.pc - 1).toNat < m.threads[f.code.toNat].ins.length := (by omega); have gql := hq.x _ (List.getElem_mem gth); have gni := gql.ni; have gsi := gql.i; have glen := flatMap_len (f := insC) (sz := 4) (fun _ => rfl) m.threads[f.code.toNat].ins; have gp65 := (vOk gm1 gth).2.1
                 have gxe : (thrAt m f.code).ins.getD (f.pc.toNat - 1) zIns = m.threads[f.code.toNat].ins[(f.pc - 1).toNat] := by rw [show thrAt m f.code = m.threads[f.code.toNat] from getD_lt gth, show f.pc.toNat - 1 = (f.pc - 1).toNat by omega]; exact getD_lt gpc
                 have gne : m.threads[f.code.toNat].ins[(f.pc - 1).toNat].c ≠ 30 := fun h => hg ⟨mayS_push.2 ⟨hmf, by have h5 : vals [z] := (by assumption); exact h5 z (List.mem_singleton.2 rfl)⟩, by omega, by rw [gxe]; exact h⟩
                 refine XD.adr hq.t (by rw [hlen]; omega) (fun b5 o5 e5 => ?_)
                 have hs5 := hq.t; rw [e5] at hs5
                 refine XD.know 147 (.slice (some ⟨b5, o5, none⟩) m.threads.length m.tc) rfl (by rw [e5]) ?_
                 refine dd [22, 23] ?_
                 refine ldD 24 ?_ (hc := (Cl.row (j := f.code) hs5 leA (fun _ => rfl) gth (by omega) 2 _ rfl))
                 refine dd [25, 26] ?_
                 refine ldD 27 ?_
                 refine dd [28] ?_
                 refine XD.adr gsi (by rw [glen]; omega) (fun b6 o6 e6 => ?_)
                 have hs6 := gsi; rw [e6] at hs6
                 refine XD.know 153 (.slice (some ⟨b6, o6, none⟩) m.threads[f.code.toNat].ins.length m.threads[f.code.toNat].ic) rfl (by rw [e6]) ?_
                 refine dd [29, 30] ?_
                 refine ldD 31 ?_ (hc := (Cl.row (j := f.pc - 1) (sz := 4) hs6 leA (fun _ => rfl) gpc (by omega) 0 _ rfl))
                 refine dd [32, 33, 34] ?_
                 refine XD.nil ?_
                 refine xo 3 ?_
                 refine ldA ?_
                 refine XO.al Tryz.zeroValue28 fun n22 => ?_
                 refine stA ?_
                 refine ox 2 ?_
                 refine X.sb [15, 14, 13, 12, 6, 5] ?_
                 refine drw ?_
                 refine dd [0, 1] ?_
                 refine ldD 2 ?_
                 refine dd [4] ?_
                 refine ldD 5 ?_
                 refine XD.le (q' := lsH I64 2 none 0 [] :: _) (Le.lsH_nil _ _ _) ?_
                 refine XD.float (fl := [⟨6, 171, fun g => .slice (some ⟨g, 0, none⟩) 1 1, fun g => lsH I64 2 (some ⟨g, 0, none⟩) 1 [z]⟩]) ?_
                 refine XF.ef 3 ⟨⟨_, rfl, rfl, rfl, rfl, rfl, rfl, fun q => Ef.litL I64 [z] Tryz.underlying22 Tryz.info2 rfl rfl rfl rfl rfl rfl (fun _ => rfl)⟩, trivial⟩ (Ef.appE (fe := I64) (l := []) (m := f.stk) Tryz.underlying22 Tryz.info2 rfl rfl rfl fndA (hf.s.le leA) (fun _ => rfl) (by simp; omega) (by simp; omega)) ?_
                 rintro _ _ ⟨a7, c7, rfl, rfl⟩
                 refine ⟨(hlA (h := by repeat first | exact trivial | refine ⟨clA, ?_⟩ | refine ⟨(Cl.row (j := th) hs1 leA (fun _ => rfl) hth (by omega) 1 _ rfl), ?_⟩ | refine ⟨(Cl.row (j := f.code) hs5 leA (fun _ => rfl) gth (by omega) 2 _ rfl), ?_⟩ | refine ⟨(Cl.row (j := f.pc - 1) (sz := 4) hs6 leA (fun _ => rfl) gpc (by omega) 0 _ rfl), ?_⟩)), ?_⟩
                 refine XF.abs (e0 := ⟨6, 171, fun g => .slice (some ⟨g, 0, none⟩) 1 1, fun g => lsH I64 2 (some ⟨g, 0, none⟩) 1 [z]⟩) (hnd := by simp) 6 ⟨⟨_, rfl, rfl, rfl, rfl, rfl, rfl, fun q => Ef.litL I64 [z] Tryz.underlying22 Tryz.info2 rfl rfl rfl rfl rfl rfl (fun _ => rfl)⟩, trivial⟩ (fun gz171 => ?_) (hL := (hlA (h := by repeat first | exact trivial | refine ⟨clA, ?_⟩ | refine ⟨(Cl.row (j := th) hs1 leA (fun _ => rfl) hth (by omega) 1 _ rfl), ?_⟩ | refine ⟨(Cl.row (j := f.code) hs5 leA (fun _ => rfl) gth (by omega) 2 _ rfl), ?_⟩ | refine ⟨(Cl.row (j := f.pc - 1) (sz := 4) hs6 leA (fun _ => rfl) gpc (by omega) 0 _ rfl), ?_⟩)))
                 change XF _ _ _ _ _ _ _ [] _ _ _ ((171, .slice (some ⟨gz171, 0, none⟩) 1 1) :: _) _ _ (lsH I64 2 (some ⟨gz171, 0, none⟩) 1 [z] :: _)
                 refine XF.back ?_ (hL := (hlA (h := by repeat first | exact trivial | refine ⟨clA, ?_⟩ | refine ⟨(Cl.row (j := th) hs1 leA (fun _ => rfl) hth (by omega) 1 _ rfl), ?_⟩ | refine ⟨(Cl.row (j := f.code) hs5 leA (fun _ => rfl) gth (by omega) 2 _ rfl), ?_⟩ | refine ⟨(Cl.row (j := f.pc - 1) (sz := 4) hs6 leA (fun _ => rfl) gpc (by omega) 0 _ rfl), ?_⟩)))
                 refine XD.ef 7 rfl (Ef.appA (f := I64) (l := [] ++ f.stk) (m := [z]) Tryz.underlying22 Tryz.info2 rfl rfl rfl fndA ((Sees.lsH _).le fndA) (fun _ => rfl) (by simp; omega) (by simp; omega)) ?_
                 rintro _ _ ⟨a8, c8, rfl, rfl⟩
                 refine ⟨(hlA (h := by repeat first | exact trivial | refine ⟨clA, ?_⟩ | refine ⟨(Cl.row (j := th) hs1 leA (fun _ => rfl) hth (by omega) 1 _ rfl), ?_⟩ | refine ⟨(Cl.row (j := f.code) hs5 leA (fun _ => rfl) gth (by omega) 2 _ rfl), ?_⟩ | refine ⟨(Cl.row (j := f.pc - 1) (sz := 4) hs6 leA (fun _ => rfl) gpc (by omega) 0 _ rfl), ?_⟩)), ?_⟩
                 try rw [List.nil_append]
                 refine dd [8] ?_
                 refine stD 9 ?_
                 refine XD.nil ?_
                 refine xo 7 ?_
                 refine XO.know 178 (.bool true) rfl (congrArg Value.bool (by first | rfl | (simp; done) | (simp [hv]; done) | (simp [hv, hcn]; done) | (rw [hg3]; rfl) | (rw [beq_eq_false_iff_ne.2 gne]; rfl) | (simp; omega) | (simp [hv]; omega) | (rw [bne_eq_false_iff_eq]; simp only [List.length_replicate]; omega) | (rw [beq_iff_eq]; assumption) | (rw [beq_eq_false_iff_ne]; assumption) | (rw [bne_iff_ne]; omega) | (rw [bne_eq_false_iff_eq]; omega) | exact decide_eq_true (by omega) | exact decide_eq_false (by omega))) ?_
                 refine oo 1 ?_
                 refine XO.pu (Pu.not rfl) ?_
                 refine oo 1 ?_
                 refine XO.know 181 (.bool true) rfl (congrArg Value.bool (by first | rfl | (simp; done) | (simp [hv]; done) | (simp [hv, hcn]; done) | (rw [hg3]; rfl) | (rw [beq_eq_false_iff_ne.2 gne]; rfl) | (simp; omega) | (simp [hv]; omega) | (rw [bne_eq_false_iff_eq]; simp only [List.length_replicate]; omega) | (rw [beq_iff_eq]; assumption) | (rw [beq_eq_false_iff_ne]; assumption) | (rw [bne_iff_ne]; omega) | (rw [bne_eq_false_iff_eq]; omega) | exact decide_eq_true (by omega) | exact decide_eq_false (by omega))) ?_
                 refine ldA ?_
                 refine oo 1 ?_
                 refine XO.cR Tryz.call22 (Same_ok (f := zFrm) (f2 := zFrm) ⟨Sees.nil _ _, Sees.nil _ _, Nat.zero_le _, Nat.zero_le _⟩ ⟨Sees.nil _ _, Sees.nil _ _, Nat.zero_le _, Nat.zero_le _⟩) ?_
                 refine XO.know 184 (.bool true) rfl (congrArg Value.bool (decide_eq_true ⟨rfl, rfl, rfl, rfl⟩)) ?_
                 refine oo 2 ?_
                 refine XO.know 186 (.bool true) rfl (congrArg Value.bool (by first | rfl | (simp; done) | (simp [hv]; done) | (simp [hv, hcn]; done) | (rw [hg3]; rfl) | (rw [beq_eq_false_iff_ne.2 gne]; rfl) | (simp; omega) | (simp [hv]; omega) | (rw [bne_eq_false_iff_eq]; simp only [List.length_replicate]; omega) | (rw [beq_iff_eq]; assumption) | (rw [beq_eq_false_iff_ne]; assumption) | (rw [bne_iff_ne]; omega) | (rw [bne_eq_false_iff_eq]; omega) | exact decide_eq_true (by omega) | exact decide_eq_false (by omega))) ?_
                 refine oo 9 ?_
                 refine XO.cR Tryz.call10 (known_ok (gc.le leA) (g.le leA)) ?_
                 refine ox 3 ?_
                 refine X.sb [6] ?_
                 refine X.retL (q) Tryz.func7 (res1 Tryz.results7 rfl) ⟨_, rfl, by first | rfl | (simp; done), rfl⟩
               · skip
                 replace k5 := sp k5
                 refine dd [17, 18, 19, 20, 21, 22, 23, 24, 25, 26, 27, 28, 29, 30, 31, 32, 33, 34] ?_
                 refine XD.nil ?_
                 refine xo 3 ?_
                 refine ldA ?_
                 refine XO.al Tryz.zeroValue28 fun n23 => ?_
                 refine stA ?_
                 refine ox 2 ?_
                 refine X.sb [15, 14, 13, 12, 6, 5] ?_
                 refine drw ?_
                 refine dd [0, 1] ?_
                 refine ldD 2 ?_
                 refine dd [4] ?_
                 refine ldD 5 ?_
                 refine XD.le (q' := lsH I64 2 none 0 [] :: _) (Le.lsH_nil _ _ _) ?_
                 refine XD.float (fl := [⟨6, 171, fun g => .slice (some ⟨g, 0, none⟩) 1 1, fun g => lsH I64 2 (some ⟨g, 0, none⟩) 1 [z]⟩]) ?_
                 refine XF.ef 3 ⟨⟨_, rfl, rfl, rfl, rfl, rfl, rfl, fun q => Ef.litL I64 [z] Tryz.underlying22 Tryz.info2 rfl rfl rfl rfl rfl rfl (fun _ => rfl)⟩, trivial⟩ (Ef.appE (fe := I64) (l := []) (m := f.stk) Tryz.underlying22 Tryz.info2 rfl rfl rfl fndA (hf.s.le leA) (fun _ => rfl) (by simp; omega) (by simp; omega)) ?_
                 rintro _ _ ⟨a7, c7, rfl, rfl⟩
                 refine ⟨(hlA (h := by repeat first | exact trivial | refine ⟨clA, ?_⟩ | refine ⟨(Cl.row (j := th) hs1 leA (fun _ => rfl) hth (by omega) 1 _ rfl), ?_⟩ | refine ⟨(Cl.row (j := f.code) hs5 leA (fun _ => rfl) gth (by omega) 2 _ rfl), ?_⟩ | refine ⟨(Cl.row (j := f.pc - 1) (sz := 4) hs6 leA (fun _ => rfl) gpc (by omega) 0 _ rfl), ?_⟩)), ?_⟩
                 refine XF.abs (e0 := ⟨6, 171, fun g => .slice (some ⟨g, 0, none⟩) 1 1, fun g => lsH I64 2 (some ⟨g, 0, none⟩) 1 [z]⟩) (hnd := by simp) 6 ⟨⟨_, rfl, rfl, rfl, rfl, rfl, rfl, fun q => Ef.litL I64 [z] Tryz.underlying22 Tryz.info2 rfl rfl rfl rfl rfl rfl (fun _ => rfl)⟩, trivial⟩ (fun gz171 => ?_) (hL := (hlA (h := by repeat first | exact trivial | refine ⟨clA, ?_⟩ | refine ⟨(Cl.row (j := th) hs1 leA (fun _ => rfl) hth (by omega) 1 _ rfl), ?_⟩ | refine ⟨(Cl.row (j := f.code) hs5 leA (fun _ => rfl) gth (by omega) 2 _ rfl), ?_⟩ | refine ⟨(Cl.row (j := f.pc - 1) (sz := 4) hs6 leA (fun _ => rfl) gpc (by omega) 0 _ rfl), ?_⟩)))
                 change XF _ _ _ _ _ _ _ [] _ _ _ ((171, .slice (some ⟨gz171, 0, none⟩) 1 1) :: _) _ _ (lsH I64 2 (some ⟨gz171, 0, none⟩) 1 [z] :: _)
                 refine XF.back ?_ (hL := (hlA (h := by repeat first | exact trivial | refine ⟨clA, ?_⟩ | refine ⟨(Cl.row (j := th) hs1 leA (fun _ => rfl) hth (by omega) 1 _ rfl), ?_⟩ | refine ⟨(Cl.row (j := f.code) hs5 leA (fun _ => rfl) gth (by omega) 2 _ rfl), ?_⟩ | refine ⟨(Cl.row (j := f.pc - 1) (sz := 4) hs6 leA (fun _ => rfl) gpc (by omega) 0 _ rfl), ?_⟩)))
                 refine XD.ef 7 rfl (Ef.appA (f := I64) (l := [] ++ f.stk) (m := [z]) Tryz.underlying22 Tryz.info2 rfl rfl rfl fndA ((Sees.lsH _).le fndA) (fun _ => rfl) (by simp; omega) (by simp; omega)) ?_
                 rintro _ _ ⟨a8, c8, rfl, rfl⟩
                 refine ⟨(hlA (h := by repeat first | exact trivial | refine ⟨clA, ?_⟩ | refine ⟨(Cl.row (j := th) hs1 leA (fun _ => rfl) hth (by omega) 1 _ rfl), ?_⟩ | refine ⟨(Cl.row (j := f.code) hs5 leA (fun _ => rfl) gth (by omega) 2 _ rfl), ?_⟩ | refine ⟨(Cl.row (j := f.pc - 1) (sz := 4) hs6 leA (fun _ => rfl) gpc (by omega) 0 _ rfl), ?_⟩)), ?_⟩
                 try rw [List.nil_append]
                 refine dd [8] ?_
                 refine stD 9 ?_
                 refine XD.nil ?_
                 refine xo 7 ?_
                 refine XO.know 178 (.bool true) rfl (congrArg Value.bool (by first | rfl | (simp; done) | (simp [hv]; done) | (simp [hv, hcn]; done) | (rw [hg3]; rfl) | (rw [beq_eq_false_iff_ne.2 gne]; rfl) | (simp; omega) | (simp [hv]; omega) | (rw [bne_eq_false_iff_eq]; simp only [List.length_replicate]; omega) | (rw [beq_iff_eq]; assumption) | (rw [beq_eq_false_iff_ne]; assumption) | (rw [bne_iff_ne]; omega) | (rw [bne_eq_false_iff_eq]; omega) | exact decide_eq_true (by omega) | exact decide_eq_false (by omega))) ?_
                 refine oo 3 ?_
                 refine ldA ?_
                 refine oo 1 ?_
                 refine XO.cR Tryz.call22 (Same_ok (f := zFrm) (f2 := zFrm) ⟨Sees.nil _ _, Sees.nil _ _, Nat.zero_le _, Nat.zero_le _⟩ ⟨Sees.nil _ _, Sees.nil _ _, Nat.zero_le _, Nat.zero_le _⟩) ?_
                 refine XO.know 184 (.bool true) rfl (congrArg Value.bool (decide_eq_true ⟨rfl, rfl, rfl, rfl⟩)) ?_
                 refine oo 2 ?_
                 refine XO.know 186 (.bool true) rfl (congrArg Value.bool (by first | rfl | (simp; done) | (simp [hv]; done) | (simp [hv, hcn]; done) | (rw [hg3]; rfl) | (rw [beq_eq_false_iff_ne.2 gne]; rfl) | (simp; omega) | (simp [hv]; omega) | (rw [bne_eq_false_iff_eq]; simp only [List.length_replicate]; omega) | (rw [beq_iff_eq]; assumption) | (rw [beq_eq_false_iff_ne]; assumption) | (rw [bne_iff_ne]; omega) | (rw [bne_eq_false_iff_eq]; omega) | exact decide_eq_true (by omega) | exact decide_eq_false (by omega))) ?_
                 refine oo 9 ?_
                 refine XO.cR Tryz.call10 (known_ok (gc.le leA) (g.le leA)) ?_
                 refine ox 3 ?_
                 refine X.sb [6] ?_
                 refine X.retL (q) Tryz.func7 (res1 Tryz.results7 rfl) ⟨_, rfl, by first | rfl | (simp; done), rfl⟩
             · skip
               replace k4 := sp k4
               refine dd [11, 12, 13, 14, 15, 16, 17, 18, 19, 20, 21, 22, 23, 24, 25, 26, 27, 28, 29, 30, 31, 32, 33, 34] ?_
               refine XD.nil ?_
               refine xo 3 ?_
               refine ldA ?_
               refine XO.al Tryz.zeroValue28 fun n24 => ?_
               refine stA ?_
               refine ox 2 ?_
               refine X.sb [15, 14, 13, 12, 6, 5] ?_
               refine drw ?_
               refine dd [0, 1] ?_
               refine ldD 2 ?_
               refine dd [4] ?_
               refine ldD 5 ?_
               refine XD.le (q' := lsH I64 2 none 0 [] :: _) (Le.lsH_nil _ _ _) ?_
               refine XD.float (fl := [⟨6, 171, fun g => .slice (some ⟨g, 0, none⟩) 1 1, fun g => lsH I64 2 (some ⟨g, 0, none⟩) 1 [z]⟩]) ?_
               refine XF.ef 3 ⟨⟨_, rfl, rfl, rfl, rfl, rfl, rfl, fun q => Ef.litL I64 [z] Tryz.underlying22 Tryz.info2 rfl rfl rfl rfl rfl rfl (fun _ => rfl)⟩, trivial⟩ (Ef.appE (fe := I64) (l := []) (m := f.stk) Tryz.underlying22 Tryz.info2 rfl rfl rfl fndA (hf.s.le leA) (fun _ => rfl) (by simp; omega) (by simp; omega)) ?_
               rintro _ _ ⟨a7, c7, rfl, rfl⟩
               refine ⟨(hlA (h := by repeat first | exact trivial | refine ⟨clA, ?_⟩ | refine ⟨(Cl.row (j := th) hs1 leA (fun _ => rfl) hth (by omega) 1 _ rfl), ?_⟩ | refine ⟨(Cl.row (j := f.code) hs5 leA (fun _ => rfl) gth (by omega) 2 _ rfl), ?_⟩ | refine ⟨(Cl.row (j := f.pc - 1) (sz := 4) hs6 leA (fun _ => rfl) gpc (by omega) 0 _ rfl), ?_⟩)), ?_⟩
               refine XF.abs (e0 := ⟨6, 171, fun g => .slice (some ⟨g, 0, none⟩) 1 1, fun g => lsH I64 2 (some ⟨g, 0, none⟩) 1 [z]⟩) (hnd := by simp) 6 ⟨⟨_, rfl, rfl, rfl, rfl, rfl, rfl, fun q => Ef.litL I64 [z] Tryz.underlying22 Tryz.info2 rfl rfl rfl rfl rfl rfl (fun _ => rfl)⟩, trivial⟩ (fun gz171 => ?_) (hL := (hlA (h := by repeat first | exact trivial | refine ⟨clA, ?_⟩ | refine ⟨(Cl.row (j := th) hs1 leA (fun _ => rfl) hth (by omega) 1 _ rfl), ?_⟩ | refine ⟨(Cl.row (j := f.code) hs5 leA (fun _ => rfl) gth (by omega) 2 _ rfl), ?_⟩ | refine ⟨(Cl.row (j := f.pc - 1) (sz := 4) hs6 leA (fun _ => rfl) gpc (by omega) 0 _ rfl), ?_⟩)))
               change XF _ _ _ _ _ _ _ [] _ _ _ ((171, .slice (some ⟨gz171, 0, none⟩) 1 1) :: _) _ _ (lsH I64 2 (some ⟨gz171, 0, none⟩) 1 [z] :: _)
               refine XF.back ?_ (hL := (hlA (h := by repeat first | exact trivial | refine ⟨clA, ?_⟩ | refine ⟨(Cl.row (j := th) hs1 leA (fun _ => rfl) hth (by omega) 1 _ rfl), ?_⟩ | refine ⟨(Cl.row (j := f.code) hs5 leA (fun _ => rfl) gth (by omega) 2 _ rfl), ?_⟩ | refine ⟨(Cl.row (j := f.pc - 1) (sz := 4) hs6 leA (fun _ => rfl) gpc (by omega) 0 _ rfl), ?_⟩)))
               refine XD.ef 7 rfl (Ef.appA (f := I64) (l := [] ++ f.stk) (m := [z]) Tryz.underlying22 Tryz.info2 rfl rfl rfl fndA ((Sees.lsH _).le fndA) (fun _ => rfl) (by simp; omega) (by simp; omega)) ?_
               rintro _ _ ⟨a8, c8, rfl, rfl⟩
               refine ⟨(hlA (h := by repeat first | exact trivial | refine ⟨clA, ?_⟩ | refine ⟨(Cl.row (j := th) hs1 leA (fun _ => rfl) hth (by omega) 1 _ rfl), ?_⟩ | refine ⟨(Cl.row (j := f.code) hs5 leA (fun _ => rfl) gth (by omega) 2 _ rfl), ?_⟩ | refine ⟨(Cl.row (j := f.pc - 1) (sz := 4) hs6 leA (fun _ => rfl) gpc (by omega) 0 _ rfl), ?_⟩)), ?_⟩
               try rw [List.nil_append]
               refine dd [8] ?_
               refine stD 9 ?_
               refine XD.nil ?_
               refine xo 7 ?_
               refine XO.know 178 (.bool true) rfl (congrArg Value.bool (by first | rfl | (simp; done) | (simp [hv]; done) | (simp [hv, hcn]; done) | (rw [hg3]; rfl) | (rw [beq_eq_false_iff_ne.2 gne]; rfl) | (simp; omega) | (simp [hv]; omega) | (rw [bne_eq_false_iff_eq]; simp only [List.length_replicate]; omega) | (rw [beq_iff_eq]; assumption) | (rw [beq_eq_false_iff_ne]; assumption) | (rw [bne_iff_ne]; omega) | (rw [bne_eq_false_iff_eq]; omega) | exact decide_eq_true (by omega) | exact decide_eq_false (by omega))) ?_
               refine oo 3 ?_
               refine ldA ?_
               refine oo 1 ?_
               refine XO.cR Tryz.call22 (Same_ok (f := zFrm) (f2 := zFrm) ⟨Sees.nil _ _, Sees.nil _ _, Nat.zero_le _, Nat.zero_le _⟩ ⟨Sees.nil _ _, Sees.nil _ _, Nat.zero_le _, Nat.zero_le _⟩) ?_
               refine XO.know 184 (.bool true) rfl (congrArg Value.bool (decide_eq_true ⟨rfl, rfl, rfl, rfl⟩)) ?_
               refine oo 2 ?_
               refine XO.know 186 (.bool true) rfl (congrArg Value.bool (by first | rfl | (simp; done) | (simp [hv]; done) | (simp [hv, hcn]; done) | (rw [hg3]; rfl) | (rw [beq_eq_false_iff_ne.2 gne]; rfl) | (simp; omega) | (simp [hv]; omega) | (rw [bne_eq_false_iff_eq]; simp only [List.length_replicate]; omega) | (rw [beq_iff_eq]; assumption) | (rw [beq_eq_false_iff_ne]; assumption) | (rw [bne_iff_ne]; omega) | (rw [bne_eq_false_iff_eq]; omega) | exact decide_eq_true (by omega) | exact decide_eq_false (by omega))) ?_
               refine oo 9 ?_
               refine XO.cR Tryz.call10 (known_ok (gc.le leA) (g.le leA)) ?_
               refine ox 3 ?_
               refine X.sb [6] ?_
               refine X.retL (q) Tryz.func7 (res1 Tryz.results7 rfl) ⟨_, rfl, by first | rfl | (simp; done), rfl⟩
           · skip
             replace k3 := sp k3
             refine dd [5, 6, 7, 8, 9, 10, 11, 12, 13, 14, 15, 16, 17, 18, 19, 20, 21, 22, 23, 24, 25, 26, 27, 28, 29, 30, 31, 32, 33, 34] ?_
             refine XD.nil ?_
             refine xo 3 ?_
             refine ldA ?_
             refine XO.al Tryz.zeroValue28 fun n25 => ?_
             refine stA ?_
             refine ox 2 ?_
             refine X.sb [15, 14, 13, 12, 6, 5] ?_
             refine drw ?_
             refine dd [0, 1] ?_
             refine ldD 2 ?_
             refine dd [4] ?_
             refine ldD 5 ?_
             refine XD.le (q' := lsH I64 2 none 0 [] :: _) (Le.lsH_nil _ _ _) ?_
             refine XD.float (fl := [⟨6, 171, fun g => .slice (some ⟨g, 0, none⟩) 1 1, fun g => lsH I64 2 (some ⟨g, 0, none⟩) 1 [z]⟩]) ?_
             refine XF.ef 3 ⟨⟨_, rfl, rfl, rfl, rfl, rfl, rfl, fun q => Ef.litL I64 [z] Tryz.underlying22 Tryz.info2 rfl rfl rfl rfl rfl rfl (fun _ => rfl)⟩, trivial⟩ (Ef.appE (fe := I64) (l := []) (m := f.stk) Tryz.underlying22 Tryz.info2 rfl rfl rfl fndA (hf.s.le leA) (fun _ => rfl) (by simp; omega) (by simp; omega)) ?_
             rintro _ _ ⟨a7, c7, rfl, rfl⟩
             refine ⟨(hlA (h := by repeat first | exact trivial | refine ⟨clA, ?_⟩ | refine ⟨(Cl.row (j := th) hs1 leA (fun _ => rfl) hth (by omega) 1 _ rfl), ?_⟩ | refine ⟨(Cl.row (j := f.code) hs5 leA (fun _ => rfl) gth (by omega) 2 _ rfl), ?_⟩ | refine ⟨(Cl.row (j := f.pc - 1) (sz := 4) hs6 leA (fun _ => rfl) gpc (by omega) 0 _ rfl), ?_⟩)), ?_⟩
             refine XF.abs (e0 := ⟨6, 171, fun g => .slice (some ⟨g, 0, none⟩) 1 1, fun g => lsH I64 2 (some ⟨g, 0, none⟩) 1 [z]⟩) (hnd := by simp) 6 ⟨⟨_, rfl, rfl, rfl, rfl, rfl, rfl, fun q => Ef.litL I64 [z] Tryz.underlying22 Tryz.info2 rfl rfl rfl rfl rfl rfl (fun _ => rfl)⟩, trivial⟩ (fun gz171 => ?_) (hL := (hlA (h := by repeat first | exact trivial | refine ⟨clA, ?_⟩ | refine ⟨(Cl.row (j := th) hs1 leA (fun _ => rfl) hth (by omega) 1 _ rfl), ?_⟩ | refine ⟨(Cl.row (j := f.code) hs5 leA (fun _ => rfl) gth (by omega) 2 _ rfl), ?_⟩ | refine ⟨(Cl.row (j := f.pc - 1) (sz := 4) hs6 leA (fun _ => rfl) gpc (by omega) 0 _ rfl), ?_⟩)))
             change XF _ _ _ _ _ _ _ [] _ _ _ ((171, .slice (some ⟨gz171, 0, none⟩) 1 1) :: _) _ _ (lsH I64 2 (some ⟨gz171, 0, none⟩) 1 [z] :: _)
             refine XF.back ?_ (hL := (hlA (h := by repeat first | exact trivial | refine ⟨clA, ?_⟩ | refine ⟨(Cl.row (j := th) hs1 leA (fun _ => rfl) hth (by omega) 1 _ rfl), ?_⟩ | refine ⟨(Cl.row (j := f.code) hs5 leA (fun _ => rfl) gth (by omega) 2 _ rfl), ?_⟩ | refine ⟨(Cl.row (j := f.pc - 1) (sz := 4) hs6 leA (fun _ => rfl) gpc (by omega) 0 _ rfl), ?_⟩)))
             refine XD.ef 7 rfl (Ef.appA (f := I64) (l := [] ++ f.stk) (m := [z]) Tryz.underlying22 Tryz.info2 rfl rfl rfl fndA ((Sees.lsH _).le fndA) (fun _ => rfl) (by simp; omega) (by simp; omega)) ?_
             rintro _ _ ⟨a8, c8, rfl, rfl⟩
             refine ⟨(hlA (h := by repeat first | exact trivial | refine ⟨clA, ?_⟩ | refine ⟨(Cl.row (j := th) hs1 leA (fun _ => rfl) hth (by omega) 1 _ rfl), ?_⟩ | refine ⟨(Cl.row (j := f.code) hs5 leA (fun _ => rfl) gth (by omega) 2 _ rfl), ?_⟩ | refine ⟨(Cl.row (j := f.pc - 1) (sz := 4) hs6 leA (fun _ => rfl) gpc (by omega) 0 _ rfl), ?_⟩)), ?_⟩
             try rw [List.nil_append]
             refine dd [8] ?_
             refine stD 9 ?_
             refine XD.nil ?_
             refine xo 7 ?_
             refine XO.know 178 (.bool true) rfl (congrArg Value.bool (by first | rfl | (simp; done) | (simp [hv]; done) | (simp [hv, hcn]; done) | (rw [hg3]; rfl) | (rw [beq_eq_false_iff_ne.2 gne]; rfl) | (simp; omega) | (simp [hv]; omega) | (rw [bne_eq_false_iff_eq]; simp only [List.length_replicate]; omega) | (rw [beq_iff_eq]; assumption) | (rw [beq_eq_false_iff_ne]; assumption) | (rw [bne_iff_ne]; omega) | (rw [bne_eq_false_iff_eq]; omega) | exact decide_eq_true (by omega) | exact decide_eq_false (by omega))) ?_
             refine oo 3 ?_
             refine ldA ?_
             refine oo 1 ?_
             refine XO.cR Tryz.call22 (Same_ok (f := zFrm) (f2 := zFrm) ⟨Sees.nil _ _, Sees.nil _ _, Nat.zero_le _, Nat.zero_le _⟩ ⟨Sees.nil _ _, Sees.nil _ _, Nat.zero_le _, Nat.zero_le _⟩) ?_
             refine XO.know 184 (.bool true) rfl (congrArg Value.bool (decide_eq_true ⟨rfl, rfl, rfl, rfl⟩)) ?_
             refine oo 2 ?_
             refine XO.know 186 (.bool true) rfl (congrArg Value.bool (by first | rfl | (simp; done) | (simp [hv]; done) | (simp [hv, hcn]; done) | (rw [hg3]; rfl) | (rw [beq_eq_false_iff_ne.2 gne]; rfl) | (simp; omega) | (simp [hv]; omega) | (rw [bne_eq_false_iff_eq]; simp only [List.length_replicate]; omega) | (rw [beq_iff_eq]; assumption) | (rw [beq_eq_false_iff_ne]; assumption) | (rw [bne_iff_ne]; omega) | (rw [bne_eq_false_iff_eq]; omega) | exact decide_eq_true (by omega) | exact decide_eq_false (by omega))) ?_
             refine oo 9 ?_
             refine XO.cR Tryz.call10 (known_ok (gc.le leA) (g.le leA)) ?_
             refine ox 3 ?_
             refine X.sb [6] ?_
             refine X.retL (q) Tryz.func7 (res1 Tryz.results7 rfl) ⟨_, rfl, by first | rfl | (simp; done), rfl⟩
   · skip
     refine XO.cX Tryz.call18 (Le.refl _) (New_ok (th := th) (gc.le leA) (g.le leA) (hq.le leA)) ?_
     rintro _ _ (⟨hok, la, lc, rfl, rfl⟩ | ⟨hno, rfl, rfl⟩)
     · exact absurd hok.1 hv
     refine oo 3 ?_
     refine XO.al Tryz.zeroValue28 fun n26 => ?_
     refine stA ?_
     refine oo 4 ?_
     refine ldA ?_
     refine XO.cX Tryz.call19 (Le.refl _) (Cells_ok (gc.le leA) (g.le leA) (hq.le leA)) ?_
     rintro _ _ (⟨hv2, ac, cc2, rfl, rfl⟩ | ⟨hv2, rfl, rfl⟩)
     · exact absurd hv2 hv
     refine oo 8 ?_
     refine ldA ?_
     refine XO.cR Tryz.call20 (RCheck7_ok (hq.le leA)) ?_
     refine ox 5 ?_
     refine X.sb [11, 10, 9, 8, 7, 6, 5, 3, 1] ?_
     refine drw ?_
     refine dd [0, 1, 2, 3, 4] ?_
     refine XD.know 39 (.bool false) rfl (congrArg Value.bool (by first | rfl | (simp; done) | (simp [hv]; done) | (simp [hv, hcn]; done) | (rw [hg3]; rfl) | (rw [beq_eq_false_iff_ne.2 gne]; rfl) | (simp; omega) | (simp [hv]; omega) | (rw [bne_eq_false_iff_eq]; simp only [List.length_replicate]; omega) | (rw [beq_iff_eq]; assumption) | (rw [beq_eq_false_iff_ne]; assumption) | (rw [bne_iff_ne]; omega) | (rw [bne_eq_false_iff_eq]; omega) | exact decide_eq_true (by omega) | exact decide_eq_false (by omega))) ?_
     refine dd [5, 6] ?_
     refine XD.know 41 (.bool false) rfl (congrArg Value.bool (by first | rfl | (simp; done) | (simp [hv]; done) | (simp [hv, hcn]; done) | (rw [hg3]; rfl) | (rw [beq_eq_false_iff_ne.2 gne]; rfl) | (simp; omega) | (simp [hv]; omega) | (rw [bne_eq_false_iff_eq]; simp only [List.length_replicate]; omega) | (rw [beq_iff_eq]; assumption) | (rw [beq_eq_false_iff_ne]; assumption) | (rw [bne_iff_ne]; omega) | (rw [bne_eq_false_iff_eq]; omega) | exact decide_eq_true (by omega) | exact decide_eq_false (by omega))) ?_
     refine dd [7, 8, 9, 10, 11, 12, 13, 14, 15, 16, 17, 18, 19, 20, 21, 22, 23, 24, 25, 26] ?_
     refine XD.pu 27 rfl (Pu.not rfl) ?_
     refine dd [28] ?_
     refine XD.know 63 (.bool true) rfl (congrArg Value.bool (by first | rfl | (simp; done) | (simp [hv]; done) | (simp [hv, hcn]; done) | (rw [hg3]; rfl) | (rw [beq_eq_false_iff_ne.2 gne]; rfl) | (simp; omega) | (simp [hv]; omega) | (rw [bne_eq_false_iff_eq]; simp only [List.length_replicate]; omega) | (rw [beq_iff_eq]; assumption) | (rw [beq_eq_false_iff_ne]; assumption) | (rw [bne_iff_ne]; omega) | (rw [bne_eq_false_iff_eq]; omega) | exact decide_eq_true (by omega) | exact decide_eq_false (by omega))) ?_
     refine dd [29, 30, 31, 32, 33] ?_
     refine XD.nil ?_
     refine X.know 68 (.bool false) rfl (congrArg Value.bool (by first | rfl | (simp; done) | (simp [hv]; done) | (simp [hv, hcn]; done) | (rw [hg3]; rfl) | (rw [beq_eq_false_iff_ne.2 gne]; rfl) | (simp; omega) | (simp [hv]; omega) | (rw [bne_eq_false_iff_eq]; simp only [List.length_replicate]; omega) | (rw [beq_iff_eq]; assumption) | (rw [beq_eq_false_iff_ne]; assumption) | (rw [bne_iff_ne]; omega) | (rw [bne_eq_false_iff_eq]; omega) | exact decide_eq_true (by omega) | exact decide_eq_false (by omega))) ?_
     refine xo 7 ?_
     refine XO.know 70 (.bool false) rfl (congrArg Value.bool (by first | rfl | (simp; done) | (simp [hv]; done) | (simp [hv, hcn]; done) | (rw [hg3]; rfl) | (rw [beq_eq_false_iff_ne.2 gne]; rfl) | (simp; omega) | (simp [hv]; omega) | (rw [bne_eq_false_iff_eq]; simp only [List.length_replicate]; omega) | (rw [beq_iff_eq]; assumption) | (rw [beq_eq_false_iff_ne]; assumption) | (rw [bne_iff_ne]; omega) | (rw [bne_eq_false_iff_eq]; omega) | exact decide_eq_true (by omega) | exact decide_eq_false (by omega))) ?_
     refine oo 17 ?_
     refine XO.know 114 (.bool false) rfl (congrArg Value.bool (by first | rfl | (simp; done) | (simp [hv]; done) | (simp [hv, hcn]; done) | (rw [hg3]; rfl) | (rw [beq_eq_false_iff_ne.2 gne]; rfl) | (simp; omega) | (simp [hv]; omega) | (rw [bne_eq_false_iff_eq]; simp only [List.length_replicate]; omega) | (rw [beq_iff_eq]; assumption) | (rw [beq_eq_false_iff_ne]; assumption) | (rw [bne_iff_ne]; omega) | (rw [bne_eq_false_iff_eq]; omega) | exact decide_eq_true (by omega) | exact decide_eq_false (by omega))) ?_
     refine ldA ?_
     refine oo 1 ?_
     refine XO.cR Tryz.call22 (Same_ok (f := zFrm) (f2 := zFrm) ⟨Sees.nil _ _, Sees.nil _ _, Nat.zero_le _, Nat.zero_le _⟩ ⟨Sees.nil _ _, Sees.nil _ _, Nat.zero_le _, Nat.zero_le _⟩) ?_
     refine XO.know 117 (.bool true) rfl (congrArg Value.bool (decide_eq_true ⟨rfl, rfl, rfl, rfl⟩)) ?_
     refine XO.pu (Pu.not rfl) ?_
     refine ox 2 ?_
     refine X.sb [119, 6, 5, 3] ?_
     refine X.know 119 (.bool false) rfl (congrArg Value.bool (by first | rfl | (simp; done) | (simp [hv]; done) | (simp [hv, hcn]; done) | (rw [hg3]; rfl) | (rw [beq_eq_false_iff_ne.2 gne]; rfl) | (simp; omega) | (simp [hv]; omega) | (rw [bne_eq_false_iff_eq]; simp only [List.length_replicate]; omega) | (rw [beq_iff_eq]; assumption) | (rw [beq_eq_false_iff_ne]; assumption) | (rw [bne_iff_ne]; omega) | (rw [bne_eq_false_iff_eq]; omega) | exact decide_eq_true (by omega) | exact decide_eq_false (by omega))) ?_
     refine xo 4 ?_
     refine ldA ?_
     refine oo 1 ?_
     refine ldA ?_
     refine oo 1 ?_
     refine ld ?_
     have hv1 : m.vars.length ≤ 9223372036854775807 := hq.nv
     refine XO.cX Tryz.call23 (Le.refl _) (Give_ok (f := f) (z := z) (gc.le leA) (g.le leA) (hq.le leA) (hf.le leA) ⟨by omega, by omega⟩) ?_
     rintro _ _ (⟨hg, la3, lc3, sa3, sc3, rfl, rfl⟩ | ⟨hg, rfl, rfl⟩)
     · skip
       obtain ⟨hg1, hg2, hg3⟩ := hg; obtain ⟨hg4, hg5⟩ := mayS_push.1 hg1; obtain ⟨gm1, gm2, gth, gm3, gm4, gm5⟩ := id hg4; have hv3 : vals [z] := by intro n hn; rw [List.mem_singleton.1 hn]; exact hg5
       refine oo 3 ?_
       refine XO.al Tryz.zeroValue28 fun n27 => ?_
       refine stA ?_
       refine ox 3 ?_
       refine drw ?_
       refine ldAD 0 ?_
       refine dd [1] ?_
       refine ldAD 2 ?_
       refine XD.cX 3 Tryz.call24 (Le.refl _) (RMay_ok (f := f) (less := 1) (hq.le leA) (hf.le leA) (by omega) (by omega)) ?_
       rintro _ _ ⟨⟨b1, rfl, hb1⟩, rfl⟩
       refine ⟨trivial, ?_⟩
       obtain rfl : b1 = true := hb1.2 hg4
       refine dd [4] ?_
       refine XD.know 133 (.bool true) rfl (congrArg Value.bool (by first | rfl | (simp; done) | (simp [hv]; done) | (simp [hv, hcn]; done) | (rw [hg3]; rfl) | (rw [beq_eq_false_iff_ne.2 gne]; rfl) | (simp; omega) | (simp [hv]; omega) | (rw [bne_eq_false_iff_eq]; simp only [List.length_replicate]; omega) | (rw [beq_iff_eq]; assumption) | (rw [beq_eq_false_iff_ne]; assumption) | (rw [bne_iff_ne]; omega) | (rw [bne_eq_false_iff_eq]; omega) | exact decide_eq_true (by omega) | exact decide_eq_false (by omega))) ?_
       refine dd [5] ?_
       refine ldD 6 ?_
       refine XD.ef 7 rfl (Ef.litL I64 [z] Tryz.underlying22 Tryz.info2 rfl rfl rfl rfl rfl rfl (fun _ => rfl)) ?_
       rintro _ _ ⟨gz136, rfl, rfl⟩
       refine ⟨trivial, ?_⟩
       refine XD.cRL 8 Tryz.call13 (RValues_ok (l := [z]) ((Sees.lsH _).le fndA) (show 1 ≤ 9223372036854775807 by decide)) ?_
       refine dd [9, 10] ?_
       refine XD.know 139 (.bool true) rfl (congrArg Value.bool (by first | rfl | (simp; done) | (simp [hv]; done) | (simp [hv, hcn]; done) | (rw [hg3]; rfl) | (rw [beq_eq_false_iff_ne.2 gne]; rfl) | (simp; omega) | (simp [hv]; omega) | (rw [bne_eq_false_iff_eq]; simp only [List.length_replicate]; omega) | (rw [beq_iff_eq]; assumption) | (rw [beq_eq_false_iff_ne]; assumption) | (rw [bne_iff_ne]; omega) | (rw [bne_eq_false_iff_eq]; omega) | exact decide_eq_true (by omega) | exact decide_eq_false (by omega))) ?_
       refine dd [11, 12] ?_
       refine ldD 13 ?_
       refine dd [14, 15, 16] ?_
       refine XD.know 145 (.bool true) rfl (congrArg Value.bool (by first | rfl | (simp; done) | (simp [hv]; done) | (simp [hv, hcn]; done) | (rw [hg3]; rfl) | (rw [beq_eq_false_iff_ne.2 gne]; rfl) | (simp; omega) | (simp [hv]; omega) | (rw [bne_eq_false_iff_eq]; simp only [List.length_replicate]; omega) | (rw [beq_iff_eq]; assumption) | (rw [beq_eq_false_iff_ne]; assumption) | (rw [bne_iff_ne]; omega) | (rw [bne_eq_false_iff_eq]; omega) | exact decide_eq_true (by omega) | exact decide_eq_false (by omega))) ?_
       refine dd [17] ?_
       refine ldD 18 ?_
       refine dd [19, 20] ?_
       refine ldD 21 ?_
       have gpc : (f.pc - 1).toNat < m.threads[f.code.toNat].ins.length := (by omega); have gql := hq.x _ (List.getElem_mem gth); have gni := gql.ni; have gsi := gql.i; have glen := flatMap_len (f := insC) (sz := 4) (fun _ => rfl) m.threads[f.code.toNat].ins; have gp65 := (vOk gm1 gth).2.1
       have gxe : (thrAt m f.code).ins.getD (f.pc.toNat - 1) zIns = m.threads[f.code.toNat].ins[(f.pc - 1).toNat] := by rw [show thrAt m f.code = m.threads[f.code.toNat] from getD_lt gth, show f.pc.toNat - 1 = (f.pc - 1).toNat by omega]; exact getD_lt gpc
       rw [gxe] at hg3
       refine XD.adr hq.t (by rw [hlen]; omega) (fun b5 o5 e5 => ?_)
       have hs5 := hq.t; rw [e5] at hs5
       refine XD.know 147 (.slice (some ⟨b5, o5, none⟩) m.threads.length m.tc) rfl (by rw [e5]) ?_
       refine dd [22, 23] ?_
       refine ldD 24 ?_ (hc := (Cl.row (j := f.code) hs5 leA (fun _ => rfl) gth (by omega) 2 _ rfl))
       refine dd [25, 26] ?_
       refine ldD 27 ?_
       refine dd [28] ?_
       refine XD.adr gsi (by rw [glen]; omega) (fun b6 o6 e6 => ?_)
       have hs6 := gsi; rw [e6] at hs6
       refine XD.know 153 (.slice (some ⟨b6, o6, none⟩) m.threads[f.code.toNat].ins.length m.threads[f.code.toNat].ic) rfl (by rw [e6]) ?_
       refine dd [29, 30] ?_
       refine ldD 31 ?_ (hc := (Cl.row (j := f.pc - 1) (sz := 4) hs6 leA (fun _ => rfl) gpc (by omega) 0 _ rfl))
       refine dd [32, 33, 34] ?_
       refine XD.nil ?_
       refine xo 3 ?_
       refine ldA ?_
       refine XO.al Tryz.zeroValue28 fun n28 => ?_
       refine stA ?_
       refine ox 2 ?_
       refine X.sb [15, 14, 13, 12, 6, 5] ?_
       refine drw ?_
       refine dd [0, 1] ?_
       refine ldD 2 ?_
       refine dd [4] ?_
       refine ldD 5 ?_
       refine XD.le (q' := lsH I64 2 none 0 [] :: _) (Le.lsH_nil _ _ _) ?_
       refine XD.float (fl := [⟨6, 171, fun g => .slice (some ⟨g, 0, none⟩) 1 1, fun g => lsH I64 2 (some ⟨g, 0, none⟩) 1 [z]⟩]) ?_
       refine XF.ef 3 ⟨⟨_, rfl, rfl, rfl, rfl, rfl, rfl, fun q => Ef.litL I64 [z] Tryz.underlying22 Tryz.info2 rfl rfl rfl rfl rfl rfl (fun _ => rfl)⟩, trivial⟩ (Ef.appE (fe := I64) (l := []) (m := f.stk) Tryz.underlying22 Tryz.info2 rfl rfl rfl fndA (hf.s.le leA) (fun _ => rfl) (by simp; omega) (by simp; omega)) ?_
       rintro _ _ ⟨a7, c7, rfl, rfl⟩
       refine ⟨(hlA (h := by repeat first | exact trivial | refine ⟨clA, ?_⟩ | refine ⟨(Cl.row (j := th) hs1 leA (fun _ => rfl) hth (by omega) 1 _ rfl), ?_⟩ | refine ⟨(Cl.row (j := f.code) hs5 leA (fun _ => rfl) gth (by omega) 2 _ rfl), ?_⟩ | refine ⟨(Cl.row (j := f.pc - 1) (sz := 4) hs6 leA (fun _ => rfl) gpc (by omega) 0 _ rfl), ?_⟩)), ?_⟩
       refine XF.abs (e0 := ⟨6, 171, fun g => .slice (some ⟨g, 0, none⟩) 1 1, fun g => lsH I64 2 (some ⟨g, 0, none⟩) 1 [z]⟩) (hnd := by simp) 6 ⟨⟨_, rfl, rfl, rfl, rfl, rfl, rfl, fun q => Ef.litL I64 [z] Tryz.underlying22 Tryz.info2 rfl rfl rfl rfl rfl rfl (fun _ => rfl)⟩, trivial⟩ (fun gz171 => ?_) (hL := (hlA (h := by repeat first | exact trivial | refine ⟨clA, ?_⟩ | refine ⟨(Cl.row (j := th) hs1 leA (fun _ => rfl) hth (by omega) 1 _ rfl), ?_⟩ | refine ⟨(Cl.row (j := f.code) hs5 leA (fun _ => rfl) gth (by omega) 2 _ rfl), ?_⟩ | refine ⟨(Cl.row (j := f.pc - 1) (sz := 4) hs6 leA (fun _ => rfl) gpc (by omega) 0 _ rfl), ?_⟩)))
       change XF _ _ _ _ _ _ _ [] _ _ _ ((171, .slice (some ⟨gz171, 0, none⟩) 1 1) :: _) _ _ (lsH I64 2 (some ⟨gz171, 0, none⟩) 1 [z] :: _)
       refine XF.back ?_ (hL := (hlA (h := by repeat first | exact trivial | refine ⟨clA, ?_⟩ | refine ⟨(Cl.row (j := th) hs1 leA (fun _ => rfl) hth (by omega) 1 _ rfl), ?_⟩ | refine ⟨(Cl.row (j := f.code) hs5 leA (fun _ => rfl) gth (by omega) 2 _ rfl), ?_⟩ | refine ⟨(Cl.row (j := f.pc - 1) (sz := 4) hs6 leA (fun _ => rfl) gpc (by omega) 0 _ rfl), ?_⟩)))
       refine XD.ef 7 rfl (Ef.appA (f := I64) (l := [] ++ f.stk) (m := [z]) Tryz.underlying22 Tryz.info2 rfl rfl rfl fndA ((Sees.lsH _).le fndA) (fun _ => rfl) (by simp; omega) (by simp; omega)) ?_
       rintro _ _ ⟨a8, c8, rfl, rfl⟩
       refine ⟨(hlA (h := by repeat first | exact trivial | refine ⟨clA, ?_⟩ | refine ⟨(Cl.row (j := th) hs1 leA (fun _ => rfl) hth (by omega) 1 _ rfl), ?_⟩ | refine ⟨(Cl.row (j := f.code) hs5 leA (fun _ => rfl) gth (by omega) 2 _ rfl), ?_⟩ | refine ⟨(Cl.row (j := f.pc - 1) (sz := 4) hs6 leA (fun _ => rfl) gpc (by omega) 0 _ rfl), ?_⟩)), ?_⟩
       try rw [List.nil_append]
       refine dd [8] ?_
       refine stD 9 ?_
       refine XD.nil ?_
       refine xo 7 ?_
       refine XO.know 178 (.bool true) rfl (congrArg Value.bool (by first | rfl | (simp; done) | (simp [hv]; done) | (simp [hv, hcn]; done) | (rw [hg3]; rfl) | (rw [beq_eq_false_iff_ne.2 gne]; rfl) | (simp; omega) | (simp [hv]; omega) | (rw [bne_eq_false_iff_eq]; simp only [List.length_replicate]; omega) | (rw [beq_iff_eq]; assumption) | (rw [beq_eq_false_iff_ne]; assumption) | (rw [bne_iff_ne]; omega) | (rw [bne_eq_false_iff_eq]; omega) | exact decide_eq_true (by omega) | exact decide_eq_false (by omega))) ?_
       refine oo 1 ?_
       refine XO.pu (Pu.not rfl) ?_
       refine oo 1 ?_
       refine XO.know 181 (.bool false) rfl (congrArg Value.bool (by first | rfl | (simp; done) | (simp [hv]; done) | (simp [hv, hcn]; done) | (rw [hg3]; rfl) | (rw [beq_eq_false_iff_ne.2 gne]; rfl) | (simp; omega) | (simp [hv]; omega) | (rw [bne_eq_false_iff_eq]; simp only [List.length_replicate]; omega) | (rw [beq_iff_eq]; assumption) | (rw [beq_eq_false_iff_ne]; assumption) | (rw [bne_iff_ne]; omega) | (rw [bne_eq_false_iff_eq]; omega) | exact decide_eq_true (by omega) | exact decide_eq_false (by omega))) ?_
       refine oo 7 ?_
       refine XO.know 188 (.bool true) rfl (congrArg Value.bool (by first | rfl | (simp; done) | (simp [hv]; done) | (simp [hv, hcn]; done) | (rw [hg3]; rfl) | (rw [beq_eq_false_iff_ne.2 gne]; rfl) | (simp; omega) | (simp [hv]; omega) | (rw [bne_eq_false_iff_eq]; simp only [List.length_replicate]; omega) | (rw [beq_iff_eq]; assumption) | (rw [beq_eq_false_iff_ne]; assumption) | (rw [bne_iff_ne]; omega) | (rw [bne_eq_false_iff_eq]; omega) | exact decide_eq_true (by omega) | exact decide_eq_false (by omega))) ?_
       refine ldA ?_
       refine ldA ?_
       refine XO.cR Tryz.call22 (Same_ok (f := ⟨f.code, f.pc, f.loc, f.stk ++ [z], la3, lc3, sa3, sc3⟩) (f2 := ⟨f.code, f.pc, f.loc, f.stk ++ [z], f.la, f.lc, a8, c8⟩) ⟨(Sees.lsH _).le fndA, (Sees.lsH _).le fndA, hf.nl, (by simp; omega)⟩ ⟨hf.l.le leA, (Sees.lsH _).le fndA, hf.nl, (by simp; omega)⟩) ?_
       refine XO.know 191 (.bool true) rfl (congrArg Value.bool (decide_eq_true ⟨rfl, rfl, rfl, rfl⟩)) ?_
       refine oo 4 ?_
       refine XO.cR Tryz.call10 (known_ok (gc.le leA) (g.le leA)) ?_
       refine XO.pu (Pu.pick rfl rfl rfl) ?_
       refine ox 2 ?_
       refine X.sb [6] ?_
       refine X.retL (q) Tryz.func7 (res1 Tryz.results7 rfl) ⟨_, rfl, by first | rfl | (simp; done), rfl⟩
     · skip
       refine oo 3 ?_
       refine XO.al Tryz.zeroValue28 fun n29 => ?_
       refine stA ?_
       refine ox 3 ?_
       refine drw ?_
       refine ldAD 0 ?_
       refine dd [1] ?_
       refine ldAD 2 ?_
       refine XD.cX 3 Tryz.call24 (Le.refl _) (RMay_ok (f := f) (less := 1) (hq.le leA) (hf.le leA) (by omega) (by omega)) ?_
       rintro _ _ ⟨⟨b1, rfl, hb1⟩, rfl⟩
       refine ⟨trivial, ?_⟩
       refine dd [4] ?_
       refine XD.part 133 rfl (fun k3 => ?_) (fun k3 => ?_)
       · skip
         replace k3 := sp k3
         refine dd [5] ?_
         refine ldD 6 ?_
         refine XD.ef 7 rfl (Ef.litL I64 [z] Tryz.underlying22 Tryz.info2 rfl rfl rfl rfl rfl rfl (fun _ => rfl)) ?_
         rintro _ _ ⟨gz136, rfl, rfl⟩
         refine ⟨trivial, ?_⟩
         refine XD.cRL 8 Tryz.call13 (RValues_ok (l := [z]) ((Sees.lsH _).le fndA) (show 1 ≤ 9223372036854775807 by decide)) ?_
         refine dd [9, 10] ?_
         refine XD.part 139 rfl (fun k4 => ?_) (fun k4 => ?_)
         · skip
           replace k4 := sp k4
           refine dd [11, 12] ?_
           refine ldD 13 ?_
           refine dd [14, 15, 16] ?_
           refine XD.part 145 rfl (fun k5 => ?_) (fun k5 => ?_)
           · skip
             replace k5 := sp k5
             refine dd [17] ?_
             refine ldD 18 ?_
             refine dd [19, 20] ?_
             refine ldD 21 ?_
             have hmf := hb1.1 (by assumption); obtain ⟨gm1, gm2, gth, gm3, gm4, gm5⟩ := id hmf
             have gpc : (f.pc - 1).toNat < m.threads[f.code.toNat].ins.length := (by omega); have gql := hq.x _ (List.getElem_mem gth); have gni := gql.ni; have gsi := gql.i; have glen := flatMap_len (f := insC) (sz := 4) (fun _ => rfl) m.threads[f.code.toNat].ins; have gp65 := (vOk gm1 gth).2.1
             have gxe : (thrAt m f.code).ins.getD (f.pc.toNat - 1) zIns = m.threads[f.code.toNat].ins[(f.pc - 1).toNat] := by rw [show thrAt m f.code = m.threads[f.code.toNat] from getD_lt gth, show f.pc.toNat - 1 = (f.pc - 1).toNat by omega]; exact getD_lt gpc
             have gne : m.threads[f.code.toNat].ins[(f.pc - 1).toNat].c ≠ 30 := fun h => hg ⟨mayS_push.2 ⟨hmf, by have h5 : vals [z] := (by assumption); exact h5 z (List.mem_singleton.2 rfl)⟩, by omega, by rw [gxe]; exact h⟩
             refine XD.adr hq.t (by rw [hlen]; omega) (fun b5 o5 e5 => ?_)
             have hs5 := hq.t; rw [e5] at hs5
             refine XD.know 147 (.slice (some ⟨b5, o5, none⟩) m.threads.length m.tc) rfl (by rw [e5]) ?_
             refine dd [22, 23] ?_
             refine ldD 24 ?_ (hc := (Cl.row (j := f.code) hs5 leA (fun _ => rfl) gth (by omega) 2 _ rfl))
             refine dd [25, 26] ?_
             refine ldD 27 ?_
             refine dd [28] ?_
             refine XD.adr gsi (by rw [glen]; omega) (fun b6 o6 e6 => ?_)
             have hs6 := gsi; rw [e6] at hs6
             refine XD.know 153 (.slice (some ⟨b6, o6, none⟩) m.threads[f.code.toNat].ins.length m.threads[f.code.toNat].ic) rfl (by rw [e6]) ?_
             refine dd [29, 30] ?_
             refine ldD 31 ?_ (hc := (Cl.row (j := f.pc - 1) (sz := 4) hs6 leA (fun _ => rfl) gpc (by omega) 0 _ rfl))
             refine dd [32, 33, 34] ?_
             refine XD.nil ?_
             refine xo 3 ?_
             refine ldA ?_
             refine XO.al Tryz.zeroValue28 fun n30 => ?_
             refine stA ?_
             refine ox 2 ?_
             refine X.sb [15, 14, 13, 12, 6, 5] ?_
             refine drw ?_
             refine dd [0, 1] ?_
             refine ldD 2 ?_
             refine dd [4] ?_
             refine ldD 5 ?_
             refine XD.le (q' := lsH I64 2 none 0 [] :: _) (Le.lsH_nil _ _ _) ?_
             refine XD.float (fl := [⟨6, 171, fun g => .slice (some ⟨g, 0, none⟩) 1 1, fun g => lsH I64 2 (some ⟨g, 0, none⟩) 1 [z]⟩]) ?_
             refine XF.ef 3 ⟨⟨_, rfl, rfl, rfl, rfl, rfl, rfl, fun q => Ef.litL I64 [z] Tryz.underlying22 Tryz.info2 rfl rfl rfl rfl rfl rfl (fun _ => rfl)⟩, trivial⟩ (Ef.appE (fe := I64) (l := []) (m := f.stk) Tryz.underlying22 Tryz.info2 rfl rfl rfl fndA (hf.s.le leA) (fun _ => rfl) (by simp; omega) (by simp; omega)) ?_
             rintro _ _ ⟨a7, c7, rfl, rfl⟩
             refine ⟨(hlA (h := by repeat first | exact trivial | refine ⟨clA, ?_⟩ | refine ⟨(Cl.row (j := th) hs1 leA (fun _ => rfl) hth (by omega) 1 _ rfl), ?_⟩ | refine ⟨(Cl.row (j := f.code) hs5 leA (fun _ => rfl) gth (by omega) 2 _ rfl), ?_⟩ | refine ⟨(Cl.row (j := f.pc - 1) (sz := 4) hs6 leA (fun _ => rfl) gpc (by omega) 0 _ rfl), ?_⟩)), ?_⟩
             refine XF.abs (e0 := ⟨6, 171, fun g => .slice (some ⟨g, 0, none⟩) 1 1, fun g => lsH I64 2 (some ⟨g, 0, none⟩) 1 [z]⟩) (hnd := by simp) 6 ⟨⟨_, rfl, rfl, rfl, rfl, rfl, rfl, fun q => Ef.litL I64 [z] Tryz.underlying22 Tryz.info2 rfl rfl rfl rfl rfl rfl (fun _ => rfl)⟩, trivial⟩ (fun gz171 => ?_) (hL := (hlA (h := by repeat first | exact trivial | refine ⟨clA, ?_⟩ | refine ⟨(Cl.row (j := th) hs1 leA (fun _ => rfl) hth (by omega) 1 _ rfl), ?_⟩ | refine ⟨(Cl.row (j := f.code) hs5 leA (fun _ => rfl) gth (by omega) 2 _ rfl), ?_⟩ | refine ⟨(Cl.row (j := f.pc - 1) (sz := 4) hs6 leA (fun _ => rfl) gpc (by omega) 0 _ rfl), ?_⟩)))
             change XF _ _ _ _ _ _ _ [] _ _ _ ((171, .slice (some ⟨gz171, 0, none⟩) 1 1) :: _) _ _ (lsH I64 2 (some ⟨gz171, 0, none⟩) 1 [z] :: _)
             refine XF.back ?_ (hL := (hlA (h := by repeat first | exact trivial | refine ⟨clA, ?_⟩ | refine ⟨(Cl.row (j := th) hs1 leA (fun _ => rfl) hth (by omega) 1 _ rfl), ?_⟩ | refine ⟨(Cl.row (j := f.code) hs5 leA (fun _ => rfl) gth (by omega) 2 _ rfl), ?_⟩ | refine ⟨(Cl.row (j := f.pc - 1) (sz := 4) hs6 leA (fun _ => rfl) gpc (by omega) 0 _ rfl), ?_⟩)))
             refine XD.ef 7 rfl (Ef.appA (f := I64) (l := [] ++ f.stk) (m := [z]) Tryz.underlying22 Tryz.info2 rfl rfl rfl fndA ((Sees.lsH _).le fndA) (fun _ => rfl) (by simp; omega) (by simp; omega)) ?_
             rintro _ _ ⟨a8, c8, rfl, rfl⟩
             refine ⟨(hlA (h := by repeat first | exact trivial | refine ⟨clA, ?_⟩ | refine ⟨(Cl.row (j := th) hs1 leA (fun _ => rfl) hth (by omega) 1 _ rfl), ?_⟩ | refine ⟨(Cl.row (j := f.code) hs5 leA (fun _ => rfl) gth (by omega) 2 _ rfl), ?_⟩ | refine ⟨(Cl.row (j := f.pc - 1) (sz := 4) hs6 leA (fun _ => rfl) gpc (by omega) 0 _ rfl), ?_⟩)), ?_⟩
             try rw [List.nil_append]
             refine dd [8] ?_
             refine stD 9 ?_
             refine XD.nil ?_
             refine xo 7 ?_
             refine XO.know 178 (.bool true) rfl (congrArg Value.bool (by first | rfl | (simp; done) | (simp [hv]; done) | (simp [hv, hcn]; done) | (rw [hg3]; rfl) | (rw [beq_eq_false_iff_ne.2 gne]; rfl) | (simp; omega) | (simp [hv]; omega) | (rw [bne_eq_false_iff_eq]; simp only [List.length_replicate]; omega) | (rw [beq_iff_eq]; assumption) | (rw [beq_eq_false_iff_ne]; assumption) | (rw [bne_iff_ne]; omega) | (rw [bne_eq_false_iff_eq]; omega) | exact decide_eq_true (by omega) | exact decide_eq_false (by omega))) ?_
             refine oo 1 ?_
             refine XO.pu (Pu.not rfl) ?_
             refine oo 1 ?_
             refine XO.know 181 (.bool true) rfl (congrArg Value.bool (by first | rfl | (simp; done) | (simp [hv]; done) | (simp [hv, hcn]; done) | (rw [hg3]; rfl) | (rw [beq_eq_false_iff_ne.2 gne]; rfl) | (simp; omega) | (simp [hv]; omega) | (rw [bne_eq_false_iff_eq]; simp only [List.length_replicate]; omega) | (rw [beq_iff_eq]; assumption) | (rw [beq_eq_false_iff_ne]; assumption) | (rw [bne_iff_ne]; omega) | (rw [bne_eq_false_iff_eq]; omega) | exact decide_eq_true (by omega) | exact decide_eq_false (by omega))) ?_
             refine ldA ?_
             refine oo 1 ?_
             refine XO.cR Tryz.call22 (Same_ok (f := zFrm) (f2 := zFrm) ⟨Sees.nil _ _, Sees.nil _ _, Nat.zero_le _, Nat.zero_le _⟩ ⟨Sees.nil _ _, Sees.nil _ _, Nat.zero_le _, Nat.zero_le _⟩) ?_
             refine XO.know 184 (.bool true) rfl (congrArg Value.bool (decide_eq_true ⟨rfl, rfl, rfl, rfl⟩)) ?_
             refine oo 2 ?_
             refine XO.know 186 (.bool true) rfl (congrArg Value.bool (by first | rfl | (simp; done) | (simp [hv]; done) | (simp [hv, hcn]; done) | (rw [hg3]; rfl) | (rw [beq_eq_false_iff_ne.2 gne]; rfl) | (simp; omega) | (simp [hv]; omega) | (rw [bne_eq_false_iff_eq]; simp only [List.length_replicate]; omega) | (rw [beq_iff_eq]; assumption) | (rw [beq_eq_false_iff_ne]; assumption) | (rw [bne_iff_ne]; omega) | (rw [bne_eq_false_iff_eq]; omega) | exact decide_eq_true (by omega) | exact decide_eq_false (by omega))) ?_
             refine oo 9 ?_
             refine XO.cR Tryz.call10 (known_ok (gc.le leA) (g.le leA)) ?_
             refine ox 3 ?_
             refine X.sb [6] ?_
             refine X.retL (q) Tryz.func7 (res1 Tryz.results7 rfl) ⟨_, rfl, by first | rfl | (simp; done), rfl⟩
           · skip
             replace k5 := sp k5
             refine dd [17, 18, 19, 20, 21, 22, 23, 24, 25, 26, 27, 28, 29, 30, 31, 32, 33, 34] ?_
             refine XD.nil ?_
             refine xo 3 ?_
             refine ldA ?_
             refine XO.al Tryz.zeroValue28 fun n31 => ?_
             refine stA ?_
             refine ox 2 ?_
             refine X.sb [15, 14, 13, 12, 6, 5] ?_
             refine drw ?_
             refine dd [0, 1] ?_
             refine ldD 2 ?_
             refine dd [4] ?_
             refine ldD 5 ?_
             refine XD.le (q' := lsH I64 2 none 0 [] :: _) (Le.lsH_nil _ _ _) ?_
             refine XD.float (fl := [⟨6, 171, fun g => .slice (some ⟨g, 0, none⟩) 1 1, fun g => lsH I64 2 (some ⟨g, 0, none⟩) 1 [z]⟩]) ?_
             refine XF.ef 3 ⟨⟨_, rfl, rfl, rfl, rfl, rfl, rfl, fun q => Ef.litL I64 [z] Tryz.underlying22 Tryz.info2 rfl rfl rfl rfl rfl rfl (fun _ => rfl)⟩, trivial⟩ (Ef.appE (fe := I64) (l := []) (m := f.stk) Tryz.underlying22 Tryz.info2 rfl rfl rfl fndA (hf.s.le leA) (fun _ => rfl) (by simp; omega) (by simp; omega)) ?_
             rintro _ _ ⟨a7, c7, rfl, rfl⟩
             refine ⟨(hlA (h := by repeat first | exact trivial | refine ⟨clA, ?_⟩ | refine ⟨(Cl.row (j := th) hs1 leA (fun _ => rfl) hth (by omega) 1 _ rfl), ?_⟩ | refine ⟨(Cl.row (j := f.code) hs5 leA (fun _ => rfl) gth (by omega) 2 _ rfl), ?_⟩ | refine ⟨(Cl.row (j := f.pc - 1) (sz := 4) hs6 leA (fun _ => rfl) gpc (by omega) 0 _ rfl), ?_⟩)), ?_⟩
             refine XF.abs (e0 := ⟨6, 171, fun g => .slice (some ⟨g, 0, none⟩) 1 1, fun g => lsH I64 2 (some ⟨g, 0, none⟩) 1 [z]⟩) (hnd := by simp) 6 ⟨⟨_, rfl, rfl, rfl, rfl, rfl, rfl, fun q => Ef.litL I64 [z] Tryz.underlying22 Tryz.info2 rfl rfl rfl rfl rfl rfl (fun _ => rfl)⟩, trivial⟩ (fun gz171 => ?_) (hL := (hlA (h := by repeat first | exact trivial | refine ⟨clA, ?_⟩ | refine ⟨(Cl.row (j := th) hs1 leA (fun _ => rfl) hth (by omega) 1 _ rfl), ?_⟩ | refine ⟨(Cl.row (j := f.code) hs5 leA (fun _ => rfl) gth (by omega) 2 _ rfl), ?_⟩ | refine ⟨(Cl.row (j := f.pc - 1) (sz := 4) hs6 leA (fun _ => rfl) gpc (by omega) 0 _ rfl), ?_⟩)))
             change XF _ _ _ _ _ _ _ [] _ _ _ ((171, .slice (some ⟨gz171, 0, none⟩) 1 1) :: _) _ _ (lsH I64 2 (some ⟨gz171, 0, none⟩) 1 [z] :: _)
             refine XF.back ?_ (hL := (hlA (h := by repeat first | exact trivial | refine ⟨clA, ?_⟩ | refine ⟨(Cl.row (j := th) hs1 leA (fun _ => rfl) hth (by omega) 1 _ rfl), ?_⟩ | refine ⟨(Cl.row (j := f.code) hs5 leA (fun _ => rfl) gth (by omega) 2 _ rfl), ?_⟩ | refine ⟨(Cl.row (j := f.pc - 1) (sz := 4) hs6 leA (fun _ => rfl) gpc (by omega) 0 _ rfl), ?_⟩)))
             refine XD.ef 7 rfl (Ef.appA (f := I64) (l := [] ++ f.stk) (m := [z]) Tryz.underlying22 Tryz.info2 rfl rfl rfl fndA ((Sees.lsH _).le fndA) (fun _ => rfl) (by simp; omega) (by simp; omega)) ?_
             rintro _ _ ⟨a8, c8, rfl, rfl⟩
             refine ⟨(hlA (h := by repeat first | exact trivial | refine ⟨clA, ?_⟩ | refine ⟨(Cl.row (j := th) hs1 leA (fun _ => rfl) hth (by omega) 1 _ rfl), ?_⟩ | refine ⟨(Cl.row (j := f.code) hs5 leA (fun _ => rfl) gth (by omega) 2 _ rfl), ?_⟩ | refine ⟨(Cl.row (j := f.pc - 1) (sz := 4) hs6 leA (fun _ => rfl) gpc (by omega) 0 _ rfl), ?_⟩)), ?_⟩
             try rw [List.nil_append]
             refine dd [8] ?_
             refine stD 9 ?_
             refine XD.nil ?_
             refine xo 7 ?_
             refine XO.know 178 (.bool true) rfl (congrArg Value.bool (by first | rfl | (simp; done) | (simp [hv]; done) | (simp [hv, hcn]; done) | (rw [hg3]; rfl) | (rw [beq_eq_false_iff_ne.2 gne]; rfl) | (simp; omega) | (simp [hv]; omega) | (rw [bne_eq_false_iff_eq]; simp only [List.length_replicate]; omega) | (rw [beq_iff_eq]; assumption) | (rw [beq_eq_false_iff_ne]; assumption) | (rw [bne_iff_ne]; omega) | (rw [bne_eq_false_iff_eq]; omega) | exact decide_eq_true (by omega) | exact decide_eq_false (by omega))) ?_
             refine oo 3 ?_
             refine ldA ?_
             refine oo 1 ?_
             refine XO.cR Tryz.call22 (Same_ok (f := zFrm) (f2 := zFrm) ⟨Sees.nil _ _, Sees.nil _ _, Nat.zero_le _, Nat.zero_le _⟩ ⟨Sees.nil _ _, Sees.nil _ _, Nat.zero_le _, Nat.zero_le _⟩) ?_
             refine XO.know 184 (.bool true) rfl (congrArg Value.bool (decide_eq_true ⟨rfl, rfl, rfl, rfl⟩)) ?_
             refine oo 2 ?_
             refine XO.know 186 (.bool true) rfl (congrArg Value.bool (by first | rfl | (simp; done) | (simp [hv]; done) | (simp [hv, hcn]; done) | (rw [hg3]; rfl) | (rw [beq_eq_false_iff_ne.2 gne]; rfl) | (simp; omega) | (simp [hv]; omega) | (rw [bne_eq_false_iff_eq]; simp only [List.length_replicate]; omega) | (rw [beq_iff_eq]; assumption) | (rw [beq_eq_false_iff_ne]; assumption) | (rw [bne_iff_ne]; omega) | (rw [bne_eq_false_iff_eq]; omega) | exact decide_eq_true (by omega) | exact decide_eq_false (by omega))) ?_
             refine oo 9 ?_
             refine XO.cR Tryz.call10 (known_ok (gc.le leA) (g.le leA)) ?_
             refine ox 3 ?_
             refine X.sb [6] ?_
             refine X.retL (q) Tryz.func7 (res1 Tryz.results7 rfl) ⟨_, rfl, by first | rfl | (simp; done), rfl⟩
         · skip
           replace k4 := sp k4
           refine dd [11, 12, 13, 14, 15, 16, 17, 18, 19, 20, 21, 22, 23, 24, 25, 26, 27, 28, 29, 30, 31, 32, 33, 34] ?_
           refine XD.nil ?_
           refine xo 3 ?_
           refine ldA ?_
           refine XO.al Tryz.zeroValue28 fun n32 => ?_
           refine stA ?_
           refine ox 2 ?_
           refine X.sb [15, 14, 13, 12, 6, 5] ?_
           refine drw ?_
           refine dd [0, 1] ?_
           refine ldD 2 ?_
           refine dd [4] ?_
           refine ldD 5 ?_
           refine XD.le (q' := lsH I64 2 none 0 [] :: _) (Le.lsH_nil _ _ _) ?_
           refine XD.float (fl := [⟨6, 171, fun g => .slice (some ⟨g, 0, none⟩) 1 1, fun g => lsH I64 2 (some ⟨g, 0, none⟩) 1 [z]⟩]) ?_
           refine XF.ef 3 ⟨⟨_, rfl, rfl, rfl, rfl, rfl, rfl, fun q => Ef.litL I64 [z] Tryz.underlying22 Tryz.info2 rfl rfl rfl rfl rfl rfl (fun _ => rfl)⟩, trivial⟩ (Ef.appE (fe := I64) (l := []) (m := f.stk) Tryz.underlying22 Tryz.info2 rfl rfl rfl fndA (hf.s.le leA) (fun _ => rfl) (by simp; omega) (by simp; omega)) ?_
           rintro _ _ ⟨a7, c7, rfl, rfl⟩
           refine ⟨(hlA (h := by repeat first | exact trivial | refine ⟨clA, ?_⟩ | refine ⟨(Cl.row (j := th) hs1 leA (fun _ => rfl) hth (by omega) 1 _ rfl), ?_⟩ | refine ⟨(Cl.row (j := f.code) hs5 leA (fun _ => rfl) gth (by omega) 2 _ rfl), ?_⟩ | refine ⟨(Cl.row (j := f.pc - 1) (sz := 4) hs6 leA (fun _ => rfl) gpc (by omega) 0 _ rfl), ?_⟩)), ?_⟩
           refine XF.abs (e0 := ⟨6, 171, fun g => .slice (some ⟨g, 0, none⟩) 1 1, fun g => lsH I64 2 (some ⟨g, 0, none⟩) 1 [z]⟩) (hnd := by simp) 6 ⟨⟨_, rfl, rfl, rfl, rfl, rfl, rfl, fun q => Ef.litL I64 [z] Tryz.underlying22 Tryz.info2 rfl rfl rfl rfl rfl rfl (fun _ => rfl)⟩, trivial⟩ (fun gz171 => ?_) (hL := (hlA (h := by repeat first | exact trivial | refine ⟨clA, ?_⟩ | refine ⟨(Cl.row (j := th) hs1 leA (fun _ => rfl) hth (by omega) 1 _ rfl), ?_⟩ | refine ⟨(Cl.row (j := f.code) hs5 leA (fun _ => rfl) gth (by omega) 2 _ rfl), ?_⟩ | refine ⟨(Cl.row (j := f.pc - 1) (sz := 4) hs6 leA (fun _ => rfl) gpc (by omega) 0 _ rfl), ?_⟩)))
           change XF _ _ _ _ _ _ _ [] _ _ _ ((171, .slice (some ⟨gz171, 0, none⟩) 1 1) :: _) _ _ (lsH I64 2 (some ⟨gz171, 0, none⟩) 1 [z] :: _)
           refine XF.back ?_ (hL := (hlA (h := by repeat first | exact trivial | refine ⟨clA, ?_⟩ | refine ⟨(Cl.row (j := th) hs1 leA (fun _ => rfl) hth (by omega) 1 _ rfl), ?_⟩ | refine ⟨(Cl.row (j := f.code) hs5 leA (fun _ => rfl) gth (by omega) 2 _ rfl), ?_⟩ | refine ⟨(Cl.row (j := f.pc - 1) (sz := 4) hs6 leA (fun _ => rfl) gpc (by omega) 0 _ rfl), ?_⟩)))
           refine XD.ef 7 rfl (Ef.appA (f := I64) (l := [] ++ f.stk) (m := [z]) Tryz.underlying22 Tryz.info2 rfl rfl rfl fndA ((Sees.lsH _).le fndA) (fun _ => rfl) (by simp; omega) (by simp; omega)) ?_
           rintro _ _ ⟨a8, c8, rfl, rfl⟩
           refine ⟨(hlA (h := by repeat first | exact trivial | refine ⟨clA, ?_⟩ | refine ⟨(Cl.row (j := th) hs1 leA (fun _ => rfl) hth (by omega) 1 _ rfl), ?_⟩ | refine ⟨(Cl.row (j := f.code) hs5 leA (fun _ => rfl) gth (by omega) 2 _ rfl), ?_⟩ | refine ⟨(Cl.row (j := f.pc - 1) (sz := 4) hs6 leA (fun _ => rfl) gpc (by omega) 0 _ rfl), ?_⟩)), ?_⟩
           try rw [List.nil_append]
           refine dd [8] ?_
           refine stD 9 ?_
           refine XD.nil ?_
           refine xo 7 ?_
           refine XO.know 178 (.bool true) rfl (congrArg Value.bool (by first | rfl | (simp; done) | (simp [hv]; done) | (simp [hv, hcn]; done) | (rw [hg3]; rfl) | (rw [beq_eq_false_iff_ne.2 gne]; rfl) | (simp; omega) | (simp [hv]; omega) | (rw [bne_eq_false_iff_eq]; simp only [List.length_replicate]; omega) | (rw [beq_iff_eq]; assumption) | (rw [beq_eq_false_iff_ne]; assumption) | (rw [bne_iff_ne]; omega) | (rw [bne_eq_false_iff_eq]; omega) | exact decide_eq_true (by omega) | exact decide_eq_false (by omega))) ?_
           refine oo 3 ?_
           refine ldA ?_
           refine oo 1 ?_
           refine XO.cR Tryz.call22 (Same_ok (f := zFrm) (f2 := zFrm) ⟨Sees.nil _ _, Sees.nil _ _, Nat.zero_le _, Nat.zero_le _⟩ ⟨Sees.nil _ _, Sees.nil _ _, Nat.zero_le _, Nat.zero_le _⟩) ?_
           refine XO.know 184 (.bool true) rfl (congrArg Value.bool (decide_eq_true ⟨rfl, rfl, rfl, rfl⟩)) ?_
           refine oo 2 ?_
           refine XO.know 186 (.bool true) rfl (congrArg Value.bool (by first | rfl | (simp; done) | (simp [hv]; done) | (simp [hv, hcn]; done) | (rw [hg3]; rfl) | (rw [beq_eq_false_iff_ne.2 gne]; rfl) | (simp; omega) | (simp [hv]; omega) | (rw [bne_eq_false_iff_eq]; simp only [List.length_replicate]; omega) | (rw [beq_iff_eq]; assumption) | (rw [beq_eq_false_iff_ne]; assumption) | (rw [bne_iff_ne]; omega) | (rw [bne_eq_false_iff_eq]; omega) | exact decide_eq_true (by omega) | exact decide_eq_false (by omega))) ?_
           refine oo 9 ?_
           refine XO.cR Tryz.call10 (known_ok (gc.le leA) (g.le leA)) ?_
           refine ox 3 ?_
           refine X.sb [6] ?_
           refine X.retL (q) Tryz.func7 (res1 Tryz.results7 rfl) ⟨_, rfl, by first | rfl | (simp; done), rfl⟩
       · skip
         replace k3 := sp k3
         refine dd [5, 6, 7, 8, 9, 10, 11, 12, 13, 14, 15, 16, 17, 18, 19, 20, 21, 22, 23, 24, 25, 26, 27, 28, 29, 30, 31, 32, 33, 34] ?_
         refine XD.nil ?_
         refine xo 3 ?_
         refine ldA ?_
         refine XO.al Tryz.zeroValue28 fun n33 => ?_
         refine stA ?_
         refine ox 2 ?_
         refine X.sb [15, 14, 13, 12, 6, 5] ?_
         refine drw ?_
         refine dd [0, 1] ?_
         refine ldD 2 ?_
         refine dd [4] ?_
         refine ldD 5 ?_
         refine XD.le (q' := lsH I64 2 none 0 [] :: _) (Le.lsH_nil _ _ _) ?_
         refine XD.float (fl := [⟨6, 171, fun g => .slice (some ⟨g, 0, none⟩) 1 1, fun g => lsH I64 2 (some ⟨g, 0, none⟩) 1 [z]⟩]) ?_
         refine XF.ef 3 ⟨⟨_, rfl, rfl, rfl, rfl, rfl, rfl, fun q => Ef.litL I64 [z] Tryz.underlying22 Tryz.info2 rfl rfl rfl rfl rfl rfl (fun _ => rfl)⟩, trivial⟩ (Ef.appE (fe := I64) (l := []) (m := f.stk) Tryz.underlying22 Tryz.info2 rfl rfl rfl fndA (hf.s.le leA) (fun _ => rfl) (by simp; omega) (by simp; omega)) ?_
         rintro _ _ ⟨a7, c7, rfl, rfl⟩
         refine ⟨(hlA (h := by repeat first | exact trivial | refine ⟨clA, ?_⟩ | refine ⟨(Cl.row (j := th) hs1 leA (fun _ => rfl) hth (by omega) 1 _ rfl), ?_⟩ | refine ⟨(Cl.row (j := f.code) hs5 leA (fun _ => rfl) gth (by omega) 2 _ rfl), ?_⟩ | refine ⟨(Cl.row (j := f.pc - 1) (sz := 4) hs6 leA (fun _ => rfl) gpc (by omega) 0 _ rfl), ?_⟩)), ?_⟩
         refine XF.abs (e0 := ⟨6, 171, fun g => .slice (some ⟨g, 0, none⟩) 1 1, fun g => lsH I64 2 (some ⟨g, 0, none⟩) 1 [z]⟩) (hnd := by simp) 6 ⟨⟨_, rfl, rfl, rfl, rfl, rfl, rfl, fun q => Ef.litL I64 [z] Tryz.underlying22 Tryz.info2 rfl rfl rfl rfl rfl rfl (fun _ => rfl)⟩, trivial⟩ (fun gz171 => ?_) (hL := (hlA (h := by repeat first | exact trivial | refine ⟨clA, ?_⟩ | refine ⟨(Cl.row (j := th) hs1 leA (fun _ => rfl) hth (by omega) 1 _ rfl), ?_⟩ | refine ⟨(Cl.row (j := f.code) hs5 leA (fun _ => rfl) gth (by omega) 2 _ rfl), ?_⟩ | refine ⟨(Cl.row (j := f.pc - 1) (sz := 4) hs6 leA (fun _ => rfl) gpc (by omega) 0 _ rfl), ?_⟩)))
         change XF _ _ _ _ _ _ _ [] _ _ _ ((171, .slice (some ⟨gz171, 0, none⟩) 1 1) :: _) _ _ (lsH I64 2 (some ⟨gz171, 0, none⟩) 1 [z] :: _)
         refine XF.back ?_ (hL := (hlA (h := by repeat first | exact trivial | refine ⟨clA, ?_⟩ | refine ⟨(Cl.row (j := th) hs1 leA (fun _ => rfl) hth (by omega) 1 _ rfl), ?_⟩ | refine ⟨(Cl.row (j := f.code) hs5 leA (fun _ => rfl) gth (by omega) 2 _ rfl), ?_⟩ | refine ⟨(Cl.row (j := f.pc - 1) (sz := 4) hs6 leA (fun _ => rfl) gpc (by omega) 0 _ rfl), ?_⟩)))
         refine XD.ef 7 rfl (Ef.appA (f := I64) (l := [] ++ f.stk) (m := [z]) Tryz.underlying22 Tryz.info2 rfl rfl rfl fndA ((Sees.lsH _).le fndA) (fun _ => rfl) (by simp; omega) (by simp; omega)) ?_
         rintro _ _ ⟨a8, c8, rfl, rfl⟩
         refine ⟨(hlA (h := by repeat first | exact trivial | refine ⟨clA, ?_⟩ | refine ⟨(Cl.row (j := th) hs1 leA (fun _ => rfl) hth (by omega) 1 _ rfl), ?_⟩ | refine ⟨(Cl.row (j := f.code) hs5 leA (fun _ => rfl) gth (by omega) 2 _ rfl), ?_⟩ | refine ⟨(Cl.row (j := f.pc - 1) (sz := 4) hs6 leA (fun _ => rfl) gpc (by omega) 0 _ rfl), ?_⟩)), ?_⟩
         try rw [List.nil_append]
         refine dd [8] ?_
         refine stD 9 ?_
         refine XD.nil ?_
         refine xo 7 ?_
         refine XO.know 178 (.bool true) rfl (congrArg Value.bool (by first | rfl | (simp; done) | (simp [hv]; done) | (simp [hv, hcn]; done) | (rw [hg3]; rfl) | (rw [beq_eq_false_iff_ne.2 gne]; rfl) | (simp; omega) | (simp [hv]; omega) | (rw [bne_eq_false_iff_eq]; simp only [List.length_replicate]; omega) | (rw [beq_iff_eq]; assumption) | (rw [beq_eq_false_iff_ne]; assumption) | (rw [bne_iff_ne]; omega) | (rw [bne_eq_false_iff_eq]; omega) | exact decide_eq_true (by omega) | exact decide_eq_false (by omega))) ?_
         refine oo 3 ?_
         refine ldA ?_
         refine oo 1 ?_
         refine XO.cR Tryz.call22 (Same_ok (f := zFrm) (f2 := zFrm) ⟨Sees.nil _ _, Sees.nil _ _, Nat.zero_le _, Nat.zero_le _⟩ ⟨Sees.nil _ _, Sees.nil _ _, Nat.zero_le _, Nat.zero_le _⟩) ?_
         refine XO.know 184 (.bool true) rfl (congrArg Value.bool (decide_eq_true ⟨rfl, rfl, rfl, rfl⟩)) ?_
         refine oo 2 ?_
         refine XO.know 186 (.bool true) rfl (congrArg Value.bool (by first | rfl | (simp; done) | (simp [hv]; done) | (simp [hv, hcn]; done) | (rw [hg3]; rfl) | (rw [beq_eq_false_iff_ne.2 gne]; rfl) | (simp; omega) | (simp [hv]; omega) | (rw [bne_eq_false_iff_eq]; simp only [List.length_replicate]; omega) | (rw [beq_iff_eq]; assumption) | (rw [beq_eq_false_iff_ne]; assumption) | (rw [bne_iff_ne]; omega) | (rw [bne_eq_false_iff_eq]; omega) | exact decide_eq_true (by omega) | exact decide_eq_false (by omega))) ?_
         refine oo 9 ?_
         refine XO.cR Tryz.call10 (known_ok (gc.le leA) (g.le leA)) ?_
         refine ox 3 ?_
         refine X.sb [6] ?_
         refine X.retL (q) Tryz.func7 (res1 Tryz.results7 rfl) ⟨_, rfl, by first | rfl | (simp; done), rfl⟩
end
end Go.Proofs.YtcklgodcjnnllaaGreatDoor

