/- What functions of package vm, of its references and of its laws do: contracts of calls, proved by walking their code. -/
import Derived.Test.YtcklgodcjnnllaaGreatDoorU
import Derived.KernelRfl
set_option maxRecDepth 100000
set_option linter.unusedVariables false
set_option linter.unusedSimpArgs false
namespace Go.Proofs.YtcklgodcjnnllaaGreatDoor
open Go Go.RowKit Wx
attribute [local irreducible] Wx.lsH Wx.rsH Wx.lsM Wx.rsM Wx.stars

theorem mayS_at2 {m : Mdl} {f : Frm} {less : Int} (h1 : vchk m = 0 ∧ 0 ≤ f.code ∧ f.code < (m.threads.length : Int)) (hth : f.code.toNat < m.threads.length) (h2 : 0 ≤ f.pc ∧ f.pc < (m.threads[f.code.toNat].ins.length : Int)) (h3 : (f.loc.length : Int) = m.threads[f.code.toNat].locals) (h4 : vals f.loc) (h5 : vals f.stk) :
    mayS m f less ↔ 0 ≤ dAt (dOf m m.threads[f.code.toNat]).1 f.pc.toNat ∧ dAt (dOf m m.threads[f.code.toNat]).1 f.pc.toNat = (f.stk.length : Int) + less := by
  constructor
  · rintro ⟨_, _, _, _, _, k1, k2, k3, k4, k5⟩; exact ⟨k4, k5⟩
  · rintro ⟨k4, k5⟩; exact ⟨h1.1, h1.2.1, hth, h2.1, h2.2, h3, h4, h5, k4, k5⟩
section
variable {G : World} {q pre : List HP} {a b A : Option Addr} {c d C p p0 p1 p2 i : Nat} {lo hi n cd dep : Int} {fv : Value} {x y : Ins} {t : Cod} {m : Mdl} {at_ : Int}
variable {l cells loc : List Int} {idx arr z k u pc code : Int} {x1 x2 x3 x4 x5 x6 old : Value} {pm cc lc n1 n2 : Nat} {la cda : Option Addr}
variable {f f2 : Frm} {th less : Int} {l2 : List Int}
theorem RVal_ok  : CallF Tryz.prog G 30 [.int .i64 z] (q) (Ret fun v q' => v = .bool (decide (val z)) ∧ q' = q) := by
 refine CallF.of Tryz.func30 Tryz.ntmps30 rfl (fun F cs => ?_)
 refine xo 9 ?_
 refine XO.sb [5, 2, 0] ?_
 apply XO.cutAnd 3 8 5 rfl
 · skip
   intro g1 M1; have h1 := sp g1
   refine oo 3 ?_
   exact XO.fin M1 ⟨andT g1, subB⟩
 · skip
   intro g1 M1; have h1 := sp g1
   refine oo 3 ?_
   exact XO.fin M1 ⟨andF g1, subB⟩
 · skip
   refine ox 2 ?_
   refine X.retL (q) Tryz.func30 (res1 Tryz.results30 rfl) ⟨_, rfl, congrArg Value.bool (by rw [Bool.eq_iff_iff, decide_eq_true_iff]; unfold val; simp), rfl⟩
theorem RValues_ok (hs : Sees q a (l.map I64)) (hL : l.length ≤ 9223372036854775807) : CallF Tryz.prog G 13 [.slice a l.length c] (q) (Ret fun v q' => v = .bool (decide (vals l)) ∧ q' = q) := by
 refine CallF.of Tryz.func13 Tryz.ntmps13 rfl (fun F cs => ?_)
 refine xx 10 ?_
 refine X.at (X.loop (fun (s : Nat × Option Addr) => s.1 ≤ l.length ∧ s.2 = a ∧ ∀ j (h : j < l.length), j < s.1 → val l[j]) (fun s => [(3, .int .i64 (s.1 : Int)), (0, .slice s.2 l.length c), (2, .bool false)]) (fun s => (q ++ F)) (fun s => l.length - s.1) (fun s hi_ ih => ?_) (0, a) ⟨Nat.zero_le _, rfl, fun j _ k => absurd k (Nat.not_lt_zero j)⟩) subA leA
 try dsimp only at hi_ ih ⊢
 obtain ⟨hk, ha, hP⟩ := hi_
 obtain ⟨k, a2⟩ := s; dsimp only at *; subst ha
 refine xx 8 ?_
 refine X.part 7 rfl (fun h0 => ?_) (fun h0 => ?_)
 · skip
   replace h0 := sp h0
   have hk1 : k < l.length := by omega
   refine X.adr hs (by simp; omega) (fun ba oa e1 => ?_); subst e1
   refine xo 9 ?_
   refine ld ?_ (hc := (Cl.e1 hs leA hk1 rfl))
   refine XO.cR Tryz.call30 (RVal_ok) ?_
   refine XO.pu (Pu.not rfl) ?_
   refine ox 1 ?_
   refine X.part 15 rfl (fun h1 => ?_) (fun h1 => ?_)
   · skip
     replace h1 := sp h1
     refine xx 5 ?_
     refine X.retL (q) Tryz.func13 (res1 Tryz.results13 rfl) ⟨_, rfl, congrArg Value.bool (by symm; rw [decide_eq_false_iff_not]; intro e; exact absurd (e _ (List.getElem_mem hk1)) h1), rfl⟩
   · skip
     replace h1 := sp h1
     refine xx 8 ?_
     refine X.at (ih (k + 1, some ⟨ba, oa, none⟩) ⟨by dsimp only; omega, rfl, fun j g1 g3 => by dsimp only at g3; rcases Nat.lt_or_ge j k with e | e; exact hP j g1 e; obtain rfl : j = k := (by omega); exact h1⟩ (by dsimp only; omega)) subA leA
 · skip
   replace h0 := sp h0
   refine xx 6 ?_
   refine X.retL (q) Tryz.func13 (res1 Tryz.results13 rfl) ⟨_, rfl, congrArg Value.bool (by symm; rw [decide_eq_true_iff]; intro n hn; obtain ⟨j, hj, rfl⟩ := List.getElem_of_mem hn; exact hP j hj (by omega)), rfl⟩
set_option maxHeartbeats 1000000 in
theorem RCount_ok (hq : MdlQ q m) (hk : vchk m = 0) : CallF Tryz.prog G 15 [.agg (mdlC m).toArray] (q) (Ret fun v q' => v = .int .i64 (cntS m) ∧ q' = q) := by
 refine CallF.of Tryz.func15 Tryz.ntmps15 rfl (fun F cs => ?_)
 have hmo := mdlOk_of hk; have hv1 := hmo.2.2.1.1; have ha1 := hmo.2.2.2.1
 refine xo 2 ?_
 refine XO.bx fun n1 => ?_
 refine oo 5 ?_
 refine ld ?_
 refine ox 9 ?_
 refine X.know 3 (.int .i64 ((m.vars.length : Int) + sumI (m.arrays.take 0))) rfl (congrArg (Value.int .i64) (by simp [sumI])) ?_
 refine X.at (X.loop (fun (s : Nat) => s ≤ m.arrays.length) (fun s => [(4, .int .i64 (s : Int)), (3, .int .i64 ((m.vars.length : Int) + sumI (m.arrays.take s))), (1, .pointer (some ⟨n1, 0, none⟩)), (2, .int .i64 0)]) (fun s => pto n1 (.cells (mdlC m).toArray 26 (0, 0)) :: (q ++ F)) (fun s => m.arrays.length - s) (fun s hi_ ih => ?_) 0 (Nat.zero_le _)) subA leA
 try dsimp only at hi_ ih ⊢
 obtain hs0 := hi_
 refine xo 5 ?_
 refine ld ?_
 refine ox 3 ?_
 refine X.part 12 rfl (fun h0 => ?_) (fun h0 => ?_)
 · skip
   replace h0 := sp h0
   have hk1 : s < m.arrays.length := by omega
   have hsu := sumI_take_le hmo s; have hx := ha1.2 _ (List.getElem_mem hk1); unfold within at hx
   refine xo 7 ?_
   refine ld ?_
   refine oo 1 ?_
   refine XO.adr hq.a (by simp; omega) (fun b1 o1 e1 => ?_)
   have hs1 := hq.a; rw [e1] at hs1
   refine XO.know 17 (.slice (some ⟨b1, o1, none⟩) m.arrays.length m.ac) rfl (by rw [e1]) ?_
   refine oo 1 ?_
   refine ld ?_ (hc := (Cl.e1 hs1 leA hk1 rfl))
   refine ox 9 ?_
   refine X.sb [4, 3, 1, 2] ?_
   refine X.know 3 (.int .i64 ((m.vars.length : Int) + sumI (m.arrays.take (s + 1)))) rfl (congrArg (Value.int .i64) (by rw [sumI_take hk1]; omega)) ?_
   refine X.at (ih (s + 1) (by omega) (by omega)) subA leA
 · skip
   replace h0 := sp h0
   refine xx 7 ?_
   refine X.retL (q) Tryz.func15 (res1 Tryz.results15 rfl) ⟨_, rfl, by unfold cntS; rw [List.take_of_length_le (by omega)], rfl⟩
set_option maxHeartbeats 2000000 in
theorem RCell_ok (hq : MdlQ q m) (hmo : mdlOk m) (har : 0 ≤ arr ∧ arr < m.arrays.length) (hix : val idx) : CallF Tryz.prog G 44 [.agg (mdlC m).toArray, .int .i64 arr, .int .i64 idx] (q) (Ret fun v q' => v = .int .i64 (cellS m arr idx) ∧ q' = q) := by
 refine CallF.of Tryz.func44 Tryz.ntmps44 rfl (fun F cs => ?_)
 have hv1 := hmo.2.2.1.1; have ha1 := hmo.2.2.2.1; have hix2 := hix; unfold val at hix2; have hal : arr.toNat < m.arrays.length := (by omega); have hx := ha1.2 _ (List.getElem_mem hal); unfold within at hx
 have hsl := sumI_take_le hmo arr.toNat; have hgd : m.arrays.getD arr.toNat 0 = m.arrays[arr.toNat] := getD_lt hal
 refine X.adr hq.a (by simp; omega) (fun b1 o1 e1 => ?_)
 have hs1 := hq.a; rw [e1] at hs1
 refine xo 2 ?_
 refine XO.bx fun n1 => ?_
 refine oo 8 ?_
 refine XO.sb [11, 6, 3, 1, 2] ?_
 apply XO.cutOr 8 19 11 rfl
 · skip
   intro g1 M1; have h1 := sp g1
   refine oo 2 ?_
   refine ld ?_
   refine oo 1 ?_
   refine XO.know 14 (.slice (some ⟨b1, o1, none⟩) m.arrays.length m.ac) rfl (by rw [e1]) ?_
   refine oo 1 ?_
   refine ld ?_ (hc := (Cl.e1 hs1 leA hal (by omega)))
   refine oo 2 ?_
   exact XO.fin M1 ⟨orF g1, subB⟩
 · skip
   intro g1 M1; have h1 := sp g1
   refine oo 8 ?_
   exact XO.fin M1 ⟨orT g1, subB⟩
 · skip
   refine ox 1 ?_
   refine X.part 19 rfl (fun h1 => ?_) (fun h1 => ?_)
   · skip
     replace h1 := sp h1
     refine xx 5 ?_
     refine X.retL (q) Tryz.func44 (res1 Tryz.results44 rfl) ⟨_, rfl, by unfold cellS; rw [hgd, if_neg (by omega)], rfl⟩
   · skip
     replace h1 := sp h1
     refine xo 5 ?_
     refine ld ?_
     refine ox 9 ?_
     have hci : cellS m arr idx = (m.vars.length : Int) + sumI (m.arrays.take arr.toNat) + idx := by unfold cellS; rw [hgd, if_pos (by omega)]
     refine X.know 7 (.int .i64 ((m.vars.length : Int) + sumI (m.arrays.take 0))) rfl (congrArg (Value.int .i64) (by simp [sumI])) ?_
     refine X.at (X.loop (fun (s : Nat) => s ≤ arr.toNat) (fun s => [(8, .int .i64 (s : Int)), (7, .int .i64 ((m.vars.length : Int) + sumI (m.arrays.take s))), (3, .pointer (some ⟨n1, 0, none⟩)), (1, .int .i64 arr), (2, .int .i64 idx), (6, .int .i64 0)]) (fun s => pto n1 (.cells (mdlC m).toArray 26 (0, 0)) :: (q ++ F)) (fun s => arr.toNat - s) (fun s hi_ ih => ?_) 0 (Nat.zero_le _)) subA leA
     try dsimp only at hi_ ih ⊢
     obtain hs0 := hi_
     have hsu0 := sumI_take_le hmo s
     refine xx 7 ?_
     refine X.part 25 rfl (fun h0 => ?_) (fun h0 => ?_)
     · skip
       replace h0 := sp h0
       have hk1 : s < m.arrays.length := by omega
       have hsu := sumI_take_le hmo s; have hx2 := ha1.2 _ (List.getElem_mem hk1); unfold within at hx2
       refine xo 7 ?_
       refine ld ?_
       refine oo 1 ?_
       refine XO.know 30 (.slice (some ⟨b1, o1, none⟩) m.arrays.length m.ac) rfl (by rw [e1]) ?_
       refine oo 1 ?_
       refine ld ?_ (hc := (Cl.e1 hs1 leA hk1 rfl))
       refine ox 9 ?_
       refine X.know 7 (.int .i64 ((m.vars.length : Int) + sumI (m.arrays.take (s + 1)))) rfl (congrArg (Value.int .i64) (by rw [sumI_take hk1]; omega)) ?_
       refine X.at (ih (s + 1) (by omega) (by omega)) subA leA
     · skip
       replace h0 := sp h0
       refine xx 9 ?_
       refine X.retL (q) Tryz.func44 (res1 Tryz.results44 rfl) ⟨_, rfl, by rw [hci, show s = arr.toNat by omega], rfl⟩
set_option maxHeartbeats 4000000 in
theorem RMay_ok (hq : MdlQ q m) (hf : FrmQ q f) (hle : 0 ≤ less ∧ less ≤ 1) (hsb : f.stk.length ≤ 1000000000) : CallF Tryz.prog G 24 [.agg (mdlC m).toArray, .agg (frmC f).toArray, .int .i64 less] (q) (Ret fun v q' => (∃ bb, v = .bool bb ∧ (bb = true ↔ mayS m f less)) ∧ q' = q) := by
 refine CallF.of Tryz.func24 Tryz.ntmps24 rfl (fun F cs => ?_)
 have hlen := flatMap_len (f := codC) (sz := 4) (fun _ => rfl) m.threads; have hnt := hq.nt; have hnl := hf.nl; have hns := hf.ns
 refine xo 2 ?_
 refine XO.bx fun n1 => ?_
 refine XO.bx fun n2 => ?_
 refine oo 5 ?_
 refine ldA ?_
 refine XO.cR Tryz.call20 (RCheck7_ok (hq.le leA)) ?_
 refine oo 2 ?_
 refine XO.sb [13, 6, 4, 3, 2] ?_
 apply XO.cutOr 4 17 13 rfl
 · skip
   intro g1 M1; have h1 := sp g1
   refine oo 1 ?_
   refine ld ?_
   refine oo 2 ?_
   exact XO.fin M1 ⟨orF g1, subB⟩
 · skip
   intro g1 M1; have h1 := sp g1
   refine oo 4 ?_
   exact XO.fin M1 ⟨orT g1, subB⟩
 · skip
   refine oo 1 ?_
   refine XO.sb [18, 6, 4, 3, 2] ?_
   apply XO.cutOr 7 25 18 rfl
   · skip
     intro g1 M1; have h1 := sp g1
     refine oo 1 ?_
     refine ld ?_
     refine oo 1 ?_
     refine ld ?_
     refine oo 3 ?_
     exact XO.fin M1 ⟨orF g1, subB⟩
   · skip
     intro g1 M1; have h1 := sp g1
     refine oo 7 ?_
     exact XO.fin M1 ⟨orT g1, subB⟩
   · skip
     refine ox 1 ?_
     refine X.part 25 rfl (fun h1 => ?_) (fun h1 => ?_)
     · skip
       replace h1 := sp h1
       refine xx 5 ?_
       refine X.retL (q) Tryz.func24 (res1 Tryz.results24 rfl) ⟨_, rfl, ⟨false, rfl, by simp only [Bool.false_eq_true, false_iff]; rintro ⟨k1, k2, k3, _⟩; omega⟩, rfl⟩
     · skip
       replace h1 := sp h1
       refine xo 5 ?_
       refine ld ?_
       refine oo 1 ?_
       refine ld ?_
       have hth : f.code.toNat < m.threads.length := by omega
       have h1n : vchk m = 0 ∧ 0 ≤ f.code ∧ f.code < (m.threads.length : Int) := by omega
       obtain ⟨hin, hL, hd0, hdp⟩ := vOk h1n.1 hth; obtain ⟨hp0, hDl, _, _⟩ := dOf_len hin hd0
       have hni := (hq.x _ (List.getElem_mem hth)).ni
       refine XO.adr hq.t (by rw [hlen]; omega) (fun b1 o1 e1 => ?_)
       have hs1 := hq.t; rw [e1] at hs1
       refine XO.know 27 (.slice (some ⟨b1, o1, none⟩) m.threads.length m.tc) rfl (by rw [e1]) ?_
       refine oo 1 ?_
       refine XO.ldS (n := f.code.toNat) Tryz.isAgg46 Tryz.sizeOf46 hs1 hth ?_
       refine XO.al Tryz.zeroValue46 fun n3 => ?_
       refine stA ?_
       refine oo 5 ?_
       refine ld ?_
       refine oo 2 ?_
       refine XO.sb [35, 7, 6, 4, 3, 2] ?_
       apply XO.cutOr 7 42 35 rfl
       · skip
         intro g2 M2; have h2 := sp g2
         refine oo 1 ?_
         refine ld ?_
         refine oo 1 ?_
         refine ld ?_
         refine oo 3 ?_
         exact XO.fin M2 ⟨orF g2, subB⟩
       · skip
         intro g2 M2; have h2 := sp g2
         refine oo 7 ?_
         exact XO.fin M2 ⟨orT g2, subB⟩
       · skip
         refine oo 1 ?_
         refine XO.sb [43, 7, 6, 4, 3, 2] ?_
         apply XO.cutOr 7 50 43 rfl
         · skip
           intro g2 M2; have h2 := sp g2
           refine oo 1 ?_
           refine ld ?_
           refine oo 2 ?_
           refine ld ?_
           refine oo 2 ?_
           exact XO.fin M2 ⟨orF g2, subB⟩
         · skip
           intro g2 M2; have h2 := sp g2
           refine oo 7 ?_
           exact XO.fin M2 ⟨orT g2, subB⟩
         · skip
           refine oo 1 ?_
           refine XO.sb [51, 7, 6, 4, 3, 2] ?_
           apply XO.cutOr 5 56 51 rfl
           · skip
             intro g2 M2; have h2 := sp g2
             refine oo 1 ?_
             refine ld ?_
             refine XO.cR Tryz.call13 (RValues_ok (hf.l.le leA) hf.nl) ?_
             refine XO.pu (Pu.not rfl) ?_
             refine oo 1 ?_
             exact XO.fin M2 ⟨orF g2, subB⟩
           · skip
             intro g2 M2; have h2 := sp g2
             refine oo 5 ?_
             exact XO.fin M2 ⟨orT g2, subB⟩
           · skip
             refine oo 1 ?_
             refine XO.sb [57, 7, 6, 4, 3, 2] ?_
             apply XO.cutOr 5 62 57 rfl
             · skip
               intro g2 M2; have h2 := sp g2
               refine oo 1 ?_
               refine ld ?_
               refine XO.cR Tryz.call13 (RValues_ok (hf.s.le leA) hf.ns) ?_
               refine XO.pu (Pu.not rfl) ?_
               refine oo 1 ?_
               exact XO.fin M2 ⟨orF g2, subB⟩
             · skip
               intro g2 M2; have h2 := sp g2
               refine oo 5 ?_
               exact XO.fin M2 ⟨orT g2, subB⟩
             · skip
               refine ox 1 ?_
               refine X.sb [62, 7, 6, 4, 3, 2] ?_
               refine X.part 62 rfl (fun h2 => ?_) (fun h2 => ?_)
               · skip
                 replace h2 := sp h2
                 refine xx 5 ?_
                 refine X.retL (q) Tryz.func24 (res1 Tryz.results24 rfl) ⟨_, rfl, ⟨false, rfl, by simp only [Bool.false_eq_true, false_iff]; rintro ⟨k1, k2, k3, k4, k5, k6, k7, k8, _⟩; grind⟩, rfl⟩
               · skip
                 replace h2 := sp h2
                 refine xo 4 ?_
                 refine ldA ?_
                 refine ldA ?_
                 refine XO.cX Tryz.call16 (Le.refl _) (RThread_ok (m := m) (t := m.threads[f.code.toNat]) ((hq.x _ (List.getElem_mem hth)).le leA) hin hL) ?_
                 rintro _ _ (⟨hz, rfl, rfl⟩ | ⟨hz, a1, c1, rfl, rfl⟩)
                 · exact absurd hd0 hz
                 have h2n : (0 ≤ f.pc ∧ f.pc < (m.threads[f.code.toNat].ins.length : Int)) ∧ (f.loc.length : Int) = m.threads[f.code.toNat].locals ∧ vals f.loc ∧ vals f.stk := ⟨h2.1.1.1, h2.1.1.2, h2.1.2, h2.2⟩
                 have hpc : f.pc.toNat < (dOf m m.threads[f.code.toNat]).1.length := by omega
                 refine XO.lsadr (l := (dOf m m.threads[f.code.toNat]).1) (by omega) (fun g1 e_ => ?_); subst e_
                 refine ox 7 ?_
                 refine drw ?_
                 refine dd [0, 1, 2] ?_
                 refine XD.kt 71 ?_
                 refine dd [3, 4] ?_
                 refine ldD 5 ?_
                 refine dd [6] ?_
                 refine ldD 7 ?_ (hc := (Cl.e1 (Sees.lsH _) fndA hpc (by omega)))
                 refine dd [8, 9, 10] ?_
                 refine XD.part 79 rfl (fun h3 => ?_) (fun h3 => ?_)
                 · skip
                   replace h3 := sp h3
                   refine dd [11, 12] ?_
                   refine ldD 13 ?_
                   refine dd [14] ?_
                   refine ldD 15 ?_ (hc := (Cl.e1 (Sees.lsH _) fndA hpc (by omega)))
                   refine dd [16] ?_
                   refine ldD 17 ?_
                   refine dd [18, 19, 20, 21, 22, 23] ?_
                   refine XD.nil ?_
                   refine X.retL (q) Tryz.func24 (res1 Tryz.results24 rfl) ⟨_, rfl, ⟨_, rfl, by rw [mayS_at2 h1n hth h2n.1 h2n.2.1 h2n.2.2.1 h2n.2.2.2, dAt_get hpc]; simp; try omega⟩, rfl⟩
                 · skip
                   replace h3 := sp h3
                   refine dd [11, 12, 13, 14, 15, 16, 17, 18, 19, 20, 21, 22, 23] ?_
                   refine XD.nil ?_
                   refine X.retL (q) Tryz.func24 (res1 Tryz.results24 rfl) ⟨_, rfl, ⟨_, rfl, by rw [mayS_at2 h1n hth h2n.1 h2n.2.1 h2n.2.2.1 h2n.2.2.2, dAt_get hpc]; simp; try omega⟩, rfl⟩
end
end Go.Proofs.YtcklgodcjnnllaaGreatDoor

