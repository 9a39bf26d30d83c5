/- What functions of package tight, of its references and of its laws do: contracts of calls, proved by walking their code. -/
import Derived.Test.YtbeeplmgcdnadaaDoorGe
import Derived.KernelRfl
set_option maxRecDepth 100000
set_option linter.unusedVariables false
set_option linter.unusedSimpArgs false
namespace Go.Proofs.YtbeeplmgcdnadaaDoor
open Go Go.RowKit Wx
attribute [local irreducible] Wx.lsH Wx.rsH Wx.lsM Wx.rsM Wx.stars

section
variable {G : World} {q : List HP} {a b A : Option Addr} {c d : Nat} {cd : Int} {l : List Ins} {ln : List Int} {o : List Bool}
variable {nt : Nat} {nm : ByteArray} {lo : Int} {ia la wa : Option Addr} {ic lc wc : Nat} {I : List Ins} {L W : List Int}
variable {p1 : Nat}
theorem backF_ok {y : Nat} {J : Nat → HP} {Jf : HP → Prop} (hL : I.length ≤ 65536)
    (hy : ∀ i (h : i < (bwd I).length), CallV Tryd.prog G (.func (.yield y) #[] #[]) (bwd I)[i] (J i :: [pto p1 (.cells [.slice a I.length c].toArray 33 (0, 0)), rsH insC 4 53 a c (I)]) (Ret fun v q => (v = .bool true ∧ q = J (i + 1) :: [pto p1 (.cells [.slice a I.length c].toArray 33 (0, 0)), rsH insC 4 53 a c (I)]) ∨ (v = .bool false ∧ ∃ A, Jf A ∧ q = A :: [pto p1 (.cells [.slice a I.length c].toArray 33 (0, 0)), rsH insC 4 53 a c (I)]))) :
    CallF Tryd.prog G 97 [.func (.yield y) #[] #[], .pointer (some ⟨p1, 0, none⟩)] (J 0 :: [pto p1 (.cells [.slice a I.length c].toArray 33 (0, 0)), rsH insC 4 53 a c (I)]) (Ret fun _ q => q = J (bwd I).length :: [pto p1 (.cells [.slice a I.length c].toArray 33 (0, 0)), rsH insC 4 53 a c (I)] ∨ ∃ A, Jf A ∧ q = A :: [pto p1 (.cells [.slice a I.length c].toArray 33 (0, 0)), rsH insC 4 53 a c (I)]) := by
 refine CallF.of Tryd.func97 Tryd.ntmps97 rfl (fun F cs => ?_)
 have hbl := bwd_len I
 refine xo 2 ?_
 refine ld ?_
 refine ox 5 ?_
 refine X.at (X.loop (fun (s : Nat) => s ≤ I.length) (fun s => [(0, .func (.yield y) #[] #[]), (1, .pointer (some ⟨p1, 0, none⟩)), (3, .int .i64 ((I.length : Int) - 1 - (s : Int)))]) (fun s => J s :: pto p1 (.cells [.slice a I.length c].toArray 33 (0, 0)) :: rsH insC 4 53 a c (I) :: F) (fun s => I.length - s) (fun s hi_ ih => ?_) 0 (Nat.zero_le _)) subA leA
 try dsimp only at hi_ ih ⊢
 obtain hs0 := hi_
 refine xx 6 ?_
 refine X.part 8 rfl (fun h0 => ?_) (fun h0 => ?_)
 · skip
   replace h0 := sp h0; have hlt : s < I.length := (by omega); obtain ⟨n, hn⟩ : ∃ n, n = I.length - 1 - s := ⟨_, rfl⟩; have hnl : n < I.length := (by omega)
   refine X.rsadr (fl := insC) (l := I) (by omega) (fun g e_ => ?_); subst e_
   have hy1 := hy s (by omega); rw [bwd_at, ← hn, getD_lt' hnl] at hy1
   refine xo 8 ?_
   refine ld ?_
   refine oo 2 ?_
   refine XO.ldS (n := n) (fl := insC) (l := I) Tryd.isAgg53 Tryd.sizeOf53 (Sees.rsH _) hnl ?_ (hq := fndA)
   refine XO.cV hy1 ?_
   rintro _ _ (⟨rfl, rfl⟩ | ⟨rfl, A, hA, rfl⟩) _ e_ <;> simp only [ca, na] at e_ <;> subst e_
   · skip
     refine XO.pu (Pu.not rfl) ?_
     refine ox 1 ?_
     refine X.kf 18 ?_
     refine xx 8 ?_
     have hstep : (I.length : Int) - 1 - (s : Int) - 1 = (I.length : Int) - 1 - ((s + 1 : Nat) : Int) := (by omega)
     refine X.know 3 (.int .i64 ((I.length : Int) - 1 - ((s + 1 : Nat) : Int))) rfl (by rw [← hstep]) ?_
     refine X.at (ih (s + 1) (by omega) (by omega)) subA leA
   · skip
     refine XO.pu (Pu.not rfl) ?_
     refine ox 1 ?_
     refine X.kt 18 ?_
     refine xx 1 ?_
     refine X.retL (A :: [pto p1 (.cells [.slice (some ⟨g, 0, none⟩) I.length c].toArray 33 (0, 0)), rsH insC 4 53 (some ⟨g, 0, none⟩) c (I)]) Tryd.func97 (res0 Tryd.results97) ⟨_, rfl, .inr ⟨A, hA, rfl⟩⟩
 · skip
   replace h0 := sp h0; obtain rfl : s = I.length := by omega
   refine xx 2 ?_
   refine X.fallL (J I.length :: [pto p1 (.cells [.slice a I.length c].toArray 33 (0, 0)), rsH insC 4 53 a c (I)]) Tryd.func97 (res0 Tryd.results97) ⟨_, rfl, .inl (by rw [hbl])⟩
theorem back_iter (hL : I.length ≤ 65536) : Iter Tryd.prog G (.func (.func 97) [].toArray [.pointer (some ⟨p1, 0, none⟩)].toArray) (bwd I) [pto p1 (.cells [.slice a I.length c].toArray 33 (0, 0)), rsH insC 4 53 a c (I)] := by
  intro y J Jf hy
  exact CallV.c11 Tryd.call97 (backF_ok (G := G) (p1 := p1) (J := J) (Jf := Jf) hL hy)
theorem back_ok  : CallF Tryd.prog G 79 [.slice a I.length c] ([]) (Ret fun v q' => ∃ p1, v = .func (.func 97) [].toArray [.pointer (some ⟨p1, 0, none⟩)].toArray ∧ q' = [pto p1 (.cells [.slice a I.length c].toArray 33 (0, 0))]) := by
 refine CallF.of Tryd.func79 Tryd.ntmps79 rfl (fun F cs => ?_)
 refine xo 2 ?_
 refine XO.bx fun n1 => ?_
 refine ox 7 ?_
 refine X.retL [pto n1 (.cells [.slice a I.length c].toArray 33 (0, 0))] Tryd.func79 (res1 Tryd.results79 rfl) ⟨_, rfl, n1, rfl, rfl⟩
set_option maxHeartbeats 8000000 in
theorem close_ok (hA : ∀ i ∈ I, jm i = true → 0 ≤ i.a ∧ i.a.toNat < I.length) (hLn : L.length = I.length) (hW : ∀ x ∈ W, x < 0 ∨ x.toNat < I.length) (hWn : W.length ≤ 65536) (h0I : 0 < I.length) (hL : I.length ≤ 65536) : CallF Tryd.prog G 61 [.pointer (some ⟨nt, 0, none⟩)] (pto nt (.cells [.string nm, .int .i64 lo, .slice ia I.length ic, .slice la L.length lc, .slice wa W.length wc].toArray 64 (0, 0)) :: rsH insC 4 53 ia ic (I) :: lsH I64 3 la lc (L) :: lsH I64 3 wa wc (W) :: q) (Ret fun v q' => ∃ a1 c1 a2 c2, q' = pto nt (.cells [.string nm, .int .i64 lo, .slice a1 (takeI (cl I) I).length c1, .slice a2 (cutS (cl I) 0 L).length c2, .slice wa W.length wc].toArray 64 (0, 0)) :: rsH insC 4 53 a1 c1 (takeI (cl I) I) :: lsH I64 3 a2 c2 (cutS (cl I) 0 L) :: lsH I64 3 wa wc (W.map (nowR (cl I))) :: q) := by
 refine CallF.of Tryd.func61 Tryd.ntmps61 rfl (fun F cs => ?_)
 refine X.rsadr (fl := insC) (l := I) h0I (fun g e_ => ?_); subst e_
 refine xo 6 ?_
 refine ld ?_
 refine oo 6 ?_
 refine XO.ef (Ef.make (n := I.length) rfl rfl Tryd.underlying79 ginfo4 rfl rfl (by omega) (by omega)) ?_
 rintro _ _ ⟨go, rfl, rfl⟩
 refine XO.le (q' := lsH Value.bool 4 (some ⟨go, 0, none⟩) I.length (outL I 0) :: _) (Le.trans fndA (by rw [show outL I 0 = List.replicate I.length false from rfl, ← ls_made (f := Value.bool) (u := false) rfl]; exact Le.refl _)) ?_
 refine XO.al Tryd.zeroValue79 fun n1 => ?_
 refine st ?_
 refine oo 5 ?_
 refine XO.know 16 (.int .i64 ((I.length + 1 : Nat) : Int)) rfl (rfl) ?_
 refine XO.ef (Ef.make (n := I.length + 1) rfl rfl Tryd.underlying23 ginfo3 rfl rfl (by omega) (by omega)) ?_
 rintro _ _ ⟨gl, rfl, rfl⟩
 refine XO.le (q' := lsH I64 3 (some ⟨gl, 0, none⟩) (I.length + 1) (List.replicate (I.length + 1) 0) :: _) (Le.trans fndA (by rw [← ls_made (f := I64) (u := 0) rfl]; exact Le.refl _)) ?_
 refine XO.al Tryd.zeroValue23 fun n2 => ?_
 refine st ?_
 refine oo 3 ?_
 refine ld ?_
 refine oo 3 ?_
 refine XO.ef0 (Ef.setL (f := I64) (l := List.replicate (I.length + 1) 0) (n := I.length) (u := (I.length : Int)) rfl rfl Tryd.sizeOf3 rfl (by simp) rfl rfl fndA) ?_
 rintro _ _ ⟨rfl, rfl⟩
 refine oo 8 ?_
 refine ld ?_
 refine XO.cF Tryd.call79 (back_ok (I := I)) ?_
 rintro _ _ ⟨p1, rfl, rfl⟩ _ e_; simp only [ca, na] at e_; subst e_
 refine ox 2 ?_
 refine X.sb [27, 4, 3, 0] ?_
 have hbl := bwd_len I; refine X.range [pto p1 (.cells [.slice (some ⟨g, 0, none⟩) I.length ic].toArray 33 (0, 0)), rsH insC 4 53 (some ⟨g, 0, none⟩) ic (I)] (fun k => lsH Value.bool 4 (some ⟨go, 0, none⟩) I.length (outL I (k)) :: lsH I64 3 (some ⟨gl, 0, none⟩) (I.length + 1) (leftL I (k)) :: pto n1 (.cells [.slice (some ⟨go, 0, none⟩) I.length I.length].toArray 79 (0, 0)) :: pto n2 (.cells [.slice (some ⟨gl, 0, none⟩) (I.length + 1) (I.length + 1)].toArray 23 (0, 0)) :: [pto nt (.cells [.string nm, .int .i64 lo, .slice (some ⟨g, 0, none⟩) I.length ic, .slice la L.length lc, .slice wa W.length wc].toArray 64 (0, 0))]) (fun e qs => False) (F := lsH I64 3 la lc (L) :: lsH I64 3 wa wc (W) :: (q ++ F)) (back_iter hL) rfl ?_ (by intro x hx; obtain ⟨k, hk, rfl⟩ := List.getElem_of_mem hx; rw [bwd_at]; rfl) rfl (by rw [Tryd.func61]; rfl) rfl (fun i hi l2 rec F0 cs0 => ?_) (fun r => ?_) (fun r c2 qs2 hJ => hJ.elim)
 · simp only [ca, na]; exact leA
 · skip
   have hi' : i < I.length := (by omega); rw [bwd_at]
   simp only [zipP]
   refine X.sb [29, 28, 27, 4, 3, 0] ?_
   simp only [ca, na]
   obtain ⟨n, hn⟩ : ∃ n, n = I.length - 1 - i := ⟨_, rfl⟩; have hnl : n < I.length := (by omega); rw [← hn, getD_lt' hnl]; have hni : (I.length : Int) - 1 - (i : Int) = (n : Int) := (by omega); rw [hni]
   have hq := leftL_q I (k := i) (by omega); rw [show I.length - i = n + 1 by omega] at hq; have hct := cl_test hq hnl (by rw [getD_lt' hnl]; exact hA _ (List.getElem_mem hnl)); rw [getD_lt' hnl] at hct; have hll := hq.1; have hol := outL_len I i
   have hout : outL I (i + 1) = if cl I n = true then (outL I i).set n true else outL I i := (by rw [hn]; rfl); have hlef : leftL I (i + 1) = (leftL I i).set n (if cl I n = true then (leftL I i).getD (n + 1) 0 else (n : Int)) := (by rw [hn]; rfl)
   have hl1 : ((leftL I i).set n (n : Int)).length = I.length + 1 := (by rw [List.length_set]; exact hll); have hx1 : n + 1 < ((leftL I i).set n (n : Int)).length := (by omega); have hg1 : ((leftL I i).set n (n : Int))[n + 1] = (leftL I i).getD (n + 1) 0 := (by rw [List.getElem_set_ne (by omega)]; exact (getD_lt' (by omega)).symm)
   refine xo 5 ?_
   refine XO.al Tryd.zeroValue53 fun n3 => ?_
   refine stA ?_
   refine ox 1 ?_
   refine X.beginRound rfl leA ?_
   refine xo 3 ?_
   refine ld ?_
   refine oo 3 ?_
   refine XO.ef0 (Ef.setL (f := I64) (l := leftL I i) (n := n) (u := (n : Int)) rfl rfl Tryd.sizeOf3 rfl (by omega) rfl rfl fndA) ?_
   rintro _ _ ⟨rfl, rfl⟩
   refine ox 2 ?_
   refine drw ?_
   refine dd [0] ?_
   refine ldD 1 ?_
   refine dd [2, 3] ?_
   refine XD.part 37 rfl (fun k1 => ?_) (fun k1 => ?_)
   · skip
     replace k1 := sp k1
     refine dd [4] ?_
     refine ldD 5 ?_
     refine dd [6, 7, 8, 9] ?_
     refine XD.part 43 rfl (fun k2 => ?_) (fun k2 => ?_)
     · skip
       replace k2 := sp k2
       refine ldD 10 ?_
       refine dd [11] ?_
       refine ldD 12 ?_
       obtain ⟨hA0, hA1⟩ := hA _ (List.getElem_mem hnl) (by unfold jm; rw [show I[n].c = 19 by omega]; decide); have hxA : I[n].a.toNat < ((leftL I i).set n (n : Int)).length := (by omega); have hgA : ((leftL I i).set n (n : Int))[I[n].a.toNat] = (leftL I i).getD I[n].a.toNat 0 := (by rw [List.getElem_set_ne (by omega)]; exact (getD_lt' (by omega)).symm)
       refine dd [13] ?_
       refine ldD 14 ?_ (hc := (Cl.e1 (Sees.lsH _) fndA hxA (by omega)))
       refine XD.know 48 (.int .i64 ((leftL I i).getD I[n].a.toNat 0)) rfl (by rw [hgA]) ?_
       refine ldD 15 ?_
       refine dd [16, 17, 18] ?_
       refine ldD 19 ?_ (hc := (Cl.e1 (Sees.lsH _) fndA hx1 (by omega)))
       refine XD.know 53 (.int .i64 ((leftL I i).getD (n + 1) 0)) rfl (by rw [hg1]) ?_
       refine dd [20, 21] ?_
       refine XD.nil ?_
       refine X.part 55 rfl (fun k3 => ?_) (fun k3 => ?_)
       · skip
         replace k3 := sp k3
         refine xx 1 ?_
         refine X.sb [5, 4, 3] ?_
         refine drw ?_
         refine ldD 0 ?_
         refine dd [1] ?_
         refine ldD 2 ?_
         refine dd [3] ?_
         refine ldD 4 ?_
         refine dd [5, 6, 7] ?_
         refine ldD 8 ?_ (hc := (Cl.e1 (Sees.lsH _) fndA hx1 (by omega)))
         refine XD.know 64 (.int .i64 ((leftL I i).getD (n + 1) 0)) rfl (by rw [hg1]) ?_
         refine dd [9] ?_
         refine XD.ef0 10 rfl (Ef.setL (f := Value.bool) (l := outL I i) (n := n) (u := true) rfl rfl Tryd.sizeOf4 rfl (by omega) rfl rfl fndA) ?_
         rintro _ _ ⟨rfl, rfl⟩
         refine ⟨hlA, ?_⟩
         refine dd [11] ?_
         refine XD.ef0 12 rfl (Ef.setL (f := I64) (l := ((leftL I i).set n (n : Int))) (n := n) (u := (leftL I i).getD (n + 1) 0) rfl rfl Tryd.sizeOf3 rfl (by omega) rfl rfl fndA) ?_
         rintro _ _ ⟨rfl, rfl⟩
         refine ⟨trivial, ?_⟩
         refine XD.nil ?_
         refine xx 1 ?_
         have hcl : cl I n = true := hct.2 ⟨by omega, by omega, by omega⟩; rw [if_pos hcl] at hout hlef
         refine X.fall ⟨rfl, rfl, ?_⟩
         simp only [ca, na]; rw [hout, hlef]; simp only [List.set_set]; exact leA
       · skip
         replace k3 := sp k3
         refine xx 3 ?_
         refine X.sb [] ?_
         have hcl : ¬ cl I n = true := (fun e => by have := hct.1 e; omega); rw [if_neg hcl] at hout hlef
         refine X.fall ⟨rfl, rfl, ?_⟩
         simp only [ca, na]; rw [hout, hlef]; exact leA
     · skip
       replace k2 := sp k2
       refine dd [10, 11, 12, 13, 14, 15, 16, 17, 18, 19, 20, 21] ?_
       refine XD.nil ?_
       refine xx 3 ?_
       refine X.sb [] ?_
       have hcl : ¬ cl I n = true := (fun e => by have := hct.1 e; omega); rw [if_neg hcl] at hout hlef
       refine X.fall ⟨rfl, rfl, ?_⟩
       simp only [ca, na]; rw [hout, hlef]; exact leA
   · skip
     replace k1 := sp k1
     refine dd [4, 5, 6, 7, 8, 9, 10, 11, 12, 13, 14, 15, 16, 17, 18, 19, 20, 21] ?_
     refine XD.nil ?_
     refine xx 3 ?_
     refine X.sb [] ?_
     have hcl : ¬ cl I n = true := (fun e => by have := hct.1 e; omega); rw [if_neg hcl] at hout hlef
     refine X.fall ⟨rfl, rfl, ?_⟩
     simp only [ca, na]; rw [hout, hlef]; exact leA
 · skip
   simp only [ca, na]; rw [hbl]; have hol := outL_len I I.length
   refine xo 3 ?_
   refine ld ?_
   refine XO.know 68 (.slice (some ⟨go, 0, none⟩) (outL I I.length).length I.length) rfl (by rw [hol]) ?_
   refine XO.cF Tryd.call78 (take_ok (q := [lsH Value.bool 4 (some ⟨go, 0, none⟩) I.length (outL I I.length)]) (R := cl I) (o := outL I I.length) (Sees.lsH _) hol (fun j hj => by rw [outL_at (by omega) (Nat.le_refl _), decide_eq_true (by omega), Bool.true_and]) hA hLn hW hWn h0I hL) ?_
   rintro _ _ ⟨a1, c1, a2, c2, rfl⟩ _ e_; simp only [ca, na] at e_; subst e_
   refine ox 1 ?_
   refine X.fall ⟨rfl, Lv.marks ?_⟩
   exact Lv.ret (q' := pto nt (.cells [.string nm, .int .i64 lo, .slice a1 (takeI (cl I) I).length c1, .slice a2 (cutS (cl I) 0 L).length c2, .slice wa W.length wc].toArray 64 (0, 0)) :: rsH insC 4 53 a1 c1 (takeI (cl I) I) :: lsH I64 3 a2 c2 (cutS (cl I) 0 L) :: lsH I64 3 wa wc (W.map (nowR (cl I))) :: q) Tryd.func61 (res0 Tryd.results61) ⟨_, rfl, a1, c1, a2, c2, rfl⟩ leA
end
end Go.Proofs.YtbeeplmgcdnadaaDoor

