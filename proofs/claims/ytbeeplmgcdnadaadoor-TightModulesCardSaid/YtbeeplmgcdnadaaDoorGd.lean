/- What functions of package tight, of its references and of its laws do: contracts of calls, proved by walking their code. -/
import Derived.Test.YtbeeplmgcdnadaaDoorGc
import Derived.KernelRfl
set_option maxRecDepth 100000
set_option linter.unusedVariables false
set_option linter.unusedSimpArgs false
namespace Go.Proofs.YtbeeplmgcdnadaaDoor
open Go Go.RowKit Wx
attribute [local irreducible] Wx.lsH Wx.rsH Wx.lsM Wx.rsM Wx.stars

theorem ls_set {q r : List HP} {α : Type} {f : α → Value} {ty : Nat} {a : Option Addr} {c : Nat} {l l' : List α} (e : l = l') (h : Le q (Wx.lsH f ty a c l :: r)) : Le q (Wx.lsH f ty a c l' :: r) := by subst e; exact h
section
variable {G : World} {q : List HP} {a b A : Option Addr} {c d : Nat} {cd : Int} {l : List Ins} {ln : List Int} {o : List Bool}
variable {nt : Nat} {nm : ByteArray} {lo : Int} {ia la wa : Option Addr} {ic lc wc : Nat} {I : List Ins} {L W : List Int}
variable {R : Nat → Bool}
set_option maxHeartbeats 8000000 in
theorem take_ok (ho : Sees q b (o.map Value.bool)) (hon : o.length = I.length) (hR : ∀ j, j < o.length → o.getD j false = R j) (hA : ∀ i ∈ I, jm i = true → 0 ≤ i.a ∧ i.a.toNat < I.length) (hLn : L.length = I.length) (hW : ∀ x ∈ W, x < 0 ∨ x.toNat < I.length) (hWn : W.length ≤ 65536) (h0I : 0 < I.length) (hL : I.length ≤ 65536) : CallF Tryd.prog G 78 [.pointer (some ⟨nt, 0, none⟩), .slice b o.length d] (pto nt (.cells [.string nm, .int .i64 lo, .slice ia I.length ic, .slice la L.length lc, .slice wa W.length wc].toArray 64 (0, 0)) :: rsH insC 4 53 ia ic (I) :: lsH I64 3 la lc (L) :: lsH I64 3 wa wc (W) :: q) (Ret fun v q' => ∃ a1 c1 a2 c2, q' = pto nt (.cells [.string nm, .int .i64 lo, .slice a1 (takeI R I).length c1, .slice a2 (cutS R 0 L).length c2, .slice wa W.length wc].toArray 64 (0, 0)) :: rsH insC 4 53 a1 c1 (takeI R I) :: lsH I64 3 a2 c2 (cutS R 0 L) :: lsH I64 3 wa wc (W.map (nowR R)) :: q) := by
 refine CallF.of Tryd.func78 Tryd.ntmps78 rfl (fun F cs => ?_)
 refine X.adr ho (by rw [List.length_map, hon]; exact h0I) (fun gb ob eb => ?_); subst eb
 have hob : ∀ j (h : j < o.length), o[j] = R j := fun j h => by rw [← hR j h]; exact (getD_lt' h).symm
 refine xo 6 ?_
 refine ld ?_
 refine oo 1 ?_
 refine XO.ef (Ef.make (n := I.length) rfl rfl Tryd.underlying23 ginfo3 rfl rfl (by omega) (by omega)) ?_
 rintro _ _ ⟨g, rfl, rfl⟩
 refine XO.le (q' := lsH I64 3 (some ⟨g, 0, none⟩) I.length (List.replicate I.length 0) :: _) (Le.trans fndA (by rw [← ls_made (f := I64) (u := 0) rfl]; exact Le.refl _)) ?_
 refine oo 13 ?_
 refine ld ?_
 refine ox 4 ?_
 refine X.at (X.loop (fun (s : List Int × Nat) => s.1.length = I.length ∧ s.2 ≤ I.length ∧ ∀ i, i < s.2 → s.1.getD i 0 = (kb R i : Int)) (fun s => [(24, .int .i64 (s.2 : Int)), (23, .int .i64 (I.length : Int)), (4, .slice (some ⟨g, 0, none⟩) I.length I.length), (5, .int .i64 (kb R s.2 : Int)), (0, .pointer (some ⟨nt, 0, none⟩)), (1, .slice (some ⟨gb, ob, none⟩) o.length d)]) (fun s => lsH I64 3 (some ⟨g, 0, none⟩) I.length (s.1) :: pto nt (.cells [.string nm, .int .i64 lo, .slice ia I.length ic, .slice la L.length lc, .slice wa W.length wc].toArray 64 (0, 0)) :: rsH insC 4 53 ia ic (I) :: lsH I64 3 la lc (L) :: lsH I64 3 wa wc (W) :: (q ++ F)) (fun s => I.length - s.2) (fun s hi_ ih => ?_) (List.replicate I.length 0, 0) ⟨by simp, Nat.zero_le _, fun i h => absurd h (Nat.not_lt_zero i)⟩) subA leA
 try dsimp only at hi_ ih ⊢
 obtain ⟨hl1, hl2, hl3⟩ := hi_
 obtain ⟨D, s⟩ := s; dsimp only at *; have hkb := kb_le R s
 refine xx 5 ?_
 refine X.part 25 rfl (fun h0 => ?_) (fun h0 => ?_)
 · skip
   replace h0 := sp h0; have hlt : s < D.length := (by omega); have hlo : s < o.length := (by omega)
   refine xo 15 ?_
   refine XO.ef0 (Ef.setL (f := I64) (l := D) (n := s) (u := (kb R s : Int)) rfl rfl Tryd.sizeOf3 rfl hlt rfl rfl fndA) ?_
   rintro _ _ ⟨rfl, rfl⟩
   refine oo 6 ?_
   refine ld ?_ (hc := (Cl.e1 ho leA hlo rfl))
   refine XO.pu (Pu.not rfl) ?_
   refine ox 1 ?_
   refine X.part 35 rfl (fun h1 => ?_) (fun h1 => ?_)
   · skip
     replace h1 := sp h1
     refine xx 11 ?_
     refine X.sb [24, 5, 23, 4, 0, 1] ?_
     have hrs : R s = false := (by rw [← hob s hlo]; simpa using h1); have hks : kb R (s + 1) = kb R s + 1 := kb_kept hrs
     refine X.know 5 (.int .i64 (kb R (s + 1) : Int)) rfl (by rw [hks]; rfl) ?_
     refine X.at (ih (D.set s (kb R s : Int), s + 1) ⟨by rw [List.length_set]; exact hl1, by dsimp only; omega, fun i hi => by dsimp only at hi ⊢; rw [getD_setI hlt]; split; (rename_i e; rw [e]); exact hl3 i (by omega)⟩ (by dsimp only; omega)) subA leA
   · skip
     replace h1 := sp h1
     refine xx 7 ?_
     have hrs : R s = true := (by rw [← hob s hlo]; simpa using h1); have hks : kb R (s + 1) = kb R s := kb_gone hrs
     refine X.know 5 (.int .i64 (kb R (s + 1) : Int)) rfl (by rw [hks]) ?_
     refine X.at (ih (D.set s (kb R s : Int), s + 1) ⟨by rw [List.length_set]; exact hl1, by dsimp only; omega, fun i hi => by dsimp only at hi ⊢; rw [getD_setI hlt]; split; (rename_i e; rw [e]); exact hl3 i (by omega)⟩ (by dsimp only; omega)) subA leA
 · skip
   replace h0 := sp h0; replace hl3 : ∀ i, i < I.length → D.getD i 0 = (kb R i : Int) := (fun i hi => hl3 i (by omega)); clear ih hkb
   refine xo 8 ?_
   refine ld ?_
   refine ox 4 ?_
   refine X.at (X.loop (fun (s : Nat) => s ≤ W.length) (fun s => [(44, .int .i64 (s : Int)), (43, .int .i64 (W.length : Int)), (42, .slice wa W.length wc), (4, .slice (some ⟨g, 0, none⟩) I.length I.length), (0, .pointer (some ⟨nt, 0, none⟩)), (1, .slice (some ⟨gb, ob, none⟩) o.length d)]) (fun s => lsH I64 3 (some ⟨g, 0, none⟩) I.length (D) :: pto nt (.cells [.string nm, .int .i64 lo, .slice ia I.length ic, .slice la L.length lc, .slice wa W.length wc].toArray 64 (0, 0)) :: rsH insC 4 53 ia ic (I) :: lsH I64 3 la lc (L) :: lsH I64 3 wa wc (((W.map (nowR R)).take s ++ W.drop s)) :: (q ++ F)) (fun s => W.length - s) (fun s hi_ ih => ?_) 0 (Nat.zero_le _)) subA leA
   try dsimp only at hi_ ih ⊢
   obtain hs0 := hi_
   have hwl : (W.map (nowR R)).length = W.length := (List.length_map _); have hcw : ((W.map (nowR R)).take s ++ W.drop s).length = W.length := (by simp; omega)
   refine xx 5 ?_
   refine X.part 45 rfl (fun h0 => ?_) (fun h0 => ?_)
   · skip
     replace h0 := sp h0; have hlt : s < W.length := (by omega); have hlc : s < ((W.map (nowR R)).take s ++ W.drop s).length := (by omega); have hgt : ((W.map (nowR R)).take s ++ W.drop s)[s] = W[s] := mid_at hwl hlt hlc
     refine X.lsadr (fl := I64) (l := ((W.map (nowR R)).take s ++ W.drop s)) (by omega) (fun gw e_ => ?_); subst e_
     have hWs := hW _ (List.getElem_mem hlt)
     refine xo 8 ?_
     refine ld ?_ (hc := (Cl.e1 (Sees.lsH _) fndA hlc rfl))
     refine XO.know 48 (.int .i64 W[s]) rfl (by rw [hgt]) ?_
     refine ox 10 ?_
     refine X.part 59 rfl (fun h1 => ?_) (fun h1 => ?_)
     · skip
       replace h1 := sp h1
       refine xx 8 ?_
       have hv : (W.map (nowR R))[s]'(by omega) = W[s] := (by rw [List.getElem_map]; unfold nowR; rw [if_pos (by omega)])
       have hnx := same_next hwl hlt hv; refine X.le (Le.trans fndA (Le.lsEq (f := I64) (ty := 3) (a := some ⟨gw, 0, none⟩) (c := wc) hnx _)) ?_
       refine X.at (ih (s + 1) (by omega) (by omega)) subA leA
     · skip
       replace h1 := sp h1
       refine xo 5 ?_
       have hat : W[s].toNat < I.length := (by omega); have hlo : W[s].toNat < o.length := (by omega); have hlD : W[s].toNat < D.length := (by omega)
       refine oo 1 ?_
       refine ld ?_ (hc := (Cl.e1 ho leA hlo (by omega)))
       refine ox 2 ?_
       refine X.sb [62, 8, 7, 44, 43, 42, 4, 0, 1] ?_
       refine X.part 62 rfl (fun h2 => ?_) (fun h2 => ?_)
       · skip
         replace h2 := sp h2
         refine xo 5 ?_
         refine ld ?_
         refine oo 2 ?_
         refine XO.ef0 (Ef.setL (f := I64) (l := ((W.map (nowR R)).take s ++ W.drop s)) (n := s) (u := -1) rfl rfl Tryd.sizeOf3 rfl hlc rfl rfl fndA) ?_
         rintro _ _ ⟨rfl, rfl⟩
         refine ox 7 ?_
         have hv : (W.map (nowR R))[s]'(by omega) = -1 := (by rw [List.getElem_map]; unfold nowR; rw [if_neg (by omega), if_pos (by rw [← hob _ hlo]; simpa using h2)])
         have hnx := set_next hwl hlt; rw [hv] at hnx; refine X.le (Le.trans fndA (Le.lsEq (f := I64) (ty := 3) (a := some ⟨gw, 0, none⟩) (c := wc) hnx _)) ?_
         refine X.at (ih (s + 1) (by omega) (by omega)) subA leA
       · skip
         replace h2 := sp h2
         refine xx 1 ?_
         refine drw ?_
         refine dd [0, 1, 2] ?_
         refine ldD 3 ?_
         refine dd [4, 5, 6, 7] ?_
         refine ldD 8 ?_ (hc := (Cl.e1 (Sees.lsH _) fndA hlD (by omega)))
         refine dd [9] ?_
         refine XD.ef0 10 rfl (Ef.setL (f := I64) (l := ((W.map (nowR R)).take s ++ W.drop s)) (n := s) (u := (D[W[s].toNat])) rfl rfl Tryd.sizeOf3 rfl hlc rfl rfl fndA) ?_
         rintro _ _ ⟨rfl, rfl⟩
         refine ⟨trivial, ?_⟩
         refine XD.nil ?_
         refine xx 6 ?_
         have hv : (W.map (nowR R))[s]'(by omega) = D[W[s].toNat] := (by rw [List.getElem_map]; unfold nowR; rw [if_neg (by omega), if_neg (by rw [← hob _ hlo]; simpa using h2), ← hl3 _ hat]; exact getD_lt' hlD)
         have hnx := set_next hwl hlt; rw [hv] at hnx; refine X.le (Le.trans fndA (Le.lsEq (f := I64) (ty := 3) (a := some ⟨gw, 0, none⟩) (c := wc) hnx _)) ?_
         refine X.at (ih (s + 1) (by omega) (by omega)) subA leA
   · skip
     replace h0 := sp h0; obtain rfl : s = W.length := by omega
     have hfin : ((W.map (nowR R)).take W.length ++ W.drop W.length) = W.map (nowR R) := (by rw [List.drop_length, List.append_nil, List.take_of_length_le (by omega)])
     rw [hfin]; clear ih hcw hfin hwl
     refine xx 3 ?_
     refine drw ?_
     refine dd [0, 1, 2, 3, 4, 5] ?_
     refine ldD 6 ?_
     refine dd [7, 9, 10, 11, 12] ?_
     refine ldD 13 ?_
     refine dd [14] ?_
     have hcI : cutS (fun j => o.getD j false) 0 I = cutS R 0 I := (cutS_congr I 0 fun j _ h2 => hR j (by omega)); have hcL : cutS (fun j => o.getD j false) 0 L = cutS R 0 L := (cutS_congr L 0 fun j _ h2 => hR j (by omega))
     refine XD.cX 8 Tryd.call95 (Le.refl _) (cutIns_ok (m := I) (a := ia) (c := ic) ((Sees.rsH _).le fndA) (ho.le leA) (by omega) (by omega)) ?_
     rintro _ _ ⟨a1, c1, rfl, rfl⟩
     refine ⟨hlA, ?_⟩
     rw [hcI]
     refine XD.cX 15 Tryd.call96 (Le.refl _) (cutint_ok (m := L) (a := la) (c := lc) ((Sees.lsH _).le fndA) (ho.le leA) (by omega) (by omega)) ?_
     rintro _ _ ⟨a2, c2, rfl, rfl⟩
     refine ⟨trivial, ?_⟩
     rw [hcL]
     refine dd [16, 17, 18] ?_
     refine stD 19 ?_
     refine dd [20, 21, 22] ?_
     refine stD 23 ?_
     refine XD.nil ?_
     refine xo 6 ?_
     refine ld ?_
     refine ox 4 ?_
     refine X.sb [102, 101, 100, 4, 0] ?_
     have hti : (takeI R I).length = (cutS R 0 I).length := List.length_map _; have hkl : (cutS R 0 I).length ≤ I.length := cutS_le R I
     refine X.at (X.loop (fun (s : Nat) => s ≤ (cutS R 0 I).length) (fun s => [(102, .int .i64 (s : Int)), (101, .int .i64 ((cutS R 0 I).length : Int)), (100, .slice a1 (cutS R 0 I).length c1), (4, .slice (some ⟨g, 0, none⟩) I.length I.length), (0, .pointer (some ⟨nt, 0, none⟩))]) (fun s => rsH insC 4 53 a1 c1 (((takeI R I).take s ++ (cutS R 0 I).drop s)) :: lsH I64 3 (some ⟨g, 0, none⟩) I.length (D) :: pto nt (.cells [.string nm, .int .i64 lo, .slice a1 (cutS R 0 I).length c1, .slice a2 (cutS R 0 L).length c2, .slice wa W.length wc].toArray 64 (0, 0)) :: lsH I64 3 a2 c2 (cutS R 0 L) :: lsH I64 3 wa wc (W.map (nowR R)) :: (q ++ F)) (fun s => (cutS R 0 I).length - s) (fun s hi_ ih => ?_) 0 (Nat.zero_le _)) subA leA
     try dsimp only at hi_ ih ⊢
     obtain hs0 := hi_
     have hcl : ((takeI R I).take s ++ (cutS R 0 I).drop s).length = (cutS R 0 I).length := (by rw [List.length_append, List.length_take, List.length_drop]; omega)
     refine xx 5 ?_
     refine X.part 103 rfl (fun h0 => ?_) (fun h0 => ?_)
     · skip
       replace h0 := sp h0; have hlt : s < (cutS R 0 I).length := (by omega); have hlc : s < ((takeI R I).take s ++ (cutS R 0 I).drop s).length := (by omega); have hgt : ((takeI R I).take s ++ (cutS R 0 I).drop s)[s] = (cutS R 0 I)[s] := mid_at hti hlt hlc
       refine X.rsadr (fl := insC) (l := ((takeI R I).take s ++ (cutS R 0 I).drop s)) (by omega) (fun ga e_ => ?_); subst e_
       refine xo 8 ?_
       refine XO.ldS (n := s) (fl := insC) (l := ((takeI R I).take s ++ (cutS R 0 I).drop s)) Tryd.isAgg53 Tryd.sizeOf53 (Sees.rsH _) hlc ?_ (hq := fndA)
       refine XO.know 106 (.agg (insC (cutS R 0 I)[s]).toArray) rfl (by rw [hgt]) ?_
       refine XO.al Tryd.zeroValue53 fun n1 => ?_
       refine oo 1 ?_
       refine stA ?_
       refine oo 4 ?_
       refine ld ?_
       refine XO.cR Tryd.call77 (isJump_ok) ?_
       refine ox 1 ?_
       refine X.part 109 rfl (fun h1 => ?_) (fun h1 => ?_)
       · skip
         replace h1 := sp h1
         refine xx 1 ?_
         refine drw ?_
         refine dd [0, 1, 2, 3] ?_
         refine ldD 4 ?_
         refine dd [5, 6, 7] ?_
         refine ldD 8 ?_
         have hjm : jm (cutS R 0 I)[s] = true := (by unfold jm; exact decide_eq_true h1); have hmI : (cutS R 0 I)[s] ∈ I := cutS_mem (List.getElem_mem hlt); obtain ⟨hA0, hA1⟩ := hA _ hmI hjm; have hll : (cutS R 0 I)[s].a.toNat < D.length := (by omega)
         refine dd [9] ?_
         refine ldD 10 ?_ (hc := (Cl.e1 (Sees.lsH _) fndA hll (by omega)))
         refine dd [11, 12] ?_
         have hu : (takeI R I)[s]'(by omega) = { (cutS R 0 I)[s] with a := D[(cutS R 0 I)[s].a.toNat] } := (by have e1 : D[(cutS R 0 I)[s].a.toNat] = (kb R (cutS R 0 I)[s].a.toNat : Int) := (by rw [← hl3 _ hA1]; exact (getD_lt' hll).symm); rw [e1]; unfold takeI; rw [List.getElem_map]; unfold Ins.mv; rw [if_pos hjm])
         refine XD.ef0 13 rfl (Ef.setR (f := insC) (sz := 4) (l := ((takeI R I).take s ++ (cutS R 0 I).drop s)) (n := s) (k := 1) (u := (takeI R I)[s]'(by omega)) rfl rfl Tryd.sizeOf3 (fun _ => rfl) rfl hlc rfl (by rw [hgt, hu]; rfl) rfl rfl fndA) ?_
         rintro _ _ ⟨rfl, rfl⟩
         refine ⟨trivial, ?_⟩
         refine XD.nil ?_
         refine xx 5 ?_
         refine X.sb [102, 101, 100, 4, 0] ?_
         have hnx := set_next hti hlt; refine X.le (Le.trans fndA (Le.rsEq (f := insC) (sz := 4) (ty := 53) (a := some ⟨ga, 0, none⟩) (c := c1) hnx _)) ?_
         refine X.at (ih (s + 1) (by omega) (by omega)) subA leA
       · skip
         replace h1 := sp h1
         refine xx 7 ?_
         have hnx := same_next hti hlt (by unfold takeI; rw [List.getElem_map]; unfold Ins.mv; rw [if_neg (by unfold jm; simpa using h1)]); refine X.le (Le.trans fndA (Le.rsEq (f := insC) (sz := 4) (ty := 53) (a := some ⟨ga, 0, none⟩) (c := c1) hnx _)) ?_
         refine X.at (ih (s + 1) (by omega) (by omega)) subA leA
     · skip
       replace h0 := sp h0; have hse : s = (cutS R 0 I).length := (by omega); have hfin : ((takeI R I).take s ++ (cutS R 0 I).drop s) = takeI R I := (by rw [hse, List.drop_length, List.append_nil, List.take_of_length_le (by omega)])
       rw [hfin]
       refine xx 2 ?_
       refine X.fallL (pto nt (.cells [.string nm, .int .i64 lo, .slice a1 (cutS R 0 I).length c1, .slice a2 (cutS R 0 L).length c2, .slice wa W.length wc].toArray 64 (0, 0)) :: rsH insC 4 53 a1 c1 (takeI R I) :: lsH I64 3 a2 c2 (cutS R 0 L) :: lsH I64 3 wa wc (W.map (nowR R)) :: q) Tryd.func78 (res0 Tryd.results78) ⟨_, rfl, a1, c1, a2, c2, by rw [hti]⟩
end
end Go.Proofs.YtbeeplmgcdnadaaDoor

