/- What functions of package tight, of its references and of its laws do: contracts of calls, proved by walking their code. -/
import Derived.Test.YtbeeplmgcdnadaaDoorGk
import Derived.KernelRfl
set_option maxRecDepth 100000
set_option linter.unusedVariables false
set_option linter.unusedSimpArgs false
namespace Go.Proofs.YtbeeplmgcdnadaaDoor
open Go Go.RowKit Wx
attribute [local irreducible] Wx.lsH Wx.rsH Wx.lsM Wx.rsM Wx.stars

section
variable {G : World} {q : List HP} {a b A : Option Addr} {c d : Nat} {cd : Int} {l : List Ins} {ln : List Int} {o : List Bool}
variable {nt : Nat} {nm : ByteArray} {lo : Int} {ia la wa : Option Addr} {ic lc wc : Nat} {I : List Ins} {L W : List Int}
variable {r : List Rw} {x : Ins} {i at_ : Nat}
variable {t : Cod} {m : Mdl}
set_option maxHeartbeats 8000000 in
theorem RPlaces_ok (hq : MdlQ q m) : CallF Tryd.prog G 15 [.agg (mdlC m).toArray] (q) (Ret fun v q' => (vchk m ≠ 0 ∧ v = .tuple [.slice none 0 0, .int .i64 2].toArray ∧ q' = q) ∨ (vchk m = 0 ∧ ∃ (N : List Nl) (a' : Option Addr) (c' : Nat), N.map Nl.l = m.threads.map (fun t => nowsS t.ins) ∧ v = .tuple [.slice a' N.length c', .int .i64 0].toArray ∧ q' = lsH Nl.v 23 a' c' (N) :: nlsM N :: q)) := by
 refine CallF.of Tryd.func15 Tryd.ntmps15 rfl (fun F cs => ?_)
 have hlen := flatMap_len (f := codC) (sz := 4) (fun _ => rfl) m.threads; have hnt := hq.nt
 refine xo 2 ?_
 refine XO.bx fun n1 => ?_
 refine oo 6 ?_
 refine ldA ?_
 refine XO.cR Tryd.call8 (RCheck7_ok (hq.le leA)) ?_
 refine ox 2 ?_
 refine X.part 13 rfl (fun h0 => ?_) (fun h0 => ?_)
 · skip
   replace h0 := sp h0
   refine xx 6 ?_
   refine X.retL (q) Tryd.func15 (res2 Tryd.results15 rfl rfl) ⟨_, rfl, .inl ⟨h0, rfl, rfl⟩⟩
 · skip
   replace h0 := sp h0; obtain ⟨hk0, _⟩ := vchk_zero h0; have hok := mchk_iff.1 hk0; have hb4 := hok.2.2.2.2.2.1
   refine xx 12 ?_
   refine X.at (X.loop (fun (s : (List Nl × Nat) × Option Addr × Nat) => s.1.2 ≤ m.threads.length ∧ s.1.1.map Nl.l = (m.threads.take s.1.2).map (fun t => nowsS t.ins)) (fun s => [(5, .int .i64 (s.1.2 : Int)), (1, .pointer (some ⟨n1, 0, none⟩)), (2, .slice none 0 0), (3, .int .i64 0), (4, .slice s.2.1 s.1.1.length s.2.2)]) (fun s => lsH Nl.v 23 s.2.1 s.2.2 (s.1.1) :: nlsM s.1.1 :: pto n1 (.cells (mdlC m).toArray 26 (0, 0)) :: (q ++ F)) (fun s => m.threads.length - s.1.2) (fun s hi_ ih => ?_) (([], 0), none, 0) ⟨Nat.zero_le _, rfl⟩) subA (Le.trans leA (Le.trans Kn.nlnil (Le.lsH_nil Nl.v 23 _)))
   try dsimp only at hi_ ih ⊢
   obtain ⟨hs0, hmp⟩ := hi_
   obtain ⟨⟨T, s⟩, a', c'⟩ := s; dsimp only at *; have hTl : T.length = s := by have := congrArg List.length hmp; simp at this; omega
   refine xo 5 ?_
   refine ld ?_
   refine ox 3 ?_
   refine X.part 18 rfl (fun h1 => ?_) (fun h1 => ?_)
   · skip
     replace h1 := sp h1; have hth : s < m.threads.length := (by omega); have hT := ThOk.of h0 (List.getElem_mem hth); have hbd : ∀ i ∈ m.threads[s].ins, 0 ≤ i.a ∧ i.a ≤ 65536 := (fun i hi => insOk_a ((mdlOk_thr hk0 (List.getElem_mem hth)).1 i hi)); have hrl := rowsF_len m.threads[s]; have hrn := kb_le (tiR m.threads[s].ins) m.threads[s].ins.length; have hTn := hT.n
     refine xo 7 ?_
     refine ld ?_
     refine oo 1 ?_
     refine XO.adr hq.t (by rw [hlen]; omega) (fun b1 o1 e1 => ?_)
     have hs1 := hq.t; rw [e1] at hs1
     refine XO.know 22 (.slice (some ⟨b1, o1, none⟩) m.threads.length m.tc) rfl (by rw [e1]) ?_
     refine oo 1 ?_
     refine XO.ldS (n := s) Tryd.isAgg35 Tryd.sizeOf35 hs1 hth ?_
     refine XO.cX Tryd.call28 (Le.refl _) (RTight_ok (t := m.threads[s]) ((hq.x _ (List.getElem_mem hth)).le leA) hT hbd) ?_
     rintro _ _ ⟨ar, cr, rfl, rfl⟩
     refine ox 12 ?_
     refine X.at (X.loop (fun (k : Nat × (Option Addr × Nat) × Option Addr) => k.1 ≤ m.threads[s].ins.length) (fun k => [(8, .int .i64 (k.1 : Int)), (7, .slice k.2.1.1 ((nowsS m.threads[s].ins).take k.1).length k.2.1.2), (6, .slice k.2.2 (rowsF m.threads[s]).length cr), (5, .int .i64 (s : Int)), (1, .pointer (some ⟨n1, 0, none⟩)), (2, .slice none 0 0), (3, .int .i64 0), (4, .slice a' T.length c')]) (fun k => lsH I64 3 k.2.1.1 k.2.1.2 (((nowsS m.threads[s].ins).take k.1)) :: rsH rwC 6 70 k.2.2 cr (rowsF m.threads[s]) :: lsH Nl.v 23 a' c' (T) :: nlsM T :: pto n1 (.cells (mdlC m).toArray 26 (0, 0)) :: (q ++ F)) (fun k => m.threads[s].ins.length - k.1) (fun k hi_ ih2 => ?_) (0, (none, 0), ar) (Nat.zero_le _)) subA (Le.trans leA (Le.lsH_nil I64 3 _))
     try dsimp only at hi_ ih2 ⊢
     obtain hk0 := hi_
     obtain ⟨k, ⟨an, cn⟩, ar⟩ := k; dsimp only at *
     refine xo 5 ?_
     refine ld ?_
     refine oo 1 ?_
     refine XO.know 29 (.slice (some ⟨b1, o1, none⟩) m.threads.length m.tc) rfl (by rw [e1]) ?_
     refine oo 2 ?_
     refine ld ?_ (hc := (Cl.row (j := (s : Int)) hs1 leA (fun _ => rfl) hth rfl 2 _ rfl))
     refine ox 3 ?_
     refine X.part 35 rfl (fun h2 => ?_) (fun h2 => ?_)
     · skip
       replace h2 := sp h2; have hki : k < m.threads[s].ins.length := (by omega); have hnl : (nowsS m.threads[s].ins).length = m.threads[s].ins.length := (by simp [nowsS]); have hi1 : ((nowsS m.threads[s].ins).take k).length ≤ m.threads[s].ins.length := (by rw [List.length_take]; omega); have hsN : (nowsS m.threads[s].ins).take (k + 1) = ((nowsS m.threads[s].ins).take k) ++ [nowS m.threads[s].ins k] := (by rw [List.take_succ_eq_append_getElem (by omega)]; simp [nowsS])
       refine xx 14 ?_
       refine X.know 9 (.int .i64 (atS m.threads[s] k 0)) rfl (by rw [atS_zero]) ?_
       refine X.at (X.loop (fun (j : Nat × Option Addr) => j.1 ≤ (rowsF m.threads[s]).length) (fun j => [(10, .int .i64 (j.1 : Int)), (9, .int .i64 (atS m.threads[s] k j.1)), (8, .int .i64 (k : Int)), (7, .slice an ((nowsS m.threads[s].ins).take k).length cn), (6, .slice j.2 (rowsF m.threads[s]).length cr), (5, .int .i64 (s : Int)), (1, .pointer (some ⟨n1, 0, none⟩)), (2, .slice none 0 0), (3, .int .i64 0), (4, .slice a' T.length c')]) (fun j => lsH I64 3 an cn (((nowsS m.threads[s].ins).take k)) :: rsH rwC 6 70 j.2 cr (rowsF m.threads[s]) :: lsH Nl.v 23 a' c' (T) :: nlsM T :: pto n1 (.cells (mdlC m).toArray 26 (0, 0)) :: (q ++ F)) (fun j => (rowsF m.threads[s]).length - j.1) (fun j hi_ ih3 => ?_) (0, ar) (Nat.zero_le _)) subA leA
       try dsimp only at hi_ ih3 ⊢
       obtain hj0 := hi_
       obtain ⟨j, ar⟩ := j; dsimp only at *
       refine xx 8 ?_
       refine X.part 41 rfl (fun h3 => ?_) (fun h3 => ?_)
       · skip
         replace h3 := sp h3; have hjl : j < (rowsF m.threads[s]).length := (by omega); have hat := atS_succ hki hjl
         refine X.rsadr (fl := rwC) (l := rowsF m.threads[s]) (by omega) (fun gr e_ => ?_); subst e_
         refine xo 10 ?_
         refine ld ?_ (hc := (Cl.row (f := rwC) (l := rowsF m.threads[s]) (Sees.rsH _) fndA (fun _ => rfl) hjl rfl 5 _ rfl))
         refine ox 3 ?_
         refine X.part 50 rfl (fun k1 => ?_) (fun k1 => ?_)
         · skip
           replace k1 := sp k1
           refine xx 11 ?_
           refine X.sb [10, 9, 8, 7, 6, 5, 1, 2, 3, 4] ?_
           refine X.know 9 (.int .i64 (atS m.threads[s] k (j + 1))) rfl (by rw [hat, if_pos (by omega)]) ?_
           refine X.at (ih3 (j + 1, some ⟨gr, 0, none⟩) (by dsimp only; omega) (by dsimp only; omega)) subA leA
         · skip
           replace k1 := sp k1
           refine xx 8 ?_
           refine X.know 9 (.int .i64 (atS m.threads[s] k (j + 1))) rfl (by rw [hat, if_neg (by omega)]) ?_
           refine X.at (ih3 (j + 1, some ⟨gr, 0, none⟩) (by dsimp only; omega) (by dsimp only; omega)) subA leA
       · skip
         replace h3 := sp h3; obtain rfl : j = (rowsF m.threads[s]).length := (by omega); rw [atS_end hki]
         refine xo 5 ?_
         refine XO.ef (Ef.lit1 (u := nowS m.threads[s].ins k) I64 Tryd.underlying23 ginfo3 rfl rfl) ?_
         rintro _ _ ⟨g1, rfl, rfl⟩
         refine XO.ef (Ef.appA (f := I64) (l := ((nowsS m.threads[s].ins).take k)) (m := [nowS m.threads[s].ins k]) Tryd.underlying23 ginfo3 rfl rfl rfl fndA ((Sees.lsH _).le fndA) (fun _ => rfl) (by simp only [List.length_cons, List.length_nil]; omega) (by simp only [List.length_cons, List.length_nil]; omega)) ?_
         rintro _ _ ⟨an2, cn2, rfl, rfl⟩
         refine ox 8 ?_
         rw [← hsN]
         refine X.at (ih2 (k + 1, (an2, cn2), ar) (by dsimp only; omega) (by dsimp only; omega)) subA leA
     · skip
       replace h2 := sp h2; have hkN : ((nowsS m.threads[s].ins).take k) = nowsS m.threads[s].ins := List.take_of_length_le (by simp [nowsS]; omega); rw [hkN]; obtain ⟨x, hx⟩ : ∃ x : Nl, x = ⟨nowsS m.threads[s].ins, an, cn⟩ := ⟨_, rfl⟩
       refine X.know 7 (x.v) rfl (by rw [hx]; rfl) ?_
       refine xo 5 ?_
       refine XO.ef (Ef.lit1 (u := x) Nl.v Tryd.underlying41 ginfo23 rfl rfl) ?_
       rintro _ _ ⟨gx, rfl, rfl⟩
       refine XO.ef (Ef.appA (f := Nl.v) (l := T) (m := [x]) Tryd.underlying41 ginfo23 rfl rfl rfl fndA ((Sees.lsH _).le fndA) (fun _ => rfl) (by simp only [List.length_cons, List.length_nil]; omega) (by simp only [List.length_cons, List.length_nil]; omega)) ?_
       rintro _ _ ⟨a4, c4, rfl, rfl⟩
       refine ox 8 ?_
       refine X.sb [5, 4, 1, 2, 3] ?_
       refine X.frzI (a := an) (c := cn) (l := nowsS m.threads[s].ins) (ty := 3) ?_
       refine X.le (Kn.nlcons (l := T) (x := x) knA (by subst hx; exact (knA (φ := fun M => SlAt M an cn (nowsS m.threads[s].ins).length ((nowsS m.threads[s].ins).map I64))))) ?_
       have hmp2 : (T ++ [x]).map Nl.l = (m.threads.take (s + 1)).map (fun t => nowsS t.ins) := (by rw [List.take_succ_eq_append_getElem hth, List.map_append, List.map_append, hmp, hx]; rfl)
       refine X.at (ih ((T ++ [x], s + 1), a4, c4) ⟨by dsimp only; omega, hmp2⟩ (by dsimp only; omega)) subA leA
   · skip
     replace h1 := sp h1; obtain rfl : s = m.threads.length := (by omega); rw [List.take_length] at hmp
     refine xx 8 ?_
     refine X.retL (lsH Nl.v 23 a' c' (T) :: nlsM T :: q) Tryd.func15 (res2 Tryd.results15 rfl rfl) ⟨_, rfl, .inr ⟨h0, T, a', c', hmp, rfl, rfl⟩⟩
end
end Go.Proofs.YtbeeplmgcdnadaaDoor

