/- What functions of package tight, of its references and of its laws do: contracts of calls, proved by walking their code. -/
import Derived.Test.YtbeeplmgcdnadaaDoorGn
import Derived.KernelRfl
set_option maxRecDepth 100000
set_option linter.unusedVariables false
set_option linter.unusedSimpArgs false
namespace Go.Proofs.YtbeeplmgcdnadaaDoor
open Go Go.RowKit Wx
attribute [local irreducible] Wx.lsH Wx.rsH Wx.lsM Wx.rsM Wx.stars

theorem neg_cnt : ∀ {l : List Int}, (∀ x ∈ l, x = -1 ∨ 0 ≤ x) → (l.filter (fun x => decide (x < 0))).length = l.count (-1)
  | [], _ => rfl
  | x :: r, h => by
    have ih := neg_cnt (l := r) fun y hy => h y (List.mem_cons_of_mem _ hy)
    have hx := h x (List.mem_cons_self ..)
    rw [List.filter_cons, List.count_cons]
    rcases hx with rfl | hx
    · simp [ih]
    · rw [if_neg (by simp; omega), ih]
      have : (x == (-1 : Int)) = false := beq_eq_false_iff_ne.2 (by omega)
      rw [this]; simp
def negs (l : List Int) : Nat := (l.filter (fun x => decide (x < 0))).length
theorem negs_snoc {l : List Int} {s : Nat} (h : s < l.length) : negs (l.take (s + 1)) = negs (l.take s) + (if l[s] < 0 then 1 else 0) := by
  unfold negs
  rw [List.take_succ_eq_append_getElem h, List.filter_append, List.length_append]
  by_cases e : l[s] < 0 <;> simp [e]
theorem negs_now (l : List Ins) : ∀ k, k ≤ l.length → (((List.range k).map (nowS l)).filter (fun x => decide (x < 0))).length + kb (tiR l) k = k
  | 0, _ => rfl
  | k + 1, hk => by
    have ih := negs_now l k (by omega)
    rw [List.range_succ, List.map_append, List.filter_append, List.length_append]
    simp only [List.map_cons, List.map_nil]
    rw [nowS_eq]
    cases h : tiR l k with
    | true => rw [kb_gone h]; simp; omega
    | false =>
      rw [kb_kept h, if_neg (by decide), List.filter_cons]
      have : ¬ ((kb (tiR l) k : Int) < 0) := by omega
      simp [this]; omega
theorem negs_all (l : List Ins) : (negs (nowsS l) : Int) = (l.length : Int) - (tiI l).length := by
  have := negs_now l l.length (Nat.le_refl _)
  unfold negs nowsS
  rw [tiI_len]; omega
def negsL (N : List (List Int)) : Nat := (N.map negs).sum
theorem negsL_snoc {N : List (List Int)} {s : Nat} (h : s < N.length) : negsL (N.take (s + 1)) = negsL (N.take s) + negs N[s] := by
  unfold negsL; rw [List.take_succ_eq_append_getElem h, List.map_append, List.sum_append]; simp
theorem Kn.thM {q q0 : List HP} {m : Mdl} (h : Le q (Go.Proofs.YtbeeplmgcdnadaaDoor.thM m :: q0) := by exact fndA) : Kn q fun M => SlAt M m.ta m.tc m.threads.length (m.threads.flatMap codC) ∧ CodsAt M m.threads := Kn.le (q0 := lst (fun M => SlAt M m.ta m.tc m.threads.length (m.threads.flatMap codC) ∧ CodsAt M m.threads) (fun e h => ⟨h.1.mono e, CodsAt.mono e h.2⟩) :: q0) Kn.here h
theorem negsL_le {N : List (List Int)} {k : Nat} : (∀ x ∈ N, x.length ≤ 65536) → N.length ≤ k → negsL N ≤ 65536 * k := by
  intro h hk
  have : negsL N ≤ 65536 * N.length := by
    clear hk
    induction N with
    | nil => simp [negsL]
    | cons x r ih =>
      have h1 := ih fun y hy => h y (List.mem_cons_of_mem _ hy)
      have h2 := h x (List.mem_cons_self ..)
      have h3 : negs x ≤ x.length := List.length_filter_le _ _
      have e : negsL (x :: r) = negs x + negsL r := by simp [negsL]
      rw [e, List.length_cons]; omega
  omega
theorem negsL_saved (T : List Cod) : (negsL (T.map fun t => nowsS t.ins) : Int) = savedS T := by
  unfold negsL savedS
  induction T with
  | nil => rfl
  | cons t r ih =>
    simp only [List.map_cons, List.sum_cons]
    rw [Int.natCast_add, negs_all, ih]

section
variable {G : World} {q : List HP} {a b A : Option Addr} {c d : Nat} {cd : Int} {l : List Ins} {ln : List Int} {o : List Bool}
variable {nt : Nat} {nm : ByteArray} {lo : Int} {ia la wa : Option Addr} {ic lc wc : Nat} {I : List Ins} {L W : List Int}
variable {m m2 : Mdl} {x y : Cod} {j k : List Int}
variable {th at_ : Int}
set_option maxHeartbeats 4000000 in
theorem tightLeads_ok (gc : GC q) (g : GE q) (hq : MdlQ q m) : CallF Tryd.prog G 3 [.agg (mdlC m).toArray, .int .i64 th, .int .i64 at_] (q) (Ret fun v q' => v = .bool true ∧ q' = q) := by
 refine CallF.of Tryd.func3 Tryd.ntmps3 rfl (fun F cs => ?_)
 have hlen := flatMap_len (f := codC) (sz := 4) (fun _ => rfl) m.threads; have hnt := hq.nt
 refine xo 2 ?_
 refine XO.bx fun n1 => ?_
 refine oo 5 ?_
 refine ldA ?_
 refine XO.cX Tryd.call5 (Le.refl _) (few_ok (hq.le leA)) ?_
 rintro _ _ ⟨bb, rfl, rfl⟩
 refine XO.pu (Pu.not rfl) ?_
 refine ox 1 ?_
 refine X.part 11 rfl (fun h0 => ?_) (fun h0 => ?_)
 · skip
   refine xo 3 ?_
   refine XO.cX Tryd.call6 (Le.refl _) (known19_ok (gc.le leA) (g.le leA)) ?_
   rintro _ _ ⟨rfl, rfl⟩
   refine ox 2 ?_
   refine X.retL (q) Tryd.func3 (res1 Tryd.results3 rfl) ⟨_, rfl, rfl, rfl⟩
 · skip
   refine xo 4 ?_
   refine ldA ?_
   refine oo 2 ?_
   refine XO.cX Tryd.call7 (Le.refl _) (Leads_ok (th := th) (at_ := at_) (gc.le leA) (g.le leA) (hq.le leA)) ?_
   rintro _ _ (⟨hno, rfl, rfl⟩ | ⟨hyes, rfl, rfl⟩)
   · skip
     refine oo 9 ?_
     refine ldA ?_
     refine XO.cR Tryd.call8 (RCheck7_ok (hq.le leA)) ?_
     refine oo 2 ?_
     refine XO.sb [23, 8, 7, 6, 3, 1, 2] ?_
     apply XO.cutOr 3 26 23 rfl
     · skip
       intro g1 M1; have z1 := sp g1
       refine oo 3 ?_
       exact XO.fin M1 ⟨orF g1, subB⟩
     · skip
       intro g1 M1; have z1 := sp g1
       refine oo 3 ?_
       exact XO.fin M1 ⟨orT g1, subB⟩
     · skip
       refine oo 1 ?_
       refine XO.sb [27, 8, 7, 6, 3, 1, 2] ?_
       apply XO.cutOr 6 33 27 rfl
       · skip
         intro g1 M1; have z1 := sp g1
         refine oo 2 ?_
         refine ld ?_
         refine oo 3 ?_
         exact XO.fin M1 ⟨orF g1, subB⟩
       · skip
         intro g1 M1; have z1 := sp g1
         refine oo 6 ?_
         exact XO.fin M1 ⟨orT g1, subB⟩
       · skip
         refine oo 1 ?_
         refine XO.sb [34, 8, 7, 6, 3, 1, 2] ?_
         apply XO.cutOr 3 37 34 rfl
         · skip
           intro g1 M1; have z1 := sp g1
           refine oo 3 ?_
           exact XO.fin M1 ⟨orF g1, subB⟩
         · skip
           intro g1 M1; have z1 := sp g1
           refine oo 3 ?_
           exact XO.fin M1 ⟨orT g1, subB⟩
         · skip
           refine oo 1 ?_
           refine XO.sb [38, 8, 7, 6, 3, 1, 2] ?_
           apply XO.cutOr 10 48 38 rfl
           · skip
             intro g1 M1; have z1 := sp g1
             refine oo 2 ?_
             refine ld ?_
             refine oo 1 ?_
             have hth : th.toNat < m.threads.length := (by omega); have hgd : m.threads.getD th.toNat codZ = m.threads[th.toNat] := getD_lt' hth
             refine XO.adr hq.t (by rw [hlen]; omega) (fun b1 o1 e1 => ?_)
             have hs1 := hq.t; rw [e1] at hs1
             refine XO.know 41 (.slice (some ⟨b1, o1, none⟩) m.threads.length m.tc) rfl (by rw [e1]) ?_
             refine oo 2 ?_
             refine ld ?_ (hc := (Cl.row (j := th) hs1 leA (fun _ => rfl) hth (by omega) 2 _ rfl))
             refine XO.know 45 (.slice (m.threads.getD th.toNat codZ).ia (m.threads.getD th.toNat codZ).ins.length (m.threads.getD th.toNat codZ).ic) rfl (by rw [hgd]) ?_
             refine oo 3 ?_
             exact XO.fin M1 ⟨orF g1, subB⟩
           · skip
             intro g1 M1; have z1 := sp g1
             refine oo 10 ?_
             exact XO.fin M1 ⟨orT g1, subB⟩
           · skip
             refine ox 1 ?_
             refine X.sb [48, 8, 7, 6, 3, 1, 2] ?_
             refine X.part 48 rfl (fun hc => ?_) (fun hc => ?_)
             · skip
               replace hc := sp hc
               refine xo 6 ?_
               refine XO.know 51 (.bool true) rfl (congrArg Value.bool (by first | rfl | (simp; done) | (rw [hgd]; simp; done))) ?_
               refine oo 1 ?_
               refine XO.cR Tryd.call9 (num_ok) ?_
               refine oo 3 ?_
               refine XO.know 56 (.bool true) rfl (congrArg Value.bool (by first | rfl | (simp; done) | (rw [hgd]; simp; done))) ?_
               refine XO.cX Tryd.call6 (Le.refl _) (known19_ok (gc.le leA) (g.le leA)) ?_
               rintro _ _ ⟨rfl, rfl⟩
               refine ox 3 ?_
               refine X.retL (q) Tryd.func3 (res1 Tryd.results3 rfl) ⟨_, rfl, rfl, rfl⟩
             · skip
               replace hc := sp hc
               exfalso
               omega
   · skip
     have hth : th.toNat < m.threads.length := hyes.2.2.1; have hgd : m.threads.getD th.toNat codZ = m.threads[th.toNat] := getD_lt' hth; have hy5 := hyes.2.2.2.2; rw [hgd] at hy5
     refine oo 9 ?_
     refine ldA ?_
     refine XO.cR Tryd.call8 (RCheck7_ok (hq.le leA)) ?_
     refine oo 2 ?_
     refine XO.sb [23, 8, 7, 6, 3, 1, 2] ?_
     apply XO.cutOr 3 26 23 rfl
     · skip
       intro g1 M1; have z1 := sp g1
       refine oo 3 ?_
       exact XO.fin M1 ⟨orF g1, subB⟩
     · skip
       intro g1 M1; have z1 := sp g1
       refine oo 3 ?_
       exact XO.fin M1 ⟨orT g1, subB⟩
     · skip
       refine oo 1 ?_
       refine XO.sb [27, 8, 7, 6, 3, 1, 2] ?_
       apply XO.cutOr 6 33 27 rfl
       · skip
         intro g1 M1; have z1 := sp g1
         refine oo 2 ?_
         refine ld ?_
         refine oo 3 ?_
         exact XO.fin M1 ⟨orF g1, subB⟩
       · skip
         intro g1 M1; have z1 := sp g1
         refine oo 6 ?_
         exact XO.fin M1 ⟨orT g1, subB⟩
       · skip
         refine oo 1 ?_
         refine XO.sb [34, 8, 7, 6, 3, 1, 2] ?_
         apply XO.cutOr 3 37 34 rfl
         · skip
           intro g1 M1; have z1 := sp g1
           refine oo 3 ?_
           exact XO.fin M1 ⟨orF g1, subB⟩
         · skip
           intro g1 M1; have z1 := sp g1
           refine oo 3 ?_
           exact XO.fin M1 ⟨orT g1, subB⟩
         · skip
           refine oo 1 ?_
           refine XO.sb [38, 8, 7, 6, 3, 1, 2] ?_
           apply XO.cutOr 10 48 38 rfl
           · skip
             intro g1 M1; have z1 := sp g1
             refine oo 2 ?_
             refine ld ?_
             refine oo 1 ?_
             refine XO.adr hq.t (by rw [hlen]; omega) (fun b1 o1 e1 => ?_)
             have hs1 := hq.t; rw [e1] at hs1
             refine XO.know 41 (.slice (some ⟨b1, o1, none⟩) m.threads.length m.tc) rfl (by rw [e1]) ?_
             refine oo 2 ?_
             refine ld ?_ (hc := (Cl.row (j := th) hs1 leA (fun _ => rfl) hth (by omega) 2 _ rfl))
             refine XO.know 45 (.slice (m.threads.getD th.toNat codZ).ia (m.threads.getD th.toNat codZ).ins.length (m.threads.getD th.toNat codZ).ic) rfl (by rw [hgd]) ?_
             refine oo 3 ?_
             exact XO.fin M1 ⟨orF g1, subB⟩
           · skip
             intro g1 M1; have z1 := sp g1
             refine oo 10 ?_
             exact XO.fin M1 ⟨orT g1, subB⟩
           · skip
             refine ox 1 ?_
             refine X.sb [48, 8, 7, 6, 3, 1, 2] ?_
             refine X.part 48 rfl (fun hc => ?_) (fun hc => ?_)
             · skip
               replace hc := sp hc
               exfalso
               first | omega | (rw [hgd] at *; omega)
             · skip
               replace hc := sp hc
               refine xo 6 ?_
               refine ld ?_
               refine oo 1 ?_
               refine XO.adr hq.t (by rw [hlen]; omega) (fun b1 o1 e1 => ?_)
               have hs1 := hq.t; rw [e1] at hs1
               refine XO.know 61 (.slice (some ⟨b1, o1, none⟩) m.threads.length m.tc) rfl (by rw [e1]) ?_
               refine oo 2 ?_
               refine ld ?_ (hc := (Cl.row (j := th) hs1 leA (fun _ => rfl) hth (by omega) 2 _ rfl))
               refine oo 1 ?_
               obtain ⟨A, hAe⟩ : ∃ A : Nat, at_ = (A : Int) := ⟨at_.toNat, by omega⟩; subst hAe; have hT := ThOk.of hyes.1 (List.getElem_mem hth)
               refine XO.cR Tryd.call10 (RLeads_ok (l := m.threads[th.toNat].ins) (at_ := A) ((hq.x _ (List.getElem_mem hth)).i.le leA) (fun i hi hc => hT.a i hi (by unfold jm; rw [hc]; decide)) (by rw [← hgd]; have := hyes.2.2.2.2; rw [Int.toNat_natCast] at this; exact this) hT.n) ?_
               refine oo 2 ?_
               refine XO.know 69 (.bool true) rfl (congrArg Value.bool (by first | rfl | (simp; done) | (rw [hgd]; simp; done))) ?_
               refine oo 1 ?_
               refine XO.cR Tryd.call9 (num_ok) ?_
               refine oo 3 ?_
               refine XO.know 74 (.bool true) rfl (congrArg Value.bool (by first | rfl | (simp; done) | (rw [hgd]; simp; done))) ?_
               refine XO.cX Tryd.call6 (Le.refl _) (known19_ok (gc.le leA) (g.le leA)) ?_
               rintro _ _ ⟨rfl, rfl⟩
               refine ox 3 ?_
               refine X.sb [6] ?_
               refine X.retL (q) Tryd.func3 (res1 Tryd.results3 rfl) ⟨_, rfl, rfl, rfl⟩
set_option maxHeartbeats 8000000 in
theorem tightModules_ok (gc : GC q) (g : GE q) (hq : MdlQ q m) : CallF Tryd.prog G 4 [.agg (mdlC m).toArray] (q) (Ret fun v q' => v = .bool true ∧ q' = q) := by
 refine CallF.of Tryd.func4 Tryd.ntmps4 rfl (fun F cs => ?_)
 refine xo 2 ?_
 refine XO.bx fun n1 => ?_
 refine oo 5 ?_
 refine ldA ?_
 refine XO.cX Tryd.call5 (Le.refl _) (few_ok (hq.le leA)) ?_
 rintro _ _ ⟨bb, rfl, rfl⟩
 refine XO.pu (Pu.not rfl) ?_
 refine ox 1 ?_
 refine X.part 18 rfl (fun h0 => ?_) (fun h0 => ?_)
 · skip
   refine xo 3 ?_
   refine XO.cX Tryd.call6 (Le.refl _) (known19_ok (gc.le leA) (g.le leA)) ?_
   rintro _ _ ⟨rfl, rfl⟩
   refine ox 2 ?_
   refine X.retL (q) Tryd.func4 (res1 Tryd.results4 rfl) ⟨_, rfl, rfl, rfl⟩
 · skip
   rcases Decidable.em (vchk m = 0) with hv | hv
   · skip
     refine xo 4 ?_
     refine ldA ?_
     refine XO.cX Tryd.call11 (Le.refl _) (Module_ok (m := m) (gc.le leA) (g.le leA) (hq.le leA)) ?_
     rintro _ _ (⟨hz, rfl, rfl⟩ | ⟨_, m2, hT, hB, rfl, rfl⟩)
     · exact absurd hv hz
     refine oo 3 ?_
     refine XO.al Tryd.zeroValue26 fun n2 => ?_
     refine stA ?_
     refine oo 4 ?_
     refine ldA ?_
     refine XO.cX Tryd.call12 (Le.refl _) (Places_ok (m := m) (gc.le leA) (g.le leA) (hq.le leA)) ?_
     rintro _ _ (⟨hz, rfl, rfl⟩ | ⟨_, N, na, nc, hN, rfl, rfl⟩)
     · exact absurd hv hz
     refine oo 8 ?_
     refine ldA ?_
     refine XO.cX Tryd.call13 (Le.refl _) (Saved_ok (m := m) (gc.le leA) (g.le leA) (hq.le leA)) ?_
     rintro _ _ ⟨rfl, rfl⟩
     rw [if_pos hv, if_pos hv]
     refine oo 8 ?_
     refine ldA ?_
     refine XO.cX Tryd.call14 (Le.refl _) (RModule_ok (m := m) (hq.le leA)) ?_
     rintro _ _ (⟨hz, rfl, rfl⟩ | ⟨_, m3, hS, hB3, rfl, rfl⟩)
     · exact absurd hv hz
     refine oo 3 ?_
     refine XO.al Tryd.zeroValue26 fun n3 => ?_
     refine stA ?_
     refine oo 4 ?_
     refine ldA ?_
     refine XO.cX Tryd.call15 (Le.refl _) (RPlaces_ok (m := m) (hq.le leA)) ?_
     rintro _ _ (⟨hz, rfl, rfl⟩ | ⟨_, N2, ra, rc, hN2, rfl, rfl⟩)
     · exact absurd hv hz
     have hNN : N.map Nl.l = N2.map Nl.l := hN.trans hN2.symm; have hNl : N.length = N2.length := (by have := congrArg List.length hNN; simpa using this); have hNm : N2.length = m.threads.length := (by have := congrArg List.length hN2; simpa using this)
     have hk0 := (vchk_zero hv).1; have hb4 := (mchk_iff.1 hk0).2.2.2.2.2.1; have hNx : ∀ i (h : i < N2.length), N2[i].l = nowsS (m.threads[i]'(by omega)).ins := (fun i h => by have h3 : (N2.map Nl.l)[i]'(by simpa using h) = (m.threads.map (fun t => nowsS t.ins))[i]'(by simp; omega) := (by simp only [hN2]); simpa using h3); have hNy : ∀ i (h : i < N2.length), (N[i]'(by omega)).l = N2[i].l := (fun i h => by have h3 : (N.map Nl.l)[i]'(by simp; omega) = (N2.map Nl.l)[i]'(by simpa using h) := (by simp only [hNN]); simpa using h3)
     refine oo 9 ?_
     refine ldA ?_
     refine ldA ?_
     refine XO.cX Tryd.call16 (Le.refl _) (same06_ok (m := m2) (m2 := m3) (Kn.mdl knA hB) (hS.q (hq.le (q := q) (Le.refl _)) hB3.2.2.2.2.2 hB3.2.2.2.1 leA Kn.thM)) ?_
     rintro _ _ ⟨sb, rfl, hsb, rfl⟩
     have hsbt : sb = true := hsb.2 (hT.pl hS.t); subst hsbt
     refine XO.pu (Pu.not rfl) ?_
     refine oo 1 ?_
     refine XO.kf 49 ?_
     refine oo 1 ?_
     refine XO.cR Tryd.call9 (num_ok) ?_
     refine oo 4 ?_
     refine XO.kf 55 ?_
     refine oo 1 ?_
     refine XO.cR Tryd.call9 (num_ok) ?_
     refine oo 4 ?_
     refine XO.kf 61 ?_
     refine oo 1 ?_
     refine XO.cR Tryd.call9 (num_ok) ?_
     refine oo 4 ?_
     refine XO.kf 67 ?_
     refine ox 7 ?_
     refine X.sb [73, 11, 7, 5, 2] ?_
     refine X.kf 73 ?_
     refine xx 12 ?_
     have hnb : ∀ k, k ≤ N2.length → negsL ((N2.map Nl.l).take k) ≤ 65536 * k := (fun k hk => negsL_le (fun x hx => by obtain ⟨y, hy, rfl⟩ := List.mem_map.1 (List.mem_of_mem_take hx); obtain ⟨i, hi, rfl⟩ := List.getElem_of_mem hy; rw [hNx i hi]; simp [nowsS]; exact (ThOk.of hv (List.getElem_mem _)).n) (by simp; omega))
     refine X.at (X.loop (fun (s : Nat × Option Addr × Option Addr) => s.1 ≤ N2.length) (fun s => [(14, .int .i64 (s.1 : Int)), (13, .int .i64 (negsL ((N2.map Nl.l).take s.1) : Int)), (11, .slice s.2.1 N2.length rc), (5, .slice s.2.2 N.length nc), (7, .int .i64 (savedS m.threads)), (2, .bool false)]) (fun s => lsH Nl.v 23 s.2.2 nc (N) :: nlsM N :: lsH Nl.v 23 s.2.1 rc (N2) :: nlsM N2 :: (q ++ F)) (fun s => N2.length - s.1) (fun s hi_ ih => ?_) (0, ra, na) (Nat.zero_le _)) subA leA
     try dsimp only at hi_ ih ⊢
     obtain hs0 := hi_
     obtain ⟨s, ra, na⟩ := s; dsimp only at *
     refine xx 8 ?_
     refine X.part 77 rfl (fun h1 => ?_) (fun h1 => ?_)
     · skip
       replace h1 := sp h1; have hs2 : s < N2.length := (by omega); have hs1 : s < N.length := (by omega); have hth : s < m.threads.length := (by omega); have hxy := hNy s hs2; have hlx := hNx s hs2; have hll : N2[s].l.length ≤ 65536 := (by rw [hlx]; simp [nowsS]; exact (ThOk.of hv (List.getElem_mem hth)).n); have hl2 : N[s].l.length = N2[s].l.length := (by rw [hxy]); have hnb1 := hnb s (by omega)
       refine X.lsadr (fl := Nl.v) (l := N2) (by omega) (fun gr e_ => ?_); subst e_; refine X.lsadr (fl := Nl.v) (l := N) (by omega) (fun gn e_ => ?_); subst e_
       refine xx 6 ?_
       refine drw ?_
       refine dd [0, 1, 2] ?_
       refine ldD 3 ?_ (hc := (Cl.e1 (g := Nl.v) (l := N) (Sees.lsH _) fndA hs1 rfl))
       refine XD.know 83 (.slice N[s].a N[s].l.length N[s].c) rfl (rfl) ?_
       refine dd [4, 5, 6] ?_
       refine ldD 7 ?_ (hc := (Cl.e1 (g := Nl.v) (l := N2) (Sees.lsH _) fndA hs2 rfl))
       refine XD.know 87 (.slice N2[s].a N2[s].l.length N2[s].c) rfl (rfl) ?_
       refine XD.cRL 8 Tryd.call17 (ints03_ok (j := N[s].l) (k := N2[s].l) (Kn.sees ((knA (φ := fun M => NlsAt M N)).imp fun M k => (k _ (List.getElem_mem hs1)).2.2)) (Kn.sees ((knA (φ := fun M => NlsAt M N2)).imp fun M k => (k _ (List.getElem_mem hs2)).2.2)) ⟨by omega, by omega⟩) ?_
       refine XD.pu 9 rfl (Pu.not rfl) ?_
       refine XD.nil ?_
       refine X.know 89 (.bool false) rfl (congrArg Value.bool (by simp [hxy])) ?_
       refine xx 7 ?_
       refine X.sb [15, 14, 13, 11, 5, 7, 2] ?_
       refine X.know 13 (.int .i64 ((negsL ((N2.map Nl.l).take s) + negs (N2[s].l.take 0) : Nat) : Int)) rfl (by simp [negs]) ?_
       refine X.at (X.loop (fun (j : Nat) => j ≤ N2[s].l.length) (fun j => [(15, .int .i64 (j : Int)), (14, .int .i64 (s : Int)), (13, .int .i64 ((negsL ((N2.map Nl.l).take s) + negs (N2[s].l.take j) : Nat) : Int)), (11, .slice (some ⟨gr, 0, none⟩) N2.length rc), (5, .slice (some ⟨gn, 0, none⟩) N.length nc), (7, .int .i64 (savedS m.threads)), (2, .bool false)]) (fun j => lsH Nl.v 23 (some ⟨gn, 0, none⟩) nc (N) :: nlsM N :: lsH Nl.v 23 (some ⟨gr, 0, none⟩) rc (N2) :: nlsM N2 :: (q ++ F)) (fun j => N2[s].l.length - j) (fun j hi_ ih2 => ?_) 0 (Nat.zero_le _)) subA leA
       try dsimp only at hi_ ih2 ⊢
       obtain hj0 := hi_
       have hnj : negs (N2[s].l.take j) ≤ j := (by unfold negs; exact Nat.le_trans (List.length_filter_le _ _) (by simp; omega))
       refine xo 7 ?_
       refine ld ?_ (hc := (Cl.e1 (g := Nl.v) (l := N2) (Sees.lsH _) fndA hs2 rfl))
       refine XO.know 94 (.slice N2[s].a N2[s].l.length N2[s].c) rfl (rfl) ?_
       refine ox 3 ?_
       refine X.part 96 rfl (fun h2 => ?_) (fun h2 => ?_)
       · skip
         replace h2 := sp h2; have hjl : j < N2[s].l.length := (by omega); have hsn := negs_snoc hjl
         refine xo 9 ?_
         refine ld ?_ (hc := (Cl.e1 (g := Nl.v) (l := N2) (Sees.lsH _) fndA hs2 rfl))
         refine XO.know 102 (.slice N2[s].a N2[s].l.length N2[s].c) rfl (rfl) ?_
         refine oo 1 ?_
         have hsx : Sees (lsH Nl.v 23 (some ⟨gn, 0, none⟩) nc (N) :: nlsM N :: lsH Nl.v 23 (some ⟨gr, 0, none⟩) rc (N2) :: nlsM N2 :: (q ++ F)) N2[s].a (N2[s].l.map I64) := (Kn.sees ((knA (φ := fun M => NlsAt M N2)).imp fun M k => (k _ (List.getElem_mem hs2)).2.2)); refine XO.adr hsx (by rw [List.length_map]; omega) (fun bx oq ex => ?_); rw [ex] at hsx
         refine XO.know 102 (.slice (some ⟨bx, oq, none⟩) N2[s].l.length N2[s].c) rfl (by rw [ex]) ?_
         refine oo 1 ?_
         refine ld ?_ (hc := (Cl.e1 hsx leA hjl rfl))
         refine ox 2 ?_
         refine X.sb [106, 15, 14, 13, 11, 5, 7, 2] ?_
         refine X.part 106 rfl (fun z1 => ?_) (fun z1 => ?_)
         · skip
           replace z1 := sp z1
           refine xx 12 ?_
           rw [if_pos (by omega)] at hsn
           refine X.know 13 (.int .i64 ((negsL ((N2.map Nl.l).take s) + negs (N2[s].l.take (j + 1)) : Nat) : Int)) rfl (by congr 1; omega) ?_
           refine X.at (ih2 (j + 1) (by omega) (by omega)) subA leA
         · skip
           replace z1 := sp z1
           refine xx 8 ?_
           rw [if_neg (by omega)] at hsn
           refine X.know 13 (.int .i64 ((negsL ((N2.map Nl.l).take s) + negs (N2[s].l.take (j + 1)) : Nat) : Int)) rfl (by congr 1; omega) ?_
           refine X.at (ih2 (j + 1) (by omega) (by omega)) subA leA
       · skip
         replace h2 := sp h2; obtain rfl : j = N2[s].l.length := (by omega); have hsv := negsL_snoc (N := N2.map Nl.l) (s := s) (by simpa using hs2); rw [List.getElem_map] at hsv
         refine xx 8 ?_
         refine X.know 13 (.int .i64 (negsL ((N2.map Nl.l).take (s + 1)) : Int)) rfl (by rw [hsv, List.take_length]) ?_
         refine X.at (ih (s + 1, some ⟨gr, 0, none⟩, some ⟨gn, 0, none⟩) (by dsimp only; omega) (by dsimp only; omega)) subA leA
     · skip
       replace h1 := sp h1; obtain rfl : s = N2.length := (by omega); have hneg : (negsL ((N2.map Nl.l).take N2.length) : Int) = savedS m.threads := (by rw [List.take_of_length_le (by simp), hN2]; exact negsL_saved _)
       refine xo 8 ?_
       refine XO.know 112 (.bool true) rfl (congrArg Value.bool (by simp [hneg])) ?_
       refine XO.cX Tryd.call6 (Le.refl _) (known19_ok (gc.le leA) (g.le leA)) ?_
       rintro _ _ ⟨rfl, rfl⟩
       refine ox 3 ?_
       refine X.retL (q) Tryd.func4 (res1 Tryd.results4 rfl) ⟨_, rfl, rfl, rfl⟩
   · skip
     refine xo 4 ?_
     refine ldA ?_
     refine XO.cX Tryd.call11 (Le.refl _) (Module_ok (m := m) (gc.le leA) (g.le leA) (hq.le leA)) ?_
     rintro _ _ (⟨_, rfl, rfl⟩ | ⟨hz, _⟩)
     rotate_left; · exact absurd hz hv
     refine oo 3 ?_
     refine XO.al Tryd.zeroValue26 fun n4 => ?_
     refine stA ?_
     refine oo 4 ?_
     refine ldA ?_
     refine XO.cX Tryd.call12 (Le.refl _) (Places_ok (m := m) (gc.le leA) (g.le leA) (hq.le leA)) ?_
     rintro _ _ (⟨_, rfl, rfl⟩ | ⟨hz, _⟩)
     rotate_left; · exact absurd hz hv
     refine oo 8 ?_
     refine ldA ?_
     refine XO.cX Tryd.call13 (Le.refl _) (Saved_ok (m := m) (gc.le leA) (g.le leA) (hq.le leA)) ?_
     rintro _ _ ⟨rfl, rfl⟩
     rw [if_neg hv, if_neg hv]
     refine oo 8 ?_
     refine ldA ?_
     refine XO.cX Tryd.call14 (Le.refl _) (RModule_ok (m := m) (hq.le leA)) ?_
     rintro _ _ (⟨_, rfl, rfl⟩ | ⟨hz, _⟩)
     rotate_left; · exact absurd hz hv
     refine oo 3 ?_
     refine XO.al Tryd.zeroValue26 fun n5 => ?_
     refine stA ?_
     refine oo 4 ?_
     refine ldA ?_
     refine XO.cX Tryd.call15 (Le.refl _) (RPlaces_ok (m := m) (hq.le leA)) ?_
     rintro _ _ (⟨_, rfl, rfl⟩ | ⟨hz, _⟩)
     rotate_left; · exact absurd hz hv
     refine oo 9 ?_
     refine ldA ?_
     refine ldA ?_
     refine XO.cX Tryd.call16 (Le.refl _) (same06_ok (m := mdZ) (m2 := mdZ) (Kn.mdl (fun _ _ _ => mdZ_at _) mdZ_b) (Kn.mdl (fun _ _ _ => mdZ_at _) mdZ_b)) ?_
     rintro _ _ ⟨sb, rfl, hsb, rfl⟩
     have hsbt : sb = true := hsb.2 rfl; subst hsbt
     refine XO.pu (Pu.not rfl) ?_
     refine oo 1 ?_
     refine XO.kf 49 ?_
     refine oo 1 ?_
     refine XO.cR Tryd.call9 (num_ok) ?_
     refine oo 4 ?_
     refine XO.kf 55 ?_
     refine oo 1 ?_
     refine XO.cR Tryd.call9 (num_ok) ?_
     refine oo 4 ?_
     refine XO.kf 61 ?_
     refine oo 1 ?_
     refine XO.cR Tryd.call9 (num_ok) ?_
     refine oo 4 ?_
     refine XO.kf 67 ?_
     refine ox 7 ?_
     refine X.sb [73, 11, 7, 5, 2] ?_
     refine X.kf 73 ?_
     refine xx 12 ?_
     refine X.loop1 ?_
     refine xx 8 ?_
     refine X.kf 77 ?_
     refine xo 8 ?_
     refine XO.kt 112 ?_
     refine XO.cX Tryd.call6 (Le.refl _) (known19_ok (gc.le leA) (g.le leA)) ?_
     rintro _ _ ⟨rfl, rfl⟩
     refine ox 3 ?_
     refine X.retL (q) Tryd.func4 (res1 Tryd.results4 rfl) ⟨_, rfl, rfl, rfl⟩
end
end Go.Proofs.YtbeeplmgcdnadaaDoor

