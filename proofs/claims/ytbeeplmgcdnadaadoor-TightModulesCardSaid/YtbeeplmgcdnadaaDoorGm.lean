/- What functions of package tight, of its references and of its laws do: contracts of calls, proved by walking their code. -/
import Derived.Test.YtbeeplmgcdnadaaDoorGl
import Derived.KernelRfl
set_option maxRecDepth 100000
set_option linter.unusedVariables false
set_option linter.unusedSimpArgs false
namespace Go.Proofs.YtbeeplmgcdnadaaDoor
open Go Go.RowKit Wx
attribute [local irreducible] Wx.lsH Wx.rsH Wx.lsM Wx.rsM Wx.stars

theorem list_eq_of {α : Type} {l m : List α} (h : l.length = m.length) (h2 : ∀ i (h1 : i < l.length) (h2 : i < m.length), l[i] = m[i]) : l = m := List.ext_getElem h h2
theorem ba_inj {a b : ByteArray} (h : a.toList = b.toList) : a = b := by
  rw [ByteArray.toList_eq, ByteArray.toList_eq] at h
  cases a; cases b; congr; exact Array.toList_inj.1 h
theorem Ins.ext4 {x y : Ins} (h1 : x.c = y.c) (h2 : x.a = y.a) (h3 : x.b = y.b) (h4 : x.n = y.n) : x = y := by cases x; cases y; simp_all
def Mdl.pl (m : Mdl) : List Int × List Int × List Int × Int × Int × List (ByteArray × Int × List Ins × List Int) := (m.vars, m.arrays, m.chans, m.mutexes, m.conds, m.threads.map Cod.pl)
theorem TigM.pl {m m' m2 : Mdl} (h : TigM m m') (h2 : TigM m m2) : m'.pl = m2.pl := by unfold Mdl.pl; rw [h.v, h.a, h.c, h.mu, h.co, h.t, h2.v, h2.a, h2.c, h2.mu, h2.co, h2.t]

section
variable {G : World} {q : List HP} {a b A : Option Addr} {c d : Nat} {cd : Int} {l : List Ins} {ln : List Int} {o : List Bool}
variable {nt : Nat} {nm : ByteArray} {lo : Int} {ia la wa : Option Addr} {ic lc wc : Nat} {I : List Ins} {L W : List Int}
variable {m m2 : Mdl} {x y : Cod} {j k : List Int}
set_option maxHeartbeats 1000000 in
theorem ints06_ok (hs : Sees q a (j.map I64)) (hs2 : Sees q b (k.map I64)) (hL : j.length ≤ 9223372036854775807 ∧ k.length ≤ 9223372036854775807) : CallF Tryd.prog G 29 [.slice a j.length c, .slice b k.length d] (q) (Ret fun v q' => v = .bool (decide (j = k)) ∧ q' = q) := by
 refine CallF.of Tryd.func29 Tryd.ntmps29 rfl (fun F cs => ?_)
 refine xx 13 ?_
 refine X.part 10 rfl (fun h0 => ?_) (fun h0 => ?_)
 · skip
   replace h0 := sp h0
   refine xx 5 ?_
   refine X.retL (q) Tryd.func29 (res1 Tryd.results29 rfl) ⟨_, rfl, congrArg Value.bool (by symm; rw [decide_eq_false_iff_not]; rintro rfl; omega), rfl⟩
 · skip
   replace h0 := sp h0
   refine xx 8 ?_
   refine X.at (X.loop (fun (s : Nat × Option Addr × Option Addr) => s.1 ≤ j.length ∧ s.2.1 = a ∧ s.2.2 = b ∧ ∀ i (h1 : i < j.length) (h2 : i < k.length), i < s.1 → j[i] = k[i]) (fun s => [(5, .int .i64 (s.1 : Int)), (0, .slice s.2.1 j.length c), (1, .slice s.2.2 k.length d), (4, .bool false)]) (fun s => q ++ F) (fun s => j.length - s.1) (fun s hi_ ih => ?_) (0, a, b) ⟨Nat.zero_le _, rfl, rfl, fun i _ _ h => absurd h (Nat.not_lt_zero i)⟩) subA leA
   try dsimp only at hi_ ih ⊢
   obtain ⟨hs0, ha, hb, hP⟩ := hi_
   obtain ⟨s, a2, b2⟩ := s; dsimp only at *; subst ha hb
   refine xx 8 ?_
   refine X.part 14 rfl (fun h1 => ?_) (fun h1 => ?_)
   · skip
     replace h1 := sp h1; have hk1 : s < j.length := (by omega); have hk2 : s < k.length := (by omega); refine X.adr hs (by rw [List.length_map]; omega) (fun b1 o1 e1 => ?_); refine X.adr hs2 (by rw [List.length_map]; omega) (fun b3 o3 e3 => ?_); subst e1 e3
     refine xx 5 ?_
     refine drw ?_
     refine dd [0, 1, 2] ?_
     refine ldD 3 ?_ (hc := (Cl.e1 hs leA hk1 rfl))
     refine dd [4, 5, 6] ?_
     refine ldD 7 ?_ (hc := (Cl.e1 hs2 leA hk2 rfl))
     refine dd [8] ?_
     refine XD.nil ?_
     refine X.part 25 rfl (fun z1 => ?_) (fun z1 => ?_)
     · skip
       replace z1 := sp z1
       refine xx 5 ?_
       refine X.retL (q) Tryd.func29 (res1 Tryd.results29 rfl) ⟨_, rfl, congrArg Value.bool (by symm; rw [decide_eq_false_iff_not]; rintro rfl; exact z1 rfl), rfl⟩
     · skip
       replace z1 := sp z1
       refine xx 8 ?_
       refine X.sb [5, 0, 1, 4] ?_
       refine X.at (ih (s + 1, some ⟨b1, o1, none⟩, some ⟨b3, o3, none⟩) ⟨by dsimp only; omega, rfl, rfl, fun i g1 g2 g3 => by dsimp only at g3; rcases Nat.lt_or_ge i s with e | e; exact hP i g1 g2 e; obtain rfl : i = s := (by omega); exact z1⟩ (by dsimp only; omega)) subA leA
   · skip
     replace h1 := sp h1; have hfin : j = k := list_eq_of (by omega) (fun i g1 g2 => hP i g1 g2 (by omega))
     refine xx 6 ?_
     refine X.retL (q) Tryd.func29 (res1 Tryd.results29 rfl) ⟨_, rfl, congrArg Value.bool (by symm; rw [decide_eq_true_iff]; exact hfin), rfl⟩
set_option maxHeartbeats 1000000 in
theorem ints03_ok (hs : Sees q a (j.map I64)) (hs2 : Sees q b (k.map I64)) (hL : j.length ≤ 9223372036854775807 ∧ k.length ≤ 9223372036854775807) : CallF Tryd.prog G 17 [.slice a j.length c, .slice b k.length d] (q) (Ret fun v q' => v = .bool (decide (j = k)) ∧ q' = q) := by
 refine CallF.of Tryd.func17 Tryd.ntmps17 rfl (fun F cs => ?_)
 refine xx 13 ?_
 refine X.part 10 rfl (fun h0 => ?_) (fun h0 => ?_)
 · skip
   replace h0 := sp h0
   refine xx 5 ?_
   refine X.retL (q) Tryd.func17 (res1 Tryd.results17 rfl) ⟨_, rfl, congrArg Value.bool (by symm; rw [decide_eq_false_iff_not]; rintro rfl; omega), rfl⟩
 · skip
   replace h0 := sp h0
   refine xx 8 ?_
   refine X.at (X.loop (fun (s : Nat × Option Addr × Option Addr) => s.1 ≤ j.length ∧ s.2.1 = a ∧ s.2.2 = b ∧ ∀ i (h1 : i < j.length) (h2 : i < k.length), i < s.1 → j[i] = k[i]) (fun s => [(5, .int .i64 (s.1 : Int)), (0, .slice s.2.1 j.length c), (1, .slice s.2.2 k.length d), (4, .bool false)]) (fun s => q ++ F) (fun s => j.length - s.1) (fun s hi_ ih => ?_) (0, a, b) ⟨Nat.zero_le _, rfl, rfl, fun i _ _ h => absurd h (Nat.not_lt_zero i)⟩) subA leA
   try dsimp only at hi_ ih ⊢
   obtain ⟨hs0, ha, hb, hP⟩ := hi_
   obtain ⟨s, a2, b2⟩ := s; dsimp only at *; subst ha hb
   refine xx 8 ?_
   refine X.part 14 rfl (fun h1 => ?_) (fun h1 => ?_)
   · skip
     replace h1 := sp h1; have hk1 : s < j.length := (by omega); have hk2 : s < k.length := (by omega); refine X.adr hs (by rw [List.length_map]; omega) (fun b1 o1 e1 => ?_); refine X.adr hs2 (by rw [List.length_map]; omega) (fun b3 o3 e3 => ?_); subst e1 e3
     refine xx 5 ?_
     refine drw ?_
     refine dd [0, 1, 2] ?_
     refine ldD 3 ?_ (hc := (Cl.e1 hs leA hk1 rfl))
     refine dd [4, 5, 6] ?_
     refine ldD 7 ?_ (hc := (Cl.e1 hs2 leA hk2 rfl))
     refine dd [8] ?_
     refine XD.nil ?_
     refine X.part 25 rfl (fun z1 => ?_) (fun z1 => ?_)
     · skip
       replace z1 := sp z1
       refine xx 5 ?_
       refine X.retL (q) Tryd.func17 (res1 Tryd.results17 rfl) ⟨_, rfl, congrArg Value.bool (by symm; rw [decide_eq_false_iff_not]; rintro rfl; exact z1 rfl), rfl⟩
     · skip
       replace z1 := sp z1
       refine xx 8 ?_
       refine X.sb [5, 0, 1, 4] ?_
       refine X.at (ih (s + 1, some ⟨b1, o1, none⟩, some ⟨b3, o3, none⟩) ⟨by dsimp only; omega, rfl, rfl, fun i g1 g2 g3 => by dsimp only at g3; rcases Nat.lt_or_ge i s with e | e; exact hP i g1 g2 e; obtain rfl : i = s := (by omega); exact z1⟩ (by dsimp only; omega)) subA leA
   · skip
     replace h1 := sp h1; have hfin : j = k := list_eq_of (by omega) (fun i g1 g2 => hP i g1 g2 (by omega))
     refine xx 6 ?_
     refine X.retL (q) Tryd.func17 (res1 Tryd.results17 rfl) ⟨_, rfl, congrArg Value.bool (by symm; rw [decide_eq_true_iff]; exact hfin), rfl⟩
set_option maxHeartbeats 2000000 in
theorem sameCode_ok (hx : CodQ q x) (hy : CodQ q y) : CallF Tryd.prog G 30 [.agg (codC x).toArray, .agg (codC y).toArray] (q) (Ret fun v q' => ∃ bb : Bool, v = .bool bb ∧ (bb = true ↔ x.pl = y.pl) ∧ q' = q) := by
 refine CallF.of Tryd.func30 Tryd.ntmps30 rfl (fun F cs => ?_)
 have k1 := hx.ni; have k2 := hx.nl; have k3 := hy.ni; have k4 := hy.nl; have hl1 := flatMap_len (f := insC) (sz := 4) (fun _ => rfl) x.ins; have hl2 := flatMap_len (f := insC) (sz := 4) (fun _ => rfl) y.ins
 refine xo 2 ?_
 refine XO.bx fun n1 => ?_
 refine XO.bx fun n2 => ?_
 refine oo 6 ?_
 refine ld ?_
 refine oo 1 ?_
 refine ld ?_
 refine oo 2 ?_
 refine XO.sb [11, 4, 3, 2] ?_
 apply XO.cutOr 6 17 11 rfl
 · skip
   intro g1 M1; have h1 := sp g1
   refine oo 1 ?_
   refine ld ?_
   refine oo 1 ?_
   refine ld ?_
   refine oo 2 ?_
   exact XO.fin M1 ⟨orF g1, subB⟩
 · skip
   intro g1 M1; have h1 := sp g1
   refine oo 6 ?_
   exact XO.fin M1 ⟨orT g1, subB⟩
 · skip
   refine oo 1 ?_
   refine XO.sb [18, 4, 3, 2] ?_
   apply XO.cutOr 8 26 18 rfl
   · skip
     intro g1 M1; have h1 := sp g1
     refine oo 1 ?_
     refine ld ?_
     refine oo 2 ?_
     refine ld ?_
     refine oo 3 ?_
     exact XO.fin M1 ⟨orF g1, subB⟩
   · skip
     intro g1 M1; have h1 := sp g1
     refine oo 8 ?_
     exact XO.fin M1 ⟨orT g1, subB⟩
   · skip
     refine oo 1 ?_
     refine XO.sb [27, 4, 3, 2] ?_
     apply XO.cutOr 7 34 27 rfl
     · skip
       intro g1 M1; have h1 := sp g1
       refine oo 1 ?_
       refine ld ?_
       refine oo 1 ?_
       refine ld ?_
       refine XO.cR Tryd.call29 (ints06_ok (hx.l.le leA) (hy.l.le leA) ⟨k2, k4⟩) ?_
       refine XO.pu (Pu.not rfl) ?_
       refine oo 1 ?_
       exact XO.fin M1 ⟨orF g1, subB⟩
     · skip
       intro g1 M1; have h1 := sp g1
       refine oo 7 ?_
       exact XO.fin M1 ⟨orT g1, subB⟩
     · skip
       refine ox 1 ?_
       refine X.part 34 rfl (fun h1 => ?_) (fun h1 => ?_)
       · skip
         replace h1 := sp h1
         refine xx 5 ?_
         refine X.retL (q) Tryd.func30 (res1 Tryd.results30 rfl) ⟨_, rfl, false, rfl, ⟨fun e => (by cases e), fun e => (by exfalso; simp only [Cod.pl, Prod.mk.injEq] at e; obtain ⟨e1, e2, e3, e4⟩ := e; rw [e3] at h1; simp [e1, e2, e4] at h1)⟩, rfl⟩
       · skip
         replace h1 := sp h1
         refine xx 8 ?_
         have hll : x.name = y.name ∧ x.locals = y.locals ∧ x.ins.length = y.ins.length ∧ x.lines = y.lines := ⟨ba_inj h1.1.1.1, h1.1.1.2, by omega, h1.2⟩
         refine X.at (X.loop (fun (s : Nat) => s ≤ x.ins.length ∧ ∀ i (g1 : i < x.ins.length) (g2 : i < y.ins.length), i < s → x.ins[i] = y.ins[i]) (fun s => [(5, .int .i64 (s : Int)), (2, .pointer (some ⟨n1, 0, none⟩)), (3, .pointer (some ⟨n2, 0, none⟩)), (4, .bool false)]) (fun s => pto n1 (.cells (codC x).toArray 35 (0, 0)) :: pto n2 (.cells (codC y).toArray 35 (0, 0)) :: (q ++ F)) (fun s => x.ins.length - s) (fun s hi_ ih => ?_) 0 ⟨Nat.zero_le _, fun i _ _ h => absurd h (Nat.not_lt_zero i)⟩) subA leA
         try dsimp only at hi_ ih ⊢
         obtain ⟨hs0, hP⟩ := hi_
         refine xo 5 ?_
         refine ld ?_
         refine ox 3 ?_
         refine X.part 39 rfl (fun h0 => ?_) (fun h0 => ?_)
         · skip
           replace h0 := sp h0; have hk1 : s < x.ins.length := (by omega); have hk2 : s < y.ins.length := (by omega)
           refine xx 5 ?_
           refine drw ?_
           refine dd [0] ?_
           refine ldD 1 ?_
           refine dd [2] ?_
           refine XD.adr hx.i (by rw [hl1]; omega) (fun b1 o1 e1 => ?_)
           have hs1 := hx.i; rw [e1] at hs1
           refine XD.know 43 (.slice (some ⟨b1, o1, none⟩) x.ins.length x.ic) rfl (by rw [e1]) ?_
           refine dd [3] ?_
           refine XD.ldS 4 (m := s) Tryd.isAgg53 Tryd.sizeOf53 hs1 hk1 ?_
           refine dd [5] ?_
           refine ldD 6 ?_
           refine dd [7] ?_
           refine XD.adr hy.i (by rw [hl2]; omega) (fun b2 o2 e2 => ?_)
           have hs2 := hy.i; rw [e2] at hs2
           refine XD.know 48 (.slice (some ⟨b2, o2, none⟩) y.ins.length y.ic) rfl (by rw [e2]) ?_
           refine dd [8] ?_
           refine XD.ldS 9 (m := s) Tryd.isAgg53 Tryd.sizeOf53 hs2 hk2 ?_
           refine XD.pu 10 rfl (Pu.neqA rfl rfl (by kernel_rfl) (EqV.struct Tryd.underlying53 (by kernel_rfl) (by kernel_rfl) ⟨_, _, _, _, rfl, rfl, Tryd.isAgg51, (EqV.int Tryd.underlying51 _ _), ⟨_, _, _, _, rfl, rfl, Tryd.isAgg3, (EqV.int Tryd.underlying3 _ _), ⟨_, _, _, _, rfl, rfl, Tryd.isAgg3, (EqV.int Tryd.underlying3 _ _), ⟨_, _, _, _, rfl, rfl, Tryd.isAgg2, (EqV.int Tryd.underlying2 _ _), rfl, rfl⟩, rfl⟩, rfl⟩, rfl⟩)) ?_
           refine XD.nil ?_
           refine X.part 52 rfl (fun z1 => ?_) (fun z1 => ?_)
           · skip
             replace z1 := sp z1
             refine xx 5 ?_
             refine X.sb [4, 5, 2, 3] ?_
             refine X.retL (q) Tryd.func30 (res1 Tryd.results30 rfl) ⟨_, rfl, false, rfl, ⟨fun e => (by cases e), fun e => (by exfalso; simp only [Cod.pl, Prod.mk.injEq] at e; obtain ⟨e1, e2, e3, e4⟩ := e; have e5 : x.ins[s] = y.ins[s] := (by simp only [e3]); rw [e5] at z1; simp at z1)⟩, rfl⟩
           · skip
             replace z1 := sp z1
             refine xx 8 ?_
             refine X.sb [5, 2, 3, 4] ?_
             refine X.at (ih (s + 1) ⟨by omega, fun i g1 g2 g3 => by rcases Nat.lt_or_ge i s with e | e; exact hP i g1 g2 e; obtain rfl : i = s := (by omega); exact Ins.ext4 z1.1 z1.2.1 z1.2.2.1 z1.2.2.2⟩ (by omega)) subA leA
         · skip
           replace h0 := sp h0
           refine xx 6 ?_
           have hins : x.ins = y.ins := list_eq_of hll.2.2.1 (fun i g1 g2 => hP i g1 g2 (by omega))
           refine X.retL (q) Tryd.func30 (res1 Tryd.results30 rfl) ⟨_, rfl, true, rfl, ⟨fun _ => by unfold Cod.pl; rw [hll.1, hll.2.1, hins, hll.2.2.2], fun _ => rfl⟩, rfl⟩
set_option maxHeartbeats 4000000 in
theorem same06_ok (hx : MdlQ q m) (hy : MdlQ q m2) : CallF Tryd.prog G 16 [.agg (mdlC m).toArray, .agg (mdlC m2).toArray] (q) (Ret fun v q' => ∃ bb : Bool, v = .bool bb ∧ (bb = true ↔ m.pl = m2.pl) ∧ q' = q) := by
 refine CallF.of Tryd.func16 Tryd.ntmps16 rfl (fun F cs => ?_)
 have k1 := hx.nv; have k2 := hx.na; have k3 := hx.nc; have k4 := hx.nt; have k5 := hy.nv; have k6 := hy.na; have k7 := hy.nc; have k8 := hy.nt; have hl1 := flatMap_len (f := codC) (sz := 4) (fun _ => rfl) m.threads; have hl2 := flatMap_len (f := codC) (sz := 4) (fun _ => rfl) m2.threads
 refine xo 2 ?_
 refine XO.bx fun n1 => ?_
 refine XO.bx fun n2 => ?_
 refine oo 6 ?_
 refine ld ?_
 refine oo 2 ?_
 refine ld ?_
 refine oo 3 ?_
 refine XO.sb [14, 4, 3, 2] ?_
 apply XO.cutOr 7 21 14 rfl
 · skip
   intro g1 M1; have h1 := sp g1
   refine oo 1 ?_
   refine ld ?_
   refine oo 1 ?_
   refine ld ?_
   refine XO.cR Tryd.call29 (ints06_ok (hx.a.le leA) (hy.a.le leA) ⟨k2, k6⟩) ?_
   refine XO.pu (Pu.not rfl) ?_
   refine oo 1 ?_
   exact XO.fin M1 ⟨orF g1, subB⟩
 · skip
   intro g1 M1; have h1 := sp g1
   refine oo 7 ?_
   exact XO.fin M1 ⟨orT g1, subB⟩
 · skip
   refine oo 1 ?_
   refine XO.sb [22, 4, 3, 2] ?_
   apply XO.cutOr 7 29 22 rfl
   · skip
     intro g1 M1; have h1 := sp g1
     refine oo 1 ?_
     refine ld ?_
     refine oo 1 ?_
     refine ld ?_
     refine XO.cR Tryd.call29 (ints06_ok (hx.c.le leA) (hy.c.le leA) ⟨k3, k7⟩) ?_
     refine XO.pu (Pu.not rfl) ?_
     refine oo 1 ?_
     exact XO.fin M1 ⟨orF g1, subB⟩
   · skip
     intro g1 M1; have h1 := sp g1
     refine oo 7 ?_
     exact XO.fin M1 ⟨orT g1, subB⟩
   · skip
     refine oo 1 ?_
     refine XO.sb [30, 4, 3, 2] ?_
     apply XO.cutOr 6 36 30 rfl
     · skip
       intro g1 M1; have h1 := sp g1
       refine oo 1 ?_
       refine ld ?_
       refine oo 1 ?_
       refine ld ?_
       refine oo 2 ?_
       exact XO.fin M1 ⟨orF g1, subB⟩
     · skip
       intro g1 M1; have h1 := sp g1
       refine oo 6 ?_
       exact XO.fin M1 ⟨orT g1, subB⟩
     · skip
       refine oo 1 ?_
       refine XO.sb [37, 4, 3, 2] ?_
       apply XO.cutOr 6 43 37 rfl
       · skip
         intro g1 M1; have h1 := sp g1
         refine oo 1 ?_
         refine ld ?_
         refine oo 1 ?_
         refine ld ?_
         refine oo 2 ?_
         exact XO.fin M1 ⟨orF g1, subB⟩
       · skip
         intro g1 M1; have h1 := sp g1
         refine oo 6 ?_
         exact XO.fin M1 ⟨orT g1, subB⟩
       · skip
         refine oo 1 ?_
         refine XO.sb [44, 4, 3, 2] ?_
         apply XO.cutOr 8 52 44 rfl
         · skip
           intro g1 M1; have h1 := sp g1
           refine oo 1 ?_
           refine ld ?_
           refine oo 2 ?_
           refine ld ?_
           refine oo 3 ?_
           exact XO.fin M1 ⟨orF g1, subB⟩
         · skip
           intro g1 M1; have h1 := sp g1
           refine oo 8 ?_
           exact XO.fin M1 ⟨orT g1, subB⟩
         · skip
           refine ox 1 ?_
           refine X.part 52 rfl (fun h1 => ?_) (fun h1 => ?_)
           · skip
             replace h1 := sp h1
             refine xx 5 ?_
             refine X.sb [4, 3, 2] ?_
             refine X.retL (q) Tryd.func16 (res1 Tryd.results16 rfl) ⟨_, rfl, false, rfl, ⟨fun e => (by cases e), fun e => (by exfalso; simp only [Mdl.pl, Prod.mk.injEq] at e; obtain ⟨e1, e2, e3, e4, e5, e6⟩ := e; have e7 := congrArg List.length e6; rw [List.length_map, List.length_map] at e7; rw [e1] at h1; simp [e2, e3, e4, e5, e7] at h1)⟩, rfl⟩
           · skip
             replace h1 := sp h1
             refine xx 8 ?_
             refine X.sb [5, 4, 3, 2] ?_
             have hll : m.vars.length = m2.vars.length ∧ m.arrays = m2.arrays ∧ m.chans = m2.chans ∧ m.mutexes = m2.mutexes ∧ m.conds = m2.conds ∧ m.threads.length = m2.threads.length := ⟨by omega, h1.1.1.1.1.2, h1.1.1.1.2, h1.1.1.2, h1.1.2, by omega⟩
             refine X.at (X.loop (fun (s : Nat) => s ≤ m.vars.length ∧ ∀ i (g1 : i < m.vars.length) (g2 : i < m2.vars.length), i < s → m.vars[i] = m2.vars[i]) (fun s => [(5, .int .i64 (s : Int)), (2, .pointer (some ⟨n1, 0, none⟩)), (3, .pointer (some ⟨n2, 0, none⟩)), (4, .bool false)]) (fun s => pto n1 (.cells (mdlC m).toArray 26 (0, 0)) :: pto n2 (.cells (mdlC m2).toArray 26 (0, 0)) :: (q ++ F)) (fun s => m.vars.length - s) (fun s hi_ ih => ?_) 0 ⟨Nat.zero_le _, fun i _ _ h => absurd h (Nat.not_lt_zero i)⟩) subA leA
             try dsimp only at hi_ ih ⊢
             obtain ⟨hs0, hP⟩ := hi_
             refine xo 5 ?_
             refine ld ?_
             refine ox 3 ?_
             refine X.part 57 rfl (fun h0 => ?_) (fun h0 => ?_)
             · skip
               replace h0 := sp h0; have hk1 : s < m.vars.length := (by omega); have hk2 : s < m2.vars.length := (by omega)
               refine xx 5 ?_
               refine drw ?_
               refine dd [0] ?_
               refine ldD 1 ?_
               refine dd [2] ?_
               refine XD.adr hx.v (by rw [List.length_map]; omega) (fun b1 o1 e1 => ?_)
               have hs1 := hx.v; rw [e1] at hs1
               refine XD.know 61 (.slice (some ⟨b1, o1, none⟩) m.vars.length m.vc) rfl (by rw [e1]) ?_
               refine dd [3] ?_
               refine ldD 4 ?_ (hc := (Cl.e1 hs1 leA hk1 rfl))
               refine dd [5] ?_
               refine ldD 6 ?_
               refine dd [7] ?_
               refine XD.adr hy.v (by rw [List.length_map]; omega) (fun b2 o2 e2 => ?_)
               have hs2 := hy.v; rw [e2] at hs2
               refine XD.know 66 (.slice (some ⟨b2, o2, none⟩) m2.vars.length m2.vc) rfl (by rw [e2]) ?_
               refine dd [8] ?_
               refine ldD 9 ?_ (hc := (Cl.e1 hs2 leA hk2 rfl))
               refine dd [10] ?_
               refine XD.nil ?_
               refine X.part 70 rfl (fun z1 => ?_) (fun z1 => ?_)
               · skip
                 replace z1 := sp z1
                 refine xx 5 ?_
                 refine X.sb [4, 5, 2, 3] ?_
                 refine X.retL (q) Tryd.func16 (res1 Tryd.results16 rfl) ⟨_, rfl, false, rfl, ⟨fun e => (by cases e), fun e => (by exfalso; simp only [Mdl.pl, Prod.mk.injEq] at e; obtain ⟨e1, e2, e3, e4, e5, e6⟩ := e; have e7 := congrArg List.length e6; rw [List.length_map, List.length_map] at e7; apply z1; simp only [e1])⟩, rfl⟩
               · skip
                 replace z1 := sp z1
                 refine xx 8 ?_
                 refine X.sb [5, 2, 3, 4] ?_
                 refine X.at (ih (s + 1) ⟨by omega, fun i g1 g2 g3 => by rcases Nat.lt_or_ge i s with e | e; exact hP i g1 g2 e; obtain rfl : i = s := (by omega); exact z1⟩ (by omega)) subA leA
             · skip
               replace h0 := sp h0; have hv : m.vars = m2.vars := list_eq_of hll.1 (fun i g1 g2 => hP i g1 g2 (by omega)); clear ih hP h0
               refine xx 8 ?_
               refine X.at (X.loop (fun (s : Nat) => s ≤ m.threads.length ∧ ∀ i (g1 : i < m.threads.length) (g2 : i < m2.threads.length), i < s → m.threads[i].pl = m2.threads[i].pl) (fun s => [(6, .int .i64 (s : Int)), (2, .pointer (some ⟨n1, 0, none⟩)), (3, .pointer (some ⟨n2, 0, none⟩)), (4, .bool false)]) (fun s => pto n1 (.cells (mdlC m).toArray 26 (0, 0)) :: pto n2 (.cells (mdlC m2).toArray 26 (0, 0)) :: (q ++ F)) (fun s => m.threads.length - s) (fun s hi_ ih => ?_) 0 ⟨Nat.zero_le _, fun i _ _ h => absurd h (Nat.not_lt_zero i)⟩) subA leA
               try dsimp only at hi_ ih ⊢
               obtain ⟨hs0, hP⟩ := hi_
               refine xo 5 ?_
               refine ld ?_
               refine ox 3 ?_
               refine X.part 75 rfl (fun h0 => ?_) (fun h0 => ?_)
               · skip
                 replace h0 := sp h0; have hk1 : s < m.threads.length := (by omega); have hk2 : s < m2.threads.length := (by omega)
                 refine xx 5 ?_
                 refine drw ?_
                 refine dd [0] ?_
                 refine ldD 1 ?_
                 refine dd [2] ?_
                 refine XD.adr hx.t (by rw [hl1]; omega) (fun bv ov ev => ?_)
                 have hsv := hx.t; rw [ev] at hsv
                 refine XD.know 79 (.slice (some ⟨bv, ov, none⟩) m.threads.length m.tc) rfl (by rw [ev]) ?_
                 refine dd [3] ?_
                 refine XD.ldS 4 (m := s) Tryd.isAgg35 Tryd.sizeOf35 hsv hk1 ?_
                 refine dd [5] ?_
                 refine ldD 6 ?_
                 refine dd [7] ?_
                 refine XD.adr hy.t (by rw [hl2]; omega) (fun bw ow ew => ?_)
                 have hsw := hy.t; rw [ew] at hsw
                 refine XD.know 84 (.slice (some ⟨bw, ow, none⟩) m2.threads.length m2.tc) rfl (by rw [ew]) ?_
                 refine dd [8] ?_
                 refine XD.ldS 9 (m := s) Tryd.isAgg35 Tryd.sizeOf35 hsw hk2 ?_
                 refine XD.cX 10 Tryd.call30 (Le.refl _) (sameCode_ok (x := m.threads[s]) (y := m2.threads[s]) ((hx.x _ (List.getElem_mem hk1)).le leA) ((hy.x _ (List.getElem_mem hk2)).le leA)) ?_
                 rintro _ _ ⟨bb, rfl, hbb, rfl⟩
                 refine ⟨(hlA (h := by repeat first | exact trivial | refine ⟨clA, ?_⟩ | refine ⟨Cl.row hsv leA (fun _ => rfl) hk1 rfl 0 _ rfl, ?_⟩ | refine ⟨Cl.row hsv leA (fun _ => rfl) hk1 rfl 1 _ rfl, ?_⟩ | refine ⟨Cl.row hsv leA (fun _ => rfl) hk1 rfl 2 _ rfl, ?_⟩ | refine ⟨Cl.row hsv leA (fun _ => rfl) hk1 rfl 3 _ rfl, ?_⟩ | refine ⟨Cl.row hsw leA (fun _ => rfl) hk2 rfl 0 _ rfl, ?_⟩ | refine ⟨Cl.row hsw leA (fun _ => rfl) hk2 rfl 1 _ rfl, ?_⟩ | refine ⟨Cl.row hsw leA (fun _ => rfl) hk2 rfl 2 _ rfl, ?_⟩ | refine ⟨Cl.row hsw leA (fun _ => rfl) hk2 rfl 3 _ rfl, ?_⟩)), ?_⟩
                 refine XD.pu 11 rfl (Pu.not rfl) ?_
                 refine XD.nil ?_
                 refine X.part 89 rfl (fun z1 => ?_) (fun z1 => ?_)
                 · skip
                   replace z1 := sp z1
                   refine xx 5 ?_
                   refine X.sb [4, 6, 2, 3] ?_
                   refine X.retL (q) Tryd.func16 (res1 Tryd.results16 rfl) ⟨_, rfl, false, rfl, ⟨fun e => (by cases e), fun e => (by exfalso; simp only [Mdl.pl, Prod.mk.injEq] at e; obtain ⟨e1, e2, e3, e4, e5, e6⟩ := e; have e7 := congrArg List.length e6; rw [List.length_map, List.length_map] at e7; have e8 : (m.threads.map Cod.pl)[s]'(by simpa using hk1) = (m2.threads.map Cod.pl)[s]'(by simpa using hk2) := (by simp only [e6]); rw [List.getElem_map, List.getElem_map] at e8; rw [hbb.2 e8] at z1; cases z1)⟩, rfl⟩
                 · skip
                   replace z1 := sp z1
                   refine xx 8 ?_
                   refine X.sb [6, 2, 3, 4] ?_
                   refine X.at (ih (s + 1) ⟨by omega, fun i g1 g2 g3 => by rcases Nat.lt_or_ge i s with e | e; exact hP i g1 g2 e; obtain rfl : i = s := (by omega); exact hbb.1 z1⟩ (by omega)) subA leA
               · skip
                 replace h0 := sp h0; have ht : m.threads.map Cod.pl = m2.threads.map Cod.pl := list_eq_of (by rw [List.length_map, List.length_map]; exact hll.2.2.2.2.2) (fun i g1 g2 => by rw [List.getElem_map, List.getElem_map]; exact hP i (by simpa using g1) (by simpa using g2) (by have : i < m.threads.length := (by simpa using g1); omega))
                 refine xx 6 ?_
                 refine X.retL (q) Tryd.func16 (res1 Tryd.results16 rfl) ⟨_, rfl, true, rfl, ⟨fun _ => by unfold Mdl.pl; rw [hv, hll.2.1, hll.2.2.1, hll.2.2.2.1, hll.2.2.2.2.1, ht], fun _ => rfl⟩, rfl⟩
theorem num_ok  : CallF Tryd.prog G 9 [.int .i64 cd] (q) (Ret fun v q' => v = .int .i64 cd ∧ q' = q) := by
 refine CallF.of Tryd.func9 Tryd.ntmps9 rfl (fun F cs => ?_)
 refine xx 9 ?_
 refine X.retL (q) Tryd.func9 (res1 Tryd.results9 rfl) ⟨_, rfl, rfl, rfl⟩
set_option maxHeartbeats 2000000 in
theorem few_ok (hq : MdlQ q m) : CallF Tryd.prog G 5 [.agg (mdlC m).toArray] (q) (Ret fun v q' => ∃ bb : Bool, v = .bool bb ∧ q' = q) := by
 refine CallF.of Tryd.func5 Tryd.ntmps5 rfl (fun F cs => ?_)
 have hlen := flatMap_len (f := codC) (sz := 4) (fun _ => rfl) m.threads; have hnt := hq.nt; have h1_ := hq.nv; have h2_ := hq.na; have h3_ := hq.nc
 refine xo 2 ?_
 refine XO.bx fun n1 => ?_
 refine ox 8 ?_
 refine X.at (X.loop (fun (s : Nat) => s ≤ m.threads.length) (fun s => [(3, .int .i64 (s : Int)), (1, .pointer (some ⟨n1, 0, none⟩)), (2, .bool false)]) (fun s => pto n1 (.cells (mdlC m).toArray 26 (0, 0)) :: (q ++ F)) (fun s => m.threads.length - s) (fun s hi_ ih => ?_) 0 (Nat.zero_le _)) subA leA
 try dsimp only at hi_ ih ⊢
 obtain hs0 := hi_
 refine xo 5 ?_
 refine ld ?_
 refine ox 3 ?_
 refine X.part 8 rfl (fun h0 => ?_) (fun h0 => ?_)
 · skip
   replace h0 := sp h0; have hth : s < m.threads.length := (by omega)
   refine X.adr hq.t (by rw [hlen]; omega) (fun b1 o1 e1 => ?_); have hs1 := hq.t; rw [e1] at hs1
   refine xo 7 ?_
   refine ld ?_
   refine oo 1 ?_
   refine XO.know 12 (.slice (some ⟨b1, o1, none⟩) m.threads.length m.tc) rfl (by rw [e1]) ?_
   refine oo 2 ?_
   refine ld ?_ (hc := (Cl.row (j := (s : Int)) hs1 leA (fun _ => rfl) hth rfl 2 _ rfl))
   refine oo 3 ?_
   refine XO.sb [19, 3, 1, 2] ?_
   apply XO.cutOr 9 28 19 rfl
   · skip
     intro g1 M1; have z1 := sp g1
     refine oo 1 ?_
     refine ld ?_
     refine oo 1 ?_
     refine XO.know 21 (.slice (some ⟨b1, o1, none⟩) m.threads.length m.tc) rfl (by rw [e1]) ?_
     refine oo 2 ?_
     refine ld ?_ (hc := (Cl.row (j := (s : Int)) hs1 leA (fun _ => rfl) hth rfl 3 _ rfl))
     refine oo 3 ?_
     exact XO.fin M1 ⟨orF g1, subB⟩
   · skip
     intro g1 M1; have z1 := sp g1
     refine oo 9 ?_
     exact XO.fin M1 ⟨orT g1, subB⟩
   · skip
     refine oo 1 ?_
     refine XO.sb [29, 3, 1, 2] ?_
     apply XO.cutOr 9 38 29 rfl
     · skip
       intro g1 M1; have z1 := sp g1
       refine oo 1 ?_
       refine ld ?_
       refine oo 1 ?_
       refine XO.know 31 (.slice (some ⟨b1, o1, none⟩) m.threads.length m.tc) rfl (by rw [e1]) ?_
       refine oo 2 ?_
       refine ld ?_ (hc := (Cl.row (j := (s : Int)) hs1 leA (fun _ => rfl) hth rfl 0 _ rfl))
       refine oo 3 ?_
       exact XO.fin M1 ⟨orF g1, subB⟩
     · skip
       intro g1 M1; have z1 := sp g1
       refine oo 9 ?_
       exact XO.fin M1 ⟨orT g1, subB⟩
     · skip
       refine ox 1 ?_
       refine X.sb [38, 3, 1, 2] ?_
       refine X.part 38 rfl (fun z1 => ?_) (fun z1 => ?_)
       · skip
         replace z1 := sp z1
         refine xx 5 ?_
         refine X.retL (q) Tryd.func5 (res1 Tryd.results5 rfl) ⟨_, rfl, _, rfl, rfl⟩
       · skip
         replace z1 := sp z1
         refine xx 8 ?_
         refine X.at (ih (s + 1) (by omega) (by omega)) subA leA
 · skip
   refine xo 5 ?_
   refine ld ?_
   refine oo 3 ?_
   refine XO.sb [43, 1, 2] ?_
   apply XO.cutAnd 5 48 43 rfl
   · skip
     intro g1 M1; have h1 := sp g1
     refine oo 1 ?_
     refine ld ?_
     refine oo 3 ?_
     exact XO.fin M1 ⟨andT g1, subB⟩
   · skip
     intro g1 M1; have h1 := sp g1
     refine oo 5 ?_
     exact XO.fin M1 ⟨andF g1, subB⟩
   · skip
     refine oo 1 ?_
     refine XO.sb [49, 1, 2] ?_
     apply XO.cutAnd 5 54 49 rfl
     · skip
       intro g1 M1; have h1 := sp g1
       refine oo 1 ?_
       refine ld ?_
       refine oo 3 ?_
       exact XO.fin M1 ⟨andT g1, subB⟩
     · skip
       intro g1 M1; have h1 := sp g1
       refine oo 5 ?_
       exact XO.fin M1 ⟨andF g1, subB⟩
     · skip
       refine oo 1 ?_
       refine XO.sb [55, 1, 2] ?_
       apply XO.cutAnd 5 60 55 rfl
       · skip
         intro g1 M1; have h1 := sp g1
         refine oo 1 ?_
         refine ld ?_
         refine oo 3 ?_
         exact XO.fin M1 ⟨andT g1, subB⟩
       · skip
         intro g1 M1; have h1 := sp g1
         refine oo 5 ?_
         exact XO.fin M1 ⟨andF g1, subB⟩
       · skip
         refine ox 2 ?_
         refine X.retL (q) Tryd.func5 (res1 Tryd.results5 rfl) ⟨_, rfl, _, rfl, rfl⟩
end
end Go.Proofs.YtbeeplmgcdnadaaDoor

