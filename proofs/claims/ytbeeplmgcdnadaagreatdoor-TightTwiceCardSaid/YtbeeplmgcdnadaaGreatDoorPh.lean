/- Contracts of functions, proved by walking their code, and the logic that they need: what the last text reaches. -/
import Derived.Test.YtbeeplmgcdnadaaGreatDoorPg
import Derived.KernelRfl
set_option maxRecDepth 100000
set_option linter.unusedVariables false
set_option linter.unusedSimpArgs false
namespace Go.Proofs.YtbeeplmgcdnadaaGreatDoor
open Go Go.RowKit Wx
attribute [local irreducible] Wx.lsH Wx.rsH Wx.stars
theorem list_eq_of {α : Type} {l m : List α} (h : l.length = m.length) (h2 : ∀ i (h1 : i < l.length) (h2 : i < m.length), l[i] = m[i]) : l = m := List.ext_getElem h h2
theorem ba_inj {a b : ByteArray} (h : a.toList = b.toList) : a = b := by
 rw [ByteArray.toList_eq, ByteArray.toList_eq] at h
 cases a; cases b; congr; exact Array.toList_inj.1 h
theorem Ins.ext4 {x y : Ins} (h1 : x.c = y.c) (h2 : x.a = y.a) (h3 : x.b = y.b) (h4 : x.n = y.n) : x = y := by cases x; cases y; simp_all
def Mdl.pl (m : Mdl) : List Int × List Int × List Int × Int × Int × List (ByteArray × Int × List Ins × List Int) := (m.vars, m.arrays, m.chans, m.mutexes, m.conds, m.threads.map Cod.pl)
section
variable {G : World} {q : List HP} {a b A : Option Addr} {c d : Nat} {cd : Int} {l : List Ins} {ln : List Int} {o : List Bool}
variable {nt : Nat} {nm : ByteArray} {lo : Int} {ia la wa : Option Addr} {ic lc wc : Nat} {I : List Ins} {L W : List Int}
variable {m m2 : Mdl} {x y : Cod} {j k : List Int}
set_option maxHeartbeats 1000000 in
theorem ints06_ok (hs : Sees q a (j.map I64)) (hs2 : Sees q b (k.map I64)) (hL : j.length ≤ 9223372036854775807 ∧ k.length ≤ 9223372036854775807) : CallF Tryz.prog G 56 [.slice a j.length c, .slice b k.length d] (q) (Ret fun v q' => v = .bool (decide (j = k)) ∧ q' = q) := by
 refine CallF.of Tryz.func56 Tryz.ntmps56 rfl (fun F cs => ?_)
 refine xx 13 ?_; refine X.part 10 rfl (fun h0 => ?_) (fun h0 => ?_)
 · replace h0 := sp h0
   refine xx 5 ?_; refine X.retL (q) Tryz.func56 (res1 Tryz.results56 rfl) ⟨_, rfl, congrArg Value.bool (by symm; rw [decide_eq_false_iff_not]; rintro rfl; omega), rfl⟩
 replace h0 := sp h0
 refine xx 8 ?_; refine X.at (X.loop (fun (s : Nat × Option Addr × Option Addr) => s.1 ≤ j.length ∧ s.2.1 = a ∧ s.2.2 = b ∧ ∀ i (h1 : i < j.length) (h2 : i < k.length), i < s.1 → j[i] = k[i]) (fun s => [(5, .int .i64 (s.1 : Int)), (0, .slice s.2.1 j.length c), (1, .slice s.2.2 k.length d), (4, .bool false)]) (fun s => q ++ F) (fun s => j.length - s.1) (fun s hi_ ih => ?_) (0, a, b) ⟨Nat.zero_le _, rfl, rfl, fun i _ _ h => absurd h (Nat.not_lt_zero i)⟩) subA leA
 try dsimp only at hi_ ih ⊢
 obtain ⟨hs0, ha, hb, hP⟩ := hi_
 obtain ⟨s, a2, b2⟩ := s; dsimp only at *; subst ha hb
 refine xx 8 ?_; refine X.part 14 rfl (fun h1 => ?_) (fun h1 => ?_)
 · replace h1 := sp h1; have hk1 : s < j.length := (by omega); have hk2 : s < k.length := (by omega); refine X.adr hs (by rw [List.length_map]; omega) (fun b1 o1 e1 => ?_); refine X.adr hs2 (by rw [List.length_map]; omega) (fun b3 o3 e3 => ?_); subst e1 e3
   refine xx 5 ?_; refine drw ?_; refine dd [0, 1, 2] ?_; refine ldD 3 ?_ (hc := (Cl.e1 hs leA hk1 rfl))
   refine dd [4, 5, 6] ?_; refine ldD 7 ?_ (hc := (Cl.e1 hs2 leA hk2 rfl))
   refine dd [8] ?_; refine XD.nil ?_; refine X.part 25 rfl (fun z1 => ?_) (fun z1 => ?_)
   · replace z1 := sp z1
     refine xx 5 ?_; refine X.retL (q) Tryz.func56 (res1 Tryz.results56 rfl) ⟨_, rfl, congrArg Value.bool (by symm; rw [decide_eq_false_iff_not]; rintro rfl; exact z1 rfl), rfl⟩
   replace z1 := sp z1
   refine xx 8 ?_; refine X.sb [5, 0, 1, 4] ?_; refine X.at (ih (s + 1, some ⟨b1, o1, none⟩, some ⟨b3, o3, none⟩) ⟨by dsimp only; omega, rfl, rfl, fun i g1 g2 g3 => by dsimp only at g3; rcases Nat.lt_or_ge i s with e | e; exact hP i g1 g2 e; obtain rfl : i = s := (by omega); exact z1⟩ (by dsimp only; omega)) subA leA
 replace h1 := sp h1; have hfin : j = k := list_eq_of (by omega) (fun i g1 g2 => hP i g1 g2 (by omega))
 refine xx 6 ?_; refine X.retL (q) Tryz.func56 (res1 Tryz.results56 rfl) ⟨_, rfl, congrArg Value.bool (by symm; rw [decide_eq_true_iff]; exact hfin), rfl⟩
set_option maxHeartbeats 2000000 in
theorem sameCode_ok (hx : CodQ q x) (hy : CodQ q y) : CallF Tryz.prog G 57 [.agg (codC x).toArray, .agg (codC y).toArray] (q) (Ret fun v q' => ∃ bb : Bool, v = .bool bb ∧ (bb = true ↔ x.pl = y.pl) ∧ q' = q) := by
 refine CallF.of Tryz.func57 Tryz.ntmps57 rfl (fun F cs => ?_)
 have k1 := hx.ni; have k2 := hx.nl; have k3 := hy.ni; have k4 := hy.nl; have hl1 := flatMap_len (f := insC) (sz := 4) (fun _ => rfl) x.ins; have hl2 := flatMap_len (f := insC) (sz := 4) (fun _ => rfl) y.ins
 refine xo 2 ?_; refine XO.bx fun n1 => ?_
 refine XO.bx fun n2 => ?_
 refine oo 6 ?_; refine ld ?_; refine oo 1 ?_; refine ld ?_; refine oo 2 ?_; refine XO.sb [11, 4, 3, 2] ?_
 apply XO.cutOr 6 17 11 rfl
 · intro g1 M1; have h1 := sp g1
   refine oo 1 ?_; refine ld ?_; refine oo 1 ?_; refine ld ?_; refine oo 2 ?_; exact XO.fin M1 ⟨orF g1, subB⟩
 · intro g1 M1; have h1 := sp g1
   refine oo 6 ?_; exact XO.fin M1 ⟨orT g1, subB⟩
 refine oo 1 ?_; refine XO.sb [18, 4, 3, 2] ?_
 apply XO.cutOr 8 26 18 rfl
 · intro g1 M1; have h1 := sp g1
   refine oo 1 ?_; refine ld ?_; refine oo 2 ?_; refine ld ?_; refine oo 3 ?_; exact XO.fin M1 ⟨orF g1, subB⟩
 · intro g1 M1; have h1 := sp g1
   refine oo 8 ?_; exact XO.fin M1 ⟨orT g1, subB⟩
 refine oo 1 ?_; refine XO.sb [27, 4, 3, 2] ?_
 apply XO.cutOr 7 34 27 rfl
 · intro g1 M1; have h1 := sp g1
   refine oo 1 ?_; refine ld ?_; refine oo 1 ?_; refine ld ?_; refine XO.cR Tryz.call56 (ints06_ok (hx.l.le leA) (hy.l.le leA) ⟨k2, k4⟩) ?_
   refine XO.pu (Pu.not rfl) ?_; refine oo 1 ?_; exact XO.fin M1 ⟨orF g1, subB⟩
 · intro g1 M1; have h1 := sp g1
   refine oo 7 ?_; exact XO.fin M1 ⟨orT g1, subB⟩
 refine ox 1 ?_; refine X.part 34 rfl (fun h1 => ?_) (fun h1 => ?_)
 · replace h1 := sp h1
   refine xx 5 ?_; refine X.retL (q) Tryz.func57 (res1 Tryz.results57 rfl) ⟨_, rfl, false, rfl, ⟨fun e => (by cases e), fun e => (by exfalso; simp only [Cod.pl, Prod.mk.injEq] at e; obtain ⟨e1, e2, e3, e4⟩ := e; rw [e3] at h1; simp [e1, e2, e4] at h1)⟩, rfl⟩
 replace h1 := sp h1
 refine xx 8 ?_
 have hll : x.name = y.name ∧ x.locals = y.locals ∧ x.ins.length = y.ins.length ∧ x.lines = y.lines := ⟨ba_inj h1.1.1.1, h1.1.1.2, by omega, h1.2⟩
 refine X.at (X.loop (fun (s : Nat) => s ≤ x.ins.length ∧ ∀ i (g1 : i < x.ins.length) (g2 : i < y.ins.length), i < s → x.ins[i] = y.ins[i]) (fun s => [(5, .int .i64 (s : Int)), (2, .pointer (some ⟨n1, 0, none⟩)), (3, .pointer (some ⟨n2, 0, none⟩)), (4, .bool false)]) (fun s => pto n1 (.cells (codC x).toArray 47 (0, 0)) :: pto n2 (.cells (codC y).toArray 47 (0, 0)) :: (q ++ F)) (fun s => x.ins.length - s) (fun s hi_ ih => ?_) 0 ⟨Nat.zero_le _, fun i _ _ h => absurd h (Nat.not_lt_zero i)⟩) subA leA
 try dsimp only at hi_ ih ⊢
 obtain ⟨hs0, hP⟩ := hi_
 refine xo 5 ?_; refine ld ?_; refine ox 3 ?_; refine X.part 39 rfl (fun h0 => ?_) (fun h0 => ?_)
 · replace h0 := sp h0; have hk1 : s < x.ins.length := (by omega); have hk2 : s < y.ins.length := (by omega)
   refine xx 5 ?_; refine drw ?_; refine dd [0] ?_; refine ldD 1 ?_; refine dd [2] ?_; refine XD.adr hx.i (by rw [hl1]; omega) (fun b1 o1 e1 => ?_)
   have hs1 := hx.i; rw [e1] at hs1
   refine XD.know 43 (.slice (some ⟨b1, o1, none⟩) x.ins.length x.ic) rfl (by rw [e1]) ?_
   refine dd [3] ?_; refine XD.ldS 4 (m := s) Tryz.isAgg65 Tryz.sizeOf65 hs1 hk1 ?_
   refine dd [5] ?_; refine ldD 6 ?_; refine dd [7] ?_; refine XD.adr hy.i (by rw [hl2]; omega) (fun b2 o2 e2 => ?_)
   have hs2 := hy.i; rw [e2] at hs2
   refine XD.know 48 (.slice (some ⟨b2, o2, none⟩) y.ins.length y.ic) rfl (by rw [e2]) ?_
   refine dd [8] ?_; refine XD.ldS 9 (m := s) Tryz.isAgg65 Tryz.sizeOf65 hs2 hk2 ?_
   refine XD.pu 10 rfl (Pu.neqA rfl rfl (by kernel_rfl) (EqV.struct Tryz.underlying65 (by kernel_rfl) (by kernel_rfl) ⟨_, _, _, _, rfl, rfl, Tryz.isAgg63, (EqV.int Tryz.underlying63 _ _), ⟨_, _, _, _, rfl, rfl, Tryz.isAgg3, (EqV.int Tryz.underlying3 _ _), ⟨_, _, _, _, rfl, rfl, Tryz.isAgg3, (EqV.int Tryz.underlying3 _ _), ⟨_, _, _, _, rfl, rfl, Tryz.isAgg2, (EqV.int Tryz.underlying2 _ _), rfl, rfl⟩, rfl⟩, rfl⟩, rfl⟩)) ?_
   refine XD.nil ?_; refine X.part 52 rfl (fun z1 => ?_) (fun z1 => ?_)
   · replace z1 := sp z1
     refine xx 5 ?_; refine X.sb [4, 5, 2, 3] ?_; refine X.retL (q) Tryz.func57 (res1 Tryz.results57 rfl) ⟨_, rfl, false, rfl, ⟨fun e => (by cases e), fun e => (by exfalso; simp only [Cod.pl, Prod.mk.injEq] at e; obtain ⟨e1, e2, e3, e4⟩ := e; have e5 : x.ins[s] = y.ins[s] := (by simp only [e3]); rw [e5] at z1; simp at z1)⟩, rfl⟩
   replace z1 := sp z1
   refine xx 8 ?_; refine X.sb [5, 2, 3, 4] ?_; refine X.at (ih (s + 1) ⟨by omega, fun i g1 g2 g3 => by rcases Nat.lt_or_ge i s with e | e; exact hP i g1 g2 e; obtain rfl : i = s := (by omega); exact Ins.ext4 z1.1 z1.2.1 z1.2.2.1 z1.2.2.2⟩ (by omega)) subA leA
 replace h0 := sp h0
 refine xx 6 ?_
 have hins : x.ins = y.ins := list_eq_of hll.2.2.1 (fun i g1 g2 => hP i g1 g2 (by omega))
 refine X.retL (q) Tryz.func57 (res1 Tryz.results57 rfl) ⟨_, rfl, true, rfl, ⟨fun _ => by unfold Cod.pl; rw [hll.1, hll.2.1, hins, hll.2.2.2], fun _ => rfl⟩, rfl⟩
set_option maxHeartbeats 4000000 in
theorem same06_ok (hx : MdlQ q m) (hy : MdlQ q m2) : CallF Tryz.prog G 30 [.agg (mdlC m).toArray, .agg (mdlC m2).toArray] (q) (Ret fun v q' => ∃ bb : Bool, v = .bool bb ∧ (bb = true ↔ m.pl = m2.pl) ∧ q' = q) := by
 refine CallF.of Tryz.func30 Tryz.ntmps30 rfl (fun F cs => ?_)
 have k1 := hx.nv; have k2 := hx.na; have k3 := hx.nc; have k4 := hx.nt; have k5 := hy.nv; have k6 := hy.na; have k7 := hy.nc; have k8 := hy.nt; have hl1 := flatMap_len (f := codC) (sz := 4) (fun _ => rfl) m.threads; have hl2 := flatMap_len (f := codC) (sz := 4) (fun _ => rfl) m2.threads
 refine xo 2 ?_; refine XO.bx fun n1 => ?_
 refine XO.bx fun n2 => ?_
 refine oo 6 ?_; refine ld ?_; refine oo 2 ?_; refine ld ?_; refine oo 3 ?_; refine XO.sb [14, 4, 3, 2] ?_
 apply XO.cutOr 7 21 14 rfl
 · intro g1 M1; have h1 := sp g1
   refine oo 1 ?_; refine ld ?_; refine oo 1 ?_; refine ld ?_; refine XO.cR Tryz.call56 (ints06_ok (hx.a.le leA) (hy.a.le leA) ⟨k2, k6⟩) ?_
   refine XO.pu (Pu.not rfl) ?_; refine oo 1 ?_; exact XO.fin M1 ⟨orF g1, subB⟩
 · intro g1 M1; have h1 := sp g1
   refine oo 7 ?_; exact XO.fin M1 ⟨orT g1, subB⟩
 refine oo 1 ?_; refine XO.sb [22, 4, 3, 2] ?_
 apply XO.cutOr 7 29 22 rfl
 · intro g1 M1; have h1 := sp g1
   refine oo 1 ?_; refine ld ?_; refine oo 1 ?_; refine ld ?_; refine XO.cR Tryz.call56 (ints06_ok (hx.c.le leA) (hy.c.le leA) ⟨k3, k7⟩) ?_
   refine XO.pu (Pu.not rfl) ?_; refine oo 1 ?_; exact XO.fin M1 ⟨orF g1, subB⟩
 · intro g1 M1; have h1 := sp g1
   refine oo 7 ?_; exact XO.fin M1 ⟨orT g1, subB⟩
 refine oo 1 ?_; refine XO.sb [30, 4, 3, 2] ?_
 apply XO.cutOr 6 36 30 rfl
 · intro g1 M1; have h1 := sp g1
   refine oo 1 ?_; refine ld ?_; refine oo 1 ?_; refine ld ?_; refine oo 2 ?_; exact XO.fin M1 ⟨orF g1, subB⟩
 · intro g1 M1; have h1 := sp g1
   refine oo 6 ?_; exact XO.fin M1 ⟨orT g1, subB⟩
 refine oo 1 ?_; refine XO.sb [37, 4, 3, 2] ?_
 apply XO.cutOr 6 43 37 rfl
 · intro g1 M1; have h1 := sp g1
   refine oo 1 ?_; refine ld ?_; refine oo 1 ?_; refine ld ?_; refine oo 2 ?_; exact XO.fin M1 ⟨orF g1, subB⟩
 · intro g1 M1; have h1 := sp g1
   refine oo 6 ?_; exact XO.fin M1 ⟨orT g1, subB⟩
 refine oo 1 ?_; refine XO.sb [44, 4, 3, 2] ?_
 apply XO.cutOr 8 52 44 rfl
 · intro g1 M1; have h1 := sp g1
   refine oo 1 ?_; refine ld ?_; refine oo 2 ?_; refine ld ?_; refine oo 3 ?_; exact XO.fin M1 ⟨orF g1, subB⟩
 · intro g1 M1; have h1 := sp g1
   refine oo 8 ?_; exact XO.fin M1 ⟨orT g1, subB⟩
 refine ox 1 ?_; refine X.part 52 rfl (fun h1 => ?_) (fun h1 => ?_)
 · replace h1 := sp h1
   refine xx 5 ?_; refine X.sb [4, 3, 2] ?_; refine X.retL (q) Tryz.func30 (res1 Tryz.results30 rfl) ⟨_, rfl, false, rfl, ⟨fun e => (by cases e), fun e => (by exfalso; simp only [Mdl.pl, Prod.mk.injEq] at e; obtain ⟨e1, e2, e3, e4, e5, e6⟩ := e; have e7 := congrArg List.length e6; rw [List.length_map, List.length_map] at e7; rw [e1] at h1; simp [e2, e3, e4, e5, e7] at h1)⟩, rfl⟩
 replace h1 := sp h1
 refine xx 8 ?_; refine X.sb [5, 4, 3, 2] ?_
 have hll : m.vars.length = m2.vars.length ∧ m.arrays = m2.arrays ∧ m.chans = m2.chans ∧ m.mutexes = m2.mutexes ∧ m.conds = m2.conds ∧ m.threads.length = m2.threads.length := ⟨by omega, h1.1.1.1.1.2, h1.1.1.1.2, h1.1.1.2, h1.1.2, by omega⟩
 refine X.at (X.loop (fun (s : Nat) => s ≤ m.vars.length ∧ ∀ i (g1 : i < m.vars.length) (g2 : i < m2.vars.length), i < s → m.vars[i] = m2.vars[i]) (fun s => [(5, .int .i64 (s : Int)), (2, .pointer (some ⟨n1, 0, none⟩)), (3, .pointer (some ⟨n2, 0, none⟩)), (4, .bool false)]) (fun s => pto n1 (.cells (mdlC m).toArray 26 (0, 0)) :: pto n2 (.cells (mdlC m2).toArray 26 (0, 0)) :: (q ++ F)) (fun s => m.vars.length - s) (fun s hi_ ih => ?_) 0 ⟨Nat.zero_le _, fun i _ _ h => absurd h (Nat.not_lt_zero i)⟩) subA leA
 try dsimp only at hi_ ih ⊢
 obtain ⟨hs0, hP⟩ := hi_
 refine xo 5 ?_; refine ld ?_; refine ox 3 ?_; refine X.part 57 rfl (fun h0 => ?_) (fun h0 => ?_)
 · replace h0 := sp h0; have hk1 : s < m.vars.length := (by omega); have hk2 : s < m2.vars.length := (by omega)
   refine xx 5 ?_; refine drw ?_; refine dd [0] ?_; refine ldD 1 ?_; refine dd [2] ?_; refine XD.adr hx.v (by rw [List.length_map]; omega) (fun b1 o1 e1 => ?_)
   have hs1 := hx.v; rw [e1] at hs1
   refine XD.know 61 (.slice (some ⟨b1, o1, none⟩) m.vars.length m.vc) rfl (by rw [e1]) ?_
   refine dd [3] ?_; refine ldD 4 ?_ (hc := (Cl.e1 hs1 leA hk1 rfl))
   refine dd [5] ?_; refine ldD 6 ?_; refine dd [7] ?_; refine XD.adr hy.v (by rw [List.length_map]; omega) (fun b2 o2 e2 => ?_)
   have hs2 := hy.v; rw [e2] at hs2
   refine XD.know 66 (.slice (some ⟨b2, o2, none⟩) m2.vars.length m2.vc) rfl (by rw [e2]) ?_
   refine dd [8] ?_; refine ldD 9 ?_ (hc := (Cl.e1 hs2 leA hk2 rfl))
   refine dd [10] ?_; refine XD.nil ?_; refine X.part 70 rfl (fun z1 => ?_) (fun z1 => ?_)
   · replace z1 := sp z1
     refine xx 5 ?_; refine X.sb [4, 5, 2, 3] ?_; refine X.retL (q) Tryz.func30 (res1 Tryz.results30 rfl) ⟨_, rfl, false, rfl, ⟨fun e => (by cases e), fun e => (by exfalso; simp only [Mdl.pl, Prod.mk.injEq] at e; obtain ⟨e1, e2, e3, e4, e5, e6⟩ := e; have e7 := congrArg List.length e6; rw [List.length_map, List.length_map] at e7; apply z1; simp only [e1])⟩, rfl⟩
   replace z1 := sp z1
   refine xx 8 ?_; refine X.sb [5, 2, 3, 4] ?_; refine X.at (ih (s + 1) ⟨by omega, fun i g1 g2 g3 => by rcases Nat.lt_or_ge i s with e | e; exact hP i g1 g2 e; obtain rfl : i = s := (by omega); exact z1⟩ (by omega)) subA leA
 replace h0 := sp h0; have hv : m.vars = m2.vars := list_eq_of hll.1 (fun i g1 g2 => hP i g1 g2 (by omega)); clear ih hP h0
 refine xx 8 ?_; refine X.at (X.loop (fun (s : Nat) => s ≤ m.threads.length ∧ ∀ i (g1 : i < m.threads.length) (g2 : i < m2.threads.length), i < s → m.threads[i].pl = m2.threads[i].pl) (fun s => [(6, .int .i64 (s : Int)), (2, .pointer (some ⟨n1, 0, none⟩)), (3, .pointer (some ⟨n2, 0, none⟩)), (4, .bool false)]) (fun s => pto n1 (.cells (mdlC m).toArray 26 (0, 0)) :: pto n2 (.cells (mdlC m2).toArray 26 (0, 0)) :: (q ++ F)) (fun s => m.threads.length - s) (fun s hi_ ih => ?_) 0 ⟨Nat.zero_le _, fun i _ _ h => absurd h (Nat.not_lt_zero i)⟩) subA leA
 try dsimp only at hi_ ih ⊢
 obtain ⟨hs0, hP⟩ := hi_
 refine xo 5 ?_; refine ld ?_; refine ox 3 ?_; refine X.part 75 rfl (fun h0 => ?_) (fun h0 => ?_)
 · replace h0 := sp h0; have hk1 : s < m.threads.length := (by omega); have hk2 : s < m2.threads.length := (by omega)
   refine xx 5 ?_; refine drw ?_; refine dd [0] ?_; refine ldD 1 ?_; refine dd [2] ?_; refine XD.adr hx.t (by rw [hl1]; omega) (fun bv ov ev => ?_)
   have hsv := hx.t; rw [ev] at hsv
   refine XD.know 79 (.slice (some ⟨bv, ov, none⟩) m.threads.length m.tc) rfl (by rw [ev]) ?_
   refine dd [3] ?_; refine XD.ldS 4 (m := s) Tryz.isAgg47 Tryz.sizeOf47 hsv hk1 ?_
   refine dd [5] ?_; refine ldD 6 ?_; refine dd [7] ?_; refine XD.adr hy.t (by rw [hl2]; omega) (fun bw ow ew => ?_)
   have hsw := hy.t; rw [ew] at hsw
   refine XD.know 84 (.slice (some ⟨bw, ow, none⟩) m2.threads.length m2.tc) rfl (by rw [ew]) ?_
   refine dd [8] ?_; refine XD.ldS 9 (m := s) Tryz.isAgg47 Tryz.sizeOf47 hsw hk2 ?_
   refine XD.cX 10 Tryz.call57 (Le.refl _) (sameCode_ok (x := m.threads[s]) (y := m2.threads[s]) ((hx.x _ (List.getElem_mem hk1)).le leA) ((hy.x _ (List.getElem_mem hk2)).le leA)) ?_
   rintro _ _ ⟨bb, rfl, hbb, rfl⟩
   refine ⟨(hlA (h := by repeat first | exact trivial | refine ⟨clA, ?_⟩ | refine ⟨Cl.row hsv leA (fun _ => rfl) hk1 rfl 0 _ rfl, ?_⟩ | refine ⟨Cl.row hsv leA (fun _ => rfl) hk1 rfl 1 _ rfl, ?_⟩ | refine ⟨Cl.row hsv leA (fun _ => rfl) hk1 rfl 2 _ rfl, ?_⟩ | refine ⟨Cl.row hsv leA (fun _ => rfl) hk1 rfl 3 _ rfl, ?_⟩ | refine ⟨Cl.row hsw leA (fun _ => rfl) hk2 rfl 0 _ rfl, ?_⟩ | refine ⟨Cl.row hsw leA (fun _ => rfl) hk2 rfl 1 _ rfl, ?_⟩ | refine ⟨Cl.row hsw leA (fun _ => rfl) hk2 rfl 2 _ rfl, ?_⟩ | refine ⟨Cl.row hsw leA (fun _ => rfl) hk2 rfl 3 _ rfl, ?_⟩)), ?_⟩
   refine XD.pu 11 rfl (Pu.not rfl) ?_; refine XD.nil ?_; refine X.part 89 rfl (fun z1 => ?_) (fun z1 => ?_)
   · replace z1 := sp z1
     refine xx 5 ?_; refine X.sb [4, 6, 2, 3] ?_; refine X.retL (q) Tryz.func30 (res1 Tryz.results30 rfl) ⟨_, rfl, false, rfl, ⟨fun e => (by cases e), fun e => (by exfalso; simp only [Mdl.pl, Prod.mk.injEq] at e; obtain ⟨e1, e2, e3, e4, e5, e6⟩ := e; have e7 := congrArg List.length e6; rw [List.length_map, List.length_map] at e7; have e8 : (m.threads.map Cod.pl)[s]'(by simpa using hk1) = (m2.threads.map Cod.pl)[s]'(by simpa using hk2) := (by simp only [e6]); rw [List.getElem_map, List.getElem_map] at e8; rw [hbb.2 e8] at z1; cases z1)⟩, rfl⟩
   replace z1 := sp z1
   refine xx 8 ?_; refine X.sb [6, 2, 3, 4] ?_; refine X.at (ih (s + 1) ⟨by omega, fun i g1 g2 g3 => by rcases Nat.lt_or_ge i s with e | e; exact hP i g1 g2 e; obtain rfl : i = s := (by omega); exact hbb.1 z1⟩ (by omega)) subA leA
 replace h0 := sp h0; have ht : m.threads.map Cod.pl = m2.threads.map Cod.pl := list_eq_of (by rw [List.length_map, List.length_map]; exact hll.2.2.2.2.2) (fun i g1 g2 => by rw [List.getElem_map, List.getElem_map]; exact hP i (by simpa using g1) (by simpa using g2) (by have : i < m.threads.length := (by simpa using g1); omega))
 refine xx 6 ?_; refine X.retL (q) Tryz.func30 (res1 Tryz.results30 rfl) ⟨_, rfl, true, rfl, ⟨fun _ => by unfold Mdl.pl; rw [hv, hll.2.1, hll.2.2.1, hll.2.2.2.1, hll.2.2.2.2.1, ht], fun _ => rfl⟩, rfl⟩
theorem num_ok  : CallF Tryz.prog G 26 [.int .i64 cd] (q) (Ret fun v q' => v = .int .i64 cd ∧ q' = q) := by
 refine CallF.of Tryz.func26 Tryz.ntmps26 rfl (fun F cs => ?_)
 refine xx 9 ?_; refine X.retL (q) Tryz.func26 (res1 Tryz.results26 rfl) ⟨_, rfl, rfl, rfl⟩
set_option maxHeartbeats 2000000 in
theorem few_ok (hq : MdlQ q m) : CallF Tryz.prog G 7 [.agg (mdlC m).toArray] (q) (Ret fun v q' => ∃ bb : Bool, v = .bool bb ∧ q' = q) := by
 refine CallF.of Tryz.func7 Tryz.ntmps7 rfl (fun F cs => ?_)
 have hlen := flatMap_len (f := codC) (sz := 4) (fun _ => rfl) m.threads; have hnt := hq.nt; have h1_ := hq.nv; have h2_ := hq.na; have h3_ := hq.nc
 refine xo 2 ?_; refine XO.bx fun n1 => ?_
 refine ox 8 ?_; refine X.at (X.loop (fun (s : Nat) => s ≤ m.threads.length) (fun s => [(3, .int .i64 (s : Int)), (1, .pointer (some ⟨n1, 0, none⟩)), (2, .bool false)]) (fun s => pto n1 (.cells (mdlC m).toArray 26 (0, 0)) :: (q ++ F)) (fun s => m.threads.length - s) (fun s hi_ ih => ?_) 0 (Nat.zero_le _)) subA leA
 try dsimp only at hi_ ih ⊢
 obtain hs0 := hi_
 refine xo 5 ?_; refine ld ?_; refine ox 3 ?_; refine X.part 8 rfl (fun h0 => ?_) (fun h0 => ?_)
 · replace h0 := sp h0; have hth : s < m.threads.length := (by omega)
   refine X.adr hq.t (by rw [hlen]; omega) (fun b1 o1 e1 => ?_); have hs1 := hq.t; rw [e1] at hs1
   refine xo 7 ?_; refine ld ?_; refine oo 1 ?_; refine XO.know 12 (.slice (some ⟨b1, o1, none⟩) m.threads.length m.tc) rfl (by rw [e1]) ?_
   refine oo 2 ?_; refine ld ?_ (hc := (Cl.row (j := (s : Int)) hs1 leA (fun _ => rfl) hth rfl 2 _ rfl))
   refine oo 3 ?_; refine XO.sb [19, 3, 1, 2] ?_
   apply XO.cutOr 9 28 19 rfl
   · intro g1 M1; have z1 := sp g1
     refine oo 1 ?_; refine ld ?_; refine oo 1 ?_; refine XO.know 21 (.slice (some ⟨b1, o1, none⟩) m.threads.length m.tc) rfl (by rw [e1]) ?_
     refine oo 2 ?_; refine ld ?_ (hc := (Cl.row (j := (s : Int)) hs1 leA (fun _ => rfl) hth rfl 3 _ rfl))
     refine oo 3 ?_; exact XO.fin M1 ⟨orF g1, subB⟩
   · intro g1 M1; have z1 := sp g1
     refine oo 9 ?_; exact XO.fin M1 ⟨orT g1, subB⟩
   refine oo 1 ?_; refine XO.sb [29, 3, 1, 2] ?_
   apply XO.cutOr 9 38 29 rfl
   · intro g1 M1; have z1 := sp g1
     refine oo 1 ?_; refine ld ?_; refine oo 1 ?_; refine XO.know 31 (.slice (some ⟨b1, o1, none⟩) m.threads.length m.tc) rfl (by rw [e1]) ?_
     refine oo 2 ?_; refine ld ?_ (hc := (Cl.row (j := (s : Int)) hs1 leA (fun _ => rfl) hth rfl 0 _ rfl))
     refine oo 3 ?_; exact XO.fin M1 ⟨orF g1, subB⟩
   · intro g1 M1; have z1 := sp g1
     refine oo 9 ?_; exact XO.fin M1 ⟨orT g1, subB⟩
   refine ox 1 ?_; refine X.sb [38, 3, 1, 2] ?_; refine X.part 38 rfl (fun z1 => ?_) (fun z1 => ?_)
   · replace z1 := sp z1
     refine xx 5 ?_; refine X.retL (q) Tryz.func7 (res1 Tryz.results7 rfl) ⟨_, rfl, _, rfl, rfl⟩
   replace z1 := sp z1
   refine xx 8 ?_; refine X.at (ih (s + 1) (by omega) (by omega)) subA leA
 refine xo 5 ?_; refine ld ?_; refine oo 3 ?_; refine XO.sb [43, 1, 2] ?_
 apply XO.cutAnd 5 48 43 rfl
 · intro g1 M1; have h1 := sp g1
   refine oo 1 ?_; refine ld ?_; refine oo 3 ?_; exact XO.fin M1 ⟨andT g1, subB⟩
 · intro g1 M1; have h1 := sp g1
   refine oo 5 ?_; exact XO.fin M1 ⟨andF g1, subB⟩
 refine oo 1 ?_; refine XO.sb [49, 1, 2] ?_
 apply XO.cutAnd 5 54 49 rfl
 · intro g1 M1; have h1 := sp g1
   refine oo 1 ?_; refine ld ?_; refine oo 3 ?_; exact XO.fin M1 ⟨andT g1, subB⟩
 · intro g1 M1; have h1 := sp g1
   refine oo 5 ?_; exact XO.fin M1 ⟨andF g1, subB⟩
 refine oo 1 ?_; refine XO.sb [55, 1, 2] ?_
 apply XO.cutAnd 5 60 55 rfl
 · intro g1 M1; have h1 := sp g1
   refine oo 1 ?_; refine ld ?_; refine oo 3 ?_; exact XO.fin M1 ⟨andT g1, subB⟩
 · intro g1 M1; have h1 := sp g1
   refine oo 5 ?_; exact XO.fin M1 ⟨andF g1, subB⟩
 refine ox 2 ?_; refine X.retL (q) Tryz.func7 (res1 Tryz.results7 rfl) ⟨_, rfl, _, rfl, rfl⟩
end
section
variable {α : Type} {P : Program} {G : World} {p : PE} {q : List HP} {sz ty : Nat} {d : Option Tmp} {ty' : TypeId} {pos : String} {af : Array Edge} {gd : Option (Nat × Bool)} {t : TypeId} {z : Value} {bytes n : Nat} {ps : List (Nat × Operand)}
theorem fill_rowsT {f : α → List Value} (hf : ∀ x, (f x).length = sz) : ∀ (l : List α) (k : Nat) (pre post : List Value), pre.length = k * sz → l.length * sz ≤ post.length → Instr.fill (fun i => some (i * sz, sz)) (pre ++ post).toArray ((List.range' k l.length).zip (l.map fun u => Value.agg (f u).toArray)) = some (pre ++ l.flatMap f ++ post.drop (l.length * sz)).toArray
 | [], k, pre, post, _, _ => by simp [Instr.fill]
 | u :: r, k, pre, post, h1, h2 => by
  rw [List.length_cons, Nat.add_mul, Nat.one_mul] at h2
  have hc : (Value.agg (f u).toArray).cells = (f u).toArray := rfl
  have e1 : ∀ (off : Nat) (us : List Value) (A : Array Value), (us.toArray.zipIdx).foldl (fun cs (c, i) => cs.setIfInBounds (off + i) c) A = (us.zipIdx 0).foldl (fun cs (c, i) => cs.setIfInBounds (off + i) c) A := by intro off us A; simp
  have k1 := (e1 (k * sz) (f u) _).trans (fill_row (k * sz) (f u) 0 pre post (by simpa using h1) (by rw [hf]; omega))
  have ih := fill_rowsT hf r (k + 1) (pre ++ f u) (post.drop (f u).length) (by rw [List.length_append, h1, hf, Nat.add_mul, Nat.one_mul]) (by rw [List.length_drop, hf]; omega)
  rw [List.length_cons, List.range'_succ, List.map_cons, List.zip_cons_cons]
  simp only [Instr.fill, hc]
  rw [if_neg (by simp [hf]; omega), k1, ih]
  simp only [List.flatMap_cons, List.append_assoc, List.drop_drop, hf]
  congr 4
  rw [Nat.add_mul, Nat.one_mul, Nat.add_comm]
theorem Ef.litRnT (f : α → List Value) (l : List α) (ht : P.underlying t = some (.slice ty)) (hi : (P.info? ty).map (fun i => (i.zero, i.size, i.bytes)) = some (some z, sz, bytes)) (h1 : Nat.ble (n * sz) 16777216 = true) (h0 : Nat.blt 0 sz = true)
 (hf : ∀ x, (f x).length = sz) (hv : evl p (ps.map (·.2)) = some (l.map fun u => Value.agg (f u).toArray)) (hx : ps.map (·.1) = List.range' 0 n) (hn : l.length = n) (h2 : Nat.blt 0 n = true) :
 Ef P G p q ⟨d, .buildSlice t n ps.toArray, ty', pos, af, gd⟩ fun v q' => ∃ g, v = .slice (some ⟨g, 0, none⟩) n n ∧ q' = Wx.rsH f sz ty (some ⟨g, 0, none⟩) n l :: q := by
 subst hn
 have h0' : 0 < sz := by simpa [Nat.blt_eq] using h0
 have h2' : 0 < l.length := by simpa [Nat.blt_eq] using h2
 have hfill : Instr.fill (fun i => some (i * sz, sz)) ((Array.range (l.length * sz)).map (z.cells[· % z.cells.size]!)) ((ps.map (·.1)).zip (l.map fun u => Value.agg (f u).toArray)) = some (l.flatMap f).toArray := by
  rw [hx]
  have := fill_rowsT hf l 0 [] ((Array.range (l.length * sz)).map (z.cells[· % z.cells.size]!)).toList (by simp) (by simp)
  rw [List.nil_append, List.nil_append, Array.toArray_toList, List.drop_eq_nil_of_le (by simp), List.append_nil] at this
  exact this
 have := Ef.buildSlice (P := P) (G := G) (p := p) (q := q) (d := d) (ty := ty') (pos := pos) (af := af) (gd := gd) (ps := ps) (len := l.length) ht hi hv (by simpa using h1) (by rw [Nat.blt_eq]; exact Nat.mul_pos h2' h0') hfill (flatMap_len hf l)
 simpa [Wx.rsH] using this
end
def modk (xs : List Ins) (a : Option Addr) (c : Nat) (g0 g1 : Nat) : Mdl := ⟨[], [], [], 0, 0, [⟨⟨#[109, 97, 105, 110]⟩, 0, xs, List.replicate xs.length 0, a, c, some ⟨g0, 0, none⟩, xs.length⟩], none, 0, none, 0, none, 0, some ⟨g1, 0, none⟩, 1⟩
section
variable {G : World} {q : List HP} {a b A : Option Addr} {c d : Nat} {cd : Int} {l : List Ins} {ln : List Int} {o : List Bool}
variable {nt : Nat} {nm : ByteArray} {lo : Int} {ia la wa : Option Addr} {ic lc wc : Nat} {I : List Ins} {L W : List Int}
variable {m m2 : Mdl} {x y : Cod} {j k : List Int}
variable {xs ys : List Ins}
theorem code19_ok (hL : xs.length ≤ 1000) : CallF Tryz.prog G 33 [.slice a xs.length c] (q) (Ret fun v q' => ∃ g0 g1, v = .agg (mdlC (modk xs a c g0 g1)).toArray ∧ q' = rsH codC 4 47 (some ⟨g1, 0, none⟩) 1 (modk xs a c g0 g1).threads :: lsH I64 3 (some ⟨g0, 0, none⟩) xs.length (List.replicate xs.length 0) :: q) := by
 refine CallF.of Tryz.func33 Tryz.ntmps33 rfl (fun F cs => ?_)
 refine xo 2 ?_; refine XO.al Tryz.zeroValue26 fun n1 => ?_
 refine oo 6 ?_; refine XO.ef (Ef.make (n := xs.length) rfl rfl Tryz.underlying23 ginfo3 rfl rfl (by omega) (by omega)) ?_
 rintro _ _ ⟨g0, rfl, rfl⟩
 refine XO.le (q' := lsH I64 3 (some ⟨g0, 0, none⟩) xs.length (List.replicate xs.length 0) :: _) (Le.trans fndA (by rw [← ls_made (f := I64) (u := 0) rfl]; exact Le.refl _)) ?_
 refine oo 1 ?_; refine XO.know 7 (.agg (codC (⟨⟨#[109, 97, 105, 110]⟩, 0, xs, List.replicate xs.length 0, a, c, some ⟨g0, 0, none⟩, xs.length⟩ : Cod)).toArray) rfl (by simp [codC]) ?_
 refine XO.ef (Ef.litR1 (u := (⟨⟨#[109, 97, 105, 110]⟩, 0, xs, List.replicate xs.length 0, a, c, some ⟨g0, 0, none⟩, xs.length⟩ : Cod)) codC Tryz.underlying24 ginfo47 rfl rfl (fun _ => rfl) rfl) ?_
 rintro _ _ ⟨g1, rfl, rfl⟩
 refine oo 1 ?_; refine stA ?_; refine ox 1 ?_; refine X.retL (rsH codC 4 47 (some ⟨g1, 0, none⟩) 1 (modk xs a c g0 g1).threads :: lsH I64 3 (some ⟨g0, 0, none⟩) xs.length (List.replicate xs.length 0) :: q) Tryz.func33 (resC1 Tryz.results33 (ResOk.cell rfl (LV.agg Tryz.isAgg26 Tryz.sizeOf26 hasA rfl) ResOk.nil)) ⟨_, rfl, g0, g1, rfl, rfl⟩
theorem modk_q {g0 g1 : Nat} {r1 r2 : List HP} (hs : Sees q a (xs.flatMap insC)) (hL : xs.length ≤ 1000) (h1 : Le q (rsH codC 4 47 (some ⟨g1, 0, none⟩) 1 (modk xs a c g0 g1).threads :: r1)) (h2 : Le q (lsH I64 3 (some ⟨g0, 0, none⟩) xs.length (List.replicate xs.length 0) :: r2)) : MdlQ q (modk xs a c g0 g1) :=
 ⟨Sees.nil _ _, Sees.nil _ _, Sees.nil _ _, (Sees.rsH _).le h1, fun x hx => by
  obtain rfl := List.mem_singleton.1 hx
  exact ⟨hs, (Sees.lsH _).le h2, (show 4 ≤ 9223372036854775807 by decide), by dsimp only; omega, by dsimp only; rw [List.length_replicate]; omega⟩, Nat.zero_le _, Nat.zero_le _, Nat.zero_le _, (show 1 ≤ 9223372036854775807 by decide), Nat.zero_le _⟩
theorem modk_pl {m' : Mdl} {a2 : Option Addr} {c2 g0 g1 g2 g3 : Nat} (h : TigM (modk xs a c g0 g1) m') (e : tiI xs = ys) (e2 : tiL xs (List.replicate xs.length (0 : Int)) = List.replicate ys.length 0) : m'.pl = (modk ys a2 c2 g2 g3).pl := by
 unfold Mdl.pl
 rw [h.v, h.a, h.c, h.mu, h.co, h.t]
 simp only [modk, List.map_cons, List.map_nil, tigT, Cod.pl, e, e2]
theorem tk_v0 (a : Option Addr) (c g0 g1 : Nat) : vchk (modk [⟨19, 2, 0, 0⟩, ⟨34, 0, 0, 0⟩, ⟨19, 1, 0, 0⟩] a c g0 g1) = 0 := by kernel_rfl
theorem tk_i0 : tiI [⟨19, 2, 0, 0⟩, ⟨34, 0, 0, 0⟩, ⟨19, 1, 0, 0⟩] = [⟨34, 0, 0, 0⟩] := by kernel_rfl
theorem tk_l0 : tiL [⟨19, 2, 0, 0⟩, ⟨34, 0, 0, 0⟩, ⟨19, 1, 0, 0⟩] (List.replicate 3 (0 : Int)) = List.replicate 1 0 := by kernel_rfl
theorem tk_v1 (a : Option Addr) (c g0 g1 : Nat) : vchk (modk [⟨1, 0, 0, 1⟩, ⟨20, 3, 0, 0⟩, ⟨34, 0, 0, 0⟩, ⟨19, 2, 0, 0⟩] a c g0 g1) = 0 := by kernel_rfl
theorem tk_i1 : tiI [⟨1, 0, 0, 1⟩, ⟨20, 3, 0, 0⟩, ⟨34, 0, 0, 0⟩, ⟨19, 2, 0, 0⟩] = [⟨1, 0, 0, 1⟩, ⟨20, 2, 0, 0⟩, ⟨34, 0, 0, 0⟩] := by kernel_rfl
theorem tk_l1 : tiL [⟨1, 0, 0, 1⟩, ⟨20, 3, 0, 0⟩, ⟨34, 0, 0, 0⟩, ⟨19, 2, 0, 0⟩] (List.replicate 4 (0 : Int)) = List.replicate 3 0 := by kernel_rfl
theorem tk_v2 (a : Option Addr) (c g0 g1 : Nat) : vchk (modk [⟨19, 0, 0, 0⟩] a c g0 g1) = 0 := by kernel_rfl
theorem tk_i2 : tiI [⟨19, 0, 0, 0⟩] = [⟨19, 0, 0, 0⟩] := by kernel_rfl
theorem tk_l2 : tiL [⟨19, 0, 0, 0⟩] (List.replicate 1 (0 : Int)) = List.replicate 1 0 := by kernel_rfl
theorem jump19_ok  : CallF Tryz.prog G 34 [.int .i64 cd] (q) (Ret fun v q' => v = .agg (insC ⟨19, cd, 0, 0⟩).toArray ∧ q' = q) := by
 refine CallF.of Tryz.func34 Tryz.ntmps34 rfl (fun F cs => ?_)
 refine xo 2 ?_; refine XO.al Tryz.zeroValue65 fun n1 => ?_
 refine oo 5 ?_; refine stA ?_; refine ox 1 ?_; refine X.retL (q) Tryz.func34 (resC1 Tryz.results34 (ResOk.cell rfl (LV.agg Tryz.isAgg65 Tryz.sizeOf65 hasA rfl) ResOk.nil)) ⟨_, rfl, rfl, rfl⟩
set_option maxHeartbeats 2000000 in
theorem is19_ok (gc : GC q) (g : GE q) (hq : MdlQ q m) (hv : vchk m = 0) (hs : Sees q a (ys.flatMap insC)) (hL : ys.length ≤ 1000) (he : ∀ m', TigM m m' → ∀ g2 g3, m'.pl = (modk ys a c g2 g3).pl) : CallF Tryz.prog G 32 [.agg (mdlC m).toArray, .slice a ys.length c] (q) (Ret fun v q' => v = .bool true ∧ q' = q) := by
 refine CallF.of Tryz.func32 Tryz.ntmps32 rfl (fun F cs => ?_)
 refine xo 2 ?_; refine XO.bx fun n1 => ?_
 refine oo 4 ?_; refine ldA ?_; refine XO.cX Tryz.call24 (Le.refl _) (Module_ok (m := m) (gc.le leA) (g.le leA) (hq.le leA)) ?_
 rintro _ _ (⟨hz, rfl, rfl⟩ | ⟨_, m2, hT, hB, rfl, rfl⟩)
 · exact absurd hv hz
 refine oo 3 ?_; refine XO.al Tryz.zeroValue26 fun n2 => ?_
 refine stA ?_; refine ox 3 ?_; refine drw ?_; refine dd [0] ?_; refine XD.cRL 1 Tryz.call26 (num_ok) ?_; refine dd [2, 3] ?_; refine XD.kt 15 ?_; refine ldAD 4 ?_; refine dd [5] ?_; refine XD.cX 6 Tryz.call33 (Le.refl _) (code19_ok (xs := ys) (a := a) (c := c) hL) ?_
 rintro _ _ ⟨ga, gb, rfl, rfl⟩
 refine ⟨hlA, ?_⟩
 refine XD.cX 7 Tryz.call30 (Le.refl _) (same06_ok (m := m2) (m2 := modk ys a c ga gb) (Kn.mdl knA hB) (modk_q (hs.le leA) hL fndA fndA)) ?_
 rintro _ _ ⟨bb, rfl, hbb, rfl⟩
 refine ⟨trivial, ?_⟩
 have hbt : bb = true := hbb.2 (he m2 hT ga gb); subst hbt
 refine dd [8, 9] ?_; refine XD.nil ?_; refine X.retL (q) Tryz.func32 (res1 Tryz.results32 rfl) ⟨_, rfl, rfl, rfl⟩
set_option maxHeartbeats 8000000 in
theorem known19_ok (gc : GC q) (g : GE q) : CallF Tryz.prog G 10 [] (q) (Ret fun v q' => v = .bool true ∧ q' = q) := by
 refine CallF.of Tryz.func10 Tryz.ntmps10 rfl (fun F cs => ?_)
 refine xo 9 ?_; refine XO.al Tryz.zeroValue65 fun n1 => ?_
 refine XO.al Tryz.zeroValue65 fun n2 => ?_
 refine XO.al Tryz.zeroValue65 fun n3 => ?_
 refine stA ?_; refine stA ?_; refine stA ?_; refine oo 3 ?_; refine ldA ?_; refine XO.al Tryz.zeroValue65 fun n4 => ?_
 refine stA ?_; refine oo 4 ?_; refine st ?_; refine ox 1 ?_; refine X.le (q' := pto n1 (.cells [.int .i64 34, .int .i64 0, .int .i64 0, .int .i64 0].toArray 65 (0, 0)) :: pto n2 (.cells [.int .i64 1, .int .i64 0, .int .i64 0, .int .i64 1].toArray 65 (0, 0)) :: pto n3 (.cells [.int .i64 20, .int .i64 3, .int .i64 0, .int .i64 0].toArray 65 (0, 0)) :: pto n4 (.cells [.int .i64 20, .int .i64 2, .int .i64 0, .int .i64 0].toArray 65 (0, 0)) :: (q ++ F)) leA ?_
 refine xx 1 ?_; refine drw ?_; refine ldAD 1 ?_; refine ldAD 5 ?_; refine XD.float (fl := [⟨6, 16, fun g => .slice (some ⟨g, 0, none⟩) 1 1, fun g => rsH insC 4 65 (some ⟨g, 0, none⟩) 1 ([⟨34, 0, 0, 0⟩])⟩]) ?_
 refine XF.cX 0 ⟨⟨_, rfl, rfl, rfl, rfl, rfl, rfl, fun q => Ef.litRnT insC [⟨34, 0, 0, 0⟩] Tryz.underlying45 ginfo65 rfl rfl (fun _ => rfl) rfl rfl rfl rfl⟩, trivial⟩ Tryz.call34 (Le.refl _) (jump19_ok) ?_
 rintro _ _ ⟨rfl, rfl⟩
 refine ⟨hlA, ?_⟩
 change XF _ _ _ _ _ _ _ _ [(5, n1, 0, .int .i64 34), (5, n1, 1, .int .i64 0), (5, n1, 2, .int .i64 0), (5, n1, 3, .int .i64 0), (1, n1, 0, .int .i64 34), (1, n1, 1, .int .i64 0), (1, n1, 2, .int .i64 0), (1, n1, 3, .int .i64 0)] _ _ _ _ _ _
 refine XF.cX 2 ⟨⟨_, rfl, rfl, rfl, rfl, rfl, rfl, fun q => Ef.litRnT insC [⟨34, 0, 0, 0⟩] Tryz.underlying45 ginfo65 rfl rfl (fun _ => rfl) rfl rfl rfl rfl⟩, trivial⟩ Tryz.call34 (Le.refl _) (jump19_ok) ?_
 rintro _ _ ⟨rfl, rfl⟩
 refine ⟨hlA, ?_⟩
 change XF _ _ _ _ _ _ _ _ [(5, n1, 0, .int .i64 34), (5, n1, 1, .int .i64 0), (5, n1, 2, .int .i64 0), (5, n1, 3, .int .i64 0), (1, n1, 0, .int .i64 34), (1, n1, 1, .int .i64 0), (1, n1, 2, .int .i64 0), (1, n1, 3, .int .i64 0)] _ _ _ _ _ _
 refine XF.ef 3 ⟨⟨_, rfl, rfl, rfl, rfl, rfl, rfl, fun q => Ef.litRnT insC [⟨34, 0, 0, 0⟩] Tryz.underlying45 ginfo65 rfl rfl (fun _ => rfl) rfl rfl rfl rfl⟩, trivial⟩ (Ef.newE (V := fun g => .slice (some ⟨g, 0, none⟩) 3 3) (A := fun g => rsH insC 4 65 (some ⟨g, 0, none⟩) 3 ([⟨19, 2, 0, 0⟩, ⟨34, 0, 0, 0⟩, ⟨19, 1, 0, 0⟩])) (fun q => Ef.litRnT insC [⟨19, 2, 0, 0⟩, ⟨34, 0, 0, 0⟩, ⟨19, 1, 0, 0⟩] Tryz.underlying45 ginfo65 rfl rfl (fun _ => rfl) rfl rfl rfl rfl)) ?_
 rintro _ _ ⟨gl0, rfl, rfl⟩
 refine ⟨hlA, ?_⟩
 change XF _ _ _ _ _ _ _ _ [(5, n1, 0, .int .i64 34), (5, n1, 1, .int .i64 0), (5, n1, 2, .int .i64 0), (5, n1, 3, .int .i64 0)] _ _ _ _ _ _
 refine XF.cX 4 ⟨⟨_, rfl, rfl, rfl, rfl, rfl, rfl, fun q => Ef.litRnT insC [⟨34, 0, 0, 0⟩] Tryz.underlying45 ginfo65 rfl rfl (fun _ => rfl) rfl rfl rfl rfl⟩, trivial⟩ Tryz.call33 (Le.refl _) (code19_ok (xs := [⟨19, 2, 0, 0⟩, ⟨34, 0, 0, 0⟩, ⟨19, 1, 0, 0⟩]) (by decide)) ?_
 rintro _ _ ⟨ga0, gb0, rfl, rfl⟩
 refine ⟨hlA, ?_⟩
 change XF _ _ _ _ _ _ _ _ [(5, n1, 0, .int .i64 34), (5, n1, 1, .int .i64 0), (5, n1, 2, .int .i64 0), (5, n1, 3, .int .i64 0)] _ _ _ _ _ _
 refine XF.abs (e0 := ⟨6, 16, fun g => .slice (some ⟨g, 0, none⟩) 1 1, fun g => rsH insC 4 65 (some ⟨g, 0, none⟩) 1 ([⟨34, 0, 0, 0⟩])⟩) (hnd := by simp) 6 ⟨⟨_, rfl, rfl, rfl, rfl, rfl, rfl, fun q => Ef.litRnT insC [⟨34, 0, 0, 0⟩] Tryz.underlying45 ginfo65 rfl rfl (fun _ => rfl) rfl rfl rfl rfl⟩, trivial⟩ (fun gl1 => ?_)
 change XF _ _ _ _ _ _ _ [] _ _ _ ((16, .slice (some ⟨gl1, 0, none⟩) 1 1) :: _) _ _ (rsH insC 4 65 (some ⟨gl1, 0, none⟩) 1 ([⟨34, 0, 0, 0⟩]) :: _)
 refine XF.back ?_
 change XD _ _ _ _ _ _ _ [(5, n1, 0, .int .i64 34), (5, n1, 1, .int .i64 0), (5, n1, 2, .int .i64 0), (5, n1, 3, .int .i64 0)] _ _ _ _ _ _
 refine XD.cX 7 Tryz.call32 (Le.refl _) (is19_ok (m := modk [⟨19, 2, 0, 0⟩, ⟨34, 0, 0, 0⟩, ⟨19, 1, 0, 0⟩] (some ⟨gl0, 0, none⟩) 3 ga0 gb0) (ys := [⟨34, 0, 0, 0⟩]) (gc.le leA) (g.le leA) (modk_q (xs := [⟨19, 2, 0, 0⟩, ⟨34, 0, 0, 0⟩, ⟨19, 1, 0, 0⟩]) ((Sees.rsH _).le fndA) (by decide) fndA fndA) (tk_v0 _ _ _ _) ((Sees.rsH _).le fndA) (by decide) (fun m2 h g2 g3 => modk_pl h tk_i0 tk_l0)) ?_
 rintro _ _ ⟨rfl, rfl⟩
 refine ⟨hlA, ?_⟩
 refine XD.le (q' := pto n1 (.cells [.int .i64 34, .int .i64 0, .int .i64 0, .int .i64 0].toArray 65 (0, 0)) :: pto n2 (.cells [.int .i64 1, .int .i64 0, .int .i64 0, .int .i64 1].toArray 65 (0, 0)) :: pto n3 (.cells [.int .i64 20, .int .i64 3, .int .i64 0, .int .i64 0].toArray 65 (0, 0)) :: pto n4 (.cells [.int .i64 20, .int .i64 2, .int .i64 0, .int .i64 0].toArray 65 (0, 0)) :: (q ++ F)) leA ?_
 change XD _ _ _ _ _ _ _ [(5, n1, 0, .int .i64 34), (5, n1, 1, .int .i64 0), (5, n1, 2, .int .i64 0), (5, n1, 3, .int .i64 0)] _ _ _ _ _ _
 refine dd [8] ?_; refine ldAD 9 ?_; refine ldAD 10 ?_; refine ldAD 11 ?_; refine ldAD 15 ?_; refine ldAD 16 ?_; refine ldAD 17 ?_; refine XD.float (fl := [⟨18, 28, fun g => .slice (some ⟨g, 0, none⟩) 3 3, fun g => rsH insC 4 65 (some ⟨g, 0, none⟩) 3 ([⟨1, 0, 0, 1⟩, ⟨20, 2, 0, 0⟩, ⟨34, 0, 0, 0⟩])⟩]) ?_
 refine XF.cX 12 ⟨⟨_, rfl, rfl, rfl, rfl, rfl, rfl, fun q => Ef.litRnT insC [⟨1, 0, 0, 1⟩, ⟨20, 2, 0, 0⟩, ⟨34, 0, 0, 0⟩] Tryz.underlying45 ginfo65 rfl rfl (fun _ => rfl) rfl rfl rfl rfl⟩, trivial⟩ Tryz.call34 (Le.refl _) (jump19_ok) ?_
 rintro _ _ ⟨rfl, rfl⟩
 refine ⟨hlA, ?_⟩
 change XF _ _ _ _ _ _ _ _ [(17, n1, 0, .int .i64 34), (17, n1, 1, .int .i64 0), (17, n1, 2, .int .i64 0), (17, n1, 3, .int .i64 0), (16, n4, 0, .int .i64 20), (16, n4, 1, .int .i64 2), (16, n4, 2, .int .i64 0), (16, n4, 3, .int .i64 0), (15, n2, 0, .int .i64 1), (15, n2, 1, .int .i64 0), (15, n2, 2, .int .i64 0), (15, n2, 3, .int .i64 1), (11, n1, 0, .int .i64 34), (11, n1, 1, .int .i64 0), (11, n1, 2, .int .i64 0), (11, n1, 3, .int .i64 0), (10, n3, 0, .int .i64 20), (10, n3, 1, .int .i64 3), (10, n3, 2, .int .i64 0), (10, n3, 3, .int .i64 0), (9, n2, 0, .int .i64 1), (9, n2, 1, .int .i64 0), (9, n2, 2, .int .i64 0), (9, n2, 3, .int .i64 1), (5, n1, 0, .int .i64 34), (5, n1, 1, .int .i64 0), (5, n1, 2, .int .i64 0), (5, n1, 3, .int .i64 0)] _ _ _ _ _ _
 refine XF.ef 13 ⟨⟨_, rfl, rfl, rfl, rfl, rfl, rfl, fun q => Ef.litRnT insC [⟨1, 0, 0, 1⟩, ⟨20, 2, 0, 0⟩, ⟨34, 0, 0, 0⟩] Tryz.underlying45 ginfo65 rfl rfl (fun _ => rfl) rfl rfl rfl rfl⟩, trivial⟩ (Ef.newE (V := fun g => .slice (some ⟨g, 0, none⟩) 4 4) (A := fun g => rsH insC 4 65 (some ⟨g, 0, none⟩) 4 ([⟨1, 0, 0, 1⟩, ⟨20, 3, 0, 0⟩, ⟨34, 0, 0, 0⟩, ⟨19, 2, 0, 0⟩])) (fun q => Ef.litRnT insC [⟨1, 0, 0, 1⟩, ⟨20, 3, 0, 0⟩, ⟨34, 0, 0, 0⟩, ⟨19, 2, 0, 0⟩] Tryz.underlying45 ginfo65 rfl rfl (fun _ => rfl) rfl rfl rfl rfl)) ?_
 rintro _ _ ⟨gl2, rfl, rfl⟩
 refine ⟨hlA, ?_⟩
 change XF _ _ _ _ _ _ _ _ [(17, n1, 0, .int .i64 34), (17, n1, 1, .int .i64 0), (17, n1, 2, .int .i64 0), (17, n1, 3, .int .i64 0), (16, n4, 0, .int .i64 20), (16, n4, 1, .int .i64 2), (16, n4, 2, .int .i64 0), (16, n4, 3, .int .i64 0), (15, n2, 0, .int .i64 1), (15, n2, 1, .int .i64 0), (15, n2, 2, .int .i64 0), (15, n2, 3, .int .i64 1), (5, n1, 0, .int .i64 34), (5, n1, 1, .int .i64 0), (5, n1, 2, .int .i64 0), (5, n1, 3, .int .i64 0)] _ _ _ _ _ _
 refine XF.cX 14 ⟨⟨_, rfl, rfl, rfl, rfl, rfl, rfl, fun q => Ef.litRnT insC [⟨1, 0, 0, 1⟩, ⟨20, 2, 0, 0⟩, ⟨34, 0, 0, 0⟩] Tryz.underlying45 ginfo65 rfl rfl (fun _ => rfl) rfl rfl rfl rfl⟩, trivial⟩ Tryz.call33 (Le.refl _) (code19_ok (xs := [⟨1, 0, 0, 1⟩, ⟨20, 3, 0, 0⟩, ⟨34, 0, 0, 0⟩, ⟨19, 2, 0, 0⟩]) (by decide)) ?_
 rintro _ _ ⟨ga1, gb1, rfl, rfl⟩
 refine ⟨hlA, ?_⟩
 change XF _ _ _ _ _ _ _ _ [(17, n1, 0, .int .i64 34), (17, n1, 1, .int .i64 0), (17, n1, 2, .int .i64 0), (17, n1, 3, .int .i64 0), (16, n4, 0, .int .i64 20), (16, n4, 1, .int .i64 2), (16, n4, 2, .int .i64 0), (16, n4, 3, .int .i64 0), (15, n2, 0, .int .i64 1), (15, n2, 1, .int .i64 0), (15, n2, 2, .int .i64 0), (15, n2, 3, .int .i64 1), (5, n1, 0, .int .i64 34), (5, n1, 1, .int .i64 0), (5, n1, 2, .int .i64 0), (5, n1, 3, .int .i64 0)] _ _ _ _ _ _
 refine XF.abs (e0 := ⟨18, 28, fun g => .slice (some ⟨g, 0, none⟩) 3 3, fun g => rsH insC 4 65 (some ⟨g, 0, none⟩) 3 ([⟨1, 0, 0, 1⟩, ⟨20, 2, 0, 0⟩, ⟨34, 0, 0, 0⟩])⟩) (hnd := by simp) 18 ⟨⟨_, rfl, rfl, rfl, rfl, rfl, rfl, fun q => Ef.litRnT insC [⟨1, 0, 0, 1⟩, ⟨20, 2, 0, 0⟩, ⟨34, 0, 0, 0⟩] Tryz.underlying45 ginfo65 rfl rfl (fun _ => rfl) rfl rfl rfl rfl⟩, trivial⟩ (fun gl3 => ?_)
 change XF _ _ _ _ _ _ _ [] _ _ _ ((28, .slice (some ⟨gl3, 0, none⟩) 3 3) :: _) _ _ (rsH insC 4 65 (some ⟨gl3, 0, none⟩) 3 ([⟨1, 0, 0, 1⟩, ⟨20, 2, 0, 0⟩, ⟨34, 0, 0, 0⟩]) :: _)
 refine XF.back ?_
 change XD _ _ _ _ _ _ _ [(17, n1, 0, .int .i64 34), (17, n1, 1, .int .i64 0), (17, n1, 2, .int .i64 0), (17, n1, 3, .int .i64 0), (16, n4, 0, .int .i64 20), (16, n4, 1, .int .i64 2), (16, n4, 2, .int .i64 0), (16, n4, 3, .int .i64 0), (15, n2, 0, .int .i64 1), (15, n2, 1, .int .i64 0), (15, n2, 2, .int .i64 0), (15, n2, 3, .int .i64 1), (5, n1, 0, .int .i64 34), (5, n1, 1, .int .i64 0), (5, n1, 2, .int .i64 0), (5, n1, 3, .int .i64 0)] _ _ _ _ _ _
 refine XD.cX 19 Tryz.call32 (Le.refl _) (is19_ok (m := modk [⟨1, 0, 0, 1⟩, ⟨20, 3, 0, 0⟩, ⟨34, 0, 0, 0⟩, ⟨19, 2, 0, 0⟩] (some ⟨gl2, 0, none⟩) 4 ga1 gb1) (ys := [⟨1, 0, 0, 1⟩, ⟨20, 2, 0, 0⟩, ⟨34, 0, 0, 0⟩]) (gc.le leA) (g.le leA) (modk_q (xs := [⟨1, 0, 0, 1⟩, ⟨20, 3, 0, 0⟩, ⟨34, 0, 0, 0⟩, ⟨19, 2, 0, 0⟩]) ((Sees.rsH _).le fndA) (by decide) fndA fndA) (tk_v1 _ _ _ _) ((Sees.rsH _).le fndA) (by decide) (fun m2 h g2 g3 => modk_pl h tk_i1 tk_l1)) ?_
 rintro _ _ ⟨rfl, rfl⟩
 refine ⟨hlA, ?_⟩
 refine XD.le (q' := pto n1 (.cells [.int .i64 34, .int .i64 0, .int .i64 0, .int .i64 0].toArray 65 (0, 0)) :: pto n2 (.cells [.int .i64 1, .int .i64 0, .int .i64 0, .int .i64 1].toArray 65 (0, 0)) :: pto n3 (.cells [.int .i64 20, .int .i64 3, .int .i64 0, .int .i64 0].toArray 65 (0, 0)) :: pto n4 (.cells [.int .i64 20, .int .i64 2, .int .i64 0, .int .i64 0].toArray 65 (0, 0)) :: (q ++ F)) leA ?_
 change XD _ _ _ _ _ _ _ [(17, n1, 0, .int .i64 34), (17, n1, 1, .int .i64 0), (17, n1, 2, .int .i64 0), (17, n1, 3, .int .i64 0), (16, n4, 0, .int .i64 20), (16, n4, 1, .int .i64 2), (16, n4, 2, .int .i64 0), (16, n4, 3, .int .i64 0), (15, n2, 0, .int .i64 1), (15, n2, 1, .int .i64 0), (15, n2, 2, .int .i64 0), (15, n2, 3, .int .i64 1), (5, n1, 0, .int .i64 34), (5, n1, 1, .int .i64 0), (5, n1, 2, .int .i64 0), (5, n1, 3, .int .i64 0)] _ _ _ _ _ _
 refine dd [20, 21] ?_; refine XD.cRL 22 Tryz.call34 (jump19_ok) ?_
 change XD _ _ _ _ _ _ _ [(17, n1, 0, .int .i64 34), (17, n1, 1, .int .i64 0), (17, n1, 2, .int .i64 0), (17, n1, 3, .int .i64 0), (16, n4, 0, .int .i64 20), (16, n4, 1, .int .i64 2), (16, n4, 2, .int .i64 0), (16, n4, 3, .int .i64 0), (15, n2, 0, .int .i64 1), (15, n2, 1, .int .i64 0), (15, n2, 2, .int .i64 0), (15, n2, 3, .int .i64 1), (5, n1, 0, .int .i64 34), (5, n1, 1, .int .i64 0), (5, n1, 2, .int .i64 0), (5, n1, 3, .int .i64 0)] _ _ _ _ _ _
 refine XD.ef 23 rfl (Ef.litRnT insC [⟨19, 0, 0, 0⟩] Tryz.underlying45 ginfo65 rfl rfl (fun _ => rfl) rfl rfl rfl rfl) ?_
 rintro _ _ ⟨gl4, rfl, rfl⟩
 refine ⟨hlA, ?_⟩
 change XD _ _ _ _ _ _ _ [(17, n1, 0, .int .i64 34), (17, n1, 1, .int .i64 0), (17, n1, 2, .int .i64 0), (17, n1, 3, .int .i64 0), (16, n4, 0, .int .i64 20), (16, n4, 1, .int .i64 2), (16, n4, 2, .int .i64 0), (16, n4, 3, .int .i64 0), (15, n2, 0, .int .i64 1), (15, n2, 1, .int .i64 0), (15, n2, 2, .int .i64 0), (15, n2, 3, .int .i64 1), (5, n1, 0, .int .i64 34), (5, n1, 1, .int .i64 0), (5, n1, 2, .int .i64 0), (5, n1, 3, .int .i64 0)] _ _ _ _ _ _
 refine XD.cX 24 Tryz.call33 (Le.refl _) (code19_ok (xs := [⟨19, 0, 0, 0⟩]) (by decide)) ?_
 rintro _ _ ⟨ga2, gb2, rfl, rfl⟩
 refine ⟨hlA, ?_⟩
 change XD _ _ _ _ _ _ _ [(17, n1, 0, .int .i64 34), (17, n1, 1, .int .i64 0), (17, n1, 2, .int .i64 0), (17, n1, 3, .int .i64 0), (16, n4, 0, .int .i64 20), (16, n4, 1, .int .i64 2), (16, n4, 2, .int .i64 0), (16, n4, 3, .int .i64 0), (15, n2, 0, .int .i64 1), (15, n2, 1, .int .i64 0), (15, n2, 2, .int .i64 0), (15, n2, 3, .int .i64 1), (5, n1, 0, .int .i64 34), (5, n1, 1, .int .i64 0), (5, n1, 2, .int .i64 0), (5, n1, 3, .int .i64 0)] _ _ _ _ _ _
 refine XD.cRL 25 Tryz.call34 (jump19_ok) ?_
 change XD _ _ _ _ _ _ _ [(17, n1, 0, .int .i64 34), (17, n1, 1, .int .i64 0), (17, n1, 2, .int .i64 0), (17, n1, 3, .int .i64 0), (16, n4, 0, .int .i64 20), (16, n4, 1, .int .i64 2), (16, n4, 2, .int .i64 0), (16, n4, 3, .int .i64 0), (15, n2, 0, .int .i64 1), (15, n2, 1, .int .i64 0), (15, n2, 2, .int .i64 0), (15, n2, 3, .int .i64 1), (5, n1, 0, .int .i64 34), (5, n1, 1, .int .i64 0), (5, n1, 2, .int .i64 0), (5, n1, 3, .int .i64 0)] _ _ _ _ _ _
 refine XD.ef 26 rfl (Ef.litRnT insC [⟨19, 0, 0, 0⟩] Tryz.underlying45 ginfo65 rfl rfl (fun _ => rfl) rfl rfl rfl rfl) ?_
 rintro _ _ ⟨gl5, rfl, rfl⟩
 refine ⟨hlA, ?_⟩
 change XD _ _ _ _ _ _ _ [(17, n1, 0, .int .i64 34), (17, n1, 1, .int .i64 0), (17, n1, 2, .int .i64 0), (17, n1, 3, .int .i64 0), (16, n4, 0, .int .i64 20), (16, n4, 1, .int .i64 2), (16, n4, 2, .int .i64 0), (16, n4, 3, .int .i64 0), (15, n2, 0, .int .i64 1), (15, n2, 1, .int .i64 0), (15, n2, 2, .int .i64 0), (15, n2, 3, .int .i64 1), (5, n1, 0, .int .i64 34), (5, n1, 1, .int .i64 0), (5, n1, 2, .int .i64 0), (5, n1, 3, .int .i64 0)] _ _ _ _ _ _
 refine XD.cX 27 Tryz.call32 (Le.refl _) (is19_ok (m := modk [⟨19, 0, 0, 0⟩] (some ⟨gl4, 0, none⟩) 1 ga2 gb2) (ys := [⟨19, 0, 0, 0⟩]) (gc.le leA) (g.le leA) (modk_q (xs := [⟨19, 0, 0, 0⟩]) ((Sees.rsH _).le fndA) (by decide) fndA fndA) (tk_v2 _ _ _ _) ((Sees.rsH _).le fndA) (by decide) (fun m2 h g2 g3 => modk_pl h tk_i2 tk_l2)) ?_
 rintro _ _ ⟨rfl, rfl⟩
 refine ⟨hlA, ?_⟩
 refine XD.le (q' := pto n1 (.cells [.int .i64 34, .int .i64 0, .int .i64 0, .int .i64 0].toArray 65 (0, 0)) :: pto n2 (.cells [.int .i64 1, .int .i64 0, .int .i64 0, .int .i64 1].toArray 65 (0, 0)) :: pto n3 (.cells [.int .i64 20, .int .i64 3, .int .i64 0, .int .i64 0].toArray 65 (0, 0)) :: pto n4 (.cells [.int .i64 20, .int .i64 2, .int .i64 0, .int .i64 0].toArray 65 (0, 0)) :: (q ++ F)) leA ?_
 change XD _ _ _ _ _ _ _ [(17, n1, 0, .int .i64 34), (17, n1, 1, .int .i64 0), (17, n1, 2, .int .i64 0), (17, n1, 3, .int .i64 0), (16, n4, 0, .int .i64 20), (16, n4, 1, .int .i64 2), (16, n4, 2, .int .i64 0), (16, n4, 3, .int .i64 0), (15, n2, 0, .int .i64 1), (15, n2, 1, .int .i64 0), (15, n2, 2, .int .i64 0), (15, n2, 3, .int .i64 1), (5, n1, 0, .int .i64 34), (5, n1, 1, .int .i64 0), (5, n1, 2, .int .i64 0), (5, n1, 3, .int .i64 0)] _ _ _ _ _ _
 refine dd [28, 29] ?_; refine XD.nil ?_; refine X.retL (q) Tryz.func10 (res1 Tryz.results10 rfl) ⟨_, rfl, rfl, rfl⟩
end
theorem tiI_mem {l : List Ins} {i : Ins} (h : i ∈ tiI l) : ∃ x ∈ l, i.c = x.c ∧ i.b = x.b ∧ i.n = x.n ∧ (jm x = false → i.a = x.a) ∧ jm i = jm x := by
 obtain ⟨k, hk, rfl⟩ := List.getElem_of_mem h
 have hk2 := hk
 rw [tiI_len] at hk2
 obtain ⟨p, hp, hr, rfl⟩ := kb_onto hk2
 have e := tiI_at hp hr
 rw [getD_lt' hk, straS_at l hp, getD_lt' hp, mv_two] at e
 refine ⟨l[p], List.getElem_mem hp, ?_⟩
 rw [e]
 refine ⟨mv_c _ _, ?_, ?_, fun hj => ?_, mv_jm _ _⟩
 · unfold Ins.mv; split <;> rfl
 · unfold Ins.mv; split <;> rfl
 unfold Ins.mv; rw [if_neg (by rw [hj]; decide)]
theorem vchk_of {m : Mdl} (h : mdlOk m) (hd : ∀ t ∈ m.threads, (dOf m t).2 = 0) : vchk m = 0 := by
 unfold vchk
 rw [if_neg (by rw [mchk_iff.2 h]; decide)]
 generalize hl : m.threads = l at hd
 have : ∀ {l : List Cod}, (∀ t ∈ l, (dOf m t).2 = 0) → vErr m l = 0 := by
  intro l
  induction l with
  | nil => intro _; rfl
  | cons x r ih =>
   intro hd
   unfold vErr
   rw [if_neg (by rw [hd x (List.mem_cons_self ..)]; decide)]
   exact ih fun t ht => hd t (List.mem_cons_of_mem _ ht)
 exact this hd
theorem tiL_len {l : List Ins} {ln : List Int} (h : ln.length = l.length) : (tiL l ln).length = (tiI l).length := by rw [tiL_eq, cutS_len0, h, tiI_len]
theorem TigM.thr {m m' : Mdl} (h : TigM m m') {t' : Cod} (ht : t' ∈ m'.threads) : ∃ t ∈ m.threads, t'.name = t.name ∧ t'.locals = t.locals ∧ t'.ins = tiI t.ins ∧ t'.lines = tiL t.ins t.lines := by
 have h1 : Cod.pl t' ∈ m.threads.map tigT := by rw [← h.t]; exact List.mem_map_of_mem ht
 obtain ⟨t, ht2, e⟩ := List.mem_map.1 h1
 simp only [tigT, Cod.pl, Prod.mk.injEq] at e
 exact ⟨t, ht2, e.1.symm, e.2.1.symm, e.2.2.1.symm, e.2.2.2.symm⟩
theorem slots_of {m : Mdl} {t : Cod} (hd : (dOf m t).2 = 0) : ∀ x ∈ t.ins, slotOk m t x := by
 unfold dOf at hd
 split at hd
 · exact absurd hd (by decide)
 split at hd
 · exact absurd hd (by decide)
 rename_i k; exact Decidable.not_not.1 k
structure StrA (l : List Ins) (D : Nat → Int) : Prop where
 s : Snd (straS l) D
 b : ∀ i ∈ straS l, 0 ≤ i.a
theorem ThOk.str {t : Cod} (h : ThOk t) : ∃ D, StrA t.ins D := by
 obtain ⟨D, hD⟩ := h.s
 exact ⟨D, hD.stra (fun i hi hj => (h.a i hi hj).1), stra_b h.b⟩
theorem TigM.ok0 {m m' : Mdl} (h : TigM m m') (h0 : vchk m = 0) : vchk m' = 0 := by
 obtain ⟨k0, k1⟩ := vchkZ h0
 have hok := mchk_iff.1 k0
 have tl : m'.threads.length = m.threads.length := by have := congrArg List.length h.t; simpa using this
 refine vchk_of ⟨by rw [h.mu]; exact hok.1, by rw [h.co]; exact hok.2.1, by rw [h.v]; exact hok.2.2.1, by rw [h.a]; exact hok.2.2.2.1, by rw [h.c]; exact hok.2.2.2.2.1, by rw [tl]; exact hok.2.2.2.2.2.1, fun t' ht' => ?_⟩ fun t' ht' => ?_
 all_goals
  obtain ⟨t, ht, e1, e2, e3, e4⟩ := h.thr ht'
  obtain ⟨c1, c2, c3, ⟨c4, c5⟩, c6, c7⟩ := hok.2.2.2.2.2.2 t ht
  have hT := ThOk.of h0 ht
  obtain ⟨D, hD, hb⟩ := hT.str
 · have hl := tiI_le t.ins
   refine ⟨by rw [e1]; exact c1, by rw [e2]; exact c2, by rw [e3, e4, tiL_len hT.ln], ⟨by rw [e3]; omega, fun i hi => ?_⟩, ⟨by rw [e4, tiL_len hT.ln]; omega, fun n hn => ?_⟩⟩
   · rw [e3] at hi
     obtain ⟨x, hx, x1, x2, x3, x4, x5⟩ := tiI_mem hi
     obtain ⟨y1, y2, y3, y4⟩ := c5 x hx
     refine ⟨by rw [x1]; exact y1, ?_, by rw [x1, x2]; exact y3, by rw [x1, x3]; exact y4⟩
     rw [x1]
     cases hj : jm x with
     | false => rw [x4 hj]; exact y2
     | true =>
      have ha := tight_a hD hb i hi (by rw [x5, hj])
      have hc : nmA x.c = true := by
       have hc : 19 ≤ x.c ∧ x.c ≤ 21 := by unfold jm at hj; simpa using hj
       unfold nmA; exact decide_eq_true (by omega)
      rw [if_pos hc]
      omega
   rw [e4, tiL_eq] at hn; exact c7 n (cutS_mem hn)
 have sl := slots_of (k1 t ht)
 have sn : Snd t'.ins (fun k => D (oriS t.ins k)) := by rw [e3]; exact tight_snd hD hb
 refine sn.dOf fun i hi => ?_
 rw [e3] at hi
 obtain ⟨x, hx, x1, x2, x3, x4, x5⟩ := tiI_mem hi
 obtain ⟨s1, s2⟩ := sl x hx
 refine ⟨fun n hn => ?_, fun hc => by rw [x2, h.mu]; exact s2 (x1 ▸ hc)⟩
 cases hj : jm x with
 | true =>
  have ha := tight_a hD hb i hi (by rw [x5, hj])
  have hc : 19 ≤ x.c ∧ x.c ≤ 21 := by unfold jm at hj; simpa using hj
  have : cntOf m' t' i.c = some (t'.ins.length : Int) := by unfold cntOf; rw [x1, if_neg (by omega), if_neg (by omega), if_neg (by omega), if_pos (by omega)]
  rw [this] at hn
  cases hn
  rw [e3]; omega
 | false =>
  rw [x4 hj]
  refine s1 n ?_
  have hc : ¬ (x.c = 19 ∨ x.c = 20 ∨ x.c = 21) := by
   unfold jm at hj
   have := of_decide_eq_false hj
   omega
  rw [x1] at hn
  unfold cntOf at hn ⊢
  rw [if_neg hc] at hn ⊢
  rw [h.v, h.a, h.c, h.mu, h.co, tl, e2] at hn
  exact hn
theorem TigM.same {m m' m2 : Mdl} (h : TigM m m') (h0 : vchk m = 0) (h2 : TigM m' m2) : m'.pl = m2.pl := by
 have e : m'.threads.map Cod.pl = m'.threads.map tigT := by
  refine List.map_congr_left fun t' ht' => ?_
  obtain ⟨t, ht, e1, e2, e3, e4⟩ := h.thr ht'
  have hT := ThOk.of h0 ht
  obtain ⟨D, hD, hb⟩ := hT.str
  unfold Cod.pl tigT
  rw [e3, tight_idem hD hb, e4, tight_lines hD hb (tiL_len hT.ln)]
 unfold Mdl.pl
 rw [h2.v, h2.a, h2.c, h2.mu, h2.co, h2.t, e]
theorem TigM.saved {m m' : Mdl} (h : TigM m m') (h0 : vchk m = 0) : savedS m'.threads = 0 := by
 unfold savedS
 have : ∀ t' ∈ m'.threads, ((t'.ins.length : Int) - (tiI t'.ins).length) = 0 := fun t' ht' => by
  obtain ⟨t, ht, e1, e2, e3, e4⟩ := h.thr ht'
  obtain ⟨D, hD, hb⟩ := (ThOk.of h0 ht).str
  rw [e3, tight_idem hD hb]; omega
 generalize m'.threads = l at this
 induction l with
 | nil => rfl
 | cons x r ih =>
  rw [List.map_cons, List.sum_cons, this x (List.mem_cons_self ..), ih fun t ht => this t (List.mem_cons_of_mem _ ht)]; rfl
section
variable {G : World} {q : List HP} {a b A : Option Addr} {c d : Nat} {cd : Int} {l : List Ins} {ln : List Int} {o : List Bool}
variable {nt : Nat} {nm : ByteArray} {lo : Int} {ia la wa : Option Addr} {ic lc wc : Nat} {I : List Ins} {L W : List Int}
variable {m m2 : Mdl} {x y : Cod} {j k : List Int}
set_option maxHeartbeats 4000000 in
theorem twice_ok (gc : GC q) (g : GE q) (hq : MdlQ q m) : CallF Tryz.prog G 8 [.agg (mdlC m).toArray] (q) (Ret fun v q' => v = .bool true ∧ q' = q) := by
 refine CallF.of Tryz.func8 Tryz.ntmps8 rfl (fun F cs => ?_)
 rcases Classical.em (vchk m = 0) with hv | hv
 · refine xo 2 ?_; refine XO.bx fun n1 => ?_
   refine oo 4 ?_; refine ldA ?_; refine XO.cX Tryz.call24 (Le.refl _) (Module_ok (m := m) (gc.le leA) (g.le leA) (hq.le leA)) ?_
   rintro _ _ (⟨hz, rfl, rfl⟩ | ⟨_, m1, hT, hB, rfl, rfl⟩)
   · exact absurd hv hz
   have hv1 := hT.ok0 hv; have hs1 := hT.saved hv
   refine oo 3 ?_; refine XO.al Tryz.zeroValue26 fun n2 => ?_
   refine stA ?_; refine oo 6 ?_; refine XO.cR Tryz.call26 (num_ok) ?_; refine ox 2 ?_; refine X.kf 16 ?_; refine xo 4 ?_; refine ldA ?_; refine XO.cX Tryz.call24 (Le.refl _) (Module_ok (m := m1) (gc.le leA) (g.le leA) (Kn.mdl knA hB)) ?_
   rintro _ _ (⟨hz, rfl, rfl⟩ | ⟨_, m2, hT2, hB2, rfl, rfl⟩)
   · exact absurd hv1 hz
   refine oo 3 ?_; refine XO.al Tryz.zeroValue26 fun n3 => ?_
   refine stA ?_; refine oo 4 ?_; refine ldA ?_; refine XO.cX Tryz.call29 (Le.refl _) (Saved_ok (m := m1) (gc.le leA) (g.le leA) (Kn.mdl knA hB)) ?_
   rintro _ _ ⟨rfl, rfl⟩
   rw [if_pos hv1, if_pos hv1, hs1]
   refine oo 8 ?_; refine ldA ?_; refine XO.cX Tryz.call28 (Le.refl _) (VCheck_ok (m := m1) (gc.le leA) (g.le leA) (Kn.mdl knA hB)) ?_
   rintro _ _ ⟨rfl, rfl⟩
   rw [hv1]
   refine XO.cR Tryz.call26 (num_ok) ?_; refine oo 2 ?_; refine XO.kt 40 ?_; refine oo 1 ?_; refine XO.cR Tryz.call26 (num_ok) ?_; refine oo 1 ?_; refine XO.cR Tryz.call26 (num_ok) ?_; refine oo 4 ?_; refine XO.kt 48 ?_; refine ldA ?_; refine ldA ?_; refine XO.cX Tryz.call30 (Le.refl _) (same06_ok (m := m1) (m2 := m2) (Kn.mdl knA hB) (Kn.mdl knA hB2)) ?_
   rintro _ _ ⟨sb, rfl, hsb, rfl⟩
   have hsbt : sb = true := hsb.2 (hT.same hv hT2); subst hsbt
   refine oo 2 ?_; refine XO.kt 53 ?_; refine ox 5 ?_; refine X.sb [2] ?_; refine X.retL (q) Tryz.func8 (res1 Tryz.results8 rfl) ⟨_, rfl, rfl, rfl⟩
 refine xo 2 ?_; refine XO.bx fun n4 => ?_
 refine oo 4 ?_; refine ldA ?_; refine XO.cX Tryz.call24 (Le.refl _) (Module_ok (m := m) (gc.le leA) (g.le leA) (hq.le leA)) ?_
 rintro _ _ (⟨_, rfl, rfl⟩ | ⟨hz, _⟩)
 rotate_left; · exact absurd hz hv
 refine oo 3 ?_; refine XO.al Tryz.zeroValue26 fun n5 => ?_
 refine stA ?_; refine oo 6 ?_; refine XO.cR Tryz.call26 (num_ok) ?_; refine ox 2 ?_; refine X.kt 16 ?_; refine xo 4 ?_; refine XO.cR Tryz.call26 (num_ok) ?_; refine oo 2 ?_; refine XO.kt 20 ?_; refine ldA ?_; refine XO.cX Tryz.call28 (Le.refl _) (VCheck_ok (m := m) (gc.le leA) (g.le leA) (hq.le leA)) ?_
 rintro _ _ ⟨rfl, rfl⟩
 refine XO.cR Tryz.call26 (num_ok) ?_; refine ox 4 ?_; refine X.sb [2, 3] ?_; refine X.retL (q) Tryz.func8 (res1 Tryz.results8 rfl) ⟨_, rfl, congrArg Value.bool (by simp [hv]), rfl⟩
end
end Go.Proofs.YtbeeplmgcdnadaaGreatDoor
set_option maxRecDepth 100000
set_option linter.unusedVariables false
set_option linter.unusedSimpArgs false
namespace Go.Proofs.YtbeeplmgcdnadaaGreatDoor
open Go Go.RowKit Wx
structure Tk where
 k : Int
 t : ByteArray
 n : Int
 ln : Int
 cl : Int
def tkC (x : Tk) : List Value := [.int .i64 x.k, .string x.t, .int .i64 x.n, .int .i64 x.ln, .int .i64 x.cl]
def letS (c : UInt8) : Bool := decide (97 ≤ c.toNat) && decide (c.toNat ≤ 122)
def digS (c : UInt8) : Bool := decide (48 ≤ c.toNat) && decide (c.toNat ≤ 57)
def alnS (c : UInt8) : Bool := letS c || digS c
def wordsS : List Bs := [[118, 97, 114], [97, 114, 114, 97, 121], [109, 117, 116, 101, 120], [99, 111, 110, 100], [99, 104, 97, 110], [116, 104, 114, 101, 97, 100], [108, 101, 116], [105, 102], [101, 108, 115, 101], [119, 104, 105, 108, 101], [108, 111, 99, 107], [117, 110, 108, 111, 99, 107], [119, 97, 105, 116], [115, 105, 103, 110, 97, 108], [97, 108, 108], [115, 101, 110, 100], [114, 101, 99, 118], [115, 112, 97, 119, 110], [106, 111, 105, 110], [112, 114, 105, 110, 116]]
def signsS : List Bs := [[61, 61], [33, 61], [60, 61], [38, 38], [124, 124], [59], [40], [41], [123], [125], [91], [93], [61], [60], [43], [45], [42], [47], [37], [33]]
def kwS (w : Bs) : Bool := wordsS.any (· == w)
def valS (w : Bs) : Int := w.foldl (fun n c => n * 10 + ((c.toNat : Int) - 48)) 0
def numS (w : Bs) : Option Int := if w.all digS && decide (w.length ≤ 10) then (if valS w ≤ 2147483647 ∧ (w.length = 1 ∨ w.getD 0 0 ≠ 48) then some (valS w) else none) else none
def runS (l : Bs) : Nat := (l.takeWhile alnS).length
def oneW (l : Bs) : Option (Int × Bs × Int) :=
 let w := l.take (runS l)
 if 0 < runS l ∧ digS (l.getD 0 0) = true then (match numS w with | some x => some (2, w, x) | none => none)
 else if 0 < runS l ∧ kwS w = true then some (3, w, 0)
 else if 16 < runS l then none
 else if 0 < runS l then some (1, w, 0)
 else match signsS.find? (fun s => s == l.take s.length) with
  | some s => some (4, s, 0)
  | none => none
def lexS : Nat → Bs → Int → Int → Option (List Tk)
 | 0, _, _, _ => none
 | _ + 1, [], _, _ => some []
 | f + 1, c :: r, ln, cl =>
  if c = 10 then lexS f r (ln + 1) 1
  else if c = 32 ∨ c = 9 ∨ c = 13 then lexS f r ln (cl + 1)
  else if c = 35 then lexS f ((c :: r).dropWhile (· != 10)) ln (cl + ((c :: r).takeWhile (· != 10)).length)
  else match oneW (c :: r) with
   | none => none
   | some (k, w, n) => (lexS f ((c :: r).drop w.length) ln (cl + w.length)).map (⟨k, ba w, n, ln, cl⟩ :: ·)
inductive PEx where
 | mk (k n : Int) (nm : ByteArray) (slot : Int) (loc : Bool) (op : Int) (args : List PEx)
inductive PStm where
 | mk (k ln cl : Int) (nm wt : ByteArray) (e ix : PEx) (body els : List PStm) (id slot other : Int) (loc : Bool)
structure PDec where
 k : Int
 ln : Int
 cl : Int
 nm : ByteArray
 n : Int
 body : List PStm
def PEx.z : PEx := .mk 0 0 em 0 false 0 []
def isW (s : Bs) : List Tk → Bool
 | t :: _ => bs t.t == s && decide (3 ≤ t.k)
 | [] => false
def tkW (s : Bs) (ts : List Tk) : Option (List Tk) := if isW s ts = true then some ts.tail else none
def mustS (s : Bs) (ts : List Tk) : Option (Unit × List Tk) := if isW s ts = true then some ((), ts.tail) else none
def bnd {α β : Type} (A : Option (α × List Tk)) (K : α → List Tk → Option β) : Option β := match A with
 | none => none
 | some (x, r) => K x r
def nameS : List Tk → Option (ByteArray × List Tk)
 | t :: r => if t.k = 1 then some (t.t, r) else none
 | [] => none
def numbS : List Tk → Option (Int × List Tk)
 | t :: r => if t.k = 2 then some (t.n, r) else none
 | [] => none
def rankL : List Int := [0, 1, 2, 3, 3, 3, 3, 4, 4, 5, 5, 5]
def signL : List Bs := [[], [124, 124], [38, 38], [61, 61], [33, 61], [60], [60, 61], [43], [45], [42], [47], [37]]
def nextW (n : Int) (ts : List Tk) : List Nat → Nat
 | [] => 0
 | op :: r => if rankL.getD op 0 = n ∧ isW (signL.getD op []) ts = true then op else nextW n ts r
def nextO (n : Int) (ts : List Tk) : Nat := nextW n ts [1, 2, 3, 4, 5, 6, 7, 8, 9, 10, 11]
mutual
def exprS : Nat → Int → List Tk → Option (PEx × List Tk)
 | 0, _, _ => none
 | f + 1, n, ts => if 5 < n then unS f ts else match exprS f (n + 1) ts with
  | none => none
  | some (e, r) => moreS f n e r
def moreS : Nat → Int → PEx → List Tk → Option (PEx × List Tk)
 | 0, _, _, _ => none
 | f + 1, n, e, ts => if nextO n ts = 0 then some (e, ts) else match exprS f (n + 1) ts.tail with
  | none => none
  | some (x, r) => if n = 3 then some (.mk 6 0 em 0 false (nextO n ts) [e, x], r) else moreS f n (.mk 6 0 em 0 false (nextO n ts) [e, x]) r
def unS : Nat → List Tk → Option (PEx × List Tk)
 | 0, _ => none
 | f + 1, ts => match tkW [45] ts with
  | some r => (match unS f r with
   | none => none
   | some (e, r2) => some (.mk 4 0 em 0 false 0 [e], r2))
  | none => match tkW [33] ts with
   | some r => (match unS f r with
    | none => none
    | some (e, r2) => some (.mk 5 0 em 0 false 0 [e], r2))
   | none => primS f ts
def primS : Nat → List Tk → Option (PEx × List Tk)
 | 0, _ => none
 | f + 1, ts => match tkW [40] ts with
  | some r => (match exprS f 1 r with
   | none => none
   | some (e, r2) => match tkW [41] r2 with
    | none => none
    | some r3 => some (e, r3))
  | none => match numbS ts with
   | some (n, r) => some (.mk 1 n em 0 false 0 [], r)
   | none => match nameS ts with
    | none => none
    | some (nm, r) => match tkW [91] r with
     | none => some (.mk 2 0 nm 0 false 0 [], r)
     | some r2 => match exprS f 1 r2 with
      | none => none
      | some (e, r3) => match tkW [93] r3 with
       | none => none
       | some r4 => some (.mk 3 0 nm 0 false 0 [e], r4)
end
def kindL : List Bs := [[], [108, 101, 116], [], [], [105, 102], [119, 104, 105, 108, 101], [108, 111, 99, 107], [117, 110, 108, 111, 99, 107], [119, 97, 105, 116], [115, 105, 103, 110, 97, 108], [97, 108, 108], [115, 101, 110, 100], [114, 101, 99, 118], [115, 112, 97, 119, 110], [106, 111, 105, 110], [112, 114, 105, 110, 116]]
def lastW (L : List Bs) (ts : List Tk) : Nat → Nat
 | 0 => 0
 | k + 1 => if L.getD (k + 1) [] ≠ [] ∧ isW (L.getD (k + 1) []) ts = true then k + 1 else lastW L ts k
def kindS (ts : List Tk) : Nat := lastW kindL ts 15
def posS : List Tk → Int × Int
 | t :: _ => (t.ln, t.cl)
 | [] => (0, 0)
def restS (f : Nat) (k : Int) (p : Int × Int) (nm : ByteArray) (ts : List Tk) : Option (PStm × List Tk) :=
 if k = 0 then (if isW [91] ts = true then bnd (exprS f 1 ts.tail) fun ix r => bnd (mustS [93] r) fun _ r => bnd (mustS [61] r) fun _ r => bnd (exprS f 1 r) fun e r => bnd (mustS [59] r) fun _ r => some (.mk 3 p.1 p.2 nm em e ix [] [] 0 0 0 false, r)
  else bnd (mustS [61] ts) fun _ r => bnd (exprS f 1 r) fun e r => bnd (mustS [59] r) fun _ r => some (.mk 2 p.1 p.2 nm em e .z [] [] 0 0 0 false, r))
 else if k = 1 then bnd (mustS [61] ts) fun _ r => bnd (exprS f 1 r) fun e r => bnd (mustS [59] r) fun _ r => some (.mk k p.1 p.2 nm em e .z [] [] 0 0 0 false, r)
 else if k = 8 ∨ k = 12 then bnd (nameS ts) fun wt r => bnd (mustS [59] r) fun _ r => some (.mk k p.1 p.2 nm wt .z .z [] [] 0 0 0 false, r)
 else if k = 11 ∨ k = 15 then bnd (exprS f 1 ts) fun e r => bnd (mustS [59] r) fun _ r => some (.mk k p.1 p.2 nm em e .z [] [] 0 0 0 false, r)
 else bnd (mustS [59] ts) fun _ r => some (.mk k p.1 p.2 nm em .z .z [] [] 0 0 0 false, r)
mutual
def stmtS : Nat → List Tk → Option (PStm × List Tk)
 | 0, _ => none
 | f + 1, ts =>
  if kindS ts = 4 ∨ kindS ts = 5 then bnd (exprS f 1 ts.tail) fun e r => bnd (blockS f r) fun b r =>
   if kindS ts = 4 ∧ isW [101, 108, 115, 101] r = true then bnd (blockS f r.tail) fun b2 r => some (.mk (kindS ts) (posS ts).1 (posS ts).2 em em e .z b b2 0 0 0 false, r)
   else some (.mk (kindS ts) (posS ts).1 (posS ts).2 em em e .z b [] 0 0 0 false, r)
  else if kindS ts = 14 ∨ kindS ts = 15 then restS f (kindS ts) (posS ts) em ts.tail
  else bnd (nameS (if 0 < kindS ts then ts.tail else ts)) fun nm r => restS f (kindS ts) (posS ts) nm r
def blockS : Nat → List Tk → Option (List PStm × List Tk)
 | 0, _ => none
 | f + 1, ts => bnd (mustS [123] ts) fun _ r => bnd (stmtsS f r) fun l r => bnd (mustS [125] r) fun _ r => some (l, r)
def stmtsS : Nat → List Tk → Option (List PStm × List Tk)
 | 0, _ => none
 | f + 1, ts => if isW [125] ts = true then some ([], ts) else bnd (stmtS f ts) fun s r => bnd (stmtsS f r) fun l r => some (s :: l, r)
end
def declL : List Bs := [[], [118, 97, 114], [97, 114, 114, 97, 121], [109, 117, 116, 101, 120], [99, 111, 110, 100], [99, 104, 97, 110], [116, 104, 114, 101, 97, 100]]
def dkS (ts : List Tk) : Nat := lastW declL ts 6
def numD (k : Nat) (ts : List Tk) : Option (Int × List Tk) :=
 if k = 1 then bnd (mustS [61] ts) fun _ r => if isW [45] r = true then bnd (numbS r.tail) fun n r => some (-n, r) else numbS r
 else if k = 2 ∨ k = 5 then numbS ts else some (0, ts)
def declS (f : Nat) (ts : List Tk) : Option (PDec × List Tk) :=
 if dkS ts = 0 then none else bnd (nameS ts.tail) fun nm r =>
  if dkS ts = 6 then bnd (blockS f r) fun b r => some (⟨dkS ts, (posS ts).1, (posS ts).2, nm, 0, b⟩, r)
  else bnd (numD (dkS ts) r) fun n r => bnd (mustS [59] r) fun _ r => some (⟨dkS ts, (posS ts).1, (posS ts).2, nm, n, []⟩, r)
def declsS (g : Nat) : Nat → List Tk → Option (List PDec)
 | 0, _ => none
 | f + 1, ts => if ts = [] then some [] else bnd (declS g ts) fun d r => (declsS g f r).map (d :: ·)
mutual
def PEx.dep : PEx → Nat
 | .mk _ _ _ _ _ _ args => PEx.deps args + 1
def PEx.deps : List PEx → Nat
 | [] => 0
 | e :: r => max e.dep (PEx.deps r)
end
mutual
def PStm.deep : PStm → Nat → Bool
 | .mk _ _ _ _ _ e ix body els _ _ _ _, n => decide (24 < n) || decide (24 < e.dep) || decide (24 < ix.dep) || PStm.deeps body (n + 1) || PStm.deeps els (n + 1)
def PStm.deeps : List PStm → Nat → Bool
 | [], _ => false
 | s :: r, n => s.deep n || PStm.deeps r n
end
def parseS (l : Bs) : Option (List PDec) :=
 if 65536 < l.length then none else match lexS (l.length + 1) l 1 1 with
  | none => none
  | some ts => match declsS (10 * ts.length + 20) (ts.length + 1) ts with
   | none => none
   | some ds => if ds.any (fun d => PStm.deeps d.body 1) = true then none else some ds
inductive Ex where
 | mk (k n : Int) (nm : ByteArray) (slot : Int) (loc : Bool) (op : Int) (args : List Ex) (aa : Option Addr) (ac : Nat)
def exC : Ex → List Value
 | .mk k n nm slot loc op args aa ac => [.int .i64 k, .int .i64 n, .string nm, .int .i64 slot, .bool loc, .int .i64 op, .slice aa args.length ac]
inductive Stm where
 | mk (k ln cl : Int) (nm wt : ByteArray) (e ix : Ex) (body els : List Stm) (ba : Option Addr) (bc : Nat) (ea : Option Addr) (ec : Nat) (id slot other : Int) (loc : Bool)
def stC : Stm → List Value
 | .mk k ln cl nm wt e ix body els ba bc ea ec id slot other loc => [.int .i64 k, .int .i64 ln, .int .i64 cl, .string nm, .string wt] ++ (exC e ++ (exC ix ++ [.slice ba body.length bc, .slice ea els.length ec, .int .i64 id, .int .i64 slot, .int .i64 other, .bool loc]))
structure Dec where
 k : Int
 ln : Int
 cl : Int
 nm : ByteArray
 n : Int
 body : List Stm
 ba : Option Addr
 bc : Nat
def dcC (d : Dec) : List Value := [.int .i64 d.k, .int .i64 d.ln, .int .i64 d.cl, .string d.nm, .int .i64 d.n, .slice d.ba d.body.length d.bc]
theorem exC_len (e : Ex) : (exC e).length = 7 := by cases e; rfl
theorem stC_len (s : Stm) : (stC s).length = 25 := by cases s; simp [stC, exC_len]
theorem exC_one (e : Ex) : (exC e).all (·.oneCell') = true := by cases e; rfl
theorem stC_one (s : Stm) : (stC s).all (·.oneCell') = true := by cases s; simp only [stC, List.all_append, exC_one]; rfl
mutual
def Ex.er : Ex → PEx
 | .mk k n nm slot loc op args _ _ => .mk k n nm slot loc op (Ex.ers args)
def Ex.ers : List Ex → List PEx
 | [] => []
 | e :: r => e.er :: Ex.ers r
end
mutual
def Stm.er : Stm → PStm
 | .mk k ln cl nm wt e ix body els _ _ _ _ id slot other loc => .mk k ln cl nm wt e.er ix.er (Stm.ers body) (Stm.ers els) id slot other loc
def Stm.ers : List Stm → List PStm
 | [] => []
 | s :: r => s.er :: Stm.ers r
end
def Dec.er (d : Dec) : PDec := ⟨d.k, d.ln, d.cl, d.nm, d.n, Stm.ers d.body⟩
mutual
def Ex.At (M : Hp) : Ex → Prop
 | .mk _ _ _ _ _ _ args aa ac => SlAt M aa ac args.length (args.flatMap exC) ∧ Ex.Ats M args
def Ex.Ats (M : Hp) : List Ex → Prop
 | [] => True
 | e :: r => e.At M ∧ Ex.Ats M r
end
mutual
def Stm.At (M : Hp) : Stm → Prop
 | .mk _ _ _ _ _ e ix body els ba bc ea ec _ _ _ _ => e.At M ∧ ix.At M ∧ (SlAt M ba bc body.length (body.flatMap stC) ∧ Stm.Ats M body) ∧ SlAt M ea ec els.length (els.flatMap stC) ∧ Stm.Ats M els
def Stm.Ats (M : Hp) : List Stm → Prop
 | [] => True
 | s :: r => s.At M ∧ Stm.Ats M r
end
mutual
theorem Ex.At.mono {M M' : Hp} (l : Hle M M') : ∀ {e : Ex}, e.At M → e.At M'
 | .mk .., ⟨h, k⟩ => ⟨h.mono l, Ex.Ats.mono l k⟩
theorem Ex.Ats.mono {M M' : Hp} (l : Hle M M') : ∀ {e : List Ex}, Ex.Ats M e → Ex.Ats M' e
 | [], _ => trivial
 | _ :: _, ⟨h, k⟩ => ⟨Ex.At.mono l h, Ex.Ats.mono l k⟩
end
mutual
theorem Stm.At.mono {M M' : Hp} (l : Hle M M') : ∀ {e : Stm}, e.At M → e.At M'
 | .mk .., ⟨h1, h2, ⟨h3, h4⟩, h5, h6⟩ => ⟨h1.mono l, h2.mono l, ⟨h3.mono l, Stm.Ats.mono l h4⟩, h5.mono l, Stm.Ats.mono l h6⟩
theorem Stm.Ats.mono {M M' : Hp} (l : Hle M M') : ∀ {e : List Stm}, Stm.Ats M e → Stm.Ats M' e
 | [], _ => trivial
 | _ :: _, ⟨h, k⟩ => ⟨Stm.At.mono l h, Stm.Ats.mono l k⟩
end
theorem Ex.Ats_mem {M : Hp} : ∀ {l : List Ex}, Ex.Ats M l ↔ ∀ e ∈ l, e.At M
 | [] => by simp [Ex.Ats]
 | e :: r => by simp [Ex.Ats, Ex.Ats_mem (l := r)]
theorem Stm.Ats_mem {M : Hp} : ∀ {l : List Stm}, Stm.Ats M l ↔ ∀ e ∈ l, e.At M
 | [] => by simp [Stm.Ats]
 | e :: r => by simp [Stm.Ats, Stm.Ats_mem (l := r)]
theorem Ex.ers_map : ∀ l : List Ex, Ex.ers l = l.map Ex.er
 | [] => rfl
 | e :: r => by simp [Ex.ers, Ex.ers_map r]
theorem Stm.ers_map : ∀ l : List Stm, Stm.ers l = l.map Stm.er
 | [] => rfl
 | e :: r => by simp [Stm.ers, Stm.ers_map r]
theorem Ex.ers_len (l : List Ex) : (Ex.ers l).length = l.length := by rw [Ex.ers_map]; simp
theorem Stm.ers_len (l : List Stm) : (Stm.ers l).length = l.length := by rw [Stm.ers_map]; simp
mutual
def Ex.sz : Ex → Nat
 | .mk _ _ _ _ _ _ args _ _ => Ex.szs args + 1
def Ex.szs : List Ex → Nat
 | [] => 0
 | e :: r => e.sz + Ex.szs r
end
mutual
def Stm.sz : Stm → Nat
 | .mk _ _ _ _ _ _ _ body els _ _ _ _ _ _ _ _ => Stm.szs body + Stm.szs els + 1
def Stm.szs : List Stm → Nat
 | [] => 0
 | s :: r => s.sz + Stm.szs r
end
theorem Ex.sz_mem {e : Ex} : ∀ {l : List Ex}, e ∈ l → e.sz ≤ Ex.szs l
 | x :: r, h => by
  rcases List.mem_cons.1 h with rfl | h
  · simp [Ex.szs]
  have := Ex.sz_mem h; simp only [Ex.szs]; omega
theorem Stm.sz_mem {e : Stm} : ∀ {l : List Stm}, e ∈ l → e.sz ≤ Stm.szs l
 | x :: r, h => by
  rcases List.mem_cons.1 h with rfl | h
  · simp [Stm.szs]
  have := Stm.sz_mem h; simp only [Stm.szs]; omega
def exM (e : Ex) : HP := lst (fun M => e.At M) fun l h => Ex.At.mono l h
def exsM (l : List Ex) : HP := lst (fun M => Ex.Ats M l) fun l h => Ex.Ats.mono l h
def stM (s : Stm) : HP := lst (fun M => s.At M) fun l h => Stm.At.mono l h
def stsM (l : List Stm) : HP := lst (fun M => Stm.Ats M l) fun l h => Stm.Ats.mono l h
def BlkAt (M : Hp) (a : Option Addr) (c : Nat) (l : List Stm) : Prop := SlAt M a c l.length (l.flatMap stC) ∧ Stm.Ats M l
theorem BlkAt.mono {a : Option Addr} {c : Nat} {l : List Stm} {M M' : Hp} (e : Hle M M') (h : BlkAt M a c l) : BlkAt M' a c l := ⟨h.1.mono e, h.2.mono e⟩
def blM (a : Option Addr) (c : Nat) (l : List Stm) : HP := lst (fun M => BlkAt M a c l) BlkAt.mono
def Dec.At (M : Hp) (d : Dec) : Prop := BlkAt M d.ba d.bc d.body
theorem Dec.At.mono {d : Dec} {M M' : Hp} (e : Hle M M') (h : d.At M) : d.At M' := BlkAt.mono e h
def Decs.At (M : Hp) (l : List Dec) : Prop := ∀ d ∈ l, d.At M
theorem Decs.At.mono {l : List Dec} {M M' : Hp} (e : Hle M M') (h : Decs.At M l) : Decs.At M' l := fun d hd => (h d hd).mono e
def dcM (d : Dec) : HP := lst (fun M => d.At M) Dec.At.mono
def dcsM (l : List Dec) : HP := lst (fun M => Decs.At M l) Decs.At.mono
section
variable {q q0 : List HP} {a : Option Addr} {c ty : Nat} {l : List Ex} {m : List Stm}
theorem Kn.ex1 {k n : Int} {nm : ByteArray} {slot : Int} {loc : Bool} {op : Int} {e : Ex} (h : Kn q fun M => e.At M) : Kn (lst (fun M => SlAt M a c 1 ([e].flatMap exC)) SlAt.mono :: q) fun M => (Ex.mk k n nm slot loc op [e] a c).At M :=
 (Kn.here.and h.there).imp fun M h => ⟨h.1, h.2, trivial⟩
theorem Kn.ex2 {k n : Int} {nm : ByteArray} {slot : Int} {loc : Bool} {op : Int} {e e2 : Ex} (h : Kn q fun M => e.At M) (h2 : Kn q fun M => e2.At M) : Kn (lst (fun M => SlAt M a c 2 ([e, e2].flatMap exC)) SlAt.mono :: q) fun M => (Ex.mk k n nm slot loc op [e, e2] a c).At M :=
 (Kn.here.and (h.there.and h2.there)).imp fun M h => ⟨h.1, h.2.1, h.2.2, trivial⟩
theorem Kn.stsM : Kn (stsM m :: q) fun M => Stm.Ats M m := Kn.here
theorem Kn.stM {s : Stm} : Kn (stM s :: q) fun M => s.At M := Kn.here
theorem Kn.dcM {s : Dec} : Kn (dcM s :: q) fun M => s.At M := Kn.here
theorem Kn.dcsM {s : List Dec} : Kn (dcsM s :: q) fun M => Decs.At M s := Kn.here
theorem Le.ex0 (k n : Int) (nm : ByteArray) (slot : Int) (loc : Bool) (op : Int) : Le q (Go.Proofs.YtbeeplmgcdnadaaGreatDoor.exM (Ex.mk k n nm slot loc op [] none 0) :: q) := Kn.add (fun M _ _ => ⟨SlAt.nil M, trivial⟩)
theorem Le.sts_nil : Le q (Go.Proofs.YtbeeplmgcdnadaaGreatDoor.stsM [] :: q) := Kn.add (fun _ _ _ => trivial)
theorem Le.sts_snoc {s : Stm} : Le (Go.Proofs.YtbeeplmgcdnadaaGreatDoor.stsM m :: Go.Proofs.YtbeeplmgcdnadaaGreatDoor.stM s :: q) (Go.Proofs.YtbeeplmgcdnadaaGreatDoor.stsM (m ++ [s]) :: q) := by
 have h : Kn (Go.Proofs.YtbeeplmgcdnadaaGreatDoor.stsM m :: Go.Proofs.YtbeeplmgcdnadaaGreatDoor.stM s :: q) fun M => Stm.Ats M (m ++ [s]) := (Kn.stsM.and Kn.stM.there).imp fun M h => Stm.Ats_mem.2 fun x hx => by
  rcases List.mem_append.1 hx with hx | hx
  · exact Stm.Ats_mem.1 h.1 x hx
  rw [List.mem_singleton.1 hx]; exact h.2
 exact Le.trans (Kn.add (mn := fun l h => Stm.Ats.mono l h) h) (Le.cons _ ((Le.drop _ _).trans (Le.drop _ _)))
theorem Le.dcs_nil : Le q (Go.Proofs.YtbeeplmgcdnadaaGreatDoor.dcsM [] :: q) := Kn.add (fun _ _ _ d hd => by cases hd)
theorem Le.dcs_snoc {s : Dec} {m : List Dec} : Le (Go.Proofs.YtbeeplmgcdnadaaGreatDoor.dcsM m :: Go.Proofs.YtbeeplmgcdnadaaGreatDoor.dcM s :: q) (Go.Proofs.YtbeeplmgcdnadaaGreatDoor.dcsM (m ++ [s]) :: q) := by
 have h : Kn (Go.Proofs.YtbeeplmgcdnadaaGreatDoor.dcsM m :: Go.Proofs.YtbeeplmgcdnadaaGreatDoor.dcM s :: q) fun M => Decs.At M (m ++ [s]) := (Kn.dcsM.and Kn.dcM.there).imp fun M h x hx => by
  rcases List.mem_append.1 hx with hx | hx
  · exact h.1 x hx
  rw [List.mem_singleton.1 hx]; exact h.2
 exact Le.trans (Kn.add (mn := Decs.At.mono) h) (Le.cons _ ((Le.drop _ _).trans (Le.drop _ _)))
theorem Kn.blk (h : Kn q fun M => Stm.Ats M m) : Kn (lst (fun M => SlAt M a c m.length (m.flatMap stC)) SlAt.mono :: q) fun M => BlkAt M a c m := Kn.here.and h.there
end
theorem isW_at {L : List Tk} {s : Bs} {n : Nat} (h : n < L.length) : isW s (L.drop n) = (bs L[n].t == s && decide (3 ≤ L[n].k)) := by rw [List.drop_eq_getElem_cons h]; rfl
theorem isW_end {L : List Tk} {s : Bs} {n : Nat} (h : L.length ≤ n) : isW s (L.drop n) = false := by rw [List.drop_eq_nil_of_le h]; rfl
theorem isW_lt {L : List Tk} {s : Bs} {n : Nat} (h : isW s (L.drop n) = true) : n < L.length := by
 rcases Nat.lt_or_ge n L.length with k | k
 · exact k
 rw [isW_end k] at h; cases h
theorem gD {α : Type} {l : List α} {i : Nat} {d : α} (h : i < l.length) : l.getD i d = l[i] := by simp [List.getD, List.getElem?_eq_getElem h]
theorem sEq {a b : ByteArray} : a.toList = b.toList ↔ bs a = bs b := by rw [ByteArray.toList_eq, ByteArray.toList_eq]; rfl
theorem sNe {a b : ByteArray} (h : ¬ a.toList = b.toList) : (bs a == bs b) = false := by rw [beq_eq_false_iff_ne]; exact fun e => h (sEq.2 e)
theorem sTr {a b : ByteArray} (h : a.toList = b.toList) : (bs a == bs b) = true := by rw [beq_iff_eq]; exact sEq.1 h
theorem tail_drop {L : List Tk} {n : Nat} : (L.drop n).tail = L.drop (n + 1) := by rw [List.tail_drop]
def Out {α : Type} (L : List Tk) (bad : Bool) (sp : Option (α × List Tk)) (x : α) (n : Nat) (bad' : Bool) : Prop := (bad' = false ∧ bad = false ∧ sp = some (x, L.drop n)) ∨ (bad' = true ∧ (bad = true ∨ sp = none))
abbrev rdH (p : Nat) (la : Option Addr) (lc : Nat) (L : List Tk) (n : Nat) (bad : Bool) : HP := pto p (.cells [.slice la L.length lc, .int .i64 (n : Int), .bool bad].toArray 185 (0, 0))
section
variable {P : Program} {G : World} {fr : Fc} {Q : Post} {todo k : List Item} {p : PE} {ds : List Deferred} {cs : List Frame} {q q0 : List HP} {ops lo : List Oper} {a : Option Addr} {c : Nat} {e x : Ex} {m : List Stm} {kd n : Int} {nm : ByteArray} {slot : Int} {loc : Bool} {op : Int}
theorem X.fzE1 (K : X P G fr Q todo p ds cs (exM (.mk kd n nm slot loc op [e] a c) :: q0)) (hq : Le q (rsH exC 7 215 a c [e] :: q0) := by exact fndA) (he : Kn q0 fun M => e.At M := by exact knA) : X P G fr Q todo p ds cs q := .frzR (Kn.ex1 he) K hq
theorem X.fzE2 (K : X P G fr Q todo p ds cs (exM (.mk kd n nm slot loc op [e, x] a c) :: q0)) (hq : Le q (rsH exC 7 215 a c [e, x] :: q0) := by exact fndA) (he : Kn q0 fun M => e.At M := by exact knA) (hx : Kn q0 fun M => x.At M := by exact knA) : X P G fr Q todo p ds cs q := .frzR (Kn.ex2 he hx) K hq
theorem X.fzB (K : X P G fr Q todo p ds cs (blM a c m :: q0)) (hq : Le q (rsH stC 25 217 a c m :: q0) := by exact fndA) (h : Kn q0 fun M => Stm.Ats M m := by exact knA) : X P G fr Q todo p ds cs q := .frzR (Kn.blk h) K hq
end
end Go.Proofs.YtbeeplmgcdnadaaGreatDoor
set_option maxRecDepth 100000
set_option linter.unusedVariables false
set_option linter.unusedSimpArgs false
namespace Go.Proofs.YtbeeplmgcdnadaaGreatDoor
open Go Go.RowKit Wx
attribute [local irreducible] Wx.lsH Wx.rsH Wx.stars
section
variable {G : World} {q pre : List HP} {a la A : Option Addr} {c lc p n : Nat} {bad : Bool} {s : ByteArray} {L : List Tk} {r : Int}
theorem is_ok (hr : Has q p (.cells [.slice la L.length lc, .int .i64 (n : Int), .bool bad].toArray 185 (0, 0))) (hL : Sees q la (L.flatMap tkC)) (hn : L.length ≤ 65536) : CallF Tryz.prog G 142 [.pointer (some ⟨p, 0, none⟩), .string s] (q) (Ret fun v q' => v = .bool (!bad && isW (bs s) (L.drop n)) ∧ q' = q) := by
 refine CallF.of Tryz.func142 Tryz.ntmps142 rfl (fun F cs => ?_)
 have hlen := flatMap_len (f := tkC) (sz := 5) (fun _ => rfl) L
 refine xx 5 ?_; refine drw ?_; refine dd [0, 1, 2] ?_; refine ldD 3 ?_ (hc := (Cl.of (hr.le leA) rfl))
 refine XD.pu 4 rfl (Pu.not rfl) ?_; refine dd [5] ?_; refine XD.part 10 rfl (fun h1 => ?_) (fun h1 => ?_)
 · replace h1 := sp h1
   refine dd [6, 7, 8] ?_; refine ldD 9 ?_ (hc := (Cl.of (hr.le leA) rfl))
   refine dd [10, 11, 12] ?_; refine ldD 13 ?_ (hc := (Cl.of (hr.le leA) rfl))
   refine dd [14, 15, 16, 17] ?_; refine XD.part 22 rfl (fun h2 => ?_) (fun h2 => ?_)
   · replace h2 := sp h2
     refine dd [18, 19, 20] ?_; refine ldD 21 ?_ (hc := (Cl.of (hr.le leA) rfl))
     refine dd [22, 23, 24] ?_; refine ldD 25 ?_ (hc := (Cl.of (hr.le leA) rfl))
     refine XD.adr hL (by rw [hlen]; omega) (fun b1 o1 e1 => ?_)
     have hs1 := hL; rw [e1] at hs1
     refine XD.know 26 (.slice (some ⟨b1, o1, none⟩) L.length lc) rfl (by rw [e1]) ?_
     refine dd [26, 27] ?_; refine ldD 28 ?_; refine dd [29, 30, 31, 32] ?_; refine XD.part 37 rfl (fun h3 => ?_) (fun h3 => ?_)
     · replace h3 := sp h3
       refine dd [33, 34, 35] ?_; refine ldD 36 ?_ (hc := (Cl.of (hr.le leA) rfl))
       refine dd [37, 38, 39] ?_; refine ldD 40 ?_ (hc := (Cl.of (hr.le leA) rfl))
       refine XD.know 41 (.slice (some ⟨b1, o1, none⟩) L.length lc) rfl (by rw [e1]) ?_
       refine dd [41, 42] ?_; refine ldD 43 ?_; refine dd [44, 45, 46] ?_; refine XD.nil ?_; refine X.retL (q) Tryz.func142 (res1 Tryz.results142 rfl) ⟨_, rfl, congrArg Value.bool (by rw [isW_at (by omega), h1, sTr h3]; rfl), rfl⟩
     replace h3 := sp h3
     refine dd [33, 34, 35, 36, 37, 38, 39, 40, 41, 42, 43, 44, 45, 46] ?_; refine XD.nil ?_; refine X.retL (q) Tryz.func142 (res1 Tryz.results142 rfl) ⟨_, rfl, congrArg Value.bool (by rw [isW_at (by omega), sNe h3]; simp), rfl⟩
   replace h2 := sp h2
   refine dd [18, 19, 20, 21, 22, 23, 24, 25, 26, 27, 28, 29, 30, 31, 32, 33, 34, 35, 36, 37, 38, 39, 40, 41, 42, 43, 44, 45, 46] ?_; refine XD.nil ?_; refine X.retL (q) Tryz.func142 (res1 Tryz.results142 rfl) ⟨_, rfl, congrArg Value.bool (by rw [isW_end (by omega)]; simp), rfl⟩
 replace h1 := sp h1
 refine dd [6, 7, 8, 9, 10, 11, 12, 13, 14, 15, 16, 17, 18, 19, 20, 21, 22, 23, 24, 25, 26, 27, 28, 29, 30, 31, 32, 33, 34, 35, 36, 37, 38, 39, 40, 41, 42, 43, 44, 45, 46] ?_; refine XD.nil ?_; refine X.retL (q) Tryz.func142 (res1 Tryz.results142 rfl) ⟨_, rfl, congrArg Value.bool (by simp_all), rfl⟩
variable {w : Bs}
theorem tktake_ok (hL : Sees q la (L.flatMap tkC)) (hn : L.length ≤ 65536) : CallF Tryz.prog G 145 [.pointer (some ⟨p, 0, none⟩), .string (ba w)] (rdH p la lc L n bad :: q) (Ret fun v q' => (v = .bool true ∧ (bad = false ∧ isW w (L.drop n) = true ∧ n < L.length) ∧ q' = rdH p la lc L (n + 1) bad :: q) ∨ (v = .bool false ∧ (bad = true ∨ isW w (L.drop n) = false) ∧ q' = rdH p la lc L n bad :: q)) := by
 refine CallF.of Tryz.func145 Tryz.ntmps145 rfl (fun F cs => ?_)
 refine xo 9 ?_; refine XO.cR Tryz.call142 (is_ok (n := n) (bad := bad) hasA (hL.le leA) hn) ?_
 refine XO.pu (Pu.not rfl) ?_; refine ox 1 ?_; refine X.part 8 rfl (fun h1 => ?_) (fun h1 => ?_)
 · refine xx 5 ?_; refine X.retL (rdH p la lc L n bad :: q) Tryz.func145 (res1 Tryz.results145 rfl) ⟨_, rfl, .inr ⟨rfl, by rw [bs_ba] at h1; cases bad <;> simp_all, rfl⟩⟩
 have h2 : bad = false ∧ isW w (L.drop n) = true := by rw [bs_ba] at h1; cases bad <;> simp_all
 have hlt := isW_lt h2.2
 refine xo 7 ?_; refine ld ?_; refine oo 3 ?_; refine st ?_; refine ox 5 ?_; refine X.retL (rdH p la lc L (n + 1) bad :: q) Tryz.func145 (res1 Tryz.results145 rfl) ⟨_, rfl, .inl ⟨rfl, ⟨h2.1, h2.2, hlt⟩, rfl⟩⟩
theorem must_ok (hL : Sees q la (L.flatMap tkC)) (hn : L.length ≤ 65536) (hnL : n ≤ L.length) : CallF Tryz.prog G 144 [.pointer (some ⟨p, 0, none⟩), .string (ba w)] (rdH p la lc L n bad :: q) (Ret fun v q' => ∃ n' bad', v = .tuple #[] ∧ q' = rdH p la lc L n' bad' :: q ∧ n ≤ n' ∧ n' ≤ L.length ∧ Out L bad (mustS w (L.drop n)) () n' bad') := by
 refine CallF.of Tryz.func144 Tryz.ntmps144 rfl (fun F cs => ?_)
 refine xo 4 ?_; refine XO.cX Tryz.call145 leA (tktake_ok (hL.le leA) hn) ?_; rintro _ _ (⟨rfl, ⟨hb, hw, hlt⟩, rfl⟩ | ⟨rfl, hw, rfl⟩)
 · refine ox 4 ?_; refine X.fallL (rdH p la lc L (n + 1) bad :: q) Tryz.func144 (res0 Tryz.results144) ⟨_, rfl, n + 1, bad, rfl, rfl, by omega, by omega, .inl ⟨hb, hb, by unfold mustS; rw [if_pos hw, tail_drop]⟩⟩
 refine oo 7 ?_; refine st ?_; refine ox 1 ?_; refine X.fallL (rdH p la lc L n true :: q) Tryz.func144 (res0 Tryz.results144) ⟨_, rfl, n, true, rfl, rfl, Nat.le_refl _, hnL, .inr ⟨rfl, hw.imp id fun h => by unfold mustS; rw [if_neg (by rw [h]; decide)]⟩⟩
theorem nameS_at {L : List Tk} {n : Nat} (h : n < L.length) : nameS (L.drop n) = if L[n].k = 1 then some (L[n].t, L.drop (n + 1)) else none := by rw [List.drop_eq_getElem_cons h]; rfl
theorem nameS_end {L : List Tk} {n : Nat} (h : L.length ≤ n) : nameS (L.drop n) = none := by rw [List.drop_eq_nil_of_le h]; rfl
theorem name_ok (hL : Sees q la (L.flatMap tkC)) (hn : L.length ≤ 65536) (hnL : n ≤ L.length) : CallF Tryz.prog G 143 [.pointer (some ⟨p, 0, none⟩)] (rdH p la lc L n bad :: q) (Ret fun v q' => ∃ (x : ByteArray) (n' : Nat) (bad' : Bool), v = .string x ∧ q' = rdH p la lc L n' bad' :: q ∧ (n ≤ n' ∧ (x = em ∨ ∃ t ∈ L, x = t.t)) ∧ n' ≤ L.length ∧ Out L bad (nameS (L.drop n)) x n' bad') := by
 refine CallF.of Tryz.func143 Tryz.ntmps143 rfl (fun F cs => ?_)
 have hlen := flatMap_len (f := tkC) (sz := 5) (fun _ => rfl) L
 refine xx 6 ?_; refine drw ?_; refine dd [0, 1, 2] ?_; refine ldD 3 ?_; refine dd [4] ?_; refine XD.part 7 rfl (fun h1 => ?_) (fun h1 => ?_)
 · replace h1 := sp h1
   refine dd [5, 6, 7, 8, 9, 10, 11, 12, 13, 14, 15, 16, 17, 18, 19, 20, 21, 22, 23, 24, 25, 26, 27, 28, 29] ?_; refine XD.nil ?_; refine xo 6 ?_; refine st ?_; refine ox 5 ?_; refine X.sb [2, 0] ?_; refine X.retL (rdH p la lc L n true :: q) Tryz.func143 (res1 Tryz.results143 rfl) ⟨_, rfl, em, n, true, rfl, rfl, ⟨Nat.le_refl _, .inl rfl⟩, hnL, .inr ⟨rfl, .inl h1⟩⟩
 replace h1 := sp h1
 refine dd [5, 6, 7] ?_; refine ldD 8 ?_; refine dd [9, 10, 11] ?_; refine ldD 12 ?_; refine dd [13, 14, 15, 16] ?_; refine XD.part 19 rfl (fun h2 => ?_) (fun h2 => ?_)
 · replace h2 := sp h2
   refine dd [17, 18, 19, 20, 21, 22, 23, 24, 25, 26, 27, 28, 29] ?_; refine XD.nil ?_; refine xo 6 ?_; refine st ?_; refine ox 5 ?_; refine X.sb [2, 0] ?_; refine X.retL (rdH p la lc L n true :: q) Tryz.func143 (res1 Tryz.results143 rfl) ⟨_, rfl, em, n, true, rfl, rfl, ⟨Nat.le_refl _, .inl rfl⟩, hnL, .inr ⟨rfl, .inr (nameS_end (by omega))⟩⟩
 replace h2 := sp h2
 refine dd [17, 18, 19] ?_; refine ldD 20 ?_; refine dd [21, 22, 23] ?_; refine ldD 24 ?_
 have hlt : n < L.length := by omega
 refine XD.adr hL (by rw [hlen]; omega) (fun b1 o1 e1 => ?_)
 have hs1 := hL; rw [e1] at hs1
 refine XD.know 23 (.slice (some ⟨b1, o1, none⟩) L.length lc) rfl (by rw [e1]) ?_
 refine dd [25, 26] ?_; refine ldD 27 ?_; refine dd [28, 29] ?_; refine XD.nil ?_; refine X.part 32 rfl (fun h3 => ?_) (fun h3 => ?_)
 · replace h3 := sp h3
   refine xo 6 ?_; refine st ?_; refine ox 5 ?_; refine X.sb [2, 0] ?_; refine X.retL (rdH p la lc L n true :: q) Tryz.func143 (res1 Tryz.results143 rfl) ⟨_, rfl, em, n, true, rfl, rfl, ⟨Nat.le_refl _, .inl rfl⟩, hnL, .inr ⟨rfl, .inr (by rw [nameS_at (by omega), if_neg h3])⟩⟩
 replace h3 := sp h3
 refine xo 7 ?_; refine ld ?_; refine oo 3 ?_; refine st ?_; refine ox 2 ?_; refine X.sb [2, 0] ?_; refine drw ?_; refine dd [0, 1, 2] ?_; refine ldD 3 ?_; refine dd [4, 5, 6] ?_; refine ldD 7 ?_; refine dd [8] ?_; refine XD.know 46 (.slice (some ⟨b1, o1, none⟩) L.length lc) rfl (by rw [e1]) ?_
 refine dd [9, 10] ?_; refine ldD 11 ?_ (hc := (Cl.el (n := n) hs1 leA (fun _ => rfl) hlt (by omega) rfl))
 refine dd [12] ?_; refine XD.nil ?_; refine X.retL (rdH p la lc L (n + 1) bad :: q) Tryz.func143 (res1 Tryz.results143 rfl) ⟨_, rfl, L[n].t, n + 1, bad, rfl, rfl, ⟨by omega, .inr ⟨_, List.getElem_mem hlt, rfl⟩⟩, by omega, .inl ⟨h1, h1, by rw [nameS_at hlt, if_pos h3]⟩⟩
theorem numbS_at {L : List Tk} {n : Nat} (h : n < L.length) : numbS (L.drop n) = if L[n].k = 2 then some (L[n].n, L.drop (n + 1)) else none := by rw [List.drop_eq_getElem_cons h]; rfl
theorem numbS_end {L : List Tk} {n : Nat} (h : L.length ≤ n) : numbS (L.drop n) = none := by rw [List.drop_eq_nil_of_le h]; rfl
theorem number_ok (hL : Sees q la (L.flatMap tkC)) (hn : L.length ≤ 65536) (hnL : n ≤ L.length) : CallF Tryz.prog G 146 [.pointer (some ⟨p, 0, none⟩)] (rdH p la lc L n bad :: q) (Ret fun v q' => ∃ (x : Int) (n' : Nat) (bad' : Bool), v = .int .i64 x ∧ q' = rdH p la lc L n' bad' :: q ∧ (n ≤ n' ∧ (x = 0 ∨ ∃ t ∈ L, x = t.n)) ∧ n' ≤ L.length ∧ Out L bad (numbS (L.drop n)) x n' bad') := by
 refine CallF.of Tryz.func146 Tryz.ntmps146 rfl (fun F cs => ?_)
 have hlen := flatMap_len (f := tkC) (sz := 5) (fun _ => rfl) L
 refine xx 6 ?_; refine drw ?_; refine dd [0, 1, 2] ?_; refine ldD 3 ?_; refine dd [4] ?_; refine XD.part 7 rfl (fun h1 => ?_) (fun h1 => ?_)
 · replace h1 := sp h1
   refine dd [5, 6, 7, 8, 9, 10, 11, 12, 13, 14, 15, 16, 17, 18, 19, 20, 21, 22, 23, 24, 25, 26, 27, 28, 29] ?_; refine XD.nil ?_; refine xo 6 ?_; refine st ?_; refine ox 5 ?_; refine X.sb [2, 0] ?_; refine X.retL (rdH p la lc L n true :: q) Tryz.func146 (res1 Tryz.results146 rfl) ⟨_, rfl, 0, n, true, rfl, rfl, ⟨Nat.le_refl _, .inl rfl⟩, hnL, .inr ⟨rfl, .inl h1⟩⟩
 replace h1 := sp h1
 refine dd [5, 6, 7] ?_; refine ldD 8 ?_; refine dd [9, 10, 11] ?_; refine ldD 12 ?_; refine dd [13, 14, 15, 16] ?_; refine XD.part 19 rfl (fun h2 => ?_) (fun h2 => ?_)
 · replace h2 := sp h2
   refine dd [17, 18, 19, 20, 21, 22, 23, 24, 25, 26, 27, 28, 29] ?_; refine XD.nil ?_; refine xo 6 ?_; refine st ?_; refine ox 5 ?_; refine X.sb [2, 0] ?_; refine X.retL (rdH p la lc L n true :: q) Tryz.func146 (res1 Tryz.results146 rfl) ⟨_, rfl, 0, n, true, rfl, rfl, ⟨Nat.le_refl _, .inl rfl⟩, hnL, .inr ⟨rfl, .inr (numbS_end (by omega))⟩⟩
 replace h2 := sp h2
 refine dd [17, 18, 19] ?_; refine ldD 20 ?_; refine dd [21, 22, 23] ?_; refine ldD 24 ?_
 have hlt : n < L.length := by omega
 refine XD.adr hL (by rw [hlen]; omega) (fun b1 o1 e1 => ?_)
 have hs1 := hL; rw [e1] at hs1
 refine XD.know 23 (.slice (some ⟨b1, o1, none⟩) L.length lc) rfl (by rw [e1]) ?_
 refine dd [25, 26] ?_; refine ldD 27 ?_; refine dd [28, 29] ?_; refine XD.nil ?_; refine X.part 32 rfl (fun h3 => ?_) (fun h3 => ?_)
 · replace h3 := sp h3
   refine xo 6 ?_; refine st ?_; refine ox 5 ?_; refine X.sb [2, 0] ?_; refine X.retL (rdH p la lc L n true :: q) Tryz.func146 (res1 Tryz.results146 rfl) ⟨_, rfl, 0, n, true, rfl, rfl, ⟨Nat.le_refl _, .inl rfl⟩, hnL, .inr ⟨rfl, .inr (by rw [numbS_at (by omega), if_neg h3])⟩⟩
 replace h3 := sp h3
 refine xo 7 ?_; refine ld ?_; refine oo 3 ?_; refine st ?_; refine ox 2 ?_; refine X.sb [2, 0] ?_; refine drw ?_; refine dd [0, 1, 2] ?_; refine ldD 3 ?_; refine dd [4, 5, 6] ?_; refine ldD 7 ?_; refine dd [8] ?_; refine XD.know 46 (.slice (some ⟨b1, o1, none⟩) L.length lc) rfl (by rw [e1]) ?_
 refine dd [9, 10] ?_; refine ldD 11 ?_ (hc := (Cl.el (n := n) hs1 leA (fun _ => rfl) hlt (by omega) rfl))
 refine dd [12] ?_; refine XD.nil ?_; refine X.retL (rdH p la lc L (n + 1) bad :: q) Tryz.func146 (res1 Tryz.results146 rfl) ⟨_, rfl, L[n].n, n + 1, bad, rfl, rfl, ⟨by omega, .inr ⟨_, List.getElem_mem hlt, rfl⟩⟩, by omega, .inl ⟨h1, h1, by rw [numbS_at hlt, if_pos h3]⟩⟩
end
section
variable {G : World} {q pre : List HP} {a la A : Option Addr} {c lc p n : Nat} {bad : Bool} {s : ByteArray} {L : List Tk} {r : Int}
theorem pos_ok (hL : Sees q la (L.flatMap tkC)) (hn : L.length ≤ 65536) : CallF Tryz.prog G 141 [.pointer (some ⟨p, 0, none⟩)] (rdH p la lc L n bad :: q) (Ret fun v q' => v = .agg [.int .i64 (posS (L.drop n)).1, .int .i64 (posS (L.drop n)).2].toArray ∧ q' = rdH p la lc L n bad :: q) := by
 refine CallF.of Tryz.func141 Tryz.ntmps141 rfl (fun F cs => ?_)
 have hlen := flatMap_len (f := tkC) (sz := 5) (fun _ => rfl) L
 refine xo 2 ?_; refine XO.al Tryz.zeroValue87 fun n1 => ?_
 refine ox 3 ?_; refine drw ?_; refine dd [0, 1, 2] ?_; refine ldD 3 ?_; refine dd [4, 5, 6] ?_; refine ldD 7 ?_; refine dd [8, 9] ?_; refine XD.nil ?_; refine X.part 12 rfl (fun h1 => ?_) (fun h1 => ?_)
 · replace h1 := sp h1
   refine xo 4 ?_; refine stA ?_; refine ox 1 ?_; refine X.retL (rdH p la lc L n bad :: q) Tryz.func141 (resC1 Tryz.results141 (ResOk.cell rfl (LV.agg Tryz.isAgg87 Tryz.sizeOf87 hasA rfl) ResOk.nil)) ⟨_, rfl, by rw [List.drop_eq_nil_of_le (by omega)]; rfl, rfl⟩
 replace h1 := sp h1
 refine xx 3 ?_; refine drw ?_; refine dd [0, 1, 2] ?_; refine ldD 3 ?_; refine dd [4, 5, 6] ?_; refine ldD 7 ?_
 have hlt : n < L.length := by omega
 refine XD.adr hL (by rw [hlen]; omega) (fun b1 o1 e1 => ?_)
 have hs1 := hL; rw [e1] at hs1
 refine XD.know 17 (.slice (some ⟨b1, o1, none⟩) L.length lc) rfl (by rw [e1]) ?_
 refine dd [8, 9] ?_; refine XD.rdCs 10 (us := [.int .i64 L[n].ln, .int .i64 L[n].cl]) rfl rfl Tryz.isAgg87 Tryz.sizeOf87 rfl (fun k v hk => by match k, hk with | 0, hk => cases hk; exact Cl.row (n := n) hs1 leA (fun _ => rfl) hlt rfl 3 _ rfl | 1, hk => cases hk; exact Cl.row (n := n) hs1 leA (fun _ => rfl) hlt rfl 4 _ rfl) ?_
 refine stAD 11 ?_; refine XD.nil ?_; refine X.retL (rdH p la lc L n bad :: q) Tryz.func141 (resC1 Tryz.results141 (ResOk.cell rfl (LV.agg Tryz.isAgg87 Tryz.sizeOf87 hasA rfl) ResOk.nil)) ⟨_, rfl, by rw [List.drop_eq_getElem_cons hlt]; rfl, rfl⟩
theorem tinfo9 : (Tryz.prog.info? 9).map (fun i => (i.zero, i.size, i.bytes)) = some (some (.string ⟨#[]⟩), 1, 16) := by kernel_rfl
theorem tinfo3 : (Tryz.prog.info? 3).map (fun i => (i.zero, i.size, i.bytes)) = some (some (.int .i64 0), 1, 8) := by kernel_rfl
theorem rank_ok (hr : c < 12) : CallF Tryz.prog G 207 [.int .i64 (c : Int)] (q) (Ret fun v q' => v = .int .i64 (rankL.getD c 0) ∧ q' = q) := by
 refine CallF.of Tryz.func207 Tryz.ntmps207 rfl (fun F cs => ?_)
 refine xo 6 ?_; refine XO.ef (Ef.litL I64 rankL Tryz.underlying23 tinfo3 rfl rfl rfl rfl rfl rfl (fun _ => rfl)) ?_
 rintro _ _ ⟨g, rfl, rfl⟩
 have hlt : c < rankL.length := by show c < 12; omega
 refine oo 2 ?_; refine ld ?_ (hc := (Cl.e1 (n := c) (Sees.lsH _) fndA hlt (by omega)))
 refine ox 2 ?_; refine X.retL (q) Tryz.func207 (res1 Tryz.results207 rfl) ⟨_, rfl, by rw [gD hlt], rfl⟩
theorem sign_ok (hr : c < 12) : CallF Tryz.prog G 208 [.int .i64 (c : Int)] (q) (Ret fun v q' => v = .string (ba (signL.getD c [])) ∧ q' = q) := by
 refine CallF.of Tryz.func208 Tryz.ntmps208 rfl (fun F cs => ?_)
 refine xo 6 ?_; refine XO.ef (Ef.litL (fun w : Bs => Value.string (ba w)) signL Tryz.underlying34 tinfo9 rfl rfl rfl rfl rfl rfl (fun _ => rfl)) ?_
 rintro _ _ ⟨g, rfl, rfl⟩
 have hlt : c < signL.length := by show c < 12; omega
 refine oo 2 ?_; refine ld ?_ (hc := (Cl.e1 (n := c) (Sees.lsH _) fndA hlt (by omega)))
 refine ox 2 ?_; refine X.retL (q) Tryz.func208 (res1 Tryz.results208 rfl) ⟨_, rfl, by rw [gD hlt], rfl⟩
theorem nextW_cons {r : Int} {ts : List Tk} {s : Nat} (h : s ≤ 11) : nextW r ts (List.range' s (12 - s)) = if rankL.getD s 0 = r ∧ isW (signL.getD s []) ts = true then s else nextW r ts (List.range' (s + 1) (12 - (s + 1))) := by
 rw [show 12 - s = (12 - (s + 1)) + 1 by omega, List.range'_succ]; rfl
theorem nextW_lt {L : List Tk} {n : Nat} {r : Int} : ∀ {l : List Nat}, nextW r (L.drop n) l ≠ 0 → n < L.length
 | [], h => absurd rfl h
 | o :: l, h => by
  unfold nextW at h
  split at h
  · rename_i k; exact isW_lt k.2
  exact nextW_lt h
theorem next_ok (hr : Has q p (.cells [.slice la L.length lc, .int .i64 (n : Int), .bool bad].toArray 185 (0, 0))) (hL : Sees q la (L.flatMap tkC)) (hn : L.length ≤ 65536) : CallF Tryz.prog G 205 [.pointer (some ⟨p, 0, none⟩), .int .i64 r] (q) (Ret fun v q' => v = .int .i64 (if bad = true then 0 else nextO r (L.drop n) : Nat) ∧ q' = q) := by
 refine CallF.of Tryz.func205 Tryz.ntmps205 rfl (fun F cs => ?_)
 refine xx 10 ?_; refine X.at (X.loop (fun (s : Nat) => 1 ≤ s ∧ s ≤ 12 ∧ (bad = false → nextO r (L.drop n) = nextW r (L.drop n) (List.range' s (12 - s)))) (fun s => [(5, .int .i64 (s : Int)), (0, .pointer (some ⟨p, 0, none⟩)), (1, .int .i64 r), (4, .int .i64 0)]) (fun s => (q ++ F)) (fun s => 12 - s) (fun s hi_ ih => ?_) 1 ⟨Nat.le_refl _, by omega, fun _ => rfl⟩) subA leA
 try dsimp only at hi_ ih ⊢
 obtain ⟨hs1, hs2, hsn⟩ := hi_
 refine xx 6 ?_; refine X.part 7 rfl (fun h0 => ?_) (fun h0 => ?_)
 · replace h0 := sp h0
   have hs3 : s ≤ 11 := by omega
   refine xo 7 ?_; refine XO.cR Tryz.call207 (rank_ok (c := s) (by omega)) ?_
   refine oo 3 ?_; refine XO.sb [14, 5, 0, 1, 4] ?_
   apply XO.cutAnd 5 19 14 rfl
   · intro g1 M1; have h1 := sp g1
     refine oo 2 ?_; refine XO.cR Tryz.call208 (sign_ok (c := s) (by omega)) ?_
     refine XO.cR Tryz.call142 (is_ok (s := ba (signL.getD s [])) (hr.le leA) (hL.le leA) hn) ?_
     refine oo 1 ?_; exact XO.fin M1 ⟨andT g1, subB⟩
   · intro g1 M1; have h1 := sp g1
     refine oo 5 ?_; exact XO.fin M1 ⟨andF g1, subB⟩
   refine ox 1 ?_; refine X.part 19 rfl (fun h1 => ?_) (fun h1 => ?_)
   · replace h1 := sp h1
     refine xx 6 ?_; refine X.retL (q) Tryz.func205 (res1 Tryz.results205 rfl) ⟨_, rfl, by rw [if_neg (by rw [h1.2.1]; decide), hsn h1.2.1, nextW_cons (by omega), if_pos ⟨h1.1, h1.2.2⟩], rfl⟩
   replace h1 := sp h1
   refine xx 8 ?_; refine X.at (ih (s + 1) ⟨by omega, by omega, fun hb => by rw [hsn hb, nextW_cons (by omega), if_neg (fun k => by rw [bs_ba] at h1; simp_all)]⟩ (by omega)) subA leA
 replace h0 := sp h0
 refine xx 6 ?_; refine X.retL (q) Tryz.func205 (res1 Tryz.results205 rfl) ⟨_, rfl, by obtain rfl : s = 12 := (by omega); cases bad with | true => rfl | false => rw [hsn rfl]; rfl, rfl⟩
end
end Go.Proofs.YtbeeplmgcdnadaaGreatDoor
