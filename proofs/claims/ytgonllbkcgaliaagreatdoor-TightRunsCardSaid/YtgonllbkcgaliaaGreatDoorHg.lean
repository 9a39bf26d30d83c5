/- Contracts of functions, proved by walking their code. -/
import Derived.Test.YtgonllbkcgaliaaGreatDoorHf
import Derived.KernelRfl
set_option maxRecDepth 100000
set_option linter.unusedVariables false
set_option linter.unusedSimpArgs false
namespace Go.Proofs.YtgonllbkcgaliaaGreatDoor
open Go Go.RowKit Wx Go.Proofs.Tryz
attribute [local irreducible] Wx.lsH Wx.rsH Wx.stars
theorem Mv {α:Type}{l m:List α}(h:l.length=m.length)(h2: ∀ i (h1:i<l.length) (h2:i<m.length),l[i]=m[i]):l=m:=List.ext_getElem h h2
theorem ba_inj {a b:ByteArray}(h:a.toList=b.toList):a=b:=by
 rw [ByteArray.toList_eq,ByteArray.toList_eq] at h
 cases a;cases b;congr;exact Array.toList_inj.1 h
theorem Ins.ext4 {x y:Ins}(h1:x.c=y.c)(h2:x.a=y.a)(h3:x.b=y.b)(h4:x.n=y.n):x=y:=by cases x;cases y;simp_all
def Mdl.pl (m:Mdl):List Int×List Int×List Int×Int×Int×List (ByteArray×Int×List Ins×List Int):=(m.vars,m.arrays,m.chans,m.mutexes,m.conds,m.threads.map Cod.pl)
section
variable {G:World}{q:List HP}{a b A:Option Addr}{c d:Nat}{cd:Int}{l:List Ins}{ln:List Int}{o:List Bool}
variable {nt:Nat}{nm:ByteArray}{lo:Int}{ia la wa:Option Addr}{ic lc wc:Nat}{I:List Ins}{L W:List Int}
variable {m m2:Mdl}{x y:Cod}{j k:List Int}
set_option maxHeartbeats 1000000 in
theorem Bb (hs:Sees q a (j.map I64))(hs2:Sees q b (k.map I64))(hL:j.length≤9223372036854775807∧k.length≤9223372036854775807):CallF prog G 56 [.slice a j.length c,.slice b k.length d] (q) (Ret fun v q'=>v= .bool (decide (j=k))∧q'=q):=by
 refine CallF.of func56 ntmps56 rfl (fun F cs=> ?_)
 refine xx 13 ?_;refine X.part 10 rfl (fun h0=> ?_) (fun h0=> ?_)
 · replace h0:=sp h0
   refine xx 5 ?_;refine Zq (q) func56 (Zu results56 rfl) ⟨_,rfl,congrArg Value.bool (by symm;rw [decide_eq_false_iff_not];rintro rfl;omega),rfl⟩
 replace h0:=sp h0
 refine xx 8 ?_;refine X.at (X.loop (fun (s:Nat×Option Addr×Option Addr)=>s.1≤j.length∧s.2.1=a∧s.2.2=b∧ ∀ i (h1:i<j.length) (h2:i<k.length),i<s.1→j[i]=k[i]) (fun s=> [(5,.int .i64 (s.1:Int)),(0,.slice s.2.1 j.length c),(1,.slice s.2.2 k.length d),(4,.bool false)]) (fun s=>q++F) (fun s=>j.length - s.1) (fun s hi_ ih=> ?_) (0,a,b) ⟨Nat.zero_le _,rfl,rfl,fun i _ _ h=>absurd h (Nat.not_lt_zero i)⟩) Zp leA
 try dsimp only at hi_ ih⊢
 obtain ⟨hs0,ha,hb,hP⟩:=hi_
 obtain ⟨s,a2,b2⟩:=s;dsimp only at*;subst ha hb
 refine xx 8 ?_;refine X.part 14 rfl (fun h1=> ?_) (fun h1=> ?_)
 · replace h1:=sp h1;have hk1:s<j.length:=(by omega);have hk2:s<k.length:=(by omega);refine Jw hs (by rw [List.length_map];omega) (fun b1 o1 e1=> ?_);refine Jw hs2 (by rw [List.length_map];omega) (fun b3 o3 e3=> ?_);subst e1 e3
   refine xx 5 ?_;refine drw ?_;refine dd [0,1,2] ?_;refine ldD 3 ?_ (hc:=(Cl.e1 hs leA hk1 rfl))
   refine dd [4,5,6] ?_;refine ldD 7 ?_ (hc:=(Cl.e1 hs2 leA hk2 rfl))
   refine dd [8] ?_;refine XD.nil ?_;refine X.part 25 rfl (fun z1=> ?_) (fun z1=> ?_)
   · replace z1:=sp z1
     refine xx 5 ?_;refine Zq (q) func56 (Zu results56 rfl) ⟨_,rfl,congrArg Value.bool (by symm;rw [decide_eq_false_iff_not];rintro rfl;exact z1 rfl),rfl⟩
   replace z1:=sp z1
   refine xx 8 ?_;refine X.at (ih (s+1,some ⟨b1,o1,none⟩,some ⟨b3,o3,none⟩) ⟨by dsimp only;omega,rfl,rfl,fun i g1 g2 g3=>by dsimp only at g3;rcases Nat.lt_or_ge i s with e|e;exact hP i g1 g2 e;obtain rfl:i=s:=(by omega);exact z1⟩ (by dsimp only;omega)) Zp leA
 replace h1:=sp h1;have hfin:j=k:=Mv (by omega) (fun i g1 g2=>hP i g1 g2 (by omega))
 refine xx 6 ?_;refine Zq (q) func56 (Zu results56 rfl) ⟨_,rfl,congrArg Value.bool (by symm;rw [decide_eq_true_iff];exact hfin),rfl⟩
set_option maxHeartbeats 2000000 in
theorem Pm (hx:CodQ q x)(hy:CodQ q y):CallF prog G 57 [.agg (Y2 x).toArray,.agg (Y2 y).toArray] (q) (Ret fun v q'=> ∃ bb:Bool,v= .bool bb∧(bb=true↔x.pl=y.pl)∧q'=q):=by
 refine CallF.of func57 ntmps57 rfl (fun F cs=> ?_)
 have k1:=hx.ni;have k2:=hx.nl;have k3:=hy.ni;have k4:=hy.nl;have hl1:=Zb (f:=Zx) (sz:=4) (fun _=>rfl) x.ins;have hl2:=Zb (f:=Zx) (sz:=4) (fun _=>rfl) y.ins
 refine xo 2 ?_;refine Zl fun n1=> ?_
 refine Zl fun n2=> ?_
 refine ol 6 ?_;refine ol 1 ?_;refine oo 2 ?_;refine Zg [11,4,3,2] ?_
 apply Zw 6 17 11 rfl
 · intro g1 M1;have h1:=sp g1
   refine ol 1 ?_;refine ol 1 ?_;refine oo 2 ?_;exact Zz M1 ⟨orF g1,Zv⟩
 · intro g1 M1;have h1:=sp g1
   refine oo 6 ?_;exact Zz M1 ⟨orT g1,Zv⟩
 refine oo 1 ?_;refine Zg [18,4,3,2] ?_
 apply Zw 8 26 18 rfl
 · intro g1 M1;have h1:=sp g1
   refine ol 1 ?_;refine ol 2 ?_;refine oo 3 ?_;exact Zz M1 ⟨orF g1,Zv⟩
 · intro g1 M1;have h1:=sp g1
   refine oo 8 ?_;exact Zz M1 ⟨orT g1,Zv⟩
 refine oo 1 ?_;refine Zg [27,4,3,2] ?_
 apply Zw 7 34 27 rfl
 · intro g1 M1;have h1:=sp g1
   refine ol 1 ?_;refine ol 1 ?_;refine XO.cR call56 (Bb (hx.l.le leA) (hy.l.le leA) ⟨k2,k4⟩) ?_
   refine Zc (Pu.not rfl) ?_;refine oo 1 ?_;exact Zz M1 ⟨orF g1,Zv⟩
 · intro g1 M1;have h1:=sp g1
   refine oo 7 ?_;exact Zz M1 ⟨orT g1,Zv⟩
 refine ox 1 ?_;refine X.part 34 rfl (fun h1=> ?_) (fun h1=> ?_)
 · replace h1:=sp h1
   refine xx 5 ?_;refine Zq (q) func57 (Zu results57 rfl) ⟨_,rfl,false,rfl,⟨fun e=>(by cases e),fun e=>(by exfalso;simp only [Cod.pl,Prod.mk.injEq] at e;obtain ⟨e1,e2,e3,e4⟩:=e;rw [e3] at h1;simp [e1,e2,e4] at h1)⟩,rfl⟩
 replace h1:=sp h1
 refine xx 8 ?_
 have hll:x.name=y.name∧x.locals=y.locals∧x.ins.length=y.ins.length∧x.lines=y.lines:=⟨ba_inj h1.1.1.1,h1.1.1.2,by omega,h1.2⟩
 refine X.at (X.loop (fun (s:Nat)=>s≤x.ins.length∧ ∀ i (g1:i<x.ins.length) (g2:i<y.ins.length),i<s→x.ins[i]=y.ins[i]) (fun s=> [(5,.int .i64 (s:Int)),(2,.pointer (some ⟨n1,0,none⟩)),(3,.pointer (some ⟨n2,0,none⟩)),(4,.bool false)]) (fun s=>pto n1 (.cells (Y2 x).toArray 34 (0,0))::pto n2 (.cells (Y2 y).toArray 34 (0,0))::(q++F)) (fun s=>x.ins.length - s) (fun s hi_ ih=> ?_) 0 ⟨Nat.zero_le _,fun i _ _ h=>absurd h (Nat.not_lt_zero i)⟩) Zp leA
 try dsimp only at hi_ ih⊢
 obtain ⟨hs0,hP⟩:=hi_
 refine xl 5 ?_;refine ox 3 ?_;refine X.part 39 rfl (fun h0=> ?_) (fun h0=> ?_)
 · replace h0:=sp h0;have hk1:s<x.ins.length:=(by omega);have hk2:s<y.ins.length:=(by omega)
   refine xx 5 ?_;refine drw ?_;refine dl [0] 1 ?_;refine dd [2] ?_;refine Wp hx.i (by rw [hl1];omega) (fun b1 o1 e1=> ?_)
   have hs1:=hx.i;rw [e1] at hs1
   refine XD.know 43 (.slice (some ⟨b1,o1,none⟩) x.ins.length x.ic) rfl (by rw [e1]) ?_
   refine dd [3] ?_;refine V9 4 (m:=s) isAgg48 sizeOf48 hs1 hk1 ?_
   refine dl [5] 6 ?_;refine dd [7] ?_;refine Wp hy.i (by rw [hl2];omega) (fun b2 o2 e2=> ?_)
   have hs2:=hy.i;rw [e2] at hs2
   refine XD.know 48 (.slice (some ⟨b2,o2,none⟩) y.ins.length y.ic) rfl (by rw [e2]) ?_
   refine dd [8] ?_;refine V9 9 (m:=s) isAgg48 sizeOf48 hs2 hk2 ?_
   refine Vb 10 rfl (X2 rfl rfl (by kernel_rfl) (EqV.struct underlying48 (by kernel_rfl) (by kernel_rfl) ⟨_,_,_,_,rfl,rfl,isAgg46,(EqV.int underlying46 _ _),⟨_,_,_,_,rfl,rfl,isAgg3,(EqV.int underlying3 _ _),⟨_,_,_,_,rfl,rfl,isAgg3,(EqV.int underlying3 _ _),⟨_,_,_,_,rfl,rfl,isAgg2,(EqV.int underlying2 _ _),rfl,rfl⟩,rfl⟩,rfl⟩,rfl⟩)) ?_
   refine XD.nil ?_;refine X.part 52 rfl (fun z1=> ?_) (fun z1=> ?_)
   · replace z1:=sp z1
     refine xx 5 ?_;refine Zq (q) func57 (Zu results57 rfl) ⟨_,rfl,false,rfl,⟨fun e=>(by cases e),fun e=>(by exfalso;simp only [Cod.pl,Prod.mk.injEq] at e;obtain ⟨e1,e2,e3,e4⟩:=e;have e5:x.ins[s]=y.ins[s]:=(by simp only [e3]);rw [e5] at z1;simp at z1)⟩,rfl⟩
   replace z1:=sp z1
   refine xx 8 ?_;refine X.at (ih (s+1) ⟨by omega,fun i g1 g2 g3=>by rcases Nat.lt_or_ge i s with e|e;exact hP i g1 g2 e;obtain rfl:i=s:=(by omega);exact Ins.ext4 z1.1 z1.2.1 z1.2.2.1 z1.2.2.2⟩ (by omega)) Zp leA
 replace h0:=sp h0
 refine xx 6 ?_
 have hins:x.ins=y.ins:=Mv hll.2.2.1 (fun i g1 g2=>hP i g1 g2 (by omega))
 refine Zq (q) func57 (Zu results57 rfl) ⟨_,rfl,true,rfl,⟨fun _=>by unfold Cod.pl;rw [hll.1,hll.2.1,hins,hll.2.2.2],fun _=>rfl⟩,rfl⟩
set_option maxHeartbeats 4000000 in
theorem Zqp (hx:MdlQ q m)(hy:MdlQ q m2):CallF prog G 30 [.agg (Wo m).toArray,.agg (Wo m2).toArray] (q) (Ret fun v q'=> ∃ bb:Bool,v= .bool bb∧(bb=true↔m.pl=m2.pl)∧q'=q):=by
 refine CallF.of func30 ntmps30 rfl (fun F cs=> ?_)
 have k1:=hx.nv;have k2:=hx.na;have k3:=hx.nc;have k4:=hx.nt;have k5:=hy.nv;have k6:=hy.na;have k7:=hy.nc;have k8:=hy.nt;have hl1:=Zb (f:=Y2) (sz:=4) (fun _=>rfl) m.threads;have hl2:=Zb (f:=Y2) (sz:=4) (fun _=>rfl) m2.threads
 refine xo 2 ?_;refine Zl fun n1=> ?_
 refine Zl fun n2=> ?_
 refine ol 6 ?_;refine ol 2 ?_;refine oo 3 ?_;refine Zg [14,4,3,2] ?_
 apply Zw 7 21 14 rfl
 · intro g1 M1;have h1:=sp g1
   refine ol 1 ?_;refine ol 1 ?_;refine XO.cR call56 (Bb (hx.a.le leA) (hy.a.le leA) ⟨k2,k6⟩) ?_
   refine Zc (Pu.not rfl) ?_;refine oo 1 ?_;exact Zz M1 ⟨orF g1,Zv⟩
 · intro g1 M1;have h1:=sp g1
   refine oo 7 ?_;exact Zz M1 ⟨orT g1,Zv⟩
 refine oo 1 ?_;refine Zg [22,4,3,2] ?_
 apply Zw 7 29 22 rfl
 · intro g1 M1;have h1:=sp g1
   refine ol 1 ?_;refine ol 1 ?_;refine XO.cR call56 (Bb (hx.c.le leA) (hy.c.le leA) ⟨k3,k7⟩) ?_
   refine Zc (Pu.not rfl) ?_;refine oo 1 ?_;exact Zz M1 ⟨orF g1,Zv⟩
 · intro g1 M1;have h1:=sp g1
   refine oo 7 ?_;exact Zz M1 ⟨orT g1,Zv⟩
 refine oo 1 ?_;refine Zg [30,4,3,2] ?_
 apply Zw 6 36 30 rfl
 · intro g1 M1;have h1:=sp g1
   refine ol 1 ?_;refine ol 1 ?_;refine oo 2 ?_;exact Zz M1 ⟨orF g1,Zv⟩
 · intro g1 M1;have h1:=sp g1
   refine oo 6 ?_;exact Zz M1 ⟨orT g1,Zv⟩
 refine oo 1 ?_;refine Zg [37,4,3,2] ?_
 apply Zw 6 43 37 rfl
 · intro g1 M1;have h1:=sp g1
   refine ol 1 ?_;refine ol 1 ?_;refine oo 2 ?_;exact Zz M1 ⟨orF g1,Zv⟩
 · intro g1 M1;have h1:=sp g1
   refine oo 6 ?_;exact Zz M1 ⟨orT g1,Zv⟩
 refine oo 1 ?_;refine Zg [44,4,3,2] ?_
 apply Zw 8 52 44 rfl
 · intro g1 M1;have h1:=sp g1
   refine ol 1 ?_;refine ol 2 ?_;refine oo 3 ?_;exact Zz M1 ⟨orF g1,Zv⟩
 · intro g1 M1;have h1:=sp g1
   refine oo 8 ?_;exact Zz M1 ⟨orT g1,Zv⟩
 refine ox 1 ?_;refine X.part 52 rfl (fun h1=> ?_) (fun h1=> ?_)
 · replace h1:=sp h1
   refine xx 5 ?_;refine Zq (q) func30 (Zu results30 rfl) ⟨_,rfl,false,rfl,⟨fun e=>(by cases e),fun e=>(by exfalso;simp only [Mdl.pl,Prod.mk.injEq] at e;obtain ⟨e1,e2,e3,e4,e5,e6⟩:=e;have e7:=congrArg List.length e6;rw [List.length_map,List.length_map] at e7;rw [e1] at h1;simp [e2,e3,e4,e5,e7] at h1)⟩,rfl⟩
 replace h1:=sp h1
 refine xx 8 ?_
 have hll:m.vars.length=m2.vars.length∧m.arrays=m2.arrays∧m.chans=m2.chans∧m.mutexes=m2.mutexes∧m.conds=m2.conds∧m.threads.length=m2.threads.length:=⟨by omega,h1.1.1.1.1.2,h1.1.1.1.2,h1.1.1.2,h1.1.2,by omega⟩
 refine X.at (X.loop (fun (s:Nat)=>s≤m.vars.length∧ ∀ i (g1:i<m.vars.length) (g2:i<m2.vars.length),i<s→m.vars[i]=m2.vars[i]) (fun s=> [(5,.int .i64 (s:Int)),(2,.pointer (some ⟨n1,0,none⟩)),(3,.pointer (some ⟨n2,0,none⟩)),(4,.bool false)]) (fun s=>pto n1 (.cells (Wo m).toArray 26 (0,0))::pto n2 (.cells (Wo m2).toArray 26 (0,0))::(q++F)) (fun s=>m.vars.length - s) (fun s hi_ ih=> ?_) 0 ⟨Nat.zero_le _,fun i _ _ h=>absurd h (Nat.not_lt_zero i)⟩) Zp leA
 try dsimp only at hi_ ih⊢
 obtain ⟨hs0,hP⟩:=hi_
 refine xl 5 ?_;refine ox 3 ?_;refine X.part 57 rfl (fun h0=> ?_) (fun h0=> ?_)
 · replace h0:=sp h0;have hk1:s<m.vars.length:=(by omega);have hk2:s<m2.vars.length:=(by omega)
   refine xx 5 ?_;refine drw ?_;refine dl [0] 1 ?_;refine dd [2] ?_;refine Wp hx.v (by rw [List.length_map];omega) (fun b1 o1 e1=> ?_)
   have hs1:=hx.v;rw [e1] at hs1
   refine XD.know 61 (.slice (some ⟨b1,o1,none⟩) m.vars.length m.vc) rfl (by rw [e1]) ?_
   refine dd [3] ?_;refine ldD 4 ?_ (hc:=(Cl.e1 hs1 leA hk1 rfl))
   refine dl [5] 6 ?_;refine dd [7] ?_;refine Wp hy.v (by rw [List.length_map];omega) (fun b2 o2 e2=> ?_)
   have hs2:=hy.v;rw [e2] at hs2
   refine XD.know 66 (.slice (some ⟨b2,o2,none⟩) m2.vars.length m2.vc) rfl (by rw [e2]) ?_
   refine dd [8] ?_;refine ldD 9 ?_ (hc:=(Cl.e1 hs2 leA hk2 rfl))
   refine dd [10] ?_;refine XD.nil ?_;refine X.part 70 rfl (fun z1=> ?_) (fun z1=> ?_)
   · replace z1:=sp z1
     refine xx 5 ?_;refine Zq (q) func30 (Zu results30 rfl) ⟨_,rfl,false,rfl,⟨fun e=>(by cases e),fun e=>(by exfalso;simp only [Mdl.pl,Prod.mk.injEq] at e;obtain ⟨e1,e2,e3,e4,e5,e6⟩:=e;have e7:=congrArg List.length e6;rw [List.length_map,List.length_map] at e7;apply z1;simp only [e1])⟩,rfl⟩
   replace z1:=sp z1
   refine xx 8 ?_;refine X.at (ih (s+1) ⟨by omega,fun i g1 g2 g3=>by rcases Nat.lt_or_ge i s with e|e;exact hP i g1 g2 e;obtain rfl:i=s:=(by omega);exact z1⟩ (by omega)) Zp leA
 replace h0:=sp h0;have hv:m.vars=m2.vars:=Mv hll.1 (fun i g1 g2=>hP i g1 g2 (by omega));clear ih hP h0
 refine xx 8 ?_;refine X.at (X.loop (fun (s:Nat)=>s≤m.threads.length∧ ∀ i (g1:i<m.threads.length) (g2:i<m2.threads.length),i<s→m.threads[i].pl=m2.threads[i].pl) (fun s=> [(6,.int .i64 (s:Int)),(2,.pointer (some ⟨n1,0,none⟩)),(3,.pointer (some ⟨n2,0,none⟩)),(4,.bool false)]) (fun s=>pto n1 (.cells (Wo m).toArray 26 (0,0))::pto n2 (.cells (Wo m2).toArray 26 (0,0))::(q++F)) (fun s=>m.threads.length - s) (fun s hi_ ih=> ?_) 0 ⟨Nat.zero_le _,fun i _ _ h=>absurd h (Nat.not_lt_zero i)⟩) Zp leA
 try dsimp only at hi_ ih⊢
 obtain ⟨hs0,hP⟩:=hi_
 refine xl 5 ?_;refine ox 3 ?_;refine X.part 75 rfl (fun h0=> ?_) (fun h0=> ?_)
 · replace h0:=sp h0;have hk1:s<m.threads.length:=(by omega);have hk2:s<m2.threads.length:=(by omega)
   refine xx 5 ?_;refine drw ?_;refine dl [0] 1 ?_;refine dd [2] ?_;refine Wp hx.t (by rw [hl1];omega) (fun bv ov ev=> ?_)
   have hsv:=hx.t;rw [ev] at hsv
   refine XD.know 79 (.slice (some ⟨bv,ov,none⟩) m.threads.length m.tc) rfl (by rw [ev]) ?_
   refine dd [3] ?_;refine V9 4 (m:=s) isAgg34 sizeOf34 hsv hk1 ?_
   refine dl [5] 6 ?_;refine dd [7] ?_;refine Wp hy.t (by rw [hl2];omega) (fun bw ow ew=> ?_)
   have hsw:=hy.t;rw [ew] at hsw
   refine XD.know 84 (.slice (some ⟨bw,ow,none⟩) m2.threads.length m2.tc) rfl (by rw [ew]) ?_
   refine dd [8] ?_;refine V9 9 (m:=s) isAgg34 sizeOf34 hsw hk2 ?_
   refine Yj 10 call57 (Le.refl _) (Pm (x:=m.threads[s]) (y:=m2.threads[s]) ((hx.x _ (List.getElem_mem hk1)).le leA) ((hy.x _ (List.getElem_mem hk2)).le leA)) ?_
   rintro _ _ ⟨bb,rfl,hbb,rfl⟩
   refine ⟨hlR,?_⟩
   refine Vb 11 rfl (Pu.not rfl) ?_;refine XD.nil ?_;refine X.part 89 rfl (fun z1=> ?_) (fun z1=> ?_)
   · replace z1:=sp z1
     refine xx 5 ?_;refine Zq (q) func30 (Zu results30 rfl) ⟨_,rfl,false,rfl,⟨fun e=>(by cases e),fun e=>(by exfalso;simp only [Mdl.pl,Prod.mk.injEq] at e;obtain ⟨e1,e2,e3,e4,e5,e6⟩:=e;have e7:=congrArg List.length e6;rw [List.length_map,List.length_map] at e7;have e8:(m.threads.map Cod.pl)[s]'(by simpa using hk1)=(m2.threads.map Cod.pl)[s]'(by simpa using hk2):=(by simp only [e6]);rw [List.getElem_map,List.getElem_map] at e8;rw [hbb.2 e8] at z1;cases z1)⟩,rfl⟩
   replace z1:=sp z1
   refine xx 8 ?_;refine X.at (ih (s+1) ⟨by omega,fun i g1 g2 g3=>by rcases Nat.lt_or_ge i s with e|e;exact hP i g1 g2 e;obtain rfl:i=s:=(by omega);exact hbb.1 z1⟩ (by omega)) Zp leA
 replace h0:=sp h0;have ht:m.threads.map Cod.pl=m2.threads.map Cod.pl:=Mv (by rw [List.length_map,List.length_map];exact hll.2.2.2.2.2) (fun i g1 g2=>by rw [List.getElem_map,List.getElem_map];exact hP i (by simpa using g1) (by simpa using g2) (by have:i<m.threads.length:=(by simpa using g1);omega))
 refine xx 6 ?_;refine Zq (q) func30 (Zu results30 rfl) ⟨_,rfl,true,rfl,⟨fun _=>by unfold Mdl.pl;rw [hv,hll.2.1,hll.2.2.1,hll.2.2.2.1,hll.2.2.2.2.1,ht],fun _=>rfl⟩,rfl⟩
theorem Mj:CallF prog G 13 [.int .i64 cd] (q) (Ret fun v q'=>v= .int .i64 cd∧q'=q):=by
 refine CallF.of func13 ntmps13 rfl (fun F cs=> ?_)
 refine xx 9 ?_;refine Zq (q) func13 (Zu results13 rfl) ⟨_,rfl,rfl,rfl⟩
end
section
variable {α:Type}{P:Program}{G:World}{p:PE}{q:List HP}{sz ty:Nat}{d:Option Tmp}{ty':TypeId}{pos:String}{af:Array Edge}{gd:Option (Nat×Bool)}{t:TypeId}{z:Value}{bytes n:Nat}{ps:List (Nat×Operand)}
theorem Fy {f:α→List Value}(hf: ∀ x,(f x).length=sz): ∀ (l:List α) (k:Nat) (pre post:List Value),pre.length=k*sz→l.length*sz≤post.length→Instr.fill (fun i=>some (i*sz,sz)) (pre++post).toArray ((List.range' k l.length).zip (l.map fun u=>Value.agg (f u).toArray))=some (pre++l.flatMap f++post.drop (l.length*sz)).toArray
 | [],k,pre,post,_,_=>by simp [Instr.fill]
 |u::r,k,pre,post,h1,h2=>by
  rw [List.length_cons,Nat.add_mul,Nat.one_mul] at h2
  have hc:(Value.agg (f u).toArray).cells=(f u).toArray:=rfl
  have e1: ∀ (off:Nat) (us:List Value) (A:Array Value),(us.toArray.zipIdx).foldl (fun cs (c,i)=>cs.setIfInBounds (off+i) c) A=(us.zipIdx 0).foldl (fun cs (c,i)=>cs.setIfInBounds (off+i) c) A:=by intro off us A;simp
  have k1:=(e1 (k*sz) (f u) _).trans (Rg (k*sz) (f u) 0 pre post (by simpa using h1) (by rw [hf];omega))
  have ih:=Fy hf r (k+1) (pre++f u) (post.drop (f u).length) (by rw [List.length_append,h1,hf,Nat.add_mul,Nat.one_mul]) (by rw [List.length_drop,hf];omega)
  rw [List.length_cons,List.range'_succ,List.map_cons,List.zip_cons_cons]
  simp only [Instr.fill,hc]
  rw [if_neg (by simp [hf];omega),k1,ih]
  simp only [List.flatMap_cons,List.append_assoc,List.drop_drop,hf]
  congr 4
  rw [Nat.add_mul,Nat.one_mul,Nat.add_comm]
theorem W7 (f:α→List Value)(l:List α)(ht:P.underlying t=some (.slice ty))(hi:(P.info? ty).map (fun i=>(i.zero,i.size,i.bytes))=some (some z,sz,bytes))(h1:Nat.ble (n*sz) 16777216=true)(h0:Nat.blt 0 sz=true)
 (hf: ∀ x,(f x).length=sz) (hv:evl p (ps.map (·.2))=some (l.map fun u=>Value.agg (f u).toArray)) (hx:ps.map (·.1)=List.range' 0 n) (hn:l.length=n) (h2:Nat.blt 0 n=true):
 Ef P G p q ⟨d,.buildSlice t n ps.toArray,ty',pos,af,gd⟩ fun v q'=> ∃ g,v= .slice (some ⟨g,0,none⟩) n n∧q'=Wx.rsH f sz ty (some ⟨g,0,none⟩) n l::q:=by
 subst hn
 have h0':0<sz:=by simpa [Nat.blt_eq] using h0
 have h2':0<l.length:=by simpa [Nat.blt_eq] using h2
 have hfill:Instr.fill (fun i=>some (i*sz,sz)) ((Array.range (l.length*sz)).map (z.cells[· % z.cells.size]!)) ((ps.map (·.1)).zip (l.map fun u=>Value.agg (f u).toArray))=some (l.flatMap f).toArray:=by
  rw [hx]
  have:=Fy hf l 0 [] ((Array.range (l.length*sz)).map (z.cells[· % z.cells.size]!)).toList (by simp) (by simp)
  rw [List.nil_append,List.nil_append,Array.toArray_toList,List.drop_eq_nil_of_le (by simp),List.append_nil] at this
  exact this
 have:=Ef.buildSlice (P:=P) (G:=G) (p:=p) (q:=q) (d:=d) (ty:=ty') (pos:=pos) (af:=af) (gd:=gd) (ps:=ps) (len:=l.length) ht hi hv (by simpa using h1) (by rw [Nat.blt_eq];exact Nat.mul_pos h2' h0') hfill (Zb hf l)
 simpa [Wx.rsH] using this
end
def Jt (xs:List Ins)(a:Option Addr)(c:Nat)(g0 g1:Nat):Mdl:=⟨[], [], [],0,0, [⟨⟨#[109,97,105,110]⟩,0,xs,List.replicate xs.length 0,a,c,some ⟨g0,0,none⟩,xs.length⟩],none,0,none,0,none,0,some ⟨g1,0,none⟩,1⟩
section
variable {G:World}{q:List HP}{a b A:Option Addr}{c d:Nat}{cd:Int}{l:List Ins}{ln:List Int}{o:List Bool}
variable {nt:Nat}{nm:ByteArray}{lo:Int}{ia la wa:Option Addr}{ic lc wc:Nat}{I:List Ins}{L W:List Int}
variable {m m2:Mdl}{x y:Cod}{j k:List Int}
variable {xs ys:List Ins}
theorem Tv (hL:xs.length≤1000):CallF prog G 33 [.slice a xs.length c] (q) (Ret fun v q'=> ∃ g0 g1,v= .agg (Wo (Jt xs a c g0 g1)).toArray∧q'=rsH Y2 4 34 (some ⟨g1,0,none⟩) 1 (Jt xs a c g0 g1).threads::lsH I64 3 (some ⟨g0,0,none⟩) xs.length (List.replicate xs.length 0)::q):=by
 refine CallF.of func33 ntmps33 rfl (fun F cs=> ?_)
 refine xo 2 ?_;refine Zm zeroValue26 fun n1=> ?_
 refine oo 6 ?_;refine XO.ef (Q7 (n:=xs.length) rfl rfl underlying23 Uh rfl rfl (by omega) (by omega)) ?_
 rintro _ _ ⟨g0,rfl,rfl⟩
 refine XO.le (q':=lsH I64 3 (some ⟨g0,0,none⟩) xs.length (List.replicate xs.length 0)::_) (Le.trans Zj (by rw [←Jl (f:=I64) (u:=0) rfl];exact Le.refl _)) ?_
 refine oo 1 ?_;refine XO.know 7 (.agg (Y2 (⟨⟨#[109,97,105,110]⟩,0,xs,List.replicate xs.length 0,a,c,some ⟨g0,0,none⟩,xs.length⟩:Cod)).toArray) rfl (by simp [Y2]) ?_
 refine XO.ef (Yd (u:=(⟨⟨#[109,97,105,110]⟩,0,xs,List.replicate xs.length 0,a,c,some ⟨g0,0,none⟩,xs.length⟩:Cod)) Y2 underlying24 C8 rfl rfl (fun _=>rfl) rfl) ?_
 rintro _ _ ⟨g1,rfl,rfl⟩
 refine oo 1 ?_;refine stA ?_;refine ox 1 ?_;refine Zq (rsH Y2 4 34 (some ⟨g1,0,none⟩) 1 (Jt xs a c g0 g1).threads::lsH I64 3 (some ⟨g0,0,none⟩) xs.length (List.replicate xs.length 0)::q) func33 (rA_ results33) ⟨_,rfl,g0,g1,rfl,rfl⟩
theorem Ds {g0 g1:Nat}{r1 r2:List HP}(hs:Sees q a (xs.flatMap Zx))(hL:xs.length≤1000)(h1:Le q (rsH Y2 4 34 (some ⟨g1,0,none⟩) 1 (Jt xs a c g0 g1).threads::r1))(h2:Le q (lsH I64 3 (some ⟨g0,0,none⟩) xs.length (List.replicate xs.length 0)::r2)):MdlQ q (Jt xs a c g0 g1):=
 ⟨Sees.nil _ _,Sees.nil _ _,Sees.nil _ _,(Sees.rsH _).le h1,fun x hx=>by
  obtain rfl:=List.mem_singleton.1 hx
  exact ⟨hs,(Sees.lsH _).le h2,(show 4≤9223372036854775807 by decide),by dsimp only;omega,by dsimp only;rw [List.length_replicate];omega⟩,Nat.zero_le _,Nat.zero_le _,Nat.zero_le _,(show 1≤9223372036854775807 by decide),Nat.zero_le _⟩
theorem C0 {m':Mdl}{a2:Option Addr}{c2 g0 g1 g2 g3:Nat}(h:TigM (Jt xs a c g0 g1) m')(e:tiI xs=ys)(e2:tiL xs (List.replicate xs.length (0:Int))=List.replicate ys.length 0):m'.pl=(Jt ys a2 c2 g2 g3).pl:=by
 unfold Mdl.pl
 rw [h.v,h.a,h.c,h.mu,h.co,h.t]
 simp only [Jt,List.map_cons,List.map_nil,Gw,Cod.pl,e,e2]
theorem tk_v0 (a:Option Addr)(c g0 g1:Nat):V0 (Jt [⟨19,2,0,0⟩,⟨34,0,0,0⟩,⟨19,1,0,0⟩] a c g0 g1)=0:=by kernel_rfl
theorem tk_i0:tiI [⟨19,2,0,0⟩,⟨34,0,0,0⟩,⟨19,1,0,0⟩]= [⟨34,0,0,0⟩]:=by kernel_rfl
theorem tk_l0:tiL [⟨19,2,0,0⟩,⟨34,0,0,0⟩,⟨19,1,0,0⟩] (List.replicate 3 (0:Int))=List.replicate 1 0:=by kernel_rfl
theorem tk_v1 (a:Option Addr)(c g0 g1:Nat):V0 (Jt [⟨1,0,0,1⟩,⟨20,3,0,0⟩,⟨34,0,0,0⟩,⟨19,2,0,0⟩] a c g0 g1)=0:=by kernel_rfl
theorem tk_i1:tiI [⟨1,0,0,1⟩,⟨20,3,0,0⟩,⟨34,0,0,0⟩,⟨19,2,0,0⟩]= [⟨1,0,0,1⟩,⟨20,2,0,0⟩,⟨34,0,0,0⟩]:=by kernel_rfl
theorem tk_l1:tiL [⟨1,0,0,1⟩,⟨20,3,0,0⟩,⟨34,0,0,0⟩,⟨19,2,0,0⟩] (List.replicate 4 (0:Int))=List.replicate 3 0:=by kernel_rfl
theorem tk_v2 (a:Option Addr)(c g0 g1:Nat):V0 (Jt [⟨19,0,0,0⟩] a c g0 g1)=0:=by kernel_rfl
theorem tk_i2:tiI [⟨19,0,0,0⟩]= [⟨19,0,0,0⟩]:=by kernel_rfl
theorem tk_l2:tiL [⟨19,0,0,0⟩] (List.replicate 1 (0:Int))=List.replicate 1 0:=by kernel_rfl
theorem Hs:CallF prog G 34 [.int .i64 cd] (q) (Ret fun v q'=>v= .agg (Zx ⟨19,cd,0,0⟩).toArray∧q'=q):=by
 refine CallF.of func34 ntmps34 rfl (fun F cs=> ?_)
 refine xo 2 ?_;refine Zm zeroValue48 fun n1=> ?_
 refine oo 5 ?_;refine stA ?_;refine ox 1 ?_;refine Zq (q) func34 (rA_ results34) ⟨_,rfl,rfl,rfl⟩
set_option maxHeartbeats 2000000 in
theorem C3 (gc:GC q)(g:GE q)(hq:MdlQ q m)(hv:V0 m=0)(hs:Sees q a (ys.flatMap Zx))(hL:ys.length≤1000)(he: ∀ m',TigM m m'→ ∀ g2 g3,m'.pl=(Jt ys a c g2 g3).pl):CallF prog G 32 [.agg (Wo m).toArray,.slice a ys.length c] (q) (Ret fun v q'=>v= .bool true∧q'=q):=by
 refine CallF.of func32 ntmps32 rfl (fun F cs=> ?_)
 refine xo 2 ?_;refine Zl fun n1=> ?_
 refine oo 4 ?_;refine ldA ?_;refine Zh call11 (Le.refl _) (Ck (m:=m) (gc.le leA) (g.le leA) (hq.le leA)) ?_
 rintro _ _ (⟨hz,rfl,rfl⟩|⟨_,m2,hT,hB,rfl,rfl⟩)
 · exact absurd hv hz
 refine oo 3 ?_;refine Zm zeroValue26 fun n2=> ?_
 refine stA ?_;refine ox 3 ?_;refine drw ?_;refine dd [0] ?_;refine Z8 1 call13 (Mj) ?_;refine dd [2,3] ?_;refine XD.kt 15 ?_;refine Yw 4 ?_;refine dd [5] ?_;refine Yj 6 call33 (Le.refl _) (Tv (xs:=ys) (a:=a) (c:=c) hL) ?_
 rintro _ _ ⟨ga,gb,rfl,rfl⟩
 refine ⟨hlA,?_⟩
 refine Yj 7 call30 (Le.refl _) (Zqp (m:=m2) (m2:=Jt ys a c ga gb) (Ox knA hB) (Ds (hs.le leA) hL Zj Zj)) ?_
 rintro _ _ ⟨bb,rfl,hbb,rfl⟩
 refine ⟨trivial,?_⟩
 have hbt:bb=true:=hbb.2 (he m2 hT ga gb);subst hbt
 refine dd [8,9] ?_;refine XD.nil ?_;refine Zq (q) func32 (Zu results32 rfl) ⟨_,rfl,rfl,rfl⟩
set_option maxHeartbeats 8000000 in
theorem T1 (gc:GC q)(g:GE q):CallF prog G 10 [] (q) (Ret fun v q'=>v= .bool true∧q'=q):=by
 refine CallF.of func10 ntmps10 rfl (fun F cs=> ?_)
 refine xo 9 ?_;refine Zm zeroValue48 fun n1=> ?_
 refine Zm zeroValue48 fun n2=> ?_
 refine Zm zeroValue48 fun n3=> ?_
 refine stA ?_;refine stA ?_;refine stA ?_;refine oo 3 ?_;refine ldA ?_;refine Zm zeroValue48 fun n4=> ?_
 refine stA ?_;refine oo 4 ?_;refine st ?_;refine ox 1 ?_;refine X.le (q':=pto n1 (.cells [.int .i64 34,.int .i64 0,.int .i64 0,.int .i64 0].toArray 48 (0,0))::pto n2 (.cells [.int .i64 1,.int .i64 0,.int .i64 0,.int .i64 1].toArray 48 (0,0))::pto n3 (.cells [.int .i64 20,.int .i64 3,.int .i64 0,.int .i64 0].toArray 48 (0,0))::pto n4 (.cells [.int .i64 20,.int .i64 2,.int .i64 0,.int .i64 0].toArray 48 (0,0))::(q++F)) leA ?_
 refine xx 1 ?_;refine drw ?_;refine Yw 1 ?_;refine Yw 5 ?_;refine Yb (fl:= [⟨6,16,fun g=> .slice (some ⟨g,0,none⟩) 1 1,fun g=>rsH Zx 4 48 (some ⟨g,0,none⟩) 1 ([⟨34,0,0,0⟩])⟩]) ?_
 refine Jr 0 ⟨⟨_,rfl,rfl,rfl,rfl,rfl,rfl,fun q=>W7 Zx [⟨34,0,0,0⟩] underlying32 Vy rfl rfl (fun _=>rfl) rfl rfl rfl rfl⟩,trivial⟩ call34 (Le.refl _) (Hs) ?_
 rintro _ _ ⟨rfl,rfl⟩
 refine ⟨hlA,?_⟩
 change XF _ _ _ _ _ _ _ _ [(5,n1,0,.int .i64 34),(5,n1,1,.int .i64 0),(5,n1,2,.int .i64 0),(5,n1,3,.int .i64 0),(1,n1,0,.int .i64 34),(1,n1,1,.int .i64 0),(1,n1,2,.int .i64 0),(1,n1,3,.int .i64 0)] _ _ _ _ _ _
 refine Jr 2 ⟨⟨_,rfl,rfl,rfl,rfl,rfl,rfl,fun q=>W7 Zx [⟨34,0,0,0⟩] underlying32 Vy rfl rfl (fun _=>rfl) rfl rfl rfl rfl⟩,trivial⟩ call34 (Le.refl _) (Hs) ?_
 rintro _ _ ⟨rfl,rfl⟩
 refine ⟨hlA,?_⟩
 change XF _ _ _ _ _ _ _ _ [(5,n1,0,.int .i64 34),(5,n1,1,.int .i64 0),(5,n1,2,.int .i64 0),(5,n1,3,.int .i64 0),(1,n1,0,.int .i64 34),(1,n1,1,.int .i64 0),(1,n1,2,.int .i64 0),(1,n1,3,.int .i64 0)] _ _ _ _ _ _
 refine XF.ef 3 ⟨⟨_,rfl,rfl,rfl,rfl,rfl,rfl,fun q=>W7 Zx [⟨34,0,0,0⟩] underlying32 Vy rfl rfl (fun _=>rfl) rfl rfl rfl rfl⟩,trivial⟩ (A8 (V:=fun g=> .slice (some ⟨g,0,none⟩) 3 3) (A:=fun g=>rsH Zx 4 48 (some ⟨g,0,none⟩) 3 ([⟨19,2,0,0⟩,⟨34,0,0,0⟩,⟨19,1,0,0⟩])) (fun q=>W7 Zx [⟨19,2,0,0⟩,⟨34,0,0,0⟩,⟨19,1,0,0⟩] underlying32 Vy rfl rfl (fun _=>rfl) rfl rfl rfl rfl)) ?_
 rintro _ _ ⟨gl0,rfl,rfl⟩
 refine ⟨hlA,?_⟩
 change XF _ _ _ _ _ _ _ _ [(5,n1,0,.int .i64 34),(5,n1,1,.int .i64 0),(5,n1,2,.int .i64 0),(5,n1,3,.int .i64 0)] _ _ _ _ _ _
 refine Jr 4 ⟨⟨_,rfl,rfl,rfl,rfl,rfl,rfl,fun q=>W7 Zx [⟨34,0,0,0⟩] underlying32 Vy rfl rfl (fun _=>rfl) rfl rfl rfl rfl⟩,trivial⟩ call33 (Le.refl _) (Tv (xs:= [⟨19,2,0,0⟩,⟨34,0,0,0⟩,⟨19,1,0,0⟩]) (by decide)) ?_
 rintro _ _ ⟨ga0,gb0,rfl,rfl⟩
 refine ⟨hlA,?_⟩
 change XF _ _ _ _ _ _ _ _ [(5,n1,0,.int .i64 34),(5,n1,1,.int .i64 0),(5,n1,2,.int .i64 0),(5,n1,3,.int .i64 0)] _ _ _ _ _ _
 refine Wn (e0:=⟨6,16,fun g=> .slice (some ⟨g,0,none⟩) 1 1,fun g=>rsH Zx 4 48 (some ⟨g,0,none⟩) 1 ([⟨34,0,0,0⟩])⟩) (hnd:=by simp) 6 ⟨⟨_,rfl,rfl,rfl,rfl,rfl,rfl,fun q=>W7 Zx [⟨34,0,0,0⟩] underlying32 Vy rfl rfl (fun _=>rfl) rfl rfl rfl rfl⟩,trivial⟩ (fun gl1=> ?_)
 change XF _ _ _ _ _ _ _ [] _ _ _ ((16,.slice (some ⟨gl1,0,none⟩) 1 1)::_) _ _ (rsH Zx 4 48 (some ⟨gl1,0,none⟩) 1 ([⟨34,0,0,0⟩])::_)
 refine XF.back ?_
 change XD _ _ _ _ _ _ _ [(5,n1,0,.int .i64 34),(5,n1,1,.int .i64 0),(5,n1,2,.int .i64 0),(5,n1,3,.int .i64 0)] _ _ _ _ _ _
 refine Yj 7 call32 (Le.refl _) (C3 (m:=Jt [⟨19,2,0,0⟩,⟨34,0,0,0⟩,⟨19,1,0,0⟩] (some ⟨gl0,0,none⟩) 3 ga0 gb0) (ys:= [⟨34,0,0,0⟩]) (gc.le leA) (g.le leA) (Ds (xs:= [⟨19,2,0,0⟩,⟨34,0,0,0⟩,⟨19,1,0,0⟩]) ((Sees.rsH _).le Zj) (by decide) Zj Zj) (tk_v0 _ _ _ _) ((Sees.rsH _).le Zj) (by decide) (fun m2 h g2 g3=>C0 h tk_i0 tk_l0)) ?_
 rintro _ _ ⟨rfl,rfl⟩
 refine ⟨hlA,?_⟩
 refine XD.le (q':=pto n1 (.cells [.int .i64 34,.int .i64 0,.int .i64 0,.int .i64 0].toArray 48 (0,0))::pto n2 (.cells [.int .i64 1,.int .i64 0,.int .i64 0,.int .i64 1].toArray 48 (0,0))::pto n3 (.cells [.int .i64 20,.int .i64 3,.int .i64 0,.int .i64 0].toArray 48 (0,0))::pto n4 (.cells [.int .i64 20,.int .i64 2,.int .i64 0,.int .i64 0].toArray 48 (0,0))::(q++F)) leA ?_
 change XD _ _ _ _ _ _ _ [(5,n1,0,.int .i64 34),(5,n1,1,.int .i64 0),(5,n1,2,.int .i64 0),(5,n1,3,.int .i64 0)] _ _ _ _ _ _
 refine dd [8] ?_;refine Yw 9 ?_;refine Yw 10 ?_;refine Yw 11 ?_;refine Yw 15 ?_;refine Yw 16 ?_;refine Yw 17 ?_;refine Yb (fl:= [⟨18,28,fun g=> .slice (some ⟨g,0,none⟩) 3 3,fun g=>rsH Zx 4 48 (some ⟨g,0,none⟩) 3 ([⟨1,0,0,1⟩,⟨20,2,0,0⟩,⟨34,0,0,0⟩])⟩]) ?_
 refine Jr 12 ⟨⟨_,rfl,rfl,rfl,rfl,rfl,rfl,fun q=>W7 Zx [⟨1,0,0,1⟩,⟨20,2,0,0⟩,⟨34,0,0,0⟩] underlying32 Vy rfl rfl (fun _=>rfl) rfl rfl rfl rfl⟩,trivial⟩ call34 (Le.refl _) (Hs) ?_
 rintro _ _ ⟨rfl,rfl⟩
 refine ⟨hlA,?_⟩
 change XF _ _ _ _ _ _ _ _ [(17,n1,0,.int .i64 34),(17,n1,1,.int .i64 0),(17,n1,2,.int .i64 0),(17,n1,3,.int .i64 0),(16,n4,0,.int .i64 20),(16,n4,1,.int .i64 2),(16,n4,2,.int .i64 0),(16,n4,3,.int .i64 0),(15,n2,0,.int .i64 1),(15,n2,1,.int .i64 0),(15,n2,2,.int .i64 0),(15,n2,3,.int .i64 1),(11,n1,0,.int .i64 34),(11,n1,1,.int .i64 0),(11,n1,2,.int .i64 0),(11,n1,3,.int .i64 0),(10,n3,0,.int .i64 20),(10,n3,1,.int .i64 3),(10,n3,2,.int .i64 0),(10,n3,3,.int .i64 0),(9,n2,0,.int .i64 1),(9,n2,1,.int .i64 0),(9,n2,2,.int .i64 0),(9,n2,3,.int .i64 1),(5,n1,0,.int .i64 34),(5,n1,1,.int .i64 0),(5,n1,2,.int .i64 0),(5,n1,3,.int .i64 0)] _ _ _ _ _ _
 refine XF.ef 13 ⟨⟨_,rfl,rfl,rfl,rfl,rfl,rfl,fun q=>W7 Zx [⟨1,0,0,1⟩,⟨20,2,0,0⟩,⟨34,0,0,0⟩] underlying32 Vy rfl rfl (fun _=>rfl) rfl rfl rfl rfl⟩,trivial⟩ (A8 (V:=fun g=> .slice (some ⟨g,0,none⟩) 4 4) (A:=fun g=>rsH Zx 4 48 (some ⟨g,0,none⟩) 4 ([⟨1,0,0,1⟩,⟨20,3,0,0⟩,⟨34,0,0,0⟩,⟨19,2,0,0⟩])) (fun q=>W7 Zx [⟨1,0,0,1⟩,⟨20,3,0,0⟩,⟨34,0,0,0⟩,⟨19,2,0,0⟩] underlying32 Vy rfl rfl (fun _=>rfl) rfl rfl rfl rfl)) ?_
 rintro _ _ ⟨gl2,rfl,rfl⟩
 refine ⟨hlA,?_⟩
 change XF _ _ _ _ _ _ _ _ [(17,n1,0,.int .i64 34),(17,n1,1,.int .i64 0),(17,n1,2,.int .i64 0),(17,n1,3,.int .i64 0),(16,n4,0,.int .i64 20),(16,n4,1,.int .i64 2),(16,n4,2,.int .i64 0),(16,n4,3,.int .i64 0),(15,n2,0,.int .i64 1),(15,n2,1,.int .i64 0),(15,n2,2,.int .i64 0),(15,n2,3,.int .i64 1),(5,n1,0,.int .i64 34),(5,n1,1,.int .i64 0),(5,n1,2,.int .i64 0),(5,n1,3,.int .i64 0)] _ _ _ _ _ _
 refine Jr 14 ⟨⟨_,rfl,rfl,rfl,rfl,rfl,rfl,fun q=>W7 Zx [⟨1,0,0,1⟩,⟨20,2,0,0⟩,⟨34,0,0,0⟩] underlying32 Vy rfl rfl (fun _=>rfl) rfl rfl rfl rfl⟩,trivial⟩ call33 (Le.refl _) (Tv (xs:= [⟨1,0,0,1⟩,⟨20,3,0,0⟩,⟨34,0,0,0⟩,⟨19,2,0,0⟩]) (by decide)) ?_
 rintro _ _ ⟨ga1,gb1,rfl,rfl⟩
 refine ⟨hlA,?_⟩
 change XF _ _ _ _ _ _ _ _ [(17,n1,0,.int .i64 34),(17,n1,1,.int .i64 0),(17,n1,2,.int .i64 0),(17,n1,3,.int .i64 0),(16,n4,0,.int .i64 20),(16,n4,1,.int .i64 2),(16,n4,2,.int .i64 0),(16,n4,3,.int .i64 0),(15,n2,0,.int .i64 1),(15,n2,1,.int .i64 0),(15,n2,2,.int .i64 0),(15,n2,3,.int .i64 1),(5,n1,0,.int .i64 34),(5,n1,1,.int .i64 0),(5,n1,2,.int .i64 0),(5,n1,3,.int .i64 0)] _ _ _ _ _ _
 refine Wn (e0:=⟨18,28,fun g=> .slice (some ⟨g,0,none⟩) 3 3,fun g=>rsH Zx 4 48 (some ⟨g,0,none⟩) 3 ([⟨1,0,0,1⟩,⟨20,2,0,0⟩,⟨34,0,0,0⟩])⟩) (hnd:=by simp) 18 ⟨⟨_,rfl,rfl,rfl,rfl,rfl,rfl,fun q=>W7 Zx [⟨1,0,0,1⟩,⟨20,2,0,0⟩,⟨34,0,0,0⟩] underlying32 Vy rfl rfl (fun _=>rfl) rfl rfl rfl rfl⟩,trivial⟩ (fun gl3=> ?_)
 change XF _ _ _ _ _ _ _ [] _ _ _ ((28,.slice (some ⟨gl3,0,none⟩) 3 3)::_) _ _ (rsH Zx 4 48 (some ⟨gl3,0,none⟩) 3 ([⟨1,0,0,1⟩,⟨20,2,0,0⟩,⟨34,0,0,0⟩])::_)
 refine XF.back ?_
 change XD _ _ _ _ _ _ _ [(17,n1,0,.int .i64 34),(17,n1,1,.int .i64 0),(17,n1,2,.int .i64 0),(17,n1,3,.int .i64 0),(16,n4,0,.int .i64 20),(16,n4,1,.int .i64 2),(16,n4,2,.int .i64 0),(16,n4,3,.int .i64 0),(15,n2,0,.int .i64 1),(15,n2,1,.int .i64 0),(15,n2,2,.int .i64 0),(15,n2,3,.int .i64 1),(5,n1,0,.int .i64 34),(5,n1,1,.int .i64 0),(5,n1,2,.int .i64 0),(5,n1,3,.int .i64 0)] _ _ _ _ _ _
 refine Yj 19 call32 (Le.refl _) (C3 (m:=Jt [⟨1,0,0,1⟩,⟨20,3,0,0⟩,⟨34,0,0,0⟩,⟨19,2,0,0⟩] (some ⟨gl2,0,none⟩) 4 ga1 gb1) (ys:= [⟨1,0,0,1⟩,⟨20,2,0,0⟩,⟨34,0,0,0⟩]) (gc.le leA) (g.le leA) (Ds (xs:= [⟨1,0,0,1⟩,⟨20,3,0,0⟩,⟨34,0,0,0⟩,⟨19,2,0,0⟩]) ((Sees.rsH _).le Zj) (by decide) Zj Zj) (tk_v1 _ _ _ _) ((Sees.rsH _).le Zj) (by decide) (fun m2 h g2 g3=>C0 h tk_i1 tk_l1)) ?_
 rintro _ _ ⟨rfl,rfl⟩
 refine ⟨hlA,?_⟩
 refine XD.le (q':=pto n1 (.cells [.int .i64 34,.int .i64 0,.int .i64 0,.int .i64 0].toArray 48 (0,0))::pto n2 (.cells [.int .i64 1,.int .i64 0,.int .i64 0,.int .i64 1].toArray 48 (0,0))::pto n3 (.cells [.int .i64 20,.int .i64 3,.int .i64 0,.int .i64 0].toArray 48 (0,0))::pto n4 (.cells [.int .i64 20,.int .i64 2,.int .i64 0,.int .i64 0].toArray 48 (0,0))::(q++F)) leA ?_
 change XD _ _ _ _ _ _ _ [(17,n1,0,.int .i64 34),(17,n1,1,.int .i64 0),(17,n1,2,.int .i64 0),(17,n1,3,.int .i64 0),(16,n4,0,.int .i64 20),(16,n4,1,.int .i64 2),(16,n4,2,.int .i64 0),(16,n4,3,.int .i64 0),(15,n2,0,.int .i64 1),(15,n2,1,.int .i64 0),(15,n2,2,.int .i64 0),(15,n2,3,.int .i64 1),(5,n1,0,.int .i64 34),(5,n1,1,.int .i64 0),(5,n1,2,.int .i64 0),(5,n1,3,.int .i64 0)] _ _ _ _ _ _
 refine dd [20,21] ?_;refine Z8 22 call34 (Hs) ?_
 change XD _ _ _ _ _ _ _ [(17,n1,0,.int .i64 34),(17,n1,1,.int .i64 0),(17,n1,2,.int .i64 0),(17,n1,3,.int .i64 0),(16,n4,0,.int .i64 20),(16,n4,1,.int .i64 2),(16,n4,2,.int .i64 0),(16,n4,3,.int .i64 0),(15,n2,0,.int .i64 1),(15,n2,1,.int .i64 0),(15,n2,2,.int .i64 0),(15,n2,3,.int .i64 1),(5,n1,0,.int .i64 34),(5,n1,1,.int .i64 0),(5,n1,2,.int .i64 0),(5,n1,3,.int .i64 0)] _ _ _ _ _ _
 refine XD.ef 23 rfl (W7 Zx [⟨19,0,0,0⟩] underlying32 Vy rfl rfl (fun _=>rfl) rfl rfl rfl rfl) ?_
 rintro _ _ ⟨gl4,rfl,rfl⟩
 refine ⟨hlA,?_⟩
 change XD _ _ _ _ _ _ _ [(17,n1,0,.int .i64 34),(17,n1,1,.int .i64 0),(17,n1,2,.int .i64 0),(17,n1,3,.int .i64 0),(16,n4,0,.int .i64 20),(16,n4,1,.int .i64 2),(16,n4,2,.int .i64 0),(16,n4,3,.int .i64 0),(15,n2,0,.int .i64 1),(15,n2,1,.int .i64 0),(15,n2,2,.int .i64 0),(15,n2,3,.int .i64 1),(5,n1,0,.int .i64 34),(5,n1,1,.int .i64 0),(5,n1,2,.int .i64 0),(5,n1,3,.int .i64 0)] _ _ _ _ _ _
 refine Yj 24 call33 (Le.refl _) (Tv (xs:= [⟨19,0,0,0⟩]) (by decide)) ?_
 rintro _ _ ⟨ga2,gb2,rfl,rfl⟩
 refine ⟨hlA,?_⟩
 change XD _ _ _ _ _ _ _ [(17,n1,0,.int .i64 34),(17,n1,1,.int .i64 0),(17,n1,2,.int .i64 0),(17,n1,3,.int .i64 0),(16,n4,0,.int .i64 20),(16,n4,1,.int .i64 2),(16,n4,2,.int .i64 0),(16,n4,3,.int .i64 0),(15,n2,0,.int .i64 1),(15,n2,1,.int .i64 0),(15,n2,2,.int .i64 0),(15,n2,3,.int .i64 1),(5,n1,0,.int .i64 34),(5,n1,1,.int .i64 0),(5,n1,2,.int .i64 0),(5,n1,3,.int .i64 0)] _ _ _ _ _ _
 refine Z8 25 call34 (Hs) ?_
 change XD _ _ _ _ _ _ _ [(17,n1,0,.int .i64 34),(17,n1,1,.int .i64 0),(17,n1,2,.int .i64 0),(17,n1,3,.int .i64 0),(16,n4,0,.int .i64 20),(16,n4,1,.int .i64 2),(16,n4,2,.int .i64 0),(16,n4,3,.int .i64 0),(15,n2,0,.int .i64 1),(15,n2,1,.int .i64 0),(15,n2,2,.int .i64 0),(15,n2,3,.int .i64 1),(5,n1,0,.int .i64 34),(5,n1,1,.int .i64 0),(5,n1,2,.int .i64 0),(5,n1,3,.int .i64 0)] _ _ _ _ _ _
 refine XD.ef 26 rfl (W7 Zx [⟨19,0,0,0⟩] underlying32 Vy rfl rfl (fun _=>rfl) rfl rfl rfl rfl) ?_
 rintro _ _ ⟨gl5,rfl,rfl⟩
 refine ⟨hlA,?_⟩
 change XD _ _ _ _ _ _ _ [(17,n1,0,.int .i64 34),(17,n1,1,.int .i64 0),(17,n1,2,.int .i64 0),(17,n1,3,.int .i64 0),(16,n4,0,.int .i64 20),(16,n4,1,.int .i64 2),(16,n4,2,.int .i64 0),(16,n4,3,.int .i64 0),(15,n2,0,.int .i64 1),(15,n2,1,.int .i64 0),(15,n2,2,.int .i64 0),(15,n2,3,.int .i64 1),(5,n1,0,.int .i64 34),(5,n1,1,.int .i64 0),(5,n1,2,.int .i64 0),(5,n1,3,.int .i64 0)] _ _ _ _ _ _
 refine Yj 27 call32 (Le.refl _) (C3 (m:=Jt [⟨19,0,0,0⟩] (some ⟨gl4,0,none⟩) 1 ga2 gb2) (ys:= [⟨19,0,0,0⟩]) (gc.le leA) (g.le leA) (Ds (xs:= [⟨19,0,0,0⟩]) ((Sees.rsH _).le Zj) (by decide) Zj Zj) (tk_v2 _ _ _ _) ((Sees.rsH _).le Zj) (by decide) (fun m2 h g2 g3=>C0 h tk_i2 tk_l2)) ?_
 rintro _ _ ⟨rfl,rfl⟩
 refine ⟨hlA,?_⟩
 refine XD.le (q':=pto n1 (.cells [.int .i64 34,.int .i64 0,.int .i64 0,.int .i64 0].toArray 48 (0,0))::pto n2 (.cells [.int .i64 1,.int .i64 0,.int .i64 0,.int .i64 1].toArray 48 (0,0))::pto n3 (.cells [.int .i64 20,.int .i64 3,.int .i64 0,.int .i64 0].toArray 48 (0,0))::pto n4 (.cells [.int .i64 20,.int .i64 2,.int .i64 0,.int .i64 0].toArray 48 (0,0))::(q++F)) leA ?_
 change XD _ _ _ _ _ _ _ [(17,n1,0,.int .i64 34),(17,n1,1,.int .i64 0),(17,n1,2,.int .i64 0),(17,n1,3,.int .i64 0),(16,n4,0,.int .i64 20),(16,n4,1,.int .i64 2),(16,n4,2,.int .i64 0),(16,n4,3,.int .i64 0),(15,n2,0,.int .i64 1),(15,n2,1,.int .i64 0),(15,n2,2,.int .i64 0),(15,n2,3,.int .i64 1),(5,n1,0,.int .i64 34),(5,n1,1,.int .i64 0),(5,n1,2,.int .i64 0),(5,n1,3,.int .i64 0)] _ _ _ _ _ _
 refine dd [28,29] ?_;refine XD.nil ?_;refine Zq (q) func10 (Zu results10 rfl) ⟨_,rfl,rfl,rfl⟩
end
theorem O0 {l:List Ins}{i:Ins}(h:i∈tiI l): ∃ x∈l,i.c=x.c∧i.b=x.b∧i.n=x.n∧(jm x=false→i.a=x.a)∧jm i=jm x:=by
 obtain ⟨k,hk,rfl⟩:=List.getElem_of_mem h
 have hk2:=hk
 rw [Q1] at hk2
 obtain ⟨p,hp,hr,rfl⟩:=De hk2
 have e:=Mo hp hr
 rw [Zr hk,V7 l hp,Zr hp,mv_two] at e
 refine ⟨l[p],List.getElem_mem hp,?_⟩
 rw [e]
 refine ⟨Rw _ _,?_,?_,fun hj=> ?_,mv_jm _ _⟩
 · unfold Ins.mv;split<;>rfl
 · unfold Ins.mv;split<;>rfl
 unfold Ins.mv;rw [if_neg (by rw [hj];decide)]
theorem Ot {m:Mdl}(h:Nw m)(hd: ∀ t∈m.threads,(dOf m t).2=0):V0 m=0:=by
 unfold V0
 rw [if_neg (by rw [Hi.2 h];decide)]
 generalize hl:m.threads=l at hd
 have: ∀ {l:List Cod},(∀ t∈l,(dOf m t).2=0)→Gv m l=0:=by
  intro l
  induction l with
  |nil=>intro _;rfl
  |cons x r ih=>
   intro hd
   unfold Gv
   rw [if_neg (by rw [hd x (List.mem_cons_self ..)];decide)]
   exact ih fun t ht=>hd t (List.mem_cons_of_mem _ ht)
 exact this hd
theorem Oe {l:List Ins}{ln:List Int}(h:ln.length=l.length):(tiL l ln).length=(tiI l).length:=by rw [S0,Tj,h,Q1]
theorem TigM.thr {m m':Mdl}(h:TigM m m'){t':Cod}(ht:t'∈m'.threads): ∃ t∈m.threads,t'.name=t.name∧t'.locals=t.locals∧t'.ins=tiI t.ins∧t'.lines=tiL t.ins t.lines:=by
 have h1:Cod.pl t'∈m.threads.map Gw:=by rw [←h.t];exact List.mem_map_of_mem ht
 obtain ⟨t,ht2,e⟩:=List.mem_map.1 h1
 simp only [Gw,Cod.pl,Prod.mk.injEq] at e
 exact ⟨t,ht2,e.1.symm,e.2.1.symm,e.2.2.1.symm,e.2.2.2.symm⟩
theorem slots_of {m:Mdl}{t:Cod}(hd:(dOf m t).2=0): ∀ x∈t.ins,Kz m t x:=by
 unfold dOf at hd
 split at hd
 · exact absurd hd (by decide)
 split at hd
 · exact absurd hd (by decide)
 rename_i k;exact Decidable.not_not.1 k
structure StrA (l:List Ins) (D:Nat→Int):Prop where
 s:Snd (Zy l) D
 b: ∀ i∈Zy l,0≤i.a
theorem ThOk.str {t:Cod}(h:ThOk t): ∃ D,StrA t.ins D:=by
 obtain ⟨D,hD⟩:=h.s
 exact ⟨D,hD.stra (fun i hi hj=>(h.a i hi hj).1),S4 h.b⟩
theorem TigM.ok0 {m m':Mdl}(h:TigM m m')(h0:V0 m=0):V0 m'=0:=by
 obtain ⟨k0,k1⟩:=vchkZ h0
 have hok:=Hi.1 k0
 have tl:m'.threads.length=m.threads.length:=by have:=congrArg List.length h.t;simpa using this
 refine Ot ⟨by rw [h.mu];exact hok.1,by rw [h.co];exact hok.2.1,by rw [h.v];exact hok.2.2.1,by rw [h.a];exact hok.2.2.2.1,by rw [h.c];exact hok.2.2.2.2.1,by rw [tl];exact hok.2.2.2.2.2.1,fun t' ht'=> ?_⟩ fun t' ht'=> ?_
 all_goals
  obtain ⟨t,ht,e1,e2,e3,e4⟩:=h.thr ht'
  obtain ⟨c1,c2,c3,⟨c4,c5⟩,c6,c7⟩:=hok.2.2.2.2.2.2 t ht
  have hT:=ThOk.of h0 ht
  obtain ⟨D,hD,hb⟩:=hT.str
 · have hl:=tiI_le t.ins
   refine ⟨by rw [e1];exact c1,by rw [e2];exact c2,by rw [e3,e4,Oe hT.ln],⟨by rw [e3];omega,fun i hi=> ?_⟩,⟨by rw [e4,Oe hT.ln];omega,fun n hn=> ?_⟩⟩
   · rw [e3] at hi
     obtain ⟨x,hx,x1,x2,x3,x4,x5⟩:=O0 hi
     obtain ⟨y1,y2,y3,y4⟩:=c5 x hx
     refine ⟨by rw [x1];exact y1,?_,by rw [x1,x2];exact y3,by rw [x1,x3];exact y4⟩
     rw [x1]
     cases hj:jm x with
     |false=>rw [x4 hj];exact y2
     |true=>
      have ha:=Cf hD hb i hi (by rw [x5,hj])
      have hc:nmA x.c=true:=by
       have hc:19≤x.c∧x.c≤21:=by unfold jm at hj;simpa using hj
       unfold nmA;exact decide_eq_true (by omega)
      rw [if_pos hc]
      omega
   rw [e4,S0] at hn;exact c7 n (Ru hn)
 have sl:=slots_of (k1 t ht)
 have sn:Snd t'.ins (fun k=>D (Ik t.ins k)):=by rw [e3];exact Gc hD hb
 refine sn.dOf fun i hi=> ?_
 rw [e3] at hi
 obtain ⟨x,hx,x1,x2,x3,x4,x5⟩:=O0 hi
 obtain ⟨s1,s2⟩:=sl x hx
 refine ⟨fun n hn=> ?_,fun hc=>by rw [x2,h.mu];exact s2 (x1 ▸ hc)⟩
 cases hj:jm x with
 |true=>
  have ha:=Cf hD hb i hi (by rw [x5,hj])
  have hc:19≤x.c∧x.c≤21:=by unfold jm at hj;simpa using hj
  have:Vw m' t' i.c=some (t'.ins.length:Int):=by unfold Vw;rw [x1,if_neg (by omega),if_neg (by omega),if_neg (by omega),if_pos (by omega)]
  rw [this] at hn
  cases hn
  rw [e3];omega
 |false=>
  rw [x4 hj]
  refine s1 n ?_
  have hc: ¬ (x.c=19∨x.c=20∨x.c=21):=by
   unfold jm at hj
   have:=of_decide_eq_false hj
   omega
  rw [x1] at hn
  unfold Vw at hn⊢
  rw [if_neg hc] at hn⊢
  rw [h.v,h.a,h.c,h.mu,h.co,tl,e2] at hn
  exact hn
end Go.Proofs.YtgonllbkcgaliaaGreatDoor
namespace Go.Proofs.YtgonllbkcgaliaaGreatDoor
open Go Go.RowKit Wx Go.Proofs.Tryz
structure Tk where
 k:Int
 t:ByteArray
 n:Int
 ln:Int
 cl:Int
def tkC (x:Tk):List Value:= [.int .i64 x.k,.string x.t,.int .i64 x.n,.int .i64 x.ln,.int .i64 x.cl]
def Ib (c:UInt8):Bool:=decide (97≤c.toNat) && decide (c.toNat≤122)
def Ju (c:UInt8):Bool:=decide (48≤c.toNat) && decide (c.toNat≤57)
def T3 (c:UInt8):Bool:=Ib c||Ju c
def wordsS:List Bs:= [[118,97,114], [97,114,114,97,121], [109,117,116,101,120], [99,111,110,100], [99,104,97,110], [116,104,114,101,97,100], [108,101,116], [105,102], [101,108,115,101], [119,104,105,108,101], [108,111,99,107], [117,110,108,111,99,107], [119,97,105,116], [115,105,103,110,97,108], [97,108,108], [115,101,110,100], [114,101,99,118], [115,112,97,119,110], [106,111,105,110], [112,114,105,110,116]]
def signsS:List Bs:= [[61,61], [33,61], [60,61], [38,38], [124,124], [59], [40], [41], [123], [125], [91], [93], [61], [60], [43], [45], [42], [47], [37], [33]]
def kwS (w:Bs):Bool:=wordsS.any (· ==w)
def Ma (w:Bs):Int:=w.foldl (fun n c=>n*10+((c.toNat:Int) - 48)) 0
def Ps (w:Bs):Option Int:=if w.all Ju && decide (w.length≤10) then (if Ma w≤2147483647∧(w.length=1∨w.getD 0 0≠48) then some (Ma w) else none) else none
def Ty (l:Bs):Nat:=(l.takeWhile T3).length
def Ca (l:Bs):Option (Int×Bs×Int):=
 let w:=l.take (Ty l)
 if 0<Ty l∧Ju (l.getD 0 0)=true then (match Ps w with|some x=>some (2,w,x)|none=>none)
 else if 0<Ty l∧kwS w=true then some (3,w,0)
 else if 16<Ty l then none
 else if 0<Ty l then some (1,w,0)
 else match signsS.find? (fun s=>s==l.take s.length) with
  |some s=>some (4,s,0)
  |none=>none
def Kc:Nat→Bs→Int→Int→Option (List Tk)
 |0,_,_,_=>none
 |_+1, [],_,_=>some []
 |f+1,c::r,ln,cl=>
  if c=10 then Kc f r (ln+1) 1
  else if c=32∨c=9∨c=13 then Kc f r ln (cl+1)
  else if c=35 then Kc f ((c::r).dropWhile (· !=10)) ln (cl+((c::r).takeWhile (· !=10)).length)
  else match Ca (c::r) with
   |none=>none
   |some (k,w,n)=>(Kc f ((c::r).drop w.length) ln (cl+w.length)).map (⟨k,ba w,n,ln,cl⟩:: ·)
inductive PEx where
 |mk (k n:Int) (nm:ByteArray) (slot:Int) (loc:Bool) (op:Int) (args:List PEx)
inductive PStm where
 |mk (k ln cl:Int) (nm wt:ByteArray) (e ix:PEx) (body els:List PStm) (id slot other:Int) (loc:Bool)
structure PDec where
 k:Int
 ln:Int
 cl:Int
 nm:ByteArray
 n:Int
 body:List PStm
def PEx.z:PEx:= .mk 0 0 em 0 false 0 []
def isW (s:Bs):List Tk→Bool
 |t::_=>bs t.t==s && decide (3≤t.k)
 | []=>false
def tkW (s:Bs)(ts:List Tk):Option (List Tk):=if isW s ts=true then some ts.tail else none
def Vp (s:Bs)(ts:List Tk):Option (Unit×List Tk):=if isW s ts=true then some ((),ts.tail) else none
def bnd {α β:Type}(A:Option (α×List Tk))(K:α→List Tk→Option β):Option β:=match A with
 |none=>none
 |some (x,r)=>K x r
def Jj:List Tk→Option (ByteArray×List Tk)
 |t::r=>if t.k=1 then some (t.t,r) else none
 | []=>none
def Jd:List Tk→Option (Int×List Tk)
 |t::r=>if t.k=2 then some (t.n,r) else none
 | []=>none
def rankL:List Int:= [0,1,2,3,3,3,3,4,4,5,5,5]
def signL:List Bs:= [[], [124,124], [38,38], [61,61], [33,61], [60], [60,61], [43], [45], [42], [47], [37]]
def B9 (n:Int)(ts:List Tk):List Nat→Nat
 | []=>0
 |op::r=>if rankL.getD op 0=n∧isW (signL.getD op []) ts=true then op else B9 n ts r
def U7 (n:Int)(ts:List Tk):Nat:=B9 n ts [1,2,3,4,5,6,7,8,9,10,11]
mutual
def W8:Nat→Int→List Tk→Option (PEx×List Tk)
 |0,_,_=>none
 |f+1,n,ts=>if 5<n then unS f ts else match W8 f (n+1) ts with
  |none=>none
  |some (e,r)=>Mp f n e r
def Mp:Nat→Int→PEx→List Tk→Option (PEx×List Tk)
 |0,_,_,_=>none
 |f+1,n,e,ts=>if U7 n ts=0 then some (e,ts) else match W8 f (n+1) ts.tail with
  |none=>none
  |some (x,r)=>if n=3 then some (.mk 6 0 em 0 false (U7 n ts) [e,x],r) else Mp f n (.mk 6 0 em 0 false (U7 n ts) [e,x]) r
def unS:Nat→List Tk→Option (PEx×List Tk)
 |0,_=>none
 |f+1,ts=>match tkW [45] ts with
  |some r=>(match unS f r with
   |none=>none
   |some (e,r2)=>some (.mk 4 0 em 0 false 0 [e],r2))
  |none=>match tkW [33] ts with
   |some r=>(match unS f r with
    |none=>none
    |some (e,r2)=>some (.mk 5 0 em 0 false 0 [e],r2))
   |none=>Ud f ts
def Ud:Nat→List Tk→Option (PEx×List Tk)
 |0,_=>none
 |f+1,ts=>match tkW [40] ts with
  |some r=>(match W8 f 1 r with
   |none=>none
   |some (e,r2)=>match tkW [41] r2 with
    |none=>none
    |some r3=>some (e,r3))
  |none=>match Jd ts with
   |some (n,r)=>some (.mk 1 n em 0 false 0 [],r)
   |none=>match Jj ts with
    |none=>none
    |some (nm,r)=>match tkW [91] r with
     |none=>some (.mk 2 0 nm 0 false 0 [],r)
     |some r2=>match W8 f 1 r2 with
      |none=>none
      |some (e,r3)=>match tkW [93] r3 with
       |none=>none
       |some r4=>some (.mk 3 0 nm 0 false 0 [e],r4)
end
def kindL:List Bs:= [[], [108,101,116], [], [], [105,102], [119,104,105,108,101], [108,111,99,107], [117,110,108,111,99,107], [119,97,105,116], [115,105,103,110,97,108], [97,108,108], [115,101,110,100], [114,101,99,118], [115,112,97,119,110], [106,111,105,110], [112,114,105,110,116]]
def Kk (L:List Bs)(ts:List Tk):Nat→Nat
 |0=>0
 |k+1=>if L.getD (k+1) []≠ []∧isW (L.getD (k+1) []) ts=true then k+1 else Kk L ts k
def V1 (ts:List Tk):Nat:=Kk kindL ts 15
def Zi:List Tk→Int×Int
 |t::_=>(t.ln,t.cl)
 | []=>(0,0)
def Uu (f:Nat)(k:Int)(p:Int×Int)(nm:ByteArray)(ts:List Tk):Option (PStm×List Tk):=
 if k=0 then (if isW [91] ts=true then bnd (W8 f 1 ts.tail) fun ix r=>bnd (Vp [93] r) fun _ r=>bnd (Vp [61] r) fun _ r=>bnd (W8 f 1 r) fun e r=>bnd (Vp [59] r) fun _ r=>some (.mk 3 p.1 p.2 nm em e ix [] [] 0 0 0 false,r)
  else bnd (Vp [61] ts) fun _ r=>bnd (W8 f 1 r) fun e r=>bnd (Vp [59] r) fun _ r=>some (.mk 2 p.1 p.2 nm em e .z [] [] 0 0 0 false,r))
 else if k=1 then bnd (Vp [61] ts) fun _ r=>bnd (W8 f 1 r) fun e r=>bnd (Vp [59] r) fun _ r=>some (.mk k p.1 p.2 nm em e .z [] [] 0 0 0 false,r)
 else if k=8∨k=12 then bnd (Jj ts) fun wt r=>bnd (Vp [59] r) fun _ r=>some (.mk k p.1 p.2 nm wt .z .z [] [] 0 0 0 false,r)
 else if k=11∨k=15 then bnd (W8 f 1 ts) fun e r=>bnd (Vp [59] r) fun _ r=>some (.mk k p.1 p.2 nm em e .z [] [] 0 0 0 false,r)
 else bnd (Vp [59] ts) fun _ r=>some (.mk k p.1 p.2 nm em .z .z [] [] 0 0 0 false,r)
mutual
def Jq:Nat→List Tk→Option (PStm×List Tk)
 |0,_=>none
 |f+1,ts=>
  if V1 ts=4∨V1 ts=5 then bnd (W8 f 1 ts.tail) fun e r=>bnd (Hx f r) fun b r=>
   if V1 ts=4∧isW [101,108,115,101] r=true then bnd (Hx f r.tail) fun b2 r=>some (.mk (V1 ts) (Zi ts).1 (Zi ts).2 em em e .z b b2 0 0 0 false,r)
   else some (.mk (V1 ts) (Zi ts).1 (Zi ts).2 em em e .z b [] 0 0 0 false,r)
  else if V1 ts=14∨V1 ts=15 then Uu f (V1 ts) (Zi ts) em ts.tail
  else bnd (Jj (if 0<V1 ts then ts.tail else ts)) fun nm r=>Uu f (V1 ts) (Zi ts) nm r
def Hx:Nat→List Tk→Option (List PStm×List Tk)
 |0,_=>none
 |f+1,ts=>bnd (Vp [123] ts) fun _ r=>bnd (U1 f r) fun l r=>bnd (Vp [125] r) fun _ r=>some (l,r)
def U1:Nat→List Tk→Option (List PStm×List Tk)
 |0,_=>none
 |f+1,ts=>if isW [125] ts=true then some ([],ts) else bnd (Jq f ts) fun s r=>bnd (U1 f r) fun l r=>some (s::l,r)
end
def declL:List Bs:= [[], [118,97,114], [97,114,114,97,121], [109,117,116,101,120], [99,111,110,100], [99,104,97,110], [116,104,114,101,97,100]]
def dkS (ts:List Tk):Nat:=Kk declL ts 6
def E1 (k:Nat)(ts:List Tk):Option (Int×List Tk):=
 if k=1 then bnd (Vp [61] ts) fun _ r=>if isW [45] r=true then bnd (Jd r.tail) fun n r=>some (-n,r) else Jd r
 else if k=2∨k=5 then Jd ts else some (0,ts)
def Ke (f:Nat)(ts:List Tk):Option (PDec×List Tk):=
 if dkS ts=0 then none else bnd (Jj ts.tail) fun nm r=>
  if dkS ts=6 then bnd (Hx f r) fun b r=>some (⟨dkS ts,(Zi ts).1,(Zi ts).2,nm,0,b⟩,r)
  else bnd (E1 (dkS ts) r) fun n r=>bnd (Vp [59] r) fun _ r=>some (⟨dkS ts,(Zi ts).1,(Zi ts).2,nm,n, []⟩,r)
def Un (g:Nat):Nat→List Tk→Option (List PDec)
 |0,_=>none
 |f+1,ts=>if ts= [] then some [] else bnd (Ke g ts) fun d r=>(Un g f r).map (d:: ·)
mutual
def PEx.dep:PEx→Nat
 | .mk _ _ _ _ _ _ args=>Yu args+1
def Yu:List PEx→Nat
 | []=>0
 |e::r=>max e.dep (Yu r)
end
mutual
def PStm.deep:PStm→Nat→Bool
 | .mk _ _ _ _ _ e ix body els _ _ _ _,n=>decide (24<n)||decide (24<e.dep)||decide (24<ix.dep)||Ym body (n+1)||Ym els (n+1)
def Ym:List PStm→Nat→Bool
 | [],_=>false
 |s::r,n=>s.deep n||Ym r n
end
def Qr (l:Bs):Option (List PDec):=
 if 65536<l.length then none else match Kc (l.length+1) l 1 1 with
  |none=>none
  |some ts=>match Un (10*ts.length+20) (ts.length+1) ts with
   |none=>none
   |some ds=>if ds.any (fun d=>Ym d.body 1)=true then none else some ds
inductive Ex where
 |mk (k n:Int) (nm:ByteArray) (slot:Int) (loc:Bool) (op:Int) (args:List Ex) (aa:Option Addr) (ac:Nat)
def exC:Ex→List Value
 | .mk k n nm slot loc op args aa ac=> [.int .i64 k,.int .i64 n,.string nm,.int .i64 slot,.bool loc,.int .i64 op,.slice aa args.length ac]
inductive Stm where
 |mk (k ln cl:Int) (nm wt:ByteArray) (e ix:Ex) (body els:List Stm) (ba:Option Addr) (bc:Nat) (ea:Option Addr) (ec:Nat) (id slot other:Int) (loc:Bool)
def stC:Stm→List Value
 | .mk k ln cl nm wt e ix body els ba bc ea ec id slot other loc=> [.int .i64 k,.int .i64 ln,.int .i64 cl,.string nm,.string wt]++(exC e++(exC ix++ [.slice ba body.length bc,.slice ea els.length ec,.int .i64 id,.int .i64 slot,.int .i64 other,.bool loc]))
structure Dec where
 k:Int
 ln:Int
 cl:Int
 nm:ByteArray
 n:Int
 body:List Stm
 ba:Option Addr
 bc:Nat
def dcC (d:Dec):List Value:= [.int .i64 d.k,.int .i64 d.ln,.int .i64 d.cl,.string d.nm,.int .i64 d.n,.slice d.ba d.body.length d.bc]
theorem Z4 (e:Ex):(exC e).length=7:=by cases e;rfl
theorem Ua (s:Stm):(stC s).length=25:=by cases s;simp [stC,Z4]
theorem Xm (e:Ex):(exC e).all (·.oneCell')=true:=by cases e;rfl
theorem O3 (s:Stm):(stC s).all (·.oneCell')=true:=by cases s;simp only [stC,List.all_append,Xm];rfl
mutual
def Ex.er:Ex→PEx
 | .mk k n nm slot loc op args _ _=> .mk k n nm slot loc op (Z3 args)
def Z3:List Ex→List PEx
 | []=> []
 |e::r=>e.er::Z3 r
end
mutual
def Stm.er:Stm→PStm
 | .mk k ln cl nm wt e ix body els _ _ _ _ id slot other loc=> .mk k ln cl nm wt e.er ix.er (Zk body) (Zk els) id slot other loc
def Zk:List Stm→List PStm
 | []=> []
 |s::r=>s.er::Zk r
end
def Dec.er (d:Dec):PDec:=⟨d.k,d.ln,d.cl,d.nm,d.n,Zk d.body⟩
mutual
def Ex.At (M:Hp):Ex→Prop
 | .mk _ _ _ _ _ _ args aa ac=>SlAt M aa ac args.length (args.flatMap exC)∧Ex.Ats M args
def Ex.Ats (M:Hp):List Ex→Prop
 | []=>True
 |e::r=>e.At M∧Ex.Ats M r
end
mutual
def Stm.At (M:Hp):Stm→Prop
 | .mk _ _ _ _ _ e ix body els ba bc ea ec _ _ _ _=>e.At M∧ix.At M∧(SlAt M ba bc body.length (body.flatMap stC)∧Stm.Ats M body)∧SlAt M ea ec els.length (els.flatMap stC)∧Stm.Ats M els
def Stm.Ats (M:Hp):List Stm→Prop
 | []=>True
 |s::r=>s.At M∧Stm.Ats M r
end
mutual
theorem Ex.At.mono {M M':Hp}(l:Hle M M'): ∀ {e:Ex},e.At M→e.At M'
 | .mk ..,⟨h,k⟩=>⟨h.mono l,Ex.Ats.mono l k⟩
theorem Ex.Ats.mono {M M':Hp}(l:Hle M M'): ∀ {e:List Ex},Ex.Ats M e→Ex.Ats M' e
 | [],_=>trivial
 |_::_,⟨h,k⟩=>⟨Ex.At.mono l h,Ex.Ats.mono l k⟩
end
mutual
theorem Stm.At.mono {M M':Hp}(l:Hle M M'): ∀ {e:Stm},e.At M→e.At M'
 | .mk ..,⟨h1,h2,⟨h3,h4⟩,h5,h6⟩=>⟨h1.mono l,h2.mono l,⟨h3.mono l,Stm.Ats.mono l h4⟩,h5.mono l,Stm.Ats.mono l h6⟩
theorem Stm.Ats.mono {M M':Hp}(l:Hle M M'): ∀ {e:List Stm},Stm.Ats M e→Stm.Ats M' e
 | [],_=>trivial
 |_::_,⟨h,k⟩=>⟨Stm.At.mono l h,Stm.Ats.mono l k⟩
end
theorem Ku {M:Hp}: ∀ {l:List Ex},Ex.Ats M l↔ ∀ e∈l,e.At M
 | []=>by simp [Ex.Ats]
 |e::r=>by simp [Ex.Ats,Ku (l:=r)]
theorem Jb {M:Hp}: ∀ {l:List Stm},Stm.Ats M l↔ ∀ e∈l,e.At M
 | []=>by simp [Stm.Ats]
 |e::r=>by simp [Stm.Ats,Jb (l:=r)]
theorem Kh: ∀ l:List Ex,Z3 l=l.map Ex.er
 | []=>rfl
 |e::r=>by simp [Z3,Kh r]
theorem U9: ∀ l:List Stm,Zk l=l.map Stm.er
 | []=>rfl
 |e::r=>by simp [Zk,U9 r]
theorem Km (l:List Ex):(Z3 l).length=l.length:=by rw [Kh];simp
theorem Jy (l:List Stm):(Zk l).length=l.length:=by rw [U9];simp
mutual
def Ex.sz:Ex→Nat
 | .mk _ _ _ _ _ _ args _ _=>U4 args+1
def U4:List Ex→Nat
 | []=>0
 |e::r=>e.sz+U4 r
end
mutual
def Stm.sz:Stm→Nat
 | .mk _ _ _ _ _ _ _ body els _ _ _ _ _ _ _ _=>Z0 body+Z0 els+1
def Z0:List Stm→Nat
 | []=>0
 |s::r=>s.sz+Z0 r
end
theorem H5 {e:Ex}: ∀ {l:List Ex},e∈l→e.sz≤U4 l
 |x::r,h=>by
  rcases List.mem_cons.1 h with rfl|h
  · simp [U4]
  have:=H5 h;simp only [U4];omega
theorem Qa {e:Stm}: ∀ {l:List Stm},e∈l→e.sz≤Z0 l
 |x::r,h=>by
  rcases List.mem_cons.1 h with rfl|h
  · simp [Z0]
  have:=Qa h;simp only [Z0];omega
def exM (e:Ex):HP:=lst (fun M=>e.At M) fun l h=>Ex.At.mono l h
def exsM (l:List Ex):HP:=lst (fun M=>Ex.Ats M l) fun l h=>Ex.Ats.mono l h
def stM (s:Stm):HP:=lst (fun M=>s.At M) fun l h=>Stm.At.mono l h
def stsM (l:List Stm):HP:=lst (fun M=>Stm.Ats M l) fun l h=>Stm.Ats.mono l h
def BlkAt (M:Hp)(a:Option Addr)(c:Nat)(l:List Stm):Prop:=SlAt M a c l.length (l.flatMap stC)∧Stm.Ats M l
theorem BlkAt.mono {a:Option Addr}{c:Nat}{l:List Stm}{M M':Hp}(e:Hle M M')(h:BlkAt M a c l):BlkAt M' a c l:=⟨h.1.mono e,h.2.mono e⟩
def blM (a:Option Addr)(c:Nat)(l:List Stm):HP:=lst (fun M=>BlkAt M a c l) BlkAt.mono
def Dec.At (M:Hp)(d:Dec):Prop:=BlkAt M d.ba d.bc d.body
theorem Dec.At.mono {d:Dec}{M M':Hp}(e:Hle M M')(h:d.At M):d.At M':=BlkAt.mono e h
def Decs.At (M:Hp)(l:List Dec):Prop:= ∀ d∈l,d.At M
theorem Decs.At.mono {l:List Dec}{M M':Hp}(e:Hle M M')(h:Decs.At M l):Decs.At M' l:=fun d hd=>(h d hd).mono e
def dcM (d:Dec):HP:=lst (fun M=>d.At M) Dec.At.mono
def dcsM (l:List Dec):HP:=lst (fun M=>Decs.At M l) Decs.At.mono
section
variable {q q0:List HP}{a:Option Addr}{c ty:Nat}{l:List Ex}{m:List Stm}
theorem Kn.ex1 {k n:Int}{nm:ByteArray}{slot:Int}{loc:Bool}{op:Int}{e:Ex}(h:Kn q fun M=>e.At M):Kn (lst (fun M=>SlAt M a c 1 ([e].flatMap exC)) SlAt.mono::q) fun M=>(Ex.mk k n nm slot loc op [e] a c).At M:=
 (Kn.here.and h.there).imp fun M h=>⟨h.1,h.2,trivial⟩
theorem Kn.ex2 {k n:Int}{nm:ByteArray}{slot:Int}{loc:Bool}{op:Int}{e e2:Ex}(h:Kn q fun M=>e.At M)(h2:Kn q fun M=>e2.At M):Kn (lst (fun M=>SlAt M a c 2 ([e,e2].flatMap exC)) SlAt.mono::q) fun M=>(Ex.mk k n nm slot loc op [e,e2] a c).At M:=
 (Kn.here.and (h.there.and h2.there)).imp fun M h=>⟨h.1,h.2.1,h.2.2,trivial⟩
theorem Kn.stsM:Kn (stsM m::q) fun M=>Stm.Ats M m:=Kn.here
theorem Kn.stM {s:Stm}:Kn (stM s::q) fun M=>s.At M:=Kn.here
theorem Kn.dcM {s:Dec}:Kn (dcM s::q) fun M=>s.At M:=Kn.here
theorem Kn.dcsM {s:List Dec}:Kn (dcsM s::q) fun M=>Decs.At M s:=Kn.here
theorem Le.ex0 (k n:Int)(nm:ByteArray)(slot:Int)(loc:Bool)(op:Int):Le q (Go.Proofs.YtgonllbkcgaliaaGreatDoor.exM (Ex.mk k n nm slot loc op [] none 0)::q):=Kn.add (fun M _ _=>⟨SlAt.nil M,trivial⟩)
theorem F6:Le q (Go.Proofs.YtgonllbkcgaliaaGreatDoor.stsM []::q):=Kn.add (fun _ _ _=>trivial)
theorem Sy {s:Stm}:Le (Go.Proofs.YtgonllbkcgaliaaGreatDoor.stsM m::Go.Proofs.YtgonllbkcgaliaaGreatDoor.stM s::q) (Go.Proofs.YtgonllbkcgaliaaGreatDoor.stsM (m++ [s])::q):=by
 have h:Kn (Go.Proofs.YtgonllbkcgaliaaGreatDoor.stsM m::Go.Proofs.YtgonllbkcgaliaaGreatDoor.stM s::q) fun M=>Stm.Ats M (m++ [s]):=(Kn.stsM.and Kn.stM.there).imp fun M h=>Jb.2 fun x hx=>by
  rcases List.mem_append.1 hx with hx|hx
  · exact Jb.1 h.1 x hx
  rw [List.mem_singleton.1 hx];exact h.2
 exact Le.trans (Kn.add (mn:=fun l h=>Stm.Ats.mono l h) h) (Le.cons _ ((Le.drop _ _).trans (Le.drop _ _)))
theorem Ow:Le q (Go.Proofs.YtgonllbkcgaliaaGreatDoor.dcsM []::q):=Kn.add (fun _ _ _ d hd=>by cases hd)
theorem Sg {s:Dec}{m:List Dec}:Le (Go.Proofs.YtgonllbkcgaliaaGreatDoor.dcsM m::Go.Proofs.YtgonllbkcgaliaaGreatDoor.dcM s::q) (Go.Proofs.YtgonllbkcgaliaaGreatDoor.dcsM (m++ [s])::q):=by
 have h:Kn (Go.Proofs.YtgonllbkcgaliaaGreatDoor.dcsM m::Go.Proofs.YtgonllbkcgaliaaGreatDoor.dcM s::q) fun M=>Decs.At M (m++ [s]):=(Kn.dcsM.and Kn.dcM.there).imp fun M h x hx=>by
  rcases List.mem_append.1 hx with hx|hx
  · exact h.1 x hx
  rw [List.mem_singleton.1 hx];exact h.2
 exact Le.trans (Kn.add (mn:=Decs.At.mono) h) (Le.cons _ ((Le.drop _ _).trans (Le.drop _ _)))
theorem Kn.blk (h:Kn q fun M=>Stm.Ats M m):Kn (lst (fun M=>SlAt M a c m.length (m.flatMap stC)) SlAt.mono::q) fun M=>BlkAt M a c m:=Kn.here.and h.there
end
theorem isW_at {L:List Tk}{s:Bs}{n:Nat}(h:n<L.length):isW s (L.drop n)=(bs L[n].t==s && decide (3≤L[n].k)):=by rw [List.drop_eq_getElem_cons h];rfl
theorem Xb {L:List Tk}{s:Bs}{n:Nat}(h:L.length≤n):isW s (L.drop n)=false:=by rw [List.drop_eq_nil_of_le h];rfl
theorem Ig {L:List Tk}{s:Bs}{n:Nat}(h:isW s (L.drop n)=true):n<L.length:=by
 rcases Nat.lt_or_ge n L.length with k|k
 · exact k
 rw [Xb k] at h;cases h
theorem gD {α:Type}{l:List α}{i:Nat}{d:α}(h:i<l.length):l.getD i d=l[i]:=by simp [List.getD,List.getElem?_eq_getElem h]
theorem sEq {a b:ByteArray}:a.toList=b.toList↔bs a=bs b:=by rw [ByteArray.toList_eq,ByteArray.toList_eq];rfl
theorem sNe {a b:ByteArray}(h: ¬a.toList=b.toList):(bs a==bs b)=false:=by rw [beq_eq_false_iff_ne];exact fun e=>h (sEq.2 e)
theorem sTr {a b:ByteArray}(h:a.toList=b.toList):(bs a==bs b)=true:=by rw [beq_iff_eq];exact sEq.1 h
theorem tail_drop {L:List Tk}{n:Nat}:(L.drop n).tail=L.drop (n+1):=by rw [List.tail_drop]
def Out {α:Type}(L:List Tk)(bad:Bool)(sp:Option (α×List Tk))(x:α)(n:Nat)(bad':Bool):Prop:=(bad'=false∧bad=false∧sp=some (x,L.drop n))∨(bad'=true∧(bad=true∨sp=none))
abbrev rdH (p:Nat)(la:Option Addr)(lc:Nat)(L:List Tk)(n:Nat)(bad:Bool):HP:=pto p (.cells [.slice la L.length lc,.int .i64 (n:Int),.bool bad].toArray 185 (0,0))
section
variable {P:Program}{G:World}{fr:Fc}{Q:Y3}{todo k:List Item}{p:PE}{ds:List Deferred}{cs:List Frame}{q q0:List HP}{ops lo:List Oper}{a:Option Addr}{c:Nat}{e x:Ex}{m:List Stm}{kd n:Int}{nm:ByteArray}{slot:Int}{loc:Bool}{op:Int}
theorem I3 (K:X P G fr Q todo p ds cs (exM (.mk kd n nm slot loc op [e] a c)::q0))(hq:Le q (rsH exC 7 215 a c [e]::q0):=by exact Zj)(he:Kn q0 fun M=>e.At M:=by exact knA):X P G fr Q todo p ds cs q:= .frzR (Kn.ex1 he) K hq
theorem X.fzE2 (K:X P G fr Q todo p ds cs (exM (.mk kd n nm slot loc op [e,x] a c)::q0))(hq:Le q (rsH exC 7 215 a c [e,x]::q0):=by exact Zj)(he:Kn q0 fun M=>e.At M:=by exact knA)(hx:Kn q0 fun M=>x.At M:=by exact knA):X P G fr Q todo p ds cs q:= .frzR (Kn.ex2 he hx) K hq
theorem X.fzB (K:X P G fr Q todo p ds cs (blM a c m::q0))(hq:Le q (rsH stC 25 217 a c m::q0):=by exact Zj)(h:Kn q0 fun M=>Stm.Ats M m:=by exact knA):X P G fr Q todo p ds cs q:= .frzR (Kn.blk h) K hq
end
end Go.Proofs.YtgonllbkcgaliaaGreatDoor
namespace Go.Proofs.YtgonllbkcgaliaaGreatDoor
open Go Go.RowKit Wx Go.Proofs.Tryz
attribute [local irreducible] Wx.lsH Wx.rsH Wx.stars
section
variable {G:World}{q pre:List HP}{a la A:Option Addr}{c lc p n:Nat}{bad:Bool}{s:ByteArray}{L:List Tk}{r:Int}
theorem P8 (hr:Has q p (.cells [.slice la L.length lc,.int .i64 (n:Int),.bool bad].toArray 185 (0,0)))(hL:Sees q la (L.flatMap tkC))(hn:L.length≤65536):CallF prog G 142 [.pointer (some ⟨p,0,none⟩),.string s] (q) (Ret fun v q'=>v= .bool (!bad && isW (bs s) (L.drop n))∧q'=q):=by
 refine CallF.of func142 ntmps142 rfl (fun F cs=> ?_)
 have hlen:=Zb (f:=tkC) (sz:=5) (fun _=>rfl) L
 refine xx 5 ?_;refine drw ?_;refine dd [0,1,2] ?_;refine ldD 3 ?_ (hc:=(Cl.of (hr.le leA) rfl))
 refine Vb 4 rfl (Pu.not rfl) ?_;refine dd [5] ?_;refine XD.part 10 rfl (fun h1=> ?_) (fun h1=> ?_)
 · replace h1:=sp h1
   refine dd [6,7,8] ?_;refine ldD 9 ?_ (hc:=(Cl.of (hr.le leA) rfl))
   refine dd [10,11,12] ?_;refine ldD 13 ?_ (hc:=(Cl.of (hr.le leA) rfl))
   refine dd [14,15,16,17] ?_;refine XD.part 22 rfl (fun h2=> ?_) (fun h2=> ?_)
   · replace h2:=sp h2
     refine dd [18,19,20] ?_;refine ldD 21 ?_ (hc:=(Cl.of (hr.le leA) rfl))
     refine dd [22,23,24] ?_;refine ldD 25 ?_ (hc:=(Cl.of (hr.le leA) rfl))
     refine Wp hL (by rw [hlen];omega) (fun b1 o1 e1=> ?_)
     have hs1:=hL;rw [e1] at hs1
     refine XD.know 26 (.slice (some ⟨b1,o1,none⟩) L.length lc) rfl (by rw [e1]) ?_
     refine dl [26,27] 28 ?_;refine dd [29,30,31,32] ?_;refine XD.part 37 rfl (fun h3=> ?_) (fun h3=> ?_)
     · replace h3:=sp h3
       refine dd [33,34,35] ?_;refine ldD 36 ?_ (hc:=(Cl.of (hr.le leA) rfl))
       refine dd [37,38,39] ?_;refine ldD 40 ?_ (hc:=(Cl.of (hr.le leA) rfl))
       refine XD.know 41 (.slice (some ⟨b1,o1,none⟩) L.length lc) rfl (by rw [e1]) ?_
       refine dl [41,42] 43 ?_;refine dd [44,45,46] ?_;refine XD.nil ?_;refine Zq (q) func142 (Zu results142 rfl) ⟨_,rfl,congrArg Value.bool (by rw [isW_at (by omega),h1,sTr h3];rfl),rfl⟩
     replace h3:=sp h3
     refine dd [33,34,35,36,37,38,39,40,41,42,43,44,45,46] ?_;refine XD.nil ?_;refine Zq (q) func142 (Zu results142 rfl) ⟨_,rfl,congrArg Value.bool (by rw [isW_at (by omega),sNe h3];simp),rfl⟩
   replace h2:=sp h2
   refine dd [18,19,20,21,22,23,24,25,26,27,28,29,30,31,32,33,34,35,36,37,38,39,40,41,42,43,44,45,46] ?_;refine XD.nil ?_;refine Zq (q) func142 (Zu results142 rfl) ⟨_,rfl,congrArg Value.bool (by rw [Xb (by omega)];simp),rfl⟩
 replace h1:=sp h1
 refine dd [6,7,8,9,10,11,12,13,14,15,16,17,18,19,20,21,22,23,24,25,26,27,28,29,30,31,32,33,34,35,36,37,38,39,40,41,42,43,44,45,46] ?_;refine XD.nil ?_;refine Zq (q) func142 (Zu results142 rfl) ⟨_,rfl,congrArg Value.bool (by simp_all),rfl⟩
variable {w:Bs}
theorem U6 (hL:Sees q la (L.flatMap tkC))(hn:L.length≤65536):CallF prog G 145 [.pointer (some ⟨p,0,none⟩),.string (ba w)] (rdH p la lc L n bad::q) (Ret fun v q'=>(v= .bool true∧(bad=false∧isW w (L.drop n)=true∧n<L.length)∧q'=rdH p la lc L (n+1) bad::q)∨(v= .bool false∧(bad=true∨isW w (L.drop n)=false)∧q'=rdH p la lc L n bad::q)):=by
 refine CallF.of func145 ntmps145 rfl (fun F cs=> ?_)
 refine xo 9 ?_;refine XO.cR call142 (P8 (n:=n) (bad:=bad) Vd (hL.le leA) hn) ?_
 refine Zc (Pu.not rfl) ?_;refine ox 1 ?_;refine X.part 8 rfl (fun h1=> ?_) (fun h1=> ?_)
 · refine xx 5 ?_;refine Zq (rdH p la lc L n bad::q) func145 (Zu results145 rfl) ⟨_,rfl,.inr ⟨rfl,by rw [Qg] at h1;cases bad<;>simp_all,rfl⟩⟩
 have h2:bad=false∧isW w (L.drop n)=true:=by rw [Qg] at h1;cases bad<;>simp_all
 have hlt:=Ig h2.2
 refine xl 7 ?_;refine oo 3 ?_;refine st ?_;refine ox 5 ?_;refine Zq (rdH p la lc L (n+1) bad::q) func145 (Zu results145 rfl) ⟨_,rfl,.inl ⟨rfl,⟨h2.1,h2.2,hlt⟩,rfl⟩⟩
theorem Y8 (hL:Sees q la (L.flatMap tkC))(hn:L.length≤65536)(hnL:n≤L.length):CallF prog G 144 [.pointer (some ⟨p,0,none⟩),.string (ba w)] (rdH p la lc L n bad::q) (Ret fun v q'=> ∃ n' bad',v= .tuple #[]∧q'=rdH p la lc L n' bad'::q∧n≤n'∧n'≤L.length∧Out L bad (Vp w (L.drop n)) () n' bad'):=by
 refine CallF.of func144 ntmps144 rfl (fun F cs=> ?_)
 refine xo 4 ?_;refine Zh call145 leA (U6 (hL.le leA) hn) ?_;rintro _ _ (⟨rfl,⟨hb,hw,hlt⟩,rfl⟩|⟨rfl,hw,rfl⟩)
 · refine ox 4 ?_;refine Yo (rdH p la lc L (n+1) bad::q) func144 (V4 results144) ⟨_,rfl,n+1,bad,rfl,rfl,by omega,by omega,.inl ⟨hb,hb,by unfold Vp;rw [if_pos hw,tail_drop]⟩⟩
 refine oo 7 ?_;refine st ?_;refine ox 1 ?_;refine Yo (rdH p la lc L n true::q) func144 (V4 results144) ⟨_,rfl,n,true,rfl,rfl,Nat.le_refl _,hnL,.inr ⟨rfl,hw.imp id fun h=>by unfold Vp;rw [if_neg (by rw [h];decide)]⟩⟩
theorem E6 {L:List Tk}{n:Nat}(h:n<L.length):Jj (L.drop n)=if L[n].k=1 then some (L[n].t,L.drop (n+1)) else none:=by rw [List.drop_eq_getElem_cons h];rfl
theorem G2 {L:List Tk}{n:Nat}(h:L.length≤n):Jj (L.drop n)=none:=by rw [List.drop_eq_nil_of_le h];rfl
theorem Ks (hL:Sees q la (L.flatMap tkC))(hn:L.length≤65536)(hnL:n≤L.length):CallF prog G 143 [.pointer (some ⟨p,0,none⟩)] (rdH p la lc L n bad::q) (Ret fun v q'=> ∃ (x:ByteArray) (n':Nat) (bad':Bool),v= .string x∧q'=rdH p la lc L n' bad'::q∧(n≤n'∧(x=em∨ ∃ t∈L,x=t.t))∧n'≤L.length∧Out L bad (Jj (L.drop n)) x n' bad'):=by
 refine CallF.of func143 ntmps143 rfl (fun F cs=> ?_)
 have hlen:=Zb (f:=tkC) (sz:=5) (fun _=>rfl) L
 refine xx 6 ?_;refine drw ?_;refine dl [0,1,2] 3 ?_;refine dd [4] ?_;refine XD.part 7 rfl (fun h1=> ?_) (fun h1=> ?_)
 · replace h1:=sp h1
   refine dd [5,6,7,8,9,10,11,12,13,14,15,16,17,18,19,20,21,22,23,24,25,26,27,28,29] ?_;refine XD.nil ?_;refine xo 6 ?_;refine st ?_;refine ox 5 ?_;refine Zq (rdH p la lc L n true::q) func143 (Zu results143 rfl) ⟨_,rfl,em,n,true,rfl,rfl,⟨Nat.le_refl _,.inl rfl⟩,hnL,.inr ⟨rfl,.inl h1⟩⟩
 replace h1:=sp h1
 refine dl [5,6,7] 8 ?_;refine dl [9,10,11] 12 ?_;refine dd [13,14,15,16] ?_;refine XD.part 19 rfl (fun h2=> ?_) (fun h2=> ?_)
 · replace h2:=sp h2
   refine dd [17,18,19,20,21,22,23,24,25,26,27,28,29] ?_;refine XD.nil ?_;refine xo 6 ?_;refine st ?_;refine ox 5 ?_;refine Zq (rdH p la lc L n true::q) func143 (Zu results143 rfl) ⟨_,rfl,em,n,true,rfl,rfl,⟨Nat.le_refl _,.inl rfl⟩,hnL,.inr ⟨rfl,.inr (G2 (by omega))⟩⟩
 replace h2:=sp h2
 refine dl [17,18,19] 20 ?_;refine dl [21,22,23] 24 ?_
 have hlt:n<L.length:=by omega
 refine Wp hL (by rw [hlen];omega) (fun b1 o1 e1=> ?_)
 have hs1:=hL;rw [e1] at hs1
 refine XD.know 23 (.slice (some ⟨b1,o1,none⟩) L.length lc) rfl (by rw [e1]) ?_
 refine dl [25,26] 27 ?_;refine dd [28,29] ?_;refine XD.nil ?_;refine X.part 32 rfl (fun h3=> ?_) (fun h3=> ?_)
 · replace h3:=sp h3
   refine xo 6 ?_;refine st ?_;refine ox 5 ?_;refine Zq (rdH p la lc L n true::q) func143 (Zu results143 rfl) ⟨_,rfl,em,n,true,rfl,rfl,⟨Nat.le_refl _,.inl rfl⟩,hnL,.inr ⟨rfl,.inr (by rw [E6 (by omega),if_neg h3])⟩⟩
 replace h3:=sp h3
 refine xl 7 ?_;refine oo 3 ?_;refine st ?_;refine ox 2 ?_;refine drw ?_;refine dl [0,1,2] 3 ?_;refine dl [4,5,6] 7 ?_;refine dd [8] ?_;refine XD.know 46 (.slice (some ⟨b1,o1,none⟩) L.length lc) rfl (by rw [e1]) ?_
 refine dd [9,10] ?_;refine ldD 11 ?_ (hc:=(Cl.el (n:=n) hs1 leA (fun _=>rfl) hlt (by omega) rfl))
 refine dd [12] ?_;refine XD.nil ?_;refine Zq (rdH p la lc L (n+1) bad::q) func143 (Zu results143 rfl) ⟨_,rfl,L[n].t,n+1,bad,rfl,rfl,⟨by omega,.inr ⟨_,List.getElem_mem hlt,rfl⟩⟩,by omega,.inl ⟨h1,h1,by rw [E6 hlt,if_pos h3]⟩⟩
theorem Pa {L:List Tk}{n:Nat}(h:n<L.length):Jd (L.drop n)=if L[n].k=2 then some (L[n].n,L.drop (n+1)) else none:=by rw [List.drop_eq_getElem_cons h];rfl
theorem Zq4 {L:List Tk}{n:Nat}(h:L.length≤n):Jd (L.drop n)=none:=by rw [List.drop_eq_nil_of_le h];rfl
theorem Ht (hL:Sees q la (L.flatMap tkC))(hn:L.length≤65536)(hnL:n≤L.length):CallF prog G 146 [.pointer (some ⟨p,0,none⟩)] (rdH p la lc L n bad::q) (Ret fun v q'=> ∃ (x:Int) (n':Nat) (bad':Bool),v= .int .i64 x∧q'=rdH p la lc L n' bad'::q∧(n≤n'∧(x=0∨ ∃ t∈L,x=t.n))∧n'≤L.length∧Out L bad (Jd (L.drop n)) x n' bad'):=by
 refine CallF.of func146 ntmps146 rfl (fun F cs=> ?_)
 have hlen:=Zb (f:=tkC) (sz:=5) (fun _=>rfl) L
 refine xx 6 ?_;refine drw ?_;refine dl [0,1,2] 3 ?_;refine dd [4] ?_;refine XD.part 7 rfl (fun h1=> ?_) (fun h1=> ?_)
 · replace h1:=sp h1
   refine dd [5,6,7,8,9,10,11,12,13,14,15,16,17,18,19,20,21,22,23,24,25,26,27,28,29] ?_;refine XD.nil ?_;refine xo 6 ?_;refine st ?_;refine ox 5 ?_;refine Zq (rdH p la lc L n true::q) func146 (Zu results146 rfl) ⟨_,rfl,0,n,true,rfl,rfl,⟨Nat.le_refl _,.inl rfl⟩,hnL,.inr ⟨rfl,.inl h1⟩⟩
 replace h1:=sp h1
 refine dl [5,6,7] 8 ?_;refine dl [9,10,11] 12 ?_;refine dd [13,14,15,16] ?_;refine XD.part 19 rfl (fun h2=> ?_) (fun h2=> ?_)
 · replace h2:=sp h2
   refine dd [17,18,19,20,21,22,23,24,25,26,27,28,29] ?_;refine XD.nil ?_;refine xo 6 ?_;refine st ?_;refine ox 5 ?_;refine Zq (rdH p la lc L n true::q) func146 (Zu results146 rfl) ⟨_,rfl,0,n,true,rfl,rfl,⟨Nat.le_refl _,.inl rfl⟩,hnL,.inr ⟨rfl,.inr (Zq4 (by omega))⟩⟩
 replace h2:=sp h2
 refine dl [17,18,19] 20 ?_;refine dl [21,22,23] 24 ?_
 have hlt:n<L.length:=by omega
 refine Wp hL (by rw [hlen];omega) (fun b1 o1 e1=> ?_)
 have hs1:=hL;rw [e1] at hs1
 refine XD.know 23 (.slice (some ⟨b1,o1,none⟩) L.length lc) rfl (by rw [e1]) ?_
 refine dl [25,26] 27 ?_;refine dd [28,29] ?_;refine XD.nil ?_;refine X.part 32 rfl (fun h3=> ?_) (fun h3=> ?_)
 · replace h3:=sp h3
   refine xo 6 ?_;refine st ?_;refine ox 5 ?_;refine Zq (rdH p la lc L n true::q) func146 (Zu results146 rfl) ⟨_,rfl,0,n,true,rfl,rfl,⟨Nat.le_refl _,.inl rfl⟩,hnL,.inr ⟨rfl,.inr (by rw [Pa (by omega),if_neg h3])⟩⟩
 replace h3:=sp h3
 refine xl 7 ?_;refine oo 3 ?_;refine st ?_;refine ox 2 ?_;refine drw ?_;refine dl [0,1,2] 3 ?_;refine dl [4,5,6] 7 ?_;refine dd [8] ?_;refine XD.know 46 (.slice (some ⟨b1,o1,none⟩) L.length lc) rfl (by rw [e1]) ?_
 refine dd [9,10] ?_;refine ldD 11 ?_ (hc:=(Cl.el (n:=n) hs1 leA (fun _=>rfl) hlt (by omega) rfl))
 refine dd [12] ?_;refine XD.nil ?_;refine Zq (rdH p la lc L (n+1) bad::q) func146 (Zu results146 rfl) ⟨_,rfl,L[n].n,n+1,bad,rfl,rfl,⟨by omega,.inr ⟨_,List.getElem_mem hlt,rfl⟩⟩,by omega,.inl ⟨h1,h1,by rw [Pa hlt,if_pos h3]⟩⟩
end
section
variable {G:World}{q pre:List HP}{a la A:Option Addr}{c lc p n:Nat}{bad:Bool}{s:ByteArray}{L:List Tk}{r:Int}
theorem pos_ok (hL:Sees q la (L.flatMap tkC))(hn:L.length≤65536):CallF prog G 141 [.pointer (some ⟨p,0,none⟩)] (rdH p la lc L n bad::q) (Ret fun v q'=>v= .agg [.int .i64 (Zi (L.drop n)).1,.int .i64 (Zi (L.drop n)).2].toArray∧q'=rdH p la lc L n bad::q):=by
 refine CallF.of func141 ntmps141 rfl (fun F cs=> ?_)
 have hlen:=Zb (f:=tkC) (sz:=5) (fun _=>rfl) L
 refine xo 2 ?_;refine Zm zeroValue87 fun n1=> ?_
 refine ox 3 ?_;refine drw ?_;refine dl [0,1,2] 3 ?_;refine dl [4,5,6] 7 ?_;refine dd [8,9] ?_;refine XD.nil ?_;refine X.part 12 rfl (fun h1=> ?_) (fun h1=> ?_)
 · replace h1:=sp h1
   refine xo 4 ?_;refine stA ?_;refine ox 1 ?_;refine Zq (rdH p la lc L n bad::q) func141 (rA_ results141) ⟨_,rfl,by rw [List.drop_eq_nil_of_le (by omega)];rfl,rfl⟩
 replace h1:=sp h1
 refine xx 3 ?_;refine drw ?_;refine dl [0,1,2] 3 ?_;refine dl [4,5,6] 7 ?_
 have hlt:n<L.length:=by omega
 refine Wp hL (by rw [hlen];omega) (fun b1 o1 e1=> ?_)
 have hs1:=hL;rw [e1] at hs1
 refine XD.know 17 (.slice (some ⟨b1,o1,none⟩) L.length lc) rfl (by rw [e1]) ?_
 refine dd [8,9] ?_;refine XD.rdCs 10 (us:= [.int .i64 L[n].ln,.int .i64 L[n].cl]) rfl rfl isAgg87 sizeOf87 rfl (fun k v hk=>by match k,hk with|0,hk=>cases hk;exact Wk (n:=n) hs1 leA (fun _=>rfl) hlt rfl 3 _ rfl|1,hk=>cases hk;exact Wk (n:=n) hs1 leA (fun _=>rfl) hlt rfl 4 _ rfl) ?_
 refine Yr 11 ?_;refine XD.nil ?_;refine Zq (rdH p la lc L n bad::q) func141 (rA_ results141) ⟨_,rfl,by rw [List.drop_eq_getElem_cons hlt];rfl,rfl⟩
theorem Ws:(prog.info? 9).map (fun i=>(i.zero,i.size,i.bytes))=some (some (.string ⟨#[]⟩),1,16):=by kernel_rfl
theorem Qk:(prog.info? 3).map (fun i=>(i.zero,i.size,i.bytes))=some (some (.int .i64 0),1,8):=by kernel_rfl
theorem rank_ok (hr:c<12):CallF prog G 207 [.int .i64 (c:Int)] (q) (Ret fun v q'=>v= .int .i64 (rankL.getD c 0)∧q'=q):=by
 refine CallF.of func207 ntmps207 rfl (fun F cs=> ?_)
 refine xo 6 ?_;refine XO.ef (Yh I64 rankL underlying23 Qk rfl rfl rfl rfl rfl rfl (fun _=>rfl)) ?_
 rintro _ _ ⟨g,rfl,rfl⟩
 have hlt:c<rankL.length:=by show c<12;omega
 refine oo 2 ?_;refine ld ?_ (hc:=(Cl.e1 (n:=c) (Sees.lsH _) Zj hlt (by omega)))
 refine ox 2 ?_;refine Zq (q) func207 (Zu results207 rfl) ⟨_,rfl,by rw [gD hlt],rfl⟩
theorem sign_ok (hr:c<12):CallF prog G 208 [.int .i64 (c:Int)] (q) (Ret fun v q'=>v= .string (ba (signL.getD c []))∧q'=q):=by
 refine CallF.of func208 ntmps208 rfl (fun F cs=> ?_)
 refine xo 6 ?_;refine XO.ef (Yh (fun w:Bs=>Value.string (ba w)) signL underlying55 Ws rfl rfl rfl rfl rfl rfl (fun _=>rfl)) ?_
 rintro _ _ ⟨g,rfl,rfl⟩
 have hlt:c<signL.length:=by show c<12;omega
 refine oo 2 ?_;refine ld ?_ (hc:=(Cl.e1 (n:=c) (Sees.lsH _) Zj hlt (by omega)))
 refine ox 2 ?_;refine Zq (q) func208 (Zu results208 rfl) ⟨_,rfl,by rw [gD hlt],rfl⟩
theorem E5 {r:Int}{ts:List Tk}{s:Nat}(h:s≤11):B9 r ts (List.range' s (12 - s))=if rankL.getD s 0=r∧isW (signL.getD s []) ts=true then s else B9 r ts (List.range' (s+1) (12 - (s+1))):=by
 rw [show 12 - s=(12 - (s+1))+1 by omega,List.range'_succ];rfl
theorem P0 {L:List Tk}{n:Nat}{r:Int}: ∀ {l:List Nat},B9 r (L.drop n) l≠0→n<L.length
 | [],h=>absurd rfl h
 |o::l,h=>by
  unfold B9 at h
  split at h
  · rename_i k;exact Ig k.2
  exact P0 h
theorem Xj (hr:Has q p (.cells [.slice la L.length lc,.int .i64 (n:Int),.bool bad].toArray 185 (0,0)))(hL:Sees q la (L.flatMap tkC))(hn:L.length≤65536):CallF prog G 205 [.pointer (some ⟨p,0,none⟩),.int .i64 r] (q) (Ret fun v q'=>v= .int .i64 (if bad=true then 0 else U7 r (L.drop n):Nat)∧q'=q):=by
 refine CallF.of func205 ntmps205 rfl (fun F cs=> ?_)
 refine xx 10 ?_;refine X.at (X.loop (fun (s:Nat)=>1≤s∧s≤12∧(bad=false→U7 r (L.drop n)=B9 r (L.drop n) (List.range' s (12 - s)))) (fun s=> [(5,.int .i64 (s:Int)),(0,.pointer (some ⟨p,0,none⟩)),(1,.int .i64 r),(4,.int .i64 0)]) (fun s=>(q++F)) (fun s=>12 - s) (fun s hi_ ih=> ?_) 1 ⟨Nat.le_refl _,by omega,fun _=>rfl⟩) Zp leA
 try dsimp only at hi_ ih⊢
 obtain ⟨hs1,hs2,hsn⟩:=hi_
 refine xx 6 ?_;refine X.part 7 rfl (fun h0=> ?_) (fun h0=> ?_)
 · replace h0:=sp h0
   have hs3:s≤11:=by omega
   refine xo 7 ?_;refine XO.cR call207 (rank_ok (c:=s) (by omega)) ?_
   refine oo 3 ?_;refine Zg [14,5,0,1,4] ?_
   apply Zf 5 19 14 rfl
   · intro g1 M1;have h1:=sp g1
     refine oo 2 ?_;refine XO.cR call208 (sign_ok (c:=s) (by omega)) ?_
     refine XO.cR call142 (P8 (s:=ba (signL.getD s [])) (hr.le leA) (hL.le leA) hn) ?_
     refine oo 1 ?_;exact Zz M1 ⟨Yi g1,Zv⟩
   · intro g1 M1;have h1:=sp g1
     refine oo 5 ?_;exact Zz M1 ⟨Yl g1,Zv⟩
   refine ox 1 ?_;refine X.part 19 rfl (fun h1=> ?_) (fun h1=> ?_)
   · replace h1:=sp h1
     refine xx 6 ?_;refine Zq (q) func205 (Zu results205 rfl) ⟨_,rfl,by rw [if_neg (by rw [h1.2.1];decide),hsn h1.2.1,E5 (by omega),if_pos ⟨h1.1,h1.2.2⟩],rfl⟩
   replace h1:=sp h1
   refine xx 8 ?_;refine X.at (ih (s+1) ⟨by omega,by omega,fun hb=>by rw [hsn hb,E5 (by omega),if_neg (fun k=>by rw [Qg] at h1;simp_all)]⟩ (by omega)) Zp leA
 replace h0:=sp h0
 refine xx 6 ?_;refine Zq (q) func205 (Zu results205 rfl) ⟨_,rfl,by obtain rfl:s=12:=(by omega);cases bad with|true=>rfl|false=>rw [hsn rfl];rfl,rfl⟩
end
section
variable {L:List Tk}{bad b1 b2 b3 b4:Bool}{f g n n1 n2 n3 n4:Nat}{x y:PEx}{nm:ByteArray}{z:Int}{r:Int}{S:Option (PEx×List Tk)}
theorem Out.up {α β:Type}{sp:Option (α×List Tk)}{sq:Option (β×List Tk)}{x:α}{y:β}(h:Out L bad sp x n b1)(h1:bad=false→ ∀ r,sp=some (x,r)→sq=some (y,r))(h2:bad=false→sp=none→sq=none):Out L bad sq y n b1:=by
 rcases h with ⟨e1,e2,e3⟩|⟨e1,e2⟩
 · exact .inl ⟨e1,e2,h1 e2 _ e3⟩
 refine .inr ⟨e1,?_⟩
 cases hb:bad with
 |true=>exact .inl rfl
 |false=>exact .inr (h2 hb (e2.resolve_left (by rw [hb];decide)))
theorem Out.seq {α β γ:Type}{sp:Option (α×List Tk)}{sq:Option (β×List Tk)}{st:Option (γ×List Tk)}{x:α}{y:β}{w:γ}(h:Out L bad sp x n b1)(k:Out L b1 sq y n2 b2)(h1:bad=false→sp=none→st=none)
 (h2:bad=false→sp=some (x,L.drop n)→sq=none→st=none) (h3:bad=false→sp=some (x,L.drop n)→ ∀ r,sq=some (y,r)→st=some (w,r)):Out L bad st w n2 b2:=by
 rcases h with ⟨e1,e2,e3⟩|⟨e1,e2⟩
 · subst e1
   rcases k with ⟨k1,_,k3⟩|⟨k1,k2⟩
   · exact .inl ⟨k1,e2,h3 e2 e3 _ k3⟩
   exact .inr ⟨k1,.inr (h2 e2 e3 (k2.resolve_left (by decide)))⟩
 subst e1
 rcases k with ⟨_,k2,_⟩|⟨k1,_⟩
 · cases k2
 refine .inr ⟨k1,?_⟩
 cases hb:bad with
 |true=>exact .inl rfl
 |false=>exact .inr (h1 hb (e2.resolve_left (by rw [hb];decide)))
theorem Out.isBad {α:Type}{sp:Option (α×List Tk)}{x:α}(h:Out L true sp x n b1):b1=true:=by
 rcases h with ⟨_,h,_⟩|⟨h,_⟩
 · cases h
 exact h
theorem Out.bnd {α β:Type}{A:Option (α×List Tk)}{K:α→List Tk→Option (β×List Tk)}{x:α}{y:β}(h:Out L bad A x n b1)(k:Out L b1 (K x (L.drop n)) y n2 b2):Out L bad (Go.Proofs.YtgonllbkcgaliaaGreatDoor.bnd A K) y n2 b2:=
 h.seq k (fun _ h=>by rw [h];rfl) (fun _ h k=>by rw [h];exact k) (fun _ h r k=>by rw [h];exact k)
theorem Out.ret {α:Type}{x:α}:Out L bad (some (x,L.drop n)) x n bad:=by cases bad;exact .inl ⟨rfl,rfl,rfl⟩;exact .inr ⟨rfl,.inl rfl⟩
theorem Out.any {α:Type}{x:α}{A:Option (α×List Tk)}:Out L true A x n true:= .inr ⟨rfl,.inl rfl⟩
theorem Tf {s:Bs}(h:isW s (L.drop n)=true):tkW s (L.drop n)=some (L.drop (n+1)):=by unfold tkW;rw [if_pos h,tail_drop]
theorem Hm {s:Bs}(h:isW s (L.drop n)=false):tkW s (L.drop n)=none:=by unfold tkW;rw [if_neg (by rw [h];decide)]
theorem Rx {s:Bs}{ts r:List Tk}:Vp s ts=some ((),r)↔tkW s ts=some r:=by
 unfold Vp tkW;split<;>simp
theorem E7 {s:Bs}{ts:List Tk}:Vp s ts=none↔tkW s ts=none:=by
 unfold Vp tkW;split<;>simp
theorem un_neg (hw:isW [45] (L.drop n)=true)(ho:Out L false (unS f (L.drop (n+1))) x n2 b2):Out L false (unS (f+1) (L.drop n)) (.mk 4 0 em 0 false 0 [x]) n2 b2:=
 ho.up (fun _ r h=>by simp only [unS,Tf hw,h]) (fun _ h=>by simp only [unS,Tf hw,h])
theorem un_not (h1:isW [45] (L.drop n)=false)(hw:isW [33] (L.drop n)=true)(ho:Out L false (unS f (L.drop (n+1))) x n2 b2):Out L false (unS (f+1) (L.drop n)) (.mk 5 0 em 0 false 0 [x]) n2 b2:=
 ho.up (fun _ r h=>by simp only [unS,Hm h1,Tf hw,h]) (fun _ h=>by simp only [unS,Hm h1,Tf hw,h])
theorem un_prim (h1:bad=true∨isW [45] (L.drop n)=false)(h2:bad=true∨isW [33] (L.drop n)=false)(ho:Out L bad (Ud f (L.drop n)) x n2 b2):Out L bad (unS (f+1) (L.drop n)) x n2 b2:=
 ho.up (fun hb r h=>by simp only [unS,Hm (h1.resolve_left (by rw [hb];decide)),Hm (h2.resolve_left (by rw [hb];decide)),h]) (fun hb h=>by simp only [unS,Hm (h1.resolve_left (by rw [hb];decide)),Hm (h2.resolve_left (by rw [hb];decide)),h])
theorem prim_par (hw:isW [40] (L.drop n)=true)(ho:Out L false (W8 f 1 (L.drop (n+1))) x n2 b2)(h2:Out L b2 (Vp [41] (L.drop n2)) () n3 b3):Out L false (Ud (f+1) (L.drop n)) x n3 b3:=
 ho.seq h2 (fun _ h=>by simp only [Ud,Tf hw,h]) (fun _ h k=>by simp only [Ud,Tf hw,h,E7.1 k]) (fun _ h r k=>by simp only [Ud,Tf hw,h,Rx.1 k])
theorem E0 {ts:List Tk}(h: ∀ t r,ts=t::r→t.k≠2):Jd ts=none:=by
 cases ts with
 |nil=>rfl
 |cons t r=>exact if_neg (h t r rfl)
theorem Ix {ts:List Tk}{t:Tk}{r:List Tk}(e:ts=t::r)(h:t.k=2):Jd ts=some (t.n,r):=by subst e;exact if_pos h
theorem prim_num (h1:bad=true∨isW [40] (L.drop n)=false)(hlt:n<L.length)(hk:L[n].k=2)(ho:Out L bad (Jd (L.drop n)) z n2 b2):Out L bad (Ud (f+1) (L.drop n)) (.mk 1 z em 0 false 0 []) n2 b2:=
 ho.up (fun hb r h=>by simp only [Ud,Hm (h1.resolve_left (by rw [hb];decide)),h]) (fun hb h=>by rw [Ix (List.drop_eq_getElem_cons hlt) hk] at h;cases h)
theorem Zql (h1:bad=true∨isW [40] (L.drop n)=false)(hk: ∀ h:n<L.length,L[n].k≠2)(ho:Out L bad (Jj (L.drop n)) nm n2 b2)(h2:b2=true∨isW [91] (L.drop n2)=false):Out L bad (Ud (f+1) (L.drop n)) (.mk 2 0 nm 0 false 0 []) n2 b2:=by
 have hn:Jd (L.drop n)=none:=E0 fun t r e=>by
  have hlt:n<L.length:=by rcases Nat.lt_or_ge n L.length with h|h;exact h;rw [List.drop_eq_nil_of_le h] at e;cases e
  rw [List.drop_eq_getElem_cons hlt] at e;cases e;exact hk hlt
 rcases ho with ⟨e1,e2,e3⟩|⟨e1,e2⟩
 · refine .inl ⟨e1,e2,?_⟩
   simp only [Ud,Hm (h1.resolve_left (by rw [e2];decide)),hn,e3,Hm (h2.resolve_left (by rw [e1];decide))]
 refine .inr ⟨e1,?_⟩
 cases hb:bad with
 |true=>exact .inl rfl
 |false=>simp only [Ud,Hm (h1.resolve_left (by rw [hb];decide)),hn,e2.resolve_left (by rw [hb];decide)];exact .inr trivial
theorem Zqa (h1:bad=true∨isW [40] (L.drop n)=false)(hk: ∀ h:n<L.length,L[n].k≠2)(ho:Out L bad (Jj (L.drop n)) nm n2 false)(hw:isW [91] (L.drop n2)=true)
 (h3:Out L false (W8 f 1 (L.drop (n2+1))) x n3 b3) (h4:Out L b3 (Vp [93] (L.drop n3)) () n4 b4):Out L bad (Ud (f+1) (L.drop n)) (.mk 3 0 nm 0 false 0 [x]) n4 b4:=by
 have hn:Jd (L.drop n)=none:=E0 fun t r e=>by
  have hlt:n<L.length:=by rcases Nat.lt_or_ge n L.length with h|h;exact h;rw [List.drop_eq_nil_of_le h] at e;cases e
  rw [List.drop_eq_getElem_cons hlt] at e;cases e;exact hk hlt
 rcases ho with ⟨_,e2,e3⟩|⟨e1,_⟩
 · subst e2
   have h1':=h1.resolve_left (by decide)
   exact h3.seq h4 (fun _ h=>by simp only [Ud,Hm h1',hn,e3,Tf hw,h]) (fun _ h k=>by simp only [Ud,Hm h1',hn,e3,Tf hw,h,E7.1 k]) (fun _ h r k=>by simp only [Ud,Hm h1',hn,e3,Tf hw,h,Rx.1 k])
 cases e1
theorem expr_un (ho:Out L bad (unS f (L.drop n)) x n2 b2):Out L bad (W8 (f+1) 6 (L.drop n)) x n2 b2:=
 ho.up (fun _ r h=>by simp only [W8,if_pos (show (5:Int)<6 by decide),h]) (fun _ h=>by simp only [W8,if_pos (show (5:Int)<6 by decide),h])
def More (L:List Tk)(bad:Bool)(S:Option (PEx×List Tk))(g:Nat)(r:Int)(x:PEx)(n:Nat)(b:Bool):Prop:=(b=false∧bad=false∧S=Mp g r x (L.drop n))∨(b=true∧(bad=true∨S=none))
theorem More.first (hr:r≤5)(ho:Out L bad (W8 f (r+1) (L.drop n)) x n1 b1):More L bad (W8 (f+1) r (L.drop n)) f r x n1 b1:=by
 rcases ho with ⟨e1,e2,e3⟩|⟨e1,e2⟩
 · exact .inl ⟨e1,e2,by simp only [W8,if_neg (show ¬ (5:Int)<r by omega),e3]⟩
 exact .inr ⟨e1,e2.imp id fun h=>by simp only [W8,if_neg (show ¬ (5:Int)<r by omega),h]⟩
theorem More.over (h:More L bad S (g+1) r x n1 b1)(h0:b1=true∨U7 r (L.drop n1)=0):Out L bad S x n1 b1:=by
 rcases h with ⟨e1,e2,e3⟩|⟨e1,e2⟩
 · exact .inl ⟨e1,e2,by rw [e3];simp only [Mp,if_pos (h0.resolve_left (by rw [e1];decide))]⟩
 exact .inr ⟨e1,e2⟩
theorem More.go (h:More L bad S (g+1) r x n1 false)(h0:U7 r (L.drop n1)≠0)(ho:Out L false (W8 g (r+1) (L.drop (n1+1))) y n2 b2)(h3:r≠3):More L bad S g r (.mk 6 0 em 0 false (U7 r (L.drop n1)) [x,y]) n2 b2:=by
 rcases h with ⟨_,e2,e3⟩|⟨e1,_⟩
 · rcases ho with ⟨k1,_,k3⟩|⟨k1,k2⟩
   · exact .inl ⟨k1,e2,by rw [e3];simp only [Mp,if_neg h0,tail_drop,k3,if_neg h3]⟩
   exact .inr ⟨k1,.inr (by rw [e3];simp only [Mp,if_neg h0,tail_drop,k2.resolve_left (by decide)])⟩
 cases e1
theorem More.three (h:More L bad S (g+1) 3 x n1 false)(h0:U7 3 (L.drop n1)≠0)(ho:Out L false (W8 g 4 (L.drop (n1+1))) y n2 b2):Out L bad S (.mk 6 0 em 0 false (U7 3 (L.drop n1)) [x,y]) n2 b2:=by
 rcases h with ⟨_,e2,e3⟩|⟨e1,_⟩
 · rcases ho with ⟨k1,_,k3⟩|⟨k1,k2⟩
   · exact .inl ⟨k1,e2,by rw [e3];simp only [Mp,if_neg h0,tail_drop,show ((3:Int)+1)=4 from rfl,k3,if_pos]⟩
   exact .inr ⟨k1,.inr (by rw [e3];simp only [Mp,if_neg h0,tail_drop,show ((3:Int)+1)=4 from rfl,k2.resolve_left (by decide)])⟩
 cases e1
end
def Au (G:World)(la:Option Addr)(lc:Nat)(L:List Tk)(f:Nat):Prop:= ∀ {p n:Nat} {q:List HP} {bad:Bool} (r:Nat),Sees q la (L.flatMap tkC)→1≤r→r≤6→n≤L.length→10*(L.length - n)+9≤f+r→
 CallF prog G 200 [.pointer (some ⟨p,0,none⟩),.int .i64 (r:Int)] (rdH p la lc L n bad::q) (Ret fun v q'=> ∃ (e:Ex) (n':Nat) (bad':Bool),v= .agg (exC e).toArray∧q'=rdH p la lc L n' bad'::exM e::q∧n≤n'∧n'≤L.length∧Out L bad (W8 f r (L.drop n)) e.er n' bad')
def RdUn (G:World)(la:Option Addr)(lc:Nat)(L:List Tk)(f:Nat):Prop:= ∀ {p n:Nat} {q:List HP} {bad:Bool},Sees q la (L.flatMap tkC)→n≤L.length→10*(L.length - n)+2≤f→
 CallF prog G 204 [.pointer (some ⟨p,0,none⟩)] (rdH p la lc L n bad::q) (Ret fun v q'=> ∃ (e:Ex) (n':Nat) (bad':Bool),v= .agg (exC e).toArray∧q'=rdH p la lc L n' bad'::exM e::q∧n≤n'∧n'≤L.length∧Out L bad (unS f (L.drop n)) e.er n' bad')
def RdPrim (G:World)(la:Option Addr)(lc:Nat)(L:List Tk)(f:Nat):Prop:= ∀ {p n:Nat} {q:List HP} {bad:Bool},Sees q la (L.flatMap tkC)→n≤L.length→10*(L.length - n)+1≤f→
 CallF prog G 206 [.pointer (some ⟨p,0,none⟩)] (rdH p la lc L n bad::q) (Ret fun v q'=> ∃ (e:Ex) (n':Nat) (bad':Bool),v= .agg (exC e).toArray∧q'=rdH p la lc L n' bad'::exM e::q∧n≤n'∧n'≤L.length∧Out L bad (Ud f (L.drop n)) e.er n' bad')
theorem Hn:(prog.info? 215).map (fun i=>(i.zero,i.size,i.bytes))=some (some (.agg #[.int .i64 0,.int .i64 0,.string ⟨#[]⟩,.int .i64 0,.bool false,.int .i64 0,.slice none 0 0]),7,80):=by kernel_rfl
section
variable {G:World}{q pre:List HP}{a la A:Option Addr}{c lc p n:Nat}{bad:Bool}{s:ByteArray}{L:List Tk}{r:Int}
variable {f:Nat}
theorem un_step (IHu:RdUn G la lc L f)(IHp:RdPrim G la lc L f)(hL:Sees q la (L.flatMap tkC))(hn:L.length≤65536)(hnL:n≤L.length)(hfu:10*(L.length - n)+2≤f+1):CallF prog G 204 [.pointer (some ⟨p,0,none⟩)] (rdH p la lc L n bad::q) (Ret fun v q'=> ∃ (e:Ex) (n':Nat) (bad':Bool),v= .agg (exC e).toArray∧q'=rdH p la lc L n' bad'::exM e::q∧n≤n'∧n'≤L.length∧Out L bad (unS (f+1) (L.drop n)) e.er n' bad'):=by
 refine CallF.of func204 ntmps204 rfl (fun F cs=> ?_)
 refine xo 2 ?_;refine Zm zeroValue215 fun n1=> ?_
 refine oo 5 ?_;refine Zh call145 leA (U6 (w:= [45]) (hL.le leA) hn) ?_
 rintro _ _ (⟨rfl,⟨hb1,hw1,hlt1⟩,rfl⟩|⟨rfl,hw1,rfl⟩)
 · refine oo 5 ?_;refine Zh call204 leA (IHu (hL.le leA) (by omega) (by omega)) ?_
   rintro _ _ ⟨⟨k1,z1,s1,l1,o1,p1,y1,u1,w1⟩,m2,b2,rfl,rfl,hm2,hM2,ho2⟩
   refine XO.ef (Yd exC underlying213 Hn rfl rfl Z4 rfl) ?_;rintro _ _ ⟨g,rfl,rfl⟩
   refine oo 1 ?_;refine stA ?_;refine ox 1 ?_
   subst hb1
   refine I3 (kd:=4) (n:=0) (nm:=em) (slot:=0) (loc:=false) (op:=0) ?_
   refine Zq (rdH p la lc L m2 b2::exM (.mk 4 0 em 0 false 0 [(.mk k1 z1 s1 l1 o1 p1 y1 u1 w1)] (some ⟨g,0,none⟩) 1)::q) func204 (rA_ results204) ⟨_,rfl,.mk 4 0 em 0 false 0 [(.mk k1 z1 s1 l1 o1 p1 y1 u1 w1)] (some ⟨g,0,none⟩) 1,m2,b2,rfl,rfl,by omega,hM2,un_neg hw1 ho2⟩
 refine oo 7 ?_;refine Zh call145 leA (U6 (w:= [33]) (hL.le leA) hn) ?_
 rintro _ _ (⟨rfl,⟨hb2,hw2,hlt2⟩,rfl⟩|⟨rfl,hw2,rfl⟩)
 · refine oo 5 ?_;refine Zh call204 leA (IHu (hL.le leA) (by omega) (by omega)) ?_
   rintro _ _ ⟨⟨k1,z1,s1,l1,o1,p1,y1,u1,w1⟩,m2,b2,rfl,rfl,hm2,hM2,ho2⟩
   refine XO.ef (Yd exC underlying213 Hn rfl rfl Z4 rfl) ?_;rintro _ _ ⟨g,rfl,rfl⟩
   refine oo 1 ?_;refine stA ?_;refine ox 1 ?_
   subst hb2
   replace hw1:=hw1.resolve_left (by decide)
   refine I3 (kd:=5) (n:=0) (nm:=em) (slot:=0) (loc:=false) (op:=0) ?_
   refine Zq (rdH p la lc L m2 b2::exM (.mk 5 0 em 0 false 0 [(.mk k1 z1 s1 l1 o1 p1 y1 u1 w1)] (some ⟨g,0,none⟩) 1)::q) func204 (rA_ results204) ⟨_,rfl,.mk 5 0 em 0 false 0 [(.mk k1 z1 s1 l1 o1 p1 y1 u1 w1)] (some ⟨g,0,none⟩) 1,m2,b2,rfl,rfl,by omega,hM2,un_not hw1 hw2 ho2⟩
 refine oo 6 ?_;refine Zh call206 leA (IHp (hL.le leA) (by omega) (by omega)) ?_
 rintro _ _ ⟨⟨k1,z1,s1,l1,o1,p1,y1,u1,w1⟩,m2,b2,rfl,rfl,hm2,hM2,ho2⟩
 refine stA ?_;refine ox 1 ?_;refine Zq (rdH p la lc L m2 b2::exM (.mk k1 z1 s1 l1 o1 p1 y1 u1 w1)::q) func204 (rA_ results204) ⟨_,rfl,(.mk k1 z1 s1 l1 o1 p1 y1 u1 w1),m2,b2,rfl,rfl,hm2,hM2,un_prim hw1 hw2 ho2⟩
theorem Zqi (IHe:Au G la lc L f)(hL:Sees q la (L.flatMap tkC))(hn:L.length≤65536)(hnL:n≤L.length)(hfu:10*(L.length - n)+1≤f+1):CallF prog G 206 [.pointer (some ⟨p,0,none⟩)] (rdH p la lc L n bad::q) (Ret fun v q'=> ∃ (e:Ex) (n':Nat) (bad':Bool),v= .agg (exC e).toArray∧q'=rdH p la lc L n' bad'::exM e::q∧n≤n'∧n'≤L.length∧Out L bad (Ud (f+1) (L.drop n)) e.er n' bad'):=by
 refine CallF.of func206 ntmps206 rfl (fun F cs=> ?_)
 have hlen:=Zb (f:=tkC) (sz:=5) (fun _=>rfl) L
 refine xo 2 ?_;refine Zm zeroValue215 fun n1=> ?_
 refine oo 5 ?_;refine Zh call145 leA (U6 (w:= [40]) (hL.le leA) hn) ?_
 rintro _ _ (⟨rfl,⟨hb1,hw1,hlt1⟩,rfl⟩|⟨rfl,hw1,rfl⟩)
 · refine oo 5 ?_;refine Zh call200 leA (IHe 1 (hL.le leA) (by omega) (by omega) (by omega) (by omega)) ?_
   rintro _ _ ⟨⟨k1,z1,s1,l1,o1,p1,y1,u1,w1⟩,m3,b3,rfl,rfl,hm3,hM3,ho3⟩
   refine Zm zeroValue215 fun n2=> ?_
   refine stA ?_;refine oo 4 ?_;refine Zh call144 leA (Y8 (w:= [41]) (hL.le leA) hn hM3) ?_
   rintro _ _ ⟨m4,b4,rfl,rfl,hm4,hM4,ho4⟩
   refine oo 3 ?_;refine ldA ?_;refine stA ?_;refine ox 1 ?_
   subst hb1
   refine Zq (rdH p la lc L m4 b4::exM (.mk k1 z1 s1 l1 o1 p1 y1 u1 w1)::q) func206 (rA_ results206) ⟨_,rfl,(.mk k1 z1 s1 l1 o1 p1 y1 u1 w1),m4,b4,rfl,rfl,by omega,hM4,prim_par hw1 ho3 ho4⟩
 refine ox 5 ?_;refine drw ?_;refine dl [0,1,2] 3 ?_;refine dl [4,5,6] 7 ?_;refine dd [8,9,10] ?_;refine XD.part 22 rfl (fun h1=> ?_) (fun h1=> ?_)
 focus
  replace h1:=sp h1
  refine dl [11,12,13] 14 ?_;refine dl [15,16,17] 18 ?_;refine Wp hL (by rw [hlen];omega) (fun b1 o1 e1=> ?_)
  have hs1:=hL;rw [e1] at hs1
  refine XD.know 26 (.slice (some ⟨b1,o1,none⟩) L.length lc) rfl (by rw [e1]) ?_
  refine dl [19,20] 21 ?_;refine dd [22,23] ?_;refine XD.nil ?_;refine X.part 35 rfl (fun h2=> ?_) (fun h2=> ?_)
  · replace h2:=sp h2
    refine xo 4 ?_;refine Zh call146 leA (Ht (hL.le leA) hn hnL) ?_;rintro _ _ ⟨z,m2,b2,rfl,rfl,⟨hm2,_⟩,hM2,ho2⟩
    refine oo 1 ?_;refine stA ?_;refine ox 1 ?_;refine X.le (Le.ex0 1 z em 0 false 0) ?_;refine Zq (rdH p la lc L m2 b2::exM (.mk 1 z em 0 false 0 [] none 0)::q) func206 (rA_ results206) ⟨_,rfl,.mk 1 z em 0 false 0 [] none 0,m2,b2,rfl,rfl,hm2,hM2,prim_num hw1 (by omega) h2 ho2⟩
  replace h2:=sp h2
  refine xo 5 ?_;refine Zh call143 leA (Ks (hL.le leA) hn hnL) ?_;rintro _ _ ⟨nm,m2,b2,rfl,rfl,⟨hm2,_⟩,hM2,ho2⟩
  refine oo 1 ?_;refine Zm zeroValue215 fun n2=> ?_
  refine stA ?_;refine oo 5 ?_
  have hk: ∀ h:n<L.length,L[n].k≠2:=fun _=>h2
 rotate_left
 focus
  replace h1:=sp h1
  refine dd [11,12,13,14,15,16,17,18,19,20,21,22,23] ?_;refine XD.nil ?_;refine xo 5 ?_;refine Zh call143 leA (Ks (hL.le leA) hn hnL) ?_;rintro _ _ ⟨nm,m2,b2,rfl,rfl,⟨hm2,_⟩,hM2,ho2⟩
  refine oo 1 ?_;refine Zm zeroValue215 fun n2=> ?_
  refine stA ?_;refine oo 5 ?_
  have hk: ∀ h:n<L.length,L[n].k≠2:=fun h=>absurd h (by omega)
 all_goals
  refine Zh call145 leA (U6 (w:= [91]) (hL.le leA) hn) ?_
  rintro _ _ (⟨rfl,⟨hb2,hw2,hlt2⟩,rfl⟩|⟨rfl,hw2,rfl⟩)
  · refine oo 5 ?_;refine st ?_;refine oo 4 ?_
    subst hb2
    refine Zh call200 leA (IHe 1 (hL.le leA) (by omega) (by omega) (by omega) (by omega)) ?_
    rintro _ _ ⟨⟨k1,z1,s1,l1,o1,p1,y1,u1,w1⟩,m3,b3,rfl,rfl,hm3,hM3,ho3⟩
    refine XO.ef (Yd exC underlying213 Hn rfl rfl Z4 rfl) ?_;rintro _ _ ⟨g,rfl,rfl⟩
    refine oo 1 ?_;refine st ?_;refine oo 3 ?_;refine Zh call144 leA (Y8 (w:= [93]) (hL.le leA) hn hM3) ?_
    rintro _ _ ⟨m4,b4,rfl,rfl,hm4,hM4,ho4⟩
    refine oo 3 ?_;refine ldA ?_;refine stA ?_;refine ox 1 ?_;refine I3 (kd:=3) (n:=0) (nm:=nm) (slot:=0) (loc:=false) (op:=0) ?_
    refine Zq (rdH p la lc L m4 b4::exM (.mk 3 0 nm 0 false 0 [(.mk k1 z1 s1 l1 o1 p1 y1 u1 w1)] (some ⟨g,0,none⟩) 1)::q) func206 (rA_ results206) ⟨_,rfl,.mk 3 0 nm 0 false 0 [(.mk k1 z1 s1 l1 o1 p1 y1 u1 w1)] (some ⟨g,0,none⟩) 1,m4,b4,rfl,rfl,by omega,hM4,Zqa hw1 hk ho2 hw2 ho3 ho4⟩
  refine oo 5 ?_;refine ldA ?_;refine stA ?_;refine ox 1 ?_;refine X.le (Le.ex0 2 0 nm 0 false 0) ?_;refine Zq (rdH p la lc L m2 b2::exM (.mk 2 0 nm 0 false 0 [] none 0)::q) func206 (rA_ results206) ⟨_,rfl,.mk 2 0 nm 0 false 0 [] none 0,m2,b2,rfl,rfl,hm2,hM2,Zql hw1 hk ho2 hw2⟩
set_option maxHeartbeats 1000000 in
theorem Zzb {r:Nat}(IHu:RdUn G la lc L f)(IHe: ∀ g,g≤f→Au G la lc L g)(hL:Sees q la (L.flatMap tkC))(hn:L.length≤65536)(hnL:n≤L.length)(h1r:1≤r)(h6r:r≤6)(hfu:10*(L.length - n)+9≤f+1+r):CallF prog G 200 [.pointer (some ⟨p,0,none⟩),.int .i64 (r:Int)] (rdH p la lc L n bad::q) (Ret fun v q'=> ∃ (e:Ex) (n':Nat) (bad':Bool),v= .agg (exC e).toArray∧q'=rdH p la lc L n' bad'::exM e::q∧n≤n'∧n'≤L.length∧Out L bad (W8 (f+1) r (L.drop n)) e.er n' bad'):=by
 refine CallF.of func200 ntmps200 rfl (fun F cs=> ?_)
 refine xo 2 ?_;refine Zm zeroValue215 fun n1=> ?_
 refine ox 7 ?_;refine X.part 8 rfl (fun h0=> ?_) (fun h0=> ?_)
 · replace h0:=sp h0;obtain rfl:r=6:=by omega
   refine xo 4 ?_;refine Zh call204 leA (IHu (hL.le leA) (by omega) (by omega)) ?_
   rintro _ _ ⟨⟨k1,z1,s1,l1,o1,p1,y1,u1,w1⟩,m2,b2,rfl,rfl,hm2,hM2,ho2⟩
   refine stA ?_;refine ox 1 ?_;refine Zq (rdH p la lc L m2 b2::exM (.mk k1 z1 s1 l1 o1 p1 y1 u1 w1)::q) func200 (rA_ results200) ⟨_,rfl,(.mk k1 z1 s1 l1 o1 p1 y1 u1 w1),m2,b2,rfl,rfl,hm2,hM2,expr_un ho2⟩
 replace h0:=sp h0;have h5r:r≤5:=by omega
 refine xo 7 ?_;refine Zh call200 leA (IHe f (Nat.le_refl _) (r+1) (hL.le leA) (by omega) (by omega) (by omega) (by omega)) ?_
 rintro _ _ ⟨⟨k1,z1,s1,l1,o1,p1,y1,u1,w1⟩,m2,b2,rfl,rfl,hm2,hM2,ho2⟩
 refine Zm zeroValue215 fun n2=> ?_
 refine stA ?_;refine ox 3 ?_
 have hS:=More.first (by omega) ho2
 generalize W8 (f+1) (r:Int) (L.drop n)=S at hS⊢
 refine X.at (X.loop (fun (s:Ex×Nat×Bool×Nat)=>n≤s.2.1∧s.2.1≤L.length∧s.2.2.2≤f∧10*(L.length - s.2.1)+1≤s.2.2.2∧More L bad S s.2.2.2 r s.1.er s.2.1 s.2.2.1) (fun s=> [(0,.pointer (some ⟨p,0,none⟩)),(1,.int .i64 (r:Int)),(4,.pointer (some ⟨n1,0,none⟩)),(5,.pointer (some ⟨n2,0,none⟩))]) (fun s=>rdH p la lc L s.2.1 s.2.2.1::pto n2 (.cells (exC s.1).toArray 215 (0,0))::pto n1 (.cells [.int .i64 0,.int .i64 0,.string ⟨#[]⟩,.int .i64 0,.bool false,.int .i64 0,.slice none 0 0].toArray 215 (0,0))::exM s.1::(q++F)) (fun s=>L.length - s.2.1) (fun s hi_ ih=> ?_) ((.mk k1 z1 s1 l1 o1 p1 y1 u1 w1),m2,b2,f) ⟨hm2,hM2,Nat.le_refl _,by dsimp only;omega,hS⟩) Zp leA
 try dsimp only at hi_ ih⊢
 obtain ⟨hi1,hi2,hi3,hi4,hi5⟩:=hi_
 obtain ⟨⟨k1,z1,s1,l1,o1,p1,y1,u1,w1⟩,m1,b1,g⟩:=s;dsimp only at*;clear ho2 hS
 obtain ⟨g,rfl⟩: ∃ g2,g=g2+1:=⟨g - 1,by omega⟩
 refine xo 5 ?_;refine XO.cR call205 (Xj (n:=m1) (bad:=b1) (r:=(r:Int)) Vd (hL.le leA) hn) ?_
 refine ox 2 ?_;refine X.part 18 rfl (fun h1=> ?_) (fun h1=> ?_)
 · replace h1:=sp h1;obtain rfl:b1=false:=by cases b1 with|false=>rfl|true=>(rw [if_pos rfl] at h1;exact absurd h1 (by decide))
   replace h1:U7 r (L.drop m1)≠0:=fun k=>by rw [if_neg (by decide),k] at h1;exact absurd h1 (by decide)
   have hlt:=P0 h1
   refine xo 7 ?_;refine XO.cR call205 (Xj (n:=m1) (bad:=false) (r:=(r:Int)) Vd (hL.le leA) hn) ?_
   refine XO.know 21 (.int .i64 (U7 r (L.drop m1):Nat)) rfl (rfl) ?_;refine ol 7 ?_;refine oo 3 ?_;refine st ?_;refine ox 2 ?_;refine drw ?_;refine dd [0] ?_;refine Yw 1 ?_;refine dd [2,3,4] ?_;refine Yj 5 call200 leA (IHe g (by omega) (r+1) (n:=m1+1) (bad:=false) (hL.le leA) (by omega) (by omega) (by omega) (by omega)) ?_
   rintro _ _ ⟨⟨k2,z2,s2,l2,o2,p2,y2,u2,w2⟩,m3,b3,rfl,rfl,hm3,hM3,ho3⟩
   refine ⟨hlA,?_⟩
   refine XD.ef 6 rfl (Ef.litR2 (u:=(.mk k1 z1 s1 l1 o1 p1 y1 u1 w1)) (v:=(.mk k2 z2 s2 l2 o2 p2 y2 u2 w2)) exC underlying213 Hn rfl rfl Z4 rfl rfl) ?_
   rintro _ _ ⟨g3,rfl,rfl⟩
   refine ⟨trivial,?_⟩
   refine dd [7] ?_;refine Yr 8 ?_;refine XD.nil ?_;refine xx 5 ?_;refine X.fzE2 (kd:=6) (n:=0) (nm:=em) (slot:=0) (loc:=false) (op:=(U7 r (L.drop m1):Nat)) ?_
   refine X.part 38 rfl (fun h3=> ?_) (fun h3=> ?_)
   · replace h3:=sp h3;obtain rfl:r=3:=by omega
     refine xo 3 ?_;refine ldA ?_;refine stA ?_;refine ox 1 ?_;refine Zq (rdH p la lc L m3 b3::exM (.mk 6 0 em 0 false (U7 (3:Nat) (L.drop m1):Nat) [(.mk k1 z1 s1 l1 o1 p1 y1 u1 w1),(.mk k2 z2 s2 l2 o2 p2 y2 u2 w2)] (some ⟨g3,0,none⟩) 2)::q) func200 (rA_ results200) ⟨_,rfl,(.mk 6 0 em 0 false (U7 (3:Nat) (L.drop m1):Nat) [(.mk k1 z1 s1 l1 o1 p1 y1 u1 w1),(.mk k2 z2 s2 l2 o2 p2 y2 u2 w2)] (some ⟨g3,0,none⟩) 2),m3,b3,rfl,rfl,by omega,hM3,hi5.three h1 ho3⟩
   replace h3:=sp h3
   refine xx 3 ?_;refine X.at (ih ((.mk 6 0 em 0 false (U7 r (L.drop m1):Nat) [(.mk k1 z1 s1 l1 o1 p1 y1 u1 w1),(.mk k2 z2 s2 l2 o2 p2 y2 u2 w2)] (some ⟨g3,0,none⟩) 2),m3,b3,g) ⟨by dsimp only;omega,hM3,by dsimp only;omega,by dsimp only;omega,hi5.go h1 ho3 (by omega)⟩ (by dsimp only;omega)) Zp leA
 replace h1:=sp h1
 refine xo 4 ?_;refine ldA ?_;refine stA ?_;refine ox 1 ?_;refine Zq (rdH p la lc L m1 b1::exM (.mk k1 z1 s1 l1 o1 p1 y1 u1 w1)::q) func200 (rA_ results200) ⟨_,rfl,(.mk k1 z1 s1 l1 o1 p1 y1 u1 w1),m1,b1,rfl,rfl,hi1,hi2,hi5.over (by cases b1 with|true=>exact .inl rfl|false=>rw [if_neg (by decide)] at h1;exact .inr (by omega))⟩
theorem Zqd {G:World}{la:Option Addr}{lc:Nat}{L:List Tk}(hn:L.length≤65536): ∀ f,Au G la lc L f∧RdUn G la lc L f∧RdPrim G la lc L f:=by
 intro f
 induction f using Nat.strongRecOn with
 |ind f ih=>
  cases f with
  |zero=>exact ⟨fun r hL h1 h6 hnL hfu=>by omega,fun hL hnL hfu=>by omega,fun hL hnL hfu=>by omega⟩
  |succ f=>
   have h:=ih f (Nat.lt_succ_self _)
   exact ⟨fun r hL h1 h6 hnL hfu=>Zzb h.2.1 (fun g hg=>(ih g (by omega)).1) hL hn hnL h1 h6 hfu,fun hL hnL hfu=>un_step h.2.1 h.2.2 hL hn hnL hfu,fun hL hnL hfu=>Zqi h.1 hL hn hnL hfu⟩
end
end Go.Proofs.YtgonllbkcgaliaaGreatDoor
