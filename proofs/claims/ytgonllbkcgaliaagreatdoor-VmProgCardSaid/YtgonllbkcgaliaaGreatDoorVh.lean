/- Contracts of functions, proved by walking their code. -/
import Derived.Test.YtgonllbkcgaliaaGreatDoorVg
import Derived.KernelRfl
set_option maxRecDepth 100000
set_option linter.unusedVariables false
set_option linter.unusedSimpArgs false
namespace Go.Proofs.YtgonllbkcgaliaaGreatDoor
open Go Go.RowKit Wx Go.Proofs.Tryz
attribute [local irreducible] Wx.lsH Wx.rsH Wx.stars
theorem Gb {z:Int}(h: -2147483648≤z∧z≤2147483648):IntKind.i64.wrap (0 - z)= -z:=by
 rw [V4 (by omega) (by omega)];omega
theorem La {c a b:Int}(h:10≤c∧c≤18):mkS c a b=Yg (c - 7) a b:=by unfold mkS;rw [if_neg (by omega),if_neg (by omega),if_neg (by omega)]
section
variable {G:World}{q pre:List HP}{a b A:Option Addr}{c d C p p0 p1 p2 i:Nat}{lo hi n cd dep:Int}{fv:Value}{x y:Ins}{t:Cod}{m:Mdl}{at_:Int}
variable {l cells loc:List Int}{idx arr z k u pc code:Int}{x1 x2 x3 x4 x5 x6 old:Value}{pm cc lc n1 n2:Nat}{la cda:Option Addr}
variable {f f2:Frm}{last:Int}{kk:Nat}
set_option maxHeartbeats 32000000 in
theorem RDo_ok (hq:MdlQ q m)(hf:FrmQ q f)(hc:Sees q cda (cells.map I64))(hm:M0 m f 0)(hcnt:(cells.length:Int)=Jn m)(hcap:f.stk.length≤f.sc):CallF prog G 46 [.agg (Wp m).toArray,.agg (U2 f).toArray,.slice cda cells.length cc] (q) (Ret fun v q'=> ∃ la lc sa sc W,v= .tuple [.agg (U2 ⟨f.code,(Wc m f cells).1.1,(Wc m f cells).1.2.1,(Wc m f cells).1.2.2,la,lc,sa,sc⟩).toArray,.agg (Nd (Wc m f cells).2).toArray].toArray∧FrmW W f la sa (Wc m f cells).1.2.1 (Wc m f cells).1.2.2∧q'=W::q):=by
 refine CallF.of func46 ntmps46 rfl (fun F cs=> ?_)
 obtain ⟨hS,hl32,hs27⟩:=G6 hm hcnt;have hm0:=hm;obtain ⟨hm1,hm2,hth,hm3,hm4,hm5⟩:=hm0
 have hlen:=Zm (f:=Wk) (sz:=4) (fun _=>rfl) m.threads;have hnt:=hq.nt
 have hpc:f.pc.toNat<m.threads[f.code.toNat].ins.length:=by omega
 have hql:=hq.x _ (List.getElem_mem hth);have hni:=hql.ni;have hsi:=hql.i;have hlen2:=Zm (f:=Zr) (sz:=4) (fun _=>rfl) m.threads[f.code.toNat].ins
 have hxe:Zs m f=m.threads[f.code.toNat].ins[f.pc.toNat]:=by unfold Zs;rw [show Lx m f.code=m.threads[f.code.toNat] from Z1 hth];exact Z1 hpc
 have hp65:=(vOk hm1 hth).2.1
 have hdep:=hS.dep;have hxc:=hS.ins.1;have hcel:=hS.cel;have hsm:=Y8 hS.ok m.arrays.length;rw [List.take_length] at hsm;have hmv:=hS.ok.2.2.1.1
 refine xo 2 ?_;refine Zb fun n1=> ?_
 refine Zb fun n2=> ?_
 refine Zy zeroValue67 fun n3=> ?_
 refine Zy zeroValue51 fun n4=> ?_
 refine ox 2 ?_;refine drw ?_;refine dd [0] ?_;refine ldD 1 ?_;refine dd [2] ?_;refine ldD 3 ?_;refine Yp hq.t (by rw [hlen];omega) (fun b1 o1 e1=> ?_)
 have hs1:=hq.t;rw [e1] at hs1
 refine XD.know 20 (.slice (some ⟨b1,o1,none⟩) m.threads.length m.tc) rfl (by rw [e1]) ?_
 refine dd [4,5] ?_;refine ldD 6 ?_ (hc:=(Yi (j:=f.code) hs1 leA (fun _=>rfl) hth (by omega) 2 _ rfl))
 refine dd [7] ?_;refine ldD 8 ?_;refine Yp hsi (by rw [hlen2];omega) (fun b2 o2 e2=> ?_)
 have hs2:=hsi;rw [e2] at hs2
 refine XD.know 25 (.slice (some ⟨b2,o2,none⟩) m.threads[f.code.toNat].ins.length m.threads[f.code.toNat].ic) rfl (by rw [e2]) ?_
 refine dd [9] ?_;refine Vp 10 (m:=f.pc.toNat) isAgg48 sizeOf48 hs2 hpc ?_
 refine XD.know 29 (.agg (Zr (Zs m f)).toArray) rfl (by rw [hxe]) ?_
 refine XD.al 11 zeroValue48 (fun n5=> ?_) (hh:=fun _=>hlR)
 refine Z9 12 ?_;refine XD.nil ?_;refine xo 2 ?_;refine ldA ?_;refine Zy zeroValue67 fun n6=> ?_
 refine stA ?_;refine oo 4 ?_;refine ld ?_;refine oo 2 ?_;refine st ?_;refine ox 2 ?_;refine drw ?_;refine dd [0] ?_;refine ldD 1 ?_;refine dd [2] ?_;refine ldD 3 ?_;refine dd [4,5,6] ?_;refine XD.nil ?_;refine xo 3 ?_;refine Zy zeroValue51 fun n7=> ?_
 refine stA ?_;refine ox 12 ?_
 try clear hlen2
 try clear hlen
 try clear hxe
 try clear hsi
 try clear hni
 try clear hql
 try clear hs2
 try clear hs1
 try clear e2
 try clear e1
 try clear hp65
 try clear hnt
 try clear hpc
 try clear hm4
 try clear hm3
 try clear hm5
 have hcase:(Zs m f).c=1∨(Zs m f).c=2∨(Zs m f).c=3∨(Zs m f).c=4∨(Zs m f).c=5∨(Zs m f).c=6∨(Zs m f).c=7∨(Zs m f).c=8∨(Zs m f).c=9∨(10≤(Zs m f).c∧(Zs m f).c≤18)∨(19≤(Zs m f).c∧(Zs m f).c≤34):=by omega
 rcases hcase with hx|hx|hx|hx|hx|hx|hx|hx|hx|hx|hx
 · have hdx:(0:Int)≤f.stk.length:=by omega
   refine X.part 42 rfl (fun hn1=> ?_) (fun hn1=> ?_)
   focus
    replace hn1:=sp hn1
    refine xo 3 ?_;refine ld ?_;refine oo 2 ?_;refine Yz hf.s (by simp;omega) (fun bs os es=> ?_)
    have hss:=hf.s;rw [es] at hss
    refine XO.know 44 (.slice (some ⟨bs,os,none⟩) f.stk.length f.sc) rfl (by rw [es]) ?_
    refine oo 1 ?_;refine ld ?_ (hc:=(Cl.e1 (n:=f.stk.length - 1) hss leA (by omega) (by omega)))
    refine XO.know 48 (.int .i64 (Zc f.stk)) rfl (congrArg (Value.int .i64) (Z1 (by omega)).symm) ?_
    refine ox 8 ?_;refine X.part 50 rfl (fun hn2=> ?_) (fun hn2=> ?_)
    focus
     replace hn2:=sp hn2
     refine xo 3 ?_;refine ld ?_;refine oo 2 ?_;refine XO.know 52 (.slice (some ⟨bs,os,none⟩) f.stk.length f.sc) rfl (by rw [es]) ?_
     refine oo 1 ?_;refine ld ?_ (hc:=(Cl.e1 (n:=f.stk.length - 2) hss leA (by omega) (by omega)))
     refine XO.know 56 (.int .i64 (Yx f.stk)) rfl (congrArg (Value.int .i64) (Z1 (by omega)).symm) ?_
     refine ox 10 ?_
    rotate_left
    focus
     replace hn2:=sp hn2
     refine xx 10 ?_
   rotate_left 2
   focus
    replace hn1:=sp hn1
    have hnil:f.stk= []:=List.eq_nil_of_length_eq_zero (by omega)
    refine X.know 13 (.int .i64 (Zc f.stk)) rfl (by rw [hnil];rfl) ?_
    refine xx 8 ?_;refine Zj 50 ?_;refine xx 10 ?_
   all_goals
    refine X.kt 57 ?_;refine xo 3 ?_;refine ldA ?_;refine oo 1 ?_;refine ld ?_;refine Zh call66 (Le.refl _) (Nh (f:=f) (kk:=0) (z:=(Zs m f).n) (hf.le leA) (by omega) hcap (by omega)) ?_
    rintro _ _ ⟨a1,c1,rfl,rfl⟩
    refine oo 1 ?_;refine st ?_;refine ox 2 ?_;refine drw ?_;refine Z4 0 ?_;refine Z4 1 ?_;refine Z9 2 ?_ (hh:=hlR)
    refine Z9 3 ?_;refine XD.nil ?_
    have hD:Wc m f cells=((f.pc+1,f.loc,f.stk++ [(Zs m f).n]),Vo):=by unfold Wc doS;rw [if_neg (by omega),if_neg (by omega),if_neg (by omega),if_neg (by omega),if_neg (by omega),if_neg (by omega),if_neg (by omega)];unfold Ym;rw [if_pos hx]
    have hst0:f.stk.take (f.stk.length - 0)=f.stk:=List.take_of_length_le (by omega)
    rw [hst0]
    refine Zq (lsH I64 2 a1 c1 (f.stk++ [(Zs m f).n])::q) func46 (Ut results46) ⟨_,rfl,f.la,f.lc,a1,c1,_,by rw [hD];rfl,by rw [hD];exact ⟨.inl ⟨rfl,rfl⟩,.inr (Sees.lsH [])⟩,rfl⟩
 · have hdx:(0:Int)≤f.stk.length:=by omega
   have hv:=hS.var (by omega);have hlt:(Zs m f).a.toNat<cells.length:=by unfold Jn at hcel;omega
   refine X.part 42 rfl (fun hn1=> ?_) (fun hn1=> ?_)
   focus
    replace hn1:=sp hn1
    refine xo 3 ?_;refine ld ?_;refine oo 2 ?_;refine Yz hf.s (by simp;omega) (fun bs os es=> ?_)
    have hss:=hf.s;rw [es] at hss
    refine XO.know 44 (.slice (some ⟨bs,os,none⟩) f.stk.length f.sc) rfl (by rw [es]) ?_
    refine oo 1 ?_;refine ld ?_ (hc:=(Cl.e1 (n:=f.stk.length - 1) hss leA (by omega) (by omega)))
    refine XO.know 48 (.int .i64 (Zc f.stk)) rfl (congrArg (Value.int .i64) (Z1 (by omega)).symm) ?_
    refine ox 8 ?_;refine X.part 50 rfl (fun hn2=> ?_) (fun hn2=> ?_)
    focus
     replace hn2:=sp hn2
     refine xo 3 ?_;refine ld ?_;refine oo 2 ?_;refine XO.know 52 (.slice (some ⟨bs,os,none⟩) f.stk.length f.sc) rfl (by rw [es]) ?_
     refine oo 1 ?_;refine ld ?_ (hc:=(Cl.e1 (n:=f.stk.length - 2) hss leA (by omega) (by omega)))
     refine XO.know 56 (.int .i64 (Yx f.stk)) rfl (congrArg (Value.int .i64) (Z1 (by omega)).symm) ?_
     refine ox 10 ?_
    rotate_left
    focus
     replace hn2:=sp hn2
     refine xx 10 ?_
   rotate_left 2
   focus
    replace hn1:=sp hn1
    have hnil:f.stk= []:=List.eq_nil_of_length_eq_zero (by omega)
    refine X.know 13 (.int .i64 (Zc f.stk)) rfl (by rw [hnil];rfl) ?_
    refine xx 8 ?_;refine Zj 50 ?_;refine xx 10 ?_
   all_goals
    refine Zj 57 ?_;refine xx 7 ?_;refine X.kt 67 ?_;refine xx 2 ?_;refine drw ?_;refine Z4 0 ?_;refine dd [1,2] ?_;refine ldD 3 ?_;refine Yp hc (by simp;omega) (fun bc oc ec=> ?_)
    have hsc:=hc;rw [ec] at hsc
    refine XD.know 71 (.slice (some ⟨bc,oc,none⟩) cells.length cc) rfl (by rw [ec]) ?_
    refine dd [4] ?_;refine ldD 5 ?_ (hc:=(Cl.e1 hsc leA hlt (by omega)))
    refine Yf 6 call66 (Le.refl _) (Nh (f:=f) (kk:=0) (z:=cells[(Zs m f).a.toNat]) (hf.le leA) (by omega) hcap (by omega)) ?_
    rintro _ _ ⟨a1,c1,rfl,rfl⟩
    refine ⟨hlR,?_⟩
    refine dd [7] ?_;refine stD 8 ?_;refine XD.nil ?_;refine xx 1 ?_;refine drw ?_;refine Z4 0 ?_;refine dd [1] ?_;refine ldD 2 ?_;refine dd [3,4] ?_;refine ldD 5 ?_;refine XD.know 81 (.slice (some ⟨bc,oc,none⟩) cells.length cc) rfl (by rw [ec]) ?_
    refine dd [6] ?_;refine ldD 7 ?_ (hc:=(Cl.e1 hsc leA hlt (by omega)))
    refine dd [8,9] ?_;refine Z9 10 ?_ (hh:=hlR)
    refine Z9 11 ?_;refine XD.nil ?_
    have hD:Wc m f cells=((f.pc+1,f.loc,f.stk++ [cells[(Zs m f).a.toNat]]),Fm (Zs m f).a false cells[(Zs m f).a.toNat]):=by unfold Wc doS;rw [if_neg (by omega),if_neg (by omega),if_pos (by omega)];rw [show Kb m (Zs m f) f.stk cells=some (((Zs m f).a,false,cells[(Zs m f).a.toNat]),f.stk++ [cells[(Zs m f).a.toNat]]) from by unfold Kb;rw [if_pos hx,Z1 hlt]]
    have hst0:f.stk.take (f.stk.length - 0)=f.stk:=List.take_of_length_le (by omega)
    rw [hst0]
    refine Zq (lsH I64 2 a1 c1 (f.stk++ [cells[(Zs m f).a.toNat]])::q) func46 (Ut results46) ⟨_,rfl,f.la,f.lc,a1,c1,_,by rw [hD];rfl,by rw [hD];exact ⟨.inl ⟨rfl,rfl⟩,.inr (Sees.lsH [])⟩,rfl⟩
 · have hdx:(0:Int)≤f.stk.length:=by omega
   have hv:=hS.loc (by omega);have hlt:(Zs m f).a.toNat<f.loc.length:=by omega
   refine X.part 42 rfl (fun hn1=> ?_) (fun hn1=> ?_)
   focus
    replace hn1:=sp hn1
    refine xo 3 ?_;refine ld ?_;refine oo 2 ?_;refine Yz hf.s (by simp;omega) (fun bs os es=> ?_)
    have hss:=hf.s;rw [es] at hss
    refine XO.know 44 (.slice (some ⟨bs,os,none⟩) f.stk.length f.sc) rfl (by rw [es]) ?_
    refine oo 1 ?_;refine ld ?_ (hc:=(Cl.e1 (n:=f.stk.length - 1) hss leA (by omega) (by omega)))
    refine XO.know 48 (.int .i64 (Zc f.stk)) rfl (congrArg (Value.int .i64) (Z1 (by omega)).symm) ?_
    refine ox 8 ?_;refine X.part 50 rfl (fun hn2=> ?_) (fun hn2=> ?_)
    focus
     replace hn2:=sp hn2
     refine xo 3 ?_;refine ld ?_;refine oo 2 ?_;refine XO.know 52 (.slice (some ⟨bs,os,none⟩) f.stk.length f.sc) rfl (by rw [es]) ?_
     refine oo 1 ?_;refine ld ?_ (hc:=(Cl.e1 (n:=f.stk.length - 2) hss leA (by omega) (by omega)))
     refine XO.know 56 (.int .i64 (Yx f.stk)) rfl (congrArg (Value.int .i64) (Z1 (by omega)).symm) ?_
     refine ox 10 ?_
    rotate_left
    focus
     replace hn2:=sp hn2
     refine xx 10 ?_
   rotate_left 2
   focus
    replace hn1:=sp hn1
    have hnil:f.stk= []:=List.eq_nil_of_length_eq_zero (by omega)
    refine X.know 13 (.int .i64 (Zc f.stk)) rfl (by rw [hnil];rfl) ?_
    refine xx 8 ?_;refine Zj 50 ?_;refine xx 10 ?_
   all_goals
    refine Zj 57 ?_;refine xx 7 ?_;refine Zj 67 ?_;refine xx 7 ?_;refine X.kt 88 ?_;refine xx 2 ?_;refine drw ?_;refine Z4 0 ?_;refine dd [1] ?_;refine ldD 2 ?_;refine dd [3] ?_;refine ldD 4 ?_;refine Yp hf.l (by simp;omega) (fun bl ol el=> ?_)
    have hsl:=hf.l;rw [el] at hsl
    refine XD.know 93 (.slice (some ⟨bl,ol,none⟩) f.loc.length f.lc) rfl (by rw [el]) ?_
    refine dd [5] ?_;refine ldD 6 ?_ (hc:=(Cl.e1 hsl leA hlt (by omega)))
    refine Yf 7 call66 (Le.refl _) (Nh (f:=f) (kk:=0) (z:=f.loc[(Zs m f).a.toNat]) (hf.le leA) (by omega) hcap (by omega)) ?_
    rintro _ _ ⟨a1,c1,rfl,rfl⟩
    refine ⟨hlR,?_⟩
    refine dd [8] ?_;refine stD 9 ?_;refine XD.nil ?_;refine xx 1 ?_;refine drw ?_;refine Z4 0 ?_;refine Z4 1 ?_;refine Z9 2 ?_ (hh:=hlR)
    refine Z9 3 ?_;refine XD.nil ?_
    have hD:Wc m f cells=((f.pc+1,f.loc,f.stk++ [f.loc[(Zs m f).a.toNat]]),Vo):=by unfold Wc doS;rw [if_neg (by omega),if_neg (by omega),if_neg (by omega),if_neg (by omega),if_neg (by omega),if_neg (by omega),if_neg (by omega)];unfold Ym;rw [if_neg (by omega),if_pos hx];rw [Z1 hlt]
    have hst0:f.stk.take (f.stk.length - 0)=f.stk:=List.take_of_length_le (by omega)
    rw [hst0]
    refine Zq (lsH I64 2 a1 c1 (f.stk++ [f.loc[(Zs m f).a.toNat]])::q) func46 (Ut results46) ⟨_,rfl,f.la,f.lc,a1,c1,_,by rw [hD];rfl,by rw [hD];exact ⟨.inl ⟨rfl,rfl⟩,.inr (Sees.lsH [])⟩,rfl⟩
 · have hdx:(1:Int)≤f.stk.length:=by have h:=hdep;rw [hx] at h;exact h
   have hv:=hS.arr (by omega)
   refine X.kt 42 ?_;refine xo 3 ?_;refine ld ?_;refine oo 2 ?_;refine Yz hf.s (by simp;omega) (fun bs os es=> ?_)
   have hss:=hf.s;rw [es] at hss
   refine XO.know 44 (.slice (some ⟨bs,os,none⟩) f.stk.length f.sc) rfl (by rw [es]) ?_
   refine oo 1 ?_;refine ld ?_ (hc:=(Cl.e1 (n:=f.stk.length - 1) hss leA (by omega) (by omega)))
   refine XO.know 48 (.int .i64 (Zc f.stk)) rfl (congrArg (Value.int .i64) (Z1 (by omega)).symm) ?_
   refine ox 8 ?_;refine X.part 50 rfl (fun hn2=> ?_) (fun hn2=> ?_)
   focus
    replace hn2:=sp hn2
    refine xo 3 ?_;refine ld ?_;refine oo 2 ?_;refine XO.know 52 (.slice (some ⟨bs,os,none⟩) f.stk.length f.sc) rfl (by rw [es]) ?_
    refine oo 1 ?_;refine ld ?_ (hc:=(Cl.e1 (n:=f.stk.length - 2) hss leA (by omega) (by omega)))
    refine XO.know 56 (.int .i64 (Yx f.stk)) rfl (congrArg (Value.int .i64) (Z1 (by omega)).symm) ?_
    refine ox 10 ?_
   rotate_left
   focus
    replace hn2:=sp hn2
    refine xx 10 ?_
   all_goals
    refine Zj 57 ?_;refine xx 7 ?_;refine Zj 67 ?_;refine xx 7 ?_;refine Zj 88 ?_;refine xx 7 ?_;refine X.kt 102 ?_;refine xo 3 ?_;refine ldA ?_;refine oo 1 ?_;refine ld ?_;refine oo 1 ?_;refine XO.cR call67 (Ca (arr:=(Zs m f).a) (idx:=Zc f.stk) (hq.le leA) hS.ok hv (Wz hS.vl _)) ?_
    refine ox 8 ?_;refine X.part 111 rfl (fun ht=> ?_) (fun ht=> ?_)
    · replace ht:=sp ht
      refine xo 3 ?_;refine ldA ?_;refine XO.cR call68 (Tb (f:=f)) ?_
      refine oo 2 ?_;refine stA ?_;refine stA ?_;refine ox 1 ?_
      have hD:Wc m f cells=((f.pc,f.loc,f.stk),N9 3):=by unfold Wc doS;rw [if_neg (by omega),if_neg (by omega),if_pos (by omega)];rw [show Kb m (Zs m f) f.stk cells=none from by unfold Kb;rw [if_neg (by omega),if_neg (by omega),if_pos hx,if_pos ht]]
      refine Zq (stars []::q) func46 (Ut results46) ⟨_,rfl,f.la,f.lc,f.sa,f.sc,_,by rw [hD];rfl,by rw [hD];exact ⟨.inl ⟨rfl,rfl⟩,.inl ⟨rfl,rfl⟩⟩,rfl⟩ (Le.trans leA (Vb _))
    replace ht:=sp ht
    have hcr:=Mi hS.ok (a:=(Zs m f).a) (i:=Zc f.stk) hv;have hlt:(Ww m (Zs m f).a (Zc f.stk)).toNat<cells.length:=by omega
    refine xx 3 ?_;refine drw ?_;refine Z4 0 ?_;refine dd [1,2] ?_;refine Yp hc (by simp;omega) (fun bc oc ec=> ?_)
    have hsc:=hc;rw [ec] at hsc
    refine XD.know 117 (.slice (some ⟨bc,oc,none⟩) cells.length cc) rfl (by rw [ec]) ?_
    refine dd [3] ?_;refine ldD 4 ?_ (hc:=(Cl.e1 hsc leA hlt (by omega)))
    refine Yf 5 call66 (Le.refl _) (Nh (f:=f) (kk:=1) (z:=cells[(Ww m (Zs m f).a (Zc f.stk)).toNat]) (hf.le leA) (by omega) hcap (by omega)) ?_
    rintro _ _ ⟨a1,c1,rfl,rfl⟩
    refine ⟨trivial,?_⟩
    refine dd [6] ?_;refine stD 7 ?_;refine XD.nil ?_;refine xx 1 ?_;refine drw ?_;refine Z4 0 ?_;refine dd [1,2,3] ?_;refine XD.know 125 (.slice (some ⟨bc,oc,none⟩) cells.length cc) rfl (by rw [ec]) ?_
    refine dd [4] ?_;refine ldD 5 ?_ (hc:=(Cl.e1 hsc leA hlt (by omega)))
    refine dd [6,7] ?_;refine Z9 8 ?_ (hh:=hlR)
    refine Z9 9 ?_;refine XD.nil ?_
    have hD:Wc m f cells=((f.pc+1,f.loc,f.stk.take (f.stk.length - 1)++ [cells[(Ww m (Zs m f).a (Zc f.stk)).toNat]]),Fm (Ww m (Zs m f).a (Zc f.stk)) false cells[(Ww m (Zs m f).a (Zc f.stk)).toNat]):=by unfold Wc doS;rw [if_neg (by omega),if_neg (by omega),if_pos (by omega)];rw [show Kb m (Zs m f) f.stk cells=some ((Ww m (Zs m f).a (Zc f.stk),false,cells[(Ww m (Zs m f).a (Zc f.stk)).toNat]),f.stk.take (f.stk.length - 1)++ [cells[(Ww m (Zs m f).a (Zc f.stk)).toNat]]) from by unfold Kb;rw [if_neg (by omega),if_neg (by omega),if_pos hx,if_neg (by omega),Z1 hlt]]
    refine Zq (lsH I64 2 a1 c1 (f.stk.take (f.stk.length - 1)++ [cells[(Ww m (Zs m f).a (Zc f.stk)).toNat]])::q) func46 (Ut results46) ⟨_,rfl,f.la,f.lc,a1,c1,_,by rw [hD];rfl,by rw [hD];exact ⟨.inl ⟨rfl,rfl⟩,.inr (Sees.lsH [])⟩,rfl⟩
 · have hdx:(1:Int)≤f.stk.length:=by have h:=hdep;rw [hx] at h;exact h
   have hv:=hS.var (by omega);have hlt:(Zs m f).a.toNat<cells.length:=by unfold Jn at hcel;omega
   refine X.kt 42 ?_;refine xo 3 ?_;refine ld ?_;refine oo 2 ?_;refine Yz hf.s (by simp;omega) (fun bs os es=> ?_)
   have hss:=hf.s;rw [es] at hss
   refine XO.know 44 (.slice (some ⟨bs,os,none⟩) f.stk.length f.sc) rfl (by rw [es]) ?_
   refine oo 1 ?_;refine ld ?_ (hc:=(Cl.e1 (n:=f.stk.length - 1) hss leA (by omega) (by omega)))
   refine XO.know 48 (.int .i64 (Zc f.stk)) rfl (congrArg (Value.int .i64) (Z1 (by omega)).symm) ?_
   refine ox 8 ?_;refine X.part 50 rfl (fun hn2=> ?_) (fun hn2=> ?_)
   focus
    replace hn2:=sp hn2
    refine xo 3 ?_;refine ld ?_;refine oo 2 ?_;refine XO.know 52 (.slice (some ⟨bs,os,none⟩) f.stk.length f.sc) rfl (by rw [es]) ?_
    refine oo 1 ?_;refine ld ?_ (hc:=(Cl.e1 (n:=f.stk.length - 2) hss leA (by omega) (by omega)))
    refine XO.know 56 (.int .i64 (Yx f.stk)) rfl (congrArg (Value.int .i64) (Z1 (by omega)).symm) ?_
    refine ox 10 ?_
   rotate_left
   focus
    replace hn2:=sp hn2
    refine xx 10 ?_
   all_goals
    refine Zj 57 ?_;refine xx 7 ?_;refine Zj 67 ?_;refine xx 7 ?_;refine Zj 88 ?_;refine xx 7 ?_;refine Zj 102 ?_;refine xx 7 ?_;refine X.kt 131 ?_;refine xo 3 ?_;refine ldA ?_;refine Zh call69 (Le.refl _) (Bw (f:=f) (kk:=1) (hf.le leA) (by omega) hcap (by omega)) ?_
    rintro _ _ ⟨a1,c1,rfl,rfl⟩
    refine oo 1 ?_;refine st ?_;refine ox 2 ?_;refine drw ?_;refine Z4 0 ?_;refine dd [1] ?_;refine ldD 2 ?_;refine dd [3,4,5] ?_;refine Z9 6 ?_ (hh:=hlR)
    refine Z9 7 ?_;refine XD.nil ?_
    have hD:Wc m f cells=((f.pc+1,f.loc,f.stk.take (f.stk.length - 1)),Fm (Zs m f).a true (Zc f.stk)):=by unfold Wc doS;rw [if_neg (by omega),if_neg (by omega),if_pos (by omega)];rw [show Kb m (Zs m f) f.stk cells=some (((Zs m f).a,true,Zc f.stk),f.stk.take (f.stk.length - 1)) from by unfold Kb;rw [if_neg (by omega),if_pos hx]]
    refine Zq (lsH I64 2 a1 c1 (f.stk.take (f.stk.length - 1))::q) func46 (Ut results46) ⟨_,rfl,f.la,f.lc,a1,c1,_,by rw [hD];rfl,by rw [hD];exact ⟨.inl ⟨rfl,rfl⟩,.inr (Sees.lsH [])⟩,rfl⟩
 · have hdx:(1:Int)≤f.stk.length:=by have h:=hdep;rw [hx] at h;exact h
   have hv:=hS.loc (by omega);have hlt:(Zs m f).a.toNat<f.loc.length:=by omega
   refine X.kt 42 ?_;refine xo 3 ?_;refine ld ?_;refine oo 2 ?_;refine Yz hf.s (by simp;omega) (fun bs os es=> ?_)
   have hss:=hf.s;rw [es] at hss
   refine XO.know 44 (.slice (some ⟨bs,os,none⟩) f.stk.length f.sc) rfl (by rw [es]) ?_
   refine oo 1 ?_;refine ld ?_ (hc:=(Cl.e1 (n:=f.stk.length - 1) hss leA (by omega) (by omega)))
   refine XO.know 48 (.int .i64 (Zc f.stk)) rfl (congrArg (Value.int .i64) (Z1 (by omega)).symm) ?_
   refine ox 8 ?_;refine X.part 50 rfl (fun hn2=> ?_) (fun hn2=> ?_)
   focus
    replace hn2:=sp hn2
    refine xo 3 ?_;refine ld ?_;refine oo 2 ?_;refine XO.know 52 (.slice (some ⟨bs,os,none⟩) f.stk.length f.sc) rfl (by rw [es]) ?_
    refine oo 1 ?_;refine ld ?_ (hc:=(Cl.e1 (n:=f.stk.length - 2) hss leA (by omega) (by omega)))
    refine XO.know 56 (.int .i64 (Yx f.stk)) rfl (congrArg (Value.int .i64) (Z1 (by omega)).symm) ?_
    refine ox 10 ?_
   rotate_left
   focus
    replace hn2:=sp hn2
    refine xx 10 ?_
   all_goals
    refine Zj 57 ?_;refine xx 7 ?_;refine Zj 67 ?_;refine xx 7 ?_;refine Zj 88 ?_;refine xx 7 ?_;refine Zj 102 ?_;refine xx 7 ?_;refine Zj 131 ?_;refine xx 7 ?_;refine X.kt 143 ?_;refine xo 3 ?_;refine ldA ?_;refine Zh call69 (Le.refl _) (Bw (f:=f) (kk:=1) (hf.le leA) (by omega) hcap (by omega)) ?_
    rintro _ _ ⟨a1,c1,rfl,rfl⟩
    refine oo 1 ?_;refine st ?_;refine oo 4 ?_;refine ld ?_;refine XO.le (q':=lsH I64 2 none 0 []::_) (Yw _ _ _) ?_
    refine XO.ef (Yt (f:=I64) (l:= []) (m:=f.loc) underlying22 Tryz.info2 rfl rfl rfl Zw (hf.l.le leA) (fun _=>rfl) (by simp;omega) (by simp;omega)) ?_
    rintro _ _ ⟨a2,c2,rfl,rfl⟩
    rw [List.nil_append]
    refine oo 1 ?_;refine st ?_;refine oo 4 ?_;refine ld ?_;refine oo 1 ?_;refine ld ?_;refine oo 1 ?_;refine Dd (l:=f.loc) (a:=a2) (by omega) (fun gl e_=> ?_);subst e_
    refine oo 1 ?_;refine XO.ef0 (Up (l:=f.loc) (n:=(Zs m f).a.toNat) (u:=Zc f.stk) rfl rfl sizeOf2 (by omega) hlt rfl rfl Zw) ?_
    rintro _ _ ⟨rfl,rfl⟩
    refine ox 2 ?_;refine drw ?_;refine Z4 0 ?_;refine Z4 1 ?_;refine Z9 2 ?_ (hh:=hlR)
    refine Z9 3 ?_;refine XD.nil ?_
    have hD:Wc m f cells=((f.pc+1,(f.loc.set (Zs m f).a.toNat (Zc f.stk)),f.stk.take (f.stk.length - 1)),Vo):=by unfold Wc doS;rw [if_neg (by omega),if_neg (by omega),if_neg (by omega),if_neg (by omega),if_neg (by omega),if_neg (by omega),if_neg (by omega)];unfold Ym;rw [if_neg (by omega),if_neg (by omega),if_pos hx]
    refine Zq (stars [lsH I64 2 a1 c1 (f.stk.take (f.stk.length - 1)),lsH I64 2 (some ⟨gl,0,none⟩) c2 ((f.loc.set (Zs m f).a.toNat (Zc f.stk)))]::q) func46 (Ut results46) ⟨_,rfl,_,c2,a1,c1,_,by rw [hD];simp only [U2,List.length_set];rfl,by rw [hD];exact ⟨.inr ((Sees.lsH _).le (Le.trans (Wf [_,_] []) Zw)),.inr ((Sees.lsH _).le (Le.trans (Wf [_,_] []) Zw))⟩,rfl⟩ (Le.trans (Le.pick Zw (Le.pick Zw leA)) (W6 [_,_] _))
 · have hdx:(2:Int)≤f.stk.length:=by have h:=hdep;rw [hx] at h;exact h
   have hv:=hS.arr (by omega)
   refine X.kt 42 ?_;refine xo 3 ?_;refine ld ?_;refine oo 2 ?_;refine Yz hf.s (by simp;omega) (fun bs os es=> ?_)
   have hss:=hf.s;rw [es] at hss
   refine XO.know 44 (.slice (some ⟨bs,os,none⟩) f.stk.length f.sc) rfl (by rw [es]) ?_
   refine oo 1 ?_;refine ld ?_ (hc:=(Cl.e1 (n:=f.stk.length - 1) hss leA (by omega) (by omega)))
   refine XO.know 48 (.int .i64 (Zc f.stk)) rfl (congrArg (Value.int .i64) (Z1 (by omega)).symm) ?_
   refine ox 8 ?_;refine X.kt 50 ?_;refine xo 3 ?_;refine ld ?_;refine oo 2 ?_;refine XO.know 52 (.slice (some ⟨bs,os,none⟩) f.stk.length f.sc) rfl (by rw [es]) ?_
   refine oo 1 ?_;refine ld ?_ (hc:=(Cl.e1 (n:=f.stk.length - 2) hss leA (by omega) (by omega)))
   refine XO.know 56 (.int .i64 (Yx f.stk)) rfl (congrArg (Value.int .i64) (Z1 (by omega)).symm) ?_
   refine ox 10 ?_;refine Zj 57 ?_;refine xx 7 ?_;refine Zj 67 ?_;refine xx 7 ?_;refine Zj 88 ?_;refine xx 7 ?_;refine Zj 102 ?_;refine xx 7 ?_;refine Zj 131 ?_;refine xx 7 ?_;refine Zj 143 ?_;refine xx 7 ?_;refine X.kt 161 ?_;refine xo 3 ?_;refine ldA ?_;refine oo 1 ?_;refine ld ?_;refine oo 1 ?_;refine XO.cR call67 (Ca (arr:=(Zs m f).a) (idx:=Yx f.stk) (hq.le leA) hS.ok hv (Wz hS.vl _)) ?_
   refine ox 8 ?_;refine X.part 170 rfl (fun ht=> ?_) (fun ht=> ?_)
   · replace ht:=sp ht
     refine xo 3 ?_;refine ldA ?_;refine XO.cR call68 (Tb (f:=f)) ?_
     refine oo 2 ?_;refine stA ?_;refine stA ?_;refine ox 1 ?_
     have hD:Wc m f cells=((f.pc,f.loc,f.stk),N9 3):=by unfold Wc doS;rw [if_neg (by omega),if_neg (by omega),if_pos (by omega)];rw [show Kb m (Zs m f) f.stk cells=none from by unfold Kb;rw [if_neg (by omega),if_neg (by omega),if_neg (by omega),if_pos ht]]
     refine Zq (stars []::q) func46 (Ut results46) ⟨_,rfl,f.la,f.lc,f.sa,f.sc,_,by rw [hD];rfl,by rw [hD];exact ⟨.inl ⟨rfl,rfl⟩,.inl ⟨rfl,rfl⟩⟩,rfl⟩ (Le.trans leA (Vb _))
   replace ht:=sp ht
   have hcr:=Mi hS.ok (a:=(Zs m f).a) (i:=Yx f.stk) hv;have hlt:(Ww m (Zs m f).a (Yx f.stk)).toNat<cells.length:=by omega
   refine xo 4 ?_;refine ldA ?_;refine Zh call69 (Le.refl _) (Bw (f:=f) (kk:=2) (hf.le leA) (by omega) hcap (by omega)) ?_
   rintro _ _ ⟨a1,c1,rfl,rfl⟩
   refine oo 1 ?_;refine st ?_;refine oo 3 ?_;refine ldA ?_;refine oo 4 ?_;refine stA ?_;refine stA ?_;refine ox 1 ?_
   have hD:Wc m f cells=((f.pc+1,f.loc,f.stk.take (f.stk.length - 2)),Fm (Ww m (Zs m f).a (Yx f.stk)) true (Zc f.stk)):=by unfold Wc doS;rw [if_neg (by omega),if_neg (by omega),if_pos (by omega)];rw [show Kb m (Zs m f) f.stk cells=some ((Ww m (Zs m f).a (Yx f.stk),true,Zc f.stk),f.stk.take (f.stk.length - 2)) from by unfold Kb;rw [if_neg (by omega),if_neg (by omega),if_neg (by omega),if_neg (by omega)]]
   refine Zq (lsH I64 2 a1 c1 (f.stk.take (f.stk.length - 2))::q) func46 (Ut results46) ⟨_,rfl,f.la,f.lc,a1,c1,_,by rw [hD];rfl,by rw [hD];exact ⟨.inl ⟨rfl,rfl⟩,.inr (Sees.lsH [])⟩,rfl⟩
 · have hdx:(1:Int)≤f.stk.length:=by have h:=hdep;rw [hx] at h;exact h
   have hvl:val (Zc f.stk):=Wz hS.vl _;have hva:val (Yx f.stk):=Wz hS.vl _;unfold val at hvl hva
   refine X.kt 42 ?_;refine xo 3 ?_;refine ld ?_;refine oo 2 ?_;refine Yz hf.s (by simp;omega) (fun bs os es=> ?_)
   have hss:=hf.s;rw [es] at hss
   refine XO.know 44 (.slice (some ⟨bs,os,none⟩) f.stk.length f.sc) rfl (by rw [es]) ?_
   refine oo 1 ?_;refine ld ?_ (hc:=(Cl.e1 (n:=f.stk.length - 1) hss leA (by omega) (by omega)))
   refine XO.know 48 (.int .i64 (Zc f.stk)) rfl (congrArg (Value.int .i64) (Z1 (by omega)).symm) ?_
   refine ox 8 ?_;refine X.part 50 rfl (fun hn2=> ?_) (fun hn2=> ?_)
   focus
    replace hn2:=sp hn2
    refine xo 3 ?_;refine ld ?_;refine oo 2 ?_;refine XO.know 52 (.slice (some ⟨bs,os,none⟩) f.stk.length f.sc) rfl (by rw [es]) ?_
    refine oo 1 ?_;refine ld ?_ (hc:=(Cl.e1 (n:=f.stk.length - 2) hss leA (by omega) (by omega)))
    refine XO.know 56 (.int .i64 (Yx f.stk)) rfl (congrArg (Value.int .i64) (Z1 (by omega)).symm) ?_
    refine ox 10 ?_
   rotate_left
   focus
    replace hn2:=sp hn2
    refine xx 10 ?_
   all_goals
    refine Zj 57 ?_;refine xx 7 ?_;refine Zj 67 ?_;refine xx 7 ?_;refine Zj 88 ?_;refine xx 7 ?_;refine Zj 102 ?_;refine xx 7 ?_;refine Zj 131 ?_;refine xx 7 ?_;refine Zj 143 ?_;refine xx 7 ?_;refine Zj 161 ?_;refine xx 7 ?_;refine X.kt 183 ?_;refine xo 5 ?_;refine Zn (Bp rfl) ?_;refine XO.know 187 (.int .i64 (-Zc f.stk)) rfl (congrArg (Value.int .i64) (Gb ⟨by omega,by omega⟩)) ?_
    refine XO.cR call39 (Sc (z:= -Zc f.stk)) ?_
    refine Zn (Pu.not rfl) ?_;refine ox 1 ?_;refine X.part 189 rfl (fun ht=> ?_) (fun ht=> ?_)
    · replace ht:=sp ht
      refine xo 3 ?_;refine ldA ?_;refine XO.cR call68 (Tb (f:=f)) ?_
      refine oo 2 ?_;refine stA ?_;refine stA ?_;refine ox 1 ?_
      have hD:Wc m f cells=((f.pc,f.loc,f.stk),N9 2):=by unfold Wc doS;rw [if_neg (by omega),if_pos (by omega)];simp only [show N7 (Zs m f).c from by omega,if_true];rw [hx];unfold mkS;rw [if_pos rfl,if_neg ht];rfl
      refine Zq (stars []::q) func46 (Ut results46) ⟨_,rfl,f.la,f.lc,f.sa,f.sc,_,by rw [hD];rfl,by rw [hD];exact ⟨.inl ⟨rfl,rfl⟩,.inl ⟨rfl,rfl⟩⟩,rfl⟩ (Le.trans leA (Vb _))
    replace ht:=sp ht
    refine xo 4 ?_;refine ldA ?_;refine oo 1 ?_;refine Zn (Bp rfl) ?_;refine XO.know 196 (.int .i64 (-Zc f.stk)) rfl (congrArg (Value.int .i64) (Gb ⟨by omega,by omega⟩)) ?_
    refine Zh call66 (Le.refl _) (Nh (f:=f) (kk:=1) (z:=(-Zc f.stk)) (hf.le leA) (by omega) hcap (by omega)) ?_
    rintro _ _ ⟨a1,c1,rfl,rfl⟩
    refine oo 1 ?_;refine st ?_;refine ox 2 ?_;refine drw ?_;refine Z4 0 ?_;refine Z4 1 ?_;refine Z9 2 ?_ (hh:=hlR)
    refine Z9 3 ?_;refine XD.nil ?_
    have hD:Wc m f cells=((f.pc+1,f.loc,f.stk.take (f.stk.length - 1)++ [(-Zc f.stk)]),Vo):=by unfold Wc doS;rw [if_neg (by omega),if_pos (by omega)];simp only [show N7 (Zs m f).c from by omega,if_true];rw [hx];unfold mkS;rw [if_pos rfl,if_pos ht];rfl
    refine Zq (lsH I64 2 a1 c1 (f.stk.take (f.stk.length - 1)++ [(-Zc f.stk)])::q) func46 (Ut results46) ⟨_,rfl,f.la,f.lc,a1,c1,_,by rw [hD];rfl,by rw [hD];exact ⟨.inl ⟨rfl,rfl⟩,.inr (Sees.lsH [])⟩,rfl⟩
 · have hdx:(1:Int)≤f.stk.length:=by have h:=hdep;rw [hx] at h;exact h
   have hvl:val (Zc f.stk):=Wz hS.vl _;have hva:val (Yx f.stk):=Wz hS.vl _;unfold val at hvl hva
   refine X.kt 42 ?_;refine xo 3 ?_;refine ld ?_;refine oo 2 ?_;refine Yz hf.s (by simp;omega) (fun bs os es=> ?_)
   have hss:=hf.s;rw [es] at hss
   refine XO.know 44 (.slice (some ⟨bs,os,none⟩) f.stk.length f.sc) rfl (by rw [es]) ?_
   refine oo 1 ?_;refine ld ?_ (hc:=(Cl.e1 (n:=f.stk.length - 1) hss leA (by omega) (by omega)))
   refine XO.know 48 (.int .i64 (Zc f.stk)) rfl (congrArg (Value.int .i64) (Z1 (by omega)).symm) ?_
   refine ox 8 ?_;refine X.part 50 rfl (fun hn2=> ?_) (fun hn2=> ?_)
   focus
    replace hn2:=sp hn2
    refine xo 3 ?_;refine ld ?_;refine oo 2 ?_;refine XO.know 52 (.slice (some ⟨bs,os,none⟩) f.stk.length f.sc) rfl (by rw [es]) ?_
    refine oo 1 ?_;refine ld ?_ (hc:=(Cl.e1 (n:=f.stk.length - 2) hss leA (by omega) (by omega)))
    refine XO.know 56 (.int .i64 (Yx f.stk)) rfl (congrArg (Value.int .i64) (Z1 (by omega)).symm) ?_
    refine ox 10 ?_
   rotate_left
   focus
    replace hn2:=sp hn2
    refine xx 10 ?_
   all_goals
    refine Zj 57 ?_;refine xx 7 ?_;refine Zj 67 ?_;refine xx 7 ?_;refine Zj 88 ?_;refine xx 7 ?_;refine Zj 102 ?_;refine xx 7 ?_;refine Zj 131 ?_;refine xx 7 ?_;refine Zj 143 ?_;refine xx 7 ?_;refine Zj 161 ?_;refine xx 7 ?_;refine Zj 183 ?_;refine xx 7 ?_;refine X.kt 201 ?_;refine xx 2 ?_;refine drw ?_;refine Z4 0 ?_;refine dd [1,2] ?_;refine Z7 3 call70 (Br) ?_ (hL:=hlR)
    refine XD.know 207 (.int .i64 (W5 (decide (Zc f.stk=0)))) rfl (congrArg (fun b=>Value.int .i64 (W5 b)) (by rw [Bool.eq_iff_iff];simp)) ?_
    refine Yf 4 call66 (Le.refl _) (Nh (f:=f) (kk:=1) (z:=(W5 (decide (Zc f.stk=0)))) (hf.le leA) (by omega) hcap (by omega)) ?_
    rintro _ _ ⟨a1,c1,rfl,rfl⟩
    refine ⟨trivial,?_⟩
    refine dd [5] ?_;refine stD 6 ?_;refine XD.nil ?_;refine xx 1 ?_;refine drw ?_;refine Z4 0 ?_;refine Z4 1 ?_;refine Z9 2 ?_ (hh:=hlR)
    refine Z9 3 ?_;refine XD.nil ?_
    have hD:Wc m f cells=((f.pc+1,f.loc,f.stk.take (f.stk.length - 1)++ [(W5 (decide (Zc f.stk=0)))]),Vo):=by unfold Wc doS;rw [if_neg (by omega),if_pos (by omega)];simp only [show N7 (Zs m f).c from by omega,if_true];rw [hx];rfl
    refine Zq (lsH I64 2 a1 c1 (f.stk.take (f.stk.length - 1)++ [(W5 (decide (Zc f.stk=0)))])::q) func46 (Ut results46) ⟨_,rfl,f.la,f.lc,a1,c1,_,by rw [hD];rfl,by rw [hD];exact ⟨.inl ⟨rfl,rfl⟩,.inr (Sees.lsH [])⟩,rfl⟩
 · have hdx:(2:Int)≤f.stk.length:=by have h:=hdep;unfold Yh at h;rw [if_neg (by omega),if_neg (by omega),if_pos (by omega)] at h;exact h
   have hvl:val (Zc f.stk):=Wz hS.vl _;have hva:val (Yx f.stk):=Wz hS.vl _;unfold val at hvl hva
   refine X.kt 42 ?_;refine xo 3 ?_;refine ld ?_;refine oo 2 ?_;refine Yz hf.s (by simp;omega) (fun bs os es=> ?_)
   have hss:=hf.s;rw [es] at hss
   refine XO.know 44 (.slice (some ⟨bs,os,none⟩) f.stk.length f.sc) rfl (by rw [es]) ?_
   refine oo 1 ?_;refine ld ?_ (hc:=(Cl.e1 (n:=f.stk.length - 1) hss leA (by omega) (by omega)))
   refine XO.know 48 (.int .i64 (Zc f.stk)) rfl (congrArg (Value.int .i64) (Z1 (by omega)).symm) ?_
   refine ox 8 ?_;refine X.kt 50 ?_;refine xo 3 ?_;refine ld ?_;refine oo 2 ?_;refine XO.know 52 (.slice (some ⟨bs,os,none⟩) f.stk.length f.sc) rfl (by rw [es]) ?_
   refine oo 1 ?_;refine ld ?_ (hc:=(Cl.e1 (n:=f.stk.length - 2) hss leA (by omega) (by omega)))
   refine XO.know 56 (.int .i64 (Yx f.stk)) rfl (congrArg (Value.int .i64) (Z1 (by omega)).symm) ?_
   refine ox 10 ?_;refine Zj 57 ?_;refine xx 7 ?_;refine Zj 67 ?_;refine xx 7 ?_;refine Zj 88 ?_;refine xx 7 ?_;refine Zj 102 ?_;refine xx 7 ?_;refine Zj 131 ?_;refine xx 7 ?_;refine Zj 143 ?_;refine xx 7 ?_;refine Zj 161 ?_;refine xx 7 ?_;refine Zj 183 ?_;refine xx 7 ?_;refine Zj 201 ?_;refine xo 6 ?_;refine XO.kt 215 ?_;refine ox 5 ?_;refine X.kt 212 ?_;refine xo 6 ?_;refine XO.cR call71 (RTwo_ok (code:=(Zs m f).c) (u:=Yx f.stk) (z:=Zc f.stk) hx (Wz hS.vl _) (Wz hS.vl _)) ?_
   refine ox 12 ?_;refine X.part 227 rfl (fun ht=> ?_) (fun ht=> ?_)
   · replace ht:=sp ht
     refine xo 3 ?_;refine ldA ?_;refine oo 1 ?_;refine XO.cR call68 (Tb (f:=f)) ?_
     refine oo 2 ?_;refine stA ?_;refine stA ?_;refine ox 1 ?_
     have hD:Wc m f cells=((f.pc,f.loc,f.stk),N9 (Yg ((Zs m f).c - 7) (Yx f.stk) (Zc f.stk)).2):=by unfold Wc doS;rw [if_neg (by omega),if_pos (by omega)];simp only [show ¬N7 (Zs m f).c from by omega,if_false];rw [La hx];exact if_pos ht
     refine Zq (stars []::q) func46 (Ut results46) ⟨_,rfl,f.la,f.lc,f.sa,f.sc,_,by rw [hD];rfl,by rw [hD];exact ⟨.inl ⟨rfl,rfl⟩,.inl ⟨rfl,rfl⟩⟩,rfl⟩ (Le.trans leA (Vb _))
   replace ht:=sp ht
   refine xo 4 ?_;refine ldA ?_;refine oo 1 ?_;refine Zh call66 (Le.refl _) (Nh (f:=f) (kk:=2) (z:=(Yg ((Zs m f).c - 7) (Yx f.stk) (Zc f.stk)).1) (hf.le leA) (by omega) hcap (by omega)) ?_
   rintro _ _ ⟨a1,c1,rfl,rfl⟩
   refine oo 1 ?_;refine st ?_;refine ox 2 ?_;refine drw ?_;refine Z4 0 ?_;refine Z4 1 ?_;refine Z9 2 ?_ (hh:=hlR)
   refine Z9 3 ?_;refine XD.nil ?_
   have hD:Wc m f cells=((f.pc+1,f.loc,f.stk.take (f.stk.length - 2)++ [(Yg ((Zs m f).c - 7) (Yx f.stk) (Zc f.stk)).1]),Vo):=by unfold Wc doS;rw [if_neg (by omega),if_pos (by omega)];simp only [show ¬N7 (Zs m f).c from by omega,if_false];rw [La hx];exact if_neg (fun k=>k ht)
   refine Zq (lsH I64 2 a1 c1 (f.stk.take (f.stk.length - 2)++ [(Yg ((Zs m f).c - 7) (Yx f.stk) (Zc f.stk)).1])::q) func46 (Ut results46) ⟨_,rfl,f.la,f.lc,a1,c1,_,by rw [hD];rfl,by rw [hD];exact ⟨.inl ⟨rfl,rfl⟩,.inr (Sees.lsH [])⟩,rfl⟩
 have hdx:(0:Int)≤f.stk.length:=by omega
 refine X.part 42 rfl (fun hn1=> ?_) (fun hn1=> ?_)
 focus
  replace hn1:=sp hn1
  refine xo 3 ?_;refine ld ?_;refine oo 2 ?_;refine Yz hf.s (by simp;omega) (fun bs os es=> ?_)
  have hss:=hf.s;rw [es] at hss
  refine XO.know 44 (.slice (some ⟨bs,os,none⟩) f.stk.length f.sc) rfl (by rw [es]) ?_
  refine oo 1 ?_;refine ld ?_ (hc:=(Cl.e1 (n:=f.stk.length - 1) hss leA (by omega) (by omega)))
  refine XO.know 48 (.int .i64 (Zc f.stk)) rfl (congrArg (Value.int .i64) (Z1 (by omega)).symm) ?_
  refine ox 8 ?_;refine X.part 50 rfl (fun hn2=> ?_) (fun hn2=> ?_)
  focus
   replace hn2:=sp hn2
   refine xo 3 ?_;refine ld ?_;refine oo 2 ?_;refine XO.know 52 (.slice (some ⟨bs,os,none⟩) f.stk.length f.sc) rfl (by rw [es]) ?_
   refine oo 1 ?_;refine ld ?_ (hc:=(Cl.e1 (n:=f.stk.length - 2) hss leA (by omega) (by omega)))
   refine XO.know 56 (.int .i64 (Yx f.stk)) rfl (congrArg (Value.int .i64) (Z1 (by omega)).symm) ?_
   refine ox 10 ?_
  rotate_left
  focus
   replace hn2:=sp hn2
   refine xx 10 ?_
 rotate_left 2
 focus
  replace hn1:=sp hn1
  have hnil:f.stk= []:=List.eq_nil_of_length_eq_zero (by omega)
  refine X.know 13 (.int .i64 (Zc f.stk)) rfl (by rw [hnil];rfl) ?_
  refine xx 8 ?_;refine Zj 50 ?_;refine xx 10 ?_
 all_goals
  refine Zj 57 ?_;refine xx 7 ?_;refine Zj 67 ?_;refine xx 7 ?_;refine Zj 88 ?_;refine xx 7 ?_;refine Zj 102 ?_;refine xx 7 ?_;refine Zj 131 ?_;refine xx 7 ?_;refine Zj 143 ?_;refine xx 7 ?_;refine Zj 161 ?_;refine xx 7 ?_;refine Zj 183 ?_;refine xx 7 ?_;refine Zj 201 ?_;refine xo 6 ?_;refine XO.kt 215 ?_;refine ox 5 ?_;refine Zj 212 ?_;refine xo 5 ?_;refine ldA ?_;refine ldA ?_;refine ldA ?_;refine ldA ?_;refine oo 1 ?_;refine Zh call72 (Le.refl _) (flow_ok (m:=m) (f:=f) (x:=(Zs m f)) (cells:=cells) (hf.le leA) hS hcap hx) ?_
  rintro _ _ ⟨la2,lc2,sa2,sc2,W2,rfl,hW,rfl⟩
  refine oo 2 ?_;refine stA ?_;refine stA ?_;refine ox 1 ?_;refine Zq (W2::q) func46 (Ut results46) ⟨_,rfl,la2,lc2,sa2,sc2,W2,rfl,hW,rfl⟩
end
section
variable {G:World}{q pre:List HP}{a b A:Option Addr}{c d C p p0 p1 p2 i:Nat}{lo hi n cd dep:Int}{fv:Value}{x y:Ins}{t:Cod}{m:Mdl}{at_:Int}
variable {l cells loc:List Int}{idx arr z k u pc code:Int}{x1 x2 x3 x4 x5 x6 old:Value}{pm cc lc n1 n2:Nat}{la cda:Option Addr}
variable {f f2:Frm}{last:Int}{kk:Nat}
set_option maxHeartbeats 16000000 in
theorem does_ok (gc:GC q)(g:GE q)(hq:MdlQ q m)(hf:FrmQ q f)(hc:Sees q cda (cells.map I64))(hcap:f.stk.length≤f.sc)(hb:f.loc.length≤40∧f.stk.length≤40∧cells.length≤100000):CallF prog G 21 [.agg (Wp m).toArray,.agg (U2 f).toArray,.slice cda cells.length cc] (q) (Ret fun v q'=>v= .bool true∧q'=q):=by
 refine CallF.of func21 ntmps21 rfl (fun F cs=> ?_)
 have hlen:=Zm (f:=Wk) (sz:=4) (fun _=>rfl) m.threads;have hnt:=hq.nt
 have hsplit: ¬M0 m f 0∨(M0 m f 0∧ ¬ (cells.length:Int)=Jn m)∨(M0 m f 0∧(cells.length:Int)=Jn m∧ ¬Jo cells)∨(M0 m f 0∧(cells.length:Int)=Jn m∧Jo cells):=by by_cases a:M0 m f 0<;>by_cases b:(cells.length:Int)=Jn m<;>by_cases c:Jo cells<;>simp [a,b,c]
 rcases hsplit with hm|⟨hm,hk1⟩|⟨hm,hk1,hk2⟩|⟨hm,hk1,hk2⟩
 focus
  refine xo 2 ?_;refine Zb fun n1=> ?_
  refine Zb fun n2=> ?_
  refine oo 4 ?_;refine ldA ?_;refine ldA ?_;refine oo 1 ?_;refine Zh call25 (Le.refl _) (Rq (gc.le leA) (g.le leA) (hq.le leA) (hf.le leA) (hc.le leA) (by omega)) ?_
  rintro _ _ (⟨hok,la,lc,sa,sc,rfl,rfl⟩|⟨hno,rfl,rfl⟩)
  · exact absurd hok.1 hm
  refine oo 4 ?_;refine Zy zeroValue67 fun n3=> ?_
  refine Zy zeroValue51 fun n4=> ?_
  refine stA ?_;refine stA ?_;refine oo 4 ?_;refine ldA ?_;refine ldA ?_;refine Zh call38 (Le.refl _) (Tw (gc.le leA) (g.le leA) (hq.le leA) (hf.le leA)) ?_;rintro _ _ (⟨hy,rfl,rfl⟩|⟨hy,rfl,rfl⟩)
  · exact absurd hy hm
  refine oo 3 ?_;refine Zy zeroValue48 fun n5=> ?_
  refine stA ?_;refine oo 4 ?_;refine ldA ?_;refine ldA ?_;refine Zh call24 (Le.refl _) (Bn (less:=0) (hq.le leA) (hf.le leA) (by omega) (by omega)) ?_
  rintro _ _ ⟨⟨b1,rfl,hb1⟩,rfl⟩
  obtain rfl:b1=false:=by cases b1;rfl;exact absurd (hb1.1 rfl) hm
  refine ox 4 ?_;refine drw ?_;refine Z4 0 ?_;refine Z4 1 ?_;refine dd [3] ?_;refine Yf 2 call27 (Le.refl _) (Rj (gc.le leA) (g.le leA) (hq.le leA) (hf.le leA)) ?_;rintro _ _ ⟨⟨b2,rfl,hb2⟩,rfl⟩
  refine ⟨trivial,?_⟩
  obtain rfl:b2=false:=by cases b2;rfl;exact absurd (hb2.1 rfl) hm
  refine dd [4,5] ?_;refine XD.know 37 (.bool false) rfl (congrArg Value.bool (by first|rfl|(simp;done)|(simp [hk1];done)|(simp [hk2];done)|(rw [bne_iff_ne];exact hk1)|(rw [bne_eq_false_iff_eq];exact hk1))) ?_
  refine dd [6,7,8,9,10,11] ?_;refine XD.know 43 (.bool false) rfl (congrArg Value.bool (by first|rfl|(simp;done)|(simp [hk1];done)|(simp [hk2];done)|(rw [bne_iff_ne];exact hk1)|(rw [bne_eq_false_iff_eq];exact hk1))) ?_
  refine dd [12,13] ?_;refine XD.know 45 (.bool false) rfl (congrArg Value.bool (by first|rfl|(simp;done)|(simp [hk1];done)|(simp [hk2];done)|(rw [bne_iff_ne];exact hk1)|(rw [bne_eq_false_iff_eq];exact hk1))) ?_
  refine dd [14,15,16,17,18,19,20,21,22,23,24,25,26,27,28] ?_;refine XD.nil ?_;refine xo 6 ?_;refine Zn (Pu.not rfl) ?_;refine oo 1 ?_;refine XO.know 63 (.bool true) rfl (congrArg Value.bool (by first|rfl|(simp;done)|(simp [hk1];done)|(simp [hk2];done)|(rw [bne_iff_ne];exact hk1)|(rw [bne_eq_false_iff_eq];exact hk1))) ?_
  refine oo 15 ?_;refine ldA ?_;refine oo 1 ?_;refine XO.cR call45 (Bm (f:=Gy) (f2:=Gy) ⟨Sees.nil _ _,Sees.nil _ _,Nat.zero_le _,Nat.zero_le _⟩ ⟨Sees.nil _ _,Sees.nil _ _,Nat.zero_le _,Nat.zero_le _⟩) ?_
  refine XO.know 77 (.bool true) rfl (congrArg Value.bool (decide_eq_true ⟨rfl,rfl,rfl,rfl⟩)) ?_
  refine oo 1 ?_;refine XO.know 78 (.bool true) rfl (congrArg Value.bool (by first|rfl|(simp;done)|(simp [hk1];done)|(simp [hk2];done)|(rw [bne_iff_ne];exact hk1)|(rw [bne_eq_false_iff_eq];exact hk1))) ?_
  refine ldA ?_;refine oo 1 ?_;refine Zn (Bu rfl rfl (by kernel_rfl) (Kj underlying51 (by kernel_rfl) (by kernel_rfl) ⟨_,_,_,_,(PartV.one rfl isAgg43),(PartV.one rfl isAgg43),(EqV.int underlying43 _ _),⟨_,_,_,_,(PartV.sub isAgg45 sizeOf45),(PartV.sub isAgg45 sizeOf45),(EqV.struct underlying45 (by kernel_rfl) (by kernel_rfl) ⟨_,_,_,_,rfl,rfl,isAgg3,(EqV.int underlying3 _ _),⟨_,_,_,_,rfl,rfl,isAgg4,(EqV.bool underlying4 _ _),⟨_,_,_,_,rfl,rfl,isAgg2,(EqV.int underlying2 _ _),rfl,rfl⟩,rfl⟩,rfl⟩),⟨_,_,_,_,(PartV.sub isAgg48 sizeOf48),(PartV.sub isAgg48 sizeOf48),(EqV.struct underlying48 (by kernel_rfl) (by kernel_rfl) ⟨_,_,_,_,rfl,rfl,isAgg46,(EqV.int underlying46 _ _),⟨_,_,_,_,rfl,rfl,isAgg3,(EqV.int underlying3 _ _),⟨_,_,_,_,rfl,rfl,isAgg3,(EqV.int underlying3 _ _),⟨_,_,_,_,rfl,rfl,isAgg2,(EqV.int underlying2 _ _),rfl,rfl⟩,rfl⟩,rfl⟩,rfl⟩),⟨_,_,_,_,(PartV.one rfl isAgg2),(PartV.one rfl isAgg2),(EqV.int underlying2 _ _),⟨_,_,_,_,(PartV.one rfl isAgg49),(PartV.one rfl isAgg49),(EqV.int underlying49 _ _),rfl,rfl⟩,rfl⟩,rfl⟩,rfl⟩,rfl⟩)) ?_
  refine oo 2 ?_;refine XO.know 83 (.bool true) rfl (congrArg Value.bool (by first|rfl|(simp;done)|(simp [hk1];done)|(simp [hk2];done)|(rw [bne_iff_ne];exact hk1)|(rw [bne_eq_false_iff_eq];exact hk1))) ?_
 rotate_left
 focus
  obtain ⟨hm1,hm2,hth,hm3,hm4,hm5⟩:=id hm
  have hpc:f.pc.toNat<m.threads[f.code.toNat].ins.length:=by omega
  have hql:=hq.x _ (List.getElem_mem hth);have hni:=hql.ni;have hsi:=hql.i;have hlen2:=Zm (f:=Zr) (sz:=4) (fun _=>rfl) m.threads[f.code.toNat].ins
  refine xo 2 ?_;refine Zb fun n6=> ?_
  refine Zb fun n7=> ?_
  refine oo 4 ?_;refine ldA ?_;refine ldA ?_;refine oo 1 ?_;refine Zh call25 (Le.refl _) (Rq (gc.le leA) (g.le leA) (hq.le leA) (hf.le leA) (hc.le leA) (by omega)) ?_
  rintro _ _ (⟨hok,la,lc,sa,sc,rfl,rfl⟩|⟨hno,rfl,rfl⟩)
  · exact absurd hok.2.1 hk1
  refine oo 4 ?_;refine Zy zeroValue67 fun n8=> ?_
  refine Zy zeroValue51 fun n9=> ?_
  refine stA ?_;refine stA ?_;refine oo 4 ?_;refine ldA ?_;refine ldA ?_;refine Zh call38 (Le.refl _) (Tw (gc.le leA) (g.le leA) (hq.le leA) (hf.le leA)) ?_;rintro _ _ (⟨hy,rfl,rfl⟩|⟨hy,rfl,rfl⟩)
  rotate_left; · exact absurd hm hy
  refine oo 3 ?_;refine Zy zeroValue48 fun n10=> ?_
  refine stA ?_;refine oo 4 ?_;refine ldA ?_;refine ldA ?_;refine Zh call24 (Le.refl _) (Bn (less:=0) (hq.le leA) (hf.le leA) (by omega) (by omega)) ?_
  rintro _ _ ⟨⟨b1,rfl,hb1⟩,rfl⟩
  obtain rfl:b1=true:=hb1.2 hm
  refine ox 4 ?_;refine drw ?_;refine Z4 0 ?_;refine Z4 1 ?_;refine dd [3] ?_;refine Yf 2 call27 (Le.refl _) (Rj (gc.le leA) (g.le leA) (hq.le leA) (hf.le leA)) ?_;rintro _ _ ⟨⟨b2,rfl,hb2⟩,rfl⟩
  refine ⟨trivial,?_⟩
  obtain rfl:b2=true:=hb2.2 hm
  refine dd [4,5] ?_;refine XD.know 37 (.bool false) rfl (congrArg Value.bool (by first|rfl|(simp;done)|(simp [hk1];done)|(simp [hk2];done)|(rw [bne_iff_ne];exact hk1)|(rw [bne_eq_false_iff_eq];exact hk1))) ?_
  refine dd [6,7,8,9,10,11] ?_;refine XD.know 43 (.bool false) rfl (congrArg Value.bool (by first|rfl|(simp;done)|(simp [hk1];done)|(simp [hk2];done)|(rw [bne_iff_ne];exact hk1)|(rw [bne_eq_false_iff_eq];exact hk1))) ?_
  refine dd [12,13] ?_;refine XD.know 45 (.bool true) rfl (congrArg Value.bool (by first|rfl|(simp;done)|(simp [hk1];done)|(simp [hk2];done)|(rw [bne_iff_ne];exact hk1)|(rw [bne_eq_false_iff_eq];exact hk1))) ?_
  refine Z4 14 ?_;refine dd [15] ?_;refine ldD 16 ?_;refine dd [17] ?_;refine ldD 18 ?_;refine Yp hq.t (by rw [hlen];omega) (fun b1 o1 e1=> ?_)
  have hs1:=hq.t;rw [e1] at hs1
  refine XD.know 48 (.slice (some ⟨b1,o1,none⟩) m.threads.length m.tc) rfl (by rw [e1]) ?_
  refine dd [19,20] ?_;refine ldD 21 ?_ (hc:=(Yi (j:=f.code) hs1 leA (fun _=>rfl) hth (by omega) 2 _ rfl))
  refine dd [22] ?_;refine ldD 23 ?_;refine Yp hsi (by rw [hlen2];omega) (fun b2 o2 e2=> ?_)
  have hs2:=hsi;rw [e2] at hs2
  refine XD.know 53 (.slice (some ⟨b2,o2,none⟩) m.threads[f.code.toNat].ins.length m.threads[f.code.toNat].ic) rfl (by rw [e2]) ?_
  refine dd [24] ?_;refine Vp 25 (m:=f.pc.toNat) isAgg48 sizeOf48 hs2 hpc ?_
  refine XD.know 46 (.agg (Zr m.threads[f.code.toNat].ins[f.pc.toNat]).toArray) rfl (by rw [Z1 hpc];rfl) ?_
  refine Wm 26 rfl (F2 rfl rfl (by kernel_rfl) (EqV.struct underlying48 (by kernel_rfl) (by kernel_rfl) ⟨_,_,_,_,rfl,rfl,isAgg46,(EqV.int underlying46 _ _),⟨_,_,_,_,rfl,rfl,isAgg3,(EqV.int underlying3 _ _),⟨_,_,_,_,rfl,rfl,isAgg3,(EqV.int underlying3 _ _),⟨_,_,_,_,rfl,rfl,isAgg2,(EqV.int underlying2 _ _),rfl,rfl⟩,rfl⟩,rfl⟩,rfl⟩)) ?_
  refine dd [27,28] ?_;refine XD.nil ?_;refine Zj 60 ?_;refine xo 6 ?_;refine Zn (Pu.not rfl) ?_;refine oo 1 ?_;refine XO.know 63 (.bool false) rfl (congrArg Value.bool (by first|rfl|(simp;done)|(simp [hk1];done)|(simp [hk2];done)|(rw [bne_iff_ne];exact hk1)|(rw [bne_eq_false_iff_eq];exact hk1))) ?_
  refine oo 2 ?_;refine ldA ?_;refine XO.cR call19 (Ma (hq.le leA) hm1) ?_;refine oo 3 ?_;refine XO.know 70 (.bool true) rfl (congrArg Value.bool (by first|rfl|(simp;done)|(simp [hk1];done)|(simp [hk2];done)|(rw [bne_iff_ne];exact hk1)|(rw [bne_eq_false_iff_eq];exact hk1))) ?_
  refine oo 8 ?_;refine ldA ?_;refine oo 1 ?_;refine XO.cR call45 (Bm (f:=Gy) (f2:=Gy) ⟨Sees.nil _ _,Sees.nil _ _,Nat.zero_le _,Nat.zero_le _⟩ ⟨Sees.nil _ _,Sees.nil _ _,Nat.zero_le _,Nat.zero_le _⟩) ?_
  refine XO.know 77 (.bool true) rfl (congrArg Value.bool (decide_eq_true ⟨rfl,rfl,rfl,rfl⟩)) ?_
  refine oo 1 ?_;refine XO.know 78 (.bool true) rfl (congrArg Value.bool (by first|rfl|(simp;done)|(simp [hk1];done)|(simp [hk2];done)|(rw [bne_iff_ne];exact hk1)|(rw [bne_eq_false_iff_eq];exact hk1))) ?_
  refine ldA ?_;refine oo 1 ?_;refine Zn (Bu rfl rfl (by kernel_rfl) (Kj underlying51 (by kernel_rfl) (by kernel_rfl) ⟨_,_,_,_,(PartV.one rfl isAgg43),(PartV.one rfl isAgg43),(EqV.int underlying43 _ _),⟨_,_,_,_,(PartV.sub isAgg45 sizeOf45),(PartV.sub isAgg45 sizeOf45),(EqV.struct underlying45 (by kernel_rfl) (by kernel_rfl) ⟨_,_,_,_,rfl,rfl,isAgg3,(EqV.int underlying3 _ _),⟨_,_,_,_,rfl,rfl,isAgg4,(EqV.bool underlying4 _ _),⟨_,_,_,_,rfl,rfl,isAgg2,(EqV.int underlying2 _ _),rfl,rfl⟩,rfl⟩,rfl⟩),⟨_,_,_,_,(PartV.sub isAgg48 sizeOf48),(PartV.sub isAgg48 sizeOf48),(EqV.struct underlying48 (by kernel_rfl) (by kernel_rfl) ⟨_,_,_,_,rfl,rfl,isAgg46,(EqV.int underlying46 _ _),⟨_,_,_,_,rfl,rfl,isAgg3,(EqV.int underlying3 _ _),⟨_,_,_,_,rfl,rfl,isAgg3,(EqV.int underlying3 _ _),⟨_,_,_,_,rfl,rfl,isAgg2,(EqV.int underlying2 _ _),rfl,rfl⟩,rfl⟩,rfl⟩,rfl⟩),⟨_,_,_,_,(PartV.one rfl isAgg2),(PartV.one rfl isAgg2),(EqV.int underlying2 _ _),⟨_,_,_,_,(PartV.one rfl isAgg49),(PartV.one rfl isAgg49),(EqV.int underlying49 _ _),rfl,rfl⟩,rfl⟩,rfl⟩,rfl⟩,rfl⟩)) ?_
  refine oo 2 ?_;refine XO.know 83 (.bool true) rfl (congrArg Value.bool (by first|rfl|(simp;done)|(simp [hk1];done)|(simp [hk2];done)|(rw [bne_iff_ne];exact hk1)|(rw [bne_eq_false_iff_eq];exact hk1))) ?_
 rotate_left
 focus
  obtain ⟨hm1,hm2,hth,hm3,hm4,hm5⟩:=id hm
  have hpc:f.pc.toNat<m.threads[f.code.toNat].ins.length:=by omega
  have hql:=hq.x _ (List.getElem_mem hth);have hni:=hql.ni;have hsi:=hql.i;have hlen2:=Zm (f:=Zr) (sz:=4) (fun _=>rfl) m.threads[f.code.toNat].ins
  refine xo 2 ?_;refine Zb fun n11=> ?_
  refine Zb fun n12=> ?_
  refine oo 4 ?_;refine ldA ?_;refine ldA ?_;refine oo 1 ?_;refine Zh call25 (Le.refl _) (Rq (gc.le leA) (g.le leA) (hq.le leA) (hf.le leA) (hc.le leA) (by omega)) ?_
  rintro _ _ (⟨hok,la,lc,sa,sc,rfl,rfl⟩|⟨hno,rfl,rfl⟩)
  · exact absurd hok.2.2 hk2
  refine oo 4 ?_;refine Zy zeroValue67 fun n13=> ?_
  refine Zy zeroValue51 fun n14=> ?_
  refine stA ?_;refine stA ?_;refine oo 4 ?_;refine ldA ?_;refine ldA ?_;refine Zh call38 (Le.refl _) (Tw (gc.le leA) (g.le leA) (hq.le leA) (hf.le leA)) ?_;rintro _ _ (⟨hy,rfl,rfl⟩|⟨hy,rfl,rfl⟩)
  rotate_left; · exact absurd hm hy
  refine oo 3 ?_;refine Zy zeroValue48 fun n15=> ?_
  refine stA ?_;refine oo 4 ?_;refine ldA ?_;refine ldA ?_;refine Zh call24 (Le.refl _) (Bn (less:=0) (hq.le leA) (hf.le leA) (by omega) (by omega)) ?_
  rintro _ _ ⟨⟨b1,rfl,hb1⟩,rfl⟩
  obtain rfl:b1=true:=hb1.2 hm
  refine ox 4 ?_;refine drw ?_;refine Z4 0 ?_;refine Z4 1 ?_;refine dd [3] ?_;refine Yf 2 call27 (Le.refl _) (Rj (gc.le leA) (g.le leA) (hq.le leA) (hf.le leA)) ?_;rintro _ _ ⟨⟨b2,rfl,hb2⟩,rfl⟩
  refine ⟨trivial,?_⟩
  obtain rfl:b2=true:=hb2.2 hm
  refine dd [4,5] ?_;refine XD.know 37 (.bool false) rfl (congrArg Value.bool (by first|rfl|(simp;done)|(simp [hk1];done)|(simp [hk2];done)|(rw [bne_iff_ne];exact hk1)|(rw [bne_eq_false_iff_eq];exact hk1))) ?_
  refine dd [6,7,8,9,10,11] ?_;refine XD.know 43 (.bool false) rfl (congrArg Value.bool (by first|rfl|(simp;done)|(simp [hk1];done)|(simp [hk2];done)|(rw [bne_iff_ne];exact hk1)|(rw [bne_eq_false_iff_eq];exact hk1))) ?_
  refine dd [12,13] ?_;refine XD.know 45 (.bool true) rfl (congrArg Value.bool (by first|rfl|(simp;done)|(simp [hk1];done)|(simp [hk2];done)|(rw [bne_iff_ne];exact hk1)|(rw [bne_eq_false_iff_eq];exact hk1))) ?_
  refine Z4 14 ?_;refine dd [15] ?_;refine ldD 16 ?_;refine dd [17] ?_;refine ldD 18 ?_;refine Yp hq.t (by rw [hlen];omega) (fun b1 o1 e1=> ?_)
  have hs1:=hq.t;rw [e1] at hs1
  refine XD.know 48 (.slice (some ⟨b1,o1,none⟩) m.threads.length m.tc) rfl (by rw [e1]) ?_
  refine dd [19,20] ?_;refine ldD 21 ?_ (hc:=(Yi (j:=f.code) hs1 leA (fun _=>rfl) hth (by omega) 2 _ rfl))
  refine dd [22] ?_;refine ldD 23 ?_;refine Yp hsi (by rw [hlen2];omega) (fun b2 o2 e2=> ?_)
  have hs2:=hsi;rw [e2] at hs2
  refine XD.know 53 (.slice (some ⟨b2,o2,none⟩) m.threads[f.code.toNat].ins.length m.threads[f.code.toNat].ic) rfl (by rw [e2]) ?_
  refine dd [24] ?_;refine Vp 25 (m:=f.pc.toNat) isAgg48 sizeOf48 hs2 hpc ?_
  refine XD.know 46 (.agg (Zr m.threads[f.code.toNat].ins[f.pc.toNat]).toArray) rfl (by rw [Z1 hpc];rfl) ?_
  refine Wm 26 rfl (F2 rfl rfl (by kernel_rfl) (EqV.struct underlying48 (by kernel_rfl) (by kernel_rfl) ⟨_,_,_,_,rfl,rfl,isAgg46,(EqV.int underlying46 _ _),⟨_,_,_,_,rfl,rfl,isAgg3,(EqV.int underlying3 _ _),⟨_,_,_,_,rfl,rfl,isAgg3,(EqV.int underlying3 _ _),⟨_,_,_,_,rfl,rfl,isAgg2,(EqV.int underlying2 _ _),rfl,rfl⟩,rfl⟩,rfl⟩,rfl⟩)) ?_
  refine dd [27,28] ?_;refine XD.nil ?_;refine Zj 60 ?_;refine xo 6 ?_;refine Zn (Pu.not rfl) ?_;refine oo 1 ?_;refine XO.know 63 (.bool false) rfl (congrArg Value.bool (by first|rfl|(simp;done)|(simp [hk1];done)|(simp [hk2];done)|(rw [bne_iff_ne];exact hk1)|(rw [bne_eq_false_iff_eq];exact hk1))) ?_
  refine oo 2 ?_;refine ldA ?_;refine XO.cR call19 (Ma (hq.le leA) hm1) ?_;refine oo 3 ?_;refine XO.know 70 (.bool false) rfl (congrArg Value.bool (by first|rfl|(simp;done)|(simp [hk1];done)|(simp [hk2];done)|(rw [bne_iff_ne];exact hk1)|(rw [bne_eq_false_iff_eq];exact hk1))) ?_
  refine oo 1 ?_;refine XO.cR call16 (Jc (hc.le leA) (by omega)) ?_
  refine Zn (Pu.not rfl) ?_;refine ox 2 ?_;refine X.know 74 (.bool true) rfl (congrArg Value.bool (by first|rfl|(simp;done)|(simp [hk1];done)|(simp [hk2];done)|(rw [bne_iff_ne];exact hk1)|(rw [bne_eq_false_iff_eq];exact hk1))) ?_
  refine xo 3 ?_;refine ldA ?_;refine oo 1 ?_;refine XO.cR call45 (Bm (f:=Gy) (f2:=Gy) ⟨Sees.nil _ _,Sees.nil _ _,Nat.zero_le _,Nat.zero_le _⟩ ⟨Sees.nil _ _,Sees.nil _ _,Nat.zero_le _,Nat.zero_le _⟩) ?_
  refine XO.know 77 (.bool true) rfl (congrArg Value.bool (decide_eq_true ⟨rfl,rfl,rfl,rfl⟩)) ?_
  refine oo 1 ?_;refine XO.know 78 (.bool true) rfl (congrArg Value.bool (by first|rfl|(simp;done)|(simp [hk1];done)|(simp [hk2];done)|(rw [bne_iff_ne];exact hk1)|(rw [bne_eq_false_iff_eq];exact hk1))) ?_
  refine ldA ?_;refine oo 1 ?_;refine Zn (Bu rfl rfl (by kernel_rfl) (Kj underlying51 (by kernel_rfl) (by kernel_rfl) ⟨_,_,_,_,(PartV.one rfl isAgg43),(PartV.one rfl isAgg43),(EqV.int underlying43 _ _),⟨_,_,_,_,(PartV.sub isAgg45 sizeOf45),(PartV.sub isAgg45 sizeOf45),(EqV.struct underlying45 (by kernel_rfl) (by kernel_rfl) ⟨_,_,_,_,rfl,rfl,isAgg3,(EqV.int underlying3 _ _),⟨_,_,_,_,rfl,rfl,isAgg4,(EqV.bool underlying4 _ _),⟨_,_,_,_,rfl,rfl,isAgg2,(EqV.int underlying2 _ _),rfl,rfl⟩,rfl⟩,rfl⟩),⟨_,_,_,_,(PartV.sub isAgg48 sizeOf48),(PartV.sub isAgg48 sizeOf48),(EqV.struct underlying48 (by kernel_rfl) (by kernel_rfl) ⟨_,_,_,_,rfl,rfl,isAgg46,(EqV.int underlying46 _ _),⟨_,_,_,_,rfl,rfl,isAgg3,(EqV.int underlying3 _ _),⟨_,_,_,_,rfl,rfl,isAgg3,(EqV.int underlying3 _ _),⟨_,_,_,_,rfl,rfl,isAgg2,(EqV.int underlying2 _ _),rfl,rfl⟩,rfl⟩,rfl⟩,rfl⟩),⟨_,_,_,_,(PartV.one rfl isAgg2),(PartV.one rfl isAgg2),(EqV.int underlying2 _ _),⟨_,_,_,_,(PartV.one rfl isAgg49),(PartV.one rfl isAgg49),(EqV.int underlying49 _ _),rfl,rfl⟩,rfl⟩,rfl⟩,rfl⟩,rfl⟩)) ?_
  refine oo 2 ?_;refine XO.know 83 (.bool true) rfl (congrArg Value.bool (by first|rfl|(simp;done)|(simp [hk1];done)|(simp [hk2];done)|(rw [bne_iff_ne];exact hk1)|(rw [bne_eq_false_iff_eq];exact hk1))) ?_
 rotate_left
 focus
  obtain ⟨hm1,hm2,hth,hm3,hm4,hm5⟩:=id hm
  have hpc:f.pc.toNat<m.threads[f.code.toNat].ins.length:=by omega
  have hql:=hq.x _ (List.getElem_mem hth);have hni:=hql.ni;have hsi:=hql.i;have hlen2:=Zm (f:=Zr) (sz:=4) (fun _=>rfl) m.threads[f.code.toNat].ins
  refine xo 2 ?_;refine Zb fun n16=> ?_
  refine Zb fun n17=> ?_
  refine oo 4 ?_;refine ldA ?_;refine ldA ?_;refine oo 1 ?_;refine Zh call25 (Le.refl _) (Rq (gc.le leA) (g.le leA) (hq.le leA) (hf.le leA) (hc.le leA) (by omega)) ?_
  rintro _ _ (⟨hok,la,lc,sa,sc,rfl,rfl⟩|⟨hno,rfl,rfl⟩)
  rotate_left; · exact absurd ⟨hm,hk1,hk2⟩ hno
  refine oo 4 ?_;refine Zy zeroValue67 fun n18=> ?_
  refine Zy zeroValue51 fun n19=> ?_
  refine stA ?_;refine stA ?_;refine oo 4 ?_;refine ldA ?_;refine ldA ?_;refine Zh call38 (Le.refl _) (Tw (gc.le leA) (g.le leA) (hq.le leA) (hf.le leA)) ?_;rintro _ _ (⟨hy,rfl,rfl⟩|⟨hy,rfl,rfl⟩)
  rotate_left; · exact absurd hm hy
  refine oo 3 ?_;refine Zy zeroValue48 fun n20=> ?_
  refine stA ?_;refine oo 4 ?_;refine ldA ?_;refine ldA ?_;refine Zh call24 (Le.refl _) (Bn (less:=0) (hq.le leA) (hf.le leA) (by omega) (by omega)) ?_
  rintro _ _ ⟨⟨b1,rfl,hb1⟩,rfl⟩
  obtain rfl:b1=true:=hb1.2 hm
  refine ox 4 ?_;refine drw ?_;refine Z4 0 ?_;refine Z4 1 ?_;refine dd [3] ?_;refine Yf 2 call27 (Le.refl _) (Rj (gc.le leA) (g.le leA) (hq.le leA) (hf.le leA)) ?_;rintro _ _ ⟨⟨b2,rfl,hb2⟩,rfl⟩
  refine ⟨trivial,?_⟩
  obtain rfl:b2=true:=hb2.2 hm
  refine dd [4,5] ?_;refine XD.know 37 (.bool false) rfl (congrArg Value.bool (by first|rfl|(simp;done)|(simp [hk1];done)|(simp [hk2];done)|(rw [bne_iff_ne];exact hk1)|(rw [bne_eq_false_iff_eq];exact hk1))) ?_
  refine dd [6,7,8,9,10,11] ?_;refine XD.know 43 (.bool false) rfl (congrArg Value.bool (by first|rfl|(simp;done)|(simp [hk1];done)|(simp [hk2];done)|(rw [bne_iff_ne];exact hk1)|(rw [bne_eq_false_iff_eq];exact hk1))) ?_
  refine dd [12,13] ?_;refine XD.know 45 (.bool true) rfl (congrArg Value.bool (by first|rfl|(simp;done)|(simp [hk1];done)|(simp [hk2];done)|(rw [bne_iff_ne];exact hk1)|(rw [bne_eq_false_iff_eq];exact hk1))) ?_
  refine Z4 14 ?_;refine dd [15] ?_;refine ldD 16 ?_;refine dd [17] ?_;refine ldD 18 ?_;refine Yp hq.t (by rw [hlen];omega) (fun b1 o1 e1=> ?_)
  have hs1:=hq.t;rw [e1] at hs1
  refine XD.know 48 (.slice (some ⟨b1,o1,none⟩) m.threads.length m.tc) rfl (by rw [e1]) ?_
  refine dd [19,20] ?_;refine ldD 21 ?_ (hc:=(Yi (j:=f.code) hs1 leA (fun _=>rfl) hth (by omega) 2 _ rfl))
  refine dd [22] ?_;refine ldD 23 ?_;refine Yp hsi (by rw [hlen2];omega) (fun b2 o2 e2=> ?_)
  have hs2:=hsi;rw [e2] at hs2
  refine XD.know 53 (.slice (some ⟨b2,o2,none⟩) m.threads[f.code.toNat].ins.length m.threads[f.code.toNat].ic) rfl (by rw [e2]) ?_
  refine dd [24] ?_;refine Vp 25 (m:=f.pc.toNat) isAgg48 sizeOf48 hs2 hpc ?_
  refine XD.know 46 (.agg (Zr m.threads[f.code.toNat].ins[f.pc.toNat]).toArray) rfl (by rw [Z1 hpc];rfl) ?_
  refine Wm 26 rfl (F2 rfl rfl (by kernel_rfl) (EqV.struct underlying48 (by kernel_rfl) (by kernel_rfl) ⟨_,_,_,_,rfl,rfl,isAgg46,(EqV.int underlying46 _ _),⟨_,_,_,_,rfl,rfl,isAgg3,(EqV.int underlying3 _ _),⟨_,_,_,_,rfl,rfl,isAgg3,(EqV.int underlying3 _ _),⟨_,_,_,_,rfl,rfl,isAgg2,(EqV.int underlying2 _ _),rfl,rfl⟩,rfl⟩,rfl⟩,rfl⟩)) ?_
  refine dd [27,28] ?_;refine XD.nil ?_;refine Zj 60 ?_;refine xo 6 ?_;refine Zn (Pu.not rfl) ?_;refine oo 1 ?_;refine XO.know 63 (.bool false) rfl (congrArg Value.bool (by first|rfl|(simp;done)|(simp [hk1];done)|(simp [hk2];done)|(rw [bne_iff_ne];exact hk1)|(rw [bne_eq_false_iff_eq];exact hk1))) ?_
  refine oo 2 ?_;refine ldA ?_;refine XO.cR call19 (Ma (hq.le leA) hm1) ?_;refine oo 3 ?_;refine XO.know 70 (.bool false) rfl (congrArg Value.bool (by first|rfl|(simp;done)|(simp [hk1];done)|(simp [hk2];done)|(rw [bne_iff_ne];exact hk1)|(rw [bne_eq_false_iff_eq];exact hk1))) ?_
  refine oo 1 ?_;refine XO.cR call16 (Jc (hc.le leA) (by omega)) ?_
  refine Zn (Pu.not rfl) ?_;refine ox 2 ?_;refine X.know 74 (.bool false) rfl (congrArg Value.bool (by first|rfl|(simp;done)|(simp [hk1];done)|(simp [hk2];done)|(rw [bne_iff_ne];exact hk1)|(rw [bne_eq_false_iff_eq];exact hk1))) ?_
  refine xo 4 ?_;refine ldA ?_;refine ldA ?_;refine oo 1 ?_;refine Zh call46 (Le.refl _) (RDo_ok (hq.le leA) (hf.le leA) (hc.le leA) hm hk1 hcap) ?_;rintro _ _ ⟨la2,lc2,sa2,sc2,W2,rfl,hW,rfl⟩
  refine oo 3 ?_;refine Zy zeroValue67 fun n21=> ?_
  refine Zy zeroValue51 fun n22=> ?_
  refine stA ?_;refine stA ?_;refine oo 3 ?_;refine Cu (fl:=I64) (l:=(Wc m f cells).1.2.1) (fun hbl=> ?_)
  refine Cu (fl:=I64) (l:=(Wc m f cells).1.2.2) (fun hbs=> ?_)
  refine ldA ?_;refine ldA ?_;refine XO.cR call45 (Bm (f:=⟨f.code,(Wc m f cells).1.1,(Wc m f cells).1.2.1,(Wc m f cells).1.2.2,la,lc,sa,sc⟩) (f2:=⟨f.code,(Wc m f cells).1.1,(Wc m f cells).1.2.1,(Wc m f cells).1.2.2,la2,lc2,sa2,sc2⟩) ⟨(Sees.lsH _).le Zw,(Sees.lsH _).le Zw,hbl,hbs⟩ ⟨(hW.locS hf.l).le (Le.pick Zw leA),(hW.stkS hf.s).le (Le.pick Zw leA),hbl,hbs⟩) ?_
  refine XO.know 96 (.bool true) rfl (congrArg Value.bool (decide_eq_true ⟨rfl,rfl,rfl,rfl⟩)) ?_
  refine oo 1 ?_;refine XO.know 97 (.bool true) rfl (congrArg Value.bool (by first|rfl|(simp;done)|(simp [hk1];done)|(simp [hk2];done)|(rw [bne_iff_ne];exact hk1)|(rw [bne_eq_false_iff_eq];exact hk1))) ?_
  refine ldA ?_;refine ldA ?_;refine Zn (Bu rfl rfl (by kernel_rfl) (Kj underlying51 (by kernel_rfl) (by kernel_rfl) ⟨_,_,_,_,(PartV.one rfl isAgg43),(PartV.one rfl isAgg43),(EqV.int underlying43 _ _),⟨_,_,_,_,(PartV.sub isAgg45 sizeOf45),(PartV.sub isAgg45 sizeOf45),(EqV.struct underlying45 (by kernel_rfl) (by kernel_rfl) ⟨_,_,_,_,rfl,rfl,isAgg3,(EqV.int underlying3 _ _),⟨_,_,_,_,rfl,rfl,isAgg4,(EqV.bool underlying4 _ _),⟨_,_,_,_,rfl,rfl,isAgg2,(EqV.int underlying2 _ _),rfl,rfl⟩,rfl⟩,rfl⟩),⟨_,_,_,_,(PartV.sub isAgg48 sizeOf48),(PartV.sub isAgg48 sizeOf48),(EqV.struct underlying48 (by kernel_rfl) (by kernel_rfl) ⟨_,_,_,_,rfl,rfl,isAgg46,(EqV.int underlying46 _ _),⟨_,_,_,_,rfl,rfl,isAgg3,(EqV.int underlying3 _ _),⟨_,_,_,_,rfl,rfl,isAgg3,(EqV.int underlying3 _ _),⟨_,_,_,_,rfl,rfl,isAgg2,(EqV.int underlying2 _ _),rfl,rfl⟩,rfl⟩,rfl⟩,rfl⟩),⟨_,_,_,_,(PartV.one rfl isAgg2),(PartV.one rfl isAgg2),(EqV.int underlying2 _ _),⟨_,_,_,_,(PartV.one rfl isAgg49),(PartV.one rfl isAgg49),(EqV.int underlying49 _ _),rfl,rfl⟩,rfl⟩,rfl⟩,rfl⟩,rfl⟩)) ?_
  refine oo 2 ?_;refine XO.know 102 (.bool true) rfl (congrArg Value.bool (by first|rfl|(simp;done)|(simp [hk1];done)|(simp [hk2];done)|(rw [bne_iff_ne];exact hk1)|(rw [bne_eq_false_iff_eq];exact hk1))) ?_
 all_goals
  refine ox 5 ?_
  try clear hm
  refine Zq (q) func21 (Zp results21 rfl) ⟨_,rfl,by first|rfl|(simp;done),rfl⟩
end
end Go.Proofs.YtgonllbkcgaliaaGreatDoor
namespace Wx
open Go Go.RowKit
abbrev Bs:=List UInt8
def bs (s:ByteArray):Bs:=s.data.toList
def ba (l:Bs):ByteArray:=⟨l.toArray⟩
def em:ByteArray:=⟨#[]⟩
theorem U8 (l:Bs):bs (ba l)=l:=rfl
theorem ba_bs (s:ByteArray):ba (bs s)=s:=by cases s;rfl
theorem J6 (s:ByteArray):(bs s).length=s.size:=rfl
theorem Ai (a b:ByteArray):(a.toList==b.toList)=(bs a==bs b):=by rw [ByteArray.toList_eq,ByteArray.toList_eq];rfl
def s8 (s:ByteArray)(n:Nat):Int:=(((bs s).getD n 0).toNat:Int)
section
variable {P:Program}{p:PE}{d:Option Tmp}{ty:TypeId}{pos:String}{af:Array Edge}{gd:Option (Nat×Bool)}{x y z:Operand}{t:TypeId}{kd kd':IntKind}{s:ByteArray}{i j:Int}
theorem Ye (hx:evp p x=some (.string s))(hy:evp p y=some (.int kd i))(ht:P.underlying t=some .string)(h0:0≤i)(h1:i.toNat<s.size):Pu P p ⟨d,.index t x y,ty,pos,af,gd⟩ (.int .u8 (s8 s i.toNat)):=fun tm w ag=>by
 have e:s[i.toNat]? =some s[i.toNat]:=getElem?_pos s i.toNat h1
 have e2:s8 s i.toNat=(s[i.toNat].toNat:Int):=by
  have h1':i.toNat<s.data.toList.length:=h1
  unfold s8 bs
  have h3:s.data.toList[i.toNat]? =some s.data.toList[i.toNat]:=List.getElem?_eq_getElem h1'
  unfold List.getD
  rw [h3];rfl
 rw [e2]
 simp [execOp,Zd ag hx,Zd ag hy,Instr.index,asIntOf,run_underlying ht,h0,e]
theorem Jx (hx:evp p x=some (.string s))(hy:evp p y=some (.int kd i))(hz:evp p z=some (.int kd' j))(ht:P.underlying t=some .string)(h0:0≤i)(h1:i≤j)(h2:j.toNat≤s.size):Pu P p ⟨d,.slice t x (some y) (some z) none,ty,pos,af,gd⟩ (.string (s.extract i.toNat j.toNat)):=fun tm w ag=>by
 have h3:0≤j∧j≤(s.size:Int):=⟨by omega,by omega⟩
 have h4:0≤i∧i≤(j.toNat:Int):=⟨h0,by omega⟩
 simp [execOp,Zd ag hx,Zd ag hy,Zd ag hz,Instr.sliceAt,Instr.slice,Instr.sliceBounds,Instr.sliceBound,asIntOf,run_underlying ht,h3,h4]
 intro h;omega
end
theorem Px (s:ByteArray)(i j:Nat):bs (s.extract i j)=((bs s).drop i).take (j - i):=by
 simp [bs,ByteArray.data_extract,Array.toList_extract,List.extract_eq_take_drop]
def Kn (q:List HP)(φ:Hp→Prop):Prop:= ∀ M h,(stars q).p M h→φ M
def lst (φ:Hp→Prop)(mono: ∀ {M M':Hp},Hle M M'→φ M→φ M'):HP:=⟨fun M _=>φ M,fun e _ p=>mono e p⟩
section
variable {P:Program}{G w:World}{f:Fc}{Q:Y9}{ops:List Oper}{k:List Item}{l:List Oper}{p:PE}{ds:List Deferred}{cs:List Frame}{q q0:List HP}{φ ψ:Hp→Prop}{mn: ∀ {M M':Hp},Hle M M'→φ M→φ M'}{A:HP}
theorem Kn.le (h:Kn q0 φ)(k:Le q q0:=by exact leA):Kn q φ:=fun M x p=>h M x (k M x p)
theorem Kn.here:Kn (lst φ mn::q) φ:=fun _ _ ⟨_,_,_,_,_,p,_⟩=>p
theorem Kn.there (h:Kn q φ):Kn (A::q) φ:=h.le (Le.drop A q)
theorem Kn.imp (h:Kn q φ)(k: ∀ M,φ M→ψ M):Kn q ψ:=fun M x p=>k M (h M x p)
theorem Kn.and (h:Kn q φ)(k:Kn q ψ):Kn q fun M=>φ M∧ψ M:=fun M x p=>⟨h M x p,k M x p⟩
theorem Kn.add (h:Kn q φ):Le q (lst φ mn::q):=fun M x p=>⟨fun _=>none,x,fun _=> .inl rfl,fun _ _ e=>by simp at e,.refl _,h M x p,p⟩
theorem Kn.sees {a:Option Addr}{vs:List Value}(h:Kn q fun M=>SeesM M a vs):Sees q a vs:=by
 rintro G w ⟨_,M,x,x1,_,_,_,_,p⟩ i u hu
 obtain ⟨b,o,cur,ty,z,e1,e2,e3⟩:=h M x p i u hu
 have e4:w.heap[b]? =some (.cells cur ty z):=x1 _ _ e2
 exact ⟨b,o,e1,by simp [World.cell?,e4,e3]⟩
theorem Kn.fact {χ:Prop}(h:Kn q φ)(k: ∀ M,φ M→χ)(s:St G w q):χ:=let ⟨_,M,x,_,_,_,_,_,p⟩:=s;k M (h M x p)
theorem knA {m: ∀ {M M':Hp},Hle M M'→φ M→φ M'}(h:Le q (lst φ m::q0):=by exact Zw):Kn q φ:=Kn.here.le h
def SlAt (M:Hp)(a:Option Addr)(c n:Nat)(vs:List Value):Prop:=n≤c∧c≤maxLen∧SeesM M a vs
theorem SlAt.mono {M M':Hp}{a:Option Addr}{c n:Nat}{vs:List Value}(e:Hle M M')(h:SlAt M a c n vs):SlAt M' a c n vs:=⟨h.1,h.2.1,h.2.2.mono e⟩
theorem slP.at {a:Option Addr}{c ty sz n:Nat}{vs:List Value}{M:Hp}(p:slP a c ty sz n vs M):SlAt M a c n vs:=by
 have hs:=Ix p
 refine ⟨?_,?_,hs⟩
 · rcases p.2 with ⟨_,rfl,h⟩|⟨g,cur,q1,q2,q3,q4,q5,q6⟩
   · rw [h];exact Nat.le_refl _
   exact q2
 rcases p.2 with ⟨_,rfl,h⟩|⟨g,cur,q1,q2,q3,q4,q5,q6⟩
 · simp [maxLen]
 exact q3
theorem SlAt.nil (M:Hp):SlAt M none 0 0 []:=⟨Nat.le_refl _,by simp [maxLen],fun i u h=>by simp at h⟩
theorem Kn.slM {a:Option Addr}{c ty sz n:Nat}{vs:List Value}:Kn (slM a c ty sz n vs::q) fun M=>SlAt M a c n vs:=fun _ _ ⟨_,_,_,_,_,p,_⟩=>slP.at p
theorem frz {a:Option Addr}{c ty sz n:Nat}{vs:List Value}(hq:Le q (slH a c ty sz n vs::q0):=by exact Zw)(h:Kn (lst (fun M=>SlAt M a c n vs) SlAt.mono::q0) φ)(s:St G w q):St G w (lst φ mn::q0):=by
 have s1:=(s.le hq).slFreeze
 have s2:=s1.le (Kn.add (mn:=SlAt.mono) Kn.slM)
 have s3:=s2.le (Le.trans (Le.swap _ _ _) (Le.drop _ _))
 exact (s3.le (Kn.add h)).le (Le.trans (Le.swap _ _ _) (Le.drop _ _))
theorem X.frz {todo:List Item}{a:Option Addr}{c ty sz n:Nat}{vs:List Value}(h:Kn (lst (fun M=>SlAt M a c n vs) SlAt.mono::q0) φ)(x:X P G f Q todo p ds cs (lst φ mn::q0))(hq:Le q (slH a c ty sz n vs::q0):=by exact Zw):X P G f Q todo p ds cs q:= .turn (fun w=>Wx.frz hq h) x
end
end Wx
namespace Wx
open Go Go.RowKit
section
variable {α:Type}{P:Program}{G:World}{fr:Fc}{Q:Y9}{k:List Item}{p:PE}{ds:List Deferred}{cs:List Frame}{q q0 r:List HP}{ops lo:List Oper}{f:α→List Value}{sz ty:Nat}{a b:Option Addr}{c c':Nat}{l m:List α}
section
variable {d:Option Tmp}{ty':TypeId}{pos:String}{af:Array Edge}{gd:Option (Nat×Bool)}{x y:Operand}{t:TypeId}{z:Value}{bytes i:Nat}
theorem Dw (off:Nat): ∀ (us:List Value) (n:Nat) (pre post:List Value),pre.length=off+n→us.length≤post.length→(us.zipIdx n).foldl (fun cs (c,i)=>cs.setIfInBounds (off+i) c) (pre++post).toArray=(pre++us++post.drop us.length).toArray:=by
 intro us
 induction us with
 |nil=>intro n pre post _ h;simp
 |cons u r ih=>
  intro n pre post hp h
  obtain ⟨x,post,rfl⟩: ∃ x l,post=x::l:=by cases post with
   |nil=>cases h
   |cons x l=>exact ⟨x,l,rfl⟩
  rw [List.zipIdx_cons,List.foldl_cons]
  have:=ih (n+1) (pre++ [u]) post (by simp;omega) (by simpa using h)
  simp only [List.append_assoc,List.singleton_append] at this
  simpa [←hp] using this
theorem Ef.litR2 {u v:α}(f:α→List Value)(ht:P.underlying t=some (.slice ty))(hi:(P.info? ty).map (fun i=>(i.zero,i.size,i.bytes))=some (some z,sz,bytes))(h0:Nat.ble (2*sz) 16777216=true)(hn:Nat.blt 0 sz=true)
 (hf: ∀ x,(f x).length=sz) (hx:evp p x=some (.agg (f u).toArray)) (hy:evp p y=some (.agg (f v).toArray)):
 Ef P G p q ⟨d,.buildSlice t 2 [(0,x),(1,y)].toArray,ty',pos,af,gd⟩ fun w q'=> ∃ g,w= .slice (some ⟨g,0,none⟩) 2 2∧q'=Wx.rsH f sz ty (some ⟨g,0,none⟩) 2 [u,v]::q:=by
 have hc: ∀ u,(Value.agg (f u).toArray).cells=(f u).toArray:=fun _=>rfl
 have hfill:Instr.fill (fun i=>some (i*sz,sz)) ((Array.range (2*sz)).map (z.cells[· % z.cells.size]!)) (([(0,x),(1,y)].map (·.1)).zip [Value.agg (f u).toArray,Value.agg (f v).toArray])=some (f u++f v).toArray:=by
  obtain ⟨A,hA,hl⟩: ∃ A:List Value,(Array.range (2*sz)).map (z.cells[· % z.cells.size]!)=A.toArray∧A.length=2*sz:=⟨((Array.range (2*sz)).map (z.cells[· % z.cells.size]!)).toList,Array.toArray_toList.symm,by rw [Array.length_toList,Array.size_map,Array.size_range]⟩
  have k1:=Dw (0*sz) (f u) 0 [] A (by simp) (by rw [hf];omega)
  have k2:=Dw (1*sz) (f v) 0 (f u) (A.drop (f u).length) (by rw [hf];omega) (by rw [List.length_drop,hf,hf];omega)
  rw [List.nil_append,List.nil_append] at k1
  have e1: ∀ (off:Nat) (us:List Value) (A:Array Value),(us.toArray.zipIdx).foldl (fun cs (c,i)=>cs.setIfInBounds (off+i) c) A=(us.zipIdx 0).foldl (fun cs (c,i)=>cs.setIfInBounds (off+i) c) A:=by intro off us A;simp
  have h2:=(e1 (0*sz) (f u) A.toArray).trans k1
  have h3:=(e1 (1*sz) (f v) (f u++A.drop (f u).length).toArray).trans k2
  rw [hA]
  simp only [List.map_cons,List.map_nil,List.zip_cons_cons,List.zip_nil_left,List.zip_nil_right,Instr.fill,hc]
  rw [if_neg (by simp [hf];omega),h2,if_neg (by simp [hf];omega),h3]
  congr 2
  rw [List.drop_eq_nil_of_le (by rw [List.length_drop,hf,hf];omega),List.append_nil]
 have:=Ef.buildSlice (P:=P) (G:=G) (p:=p) (q:=q) (d:=d) (ty:=ty') (pos:=pos) (af:=af) (gd:=gd) (ps:= [(0,x),(1,y)]) (len:=2) ht hi (us:= [.agg (f u).toArray,.agg (f v).toArray]) (by simp [evl,hx,hy]) (by simpa using h0) (by have h:=hn;simp [Nat.blt_eq] at h⊢;omega) hfill (by simp [hf];omega)
 simpa [Wx.rsH] using this
end
variable {φ:Hp→Prop}{mn: ∀ {M M':Hp},Hle M M'→φ M→φ M'}
theorem X.frzR {todo:List Item}(h:Kn (lst (fun M=>SlAt M a c l.length (l.flatMap f)) SlAt.mono::q0) φ)(x:X P G fr Q todo p ds cs (lst φ mn::q0))(hq:Le q (rsH f sz ty a c l::q0):=by exact Zw):X P G fr Q todo p ds cs q:= .frz h x hq
end
end Wx
namespace Wx
open Go Go.RowKit
end Wx
namespace Go.Proofs.YtgonllbkcgaliaaGreatDoor
open Go Go.RowKit Wx Go.Proofs.Tryz
structure Tk where
 k:Int
 t:ByteArray
 n:Int
 ln:Int
 cl:Int
def tkC (x:Tk):List Value:= [.int .i64 x.k,.string x.t,.int .i64 x.n,.int .i64 x.ln,.int .i64 x.cl]
def A5 (c:UInt8):Bool:=decide (97≤c.toNat) && decide (c.toNat≤122)
def Q6 (c:UInt8):Bool:=decide (48≤c.toNat) && decide (c.toNat≤57)
def Nc (c:UInt8):Bool:=A5 c||Q6 c
def wordsS:List Bs:= [[118,97,114], [97,114,114,97,121], [109,117,116,101,120], [99,111,110,100], [99,104,97,110], [116,104,114,101,97,100], [108,101,116], [105,102], [101,108,115,101], [119,104,105,108,101], [108,111,99,107], [117,110,108,111,99,107], [119,97,105,116], [115,105,103,110,97,108], [97,108,108], [115,101,110,100], [114,101,99,118], [115,112,97,119,110], [106,111,105,110], [112,114,105,110,116]]
def signsS:List Bs:= [[61,61], [33,61], [60,61], [38,38], [124,124], [59], [40], [41], [123], [125], [91], [93], [61], [60], [43], [45], [42], [47], [37], [33]]
def kwS (w:Bs):Bool:=wordsS.any (· ==w)
def Ha (w:Bs):Int:=w.foldl (fun n c=>n*10+((c.toNat:Int) - 48)) 0
def G2 (w:Bs):Option Int:=if w.all Q6 && decide (w.length≤10) then (if Ha w≤2147483647∧(w.length=1∨w.getD 0 0≠48) then some (Ha w) else none) else none
def Me (l:Bs):Nat:=(l.takeWhile Nc).length
def Fj (l:Bs):Option (Int×Bs×Int):=
 let w:=l.take (Me l)
 if 0<Me l∧Q6 (l.getD 0 0)=true then (match G2 w with|some x=>some (2,w,x)|none=>none)
 else if 0<Me l∧kwS w=true then some (3,w,0)
 else if 16<Me l then none
 else if 0<Me l then some (1,w,0)
 else match signsS.find? (fun s=>s==l.take s.length) with
  |some s=>some (4,s,0)
  |none=>none
def J0:Nat→Bs→Int→Int→Option (List Tk)
 |0,_,_,_=>none
 |_+1, [],_,_=>some []
 |f+1,c::r,ln,cl=>
  if c=10 then J0 f r (ln+1) 1
  else if c=32∨c=9∨c=13 then J0 f r ln (cl+1)
  else if c=35 then J0 f ((c::r).dropWhile (· !=10)) ln (cl+((c::r).takeWhile (· !=10)).length)
  else match Fj (c::r) with
   |none=>none
   |some (k,w,n)=>(J0 f ((c::r).drop w.length) ln (cl+w.length)).map (⟨k,ba w,n,ln,cl⟩:: ·)
inductive PEx where
 |mk (k n:Int) (nm:ByteArray) (slot:Int) (loc:Bool) (op:Int) (args:List PEx)
inductive PStm where
 |mk (k ln cl:Int) (nm wt:ByteArray) (e ix:PEx) (body els:List PStm) (id slot other:Int) (loc:Bool)
structure PDec where
 k:Int
 ln:Int
 cl:Int
 nm:ByteArray
 n:Int
 body:List PStm
def PEx.z:PEx:= .mk 0 0 em 0 false 0 []
def isW (s:Bs):List Tk→Bool
 |t::_=>bs t.t==s && decide (3≤t.k)
 | []=>false
def tkW (s:Bs)(ts:List Tk):Option (List Tk):=if isW s ts=true then some ts.tail else none
def Va (s:Bs)(ts:List Tk):Option (Unit×List Tk):=if isW s ts=true then some ((),ts.tail) else none
def bnd {α β:Type}(A:Option (α×List Tk))(K:α→List Tk→Option β):Option β:=match A with
 |none=>none
 |some (x,r)=>K x r
def Qs:List Tk→Option (ByteArray×List Tk)
 |t::r=>if t.k=1 then some (t.t,r) else none
 | []=>none
def Q8:List Tk→Option (Int×List Tk)
 |t::r=>if t.k=2 then some (t.n,r) else none
 | []=>none
def rankL:List Int:= [0,1,2,3,3,3,3,4,4,5,5,5]
def signL:List Bs:= [[], [124,124], [38,38], [61,61], [33,61], [60], [60,61], [43], [45], [42], [47], [37]]
def Rc (n:Int)(ts:List Tk):List Nat→Nat
 | []=>0
 |op::r=>if rankL.getD op 0=n∧isW (signL.getD op []) ts=true then op else Rc n ts r
def Us (n:Int)(ts:List Tk):Nat:=Rc n ts [1,2,3,4,5,6,7,8,9,10,11]
mutual
def W9:Nat→Int→List Tk→Option (PEx×List Tk)
 |0,_,_=>none
 |f+1,n,ts=>if 5<n then unS f ts else match W9 f (n+1) ts with
  |none=>none
  |some (e,r)=>Hu f n e r
def Hu:Nat→Int→PEx→List Tk→Option (PEx×List Tk)
 |0,_,_,_=>none
 |f+1,n,e,ts=>if Us n ts=0 then some (e,ts) else match W9 f (n+1) ts.tail with
  |none=>none
  |some (x,r)=>if n=3 then some (.mk 6 0 em 0 false (Us n ts) [e,x],r) else Hu f n (.mk 6 0 em 0 false (Us n ts) [e,x]) r
def unS:Nat→List Tk→Option (PEx×List Tk)
 |0,_=>none
 |f+1,ts=>match tkW [45] ts with
  |some r=>(match unS f r with
   |none=>none
   |some (e,r2)=>some (.mk 4 0 em 0 false 0 [e],r2))
  |none=>match tkW [33] ts with
   |some r=>(match unS f r with
    |none=>none
    |some (e,r2)=>some (.mk 5 0 em 0 false 0 [e],r2))
   |none=>Ub f ts
def Ub:Nat→List Tk→Option (PEx×List Tk)
 |0,_=>none
 |f+1,ts=>match tkW [40] ts with
  |some r=>(match W9 f 1 r with
   |none=>none
   |some (e,r2)=>match tkW [41] r2 with
    |none=>none
    |some r3=>some (e,r3))
  |none=>match Q8 ts with
   |some (n,r)=>some (.mk 1 n em 0 false 0 [],r)
   |none=>match Qs ts with
    |none=>none
    |some (nm,r)=>match tkW [91] r with
     |none=>some (.mk 2 0 nm 0 false 0 [],r)
     |some r2=>match W9 f 1 r2 with
      |none=>none
      |some (e,r3)=>match tkW [93] r3 with
       |none=>none
       |some r4=>some (.mk 3 0 nm 0 false 0 [e],r4)
end
def kindL:List Bs:= [[], [108,101,116], [], [], [105,102], [119,104,105,108,101], [108,111,99,107], [117,110,108,111,99,107], [119,97,105,116], [115,105,103,110,97,108], [97,108,108], [115,101,110,100], [114,101,99,118], [115,112,97,119,110], [106,111,105,110], [112,114,105,110,116]]
def Jh (L:List Bs)(ts:List Tk):Nat→Nat
 |0=>0
 |k+1=>if L.getD (k+1) []≠ []∧isW (L.getD (k+1) []) ts=true then k+1 else Jh L ts k
def V7 (ts:List Tk):Nat:=Jh kindL ts 15
def Zi:List Tk→Int×Int
 |t::_=>(t.ln,t.cl)
 | []=>(0,0)
def Uy (f:Nat)(k:Int)(p:Int×Int)(nm:ByteArray)(ts:List Tk):Option (PStm×List Tk):=
 if k=0 then (if isW [91] ts=true then bnd (W9 f 1 ts.tail) fun ix r=>bnd (Va [93] r) fun _ r=>bnd (Va [61] r) fun _ r=>bnd (W9 f 1 r) fun e r=>bnd (Va [59] r) fun _ r=>some (.mk 3 p.1 p.2 nm em e ix [] [] 0 0 0 false,r)
  else bnd (Va [61] ts) fun _ r=>bnd (W9 f 1 r) fun e r=>bnd (Va [59] r) fun _ r=>some (.mk 2 p.1 p.2 nm em e .z [] [] 0 0 0 false,r))
 else if k=1 then bnd (Va [61] ts) fun _ r=>bnd (W9 f 1 r) fun e r=>bnd (Va [59] r) fun _ r=>some (.mk k p.1 p.2 nm em e .z [] [] 0 0 0 false,r)
 else if k=8∨k=12 then bnd (Qs ts) fun wt r=>bnd (Va [59] r) fun _ r=>some (.mk k p.1 p.2 nm wt .z .z [] [] 0 0 0 false,r)
 else if k=11∨k=15 then bnd (W9 f 1 ts) fun e r=>bnd (Va [59] r) fun _ r=>some (.mk k p.1 p.2 nm em e .z [] [] 0 0 0 false,r)
 else bnd (Va [59] ts) fun _ r=>some (.mk k p.1 p.2 nm em .z .z [] [] 0 0 0 false,r)
mutual
def Qa:Nat→List Tk→Option (PStm×List Tk)
 |0,_=>none
 |f+1,ts=>
  if V7 ts=4∨V7 ts=5 then bnd (W9 f 1 ts.tail) fun e r=>bnd (Ky f r) fun b r=>
   if V7 ts=4∧isW [101,108,115,101] r=true then bnd (Ky f r.tail) fun b2 r=>some (.mk (V7 ts) (Zi ts).1 (Zi ts).2 em em e .z b b2 0 0 0 false,r)
   else some (.mk (V7 ts) (Zi ts).1 (Zi ts).2 em em e .z b [] 0 0 0 false,r)
  else if V7 ts=14∨V7 ts=15 then Uy f (V7 ts) (Zi ts) em ts.tail
  else bnd (Qs (if 0<V7 ts then ts.tail else ts)) fun nm r=>Uy f (V7 ts) (Zi ts) nm r
def Ky:Nat→List Tk→Option (List PStm×List Tk)
 |0,_=>none
 |f+1,ts=>bnd (Va [123] ts) fun _ r=>bnd (Ud f r) fun l r=>bnd (Va [125] r) fun _ r=>some (l,r)
def Ud:Nat→List Tk→Option (List PStm×List Tk)
 |0,_=>none
 |f+1,ts=>if isW [125] ts=true then some ([],ts) else bnd (Qa f ts) fun s r=>bnd (Ud f r) fun l r=>some (s::l,r)
end
def declL:List Bs:= [[], [118,97,114], [97,114,114,97,121], [109,117,116,101,120], [99,111,110,100], [99,104,97,110], [116,104,114,101,97,100]]
def dkS (ts:List Tk):Nat:=Jh declL ts 6
def B3 (k:Nat)(ts:List Tk):Option (Int×List Tk):=
 if k=1 then bnd (Va [61] ts) fun _ r=>if isW [45] r=true then bnd (Q8 r.tail) fun n r=>some (-n,r) else Q8 r
 else if k=2∨k=5 then Q8 ts else some (0,ts)
def J5 (f:Nat)(ts:List Tk):Option (PDec×List Tk):=
 if dkS ts=0 then none else bnd (Qs ts.tail) fun nm r=>
  if dkS ts=6 then bnd (Ky f r) fun b r=>some (⟨dkS ts,(Zi ts).1,(Zi ts).2,nm,0,b⟩,r)
  else bnd (B3 (dkS ts) r) fun n r=>bnd (Va [59] r) fun _ r=>some (⟨dkS ts,(Zi ts).1,(Zi ts).2,nm,n, []⟩,r)
def Ux (g:Nat):Nat→List Tk→Option (List PDec)
 |0,_=>none
 |f+1,ts=>if ts= [] then some [] else bnd (J5 g ts) fun d r=>(Ux g f r).map (d:: ·)
mutual
def PEx.dep:PEx→Nat
 | .mk _ _ _ _ _ _ args=>Y2 args+1
def Y2:List PEx→Nat
 | []=>0
 |e::r=>max e.dep (Y2 r)
end
mutual
def PStm.deep:PStm→Nat→Bool
 | .mk _ _ _ _ _ e ix body els _ _ _ _,n=>decide (24<n)||decide (24<e.dep)||decide (24<ix.dep)||Yo body (n+1)||Yo els (n+1)
def Yo:List PStm→Nat→Bool
 | [],_=>false
 |s::r,n=>s.deep n||Yo r n
end
def Qf (l:Bs):Option (List PDec):=
 if 65536<l.length then none else match J0 (l.length+1) l 1 1 with
  |none=>none
  |some ts=>match Ux (10*ts.length+20) (ts.length+1) ts with
   |none=>none
   |some ds=>if ds.any (fun d=>Yo d.body 1)=true then none else some ds
inductive Ex where
 |mk (k n:Int) (nm:ByteArray) (slot:Int) (loc:Bool) (op:Int) (args:List Ex) (aa:Option Addr) (ac:Nat)
def exC:Ex→List Value
 | .mk k n nm slot loc op args aa ac=> [.int .i64 k,.int .i64 n,.string nm,.int .i64 slot,.bool loc,.int .i64 op,.slice aa args.length ac]
inductive Stm where
 |mk (k ln cl:Int) (nm wt:ByteArray) (e ix:Ex) (body els:List Stm) (ba:Option Addr) (bc:Nat) (ea:Option Addr) (ec:Nat) (id slot other:Int) (loc:Bool)
def stC:Stm→List Value
 | .mk k ln cl nm wt e ix body els ba bc ea ec id slot other loc=> [.int .i64 k,.int .i64 ln,.int .i64 cl,.string nm,.string wt]++(exC e++(exC ix++ [.slice ba body.length bc,.slice ea els.length ec,.int .i64 id,.int .i64 slot,.int .i64 other,.bool loc]))
structure Dec where
 k:Int
 ln:Int
 cl:Int
 nm:ByteArray
 n:Int
 body:List Stm
 ba:Option Addr
 bc:Nat
def dcC (d:Dec):List Value:= [.int .i64 d.k,.int .i64 d.ln,.int .i64 d.cl,.string d.nm,.int .i64 d.n,.slice d.ba d.body.length d.bc]
theorem Zl (e:Ex):(exC e).length=7:=by cases e;rfl
theorem Ug (s:Stm):(stC s).length=25:=by cases s;simp [stC,Zl]
theorem Sj (e:Ex):(exC e).all (·.oneCell')=true:=by cases e;rfl
theorem Lf (s:Stm):(stC s).all (·.oneCell')=true:=by cases s;simp only [stC,List.all_append,Sj];rfl
mutual
def Ex.er:Ex→PEx
 | .mk k n nm slot loc op args _ _=> .mk k n nm slot loc op (Za args)
def Za:List Ex→List PEx
 | []=> []
 |e::r=>e.er::Za r
end
mutual
def Stm.er:Stm→PStm
 | .mk k ln cl nm wt e ix body els _ _ _ _ id slot other loc=> .mk k ln cl nm wt e.er ix.er (Zk body) (Zk els) id slot other loc
def Zk:List Stm→List PStm
 | []=> []
 |s::r=>s.er::Zk r
end
def Dec.er (d:Dec):PDec:=⟨d.k,d.ln,d.cl,d.nm,d.n,Zk d.body⟩
mutual
def Ex.At (M:Hp):Ex→Prop
 | .mk _ _ _ _ _ _ args aa ac=>SlAt M aa ac args.length (args.flatMap exC)∧Ex.Ats M args
def Ex.Ats (M:Hp):List Ex→Prop
 | []=>True
 |e::r=>e.At M∧Ex.Ats M r
end
mutual
def Stm.At (M:Hp):Stm→Prop
 | .mk _ _ _ _ _ e ix body els ba bc ea ec _ _ _ _=>e.At M∧ix.At M∧(SlAt M ba bc body.length (body.flatMap stC)∧Stm.Ats M body)∧SlAt M ea ec els.length (els.flatMap stC)∧Stm.Ats M els
def Stm.Ats (M:Hp):List Stm→Prop
 | []=>True
 |s::r=>s.At M∧Stm.Ats M r
end
mutual
theorem Ex.At.mono {M M':Hp}(l:Hle M M'): ∀ {e:Ex},e.At M→e.At M'
 | .mk ..,⟨h,k⟩=>⟨h.mono l,Ex.Ats.mono l k⟩
theorem Ex.Ats.mono {M M':Hp}(l:Hle M M'): ∀ {e:List Ex},Ex.Ats M e→Ex.Ats M' e
 | [],_=>trivial
 |_::_,⟨h,k⟩=>⟨Ex.At.mono l h,Ex.Ats.mono l k⟩
end
mutual
theorem Stm.At.mono {M M':Hp}(l:Hle M M'): ∀ {e:Stm},e.At M→e.At M'
 | .mk ..,⟨h1,h2,⟨h3,h4⟩,h5,h6⟩=>⟨h1.mono l,h2.mono l,⟨h3.mono l,Stm.Ats.mono l h4⟩,h5.mono l,Stm.Ats.mono l h6⟩
theorem Stm.Ats.mono {M M':Hp}(l:Hle M M'): ∀ {e:List Stm},Stm.Ats M e→Stm.Ats M' e
 | [],_=>trivial
 |_::_,⟨h,k⟩=>⟨Stm.At.mono l h,Stm.Ats.mono l k⟩
end
theorem Js {M:Hp}: ∀ {l:List Ex},Ex.Ats M l↔ ∀ e∈l,e.At M
 | []=>by simp [Ex.Ats]
 |e::r=>by simp [Ex.Ats,Js (l:=r)]
theorem Q2 {M:Hp}: ∀ {l:List Stm},Stm.Ats M l↔ ∀ e∈l,e.At M
 | []=>by simp [Stm.Ats]
 |e::r=>by simp [Stm.Ats,Q2 (l:=r)]
theorem Jl: ∀ l:List Ex,Za l=l.map Ex.er
 | []=>rfl
 |e::r=>by simp [Za,Jl r]
theorem Uo: ∀ l:List Stm,Zk l=l.map Stm.er
 | []=>rfl
 |e::r=>by simp [Zk,Uo r]
theorem Ja (l:List Ex):(Za l).length=l.length:=by rw [Jl];simp
theorem Q1 (l:List Stm):(Zk l).length=l.length:=by rw [Uo];simp
mutual
def Ex.sz:Ex→Nat
 | .mk _ _ _ _ _ _ args _ _=>Vt args+1
def Vt:List Ex→Nat
 | []=>0
 |e::r=>e.sz+Vt r
end
mutual
def Stm.sz:Stm→Nat
 | .mk _ _ _ _ _ _ _ body els _ _ _ _ _ _ _ _=>Z2 body+Z2 els+1
def Z2:List Stm→Nat
 | []=>0
 |s::r=>s.sz+Z2 r
end
theorem K5 {e:Ex}: ∀ {l:List Ex},e∈l→e.sz≤Vt l
 |x::r,h=>by
  rcases List.mem_cons.1 h with rfl|h
  · simp [Vt]
  have:=K5 h;simp only [Vt];omega
theorem Qn {e:Stm}: ∀ {l:List Stm},e∈l→e.sz≤Z2 l
 |x::r,h=>by
  rcases List.mem_cons.1 h with rfl|h
  · simp [Z2]
  have:=Qn h;simp only [Z2];omega
def exM (e:Ex):HP:=lst (fun M=>e.At M) fun l h=>Ex.At.mono l h
def exsM (l:List Ex):HP:=lst (fun M=>Ex.Ats M l) fun l h=>Ex.Ats.mono l h
def stM (s:Stm):HP:=lst (fun M=>s.At M) fun l h=>Stm.At.mono l h
def stsM (l:List Stm):HP:=lst (fun M=>Stm.Ats M l) fun l h=>Stm.Ats.mono l h
def BlkAt (M:Hp)(a:Option Addr)(c:Nat)(l:List Stm):Prop:=SlAt M a c l.length (l.flatMap stC)∧Stm.Ats M l
theorem BlkAt.mono {a:Option Addr}{c:Nat}{l:List Stm}{M M':Hp}(e:Hle M M')(h:BlkAt M a c l):BlkAt M' a c l:=⟨h.1.mono e,h.2.mono e⟩
def blM (a:Option Addr)(c:Nat)(l:List Stm):HP:=lst (fun M=>BlkAt M a c l) BlkAt.mono
def Dec.At (M:Hp)(d:Dec):Prop:=BlkAt M d.ba d.bc d.body
theorem Dec.At.mono {d:Dec}{M M':Hp}(e:Hle M M')(h:d.At M):d.At M':=BlkAt.mono e h
def Decs.At (M:Hp)(l:List Dec):Prop:= ∀ d∈l,d.At M
theorem Decs.At.mono {l:List Dec}{M M':Hp}(e:Hle M M')(h:Decs.At M l):Decs.At M' l:=fun d hd=>(h d hd).mono e
def dcM (d:Dec):HP:=lst (fun M=>d.At M) Dec.At.mono
def dcsM (l:List Dec):HP:=lst (fun M=>Decs.At M l) Decs.At.mono
section
variable {q q0:List HP}{a:Option Addr}{c ty:Nat}{l:List Ex}{m:List Stm}
theorem Kn.ex1 {k n:Int}{nm:ByteArray}{slot:Int}{loc:Bool}{op:Int}{e:Ex}(h:Kn q fun M=>e.At M):Kn (lst (fun M=>SlAt M a c 1 ([e].flatMap exC)) SlAt.mono::q) fun M=>(Ex.mk k n nm slot loc op [e] a c).At M:=
 (Kn.here.and h.there).imp fun M h=>⟨h.1,h.2,trivial⟩
theorem Kn.ex2 {k n:Int}{nm:ByteArray}{slot:Int}{loc:Bool}{op:Int}{e e2:Ex}(h:Kn q fun M=>e.At M)(h2:Kn q fun M=>e2.At M):Kn (lst (fun M=>SlAt M a c 2 ([e,e2].flatMap exC)) SlAt.mono::q) fun M=>(Ex.mk k n nm slot loc op [e,e2] a c).At M:=
 (Kn.here.and (h.there.and h2.there)).imp fun M h=>⟨h.1,h.2.1,h.2.2,trivial⟩
theorem Kn.stsM:Kn (stsM m::q) fun M=>Stm.Ats M m:=Kn.here
theorem Kn.stM {s:Stm}:Kn (stM s::q) fun M=>s.At M:=Kn.here
theorem Kn.dcM {s:Dec}:Kn (dcM s::q) fun M=>s.At M:=Kn.here
theorem Kn.dcsM {s:List Dec}:Kn (dcsM s::q) fun M=>Decs.At M s:=Kn.here
theorem Le.ex0 (k n:Int)(nm:ByteArray)(slot:Int)(loc:Bool)(op:Int):Le q (Go.Proofs.YtgonllbkcgaliaaGreatDoor.exM (Ex.mk k n nm slot loc op [] none 0)::q):=Kn.add (fun M _ _=>⟨SlAt.nil M,trivial⟩)
theorem Do:Le q (Go.Proofs.YtgonllbkcgaliaaGreatDoor.stsM []::q):=Kn.add (fun _ _ _=>trivial)
theorem C7 {s:Stm}:Le (Go.Proofs.YtgonllbkcgaliaaGreatDoor.stsM m::Go.Proofs.YtgonllbkcgaliaaGreatDoor.stM s::q) (Go.Proofs.YtgonllbkcgaliaaGreatDoor.stsM (m++ [s])::q):=by
 have h:Kn (Go.Proofs.YtgonllbkcgaliaaGreatDoor.stsM m::Go.Proofs.YtgonllbkcgaliaaGreatDoor.stM s::q) fun M=>Stm.Ats M (m++ [s]):=(Kn.stsM.and Kn.stM.there).imp fun M h=>Q2.2 fun x hx=>by
  rcases List.mem_append.1 hx with hx|hx
  · exact Q2.1 h.1 x hx
  rw [List.mem_singleton.1 hx];exact h.2
 exact Le.trans (Kn.add (mn:=fun l h=>Stm.Ats.mono l h) h) (Le.cons _ ((Le.drop _ _).trans (Le.drop _ _)))
theorem Pe:Le q (Go.Proofs.YtgonllbkcgaliaaGreatDoor.dcsM []::q):=Kn.add (fun _ _ _ d hd=>by cases hd)
theorem Az {s:Dec}{m:List Dec}:Le (Go.Proofs.YtgonllbkcgaliaaGreatDoor.dcsM m::Go.Proofs.YtgonllbkcgaliaaGreatDoor.dcM s::q) (Go.Proofs.YtgonllbkcgaliaaGreatDoor.dcsM (m++ [s])::q):=by
 have h:Kn (Go.Proofs.YtgonllbkcgaliaaGreatDoor.dcsM m::Go.Proofs.YtgonllbkcgaliaaGreatDoor.dcM s::q) fun M=>Decs.At M (m++ [s]):=(Kn.dcsM.and Kn.dcM.there).imp fun M h x hx=>by
  rcases List.mem_append.1 hx with hx|hx
  · exact h.1 x hx
  rw [List.mem_singleton.1 hx];exact h.2
 exact Le.trans (Kn.add (mn:=Decs.At.mono) h) (Le.cons _ ((Le.drop _ _).trans (Le.drop _ _)))
theorem Kn.blk (h:Kn q fun M=>Stm.Ats M m):Kn (lst (fun M=>SlAt M a c m.length (m.flatMap stC)) SlAt.mono::q) fun M=>BlkAt M a c m:=Kn.here.and h.there
end
theorem isW_at {L:List Tk}{s:Bs}{n:Nat}(h:n<L.length):isW s (L.drop n)=(bs L[n].t==s && decide (3≤L[n].k)):=by rw [List.drop_eq_getElem_cons h];rfl
theorem L0 {L:List Tk}{s:Bs}{n:Nat}(h:L.length≤n):isW s (L.drop n)=false:=by rw [List.drop_eq_nil_of_le h];rfl
theorem A6 {L:List Tk}{s:Bs}{n:Nat}(h:isW s (L.drop n)=true):n<L.length:=by
 rcases Nat.lt_or_ge n L.length with k|k
 · exact k
 rw [L0 k] at h;cases h
theorem gD {α:Type}{l:List α}{i:Nat}{d:α}(h:i<l.length):l.getD i d=l[i]:=by simp [List.getD,List.getElem?_eq_getElem h]
theorem sEq {a b:ByteArray}:a.toList=b.toList↔bs a=bs b:=by rw [ByteArray.toList_eq,ByteArray.toList_eq];rfl
theorem sNe {a b:ByteArray}(h: ¬a.toList=b.toList):(bs a==bs b)=false:=by rw [beq_eq_false_iff_ne];exact fun e=>h (sEq.2 e)
theorem sTr {a b:ByteArray}(h:a.toList=b.toList):(bs a==bs b)=true:=by rw [beq_iff_eq];exact sEq.1 h
theorem tail_drop {L:List Tk}{n:Nat}:(L.drop n).tail=L.drop (n+1):=by rw [List.tail_drop]
def Out {α:Type}(L:List Tk)(bad:Bool)(sp:Option (α×List Tk))(x:α)(n:Nat)(bad':Bool):Prop:=(bad'=false∧bad=false∧sp=some (x,L.drop n))∨(bad'=true∧(bad=true∨sp=none))
abbrev rdH (p:Nat)(la:Option Addr)(lc:Nat)(L:List Tk)(n:Nat)(bad:Bool):HP:=pto p (.cells [.slice la L.length lc,.int .i64 (n:Int),.bool bad].toArray 185 (0,0))
section
variable {P:Program}{G:World}{fr:Fc}{Q:Y9}{todo k:List Item}{p:PE}{ds:List Deferred}{cs:List Frame}{q q0:List HP}{ops lo:List Oper}{a:Option Addr}{c:Nat}{e x:Ex}{m:List Stm}{kd n:Int}{nm:ByteArray}{slot:Int}{loc:Bool}{op:Int}
theorem Pm (K:X P G fr Q todo p ds cs (exM (.mk kd n nm slot loc op [e] a c)::q0))(hq:Le q (rsH exC 7 215 a c [e]::q0):=by exact Zw)(he:Kn q0 fun M=>e.At M:=by exact knA):X P G fr Q todo p ds cs q:= .frzR (Kn.ex1 he) K hq
theorem X.fzE2 (K:X P G fr Q todo p ds cs (exM (.mk kd n nm slot loc op [e,x] a c)::q0))(hq:Le q (rsH exC 7 215 a c [e,x]::q0):=by exact Zw)(he:Kn q0 fun M=>e.At M:=by exact knA)(hx:Kn q0 fun M=>x.At M:=by exact knA):X P G fr Q todo p ds cs q:= .frzR (Kn.ex2 he hx) K hq
theorem X.fzB (K:X P G fr Q todo p ds cs (blM a c m::q0))(hq:Le q (rsH stC 25 217 a c m::q0):=by exact Zw)(h:Kn q0 fun M=>Stm.Ats M m:=by exact knA):X P G fr Q todo p ds cs q:= .frzR (Kn.blk h) K hq
end
end Go.Proofs.YtgonllbkcgaliaaGreatDoor
namespace Go.Proofs.YtgonllbkcgaliaaGreatDoor
open Go Go.RowKit Wx Go.Proofs.Tryz
attribute [local irreducible] Wx.lsH Wx.rsH Wx.stars
section
variable {G:World}{q pre:List HP}{a la A:Option Addr}{c lc p n:Nat}{bad:Bool}{s:ByteArray}{L:List Tk}{r:Int}
theorem Cq (hr:Has q p (.cells [.slice la L.length lc,.int .i64 (n:Int),.bool bad].toArray 185 (0,0)))(hL:Sees q la (L.flatMap tkC))(hn:L.length≤65536):CallF prog G 142 [.pointer (some ⟨p,0,none⟩),.string s] (q) (Ret fun v q'=>v= .bool (!bad && isW (bs s) (L.drop n))∧q'=q):=by
 refine CallF.of func142 ntmps142 rfl (fun F cs=> ?_)
 have hlen:=Zm (f:=tkC) (sz:=5) (fun _=>rfl) L
 refine xx 5 ?_;refine drw ?_;refine dd [0,1,2] ?_;refine ldD 3 ?_ (hc:=(Cl.of (hr.le leA) rfl))
 refine Wm 4 rfl (Pu.not rfl) ?_;refine dd [5] ?_;refine XD.part 10 rfl (fun h1=> ?_) (fun h1=> ?_)
 · replace h1:=sp h1
   refine dd [6,7,8] ?_;refine ldD 9 ?_ (hc:=(Cl.of (hr.le leA) rfl))
   refine dd [10,11,12] ?_;refine ldD 13 ?_ (hc:=(Cl.of (hr.le leA) rfl))
   refine dd [14,15,16,17] ?_;refine XD.part 22 rfl (fun h2=> ?_) (fun h2=> ?_)
   · replace h2:=sp h2
     refine dd [18,19,20] ?_;refine ldD 21 ?_ (hc:=(Cl.of (hr.le leA) rfl))
     refine dd [22,23,24] ?_;refine ldD 25 ?_ (hc:=(Cl.of (hr.le leA) rfl))
     refine Yp hL (by rw [hlen];omega) (fun b1 o1 e1=> ?_)
     have hs1:=hL;rw [e1] at hs1
     refine XD.know 26 (.slice (some ⟨b1,o1,none⟩) L.length lc) rfl (by rw [e1]) ?_
     refine dd [26,27] ?_;refine ldD 28 ?_;refine dd [29,30,31,32] ?_;refine XD.part 37 rfl (fun h3=> ?_) (fun h3=> ?_)
     · replace h3:=sp h3
       refine dd [33,34,35] ?_;refine ldD 36 ?_ (hc:=(Cl.of (hr.le leA) rfl))
       refine dd [37,38,39] ?_;refine ldD 40 ?_ (hc:=(Cl.of (hr.le leA) rfl))
       refine XD.know 41 (.slice (some ⟨b1,o1,none⟩) L.length lc) rfl (by rw [e1]) ?_
       refine dd [41,42] ?_;refine ldD 43 ?_;refine dd [44,45,46] ?_;refine XD.nil ?_;refine Zq (q) func142 (Zp results142 rfl) ⟨_,rfl,congrArg Value.bool (by rw [isW_at (by omega),h1,sTr h3];rfl),rfl⟩
     replace h3:=sp h3
     refine dd [33,34,35,36,37,38,39,40,41,42,43,44,45,46] ?_;refine XD.nil ?_;refine Zq (q) func142 (Zp results142 rfl) ⟨_,rfl,congrArg Value.bool (by rw [isW_at (by omega),sNe h3];simp),rfl⟩
   replace h2:=sp h2
   refine dd [18,19,20,21,22,23,24,25,26,27,28,29,30,31,32,33,34,35,36,37,38,39,40,41,42,43,44,45,46] ?_;refine XD.nil ?_;refine Zq (q) func142 (Zp results142 rfl) ⟨_,rfl,congrArg Value.bool (by rw [L0 (by omega)];simp),rfl⟩
 replace h1:=sp h1
 refine dd [6,7,8,9,10,11,12,13,14,15,16,17,18,19,20,21,22,23,24,25,26,27,28,29,30,31,32,33,34,35,36,37,38,39,40,41,42,43,44,45,46] ?_;refine XD.nil ?_;refine Zq (q) func142 (Zp results142 rfl) ⟨_,rfl,congrArg Value.bool (by simp_all),rfl⟩
variable {w:Bs}
theorem Ul (hL:Sees q la (L.flatMap tkC))(hn:L.length≤65536):CallF prog G 145 [.pointer (some ⟨p,0,none⟩),.string (ba w)] (rdH p la lc L n bad::q) (Ret fun v q'=>(v= .bool true∧(bad=false∧isW w (L.drop n)=true∧n<L.length)∧q'=rdH p la lc L (n+1) bad::q)∨(v= .bool false∧(bad=true∨isW w (L.drop n)=false)∧q'=rdH p la lc L n bad::q)):=by
 refine CallF.of func145 ntmps145 rfl (fun F cs=> ?_)
 refine xo 9 ?_;refine XO.cR call142 (Cq (n:=n) (bad:=bad) Vr (hL.le leA) hn) ?_
 refine Zn (Pu.not rfl) ?_;refine ox 1 ?_;refine X.part 8 rfl (fun h1=> ?_) (fun h1=> ?_)
 · refine xx 5 ?_;refine Zq (rdH p la lc L n bad::q) func145 (Zp results145 rfl) ⟨_,rfl,.inr ⟨rfl,by rw [U8] at h1;cases bad<;>simp_all,rfl⟩⟩
 have h2:bad=false∧isW w (L.drop n)=true:=by rw [U8] at h1;cases bad<;>simp_all
 have hlt:=A6 h2.2
 refine xo 7 ?_;refine ld ?_;refine oo 3 ?_;refine st ?_;refine ox 5 ?_;refine Zq (rdH p la lc L (n+1) bad::q) func145 (Zp results145 rfl) ⟨_,rfl,.inl ⟨rfl,⟨h2.1,h2.2,hlt⟩,rfl⟩⟩
theorem Wy (hL:Sees q la (L.flatMap tkC))(hn:L.length≤65536)(hnL:n≤L.length):CallF prog G 144 [.pointer (some ⟨p,0,none⟩),.string (ba w)] (rdH p la lc L n bad::q) (Ret fun v q'=> ∃ n' bad',v= .tuple #[]∧q'=rdH p la lc L n' bad'::q∧n≤n'∧n'≤L.length∧Out L bad (Va w (L.drop n)) () n' bad'):=by
 refine CallF.of func144 ntmps144 rfl (fun F cs=> ?_)
 refine xo 4 ?_;refine Zh call145 leA (Ul (hL.le leA) hn) ?_;rintro _ _ (⟨rfl,⟨hb,hw,hlt⟩,rfl⟩|⟨rfl,hw,rfl⟩)
 · refine ox 4 ?_;refine Wr (rdH p la lc L (n+1) bad::q) func144 (U1 results144) ⟨_,rfl,n+1,bad,rfl,rfl,by omega,by omega,.inl ⟨hb,hb,by unfold Va;rw [if_pos hw,tail_drop]⟩⟩
 refine oo 7 ?_;refine st ?_;refine ox 1 ?_;refine Wr (rdH p la lc L n true::q) func144 (U1 results144) ⟨_,rfl,n,true,rfl,rfl,Nat.le_refl _,hnL,.inr ⟨rfl,hw.imp id fun h=>by unfold Va;rw [if_neg (by rw [h];decide)]⟩⟩
theorem B7 {L:List Tk}{n:Nat}(h:n<L.length):Qs (L.drop n)=if L[n].k=1 then some (L[n].t,L.drop (n+1)) else none:=by rw [List.drop_eq_getElem_cons h];rfl
theorem Ei {L:List Tk}{n:Nat}(h:L.length≤n):Qs (L.drop n)=none:=by rw [List.drop_eq_nil_of_le h];rfl
theorem V2 (hL:Sees q la (L.flatMap tkC))(hn:L.length≤65536)(hnL:n≤L.length):CallF prog G 143 [.pointer (some ⟨p,0,none⟩)] (rdH p la lc L n bad::q) (Ret fun v q'=> ∃ (x:ByteArray) (n':Nat) (bad':Bool),v= .string x∧q'=rdH p la lc L n' bad'::q∧(n≤n'∧(x=em∨ ∃ t∈L,x=t.t))∧n'≤L.length∧Out L bad (Qs (L.drop n)) x n' bad'):=by
 refine CallF.of func143 ntmps143 rfl (fun F cs=> ?_)
 have hlen:=Zm (f:=tkC) (sz:=5) (fun _=>rfl) L
 refine xx 6 ?_;refine drw ?_;refine dd [0,1,2] ?_;refine ldD 3 ?_;refine dd [4] ?_;refine XD.part 7 rfl (fun h1=> ?_) (fun h1=> ?_)
 · replace h1:=sp h1
   refine dd [5,6,7,8,9,10,11,12,13,14,15,16,17,18,19,20,21,22,23,24,25,26,27,28,29] ?_;refine XD.nil ?_;refine xo 6 ?_;refine st ?_;refine ox 5 ?_;refine Zq (rdH p la lc L n true::q) func143 (Zp results143 rfl) ⟨_,rfl,em,n,true,rfl,rfl,⟨Nat.le_refl _,.inl rfl⟩,hnL,.inr ⟨rfl,.inl h1⟩⟩
 replace h1:=sp h1
 refine dd [5,6,7] ?_;refine ldD 8 ?_;refine dd [9,10,11] ?_;refine ldD 12 ?_;refine dd [13,14,15,16] ?_;refine XD.part 19 rfl (fun h2=> ?_) (fun h2=> ?_)
 · replace h2:=sp h2
   refine dd [17,18,19,20,21,22,23,24,25,26,27,28,29] ?_;refine XD.nil ?_;refine xo 6 ?_;refine st ?_;refine ox 5 ?_;refine Zq (rdH p la lc L n true::q) func143 (Zp results143 rfl) ⟨_,rfl,em,n,true,rfl,rfl,⟨Nat.le_refl _,.inl rfl⟩,hnL,.inr ⟨rfl,.inr (Ei (by omega))⟩⟩
 replace h2:=sp h2
 refine dd [17,18,19] ?_;refine ldD 20 ?_;refine dd [21,22,23] ?_;refine ldD 24 ?_
 have hlt:n<L.length:=by omega
 refine Yp hL (by rw [hlen];omega) (fun b1 o1 e1=> ?_)
 have hs1:=hL;rw [e1] at hs1
 refine XD.know 23 (.slice (some ⟨b1,o1,none⟩) L.length lc) rfl (by rw [e1]) ?_
 refine dd [25,26] ?_;refine ldD 27 ?_;refine dd [28,29] ?_;refine XD.nil ?_;refine X.part 32 rfl (fun h3=> ?_) (fun h3=> ?_)
 · replace h3:=sp h3
   refine xo 6 ?_;refine st ?_;refine ox 5 ?_;refine Zq (rdH p la lc L n true::q) func143 (Zp results143 rfl) ⟨_,rfl,em,n,true,rfl,rfl,⟨Nat.le_refl _,.inl rfl⟩,hnL,.inr ⟨rfl,.inr (by rw [B7 (by omega),if_neg h3])⟩⟩
 replace h3:=sp h3
 refine xo 7 ?_;refine ld ?_;refine oo 3 ?_;refine st ?_;refine ox 2 ?_;refine drw ?_;refine dd [0,1,2] ?_;refine ldD 3 ?_;refine dd [4,5,6] ?_;refine ldD 7 ?_;refine dd [8] ?_;refine XD.know 46 (.slice (some ⟨b1,o1,none⟩) L.length lc) rfl (by rw [e1]) ?_
 refine dd [9,10] ?_;refine ldD 11 ?_ (hc:=(Cl.el (n:=n) hs1 leA (fun _=>rfl) hlt (by omega) rfl))
 refine dd [12] ?_;refine XD.nil ?_;refine Zq (rdH p la lc L (n+1) bad::q) func143 (Zp results143 rfl) ⟨_,rfl,L[n].t,n+1,bad,rfl,rfl,⟨by omega,.inr ⟨_,List.getElem_mem hlt,rfl⟩⟩,by omega,.inl ⟨h1,h1,by rw [B7 hlt,if_pos h3]⟩⟩
theorem G1 {L:List Tk}{n:Nat}(h:n<L.length):Q8 (L.drop n)=if L[n].k=2 then some (L[n].n,L.drop (n+1)) else none:=by rw [List.drop_eq_getElem_cons h];rfl
theorem Il {L:List Tk}{n:Nat}(h:L.length≤n):Q8 (L.drop n)=none:=by rw [List.drop_eq_nil_of_le h];rfl
theorem Kt (hL:Sees q la (L.flatMap tkC))(hn:L.length≤65536)(hnL:n≤L.length):CallF prog G 146 [.pointer (some ⟨p,0,none⟩)] (rdH p la lc L n bad::q) (Ret fun v q'=> ∃ (x:Int) (n':Nat) (bad':Bool),v= .int .i64 x∧q'=rdH p la lc L n' bad'::q∧(n≤n'∧(x=0∨ ∃ t∈L,x=t.n))∧n'≤L.length∧Out L bad (Q8 (L.drop n)) x n' bad'):=by
 refine CallF.of func146 ntmps146 rfl (fun F cs=> ?_)
 have hlen:=Zm (f:=tkC) (sz:=5) (fun _=>rfl) L
 refine xx 6 ?_;refine drw ?_;refine dd [0,1,2] ?_;refine ldD 3 ?_;refine dd [4] ?_;refine XD.part 7 rfl (fun h1=> ?_) (fun h1=> ?_)
 · replace h1:=sp h1
   refine dd [5,6,7,8,9,10,11,12,13,14,15,16,17,18,19,20,21,22,23,24,25,26,27,28,29] ?_;refine XD.nil ?_;refine xo 6 ?_;refine st ?_;refine ox 5 ?_;refine Zq (rdH p la lc L n true::q) func146 (Zp results146 rfl) ⟨_,rfl,0,n,true,rfl,rfl,⟨Nat.le_refl _,.inl rfl⟩,hnL,.inr ⟨rfl,.inl h1⟩⟩
 replace h1:=sp h1
 refine dd [5,6,7] ?_;refine ldD 8 ?_;refine dd [9,10,11] ?_;refine ldD 12 ?_;refine dd [13,14,15,16] ?_;refine XD.part 19 rfl (fun h2=> ?_) (fun h2=> ?_)
 · replace h2:=sp h2
   refine dd [17,18,19,20,21,22,23,24,25,26,27,28,29] ?_;refine XD.nil ?_;refine xo 6 ?_;refine st ?_;refine ox 5 ?_;refine Zq (rdH p la lc L n true::q) func146 (Zp results146 rfl) ⟨_,rfl,0,n,true,rfl,rfl,⟨Nat.le_refl _,.inl rfl⟩,hnL,.inr ⟨rfl,.inr (Il (by omega))⟩⟩
 replace h2:=sp h2
 refine dd [17,18,19] ?_;refine ldD 20 ?_;refine dd [21,22,23] ?_;refine ldD 24 ?_
 have hlt:n<L.length:=by omega
 refine Yp hL (by rw [hlen];omega) (fun b1 o1 e1=> ?_)
 have hs1:=hL;rw [e1] at hs1
 refine XD.know 23 (.slice (some ⟨b1,o1,none⟩) L.length lc) rfl (by rw [e1]) ?_
 refine dd [25,26] ?_;refine ldD 27 ?_;refine dd [28,29] ?_;refine XD.nil ?_;refine X.part 32 rfl (fun h3=> ?_) (fun h3=> ?_)
 · replace h3:=sp h3
   refine xo 6 ?_;refine st ?_;refine ox 5 ?_;refine Zq (rdH p la lc L n true::q) func146 (Zp results146 rfl) ⟨_,rfl,0,n,true,rfl,rfl,⟨Nat.le_refl _,.inl rfl⟩,hnL,.inr ⟨rfl,.inr (by rw [G1 (by omega),if_neg h3])⟩⟩
 replace h3:=sp h3
 refine xo 7 ?_;refine ld ?_;refine oo 3 ?_;refine st ?_;refine ox 2 ?_;refine drw ?_;refine dd [0,1,2] ?_;refine ldD 3 ?_;refine dd [4,5,6] ?_;refine ldD 7 ?_;refine dd [8] ?_;refine XD.know 46 (.slice (some ⟨b1,o1,none⟩) L.length lc) rfl (by rw [e1]) ?_
 refine dd [9,10] ?_;refine ldD 11 ?_ (hc:=(Cl.el (n:=n) hs1 leA (fun _=>rfl) hlt (by omega) rfl))
 refine dd [12] ?_;refine XD.nil ?_;refine Zq (rdH p la lc L (n+1) bad::q) func146 (Zp results146 rfl) ⟨_,rfl,L[n].n,n+1,bad,rfl,rfl,⟨by omega,.inr ⟨_,List.getElem_mem hlt,rfl⟩⟩,by omega,.inl ⟨h1,h1,by rw [G1 hlt,if_pos h3]⟩⟩
end
section
variable {G:World}{q pre:List HP}{a la A:Option Addr}{c lc p n:Nat}{bad:Bool}{s:ByteArray}{L:List Tk}{r:Int}
theorem pos_ok (hL:Sees q la (L.flatMap tkC))(hn:L.length≤65536):CallF prog G 141 [.pointer (some ⟨p,0,none⟩)] (rdH p la lc L n bad::q) (Ret fun v q'=>v= .agg [.int .i64 (Zi (L.drop n)).1,.int .i64 (Zi (L.drop n)).2].toArray∧q'=rdH p la lc L n bad::q):=by
 refine CallF.of func141 ntmps141 rfl (fun F cs=> ?_)
 have hlen:=Zm (f:=tkC) (sz:=5) (fun _=>rfl) L
 refine xo 2 ?_;refine Zy zeroValue87 fun n1=> ?_
 refine ox 3 ?_;refine drw ?_;refine dd [0,1,2] ?_;refine ldD 3 ?_;refine dd [4,5,6] ?_;refine ldD 7 ?_;refine dd [8,9] ?_;refine XD.nil ?_;refine X.part 12 rfl (fun h1=> ?_) (fun h1=> ?_)
 · replace h1:=sp h1
   refine xo 4 ?_;refine stA ?_;refine ox 1 ?_;refine Zq (rdH p la lc L n bad::q) func141 (rA_ results141) ⟨_,rfl,by rw [List.drop_eq_nil_of_le (by omega)];rfl,rfl⟩
 replace h1:=sp h1
 refine xx 3 ?_;refine drw ?_;refine dd [0,1,2] ?_;refine ldD 3 ?_;refine dd [4,5,6] ?_;refine ldD 7 ?_
 have hlt:n<L.length:=by omega
 refine Yp hL (by rw [hlen];omega) (fun b1 o1 e1=> ?_)
 have hs1:=hL;rw [e1] at hs1
 refine XD.know 17 (.slice (some ⟨b1,o1,none⟩) L.length lc) rfl (by rw [e1]) ?_
 refine dd [8,9] ?_;refine XD.rdCs 10 (us:= [.int .i64 L[n].ln,.int .i64 L[n].cl]) rfl rfl isAgg87 sizeOf87 rfl (fun k v hk=>by match k,hk with|0,hk=>cases hk;exact Yi (n:=n) hs1 leA (fun _=>rfl) hlt rfl 3 _ rfl|1,hk=>cases hk;exact Yi (n:=n) hs1 leA (fun _=>rfl) hlt rfl 4 _ rfl) ?_
 refine Z9 11 ?_;refine XD.nil ?_;refine Zq (rdH p la lc L n bad::q) func141 (rA_ results141) ⟨_,rfl,by rw [List.drop_eq_getElem_cons hlt];rfl,rfl⟩
theorem W4:(prog.info? 9).map (fun i=>(i.zero,i.size,i.bytes))=some (some (.string ⟨#[]⟩),1,16):=by kernel_rfl
theorem U3:(prog.info? 3).map (fun i=>(i.zero,i.size,i.bytes))=some (some (.int .i64 0),1,8):=by kernel_rfl
theorem rank_ok (hr:c<12):CallF prog G 207 [.int .i64 (c:Int)] (q) (Ret fun v q'=>v= .int .i64 (rankL.getD c 0)∧q'=q):=by
 refine CallF.of func207 ntmps207 rfl (fun F cs=> ?_)
 refine xo 6 ?_;refine XO.ef (Yj I64 rankL underlying23 U3 rfl rfl rfl rfl rfl rfl (fun _=>rfl)) ?_
 rintro _ _ ⟨g,rfl,rfl⟩
 have hlt:c<rankL.length:=by show c<12;omega
 refine oo 2 ?_;refine ld ?_ (hc:=(Cl.e1 (n:=c) (Sees.lsH _) Zw hlt (by omega)))
 refine ox 2 ?_;refine Zq (q) func207 (Zp results207 rfl) ⟨_,rfl,by rw [gD hlt],rfl⟩
theorem sign_ok (hr:c<12):CallF prog G 208 [.int .i64 (c:Int)] (q) (Ret fun v q'=>v= .string (ba (signL.getD c []))∧q'=q):=by
 refine CallF.of func208 ntmps208 rfl (fun F cs=> ?_)
 refine xo 6 ?_;refine XO.ef (Yj (fun w:Bs=>Value.string (ba w)) signL underlying55 W4 rfl rfl rfl rfl rfl rfl (fun _=>rfl)) ?_
 rintro _ _ ⟨g,rfl,rfl⟩
 have hlt:c<signL.length:=by show c<12;omega
 refine oo 2 ?_;refine ld ?_ (hc:=(Cl.e1 (n:=c) (Sees.lsH _) Zw hlt (by omega)))
 refine ox 2 ?_;refine Zq (q) func208 (Zp results208 rfl) ⟨_,rfl,by rw [gD hlt],rfl⟩
theorem B6 {r:Int}{ts:List Tk}{s:Nat}(h:s≤11):Rc r ts (List.range' s (12 - s))=if rankL.getD s 0=r∧isW (signL.getD s []) ts=true then s else Rc r ts (List.range' (s+1) (12 - (s+1))):=by
 rw [show 12 - s=(12 - (s+1))+1 by omega,List.range'_succ];rfl
theorem G4 {L:List Tk}{n:Nat}{r:Int}: ∀ {l:List Nat},Rc r (L.drop n) l≠0→n<L.length
 | [],h=>absurd rfl h
 |o::l,h=>by
  unfold Rc at h
  split at h
  · rename_i k;exact A6 k.2
  exact G4 h
theorem Ll (hr:Has q p (.cells [.slice la L.length lc,.int .i64 (n:Int),.bool bad].toArray 185 (0,0)))(hL:Sees q la (L.flatMap tkC))(hn:L.length≤65536):CallF prog G 205 [.pointer (some ⟨p,0,none⟩),.int .i64 r] (q) (Ret fun v q'=>v= .int .i64 (if bad=true then 0 else Us r (L.drop n):Nat)∧q'=q):=by
 refine CallF.of func205 ntmps205 rfl (fun F cs=> ?_)
 refine xx 10 ?_;refine X.at (X.loop (fun (s:Nat)=>1≤s∧s≤12∧(bad=false→Us r (L.drop n)=Rc r (L.drop n) (List.range' s (12 - s)))) (fun s=> [(5,.int .i64 (s:Int)),(0,.pointer (some ⟨p,0,none⟩)),(1,.int .i64 r),(4,.int .i64 0)]) (fun s=>(q++F)) (fun s=>12 - s) (fun s hi_ ih=> ?_) 1 ⟨Nat.le_refl _,by omega,fun _=>rfl⟩) Zt leA
 try dsimp only at hi_ ih⊢
 obtain ⟨hs1,hs2,hsn⟩:=hi_
 refine xx 6 ?_;refine X.part 7 rfl (fun h0=> ?_) (fun h0=> ?_)
 · replace h0:=sp h0
   have hs3:s≤11:=by omega
   refine xo 7 ?_;refine XO.cR call207 (rank_ok (c:=s) (by omega)) ?_
   refine oo 3 ?_;refine Zf [14,5,0,1,4] ?_
   apply Zg 5 19 14 rfl
   · intro g1 M1;have h1:=sp g1
     refine oo 2 ?_;refine XO.cR call208 (sign_ok (c:=s) (by omega)) ?_
     refine XO.cR call142 (Cq (s:=ba (signL.getD s [])) (hr.le leA) (hL.le leA) hn) ?_
     refine oo 1 ?_;exact Zz M1 ⟨Yd g1,Zv⟩
   · intro g1 M1;have h1:=sp g1
     refine oo 5 ?_;exact Zz M1 ⟨Yc g1,Zv⟩
   refine ox 1 ?_;refine X.part 19 rfl (fun h1=> ?_) (fun h1=> ?_)
   · replace h1:=sp h1
     refine xx 6 ?_;refine Zq (q) func205 (Zp results205 rfl) ⟨_,rfl,by rw [if_neg (by rw [h1.2.1];decide),hsn h1.2.1,B6 (by omega),if_pos ⟨h1.1,h1.2.2⟩],rfl⟩
   replace h1:=sp h1
   refine xx 8 ?_;refine X.at (ih (s+1) ⟨by omega,by omega,fun hb=>by rw [hsn hb,B6 (by omega),if_neg (fun k=>by rw [U8] at h1;simp_all)]⟩ (by omega)) Zt leA
 replace h0:=sp h0
 refine xx 6 ?_;refine Zq (q) func205 (Zp results205 rfl) ⟨_,rfl,by obtain rfl:s=12:=(by omega);cases bad with|true=>rfl|false=>rw [hsn rfl];rfl,rfl⟩
end
end Go.Proofs.YtgonllbkcgaliaaGreatDoor
