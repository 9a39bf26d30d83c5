/- Contracts of functions, proved by walking their code. -/
import Derived.Test.YtgonllbkcgaliaaGreatDoorHj
import Derived.KernelRfl
set_option maxRecDepth 100000
set_option linter.unusedVariables false
set_option linter.unusedSimpArgs false
namespace Go.Proofs.YtgonllbkcgaliaaGreatDoor
open Go Go.RowKit Wx Go.Proofs.Tryz
attribute [local irreducible] Wx.lsH Wx.rsH Wx.stars
theorem Wv {α:Type}{l:List α}{n:Nat}{d:α}(h:n<l.length):l.getD n d=l[n]:=by simp [List.getD,h]
section
variable {G:World}{q pre:List HP}{a b A:Option Addr}{c d C p p0 p1 p2 i:Nat}{lo hi n cd dep:Int}{fv:Value}{x y:Ins}{t:Cod}{m:Mdl}{at_:Int}
variable {l l2:List Int}{f:Frm}{th k:Int}
theorem Sr (hs:Sees q a (l.map I64))(hL:l.length≤1000000000):CallF prog G 35 [.slice a l.length c] (q) (Ret fun v q'=> ∃ a' c',v= .slice a' l.length c'∧q'=lsH I64 2 a' c' (l)::q):=by
 refine CallF.of func35 ntmps35 rfl (fun F cs=> ?_)
 rcases Nat.eq_zero_or_pos l.length with hl0|hl0
 · obtain rfl:=List.eq_nil_of_length_eq_zero hl0
   refine xx 10 ?_;refine X.part 4 rfl (fun h1=> ?_) (fun h1=> ?_)
   · refine xx 5 ?_;refine Zq (lsH I64 2 none 0 []::q) func35 (Zu results35 rfl) ⟨_,rfl,none,0,rfl,rfl⟩ ((leA).trans (Yc _ _ _))
   refine xo 4 ?_;refine XO.ef (Ey I64 underlying22 Tryz.info2) ?_;rintro _ _ ⟨g,rfl,rfl⟩
   refine oo 1 ?_;refine XO.ef (Ye (f:=I64) (l:= []) (m:= []) underlying22 Tryz.info2 rfl rfl rfl Zj (hs.le leA) (fun _=>rfl) (by simp;try omega) (by simp;try omega)) ?_
   rintro _ _ ⟨a2,c2,rfl,rfl⟩
   refine ox 2 ?_;refine Zq (lsH I64 2 a2 c2 []::q) func35 (Zu results35 rfl) ⟨_,rfl,a2,c2,by simp,rfl⟩
 refine Jw hs (by simp;omega) (fun b1 o1 e_=> ?_);subst e_
 refine xx 10 ?_;refine W0 4 ?_;refine xo 4 ?_;refine XO.ef (Ey I64 underlying22 Tryz.info2) ?_;rintro _ _ ⟨g,rfl,rfl⟩
 refine oo 1 ?_;refine XO.ef (Ye (f:=I64) (l:= []) (m:=l) underlying22 Tryz.info2 rfl rfl rfl Zj (hs.le leA) (fun _=>rfl) (by simp;try omega) (by simp;try omega)) ?_
 rintro _ _ ⟨a2,c2,rfl,rfl⟩
 refine ox 2 ?_;refine Zq (lsH I64 2 a2 c2 l::q) func35 (Zu results35 rfl) ⟨_,rfl,a2,c2,by simp,rfl⟩
theorem Bp (hf:FrmQ q f)(hl:f.loc.length≤1000000000)(hs:f.stk.length≤1000000000):CallF prog G 51 [.agg (Nb f).toArray] (q) (Ret fun v q'=> ∃ la lc sa sc,v= .agg (Nb ⟨f.code,f.pc,f.loc,f.stk,la,lc,sa,sc⟩).toArray∧q'=lsH I64 2 sa sc (f.stk)::lsH I64 2 la lc (f.loc)::q):=by
 refine CallF.of func51 ntmps51 rfl (fun F cs=> ?_)
 refine xo 2 ?_;refine Zl fun n1=> ?_
 refine Zm zeroValue67 fun n2=> ?_
 refine ox 2 ?_;refine drw ?_;refine dl [0] 1 ?_;refine dl [3] 4 ?_;refine Yj 2 call35 (Le.refl _) (Sr (l:=f.loc) (hf.l.le leA) hl) ?_
 rintro _ _ ⟨la,lc,rfl,rfl⟩
 refine ⟨hlA,?_⟩
 refine dd [6] ?_;refine Yj 5 call35 (Le.refl _) (Sr (l:=f.stk) (hf.s.le leA) hs) ?_
 rintro _ _ ⟨sa,sc,rfl,rfl⟩
 refine ⟨trivial,?_⟩
 refine stD 7 ?_;refine dd [8] ?_;refine stD 9 ?_;refine XD.nil ?_;refine xo 2 ?_;refine ldA ?_;refine stA ?_;refine ox 1 ?_;refine Zq (lsH I64 2 sa sc (f.stk)::lsH I64 2 la lc (f.loc)::q) func51 (rA_ results51) ⟨_,rfl,la,lc,sa,sc,rfl,rfl⟩
set_option maxHeartbeats 1000000 in
theorem New_ok (gc:GC q)(g:GE q)(hq:MdlQ q m):CallF prog G 23 [.agg (Wo m).toArray,.int .i64 th] (q) (Ret fun v q'=>(∃ h:V0 m=0∧0≤th∧th.toNat<m.threads.length,∃ la lc,v= .tuple [.agg (Nb ⟨th,0,List.replicate (m.threads[th.toNat]'h.2.2).locals.toNat 0, [],la,lc,none,0⟩).toArray,.int .i64 0].toArray∧q'=lsH I64 2 la lc (List.replicate (m.threads[th.toNat]'h.2.2).locals.toNat 0)::q)∨(¬ (V0 m=0∧0≤th∧th.toNat<m.threads.length)∧v= .tuple [.agg (Nb zFrm).toArray,.int .i64 2].toArray∧q'=q)):=by
 refine CallF.of func23 ntmps23 rfl (fun F cs=> ?_)
 have hlen:=Zb (f:=Y2) (sz:=4) (fun _=>rfl) m.threads;have hnt:=hq.nt
 refine xo 2 ?_;refine Zl fun n1=> ?_
 refine Zm zeroValue67 fun n2=> ?_
 refine oo 6 ?_;refine Zh call48 Zj (Py (gc.le leA) (g.le leA) (hq.le leA)) ?_;rintro _ _ ⟨rfl,rfl⟩
 refine Zc (Pu.not rfl) ?_;refine ox 1 ?_;refine X.part 8 rfl (fun h1=> ?_) (fun h1=> ?_)
 · replace h1:=sp h1
   refine xo 4 ?_;refine stA ?_;refine ox 2 ?_;refine Zq (q) func23 (Hd results23) ⟨_,rfl,.inr ⟨by omega,rfl,rfl⟩⟩
 replace h1:=sp h1
 refine xl 6 ?_;refine oo 1 ?_
 have hth:th.toNat<m.threads.length:=by omega
 have hco:=(Ut h1.1).2.2.2.2.2.2 _ (List.getElem_mem hth);have hloc:=hco.2.1;unfold Yn at hloc
 obtain ⟨nl,hnl⟩: ∃ nl:Nat,m.threads[th.toNat].locals=(nl:Int):=⟨m.threads[th.toNat].locals.toNat,by omega⟩
 refine Y6 hq.t (by rw [hlen];omega) (fun b1 o1 e1=> ?_)
 have hs1:=hq.t;rw [e1] at hs1
 refine XO.know 12 (.slice (some ⟨b1,o1,none⟩) m.threads.length m.tc) rfl (by rw [e1]) ?_
 refine oo 2 ?_;refine ld ?_ (hc:=(Wk (j:=th) hs1 leA (fun _=>rfl) hth (by omega) 1 _ rfl))
 refine XO.know 16 (.int .i64 (nl:Int)) rfl (congrArg (Value.int .i64) hnl) ?_;refine XO.ef (Q7 (n:=nl) rfl rfl underlying22 Tryz.info2 rfl rfl (by omega) (by omega)) ?_
 rintro _ _ ⟨g3,rfl,rfl⟩
 refine XO.le (q':=lsH I64 2 (some ⟨g3,0,none⟩) nl (List.replicate nl 0)::_) (Le.trans Zj (by rw [←Jl (f:=I64) (u:=0) rfl];exact Le.refl _)) ?_
 refine oo 1 ?_;refine stA ?_;refine ox 2 ?_;refine Zq (lsH I64 2 (some ⟨g3,0,none⟩) nl (List.replicate nl 0)::q) func23 (Hd results23) ⟨_,rfl,.inl ⟨⟨h1.1,h1.2.1,hth⟩,some ⟨g3,0,none⟩,nl,by rw [hnl];simp [Nb];rfl,by rw [hnl];rfl⟩⟩
set_option maxHeartbeats 1000000 in
theorem Lu (hq:MdlQ q m)(hk:V0 m=0):CallF prog G 47 [.pointer (some ⟨p,0,none⟩)] (pto p (.cells (Wo m).toArray 26 (0,0))::q) (Ret fun v q'=>v= .int .i64 (Kt m)∧q'=pto p (.cells (Wo m).toArray 26 (0,0))::q):=by
 refine CallF.of func47 ntmps47 rfl (fun F cs=> ?_)
 have hmo:=Ut hk;have hv1:=hmo.2.2.1.1;have ha1:=hmo.2.2.2.1
 refine xl 9 ?_;refine ol 9 ?_;refine ox 4 ?_;refine X.know 3 (.int .i64 ((m.vars.length:Int)+Vs (m.arrays.take 0))) rfl (congrArg (Value.int .i64) (by simp [Vs])) ?_
 refine X.at (X.loop (fun (s:Nat)=>s≤m.arrays.length) (fun s=> [(16,.int .i64 (s:Int)),(15,.int .i64 (m.arrays.length:Int)),(14,.slice m.aa m.arrays.length m.ac),(3,.int .i64 ((m.vars.length:Int)+Vs (m.arrays.take s))),(2,.int .i64 0)]) (fun s=>pto p (.cells (Wo m).toArray 26 (0,0))::(q++F)) (fun s=>m.arrays.length - s) (fun s hi_ ih=> ?_) 0 (Nat.zero_le _)) Zp leA
 try dsimp only at hi_ ih⊢
 obtain hs0:=hi_
 refine xx 5 ?_;refine X.part 17 rfl (fun h0=> ?_) (fun h0=> ?_)
 · replace h0:=sp h0
   have hk1:s<m.arrays.length:=by omega
   have hsu:=Wf hmo s;have hx:=ha1.2 _ (List.getElem_mem hk1);unfold Yn at hx
   refine xo 6 ?_;refine Y6 hq.a (by simp;omega) (fun b1 o1 e1=> ?_)
   have hs1:=hq.a;rw [e1] at hs1
   refine XO.know 14 (.slice (some ⟨b1,o1,none⟩) m.arrays.length m.ac) rfl (by rw [e1]) ?_
   refine oo 1 ?_;refine ld ?_ (hc:=(Cl.e1 hs1 leA hk1 rfl))
   refine ox 13 ?_;refine X.know 3 (.int .i64 ((m.vars.length:Int)+Vs (m.arrays.take (s+1)))) rfl (congrArg (Value.int .i64) (by rw [R6 hk1];omega)) ?_
   refine X.know 14 (.slice m.aa m.arrays.length m.ac) rfl (by rw [e1]) ?_
   refine X.at (ih (s+1) (by omega) (by omega)) Zp leA
 replace h0:=sp h0
 refine xx 7 ?_;refine Zq (pto p (.cells (Wo m).toArray 26 (0,0))::q) func47 (Zu results47 rfl) ⟨_,rfl,by unfold Kt;rw [List.take_of_length_le (by omega)],rfl⟩
set_option maxHeartbeats 1000000 in
theorem Cells_ok (gc:GC q)(g:GE q)(hq:MdlQ q m):CallF prog G 22 [.agg (Wo m).toArray] (q) (Ret fun v q'=>(V0 m=0∧ ∃ a' c',v= .tuple [.slice a' (Kt m).toNat c',.int .i64 0].toArray∧q'=lsH I64 2 a' c' (m.vars++List.replicate (Vs m.arrays).toNat 0)::q)∨(V0 m≠0∧v= .tuple [.slice none 0 0,.int .i64 2].toArray∧q'=q)):=by
 refine CallF.of func22 ntmps22 rfl (fun F cs=> ?_)
 refine xo 2 ?_;refine Zl fun n1=> ?_
 refine oo 6 ?_;refine ldA ?_;refine XO.cR call28 (Br (gc.le leA) (g.le leA) (hq.le leA)) ?_;refine ox 7 ?_;refine X.part 9 rfl (fun h1=> ?_) (fun h1=> ?_)
 · replace h1:=sp h1
   refine xx 6 ?_;refine Zq (q) func22 (Qt results22 rfl rfl) ⟨_,rfl,.inr ⟨by omega,rfl,rfl⟩⟩
 replace h1:=sp h1
 refine xo 4 ?_
 have hk:V0 m=0:=by omega
 have hmo:=Ut hk;have hv1:=hmo.2.2.1.1;have hsu:=Wf hmo m.arrays.length;rw [List.take_length] at hsu
 obtain ⟨N,hN⟩: ∃ N:Nat,Vs m.arrays=(N:Int):=⟨(Vs m.arrays).toNat,by omega⟩
 refine Zh call47 Zj (Lu (hq.le leA) hk) ?_;rintro _ _ ⟨rfl,rfl⟩
 refine XO.know 10 (.int .i64 ((m.vars.length+N:Nat):Int)) rfl (congrArg (Value.int .i64) (by unfold Kt;omega)) ?_
 refine XO.ef (Q7 (n:=m.vars.length+N) rfl rfl underlying22 Tryz.info2 rfl rfl (by omega) (by omega)) ?_
 rintro _ _ ⟨g3,rfl,rfl⟩
 refine XO.le (q':=lsH I64 2 (some ⟨g3,0,none⟩) (m.vars.length+N) (List.replicate (m.vars.length+N) 0)::_) (Le.trans Zj (by rw [←Jl (f:=I64) (u:=0) rfl];exact Le.refl _)) ?_
 refine ol 6 ?_;refine XO.know 12 (.slice (some ⟨g3,0,none⟩) (List.replicate (m.vars.length+N) (0:Int)).length (m.vars.length+N)) rfl (by rw [List.length_replicate]) ?_
 refine XO.ef (Ef.copyL (f:=I64) (l:=List.replicate (m.vars.length+N) 0) (m:=m.vars) underlying22 Tryz.info2 rfl rfl Zj (hq.v.le leA) (fun _=>rfl) (by rw [List.length_replicate];omega)) ?_
 rintro _ _ ⟨rfl,rfl⟩
 rw [List.drop_replicate,Nat.add_sub_cancel_left]
 refine ox 7 ?_;refine Zq (lsH I64 2 (some ⟨g3,0,none⟩) (m.vars.length+N) (m.vars++List.replicate N 0)::q) func22 (Qt results22 rfl rfl) ⟨_,rfl,.inl ⟨hk,some ⟨g3,0,none⟩,m.vars.length+N,by rw [show (Kt m).toNat=m.vars.length+N by unfold Kt;omega],by rw [hN];rfl⟩⟩
set_option maxHeartbeats 1000000 in
theorem VNext_ok (gc:GC q)(g:GE q)(hq:MdlQ q m)(hf:FrmQ q f):CallF prog G 38 [.agg (Wo m).toArray,.agg (Nb f).toArray] (q) (Ret fun v q'=>(∃ h:Ji m f 0,v= .tuple [.agg (Zx ((m.threads[f.code.toNat]'h.2.2.1).ins.getD f.pc.toNat Gk)).toArray,.int .i64 0].toArray∧q'=q)∨(¬Ji m f 0∧v= .tuple [.agg (Zx Gk).toArray,.int .i64 2].toArray∧q'=q)):=by
 refine CallF.of func38 ntmps38 rfl (fun F cs=> ?_)
 have hlen:=Zb (f:=Y2) (sz:=4) (fun _=>rfl) m.threads;have hnt:=hq.nt
 refine xo 2 ?_;refine Zl fun n1=> ?_
 refine Zl fun n2=> ?_
 refine Zm zeroValue48 fun n3=> ?_
 refine oo 5 ?_;refine ldA ?_;refine ldA ?_;refine Zh call27 (Le.refl _) (Oj (gc.le leA) (g.le leA) (hq.le leA) (hf.le leA)) ?_;rintro _ _ ⟨⟨bb,rfl,hbb⟩,rfl⟩
 refine Zc (Pu.not rfl) ?_;refine ox 1 ?_;refine X.part 9 rfl (fun h1=> ?_) (fun h1=> ?_)
 · replace h1:=sp h1
   refine xo 4 ?_;refine stA ?_;refine ox 2 ?_;refine Zq (q) func38 (Hd results38) ⟨_,rfl,.inr ⟨fun k=>by have:=hbb.2 k;simp [this] at h1,rfl,rfl⟩⟩
 replace h1:=sp h1
 refine xx 3 ?_;refine drw ?_;refine dl [0] 1 ?_;refine dl [2] 3 ?_
 have hm:=hbb.1 (by simpa using h1);obtain ⟨hm1,hm2,hth,hm3,hm4,hm5⟩:=hm
 have hpc:f.pc.toNat<m.threads[f.code.toNat].ins.length:=by omega
 have hql:=hq.x _ (List.getElem_mem hth);have hni:=hql.ni;have hsi:=hql.i;have hlen2:=Zb (f:=Zx) (sz:=4) (fun _=>rfl) m.threads[f.code.toNat].ins
 refine Wp hq.t (by rw [hlen];omega) (fun b1 o1 e1=> ?_)
 have hs1:=hq.t;rw [e1] at hs1
 refine XD.know 12 (.slice (some ⟨b1,o1,none⟩) m.threads.length m.tc) rfl (by rw [e1]) ?_
 refine dd [4,5] ?_;refine ldD 6 ?_ (hc:=(Wk (j:=f.code) hs1 leA (fun _=>rfl) hth (by omega) 2 _ rfl))
 refine dl [7] 8 ?_;refine Wp hsi (by rw [hlen2];omega) (fun b2 o2 e2=> ?_)
 have hs2:=hsi;rw [e2] at hs2
 refine XD.know 17 (.slice (some ⟨b2,o2,none⟩) m.threads[f.code.toNat].ins.length m.threads[f.code.toNat].ic) rfl (by rw [e2]) ?_
 refine dd [9] ?_;refine V9 10 (m:=f.pc.toNat) isAgg48 sizeOf48 hs2 hpc ?_
 refine Yr 11 ?_;refine dd [12] ?_;refine XD.nil ?_;refine Zq (q) func38 (Hd results38) ⟨_,rfl,.inl ⟨⟨hm1,hm2,hth,hm3,hm4,hm5⟩,by rw [Wv hpc];rfl,rfl⟩⟩
end
def U5 (k:Int):PanicEntry:= { v:= .iface 155 (.agg [.int .i64 k].toArray),recovered:=false }
def mkS (c a b:Int):Int×Int:=if c=8 then (if val (-b) then (-b,0) else (0,2)) else if c=9 then (Qj (decide (b=0)),0) else if c=22 then (Qj (decide (b≠0)),0) else Yp (c - 7) a b
section
variable {G:World}{q pre:List HP}{a b A:Option Addr}{c d C p p0 p1 p2 i:Nat}{lo hi n cd dep:Int}{fv:Value}{x y:Ins}{t:Cod}{m:Mdl}{at_:Int}
variable {l cells:List Int}{idx arr z k u:Int}{x1 x2 x3 x4 x5 x6:Value}{pm:Nat}{bb:Bool}
theorem Qx (h0:0<l.length):CallF prog G 78 [.pointer (some ⟨p,0,none⟩)] ([pto p (.cells [.slice a (l).length c,x1,x2,x3,x4,x5,x6].toArray 122 (0,0)),lsH I64 2 a c (l)]) (Ret fun v q'=>v= .int .i64 (l.getD (l.length - 1) 0)∧q'= [pto p (.cells [.slice a (l.take (l.length - 1)).length c,x1,x2,x3,x4,x5,x6].toArray 122 (0,0)),lsH I64 2 a c (l.take (l.length - 1))]):=by
 refine CallF.of func78 ntmps78 rfl (fun F cs=> ?_)
 refine Je (l:=l) h0 (fun g e_=> ?_);subst e_
 refine Xe (l:=l) (fun hcap=> ?_)
 refine X.lsmax (l:=l) (fun hmx=> ?_)
 refine xx 5 ?_;refine drw ?_;refine dl [0,1,2] 3 ?_;refine dl [4,5,6] 7 ?_;refine dd [8,9,10] ?_;refine ldD 11 ?_ (hc:=(A9 (Sees.lsH _) Zj h0))
 refine dd [12] ?_;refine XD.nil ?_;refine xx 1 ?_;refine drw ?_;refine dl [0,1,2,3] 4 ?_;refine dl [5,6,7] 8 ?_;refine dd [9,10,11,12,13] ?_;refine XD.know 27 (.slice (some ⟨g,0,none⟩) (l.take (l.length - 1)).length c) rfl (by rw [List.length_take];congr 1;omega) ?_
 refine stD 14 ?_;refine XD.nil ?_;refine xx 5 ?_;refine Zq [pto p (.cells [.slice (some ⟨g,0,none⟩) (l.take (l.length - 1)).length c,x1,x2,x3,x4,x5,x6].toArray 122 (0,0)),lsH I64 2 (some ⟨g,0,none⟩) c (l.take (l.length - 1))] func78 (Zu results78 rfl) ⟨_,rfl,by rw [Wv (by omega)],rfl⟩ (Le.pick Zj ((leA).trans (Nc _ _ _ _ _ _ _)))
theorem Ka (hL:l.length≤1000000):CallF prog G 79 [.pointer (some ⟨p,0,none⟩),.int .i64 z] ([pto p (.cells [.slice a (l).length c,x1,x2,x3,x4,x5,x6].toArray 122 (0,0)),lsH I64 2 a c (l)]) (Ret fun v q'=> ∃ a' c',q'= [pto p (.cells [.slice a' (l++ [z]).length c',x1,x2,x3,x4,x5,x6].toArray 122 (0,0)),lsH I64 2 a' c' (l++ [z])]):=by
 refine CallF.of func79 ntmps79 rfl (fun F cs=> ?_)
 refine xl 5 ?_;refine oo 1 ?_;refine XO.ef (Yh I64 [z] underlying22 Tryz.info2 rfl rfl rfl rfl rfl rfl (fun _=>rfl)) ?_
 rintro _ _ ⟨g1,rfl,rfl⟩
 refine XO.ef (Ye (l:=l) (m:= [z]) underlying22 Tryz.info2 rfl rfl rfl Zj ((Sees.lsH _).le Zj) (fun _=>rfl) (by simp;omega) (by simp;omega)) ?_
 rintro _ _ ⟨a1,c1,rfl,rfl⟩
 refine oo 2 ?_;refine st ?_;refine ox 1 ?_;refine Yo [pto p (.cells [.slice a1 (l++ [z]).length c1,x1,x2,x3,x4,x5,x6].toArray 122 (0,0)),lsH I64 2 a1 c1 (l++ [z])] func79 (V4 results79) ⟨_,rfl,a1,c1,rfl⟩
theorem Aq:CallF prog G 164 [.int .i64 k] (q) (RP (fun _ _=>False) (fun ch q'=>ch= [U5 k]∧q'=q)):=by
 refine CallF.of func164 ntmps164 rfl (fun F cs=> ?_)
 refine xo 4 ?_;exact XO.pn (Pn.panic rfl) (FQ.panic func164 (RP.thr ⟨rfl,rfl⟩))
theorem Hf:CallF prog G 113 [.int .i64 z] (q) (RP (fun v q'=>val z∧v= .int .i64 z∧q'=q) (fun ch q'=> ¬val z∧ch= [U5 2]∧q'=q)):=by
 refine CallF.of func113 ntmps113 rfl (fun F cs=> ?_)
 refine xo 10 ?_;refine Zg [5,2,0] ?_
 apply Zw 3 8 5 rfl
 · intro g1 M1;have h1:=sp g1
   refine oo 3 ?_;exact Zz M1 ⟨orF g1,Zv⟩
 · intro g1 M1;have h1:=sp g1
   refine oo 3 ?_;exact Zz M1 ⟨orT g1,Zv⟩
 refine ox 1 ?_;refine X.part 8 rfl (fun h1=> ?_) (fun h1=> ?_)
 · replace h1:=sp h1
   refine xo 2 ?_;refine Ky call164 (Le.refl _) (Aq) ?_ ?_
   · rintro _ _ ⟨rfl,rfl⟩
     exact FQ.panic func113 (RP.thr ⟨(by unfold val;omega),rfl,rfl⟩)
   rintro _ _ ⟨⟩
 replace h1:=sp h1
 refine xx 7 ?_;refine Zq (q) func113 (Zu results113 rfl) (RP.ret ⟨(by unfold val;omega),rfl,rfl⟩)
theorem Fd:CallF prog G 125 [.int .i64 z] (q) (RP (fun v q'=>z≠0∧v= .int .i64 z∧q'=q) (fun ch q'=>z=0∧ch= [U5 1]∧q'=q)):=by
 refine CallF.of func125 ntmps125 rfl (fun F cs=> ?_)
 refine xx 10 ?_;refine X.part 4 rfl (fun h1=> ?_) (fun h1=> ?_)
 · replace h1:=sp h1
   refine xo 2 ?_;refine Ky call164 (Le.refl _) (Aq) ?_ ?_
   · rintro _ _ ⟨rfl,rfl⟩
     exact FQ.panic func125 (RP.thr ⟨(by omega),rfl,rfl⟩)
   rintro _ _ ⟨⟩
 replace h1:=sp h1
 refine xx 7 ?_;refine Zq (q) func125 (Zu results125 rfl) (RP.ret ⟨(by omega),rfl,rfl⟩)
theorem Hh:CallF prog G 115 [.bool bb] (q) (Ret fun v q'=>v= .int .i64 (Qj bb)∧q'=q):=by
 refine CallF.of func115 ntmps115 rfl (fun F cs=> ?_)
 refine xx 9 ?_;refine X.part 3 rfl (fun h0=> ?_) (fun h0=> ?_)
 · refine xx 5 ?_;refine Zq (q) func115 (Zu results115 rfl) ⟨_,rfl,by rw [show bb=true by simpa using h0];rfl,rfl⟩
 refine xx 6 ?_;refine Zq (q) func115 (Zu results115 rfl) ⟨_,rfl,by rw [show bb=false by simpa using h0];rfl,rfl⟩
theorem Or {a b:Int}(ha:val a)(hb:val b): -4611686018427387904≤a*b∧a*b≤4611686018427387904:=by
 unfold val at ha hb
 have h1:a*b≤a.natAbs*b.natAbs:=by rw [←Int.natCast_mul,←Int.natAbs_mul];omega
 have h2: -(a.natAbs*b.natAbs:Int)≤a*b:=by rw [←Int.natCast_mul,←Int.natAbs_mul];omega
 have h3:(a.natAbs:Int)*b.natAbs≤2147483648*2147483648:=by
  rw [←Int.natCast_mul]
  have:a.natAbs*b.natAbs≤2147483648*2147483648:=Nat.mul_le_mul (by omega) (by omega)
  omega
 omega
theorem Ol {a b:Int}(ha:val a): -2147483648≤a.tdiv b∧a.tdiv b≤2147483648:=by
 unfold val at ha
 have h:=Int.natAbs_tdiv_le_natAbs a b
 omega
theorem Oi {a b:Int}(ha:val a): -2147483648≤a.tmod b∧a.tmod b≤2147483648:=by
 unfold val at ha
 have h:(a.tmod b).natAbs≤a.natAbs:=by rw [Int.natAbs_tmod];exact Nat.mod_le _ _
 omega
theorem maker8 (hu:val u)(hz:val z):CallF prog G 112 [.int .i64 u,.int .i64 z] (q) (RP (fun v q'=>(mkS 8 u z).2=0∧v= .int .i64 (mkS 8 u z).1∧q'=q) (fun ch q'=>(mkS 8 u z).2≠0∧ch= [U5 (mkS 8 u z).2]∧q'=q)):=by
 refine CallF.of func112 ntmps112 rfl (fun F cs=> ?_)
 have hu2:=hu;have hz2:=hz;unfold val at hu2 hz2
 refine xo 7 ?_;refine Zc (X3 rfl) ?_;refine XO.know 6 (.int .i64 (-z)) rfl (congrArg (Value.int .i64) ((Uz (by omega) (by omega)).trans (by omega):IntKind.i64.wrap (0 - z)= -z)) ?_
 refine Ky call113 (Le.refl _) (Hf (z:=(-z)) (q:=q++F)) ?_ ?_
 · rintro _ _ ⟨h0,rfl,rfl⟩
   exact FQ.panic func112 (RP.thr ⟨by simp [mkS,Yp,h0],by simp [mkS,Yp,h0],rfl⟩)
 rintro _ _ ⟨hv,rfl,rfl⟩
 refine ox 2 ?_;refine Zq (q) func112 (Zu results112 rfl) (RP.ret ⟨by simp [mkS,Yp,hv],by simp [mkS,Yp,hv],rfl⟩)
theorem maker9 (hu:val u)(hz:val z):CallF prog G 114 [.int .i64 u,.int .i64 z] (q) (RP (fun v q'=>(mkS 9 u z).2=0∧v= .int .i64 (mkS 9 u z).1∧q'=q) (fun ch q'=>(mkS 9 u z).2≠0∧ch= [U5 (mkS 9 u z).2]∧q'=q)):=by
 refine CallF.of func114 ntmps114 rfl (fun F cs=> ?_)
 have hu2:=hu;have hz2:=hz;unfold val at hu2 hz2
 refine xo 8 ?_;refine XO.cR call115 (Hh) ?_;refine ox 2 ?_;refine Zq (q) func114 (Zu results114 rfl) (RP.ret ⟨by simp [mkS,Yp],by simp [mkS,Yp]<;>first|rfl|(congr 1;rw [Bool.eq_iff_iff];simp),rfl⟩)
theorem maker22 (hu:val u)(hz:val z):CallF prog G 116 [.int .i64 u,.int .i64 z] (q) (RP (fun v q'=>(mkS 22 u z).2=0∧v= .int .i64 (mkS 22 u z).1∧q'=q) (fun ch q'=>(mkS 22 u z).2≠0∧ch= [U5 (mkS 22 u z).2]∧q'=q)):=by
 refine CallF.of func116 ntmps116 rfl (fun F cs=> ?_)
 have hu2:=hu;have hz2:=hz;unfold val at hu2 hz2
 refine xo 8 ?_;refine XO.cR call115 (Hh) ?_;refine ox 2 ?_;refine Zq (q) func116 (Zu results116 rfl) (RP.ret ⟨by simp [mkS,Yp],by simp [mkS,Yp]<;>first|rfl|(congr 1;rw [Bool.eq_iff_iff];simp),rfl⟩)
theorem maker10 (hu:val u)(hz:val z):CallF prog G 117 [.int .i64 u,.int .i64 z] (q) (RP (fun v q'=>(mkS 10 u z).2=0∧v= .int .i64 (mkS 10 u z).1∧q'=q) (fun ch q'=>(mkS 10 u z).2≠0∧ch= [U5 (mkS 10 u z).2]∧q'=q)):=by
 refine CallF.of func117 ntmps117 rfl (fun F cs=> ?_)
 have hu2:=hu;have hz2:=hz;unfold val at hu2 hz2
 refine xo 9 ?_;refine XO.cR call115 (Hh) ?_;refine ox 2 ?_;refine Zq (q) func117 (Zu results117 rfl) (RP.ret ⟨by simp [mkS,Yp],by simp [mkS,Yp]<;>first|rfl|(congr 1;rw [Bool.eq_iff_iff];simp),rfl⟩)
theorem maker11 (hu:val u)(hz:val z):CallF prog G 118 [.int .i64 u,.int .i64 z] (q) (RP (fun v q'=>(mkS 11 u z).2=0∧v= .int .i64 (mkS 11 u z).1∧q'=q) (fun ch q'=>(mkS 11 u z).2≠0∧ch= [U5 (mkS 11 u z).2]∧q'=q)):=by
 refine CallF.of func118 ntmps118 rfl (fun F cs=> ?_)
 have hu2:=hu;have hz2:=hz;unfold val at hu2 hz2
 refine xo 9 ?_;refine XO.cR call115 (Hh) ?_;refine ox 2 ?_;refine Zq (q) func118 (Zu results118 rfl) (RP.ret ⟨by simp [mkS,Yp],by simp [mkS,Yp]<;>first|rfl|(congr 1;rw [Bool.eq_iff_iff];simp),rfl⟩)
theorem maker12 (hu:val u)(hz:val z):CallF prog G 119 [.int .i64 u,.int .i64 z] (q) (RP (fun v q'=>(mkS 12 u z).2=0∧v= .int .i64 (mkS 12 u z).1∧q'=q) (fun ch q'=>(mkS 12 u z).2≠0∧ch= [U5 (mkS 12 u z).2]∧q'=q)):=by
 refine CallF.of func119 ntmps119 rfl (fun F cs=> ?_)
 have hu2:=hu;have hz2:=hz;unfold val at hu2 hz2
 refine xo 9 ?_;refine XO.cR call115 (Hh) ?_;refine ox 2 ?_;refine Zq (q) func119 (Zu results119 rfl) (RP.ret ⟨by simp [mkS,Yp],by simp [mkS,Yp]<;>first|rfl|(congr 1;rw [Bool.eq_iff_iff];simp),rfl⟩)
theorem maker13 (hu:val u)(hz:val z):CallF prog G 120 [.int .i64 u,.int .i64 z] (q) (RP (fun v q'=>(mkS 13 u z).2=0∧v= .int .i64 (mkS 13 u z).1∧q'=q) (fun ch q'=>(mkS 13 u z).2≠0∧ch= [U5 (mkS 13 u z).2]∧q'=q)):=by
 refine CallF.of func120 ntmps120 rfl (fun F cs=> ?_)
 have hu2:=hu;have hz2:=hz;unfold val at hu2 hz2
 refine xo 9 ?_;refine XO.cR call115 (Hh) ?_;refine ox 2 ?_;refine Zq (q) func120 (Zu results120 rfl) (RP.ret ⟨by simp [mkS,Yp],by simp [mkS,Yp]<;>first|rfl|(congr 1;rw [Bool.eq_iff_iff];simp),rfl⟩)
theorem maker14 (hu:val u)(hz:val z):CallF prog G 121 [.int .i64 u,.int .i64 z] (q) (RP (fun v q'=>(mkS 14 u z).2=0∧v= .int .i64 (mkS 14 u z).1∧q'=q) (fun ch q'=>(mkS 14 u z).2≠0∧ch= [U5 (mkS 14 u z).2]∧q'=q)):=by
 refine CallF.of func121 ntmps121 rfl (fun F cs=> ?_)
 have hu2:=hu;have hz2:=hz;unfold val at hu2 hz2
 refine xo 9 ?_;refine Ky call113 (Le.refl _) (Hf (z:=(u+z)) (q:=q++F)) ?_ ?_
 · rintro _ _ ⟨h0,rfl,rfl⟩
   exact FQ.panic func121 (RP.thr ⟨by simp [mkS,Yp,h0],by simp [mkS,Yp,h0],rfl⟩)
 rintro _ _ ⟨hv,rfl,rfl⟩
 refine ox 2 ?_;refine Zq (q) func121 (Zu results121 rfl) (RP.ret ⟨by simp [mkS,Yp,hv],by simp [mkS,Yp,hv],rfl⟩)
theorem maker15 (hu:val u)(hz:val z):CallF prog G 122 [.int .i64 u,.int .i64 z] (q) (RP (fun v q'=>(mkS 15 u z).2=0∧v= .int .i64 (mkS 15 u z).1∧q'=q) (fun ch q'=>(mkS 15 u z).2≠0∧ch= [U5 (mkS 15 u z).2]∧q'=q)):=by
 refine CallF.of func122 ntmps122 rfl (fun F cs=> ?_)
 have hu2:=hu;have hz2:=hz;unfold val at hu2 hz2
 refine xo 9 ?_;refine Ky call113 (Le.refl _) (Hf (z:=(u - z)) (q:=q++F)) ?_ ?_
 · rintro _ _ ⟨h0,rfl,rfl⟩
   exact FQ.panic func122 (RP.thr ⟨by simp [mkS,Yp,h0],by simp [mkS,Yp,h0],rfl⟩)
 rintro _ _ ⟨hv,rfl,rfl⟩
 refine ox 2 ?_;refine Zq (q) func122 (Zu results122 rfl) (RP.ret ⟨by simp [mkS,Yp,hv],by simp [mkS,Yp,hv],rfl⟩)
theorem maker16 (hu:val u)(hz:val z):CallF prog G 123 [.int .i64 u,.int .i64 z] (q) (RP (fun v q'=>(mkS 16 u z).2=0∧v= .int .i64 (mkS 16 u z).1∧q'=q) (fun ch q'=>(mkS 16 u z).2≠0∧ch= [U5 (mkS 16 u z).2]∧q'=q)):=by
 refine CallF.of func123 ntmps123 rfl (fun F cs=> ?_)
 have hu2:=hu;have hz2:=hz;unfold val at hu2 hz2
 have hm:=Or hu hz
 refine xo 8 ?_;refine Zc (Pu.mul rfl rfl (by omega) (by omega)) ?_
 refine Ky call113 (Le.refl _) (Hf (z:=(u*z)) (q:=q++F)) ?_ ?_
 · rintro _ _ ⟨h0,rfl,rfl⟩
   exact FQ.panic func123 (RP.thr ⟨by simp [mkS,Yp,h0],by simp [mkS,Yp,h0],rfl⟩)
 rintro _ _ ⟨hv,rfl,rfl⟩
 refine ox 2 ?_;refine Zq (q) func123 (Zu results123 rfl) (RP.ret ⟨by simp [mkS,Yp,hv],by simp [mkS,Yp,hv],rfl⟩)
theorem maker17 (hu:val u)(hz:val z):CallF prog G 124 [.int .i64 u,.int .i64 z] (q) (RP (fun v q'=>(mkS 17 u z).2=0∧v= .int .i64 (mkS 17 u z).1∧q'=q) (fun ch q'=>(mkS 17 u z).2≠0∧ch= [U5 (mkS 17 u z).2]∧q'=q)):=by
 refine CallF.of func124 ntmps124 rfl (fun F cs=> ?_)
 have hu2:=hu;have hz2:=hz;unfold val at hu2 hz2
 have hm:=Ol (b:=z) hu
 refine xo 8 ?_;refine Ky call125 (Le.refl _) (Fd (q:=q++F)) ?_ ?_
 · rintro _ _ ⟨h0,rfl,rfl⟩
   exact FQ.panic func124 (RP.thr ⟨by simp [mkS,Yp,h0],by simp [mkS,Yp,h0],rfl⟩)
 rintro _ _ ⟨hd,rfl,rfl⟩
 refine Zc (Ad rfl rfl (by omega)) ?_
 refine XO.know 8 (.int .i64 (u.tdiv z)) rfl (congrArg (Value.int .i64) (show IntKind.i64.wrap (u.tdiv z)=u.tdiv z from Uz (by omega) (by omega))) ?_
 refine Ky call113 (Le.refl _) (Hf (z:=(u.tdiv z)) (q:=q++F)) ?_ ?_
 · rintro _ _ ⟨h0,rfl,rfl⟩
   exact FQ.panic func124 (RP.thr ⟨by simp [mkS,Yp,h0,hd],by simp [mkS,Yp,h0,hd],rfl⟩)
 rintro _ _ ⟨hv,rfl,rfl⟩
 refine ox 2 ?_;refine Zq (q) func124 (Zu results124 rfl) (RP.ret ⟨by simp [mkS,Yp,hv,hd],by simp [mkS,Yp,hv,hd],rfl⟩)
theorem maker18 (hu:val u)(hz:val z):CallF prog G 126 [.int .i64 u,.int .i64 z] (q) (RP (fun v q'=>(mkS 18 u z).2=0∧v= .int .i64 (mkS 18 u z).1∧q'=q) (fun ch q'=>(mkS 18 u z).2≠0∧ch= [U5 (mkS 18 u z).2]∧q'=q)):=by
 refine CallF.of func126 ntmps126 rfl (fun F cs=> ?_)
 have hu2:=hu;have hz2:=hz;unfold val at hu2 hz2
 have hm:=Oi (b:=z) hu
 refine xo 8 ?_;refine Ky call125 (Le.refl _) (Fd (q:=q++F)) ?_ ?_
 · rintro _ _ ⟨h0,rfl,rfl⟩
   exact FQ.panic func126 (RP.thr ⟨by simp [mkS,Yp,h0],by simp [mkS,Yp,h0],rfl⟩)
 rintro _ _ ⟨hd,rfl,rfl⟩
 refine Zc (Pu.rem rfl rfl (by omega)) ?_
 refine Ky call113 (Le.refl _) (Hf (z:=(u.tmod z)) (q:=q++F)) ?_ ?_
 · rintro _ _ ⟨h0,rfl,rfl⟩
   exact FQ.panic func126 (RP.thr ⟨by simp [mkS,Yp,h0,hd],by simp [mkS,Yp,h0,hd],rfl⟩)
 rintro _ _ ⟨hv,rfl,rfl⟩
 refine ox 2 ?_;refine Zq (q) func126 (Zu results126 rfl) (RP.ret ⟨by simp [mkS,Yp,hv,hd],by simp [mkS,Yp,hv,hd],rfl⟩)
end
abbrev Dc (c:Int):Prop:=c=8∨c=9∨c=22∨(10≤c∧c≤18)
abbrev Z9 (l:List Int):Int:=l.getD (l.length - 1) 0
abbrev Vr (l:List Int):Int:=l.getD (l.length - 2) 0
abbrev Rf (c:Int):Prop:=c=8∨c=9∨c=22
def T4 (m:Mdl)(x:Ins)(l cells:List Int):Option ((Int×Bool×Int)×List Int):=
 if x.c=2 then some ((x.a,false,cells.getD x.a.toNat 0),l++ [cells.getD x.a.toNat 0])
 else if x.c=5 then some ((x.a,true,Z9 l),l.take (l.length - 1))
 else if x.c=4 then if Vt m x.a (Z9 l)<0 then none else some ((Vt m x.a (Z9 l),false,cells.getD (Vt m x.a (Z9 l)).toNat 0),l.take (l.length - 1)++ [cells.getD (Vt m x.a (Z9 l)).toNat 0])
 else if Vt m x.a (Vr l)<0 then none else some ((Vt m x.a (Vr l),true,Z9 l),l.take (l.length - 2))
def Yz (x:Ins)(pc:Int)(loc l:List Int):Int×List Int×List Int:=
 if x.c=1 then (pc,loc,l++ [x.n])
 else if x.c=3 then (pc,loc,l++ [loc.getD x.a.toNat 0])
 else if x.c=6 then (pc,loc.set x.a.toNat (Z9 l),l.take (l.length - 1))
 else if x.c=19 then (x.a,loc,l)
 else if x.c=20 then (if Z9 l=0 then x.a else pc,loc,l.take (l.length - 1))
 else if x.c=21 then (if Z9 l≠0 then x.a else pc,loc,l.take (l.length - 1))
 else (pc,loc,l)
def doS (m:Mdl)(x:Ins)(pc:Int)(loc l cells:List Int):(Int×List Int×List Int)×Did:=
 if x.c=34 then ((pc,loc,l),Jo 4 0)
 else if Dc x.c then
  let a:=if Rf x.c then 0 else Vr l
  let k:=if Rf x.c then 1 else 2
  if (mkS x.c a (Z9 l)).2≠0 then ((pc,loc,l),Uf (mkS x.c a (Z9 l)).2) else ((pc+1,loc,l.take (l.length - k)++ [(mkS x.c a (Z9 l)).1]),Y5)
 else if x.c=2∨x.c=5∨x.c=4∨x.c=7 then match T4 m x l cells with
  |none=>((pc,loc,l),Uf 3)
  |some (y,l')=>((pc+1,loc,l'),Kw y.1 y.2.1 y.2.2)
 else if x.c=23 then ((pc+1,loc,l),Jo 3 x.a)
 else if x.c=33 then ((pc+1,loc,l.take (l.length - 1)),Jo 6 (Z9 l))
 else if x.c=29 then ((pc+1,loc,l.take (l.length - 1)),V2 x (Z9 l))
 else if 24≤x.c∧x.c≤32 then ((pc+1,loc,l),V2 x 0)
 else (Yz x (pc+1) loc l,Y5)
theorem M0 {l:List Int}:(l.take (l.length - 1)).take ((l.take (l.length - 1)).length - 1)=l.take (l.length - 2):=by
 rw [List.take_take,List.length_take];congr 1;omega
theorem Ny {l:List Int}(h:2≤l.length):Z9 (l.take (l.length - 1))=Vr l:=by
 unfold Z9 Vr
 rw [List.length_take,show min (l.length - 1) l.length - 1=l.length - 2 by omega]
 simp only [List.getD_eq_getElem?_getD,List.getElem?_take]
 rw [if_pos (by omega)]
theorem Vx {l:List Int}(h:Uj l)(n:Nat):val (l.getD n 0):=by
 rcases Nat.lt_or_ge n l.length with e|e
 · rw [Wv e];exact h _ (List.getElem_mem e)
 rw [List.getD_eq_getElem?_getD,List.getElem?_eq_none e];unfold val;simp
structure StepQ (m:Mdl) (x:Ins) (loc l cells:List Int):Prop where
 ok:Nw m
 ins:Jk x
 dep:(Z5 x.c).1≤l.length
 var:x.c=2∨x.c=5→0≤x.a∧x.a<m.vars.length
 arr:x.c=4∨x.c=7→0≤x.a∧x.a<m.arrays.length
 loc:x.c=3∨x.c=6→0≤x.a∧x.a<loc.length
 vl:Uj l
 len:l.length≤1000
 cel:(cells.length:Int)=Kt m
theorem S3 (l:List Int)(n:Nat):Vs l=Vs (l.take n)+Vs (l.drop n):=by
 conv=>lhs;rw [←List.take_append_drop n l]
 generalize l.take n=r
 unfold Vs
 induction r with
 |nil=>simp
 |cons x r ih=>simp only [List.cons_append,List.foldr_cons];omega
theorem Bd {m:Mdl}(h:Nw m){a i:Int}(ha:0≤a∧a<m.arrays.length): -1≤Vt m a i∧Vt m a i<Kt m:=by
 have hx:=h.2.2.2.1.2
 have h1:=Wf h a.toNat
 have h2:=S3 m.arrays (a.toNat+1)
 have h3:=R6 (l:=m.arrays) (n:=a.toNat) (by omega)
 have h4:=(O2 (l:=m.arrays.drop (a.toNat+1)) (b:=256) (by omega) (fun x hx'=>hx x (List.mem_of_mem_drop hx'))).1
 have h5:m.arrays.getD a.toNat 0=m.arrays[a.toNat]'(by omega):=Wv (by omega)
 have h6:0≤Vs m.arrays:=by have:=Wf h m.arrays.length;rw [List.take_length] at this;exact this.1
 unfold Vt Kt
 rw [h5]
 split<;>omega
section
variable {G:World}{q pre:List HP}{a b A:Option Addr}{c d C p p0 p1 p2 i:Nat}{lo hi n cd dep:Int}{fv:Value}{x y:Ins}{t:Cod}{m:Mdl}{at_:Int}
variable {l cells loc:List Int}{idx arr z k u pc code:Int}{x1 x2 x3 x4 x5 x6 old:Value}{pm cc lc:Nat}{la cda:Option Addr}
set_option maxHeartbeats 2000000 in
theorem Pr (hw:CellsAt q p 0 [x1,.pointer (some ⟨pm,0,none⟩),x2,x3,x4,x5,x6])(hm:CellsAt q pm 0 (Wo m))(hq:MdlQ q m)(hmo:Nw m)(har:0≤arr∧arr<m.arrays.length)(hix:val idx):CallF prog G 127 [.pointer (some ⟨p,0,none⟩),.int .i64 arr,.int .i64 idx] (q) (RP (fun v q'=>0≤Vt m arr idx∧v= .int .i64 (Vt m arr idx)∧q'=q) (fun ch q'=>Vt m arr idx<0∧ch= [U5 3]∧q'=q)):=by
 refine CallF.of func127 ntmps127 rfl (fun F cs=> ?_)
 have hv1:=hmo.2.2.1.1;have ha1:=hmo.2.2.2.1;have hix2:=hix;unfold val at hix2;have hal:arr.toNat<m.arrays.length:=(by omega);have hka:=hq.ka;have hx:=ha1.2 _ (List.getElem_mem hal);unfold Yn at hx
 have hsl:=Wf hmo arr.toNat;have hgd:m.arrays.getD arr.toNat 0=m.arrays[arr.toNat]:=Wv hal
 refine Jw hq.a (by simp;omega) (fun b1 o1 e1=> ?_)
 have hs1:=hq.a;rw [e1] at hs1
 refine xo 10 ?_;refine Zg [12,6,0,1,2] ?_
 apply Zw 13 25 12 rfl
 · intro g1 M1;have h1:=sp g1
   refine oo 4 ?_;refine ld ?_ (hc:=((hw.le leA) 1 _ rfl))
   refine oo 2 ?_;refine ld ?_ (hc:=((hm.le leA) 1 _ rfl))
   refine oo 1 ?_;refine XO.know 20 (.slice (some ⟨b1,o1,none⟩) m.arrays.length m.ac) rfl (by rw [e1]) ?_
   refine oo 1 ?_;refine ld ?_ (hc:=(Cl.e1 hs1 leA hal (by omega)))
   refine oo 2 ?_;exact Zz M1 ⟨orF g1,Zv⟩
 · intro g1 M1;have h1:=sp g1
   refine oo 13 ?_;exact Zz M1 ⟨orT g1,Zv⟩
 refine ox 1 ?_;refine X.part 25 rfl (fun h1=> ?_) (fun h1=> ?_)
 · replace h1:=sp h1
   refine xo 2 ?_;refine Ky call164 (Le.refl _) (Aq) ?_ ?_
   · rintro _ _ ⟨rfl,rfl⟩
     exact FQ.panic func127 (RP.thr ⟨by unfold Vt;rw [hgd,if_neg (by omega)];omega,rfl,rfl⟩)
   rintro _ _ ⟨⟩
 replace h1:=sp h1
 refine xo 7 ?_;refine ld ?_ (hc:=((hw.le leA) 1 _ rfl))
 refine oo 2 ?_;refine ld ?_ (hc:=((hm.le leA) 0 _ rfl))
 refine oo 11 ?_;refine ld ?_ (hc:=((hw.le leA) 1 _ rfl))
 refine oo 2 ?_;refine ld ?_ (hc:=((hm.le leA) 1 _ rfl))
 refine oo 1 ?_;refine XO.know 43 (.slice (some ⟨b1,o1,none⟩) m.arrays.length m.ac) rfl (by rw [e1]) ?_
 refine ox 5 ?_
 have hci:Vt m arr idx=(m.vars.length:Int)+Vs (m.arrays.take arr.toNat)+idx:=by unfold Vt;rw [hgd,if_pos (by omega)]
 refine X.know 7 (.int .i64 ((m.vars.length:Int)+idx+Vs (m.arrays.take 0))) rfl (congrArg (Value.int .i64) (by simp [Vs])) ?_
 refine X.at (X.loop (fun (s:Nat)=>s≤arr.toNat) (fun s=> [(47,.int .i64 (s:Int)),(46,.int .i64 (arr.toNat:Int)),(45,.slice (some ⟨b1,o1,none⟩) arr.toNat m.ac),(7,.int .i64 ((m.vars.length:Int)+idx+Vs (m.arrays.take s))),(6,.int .i64 0)]) (fun s=>(q++F)) (fun s=>arr.toNat - s) (fun s hi_ ih=> ?_) 0 (Nat.zero_le _)) Zp leA
 try dsimp only at hi_ ih⊢
 obtain hs0:=hi_
 refine xx 5 ?_;refine X.part 48 rfl (fun h0=> ?_) (fun h0=> ?_)
 · replace h0:=sp h0
   have hk1:s<m.arrays.length:=by omega
   have hsu:=Wf hmo s;have hx2:=ha1.2 _ (List.getElem_mem hk1);unfold Yn at hx2
   refine xo 7 ?_;refine ld ?_ (hc:=(Cl.e1 hs1 leA hk1 rfl))
   refine ox 13 ?_;refine X.know 7 (.int .i64 ((m.vars.length:Int)+idx+Vs (m.arrays.take (s+1)))) rfl (congrArg (Value.int .i64) (by rw [R6 hk1];omega)) ?_
   refine X.at (ih (s+1) (by omega) (by omega)) Zp leA
 replace h0:=sp h0
 refine xx 7 ?_;refine Zq (q) func127 (Zu results127 rfl) (RP.ret ⟨by omega,by rw [show s=arr.toNat by omega];congr 1;omega,rfl⟩)
set_option maxHeartbeats 4000000 in
theorem Tw (hm:CellsAt q pm 0 (Wo m))(hq:MdlQ q m)(hc:Sees q cda (cells.map I64))(hS:StepQ m x loc l cells)(hx:x.c=2∨x.c=5∨x.c=4∨x.c=7):CallF prog G 80 [.pointer (some ⟨p,0,none⟩),.agg (Zx x).toArray] (pto p (.cells [.slice a (l).length c,.pointer (some ⟨pm,0,none⟩),x2,x3,x4,x5,.slice cda cells.length cc].toArray 122 (0,0))::lsH I64 2 a c (l)::q) (RP (fun v q'=> ∃ y l',T4 m x l cells=some (y,l')∧v= .agg [.int .i64 y.1,.bool y.2.1,.int .i64 y.2.2].toArray∧ ∃ a' c',q'=pto p (.cells [.slice a' (l').length c',.pointer (some ⟨pm,0,none⟩),x2,x3,x4,x5,.slice cda cells.length cc].toArray 122 (0,0))::lsH I64 2 a' c' (l')::q) (fun ch q'=>T4 m x l cells=none∧ch= [U5 3]∧q'=q)):=by
 refine CallF.of func80 ntmps80 rfl (fun F cs=> ?_)
 have hdep:=hS.dep;have hlen:=hS.len;have hcel:=hS.cel;have hsm:=Wf hS.ok m.arrays.length;rw [List.take_length] at hsm;have hmv:=hS.ok.2.2.1.1
 rcases hx with hx|hx|hx|hx
 · have hdx:=hdep;rw [hx] at hdx;replace hdx:(0:Int)≤l.length:=hdx
   have hv:=hS.var (by omega);have hlt:x.a.toNat<cells.length:=by unfold Kt at hcel;omega
   refine xo 2 ?_;refine Zl fun n1=> ?_
   refine Zm zeroValue45 fun n2=> ?_
   refine oo 3 ?_;refine Zm zeroValue45 fun n3=> ?_
   refine ol 5 ?_;refine ox 7 ?_;refine X.know 10 (.bool true) rfl (congrArg Value.bool (by simp [hx])) ?_
   refine xx 1 ?_;refine drw ?_;refine dl [0] 1 ?_;refine dl [2,3,4] 5 ?_;refine dl [6] 7 ?_;refine Wp hc (by simp;omega) (fun b2 o2 e2=> ?_)
   have hs2:=hc;rw [e2] at hs2
   refine XD.know 17 (.slice (some ⟨b2,o2,none⟩) cells.length cc) rfl (by rw [e2]) ?_
   refine dd [8] ?_;refine ldD 9 ?_ (hc:=(Cl.e1 hs2 leA hlt (by omega)))
   refine dd [10] ?_;refine Yr 11 ?_;refine XD.nil ?_;refine xl 5 ?_;refine Zc (Pu.not rfl) ?_;refine ox 1 ?_;refine X.kt 69 ?_;refine xx 1 ?_;refine drw ?_;refine dl [0,1,2,3] 4 ?_;refine Qd 5 call79 (Ka (l:=l) (z:=cells[x.a.toNat]) (by first|omega|(rw [List.length_take];omega))) ?_
   rintro _ _ ⟨a2,c2,rfl⟩ _ e_;simp only [ca,na] at e_;subst e_
   refine ⟨trivial,?_⟩
   refine XD.nil ?_;refine xo 2 ?_;refine ldA ?_;refine stA ?_;refine ox 1 ?_;refine Zq (pto p (.cells [.slice a2 (l++ [cells[x.a.toNat]]).length c2,.pointer (some ⟨pm,0,none⟩),x2,x3,x4,x5,.slice cda cells.length cc].toArray 122 (0,0))::lsH I64 2 a2 c2 (l++ [cells[x.a.toNat]])::q) func80 (rA_ results80) (RP.ret ⟨(x.a,false,cells[x.a.toNat]),l++ [cells[x.a.toNat]],by unfold T4;rw [if_pos hx,Wv hlt],rfl,a2,c2,rfl⟩)
 · have hdx:=hdep;rw [hx] at hdx;replace hdx:(1:Int)≤l.length:=hdx
   have hv:=hS.var (by omega)
   refine xo 2 ?_;refine Zl fun n1=> ?_
   refine Zm zeroValue45 fun n2=> ?_
   refine oo 3 ?_;refine Zm zeroValue45 fun n3=> ?_
   refine ol 5 ?_;refine ox 7 ?_;refine X.know 10 (.bool false) rfl (congrArg Value.bool (by simp [hx])) ?_
   refine xx 6 ?_;refine X.know 23 (.bool true) rfl (congrArg Value.bool (by simp [hx])) ?_
   refine xx 1 ?_;refine drw ?_;refine dl [0] 1 ?_;refine dd [2,3,4] ?_;refine Qd 5 call78 (Qx (l:=l) (by omega)) ?_
   rintro _ _ ⟨rfl,rfl⟩ _ e_;simp only [ca,na] at e_;subst e_
   refine ⟨hlA,?_⟩
   refine dd [6] ?_;refine Yr 7 ?_;refine XD.nil ?_;refine xl 5 ?_;refine Zc (Pu.not rfl) ?_;refine ox 1 ?_;refine W0 69 ?_;refine xo 4 ?_;refine ldA ?_;refine stA ?_;refine ox 1 ?_;refine Zq (pto p (.cells [.slice a (l.take (l.length - 1)).length c,.pointer (some ⟨pm,0,none⟩),x2,x3,x4,x5,.slice cda cells.length cc].toArray 122 (0,0))::lsH I64 2 a c (l.take (l.length - 1))::q) func80 (rA_ results80) (RP.ret ⟨(x.a,true,Z9 l),l.take (l.length - 1),by unfold T4;rw [if_neg (by omega),if_pos hx],rfl,a,c,rfl⟩)
 · have hdx:=hdep;rw [hx] at hdx;replace hdx:(1:Int)≤l.length:=hdx
   have hv:=hS.arr (by omega)
   refine xo 2 ?_;refine Zl fun n1=> ?_
   refine Zm zeroValue45 fun n2=> ?_
   refine oo 3 ?_;refine Zm zeroValue45 fun n3=> ?_
   refine ol 5 ?_;refine ox 7 ?_;refine X.know 10 (.bool false) rfl (congrArg Value.bool (by simp [hx])) ?_
   refine xx 6 ?_;refine X.know 23 (.bool false) rfl (congrArg Value.bool (by simp [hx])) ?_
   refine xx 6 ?_;refine X.know 32 (.bool true) rfl (congrArg Value.bool (by simp [hx])) ?_
   refine xx 2 ?_;refine drw ?_;refine dl [0,1] 2 ?_;refine dd [3,4,5] ?_;refine Qd 6 call78 (Qx (l:=l) (by omega)) ?_
   rintro _ _ ⟨rfl,rfl⟩ _ e_;simp only [ca,na] at e_;subst e_
   refine ⟨hlA,?_⟩
   refine XD.cP 7 call127 (Le.refl _) (Pr (arr:=x.a) (idx:=Z9 l) (CellsAt.of Vd) (hm.le leA) (hq.le leA) hS.ok hv (Vx hS.vl _)) ?_ ?_ trivial
   · rintro _ _ ⟨h0,rfl,rfl⟩
     exact FQ.panic func80 (RP.thr ⟨by unfold T4;rw [if_neg (by omega),if_neg (by omega)];rw [if_pos hx,if_pos h0],rfl,rfl⟩)
   rintro _ _ ⟨h0,rfl,rfl⟩
   refine ⟨trivial,?_⟩
   have hcr:=Bd hS.ok (a:=x.a) (i:=Z9 l) hv;have hlt:(Vt m x.a (Z9 l)).toNat<cells.length:=by omega
   refine dd [8] ?_;refine XD.nil ?_;refine xl 5 ?_;refine oo 1 ?_;refine Y6 hc (by simp;omega) (fun b2 o2 e2=> ?_)
   have hs2:=hc;rw [e2] at hs2
   refine XO.know 46 (.slice (some ⟨b2,o2,none⟩) cells.length cc) rfl (by rw [e2]) ?_
   refine oo 1 ?_;refine ld ?_ (hc:=(Cl.e1 hs2 leA hlt (by omega)))
   refine oo 1 ?_;refine stA ?_;refine ol 6 ?_;refine Zc (Pu.not rfl) ?_;refine ox 1 ?_;refine X.kt 69 ?_;refine xx 1 ?_;refine drw ?_;refine dl [0,1,2,3] 4 ?_;refine Qd 5 call79 (Ka (l:=l.take (l.length - 1)) (z:=cells[(Vt m x.a (Z9 l)).toNat]) (by first|omega|(rw [List.length_take];omega))) ?_
   rintro _ _ ⟨a2,c2,rfl⟩ _ e_;simp only [ca,na] at e_;subst e_
   refine ⟨trivial,?_⟩
   refine XD.nil ?_;refine xo 2 ?_;refine ldA ?_;refine stA ?_;refine ox 1 ?_;refine Zq (pto p (.cells [.slice a2 (l.take (l.length - 1)++ [cells[(Vt m x.a (Z9 l)).toNat]]).length c2,.pointer (some ⟨pm,0,none⟩),x2,x3,x4,x5,.slice cda cells.length cc].toArray 122 (0,0))::lsH I64 2 a2 c2 (l.take (l.length - 1)++ [cells[(Vt m x.a (Z9 l)).toNat]])::q) func80 (rA_ results80) (RP.ret ⟨(Vt m x.a (Z9 l),false,cells[(Vt m x.a (Z9 l)).toNat]),l.take (l.length - 1)++ [cells[(Vt m x.a (Z9 l)).toNat]],by unfold T4;rw [if_neg (by omega),if_neg (by omega),if_pos hx,if_neg (by omega),Wv hlt],rfl,a2,c2,rfl⟩)
 have hdx:=hdep;rw [hx] at hdx;replace hdx:(2:Int)≤l.length:=hdx
 have hv:=hS.arr (by omega)
 refine xo 2 ?_;refine Zl fun n1=> ?_
 refine Zm zeroValue45 fun n2=> ?_
 refine oo 3 ?_;refine Zm zeroValue45 fun n3=> ?_
 refine ol 5 ?_;refine ox 7 ?_;refine X.know 10 (.bool false) rfl (congrArg Value.bool (by simp [hx])) ?_
 refine xx 6 ?_;refine X.know 23 (.bool false) rfl (congrArg Value.bool (by simp [hx])) ?_
 refine xx 6 ?_;refine X.know 32 (.bool false) rfl (congrArg Value.bool (by simp [hx])) ?_
 refine xx 6 ?_;refine X.know 51 (.bool true) rfl (congrArg Value.bool (by simp [hx])) ?_
 refine xo 6 ?_;refine V3 call78 (Qx (l:=l) (by omega)) ?_
 rintro _ _ ⟨rfl,rfl⟩ _ e_;simp only [ca,na] at e_;subst e_
 refine ox 2 ?_;refine drw ?_;refine dl [0,1] 2 ?_;refine dd [3,4,5,8] ?_;refine Qd 6 call78 (Qx (l:=l.take (l.length - 1)) (by rw [List.length_take];omega)) ?_
 rintro _ _ ⟨rfl,rfl⟩ _ e_;simp only [ca,na] at e_;subst e_
 refine ⟨hlA,?_⟩
 rw [M0]
 refine XD.know 63 (.int .i64 (Vr l)) rfl (congrArg (Value.int .i64) (Ny (by omega))) ?_
 refine XD.cP 7 call127 (Le.refl _) (Pr (arr:=x.a) (idx:=Vr l) (CellsAt.of Vd) (hm.le leA) (hq.le leA) hS.ok hv (Vx hS.vl _)) ?_ ?_ trivial
 · rintro _ _ ⟨h0,rfl,rfl⟩
   exact FQ.panic func80 (RP.thr ⟨by unfold T4;rw [if_neg (by omega),if_neg (by omega)];rw [if_neg (by omega),if_pos h0],rfl,rfl⟩)
 rintro _ _ ⟨h0,rfl,rfl⟩
 refine ⟨trivial,?_⟩
 have hcr:=Bd hS.ok (a:=x.a) (i:=Vr l) hv;have hlt:(Vt m x.a (Vr l)).toNat<cells.length:=by omega
 refine dd [9] ?_;refine Yr 10 ?_;refine XD.nil ?_;refine xl 5 ?_;refine Zc (Pu.not rfl) ?_;refine ox 1 ?_;refine W0 69 ?_;refine xo 4 ?_;refine ldA ?_;refine stA ?_;refine ox 1 ?_;refine Zq (pto p (.cells [.slice a (l.take (l.length - 2)).length c,.pointer (some ⟨pm,0,none⟩),x2,x3,x4,x5,.slice cda cells.length cc].toArray 122 (0,0))::lsH I64 2 a c (l.take (l.length - 2))::q) func80 (rA_ results80) (RP.ret ⟨(Vt m x.a (Vr l),true,Z9 l),l.take (l.length - 2),by unfold T4;rw [if_neg (by omega),if_neg (by omega),if_neg (by omega),if_neg (by omega)],rfl,a,c,rfl⟩)
end
def Af (x:Int×Bool×Int):List Value:= [.int .i64 x.1,.bool x.2.1,.int .i64 x.2.2]
section
variable {G:World}{q pre:List HP}{a b A:Option Addr}{c d C p p0 p1 p2 i:Nat}{lo hi n cd dep:Int}{fv:Value}{x y:Ins}{t:Cod}{m:Mdl}{at_:Int}
variable {l cells loc:List Int}{idx arr z k u pc code:Int}{x1 x2 x3 x4 x5 x6 old:Value}{pm cc lc n1 n2:Nat}{la cda:Option Addr}
variable {f:Frm}{op:Int}{bb:Bool}{g:Nat}
theorem Va:CallF prog G 162 [.bool bb] (q) (Ret fun v q'=>v= .int .i64 (Qj bb)∧q'=q):=by
 refine CallF.of func162 ntmps162 rfl (fun F cs=> ?_)
 refine xx 9 ?_;refine X.part 3 rfl (fun h0=> ?_) (fun h0=> ?_)
 · refine xx 5 ?_;refine Zq (q) func162 (Zu results162 rfl) ⟨_,rfl,by rw [show bb=true by simpa using h0];rfl,rfl⟩
 refine xx 6 ?_;refine Zq (q) func162 (Zu results162 rfl) ⟨_,rfl,by rw [show bb=false by simpa using h0];rfl,rfl⟩
set_option maxHeartbeats 4000000 in
theorem Pj (ho:3≤op∧op≤11)(hu:val u)(hz:val z):CallF prog G 161 [.int .i64 op,.int .i64 u,.int .i64 z] (q) (Ret fun v q'=>v= .tuple [.int .i64 (Yp op u z).1,.int .i64 (Yp op u z).2].toArray∧q'=q):=by
 refine CallF.of func161 ntmps161 rfl (fun F cs=> ?_)
 have hu2:=hu;have hz2:=hz;unfold val at hu2 hz2
 have hcase:op=3∨op=4∨op=5∨op=6∨op=7∨op=8∨op=9∨op=10∨op=11:=by omega
 rcases hcase with rfl|rfl|rfl|rfl|rfl|rfl|rfl|rfl|rfl
 · refine xx 20 ?_;refine X.kt 10 ?_;refine xo 6 ?_;refine XO.cR call162 (Va) ?_;refine ox 3 ?_;refine Zq (q) func161 (Qt results161 rfl rfl) ⟨_,rfl,by simp [Yp]<;>first|rfl|(congr 1;rw [Bool.eq_iff_iff];simp),rfl⟩
 · refine xx 20 ?_;refine kx 10 6 ?_;refine X.kt 16 ?_;refine xo 6 ?_;refine XO.cR call162 (Va) ?_;refine ox 3 ?_;refine Zq (q) func161 (Qt results161 rfl rfl) ⟨_,rfl,by simp [Yp]<;>first|rfl|(congr 1;rw [Bool.eq_iff_iff];simp),rfl⟩
 iterate 4
  focus
   refine xx 20 ?_;refine kx 10 6 ?_;refine kx 16 6 ?_
  rotate_left
 focus
  have hm:=Or hu hz
  refine xx 20 ?_;refine kx 10 6 ?_;refine kx 16 6 ?_;refine kx 22 6 ?_;refine kx 28 6 ?_;refine kx 34 6 ?_;refine kx 39 6 ?_;refine X.kt 44 ?_;refine xo 4 ?_;refine Zc (Pu.mul rfl rfl (by omega) (by omega)) ?_
  refine oo 9 ?_;refine Zg [65,8,7,6] ?_
  apply Zw 3 68 65 rfl
  · intro g1 M1;have h1:=sp g1
    refine oo 3 ?_;exact Zz M1 ⟨orF g1,Zv⟩
  · intro g1 M1;have h1:=sp g1
    refine oo 3 ?_;exact Zz M1 ⟨orT g1,Zv⟩
  refine ox 1 ?_;refine X.part 68 rfl (fun h1=> ?_) (fun h1=> ?_)
  focus
   replace h1:=sp h1
   refine xx 6 ?_
  rotate_left
  focus
   replace h1:=sp h1
   refine xx 8 ?_
 rotate_left 2
 · have hm:=Ol (b:=z) hu
   refine xx 20 ?_;refine kx 10 6 ?_;refine kx 16 6 ?_;refine kx 22 6 ?_;refine kx 28 6 ?_;refine kx 34 6 ?_;refine kx 39 6 ?_;refine kx 44 6 ?_;refine X.kt 49 ?_;refine xx 7 ?_;refine X.part 52 rfl (fun h1=> ?_) (fun h1=> ?_)
   · replace h1:=sp h1
     refine xx 6 ?_;refine Zq (q) func161 (Qt results161 rfl rfl) ⟨_,rfl,by first|(simp [Yp,h1];done)|(unfold Yp val;simp [h1];omega)|(unfold Yp val;simp only [h1];simp;grind),rfl⟩
   replace h1:=sp h1
   refine xo 5 ?_;refine Zc (Ad rfl rfl (by omega)) ?_
   refine XO.know 55 (.int .i64 (u.tdiv z)) rfl (congrArg (Value.int .i64) (show IntKind.i64.wrap (u.tdiv z)=u.tdiv z from Uz (by omega) (by omega))) ?_
   refine oo 9 ?_;refine Zg [65,8,7,6] ?_
   apply Zw 3 68 65 rfl
   · intro g2 M2;have h2:=sp g2
     refine oo 3 ?_;exact Zz M2 ⟨orF g2,Zv⟩
   · intro g2 M2;have h2:=sp g2
     refine oo 3 ?_;exact Zz M2 ⟨orT g2,Zv⟩
   refine ox 1 ?_;refine X.part 68 rfl (fun h2=> ?_) (fun h2=> ?_)
   focus
    replace h2:=sp h2
    refine xx 6 ?_
   rotate_left
   focus
    replace h2:=sp h2
    refine xx 8 ?_
   all_goals
    refine Zq (q) func161 (Qt results161 rfl rfl) ⟨_,rfl,by first|(simp [Yp,h1,h2];done)|(unfold Yp val;simp [h1,h2];omega)|(unfold Yp val;simp only [h1,h2];simp;grind),rfl⟩
 · have hm:=Oi (b:=z) hu
   refine xx 20 ?_;refine kx 10 6 ?_;refine kx 16 6 ?_;refine kx 22 6 ?_;refine kx 28 6 ?_;refine kx 34 6 ?_;refine kx 39 6 ?_;refine kx 44 6 ?_;refine kx 49 6 ?_;refine X.kt 56 ?_;refine xx 7 ?_;refine X.part 59 rfl (fun h1=> ?_) (fun h1=> ?_)
   · replace h1:=sp h1
     refine xx 6 ?_;refine Zq (q) func161 (Qt results161 rfl rfl) ⟨_,rfl,by first|(simp [Yp,h1];done)|(unfold Yp val;simp [h1];omega)|(unfold Yp val;simp only [h1];simp;grind),rfl⟩
   replace h1:=sp h1
   refine xo 5 ?_;refine Zc (Pu.rem rfl rfl (by omega)) ?_
   refine oo 9 ?_;refine Zg [65,8,7,6] ?_
   apply Zw 3 68 65 rfl
   · intro g2 M2;have h2:=sp g2
     refine oo 3 ?_;exact Zz M2 ⟨orF g2,Zv⟩
   · intro g2 M2;have h2:=sp g2
     refine oo 3 ?_;exact Zz M2 ⟨orT g2,Zv⟩
   refine ox 1 ?_;refine X.part 68 rfl (fun h2=> ?_) (fun h2=> ?_)
   focus
    replace h2:=sp h2
    refine xx 6 ?_
   rotate_left
   focus
    replace h2:=sp h2
    refine xx 8 ?_
   all_goals
    refine Zq (q) func161 (Qt results161 rfl rfl) ⟨_,rfl,by first|(simp [Yp,h1,h2];done)|(unfold Yp val;simp [h1,h2];omega)|(unfold Yp val;simp only [h1,h2];simp;grind),rfl⟩
 · refine X.kt 22 ?_;refine xo 6 ?_;refine XO.cR call162 (Va) ?_;refine ox 3 ?_;refine Zq (q) func161 (Qt results161 rfl rfl) ⟨_,rfl,by simp [Yp]<;>first|rfl|(congr 1;rw [Bool.eq_iff_iff];simp),rfl⟩
 · refine kx 22 6 ?_;refine X.kt 28 ?_;refine xo 6 ?_;refine XO.cR call162 (Va) ?_;refine ox 3 ?_;refine Zq (q) func161 (Qt results161 rfl rfl) ⟨_,rfl,by simp [Yp]<;>first|rfl|(congr 1;rw [Bool.eq_iff_iff];simp),rfl⟩
 focus
  refine kx 22 6 ?_;refine kx 28 6 ?_;refine X.kt 34 ?_;refine xo 14 ?_;refine Zg [65,8,7,6] ?_
  apply Zw 3 68 65 rfl
  · intro g1 M1;have h1:=sp g1
    refine oo 3 ?_;exact Zz M1 ⟨orF g1,Zv⟩
  · intro g1 M1;have h1:=sp g1
    refine oo 3 ?_;exact Zz M1 ⟨orT g1,Zv⟩
  refine ox 1 ?_;refine X.part 68 rfl (fun h1=> ?_) (fun h1=> ?_)
  focus
   replace h1:=sp h1
   refine xx 6 ?_
  rotate_left
  focus
   replace h1:=sp h1
   refine xx 8 ?_
 rotate_left 2
 focus
  refine kx 22 6 ?_;refine kx 28 6 ?_;refine kx 34 6 ?_;refine X.kt 39 ?_;refine xo 14 ?_;refine Zg [65,8,7,6] ?_
  apply Zw 3 68 65 rfl
  · intro g1 M1;have h1:=sp g1
    refine oo 3 ?_;exact Zz M1 ⟨orF g1,Zv⟩
  · intro g1 M1;have h1:=sp g1
    refine oo 3 ?_;exact Zz M1 ⟨orT g1,Zv⟩
  refine ox 1 ?_;refine X.part 68 rfl (fun h1=> ?_) (fun h1=> ?_)
  focus
   replace h1:=sp h1
   refine xx 6 ?_
  rotate_left
  focus
   replace h1:=sp h1
   refine xx 8 ?_
 all_goals
  refine Zq (q) func161 (Qt results161 rfl rfl) ⟨_,rfl,by first|(simp [Yp,h1];done)|(unfold Yp val;simp [h1];omega)|(unfold Yp val;simp only [h1];simp;grind),rfl⟩
end
section
variable {α:Type}{P:Program}{G:World}{p:PE}{q:List HP}{sz ty:Nat}{d:Option Tmp}{ty':TypeId}{pos:String}{af:Array Edge}{gd:Option (Nat×Bool)}{t:TypeId}{z:Value}{bytes n:Nat}{ps:List (Nat×Operand)}
theorem G6 {f:α→List Value}(hf: ∀ x,(f x).length=sz): ∀ (l:List α) (k:Nat) (pre post:List Value),pre.length=k*sz→l.length*sz≤post.length→Instr.fill (fun i=>some (i*sz,sz)) (pre++post).toArray ((List.range' k l.length).zip (l.map fun u=>Value.agg (f u).toArray))=some (pre++l.flatMap f++post.drop (l.length*sz)).toArray
 | [],k,pre,post,_,_=>by simp [Instr.fill]
 |u::r,k,pre,post,h1,h2=>by
  rw [List.length_cons,Nat.add_mul,Nat.one_mul] at h2
  have hc:(Value.agg (f u).toArray).cells=(f u).toArray:=rfl
  have e1: ∀ (off:Nat) (us:List Value) (A:Array Value),(us.toArray.zipIdx).foldl (fun cs (c,i)=>cs.setIfInBounds (off+i) c) A=(us.zipIdx 0).foldl (fun cs (c,i)=>cs.setIfInBounds (off+i) c) A:=by intro off us A;simp
  have k1:=(e1 (k*sz) (f u) _).trans (Rg (k*sz) (f u) 0 pre post (by simpa using h1) (by rw [hf];omega))
  have ih:=G6 hf r (k+1) (pre++f u) (post.drop (f u).length) (by rw [List.length_append,h1,hf,Nat.add_mul,Nat.one_mul]) (by rw [List.length_drop,hf];omega)
  rw [List.length_cons,List.range'_succ,List.map_cons,List.zip_cons_cons]
  simp only [Instr.fill,hc]
  rw [if_neg (by simp [hf];omega),k1,ih]
  simp only [List.flatMap_cons,List.append_assoc,List.drop_drop,hf]
  congr 4
  rw [Nat.add_mul,Nat.one_mul,Nat.add_comm]
theorem Z6 (f:α→List Value)(l:List α)(ht:P.underlying t=some (.slice ty))(hi:(P.info? ty).map (fun i=>(i.zero,i.size,i.bytes))=some (some z,sz,bytes))(h1:Nat.ble (n*sz) 16777216=true)(h0:Nat.blt 0 sz=true)
 (hf: ∀ x,(f x).length=sz) (hv:evl p (ps.map (·.2))=some (l.map fun u=>Value.agg (f u).toArray)) (hx:ps.map (·.1)=List.range' 0 n) (hn:l.length=n) (h2:Nat.blt 0 n=true):
 Ef P G p q ⟨d,.buildSlice t n ps.toArray,ty',pos,af,gd⟩ fun v q'=> ∃ g,v= .slice (some ⟨g,0,none⟩) n n∧q'=Wx.rsH f sz ty (some ⟨g,0,none⟩) n l::q:=by
 subst hn
 have h0':0<sz:=by simpa [Nat.blt_eq] using h0
 have h2':0<l.length:=by simpa [Nat.blt_eq] using h2
 have hfill:Instr.fill (fun i=>some (i*sz,sz)) ((Array.range (l.length*sz)).map (z.cells[· % z.cells.size]!)) ((ps.map (·.1)).zip (l.map fun u=>Value.agg (f u).toArray))=some (l.flatMap f).toArray:=by
  rw [hx]
  have:=G6 hf l 0 [] ((Array.range (l.length*sz)).map (z.cells[· % z.cells.size]!)).toList (by simp) (by simp)
  rw [List.nil_append,List.nil_append,Array.toArray_toList,List.drop_eq_nil_of_le (by simp),List.append_nil] at this
  exact this
 have:=Ef.buildSlice (P:=P) (G:=G) (p:=p) (q:=q) (d:=d) (ty:=ty') (pos:=pos) (af:=af) (gd:=gd) (ps:=ps) (len:=l.length) ht hi hv (by simpa using h1) (by rw [Nat.blt_eq];exact Nat.mul_pos h2' h0') hfill (Zb hf l)
 simpa [Wx.rsH] using this
end
mutual
def PEx.sz:PEx→Nat
 | .mk _ _ _ _ _ _ args=>Vv args+1
def Vv:List PEx→Nat
 | []=>0
 |e::r=>e.sz+Vv r
end
mutual
theorem Ul: ∀ (e:Ex),e.er.sz=e.sz
 | .mk _ _ _ _ _ _ args _ _=>by simp only [Ex.er,PEx.sz,Ex.sz,Gq args]
theorem Gq: ∀ (l:List Ex),Vv (Z3 l)=U4 l
 | []=>rfl
 |e::r=>by simp only [Z3,Vv,U4,Ul e,Gq r]
end
mutual
/-- What an expression that may be is like. -/
def PEx.fit:PEx→Prop
 | .mk k n _ _ _ op args=>(1≤k∧k≤6)∧args.length=Mu k∧(k=1→0≤n∧n≤2147483647)∧(k=6→1≤op∧op≤11)∧PEx.fits args
def PEx.fits:List PEx→Prop
 | []=>True
 |e::r=>e.fit∧PEx.fits r
end
theorem Ub {x:PEx}: ∀ {l:List PEx},PEx.fits l→x∈l→x.fit
 |y::r,⟨h1,h2⟩,h=>by
  rcases List.mem_cons.1 h with rfl|h
  · exact h1
  exact Ub h2 h
mutual
theorem Hy: ∀ {e:PEx} {d:Nat},e.right d=true→e.fit
 | .mk k n nm _ _ op args,d,h=>by
  simp only [PEx.right] at h
  split at h
  · cases h
  split at h
  · rename_i hk
    rw [Bool.and_eq_true,Bool.and_eq_true,decide_eq_true_eq] at h
    obtain ⟨⟨h1,h2⟩,h3⟩:=h
    refine ⟨hk,h2,fun h=> ?_,fun h=> ?_,Nd h3⟩
    · subst h;unfold O8 at h1;rw [if_pos rfl,Bool.and_eq_true] at h1;simpa using h1
    subst h;unfold O8 at h1;rw [if_neg (by decide),if_neg (by decide),if_pos rfl,Bool.and_eq_true] at h1;simpa using h1
  cases h
theorem Nd: ∀ {l:List PEx} {d:Nat},Wy l d=true→PEx.fits l
 | [],_,_=>trivial
 |e::r,d,h=>by
  simp only [Wy,Bool.and_eq_true] at h
  exact ⟨Hy h.1,Nd h.2⟩
end
mutual
def PEx.plain:PEx→Bool
 | .mk k _ _ _ _ _ args=>if k=2∨k=3 then false else Uq args
def Uq:List PEx→Bool
 | []=>true
 |e::r=>e.plain && Uq r
end
mutual
/-- What an expression without names is worth, and its trap. -/
def PEx.ev:PEx→Int×Int
 | .mk k n _ _ _ op args=>
  if k=1 then (n,0)
  else if ((W1 args).getD 0 (0,0)).2≠0 then (W1 args).getD 0 (0,0)
  else if k=4 then Yp 8 0 ((W1 args).getD 0 (0,0)).1
  else if k=5 then (Qj (((W1 args).getD 0 (0,0)).1==0),0)
  else if (op=1∧((W1 args).getD 0 (0,0)).1≠0)∨(op=2∧((W1 args).getD 0 (0,0)).1=0) then (Qj (op==1),0)
  else if ((W1 args).getD 1 (0,0)).2≠0 then (W1 args).getD 1 (0,0)
  else if op≤2 then (Qj (((W1 args).getD 1 (0,0)).1 !=0),((W1 args).getD 1 (0,0)).2)
  else Yp op ((W1 args).getD 0 (0,0)).1 ((W1 args).getD 1 (0,0)).1
def W1:List PEx→List (Int×Int)
 | []=> []
 |e::r=>e.ev::W1 r
end
theorem U0 (b:Bool):val (Qj b):=by cases b<;>decide
theorem Pz (op a b:Int):val (Yp op a b).1:=by
 unfold Yp
 split;exact U0 _
 split;exact U0 _
 split;exact U0 _
 split;exact U0 _
 split;decide
 have h: ∀ n:Int,val (if val n then ((n,0):Int×Int) else (0,2)).1:=fun n=>by by_cases h:val n;rw [if_pos h];exact h;rw [if_neg h];decide
 exact h _
mutual
theorem Qs: ∀ {e:PEx},e.fit→val e.ev.1
 | .mk k n nm _ _ op args,⟨hk,h1,h2,h3,h4⟩=>by
  have h0:=Dg h4
  have ha: ∀ i,val ((W1 args).getD i (0,0)).1:=fun i=>by
   rcases Nat.lt_or_ge i (W1 args).length with h|h
   · rw [gD h];exact h0 _ (List.getElem_mem h)
   rw [List.getD_eq_getElem?_getD,List.getElem?_eq_none h];decide
  simp only [PEx.ev]
  split
  · rename_i h;have:=h2 h;unfold val;dsimp only;omega
  split;exact ha 0
  split;exact Pz _ _ _
  split;exact U0 _
  split;exact U0 _
  split;exact ha 1
  split;exact U0 _
  exact Pz _ _ _
theorem Dg: ∀ {l:List PEx},PEx.fits l→ ∀ x∈W1 l,val x.1
 | [],_,x,h=>by cases h
 |e::r,⟨h1,h2⟩,x,h=>by
  rcases List.mem_cons.1 h with rfl|h
  · exact Qs h1
  exact Dg h2 x h
end
def PEx.one (e:PEx):Bool:=e.plain && e.ev.2==0
mutual
def PEx.code:PEx→Int→List Ins
 | .mk k n nm slot loc op args,at_=>
  if (PEx.one (.mk k n nm slot loc op args))=true then [⟨1,0,0,(PEx.ev (.mk k n nm slot loc op args)).1⟩]
  else if k=2 then [⟨if loc=true then 3 else 2,slot,0,0⟩]
  else if k=1 then [⟨1,0,0,n⟩]
  else
   let a:=(PEx.codes args).getD 0 (fun _=> []) at_
   if k=6∧op≤2 then
    let b:=(PEx.codes args).getD 1 (fun _=> []) (at_+a.length+1)
    a++ [⟨if op=2 then 20 else 21,at_+a.length+1+b.length+2,0,0⟩]++b++ [⟨22,0,0,0⟩,⟨19,at_+a.length+1+b.length+2+1,0,0⟩,⟨1,0,0,2 - op⟩]
   else if k=3 then a++ [⟨4,slot,0,0⟩]
   else if k=4 then a++ [⟨8,0,0,0⟩]
   else if k=5 then a++ [⟨9,0,0,0⟩]
   else a++(PEx.codes args).getD 1 (fun _=> []) (at_+a.length)++ [⟨op+7,0,0,0⟩]
def PEx.codes:List PEx→List (Int→List Ins)
 | []=> []
 |e::r=>e.code::PEx.codes r
end
theorem Tx {l:List PEx}{i:Nat}(h:i<l.length):(l[i]).sz≤Vv l:=by
 induction l generalizing i with
 |nil=>simp at h
 |cons e r ih=>
  cases i with
  |zero=>simp only [List.getElem_cons_zero,Vv];omega
  |succ i=>have:=ih (i:=i) (by simpa using h);simp only [List.getElem_cons_succ,Vv];omega
mutual
theorem Yk: ∀ (e:PEx) (a:Int),(e.code a).length≤4*e.sz
 | .mk k n nm slot loc op args,a=>by
  have h2: ∀ a b,((PEx.codes args).getD 0 (fun _=> []) a).length+((PEx.codes args).getD 1 (fun _=> []) b).length≤4*Vv args:=Gn args
  have h1: ∀ a,((PEx.codes args).getD 0 (fun _=> []) a).length≤4*Vv args:=fun a=>by have:=h2 a 0;omega
  simp only [PEx.code,PEx.sz]
  split;(simp only [List.length_cons,List.length_nil];omega)
  split;(simp only [List.length_cons,List.length_nil];omega)
  split;(simp only [List.length_cons,List.length_nil];omega)
  have k1:=h1 a
  split
  · have:=h2 a (a+(((PEx.codes args).getD 0 (fun _=> []) a).length:Int)+1);simp only [List.length_append,List.length_cons,List.length_nil];omega
  split;(simp only [List.length_append,List.length_cons,List.length_nil];omega)
  split;(simp only [List.length_append,List.length_cons,List.length_nil];omega)
  split;(simp only [List.length_append,List.length_cons,List.length_nil];omega)
  have:=h2 a (a+(((PEx.codes args).getD 0 (fun _=> []) a).length:Int));simp only [List.length_append,List.length_cons,List.length_nil];omega
theorem Gn: ∀ (l:List PEx) (a b:Int),((PEx.codes l).getD 0 (fun _=> []) a).length+((PEx.codes l).getD 1 (fun _=> []) b).length≤4*Vv l
 | [],a,b=>by simp [PEx.codes]
 | [e],a,b=>by have:=Yk e a;simp [PEx.codes,Vv];omega
 |e::x::r,a,b=>by have h1:=Yk e a;have h2:=Yk x b;simp [PEx.codes,Vv];omega
end
theorem Ns:(prog.info? 45).map (fun i=>(i.zero,i.size,i.bytes))=some (some (.agg #[.int .i64 0,.bool false,.int .i64 0]),3,24):=by kernel_rfl
theorem Za:(prog.info? 48).map (fun i=>(i.zero,i.size,i.bytes))=some (some (.agg #[.int .i64 0,.int .i64 0,.int .i64 0,.int .i64 0]),4,32):=by kernel_rfl
section
variable {G:World}{q:List HP}{e:Ex}{ci ai bi ni:Int}
theorem Yf:CallF prog G 64 [.int .i64 ci,.int .i64 ai,.int .i64 bi,.int .i64 ni] (q) (Ret fun v q'=>v= .agg (Zx ⟨ci,ai,bi,ni⟩).toArray∧q'=q):=by
 refine CallF.of func64 ntmps64 rfl (fun F cs=> ?_)
 refine xo 2 ?_;refine Zm zeroValue48 fun n1=> ?_
 refine oo 8 ?_;refine stA ?_;refine ox 1 ?_;refine Zq (q) func64 (rA_ results64) ⟨_,rfl,rfl,rfl⟩
set_option maxHeartbeats 1000000 in
theorem Iq (IH: ∀ (x:Ex),x.sz<e.sz→ ∀ {q:List HP},(Kn q fun M=>x.At M)→CallF prog G 203 [.agg (exC x).toArray] q (Ret fun v q'=>v= .bool x.er.plain∧q'=q))(h:Kn q fun M=>e.At M):CallF prog G 203 [.agg (exC e).toArray] (q) (Ret fun v q'=>v= .bool e.er.plain∧q'=q):=by
 refine CallF.of func203 ntmps203 rfl (fun F cs=> ?_)
 obtain ⟨k,z,nm,sl,lo,op,args,aa,ac⟩:=e;have hA:=Bi h;have hlen:=Zb (f:=exC) (sz:=7) Z4 args;refine X.fact (fun w s=>Oy (h.le leA) s) (fun hal=> ?_)
 obtain ⟨R,hR⟩: ∃ R,(Ex.er (.mk k z nm sl lo op args aa ac)).plain=R:=⟨_,rfl⟩;rw [hR];simp only [Ex.er,PEx.plain] at hR
 refine xo 2 ?_;refine Zl fun n1=> ?_
 refine ol 6 ?_;refine oo 2 ?_;refine Zg [7,2,1] ?_
 apply Zw 4 11 7 rfl
 · intro g1 M1;have h1:=sp g1
   refine ol 1 ?_;refine oo 2 ?_;exact Zz M1 ⟨orF g1,Zv⟩
 · intro g1 M1;have h1:=sp g1
   refine oo 4 ?_;exact Zz M1 ⟨orT g1,Zv⟩
 refine ox 1 ?_;refine X.part 11 rfl (fun h1=> ?_) (fun h1=> ?_)
 · have hk:k=2∨k=3:=(by simpa using h1);rw [if_pos hk] at hR
   refine xx 5 ?_;refine Zq (q) func203 (Zu results203 rfl) ⟨_,rfl,by rw [←hR],rfl⟩
 have hk: ¬ (k=2∨k=3):=(by simpa using h1);rw [if_neg hk] at hR
 refine xx 8 ?_;refine X.at (X.loop (fun (s:Nat×Option Addr)=>s.1≤args.length∧s.2=aa∧R=Uq (Z3 (args.drop s.1))) (fun s=> [(3,.int .i64 (s.1:Int)),(1,.pointer (some ⟨n1,0,none⟩)),(2,.bool false)]) (fun s=>pto n1 (.cells (exC (.mk k z nm sl lo op args s.2 ac)).toArray 215 (0,0))::(q++F)) (fun s=>args.length - s.1) (fun s hi_ ih=> ?_) (0,aa) ⟨Nat.zero_le _,rfl,hR.symm⟩) Zp leA
 try dsimp only at hi_ ih⊢
 obtain ⟨hs,ha,hD⟩:=hi_
 obtain ⟨s,a2⟩:=s;dsimp only at*;subst ha;clear hR
 refine xl 5 ?_;refine ox 3 ?_;refine X.part 16 rfl (fun h0=> ?_) (fun h0=> ?_)
 · replace h0:=sp h0;have hlt:s<args.length:=by omega
   have hds:Uq (Z3 (args.drop s))=(args[s].er.plain && Uq (Z3 (args.drop (s+1)))):=by rw [List.drop_eq_getElem_cons hlt];rfl
   refine xl 7 ?_;refine oo 1 ?_;refine Y6 hA (by rw [hlen];omega) (fun b1 o1 e1=> ?_);subst e1
   refine oo 1 ?_;refine Wm (n:=s) isAgg215 sizeOf215 hA hlt ?_ (hf:=Z4)
   refine XO.cR call203 (IH args[s] (by have:=H5 (List.getElem_mem hlt);simp only [Ex.sz];omega) (Qe (h.le leA) hlt)) ?_
   refine Zc (Pu.not rfl) ?_;refine ox 1 ?_;refine X.part 25 rfl (fun h1=> ?_) (fun h1=> ?_)
   · replace h1:=sp h1
     refine xx 5 ?_;refine Zq (q) func203 (Zu results203 rfl) ⟨_,rfl,by rw [hD,hds,h1];rfl,rfl⟩
   replace h1:=sp h1
   refine xx 8 ?_;refine X.at (ih (s+1,_) ⟨by dsimp only;omega,rfl,by rw [hD,hds,h1];rfl⟩ (by dsimp only;omega)) Zp leA
 replace h0:=sp h0;obtain rfl:s=args.length:=by omega
 refine xx 6 ?_;refine Zq (q) func203 (Zu results203 rfl) ⟨_,rfl,by rw [hD,List.drop_length];rfl,rfl⟩
theorem Ga: ∀ (N:Nat) (x:Ex),x.sz≤N→ ∀ {q:List HP},(Kn q fun M=>x.At M)→CallF prog G 203 [.agg (exC x).toArray] q (Ret fun v q'=>v= .bool x.er.plain∧q'=q)
 |N,x,hN,_,h=>Iq (fun y hy _ h2=>by
  cases N with
  |zero=>omega
  |succ N=>exact Ga N y (by omega) h2) h
set_option maxHeartbeats 8000000 in
theorem ev_step (IH: ∀ (x:Ex),x.sz<e.sz→ ∀ {q:List HP},(Kn q fun M=>x.At M)→x.er.plain=true→x.er.fit→CallF prog G 108 [.agg #[.slice none 0 0,.slice none 0 0,.int .i64 0,.int .i64 0,.slice none 0 0,.slice none 0 0,.int .i64 0,.int .i64 0,.slice none 0 0,.slice none 0 0,.slice none 0 0,.slice none 0 0,.slice none 0 0,.slice none 0 0,.slice none 0 0,.slice none 0 0,.slice none 0 0,.slice none 0 0,.slice none 0 0,.int .i64 0,.int .i64 0,.int .i64 0,.int .i64 0],.agg (exC x).toArray,.slice none 0 0] q (Ret fun v q'=> ∃ (ra:Option Addr) (rc:Nat),v= .agg [.int .i64 x.er.ev.1,.int .i64 x.er.ev.2,.slice ra 0 rc].toArray∧q'=q))(h:Kn q fun M=>e.At M)(hp:e.er.plain=true)(hf:e.er.fit):CallF prog G 108 [.agg #[.slice none 0 0,.slice none 0 0,.int .i64 0,.int .i64 0,.slice none 0 0,.slice none 0 0,.int .i64 0,.int .i64 0,.slice none 0 0,.slice none 0 0,.slice none 0 0,.slice none 0 0,.slice none 0 0,.slice none 0 0,.slice none 0 0,.slice none 0 0,.slice none 0 0,.slice none 0 0,.slice none 0 0,.int .i64 0,.int .i64 0,.int .i64 0,.int .i64 0],.agg (exC e).toArray,.slice none 0 0] (q) (Ret fun v q'=> ∃ (ra:Option Addr) (rc:Nat),v= .agg [.int .i64 e.er.ev.1,.int .i64 e.er.ev.2,.slice ra 0 rc].toArray∧q'=q):=by
 refine CallF.of func108 ntmps108 rfl (fun F cs=> ?_)
 obtain ⟨k,z,nm,sl,lo,op,args,aa,ac⟩:=e;have hA:=Bi h;simp only [Ex.er,PEx.plain] at hp;simp only [Ex.er,PEx.fit,Km] at hf;obtain ⟨hf1,hf2,hf3,hf4,hf5⟩:=hf
 have hk: ¬ (k=2∨k=3):=(fun hx=>by rw [if_pos hx] at hp;cases hp);rw [if_neg hk] at hp
 obtain ⟨R,hR⟩: ∃ R,(Ex.er (.mk k z nm sl lo op args aa ac)).ev=R:=⟨_,rfl⟩;rw [hR];simp only [Ex.er,PEx.ev] at hR
 have hcl:k=1∨k=4∨k=5∨(k=6∧op=1)∨(k=6∧op=2)∨(k=6∧3≤op):=by omega
 rcases hcl with rfl|rfl|rfl|⟨rfl,rfl⟩|⟨rfl,rfl⟩|⟨rfl,hop⟩
 · rw [if_pos rfl] at hR
   refine xo 2 ?_;refine Zl fun n1=> ?_
   refine Zl fun n2=> ?_
   refine Zm zeroValue220 fun n3=> ?_
   refine ol 5 ?_;refine ox 7 ?_;refine X.kt 17 ?_;refine xl 4 ?_;refine oo 1 ?_;refine stA ?_;refine ox 1 ?_;refine Zq (q) func108 (rA_ results108) ⟨_,rfl,none,0,by rw [←hR];rfl,rfl⟩
 · obtain ⟨x,rfl⟩: ∃ x,args= [x]:=(by match args,hf2 with| [x],_=>exact ⟨x,rfl⟩);obtain ⟨k1,z1,s1,l1,o1,p1,y1,u1,w1⟩:=x
   simp only [Z3,Uq,Bool.and_eq_true] at hp;simp only [Z3,PEx.fits] at hf5;simp only [Z3,W1,List.getD_cons_zero,List.getD_cons_succ] at hR
   obtain ⟨A,hA1⟩: ∃ A,(Ex.er (.mk k1 z1 s1 l1 o1 p1 y1 u1 w1)).ev=A:=⟨_,rfl⟩;have hAv:val A.1:=(by rw [←hA1];exact Qs hf5.1);have hs1:Ex.sz (.mk k1 z1 s1 l1 o1 p1 y1 u1 w1)<Ex.sz (.mk 0 z nm sl lo 0 [(.mk k1 z1 s1 l1 o1 p1 y1 u1 w1)] aa ac):=(by simp only [Ex.sz,U4];omega);have hK1:Kn q fun M=>Ex.At M (.mk k1 z1 s1 l1 o1 p1 y1 u1 w1):=Qe (args:= [(.mk k1 z1 s1 l1 o1 p1 y1 u1 w1)]) h (i:=0) (by simp);rw [hA1] at hR;simp only [Int.reduceEq,if_false,if_true,reduceIte,true_and,false_and,or_false,false_or] at hR
   have hI1: ∀ {q:List HP},(Kn q fun M=>Ex.At M (.mk k1 z1 s1 l1 o1 p1 y1 u1 w1))→CallF prog G 108 [.agg #[.slice none 0 0,.slice none 0 0,.int .i64 0,.int .i64 0,.slice none 0 0,.slice none 0 0,.int .i64 0,.int .i64 0,.slice none 0 0,.slice none 0 0,.slice none 0 0,.slice none 0 0,.slice none 0 0,.slice none 0 0,.slice none 0 0,.slice none 0 0,.slice none 0 0,.slice none 0 0,.slice none 0 0,.int .i64 0,.int .i64 0,.int .i64 0,.int .i64 0],.agg (exC (.mk k1 z1 s1 l1 o1 p1 y1 u1 w1)).toArray,.slice none 0 0] q (Ret fun v q'=> ∃ (ra:Option Addr) (rc:Nat),v= .agg [.int .i64 A.1,.int .i64 A.2,.slice ra 0 rc].toArray∧q'=q):=(by intro q h;rw [←hA1];exact IH (.mk k1 z1 s1 l1 o1 p1 y1 u1 w1) hs1 h hp.1 hf5.1)
   have hl0:0<([(.mk k1 z1 s1 l1 o1 p1 y1 u1 w1)]:List Ex).length:=by simp
   refine xo 2 ?_;refine Zl fun n1=> ?_
   refine Zl fun n2=> ?_
   refine Zm zeroValue220 fun n3=> ?_
   refine ol 5 ?_;refine ox 7 ?_;refine kx 17 6 ?_;refine kx 22 4 ?_;refine drw ?_;refine Yw 0 ?_;refine dl [1] 2 ?_;refine Wp hA (by simp [Z4]) (fun b9 o9 e9=> ?_);subst e9
   have hx0: ∀ (Q:List HP),Le Q q→ ∀ (j:Nat) (v:Value),(exC (.mk k1 z1 s1 l1 o1 p1 y1 u1 w1))[j]? =some v→Cl Q ⟨b9,o9+(0:Int).toNat*7+j,none⟩ v:=fun Q hQ j v hk=>Wk (j:=0) (n:=0) (sz:=7) hA hQ Z4 hl0 rfl j v hk;have hr0: ∀ (Q:List HP) (i:Nat),Le Q q→HL Q (rdA i b9 (o9+(0:Int).toNat*7) (exC (.mk k1 z1 s1 l1 o1 p1 y1 u1 w1))):=fun Q i hQ=>HL.rdA fun j v hk=>hx0 Q hQ j v hk
   refine dd [3] ?_;refine V9 4 (m:=0) isAgg215 sizeOf215 hA hl0 ?_ (hf:=Z4)
   refine dd [5] ?_;refine Yb (fl:= [⟨7,7,fun g=> .pointer (some ⟨g,0,none⟩),fun g=>pto g (.cells [.int .i64 0,.int .i64 0,.slice none 0 0].toArray 220 (0,0))⟩]) ?_
   refine Jr 6 ⟨⟨_,rfl,rfl,rfl,rfl,rfl,rfl,fun q=>Ef.alloc zeroValue220⟩,trivial⟩ call108 (Le.refl _) (hI1 (Kn.le hK1)) ?_ (hL:=(hlA (h:=by repeat first|exact trivial|refine ⟨clA,?_⟩|refine HL.app (hr0 _ _ leA) ?_|refine ⟨hx0 _ leA 0 _ rfl,?_⟩|refine ⟨hx0 _ leA _ _ rfl,?_⟩)))
   rintro _ _ ⟨ra1,rc1,rfl,rfl⟩
   refine ⟨(hlA (h:=by repeat first|exact trivial|refine ⟨clA,?_⟩|refine HL.app (hr0 _ _ leA) ?_|refine ⟨hx0 _ leA 0 _ rfl,?_⟩|refine ⟨hx0 _ leA _ _ rfl,?_⟩)),?_⟩
   refine Wn (e0:=⟨7,7,fun g=> .pointer (some ⟨g,0,none⟩),fun g=>pto g (.cells [.int .i64 0,.int .i64 0,.slice none 0 0].toArray 220 (0,0))⟩) (hnd:=by simp) 7 ⟨⟨_,rfl,rfl,rfl,rfl,rfl,rfl,fun q=>Ef.alloc zeroValue220⟩,trivial⟩ (fun nm1=> ?_) (hL:=(hlA (h:=by repeat first|exact trivial|refine ⟨clA,?_⟩|refine HL.app (hr0 _ _ leA) ?_|refine ⟨hx0 _ leA 0 _ rfl,?_⟩|refine ⟨hx0 _ leA _ _ rfl,?_⟩)))
   change XF _ _ _ _ _ _ _ [] _ _ _ ((7,.pointer (some ⟨nm1,0,none⟩))::_) _ _ (pto nm1 (.cells [.int .i64 0,.int .i64 0,.slice none 0 0].toArray 220 (0,0))::_)
   refine XF.back ?_ (hL:=(hlA (h:=by repeat first|exact trivial|refine ⟨clA,?_⟩|refine HL.app (hr0 _ _ leA) ?_|refine ⟨hx0 _ leA 0 _ rfl,?_⟩|refine ⟨hx0 _ leA _ _ rfl,?_⟩)))
   refine Yr 8 ?_;refine XD.nil ?_;refine xl 4 ?_;refine ox 2 ?_;refine X.part 58 rfl (fun h1=> ?_) (fun h1=> ?_)
   focus
    replace h1:=sp h1
    refine xo 3 ?_;refine ldA ?_
   rotate_left
   focus
    replace h1:=sp h1
    refine xl 6 ?_;refine ox 7 ?_;refine kx 62 6 ?_;refine X.kt 92 ?_;refine xl 4 ?_;refine XO.cR call161 (Pj (op:=8) (u:=0) (z:=A.1) (by omega) (by decide) hAv) ?_
    refine ol 11 ?_;refine oo 1 ?_
   all_goals
    refine stA ?_;refine ox 1 ?_
    repeat (first|rw [if_pos (by omega)] at hR|rw [if_neg (by omega)] at hR)
    refine Zq (q) func108 (rA_ results108) ⟨_,rfl,ra1,rc1,by rw [←hR];rfl,rfl⟩
 · obtain ⟨x,rfl⟩: ∃ x,args= [x]:=(by match args,hf2 with| [x],_=>exact ⟨x,rfl⟩);obtain ⟨k1,z1,s1,l1,o1,p1,y1,u1,w1⟩:=x
   simp only [Z3,Uq,Bool.and_eq_true] at hp;simp only [Z3,PEx.fits] at hf5;simp only [Z3,W1,List.getD_cons_zero,List.getD_cons_succ] at hR
   obtain ⟨A,hA1⟩: ∃ A,(Ex.er (.mk k1 z1 s1 l1 o1 p1 y1 u1 w1)).ev=A:=⟨_,rfl⟩;have hAv:val A.1:=(by rw [←hA1];exact Qs hf5.1);have hs1:Ex.sz (.mk k1 z1 s1 l1 o1 p1 y1 u1 w1)<Ex.sz (.mk 0 z nm sl lo 0 [(.mk k1 z1 s1 l1 o1 p1 y1 u1 w1)] aa ac):=(by simp only [Ex.sz,U4];omega);have hK1:Kn q fun M=>Ex.At M (.mk k1 z1 s1 l1 o1 p1 y1 u1 w1):=Qe (args:= [(.mk k1 z1 s1 l1 o1 p1 y1 u1 w1)]) h (i:=0) (by simp);rw [hA1] at hR;simp only [Int.reduceEq,if_false,if_true,reduceIte,true_and,false_and,or_false,false_or] at hR
   have hI1: ∀ {q:List HP},(Kn q fun M=>Ex.At M (.mk k1 z1 s1 l1 o1 p1 y1 u1 w1))→CallF prog G 108 [.agg #[.slice none 0 0,.slice none 0 0,.int .i64 0,.int .i64 0,.slice none 0 0,.slice none 0 0,.int .i64 0,.int .i64 0,.slice none 0 0,.slice none 0 0,.slice none 0 0,.slice none 0 0,.slice none 0 0,.slice none 0 0,.slice none 0 0,.slice none 0 0,.slice none 0 0,.slice none 0 0,.slice none 0 0,.int .i64 0,.int .i64 0,.int .i64 0,.int .i64 0],.agg (exC (.mk k1 z1 s1 l1 o1 p1 y1 u1 w1)).toArray,.slice none 0 0] q (Ret fun v q'=> ∃ (ra:Option Addr) (rc:Nat),v= .agg [.int .i64 A.1,.int .i64 A.2,.slice ra 0 rc].toArray∧q'=q):=(by intro q h;rw [←hA1];exact IH (.mk k1 z1 s1 l1 o1 p1 y1 u1 w1) hs1 h hp.1 hf5.1)
   have hl0:0<([(.mk k1 z1 s1 l1 o1 p1 y1 u1 w1)]:List Ex).length:=by simp
   refine xo 2 ?_;refine Zl fun n1=> ?_
   refine Zl fun n2=> ?_
   refine Zm zeroValue220 fun n3=> ?_
   refine ol 5 ?_;refine ox 7 ?_;refine kx 17 6 ?_;refine kx 22 4 ?_;refine drw ?_;refine Yw 0 ?_;refine dl [1] 2 ?_;refine Wp hA (by simp [Z4]) (fun b9 o9 e9=> ?_);subst e9
   have hx0: ∀ (Q:List HP),Le Q q→ ∀ (j:Nat) (v:Value),(exC (.mk k1 z1 s1 l1 o1 p1 y1 u1 w1))[j]? =some v→Cl Q ⟨b9,o9+(0:Int).toNat*7+j,none⟩ v:=fun Q hQ j v hk=>Wk (j:=0) (n:=0) (sz:=7) hA hQ Z4 hl0 rfl j v hk;have hr0: ∀ (Q:List HP) (i:Nat),Le Q q→HL Q (rdA i b9 (o9+(0:Int).toNat*7) (exC (.mk k1 z1 s1 l1 o1 p1 y1 u1 w1))):=fun Q i hQ=>HL.rdA fun j v hk=>hx0 Q hQ j v hk
   refine dd [3] ?_;refine V9 4 (m:=0) isAgg215 sizeOf215 hA hl0 ?_ (hf:=Z4)
   refine dd [5] ?_;refine Yb (fl:= [⟨7,7,fun g=> .pointer (some ⟨g,0,none⟩),fun g=>pto g (.cells [.int .i64 0,.int .i64 0,.slice none 0 0].toArray 220 (0,0))⟩]) ?_
   refine Jr 6 ⟨⟨_,rfl,rfl,rfl,rfl,rfl,rfl,fun q=>Ef.alloc zeroValue220⟩,trivial⟩ call108 (Le.refl _) (hI1 (Kn.le hK1)) ?_ (hL:=(hlA (h:=by repeat first|exact trivial|refine ⟨clA,?_⟩|refine HL.app (hr0 _ _ leA) ?_|refine ⟨hx0 _ leA 0 _ rfl,?_⟩|refine ⟨hx0 _ leA _ _ rfl,?_⟩)))
   rintro _ _ ⟨ra1,rc1,rfl,rfl⟩
   refine ⟨(hlA (h:=by repeat first|exact trivial|refine ⟨clA,?_⟩|refine HL.app (hr0 _ _ leA) ?_|refine ⟨hx0 _ leA 0 _ rfl,?_⟩|refine ⟨hx0 _ leA _ _ rfl,?_⟩)),?_⟩
   refine Wn (e0:=⟨7,7,fun g=> .pointer (some ⟨g,0,none⟩),fun g=>pto g (.cells [.int .i64 0,.int .i64 0,.slice none 0 0].toArray 220 (0,0))⟩) (hnd:=by simp) 7 ⟨⟨_,rfl,rfl,rfl,rfl,rfl,rfl,fun q=>Ef.alloc zeroValue220⟩,trivial⟩ (fun nm1=> ?_) (hL:=(hlA (h:=by repeat first|exact trivial|refine ⟨clA,?_⟩|refine HL.app (hr0 _ _ leA) ?_|refine ⟨hx0 _ leA 0 _ rfl,?_⟩|refine ⟨hx0 _ leA _ _ rfl,?_⟩)))
   change XF _ _ _ _ _ _ _ [] _ _ _ ((7,.pointer (some ⟨nm1,0,none⟩))::_) _ _ (pto nm1 (.cells [.int .i64 0,.int .i64 0,.slice none 0 0].toArray 220 (0,0))::_)
   refine XF.back ?_ (hL:=(hlA (h:=by repeat first|exact trivial|refine ⟨clA,?_⟩|refine HL.app (hr0 _ _ leA) ?_|refine ⟨hx0 _ leA 0 _ rfl,?_⟩|refine ⟨hx0 _ leA _ _ rfl,?_⟩)))
   refine Yr 8 ?_;refine XD.nil ?_;refine xl 4 ?_;refine ox 2 ?_;refine X.part 58 rfl (fun h1=> ?_) (fun h1=> ?_)
   focus
    replace h1:=sp h1
    refine xo 3 ?_;refine ldA ?_;refine stA ?_;refine ox 1 ?_
   rotate_left
   focus
    replace h1:=sp h1
    refine xl 6 ?_;refine ox 7 ?_;refine kx 62 6 ?_;refine kx 92 6 ?_;refine X.kt 105 ?_;refine xx 2 ?_;refine drw ?_;refine dl [0] 1 ?_;refine dl [2,4] 5 ?_;refine Z8 3 call162 (Va) ?_ (hL:=(hlA (h:=by repeat first|exact trivial|refine ⟨clA,?_⟩|refine HL.app (hr0 _ _ leA) ?_|refine ⟨hx0 _ leA 0 _ rfl,?_⟩|refine ⟨hx0 _ leA _ _ rfl,?_⟩)))
    refine dd [6] ?_;refine Yr 7 ?_;refine XD.nil ?_
   all_goals
    repeat (first|rw [if_pos (by omega)] at hR|rw [if_neg (by omega)] at hR)
    refine Zq (q) func108 (rA_ results108) ⟨_,rfl,ra1,rc1,by rw [←hR];rfl,rfl⟩
 iterate 3
  focus
   obtain ⟨x,x2,rfl⟩: ∃ x y,args= [x,y]:=(by match args,hf2 with| [x,y],_=>exact ⟨x,y,rfl⟩);obtain ⟨k1,z1,s1,l1,o1,p1,y1,u1,w1⟩:=x;obtain ⟨k2,z2,s2,l2,o2,p2,y2,u2,w2⟩:=x2
   simp only [Z3,Uq,Bool.and_eq_true] at hp;simp only [Z3,PEx.fits] at hf5;simp only [Z3,W1,List.getD_cons_zero,List.getD_cons_succ] at hR
   obtain ⟨A,hA1⟩: ∃ A,(Ex.er (.mk k1 z1 s1 l1 o1 p1 y1 u1 w1)).ev=A:=⟨_,rfl⟩;have hAv:val A.1:=(by rw [←hA1];exact Qs hf5.1);have hs1:Ex.sz (.mk k1 z1 s1 l1 o1 p1 y1 u1 w1)<Ex.sz (.mk 0 z nm sl lo 0 [(.mk k1 z1 s1 l1 o1 p1 y1 u1 w1),(.mk k2 z2 s2 l2 o2 p2 y2 u2 w2)] aa ac):=(by simp only [Ex.sz,U4];omega);have hK1:Kn q fun M=>Ex.At M (.mk k1 z1 s1 l1 o1 p1 y1 u1 w1):=Qe (args:= [(.mk k1 z1 s1 l1 o1 p1 y1 u1 w1),(.mk k2 z2 s2 l2 o2 p2 y2 u2 w2)]) h (i:=0) (by simp);rw [hA1] at hR;simp only [Int.reduceEq,if_false,if_true,reduceIte,true_and,false_and,or_false,false_or] at hR
   obtain ⟨B,hB1⟩: ∃ B,(Ex.er (.mk k2 z2 s2 l2 o2 p2 y2 u2 w2)).ev=B:=⟨_,rfl⟩;have hBv:val B.1:=(by rw [←hB1];exact Qs hf5.2.1);have hs2:Ex.sz (.mk k2 z2 s2 l2 o2 p2 y2 u2 w2)<Ex.sz (.mk 0 z nm sl lo 0 [(.mk k1 z1 s1 l1 o1 p1 y1 u1 w1),(.mk k2 z2 s2 l2 o2 p2 y2 u2 w2)] aa ac):=(by simp only [Ex.sz,U4];omega);have hK2:Kn q fun M=>Ex.At M (.mk k2 z2 s2 l2 o2 p2 y2 u2 w2):=Qe (args:= [(.mk k1 z1 s1 l1 o1 p1 y1 u1 w1),(.mk k2 z2 s2 l2 o2 p2 y2 u2 w2)]) h (i:=1) (by simp);rw [hB1] at hR
   have hI1: ∀ {q:List HP},(Kn q fun M=>Ex.At M (.mk k1 z1 s1 l1 o1 p1 y1 u1 w1))→CallF prog G 108 [.agg #[.slice none 0 0,.slice none 0 0,.int .i64 0,.int .i64 0,.slice none 0 0,.slice none 0 0,.int .i64 0,.int .i64 0,.slice none 0 0,.slice none 0 0,.slice none 0 0,.slice none 0 0,.slice none 0 0,.slice none 0 0,.slice none 0 0,.slice none 0 0,.slice none 0 0,.slice none 0 0,.slice none 0 0,.int .i64 0,.int .i64 0,.int .i64 0,.int .i64 0],.agg (exC (.mk k1 z1 s1 l1 o1 p1 y1 u1 w1)).toArray,.slice none 0 0] q (Ret fun v q'=> ∃ (ra:Option Addr) (rc:Nat),v= .agg [.int .i64 A.1,.int .i64 A.2,.slice ra 0 rc].toArray∧q'=q):=(by intro q h;rw [←hA1];exact IH (.mk k1 z1 s1 l1 o1 p1 y1 u1 w1) hs1 h hp.1 hf5.1)
   have hI2: ∀ {q:List HP},(Kn q fun M=>Ex.At M (.mk k2 z2 s2 l2 o2 p2 y2 u2 w2))→CallF prog G 108 [.agg #[.slice none 0 0,.slice none 0 0,.int .i64 0,.int .i64 0,.slice none 0 0,.slice none 0 0,.int .i64 0,.int .i64 0,.slice none 0 0,.slice none 0 0,.slice none 0 0,.slice none 0 0,.slice none 0 0,.slice none 0 0,.slice none 0 0,.slice none 0 0,.slice none 0 0,.slice none 0 0,.slice none 0 0,.int .i64 0,.int .i64 0,.int .i64 0,.int .i64 0],.agg (exC (.mk k2 z2 s2 l2 o2 p2 y2 u2 w2)).toArray,.slice none 0 0] q (Ret fun v q'=> ∃ (ra:Option Addr) (rc:Nat),v= .agg [.int .i64 B.1,.int .i64 B.2,.slice ra 0 rc].toArray∧q'=q):=(by intro q h;rw [←hB1];exact IH (.mk k2 z2 s2 l2 o2 p2 y2 u2 w2) hs2 h hp.2.1 hf5.2.1)
   have hl0:0<([(.mk k1 z1 s1 l1 o1 p1 y1 u1 w1),(.mk k2 z2 s2 l2 o2 p2 y2 u2 w2)]:List Ex).length:=by simp
   have hl1:1<([(.mk k1 z1 s1 l1 o1 p1 y1 u1 w1),(.mk k2 z2 s2 l2 o2 p2 y2 u2 w2)]:List Ex).length:=by simp
   refine xo 2 ?_;refine Zl fun n1=> ?_
   refine Zl fun n2=> ?_
   refine Zm zeroValue220 fun n3=> ?_
   refine ol 5 ?_;refine ox 7 ?_;refine kx 17 6 ?_;refine kx 22 4 ?_;refine drw ?_;refine Yw 0 ?_;refine dl [1] 2 ?_;refine Wp hA (by simp [Z4]) (fun b9 o9 e9=> ?_);subst e9
   have hx0: ∀ (Q:List HP),Le Q q→ ∀ (j:Nat) (v:Value),(exC (.mk k1 z1 s1 l1 o1 p1 y1 u1 w1))[j]? =some v→Cl Q ⟨b9,o9+(0:Int).toNat*7+j,none⟩ v:=fun Q hQ j v hk=>Wk (j:=0) (n:=0) (sz:=7) hA hQ Z4 hl0 rfl j v hk;have hr0: ∀ (Q:List HP) (i:Nat),Le Q q→HL Q (rdA i b9 (o9+(0:Int).toNat*7) (exC (.mk k1 z1 s1 l1 o1 p1 y1 u1 w1))):=fun Q i hQ=>HL.rdA fun j v hk=>hx0 Q hQ j v hk
   have hx1: ∀ (Q:List HP),Le Q q→ ∀ (j:Nat) (v:Value),(exC (.mk k2 z2 s2 l2 o2 p2 y2 u2 w2))[j]? =some v→Cl Q ⟨b9,o9+(1:Int).toNat*7+j,none⟩ v:=fun Q hQ j v hk=>Wk (j:=1) (n:=1) (sz:=7) hA hQ Z4 hl1 rfl j v hk;have hr1: ∀ (Q:List HP) (i:Nat),Le Q q→HL Q (rdA i b9 (o9+(1:Int).toNat*7) (exC (.mk k2 z2 s2 l2 o2 p2 y2 u2 w2))):=fun Q i hQ=>HL.rdA fun j v hk=>hx1 Q hQ j v hk
   refine dd [3] ?_;refine V9 4 (m:=0) isAgg215 sizeOf215 hA hl0 ?_ (hf:=Z4)
   refine dd [5] ?_;refine Yb (fl:= [⟨7,7,fun g=> .pointer (some ⟨g,0,none⟩),fun g=>pto g (.cells [.int .i64 0,.int .i64 0,.slice none 0 0].toArray 220 (0,0))⟩]) ?_
   refine Jr 6 ⟨⟨_,rfl,rfl,rfl,rfl,rfl,rfl,fun q=>Ef.alloc zeroValue220⟩,trivial⟩ call108 (Le.refl _) (hI1 (Kn.le hK1)) ?_ (hL:=(hlA (h:=by repeat first|exact trivial|refine ⟨clA,?_⟩|refine HL.app (hr0 _ _ leA) ?_|refine ⟨hx0 _ leA 0 _ rfl,?_⟩|refine ⟨hx0 _ leA _ _ rfl,?_⟩|refine HL.app (hr1 _ _ leA) ?_|refine ⟨hx1 _ leA 0 _ rfl,?_⟩|refine ⟨hx1 _ leA _ _ rfl,?_⟩)))
   rintro _ _ ⟨ra1,rc1,rfl,rfl⟩
   refine ⟨(hlA (h:=by repeat first|exact trivial|refine ⟨clA,?_⟩|refine HL.app (hr0 _ _ leA) ?_|refine ⟨hx0 _ leA 0 _ rfl,?_⟩|refine ⟨hx0 _ leA _ _ rfl,?_⟩|refine HL.app (hr1 _ _ leA) ?_|refine ⟨hx1 _ leA 0 _ rfl,?_⟩|refine ⟨hx1 _ leA _ _ rfl,?_⟩)),?_⟩
   refine Wn (e0:=⟨7,7,fun g=> .pointer (some ⟨g,0,none⟩),fun g=>pto g (.cells [.int .i64 0,.int .i64 0,.slice none 0 0].toArray 220 (0,0))⟩) (hnd:=by simp) 7 ⟨⟨_,rfl,rfl,rfl,rfl,rfl,rfl,fun q=>Ef.alloc zeroValue220⟩,trivial⟩ (fun nm1=> ?_) (hL:=(hlA (h:=by repeat first|exact trivial|refine ⟨clA,?_⟩|refine HL.app (hr0 _ _ leA) ?_|refine ⟨hx0 _ leA 0 _ rfl,?_⟩|refine ⟨hx0 _ leA _ _ rfl,?_⟩|refine HL.app (hr1 _ _ leA) ?_|refine ⟨hx1 _ leA 0 _ rfl,?_⟩|refine ⟨hx1 _ leA _ _ rfl,?_⟩)))
   change XF _ _ _ _ _ _ _ [] _ _ _ ((7,.pointer (some ⟨nm1,0,none⟩))::_) _ _ (pto nm1 (.cells [.int .i64 0,.int .i64 0,.slice none 0 0].toArray 220 (0,0))::_)
   refine XF.back ?_ (hL:=(hlA (h:=by repeat first|exact trivial|refine ⟨clA,?_⟩|refine HL.app (hr0 _ _ leA) ?_|refine ⟨hx0 _ leA 0 _ rfl,?_⟩|refine ⟨hx0 _ leA _ _ rfl,?_⟩|refine HL.app (hr1 _ _ leA) ?_|refine ⟨hx1 _ leA 0 _ rfl,?_⟩|refine ⟨hx1 _ leA _ _ rfl,?_⟩)))
   refine Yr 8 ?_;refine XD.nil ?_;refine xl 4 ?_;refine ox 2 ?_;refine X.part 58 rfl (fun h1=> ?_) (fun h1=> ?_)
   · replace h1:=sp h1
     refine xo 3 ?_;refine ldA ?_;refine stA ?_;refine ox 1 ?_
     repeat (first|rw [if_pos (by omega)] at hR|rw [if_neg (by omega)] at hR)
     refine Zq (q) func108 (rA_ results108) ⟨_,rfl,ra1,rc1,by rw [←hR];rfl,rfl⟩
   replace h1:=sp h1
   refine xl 6 ?_;refine ox 7 ?_;refine kx 62 6 ?_;refine kx 92 6 ?_;refine W0 105 ?_;refine xl 6 ?_;refine oo 8 ?_
  rotate_left
 focus
  refine XO.kt 118 ?_;refine ol 1 ?_;refine oo 3 ?_;refine XO.part 123 rfl (fun h2=> ?_) (fun h2=> ?_)
  · replace h2:=sp h2
    refine ox 11 ?_;refine drw ?_;refine dl [0,1,3] 4 ?_;refine Z8 2 call162 (Va) ?_ (hL:=(hlA (h:=by repeat first|exact trivial|refine ⟨clA,?_⟩|refine HL.app (hr0 _ _ leA) ?_|refine ⟨hx0 _ leA 0 _ rfl,?_⟩|refine ⟨hx0 _ leA _ _ rfl,?_⟩|refine HL.app (hr1 _ _ leA) ?_|refine ⟨hx1 _ leA 0 _ rfl,?_⟩|refine ⟨hx1 _ leA _ _ rfl,?_⟩)))
    refine dd [5] ?_;refine Yr 6 ?_;refine XD.nil ?_
    repeat (first|rw [if_pos (by omega)] at hR|rw [if_neg (by omega)] at hR)
    refine Zq (q) func108 (rA_ results108) ⟨_,rfl,ra1,rc1,by rw [←hR];rfl,rfl⟩
  replace h2:=sp h2
  refine oo 3 ?_;refine Y4 126 ?_;refine ox 9 ?_;refine drw ?_;refine Yw 0 ?_;refine dl [1] 2 ?_;refine dd [3] ?_;refine V9 4 (m:=1) isAgg215 sizeOf215 hA hl1 ?_ (hf:=Z4)
  refine dd [5] ?_;refine Yb (fl:= [⟨7,12,fun g=> .pointer (some ⟨g,0,none⟩),fun g=>pto g (.cells [.int .i64 0,.int .i64 0,.slice none 0 0].toArray 220 (0,0))⟩]) ?_
  refine Jr 6 ⟨⟨_,rfl,rfl,rfl,rfl,rfl,rfl,fun q=>Ef.alloc zeroValue220⟩,trivial⟩ call108 (Le.refl _) (hI2 (Kn.le hK2)) ?_ (hL:=(hlA (h:=by repeat first|exact trivial|refine ⟨clA,?_⟩|refine HL.app (hr0 _ _ leA) ?_|refine ⟨hx0 _ leA 0 _ rfl,?_⟩|refine ⟨hx0 _ leA _ _ rfl,?_⟩|refine HL.app (hr1 _ _ leA) ?_|refine ⟨hx1 _ leA 0 _ rfl,?_⟩|refine ⟨hx1 _ leA _ _ rfl,?_⟩)))
  rintro _ _ ⟨ra2,rc2,rfl,rfl⟩
  refine ⟨(hlA (h:=by repeat first|exact trivial|refine ⟨clA,?_⟩|refine HL.app (hr0 _ _ leA) ?_|refine ⟨hx0 _ leA 0 _ rfl,?_⟩|refine ⟨hx0 _ leA _ _ rfl,?_⟩|refine HL.app (hr1 _ _ leA) ?_|refine ⟨hx1 _ leA 0 _ rfl,?_⟩|refine ⟨hx1 _ leA _ _ rfl,?_⟩)),?_⟩
  refine Wn (e0:=⟨7,12,fun g=> .pointer (some ⟨g,0,none⟩),fun g=>pto g (.cells [.int .i64 0,.int .i64 0,.slice none 0 0].toArray 220 (0,0))⟩) (hnd:=by simp) 7 ⟨⟨_,rfl,rfl,rfl,rfl,rfl,rfl,fun q=>Ef.alloc zeroValue220⟩,trivial⟩ (fun nm2=> ?_) (hL:=(hlA (h:=by repeat first|exact trivial|refine ⟨clA,?_⟩|refine HL.app (hr0 _ _ leA) ?_|refine ⟨hx0 _ leA 0 _ rfl,?_⟩|refine ⟨hx0 _ leA _ _ rfl,?_⟩|refine HL.app (hr1 _ _ leA) ?_|refine ⟨hx1 _ leA 0 _ rfl,?_⟩|refine ⟨hx1 _ leA _ _ rfl,?_⟩)))
  change XF _ _ _ _ _ _ _ [] _ _ _ ((12,.pointer (some ⟨nm2,0,none⟩))::_) _ _ (pto nm2 (.cells [.int .i64 0,.int .i64 0,.slice none 0 0].toArray 220 (0,0))::_)
  refine XF.back ?_ (hL:=(hlA (h:=by repeat first|exact trivial|refine ⟨clA,?_⟩|refine HL.app (hr0 _ _ leA) ?_|refine ⟨hx0 _ leA 0 _ rfl,?_⟩|refine ⟨hx0 _ leA _ _ rfl,?_⟩|refine HL.app (hr1 _ _ leA) ?_|refine ⟨hx1 _ leA 0 _ rfl,?_⟩|refine ⟨hx1 _ leA _ _ rfl,?_⟩)))
  refine Yr 8 ?_;refine XD.nil ?_;refine xx 1 ?_;refine drw ?_;refine dl [0] 1 ?_;refine dl [3] 4 ?_;refine XD.le (q':=rsH Af 3 45 none 0 []::_) (Yx _ _ _ _) ?_
  refine XD.ef 2 rfl (Zo (f:=Af) (l:= []) (m:= []) underlying218 Ns rfl rfl (fun _=>rfl) rfl rfl Zj (Sees.nil _ _) (fun _=>rfl) (by simp) (by simp)) ?_
  rintro _ _ ⟨a2,c2,rfl,rfl⟩
  refine ⟨(hlA (h:=by repeat first|exact trivial|refine ⟨clA,?_⟩|refine HL.app (hr0 _ _ leA) ?_|refine ⟨hx0 _ leA 0 _ rfl,?_⟩|refine ⟨hx0 _ leA _ _ rfl,?_⟩|refine HL.app (hr1 _ _ leA) ?_|refine ⟨hx1 _ leA 0 _ rfl,?_⟩|refine ⟨hx1 _ leA _ _ rfl,?_⟩)),?_⟩
  refine XD.ef 5 rfl (Zo (f:=Af) (l:= []) (m:= []) underlying218 Ns rfl rfl (fun _=>rfl) rfl rfl Zj (Sees.nil _ _) (fun _=>rfl) (by simp) (by simp)) ?_
  rintro _ _ ⟨a3,c3,rfl,rfl⟩
  refine ⟨trivial,?_⟩
  refine dd [6] ?_;refine stD 7 ?_;refine XD.nil ?_;refine xl 4 ?_;refine ox 2 ?_;refine X.part 154 rfl (fun h3=> ?_) (fun h3=> ?_)
  focus
   replace h3:=sp h3
   refine xo 3 ?_
  rotate_left
  focus
   replace h3:=sp h3
   refine xx 8 ?_;refine X.kt 157 ?_;refine xl 4 ?_;refine oo 1 ?_;refine XO.cR call162 (Va) ?_;refine oo 1 ?_;refine st ?_;refine oo 3 ?_
  all_goals
   refine ldA ?_
 rotate_left 2
 focus
  refine Y4 118 ?_;refine oo 8 ?_;refine XO.kt 126 ?_;refine ol 1 ?_;refine ox 4 ?_;refine X.part 131 rfl (fun h2=> ?_) (fun h2=> ?_)
  · replace h2:=sp h2
    refine xx 2 ?_;refine drw ?_;refine dl [0,1,3] 4 ?_;refine Z8 2 call162 (Va) ?_ (hL:=(hlA (h:=by repeat first|exact trivial|refine ⟨clA,?_⟩|refine HL.app (hr0 _ _ leA) ?_|refine ⟨hx0 _ leA 0 _ rfl,?_⟩|refine ⟨hx0 _ leA _ _ rfl,?_⟩|refine HL.app (hr1 _ _ leA) ?_|refine ⟨hx1 _ leA 0 _ rfl,?_⟩|refine ⟨hx1 _ leA _ _ rfl,?_⟩)))
    refine dd [5] ?_;refine Yr 6 ?_;refine XD.nil ?_
    repeat (first|rw [if_pos (by omega)] at hR|rw [if_neg (by omega)] at hR)
    refine Zq (q) func108 (rA_ results108) ⟨_,rfl,ra1,rc1,by rw [←hR];rfl,rfl⟩
  replace h2:=sp h2
  refine xx 3 ?_;refine drw ?_;refine Yw 0 ?_;refine dl [1] 2 ?_;refine dd [3] ?_;refine V9 4 (m:=1) isAgg215 sizeOf215 hA hl1 ?_ (hf:=Z4)
  refine dd [5] ?_;refine Yb (fl:= [⟨7,12,fun g=> .pointer (some ⟨g,0,none⟩),fun g=>pto g (.cells [.int .i64 0,.int .i64 0,.slice none 0 0].toArray 220 (0,0))⟩]) ?_
  refine Jr 6 ⟨⟨_,rfl,rfl,rfl,rfl,rfl,rfl,fun q=>Ef.alloc zeroValue220⟩,trivial⟩ call108 (Le.refl _) (hI2 (Kn.le hK2)) ?_ (hL:=(hlA (h:=by repeat first|exact trivial|refine ⟨clA,?_⟩|refine HL.app (hr0 _ _ leA) ?_|refine ⟨hx0 _ leA 0 _ rfl,?_⟩|refine ⟨hx0 _ leA _ _ rfl,?_⟩|refine HL.app (hr1 _ _ leA) ?_|refine ⟨hx1 _ leA 0 _ rfl,?_⟩|refine ⟨hx1 _ leA _ _ rfl,?_⟩)))
  rintro _ _ ⟨ra2,rc2,rfl,rfl⟩
  refine ⟨(hlA (h:=by repeat first|exact trivial|refine ⟨clA,?_⟩|refine HL.app (hr0 _ _ leA) ?_|refine ⟨hx0 _ leA 0 _ rfl,?_⟩|refine ⟨hx0 _ leA _ _ rfl,?_⟩|refine HL.app (hr1 _ _ leA) ?_|refine ⟨hx1 _ leA 0 _ rfl,?_⟩|refine ⟨hx1 _ leA _ _ rfl,?_⟩)),?_⟩
  refine Wn (e0:=⟨7,12,fun g=> .pointer (some ⟨g,0,none⟩),fun g=>pto g (.cells [.int .i64 0,.int .i64 0,.slice none 0 0].toArray 220 (0,0))⟩) (hnd:=by simp) 7 ⟨⟨_,rfl,rfl,rfl,rfl,rfl,rfl,fun q=>Ef.alloc zeroValue220⟩,trivial⟩ (fun nm2=> ?_) (hL:=(hlA (h:=by repeat first|exact trivial|refine ⟨clA,?_⟩|refine HL.app (hr0 _ _ leA) ?_|refine ⟨hx0 _ leA 0 _ rfl,?_⟩|refine ⟨hx0 _ leA _ _ rfl,?_⟩|refine HL.app (hr1 _ _ leA) ?_|refine ⟨hx1 _ leA 0 _ rfl,?_⟩|refine ⟨hx1 _ leA _ _ rfl,?_⟩)))
  change XF _ _ _ _ _ _ _ [] _ _ _ ((12,.pointer (some ⟨nm2,0,none⟩))::_) _ _ (pto nm2 (.cells [.int .i64 0,.int .i64 0,.slice none 0 0].toArray 220 (0,0))::_)
  refine XF.back ?_ (hL:=(hlA (h:=by repeat first|exact trivial|refine ⟨clA,?_⟩|refine HL.app (hr0 _ _ leA) ?_|refine ⟨hx0 _ leA 0 _ rfl,?_⟩|refine ⟨hx0 _ leA _ _ rfl,?_⟩|refine HL.app (hr1 _ _ leA) ?_|refine ⟨hx1 _ leA 0 _ rfl,?_⟩|refine ⟨hx1 _ leA _ _ rfl,?_⟩)))
  refine Yr 8 ?_;refine XD.nil ?_;refine xx 1 ?_;refine drw ?_;refine dl [0] 1 ?_;refine dl [3] 4 ?_;refine XD.le (q':=rsH Af 3 45 none 0 []::_) (Yx _ _ _ _) ?_
  refine XD.ef 2 rfl (Zo (f:=Af) (l:= []) (m:= []) underlying218 Ns rfl rfl (fun _=>rfl) rfl rfl Zj (Sees.nil _ _) (fun _=>rfl) (by simp) (by simp)) ?_
  rintro _ _ ⟨a2,c2,rfl,rfl⟩
  refine ⟨(hlA (h:=by repeat first|exact trivial|refine ⟨clA,?_⟩|refine HL.app (hr0 _ _ leA) ?_|refine ⟨hx0 _ leA 0 _ rfl,?_⟩|refine ⟨hx0 _ leA _ _ rfl,?_⟩|refine HL.app (hr1 _ _ leA) ?_|refine ⟨hx1 _ leA 0 _ rfl,?_⟩|refine ⟨hx1 _ leA _ _ rfl,?_⟩)),?_⟩
  refine XD.ef 5 rfl (Zo (f:=Af) (l:= []) (m:= []) underlying218 Ns rfl rfl (fun _=>rfl) rfl rfl Zj (Sees.nil _ _) (fun _=>rfl) (by simp) (by simp)) ?_
  rintro _ _ ⟨a3,c3,rfl,rfl⟩
  refine ⟨trivial,?_⟩
  refine dd [6] ?_;refine stD 7 ?_;refine XD.nil ?_;refine xl 4 ?_;refine ox 2 ?_;refine X.part 154 rfl (fun h3=> ?_) (fun h3=> ?_)
  focus
   replace h3:=sp h3
   refine xo 3 ?_
  rotate_left
  focus
   replace h3:=sp h3
   refine xx 8 ?_;refine X.kt 157 ?_;refine xl 4 ?_;refine oo 1 ?_;refine XO.cR call162 (Va) ?_;refine oo 1 ?_;refine st ?_;refine oo 3 ?_
  all_goals
   refine ldA ?_
 rotate_left 2
 focus
  refine Y4 118 ?_;refine oo 8 ?_;refine Y4 126 ?_;refine ox 9 ?_;refine drw ?_;refine Yw 0 ?_;refine dl [1] 2 ?_;refine dd [3] ?_;refine V9 4 (m:=1) isAgg215 sizeOf215 hA hl1 ?_ (hf:=Z4)
  refine dd [5] ?_;refine Yb (fl:= [⟨7,12,fun g=> .pointer (some ⟨g,0,none⟩),fun g=>pto g (.cells [.int .i64 0,.int .i64 0,.slice none 0 0].toArray 220 (0,0))⟩]) ?_
  refine Jr 6 ⟨⟨_,rfl,rfl,rfl,rfl,rfl,rfl,fun q=>Ef.alloc zeroValue220⟩,trivial⟩ call108 (Le.refl _) (hI2 (Kn.le hK2)) ?_ (hL:=(hlA (h:=by repeat first|exact trivial|refine ⟨clA,?_⟩|refine HL.app (hr0 _ _ leA) ?_|refine ⟨hx0 _ leA 0 _ rfl,?_⟩|refine ⟨hx0 _ leA _ _ rfl,?_⟩|refine HL.app (hr1 _ _ leA) ?_|refine ⟨hx1 _ leA 0 _ rfl,?_⟩|refine ⟨hx1 _ leA _ _ rfl,?_⟩)))
  rintro _ _ ⟨ra2,rc2,rfl,rfl⟩
  refine ⟨(hlA (h:=by repeat first|exact trivial|refine ⟨clA,?_⟩|refine HL.app (hr0 _ _ leA) ?_|refine ⟨hx0 _ leA 0 _ rfl,?_⟩|refine ⟨hx0 _ leA _ _ rfl,?_⟩|refine HL.app (hr1 _ _ leA) ?_|refine ⟨hx1 _ leA 0 _ rfl,?_⟩|refine ⟨hx1 _ leA _ _ rfl,?_⟩)),?_⟩
  refine Wn (e0:=⟨7,12,fun g=> .pointer (some ⟨g,0,none⟩),fun g=>pto g (.cells [.int .i64 0,.int .i64 0,.slice none 0 0].toArray 220 (0,0))⟩) (hnd:=by simp) 7 ⟨⟨_,rfl,rfl,rfl,rfl,rfl,rfl,fun q=>Ef.alloc zeroValue220⟩,trivial⟩ (fun nm2=> ?_) (hL:=(hlA (h:=by repeat first|exact trivial|refine ⟨clA,?_⟩|refine HL.app (hr0 _ _ leA) ?_|refine ⟨hx0 _ leA 0 _ rfl,?_⟩|refine ⟨hx0 _ leA _ _ rfl,?_⟩|refine HL.app (hr1 _ _ leA) ?_|refine ⟨hx1 _ leA 0 _ rfl,?_⟩|refine ⟨hx1 _ leA _ _ rfl,?_⟩)))
  change XF _ _ _ _ _ _ _ [] _ _ _ ((12,.pointer (some ⟨nm2,0,none⟩))::_) _ _ (pto nm2 (.cells [.int .i64 0,.int .i64 0,.slice none 0 0].toArray 220 (0,0))::_)
  refine XF.back ?_ (hL:=(hlA (h:=by repeat first|exact trivial|refine ⟨clA,?_⟩|refine HL.app (hr0 _ _ leA) ?_|refine ⟨hx0 _ leA 0 _ rfl,?_⟩|refine ⟨hx0 _ leA _ _ rfl,?_⟩|refine HL.app (hr1 _ _ leA) ?_|refine ⟨hx1 _ leA 0 _ rfl,?_⟩|refine ⟨hx1 _ leA _ _ rfl,?_⟩)))
  refine Yr 8 ?_;refine XD.nil ?_;refine xx 1 ?_;refine drw ?_;refine dl [0] 1 ?_;refine dl [3] 4 ?_;refine XD.le (q':=rsH Af 3 45 none 0 []::_) (Yx _ _ _ _) ?_
  refine XD.ef 2 rfl (Zo (f:=Af) (l:= []) (m:= []) underlying218 Ns rfl rfl (fun _=>rfl) rfl rfl Zj (Sees.nil _ _) (fun _=>rfl) (by simp) (by simp)) ?_
  rintro _ _ ⟨a2,c2,rfl,rfl⟩
  refine ⟨(hlA (h:=by repeat first|exact trivial|refine ⟨clA,?_⟩|refine HL.app (hr0 _ _ leA) ?_|refine ⟨hx0 _ leA 0 _ rfl,?_⟩|refine ⟨hx0 _ leA _ _ rfl,?_⟩|refine HL.app (hr1 _ _ leA) ?_|refine ⟨hx1 _ leA 0 _ rfl,?_⟩|refine ⟨hx1 _ leA _ _ rfl,?_⟩)),?_⟩
  refine XD.ef 5 rfl (Zo (f:=Af) (l:= []) (m:= []) underlying218 Ns rfl rfl (fun _=>rfl) rfl rfl Zj (Sees.nil _ _) (fun _=>rfl) (by simp) (by simp)) ?_
  rintro _ _ ⟨a3,c3,rfl,rfl⟩
  refine ⟨trivial,?_⟩
  refine dd [6] ?_;refine stD 7 ?_;refine XD.nil ?_;refine xl 4 ?_;refine ox 2 ?_;refine X.part 154 rfl (fun h2=> ?_) (fun h2=> ?_)
  focus
   replace h2:=sp h2
   refine xo 3 ?_;refine ldA ?_
  rotate_left
  focus
   replace h2:=sp h2
   refine xx 8 ?_;refine W0 157 ?_;refine xl 6 ?_;refine ol 1 ?_;refine XO.cR call161 (Pj (op:=op) (u:=A.1) (z:=B.1) (by omega) hAv hBv) ?_
   refine ol 11 ?_;refine oo 1 ?_
 all_goals
  refine stA ?_;refine ox 1 ?_
  repeat (first|rw [if_pos (by omega)] at hR|rw [if_neg (by omega)] at hR)
  refine Zq (q) func108 (rA_ results108) ⟨_,rfl,a3,c3,by rw [←hR];rfl,rfl⟩
theorem ev_ok: ∀ (N:Nat) (x:Ex),x.sz≤N→ ∀ {q:List HP},(Kn q fun M=>x.At M)→x.er.plain=true→x.er.fit→CallF prog G 108 [.agg #[.slice none 0 0,.slice none 0 0,.int .i64 0,.int .i64 0,.slice none 0 0,.slice none 0 0,.int .i64 0,.int .i64 0,.slice none 0 0,.slice none 0 0,.slice none 0 0,.slice none 0 0,.slice none 0 0,.slice none 0 0,.slice none 0 0,.slice none 0 0,.slice none 0 0,.slice none 0 0,.slice none 0 0,.int .i64 0,.int .i64 0,.int .i64 0,.int .i64 0],.agg (exC x).toArray,.slice none 0 0] q (Ret fun v q'=> ∃ (ra:Option Addr) (rc:Nat),v= .agg [.int .i64 x.er.ev.1,.int .i64 x.er.ev.2,.slice ra 0 rc].toArray∧q'=q)
 |N,x,hN,_,h,hp,hf=>ev_step (fun y hy _ h2 hp2 hf2=>by
  cases N with
  |zero=>omega
  |succ N=>exact ev_ok N y (by omega) h2 hp2 hf2) h hp hf
set_option maxHeartbeats 1000000 in
theorem const_ok (h:Kn q fun M=>e.At M)(hf:e.er.fit):CallF prog G 194 [.agg (exC e).toArray] (q) (Ret fun v q'=> ∃ n:Int,v= .tuple [.int .i64 n,.bool e.er.one].toArray∧(e.er.one=true→n=e.er.ev.1)∧q'=q):=by
 refine CallF.of func194 ntmps194 rfl (fun F cs=> ?_)
 obtain ⟨k,z,nm,sl,lo,op,args,aa,ac⟩:=e
 obtain ⟨A,hA1⟩: ∃ A,(Ex.er (.mk k z nm sl lo op args aa ac)).ev=A:=⟨_,rfl⟩;obtain ⟨B,hB⟩: ∃ B,(Ex.er (.mk k z nm sl lo op args aa ac)).plain=B:=⟨_,rfl⟩;have hone:(Ex.er (.mk k z nm sl lo op args aa ac)).one=(B && A.2==0):=(by unfold PEx.one;rw [hA1,hB]);rw [hone,hA1]
 have hI: ∀ {q:List HP},(Kn q fun M=>Ex.At M (.mk k z nm sl lo op args aa ac))→B=true→CallF prog G 108 [.agg #[.slice none 0 0,.slice none 0 0,.int .i64 0,.int .i64 0,.slice none 0 0,.slice none 0 0,.int .i64 0,.int .i64 0,.slice none 0 0,.slice none 0 0,.slice none 0 0,.slice none 0 0,.slice none 0 0,.slice none 0 0,.slice none 0 0,.slice none 0 0,.slice none 0 0,.slice none 0 0,.slice none 0 0,.int .i64 0,.int .i64 0,.int .i64 0,.int .i64 0],.agg (exC (.mk k z nm sl lo op args aa ac)).toArray,.slice none 0 0] q (Ret fun v q'=> ∃ (ra:Option Addr) (rc:Nat),v= .agg [.int .i64 A.1,.int .i64 A.2,.slice ra 0 rc].toArray∧q'=q):=(by intro q h hb;rw [←hA1];exact ev_ok _ (.mk k z nm sl lo op args aa ac) (Nat.le_refl _) h (hB.trans hb) hf)
 have hP: ∀ {q:List HP},(Kn q fun M=>Ex.At M (.mk k z nm sl lo op args aa ac))→CallF prog G 203 [.agg (exC (.mk k z nm sl lo op args aa ac)).toArray] q (Ret fun v q'=>v= .bool B∧q'=q):=(by intro q h;rw [←hB];exact Ga _ (.mk k z nm sl lo op args aa ac) (Nat.le_refl _) h)
 refine xo 2 ?_;refine Zl fun n1=> ?_
 refine oo 6 ?_;refine ldA ?_;refine XO.cR call203 (hP (h.le leA)) ?_;refine Zc (Pu.not rfl) ?_;refine ox 1 ?_;refine X.part 7 rfl (fun h1=> ?_) (fun h1=> ?_)
 · replace h1:=sp h1
   refine xx 6 ?_
   have hb:B=false:=(by simpa using h1);subst hb
   refine Zq (q) func194 (Qt results194 rfl rfl) ⟨_,rfl,0,rfl,fun hx=>(by cases hx),rfl⟩
 replace h1:=sp h1
 refine xo 5 ?_;refine ldA ?_;refine Zh call108 (Le.refl _) (hI (Kn.le h) (by simpa using h1)) ?_
 rintro _ _ ⟨ra,rc,rfl,rfl⟩
 refine Zm zeroValue220 fun n2=> ?_
 refine stA ?_;refine ox 2 ?_;refine drw ?_;refine dl [0] 1 ?_;refine dl [2] 3 ?_;refine dd [4,5,6] ?_;refine XD.nil ?_
 have hb:B=true:=(by simpa using h1);subst hb
 refine Zq (q) func194 (Qt results194 rfl rfl) ⟨_,rfl,A.1,rfl,fun _=>rfl,rfl⟩
end
section
variable {G:World}{q:List HP}{e:Ex}{t:Int}
set_option maxHeartbeats 8000000 in
theorem Zzd (IH: ∀ (x:Ex),x.sz<e.sz→ ∀ {q:List HP} {t:Int},(Kn q fun M=>x.At M)→x.er.fit→(0≤t∧t+4*x.sz≤1000000000)→CallF prog G 157 [.agg (exC x).toArray,.int .i64 t] q (Ret fun v q'=> ∃ (ca:Option Addr) (cc:Nat),v= .slice ca (x.er.code t).length cc∧q'=rsH Zx 4 48 ca cc (x.er.code t)::q))(h:Kn q fun M=>e.At M)(hf:e.er.fit)(ht:0≤t∧t+4*e.sz≤1000000000):CallF prog G 157 [.agg (exC e).toArray,.int .i64 t] (q) (Ret fun v q'=> ∃ (ca:Option Addr) (cc:Nat),v= .slice ca (e.er.code t).length cc∧q'=rsH Zx 4 48 ca cc (e.er.code t)::q):=by
 refine CallF.of func157 ntmps157 rfl (fun F cs=> ?_)
 obtain ⟨k,z,nm,sl,lo,op,args,aa,ac⟩:=e;have hA:=Bi h;have hff:=hf;simp only [Ex.er,PEx.fit,Km] at hf;obtain ⟨hf1,hf2,hf3,hf4,hf5⟩:=hf
 obtain ⟨R,hR⟩: ∃ R,(Ex.er (.mk k z nm sl lo op args aa ac)).code t=R:=⟨_,rfl⟩;rw [hR]
 refine xo 2 ?_;refine Zl fun n1=> ?_
 refine oo 4 ?_;refine ldA ?_;refine Zh call194 (Le.refl _) (const_ok (e:=(.mk k z nm sl lo op args aa ac)) (Kn.le h) hff) ?_
 rintro _ _ ⟨n,rfl,hn,rfl⟩
 obtain ⟨ev,hev⟩: ∃ x,(Ex.er (.mk k z nm sl lo op args aa ac)).ev=x:=⟨_,rfl⟩;obtain ⟨one,hone⟩: ∃ x,(Ex.er (.mk k z nm sl lo op args aa ac)).one=x:=⟨_,rfl⟩;rw [hev,hone] at hn;rw [hone]
 simp only [Ex.er,PEx.code] at hR hev hone;rw [hone,hev] at hR
 refine ox 11 ?_;refine X.part 18 rfl (fun h1=> ?_) (fun h1=> ?_)
 · have ho:one=true:=(by simpa using h1);subst ho;rw [if_pos rfl] at hR;have hn:=hn rfl;subst hn
   refine xo 4 ?_;refine XO.cR call64 (Yf) ?_;refine XO.ef (Z6 Zx [⟨1,0,0,ev.1⟩] underlying32 Za rfl rfl (fun _=>rfl) rfl rfl rfl rfl) ?_
   rintro _ _ ⟨gi,rfl,rfl⟩
   refine ox 2 ?_;refine Zq (rsH Zx 4 48 (some ⟨gi,0,none⟩) 1 ([⟨1,0,0,ev.1⟩])::q) func157 (Zu results157 rfl) ⟨_,rfl,some ⟨gi,0,none⟩,1,by rw [←hR];rfl,by rw [←hR]⟩
 have ho:one=false:=(by simpa using h1);subst ho;rw [if_neg (by decide)] at hR;clear hn hev
 have hcl:k=2∨k=1∨k=3∨k=4∨k=5∨(k=6∧op=1)∨(k=6∧op=2)∨(k=6∧3≤op):=by omega
 rcases hcl with rfl|rfl|rfl|rfl|rfl|⟨rfl,rfl⟩|⟨rfl,rfl⟩|⟨rfl,hop⟩
 · refine xx 3 ?_;refine drw ?_;refine dl [0] 1 ?_;refine dl [2] 3 ?_;refine dd [4,5] ?_;refine XD.nil ?_;refine xo 6 ?_;refine XO.kt 28 ?_;refine ol 1 ?_;refine ox 2 ?_;refine X.part 31 rfl (fun h2=> ?_) (fun h2=> ?_)
   · replace h2:=sp h2
     refine xl 4 ?_;refine XO.cR call64 (Yf) ?_;refine XO.ef (Z6 Zx [⟨3,sl,0,0⟩] underlying32 Za rfl rfl (fun _=>rfl) rfl rfl rfl rfl) ?_
     rintro _ _ ⟨g0,rfl,rfl⟩
     refine ox 2 ?_
     have hlo:lo=true:=(by simpa using h2);subst hlo
     refine Zq (rsH Zx 4 48 (some ⟨g0,0,none⟩) 1 ([⟨3,sl,0,0⟩])::q) func157 (Zu results157 rfl) ⟨_,rfl,some ⟨g0,0,none⟩,1,by rw [←hR];rfl,by rw [←hR];rfl⟩
   replace h2:=sp h2
   refine xx 8 ?_;refine X.kt 37 ?_;refine xl 4 ?_;refine XO.cR call64 (Yf) ?_;refine XO.ef (Z6 Zx [⟨2,sl,0,0⟩] underlying32 Za rfl rfl (fun _=>rfl) rfl rfl rfl rfl) ?_
   rintro _ _ ⟨g0,rfl,rfl⟩
   refine ox 2 ?_
   have hlo:lo=false:=(by simpa using h2);subst hlo
   refine Zq (rsH Zx 4 48 (some ⟨g0,0,none⟩) 1 ([⟨2,sl,0,0⟩])::q) func157 (Zu results157 rfl) ⟨_,rfl,some ⟨g0,0,none⟩,1,by rw [←hR];rfl,by rw [←hR];rfl⟩
 · refine xx 3 ?_;refine drw ?_;refine dl [0] 1 ?_;refine dl [2] 3 ?_;refine dd [4,5] ?_;refine XD.nil ?_;refine xo 6 ?_;refine Y4 28 ?_;refine ox 12 ?_;refine kx 37 8 ?_;refine X.kt 43 ?_;refine xl 4 ?_;refine XO.cR call64 (Yf) ?_;refine XO.ef (Z6 Zx [⟨1,0,0,z⟩] underlying32 Za rfl rfl (fun _=>rfl) rfl rfl rfl rfl) ?_
   rintro _ _ ⟨g0,rfl,rfl⟩
   refine ox 2 ?_;refine Zq (rsH Zx 4 48 (some ⟨g0,0,none⟩) 1 ([⟨1,0,0,z⟩])::q) func157 (Zu results157 rfl) ⟨_,rfl,some ⟨g0,0,none⟩,1,by rw [←hR];rfl,by rw [←hR];rfl⟩
 · obtain ⟨x,rfl⟩: ∃ x,args= [x]:=(by match args,hf2 with| [x],_=>exact ⟨x,rfl⟩)
   simp only [Z3,PEx.fits] at hf5;simp only [Z3,PEx.codes,List.getD_cons_zero,List.getD_cons_succ,Int.reduceEq,if_false,if_true,reduceIte,true_and,false_and] at hR;simp only [Ex.sz,U4] at ht IH
   have hK1:Kn q fun M=>Ex.At M x:=Qe (args:= [x]) h (i:=0) (by simp);have hx1:=Yk x.er t;rw [Ul] at hx1
   obtain ⟨A,hA1⟩: ∃ A,x.er.code t=A:=⟨_,rfl⟩;rw [hA1] at hR hx1
   refine xx 3 ?_;refine drw ?_;refine dl [0] 1 ?_;refine dl [2] 3 ?_;refine dd [4,5] ?_;refine XD.nil ?_;refine xo 6 ?_;refine Y4 28 ?_;refine ox 12 ?_;refine kx 37 8 ?_;refine W0 43 ?_;refine xl 5 ?_;refine Y6 hA (by simp [Z4]) (fun b9 o9 e9=> ?_);subst e9
   refine oo 1 ?_;refine Wm (n:=0) isAgg215 sizeOf215 hA (by simp) ?_ (hf:=Z4)
   refine oo 1 ?_;refine Zh call157 (Le.refl _) (IH x (by omega) (t:=t) (Kn.le hK1) hf5.1 (by omega)) ?_
   rintro _ _ ⟨xa,xc,rfl,rfl⟩
   rw [hA1]
   refine oo 8 ?_;refine Y4 56 ?_;refine ox 17 ?_;refine X.kt 101 ?_;refine xl 5 ?_;refine XO.cR call64 (Yf) ?_;refine XO.ef (Z6 Zx [⟨4,sl,0,0⟩] underlying32 Za rfl rfl (fun _=>rfl) rfl rfl rfl rfl) ?_
   rintro _ _ ⟨g0,rfl,rfl⟩
   refine XO.ef (Zo (f:=Zx) (l:=A) (m:= [⟨4,sl,0,0⟩]) underlying32 Za rfl rfl (fun _=>rfl) rfl rfl Zj ((Sees.rsH _).le Zj) (fun _=>rfl) (by (try simp only [List.length_append,List.length_cons,List.length_nil]);omega) (by (try simp only [List.length_append,List.length_cons,List.length_nil]);omega)) ?_
   rintro _ _ ⟨ap0,cp0,rfl,rfl⟩
   refine ox 2 ?_
   have hRc:R=A++ [⟨4,sl,0,0⟩]:=hR.symm.trans (by first|rfl|(rw [if_neg (by omega)])|simp)
   refine Zq (rsH Zx 4 48 ap0 cp0 (A++ [⟨4,sl,0,0⟩])::q) func157 (Zu results157 rfl) ⟨_,rfl,ap0,cp0,by rw [hRc],by rw [hRc]⟩
 · obtain ⟨x,rfl⟩: ∃ x,args= [x]:=(by match args,hf2 with| [x],_=>exact ⟨x,rfl⟩)
   simp only [Z3,PEx.fits] at hf5;simp only [Z3,PEx.codes,List.getD_cons_zero,List.getD_cons_succ,Int.reduceEq,if_false,if_true,reduceIte,true_and,false_and] at hR;simp only [Ex.sz,U4] at ht IH
   have hK1:Kn q fun M=>Ex.At M x:=Qe (args:= [x]) h (i:=0) (by simp);have hx1:=Yk x.er t;rw [Ul] at hx1
   obtain ⟨A,hA1⟩: ∃ A,x.er.code t=A:=⟨_,rfl⟩;rw [hA1] at hR hx1
   refine xx 3 ?_;refine drw ?_;refine dl [0] 1 ?_;refine dl [2] 3 ?_;refine dd [4,5] ?_;refine XD.nil ?_;refine xo 6 ?_;refine Y4 28 ?_;refine ox 12 ?_;refine kx 37 8 ?_;refine W0 43 ?_;refine xl 5 ?_;refine Y6 hA (by simp [Z4]) (fun b9 o9 e9=> ?_);subst e9
   refine oo 1 ?_;refine Wm (n:=0) isAgg215 sizeOf215 hA (by simp) ?_ (hf:=Z4)
   refine oo 1 ?_;refine Zh call157 (Le.refl _) (IH x (by omega) (t:=t) (Kn.le hK1) hf5.1 (by omega)) ?_
   rintro _ _ ⟨xa,xc,rfl,rfl⟩
   rw [hA1]
   refine oo 8 ?_;refine Y4 56 ?_;refine ox 17 ?_;refine kx 101 6 ?_;refine X.kt 109 ?_;refine xo 4 ?_;refine XO.cR call64 (Yf) ?_;refine XO.ef (Z6 Zx [⟨8,0,0,0⟩] underlying32 Za rfl rfl (fun _=>rfl) rfl rfl rfl rfl) ?_
   rintro _ _ ⟨g0,rfl,rfl⟩
   refine XO.ef (Zo (f:=Zx) (l:=A) (m:= [⟨8,0,0,0⟩]) underlying32 Za rfl rfl (fun _=>rfl) rfl rfl Zj ((Sees.rsH _).le Zj) (fun _=>rfl) (by (try simp only [List.length_append,List.length_cons,List.length_nil]);omega) (by (try simp only [List.length_append,List.length_cons,List.length_nil]);omega)) ?_
   rintro _ _ ⟨ap0,cp0,rfl,rfl⟩
   refine ox 2 ?_
   have hRc:R=A++ [⟨8,0,0,0⟩]:=hR.symm.trans (by first|rfl|(rw [if_neg (by omega)])|simp)
   refine Zq (rsH Zx 4 48 ap0 cp0 (A++ [⟨8,0,0,0⟩])::q) func157 (Zu results157 rfl) ⟨_,rfl,ap0,cp0,by rw [hRc],by rw [hRc]⟩
 · obtain ⟨x,rfl⟩: ∃ x,args= [x]:=(by match args,hf2 with| [x],_=>exact ⟨x,rfl⟩)
   simp only [Z3,PEx.fits] at hf5;simp only [Z3,PEx.codes,List.getD_cons_zero,List.getD_cons_succ,Int.reduceEq,if_false,if_true,reduceIte,true_and,false_and] at hR;simp only [Ex.sz,U4] at ht IH
   have hK1:Kn q fun M=>Ex.At M x:=Qe (args:= [x]) h (i:=0) (by simp);have hx1:=Yk x.er t;rw [Ul] at hx1
   obtain ⟨A,hA1⟩: ∃ A,x.er.code t=A:=⟨_,rfl⟩;rw [hA1] at hR hx1
   refine xx 3 ?_;refine drw ?_;refine dl [0] 1 ?_;refine dl [2] 3 ?_;refine dd [4,5] ?_;refine XD.nil ?_;refine xo 6 ?_;refine Y4 28 ?_;refine ox 12 ?_;refine kx 37 8 ?_;refine W0 43 ?_;refine xl 5 ?_;refine Y6 hA (by simp [Z4]) (fun b9 o9 e9=> ?_);subst e9
   refine oo 1 ?_;refine Wm (n:=0) isAgg215 sizeOf215 hA (by simp) ?_ (hf:=Z4)
   refine oo 1 ?_;refine Zh call157 (Le.refl _) (IH x (by omega) (t:=t) (Kn.le hK1) hf5.1 (by omega)) ?_
   rintro _ _ ⟨xa,xc,rfl,rfl⟩
   rw [hA1]
   refine oo 8 ?_;refine Y4 56 ?_;refine ox 17 ?_;refine kx 101 6 ?_;refine kx 109 6 ?_;refine X.kt 115 ?_;refine xo 4 ?_;refine XO.cR call64 (Yf) ?_;refine XO.ef (Z6 Zx [⟨9,0,0,0⟩] underlying32 Za rfl rfl (fun _=>rfl) rfl rfl rfl rfl) ?_
   rintro _ _ ⟨g0,rfl,rfl⟩
   refine XO.ef (Zo (f:=Zx) (l:=A) (m:= [⟨9,0,0,0⟩]) underlying32 Za rfl rfl (fun _=>rfl) rfl rfl Zj ((Sees.rsH _).le Zj) (fun _=>rfl) (by (try simp only [List.length_append,List.length_cons,List.length_nil]);omega) (by (try simp only [List.length_append,List.length_cons,List.length_nil]);omega)) ?_
   rintro _ _ ⟨ap0,cp0,rfl,rfl⟩
   refine ox 2 ?_
   have hRc:R=A++ [⟨9,0,0,0⟩]:=hR.symm.trans (by first|rfl|(rw [if_neg (by omega)])|simp)
   refine Zq (rsH Zx 4 48 ap0 cp0 (A++ [⟨9,0,0,0⟩])::q) func157 (Zu results157 rfl) ⟨_,rfl,ap0,cp0,by rw [hRc],by rw [hRc]⟩
 iterate 3
  focus
   obtain ⟨x,y,rfl⟩: ∃ x y,args= [x,y]:=(by match args,hf2 with| [x,y],_=>exact ⟨x,y,rfl⟩)
   simp only [Z3,PEx.fits] at hf5;simp only [Z3,PEx.codes,List.getD_cons_zero,List.getD_cons_succ,Int.reduceEq,if_false,if_true,reduceIte,true_and,false_and] at hR;simp only [Ex.sz,U4] at ht IH
   have hK1:Kn q fun M=>Ex.At M x:=Qe (args:= [x,y]) h (i:=0) (by simp);have hx1:=Yk x.er t;rw [Ul] at hx1
   have hK2:Kn q fun M=>Ex.At M y:=Qe (args:= [x,y]) h (i:=1) (by simp)
   obtain ⟨A,hA1⟩: ∃ A,x.er.code t=A:=⟨_,rfl⟩;rw [hA1] at hR hx1
   refine xx 3 ?_;refine drw ?_;refine dl [0] 1 ?_;refine dl [2] 3 ?_;refine dd [4,5] ?_;refine XD.nil ?_;refine xo 6 ?_;refine Y4 28 ?_;refine ox 12 ?_;refine kx 37 8 ?_;refine W0 43 ?_;refine xl 5 ?_;refine Y6 hA (by simp [Z4]) (fun b9 o9 e9=> ?_);subst e9
   refine oo 1 ?_;refine Wm (n:=0) isAgg215 sizeOf215 hA (by simp) ?_ (hf:=Z4)
   refine oo 1 ?_;refine Zh call157 (Le.refl _) (IH x (by omega) (t:=t) (Kn.le hK1) hf5.1 (by omega)) ?_
   rintro _ _ ⟨xa,xc,rfl,rfl⟩
   rw [hA1]
   refine oo 8 ?_;refine XO.kt 56 ?_;refine ox 4 ?_
  rotate_left
 · refine X.kt 59 ?_;refine xl 4 ?_;refine oo 1 ?_;refine Wm (n:=1) isAgg215 sizeOf215 hA (by simp) ?_ (hf:=Z4)
   refine oo 5 ?_;obtain ⟨B,hB1⟩: ∃ B,y.er.code (t+A.length+1)=B:=⟨_,rfl⟩;have hy1:=Yk y.er (t+A.length+1);rw [Ul,hB1] at hy1;rw [hB1] at hR
   refine Zh call157 (Le.refl _) (IH y (by omega) (t:=(t+A.length+1)) (Kn.le hK2) hf5.2.1 (by omega)) ?_
   rintro _ _ ⟨ya,yc,rfl,rfl⟩
   rw [hB1]
   refine ox 25 ?_;refine W0 80 ?_;refine xo 7 ?_;refine XO.cR call64 (Yf) ?_;refine XO.ef (Z6 Zx [⟨21,(t+A.length+1+B.length+2),0,0⟩] underlying32 Za rfl rfl (fun _=>rfl) rfl rfl rfl rfl) ?_
   rintro _ _ ⟨g0,rfl,rfl⟩
   refine XO.ef (Zo (f:=Zx) (l:=A) (m:= [⟨21,(t+A.length+1+B.length+2),0,0⟩]) underlying32 Za rfl rfl (fun _=>rfl) rfl rfl Zj ((Sees.rsH _).le Zj) (fun _=>rfl) (by (try simp only [List.length_append,List.length_cons,List.length_nil]);omega) (by (try simp only [List.length_append,List.length_cons,List.length_nil]);omega)) ?_
   rintro _ _ ⟨ap0,cp0,rfl,rfl⟩
   refine oo 6 ?_;refine XO.ef (Zo (f:=Zx) (l:=A++ [⟨21,(t+A.length+1+B.length+2),0,0⟩]) (m:=B) underlying32 Za rfl rfl (fun _=>rfl) rfl rfl Zj ((Sees.rsH _).le Zj) (fun _=>rfl) (by (try simp only [List.length_append,List.length_cons,List.length_nil]);omega) (by (try simp only [List.length_append,List.length_cons,List.length_nil]);omega)) ?_
   rintro _ _ ⟨ap1,cp1,rfl,rfl⟩
   refine oo 5 ?_;refine XO.cR call64 (Yf) ?_;refine oo 2 ?_;refine XO.cR call64 (Yf) ?_;refine oo 2 ?_;refine XO.cR call64 (Yf) ?_;refine XO.ef (Z6 Zx [⟨22,0,0,0⟩,⟨19,((t+A.length+1+B.length+2)+1),0,0⟩,⟨1,0,0,1⟩] underlying32 Za rfl rfl (fun _=>rfl) rfl rfl rfl rfl) ?_
   rintro _ _ ⟨g1,rfl,rfl⟩
   refine XO.ef (Zo (f:=Zx) (l:=A++ [⟨21,(t+A.length+1+B.length+2),0,0⟩]++B) (m:= [⟨22,0,0,0⟩,⟨19,((t+A.length+1+B.length+2)+1),0,0⟩,⟨1,0,0,1⟩]) underlying32 Za rfl rfl (fun _=>rfl) rfl rfl Zj ((Sees.rsH _).le Zj) (fun _=>rfl) (by (try simp only [List.length_append,List.length_cons,List.length_nil]);omega) (by (try simp only [List.length_append,List.length_cons,List.length_nil]);omega)) ?_
   rintro _ _ ⟨ap2,cp2,rfl,rfl⟩
   refine ox 2 ?_
   have hRc:R=A++ [⟨21,(t+A.length+1+B.length+2),0,0⟩]++B++ [⟨22,0,0,0⟩,⟨19,(t+A.length+1+B.length+2+1),0,0⟩,⟨1,0,0,1⟩]:=hR.symm.trans (by first|rfl|(rw [if_neg (by omega)])|simp)
   refine Zq (rsH Zx 4 48 ap2 cp2 (A++ [⟨21,(t+A.length+1+B.length+2),0,0⟩]++B++ [⟨22,0,0,0⟩,⟨19,(t+A.length+1+B.length+2+1),0,0⟩,⟨1,0,0,1⟩])::q) func157 (Zu results157 rfl) ⟨_,rfl,ap2,cp2,by rw [hRc],by rw [hRc]⟩
 · refine X.kt 59 ?_;refine xl 4 ?_;refine oo 1 ?_;refine Wm (n:=1) isAgg215 sizeOf215 hA (by simp) ?_ (hf:=Z4)
   refine oo 5 ?_;obtain ⟨B,hB1⟩: ∃ B,y.er.code (t+A.length+1)=B:=⟨_,rfl⟩;have hy1:=Yk y.er (t+A.length+1);rw [Ul,hB1] at hy1;rw [hB1] at hR
   refine Zh call157 (Le.refl _) (IH y (by omega) (t:=(t+A.length+1)) (Kn.le hK2) hf5.2.1 (by omega)) ?_
   rintro _ _ ⟨ya,yc,rfl,rfl⟩
   rw [hB1]
   refine ox 25 ?_;refine X.kt 80 ?_;refine xo 9 ?_;refine XO.cR call64 (Yf) ?_;refine XO.ef (Z6 Zx [⟨20,(t+A.length+1+B.length+2),0,0⟩] underlying32 Za rfl rfl (fun _=>rfl) rfl rfl rfl rfl) ?_
   rintro _ _ ⟨g0,rfl,rfl⟩
   refine XO.ef (Zo (f:=Zx) (l:=A) (m:= [⟨20,(t+A.length+1+B.length+2),0,0⟩]) underlying32 Za rfl rfl (fun _=>rfl) rfl rfl Zj ((Sees.rsH _).le Zj) (fun _=>rfl) (by (try simp only [List.length_append,List.length_cons,List.length_nil]);omega) (by (try simp only [List.length_append,List.length_cons,List.length_nil]);omega)) ?_
   rintro _ _ ⟨ap0,cp0,rfl,rfl⟩
   refine oo 6 ?_;refine XO.ef (Zo (f:=Zx) (l:=A++ [⟨20,(t+A.length+1+B.length+2),0,0⟩]) (m:=B) underlying32 Za rfl rfl (fun _=>rfl) rfl rfl Zj ((Sees.rsH _).le Zj) (fun _=>rfl) (by (try simp only [List.length_append,List.length_cons,List.length_nil]);omega) (by (try simp only [List.length_append,List.length_cons,List.length_nil]);omega)) ?_
   rintro _ _ ⟨ap1,cp1,rfl,rfl⟩
   refine oo 5 ?_;refine XO.cR call64 (Yf) ?_;refine oo 2 ?_;refine XO.cR call64 (Yf) ?_;refine oo 2 ?_;refine XO.cR call64 (Yf) ?_;refine XO.ef (Z6 Zx [⟨22,0,0,0⟩,⟨19,((t+A.length+1+B.length+2)+1),0,0⟩,⟨1,0,0,0⟩] underlying32 Za rfl rfl (fun _=>rfl) rfl rfl rfl rfl) ?_
   rintro _ _ ⟨g1,rfl,rfl⟩
   refine XO.ef (Zo (f:=Zx) (l:=A++ [⟨20,(t+A.length+1+B.length+2),0,0⟩]++B) (m:= [⟨22,0,0,0⟩,⟨19,((t+A.length+1+B.length+2)+1),0,0⟩,⟨1,0,0,0⟩]) underlying32 Za rfl rfl (fun _=>rfl) rfl rfl Zj ((Sees.rsH _).le Zj) (fun _=>rfl) (by (try simp only [List.length_append,List.length_cons,List.length_nil]);omega) (by (try simp only [List.length_append,List.length_cons,List.length_nil]);omega)) ?_
   rintro _ _ ⟨ap2,cp2,rfl,rfl⟩
   refine ox 2 ?_
   have hRc:R=A++ [⟨20,(t+A.length+1+B.length+2),0,0⟩]++B++ [⟨22,0,0,0⟩,⟨19,(t+A.length+1+B.length+2+1),0,0⟩,⟨1,0,0,0⟩]:=hR.symm.trans (by first|rfl|(rw [if_neg (by omega)])|simp)
   refine Zq (rsH Zx 4 48 ap2 cp2 (A++ [⟨20,(t+A.length+1+B.length+2),0,0⟩]++B++ [⟨22,0,0,0⟩,⟨19,(t+A.length+1+B.length+2+1),0,0⟩,⟨1,0,0,0⟩])::q) func157 (Zu results157 rfl) ⟨_,rfl,ap2,cp2,by rw [hRc],by rw [hRc]⟩
 refine kx 59 13 ?_;refine kx 101 6 ?_;refine kx 109 6 ?_;refine W0 115 ?_;refine xl 7 ?_;refine oo 1 ?_;refine Wm (n:=1) isAgg215 sizeOf215 hA (by simp) ?_ (hf:=Z4)
 refine oo 4 ?_;obtain ⟨B,hB1⟩: ∃ B,y.er.code (t+A.length)=B:=⟨_,rfl⟩;have hy1:=Yk y.er (t+A.length);rw [Ul,hB1] at hy1;rw [hB1] at hR
 refine Zh call157 (Le.refl _) (IH y (by omega) (t:=(t+A.length)) (Kn.le hK2) hf5.2.1 (by omega)) ?_
 rintro _ _ ⟨ya,yc,rfl,rfl⟩
 rw [hB1]
 refine XO.ef (Zo (f:=Zx) (l:=A) (m:=B) underlying32 Za rfl rfl (fun _=>rfl) rfl rfl Zj ((Sees.rsH _).le Zj) (fun _=>rfl) (by (try simp only [List.length_append,List.length_cons,List.length_nil]);omega) (by (try simp only [List.length_append,List.length_cons,List.length_nil]);omega)) ?_
 rintro _ _ ⟨ap0,cp0,rfl,rfl⟩
 refine oo 7 ?_;refine XO.cR call64 (Yf) ?_;refine XO.ef (Z6 Zx [⟨(op+7),0,0,0⟩] underlying32 Za rfl rfl (fun _=>rfl) rfl rfl rfl rfl) ?_
 rintro _ _ ⟨g0,rfl,rfl⟩
 refine XO.ef (Zo (f:=Zx) (l:=A++B) (m:= [⟨(op+7),0,0,0⟩]) underlying32 Za rfl rfl (fun _=>rfl) rfl rfl Zj ((Sees.rsH _).le Zj) (fun _=>rfl) (by (try simp only [List.length_append,List.length_cons,List.length_nil]);omega) (by (try simp only [List.length_append,List.length_cons,List.length_nil]);omega)) ?_
 rintro _ _ ⟨ap1,cp1,rfl,rfl⟩
 refine ox 2 ?_
 have hRc:R=A++B++ [⟨(op+7),0,0,0⟩]:=hR.symm.trans (by first|rfl|(rw [if_neg (by omega)])|simp)
 refine Zq (rsH Zx 4 48 ap1 cp1 (A++B++ [⟨(op+7),0,0,0⟩])::q) func157 (Zu results157 rfl) ⟨_,rfl,ap1,cp1,by rw [hRc],by rw [hRc]⟩
theorem Av: ∀ (N:Nat) (x:Ex),x.sz≤N→ ∀ {q:List HP} {t:Int},(Kn q fun M=>x.At M)→x.er.fit→(0≤t∧t+4*x.sz≤1000000000)→CallF prog G 157 [.agg (exC x).toArray,.int .i64 t] q (Ret fun v q'=> ∃ (ca:Option Addr) (cc:Nat),v= .slice ca (x.er.code t).length cc∧q'=rsH Zx 4 48 ca cc (x.er.code t)::q)
 |N,x,hN,_,_,h,hf,ht=>Zzd (fun y hy _ _ h2 hf2 ht2=>by
  cases N with
  |zero=>omega
  |succ N=>exact Av N y (by omega) h2 hf2 ht2) h hf ht
end
end Go.Proofs.YtgonllbkcgaliaaGreatDoor
