/- Contracts of functions, proved by walking their code. -/
import Derived.Test.YtgonllbkcgaliaaGreatDoorVf
import Derived.KernelRfl
set_option maxRecDepth 100000
set_option linter.unusedVariables false
set_option linter.unusedSimpArgs false
namespace Go.Proofs.YtgonllbkcgaliaaGreatDoor
open Go Go.RowKit Wx Go.Proofs.Tryz
attribute [local irreducible] Wx.lsH Wx.rsH Wx.stars
def zCod:Cod:=⟨⟨#[]⟩,0, [], [],none,0,none,0⟩
abbrev Lx (m:Mdl)(i:Int):Cod:=m.threads.getD i.toNat zCod
abbrev Zs (m:Mdl)(f:Frm):Ins:=(Lx m f.code).ins.getD f.pc.toNat Gx
theorem I9 {m:Mdl}{t:Cod}(h:(dOf m t).2=0): ∀ x∈t.ins,Vh m t x:=by
 unfold dOf at h
 split at h
 · exact absurd h (by decide)
 split at h
 · exact absurd h (by decide)
 rename_i h1;exact Decidable.not_not.1 h1
theorem G6 {m:Mdl}{f:Frm}{cells:List Int}(h:M0 m f 0)(hc:(cells.length:Int)=Jn m):StepQ m (Zs m f) f.loc f.stk cells∧f.loc.length≤32∧f.stk.length≤27:=by
 obtain ⟨h1,h2,hth,h3,h4,h5,h6,h7,h8,h9⟩:=h
 obtain ⟨hin,hL,hd0,_⟩:=vOk h1 hth
 obtain ⟨_,_,_,hG⟩:=Bh hin hd0
 have hsl:=I9 hd0
 have hpc:f.pc.toNat<m.threads[f.code.toNat].ins.length:=by omega
 have e1:Lx m f.code=m.threads[f.code.toNat]:=Z1 hth
 have e2:Zs m f=m.threads[f.code.toNat].ins[f.pc.toNat]:=by unfold Zs;rw [e1];exact Z1 hpc
 have hix:=hin _ (List.getElem_mem hpc)
 have hsx:=hsl _ (List.getElem_mem hpc)
 obtain ⟨g1,g2,_,_⟩:=hG _ hpc h8
 have hnn:=Mr m.threads[f.code.toNat].ins[f.pc.toNat].c
 have hle:=Bg m.threads[f.code.toNat].ins[f.pc.toNat].c
 have hlo:=((Ki h1).2.2.2.2.2.2 _ (List.getElem_mem hth)).2.1
 unfold Z8 at hlo
 rw [e2]
 generalize m.threads[f.code.toNat].ins[f.pc.toNat]=x at*
 have ha:nmA x.c=true→0≤x.a:=fun hn=>by have:=hix.2.1;rw [if_pos hn] at this;exact this.1
 have hn: ∀ k,x.c=k→(2≤k∧k≤7)→0≤x.a:=fun k hk hr=>ha (by unfold nmA;simp only [decide_eq_true_eq];omega)
 refine ⟨⟨Ki h1,hix,by omega,fun hk=> ?_,fun hk=> ?_,fun hk=> ?_,h7,by omega,hc⟩,by omega,by omega⟩
 · exact ⟨hn x.c rfl (by omega),hsx.1 _ (by unfold Yu;rw [if_pos (by omega)])⟩
 · exact ⟨hn x.c rfl (by omega),hsx.1 _ (by unfold Yu;rw [if_neg (by omega),if_neg (by omega),if_pos (by omega)])⟩
 exact ⟨hn x.c rfl (by omega),by rw [h5];exact hsx.1 _ (by unfold Yu;rw [if_neg (by omega),if_pos (by omega)])⟩
theorem Cw {m:Mdl}{x:Ins}{pc:Int}{loc l cells:List Int}(h:(doS m x pc loc l cells).2.kind=7):(doS m x pc loc l cells).1=(pc,loc,l):=by
 unfold doS at h⊢
 split at h
 · rename_i k;rw [if_pos k]
 rename_i k1;rw [if_neg k1]
 split at h
 · rename_i k2;rw [if_pos k2];dsimp only at h⊢
   generalize (if N7 x.c then (0:Int) else Yx l)=a at h⊢
   generalize (if N7 x.c then 1 else 2)=k at h⊢
   split at h
   · rename_i k3;rw [if_pos k3]
   exact absurd h (by show ¬ (1:Int)=7;decide)
 rename_i k2;rw [if_neg k2]
 split at h
 · rename_i k3;rw [if_pos k3]
   split at h
   · rfl
   exact absurd h (by show ¬ (2:Int)=7;decide)
 (repeat' split at h)<;>exact absurd h (by first|(show ¬ (3:Int)=7;decide)|(show ¬ (6:Int)=7;decide)|(show ¬ (5:Int)=7;decide)|(show ¬ (1:Int)=7;decide))
abbrev Wc (m:Mdl)(f:Frm)(cells:List Int):(Int×List Int×List Int)×Did:=doS m (Zs m f) f.pc f.loc f.stk cells
theorem Dn {bb:Bool}{p:Prop}(h:bb=true↔p)(k:bb=false): ¬p:=fun hp=>by rw [h.2 hp] at k;cases k
section
variable {G:World}{q pre:List HP}{a b A:Option Addr}{c d C p p0 p1 p2 i:Nat}{lo hi n cd dep:Int}{fv:Value}{x y:Ins}{t:Cod}{m:Mdl}{at_:Int}
variable {l cells loc:List Int}{idx arr z k u pc code:Int}{x1 x2 x3 x4 x5 x6 old:Value}{pm cc lc n1 n2:Nat}{la cda:Option Addr}
variable {f:Frm}{th:Int}
set_option maxHeartbeats 8000000 in
theorem Rq (gc:GC q)(g:GE q)(hq:MdlQ q m)(hf:FrmQ q f)(hc:Sees q cda (cells.map I64))(hcl:cells.length≤9223372036854775807):CallF prog G 25 [.agg (Wp m).toArray,.agg (U2 f).toArray,.slice cda cells.length cc] (q) (Ret fun v q'=>((M0 m f 0∧(cells.length:Int)=Jn m∧Jo cells)∧ ∃ la lc sa sc,v= .tuple [.agg (U2 ⟨f.code,(Wc m f cells).1.1,(Wc m f cells).1.2.1,(Wc m f cells).1.2.2,la,lc,sa,sc⟩).toArray,.agg (Nd (Wc m f cells).2).toArray,.int .i64 0].toArray∧q'=lsH I64 2 sa sc ((Wc m f cells).1.2.2)::lsH I64 2 la lc ((Wc m f cells).1.2.1)::q)∨(¬ (M0 m f 0∧(cells.length:Int)=Jn m∧Jo cells)∧v= .tuple [.agg (U2 Gy).toArray,.agg (Nd S7).toArray,.int .i64 2].toArray∧q'=q)):=by
 refine CallF.of func25 ntmps25 rfl (fun F cs=> ?_)
 have hlen:=Zm (f:=Wk) (sz:=4) (fun _=>rfl) m.threads;have hnt:=hq.nt
 refine xo 2 ?_;refine Zb fun n1=> ?_
 refine Zb fun n2=> ?_
 refine Zy zeroValue67 fun n3=> ?_
 refine Zy zeroValue51 fun n4=> ?_
 refine oo 5 ?_;refine ldA ?_;refine ldA ?_;refine Zh call27 (Le.refl _) (Rj (gc.le leA) (g.le leA) (hq.le leA) (hf.le leA)) ?_;rintro _ _ ⟨⟨bb,rfl,hbb⟩,rfl⟩
 refine Zn (Pu.not rfl) ?_;refine oo 1 ?_;refine XO.part 16 rfl (fun h1=> ?_) (fun h1=> ?_)
 · replace h1:=sp h1
   refine oo 16 ?_;refine stA ?_;refine stA ?_;refine ox 2 ?_;refine Zq (q) func25 (M9 results25) ⟨_,rfl,.inr ⟨by first|exact fun k=>Dn hbb (by simpa using h1) k.1|(rintro ⟨_,k2,k3⟩;first|omega|simp_all),rfl,rfl⟩⟩
 replace h1:=sp h1
 refine oo 2 ?_
 have hm:=hbb.1 (by simpa using h1)
 refine Zh call47 Zw (count_ok (hq.le leA) hm.1) ?_;rintro _ _ ⟨rfl,rfl⟩
 refine oo 3 ?_;refine XO.part 22 rfl (fun h2=> ?_) (fun h2=> ?_)
 · replace h2:=sp h2
   refine oo 10 ?_;refine stA ?_;refine stA ?_;refine ox 2 ?_;refine Zq (q) func25 (M9 results25) ⟨_,rfl,.inr ⟨by first|exact fun k=>Dn hbb (by simpa using h1) k.1|(rintro ⟨_,k2,k3⟩;first|omega|simp_all),rfl,rfl⟩⟩
 replace h2:=sp h2
 refine oo 1 ?_;refine XO.cR call50 (K6 (hc.le leA) hcl) ?_;refine Zn (Pu.not rfl) ?_;refine ox 2 ?_;refine X.part 26 rfl (fun h3=> ?_) (fun h3=> ?_)
 · replace h3:=sp h3
   refine xo 5 ?_;refine stA ?_;refine stA ?_;refine ox 2 ?_;refine Zq (q) func25 (M9 results25) ⟨_,rfl,.inr ⟨by first|exact fun k=>Dn hbb (by simpa using h1) k.1|(rintro ⟨_,k2,k3⟩;first|omega|simp_all),rfl,rfl⟩⟩
 replace h3:=sp h3
 refine xo 4 ?_;refine ldA ?_
 have hcnt:(cells.length:Int)=Jn m:=by omega
 obtain ⟨hS,hl32,hs27⟩:=G6 hm hcnt;have hm0:=hm;obtain ⟨hm1,hm2,hth,hm3,hm4,hm5⟩:=hm0
 have hvc:Jo cells:=by simpa using h3
 have hpc:f.pc.toNat<m.threads[f.code.toNat].ins.length:=by omega
 have hql:=hq.x _ (List.getElem_mem hth);have hni:=hql.ni;have hsi:=hql.i;have hlen2:=Zm (f:=Zr) (sz:=4) (fun _=>rfl) m.threads[f.code.toNat].ins
 have hxe:Zs m f=m.threads[f.code.toNat].ins[f.pc.toNat]:=by unfold Zs;rw [show Lx m f.code=m.threads[f.code.toNat] from Z1 hth];exact Z1 hpc
 have hp65:=(vOk hm1 hth).2.1
 refine Zh call51 (Le.refl _) (Ee (hf.le leA) (by omega) (by omega)) ?_
 rintro _ _ ⟨la,lc,sa,sc,rfl,rfl⟩
 refine Zy zeroValue67 fun n5=> ?_
 refine stA ?_;refine oo 4 ?_;refine ld ?_;refine oo 1 ?_;refine ldA ?_;refine oo 2 ?_;refine Zb fun n6=> ?_
 refine ox 3 ?_;refine drw ?_;refine dd [0,1] ?_;refine ldD 2 ?_;refine dd [3] ?_;refine ldD 4 ?_;refine Yp hq.t (by rw [hlen];omega) (fun b1 o1 e1=> ?_)
 have hs1:=hq.t;rw [e1] at hs1
 refine XD.know 40 (.slice (some ⟨b1,o1,none⟩) m.threads.length m.tc) rfl (by rw [e1]) ?_
 refine dd [5,6] ?_;refine ldD 7 ?_ (hc:=(Yi (j:=f.code) hs1 leA (fun _=>rfl) hth (by omega) 2 _ rfl))
 refine dd [8] ?_;refine ldD 9 ?_;refine Yp hsi (by rw [hlen2];omega) (fun b2 o2 e2=> ?_)
 have hs2:=hsi;rw [e2] at hs2
 refine XD.know 45 (.slice (some ⟨b2,o2,none⟩) m.threads[f.code.toNat].ins.length m.threads[f.code.toNat].ic) rfl (by rw [e2]) ?_
 refine dd [10] ?_;refine Vp 11 (m:=f.pc.toNat) isAgg48 sizeOf48 hs2 hpc ?_
 refine XD.know 49 (.agg (Zr (Zs m f)).toArray) rfl (by rw [hxe]) ?_
 refine Yy (fl:= [⟨13,11,fun g=> .pointer (some ⟨g,0,none⟩),fun g=>pto g (.cells (Nd S7).toArray 51 (0,0))⟩]) ?_
 refine Jd 12 ⟨⟨_,rfl,rfl,rfl,rfl,rfl,rfl,fun q=>Ef.alloc zeroValue51⟩,trivial⟩ call52 (Le.pick Zw (Le.pick Zw Zw)) (do_ok (m:=m) (x:=Zs m f) (l:=f.stk) (loc:=f.loc) (cells:=cells) (pc:=f.pc) (CellsAt.of Vr) (hq.le leA) (hc.le leA) hS ⟨by omega,by omega⟩) ?_ (hL:=hlR)
 rintro _ _ (⟨hk,rfl,rfl⟩|⟨hk,rfl,a2,c2,rfl⟩)<;>refine ⟨hlR,?_⟩
 · refine Wv (e0:=⟨13,11,fun g=> .pointer (some ⟨g,0,none⟩),fun g=>pto g (.cells (Nd S7).toArray 51 (0,0))⟩) (hnd:=by simp) 13 ⟨⟨_,rfl,rfl,rfl,rfl,rfl,rfl,fun q=>Ef.alloc zeroValue51⟩,trivial⟩ (fun nd=> ?_) (hL:=hlR)
   change XF _ _ _ _ _ _ _ [] _ _ _ ((11,.pointer (some ⟨nd,0,none⟩))::_) _ _ (pto nd (.cells (Nd S7).toArray 51 (0,0))::_)
   refine XF.back ?_ (hL:=hlR)
   refine Z9 14 ?_;refine XD.nil ?_;refine xo 4 ?_;refine ld ?_;refine ox 2 ?_;refine X.know 53 (.bool true) rfl (congrArg Value.bool (by first|(rw [beq_iff_eq];exact hk)|(rw [beq_eq_false_iff_ne];exact hk))) ?_
   refine xx 2 ?_;refine drw ?_;refine Z4 0 ?_;refine Z4 2 ?_;refine Yf 1 call51 (Le.refl _) (Ee (hf.le leA) (by omega) (by omega)) ?_
   rintro _ _ ⟨la2,lc2,sa2,sc2,rfl,rfl⟩
   refine ⟨hlR,?_⟩
   refine Z9 3 ?_ (hh:=hlR)
   refine Z9 4 ?_;refine dd [5] ?_;refine XD.nil ?_;refine Zq (lsH I64 2 sa2 sc2 (f.stk)::lsH I64 2 la2 lc2 (f.loc)::q) func25 (M9 results25) ⟨_,rfl,.inl ⟨⟨hm,hcnt,hvc⟩,la2,lc2,sa2,sc2,by rw [show (Wc m f cells).1=(f.pc,f.loc,f.stk) from Cw hk];rfl,by rw [show (Wc m f cells).1=(f.pc,f.loc,f.stk) from Cw hk]⟩⟩
 refine Wv (e0:=⟨13,11,fun g=> .pointer (some ⟨g,0,none⟩),fun g=>pto g (.cells (Nd S7).toArray 51 (0,0))⟩) (hnd:=by simp) 13 ⟨⟨_,rfl,rfl,rfl,rfl,rfl,rfl,fun q=>Ef.alloc zeroValue51⟩,trivial⟩ (fun nd=> ?_) (hL:=hlR)
 change XF _ _ _ _ _ _ _ [] _ _ _ ((11,.pointer (some ⟨nd,0,none⟩))::_) _ _ (pto nd (.cells (Nd S7).toArray 51 (0,0))::_)
 refine XF.back ?_ (hL:=hlR)
 refine Z9 14 ?_;refine XD.nil ?_;refine xo 4 ?_;refine ld ?_;refine ox 2 ?_;refine X.know 53 (.bool false) rfl (congrArg Value.bool (by first|(rw [beq_iff_eq];exact hk)|(rw [beq_eq_false_iff_ne];exact hk))) ?_
 refine xo 9 ?_;refine ld ?_;refine oo 3 ?_;refine st ?_;refine ox 2 ?_;refine drw ?_;refine dd [0,1,2] ?_;refine Z4 3 ?_;refine Z4 4 ?_;refine Z9 5 ?_ (hh:=hlR)
 refine Z9 6 ?_;refine dd [7] ?_;refine XD.nil ?_;refine Zq (lsH I64 2 a2 c2 ((Wc m f cells).1.2.2)::lsH I64 2 la lc ((Wc m f cells).1.2.1)::q) func25 (M9 results25) ⟨_,rfl,.inl ⟨⟨hm,hcnt,hvc⟩,la,lc,a2,c2,rfl,rfl⟩⟩
end
theorem mayS_at2 {m:Mdl}{f:Frm}{less:Int}(h1:Qb m=0∧0≤f.code∧f.code<(m.threads.length:Int))(hth:f.code.toNat<m.threads.length)(h2:0≤f.pc∧f.pc<(m.threads[f.code.toNat].ins.length:Int))(h3:(f.loc.length:Int)=m.threads[f.code.toNat].locals)(h4:Jo f.loc)(h5:Jo f.stk):
 M0 m f less↔0≤dAt (dOf m m.threads[f.code.toNat]).1 f.pc.toNat∧dAt (dOf m m.threads[f.code.toNat]).1 f.pc.toNat=(f.stk.length:Int)+less:=by
 constructor
 · rintro ⟨_,_,_,_,_,k1,k2,k3,k4,k5⟩;exact ⟨k4,k5⟩
 rintro ⟨k4,k5⟩;exact ⟨h1.1,h1.2.1,hth,h2.1,h2.2,h3,h4,h5,k4,k5⟩
section
variable {G:World}{q pre:List HP}{a b A:Option Addr}{c d C p p0 p1 p2 i:Nat}{lo hi n cd dep:Int}{fv:Value}{x y:Ins}{t:Cod}{m:Mdl}{at_:Int}
variable {l cells loc:List Int}{idx arr z k u pc code:Int}{x1 x2 x3 x4 x5 x6 old:Value}{pm cc lc n1 n2:Nat}{la cda:Option Addr}
variable {f f2:Frm}{th less:Int}{l2:List Int}
theorem Sc:CallF prog G 39 [.int .i64 z] (q) (Ret fun v q'=>v= .bool (decide (val z))∧q'=q):=by
 refine CallF.of func39 ntmps39 rfl (fun F cs=> ?_)
 refine xo 9 ?_;refine Zf [5,2,0] ?_
 apply Zg 3 8 5 rfl
 · intro g1 M1;have h1:=sp g1
   refine oo 3 ?_;exact Zz M1 ⟨Yd g1,Zv⟩
 · intro g1 M1;have h1:=sp g1
   refine oo 3 ?_;exact Zz M1 ⟨Yc g1,Zv⟩
 refine ox 2 ?_;refine Zq (q) func39 (Zp results39 rfl) ⟨_,rfl,congrArg Value.bool (by rw [Bool.eq_iff_iff,decide_eq_true_iff];unfold val;simp),rfl⟩
theorem Jc (hs:Sees q a (l.map I64))(hL:l.length≤9223372036854775807):CallF prog G 16 [.slice a l.length c] (q) (Ret fun v q'=>v= .bool (decide (Jo l))∧q'=q):=by
 refine CallF.of func16 ntmps16 rfl (fun F cs=> ?_)
 refine xx 10 ?_;refine X.at (X.loop (fun (s:Nat×Option Addr)=>s.1≤l.length∧s.2=a∧ ∀ j (h:j<l.length),j<s.1→val l[j]) (fun s=> [(3,.int .i64 (s.1:Int)),(0,.slice s.2 l.length c),(2,.bool false)]) (fun s=>(q++F)) (fun s=>l.length - s.1) (fun s hi_ ih=> ?_) (0,a) ⟨Nat.zero_le _,rfl,fun j _ k=>absurd k (Nat.not_lt_zero j)⟩) Zt leA
 try dsimp only at hi_ ih⊢
 obtain ⟨hk,ha,hP⟩:=hi_
 obtain ⟨k,a2⟩:=s;dsimp only at*;subst ha
 refine xx 8 ?_;refine X.part 7 rfl (fun h0=> ?_) (fun h0=> ?_)
 · replace h0:=sp h0
   have hk1:k<l.length:=by omega
   refine Hr hs (by simp;omega) (fun ba oa e1=> ?_);subst e1
   refine xo 9 ?_;refine ld ?_ (hc:=(Cl.e1 hs leA hk1 rfl))
   refine XO.cR call39 (Sc) ?_;refine Zn (Pu.not rfl) ?_;refine ox 1 ?_;refine X.part 15 rfl (fun h1=> ?_) (fun h1=> ?_)
   · replace h1:=sp h1
     refine xx 5 ?_;refine Zq (q) func16 (Zp results16 rfl) ⟨_,rfl,congrArg Value.bool (by symm;rw [decide_eq_false_iff_not];intro e;exact absurd (e _ (List.getElem_mem hk1)) h1),rfl⟩
   replace h1:=sp h1
   refine xx 8 ?_;refine X.at (ih (k+1,some ⟨ba,oa,none⟩) ⟨by dsimp only;omega,rfl,fun j g1 g3=>by dsimp only at g3;rcases Nat.lt_or_ge j k with e|e;exact hP j g1 e;obtain rfl:j=k:=(by omega);exact h1⟩ (by dsimp only;omega)) Zt leA
 replace h0:=sp h0
 refine xx 6 ?_;refine Zq (q) func16 (Zp results16 rfl) ⟨_,rfl,congrArg Value.bool (by symm;rw [decide_eq_true_iff];intro n hn;obtain ⟨j,hj,rfl⟩:=List.getElem_of_mem hn;exact hP j hj (by omega)),rfl⟩
set_option maxHeartbeats 1000000 in
theorem Ma (hq:MdlQ q m)(hk:Qb m=0):CallF prog G 19 [.agg (Wp m).toArray] (q) (Ret fun v q'=>v= .int .i64 (Jn m)∧q'=q):=by
 refine CallF.of func19 ntmps19 rfl (fun F cs=> ?_)
 have hmo:=Ki hk;have hv1:=hmo.2.2.1.1;have ha1:=hmo.2.2.2.1
 refine xo 2 ?_;refine Zb fun n1=> ?_
 refine oo 5 ?_;refine ld ?_;refine ox 9 ?_;refine X.know 3 (.int .i64 ((m.vars.length:Int)+Uj (m.arrays.take 0))) rfl (congrArg (Value.int .i64) (by simp [Uj])) ?_
 refine X.at (X.loop (fun (s:Nat)=>s≤m.arrays.length) (fun s=> [(4,.int .i64 (s:Int)),(3,.int .i64 ((m.vars.length:Int)+Uj (m.arrays.take s))),(1,.pointer (some ⟨n1,0,none⟩)),(2,.int .i64 0)]) (fun s=>pto n1 (.cells (Wp m).toArray 26 (0,0))::(q++F)) (fun s=>m.arrays.length - s) (fun s hi_ ih=> ?_) 0 (Nat.zero_le _)) Zt leA
 try dsimp only at hi_ ih⊢
 obtain hs0:=hi_
 refine xo 5 ?_;refine ld ?_;refine ox 3 ?_;refine X.part 12 rfl (fun h0=> ?_) (fun h0=> ?_)
 · replace h0:=sp h0
   have hk1:s<m.arrays.length:=by omega
   have hsu:=Y8 hmo s;have hx:=ha1.2 _ (List.getElem_mem hk1);unfold Z8 at hx
   refine xo 7 ?_;refine ld ?_;refine oo 1 ?_;refine Yz hq.a (by simp;omega) (fun b1 o1 e1=> ?_)
   have hs1:=hq.a;rw [e1] at hs1
   refine XO.know 17 (.slice (some ⟨b1,o1,none⟩) m.arrays.length m.ac) rfl (by rw [e1]) ?_
   refine oo 1 ?_;refine ld ?_ (hc:=(Cl.e1 hs1 leA hk1 rfl))
   refine ox 9 ?_;refine X.know 3 (.int .i64 ((m.vars.length:Int)+Uj (m.arrays.take (s+1)))) rfl (congrArg (Value.int .i64) (by rw [Kc hk1];omega)) ?_
   refine X.at (ih (s+1) (by omega) (by omega)) Zt leA
 replace h0:=sp h0
 refine xx 7 ?_;refine Zq (q) func19 (Zp results19 rfl) ⟨_,rfl,by unfold Jn;rw [List.take_of_length_le (by omega)],rfl⟩
set_option maxHeartbeats 2000000 in
theorem Ca (hq:MdlQ q m)(hmo:Hd m)(har:0≤arr∧arr<m.arrays.length)(hix:val idx):CallF prog G 67 [.agg (Wp m).toArray,.int .i64 arr,.int .i64 idx] (q) (Ret fun v q'=>v= .int .i64 (Ww m arr idx)∧q'=q):=by
 refine CallF.of func67 ntmps67 rfl (fun F cs=> ?_)
 have hv1:=hmo.2.2.1.1;have ha1:=hmo.2.2.2.1;have hix2:=hix;unfold val at hix2;have hal:arr.toNat<m.arrays.length:=(by omega);have hx:=ha1.2 _ (List.getElem_mem hal);unfold Z8 at hx
 have hsl:=Y8 hmo arr.toNat;have hgd:m.arrays.getD arr.toNat 0=m.arrays[arr.toNat]:=Z1 hal
 refine Hr hq.a (by simp;omega) (fun b1 o1 e1=> ?_)
 have hs1:=hq.a;rw [e1] at hs1
 refine xo 2 ?_;refine Zb fun n1=> ?_
 refine oo 8 ?_;refine Zf [11,6,3,1,2] ?_
 apply Zx 8 19 11 rfl
 · intro g1 M1;have h1:=sp g1
   refine oo 2 ?_;refine ld ?_;refine oo 1 ?_;refine XO.know 14 (.slice (some ⟨b1,o1,none⟩) m.arrays.length m.ac) rfl (by rw [e1]) ?_
   refine oo 1 ?_;refine ld ?_ (hc:=(Cl.e1 hs1 leA hal (by omega)))
   refine oo 2 ?_;exact Zz M1 ⟨orF g1,Zv⟩
 · intro g1 M1;have h1:=sp g1
   refine oo 8 ?_;exact Zz M1 ⟨orT g1,Zv⟩
 refine ox 1 ?_;refine X.part 19 rfl (fun h1=> ?_) (fun h1=> ?_)
 · replace h1:=sp h1
   refine xx 5 ?_;refine Zq (q) func67 (Zp results67 rfl) ⟨_,rfl,by unfold Ww;rw [hgd,if_neg (by omega)],rfl⟩
 replace h1:=sp h1
 refine xo 5 ?_;refine ld ?_;refine ox 9 ?_
 have hci:Ww m arr idx=(m.vars.length:Int)+Uj (m.arrays.take arr.toNat)+idx:=by unfold Ww;rw [hgd,if_pos (by omega)]
 refine X.know 7 (.int .i64 ((m.vars.length:Int)+Uj (m.arrays.take 0))) rfl (congrArg (Value.int .i64) (by simp [Uj])) ?_
 refine X.at (X.loop (fun (s:Nat)=>s≤arr.toNat) (fun s=> [(8,.int .i64 (s:Int)),(7,.int .i64 ((m.vars.length:Int)+Uj (m.arrays.take s))),(3,.pointer (some ⟨n1,0,none⟩)),(1,.int .i64 arr),(2,.int .i64 idx),(6,.int .i64 0)]) (fun s=>pto n1 (.cells (Wp m).toArray 26 (0,0))::(q++F)) (fun s=>arr.toNat - s) (fun s hi_ ih=> ?_) 0 (Nat.zero_le _)) Zt leA
 try dsimp only at hi_ ih⊢
 obtain hs0:=hi_
 have hsu0:=Y8 hmo s
 refine xx 7 ?_;refine X.part 25 rfl (fun h0=> ?_) (fun h0=> ?_)
 · replace h0:=sp h0
   have hk1:s<m.arrays.length:=by omega
   have hsu:=Y8 hmo s;have hx2:=ha1.2 _ (List.getElem_mem hk1);unfold Z8 at hx2
   refine xo 7 ?_;refine ld ?_;refine oo 1 ?_;refine XO.know 30 (.slice (some ⟨b1,o1,none⟩) m.arrays.length m.ac) rfl (by rw [e1]) ?_
   refine oo 1 ?_;refine ld ?_ (hc:=(Cl.e1 hs1 leA hk1 rfl))
   refine ox 9 ?_;refine X.know 7 (.int .i64 ((m.vars.length:Int)+Uj (m.arrays.take (s+1)))) rfl (congrArg (Value.int .i64) (by rw [Kc hk1];omega)) ?_
   refine X.at (ih (s+1) (by omega) (by omega)) Zt leA
 replace h0:=sp h0
 refine xx 9 ?_;refine Zq (q) func67 (Zp results67 rfl) ⟨_,rfl,by rw [hci,show s=arr.toNat by omega],rfl⟩
set_option maxHeartbeats 4000000 in
theorem Bn (hq:MdlQ q m)(hf:FrmQ q f)(hle:0≤less∧less≤1)(hsb:f.stk.length≤1000000000):CallF prog G 24 [.agg (Wp m).toArray,.agg (U2 f).toArray,.int .i64 less] (q) (Ret fun v q'=>(∃ bb,v= .bool bb∧(bb=true↔M0 m f less))∧q'=q):=by
 refine CallF.of func24 ntmps24 rfl (fun F cs=> ?_)
 have hlen:=Zm (f:=Wk) (sz:=4) (fun _=>rfl) m.threads;have hnt:=hq.nt;have hnl:=hf.nl;have hns:=hf.ns
 refine xo 2 ?_;refine Zb fun n1=> ?_
 refine Zb fun n2=> ?_
 refine oo 5 ?_;refine ldA ?_;refine XO.cR call49 (Pd (hq.le leA)) ?_;refine oo 2 ?_;refine Zf [13,6,4,3,2] ?_
 apply Zx 4 17 13 rfl
 · intro g1 M1;have h1:=sp g1
   refine oo 1 ?_;refine ld ?_;refine oo 2 ?_;exact Zz M1 ⟨orF g1,Zv⟩
 · intro g1 M1;have h1:=sp g1
   refine oo 4 ?_;exact Zz M1 ⟨orT g1,Zv⟩
 refine oo 1 ?_;refine Zf [18,6,4,3,2] ?_
 apply Zx 7 25 18 rfl
 · intro g1 M1;have h1:=sp g1
   refine oo 1 ?_;refine ld ?_;refine oo 1 ?_;refine ld ?_;refine oo 3 ?_;exact Zz M1 ⟨orF g1,Zv⟩
 · intro g1 M1;have h1:=sp g1
   refine oo 7 ?_;exact Zz M1 ⟨orT g1,Zv⟩
 refine ox 1 ?_;refine X.part 25 rfl (fun h1=> ?_) (fun h1=> ?_)
 · replace h1:=sp h1
   refine xx 5 ?_;refine Zq (q) func24 (Zp results24 rfl) ⟨_,rfl,⟨false,rfl,by simp only [Bool.false_eq_true,false_iff];rintro ⟨k1,k2,k3,_⟩;omega⟩,rfl⟩
 replace h1:=sp h1
 refine xo 5 ?_;refine ld ?_;refine oo 1 ?_;refine ld ?_
 have hth:f.code.toNat<m.threads.length:=by omega
 have h1n:Qb m=0∧0≤f.code∧f.code<(m.threads.length:Int):=by omega
 obtain ⟨hin,hL,hd0,hdp⟩:=vOk h1n.1 hth;obtain ⟨hp0,hDl,_,_⟩:=Bh hin hd0
 have hni:=(hq.x _ (List.getElem_mem hth)).ni
 refine Yz hq.t (by rw [hlen];omega) (fun b1 o1 e1=> ?_)
 have hs1:=hq.t;rw [e1] at hs1
 refine XO.know 27 (.slice (some ⟨b1,o1,none⟩) m.threads.length m.tc) rfl (by rw [e1]) ?_
 refine oo 1 ?_;refine Wn (n:=f.code.toNat) isAgg34 sizeOf34 hs1 hth ?_
 refine Zy zeroValue34 fun n3=> ?_
 refine stA ?_;refine oo 5 ?_;refine ld ?_;refine oo 2 ?_;refine Zf [35,7,6,4,3,2] ?_
 apply Zx 7 42 35 rfl
 · intro g2 M2;have h2:=sp g2
   refine oo 1 ?_;refine ld ?_;refine oo 1 ?_;refine ld ?_;refine oo 3 ?_;exact Zz M2 ⟨orF g2,Zv⟩
 · intro g2 M2;have h2:=sp g2
   refine oo 7 ?_;exact Zz M2 ⟨orT g2,Zv⟩
 refine oo 1 ?_;refine Zf [43,7,6,4,3,2] ?_
 apply Zx 7 50 43 rfl
 · intro g2 M2;have h2:=sp g2
   refine oo 1 ?_;refine ld ?_;refine oo 2 ?_;refine ld ?_;refine oo 2 ?_;exact Zz M2 ⟨orF g2,Zv⟩
 · intro g2 M2;have h2:=sp g2
   refine oo 7 ?_;exact Zz M2 ⟨orT g2,Zv⟩
 refine oo 1 ?_;refine Zf [51,7,6,4,3,2] ?_
 apply Zx 5 56 51 rfl
 · intro g2 M2;have h2:=sp g2
   refine oo 1 ?_;refine ld ?_;refine XO.cR call16 (Jc (hf.l.le leA) hf.nl) ?_;refine Zn (Pu.not rfl) ?_;refine oo 1 ?_;exact Zz M2 ⟨orF g2,Zv⟩
 · intro g2 M2;have h2:=sp g2
   refine oo 5 ?_;exact Zz M2 ⟨orT g2,Zv⟩
 refine oo 1 ?_;refine Zf [57,7,6,4,3,2] ?_
 apply Zx 5 62 57 rfl
 · intro g2 M2;have h2:=sp g2
   refine oo 1 ?_;refine ld ?_;refine XO.cR call16 (Jc (hf.s.le leA) hf.ns) ?_;refine Zn (Pu.not rfl) ?_;refine oo 1 ?_;exact Zz M2 ⟨orF g2,Zv⟩
 · intro g2 M2;have h2:=sp g2
   refine oo 5 ?_;exact Zz M2 ⟨orT g2,Zv⟩
 refine ox 1 ?_;refine X.part 62 rfl (fun h2=> ?_) (fun h2=> ?_)
 · replace h2:=sp h2
   refine xx 5 ?_;refine Zq (q) func24 (Zp results24 rfl) ⟨_,rfl,⟨false,rfl,by simp only [Bool.false_eq_true,false_iff];rintro ⟨k1,k2,k3,k4,k5,k6,k7,k8,_⟩;grind⟩,rfl⟩
 replace h2:=sp h2
 refine xo 4 ?_;refine ldA ?_;refine ldA ?_;refine Zh call20 (Le.refl _) (Nr (m:=m) (t:=m.threads[f.code.toNat]) ((hq.x _ (List.getElem_mem hth)).le leA) hin hL) ?_
 rintro _ _ (⟨hz,rfl,rfl⟩|⟨hz,a1,c1,rfl,rfl⟩)
 · exact absurd hd0 hz
 have h2n:(0≤f.pc∧f.pc<(m.threads[f.code.toNat].ins.length:Int))∧(f.loc.length:Int)=m.threads[f.code.toNat].locals∧Jo f.loc∧Jo f.stk:=⟨h2.1.1.1,h2.1.1.2,h2.1.2,h2.2⟩
 have hpc:f.pc.toNat<(dOf m m.threads[f.code.toNat]).1.length:=by omega
 refine Dd (l:=(dOf m m.threads[f.code.toNat]).1) (by omega) (fun g1 e_=> ?_);subst e_
 refine ox 7 ?_;refine drw ?_;refine dd [0,1,2] ?_;refine XD.kt 71 ?_;refine dd [3,4] ?_;refine ldD 5 ?_;refine dd [6] ?_;refine ldD 7 ?_ (hc:=(Cl.e1 (Sees.lsH _) Zw hpc (by omega)))
 refine dd [8,9,10] ?_;refine XD.part 79 rfl (fun h3=> ?_) (fun h3=> ?_)
 focus
  replace h3:=sp h3
  refine dd [11,12] ?_;refine ldD 13 ?_;refine dd [14] ?_;refine ldD 15 ?_ (hc:=(Cl.e1 (Sees.lsH _) Zw hpc (by omega)))
  refine dd [16] ?_;refine ldD 17 ?_;refine dd [18,19,20,21,22,23] ?_
 rotate_left
 focus
  replace h3:=sp h3
  refine dd [11,12,13,14,15,16,17,18,19,20,21,22,23] ?_
 all_goals
  refine XD.nil ?_;refine Zq (q) func24 (Zp results24 rfl) ⟨_,rfl,⟨_,rfl,by rw [mayS_at2 h1n hth h2n.1 h2n.2.1 h2n.2.2.1 h2n.2.2.2,Un hpc];simp;try omega⟩,rfl⟩
end
theorem Tryz.info34:(prog.info? 34).map (fun i=>(i.zero,i.size,i.bytes))=some (some (.agg #[.string ⟨#[]⟩,.int .i64 0,.slice none 0 0,.slice none 0 0]),4,72):=by kernel_rfl
theorem Tryz.info48:(prog.info? 48).map (fun i=>(i.zero,i.size,i.bytes))=some (some (.agg #[.int .i64 0,.int .i64 0,.int .i64 0,.int .i64 0]),4,32):=by kernel_rfl
section
variable {G:World}{q pre:List HP}{a b A:Option Addr}{c d C p p0 p1 p2 i:Nat}{lo hi n cd dep:Int}{fv:Value}{x y:Ins}{t:Cod}{m:Mdl}{at_:Int}
variable {l cells loc:List Int}{idx arr z k u pc code:Int}{x1 x2 x3 x4 x5 x6 old:Value}{pm cc lc n1 n2:Nat}{la cda:Option Addr}
variable {f f2:Frm}{last:Int}{kk:Nat}{xs:List Ins}{l2:List Int}
set_option maxHeartbeats 4000000 in
theorem Bm (hf:FrmQ q f)(hf2:FrmQ q f2):CallF prog G 45 [.agg (U2 f).toArray,.agg (U2 f2).toArray] (q) (Ret fun v q'=>v= .bool (decide (f.code=f2.code∧f.pc=f2.pc∧f.loc=f2.loc∧f.stk=f2.stk))∧q'=q):=by
 refine CallF.of func45 ntmps45 rfl (fun F cs=> ?_)
 have k1:=hf.nl;have k2:=hf.ns;have k3:=hf2.nl;have k4:=hf2.ns
 refine xo 2 ?_;refine Zb fun n1=> ?_
 refine Zb fun n2=> ?_
 refine oo 6 ?_;refine ld ?_;refine oo 1 ?_;refine ld ?_;refine oo 2 ?_;refine Zf [12,4,3,2] ?_
 apply Zx 6 18 12 rfl
 · intro g1 M1;have h1:=sp g1
   refine oo 1 ?_;refine ld ?_;refine oo 1 ?_;refine ld ?_;refine oo 2 ?_;exact Zz M1 ⟨orF g1,Zv⟩
 · intro g1 M1;have h1:=sp g1
   refine oo 6 ?_;exact Zz M1 ⟨orT g1,Zv⟩
 refine oo 1 ?_;refine Zf [19,4,3,2] ?_
 apply Zx 8 27 19 rfl
 · intro g1 M1;have h1:=sp g1
   refine oo 1 ?_;refine ld ?_;refine oo 2 ?_;refine ld ?_;refine oo 3 ?_;exact Zz M1 ⟨orF g1,Zv⟩
 · intro g1 M1;have h1:=sp g1
   refine oo 8 ?_;exact Zz M1 ⟨orT g1,Zv⟩
 refine oo 1 ?_;refine Zf [28,4,3,2] ?_
 apply Zx 8 36 28 rfl
 · intro g1 M1;have h1:=sp g1
   refine oo 1 ?_;refine ld ?_;refine oo 2 ?_;refine ld ?_;refine oo 3 ?_;exact Zz M1 ⟨orF g1,Zv⟩
 · intro g1 M1;have h1:=sp g1
   refine oo 8 ?_;exact Zz M1 ⟨orT g1,Zv⟩
 refine ox 1 ?_;refine X.part 36 rfl (fun h1=> ?_) (fun h1=> ?_)
 · replace h1:=sp h1
   refine xx 5 ?_;refine Zq (q) func45 (Zp results45 rfl) ⟨_,rfl,congrArg Value.bool (by symm;rw [decide_eq_false_iff_not];rintro ⟨e1,e2,e3,e4⟩;rw [e3,e4] at h1;simp [e1,e2] at h1),rfl⟩
 replace h1:=sp h1
 refine xx 8 ?_
 have hll:f.loc.length=f2.loc.length∧f.stk.length=f2.stk.length∧f.code=f2.code∧f.pc=f2.pc:=by omega
 refine X.at (X.loop (fun (s:Nat)=>s≤f.loc.length∧ ∀ j (h:j<f.loc.length) (h2:j<f2.loc.length),j<s→f.loc[j]=f2.loc[j]) (fun s=> [(5,.int .i64 (s:Int)),(2,.pointer (some ⟨n1,0,none⟩)),(3,.pointer (some ⟨n2,0,none⟩)),(4,.bool false)]) (fun s=>pto n2 (.cells (U2 f2).toArray 67 (0,0))::pto n1 (.cells (U2 f).toArray 67 (0,0))::(q++F)) (fun s=>f.loc.length - s) (fun s hi_ ih=> ?_) 0 ⟨Nat.zero_le _,fun j _ _ k=>absurd k (Nat.not_lt_zero j)⟩) Zt leA
 try dsimp only at hi_ ih⊢
 obtain ⟨hk,hP⟩:=hi_
 refine xo 5 ?_;refine ld ?_;refine ox 3 ?_;refine X.part 41 rfl (fun h0=> ?_) (fun h0=> ?_)
 · replace h0:=sp h0
   have hk1:s<f.loc.length:=by omega
   have hk2:s<f2.loc.length:=by omega
   refine xx 5 ?_;refine drw ?_;refine dd [0] ?_;refine ldD 1 ?_;refine dd [2] ?_;refine Yp hf.l (by simp;omega) (fun bxl oxl exl=> ?_)
   have hsxl:=hf.l;rw [exl] at hsxl
   refine XD.know 45 (.slice (some ⟨bxl,oxl,none⟩) f.loc.length f.lc) rfl (by rw [exl]) ?_
   refine dd [3] ?_;refine ldD 4 ?_ (hc:=(Cl.e1 hsxl leA hk1 rfl))
   refine dd [5] ?_;refine ldD 6 ?_;refine dd [7] ?_;refine Yp hf2.l (by simp;omega) (fun byl oyl eyl=> ?_)
   have hsyl:=hf2.l;rw [eyl] at hsyl
   refine XD.know 50 (.slice (some ⟨byl,oyl,none⟩) f2.loc.length f2.lc) rfl (by rw [eyl]) ?_
   refine dd [8] ?_;refine ldD 9 ?_ (hc:=(Cl.e1 hsyl leA hk2 rfl))
   refine dd [10] ?_;refine XD.nil ?_;refine X.part 54 rfl (fun h1=> ?_) (fun h1=> ?_)
   · replace h1:=sp h1
     refine xx 5 ?_;refine Zq (q) func45 (Zp results45 rfl) ⟨_,rfl,congrArg Value.bool (by symm;rw [decide_eq_false_iff_not];rintro ⟨e1,e2,e3,e4⟩;apply h1;simp only [e3]),rfl⟩
   replace h1:=sp h1
   refine xx 8 ?_;refine X.at (ih (s+1) ⟨by omega,fun j g1 g2 g3=>by rcases Nat.lt_or_ge j s with e|e;exact hP j g1 g2 e;obtain rfl:j=s:=(by omega);exact h1⟩ (by omega)) Zt leA
 replace h0:=sp h0
 refine xx 8 ?_
 have hloc:f.loc=f2.loc:=List.ext_getElem hll.1 (fun j g1 g2=>hP j g1 g2 (by omega))
 clear hP hk ih
 refine X.at (X.loop (fun (s:Nat)=>s≤f.stk.length∧ ∀ j (h:j<f.stk.length) (h2:j<f2.stk.length),j<s→f.stk[j]=f2.stk[j]) (fun s=> [(6,.int .i64 (s:Int)),(2,.pointer (some ⟨n1,0,none⟩)),(3,.pointer (some ⟨n2,0,none⟩)),(4,.bool false)]) (fun s=>pto n2 (.cells (U2 f2).toArray 67 (0,0))::pto n1 (.cells (U2 f).toArray 67 (0,0))::(q++F)) (fun s=>f.stk.length - s) (fun s hi_ ih=> ?_) 0 ⟨Nat.zero_le _,fun j _ _ k=>absurd k (Nat.not_lt_zero j)⟩) Zt leA
 try dsimp only at hi_ ih⊢
 obtain ⟨hk,hP⟩:=hi_
 refine xo 5 ?_;refine ld ?_;refine ox 3 ?_;refine X.part 59 rfl (fun h0=> ?_) (fun h0=> ?_)
 · replace h0:=sp h0
   have hk1:s<f.stk.length:=by omega
   have hk2:s<f2.stk.length:=by omega
   refine xx 5 ?_;refine drw ?_;refine dd [0] ?_;refine ldD 1 ?_;refine dd [2] ?_;refine Yp hf.s (by simp;omega) (fun bxs oxs exs=> ?_)
   have hsxs:=hf.s;rw [exs] at hsxs
   refine XD.know 63 (.slice (some ⟨bxs,oxs,none⟩) f.stk.length f.sc) rfl (by rw [exs]) ?_
   refine dd [3] ?_;refine ldD 4 ?_ (hc:=(Cl.e1 hsxs leA hk1 rfl))
   refine dd [5] ?_;refine ldD 6 ?_;refine dd [7] ?_;refine Yp hf2.s (by simp;omega) (fun bys oys eys=> ?_)
   have hsys:=hf2.s;rw [eys] at hsys
   refine XD.know 68 (.slice (some ⟨bys,oys,none⟩) f2.stk.length f2.sc) rfl (by rw [eys]) ?_
   refine dd [8] ?_;refine ldD 9 ?_ (hc:=(Cl.e1 hsys leA hk2 rfl))
   refine dd [10] ?_;refine XD.nil ?_;refine X.part 72 rfl (fun h1=> ?_) (fun h1=> ?_)
   · replace h1:=sp h1
     refine xx 5 ?_;refine Zq (q) func45 (Zp results45 rfl) ⟨_,rfl,congrArg Value.bool (by symm;rw [decide_eq_false_iff_not];rintro ⟨e1,e2,e3,e4⟩;apply h1;simp only [e4]),rfl⟩
   replace h1:=sp h1
   refine xx 8 ?_;refine X.at (ih (s+1) ⟨by omega,fun j g1 g2 g3=>by rcases Nat.lt_or_ge j s with e|e;exact hP j g1 g2 e;obtain rfl:j=s:=(by omega);exact h1⟩ (by omega)) Zt leA
 replace h0:=sp h0
 refine xx 6 ?_
 have hstk:f.stk=f2.stk:=List.ext_getElem hll.2.1 (fun j g1 g2=>hP j g1 g2 (by omega))
 refine Zq (q) func45 (Zp results45 rfl) ⟨_,rfl,congrArg Value.bool (by symm;rw [decide_eq_true_iff];exact ⟨hll.2.2.1,hll.2.2.2,hloc,hstk⟩),rfl⟩
def T2 (xs:List Ins)(a:Option Addr)(c:Nat)(g0 g1:Nat):Mdl:=⟨[], [], [],0,0, [⟨⟨#[109,97,105,110]⟩,0,xs,List.replicate xs.length 0,a,c,some ⟨g0,0,none⟩,xs.length⟩],none,0,none,0,none,0,some ⟨g1,0,none⟩,1⟩
theorem codeL_ok (hL:xs.length≤1000):CallF prog G 40 [.slice a xs.length c] ([]) (Ret fun v q'=> ∃ g0 g1,v= .agg (Wp (T2 xs a c g0 g1)).toArray∧q'= [rsH Wk 4 34 (some ⟨g1,0,none⟩) 1 (T2 xs a c g0 g1).threads,lsH I64 3 (some ⟨g0,0,none⟩) xs.length (List.replicate xs.length 0)]):=by
 refine CallF.of func40 ntmps40 rfl (fun F cs=> ?_)
 refine xo 2 ?_;refine Zy zeroValue26 fun n1=> ?_
 refine oo 6 ?_;refine XO.ef (Hh (n:=xs.length) rfl rfl underlying23 Tryz.info3 rfl rfl (by omega) (by omega)) ?_
 rintro _ _ ⟨g0,rfl,rfl⟩
 refine XO.le (q':=lsH I64 3 (some ⟨g0,0,none⟩) xs.length (List.replicate xs.length 0)::_) (Le.trans Zw (by rw [←Mu (f:=I64) (u:=0) rfl];exact Le.refl _)) ?_
 refine oo 1 ?_;refine XO.know 7 (.agg (Wk (⟨⟨#[109,97,105,110]⟩,0,xs,List.replicate xs.length 0,a,c,some ⟨g0,0,none⟩,xs.length⟩:Cod)).toArray) rfl (by simp [Wk]) ?_
 refine XO.ef (Ws (u:=(⟨⟨#[109,97,105,110]⟩,0,xs,List.replicate xs.length 0,a,c,some ⟨g0,0,none⟩,xs.length⟩:Cod)) Wk underlying24 Tryz.info34 rfl rfl (fun _=>rfl) rfl) ?_
 rintro _ _ ⟨g1,rfl,rfl⟩
 refine oo 1 ?_;refine stA ?_;refine ox 1 ?_;refine Zq [rsH Wk 4 34 (some ⟨g1,0,none⟩) 1 (T2 xs a c g0 g1).threads,lsH I64 3 (some ⟨g0,0,none⟩) xs.length (List.replicate xs.length 0)] func40 (rA_ results40) ⟨_,rfl,g0,g1,rfl,rfl⟩
theorem A3 {g0 g1:Nat}{r1 r2:List HP}(hs:Sees q a (xs.flatMap Zr))(hL:xs.length≤1000)(h1:Le q (rsH Wk 4 34 (some ⟨g1,0,none⟩) 1 (T2 xs a c g0 g1).threads::r1))(h2:Le q (lsH I64 3 (some ⟨g0,0,none⟩) xs.length (List.replicate xs.length 0)::r2)):MdlQ q (T2 xs a c g0 g1):=
 ⟨Sees.nil _ _,Sees.nil _ _,Sees.nil _ _,(Sees.rsH _).le h1,fun x hx=>by
  obtain rfl:=List.mem_singleton.1 hx
  exact ⟨hs,(Sees.lsH _).le h2,(show 4≤9223372036854775807 by decide),by dsimp only;omega,by dsimp only;rw [List.length_replicate];omega⟩,Nat.zero_le _,Nat.zero_le _,Nat.zero_le _,(show 1≤9223372036854775807 by decide),Nat.zero_le _⟩
abbrev kI:List Ins:= [⟨1,0,0,6⟩,⟨33,0,0,0⟩,⟨34,0,0,0⟩]
theorem kn_v (a:Option Addr)(c g0 g1:Nat):Qb (T2 kI a c g0 g1)=0:=by kernel_rfl
theorem kn_d (a:Option Addr)(c g0 g1:Nat):(dOf (T2 kI a c g0 g1) ⟨⟨#[109,97,105,110]⟩,0,kI,List.replicate 3 0,a,c,some ⟨g0,0,none⟩,3⟩).1= [0,1,0]:=by kernel_rfl
theorem kn_m (a:Option Addr)(c g0 g1:Nat)(pc:Int)(stk:List Int)(la sa:Option Addr)(lc sc:Nat)(h:(pc=0∧stk= [])∨(pc=1∧stk= [6])):M0 (T2 kI a c g0 g1) ⟨0,pc, [],stk,la,lc,sa,sc⟩ 0:=by
 rcases h with ⟨rfl,rfl⟩|⟨rfl,rfl⟩
 · exact ⟨kn_v a c g0 g1,Int.le_refl 0,Nat.zero_lt_one,Int.le_refl 0,(by decide:(0:Int)<3),rfl,(by intro n hn;cases hn),(by intro n hn;cases hn),(by show 0≤dAt (dOf _ _).1 0;erw [kn_d];decide),(by show dAt (dOf _ _).1 0=_;erw [kn_d];rfl)⟩
 exact ⟨kn_v a c g0 g1,Int.le_refl 0,Nat.zero_lt_one,(by decide:(0:Int)≤1),(by decide:(1:Int)<3),rfl,(by intro n hn;cases hn),(by intro n hn;rw [List.mem_singleton.1 hn];decide),(by show 0≤dAt (dOf _ _).1 1;erw [kn_d];decide),(by show dAt (dOf _ _).1 1=_;erw [kn_d];rfl)⟩
theorem kn_1 (a:Option Addr)(c g0 g1:Nat)(la sa:Option Addr)(lc sc:Nat):Wc (T2 kI a c g0 g1) ⟨0,0, [], [],la,lc,sa,sc⟩ []=((1, [], [6]),Vo):=by rfl
theorem kn_2 (a:Option Addr)(c g0 g1:Nat)(la sa:Option Addr)(lc sc:Nat):Wc (T2 kI a c g0 g1) ⟨0,1, [], [6],la,lc,sa,sc⟩ []=((2, [], []),Ey 6 6):=by rfl
set_option maxHeartbeats 8000000 in
theorem known_ok (gc:GC q)(g:GE q):CallF prog G 17 [] (q) (Ret fun v q'=>v= .bool true∧q'=q):=by
 refine CallF.of func17 ntmps17 rfl (fun F cs=> ?_)
 refine xo 9 ?_;refine XO.ef (Ef.buildSlice (us:=kI.map fun x=> .agg (Zr x).toArray) (cells:=kI.flatMap Zr) underlying32 Tryz.info48 rfl rfl rfl (by kernel_rfl) rfl) ?_
 rintro _ _ ⟨gs,rfl,rfl⟩
 refine XO.le (q':=rsH Zr 4 48 (some ⟨gs,0,none⟩) 3 kI::_) (Le.trans Zw (C8 Zr 4 48 (some ⟨gs,0,none⟩) 3 kI _)) ?_
 refine V8 call40 (codeL_ok (xs:=kI) (by decide)) ?_
 rintro _ _ ⟨ga,gb,rfl,rfl⟩ _ e_;simp only [ca,na] at e_;subst e_
 refine Zy zeroValue26 fun n1=> ?_
 refine stA ?_;refine oo 3 ?_;refine ldA ?_;refine Zh call23 (Le.refl _) (New_ok (m:=(T2 kI (some ⟨gs,0,none⟩) 3 ga gb)) (th:=0) (gc.le leA) (g.le leA) (A3 (xs:=kI) (a:=some ⟨gs,0,none⟩) (c:=3) (g0:=ga) (g1:=gb) ((Sees.rsH _).le Zw) (by decide) Zw Zw)) ?_
 rintro _ _ (⟨hh,la,lc,rfl,rfl⟩|⟨hh,rfl,rfl⟩)
 rotate_left; · exact absurd ⟨kn_v _ _ _ _,Int.le_refl 0,Nat.zero_lt_one⟩ hh
 refine oo 3 ?_;refine Zy zeroValue67 fun n2=> ?_
 refine stA ?_;refine oo 4 ?_;refine ldA ?_;refine ldA ?_;refine Zh call25 (Le.refl _) (Rq (m:=(T2 kI (some ⟨gs,0,none⟩) 3 ga gb)) (f:=⟨0,0, [], [],la,lc,none,0⟩) (cells:= []) (cda:=none) (cc:=0) (gc.le leA) (g.le leA) (A3 (xs:=kI) (a:=some ⟨gs,0,none⟩) (c:=3) (g0:=ga) (g1:=gb) ((Sees.rsH _).le Zw) (by decide) Zw Zw) ⟨(Sees.nil _ _),(Sees.nil _ _),Nat.zero_le _,Nat.zero_le _⟩ (Sees.nil _ _) (Nat.zero_le _)) ?_
 rintro _ _ (⟨hok,la1,lc1,sa1,sc1,rfl,rfl⟩|⟨hno,rfl,rfl⟩)
 rotate_left; · exact absurd ⟨kn_m (some ⟨gs,0,none⟩) 3 ga gb 0 [] la none lc 0 (.inl ⟨rfl,rfl⟩),rfl,(by intro n hn;cases hn)⟩ hno
 rw [kn_1]
 refine oo 4 ?_;refine Zy zeroValue67 fun n3=> ?_
 refine Zy zeroValue51 fun n4=> ?_
 refine stA ?_;refine stA ?_;refine oo 4 ?_;refine ldA ?_;refine ldA ?_;refine Zh call25 (Le.refl _) (Rq (m:=(T2 kI (some ⟨gs,0,none⟩) 3 ga gb)) (f:=⟨0,1, [], [6],la1,lc1,sa1,sc1⟩) (cells:= []) (cda:=none) (cc:=0) (gc.le leA) (g.le leA) (A3 (xs:=kI) (a:=some ⟨gs,0,none⟩) (c:=3) (g0:=ga) (g1:=gb) ((Sees.rsH _).le Zw) (by decide) Zw Zw) ⟨(Sees.lsH _).le Zw,(Sees.lsH _).le Zw,Nat.zero_le _,(show 1≤9223372036854775807 by decide)⟩ (Sees.nil _ _) (Nat.zero_le _)) ?_
 rintro _ _ (⟨hok2,la2,lc2,sa2,sc2,rfl,rfl⟩|⟨hno,rfl,rfl⟩)
 rotate_left; · exact absurd ⟨kn_m (some ⟨gs,0,none⟩) 3 ga gb 1 [6] la1 sa1 lc1 sc1 (.inr ⟨rfl,rfl⟩),rfl,(by intro n hn;cases hn)⟩ hno
 rw [kn_2]
 refine oo 4 ?_;refine Zy zeroValue67 fun n5=> ?_
 refine Zy zeroValue51 fun n6=> ?_
 refine stA ?_;refine stA ?_;refine oo 7 ?_;refine XO.kt 36 ?_;refine oo 4 ?_;refine XO.kt 40 ?_;refine oo 4 ?_;refine XO.kt 44 ?_;refine oo 1 ?_;refine ld ?_;refine oo 3 ?_;refine XO.kt 49 ?_;refine oo 1 ?_;refine ld ?_;refine oo 4 ?_;refine XO.kt 55 ?_;refine oo 1 ?_;refine ld ?_;refine Dd (fl:=I64) (l:=([6]:List Int)) (a:=sa1) (by decide) (fun gq e_=> ?_);subst e_
 refine oo 1 ?_;refine ld ?_ (hc:=(Cl.e1 (n:=0) (l:=([6]:List Int)) (Sees.lsH _) Zw (by decide) rfl))
 refine oo 3 ?_;refine XO.kt 62 ?_;refine oo 1 ?_;refine ld ?_;refine oo 3 ?_;refine XO.kt 67 ?_;refine oo 1 ?_;refine ld ?_;refine oo 3 ?_;refine XO.kt 72 ?_;refine oo 1 ?_;refine ld ?_;refine ox 4 ?_;refine Zq (q) func17 (Zp results17 rfl) ⟨_,rfl,rfl,rfl⟩
end
theorem Tryz.info215:(prog.info? 215).map (fun i=>(i.zero,i.size,i.bytes))=some (some (.agg #[.int .i64 0,.int .i64 0,.string ⟨#[]⟩,.int .i64 0,.bool false,.int .i64 0,.slice none 0 0]),7,80):=by kernel_rfl
theorem Tryz.info45:(prog.info? 45).map (fun i=>(i.zero,i.size,i.bytes))=some (some (.agg #[.int .i64 0,.bool false,.int .i64 0]),3,24):=by kernel_rfl
def exN (n:Int):List Value:= [.int .i64 1,.int .i64 n,.string ⟨#[]⟩,.int .i64 0,.bool false,.int .i64 0,.slice none 0 0]
def exB (o:Int)(g:Nat):List Value:= [.int .i64 6,.int .i64 0,.string ⟨#[]⟩,.int .i64 0,.bool false,.int .i64 o,.slice (some ⟨g,0,none⟩) 2 2]
def Bv (x:Int×Bool×Int):List Value:= [.int .i64 x.1,.bool x.2.1,.int .i64 x.2.2]
section
variable {G:World}{q pre:List HP}{a b A:Option Addr}{c d C p p0 p1 p2 i:Nat}{lo hi n cd dep:Int}{fv:Value}{x y:Ins}{t:Cod}{m:Mdl}{at_:Int}
variable {l cells loc:List Int}{idx arr z k u pc code:Int}{x1 x2 x3 x4 x5 x6 old:Value}{pm cc lc n1 n2:Nat}{la cda:Option Addr}
variable {f:Frm}{op:Int}{bb:Bool}{g:Nat}
theorem V0:CallF prog G 162 [.bool bb] (q) (Ret fun v q'=>v= .int .i64 (W5 bb)∧q'=q):=by
 refine CallF.of func162 ntmps162 rfl (fun F cs=> ?_)
 refine xx 9 ?_;refine X.part 3 rfl (fun h0=> ?_) (fun h0=> ?_)
 · refine xx 5 ?_;refine Zq (q) func162 (Zp results162 rfl) ⟨_,rfl,by rw [show bb=true by simpa using h0];rfl,rfl⟩
 refine xx 6 ?_;refine Zq (q) func162 (Zp results162 rfl) ⟨_,rfl,by rw [show bb=false by simpa using h0];rfl,rfl⟩
theorem Br:CallF prog G 70 [.bool bb] (q) (Ret fun v q'=>v= .int .i64 (W5 bb)∧q'=q):=by
 refine CallF.of func70 ntmps70 rfl (fun F cs=> ?_)
 refine xx 9 ?_;refine X.part 3 rfl (fun h0=> ?_) (fun h0=> ?_)
 · refine xx 5 ?_;refine Zq (q) func70 (Zp results70 rfl) ⟨_,rfl,by rw [show bb=true by simpa using h0];rfl,rfl⟩
 refine xx 6 ?_;refine Zq (q) func70 (Zp results70 rfl) ⟨_,rfl,by rw [show bb=false by simpa using h0];rfl,rfl⟩
set_option maxHeartbeats 4000000 in
theorem Bt (ho:3≤op∧op≤11)(hu:val u)(hz:val z):CallF prog G 161 [.int .i64 op,.int .i64 u,.int .i64 z] (q) (Ret fun v q'=>v= .tuple [.int .i64 (Yg op u z).1,.int .i64 (Yg op u z).2].toArray∧q'=q):=by
 refine CallF.of func161 ntmps161 rfl (fun F cs=> ?_)
 have hu2:=hu;have hz2:=hz;unfold val at hu2 hz2
 have hcase:op=3∨op=4∨op=5∨op=6∨op=7∨op=8∨op=9∨op=10∨op=11:=by omega
 rcases hcase with rfl|rfl|rfl|rfl|rfl|rfl|rfl|rfl|rfl
 · refine xx 20 ?_;refine X.kt 10 ?_;refine xo 6 ?_;refine XO.cR call162 (V0) ?_;refine ox 3 ?_;refine Zq (q) func161 (V9 results161 rfl rfl) ⟨_,rfl,by simp [Yg]<;>first|rfl|(congr 1;rw [Bool.eq_iff_iff];simp),rfl⟩
 · refine xx 20 ?_;refine Zj 10 ?_;refine xx 6 ?_;refine X.kt 16 ?_;refine xo 6 ?_;refine XO.cR call162 (V0) ?_;refine ox 3 ?_;refine Zq (q) func161 (V9 results161 rfl rfl) ⟨_,rfl,by simp [Yg]<;>first|rfl|(congr 1;rw [Bool.eq_iff_iff];simp),rfl⟩
 · refine xx 20 ?_;refine Zj 10 ?_;refine xx 6 ?_;refine Zj 16 ?_;refine xx 6 ?_;refine X.kt 22 ?_;refine xo 6 ?_;refine XO.cR call162 (V0) ?_;refine ox 3 ?_;refine Zq (q) func161 (V9 results161 rfl rfl) ⟨_,rfl,by simp [Yg]<;>first|rfl|(congr 1;rw [Bool.eq_iff_iff];simp),rfl⟩
 · refine xx 20 ?_;refine Zj 10 ?_;refine xx 6 ?_;refine Zj 16 ?_;refine xx 6 ?_;refine Zj 22 ?_;refine xx 6 ?_;refine X.kt 28 ?_;refine xo 6 ?_;refine XO.cR call162 (V0) ?_;refine ox 3 ?_;refine Zq (q) func161 (V9 results161 rfl rfl) ⟨_,rfl,by simp [Yg]<;>first|rfl|(congr 1;rw [Bool.eq_iff_iff];simp),rfl⟩
 · refine xx 20 ?_;refine Zj 10 ?_;refine xx 6 ?_;refine Zj 16 ?_;refine xx 6 ?_;refine Zj 22 ?_;refine xx 6 ?_;refine Zj 28 ?_;refine xx 6 ?_;refine X.kt 34 ?_;refine xo 14 ?_;refine Zf [65,8,7,6] ?_
   apply Zx 3 68 65 rfl
   · intro g1 M1;have h1:=sp g1
     refine oo 3 ?_;exact Zz M1 ⟨orF g1,Zv⟩
   · intro g1 M1;have h1:=sp g1
     refine oo 3 ?_;exact Zz M1 ⟨orT g1,Zv⟩
   refine ox 1 ?_;refine X.part 68 rfl (fun h1=> ?_) (fun h1=> ?_)
   focus
    replace h1:=sp h1
    refine xx 6 ?_
   rotate_left
   focus
    replace h1:=sp h1
    refine xx 8 ?_
   all_goals
    refine Zq (q) func161 (V9 results161 rfl rfl) ⟨_,rfl,by first|(simp [Yg,h1];done)|(unfold Yg val;simp [h1];omega)|(unfold Yg val;simp only [h1];simp;grind),rfl⟩
 · refine xx 20 ?_;refine Zj 10 ?_;refine xx 6 ?_;refine Zj 16 ?_;refine xx 6 ?_;refine Zj 22 ?_;refine xx 6 ?_;refine Zj 28 ?_;refine xx 6 ?_;refine Zj 34 ?_;refine xx 6 ?_;refine X.kt 39 ?_;refine xo 14 ?_;refine Zf [65,8,7,6] ?_
   apply Zx 3 68 65 rfl
   · intro g1 M1;have h1:=sp g1
     refine oo 3 ?_;exact Zz M1 ⟨orF g1,Zv⟩
   · intro g1 M1;have h1:=sp g1
     refine oo 3 ?_;exact Zz M1 ⟨orT g1,Zv⟩
   refine ox 1 ?_;refine X.part 68 rfl (fun h1=> ?_) (fun h1=> ?_)
   focus
    replace h1:=sp h1
    refine xx 6 ?_
   rotate_left
   focus
    replace h1:=sp h1
    refine xx 8 ?_
   all_goals
    refine Zq (q) func161 (V9 results161 rfl rfl) ⟨_,rfl,by first|(simp [Yg,h1];done)|(unfold Yg val;simp [h1];omega)|(unfold Yg val;simp only [h1];simp;grind),rfl⟩
 · have hm:=Lq hu hz
   refine xx 20 ?_;refine Zj 10 ?_;refine xx 6 ?_;refine Zj 16 ?_;refine xx 6 ?_;refine Zj 22 ?_;refine xx 6 ?_;refine Zj 28 ?_;refine xx 6 ?_;refine Zj 34 ?_;refine xx 6 ?_;refine Zj 39 ?_;refine xx 6 ?_;refine X.kt 44 ?_;refine xo 4 ?_;refine Zn (Pu.mul rfl rfl (by omega) (by omega)) ?_
   refine oo 9 ?_;refine Zf [65,8,7,6] ?_
   apply Zx 3 68 65 rfl
   · intro g1 M1;have h1:=sp g1
     refine oo 3 ?_;exact Zz M1 ⟨orF g1,Zv⟩
   · intro g1 M1;have h1:=sp g1
     refine oo 3 ?_;exact Zz M1 ⟨orT g1,Zv⟩
   refine ox 1 ?_;refine X.part 68 rfl (fun h1=> ?_) (fun h1=> ?_)
   focus
    replace h1:=sp h1
    refine xx 6 ?_
   rotate_left
   focus
    replace h1:=sp h1
    refine xx 8 ?_
   all_goals
    refine Zq (q) func161 (V9 results161 rfl rfl) ⟨_,rfl,by first|(simp [Yg,h1];done)|(unfold Yg val;simp [h1];omega)|(unfold Yg val;simp only [h1];simp;grind),rfl⟩
 focus
  have hm:=Lj (b:=z) hu
  refine xx 20 ?_;refine Zj 10 ?_;refine xx 6 ?_;refine Zj 16 ?_;refine xx 6 ?_;refine Zj 22 ?_;refine xx 6 ?_;refine Zj 28 ?_;refine xx 6 ?_;refine Zj 34 ?_;refine xx 6 ?_;refine Zj 39 ?_;refine xx 6 ?_;refine Zj 44 ?_;refine xx 6 ?_;refine X.kt 49 ?_;refine xx 7 ?_;refine X.part 52 rfl (fun h1=> ?_) (fun h1=> ?_)
  · replace h1:=sp h1
    refine xx 6 ?_;refine Zq (q) func161 (V9 results161 rfl rfl) ⟨_,rfl,by first|(simp [Yg,h1];done)|(unfold Yg val;simp [h1];omega)|(unfold Yg val;simp only [h1];simp;grind),rfl⟩
  replace h1:=sp h1
  refine xo 5 ?_;refine Zn (Fe rfl rfl (by omega)) ?_
  refine XO.know 55 (.int .i64 (u.tdiv z)) rfl (congrArg (Value.int .i64) (show IntKind.i64.wrap (u.tdiv z)=u.tdiv z from V4 (by omega) (by omega))) ?_
  refine oo 9 ?_;refine Zf [65,8,7,6] ?_
  apply Zx 3 68 65 rfl
  · intro g2 M2;have h2:=sp g2
    refine oo 3 ?_;exact Zz M2 ⟨orF g2,Zv⟩
  · intro g2 M2;have h2:=sp g2
    refine oo 3 ?_;exact Zz M2 ⟨orT g2,Zv⟩
  refine ox 1 ?_;refine X.part 68 rfl (fun h2=> ?_) (fun h2=> ?_)
  focus
   replace h2:=sp h2
   refine xx 6 ?_
  rotate_left
  focus
   replace h2:=sp h2
   refine xx 8 ?_
 rotate_left 2
 focus
  have hm:=Lz (b:=z) hu
  refine xx 20 ?_;refine Zj 10 ?_;refine xx 6 ?_;refine Zj 16 ?_;refine xx 6 ?_;refine Zj 22 ?_;refine xx 6 ?_;refine Zj 28 ?_;refine xx 6 ?_;refine Zj 34 ?_;refine xx 6 ?_;refine Zj 39 ?_;refine xx 6 ?_;refine Zj 44 ?_;refine xx 6 ?_;refine Zj 49 ?_;refine xx 6 ?_;refine X.kt 56 ?_;refine xx 7 ?_;refine X.part 59 rfl (fun h1=> ?_) (fun h1=> ?_)
  · replace h1:=sp h1
    refine xx 6 ?_;refine Zq (q) func161 (V9 results161 rfl rfl) ⟨_,rfl,by first|(simp [Yg,h1];done)|(unfold Yg val;simp [h1];omega)|(unfold Yg val;simp only [h1];simp;grind),rfl⟩
  replace h1:=sp h1
  refine xo 5 ?_;refine Zn (Pu.rem rfl rfl (by omega)) ?_
  refine oo 9 ?_;refine Zf [65,8,7,6] ?_
  apply Zx 3 68 65 rfl
  · intro g2 M2;have h2:=sp g2
    refine oo 3 ?_;exact Zz M2 ⟨orF g2,Zv⟩
  · intro g2 M2;have h2:=sp g2
    refine oo 3 ?_;exact Zz M2 ⟨orT g2,Zv⟩
  refine ox 1 ?_;refine X.part 68 rfl (fun h2=> ?_) (fun h2=> ?_)
  focus
   replace h2:=sp h2
   refine xx 6 ?_
  rotate_left
  focus
   replace h2:=sp h2
   refine xx 8 ?_
 all_goals
  refine Zq (q) func161 (V9 results161 rfl rfl) ⟨_,rfl,by first|(simp [Yg,h1,h2];done)|(unfold Yg val;simp [h1,h2];omega)|(unfold Yg val;simp only [h1,h2];simp;grind),rfl⟩
set_option maxHeartbeats 2000000 in
theorem exN_ok:CallF prog G 108 [.agg #[.slice none 0 0,.slice none 0 0,.int .i64 0,.int .i64 0,.slice none 0 0,.slice none 0 0,.int .i64 0,.int .i64 0,.slice none 0 0,.slice none 0 0,.slice none 0 0,.slice none 0 0,.slice none 0 0,.slice none 0 0,.slice none 0 0,.slice none 0 0,.slice none 0 0,.slice none 0 0,.slice none 0 0,.int .i64 0,.int .i64 0,.int .i64 0,.int .i64 0],.agg (exN z).toArray,.slice none 0 0] (q) (Ret fun v q'=>v= .agg [.int .i64 z,.int .i64 0,.slice none 0 0].toArray∧q'=q):=by
 refine CallF.of func108 ntmps108 rfl (fun F cs=> ?_)
 refine xo 2 ?_;refine Zb fun n1=> ?_
 refine Zb fun n2=> ?_
 refine Zy zeroValue220 fun n3=> ?_
 refine oo 5 ?_;refine ld ?_;refine ox 7 ?_;refine X.kt 17 ?_;refine xo 4 ?_;refine ld ?_;refine oo 1 ?_;refine stA ?_;refine ox 1 ?_;refine Zq (q) func108 (rA_ results108) ⟨_,rfl,rfl,rfl⟩
set_option maxHeartbeats 8000000 in
theorem exB_ok (hs:Sees q (some ⟨g,0,none⟩) ([u,z].flatMap exN))(ho:3≤op∧op≤11)(hu:val u)(hz:val z):CallF prog G 108 [.agg #[.slice none 0 0,.slice none 0 0,.int .i64 0,.int .i64 0,.slice none 0 0,.slice none 0 0,.int .i64 0,.int .i64 0,.slice none 0 0,.slice none 0 0,.slice none 0 0,.slice none 0 0,.slice none 0 0,.slice none 0 0,.slice none 0 0,.slice none 0 0,.slice none 0 0,.slice none 0 0,.slice none 0 0,.int .i64 0,.int .i64 0,.int .i64 0,.int .i64 0],.agg (exB op g).toArray,.slice none 0 0] (q) (Ret fun v q'=> ∃ a' c',v= .agg [.int .i64 (Yg op u z).1,.int .i64 (Yg op u z).2,.slice a' 0 c'].toArray∧q'=q):=by
 refine CallF.of func108 ntmps108 rfl (fun F cs=> ?_)
 have hl0:0< [u,z].length:=by simp
 have hl1:1< [u,z].length:=by simp
 have hx0: ∀ Q,Le Q q→ ∀ (j:Nat) (v:Value),(exN [u,z][0])[j]? =some v→Cl Q ⟨g,0+Int.toNat 0*7+j,none⟩ v:=fun Q hQ j v hv=>Yi (j:=0) (n:=0) (sz:=7) hs hQ (fun _=>rfl) hl0 rfl j v hv
 have hx1: ∀ Q,Le Q q→ ∀ (j:Nat) (v:Value),(exN [u,z][1])[j]? =some v→Cl Q ⟨g,0+Int.toNat 1*7+j,none⟩ v:=fun Q hQ j v hv=>Yi (j:=1) (n:=1) (sz:=7) hs hQ (fun _=>rfl) hl1 rfl j v hv
 refine xo 2 ?_;refine Zb fun n1=> ?_
 refine Zb fun n2=> ?_
 refine Zy zeroValue220 fun n3=> ?_
 refine oo 5 ?_;refine ld ?_;refine ox 7 ?_;refine Zj 17 ?_;refine xx 6 ?_;refine Zj 22 ?_;refine xx 4 ?_;refine drw ?_;refine Z4 0 ?_;refine dd [1] ?_;refine ldD 2 ?_;refine dd [3] ?_;refine Vp 4 (m:=0) isAgg215 sizeOf215 hs hl0 ?_
 refine dd [5] ?_;refine Yy (fl:= [⟨7,7,fun g=> .pointer (some ⟨g,0,none⟩),fun g=>pto g (.cells [.int .i64 0,.int .i64 0,.slice none 0 0].toArray 220 (0,0))⟩]) ?_
 refine Jd 6 ⟨⟨_,rfl,rfl,rfl,rfl,rfl,rfl,fun q=>Ef.alloc zeroValue220⟩,trivial⟩ call108 (Le.refl _) (exN_ok (z:=u)) ?_ (hL:=(hlA (h:=by repeat first|exact trivial|refine ⟨clA,?_⟩|refine ⟨hx0 _ leA 0 _ rfl,?_⟩|refine ⟨hx0 _ leA 1 _ rfl,?_⟩|refine ⟨hx0 _ leA 2 _ rfl,?_⟩|refine ⟨hx0 _ leA 3 _ rfl,?_⟩|refine ⟨hx0 _ leA 4 _ rfl,?_⟩|refine ⟨hx0 _ leA 5 _ rfl,?_⟩|refine ⟨hx0 _ leA 6 _ rfl,?_⟩|refine ⟨hx1 _ leA 0 _ rfl,?_⟩|refine ⟨hx1 _ leA 1 _ rfl,?_⟩|refine ⟨hx1 _ leA 2 _ rfl,?_⟩|refine ⟨hx1 _ leA 3 _ rfl,?_⟩|refine ⟨hx1 _ leA 4 _ rfl,?_⟩|refine ⟨hx1 _ leA 5 _ rfl,?_⟩|refine ⟨hx1 _ leA 6 _ rfl,?_⟩)))
 rintro _ _ ⟨rfl,rfl⟩
 refine ⟨(hlA (h:=by repeat first|exact trivial|refine ⟨clA,?_⟩|refine ⟨hx0 _ leA 0 _ rfl,?_⟩|refine ⟨hx0 _ leA 1 _ rfl,?_⟩|refine ⟨hx0 _ leA 2 _ rfl,?_⟩|refine ⟨hx0 _ leA 3 _ rfl,?_⟩|refine ⟨hx0 _ leA 4 _ rfl,?_⟩|refine ⟨hx0 _ leA 5 _ rfl,?_⟩|refine ⟨hx0 _ leA 6 _ rfl,?_⟩|refine ⟨hx1 _ leA 0 _ rfl,?_⟩|refine ⟨hx1 _ leA 1 _ rfl,?_⟩|refine ⟨hx1 _ leA 2 _ rfl,?_⟩|refine ⟨hx1 _ leA 3 _ rfl,?_⟩|refine ⟨hx1 _ leA 4 _ rfl,?_⟩|refine ⟨hx1 _ leA 5 _ rfl,?_⟩|refine ⟨hx1 _ leA 6 _ rfl,?_⟩)),?_⟩
 refine Wv (e0:=⟨7,7,fun g=> .pointer (some ⟨g,0,none⟩),fun g=>pto g (.cells [.int .i64 0,.int .i64 0,.slice none 0 0].toArray 220 (0,0))⟩) (hnd:=by simp) 7 ⟨⟨_,rfl,rfl,rfl,rfl,rfl,rfl,fun q=>Ef.alloc zeroValue220⟩,trivial⟩ (fun nm0=> ?_) (hL:=(hlA (h:=by repeat first|exact trivial|refine ⟨clA,?_⟩|refine ⟨hx0 _ leA 0 _ rfl,?_⟩|refine ⟨hx0 _ leA 1 _ rfl,?_⟩|refine ⟨hx0 _ leA 2 _ rfl,?_⟩|refine ⟨hx0 _ leA 3 _ rfl,?_⟩|refine ⟨hx0 _ leA 4 _ rfl,?_⟩|refine ⟨hx0 _ leA 5 _ rfl,?_⟩|refine ⟨hx0 _ leA 6 _ rfl,?_⟩|refine ⟨hx1 _ leA 0 _ rfl,?_⟩|refine ⟨hx1 _ leA 1 _ rfl,?_⟩|refine ⟨hx1 _ leA 2 _ rfl,?_⟩|refine ⟨hx1 _ leA 3 _ rfl,?_⟩|refine ⟨hx1 _ leA 4 _ rfl,?_⟩|refine ⟨hx1 _ leA 5 _ rfl,?_⟩|refine ⟨hx1 _ leA 6 _ rfl,?_⟩)))
 change XF _ _ _ _ _ _ _ [] _ _ _ ((7,.pointer (some ⟨nm0,0,none⟩))::_) _ _ (pto nm0 (.cells [.int .i64 0,.int .i64 0,.slice none 0 0].toArray 220 (0,0))::_)
 refine XF.back ?_ (hL:=(hlA (h:=by repeat first|exact trivial|refine ⟨clA,?_⟩|refine ⟨hx0 _ leA 0 _ rfl,?_⟩|refine ⟨hx0 _ leA 1 _ rfl,?_⟩|refine ⟨hx0 _ leA 2 _ rfl,?_⟩|refine ⟨hx0 _ leA 3 _ rfl,?_⟩|refine ⟨hx0 _ leA 4 _ rfl,?_⟩|refine ⟨hx0 _ leA 5 _ rfl,?_⟩|refine ⟨hx0 _ leA 6 _ rfl,?_⟩|refine ⟨hx1 _ leA 0 _ rfl,?_⟩|refine ⟨hx1 _ leA 1 _ rfl,?_⟩|refine ⟨hx1 _ leA 2 _ rfl,?_⟩|refine ⟨hx1 _ leA 3 _ rfl,?_⟩|refine ⟨hx1 _ leA 4 _ rfl,?_⟩|refine ⟨hx1 _ leA 5 _ rfl,?_⟩|refine ⟨hx1 _ leA 6 _ rfl,?_⟩)))
 refine Z9 8 ?_;refine XD.nil ?_;refine xo 4 ?_;refine ld ?_;refine ox 2 ?_;refine X.sb [58,7,6,4,3,2] ?_;refine Zj 58 ?_;refine xo 6 ?_;refine ld ?_;refine ox 7 ?_;refine Zj 62 ?_;refine xx 6 ?_;refine Zj 92 ?_;refine xx 6 ?_;refine Zj 105 ?_;refine xo 6 ?_;refine ld ?_;refine oo 8 ?_;refine Wh 118 ?_;refine oo 8 ?_;refine Wh 126 ?_;refine ox 9 ?_;refine X.sb [11,7,6,4,3,2] ?_;refine drw ?_;refine Z4 0 ?_;refine dd [1] ?_;refine ldD 2 ?_;refine dd [3] ?_;refine Vp 4 (m:=1) isAgg215 sizeOf215 hs hl1 ?_
 refine dd [5] ?_;refine Yy (fl:= [⟨7,12,fun g=> .pointer (some ⟨g,0,none⟩),fun g=>pto g (.cells [.int .i64 0,.int .i64 0,.slice none 0 0].toArray 220 (0,0))⟩]) ?_
 refine Jd 6 ⟨⟨_,rfl,rfl,rfl,rfl,rfl,rfl,fun q=>Ef.alloc zeroValue220⟩,trivial⟩ call108 (Le.refl _) (exN_ok (z:=z)) ?_ (hL:=(hlA (h:=by repeat first|exact trivial|refine ⟨clA,?_⟩|refine ⟨hx0 _ leA 0 _ rfl,?_⟩|refine ⟨hx0 _ leA 1 _ rfl,?_⟩|refine ⟨hx0 _ leA 2 _ rfl,?_⟩|refine ⟨hx0 _ leA 3 _ rfl,?_⟩|refine ⟨hx0 _ leA 4 _ rfl,?_⟩|refine ⟨hx0 _ leA 5 _ rfl,?_⟩|refine ⟨hx0 _ leA 6 _ rfl,?_⟩|refine ⟨hx1 _ leA 0 _ rfl,?_⟩|refine ⟨hx1 _ leA 1 _ rfl,?_⟩|refine ⟨hx1 _ leA 2 _ rfl,?_⟩|refine ⟨hx1 _ leA 3 _ rfl,?_⟩|refine ⟨hx1 _ leA 4 _ rfl,?_⟩|refine ⟨hx1 _ leA 5 _ rfl,?_⟩|refine ⟨hx1 _ leA 6 _ rfl,?_⟩)))
 rintro _ _ ⟨rfl,rfl⟩
 refine ⟨(hlA (h:=by repeat first|exact trivial|refine ⟨clA,?_⟩|refine ⟨hx0 _ leA 0 _ rfl,?_⟩|refine ⟨hx0 _ leA 1 _ rfl,?_⟩|refine ⟨hx0 _ leA 2 _ rfl,?_⟩|refine ⟨hx0 _ leA 3 _ rfl,?_⟩|refine ⟨hx0 _ leA 4 _ rfl,?_⟩|refine ⟨hx0 _ leA 5 _ rfl,?_⟩|refine ⟨hx0 _ leA 6 _ rfl,?_⟩|refine ⟨hx1 _ leA 0 _ rfl,?_⟩|refine ⟨hx1 _ leA 1 _ rfl,?_⟩|refine ⟨hx1 _ leA 2 _ rfl,?_⟩|refine ⟨hx1 _ leA 3 _ rfl,?_⟩|refine ⟨hx1 _ leA 4 _ rfl,?_⟩|refine ⟨hx1 _ leA 5 _ rfl,?_⟩|refine ⟨hx1 _ leA 6 _ rfl,?_⟩)),?_⟩
 refine Wv (e0:=⟨7,12,fun g=> .pointer (some ⟨g,0,none⟩),fun g=>pto g (.cells [.int .i64 0,.int .i64 0,.slice none 0 0].toArray 220 (0,0))⟩) (hnd:=by simp) 7 ⟨⟨_,rfl,rfl,rfl,rfl,rfl,rfl,fun q=>Ef.alloc zeroValue220⟩,trivial⟩ (fun nm1=> ?_) (hL:=(hlA (h:=by repeat first|exact trivial|refine ⟨clA,?_⟩|refine ⟨hx0 _ leA 0 _ rfl,?_⟩|refine ⟨hx0 _ leA 1 _ rfl,?_⟩|refine ⟨hx0 _ leA 2 _ rfl,?_⟩|refine ⟨hx0 _ leA 3 _ rfl,?_⟩|refine ⟨hx0 _ leA 4 _ rfl,?_⟩|refine ⟨hx0 _ leA 5 _ rfl,?_⟩|refine ⟨hx0 _ leA 6 _ rfl,?_⟩|refine ⟨hx1 _ leA 0 _ rfl,?_⟩|refine ⟨hx1 _ leA 1 _ rfl,?_⟩|refine ⟨hx1 _ leA 2 _ rfl,?_⟩|refine ⟨hx1 _ leA 3 _ rfl,?_⟩|refine ⟨hx1 _ leA 4 _ rfl,?_⟩|refine ⟨hx1 _ leA 5 _ rfl,?_⟩|refine ⟨hx1 _ leA 6 _ rfl,?_⟩)))
 change XF _ _ _ _ _ _ _ [] _ _ _ ((12,.pointer (some ⟨nm1,0,none⟩))::_) _ _ (pto nm1 (.cells [.int .i64 0,.int .i64 0,.slice none 0 0].toArray 220 (0,0))::_)
 refine XF.back ?_ (hL:=(hlA (h:=by repeat first|exact trivial|refine ⟨clA,?_⟩|refine ⟨hx0 _ leA 0 _ rfl,?_⟩|refine ⟨hx0 _ leA 1 _ rfl,?_⟩|refine ⟨hx0 _ leA 2 _ rfl,?_⟩|refine ⟨hx0 _ leA 3 _ rfl,?_⟩|refine ⟨hx0 _ leA 4 _ rfl,?_⟩|refine ⟨hx0 _ leA 5 _ rfl,?_⟩|refine ⟨hx0 _ leA 6 _ rfl,?_⟩|refine ⟨hx1 _ leA 0 _ rfl,?_⟩|refine ⟨hx1 _ leA 1 _ rfl,?_⟩|refine ⟨hx1 _ leA 2 _ rfl,?_⟩|refine ⟨hx1 _ leA 3 _ rfl,?_⟩|refine ⟨hx1 _ leA 4 _ rfl,?_⟩|refine ⟨hx1 _ leA 5 _ rfl,?_⟩|refine ⟨hx1 _ leA 6 _ rfl,?_⟩)))
 refine Z9 8 ?_;refine XD.nil ?_;refine xx 1 ?_;refine drw ?_;refine dd [0] ?_;refine ldD 1 ?_;refine dd [3] ?_;refine ldD 4 ?_;refine XD.le (q':=rsH Bv 3 45 none 0 []::_) (Wq _ _ _ _) ?_
 refine XD.ef 2 rfl (Z5 (f:=Bv) (l:= []) (m:= []) underlying218 Tryz.info45 rfl rfl (fun _=>rfl) rfl rfl Zw (Sees.nil _ _) (fun _=>rfl) (by simp) (by simp)) ?_
 rintro _ _ ⟨a2,c2,rfl,rfl⟩
 refine ⟨(hlA (h:=by repeat first|exact trivial|refine ⟨clA,?_⟩|refine ⟨hx0 _ leA 0 _ rfl,?_⟩|refine ⟨hx0 _ leA 1 _ rfl,?_⟩|refine ⟨hx0 _ leA 2 _ rfl,?_⟩|refine ⟨hx0 _ leA 3 _ rfl,?_⟩|refine ⟨hx0 _ leA 4 _ rfl,?_⟩|refine ⟨hx0 _ leA 5 _ rfl,?_⟩|refine ⟨hx0 _ leA 6 _ rfl,?_⟩|refine ⟨hx1 _ leA 0 _ rfl,?_⟩|refine ⟨hx1 _ leA 1 _ rfl,?_⟩|refine ⟨hx1 _ leA 2 _ rfl,?_⟩|refine ⟨hx1 _ leA 3 _ rfl,?_⟩|refine ⟨hx1 _ leA 4 _ rfl,?_⟩|refine ⟨hx1 _ leA 5 _ rfl,?_⟩|refine ⟨hx1 _ leA 6 _ rfl,?_⟩)),?_⟩
 refine XD.ef 5 rfl (Z5 (f:=Bv) (l:= []) (m:= []) underlying218 Tryz.info45 rfl rfl (fun _=>rfl) rfl rfl Zw (Sees.nil _ _) (fun _=>rfl) (by simp) (by simp)) ?_
 rintro _ _ ⟨a3,c3,rfl,rfl⟩
 refine ⟨trivial,?_⟩
 refine dd [6] ?_;refine stD 7 ?_;refine XD.nil ?_;refine xo 4 ?_;refine ld ?_;refine ox 2 ?_;refine X.sb [154,12,11,7,6] ?_;refine Zj 154 ?_;refine xx 8 ?_;refine Zj 157 ?_;refine xo 6 ?_;refine ld ?_;refine oo 1 ?_;refine ld ?_;refine XO.cR call161 (Bt (op:=op) (u:=u) (z:=z) ho hu hz) ?_
 refine oo 11 ?_;refine ld ?_;refine oo 1 ?_;refine stA ?_;refine ox 1 ?_;refine X.sb [6] ?_;refine Zq (q) func108 (resC1 results108 (ResOk.cell rfl (LV.agg isAgg220 sizeOf220 Vr rfl) ResOk.nil)) ⟨_,rfl,a3,c3,rfl,rfl⟩
end
theorem Qp {α:Type}{g:α→Value}{q:List HP}{a:Option Addr}{l:List α}(h:Sees q a (l.map g))(n:Nat):Sees q a ((l.take n).map g):=fun G w s i u hu=>h G w s i u (by
 rw [List.map_take,List.getElem?_take] at hu
 split at hu
 · exact hu
 cases hu)
structure FrmW (W:HP) (f:Frm) (la sa:Option Addr) (loc stk:List Int):Prop where
 l:(la=f.la∧loc=f.loc)∨Sees [W] la (loc.map I64)
 s:(sa=f.sa∧stk=f.stk)∨Sees [W] sa (stk.map I64)
theorem R5 (W:HP)(q:List HP):Le (W::q) [W]:=by
 exact fun M h p=>(leA:Le (W::q) [W]) M h p
theorem FrmW.locS {W:HP}{f:Frm}{la sa:Option Addr}{loc stk:List Int}{q:List HP}(h:FrmW W f la sa loc stk)(hq:Sees q f.la (f.loc.map I64)):Sees (W::q) la (loc.map I64):=by
 rcases h.l with ⟨rfl,rfl⟩|h
 · exact hq.there
 exact h.le (R5 W q)
theorem FrmW.stkS {W:HP}{f:Frm}{la sa:Option Addr}{loc stk:List Int}{q:List HP}(h:FrmW W f la sa loc stk)(hq:Sees q f.sa (f.stk.map I64)):Sees (W::q) sa (stk.map I64):=by
 rcases h.s with ⟨rfl,rfl⟩|h
 · exact hq.there
 exact h.le (R5 W q)
section
variable {G:World}{q pre:List HP}{a b A:Option Addr}{c d C p p0 p1 p2 i:Nat}{lo hi n cd dep:Int}{fv:Value}{x y:Ins}{t:Cod}{m:Mdl}{at_:Int}
variable {l cells loc:List Int}{idx arr z k u pc code:Int}{x1 x2 x3 x4 x5 x6 old:Value}{pm cc lc n1 n2:Nat}{la cda:Option Addr}
variable {f:Frm}{last:Int}{kk:Nat}
set_option maxHeartbeats 4000000 in
theorem RTwo_ok (ho:10≤code∧code≤18)(hu:val u)(hz:val z):CallF prog G 71 [.int .i64 code,.int .i64 u,.int .i64 z] (q) (Ret fun v q'=>v= .tuple [.int .i64 (Yg (code - 7) u z).1,.int .i64 (Yg (code - 7) u z).2].toArray∧q'=q):=by
 refine CallF.of func71 ntmps71 rfl (fun F cs=> ?_)
 refine xo 13 ?_;refine XO.ef (Ef.buildSlice (ps:= [(0,.tmp 13),(1,.tmp 15)]) (len:=2) (us:= [.agg (exN u).toArray,.agg (exN z).toArray]) (cells:= [u,z].flatMap exN) underlying213 Tryz.info215 rfl rfl rfl (by kernel_rfl) rfl) ?_
 rintro _ _ ⟨g1,rfl,rfl⟩
 refine oo 1 ?_;refine Zy zeroValue215 fun n1=> ?_
 refine stA ?_;refine oo 4 ?_;refine ldA ?_;refine Zh call108 (Le.refl _) (exB_ok (op:=code - 7) (u:=u) (z:=z) (g:=g1) ((Sees.slH _).le Zw) (by omega) hu hz) ?_
 rintro _ _ ⟨a3,c3,rfl,rfl⟩
 refine Zy zeroValue220 fun n2=> ?_
 refine stA ?_;refine ox 2 ?_;refine drw ?_;refine dd [0] ?_;refine ldD 1 ?_;refine dd [2] ?_;refine ldD 3 ?_;refine dd [4,5] ?_;refine XD.nil ?_;refine Zq (q) func71 (V9 results71 rfl rfl) ⟨_,rfl,rfl,rfl⟩
theorem Bw (hf:FrmQ q f)(hk:kk≤f.stk.length)(hcap:f.stk.length≤f.sc)(hL:f.stk.length≤1000000):CallF prog G 69 [.agg (U2 f).toArray,.int .i64 (kk:Int)] (q) (Ret fun v q'=> ∃ a' c',v= .slice a' (f.stk.take (f.stk.length - kk)).length c'∧q'=lsH I64 2 a' c' (f.stk.take (f.stk.length - kk))::q):=by
 refine CallF.of func69 ntmps69 rfl (fun F cs=> ?_)
 refine xo 2 ?_;refine Zb fun n1=> ?_
 refine oo 5 ?_;refine ld ?_;refine oo 1 ?_;refine ld ?_;refine oo 4 ?_;refine XO.know 12 (.slice f.sa (f.stk.take (f.stk.length - kk)).length f.sc) rfl (by rw [List.length_take];congr 1;omega) ?_
 refine XO.le (q':=lsH I64 2 none 0 []::_) (Yw _ _ _) ?_
 refine XO.ef (Yt (f:=I64) (l:= []) (m:=f.stk.take (f.stk.length - kk)) underlying22 Tryz.info2 rfl rfl rfl Zw ((Qp hf.s _).le leA) (fun _=>rfl) (by simp;omega) (by simp;omega)) ?_
 rintro _ _ ⟨a2,c2,rfl,rfl⟩
 refine ox 2 ?_;refine Zq (lsH I64 2 a2 c2 (f.stk.take (f.stk.length - kk))::q) func69 (Zp results69 rfl) ⟨_,rfl,a2,c2,rfl,rfl⟩
theorem Nh (hf:FrmQ q f)(hk:kk≤f.stk.length)(hcap:f.stk.length≤f.sc)(hL:f.stk.length≤1000000):CallF prog G 66 [.agg (U2 f).toArray,.int .i64 (kk:Int),.int .i64 z] (q) (Ret fun v q'=> ∃ a' c',v= .slice a' (f.stk.take (f.stk.length - kk)++ [z]).length c'∧q'=lsH I64 2 a' c' (f.stk.take (f.stk.length - kk)++ [z])::q):=by
 refine CallF.of func66 ntmps66 rfl (fun F cs=> ?_)
 refine xo 2 ?_;refine Zb fun n1=> ?_
 refine oo 4 ?_;refine ldA ?_;refine oo 1 ?_;refine Zh call69 (Le.refl _) (Bw (kk:=kk) (hf.le leA) hk hcap hL) ?_
 rintro _ _ ⟨a1,c1,rfl,rfl⟩
 refine oo 1 ?_;refine XO.ef (Yj I64 [z] underlying22 Tryz.info2 rfl rfl rfl rfl rfl rfl (fun _=>rfl)) ?_
 rintro _ _ ⟨g1,rfl,rfl⟩
 refine XO.ef (Yt (f:=I64) (l:=f.stk.take (f.stk.length - kk)) (m:= [z]) underlying22 Tryz.info2 rfl rfl rfl Zw ((Sees.lsH _).le Zw) (fun _=>rfl) (by simp;omega) (by simp;omega)) ?_
 rintro _ _ ⟨a2,c2,rfl,rfl⟩
 refine ox 2 ?_;refine Zq (lsH I64 2 a2 c2 (f.stk.take (f.stk.length - kk)++ [z])::q) func66 (Zp results66 rfl) ⟨_,rfl,a2,c2,rfl,rfl⟩
theorem Tb:CallF prog G 68 [.agg (U2 f).toArray,.int .i64 k] (q) (Ret fun v q'=>v= .tuple [.agg (U2 f).toArray,.agg (Nd (N9 k)).toArray].toArray∧q'=q):=by
 refine CallF.of func68 ntmps68 rfl (fun F cs=> ?_)
 refine xo 2 ?_;refine Zb fun n1=> ?_
 refine Zy zeroValue67 fun n2=> ?_
 refine Zy zeroValue51 fun n3=> ?_
 refine oo 3 ?_;refine ldA ?_;refine oo 2 ?_;refine stA ?_;refine stA ?_;refine ox 1 ?_;refine Zq (q) func68 (Ut results68) ⟨_,rfl,rfl,rfl⟩
set_option maxHeartbeats 16000000 in
theorem flow_ok (hf:FrmQ q f)(hS:StepQ m x f.loc f.stk cells)(hcap:f.stk.length≤f.sc)(hx:19≤x.c∧x.c≤34):CallF prog G 72 [.agg (Wp m).toArray,.agg (U2 f).toArray,.agg (U2 ⟨f.code,f.pc+1,f.loc,f.stk,f.la,f.lc,f.sa,f.sc⟩).toArray,.agg (Zr x).toArray,.int .i64 (Zc f.stk)] (q) (Ret fun v q'=> ∃ la lc sa sc W,v= .tuple [.agg (U2 ⟨f.code,(doS m x f.pc f.loc f.stk cells).1.1,(doS m x f.pc f.loc f.stk cells).1.2.1,(doS m x f.pc f.loc f.stk cells).1.2.2,la,lc,sa,sc⟩).toArray,.agg (Nd (doS m x f.pc f.loc f.stk cells).2).toArray].toArray∧FrmW W f la sa (doS m x f.pc f.loc f.stk cells).1.2.1 (doS m x f.pc f.loc f.stk cells).1.2.2∧q'=W::q):=by
 refine CallF.of func72 ntmps72 rfl (fun F cs=> ?_)
 have hdep:=hS.dep;have hlen:=hS.len
 have hcase:x.c=19∨x.c=20∨x.c=21∨x.c=22∨x.c=23∨x.c=33∨x.c=34∨x.c=29∨x.c=24∨x.c=25∨x.c=26∨x.c=27∨x.c=28∨x.c=30∨x.c=31∨x.c=32:=by omega
 rcases hcase with hc|hc|hc|hc|hc|hc|hc|hc|hc|hc|hc|hc|hc|hc|hc|hc
 · refine xo 2 ?_;refine Zb fun n1=> ?_
   refine Zb fun n2=> ?_
   refine Zb fun n3=> ?_
   refine Zb fun n4=> ?_
   refine Zy zeroValue67 fun n5=> ?_
   refine Zy zeroValue51 fun n6=> ?_
   refine ox 2 ?_;refine drw ?_;refine dd [0] ?_;refine ldD 1 ?_;refine dd [2] ?_;refine ldD 3 ?_;refine dd [4,5,6] ?_;refine XD.nil ?_;refine xx 11 ?_;refine X.kt 20 ?_;refine xo 3 ?_;refine ld ?_;refine oo 1 ?_;refine st ?_;refine oo 4 ?_;refine ldA ?_;refine oo 1 ?_;refine stA ?_;refine stA ?_;refine ox 1 ?_
   have hD:doS m x f.pc f.loc f.stk cells=((x.a,f.loc,f.stk),Vo):=by unfold doS;rw [if_neg (by omega),if_neg (by omega),if_neg (by omega),if_neg (by omega),if_neg (by omega),if_neg (by omega),if_neg (by omega)];unfold Ym;rw [if_neg (by omega),if_neg (by omega),if_neg (by omega),if_pos hc]
   refine Zq (stars []::q) func72 (Ut results72) ⟨_,rfl,f.la,f.lc,f.sa,f.sc,_,by rw [hD];rfl,by rw [hD];exact ⟨.inl ⟨rfl,rfl⟩,.inl ⟨rfl,rfl⟩⟩,rfl⟩ (Le.trans leA (Vb _))
 · have hdx:(1:Int)≤f.stk.length:=by have h:=hdep;rw [hc] at h;exact h
   refine xo 2 ?_;refine Zb fun n7=> ?_
   refine Zb fun n8=> ?_
   refine Zb fun n9=> ?_
   refine Zb fun n10=> ?_
   refine Zy zeroValue67 fun n11=> ?_
   refine Zy zeroValue51 fun n12=> ?_
   refine ox 2 ?_;refine drw ?_;refine dd [0] ?_;refine ldD 1 ?_;refine dd [2] ?_;refine ldD 3 ?_;refine dd [4,5,6] ?_;refine XD.nil ?_;refine xx 11 ?_;refine Zj 20 ?_;refine xx 7 ?_;refine X.kt 25 ?_;refine xo 6 ?_;refine ld ?_;refine oo 3 ?_;refine XO.know 32 (.slice f.sa (f.stk.take (f.stk.length - 1)).length f.sc) rfl (by rw [List.length_take];congr 1;omega) ?_
   refine XO.le (q':=lsH I64 2 none 0 []::_) (Yw _ _ _) ?_
   refine XO.ef (Yt (f:=I64) (l:= []) (m:=f.stk.take (f.stk.length - 1)) underlying22 Tryz.info2 rfl rfl rfl Zw ((Qp hf.s _).le leA) (fun _=>rfl) (by simp;omega) (by simp;omega)) ?_
   rintro _ _ ⟨a1,c1,rfl,rfl⟩
   rw [List.nil_append]
   refine oo 1 ?_;refine st ?_;refine ox 9 ?_;refine X.know 39 (.bool (decide (Zc f.stk=0))) rfl (congrArg Value.bool (by rw [Bool.eq_iff_iff];simp [hc])) ?_
   refine X.part 39 rfl (fun hl=> ?_) (fun hl=> ?_)
   focus
    replace hl:=sp hl
    refine xo 3 ?_;refine ld ?_;refine oo 1 ?_;refine st ?_;refine oo 4 ?_;refine ldA ?_;refine oo 1 ?_;refine stA ?_;refine stA ?_;refine ox 1 ?_
    have hD:doS m x f.pc f.loc f.stk cells=((x.a,f.loc,f.stk.take (f.stk.length - 1)),Vo):=by unfold doS;rw [if_neg (by omega),if_neg (by omega),if_neg (by omega),if_neg (by omega),if_neg (by omega),if_neg (by omega),if_neg (by omega)];unfold Ym;rw [if_neg (by omega),if_neg (by omega),if_neg (by omega),if_neg (by omega),if_pos hc];rw [if_pos hl]
   rotate_left
   focus
    replace hl:=sp hl
    refine xo 5 ?_;refine ldA ?_;refine oo 1 ?_;refine stA ?_;refine stA ?_;refine ox 1 ?_
    have hD:doS m x f.pc f.loc f.stk cells=(((f.pc+1),f.loc,f.stk.take (f.stk.length - 1)),Vo):=by unfold doS;rw [if_neg (by omega),if_neg (by omega),if_neg (by omega),if_neg (by omega),if_neg (by omega),if_neg (by omega),if_neg (by omega)];unfold Ym;rw [if_neg (by omega),if_neg (by omega),if_neg (by omega),if_neg (by omega),if_pos hc];rw [if_neg hl]
   all_goals
    refine Zq (lsH I64 2 a1 c1 (f.stk.take (f.stk.length - 1))::q) func72 (Ut results72) ⟨_,rfl,f.la,f.lc,a1,c1,_,by rw [hD];rfl,by rw [hD];exact ⟨.inl ⟨rfl,rfl⟩,.inr (Sees.lsH [])⟩,rfl⟩
 · have hdx:(1:Int)≤f.stk.length:=by have h:=hdep;rw [hc] at h;exact h
   refine xo 2 ?_;refine Zb fun n13=> ?_
   refine Zb fun n14=> ?_
   refine Zb fun n15=> ?_
   refine Zb fun n16=> ?_
   refine Zy zeroValue67 fun n17=> ?_
   refine Zy zeroValue51 fun n18=> ?_
   refine ox 2 ?_;refine drw ?_;refine dd [0] ?_;refine ldD 1 ?_;refine dd [2] ?_;refine ldD 3 ?_;refine dd [4,5,6] ?_;refine XD.nil ?_;refine xx 11 ?_;refine Zj 20 ?_;refine xx 7 ?_;refine Zj 25 ?_;refine xx 5 ?_;refine X.kt 25 ?_;refine xo 4 ?_;refine ld ?_;refine oo 3 ?_;refine XO.know 32 (.slice f.sa (f.stk.take (f.stk.length - 1)).length f.sc) rfl (by rw [List.length_take];congr 1;omega) ?_
   refine XO.le (q':=lsH I64 2 none 0 []::_) (Yw _ _ _) ?_
   refine XO.ef (Yt (f:=I64) (l:= []) (m:=f.stk.take (f.stk.length - 1)) underlying22 Tryz.info2 rfl rfl rfl Zw ((Qp hf.s _).le leA) (fun _=>rfl) (by simp;omega) (by simp;omega)) ?_
   rintro _ _ ⟨a1,c1,rfl,rfl⟩
   rw [List.nil_append]
   refine oo 1 ?_;refine st ?_;refine ox 9 ?_;refine X.know 39 (.bool (decide (Zc f.stk≠0))) rfl (congrArg Value.bool (by rw [Bool.eq_iff_iff];simp [hc])) ?_
   refine X.part 39 rfl (fun hl=> ?_) (fun hl=> ?_)
   focus
    replace hl:=sp hl
    refine xo 3 ?_;refine ld ?_;refine oo 1 ?_;refine st ?_;refine oo 4 ?_;refine ldA ?_;refine oo 1 ?_;refine stA ?_;refine stA ?_;refine ox 1 ?_
    have hD:doS m x f.pc f.loc f.stk cells=((x.a,f.loc,f.stk.take (f.stk.length - 1)),Vo):=by unfold doS;rw [if_neg (by omega),if_neg (by omega),if_neg (by omega),if_neg (by omega),if_neg (by omega),if_neg (by omega),if_neg (by omega)];unfold Ym;rw [if_neg (by omega),if_neg (by omega),if_neg (by omega),if_neg (by omega),if_neg (by omega),if_pos hc];rw [if_pos hl]
   rotate_left
   focus
    replace hl:=sp hl
    refine xo 5 ?_;refine ldA ?_;refine oo 1 ?_;refine stA ?_;refine stA ?_;refine ox 1 ?_
    have hD:doS m x f.pc f.loc f.stk cells=(((f.pc+1),f.loc,f.stk.take (f.stk.length - 1)),Vo):=by unfold doS;rw [if_neg (by omega),if_neg (by omega),if_neg (by omega),if_neg (by omega),if_neg (by omega),if_neg (by omega),if_neg (by omega)];unfold Ym;rw [if_neg (by omega),if_neg (by omega),if_neg (by omega),if_neg (by omega),if_neg (by omega),if_pos hc];rw [if_neg hl]
   all_goals
    refine Zq (lsH I64 2 a1 c1 (f.stk.take (f.stk.length - 1))::q) func72 (Ut results72) ⟨_,rfl,f.la,f.lc,a1,c1,_,by rw [hD];rfl,by rw [hD];exact ⟨.inl ⟨rfl,rfl⟩,.inr (Sees.lsH [])⟩,rfl⟩
 · have hdx:(1:Int)≤f.stk.length:=by have h:=hdep;rw [hc] at h;exact h
   refine xo 2 ?_;refine Zb fun n19=> ?_
   refine Zb fun n20=> ?_
   refine Zb fun n21=> ?_
   refine Zb fun n22=> ?_
   refine Zy zeroValue67 fun n23=> ?_
   refine Zy zeroValue51 fun n24=> ?_
   refine ox 2 ?_;refine drw ?_;refine dd [0] ?_;refine ldD 1 ?_;refine dd [2] ?_;refine ldD 3 ?_;refine dd [4,5,6] ?_;refine XD.nil ?_;refine xx 11 ?_;refine Zj 20 ?_;refine xx 7 ?_;refine Zj 25 ?_;refine xx 5 ?_;refine Zj 25 ?_;refine xx 6 ?_;refine X.kt 43 ?_;refine xo 3 ?_;refine ld ?_;refine oo 3 ?_;refine XO.know 49 (.slice f.sa (f.stk.take (f.stk.length - 1)).length f.sc) rfl (by rw [List.length_take];congr 1;omega) ?_
   refine XO.le (q':=lsH I64 2 none 0 []::_) (Yw _ _ _) ?_
   refine XO.ef (Yt (f:=I64) (l:= []) (m:=f.stk.take (f.stk.length - 1)) underlying22 Tryz.info2 rfl rfl rfl Zw ((Qp hf.s _).le leA) (fun _=>rfl) (by simp;omega) (by simp;omega)) ?_
   rintro _ _ ⟨a1,c1,rfl,rfl⟩
   rw [List.nil_append]
   refine oo 2 ?_;refine XO.cR call70 (Br) ?_;refine XO.know 53 (.int .i64 (W5 (decide (Zc f.stk≠0)))) rfl (congrArg (fun b=>Value.int .i64 (W5 b)) (by rw [Bool.eq_iff_iff];simp)) ?_
   refine XO.ef (Yj I64 [W5 (decide (Zc f.stk≠0))] underlying22 Tryz.info2 rfl rfl rfl rfl rfl rfl (fun _=>rfl)) ?_
   rintro _ _ ⟨g1,rfl,rfl⟩
   refine XO.ef (Yt (f:=I64) (l:=f.stk.take (f.stk.length - 1)) (m:= [W5 (decide (Zc f.stk≠0))]) underlying22 Tryz.info2 rfl rfl rfl Zw ((Sees.lsH _).le Zw) (fun _=>rfl) (by simp;omega) (by simp;omega)) ?_
   rintro _ _ ⟨a2,c2,rfl,rfl⟩
   refine oo 1 ?_;refine st ?_;refine oo 4 ?_;refine ldA ?_;refine oo 1 ?_;refine stA ?_;refine stA ?_;refine ox 1 ?_
   have hD:doS m x f.pc f.loc f.stk cells=((f.pc+1,f.loc,f.stk.take (f.stk.length - 1)++ [W5 (decide (Zc f.stk≠0))]),Vo):=by unfold doS;rw [if_neg (by omega),if_pos (by omega)];simp only [show N7 x.c from by omega,if_true];rw [hc];rfl
   refine Zq (lsH I64 2 a2 c2 (f.stk.take (f.stk.length - 1)++ [W5 (decide (Zc f.stk≠0))])::q) func72 (Ut results72) ⟨_,rfl,f.la,f.lc,a2,c2,_,by rw [hD];rfl,by rw [hD];exact ⟨.inl ⟨rfl,rfl⟩,.inr (Sees.lsH [])⟩,rfl⟩
 · refine xo 2 ?_;refine Zb fun n25=> ?_
   refine Zb fun n26=> ?_
   refine Zb fun n27=> ?_
   refine Zb fun n28=> ?_
   refine Zy zeroValue67 fun n29=> ?_
   refine Zy zeroValue51 fun n30=> ?_
   refine ox 2 ?_;refine drw ?_;refine dd [0] ?_;refine ldD 1 ?_;refine dd [2] ?_;refine ldD 3 ?_;refine dd [4,5,6] ?_;refine XD.nil ?_;refine xx 11 ?_;refine Zj 20 ?_;refine xx 7 ?_;refine Zj 25 ?_;refine xx 5 ?_;refine Zj 25 ?_;refine xx 6 ?_;refine Zj 43 ?_;refine xx 6 ?_;refine X.kt 57 ?_;refine xx 2 ?_;refine drw ?_;refine Z4 0 ?_;refine dd [1] ?_;refine ldD 2 ?_;refine dd [3] ?_;refine Z9 4 ?_;refine Z9 5 ?_;refine XD.nil ?_
   have hD:doS m x f.pc f.loc f.stk cells=((f.pc+1,f.loc,f.stk),Ey 3 x.a):=by unfold doS;rw [if_neg (by omega),if_neg (by omega),if_neg (by omega),if_pos hc]
   refine Zq (stars []::q) func72 (Ut results72) ⟨_,rfl,f.la,f.lc,f.sa,f.sc,_,by rw [hD];rfl,by rw [hD];exact ⟨.inl ⟨rfl,rfl⟩,.inl ⟨rfl,rfl⟩⟩,rfl⟩ (Le.trans leA (Vb _))
 · have hdx:(1:Int)≤f.stk.length:=by have h:=hdep;rw [hc] at h;exact h
   refine xo 2 ?_;refine Zb fun n31=> ?_
   refine Zb fun n32=> ?_
   refine Zb fun n33=> ?_
   refine Zb fun n34=> ?_
   refine Zy zeroValue67 fun n35=> ?_
   refine Zy zeroValue51 fun n36=> ?_
   refine ox 2 ?_;refine drw ?_;refine dd [0] ?_;refine ldD 1 ?_;refine dd [2] ?_;refine ldD 3 ?_;refine dd [4,5,6] ?_;refine XD.nil ?_;refine xx 11 ?_;refine Zj 20 ?_;refine xx 7 ?_;refine Zj 25 ?_;refine xx 5 ?_;refine Zj 25 ?_;refine xx 6 ?_;refine Zj 43 ?_;refine xx 6 ?_;refine Zj 57 ?_;refine xx 6 ?_;refine X.kt 63 ?_;refine xo 4 ?_;refine ld ?_;refine oo 3 ?_;refine XO.know 69 (.slice f.sa (f.stk.take (f.stk.length - 1)).length f.sc) rfl (by rw [List.length_take];congr 1;omega) ?_
   refine XO.le (q':=lsH I64 2 none 0 []::_) (Yw _ _ _) ?_
   refine XO.ef (Yt (f:=I64) (l:= []) (m:=f.stk.take (f.stk.length - 1)) underlying22 Tryz.info2 rfl rfl rfl Zw ((Qp hf.s _).le leA) (fun _=>rfl) (by simp;omega) (by simp;omega)) ?_
   rintro _ _ ⟨a1,c1,rfl,rfl⟩
   rw [List.nil_append]
   refine oo 1 ?_;refine st ?_;refine oo 3 ?_;refine ldA ?_;refine oo 2 ?_;refine stA ?_;refine stA ?_;refine ox 1 ?_
   have hD:doS m x f.pc f.loc f.stk cells=((f.pc+1,f.loc,f.stk.take (f.stk.length - 1)),Ey 6 (Zc f.stk)):=by unfold doS;rw [if_neg (by omega),if_neg (by omega),if_neg (by omega),if_neg (by omega),if_pos hc]
   refine Zq (lsH I64 2 a1 c1 (f.stk.take (f.stk.length - 1))::q) func72 (Ut results72) ⟨_,rfl,f.la,f.lc,a1,c1,_,by rw [hD];rfl,by rw [hD];exact ⟨.inl ⟨rfl,rfl⟩,.inr (Sees.lsH [])⟩,rfl⟩
 · refine xo 2 ?_;refine Zb fun n37=> ?_
   refine Zb fun n38=> ?_
   refine Zb fun n39=> ?_
   refine Zb fun n40=> ?_
   refine Zy zeroValue67 fun n41=> ?_
   refine Zy zeroValue51 fun n42=> ?_
   refine ox 2 ?_;refine drw ?_;refine dd [0] ?_;refine ldD 1 ?_;refine dd [2] ?_;refine ldD 3 ?_;refine dd [4,5,6] ?_;refine XD.nil ?_;refine xx 11 ?_;refine Zj 20 ?_;refine xx 7 ?_;refine Zj 25 ?_;refine xx 5 ?_;refine Zj 25 ?_;refine xx 6 ?_;refine Zj 43 ?_;refine xx 6 ?_;refine Zj 57 ?_;refine xx 6 ?_;refine Zj 63 ?_;refine xx 6 ?_;refine X.kt 75 ?_;refine xo 3 ?_;refine ldA ?_;refine oo 1 ?_;refine stA ?_;refine stA ?_;refine ox 1 ?_
   have hD:doS m x f.pc f.loc f.stk cells=((f.pc,f.loc,f.stk),Ey 4 0):=by unfold doS;rw [if_pos hc]
   refine Zq (stars []::q) func72 (Ut results72) ⟨_,rfl,f.la,f.lc,f.sa,f.sc,_,by rw [hD];rfl,by rw [hD];exact ⟨.inl ⟨rfl,rfl⟩,.inl ⟨rfl,rfl⟩⟩,rfl⟩ (Le.trans leA (Vb _))
 · have hdx:(1:Int)≤f.stk.length:=by have h:=hdep;rw [hc] at h;exact h
   refine xo 2 ?_;refine Zb fun n43=> ?_
   refine Zb fun n44=> ?_
   refine Zb fun n45=> ?_
   refine Zb fun n46=> ?_
   refine Zy zeroValue67 fun n47=> ?_
   refine Zy zeroValue51 fun n48=> ?_
   refine ox 2 ?_;refine drw ?_;refine dd [0] ?_;refine ldD 1 ?_;refine dd [2] ?_;refine ldD 3 ?_;refine dd [4,5,6] ?_;refine XD.nil ?_;refine xx 11 ?_;refine Zj 20 ?_;refine xx 7 ?_;refine Zj 25 ?_;refine xx 5 ?_;refine Zj 25 ?_;refine xx 6 ?_;refine Zj 43 ?_;refine xx 6 ?_;refine Zj 57 ?_;refine xx 6 ?_;refine Zj 63 ?_;refine xx 6 ?_;refine Zj 75 ?_;refine xx 6 ?_;refine X.kt 79 ?_;refine xo 4 ?_;refine ld ?_;refine oo 3 ?_;refine XO.know 85 (.slice f.sa (f.stk.take (f.stk.length - 1)).length f.sc) rfl (by rw [List.length_take];congr 1;omega) ?_
   refine XO.le (q':=lsH I64 2 none 0 []::_) (Yw _ _ _) ?_
   refine XO.ef (Yt (f:=I64) (l:= []) (m:=f.stk.take (f.stk.length - 1)) underlying22 Tryz.info2 rfl rfl rfl Zw ((Qp hf.s _).le leA) (fun _=>rfl) (by simp;omega) (by simp;omega)) ?_
   rintro _ _ ⟨a1,c1,rfl,rfl⟩
   rw [List.nil_append]
   refine oo 1 ?_;refine st ?_;refine ox 2 ?_;refine drw ?_;refine Z4 0 ?_;refine Z4 1 ?_;refine dd [2,3] ?_;refine Z9 4 ?_;refine Z9 5 ?_;refine XD.nil ?_
   have hD:doS m x f.pc f.loc f.stk cells=((f.pc+1,f.loc,f.stk.take (f.stk.length - 1)),Ks x (Zc f.stk)):=by unfold doS;rw [if_neg (by omega),if_neg (by omega),if_neg (by omega),if_neg (by omega),if_neg (by omega),if_pos hc]
   refine Zq (lsH I64 2 a1 c1 (f.stk.take (f.stk.length - 1))::q) func72 (Ut results72) ⟨_,rfl,f.la,f.lc,a1,c1,_,by rw [hD];rfl,by rw [hD];exact ⟨.inl ⟨rfl,rfl⟩,.inr (Sees.lsH [])⟩,rfl⟩
 focus
  refine xo 2 ?_;refine Zb fun n49=> ?_
  refine Zb fun n50=> ?_
  refine Zb fun n51=> ?_
  refine Zb fun n52=> ?_
  refine Zy zeroValue67 fun n53=> ?_
  refine Zy zeroValue51 fun n54=> ?_
  refine ox 2 ?_;refine drw ?_;refine dd [0] ?_;refine ldD 1 ?_;refine dd [2] ?_;refine ldD 3 ?_;refine dd [4,5,6] ?_;refine XD.nil ?_;refine xx 11 ?_;refine Zj 20 ?_;refine xx 7 ?_;refine Zj 25 ?_;refine xx 5 ?_;refine Zj 25 ?_;refine xx 6 ?_;refine Zj 43 ?_;refine xx 6 ?_;refine Zj 57 ?_;refine xx 6 ?_;refine Zj 63 ?_;refine xx 6 ?_;refine Zj 75 ?_;refine xx 6 ?_;refine Zj 79 ?_;refine xx 7 ?_;refine X.kt 92 ?_;refine xx 4 ?_
 rotate_left
 focus
  refine xo 2 ?_;refine Zb fun n55=> ?_
  refine Zb fun n56=> ?_
  refine Zb fun n57=> ?_
  refine Zb fun n58=> ?_
  refine Zy zeroValue67 fun n59=> ?_
  refine Zy zeroValue51 fun n60=> ?_
  refine ox 2 ?_;refine drw ?_;refine dd [0] ?_;refine ldD 1 ?_;refine dd [2] ?_;refine ldD 3 ?_;refine dd [4,5,6] ?_;refine XD.nil ?_;refine xx 11 ?_;refine Zj 20 ?_;refine xx 7 ?_;refine Zj 25 ?_;refine xx 5 ?_;refine Zj 25 ?_;refine xx 6 ?_;refine Zj 43 ?_;refine xx 6 ?_;refine Zj 57 ?_;refine xx 6 ?_;refine Zj 63 ?_;refine xx 6 ?_;refine Zj 75 ?_;refine xx 6 ?_;refine Zj 79 ?_;refine xx 7 ?_;refine Zj 92 ?_;refine xx 6 ?_;refine X.kt 92 ?_;refine xx 4 ?_
 rotate_left
 focus
  refine xo 2 ?_;refine Zb fun n61=> ?_
  refine Zb fun n62=> ?_
  refine Zb fun n63=> ?_
  refine Zb fun n64=> ?_
  refine Zy zeroValue67 fun n65=> ?_
  refine Zy zeroValue51 fun n66=> ?_
  refine ox 2 ?_;refine drw ?_;refine dd [0] ?_;refine ldD 1 ?_;refine dd [2] ?_;refine ldD 3 ?_;refine dd [4,5,6] ?_;refine XD.nil ?_;refine xx 11 ?_;refine Zj 20 ?_;refine xx 7 ?_;refine Zj 25 ?_;refine xx 5 ?_;refine Zj 25 ?_;refine xx 6 ?_;refine Zj 43 ?_;refine xx 6 ?_;refine Zj 57 ?_;refine xx 6 ?_;refine Zj 63 ?_;refine xx 6 ?_;refine Zj 75 ?_;refine xx 6 ?_;refine Zj 79 ?_;refine xx 7 ?_;refine Zj 92 ?_;refine xx 6 ?_;refine Zj 92 ?_;refine xx 6 ?_;refine X.kt 92 ?_;refine xx 4 ?_
 rotate_left
 focus
  refine xo 2 ?_;refine Zb fun n67=> ?_
  refine Zb fun n68=> ?_
  refine Zb fun n69=> ?_
  refine Zb fun n70=> ?_
  refine Zy zeroValue67 fun n71=> ?_
  refine Zy zeroValue51 fun n72=> ?_
  refine ox 2 ?_;refine drw ?_;refine dd [0] ?_;refine ldD 1 ?_;refine dd [2] ?_;refine ldD 3 ?_;refine dd [4,5,6] ?_;refine XD.nil ?_;refine xx 11 ?_;refine Zj 20 ?_;refine xx 7 ?_;refine Zj 25 ?_;refine xx 5 ?_;refine Zj 25 ?_;refine xx 6 ?_;refine Zj 43 ?_;refine xx 6 ?_;refine Zj 57 ?_;refine xx 6 ?_;refine Zj 63 ?_;refine xx 6 ?_;refine Zj 75 ?_;refine xx 6 ?_;refine Zj 79 ?_;refine xx 7 ?_;refine Zj 92 ?_;refine xx 6 ?_;refine Zj 92 ?_;refine xx 6 ?_;refine Zj 92 ?_;refine xx 6 ?_;refine X.kt 92 ?_;refine xx 4 ?_
 rotate_left
 focus
  refine xo 2 ?_;refine Zb fun n73=> ?_
  refine Zb fun n74=> ?_
  refine Zb fun n75=> ?_
  refine Zb fun n76=> ?_
  refine Zy zeroValue67 fun n77=> ?_
  refine Zy zeroValue51 fun n78=> ?_
  refine ox 2 ?_;refine drw ?_;refine dd [0] ?_;refine ldD 1 ?_;refine dd [2] ?_;refine ldD 3 ?_;refine dd [4,5,6] ?_;refine XD.nil ?_;refine xx 11 ?_;refine Zj 20 ?_;refine xx 7 ?_;refine Zj 25 ?_;refine xx 5 ?_;refine Zj 25 ?_;refine xx 6 ?_;refine Zj 43 ?_;refine xx 6 ?_;refine Zj 57 ?_;refine xx 6 ?_;refine Zj 63 ?_;refine xx 6 ?_;refine Zj 75 ?_;refine xx 6 ?_;refine Zj 79 ?_;refine xx 7 ?_;refine Zj 92 ?_;refine xx 6 ?_;refine Zj 92 ?_;refine xx 6 ?_;refine Zj 92 ?_;refine xx 6 ?_;refine Zj 92 ?_;refine xx 6 ?_;refine X.kt 92 ?_;refine xx 4 ?_
 rotate_left
 focus
  refine xo 2 ?_;refine Zb fun n79=> ?_
  refine Zb fun n80=> ?_
  refine Zb fun n81=> ?_
  refine Zb fun n82=> ?_
  refine Zy zeroValue67 fun n83=> ?_
  refine Zy zeroValue51 fun n84=> ?_
  refine ox 2 ?_;refine drw ?_;refine dd [0] ?_;refine ldD 1 ?_;refine dd [2] ?_;refine ldD 3 ?_;refine dd [4,5,6] ?_;refine XD.nil ?_;refine xx 11 ?_;refine Zj 20 ?_;refine xx 7 ?_;refine Zj 25 ?_;refine xx 5 ?_;refine Zj 25 ?_;refine xx 6 ?_;refine Zj 43 ?_;refine xx 6 ?_;refine Zj 57 ?_;refine xx 6 ?_;refine Zj 63 ?_;refine xx 6 ?_;refine Zj 75 ?_;refine xx 6 ?_;refine Zj 79 ?_;refine xx 7 ?_;refine Zj 92 ?_;refine xx 6 ?_;refine Zj 92 ?_;refine xx 6 ?_;refine Zj 92 ?_;refine xx 6 ?_;refine Zj 92 ?_;refine xx 6 ?_;refine Zj 92 ?_;refine xx 6 ?_;refine X.kt 92 ?_;refine xx 4 ?_
 rotate_left
 focus
  refine xo 2 ?_;refine Zb fun n85=> ?_
  refine Zb fun n86=> ?_
  refine Zb fun n87=> ?_
  refine Zb fun n88=> ?_
  refine Zy zeroValue67 fun n89=> ?_
  refine Zy zeroValue51 fun n90=> ?_
  refine ox 2 ?_;refine drw ?_;refine dd [0] ?_;refine ldD 1 ?_;refine dd [2] ?_;refine ldD 3 ?_;refine dd [4,5,6] ?_;refine XD.nil ?_;refine xx 11 ?_;refine Zj 20 ?_;refine xx 7 ?_;refine Zj 25 ?_;refine xx 5 ?_;refine Zj 25 ?_;refine xx 6 ?_;refine Zj 43 ?_;refine xx 6 ?_;refine Zj 57 ?_;refine xx 6 ?_;refine Zj 63 ?_;refine xx 6 ?_;refine Zj 75 ?_;refine xx 6 ?_;refine Zj 79 ?_;refine xx 7 ?_;refine Zj 92 ?_;refine xx 6 ?_;refine Zj 92 ?_;refine xx 6 ?_;refine Zj 92 ?_;refine xx 6 ?_;refine Zj 92 ?_;refine xx 6 ?_;refine Zj 92 ?_;refine xx 6 ?_;refine Zj 92 ?_;refine xx 6 ?_;refine X.kt 92 ?_;refine xx 4 ?_
 rotate_left
 focus
  refine xo 2 ?_;refine Zb fun n91=> ?_
  refine Zb fun n92=> ?_
  refine Zb fun n93=> ?_
  refine Zb fun n94=> ?_
  refine Zy zeroValue67 fun n95=> ?_
  refine Zy zeroValue51 fun n96=> ?_
  refine ox 2 ?_;refine drw ?_;refine dd [0] ?_;refine ldD 1 ?_;refine dd [2] ?_;refine ldD 3 ?_;refine dd [4,5,6] ?_;refine XD.nil ?_;refine xx 11 ?_;refine Zj 20 ?_;refine xx 7 ?_;refine Zj 25 ?_;refine xx 5 ?_;refine Zj 25 ?_;refine xx 6 ?_;refine Zj 43 ?_;refine xx 6 ?_;refine Zj 57 ?_;refine xx 6 ?_;refine Zj 63 ?_;refine xx 6 ?_;refine Zj 75 ?_;refine xx 6 ?_;refine Zj 79 ?_;refine xx 7 ?_;refine Zj 92 ?_;refine xx 6 ?_;refine Zj 92 ?_;refine xx 6 ?_;refine Zj 92 ?_;refine xx 6 ?_;refine Zj 92 ?_;refine xx 6 ?_;refine Zj 92 ?_;refine xx 6 ?_;refine Zj 92 ?_;refine xx 6 ?_;refine Zj 92 ?_;refine xx 5 ?_;refine X.kt 92 ?_;refine xx 2 ?_
 all_goals
  refine drw ?_;refine Z4 0 ?_;refine Z4 1 ?_;refine dd [2] ?_;refine Z9 3 ?_;refine Z9 4 ?_;refine XD.nil ?_
  have hD:doS m x f.pc f.loc f.stk cells=((f.pc+1,f.loc,f.stk),Ks x 0):=by unfold doS;rw [if_neg (by omega),if_neg (by omega),if_neg (by omega),if_neg (by omega),if_neg (by omega),if_neg (by omega),if_pos (by omega)]
  refine Zq (stars []::q) func72 (Ut results72) ⟨_,rfl,f.la,f.lc,f.sa,f.sc,_,by rw [hD];rfl,by rw [hD];exact ⟨.inl ⟨rfl,rfl⟩,.inl ⟨rfl,rfl⟩⟩,rfl⟩ (Le.trans leA (Vb _))
end
end Go.Proofs.YtgonllbkcgaliaaGreatDoor
