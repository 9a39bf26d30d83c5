/- Contracts. -/
import Derived.Test.YtflkjkhijcdbaaaGreatKh
import Derived.Lib.AppendZerosOnto
set_option maxHeartbeats 16000000
set_option maxRecDepth 100000
set_option linter.all false
namespace Go.Proofs.YtflkjkhijcdbaaaGreat
open Go Go.RowKit Wx Go.Proofs.Tryz
attribute [local irreducible] lsH rsH stars
variable {M:Hp}{a:Option Addr}{c:Cn}{l arrs:List Int}{vs:List Value}{G:World}{q:List HP}{n N i:Nat}{D:DC}{k u lo hi sl ot:Int}{bb:Bool}{S0 s S:SS}{f F:Fnd}{g:FC}{nm:ByteArray}{d:PDec}{x:PStm}{e:PEx}{P:Program}{ds:List PDec}{p:PPr}{ev:PEv}
theorem SeesZ.suf {c sz l:Nat}(h:SeesZ M a vs)(hn:vs.length<=c*sz):SeesZ M (Wh a c l sz) (vs.drop (l*sz)):=fun i u d=>by
 rw [fG] at d;obtain ⟨b,o,f,g,rfl,k,j⟩:=h _ u d;unfold Wh;by_cases e:c=l
 . subst e;have:vs[c*sz+i]? =none:=cT (by omega);rw [this] at d;cases d
 rw [if_neg e];exact ⟨b,o+l*sz,f,g,by simp [Addr.add],k,by rw [fA];exact j⟩
theorem BlkAt.suf {c:Nat}{l:List Stm}(h:BlkAt M a c l):BlkAt M (Wh a c 1 25) (c - 1) (l.drop 1):=by
 obtain ⟨⟨g,i,f⟩,e⟩:=h
 have d:(l.drop 1).flatMap stC=(l.flatMap stC).drop (1*25):=by
  cases l with
  |nil=>rfl
  |cons x r=>rw [cP,iG (by rw [Ze];decide)];rw [show 1*25=(stC x).length by rw [Ze],dN,aN];rfl
 refine ⟨⟨by rw [bN];omega,by omega,by rw [d];exact SeesZ.suf f (by rw [Zv Ze];exact eP 25 g)⟩,?_⟩;exact Z4.2 fun z b=>Z4.1 e z (gP b)
theorem Zqb (s:SS)(n:Nat)(t u:PTr):(s.put n t).put n u=s.put n u:=by unfold SS.put;simp [fU]
theorem Ga (l:List Stm):Zk (l.drop 1)=(Zk l).drop 1:=by rw [Yb,Yb,iS]
def evZ (n id:Int):EvC:=⟨zEv n id,none,0,none,0⟩
section
variable {z:Int}
abbrev Ag :=((.cells (evC (evZ 0 0)).toArray 47 (0,0)):Obj)
abbrev Bl :=(((8:Int),(0:Int),(0:Int)):Sn)
theorem dDo_ok (hK:Kn q fun M=>D.At M)(hI:D.Is S0)(hF:S0.fine D.g.er N)(hM:MayP D.g.er)(hN:N<=900)(hnn:n<S0.ths.length)(hc:S0.can D.g.er.pr n=true):CallF prog G 31 (Bg D n) (q) (Ret fun v q'=> ∃ (D':DC) (x':EvC),v= .tuple [.agg (Y3 D').toArray,.agg (evC x').toArray].toArray/\q'=docM D'::(evL x'++q)/\D'.g=D.g/\D'.Is (S0.step D.g.er.pr n).1/\x'.e=(S0.step D.g.er.pr n).2):=by
 refine aC func31 ntmps31 rfl fun F cs=> ?_;have f1:=hF.ok;have hn:n<D.ths.l.length:=(by rw [hI.len];exact hnn);have r0:=hI.th hn;have h8:D.ths.l.length<=8:=(by have:=f1.t.2;rw [<-hI.len] at this;exact this);obtain ⟨T,hT⟩:=lA D.ths.l[n];rw [<-hT] at r0;have s0:=hF.ready hnn hc;have hp:=hF.pop hnn s0.st;have w0:Kn q fun M=>T.At M:=hK.imp fun M h=>h.t T (hT ▸ aA hn);have e2:T.lft.l≠ []:=(fun k=>by have:=s0.l;rw [r0,show T.er.left=Zk T.lft.l from rfl,k] at this;exact bD this (by simp [Zk]));have d2:0<T.lft.l.length:=gX.2 e2
 obtain ⟨Y,hY,i0⟩: ∃ Y,Y∈T.lft.l/\T.lft.l[0]? =some Y/\(S0.th n).next=Y.er:=(by rw [r0];unfold PTr.next;rw [show T.er.left=Zk T.lft.l from rfl];cases hq:T.lft.l with|nil=>exact bD hq e2|cons a r=>exact ⟨a,cA ..,rfl,rfl⟩);obtain ⟨m2,i0⟩:=i0;have m3:T.lft.l[0]=Y:=(by rw [aH d2] at m2;exact gC m2);have w1:Kn q fun M=>Y.At M:=w0.imp fun M h=>Z4.1 h.lft.2 Y hY;have hg:=s0.g;rw [i0] at hg s0
 have hS:=bV (hK.imp fun M h=>h.ths);have f2:=Zv Wq D.ths.l;have q2:=eL (w0.imp fun M h=>h.lft.1.2.2);have r1:=Zv Ze T.lft.l;refine Zs (hS.le leA) (by rw [f2];omega) fun ab ao e_=> ?_;have r2:=hS;rw [e_] at r2;refine Zs (q2.le leA) (by rw [r1];omega) fun lb lo w2=> ?_;have p1:=q2;rw [w2] at p1;have hC:CellsAt q ab (ao+(n:Int).toNat*5) (dtC T):=by rw [hT];exact eV r2 (aD _) Wq hn rfl
 have r3:CellsAt q lb (lo+(0:Int).toNat*25) (stC Y):=by rw [<-m3];exact eV p1 (aD _) Ze d2 rfl
 obtain ⟨kD,l3⟩:=lA Y.er.kd;have k2: ∃ R,R=(S0.did D.g.er.pr n):=⟨_,rfl⟩;obtain ⟨R,hR⟩:=k2;obtain ⟨o,ln,cl,nm,wt,⟨ek,en,n0,k0,o0,m0,el,ea,ec⟩,⟨xk,xn,e0,xsl,f0,d0,xl,xa,xc⟩,bd,l0,ba,bc,q0,p0,b,sl,ot,g0⟩:=Y;simp only [Stm.er,PStm.kd] at l3;refine xo 2 ?_;refine Z0 fun n1=> ?_
 refine bE zeroValue70 fun n2=> ?_
 refine bE zeroValue47 fun n3=> ?_
 refine rf [4,0,1,3013,1] e_ ?_;refine Qi (us:=dtC T) isAgg142 sizeOf142 rfl (hC.le leA) ?_;refine bE zeroValue142 fun n4=> ?_
 refine rf [0,4,0,3018,1] w2 ?_;refine Qi (us:=stC (Stm.mk o ln cl nm wt (Ex.mk ek en n0 k0 o0 m0 el ea ec) (Ex.mk xk xn e0 xsl f0 d0 xl xa xc) bd l0 ba bc q0 p0 b sl ot g0)) isAgg126 sizeOf126 rfl (r3.le leA) ?_;refine bE zeroValue126 fun n5=> ?_
 refine rn [0,5,0,1] ?_;refine bE zeroValue47 fun n6=> ?_
 refine rn [0,4,0,2] ?_;refine aM 27 (.slice (Wh T.lft.a T.lft.c 1 25) (T.lft.l.drop 1).length (T.lft.c - 1)) rfl (by rw [bN];rfl) ?_;refine rn [0,3,0,1,0] ?_;refine aM 31 (.agg (dtC ({ T with lft:=⟨T.lft.l.drop 1,Wh T.lft.a T.lft.c 1 25,T.lft.c - 1⟩ } :DT)).toArray) rfl (rfl) ?_;refine Zx call62 (aD _) (Vy (D:=D) (t:=({ T with lft:=⟨T.lft.l.drop 1,Wh T.lft.a T.lft.c 1 25,T.lft.c - 1⟩ } :DT)) (hK.le leA) hn (by omega)) ?_;rintro _ _ ⟨a1,c1,rfl,rfl⟩;refine bE zeroValue70 fun n7=> ?_
 refine rn [0,2] ?_;refine bK (q':=docM ({ D with ths:=⟨D.ths.l.set n ({ T with lft:=⟨T.lft.l.drop 1,Wh T.lft.a T.lft.c 1 25,T.lft.c - 1⟩ } :DT),a1,c1⟩ } :DC)::_) (bY (φ:=fun M=>DC.At M ({ D with ths:=⟨D.ths.l.set n ({ T with lft:=⟨T.lft.l.drop 1,Wh T.lft.a T.lft.c 1 25,T.lft.c - 1⟩ } :DT),a1,c1⟩ } :DC)) (mn:=fun e h=>cM e h) (((bU hK leA).and ((bU w0 leA).and (svK (f:=dtC) (x:=⟨D.ths.l.set n ({ T with lft:=⟨T.lft.l.drop 1,Wh T.lft.a T.lft.c 1 25,T.lft.c - 1⟩ } :DT),a1,c1⟩)))).imp fun M h=>h.1.thread ⟨h.2.1.loc,h.2.1.lft.suf,h.2.1.sp⟩ h.2.2)) ?_;have z0: ∀ r,Kn (docM ({ D with ths:=⟨D.ths.l.set n ({ T with lft:=⟨T.lft.l.drop 1,Wh T.lft.a T.lft.c 1 25,T.lft.c - 1⟩ } :DT),a1,c1⟩ } :DC)::r) fun M=>DC.At M ({ D with ths:=⟨D.ths.l.set n ({ T with lft:=⟨T.lft.l.drop 1,Wh T.lft.a T.lft.c 1 25,T.lft.c - 1⟩ } :DT),a1,c1⟩ } :DC):=fun r=>fK
 have j1:(({ D with ths:=⟨D.ths.l.set n ({ T with lft:=⟨T.lft.l.drop 1,Wh T.lft.a T.lft.c 1 25,T.lft.c - 1⟩ } :DT),a1,c1⟩ } :DC)).Is (S0.put n { S0.th n with left:=(S0.th n).left.drop 1 }):=(by have h:=hI.put (n:=n) (t:=({ T with lft:=⟨T.lft.l.drop 1,Wh T.lft.a T.lft.c 1 25,T.lft.c - 1⟩ } :DT)) (aa:=a1) (c:=c1);have e:(({ T with lft:=⟨T.lft.l.drop 1,Wh T.lft.a T.lft.c 1 25,T.lft.c - 1⟩ } :DT)).er= { S0.th n with left:=(S0.th n).left.drop 1 } :=(by rw [r0];show (⟨T.decl,T.st,T.loc.l,Zk (T.lft.l.drop 1),T.sp.l⟩:PTr)=_;rw [Ga];rfl);rw [e] at h;exact h);refine rn [3,0,3] ?_;refine jI (fun (x:DC×EvC×DT)=> [(1,I64 n),(2,pt n1),(4,pt n2),(5,pt n3),(6,pt n4),(7,pt n5),(8,pt n6),(9,pt n7),(10,I64 R.2.2)]) (fun x=>docM x.1::pto n1 (Ay D)::pto n2 Ad::pto n3 Ag::pto n4 (.cells (dtC x.2.2).toArray 142 (0,0))::pto n5 (.cells (stC (Stm.mk o ln cl nm wt (Ex.mk ek en n0 k0 o0 m0 el ea ec) (Ex.mk xk xn e0 xsl f0 d0 xl xa xc) bd l0 ba bc q0 p0 b sl ot g0)).toArray 126 (0,0))::pto n6 (.cells (evC x.2.1).toArray 47 (0,0))::pto n7 (.cells (Y3 x.1).toArray 70 (0,0))::rsH acC 3 140 x.2.1.aa x.2.1.ac x.2.1.e.acc::rsH snC 3 50 x.2.1.na x.2.1.nc x.2.1.e.syn::(q++F)) (fun x=>x.1.g=D.g/\x.1.Is R.1/\x.2.1.e=R.2.1) (fun x y2=> ?_) fun K=> ?_
 . obtain ⟨D',xe,t2⟩:=x;obtain ⟨c0,p,b0⟩:=y2;dsimp only at*;refine xx 6 ?_;refine xp 84 ?_ ?_<;>intro h0
   . have d:S0.step D.g.er.pr n=({ S0 with out:=⟨4,R.2.2,n,b⟩ }, { zEv n b with trap:=R.2.2,acc:=R.2.1.acc }):=(by rw [Up,<-hR,if_pos h0,i0];rfl);refine rn [6,0,2,0,2,0,1,2,3,4,5,6,7,8,9,10,0] ?_;refine bK (q':=docM ({ D with out:=⟨4,R.2.2,(n:Int),b⟩ } :DC)::_) (bY (φ:=fun M=>DC.At M ({ D with out:=⟨4,R.2.2,(n:Int),b⟩ } :DC)) (mn:=fun e h=>cM e h) ((bU hK leA).imp fun M h=>h.out _)) ?_;refine bK (Zm snC 3 50 _) ?_;refine Zq (docM ({ D with out:=⟨4,R.2.2,(n:Int),b⟩ } :DC)::(evL (⟨{ zEv n b with trap:=R.2.2,acc:=xe.e.acc },xe.aa,xe.ac,none,0⟩:EvC)++q)) func31 (Fa results31) ⟨_,rfl,({ D with out:=⟨4,R.2.2,(n:Int),b⟩ } :DC),(⟨{ zEv n b with trap:=R.2.2,acc:=xe.e.acc },xe.aa,xe.ac,none,0⟩:EvC),rfl,rfl,rfl,by rw [d];exact hI.out_ _,by rw [d,<-b0]⟩ (by unfold evL;exact leA)
   have i1:=Dl hF hM hnn hc (by rw [<-hR];exact h0);rw [<-hR] at i1;have g1:n<D'.ths.l.length:=(by rw [p.len];exact i1.nn);have z3:D'.ths.l.length<=8:=(by have:=i1.t.2;rw [<-p.len] at this;exact this);have l1:=p.th g1;have y0: ∀ r,Kn (docM D'::r) fun M=>DC.At M D':=fun r=>fK
   have p2: ∀ r,Sees (docM D'::r) D'.ths.a (D'.ths.l.flatMap dtC):=fun r=>bV ((y0 r).imp fun M h=>h.ths);have q1:=Zv Wq D'.ths.l;refine Zs (p2 (q++F)) (by rw [q1];omega) fun u3 t3 v2=> ?_;have o2:=p2;rw [v2] at o2
   obtain ⟨T2,t1⟩:=lA D'.ths.l[n];rw [<-t1] at l1;have o3:T2∈D'.ths.l:=(by rw [t1];exact aA g1);have s3: ∀ r,CellsAt (docM D'::r) u3 (t3+(n:Int).toNat*5) (dtC T2):=fun r=>by rw [t1];exact eV (o2 r) (aD _) Wq g1 rfl
   have d:S0.step D.g.er.pr n=((((R.1).ended n R.2.1).1).stands D.g.er.pr,((R.1).ended n R.2.1).2):=(by rw [Up,<-hR,if_neg (fun k=>k h0)]);have a0:SS.ok D'.g.er (N+1) ((R.1).ended n R.2.1).1:=(by rw [c0];exact (i1.ended (ev:=R.2.1)).ok);unfold SS.ended at d a0;rw [l1] at d a0;have g2:T2.er.left= []↔T2.lft.l.length=0:=(by show Zk T2.lft.l= []↔_;rw [<-Zf];exact List.length_eq_zero_iff.symm);refine rf [5,0,1,3100,1] v2 ?_;refine Qi (us:=dtC T2) isAgg142 sizeOf142 rfl ((s3 _).le leA) ?_;refine rn [0,5,0,3] ?_;refine xp 107 ?_ ?_<;>intro h1
   . have j3:T2.lft.l.length=0:=(by omega);rw [if_pos (g2.2 j3)] at d a0;have v3:xe.e.syn.length<=N+1000:=(by rw [b0,hR];exact G5 hF hnn);refine rn [4,0,3,0,1,0] ?_;refine aM 111 (.agg (dtC ({ T2 with st:=4 } :DT)).toArray) rfl (rfl) ?_;refine Zx call62 (aD _) (Vy (D:=D') (t:=({ T2 with st:=4 } :DT)) ((y0 _).le leA) g1 (by omega)) ?_;rintro _ _ ⟨a6,c6,rfl,rfl⟩;refine rn [0,1,0,1,2] ?_;refine Yx 2 call63 (V3) ?_;refine dA 3 rfl (Zl (u:=Bl) snC underlying45 Y8 rfl rfl Y4 rfl) ?_;rintro _ _ ⟨g8,rfl,rfl⟩;refine ⟨hlA,?_⟩;refine dA 4 rfl (Zu (f:=snC) (l:=xe.e.syn) (m:= [Bl]) underlying45 Y8 rfl rfl Y4 rfl rfl Zj ((aV _).le leA) Qn (by simp only [aJ];omega) (by simp only [aJ];omega)) ?_;refine kk2 fun a7 c7=> ?_
     refine rn [6,7,0] ?_;refine bK (q':=docM ({ D' with ths:=⟨D'.ths.l.set n ({ T2 with st:=4 } :DT),a6,c6⟩ } :DC)::_) (bY (φ:=fun M=>DC.At M ({ D' with ths:=⟨D'.ths.l.set n ({ T2 with st:=4 } :DT),a6,c6⟩ } :DC)) (mn:=fun e h=>cM e h) ((((y0 _).le leA).and (svK (f:=dtC) (x:=⟨D'.ths.l.set n ({ T2 with st:=4 } :DT),a6,c6⟩))).imp fun M h=>h.1.thread (let k:=h.1.t _ o3;⟨k.loc,k.lft,k.sp⟩) h.2)) ?_;have s2: ∀ r,Kn (docM ({ D' with ths:=⟨D'.ths.l.set n ({ T2 with st:=4 } :DT),a6,c6⟩ } :DC)::r) fun M=>DC.At M ({ D' with ths:=⟨D'.ths.l.set n ({ T2 with st:=4 } :DT),a6,c6⟩ } :DC):=fun r=>fK;have p3:(({ D' with ths:=⟨D'.ths.l.set n ({ T2 with st:=4 } :DT),a6,c6⟩ } :DC)).Is ((R.1).put n { T2.er with st:=4 }):=p.put (t:=({ T2 with st:=4 } :DT))
     refine rn [1,0,1,3] ?_;refine Ym 1 call52 (aD _) (Ts (D:=({ D' with ths:=⟨D'.ths.l.set n ({ T2 with st:=4 } :DT),a6,c6⟩ } :DC)) ((s2 _).le leA) p3 a0) ?_;rintro _ _ ⟨D5,rfl,rfl,d1,b1⟩;refine ⟨hlA,?_⟩;refine rn [4,5,0] ?_;refine bK (q':=docM D5::_) (bY (φ:=fun M=>DC.At M D5) (mn:=fun e h=>cM e h) (((s2 _).le leA).imp fun M h=>by rw [d1];exact h.out _)) ?_;refine Zq (docM D5::(evL ({ xe with e:= { xe.e with syn:=xe.e.syn++ [Bl] },na:=a7,nc:=c7 } :EvC)++q)) func31 (Fa results31) ⟨_,rfl,D5,({ xe with e:= { xe.e with syn:=xe.e.syn++ [Bl] },na:=a7,nc:=c7 } :EvC),rfl,rfl,by rw [d1];exact c0,by rw [d];rw [show (({ D' with ths:=⟨D'.ths.l.set n ({ T2 with st:=4 } :DT),a6,c6⟩ } :DC)).g=D.g from c0] at b1;exact b1,by rw [d,<-b0]⟩ (by unfold evL;exact leA)
   rw [if_neg (fun k=>h1 (by have:=g2.1 k;omega))] at d a0;refine rn [3,0,1,3] ?_;refine Ym 1 call52 (aD _) (Ts (D:=D') ((y0 _).le leA) p a0) ?_;rintro _ _ ⟨D5,rfl,rfl,d1,b1⟩;refine ⟨hlA,?_⟩;refine rn [4,5,0] ?_;refine bK (q':=docM D5::_) (bY (φ:=fun M=>DC.At M D5) (mn:=fun e h=>cM e h) (((y0 _).le leA).imp fun M h=>by rw [d1];exact h.out _)) ?_;refine Zq (docM D5::(evL xe++q)) func31 (Fa results31) ⟨_,rfl,D5,xe,rfl,rfl,by rw [d1];exact c0,by rw [d];rw [c0] at b1;exact b1,by rw [d];exact b0⟩ (by unfold evL;exact leA)
 refine rn [4,0,3] ?_;have o1:(S0.th n).st=T.st:=(by rw [r0];rfl);have j:=hc;unfold SS.can at j;dsimp only at j;rw [i0] at j;try dsimp only at j
 refine xp 44 ?_ ?_<;>intro h3
 . have k1:(S0.th n).st=3:=(by rw [o1];exact h3);have h2:=s0.w k1;simp only [Stm.er,PStm.kd] at h2;obtain ⟨f3,e3,d3,b3,z2,m1,t0,y1,x1⟩:=Yp hg.2.1;have i2:=m1 h2;obtain ⟨I,rfl⟩:=aE i2.1;have v1:I<D.own.l.length:=(by have hz:=f1.z.1;rw [<-hI.own] at hz;have x3:D.g.er.cn.mu=D.g.er.mu:=rfl;omega);have w3:D.own.l.length<=64:=(by rw [hI.own];exact f1.y.no);split at j;cases j;simp only [Stm.er] at j;rw [show ((I:Int)).toNat=I from rfl,<-hI.own,Yg v1] at j;have b2:D.own.l[I]= -1:=(by simpa using j);clear f3 e3 d3 b3 z2 m1 t0 y1 x1 j
   refine rn [4,0,4,0,4,0] ?_;refine aU call63 (V3) ?_;refine bI (Zl (u:=(B5 I)) snC underlying45 Y8 rfl rfl Y4 rfl) ?_;rintro _ _ ⟨g8,rfl,rfl⟩;refine rn [1,0,1,0,1,2,3,5,6,7] ?_;refine bW 57 (.agg (dtC ({ T with st:=1,lft:=⟨T.lft.l.drop 1,Wh T.lft.a T.lft.c 1 25,T.lft.c - 1⟩ } :DT)).toArray) rfl (rfl) ?_;refine Ym 3 call62 (aD _) (Vy (D:=({ D with ths:=⟨D.ths.l.set n ({ T with lft:=⟨T.lft.l.drop 1,Wh T.lft.a T.lft.c 1 25,T.lft.c - 1⟩ } :DT),a1,c1⟩ } :DC)) (t:=({ T with st:=1,lft:=⟨T.lft.l.drop 1,Wh T.lft.a T.lft.c 1 25,T.lft.c - 1⟩ } :DT)) ((z0 _).le leA) (by show n<(D.ths.l.set n _).length;rw [bG];exact hn) (by show (D.ths.l.set n _).length<=_;rw [bG];omega)) ?_;refine kk2 fun a2 c2=> ?_
   refine Ym 7 call64 (aD _) (Na (D:=({ D with ths:=⟨(D.ths.l.set n ({ T with lft:=⟨T.lft.l.drop 1,Wh T.lft.a T.lft.c 1 25,T.lft.c - 1⟩ } :DT)).set n ({ T with st:=1,lft:=⟨T.lft.l.drop 1,Wh T.lft.a T.lft.c 1 25,T.lft.c - 1⟩ } :DT),a2,c2⟩ } :DC)) (n:=I) (u:=(n:Int)) ((((z0 _).le leA).and ((bU w0 leA).and (svK (f:=dtC) (x:=⟨(D.ths.l.set n ({ T with lft:=⟨T.lft.l.drop 1,Wh T.lft.a T.lft.c 1 25,T.lft.c - 1⟩ } :DT)).set n ({ T with st:=1,lft:=⟨T.lft.l.drop 1,Wh T.lft.a T.lft.c 1 25,T.lft.c - 1⟩ } :DT),a2,c2⟩)))).imp fun M h=>h.1.thread ⟨h.2.1.loc,h.2.1.lft.suf,h.2.1.sp⟩ h.2.2) v1 (by show D.own.l.length<=_;omega)) ?_;refine kk2 fun a3 c3=> ?_
   refine rn [9,0,1] ?_;refine bK (q':=docM ({ D with ths:=⟨(D.ths.l.set n ({ T with lft:=⟨T.lft.l.drop 1,Wh T.lft.a T.lft.c 1 25,T.lft.c - 1⟩ } :DT)).set n ({ T with st:=1,lft:=⟨T.lft.l.drop 1,Wh T.lft.a T.lft.c 1 25,T.lft.c - 1⟩ } :DT),a2,c2⟩,own:=⟨D.own.l.set I (n:Int),a3,c3⟩ } :DC)::_) (bY (φ:=fun M=>DC.At M ({ D with ths:=⟨(D.ths.l.set n ({ T with lft:=⟨T.lft.l.drop 1,Wh T.lft.a T.lft.c 1 25,T.lft.c - 1⟩ } :DT)).set n ({ T with st:=1,lft:=⟨T.lft.l.drop 1,Wh T.lft.a T.lft.c 1 25,T.lft.c - 1⟩ } :DT),a2,c2⟩,own:=⟨D.own.l.set I (n:Int),a3,c3⟩ } :DC)) (mn:=fun e h=>cM e h) (((show Kn _ (fun M=>DC.At M ({ D with ths:=⟨(D.ths.l.set n ({ T with lft:=⟨T.lft.l.drop 1,Wh T.lft.a T.lft.c 1 25,T.lft.c - 1⟩ } :DT)).set n ({ T with st:=1,lft:=⟨T.lft.l.drop 1,Wh T.lft.a T.lft.c 1 25,T.lft.c - 1⟩ } :DT),a2,c2⟩ } :DC)) from ((((z0 _).le leA).and ((bU w0 leA).and (svK (f:=dtC) (x:=⟨(D.ths.l.set n ({ T with lft:=⟨T.lft.l.drop 1,Wh T.lft.a T.lft.c 1 25,T.lft.c - 1⟩ } :DT)).set n ({ T with st:=1,lft:=⟨T.lft.l.drop 1,Wh T.lft.a T.lft.c 1 25,T.lft.c - 1⟩ } :DT),a2,c2⟩)))).imp fun M h=>h.1.thread ⟨h.2.1.loc,h.2.1.lft.suf,h.2.1.sp⟩ h.2.2)).and (svK (f:=iC) (x:=⟨D.own.l.set I (n:Int),a3,c3⟩))).imp fun M h=>h.1.own_ h.2)) ?_;have e1:(({ T with st:=1,lft:=⟨T.lft.l.drop 1,Wh T.lft.a T.lft.c 1 25,T.lft.c - 1⟩ } :DT)).er= { S0.th n with st:=1,left:=(S0.th n).left.drop 1 } :=(by rw [r0];show (⟨T.decl,1,T.loc.l,Zk (T.lft.l.drop 1),T.sp.l⟩:PTr)=_;rw [Ga];rfl);have p:=j1.put (n:=n) (t:=({ T with st:=1,lft:=⟨T.lft.l.drop 1,Wh T.lft.a T.lft.c 1 25,T.lft.c - 1⟩ } :DT)) (aa:=a2) (c:=c2);rw [e1,Zqb] at p;have q3:=p.lock (i:=I) (n:=n) (aa:=a3) (c:=c3) v1 (by omega) b2;have u1:R=({ (S0.put n { S0.th n with st:=1,left:=(S0.th n).left.drop 1 }) with sy:=(W2 S0.sy (I:Int) n).1 }, { zEv n b with woke:=true,syn:= [(1,(I:Int),0)] },0):=(by rw [hR];unfold SS.did;dsimp only;rw [if_pos k1,i0];rfl);refine cU 10 (I64 R.2.2) rfl (by rw [u1]) ?_;refine bK (Zm acC 3 140 _) ?_;exact aZ (K (({ D with ths:=⟨(D.ths.l.set n ({ T with lft:=⟨T.lft.l.drop 1,Wh T.lft.a T.lft.c 1 25,T.lft.c - 1⟩ } :DT)).set n ({ T with st:=1,lft:=⟨T.lft.l.drop 1,Wh T.lft.a T.lft.c 1 25,T.lft.c - 1⟩ } :DT),a2,c2⟩,own:=⟨D.own.l.set I (n:Int),a3,c3⟩ } :DC),(⟨{ zEv n b with woke:=true,syn:= [(B5 I)] },none,0,some ⟨g8,0,none⟩,1⟩:EvC),({ T with st:=1,lft:=⟨T.lft.l.drop 1,Wh T.lft.a T.lft.c 1 25,T.lft.c - 1⟩ } :DT)) ⟨rfl,by rw [u1];exact q3,by rw [u1]⟩) Zg leA
 have k1: ¬ (S0.th n).st=3:=(by rw [o1];exact h3);have u2:(S0.th n).st=1:=(by have:=s0.st;omega);obtain ⟨PX,x0⟩:=lA ({ S0.th n with left:=(S0.th n).left.drop 1 } :PTr);have g3:=G2 u2 ((S0.th n).left.drop 1);rw [<-g3,<-x0] at hp;rw [<-x0] at j1;have l2:(S0.put n PX).th n=PX:=Lw hnn;have j2:(Stm.mk o ln cl nm wt (Ex.mk ek en n0 k0 o0 m0 el ea ec) (Ex.mk xk xn e0 xsl f0 d0 xl xa xc) bd l0 ba bc q0 p0 b sl ot g0).er.good D.g.er.cn ((S0.put n PX).th n).loc.length:=(by rw [l2,x0];exact hg);have s:R=if o<=5\/o=11\/o=15 then (S0.put n PX).data D.g.er.pr n (Stm.mk o ln cl nm wt (Ex.mk ek en n0 k0 o0 m0 el ea ec) (Ex.mk xk xn e0 xsl f0 d0 xl xa xc) bd l0 ba bc q0 p0 b sl ot g0).er (zEv n b) else (S0.put n PX).others D.g.er.pr n (Stm.mk o ln cl nm wt (Ex.mk ek en n0 k0 o0 m0 el ea ec) (Ex.mk xk xn e0 xsl f0 d0 xl xa xc) bd l0 ba bc q0 p0 b sl ot g0).er (zEv n b):=(by rw [hR,x0];unfold SS.did;dsimp only;rw [if_neg k1,i0];rfl)
 split at j;cases j;simp only [Stm.er] at j
 refine bK (Zm acC 3 140 _) ?_;refine bK (Zm snC 3 50 _) ?_;have k3:o<=5\/(¬o<=5/\o=11)\/((¬o<=5/\ ¬o=11)/\o=15)\/(¬o<=5/\ ¬o=11/\ ¬o=15):=(by omega);rcases k3 with j0|⟨j0,u0⟩|⟨⟨j0,u0⟩,s1⟩|⟨j0,u0,s1⟩
 focus
  rw [if_pos (by omega)] at s;refine xo 6 ?_;refine kA 66 ?_ rfl (aR j0);refine oo 11 ?_
 rotate_left
 focus
  rw [if_pos (by omega)] at s;refine xo 6 ?_;refine Q4 66 ?_ rfl (aO j0);refine oo 4 ?_;refine kA 70 ?_ rfl (aR u0);refine oo 7 ?_
 rotate_left
 focus
  rw [if_pos (by omega)] at s;refine xo 6 ?_;refine Q4 66 ?_ rfl (aO j0);refine oo 4 ?_;refine Q4 70 ?_ rfl (aO u0);refine ox 5 ?_;refine gI 63 ?_ rfl (aR s1);refine xo 2 ?_
 rotate_left
 . rw [if_neg (by omega)] at s;refine xo 6 ?_;refine Q4 66 ?_ rfl (aO j0);refine oo 4 ?_;refine Q4 70 ?_ rfl (aO u0);refine ox 5 ?_;refine Ux 63 ?_ rfl (aO s1);refine rn [2,0,1,0,0] ?_;refine aM 39 (.agg (evC (evZ n b)).toArray) rfl (rfl) ?_;refine Zx call66 (bP Zj Zj) ((X4 (D:=({ D with ths:=⟨D.ths.l.set n ({ T with lft:=⟨T.lft.l.drop 1,Wh T.lft.a T.lft.c 1 25,T.lft.c - 1⟩ } :DT),a1,c1⟩ } :DC)) (S0:=S0.put n PX) (x:=evZ n b) (y:=(Stm.mk o ln cl nm wt (Ex.mk ek en n0 k0 o0 m0 el ea ec) (Ex.mk xk xn e0 xsl f0 d0 xl xa xc) bd l0 ba bc q0 p0 b sl ot g0)) (N:=N) (n:=n) ((z0 _).le leA) j1 hp hM (by omega) (w1.le leA) j2 ⟨rfl,rfl⟩ (by rw [l2,x0];exact u2) (show ¬ (o<=5\/o=11\/o=15) by omega) (fun hk=>by have hk:o=12:=hk;subst hk;rw [if_neg (by decide),if_neg (by decide),if_pos rfl] at j;exact cN j):CallF prog G 66 _ (rsH acC 3 140 (evZ n b).aa (evZ n b).ac (evZ n b).e.acc::rsH snC 3 50 (evZ n b).na (evZ n b).nc (evZ n b).e.syn::_) _)) ?_;rintro _ _ ⟨D2,x2,rfl,rfl,v0,p,b0⟩;simp only [evL,ca,na];refine rn [4,0,0,3] ?_;refine cU 10 (I64 R.2.2) rfl (by rw [s];rfl) ?_;exact aZ (K (D2,x2,({ T with lft:=⟨T.lft.l.drop 1,Wh T.lft.a T.lft.c 1 25,T.lft.c - 1⟩ } :DT)) ⟨v0,by rw [s];exact p,by rw [s];exact b0⟩) Zg leA
 all_goals
  refine rn [0,1,0,0] ?_;refine aM 78 (.agg (evC (evZ n b)).toArray) rfl (rfl) ?_;refine Zx call65 (bP Zj Zj) ((ddata_ok (D:=({ D with ths:=⟨D.ths.l.set n ({ T with lft:=⟨T.lft.l.drop 1,Wh T.lft.a T.lft.c 1 25,T.lft.c - 1⟩ } :DT),a1,c1⟩ } :DC)) (S0:=S0.put n PX) (x:=evZ n b) (y:=(Stm.mk o ln cl nm wt (Ex.mk ek en n0 k0 o0 m0 el ea ec) (Ex.mk xk xn e0 xsl f0 d0 xl xa xc) bd l0 ba bc q0 p0 b sl ot g0)) (N:=N) (n:=n) ((z0 _).le leA) j1 hp hM (by omega) (w1.le leA) j2 ⟨rfl,rfl⟩ (show o<=5\/o=11\/o=15 by omega) (fun hk=>by have hk:o=11:=hk;subst hk;rw [if_neg (by decide),if_pos rfl] at j;have h:=cN j;have z1:=f1.z.2.2;obtain ⟨_,_,_,_,_,_,t0,_,_⟩:=Yp hg.2.1;have i2:=t0 (.inl rfl);have i3:sl.toNat<S0.sy.chans.length:=(by have:=bL List.length z1;rw [aG] at this;have y3:D.g.er.cn.ch=(D.g.er.chs.length:Int):=rfl;omega);rw [show D.g.er.pr.room=D.g.er.chs from rfl,<-z1,Pe i3] at h;exact h):CallF prog G 65 _ (rsH acC 3 140 (evZ n b).aa (evZ n b).ac (evZ n b).e.acc::rsH snC 3 50 (evZ n b).na (evZ n b).nc (evZ n b).e.syn::_) _)) ?_;rintro _ _ ⟨D2,x2,rfl,rfl,v0,p,b0⟩;simp only [evL,ca,na];refine rn [4,0,0,3] ?_;refine cU 10 (I64 R.2.2) rfl (by rw [s];rfl) ?_;exact aZ (K (D2,x2,({ T with lft:=⟨T.lft.l.drop 1,Wh T.lft.a T.lft.c 1 25,T.lft.c - 1⟩ } :DT)) ⟨v0,by rw [s];exact p,by rw [s];exact b0⟩) Zg leA
end
mutual
def PEx.sz:PEx->Nat
 | .mk _ _ _ _ _ _ args=>Jw args+1
def Jw:List PEx->Nat
 | []=>0
 |e::r=>e.sz+Jw r
end
mutual
theorem O0: ∀ (e:Ex),e.er.sz=e.sz
 | .mk _ _ _ _ _ _ args _ _=>by simp only [Ex.er,PEx.sz,Ex.sz,Cx args]
theorem Cx: ∀ (l:List Ex),Jw (Z9 l)=Jt l
 | []=>rfl
 |e::r=>by simp only [Z9,Jw,Jt,O0 e,Cx r]
end
mutual
/-- What an expression that may be is like. -/
def PEx.fit:PEx->Prop
 | .mk k n _ _ _ op args=>(1<=k/\k<=6)/\args.length=Zz6 k/\(k=1->0<=n/\n<=2147483647)/\(k=6->1<=op/\op<=11)/\PEx.fits args
def PEx.fits:List PEx->Prop
 | []=>True
 |e::r=>e.fit/\PEx.fits r
end
mutual
theorem Hz: ∀ {e:PEx} {d:Nat},e.right d=true->e.fit
 | .mk k n nm _ _ op args,d,h=>by
  simp only [PEx.right] at h;split at h
  . cases h
  split at h
  . rename_i b;rw [aQ,aQ,bZ] at h;obtain ⟨⟨a,f⟩,c⟩:=h;refine ⟨b,f,fun h=> ?_,fun h=> ?_,Nf c⟩
    . subst h;unfold Zz1 at a;rw [if_pos rfl,aQ] at a;simpa using a
    subst h;unfold Zz1 at a;rw [if_neg (by decide),if_neg (by decide),if_pos rfl,aQ] at a;simpa using a
  cases h
theorem Nf: ∀ {l:List PEx} {d:Nat},Wn l d=true->PEx.fits l
 | [],_,_=>trivial
 |e::r,d,h=>by
  simp only [Wn,aQ] at h;exact ⟨Hz h.1,Nf h.2⟩
end
mutual
/-- How much code a statement makes at most. -/
def PStm.wt:PStm->Nat
 | .mk _ _ _ _ _ e ix body els _ _ _ _=>4*e.sz+4*ix.sz+6+Vs body+Vs els
def Vs:List PStm->Nat
 | []=>0
 |s::r=>s.wt+Vs r
end
theorem Wp {w:Int}(hw:w≠0):(f.fl w).flaw≠0:=by
 unfold Fnd.fl;split
 . exact hw
 rename_i h;exact h
theorem Rz {g:Fnd}(h:((g.loc1 nm).loc2).flaw=0):(g.loc1 nm).loc2=g/\g.locals<32/\g.flaw=0:=by
 have e:(g.loc1 nm)=g:=by
  by_cases hk:g.at nm≠0
  . exfalso;have a:(g.loc1 nm).flaw≠0:=by unfold Fnd.loc1;rw [if_pos hk];exact Wp (by decide)
    unfold Fnd.loc2 at h;split at h
    . exact Wp (by decide) h
    exact a h
  unfold Fnd.loc1;rw [if_neg hk]
 rw [e] at h|-;unfold Fnd.loc2 at h|-;by_cases h5:32<=g.locals
 . rw [if_pos h5] at h;exact bD h (Wp (by decide))
 rw [if_neg h5] at h|-;exact ⟨rfl,by omega,h⟩
structure Cn.le (c d:Cn):Prop where
 v:c.v<=d.v
 a:c.a<=d.a
 mu:c.mu<=d.mu
 co:c.co<=d.co
 ch:c.ch<=d.ch
 th:c.th<=d.th
structure NmOk (c:Cn) (lo:Int) (x:Nm):Prop where
 z:0<=x.s
 v:x.k=1->x.s<c.v
 a:x.k=2->x.s<c.a
 mu:x.k=3->x.s<c.mu
 co:x.k=4->x.s<c.co
 ch:x.k=5->x.s<c.ch
 th:x.k=6->x.s<c.th
 lo:x.k=100->x.s<lo
theorem NmOk.up {d:Cn}{x:Nm}(h:NmOk c lo x)(hc:c.le d)(hl:lo<=hi):NmOk d hi x:=by
 obtain ⟨l,k,j,i,g,f,b,a⟩:=h;obtain ⟨r,q,p,o,n,m⟩:=hc;exact ⟨l,fun e=>by have:=k e;omega,fun e=>by have:=j e;omega,fun e=>by have:=i e;omega,fun e=>by have:=g e;omega,fun e=>by have:=f e;omega,fun e=>by have:=b e;omega,fun e=>by have:=a e;omega⟩
theorem Cn.le_refl (c:Cn):c.le c:=⟨bX _,bX _,bX _,bX _,bX _,bX _⟩
def vaOk (c:Cn)(lo:Int)(s:Int)(l:Bool):Prop:=0<=s/\(if l=true then s<lo else s<c.v)
mutual
def PEx.wl (c:Cn)(lo:Int):PEx->Prop
 | .mk k _ _ slot loc _ args=>(k=2->vaOk c lo slot loc)/\(k=3->0<=slot/\slot<c.a)/\N1 c lo args
def N1 (c:Cn)(lo:Int):List PEx->Prop
 | []=>True
 |e::r=>e.wl c lo/\N1 c lo r
end
theorem vaOk.up {s:Int}{l:Bool}(h:vaOk c lo s l)(hl:lo<=hi):vaOk c hi s l:=by
 unfold vaOk at*;refine ⟨h.1,?_⟩;have:=h.2;split<;>rename_i k
 . rw [if_pos k] at this;omega
 rw [if_neg k] at this;omega
mutual
theorem Ht {c:Cn}{lo hi:Int}(hl:lo<=hi): ∀ {e:PEx},e.wl c lo->e.wl c hi
 | .mk ..,⟨h1,h2,h3⟩=>⟨fun k=>(h1 k).up hl,h2,G9 hl h3⟩
theorem G9 {c:Cn}{lo hi:Int}(hl:lo<=hi): ∀ {l:List PEx},N1 c lo l->N1 c hi l
 | [],_=>trivial
 |_::_,⟨h1,h2⟩=>⟨Ht hl h1,G9 hl h2⟩
end
theorem Fnd.wants_ok {s:ByteArray}{a b:Int}(h:(f.wants s a b).1.flaw=0):(f.wants s a b).1=f/\ ∃ x∈f.names,(x.k=a\/x.k=b)/\(f.wants s a b).2=(x.k,x.s):=by
 unfold Fnd.wants at h|-;have j:f.at s<=f.names.length:=Hn;split at h
 . exact bD h (Wp (by decide))
 rename_i i hi;have c:i<f.names.length:=by omega
 have g:(f.names.map fun x=>(x.k,x.s)).getD i (0,0)=(f.names[i].k,f.names[i].s):=by
  rw [bS,eR,aH c];rfl
 dsimp only at h|-;rw [g] at h|-;split at h
 . exact bD h (Wp (by decide))
 rename_i d;rw [if_neg d];refine ⟨rfl,_,aA c,?_,rfl⟩;simp only [aQ,gL,ne_eq,not_and,gK] at d;by_cases e:f.names[i].k=a
 . exact .inl e
 exact .inr (d e)
abbrev fN:=@Fnd.wants_ok
mutual
theorem U5: ∀ (e:PEx) (f:Fnd),(f.expr e).2.sz=e.sz/\(f.expr e).2.dep=e.dep/\(e.fit->(f.expr e).2.fit)
 | .mk k n nm slot loc op args,f=>by
  simp only [Fnd.expr];split
  . obtain ⟨j,i,h,g⟩:=Q0 args (f.wants nm 1 100).1;exact ⟨by simp only [PEx.sz,j],by simp only [PEx.dep,i],fun ⟨a,b,c,d,e⟩=>⟨a,h.trans b,c,d,g e⟩⟩
  split
  . obtain ⟨j,i,h,g⟩:=Q0 args (f.wants nm 2 2).1;exact ⟨by simp only [PEx.sz,j],by simp only [PEx.dep,i],fun ⟨a,b,c,d,e⟩=>⟨a,h.trans b,c,d,g e⟩⟩
  obtain ⟨j,i,h,g⟩:=Q0 args f;exact ⟨by simp only [PEx.sz,j],by simp only [PEx.dep,i],fun ⟨a,b,c,d,e⟩=>⟨a,h.trans b,c,d,g e⟩⟩
theorem Q0: ∀ (l:List PEx) (f:Fnd),Jw (f.exprs l).2=Jw l/\Y2 (f.exprs l).2=Y2 l/\(f.exprs l).2.length=l.length/\(PEx.fits l->PEx.fits (f.exprs l).2)
 | [],f=>⟨rfl,rfl,rfl,fun _=>trivial⟩
 |e::r,f=>by
  obtain ⟨k,j,i⟩:=U5 e f;obtain ⟨h,g,d,c⟩:=Q0 r (f.expr e).1;simp only [Fnd.exprs];exact ⟨by simp only [Jw,k,h],by simp only [Y2,j,g],by simp only [cC,d],fun ⟨b,a⟩=>⟨i b,c a⟩⟩
end
mutual
theorem Jp {c:Cn}{lo:Int}: ∀ (e:PEx) (f:Fnd),(f.expr e).1.flaw=0->(f.expr e).1=f/\((∀ x∈f.names,NmOk c lo x)->(f.expr e).2.wl c lo)
 | .mk k n nm slot loc op args,f,h=>by
  simp only [Fnd.expr] at h|-;split at h
  . rename_i m;rw [if_pos m];obtain ⟨g,o⟩:=Je (c:=c) (lo:=lo) args _ h;dsimp only at h g|-;rw [g] at h;obtain ⟨p,x,q,b,r⟩:=fN h;refine ⟨g.trans p,fun i=>⟨fun _=> ?_,fun e=>bD (m.symm.trans e) (by decide),o (by rw [p];exact i)⟩⟩;have d:=i x q;rw [r];refine ⟨d.z,?_⟩;dsimp only;rcases b with b|b
    . rw [if_neg (by rw [b];decide)];exact d.v b
    rw [if_pos (by rw [b];decide)];exact d.lo b
  rename_i l;rw [if_neg l];split at h
  . rename_i m;rw [if_pos m];obtain ⟨g,o⟩:=Je (c:=c) (lo:=lo) args _ h;dsimp only at h g|-;rw [g] at h;obtain ⟨p,x,q,b,r⟩:=fN h;refine ⟨g.trans p,fun i=>⟨fun e=>bD (m.symm.trans e) (by decide),fun _=> ?_,o (by rw [p];exact i)⟩⟩;have d:=i x q;rw [r];exact ⟨d.z,d.a (by rcases b with e|e<;>exact e)⟩
  rename_i j;rw [if_neg j];obtain ⟨g,o⟩:=Je (c:=c) (lo:=lo) args _ h;exact ⟨g,fun i=>⟨fun e=>bD e l,fun e=>bD e j,o i⟩⟩
theorem Je {c:Cn}{lo:Int}: ∀ (l:List PEx) (f:Fnd),(f.exprs l).1.flaw=0->(f.exprs l).1=f/\((∀ x∈f.names,NmOk c lo x)->N1 c lo (f.exprs l).2)
 | [],f,_=>⟨rfl,fun _=>trivial⟩
 |e::r,f,h=>by
  simp only [Fnd.exprs] at h|-;obtain ⟨d,i⟩:=Je (c:=c) (lo:=lo) r _ h;rw [d] at h;obtain ⟨a,g⟩:=Jp (c:=c) (lo:=lo) e f h;exact ⟨d.trans a,fun b=>⟨g b,i (by rw [a];exact b)⟩⟩
end
def ownOk (c:Cn)(lo k slot other:Int)(loc:Bool):Prop:=
 (k=1\/k=2->vaOk c lo slot loc)/\(k=3->0<=slot/\slot<c.a)/\(k=6\/k=7->0<=slot/\slot<c.mu)/\(k=8\/k=9\/k=10->0<=slot/\slot<c.co)/\(k=8->0<=other/\other<c.mu)/\(k=11\/k=12->0<=slot/\slot<c.ch)/\(k=12->vaOk c lo other loc)/\(k=13->0<=slot/\slot<c.th)
theorem ownOk.up {s o:Int}{l:Bool}(h:ownOk c lo k s o l)(hl:lo<=hi):ownOk c hi k s o l:=by
 obtain ⟨m,j,i,g,f,d,b,a⟩:=h;exact ⟨fun e=>(m e).up hl,j,i,g,f,d,fun e=>(b e).up hl,a⟩
mutual
def PStm.wl (c:Cn)(lo:Int):PStm->Prop
 | .mk k _ _ _ _ e ix body els id slot other loc=>(1<=k/\k<=15)/\(k<=5\/k=11\/k=15->e.fit/\e.dep<=24/\e.wl c lo)/\(k=3->ix.fit/\ix.dep<=24/\ix.wl c lo)/\(0<=id/\id<512)/\ownOk c lo k slot other loc/\Jn c lo body/\Jn c lo els
def Jn (c:Cn)(lo:Int):List PStm->Prop
 | []=>True
 |s::r=>s.wl c lo/\Jn c lo r
end
mutual
theorem G7 {c:Cn}{lo hi:Int}(hl:lo<=hi): ∀ {s:PStm},s.wl c lo->s.wl c hi
 | .mk ..,⟨h1,h2,h3,h4,h5,h6,h7⟩=>⟨h1,fun k=>⟨(h2 k).1,(h2 k).2.1,Ht hl (h2 k).2.2⟩,fun k=>⟨(h3 k).1,(h3 k).2.1,Ht hl (h3 k).2.2⟩,h4,h5.up hl,K0 hl h6,K0 hl h7⟩
theorem K0 {c:Cn}{lo hi:Int}(hl:lo<=hi): ∀ {l:List PStm},Jn c lo l->Jn c hi l
 | [],_=>trivial
 |_::_,⟨h1,h2⟩=>⟨G7 hl h1,K0 hl h2⟩
end
structure Ctx (c:Cn) (f:Fnd):Prop where
 n: ∀ x∈f.names,NmOk c f.locals x
 l:0<=f.locals/\f.locals<=f.most/\f.most<=32
 s:0<=f.stm
theorem Zq9 {wt:ByteArray}{lo:Bool}(h:(f.own k nm wt sl ot lo).1.flaw=0)(hx:Ctx c f):
 f.flaw=0/\Ctx c (f.own k nm wt sl ot lo).1/\f.most<=(f.own k nm wt sl ot lo).1.most/\(f.own k nm wt sl ot lo).1.stm=f.stm/\ownOk c (f.own k nm wt sl ot lo).1.most k (f.own k nm wt sl ot lo).2.1 (f.own k nm wt sl ot lo).2.2.1 (f.own k nm wt sl ot lo).2.2.2:=by
 obtain ⟨g, hg⟩ : ∃ g, f.own1 k nm sl lo = g := ⟨_, rfl⟩; unfold Fnd.own at h |-; rw [hg] at h |-; -- behind own1 nothing is flawed
 have p:g.1.flaw=0:=by
  unfold Fnd.own2 at h;split at h
  . exact (Rz (show ((g.1.loc1 nm).loc2).flaw=0 from h)).2.2
  split at h
  . dsimp only at h;rw [<-(fN h).1];exact h
  split at h
  . dsimp only at h;rw [<-(fN h).1];exact h
  exact h
 have hw:g.1=f/\(k=2->vaOk c f.locals g.2.1 g.2.2)/\(k=3->0<=g.2.1/\g.2.1<c.a)/\(k=6\/k=7->0<=g.2.1/\g.2.1<c.mu)/\(k=8\/k=9\/k=10->0<=g.2.1/\g.2.1<c.co)/\(k=11\/k=12->0<=g.2.1/\g.2.1<c.ch)/\(k=13->0<=g.2.1/\g.2.1<c.th):=by
  rw [<-hg] at p|-;unfold Fnd.own1 at p|-;by_cases hz:(Kt k).1≠0
  . rw [if_pos hz] at p|-;obtain ⟨o,x,b,j,q⟩:=fN p;have i:=hx.n x b;rw [q];refine ⟨o,fun e=> ?_,fun e=> ?_,fun e=> ?_,fun e=> ?_,fun e=> ?_,fun e=> ?_⟩
    . subst e;refine ⟨i.z,?_⟩;dsimp only;rcases j with j|j
      . rw [if_neg (by rw [j];decide)];exact i.v j
      rw [if_pos (by rw [j];decide)];exact i.lo j
    . subst e;exact ⟨i.z,i.a (by rcases j with e|e<;>exact e)⟩
    . refine ⟨i.z,i.mu ?_⟩;rcases e with e|e<;>subst e<;>rcases j with e|e<;>exact e
    . refine ⟨i.z,i.co ?_⟩;rcases e with e|e|e<;>subst e<;>rcases j with e|e<;>exact e
    . refine ⟨i.z,i.ch ?_⟩;rcases e with e|e<;>subst e<;>rcases j with e|e<;>exact e
    subst e;exact ⟨i.z,i.th (by rcases j with e|e<;>exact e)⟩
  rw [if_neg hz] at p|-;have r:(Kt k).1=0:=gK.1 hz;refine ⟨rfl,fun e=> ?_,fun e=> ?_,fun e=> ?_,fun e=> ?_,fun e=> ?_,fun e=> ?_⟩<;>exfalso<;>revert r
  . subst e;decide
  . subst e;decide
  . rcases e with e|e<;>subst e<;>decide
  . rcases e with e|e|e<;>subst e<;>decide
  . rcases e with e|e<;>subst e<;>decide
  subst e;decide
 obtain ⟨o,w2,w3,w4,y,w,w7⟩:=hw;obtain ⟨m,gs,gl⟩:=g;dsimp only at*;subst o;obtain ⟨l1,l2,l3⟩:=hx.l;refine ⟨p,?_⟩;unfold Fnd.own2 at h|-;split at h
 . rename_i j;rw [if_pos j];obtain ⟨e3,e4,_⟩:=Rz (show ((m.loc1 nm).loc2).flaw=0 from h);dsimp only;rw [e3];have hm:(m.loc3 nm).most=max m.most (m.locals+1):=rfl;have a0:(m.loc3 nm).locals=m.locals+1:=rfl;refine ⟨⟨fun x b=> ?_,⟨by omega,by omega,by omega⟩,hx.s⟩,by omega,rfl,?_⟩
   . rcases aW.1 (show x∈m.names++ [⟨nm,100,m.locals⟩] from b) with b|b
     . exact (hx.n x b).up (Cn.le_refl c) (by omega)
     rw [bJ.1 b];exact ⟨l1,fun e=>bD (show (100:Int)=1 from e) (by decide),fun e=>bD (show (100:Int)=2 from e) (by decide),fun e=>bD (show (100:Int)=3 from e) (by decide),fun e=>bD (show (100:Int)=4 from e) (by decide),fun e=>bD (show (100:Int)=5 from e) (by decide),fun e=>bD (show (100:Int)=6 from e) (by decide),fun _=>by dsimp only;omega⟩
   exact ⟨fun _=>⟨l1,by rw [if_pos rfl];omega⟩,fun e=>by omega,fun e=>by omega,fun e=>by omega,fun e=>by omega,fun e=>by omega,fun e=>by omega,fun e=>by omega⟩
 rename_i u;rw [if_neg u];split at h
 . rename_i j;rw [if_pos j];dsimp only at h|-;obtain ⟨o,x,b,d,q⟩:=fN h;rw [o,q];have i:=hx.n x b;exact ⟨hx,bX _,rfl,fun e=>by omega,fun e=>by omega,fun e=>by omega,fun e=>y (by omega),fun _=>⟨i.z,i.mu (by rcases d with e|e<;>exact e)⟩,fun e=>by omega,fun e=>by omega,fun e=>by omega⟩
 rename_i t;rw [if_neg t];split at h
 . rename_i j;rw [if_pos j];dsimp only at h|-;obtain ⟨o,x,b,d,q⟩:=fN h;rw [o,q];have i:=hx.n x b;refine ⟨hx,bX _,rfl,fun e=>by omega,fun e=>by omega,fun e=>by omega,fun e=>by omega,fun e=>by omega,fun e=>w (by omega),fun _=>⟨i.z,?_⟩,fun e=>by omega⟩;dsimp only;rcases d with d|d
   . rw [if_neg (by rw [d];decide)];exact i.v d
   rw [if_pos (by rw [d];decide)];have:=i.lo d;omega
 rename_i d;rw [if_neg d];dsimp only;exact ⟨hx,bX _,rfl,fun e=>(w2 (by omega)).up l2,w3,w4,fun e=>y (by omega),fun e=>by omega,fun e=>w (by omega),fun e=>by omega,w7⟩
theorem Cv {wt:ByteArray}{lo:Bool}(h:(f.own k nm wt sl ot lo).1.flaw=0):f.flaw=0:=by
 have a:(f.own1 k nm sl lo).1.flaw=0:=by
  unfold Fnd.own Fnd.own2 at h;split at h
  . exact (Rz (show (((f.own1 k nm sl lo).1.loc1 nm).loc2).flaw=0 from h)).2.2
  split at h
  . dsimp only at h;rw [<-(fN h).1];exact h
  split at h
  . dsimp only at h;rw [<-(fN h).1];exact h
  exact h
 unfold Fnd.own1 at a;split at a
 . dsimp only at a;rw [<-(fN a).1];exact a
 exact a
theorem Jz (l:List PStm)(f:Fnd)(h:(f.blk l).1.flaw=0):f.flaw=0:=by
 cases l with
 |nil=>exact h
 |cons s r=>
  simp only [Fnd.blk] at h;split at h
  . rename_i k;exact k
  exact h
mutual
/-- A statement that Check lets pass. -/
def PStm.raw:PStm->Prop
 | .mk k _ _ _ _ e ix body els _ _ _ _=>(1<=k/\k<=15)/\(k<=5\/k=11\/k=15->e.fit/\e.dep<=24)/\(k=3->ix.fit/\ix.dep<=24)/\(e.sz<=e.nd+1/\ix.sz<=ix.nd+1)/\Uv body/\Uv els
def Uv:List PStm->Prop
 | []=>True
 |s::r=>s.raw/\Uv r
end
mutual
theorem Ol {c:Cn}: ∀ (s:PStm) (f:Fnd),s.raw->(f.stmt s).1.flaw=0->Ctx c f->f.flaw=0/\Ctx c (f.stmt s).1/\f.most<=(f.stmt s).1.most/\(f.stmt s).2.wl c (f.stmt s).1.most
 | .mk k ln cl nm wt e ix body els id slot other loc,f,hr,h,hx=>by
  obtain ⟨r1,r2,r3,r4,r5,r6⟩:=hr;simp only [Fnd.stmt] at h|-;split at h
  . exact bD h (Wp (by decide))
  rename_i h5;rw [if_neg h5];dsimp only at h|-;obtain ⟨q,a⟩: ∃ g:Fnd,g= { f with stm:=f.stm+1 } :=⟨_,rfl⟩;rw [<-a] at h|-;obtain ⟨f1,o⟩:=lA (q.expr ix);rw [<-o] at h|-;obtain ⟨t,m⟩:=lA (f1.1.expr e);rw [<-m] at h|-;obtain ⟨r,j⟩:=lA (t.1.own k nm wt slot other loc);rw [<-j] at h|-;obtain ⟨f4,i⟩:=lA (r.1.blk body);rw [<-i] at h|-;obtain ⟨z,b⟩: ∃ g:Fnd,g= { f4.1 with names:=r.1.names,locals:=r.1.locals } :=⟨_,rfl⟩;rw [<-b] at h|-;obtain ⟨f5,d⟩:=lA (z.blk els);rw [<-d] at h|-;have q5:=Jz els z (by rw [<-d];exact h);have q4:f4.1.flaw=0:=by rw [b] at q5;exact q5
  have q3:r.1.flaw=0:=Jz body r.1 (by rw [<-i];exact q4);have q2:t.1.flaw=0:=Cv (by rw [<-j];exact q3);have p2:=Jp (c:=c) (lo:=f.locals) e f1.1 (by rw [<-m];exact q2);rw [<-m] at p2;have q1:f1.1.flaw=0:=by rw [<-p2.1];exact q2
  have p1:=Jp (c:=c) (lo:=f.locals) ix q (by rw [<-o];exact q1);rw [<-o] at p1;have x0:Ctx c q:=by rw [a];exact ⟨hx.n,hx.l,by have:=hx.s;dsimp only;omega⟩
  have e2:t.1=q:=p2.1.trans p1.1;have v: ∀ x∈q.names,NmOk c f.locals x:=by rw [a];exact hx.n
  have w1:=p1.2 v;have w2:=p2.2 (by rw [p1.1];exact v);have u:=Zq9 (c:=c) (f:=t.1) (k:=k) (sl:=slot) (ot:=other) (nm:=nm) (wt:=wt) (lo:=loc) (by rw [<-j];exact q3) (by rw [e2];exact x0);rw [<-j] at u;obtain ⟨o1,p,o3,o4,o5⟩:=u;have b4:=Ku (c:=c) body r.1 r5 (by rw [<-i];exact q4) p;rw [<-i] at b4;obtain ⟨b0,f0,d0⟩:=b4;have x4:Ctx c z:=by rw [b];exact ⟨p.n,⟨p.l.1,by have:=p.l.2.1;dsimp only;omega,b0.l.2.2⟩,b0.s⟩
  have b5:=Ku (c:=c) els z r6 (by rw [<-d];exact h) x4;rw [<-d] at b5;obtain ⟨a0,e0,c0⟩:=b5;have m4:z.most=f4.1.most:=by rw [b]
  have m2:t.1.most=f.most:=by rw [e2,a]
  have s2:t.1.stm=f.stm+1:=by rw [e2,a]
  have k1:=U5 ix q;have k2:=U5 e f1.1;rw [<-o] at k1;rw [<-m] at k2;have hl:=hx.l;have w:f.locals<=f5.1.most:=by omega
  refine ⟨by rw [e2,a] at o1;exact o1,⟨p.n,⟨p.l.1,by have:=p.l.2.1;dsimp only;omega,a0.l.2.2⟩,a0.s⟩,by (try dsimp only);omega,r1,fun y=>⟨k2.2.2 (r2 y).1,by rw [k2.2.1];exact (r2 y).2,Ht w w2⟩,fun y=>⟨k1.2.2 (r3 y).1,by rw [k1.2.1];exact (r3 y).2,Ht w w1⟩,⟨hx.s,by omega⟩,o5.up (by (try dsimp only);omega),K0 (by (try dsimp only);omega) d0,c0⟩
theorem Ku {c:Cn}: ∀ (l:List PStm) (f:Fnd),Uv l->(f.blk l).1.flaw=0->Ctx c f->Ctx c (f.blk l).1/\f.most<=(f.blk l).1.most/\Jn c (f.blk l).1.most (f.blk l).2
 | [],f,_,_,hx=>⟨hx,bX _,trivial⟩
 |s::r,f,hr,h,hx=>by
  simp only [Fnd.blk] at h|-;split at h
  . rename_i a;rw [if_pos a];have q:=Jz r (f.stmt s).1 h;obtain ⟨_,i,j,g⟩:=Ol (c:=c) s f hr.1 q hx;obtain ⟨e,d,b⟩:=Ku (c:=c) r (f.stmt s).1 hr.2 h i;exact ⟨e,by (try dsimp only);omega,G7 d g,b⟩
  rename_i a;exact bD h a
end
mutual
theorem Oi: ∀ (s:PStm) (f:Fnd),s.raw->(f.stmt s).2.wt<=14*s.nd
 | .mk k ln cl nm wt e ix body els id slot other loc,f,hr=>by
  obtain ⟨_,_,_,⟨h,g⟩,b,a⟩:=hr;simp only [Fnd.stmt];split
  . have j:=Qa body b;have i:=Qa els a;simp only [PStm.wt,M9];omega
  dsimp only;have d:=U5 ix { f with stm:=f.stm+1 };have c:=U5 e (Fnd.expr { f with stm:=f.stm+1 } ix).1;simp only [PStm.wt,M9,d.1,c.1];refine cL (Nat.add_le_add_left (Mh els _ a) _) (cL (Nat.add_le_add_right (Nat.add_le_add_left (Mh body _ b) _) _) ?_);omega
theorem Mh: ∀ (l:List PStm) (f:Fnd),Uv l->Vs (f.blk l).2<=14*Yz l
 | [],f,_=>bC _
 |s::r,f,hr=>by
  simp only [Fnd.blk];split
  . have b:=Oi s f hr.1;have a:=Mh r (f.stmt s).1 hr.2;simp only [Vs,Yz];omega
  simp [Vs]
theorem Oh: ∀ (s:PStm),s.raw->s.wt<=14*s.nd
 | .mk k ln cl nm wt e ix body els id slot other loc,hr=>by
  obtain ⟨_,_,_,⟨d,c⟩,b,a⟩:=hr;have g:=Qa body b;have f:=Qa els a;simp only [PStm.wt,M9];omega
theorem Qa: ∀ (l:List PStm),Uv l->Vs l<=14*Yz l
 | [],_=>bC _
 |s::r,hr=>by
  have b:=Oh s hr.1;have a:=Qa r hr.2;simp only [Vs,Yz];omega
end
mutual
theorem Qe: ∀ {e:PEx} {d:Nat},e.right d=true->e.sz=e.nd/\e.dep<=d
 | .mk k n nm _ _ op args,d,h=>by
  simp only [PEx.right] at h;split at h
  . cases h
  rename_i c;split at h
  . rename_i f;rw [aQ] at h
    have g:1<=d:=by
     unfold D9 at c;simp only [dX,not_or,bZ] at c;omega
    obtain ⟨a,b⟩:=Tg h.2;simp only [PEx.sz,PEx.nd,PEx.dep];rw [if_neg (by omega)];omega
  cases h
theorem Tg: ∀ {l:List PEx} {d:Nat},Wn l d=true->Jw l=Fj l/\Y2 l<=d
 | [],_,_=>⟨rfl,bC _⟩
 |e::r,d,h=>by
  simp only [Wn,aQ] at h;have b:=Qe h.1;have a:=Tg h.2;simp only [Jw,Fj,Y2];omega
end
theorem Cq (h:e.nil=true):e.sz<=e.nd+1:=by
 cases e with
 |mk k n nm s l op args=>
  simp only [PEx.nil,aQ,bZ] at h;have:args= []:=aP h.2;subst this;simp only [PEx.sz,Jw];omega
mutual
theorem L5: ∀ {s:PStm} {n:Nat},s.may n=true->s.raw
 | .mk k _ _ nm wt e ix body els _ _ _ _,n,h=>by
  simp only [PStm.may] at h;split at h;cases h
  rename_i f;split at h;cases h
  split at h;cases h
  rename_i c;split at h;cases h
  rw [aQ] at h;unfold Xm at f;simp only [dX,not_or,bZ] at f;unfold Ix at c;have b:Ct k=true->e.right 24=true:=fun b=>by cases hr:e.right 24 with|true=>rfl|false=>simp [b,hr] at c
  have g:Ct k=false->e.nil=true:=fun b=>by cases hr:e.nil with|true=>rfl|false=>simp [b,hr] at c
  have d:k=3->ix.right 24=true:=fun a=>by cases hr:ix.right 24 with|true=>rfl|false=>simp [a,hr] at c
  have i: ¬k=3->ix.nil=true:=fun a=>by cases hr:ix.nil with|true=>rfl|false=>simp [a,hr] at c
  refine ⟨by omega,fun a=> ?_,fun a=>⟨Hz (d a),(Qe (d a)).2⟩,⟨?_,?_⟩,Ve h.1,Ve h.2⟩
  . have:Ct k=true:=by unfold Ct;simp only [dX,bZ,dI];omega
    exact ⟨Hz (b this),(Qe (b this)).2⟩
  . cases a:Ct k with
    |true=>have:=(Qe (b a)).1;omega
    |false=>exact Cq (g a)
  by_cases a:k=3
  . have:=(Qe (d a)).1;omega
  exact Cq (i a)
theorem Ve: ∀ {l:List PStm} {n:Nat},Yo l n=true->Uv l
 | [],_,_=>trivial
 |s::r,n,h=>by
  simp only [Yo,aQ] at h;exact ⟨L5 h.1,Ve h.2⟩
end
structure DInv (f:Fnd):Prop where
 n: ∀ x∈f.names,NmOk f.cn 0 x
 l:f.locals=0/\f.stm=0
 k:f.names.length<=64/\f.vars.length<=f.names.length/\f.arrs.length<=f.names.length/\f.chs.length<=f.names.length/\f.ths.length<=f.names.length/\(0<=f.mu/\f.mu<=f.names.length)/\(0<=f.co/\f.co<=f.names.length)
 v: ∀ n∈f.vars, -2147483648<=n/\n<=2147483647
 a: ∀ n∈f.arrs,1<=n/\n<=256
 c: ∀ n∈f.chs,1<=n/\n<=16
 t: ∀ t∈f.ths,(1<=t.nm.size/\t.nm.size<=16)/\t.loc=0/\t.body= []
theorem Nj {α:Type}{φ:α->Prop}{l:List α}{x:α}(h: ∀ y∈l,φ y)(hx:φ x): ∀ y∈l++ [x],φ y:=by
 intro y a;rcases aW.1 a with a|a
 . exact h y a
 rw [bJ.1 a];exact hx
theorem DInv.z:DInv Fnd.z:=⟨fun x a=>(by cases a),⟨rfl,rfl⟩,by decide,fun x a=>(by cases a),fun x a=>(by cases a),fun x a=>(by cases a),fun x a=>(by cases a)⟩
theorem DInv.decl (h:DInv f)(hf:(f.decl d).flaw=0)(h0:f.flaw=0)(hk:1<=d.k/\d.k<=6)(hn:1<=d.nm.size/\d.nm.size<=16):DInv (f.decl d):=by
 have t: ∃ g s,f.decl d= { g with names:=f.names++ [⟨d.nm,d.k,s⟩] } /\g.names=f.names/\f.names.length<64/\g=(f.decl1 d).1/\s=(f.decl1 d).2.1/\(f.decl1 d).2.2=true:=by
  unfold Fnd.decl at hf|-;split at hf
  . exact bD hf (Wp (by decide))
  rename_i c1;rw [if_neg c1];split at hf
  . rename_i m;rw [Hw m] at hf;exact bD hf (Wp (by decide))
  rename_i m;rw [if_neg m]
  have v:(f.decl1 d).1.names=f.names:=by
   unfold Fnd.decl1;(repeat' split)<;>first|rfl|exact (f.fl_keep _).2.2.1
  split at hf
  . exact bD hf (Wp (by decide))
  rename_i w;rw [if_neg w];rw [v] at w;exact ⟨_,_,by rw [v],v,by omega,rfl,rfl,by revert m;cases (f.decl1 d).2.2<;>simp⟩
 obtain ⟨g,s,e1,e2,e3,b,a,l⟩:=t;rw [e1];obtain ⟨z,r,i3,q,p,o,n⟩:=h;have j:d.k=1\/d.k=2\/d.k=3\/d.k=4\/d.k=5\/d.k=6:=by omega
 have i: ∀ {c:Cn},f.cn.le c->NmOk c 0 ⟨d.nm,d.k,s⟩-> ∀ x∈f.names++ [⟨d.nm,d.k,s⟩],NmOk c 0 x:=fun u ho=>Nj (fun y hy=>(z y hy).up u (bX _)) ho
 unfold Fnd.decl1 at b a l;rcases j with j|j|j|j|j|j 
 . rw [if_pos j] at b a l;split at l
   . cases l
   rename_i m;rw [if_neg m] at b a;subst b;subst a;refine ⟨i ⟨by simp [Fnd.cn]<;>omega,bX _,bX _,bX _,bX _,bX _⟩ ⟨by simp,fun _=>by simp [Fnd.cn]<;>omega,?_,?_,?_,?_,?_,?_⟩,r,by simp;omega,Nj q (by omega),p,o,n⟩<;>(intro e;have e:d.k=_:=e;omega)
 . rw [if_neg (by omega),if_pos j] at b a l;split at l
   . cases l
   rename_i m;rw [if_neg m] at b a;subst b;subst a;refine ⟨i ⟨bX _,by simp [Fnd.cn]<;>omega,bX _,bX _,bX _,bX _⟩ ⟨by simp,?_,fun _=>by simp [Fnd.cn]<;>omega,?_,?_,?_,?_,?_⟩,r,by simp;omega,q,Nj p (by omega),o,n⟩<;>(intro e;have e:d.k=_:=e;omega)
 . rw [if_neg (by omega),if_neg (by omega),if_pos j] at b a l;subst b;subst a;refine ⟨i ⟨bX _,bX _,by simp [Fnd.cn]<;>omega,bX _,bX _,bX _⟩ ⟨by dsimp only;omega,?_,?_,fun _=>by simp [Fnd.cn]<;>omega,?_,?_,?_,?_⟩,r,by simp;omega,q,p,o,n⟩<;>(intro e;have e:d.k=_:=e;omega)
 . rw [if_neg (by omega),if_neg (by omega),if_neg (by omega),if_pos j] at b a l;subst b;subst a;refine ⟨i ⟨bX _,bX _,bX _,by simp [Fnd.cn]<;>omega,bX _,bX _⟩ ⟨by dsimp only;omega,?_,?_,?_,fun _=>by simp [Fnd.cn]<;>omega,?_,?_,?_⟩,r,by simp;omega,q,p,o,n⟩<;>(intro e;have e:d.k=_:=e;omega)
 . rw [if_neg (by omega),if_neg (by omega),if_neg (by omega),if_neg (by omega),if_pos j] at b a l;split at l
   . cases l
   rename_i m;rw [if_neg m] at b a;subst b;subst a;refine ⟨i ⟨bX _,bX _,bX _,bX _,by simp [Fnd.cn]<;>omega,bX _⟩ ⟨by simp,?_,?_,?_,?_,fun _=>by simp [Fnd.cn]<;>omega,?_,?_⟩,r,by simp;omega,q,p,Nj o (by omega),n⟩<;>(intro e;have e:d.k=_:=e;omega)
 rw [if_neg (by omega),if_neg (by omega),if_neg (by omega),if_neg (by omega),if_neg (by omega),if_pos j] at b a l;subst b;subst a;refine ⟨i ⟨bX _,bX _,bX _,bX _,bX _,by simp [Fnd.cn]<;>omega⟩ ⟨by simp,?_,?_,?_,?_,?_,fun _=>by simp [Fnd.cn]<;>omega,?_⟩,r,by simp;omega,q,p,o,Nj n ⟨hn,rfl,rfl⟩⟩<;>(intro e;have e:d.k=_:=e;omega)
theorem DInv.decls: ∀ {ds:List PDec} {f:Fnd},DInv f->(∀ d∈ds,(1<=d.k/\d.k<=6)/\(1<=d.nm.size/\d.nm.size<=16))->(f.decls ds).flaw=0->DInv (f.decls ds)
 | [],_,h,_,_=>h
 |d::r,f,h,hd,hf=>by
  unfold Fnd.decls at hf|-;split at hf
  . rename_i a;rw [if_pos a]
    have b:(f.decl d).flaw=0:=by
     cases r with
     |nil=>exact hf
     |cons x r=>
      unfold Fnd.decls at hf;split at hf
      . assumption
      exact hf
    exact DInv.decls (h.decl b a (hd d (cA ..)).1 (hd d (cA ..)).2) (fun x c=>hd x (cX _ c)) hf
  rename_i a;exact bD hf a
structure ThW (P:List PStm->Prop) (c:Cn) (t:PTh):Prop where
 n:1<=t.nm.size/\t.nm.size<=16
 l:0<=t.loc/\t.loc<=32
 b:Jn c t.loc t.body
 p:P t.body
structure BInv (P:List PStm->Prop) (d f:Fnd):Prop where
 e:f.vars=d.vars/\f.arrs=d.arrs/\f.chs=d.chs/\f.mu=d.mu/\f.co=d.co/\f.ths.length=d.ths.length/\f.names=d.names
 n: ∀ x∈d.names,NmOk d.cn 0 x
 l:f.locals=0/\0<=f.stm
 t: ∀ t∈f.ths,ThW P d.cn t
theorem BInv.bodies {P:List PStm->Prop}{d:Fnd}: ∀ {bs:List (List PStm)} {i:Nat} {f:Fnd},(∀ b∈bs,Uv b/\ ∀ g,P (Fnd.blk g b).2)->BInv P d f->(f.bodies i bs).flaw=0->BInv P d (f.bodies i bs)
 | [],_,_,_,h,_=>h
 |b::r,i,f,hb,h,hf=>by
  unfold Fnd.bodies at hf|-;split at hf
  . rename_i o;rw [if_pos o];dsimp only at hf|-;obtain ⟨g,hg⟩:=lA (Fnd.block { f with most:=0 } b);rw [<-hg] at hf|-;obtain ⟨q,j⟩:=lA (Fnd.blk { f with most:=0 } b);have k:g=({ q.1 with names:=f.names,locals:=f.locals },q.2):=by rw [hg,j];rfl
    have fl:g.1.flaw=0:=by
     cases r with
     |nil=>exact hf
     |cons x r=>
      unfold Fnd.bodies at hf;split at hf
      . assumption
      exact hf
    have p:q.1.flaw=0:=by rw [k] at fl;exact fl
    have v:=gM b { f with most:=0 };rw [<-j] at v;obtain ⟨t1,t2,t3,z,y,m,_⟩:=v.e;dsimp only at t1 t2 t3 z y m;obtain ⟨j1,j2,j3,j4,j5,j6,j7⟩:=h.e;have cx:Ctx d.cn { f with most:=0 } :=⟨by dsimp only;rw [j7,h.l.1];exact h.n,by dsimp only;rw [h.l.1];decide,h.l.2⟩;have w:=Ku (c:=d.cn) b { f with most:=0 } (hb b (cA ..)).1 (by rw [<-j];exact p) cx;have hp:=(hb b (cA ..)).2 { f with most:=0 };rw [<-j] at w hp;obtain ⟨w1,u,w3⟩:=w;dsimp only at u;refine BInv.bodies (fun x hx=>hb x (cX _ hx)) ⟨?_,h.n,?_,?_⟩ hf
    . rw [k];dsimp only;rw [bG,m];exact ⟨t1.trans j1,t2.trans j2,y.trans j3,t3.trans j4,z.trans j5,j6,j7⟩
    . rw [k];exact ⟨h.l.1,w1.s⟩
    rw [k];dsimp only;rw [m];intro t a;by_cases hi:i<f.ths.length
    . rcases bR a with a|a
      . exact h.t t a
      rw [a,bS,aH hi];exact ⟨(h.t _ (aA hi)).n,⟨u,w1.l.2.2⟩,w3,hp⟩
    rw [jL (by omega)] at a;exact h.t t a
  rename_i o;exact bD hf o
structure PrgOk (P:List PStm->Prop) (F:Fnd):Prop where
 k:F.vars.length<=64/\F.arrs.length<=64/\F.chs.length<=64/\F.ths.length<=64/\(0<=F.mu/\F.mu<=64)/\(0<=F.co/\F.co<=64)
 v: ∀ n∈F.vars, -2147483648<=n/\n<=2147483647
 a: ∀ n∈F.arrs,1<=n/\n<=256
 c: ∀ n∈F.chs,1<=n/\n<=16
 t: ∀ t∈F.ths,ThW P F.cn t
 m:0<=F.main/\F.main<F.ths.length
theorem bad_nm (h:d.bad=false):1<=d.nm.size/\d.nm.size<=16:=by
 unfold PDec.bad Xn at h;simp only [eX,dD,iB] at h;obtain ⟨⟨⟨⟨⟨⟨⟨⟨_,_⟩,b⟩,_⟩,_⟩,_⟩,_⟩,_⟩,_⟩:=h;have a:nmS (bs d.nm)=true:=by simpa using b
 unfold nmS at a;split at a
 . cases a
 rename_i c;have e:(bs d.nm).length=d.nm.size:=H5 d.nm;omega
theorem Zjf (h:d.bad=false):Uv d.body:=by
 unfold PDec.bad Xn at h;simp only [eX,dD,iB] at h;exact Ve h.2
theorem Ir {P:List PStm->Prop}(h:Ej ds=some F)(h0:P [])(hP: ∀ d∈ds,d.bad=false-> ∀ g,P (Fnd.blk g d.body).2):PrgOk P F:=by
 unfold Ej at h;split at h
 . cases h
 rename_i a0
 have o: ∀ d∈ds,d.bad=false:=fun d w=>by
  cases hb:d.bad with
  |false=>rfl
  |true=>exact bD (kC.2 ⟨d,w,hb⟩) a0
 dsimp only at h;obtain ⟨f,hf⟩:=lA (Fnd.decls .z ds);rw [<-hf] at h;obtain ⟨f1,m⟩: ∃ f1,f1=(if f.flaw=0/\(f.at Jr=0\/((f.names.map (·.k)).getD (f.at Jr - 1) 0)≠6) then f.fl 133 else f):=⟨_,rfl⟩;rw [<-m] at h;obtain ⟨bs,y⟩:=lA ((ds.filter fun d=>d.k==6).map (·.body));rw [<-y] at h;by_cases hfl:(f1.bodies 0 bs).flaw≠0
 . rw [if_pos hfl] at h;cases h
 rw [if_neg hfl] at h
 cases h
 have j:=gK.1 hfl
 have u:f1.flaw=0:=by
  cases bs with
  |nil=>exact j
  |cons x r=>
   unfold Fnd.bodies at j;split at j
   . assumption
   exact j
 have hm:f1=f/\f.flaw=0/\f.at Jr≠0/\((f.names.map (·.k)).getD (f.at Jr - 1) 0)=6:=by
  split at m
  . rw [m] at u;exact bD u (Wp (by decide))
  rename_i hn;rw [m] at u;refine ⟨m,u,fun k=>hn ⟨u,.inl k⟩,Decidable.byContradiction fun k=>hn ⟨u,.inr k⟩⟩
 obtain ⟨e1,z2,m1,m2⟩:=hm
 have D:DInv f:=by
  rw [hf];exact DInv.decls .z (fun d w=>⟨(Lp (o d w)).1,bad_nm (o d w)⟩) (by rw [<-hf];exact z2)
 rw [e1] at j|-
 have B:=BInv.bodies (P:=P) (d:=f) (bs:=bs) (i:=0) (f:=f) (fun b hb=>by
  rw [y] at hb;obtain ⟨d,w,rfl⟩:=cI.1 hb;have q:=(gB.1 w).1
  exact ⟨Zjf (o d q),hP d q (o d q)⟩) ⟨⟨rfl,rfl,rfl,rfl,rfl,rfl,rfl⟩,D.n,⟨D.l.1,by rw [D.l.2];decide⟩,fun t ht=>by
   obtain ⟨a,b,c⟩:=D.t t ht;exact ⟨a,by omega,by rw [c];trivial,by rw [c];exact h0⟩⟩ j
 obtain ⟨g,hg⟩:=lA (f.bodies 0 bs);rw [<-hg] at B|-;obtain ⟨b1,b2,b3,b4,b5,b6,b7⟩:=B.e;have cn:Fnd.cn { g with main:=(g.names.map (·.s)).getD (f.at Jr - 1) 0 } =f.cn:=by unfold Fnd.cn;dsimp only;rw [b1,b2,b3,b4,b5,b6]
 obtain ⟨k1,k2,k3,k4,k5,k6,k7⟩:=D.k;refine ⟨?_,by dsimp only;rw [b1];exact D.v,by dsimp only;rw [b2];exact D.a,by dsimp only;rw [b3];exact D.c,by rw [cn];exact B.t,?_⟩
 . dsimp only;rw [b1,b2,b3,b4,b5,b6];omega
 have p:f.at Jr - 1<f.names.length:=by
  have:f.at Jr<=f.names.length:=Hn;omega
 have e6:f.names[f.at Jr - 1].k=6:=by
  rw [bS,eR,aH p] at m2;exact m2
 have ho:=D.n _ (aA p);dsimp only;rw [b7,bS,eR,aH p,b6];exact ⟨ho.z,ho.th e6⟩
theorem Zkg {l:Bs}(h:J7 l=some ds):(ds.map fun d=>Yz d.body+1).sum<=l.length/\l.length<=65536:=by
 unfold J7 at h;split at h
 . cases h
 rename_i i;split at h
 . cases h
 rename_i e b;split at h
 . cases h
 rename_i c a;split at h
 . cases h
 cases h
 have g:=(H1 b).1;have f:=(Re (aY _) a).1;omega
theorem text_prg {l:Bs}(h:Hg l=some F):PrgOk (fun b=>Vs b<=14*l.length) F/\l.length<=65536:=by
 unfold Hg at h;split at h
 . cases h
 rename_i ds c;obtain ⟨n,j⟩:=Zkg c;refine ⟨Ir h (bC _) fun d a e g=> ?_,j⟩;have m:=Mh d.body g (Zjf e);have i:=Pl (f:=fun d:PDec=>Yz d.body+1) a;have k:Yz d.body+1<=(ds.map fun d=>Yz d.body+1).sum:=i;show Vs (Fnd.blk g d.body).2<=14*l.length
 omega
theorem Mf (f:Fnd)(w:Int):(f.fl w).stm=f.stm:=by unfold Fnd.fl;split<;>rfl
theorem Hv (f:Fnd)(s:ByteArray)(a b:Int):(f.wants s a b).1.stm=f.stm:=by
 unfold Fnd.wants;split
 . exact Mf _ _
 dsimp only;split
 . exact Mf _ _
 rfl
theorem Oo (f:Fnd)(k sl ot:Int)(nm wt:ByteArray)(lo:Bool):(f.own k nm wt sl ot lo).1.stm=f.stm:=by
 have a:(f.own1 k nm sl lo).1.stm=f.stm:=by
  unfold Fnd.own1;split
  . exact Hv _ _ _ _
  rfl
 unfold Fnd.own Fnd.own2;split
 . show (((f.own1 k nm sl lo).1.loc1 nm).loc2).stm=_
   have b:((f.own1 k nm sl lo).1.loc1 nm).stm=f.stm:=by
    unfold Fnd.loc1;split
    . rw [Mf,a]
    exact a
   unfold Fnd.loc2;split
   . rw [Mf,b]
   exact b
 split
 . exact (Hv _ _ _ _).trans a
 split
 . exact (Hv _ _ _ _).trans a
 exact a
mutual
theorem T6 {c:Cn}{lo:Int}: ∀ {e:PEx} {d:Nat},e.fit->e.dep<=d->e.wl c lo->e.ask c lo d=true
 | .mk k n nm slot loc op args,d,⟨h1,h2,h3,h4,h5⟩,hd,⟨w1,w2,w3⟩=>by
  simp only [PEx.dep] at hd;simp only [PEx.ask,aQ,bZ];refine ⟨⟨by omega,?_⟩,?_⟩
  . rw [h2];unfold U3 U2 inB;have g:k=1\/k=2\/k=3\/k=4\/k=5\/k=6:=by omega
    rcases g with rfl|rfl|rfl|rfl|rfl|rfl
    . have:=h3 rfl;rw [if_pos rfl,if_pos (show val n from ⟨by omega,by omega⟩)];rfl
    . obtain ⟨a,b⟩:=w1 rfl;rw [if_neg (by decide),if_pos rfl,if_pos]
      . rfl
      rw [bZ];refine ⟨a,?_⟩;split
      . rename_i f;rw [if_pos f] at b;exact b
      rename_i f;rw [if_neg f] at b;exact b
    . have:=w2 rfl;rw [if_neg (by decide),if_neg (by decide),if_pos rfl,if_pos (by rw [bZ];exact this)];rfl
    . rfl
    . rfl
    have:=h4 rfl;rw [if_neg (by decide),if_neg (by decide),if_neg (by decide),if_neg (by decide),if_pos rfl,if_pos (by omega)];rfl
  have:=Ed (c:=c) (lo:=lo) (d:=d - 1) h5 (by omega) w3;rwa [show ((d - 1:Nat):Int)=(d:Int) - 1 by omega] at this
theorem Ed {c:Cn}{lo:Int}: ∀ {l:List PEx} {d:Nat},PEx.fits l->Y2 l<=d->N1 c lo l->Kh c lo l d=true
 | [],_,_,_,_=>rfl
 |e::r,d,⟨h1,h2⟩,hd,⟨w1,w2⟩=>by
  simp only [Y2] at hd;simp only [Kh,aQ];exact ⟨T6 h1 (by omega) w1,Ed h2 (by omega) w2⟩
end
theorem slotB_of {slot other:Int}{loc:Bool}(hk:1<=k/\k<=15)(h:ownOk c lo k slot other loc)(hl:k=1->loc=true):Ry c lo k slot other loc=true:=by
 obtain ⟨j,p,i,e,o,g,m,l⟩:=h
 have f: ∀ {s:Int},vaOk c lo s loc->U2 c lo s loc=true:=fun {s} h=>by
  unfold U2 inB vaOk at*;rw [bZ];refine ⟨h.1,?_⟩;have:=h.2;split
  . rename_i hl;rw [if_pos hl] at this;exact this
  rename_i hl;rw [if_neg hl] at this;exact this
 have a: ∀ {n d:Int},0<=n/\n<d->inB n d=true:=fun h=>by unfold inB;exact aR h
 have b:k=1\/k=2\/k=3\/k=4\/k=5\/k=6\/k=7\/k=8\/k=9\/k=10\/k=11\/k=12\/k=13\/k=14\/k=15:=by omega
 unfold Ry;rcases b with rfl|rfl|rfl|rfl|rfl|rfl|rfl|rfl|rfl|rfl|rfl|rfl|rfl|rfl|rfl
 . rw [if_pos rfl,hl rfl,<-hl rfl,f (j (.inl rfl)),hl rfl];rfl
 . exact f (j (.inr rfl))
 . exact a (p rfl)
 . rfl
 . rfl
 . exact a (i (.inl rfl))
 . exact a (i (.inr rfl))
 . exact Bool.and_eq_true_iff.2 ⟨a (e (.inl rfl)),a (o rfl)⟩
 . exact a (e (.inr (.inl rfl)))
 . exact a (e (.inr (.inr rfl)))
 . exact a (g (.inl rfl))
 . exact Bool.and_eq_true_iff.2 ⟨a (g (.inr rfl)),f (m rfl)⟩
 . exact a (l rfl)
 . rfl
 rfl
theorem partB_of {ix:PEx}{nb ne:Nat}(hm:Xh k nb ne=false)(he:k<=5\/k=11\/k=15->e.ask c lo 24=true)(hx:k=3->ix.ask c lo 24=true):Ru c lo k e ix nb ne=true:=by
 unfold Xh at hm;unfold Ru;simp only [eX,Bool.and_eq_false_iff,gW,dD] at hm;simp only [aQ,dX,bZ,fL,dD,dI,gL,ne_eq];obtain ⟨a,b⟩:=hm;refine ⟨⟨⟨?_,?_⟩,?_⟩,?_⟩
 . rcases a with (a|a)|a
   . exact .inl (.inl a)
   . exact .inl (.inr a)
   exact .inr a
 . rcases b with b|b
   . exact .inl b
   exact .inr b
 . by_cases hk:k=3
   . exact .inr (hx hk)
   exact .inl hk
 by_cases hk:k<=5\/k=11\/k=15
 . exact .inr (he hk)
 exact .inl (by omega)
mutual
theorem Sz {c:Cn}{lo:Int}: ∀ (s:PStm) (f:Fnd) (d:Nat),s.may d=true->(f.stmt s).1.flaw=0->0<=f.stm->(f.stmt s).2.wl c lo->(f.stmt s).2.ask c lo d f.stm=some (f.stmt s).1.stm/\0<=(f.stmt s).1.stm
 | .mk k ln cl nm wt e ix body els id slot other loc,f,d,hm,h,hz,hw=>by
  simp only [PStm.may] at hm;split at hm;cases hm
  rename_i m1;split at hm;cases hm
  split at hm;cases hm
  split at hm;cases hm
  rename_i m4;rw [aQ] at hm;unfold Xm at m1;simp only [dX,not_or,bZ] at m1;simp only [Fnd.stmt] at h hw|-;split at h
  . exact bD h (Wp (by decide))
  rename_i h5;rw [if_neg h5] at hw|-;dsimp only at h hw|-;obtain ⟨g0,r⟩: ∃ g:Fnd,g= { f with stm:=f.stm+1 } :=⟨_,rfl⟩;rw [<-r] at h hw|-;obtain ⟨y,o⟩:=lA (g0.expr ix);rw [<-o] at h hw|-;obtain ⟨f2,n⟩:=lA (y.1.expr e);rw [<-n] at h hw|-;obtain ⟨p,l⟩:=lA (f2.1.own k nm wt slot other loc);rw [<-l] at h hw|-;obtain ⟨x,j⟩:=lA (p.1.blk body);rw [<-j] at h hw|-;obtain ⟨v,m⟩: ∃ g:Fnd,g= { x.1 with names:=p.1.names,locals:=p.1.locals } :=⟨_,rfl⟩;rw [<-m] at h hw|-;obtain ⟨f5,i⟩:=lA (v.blk els);rw [<-i] at h hw|-;have q5:=Jz els v (by rw [<-i];exact h);have q4:x.1.flaw=0:=by rw [m] at q5;exact q5
  have q3:p.1.flaw=0:=Jz body p.1 (by rw [<-j];exact q4);have q2:f2.1.flaw=0:=Cv (by rw [<-l];exact q3);have w:=(Jp (c:=c) (lo:=lo) e y.1 (by rw [<-n];exact q2)).1;rw [<-n] at w;have q1:y.1.flaw=0:=by rw [<-w];exact q2
  have p1:=(Jp (c:=c) (lo:=lo) ix g0 (by rw [<-o];exact q1)).1;rw [<-o] at p1;have s3:p.1.stm=f.stm+1:=by rw [l,Oo,w,p1,r]
  obtain ⟨w1,w2,w3,w4,w5,w6,w7⟩:=hw;have b4:=K5 (c:=c) (lo:=lo) body p.1 (d+1) hm.1 (by rw [<-j];exact q4) (by omega) (by rw [<-j];exact w6);rw [<-j,s3] at b4;obtain ⟨u,c0,d0⟩:=b4;have s4:v.stm=x.1.stm:=by rw [m]
  have b5:=K5 (c:=c) (lo:=lo) els v (d+1) hm.2 (by rw [<-i];exact h) (by omega) (by rw [<-i];exact w7);rw [<-i,s4] at b5;obtain ⟨t,b0,a0⟩:=b5;refine ⟨?_,a0⟩;simp only [PStm.ask];rw [if_neg (by omega),if_pos]
  . have e1:((d+1:Nat):Int)=(d:Int)+1:=by omega
    rw [e1] at u t;rw [u];exact t
  rw [aQ];refine ⟨partB_of (by rw [c0,b0];simpa using m4) (fun q=> ?_) (fun q=> ?_),slotB_of w1 w5 (fun q=>by subst q;rw [l];rfl)⟩
  . obtain ⟨a,b,z⟩:=w2 q;exact T6 (d:=24) a b z
  obtain ⟨a,b,z⟩:=w3 q;exact T6 (d:=24) a b z
theorem K5 {c:Cn}{lo:Int}: ∀ (l:List PStm) (f:Fnd) (d:Nat),Yo l d=true->(f.blk l).1.flaw=0->0<=f.stm->Jn c lo (f.blk l).2->Yf c lo (f.blk l).2 d f.stm=some (f.blk l).1.stm/\(f.blk l).2.length=l.length/\0<=(f.blk l).1.stm
 | [],f,d,_,_,hz,_=>⟨rfl,rfl,hz⟩
 |s::r,f,d,hm,h,hz,hw=>by
  simp only [Yo,aQ] at hm;simp only [Fnd.blk] at h hw|-;split at h
  . rename_i e;rw [if_pos e] at hw|-;obtain ⟨w1,g⟩:=hw;have a:=Sz (c:=c) (lo:=lo) s f d hm.1 (Jz r _ h) hz w1;have b:=K5 (c:=c) (lo:=lo) r (f.stmt s).1 d hm.2 h a.2 g;refine ⟨?_,by simp [b.2.1],b.2.2⟩;simp only [Yf];rw [a.1];exact b.1
  rename_i e;exact bD h e
end
theorem Tx {c:Cn}{t:PTh}{m k:Int}: ∀ {l:List PTh} {n:Int},Va c l n=some m->(0<=t.loc/\t.loc<=32)->Yf c t.loc t.body 1 m=some k->Va c (l++ [t]) n=some k
 | [],n,h,ht,hk=>by
  cases h
  simp only [aN,Va];rw [if_neg (by omega),hk]
 |x::r,n,h,ht,hk=>by
  simp only [Va] at h;simp only [eH,Va];split at h
  . cases h
  rename_i a;rw [if_neg a];split at h
  . cases h
  rename_i j b;exact Tx h ht hk
theorem BInv.next {d:Fnd}{b:List PStm}(hb:Uv b)(h:BInv (fun _=>True) d f)(hf:(f.bodies i [b]).flaw=0):BInv (fun _=>True) d (f.bodies i [b]):=
 BInv.bodies (fun x a=>by rw [bJ.1 a];exact ⟨hb,fun _=>trivial⟩) h hf
theorem Km {r:List (List PStm)}(h:(f.bodies i r).flaw=0):f.flaw=0:=by
 cases r with
 |nil=>exact h
 |cons x r=>
  unfold Fnd.bodies at h;split at h
  . assumption
  exact h
theorem Nn {d:Fnd}: ∀ {bs:List (List PStm)} {i:Nat} {f:Fnd},(∀ b∈bs,Yo b 1=true)->BInv (fun _=>True) d f->f.ths.length=i+bs.length->Va d.cn (f.ths.take i) 0=some f.stm->(f.bodies i bs).flaw=0->Va d.cn (f.bodies i bs).ths 0=some (f.bodies i bs).stm
 | [],i,f,_,_,hl,ha,_=>by
  rw [aL,iL] at hl;rw [<-hl,cG] at ha;exact ha
 |b::r,i,f,hb,h,hl,ha,hf=>by
  have o:=Km hf
  have e0:f.bodies i (b::r)=(f.bodies i [b]).bodies (i+1) r:=by
   conv=>lhs;unfold Fnd.bodies
   conv=>rhs;arg 1;unfold Fnd.bodies
   rw [if_pos o,if_pos o];dsimp only;rw [show ∀ (g:Fnd) (j:Nat),g.bodies j []=g from fun _ _=>rfl]
  rw [e0] at hf|-;have p:=Km hf;have m:=hb b (cA ..);have hn:=BInv.next (Ve m) h p
  have u:f.bodies i [b]= { (Fnd.blk { f with most:=0 } b).1 with names:=f.names,locals:=f.locals,ths:=(Fnd.blk { f with most:=0 } b).1.ths.set i ⟨((Fnd.blk { f with most:=0 } b).1.ths.getD i ⟨em,0, []⟩).nm,(Fnd.blk { f with most:=0 } b).1.most,(Fnd.blk { f with most:=0 } b).2⟩ } :=by
   unfold Fnd.bodies;rw [if_pos o];rfl
  obtain ⟨q,k⟩:=lA (Fnd.blk { f with most:=0 } b);rw [<-k] at u;have v:=gM b { f with most:=0 };rw [<-k] at v;obtain ⟨t1,t2,t3,t4,t5,t,_⟩:=v.e;dsimp only at t;have s:q.1.flaw=0:=by rw [u] at p;exact p
  obtain ⟨j1,j2,j3,j4,j5,j6,j7⟩:=h.e;have cx:Ctx d.cn { f with most:=0 } :=⟨by dsimp only;rw [j7,h.l.1];exact h.n,by dsimp only;rw [h.l.1];decide,h.l.2⟩;have w:=Ku (c:=d.cn) b { f with most:=0 } (Ve m) (by rw [<-k];exact s) cx;rw [<-k] at w;obtain ⟨w1,z,y⟩:=w;have a:=K5 (c:=d.cn) (lo:=q.1.most) b { f with most:=0 } 1 m (by rw [<-k];exact s) h.l.2 (by rw [<-k];exact y);rw [<-k] at a;have hi:i<q.1.ths.length:=by rw [t,hl];simp
  refine Nn (fun x hx=>hb x (cX _ hx)) hn ?_ ?_ hf
  . rw [u];dsimp only;rw [bG,t,hl];simp;omega
  rw [u];dsimp only;rw [aI (by rw [bG];exact hi),List.take_set_of_le (aY i),cZ,t];exact Tx ha ⟨z,w1.l.2.2⟩ a.1
theorem C0 (l:List Int)(x:Int):Yl (l++ [x])=Yl l+x:=by
 induction l with
 |nil=>simp [Yl]
 |cons y r ih=>simp only [Yl,eH,List.foldr_cons] at ih|-;omega
structure DNum (f:Fnd):Prop where
 n:f.vars.length+f.arrs.length+f.mu+f.co+f.chs.length+f.ths.length=f.names.length
 s:Yl f.arrs=f.cells/\f.cells<=256
 k:f.nv.length<=f.names.length/\f.na.length<=f.names.length/\f.nm.length<=f.names.length/\f.nc.length<=f.names.length/\f.nh.length<=f.names.length
theorem DNum.z:DNum Fnd.z:=⟨rfl,⟨rfl,by decide⟩,by decide⟩
theorem DNum.decl (h:DNum f)(hf:(f.decl d).flaw=0)(hk:1<=d.k/\d.k<=6):DNum (f.decl d):=by
 have i: ∃ g s,f.decl d= { g with names:=f.names++ [⟨d.nm,d.k,s⟩] } /\g=(f.decl1 d).1/\(f.decl1 d).2.2=true:=by
  unfold Fnd.decl at hf|-;split at hf
  . exact bD hf (Wp (by decide))
  rename_i p;rw [if_neg p];split at hf
  . rename_i e;rw [Hw e] at hf;exact bD hf (Wp (by decide))
  rename_i e;rw [if_neg e]
  have m:(f.decl1 d).1.names=f.names:=by
   unfold Fnd.decl1;(repeat' split)<;>first|rfl|exact (f.fl_keep _).2.2.1
  split at hf
  . exact bD hf (Wp (by decide))
  rename_i o;rw [if_neg o];exact ⟨_,_,by rw [m],rfl,by revert e;cases (f.decl1 d).2.2<;>simp⟩
 obtain ⟨g,s,n,a,c⟩:=i;rw [n];obtain ⟨w,⟨j,l⟩,v,u,t,r,q⟩:=h;have b:d.k=1\/d.k=2\/d.k=3\/d.k=4\/d.k=5\/d.k=6:=by omega
 unfold Fnd.decl1 at a c;rcases b with b|b|b|b|b|b
 focus
  rw [if_pos b] at a c;split at c
  . cases c
  rename_i e;rw [if_neg e] at a;subst a
 rotate_left
 . rw [if_neg (by omega),if_pos b] at a c;split at c
   . cases c
   rename_i e;rw [if_neg e] at a;subst a;exact ⟨by simp;omega,⟨by dsimp only;rw [C0,j],by dsimp only;omega⟩,by simp;omega⟩
 focus
  rw [if_neg (by omega),if_neg (by omega),if_pos b] at a c;subst a
 rotate_left
 focus
  rw [if_neg (by omega),if_neg (by omega),if_neg (by omega),if_pos b] at a c;subst a
 rotate_left
 focus
  rw [if_neg (by omega),if_neg (by omega),if_neg (by omega),if_neg (by omega),if_pos b] at a c;split at c
  . cases c
  rename_i e;rw [if_neg e] at a;subst a
 rotate_left
 focus
  rw [if_neg (by omega),if_neg (by omega),if_neg (by omega),if_neg (by omega),if_neg (by omega),if_pos b] at a c;subst a
 all_goals
  exact ⟨by simp;omega,⟨j,l⟩,by simp;omega⟩
theorem DNum.decls: ∀ {ds:List PDec} {f:Fnd},DNum f->(∀ d∈ds,1<=d.k/\d.k<=6)->(f.decls ds).flaw=0->DNum (f.decls ds)
 | [],_,h,_,_=>h
 |d::r,f,h,hd,hf=>by
  unfold Fnd.decls at hf|-;split at hf
  . rename_i a;rw [if_pos a]
    have c:(f.decl d).flaw=0:=by
     cases r with
     |nil=>exact hf
     |cons x r=>
      unfold Fnd.decls at hf;split at hf
      . assumption
      exact hf
    exact DNum.decls (h.decl c (hd d (cA ..))) (fun x b=>hd x (cX _ b)) hf
  rename_i a;exact bD hf a
theorem Tm: ∀ {ds:List PDec} {f:Fnd},f.flaw=0->(f.decls ds).flaw=0->(f.decls ds).ths.length=f.ths.length+(ds.filter fun d=>d.k==6).length
 | [],_,_,_=>rfl
 |d::r,f,h0,hf=>by
  unfold Fnd.decls at hf|-;rw [if_pos h0] at hf|-
  have a:(f.decl d).flaw=0:=by
   cases r with
   |nil=>exact hf
   |cons x r=>
    unfold Fnd.decls at hf;split at hf
    . assumption
    exact hf
  rw [Tm a hf,Mg h0 a,List.filter_cons];by_cases hk:d.k=6
  . rw [if_pos hk,if_pos (by simpa using hk),cC];omega
  rw [if_neg hk,if_neg (by simpa using hk)];omega
theorem Mr: ∀ {bs:List (List PStm)} {i:Nat} {f:Fnd},(f.bodies i bs).nv=f.nv/\(f.bodies i bs).na=f.na/\(f.bodies i bs).nm=f.nm/\(f.bodies i bs).nc=f.nc/\(f.bodies i bs).nh=f.nh
 | [],_,_=>⟨rfl,rfl,rfl,rfl,rfl⟩
 |b::r,i,f=>by
  unfold Fnd.bodies;split
  . dsimp only;have a:=(gM b { f with most:=0 }).e;obtain ⟨_,_,_,_,_,_,_,j,h,g,d,c,_⟩:=a;obtain ⟨o,n,m,l,k⟩:=Mr (bs:=r) (i:=i+1) (f:= { (Fnd.block { f with most:=0 } b).1 with ths:=(Fnd.block { f with most:=0 } b).1.ths.set i ⟨((Fnd.block { f with most:=0 } b).1.ths.getD i ⟨em,0, []⟩).nm,(Fnd.block { f with most:=0 } b).1.most,(Fnd.block { f with most:=0 } b).2⟩ });exact ⟨o.trans j,n.trans h,m.trans g,l.trans d,k.trans c⟩
  exact ⟨rfl,rfl,rfl,rfl,rfl⟩
theorem bad_mays (h:d.bad=false):Yo d.body 1=true:=by
 unfold PDec.bad Xn at h;simp only [eX,dD,iB] at h;exact h.2
structure FndOk (F:Fnd):Prop where
 m:F8 F=true
 k:F.nv.length<=64/\F.na.length<=64/\F.nm.length<=64/\F.nc.length<=64/\F.nh.length<=64
theorem find_may (h:Ej ds=some F):FndOk F:=by
 have hp:=Ir (P:=fun _=>True) h trivial (fun _ _ _ _=>trivial);unfold Ej at h;split at h
 . cases h
 rename_i y
 have p: ∀ d∈ds,d.bad=false:=fun d r=>by
  cases w:d.bad with
  |false=>rfl
  |true=>exact bD (kC.2 ⟨d,r,w⟩) y
 dsimp only at h;obtain ⟨f,x⟩:=lA (Fnd.decls .z ds);rw [<-x] at h;obtain ⟨f1,o⟩: ∃ f1,f1=(if f.flaw=0/\(f.at Jr=0\/((f.names.map (·.k)).getD (f.at Jr - 1) 0)≠6) then f.fl 133 else f):=⟨_,rfl⟩;rw [<-o] at h;obtain ⟨bs,u⟩:=lA ((ds.filter fun d=>d.k==6).map (·.body));rw [<-u] at h;by_cases hfl:(f1.bodies 0 bs).flaw≠0
 . rw [if_pos hfl] at h;cases h
 rw [if_neg hfl] at h
 cases h
 have j:=gK.1 hfl;have z1:f1.flaw=0:=Km j
 have hm:f1=f/\f.flaw=0:=by
  split at o
  . rw [o] at z1;exact bD z1 (Wp (by decide))
  rw [o] at z1;exact ⟨o,z1⟩
 obtain ⟨e1,z2⟩:=hm;have z3:(Fnd.decls .z ds).flaw=0:=by rw [<-x];exact z2
 have D:DInv f:=by
  rw [x];exact DInv.decls .z (fun d r=>⟨(Lp (p d r)).1,bad_nm (p d r)⟩) z3
 have E:DNum f:=by
  rw [x];exact DNum.decls .z (fun d r=>(Lp (p d r)).1) z3
 have b0:f.ths.length=bs.length:=by
  have:=Tm (f:= .z) rfl z3;rw [x,this,u,aG];show 0+_=_;omega
 rw [e1] at j hp|-
 have q: ∀ b∈bs,Yo b 1=true:=fun b w=>by
  rw [u] at w;obtain ⟨d,r,rfl⟩:=cI.1 w;exact bad_mays (p d (gB.1 r).1)
 have B0:BInv (fun _=>True) f f:=⟨⟨rfl,rfl,rfl,rfl,rfl,rfl,rfl⟩,D.n,⟨D.l.1,by rw [D.l.2];decide⟩,fun t ht=>by
  obtain ⟨a,b,c⟩:=D.t t ht;exact ⟨a,by omega,by rw [c];trivial,trivial⟩⟩
 have B:=BInv.bodies (i:=0) (fun b w=>⟨Ve (q b w),fun _=>trivial⟩) B0 j;have A:=Nn (i:=0) q B0 (by omega) (by show some (0:Int)=some f.stm;rw [D.l.2]) j;have K:=Mr (bs:=bs) (i:=0) (f:=f);obtain ⟨g,hg⟩:=lA (f.bodies 0 bs);rw [<-hg] at B A K hp|-;obtain ⟨b1,b2,b3,b4,b5,b6,b7⟩:=B.e;obtain ⟨mn,a0⟩:=lA ((g.names.map (·.s)).getD (f.at Jr - 1) 0);rw [<-a0] at hp|-;have cn:Fnd.cn { g with main:=mn } =f.cn:=by unfold Fnd.cn;dsimp only;rw [b1,b2,b3,b4,b5,b6]
 obtain ⟨k1,k2,k3,k4,k5,k6,k7⟩:=D.k;have en:=E.n;refine ⟨?_,?_⟩
 . unfold F8;rw [aQ,aQ];refine ⟨⟨?_,?_⟩,?_⟩
   . unfold Lz;rw [bZ];dsimp only;rw [b1,b2,b3,b4,b5,b6];refine ⟨by omega,by omega,by omega,fun v hv=>D.v v hv,D.a,D.c,by rw [E.s.1];exact E.s.2⟩
   . unfold inB;rw [bZ];exact hp.m
   rw [cn];rw [dI];exact A
 obtain ⟨a1,a2,a3,a4,a5⟩:=K;dsimp only;rw [a1,a2,a3,a4,a5];have:=E.k;omega
theorem Mo {l:Bs}(h:Hg l=some F):FndOk F:=by
 unfold Hg at h;split at h
 . cases h
 exact find_may h
mutual
theorem Pb {B:Nat}: ∀ {s:Stm},s.er.wt<=B->s.lm B/\s.sz<=B
 | .mk k ln cl nm wt e ix body els ba bc ea ec id sl ot lo,h=>by
  simp only [Stm.er,PStm.wt,O0] at h;have b:=Mq (B:=B) (l:=body) (by omega);have a:=Mq (B:=B) (l:=els) (by omega);have d:=H8 body;have c:=H8 els;exact ⟨⟨by omega,by omega,b,a⟩,by simp only [Stm.sz];omega⟩
theorem Mq {B:Nat}: ∀ {l:List Stm},Vs (Zk l)<=B->Vm B l
 | [],_=>trivial
 |s::r,h=>by
  simp only [Zk,Vs] at h;exact ⟨(Pb (by omega)).1,Mq (by omega)⟩
theorem H8: ∀ (l:List Stm),Zc l<=Vs (Zk l)
 | []=>bC _
 |s::r=>by
  simp only [Zk,Vs,Zc];have b:=(Pb (s:=s) (aY _)).2;have a:=H8 r;omega
end
theorem FC.cp {l:Bs}(h:Hg l=some g.er):CpOk (14*65536) g:=by
 obtain ⟨p,u⟩:=text_prg h;have m:=Mo h;obtain ⟨o,n,j,i,d⟩:=m.k;obtain ⟨c,b,a,s,_,_⟩:=p.k;have e:g.er.ths.length=g.ths.l.length:=by show (g.ths.l.map Th.er).length=_;rw [aG]
 rw [e] at s;have c:g.vars.l.length<=64:=c;have b:g.arrs.l.length<=64:=b;have a:g.chs.l.length<=64:=a;have o:g.nv.l.length<=64:=o;have n:g.na.l.length<=64:=n;have j:g.nm.l.length<=64:=j;have i:g.nc.l.length<=64:=i;have d:g.nh.l.length<=64:=d;refine ⟨by omega,by decide,fun x q=> ?_⟩;have:=(p.t _ (aX (f:=Th.er) q)).p;have r:(Th.er x).body=Zk x.body:=rfl;rw [r] at this;have v:=H8 x.body;exact ⟨by omega,Mq (by omega)⟩
theorem H6 (hM:MayP F):(Wj F.pr).fine F 0:=by
 have r:=V0 (l:=F.arrs) (k:=256) (fun y q=>by have:=hM.a y q;omega) (by decide);have b:=hM.f;have g:((F.mu.toNat:Nat):Int)=F.mu:=by have:=b.1.1;omega
 have h:((F.co.toNat:Nat):Int)=F.co:=by have:=b.2.1.1;omega
 have j:=newS_ok (m:=F.mu.toNat) (c:=F.co.toNat) (rooms:=F.chs) (by rw [g,h];exact b);obtain ⟨o,s⟩:=Dc (N:=0) (m:=1) hM hM.m (by decide);have i: ∀ l∈(F4 F.mu.toNat F.co.toNat F.chs).conds,l= []:=fun l n=>(fI.1 n).2
 refine ⟨⟨?_,?_,j,⟨?_,?_,?_⟩,⟨aY 1,show 1<=8 by decide⟩,?_,?_⟩,?_,?_⟩
 . show ((F.vars++List.replicate (Yl F.arrs).toNat 0).length:Int)=_
   rw [aK,cJ];omega
 . intro x e;rcases aW.1 (show x∈F.vars++List.replicate (Yl F.arrs).toNat 0 from e) with e|e
   . exact hM.v x e
   rw [(fI.1 e).2];unfold val;omega
 . show ((List.replicate F.mu.toNat (-1:Int)).length:Int)=F.mu
   rw [cJ];exact g
 . show ((List.replicate F.co.toNat ([]:List Int)).length:Int)=F.co
   rw [cJ];exact h
 . show (F.chs.map _).map Ch.room=F.chs
   rw [List.map_map];simp [Function.comp_def]
 . intro t d;rw [bJ.1 (show t∈ [Wl F.pr F.main] from d)];exact ThOk.of o s (by show 1<=8;decide)
 . intro l n t d;rw [i l n] at d;cases d
 . have:(Wj F.pr).sy.conds.flatten= []:=by rw [List.flatten_eq_nil_iff];exact i
   rw [this];exact List.nodup_nil
 intro t d;rw [bJ.1 (show t∈ [Wl F.pr F.main] from d)];exact o.p.1
theorem Wv (k:Nat):Builtin.zeroCells #[(Value.int .i64 0)] k=(List.replicate k (Value.int .i64 0)).toArray:=by
 apply Array.ext
 . simp [Builtin.zeroCells]
 intro i b a;simp [Builtin.zeroCells,Nat.mod_one]
theorem Mi (w:World)(t tn ty e:TypeId)(i:TypeInfo)(kq kn:IntKind)(ht:P.underlying t=some (.slice e))(htn:P.underlying tn=some (.int kn))(hi:P.info? e=some i)(hz:i.zero=some (I64 0))(h1s:i.size=1)
 (g sLen sCap:Nat) (cur:Array Value) (hg:w.heap[g]? =some (.cells cur e (0,0))) (k:Nat) (h0:0<k) (hroom:sLen+k<=sCap) (hfit:sLen+k<=cur.size) (h63:((sLen+k:Nat):Int)<=9223372036854775807) (h48:k*i.bytes<=281474976710656):
 (Builtin.append_ #[t,tn] ty #[.slice (some ⟨g,0,none⟩) sLen sCap,.int kq k]).run P w= .ok (.slice (some ⟨g,0,none⟩) (sLen+k) sCap) (w.setRow g (cur.toList.take sLen++List.replicate k (Value.int .i64 0)++cur.toList.drop (sLen+k)).toArray):=by
 have a:=run_storeCells_at P g sLen e (List.replicate k (Value.int .i64 0)) 0 cur w hg (by simpa using hfit) (fun u h=>by rw [(fI.1 h).2];rfl);simp only [iL,cJ] at a;have j:k≠0:=by omega
 have f:IntKind.i64.wrap (k:Int)=k:=by rw [IntKind.wrap_i64];omega
 have c: ¬ (281474976710656<(k:Int)*(i.bytes:Int)):=by
  rw [<-kQ];omega
 have b: ¬ ((k:Int)<0):=by omega
 have d:=Wv k;simp [Builtin.append_,run_underlying ht,run_underlying htn,Go.sizeOf,typeInfo,zeroValue,hi,hz,h1s,asInt,asIntOf,f,hroom,b,j,c,d,Value.cells,Wg,a]
theorem Ef.appZ {p:PE}{r:List HP}{d:Option Tmp}{ty t tn e:TypeId}{pos:String}{af:Array Edge}{gd:Option (Nat×Bool)}{x y:Operand}{c k:Nat}{kq kn:IntKind}
 (ht:P.underlying t=some (.slice e)) (htn:P.underlying tn=some (.int kn)) (hi:(P.info? e).map (fun i=>(i.zero,i.size,i.bytes))=some (some (I64 0),1,8))
 (hx:evp p x=some (.slice a l.length c)) (hy:evp p y=some (.int kq k)) (hk:0<k) (hq:Le q (lsH I64 e a c l::r)) (h63:l.length+k<=1000000000):
 Ef P G p q ⟨d,.call ⟨.builtin .append, [x,y].toArray, [t,tn].toArray⟩,ty,pos,af,gd⟩ fun v q'=> ∃ a' c',v= .slice a' (l.length+k) c'/\q'=lsH I64 e a' c' (l++List.replicate k 0)::r:=by
 obtain ⟨I,hI,e1,e2,e3⟩:=info_parts hi;intro tm w ag s;have j0:evl p [x,y]=some [.slice a l.length c,.int kq k]:=by simp [evl,hx,hy]
 have i0:=Qt (d:=d) (ty:=ty) (pos:=pos) (af:=af) (gd:=gd) (bi:= .append) (ats:= [t,tn].toArray) ag j0;rw [i0]
 have f: ∀ v w',(Builtin.append_ #[t,tn] ty #[.slice a l.length c,.int kq k]).run P w= .ok v w'->(builtin .append [t,tn].toArray ty ([x,y].toArray.map fun| .const _=>true|_=>false) [.slice a l.length c,.int kq k].toArray).run P w= .ok (.value v) w':=by
  intro v w' h;simp [builtin,h]
 have e0:(l++List.replicate k (0:Int)).map I64=l.map I64++List.replicate k (Value.int .i64 0):=by rw [aT,jG]
 have z:(l++List.replicate k (0:Int)).length=l.length+k:=by simp
 have s0:=s.le hq;unfold lsH at s0|-;rw [e0,z];obtain ⟨f0,c0⟩:=s0.slH_elim;have n0:=Wv k;have m0:(l.length+k)*I.bytes<=140737488355328:=by rw [e3];omega
 rcases c0 with ⟨ha,hc,hl,s'⟩|⟨g,b,ha,o0,l0,k0,o,s'⟩
 . subst ha hc;have g0:l= []:=aP hl;subst g0;have hr:=Go.Lib.run_append_nil_zeros (P:=P) w t tn ty e I (I64 0) kq kn ht htn hI e1 k hk (by omega) (by omega) (by rw [e3];omega);have a0:=grownCap_ge w k 0 e;have b0:=grownCap_le_maxLen w k 0 e (by simp only [maxLen];omega);refine ⟨_,_,_,.inl (f _ _ hr),?_,some ⟨w.heap.size,0,none⟩,grownCap w k 0 e,by simp,rfl⟩
   have m:St G (w.drew.alloc (.cells (Builtin.zeroCells (Value.int .i64 0).cells k++Builtin.zeroCells (Value.int .i64 0).cells (grownCap w k 0 e - k)) e)) (pto w.heap.size (.cells (Builtin.zeroCells (Value.int .i64 0).cells k++Builtin.zeroCells (Value.int .i64 0).cells (grownCap w k 0 e - k)) e (0,0))::r):=
    St.new (w:=w.drew) (s'.same rfl rfl rfl rfl) rfl rfl rfl rfl
   have n:(Value.int .i64 0).cells= #[(Value.int .i64 0)]:=rfl;rw [n] at m;refine m.le (Y0 (by simpa using a0) b0 ?_ ?_ r)
   . rw [Wv,Wv];simp;omega
   rw [Wv,Wv];simp
 subst ha;have hg:w.heap[g]? =some (.cells b e (0,0)):=s'.has (fJ _ _ _);rw [gQ] at k0 o f0;have n:(Value.int .i64 0).cells= #[(Value.int .i64 0)]:=rfl;by_cases hroom:l.length+k<=c
 . have hr:=Mi w t tn ty e I kq kn ht htn hI e1 e2 g l.length c b hg k hk hroom (by omega) (by omega) (by rw [e3];omega);refine ⟨_,_,_,.inl (f _ _ hr),?_,some ⟨g,0,none⟩,c,rfl,rfl⟩;have m:=s'.put (o':= .cells (b.toList.take l.length++List.replicate k (Value.int .i64 0)++b.toList.drop (l.length+k)).toArray e (0,0)) (setRow_heap w g b _ e (0,0) hg) (fun j hj=>setRow_other w g j _ hj) (by simp) rfl rfl rfl;refine m.le (Y0 hroom l0 ?_ ?_ r)
   . simp only [gJ,aK,bM,bN,cJ,gU];omega
   rw [o,gQ];have:(l.map I64++List.replicate k (Value.int .i64 0)).length=l.length+k:=by simp
   rw [<-this];exact jN
 have d0:(Builtin.firstCells I.size l.length (.slice (some ⟨g,0,none⟩) l.length c)).run P w.drew= .ok (l.map I64).toArray w.drew:=by
  rw [e2];refine run_firstCells_some w.drew 1 l.length ⟨g,0,none⟩ l.length c (l.map I64) (by simp) fun j u hu=> ?_;rw [Wg,eQ];rw [<-o,eO] at hu;have h0:w.drew.heap[g]? =some (.cells b e (0,0)):=hg;split at hu
  . simp only [World.cell?,h0];simpa using hu
  cases hu
 have hr:=Go.Lib.run_append_grow_zeros (P:=P) w t tn ty e I (I64 0) kq kn ht htn hI e1 (some ⟨g,0,none⟩) l.length c (l.map I64) d0 k hk (by omega) (by omega) (by omega) (by rw [e3];omega) (growslice_fits (by omega) m0);have a0:=grownCap_ge w (l.length+k) c e;have b0:=grownCap_le_maxLen w (l.length+k) c e (by simp only [maxLen];omega);refine ⟨_,_,_,.inl (f _ _ hr),?_,some ⟨w.heap.size,0,none⟩,grownCap w (l.length+k) c e,rfl,rfl⟩;have s3:St G w.drew r:=(s'.le (.drop _ _)).same rfl rfl rfl rfl;have m:=St.new (w:=w.drew) (w':=w.drew.alloc (.cells ((l.map I64).toArray++Builtin.zeroCells (Value.int .i64 0).cells k++Builtin.zeroCells (Value.int .i64 0).cells (grownCap w (l.length+k) c e - (l.length+k))) e)) s3 rfl rfl rfl rfl;rw [n] at m;refine m.le (Y0 a0 b0 ?_ ?_ r)
 . rw [Wv,Wv];simp;omega
 rw [Wv,Wv];have:(l.map I64++List.replicate k (Value.int .i64 0)).length=l.length+k:=by simp
 simp only [kS,aB];rw [<-aB,gQ,<-this];exact jN
theorem mk_zsv (n:Nat)(a:Option Addr)(c ty:Nat)(q:List HP):Le (slH a c ty 1 n ((List.replicate n (Value.slice none 0 0).cells.toList).flatten)::q) (lsH (Sv.v (α:=Int)) ty a c (List.replicate n ⟨[],none,0⟩)::q):=by
 unfold lsH;rw [cJ,show (List.replicate n (⟨[],none,0⟩:Sv Int)).map Sv.v=(List.replicate n (Value.slice none 0 0).cells.toList).flatten by simp [Value.cells,Sv.v]];exact aD _
def Qg (l:List Int)(arrs:List Int)(k:Nat):List Int:=l++List.replicate (Yl (arrs.take k)).toNat 0
theorem Sx {k:Nat}(hk:k<arrs.length)(h: ∀ n∈arrs,1<=n/\n<=256):Qg l arrs k++List.replicate arrs[k].toNat 0=Qg l arrs (k+1):=by
 unfold Qg;have c:0<=Yl (arrs.take k):=(V0 (l:=arrs.take k) (k:=256) (fun y a=>by have:=h y (eZ a);omega) (by decide)).1;have b:=h _ (aA hk);rw [aI hk,C0,aB,List.replicate_append_replicate];congr 2;omega
theorem O2 {k:Nat}(h: ∀ n∈arrs,1<=n/\n<=256)(hl:arrs.length<=64):(Qg l arrs k).length<=l.length+16384:=by
 unfold Qg;have:=V0 (l:=arrs.take k) (k:=256) (fun y a=>by have:=h y (eZ a);omega) (by decide);rw [aK,cJ];have b:(arrs.take k).length<=64:=by rw [bM];omega
 omega
def Ea (g:FC)(cs ow:Sv Int)(ws hs:Sv (Sv Int))(tk:Sv Int):DC:=⟨g,cs,ow,ws,hs,tk,⟨[],none,0⟩,zOut⟩
abbrev AH (v0)(v1)(v2):=(⟨List.replicate v0 (-1),v1,v2⟩:Sv Int)
abbrev Aw (v0):=(List.replicate v0 (0:Int))
abbrev Ai (v0:FC):=((Wj v0.er.pr).stands v0.er.pr)
abbrev Af (v0):=((List.replicate v0 (Value.slice none 0 0).cells.toList).flatten)
abbrev A7 (v0):=(List.replicate v0 (⟨[],none,0⟩:Sv Int))
abbrev BB (v0:FC):=(Wj v0.er.pr)
theorem Lm (hK:Kn q fun M=>g.At M)(hM:MayP g.er):CallF prog G 23 [.agg (pgC g).toArray] (q) (Ret fun v q'=> ∃ D':DC,v= .agg (Y3 D').toArray/\q'=docM D'::q/\D'.g=g/\D'.Is (Ai g)):=by
 refine aC func23 ntmps23 rfl fun F cs=> ?_;obtain ⟨MU,n0⟩:=aE (show 0<=g.mu from hM.f.1.1);have i1:MU<=64:=(by have:=hM.f.1.2;rw [show g.er.mu=g.mu from rfl] at this;omega);obtain ⟨i,s0⟩:=aE (show 0<=g.co from hM.f.2.1.1);have j1:i<=64:=(by have:=hM.f.2.1.2;rw [show g.er.co=g.co from rfl] at this;omega);have y0:g.chs.l.length<=64:=hM.l.2.2.1;have g1:g.vars.l.length<=64:=hM.l.1;have z0:g.arrs.l.length<=64:=hM.l.2.1;have d0: ∀ n∈g.arrs.l,1<=n/\n<=256:=hM.a;obtain ⟨d,j⟩:=lA g.chs.l.length;rw [<-j] at y0;have m0:=bV (hK.imp fun M h=>h.vars);rw [Z5] at m0;have f0:=bV (hK.imp fun M h=>h.arrs);rw [Z5] at f0;refine xo 2 ?_;refine Z0 fun n1=> ?_
 refine bE zeroValue70 fun n2=> ?_
 refine rn [2,0,1,2,3,5,6,8,9,10,12,13,14] ?_;refine bW 11 (Al i) rfl (by rw [<-s0]) ?_;refine bW 8 (.slice g.vars.a g.vars.l.length g.vars.c) rfl (rfl) ?_;refine fP (Zr I64 2 _) ?_;refine Z7 (fl:= [⟨6,12,fun g=> .slice (some ⟨g,0,none⟩) i i,fun g=>slH (some ⟨g,0,none⟩) i 22 1 i (Af i)⟩,⟨10,16,fun g=> .slice (some ⟨g,0,none⟩) d d,fun g=>slH (some ⟨g,0,none⟩) d 23 1 d (Af d)⟩,⟨14,20,fun g=> .slice (some ⟨g,0,none⟩) d d,fun g=>slH (some ⟨g,0,none⟩) d 3 1 d (Aj d)⟩,⟨16,3,fun g=> pt g,fun g=>pto g Ad⟩]) ?_;refine gV 3 ⟨⟨_,rfl,rfl,rfl,rfl,rfl,rfl,fun q=>Uf (n:=i) rfl rfl underlying66 Gp rfl rfl (by omega) (by omega)⟩,⟨_,rfl,rfl,rfl,rfl,rfl,rfl,fun q=>Uf (n:=d) (by rw [j];rfl) (by rw [j];rfl) underlying67 R0 rfl rfl (by omega) (by omega)⟩,⟨_,rfl,rfl,rfl,rfl,rfl,rfl,fun q=>Uf (n:=d) (by rw [j];rfl) (by rw [j];rfl) underlying22 W3 rfl rfl (by omega) (by omega)⟩,⟨_,rfl,rfl,rfl,rfl,rfl,rfl,fun q=>bA zeroValue70⟩,trivial⟩ (Qj (fe:=I64) (l:= []) (m:=g.vars.l) underlying23 Jk rfl rfl rfl Zj (m0.le leA) (fun _=>rfl) (by simp only [aL];omega) (by simp only [aL];omega)) ?_;refine kk2 fun a1 c1=> ?_
 rw [aN];refine Yn (e0:=⟨6,12,fun g=> .slice (some ⟨g,0,none⟩) i i,fun g=>slH (some ⟨g,0,none⟩) i 22 1 i (Af i)⟩) (hnd:=by simp) 6 ⟨⟨_,rfl,rfl,rfl,rfl,rfl,rfl,fun q=>Uf (n:=i) rfl rfl underlying66 Gp rfl rfl (by omega) (by omega)⟩,⟨_,rfl,rfl,rfl,rfl,rfl,rfl,fun q=>Uf (n:=d) (by rw [j];rfl) (by rw [j];rfl) underlying67 R0 rfl rfl (by omega) (by omega)⟩,⟨_,rfl,rfl,rfl,rfl,rfl,rfl,fun q=>Uf (n:=d) (by rw [j];rfl) (by rw [j];rfl) underlying22 W3 rfl rfl (by omega) (by omega)⟩,⟨_,rfl,rfl,rfl,rfl,rfl,rfl,fun q=>bA zeroValue70⟩,trivial⟩ fun o=> ?_;change XF _ _ _ _ _ _ _ [⟨10,16,fun g=> .slice (some ⟨g,0,none⟩) d d,fun g=>slH (some ⟨g,0,none⟩) d 23 1 d (Af d)⟩,⟨14,20,fun g=> .slice (some ⟨g,0,none⟩) d d,fun g=>slH (some ⟨g,0,none⟩) d 3 1 d (Aj d)⟩,⟨16,3,fun g=> pt g,fun g=>pto g Ad⟩] _ _ _ ((12,.slice (some ⟨o,0,none⟩) i i)::_) _ _ (slH (some ⟨o,0,none⟩) i 22 1 i (Af i)::_);refine Yn (e0:=⟨10,16,fun g=> .slice (some ⟨g,0,none⟩) d d,fun g=>slH (some ⟨g,0,none⟩) d 23 1 d (Af d)⟩) (hnd:=by simp) 10 ⟨⟨_,rfl,rfl,rfl,rfl,rfl,rfl,fun q=>Uf (n:=d) (by rw [j];rfl) (by rw [j];rfl) underlying67 R0 rfl rfl (by omega) (by omega)⟩,⟨_,rfl,rfl,rfl,rfl,rfl,rfl,fun q=>Uf (n:=d) (by rw [j];rfl) (by rw [j];rfl) underlying22 W3 rfl rfl (by omega) (by omega)⟩,⟨_,rfl,rfl,rfl,rfl,rfl,rfl,fun q=>bA zeroValue70⟩,trivial⟩ fun u=> ?_;change XF _ _ _ _ _ _ _ [⟨14,20,fun g=> .slice (some ⟨g,0,none⟩) d d,fun g=>slH (some ⟨g,0,none⟩) d 3 1 d (Aj d)⟩,⟨16,3,fun g=> pt g,fun g=>pto g Ad⟩] _ _ _ ((16,.slice (some ⟨u,0,none⟩) d d)::_) _ _ (slH (some ⟨u,0,none⟩) d 23 1 d (Af d)::_);refine Yn (e0:=⟨14,20,fun g=> .slice (some ⟨g,0,none⟩) d d,fun g=>slH (some ⟨g,0,none⟩) d 3 1 d (Aj d)⟩) (hnd:=by simp) 14 ⟨⟨_,rfl,rfl,rfl,rfl,rfl,rfl,fun q=>Uf (n:=d) (by rw [j];rfl) (by rw [j];rfl) underlying22 W3 rfl rfl (by omega) (by omega)⟩,⟨_,rfl,rfl,rfl,rfl,rfl,rfl,fun q=>bA zeroValue70⟩,trivial⟩ fun p=> ?_;change XF _ _ _ _ _ _ _ [⟨16,3,fun g=> pt g,fun g=>pto g Ad⟩] _ _ _ ((20,.slice (some ⟨p,0,none⟩) d d)::_) _ _ (slH (some ⟨p,0,none⟩) d 3 1 d (Aj d)::_);refine Vl 15 ⟨⟨_,rfl,rfl,rfl,rfl,rfl,rfl,fun q=>bA zeroValue70⟩,trivial⟩ (Pu.build (cells:= [_,_,_,_,_,_,_,_,_,_,_,_,_,_,_,_,_,_,_,_,_,_,_]) [(0,13),(13,1),(14,1),(15,1),(16,1),(17,1),(18,1),(19,4)] zeroValue70 underlying70 (by kernel_rfl) rfl rfl) ?_;refine Yn (e0:=⟨16,3,fun g=> pt g,fun g=>pto g Ad⟩) (hnd:=by simp) 16 ⟨⟨_,rfl,rfl,rfl,rfl,rfl,rfl,fun q=>bA zeroValue70⟩,trivial⟩ fun nd=> ?_;change XF _ _ _ _ _ _ _ [] _ _ _ ((3,.pointer (some ⟨nd,0,none⟩))::_) _ _ (pto nd Ad::_);refine dO ?_;refine rn [18,0,6] ?_;refine bK (q':=lsH (Sv.v (α:=Int)) 22 (some ⟨o,0,none⟩) i (A7 i)::lsH (Sv.v (α:=Int)) 23 (some ⟨u,0,none⟩) d (A7 d)::lsH I64 3 (some ⟨p,0,none⟩) d (Aw d)::_) (bB (b:=slH (some ⟨o,0,none⟩) i 22 1 i (Af i)::slH (some ⟨u,0,none⟩) d 23 1 d (Af d)::slH (some ⟨p,0,none⟩) d 3 1 d (Aj d)::_) (bP Zj (bP Zj Zj)) (bB (mk_zsv _ _ _ _ _) (dJ _ (bB (mk_zsv _ _ _ _ _) (dJ _ (Rr _ _ _ _ _)))))) ?_;have t0:g.vars.l=Qg g.vars.l g.arrs.l 0:=(by unfold Qg;simp [Yl]);have j0: ∀ k,(Qg g.vars.l g.arrs.l k).length<=20000:=fun k=>cL (O2 d0 z0) (by omega)
 skip;refine aZ (cD (fun (s:Nat×Option Addr×Nat)=>s.1<=g.arrs.l.length) (fun s=> [(1,pt n1),(2,pt n2),(3,.pointer (some ⟨nd,0,none⟩)),(4,I64 (s.1:Int))]) (fun s=>lsH I64 2 s.2.1 s.2.2 (Qg g.vars.l g.arrs.l s.1)::pto nd (.cells (Y3 (Ea g (⟨Qg g.vars.l g.arrs.l s.1,s.2.1,s.2.2⟩:Sv Int) (⟨[],none,0⟩:Sv Int) ⟨(A7 i),some ⟨o,0,none⟩,i⟩ ⟨(A7 d),some ⟨u,0,none⟩,d⟩ ⟨(Aw d),some ⟨p,0,none⟩,d⟩)).toArray 70 (0,0))::lsH (Sv.v (α:=Int)) 22 (some ⟨o,0,none⟩) i (A7 i)::lsH (Sv.v (α:=Int)) 23 (some ⟨u,0,none⟩) d (A7 d)::lsH I64 3 (some ⟨p,0,none⟩) d (Aw d)::pto n1 (.cells (pgC g).toArray 29 (0,0))::pto n2 Ad::(q++F)) (fun s=>g.arrs.l.length - s.1) (fun s z ih=> ?_) (0,a1,c1) (bC _)) Zg (by unfold Ea Y3 Sv.v;simp only [cJ];rw [<-t0];exact leA);try dsimp only at z ih|-
 obtain hi:=z;obtain ⟨k,ca,y⟩:=s;dsimp only at*;refine rn [5,0,3] ?_;refine xp 26 ?_ ?_<;>intro h0
 . have w:k<g.arrs.l.length:=(by omega);refine Zs (f0.le leA) (by rw [aG];omega) fun ab ao e_=> ?_;have b0:=f0;rw [e_] at b0;have x0:=d0 _ (aA w);obtain ⟨AK,g0⟩:=aE (show 0<=g.arrs.l[k] by omega);have f1:=j0 k;have c0:=Sx (l:=g.vars.l) w d0;rw [g0,show ((AK:Int)).toNat=AK from rfl] at c0;rw [g0] at x0;refine rg [4,0,1,2,3,4,5,3032,6,7] e_ b0 ?_;refine bW 35 (Al AK) rfl (by rw [g0]) ?_;refine bW 30 (.slice ca (Qg g.vars.l g.arrs.l k).length y) rfl (rfl) ?_;refine dA 7 rfl (Ef.appZ (k:=AK) (l:=Qg g.vars.l g.arrs.l k) underlying23 underlying3 Jk rfl rfl (by omega) Zj (by omega)) ?_;rintro _ _ ⟨a2,c2,rfl,rfl⟩;refine ⟨(hlF (cH b0 w)),?_⟩;rw [c0];refine rn [9,10,0,6] ?_;refine aZ (ih (k+1,a2,c2) (by dsimp only;omega) (by dsimp only;omega)) Zg (by have i0:=bL List.length c0;rw [aK,cJ] at i0;unfold Ea Y3 Sv.v;simp only [Wx.sub,Uw];rw [i0];exact leA)
 obtain rfl:k=g.arrs.l.length:=(by omega);clear ih;have w0:=j0 g.arrs.l.length;generalize hCL:Qg g.vars.l g.arrs.l g.arrs.l.length=CL at w0|-;refine xx 8 ?_;refine aZ (cD (fun (s:Nat×Option Addr×Nat)=>s.1<=MU) (fun s=> [(1,pt n1),(2,pt n2),(3,.pointer (some ⟨nd,0,none⟩)),(5,I64 (s.1:Int))]) (fun s=>lsH I64 3 s.2.1 s.2.2 (List.replicate s.1 (-1))::lsH I64 2 ca y CL::pto nd (.cells (Y3 (Ea g (⟨CL,ca,y⟩:Sv Int) (⟨List.replicate s.1 (-1),s.2.1,s.2.2⟩:Sv Int) ⟨(A7 i),some ⟨o,0,none⟩,i⟩ ⟨(A7 d),some ⟨u,0,none⟩,d⟩ ⟨(Aw d),some ⟨p,0,none⟩,d⟩)).toArray 70 (0,0))::lsH (Sv.v (α:=Int)) 22 (some ⟨o,0,none⟩) i (A7 i)::lsH (Sv.v (α:=Int)) 23 (some ⟨u,0,none⟩) d (A7 d)::lsH I64 3 (some ⟨p,0,none⟩) d (Aw d)::pto n1 (.cells (pgC g).toArray 29 (0,0))::pto n2 Ad::(q++F)) (fun s=>MU - s.1) (fun s z ih=> ?_) (0,none,0) (bC _)) Zg (bB (Zr I64 3 _) leA);try dsimp only at z ih|-
 obtain hi:=z;obtain ⟨k,oa,oc⟩:=s;dsimp only at*;refine rn [5,0,2] ?_;refine xp 41 ?_ ?_<;>intro h1
 . have l0:g.mu=(MU:Int):=n0;have w:k<MU:=(by omega);refine rn [6,0] ?_;refine bI (Y6 I64 [-1] underlying22 W3 rfl rfl rfl rfl rfl rfl (fun _=>rfl)) ?_;rintro _ _ ⟨g2,rfl,rfl⟩;refine aM 45 (.slice oa (List.replicate k (-1:Int)).length oc) rfl (rfl) ?_;refine bI (Z6 (f:=I64) (l:=List.replicate k (-1)) (m:= [-1]) underlying22 W3 rfl rfl rfl Zj ((bQ _).le leA) (fun _=>rfl) (by simp;omega) (by simp;omega)) ?_;rintro _ _ ⟨a3,c3,rfl,rfl⟩;rw [show List.replicate k (-1:Int)++ [-1]=List.replicate (k+1) (-1) from List.replicate_succ'.symm];refine rn [1,0,7] ?_;refine aZ (ih (k+1,a3,c3) (by dsimp only;omega) (by dsimp only;omega)) Zg (by unfold Ea Y3 Sv.v;simp only [cJ,aK,aJ,Wx.sub,Uw];exact leA)
 have l0:g.mu=(MU:Int):=n0;obtain rfl:k=MU:=(by omega);clear ih;refine xx 2 ?_;refine W6 (f':=iC) (fe:=I64) (l:=CL) (a:=ca) (c:=y) Z5 ?_;refine W6 (f':=iC) (fe:=I64) (l:=List.replicate k (-1)) (a:=oa) (c:=oc) Z5 ?_;refine W6 (f':=iC) (fe:=I64) (l:=(Aw d)) (a:=some ⟨p,0,none⟩) (c:=d) Z5 ?_;refine W6 (f':=svC) (fe:=Sv.v (α:=Int)) (l:=(A7 i)) (a:=some ⟨o,0,none⟩) (c:=i) Ud ?_;refine W6 (f':=svC) (fe:=Sv.v (α:=Int)) (l:=(A7 d)) (a:=some ⟨u,0,none⟩) (c:=d) Ud ?_;refine bK (q':=docM (Ea g (⟨CL,ca,y⟩:Sv Int) (AH k oa oc) ⟨(A7 i),some ⟨o,0,none⟩,i⟩ ⟨(A7 d),some ⟨u,0,none⟩,d⟩ ⟨(Aw d),some ⟨p,0,none⟩,d⟩)::_) (bY (φ:=fun M=>DC.At M (Ea g (⟨CL,ca,y⟩:Sv Int) (AH k oa oc) ⟨(A7 i),some ⟨o,0,none⟩,i⟩ ⟨(A7 d),some ⟨u,0,none⟩,d⟩ ⟨(Aw d),some ⟨p,0,none⟩,d⟩)) (mn:=fun e h=>cM e h) (((bU hK leA).and ((svK (f:=iC) (x:=(⟨CL,ca,y⟩:Sv Int))).and ((svK (f:=iC) (x:=(AH k oa oc))).and ((svK (f:=iC) (x:=⟨(Aw d),some ⟨p,0,none⟩,d⟩)).and ((svK (f:=svC) (x:=⟨(A7 i),some ⟨o,0,none⟩,i⟩)).and (svK (f:=svC) (x:=⟨(A7 d),some ⟨u,0,none⟩,d⟩))))))).imp fun M h=>⟨h.1,h.2.1,h.2.2.1,h.2.2.2.2.1,h.2.2.2.2.2,h.2.2.2.1,Rw M,fun x hx=>by rw [(fI.1 hx).2];exact Rw M,fun x hx=>by rw [(fI.1 hx).2];exact Rw M,fun t ht=>by cases ht⟩)) ?_;have b1: ∀ r,Kn (docM (Ea g (⟨CL,ca,y⟩:Sv Int) (AH k oa oc) ⟨(A7 i),some ⟨o,0,none⟩,i⟩ ⟨(A7 d),some ⟨u,0,none⟩,d⟩ ⟨(Aw d),some ⟨p,0,none⟩,d⟩)::r) fun M=>DC.At M (Ea g (⟨CL,ca,y⟩:Sv Int) (AH k oa oc) ⟨(A7 i),some ⟨o,0,none⟩,i⟩ ⟨(A7 d),some ⟨u,0,none⟩,d⟩ ⟨(Aw d),some ⟨p,0,none⟩,d⟩):=fun r=>fK
 have e1:DC.Is (Ea g (⟨CL,ca,y⟩:Sv Int) (AH k oa oc) ⟨(A7 i),some ⟨o,0,none⟩,i⟩ ⟨(A7 d),some ⟨u,0,none⟩,d⟩ ⟨(Aw d),some ⟨p,0,none⟩,d⟩) { Wj g.er.pr with ths:= [] } :=⟨by show CL=g.vars.l++List.replicate (Yl g.arrs.l).toNat 0;rw [<-hCL];unfold Qg;rw [cG],by show List.replicate k (-1:Int)=List.replicate g.mu.toNat (-1);rw [l0];rfl,by show (A7 i).map Sv.l=List.replicate g.co.toNat [];rw [s0,jG];rfl,by show (A7 d).map Sv.l=(g.chs.l.map fun r=>(⟨r, [],0⟩:Ch)).map Ch.items;rw [jG,List.map_map,j];exact (List.eq_replicate_iff.2 ⟨by simp,fun x hx=>by obtain ⟨_,_,rfl⟩:=cI.1 hx;rfl⟩).symm,by show List.replicate d (0:Int)=(g.chs.l.map fun r=>(⟨r, [],0⟩:Ch)).map fun c=>(c.taken:Int);rw [List.map_map,j];exact (List.eq_replicate_iff.2 ⟨by simp,fun x hx=>by obtain ⟨_,_,rfl⟩:=cI.1 hx;rfl⟩).symm,rfl,rfl⟩;have v0:0<=g.main/\g.main<g.ths.l.length:=⟨hM.m.1,by have:=hM.m.2;rw [g_th] at this;exact this⟩;obtain ⟨mn,k0⟩:=aE v0.1;have w:mn<g.ths.l.length:=(by omega);refine rn [2,0,1,0] ?_;refine aM 49 (.agg (Y3 (Ea g (⟨CL,ca,y⟩:Sv Int) (AH k oa oc) ⟨(A7 i),some ⟨o,0,none⟩,i⟩ ⟨(A7 d),some ⟨u,0,none⟩,d⟩ ⟨(Aw d),some ⟨p,0,none⟩,d⟩)).toArray) rfl (rfl) ?_;refine aM 51 (Al mn) rfl (by rw [<-k0]) ?_;refine Zx call51 (aD _) (Pj (D:=(Ea g (⟨CL,ca,y⟩:Sv Int) (AH k oa oc) ⟨(A7 i),some ⟨o,0,none⟩,i⟩ ⟨(A7 d),some ⟨u,0,none⟩,d⟩ ⟨(Aw d),some ⟨p,0,none⟩,d⟩)) (s:= { Wj g.er.pr with ths:= [] }) (n:=mn) ((b1 _).le leA) e1 w hM (bC _)) ?_;rintro _ _ ⟨D2,rfl,rfl,d1,a0⟩;refine rn [0,3,0] ?_;have q0:D2.Is (BB g):=(by have h:=d1;rw [show (mn:Int)=g.er.pr.main from k0.symm] at h;exact h);have u0:SS.ok D2.g.er 0 (BB g):=(by rw [a0];exact (H6 hM).ok);have o0: ∀ r,Kn (docM D2::r) fun M=>DC.At M D2:=fun r=>fK
 refine Zx call52 (aD _) (Ts (D:=D2) (S0:=Wj g.er.pr) ((o0 _).le leA) q0 u0) ?_;rintro _ _ ⟨D3,rfl,rfl,r0,p0⟩;refine rn [0,1] ?_;refine bK (q':=docM D3::_) (bY (φ:=fun M=>DC.At M D3) (mn:=fun e h=>cM e h) (((o0 _).le leA).imp fun M h=>by rw [r0];exact h.out _)) ?_;refine Zq (docM D3::q) func23 (rA_ results23) ⟨_,rfl,D3,rfl,rfl,by rw [r0];exact a0,by rw [a0] at p0;exact p0⟩
def SS.dstep (p:PPr)(s:SS)(k:Int):SS×PEv×Bool:=
 if s.all p= [] then (s,zE0,false) else ((s.step p ((s.all p).getD (SS.ix k (s.all p).length) 0).toNat).1,(s.step p ((s.all p).getD (SS.ix k (s.all p).length) 0).toNat).2,true)
theorem ix_pos (h:0<n)(h8:n<=1000)(hk:0<=k.tmod n):(SS.ix k n:Int)=k.tmod n:=by
 obtain ⟨⟨_,b⟩,⟨a,_⟩,_⟩:=Ih (k:=k) h h8;unfold SS.ix;rw [iY a];have e:(k.tmod n+n).tmod n=(k.tmod n+n) % n:=Int.tmod_eq_emod_of_nonneg (by omega);rw [e,Int.add_emod_right,Int.emod_eq_of_lt hk b]
theorem ix_neg (h:0<n)(h8:n<=1000)(hk:k.tmod n<0):(SS.ix k n:Int)=k.tmod n+n:=by
 obtain ⟨⟨b,_⟩,⟨a,_⟩,_⟩:=Ih (k:=k) h h8;unfold SS.ix;rw [iY a];exact Int.tmod_eq_of_lt (by omega) (by omega)
structure VdC where
 decl:Int
 st:Int
 loc:Sv Int
 nx:Int
 sp:Sv Int
def vdC (x:VdC):List Value:= [I64 x.decl,I64 x.st,x.loc.v,I64 x.nx,x.sp.v]
section
variable {z:Int}
theorem I3 (hK:Kn q fun M=>D.At M)(hI:D.Is S0)(hF:S0.fine D.g.er N)(hM:MayP D.g.er)(hN:N<=900)(hk: -9223372036854775808<=k/\k<=9223372036854775807):CallF prog G 26 [.agg (Y3 D).toArray,I64 k] (q) (Ret fun v q'=> ∃ (D':DC) (x':EvC),v= .tuple [.agg (Y3 D').toArray,.agg (evC x').toArray,.bool (S0.dstep D.g.er.pr k).2.2].toArray/\q'=docM D'::(evL x'++q)/\D'.g=D.g/\D'.Is (S0.dstep D.g.er.pr k).1/\x'.e=(S0.dstep D.g.er.pr k).2.1):=by
 refine aC func26 ntmps26 rfl fun F cs=> ?_;have o:=Ky D.g.er.pr S0;have h8:=hF.ok.t.2;obtain ⟨L,p⟩:=lA (S0.all D.g.er.pr);rw [<-p] at o;obtain ⟨R,b⟩:=lA (S0.dstep D.g.er.pr k);rw [<-b];unfold SS.dstep at b;rw [<-p] at b;refine xo 2 ?_;refine Z0 fun n1=> ?_
 refine bE zeroValue70 fun n2=> ?_
 refine bE zeroValue47 fun n3=> ?_
 refine rn [4,0] ?_;refine Zx call28 (aD _) (Fq (D:=D) (S0:=S0) (N:=N) (hK.le leA) hI hF.ok) ?_;rintro _ _ ⟨a1,c1,rfl,rfl⟩;rw [<-p];refine ox 9 ?_;refine xp 15 ?_ ?_<;>intro h1
 . rw [if_pos (aP (by omega))] at b;refine rn [3,0,1,0,0,2] ?_;refine bK (q':=docM D::_) (bY (φ:=fun M=>DC.At M D) (mn:=fun e h=>cM e h) (bU hK leA)) ?_;refine bK (Zm acC 3 140 _) (bK (Zm snC 3 50 _) ?_);refine Zq (docM D::(evL (evZ 0 0)++q)) func26 (Vn results26) ⟨_,rfl,D,evZ 0 0,by rw [b];rfl,rfl,rfl,by rw [b];exact hI,by rw [b];rfl⟩ (by unfold evL;exact leA)
 have a:0<L.length:=(by omega);rw [if_neg (fun k=>by rw [k] at a;exact bD a (by decide))] at b;obtain ⟨d0,c0,c⟩:=Ih (k:=k) a (by omega);rw [Yg c] at b;have w: ∀ z∈L,∃ n:Nat,z=n/\n<S0.ths.length/\S0.can D.g.er.pr n=true:=fun z hz=>G4 (by rw [<-p];exact hz);obtain ⟨u,j,y,a0⟩:=w _ (aA c);rw [j,show ((u:Int)).toNat=u from rfl] at b
 refine Ur (l:=L) a fun gl s=> ?_;have f: ∀ r,Sees (lsH I64 3 a1 c1 L::r) (some ⟨gl,0,none⟩) (L.map I64):=fun r=>by rw [<-s];exact bQ r
 refine xx 16 ?_;refine xp 23 ?_ ?_<;>intro h2
 focus
  refine rn [9,0,1,2,3] ?_;refine bW 31 (I64 (SS.ix k L.length:Int)) rfl (by rw [ix_neg a (by omega) h2]) ?_
 rotate_left
 focus
  refine rn [3,0,1,2,3] ?_;refine bW 31 (I64 (SS.ix k L.length:Int)) rfl (by rw [ix_pos a (by omega) h2]) ?_
 all_goals
  refine rf [3030,4] s ?_;refine ldD 4 ?_ (hc:=(((f _).le leA).at rfl c));refine bW 33 (Al u) rfl (by rw [j]) ?_;refine Z7 (fl:= [⟨9,9,fun g=> pt g,fun g=>pto g Ad⟩,⟨10,10,fun g=> pt g,fun g=>pto g Ag⟩]) ?_;refine Ji 5 ⟨⟨_,rfl,rfl,rfl,rfl,rfl,rfl,fun q=>bA zeroValue70⟩,⟨_,rfl,rfl,rfl,rfl,rfl,rfl,fun q=>bA zeroValue47⟩,trivial⟩ call31 (aD _) (dDo_ok (D:=D) (S0:=S0) (n:=u) (N:=N) (hK.le leA) hI hF hM hN y a0) ?_ (hL:=(hlA (h:=by repeat first|exact trivial|refine ⟨clA,?_⟩|refine ⟨(((f _).le leA).at rfl c),?_⟩)));rintro _ _ ⟨D2,x2,rfl,rfl,m,b0,x⟩;refine ⟨trivial,?_⟩;simp only [evL,ca,na];refine Vl 6 ⟨⟨_,rfl,rfl,rfl,rfl,rfl,rfl,fun q=>bA zeroValue70⟩,⟨_,rfl,rfl,rfl,rfl,rfl,rfl,fun q=>bA zeroValue47⟩,trivial⟩ (jM rfl) ?_;refine Vl 7 ⟨⟨_,rfl,rfl,rfl,rfl,rfl,rfl,fun q=>bA zeroValue70⟩,⟨_,rfl,rfl,rfl,rfl,rfl,rfl,fun q=>bA zeroValue47⟩,trivial⟩ (eB rfl rfl) ?_;refine Vl 8 ⟨⟨_,rfl,rfl,rfl,rfl,rfl,rfl,fun q=>bA zeroValue70⟩,⟨_,rfl,rfl,rfl,rfl,rfl,rfl,fun q=>bA zeroValue47⟩,trivial⟩ (eB rfl rfl) ?_;refine Yn (e0:=⟨9,9,fun g=> pt g,fun g=>pto g Ad⟩) (hnd:=by simp) 9 ⟨⟨_,rfl,rfl,rfl,rfl,rfl,rfl,fun q=>bA zeroValue70⟩,⟨_,rfl,rfl,rfl,rfl,rfl,rfl,fun q=>bA zeroValue47⟩,trivial⟩ fun i=> ?_;change XF _ _ _ _ _ _ _ [⟨10,10,fun g=> pt g,fun g=>pto g Ag⟩] _ _ _ ((9,.pointer (some ⟨i,0,none⟩))::_) _ _ (pto i Ad::_);refine Yn (e0:=⟨10,10,fun g=> pt g,fun g=>pto g Ag⟩) (hnd:=by simp) 10 ⟨⟨_,rfl,rfl,rfl,rfl,rfl,rfl,fun q=>bA zeroValue47⟩,trivial⟩ fun d=> ?_;change XF _ _ _ _ _ _ _ [] _ _ _ ((10,.pointer (some ⟨d,0,none⟩))::_) _ _ (pto d Ag::_);refine dO ?_;refine rn [12,13,0,1,0,1,2] ?_;refine Zj5 2 ?_ (hh:=(hlA (h:=by repeat first|exact trivial|refine ⟨clA,?_⟩|refine ⟨(((f _).le leA).at rfl c),?_⟩)));refine rn [4,5,0] ?_;refine Zq (docM D2::(evL x2++q)) func26 (Vn results26) ⟨_,rfl,D2,x2,by rw [b];rfl,rfl,m,by rw [b];exact b0,by rw [b];exact x⟩ (by unfold evL;exact leA)
end
section
variable {z:Int}
theorem dview_ok (hK:Kn q fun M=>D.At M)(hn:n<D.ths.l.length):CallF prog G 55 [.agg (Y3 D).toArray,I64 n] (q) (Ret fun v q'=>v= .agg (vdC ⟨(D.ths.l[n]).decl,(D.ths.l[n]).st,(D.ths.l[n]).loc,(D.ths.l[n]).er.nx,(D.ths.l[n]).sp⟩).toArray/\q'=q):=by
 refine aC func55 ntmps55 rfl fun F cs=> ?_;have u:=bV (hK.imp fun M h=>h.ths);have f:=Zv Wq D.ths.l;obtain ⟨T,p⟩:=lA D.ths.l[n];rw [<-p];have o:Kn q fun M=>T.At M:=hK.imp fun M h=>h.t T (p ▸ aA hn);have i:=eL (o.imp fun M h=>h.lft.1.2.2);have e:=Zv Ze T.lft.l
 refine Zs (u.le leA) (by rw [f];omega) fun ab ao w=> ?_;have j:=u;rw [w] at j;have hC:CellsAt q ab (ao+(n:Int).toNat*5) (dtC T):=by rw [p];exact eV j (aD _) Wq hn rfl
 refine xo 2 ?_;refine Z0 fun n1=> ?_
 refine bE zeroValue101 fun n2=> ?_
 refine rf [4,0,1,3008,1] w ?_;refine Qi (us:=dtC T) isAgg142 sizeOf142 rfl (hC.le leA) ?_;refine bE zeroValue142 fun n3=> ?_
 refine rn [0,4,0,1,0,1,0,1,0,1] ?_;refine bE zeroValue101 fun n4=> ?_
 refine rn [0,5,0,3] ?_;refine xp 24 ?_ ?_<;>intro h1
 . have b:0<T.lft.l.length:=(by omega);refine Zs (i.le leA) (by rw [e];omega) fun lb lo k=> ?_;have c:=i;rw [k] at c;obtain ⟨Y,g,d⟩: ∃ Y,T.lft.l[0]? =some Y/\T.er.nx=Y.er.idn:=(by unfold PTr.nx PTr.next;rw [show T.er.left=Zk T.lft.l from rfl];cases hq:T.lft.l with|nil=>(rw [hq] at b;exact bD b (by decide))|cons a r=>exact ⟨a,rfl,by rw [if_neg (by simp [Zk])];rfl⟩);have m:T.lft.l[0]=Y:=(by rw [aH b] at g;exact gC g);have s:CellsAt q lb (lo+(0:Int).toNat*25) (stC Y):=by rw [<-m];exact eV c (aD _) Ze b rfl
   obtain ⟨kk,ln,cl,nm,wt,⟨ek,en,e0,b0,f0,d0,el,ea,ec⟩,⟨xk,xn,y,xsl,z,x,xl,xa,xc⟩,bd,c0,ba,bc,h0,g0,id,sl,ot,a0⟩:=Y;refine rg [3,0,3026,2,0,1,0,3,0,0,1] k s ?_;refine Zq (q) func55 (rA_ results55) ⟨_,rfl,by rw [d];rfl,rfl⟩
 have d:T.er.nx= -1:=(by unfold PTr.nx;rw [if_pos];show Zk T.lft.l= [];exact aP (by rw [Zf];omega));refine rn [4,0,0,1] ?_;refine Zq (q) func55 (rA_ results55) ⟨_,rfl,by rw [d];rfl,rfl⟩
variable {b:Option Addr}{c d:Nat}
theorem Dr (ha:Sees q a (l.map I64))(hb:Sees q b (l.map I64))(hl:l.length<=9223372036854775807):CallF prog G 20 [.slice a l.length c,.slice b l.length d] (q) (Am q):=by
 refine aC func20 ntmps20 rfl fun F n=> ?_;refine rn [13,1010,8] ?_;refine aZ (cD (fun (s:Nat)=>s<=l.length) (fun s=> [(0,.slice a l.length c),(1,.slice b l.length d),(5,I64 s)]) (fun s=>q++F) (fun s=>l.length - s) (fun s e j=> ?_) 0 (bC _)) Zg leA;try dsimp only at e j|-
 obtain hi:=e;refine xx 8 ?_;refine dH 14 rfl ?_ ?_<;>intro k
 . replace k:=sp k;have m:s<l.length:=(by omega);refine Zs (ha.le leA) (by rw [aG];omega) fun r p i=> ?_;have g:=ha;rw [i] at g;refine Zs (hb.le leA) (by rw [aG];omega) fun bb o h=> ?_;have f:=hb;rw [h] at f;refine rh [5,0,1,2,3017,3,4,5,6,3021,7] i g h ?_;refine rf [8,9,0,1025,8] f ?_;refine aZ (j (s+1) (by omega) (by omega)) Zg leA
 refine xx 6 ?_;refine Zq (q) func20 (Zh results20 rfl) ⟨_,rfl,rfl,rfl⟩
theorem Sq (ha:Sees q a (l.map I64))(hb:Sees q b (l.map I64))(hl:l.length<=9223372036854775807):CallF prog G 53 [.slice a l.length c,.slice b l.length d] (q) (Am q):=by
 refine aC func53 ntmps53 rfl fun F n=> ?_;refine rn [13,1010,8] ?_;refine aZ (cD (fun (s:Nat)=>s<=l.length) (fun s=> [(0,.slice a l.length c),(1,.slice b l.length d),(5,I64 s)]) (fun s=>q++F) (fun s=>l.length - s) (fun s e j=> ?_) 0 (bC _)) Zg leA;try dsimp only at e j|-
 obtain hi:=e;refine xx 8 ?_;refine dH 14 rfl ?_ ?_<;>intro k
 . replace k:=sp k;have m:s<l.length:=(by omega);refine Zs (ha.le leA) (by rw [aG];omega) fun r p i=> ?_;have g:=ha;rw [i] at g;refine Zs (hb.le leA) (by rw [aG];omega) fun bb o h=> ?_;have f:=hb;rw [h] at f;refine rh [5,0,1,2,3017,3,4,5,6,3021,7] i g h ?_;refine rf [8,9,0,1025,8] f ?_;refine aZ (j (s+1) (by omega) (by omega)) Zg leA
 refine xx 6 ?_;refine Zq (q) func53 (Zh results53 rfl) ⟨_,rfl,rfl,rfl⟩
variable {x:VwC}{y:VdC}
theorem Se (h1:x.decl=y.decl)(h2:x.st=y.st)(h3:x.loc=y.loc.l)(h4:x.nx=y.nx)(h5:x.sp=y.sp.l)(ha:Sees q x.la (x.loc.map I64))(hb:Sees q y.loc.a (y.loc.l.map I64))(hc:Sees q x.sa (x.sp.map I64))(hd:Sees q y.sp.a (y.sp.l.map I64))(hl:x.loc.length<=1000/\x.sp.length<=1000):CallF prog G 54 [.agg (vwC x).toArray,.agg (vdC y).toArray] (q) (Am q):=by
 refine aC func54 ntmps54 rfl fun F z=> ?_;obtain ⟨t,o,⟨s,f,e⟩,r,⟨p,d,c⟩⟩:=y;obtain ⟨n,i,k,j,m,u,h,g,b⟩:=x;dsimp only at h1 h2 h3 h4 h5 ha hb hc hd hl;subst h1 h2 h3 h4 h5;refine xo 2 ?_;refine Z0 fun w=> ?_
 refine Z0 fun v=> ?_
 refine rn [5,0,1,0,2,2010,1,0,1,0,3,2017,1,0,1,0,3,2024,1,0,1,0] ?_;refine aU call20 (Dr (ha.le leA) (hb.le leA) (by omega)) ?_;refine rn [2,2031,1,0,1,0] ?_;refine aU call53 (Sq (hc.le leA) (hd.le leA) (by omega)) ?_;refine ox 3 ?_;refine Zq (q) func54 (Zh results54 rfl) ⟨_,rfl,rfl,rfl⟩
variable {x:EvC}{y:EvC}
theorem Ja (hx:x.e=y.e)(ha:Sees q x.aa (x.e.acc.flatMap acC))(hb:Sees q y.aa (y.e.acc.flatMap acC))(hc:Sees q x.na (x.e.syn.flatMap snC))(hd:Sees q y.na (y.e.syn.flatMap snC))(hl:x.e.acc.length<=9223372036854775807/\x.e.syn.length<=9223372036854775807):CallF prog G 27 [.agg (evC x).toArray,.agg (evC y).toArray] (q) (Am q):=by
 refine aC func27 ntmps27 rfl fun F cs=> ?_;obtain ⟨ye,c0,b0,a0,z⟩:=y;obtain ⟨a,g0,f0,e0,d0⟩:=x;dsimp only at hx ha hb hc hd hl;subst hx;have o:=Zv W5 a.acc;have m:=Zv Y4 a.syn;obtain ⟨k0,j0⟩:=hl;refine xo 2 ?_;refine Z0 fun n1=> ?_
 refine Z0 fun n2=> ?_
 refine rn [6,0,1,0,2,1012,1,0,1,0,3,1019,1,0,1,0,3,1026,1,0,1,0,3,1033,1,0,1,0,3,1040,1,0,1,0,3,1047,1,0,1,0,3,1054,1,0,2,0,4,1063,1,0,2,0,4,1071,8] ?_;refine aZ (cD (fun (s:Nat)=>s<=a.acc.length) (fun s=> [(2,pt n1),(3,pt n2),(5,I64 s)]) (fun s=>pto n1 (.cells (evC ⟨a,g0,f0,e0,d0⟩).toArray 47 (0,0))::pto n2 (.cells (evC ⟨a,c0,b0,a0,z⟩).toArray 47 (0,0))::(q++F)) (fun s=>a.acc.length - s) (fun s c p=> ?_) 0 (bC _)) Zg leA;try dsimp only at c p|-
 obtain hi:=c;refine rn [5,0,3] ?_;refine xp 76 ?_ ?_<;>intro h0
 . have b:s<a.acc.length:=(by omega);refine Zs (ha.le leA) (by rw [o];omega) fun ab ao h=> ?_;have f:=ha;rw [h] at f;refine Zs (hb.le leA) (by rw [o];omega) fun bb bo g=> ?_;have d:=hb;rw [g] at d;have i0:a.acc[s]=a.acc[s]:=rfl;obtain ⟨⟨l,j,i⟩,hz⟩:=lA a.acc[s];have v: ∀ (Q:List HP),Le Q q-> ∀ (k:Nat) (u:Value),(acC (l,j,i))[k]? =some u->Cl Q ⟨ab,ao+(s:Int).toNat*3+k,none⟩ u:=fun Q w k u r=>cF (n:=s) f w W5 b rfl k u (by rw [<-hz];exact r)
   have t: ∀ (Q:List HP),Le Q q-> ∀ (k:Nat) (u:Value),(acC (l,j,i))[k]? =some u->Cl Q ⟨bb,bo+(s:Int).toNat*3+k,none⟩ u:=fun Q w k u r=>cF (n:=s) d w W5 b rfl k u (by rw [<-hz];exact r)
   refine rf [5,0,1,2,3,3080,4] h ?_;refine iM 4 (us:=acC (l,j,i)) rfl rfl isAgg140 sizeOf140 rfl (v _ leA) ?_;refine rf [6,7,8,3085,9] g ?_;refine iM 9 (us:=acC (l,j,i)) rfl rfl isAgg140 sizeOf140 rfl (t _ leA) ?_;refine Vx 10 rfl (L4 rfl rfl (by kernel_rfl) (EqV.struct underlying140 (by kernel_rfl) (by kernel_rfl) ⟨_,_,_,_,rfl,rfl,isAgg3,(gR underlying3 _ _),⟨_,_,_,_,rfl,rfl,isAgg4,(EqV.bool underlying4 _ _),⟨_,_,_,_,rfl,rfl,isAgg2,(gR underlying2 _ _),rfl,rfl⟩,rfl⟩,rfl⟩)) ?_;refine rn [0,1089,8] ?_;refine aZ (p (s+1) (by omega) (by omega)) Zg leA
 clear p;refine xx 8 ?_;refine aZ (cD (fun (s:Nat)=>s<=a.syn.length) (fun s=> [(2,pt n1),(3,pt n2),(6,I64 s)]) (fun s=>pto n1 (.cells (evC ⟨a,g0,f0,e0,d0⟩).toArray 47 (0,0))::pto n2 (.cells (evC ⟨a,c0,b0,a0,z⟩).toArray 47 (0,0))::(q++F)) (fun s=>a.syn.length - s) (fun s c p=> ?_) 0 (bC _)) Zg leA;try dsimp only at c p|-
 obtain hi:=c;refine rn [5,0,3] ?_;refine xp 94 ?_ ?_<;>intro h0
 . have b:s<a.syn.length:=(by omega);refine Zs (hc.le leA) (by rw [m];omega) fun ab ao h=> ?_;have f:=hc;rw [h] at f;refine Zs (hd.le leA) (by rw [m];omega) fun bb bo g=> ?_;have d:=hd;rw [g] at d;have i0:a.syn[s]=a.syn[s]:=rfl;obtain ⟨⟨l,j,i⟩,hz⟩:=lA a.syn[s];have v: ∀ (Q:List HP),Le Q q-> ∀ (k:Nat) (u:Value),(snC (l,j,i))[k]? =some u->Cl Q ⟨ab,ao+(s:Int).toNat*3+k,none⟩ u:=fun Q w k u r=>cF (n:=s) f w Y4 b rfl k u (by rw [<-hz];exact r)
   have t: ∀ (Q:List HP),Le Q q-> ∀ (k:Nat) (u:Value),(snC (l,j,i))[k]? =some u->Cl Q ⟨bb,bo+(s:Int).toNat*3+k,none⟩ u:=fun Q w k u r=>cF (n:=s) d w Y4 b rfl k u (by rw [<-hz];exact r)
   refine rf [5,0,1,2,3,3098,4] h ?_;refine iM 4 (us:=snC (l,j,i)) rfl rfl isAgg50 sizeOf50 rfl (v _ leA) ?_;refine rf [6,7,8,3103,9] g ?_;refine iM 9 (us:=snC (l,j,i)) rfl rfl isAgg50 sizeOf50 rfl (t _ leA) ?_;refine Vx 10 rfl (L4 rfl rfl (by kernel_rfl) (EqV.struct underlying50 (by kernel_rfl) (by kernel_rfl) ⟨_,_,_,_,rfl,rfl,isAgg48,(gR underlying48 _ _),⟨_,_,_,_,rfl,rfl,isAgg3,(gR underlying3 _ _),⟨_,_,_,_,rfl,rfl,isAgg3,(gR underlying3 _ _),rfl,rfl⟩,rfl⟩,rfl⟩)) ?_;refine rn [0,1107,8] ?_;refine aZ (p (s+1) (by omega) (by omega)) Zg leA
 clear p;refine xx 6 ?_;refine Zq (q) func27 (Zh results27 rfl) ⟨_,rfl,rfl,rfl⟩
end
def Lk (F:Fnd)(N:Nat)(s:SS)(g:FC)(U:StC):Prop:=g.er=F/\U.er=s/\MayP F/\s.fine F N/\s.pg=s
def gH (p:Nat)(F:Fnd)(N:Nat)(s:SS):HP:=ex fun x:Nat×FC×StC=>stars (pure (Lk F N s x.2.1 x.2.2)::stP p x.1 x.2.2::(Zo x.2.2++ [prM x.1 x.2.1,tdM x.2.2.ths]))
theorem Js {fn:FuncId}{p:Nat}{R:Wx.Q2}
 (h: ∀ (U:StC) (pp:Nat) (g:FC),g.er=F->U.er=s->Hd (prM pp g::tdM U.ths::q) pp g N U->CallF P G fn vs (stP p pp U::(Zo U++(prM pp g::tdM U.ths::q))) R):CallF P G fn vs (gH p F N s::q) R:=by
 intro E w st k;obtain ⟨⟨pp,g,U⟩,c⟩:=St.get_ex st;have b:=c.le (Z3 _ (q++E));obtain ⟨j,i,f,e,d⟩:=b.get_pure;have a:=b.le (eM _ _);subst j i;refine h U pp g rfl rfl ⟨Prg.of Kn.prM,f,e,d,Kn.there Kn.tdM⟩ E w ?_ k;show St G w (stP p pp U::(Zo U++(prM pp g::tdM U.ths::q))++E)
 simp only [eH,aB] at a|-;exact a
theorem Hk {p pp:Nat}{U:StC}{t0:List TC}(h:Hd (prM pp g::tdM t0::q) pp g N U)(E:List HP):Le (stP p pp U::(Zo U++(E++(prM pp g::tdM t0::q)))) (gH p g.er N U.er::(E++q)):=by
 have c:Le (prM pp g::tdM t0::q) (tdM U.ths::prM pp g::tdM t0::q):=bY (φ:=fun M=>TodoAt M U.ths) (mn:=fun e h=>TodoAt.mono e h) h.T;have b:Le (prM pp g::tdM t0::q) (prM pp g::tdM U.ths::q):=c.trans ((iT _ _ _).trans (dJ _ (dJ _ (eM _ _))));have a:Le (E++(prM pp g::tdM t0::q)) ([prM pp g,tdM U.ths]++(E++q)):=(dT E b).trans (Vk E [prM pp g,tdM U.ths] q);refine Dv ((pp,g,U):Nat×FC×StC) ?_;refine bB ?_ (Yk (pure (Lk g.er N U.er g U)::stP p pp U::(Zo U++ [prM pp g,tdM U.ths])) (E++q));refine bB (dJ _ (dT (Zo U) a)) (bB (Uu (φ:=Lk g.er N U.er g U) ⟨rfl,rfl,h.M,h.F,h.G⟩ _) ?_);simp only [eH,aB];exact aD _
theorem Le.gFine {p:Nat}{ds:List HP}(h:MayP F->s.fine F N->s.pg=s->Le (gH p F N s::q) ds):Le (gH p F N s::q) ds:=by
 refine Le.of_ex fun x=>(Z3 _ q).trans (Zql fun a=> ?_)
 obtain ⟨f,e,d,c,b⟩:=id a;refine bB ?_ (h d c b);exact Dv x ((Uu a _).trans (Yk (pure (Lk F N s x.2.1 x.2.2)::stP p x.1 x.2.2::(Zo x.2.2++ [prM x.1 x.2.1,tdM x.2.2.ths])) q))
theorem Lu {f:Fc}{Q:Y9}{todo:List Item}{p:PE}{ds:List Deferred}{cs:List Frame}{pn:Nat}
 (x:MayP F->s.fine F N->s.pg=s->X P G f Q todo p ds cs (gH pn F N s::q)):X P G f Q todo p ds cs (gH pn F N s::q):=
 bK (q':=pure (MayP F/\s.fine F N/\s.pg=s)::gH pn F N s::q) (Le.gFine fun a b c=>Uu ⟨a,b,c⟩ _) (X.pure fun h=>x h.1 h.2.1 h.2.2)
theorem SS.fine.th8 (h:s.fine F N):s.ths.length<=8:=h.ok.t.2
theorem SS.fine.cells (h:s.fine F N)(hM:MayP F):s.cells.length<=1000:=by
 have d:=h.ok.c;have b:=hM.l.1;have a:=hM.s;omega
section
variable {p:Nat}{z:Int}{picks:List Int}{pa:Option Addr}{pc:Nat}
theorem E8 {l:Bs}(hT:Hg l=some g.er)(hK:Kn q fun M=>g.At M):CallF prog G 15 [.agg (pgC g).toArray] q (Ret fun v q'=> ∃ p,v= .tuple (Bu p).toArray/\q'=gH p g.er 0 (Wj g.er.pr)::q):=
 dF (aD _) (pnew_ok (B:=14*65536) hK (FC.cp hT)) (by
  have f:=(Mo hT).m;have h:=Ri f;rintro _ _ ⟨_,rfl,(⟨_,p,e,b,U,d,c,rfl,rfl⟩|⟨i,_,_⟩)⟩
  . have a:MayP b.er:=by rw [d];exact h
    have j:Hd (prM e b::tdM U.ths::q) e b 0 U:=⟨Prg.of Kn.prM,a,by rw [c,d];exact H6 h,by rw [c];rfl,Kn.there Kn.tdM⟩;refine ⟨_,⟨_,rfl,p,rfl,rfl⟩,?_⟩;rw [<-c,<-d];exact Hk (E:= []) j
  rw [f] at i;cases i)
theorem Zjj (hN:N+picks.length<=899)(hs:Sees q pa (picks.map I64))(hk: ∀ k∈picks, -9223372036854775808<=k/\k<=9223372036854775807):CallF prog G 16 [.pointer (some ⟨p,0,none⟩),.slice pa picks.length pc] (gH p F N s::q)
 (Ret fun v q'=> ∃ (L:List EvC) (a':Option Addr) (c':Nat),v= .tuple [.slice a' L.length c',.agg (otC ((Ye F.pr s picks).1.outc F.pr)).toArray].toArray/\q'=gH p F (N+picks.length) (Ye F.pr s picks).1::(Ta a' c' L++q)/\L.map EvC.e=(Ye F.pr s picks).2/\L.length<=picks.length):=
 Js fun U j g i h d=>dF (aD _) (SRun_ok d hN (hs.le ((eM _ _).trans (eM _ _))) hk) (by
  subst i h;rintro _ _ ⟨_,rfl,l,L,a',c',rfl,rfl,a,b,f,c⟩;refine ⟨_,⟨_,rfl,L,a',c',by rw [b],rfl,f,c⟩,?_⟩;rw [<-b];exact Hk a (Ta a' c' L))
theorem gStep_ok (hN:N<=899)(hk: -9223372036854775808<=k/\k<=9223372036854775807):CallF prog G 19 [.pointer (some ⟨p,0,none⟩),I64 k] (gH p F N s::q)
 (Ret fun v q'=> ∃ x:EvC,v= .tuple [.agg (evC x).toArray,I64 (SS.stepP F.pr s k).2.2].toArray/\q'=gH p F (N+1) (SS.stepP F.pr s k).1::(evL x++q)/\x.e=(SS.stepP F.pr s k).2.1):=
 Js fun U j g i h c=>dF (aD _) (Ox c hN hk) (by
  subst i h;rintro _ _ ⟨_,rfl,x,d,e,rfl,rfl,f,a⟩;have b:=c.step (U':=d) (k:=k) (by rw [a]) f;refine ⟨_,⟨_,rfl,x,by rw [a],rfl,by rw [a]⟩,?_⟩;rw [a];exact Hk b (evL x))
theorem gDo_ok (hN:N<=899):CallF prog G 30 [.pointer (some ⟨p,0,none⟩),I64 z] (gH p F N s::q)
 (Ret fun v q'=> ∃ x:EvC,v= .tuple [.agg (evC x).toArray,I64 (SS.doP F.pr s z).2.2].toArray/\q'=gH p F (N+1) (SS.doP F.pr s z).1::(evL x++q)/\x.e=(SS.doP F.pr s z).2.1):=
 Js fun U j g i h c=>dF (aD _) (SDo_ok c hN) (by
  subst i h;rintro _ _ ⟨_,rfl,x,d,e,rfl,rfl,f,a⟩;have b:=c.next (U':=d) (z:=z) (by rw [a]) f;refine ⟨_,⟨_,rfl,x,by rw [a],rfl,by rw [a]⟩,?_⟩;rw [a];exact Hk b (evL x))
theorem Dm:CallF prog G 21 [.pointer (some ⟨p,0,none⟩)] (gH p F N s::q) (Ret fun v q'=> ∃ a' c',v= .slice a' s.cells.length c'/\q'=gH p F N s::lsH I64 2 a' c' s.cells::q):=
 Js fun U b g d c a=>dF (aD _) (Zvq (by have:=a.F.cells a.M;show U.er.cells.length<=_;omega)) (by
  subst d c;rintro _ _ ⟨_,rfl,a',c',rfl,rfl⟩;exact ⟨_,⟨_,rfl,a',c',rfl,rfl⟩,(Vk [_] (stP p b U::Zo U) _).trans (Hk a [_])⟩)
theorem gThs_ok:CallF prog G 41 [.pointer (some ⟨p,0,none⟩)] (gH p F N s::q) (Ret fun v q'=>v= I64 s.ths.length/\q'=gH p F N s::q):=
 Js fun U d g c b a=>dF (aD _) D4 (by
  subst c b;rintro _ _ ⟨_,rfl,rfl,rfl⟩;exact ⟨_,⟨_,rfl,by rw [eN],rfl⟩,Hk a []⟩)
theorem gCan_ok (hN:N<=900):CallF prog G 40 [.pointer (some ⟨p,0,none⟩)] (gH p F N s::q) (Ret fun v q'=> ∃ a' c',v= .slice a' (s.all F.pr).length c'/\q'=gH p F N s::lsH I64 3 a' c' (s.all F.pr)::q):=
 Js fun U b g d c a=>dF (aD _) (Sw a.F.ok hN a.T) (by
  subst d c;rintro _ _ ⟨_,rfl,a',c',rfl,rfl⟩;exact ⟨_,⟨_,rfl,a',c',rfl,rfl⟩,(Vk [_] (stP p b U::Zo U) _).trans (Hk a [_])⟩)
theorem gOut_ok (hN:N<=900):CallF prog G 22 [.pointer (some ⟨p,0,none⟩)] (gH p F N s::q) (Ret fun v q'=>v= .agg (otC (s.outc F.pr)).toArray/\q'=gH p F N s::q):=
 Js fun U d g c b a=>dF (aD _) (T7 a.F.ok hN a.T) (by
  subst c b;rintro _ _ ⟨_,rfl,rfl,rfl⟩;exact ⟨_,⟨_,rfl,rfl,rfl⟩,Hk a []⟩)
theorem gSync_ok (hN:N<=900):CallF prog G 42 [.pointer (some ⟨p,0,none⟩)] (gH p F N s::q) (Ret fun v q'=> ∃ p2,v= .pointer (some ⟨p2,0,none⟩)/\q'=gH p F N s::yH p2 s.sy::q):=
 Js fun U b g d c a=>dF (aD _) (SSync_ok a.F.ok.y hN) (by
  subst d c;rintro _ _ ⟨_,rfl,p2,rfl,rfl⟩;exact ⟨_,⟨_,rfl,p2,rfl,rfl⟩,(Vk [_] (stP p b U::Zo U) _).trans (Hk a [_])⟩)
theorem Xi (hN:N<=900)(hn:n<s.ths.length):CallF prog G 39 [.pointer (some ⟨p,0,none⟩),I64 n] (gH p F N s::q)
 (Ret fun v q'=> ∃ x:VwC,(x.decl=(s.th n).decl/\x.st=(s.th n).st/\x.loc=(s.th n).loc/\x.nx=(s.th n).nx/\x.sp=(s.th n).sp)/\v= .tuple [.agg (vwC x).toArray,I64 0].toArray/\q'=gH p F N s::lsH I64 2 x.la x.lc x.loc::lsH I64 3 x.sa x.sc x.sp::q):=
 Js fun U d g f c b=>by
  have a:n<U.ths.length:=by rw [<-c,eN] at hn;exact hn
  refine dF (aD _) (Zqx b.F.ok hN a b.T) ?_;subst f c;rintro _ _ ⟨_,rfl,x,e,rfl,rfl⟩;refine ⟨_,⟨_,rfl,x,by rw [Z8 a];exact e,rfl,rfl⟩,(Vk [_,_] (stP p d U::Zo U) _).trans (Hk b [_,_])⟩
end
theorem P6 (p:PPr)(s:SS)(n:Nat):s.pg.can p n=s.can p n:=by
 unfold SS.pg;by_cases h:s.out.kind=4
 . rw [if_pos h]
 rw [if_neg h];unfold SS.can SS.th;simp only [zOut,h,show ¬ ((0:Int)=4) by decide]
theorem Tu (p:PPr)(s:SS):s.pg.all p=s.all p:=by
 unfold SS.all;congr 1;exact List.filter_congr fun n _=>P6 p s n
def SS.stood (p:PPr)(S:SS):Prop:=S.out=S.pg.outc p
theorem Jl (p:PPr)(s:SS):(s.stands p).stood p:=by
 unfold SS.stood SS.outc;rw [Hh,if_neg (show ¬ (zOut.kind=4) by decide)];unfold SS.stands;rfl
theorem O9 (p:PPr)(s:SS)(o:POut)(h:o.kind=4):({ s with out:=o } :SS).stood p:=by
 have e:({ s with out:=o } :SS).pg= { s with out:=o } :=by unfold SS.pg;rw [if_pos h]
 unfold SS.stood SS.outc;rw [e,if_pos h]
section
variable {p:Nat}{Fn:Fnd}
abbrev AU (v0:DC):=((.agg (Y3 v0).toArray):Value)
theorem Rf (hK:Kn q fun M=>D.At M)(hI:D.Is S)(hst:S.stood Fn.pr)(he:D.g.er=Fn)(hN:N<=900):CallF prog G 24 [.pointer (some ⟨p,0,none⟩),.agg (Y3 D).toArray] (gH p Fn N S.pg::q) (Ret fun v q'=>v= .bool true/\q'=gH p Fn N S.pg::q):=by
 refine aC func24 ntmps24 rfl fun F cs=> ?_;refine Lu fun hM hF hG=> ?_;have j:SS.ok Fn N S:=hF.ok.out_ S.out;have j0:SS.ok D.g.er N S:=(by rw [he];exact j);have h8:S.ths.length<=8:=j.t.2;have a0:=hI.len;have e1:S.cells.length<=1000:=hF.cells hM;unfold SS.stood at hst;have p0:=bV (hK.imp fun M h=>h.cells);rw [Z5,hI.cells] at p0;have c0:=bV (hK.imp fun M h=>h.own);rw [Z5] at c0;have b0:=bV (hK.imp fun M h=>h.waits);rw [Ud] at b0;have d0:=bV (hK.imp fun M h=>h.chans);rw [Ud] at d0;have y0:D.own.l.length<=64:=(by rw [hI.own];exact j.y.no);have x0:D.waits.l.length<=64:=(by rw [hI.wal];exact j.y.nc);have d1:D.chans.l.length<=64:=(by rw [hI.chl];exact j.y.nh);have w0:=Ky Fn.pr S;have i0:otC (S.pg.outc Fn.pr)=otC D.out:=(by rw [<-hst,hI.out]);refine xo 2 ?_;refine Z0 fun n1=> ?_
 refine rn [4,0,1,3,4] ?_;refine V4 1 call22 (gOut_ok (q:= []) hN) ?_;refine kc0 ?_;refine bW 19 (.agg (otC D.out).toArray) rfl (by rw [i0]) ?_;refine Vx 4 rfl (L4 rfl rfl (by kernel_rfl) (EqV.struct underlying41 (by kernel_rfl) (by kernel_rfl) ⟨_,_,_,_,rfl,rfl,isAgg38,(gR underlying38 _ _),⟨_,_,_,_,rfl,rfl,isAgg39,(gR underlying39 _ _),⟨_,_,_,_,rfl,rfl,isAgg3,(gR underlying3 _ _),⟨_,_,_,_,rfl,rfl,isAgg3,(gR underlying3 _ _),rfl,rfl⟩,rfl⟩,rfl⟩,rfl⟩)) ?_;refine dd [5] ?_;refine bW 23 bF rfl (cB (by first|rfl|simp)) ?_;refine rn [7,9,10] ?_;refine V4 7 call21 (Dm (q:= [])) ?_;refine kd2 fun a1 c1=> ?_
 refine ⟨hlA,?_⟩;refine bW 27 (.slice D.cells.a S.cells.length D.cells.c) rfl (by rw [<-hI.cells];rfl) ?_;refine Yx 10 call20 (Dr (l:=S.cells) ((bQ _).le Zj) (p0.le leA) (by omega)) ?_;refine Vx 11 rfl (bO rfl) ?_;refine dd [12,13] ?_;refine bW 31 bF rfl (cB (by first|rfl|simp)) ?_;refine rn [15,17,18,19] ?_;refine V4 15 call41 (gThs_ok (q:= [])) ?_;refine kc0 ?_;refine dd [19,20,21] ?_;refine bW 39 bF rfl (cB (gW.2 (by rw [a0];rfl))) ?_;refine rn [23,25] ?_;refine V4 23 call40 (gCan_ok (q:= []) hN) ?_;refine kd2 fun a2 c2=> ?_
 refine ⟨hlA,?_⟩;rw [Tu];refine bW 42 (AU D) rfl (rfl) ?_;refine Ym 25 call28 (aD _) (Fq (D:=D) (S0:=S) (N:=N) (hK.le leA) hI j0) ?_;refine kk2 fun a3 c3=> ?_
 rw [he];refine Yx 26 call53 (Sq (l:=S.all Fn.pr) ((bQ (a:=a2) (c:=c2) (ty:=3) _).le Zj) ((bQ (a:=a3) (c:=c3) (ty:=3) _).le Zj) (by omega)) ?_;refine Vx 27 rfl (bO rfl) ?_;refine rn [29,0,1046,8] ?_;have g0:S.pg.ths.length=D.ths.l.length:=(by rw [a0];rfl);refine aZ (cD (fun (s:Nat)=>s<=D.ths.l.length) (fun s=> [(0,.pointer (some ⟨p,0,none⟩)),(3,pt n1),(5,I64 s)]) (fun s=>gH p Fn N S.pg::pto n1 (Ay D)::(q++F)) (fun s=>D.ths.l.length - s) (fun s f r=> ?_) 0 (bC _)) Zg leA;try dsimp only at f r|-
 obtain hi:=f;refine rn [5,0,3] ?_;refine dH 51 rfl ?_ ?_<;>intro u
 . replace u:=sp u;have b:s<D.ths.l.length:=(by omega);have t0:=hI.th b;have m0:=hK.imp fun M h=>h.t _ (aA b);have o0:=bV (m0.imp fun M h=>h.loc);rw [Z5] at o0;have n0:=bV (m0.imp fun M h=>h.sp);rw [Z5] at n0;have k0:=j.at' hI b;have b1:(D.ths.l[s]).loc.l.length<=32:=k0.l;have z0:(D.ths.l[s]).sp.l.length<=8:=k0.p.1
   refine xo 8 ?_;refine Yi call39 (Xi (p:=p) (F:=Fn) (N:=N) (s:=S.pg) (q:= []) (n:=s) hN (by rw [g0];exact b)) ?_;rintro _ _ ⟨x,hx,rfl,rfl⟩ _ e_;simp only [ca,na] at e_;subst e_;rw [show S.pg.th s=S.th s from rfl,t0] at hx;obtain ⟨s0,r0,f0,q0,e0⟩:=hx;refine oo 3 ?_;refine bE zeroValue101 fun n2=> ?_
   refine rn [0,3,0,1,2,3] ?_;refine Zjm 62 ?_;refine rn [4,5,6] ?_;refine bW 64 (AU D) rfl (rfl) ?_;refine Yx 6 call55 (dview_ok (D:=D) (n:=s) (hK.le leA) b) ?_;refine bW 63 (.agg (vwC x).toArray) rfl (rfl) ?_;refine Yx 7 call54 (Se (x:=x) (y:=⟨(D.ths.l[s]).decl,(D.ths.l[s]).st,(D.ths.l[s]).loc,(D.ths.l[s]).er.nx,(D.ths.l[s]).sp⟩) s0 r0 f0 q0 e0 ((bQ (a:=x.la) (c:=x.lc) (ty:=2) _).le Zj) (o0.le leA) ((bQ (a:=x.sa) (c:=x.sc) (ty:=3) _).le Zj) (n0.le leA) ⟨by rw [f0];show (D.ths.l[s]).loc.l.length<=1000;omega,by rw [e0];show (D.ths.l[s]).sp.l.length<=1000;omega⟩) ?_;refine Vx 8 rfl (bO rfl) ?_;refine rn [10,0,1069,8] ?_;refine aZ (r (s+1) (by omega) (by omega)) Zg leA
 clear r;refine xo 5 ?_;refine Yi call42 (gSync_ok (p:=p) (F:=Fn) (N:=N) (s:=S.pg) (q:= []) hN) ?_;refine kd1 fun p2=> ?_
 refine ox 8 ?_;refine aZ (cD (fun (s:Nat)=>s<=D.own.l.length) (fun s=> [(3,pt n1),(8,.pointer (some ⟨p2,0,none⟩)),(9,I64 s)]) (fun s=>yH p2 S.pg.sy::gH p Fn N S.pg::pto n1 (Ay D)::(q++F)) (fun s=>D.own.l.length - s) (fun s f r=> ?_) 0 (bC _)) Zg leA;try dsimp only at f r|-
 obtain hi:=f;refine rn [5,0,3] ?_;refine dH 76 rfl ?_ ?_<;>intro u
 . replace u:=sp u;have b:s<D.own.l.length:=(by omega);refine Zs (c0.le leA) (by rw [aG];omega) fun ab ao e_=> ?_;have i:=c0;rw [e_] at i;have o:K9 S.pg.sy (s:Int)=(D.own.l[s],0):=(by unfold K9;rw [if_pos ⟨by omega,by show (s:Int)<(S.sy.owners.length:Int);rw [<-hI.own];omega⟩,show ((s:Int)).toNat=s from rfl,show S.pg.sy.owners=D.own.l from hI.own.symm,Yg b]);refine xo 8 ?_;refine Yi call56 (L7 (p:=p2) (s:=S.pg.sy) (m:=(s:Int)) (N:=N) hF.ok.y (by omega)) ?_;refine kd0 ?_;rw [o];refine rg [10,0,1,3087,1,0,2,1092,4,1095,8] e_ i ?_;refine aZ (r (s+1) (by omega) (by omega)) Zg leA
 clear r u;refine xx 8 ?_;refine aZ (cD (fun (s:Nat)=>s<=D.waits.l.length) (fun s=> [(3,pt n1),(8,.pointer (some ⟨p2,0,none⟩)),(12,I64 s)]) (fun s=>yH p2 S.pg.sy::gH p Fn N S.pg::pto n1 (Ay D)::(q++F)) (fun s=>D.waits.l.length - s) (fun s f r=> ?_) 0 (bC _)) Zg leA;try dsimp only at f r|-
 obtain hi:=f;refine rn [5,0,3] ?_;refine dH 100 rfl ?_ ?_<;>intro u
 . replace u:=sp u;have b:s<D.waits.l.length:=(by omega);refine Zs (b0.le leA) (by rw [aG];omega) fun ab ao e_=> ?_;have i:=b0;rw [e_] at i;obtain ⟨W,hW⟩:=lA D.waits.l[s];have o:K7 S.pg.sy (s:Int)=(W.l,0):=(by have e:=hI.wait_at b;unfold K7;rw [if_pos ⟨by omega,by show (s:Int)<(S.sy.conds.length:Int);rw [<-hI.wal];omega⟩,show ((s:Int)).toNat=s from rfl,show S.pg.sy=S.sy from rfl,e,hW]);have z:=bV (hK.imp fun M h=>h.w _ (aA b));rw [Z5,<-hW] at z;have v0:W.l.length<=N:=(by have:=(j.y.c _ (Yu (d:= []) (show s<S.sy.conds.length by rw [<-hI.wal];exact b))).1;rw [hI.wait_at b,<-hW] at this;exact this);refine xo 8 ?_;refine Yi call57 (Waits_Y (p:=p2) (s:=S.pg.sy) (k:=(s:Int)) (N:=N) hF.ok.y (by omega)) ?_;refine kd2 fun a5 c5=> ?_
   rw [o];refine rg [11,1111,2,0,1,3114,1,0] e_ i ?_;refine aM 117 (.slice W.a W.l.length W.c) rfl (by rw [hW];rfl) ?_;refine aU call53 (Sq (l:=W.l) ((bQ (a:=a5) (c:=c5) (ty:=3) _).le Zj) (z.le leA) (by omega)) ?_;refine Zi (bO rfl) ?_;refine rn [2,1120,8] ?_;refine aZ (r (s+1) (by omega) (by omega)) Zg leA
 clear r u;refine xx 8 ?_;refine aZ (cD (fun (s:Nat)=>s<=D.chans.l.length) (fun s=> [(3,pt n1),(8,.pointer (some ⟨p2,0,none⟩)),(15,I64 s)]) (fun s=>yH p2 S.pg.sy::gH p Fn N S.pg::pto n1 (Ay D)::(q++F)) (fun s=>D.chans.l.length - s) (fun s f r=> ?_) 0 (bC _)) Zg leA;try dsimp only at f r|-
 obtain hi:=f;refine rn [5,0,3] ?_;refine dH 125 rfl ?_ ?_<;>intro u
 . replace u:=sp u;have b:s<D.chans.l.length:=(by omega);refine Zs (d0.le leA) (by rw [aG];omega) fun ab ao e_=> ?_;have i:=d0;rw [e_] at i;obtain ⟨W,hW⟩:=lA D.chans.l[s];have o:U7 S.pg.sy (s:Int)=(W.l,0):=(by have e:=hI.chan_at b;unfold U7;rw [if_pos ⟨by omega,by show (s:Int)<(S.sy.chans.length:Int);rw [<-hI.chl];omega⟩,show ((s:Int)).toNat=s from rfl,show S.pg.sy=S.sy from rfl,e,hW]);have z:=bV (hK.imp fun M h=>h.h _ (aA b));rw [Z5,<-hW] at z;have v0:W.l.length<=N:=(by have l0:=j.y.h _ (Yu (d:=ch0) (show s<S.sy.chans.length by rw [<-hI.chl];exact b));have u0:=Mm l0;rw [hI.chan_at b,<-hW] at u0;have:=l0.2.2.1;omega);refine xo 8 ?_;refine Yi call58 (Gl (p:=p2) (s:=S.pg.sy) (k:=(s:Int)) (N:=N) hF.ok.y (by omega)) ?_;refine kd2 fun a5 c5=> ?_
   rw [o];refine rg [11,1136,2,0,1,3139,1,0] e_ i ?_;refine aM 142 (.slice W.a W.l.length W.c) rfl (by rw [hW];rfl) ?_;refine aU call20 (Dr (l:=W.l) ((bQ (a:=a5) (c:=c5) (ty:=2) _).le Zj) (z.le leA) (by omega)) ?_;refine Zi (bO rfl) ?_;refine rn [2,1145,8] ?_;refine aZ (r (s+1) (by omega) (by omega)) Zg leA
 clear r u;refine xx 6 ?_;refine Zq (gH p Fn N S.pg::q) func24 (Zh results24 rfl) ⟨_,rfl,rfl,rfl⟩
end
theorem la_info3:(prog.info? 3).map (fun i=>(i.zero,i.size,i.bytes))=some (some (I64 0),1,8):=by kernel_rfl
def Tv (s:ByteArray):Option Fnd:=if 3000<s.size then none else Hg (bs s)
theorem He {s:ByteArray}(h:Tv s=some F):Hg (bs s)=some F:=by
 unfold Tv at h;split at h
 . cases h
 exact h
inductive PrIs (s:ByteArray) (g:FC):Bool->Prop
 |no (h:Tv s=none):PrIs s g false
 |yes (h:Tv s=some g.er):PrIs s g true
abbrev knB:ByteArray:=⟨#[118,97,114,32,120,32,61,32,49,59,32,116,104,114,101,97,100,32,109,97,105,110,32,123,32,120,32,61,32,120,32,43,32,49,59,32,112,114,105,110,116,32,120,59,32,125]⟩
def knE (F:Fnd):Bool:=
 let r:=Ye F.pr (Wj F.pr) [0,0,0]
 r.2.length==2 && ((r.2.getD 1 zE0).outv==2 && (r.2.getD 1 zE0).told && (r.1.outc F.pr).kind==2 && r.1.cells== [2])
def knS:Bool:=match Tv knB with|none=>false|some F=>knE F
theorem knS_ok:knS=true:=by decide+kernel
theorem knS_at: ∃ F,Tv knB=some F/\knE F=true:=by
 have h:=knS_ok;unfold knS at h;split at h
 . cases h
 rename_i F a;exact ⟨F,a,h⟩
structure KnRun (F:Fnd) (L:List PEv) (s:SS):Prop where
 l: ∃ a b,L= [a,b]/\b.outv=2/\b.told=true
 o:(s.outc F.pr).kind=2
 c:s.cells= [2]
theorem knE_at (h:knE F=true):KnRun F (Ye F.pr (Wj F.pr) [0,0,0]).2 (Ye F.pr (Wj F.pr) [0,0,0]).1:=by
 unfold knE at h;dsimp only at h;generalize Ye F.pr (Wj F.pr) [0,0,0]=r at h|-;obtain ⟨s,L⟩:=r;simp only [aQ,dI] at h;obtain ⟨g,⟨⟨f,e⟩,d⟩,c⟩:=h;refine ⟨?_,d,c⟩
 match L,g with
 | [a,b],_=>exact ⟨a,b,rfl,f,e⟩
section
variable {s:ByteArray}
theorem E6:CallF prog G 13 [.string s] (q) (Ret fun v q'=> ∃ (g:FC) (bb:Bool),v= .tuple [.agg (pgC g).toArray,.bool bb].toArray/\q'=fcM g::q/\PrIs s g bb):=by
 refine aC func13 ntmps13 rfl fun F i=> ?_;refine xo 2 ?_;refine bE zeroValue29 fun f=> ?_
 refine ox 9 ?_;refine xp 9 ?_ ?_<;>intro h
 . have b:Tv s=none:=(by unfold Tv;rw [if_pos (by omega)]);refine rn [4,0,2] ?_;refine bK (q':=fcM FC.z::_) (bY (fun _ _ _=>Dw _)) ?_;refine Zq (fcM FC.z::q) func13 (N7 results13) ⟨_,rfl,FC.z,false,rfl,rfl,.no b⟩
 have b:Tv s=Hg (bs s):=(by unfold Tv;rw [if_neg (by omega)]);refine xo 5 ?_;refine Zx call43 (aD _) (text_ok (s:=s)) ?_;rintro _ _ ⟨g,y,z,e,rfl,rfl,a⟩;refine oo 4 ?_;refine bE zeroValue29 fun d=> ?_
 refine bE zeroValue107 fun c=> ?_
 refine rn [0,0,4,0,2,0,2] ?_;refine Zq (fcM g::q) func13 (N7 results13) ⟨_,rfl,g,decide (e=0),rfl,rfl,by cases hx:Hg (bs s) with|none=>(rw [hx] at a;rw [aO a];exact .no (b.trans hx))|some F=>(rw [hx] at a;rw [aR a.1];exact .yes (by rw [a.2];exact b.trans hx))⟩
theorem U1:CallF prog G 14 [] (q) (Am q):=by
 refine aC func14 ntmps14 rfl fun F cs=> ?_;obtain ⟨F,hF,hE⟩:=knS_at;have hR:=knE_at hE;refine xo 6 ?_;refine Zx call13 (aD _) (E6 (s:=knB)) ?_;rintro _ _ ⟨g,bb,rfl,rfl,hP⟩;obtain ⟨rfl,hg⟩:bb=true/\g.er=F:=(by cases hP with|no h=>(rw [hF] at h;cases h)|yes h=>(rw [hF] at h;exact ⟨rfl,(gC h).symm⟩));have hT:=He hF;rw [<-hg] at hT hR;refine oo 3 ?_;refine bE zeroValue29 fun n1=> ?_
 refine rn [0,4,0] ?_;refine Yi call15 (E8 (q:= [fcM g]) hT kB) ?_;refine kd1 fun p=> ?_
 refine oo 9 ?_;refine bI (Y6 I64 [0,0,0] underlying22 la_info3 rfl rfl rfl rfl rfl rfl (fun _=>rfl)) ?_;rintro _ _ ⟨g3,rfl,rfl⟩;refine Yi call16 (Zjj (p:=p) (N:=0) (F:=g.er) (q:= [lsH I64 3 (some ⟨g3,0,none⟩) 3 [0,0,0]]) (picks:= [0,0,0]) (by decide) (bQ _) (fun k hk=>by simp at hk;omega)) ?_;rintro _ _ ⟨L,a1,c1,rfl,rfl,m,hl⟩ _ d;simp only [ca,na] at d;subst d;simp only [Ta,ca,na];obtain ⟨r,r2⟩: ∃ r:SS×List PEv,r=Ye g.er.pr (Wj g.er.pr) [0,0,0]:=⟨_,rfl⟩;rw [<-r2] at hR m|-;obtain ⟨⟨e0,e1,z,ho,ht⟩,hk,i⟩:=hR;rw [z] at m;obtain ⟨w,v,rfl⟩: ∃ a b,L= [a,b]:=(by match L,m with| [a,b],_=>exact ⟨a,b,rfl⟩);have x:v.e=e1:=(by simp only [cE,eA,jB,and_true] at m;exact m.2);rw [<-x] at ho ht;refine Gt (l:= [w,v]) (Nat.zero_lt_succ 1) fun gb d=> ?_;have f: ∀ r,Sees (rsH evC 9 47 a1 c1 [w,v]::r) (some ⟨gb,0,none⟩) ([w,v].flatMap evC):=fun r=>by rw [<-d];exact aV r
 refine oo 3 ?_;refine bE zeroValue41 fun n2=> ?_
 refine rf [1,0,5,2023,4,2027,5,2032,1,3033,2] d ?_;refine ld ?_ (hc:=(cF (j:=1) (n:=1) (f _) leA Jj (kE 1) rfl 6 _ rfl));refine oo 3 ?_;refine kA 39 ?_ rfl (aR ho);refine rf [1,3040,2] d ?_;refine ld ?_ (hc:=(cF (j:=1) (n:=1) (f _) leA Jj (kE 1) rfl 5 _ rfl));refine oo 2 ?_;refine kA 45 ?_ rfl (ht);refine rn [1,0,3] ?_;refine kA 50 ?_ rfl (aR hk);refine oo 1 ?_;refine Yi call21 (Dm (p:=p) (F:=g.er) (N:=0+ [0,0,0].length) (s:=r.1) (q:= [])) ?_;refine kd2 fun b0 a0=> ?_
 rw [i];refine rn [4,2056,1] ?_;refine Yi call21 (Dm (p:=p) (F:=g.er) (N:=0+ [0,0,0].length) (s:=r.1) (q:= [])) ?_;refine kd2 fun u t=> ?_
 rw [i];refine Kv (a:=u) (c:=t) (l:=([2]:List Int)) (Nat.zero_lt_succ 0) fun gd o=> ?_;have y: ∀ r,Sees (lsH I64 2 u t [2]::r) (some ⟨gd,0,none⟩) (([2]:List Int).map I64):=fun r=>by rw [<-o];exact bQ r
 refine rf [3058,1] o ?_;refine ld ?_ (hc:=(((y _).le leA).at rfl (Nat.zero_lt_succ 0)));refine ox 4 ?_;refine Zq (q) func14 (Zh results14 rfl) ⟨_,rfl,rfl,rfl⟩
end
def SS.wo (s:SS)(o:POut):SS:= { s with out:=o }
theorem Zjq (s:SS)(o:POut)(n:Nat)(k:Int)(b:Bool)(v:Int):(s.wo o).into n k b v=((s.into n k b v).1.wo o,(s.into n k b v).2):=by unfold SS.into;split<;>rfl
theorem Zzy (o:POut): ∀ (l:List Int) (s:SS),(s.wo o).wake l=(s.wake l).wo o
 | [],_=>rfl
 |i::r,s=>by
  show SS.wake ((s.wo o).put i.toNat { (s.wo o).th i.toNat with st:=3 }) r=_
  exact Zzy o r (s.put i.toNat { s.th i.toNat with st:=3 })
theorem data_wo (o:POut):(s.wo o).data p n x ev=((s.data p n x ev).1.wo o,(s.data p n x ev).2):=by
 obtain ⟨k,h,l,nm,g,e,i,c,f,j,b,a,d⟩:=x;unfold SS.data;dsimp only;simp only [Zjq];dsimp only [SS.wo,SS.th];(repeat' split)<;>rfl
theorem Zkh (o:POut):(s.wo o).others p n x ev=((s.others p n x ev).1.wo o,(s.others p n x ev).2):=by
 obtain ⟨k,h,l,nm,g,e,i,c,f,j,a,b,d⟩:=x;unfold SS.others;dsimp only;by_cases h6:k=6
 . simp only [if_pos h6];by_cases hc:s.sy.owners.getD a.toNat 0≠ -1
   . rw [if_pos (show (s.wo o).sy.owners.getD a.toNat 0≠ -1 from hc),if_pos hc]
   rw [if_neg (show ¬ ((s.wo o).sy.owners.getD a.toNat 0≠ -1) from hc),if_neg hc];rfl
 simp only [if_neg h6];by_cases h7:k=7
 . simp only [if_pos h7];by_cases hc:s.sy.owners.getD a.toNat 0≠n
   . rw [if_pos (show (s.wo o).sy.owners.getD a.toNat 0≠n from hc),if_pos hc]
   rw [if_neg (show ¬ ((s.wo o).sy.owners.getD a.toNat 0≠n) from hc),if_neg hc];rfl
 simp only [if_neg h7];by_cases h8:k=8
 . simp only [if_pos h8];by_cases hc:s.sy.owners.getD b.toNat 0≠n
   . rw [if_pos (show (s.wo o).sy.owners.getD b.toNat 0≠n from hc),if_pos hc]
   rw [if_neg (show ¬ ((s.wo o).sy.owners.getD b.toNat 0≠n) from hc),if_neg hc];rfl
 simp only [if_neg h8];by_cases h9:k=9\/k=10
 . simp only [if_pos h9,Zzy];rfl
 simp only [if_neg h9];by_cases h12:k=12
 . simp only [if_pos h12];have e:({ (s.wo o) with sy:=(We (s.wo o).sy a).1 } :SS)=({ s with sy:=(We s.sy a).1 } :SS).wo o:=rfl;rw [e,Zjq];rfl
 simp only [if_neg h12];by_cases h13:k=13
 . simp only [if_pos h13];by_cases hc:8<=s.ths.length
   . rw [if_pos (show 8<=(s.wo o).ths.length from hc),if_pos hc]
   rw [if_neg (show ¬ (8<=(s.wo o).ths.length) from hc),if_neg hc];rfl
 simp only [if_neg h13];rfl
theorem did_wo (o:POut):(s.wo o).did p n=((s.did p n).1.wo o,(s.did p n).2):=by
 unfold SS.did;dsimp only;rw [show (s.wo o).th n=s.th n from rfl];split
 . rfl
 split
 . exact data_wo (s:=s.put n _) o
 exact Zkh (s:=s.put n _) o
theorem pg_wo (h:s.out.kind≠4):s.pg=s.wo zOut:=by unfold SS.pg;rw [if_neg h];rfl
theorem ended_wo (s:SS)(n:Nat)(ev:PEv)(o:POut):(s.wo o).ended n ev=((s.ended n ev).1.wo o,(s.ended n ev).2):=by
 unfold SS.ended;rw [show (s.wo o).th n=s.th n from rfl];split<;>rfl
theorem Ff (h:s.can p n=true):(s.pg.step p n).1.pg=(s.step p n).1.pg/\(s.pg.step p n).2=(s.step p n).2:=by
 have a:=Eu h;rw [pg_wo a,Up,Up,did_wo];dsimp only;rw [show (s.wo zOut).th n=s.th n from rfl];by_cases ht:(s.did p n).2.2=0
 . rw [if_neg (fun k=>k ht),if_neg (fun k=>k ht),ended_wo];dsimp only;rw [Hh,Hh];exact ⟨rfl,rfl⟩
 rw [if_pos ht,if_pos ht];exact ⟨rfl,rfl⟩
theorem Tn :(s.step p n).1.stood p:=by
 rw [Up];split
 . exact O9 p s _ rfl
 exact Jl p _
structure Both (p:PPr) (S:SS) (k:Int):Prop where
 s:(SS.stepP p S.pg k).1=(S.dstep p k).1.pg
 e:(SS.stepP p S.pg k).2.1=(S.dstep p k).2.1
 t:(S.dstep p k).2.2=true->(SS.stepP p S.pg k).2.2=0
 f:(S.dstep p k).2.2=false->(SS.stepP p S.pg k).2.2=150
 o:(S.dstep p k).1.stood p
theorem Nu (h8:S.ths.length<=8)(hst:S.stood p):Both p S k:=by
 by_cases ha:S.all p= []
 . have b:SS.stepP p S.pg k=(S.pg,zE0,150):=by unfold SS.stepP;rw [if_pos (by rw [Tu];exact ha)]
   have a:S.dstep p k=(S,zE0,false):=by unfold SS.dstep;rw [if_pos ha]
   exact ⟨by rw [b,a],by rw [b,a],fun h=>(by rw [a] at h;cases h),fun _=>by rw [b],by rw [a];exact hst⟩
 obtain ⟨n,g,d,c,b⟩:=R9 (k:=k) (s:=S.pg) (by rw [Tu];exact ha) h8;rw [Tu] at c;rw [P6] at d;have a:S.dstep p k=((S.step p n).1,(S.step p n).2,true):=by unfold SS.dstep;rw [if_neg ha,c];rfl
 obtain ⟨f,e⟩:=Ff d;exact ⟨by rw [b,a];exact f,by rw [b,a];exact e,fun _=>by rw [b],fun h=>(by rw [a] at h;cases h),by rw [a];exact Tn⟩
theorem Gk (p:PPr):((Wj p).stands p).pg=Wj p:=Hh p (Wj p)
theorem SS.fine.of_pg (h:s.pg.fine F N):s.fine F N:=h.out s.out
end Go.Proofs.YtflkjkhijcdbaaaGreat
