/- Contracts. -/
import Derived.Test.YtflkjkhijcdbaaaGreatKf
set_option maxHeartbeats 16000000
set_option maxRecDepth 100000
set_option linter.all false
namespace Go.Proofs.YtflkjkhijcdbaaaGreat
open Go Go.RowKit Wx Go.Proofs.Tryz
attribute [local irreducible] lsH rsH stars
variable {U:StC}{n c pp who N N' i:Nat}{M M':Hp}{l ths:List TC}{m k sl ot u v d z:Int}{x:TC}{a aa:Option Addr}{G:World}{q:List HP}{p:PPr}{g:FC}{ev:PEv}{bb:Bool}{y:PS}{F:Fnd}{t:PTr}{s:SS}
theorem Vo (U:StC)(n:Nat)(x:TC):({ U with ths:=U.ths.set n x } :StC).er=U.er.put n x.er:=by
 unfold StC.er SS.put;simp [dZ]
theorem Lt (hn:n<U.ths.length):U.er.put n (U.ths[n]).er=U.er:=by
 unfold StC.er SS.put;simp only [SS.mk.injEq,true_and,and_true];rw [<-dZ,dQ]
def PStm.slt:PStm->Int
 | .mk _ _ _ _ _ _ _ _ _ _ slot _ _=>slot
theorem TodoAt.of {m:List TC}(h:m.map TC.todo=l.map TC.todo)(k:TodoAt M l):TodoAt M m:=fun t c y a=>by
 have d:t.todo∈l.map TC.todo:=h ▸ aX (f:=TC.todo) c;obtain ⟨u,b,e⟩:=cI.1 d;exact k u b y (e ▸ a)
abbrev jK:=@TodoAt.of
theorem Ms (hn:n<l.length)(h:x.todo=l[n].todo):(l.set n x).map TC.todo=l.map TC.todo:=by
 rw [dZ,h];apply gT (by simp);intro i b a;by_cases e:n=i
 . subst e;simp
 simp [gY e]
theorem Ee (hn:n<l.length)(h:trH x=trH l[n]):(l.set n x).map trH=l.map trH:=by
 rw [dZ,h];apply gT (by simp);intro i b a;by_cases e:n=i
 . subst e;simp
 simp [gY e]
theorem Rq (hn:n<ths.length)(r:List HP):Le (stars (ths.map trH)::r) (lsH I64 2 ths[n].la ths[n].lc ths[n].loc::lsH PS.v 146 ths[n].ta ths[n].tc ths[n].todo::lsH I64 3 ths[n].sa ths[n].sc ths[n].sp::stars ((ths.eraseIdx n).map trH)::r):=
 (Le.focus trH hn r).trans (Z3 (trL ths[n]) _)
theorem T9 (hn:n<ths.length)(x:TC)(r:List HP):Le (lsH I64 2 x.la x.lc x.loc::lsH PS.v 146 x.ta x.tc x.todo::lsH I64 3 x.sa x.sc x.sp::stars ((ths.eraseIdx n).map trH)::r) (stars ((ths.set n x).map trH)::r):=
 (Yk (trL x) _).trans (T8 trH hn x r)
theorem rs_same {m:List TC}{ty:Nat}(h:l.flatMap trC=m.flatMap trC):rsH trC 5 ty a c l=rsH trC 5 ty a c m:=by
 have b:l.length=m.length:=by have:=bL List.length h;rw [Zv Zn,Zv Zn] at this;omega
 unfold rsH;rw [h,b]
theorem Lx (hn:n<l.length)(h:trC x=trC l[n]):(l.set n x).flatMap trC=l.flatMap trC:=by
 rw [List.flatMap_def,List.flatMap_def,dZ,h];congr 1;apply gT (by simp);intro i b a;by_cases e:n=i
 . subst e;simp
 simp [gY e]
structure PO (g:FC) (N who:Nat) (U:StC):Prop where
 w:who<U.ths.length
 h8:U.ths.length<=8
 cl:(U.cells.length:Int)=g.vars.l.length+Yl g.arrs.l
 cv: ∀ x∈U.cells,val x
 lv: ∀ x∈U.ths[who].loc,val x
 ll:U.ths[who].loc.length<=32
 y:U.sy.ok N
 n9:N<=900
 mu:(U.sy.owners.length:Int)=g.er.cn.mu
 co:(U.sy.conds.length:Int)=g.er.cn.co
 ch:(U.sy.chans.length:Int)=g.er.cn.ch
 cd: ∀ l∈U.sy.conds,∀ t∈l,t.toNat<U.ths.length
 td:U.ths[who].todo.length<=600*(N+1)
 sp:U.ths[who].sp.length<=8/\ ∀ i∈U.ths[who].sp,0<=i/\i<U.ths.length
section
variable {p:Nat}{ev:EvC}
variable {hc gh:Nat}{l:List Stm}
theorem Zkw (hn:n<ths.length)(hK:Kn q fun M=>BlkAt M a c l)(hl:l.length<=1000000/\x.todo.length<=1000000):CallF prog G 84 [.pointer (some ⟨gh,0+(n:Int).toNat*5,none⟩),.slice a l.length c] (rsH trC 5 116 (some ⟨gh,0,none⟩) hc (ths.set n x)::lsH PS.v 146 x.ta x.tc x.todo::q) (Ret fun v q'=> ∃ a1 c1 b1 o1,(0<l.length->a=some ⟨b1,o1,none⟩)/\q'=rsH trC 5 116 (some ⟨gh,0,none⟩) hc (ths.set n { x with ta:=a1,tc:=c1,todo:=x.todo++(psL b1 o1 l).reverse })::lsH PS.v 146 a1 c1 (x.todo++(psL b1 o1 l).reverse)::q):=by
 have h:=Fs (G:=G) (q:=q) (gh:=gh) (hc:=hc) (ths:=ths.set n x) (n:=n) (a:=a) (c:=c) (l:=l) (by rw [bG];exact hn) hK (by rw [cZ];exact hl);have b:(ths.set n x).getD n zTC=x:=by rw [Yg (by rw [bG];exact hn),cZ]
 simp only [cZ,b,fU] at h;exact h
abbrev Bq (v0:StC)(v1:Nat):=((v0.ths.eraseIdx v1).map trH)
theorem Zz7 (hO:PO g N who U)(hin:inV g.er.cn (U.ths[who]'(hO.w)).loc.length sl bb)(hl:ev.e.acc.length<=1000000000)(hM:MayP g.er):CallF prog G 165 [.pointer (some ⟨p,0,none⟩),I64 sl,.bool bb,I64 u] (Zy p pp who U ev++q) (Ret fun v q'=> ∃ (U':StC) (ev':EvC),(U'.er=(U.er.into who sl bb u).1/\ev'.e=ev.e.ac (U.er.into who sl bb u).2/\U'.ths.map TC.todo=U.ths.map TC.todo)/\q'=Zy p pp who U' ev'++q):=by
 refine aC func165 ntmps165 rfl fun F cs=> ?_;have d:=hO.w;have h8:=hO.h8;unfold inV at hin;obtain ⟨S,rfl⟩:=aE hin.1;obtain ⟨IX,h⟩:=lA (U.er.into who S bb u);rw [<-h];unfold SS.into at h;rw [Z8 d,show ((S:Int)).toNat=S from rfl] at h;change X _ _ _ _ _ _ _ _ (A3 p pp U who ev q F);refine Yd (l:=U.ths) (by omega) fun x e_=> ?_;have hr: ∀ r,Sees (Ao U r) (some ⟨x,0,none⟩) (AR U):=fun r=>by rw [<-e_];exact aV r
 refine xx 5 ?_;refine xp 8 ?_ ?_<;>intro z
 . rw [if_pos z] at h hin;have o:S<U.ths[who].loc.length:=(by omega);refine bK (q':=stars (U.ths.map trH)::_) Zj (bK (Rq d _) ?_);refine Ur (l:=U.ths[who].loc) (by omega) fun gl i=> ?_;refine xo 4 ?_;refine aU call95 (J9 (p:=p) (who:=who) (ga:=x) (m:=U.ths.length) (c:=U.hc) (by rw [<-e_];exact clA) clA d) ?_;refine oo 2 ?_;refine ld ?_ (hc:=(cF (n:=who) (hr _) leA Zn d rfl 2 _ rfl));refine rf [2,3013,1] i ?_;refine dW (q':=lsH I64 2 (some ⟨gl,0,none⟩) U.ths[who].lc U.ths[who].loc::_) (by rw [<-i];exact Zj) ?_;refine dK (Jx (f:=I64) (l:=U.ths[who].loc) (n:=S) (u:=u) rfl rfl sizeOf2 rfl o rfl rfl Zj) ?_;rintro _ _ ⟨rfl,rfl⟩;refine ox 1 ?_;rw [<-i];refine bK (q':=stars ((U.ths.set who ({ U.ths[who] with loc:=U.ths[who].loc.set S u } :TC)).map trH)::_) (bB (b:=lsH I64 2 U.ths[who].la U.ths[who].lc (U.ths[who].loc.set S u)::lsH PS.v 146 U.ths[who].ta U.ths[who].tc U.ths[who].todo::lsH I64 3 U.ths[who].sa U.ths[who].sc U.ths[who].sp::stars (Bq U who)::_) (bP Zj (bP Zj (bP Zj Zj))) (T9 d ({ U.ths[who] with loc:=U.ths[who].loc.set S u } :TC) _)) ?_;refine bK (q':=rsH trC 5 116 U.ha U.hc (U.ths.set who ({ U.ths[who] with loc:=U.ths[who].loc.set S u } :TC))::_) (by rw [show rsH trC 5 116 U.ha U.hc (U.ths.set who ({ U.ths[who] with loc:=U.ths[who].loc.set S u } :TC))=rsH trC 5 116 U.ha U.hc U.ths from rs_same (Lx d (by simp [trC]))];exact Zj) ?_;refine bK (q':=Zy p pp who ({ U with ths:=U.ths.set who ({ U.ths[who] with loc:=U.ths[who].loc.set S u } :TC) } :StC) ev++(q++F)) (by unfold Zy spP Ug Zo;simp only [bG];exact leA) ?_;refine Zq (Zy p pp who ({ U with ths:=U.ths.set who ({ U.ths[who] with loc:=U.ths[who].loc.set S u } :TC) } :StC) ev++q) func165 (Uq results165) ⟨_,rfl,({ U with ths:=U.ths.set who ({ U.ths[who] with loc:=U.ths[who].loc.set S u } :TC) } :StC),ev,⟨by rw [h,Vo];rfl,by rw [h];exact (Mv _).symm,Ms d rfl⟩,rfl⟩ (by rw [aB];exact aD _)
 rw [if_neg (by rw [z];decide)] at h hin;have a0:=hO.cl;have t:S<U.cells.length:=(by have:=V0 (l:=g.arrs.l) (k:=256) (fun y hy=>by have:=hM.a y hy;omega) (by decide);have:=hin.2;rw [Nw] at this;omega);refine xo 6 ?_;refine Zx call167 leA (Sb (p:=p) (pp:=pp) (who:=who) (U:=U) (ev:=ev) (n:=S) (u:=u) (q:=q++F) t hl) ?_;rintro _ _ ⟨j,s,rfl⟩;refine ox 1 ?_;refine Yh (Zy p pp who ({ U with cells:=U.cells.set S u } :StC) j++q) func165 (Uq results165) ⟨_,rfl,({ U with cells:=U.cells.set S u } :StC),j,⟨by rw [h];rfl,by rw [h];exact s,rfl⟩,rfl⟩ (by rw [aB];exact aD _)
abbrev Aa (v0:Nat)(v1:PS):=([.pointer (some ⟨v0,0,none⟩),.pointer (some ⟨v1.b,v1.o,none⟩)]:List Value)
theorem Zzw (hP:Prg q pp g)(hM:MayP g.er)(hO:PO g N who U)(hev:ev.e.acc= []/\ev.e.syn= [])(hyA:Kn q fun M=>y.At M)(hg:y.s.er.good g.er.cn (U.ths[who]'(hO.w)).loc.length)(hTd:Kn q fun M=>TodoAt M U.ths)(hk:y.s.er.kd=1\/y.s.er.kd=2):CallF prog G 129 (Aa p y) (Zy p pp who U ev++q) (RP (fun v q'=> ∃ (U':StC) (ev':EvC),((U.er.data g.er.pr who y.s.er ev.e).2.2=0/\U'.er=(U.er.data g.er.pr who y.s.er ev.e).1/\ev'.e=(U.er.data g.er.pr who y.s.er ev.e).2.1/\Kn q fun M=>TodoAt M U'.ths)/\q'=Zy p pp who U' ev'++q) (fun ch q'=> ∃ (U':StC) (ev':EvC),((U.er.data g.er.pr who y.s.er ev.e).2.2≠0/\ch= [Uy (U.er.data g.er.pr who y.s.er ev.e).2.2]/\ev'.e=(U.er.data g.er.pr who y.s.er ev.e).2.1)/\q'=Zy p pp who U' ev'++q)):=by
 refine aC func129 ntmps129 rfl fun F cs=> ?_;obtain ⟨yb,yo,ys⟩:=y;obtain ⟨kk,ln,cl,nm,wt,⟨z,t,i,c,j,f,x,ea,ec⟩,⟨xk,xn,c0,xsl,d0,b0,xl,xa,xc⟩,bd,k0,ba,bc,n0,m0,id,sl,ot,e0⟩:=ys;have r:=fC hyA;dsimp only at r hg hyA hk|-;simp only [Stm.er,PStm.kd] at hk;have l:=hO.w;have h8:=hO.h8;have e1:=hO.y;have k1:=hO.n9;obtain ⟨b,d1⟩:=hev;have v0:Kn q fun M=>ExAt M ⟨yb,yo+5,none⟩ (Ex.mk z t i c j f x ea ec):=hyA.imp fun M h=>Ya (pre:= (A6 kk ln cl nm wt)) h.1 rfl h.2.1 rfl
 have l1:Kn q fun M=>ExAt M ⟨yb,yo+12,none⟩ (Ex.mk xk xn c0 xsl d0 b0 xl xa xc):=hyA.imp fun M h=>Ya (pre:= (A6 kk ln cl nm wt)++exC (Ex.mk z t i c j f x ea ec)) h.1 rfl h.2.2.1 rfl
 have n1:Kn q fun M=>BlkAt M ba bc bd:=hyA.imp fun M h=>h.2.2.2.1;have m1:Kn q fun M=>BlkAt M n0 m0 k0:=hyA.imp fun M h=>⟨h.2.2.2.2.1,h.2.2.2.2.2⟩
 obtain ⟨u0,t0,s0,_⟩:=hg;obtain ⟨i1,o0,h1,g1,f1,y0,b1,a1,z0⟩:=Yp t0;obtain ⟨g0,j1⟩:=Wi u0;rw [Zf,Zf] at s0;obtain ⟨R,a⟩:=lA (U.er.data g.er.pr who (Stm.er (Stm.mk kk ln cl nm wt (Ex.mk z t i c j f x ea ec) (Ex.mk xk xn c0 xsl d0 b0 xl xa xc) bd k0 ba bc n0 m0 id sl ot e0)) ev.e);rw [<-a];unfold SS.data at a;simp only [Stm.er] at a;rw [Z8 l] at a;change X _ _ _ _ _ _ _ _ (A3 p pp U who ev q F);rw [if_neg (show ¬kk=3 by omega)] at a;dsimp only at a;rw [if_neg (fun k=>k rfl)] at a;refine rf [0,1,2,3,4,5,6,7,8,9,10,11,12,13] r ?_;obtain ⟨A1,m⟩:=lA ((Ex.er (Ex.mk z t i c j f x ea ec)).made g.er.pr U.cells U.ths[who].loc);have n:=Yj (p:=g.er.pr) hO.cv hO.lv (g0 (by omega));rw [<-m] at n;try rw [show (U.ths[who].er).loc=U.ths[who].loc from rfl] at a
 try rw [show U.er.cells=U.cells from rfl] at a
 rw [<-m] at a;have c1:A1.2.2.length<=16777216:=cL n.2 (by decide);refine Py 13 call166 leA (J3 (p:=p) (pp:=pp) (who:=who) (hwho:=l) (Ex.sz (Ex.mk z t i c j f x ea ec)) (e:=(Ex.mk z t i c j f x ea ec)) (d:=24) (ev:=ev) (q:=q++F) (aY _) trivial (by decide) (g0 (by omega)) (by rw [b];decide) (v0.le leA) (hP.le leA) hM hO.cl hO.cv hO.lv) ?_ ?_ trivial
 . rintro _ _ ⟨ht,rfl,w0,h0,rfl⟩;exact dM func129 (eG (by rw [<-m] at ht h0|-;have i0:=a;rw [if_pos ht] at i0;rw [i0];exact ⟨U,w0,⟨ht,rfl,by rw [h0];unfold PEv.ac;simp only [b,aN]⟩,rfl⟩)) (by rw [aB];exact aD _)
 rintro _ _ ⟨f0,rfl,x0,o,l0⟩;simp only [Zy,spP,Zo,evL,ca,na] at l0;subst l0;refine ⟨(hlF r),?_⟩;rw [<-m] at f0 o|-;rw [if_neg (fun k=>k f0)] at a;rw [if_pos (by omega)] at a;refine Ym 14 call165 leA (Zz7 (p:=p) (pp:=pp) (who:=who) (g:=g) (N:=N) (U:=U) (ev:=x0) (sl:=sl) (bb:=e0) (u:=A1.1) (q:=q++F) hO (o0 (by omega)) (by rw [o];unfold PEv.ac;rw [b];simp;omega) hM) ?_;rintro _ _ ⟨a0,j0,⟨r0,q0,p0⟩,rfl⟩;refine ⟨trivial,?_⟩;refine kL ?_;refine Yh (Zy p pp who a0 j0++q) func129 (Uq results129) (dR ⟨a0,j0,⟨by rw [a],by rw [a];exact r0,by rw [a,q0,o];unfold PEv.ac;simp only [b,aN],hTd.imp fun M h=>jK p0 h⟩,rfl⟩) (by rw [aB];exact aD _)
theorem xput_ok (hP:Prg q pp g)(hM:MayP g.er)(hO:PO g N who U)(hev:ev.e.acc= []/\ev.e.syn= [])(hyA:Kn q fun M=>y.At M)(hg:y.s.er.good g.er.cn (U.ths[who]'(hO.w)).loc.length)(hTd:Kn q fun M=>TodoAt M U.ths)(hk:y.s.er.kd=3):CallF prog G 130 (Aa p y) (Zy p pp who U ev++q) (RP (fun v q'=> ∃ (U':StC) (ev':EvC),((U.er.data g.er.pr who y.s.er ev.e).2.2=0/\U'.er=(U.er.data g.er.pr who y.s.er ev.e).1/\ev'.e=(U.er.data g.er.pr who y.s.er ev.e).2.1/\Kn q fun M=>TodoAt M U'.ths)/\q'=Zy p pp who U' ev'++q) (fun ch q'=> ∃ (U':StC) (ev':EvC),((U.er.data g.er.pr who y.s.er ev.e).2.2≠0/\ch= [Uy (U.er.data g.er.pr who y.s.er ev.e).2.2]/\ev'.e=(U.er.data g.er.pr who y.s.er ev.e).2.1)/\q'=Zy p pp who U' ev'++q)):=by
 refine aC func130 ntmps130 rfl fun F cs=> ?_;obtain ⟨yb,yo,ys⟩:=y;obtain ⟨kk,ln,cl,nm,wt,⟨ek,en,t,o,x,r,el,ea,ec⟩,⟨xk,xn,a0,xsl,b0,z,xl,xa,xc⟩,bd,y0,ba,bc,a1,z0,id,sl,ot,b1⟩:=ys;have u0:=fC hyA;dsimp only at u0 hg hyA hk|-;simp only [Stm.er,PStm.kd] at hk;have f:=hO.w;have h8:=hO.h8;have q1:=hO.y;have y1:=hO.n9;obtain ⟨c,p1⟩:=hev;have i1:Kn q fun M=>ExAt M ⟨yb,yo+5,none⟩ (Ex.mk ek en t o x r el ea ec):=hyA.imp fun M h=>Ya (pre:= (A6 kk ln cl nm wt)) h.1 rfl h.2.1 rfl
 have h1:Kn q fun M=>ExAt M ⟨yb,yo+12,none⟩ (Ex.mk xk xn a0 xsl b0 z xl xa xc):=hyA.imp fun M h=>Ya (pre:= (A6 kk ln cl nm wt)++exC (Ex.mk ek en t o x r el ea ec)) h.1 rfl h.2.2.1 rfl
 have a2:Kn q fun M=>BlkAt M ba bc bd:=hyA.imp fun M h=>h.2.2.2.1;have z1:Kn q fun M=>BlkAt M a1 z0 y0:=hyA.imp fun M h=>⟨h.2.2.2.2.1,h.2.2.2.2.2⟩
 obtain ⟨e1,d1,c1,_⟩:=hg;obtain ⟨v1,u1,o0,t1,s1,k1,n1,m1,l1⟩:=Yp d1;obtain ⟨s0,p0⟩:=Wi e1;rw [Zf,Zf] at c1;obtain ⟨R,b⟩:=lA (U.er.data g.er.pr who (Stm.er (Stm.mk kk ln cl nm wt (Ex.mk ek en t o x r el ea ec) (Ex.mk xk xn a0 xsl b0 z xl xa xc) bd y0 ba bc a1 z0 id sl ot b1)) ev.e);rw [<-b];unfold SS.data at b;simp only [Stm.er] at b;rw [Z8 f] at b;change X _ _ _ _ _ _ _ _ (A3 p pp U who ev q F);obtain rfl:kk=3:=(by omega);rw [if_pos rfl] at b;refine xo 6 ?_;obtain ⟨A1,h0⟩:=lA ((Ex.er (Ex.mk xk xn a0 xsl b0 z xl xa xc)).made g.er.pr U.cells U.ths[who].loc);have c0:=Yj (p:=g.er.pr) hO.cv hO.lv (p0 rfl);rw [<-h0] at c0;try rw [show (U.ths[who].er).loc=U.ths[who].loc from rfl] at b
 try rw [show U.er.cells=U.cells from rfl] at b
 rw [<-h0] at b;have q0:A1.2.2.length<=16777216:=cL c0.2 (by decide);refine Uz call166 leA (J3 (p:=p) (pp:=pp) (who:=who) (hwho:=f) (Ex.sz (Ex.mk xk xn a0 xsl b0 z xl xa xc)) (e:=(Ex.mk xk xn a0 xsl b0 z xl xa xc)) (d:=24) (ev:=ev) (q:=q++F) (aY _) trivial (by decide) (p0 rfl) (by rw [c];decide) (h1.le leA) (hP.le leA) hM hO.cl hO.cv hO.lv) ?_ ?_
 . rintro _ _ ⟨ht,rfl,k0,d0,rfl⟩;exact dM func130 (eG (by rw [<-h0] at ht d0|-;have e0:=b;rw [if_pos ht] at e0;rw [e0];exact ⟨U,k0,⟨ht,rfl,by rw [d0];unfold PEv.ac;simp only [c,aN]⟩,rfl⟩)) (by rw [aB];exact aD _)
 rintro _ _ ⟨n0,rfl,j1,m,i⟩;simp only [Zy,spP,Zo,evL,ca,na] at i;subst i;rw [<-h0] at n0 m|-;rw [if_neg (fun k=>k n0)] at b;try dsimp only at b
 refine oo 8 ?_;obtain ⟨A2,g0⟩:=lA ((Ex.er (Ex.mk ek en t o x r el ea ec)).made g.er.pr U.cells U.ths[who].loc);have i0:=Yj (p:=g.er.pr) hO.cv hO.lv (s0 (by omega));rw [<-g0] at i0;try rw [show (U.ths[who].er).loc=U.ths[who].loc from rfl] at b
 try rw [show U.er.cells=U.cells from rfl] at b
 rw [<-g0] at b;have o1:A2.2.2.length<=16777216:=cL i0.2 (by decide);refine Uz call166 leA (J3 (p:=p) (pp:=pp) (who:=who) (hwho:=f) (Ex.sz (Ex.mk ek en t o x r el ea ec)) (e:=(Ex.mk ek en t o x r el ea ec)) (d:=24) (ev:=j1) (q:=q++F) (aY _) trivial (by decide) (s0 (by omega)) (by rw [m];unfold PEv.ac;rw [c];simp only [aN];have w1:(2:Nat) ^ (24:Int).toNat=16777216:=(by decide);have:=q0;omega) (i1.le leA) (hP.le leA) hM hO.cl hO.cv hO.lv) ?_ ?_
 . rintro _ _ ⟨ht,rfl,k0,d0,rfl⟩;exact dM func130 (eG (by rw [<-g0] at ht d0|-;have e0:=b;rw [if_pos ht] at e0;rw [e0];exact ⟨U,k0,⟨ht,rfl,by rw [d0,m];unfold PEv.ac;simp only [c,aN]⟩,rfl⟩)) (by rw [aB];exact aD _)
 rintro _ _ ⟨m0,rfl,l0,f0,i⟩;simp only [Zy,spP,Zo,evL,ca,na] at i;subst i;rw [<-g0] at m0 f0|-;rw [if_neg (fun k=>k m0)] at b;rw [if_neg (by omega),if_pos rfl] at b;refine rf [8,0,1] u0 ?_;obtain ⟨An,v0⟩:=aE (o0 rfl).1;have w0:An<g.arrs.l.length:=by have:=(o0 rfl).2;rw [N9] at this;omega
 refine aM 21 (Al An) rfl (by rw [v0]) ?_;rw [v0] at b;refine Uz call168 leA (S7 (p:=p) (pp:=pp) (who:=who) (U:=U) (ev:=l0) (n:=An) (u:=A1.1) (q:=q++F) (hP.le leA) hM w0 c0.1) ?_ ?_
 . rintro _ _ ⟨⟨t0,rfl⟩,rfl⟩;exact dM func130 (eG (by rw [if_pos t0] at b;rw [b];exact ⟨U,l0,⟨(show (3:Int)≠0 by decide),rfl,by rw [f0,m];unfold PEv.ac;simp only [c,aN]⟩,rfl⟩)) (by rw [aB];exact aD _)
 rintro _ _ ⟨⟨r0,rfl⟩,i⟩;simp only [Zy,spP,Zo,evL,ca,na] at i;subst i;rw [if_neg (by omega)] at b;obtain ⟨j,j0⟩:=aE r0;refine aM 23 (Al j) rfl (by rw [j0]) ?_
 have x1:=hO.cl;have g1:j<U.cells.length:=by
  have hx:=j0;unfold PPr.cell at hx;rw [show g.er.pr.arrs=g.arrs.l from rfl,show g.er.pr.vars=g.vars.l from rfl,show ((An:Int)).toNat=An from rfl] at hx;have r1:=J1 (l:=g.arrs.l) hM.a w0;split at hx<;>omega
 rw [j0,show ((j:Int)).toNat=j from rfl] at b;refine oo 1 ?_;refine Zx call167 leA (Sb (p:=p) (pp:=pp) (who:=who) (U:=U) (ev:=l0) (n:=j) (u:=A2.1) (q:=q++F) g1 (by rw [f0,m];unfold PEv.ac;rw [c];simp only [aN,aK];omega)) ?_;rintro _ _ ⟨x0,f1,rfl⟩;refine ox 1 ?_;refine Yh (Zy p pp who ({ U with cells:=U.cells.set j A2.1 } :StC) x0++q) func130 (Uq results130) (dR ⟨({ U with cells:=U.cells.set j A2.1 } :StC),x0,⟨by rw [b],by rw [b];rfl,by rw [b,f1,f0,m];unfold PEv.ac;simp only [c,aN,aB],hTd⟩,rfl⟩) (by rw [aB];exact aD _)
theorem O6 (hP:Prg q pp g)(hM:MayP g.er)(hO:PO g N who U)(hev:ev.e.acc= []/\ev.e.syn= [])(hyA:Kn q fun M=>y.At M)(hg:y.s.er.good g.er.cn (U.ths[who]'(hO.w)).loc.length)(hTd:Kn q fun M=>TodoAt M U.ths)(hk:y.s.er.kd=4):CallF prog G 131 (Aa p y) (Zy p pp who U ev++q) (RP (fun v q'=> ∃ (U':StC) (ev':EvC),((U.er.data g.er.pr who y.s.er ev.e).2.2=0/\U'.er=(U.er.data g.er.pr who y.s.er ev.e).1/\ev'.e=(U.er.data g.er.pr who y.s.er ev.e).2.1/\Kn q fun M=>TodoAt M U'.ths)/\q'=Zy p pp who U' ev'++q) (fun ch q'=> ∃ (U':StC) (ev':EvC),((U.er.data g.er.pr who y.s.er ev.e).2.2≠0/\ch= [Uy (U.er.data g.er.pr who y.s.er ev.e).2.2]/\ev'.e=(U.er.data g.er.pr who y.s.er ev.e).2.1)/\q'=Zy p pp who U' ev'++q)):=by
 refine aC func131 ntmps131 rfl fun F cs=> ?_;obtain ⟨yb,yo,ys⟩:=y;obtain ⟨kk,ln,cl,nm,wt,⟨ek,en,e0,c0,f0,d0,el,ea,ec⟩,⟨xk,xn,p0,xsl,q0,o0,xl,xa,xc⟩,bd,i,ba,bc,n0,m0,id,sl,ot,y0⟩:=ys;have h0:=fC hyA;dsimp only at h0 hg hyA hk|-;simp only [Stm.er,PStm.kd] at hk;have f:=hO.w;have h8:=hO.h8;have n1:=hO.y;have v1:=hO.n9;obtain ⟨b0,m1⟩:=hev;have f1:Kn q fun M=>ExAt M ⟨yb,yo+5,none⟩ (Ex.mk ek en e0 c0 f0 d0 el ea ec):=hyA.imp fun M h=>Ya (pre:= (A6 kk ln cl nm wt)) h.1 rfl h.2.1 rfl
 have w1:Kn q fun M=>ExAt M ⟨yb,yo+12,none⟩ (Ex.mk xk xn p0 xsl q0 o0 xl xa xc):=hyA.imp fun M h=>Ya (pre:= (A6 kk ln cl nm wt)++exC (Ex.mk ek en e0 c0 f0 d0 el ea ec)) h.1 rfl h.2.2.1 rfl
 have w0:Kn q fun M=>BlkAt M ba bc bd:=hyA.imp fun M h=>h.2.2.2.1;have v0:Kn q fun M=>BlkAt M n0 m0 i:=hyA.imp fun M h=>⟨h.2.2.2.2.1,h.2.2.2.2.2⟩
 obtain ⟨e1,d1,z0,_⟩:=hg;obtain ⟨t1,s1,r1,q1,p1,h1,k1,j1,i1⟩:=Yp d1;obtain ⟨s0,u1⟩:=Wi e1;rw [Zf,Zf] at z0;obtain ⟨R,hR⟩:=lA (U.er.data g.er.pr who (Stm.er (Stm.mk kk ln cl nm wt (Ex.mk ek en e0 c0 f0 d0 el ea ec) (Ex.mk xk xn p0 xsl q0 o0 xl xa xc) bd i ba bc n0 m0 id sl ot y0)) ev.e);rw [<-hR];unfold SS.data at hR;simp only [Stm.er] at hR;rw [Z8 f] at hR;change X _ _ _ _ _ _ _ _ (A3 p pp U who ev q F);obtain rfl:kk=4:=(by omega);rw [if_neg (show ¬ (4:Int)=3 by decide)] at hR;try dsimp only at hR
 rw [if_neg (fun k=>k rfl)] at hR;refine Yd (l:=U.ths) (by omega) fun ga e_=> ?_;have hr: ∀ r,Sees (Ao U r) (some ⟨ga,0,none⟩) (AR U):=fun r=>by rw [<-e_];exact aV r
 refine xo 7 ?_;obtain ⟨A1,i0⟩:=lA ((Ex.er (Ex.mk ek en e0 c0 f0 d0 el ea ec)).made g.er.pr U.cells U.ths[who].loc);have j0:=Yj (p:=g.er.pr) hO.cv hO.lv (s0 (by omega));rw [<-i0] at j0;try rw [show (U.ths[who].er).loc=U.ths[who].loc from rfl] at hR
 try rw [show U.er.cells=U.cells from rfl] at hR
 rw [<-i0] at hR;have l1:A1.2.2.length<=16777216:=cL j0.2 (by decide);refine Uz call166 leA (J3 (p:=p) (pp:=pp) (who:=who) (hwho:=f) (Ex.sz (Ex.mk ek en e0 c0 f0 d0 el ea ec)) (e:=(Ex.mk ek en e0 c0 f0 d0 el ea ec)) (d:=24) (ev:=ev) (q:=q++F) (aY _) trivial (by decide) (s0 (by omega)) (by rw [b0];decide) (f1.le leA) (hP.le leA) hM hO.cl hO.cv hO.lv) ?_ ?_
 . rintro _ _ ⟨ht,rfl,g1,t0,rfl⟩;exact dM func131 (eG (by rw [<-i0] at ht t0|-;have u0:=hR;rw [if_pos ht] at u0;rw [u0];exact ⟨U,g1,⟨ht,rfl,by rw [t0];unfold PEv.ac;simp only [b0,aN]⟩,rfl⟩)) (by rw [aB];exact aD _)
 rintro _ _ ⟨r0,rfl,a0,k0,x0⟩;simp only [Zy,spP,Zo,evL,ca,na] at x0;subst x0;rw [<-i0] at r0 k0|-;rw [if_neg (fun k=>k r0)] at hR;rw [if_neg (by decide),if_neg (by decide),if_pos rfl] at hR;refine rn [3,0,7,0,2] ?_;refine xp 18 ?_ ?_<;>intro h5
 . rw [if_neg (show ¬A1.1=0 by omega)] at hR;refine bK (q':=stars (U.ths.map trH)::_) Zj (bK (Rq f _) ?_);refine bK (q':=rsH trC 5 116 (some ⟨ga,0,none⟩) U.hc U.ths::_) (by rw [<-e_];exact Zj) ?_;refine rf [1,0,1,3,4,5,6] h0 ?_;refine Yx 1 call95 (J9 (p:=p) (who:=who) (ga:=ga) (m:=U.ths.length) (c:=U.hc) (by rw [<-e_];exact clA) clA f) ?_ (hL:=(hlF h0));refine Ym 6 call84 (bP Zj Zj) (Fs (gh:=ga) (n:=who) (hc:=U.hc) (ths:=U.ths) (l:=bd) (a:=ba) (c:=bc) f (w0.le leA) ⟨by omega,by have:=hO.td;omega⟩) ?_;rintro _ _ ⟨x,u,o,j,l0,rfl⟩;refine ⟨trivial,?_⟩;refine kL ?_;rw [Yg f];rw [<-e_];refine bK (q':=stars ((U.ths.set who ({ U.ths[who] with ta:=x,tc:=u,todo:=U.ths[who].todo++(psL o j bd).reverse } :TC)).map trH)::_) (bB (b:=lsH I64 2 (({ U.ths[who] with ta:=x,tc:=u,todo:=U.ths[who].todo++(psL o j bd).reverse } :TC)).la (({ U.ths[who] with ta:=x,tc:=u,todo:=U.ths[who].todo++(psL o j bd).reverse } :TC)).lc (({ U.ths[who] with ta:=x,tc:=u,todo:=U.ths[who].todo++(psL o j bd).reverse } :TC)).loc::lsH PS.v 146 (({ U.ths[who] with ta:=x,tc:=u,todo:=U.ths[who].todo++(psL o j bd).reverse } :TC)).ta (({ U.ths[who] with ta:=x,tc:=u,todo:=U.ths[who].todo++(psL o j bd).reverse } :TC)).tc (({ U.ths[who] with ta:=x,tc:=u,todo:=U.ths[who].todo++(psL o j bd).reverse } :TC)).todo::lsH I64 3 (({ U.ths[who] with ta:=x,tc:=u,todo:=U.ths[who].todo++(psL o j bd).reverse } :TC)).sa (({ U.ths[who] with ta:=x,tc:=u,todo:=U.ths[who].todo++(psL o j bd).reverse } :TC)).sc (({ U.ths[who] with ta:=x,tc:=u,todo:=U.ths[who].todo++(psL o j bd).reverse } :TC)).sp::stars (Bq U who)::_) (bP Zj (bP Zj (bP Zj Zj))) (T9 f ({ U.ths[who] with ta:=x,tc:=u,todo:=U.ths[who].todo++(psL o j bd).reverse } :TC) _)) ?_;refine bK (q':=Zy p pp who ({ U with ths:=U.ths.set who ({ U.ths[who] with ta:=x,tc:=u,todo:=U.ths[who].todo++(psL o j bd).reverse } :TC) } :StC) ({ a0 with e:= { a0.e with value:=A1.1 } } :EvC)++(q++F)) (by unfold Zy spP Ug Zo;simp only [bG];exact leA) ?_
   refine Yh (Zy p pp who ({ U with ths:=U.ths.set who ({ U.ths[who] with ta:=x,tc:=u,todo:=U.ths[who].todo++(psL o j bd).reverse } :TC) } :StC) ({ a0 with e:= { a0.e with value:=A1.1 } } :EvC)++q) func131 (Uq results131) (dR ⟨({ U with ths:=U.ths.set who ({ U.ths[who] with ta:=x,tc:=u,todo:=U.ths[who].todo++(psL o j bd).reverse } :TC) } :StC),({ a0 with e:= { a0.e with value:=A1.1 } } :EvC),⟨by rw [hR],by rw [hR];dsimp only;rw [Vo];congr 1;simp only [TC.er,aT,kG,P4,iX,kR,cE,eA,jT,kH,aN,aB,Stm.er,eH],by rw [hR];dsimp only;rw [k0];unfold PEv.ac;simp only [b0,aN],(hTd.and ((hyA.and w0))).imp fun M h t ht z hz=>by
    rcases bR ht with ht|rfl
    . exact h.1 t ht z hz
    rcases aW.1 hz with hz|hz
    . exact h.1 _ (aA f) z hz
    have g0:=kF.1 hz;have hb:=h.2.2;rw [l0 (by rw [<-Nc o j bd];exact jY g0)] at hb;exact P5 hb z g0⟩,rfl⟩) (by rw [aB];exact aD _)
 rw [if_pos (show A1.1=0 by omega)] at hR;refine bK (q':=stars (U.ths.map trH)::_) Zj (bK (Rq f _) ?_);refine bK (q':=rsH trC 5 116 (some ⟨ga,0,none⟩) U.hc U.ths::_) (by rw [<-e_];exact Zj) ?_;refine rf [1,0,1,3,4,5,6] h0 ?_;refine Yx 1 call95 (J9 (p:=p) (who:=who) (ga:=ga) (m:=U.ths.length) (c:=U.hc) (by rw [<-e_];exact clA) clA f) ?_ (hL:=(hlF h0));refine Ym 6 call84 (bP Zj Zj) (Fs (gh:=ga) (n:=who) (hc:=U.hc) (ths:=U.ths) (l:=i) (a:=n0) (c:=m0) f (v0.le leA) ⟨by omega,by have:=hO.td;omega⟩) ?_;rintro _ _ ⟨x,u,o,j,l0,rfl⟩;refine ⟨trivial,?_⟩;refine kL ?_;rw [Yg f];rw [<-e_];refine bK (q':=stars ((U.ths.set who ({ U.ths[who] with ta:=x,tc:=u,todo:=U.ths[who].todo++(psL o j i).reverse } :TC)).map trH)::_) (bB (b:=lsH I64 2 (({ U.ths[who] with ta:=x,tc:=u,todo:=U.ths[who].todo++(psL o j i).reverse } :TC)).la (({ U.ths[who] with ta:=x,tc:=u,todo:=U.ths[who].todo++(psL o j i).reverse } :TC)).lc (({ U.ths[who] with ta:=x,tc:=u,todo:=U.ths[who].todo++(psL o j i).reverse } :TC)).loc::lsH PS.v 146 (({ U.ths[who] with ta:=x,tc:=u,todo:=U.ths[who].todo++(psL o j i).reverse } :TC)).ta (({ U.ths[who] with ta:=x,tc:=u,todo:=U.ths[who].todo++(psL o j i).reverse } :TC)).tc (({ U.ths[who] with ta:=x,tc:=u,todo:=U.ths[who].todo++(psL o j i).reverse } :TC)).todo::lsH I64 3 (({ U.ths[who] with ta:=x,tc:=u,todo:=U.ths[who].todo++(psL o j i).reverse } :TC)).sa (({ U.ths[who] with ta:=x,tc:=u,todo:=U.ths[who].todo++(psL o j i).reverse } :TC)).sc (({ U.ths[who] with ta:=x,tc:=u,todo:=U.ths[who].todo++(psL o j i).reverse } :TC)).sp::stars (Bq U who)::_) (bP Zj (bP Zj (bP Zj Zj))) (T9 f ({ U.ths[who] with ta:=x,tc:=u,todo:=U.ths[who].todo++(psL o j i).reverse } :TC) _)) ?_;refine bK (q':=Zy p pp who ({ U with ths:=U.ths.set who ({ U.ths[who] with ta:=x,tc:=u,todo:=U.ths[who].todo++(psL o j i).reverse } :TC) } :StC) ({ a0 with e:= { a0.e with value:=A1.1 } } :EvC)++(q++F)) (by unfold Zy spP Ug Zo;simp only [bG];exact leA) ?_
 refine Yh (Zy p pp who ({ U with ths:=U.ths.set who ({ U.ths[who] with ta:=x,tc:=u,todo:=U.ths[who].todo++(psL o j i).reverse } :TC) } :StC) ({ a0 with e:= { a0.e with value:=A1.1 } } :EvC)++q) func131 (Uq results131) (dR ⟨({ U with ths:=U.ths.set who ({ U.ths[who] with ta:=x,tc:=u,todo:=U.ths[who].todo++(psL o j i).reverse } :TC) } :StC),({ a0 with e:= { a0.e with value:=A1.1 } } :EvC),⟨by rw [hR],by rw [hR];dsimp only;rw [Vo];congr 1;simp only [TC.er,aT,kG,P4,iX,kR,cE,eA,jT,kH,aN,aB,Stm.er,eH],by rw [hR];dsimp only;rw [k0];unfold PEv.ac;simp only [b0,aN],(hTd.and ((hyA.and v0))).imp fun M h t ht z hz=>by
  rcases bR ht with ht|rfl
  . exact h.1 t ht z hz
  rcases aW.1 hz with hz|hz
  . exact h.1 _ (aA f) z hz
  have g0:=kF.1 hz;have hb:=h.2.2;rw [l0 (by rw [<-Nc o j i];exact jY g0)] at hb;exact P5 hb z g0⟩,rfl⟩) (by rw [aB];exact aD _)
theorem O5 (hP:Prg q pp g)(hM:MayP g.er)(hO:PO g N who U)(hev:ev.e.acc= []/\ev.e.syn= [])(hyA:Kn q fun M=>y.At M)(hg:y.s.er.good g.er.cn (U.ths[who]'(hO.w)).loc.length)(hTd:Kn q fun M=>TodoAt M U.ths)(hk:y.s.er.kd=5):CallF prog G 132 (Aa p y) (Zy p pp who U ev++q) (RP (fun v q'=> ∃ (U':StC) (ev':EvC),((U.er.data g.er.pr who y.s.er ev.e).2.2=0/\U'.er=(U.er.data g.er.pr who y.s.er ev.e).1/\ev'.e=(U.er.data g.er.pr who y.s.er ev.e).2.1/\Kn q fun M=>TodoAt M U'.ths)/\q'=Zy p pp who U' ev'++q) (fun ch q'=> ∃ (U':StC) (ev':EvC),((U.er.data g.er.pr who y.s.er ev.e).2.2≠0/\ch= [Uy (U.er.data g.er.pr who y.s.er ev.e).2.2]/\ev'.e=(U.er.data g.er.pr who y.s.er ev.e).2.1)/\q'=Zy p pp who U' ev'++q)):=by
 refine aC func132 ntmps132 rfl fun F cs=> ?_;obtain ⟨yb,yo,ys⟩:=y;obtain ⟨kk,ln,cl,nm,wt,⟨ek,en,a0,i,b0,o,el,ea,ec⟩,⟨xk,xn,d0,xsl,e0,c0,xl,xa,xc⟩,bd,g0,ba,bc,i0,h0,id,sl,ot,j0⟩:=ys;have p0:=fC hyA;dsimp only at p0 hg hyA hk|-;simp only [Stm.er,PStm.kd] at hk;have f0:=hO.w;have h8:=hO.h8;have m1:=hO.y;have u1:=hO.n9;obtain ⟨l0,l1⟩:=hev;have e1:Kn q fun M=>ExAt M ⟨yb,yo+5,none⟩ (Ex.mk ek en a0 i b0 o el ea ec):=hyA.imp fun M h=>Ya (pre:= (A6 kk ln cl nm wt)) h.1 rfl h.2.1 rfl
 have v1:Kn q fun M=>ExAt M ⟨yb,yo+12,none⟩ (Ex.mk xk xn d0 xsl e0 c0 xl xa xc):=hyA.imp fun M h=>Ya (pre:= (A6 kk ln cl nm wt)++exC (Ex.mk ek en a0 i b0 o el ea ec)) h.1 rfl h.2.2.1 rfl
 have v0:Kn q fun M=>BlkAt M ba bc bd:=hyA.imp fun M h=>h.2.2.2.1;have w1:Kn q fun M=>BlkAt M i0 h0 g0:=hyA.imp fun M h=>⟨h.2.2.2.2.1,h.2.2.2.2.2⟩
 obtain ⟨z0,y0,x0,_⟩:=hg;obtain ⟨s1,r1,q1,p1,n1,g1,j1,i1,h1⟩:=Yp y0;obtain ⟨s0,t1⟩:=Wi z0;rw [Zf,Zf] at x0;obtain ⟨R,hR⟩:=lA (U.er.data g.er.pr who (Stm.er (Stm.mk kk ln cl nm wt (Ex.mk ek en a0 i b0 o el ea ec) (Ex.mk xk xn d0 xsl e0 c0 xl xa xc) bd g0 ba bc i0 h0 id sl ot j0)) ev.e);rw [<-hR];unfold SS.data at hR;simp only [Stm.er] at hR;rw [Z8 f0] at hR;change X _ _ _ _ _ _ _ _ (A3 p pp U who ev q F);obtain rfl:kk=5:=(by omega);rw [if_neg (show ¬ (5:Int)=3 by decide)] at hR;try dsimp only at hR
 rw [if_neg (fun k=>k rfl)] at hR;refine Yd (l:=U.ths) (by omega) fun ga e_=> ?_;have hr: ∀ r,Sees (Ao U r) (some ⟨ga,0,none⟩) (AR U):=fun r=>by rw [<-e_];exact aV r
 refine xo 7 ?_;obtain ⟨A1,m0⟩:=lA ((Ex.er (Ex.mk ek en a0 i b0 o el ea ec)).made g.er.pr U.cells U.ths[who].loc);have n0:=Yj (p:=g.er.pr) hO.cv hO.lv (s0 (by omega));rw [<-m0] at n0;try rw [show (U.ths[who].er).loc=U.ths[who].loc from rfl] at hR
 try rw [show U.er.cells=U.cells from rfl] at hR
 rw [<-m0] at hR;have k1:A1.2.2.length<=16777216:=cL n0.2 (by decide);refine Uz call166 leA (J3 (p:=p) (pp:=pp) (who:=who) (hwho:=f0) (Ex.sz (Ex.mk ek en a0 i b0 o el ea ec)) (e:=(Ex.mk ek en a0 i b0 o el ea ec)) (d:=24) (ev:=ev) (q:=q++F) (aY _) trivial (by decide) (s0 (by omega)) (by rw [l0];decide) (e1.le leA) (hP.le leA) hM hO.cl hO.cv hO.lv) ?_ ?_
 . rintro _ _ ⟨ht,rfl,f1,t0,rfl⟩;exact dM func132 (eG (by rw [<-m0] at ht t0|-;have u0:=hR;rw [if_pos ht] at u0;rw [u0];exact ⟨U,f1,⟨ht,rfl,by rw [t0];unfold PEv.ac;simp only [l0,aN]⟩,rfl⟩)) (by rw [aB];exact aD _)
 rintro _ _ ⟨r0,rfl,k0,o0,w0⟩;simp only [Zy,spP,Zo,evL,ca,na] at w0;subst w0;rw [<-m0] at r0 o0|-;rw [if_neg (fun k=>k r0)] at hR;rw [if_neg (by decide),if_neg (by decide),if_neg (by decide),if_pos rfl] at hR;refine rn [3,0,7,0,2] ?_;refine xp 18 ?_ ?_<;>intro h5
 . rw [if_neg (show ¬A1.1=0 by omega)] at hR;refine bK (q':=stars (U.ths.map trH)::_) Zj (bK (Rq f0 _) ?_);refine bK (q':=rsH trC 5 116 (some ⟨ga,0,none⟩) U.hc U.ths::_) (by rw [<-e_];exact Zj) ?_;refine xo 4 ?_;refine aU call95 (J9 (p:=p) (who:=who) (ga:=ga) (m:=U.ths.length) (c:=U.hc) (by rw [<-e_];exact clA) clA f0) ?_;refine oo 1 ?_;refine aU call95 (J9 (p:=p) (who:=who) (ga:=ga) (m:=U.ths.length) (c:=U.hc) (by rw [<-e_];exact clA) clA f0) ?_;refine oo 2 ?_;refine ld ?_ (hc:=(cF (n:=who) (aV _) leA Zn f0 rfl 3 _ rfl));refine oo 1 ?_;refine bI (Vw (u:=(⟨yb,yo,(Stm.mk 5 ln cl nm wt (Ex.mk ek en a0 i b0 o el ea ec) (Ex.mk xk xn d0 xsl e0 c0 xl xa xc) bd g0 ba bc i0 h0 id sl ot j0)⟩:PS)) PS.v underlying114 Vu rfl rfl) ?_;rintro _ _ ⟨g2,rfl,rfl⟩;refine bI (Z6 (f:=PS.v) (l:=U.ths[who].todo) (m:= [(⟨yb,yo,(Stm.mk 5 ln cl nm wt (Ex.mk ek en a0 i b0 o el ea ec) (Ex.mk xk xn d0 xsl e0 c0 xl xa xc) bd g0 ba bc i0 h0 id sl ot j0)⟩:PS)]) underlying114 Vu rfl rfl rfl Zj ((bQ _).le leA) (fun _=>rfl) (by have:=hO.td;simp only [aJ];omega) (by have:=hO.td;simp only [aJ];omega)) ?_;rintro _ _ ⟨a5,c5,rfl,rfl⟩;refine oo 2 ?_;refine dK (Wk (g:=ga) (f:=trC) (l:=U.ths) (u:=({ U.ths[who] with ta:=a5,tc:=c5,todo:=U.ths[who].todo++ [(⟨yb,yo,(Stm.mk 5 ln cl nm wt (Ex.mk ek en a0 i b0 o el ea ec) (Ex.mk xk xn d0 xsl e0 c0 xl xa xc) bd g0 ba bc i0 h0 id sl ot j0)⟩:PS)] } :TC)) (n:=who) (k:=3) (j:=(who:Int)) rfl rfl sizeOf114 Zn rfl f0 rfl rfl rfl rfl Zj) ?_;rintro _ _ ⟨rfl,rfl⟩;refine rf [1,0,1,3,4,5,6] p0 ?_;refine Yx 1 call95 (J9 (p:=p) (who:=who) (ga:=ga) (m:=U.ths.length) (c:=U.hc) (by rw [<-e_];exact clA) clA f0) ?_ (hL:=(hlF p0));refine Ym 6 call84 (bP Zj Zj) (Zkw (gh:=ga) (n:=who) (hc:=U.hc) (ths:=U.ths) (x:=({ U.ths[who] with ta:=a5,tc:=c5,todo:=U.ths[who].todo++ [(⟨yb,yo,(Stm.mk 5 ln cl nm wt (Ex.mk ek en a0 i b0 o el ea ec) (Ex.mk xk xn d0 xsl e0 c0 xl xa xc) bd g0 ba bc i0 h0 id sl ot j0)⟩:PS)] } :TC)) (l:=bd) (a:=ba) (c:=bc) f0 (v0.le leA) ⟨by omega,by have:=hO.td;simp only [aK,aJ];omega⟩) ?_;rintro _ _ ⟨a1,c1,b1,o1,d1,rfl⟩;refine ⟨trivial,?_⟩;refine kL ?_;rw [<-e_];refine bK (q':=stars ((U.ths.set who ({ U.ths[who] with ta:=a1,tc:=c1,todo:=U.ths[who].todo++ [(⟨yb,yo,(Stm.mk 5 ln cl nm wt (Ex.mk ek en a0 i b0 o el ea ec) (Ex.mk xk xn d0 xsl e0 c0 xl xa xc) bd g0 ba bc i0 h0 id sl ot j0)⟩:PS)]++(psL b1 o1 bd).reverse } :TC)).map trH)::_) (bB (b:=lsH I64 2 (({ U.ths[who] with ta:=a1,tc:=c1,todo:=U.ths[who].todo++ [(⟨yb,yo,(Stm.mk 5 ln cl nm wt (Ex.mk ek en a0 i b0 o el ea ec) (Ex.mk xk xn d0 xsl e0 c0 xl xa xc) bd g0 ba bc i0 h0 id sl ot j0)⟩:PS)]++(psL b1 o1 bd).reverse } :TC)).la (({ U.ths[who] with ta:=a1,tc:=c1,todo:=U.ths[who].todo++ [(⟨yb,yo,(Stm.mk 5 ln cl nm wt (Ex.mk ek en a0 i b0 o el ea ec) (Ex.mk xk xn d0 xsl e0 c0 xl xa xc) bd g0 ba bc i0 h0 id sl ot j0)⟩:PS)]++(psL b1 o1 bd).reverse } :TC)).lc (({ U.ths[who] with ta:=a1,tc:=c1,todo:=U.ths[who].todo++ [(⟨yb,yo,(Stm.mk 5 ln cl nm wt (Ex.mk ek en a0 i b0 o el ea ec) (Ex.mk xk xn d0 xsl e0 c0 xl xa xc) bd g0 ba bc i0 h0 id sl ot j0)⟩:PS)]++(psL b1 o1 bd).reverse } :TC)).loc::lsH PS.v 146 (({ U.ths[who] with ta:=a1,tc:=c1,todo:=U.ths[who].todo++ [(⟨yb,yo,(Stm.mk 5 ln cl nm wt (Ex.mk ek en a0 i b0 o el ea ec) (Ex.mk xk xn d0 xsl e0 c0 xl xa xc) bd g0 ba bc i0 h0 id sl ot j0)⟩:PS)]++(psL b1 o1 bd).reverse } :TC)).ta (({ U.ths[who] with ta:=a1,tc:=c1,todo:=U.ths[who].todo++ [(⟨yb,yo,(Stm.mk 5 ln cl nm wt (Ex.mk ek en a0 i b0 o el ea ec) (Ex.mk xk xn d0 xsl e0 c0 xl xa xc) bd g0 ba bc i0 h0 id sl ot j0)⟩:PS)]++(psL b1 o1 bd).reverse } :TC)).tc (({ U.ths[who] with ta:=a1,tc:=c1,todo:=U.ths[who].todo++ [(⟨yb,yo,(Stm.mk 5 ln cl nm wt (Ex.mk ek en a0 i b0 o el ea ec) (Ex.mk xk xn d0 xsl e0 c0 xl xa xc) bd g0 ba bc i0 h0 id sl ot j0)⟩:PS)]++(psL b1 o1 bd).reverse } :TC)).todo::lsH I64 3 (({ U.ths[who] with ta:=a1,tc:=c1,todo:=U.ths[who].todo++ [(⟨yb,yo,(Stm.mk 5 ln cl nm wt (Ex.mk ek en a0 i b0 o el ea ec) (Ex.mk xk xn d0 xsl e0 c0 xl xa xc) bd g0 ba bc i0 h0 id sl ot j0)⟩:PS)]++(psL b1 o1 bd).reverse } :TC)).sa (({ U.ths[who] with ta:=a1,tc:=c1,todo:=U.ths[who].todo++ [(⟨yb,yo,(Stm.mk 5 ln cl nm wt (Ex.mk ek en a0 i b0 o el ea ec) (Ex.mk xk xn d0 xsl e0 c0 xl xa xc) bd g0 ba bc i0 h0 id sl ot j0)⟩:PS)]++(psL b1 o1 bd).reverse } :TC)).sc (({ U.ths[who] with ta:=a1,tc:=c1,todo:=U.ths[who].todo++ [(⟨yb,yo,(Stm.mk 5 ln cl nm wt (Ex.mk ek en a0 i b0 o el ea ec) (Ex.mk xk xn d0 xsl e0 c0 xl xa xc) bd g0 ba bc i0 h0 id sl ot j0)⟩:PS)]++(psL b1 o1 bd).reverse } :TC)).sp::stars (Bq U who)::_) (bP Zj (bP Zj (bP Zj Zj))) (T9 f0 ({ U.ths[who] with ta:=a1,tc:=c1,todo:=U.ths[who].todo++ [(⟨yb,yo,(Stm.mk 5 ln cl nm wt (Ex.mk ek en a0 i b0 o el ea ec) (Ex.mk xk xn d0 xsl e0 c0 xl xa xc) bd g0 ba bc i0 h0 id sl ot j0)⟩:PS)]++(psL b1 o1 bd).reverse } :TC) _)) ?_;refine bK (q':=Zy p pp who ({ U with ths:=U.ths.set who ({ U.ths[who] with ta:=a1,tc:=c1,todo:=U.ths[who].todo++ [(⟨yb,yo,(Stm.mk 5 ln cl nm wt (Ex.mk ek en a0 i b0 o el ea ec) (Ex.mk xk xn d0 xsl e0 c0 xl xa xc) bd g0 ba bc i0 h0 id sl ot j0)⟩:PS)]++(psL b1 o1 bd).reverse } :TC) } :StC) ({ k0 with e:= { k0.e with value:=A1.1 } } :EvC)++(q++F)) (by unfold Zy spP Ug Zo;simp only [bG];exact leA) ?_
   refine Yh (Zy p pp who ({ U with ths:=U.ths.set who ({ U.ths[who] with ta:=a1,tc:=c1,todo:=U.ths[who].todo++ [(⟨yb,yo,(Stm.mk 5 ln cl nm wt (Ex.mk ek en a0 i b0 o el ea ec) (Ex.mk xk xn d0 xsl e0 c0 xl xa xc) bd g0 ba bc i0 h0 id sl ot j0)⟩:PS)]++(psL b1 o1 bd).reverse } :TC) } :StC) ({ k0 with e:= { k0.e with value:=A1.1 } } :EvC)++q) func132 (Uq results132) (dR ⟨({ U with ths:=U.ths.set who ({ U.ths[who] with ta:=a1,tc:=c1,todo:=U.ths[who].todo++ [(⟨yb,yo,(Stm.mk 5 ln cl nm wt (Ex.mk ek en a0 i b0 o el ea ec) (Ex.mk xk xn d0 xsl e0 c0 xl xa xc) bd g0 ba bc i0 h0 id sl ot j0)⟩:PS)]++(psL b1 o1 bd).reverse } :TC) } :StC),({ k0 with e:= { k0.e with value:=A1.1 } } :EvC),⟨by rw [hR],by rw [hR];dsimp only;rw [Vo];congr 1;simp only [TC.er,aT,kG,P4,iX,kR,cE,eA,jT,kH,aN,aB,Stm.er,eH],by rw [hR];dsimp only;rw [o0];unfold PEv.ac;simp only [l0,aN],(hTd.and ((hyA.and v0))).imp fun M h t ht z hz=>by
    rcases bR ht with ht|rfl
    . exact h.1 t ht z hz
    rcases aW.1 hz with hz|hz
    . rcases aW.1 hz with hz|hz
      . exact h.1 _ (aA f0) z hz
      rw [bJ.1 hz];exact h.2.1
    have q0:=kF.1 hz;have hb:=h.2.2;rw [d1 (by rw [<-Nc b1 o1 bd];exact jY q0)] at hb;exact P5 hb z q0⟩,rfl⟩) (by rw [aB];exact aD _)
 rw [if_pos (show A1.1=0 by omega)] at hR;refine xx 2 ?_;refine Yh (Zy p pp who U ({ k0 with e:= { k0.e with value:=A1.1 } } :EvC)++q) func132 (Uq results132) (dR ⟨U,({ k0 with e:= { k0.e with value:=A1.1 } } :EvC),⟨by rw [hR],by rw [hR];dsimp only;rw [aN];exact (Lt f0).symm,by rw [hR];dsimp only;rw [o0];unfold PEv.ac;simp only [l0,aN],hTd⟩,rfl⟩) (by rw [aB];exact aD _)
theorem Zjl (hP:Prg q pp g)(hM:MayP g.er)(hO:PO g N who U)(hev:ev.e.acc= []/\ev.e.syn= [])(hyA:Kn q fun M=>y.At M)(hg:y.s.er.good g.er.cn (U.ths[who]'(hO.w)).loc.length)(hTd:Kn q fun M=>TodoAt M U.ths)(hk:y.s.er.kd=15):CallF prog G 142 (Aa p y) (Zy p pp who U ev++q) (RP (fun v q'=> ∃ (U':StC) (ev':EvC),((U.er.data g.er.pr who y.s.er ev.e).2.2=0/\U'.er=(U.er.data g.er.pr who y.s.er ev.e).1/\ev'.e=(U.er.data g.er.pr who y.s.er ev.e).2.1/\Kn q fun M=>TodoAt M U'.ths)/\q'=Zy p pp who U' ev'++q) (fun ch q'=> ∃ (U':StC) (ev':EvC),((U.er.data g.er.pr who y.s.er ev.e).2.2≠0/\ch= [Uy (U.er.data g.er.pr who y.s.er ev.e).2.2]/\ev'.e=(U.er.data g.er.pr who y.s.er ev.e).2.1)/\q'=Zy p pp who U' ev'++q)):=by
 refine aC func142 ntmps142 rfl fun F cs=> ?_;obtain ⟨yb,yo,ys⟩:=y;obtain ⟨kk,ln,cl,nm,wt,⟨u,r,f,b,i,c,t,z,x⟩,⟨xk,xn,b0,xsl,c0,a0,xl,xa,xc⟩,bd,i0,ba,bc,l0,k0,id,sl,ot,m0⟩:=ys;have r0:=fC hyA;dsimp only at r0 hg hyA hk|-;simp only [Stm.er,PStm.kd] at hk;have j:=hO.w;have h8:=hO.h8;have z0:=hO.y;have g1:=hO.n9;obtain ⟨l,y0⟩:=hev;have q0:Kn q fun M=>ExAt M ⟨yb,yo+5,none⟩ (Ex.mk u r f b i c t z x):=hyA.imp fun M h=>Ya (pre:= (A6 kk ln cl nm wt)) h.1 rfl h.2.1 rfl
 have h1:Kn q fun M=>ExAt M ⟨yb,yo+12,none⟩ (Ex.mk xk xn b0 xsl c0 a0 xl xa xc):=hyA.imp fun M h=>Ya (pre:= (A6 kk ln cl nm wt)++exC (Ex.mk u r f b i c t z x)) h.1 rfl h.2.2.1 rfl
 have j1:Kn q fun M=>BlkAt M ba bc bd:=hyA.imp fun M h=>h.2.2.2.1;have i1:Kn q fun M=>BlkAt M l0 k0 i0:=hyA.imp fun M h=>⟨h.2.2.2.2.1,h.2.2.2.2.2⟩
 obtain ⟨p0,o0,n0,_⟩:=hg;obtain ⟨e1,d1,c1,b1,a1,t0,w0,v0,u0⟩:=Yp o0;obtain ⟨e0,f1⟩:=Wi p0;rw [Zf,Zf] at n0;obtain ⟨R,a⟩:=lA (U.er.data g.er.pr who (Stm.er (Stm.mk kk ln cl nm wt (Ex.mk u r f b i c t z x) (Ex.mk xk xn b0 xsl c0 a0 xl xa xc) bd i0 ba bc l0 k0 id sl ot m0)) ev.e);rw [<-a];unfold SS.data at a;simp only [Stm.er] at a;rw [Z8 j] at a;change X _ _ _ _ _ _ _ _ (A3 p pp U who ev q F);obtain rfl:kk=15:=(by omega);rw [if_neg (show ¬ (15:Int)=3 by decide)] at a;try dsimp only at a
 rw [if_neg (fun k=>k rfl)] at a;refine xo 7 ?_;obtain ⟨A1,m⟩:=lA ((Ex.er (Ex.mk u r f b i c t z x)).made g.er.pr U.cells U.ths[who].loc);have o:=Yj (p:=g.er.pr) hO.cv hO.lv (e0 (by omega));rw [<-m] at o;try rw [show (U.ths[who].er).loc=U.ths[who].loc from rfl] at a
 try rw [show U.er.cells=U.cells from rfl] at a
 rw [<-m] at a;have x0:A1.2.2.length<=16777216:=cL o.2 (by decide);refine Uz call166 leA (J3 (p:=p) (pp:=pp) (who:=who) (hwho:=j) (Ex.sz (Ex.mk u r f b i c t z x)) (e:=(Ex.mk u r f b i c t z x)) (d:=24) (ev:=ev) (q:=q++F) (aY _) trivial (by decide) (e0 (by omega)) (by rw [l];decide) (q0.le leA) (hP.le leA) hM hO.cl hO.cv hO.lv) ?_ ?_
 . rintro _ _ ⟨ht,rfl,s0,f0,rfl⟩;exact dM func142 (eG (by rw [<-m] at ht f0|-;have h0:=a;rw [if_pos ht] at h0;rw [h0];exact ⟨U,s0,⟨ht,rfl,by rw [f0];unfold PEv.ac;simp only [l,aN]⟩,rfl⟩)) (by rw [aB];exact aD _)
 rintro _ _ ⟨d0,rfl,n,g0,j0⟩;simp only [Zy,spP,Zo,evL,ca,na] at j0;subst j0;rw [<-m] at d0 g0|-;rw [if_neg (fun k=>k d0)] at a;rw [if_neg (by decide),if_neg (by decide),if_neg (by decide),if_neg (by decide),if_neg (by decide)] at a;refine rn [3,0,6,0,1] ?_;refine Yh (Zy p pp who U ({ n with e:= { n.e with told:=true,outv:=A1.1 } } :EvC)++q) func142 (Uq results142) (dR ⟨U,({ n with e:= { n.e with told:=true,outv:=A1.1 } } :EvC),⟨by rw [a],by rw [a],by rw [a];dsimp only;rw [g0];unfold PEv.ac;simp only [l,aN],hTd⟩,rfl⟩) (by unfold Zy spP;exact leA)
abbrev AW (v0:StC)(v1:PS):=(v0.sy.chans.getD v1.s.er.slt.toNat ch0)
theorem xsend_ok (hP:Prg q pp g)(hM:MayP g.er)(hO:PO g N who U)(hev:ev.e.acc= []/\ev.e.syn= [])(hyA:Kn q fun M=>y.At M)(hg:y.s.er.good g.er.cn (U.ths[who]'(hO.w)).loc.length)(hTd:Kn q fun M=>TodoAt M U.ths)(hk:y.s.er.kd=11)(hroom:((AW U y).items.length:Int)<(AW U y).room):CallF prog G 138 (Aa p y) (Zy p pp who U ev++q) (RP (fun v q'=> ∃ (U':StC) (ev':EvC),((U.er.data g.er.pr who y.s.er ev.e).2.2=0/\U'.er=(U.er.data g.er.pr who y.s.er ev.e).1/\ev'.e=(U.er.data g.er.pr who y.s.er ev.e).2.1/\Kn q fun M=>TodoAt M U'.ths)/\q'=Zy p pp who U' ev'++q) (fun ch q'=> ∃ (U':StC) (ev':EvC),((U.er.data g.er.pr who y.s.er ev.e).2.2≠0/\ch= [Uy (U.er.data g.er.pr who y.s.er ev.e).2.2]/\ev'.e=(U.er.data g.er.pr who y.s.er ev.e).2.1)/\q'=Zy p pp who U' ev'++q)):=by
 refine aC func138 ntmps138 rfl fun F cs=> ?_;obtain ⟨yb,yo,ys⟩:=y;obtain ⟨kk,ln,cl,nm,wt,⟨ek,z,f,b,i,c,el,ea,ec⟩,⟨xk,xn,b0,xsl,c0,a0,xl,xa,xc⟩,bd,j0,ba,bc,m0,l0,id,sl,ot,n0⟩:=ys;have n:=fC hyA;dsimp only at n hg hyA hk|-;simp only [Stm.er,PStm.kd] at hk;have j:=hO.w;have h8:=hO.h8;have o0:=hO.y;have i1:=hO.n9;obtain ⟨m,r⟩:=hev;have u0:Kn q fun M=>ExAt M ⟨yb,yo+5,none⟩ (Ex.mk ek z f b i c el ea ec):=hyA.imp fun M h=>Ya (pre:= (A6 kk ln cl nm wt)) h.1 rfl h.2.1 rfl
 have j1:Kn q fun M=>ExAt M ⟨yb,yo+12,none⟩ (Ex.mk xk xn b0 xsl c0 a0 xl xa xc):=hyA.imp fun M h=>Ya (pre:= (A6 kk ln cl nm wt)++exC (Ex.mk ek z f b i c el ea ec)) h.1 rfl h.2.2.1 rfl
 have l1:Kn q fun M=>BlkAt M ba bc bd:=hyA.imp fun M h=>h.2.2.2.1;have k1:Kn q fun M=>BlkAt M m0 l0 j0:=hyA.imp fun M h=>⟨h.2.2.2.2.1,h.2.2.2.2.2⟩
 obtain ⟨s0,r0,q0,_⟩:=hg;obtain ⟨f1,e1,d1,c1,b1,x0,e0,z0,y0⟩:=Yp r0;obtain ⟨f0,g1⟩:=Wi s0;rw [Zf,Zf] at q0;obtain ⟨R,a⟩:=lA (U.er.data g.er.pr who (Stm.er (Stm.mk kk ln cl nm wt (Ex.mk ek z f b i c el ea ec) (Ex.mk xk xn b0 xsl c0 a0 xl xa xc) bd j0 ba bc m0 l0 id sl ot n0)) ev.e);rw [<-a];unfold SS.data at a;simp only [Stm.er] at a;rw [Z8 j] at a;change X _ _ _ _ _ _ _ _ (A3 p pp U who ev q F);obtain rfl:kk=11:=(by omega);rw [if_neg (show ¬ (11:Int)=3 by decide)] at a;try dsimp only at a
 rw [if_neg (fun k=>k rfl)] at a;have u:=e0 (.inl rfl);have h1:=hO.ch;refine rf [1,0,1,2,3,4,5,6,7,8,9,10,11,12,13] n ?_;obtain ⟨A1,o⟩:=lA ((Ex.er (Ex.mk ek z f b i c el ea ec)).made g.er.pr U.cells U.ths[who].loc);have l:=Yj (p:=g.er.pr) hO.cv hO.lv (f0 (by omega));rw [<-o] at l;try rw [show (U.ths[who].er).loc=U.ths[who].loc from rfl] at a
 try rw [show U.er.cells=U.cells from rfl] at a
 rw [<-o] at a;have a1:A1.2.2.length<=16777216:=cL l.2 (by decide);refine Py 13 call166 leA (J3 (p:=p) (pp:=pp) (who:=who) (hwho:=j) (Ex.sz (Ex.mk ek z f b i c el ea ec)) (e:=(Ex.mk ek z f b i c el ea ec)) (d:=24) (ev:=ev) (q:=q++F) (aY _) trivial (by decide) (f0 (by omega)) (by rw [m];decide) (u0.le leA) (hP.le leA) hM hO.cl hO.cv hO.lv) ?_ ?_ trivial
 . rintro _ _ ⟨ht,rfl,v0,g0,rfl⟩;exact dM func138 (eG (by rw [<-o] at ht g0|-;have h0:=a;rw [if_pos ht] at h0;rw [h0];exact ⟨U,v0,⟨ht,rfl,by rw [g0];unfold PEv.ac;simp only [m,aN]⟩,rfl⟩)) (by rw [aB];exact aD _)
 rintro _ _ ⟨d0,rfl,w0,x,k0⟩;simp only [Zy,spP,Zo,evL,ca,na] at k0;subst k0;refine ⟨(hlF n),?_⟩;rw [<-o] at d0 x|-;rw [if_neg (fun k=>k d0)] at a;rw [if_neg (by decide),if_neg (by decide),if_neg (by decide),if_neg (by decide),if_pos rfl] at a;refine V4 14 call174 (Send_Y (k:=sl) (t:=A1.1) o0 (by omega)) ?_;refine kc0 ?_;refine rf [16,17,18,19,20,21,22,0,5,0,1] n ?_;refine Zx call98 leA (U0 (p:=p) (pp:=pp) (who:=who) (U:=({ U with sy:=(Vt U.sy sl A1.1).1 } :StC)) (ev:=w0) (q:=q++F) (by rw [x];unfold PEv.ac;dsimp only;rw [r];decide)) ?_;rintro _ _ ⟨i0,t0,rfl⟩;refine ox 1 ?_;replace hroom:((U.sy.chans.getD sl.toNat ch0).items.length:Int)<(U.sy.chans.getD sl.toNat ch0).room:=hroom;have p0:(Vt U.sy sl A1.1).2.1=((U.sy.chans.getD sl.toNat ch0).all.length:Int):=by unfold Vt;rw [if_pos ⟨u.1,by omega⟩,if_pos l.1,if_pos hroom]
 refine Yh (Zy p pp who ({ U with sy:=(Vt U.sy sl A1.1).1 } :StC) i0++q) func138 (Uq results138) (dR ⟨({ U with sy:=(Vt U.sy sl A1.1).1 } :StC),i0,⟨by rw [a],by rw [a];rfl,by rw [a,t0,x,p0];unfold PEv.ac PEv.sn;dsimp only;rw [m,r,gE (by omega)];simp;rfl,hTd⟩,rfl⟩) (by rw [aB];exact aD _)
end
structure SS.fine (F:Fnd) (N:Nat) (s:SS):Prop where
 ok:SS.ok F N s
 u:s.sy.conds.flatten.Nodup
 q: ∀ t∈s.ths,t.sp.length<s.ths.length
structure PTr.ok0 (F:Fnd) (N nth:Nat) (t:PTr):Prop where
 d:0<=t.decl/\t.decl<F.ths.length
 s:1<=t.st/\t.st<=4
 l:t.loc.length<=32
 v: ∀ x∈t.loc,val x
 g:Vz F.cn t.loc.length t.left
 n:t.left.length<=600*(N+1)
 p:t.sp.length<nth/\ ∀ i∈t.sp,0<=i/\i<nth
structure PTr.ok1 (t:PTr):Prop where
 e:t.left= []↔t.st=4
 w:t.st=2\/t.st=3->t.next.kd=8
theorem ThOk.parts {nth:Nat}(h:ThOk F N nth t)(q:t.sp.length<nth):t.ok0 F N nth/\t.ok1:=⟨⟨h.d,h.s,h.l,h.v,h.g,h.n,q,h.p.2⟩,⟨h.e,h.w⟩⟩
theorem ThOk.of {nth:Nat}(h:t.ok0 F N nth)(k:t.ok1)(l:nth<=8):ThOk F N nth t:=⟨h.d,h.s,h.l,h.v,h.g,h.n,k.e,k.w,by have:=h.p.1;omega,h.p.2⟩
structure SS.okx (F:Fnd) (N n:Nat) (s:SS):Prop where
 c:(s.cells.length:Int)=F.vars.length+Yl F.arrs
 v: ∀ x∈s.cells,val x
 y:s.sy.ok N
 z:(s.sy.owners.length:Int)=F.mu/\(s.sy.conds.length:Int)=F.co/\s.sy.chans.map Ch.room=F.chs
 t:1<=s.ths.length/\s.ths.length<=8
 nn:n<s.ths.length
 h: ∀ i,i<s.ths.length->(s.th i).ok0 F N s.ths.length
 o: ∀ i,i<s.ths.length->i≠n->(s.th i).ok1
 m:(s.th n).st=1\/((s.th n).st=2/\(s.th n).next.kd=8/\(s.th n).left≠ [])
 w: ∀ l∈s.sy.conds,∀ t∈l,t.toNat<s.ths.length/\(s.th t.toNat).st=2
 u:s.sy.conds.flatten.Nodup
theorem SS.put_len (s:SS)(n:Nat)(t:PTr):(s.put n t).ths.length=s.ths.length:=by simp [SS.put]
abbrev eE:=@SS.put_len
theorem Qf (h:n<s.ths.length)(i:Nat):(s.put n t).th i=if i=n then t else s.th i:=by
 unfold SS.th SS.put;by_cases e:i=n
 . subst e;simp [List.getD,h]
 rw [if_neg e];simp only [bS,List.getElem?_set_ne (Ne.symm e)]
theorem PTr.ok0.mono {m m':Nat}(h:t.ok0 F N m)(l:N<=N')(k:m<=m'):t.ok0 F N' m':=
 ⟨h.d,h.s,h.l,h.v,h.g,by have:=h.n;omega,by have:=h.p.1;omega,fun i a=>by have:=h.p.2 i a;omega⟩
theorem SS.okx.mono (h:s.okx F N n)(l:N<=N'):s.okx F N' n:=
 ⟨h.c,h.v,h.y.mono l,h.z,h.t,h.nn,fun i hi=>(h.h i hi).mono l (aY _),h.o,h.m,h.w,h.u⟩
theorem SS.okx.put (h:s.okx F N n)(h0:t.ok0 F N s.ths.length)(hm:t.st=1\/(t.st=2/\t.next.kd=8/\t.left≠ []))(hw:(s.th n).st=2->t.st=2):(s.put n t).okx F N n:=by
 have b:=s.put_len n t;have f:=Qf (t:=t) h.nn;refine ⟨h.c,h.v,h.y,h.z,by rw [b];exact h.t,by rw [b];exact h.nn,fun i d=> ?_,fun i d a=> ?_,?_,fun l j k p=> ?_,h.u⟩
 . rw [b] at d|-;rw [f];split
   . exact h0
   exact h.h i d
 . rw [b] at d;rw [f,if_neg a];exact h.o i d a
 . rw [f,if_pos rfl];exact hm
 obtain ⟨m,g⟩:=h.w l j k p;rw [b,f];refine ⟨m,?_⟩;split
 . rename_i e;rw [e] at g;exact hw g
 exact g
theorem SS.okx.cell {l:List Int}(h:s.okx F N n)(hl:l.length=s.cells.length)(hv: ∀ x∈l,val x):({ s with cells:=l } :SS).okx F N n:=
 ⟨by show (l.length:Int)=_;rw [hl];exact h.c,hv,h.y,h.z,h.t,h.nn,h.h,h.o,h.m,h.w,h.u⟩
theorem SS.okx.sync {y:Sy}(h:s.okx F N n)(l:N<=N')(hy:y.ok N')(h1:y.owners.length=s.sy.owners.length)(h2:y.conds=s.sy.conds)(h3:y.chans.map Ch.room=s.sy.chans.map Ch.room):({ s with sy:=y } :SS).okx F N' n:=
 ⟨h.c,h.v,hy,⟨by show (y.owners.length:Int)=_;rw [h1];exact h.z.1,by show (y.conds.length:Int)=_;rw [h2];exact h.z.2.1,by show y.chans.map Ch.room=_;rw [h3];exact h.z.2.2⟩,h.t,h.nn,fun i a=>(h.h i a).mono l (aY _),h.o,h.m,by show ∀ l∈y.conds,_;rw [h2];exact h.w,by show y.conds.flatten.Nodup;rw [h2];exact h.u⟩
theorem Ps {l:List Int}(h: ∀ x∈l,val x)(hv:val v): ∀ x∈l.set i v,val x:=fun x a=>by
 rcases bR a with a|rfl
 . exact h x a
 exact hv
theorem SS.okx.into {slot:Int}{loc:Bool}(h:s.okx F N n)(hv:val v):(s.into n slot loc v).1.okx F N n/\((s.into n slot loc v).1.th n).st=(s.th n).st:=by
 unfold SS.into;split
 . have k:=h.h n h.nn;refine ⟨h.put ⟨k.d,k.s,by simpa using k.l,Ps k.v hv,by rw [bG];exact k.g,k.n,k.p⟩ (by exact h.m) (fun e=>e),?_⟩;dsimp only;rw [Qf h.nn,if_pos rfl]
 exact ⟨h.cell (by simp) (Ps h.v hv),rfl⟩
theorem So (s:Sy)(k v:Int):(Vt s k v).1.conds=s.conds:=by unfold Vt;(repeat' split)<;>rfl
theorem Zj8 (s:Sy)(k v:Int):(Vt s k v).1.owners=s.owners:=by unfold Vt;(repeat' split)<;>rfl
theorem Ss {l:List Ch}{x:Ch}(h:x.room=(l.getD i ch0).room):(l.set i x).map Ch.room=l.map Ch.room:=by
 rw [dZ];apply gT (by simp);intro j b a;by_cases e:i=j
 . subst e;have:i<l.length:=by simpa using a
   simp [h,List.getD,this]
 simp [gY e]
theorem Xj (s:Sy)(k v:Int):(Vt s k v).1.chans.map Ch.room=s.chans.map Ch.room:=by
 unfold Vt;split
 . split
   . split
     . exact Ss rfl
     rfl
   rfl
 rfl
theorem Xx (s:Sy)(k:Int):(We s k).1.chans.map Ch.room=s.chans.map Ch.room:=by
 unfold We;split
 . split
   . rfl
   exact Ss rfl
 rfl
theorem Gq (s:Sy)(m t:Int):(W2 s m t).1.owners.length=s.owners.length/\(W2 s m t).1.conds=s.conds/\(W2 s m t).1.chans=s.chans:=by
 unfold W2;(repeat' split)<;>simp
theorem Hl (s:Sy)(m t:Int):(Yy s m t).1.owners.length=s.owners.length/\(Yy s m t).1.conds=s.conds/\(Yy s m t).1.chans=s.chans:=by
 unfold Yy;(repeat' split)<;>simp
theorem Lw (h:n<s.ths.length):((s.put n t).th n)=t:=by rw [Qf h,if_pos rfl]
theorem Zqh {x:PStm}(h:s.okx F N n)(hM:MayP F)(hs:(s.th n).st=1)(hx:x.good F.cn (s.th n).loc.length)(hl:(s.th n).left.length+1<=600*(N+1))(hk:x.kd<=5\/x.kd=11\/x.kd=15)(ht:(s.data F.pr n x ev).2.2=0):(s.data F.pr n x ev).1.okx F (N+1) n:=by
 have u:=h.mono (dG N);obtain ⟨k,ln,cl,nm,wt,e,ix,g0,o0,id,b0,w,loc⟩:=x;simp only [PStm.kd] at hk;obtain ⟨r,q,a0,f,o⟩:=hx;obtain ⟨m0,l0,j0,i0,h0,c0,f0,e0,d0⟩:=Yp q;obtain ⟨z,n0⟩:=Wi r;have c:=h.h n h.nn;have j:=(Yj (p:=F.pr) h.v c.v (z (by omega))).1;unfold SS.data at ht|-;dsimp only at ht|-;generalize (if k=3 then ix.made F.pr s.cells (s.th n).loc else (0,0, []))=i at ht|-;generalize e.made F.pr s.cells (s.th n).loc=v at ht|-j;split at ht
 . rename_i h1;exact bD ht h1
 rename_i h1;rw [if_neg h1];split at ht
 . rename_i h2;exact bD ht h2
 rename_i h2;rw [if_neg h2];split at ht
 . rename_i h3;rw [if_pos h3];exact (u.into j).1
 rename_i h3;rw [if_neg h3];split at ht
 . rename_i h4;rw [if_pos h4];split at ht
   . exact bD ht (by show ¬ (3:Int)=0;decide)
   rename_i t;rw [if_neg t];exact u.cell (by simp) (Ps h.v j)
 rename_i h4;rw [if_neg h4]
 have b: ∀ m:List PStm,m.length<=513->Vz F.cn (s.th n).loc.length m->(s.put n { s.th n with left:=m++(s.th n).left }).okx F (N+1) n:=fun m hm hg=>by
  refine u.put ⟨c.d,c.s,c.l,c.v,Wa.2 fun y a=> ?_,by simp only [aK];omega,c.p⟩ (.inl hs) (fun e=>e);rcases aW.1 a with a|a
  . exact Wa.1 hg y a
  exact Wa.1 c.g y a
 split at ht
 . rename_i t;rw [if_pos t];split
   . exact b _ (by omega) o
   exact b _ (by omega) f
 rename_i t;rw [if_neg t];split at ht
 . rename_i h6;rw [if_pos h6];split
   . exact b _ (by simp) trivial
   refine b _ (by simp only [aK,aJ];omega) (Wa.2 fun y a=> ?_);rcases aW.1 a with a|a
   . exact Wa.1 f y a
   rw [bJ.1 a];exact ⟨r,q,a0,f,o⟩
 rename_i h6;rw [if_neg h6];split at ht
 . rename_i h7;rw [if_pos h7];exact h.sync (dG N) (sendS_ok h.y _ _) (by rw [Zj8]) (So _ _ _) (Xj _ _ _)
 rename_i h7;rw [if_neg h7];exact u
theorem CallF.fr {P:Program}{G:World}{fn:FuncId}{vs:List Value}{pre:List HP}{R:Value->List HP->Prop}(E:List HP)(h:CallF P G fn vs pre (Ret R)):CallF P G fn vs (pre++E) (Ret fun v q'=> ∃ q0,R v q0/\q'=q0++E):=by
 intro F w s g;rw [aB] at s;obtain ⟨e,d,fr,⟨b,q,c,f⟩,a⟩:=h (E++F) w s g;obtain ⟨v,rfl,c⟩:=c;exact ⟨_,d,fr,⟨b,q++E,⟨v,rfl,q,c,rfl⟩,by rw [aB];exact f⟩,a⟩
theorem lockS_b {s:Sy}{t:Int}(h:inR m s.owners.length)(ht:thr t):(W2 s m t).2.1=decide (s.owners.getD m.toNat 0= -1):=by
 unfold W2;rw [if_pos h,if_pos ht];split<;>simp_all
theorem lockS_no {s:Sy}{t:Int}(h:s.owners.getD m.toNat 0≠ -1):(W2 s m t).1=s:=by
 unfold W2;(repeat' split)<;>first|rfl|(exfalso;exact h (by assumption))
theorem Zjo {s:Sy}{t:Int}(h:inR m s.owners.length)(ht:thr t):(Yy s m t).2=if s.owners.getD m.toNat 0=t then 0 else 140:=by
 unfold Yy;rw [if_pos h,if_pos ht];split<;>simp_all
theorem O8 {s:Sy}{t:Int}(h:s.owners.getD m.toNat 0≠t):(Yy s m t).1=s:=by
 unfold Yy;(repeat' split)<;>first|rfl|(exfalso;exact h (by assumption))
theorem Ph (e:PEv)(a b:List Sn):(e.sn a).sn b=e.sn (a++b):=by unfold PEv.sn;simp
theorem Cz (e:PEv):e.sn []=e:=by unfold PEv.sn;simp
def StC.wake (U:StC):List Int->StC
 | []=>U
 |i::r=>StC.wake { U with ths:=U.ths.set i.toNat { U.ths.getD i.toNat zTC with st:=3 } } r
theorem Pf (U:StC)(n:Nat):U.er.th n=(U.ths.getD n zTC).er:=by
 by_cases h:n<U.ths.length
 . rw [Z8 h,Yg h]
 have a: ¬n<U.er.ths.length:=by rw [eN];exact h
 unfold SS.th;rw [bS,cT (by omega),bS,cT (by omega)];rfl
theorem Eg: ∀ (l:List Int) (U:StC),(U.wake l).er=U.er.wake l
 | [],_=>rfl
 |i::r,U=>by
  show (StC.wake _ r).er=SS.wake _ r
  rw [Eg r,Vo,Pf];rfl
def V5 (l:List TC):List Int->List TC
 | []=>l
 |i::r=>V5 (l.set i.toNat { l.getD i.toNat zTC with st:=3 }) r
theorem Eh: ∀ (m:List Int) (U:StC),U.wake m= { U with ths:=V5 U.ths m }
 | [],_=>rfl
 |i::r,U=>by show StC.wake _ r=_;rw [Eh r];rfl
theorem Co: ∀ (m n:List Int) (l:List TC),V5 l (m++n)=V5 (V5 l m) n
 | [],_,_=>rfl
 |i::r,n,l=>by show V5 _ (r++n)=_;rw [Co r n];rfl
theorem Hb: ∀ (m:List Int) (l:List TC),(V5 l m).length=l.length
 | [],_=>rfl
 |i::r,l=>by show (V5 _ r).length=_;rw [Hb r,bG]
theorem Eo: ∀ (m:List Int) (l:List TC),(V5 l m).map trH=l.map trH
 | [],_=>rfl
 |i::r,l=>by
  show (V5 _ r).map trH=_
  rw [Eo r];by_cases h:i.toNat<l.length
  . exact Ee h (by rw [Yg h];rfl)
  rw [jL (by omega)]
theorem Fw: ∀ (m:List Int) (l:List TC),(V5 l m).map TC.todo=l.map TC.todo
 | [],_=>rfl
 |i::r,l=>by
  show (V5 _ r).map TC.todo=_
  rw [Fw r];by_cases h:i.toNat<l.length
  . exact Ms h (by rw [Yg h])
  rw [jL (by omega)]
theorem set_mem {l:List Int}{x:Int}(h:x∈l.set i v):x∈l\/x=v:=bR h
theorem Pc {s:Sy}{t:Int}(h:s.ok N):(Yy s m t).1.ok N:=by
 unfold Yy;split
 . split
   . split
     . refine ⟨by simpa using h.no,h.nc,h.nh,fun o a=> ?_,h.c,h.h⟩;rcases set_mem a with a|rfl
       . exact h.o o a
       omega
     exact h
   exact h
 exact h
theorem Zje (hn:n<l.length)(hT:TodoAt M l)(hy:y.At M)(hx:x.todo=l[n].todo++ [y]):TodoAt M (l.set n x):=by
 intro t b z a;rcases bR b with b|rfl
 . exact hT t b z a
 rw [hx] at a;rcases aW.1 a with a|a
 . exact hT _ (aA hn) z a
 rw [bJ.1 a];exact hy
theorem Xr (l:List Int)(n:Nat):l.getD n 0=(l.drop n).headD 0:=by
 simp [jJ,List.head?_drop]
theorem C1 (s:Sy)(k:Int):(We s k).1.owners=s.owners:=by unfold We;(repeat' split)<;>rfl
theorem Fl (s:Sy)(k:Int):(We s k).1.conds=s.conds:=by unfold We;(repeat' split)<;>rfl
theorem Zkq (s:Sy)(k:Int):(We s k).1.chans.length=s.chans.length:=by unfold We;(repeat' split)<;>simp
theorem PO.sy {g:FC}{N who:Nat}{U:StC}{y:Sy}(h:PO g N who U)(hy:y.ok N)(h1:y.owners.length=U.sy.owners.length)(h2:y.conds=U.sy.conds)(h3:y.chans.length=U.sy.chans.length):PO g N who { U with sy:=y } :=
 ⟨h.w,h.h8,h.cl,h.cv,h.lv,h.ll,hy,h.n9,by rw [show ({ U with sy:=y } :StC).sy=y from rfl,h1];exact h.mu,by rw [show ({ U with sy:=y } :StC).sy=y from rfl,h2];exact h.co,by rw [show ({ U with sy:=y } :StC).sy=y from rfl,h3];exact h.ch,by rw [show ({ U with sy:=y } :StC).sy=y from rfl,h2];exact h.cd,h.td,h.sp⟩
def SS.woken (s:SS)(n:Nat)(x:PStm)(ev:PEv):SS×PEv×Int:=
 ({ (s.put n { s.th n with st:=1 }) with sy:=(W2 s.sy x.oth n).1 },({ ev with woke:=true } :PEv).sn [(1,x.oth,0)],0)
theorem Le.stars_snoc (A:List HP)(B:HP)(r:List HP):Le (stars A::B::r) (stars (A++ [B])::r):=
 (Z3 A (B::r)).trans (by have:=Yk (A++ [B]) r;rwa [aB] at this)
theorem spawn_er {a:Nat}{sa:Option Addr}{T:TC}(hn:n<U.ths.length)(hT:T.er=Wl g.er.pr d):
 ({ U with ha:=aa,hc:=a,ths:=U.ths.set n { U.ths[n] with sa:=sa,sc:=c,sp:=U.ths[n].sp++ [(U.ths.length:Int)] } ++ [T] } :StC).er= { U.er.put n { (U.ths[n]).er with sp:=(U.ths[n]).er.sp++ [(U.ths.length:Int)] } with ths:=(U.er.put n { (U.ths[n]).er with sp:=(U.ths[n]).er.sp++ [(U.ths.length:Int)] }).ths++ [Wl g.er.pr d] } :=by
 unfold StC.er SS.put;simp only [aT,dZ,cE,eA,hT];rfl
section
variable {p:Nat}{ev:EvC}
theorem xlock_ok (hP:Prg q pp g)(hM:MayP g.er)(hO:PO g N who U)(hev:ev.e.acc= []/\ev.e.syn= [])(hyA:Kn q fun M=>y.At M)(hg:y.s.er.good g.er.cn (U.ths[who]'(hO.w)).loc.length)(hTd:Kn q fun M=>TodoAt M U.ths)(hk:y.s.er.kd=6):CallF prog G 133 (Aa p y) (Zy p pp who U ev++q) (RP (fun v q'=> ∃ (U':StC) (ev':EvC),((U.er.others g.er.pr who y.s.er ev.e).2.2=0/\U'.er=(U.er.others g.er.pr who y.s.er ev.e).1/\ev'.e=(U.er.others g.er.pr who y.s.er ev.e).2.1/\Kn q fun M=>TodoAt M U'.ths)/\q'=Zy p pp who U' ev'++q) (fun ch q'=> ∃ (U':StC) (ev':EvC),((U.er.others g.er.pr who y.s.er ev.e).2.2≠0/\ch= [Uy (U.er.others g.er.pr who y.s.er ev.e).2.2]/\ev'.e=(U.er.others g.er.pr who y.s.er ev.e).2.1)/\q'=Zy p pp who U' ev'++q)):=by
 refine aC func133 ntmps133 rfl fun F cs=> ?_;obtain ⟨yb,yo,ys⟩:=y;obtain ⟨kk,ln,cl,nm,wt,⟨ek,en,j,f,l,i,el,ea,ec⟩,⟨xk,xn,o,xsl,r,n,xl,xa,xc⟩,bd,c0,ba,bc,e0,d0,id,sl,ot,f0⟩:=ys;have d:=fC hyA;dsimp only at d hg hyA hk|-;simp only [Stm.er,PStm.kd] at hk;have u:=hO.w;have h8:=hO.h8;have g0:=hO.y;have a1:=hO.n9;obtain ⟨q0,b⟩:=hev;have d1:Kn q fun M=>ExAt M ⟨yb,yo+5,none⟩ (Ex.mk ek en j f l i el ea ec):=hyA.imp fun M h=>Ya (pre:= (A6 kk ln cl nm wt)) h.1 rfl h.2.1 rfl
 have b1:Kn q fun M=>ExAt M ⟨yb,yo+12,none⟩ (Ex.mk xk xn o xsl r n xl xa xc):=hyA.imp fun M h=>Ya (pre:= (A6 kk ln cl nm wt)++exC (Ex.mk ek en j f l i el ea ec)) h.1 rfl h.2.2.1 rfl
 have e1:Kn q fun M=>BlkAt M ba bc bd:=hyA.imp fun M h=>h.2.2.2.1;have c1:Kn q fun M=>BlkAt M e0 d0 c0:=hyA.imp fun M h=>⟨h.2.2.2.2.1,h.2.2.2.2.2⟩
 obtain ⟨l0,k0,j0,_⟩:=hg;obtain ⟨u0,t0,s0,h0,r0,m0,p0,o0,n0⟩:=Yp k0;obtain ⟨w0,v0⟩:=Wi l0;rw [Zf,Zf] at j0;obtain ⟨R,a⟩:=lA (U.er.others g.er.pr who (Stm.er (Stm.mk kk ln cl nm wt (Ex.mk ek en j f l i el ea ec) (Ex.mk xk xn o xsl r n xl xa xc) bd c0 ba bc e0 d0 id sl ot f0)) ev.e);rw [<-a];unfold SS.others at a;simp only [Stm.er] at a;rw [Z8 u] at a;change X _ _ _ _ _ _ _ _ (A3 p pp U who ev q F);obtain rfl:kk=6:=(by omega);try dsimp only at a
 rw [if_pos (by decide)] at a;try rw [show U.er.sy=U.sy from rfl] at a
 have x:thr (who:Int):=⟨by omega,by omega⟩;have x0:=hO.mu;have y0:=hO.co;have z0:=hO.ch;have i0:=h0 (.inl rfl);have a0:=lockS_b (s:=U.sy) (m:=sl) (t:=(who:Int)) ⟨i0.1,by omega⟩ x;refine rf [2,0,1,2,3,4,5,6,7,8,9,10,11,12,13] d ?_;refine V4 13 call128 (Lock_Y (m:=sl) (t:=(who:Int)) g0 (by omega)) ?_;refine kc0 ?_;refine rn [15,16,17,18,19,0,3] ?_;refine Zi (bO rfl) ?_;refine ox 1 ?_;refine xp 24 ?_ ?_<;>intro h1
 . rw [a0] at h1;have c:U.sy.owners.getD sl.toNat 0≠ -1:=(by simpa using h1);rw [if_pos c] at a;rw [lockS_no c];refine xo 2 ?_;refine Uz call169 (aD _) (H4 (z:=4)) ?_ ?_
   . rintro _ _ ⟨rfl,rfl⟩;exact dM func133 (eG (by rw [a];exact ⟨U,ev,⟨(show (4:Int)≠0 by decide),rfl,rfl⟩,rfl⟩)) leA
   rintro _ _ ⟨⟩
 rw [a0] at h1;have c:U.sy.owners.getD sl.toNat 0= -1:=(by simpa using h1);rw [if_neg (fun k=>k c)] at a;refine rf [7,0] d ?_;refine Zx call98 leA (U0 (p:=p) (pp:=pp) (who:=who) (U:=({ U with sy:=(W2 U.sy sl who).1 } :StC)) (ev:=ev) (k:=1) (sl:=sl) (ot:=0) (q:=q++F) (by rw [b];decide)) ?_;rintro _ _ ⟨b0,b,rfl⟩;refine ox 1 ?_;refine Yh (Zy p pp who ({ U with sy:=(W2 U.sy sl who).1 } :StC) b0++q) func133 (Uq results133) (dR ⟨({ U with sy:=(W2 U.sy sl who).1 } :StC),b0,⟨by rw [a],by rw [a];rfl,by rw [a,b];rfl,hTd⟩,rfl⟩) (by rw [aB];exact aD _)
theorem Zjk {NN:Nat}(hys:U.sy.ok NN)(hN9:NN<=900)(hin:0<=sl/\sl<U.sy.owners.length)(hthr:thr (who:Int))(hl:ev.e.syn.length<=1000000000):CallF prog G 170 (Ab p sl) (Zy p pp who U ev++q) (RP (fun v q'=> ∃ ev':EvC,(U.sy.owners.getD sl.toNat 0=(who:Int)/\ev'.e=ev.e.sn [(2,sl,0)])/\q'=Zy p pp who ({ U with sy:=(Yy U.sy sl who).1 } :StC) ev'++q) (fun ch q'=>(U.sy.owners.getD sl.toNat 0≠(who:Int)/\ch= [Uy 4])/\q'=Zy p pp who U ev++q)):=by
 refine aC func170 ntmps170 rfl fun F g=> ?_;have b:=Zjo (s:=U.sy) (m:=sl) (t:=(who:Int)) ⟨hin.1,by omega⟩ hthr;change X _ _ _ _ _ _ _ _ (pto p (.cells (Ug pp U++(I64 who::evC ev)).toArray 145 (0,0))::lsH I64 2 U.ca U.cc U.cells::yH U.sp U.sy::rsH trC 5 116 U.ha U.hc U.ths::stars (U.ths.map trH)::rsH acC 3 140 ev.aa ev.ac ev.e.acc::rsH snC 3 50 ev.na ev.nc ev.e.syn::(q++F));refine rn [2,0,1,2,3,4,5,6,7,8,9,10] ?_;refine V4 10 call193 (Unlock_Y (m:=sl) (t:=(who:Int)) hys (by omega)) ?_;refine kc0 ?_;refine rn [12,0,5] ?_;refine xp 17 ?_ ?_<;>intro d
 . rw [b] at d;have a:U.sy.owners.getD sl.toNat 0≠(who:Int):=(fun k=>d (if_pos k));rw [O8 a];refine xo 2 ?_;refine Uz call169 (aD _) (H4 (z:=4)) ?_ ?_
   . rintro _ _ ⟨rfl,rfl⟩;exact dM func170 (eG (⟨⟨a,rfl⟩,rfl⟩)) leA
   rintro _ _ ⟨⟩
 rw [b] at d;have a:U.sy.owners.getD sl.toNat 0=(who:Int):=Decidable.byContradiction (fun k=>by rw [if_neg k] at d;exact bD d (by decide));refine xo 5 ?_;refine Zx call98 leA (U0 (p:=p) (pp:=pp) (who:=who) (U:=({ U with sy:=(Yy U.sy sl who).1 } :StC)) (ev:=ev) (k:=2) (sl:=sl) (ot:=0) (q:=q++F) (hl)) ?_;rintro _ _ ⟨f,c,rfl⟩;refine ox 1 ?_;refine Yh (Zy p pp who ({ U with sy:=(Yy U.sy sl who).1 } :StC) f++q) func170 (Uq results170) (dR ⟨f,⟨a,c⟩,rfl⟩) (by rw [aB];exact aD _)
theorem O3 (hP:Prg q pp g)(hM:MayP g.er)(hO:PO g N who U)(hev:ev.e.acc= []/\ev.e.syn= [])(hyA:Kn q fun M=>y.At M)(hg:y.s.er.good g.er.cn (U.ths[who]'(hO.w)).loc.length)(hTd:Kn q fun M=>TodoAt M U.ths)(hk:y.s.er.kd=7):CallF prog G 134 (Aa p y) (Zy p pp who U ev++q) (RP (fun v q'=> ∃ (U':StC) (ev':EvC),((U.er.others g.er.pr who y.s.er ev.e).2.2=0/\U'.er=(U.er.others g.er.pr who y.s.er ev.e).1/\ev'.e=(U.er.others g.er.pr who y.s.er ev.e).2.1/\Kn q fun M=>TodoAt M U'.ths)/\q'=Zy p pp who U' ev'++q) (fun ch q'=> ∃ (U':StC) (ev':EvC),((U.er.others g.er.pr who y.s.er ev.e).2.2≠0/\ch= [Uy (U.er.others g.er.pr who y.s.er ev.e).2.2]/\ev'.e=(U.er.others g.er.pr who y.s.er ev.e).2.1)/\q'=Zy p pp who U' ev'++q)):=by
 refine aC func134 ntmps134 rfl fun F cs=> ?_;obtain ⟨yb,yo,ys⟩:=y;obtain ⟨kk,ln,cl,nm,wt,⟨ek,en,f,c,i,d,el,ea,ec⟩,⟨xk,xn,l,xsl,m,j,xl,xa,xc⟩,bd,z,ba,bc,c0,b0,id,sl,ot,d0⟩:=ys;have u:=fC hyA;dsimp only at u hg hyA hk|-;simp only [Stm.er,PStm.kd] at hk;have n:=hO.w;have h8:=hO.h8;have e0:=hO.y;have k0:=hO.n9;obtain ⟨p0,t⟩:=hev;have b1:Kn q fun M=>ExAt M ⟨yb,yo+5,none⟩ (Ex.mk ek en f c i d el ea ec):=hyA.imp fun M h=>Ya (pre:= (A6 kk ln cl nm wt)) h.1 rfl h.2.1 rfl
 have z0:Kn q fun M=>ExAt M ⟨yb,yo+12,none⟩ (Ex.mk xk xn l xsl m j xl xa xc):=hyA.imp fun M h=>Ya (pre:= (A6 kk ln cl nm wt)++exC (Ex.mk ek en f c i d el ea ec)) h.1 rfl h.2.2.1 rfl
 have c1:Kn q fun M=>BlkAt M ba bc bd:=hyA.imp fun M h=>h.2.2.2.1;have a1:Kn q fun M=>BlkAt M c0 b0 z:=hyA.imp fun M h=>⟨h.2.2.2.2.1,h.2.2.2.2.2⟩
 obtain ⟨j0,i0,h0,_⟩:=hg;obtain ⟨t0,s0,r0,f0,q0,l0,o0,n0,m0⟩:=Yp i0;obtain ⟨v0,u0⟩:=Wi j0;rw [Zf,Zf] at h0;obtain ⟨R,a⟩:=lA (U.er.others g.er.pr who (Stm.er (Stm.mk kk ln cl nm wt (Ex.mk ek en f c i d el ea ec) (Ex.mk xk xn l xsl m j xl xa xc) bd z ba bc c0 b0 id sl ot d0)) ev.e);rw [<-a];unfold SS.others at a;simp only [Stm.er] at a;rw [Z8 n] at a;change X _ _ _ _ _ _ _ _ (A3 p pp U who ev q F);obtain rfl:kk=7:=(by omega);try dsimp only at a
 rw [if_neg (by decide)] at a;rw [if_pos (by decide)] at a;try rw [show U.er.sy=U.sy from rfl] at a
 have o:thr (who:Int):=⟨by omega,by omega⟩;have w0:=hO.mu;have x0:=hO.co;have y0:=hO.ch;have g0:=f0 (.inr rfl);refine rf [5,0] u ?_;refine Uz call170 leA (Zjk (p:=p) (pp:=pp) (who:=who) (U:=U) (ev:=ev) (sl:=sl) (q:=q++F) e0 k0 ⟨g0.1,by omega⟩ o (by rw [t];decide)) ?_ ?_
 . rintro _ _ ⟨⟨b,rfl⟩,rfl⟩;exact dM func134 (eG (by rw [if_pos b] at a;rw [a];exact ⟨U,ev,⟨(show (4:Int)≠0 by decide),rfl,rfl⟩,rfl⟩)) (by rw [aB];exact aD _)
 rintro _ _ ⟨x,⟨b,r⟩,a0⟩;simp only [Zy,spP,Zo,evL,ca,na] at a0;subst a0;rw [if_neg (fun k=>k b)] at a;refine ox 1 ?_;refine Yh (Zy p pp who ({ U with sy:=(Yy U.sy sl who).1 } :StC) x++q) func134 (Uq results134) (dR ⟨({ U with sy:=(Yy U.sy sl who).1 } :StC),x,⟨by rw [a],by rw [a];rfl,by rw [a,r];rfl,hTd⟩,rfl⟩) (by rw [aB];exact aD _)
theorem xwait_ok (hP:Prg q pp g)(hM:MayP g.er)(hO:PO g N who U)(hev:ev.e.acc= []/\ev.e.syn= [])(hyA:Kn q fun M=>y.At M)(hg:y.s.er.good g.er.cn (U.ths[who]'(hO.w)).loc.length)(hTd:Kn q fun M=>TodoAt M U.ths)(hk:y.s.er.kd=8):CallF prog G 135 (Aa p y) (Zy p pp who U ev++q) (RP (fun v q'=> ∃ (U':StC) (ev':EvC),((U.er.others g.er.pr who y.s.er ev.e).2.2=0/\U'.er=(U.er.others g.er.pr who y.s.er ev.e).1/\ev'.e=(U.er.others g.er.pr who y.s.er ev.e).2.1/\Kn q fun M=>TodoAt M U'.ths)/\q'=Zy p pp who U' ev'++q) (fun ch q'=> ∃ (U':StC) (ev':EvC),((U.er.others g.er.pr who y.s.er ev.e).2.2≠0/\ch= [Uy (U.er.others g.er.pr who y.s.er ev.e).2.2]/\ev'.e=(U.er.others g.er.pr who y.s.er ev.e).2.1)/\q'=Zy p pp who U' ev'++q)):=by
 refine aC func135 ntmps135 rfl fun F cs=> ?_;obtain ⟨yb,yo,ys⟩:=y;obtain ⟨kk,ln,cl,nm,wt,⟨ek,en,i,a,o,d,el,ea,ec⟩,⟨xk,xn,a0,xsl,b0,x,xl,xa,xc⟩,bd,c0,ba,bc,e0,d0,id,sl,ot,f0⟩:=ys;have i0:=fC hyA;dsimp only at i0 hg hyA hk|-;simp only [Stm.er,PStm.kd] at hk;have g0:=hO.w;have h8:=hO.h8;have k0:=hO.y;have v0:=hO.n9;obtain ⟨z0,p0⟩:=hev;have m1:Kn q fun M=>ExAt M ⟨yb,yo+5,none⟩ (Ex.mk ek en i a o d el ea ec):=hyA.imp fun M h=>Ya (pre:= (A6 kk ln cl nm wt)) h.1 rfl h.2.1 rfl
 have k1:Kn q fun M=>ExAt M ⟨yb,yo+12,none⟩ (Ex.mk xk xn a0 xsl b0 x xl xa xc):=hyA.imp fun M h=>Ya (pre:= (A6 kk ln cl nm wt)++exC (Ex.mk ek en i a o d el ea ec)) h.1 rfl h.2.2.1 rfl
 have n1:Kn q fun M=>BlkAt M ba bc bd:=hyA.imp fun M h=>h.2.2.2.1;have l1:Kn q fun M=>BlkAt M e0 d0 c0:=hyA.imp fun M h=>⟨h.2.2.2.2.1,h.2.2.2.2.2⟩
 obtain ⟨u0,t0,s0,_⟩:=hg;obtain ⟨d1,c1,b1,a1,r0,m0,y0,x0,w0⟩:=Yp t0;obtain ⟨f1,e1⟩:=Wi u0;rw [Zf,Zf] at s0;obtain ⟨R,hR⟩:=lA (U.er.others g.er.pr who (Stm.er (Stm.mk kk ln cl nm wt (Ex.mk ek en i a o d el ea ec) (Ex.mk xk xn a0 xsl b0 x xl xa xc) bd c0 ba bc e0 d0 id sl ot f0)) ev.e);rw [<-hR];unfold SS.others at hR;simp only [Stm.er] at hR;rw [Z8 g0] at hR;change X _ _ _ _ _ _ _ _ (A3 p pp U who ev q F);obtain rfl:kk=8:=(by omega);try dsimp only at hR
 rw [if_neg (by decide)] at hR;rw [if_neg (by decide)] at hR;rw [if_pos (by decide)] at hR;try rw [show U.er.sy=U.sy from rfl] at hR
 have l0:thr (who:Int):=⟨by omega,by omega⟩;have g1:=hO.mu;have i1:=hO.co;have j1:=hO.ch;have h1:=r0 (.inl rfl);have n0:=m0 rfl;refine Yd (l:=U.ths) (by omega) fun ga e_=> ?_;have hr: ∀ r,Sees (Ao U r) (some ⟨ga,0,none⟩) (AR U):=fun r=>by rw [<-e_];exact aV r
 refine rf [6,0] i0 ?_;refine Uz call170 leA (Zjk (p:=p) (pp:=pp) (who:=who) (U:=U) (ev:=ev) (sl:=ot) (q:=q++F) k0 v0 ⟨n0.1,by omega⟩ l0 (by rw [p0];decide)) ?_ ?_
 . rintro _ _ ⟨⟨h0,rfl⟩,rfl⟩;exact dM func135 (eG (by rw [if_pos h0] at hR;rw [hR];exact ⟨U,ev,⟨(show (4:Int)≠0 by decide),rfl,rfl⟩,rfl⟩)) (by rw [aB];exact aD _)
 rintro _ _ ⟨j0,⟨h0,o0⟩,q0⟩;simp only [Zy,spP,Zo,evL,ca,na] at q0;subst q0;rw [if_neg (fun k=>k h0)] at hR;refine rf [2,0,1,2,3,4,5,6,7,8,9,10,11,12,13] i0 ?_;refine V4 13 call171 (Wait_Y (k:=sl) (t:=(who:Int)) (N:=N) (s:=(Yy U.sy ot who).1) (Pc k0) (by omega)) ?_;refine kc0 ?_;refine rn [0,3] ?_;refine aU call95 (J9 (p:=p) (who:=who) (ga:=ga) (m:=U.ths.length) (c:=U.hc) (by rw [<-e_];exact clA) clA g0) ?_;refine oo 7 ?_;refine dW (q':=stars (U.ths.map trH)::_) Zj (dW (Rq g0 _) ?_);refine dW (q':=rsH trC 5 116 (some ⟨ga,0,none⟩) U.hc U.ths::_) (by rw [<-e_];exact Zj) ?_;refine dK (Wk (g:=ga) (f:=trC) (l:=U.ths) (u:=({ U.ths[who] with st:=2 } :TC)) (n:=who) (k:=1) (j:=(who:Int)) rfl rfl sizeOf99 Zn rfl g0 rfl rfl rfl rfl Zj) ?_;rintro _ _ ⟨rfl,rfl⟩;refine oo 6 ?_;refine ld ?_ (hc:=(cF (n:=who) (aV _) leA Zn (show who<(U.ths.set who ({ U.ths[who] with st:=2 } :TC)).length by rw [bG];exact g0) rfl 3 _ (by rw [cZ];rfl)));refine oo 1 ?_;refine bI (Vw (u:=(⟨yb,yo,(Stm.mk 8 ln cl nm wt (Ex.mk ek en i a o d el ea ec) (Ex.mk xk xn a0 xsl b0 x xl xa xc) bd c0 ba bc e0 d0 id sl ot f0)⟩:PS)) PS.v underlying114 Vu rfl rfl) ?_;rintro _ _ ⟨g2,rfl,rfl⟩;refine bI (Z6 (f:=PS.v) (l:=U.ths[who].todo) (m:= [(⟨yb,yo,(Stm.mk 8 ln cl nm wt (Ex.mk ek en i a o d el ea ec) (Ex.mk xk xn a0 xsl b0 x xl xa xc) bd c0 ba bc e0 d0 id sl ot f0)⟩:PS)]) underlying114 Vu rfl rfl rfl Zj ((bQ _).le leA) (fun _=>rfl) (by have:=hO.td;simp only [aJ];omega) (by have:=hO.td;simp only [aJ];omega)) ?_;rintro _ _ ⟨a5,c5,rfl,rfl⟩;refine oo 2 ?_;refine dK (Wk (g:=ga) (f:=trC) (l:=(U.ths.set who ({ U.ths[who] with st:=2 } :TC))) (u:=({ U.ths[who] with st:=2,ta:=a5,tc:=c5,todo:=U.ths[who].todo++ [(⟨yb,yo,(Stm.mk 8 ln cl nm wt (Ex.mk ek en i a o d el ea ec) (Ex.mk xk xn a0 xsl b0 x xl xa xc) bd c0 ba bc e0 d0 id sl ot f0)⟩:PS)] } :TC)) (n:=who) (k:=3) (j:=(who:Int)) rfl rfl sizeOf114 Zn rfl (by rw [bG];exact g0) rfl (by rw [cZ];rfl) rfl rfl Zj) ?_;rintro _ _ ⟨rfl,rfl⟩;rw [fU];refine ox 1 ?_;rw [<-e_];refine bK (q':=stars ((U.ths.set who ({ U.ths[who] with st:=2,ta:=a5,tc:=c5,todo:=U.ths[who].todo++ [(⟨yb,yo,(Stm.mk 8 ln cl nm wt (Ex.mk ek en i a o d el ea ec) (Ex.mk xk xn a0 xsl b0 x xl xa xc) bd c0 ba bc e0 d0 id sl ot f0)⟩:PS)] } :TC)).map trH)::_) (bB (b:=lsH I64 2 (({ U.ths[who] with st:=2,ta:=a5,tc:=c5,todo:=U.ths[who].todo++ [(⟨yb,yo,(Stm.mk 8 ln cl nm wt (Ex.mk ek en i a o d el ea ec) (Ex.mk xk xn a0 xsl b0 x xl xa xc) bd c0 ba bc e0 d0 id sl ot f0)⟩:PS)] } :TC)).la (({ U.ths[who] with st:=2,ta:=a5,tc:=c5,todo:=U.ths[who].todo++ [(⟨yb,yo,(Stm.mk 8 ln cl nm wt (Ex.mk ek en i a o d el ea ec) (Ex.mk xk xn a0 xsl b0 x xl xa xc) bd c0 ba bc e0 d0 id sl ot f0)⟩:PS)] } :TC)).lc (({ U.ths[who] with st:=2,ta:=a5,tc:=c5,todo:=U.ths[who].todo++ [(⟨yb,yo,(Stm.mk 8 ln cl nm wt (Ex.mk ek en i a o d el ea ec) (Ex.mk xk xn a0 xsl b0 x xl xa xc) bd c0 ba bc e0 d0 id sl ot f0)⟩:PS)] } :TC)).loc::lsH PS.v 146 (({ U.ths[who] with st:=2,ta:=a5,tc:=c5,todo:=U.ths[who].todo++ [(⟨yb,yo,(Stm.mk 8 ln cl nm wt (Ex.mk ek en i a o d el ea ec) (Ex.mk xk xn a0 xsl b0 x xl xa xc) bd c0 ba bc e0 d0 id sl ot f0)⟩:PS)] } :TC)).ta (({ U.ths[who] with st:=2,ta:=a5,tc:=c5,todo:=U.ths[who].todo++ [(⟨yb,yo,(Stm.mk 8 ln cl nm wt (Ex.mk ek en i a o d el ea ec) (Ex.mk xk xn a0 xsl b0 x xl xa xc) bd c0 ba bc e0 d0 id sl ot f0)⟩:PS)] } :TC)).tc (({ U.ths[who] with st:=2,ta:=a5,tc:=c5,todo:=U.ths[who].todo++ [(⟨yb,yo,(Stm.mk 8 ln cl nm wt (Ex.mk ek en i a o d el ea ec) (Ex.mk xk xn a0 xsl b0 x xl xa xc) bd c0 ba bc e0 d0 id sl ot f0)⟩:PS)] } :TC)).todo::lsH I64 3 (({ U.ths[who] with st:=2,ta:=a5,tc:=c5,todo:=U.ths[who].todo++ [(⟨yb,yo,(Stm.mk 8 ln cl nm wt (Ex.mk ek en i a o d el ea ec) (Ex.mk xk xn a0 xsl b0 x xl xa xc) bd c0 ba bc e0 d0 id sl ot f0)⟩:PS)] } :TC)).sa (({ U.ths[who] with st:=2,ta:=a5,tc:=c5,todo:=U.ths[who].todo++ [(⟨yb,yo,(Stm.mk 8 ln cl nm wt (Ex.mk ek en i a o d el ea ec) (Ex.mk xk xn a0 xsl b0 x xl xa xc) bd c0 ba bc e0 d0 id sl ot f0)⟩:PS)] } :TC)).sc (({ U.ths[who] with st:=2,ta:=a5,tc:=c5,todo:=U.ths[who].todo++ [(⟨yb,yo,(Stm.mk 8 ln cl nm wt (Ex.mk ek en i a o d el ea ec) (Ex.mk xk xn a0 xsl b0 x xl xa xc) bd c0 ba bc e0 d0 id sl ot f0)⟩:PS)] } :TC)).sp::stars (Bq U who)::_) (bP Zj (bP Zj (bP Zj Zj))) (T9 g0 ({ U.ths[who] with st:=2,ta:=a5,tc:=c5,todo:=U.ths[who].todo++ [(⟨yb,yo,(Stm.mk 8 ln cl nm wt (Ex.mk ek en i a o d el ea ec) (Ex.mk xk xn a0 xsl b0 x xl xa xc) bd c0 ba bc e0 d0 id sl ot f0)⟩:PS)] } :TC) _)) ?_;refine bK (q':=Zy p pp who ({ U with sy:=(Uo (Yy U.sy ot who).1 sl who).1,ths:=U.ths.set who ({ U.ths[who] with st:=2,ta:=a5,tc:=c5,todo:=U.ths[who].todo++ [(⟨yb,yo,(Stm.mk 8 ln cl nm wt (Ex.mk ek en i a o d el ea ec) (Ex.mk xk xn a0 xsl b0 x xl xa xc) bd c0 ba bc e0 d0 id sl ot f0)⟩:PS)] } :TC) } :StC) j0++(q++F)) (by unfold Zy spP Ug Zo;simp only [bG];exact leA) ?_;refine Yh (Zy p pp who ({ U with sy:=(Uo (Yy U.sy ot who).1 sl who).1,ths:=U.ths.set who ({ U.ths[who] with st:=2,ta:=a5,tc:=c5,todo:=U.ths[who].todo++ [(⟨yb,yo,(Stm.mk 8 ln cl nm wt (Ex.mk ek en i a o d el ea ec) (Ex.mk xk xn a0 xsl b0 x xl xa xc) bd c0 ba bc e0 d0 id sl ot f0)⟩:PS)] } :TC) } :StC) j0++q) func135 (Uq results135) (dR ⟨({ U with sy:=(Uo (Yy U.sy ot who).1 sl who).1,ths:=U.ths.set who ({ U.ths[who] with st:=2,ta:=a5,tc:=c5,todo:=U.ths[who].todo++ [(⟨yb,yo,(Stm.mk 8 ln cl nm wt (Ex.mk ek en i a o d el ea ec) (Ex.mk xk xn a0 xsl b0 x xl xa xc) bd c0 ba bc e0 d0 id sl ot f0)⟩:PS)] } :TC) } :StC),j0,⟨by rw [hR],by rw [hR];exact bL (fun z:SS=> { z with sy:=(Uo (Yy U.sy ot who).1 sl who).1 }) (show ({ U with ths:=U.ths.set who ({ U.ths[who] with st:=2,ta:=a5,tc:=c5,todo:=U.ths[who].todo++ [(⟨yb,yo,(Stm.mk 8 ln cl nm wt (Ex.mk ek en i a o d el ea ec) (Ex.mk xk xn a0 xsl b0 x xl xa xc) bd c0 ba bc e0 d0 id sl ot f0)⟩:PS)] } :TC) } :StC).er=U.er.put who { (U.ths[who]).er with st:=2,left:=Stm.er (Stm.mk 8 ln cl nm wt (Ex.mk ek en i a o d el ea ec) (Ex.mk xk xn a0 xsl b0 x xl xa xc) bd c0 ba bc e0 d0 id sl ot f0)::(U.ths[who]).er.left } by rw [Vo];congr 1;simp only [TC.er,aT,iX,cE,eA,jT,kH,aN,eH,Stm.er]),by rw [hR,o0];rfl,(hTd.and hyA).imp fun M h=>Zje g0 h.1 h.2 rfl⟩,rfl⟩) (by rw [aB];exact aD _)
theorem xwake_ok (hP:Prg q pp g)(hM:MayP g.er)(hO:PO g N who U)(hev:ev.e.acc= []/\ev.e.syn= [])(hyA:Kn q fun M=>y.At M)(hg:y.s.er.good g.er.cn (U.ths[who]'(hO.w)).loc.length)(hTd:Kn q fun M=>TodoAt M U.ths)(hk:y.s.er.kd=8):CallF prog G 96 (Aa p y) (Zy p pp who U ev++q) (RP (fun v q'=> ∃ (U':StC) (ev':EvC),((U.er.woken who y.s.er ev.e).2.2=0/\U'.er=(U.er.woken who y.s.er ev.e).1/\ev'.e=(U.er.woken who y.s.er ev.e).2.1/\Kn q fun M=>TodoAt M U'.ths)/\q'=Zy p pp who U' ev'++q) (fun ch q'=> ∃ (U':StC) (ev':EvC),((U.er.woken who y.s.er ev.e).2.2≠0/\ch= [Uy (U.er.woken who y.s.er ev.e).2.2]/\ev'.e=(U.er.woken who y.s.er ev.e).2.1)/\q'=Zy p pp who U' ev'++q)):=by
 refine aC func96 ntmps96 rfl fun F cs=> ?_;obtain ⟨yb,yo,ys⟩:=y;obtain ⟨kk,ln,cl,nm,wt,⟨ek,en,x,i,a0,o,el,ea,ec⟩,⟨xk,xn,c0,xsl,d0,b0,xl,xa,xc⟩,bd,h0,ba,bc,j0,i0,id,sl,ot,k0⟩:=ys;have d:=fC hyA;dsimp only at d hg hyA hk|-;simp only [Stm.er,PStm.kd] at hk;have a:=hO.w;have h8:=hO.h8;have l0:=hO.y;have b1:=hO.n9;obtain ⟨t0,f0⟩:=hev;have e1:Kn q fun M=>ExAt M ⟨yb,yo+5,none⟩ (Ex.mk ek en x i a0 o el ea ec):=hyA.imp fun M h=>Ya (pre:= (A6 kk ln cl nm wt)) h.1 rfl h.2.1 rfl
 have c1:Kn q fun M=>ExAt M ⟨yb,yo+12,none⟩ (Ex.mk xk xn c0 xsl d0 b0 xl xa xc):=hyA.imp fun M h=>Ya (pre:= (A6 kk ln cl nm wt)++exC (Ex.mk ek en x i a0 o el ea ec)) h.1 rfl h.2.2.1 rfl
 have f1:Kn q fun M=>BlkAt M ba bc bd:=hyA.imp fun M h=>h.2.2.2.1;have d1:Kn q fun M=>BlkAt M j0 i0 h0:=hyA.imp fun M h=>⟨h.2.2.2.2.1,h.2.2.2.2.2⟩
 obtain ⟨o0,n0,m0,_⟩:=hg;obtain ⟨y0,x0,w0,v0,u0,p0,s0,r0,q0⟩:=Yp n0;obtain ⟨a1,z0⟩:=Wi o0;rw [Zf,Zf] at m0;obtain ⟨R,b⟩:=lA (U.er.woken who (Stm.er (Stm.mk kk ln cl nm wt (Ex.mk ek en x i a0 o el ea ec) (Ex.mk xk xn c0 xsl d0 b0 xl xa xc) bd h0 ba bc j0 i0 id sl ot k0)) ev.e);rw [<-b];unfold SS.woken at b;simp only [Stm.er] at b;rw [Z8 a] at b;change X _ _ _ _ _ _ _ _ (A3 p pp U who ev q F);obtain rfl:kk=8:=(by omega);try rw [show U.er.sy=U.sy from rfl] at b
 dsimp only [PStm.oth] at b;refine Yd (l:=U.ths) (by omega) fun ga e_=> ?_;have hr: ∀ r,Sees (Ao U r) (some ⟨ga,0,none⟩) (AR U):=fun r=>by rw [<-e_];exact aV r
 refine rf [6,0,2,0,1,2,3,4,5,6,7,8,9,10,11,12,13] d ?_;refine V4 13 call128 (Lock_Y (m:=ot) (t:=(who:Int)) l0 (by omega)) ?_;refine kc0 ?_;refine rn [0,3] ?_;refine aU call95 (J9 (p:=p) (who:=who) (ga:=ga) (m:=U.ths.length) (c:=U.hc) (by rw [<-e_];exact clA) clA a) ?_;refine oo 2 ?_;refine dW (q':=rsH trC 5 116 (some ⟨ga,0,none⟩) U.hc U.ths::_) (by rw [<-e_];exact Zj) ?_;refine dK (Wk (g:=ga) (f:=trC) (l:=U.ths) (u:=({ U.ths[who] with st:=1 } :TC)) (n:=who) (k:=1) (j:=(who:Int)) rfl rfl sizeOf99 Zn rfl a rfl rfl rfl rfl Zj) ?_;rintro _ _ ⟨rfl,rfl⟩;rw [<-e_];refine rf [6,0] d ?_;refine Zx call98 (by unfold Zy spP Ug Zo;simp only [bG];rw [Ee a (show trH ({ U.ths[who] with st:=1 } :TC)=trH U.ths[who] from rfl)];exact leA) (U0 (p:=p) (pp:=pp) (who:=who) (U:=({ U with sy:=(W2 U.sy ot who).1,ths:=U.ths.set who ({ U.ths[who] with st:=1 } :TC) } :StC)) (ev:=({ ev with e:= { ev.e with woke:=true } } :EvC)) (k:=1) (sl:=ot) (ot:=0) (q:=q++F) (by dsimp only;rw [f0];decide)) ?_;rintro _ _ ⟨g0,e0,rfl⟩;refine ox 1 ?_;refine Yh (Zy p pp who ({ U with sy:=(W2 U.sy ot who).1,ths:=U.ths.set who ({ U.ths[who] with st:=1 } :TC) } :StC) g0++q) func96 (Uq results96) (dR ⟨({ U with sy:=(W2 U.sy ot who).1,ths:=U.ths.set who ({ U.ths[who] with st:=1 } :TC) } :StC),g0,⟨by rw [b],by rw [b];exact bL (fun z:SS=> { z with sy:=(W2 U.sy ot who).1 }) (Vo U who _),by rw [b,e0],hTd.imp fun M h=>jK (Ms a rfl) h⟩,rfl⟩) (by rw [aB];exact aD _)
theorem O4 (hP:Prg q pp g)(hM:MayP g.er)(hO:PO g N who U)(hev:ev.e.acc= []/\ev.e.syn= [])(hyA:Kn q fun M=>y.At M)(hg:y.s.er.good g.er.cn (U.ths[who]'(hO.w)).loc.length)(hTd:Kn q fun M=>TodoAt M U.ths)(hk:y.s.er.kd=9):CallF prog G 136 (Aa p y) (Zy p pp who U ev++q) (RP (fun v q'=> ∃ (U':StC) (ev':EvC),((U.er.others g.er.pr who y.s.er ev.e).2.2=0/\U'.er=(U.er.others g.er.pr who y.s.er ev.e).1/\ev'.e=(U.er.others g.er.pr who y.s.er ev.e).2.1/\Kn q fun M=>TodoAt M U'.ths)/\q'=Zy p pp who U' ev'++q) (fun ch q'=> ∃ (U':StC) (ev':EvC),((U.er.others g.er.pr who y.s.er ev.e).2.2≠0/\ch= [Uy (U.er.others g.er.pr who y.s.er ev.e).2.2]/\ev'.e=(U.er.others g.er.pr who y.s.er ev.e).2.1)/\q'=Zy p pp who U' ev'++q)):=by
 refine aC func136 ntmps136 rfl fun F cs=> ?_;obtain ⟨yb,yo,ys⟩:=y;obtain ⟨kk,ln,cl,nm,wt,⟨ek,en,a0,t,b0,x,el,ea,ec⟩,⟨xk,xn,d0,xsl,e0,c0,xl,xa,xc⟩,bd,n0,ba,bc,p0,o0,id,sl,ot,q0⟩:=ys;have b:=fC hyA;dsimp only at b hg hyA hk|-;simp only [Stm.er,PStm.kd] at hk;have f0:=hO.w;have h8:=hO.h8;have m:=hO.y;have m1:=hO.n9;obtain ⟨c1,i0⟩:=hev;have p1:Kn q fun M=>ExAt M ⟨yb,yo+5,none⟩ (Ex.mk ek en a0 t b0 x el ea ec):=hyA.imp fun M h=>Ya (pre:= (A6 kk ln cl nm wt)) h.1 rfl h.2.1 rfl
 have n1:Kn q fun M=>ExAt M ⟨yb,yo+12,none⟩ (Ex.mk xk xn d0 xsl e0 c0 xl xa xc):=hyA.imp fun M h=>Ya (pre:= (A6 kk ln cl nm wt)++exC (Ex.mk ek en a0 t b0 x el ea ec)) h.1 rfl h.2.2.1 rfl
 have q1:Kn q fun M=>BlkAt M ba bc bd:=hyA.imp fun M h=>h.2.2.2.1;have o1:Kn q fun M=>BlkAt M p0 o0 n0:=hyA.imp fun M h=>⟨h.2.2.2.2.1,h.2.2.2.2.2⟩
 obtain ⟨v0,u0,t0,_⟩:=hg;obtain ⟨g1,f1,e1,d1,s0,y0,b1,a1,z0⟩:=Yp u0;obtain ⟨i1,h1⟩:=Wi v0;rw [Zf,Zf] at t0;obtain ⟨R,a⟩:=lA (U.er.others g.er.pr who (Stm.er (Stm.mk kk ln cl nm wt (Ex.mk ek en a0 t b0 x el ea ec) (Ex.mk xk xn d0 xsl e0 c0 xl xa xc) bd n0 ba bc p0 o0 id sl ot q0)) ev.e);rw [<-a];unfold SS.others at a;simp only [Stm.er] at a;rw [Z8 f0] at a;change X _ _ _ _ _ _ _ _ (A3 p pp U who ev q F);obtain rfl:kk=9:=(by omega);try dsimp only at a
 rw [if_neg (by decide)] at a;rw [if_neg (by decide)] at a;rw [if_neg (by decide)] at a;rw [if_pos (by decide)] at a;try rw [show U.er.sy=U.sy from rfl] at a
 have x0:thr (who:Int):=⟨by omega,by omega⟩;have j1:=hO.mu;have k1:=hO.co;have l1:=hO.ch;have g0:=s0 (.inr (.inl rfl));have w0:sl.toNat<U.sy.conds.length:=(by omega);have k0:=Yu (d:=([]:List Int)) w0;have l0:=hO.cd _ k0;have j0:=(m.c _ k0).2;refine Yd (l:=U.ths) (by omega) fun ga e_=> ?_;have hr: ∀ r,Sees (Ao U r) (some ⟨ga,0,none⟩) (AR U):=fun r=>by rw [<-e_];exact aV r
 rcases hL:U.sy.conds.getD sl.toNat [] with _|⟨i,r⟩
 . have o:(Y5 U.sy sl).2=(-1,0):=by unfold Y5;rw [if_pos ⟨g0.1,by omega⟩,hL,if_pos rfl]
   refine rf [1,0,1,2,3,4,5,6,7,8,9] b ?_;refine V4 9 call172 (Ow (k:=sl) m (by omega)) ?_;refine kc0 ?_;rw [o];refine rn [11,12,13,14,15,16,17,0,4] ?_;refine Ux 21 ?_ rfl (by decide);refine xx 2 ?_;try dsimp only at a
   rw [hL] at a;refine Yh (Zy p pp who ({ U with sy:=(Y5 U.sy sl).1 } :StC) ev++q) func136 (Uq results136) (dR ⟨({ U with sy:=(Y5 U.sy sl).1 } :StC),ev,⟨by rw [a],by rw [a];rfl,by rw [a];simp,hTd⟩,rfl⟩) (by unfold Zy spP;exact leA)
 rw [hL] at j0 l0;obtain ⟨I,rfl⟩:=aE (j0 i (cA ..)).1;have hI:I<U.ths.length:=l0 _ (cA ..);have o:(Y5 U.sy sl).2=((I:Int),0):=by unfold Y5;rw [if_pos ⟨g0.1,by omega⟩,hL,if_neg (by intro h;cases h)];rfl
 refine rf [1,0,1,2,3,4,5,6,7,8,9] b ?_;refine V4 9 call172 (Ow (k:=sl) m (by omega)) ?_;refine kc0 ?_;rw [o];refine rn [11,12,13,14,15,16,17,0,4] ?_;refine gI 21 ?_ rfl (aR (Int.natCast_nonneg I));refine rf [7,0,1,3026] e_ ?_;refine aM 27 (Al I) rfl (by rw [gE (by omega)]) ?_;refine oo 2 ?_;refine dW (q':=rsH trC 5 116 (some ⟨ga,0,none⟩) U.hc U.ths::_) (by rw [<-e_];exact Zj) ?_;refine dK (Wk (g:=ga) (f:=trC) (l:=U.ths) (u:=({ U.ths[I] with st:=3 } :TC)) (n:=I) (k:=1) (j:=(I:Int)) rfl rfl sizeOf99 Zn rfl hI rfl rfl rfl rfl Zj) ?_;rintro _ _ ⟨rfl,rfl⟩;rw [<-e_];refine rf [6,0,1] b ?_;refine aM 35 (Al I) rfl (by rw [gE (by omega)]) ?_;refine Zx call98 (by unfold Zy spP Ug Zo;simp only [bG];rw [Ee hI (show trH ({ U.ths[I] with st:=3 } :TC)=trH U.ths[I] from rfl)];exact leA) (U0 (p:=p) (pp:=pp) (who:=who) (U:=({ U with sy:=(Y5 U.sy sl).1,ths:=U.ths.set I ({ U.ths[I] with st:=3 } :TC) } :StC)) (ev:=ev) (k:=3) (sl:=sl) (ot:=(I:Int)) (q:=q++F) (by rw [i0];decide)) ?_;rintro _ _ ⟨m0,h0,rfl⟩;refine ox 1 ?_;try dsimp only at a
 rw [hL] at a
 have r0:({ U with ths:=U.ths.set I ({ U.ths[I] with st:=3 } :TC) } :StC).er=U.er.wake [(I:Int)]:=by
  rw [Vo];simp only [SS.wake,Pf,show ((I:Int)).toNat=I from rfl,Yg hI];rfl
 rw [if_neg (show ¬ (9:Int)=10 by decide),if_neg (show ¬ (9:Int)=10 by decide),show min 1 ((I:Int)::r).length=1 by simp only [cC];omega,show List.take 1 ((I:Int)::r)= [(I:Int)] from rfl] at a;refine Yh (Zy p pp who ({ U with sy:=(Y5 U.sy sl).1,ths:=U.ths.set I ({ U.ths[I] with st:=3 } :TC) } :StC) m0++q) func136 (Uq results136) (dR ⟨({ U with sy:=(Y5 U.sy sl).1,ths:=U.ths.set I ({ U.ths[I] with st:=3 } :TC) } :StC),m0,⟨by rw [a],by rw [a];exact bL (fun z:SS=> { z with sy:=(Y5 U.sy sl).1 }) r0,by rw [a,h0];rfl,hTd.imp fun M h=>jK (Ms hI rfl) h⟩,rfl⟩) (by rw [aB];exact aD _)
theorem xrecv_ok (hP:Prg q pp g)(hM:MayP g.er)(hO:PO g N who U)(hev:ev.e.acc= []/\ev.e.syn= [])(hyA:Kn q fun M=>y.At M)(hg:y.s.er.good g.er.cn (U.ths[who]'(hO.w)).loc.length)(hTd:Kn q fun M=>TodoAt M U.ths)(hk:y.s.er.kd=12)(hroom:0<(AW U y).items.length):CallF prog G 139 (Aa p y) (Zy p pp who U ev++q) (RP (fun v q'=> ∃ (U':StC) (ev':EvC),((U.er.others g.er.pr who y.s.er ev.e).2.2=0/\U'.er=(U.er.others g.er.pr who y.s.er ev.e).1/\ev'.e=(U.er.others g.er.pr who y.s.er ev.e).2.1/\Kn q fun M=>TodoAt M U'.ths)/\q'=Zy p pp who U' ev'++q) (fun ch q'=> ∃ (U':StC) (ev':EvC),((U.er.others g.er.pr who y.s.er ev.e).2.2≠0/\ch= [Uy (U.er.others g.er.pr who y.s.er ev.e).2.2]/\ev'.e=(U.er.others g.er.pr who y.s.er ev.e).2.1)/\q'=Zy p pp who U' ev'++q)):=by
 refine aC func139 ntmps139 rfl fun F cs=> ?_;obtain ⟨yb,yo,ys⟩:=y;obtain ⟨kk,ln,cl,nm,wt,⟨ek,en,i,d,j,f,el,ea,ec⟩,⟨xk,xn,m,xsl,n,l,xl,xa,xc⟩,bd,h0,ba,bc,k0,j0,id,sl,ot,o⟩:=ys;have b:=fC hyA;dsimp only at b hg hyA hk|-;simp only [Stm.er,PStm.kd] at hk;have t:=hO.w;have h8:=hO.h8;have r:=hO.y;have j1:=hO.n9;obtain ⟨f0,e0⟩:=hev;have m1:Kn q fun M=>ExAt M ⟨yb,yo+5,none⟩ (Ex.mk ek en i d j f el ea ec):=hyA.imp fun M h=>Ya (pre:= (A6 kk ln cl nm wt)) h.1 rfl h.2.1 rfl
 have k1:Kn q fun M=>ExAt M ⟨yb,yo+12,none⟩ (Ex.mk xk xn m xsl n l xl xa xc):=hyA.imp fun M h=>Ya (pre:= (A6 kk ln cl nm wt)++exC (Ex.mk ek en i d j f el ea ec)) h.1 rfl h.2.2.1 rfl
 have n1:Kn q fun M=>BlkAt M ba bc bd:=hyA.imp fun M h=>h.2.2.2.1;have l1:Kn q fun M=>BlkAt M k0 j0 h0:=hyA.imp fun M h=>⟨h.2.2.2.2.1,h.2.2.2.2.2⟩
 obtain ⟨s0,r0,q0,_⟩:=hg;obtain ⟨c1,b1,a1,z0,y0,w0,a0,x,x0⟩:=Yp r0;obtain ⟨e1,d1⟩:=Wi s0;rw [Zf,Zf] at q0;obtain ⟨R,a⟩:=lA (U.er.others g.er.pr who (Stm.er (Stm.mk kk ln cl nm wt (Ex.mk ek en i d j f el ea ec) (Ex.mk xk xn m xsl n l xl xa xc) bd h0 ba bc k0 j0 id sl ot o)) ev.e);rw [<-a];unfold SS.others at a;simp only [Stm.er] at a;rw [Z8 t] at a;change X _ _ _ _ _ _ _ _ (A3 p pp U who ev q F);obtain rfl:kk=12:=(by omega);try dsimp only at a
 rw [if_neg (by decide)] at a;rw [if_neg (by decide)] at a;rw [if_neg (by decide)] at a;rw [if_neg (by decide)] at a;rw [if_pos (by decide)] at a;try rw [show U.er.sy=U.sy from rfl] at a
 have v0:thr (who:Int):=⟨by omega,by omega⟩;have f1:=hO.mu;have g1:=hO.co;have i1:=hO.ch;have p0:=a0 (.inr rfl);have c0:=x rfl;have h1:sl.toNat<U.sy.chans.length:=(by omega);replace hroom:0<(U.sy.chans.getD sl.toNat ch0).items.length:=hroom;obtain ⟨C,hC⟩:=lA (U.sy.chans.getD sl.toNat ch0);rw [<-hC] at hroom;have m0:C.items≠ []:=(fun k=>by rw [k] at hroom;exact bD hroom (by decide));have l0:(We U.sy sl).2=(C.items.headD 0,(C.taken:Int),0):=by unfold We;rw [if_pos ⟨p0.1,by omega⟩,<-hC,if_neg m0];exact bL (fun z=>(z,(C.taken:Int),(0:Int))) (Xr _ _)
 have t0:PO g N who { U with sy:=(We U.sy sl).1 } :=hO.sy (S5 r _) (by rw [C1]) (by rw [Fl]) (Zkq _ _);try dsimp only at a
 rw [<-hC] at a;refine rf [1,0,1,2,3,4,5,6,7,8,9] b ?_;refine V4 9 call175 (Recv_Y (k:=sl) r (by omega)) ?_;refine kc0 ?_;rw [l0];refine rf [11,12,13,14,15,16,17,18,19,0,1,0,1,2,3,4,5,6,7,8,9,10] b ?_;refine Ym 10 call165 leA (Zz7 (p:=p) (pp:=pp) (who:=who) (g:=g) (N:=N) (U:=({ U with sy:=(We U.sy sl).1 } :StC)) (ev:=ev) (sl:=ot) (bb:=o) (u:=C.items.headD 0) (q:=q++F) t0 c0 (by rw [f0];decide) hM) ?_;rintro _ _ ⟨c,u0,⟨o0,b0,n0⟩,i0⟩;simp only [Zy,spP,Zo,evL,ca,na] at i0;subst i0;refine ⟨trivial,?_⟩;refine rf [0,5,0,1] b ?_;refine aM 39 (I64 C.taken) rfl (by dsimp only;rw [gE (by omega)]) ?_;refine Zx call98 leA (U0 (p:=p) (pp:=pp) (who:=who) (U:=c) (ev:=u0) (k:=5) (sl:=sl) (ot:=(C.taken:Int)) (q:=q++F) (by rw [b0];unfold PEv.ac;dsimp only;rw [e0];decide)) ?_;rintro _ _ ⟨g0,d0,rfl⟩;refine ox 1 ?_;refine Yh (Zy p pp who c g0++q) func139 (Uq results139) (dR ⟨c,g0,⟨by rw [a],by rw [a];exact o0,by rw [a,d0,b0];rfl,hTd.imp fun M h=>jK n0 h⟩,rfl⟩) (by rw [aB];exact aD _)
theorem xall_ok (hP:Prg q pp g)(hM:MayP g.er)(hO:PO g N who U)(hev:ev.e.acc= []/\ev.e.syn= [])(hyA:Kn q fun M=>y.At M)(hg:y.s.er.good g.er.cn (U.ths[who]'(hO.w)).loc.length)(hTd:Kn q fun M=>TodoAt M U.ths)(hk:y.s.er.kd=10):CallF prog G 137 (Aa p y) (Zy p pp who U ev++q) (RP (fun v q'=> ∃ (U':StC) (ev':EvC),((U.er.others g.er.pr who y.s.er ev.e).2.2=0/\U'.er=(U.er.others g.er.pr who y.s.er ev.e).1/\ev'.e=(U.er.others g.er.pr who y.s.er ev.e).2.1/\Kn q fun M=>TodoAt M U'.ths)/\q'=Zy p pp who U' ev'++q) (fun ch q'=> ∃ (U':StC) (ev':EvC),((U.er.others g.er.pr who y.s.er ev.e).2.2≠0/\ch= [Uy (U.er.others g.er.pr who y.s.er ev.e).2.2]/\ev'.e=(U.er.others g.er.pr who y.s.er ev.e).2.1)/\q'=Zy p pp who U' ev'++q)):=by
 refine aC func137 ntmps137 rfl fun F cs=> ?_;obtain ⟨yb,yo,ys⟩:=y;obtain ⟨kk,ln,cl,nm,wt,⟨ek,en,e0,c0,f0,d0,el,ea,ec⟩,⟨xk,xn,j0,xsl,k0,i0,xl,xa,xc⟩,bd,s0,ba,bc,v0,u0,id,sl,ot,w0⟩:=ys;have b0:=fC hyA;dsimp only at b0 hg hyA hk|-;simp only [Stm.er,PStm.kd] at hk;have l0:=hO.w;have h8:=hO.h8;have x:=hO.y;have y1:=hO.n9;obtain ⟨m1,o0⟩:=hev;have b2:Kn q fun M=>ExAt M ⟨yb,yo+5,none⟩ (Ex.mk ek en e0 c0 f0 d0 el ea ec):=hyA.imp fun M h=>Ya (pre:= (A6 kk ln cl nm wt)) h.1 rfl h.2.1 rfl
 have z1:Kn q fun M=>ExAt M ⟨yb,yo+12,none⟩ (Ex.mk xk xn j0 xsl k0 i0 xl xa xc):=hyA.imp fun M h=>Ya (pre:= (A6 kk ln cl nm wt)++exC (Ex.mk ek en e0 c0 f0 d0 el ea ec)) h.1 rfl h.2.2.1 rfl
 have c2:Kn q fun M=>BlkAt M ba bc bd:=hyA.imp fun M h=>h.2.2.2.1;have a2:Kn q fun M=>BlkAt M v0 u0 s0:=hyA.imp fun M h=>⟨h.2.2.2.2.1,h.2.2.2.2.2⟩
 obtain ⟨e1,d1,c1,_⟩:=hg;obtain ⟨r1,q1,p1,o1,z0,i1,l1,k1,j1⟩:=Yp d1;obtain ⟨u1,t1⟩:=Wi e1;rw [Zf,Zf] at c1;obtain ⟨R,a⟩:=lA (U.er.others g.er.pr who (Stm.er (Stm.mk kk ln cl nm wt (Ex.mk ek en e0 c0 f0 d0 el ea ec) (Ex.mk xk xn j0 xsl k0 i0 xl xa xc) bd s0 ba bc v0 u0 id sl ot w0)) ev.e);rw [<-a];unfold SS.others at a;simp only [Stm.er] at a;rw [Z8 l0] at a;change X _ _ _ _ _ _ _ _ (A3 p pp U who ev q F);obtain rfl:kk=10:=(by omega);try dsimp only at a
 rw [if_neg (by decide)] at a;rw [if_neg (by decide)] at a;rw [if_neg (by decide)] at a;rw [if_pos (by decide)] at a;try rw [show U.er.sy=U.sy from rfl] at a
 have h1:thr (who:Int):=⟨by omega,by omega⟩;have v1:=hO.mu;have w1:=hO.co;have x1:=hO.ch;have b1:=z0 (.inr (.inr rfl));have f1:sl.toNat<U.sy.conds.length:=(by omega);have a0:=Yu (d:=([]:List Int)) f1;have r0:=hO.cd _ a0;have p0:=(x.c _ a0).2;have q0:=(x.c _ a0).1;have n1:U.er.ths.length=U.ths.length:=eN U;refine Yd (l:=U.ths) (by omega) fun ga e_=> ?_;have hr: ∀ r,Sees (Ao U r) (some ⟨ga,0,none⟩) (AR U):=fun r=>by rw [<-e_];exact aV r
 obtain ⟨L,hL⟩:=lA (U.sy.conds.getD sl.toNat []);rw [<-hL] at r0 p0 q0;have y0:(Kk U.sy sl).2=(L,0):=by unfold Kk;rw [if_pos ⟨b1.1,by omega⟩,<-hL]
 refine rf [1,0,1,2,3,4,5,6,7,8,9] b0 ?_;refine V4 9 call173 (All_Y (k:=sl) x (by omega)) ?_;refine kd2 fun la lc=> ?_
 refine ⟨trivial,?_⟩;rw [y0];refine rn [11,12,13,14,15,0,7] ?_;refine aZ (cD (fun (s:Nat×EvC)=>s.1<=L.length/\s.2.e=ev.e.sn ((L.take s.1).map fun i=>((3:Int),sl,i))) (fun s=> [(0,.pointer (some ⟨p,0,none⟩)),(1,.pointer (some ⟨yb,yo,none⟩)),(21,.slice la L.length lc),(22,I64 L.length),(23,I64 (s.1:Int))]) (fun s=>pto p (.cells (Ug pp U++(I64 who::evC s.2)).toArray 145 (0,0))::lsH I64 2 U.ca U.cc U.cells::yH U.sp (Kk U.sy sl).1::rsH trC 5 116 U.ha U.hc (V5 U.ths (L.take s.1))::stars (U.ths.map trH)::rsH acC 3 140 s.2.aa s.2.ac s.2.e.acc::rsH snC 3 50 s.2.na s.2.nc s.2.e.syn::lsH I64 3 la lc L::(q++F)) (fun s=>L.length - s.1) (fun s m0 ih=> ?_) (0,ev) ⟨bC _,by rw [iK,eA,Cz]⟩) Zg leA;try dsimp only at m0 ih|-
 obtain ⟨hi,b⟩:=m0;refine xx 5 ?_;refine xp 24 ?_ ?_<;>intro h0
 . have m:s.1<L.length:=(by omega);obtain ⟨I,o⟩:=aE (p0 _ (aA m)).1;have hI:I<U.ths.length:=(by have:=r0 _ (aA m);rw [o] at this;exact this);have t:I<(V5 U.ths (L.take s.1)).length:=(by rw [Hb];exact hI)
   have x0:(V5 U.ths (L.take s.1)).set I ({ (V5 U.ths (L.take s.1))[I]'t with st:=3 } :TC)=V5 U.ths (L.take (s.1+1)):=by
    rw [aI m,Co,o];show _=(V5 U.ths (L.take s.1)).set I { (V5 U.ths (L.take s.1)).getD I zTC with st:=3 }
    rw [Yg t]
   refine Ur (l:=L) (by omega) fun gl g0=> ?_;have a1: ∀ r,Sees (lsH I64 3 la lc L::r) (some ⟨gl,0,none⟩) (L.map I64):=fun r=>by rw [<-g0];exact bQ r
   refine rf [6,3021,1] g0 ?_;refine ld ?_ (hc:=(((a1 _).le leA).at (by omega) m));refine aM 26 (Al I) rfl (by rw [o]) ?_;refine rf [8,0,1,3031,2] e_ ?_;refine dW (q':=rsH trC 5 116 (some ⟨ga,0,none⟩) U.hc (V5 U.ths (L.take s.1))::_) (by rw [<-e_];exact Zj) ?_;refine dK (Wk (g:=ga) (f:=trC) (l:=(V5 U.ths (L.take s.1))) (u:=({ (V5 U.ths (L.take s.1))[I]'t with st:=3 } :TC)) (n:=I) (k:=1) (j:=(I:Int)) rfl rfl sizeOf99 Zn rfl t rfl rfl rfl rfl Zj) ?_;rintro _ _ ⟨rfl,rfl⟩;rw [<-e_,x0];refine rf [6,0,1] b0 ?_;refine Zx call98 (by unfold Zy spP Ug Zo;simp only [Hb,Eo];exact leA) (U0 (p:=p) (pp:=pp) (who:=who) (U:=({ U with sy:=(Kk U.sy sl).1,ths:=V5 U.ths (L.take (s.1+1)) } :StC)) (ev:=s.2) (k:=3) (sl:=sl) (ot:=(I:Int)) (q:=lsH I64 3 la lc L::(q++F)) (by rw [b];unfold PEv.sn;dsimp only;rw [o0];simp only [aN,aG,bM];omega)) ?_;rintro _ _ ⟨g1,n0,t0⟩;simp only [Zy,spP,Ug,Zo,evL,ca,na,Hb,Eo] at t0;subst t0;refine ox 6 ?_;rw [<-g0];refine aZ (ih (s.1+1,g1) ⟨by dsimp only;omega,by dsimp only;rw [n0,b,Ph,aI m,aT,o];rfl⟩ (by dsimp only;omega)) Zg leA
 obtain ⟨s1,s2⟩:=s;dsimp only at hi h0 b|-;obtain rfl:s1=L.length:=(by omega);rw [cG] at b|-;refine xx 2 ?_;try dsimp only at a
 rw [<-hL,if_pos (show (10:Int)=10 by decide),if_pos (show (10:Int)=10 by decide),cG] at a;refine Yh (Zy p pp who ({ U with sy:=(Kk U.sy sl).1,ths:=V5 U.ths L } :StC) s2++q) func137 (Uq results137) (dR ⟨({ U with sy:=(Kk U.sy sl).1,ths:=V5 U.ths L } :StC),s2,⟨by rw [a],by rw [a];exact bL (fun z:SS=> { z with sy:=(Kk U.sy sl).1 }) (show ({ U with ths:=V5 U.ths L } :StC).er=U.er.wake L by rw [<-Eg,Eh]),by rw [a,b];rfl,hTd.imp fun M h=>jK (Fw _ _) h⟩,rfl⟩) (by unfold Zy spP Ug Zo;simp only [Hb,Eo];exact leA)
theorem xjoin_ok (hP:Prg q pp g)(hM:MayP g.er)(hO:PO g N who U)(hev:ev.e.acc= []/\ev.e.syn= [])(hyA:Kn q fun M=>y.At M)(hg:y.s.er.good g.er.cn (U.ths[who]'(hO.w)).loc.length)(hTd:Kn q fun M=>TodoAt M U.ths)(hk:y.s.er.kd=14):CallF prog G 141 (Aa p y) (Zy p pp who U ev++q) (RP (fun v q'=> ∃ (U':StC) (ev':EvC),((U.er.others g.er.pr who y.s.er ev.e).2.2=0/\U'.er=(U.er.others g.er.pr who y.s.er ev.e).1/\ev'.e=(U.er.others g.er.pr who y.s.er ev.e).2.1/\Kn q fun M=>TodoAt M U'.ths)/\q'=Zy p pp who U' ev'++q) (fun ch q'=> ∃ (U':StC) (ev':EvC),((U.er.others g.er.pr who y.s.er ev.e).2.2≠0/\ch= [Uy (U.er.others g.er.pr who y.s.er ev.e).2.2]/\ev'.e=(U.er.others g.er.pr who y.s.er ev.e).2.1)/\q'=Zy p pp who U' ev'++q)):=by
 refine aC func141 ntmps141 rfl fun F cs=> ?_;obtain ⟨yb,yo,ys⟩:=y;obtain ⟨kk,ln,cl,nm,wt,⟨ek,en,o,f,t,j,el,ea,ec⟩,⟨xk,xn,x,xsl,z,u,xl,xa,xc⟩,bd,e0,ba,bc,i0,g0,id,sl,ot,k0⟩:=ys;have p0:=fC hyA;dsimp only at p0 hg hyA hk|-;simp only [Stm.er,PStm.kd] at hk;have b:=hO.w;have h8:=hO.h8;have x0:=hO.y;have j1:=hO.n9;obtain ⟨w0,d0⟩:=hev;have m1:Kn q fun M=>ExAt M ⟨yb,yo+5,none⟩ (Ex.mk ek en o f t j el ea ec):=hyA.imp fun M h=>Ya (pre:= (A6 kk ln cl nm wt)) h.1 rfl h.2.1 rfl
 have k1:Kn q fun M=>ExAt M ⟨yb,yo+12,none⟩ (Ex.mk xk xn x xsl z u xl xa xc):=hyA.imp fun M h=>Ya (pre:= (A6 kk ln cl nm wt)++exC (Ex.mk ek en o f t j el ea ec)) h.1 rfl h.2.2.1 rfl
 have n1:Kn q fun M=>BlkAt M ba bc bd:=hyA.imp fun M h=>h.2.2.2.1;have l1:Kn q fun M=>BlkAt M i0 g0 e0:=hyA.imp fun M h=>⟨h.2.2.2.2.1,h.2.2.2.2.2⟩
 obtain ⟨o0,n0,m0,_⟩:=hg;obtain ⟨d1,c1,b1,a1,z0,s0,v0,u0,t0⟩:=Yp n0;obtain ⟨f1,e1⟩:=Wi o0;rw [Zf,Zf] at m0;obtain ⟨R,a⟩:=lA (U.er.others g.er.pr who (Stm.er (Stm.mk kk ln cl nm wt (Ex.mk ek en o f t j el ea ec) (Ex.mk xk xn x xsl z u xl xa xc) bd e0 ba bc i0 g0 id sl ot k0)) ev.e);rw [<-a];unfold SS.others at a;simp only [Stm.er] at a;rw [Z8 b] at a;change X _ _ _ _ _ _ _ _ (A3 p pp U who ev q F);obtain rfl:kk=14:=(by omega);try dsimp only at a
 rw [if_neg (by decide)] at a;rw [if_neg (by decide)] at a;rw [if_neg (by decide)] at a;rw [if_neg (by decide)] at a;rw [if_neg (by decide)] at a;rw [if_neg (by decide)] at a;try rw [show U.er.sy=U.sy from rfl] at a
 have r0:thr (who:Int):=⟨by omega,by omega⟩;have g1:=hO.mu;have h1:=hO.co;have i1:=hO.ch;refine Yd (l:=U.ths) (by omega) fun ga e_=> ?_;have hr: ∀ r,Sees (Ao U r) (some ⟨ga,0,none⟩) (AR U):=fun r=>by rw [<-e_];exact aV r
 have y0:=hO.sp;refine xo 3 ?_;refine aU call95 (J9 (p:=p) (who:=who) (ga:=ga) (m:=U.ths.length) (c:=U.hc) (by rw [<-e_];exact clA) clA b) ?_;refine oo 2 ?_;refine ld ?_ (hc:=(cF (n:=who) (hr _) leA Zn b rfl 4 _ rfl));refine ox 4 ?_;refine aZ (cD (fun (s:Nat×EvC)=>s.1<=U.ths[who].sp.length/\s.2.e=ev.e.sn ((U.ths[who].sp.take s.1).map fun i=>((7:Int),(0:Int),i))) (fun s=> [(0,.pointer (some ⟨p,0,none⟩)),(10,.slice U.ths[who].sa U.ths[who].sp.length U.ths[who].sc),(11,I64 (U.ths[who].sp.length:Int)),(12,I64 (s.1:Int))]) (fun s=>pto p (.cells (Ug pp U++(I64 who::evC s.2)).toArray 145 (0,0))::lsH I64 2 U.ca U.cc U.cells::yH U.sp U.sy::rsH trC 5 116 U.ha U.hc U.ths::stars (U.ths.map trH)::rsH acC 3 140 s.2.aa s.2.ac s.2.e.acc::rsH snC 3 50 s.2.na s.2.nc s.2.e.syn::(q++F)) (fun s=>U.ths[who].sp.length - s.1) (fun s b0 ih=> ?_) (0,ev) ⟨bC _,by rw [iK,eA,Cz]⟩) Zg leA;try dsimp only at b0 ih|-
 obtain ⟨hi,d⟩:=b0;refine xx 5 ?_;refine xp 13 ?_ ?_<;>intro h0
 . have l0:s.1<U.ths[who].sp.length:=(by omega);have hA:=(R7 (q:=q++F) b);refine Zs (hA.le leA) (by simp;omega) fun ab ao j0=> ?_;have a0:=hA;rw [j0] at a0|-;refine rf [7,0,5] a0 ?_;refine Zx call98 leA (U0 (p:=p) (pp:=pp) (who:=who) (U:=U) (ev:=s.2) (k:=7) (sl:=0) (ot:=U.ths[who].sp[s.1]) (q:=q++F) (by rw [d];unfold PEv.sn;dsimp only;rw [d0];simp only [aN,aG,bM];omega)) ?_;rintro _ _ ⟨q0,c0,f0⟩;simp only [Zy,spP,Zo,evL,ca,na] at f0;subst f0;refine ox 6 ?_;rw [<-j0];refine aZ (ih (s.1+1,q0) ⟨by dsimp only;omega,by dsimp only;rw [c0,d,Ph,aI l0,aT];rfl⟩ (by dsimp only;omega)) Zg leA
 obtain ⟨s1,s2⟩:=s;dsimp only at hi h0 d|-;obtain rfl:s1=U.ths[who].sp.length:=(by omega);rw [cG] at d;refine xx 2 ?_;refine Yh (Zy p pp who U s2++q) func141 (Uq results141) (dR ⟨U,s2,⟨by rw [a],by rw [a],by rw [a,d];rfl,hTd⟩,rfl⟩) (by rw [aB];exact aD _)
theorem Zk0 (E F:List HP)(hP:Prg q pp g)(hn:n<g.ths.l.length)(hl:0<=g.ths.l[n].loc/\g.ths.l[n].loc<=32)(hb:g.ths.l[n].body.length<=1000000):CallF prog G 47 [.pointer (some ⟨pp,0,none⟩),I64 n] (E++(q++F)) (Ret fun v q'=> ∃ T:TC,T.er=Wl g.er.pr n/\v= .agg (trC T).toArray/\(Kn q fun M=> ∀ y∈T.todo,y.At M)/\q'=trH T::(E++(q++F))):=
 dF (Vk E q F) (CallF.fr (E++F) (I7 hP hn hl hb)) (by rintro _ _ ⟨_,rfl,_,⟨T,b,rfl,a,rfl⟩,rfl⟩;exact ⟨_,⟨_,rfl,T,b,rfl,a,rfl⟩,dJ _ (Vk q E F)⟩)
abbrev Ar (v0:StC):=(v0.ths.length:Int)
theorem Zji (hP:Prg q pp g)(hM:MayP g.er)(hO:PO g N who U)(hev:ev.e.acc= []/\ev.e.syn= [])(hyA:Kn q fun M=>y.At M)(hg:y.s.er.good g.er.cn (U.ths[who]'(hO.w)).loc.length)(hTd:Kn q fun M=>TodoAt M U.ths)(hk:y.s.er.kd=13):CallF prog G 140 (Aa p y) (Zy p pp who U ev++q) (RP (fun v q'=> ∃ (U':StC) (ev':EvC),((U.er.others g.er.pr who y.s.er ev.e).2.2=0/\U'.er=(U.er.others g.er.pr who y.s.er ev.e).1/\ev'.e=(U.er.others g.er.pr who y.s.er ev.e).2.1/\Kn q fun M=>TodoAt M U'.ths)/\q'=Zy p pp who U' ev'++q) (fun ch q'=> ∃ (U':StC) (ev':EvC),((U.er.others g.er.pr who y.s.er ev.e).2.2≠0/\ch= [Uy (U.er.others g.er.pr who y.s.er ev.e).2.2]/\ev'.e=(U.er.others g.er.pr who y.s.er ev.e).2.1)/\q'=Zy p pp who U' ev'++q)):=by
 refine aC func140 ntmps140 rfl fun F cs=> ?_;obtain ⟨yb,yo,ys⟩:=y;obtain ⟨kk,ln,cl,nm,wt,⟨ek,en,c0,a0,d0,b0,el,ea,ec⟩,⟨xk,xn,f0,xsl,g0,e0,xl,xa,xc⟩,bd,n0,ba,bc,p0,o0,id,sl,ot,q0⟩:=ys;have x:=fC hyA;dsimp only at x hg hyA hk|-;simp only [Stm.er,PStm.kd] at hk;have a:=hO.w;have h8:=hO.h8;have c1:=hO.y;have p1:=hO.n9;obtain ⟨b1,l0⟩:=hev;have s1:Kn q fun M=>ExAt M ⟨yb,yo+5,none⟩ (Ex.mk ek en c0 a0 d0 b0 el ea ec):=hyA.imp fun M h=>Ya (pre:= (A6 kk ln cl nm wt)) h.1 rfl h.2.1 rfl
 have q1:Kn q fun M=>ExAt M ⟨yb,yo+12,none⟩ (Ex.mk xk xn f0 xsl g0 e0 xl xa xc):=hyA.imp fun M h=>Ya (pre:= (A6 kk ln cl nm wt)++exC (Ex.mk ek en c0 a0 d0 b0 el ea ec)) h.1 rfl h.2.2.1 rfl
 have t1:Kn q fun M=>BlkAt M ba bc bd:=hyA.imp fun M h=>h.2.2.2.1;have r1:Kn q fun M=>BlkAt M p0 o0 n0:=hyA.imp fun M h=>⟨h.2.2.2.2.1,h.2.2.2.2.2⟩
 obtain ⟨u0,t0,s0,_⟩:=hg;obtain ⟨j1,i1,g1,f1,e1,y0,a1,z0,i0⟩:=Yp t0;obtain ⟨l1,k1⟩:=Wi u0;rw [Zf,Zf] at s0;obtain ⟨R,o⟩:=lA (U.er.others g.er.pr who (Stm.er (Stm.mk kk ln cl nm wt (Ex.mk ek en c0 a0 d0 b0 el ea ec) (Ex.mk xk xn f0 xsl g0 e0 xl xa xc) bd n0 ba bc p0 o0 id sl ot q0)) ev.e);rw [<-o];unfold SS.others at o;simp only [Stm.er] at o;rw [Z8 a] at o;change X _ _ _ _ _ _ _ _ (A3 p pp U who ev q F);obtain rfl:kk=13:=(by omega);try dsimp only at o
 rw [if_neg (by decide)] at o;rw [if_neg (by decide)] at o;rw [if_neg (by decide)] at o;rw [if_neg (by decide)] at o;rw [if_neg (by decide)] at o;rw [if_pos (by decide)] at o;try rw [show U.er.sy=U.sy from rfl] at o
 have x0:thr (who:Int):=⟨by omega,by omega⟩;have m1:=hO.mu;have n1:=hO.co;have o1:=hO.ch;refine Yd (l:=U.ths) (by omega) fun ga e_=> ?_;have hr: ∀ r,Sees (Ao U r) (some ⟨ga,0,none⟩) (AR U):=fun r=>by rw [<-e_];exact aV r
 have d1:=hO.sp;have j0:=i0 rfl;obtain ⟨D,rfl⟩:=aE j0.1;have hD:D<g.ths.l.length:=(by have:=j0.2;rw [cn_th] at this;omega);have h0:=hM.t _ (aX (f:=Th.er) (aA hD));have r0:U.er.ths.length=U.ths.length:=eN U;rw [r0] at o;refine rn [6,0,9] ?_;refine xp 12 ?_ ?_<;>intro h1
 . rw [if_pos (show 8<=U.ths.length by omega)] at o;refine xo 2 ?_;refine Uz call169 (aD _) (H4 (z:=5)) ?_ ?_
   . rintro _ _ ⟨rfl,rfl⟩;exact dM func140 (eG (by rw [o];exact ⟨U,ev,⟨(show (5:Int)≠0 by decide),rfl,rfl⟩,rfl⟩)) leA
   rintro _ _ ⟨⟩
 rw [if_neg (show ¬8<=U.ths.length by omega)] at o;refine xo 5 ?_;refine aU call95 (J9 (p:=p) (who:=who) (ga:=ga) (m:=U.ths.length) (c:=U.hc) (by rw [<-e_];exact clA) clA a) ?_;refine oo 1 ?_;refine aU call95 (J9 (p:=p) (who:=who) (ga:=ga) (m:=U.ths.length) (c:=U.hc) (by rw [<-e_];exact clA) clA a) ?_;refine oo 2 ?_;refine ld ?_ (hc:=(cF (n:=who) (hr _) leA Zn a rfl 4 _ rfl));refine oo 1 ?_;refine bI (Vw (u:=(Ar U)) I64 underlying22 E7 rfl rfl) ?_;rintro _ _ ⟨g2,rfl,rfl⟩;refine dW (q':=stars (U.ths.map trH)::_) Zj (dW (Rq a _) ?_);refine bI (Z6 (f:=I64) (l:=U.ths[who].sp) (m:= [(Ar U)]) underlying22 E7 rfl rfl rfl Zj ((bQ _).le leA) (fun _=>rfl) (by simp only [aJ];omega) (by simp only [aJ];omega)) ?_;rintro _ _ ⟨i,d,rfl,rfl⟩;refine oo 2 ?_;refine dW (q':=rsH trC 5 116 (some ⟨ga,0,none⟩) U.hc U.ths::_) (by rw [<-e_];exact Zj) ?_;refine dK (Wk (g:=ga) (f:=trC) (l:=U.ths) (u:=({ U.ths[who] with sa:=i,sc:=d,sp:=U.ths[who].sp++ [(Ar U)] } :TC)) (n:=who) (k:=4) (j:=(who:Int)) rfl rfl sizeOf22 Zn rfl a rfl rfl rfl rfl Zj) ?_;rintro _ _ ⟨rfl,rfl⟩;rw [<-e_];refine dW (q':=stars ((U.ths.set who ({ U.ths[who] with sa:=i,sc:=d,sp:=U.ths[who].sp++ [(Ar U)] } :TC)).map trH)::_) (bB (b:=lsH I64 2 (({ U.ths[who] with sa:=i,sc:=d,sp:=U.ths[who].sp++ [(Ar U)] } :TC)).la (({ U.ths[who] with sa:=i,sc:=d,sp:=U.ths[who].sp++ [(Ar U)] } :TC)).lc (({ U.ths[who] with sa:=i,sc:=d,sp:=U.ths[who].sp++ [(Ar U)] } :TC)).loc::lsH PS.v 146 (({ U.ths[who] with sa:=i,sc:=d,sp:=U.ths[who].sp++ [(Ar U)] } :TC)).ta (({ U.ths[who] with sa:=i,sc:=d,sp:=U.ths[who].sp++ [(Ar U)] } :TC)).tc (({ U.ths[who] with sa:=i,sc:=d,sp:=U.ths[who].sp++ [(Ar U)] } :TC)).todo::lsH I64 3 (({ U.ths[who] with sa:=i,sc:=d,sp:=U.ths[who].sp++ [(Ar U)] } :TC)).sa (({ U.ths[who] with sa:=i,sc:=d,sp:=U.ths[who].sp++ [(Ar U)] } :TC)).sc (({ U.ths[who] with sa:=i,sc:=d,sp:=U.ths[who].sp++ [(Ar U)] } :TC)).sp::stars (Bq U who)::_) (bP Zj (bP Zj (bP Zj Zj))) (T9 a ({ U.ths[who] with sa:=i,sc:=d,sp:=U.ths[who].sp++ [(Ar U)] } :TC) _)) ?_;refine rf [2,0,1,2,3,4,5,6,7,8,9,10,11,12,13,14,15] x ?_;refine Ym 15 call47 leA (Zk0 (n:=D) (pto p (.cells (Ug pp U++(I64 who::evC ev)).toArray 145 (0,0))::lsH I64 2 U.ca U.cc U.cells::yH U.sp U.sy::rsH trC 5 116 U.ha U.hc (U.ths.set who ({ U.ths[who] with sa:=i,sc:=d,sp:=U.ths[who].sp++ [(Ar U)] } :TC))::stars ((U.ths.set who ({ U.ths[who] with sa:=i,sc:=d,sp:=U.ths[who].sp++ [(Ar U)] } :TC)).map trH)::rsH acC 3 140 ev.aa ev.ac ev.e.acc::rsH snC 3 50 ev.na ev.nc ev.e.syn:: []) F hP hD h0.1 (by have:=h0.2.1;rw [show (Th.er g.ths.l[D]).body=Zk g.ths.l[D].body from rfl,Zf] at this;omega)) ?_;rintro _ _ ⟨T1,w0,rfl,v0,rfl⟩;refine ⟨(hlF x),?_⟩;refine dA 16 rfl (Zl (u:=T1) trC underlying96 Q8 rfl rfl Zn rfl) ?_;rintro _ _ ⟨gt,rfl,rfl⟩;refine ⟨(hlF x),?_⟩;refine bW 31 (.slice U.ha (U.ths.set who ({ U.ths[who] with sa:=i,sc:=d,sp:=U.ths[who].sp++ [(Ar U)] } :TC)).length U.hc) rfl (by rw [bG]) ?_;refine dA 17 rfl (Zu (f:=trC) (l:=(U.ths.set who ({ U.ths[who] with sa:=i,sc:=d,sp:=U.ths[who].sp++ [(Ar U)] } :TC))) (m:= [T1]) underlying96 Q8 rfl rfl Zn rfl rfl Zj ((aV _).le leA) Pt (by simp only [bG,aJ];omega) (by simp only [bG,aJ];omega)) ?_;refine kk2 fun a6 c6=> ?_
 refine rn [19,20,21,22,0,3] ?_;refine dW (q':=stars (((U.ths.set who ({ U.ths[who] with sa:=i,sc:=d,sp:=U.ths[who].sp++ [(Ar U)] } :TC))++ [T1]).map trH)::_) (bB (b:=stars ((U.ths.set who ({ U.ths[who] with sa:=i,sc:=d,sp:=U.ths[who].sp++ [(Ar U)] } :TC)).map trH)::trH T1::_) (bP Zj Zj) (by rw [aT];exact Le.stars_snoc _ _ _)) ?_;refine Zx call98 (by unfold Zy spP Ug Zo;simp only [aK,bG,aJ];exact leA) (U0 (p:=p) (pp:=pp) (who:=who) (U:=({ U with ha:=a6,hc:=c6,ths:=(U.ths.set who ({ U.ths[who] with sa:=i,sc:=d,sp:=U.ths[who].sp++ [(Ar U)] } :TC))++ [T1] } :StC)) (ev:=ev) (k:=6) (sl:=0) (ot:=(Ar U)) (q:=q++F) (by rw [l0];decide)) ?_;rintro _ _ ⟨m0,k0,rfl⟩;refine ox 1 ?_
 refine Yh (Zy p pp who ({ U with ha:=a6,hc:=c6,ths:=(U.ths.set who ({ U.ths[who] with sa:=i,sc:=d,sp:=U.ths[who].sp++ [(Ar U)] } :TC))++ [T1] } :StC) m0++q) func140 (Uq results140) (dR ⟨({ U with ha:=a6,hc:=c6,ths:=(U.ths.set who ({ U.ths[who] with sa:=i,sc:=d,sp:=U.ths[who].sp++ [(Ar U)] } :TC))++ [T1] } :StC),m0,⟨by rw [o],by rw [o];exact spawn_er a w0,by rw [o,k0];rfl,(hTd.and v0).imp fun M h t ht y hy=>by
  rcases aW.1 ht with ht|ht
  . rcases bR ht with ht|rfl
    . exact h.1 t ht y hy
    exact h.1 _ (aA a) y hy
  rw [bJ.1 ht] at hy;exact h.2 y hy⟩,rfl⟩) (by rw [aB];exact aD _)
end
theorem Ip {α:Type}{i:α}{r:List α}: ∀ {c:List (List α)} {k:Nat},c.getD k []=i::r->c.flatten.Perm (i::(c.set k r).flatten)
 | [],k,h=>by simp at h
 |a::c,0,h=>by
  have:a=i::r:=by simpa using h
  subst this;simp
 |a::c,k+1,h=>by
  have b:c.getD k []=i::r:=by simpa using h
  simp only [List.flatten_cons,kX];exact (List.Perm.append_left a (Ip b)).trans List.perm_middle
theorem Iu {α:Type}{i:α}: ∀ {c:List (List α)} {k:Nat},k<c.length->(c.set k (c.getD k []++ [i])).flatten.Perm (i::c.flatten)
 | [],k,h=>by simp at h
 |a::c,0,h=>by
  simp only [List.set_cons_zero,List.flatten_cons,List.getD_cons_zero,aB];exact List.perm_middle
 |a::c,k+1,h=>by
  simp only [kX,List.flatten_cons,List.getD_cons_succ];exact (List.Perm.append_left a (Iu (by simpa using h))).trans List.perm_middle
theorem Iw {α:Type}{c:List (List α)}{k:Nat}{r l:List α}(h:l∈c.set k r)(hr: ∀ x∈r,x∈c.getD k [])(hk:k<c.length): ∀ x∈l,∃ m∈c,x∈m:=fun x a=>by
 rcases bR h with h|rfl
 . exact ⟨l,h,a⟩
 exact ⟨_,Yu hk,hr x a⟩
theorem SS.okx.wake1 {k:Nat}{i:Int}{r:List Int}(h:s.okx F N n)(hs:(s.th n).st=1)(hk:k<s.sy.conds.length)(hc:s.sy.conds.getD k []=i::r):
 ({ (s.put i.toNat { s.th i.toNat with st:=3 }) with sy:= { s.sy with conds:=s.sy.conds.set k r } } :SS).okx F N n/\(({ (s.put i.toNat { s.th i.toNat with st:=3 }) with sy:= { s.sy with conds:=s.sy.conds.set k r } } :SS).th n)=s.th n:=by
 have hm:=Yu (d:=([]:List Int)) hk;have q:=h.w _ hm i (hc ▸ cA ..);have c0:n≠i.toNat:=fun e=>by rw [<-e,hs] at q;exact bD q.2 (by decide)
 have ha:=Qf (t:= { s.th i.toNat with st:=3 }) q.1;have hl:=s.put_len i.toNat { s.th i.toNat with st:=3 }
 have a0:(({ (s.put i.toNat { s.th i.toNat with st:=3 }) with sy:= { s.sy with conds:=s.sy.conds.set k r } } :SS).th n)=s.th n:=by
  show (s.put i.toNat { s.th i.toNat with st:=3 }).th n=_
  rw [ha,if_neg c0]
 have hp:=Ip hc;have d0:=hp.nodup_iff.1 h.u;have k0:=h.h _ q.1;have k1:=h.o _ q.1 (Ne.symm c0)
 have b0: ∀ l∈s.sy.conds.set k r,∀ t∈l,t≠i/\ ∃ m∈s.sy.conds,t∈m:=fun l a t ht=>by
  refine ⟨fun e=> ?_,Iw a (fun x hx=>hc ▸ cX _ hx) hk t ht⟩;subst e;exact (gA.1 d0).1 (List.mem_flatten.2 ⟨l,a,ht⟩)
 refine ⟨⟨h.c,h.v,?_,⟨h.z.1,by show ((s.sy.conds.set k r).length:Int)=_;rw [bG];exact h.z.2.1,h.z.2.2⟩,by show 1<=(s.put _ _).ths.length/\_;rw [hl];exact h.t,by show n<(s.put _ _).ths.length;rw [hl];exact h.nn,fun j hj=> ?_,fun j hj f0=> ?_,by rw [a0];exact .inl hs,fun l a t ht=> ?_,(gA.1 d0).2⟩,a0⟩
 . refine ⟨h.y.no,by show (s.sy.conds.set k r).length<=64;rw [bG];exact h.y.nc,h.y.nh,h.y.o,fun l a=> ?_,h.y.h⟩;have b:=h.y.c _ hm;rw [hc] at b;rcases bR a with a|rfl
   . exact h.y.c l a
   exact ⟨by have:=b.1;rw [cC] at this;omega,fun t ht=>b.2 t (cX _ ht)⟩
 . have f:j<s.ths.length:=by rw [<-hl];exact hj
   show ((s.put _ _).th j).ok0 F N (s.put _ _).ths.length
   rw [ha,hl];split
   . exact ⟨k0.d,⟨show (1:Int)<=3 by decide,show (3:Int)<=4 by decide⟩,k0.l,k0.v,k0.g,k0.n,k0.p⟩
   exact h.h j f
 . have f:j<s.ths.length:=by rw [<-hl];exact hj
   show ((s.put _ _).th j).ok1
   rw [ha];split
   . exact ⟨⟨fun e=>by have:=k1.e.1 e;rw [q.2] at this;exact bD this (by decide),fun e=>bD e (by show ¬ (3:Int)=4;decide)⟩,fun _=>k1.w (.inl q.2)⟩
   exact h.o j f f0
 obtain ⟨k2,m,e0,k3⟩:=b0 l a t ht;obtain ⟨k4,k5⟩:=h.w m e0 t k3;show t.toNat<(s.put _ _).ths.length/\((s.put _ _).th t.toNat).st=2
 rw [hl,ha,if_neg (fun e=>k2 (by have h1:=(h.y.c m e0).2 t k3;have h2:=(h.y.c _ hm).2 i (hc ▸ cA ..);unfold thr at h1 h2;omega))];exact ⟨k4,k5⟩
theorem G1: ∀ (l:List Int) (s:SS) (y:Sy),({ s with sy:=y } :SS).wake l= { s.wake l with sy:=y }
 | [],_,_=>rfl
 |i::r,s,y=>by
  show SS.wake _ r= { SS.wake _ r with sy:=y }
  rw [<-G1 r];rfl
theorem Di: ∀ (l:List Int) (s:SS),(s.wake l).sy=s.sy
 | [],_=>rfl
 |i::r,s=>by show (SS.wake _ r).sy=_;rw [Di r];rfl
theorem SS.okx.wakes {k:Nat}: ∀ {l:List Int} {s:SS},s.okx F N n->(s.th n).st=1->k<s.sy.conds.length->s.sy.conds.getD k []=l->
 ({ s.wake l with sy:= { s.sy with conds:=s.sy.conds.set k [] } } :SS).okx F N n/\(({ s.wake l with sy:= { s.sy with conds:=s.sy.conds.set k [] } } :SS).th n)=s.th n
 | [],s,h,hs,hk,hc=>by
  have:s.sy.conds.set k []=s.sy.conds:=by
   rw [<-hc,bS,aH hk];exact dQ hk
  rw [this];exact ⟨h,rfl⟩
 |i::r,s,h,hs,hk,hc=>by
  obtain ⟨c,b⟩:=h.wake1 hs hk hc;have a:k<(s.sy.conds.set k r).length:=by rw [bG];exact hk
  have:=SS.okx.wakes (l:=r) (k:=k) c (by rw [b];exact hs) a (by simp [List.getD,hk]);simp only [fU,G1] at this;rw [b] at this;exact this
theorem SS.okx.waits {x:PStm}(h:s.okx F N n)(hs:(s.th n).st=1)(hk:0<=k/\k<s.sy.conds.length)(hx:x.good F.cn (s.th n).loc.length)(h8:x.kd=8)(hl:(s.th n).left.length+1<=600*(N+2)):
 (({ s with sy:=(Uo s.sy k n).1 } :SS).put n { s.th n with st:=2,left:=x::(s.th n).left }).okx F (N+1) n:=by
 have r: ¬∃ l∈s.sy.conds,(n:Int)∈l:=fun ⟨l,hl,hn⟩=>by
  have:=(h.w l hl n hn).2;rw [show ((n:Int)).toNat=n from rfl,hs] at this;exact bD this (by decide)
 have a:=h.t;have e0:=h.nn
 have hw:(Uo s.sy k n).1= { s.sy with conds:=s.sy.conds.set k.toNat (s.sy.conds.getD k.toNat []++ [(n:Int)]) } :=by
  unfold Uo;rw [if_pos hk,if_pos ⟨by omega,by omega⟩,if_neg r]
 have hy:=waitS_ok h.y k n;rw [hw] at hy|-;have a0:k.toNat<s.sy.conds.length:=by omega
 have ha:=Qf (t:= { s.th n with st:=2,left:=x::(s.th n).left }) h.nn;have q:=h.h n h.nn;have hp:=Iu (i:=(n:Int)) a0;refine ⟨h.c,h.v,hy,⟨h.z.1,by show ((s.sy.conds.set _ _).length:Int)=_;rw [bG];exact h.z.2.1,h.z.2.2⟩,by simp only [eE];exact h.t,by simp only [eE];exact h.nn,fun j hj=> ?_,fun j hj b0=> ?_,?_,fun l b t a=> ?_,hp.nodup_iff.2 (gA.2 ⟨fun hm=>r (by obtain ⟨l,h1,h2⟩:=List.mem_flatten.1 hm;exact ⟨l,h1,h2⟩),h.u⟩)⟩
 iterate 2
  focus
   have c0:j<s.ths.length:=by have:=eE s n { s.th n with st:=2,left:=x::(s.th n).left };rw [<-this];exact hj
  rotate_left
 . show ((s.put _ _).th n).st=1\/(((s.put _ _).th n).st=2/\((s.put _ _).th n).next.kd=8/\((s.put _ _).th n).left≠ [])
   rw [ha,if_pos rfl];exact .inr ⟨rfl,h8,fun e=>by cases e⟩
 . show t.toNat<(s.put _ _).ths.length/\((s.put _ _).th t.toNat).st=2
   rw [eE,ha]
   have f:(∃ m∈s.sy.conds,t∈m)\/t=n:=by
    rcases bR b with b|rfl
    . exact .inl ⟨l,b,a⟩
    rcases aW.1 a with a|a
    . exact .inl ⟨_,Yu a0,a⟩
    exact .inr (bJ.1 a)
   rcases f with ⟨m,hm,d0⟩|rfl
   . obtain ⟨k1,k2⟩:=h.w m hm t d0;refine ⟨k1,?_⟩;split
     . rfl
     exact k2
   exact ⟨h.nn,by rw [if_pos (show ((n:Int)).toNat=n from rfl)]⟩
 . show ((s.put _ _).th j).ok0 F (N+1) (s.put _ _).ths.length
   rw [ha,eE];split
   . exact ⟨q.d,⟨show (1:Int)<=2 by decide,show (2:Int)<=4 by decide⟩,q.l,q.v,⟨hx,q.g⟩,by simp only [cC];omega,q.p⟩
   exact (h.h j c0).mono (dG N) (aY _)
 show ((s.put _ _).th j).ok1
 rw [ha,if_neg b0];exact h.o j c0 b0
theorem Zvv (h:0<=d/\d<F.ths.length):F.pr.ths.getD d.toNat (0, [])=(F.ths[d.toNat].loc,F.ths[d.toNat].body):=by
 have a:d.toNat<F.pr.ths.length:=by simp [Fnd.pr];omega
 rw [bS,aH a];simp [Fnd.pr]
theorem Dc {m:Nat}(hM:MayP F)(h:0<=d/\d<F.ths.length)(hm:0<m):(Wl F.pr d).ok0 F N m/\(Wl F.pr d).ok1:=by
 have c:=hM.t _ (aA (show d.toNat<F.ths.length by omega));unfold Wl;rw [Zvv h];dsimp only;have a:((F.ths[d.toNat].loc.toNat:Nat):Int)=F.ths[d.toNat].loc:=by omega
 refine ⟨⟨h,?_,?_,?_,?_,?_,⟨hm,fun i f=>by cases f⟩⟩,⟨?_,?_⟩⟩
 . dsimp only;split<;>omega
 . simp only [cJ];omega
 . intro x b;rw [(fI.1 b).2];unfold val;omega
 . simp only [cJ];rw [a];exact c.2.2
 . dsimp only;omega
 . dsimp only;split
   . rename_i e;exact ⟨fun _=>rfl,fun _=>e⟩
   rename_i e;exact ⟨fun k=>bD k e,fun k=>bD k (by decide)⟩
 dsimp only;intro k;exfalso;revert k;split<;>(intro k;rcases k with k|k<;>exact bD k (by decide))
theorem SS.okx.spawn (h:s.okx F N n)(hM:MayP F)(hs:(s.th n).st=1)(hd:0<=d/\d<F.ths.length)(h8:s.ths.length<8):
 ({ (s.put n { s.th n with sp:=(s.th n).sp++ [(s.ths.length:Int)] }) with ths:=(s.put n { s.th n with sp:=(s.th n).sp++ [(s.ths.length:Int)] }).ths++ [Wl F.pr d] } :SS).okx F N n:=by
 obtain ⟨X,m⟩:=lA ({ s.th n with sp:=(s.th n).sp++ [(s.ths.length:Int)] } :PTr);rw [<-m];have f:=h.h n h.nn
 have a:({ (s.put n X) with ths:=(s.put n X).ths++ [Wl F.pr d] } :SS).ths.length=s.ths.length+1:=by
  show ((s.put n X).ths++ [Wl F.pr d]).length=_
  rw [aK,eE];rfl
 have j: ∀ i,({ (s.put n X) with ths:=(s.put n X).ths++ [Wl F.pr d] } :SS).th i=if i=s.ths.length then Wl F.pr d else if i=n then X else s.th i:=fun i=>by
  unfold SS.th;show ((s.put n X).ths++ [Wl F.pr d]).getD i zTr=_
  by_cases e:i=s.ths.length
  . rw [if_pos e,bS,dP (by rw [eE];omega),eE,e];simp
  rw [if_neg e];by_cases e2:i<s.ths.length
  . rw [bS,eD (by rw [eE];exact e2),<-bS];exact Qf h.nn i
  have x:i≠n:=fun k=>e2 (k ▸ h.nn)
  rw [if_neg x,bS,cT (by rw [aK,eE];simp;omega),bS,cT (by omega)]
 have a0:X.ok0 F N (s.ths.length+1):=by
  rw [m];refine ⟨f.d,f.s,f.l,f.v,f.g,f.n,⟨by have:=f.p.1;simp only [aK,aJ];omega,fun i b=> ?_⟩⟩;rcases aW.1 b with b|b
  . have:=f.p.2 i b;omega
  rw [bJ.1 b];omega
 have b0:=h.nn;refine ⟨h.c,h.v,h.y,h.z,by rw [a];omega,by rw [a];omega,fun i b=> ?_,fun i b r=> ?_,?_,fun l hl t ht=> ?_,h.u⟩
 . rw [a] at b|-;rw [j];split
   . exact (Dc hM hd (by omega)).1
   split
   . exact a0
   exact (h.h i (by omega)).mono (aY _) (dG _)
 . rw [a] at b;rw [j];split
   . exact (Dc (N:=N) hM hd (Nat.succ_pos 0)).2
   exact h.o i (by omega) r
 . rw [j,if_neg (by omega),if_pos rfl,m];exact .inl hs
 obtain ⟨k1,q⟩:=h.w l hl t ht;rw [a,j,if_neg (by omega)];refine ⟨by omega,?_⟩;split
 . rename_i e;rw [e] at q;rw [m];exact q
 exact q
theorem recv_val {s:Sy}(h:s.ok N)(k:Nat):val ((s.chans.getD k ch0).items.headD 0):=by
 by_cases hk:k<s.chans.length
 . have hc:=h.h _ (Yu (d:=ch0) hk)
   cases hi:(s.chans.getD k ch0).items with
   |nil=>show val 0;unfold val;omega
   |cons a r=>exact hc.2.2.2.2 a (gP (show a∈(s.chans.getD k ch0).items by rw [hi];exact cA ..))
 rw [bS,cT (by omega)];show val 0;unfold val;omega
theorem Fh {s:Sy}(hk:0<=k/\k<s.conds.length):(Y5 s k).1= { s with conds:=s.conds.set k.toNat ((s.conds.getD k.toNat []).drop 1) } :=by
 unfold Y5;rw [if_pos hk];split
 . rename_i e
   have:s.conds.set k.toNat ((s.conds.getD k.toNat []).drop 1)=s.conds:=by
    have a:k.toNat<s.conds.length:=by omega
    have b:s.conds.getD k.toNat []=s.conds[k.toNat]:=by simp [List.getD,a]
    rw [e,List.drop_nil,<-e,b];exact dQ a
   rw [this]
 rfl
theorem Ll {x:PStm}(h:s.okx F N n)(hM:MayP F)(hs:(s.th n).st=1)(hx:x.good F.cn (s.th n).loc.length)(hl:(s.th n).left.length+1<=600*(N+1))(hk: ¬ (x.kd<=5\/x.kd=11\/x.kd=15))(ht:(s.others F.pr n x ev).2.2=0):(s.others F.pr n x ev).1.okx F (N+1) n:=by
 have u:=h.mono (dG N);obtain ⟨k,ln,cl,nm,wt,e,ix,e0,o0,id,a,b,loc⟩:=x;simp only [PStm.kd] at hk;have w:=hx;obtain ⟨m0,a0,l0,k0,j0⟩:=hx;obtain ⟨i0,h0,g0,f0,l,b0,d0,c0,m⟩:=Yp a0;have hz:=h.z;have n0:F.cn.co=F.co:=rfl;unfold SS.others at ht|-;dsimp only at ht|-;split at ht
 . rename_i t;rw [if_pos t];split at ht
   . exact bD ht (by show ¬ (4:Int)=0;decide)
   rename_i q;rw [if_neg q];obtain ⟨j,f,g⟩:=Gq s.sy a n;exact h.sync (dG N) ((Iy h.y _ _).mono (dG N)) j f (by rw [g])
 rename_i t;rw [if_neg t];split at ht
 . rename_i t;rw [if_pos t];split at ht
   . exact bD ht (by show ¬ (4:Int)=0;decide)
   rename_i q;rw [if_neg q];obtain ⟨j,f,g⟩:=Hl s.sy a n;exact h.sync (dG N) ((Fx h.y _ _).mono (dG N)) j f (by rw [g])
 rename_i q;rw [if_neg q];split at ht
 . rename_i p;rw [if_pos p];split at ht
   . exact bD ht (by show ¬ (4:Int)=0;decide)
   rename_i o;rw [if_neg o];obtain ⟨j,f,g⟩:=Hl s.sy b n;have hu:=h.sync (aY N) (Fx h.y b n) j f (by rw [g]);have c:=l (.inl p);exact SS.okx.waits hu hs ⟨c.1,by rw [show ({ s with sy:=(Yy s.sy b n).1 } :SS).sy=(Yy s.sy b n).1 from rfl,f];omega⟩ w p (by show (s.th n).left.length+1<=_;omega)
 rename_i p;rw [if_neg p];split at ht
 . rename_i o;rw [if_pos o];have c:=l (by omega);have d:a.toNat<s.sy.conds.length:=by omega
   by_cases h10:k=10
   . have hw:=(u.wakes hs d rfl).1;simp only [if_pos h10,cG];have ha:(Kk s.sy a).1= { s.sy with conds:=s.sy.conds.set a.toNat [] } :=by unfold Kk;rw [if_pos ⟨c.1,by omega⟩]
     rw [ha];exact hw
   simp only [if_neg h10];rw [Fh ⟨c.1,by omega⟩]
   cases hc:s.sy.conds.getD a.toNat [] with
   |nil=>
    have:s.sy.conds.set a.toNat []=s.sy.conds:=by
     have hg:s.sy.conds.getD a.toNat []=s.sy.conds[a.toNat]:=by simp [List.getD,d]
     rw [<-hc,hg];exact dQ d
    simp only [List.drop_nil,List.take_nil,this];exact u
   |cons i r=>
    have:=(u.wake1 hs d hc).1;simp only [List.drop_succ_cons,gS,cC,show min 1 (r.length+1)=1 by omega,kT,iK];exact this
 rename_i o;rw [if_neg o];split at ht
 . rename_i h5;rw [if_pos h5];have hr:=h.sync (dG N) ((S5 h.y a).mono (dG N)) (by rw [C1]) (Fl _ _) (Xx _ _);exact (hr.into (recv_val h.y a.toNat)).1
 rename_i h5;rw [if_neg h5];split at ht
 . rename_i v;rw [if_pos v];split at ht
   . exact bD ht (by show ¬ (5:Int)=0;decide)
   rename_i h7;rw [if_neg h7];exact u.spawn hM hs (m v) (by omega)
 rename_i v;rw [if_neg v];exact u
theorem SS.fine.pop (h:s.fine F N)(hn:n<s.ths.length)(hst:(s.th n).st=1\/(s.th n).st=3):(s.put n { s.th n with st:=1,left:=(s.th n).left.drop 1 }).okx F N n:=by
 have j: ∀ i,i<s.ths.length->(s.th i).ok0 F N s.ths.length/\(s.th i).ok1:=fun i a=>by
  rw [Kx a];exact (h.ok.h _ (aA a)).parts (h.q _ (aA a))
 have b:=(j n hn).1;have f:=Qf (t:= { s.th n with st:=1,left:=(s.th n).left.drop 1 }) hn;refine ⟨h.ok.c,h.ok.v,h.ok.y,h.ok.z,by simp only [eE];exact h.ok.t,by simp only [eE];exact hn,fun i a=> ?_,fun i a k=> ?_,by rw [f,if_pos rfl];exact .inl rfl,fun l hl t x=> ?_,h.u⟩
 . simp only [eE] at a|-;rw [f];split
   . exact ⟨b.d,⟨show (1:Int)<=1 by decide,show (1:Int)<=4 by decide⟩,b.l,b.v,Wa.2 fun y r=>Wa.1 b.g y (gP r),by have:=b.n;simp only [bN];omega,b.p⟩
   exact (j i a).1
 . simp only [eE] at a;rw [f,if_neg k];exact (j i a).2
 obtain ⟨o,m⟩:=h.ok.w l hl t x;simp only [eE];rw [f];refine ⟨o,?_⟩;split
 . rename_i e;rw [e] at m;omega
 exact m
theorem Zk9 (h:s.can p n=true): ¬ ((s.th n).st=2\/(s.th n).st=4):=by
 unfold SS.can at h;dsimp only at h;split at h
 . cases h
 omega
structure SS.ready (F:Fnd) (N n:Nat) (s:SS) (x:PStm):Prop where
 st:(s.th n).st=1\/(s.th n).st=3
 l:(s.th n).left=x::(s.th n).left.drop 1
 e:x=(s.th n).next
 g:x.good F.cn (s.th n).loc.length
 b:((s.th n).left.drop 1).length+1<=600*(N+1)
 w:(s.th n).st=3->x.kd=8
theorem SS.fine.ready (h:s.fine F N)(hn:n<s.ths.length)(hc:s.can p n=true):s.ready F N n (s.th n).next:=by
 have k:=h.ok.h _ (aA hn);rw [<-Kx hn] at k;have l:=Zk9 hc;have j:=k.s;have b:(s.th n).st=1\/(s.th n).st=3:=by omega
 have c:(s.th n).left≠ []:=fun e=>by have:=k.e.1 e;omega
 have d:(s.th n).left=(s.th n).next::(s.th n).left.drop 1:=by
  unfold PTr.next
  cases hq:(s.th n).left with
  |nil=>exact bD hq c
  |cons a r=>rfl
 refine ⟨b,d,rfl,?_,?_,fun e=>k.w (.inr e)⟩
 . have f:=k.g;rw [d] at f;exact f.1
 have i:=k.n;rw [d,cC] at i;exact i
theorem G2 {st:Int}(h:(s.th n).st=st)(l:List PStm):s.put n { s.th n with left:=l } =s.put n { s.th n with st:=st,left:=l } :=by rw [<-h]
theorem Dl (h:s.fine F N)(hM:MayP F)(hn:n<s.ths.length)(hc:s.can F.pr n=true)(ht:(s.did F.pr n).2.2=0):(s.did F.pr n).1.okx F (N+1) n:=by
 have R:=h.ready hn hc;have d:=h.pop hn R.st;unfold SS.did at ht|-;dsimp only at ht|-;split at ht
 . rename_i f;rw [if_pos f];obtain ⟨o,m,l⟩:=Gq s.sy (s.th n).next.oth n;exact d.sync (dG N) ((Iy h.ok.y _ _).mono (dG N)) o m (by rw [l];rfl)
 rename_i f;rw [if_neg f];have p:(s.th n).st=1:=by have:=R.st;omega
 rw [G2 p] at ht|-;obtain ⟨X,e⟩:=lA ({ s.th n with st:=1,left:=(s.th n).left.drop 1 } :PTr);rw [<-e] at d ht|-;have a:(s.put n X).th n=X:=Lw hn;have k:((s.put n X).th n).st=1:=by rw [a,e]
 have j:(s.th n).next.good F.cn ((s.put n X).th n).loc.length:=by rw [a,e];exact R.g
 have i:((s.put n X).th n).left.length+1<=600*(N+1):=by rw [a,e];exact R.b
 split at ht
 . rename_i c;rw [if_pos c];exact Zqh d hM k j i c ht
 rename_i c;rw [if_neg c];exact Ll d hM k j i c ht
def SS.ended (s:SS)(n:Nat)(ev:PEv):SS×PEv:=
 if (s.th n).left= [] then (s.put n { s.th n with st:=4 }, { ev with syn:=ev.syn++ [(8,0,0)] }) else (s,ev)
theorem SS.okx.ended (h:s.okx F N n):(s.ended n ev).1.fine F N:=by
 have mk: ∀ s:SS,(s.cells.length:Int)=F.vars.length+Yl F.arrs->(∀ x∈s.cells,val x)->s.sy.ok N->((s.sy.owners.length:Int)=F.mu/\(s.sy.conds.length:Int)=F.co/\s.sy.chans.map Ch.room=F.chs)->(1<=s.ths.length/\s.ths.length<=8)->
  (∀ i,i<s.ths.length->(s.th i).ok0 F N s.ths.length/\(s.th i).ok1)->(∀ l∈s.sy.conds,∀ t∈l,t.toNat<s.ths.length/\(s.th t.toNat).st=2)->s.sy.conds.flatten.Nodup->s.fine F N:=fun s a b c d e f g u=>by
  have f2: ∀ t∈s.ths,t.ok0 F N s.ths.length/\t.ok1:=fun t q=>by
   obtain ⟨i,j,rfl⟩:=List.getElem_of_mem q;rw [<-Kx j];exact f i j
  exact ⟨⟨a,b,c,d,e,fun t q=>ThOk.of (f2 t q).1 (f2 t q).2 e.2,g⟩,u,fun t q=>(f2 t q).1.p.1⟩
 have a0:=h.nn;unfold SS.ended;split
 . rename_i he;have hs:(s.th n).st=1:=by rcases h.m with r|r;exact r;exact bD he r.2.2
   have ha:=Qf (t:= { s.th n with st:=4 }) a0;have k0:=h.h n a0;refine mk _ h.c h.v h.y h.z (by simp only [eE];exact h.t) (fun i j=> ?_) (fun l hl t q=> ?_) h.u
   . simp only [eE] at j|-;rw [ha];split
     . exact ⟨⟨k0.d,⟨show (1:Int)<=4 by decide,show (4:Int)<=4 by decide⟩,k0.l,k0.v,k0.g,k0.n,k0.p⟩,⟨fun _=>rfl,fun _=>he⟩,fun e=>by rcases e with e|e<;>exact bD e (by first|(show ¬ (4:Int)=2;decide)|(show ¬ (4:Int)=3;decide))⟩
     rename_i b0;exact ⟨h.h i j,h.o i j b0⟩
   obtain ⟨k1,k2⟩:=h.w l hl t q;simp only [eE];rw [ha];refine ⟨k1,?_⟩;split
   . rename_i e;rw [e] at k2;omega
   exact k2
 rename_i he;refine mk _ h.c h.v h.y h.z h.t (fun i j=>⟨h.h i j,?_⟩) h.w h.u;by_cases e:i=n
 . subst e;refine ⟨⟨fun k=>bD k he,fun k=> ?_⟩,fun k=> ?_⟩
   . have k':(s.th i).st=4:=k;rcases h.m with r|r<;>omega
   have k':(s.th i).st=2\/(s.th i).st=3:=k;rcases h.m with r|r
   . omega
   exact r.2.1
 exact h.o i j e
theorem Up :s.step p n=if (s.did p n).2.2≠0 then ({ s with out:=⟨4,(s.did p n).2.2,n,(s.th n).next.idn⟩ }, { zEv n (s.th n).next.idn with trap:=(s.did p n).2.2,acc:=(s.did p n).2.1.acc }) else ((((s.did p n).1.ended n (s.did p n).2.1).1).stands p,((s.did p n).1.ended n (s.did p n).2.1).2):=by
 unfold SS.step SS.ended;dsimp only;split
 . rfl
 split<;>rfl
theorem SS.fine.out {F:Fnd}{N:Nat}{s:SS}(h:s.fine F N)(o:POut):({ s with out:=o } :SS).fine F N:=⟨⟨h.ok.c,h.ok.v,h.ok.y,h.ok.z,h.ok.t,h.ok.h,h.ok.w⟩,h.u,h.q⟩
theorem SS.fine.mono (h:s.fine F N)(l:N<=N'):s.fine F N':=
 ⟨⟨h.ok.c,h.ok.v,h.ok.y.mono l,h.ok.z,h.ok.t,fun t a=>let k:=h.ok.h t a;⟨k.d,k.s,k.l,k.v,k.g,by have:=k.n;omega,k.e,k.w,k.p⟩,h.ok.w⟩,h.u,h.q⟩
theorem SS.fine.stands (h:s.fine F N):(s.stands p).fine F N:=by
 unfold SS.stands;dsimp only;split<;>exact h.out _
theorem SS.fine.step (h:s.fine F N)(hM:MayP F)(hn:n<s.ths.length)(hc:s.can F.pr n=true):(s.step F.pr n).1.fine F (N+1):=by
 rw [Up];split
 . exact (h.mono (dG N)).out _
 rename_i a;exact (Dl h hM hn hc (gK.1 a)).ended.stands
structure DT where
 decl:Int
 st:Int
 loc:Sv Int
 lft:Sv Stm
 sp:Sv Int
def dtC (x:DT):List Value:= [I64 x.decl,I64 x.st,x.loc.v,x.lft.v,x.sp.v]
theorem Wq (x:DT):(dtC x).length=5:=rfl
theorem E9 (x:DT):(dtC x).all (·.oneCell')=true:=rfl
def DT.er (x:DT):PTr:=⟨x.decl,x.st,x.loc.l,Zk x.lft.l,x.sp.l⟩
structure DT.At (M:Hp) (x:DT):Prop where
 loc:x.loc.At M iC
 lft:BlkAt M x.lft.a x.lft.c x.lft.l
 sp:x.sp.At M iC
theorem DT.At.mono {x:DT}(e:Hle M M')(h:x.At M):x.At M':=⟨h.loc.mono e,h.lft.mono e,h.sp.mono e⟩
structure DC where
 g:FC
 cells:Sv Int
 own:Sv Int
 waits:Sv (Sv Int)
 chans:Sv (Sv Int)
 taken:Sv Int
 ths:Sv DT
 out:POut
variable {D:DC}
def svC {α:Type}(x:Sv α):List Value:= [x.v]
def Y3 (D:DC):List Value:=pgC D.g++ [D.cells.v,D.own.v,D.waits.v,D.chans.v,D.taken.v,D.ths.v,I64 D.out.kind,I64 D.out.trap,I64 D.out.th,I64 D.out.stmt]
theorem Gh (D:DC):(Y3 D).length=23:=rfl
theorem Ud {α:Type}(l:List (Sv α)):l.flatMap svC=l.map Sv.v:=by induction l with
 |nil=>rfl
 |cons x r ih=>rw [cP,ih];rfl
structure DC.At (M:Hp) (D:DC):Prop where
 g:D.g.At M
 cells:D.cells.At M iC
 own:D.own.At M iC
 waits:D.waits.At M svC
 chans:D.chans.At M svC
 taken:D.taken.At M iC
 ths:D.ths.At M dtC
 w: ∀ x∈D.waits.l,x.At M iC
 h: ∀ x∈D.chans.l,x.At M iC
 t: ∀ t∈D.ths.l,t.At M
theorem DC.At.mono (e:Hle M M')(h:D.At M):D.At M':=⟨h.g.mono e,h.cells.mono e,h.own.mono e,h.waits.mono e,h.chans.mono e,h.taken.mono e,h.ths.mono e,fun x hx=>(h.w x hx).mono e,fun x hx=>(h.h x hx).mono e,fun x hx=>(h.t x hx).mono e⟩
abbrev cM:=@DC.At.mono
def docM (D:DC):HP:=lst (fun M=>D.At M) fun e h=>cM e h
theorem Kn.docM {D:DC}{q:List HP}:Kn (docM D::q) fun M=>D.At M:=fR
abbrev fK:=@Kn.docM
structure DC.Is (D:DC) (s:SS):Prop where
 cells:D.cells.l=s.cells
 own:D.own.l=s.sy.owners
 waits:D.waits.l.map Sv.l=s.sy.conds
 chans:D.chans.l.map Sv.l=s.sy.chans.map Ch.items
 taken:D.taken.l=s.sy.chans.map fun c=>(c.taken:Int)
 ths:D.ths.l.map DT.er=s.ths
 out:D.out=s.out
theorem Hu:(prog.info? 142).map (fun i=>(i.zero,i.size,i.bytes))=some (some (.agg #[I64 0,I64 0,.slice none 0 0,.slice none 0 0,.slice none 0 0]),5,88):=by kernel_rfl
theorem R0:(prog.info? 23).map (fun i=>(i.zero,i.size,i.bytes))=some (some (.slice none 0 0),1,24):=by kernel_rfl
theorem Gp:(prog.info? 22).map (fun i=>(i.zero,i.size,i.bytes))=some (some (.slice none 0 0),1,24):=by kernel_rfl
theorem Jk:(prog.info? 2).map (fun i=>(i.zero,i.size,i.bytes))=some (some (I64 0),1,8):=by kernel_rfl
theorem W3:(prog.info? 3).map (fun i=>(i.zero,i.size,i.bytes))=some (some (I64 0),1,8):=by kernel_rfl
theorem Vy {t:DT}(hK:Kn q fun M=>D.At M)(hn:n<D.ths.l.length)(hb:D.ths.l.length<=1000000):CallF prog G 62 [.agg (Y3 D).toArray,I64 n,.agg (dtC t).toArray] (q) (Ret fun v q'=> ∃ a' c',v= .agg (Y3 { D with ths:=⟨D.ths.l.set n t,a',c'⟩ }).toArray/\q'=svM dtC ⟨D.ths.l.set n t,a',c'⟩::q):=by
 refine aC func62 ntmps62 rfl fun F s=> ?_;have j:=bV (hK.imp fun M h=>h.ths);have i:=hK.imp fun M h=>h.ths
 refine xo 2 ?_;refine Z0 fun r=> ?_
 refine Z0 fun p=> ?_
 refine bE zeroValue70 fun o=> ?_
 refine rn [4,0] ?_;refine aM 9 (.slice D.ths.a D.ths.l.length D.ths.c) rfl (rfl) ?_;refine dW (Zm dtC 5 142 _) ?_;refine bI (Zu (f:=dtC) (l:= []) (m:=D.ths.l) underlying68 Hu rfl rfl Wq rfl rfl Zj (j.le leA) E9 (by simp only [aL];omega) (by simp only [aL];omega)) ?_;rintro _ _ ⟨e,b,rfl,rfl⟩;rw [aN];refine oo 4 ?_;refine Gt (l:=D.ths.l) (by omega) fun k d=> ?_;refine rf [2,0,3011,1] d ?_;refine dK (Cb (a:=none) (fl:=dtC) (l:=D.ths.l) (u:=t) (n:=n) (g:=k) (c:=b) (et:=142) rfl rfl sizeOf142 Wq rfl hn (E9 _) (by rw [<-d];exact Zj)) ?_;rintro _ _ ⟨rfl,rfl⟩;refine rn [5,0,3,0,0,1] ?_;rw [<-d];refine Mc (f:=dtC) (l:=D.ths.l.set n t) (c:=b) ?_;refine Zq (svM dtC ⟨D.ths.l.set n t,e,b⟩::q) func62 (rA_ results62) ⟨_,rfl,e,b,by unfold Y3 Sv.v;simp only [bG];rfl,rfl⟩
abbrev BA (v0:DC)(v1:Int)(v2:Int):=([.agg (Y3 v0).toArray,I64 v1,I64 v2]:List Value)
theorem Pz  (hK:Kn q fun M=>D.At M)(hn:n<D.cells.l.length)(hb:D.cells.l.length<=1000000):CallF prog G 102 (BA D n u) (q) (Ret fun v q'=> ∃ a' c',v= .agg (Y3 { D with cells:=⟨D.cells.l.set n u,a',c'⟩ }).toArray/\q'=svM iC ⟨D.cells.l.set n u,a',c'⟩::q):=by
 refine aC func102 ntmps102 rfl fun F p=> ?_;have i:=bV (hK.imp fun M h=>h.cells);have g:=hK.imp fun M h=>h.cells
 refine xo 2 ?_;refine Z0 fun k=> ?_
 refine bE zeroValue70 fun j=> ?_
 refine rn [4,0] ?_;refine aM 9 (.slice D.cells.a D.cells.l.length D.cells.c) rfl (rfl) ?_;refine dW (Zr I64 2 _) ?_;refine bI (Z6 (f:=I64) (l:= []) (m:=D.cells.l) underlying23 Jk rfl rfl rfl Zj ((by rw [<-Z5];exact i:Sees q D.cells.a (D.cells.l.map I64)).le leA) (fun _=>rfl) (by simp only [aL];omega) (by simp only [aL];omega)) ?_;rintro _ _ ⟨e,d,rfl,rfl⟩;rw [aN];refine oo 4 ?_;refine Kv (l:=D.cells.l) (by omega) fun o b=> ?_;refine rf [3,3011,1] b ?_;refine dK (Jx (f:=I64) (l:=D.cells.l) (n:=n) (u:=u) rfl rfl sizeOf2 rfl hn rfl rfl (by rw [<-b];exact Zj)) ?_;rintro _ _ ⟨rfl,rfl⟩;refine rn [5,0,3,0,0,1] ?_;rw [<-b];refine W6 (f':=iC) (fe:=I64) (l:=D.cells.l.set n u) (c:=d) Z5 ?_;refine Zq (svM iC ⟨D.cells.l.set n u,e,d⟩::q) func102 (rA_ results102) ⟨_,rfl,e,d,by unfold Y3 Sv.v;simp only [bG];rfl,rfl⟩
theorem Na  (hK:Kn q fun M=>D.At M)(hn:n<D.own.l.length)(hb:D.own.l.length<=1000000):CallF prog G 64 (BA D n u) (q) (Ret fun v q'=> ∃ a' c',v= .agg (Y3 { D with own:=⟨D.own.l.set n u,a',c'⟩ }).toArray/\q'=svM iC ⟨D.own.l.set n u,a',c'⟩::q):=by
 refine aC func64 ntmps64 rfl fun F p=> ?_;have i:=bV (hK.imp fun M h=>h.own);have g:=hK.imp fun M h=>h.own
 refine xo 2 ?_;refine Z0 fun k=> ?_
 refine bE zeroValue70 fun j=> ?_
 refine rn [4,0] ?_;refine aM 9 (.slice D.own.a D.own.l.length D.own.c) rfl (rfl) ?_;refine dW (Zr I64 3 _) ?_;refine bI (Z6 (f:=I64) (l:= []) (m:=D.own.l) underlying22 W3 rfl rfl rfl Zj ((by rw [<-Z5];exact i:Sees q D.own.a (D.own.l.map I64)).le leA) (fun _=>rfl) (by simp only [aL];omega) (by simp only [aL];omega)) ?_;rintro _ _ ⟨e,d,rfl,rfl⟩;rw [aN];refine oo 4 ?_;refine Kv (l:=D.own.l) (by omega) fun o b=> ?_;refine rf [3,3011,1] b ?_;refine dK (Jx (f:=I64) (l:=D.own.l) (n:=n) (u:=u) rfl rfl sizeOf3 rfl hn rfl rfl (by rw [<-b];exact Zj)) ?_;rintro _ _ ⟨rfl,rfl⟩;refine rn [5,0,3,0,0,1] ?_;rw [<-b];refine W6 (f':=iC) (fe:=I64) (l:=D.own.l.set n u) (c:=d) Z5 ?_;refine Zq (svM iC ⟨D.own.l.set n u,e,d⟩::q) func64 (rA_ results64) ⟨_,rfl,e,d,by unfold Y3 Sv.v;simp only [bG];rfl,rfl⟩
theorem Dd {x:Sv Int}(hK:Kn q fun M=>D.At M)(hn:n<D.waits.l.length)(hb:D.waits.l.length<=1000000):CallF prog G 104 [.agg (Y3 D).toArray,I64 n,x.v] (q) (Ret fun v q'=> ∃ a' c',v= .agg (Y3 { D with waits:=⟨D.waits.l.set n x,a',c'⟩ }).toArray/\q'=svM svC ⟨D.waits.l.set n x,a',c'⟩::q):=by
 refine aC func104 ntmps104 rfl fun F p=> ?_;have i:=bV (hK.imp fun M h=>h.waits);have g:=hK.imp fun M h=>h.waits
 refine xo 2 ?_;refine Z0 fun k=> ?_
 refine bE zeroValue70 fun j=> ?_
 refine rn [4,0] ?_;refine aM 9 (.slice D.waits.a D.waits.l.length D.waits.c) rfl (rfl) ?_;refine dW (Zr (Sv.v (α:=Int)) 22 _) ?_;refine bI (Z6 (f:=(Sv.v (α:=Int))) (l:= []) (m:=D.waits.l) underlying66 Gp rfl rfl rfl Zj ((by rw [<-Ud];exact i:Sees q D.waits.a (D.waits.l.map (Sv.v (α:=Int)))).le leA) (fun _=>rfl) (by simp only [aL];omega) (by simp only [aL];omega)) ?_;rintro _ _ ⟨e,d,rfl,rfl⟩;rw [aN];refine oo 4 ?_;refine Kv (l:=D.waits.l) (by omega) fun o b=> ?_;refine rf [3,3011,1] b ?_;refine dK (Jx (f:=(Sv.v (α:=Int))) (l:=D.waits.l) (n:=n) (u:=x) rfl rfl sizeOf22 rfl hn rfl rfl (by rw [<-b];exact Zj)) ?_;rintro _ _ ⟨rfl,rfl⟩;refine rn [5,0,3,0,0,1] ?_;rw [<-b];refine W6 (f':=svC) (fe:=(Sv.v (α:=Int))) (l:=D.waits.l.set n x) (c:=d) Ud ?_;refine Zq (svM svC ⟨D.waits.l.set n x,e,d⟩::q) func104 (rA_ results104) ⟨_,rfl,e,d,by unfold Y3 Sv.v;simp only [bG];rfl,rfl⟩
theorem Pv {x:Sv Int}(hK:Kn q fun M=>D.At M)(hn:n<D.chans.l.length)(hb:D.chans.l.length<=1000000):CallF prog G 103 [.agg (Y3 D).toArray,I64 n,x.v] (q) (Ret fun v q'=> ∃ a' c',v= .agg (Y3 { D with chans:=⟨D.chans.l.set n x,a',c'⟩ }).toArray/\q'=svM svC ⟨D.chans.l.set n x,a',c'⟩::q):=by
 refine aC func103 ntmps103 rfl fun F p=> ?_;have i:=bV (hK.imp fun M h=>h.chans);have g:=hK.imp fun M h=>h.chans
 refine xo 2 ?_;refine Z0 fun k=> ?_
 refine bE zeroValue70 fun j=> ?_
 refine rn [4,0] ?_;refine aM 9 (.slice D.chans.a D.chans.l.length D.chans.c) rfl (rfl) ?_;refine dW (Zr (Sv.v (α:=Int)) 23 _) ?_;refine bI (Z6 (f:=(Sv.v (α:=Int))) (l:= []) (m:=D.chans.l) underlying67 R0 rfl rfl rfl Zj ((by rw [<-Ud];exact i:Sees q D.chans.a (D.chans.l.map (Sv.v (α:=Int)))).le leA) (fun _=>rfl) (by simp only [aL];omega) (by simp only [aL];omega)) ?_;rintro _ _ ⟨e,d,rfl,rfl⟩;rw [aN];refine oo 4 ?_;refine Kv (l:=D.chans.l) (by omega) fun o b=> ?_;refine rf [3,3011,1] b ?_;refine dK (Jx (f:=(Sv.v (α:=Int))) (l:=D.chans.l) (n:=n) (u:=x) rfl rfl sizeOf23 rfl hn rfl rfl (by rw [<-b];exact Zj)) ?_;rintro _ _ ⟨rfl,rfl⟩;refine rn [5,0,3,0,0,1] ?_;rw [<-b];refine W6 (f':=svC) (fe:=(Sv.v (α:=Int))) (l:=D.chans.l.set n x) (c:=d) Ud ?_;refine Zq (svM svC ⟨D.chans.l.set n x,e,d⟩::q) func103 (rA_ results103) ⟨_,rfl,e,d,by unfold Y3 Sv.v;simp only [bG];rfl,rfl⟩
abbrev Bg (v0:DC)(v1:Int):=([.agg (Y3 v0).toArray,I64 v1]:List Value)
theorem Ie (hK:Kn q fun M=>D.At M)(hn:n<D.ths.l.length)(hb:D.ths.l.length<=1000000):CallF prog G 105 (Bg D n) (q) (Ret fun v q'=> ∃ a' c',v= .agg (Y3 { D with ths:=⟨D.ths.l.set n { D.ths.l[n] with st:=3 },a',c'⟩ }).toArray/\q'=svM dtC ⟨D.ths.l.set n { D.ths.l[n] with st:=3 },a',c'⟩::q):=by
 refine aC func105 ntmps105 rfl fun F o=> ?_;have b:=bV (hK.imp fun M h=>h.ths);have a:=Zv Wq D.ths.l;refine Zs (b.le leA) (by rw [a];omega) fun i g c=> ?_;rw [c] at b;have f:CellsAt q i (g+(n:Int).toNat*5) (dtC D.ths.l[n]):=eV b (aD _) Wq hn rfl;refine xo 2 ?_;refine Z0 fun m=> ?_
 refine bE zeroValue70 fun k=> ?_
 refine rf [4,0,1,3007,1] c ?_;refine Qi (us:=dtC D.ths.l[n]) isAgg142 sizeOf142 rfl (f.le leA) ?_;refine bE zeroValue142 fun j=> ?_
 refine rn [0,4,0,3,0,1,0] ?_;refine Zx call62 (aD _) (Vy (D:=D) (t:= { D.ths.l[n] with st:=3 }) (hK.le leA) hn hb) ?_;rintro _ _ ⟨e,d,rfl,rfl⟩;refine rn [0,1] ?_;refine Zq (svM dtC ⟨D.ths.l.set n { D.ths.l[n] with st:=3 },e,d⟩::q) func105 (rA_ results105) ⟨_,rfl,e,d,rfl,rfl⟩
theorem V3:CallF prog G 63 [I64 k,I64 u,I64 z] (q) (Ret fun v q'=>v= .agg (snC (k,u,z)).toArray/\q'=q):=by
 refine aC func63 ntmps63 rfl fun F b=> ?_;refine xo 2 ?_;refine bE zeroValue50 fun a=> ?_
 refine rn [7,0,1] ?_;refine Zq (q) func63 (rA_ results63) ⟨_,rfl,rfl,rfl⟩
abbrev Ay (v0:DC):=((.cells (Y3 v0).toArray 70 (0,0)):Obj)
theorem I2 (hK:Kn q fun M=>D.At M)(hM:MayP D.g.er)(hn:n<D.g.arrs.l.length)(hu:val u):CallF prog G 101 (BA D n u) (q) (Ret fun v q'=>v= I64 (D.g.er.pr.cell n u)/\q'=q):=by
 refine aC func101 ntmps101 rfl fun F cs=> ?_;have x:=bV (hK.imp fun M h=>h.g.arrs);rw [Z5] at x;have e0:D.g.arrs.l.length<=64:=hM.l.2.1;have a0:D.g.vars.l.length<=64:=hM.l.1;have o:=hu;unfold val at o;have j: ∀ n∈D.g.arrs.l,1<=n/\n<=256:=hM.a;have c0:Yl D.g.arrs.l<=256:=hM.s;have d0:=j _ (aA hn);have p:=J1 j hn;rw [Yg hn] at p;obtain ⟨R,d⟩:=lA (D.g.er.pr.cell n u);rw [<-d];unfold PPr.cell at d;rw [show ((n:Int)).toNat=n from rfl,show D.g.er.pr.arrs=D.g.arrs.l from rfl,show D.g.er.pr.vars=D.g.vars.l from rfl,Yg hn] at d;refine Zs (x.le leA) (by simp;omega) fun ab ao e_=> ?_;have b:=x;rw [e_] at b;by_cases hneg:u<0
 . refine xo 2 ?_;refine Z0 fun m=> ?_
   refine oo 8 ?_;refine kA 11 ?_ rfl (aR hneg);have c:R= -1:=(by rw [d,if_neg (by omega)]);refine ox 15 ?_;refine Zq (q) func101 (Zh results101 rfl) ⟨_,rfl,by rw [c],rfl⟩
 refine xo 2 ?_;refine Z0 fun m=> ?_
 refine oo 8 ?_;refine Q4 11 ?_ rfl (aO hneg);refine rg [3,0,1,3015,1,0,3] e_ b ?_;refine xp 20 ?_ ?_<;>intro z
 . have c:R= -1:=(by rw [d,if_neg (by first|omega|(simp at z;omega))]);refine xx 5 ?_;refine Zq (q) func101 (Zh results101 rfl) ⟨_,rfl,by rw [c],rfl⟩
 have w:R=(D.g.vars.l.length:Int)+Yl (D.g.arrs.l.take n)+u:=(by rw [d,if_pos (by first|omega|(simp at z;omega))]);have b0:0<=u/\u<D.g.arrs.l[n]:=(by first|omega|(simp at z;omega));refine rn [6,0,9] ?_;refine aZ (cD (fun (s:Nat)=>s<=n) (fun s=> [(1,I64 n),(2,I64 u),(3,pt m),(7,I64 (D.g.vars.l.length+Yl (D.g.arrs.l.take s))),(8,I64 s)]) (fun s=>pto m (Ay D)::(q++F)) (fun s=>n - s) (fun s i ih=> ?_) 0 (bC _)) Zg leA;try dsimp only at i ih|-
 obtain hi:=i;refine xx 7 ?_;refine xp 27 ?_ ?_<;>intro h0
 . have f:s<D.g.arrs.l.length:=(by omega);have hx:=j _ (aA f);have r:Yl (D.g.arrs.l.take (s+1))=Yl (D.g.arrs.l.take s)+D.g.arrs.l[s]:=by rw [aI f,Me];simp [Yl]
   have e:=V0 (l:=D.g.arrs.l.take s) (k:=256) (fun y hy=>by have:=j y (eZ hy);omega) (by decide);rw [bM] at e;have t:((min s D.g.arrs.l.length:Nat):Int)=s:=(by omega);rw [t] at e;refine rg [8,0,1,3033,1,0,9] e_ b ?_;rw [show (D.g.vars.l.length:Int)+Yl (D.g.arrs.l.take s)+D.g.arrs.l[s]=D.g.vars.l.length+Yl (D.g.arrs.l.take (s+1)) by rw [r];omega];refine aZ (ih (s+1) (by omega) (by omega)) Zg leA
 obtain rfl:s=n:=(by omega);refine xx 9 ?_;refine Zq (q) func101 (Zh results101 rfl) ⟨_,rfl,by rw [w],rfl⟩
theorem Rm {d:Nat}(h:d<=24):2 ^ d<=16777216:=cL (Nat.pow_le_pow_right (by decide) h) (by decide)
theorem Wm:(prog.info? 140).map (fun i=>(i.zero,i.size,i.bytes))=some (some (.agg #[I64 0,.bool false,I64 0]),3,24):=by kernel_rfl
section
variable {loc:Sv Int}
abbrev Ah :=((.cells zz5.toArray 208 (0,0)):Obj)
theorem Gm: ∀ (N:Nat) {e:Ex} {d:Int} {q:List HP},e.sz<=N->d<=24->e.er.ask D.g.er.cn loc.l.length d=true->(Kn q fun M=>D.At M)->(Kn q fun M=>e.At M)->(Kn q fun M=>loc.At M iC)->MayP D.g.er->(D.cells.l.length:Int)=D.g.vars.l.length+Yl D.g.arrs.l->(∀ x∈D.cells.l,val x)->(∀ x∈loc.l,val x)->CallF prog G 99 [.agg (Y3 D).toArray,.agg (exC e).toArray,loc.v] (q) (Ret fun v q'=> ∃ a' c',v= .agg [I64 ((e.er).made D.g.er.pr D.cells.l loc.l).1,I64 ((e.er).made D.g.er.pr D.cells.l loc.l).2.1,.slice a' ((e.er).made D.g.er.pr D.cells.l loc.l).2.2.length c'].toArray/\q'=rsH acC 3 140 a' c' ((e.er).made D.g.er.pr D.cells.l loc.l).2.2::q):=fun N=>by
 induction N with
 |zero=>intro e d q hs;exact bD hs (by cases e;simp only [Ex.sz];omega)
 |succ N IH=> 
 intro e d q hs hd ha hK hE hL hM m1 t0 r0;obtain ⟨ek,en,t2,s2,i2,i1,el,ea,ec⟩:=e;refine aC func99 ntmps99 rfl fun F cs=> ?_;have hA:Kn q fun M=>SlAt M ea ec el.length (el.flatMap exC)/\Ex.Ats M el:=hE.imp fun M h=>h;have hS:=eL (hA.imp fun M h=>h.1.2.2);have c1:=Zv Z2 el
 have e1:=bV (hK.imp fun M h=>h.cells);rw [Z5] at e1;have t1:=bV hL;rw [Z5] at t1;simp only [Ex.er] at ha;obtain ⟨e3,_,g1,hk,k1,k2,k3,k4,k6⟩:=Dt ha;rw [Vf] at k1 k2 k3 k4 k6;rw [Yt] at g1;obtain ⟨M,c⟩:=lA ((Ex.er (Ex.mk ek en t2 s2 i2 i1 el ea ec)).made D.g.er.pr D.cells.l loc.l);rw [<-c];simp only [Ex.er,PEx.made] at c;have s1:ek=1\/ek=2\/ek=3\/ek=4\/ek=5\/(ek=6/\i1=1)\/(ek=6/\i1=2)\/(ek=6/\3<=i1):=(by have:=k6;omega);rcases s1 with rfl|rfl|rfl|rfl|rfl|⟨rfl,rfl⟩|⟨rfl,rfl⟩|⟨rfl,d3⟩
 . rw [if_pos rfl] at c;refine xo 2 ?_;refine Z0 fun n1=> ?_
   refine Z0 fun n2=> ?_
   refine bE zeroValue208 fun n3=> ?_
   refine rn [5,0,7,2017,4,0,1,0,1] ?_;repeat (first|rw [if_pos (by omega)] at c|rw [if_neg (by omega)] at c)
   refine bK (Zm acC 3 140 _) ?_;rw [c];refine Zq (rsH acC 3 140 none 0 ([])::q) func99 (rA_ results99) ⟨_,rfl,none,0,rfl,rfl⟩
 . rw [if_neg (by decide),if_pos rfl] at c;have z0:=(k2 rfl).1;unfold inV at z0;by_cases l1:i2=true
   . subst l1;rw [if_pos rfl] at c z0;obtain ⟨Sn,rfl⟩:=aE z0.1;have d2:Sn<loc.l.length:=(by omega);rw [show ((Sn:Int)).toNat=Sn from rfl,Yg d2] at c;refine Zs (t1.le leA) (by rw [aG];omega) fun lb y2 j2=> ?_;have o1:=t1;rw [j2] at o1;refine xo 2 ?_;refine Z0 fun n4=> ?_
     refine Z0 fun n5=> ?_
     refine bE zeroValue208 fun n6=> ?_
     refine rg [5,0,7,1017,6,2022,5,0,1,2025,5,0,3026,1,0,1,0,1] j2 o1 ?_;repeat (first|rw [if_pos (by omega)] at c|rw [if_neg (by omega)] at c)
     refine bK (Zm acC 3 140 _) ?_;rw [c];refine Zq (rsH acC 3 140 none 0 ([])::q) func99 (rA_ results99) ⟨_,rfl,none,0,rfl,rfl⟩
   have l1:=Bool.eq_false_iff.2 l1;subst l1;rw [if_neg (by decide)] at c z0;obtain ⟨k0,rfl⟩:=aE z0.1;have a1:k0<D.cells.l.length:=(by have:=V0 (l:=D.g.arrs.l) (k:=256) (fun y hy=>by have:=hM.a y hy;omega) (by decide);have:=z0.2;rw [Nw] at this;omega);rw [show ((k0:Int)).toNat=k0 from rfl,Yg a1] at c;refine Zs (e1.le leA) (by rw [aG];omega) fun cb co j1=> ?_;have l0:=e1;rw [j1] at l0;refine xo 2 ?_;refine Z0 fun n7=> ?_
   refine Z0 fun n8=> ?_
   refine bE zeroValue208 fun n9=> ?_
   refine rg [5,0,7,1017,6,2022,5,0,1,1025,3,0,1,2,3,4,3033,5,6,7,8,9,10,11,12,3041,13,14,15] j1 l0 ?_;skip;refine dA 15 rfl (Zl (u:=(((k0:Int),false,D.cells.l[k0]):Ac)) acC underlying44 Wm rfl rfl W5 rfl) ?_;rintro _ _ ⟨g8,rfl,rfl⟩;refine ⟨(hlF (cH l0 a1)),?_⟩;refine rn [17,18,0] ?_;repeat (first|rw [if_pos (by omega)] at c|rw [if_neg (by omega)] at c)
   rw [c];refine Zq (rsH acC 3 140 (some ⟨g8,0,none⟩) 1 ([(((k0:Int),false,D.cells.l[k0]):Ac)])::q) func99 (rA_ results99) ⟨_,rfl,(some ⟨g8,0,none⟩),1,rfl,rfl⟩
 . have e2:el.length=1:=(by first|(have:=(k3 rfl).2;omega)|(have:=k4 (.inl rfl);omega)|(have:=k4 (.inr rfl);omega));have s0:el.length=1:=(by omega);obtain ⟨x0,rfl⟩: ∃ x,el= [x]:=(by match el,s0 with| [x],_=>exact ⟨x,rfl⟩);obtain ⟨fk,fn,s,o,t,r,fl,fa,fc⟩:=x0;refine Zs (hS.le leA) (by rw [c1];simp) fun ab ao e_=> ?_;subst e_;have u0:Kn q fun M=>Ex.At M (Ex.mk fk fn s o t r fl fa fc):=hA.imp fun M h=>Yr.1 h.2 _ (by simp)
   have n0:(Ex.er (Ex.mk fk fn s o t r fl fa fc)).ask D.g.er.cn loc.l.length (d - 1)=true:=g1 _ (aX (by simp));have b1:Ex.sz (Ex.mk fk fn s o t r fl fa fc)<=N:=by have:=Wu (l:= [(Ex.mk fk fn s o t r fl fa fc)]) (show (Ex.mk fk fn s o t r fl fa fc)∈ [(Ex.mk fk fn s o t r fl fa fc)] by simp);simp only [Ex.sz] at hs this|-;omega
   obtain ⟨A0,o0⟩:=lA ((Ex.er (Ex.mk fk fn s o t r fl fa fc)).made D.g.er.pr D.cells.l loc.l);have d1:(Yc D.g.er.pr D.cells.l loc.l (Z9 [(Ex.mk fk fn s o t r fl fa fc)])).getD 0 (0,0, [])=A0:=by rw [o0];rfl
   have f1: ∀ {q':List HP},Le q' q->CallF prog G 99 [.agg (Y3 D).toArray,.agg (exC (Ex.mk fk fn s o t r fl fa fc)).toArray,loc.v] q' (Ret fun v v0=> ∃ a' c',v= .agg [I64 A0.1,I64 A0.2.1,.slice a' A0.2.2.length c'].toArray/\v0=rsH acC 3 140 a' c' A0.2.2::q'):=fun {q'} l=>by
    have h:=IH (q:=q') (e:=(Ex.mk fk fn s o t r fl fa fc)) (d:=d - 1) b1 (by omega) n0 (bU hK l) (bU u0 l) (bU hL l) hM m1 t0 r0;rw [<-o0] at h;exact h
   have m0:0<([(Ex.mk fk fn s o t r fl fa fc)]:List Ex).length:=(by simp);have b: ∀ (Q:List HP),Le Q q-> ∀ (j:Nat) (v:Value),(exC (Ex.mk fk fn s o t r fl fa fc))[j]? =some v->Cl Q ⟨ab,ao+(0:Int).toNat*7+j,none⟩ v:=fun Q hQ j v hk=>cF (j:=0) (n:=0) (sz:=7) hS hQ Z2 m0 rfl j v hk;have a0: ∀ (Q:List HP) (i:Nat),Le Q q->HL Q (rdA i ab (ao+(0:Int).toNat*7) (exC (Ex.mk fk fn s o t r fl fa fc))):=fun Q i hQ=>HL.rdA fun j v hk=>b Q hQ j v hk
   have b0:=Yj (p:=D.g.er.pr) t0 r0 n0;rw [<-o0] at b0;have b2: -2147483648<=A0.1/\A0.1<=2147483647:=b0.1;have p1:A0.2.2.length<=16777216:=cL b0.2 (Rm (by omega));rw [if_neg (by decide),if_neg (by decide),d1] at c;refine xo 2 ?_;refine Z0 fun x2=> ?_
   refine Z0 fun w2=> ?_
   refine bE zeroValue208 fun v2=> ?_
   refine rn [5,0,7,1017,6,1022,4,0,1,2,3] ?_;refine bW 51 (.slice (some ⟨ab,ao,none⟩) 1 ec) rfl (rfl) ?_;refine dd [3] ?_;refine T3 4 (m:=0) isAgg124 sizeOf124 hS m0 ?_ (hf:=Z2);refine dd [5] ?_;refine Z7 (fl:= [⟨7,7,fun g=> pt g,fun g=>pto g Ah⟩]) ?_;refine Ji 6 ⟨⟨_,rfl,rfl,rfl,rfl,rfl,rfl,fun q=>bA zeroValue208⟩,trivial⟩ call99 (aD _) (f1 leA) ?_ (hL:=(hlG a0 b));rintro _ _ ⟨f0,d0,rfl,rfl⟩;refine ⟨(hlG a0 b),?_⟩;refine Yn (e0:=⟨7,7,fun g=> pt g,fun g=>pto g Ah⟩) (hnd:=by simp) 7 ⟨⟨_,rfl,rfl,rfl,rfl,rfl,rfl,fun q=>bA zeroValue208⟩,trivial⟩ (fun q0=> ?_) (hL:=(hlG a0 b));change XF _ _ _ _ _ _ _ [] _ _ _ ((7,.pointer (some ⟨q0,0,none⟩))::_) _ _ (pto q0 Ah::_);refine dO ?_ (hL:=(hlG a0 b));refine rn [9,0,4,0,2] ?_;refine xp 58 ?_ ?_<;>intro h1
   . refine rn [3,0,0,1] ?_;repeat (first|rw [if_pos (by omega)] at c|rw [if_neg (by omega)] at c)
     rw [c];refine Zq (rsH acC 3 140 f0 d0 (A0.2.2)::q) func99 (rA_ results99) ⟨_,rfl,f0,d0,rfl,rfl⟩
   refine rn [6,0,7,2062,3,0,1,0,1,0] ?_;have q1:=(k3 rfl).1;obtain ⟨An,r2⟩:=aE q1.1;subst r2;have g2:An<D.g.arrs.l.length:=(by have:=q1.2;rw [N9] at this;omega);refine aU call101 (I2 (D:=D) (n:=An) (u:=A0.1) (hK.le leA) hM g2 b0.1) ?_;obtain ⟨CC,v1⟩:=lA (D.g.er.pr.cell An A0.1);rw [<-v1];rw [<-v1] at c;by_cases hneg:CC<0
   . refine ox 8 ?_;refine gI 71 ?_ rfl (aR hneg);refine rn [4,0,1,0,1] ?_;repeat (first|rw [if_pos (by omega)] at c|rw [if_neg (by omega)] at c)
     rw [c];refine Zq (rsH acC 3 140 f0 d0 (A0.2.2)::q) func99 (rA_ results99) ⟨_,rfl,f0,d0,rfl,rfl⟩
   obtain ⟨k0,rfl⟩:=aE (show 0<=CC by omega);have a1:k0<D.cells.l.length:=by
    have hx:=v1;unfold PPr.cell at hx;rw [show D.g.er.pr.arrs=D.g.arrs.l from rfl,show D.g.er.pr.vars=D.g.vars.l from rfl,show ((An:Int)).toNat=An from rfl] at hx;have b3:=J1 (l:=D.g.arrs.l) hM.a g2;split at hx<;>omega
   refine Kw (e1.le leA) (by rw [aG];omega) fun cb co j1=> ?_;have l0:=e1;rw [j1] at l0;refine ox 8 ?_;refine Ux 71 ?_ rfl (aO hneg);refine rg [3,0,1,2,3,3076,4,5,6,7,8,9,10,11,3084,12,13,14] j1 l0 ?_;skip;refine dA 14 rfl (Zl (u:=(((k0:Int),false,D.cells.l[k0]):Ac)) acC underlying44 Wm rfl rfl W5 rfl) ?_;rintro _ _ ⟨g8,rfl,rfl⟩;refine ⟨(hlH (cH l0 a1) a0 b),?_⟩;refine dA 15 rfl (Zu (f:=acC) (l:=A0.2.2) (m:= [(((k0:Int),false,D.cells.l[k0]):Ac)]) underlying44 Wm rfl rfl W5 rfl rfl Zj ((aV _).le leA) Qq (by simp only [aJ];omega) (by simp only [aJ];omega)) ?_;rintro _ _ ⟨a4,c4,rfl,rfl⟩;refine ⟨(hlH (cH l0 a1) a0 b),?_⟩;refine rn [17,18,0] ?_;repeat (first|rw [if_pos (by omega)] at c|rw [if_neg (by omega)] at c)
   try rw [show ((k0:Int)).toNat=k0 from rfl,Yg a1] at c
   rw [c];refine Zq (rsH acC 3 140 a4 c4 (A0.2.2++ [(((k0:Int),false,D.cells.l[k0]):Ac)])::q) func99 (rA_ results99) ⟨_,rfl,a4,c4,rfl,rfl⟩
 iterate 2
  focus
   have e2:el.length=1:=(by first|(have:=(k3 rfl).2;omega)|(have:=k4 (.inl rfl);omega)|(have:=k4 (.inr rfl);omega));have s0:el.length=1:=(by omega);obtain ⟨x0,rfl⟩: ∃ x,el= [x]:=(by match el,s0 with| [x],_=>exact ⟨x,rfl⟩);obtain ⟨fk,fn,s,o,t,r,fl,fa,fc⟩:=x0;refine Zs (hS.le leA) (by rw [c1];simp) fun ab ao e_=> ?_;subst e_;have u0:Kn q fun M=>Ex.At M (Ex.mk fk fn s o t r fl fa fc):=hA.imp fun M h=>Yr.1 h.2 _ (by simp)
   have n0:(Ex.er (Ex.mk fk fn s o t r fl fa fc)).ask D.g.er.cn loc.l.length (d - 1)=true:=g1 _ (aX (by simp));have b1:Ex.sz (Ex.mk fk fn s o t r fl fa fc)<=N:=by have:=Wu (l:= [(Ex.mk fk fn s o t r fl fa fc)]) (show (Ex.mk fk fn s o t r fl fa fc)∈ [(Ex.mk fk fn s o t r fl fa fc)] by simp);simp only [Ex.sz] at hs this|-;omega
   obtain ⟨A0,o0⟩:=lA ((Ex.er (Ex.mk fk fn s o t r fl fa fc)).made D.g.er.pr D.cells.l loc.l);have d1:(Yc D.g.er.pr D.cells.l loc.l (Z9 [(Ex.mk fk fn s o t r fl fa fc)])).getD 0 (0,0, [])=A0:=by rw [o0];rfl
   have f1: ∀ {q':List HP},Le q' q->CallF prog G 99 [.agg (Y3 D).toArray,.agg (exC (Ex.mk fk fn s o t r fl fa fc)).toArray,loc.v] q' (Ret fun v v0=> ∃ a' c',v= .agg [I64 A0.1,I64 A0.2.1,.slice a' A0.2.2.length c'].toArray/\v0=rsH acC 3 140 a' c' A0.2.2::q'):=fun {q'} l=>by
    have h:=IH (q:=q') (e:=(Ex.mk fk fn s o t r fl fa fc)) (d:=d - 1) b1 (by omega) n0 (bU hK l) (bU u0 l) (bU hL l) hM m1 t0 r0;rw [<-o0] at h;exact h
   have m0:0<([(Ex.mk fk fn s o t r fl fa fc)]:List Ex).length:=(by simp);have b: ∀ (Q:List HP),Le Q q-> ∀ (j:Nat) (v:Value),(exC (Ex.mk fk fn s o t r fl fa fc))[j]? =some v->Cl Q ⟨ab,ao+(0:Int).toNat*7+j,none⟩ v:=fun Q hQ j v hk=>cF (j:=0) (n:=0) (sz:=7) hS hQ Z2 m0 rfl j v hk;have a0: ∀ (Q:List HP) (i:Nat),Le Q q->HL Q (rdA i ab (ao+(0:Int).toNat*7) (exC (Ex.mk fk fn s o t r fl fa fc))):=fun Q i hQ=>HL.rdA fun j v hk=>b Q hQ j v hk
   have b0:=Yj (p:=D.g.er.pr) t0 r0 n0;rw [<-o0] at b0;have b2: -2147483648<=A0.1/\A0.1<=2147483647:=b0.1;have p1:A0.2.2.length<=16777216:=cL b0.2 (Rm (by omega));rw [if_neg (by decide),if_neg (by decide),d1] at c;refine xo 2 ?_;refine Z0 fun o2=> ?_
   refine Z0 fun m2=> ?_
   refine bE zeroValue208 fun l2=> ?_
   refine rn [5,0,7,1017,6,1022,4,0,1,2,3] ?_;refine bW 51 (.slice (some ⟨ab,ao,none⟩) 1 ec) rfl (rfl) ?_;refine dd [3] ?_;refine T3 4 (m:=0) isAgg124 sizeOf124 hS m0 ?_ (hf:=Z2);refine dd [5] ?_;refine Z7 (fl:= [⟨7,7,fun g=> pt g,fun g=>pto g Ah⟩]) ?_;refine Ji 6 ⟨⟨_,rfl,rfl,rfl,rfl,rfl,rfl,fun q=>bA zeroValue208⟩,trivial⟩ call99 (aD _) (f1 leA) ?_ (hL:=(hlG a0 b));rintro _ _ ⟨f0,d0,rfl,rfl⟩;refine ⟨(hlG a0 b),?_⟩;refine Yn (e0:=⟨7,7,fun g=> pt g,fun g=>pto g Ah⟩) (hnd:=by simp) 7 ⟨⟨_,rfl,rfl,rfl,rfl,rfl,rfl,fun q=>bA zeroValue208⟩,trivial⟩ (fun q0=> ?_) (hL:=(hlG a0 b));change XF _ _ _ _ _ _ _ [] _ _ _ ((7,.pointer (some ⟨q0,0,none⟩))::_) _ _ (pto q0 Ah::_);refine dO ?_ (hL:=(hlG a0 b));refine rn [9,0,4,0,2] ?_
  rotate_left
 iterate 3
  focus
   have e2:=(k6 rfl).2;have s0:el.length=2:=(by omega);obtain ⟨x0,x1,rfl⟩: ∃ x y,el= [x,y]:=(by match el,s0 with| [x,y],_=>exact ⟨x,y,rfl⟩);obtain ⟨fk,fn,s,o,t,r,fl,fa,fc⟩:=x0;obtain ⟨gk,gn,i0,g0,j0,h0,gl,ga,gc⟩:=x1;refine Zs (hS.le leA) (by rw [c1];simp) fun ab ao e_=> ?_;subst e_;have u0:Kn q fun M=>Ex.At M (Ex.mk fk fn s o t r fl fa fc):=hA.imp fun M h=>Yr.1 h.2 _ (by simp)
   have n0:(Ex.er (Ex.mk fk fn s o t r fl fa fc)).ask D.g.er.cn loc.l.length (d - 1)=true:=g1 _ (aX (by simp));have b1:Ex.sz (Ex.mk fk fn s o t r fl fa fc)<=N:=by have:=Wu (l:= [(Ex.mk fk fn s o t r fl fa fc),(Ex.mk gk gn i0 g0 j0 h0 gl ga gc)]) (show (Ex.mk fk fn s o t r fl fa fc)∈ [(Ex.mk fk fn s o t r fl fa fc),(Ex.mk gk gn i0 g0 j0 h0 gl ga gc)] by simp);simp only [Ex.sz] at hs this|-;omega
   obtain ⟨A0,o0⟩:=lA ((Ex.er (Ex.mk fk fn s o t r fl fa fc)).made D.g.er.pr D.cells.l loc.l);have d1:(Yc D.g.er.pr D.cells.l loc.l (Z9 [(Ex.mk fk fn s o t r fl fa fc),(Ex.mk gk gn i0 g0 j0 h0 gl ga gc)])).getD 0 (0,0, [])=A0:=by rw [o0];rfl
   have f1: ∀ {q':List HP},Le q' q->CallF prog G 99 [.agg (Y3 D).toArray,.agg (exC (Ex.mk fk fn s o t r fl fa fc)).toArray,loc.v] q' (Ret fun v v0=> ∃ a' c',v= .agg [I64 A0.1,I64 A0.2.1,.slice a' A0.2.2.length c'].toArray/\v0=rsH acC 3 140 a' c' A0.2.2::q'):=fun {q'} l=>by
    have h:=IH (q:=q') (e:=(Ex.mk fk fn s o t r fl fa fc)) (d:=d - 1) b1 (by omega) n0 (bU hK l) (bU u0 l) (bU hL l) hM m1 t0 r0;rw [<-o0] at h;exact h
   have m0:0<([(Ex.mk fk fn s o t r fl fa fc),(Ex.mk gk gn i0 g0 j0 h0 gl ga gc)]:List Ex).length:=(by simp);have b: ∀ (Q:List HP),Le Q q-> ∀ (j:Nat) (v:Value),(exC (Ex.mk fk fn s o t r fl fa fc))[j]? =some v->Cl Q ⟨ab,ao+(0:Int).toNat*7+j,none⟩ v:=fun Q hQ j v hk=>cF (j:=0) (n:=0) (sz:=7) hS hQ Z2 m0 rfl j v hk;have a0: ∀ (Q:List HP) (i:Nat),Le Q q->HL Q (rdA i ab (ao+(0:Int).toNat*7) (exC (Ex.mk fk fn s o t r fl fa fc))):=fun Q i hQ=>HL.rdA fun j v hk=>b Q hQ j v hk
   have b0:=Yj (p:=D.g.er.pr) t0 r0 n0;rw [<-o0] at b0;have b2: -2147483648<=A0.1/\A0.1<=2147483647:=b0.1;have p1:A0.2.2.length<=16777216:=cL b0.2 (Rm (by omega));have f2:Kn q fun M=>Ex.At M (Ex.mk gk gn i0 g0 j0 h0 gl ga gc):=hA.imp fun M h=>Yr.1 h.2 _ (by simp)
   have r1:(Ex.er (Ex.mk gk gn i0 g0 j0 h0 gl ga gc)).ask D.g.er.cn loc.l.length (d - 1)=true:=g1 _ (aX (by simp));have p2:Ex.sz (Ex.mk gk gn i0 g0 j0 h0 gl ga gc)<=N:=by have:=Wu (l:= [(Ex.mk fk fn s o t r fl fa fc),(Ex.mk gk gn i0 g0 j0 h0 gl ga gc)]) (show (Ex.mk gk gn i0 g0 j0 h0 gl ga gc)∈ [(Ex.mk fk fn s o t r fl fa fc),(Ex.mk gk gn i0 g0 j0 h0 gl ga gc)] by simp);simp only [Ex.sz] at hs this|-;omega
   obtain ⟨A1,w1⟩:=lA ((Ex.er (Ex.mk gk gn i0 g0 j0 h0 gl ga gc)).made D.g.er.pr D.cells.l loc.l);have q2:(Yc D.g.er.pr D.cells.l loc.l (Z9 [(Ex.mk fk fn s o t r fl fa fc),(Ex.mk gk gn i0 g0 j0 h0 gl ga gc)])).getD 1 (0,0, [])=A1:=by rw [w1];rfl
   have u1: ∀ {q':List HP},Le q' q->CallF prog G 99 [.agg (Y3 D).toArray,.agg (exC (Ex.mk gk gn i0 g0 j0 h0 gl ga gc)).toArray,loc.v] q' (Ret fun v v0=> ∃ a' c',v= .agg [I64 A1.1,I64 A1.2.1,.slice a' A1.2.2.length c'].toArray/\v0=rsH acC 3 140 a' c' A1.2.2::q'):=fun {q'} l=>by
    have h:=IH (q:=q') (e:=(Ex.mk gk gn i0 g0 j0 h0 gl ga gc)) (d:=d - 1) p2 (by omega) r1 (bU hK l) (bU f2 l) (bU hL l) hM m1 t0 r0;rw [<-w1] at h;exact h
   have y0:1<([(Ex.mk fk fn s o t r fl fa fc),(Ex.mk gk gn i0 g0 j0 h0 gl ga gc)]:List Ex).length:=(by simp);have w: ∀ (Q:List HP),Le Q q-> ∀ (j:Nat) (v:Value),(exC (Ex.mk gk gn i0 g0 j0 h0 gl ga gc))[j]? =some v->Cl Q ⟨ab,ao+(1:Int).toNat*7+j,none⟩ v:=fun Q hQ j v hk=>cF (j:=1) (n:=1) (sz:=7) hS hQ Z2 y0 rfl j v hk;have c0: ∀ (Q:List HP) (i:Nat),Le Q q->HL Q (rdA i ab (ao+(1:Int).toNat*7) (exC (Ex.mk gk gn i0 g0 j0 h0 gl ga gc))):=fun Q i hQ=>HL.rdA fun j v hk=>w Q hQ j v hk
   have w0:=Yj (p:=D.g.er.pr) t0 r0 r1;rw [<-w1] at w0;have z2: -2147483648<=A1.1/\A1.1<=2147483647:=w0.1;have u2:A1.2.2.length<=16777216:=cL w0.2 (Rm (by omega));rw [if_neg (by decide),if_neg (by decide),d1,q2] at c;refine xo 2 ?_;refine Z0 fun o2=> ?_
   refine Z0 fun m2=> ?_
   refine bE zeroValue208 fun l2=> ?_
   refine rn [5,0,7,1017,6,1022,4,0,1,2,3] ?_;refine bW 51 (.slice (some ⟨ab,ao,none⟩) 2 ec) rfl (rfl) ?_;refine dd [3] ?_;refine T3 4 (m:=0) isAgg124 sizeOf124 hS m0 ?_ (hf:=Z2);refine dd [5] ?_;refine Z7 (fl:= [⟨7,7,fun g=> pt g,fun g=>pto g Ah⟩]) ?_;refine Ji 6 ⟨⟨_,rfl,rfl,rfl,rfl,rfl,rfl,fun q=>bA zeroValue208⟩,trivial⟩ call99 (aD _) (f1 leA) ?_ (hL:=(hlA (h:=by repeat first|exact trivial|refine ⟨clA,?_⟩|refine dC (a0 _ _ leA) ?_|refine ⟨b _ leA 0 _ rfl,?_⟩|refine ⟨b _ leA _ _ rfl,?_⟩|refine dC (c0 _ _ leA) ?_|refine ⟨w _ leA 0 _ rfl,?_⟩|refine ⟨w _ leA _ _ rfl,?_⟩)));rintro _ _ ⟨f0,d0,rfl,rfl⟩;refine ⟨(hlA (h:=by repeat first|exact trivial|refine ⟨clA,?_⟩|refine dC (a0 _ _ leA) ?_|refine ⟨b _ leA 0 _ rfl,?_⟩|refine ⟨b _ leA _ _ rfl,?_⟩|refine dC (c0 _ _ leA) ?_|refine ⟨w _ leA 0 _ rfl,?_⟩|refine ⟨w _ leA _ _ rfl,?_⟩)),?_⟩;refine Yn (e0:=⟨7,7,fun g=> pt g,fun g=>pto g Ah⟩) (hnd:=by simp) 7 ⟨⟨_,rfl,rfl,rfl,rfl,rfl,rfl,fun q=>bA zeroValue208⟩,trivial⟩ (fun q0=> ?_) (hL:=(hlA (h:=by repeat first|exact trivial|refine ⟨clA,?_⟩|refine dC (a0 _ _ leA) ?_|refine ⟨b _ leA 0 _ rfl,?_⟩|refine ⟨b _ leA _ _ rfl,?_⟩|refine dC (c0 _ _ leA) ?_|refine ⟨w _ leA 0 _ rfl,?_⟩|refine ⟨w _ leA _ _ rfl,?_⟩)));change XF _ _ _ _ _ _ _ [] _ _ _ ((7,.pointer (some ⟨q0,0,none⟩))::_) _ _ (pto q0 Ah::_);refine dO ?_ (hL:=(hlA (h:=by repeat first|exact trivial|refine ⟨clA,?_⟩|refine dC (a0 _ _ leA) ?_|refine ⟨b _ leA 0 _ rfl,?_⟩|refine ⟨b _ leA _ _ rfl,?_⟩|refine dC (c0 _ _ leA) ?_|refine ⟨w _ leA 0 _ rfl,?_⟩|refine ⟨w _ leA _ _ rfl,?_⟩)));refine rn [9,0,4,0,2] ?_
  rotate_left
 . refine xp 58 ?_ ?_<;>intro h1
   focus
    refine rn [3,0] ?_
   rotate_left
   focus
    refine rn [6,0,7,1062,6,2092,4,0] ?_;refine aU call143 (Sp (op:=8) (u:=0) (z:=A0.1) (by have:=k6;omega) (by decide) b0.1) ?_;refine rn [11,0,1] ?_
   all_goals
    refine rn [0,1] ?_;repeat (first|rw [if_pos (by omega)] at c|rw [if_neg (by omega)] at c)
    rw [c];refine Zq (rsH acC 3 140 f0 d0 (A0.2.2)::q) func99 (rA_ results99) ⟨_,rfl,f0,d0,rfl,rfl⟩
 . refine xp 58 ?_ ?_<;>intro h1
   focus
    refine rn [3,0,0,1] ?_
   rotate_left
   focus
    refine rn [6,0,7,1062,6,1092,6,2105,2,0,1,2,3,5,6] ?_;refine Yx 3 call144 (V8) ?_ (hL:=(hlG a0 b));refine rn [7,8,0] ?_
   all_goals
    repeat (first|rw [if_pos (by omega)] at c|rw [if_neg (by omega)] at c)
    rw [c];refine Zq (rsH acC 3 140 f0 d0 (A0.2.2)::q) func99 (rA_ results99) ⟨_,rfl,f0,d0,rfl,rfl⟩
 focus
  refine xp 58 ?_ ?_<;>intro h1
  . refine rn [3,0,0,1] ?_;repeat (first|rw [if_pos (by omega)] at c|rw [if_neg (by omega)] at c)
    rw [c];try rw [show A1.2.1=0 by omega]
    refine Zq (rsH acC 3 140 f0 d0 (A0.2.2)::q) func99 (rA_ results99) ⟨_,rfl,f0,d0,rfl,rfl⟩
  refine rn [6,0,7,1062,6,1092,6,1105,6,0,8,2118,1,0,3] ?_;refine XO.part 123 rfl ?_ ?_<;>intro h2
  . replace h2:=sp h2;refine rn [11,0,1,2,4,5] ?_;refine Yx 2 call144 (V8) ?_ (hL:=(hlA (h:=by repeat first|exact trivial|refine ⟨clA,?_⟩|refine dC (a0 _ _ leA) ?_|refine ⟨b _ leA 0 _ rfl,?_⟩|refine ⟨b _ leA _ _ rfl,?_⟩|refine dC (c0 _ _ leA) ?_|refine ⟨w _ leA 0 _ rfl,?_⟩|refine ⟨w _ leA _ _ rfl,?_⟩)));refine rn [6,7,0] ?_;repeat (first|rw [if_pos (by omega)] at c|rw [if_neg (by omega)] at c)
    rw [c];try rw [show A1.2.1=0 by omega]
    refine Zq (rsH acC 3 140 f0 d0 (A0.2.2)::q) func99 (rA_ results99) ⟨_,rfl,f0,d0,rfl,rfl⟩
  replace h2:=sp h2;refine rn [3,1126,9,0,1,2,3] ?_;refine bW 140 (.slice (some ⟨ab,ao,none⟩) 2 ec) rfl (rfl) ?_;refine dd [3] ?_;refine T3 4 (m:=1) isAgg124 sizeOf124 hS y0 ?_ (hf:=Z2);refine dd [5] ?_;refine Z7 (fl:= [⟨7,12,fun g=> pt g,fun g=>pto g Ah⟩]) ?_;refine Ji 6 ⟨⟨_,rfl,rfl,rfl,rfl,rfl,rfl,fun q=>bA zeroValue208⟩,trivial⟩ call99 (aD _) (u1 leA) ?_ (hL:=(hlA (h:=by repeat first|exact trivial|refine ⟨clA,?_⟩|refine dC (a0 _ _ leA) ?_|refine ⟨b _ leA 0 _ rfl,?_⟩|refine ⟨b _ leA _ _ rfl,?_⟩|refine dC (c0 _ _ leA) ?_|refine ⟨w _ leA 0 _ rfl,?_⟩|refine ⟨w _ leA _ _ rfl,?_⟩)));rintro _ _ ⟨z1,y1,rfl,rfl⟩;refine ⟨(hlA (h:=by repeat first|exact trivial|refine ⟨clA,?_⟩|refine dC (a0 _ _ leA) ?_|refine ⟨b _ leA 0 _ rfl,?_⟩|refine ⟨b _ leA _ _ rfl,?_⟩|refine dC (c0 _ _ leA) ?_|refine ⟨w _ leA 0 _ rfl,?_⟩|refine ⟨w _ leA _ _ rfl,?_⟩)),?_⟩;refine Yn (e0:=⟨7,12,fun g=> pt g,fun g=>pto g Ah⟩) (hnd:=by simp) 7 ⟨⟨_,rfl,rfl,rfl,rfl,rfl,rfl,fun q=>bA zeroValue208⟩,trivial⟩ (fun p0=> ?_) (hL:=(hlA (h:=by repeat first|exact trivial|refine ⟨clA,?_⟩|refine dC (a0 _ _ leA) ?_|refine ⟨b _ leA 0 _ rfl,?_⟩|refine ⟨b _ leA _ _ rfl,?_⟩|refine dC (c0 _ _ leA) ?_|refine ⟨w _ leA 0 _ rfl,?_⟩|refine ⟨w _ leA _ _ rfl,?_⟩)));change XF _ _ _ _ _ _ _ [] _ _ _ ((12,.pointer (some ⟨p0,0,none⟩))::_) _ _ (pto p0 Ah::_);refine dO ?_ (hL:=(hlA (h:=by repeat first|exact trivial|refine ⟨clA,?_⟩|refine dC (a0 _ _ leA) ?_|refine ⟨b _ leA 0 _ rfl,?_⟩|refine ⟨b _ leA _ _ rfl,?_⟩|refine dC (c0 _ _ leA) ?_|refine ⟨w _ leA 0 _ rfl,?_⟩|refine ⟨w _ leA _ _ rfl,?_⟩)));refine rn [9,0,1,0,1,2,4,5] ?_;refine fP (q':=rsH acC 3 140 none 0 ([])::_) (Zm _ _ _ _) ?_;refine dA 2 rfl (Zu (f:=acC) (l:= []) (m:=A0.2.2) underlying44 Wm rfl rfl W5 rfl rfl Zj ((aV _).le leA) Qq (by simp only [aL];omega) (by simp only [aL];omega)) ?_;rintro _ _ ⟨a2,c2,rfl,rfl⟩;refine ⟨(hlA (h:=by repeat first|exact trivial|refine ⟨clA,?_⟩|refine dC (a0 _ _ leA) ?_|refine ⟨b _ leA 0 _ rfl,?_⟩|refine ⟨b _ leA _ _ rfl,?_⟩|refine dC (c0 _ _ leA) ?_|refine ⟨w _ leA 0 _ rfl,?_⟩|refine ⟨w _ leA _ _ rfl,?_⟩)),?_⟩;rw [aN];refine dA 5 rfl (Zu (f:=acC) (l:=A0.2.2) (m:=A1.2.2) underlying44 Wm rfl rfl W5 rfl rfl Zj ((aV _).le leA) Qq (by omega) (by omega)) ?_;refine kk2 fun a3 c3=> ?_
  refine rn [7,8,0,4,0,2] ?_;refine xp 154 ?_ ?_<;>intro h3
  focus
   refine xo 3 ?_
  rotate_left
  focus
   refine rn [8,2157,4,0,1] ?_;refine aU call144 (V8) ?_;refine rn [1,0,3] ?_
 rotate_left 2
 focus
  refine xp 58 ?_ ?_<;>intro h1
  . refine rn [3,0,0,1] ?_;repeat (first|rw [if_pos (by omega)] at c|rw [if_neg (by omega)] at c)
    rw [c];try rw [show A1.2.1=0 by omega]
    refine Zq (rsH acC 3 140 f0 d0 (A0.2.2)::q) func99 (rA_ results99) ⟨_,rfl,f0,d0,rfl,rfl⟩
  refine rn [6,0,7,1062,6,1092,6,1105,6,0,8,1118,8,2126,1,0,4] ?_;refine xp 131 ?_ ?_<;>intro h2
  . refine rn [2,0,1,2,4,5] ?_;refine Yx 2 call144 (V8) ?_ (hL:=(hlA (h:=by repeat first|exact trivial|refine ⟨clA,?_⟩|refine dC (a0 _ _ leA) ?_|refine ⟨b _ leA 0 _ rfl,?_⟩|refine ⟨b _ leA _ _ rfl,?_⟩|refine dC (c0 _ _ leA) ?_|refine ⟨w _ leA 0 _ rfl,?_⟩|refine ⟨w _ leA _ _ rfl,?_⟩)));refine rn [6,7,0] ?_;repeat (first|rw [if_pos (by omega)] at c|rw [if_neg (by omega)] at c)
    rw [c];try rw [show A1.2.1=0 by omega]
    refine Zq (rsH acC 3 140 f0 d0 (A0.2.2)::q) func99 (rA_ results99) ⟨_,rfl,f0,d0,rfl,rfl⟩
  refine rn [3,0,1,2,3] ?_;refine bW 140 (.slice (some ⟨ab,ao,none⟩) 2 ec) rfl (rfl) ?_;refine dd [3] ?_;refine T3 4 (m:=1) isAgg124 sizeOf124 hS y0 ?_ (hf:=Z2);refine dd [5] ?_;refine Z7 (fl:= [⟨7,12,fun g=> pt g,fun g=>pto g Ah⟩]) ?_;refine Ji 6 ⟨⟨_,rfl,rfl,rfl,rfl,rfl,rfl,fun q=>bA zeroValue208⟩,trivial⟩ call99 (aD _) (u1 leA) ?_ (hL:=(hlA (h:=by repeat first|exact trivial|refine ⟨clA,?_⟩|refine dC (a0 _ _ leA) ?_|refine ⟨b _ leA 0 _ rfl,?_⟩|refine ⟨b _ leA _ _ rfl,?_⟩|refine dC (c0 _ _ leA) ?_|refine ⟨w _ leA 0 _ rfl,?_⟩|refine ⟨w _ leA _ _ rfl,?_⟩)));rintro _ _ ⟨z1,y1,rfl,rfl⟩;refine ⟨(hlA (h:=by repeat first|exact trivial|refine ⟨clA,?_⟩|refine dC (a0 _ _ leA) ?_|refine ⟨b _ leA 0 _ rfl,?_⟩|refine ⟨b _ leA _ _ rfl,?_⟩|refine dC (c0 _ _ leA) ?_|refine ⟨w _ leA 0 _ rfl,?_⟩|refine ⟨w _ leA _ _ rfl,?_⟩)),?_⟩;refine Yn (e0:=⟨7,12,fun g=> pt g,fun g=>pto g Ah⟩) (hnd:=by simp) 7 ⟨⟨_,rfl,rfl,rfl,rfl,rfl,rfl,fun q=>bA zeroValue208⟩,trivial⟩ (fun p0=> ?_) (hL:=(hlA (h:=by repeat first|exact trivial|refine ⟨clA,?_⟩|refine dC (a0 _ _ leA) ?_|refine ⟨b _ leA 0 _ rfl,?_⟩|refine ⟨b _ leA _ _ rfl,?_⟩|refine dC (c0 _ _ leA) ?_|refine ⟨w _ leA 0 _ rfl,?_⟩|refine ⟨w _ leA _ _ rfl,?_⟩)));change XF _ _ _ _ _ _ _ [] _ _ _ ((12,.pointer (some ⟨p0,0,none⟩))::_) _ _ (pto p0 Ah::_);refine dO ?_ (hL:=(hlA (h:=by repeat first|exact trivial|refine ⟨clA,?_⟩|refine dC (a0 _ _ leA) ?_|refine ⟨b _ leA 0 _ rfl,?_⟩|refine ⟨b _ leA _ _ rfl,?_⟩|refine dC (c0 _ _ leA) ?_|refine ⟨w _ leA 0 _ rfl,?_⟩|refine ⟨w _ leA _ _ rfl,?_⟩)));refine rn [9,0,1,0,1,2,4,5] ?_;refine fP (q':=rsH acC 3 140 none 0 ([])::_) (Zm _ _ _ _) ?_;refine dA 2 rfl (Zu (f:=acC) (l:= []) (m:=A0.2.2) underlying44 Wm rfl rfl W5 rfl rfl Zj ((aV _).le leA) Qq (by simp only [aL];omega) (by simp only [aL];omega)) ?_;rintro _ _ ⟨a2,c2,rfl,rfl⟩;refine ⟨(hlA (h:=by repeat first|exact trivial|refine ⟨clA,?_⟩|refine dC (a0 _ _ leA) ?_|refine ⟨b _ leA 0 _ rfl,?_⟩|refine ⟨b _ leA _ _ rfl,?_⟩|refine dC (c0 _ _ leA) ?_|refine ⟨w _ leA 0 _ rfl,?_⟩|refine ⟨w _ leA _ _ rfl,?_⟩)),?_⟩;rw [aN];refine dA 5 rfl (Zu (f:=acC) (l:=A0.2.2) (m:=A1.2.2) underlying44 Wm rfl rfl W5 rfl rfl Zj ((aV _).le leA) Qq (by omega) (by omega)) ?_;refine kk2 fun a3 c3=> ?_
  refine rn [7,8,0,4,0,2] ?_;refine xp 154 ?_ ?_<;>intro h3
  focus
   refine xo 3 ?_
  rotate_left
  focus
   refine rn [8,2157,4,0,1] ?_;refine aU call144 (V8) ?_;refine rn [1,0,3] ?_
 rotate_left 2
 . refine xp 58 ?_ ?_<;>intro h1
   . refine rn [3,0,0,1] ?_;repeat (first|rw [if_pos (by omega)] at c|rw [if_neg (by omega)] at c)
     rw [c];refine Zq (rsH acC 3 140 f0 d0 (A0.2.2)::q) func99 (rA_ results99) ⟨_,rfl,f0,d0,rfl,rfl⟩
   refine rn [6,0,7,1062,6,1092,6,1105,6,0,8,1118,8] ?_;refine aM 126 bF rfl (cB (aO (by omega))) ?_;refine rn [9,0,1,2,3] ?_;refine bW 140 (.slice (some ⟨ab,ao,none⟩) 2 ec) rfl (rfl) ?_;refine dd [3] ?_;refine T3 4 (m:=1) isAgg124 sizeOf124 hS y0 ?_ (hf:=Z2);refine dd [5] ?_;refine Z7 (fl:= [⟨7,12,fun g=> pt g,fun g=>pto g Ah⟩]) ?_;refine Ji 6 ⟨⟨_,rfl,rfl,rfl,rfl,rfl,rfl,fun q=>bA zeroValue208⟩,trivial⟩ call99 (aD _) (u1 leA) ?_ (hL:=(hlA (h:=by repeat first|exact trivial|refine ⟨clA,?_⟩|refine dC (a0 _ _ leA) ?_|refine ⟨b _ leA 0 _ rfl,?_⟩|refine ⟨b _ leA _ _ rfl,?_⟩|refine dC (c0 _ _ leA) ?_|refine ⟨w _ leA 0 _ rfl,?_⟩|refine ⟨w _ leA _ _ rfl,?_⟩)));rintro _ _ ⟨z1,y1,rfl,rfl⟩;refine ⟨(hlA (h:=by repeat first|exact trivial|refine ⟨clA,?_⟩|refine dC (a0 _ _ leA) ?_|refine ⟨b _ leA 0 _ rfl,?_⟩|refine ⟨b _ leA _ _ rfl,?_⟩|refine dC (c0 _ _ leA) ?_|refine ⟨w _ leA 0 _ rfl,?_⟩|refine ⟨w _ leA _ _ rfl,?_⟩)),?_⟩;refine Yn (e0:=⟨7,12,fun g=> pt g,fun g=>pto g Ah⟩) (hnd:=by simp) 7 ⟨⟨_,rfl,rfl,rfl,rfl,rfl,rfl,fun q=>bA zeroValue208⟩,trivial⟩ (fun p0=> ?_) (hL:=(hlA (h:=by repeat first|exact trivial|refine ⟨clA,?_⟩|refine dC (a0 _ _ leA) ?_|refine ⟨b _ leA 0 _ rfl,?_⟩|refine ⟨b _ leA _ _ rfl,?_⟩|refine dC (c0 _ _ leA) ?_|refine ⟨w _ leA 0 _ rfl,?_⟩|refine ⟨w _ leA _ _ rfl,?_⟩)));change XF _ _ _ _ _ _ _ [] _ _ _ ((12,.pointer (some ⟨p0,0,none⟩))::_) _ _ (pto p0 Ah::_);refine dO ?_ (hL:=(hlA (h:=by repeat first|exact trivial|refine ⟨clA,?_⟩|refine dC (a0 _ _ leA) ?_|refine ⟨b _ leA 0 _ rfl,?_⟩|refine ⟨b _ leA _ _ rfl,?_⟩|refine dC (c0 _ _ leA) ?_|refine ⟨w _ leA 0 _ rfl,?_⟩|refine ⟨w _ leA _ _ rfl,?_⟩)));refine rn [9,0,1,0,1,2,4,5] ?_;refine fP (q':=rsH acC 3 140 none 0 ([])::_) (Zm _ _ _ _) ?_;refine dA 2 rfl (Zu (f:=acC) (l:= []) (m:=A0.2.2) underlying44 Wm rfl rfl W5 rfl rfl Zj ((aV _).le leA) Qq (by simp only [aL];omega) (by simp only [aL];omega)) ?_;rintro _ _ ⟨a2,c2,rfl,rfl⟩;refine ⟨(hlA (h:=by repeat first|exact trivial|refine ⟨clA,?_⟩|refine dC (a0 _ _ leA) ?_|refine ⟨b _ leA 0 _ rfl,?_⟩|refine ⟨b _ leA _ _ rfl,?_⟩|refine dC (c0 _ _ leA) ?_|refine ⟨w _ leA 0 _ rfl,?_⟩|refine ⟨w _ leA _ _ rfl,?_⟩)),?_⟩;rw [aN];refine dA 5 rfl (Zu (f:=acC) (l:=A0.2.2) (m:=A1.2.2) underlying44 Wm rfl rfl W5 rfl rfl Zj ((aV _).le leA) Qq (by omega) (by omega)) ?_;refine kk2 fun a3 c3=> ?_
   refine rn [7,8,0,4,0,2] ?_;refine xp 154 ?_ ?_<;>intro h2
   focus
    refine rn [3,0] ?_
   rotate_left
   focus
    refine rn [8,1157,6,0,1,0] ?_;refine aU call143 (Sp (op:=i1) (u:=A0.1) (z:=A1.1) (by have:=k6;omega) b0.1 w0.1) ?_;refine rn [11,0,1] ?_
   all_goals
    refine rn [0,1] ?_;repeat (first|rw [if_pos (by omega)] at c|rw [if_neg (by omega)] at c)
    rw [c];refine Zq (rsH acC 3 140 a3 c3 (A0.2.2++A1.2.2)::q) func99 (rA_ results99) ⟨_,rfl,a3,c3,rfl,rfl⟩
 all_goals
  refine rn [0,0,1] ?_;repeat (first|rw [if_pos (by omega)] at c|rw [if_neg (by omega)] at c)
  rw [c];try rw [show A1.2.1=0 by omega]
  refine Zq (rsH acC 3 140 a3 c3 (A0.2.2++A1.2.2)::q) func99 (rA_ results99) ⟨_,rfl,a3,c3,rfl,rfl⟩
end
section
variable {a:Nat}{t:DT}{x:Sv Int}
theorem DC.At.thread (h:D.At M)(hT:t.At M)(hs:(⟨D.ths.l.set n t,aa,c⟩:Sv DT).At M dtC):({ D with ths:=⟨D.ths.l.set n t,aa,c⟩ } :DC).At M:=
 ⟨h.g,h.cells,h.own,h.waits,h.chans,h.taken,hs,h.w,h.h,fun y a=>by rcases bR a with a|rfl;exact h.t y a;exact hT⟩
theorem DC.At.cell (h:D.At M)(hs:(⟨D.cells.l.set n u,aa,c⟩:Sv Int).At M iC):({ D with cells:=⟨D.cells.l.set n u,aa,c⟩ } :DC).At M:=⟨h.g,hs,h.own,h.waits,h.chans,h.taken,h.ths,h.w,h.h,h.t⟩
theorem DC.At.own_ (h:D.At M)(hs:(⟨D.own.l.set n u,aa,c⟩:Sv Int).At M iC):({ D with own:=⟨D.own.l.set n u,aa,c⟩ } :DC).At M:=⟨h.g,h.cells,hs,h.waits,h.chans,h.taken,h.ths,h.w,h.h,h.t⟩
theorem DC.At.tak (h:D.At M)(hs:(⟨D.taken.l.set n u,aa,c⟩:Sv Int).At M iC):({ D with taken:=⟨D.taken.l.set n u,aa,c⟩ } :DC).At M:=⟨h.g,h.cells,h.own,h.waits,h.chans,hs,h.ths,h.w,h.h,h.t⟩
theorem DC.At.wait (h:D.At M)(hx:x.At M iC)(hs:(⟨D.waits.l.set n x,aa,c⟩:Sv (Sv Int)).At M svC):({ D with waits:=⟨D.waits.l.set n x,aa,c⟩ } :DC).At M:=
 ⟨h.g,h.cells,h.own,hs,h.chans,h.taken,h.ths,fun y a=>by rcases bR a with a|rfl;exact h.w y a;exact hx,h.h,h.t⟩
theorem DC.At.chan (h:D.At M)(hx:x.At M iC)(hs:(⟨D.chans.l.set n x,aa,c⟩:Sv (Sv Int)).At M svC):({ D with chans:=⟨D.chans.l.set n x,aa,c⟩ } :DC).At M:=
 ⟨h.g,h.cells,h.own,h.waits,hs,h.taken,h.ths,h.w,fun y a=>by rcases bR a with a|rfl;exact h.h y a;exact hx,h.t⟩
theorem DC.Is.len (h:D.Is s):D.ths.l.length=s.ths.length:=by rw [<-h.ths,aG]
theorem DC.Is.th (h:D.Is s)(hn:n<D.ths.l.length):s.th n=(D.ths.l[n]).er:=by
 have a:n<s.ths.length:=by rw [<-h.len];exact hn
 rw [Kx a];simp only [<-h.ths,eY]
theorem DC.Is.put (h:D.Is s):({ D with ths:=⟨D.ths.l.set n t,aa,c⟩ } :DC).Is (s.put n t.er):=
 ⟨h.cells,h.own,h.waits,h.chans,h.taken,by show (D.ths.l.set n t).map DT.er=s.ths.set n t.er;rw [dZ,h.ths],h.out⟩
theorem DC.Is.cell (h:D.Is s):({ D with cells:=⟨D.cells.l.set n u,aa,c⟩ } :DC).Is { s with cells:=s.cells.set n u } :=⟨by show D.cells.l.set n u=_;rw [h.cells],h.own,h.waits,h.chans,h.taken,h.ths,h.out⟩
theorem DC.Is.own_ (h:D.Is s):({ D with own:=⟨D.own.l.set n u,aa,c⟩ } :DC).Is { s with sy:= { s.sy with owners:=s.sy.owners.set n u } } :=⟨h.cells,by show D.own.l.set n u=_;rw [h.own],h.waits,h.chans,h.taken,h.ths,h.out⟩
theorem DC.Is.wait (h:D.Is s):({ D with waits:=⟨D.waits.l.set n x,aa,c⟩ } :DC).Is { s with sy:= { s.sy with conds:=s.sy.conds.set n x.l } } :=⟨h.cells,h.own,by show (D.waits.l.set n x).map Sv.l=s.sy.conds.set n x.l;rw [dZ,h.waits],h.chans,h.taken,h.ths,h.out⟩
end
theorem Y8:(prog.info? 50).map (fun i=>(i.zero,i.size,i.bytes))=some (some (.agg #[I64 0,I64 0,I64 0]),3,24):=by kernel_rfl
section
variable {x:EvC}{m:Nat}
theorem I1 (hK:Kn q fun M=>D.At M)(hI:D.Is s)(hn:n<D.ths.l.length)(hb:D.ths.l.length<=1000000/\D.cells.l.length<=1000000/\(D.ths.l[n]).loc.l.length<=1000000)(hm:if bb=true then m<(D.ths.l[n]).loc.l.length else m<D.cells.l.length)(hl:x.e.acc.length<=100000000):CallF prog G 100 [.agg (Y3 D).toArray,I64 n,I64 m,.bool bb,I64 u,.agg (evC x).toArray] (evL x++q) (Ret fun v q'=> ∃ (D':DC) (x':EvC),v= .tuple [.agg (Y3 D').toArray,.agg (evC x').toArray].toArray/\q'=docM D'::(evL x'++q)/\D'.Is (s.into n m bb u).1/\D'.g=D.g/\x'.e=x.e.ac (s.into n m bb u).2):=by
 refine aC func100 ntmps100 rfl fun F cs=> ?_;change X _ _ _ _ _ _ _ _ (rsH acC 3 140 x.aa x.ac x.e.acc::rsH snC 3 50 x.na x.nc x.e.syn::(q++F));obtain ⟨a0,z,y⟩:=hb;obtain ⟨R,i⟩:=lA (s.into n m bb u);rw [<-i];unfold SS.into at i;rw [hI.th hn,show ((m:Int)).toNat=m from rfl] at i;have hS:=bV (hK.imp fun M h=>h.ths);have p:=Zv Wq D.ths.l;obtain ⟨T,hT⟩:=lA D.ths.l[n];rw [<-hT] at hm y i;refine Zs (hS.le leA) (by rw [p];omega) fun ab ao e_=> ?_;rw [e_] at hS;have hC:CellsAt q ab (ao+(n:Int).toNat*5) (dtC T):=by rw [hT];exact eV hS (aD _) Wq hn rfl
 have r:Kn q fun M=>T.At M:=hK.imp fun M h=>h.t T (hT ▸ aA hn);have w:=bV (r.imp fun M h=>h.loc);rw [Z5] at w
 refine xo 2 ?_;refine Z0 fun n1=> ?_
 refine Z0 fun n2=> ?_
 refine bE zeroValue70 fun n3=> ?_
 refine bE zeroValue47 fun n4=> ?_
 refine ox 6 ?_;refine xp 16 ?_ ?_<;>intro h1
 . rw [if_pos h1] at hm i;refine rf [4,0,1,3018,1] e_ ?_;refine Qi (us:=dtC T) isAgg142 sizeOf142 rfl (hC.le leA) ?_;refine bE zeroValue142 fun n5=> ?_
   refine rn [0,4,0] ?_;refine aM 23 (.slice T.loc.a T.loc.l.length T.loc.c) rfl (rfl) ?_;refine dW (Zr I64 2 _) ?_;refine bI (Z6 (f:=I64) (l:= []) (m:=T.loc.l) underlying23 Jk rfl rfl rfl Zj (w.le leA) (fun _=>rfl) (by simp only [aL];omega) (by simp only [aL];omega)) ?_;rintro _ _ ⟨k,j,rfl,rfl⟩;rw [aN];refine oo 4 ?_;refine Kv (l:=T.loc.l) (by omega) fun ga o=> ?_;refine rf [3,3025,1] o ?_;refine dK (Jx (f:=I64) (l:=T.loc.l) (n:=m) (u:=u) rfl rfl sizeOf2 rfl hm rfl rfl (by rw [<-o];exact Zj)) ?_;rintro _ _ ⟨rfl,rfl⟩;rw [<-o];skip;refine rn [5,0,2,0,1,2,3,5] ?_;refine bW 33 (.agg (dtC ({ T with loc:=⟨T.loc.l.set m u,k,j⟩ } :DT)).toArray) rfl (by unfold dtC Sv.v;simp only [bG];rfl) ?_;refine Ym 3 call62 (aD _) (Vy (D:=D) (t:=({ T with loc:=⟨T.loc.l.set m u,k,j⟩ } :DT)) (hK.le leA) hn a0) ?_;refine kk2 fun d b=> ?_
   refine rn [6,7,0] ?_;refine W6 (f':=iC) (fe:=I64) (l:=T.loc.l.set m u) (c:=j) Z5 ?_;refine bK (q':=docM ({ D with ths:=⟨D.ths.l.set n ({ T with loc:=⟨T.loc.l.set m u,k,j⟩ } :DT),d,b⟩ } :DC)::_) (bY (φ:=fun M=>DC.At M ({ D with ths:=⟨D.ths.l.set n ({ T with loc:=⟨T.loc.l.set m u,k,j⟩ } :DT),d,b⟩ } :DC)) (mn:=fun e h=>cM e h) (((bU hK leA).and ((bU r leA).and ((svK (f:=iC) (x:=⟨T.loc.l.set m u,k,j⟩)).and (svK (f:=dtC) (x:=⟨D.ths.l.set n ({ T with loc:=⟨T.loc.l.set m u,k,j⟩ } :DT),d,b⟩))))).imp fun M h=>h.1.thread ⟨h.2.2.1,h.2.1.lft,h.2.1.sp⟩ h.2.2.2)) ?_;refine Zq (docM ({ D with ths:=⟨D.ths.l.set n ({ T with loc:=⟨T.loc.l.set m u,k,j⟩ } :DT),d,b⟩ } :DC)::(evL x++q)) func100 (Fa results100) ⟨_,rfl,({ D with ths:=⟨D.ths.l.set n ({ T with loc:=⟨T.loc.l.set m u,k,j⟩ } :DT),d,b⟩ } :DC),x,rfl,rfl,by rw [i];exact hI.put,rfl,by rw [i];exact (Mv _).symm⟩ (by unfold evL;exact leA)
 rw [if_neg (by rw [h1];decide)] at hm i;refine rn [5,0,3] ?_;refine bI (Zl (u:=(((m:Int),true,u):Ac)) acC underlying44 Wm rfl rfl W5 rfl) ?_;rintro _ _ ⟨g8,rfl,rfl⟩;refine bI (Zu (f:=acC) (l:=x.e.acc) (m:= [(((m:Int),true,u):Ac)]) underlying44 Wm rfl rfl W5 rfl rfl Zj ((aV _).le leA) Qq (by simp only [aJ];omega) (by simp only [aJ];omega)) ?_;rintro _ _ ⟨a4,c4,rfl,rfl⟩;refine rn [1,0,2,0,1,2,3,5] ?_;refine Ym 3 call102 (aD _) (Pz (D:=D) (n:=m) (u:=u) (hK.le leA) hm z) ?_;refine kk2 fun d b=> ?_
 refine rn [6,7,0] ?_;refine bK (q':=docM ({ D with cells:=⟨D.cells.l.set m u,d,b⟩ } :DC)::_) (bY (φ:=fun M=>DC.At M ({ D with cells:=⟨D.cells.l.set m u,d,b⟩ } :DC)) (mn:=fun e h=>cM e h) (((bU hK leA).and (svK (f:=iC) (x:=⟨D.cells.l.set m u,d,b⟩))).imp fun M h=>h.1.cell h.2)) ?_;refine Zq (docM ({ D with cells:=⟨D.cells.l.set m u,d,b⟩ } :DC)::(evL ({ x with e:=x.e.ac [(((m:Int),true,u):Ac)],aa:=a4,ac:=c4 } :EvC)++q)) func100 (Fa results100) ⟨_,rfl,({ D with cells:=⟨D.cells.l.set m u,d,b⟩ } :DC),({ x with e:=x.e.ac [(((m:Int),true,u):Ac)],aa:=a4,ac:=c4 } :EvC),rfl,rfl,by rw [i];exact hI.cell,rfl,by rw [i]⟩ (by unfold evL;exact leA)
end
end Go.Proofs.YtflkjkhijcdbaaaGreat
