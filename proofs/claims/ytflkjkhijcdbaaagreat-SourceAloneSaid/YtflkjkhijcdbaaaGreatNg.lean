/- Contracts. -/
import Derived.Test.YtflkjkhijcdbaaaGreatNf
set_option maxHeartbeats 16000000
set_option maxRecDepth 100000
set_option linter.all false
namespace Go.Proofs.YtflkjkhijcdbaaaGreat
open Go Go.RowKit Wx Go.Proofs.Tryz
attribute [local irreducible] lsH rsH stars
variable {U:StC}{n c N N' i:Nat}{l m ths:List TC}{x:TC}{a:Option Addr}{v:Int}{y:PS}{F:Fnd}{t:PTr}{s:SS}
theorem W7 (U:StC)(n:Nat)(x:TC):({ U with ths:=U.ths.set n x } :StC).er=U.er.put n x.er:=by
 unfold StC.er SS.put;simp [fP]
theorem G0 (hn:n<U.ths.length):U.er.put n (U.ths[n]).er=U.er:=by
 unfold StC.er SS.put;simp only [SS.mk.injEq,true_and,and_true];rw [<-fP,dO]
def PStm.slt:PStm->Int
 | .mk _ _ _ _ _ _ _ _ _ _ slot _ _=>slot
theorem TodoAt.of {M:Hp}(h:m.map TC.todo=l.map TC.todo)(k:TodoAt M l):TodoAt M m:=fun t c y a=>by
 have d:t.todo∈l.map TC.todo:=h ▸ aP (f:=TC.todo) c;obtain ⟨u,b,e⟩:=bU.1 d;exact k u b y (e ▸ a)
abbrev iV:=@TodoAt.of
theorem Hc (hn:n<l.length)(h:x.todo=l[n].todo):(l.set n x).map TC.todo=l.map TC.todo:=by
 rw [fP,h];apply hU (by simp);intro i b a;by_cases e:n=i
 . subst e;simp
 simp [iL e]
theorem Rl (hn:n<l.length)(h:trH x=trH l[n]):(l.set n x).map trH=l.map trH:=by
 rw [fP,h];apply hU (by simp);intro i b a;by_cases e:n=i
 . subst e;simp
 simp [iL e]
theorem Nu (hn:n<ths.length)(r:List HP):Le (stars (ths.map trH)::r) (lsH I64 2 ths[n].la ths[n].lc ths[n].loc::lsH PS.v 146 ths[n].ta ths[n].tc ths[n].todo::lsH I64 3 ths[n].sa ths[n].sc ths[n].sp::stars ((ths.eraseIdx n).map trH)::r):=
 (Le.focus trH hn r).trans (Z1 (trL ths[n]) _)
theorem Np (hn:n<ths.length)(x:TC)(r:List HP):Le (lsH I64 2 x.la x.lc x.loc::lsH PS.v 146 x.ta x.tc x.todo::lsH I64 3 x.sa x.sc x.sp::stars ((ths.eraseIdx n).map trH)::r) (stars ((ths.set n x).map trH)::r):=
 (Z5 (trL x) _).trans (Nn trH hn x r)
theorem rs_same {ty:Nat}(h:l.flatMap trC=m.flatMap trC):rsH trC 5 ty a c l=rsH trC 5 ty a c m:=by
 have b:l.length=m.length:=by have:=bK List.length h;rw [Zx Zd,Zx Zd] at this;omega
 unfold rsH;rw [h,b]
theorem Gp (hn:n<l.length)(h:trC x=trC l[n]):(l.set n x).flatMap trC=l.flatMap trC:=by
 rw [List.flatMap_def,List.flatMap_def,fP,h];congr 1;apply hU (by simp);intro i b a;by_cases e:n=i
 . subst e;simp
 simp [iL e]
structure PO (g:FC) (N who:Nat) (U:StC):Prop where
 w:who<U.ths.length
 h8:U.ths.length<=8
 cl:(U.cells.length:Int)=g.vars.l.length+Y7 g.arrs.l
 cv: ∀ x∈U.cells,val x
 lv: ∀ x∈U.ths[who].loc,val x
 ll:U.ths[who].loc.length<=32
 y:U.sy.ok N
 n9:N<=900
 mu:(U.sy.owners.length:Int)=g.er.cn.mu
 co:(U.sy.conds.length:Int)=g.er.cn.co
 ch:(U.sy.chans.length:Int)=g.er.cn.ch
 cd: ∀ l∈U.sy.conds,∀ t∈l,t.toNat<U.ths.length
 td:U.ths[who].todo.length<=600*(N+1)
 sp:U.ths[who].sp.length<=8/\ ∀ i∈U.ths[who].sp,0<=i/\i<U.ths.length
section
variable {G:World}{q:List HP}{p pp who:Nat}{g:FC}{ev:EvC}{k sl ot u:Int}{bb:Bool}
variable {hc gh:Nat}{l:List Stm}
theorem Zqo (hn:n<ths.length)(hK:Kn q fun M=>BlkAt M a c l)(hl:l.length<=1000000/\x.todo.length<=1000000):CallF prog G 84 [.pointer (some ⟨gh,0+(n:Int).toNat*5,none⟩),.slice a l.length c] (rsH trC 5 116 (some ⟨gh,0,none⟩) hc (ths.set n x)::lsH PS.v 146 x.ta x.tc x.todo::q) (Ret fun v q'=> ∃ a1 c1 b1 o1,(0<l.length->a=some ⟨b1,o1,none⟩)/\q'=rsH trC 5 116 (some ⟨gh,0,none⟩) hc (ths.set n { x with ta:=a1,tc:=c1,todo:=x.todo++(psL b1 o1 l).reverse })::lsH PS.v 146 a1 c1 (x.todo++(psL b1 o1 l).reverse)::q):=by
 have h:=Be (G:=G) (q:=q) (gh:=gh) (hc:=hc) (ths:=ths.set n x) (n:=n) (a:=a) (c:=c) (l:=l) (by rw [bC];exact hn) hK (by rw [cN];exact hl);have b:(ths.set n x).getD n zTC=x:=by rw [Wl (by rw [bC];exact hn),cN]
 simp only [cN,b,fI] at h;exact h
abbrev B7 (v0:StC)(v1:Nat):=((v0.ths.eraseIdx v1).map trH)
theorem Xu (hO:PO g N who U)(hin:inV g.er.cn (U.ths[who]'(hO.w)).loc.length sl bb)(hl:ev.e.acc.length<=1000000000)(hM:MayP g.er):CallF prog G 165 [.pointer (some ⟨p,0,none⟩),I64 sl,.bool bb,I64 u] (Zw p pp who U ev++q) (Ret fun v q'=> ∃ (U':StC) (ev':EvC),(U'.er=(U.er.into who sl bb u).1/\ev'.e=ev.e.ac (U.er.into who sl bb u).2/\U'.ths.map TC.todo=U.ths.map TC.todo)/\q'=Zw p pp who U' ev'++q):=by
 refine aC func165 ntmps165 rfl fun F cs=> ?_;have d:=hO.w;have h8:=hO.h8;unfold inV at hin;obtain ⟨S,rfl⟩:=aV hin.1;obtain ⟨IX,h⟩:=kL (U.er.into who S bb u);rw [<-h];unfold SS.into at h;rw [Ze d,show ((S:Int)).toNat=S from rfl] at h;change X _ _ _ _ _ _ _ _ (A3 p pp U who ev q F);refine Yw (l:=U.ths) (by omega) fun x e_=> ?_;have hr: ∀ r,Sees (Ag U r) (some ⟨x,0,none⟩) (AB U):=fun r=>by rw [<-e_];exact bE r
 refine xx 5 ?_;refine xp 8 ?_ ?_<;>intro z
 . rw [if_pos z] at h hin;have o:S<U.ths[who].loc.length:=(by omega);refine bY (q':=stars (U.ths.map trH)::_) Zk (bY (Nu d _) ?_);refine Uw (l:=U.ths[who].loc) (by omega) fun gl i=> ?_;refine xo 4 ?_;refine aO call95 (Jv (p:=p) (who:=who) (ga:=x) (m:=U.ths.length) (c:=U.hc) (by rw [<-e_];exact clA) clA d) ?_;refine oo 2 ?_;refine ld ?_ (hc:=(cT (n:=who) (hr _) leA Zd d rfl 2 _ rfl));refine rf [2,3013,1] i ?_;refine eU (q':=lsH I64 2 (some ⟨gl,0,none⟩) U.ths[who].lc U.ths[who].loc::_) (by rw [<-i];exact Zk) ?_;refine dJ (Bj (f:=I64) (l:=U.ths[who].loc) (n:=S) (u:=u) rfl rfl sizeOf2 rfl o rfl rfl Zk) ?_;rintro _ _ ⟨rfl,rfl⟩;refine ox 1 ?_;rw [<-i];refine bY (q':=stars ((U.ths.set who ({ U.ths[who] with loc:=U.ths[who].loc.set S u } :TC)).map trH)::_) (aS (b:=lsH I64 2 U.ths[who].la U.ths[who].lc (U.ths[who].loc.set S u)::lsH PS.v 146 U.ths[who].ta U.ths[who].tc U.ths[who].todo::lsH I64 3 U.ths[who].sa U.ths[who].sc U.ths[who].sp::stars (B7 U who)::_) (bM Zk (bM Zk (bM Zk Zk))) (Np d ({ U.ths[who] with loc:=U.ths[who].loc.set S u } :TC) _)) ?_;refine bY (q':=rsH trC 5 116 U.ha U.hc (U.ths.set who ({ U.ths[who] with loc:=U.ths[who].loc.set S u } :TC))::_) (by rw [show rsH trC 5 116 U.ha U.hc (U.ths.set who ({ U.ths[who] with loc:=U.ths[who].loc.set S u } :TC))=rsH trC 5 116 U.ha U.hc U.ths from rs_same (Gp d (by simp [trC]))];exact Zk) ?_;refine bY (q':=Zw p pp who ({ U with ths:=U.ths.set who ({ U.ths[who] with loc:=U.ths[who].loc.set S u } :TC) } :StC) ev++(q++F)) (by unfold Zw spP Vt Zr;simp only [bC];exact leA) ?_;refine Zq (Zw p pp who ({ U with ths:=U.ths.set who ({ U.ths[who] with loc:=U.ths[who].loc.set S u } :TC) } :StC) ev++q) func165 (Vm results165) ⟨_,rfl,({ U with ths:=U.ths.set who ({ U.ths[who] with loc:=U.ths[who].loc.set S u } :TC) } :StC),ev,⟨by rw [h,W7];rfl,by rw [h];exact (Ng _).symm,Hc d rfl⟩,rfl⟩ (by rw [aA];exact aE _)
 rw [if_neg (by rw [z];decide)] at h hin;have a0:=hO.cl;have t:S<U.cells.length:=(by have:=Qg (l:=g.arrs.l) (k:=256) (fun y hy=>by have:=hM.a y hy;omega) (by decide);have:=hin.2;rw [Tj] at this;omega);refine xo 6 ?_;refine Zb call167 leA (Cw (p:=p) (pp:=pp) (who:=who) (U:=U) (ev:=ev) (n:=S) (u:=u) (q:=q++F) t hl) ?_;rintro _ _ ⟨j,s,rfl⟩;refine ox 1 ?_;refine Z7 (Zw p pp who ({ U with cells:=U.cells.set S u } :StC) j++q) func165 (Vm results165) ⟨_,rfl,({ U with cells:=U.cells.set S u } :StC),j,⟨by rw [h];rfl,by rw [h];exact s,rfl⟩,rfl⟩ (by rw [aA];exact aE _)
abbrev A9 (v0:Nat)(v1:PS):=([.pointer (some ⟨v0,0,none⟩),.pointer (some ⟨v1.b,v1.o,none⟩)]:List Value)
theorem Ot (hP:Prg q pp g)(hM:MayP g.er)(hO:PO g N who U)(hev:ev.e.acc= []/\ev.e.syn= [])(hyA:Kn q fun M=>y.At M)(hg:y.s.er.good g.er.cn (U.ths[who]'(hO.w)).loc.length)(hTd:Kn q fun M=>TodoAt M U.ths)(hk:y.s.er.kd=1\/y.s.er.kd=2):CallF prog G 129 (A9 p y) (Zw p pp who U ev++q) (RP (fun v q'=> ∃ (U':StC) (ev':EvC),((U.er.data g.er.pr who y.s.er ev.e).2.2=0/\U'.er=(U.er.data g.er.pr who y.s.er ev.e).1/\ev'.e=(U.er.data g.er.pr who y.s.er ev.e).2.1/\Kn q fun M=>TodoAt M U'.ths)/\q'=Zw p pp who U' ev'++q) (fun ch q'=> ∃ (U':StC) (ev':EvC),((U.er.data g.er.pr who y.s.er ev.e).2.2≠0/\ch= [Vd (U.er.data g.er.pr who y.s.er ev.e).2.2]/\ev'.e=(U.er.data g.er.pr who y.s.er ev.e).2.1)/\q'=Zw p pp who U' ev'++q)):=by
 refine aC func129 ntmps129 rfl fun F cs=> ?_;obtain ⟨yb,yo,ys⟩:=y;obtain ⟨kk,ln,cl,nm,wt,⟨z,t,i,c,j,f,x,ea,ec⟩,⟨xk,xn,c0,xsl,d0,b0,xl,xa,xc⟩,bd,k0,ba,bc,n0,m0,id,sl,ot,e0⟩:=ys;have r:=eR hyA;dsimp only at r hg hyA hk|-;simp only [Stm.er,PStm.kd] at hk;have l:=hO.w;have h8:=hO.h8;have e1:=hO.y;have k1:=hO.n9;obtain ⟨b,d1⟩:=hev;have v0:Kn q fun M=>ExAt M ⟨yb,yo+5,none⟩ (Ex.mk z t i c j f x ea ec):=hyA.imp fun M h=>Yj (pre:= (A6 kk ln cl nm wt)) h.1 rfl h.2.1 rfl
 have l1:Kn q fun M=>ExAt M ⟨yb,yo+12,none⟩ (Ex.mk xk xn c0 xsl d0 b0 xl xa xc):=hyA.imp fun M h=>Yj (pre:= (A6 kk ln cl nm wt)++exC (Ex.mk z t i c j f x ea ec)) h.1 rfl h.2.2.1 rfl
 have n1:Kn q fun M=>BlkAt M ba bc bd:=hyA.imp fun M h=>h.2.2.2.1;have m1:Kn q fun M=>BlkAt M n0 m0 k0:=hyA.imp fun M h=>⟨h.2.2.2.2.1,h.2.2.2.2.2⟩
 obtain ⟨u0,t0,s0,_⟩:=hg;obtain ⟨i1,o0,h1,g1,f1,y0,b1,a1,z0⟩:=Yu t0;obtain ⟨g0,j1⟩:=Wn u0;rw [Zg,Zg] at s0;obtain ⟨R,a⟩:=kL (U.er.data g.er.pr who (Stm.er (Stm.mk kk ln cl nm wt (Ex.mk z t i c j f x ea ec) (Ex.mk xk xn c0 xsl d0 b0 xl xa xc) bd k0 ba bc n0 m0 id sl ot e0)) ev.e);rw [<-a];unfold SS.data at a;simp only [Stm.er] at a;rw [Ze l] at a;change X _ _ _ _ _ _ _ _ (A3 p pp U who ev q F);rw [if_neg (show ¬kk=3 by omega)] at a;dsimp only at a;rw [if_neg (fun k=>k rfl)] at a;refine rf [0,1,2,3,4,5,6,7,8,9,10,11,12,13] r ?_;obtain ⟨A1,m⟩:=kL ((Ex.er (Ex.mk z t i c j f x ea ec)).made g.er.pr U.cells U.ths[who].loc);have n:=Yg (p:=g.er.pr) hO.cv hO.lv (g0 (by omega));rw [<-m] at n;try rw [show (U.ths[who].er).loc=U.ths[who].loc from rfl] at a
 try rw [show U.er.cells=U.cells from rfl] at a
 rw [<-m] at a;have c1:A1.2.2.length<=16777216:=cP n.2 (by decide);refine Fl 13 call166 leA (Jq (p:=p) (pp:=pp) (who:=who) (hwho:=l) (Ex.sz (Ex.mk z t i c j f x ea ec)) (e:=(Ex.mk z t i c j f x ea ec)) (d:=24) (ev:=ev) (q:=q++F) (aL _) trivial (by decide) (g0 (by omega)) (by rw [b];decide) (v0.le leA) (hP.le leA) hM hO.cl hO.cv hO.lv) ?_ ?_ trivial
 . rintro _ _ ⟨ht,rfl,w0,h0,rfl⟩;exact dA func129 (dX (by rw [<-m] at ht h0|-;have i0:=a;rw [if_pos ht] at i0;rw [i0];exact ⟨U,w0,⟨ht,rfl,by rw [h0];unfold PEv.ac;simp only [b,aT]⟩,rfl⟩)) (by rw [aA];exact aE _)
 rintro _ _ ⟨f0,rfl,x0,o,l0⟩;simp only [Zw,spP,Zr,evL,ca,na] at l0;subst l0;refine ⟨(hlF r),?_⟩;rw [<-m] at f0 o|-;rw [if_neg (fun k=>k f0)] at a;rw [if_pos (by omega)] at a;refine Wy 14 call165 leA (Xu (p:=p) (pp:=pp) (who:=who) (g:=g) (N:=N) (U:=U) (ev:=x0) (sl:=sl) (bb:=e0) (u:=A1.1) (q:=q++F) hO (o0 (by omega)) (by rw [o];unfold PEv.ac;rw [b];simp;omega) hM) ?_;rintro _ _ ⟨a0,j0,⟨r0,q0,p0⟩,rfl⟩;refine ⟨trivial,?_⟩;refine jV ?_;refine Z7 (Zw p pp who a0 j0++q) func129 (Vm results129) (dG ⟨a0,j0,⟨by rw [a],by rw [a];exact r0,by rw [a,q0,o];unfold PEv.ac;simp only [b,aT],hTd.imp fun M h=>iV p0 h⟩,rfl⟩) (by rw [aA];exact aE _)
theorem xput_ok (hP:Prg q pp g)(hM:MayP g.er)(hO:PO g N who U)(hev:ev.e.acc= []/\ev.e.syn= [])(hyA:Kn q fun M=>y.At M)(hg:y.s.er.good g.er.cn (U.ths[who]'(hO.w)).loc.length)(hTd:Kn q fun M=>TodoAt M U.ths)(hk:y.s.er.kd=3):CallF prog G 130 (A9 p y) (Zw p pp who U ev++q) (RP (fun v q'=> ∃ (U':StC) (ev':EvC),((U.er.data g.er.pr who y.s.er ev.e).2.2=0/\U'.er=(U.er.data g.er.pr who y.s.er ev.e).1/\ev'.e=(U.er.data g.er.pr who y.s.er ev.e).2.1/\Kn q fun M=>TodoAt M U'.ths)/\q'=Zw p pp who U' ev'++q) (fun ch q'=> ∃ (U':StC) (ev':EvC),((U.er.data g.er.pr who y.s.er ev.e).2.2≠0/\ch= [Vd (U.er.data g.er.pr who y.s.er ev.e).2.2]/\ev'.e=(U.er.data g.er.pr who y.s.er ev.e).2.1)/\q'=Zw p pp who U' ev'++q)):=by
 refine aC func130 ntmps130 rfl fun F cs=> ?_;obtain ⟨yb,yo,ys⟩:=y;obtain ⟨kk,ln,cl,nm,wt,⟨ek,en,t,o,x,r,el,ea,ec⟩,⟨xk,xn,a0,xsl,b0,z,xl,xa,xc⟩,bd,y0,ba,bc,a1,z0,id,sl,ot,b1⟩:=ys;have u0:=eR hyA;dsimp only at u0 hg hyA hk|-;simp only [Stm.er,PStm.kd] at hk;have f:=hO.w;have h8:=hO.h8;have q1:=hO.y;have y1:=hO.n9;obtain ⟨c,p1⟩:=hev;have i1:Kn q fun M=>ExAt M ⟨yb,yo+5,none⟩ (Ex.mk ek en t o x r el ea ec):=hyA.imp fun M h=>Yj (pre:= (A6 kk ln cl nm wt)) h.1 rfl h.2.1 rfl
 have h1:Kn q fun M=>ExAt M ⟨yb,yo+12,none⟩ (Ex.mk xk xn a0 xsl b0 z xl xa xc):=hyA.imp fun M h=>Yj (pre:= (A6 kk ln cl nm wt)++exC (Ex.mk ek en t o x r el ea ec)) h.1 rfl h.2.2.1 rfl
 have a2:Kn q fun M=>BlkAt M ba bc bd:=hyA.imp fun M h=>h.2.2.2.1;have z1:Kn q fun M=>BlkAt M a1 z0 y0:=hyA.imp fun M h=>⟨h.2.2.2.2.1,h.2.2.2.2.2⟩
 obtain ⟨e1,d1,c1,_⟩:=hg;obtain ⟨v1,u1,o0,t1,s1,k1,n1,m1,l1⟩:=Yu d1;obtain ⟨s0,p0⟩:=Wn e1;rw [Zg,Zg] at c1;obtain ⟨R,b⟩:=kL (U.er.data g.er.pr who (Stm.er (Stm.mk kk ln cl nm wt (Ex.mk ek en t o x r el ea ec) (Ex.mk xk xn a0 xsl b0 z xl xa xc) bd y0 ba bc a1 z0 id sl ot b1)) ev.e);rw [<-b];unfold SS.data at b;simp only [Stm.er] at b;rw [Ze f] at b;change X _ _ _ _ _ _ _ _ (A3 p pp U who ev q F);obtain rfl:kk=3:=(by omega);rw [if_pos rfl] at b;refine xo 6 ?_;obtain ⟨A1,h0⟩:=kL ((Ex.er (Ex.mk xk xn a0 xsl b0 z xl xa xc)).made g.er.pr U.cells U.ths[who].loc);have c0:=Yg (p:=g.er.pr) hO.cv hO.lv (p0 rfl);rw [<-h0] at c0;try rw [show (U.ths[who].er).loc=U.ths[who].loc from rfl] at b
 try rw [show U.er.cells=U.cells from rfl] at b
 rw [<-h0] at b;have q0:A1.2.2.length<=16777216:=cP c0.2 (by decide);refine Vn call166 leA (Jq (p:=p) (pp:=pp) (who:=who) (hwho:=f) (Ex.sz (Ex.mk xk xn a0 xsl b0 z xl xa xc)) (e:=(Ex.mk xk xn a0 xsl b0 z xl xa xc)) (d:=24) (ev:=ev) (q:=q++F) (aL _) trivial (by decide) (p0 rfl) (by rw [c];decide) (h1.le leA) (hP.le leA) hM hO.cl hO.cv hO.lv) ?_ ?_
 . rintro _ _ ⟨ht,rfl,k0,d0,rfl⟩;exact dA func130 (dX (by rw [<-h0] at ht d0|-;have e0:=b;rw [if_pos ht] at e0;rw [e0];exact ⟨U,k0,⟨ht,rfl,by rw [d0];unfold PEv.ac;simp only [c,aT]⟩,rfl⟩)) (by rw [aA];exact aE _)
 rintro _ _ ⟨n0,rfl,j1,m,i⟩;simp only [Zw,spP,Zr,evL,ca,na] at i;subst i;rw [<-h0] at n0 m|-;rw [if_neg (fun k=>k n0)] at b;try dsimp only at b
 refine oo 8 ?_;obtain ⟨A2,g0⟩:=kL ((Ex.er (Ex.mk ek en t o x r el ea ec)).made g.er.pr U.cells U.ths[who].loc);have i0:=Yg (p:=g.er.pr) hO.cv hO.lv (s0 (by omega));rw [<-g0] at i0;try rw [show (U.ths[who].er).loc=U.ths[who].loc from rfl] at b
 try rw [show U.er.cells=U.cells from rfl] at b
 rw [<-g0] at b;have o1:A2.2.2.length<=16777216:=cP i0.2 (by decide);refine Vn call166 leA (Jq (p:=p) (pp:=pp) (who:=who) (hwho:=f) (Ex.sz (Ex.mk ek en t o x r el ea ec)) (e:=(Ex.mk ek en t o x r el ea ec)) (d:=24) (ev:=j1) (q:=q++F) (aL _) trivial (by decide) (s0 (by omega)) (by rw [m];unfold PEv.ac;rw [c];simp only [aT];have w1:(2:Nat) ^ (24:Int).toNat=16777216:=(by decide);have:=q0;omega) (i1.le leA) (hP.le leA) hM hO.cl hO.cv hO.lv) ?_ ?_
 . rintro _ _ ⟨ht,rfl,k0,d0,rfl⟩;exact dA func130 (dX (by rw [<-g0] at ht d0|-;have e0:=b;rw [if_pos ht] at e0;rw [e0];exact ⟨U,k0,⟨ht,rfl,by rw [d0,m];unfold PEv.ac;simp only [c,aT]⟩,rfl⟩)) (by rw [aA];exact aE _)
 rintro _ _ ⟨m0,rfl,l0,f0,i⟩;simp only [Zw,spP,Zr,evL,ca,na] at i;subst i;rw [<-g0] at m0 f0|-;rw [if_neg (fun k=>k m0)] at b;rw [if_neg (by omega),if_pos rfl] at b;refine rf [8,0,1] u0 ?_;obtain ⟨An,v0⟩:=aV (o0 rfl).1;have w0:An<g.arrs.l.length:=by have:=(o0 rfl).2;rw [Tv] at this;omega
 refine bA 21 (Aw An) rfl (by rw [v0]) ?_;rw [v0] at b;refine Vn call168 leA (C1 (p:=p) (pp:=pp) (who:=who) (U:=U) (ev:=l0) (n:=An) (u:=A1.1) (q:=q++F) (hP.le leA) hM w0 c0.1) ?_ ?_
 . rintro _ _ ⟨⟨t0,rfl⟩,rfl⟩;exact dA func130 (dX (by rw [if_pos t0] at b;rw [b];exact ⟨U,l0,⟨(show (3:Int)≠0 by decide),rfl,by rw [f0,m];unfold PEv.ac;simp only [c,aT]⟩,rfl⟩)) (by rw [aA];exact aE _)
 rintro _ _ ⟨⟨r0,rfl⟩,i⟩;simp only [Zw,spP,Zr,evL,ca,na] at i;subst i;rw [if_neg (by omega)] at b;obtain ⟨j,j0⟩:=aV r0;refine bA 23 (Aw j) rfl (by rw [j0]) ?_
 have x1:=hO.cl;have g1:j<U.cells.length:=by
  have hx:=j0;unfold PPr.cell at hx;rw [show g.er.pr.arrs=g.arrs.l from rfl,show g.er.pr.vars=g.vars.l from rfl,show ((An:Int)).toNat=An from rfl] at hx;have r1:=Tc (l:=g.arrs.l) hM.a w0;split at hx<;>omega
 rw [j0,show ((j:Int)).toNat=j from rfl] at b;refine oo 1 ?_;refine Zb call167 leA (Cw (p:=p) (pp:=pp) (who:=who) (U:=U) (ev:=l0) (n:=j) (u:=A2.1) (q:=q++F) g1 (by rw [f0,m];unfold PEv.ac;rw [c];simp only [aT,aG];omega)) ?_;rintro _ _ ⟨x0,f1,rfl⟩;refine ox 1 ?_;refine Z7 (Zw p pp who ({ U with cells:=U.cells.set j A2.1 } :StC) x0++q) func130 (Vm results130) (dG ⟨({ U with cells:=U.cells.set j A2.1 } :StC),x0,⟨by rw [b],by rw [b];rfl,by rw [b,f1,f0,m];unfold PEv.ac;simp only [c,aT,aA],hTd⟩,rfl⟩) (by rw [aA];exact aE _)
theorem L4 (hP:Prg q pp g)(hM:MayP g.er)(hO:PO g N who U)(hev:ev.e.acc= []/\ev.e.syn= [])(hyA:Kn q fun M=>y.At M)(hg:y.s.er.good g.er.cn (U.ths[who]'(hO.w)).loc.length)(hTd:Kn q fun M=>TodoAt M U.ths)(hk:y.s.er.kd=4):CallF prog G 131 (A9 p y) (Zw p pp who U ev++q) (RP (fun v q'=> ∃ (U':StC) (ev':EvC),((U.er.data g.er.pr who y.s.er ev.e).2.2=0/\U'.er=(U.er.data g.er.pr who y.s.er ev.e).1/\ev'.e=(U.er.data g.er.pr who y.s.er ev.e).2.1/\Kn q fun M=>TodoAt M U'.ths)/\q'=Zw p pp who U' ev'++q) (fun ch q'=> ∃ (U':StC) (ev':EvC),((U.er.data g.er.pr who y.s.er ev.e).2.2≠0/\ch= [Vd (U.er.data g.er.pr who y.s.er ev.e).2.2]/\ev'.e=(U.er.data g.er.pr who y.s.er ev.e).2.1)/\q'=Zw p pp who U' ev'++q)):=by
 refine aC func131 ntmps131 rfl fun F cs=> ?_;obtain ⟨yb,yo,ys⟩:=y;obtain ⟨kk,ln,cl,nm,wt,⟨ek,en,e0,c0,f0,d0,el,ea,ec⟩,⟨xk,xn,p0,xsl,q0,o0,xl,xa,xc⟩,bd,i,ba,bc,n0,m0,id,sl,ot,y0⟩:=ys;have h0:=eR hyA;dsimp only at h0 hg hyA hk|-;simp only [Stm.er,PStm.kd] at hk;have f:=hO.w;have h8:=hO.h8;have n1:=hO.y;have v1:=hO.n9;obtain ⟨b0,m1⟩:=hev;have f1:Kn q fun M=>ExAt M ⟨yb,yo+5,none⟩ (Ex.mk ek en e0 c0 f0 d0 el ea ec):=hyA.imp fun M h=>Yj (pre:= (A6 kk ln cl nm wt)) h.1 rfl h.2.1 rfl
 have w1:Kn q fun M=>ExAt M ⟨yb,yo+12,none⟩ (Ex.mk xk xn p0 xsl q0 o0 xl xa xc):=hyA.imp fun M h=>Yj (pre:= (A6 kk ln cl nm wt)++exC (Ex.mk ek en e0 c0 f0 d0 el ea ec)) h.1 rfl h.2.2.1 rfl
 have w0:Kn q fun M=>BlkAt M ba bc bd:=hyA.imp fun M h=>h.2.2.2.1;have v0:Kn q fun M=>BlkAt M n0 m0 i:=hyA.imp fun M h=>⟨h.2.2.2.2.1,h.2.2.2.2.2⟩
 obtain ⟨e1,d1,z0,_⟩:=hg;obtain ⟨t1,s1,r1,q1,p1,h1,k1,j1,i1⟩:=Yu d1;obtain ⟨s0,u1⟩:=Wn e1;rw [Zg,Zg] at z0;obtain ⟨R,hR⟩:=kL (U.er.data g.er.pr who (Stm.er (Stm.mk kk ln cl nm wt (Ex.mk ek en e0 c0 f0 d0 el ea ec) (Ex.mk xk xn p0 xsl q0 o0 xl xa xc) bd i ba bc n0 m0 id sl ot y0)) ev.e);rw [<-hR];unfold SS.data at hR;simp only [Stm.er] at hR;rw [Ze f] at hR;change X _ _ _ _ _ _ _ _ (A3 p pp U who ev q F);obtain rfl:kk=4:=(by omega);rw [if_neg (show ¬ (4:Int)=3 by decide)] at hR;try dsimp only at hR
 rw [if_neg (fun k=>k rfl)] at hR;refine Yw (l:=U.ths) (by omega) fun ga e_=> ?_;have hr: ∀ r,Sees (Ag U r) (some ⟨ga,0,none⟩) (AB U):=fun r=>by rw [<-e_];exact bE r
 refine xo 7 ?_;obtain ⟨A1,i0⟩:=kL ((Ex.er (Ex.mk ek en e0 c0 f0 d0 el ea ec)).made g.er.pr U.cells U.ths[who].loc);have j0:=Yg (p:=g.er.pr) hO.cv hO.lv (s0 (by omega));rw [<-i0] at j0;try rw [show (U.ths[who].er).loc=U.ths[who].loc from rfl] at hR
 try rw [show U.er.cells=U.cells from rfl] at hR
 rw [<-i0] at hR;have l1:A1.2.2.length<=16777216:=cP j0.2 (by decide);refine Vn call166 leA (Jq (p:=p) (pp:=pp) (who:=who) (hwho:=f) (Ex.sz (Ex.mk ek en e0 c0 f0 d0 el ea ec)) (e:=(Ex.mk ek en e0 c0 f0 d0 el ea ec)) (d:=24) (ev:=ev) (q:=q++F) (aL _) trivial (by decide) (s0 (by omega)) (by rw [b0];decide) (f1.le leA) (hP.le leA) hM hO.cl hO.cv hO.lv) ?_ ?_
 . rintro _ _ ⟨ht,rfl,g1,t0,rfl⟩;exact dA func131 (dX (by rw [<-i0] at ht t0|-;have u0:=hR;rw [if_pos ht] at u0;rw [u0];exact ⟨U,g1,⟨ht,rfl,by rw [t0];unfold PEv.ac;simp only [b0,aT]⟩,rfl⟩)) (by rw [aA];exact aE _)
 rintro _ _ ⟨r0,rfl,a0,k0,x0⟩;simp only [Zw,spP,Zr,evL,ca,na] at x0;subst x0;rw [<-i0] at r0 k0|-;rw [if_neg (fun k=>k r0)] at hR;rw [if_neg (by decide),if_neg (by decide),if_pos rfl] at hR;refine rn [3,0,7,0,2] ?_;refine xp 18 ?_ ?_<;>intro h5
 . rw [if_neg (show ¬A1.1=0 by omega)] at hR;refine bY (q':=stars (U.ths.map trH)::_) Zk (bY (Nu f _) ?_);refine bY (q':=rsH trC 5 116 (some ⟨ga,0,none⟩) U.hc U.ths::_) (by rw [<-e_];exact Zk) ?_;refine rf [1,0,1,3,4,5,6] h0 ?_;refine Y2 1 call95 (Jv (p:=p) (who:=who) (ga:=ga) (m:=U.ths.length) (c:=U.hc) (by rw [<-e_];exact clA) clA f) ?_ (hL:=(hlF h0));refine Wy 6 call84 (bM Zk Zk) (Be (gh:=ga) (n:=who) (hc:=U.hc) (ths:=U.ths) (l:=bd) (a:=ba) (c:=bc) f (w0.le leA) ⟨by omega,by have:=hO.td;omega⟩) ?_;rintro _ _ ⟨x,u,o,j,l0,rfl⟩;refine ⟨trivial,?_⟩;refine jV ?_;rw [Wl f];rw [<-e_];refine bY (q':=stars ((U.ths.set who ({ U.ths[who] with ta:=x,tc:=u,todo:=U.ths[who].todo++(psL o j bd).reverse } :TC)).map trH)::_) (aS (b:=lsH I64 2 (({ U.ths[who] with ta:=x,tc:=u,todo:=U.ths[who].todo++(psL o j bd).reverse } :TC)).la (({ U.ths[who] with ta:=x,tc:=u,todo:=U.ths[who].todo++(psL o j bd).reverse } :TC)).lc (({ U.ths[who] with ta:=x,tc:=u,todo:=U.ths[who].todo++(psL o j bd).reverse } :TC)).loc::lsH PS.v 146 (({ U.ths[who] with ta:=x,tc:=u,todo:=U.ths[who].todo++(psL o j bd).reverse } :TC)).ta (({ U.ths[who] with ta:=x,tc:=u,todo:=U.ths[who].todo++(psL o j bd).reverse } :TC)).tc (({ U.ths[who] with ta:=x,tc:=u,todo:=U.ths[who].todo++(psL o j bd).reverse } :TC)).todo::lsH I64 3 (({ U.ths[who] with ta:=x,tc:=u,todo:=U.ths[who].todo++(psL o j bd).reverse } :TC)).sa (({ U.ths[who] with ta:=x,tc:=u,todo:=U.ths[who].todo++(psL o j bd).reverse } :TC)).sc (({ U.ths[who] with ta:=x,tc:=u,todo:=U.ths[who].todo++(psL o j bd).reverse } :TC)).sp::stars (B7 U who)::_) (bM Zk (bM Zk (bM Zk Zk))) (Np f ({ U.ths[who] with ta:=x,tc:=u,todo:=U.ths[who].todo++(psL o j bd).reverse } :TC) _)) ?_;refine bY (q':=Zw p pp who ({ U with ths:=U.ths.set who ({ U.ths[who] with ta:=x,tc:=u,todo:=U.ths[who].todo++(psL o j bd).reverse } :TC) } :StC) ({ a0 with e:= { a0.e with value:=A1.1 } } :EvC)++(q++F)) (by unfold Zw spP Vt Zr;simp only [bC];exact leA) ?_
   refine Z7 (Zw p pp who ({ U with ths:=U.ths.set who ({ U.ths[who] with ta:=x,tc:=u,todo:=U.ths[who].todo++(psL o j bd).reverse } :TC) } :StC) ({ a0 with e:= { a0.e with value:=A1.1 } } :EvC)++q) func131 (Vm results131) (dG ⟨({ U with ths:=U.ths.set who ({ U.ths[who] with ta:=x,tc:=u,todo:=U.ths[who].todo++(psL o j bd).reverse } :TC) } :StC),({ a0 with e:= { a0.e with value:=A1.1 } } :EvC),⟨by rw [hR],by rw [hR];dsimp only;rw [W7];congr 1;simp only [TC.er,aM,jS,Gw,iM,kE,bP,eM,jD,jT,aT,aA,Stm.er,cM],by rw [hR];dsimp only;rw [k0];unfold PEv.ac;simp only [b0,aT],(hTd.and ((hyA.and w0))).imp fun M h t ht z hz=>by
    rcases bO ht with ht|rfl
    . exact h.1 t ht z hz
    rcases aQ.1 hz with hz|hz
    . exact h.1 _ (aB f) z hz
    have g0:=jR.1 hz;have hb:=h.2.2;rw [l0 (by rw [<-Mj o j bd];exact jJ g0)] at hb;exact Gx hb z g0⟩,rfl⟩) (by rw [aA];exact aE _)
 rw [if_pos (show A1.1=0 by omega)] at hR;refine bY (q':=stars (U.ths.map trH)::_) Zk (bY (Nu f _) ?_);refine bY (q':=rsH trC 5 116 (some ⟨ga,0,none⟩) U.hc U.ths::_) (by rw [<-e_];exact Zk) ?_;refine rf [1,0,1,3,4,5,6] h0 ?_;refine Y2 1 call95 (Jv (p:=p) (who:=who) (ga:=ga) (m:=U.ths.length) (c:=U.hc) (by rw [<-e_];exact clA) clA f) ?_ (hL:=(hlF h0));refine Wy 6 call84 (bM Zk Zk) (Be (gh:=ga) (n:=who) (hc:=U.hc) (ths:=U.ths) (l:=i) (a:=n0) (c:=m0) f (v0.le leA) ⟨by omega,by have:=hO.td;omega⟩) ?_;rintro _ _ ⟨x,u,o,j,l0,rfl⟩;refine ⟨trivial,?_⟩;refine jV ?_;rw [Wl f];rw [<-e_];refine bY (q':=stars ((U.ths.set who ({ U.ths[who] with ta:=x,tc:=u,todo:=U.ths[who].todo++(psL o j i).reverse } :TC)).map trH)::_) (aS (b:=lsH I64 2 (({ U.ths[who] with ta:=x,tc:=u,todo:=U.ths[who].todo++(psL o j i).reverse } :TC)).la (({ U.ths[who] with ta:=x,tc:=u,todo:=U.ths[who].todo++(psL o j i).reverse } :TC)).lc (({ U.ths[who] with ta:=x,tc:=u,todo:=U.ths[who].todo++(psL o j i).reverse } :TC)).loc::lsH PS.v 146 (({ U.ths[who] with ta:=x,tc:=u,todo:=U.ths[who].todo++(psL o j i).reverse } :TC)).ta (({ U.ths[who] with ta:=x,tc:=u,todo:=U.ths[who].todo++(psL o j i).reverse } :TC)).tc (({ U.ths[who] with ta:=x,tc:=u,todo:=U.ths[who].todo++(psL o j i).reverse } :TC)).todo::lsH I64 3 (({ U.ths[who] with ta:=x,tc:=u,todo:=U.ths[who].todo++(psL o j i).reverse } :TC)).sa (({ U.ths[who] with ta:=x,tc:=u,todo:=U.ths[who].todo++(psL o j i).reverse } :TC)).sc (({ U.ths[who] with ta:=x,tc:=u,todo:=U.ths[who].todo++(psL o j i).reverse } :TC)).sp::stars (B7 U who)::_) (bM Zk (bM Zk (bM Zk Zk))) (Np f ({ U.ths[who] with ta:=x,tc:=u,todo:=U.ths[who].todo++(psL o j i).reverse } :TC) _)) ?_;refine bY (q':=Zw p pp who ({ U with ths:=U.ths.set who ({ U.ths[who] with ta:=x,tc:=u,todo:=U.ths[who].todo++(psL o j i).reverse } :TC) } :StC) ({ a0 with e:= { a0.e with value:=A1.1 } } :EvC)++(q++F)) (by unfold Zw spP Vt Zr;simp only [bC];exact leA) ?_
 refine Z7 (Zw p pp who ({ U with ths:=U.ths.set who ({ U.ths[who] with ta:=x,tc:=u,todo:=U.ths[who].todo++(psL o j i).reverse } :TC) } :StC) ({ a0 with e:= { a0.e with value:=A1.1 } } :EvC)++q) func131 (Vm results131) (dG ⟨({ U with ths:=U.ths.set who ({ U.ths[who] with ta:=x,tc:=u,todo:=U.ths[who].todo++(psL o j i).reverse } :TC) } :StC),({ a0 with e:= { a0.e with value:=A1.1 } } :EvC),⟨by rw [hR],by rw [hR];dsimp only;rw [W7];congr 1;simp only [TC.er,aM,jS,Gw,iM,kE,bP,eM,jD,jT,aT,aA,Stm.er,cM],by rw [hR];dsimp only;rw [k0];unfold PEv.ac;simp only [b0,aT],(hTd.and ((hyA.and v0))).imp fun M h t ht z hz=>by
  rcases bO ht with ht|rfl
  . exact h.1 t ht z hz
  rcases aQ.1 hz with hz|hz
  . exact h.1 _ (aB f) z hz
  have g0:=jR.1 hz;have hb:=h.2.2;rw [l0 (by rw [<-Mj o j i];exact jJ g0)] at hb;exact Gx hb z g0⟩,rfl⟩) (by rw [aA];exact aE _)
theorem L3 (hP:Prg q pp g)(hM:MayP g.er)(hO:PO g N who U)(hev:ev.e.acc= []/\ev.e.syn= [])(hyA:Kn q fun M=>y.At M)(hg:y.s.er.good g.er.cn (U.ths[who]'(hO.w)).loc.length)(hTd:Kn q fun M=>TodoAt M U.ths)(hk:y.s.er.kd=5):CallF prog G 132 (A9 p y) (Zw p pp who U ev++q) (RP (fun v q'=> ∃ (U':StC) (ev':EvC),((U.er.data g.er.pr who y.s.er ev.e).2.2=0/\U'.er=(U.er.data g.er.pr who y.s.er ev.e).1/\ev'.e=(U.er.data g.er.pr who y.s.er ev.e).2.1/\Kn q fun M=>TodoAt M U'.ths)/\q'=Zw p pp who U' ev'++q) (fun ch q'=> ∃ (U':StC) (ev':EvC),((U.er.data g.er.pr who y.s.er ev.e).2.2≠0/\ch= [Vd (U.er.data g.er.pr who y.s.er ev.e).2.2]/\ev'.e=(U.er.data g.er.pr who y.s.er ev.e).2.1)/\q'=Zw p pp who U' ev'++q)):=by
 refine aC func132 ntmps132 rfl fun F cs=> ?_;obtain ⟨yb,yo,ys⟩:=y;obtain ⟨kk,ln,cl,nm,wt,⟨ek,en,a0,i,b0,o,el,ea,ec⟩,⟨xk,xn,d0,xsl,e0,c0,xl,xa,xc⟩,bd,g0,ba,bc,i0,h0,id,sl,ot,j0⟩:=ys;have p0:=eR hyA;dsimp only at p0 hg hyA hk|-;simp only [Stm.er,PStm.kd] at hk;have f0:=hO.w;have h8:=hO.h8;have m1:=hO.y;have u1:=hO.n9;obtain ⟨l0,l1⟩:=hev;have e1:Kn q fun M=>ExAt M ⟨yb,yo+5,none⟩ (Ex.mk ek en a0 i b0 o el ea ec):=hyA.imp fun M h=>Yj (pre:= (A6 kk ln cl nm wt)) h.1 rfl h.2.1 rfl
 have v1:Kn q fun M=>ExAt M ⟨yb,yo+12,none⟩ (Ex.mk xk xn d0 xsl e0 c0 xl xa xc):=hyA.imp fun M h=>Yj (pre:= (A6 kk ln cl nm wt)++exC (Ex.mk ek en a0 i b0 o el ea ec)) h.1 rfl h.2.2.1 rfl
 have v0:Kn q fun M=>BlkAt M ba bc bd:=hyA.imp fun M h=>h.2.2.2.1;have w1:Kn q fun M=>BlkAt M i0 h0 g0:=hyA.imp fun M h=>⟨h.2.2.2.2.1,h.2.2.2.2.2⟩
 obtain ⟨z0,y0,x0,_⟩:=hg;obtain ⟨s1,r1,q1,p1,n1,g1,j1,i1,h1⟩:=Yu y0;obtain ⟨s0,t1⟩:=Wn z0;rw [Zg,Zg] at x0;obtain ⟨R,hR⟩:=kL (U.er.data g.er.pr who (Stm.er (Stm.mk kk ln cl nm wt (Ex.mk ek en a0 i b0 o el ea ec) (Ex.mk xk xn d0 xsl e0 c0 xl xa xc) bd g0 ba bc i0 h0 id sl ot j0)) ev.e);rw [<-hR];unfold SS.data at hR;simp only [Stm.er] at hR;rw [Ze f0] at hR;change X _ _ _ _ _ _ _ _ (A3 p pp U who ev q F);obtain rfl:kk=5:=(by omega);rw [if_neg (show ¬ (5:Int)=3 by decide)] at hR;try dsimp only at hR
 rw [if_neg (fun k=>k rfl)] at hR;refine Yw (l:=U.ths) (by omega) fun ga e_=> ?_;have hr: ∀ r,Sees (Ag U r) (some ⟨ga,0,none⟩) (AB U):=fun r=>by rw [<-e_];exact bE r
 refine xo 7 ?_;obtain ⟨A1,m0⟩:=kL ((Ex.er (Ex.mk ek en a0 i b0 o el ea ec)).made g.er.pr U.cells U.ths[who].loc);have n0:=Yg (p:=g.er.pr) hO.cv hO.lv (s0 (by omega));rw [<-m0] at n0;try rw [show (U.ths[who].er).loc=U.ths[who].loc from rfl] at hR
 try rw [show U.er.cells=U.cells from rfl] at hR
 rw [<-m0] at hR;have k1:A1.2.2.length<=16777216:=cP n0.2 (by decide);refine Vn call166 leA (Jq (p:=p) (pp:=pp) (who:=who) (hwho:=f0) (Ex.sz (Ex.mk ek en a0 i b0 o el ea ec)) (e:=(Ex.mk ek en a0 i b0 o el ea ec)) (d:=24) (ev:=ev) (q:=q++F) (aL _) trivial (by decide) (s0 (by omega)) (by rw [l0];decide) (e1.le leA) (hP.le leA) hM hO.cl hO.cv hO.lv) ?_ ?_
 . rintro _ _ ⟨ht,rfl,f1,t0,rfl⟩;exact dA func132 (dX (by rw [<-m0] at ht t0|-;have u0:=hR;rw [if_pos ht] at u0;rw [u0];exact ⟨U,f1,⟨ht,rfl,by rw [t0];unfold PEv.ac;simp only [l0,aT]⟩,rfl⟩)) (by rw [aA];exact aE _)
 rintro _ _ ⟨r0,rfl,k0,o0,w0⟩;simp only [Zw,spP,Zr,evL,ca,na] at w0;subst w0;rw [<-m0] at r0 o0|-;rw [if_neg (fun k=>k r0)] at hR;rw [if_neg (by decide),if_neg (by decide),if_neg (by decide),if_pos rfl] at hR;refine rn [3,0,7,0,2] ?_;refine xp 18 ?_ ?_<;>intro h5
 . rw [if_neg (show ¬A1.1=0 by omega)] at hR;refine bY (q':=stars (U.ths.map trH)::_) Zk (bY (Nu f0 _) ?_);refine bY (q':=rsH trC 5 116 (some ⟨ga,0,none⟩) U.hc U.ths::_) (by rw [<-e_];exact Zk) ?_;refine xo 4 ?_;refine aO call95 (Jv (p:=p) (who:=who) (ga:=ga) (m:=U.ths.length) (c:=U.hc) (by rw [<-e_];exact clA) clA f0) ?_;refine oo 1 ?_;refine aO call95 (Jv (p:=p) (who:=who) (ga:=ga) (m:=U.ths.length) (c:=U.hc) (by rw [<-e_];exact clA) clA f0) ?_;refine oo 2 ?_;refine ld ?_ (hc:=(cT (n:=who) (bE _) leA Zd f0 rfl 3 _ rfl));refine oo 1 ?_;refine bQ (U3 (u:=(⟨yb,yo,(Stm.mk 5 ln cl nm wt (Ex.mk ek en a0 i b0 o el ea ec) (Ex.mk xk xn d0 xsl e0 c0 xl xa xc) bd g0 ba bc i0 h0 id sl ot j0)⟩:PS)) PS.v underlying114 W0 rfl rfl) ?_;rintro _ _ ⟨g2,rfl,rfl⟩;refine bQ (Yx (f:=PS.v) (l:=U.ths[who].todo) (m:= [(⟨yb,yo,(Stm.mk 5 ln cl nm wt (Ex.mk ek en a0 i b0 o el ea ec) (Ex.mk xk xn d0 xsl e0 c0 xl xa xc) bd g0 ba bc i0 h0 id sl ot j0)⟩:PS)]) underlying114 W0 rfl rfl rfl Zk ((bR _).le leA) (fun _=>rfl) (by have:=hO.td;simp only [bJ];omega) (by have:=hO.td;simp only [bJ];omega)) ?_;rintro _ _ ⟨a5,c5,rfl,rfl⟩;refine oo 2 ?_;refine dJ (Yr (g:=ga) (f:=trC) (l:=U.ths) (u:=({ U.ths[who] with ta:=a5,tc:=c5,todo:=U.ths[who].todo++ [(⟨yb,yo,(Stm.mk 5 ln cl nm wt (Ex.mk ek en a0 i b0 o el ea ec) (Ex.mk xk xn d0 xsl e0 c0 xl xa xc) bd g0 ba bc i0 h0 id sl ot j0)⟩:PS)] } :TC)) (n:=who) (k:=3) (j:=(who:Int)) rfl rfl sizeOf114 Zd rfl f0 rfl rfl rfl rfl Zk) ?_;rintro _ _ ⟨rfl,rfl⟩;refine rf [1,0,1,3,4,5,6] p0 ?_;refine Y2 1 call95 (Jv (p:=p) (who:=who) (ga:=ga) (m:=U.ths.length) (c:=U.hc) (by rw [<-e_];exact clA) clA f0) ?_ (hL:=(hlF p0));refine Wy 6 call84 (bM Zk Zk) (Zqo (gh:=ga) (n:=who) (hc:=U.hc) (ths:=U.ths) (x:=({ U.ths[who] with ta:=a5,tc:=c5,todo:=U.ths[who].todo++ [(⟨yb,yo,(Stm.mk 5 ln cl nm wt (Ex.mk ek en a0 i b0 o el ea ec) (Ex.mk xk xn d0 xsl e0 c0 xl xa xc) bd g0 ba bc i0 h0 id sl ot j0)⟩:PS)] } :TC)) (l:=bd) (a:=ba) (c:=bc) f0 (v0.le leA) ⟨by omega,by have:=hO.td;simp only [aG,bJ];omega⟩) ?_;rintro _ _ ⟨a1,c1,b1,o1,d1,rfl⟩;refine ⟨trivial,?_⟩;refine jV ?_;rw [<-e_];refine bY (q':=stars ((U.ths.set who ({ U.ths[who] with ta:=a1,tc:=c1,todo:=U.ths[who].todo++ [(⟨yb,yo,(Stm.mk 5 ln cl nm wt (Ex.mk ek en a0 i b0 o el ea ec) (Ex.mk xk xn d0 xsl e0 c0 xl xa xc) bd g0 ba bc i0 h0 id sl ot j0)⟩:PS)]++(psL b1 o1 bd).reverse } :TC)).map trH)::_) (aS (b:=lsH I64 2 (({ U.ths[who] with ta:=a1,tc:=c1,todo:=U.ths[who].todo++ [(⟨yb,yo,(Stm.mk 5 ln cl nm wt (Ex.mk ek en a0 i b0 o el ea ec) (Ex.mk xk xn d0 xsl e0 c0 xl xa xc) bd g0 ba bc i0 h0 id sl ot j0)⟩:PS)]++(psL b1 o1 bd).reverse } :TC)).la (({ U.ths[who] with ta:=a1,tc:=c1,todo:=U.ths[who].todo++ [(⟨yb,yo,(Stm.mk 5 ln cl nm wt (Ex.mk ek en a0 i b0 o el ea ec) (Ex.mk xk xn d0 xsl e0 c0 xl xa xc) bd g0 ba bc i0 h0 id sl ot j0)⟩:PS)]++(psL b1 o1 bd).reverse } :TC)).lc (({ U.ths[who] with ta:=a1,tc:=c1,todo:=U.ths[who].todo++ [(⟨yb,yo,(Stm.mk 5 ln cl nm wt (Ex.mk ek en a0 i b0 o el ea ec) (Ex.mk xk xn d0 xsl e0 c0 xl xa xc) bd g0 ba bc i0 h0 id sl ot j0)⟩:PS)]++(psL b1 o1 bd).reverse } :TC)).loc::lsH PS.v 146 (({ U.ths[who] with ta:=a1,tc:=c1,todo:=U.ths[who].todo++ [(⟨yb,yo,(Stm.mk 5 ln cl nm wt (Ex.mk ek en a0 i b0 o el ea ec) (Ex.mk xk xn d0 xsl e0 c0 xl xa xc) bd g0 ba bc i0 h0 id sl ot j0)⟩:PS)]++(psL b1 o1 bd).reverse } :TC)).ta (({ U.ths[who] with ta:=a1,tc:=c1,todo:=U.ths[who].todo++ [(⟨yb,yo,(Stm.mk 5 ln cl nm wt (Ex.mk ek en a0 i b0 o el ea ec) (Ex.mk xk xn d0 xsl e0 c0 xl xa xc) bd g0 ba bc i0 h0 id sl ot j0)⟩:PS)]++(psL b1 o1 bd).reverse } :TC)).tc (({ U.ths[who] with ta:=a1,tc:=c1,todo:=U.ths[who].todo++ [(⟨yb,yo,(Stm.mk 5 ln cl nm wt (Ex.mk ek en a0 i b0 o el ea ec) (Ex.mk xk xn d0 xsl e0 c0 xl xa xc) bd g0 ba bc i0 h0 id sl ot j0)⟩:PS)]++(psL b1 o1 bd).reverse } :TC)).todo::lsH I64 3 (({ U.ths[who] with ta:=a1,tc:=c1,todo:=U.ths[who].todo++ [(⟨yb,yo,(Stm.mk 5 ln cl nm wt (Ex.mk ek en a0 i b0 o el ea ec) (Ex.mk xk xn d0 xsl e0 c0 xl xa xc) bd g0 ba bc i0 h0 id sl ot j0)⟩:PS)]++(psL b1 o1 bd).reverse } :TC)).sa (({ U.ths[who] with ta:=a1,tc:=c1,todo:=U.ths[who].todo++ [(⟨yb,yo,(Stm.mk 5 ln cl nm wt (Ex.mk ek en a0 i b0 o el ea ec) (Ex.mk xk xn d0 xsl e0 c0 xl xa xc) bd g0 ba bc i0 h0 id sl ot j0)⟩:PS)]++(psL b1 o1 bd).reverse } :TC)).sc (({ U.ths[who] with ta:=a1,tc:=c1,todo:=U.ths[who].todo++ [(⟨yb,yo,(Stm.mk 5 ln cl nm wt (Ex.mk ek en a0 i b0 o el ea ec) (Ex.mk xk xn d0 xsl e0 c0 xl xa xc) bd g0 ba bc i0 h0 id sl ot j0)⟩:PS)]++(psL b1 o1 bd).reverse } :TC)).sp::stars (B7 U who)::_) (bM Zk (bM Zk (bM Zk Zk))) (Np f0 ({ U.ths[who] with ta:=a1,tc:=c1,todo:=U.ths[who].todo++ [(⟨yb,yo,(Stm.mk 5 ln cl nm wt (Ex.mk ek en a0 i b0 o el ea ec) (Ex.mk xk xn d0 xsl e0 c0 xl xa xc) bd g0 ba bc i0 h0 id sl ot j0)⟩:PS)]++(psL b1 o1 bd).reverse } :TC) _)) ?_;refine bY (q':=Zw p pp who ({ U with ths:=U.ths.set who ({ U.ths[who] with ta:=a1,tc:=c1,todo:=U.ths[who].todo++ [(⟨yb,yo,(Stm.mk 5 ln cl nm wt (Ex.mk ek en a0 i b0 o el ea ec) (Ex.mk xk xn d0 xsl e0 c0 xl xa xc) bd g0 ba bc i0 h0 id sl ot j0)⟩:PS)]++(psL b1 o1 bd).reverse } :TC) } :StC) ({ k0 with e:= { k0.e with value:=A1.1 } } :EvC)++(q++F)) (by unfold Zw spP Vt Zr;simp only [bC];exact leA) ?_
   refine Z7 (Zw p pp who ({ U with ths:=U.ths.set who ({ U.ths[who] with ta:=a1,tc:=c1,todo:=U.ths[who].todo++ [(⟨yb,yo,(Stm.mk 5 ln cl nm wt (Ex.mk ek en a0 i b0 o el ea ec) (Ex.mk xk xn d0 xsl e0 c0 xl xa xc) bd g0 ba bc i0 h0 id sl ot j0)⟩:PS)]++(psL b1 o1 bd).reverse } :TC) } :StC) ({ k0 with e:= { k0.e with value:=A1.1 } } :EvC)++q) func132 (Vm results132) (dG ⟨({ U with ths:=U.ths.set who ({ U.ths[who] with ta:=a1,tc:=c1,todo:=U.ths[who].todo++ [(⟨yb,yo,(Stm.mk 5 ln cl nm wt (Ex.mk ek en a0 i b0 o el ea ec) (Ex.mk xk xn d0 xsl e0 c0 xl xa xc) bd g0 ba bc i0 h0 id sl ot j0)⟩:PS)]++(psL b1 o1 bd).reverse } :TC) } :StC),({ k0 with e:= { k0.e with value:=A1.1 } } :EvC),⟨by rw [hR],by rw [hR];dsimp only;rw [W7];congr 1;simp only [TC.er,aM,jS,Gw,iM,kE,bP,eM,jD,jT,aT,aA,Stm.er,cM],by rw [hR];dsimp only;rw [o0];unfold PEv.ac;simp only [l0,aT],(hTd.and ((hyA.and v0))).imp fun M h t ht z hz=>by
    rcases bO ht with ht|rfl
    . exact h.1 t ht z hz
    rcases aQ.1 hz with hz|hz
    . rcases aQ.1 hz with hz|hz
      . exact h.1 _ (aB f0) z hz
      rw [aZ.1 hz];exact h.2.1
    have q0:=jR.1 hz;have hb:=h.2.2;rw [d1 (by rw [<-Mj b1 o1 bd];exact jJ q0)] at hb;exact Gx hb z q0⟩,rfl⟩) (by rw [aA];exact aE _)
 rw [if_pos (show A1.1=0 by omega)] at hR;refine xx 2 ?_;refine Z7 (Zw p pp who U ({ k0 with e:= { k0.e with value:=A1.1 } } :EvC)++q) func132 (Vm results132) (dG ⟨U,({ k0 with e:= { k0.e with value:=A1.1 } } :EvC),⟨by rw [hR],by rw [hR];dsimp only;rw [aT];exact (G0 f0).symm,by rw [hR];dsimp only;rw [o0];unfold PEv.ac;simp only [l0,aT],hTd⟩,rfl⟩) (by rw [aA];exact aE _)
theorem Zqz (hP:Prg q pp g)(hM:MayP g.er)(hO:PO g N who U)(hev:ev.e.acc= []/\ev.e.syn= [])(hyA:Kn q fun M=>y.At M)(hg:y.s.er.good g.er.cn (U.ths[who]'(hO.w)).loc.length)(hTd:Kn q fun M=>TodoAt M U.ths)(hk:y.s.er.kd=15):CallF prog G 142 (A9 p y) (Zw p pp who U ev++q) (RP (fun v q'=> ∃ (U':StC) (ev':EvC),((U.er.data g.er.pr who y.s.er ev.e).2.2=0/\U'.er=(U.er.data g.er.pr who y.s.er ev.e).1/\ev'.e=(U.er.data g.er.pr who y.s.er ev.e).2.1/\Kn q fun M=>TodoAt M U'.ths)/\q'=Zw p pp who U' ev'++q) (fun ch q'=> ∃ (U':StC) (ev':EvC),((U.er.data g.er.pr who y.s.er ev.e).2.2≠0/\ch= [Vd (U.er.data g.er.pr who y.s.er ev.e).2.2]/\ev'.e=(U.er.data g.er.pr who y.s.er ev.e).2.1)/\q'=Zw p pp who U' ev'++q)):=by
 refine aC func142 ntmps142 rfl fun F cs=> ?_;obtain ⟨yb,yo,ys⟩:=y;obtain ⟨kk,ln,cl,nm,wt,⟨u,r,f,b,i,c,t,z,x⟩,⟨xk,xn,b0,xsl,c0,a0,xl,xa,xc⟩,bd,i0,ba,bc,l0,k0,id,sl,ot,m0⟩:=ys;have r0:=eR hyA;dsimp only at r0 hg hyA hk|-;simp only [Stm.er,PStm.kd] at hk;have j:=hO.w;have h8:=hO.h8;have z0:=hO.y;have g1:=hO.n9;obtain ⟨l,y0⟩:=hev;have q0:Kn q fun M=>ExAt M ⟨yb,yo+5,none⟩ (Ex.mk u r f b i c t z x):=hyA.imp fun M h=>Yj (pre:= (A6 kk ln cl nm wt)) h.1 rfl h.2.1 rfl
 have h1:Kn q fun M=>ExAt M ⟨yb,yo+12,none⟩ (Ex.mk xk xn b0 xsl c0 a0 xl xa xc):=hyA.imp fun M h=>Yj (pre:= (A6 kk ln cl nm wt)++exC (Ex.mk u r f b i c t z x)) h.1 rfl h.2.2.1 rfl
 have j1:Kn q fun M=>BlkAt M ba bc bd:=hyA.imp fun M h=>h.2.2.2.1;have i1:Kn q fun M=>BlkAt M l0 k0 i0:=hyA.imp fun M h=>⟨h.2.2.2.2.1,h.2.2.2.2.2⟩
 obtain ⟨p0,o0,n0,_⟩:=hg;obtain ⟨e1,d1,c1,b1,a1,t0,w0,v0,u0⟩:=Yu o0;obtain ⟨e0,f1⟩:=Wn p0;rw [Zg,Zg] at n0;obtain ⟨R,a⟩:=kL (U.er.data g.er.pr who (Stm.er (Stm.mk kk ln cl nm wt (Ex.mk u r f b i c t z x) (Ex.mk xk xn b0 xsl c0 a0 xl xa xc) bd i0 ba bc l0 k0 id sl ot m0)) ev.e);rw [<-a];unfold SS.data at a;simp only [Stm.er] at a;rw [Ze j] at a;change X _ _ _ _ _ _ _ _ (A3 p pp U who ev q F);obtain rfl:kk=15:=(by omega);rw [if_neg (show ¬ (15:Int)=3 by decide)] at a;try dsimp only at a
 rw [if_neg (fun k=>k rfl)] at a;refine xo 7 ?_;obtain ⟨A1,m⟩:=kL ((Ex.er (Ex.mk u r f b i c t z x)).made g.er.pr U.cells U.ths[who].loc);have o:=Yg (p:=g.er.pr) hO.cv hO.lv (e0 (by omega));rw [<-m] at o;try rw [show (U.ths[who].er).loc=U.ths[who].loc from rfl] at a
 try rw [show U.er.cells=U.cells from rfl] at a
 rw [<-m] at a;have x0:A1.2.2.length<=16777216:=cP o.2 (by decide);refine Vn call166 leA (Jq (p:=p) (pp:=pp) (who:=who) (hwho:=j) (Ex.sz (Ex.mk u r f b i c t z x)) (e:=(Ex.mk u r f b i c t z x)) (d:=24) (ev:=ev) (q:=q++F) (aL _) trivial (by decide) (e0 (by omega)) (by rw [l];decide) (q0.le leA) (hP.le leA) hM hO.cl hO.cv hO.lv) ?_ ?_
 . rintro _ _ ⟨ht,rfl,s0,f0,rfl⟩;exact dA func142 (dX (by rw [<-m] at ht f0|-;have h0:=a;rw [if_pos ht] at h0;rw [h0];exact ⟨U,s0,⟨ht,rfl,by rw [f0];unfold PEv.ac;simp only [l,aT]⟩,rfl⟩)) (by rw [aA];exact aE _)
 rintro _ _ ⟨d0,rfl,n,g0,j0⟩;simp only [Zw,spP,Zr,evL,ca,na] at j0;subst j0;rw [<-m] at d0 g0|-;rw [if_neg (fun k=>k d0)] at a;rw [if_neg (by decide),if_neg (by decide),if_neg (by decide),if_neg (by decide),if_neg (by decide)] at a;refine rn [3,0,6,0,1] ?_;refine Z7 (Zw p pp who U ({ n with e:= { n.e with told:=true,outv:=A1.1 } } :EvC)++q) func142 (Vm results142) (dG ⟨U,({ n with e:= { n.e with told:=true,outv:=A1.1 } } :EvC),⟨by rw [a],by rw [a],by rw [a];dsimp only;rw [g0];unfold PEv.ac;simp only [l,aT],hTd⟩,rfl⟩) (by unfold Zw spP;exact leA)
abbrev AD (v0:StC)(v1:PS):=(v0.sy.chans.getD v1.s.er.slt.toNat ch0)
theorem xsend_ok (hP:Prg q pp g)(hM:MayP g.er)(hO:PO g N who U)(hev:ev.e.acc= []/\ev.e.syn= [])(hyA:Kn q fun M=>y.At M)(hg:y.s.er.good g.er.cn (U.ths[who]'(hO.w)).loc.length)(hTd:Kn q fun M=>TodoAt M U.ths)(hk:y.s.er.kd=11)(hroom:((AD U y).items.length:Int)<(AD U y).room):CallF prog G 138 (A9 p y) (Zw p pp who U ev++q) (RP (fun v q'=> ∃ (U':StC) (ev':EvC),((U.er.data g.er.pr who y.s.er ev.e).2.2=0/\U'.er=(U.er.data g.er.pr who y.s.er ev.e).1/\ev'.e=(U.er.data g.er.pr who y.s.er ev.e).2.1/\Kn q fun M=>TodoAt M U'.ths)/\q'=Zw p pp who U' ev'++q) (fun ch q'=> ∃ (U':StC) (ev':EvC),((U.er.data g.er.pr who y.s.er ev.e).2.2≠0/\ch= [Vd (U.er.data g.er.pr who y.s.er ev.e).2.2]/\ev'.e=(U.er.data g.er.pr who y.s.er ev.e).2.1)/\q'=Zw p pp who U' ev'++q)):=by
 refine aC func138 ntmps138 rfl fun F cs=> ?_;obtain ⟨yb,yo,ys⟩:=y;obtain ⟨kk,ln,cl,nm,wt,⟨ek,z,f,b,i,c,el,ea,ec⟩,⟨xk,xn,b0,xsl,c0,a0,xl,xa,xc⟩,bd,j0,ba,bc,m0,l0,id,sl,ot,n0⟩:=ys;have n:=eR hyA;dsimp only at n hg hyA hk|-;simp only [Stm.er,PStm.kd] at hk;have j:=hO.w;have h8:=hO.h8;have o0:=hO.y;have i1:=hO.n9;obtain ⟨m,r⟩:=hev;have u0:Kn q fun M=>ExAt M ⟨yb,yo+5,none⟩ (Ex.mk ek z f b i c el ea ec):=hyA.imp fun M h=>Yj (pre:= (A6 kk ln cl nm wt)) h.1 rfl h.2.1 rfl
 have j1:Kn q fun M=>ExAt M ⟨yb,yo+12,none⟩ (Ex.mk xk xn b0 xsl c0 a0 xl xa xc):=hyA.imp fun M h=>Yj (pre:= (A6 kk ln cl nm wt)++exC (Ex.mk ek z f b i c el ea ec)) h.1 rfl h.2.2.1 rfl
 have l1:Kn q fun M=>BlkAt M ba bc bd:=hyA.imp fun M h=>h.2.2.2.1;have k1:Kn q fun M=>BlkAt M m0 l0 j0:=hyA.imp fun M h=>⟨h.2.2.2.2.1,h.2.2.2.2.2⟩
 obtain ⟨s0,r0,q0,_⟩:=hg;obtain ⟨f1,e1,d1,c1,b1,x0,e0,z0,y0⟩:=Yu r0;obtain ⟨f0,g1⟩:=Wn s0;rw [Zg,Zg] at q0;obtain ⟨R,a⟩:=kL (U.er.data g.er.pr who (Stm.er (Stm.mk kk ln cl nm wt (Ex.mk ek z f b i c el ea ec) (Ex.mk xk xn b0 xsl c0 a0 xl xa xc) bd j0 ba bc m0 l0 id sl ot n0)) ev.e);rw [<-a];unfold SS.data at a;simp only [Stm.er] at a;rw [Ze j] at a;change X _ _ _ _ _ _ _ _ (A3 p pp U who ev q F);obtain rfl:kk=11:=(by omega);rw [if_neg (show ¬ (11:Int)=3 by decide)] at a;try dsimp only at a
 rw [if_neg (fun k=>k rfl)] at a;have u:=e0 (.inl rfl);have h1:=hO.ch;refine rf [1,0,1,2,3,4,5,6,7,8,9,10,11,12,13] n ?_;obtain ⟨A1,o⟩:=kL ((Ex.er (Ex.mk ek z f b i c el ea ec)).made g.er.pr U.cells U.ths[who].loc);have l:=Yg (p:=g.er.pr) hO.cv hO.lv (f0 (by omega));rw [<-o] at l;try rw [show (U.ths[who].er).loc=U.ths[who].loc from rfl] at a
 try rw [show U.er.cells=U.cells from rfl] at a
 rw [<-o] at a;have a1:A1.2.2.length<=16777216:=cP l.2 (by decide);refine Fl 13 call166 leA (Jq (p:=p) (pp:=pp) (who:=who) (hwho:=j) (Ex.sz (Ex.mk ek z f b i c el ea ec)) (e:=(Ex.mk ek z f b i c el ea ec)) (d:=24) (ev:=ev) (q:=q++F) (aL _) trivial (by decide) (f0 (by omega)) (by rw [m];decide) (u0.le leA) (hP.le leA) hM hO.cl hO.cv hO.lv) ?_ ?_ trivial
 . rintro _ _ ⟨ht,rfl,v0,g0,rfl⟩;exact dA func138 (dX (by rw [<-o] at ht g0|-;have h0:=a;rw [if_pos ht] at h0;rw [h0];exact ⟨U,v0,⟨ht,rfl,by rw [g0];unfold PEv.ac;simp only [m,aT]⟩,rfl⟩)) (by rw [aA];exact aE _)
 rintro _ _ ⟨d0,rfl,w0,x,k0⟩;simp only [Zw,spP,Zr,evL,ca,na] at k0;subst k0;refine ⟨(hlF n),?_⟩;rw [<-o] at d0 x|-;rw [if_neg (fun k=>k d0)] at a;rw [if_neg (by decide),if_neg (by decide),if_neg (by decide),if_neg (by decide),if_pos rfl] at a;refine Ua 14 call174 (Send_Y (k:=sl) (t:=A1.1) o0 (by omega)) ?_;refine kc0 ?_;refine rf [16,17,18,19,20,21,22,0,5,0,1] n ?_;refine Zb call98 leA (V8 (p:=p) (pp:=pp) (who:=who) (U:=({ U with sy:=(Vf U.sy sl A1.1).1 } :StC)) (ev:=w0) (q:=q++F) (by rw [x];unfold PEv.ac;dsimp only;rw [r];decide)) ?_;rintro _ _ ⟨i0,t0,rfl⟩;refine ox 1 ?_;replace hroom:((U.sy.chans.getD sl.toNat ch0).items.length:Int)<(U.sy.chans.getD sl.toNat ch0).room:=hroom;have p0:(Vf U.sy sl A1.1).2.1=((U.sy.chans.getD sl.toNat ch0).all.length:Int):=by unfold Vf;rw [if_pos ⟨u.1,by omega⟩,if_pos l.1,if_pos hroom]
 refine Z7 (Zw p pp who ({ U with sy:=(Vf U.sy sl A1.1).1 } :StC) i0++q) func138 (Vm results138) (dG ⟨({ U with sy:=(Vf U.sy sl A1.1).1 } :StC),i0,⟨by rw [a],by rw [a];rfl,by rw [a,t0,x,p0];unfold PEv.ac PEv.sn;dsimp only;rw [m,r,fU (by omega)];simp;rfl,hTd⟩,rfl⟩) (by rw [aA];exact aE _)
end
structure SS.fine (F:Fnd) (N:Nat) (s:SS):Prop where
 ok:SS.ok F N s
 u:s.sy.conds.flatten.Nodup
 q: ∀ t∈s.ths,t.sp.length<s.ths.length
structure PTr.ok0 (F:Fnd) (N nth:Nat) (t:PTr):Prop where
 d:0<=t.decl/\t.decl<F.ths.length
 s:1<=t.st/\t.st<=4
 l:t.loc.length<=32
 v: ∀ x∈t.loc,val x
 g:Wm F.cn t.loc.length t.left
 n:t.left.length<=600*(N+1)
 p:t.sp.length<nth/\ ∀ i∈t.sp,0<=i/\i<nth
structure PTr.ok1 (t:PTr):Prop where
 e:t.left= []↔t.st=4
 w:t.st=2\/t.st=3->t.next.kd=8
theorem ThOk.parts {nth:Nat}(h:ThOk F N nth t)(q:t.sp.length<nth):t.ok0 F N nth/\t.ok1:=⟨⟨h.d,h.s,h.l,h.v,h.g,h.n,q,h.p.2⟩,⟨h.e,h.w⟩⟩
theorem ThOk.of {nth:Nat}(h:t.ok0 F N nth)(k:t.ok1)(l:nth<=8):ThOk F N nth t:=⟨h.d,h.s,h.l,h.v,h.g,h.n,k.e,k.w,by have:=h.p.1;omega,h.p.2⟩
structure SS.okx (F:Fnd) (N n:Nat) (s:SS):Prop where
 c:(s.cells.length:Int)=F.vars.length+Y7 F.arrs
 v: ∀ x∈s.cells,val x
 y:s.sy.ok N
 z:(s.sy.owners.length:Int)=F.mu/\(s.sy.conds.length:Int)=F.co/\s.sy.chans.map Ch.room=F.chs
 t:1<=s.ths.length/\s.ths.length<=8
 nn:n<s.ths.length
 h: ∀ i,i<s.ths.length->(s.th i).ok0 F N s.ths.length
 o: ∀ i,i<s.ths.length->i≠n->(s.th i).ok1
 m:(s.th n).st=1\/((s.th n).st=2/\(s.th n).next.kd=8/\(s.th n).left≠ [])
 w: ∀ l∈s.sy.conds,∀ t∈l,t.toNat<s.ths.length/\(s.th t.toNat).st=2
 u:s.sy.conds.flatten.Nodup
theorem SS.put_len (s:SS)(n:Nat)(t:PTr):(s.put n t).ths.length=s.ths.length:=by simp [SS.put]
abbrev dZ:=@SS.put_len
theorem Un (h:n<s.ths.length)(i:Nat):(s.put n t).th i=if i=n then t else s.th i:=by
 unfold SS.th SS.put;by_cases e:i=n
 . subst e;simp [List.getD,h]
 rw [if_neg e];simp only [bD,List.getElem?_set_ne (Ne.symm e)]
theorem PTr.ok0.mono {m m':Nat}(h:t.ok0 F N m)(l:N<=N')(k:m<=m'):t.ok0 F N' m':=
 ⟨h.d,h.s,h.l,h.v,h.g,by have:=h.n;omega,by have:=h.p.1;omega,fun i a=>by have:=h.p.2 i a;omega⟩
theorem SS.okx.mono (h:s.okx F N n)(l:N<=N'):s.okx F N' n:=
 ⟨h.c,h.v,h.y.mono l,h.z,h.t,h.nn,fun i hi=>(h.h i hi).mono l (aL _),h.o,h.m,h.w,h.u⟩
theorem SS.okx.put (h:s.okx F N n)(h0:t.ok0 F N s.ths.length)(hm:t.st=1\/(t.st=2/\t.next.kd=8/\t.left≠ []))(hw:(s.th n).st=2->t.st=2):(s.put n t).okx F N n:=by
 have b:=s.put_len n t;have f:=Un (t:=t) h.nn;refine ⟨h.c,h.v,h.y,h.z,by rw [b];exact h.t,by rw [b];exact h.nn,fun i d=> ?_,fun i d a=> ?_,?_,fun l j k p=> ?_,h.u⟩
 . rw [b] at d|-;rw [f];split
   . exact h0
   exact h.h i d
 . rw [b] at d;rw [f,if_neg a];exact h.o i d a
 . rw [f,if_pos rfl];exact hm
 obtain ⟨m,g⟩:=h.w l j k p;rw [b,f];refine ⟨m,?_⟩;split
 . rename_i e;rw [e] at g;exact hw g
 exact g
theorem SS.okx.cell {l:List Int}(h:s.okx F N n)(hl:l.length=s.cells.length)(hv: ∀ x∈l,val x):({ s with cells:=l } :SS).okx F N n:=
 ⟨by show (l.length:Int)=_;rw [hl];exact h.c,hv,h.y,h.z,h.t,h.nn,h.h,h.o,h.m,h.w,h.u⟩
theorem SS.okx.sync {y:Sy}(h:s.okx F N n)(l:N<=N')(hy:y.ok N')(h1:y.owners.length=s.sy.owners.length)(h2:y.conds=s.sy.conds)(h3:y.chans.map Ch.room=s.sy.chans.map Ch.room):({ s with sy:=y } :SS).okx F N' n:=
 ⟨h.c,h.v,hy,⟨by show (y.owners.length:Int)=_;rw [h1];exact h.z.1,by show (y.conds.length:Int)=_;rw [h2];exact h.z.2.1,by show y.chans.map Ch.room=_;rw [h3];exact h.z.2.2⟩,h.t,h.nn,fun i a=>(h.h i a).mono l (aL _),h.o,h.m,by show ∀ l∈y.conds,_;rw [h2];exact h.w,by show y.conds.flatten.Nodup;rw [h2];exact h.u⟩
theorem Gz {l:List Int}(h: ∀ x∈l,val x)(hv:val v): ∀ x∈l.set i v,val x:=fun x a=>by
 rcases bO a with a|rfl
 . exact h x a
 exact hv
theorem SS.okx.into {slot:Int}{loc:Bool}(h:s.okx F N n)(hv:val v):(s.into n slot loc v).1.okx F N n/\((s.into n slot loc v).1.th n).st=(s.th n).st:=by
 unfold SS.into;split
 . have k:=h.h n h.nn;refine ⟨h.put ⟨k.d,k.s,by simpa using k.l,Gz k.v hv,by rw [bC];exact k.g,k.n,k.p⟩ (by exact h.m) (fun e=>e),?_⟩;dsimp only;rw [Un h.nn,if_pos rfl]
 exact ⟨h.cell (by simp) (Gz h.v hv),rfl⟩
theorem Ca (s:Sy)(k v:Int):(Vf s k v).1.conds=s.conds:=by unfold Vf;(repeat' split)<;>rfl
theorem Zqd (s:Sy)(k v:Int):(Vf s k v).1.owners=s.owners:=by unfold Vf;(repeat' split)<;>rfl
theorem Ci {l:List Ch}{x:Ch}(h:x.room=(l.getD i ch0).room):(l.set i x).map Ch.room=l.map Ch.room:=by
 rw [fP];apply hU (by simp);intro j b a;by_cases e:i=j
 . subst e;have:i<l.length:=by simpa using a
   simp [h,List.getD,this]
 simp [iL e]
theorem Sz (s:Sy)(k v:Int):(Vf s k v).1.chans.map Ch.room=s.chans.map Ch.room:=by
 unfold Vf;split
 . split
   . split
     . exact Ci rfl
     rfl
   rfl
 rfl
theorem Sx (s:Sy)(k:Int):(Vq s k).1.chans.map Ch.room=s.chans.map Ch.room:=by
 unfold Vq;split
 . split
   . rfl
   exact Ci rfl
 rfl
theorem Dn (s:Sy)(m t:Int):(Ws s m t).1.owners.length=s.owners.length/\(Ws s m t).1.conds=s.conds/\(Ws s m t).1.chans=s.chans:=by
 unfold Ws;(repeat' split)<;>simp
theorem Nt (s:Sy)(m t:Int):(Z6 s m t).1.owners.length=s.owners.length/\(Z6 s m t).1.conds=s.conds/\(Z6 s m t).1.chans=s.chans:=by
 unfold Z6;(repeat' split)<;>simp
theorem Dd (h:n<s.ths.length):((s.put n t).th n)=t:=by rw [Un h,if_pos rfl]
theorem Ia {x:PStm}{ev:PEv}(h:s.okx F N n)(hM:MayP F)(hs:(s.th n).st=1)(hx:x.good F.cn (s.th n).loc.length)(hl:(s.th n).left.length+1<=600*(N+1))(hk:x.kd<=5\/x.kd=11\/x.kd=15)(ht:(s.data F.pr n x ev).2.2=0):(s.data F.pr n x ev).1.okx F (N+1) n:=by
 have u:=h.mono (cX N);obtain ⟨k,ln,cl,nm,wt,e,ix,g0,o0,id,b0,w,loc⟩:=x;simp only [PStm.kd] at hk;obtain ⟨r,q,a0,f,o⟩:=hx;obtain ⟨m0,l0,j0,i0,h0,c0,f0,e0,d0⟩:=Yu q;obtain ⟨z,n0⟩:=Wn r;have c:=h.h n h.nn;have j:=(Yg (p:=F.pr) h.v c.v (z (by omega))).1;unfold SS.data at ht|-;dsimp only at ht|-;generalize (if k=3 then ix.made F.pr s.cells (s.th n).loc else (0,0, []))=i at ht|-;generalize e.made F.pr s.cells (s.th n).loc=v at ht|-j;split at ht
 . rename_i h1;exact aR ht h1
 rename_i h1;rw [if_neg h1];split at ht
 . rename_i h2;exact aR ht h2
 rename_i h2;rw [if_neg h2];split at ht
 . rename_i h3;rw [if_pos h3];exact (u.into j).1
 rename_i h3;rw [if_neg h3];split at ht
 . rename_i h4;rw [if_pos h4];split at ht
   . exact aR ht (by show ¬ (3:Int)=0;decide)
   rename_i t;rw [if_neg t];exact u.cell (by simp) (Gz h.v j)
 rename_i h4;rw [if_neg h4]
 have b: ∀ m:List PStm,m.length<=513->Wm F.cn (s.th n).loc.length m->(s.put n { s.th n with left:=m++(s.th n).left }).okx F (N+1) n:=fun m hm hg=>by
  refine u.put ⟨c.d,c.s,c.l,c.v,Y9.2 fun y a=> ?_,by simp only [aG];omega,c.p⟩ (.inl hs) (fun e=>e);rcases aQ.1 a with a|a
  . exact Y9.1 hg y a
  exact Y9.1 c.g y a
 split at ht
 . rename_i t;rw [if_pos t];split
   . exact b _ (by omega) o
   exact b _ (by omega) f
 rename_i t;rw [if_neg t];split at ht
 . rename_i h6;rw [if_pos h6];split
   . exact b _ (by simp) trivial
   refine b _ (by simp only [aG,bJ];omega) (Y9.2 fun y a=> ?_);rcases aQ.1 a with a|a
   . exact Y9.1 f y a
   rw [aZ.1 a];exact ⟨r,q,a0,f,o⟩
 rename_i h6;rw [if_neg h6];split at ht
 . rename_i h7;rw [if_pos h7];exact h.sync (cX N) (sendS_ok h.y _ _) (by rw [Zqd]) (Ca _ _ _) (Sz _ _ _)
 rename_i h7;rw [if_neg h7];exact u
end Go.Proofs.YtflkjkhijcdbaaaGreat
