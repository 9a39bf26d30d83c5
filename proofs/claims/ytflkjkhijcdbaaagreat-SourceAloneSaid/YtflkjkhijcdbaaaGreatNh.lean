/- Contracts. -/
import Derived.Test.YtflkjkhijcdbaaaGreatNg
set_option maxHeartbeats 16000000
set_option maxRecDepth 100000
set_option linter.all false
namespace Go.Proofs.YtflkjkhijcdbaaaGreat
open Go Go.RowKit Wx Go.Proofs.Tryz
attribute [local irreducible] lsH rsH stars
variable {s:SS}{m t d k sl ot u:Int}{N n pp who nb:Nat}{x:PStm}{y:PS}{g:FC}{U:StC}{G:World}{q pre C:List HP}{p:PPr}{ev:EvC}{bb:Bool}{F:Fnd}{P:Program}{fn:FuncId}{vs:List Value}{R:StC->EvC->Prop}{fv:Value}{Rp:StC->EvC->List PanicEntry->Prop}
theorem CallF.fr {P:Program}{G:World}{fn:FuncId}{vs:List Value}{pre:List HP}{R:Value->List HP->Prop}(E:List HP)(h:CallF P G fn vs pre (Ret R)):CallF P G fn vs (pre++E) (Ret fun v q'=> ∃ q0,R v q0/\q'=q0++E):=by
 intro F w s g;rw [aA] at s;obtain ⟨e,d,fr,⟨b,q,c,f⟩,a⟩:=h (E++F) w s g;obtain ⟨v,rfl,c⟩:=c;exact ⟨_,d,fr,⟨b,q++E,⟨v,rfl,q,c,rfl⟩,by rw [aA];exact f⟩,a⟩
theorem lockS_b {s:Sy}(h:inR m s.owners.length)(ht:thr t):(Ws s m t).2.1=decide (s.owners.getD m.toNat 0= -1):=by
 unfold Ws;rw [if_pos h,if_pos ht];split<;>simp_all
theorem lockS_no {s:Sy}(h:s.owners.getD m.toNat 0≠ -1):(Ws s m t).1=s:=by
 unfold Ws;(repeat' split)<;>first|rfl|(exfalso;exact h (by assumption))
theorem Zqv {s:Sy}(h:inR m s.owners.length)(ht:thr t):(Z6 s m t).2=if s.owners.getD m.toNat 0=t then 0 else 140:=by
 unfold Z6;rw [if_pos h,if_pos ht];split<;>simp_all
theorem L7 {s:Sy}(h:s.owners.getD m.toNat 0≠t):(Z6 s m t).1=s:=by
 unfold Z6;(repeat' split)<;>first|rfl|(exfalso;exact h (by assumption))
theorem F1 (e:PEv)(a b:List Sn):(e.sn a).sn b=e.sn (a++b):=by unfold PEv.sn;simp
theorem Eg (e:PEv):e.sn []=e:=by unfold PEv.sn;simp
def StC.wake (U:StC):List Int->StC
 | []=>U
 |i::r=>StC.wake { U with ths:=U.ths.set i.toNat { U.ths.getD i.toNat zTC with st:=3 } } r
theorem Fs (U:StC)(n:Nat):U.er.th n=(U.ths.getD n zTC).er:=by
 by_cases h:n<U.ths.length
 . rw [Ze h,Wl h]
 have a: ¬n<U.er.ths.length:=by rw [eP];exact h
 unfold SS.th;rw [bD,cF (by omega),bD,cF (by omega)];rfl
theorem Rb: ∀ (l:List Int) (U:StC),(U.wake l).er=U.er.wake l
 | [],_=>rfl
 |i::r,U=>by
  show (StC.wake _ r).er=SS.wake _ r
  rw [Rb r,W7,Fs];rfl
def Vb (l:List TC):List Int->List TC
 | []=>l
 |i::r=>Vb (l.set i.toNat { l.getD i.toNat zTC with st:=3 }) r
theorem Rf: ∀ (m:List Int) (U:StC),U.wake m= { U with ths:=Vb U.ths m }
 | [],_=>rfl
 |i::r,U=>by show StC.wake _ r=_;rw [Rf r];rfl
theorem E9: ∀ (m n:List Int) (l:List TC),Vb l (m++n)=Vb (Vb l m) n
 | [],_,_=>rfl
 |i::r,n,l=>by show Vb _ (r++n)=_;rw [E9 r n];rfl
theorem Kj: ∀ (m:List Int) (l:List TC),(Vb l m).length=l.length
 | [],_=>rfl
 |i::r,l=>by show (Vb _ r).length=_;rw [Kj r,bC]
theorem Ri: ∀ (m:List Int) (l:List TC),(Vb l m).map trH=l.map trH
 | [],_=>rfl
 |i::r,l=>by
  show (Vb _ r).map trH=_
  rw [Ri r];by_cases h:i.toNat<l.length
  . exact Rl h (by rw [Wl h];rfl)
  rw [iW (by omega)]
theorem By: ∀ (m:List Int) (l:List TC),(Vb l m).map TC.todo=l.map TC.todo
 | [],_=>rfl
 |i::r,l=>by
  show (Vb _ r).map TC.todo=_
  rw [By r];by_cases h:i.toNat<l.length
  . exact Hc h (by rw [Wl h])
  rw [iW (by omega)]
theorem set_mem {l:List Int}{i:Nat}{v x:Int}(h:x∈l.set i v):x∈l\/x=v:=bO h
theorem F5 {s:Sy}(h:s.ok N):(Z6 s m t).1.ok N:=by
 unfold Z6;split
 . split
   . split
     . refine ⟨by simpa using h.no,h.nc,h.nh,fun o a=> ?_,h.c,h.h⟩;rcases set_mem a with a|rfl
       . exact h.o o a
       omega
     exact h
   exact h
 exact h
theorem Zqw {M:Hp}{l:List TC}{x:TC}(hn:n<l.length)(hT:TodoAt M l)(hy:y.At M)(hx:x.todo=l[n].todo++ [y]):TodoAt M (l.set n x):=by
 intro t b z a;rcases bO b with b|rfl
 . exact hT t b z a
 rw [hx] at a;rcases aQ.1 a with a|a
 . exact hT _ (aB hn) z a
 rw [aZ.1 a];exact hy
theorem Ss (l:List Int)(n:Nat):l.getD n 0=(l.drop n).headD 0:=by
 simp [List.headD_eq_head?_getD,List.head?_drop]
theorem Fz (s:Sy)(k:Int):(Vq s k).1.owners=s.owners:=by unfold Vq;(repeat' split)<;>rfl
theorem Bl (s:Sy)(k:Int):(Vq s k).1.conds=s.conds:=by unfold Vq;(repeat' split)<;>rfl
theorem Zqt (s:Sy)(k:Int):(Vq s k).1.chans.length=s.chans.length:=by unfold Vq;(repeat' split)<;>simp
theorem PO.sy {g:FC}{N who:Nat}{U:StC}{y:Sy}(h:PO g N who U)(hy:y.ok N)(h1:y.owners.length=U.sy.owners.length)(h2:y.conds=U.sy.conds)(h3:y.chans.length=U.sy.chans.length):PO g N who { U with sy:=y } :=
 ⟨h.w,h.h8,h.cl,h.cv,h.lv,h.ll,hy,h.n9,by rw [show ({ U with sy:=y } :StC).sy=y from rfl,h1];exact h.mu,by rw [show ({ U with sy:=y } :StC).sy=y from rfl,h2];exact h.co,by rw [show ({ U with sy:=y } :StC).sy=y from rfl,h3];exact h.ch,by rw [show ({ U with sy:=y } :StC).sy=y from rfl,h2];exact h.cd,h.td,h.sp⟩
def SS.woken (s:SS)(n:Nat)(x:PStm)(ev:PEv):SS×PEv×Int:=
 ({ (s.put n { s.th n with st:=1 }) with sy:=(Ws s.sy x.oth n).1 },({ ev with woke:=true } :PEv).sn [(1,x.oth,0)],0)
theorem Le.stars_snoc (A:List HP)(B:HP)(r:List HP):Le (stars A::B::r) (stars (A++ [B])::r):=
 (Z1 A (B::r)).trans (by have:=Z5 (A++ [B]) r;rwa [aA] at this)
theorem spawn_er {a c:Nat}{aa sa:Option Addr}{T:TC}(hn:n<U.ths.length)(hT:T.er=Wc g.er.pr d):
 ({ U with ha:=aa,hc:=a,ths:=U.ths.set n { U.ths[n] with sa:=sa,sc:=c,sp:=U.ths[n].sp++ [(U.ths.length:Int)] } ++ [T] } :StC).er= { U.er.put n { (U.ths[n]).er with sp:=(U.ths[n]).er.sp++ [(U.ths.length:Int)] } with ths:=(U.er.put n { (U.ths[n]).er with sp:=(U.ths[n]).er.sp++ [(U.ths.length:Int)] }).ths++ [Wc g.er.pr d] } :=by
 unfold StC.er SS.put;simp only [aM,fP,bP,eM,hT];rfl
section
variable {p:Nat}
theorem xlock_ok (hP:Prg q pp g)(hM:MayP g.er)(hO:PO g N who U)(hev:ev.e.acc= []/\ev.e.syn= [])(hyA:Kn q fun M=>y.At M)(hg:y.s.er.good g.er.cn (U.ths[who]'(hO.w)).loc.length)(hTd:Kn q fun M=>TodoAt M U.ths)(hk:y.s.er.kd=6):CallF prog G 133 (A9 p y) (Zw p pp who U ev++q) (RP (fun v q'=> ∃ (U':StC) (ev':EvC),((U.er.others g.er.pr who y.s.er ev.e).2.2=0/\U'.er=(U.er.others g.er.pr who y.s.er ev.e).1/\ev'.e=(U.er.others g.er.pr who y.s.er ev.e).2.1/\Kn q fun M=>TodoAt M U'.ths)/\q'=Zw p pp who U' ev'++q) (fun ch q'=> ∃ (U':StC) (ev':EvC),((U.er.others g.er.pr who y.s.er ev.e).2.2≠0/\ch= [Vd (U.er.others g.er.pr who y.s.er ev.e).2.2]/\ev'.e=(U.er.others g.er.pr who y.s.er ev.e).2.1)/\q'=Zw p pp who U' ev'++q)):=by
 refine aC func133 ntmps133 rfl fun F cs=> ?_;obtain ⟨yb,yo,ys⟩:=y;obtain ⟨kk,ln,cl,nm,wt,⟨ek,en,j,f,l,i,el,ea,ec⟩,⟨xk,xn,o,xsl,r,n,xl,xa,xc⟩,bd,c0,ba,bc,e0,d0,id,sl,ot,f0⟩:=ys;have d:=eR hyA;dsimp only at d hg hyA hk|-;simp only [Stm.er,PStm.kd] at hk;have u:=hO.w;have h8:=hO.h8;have g0:=hO.y;have a1:=hO.n9;obtain ⟨q0,b⟩:=hev;have d1:Kn q fun M=>ExAt M ⟨yb,yo+5,none⟩ (Ex.mk ek en j f l i el ea ec):=hyA.imp fun M h=>Yj (pre:= (A6 kk ln cl nm wt)) h.1 rfl h.2.1 rfl
 have b1:Kn q fun M=>ExAt M ⟨yb,yo+12,none⟩ (Ex.mk xk xn o xsl r n xl xa xc):=hyA.imp fun M h=>Yj (pre:= (A6 kk ln cl nm wt)++exC (Ex.mk ek en j f l i el ea ec)) h.1 rfl h.2.2.1 rfl
 have e1:Kn q fun M=>BlkAt M ba bc bd:=hyA.imp fun M h=>h.2.2.2.1;have c1:Kn q fun M=>BlkAt M e0 d0 c0:=hyA.imp fun M h=>⟨h.2.2.2.2.1,h.2.2.2.2.2⟩
 obtain ⟨l0,k0,j0,_⟩:=hg;obtain ⟨u0,t0,s0,h0,r0,m0,p0,o0,n0⟩:=Yu k0;obtain ⟨w0,v0⟩:=Wn l0;rw [Zg,Zg] at j0;obtain ⟨R,a⟩:=kL (U.er.others g.er.pr who (Stm.er (Stm.mk kk ln cl nm wt (Ex.mk ek en j f l i el ea ec) (Ex.mk xk xn o xsl r n xl xa xc) bd c0 ba bc e0 d0 id sl ot f0)) ev.e);rw [<-a];unfold SS.others at a;simp only [Stm.er] at a;rw [Ze u] at a;change X _ _ _ _ _ _ _ _ (A3 p pp U who ev q F);obtain rfl:kk=6:=(by omega);try dsimp only at a
 rw [if_pos (by decide)] at a;try rw [show U.er.sy=U.sy from rfl] at a
 have x:thr (who:Int):=⟨by omega,by omega⟩;have x0:=hO.mu;have y0:=hO.co;have z0:=hO.ch;have i0:=h0 (.inl rfl);have a0:=lockS_b (s:=U.sy) (m:=sl) (t:=(who:Int)) ⟨i0.1,by omega⟩ x;refine rf [2,0,1,2,3,4,5,6,7,8,9,10,11,12,13] d ?_;refine Ua 13 call128 (Lock_Y (m:=sl) (t:=(who:Int)) g0 (by omega)) ?_;refine kc0 ?_;refine rn [15,16,17,18,19,0,3] ?_;refine Zt (bV rfl) ?_;refine ox 1 ?_;refine xp 24 ?_ ?_<;>intro h1
 . rw [a0] at h1;have c:U.sy.owners.getD sl.toNat 0≠ -1:=(by simpa using h1);rw [if_pos c] at a;rw [lockS_no c];refine xo 2 ?_;refine Vn call169 (aE _) (Ks (z:=4)) ?_ ?_
   . rintro _ _ ⟨rfl,rfl⟩;exact dA func133 (dX (by rw [a];exact ⟨U,ev,⟨(show (4:Int)≠0 by decide),rfl,rfl⟩,rfl⟩)) leA
   rintro _ _ ⟨⟩
 rw [a0] at h1;have c:U.sy.owners.getD sl.toNat 0= -1:=(by simpa using h1);rw [if_neg (fun k=>k c)] at a;refine rf [7,0] d ?_;refine Zb call98 leA (V8 (p:=p) (pp:=pp) (who:=who) (U:=({ U with sy:=(Ws U.sy sl who).1 } :StC)) (ev:=ev) (k:=1) (sl:=sl) (ot:=0) (q:=q++F) (by rw [b];decide)) ?_;rintro _ _ ⟨b0,b,rfl⟩;refine ox 1 ?_;refine Z7 (Zw p pp who ({ U with sy:=(Ws U.sy sl who).1 } :StC) b0++q) func133 (Vm results133) (dG ⟨({ U with sy:=(Ws U.sy sl who).1 } :StC),b0,⟨by rw [a],by rw [a];rfl,by rw [a,b];rfl,hTd⟩,rfl⟩) (by rw [aA];exact aE _)
theorem Xr {NN:Nat}(hys:U.sy.ok NN)(hN9:NN<=900)(hin:0<=sl/\sl<U.sy.owners.length)(hthr:thr (who:Int))(hl:ev.e.syn.length<=1000000000):CallF prog G 170 (Aa p sl) (Zw p pp who U ev++q) (RP (fun v q'=> ∃ ev':EvC,(U.sy.owners.getD sl.toNat 0=(who:Int)/\ev'.e=ev.e.sn [(2,sl,0)])/\q'=Zw p pp who ({ U with sy:=(Z6 U.sy sl who).1 } :StC) ev'++q) (fun ch q'=>(U.sy.owners.getD sl.toNat 0≠(who:Int)/\ch= [Vd 4])/\q'=Zw p pp who U ev++q)):=by
 refine aC func170 ntmps170 rfl fun F g=> ?_;have b:=Zqv (s:=U.sy) (m:=sl) (t:=(who:Int)) ⟨hin.1,by omega⟩ hthr;change X _ _ _ _ _ _ _ _ (pto p (.cells (Vt pp U++(I64 who::evC ev)).toArray 145 (0,0))::lsH I64 2 U.ca U.cc U.cells::yH U.sp U.sy::rsH trC 5 116 U.ha U.hc U.ths::stars (U.ths.map trH)::rsH acC 3 140 ev.aa ev.ac ev.e.acc::rsH snC 3 50 ev.na ev.nc ev.e.syn::(q++F));refine rn [2,0,1,2,3,4,5,6,7,8,9,10] ?_;refine Ua 10 call193 (Unlock_Y (m:=sl) (t:=(who:Int)) hys (by omega)) ?_;refine kc0 ?_;refine rn [12,0,5] ?_;refine xp 17 ?_ ?_<;>intro d
 . rw [b] at d;have a:U.sy.owners.getD sl.toNat 0≠(who:Int):=(fun k=>d (if_pos k));rw [L7 a];refine xo 2 ?_;refine Vn call169 (aE _) (Ks (z:=4)) ?_ ?_
   . rintro _ _ ⟨rfl,rfl⟩;exact dA func170 (dX (⟨⟨a,rfl⟩,rfl⟩)) leA
   rintro _ _ ⟨⟩
 rw [b] at d;have a:U.sy.owners.getD sl.toNat 0=(who:Int):=Decidable.byContradiction (fun k=>by rw [if_neg k] at d;exact aR d (by decide));refine xo 5 ?_;refine Zb call98 leA (V8 (p:=p) (pp:=pp) (who:=who) (U:=({ U with sy:=(Z6 U.sy sl who).1 } :StC)) (ev:=ev) (k:=2) (sl:=sl) (ot:=0) (q:=q++F) (hl)) ?_;rintro _ _ ⟨f,c,rfl⟩;refine ox 1 ?_;refine Z7 (Zw p pp who ({ U with sy:=(Z6 U.sy sl who).1 } :StC) f++q) func170 (Vm results170) (dG ⟨f,⟨a,c⟩,rfl⟩) (by rw [aA];exact aE _)
theorem L1 (hP:Prg q pp g)(hM:MayP g.er)(hO:PO g N who U)(hev:ev.e.acc= []/\ev.e.syn= [])(hyA:Kn q fun M=>y.At M)(hg:y.s.er.good g.er.cn (U.ths[who]'(hO.w)).loc.length)(hTd:Kn q fun M=>TodoAt M U.ths)(hk:y.s.er.kd=7):CallF prog G 134 (A9 p y) (Zw p pp who U ev++q) (RP (fun v q'=> ∃ (U':StC) (ev':EvC),((U.er.others g.er.pr who y.s.er ev.e).2.2=0/\U'.er=(U.er.others g.er.pr who y.s.er ev.e).1/\ev'.e=(U.er.others g.er.pr who y.s.er ev.e).2.1/\Kn q fun M=>TodoAt M U'.ths)/\q'=Zw p pp who U' ev'++q) (fun ch q'=> ∃ (U':StC) (ev':EvC),((U.er.others g.er.pr who y.s.er ev.e).2.2≠0/\ch= [Vd (U.er.others g.er.pr who y.s.er ev.e).2.2]/\ev'.e=(U.er.others g.er.pr who y.s.er ev.e).2.1)/\q'=Zw p pp who U' ev'++q)):=by
 refine aC func134 ntmps134 rfl fun F cs=> ?_;obtain ⟨yb,yo,ys⟩:=y;obtain ⟨kk,ln,cl,nm,wt,⟨ek,en,f,c,i,d,el,ea,ec⟩,⟨xk,xn,l,xsl,m,j,xl,xa,xc⟩,bd,z,ba,bc,c0,b0,id,sl,ot,d0⟩:=ys;have u:=eR hyA;dsimp only at u hg hyA hk|-;simp only [Stm.er,PStm.kd] at hk;have n:=hO.w;have h8:=hO.h8;have e0:=hO.y;have k0:=hO.n9;obtain ⟨p0,t⟩:=hev;have b1:Kn q fun M=>ExAt M ⟨yb,yo+5,none⟩ (Ex.mk ek en f c i d el ea ec):=hyA.imp fun M h=>Yj (pre:= (A6 kk ln cl nm wt)) h.1 rfl h.2.1 rfl
 have z0:Kn q fun M=>ExAt M ⟨yb,yo+12,none⟩ (Ex.mk xk xn l xsl m j xl xa xc):=hyA.imp fun M h=>Yj (pre:= (A6 kk ln cl nm wt)++exC (Ex.mk ek en f c i d el ea ec)) h.1 rfl h.2.2.1 rfl
 have c1:Kn q fun M=>BlkAt M ba bc bd:=hyA.imp fun M h=>h.2.2.2.1;have a1:Kn q fun M=>BlkAt M c0 b0 z:=hyA.imp fun M h=>⟨h.2.2.2.2.1,h.2.2.2.2.2⟩
 obtain ⟨j0,i0,h0,_⟩:=hg;obtain ⟨t0,s0,r0,f0,q0,l0,o0,n0,m0⟩:=Yu i0;obtain ⟨v0,u0⟩:=Wn j0;rw [Zg,Zg] at h0;obtain ⟨R,a⟩:=kL (U.er.others g.er.pr who (Stm.er (Stm.mk kk ln cl nm wt (Ex.mk ek en f c i d el ea ec) (Ex.mk xk xn l xsl m j xl xa xc) bd z ba bc c0 b0 id sl ot d0)) ev.e);rw [<-a];unfold SS.others at a;simp only [Stm.er] at a;rw [Ze n] at a;change X _ _ _ _ _ _ _ _ (A3 p pp U who ev q F);obtain rfl:kk=7:=(by omega);try dsimp only at a
 rw [if_neg (by decide)] at a;rw [if_pos (by decide)] at a;try rw [show U.er.sy=U.sy from rfl] at a
 have o:thr (who:Int):=⟨by omega,by omega⟩;have w0:=hO.mu;have x0:=hO.co;have y0:=hO.ch;have g0:=f0 (.inr rfl);refine rf [5,0] u ?_;refine Vn call170 leA (Xr (p:=p) (pp:=pp) (who:=who) (U:=U) (ev:=ev) (sl:=sl) (q:=q++F) e0 k0 ⟨g0.1,by omega⟩ o (by rw [t];decide)) ?_ ?_
 . rintro _ _ ⟨⟨b,rfl⟩,rfl⟩;exact dA func134 (dX (by rw [if_pos b] at a;rw [a];exact ⟨U,ev,⟨(show (4:Int)≠0 by decide),rfl,rfl⟩,rfl⟩)) (by rw [aA];exact aE _)
 rintro _ _ ⟨x,⟨b,r⟩,a0⟩;simp only [Zw,spP,Zr,evL,ca,na] at a0;subst a0;rw [if_neg (fun k=>k b)] at a;refine ox 1 ?_;refine Z7 (Zw p pp who ({ U with sy:=(Z6 U.sy sl who).1 } :StC) x++q) func134 (Vm results134) (dG ⟨({ U with sy:=(Z6 U.sy sl who).1 } :StC),x,⟨by rw [a],by rw [a];rfl,by rw [a,r];rfl,hTd⟩,rfl⟩) (by rw [aA];exact aE _)
theorem xwait_ok (hP:Prg q pp g)(hM:MayP g.er)(hO:PO g N who U)(hev:ev.e.acc= []/\ev.e.syn= [])(hyA:Kn q fun M=>y.At M)(hg:y.s.er.good g.er.cn (U.ths[who]'(hO.w)).loc.length)(hTd:Kn q fun M=>TodoAt M U.ths)(hk:y.s.er.kd=8):CallF prog G 135 (A9 p y) (Zw p pp who U ev++q) (RP (fun v q'=> ∃ (U':StC) (ev':EvC),((U.er.others g.er.pr who y.s.er ev.e).2.2=0/\U'.er=(U.er.others g.er.pr who y.s.er ev.e).1/\ev'.e=(U.er.others g.er.pr who y.s.er ev.e).2.1/\Kn q fun M=>TodoAt M U'.ths)/\q'=Zw p pp who U' ev'++q) (fun ch q'=> ∃ (U':StC) (ev':EvC),((U.er.others g.er.pr who y.s.er ev.e).2.2≠0/\ch= [Vd (U.er.others g.er.pr who y.s.er ev.e).2.2]/\ev'.e=(U.er.others g.er.pr who y.s.er ev.e).2.1)/\q'=Zw p pp who U' ev'++q)):=by
 refine aC func135 ntmps135 rfl fun F cs=> ?_;obtain ⟨yb,yo,ys⟩:=y;obtain ⟨kk,ln,cl,nm,wt,⟨ek,en,i,a,o,d,el,ea,ec⟩,⟨xk,xn,a0,xsl,b0,x,xl,xa,xc⟩,bd,c0,ba,bc,e0,d0,id,sl,ot,f0⟩:=ys;have i0:=eR hyA;dsimp only at i0 hg hyA hk|-;simp only [Stm.er,PStm.kd] at hk;have g0:=hO.w;have h8:=hO.h8;have k0:=hO.y;have v0:=hO.n9;obtain ⟨z0,p0⟩:=hev;have m1:Kn q fun M=>ExAt M ⟨yb,yo+5,none⟩ (Ex.mk ek en i a o d el ea ec):=hyA.imp fun M h=>Yj (pre:= (A6 kk ln cl nm wt)) h.1 rfl h.2.1 rfl
 have k1:Kn q fun M=>ExAt M ⟨yb,yo+12,none⟩ (Ex.mk xk xn a0 xsl b0 x xl xa xc):=hyA.imp fun M h=>Yj (pre:= (A6 kk ln cl nm wt)++exC (Ex.mk ek en i a o d el ea ec)) h.1 rfl h.2.2.1 rfl
 have n1:Kn q fun M=>BlkAt M ba bc bd:=hyA.imp fun M h=>h.2.2.2.1;have l1:Kn q fun M=>BlkAt M e0 d0 c0:=hyA.imp fun M h=>⟨h.2.2.2.2.1,h.2.2.2.2.2⟩
 obtain ⟨u0,t0,s0,_⟩:=hg;obtain ⟨d1,c1,b1,a1,r0,m0,y0,x0,w0⟩:=Yu t0;obtain ⟨f1,e1⟩:=Wn u0;rw [Zg,Zg] at s0;obtain ⟨R,hR⟩:=kL (U.er.others g.er.pr who (Stm.er (Stm.mk kk ln cl nm wt (Ex.mk ek en i a o d el ea ec) (Ex.mk xk xn a0 xsl b0 x xl xa xc) bd c0 ba bc e0 d0 id sl ot f0)) ev.e);rw [<-hR];unfold SS.others at hR;simp only [Stm.er] at hR;rw [Ze g0] at hR;change X _ _ _ _ _ _ _ _ (A3 p pp U who ev q F);obtain rfl:kk=8:=(by omega);try dsimp only at hR
 rw [if_neg (by decide)] at hR;rw [if_neg (by decide)] at hR;rw [if_pos (by decide)] at hR;try rw [show U.er.sy=U.sy from rfl] at hR
 have l0:thr (who:Int):=⟨by omega,by omega⟩;have g1:=hO.mu;have i1:=hO.co;have j1:=hO.ch;have h1:=r0 (.inl rfl);have n0:=m0 rfl;refine Yw (l:=U.ths) (by omega) fun ga e_=> ?_;have hr: ∀ r,Sees (Ag U r) (some ⟨ga,0,none⟩) (AB U):=fun r=>by rw [<-e_];exact bE r
 refine rf [6,0] i0 ?_;refine Vn call170 leA (Xr (p:=p) (pp:=pp) (who:=who) (U:=U) (ev:=ev) (sl:=ot) (q:=q++F) k0 v0 ⟨n0.1,by omega⟩ l0 (by rw [p0];decide)) ?_ ?_
 . rintro _ _ ⟨⟨h0,rfl⟩,rfl⟩;exact dA func135 (dX (by rw [if_pos h0] at hR;rw [hR];exact ⟨U,ev,⟨(show (4:Int)≠0 by decide),rfl,rfl⟩,rfl⟩)) (by rw [aA];exact aE _)
 rintro _ _ ⟨j0,⟨h0,o0⟩,q0⟩;simp only [Zw,spP,Zr,evL,ca,na] at q0;subst q0;rw [if_neg (fun k=>k h0)] at hR;refine rf [2,0,1,2,3,4,5,6,7,8,9,10,11,12,13] i0 ?_;refine Ua 13 call171 (Wait_Y (k:=sl) (t:=(who:Int)) (N:=N) (s:=(Z6 U.sy ot who).1) (F5 k0) (by omega)) ?_;refine kc0 ?_;refine rn [0,3] ?_;refine aO call95 (Jv (p:=p) (who:=who) (ga:=ga) (m:=U.ths.length) (c:=U.hc) (by rw [<-e_];exact clA) clA g0) ?_;refine oo 7 ?_;refine eU (q':=stars (U.ths.map trH)::_) Zk (eU (Nu g0 _) ?_);refine eU (q':=rsH trC 5 116 (some ⟨ga,0,none⟩) U.hc U.ths::_) (by rw [<-e_];exact Zk) ?_;refine dJ (Yr (g:=ga) (f:=trC) (l:=U.ths) (u:=({ U.ths[who] with st:=2 } :TC)) (n:=who) (k:=1) (j:=(who:Int)) rfl rfl sizeOf99 Zd rfl g0 rfl rfl rfl rfl Zk) ?_;rintro _ _ ⟨rfl,rfl⟩;refine oo 6 ?_;refine ld ?_ (hc:=(cT (n:=who) (bE _) leA Zd (show who<(U.ths.set who ({ U.ths[who] with st:=2 } :TC)).length by rw [bC];exact g0) rfl 3 _ (by rw [cN];rfl)));refine oo 1 ?_;refine bQ (U3 (u:=(⟨yb,yo,(Stm.mk 8 ln cl nm wt (Ex.mk ek en i a o d el ea ec) (Ex.mk xk xn a0 xsl b0 x xl xa xc) bd c0 ba bc e0 d0 id sl ot f0)⟩:PS)) PS.v underlying114 W0 rfl rfl) ?_;rintro _ _ ⟨g2,rfl,rfl⟩;refine bQ (Yx (f:=PS.v) (l:=U.ths[who].todo) (m:= [(⟨yb,yo,(Stm.mk 8 ln cl nm wt (Ex.mk ek en i a o d el ea ec) (Ex.mk xk xn a0 xsl b0 x xl xa xc) bd c0 ba bc e0 d0 id sl ot f0)⟩:PS)]) underlying114 W0 rfl rfl rfl Zk ((bR _).le leA) (fun _=>rfl) (by have:=hO.td;simp only [bJ];omega) (by have:=hO.td;simp only [bJ];omega)) ?_;rintro _ _ ⟨a5,c5,rfl,rfl⟩;refine oo 2 ?_;refine dJ (Yr (g:=ga) (f:=trC) (l:=(U.ths.set who ({ U.ths[who] with st:=2 } :TC))) (u:=({ U.ths[who] with st:=2,ta:=a5,tc:=c5,todo:=U.ths[who].todo++ [(⟨yb,yo,(Stm.mk 8 ln cl nm wt (Ex.mk ek en i a o d el ea ec) (Ex.mk xk xn a0 xsl b0 x xl xa xc) bd c0 ba bc e0 d0 id sl ot f0)⟩:PS)] } :TC)) (n:=who) (k:=3) (j:=(who:Int)) rfl rfl sizeOf114 Zd rfl (by rw [bC];exact g0) rfl (by rw [cN];rfl) rfl rfl Zk) ?_;rintro _ _ ⟨rfl,rfl⟩;rw [fI];refine ox 1 ?_;rw [<-e_];refine bY (q':=stars ((U.ths.set who ({ U.ths[who] with st:=2,ta:=a5,tc:=c5,todo:=U.ths[who].todo++ [(⟨yb,yo,(Stm.mk 8 ln cl nm wt (Ex.mk ek en i a o d el ea ec) (Ex.mk xk xn a0 xsl b0 x xl xa xc) bd c0 ba bc e0 d0 id sl ot f0)⟩:PS)] } :TC)).map trH)::_) (aS (b:=lsH I64 2 (({ U.ths[who] with st:=2,ta:=a5,tc:=c5,todo:=U.ths[who].todo++ [(⟨yb,yo,(Stm.mk 8 ln cl nm wt (Ex.mk ek en i a o d el ea ec) (Ex.mk xk xn a0 xsl b0 x xl xa xc) bd c0 ba bc e0 d0 id sl ot f0)⟩:PS)] } :TC)).la (({ U.ths[who] with st:=2,ta:=a5,tc:=c5,todo:=U.ths[who].todo++ [(⟨yb,yo,(Stm.mk 8 ln cl nm wt (Ex.mk ek en i a o d el ea ec) (Ex.mk xk xn a0 xsl b0 x xl xa xc) bd c0 ba bc e0 d0 id sl ot f0)⟩:PS)] } :TC)).lc (({ U.ths[who] with st:=2,ta:=a5,tc:=c5,todo:=U.ths[who].todo++ [(⟨yb,yo,(Stm.mk 8 ln cl nm wt (Ex.mk ek en i a o d el ea ec) (Ex.mk xk xn a0 xsl b0 x xl xa xc) bd c0 ba bc e0 d0 id sl ot f0)⟩:PS)] } :TC)).loc::lsH PS.v 146 (({ U.ths[who] with st:=2,ta:=a5,tc:=c5,todo:=U.ths[who].todo++ [(⟨yb,yo,(Stm.mk 8 ln cl nm wt (Ex.mk ek en i a o d el ea ec) (Ex.mk xk xn a0 xsl b0 x xl xa xc) bd c0 ba bc e0 d0 id sl ot f0)⟩:PS)] } :TC)).ta (({ U.ths[who] with st:=2,ta:=a5,tc:=c5,todo:=U.ths[who].todo++ [(⟨yb,yo,(Stm.mk 8 ln cl nm wt (Ex.mk ek en i a o d el ea ec) (Ex.mk xk xn a0 xsl b0 x xl xa xc) bd c0 ba bc e0 d0 id sl ot f0)⟩:PS)] } :TC)).tc (({ U.ths[who] with st:=2,ta:=a5,tc:=c5,todo:=U.ths[who].todo++ [(⟨yb,yo,(Stm.mk 8 ln cl nm wt (Ex.mk ek en i a o d el ea ec) (Ex.mk xk xn a0 xsl b0 x xl xa xc) bd c0 ba bc e0 d0 id sl ot f0)⟩:PS)] } :TC)).todo::lsH I64 3 (({ U.ths[who] with st:=2,ta:=a5,tc:=c5,todo:=U.ths[who].todo++ [(⟨yb,yo,(Stm.mk 8 ln cl nm wt (Ex.mk ek en i a o d el ea ec) (Ex.mk xk xn a0 xsl b0 x xl xa xc) bd c0 ba bc e0 d0 id sl ot f0)⟩:PS)] } :TC)).sa (({ U.ths[who] with st:=2,ta:=a5,tc:=c5,todo:=U.ths[who].todo++ [(⟨yb,yo,(Stm.mk 8 ln cl nm wt (Ex.mk ek en i a o d el ea ec) (Ex.mk xk xn a0 xsl b0 x xl xa xc) bd c0 ba bc e0 d0 id sl ot f0)⟩:PS)] } :TC)).sc (({ U.ths[who] with st:=2,ta:=a5,tc:=c5,todo:=U.ths[who].todo++ [(⟨yb,yo,(Stm.mk 8 ln cl nm wt (Ex.mk ek en i a o d el ea ec) (Ex.mk xk xn a0 xsl b0 x xl xa xc) bd c0 ba bc e0 d0 id sl ot f0)⟩:PS)] } :TC)).sp::stars (B7 U who)::_) (bM Zk (bM Zk (bM Zk Zk))) (Np g0 ({ U.ths[who] with st:=2,ta:=a5,tc:=c5,todo:=U.ths[who].todo++ [(⟨yb,yo,(Stm.mk 8 ln cl nm wt (Ex.mk ek en i a o d el ea ec) (Ex.mk xk xn a0 xsl b0 x xl xa xc) bd c0 ba bc e0 d0 id sl ot f0)⟩:PS)] } :TC) _)) ?_;refine bY (q':=Zw p pp who ({ U with sy:=(U7 (Z6 U.sy ot who).1 sl who).1,ths:=U.ths.set who ({ U.ths[who] with st:=2,ta:=a5,tc:=c5,todo:=U.ths[who].todo++ [(⟨yb,yo,(Stm.mk 8 ln cl nm wt (Ex.mk ek en i a o d el ea ec) (Ex.mk xk xn a0 xsl b0 x xl xa xc) bd c0 ba bc e0 d0 id sl ot f0)⟩:PS)] } :TC) } :StC) j0++(q++F)) (by unfold Zw spP Vt Zr;simp only [bC];exact leA) ?_;refine Z7 (Zw p pp who ({ U with sy:=(U7 (Z6 U.sy ot who).1 sl who).1,ths:=U.ths.set who ({ U.ths[who] with st:=2,ta:=a5,tc:=c5,todo:=U.ths[who].todo++ [(⟨yb,yo,(Stm.mk 8 ln cl nm wt (Ex.mk ek en i a o d el ea ec) (Ex.mk xk xn a0 xsl b0 x xl xa xc) bd c0 ba bc e0 d0 id sl ot f0)⟩:PS)] } :TC) } :StC) j0++q) func135 (Vm results135) (dG ⟨({ U with sy:=(U7 (Z6 U.sy ot who).1 sl who).1,ths:=U.ths.set who ({ U.ths[who] with st:=2,ta:=a5,tc:=c5,todo:=U.ths[who].todo++ [(⟨yb,yo,(Stm.mk 8 ln cl nm wt (Ex.mk ek en i a o d el ea ec) (Ex.mk xk xn a0 xsl b0 x xl xa xc) bd c0 ba bc e0 d0 id sl ot f0)⟩:PS)] } :TC) } :StC),j0,⟨by rw [hR],by rw [hR];exact bK (fun z:SS=> { z with sy:=(U7 (Z6 U.sy ot who).1 sl who).1 }) (show ({ U with ths:=U.ths.set who ({ U.ths[who] with st:=2,ta:=a5,tc:=c5,todo:=U.ths[who].todo++ [(⟨yb,yo,(Stm.mk 8 ln cl nm wt (Ex.mk ek en i a o d el ea ec) (Ex.mk xk xn a0 xsl b0 x xl xa xc) bd c0 ba bc e0 d0 id sl ot f0)⟩:PS)] } :TC) } :StC).er=U.er.put who { (U.ths[who]).er with st:=2,left:=Stm.er (Stm.mk 8 ln cl nm wt (Ex.mk ek en i a o d el ea ec) (Ex.mk xk xn a0 xsl b0 x xl xa xc) bd c0 ba bc e0 d0 id sl ot f0)::(U.ths[who]).er.left } by rw [W7];congr 1;simp only [TC.er,aM,iM,bP,eM,jD,jT,aT,cM,Stm.er]),by rw [hR,o0];rfl,(hTd.and hyA).imp fun M h=>Zqw g0 h.1 h.2 rfl⟩,rfl⟩) (by rw [aA];exact aE _)
theorem xwake_ok (hP:Prg q pp g)(hM:MayP g.er)(hO:PO g N who U)(hev:ev.e.acc= []/\ev.e.syn= [])(hyA:Kn q fun M=>y.At M)(hg:y.s.er.good g.er.cn (U.ths[who]'(hO.w)).loc.length)(hTd:Kn q fun M=>TodoAt M U.ths)(hk:y.s.er.kd=8):CallF prog G 96 (A9 p y) (Zw p pp who U ev++q) (RP (fun v q'=> ∃ (U':StC) (ev':EvC),((U.er.woken who y.s.er ev.e).2.2=0/\U'.er=(U.er.woken who y.s.er ev.e).1/\ev'.e=(U.er.woken who y.s.er ev.e).2.1/\Kn q fun M=>TodoAt M U'.ths)/\q'=Zw p pp who U' ev'++q) (fun ch q'=> ∃ (U':StC) (ev':EvC),((U.er.woken who y.s.er ev.e).2.2≠0/\ch= [Vd (U.er.woken who y.s.er ev.e).2.2]/\ev'.e=(U.er.woken who y.s.er ev.e).2.1)/\q'=Zw p pp who U' ev'++q)):=by
 refine aC func96 ntmps96 rfl fun F cs=> ?_;obtain ⟨yb,yo,ys⟩:=y;obtain ⟨kk,ln,cl,nm,wt,⟨ek,en,x,i,a0,o,el,ea,ec⟩,⟨xk,xn,c0,xsl,d0,b0,xl,xa,xc⟩,bd,h0,ba,bc,j0,i0,id,sl,ot,k0⟩:=ys;have d:=eR hyA;dsimp only at d hg hyA hk|-;simp only [Stm.er,PStm.kd] at hk;have a:=hO.w;have h8:=hO.h8;have l0:=hO.y;have b1:=hO.n9;obtain ⟨t0,f0⟩:=hev;have e1:Kn q fun M=>ExAt M ⟨yb,yo+5,none⟩ (Ex.mk ek en x i a0 o el ea ec):=hyA.imp fun M h=>Yj (pre:= (A6 kk ln cl nm wt)) h.1 rfl h.2.1 rfl
 have c1:Kn q fun M=>ExAt M ⟨yb,yo+12,none⟩ (Ex.mk xk xn c0 xsl d0 b0 xl xa xc):=hyA.imp fun M h=>Yj (pre:= (A6 kk ln cl nm wt)++exC (Ex.mk ek en x i a0 o el ea ec)) h.1 rfl h.2.2.1 rfl
 have f1:Kn q fun M=>BlkAt M ba bc bd:=hyA.imp fun M h=>h.2.2.2.1;have d1:Kn q fun M=>BlkAt M j0 i0 h0:=hyA.imp fun M h=>⟨h.2.2.2.2.1,h.2.2.2.2.2⟩
 obtain ⟨o0,n0,m0,_⟩:=hg;obtain ⟨y0,x0,w0,v0,u0,p0,s0,r0,q0⟩:=Yu n0;obtain ⟨a1,z0⟩:=Wn o0;rw [Zg,Zg] at m0;obtain ⟨R,b⟩:=kL (U.er.woken who (Stm.er (Stm.mk kk ln cl nm wt (Ex.mk ek en x i a0 o el ea ec) (Ex.mk xk xn c0 xsl d0 b0 xl xa xc) bd h0 ba bc j0 i0 id sl ot k0)) ev.e);rw [<-b];unfold SS.woken at b;simp only [Stm.er] at b;rw [Ze a] at b;change X _ _ _ _ _ _ _ _ (A3 p pp U who ev q F);obtain rfl:kk=8:=(by omega);try rw [show U.er.sy=U.sy from rfl] at b
 dsimp only [PStm.oth] at b;refine Yw (l:=U.ths) (by omega) fun ga e_=> ?_;have hr: ∀ r,Sees (Ag U r) (some ⟨ga,0,none⟩) (AB U):=fun r=>by rw [<-e_];exact bE r
 refine rf [6,0,2,0,1,2,3,4,5,6,7,8,9,10,11,12,13] d ?_;refine Ua 13 call128 (Lock_Y (m:=ot) (t:=(who:Int)) l0 (by omega)) ?_;refine kc0 ?_;refine rn [0,3] ?_;refine aO call95 (Jv (p:=p) (who:=who) (ga:=ga) (m:=U.ths.length) (c:=U.hc) (by rw [<-e_];exact clA) clA a) ?_;refine oo 2 ?_;refine eU (q':=rsH trC 5 116 (some ⟨ga,0,none⟩) U.hc U.ths::_) (by rw [<-e_];exact Zk) ?_;refine dJ (Yr (g:=ga) (f:=trC) (l:=U.ths) (u:=({ U.ths[who] with st:=1 } :TC)) (n:=who) (k:=1) (j:=(who:Int)) rfl rfl sizeOf99 Zd rfl a rfl rfl rfl rfl Zk) ?_;rintro _ _ ⟨rfl,rfl⟩;rw [<-e_];refine rf [6,0] d ?_;refine Zb call98 (by unfold Zw spP Vt Zr;simp only [bC];rw [Rl a (show trH ({ U.ths[who] with st:=1 } :TC)=trH U.ths[who] from rfl)];exact leA) (V8 (p:=p) (pp:=pp) (who:=who) (U:=({ U with sy:=(Ws U.sy ot who).1,ths:=U.ths.set who ({ U.ths[who] with st:=1 } :TC) } :StC)) (ev:=({ ev with e:= { ev.e with woke:=true } } :EvC)) (k:=1) (sl:=ot) (ot:=0) (q:=q++F) (by dsimp only;rw [f0];decide)) ?_;rintro _ _ ⟨g0,e0,rfl⟩;refine ox 1 ?_;refine Z7 (Zw p pp who ({ U with sy:=(Ws U.sy ot who).1,ths:=U.ths.set who ({ U.ths[who] with st:=1 } :TC) } :StC) g0++q) func96 (Vm results96) (dG ⟨({ U with sy:=(Ws U.sy ot who).1,ths:=U.ths.set who ({ U.ths[who] with st:=1 } :TC) } :StC),g0,⟨by rw [b],by rw [b];exact bK (fun z:SS=> { z with sy:=(Ws U.sy ot who).1 }) (W7 U who _),by rw [b,e0],hTd.imp fun M h=>iV (Hc a rfl) h⟩,rfl⟩) (by rw [aA];exact aE _)
theorem L2 (hP:Prg q pp g)(hM:MayP g.er)(hO:PO g N who U)(hev:ev.e.acc= []/\ev.e.syn= [])(hyA:Kn q fun M=>y.At M)(hg:y.s.er.good g.er.cn (U.ths[who]'(hO.w)).loc.length)(hTd:Kn q fun M=>TodoAt M U.ths)(hk:y.s.er.kd=9):CallF prog G 136 (A9 p y) (Zw p pp who U ev++q) (RP (fun v q'=> ∃ (U':StC) (ev':EvC),((U.er.others g.er.pr who y.s.er ev.e).2.2=0/\U'.er=(U.er.others g.er.pr who y.s.er ev.e).1/\ev'.e=(U.er.others g.er.pr who y.s.er ev.e).2.1/\Kn q fun M=>TodoAt M U'.ths)/\q'=Zw p pp who U' ev'++q) (fun ch q'=> ∃ (U':StC) (ev':EvC),((U.er.others g.er.pr who y.s.er ev.e).2.2≠0/\ch= [Vd (U.er.others g.er.pr who y.s.er ev.e).2.2]/\ev'.e=(U.er.others g.er.pr who y.s.er ev.e).2.1)/\q'=Zw p pp who U' ev'++q)):=by
 refine aC func136 ntmps136 rfl fun F cs=> ?_;obtain ⟨yb,yo,ys⟩:=y;obtain ⟨kk,ln,cl,nm,wt,⟨ek,en,a0,t,b0,x,el,ea,ec⟩,⟨xk,xn,d0,xsl,e0,c0,xl,xa,xc⟩,bd,n0,ba,bc,p0,o0,id,sl,ot,q0⟩:=ys;have b:=eR hyA;dsimp only at b hg hyA hk|-;simp only [Stm.er,PStm.kd] at hk;have f0:=hO.w;have h8:=hO.h8;have m:=hO.y;have m1:=hO.n9;obtain ⟨c1,i0⟩:=hev;have p1:Kn q fun M=>ExAt M ⟨yb,yo+5,none⟩ (Ex.mk ek en a0 t b0 x el ea ec):=hyA.imp fun M h=>Yj (pre:= (A6 kk ln cl nm wt)) h.1 rfl h.2.1 rfl
 have n1:Kn q fun M=>ExAt M ⟨yb,yo+12,none⟩ (Ex.mk xk xn d0 xsl e0 c0 xl xa xc):=hyA.imp fun M h=>Yj (pre:= (A6 kk ln cl nm wt)++exC (Ex.mk ek en a0 t b0 x el ea ec)) h.1 rfl h.2.2.1 rfl
 have q1:Kn q fun M=>BlkAt M ba bc bd:=hyA.imp fun M h=>h.2.2.2.1;have o1:Kn q fun M=>BlkAt M p0 o0 n0:=hyA.imp fun M h=>⟨h.2.2.2.2.1,h.2.2.2.2.2⟩
 obtain ⟨v0,u0,t0,_⟩:=hg;obtain ⟨g1,f1,e1,d1,s0,y0,b1,a1,z0⟩:=Yu u0;obtain ⟨i1,h1⟩:=Wn v0;rw [Zg,Zg] at t0;obtain ⟨R,a⟩:=kL (U.er.others g.er.pr who (Stm.er (Stm.mk kk ln cl nm wt (Ex.mk ek en a0 t b0 x el ea ec) (Ex.mk xk xn d0 xsl e0 c0 xl xa xc) bd n0 ba bc p0 o0 id sl ot q0)) ev.e);rw [<-a];unfold SS.others at a;simp only [Stm.er] at a;rw [Ze f0] at a;change X _ _ _ _ _ _ _ _ (A3 p pp U who ev q F);obtain rfl:kk=9:=(by omega);try dsimp only at a
 rw [if_neg (by decide)] at a;rw [if_neg (by decide)] at a;rw [if_neg (by decide)] at a;rw [if_pos (by decide)] at a;try rw [show U.er.sy=U.sy from rfl] at a
 have x0:thr (who:Int):=⟨by omega,by omega⟩;have j1:=hO.mu;have k1:=hO.co;have l1:=hO.ch;have g0:=s0 (.inr (.inl rfl));have w0:sl.toNat<U.sy.conds.length:=(by omega);have k0:=Y3 (d:=([]:List Int)) w0;have l0:=hO.cd _ k0;have j0:=(m.c _ k0).2;refine Yw (l:=U.ths) (by omega) fun ga e_=> ?_;have hr: ∀ r,Sees (Ag U r) (some ⟨ga,0,none⟩) (AB U):=fun r=>by rw [<-e_];exact bE r
 rcases hL:U.sy.conds.getD sl.toNat [] with _|⟨i,r⟩
 . have o:(Yt U.sy sl).2=(-1,0):=by unfold Yt;rw [if_pos ⟨g0.1,by omega⟩,hL,if_pos rfl]
   refine rf [1,0,1,2,3,4,5,6,7,8,9] b ?_;refine Ua 9 call172 (Lz (k:=sl) m (by omega)) ?_;refine kc0 ?_;rw [o];refine rn [11,12,13,14,15,16,17,0,4] ?_;refine Jc 21 ?_ rfl (by decide);refine xx 2 ?_;try dsimp only at a
   rw [hL] at a;refine Z7 (Zw p pp who ({ U with sy:=(Yt U.sy sl).1 } :StC) ev++q) func136 (Vm results136) (dG ⟨({ U with sy:=(Yt U.sy sl).1 } :StC),ev,⟨by rw [a],by rw [a];rfl,by rw [a];simp,hTd⟩,rfl⟩) (by unfold Zw spP;exact leA)
 rw [hL] at j0 l0;obtain ⟨I,rfl⟩:=aV (j0 i (bI ..)).1;have hI:I<U.ths.length:=l0 _ (bI ..);have o:(Yt U.sy sl).2=((I:Int),0):=by unfold Yt;rw [if_pos ⟨g0.1,by omega⟩,hL,if_neg (by intro h;cases h)];rfl
 refine rf [1,0,1,2,3,4,5,6,7,8,9] b ?_;refine Ua 9 call172 (Lz (k:=sl) m (by omega)) ?_;refine kc0 ?_;rw [o];refine rn [11,12,13,14,15,16,17,0,4] ?_;refine X.kt 21 ?_ rfl (aN (Int.natCast_nonneg I));refine rf [7,0,1,3026] e_ ?_;refine bA 27 (Aw I) rfl (by rw [fU (by omega)]) ?_;refine oo 2 ?_;refine eU (q':=rsH trC 5 116 (some ⟨ga,0,none⟩) U.hc U.ths::_) (by rw [<-e_];exact Zk) ?_;refine dJ (Yr (g:=ga) (f:=trC) (l:=U.ths) (u:=({ U.ths[I] with st:=3 } :TC)) (n:=I) (k:=1) (j:=(I:Int)) rfl rfl sizeOf99 Zd rfl hI rfl rfl rfl rfl Zk) ?_;rintro _ _ ⟨rfl,rfl⟩;rw [<-e_];refine rf [6,0,1] b ?_;refine bA 35 (Aw I) rfl (by rw [fU (by omega)]) ?_;refine Zb call98 (by unfold Zw spP Vt Zr;simp only [bC];rw [Rl hI (show trH ({ U.ths[I] with st:=3 } :TC)=trH U.ths[I] from rfl)];exact leA) (V8 (p:=p) (pp:=pp) (who:=who) (U:=({ U with sy:=(Yt U.sy sl).1,ths:=U.ths.set I ({ U.ths[I] with st:=3 } :TC) } :StC)) (ev:=ev) (k:=3) (sl:=sl) (ot:=(I:Int)) (q:=q++F) (by rw [i0];decide)) ?_;rintro _ _ ⟨m0,h0,rfl⟩;refine ox 1 ?_;try dsimp only at a
 rw [hL] at a
 have r0:({ U with ths:=U.ths.set I ({ U.ths[I] with st:=3 } :TC) } :StC).er=U.er.wake [(I:Int)]:=by
  rw [W7];simp only [SS.wake,Fs,show ((I:Int)).toNat=I from rfl,Wl hI];rfl
 rw [if_neg (show ¬ (9:Int)=10 by decide),if_neg (show ¬ (9:Int)=10 by decide),show min 1 ((I:Int)::r).length=1 by simp only [bG];omega,show List.take 1 ((I:Int)::r)= [(I:Int)] from rfl] at a;refine Z7 (Zw p pp who ({ U with sy:=(Yt U.sy sl).1,ths:=U.ths.set I ({ U.ths[I] with st:=3 } :TC) } :StC) m0++q) func136 (Vm results136) (dG ⟨({ U with sy:=(Yt U.sy sl).1,ths:=U.ths.set I ({ U.ths[I] with st:=3 } :TC) } :StC),m0,⟨by rw [a],by rw [a];exact bK (fun z:SS=> { z with sy:=(Yt U.sy sl).1 }) r0,by rw [a,h0];rfl,hTd.imp fun M h=>iV (Hc hI rfl) h⟩,rfl⟩) (by rw [aA];exact aE _)
theorem xrecv_ok (hP:Prg q pp g)(hM:MayP g.er)(hO:PO g N who U)(hev:ev.e.acc= []/\ev.e.syn= [])(hyA:Kn q fun M=>y.At M)(hg:y.s.er.good g.er.cn (U.ths[who]'(hO.w)).loc.length)(hTd:Kn q fun M=>TodoAt M U.ths)(hk:y.s.er.kd=12)(hroom:0<(AD U y).items.length):CallF prog G 139 (A9 p y) (Zw p pp who U ev++q) (RP (fun v q'=> ∃ (U':StC) (ev':EvC),((U.er.others g.er.pr who y.s.er ev.e).2.2=0/\U'.er=(U.er.others g.er.pr who y.s.er ev.e).1/\ev'.e=(U.er.others g.er.pr who y.s.er ev.e).2.1/\Kn q fun M=>TodoAt M U'.ths)/\q'=Zw p pp who U' ev'++q) (fun ch q'=> ∃ (U':StC) (ev':EvC),((U.er.others g.er.pr who y.s.er ev.e).2.2≠0/\ch= [Vd (U.er.others g.er.pr who y.s.er ev.e).2.2]/\ev'.e=(U.er.others g.er.pr who y.s.er ev.e).2.1)/\q'=Zw p pp who U' ev'++q)):=by
 refine aC func139 ntmps139 rfl fun F cs=> ?_;obtain ⟨yb,yo,ys⟩:=y;obtain ⟨kk,ln,cl,nm,wt,⟨ek,en,i,d,j,f,el,ea,ec⟩,⟨xk,xn,m,xsl,n,l,xl,xa,xc⟩,bd,h0,ba,bc,k0,j0,id,sl,ot,o⟩:=ys;have b:=eR hyA;dsimp only at b hg hyA hk|-;simp only [Stm.er,PStm.kd] at hk;have t:=hO.w;have h8:=hO.h8;have r:=hO.y;have j1:=hO.n9;obtain ⟨f0,e0⟩:=hev;have m1:Kn q fun M=>ExAt M ⟨yb,yo+5,none⟩ (Ex.mk ek en i d j f el ea ec):=hyA.imp fun M h=>Yj (pre:= (A6 kk ln cl nm wt)) h.1 rfl h.2.1 rfl
 have k1:Kn q fun M=>ExAt M ⟨yb,yo+12,none⟩ (Ex.mk xk xn m xsl n l xl xa xc):=hyA.imp fun M h=>Yj (pre:= (A6 kk ln cl nm wt)++exC (Ex.mk ek en i d j f el ea ec)) h.1 rfl h.2.2.1 rfl
 have n1:Kn q fun M=>BlkAt M ba bc bd:=hyA.imp fun M h=>h.2.2.2.1;have l1:Kn q fun M=>BlkAt M k0 j0 h0:=hyA.imp fun M h=>⟨h.2.2.2.2.1,h.2.2.2.2.2⟩
 obtain ⟨s0,r0,q0,_⟩:=hg;obtain ⟨c1,b1,a1,z0,y0,w0,a0,x,x0⟩:=Yu r0;obtain ⟨e1,d1⟩:=Wn s0;rw [Zg,Zg] at q0;obtain ⟨R,a⟩:=kL (U.er.others g.er.pr who (Stm.er (Stm.mk kk ln cl nm wt (Ex.mk ek en i d j f el ea ec) (Ex.mk xk xn m xsl n l xl xa xc) bd h0 ba bc k0 j0 id sl ot o)) ev.e);rw [<-a];unfold SS.others at a;simp only [Stm.er] at a;rw [Ze t] at a;change X _ _ _ _ _ _ _ _ (A3 p pp U who ev q F);obtain rfl:kk=12:=(by omega);try dsimp only at a
 rw [if_neg (by decide)] at a;rw [if_neg (by decide)] at a;rw [if_neg (by decide)] at a;rw [if_neg (by decide)] at a;rw [if_pos (by decide)] at a;try rw [show U.er.sy=U.sy from rfl] at a
 have v0:thr (who:Int):=⟨by omega,by omega⟩;have f1:=hO.mu;have g1:=hO.co;have i1:=hO.ch;have p0:=a0 (.inr rfl);have c0:=x rfl;have h1:sl.toNat<U.sy.chans.length:=(by omega);replace hroom:0<(U.sy.chans.getD sl.toNat ch0).items.length:=hroom;obtain ⟨C,hC⟩:=kL (U.sy.chans.getD sl.toNat ch0);rw [<-hC] at hroom;have m0:C.items≠ []:=(fun k=>by rw [k] at hroom;exact aR hroom (by decide));have l0:(Vq U.sy sl).2=(C.items.headD 0,(C.taken:Int),0):=by unfold Vq;rw [if_pos ⟨p0.1,by omega⟩,<-hC,if_neg m0];exact bK (fun z=>(z,(C.taken:Int),(0:Int))) (Ss _ _)
 have t0:PO g N who { U with sy:=(Vq U.sy sl).1 } :=hO.sy (Co r _) (by rw [Fz]) (by rw [Bl]) (Zqt _ _);try dsimp only at a
 rw [<-hC] at a;refine rf [1,0,1,2,3,4,5,6,7,8,9] b ?_;refine Ua 9 call175 (Recv_Y (k:=sl) r (by omega)) ?_;refine kc0 ?_;rw [l0];refine rf [11,12,13,14,15,16,17,18,19,0,1,0,1,2,3,4,5,6,7,8,9,10] b ?_;refine Wy 10 call165 leA (Xu (p:=p) (pp:=pp) (who:=who) (g:=g) (N:=N) (U:=({ U with sy:=(Vq U.sy sl).1 } :StC)) (ev:=ev) (sl:=ot) (bb:=o) (u:=C.items.headD 0) (q:=q++F) t0 c0 (by rw [f0];decide) hM) ?_;rintro _ _ ⟨c,u0,⟨o0,b0,n0⟩,i0⟩;simp only [Zw,spP,Zr,evL,ca,na] at i0;subst i0;refine ⟨trivial,?_⟩;refine rf [0,5,0,1] b ?_;refine bA 39 (I64 C.taken) rfl (by dsimp only;rw [fU (by omega)]) ?_;refine Zb call98 leA (V8 (p:=p) (pp:=pp) (who:=who) (U:=c) (ev:=u0) (k:=5) (sl:=sl) (ot:=(C.taken:Int)) (q:=q++F) (by rw [b0];unfold PEv.ac;dsimp only;rw [e0];decide)) ?_;rintro _ _ ⟨g0,d0,rfl⟩;refine ox 1 ?_;refine Z7 (Zw p pp who c g0++q) func139 (Vm results139) (dG ⟨c,g0,⟨by rw [a],by rw [a];exact o0,by rw [a,d0,b0];rfl,hTd.imp fun M h=>iV n0 h⟩,rfl⟩) (by rw [aA];exact aE _)
theorem xall_ok (hP:Prg q pp g)(hM:MayP g.er)(hO:PO g N who U)(hev:ev.e.acc= []/\ev.e.syn= [])(hyA:Kn q fun M=>y.At M)(hg:y.s.er.good g.er.cn (U.ths[who]'(hO.w)).loc.length)(hTd:Kn q fun M=>TodoAt M U.ths)(hk:y.s.er.kd=10):CallF prog G 137 (A9 p y) (Zw p pp who U ev++q) (RP (fun v q'=> ∃ (U':StC) (ev':EvC),((U.er.others g.er.pr who y.s.er ev.e).2.2=0/\U'.er=(U.er.others g.er.pr who y.s.er ev.e).1/\ev'.e=(U.er.others g.er.pr who y.s.er ev.e).2.1/\Kn q fun M=>TodoAt M U'.ths)/\q'=Zw p pp who U' ev'++q) (fun ch q'=> ∃ (U':StC) (ev':EvC),((U.er.others g.er.pr who y.s.er ev.e).2.2≠0/\ch= [Vd (U.er.others g.er.pr who y.s.er ev.e).2.2]/\ev'.e=(U.er.others g.er.pr who y.s.er ev.e).2.1)/\q'=Zw p pp who U' ev'++q)):=by
 refine aC func137 ntmps137 rfl fun F cs=> ?_;obtain ⟨yb,yo,ys⟩:=y;obtain ⟨kk,ln,cl,nm,wt,⟨ek,en,e0,c0,f0,d0,el,ea,ec⟩,⟨xk,xn,j0,xsl,k0,i0,xl,xa,xc⟩,bd,s0,ba,bc,v0,u0,id,sl,ot,w0⟩:=ys;have b0:=eR hyA;dsimp only at b0 hg hyA hk|-;simp only [Stm.er,PStm.kd] at hk;have l0:=hO.w;have h8:=hO.h8;have x:=hO.y;have y1:=hO.n9;obtain ⟨m1,o0⟩:=hev;have b2:Kn q fun M=>ExAt M ⟨yb,yo+5,none⟩ (Ex.mk ek en e0 c0 f0 d0 el ea ec):=hyA.imp fun M h=>Yj (pre:= (A6 kk ln cl nm wt)) h.1 rfl h.2.1 rfl
 have z1:Kn q fun M=>ExAt M ⟨yb,yo+12,none⟩ (Ex.mk xk xn j0 xsl k0 i0 xl xa xc):=hyA.imp fun M h=>Yj (pre:= (A6 kk ln cl nm wt)++exC (Ex.mk ek en e0 c0 f0 d0 el ea ec)) h.1 rfl h.2.2.1 rfl
 have c2:Kn q fun M=>BlkAt M ba bc bd:=hyA.imp fun M h=>h.2.2.2.1;have a2:Kn q fun M=>BlkAt M v0 u0 s0:=hyA.imp fun M h=>⟨h.2.2.2.2.1,h.2.2.2.2.2⟩
 obtain ⟨e1,d1,c1,_⟩:=hg;obtain ⟨r1,q1,p1,o1,z0,i1,l1,k1,j1⟩:=Yu d1;obtain ⟨u1,t1⟩:=Wn e1;rw [Zg,Zg] at c1;obtain ⟨R,a⟩:=kL (U.er.others g.er.pr who (Stm.er (Stm.mk kk ln cl nm wt (Ex.mk ek en e0 c0 f0 d0 el ea ec) (Ex.mk xk xn j0 xsl k0 i0 xl xa xc) bd s0 ba bc v0 u0 id sl ot w0)) ev.e);rw [<-a];unfold SS.others at a;simp only [Stm.er] at a;rw [Ze l0] at a;change X _ _ _ _ _ _ _ _ (A3 p pp U who ev q F);obtain rfl:kk=10:=(by omega);try dsimp only at a
 rw [if_neg (by decide)] at a;rw [if_neg (by decide)] at a;rw [if_neg (by decide)] at a;rw [if_pos (by decide)] at a;try rw [show U.er.sy=U.sy from rfl] at a
 have h1:thr (who:Int):=⟨by omega,by omega⟩;have v1:=hO.mu;have w1:=hO.co;have x1:=hO.ch;have b1:=z0 (.inr (.inr rfl));have f1:sl.toNat<U.sy.conds.length:=(by omega);have a0:=Y3 (d:=([]:List Int)) f1;have r0:=hO.cd _ a0;have p0:=(x.c _ a0).2;have q0:=(x.c _ a0).1;have n1:U.er.ths.length=U.ths.length:=eP U;refine Yw (l:=U.ths) (by omega) fun ga e_=> ?_;have hr: ∀ r,Sees (Ag U r) (some ⟨ga,0,none⟩) (AB U):=fun r=>by rw [<-e_];exact bE r
 obtain ⟨L,hL⟩:=kL (U.sy.conds.getD sl.toNat []);rw [<-hL] at r0 p0 q0;have y0:(Kb U.sy sl).2=(L,0):=by unfold Kb;rw [if_pos ⟨b1.1,by omega⟩,<-hL]
 refine rf [1,0,1,2,3,4,5,6,7,8,9] b0 ?_;refine Ua 9 call173 (All_Y (k:=sl) x (by omega)) ?_;refine kd2 fun la lc=> ?_
 refine ⟨trivial,?_⟩;rw [y0];refine rn [11,12,13,14,15,0,7] ?_;refine aY (cG (fun (s:Nat×EvC)=>s.1<=L.length/\s.2.e=ev.e.sn ((L.take s.1).map fun i=>((3:Int),sl,i))) (fun s=> [(0,.pointer (some ⟨p,0,none⟩)),(1,.pointer (some ⟨yb,yo,none⟩)),(21,.slice la L.length lc),(22,I64 L.length),(23,I64 (s.1:Int))]) (fun s=>pto p (.cells (Vt pp U++(I64 who::evC s.2)).toArray 145 (0,0))::lsH I64 2 U.ca U.cc U.cells::yH U.sp (Kb U.sy sl).1::rsH trC 5 116 U.ha U.hc (Vb U.ths (L.take s.1))::stars (U.ths.map trH)::rsH acC 3 140 s.2.aa s.2.ac s.2.e.acc::rsH snC 3 50 s.2.na s.2.nc s.2.e.syn::lsH I64 3 la lc L::(q++F)) (fun s=>L.length - s.1) (fun s m0 ih=> ?_) (0,ev) ⟨bB _,by rw [gU,eM,Eg]⟩) Zu leA;try dsimp only at m0 ih|-
 obtain ⟨hi,b⟩:=m0;refine xx 5 ?_;refine xp 24 ?_ ?_<;>intro h0
 . have m:s.1<L.length:=(by omega);obtain ⟨I,o⟩:=aV (p0 _ (aB m)).1;have hI:I<U.ths.length:=(by have:=r0 _ (aB m);rw [o] at this;exact this);have t:I<(Vb U.ths (L.take s.1)).length:=(by rw [Kj];exact hI)
   have x0:(Vb U.ths (L.take s.1)).set I ({ (Vb U.ths (L.take s.1))[I]'t with st:=3 } :TC)=Vb U.ths (L.take (s.1+1)):=by
    rw [aH m,E9,o];show _=(Vb U.ths (L.take s.1)).set I { (Vb U.ths (L.take s.1)).getD I zTC with st:=3 }
    rw [Wl t]
   refine Uw (l:=L) (by omega) fun gl g0=> ?_;have a1: ∀ r,Sees (lsH I64 3 la lc L::r) (some ⟨gl,0,none⟩) (L.map I64):=fun r=>by rw [<-g0];exact bR r
   refine rf [6,3021,1] g0 ?_;refine ld ?_ (hc:=(((a1 _).le leA).at (by omega) m));refine bA 26 (Aw I) rfl (by rw [o]) ?_;refine rf [8,0,1,3031,2] e_ ?_;refine eU (q':=rsH trC 5 116 (some ⟨ga,0,none⟩) U.hc (Vb U.ths (L.take s.1))::_) (by rw [<-e_];exact Zk) ?_;refine dJ (Yr (g:=ga) (f:=trC) (l:=(Vb U.ths (L.take s.1))) (u:=({ (Vb U.ths (L.take s.1))[I]'t with st:=3 } :TC)) (n:=I) (k:=1) (j:=(I:Int)) rfl rfl sizeOf99 Zd rfl t rfl rfl rfl rfl Zk) ?_;rintro _ _ ⟨rfl,rfl⟩;rw [<-e_,x0];refine rf [6,0,1] b0 ?_;refine Zb call98 (by unfold Zw spP Vt Zr;simp only [Kj,Ri];exact leA) (V8 (p:=p) (pp:=pp) (who:=who) (U:=({ U with sy:=(Kb U.sy sl).1,ths:=Vb U.ths (L.take (s.1+1)) } :StC)) (ev:=s.2) (k:=3) (sl:=sl) (ot:=(I:Int)) (q:=lsH I64 3 la lc L::(q++F)) (by rw [b];unfold PEv.sn;dsimp only;rw [o0];simp only [aT,aU,bH];omega)) ?_;rintro _ _ ⟨g1,n0,t0⟩;simp only [Zw,spP,Vt,Zr,evL,ca,na,Kj,Ri] at t0;subst t0;refine ox 6 ?_;rw [<-g0];refine aY (ih (s.1+1,g1) ⟨by dsimp only;omega,by dsimp only;rw [n0,b,F1,aH m,aM,o];rfl⟩ (by dsimp only;omega)) Zu leA
 obtain ⟨s1,s2⟩:=s;dsimp only at hi h0 b|-;obtain rfl:s1=L.length:=(by omega);rw [cD] at b|-;refine xx 2 ?_;try dsimp only at a
 rw [<-hL,if_pos (show (10:Int)=10 by decide),if_pos (show (10:Int)=10 by decide),cD] at a;refine Z7 (Zw p pp who ({ U with sy:=(Kb U.sy sl).1,ths:=Vb U.ths L } :StC) s2++q) func137 (Vm results137) (dG ⟨({ U with sy:=(Kb U.sy sl).1,ths:=Vb U.ths L } :StC),s2,⟨by rw [a],by rw [a];exact bK (fun z:SS=> { z with sy:=(Kb U.sy sl).1 }) (show ({ U with ths:=Vb U.ths L } :StC).er=U.er.wake L by rw [<-Rb,Rf]),by rw [a,b];rfl,hTd.imp fun M h=>iV (By _ _) h⟩,rfl⟩) (by unfold Zw spP Vt Zr;simp only [Kj,Ri];exact leA)
theorem xjoin_ok (hP:Prg q pp g)(hM:MayP g.er)(hO:PO g N who U)(hev:ev.e.acc= []/\ev.e.syn= [])(hyA:Kn q fun M=>y.At M)(hg:y.s.er.good g.er.cn (U.ths[who]'(hO.w)).loc.length)(hTd:Kn q fun M=>TodoAt M U.ths)(hk:y.s.er.kd=14):CallF prog G 141 (A9 p y) (Zw p pp who U ev++q) (RP (fun v q'=> ∃ (U':StC) (ev':EvC),((U.er.others g.er.pr who y.s.er ev.e).2.2=0/\U'.er=(U.er.others g.er.pr who y.s.er ev.e).1/\ev'.e=(U.er.others g.er.pr who y.s.er ev.e).2.1/\Kn q fun M=>TodoAt M U'.ths)/\q'=Zw p pp who U' ev'++q) (fun ch q'=> ∃ (U':StC) (ev':EvC),((U.er.others g.er.pr who y.s.er ev.e).2.2≠0/\ch= [Vd (U.er.others g.er.pr who y.s.er ev.e).2.2]/\ev'.e=(U.er.others g.er.pr who y.s.er ev.e).2.1)/\q'=Zw p pp who U' ev'++q)):=by
 refine aC func141 ntmps141 rfl fun F cs=> ?_;obtain ⟨yb,yo,ys⟩:=y;obtain ⟨kk,ln,cl,nm,wt,⟨ek,en,o,f,t,j,el,ea,ec⟩,⟨xk,xn,x,xsl,z,u,xl,xa,xc⟩,bd,e0,ba,bc,i0,g0,id,sl,ot,k0⟩:=ys;have p0:=eR hyA;dsimp only at p0 hg hyA hk|-;simp only [Stm.er,PStm.kd] at hk;have b:=hO.w;have h8:=hO.h8;have x0:=hO.y;have j1:=hO.n9;obtain ⟨w0,d0⟩:=hev;have m1:Kn q fun M=>ExAt M ⟨yb,yo+5,none⟩ (Ex.mk ek en o f t j el ea ec):=hyA.imp fun M h=>Yj (pre:= (A6 kk ln cl nm wt)) h.1 rfl h.2.1 rfl
 have k1:Kn q fun M=>ExAt M ⟨yb,yo+12,none⟩ (Ex.mk xk xn x xsl z u xl xa xc):=hyA.imp fun M h=>Yj (pre:= (A6 kk ln cl nm wt)++exC (Ex.mk ek en o f t j el ea ec)) h.1 rfl h.2.2.1 rfl
 have n1:Kn q fun M=>BlkAt M ba bc bd:=hyA.imp fun M h=>h.2.2.2.1;have l1:Kn q fun M=>BlkAt M i0 g0 e0:=hyA.imp fun M h=>⟨h.2.2.2.2.1,h.2.2.2.2.2⟩
 obtain ⟨o0,n0,m0,_⟩:=hg;obtain ⟨d1,c1,b1,a1,z0,s0,v0,u0,t0⟩:=Yu n0;obtain ⟨f1,e1⟩:=Wn o0;rw [Zg,Zg] at m0;obtain ⟨R,a⟩:=kL (U.er.others g.er.pr who (Stm.er (Stm.mk kk ln cl nm wt (Ex.mk ek en o f t j el ea ec) (Ex.mk xk xn x xsl z u xl xa xc) bd e0 ba bc i0 g0 id sl ot k0)) ev.e);rw [<-a];unfold SS.others at a;simp only [Stm.er] at a;rw [Ze b] at a;change X _ _ _ _ _ _ _ _ (A3 p pp U who ev q F);obtain rfl:kk=14:=(by omega);try dsimp only at a
 rw [if_neg (by decide)] at a;rw [if_neg (by decide)] at a;rw [if_neg (by decide)] at a;rw [if_neg (by decide)] at a;rw [if_neg (by decide)] at a;rw [if_neg (by decide)] at a;try rw [show U.er.sy=U.sy from rfl] at a
 have r0:thr (who:Int):=⟨by omega,by omega⟩;have g1:=hO.mu;have h1:=hO.co;have i1:=hO.ch;refine Yw (l:=U.ths) (by omega) fun ga e_=> ?_;have hr: ∀ r,Sees (Ag U r) (some ⟨ga,0,none⟩) (AB U):=fun r=>by rw [<-e_];exact bE r
 have y0:=hO.sp;refine xo 3 ?_;refine aO call95 (Jv (p:=p) (who:=who) (ga:=ga) (m:=U.ths.length) (c:=U.hc) (by rw [<-e_];exact clA) clA b) ?_;refine oo 2 ?_;refine ld ?_ (hc:=(cT (n:=who) (hr _) leA Zd b rfl 4 _ rfl));refine ox 4 ?_;refine aY (cG (fun (s:Nat×EvC)=>s.1<=U.ths[who].sp.length/\s.2.e=ev.e.sn ((U.ths[who].sp.take s.1).map fun i=>((7:Int),(0:Int),i))) (fun s=> [(0,.pointer (some ⟨p,0,none⟩)),(10,.slice U.ths[who].sa U.ths[who].sp.length U.ths[who].sc),(11,I64 (U.ths[who].sp.length:Int)),(12,I64 (s.1:Int))]) (fun s=>pto p (.cells (Vt pp U++(I64 who::evC s.2)).toArray 145 (0,0))::lsH I64 2 U.ca U.cc U.cells::yH U.sp U.sy::rsH trC 5 116 U.ha U.hc U.ths::stars (U.ths.map trH)::rsH acC 3 140 s.2.aa s.2.ac s.2.e.acc::rsH snC 3 50 s.2.na s.2.nc s.2.e.syn::(q++F)) (fun s=>U.ths[who].sp.length - s.1) (fun s b0 ih=> ?_) (0,ev) ⟨bB _,by rw [gU,eM,Eg]⟩) Zu leA;try dsimp only at b0 ih|-
 obtain ⟨hi,d⟩:=b0;refine xx 5 ?_;refine xp 13 ?_ ?_<;>intro h0
 . have l0:s.1<U.ths[who].sp.length:=(by omega);have hA:=(D8 (q:=q++F) b);refine Yd (hA.le leA) (by simp;omega) fun ab ao j0=> ?_;have a0:=hA;rw [j0] at a0|-;refine rf [7,0,5] a0 ?_;refine Zb call98 leA (V8 (p:=p) (pp:=pp) (who:=who) (U:=U) (ev:=s.2) (k:=7) (sl:=0) (ot:=U.ths[who].sp[s.1]) (q:=q++F) (by rw [d];unfold PEv.sn;dsimp only;rw [d0];simp only [aT,aU,bH];omega)) ?_;rintro _ _ ⟨q0,c0,f0⟩;simp only [Zw,spP,Zr,evL,ca,na] at f0;subst f0;refine ox 6 ?_;rw [<-j0];refine aY (ih (s.1+1,q0) ⟨by dsimp only;omega,by dsimp only;rw [c0,d,F1,aH l0,aM];rfl⟩ (by dsimp only;omega)) Zu leA
 obtain ⟨s1,s2⟩:=s;dsimp only at hi h0 d|-;obtain rfl:s1=U.ths[who].sp.length:=(by omega);rw [cD] at d;refine xx 2 ?_;refine Z7 (Zw p pp who U s2++q) func141 (Vm results141) (dG ⟨U,s2,⟨by rw [a],by rw [a],by rw [a,d];rfl,hTd⟩,rfl⟩) (by rw [aA];exact aE _)
theorem Zzb (E F:List HP)(hP:Prg q pp g)(hn:n<g.ths.l.length)(hl:0<=g.ths.l[n].loc/\g.ths.l[n].loc<=32)(hb:g.ths.l[n].body.length<=1000000):CallF prog G 47 [.pointer (some ⟨pp,0,none⟩),I64 n] (E++(q++F)) (Ret fun v q'=> ∃ T:TC,T.er=Wc g.er.pr n/\v= .agg (trC T).toArray/\(Kn q fun M=> ∀ y∈T.todo,y.At M)/\q'=trH T::(E++(q++F))):=
 dF (Vw E q F) (CallF.fr (E++F) (Po hP hn hl hb)) (by rintro _ _ ⟨_,rfl,_,⟨T,b,rfl,a,rfl⟩,rfl⟩;exact ⟨_,⟨_,rfl,T,b,rfl,a,rfl⟩,dD _ (Vw q E F)⟩)
abbrev Ah (v0:StC):=(v0.ths.length:Int)
theorem Zqq (hP:Prg q pp g)(hM:MayP g.er)(hO:PO g N who U)(hev:ev.e.acc= []/\ev.e.syn= [])(hyA:Kn q fun M=>y.At M)(hg:y.s.er.good g.er.cn (U.ths[who]'(hO.w)).loc.length)(hTd:Kn q fun M=>TodoAt M U.ths)(hk:y.s.er.kd=13):CallF prog G 140 (A9 p y) (Zw p pp who U ev++q) (RP (fun v q'=> ∃ (U':StC) (ev':EvC),((U.er.others g.er.pr who y.s.er ev.e).2.2=0/\U'.er=(U.er.others g.er.pr who y.s.er ev.e).1/\ev'.e=(U.er.others g.er.pr who y.s.er ev.e).2.1/\Kn q fun M=>TodoAt M U'.ths)/\q'=Zw p pp who U' ev'++q) (fun ch q'=> ∃ (U':StC) (ev':EvC),((U.er.others g.er.pr who y.s.er ev.e).2.2≠0/\ch= [Vd (U.er.others g.er.pr who y.s.er ev.e).2.2]/\ev'.e=(U.er.others g.er.pr who y.s.er ev.e).2.1)/\q'=Zw p pp who U' ev'++q)):=by
 refine aC func140 ntmps140 rfl fun F cs=> ?_;obtain ⟨yb,yo,ys⟩:=y;obtain ⟨kk,ln,cl,nm,wt,⟨ek,en,c0,a0,d0,b0,el,ea,ec⟩,⟨xk,xn,f0,xsl,g0,e0,xl,xa,xc⟩,bd,n0,ba,bc,p0,o0,id,sl,ot,q0⟩:=ys;have x:=eR hyA;dsimp only at x hg hyA hk|-;simp only [Stm.er,PStm.kd] at hk;have a:=hO.w;have h8:=hO.h8;have c1:=hO.y;have p1:=hO.n9;obtain ⟨b1,l0⟩:=hev;have s1:Kn q fun M=>ExAt M ⟨yb,yo+5,none⟩ (Ex.mk ek en c0 a0 d0 b0 el ea ec):=hyA.imp fun M h=>Yj (pre:= (A6 kk ln cl nm wt)) h.1 rfl h.2.1 rfl
 have q1:Kn q fun M=>ExAt M ⟨yb,yo+12,none⟩ (Ex.mk xk xn f0 xsl g0 e0 xl xa xc):=hyA.imp fun M h=>Yj (pre:= (A6 kk ln cl nm wt)++exC (Ex.mk ek en c0 a0 d0 b0 el ea ec)) h.1 rfl h.2.2.1 rfl
 have t1:Kn q fun M=>BlkAt M ba bc bd:=hyA.imp fun M h=>h.2.2.2.1;have r1:Kn q fun M=>BlkAt M p0 o0 n0:=hyA.imp fun M h=>⟨h.2.2.2.2.1,h.2.2.2.2.2⟩
 obtain ⟨u0,t0,s0,_⟩:=hg;obtain ⟨j1,i1,g1,f1,e1,y0,a1,z0,i0⟩:=Yu t0;obtain ⟨l1,k1⟩:=Wn u0;rw [Zg,Zg] at s0;obtain ⟨R,o⟩:=kL (U.er.others g.er.pr who (Stm.er (Stm.mk kk ln cl nm wt (Ex.mk ek en c0 a0 d0 b0 el ea ec) (Ex.mk xk xn f0 xsl g0 e0 xl xa xc) bd n0 ba bc p0 o0 id sl ot q0)) ev.e);rw [<-o];unfold SS.others at o;simp only [Stm.er] at o;rw [Ze a] at o;change X _ _ _ _ _ _ _ _ (A3 p pp U who ev q F);obtain rfl:kk=13:=(by omega);try dsimp only at o
 rw [if_neg (by decide)] at o;rw [if_neg (by decide)] at o;rw [if_neg (by decide)] at o;rw [if_neg (by decide)] at o;rw [if_neg (by decide)] at o;rw [if_pos (by decide)] at o;try rw [show U.er.sy=U.sy from rfl] at o
 have x0:thr (who:Int):=⟨by omega,by omega⟩;have m1:=hO.mu;have n1:=hO.co;have o1:=hO.ch;refine Yw (l:=U.ths) (by omega) fun ga e_=> ?_;have hr: ∀ r,Sees (Ag U r) (some ⟨ga,0,none⟩) (AB U):=fun r=>by rw [<-e_];exact bE r
 have d1:=hO.sp;have j0:=i0 rfl;obtain ⟨D,rfl⟩:=aV j0.1;have hD:D<g.ths.l.length:=(by have:=j0.2;rw [cn_th] at this;omega);have h0:=hM.t _ (aP (f:=Th.er) (aB hD));have r0:U.er.ths.length=U.ths.length:=eP U;rw [r0] at o;refine rn [6,0,9] ?_;refine xp 12 ?_ ?_<;>intro h1
 . rw [if_pos (show 8<=U.ths.length by omega)] at o;refine xo 2 ?_;refine Vn call169 (aE _) (Ks (z:=5)) ?_ ?_
   . rintro _ _ ⟨rfl,rfl⟩;exact dA func140 (dX (by rw [o];exact ⟨U,ev,⟨(show (5:Int)≠0 by decide),rfl,rfl⟩,rfl⟩)) leA
   rintro _ _ ⟨⟩
 rw [if_neg (show ¬8<=U.ths.length by omega)] at o;refine xo 5 ?_;refine aO call95 (Jv (p:=p) (who:=who) (ga:=ga) (m:=U.ths.length) (c:=U.hc) (by rw [<-e_];exact clA) clA a) ?_;refine oo 1 ?_;refine aO call95 (Jv (p:=p) (who:=who) (ga:=ga) (m:=U.ths.length) (c:=U.hc) (by rw [<-e_];exact clA) clA a) ?_;refine oo 2 ?_;refine ld ?_ (hc:=(cT (n:=who) (hr _) leA Zd a rfl 4 _ rfl));refine oo 1 ?_;refine bQ (U3 (u:=(Ah U)) I64 underlying22 R4 rfl rfl) ?_;rintro _ _ ⟨g2,rfl,rfl⟩;refine eU (q':=stars (U.ths.map trH)::_) Zk (eU (Nu a _) ?_);refine bQ (Yx (f:=I64) (l:=U.ths[who].sp) (m:= [(Ah U)]) underlying22 R4 rfl rfl rfl Zk ((bR _).le leA) (fun _=>rfl) (by simp only [bJ];omega) (by simp only [bJ];omega)) ?_;rintro _ _ ⟨i,d,rfl,rfl⟩;refine oo 2 ?_;refine eU (q':=rsH trC 5 116 (some ⟨ga,0,none⟩) U.hc U.ths::_) (by rw [<-e_];exact Zk) ?_;refine dJ (Yr (g:=ga) (f:=trC) (l:=U.ths) (u:=({ U.ths[who] with sa:=i,sc:=d,sp:=U.ths[who].sp++ [(Ah U)] } :TC)) (n:=who) (k:=4) (j:=(who:Int)) rfl rfl sizeOf22 Zd rfl a rfl rfl rfl rfl Zk) ?_;rintro _ _ ⟨rfl,rfl⟩;rw [<-e_];refine eU (q':=stars ((U.ths.set who ({ U.ths[who] with sa:=i,sc:=d,sp:=U.ths[who].sp++ [(Ah U)] } :TC)).map trH)::_) (aS (b:=lsH I64 2 (({ U.ths[who] with sa:=i,sc:=d,sp:=U.ths[who].sp++ [(Ah U)] } :TC)).la (({ U.ths[who] with sa:=i,sc:=d,sp:=U.ths[who].sp++ [(Ah U)] } :TC)).lc (({ U.ths[who] with sa:=i,sc:=d,sp:=U.ths[who].sp++ [(Ah U)] } :TC)).loc::lsH PS.v 146 (({ U.ths[who] with sa:=i,sc:=d,sp:=U.ths[who].sp++ [(Ah U)] } :TC)).ta (({ U.ths[who] with sa:=i,sc:=d,sp:=U.ths[who].sp++ [(Ah U)] } :TC)).tc (({ U.ths[who] with sa:=i,sc:=d,sp:=U.ths[who].sp++ [(Ah U)] } :TC)).todo::lsH I64 3 (({ U.ths[who] with sa:=i,sc:=d,sp:=U.ths[who].sp++ [(Ah U)] } :TC)).sa (({ U.ths[who] with sa:=i,sc:=d,sp:=U.ths[who].sp++ [(Ah U)] } :TC)).sc (({ U.ths[who] with sa:=i,sc:=d,sp:=U.ths[who].sp++ [(Ah U)] } :TC)).sp::stars (B7 U who)::_) (bM Zk (bM Zk (bM Zk Zk))) (Np a ({ U.ths[who] with sa:=i,sc:=d,sp:=U.ths[who].sp++ [(Ah U)] } :TC) _)) ?_;refine rf [2,0,1,2,3,4,5,6,7,8,9,10,11,12,13,14,15] x ?_;refine Wy 15 call47 leA (Zzb (n:=D) (pto p (.cells (Vt pp U++(I64 who::evC ev)).toArray 145 (0,0))::lsH I64 2 U.ca U.cc U.cells::yH U.sp U.sy::rsH trC 5 116 U.ha U.hc (U.ths.set who ({ U.ths[who] with sa:=i,sc:=d,sp:=U.ths[who].sp++ [(Ah U)] } :TC))::stars ((U.ths.set who ({ U.ths[who] with sa:=i,sc:=d,sp:=U.ths[who].sp++ [(Ah U)] } :TC)).map trH)::rsH acC 3 140 ev.aa ev.ac ev.e.acc::rsH snC 3 50 ev.na ev.nc ev.e.syn:: []) F hP hD h0.1 (by have:=h0.2.1;rw [show (Th.er g.ths.l[D]).body=Zj g.ths.l[D].body from rfl,Zg] at this;omega)) ?_;rintro _ _ ⟨T1,w0,rfl,v0,rfl⟩;refine ⟨(hlF x),?_⟩;refine fC 16 rfl (Yz (u:=T1) trC underlying96 Qj rfl rfl Zd rfl) ?_;rintro _ _ ⟨gt,rfl,rfl⟩;refine ⟨(hlF x),?_⟩;refine dS 31 (.slice U.ha (U.ths.set who ({ U.ths[who] with sa:=i,sc:=d,sp:=U.ths[who].sp++ [(Ah U)] } :TC)).length U.hc) rfl (by rw [bC]) ?_;refine fC 17 rfl (Z9 (f:=trC) (l:=(U.ths.set who ({ U.ths[who] with sa:=i,sc:=d,sp:=U.ths[who].sp++ [(Ah U)] } :TC))) (m:= [T1]) underlying96 Qj rfl rfl Zd rfl rfl Zk ((bE _).le leA) F6 (by simp only [bC,bJ];omega) (by simp only [bC,bJ];omega)) ?_;refine kk2 fun a6 c6=> ?_
 refine rn [19,20,21,22,0,3] ?_;refine eU (q':=stars (((U.ths.set who ({ U.ths[who] with sa:=i,sc:=d,sp:=U.ths[who].sp++ [(Ah U)] } :TC))++ [T1]).map trH)::_) (aS (b:=stars ((U.ths.set who ({ U.ths[who] with sa:=i,sc:=d,sp:=U.ths[who].sp++ [(Ah U)] } :TC)).map trH)::trH T1::_) (bM Zk Zk) (by rw [aM];exact Le.stars_snoc _ _ _)) ?_;refine Zb call98 (by unfold Zw spP Vt Zr;simp only [aG,bC,bJ];exact leA) (V8 (p:=p) (pp:=pp) (who:=who) (U:=({ U with ha:=a6,hc:=c6,ths:=(U.ths.set who ({ U.ths[who] with sa:=i,sc:=d,sp:=U.ths[who].sp++ [(Ah U)] } :TC))++ [T1] } :StC)) (ev:=ev) (k:=6) (sl:=0) (ot:=(Ah U)) (q:=q++F) (by rw [l0];decide)) ?_;rintro _ _ ⟨m0,k0,rfl⟩;refine ox 1 ?_
 refine Z7 (Zw p pp who ({ U with ha:=a6,hc:=c6,ths:=(U.ths.set who ({ U.ths[who] with sa:=i,sc:=d,sp:=U.ths[who].sp++ [(Ah U)] } :TC))++ [T1] } :StC) m0++q) func140 (Vm results140) (dG ⟨({ U with ha:=a6,hc:=c6,ths:=(U.ths.set who ({ U.ths[who] with sa:=i,sc:=d,sp:=U.ths[who].sp++ [(Ah U)] } :TC))++ [T1] } :StC),m0,⟨by rw [o],by rw [o];exact spawn_er a w0,by rw [o,k0];rfl,(hTd.and v0).imp fun M h t ht y hy=>by
  rcases aQ.1 ht with ht|ht
  . rcases bO ht with ht|rfl
    . exact h.1 t ht y hy
    exact h.1 _ (aB a) y hy
  rw [aZ.1 ht] at hy;exact h.2 y hy⟩,rfl⟩) (by rw [aA];exact aE _)
end
theorem Pb {α:Type}{i:α}{r:List α}: ∀ {c:List (List α)} {k:Nat},c.getD k []=i::r->c.flatten.Perm (i::(c.set k r).flatten)
 | [],k,h=>by simp at h
 |a::c,0,h=>by
  have:a=i::r:=by simpa using h
  subst this;simp
 |a::c,k+1,h=>by
  have b:c.getD k []=i::r:=by simpa using h
  simp only [List.flatten_cons,kK];exact (List.Perm.append_left a (Pb b)).trans List.perm_middle
theorem Pf {α:Type}{i:α}: ∀ {c:List (List α)} {k:Nat},k<c.length->(c.set k (c.getD k []++ [i])).flatten.Perm (i::c.flatten)
 | [],k,h=>by simp at h
 |a::c,0,h=>by
  simp only [List.set_cons_zero,List.flatten_cons,List.getD_cons_zero,aA];exact List.perm_middle
 |a::c,k+1,h=>by
  simp only [kK,List.flatten_cons,List.getD_cons_succ];exact (List.Perm.append_left a (Pf (by simpa using h))).trans List.perm_middle
theorem Pq {α:Type}{c:List (List α)}{k:Nat}{r l:List α}(h:l∈c.set k r)(hr: ∀ x∈r,x∈c.getD k [])(hk:k<c.length): ∀ x∈l,∃ m∈c,x∈m:=fun x a=>by
 rcases bO h with h|rfl
 . exact ⟨l,h,a⟩
 exact ⟨_,Y3 hk,hr x a⟩
theorem SS.okx.wake1 {k:Nat}{i:Int}{r:List Int}(h:s.okx F N n)(hs:(s.th n).st=1)(hk:k<s.sy.conds.length)(hc:s.sy.conds.getD k []=i::r):
 ({ (s.put i.toNat { s.th i.toNat with st:=3 }) with sy:= { s.sy with conds:=s.sy.conds.set k r } } :SS).okx F N n/\(({ (s.put i.toNat { s.th i.toNat with st:=3 }) with sy:= { s.sy with conds:=s.sy.conds.set k r } } :SS).th n)=s.th n:=by
 have hm:=Y3 (d:=([]:List Int)) hk;have q:=h.w _ hm i (hc ▸ bI ..);have c0:n≠i.toNat:=fun e=>by rw [<-e,hs] at q;exact aR q.2 (by decide)
 have ha:=Un (t:= { s.th i.toNat with st:=3 }) q.1;have hl:=s.put_len i.toNat { s.th i.toNat with st:=3 }
 have a0:(({ (s.put i.toNat { s.th i.toNat with st:=3 }) with sy:= { s.sy with conds:=s.sy.conds.set k r } } :SS).th n)=s.th n:=by
  show (s.put i.toNat { s.th i.toNat with st:=3 }).th n=_
  rw [ha,if_neg c0]
 have hp:=Pb hc;have d0:=hp.nodup_iff.1 h.u;have k0:=h.h _ q.1;have k1:=h.o _ q.1 (Ne.symm c0)
 have b0: ∀ l∈s.sy.conds.set k r,∀ t∈l,t≠i/\ ∃ m∈s.sy.conds,t∈m:=fun l a t ht=>by
  refine ⟨fun e=> ?_,Pq a (fun x hx=>hc ▸ bZ _ hx) hk t ht⟩;subst e;exact (fT.1 d0).1 (List.mem_flatten.2 ⟨l,a,ht⟩)
 refine ⟨⟨h.c,h.v,?_,⟨h.z.1,by show ((s.sy.conds.set k r).length:Int)=_;rw [bC];exact h.z.2.1,h.z.2.2⟩,by show 1<=(s.put _ _).ths.length/\_;rw [hl];exact h.t,by show n<(s.put _ _).ths.length;rw [hl];exact h.nn,fun j hj=> ?_,fun j hj f0=> ?_,by rw [a0];exact .inl hs,fun l a t ht=> ?_,(fT.1 d0).2⟩,a0⟩
 . refine ⟨h.y.no,by show (s.sy.conds.set k r).length<=64;rw [bC];exact h.y.nc,h.y.nh,h.y.o,fun l a=> ?_,h.y.h⟩;have b:=h.y.c _ hm;rw [hc] at b;rcases bO a with a|rfl
   . exact h.y.c l a
   exact ⟨by have:=b.1;rw [bG] at this;omega,fun t ht=>b.2 t (bZ _ ht)⟩
 . have f:j<s.ths.length:=by rw [<-hl];exact hj
   show ((s.put _ _).th j).ok0 F N (s.put _ _).ths.length
   rw [ha,hl];split
   . exact ⟨k0.d,⟨show (1:Int)<=3 by decide,show (3:Int)<=4 by decide⟩,k0.l,k0.v,k0.g,k0.n,k0.p⟩
   exact h.h j f
 . have f:j<s.ths.length:=by rw [<-hl];exact hj
   show ((s.put _ _).th j).ok1
   rw [ha];split
   . exact ⟨⟨fun e=>by have:=k1.e.1 e;rw [q.2] at this;exact aR this (by decide),fun e=>aR e (by show ¬ (3:Int)=4;decide)⟩,fun _=>k1.w (.inl q.2)⟩
   exact h.o j f f0
 obtain ⟨k2,m,e0,k3⟩:=b0 l a t ht;obtain ⟨k4,k5⟩:=h.w m e0 t k3;show t.toNat<(s.put _ _).ths.length/\((s.put _ _).th t.toNat).st=2
 rw [hl,ha,if_neg (fun e=>k2 (by have h1:=(h.y.c m e0).2 t k3;have h2:=(h.y.c _ hm).2 i (hc ▸ bI ..);unfold thr at h1 h2;omega))];exact ⟨k4,k5⟩
theorem D9: ∀ (l:List Int) (s:SS) (y:Sy),({ s with sy:=y } :SS).wake l= { s.wake l with sy:=y }
 | [],_,_=>rfl
 |i::r,s,y=>by
  show SS.wake _ r= { SS.wake _ r with sy:=y }
  rw [<-D9 r];rfl
theorem SS.okx.wakes {k:Nat}: ∀ {l:List Int} {s:SS},s.okx F N n->(s.th n).st=1->k<s.sy.conds.length->s.sy.conds.getD k []=l->
 ({ s.wake l with sy:= { s.sy with conds:=s.sy.conds.set k [] } } :SS).okx F N n/\(({ s.wake l with sy:= { s.sy with conds:=s.sy.conds.set k [] } } :SS).th n)=s.th n
 | [],s,h,hs,hk,hc=>by
  have:s.sy.conds.set k []=s.sy.conds:=by
   rw [<-hc,bD,aD hk];exact dO hk
  rw [this];exact ⟨h,rfl⟩
 |i::r,s,h,hs,hk,hc=>by
  obtain ⟨c,b⟩:=h.wake1 hs hk hc;have a:k<(s.sy.conds.set k r).length:=by rw [bC];exact hk
  have:=SS.okx.wakes (l:=r) (k:=k) c (by rw [b];exact hs) a (by simp [List.getD,hk]);simp only [fI,D9] at this;rw [b] at this;exact this
theorem SS.okx.waits (h:s.okx F N n)(hs:(s.th n).st=1)(hk:0<=k/\k<s.sy.conds.length)(hx:x.good F.cn (s.th n).loc.length)(h8:x.kd=8)(hl:(s.th n).left.length+1<=600*(N+2)):
 (({ s with sy:=(U7 s.sy k n).1 } :SS).put n { s.th n with st:=2,left:=x::(s.th n).left }).okx F (N+1) n:=by
 have r: ¬∃ l∈s.sy.conds,(n:Int)∈l:=fun ⟨l,hl,hn⟩=>by
  have:=(h.w l hl n hn).2;rw [show ((n:Int)).toNat=n from rfl,hs] at this;exact aR this (by decide)
 have a:=h.t;have e0:=h.nn
 have hw:(U7 s.sy k n).1= { s.sy with conds:=s.sy.conds.set k.toNat (s.sy.conds.getD k.toNat []++ [(n:Int)]) } :=by
  unfold U7;rw [if_pos hk,if_pos ⟨by omega,by omega⟩,if_neg r]
 have hy:=waitS_ok h.y k n;rw [hw] at hy|-;have a0:k.toNat<s.sy.conds.length:=by omega
 have ha:=Un (t:= { s.th n with st:=2,left:=x::(s.th n).left }) h.nn;have q:=h.h n h.nn;have hp:=Pf (i:=(n:Int)) a0;refine ⟨h.c,h.v,hy,⟨h.z.1,by show ((s.sy.conds.set _ _).length:Int)=_;rw [bC];exact h.z.2.1,h.z.2.2⟩,by simp only [dZ];exact h.t,by simp only [dZ];exact h.nn,fun j hj=> ?_,fun j hj b0=> ?_,?_,fun l b t a=> ?_,hp.nodup_iff.2 (fT.2 ⟨fun hm=>r (by obtain ⟨l,h1,h2⟩:=List.mem_flatten.1 hm;exact ⟨l,h1,h2⟩),h.u⟩)⟩
 iterate 2
  focus
   have c0:j<s.ths.length:=by have:=dZ s n { s.th n with st:=2,left:=x::(s.th n).left };rw [<-this];exact hj
  rotate_left
 . show ((s.put _ _).th n).st=1\/(((s.put _ _).th n).st=2/\((s.put _ _).th n).next.kd=8/\((s.put _ _).th n).left≠ [])
   rw [ha,if_pos rfl];exact .inr ⟨rfl,h8,fun e=>by cases e⟩
 . show t.toNat<(s.put _ _).ths.length/\((s.put _ _).th t.toNat).st=2
   rw [dZ,ha]
   have f:(∃ m∈s.sy.conds,t∈m)\/t=n:=by
    rcases bO b with b|rfl
    . exact .inl ⟨l,b,a⟩
    rcases aQ.1 a with a|a
    . exact .inl ⟨_,Y3 a0,a⟩
    exact .inr (aZ.1 a)
   rcases f with ⟨m,hm,d0⟩|rfl
   . obtain ⟨k1,k2⟩:=h.w m hm t d0;refine ⟨k1,?_⟩;split
     . rfl
     exact k2
   exact ⟨h.nn,by rw [if_pos (show ((n:Int)).toNat=n from rfl)]⟩
 . show ((s.put _ _).th j).ok0 F (N+1) (s.put _ _).ths.length
   rw [ha,dZ];split
   . exact ⟨q.d,⟨show (1:Int)<=2 by decide,show (2:Int)<=4 by decide⟩,q.l,q.v,⟨hx,q.g⟩,by simp only [bG];omega,q.p⟩
   exact (h.h j c0).mono (cX N) (aL _)
 show ((s.put _ _).th j).ok1
 rw [ha,if_neg b0];exact h.o j c0 b0
theorem Zz1 (h:0<=d/\d<F.ths.length):F.pr.ths.getD d.toNat (0, [])=(F.ths[d.toNat].loc,F.ths[d.toNat].body):=by
 have a:d.toNat<F.pr.ths.length:=by simp [Fnd.pr];omega
 rw [bD,aD a];simp [Fnd.pr]
theorem T3 {m:Nat}(hM:MayP F)(h:0<=d/\d<F.ths.length)(hm:0<m):(Wc F.pr d).ok0 F N m/\(Wc F.pr d).ok1:=by
 have c:=hM.t _ (aB (show d.toNat<F.ths.length by omega));unfold Wc;rw [Zz1 h];dsimp only;have a:((F.ths[d.toNat].loc.toNat:Nat):Int)=F.ths[d.toNat].loc:=by omega
 refine ⟨⟨h,?_,?_,?_,?_,?_,⟨hm,fun i f=>by cases f⟩⟩,⟨?_,?_⟩⟩
 . dsimp only;split<;>omega
 . simp only [cU];omega
 . intro x b;rw [(gO.1 b).2];unfold val;omega
 . simp only [cU];rw [a];exact c.2.2
 . dsimp only;omega
 . dsimp only;split
   . rename_i e;exact ⟨fun _=>rfl,fun _=>e⟩
   rename_i e;exact ⟨fun k=>aR k e,fun k=>aR k (by decide)⟩
 dsimp only;intro k;exfalso;revert k;split<;>(intro k;rcases k with k|k<;>exact aR k (by decide))
theorem SS.okx.spawn (h:s.okx F N n)(hM:MayP F)(hs:(s.th n).st=1)(hd:0<=d/\d<F.ths.length)(h8:s.ths.length<8):
 ({ (s.put n { s.th n with sp:=(s.th n).sp++ [(s.ths.length:Int)] }) with ths:=(s.put n { s.th n with sp:=(s.th n).sp++ [(s.ths.length:Int)] }).ths++ [Wc F.pr d] } :SS).okx F N n:=by
 obtain ⟨X,m⟩:=kL ({ s.th n with sp:=(s.th n).sp++ [(s.ths.length:Int)] } :PTr);rw [<-m];have f:=h.h n h.nn
 have a:({ (s.put n X) with ths:=(s.put n X).ths++ [Wc F.pr d] } :SS).ths.length=s.ths.length+1:=by
  show ((s.put n X).ths++ [Wc F.pr d]).length=_
  rw [aG,dZ];rfl
 have j: ∀ i,({ (s.put n X) with ths:=(s.put n X).ths++ [Wc F.pr d] } :SS).th i=if i=s.ths.length then Wc F.pr d else if i=n then X else s.th i:=fun i=>by
  unfold SS.th;show ((s.put n X).ths++ [Wc F.pr d]).getD i zTr=_
  by_cases e:i=s.ths.length
  . rw [if_pos e,bD,cY (by rw [dZ];omega),dZ,e];simp
  rw [if_neg e];by_cases e2:i<s.ths.length
  . rw [bD,dV (by rw [dZ];exact e2),<-bD];exact Un h.nn i
  have x:i≠n:=fun k=>e2 (k ▸ h.nn)
  rw [if_neg x,bD,cF (by rw [aG,dZ];simp;omega),bD,cF (by omega)]
 have a0:X.ok0 F N (s.ths.length+1):=by
  rw [m];refine ⟨f.d,f.s,f.l,f.v,f.g,f.n,⟨by have:=f.p.1;simp only [aG,bJ];omega,fun i b=> ?_⟩⟩;rcases aQ.1 b with b|b
  . have:=f.p.2 i b;omega
  rw [aZ.1 b];omega
 have b0:=h.nn;refine ⟨h.c,h.v,h.y,h.z,by rw [a];omega,by rw [a];omega,fun i b=> ?_,fun i b r=> ?_,?_,fun l hl t ht=> ?_,h.u⟩
 . rw [a] at b|-;rw [j];split
   . exact (T3 hM hd (by omega)).1
   split
   . exact a0
   exact (h.h i (by omega)).mono (aL _) (cX _)
 . rw [a] at b;rw [j];split
   . exact (T3 (N:=N) hM hd (Nat.succ_pos 0)).2
   exact h.o i (by omega) r
 . rw [j,if_neg (by omega),if_pos rfl,m];exact .inl hs
 obtain ⟨k1,q⟩:=h.w l hl t ht;rw [a,j,if_neg (by omega)];refine ⟨by omega,?_⟩;split
 . rename_i e;rw [e] at q;rw [m];exact q
 exact q
theorem recv_val {s:Sy}(h:s.ok N)(k:Nat):val ((s.chans.getD k ch0).items.headD 0):=by
 by_cases hk:k<s.chans.length
 . have b:=h.h _ (Y3 (d:=ch0) hk)
   cases hi:(s.chans.getD k ch0).items with
   |nil=>show val 0;unfold val;omega
   |cons a r=>exact b.2.2.2.2 a (kD (show a∈(s.chans.getD k ch0).items by rw [hi];exact bI ..))
 rw [bD,cF (by omega)];show val 0;unfold val;omega
theorem Sq {s:Sy}(hk:0<=k/\k<s.conds.length):(Yt s k).1= { s with conds:=s.conds.set k.toNat ((s.conds.getD k.toNat []).drop 1) } :=by
 unfold Yt;rw [if_pos hk];split
 . rename_i e
   have:s.conds.set k.toNat ((s.conds.getD k.toNat []).drop 1)=s.conds:=by
    have a:k.toNat<s.conds.length:=by omega
    have b:s.conds.getD k.toNat []=s.conds[k.toNat]:=by simp [List.getD,a]
    rw [e,List.drop_nil,<-e,b];exact dO a
   rw [this]
 rfl
theorem G2 {ev:PEv}(h:s.okx F N n)(hM:MayP F)(hs:(s.th n).st=1)(hx:x.good F.cn (s.th n).loc.length)(hl:(s.th n).left.length+1<=600*(N+1))(hk: ¬ (x.kd<=5\/x.kd=11\/x.kd=15))(ht:(s.others F.pr n x ev).2.2=0):(s.others F.pr n x ev).1.okx F (N+1) n:=by
 have u:=h.mono (cX N);obtain ⟨k,ln,cl,nm,wt,e,ix,e0,o0,id,a,b,loc⟩:=x;simp only [PStm.kd] at hk;have w:=hx;obtain ⟨m0,a0,l0,k0,j0⟩:=hx;obtain ⟨i0,h0,g0,f0,l,b0,d0,c0,m⟩:=Yu a0;have hz:=h.z;have n0:F.cn.co=F.co:=rfl;unfold SS.others at ht|-;dsimp only at ht|-;split at ht
 . rename_i t;rw [if_pos t];split at ht
   . exact aR ht (by show ¬ (4:Int)=0;decide)
   rename_i q;rw [if_neg q];obtain ⟨j,f,g⟩:=Dn s.sy a n;exact h.sync (cX N) ((Pj h.y _ _).mono (cX N)) j f (by rw [g])
 rename_i t;rw [if_neg t];split at ht
 . rename_i t;rw [if_pos t];split at ht
   . exact aR ht (by show ¬ (4:Int)=0;decide)
   rename_i q;rw [if_neg q];obtain ⟨j,f,g⟩:=Nt s.sy a n;exact h.sync (cX N) ((Bf h.y _ _).mono (cX N)) j f (by rw [g])
 rename_i q;rw [if_neg q];split at ht
 . rename_i p;rw [if_pos p];split at ht
   . exact aR ht (by show ¬ (4:Int)=0;decide)
   rename_i o;rw [if_neg o];obtain ⟨j,f,g⟩:=Nt s.sy b n;have hu:=h.sync (aL N) (Bf h.y b n) j f (by rw [g]);have c:=l (.inl p);exact SS.okx.waits hu hs ⟨c.1,by rw [show ({ s with sy:=(Z6 s.sy b n).1 } :SS).sy=(Z6 s.sy b n).1 from rfl,f];omega⟩ w p (by show (s.th n).left.length+1<=_;omega)
 rename_i p;rw [if_neg p];split at ht
 . rename_i o;rw [if_pos o];have c:=l (by omega);have d:a.toNat<s.sy.conds.length:=by omega
   by_cases h10:k=10
   . have hw:=(u.wakes hs d rfl).1;simp only [if_pos h10,cD];have ha:(Kb s.sy a).1= { s.sy with conds:=s.sy.conds.set a.toNat [] } :=by unfold Kb;rw [if_pos ⟨c.1,by omega⟩]
     rw [ha];exact hw
   simp only [if_neg h10];rw [Sq ⟨c.1,by omega⟩]
   cases hc:s.sy.conds.getD a.toNat [] with
   |nil=>
    have:s.sy.conds.set a.toNat []=s.sy.conds:=by
     have hg:s.sy.conds.getD a.toNat []=s.sy.conds[a.toNat]:=by simp [List.getD,d]
     rw [<-hc,hg];exact dO d
    simp only [List.drop_nil,List.take_nil,this];exact u
   |cons i r=>
    have:=(u.wake1 hs d hc).1;simp only [List.drop_succ_cons,gB,bG,show min 1 (r.length+1)=1 by omega,kF,gU];exact this
 rename_i o;rw [if_neg o];split at ht
 . rename_i h5;rw [if_pos h5];have hr:=h.sync (cX N) ((Co h.y a).mono (cX N)) (by rw [Fz]) (Bl _ _) (Sx _ _);exact (hr.into (recv_val h.y a.toNat)).1
 rename_i h5;rw [if_neg h5];split at ht
 . rename_i v;rw [if_pos v];split at ht
   . exact aR ht (by show ¬ (5:Int)=0;decide)
   rename_i h7;rw [if_neg h7];exact u.spawn hM hs (m v) (by omega)
 rename_i v;rw [if_neg v];exact u
theorem SS.fine.pop (h:s.fine F N)(hn:n<s.ths.length)(hst:(s.th n).st=1\/(s.th n).st=3):(s.put n { s.th n with st:=1,left:=(s.th n).left.drop 1 }).okx F N n:=by
 have j: ∀ i,i<s.ths.length->(s.th i).ok0 F N s.ths.length/\(s.th i).ok1:=fun i a=>by
  rw [Kg a];exact (h.ok.h _ (aB a)).parts (h.q _ (aB a))
 have b:=(j n hn).1;have f:=Un (t:= { s.th n with st:=1,left:=(s.th n).left.drop 1 }) hn;refine ⟨h.ok.c,h.ok.v,h.ok.y,h.ok.z,by simp only [dZ];exact h.ok.t,by simp only [dZ];exact hn,fun i a=> ?_,fun i a k=> ?_,by rw [f,if_pos rfl];exact .inl rfl,fun l hl t x=> ?_,h.u⟩
 . simp only [dZ] at a|-;rw [f];split
   . exact ⟨b.d,⟨show (1:Int)<=1 by decide,show (1:Int)<=4 by decide⟩,b.l,b.v,Y9.2 fun y r=>Y9.1 b.g y (kD r),by have:=b.n;simp only [bS];omega,b.p⟩
   exact (j i a).1
 . simp only [dZ] at a;rw [f,if_neg k];exact (j i a).2
 obtain ⟨o,m⟩:=h.ok.w l hl t x;simp only [dZ];rw [f];refine ⟨o,?_⟩;split
 . rename_i e;rw [e] at m;omega
 exact m
theorem Zza (h:s.can p n=true): ¬ ((s.th n).st=2\/(s.th n).st=4):=by
 unfold SS.can at h;dsimp only at h;split at h
 . cases h
 omega
structure SS.ready (F:Fnd) (N n:Nat) (s:SS) (x:PStm):Prop where
 st:(s.th n).st=1\/(s.th n).st=3
 l:(s.th n).left=x::(s.th n).left.drop 1
 e:x=(s.th n).next
 g:x.good F.cn (s.th n).loc.length
 b:((s.th n).left.drop 1).length+1<=600*(N+1)
 w:(s.th n).st=3->x.kd=8
theorem SS.fine.ready (h:s.fine F N)(hn:n<s.ths.length)(hc:s.can p n=true):s.ready F N n (s.th n).next:=by
 have k:=h.ok.h _ (aB hn);rw [<-Kg hn] at k;have l:=Zza hc;have j:=k.s;have b:(s.th n).st=1\/(s.th n).st=3:=by omega
 have c:(s.th n).left≠ []:=fun e=>by have:=k.e.1 e;omega
 have d:(s.th n).left=(s.th n).next::(s.th n).left.drop 1:=by
  unfold PTr.next
  cases hq:(s.th n).left with
  |nil=>exact aR hq c
  |cons a r=>rfl
 refine ⟨b,d,rfl,?_,?_,fun e=>k.w (.inr e)⟩
 . have f:=k.g;rw [d] at f;exact f.1
 have i:=k.n;rw [d,bG] at i;exact i
theorem Ic {st:Int}(h:(s.th n).st=st)(l:List PStm):s.put n { s.th n with left:=l } =s.put n { s.th n with st:=st,left:=l } :=by rw [<-h]
theorem Fo (h:s.fine F N)(hM:MayP F)(hn:n<s.ths.length)(hc:s.can F.pr n=true)(ht:(s.did F.pr n).2.2=0):(s.did F.pr n).1.okx F (N+1) n:=by
 have R:=h.ready hn hc;have d:=h.pop hn R.st;unfold SS.did at ht|-;dsimp only at ht|-;split at ht
 . rename_i f;rw [if_pos f];obtain ⟨o,m,l⟩:=Dn s.sy (s.th n).next.oth n;exact d.sync (cX N) ((Pj h.ok.y _ _).mono (cX N)) o m (by rw [l];rfl)
 rename_i f;rw [if_neg f];have p:(s.th n).st=1:=by have:=R.st;omega
 rw [Ic p] at ht|-;obtain ⟨X,e⟩:=kL ({ s.th n with st:=1,left:=(s.th n).left.drop 1 } :PTr);rw [<-e] at d ht|-;have a:(s.put n X).th n=X:=Dd hn;have k:((s.put n X).th n).st=1:=by rw [a,e]
 have j:(s.th n).next.good F.cn ((s.put n X).th n).loc.length:=by rw [a,e];exact R.g
 have i:((s.put n X).th n).left.length+1<=600*(N+1):=by rw [a,e];exact R.b
 split at ht
 . rename_i c;rw [if_pos c];exact Ia d hM k j i c ht
 rename_i c;rw [if_neg c];exact G2 d hM k j i c ht
def SS.ended (s:SS)(n:Nat)(ev:PEv):SS×PEv:=
 if (s.th n).left= [] then (s.put n { s.th n with st:=4 }, { ev with syn:=ev.syn++ [(8,0,0)] }) else (s,ev)
theorem SS.okx.ended {ev:PEv}(h:s.okx F N n):(s.ended n ev).1.fine F N:=by
 have mk: ∀ s:SS,(s.cells.length:Int)=F.vars.length+Y7 F.arrs->(∀ x∈s.cells,val x)->s.sy.ok N->((s.sy.owners.length:Int)=F.mu/\(s.sy.conds.length:Int)=F.co/\s.sy.chans.map Ch.room=F.chs)->(1<=s.ths.length/\s.ths.length<=8)->
  (∀ i,i<s.ths.length->(s.th i).ok0 F N s.ths.length/\(s.th i).ok1)->(∀ l∈s.sy.conds,∀ t∈l,t.toNat<s.ths.length/\(s.th t.toNat).st=2)->s.sy.conds.flatten.Nodup->s.fine F N:=fun s a b c d e f g u=>by
  have f2: ∀ t∈s.ths,t.ok0 F N s.ths.length/\t.ok1:=fun t q=>by
   obtain ⟨i,j,rfl⟩:=List.getElem_of_mem q;rw [<-Kg j];exact f i j
  exact ⟨⟨a,b,c,d,e,fun t q=>ThOk.of (f2 t q).1 (f2 t q).2 e.2,g⟩,u,fun t q=>(f2 t q).1.p.1⟩
 have a0:=h.nn;unfold SS.ended;split
 . rename_i he;have hs:(s.th n).st=1:=by rcases h.m with r|r;exact r;exact aR he r.2.2
   have ha:=Un (t:= { s.th n with st:=4 }) a0;have k0:=h.h n a0;refine mk _ h.c h.v h.y h.z (by simp only [dZ];exact h.t) (fun i j=> ?_) (fun l hl t q=> ?_) h.u
   . simp only [dZ] at j|-;rw [ha];split
     . exact ⟨⟨k0.d,⟨show (1:Int)<=4 by decide,show (4:Int)<=4 by decide⟩,k0.l,k0.v,k0.g,k0.n,k0.p⟩,⟨fun _=>rfl,fun _=>he⟩,fun e=>by rcases e with e|e<;>exact aR e (by first|(show ¬ (4:Int)=2;decide)|(show ¬ (4:Int)=3;decide))⟩
     rename_i b0;exact ⟨h.h i j,h.o i j b0⟩
   obtain ⟨k1,k2⟩:=h.w l hl t q;simp only [dZ];rw [ha];refine ⟨k1,?_⟩;split
   . rename_i e;rw [e] at k2;omega
   exact k2
 rename_i he;refine mk _ h.c h.v h.y h.z h.t (fun i j=>⟨h.h i j,?_⟩) h.w h.u;by_cases e:i=n
 . subst e;refine ⟨⟨fun k=>aR k he,fun k=> ?_⟩,fun k=> ?_⟩
   . have k':(s.th i).st=4:=k;rcases h.m with r|r<;>omega
   have k':(s.th i).st=2\/(s.th i).st=3:=k;rcases h.m with r|r
   . omega
   exact r.2.1
 exact h.o i j e
theorem Nb :s.step p n=if (s.did p n).2.2≠0 then ({ s with out:=⟨4,(s.did p n).2.2,n,(s.th n).next.idn⟩ }, { zEv n (s.th n).next.idn with trap:=(s.did p n).2.2,acc:=(s.did p n).2.1.acc }) else ((((s.did p n).1.ended n (s.did p n).2.1).1).stands p,((s.did p n).1.ended n (s.did p n).2.1).2):=by
 unfold SS.step SS.ended;dsimp only;split
 . rfl
 split<;>rfl
theorem SS.fine.out {F:Fnd}{N:Nat}{s:SS}(h:s.fine F N)(o:POut):({ s with out:=o } :SS).fine F N:=⟨⟨h.ok.c,h.ok.v,h.ok.y,h.ok.z,h.ok.t,h.ok.h,h.ok.w⟩,h.u,h.q⟩
theorem SS.fine.mono {N':Nat}(h:s.fine F N)(l:N<=N'):s.fine F N':=
 ⟨⟨h.ok.c,h.ok.v,h.ok.y.mono l,h.ok.z,h.ok.t,fun t a=>let k:=h.ok.h t a;⟨k.d,k.s,k.l,k.v,k.g,by have:=k.n;omega,k.e,k.w,k.p⟩,h.ok.w⟩,h.u,h.q⟩
theorem SS.fine.stands (h:s.fine F N):(s.stands p).fine F N:=by
 unfold SS.stands;dsimp only;split<;>exact h.out _
theorem SS.fine.step (h:s.fine F N)(hM:MayP F)(hn:n<s.ths.length)(hc:s.can F.pr n=true):(s.step F.pr n).1.fine F (N+1):=by
 rw [Nb];split
 . exact (h.mono (cX N)).out _
 rename_i a;exact (Fo h hM hn hc (fX.1 a)).ended.stands
def SS.does (p:PPr)(s:SS)(n:Nat)(x:PStm)(ev:PEv):SS×PEv×Int:=if x.kd<=5\/x.kd=11\/x.kd=15 then s.data p n x ev else s.others p n x ev
theorem Ii (h:(s.th n).st≠3):s.did p n=(s.put n { s.th n with left:=(s.th n).left.drop 1 }).does p n (s.th n).next (zEv n (s.th n).next.idn):=by
 unfold SS.did SS.does;dsimp only;rw [if_neg h]
theorem Lk (hn:n<s.ths.length)(h:(s.th n).st=3):s.did p n=(s.put n { s.th n with left:=(s.th n).left.drop 1 }).woken n (s.th n).next (zEv n (s.th n).next.idn):=by
 unfold SS.did SS.woken;dsimp only;rw [if_pos h,Dd hn];unfold SS.put PEv.sn zEv;simp
abbrev TC.pop (t:TC):TC:= { t with todo:=t.todo.take (t.todo.length - 1) }
theorem Zzd (t:TC):t.pop.er= { t.er with left:=t.er.left.drop 1 } :=by
 unfold TC.er;simp only [PTr.mk.injEq,true_and,and_true];rw [<-List.dropLast_eq_take];simp [List.map_dropLast,List.tail_reverse]
abbrev StC.pop (U:StC)(n:Nat)(h:n<U.ths.length):StC:= { U with ths:=U.ths.set n U.ths[n].pop }
theorem Iu (h:n<U.ths.length):(U.pop n h).er=U.er.put n { U.er.th n with left:=(U.er.th n).left.drop 1 } :=by
 rw [W7,Zzd,Ze h]
theorem PO.pop (h:SS.fine g.er N U.er)(hN:N<=900)(hw:who<U.ths.length):PO g N who (U.pop who hw):=by
 have k:=h.ok.at hw;have b:(U.pop who hw).ths.length=U.ths.length:=by simp
 have a:U.er.ths.length=U.ths.length:=eP U;have j:=h.ok.t;rw [a] at j;have d:(U.pop who hw).ths[who]'(by rw [b];exact hw)=U.ths[who].pop:=cN ..;have e:=h.ok.z;refine ⟨by rw [b];exact hw,by rw [b];exact j.2,h.ok.c,h.ok.v,?_,?_,h.ok.y,hN,e.1,e.2.1,?_,?_,?_,?_⟩
 . rw [d];exact k.v
 . rw [d];exact k.l
 . have:=bK List.length e.2.2;rw [aU] at this;have m:g.er.cn.ch=(g.er.chs.length:Int):=rfl;rw [m,<-this];rfl
 . intro l i t f;rw [b,<-a];exact (h.ok.w l i t f).1
 . rw [d];have:=k.n;rw [Va] at this;have o:U.ths[who].pop.todo.length=min (U.ths[who].todo.length - 1) U.ths[who].todo.length:=bH;omega
 rw [d,b];exact k.p
theorem Oe (A:HP)(C q X:List HP):Le (C++(A::(q++X))) ((C++q)++(A::X)):=by rw [aA];exact dH C (Vw [A] q X)
theorem Fq (A:HP)(C q X:List HP):Le ((C++q)++(A::X)) (C++(A::(q++X))):=by rw [aA];exact dH C (Vw q [A] X)
theorem Mh {R:Wx.U5}(E:List HP)(h:CallF P G fn vs pre R):CallF P G fn vs (pre++E) (fun e q'=> ∃ q0,R e q0/\q'=q0++E):=by
 intro F w s i;rw [aA] at s;obtain ⟨e,c,g,⟨b,q,f,d⟩,a⟩:=h (E++F) w s i;exact ⟨e,c,g,⟨b,q++E,⟨q,f,rfl⟩,by rw [aA];exact d⟩,a⟩
theorem Zjq {R:Wx.U5}(E:List HP)(h:CallV P G fv vs pre R):CallV P G fv vs (pre++E) (fun e q'=> ∃ q0,R e q0/\q'=q0++E):=by
 intro F w s i j f d;rw [aA] at s;obtain ⟨e,b,⟨q,g,c⟩,a⟩:=h (E++F) w s i j f d;exact ⟨e,b,⟨q++E,⟨q,g,rfl⟩,by rw [aA];exact c⟩,a⟩
abbrev StepR (p pp who:Nat)(q:List HP)(R:StC->EvC->Prop)(Rp:StC->EvC->List PanicEntry->Prop):Wx.U5:=
 RP (fun _ q'=> ∃ (U':StC) (ev':EvC),R U' ev'/\q'=Zw p pp who U' ev'++q) (fun ch q'=> ∃ (U':StC) (ev':EvC),Rp U' ev' ch/\q'=Zw p pp who U' ev'++q)
theorem D6 {p:Nat}{A:HP}{F:List HP}(e:Ending)(q':List HP)(h: ∃ q0,StepR p pp who q R Rp e q0/\q'=q0++(A::F)): ∃ q'',StepR p pp who (A::(q++F)) R Rp e q''/\Le q' q'':=by
 rcases h with ⟨_,⟨v,rfl,c,a,b,rfl⟩|⟨d,rfl,c,a,b,rfl⟩,rfl⟩
 . exact ⟨_,.inl ⟨v,rfl,c,a,b,rfl⟩,Fq _ _ _ _⟩
 exact ⟨_,.inr ⟨d,rfl,c,a,b,rfl⟩,Fq _ _ _ _⟩
theorem Od {p:Nat}(A:HP)(F:List HP)(h:CallF P G fn vs (C++q) (StepR p pp who q R Rp)):CallF P G fn vs (C++(A::(q++F))) (StepR p pp who (A::(q++F)) R Rp):=
 dF (Oe A C q F) (Mh (A::F) h) D6
theorem Ou {p:Nat}(A:HP)(F:List HP)(h:CallV P G fv vs (C++q) (StepR p pp who q R Rp)):CallV P G fv vs (C++(A::(q++F))) (StepR p pp who (A::(q++F)) R Rp):=
 jY (Oe A C q F) (Zjq (A::F) h) D6
section
variable {p:Nat}
theorem Fm :Quiet prog G 94 (A8 nb):=by
 refine Quiet.of func94 ntmps94 rfl fun F b a c=> ?_;refine xo 2 ?_;refine XO.rcv c ?_;refine Zt (I4 rfl underlying199 rfl zeroValue199) ?_;refine oo 3 ?_;refine bW zeroValue199 fun d=> ?_
 refine rn [0,6] ?_;refine cQ 8 bF rfl rfl ?_;refine xx 2 ?_;exact X.fall ⟨rfl,rfl,.inl rfl,⟨_,Vm results94⟩,leA⟩
theorem Pr {y0:Value}:Catches prog G 94 (A8 nb) (Vd k) [pto nb (.cells [y0].toArray 39 (0,0))] [pto nb (.cells [I64 k].toArray 39 (0,0))]:=by
 refine Catches.of func94 ntmps94 rfl rfl fun F b a c=> ?_;refine xo 2 ?_;refine XO.rcv c ?_;refine Zt (I3 rfl underlying199 rfl) ?_;refine oo 3 ?_;refine bW zeroValue199 fun d=> ?_
 refine rn [0,6] ?_;refine cQ 8 bT rfl rfl ?_;refine rn [3,0,0,1] ?_;exact X.fall ⟨rfl,rfl,.inl rfl,⟨_,Vm results94⟩,leA⟩
def dL:List (Int×Value×Nat):= [(1,.func (.func 129) #[] #[],0),(2,.func (.func 129) #[] #[],1),(3,.func (.func 130) #[] #[],2),(4,.func (.func 131) #[] #[],3),(5,.func (.func 132) #[] #[],4),(6,.func (.func 133) #[] #[],5),(7,.func (.func 134) #[] #[],6),(8,.func (.func 135) #[] #[],7),(9,.func (.func 136) #[] #[],8),(10,.func (.func 137) #[] #[],9),(11,.func (.func 138) #[] #[],10),(12,.func (.func 139) #[] #[],11),(13,.func (.func 140) #[] #[],12),(14,.func (.func 141) #[] #[],13),(15,.func (.func 142) #[] #[],14)]
def dE (e:Int×Value×Nat):MapEntry:= { key:= I64 e.1,val:=e.2.1,born:=e.2.2 }
theorem dL_has (h:1<=k/\k<=15): ¬∀ e∈dL,e.1≠k:=by
 intro a;simp only [dL,cE,forall_eq_or_imp,List.not_mem_nil,false_imp_iff,implies_true,and_true] at a;omega
theorem doers_ok:CallF prog G 97 [] ([]) (Ret fun v q'=> ∃ n,v= .map (some n)/\q'= [pto n (.map (dL.map dE).toArray 15)]):=by
 refine aC func97 ntmps97 rfl fun F b=> ?_;refine xo 6 ?_;refine bQ (Ef.makeMap) ?_;rintro _ _ ⟨a,rfl,rfl⟩;refine dJ (eX (es:= []) underlying204 underlying119 rfl rfl rfl Zk (by rfl)) ?_;rintro _ _ ⟨rfl,rfl⟩;refine dJ (eX (es:=((dL.take 1).map dE)) underlying204 underlying119 rfl rfl rfl Zk (by rfl)) ?_;rintro _ _ ⟨rfl,rfl⟩;refine dJ (eX (es:=((dL.take 2).map dE)) underlying204 underlying119 rfl rfl rfl Zk (by rfl)) ?_;rintro _ _ ⟨rfl,rfl⟩;refine dJ (eX (es:=((dL.take 3).map dE)) underlying204 underlying119 rfl rfl rfl Zk (by rfl)) ?_;rintro _ _ ⟨rfl,rfl⟩;refine dJ (eX (es:=((dL.take 4).map dE)) underlying204 underlying119 rfl rfl rfl Zk (by rfl)) ?_;rintro _ _ ⟨rfl,rfl⟩;refine dJ (eX (es:=((dL.take 5).map dE)) underlying204 underlying119 rfl rfl rfl Zk (by rfl)) ?_;rintro _ _ ⟨rfl,rfl⟩;refine dJ (eX (es:=((dL.take 6).map dE)) underlying204 underlying119 rfl rfl rfl Zk (by rfl)) ?_;rintro _ _ ⟨rfl,rfl⟩;refine dJ (eX (es:=((dL.take 7).map dE)) underlying204 underlying119 rfl rfl rfl Zk (by rfl)) ?_;rintro _ _ ⟨rfl,rfl⟩;refine dJ (eX (es:=((dL.take 8).map dE)) underlying204 underlying119 rfl rfl rfl Zk (by rfl)) ?_;rintro _ _ ⟨rfl,rfl⟩;refine dJ (eX (es:=((dL.take 9).map dE)) underlying204 underlying119 rfl rfl rfl Zk (by rfl)) ?_;rintro _ _ ⟨rfl,rfl⟩;refine dJ (eX (es:=((dL.take 10).map dE)) underlying204 underlying119 rfl rfl rfl Zk (by rfl)) ?_;rintro _ _ ⟨rfl,rfl⟩;refine dJ (eX (es:=((dL.take 11).map dE)) underlying204 underlying119 rfl rfl rfl Zk (by rfl)) ?_;rintro _ _ ⟨rfl,rfl⟩;refine dJ (eX (es:=((dL.take 12).map dE)) underlying204 underlying119 rfl rfl rfl Zk (by rfl)) ?_;rintro _ _ ⟨rfl,rfl⟩;refine dJ (eX (es:=((dL.take 13).map dE)) underlying204 underlying119 rfl rfl rfl Zk (by rfl)) ?_;rintro _ _ ⟨rfl,rfl⟩;refine dJ (eX (es:=((dL.take 14).map dE)) underlying204 underlying119 rfl rfl rfl Zk (by rfl)) ?_;rintro _ _ ⟨rfl,rfl⟩;refine ox 3 ?_;refine Zq [pto a (.map (dL.map dE).toArray 15)] func97 (Zn results97 rfl) ⟨_,rfl,a,rfl,rfl⟩
theorem doer_at (hP:Prg q pp g)(hM:MayP g.er)(hO:PO g N who U)(hev:ev.e.acc= []/\ev.e.syn= [])(hyA:Kn q fun M=>y.At M)(hg:y.s.er.good g.er.cn (U.ths[who]'(hO.w)).loc.length)(hTd:Kn q fun M=>TodoAt M U.ths)(hr1:y.s.er.kd=11->((AD U y).items.length:Int)<(AD U y).room)(hr2:y.s.er.kd=12->0<(AD U y).items.length){e:Int×Value×Nat}(h:e∈dL)(hk:y.s.er.kd=e.1): ∃ f,e.2.1= .func (.func f) #[] #[]/\CallV prog G (.func (.func f) #[] #[]) (A9 p y) (Zw p pp who U ev++q) (RP (fun v q'=> ∃ (U':StC) (ev':EvC),((U.er.does g.er.pr who y.s.er ev.e).2.2=0/\U'.er=(U.er.does g.er.pr who y.s.er ev.e).1/\ev'.e=(U.er.does g.er.pr who y.s.er ev.e).2.1/\Kn q fun M=>TodoAt M U'.ths)/\q'=Zw p pp who U' ev'++q) (fun ch q'=> ∃ (U':StC) (ev':EvC),((U.er.does g.er.pr who y.s.er ev.e).2.2≠0/\ch= [Vd (U.er.does g.er.pr who y.s.er ev.e).2.2]/\ev'.e=(U.er.does g.er.pr who y.s.er ev.e).2.1)/\q'=Zw p pp who U' ev'++q)):=by
 simp only [dL,cE,List.not_mem_nil,or_false] at h;rcases h with rfl|rfl|rfl|rfl|rfl|rfl|rfl|rfl|rfl|rfl|rfl|rfl|rfl|rfl|rfl
 iterate 5
  focus
   have a:U.er.does g.er.pr who y.s.er ev.e=U.er.data g.er.pr who y.s.er ev.e:=if_pos (by rw [hk];decide)
  rotate_left
 iterate 5
  focus
   have a:U.er.does g.er.pr who y.s.er ev.e=U.er.others g.er.pr who y.s.er ev.e:=if_neg (by rw [hk];decide)
  rotate_left
 . have a:U.er.does g.er.pr who y.s.er ev.e=U.er.data g.er.pr who y.s.er ev.e:=if_pos (by rw [hk];decide);rw [a];exact ⟨138,rfl,Yc call138 (xsend_ok hP hM hO hev hyA hg hTd hk (hr1 hk))⟩
 iterate 3
  focus
   have a:U.er.does g.er.pr who y.s.er ev.e=U.er.others g.er.pr who y.s.er ev.e:=if_neg (by rw [hk];decide)
  rotate_left
 . have a:U.er.does g.er.pr who y.s.er ev.e=U.er.data g.er.pr who y.s.er ev.e:=if_pos (by rw [hk];decide);rw [a];exact ⟨142,rfl,Yc call142 (Zqz hP hM hO hev hyA hg hTd hk)⟩
 . rw [a];exact ⟨129,rfl,Yc call129 (Ot hP hM hO hev hyA hg hTd (.inl hk))⟩
 . rw [a];exact ⟨129,rfl,Yc call129 (Ot hP hM hO hev hyA hg hTd (.inr hk))⟩
 . rw [a];exact ⟨130,rfl,Yc call130 (xput_ok hP hM hO hev hyA hg hTd hk)⟩
 . rw [a];exact ⟨131,rfl,Yc call131 (L4 hP hM hO hev hyA hg hTd hk)⟩
 . rw [a];exact ⟨132,rfl,Yc call132 (L3 hP hM hO hev hyA hg hTd hk)⟩
 . rw [a];exact ⟨133,rfl,Yc call133 (xlock_ok hP hM hO hev hyA hg hTd hk)⟩
 . rw [a];exact ⟨134,rfl,Yc call134 (L1 hP hM hO hev hyA hg hTd hk)⟩
 . rw [a];exact ⟨135,rfl,Yc call135 (xwait_ok hP hM hO hev hyA hg hTd hk)⟩
 . rw [a];exact ⟨136,rfl,Yc call136 (L2 hP hM hO hev hyA hg hTd hk)⟩
 . rw [a];exact ⟨137,rfl,Yc call137 (xall_ok hP hM hO hev hyA hg hTd hk)⟩
 . rw [a];exact ⟨139,rfl,Yc call139 (xrecv_ok hP hM hO hev hyA hg hTd hk (hr2 hk))⟩
 . rw [a];exact ⟨140,rfl,Yc call140 (Zqq hP hM hO hev hyA hg hTd hk)⟩
 rw [a];exact ⟨141,rfl,Yc call141 (xjoin_ok hP hM hO hev hyA hg hTd hk)⟩
end
theorem Is (ho:SS.ok F N s)(h:s.can F.pr n=true)(h3:(s.th n).st≠3):((s.th n).next.kd=11->((s.sy.chans.getD (s.th n).next.slt.toNat ch0).items.length:Int)<(s.sy.chans.getD (s.th n).next.slt.toNat ch0).room)/\((s.th n).next.kd=12->0<(s.sy.chans.getD (s.th n).next.slt.toNat ch0).items.length):=by
 have g:F.pr.room=s.sy.chans.map Ch.room:=ho.z.2.2.symm;unfold SS.can at h;dsimp only at h;split at h
 . cases h
 revert h
 generalize (s.th n).next=x;obtain ⟨k,p,t,o,m,e,q,d,i,r,a,b,f⟩:=x;dsimp only [PStm.kd,PStm.slt];intro h;first|rw [if_neg h3] at h|skip
 refine ⟨fun e=> ?_,fun e=> ?_⟩
 . subst e;rw [if_neg (by decide),if_pos rfl,g] at h;have c:=cW h;by_cases hk:a.toNat<s.sy.chans.length
   . rwa [O5 hk] at c
   have l:(s.sy.chans.map Ch.room).getD a.toNat 0=0:=by rw [bD,cF (by simp only [aU];omega)];rfl
   rw [l] at c;have j:s.sy.chans.getD a.toNat ch0=ch0:=by rw [bD,cF (by omega)];rfl
   rw [j];decide
 subst e;rw [if_neg (by decide),if_neg (by decide),if_pos rfl] at h;have c:=cW h;omega
theorem Ly {ev:PEv}(h:ev.syn= []):(s.data p n x ev).2.1.syn.length<=1:=by
 obtain ⟨k,j,o,i,g,e,l,c,f,m,b,a,d⟩:=x;unfold SS.data;dsimp only;(repeat' split)<;>(simp only [h];simp)
theorem Ir (h:s.fine F N)(hn:n<s.ths.length):(s.did p n).2.1.syn.length<=N+1000:=by
 have b:=h.ok.h _ (aB hn);rw [<-Kg hn] at b;have l:=b.p.1;unfold SS.did;dsimp only;split
 . simp
 split
 . exact cP (Ly rfl) (by omega)
 have g:=Dd (t:= { s.th n with left:=(s.th n).left.drop 1 }) hn;generalize (s.th n).next=x;obtain ⟨k,r,z,q,o,e,u,i,m,v,a,d,j⟩:=x;unfold SS.others;dsimp only;rw [g]
 have f: ∀ k:Nat,(s.sy.conds.getD k []).length<=N:=fun k=>by
  by_cases b:k<s.sy.conds.length
  . exact (h.ok.y.c _ (Y3 b)).1
  rw [bD,cF (by omega)];simp
 have w:=f a.toNat;(repeat' split)<;>(simp only [zEv,aT,aG,aU,bH,bJ,dN,SS.put]<;>omega)
section
variable {p:Nat}
theorem do_ok (hP:Prg q pp g)(hM:MayP g.er)(hF:SS.fine g.er N U.er)(hN:N<=899)(hwho:who<U.ths.length)(hc:U.er.can g.er.pr who=true)(hTd:Kn q fun M=>TodoAt M U.ths)(hev:ev.e=zEv who (U.er.th who).next.idn):CallF prog G 61 [.pointer (some ⟨p,0,none⟩)] (Zw p pp who U ev++q) (Ret fun v q'=> ∃ (U':StC) (ev':EvC),(((U.er.did g.er.pr who).2.2=0/\v= I64 0/\U'.er=((U.er.did g.er.pr who).1.ended who (U.er.did g.er.pr who).2.1).1/\ev'.e=((U.er.did g.er.pr who).1.ended who (U.er.did g.er.pr who).2.1).2/\Kn q fun M=>TodoAt M U'.ths)\/((U.er.did g.er.pr who).2.2≠0/\v= I64 (U.er.did g.er.pr who).2.2/\ev'.e=(U.er.did g.er.pr who).2.1))/\q'=Zw p pp who U' ev'++q):=by
 refine aC func61 ntmps61 rfl fun F cs=> ?_;have a0:U.er.ths.length=U.ths.length:=eP U;have h8:=hF.ok.t.2;rw [a0] at h8;have hR:=hF.ready (p:=g.er.pr) (by rw [a0];exact hwho) hc;have w1:=hF.ok.at hwho;have hO:=PO.pop hF (show N<=900 by omega) hwho
 have d0:U.er.th who=(U.ths[who]).er:=Ze hwho;have s0:U.ths[who].todo≠ []:=by
  have h1:=hR.l;rw [d0] at h1;intro e;rw [<-Qr] at e;rw [e] at h1;cases h1
 obtain ⟨⟨yb,yo,ys⟩,f1,e1,d2,c2,c0⟩:=R9 s0;rw [<-d0] at c0;dsimp only at c0;have j1:=w1.n;rw [Va] at j1;have q0:=Fo hF hM (by rw [a0];exact hwho) hc;change X _ _ _ _ _ _ _ _ (pto p (.cells (Vt pp U++(I64 who::evC ev)).toArray 145 (0,0))::lsH I64 2 U.ca U.cc U.cells::yH U.sp U.sy::rsH trC 5 116 U.ha U.hc U.ths::stars (U.ths.map trH)::rsH acC 3 140 ev.aa ev.ac ev.e.acc::rsH snC 3 50 ev.na ev.nc ev.e.syn::(q++F));refine Yw (l:=U.ths) (by omega) fun ga e_=> ?_;have hr: ∀ r,Sees (rsH trC 5 116 U.ha U.hc U.ths::r) (some ⟨ga,0,none⟩) (U.ths.flatMap trC):=fun r=>by rw [<-e_];exact bE r
 have h0:=iK.2 s0;refine bY (q':=stars (U.ths.map trH)::_) Zk (bY (Nu hwho _) ?_);refine Uw (l:=U.ths[who].todo) h0 fun gt o0=> ?_;refine X.lscap (l:=U.ths[who].todo) fun z1=> ?_;refine X.lsmax (l:=U.ths[who].todo) fun e2=> ?_;refine xo 2 ?_;refine bW zeroValue39 fun n1=> ?_
 refine oo 4 ?_;refine XO.dfr ?_;refine oo 4 ?_;refine aO call95 (Jv (p:=p) (who:=who) (ga:=ga) (m:=U.ths.length) (c:=U.hc) (by rw [<-e_];exact clA) clA hwho) ?_;refine oo 5 ?_;refine aO call60 (Kv (b:=ga) (o:=0+(who:Int).toNat*5) (todo:=U.ths[who].todo) (cT (n:=who) (hr _) leA Zd hwho rfl 3 _ rfl) ((bR _).le leA) (by omega)) ?_;refine bA 9 (.pointer (some ⟨yb,yo,none⟩)) rfl (by rw [f1];rfl) ?_;refine rn [3,0,1,2,3,4] ?_;refine ldD 4 ?_ (hc:=(cT (n:=who) (hr _) leA Zd hwho rfl 3 _ rfl));refine rf [3014,6,7,8] o0 ?_;refine ldD 8 ?_ (hc:=(cT (n:=who) (hr _) leA Zd hwho rfl 3 _ rfl));refine rf [3018,10,11,12,13,14] o0 ?_;refine dS 21 (.slice (some ⟨gt,0,none⟩) (U.ths[who].todo.take (U.ths[who].todo.length - 1)).length U.ths[who].tc) rfl (by rw [bH];congr 1;omega) ?_;refine jL (q':=rsH trC 5 116 (some ⟨ga,0,none⟩) U.hc U.ths::_) (by rw [<-e_];exact Zk) ?_;refine iQ 14 rfl (Yr (g:=ga) (f:=trC) (l:=U.ths) (u:=U.ths[who].pop) (n:=who) (k:=3) (j:=(who:Int)) rfl rfl sizeOf114 Zd rfl hwho rfl (by rw [<-o0];rfl) rfl rfl (by rw [<-e_];exact Zk)) ?_;refine kk0 ?_;refine rn [0,3] ?_;refine eU (q':=lsH PS.v 146 U.ths[who].ta U.ths[who].tc (U.ths[who].todo.take (U.ths[who].todo.length - 1))::_) (aS (b:=lsH PS.v 146 U.ths[who].ta U.ths[who].tc U.ths[who].todo::_) Zk (Lu _ _ _ _ _ _ _)) ?_;refine eU (q':=stars ((U.ths.set who U.ths[who].pop).map trH)::_) (aS (b:=lsH I64 2 (U.ths[who].pop).la (U.ths[who].pop).lc (U.ths[who].pop).loc::lsH PS.v 146 (U.ths[who].pop).ta (U.ths[who].pop).tc (U.ths[who].pop).todo::lsH I64 3 (U.ths[who].pop).sa (U.ths[who].pop).sc (U.ths[who].pop).sp::stars ((U.ths.eraseIdx who).map trH)::_) (bM Zk (bM Zk (bM Zk Zk))) (Np hwho U.ths[who].pop _)) ?_;obtain ⟨d,s⟩:=kL (U.pop who hwho);refine eU (q':=pto p (.cells (Vt pp d++(I64 who::evC ev)).toArray 145 (0,0))::lsH I64 2 d.ca d.cc d.cells::yH d.sp d.sy::rsH trC 5 116 d.ha d.hc d.ths::stars (d.ths.map trH)::rsH acC 3 140 ev.aa ev.ac ev.e.acc::rsH snC 3 50 ev.na ev.nc ev.e.syn::pto n1 (.cells [I64 0].toArray 39 (0,0))::(q++F)) (by subst s;dsimp only [StC.pop];simp only [Vt,bC];rw [e_];exact leA) ?_;have q1:d.ths.length=U.ths.length:=by simp [s]
 have g1:who<d.ths.length:=(by rw [q1];exact hwho);have z0:d.ths[who]=U.ths[who].pop:=by subst s;exact cN ..
 have p0:(d.ths[who]).st=(U.er.th who).st:=by rw [z0,d0];rfl
 have v0:d.er=U.er.put who { U.er.th who with left:=(U.er.th who).left.drop 1 } :=by rw [s];exact Iu hwho
 rw [<-s] at hO;have d1:d.sy=U.sy:=by rw [s]
 have y1:d.ha=some ⟨ga,0,none⟩:=by rw [s];exact e_
 have m1: ∀ r,Sees (rsH trC 5 116 d.ha d.hc d.ths::r) (some ⟨ga,0,none⟩) (d.ths.flatMap trC):=fun r=>by rw [<-y1];exact bE r
 have l0:Kn q fun M=>PS.At M ⟨yb,yo,ys⟩:=hTd.imp fun M h=>h U.ths[who] (aB hwho) _ e1
 have a1:Kn q fun M=>TodoAt M d.ths:=hTd.imp fun M h t ht z hz=>by
  rw [s] at ht;rcases bO ht with ht|rfl
  . exact h t ht z hz
  exact h _ (aB hwho) z (hY hz)
 have m0:ys.er.good g.er.cn (d.ths[who]).loc.length:=by have h:=hR.g;rw [c0,d0] at h;rw [z0];exact h
 have k0:ev.e.acc= []/\ev.e.syn= []:=by rw [hev];exact ⟨rfl,rfl⟩
 have s1:1<=ys.er.kd/\ys.er.kd<=15:=by have h:=m0;revert h;cases ys;intro h;exact (Yu h.2.1).1
 obtain ⟨D,hD⟩:=kL (U.er.did g.er.pr who);rw [<-hD] at q0|-
 have r0: ∀ (p_:PE) (qq:List HP) (k:Int) (y0:Value) (U':StC) (ev':EvC),lkp p_ 2=some (pt n1)->k=D.2.2->D.2.2≠0->ev'.e=D.2.1->Le qq (pto n1 (.cells [y0].toArray 39 (0,0))::(Zw p pp who U' ev'++(q++F)))->FQ prog G 61 cs (Ret fun v q'=> ∃ (U':StC) (ev':EvC),(((D).2.2=0/\v= I64 0/\U'.er=((D).1.ended who (D).2.1).1/\ev'.e=((D).1.ended who (D).2.1).2/\Kn q fun M=>TodoAt M U'.ths)\/((D).2.2≠0/\v= I64 (D).2.2/\ev'.e=(D).2.1))/\q'=Zw p pp who U' ev'++q) F (.panic [Vd k]) p_ [Wx.dfr 94 [pt n1]] cs qq:=
  fun p_ qq k y0 U' ev' h2 hk h0 he p1=>⟨rfl,Lv.catches call94 func61 (Pr (nb:=n1) (k:=k) (y0:=y0)) p1 rfl (jG (q':=Zw p pp who U' ev'++q) func61 (Bi results61 (eE h2 (LV.cell isAgg39 clA) eI)) ⟨_,rfl,U',ev',.inr ⟨h0,by rw [hk],he⟩,rfl⟩ (aS (eD _ _) (by rw [aA];exact aE _)))⟩
 refine oo 3 ?_;refine ld ?_ (hc:=(cT (n:=who) (m1 _) leA Zd g1 rfl 1 _ rfl));refine ox 2 ?_;have k1: ∀ x:EvC,x.e=D.2.1->x.e.syn.length<=1000000000:=fun x h=>by rw [h,hD];exact cP (Ir hF (by rw [a0];exact hwho)) (by omega)
 refine xp 28 ?_ ?_<;>intro h5
 focus
  have h3:(U.er.th who).st=3:=(by rw [<-p0];exact h5);have j0:D=d.er.woken who ys.er ev.e:=by rw [hD,Lk (by rw [a0];exact hwho) h3,v0,hev,c0]
  refine xo 4 ?_;refine Vn call96 leA (Od (pto n1 (.cells [I64 0].toArray 39 (0,0))) F (xwake_ok (q:=q) (U:=d) (ev:=ev) (y:=⟨yb,yo,ys⟩) (p:=p) (pp:=pp) hP hM hO k0 l0 m0 a1 (by have:=hR.w h3;rw [c0] at this;exact this))) ?_ ?_
  . rintro _ _ ⟨a,x,⟨h0,_⟩,_⟩;exact aR rfl h0
  rintro _ _ ⟨a,x,⟨h0,hE,hV,n0⟩,b0⟩;simp only [Zw,spP,Zr,evL,ca,na] at b0;subst b0;dsimp only at h0 hE hV;rw [<-j0] at h0 hE hV;refine oo 4 ?_
 rotate_left
 focus
  have h3:(U.er.th who).st≠3:=(by rw [<-p0];exact h5);have j0:D=d.er.does g.er.pr who ys.er ev.e:=by rw [hD,Ii h3,v0,hev,c0]
  have e0:=Is hF.ok hc h3;rw [c0] at e0;rw [show U.er.sy=d.sy from d1.symm] at e0;have b1:CellsAt q yb yo [I64 ys.er.kd]:=by have h:=eR l0;cases ys;exact fun k v e=>h k v (by match k,e with|0,e=>exact e|(k+1),e=>cases e)
  refine xx 1 ?_;refine X.draw [(2,pt n1)] Tryz.mixed (by kernel_rfl) (by kernel_rfl) rfl ?_;refine rf [2,3,4,5,7,8] b1 ?_;refine Ua 0 call97 (doers_ok) ?_;refine kd1 fun nm=> ?_
  refine ⟨(hlF b1),?_⟩;obtain ⟨aF,x1,hA⟩:=Rk (kd:= .i64) (c:=ys.er.kd) dL 0;rcases hA with ⟨rfl,o1⟩|⟨jF,eF,rfl,t0,v1⟩
  . exact aR o1 (dL_has s1)
  obtain ⟨fF,u1,t1⟩:=doer_at (U:=d) (ev:=ev) (y:=⟨yb,yo,ys⟩) (p:=p) (pp:=pp) (q:=q) hP hM hO k0 l0 m0 a1 e0.1 e0.2 t0 v1.symm;refine fC 5 rfl (Rd.ef (Rd.lookup (es:=dL.map dE) (clock:=15) underlying204 underlying119 rfl rfl Zk zeroValue203 x1)) ?_;refine kk0 ?_;refine dS 37 (.func (.func fF) #[] #[]) rfl (by exact u1) ?_;refine XD.cVP 8 (pre:=Zw p pp who d ev++(pto n1 (.cells [I64 0].toArray 39 (0,0))::(q++F))) leA (Ou (pto n1 (.cells [I64 0].toArray 39 (0,0))) F t1) ?_ ?_ (pk:= [(2,pt n1)]) ⟨rfl,trivial⟩
  . rintro _ _ ⟨a,x,⟨h0,rfl,hV⟩,rfl⟩;dsimp only at h0 hV;rw [<-j0] at h0 hV|-;exact r0 _ _ _ _ a x rfl rfl h0 hV (by unfold Zw spP;exact leA)
  rintro _ _ ⟨a,x,⟨h0,hE,hV,n0⟩,b0⟩;simp only [Zw,spP,Zr,evL,ca,na] at b0;subst b0;refine ⟨trivial,?_⟩;dsimp only at h0 hE hV;rw [<-j0] at h0 hE hV;refine rn [0,3] ?_
 all_goals
  skip;obtain ⟨l2,k2,j2,i2,x0,i,w0,g2,f2,b2,a2⟩:=q0 h0;rw [<-hE] at x0 i w0;rw [eP] at x0 i;have u0:=w0 who (by rw [eP];exact i);rw [Ze i] at u0;have r1:=u0.n;rw [Va] at r1;refine P4 (l:=a.ths) (by omega) fun gb g0=> ?_;have l1: ∀ r,Sees (rsH trC 5 116 a.ha a.hc a.ths::r) (some ⟨gb,0,none⟩) (a.ths.flatMap trC):=fun r=>by rw [<-g0];exact bE r
  refine oo 1 ?_;refine aO call95 (Jv (p:=p) (who:=who) (ga:=gb) (m:=a.ths.length) (c:=a.hc) (by rw [<-g0];exact clA) clA i) ?_;refine aO call60 (Kv (b:=gb) (o:=0+(who:Int).toNat*5) (todo:=a.ths[who].todo) (cT (n:=who) (l1 _) leA Zd i rfl 3 _ rfl) ((Sees.todo i).le leA) (by omega)) ?_;have i0:(D.1.th who).left= []↔a.ths[who].todo= []:=by rw [<-hE,Ze i];exact Qr
  rcases hq2:a.ths[who].todo.getLast? with _|y2
  . have f0:a.ths[who].todo= []:=List.getLast?_eq_none_iff.1 hq2;refine bA 43 (.pointer none) rfl (rfl) ?_;refine rn [2,2044,4] ?_;refine aO call95 (Jv (p:=p) (who:=who) (ga:=gb) (m:=a.ths.length) (c:=a.hc) (by rw [<-g0];exact clA) clA i) ?_;refine oo 2 ?_;refine eU (q':=rsH trC 5 116 (some ⟨gb,0,none⟩) a.hc a.ths::_) (by rw [<-g0];exact Zk) ?_;refine dJ (Yr (g:=gb) (f:=trC) (l:=a.ths) (u:=({ a.ths[who] with st:=4 } :TC)) (n:=who) (k:=1) (j:=(who:Int)) rfl rfl sizeOf99 Zd rfl i rfl rfl rfl rfl Zk) ?_;rintro _ _ ⟨rfl,rfl⟩;rw [<-g0];refine oo 3 ?_;refine Zb call98 (by unfold Zw spP Vt Zr;simp only [bC];rw [Rl i (show trH ({ a.ths[who] with st:=4 } :TC)=trH a.ths[who] from rfl)];exact leA) (V8 (p:=p) (pp:=pp) (who:=who) (U:=({ a with ths:=a.ths.set who ({ a.ths[who] with st:=4 } :TC) } :StC)) (ev:=x) (k:=8) (sl:=0) (ot:=0) (q:=pto n1 (.cells [I64 0].toArray 39 (0,0))::(q++F)) (k1 x hV)) ?_;rintro _ _ ⟨c1,i1,b0⟩;simp only [Zw,spP,Zr,evL,ca,na] at b0;subst b0;refine rn [3,0,1] ?_;exact X.ret ⟨rfl,Lp call94 func61 (Fm (nb:=n1)) (jG (q':=Zw p pp who ({ a with ths:=a.ths.set who ({ a.ths[who] with st:=4 } :TC) } :StC) c1++q) func61 (Bi results61 (eE rfl (LV.cell isAgg39 clA) eI)) ⟨_,rfl,({ a with ths:=a.ths.set who ({ a.ths[who] with st:=4 } :TC) } :StC),c1,.inl ⟨h0,rfl,by unfold SS.ended;rw [if_pos (i0.2 f0),W7,hE];congr 1;rw [<-hE,Ze i];rfl,by unfold SS.ended;rw [if_pos (i0.2 f0),i1,hV];rfl,n0.imp fun M h=>iV (Hc i rfl) h⟩,rfl⟩ (by unfold Zw spP;rw [aA];exact leA))⟩
  have f0: ¬a.ths[who].todo= []:=fun e=>by rw [e] at hq2;cases hq2
  refine bA 43 (.pointer (some ⟨y2.b,y2.o,none⟩)) rfl (rfl) ?_;refine rn [2,1044,4,0,1] ?_;exact X.ret ⟨rfl,Lp call94 func61 (Fm (nb:=n1)) (jG (q':=Zw p pp who a x++q) func61 (Bi results61 (eE rfl (LV.cell isAgg39 clA) eI)) ⟨_,rfl,a,x,.inl ⟨h0,rfl,by unfold SS.ended;rw [if_neg (fun e=>f0 (i0.1 e))];exact hE,by unfold SS.ended;rw [if_neg (fun e=>f0 (i0.1 e))];exact hV,n0⟩,rfl⟩ (by unfold Zw spP;rw [aA];exact leA))⟩
end
end Go.Proofs.YtflkjkhijcdbaaaGreat
