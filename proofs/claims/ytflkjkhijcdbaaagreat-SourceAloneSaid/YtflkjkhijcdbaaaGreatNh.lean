/- Contracts. -/
import Derived.Test.YtflkjkhijcdbaaaGreatNg
set_option maxHeartbeats 16000000
set_option maxRecDepth 100000
set_option linter.all false
namespace Go.Proofs.YtflkjkhijcdbaaaGreat
open Go Go.RowKit Wx Go.Proofs.Tryz
attribute [local irreducible] lsH rsH stars
variable {q:List HP}{G:World}{p pp who n N c N' i:Nat}{g:FC}{U:StC}{ev:EvC}{k sl ot u v:Int}{bb:Bool}{a:Option Addr}{l m ths:List TC}{x:TC}{y:PS}{F:Fnd}{t:PTr}{s:SS}
theorem Sv.cap {α:Type}{f:α->List Value}{x:Sv α}{w:World}(h:Kn q fun M=>x.At M f)(s:St G w q):x.l.length<=x.c:=h.fact (fun M h=>h.1) s
section
theorem C1 (hP:Prg q pp g)(hM:MayP g.er)(hn:n<g.arrs.l.length)(hu:val u):CallF prog G 168 [.pointer (some ⟨p,0,none⟩),I64 n,I64 u] (Zw p pp who U ev++q) (RP (fun v q'=>(0<=g.er.pr.cell n u/\v= I64 (g.er.pr.cell n u))/\q'=Zw p pp who U ev++q) (fun ch q'=>(g.er.pr.cell n u<0/\ch= [Vd 3])/\q'=Zw p pp who U ev++q)):=by
 refine aC func168 ntmps168 rfl fun F cs=> ?_;change X _ _ _ _ _ _ _ _ (A3 p pp U who ev q F);have c0:CellsAt q pp 0 [.slice g.vars.a g.vars.l.length g.vars.c,.slice g.arrs.a g.arrs.l.length g.arrs.c,I64 g.mu,I64 g.co,.slice g.chs.a g.chs.l.length g.chs.c,.slice g.ths.a g.ths.l.length g.ths.c,I64 g.main,I64 g.stm]:=fun k v hk=>hP.hp k v (by revert hk;match k with|0|1|2|3|4|5|6|7=>exact fun h=>h|(k+8)=>intro h;cases h)
 have hA:=dT (hP.hK.imp fun M h=>h.arrs);rw [Qv] at hA;have l0:g.arrs.l.length<=64:=hM.l.2.1;have i0:g.vars.l.length<=64:=hM.l.1;have x:=hu;unfold val at x;have t: ∀ n∈g.arrs.l,1<=n/\n<=256:=hM.a;have j0:Y7 g.arrs.l<=256:=hM.s;have k0:=t _ (aB hn);have a0:=Tc t hn;rw [Wl hn] at a0;obtain ⟨R,j⟩:=kL (g.er.pr.cell n u);rw [<-j];unfold PPr.cell at j;rw [show ((n:Int)).toNat=n from rfl,show g.er.pr.arrs=g.arrs.l from rfl,show g.er.pr.vars=g.vars.l from rfl,Wl hn] at j;refine iR (fun w s=>Sv.cap ((hP.hK.imp fun M h=>h.arrs).le leA) s) fun g0=> ?_;refine Yd (hA.le leA) (by simp;omega) fun ab ao e_=> ?_;have d:=hA;have f:=c0;rw [e_] at d f;refine xo 10 ?_;refine Zf [12,6,0,1,2] ?_;apply Zy 14 26 12 rfl
 . intro b i;have f0:=sp b;refine rg [5,0,2,0,2,0,2] f d ?_;exact Zz i ⟨orF b,Zv⟩
 . intro b i;have f0:=sp b;refine oo 14 ?_;exact Zz i ⟨orT b,Zv⟩
 refine ox 1 ?_;refine xp 26 ?_ ?_<;>intro h1
 . have m0:R= -1:=(by rw [j,if_neg (by first|omega|(simp at h1;omega))]);refine xo 2 ?_;refine Vn call169 (aE _) (Ks (z:=3)) ?_ ?_
   . rintro _ _ ⟨rfl,rfl⟩;exact dA func168 (dX ⟨⟨by omega,rfl⟩,rfl⟩)
   rintro _ _ ⟨⟩
 have e0:0<=u/\u<g.arrs.l[n]:=(by first|omega|(simp at h1;omega));rw [if_pos e0] at j;refine rf [8,0,2,0,12,0,2,0,6] f ?_;refine cQ 7 (I64 (g.vars.l.length+u+Y7 (g.arrs.l.take 0))) rfl (by simp [Y7]) ?_;refine aY (cG (fun (s:Nat)=>s<=n) (fun s=> [(7,I64 (g.vars.l.length+u+Y7 (g.arrs.l.take s))),(48,.slice (some ⟨ab,ao,none⟩) (n:Int).toNat g.arrs.c),(49,I64 n),(50,I64 s)]) (fun s=>pto p (.cells (Vt pp U++(I64 who::evC ev)).toArray 145 (0,0))::lsH I64 2 U.ca U.cc U.cells::yH U.sp U.sy::rsH trC 5 116 U.ha U.hc U.ths::stars (U.ths.map trH)::rsH acC 3 140 ev.aa ev.ac ev.e.acc::rsH snC 3 50 ev.na ev.nc ev.e.syn::(q++F)) (fun s=>n - s) (fun s r ih=> ?_) 0 (bB _)) Zu leA;try dsimp only at r ih|-
 obtain hi:=r;refine xx 5 ?_;refine xp 51 ?_ ?_<;>intro h0
 . have o:s<g.arrs.l.length:=(by omega);refine rf [7,0] d ?_;have hx:=t _ (aB o);have b0:Y7 (g.arrs.l.take (s+1))=Y7 (g.arrs.l.take s)+g.arrs.l[s]:=by rw [aH o,Nl];simp [Y7]
   have m:=Qg (l:=g.arrs.l.take s) (k:=256) (fun y hy=>by have:=t y (hY hy);omega) (by decide);rw [bH] at m;have d0:((min s g.arrs.l.length:Nat):Int)=s:=(by omega);rw [d0] at m;refine ox 13 ?_;rw [show (g.vars.l.length:Int)+u+Y7 (g.arrs.l.take s)+g.arrs.l[s]=g.vars.l.length+u+Y7 (g.arrs.l.take (s+1)) by rw [b0];omega];refine aY (ih (s+1) (by omega) (by omega)) Zu leA
 obtain rfl:s=n:=(by omega);refine xx 7 ?_;refine Zq (Zw p pp who U ev++q) func168 (Zn results168 rfl) (dG ⟨⟨by omega,by rw [j];congr 1;omega⟩,rfl⟩)
variable {hwho:who<U.ths.length}
abbrev AB (v0:StC):=(v0.ths.flatMap trC)
abbrev Ag (v0:StC)(v1):=(rsH trC 5 116 v0.ha v0.hc v0.ths::v1)
theorem Jq: ∀ (N:Nat) {e:Ex} {b o:Nat} {d:Int} {ev:EvC} {q:List HP},e.sz<=N->True->d<=24->e.er.ask g.er.cn U.ths[who].loc.length d=true->ev.e.acc.length+2 ^ d.toNat<=100000000->(Kn q fun M=>ExAt M ⟨b,o,none⟩ e)->Prg q pp g->MayP g.er->(U.cells.length:Int)=g.vars.l.length+Y7 g.arrs.l->(∀ x∈U.cells,val x)->(∀ x∈U.ths[who].loc,val x)->CallF prog G 166 (Am p b o) (Zw p pp who U ev++q) (RP (fun v q'=>((e.er).made g.er.pr U.cells U.ths[who].loc).2.1=0/\v= I64 ((e.er).made g.er.pr U.cells U.ths[who].loc).1/\ ∃ ev':EvC,ev'.e=ev.e.ac ((e.er).made g.er.pr U.cells U.ths[who].loc).2.2/\q'=Zw p pp who U ev'++q) (fun ch q'=>((e.er).made g.er.pr U.cells U.ths[who].loc).2.1≠0/\ch= [Vd ((e.er).made g.er.pr U.cells U.ths[who].loc).2.1]/\ ∃ ev':EvC,ev'.e=ev.e.ac ((e.er).made g.er.pr U.cells U.ths[who].loc).2.2/\q'=Zw p pp who U ev'++q)):=fun N=>by
 induction N with
 |zero=>intro e b o d ev q hs;exact aR hs (by cases e;simp only [Ex.sz];omega)
 |succ N IH=> 
 intro e b o d ev q hs hN hd ha h2 hK hP hM u0 l0 k0;obtain ⟨ek,en,j2,i2,l2,g0,el,ea,ec⟩:=e;refine aC func166 ntmps166 rfl fun F cs=> ?_;have c0:=Kn.exC hK;have hA:Kn q fun M=>SlAt M ea ec el.length (el.flatMap exC)/\Ex.Ats M el:=hK.imp fun M h=>h.2;have hS:=fM (hA.imp fun M h=>h.1.2.2);have q0:=Zx Z4 el
 simp only [Ex.er] at ha;obtain ⟨h1,_,h3,hk,k1,k2,k3,k4,k6⟩:=Fu ha;rw [W9] at k1 k2 k3 k4 k6;rw [Yy] at h3;obtain ⟨M,j⟩:=kL ((Ex.er (Ex.mk ek en j2 i2 l2 g0 el ea ec)).made g.er.pr U.cells U.ths[who].loc);rw [<-j];simp only [Ex.er,PEx.made] at j;obtain ⟨D,hD⟩:=aV (show 0<=d - 1 by omega);have f2:d.toNat=D+1:=(by omega);have d0:(d - 1).toNat=D:=(by omega);have o2:=C0 D;rw [f2,Nat.pow_succ] at h2;change X _ _ _ _ _ _ _ _ (pto p (.cells (Vt pp U++(I64 who::evC ev)).toArray 145 (0,0))::lsH I64 2 U.ca U.cc U.cells::yH U.sp U.sy::rsH trC 5 116 U.ha U.hc U.ths::stars (U.ths.map trH)::rsH acC 3 140 ev.aa ev.ac ev.e.acc::rsH snC 3 50 ev.na ev.nc ev.e.syn::(q++F));have m1:ek=1\/ek=2\/ek=3\/ek=4\/ek=5\/ek=6:=(by omega);rcases m1 with rfl|rfl|rfl|rfl|rfl|rfl
 . rw [if_pos rfl] at j;refine rf [10,0,7,2010,6,0,2] c0 ?_;refine Zq (Zw p pp who U ev++q) func166 (Zn results166 rfl) (dG (by rw [j];exact ⟨rfl,rfl,ev,(Ng _).symm,rfl⟩))
 . rw [if_neg (by decide),if_pos rfl] at j;refine Yw (l:=U.ths) (by omega) fun ga e_=> ?_;have hr: ∀ r,Sees (Ag U r) (some ⟨ga,0,none⟩) (AB U):=fun r=>by rw [<-e_];exact bE r
   have r0:=(k2 rfl).1;unfold inV at r0;refine rf [10,0,7,1010,6,2016,7,0,1] c0 ?_;refine xp 21 ?_ ?_<;>intro h5
   . rw [if_pos h5] at j;rw [if_pos h5] at r0;obtain ⟨z0,v0⟩:=aV r0.1;have a1:z0<U.ths[who].loc.length:=(by omega);rw [v0,show ((z0:Int)).toNat=z0 from rfl,Wl a1] at j;have s1:=fun q:List HP=>T4 (q:=q) hwho;refine Yd ((s1 _).le leA) (by simp;omega) fun lb p2 a2=> ?_;have b1:=fun q:List HP=>(T4 (q:=q) hwho);rw [a2] at b1
     refine rf [2,0,1,6,7,8,9] c0 ?_;refine Y2 1 call95 (Jv (p:=p) (who:=who) (ga:=ga) (m:=U.ths.length) (c:=U.hc) (by rw [<-e_];exact clA) clA hwho) ?_ (hL:=(hlA (h:=by repeat first|exact trivial|refine ⟨clA,?_⟩|refine ⟨((c0.le leA) _ _ rfl),?_⟩|refine ⟨(cT (n:=who) (hr _) leA Zd hwho rfl 2 _ rfl),?_⟩)));refine dd [2,3] ?_;refine ldD 4 ?_ (hc:=(cT (n:=who) (hr _) leA Zd hwho rfl 2 _ rfl));refine dsl 26 a2 ?_;refine dS 30 (Aw z0) rfl (by rw [<-v0]) ?_;refine dd [9] ?_;refine ldD 10 ?_ (hc:=(((b1 _).le leA).at rfl a1));refine rn [12,0] ?_;refine Zq (Zw p pp who U ev++q) func166 (Zn results166 rfl) (dG (by rw [j];exact ⟨rfl,rfl,ev,(Ng _).symm,rfl⟩))
   rw [if_neg (by rw [h5];decide)] at j;rw [if_neg (by rw [h5];decide)] at r0;obtain ⟨j0,v0⟩:=aV r0.1;have l1:j0<U.cells.length:=(by have:=Qg (l:=g.arrs.l) (k:=256) (fun y hy=>by have:=hM.a y hy;omega) (by decide);have:=r0.2;rw [Tj] at this;omega);rw [v0,show ((j0:Int)).toNat=j0 from rfl] at j;refine rf [8,0] c0 ?_;refine bA 37 (Aw j0) rfl (by rw [<-v0]) ?_;refine Zb call188 leA (O7 (p:=p) (pp:=pp) (who:=who) (U:=U) (ev:=ev) (n:=j0) (q:=q++F) l1 (by omega)) ?_;rintro _ _ ⟨rfl,f,t,s⟩;simp only [Zw,spP,Zr,evL,ca,na] at s;subst s;change XO _ _ _ _ _ _ _ _ _ _ (pto p (.cells (Vt pp U++(I64 who::evC f)).toArray 145 (0,0))::lsH I64 2 U.ca U.cc U.cells::yH U.sp U.sy::rsH trC 5 116 U.ha U.hc U.ths::stars (U.ths.map trH)::rsH acC 3 140 f.aa f.ac f.e.acc::rsH snC 3 50 f.na f.nc f.e.syn::(q++F));refine ox 2 ?_;refine Zq (Zw p pp who U f++q) func166 (Zn results166 rfl) (dG (by rw [j];exact ⟨rfl,rfl,f,t,rfl⟩))
 . have j1:=(k3 rfl).2;refine Yd (hS.le leA) (by rw [q0];omega) fun ab ao e_=> ?_;subst e_
   have i0:Kn q fun M=>ExAt M ⟨ab,ao+(0:Int).toNat*7,none⟩ el[0]:=hK.imp fun M h=>by
    obtain ⟨b',o',e1,e2⟩:=fR (i:=0) Z4 (by decide) h.2.1.2.2 (by omega)
    cases e1
    exact ⟨e2,Ye.1 h.2.2 _ (aB _)⟩
   have b0:(el[0]).er.ask g.er.cn U.ths[who].loc.length (d - 1)=true:=h3 _ (aP (aB _));have n0:(el[0]).sz<=N:=by have:=Vx (aB (show 0<el.length by omega));simp only [Ex.sz] at hs;omega
   obtain ⟨A0,a0⟩:=kL (((el[0]).er).made g.er.pr U.cells U.ths[who].loc);have p0:(Ym g.er.pr U.cells U.ths[who].loc (Z3 el)).getD 0 (0,0, [])=A0:=by rw [a0,Q8 (by rw [W9];omega)];simp only [Yy,eY]
   have w:=Yg (p:=g.er.pr) l0 k0 b0;rw [<-a0,d0] at w;have f1: -2147483648<=A0.1/\A0.1<=2147483647:=w.1;rw [if_neg (by decide),if_neg (by decide),p0] at j;skip;refine rf [10,0,7,1010,6,1016,6,2039,2,0,1,2,3,4,5,6,7,8,9,10,11,12] c0 ?_;refine Fl 12 call166 leA (IH (e:=el[0]) (d:=d - 1) (b:=ab) (o:=ao+(0:Int).toNat*7) (ev:=ev) (q:=q++F) n0 trivial (by omega) b0 (by rw [d0];omega) (i0.le leA) (hP.le leA) hM u0 l0 k0) ?_ ?_ trivial
   . rintro _ _ ⟨ht,rfl,m0,e0,rfl⟩;exact dA func166 (dX (by rw [<-a0] at ht e0|-;rw [if_pos ht] at j;rw [j];exact ⟨ht,rfl,m0,e0,rfl⟩)) (by rw [aA];exact aE _)
   rintro _ _ ⟨h0,rfl,f,t,s⟩;simp only [Zw,spP,Zr,evL,ca,na] at s;subst s;refine ⟨(hlF c0),?_⟩;rw [<-a0] at h0 t|-;rw [if_neg (fun k=>k h0),if_pos rfl] at j;obtain ⟨An,x1⟩:=aV (k3 rfl).1.1;have y1:An<g.arrs.l.length:=by have:=(k3 rfl).1.2;rw [Tv] at this;omega
   refine dS 46 (Aw An) rfl (by rw [x1]) ?_;rw [x1] at j;refine Fl 13 call168 leA (C1 (p:=p) (pp:=pp) (who:=who) (U:=U) (ev:=f) (n:=An) (u:=A0.1) (q:=q++F) (hP.le leA) hM y1 w.1) ?_ ?_ trivial
   . rintro _ _ ⟨⟨u1,rfl⟩,rfl⟩;exact dA func166 (dX (by rw [if_pos u1] at j;rw [j];exact ⟨(show (3:Int)≠0 by decide),rfl,f,t,rfl⟩)) (by rw [aA];exact aE _)
   rintro _ _ ⟨⟨t1,rfl⟩,s⟩;simp only [Zw,spP,Zr,evL,ca,na] at s;subst s;refine ⟨(hlF c0),?_⟩;rw [if_neg (by omega)] at j;obtain ⟨j0,n1⟩:=aV t1;refine dS 54 (Aw j0) rfl (by rw [n1]) ?_
   have l1:j0<U.cells.length:=by
    have hx:=n1;unfold PPr.cell at hx;rw [show g.er.pr.arrs=g.arrs.l from rfl,show g.er.pr.vars=g.vars.l from rfl,show ((An:Int)).toNat=An from rfl] at hx;have r2:=Tc (l:=g.arrs.l) hM.a y1;split at hx<;>omega
   rw [n1,show ((j0:Int)).toNat=j0 from rfl] at j;refine Wy 14 call188 leA (O7 (p:=p) (pp:=pp) (who:=who) (U:=U) (ev:=f) (n:=j0) (q:=q++F) l1 (by rw [t];unfold PEv.ac;simp only [aG];omega)) ?_;rintro _ _ ⟨rfl,f0,t0,s⟩;simp only [Zw,spP,Zr,evL,ca,na] at s;subst s;refine ⟨(hlF c0),?_⟩;refine rn [16,0] ?_;refine Zq (Zw p pp who U f0++q) func166 (Zn results166 rfl) (dG (by rw [j];exact ⟨rfl,rfl,f0,by rw [t0,t,Mg],rfl⟩))
 . have j1:=k4 (.inl rfl);refine Yd (hS.le leA) (by rw [q0];omega) fun ab ao e_=> ?_;subst e_
   have i0:Kn q fun M=>ExAt M ⟨ab,ao+(0:Int).toNat*7,none⟩ el[0]:=hK.imp fun M h=>by
    obtain ⟨b',o',e1,e2⟩:=fR (i:=0) Z4 (by decide) h.2.1.2.2 (by omega)
    cases e1
    exact ⟨e2,Ye.1 h.2.2 _ (aB _)⟩
   have b0:(el[0]).er.ask g.er.cn U.ths[who].loc.length (d - 1)=true:=h3 _ (aP (aB _));have n0:(el[0]).sz<=N:=by have:=Vx (aB (show 0<el.length by omega));simp only [Ex.sz] at hs;omega
   obtain ⟨A0,a0⟩:=kL (((el[0]).er).made g.er.pr U.cells U.ths[who].loc);have p0:(Ym g.er.pr U.cells U.ths[who].loc (Z3 el)).getD 0 (0,0, [])=A0:=by rw [a0,Q8 (by rw [W9];omega)];simp only [Yy,eY]
   have w:=Yg (p:=g.er.pr) l0 k0 b0;rw [<-a0,d0] at w;have f1: -2147483648<=A0.1/\A0.1<=2147483647:=w.1;rw [if_neg (by decide),if_neg (by decide),p0] at j;have q1:Yi 8 0 A0.1=if val (-A0.1) then (-A0.1,0) else (0,2):=by unfold Yi;rw [if_neg (by decide),if_neg (by decide),if_neg (by decide),if_neg (by decide),if_neg (by rintro ⟨h|h,_⟩<;>exact aR h (by decide))];dsimp only;rw [if_neg (show ¬ (8:Int)=7 by decide),if_pos rfl,Int.zero_sub]
   refine rf [10,0,7,1010,6,1016,6,1039,6,2056,7,0,1] c0 ?_;refine Vn call166 leA (IH (e:=el[0]) (d:=d - 1) (b:=ab) (o:=ao+(0:Int).toNat*7) (ev:=ev) (q:=q++F) n0 trivial (by omega) b0 (by rw [d0];omega) (i0.le leA) (hP.le leA) hM u0 l0 k0) ?_ ?_
   . rintro _ _ ⟨ht,rfl,m0,e0,rfl⟩;exact dA func166 (dX (by rw [<-a0] at ht e0|-;rw [if_pos ht] at j;rw [j];exact ⟨ht,rfl,m0,e0,rfl⟩)) (by rw [aA];exact aE _)
   rintro _ _ ⟨h0,rfl,f,t,s⟩;simp only [Zw,spP,Zr,evL,ca,na] at s;subst s;rw [<-a0] at h0 t|-;change XO _ _ _ _ _ _ _ _ _ _ (pto p (.cells (Vt pp U++(I64 who::evC f)).toArray 145 (0,0))::lsH I64 2 U.ca U.cc U.cells::yH U.sp U.sy::rsH trC 5 116 U.ha U.hc U.ths::stars (U.ths.map trH)::rsH acC 3 140 f.aa f.ac f.e.acc::rsH snC 3 50 f.na f.nc f.e.syn::(q++F));rw [if_neg (fun k=>k h0),if_neg (by decide),if_pos rfl] at j;refine oo 1 ?_;refine bA 65 (I64 (-A0.1)) rfl (bK (Value.int .i64) (show IntKind.i64.wrap (0 - A0.1)= -A0.1 by rw [Int.zero_sub];exact Uf (by omega) (by omega))) ?_;refine Vn call189 (aE _) (Kz (z:= -A0.1) (q:=pto p (.cells (Vt pp U++(I64 who::evC f)).toArray 145 (0,0))::lsH I64 2 U.ca U.cc U.cells::yH U.sp U.sy::rsH trC 5 116 U.ha U.hc U.ths::stars (U.ths.map trH)::rsH acC 3 140 f.aa f.ac f.e.acc::rsH snC 3 50 f.na f.nc f.e.syn::(q++F))) ?_ ?_
   . rintro _ _ ⟨⟨i1,rfl⟩,rfl⟩;exact dA func166 (dX (by rw [q1,if_neg i1] at j;rw [j];exact ⟨(show (2:Int)≠0 by decide),rfl,f,t,rfl⟩)) leA
   rintro _ _ ⟨⟨d1,rfl⟩,rfl⟩;refine ox 2 ?_;refine Zq (Zw p pp who U f++q) func166 (Zn results166 rfl) (dG (by rw [q1,if_pos d1] at j;rw [j];exact ⟨rfl,rfl,f,t,rfl⟩))
 . have j1:=k4 (.inr rfl);refine Yd (hS.le leA) (by rw [q0];omega) fun ab ao e_=> ?_;subst e_
   have i0:Kn q fun M=>ExAt M ⟨ab,ao+(0:Int).toNat*7,none⟩ el[0]:=hK.imp fun M h=>by
    obtain ⟨b',o',e1,e2⟩:=fR (i:=0) Z4 (by decide) h.2.1.2.2 (by omega)
    cases e1
    exact ⟨e2,Ye.1 h.2.2 _ (aB _)⟩
   have b0:(el[0]).er.ask g.er.cn U.ths[who].loc.length (d - 1)=true:=h3 _ (aP (aB _));have n0:(el[0]).sz<=N:=by have:=Vx (aB (show 0<el.length by omega));simp only [Ex.sz] at hs;omega
   obtain ⟨A0,a0⟩:=kL (((el[0]).er).made g.er.pr U.cells U.ths[who].loc);have p0:(Ym g.er.pr U.cells U.ths[who].loc (Z3 el)).getD 0 (0,0, [])=A0:=by rw [a0,Q8 (by rw [W9];omega)];simp only [Yy,eY]
   have w:=Yg (p:=g.er.pr) l0 k0 b0;rw [<-a0,d0] at w;have f1: -2147483648<=A0.1/\A0.1<=2147483647:=w.1;rw [if_neg (by decide),if_neg (by decide),p0] at j;refine rf [10,0,7,1010,6,1016,6,1039,6,1056,6,2067,7,0,1] c0 ?_;refine Vn call166 leA (IH (e:=el[0]) (d:=d - 1) (b:=ab) (o:=ao+(0:Int).toNat*7) (ev:=ev) (q:=q++F) n0 trivial (by omega) b0 (by rw [d0];omega) (i0.le leA) (hP.le leA) hM u0 l0 k0) ?_ ?_
   . rintro _ _ ⟨ht,rfl,m0,e0,rfl⟩;exact dA func166 (dX (by rw [<-a0] at ht e0|-;rw [if_pos ht] at j;rw [j];exact ⟨ht,rfl,m0,e0,rfl⟩)) (by rw [aA];exact aE _)
   rintro _ _ ⟨h0,rfl,f,t,s⟩;simp only [Zw,spP,Zr,evL,ca,na] at s;subst s;rw [<-a0] at h0 t|-;change XO _ _ _ _ _ _ _ _ _ _ (pto p (.cells (Vt pp U++(I64 who::evC f)).toArray 145 (0,0))::lsH I64 2 U.ca U.cc U.cells::yH U.sp U.sy::rsH trC 5 116 U.ha U.hc U.ths::stars (U.ths.map trH)::rsH acC 3 140 f.aa f.ac f.e.acc::rsH snC 3 50 f.na f.nc f.e.syn::(q++F));rw [if_neg (fun k=>k h0),if_neg (by decide),if_neg (by decide),if_pos rfl] at j;refine oo 1 ?_;refine aO call190 (U9) ?_;refine ox 2 ?_;refine Zq (Zw p pp who U f++q) func166 (Zn results166 rfl) (dG (by rw [j];exact ⟨rfl,by first|rfl|(congr 2;done)|(congr 2;rw [cJ];simp),f,t,rfl⟩))
 have j1:=(k6 rfl).2;refine Yd (hS.le leA) (by rw [q0];omega) fun ab ao e_=> ?_;subst e_
 have i0:Kn q fun M=>ExAt M ⟨ab,ao+(0:Int).toNat*7,none⟩ el[0]:=hK.imp fun M h=>by
  obtain ⟨b',o',e1,e2⟩:=fR (i:=0) Z4 (by decide) h.2.1.2.2 (by omega)
  cases e1
  exact ⟨e2,Ye.1 h.2.2 _ (aB _)⟩
 have b0:(el[0]).er.ask g.er.cn U.ths[who].loc.length (d - 1)=true:=h3 _ (aP (aB _));have n0:(el[0]).sz<=N:=by have:=Vx (aB (show 0<el.length by omega));simp only [Ex.sz] at hs;omega
 obtain ⟨A0,a0⟩:=kL (((el[0]).er).made g.er.pr U.cells U.ths[who].loc);have p0:(Ym g.er.pr U.cells U.ths[who].loc (Z3 el)).getD 0 (0,0, [])=A0:=by rw [a0,Q8 (by rw [W9];omega)];simp only [Yy,eY]
 have w:=Yg (p:=g.er.pr) l0 k0 b0;rw [<-a0,d0] at w;have f1: -2147483648<=A0.1/\A0.1<=2147483647:=w.1
 have w1:Kn q fun M=>ExAt M ⟨ab,ao+(1:Int).toNat*7,none⟩ el[1]:=hK.imp fun M h=>by
  obtain ⟨b',o',e1,e2⟩:=fR (i:=1) Z4 (by decide) h.2.1.2.2 (by omega)
  cases e1
  exact ⟨e2,Ye.1 h.2.2 _ (aB _)⟩
 have c1:(el[1]).er.ask g.er.cn U.ths[who].loc.length (d - 1)=true:=h3 _ (aP (aB _));have b2:(el[1]).sz<=N:=by have:=Vx (aB (show 1<el.length by omega));simp only [Ex.sz] at hs;omega
 obtain ⟨A1,y0⟩:=kL (((el[1]).er).made g.er.pr U.cells U.ths[who].loc);have d2:(Ym g.er.pr U.cells U.ths[who].loc (Z3 el)).getD 1 (0,0, [])=A1:=by rw [y0,Q8 (by rw [W9];omega)];simp only [Yy,eY]
 have s0:=Yg (p:=g.er.pr) l0 k0 c1;rw [<-y0,d0] at s0;have q2: -2147483648<=A1.1/\A1.1<=2147483647:=s0.1;rw [if_neg (by decide),if_neg (by decide),p0,d2] at j;have c2:g0=1\/g0=2\/3<=g0:=(by have:=(k6 rfl).1;omega);refine rf [10,0,7,1010,6,1016,6,1039,6,1056,6,1067,9,0,1] c0 ?_;refine Vn call166 leA (IH (e:=el[0]) (d:=d - 1) (b:=ab) (o:=ao+(0:Int).toNat*7) (ev:=ev) (q:=q++F) n0 trivial (by omega) b0 (by rw [d0];omega) (i0.le leA) (hP.le leA) hM u0 l0 k0) ?_ ?_
 . rintro _ _ ⟨ht,rfl,m0,e0,rfl⟩;exact dA func166 (dX (by rw [<-a0] at ht e0|-;rw [if_pos ht] at j;rw [j];exact ⟨ht,rfl,m0,e0,rfl⟩)) (by rw [aA];exact aE _)
 rintro _ _ ⟨h0,rfl,f,t,s⟩;simp only [Zw,spP,Zr,evL,ca,na] at s;subst s;rw [<-a0] at h0 t|-;change XO _ _ _ _ _ _ _ _ _ _ (pto p (.cells (Vt pp U++(I64 who::evC f)).toArray 145 (0,0))::lsH I64 2 U.ca U.cc U.cells::yH U.sp U.sy::rsH trC 5 116 U.ha U.hc U.ths::stars (U.ths.map trH)::rsH acC 3 140 f.aa f.ac f.e.acc::rsH snC 3 50 f.na f.nc f.e.syn::(q++F));rw [if_neg (fun k=>k h0)] at j;refine rf [8,0,2] c0 ?_;refine Zf [90,5,4,0,1] ?_;apply Zp 3 93 90 rfl
 . intro x0 p1;have n2:=sp x0;refine oo 3 ?_;exact Zz p1 ⟨Wq x0,Zv⟩
 . intro x0 p1;have n2:=sp x0;refine oo 3 ?_;exact Zz p1 ⟨Wz x0,Zv⟩
 refine ox 1 ?_;refine xp 93 ?_ ?_<;>intro g1
 . have o0:g0=1:=g1.1;rw [if_neg (by decide),if_neg (by decide),if_neg (by decide),if_pos (by exact .inl ⟨o0,g1.2⟩),o0] at j;refine xx 5 ?_;refine Zq (Zw p pp who U f++q) func166 (Zn results166 rfl) (dG (by rw [j];exact ⟨rfl,by first|rfl|(simp only [o0];rfl),f,t,rfl⟩))
 refine rf [8,0,2] c0 ?_;refine Zf [99,5,4,0,1] ?_;apply Zp 3 102 99 rfl
 . intro w0 o1;have m2:=sp w0;refine oo 3 ?_;exact Zz o1 ⟨Wq w0,Zv⟩
 . intro w0 o1;have m2:=sp w0;refine oo 3 ?_;exact Zz o1 ⟨Wz w0,Zv⟩
 refine ox 1 ?_;refine xp 102 ?_ ?_<;>intro g2
 . have o0:g0=2:=g2.1;rw [if_neg (by decide),if_neg (by decide),if_neg (by decide),if_pos (by exact .inr ⟨o0,g2.2⟩),o0] at j;refine xx 5 ?_;refine Zq (Zw p pp who U f++q) func166 (Zn results166 rfl) (dG (by rw [j];exact ⟨rfl,by first|rfl|(simp only [o0];rfl),f,t,rfl⟩))
 rw [if_neg (by decide),if_neg (by decide),if_neg (by decide),if_neg (by rintro (⟨z1,z2⟩|⟨z1,z2⟩)<;>simp_all)] at j;have v1:(if g0<=2 then (Ux (A1.1 !=0),(0:Int),A0.2.2++A1.2.2) else ((Yi g0 A0.1 A1.1).1,(Yi g0 A0.1 A1.1).2,A0.2.2++A1.2.2))=((Wo g0 A0.1 A1.1).1,(Wo g0 A0.1 A1.1).2,A0.2.2++A1.2.2):=by unfold Wo;split<;>rfl
 refine rf [3,0,1,2,3,4,5,6,7,8,9,10,11] c0 ?_;refine Fl 11 call166 leA (IH (e:=el[1]) (d:=d - 1) (b:=ab) (o:=ao+(1:Int).toNat*7) (ev:=f) (q:=q++F) b2 trivial (by omega) c1 (by rw [d0,t];unfold PEv.ac;simp only [aG];omega) (w1.le leA) (hP.le leA) hM u0 l0 k0) ?_ ?_ trivial
 . rintro _ _ ⟨ht,rfl,m0,e0,rfl⟩;exact dA func166 (dX (by rw [<-y0] at ht e0|-;rw [if_pos ht] at j;rw [j];exact ⟨ht,rfl,m0,by rw [e0,t,Mg],rfl⟩)) (by rw [aA];exact aE _)
 rintro _ _ ⟨r1,rfl,f0,t0,s⟩;simp only [Zw,spP,Zr,evL,ca,na] at s;subst s;refine ⟨(hlF c0),?_⟩;rw [<-y0] at r1 t0|-;rw [if_neg (fun k=>k r1)] at j;refine Fl 12 call191 (aE _) (both_ok (op:=g0) (u:=A0.1) (z:=A1.1) (q:=pto p (.cells (Vt pp U++(I64 who::evC f0)).toArray 145 (0,0))::lsH I64 2 U.ca U.cc U.cells::yH U.sp U.sy::rsH trC 5 116 U.ha U.hc U.ths::stars (U.ths.map trH)::rsH acC 3 140 f0.aa f0.ac f0.e.acc::rsH snC 3 50 f0.na f0.nc f0.e.syn::(q++F)) (k6 rfl).1 w.1 s0.1) ?_ ?_ trivial
 . rintro _ _ ⟨⟨i1,rfl⟩,rfl⟩;exact dA func166 (dX (by rw [v1] at j;rw [j];exact ⟨i1,rfl,f0,by rw [t0,t,Mg],rfl⟩)) leA
 rintro _ _ ⟨⟨d1,rfl⟩,rfl⟩;refine ⟨(hlF c0),?_⟩;refine rn [14,0] ?_;refine Zq (Zw p pp who U f0++q) func166 (Zn results166 rfl) (dG (by rw [v1] at j;rw [j];exact ⟨d1,rfl,f0,by rw [t0,t,Mg],rfl⟩))
end
theorem Zz7 {l:List PS}(hs:Sees q a (l.map PS.v))(hL:l.length<=1000000000):CallF prog G 69 [.slice a l.length c] (q) (Ret fun v q'=> ∃ a' c',v= .slice a' l.length c'/\q'=lsH PS.v 146 a' c' l::q):=by
 refine aC func69 ntmps69 rfl fun F k=> ?_;rcases dK l.length with b|b
 . obtain rfl:=aK b;refine xx 10 ?_;refine dR 4 rfl ?_ ?_<;>intro j
   . refine xx 5 ?_;refine Zq (lsH PS.v 146 none 0 []::q) func69 (Zn results69 rfl) ⟨_,rfl,none,0,rfl,rfl⟩ ((leA).trans (Za _ _ _))
   refine xo 4 ?_;refine bQ (J4 PS.v underlying114 W0) ?_;rintro _ _ ⟨g,rfl,rfl⟩;refine oo 1 ?_;refine bQ (Yx (f:=PS.v) (l:= []) (m:= []) underlying114 W0 rfl rfl rfl Zk (hs.le leA) (fun _=>rfl) (by simp;try omega) (by simp;try omega)) ?_;rintro _ _ ⟨e,d,rfl,rfl⟩;refine ox 2 ?_;refine Zq (lsH PS.v 146 e d []::q) func69 (Zn results69 rfl) ⟨_,rfl,e,d,by simp,rfl⟩
 refine Yd hs (by rw [aU];omega) fun n i h=> ?_;subst h;refine rn [10,1004,4] ?_;refine bQ (J4 PS.v underlying114 W0) ?_;rintro _ _ ⟨g,rfl,rfl⟩;refine oo 1 ?_;refine bQ (Yx (f:=PS.v) (l:= []) (m:=l) underlying114 W0 rfl rfl rfl Zk (hs.le leA) (fun _=>rfl) (by simp;try omega) (by simp;try omega)) ?_;rintro _ _ ⟨e,d,rfl,rfl⟩;refine ox 2 ?_;refine Zq (lsH PS.v 146 e d l::q) func69 (Zn results69 rfl) ⟨_,rfl,e,d,by simp,rfl⟩
theorem Zz6 (hs:Sees q a (l.flatMap trC))(hL:l.length<=1000000000):CallF prog G 68 [.slice a l.length c] (q) (Ret fun v q'=> ∃ a' c',v= .slice a' l.length c'/\q'=rsH trC 5 116 a' c' l::q):=by
 refine aC func68 ntmps68 rfl fun F k=> ?_;rcases dK l.length with b|b
 . obtain rfl:=aK b;refine xx 10 ?_;refine dR 4 rfl ?_ ?_<;>intro j
   . refine xx 5 ?_;refine Zq (rsH trC 5 116 none 0 []::q) func68 (Zn results68 rfl) ⟨_,rfl,none,0,rfl,rfl⟩ ((leA).trans (Zi _ _ _ _))
   refine xo 4 ?_;refine bQ (Qs trC underlying96 Qj) ?_;rintro _ _ ⟨g,rfl,rfl⟩;refine oo 1 ?_;refine bQ (Z9 (f:=trC) (l:= []) (m:= []) underlying96 Qj rfl rfl Zd rfl rfl Zk (hs.le leA) F6 (by simp;try omega) (by simp;try omega)) ?_;rintro _ _ ⟨e,d,rfl,rfl⟩;refine ox 2 ?_;refine Zq (rsH trC 5 116 e d []::q) func68 (Zn results68 rfl) ⟨_,rfl,e,d,by simp,rfl⟩
 refine Yd hs (by rw [Zx Zd];omega) fun n i h=> ?_;subst h;refine rn [10,1004,4] ?_;refine bQ (Qs trC underlying96 Qj) ?_;rintro _ _ ⟨g,rfl,rfl⟩;refine oo 1 ?_;refine bQ (Z9 (f:=trC) (l:= []) (m:=l) underlying96 Qj rfl rfl Zd rfl rfl Zk (hs.le leA) F6 (by simp;try omega) (by simp;try omega)) ?_;rintro _ _ ⟨e,d,rfl,rfl⟩;refine ox 2 ?_;refine Zq (rsH trC 5 116 e d l::q) func68 (Zn results68 rfl) ⟨_,rfl,e,d,by simp,rfl⟩
theorem SCopy_ok (hok:SS.ok g.er N U.er)(hN:N<=900)(hC:U.cells.length<=1000000):CallF prog G 37 [.pointer (some ⟨p,0,none⟩)] (stP p pp U::(Zr U++q)) (Ret fun v q'=> ∃ (p2:Nat) (σ2:StC),σ2.er=U.er/\σ2.ths.map TC.todo=U.ths.map TC.todo/\v= .pointer (some ⟨p2,0,none⟩)/\q'=stP p2 pp σ2::(Zr σ2++(stP p pp U::(Zr U++q)))):=by
 refine aC func37 ntmps37 rfl fun F cs=> ?_;change X _ _ _ _ _ _ _ _ (pto p (.cells (Vt pp U).toArray 98 (0,0))::lsH I64 2 U.ca U.cc U.cells::yH U.sp U.sy::rsH trC 5 116 U.ha U.hc U.ths::stars (U.ths.map trH)::(q++F));have l0:=Zx Zd U.ths;have h8:U.ths.length<=8:=by have:=hok.t.2;rwa [eP] at this
 have q0:1<=U.ths.length:=by have:=hok.t.1;rwa [eP] at this
 have g0:U.sy.ok N:=hok.y;have n0:U.cells.length<=1000000:=hC;refine xo 8 ?_;refine aO call49 (Q7 (p:=p) (pp:=pp) clA) ?_;refine Zt (bV rfl) ?_;refine rn [1,1008,6,0] ?_;refine bW zeroValue98 fun n1=> ?_
 refine rn [0,2,0,1,2,3,4,6,7,8,9,11,12,13,14] ?_;refine Wy 4 call50 (aE _) (Qb (l:=U.cells) ((bR _).le leA) (by omega)) ?_;refine kk2 fun ac cc=> ?_
 refine Ua 9 call67 (Copy_Y g0 (by omega)) ?_;refine kd1 fun py=> ?_
 refine ⟨hlA,?_⟩;refine Wy 14 call68 (aE _) (Zz6 (l:=U.ths) ((bE _).le leA) (by omega)) ?_;refine kk2 fun k0 ct=> ?_
 refine rn [16,17,18,19,20,21,0,4,0,4] ?_;refine Yw (a:=k0) (l:=U.ths) (by omega) fun o j0=> ?_;subst j0;refine aY (cG (fun (s:Nat×List TC)=>s.1<=U.ths.length/\s.2.length=s.1/\s.2.map TC.er=(U.ths.take s.1).map TC.er/\s.2.map TC.todo=(U.ths.take s.1).map TC.todo) (fun s=> [(3,pt n1),(32,I64 U.ths.length),(33,I64 (s.1:Int))]) (fun s=>pto n1 (.cells [.pointer (some ⟨pp,0,none⟩),.slice ac U.cells.length cc,.pointer (some ⟨py,0,none⟩),.slice (some ⟨o,0,none⟩) U.ths.length ct,I64 U.out.kind,I64 U.out.trap,I64 U.out.th,I64 U.out.stmt].toArray 98 (0,0))::lsH I64 2 ac cc U.cells::yH py U.sy::rsH trC 5 116 (some ⟨o,0,none⟩) ct (s.2++U.ths.drop s.1)::stars (s.2.map trH)::pto p (.cells (Vt pp U).toArray 98 (0,0))::lsH I64 2 U.ca U.cc U.cells::yH U.sp U.sy::rsH trC 5 116 U.ha U.hc U.ths::stars (U.ths.map trH)::(q++F)) (fun s=>U.ths.length - s.1) (fun s c0 ih=> ?_) (0, []) ⟨bB _,rfl,rfl,rfl⟩) Zu (aS (W6 _) leA);try dsimp only at c0 ih|-
 obtain ⟨m0,z,b0,a0⟩:=c0;obtain ⟨i,d⟩:=s;dsimp only at*;refine xx 5 ?_;refine xp 34 ?_ ?_<;>intro h0
 . have m:i<U.ths.length:=(by omega);obtain ⟨x,hx⟩:=kL U.ths[i];have hT:=hok.at m;rw [<-hx] at hT;have i0:=hT.n;rw [Va] at i0;have p0:x.loc.length<=32:=hT.l;have o0:x.sp.length<=8:=hT.p.1;have f0:=fun q:List HP=>T4 (q:=q) m;have d0:=fun q:List HP=>Sees.todo (q:=q) m;have e0:=fun q:List HP=>D8 (q:=q) m;rw [<-hx] at f0 d0 e0
   have c:i<(d++U.ths.drop i).length:=by rw [aG,bS];omega
   have e:(d++U.ths.drop i)[i]=x:=by rw [gA (by omega)];simp [z,hx]
   refine rn [12,0,4,0,1,2,3,4,5,6] ?_;refine ldD 6 ?_ (hc:=(cT (n:=i) (l:=(d++U.ths.drop i)) (bE _) leA Zd c rfl 2 _ (by rw [e];rfl)));refine dd [8,9,10] ?_;refine ldD 11 ?_ (hc:=(cT (n:=i) (l:=(d++U.ths.drop i)) (bE _) leA Zd c rfl 3 _ (by rw [e];rfl)));refine dd [13,14,15] ?_;refine ldD 16 ?_ (hc:=(cT (n:=i) (l:=(d++U.ths.drop i)) (bE _) leA Zd c rfl 4 _ (by rw [e];rfl)));refine Wy 7 call50 (aE _) (Qb (l:=x.loc) ((f0 _).le leA) (by omega)) ?_;rintro _ _ ⟨w,r,rfl,rfl⟩;refine ⟨(hlA (h:=by repeat first|exact trivial|refine ⟨clA,?_⟩|refine ⟨(cT (n:=i) (l:=(d++U.ths.drop i)) (bE _) leA Zd c rfl 2 _ (by rw [e];rfl)),?_⟩|refine ⟨(cT (n:=i) (l:=(d++U.ths.drop i)) (bE _) leA Zd c rfl 3 _ (by rw [e];rfl)),?_⟩|refine ⟨(cT (n:=i) (l:=(d++U.ths.drop i)) (bE _) leA Zd c rfl 4 _ (by rw [e];rfl)),?_⟩)),?_⟩;refine Wy 12 call69 (aE _) (Zz7 (l:=x.todo) ((d0 _).le leA) (by omega)) ?_;rintro _ _ ⟨a3,c3,rfl,rfl⟩;refine ⟨(hlA (h:=by repeat first|exact trivial|refine ⟨clA,?_⟩|refine ⟨(cT (n:=i) (l:=(d++U.ths.drop i)) (bE _) leA Zd c rfl 2 _ (by rw [e];rfl)),?_⟩|refine ⟨(cT (n:=i) (l:=(d++U.ths.drop i)) (bE _) leA Zd c rfl 3 _ (by rw [e];rfl)),?_⟩|refine ⟨(cT (n:=i) (l:=(d++U.ths.drop i)) (bE _) leA Zd c rfl 4 _ (by rw [e];rfl)),?_⟩)),?_⟩;refine Wy 17 call70 (aE _) (Ku (l:=x.sp) ((e0 _).le leA) (by omega)) ?_;refine kk2 fun a4 c4=> ?_
   refine dd [18,19] ?_;refine iQ 20 rfl (Yr (g:=o) (f:=trC) (l:=(d++U.ths.drop i)) (u:= { x with la:=w,lc:=r }) (n:=i) (k:=2) (j:=(i:Int)) rfl rfl sizeOf23 Zd rfl (by exact c) rfl (by rw [e];rfl) rfl rfl Zk) ?_;refine kk0 ?_;refine dd [21,22] ?_;refine iQ 23 rfl (Yr (g:=o) (f:=trC) (l:=((d++U.ths.drop i).set i { x with la:=w,lc:=r })) (u:= { x with la:=w,lc:=r,ta:=a3,tc:=c3 }) (n:=i) (k:=3) (j:=(i:Int)) rfl rfl sizeOf114 Zd rfl (by rw [bC];exact c) rfl (by rw [cN];rfl) rfl rfl Zk) ?_;refine kk0 ?_;rw [fI];refine dd [24,25] ?_;refine iQ 26 rfl (Yr (g:=o) (f:=trC) (l:=((d++U.ths.drop i).set i { x with la:=w,lc:=r,ta:=a3,tc:=c3 })) (u:= { x with la:=w,lc:=r,ta:=a3,tc:=c3,sa:=a4,sc:=c4 }) (n:=i) (k:=4) (j:=(i:Int)) rfl rfl sizeOf22 Zd rfl (by rw [bC];exact c) rfl (by rw [cN];rfl) rfl rfl Zk) ?_;refine kk0 ?_;rw [fI];refine rn [0,5] ?_;rw [Ro d (U.ths.drop i) i _ z (by rw [bS];omega),fK];refine bY (q':=stars ((d++ [({ x with la:=w,lc:=r,ta:=a3,tc:=c3,sa:=a4,sc:=c4 } :TC)]).map trH)::_) (aS (b:=stars (d.map trH)::lsH I64 2 w r x.loc::lsH PS.v 146 a3 c3 x.todo::lsH I64 3 a4 c4 x.sp::_) (bM Zk (bM Zk (bM Zk Zk))) (aS (dD _ (Z5 (trL ({ x with la:=w,lc:=r,ta:=a3,tc:=c3,sa:=a4,sc:=c4 } :TC)) _)) (Le.stars_snoc trH d ({ x with la:=w,lc:=r,ta:=a3,tc:=c3,sa:=a4,sc:=c4 } :TC) _))) ?_;refine aY (ih (i+1,d++ [({ x with la:=w,lc:=r,ta:=a3,tc:=c3,sa:=a4,sc:=c4 } :TC)]) ⟨by dsimp only;omega,by dsimp only;rw [aG];simp [z],by dsimp only;rw [aH m,aM,aM,b0,<-hx];rfl,by dsimp only;rw [aH m,aM,aM,a0,<-hx];rfl⟩ (by dsimp only;omega)) Zu leA
 obtain rfl:i=U.ths.length:=(by omega);rw [cD] at b0 a0;rw [dP,cA];clear ih;refine xx 6 ?_;refine bY (q':=stP n1 pp (⟨ac,cc,U.cells,py,U.sy,some ⟨o,0,none⟩,ct,d,U.out⟩:StC)::(Zr (⟨ac,cc,U.cells,py,U.sy,some ⟨o,0,none⟩,ct,d,U.out⟩:StC)++(stP p pp U::(Zr U++(q++F))))) (by unfold stP Vt;dsimp only;rw [z];exact leA) ?_;refine Zq (stP n1 pp (⟨ac,cc,U.cells,py,U.sy,some ⟨o,0,none⟩,ct,d,U.out⟩:StC)::(Zr (⟨ac,cc,U.cells,py,U.sy,some ⟨o,0,none⟩,ct,d,U.out⟩:StC)++(stP p pp U::(Zr U++q)))) func37 (Zn results37 rfl) ⟨_,rfl,n1,(⟨ac,cc,U.cells,py,U.sy,some ⟨o,0,none⟩,ct,d,U.out⟩:StC),by simp only [StC.er,b0],a0,rfl,rfl⟩
theorem W7 (U:StC)(n:Nat)(x:TC):({ U with ths:=U.ths.set n x } :StC).er=U.er.put n x.er:=by
 unfold StC.er SS.put;simp [fP]
theorem G0 (hn:n<U.ths.length):U.er.put n (U.ths[n]).er=U.er:=by
 unfold StC.er SS.put;simp only [SS.mk.injEq,true_and,and_true];rw [<-fP,dO]
def PStm.slt:PStm->Int
 | .mk _ _ _ _ _ _ _ _ _ _ slot _ _=>slot
theorem TodoAt.of {M:Hp}(h:m.map TC.todo=l.map TC.todo)(k:TodoAt M l):TodoAt M m:=fun t c y a=>by
 have d:t.todo∈l.map TC.todo:=h ▸ aP (f:=TC.todo) c;obtain ⟨u,b,e⟩:=bU.1 d;exact k u b y (e ▸ a)
abbrev iV:=@TodoAt.of
theorem Hc (hn:n<l.length)(h:x.todo=l[n].todo):(l.set n x).map TC.todo=l.map TC.todo:=by
 rw [fP,h];apply hU (by simp);intro i b a;by_cases e:n=i
 . subst e;simp
 simp [iL e]
theorem Rl (hn:n<l.length)(h:trH x=trH l[n]):(l.set n x).map trH=l.map trH:=by
 rw [fP,h];apply hU (by simp);intro i b a;by_cases e:n=i
 . subst e;simp
 simp [iL e]
theorem Nu (hn:n<ths.length)(r:List HP):Le (stars (ths.map trH)::r) (lsH I64 2 ths[n].la ths[n].lc ths[n].loc::lsH PS.v 146 ths[n].ta ths[n].tc ths[n].todo::lsH I64 3 ths[n].sa ths[n].sc ths[n].sp::stars ((ths.eraseIdx n).map trH)::r):=
 (Le.focus trH hn r).trans (Z1 (trL ths[n]) _)
theorem Np (hn:n<ths.length)(x:TC)(r:List HP):Le (lsH I64 2 x.la x.lc x.loc::lsH PS.v 146 x.ta x.tc x.todo::lsH I64 3 x.sa x.sc x.sp::stars ((ths.eraseIdx n).map trH)::r) (stars ((ths.set n x).map trH)::r):=
 (Z5 (trL x) _).trans (Nn trH hn x r)
theorem rs_same {ty:Nat}(h:l.flatMap trC=m.flatMap trC):rsH trC 5 ty a c l=rsH trC 5 ty a c m:=by
 have b:l.length=m.length:=by have:=bK List.length h;rw [Zx Zd,Zx Zd] at this;omega
 unfold rsH;rw [h,b]
theorem Gp (hn:n<l.length)(h:trC x=trC l[n]):(l.set n x).flatMap trC=l.flatMap trC:=by
 rw [List.flatMap_def,List.flatMap_def,fP,h];congr 1;apply hU (by simp);intro i b a;by_cases e:n=i
 . subst e;simp
 simp [iL e]
structure PO (g:FC) (N who:Nat) (U:StC):Prop where
 w:who<U.ths.length
 h8:U.ths.length<=8
 cl:(U.cells.length:Int)=g.vars.l.length+Y7 g.arrs.l
 cv: ∀ x∈U.cells,val x
 lv: ∀ x∈U.ths[who].loc,val x
 ll:U.ths[who].loc.length<=32
 y:U.sy.ok N
 n9:N<=900
 mu:(U.sy.owners.length:Int)=g.er.cn.mu
 co:(U.sy.conds.length:Int)=g.er.cn.co
 ch:(U.sy.chans.length:Int)=g.er.cn.ch
 cd: ∀ l∈U.sy.conds,∀ t∈l,t.toNat<U.ths.length
 td:U.ths[who].todo.length<=600*(N+1)
 sp:U.ths[who].sp.length<=8/\ ∀ i∈U.ths[who].sp,0<=i/\i<U.ths.length
section
variable {hc gh:Nat}{l:List Stm}
theorem Zqo (hn:n<ths.length)(hK:Kn q fun M=>BlkAt M a c l)(hl:l.length<=1000000/\x.todo.length<=1000000):CallF prog G 84 [.pointer (some ⟨gh,0+(n:Int).toNat*5,none⟩),.slice a l.length c] (rsH trC 5 116 (some ⟨gh,0,none⟩) hc (ths.set n x)::lsH PS.v 146 x.ta x.tc x.todo::q) (Ret fun v q'=> ∃ a1 c1 b1 o1,(0<l.length->a=some ⟨b1,o1,none⟩)/\q'=rsH trC 5 116 (some ⟨gh,0,none⟩) hc (ths.set n { x with ta:=a1,tc:=c1,todo:=x.todo++(psL b1 o1 l).reverse })::lsH PS.v 146 a1 c1 (x.todo++(psL b1 o1 l).reverse)::q):=by
 have h:=Be (G:=G) (q:=q) (gh:=gh) (hc:=hc) (ths:=ths.set n x) (n:=n) (a:=a) (c:=c) (l:=l) (by rw [bC];exact hn) hK (by rw [cN];exact hl);have b:(ths.set n x).getD n zTC=x:=by rw [Wl (by rw [bC];exact hn),cN]
 simp only [cN,b,fI] at h;exact h
abbrev B7 (v0:StC)(v1:Nat):=((v0.ths.eraseIdx v1).map trH)
theorem Xu (hO:PO g N who U)(hin:inV g.er.cn (U.ths[who]'(hO.w)).loc.length sl bb)(hl:ev.e.acc.length<=1000000000)(hM:MayP g.er):CallF prog G 165 [.pointer (some ⟨p,0,none⟩),I64 sl,.bool bb,I64 u] (Zw p pp who U ev++q) (Ret fun v q'=> ∃ (U':StC) (ev':EvC),(U'.er=(U.er.into who sl bb u).1/\ev'.e=ev.e.ac (U.er.into who sl bb u).2/\U'.ths.map TC.todo=U.ths.map TC.todo)/\q'=Zw p pp who U' ev'++q):=by
 refine aC func165 ntmps165 rfl fun F cs=> ?_;have hwho:=hO.w;have h8:=hO.h8;unfold inV at hin;obtain ⟨S,rfl⟩:=aV hin.1;obtain ⟨IX,d⟩:=kL (U.er.into who S bb u);rw [<-d];unfold SS.into at d;rw [Ze hwho,show ((S:Int)).toNat=S from rfl] at d;change X _ _ _ _ _ _ _ _ (A3 p pp U who ev q F);refine Yw (l:=U.ths) (by omega) fun t z=> ?_;have hr: ∀ r,Sees (Ag U r) (some ⟨t,0,none⟩) (AB U):=fun r=>by rw [<-z];exact bE r
 refine xx 5 ?_;refine xp 8 ?_ ?_<;>intro x
 . rw [if_pos x] at d hin;have j:S<U.ths[who].loc.length:=(by omega);refine bY (q':=stars (U.ths.map trH)::_) Zk (bY (Nu hwho _) ?_);refine Uw (l:=U.ths[who].loc) (by omega) fun gl h=> ?_;refine xo 4 ?_;refine aO call95 (Jv (p:=p) (who:=who) (ga:=t) (m:=U.ths.length) (c:=U.hc) (by rw [<-z];exact clA) clA hwho) ?_;refine oo 2 ?_;refine ld ?_ (hc:=(cT (n:=who) (hr _) leA Zd hwho rfl 2 _ rfl));refine rf [2,3013,1] h ?_;refine eU (q':=lsH I64 2 (some ⟨gl,0,none⟩) U.ths[who].lc U.ths[who].loc::_) (by rw [<-h];exact Zk) ?_;refine dJ (Bj (f:=I64) (l:=U.ths[who].loc) (n:=S) (u:=u) rfl rfl sizeOf2 rfl j rfl rfl Zk) ?_;rintro _ _ ⟨rfl,rfl⟩;refine ox 1 ?_;rw [<-h];refine bY (q':=stars ((U.ths.set who ({ U.ths[who] with loc:=U.ths[who].loc.set S u } :TC)).map trH)::_) (aS (b:=lsH I64 2 U.ths[who].la U.ths[who].lc (U.ths[who].loc.set S u)::lsH PS.v 146 U.ths[who].ta U.ths[who].tc U.ths[who].todo::lsH I64 3 U.ths[who].sa U.ths[who].sc U.ths[who].sp::stars (B7 U who)::_) (bM Zk (bM Zk (bM Zk Zk))) (Np hwho ({ U.ths[who] with loc:=U.ths[who].loc.set S u } :TC) _)) ?_;refine bY (q':=rsH trC 5 116 U.ha U.hc (U.ths.set who ({ U.ths[who] with loc:=U.ths[who].loc.set S u } :TC))::_) (by rw [show rsH trC 5 116 U.ha U.hc (U.ths.set who ({ U.ths[who] with loc:=U.ths[who].loc.set S u } :TC))=rsH trC 5 116 U.ha U.hc U.ths from rs_same (Gp hwho (by simp [trC]))];exact Zk) ?_;refine bY (q':=Zw p pp who ({ U with ths:=U.ths.set who ({ U.ths[who] with loc:=U.ths[who].loc.set S u } :TC) } :StC) ev++(q++F)) (by unfold Zw spP Vt Zr;simp only [bC];exact leA) ?_;refine Zq (Zw p pp who ({ U with ths:=U.ths.set who ({ U.ths[who] with loc:=U.ths[who].loc.set S u } :TC) } :StC) ev++q) func165 (Vm results165) ⟨_,rfl,({ U with ths:=U.ths.set who ({ U.ths[who] with loc:=U.ths[who].loc.set S u } :TC) } :StC),ev,⟨by rw [d,W7];rfl,by rw [d];exact (Ng _).symm,Hc hwho rfl⟩,rfl⟩ (by rw [aA];exact aE _)
 rw [if_neg (by rw [x];decide)] at d hin;have a0:=hO.cl;have s:S<U.cells.length:=(by have:=Qg (l:=g.arrs.l) (k:=256) (fun y hy=>by have:=hM.a y hy;omega) (by decide);have:=hin.2;rw [Tj] at this;omega);refine xo 6 ?_;refine Zb call167 leA (Cw (p:=p) (pp:=pp) (who:=who) (U:=U) (ev:=ev) (n:=S) (u:=u) (q:=q++F) s hl) ?_;rintro _ _ ⟨i,o,rfl⟩;refine ox 1 ?_;refine Z7 (Zw p pp who ({ U with cells:=U.cells.set S u } :StC) i++q) func165 (Vm results165) ⟨_,rfl,({ U with cells:=U.cells.set S u } :StC),i,⟨by rw [d];rfl,by rw [d];exact o,rfl⟩,rfl⟩ (by rw [aA];exact aE _)
abbrev A9 (v0:Nat)(v1:PS):=([.pointer (some ⟨v0,0,none⟩),.pointer (some ⟨v1.b,v1.o,none⟩)]:List Value)
theorem Ot (hP:Prg q pp g)(hM:MayP g.er)(hO:PO g N who U)(hev:ev.e.acc= []/\ev.e.syn= [])(hyA:Kn q fun M=>y.At M)(hg:y.s.er.good g.er.cn (U.ths[who]'(hO.w)).loc.length)(hTd:Kn q fun M=>TodoAt M U.ths)(hk:y.s.er.kd=1\/y.s.er.kd=2):CallF prog G 129 (A9 p y) (Zw p pp who U ev++q) (RP (fun v q'=> ∃ (U':StC) (ev':EvC),((U.er.data g.er.pr who y.s.er ev.e).2.2=0/\U'.er=(U.er.data g.er.pr who y.s.er ev.e).1/\ev'.e=(U.er.data g.er.pr who y.s.er ev.e).2.1/\Kn q fun M=>TodoAt M U'.ths)/\q'=Zw p pp who U' ev'++q) (fun ch q'=> ∃ (U':StC) (ev':EvC),((U.er.data g.er.pr who y.s.er ev.e).2.2≠0/\ch= [Vd (U.er.data g.er.pr who y.s.er ev.e).2.2]/\ev'.e=(U.er.data g.er.pr who y.s.er ev.e).2.1)/\q'=Zw p pp who U' ev'++q)):=by
 refine aC func129 ntmps129 rfl fun F cs=> ?_;obtain ⟨yb,yo,ys⟩:=y;obtain ⟨kk,ln,cl,nm,wt,⟨x,r,i,c,j,f,t,ea,z⟩,⟨xk,xn,c0,xsl,d0,b0,xl,xa,xc⟩,bd,k0,ba,bc,n0,m0,id,sl,ot,e0⟩:=ys;have o:=eR hyA;dsimp only at o hg hyA hk|-;simp only [Stm.er,PStm.kd] at hk;have hwho:=hO.w;have h8:=hO.h8;have e1:=hO.y;have k1:=hO.n9;obtain ⟨b,d1⟩:=hev;have v0:Kn q fun M=>ExAt M ⟨yb,yo+5,none⟩ (Ex.mk x r i c j f t ea z):=hyA.imp fun M h=>Yj (pre:= (A6 kk ln cl nm wt)) h.1 rfl h.2.1 rfl
 have l1:Kn q fun M=>ExAt M ⟨yb,yo+12,none⟩ (Ex.mk xk xn c0 xsl d0 b0 xl xa xc):=hyA.imp fun M h=>Yj (pre:= (A6 kk ln cl nm wt)++exC (Ex.mk x r i c j f t ea z)) h.1 rfl h.2.2.1 rfl
 have n1:Kn q fun M=>BlkAt M ba bc bd:=hyA.imp fun M h=>h.2.2.2.1;have m1:Kn q fun M=>BlkAt M n0 m0 k0:=hyA.imp fun M h=>⟨h.2.2.2.2.1,h.2.2.2.2.2⟩
 obtain ⟨u0,t0,s0,_⟩:=hg;obtain ⟨i1,o0,h1,g1,f1,y0,b1,a1,z0⟩:=Yu t0;obtain ⟨g0,j1⟩:=Wn u0;rw [Zg,Zg] at s0;obtain ⟨R,a⟩:=kL (U.er.data g.er.pr who (Stm.er (Stm.mk kk ln cl nm wt (Ex.mk x r i c j f t ea z) (Ex.mk xk xn c0 xsl d0 b0 xl xa xc) bd k0 ba bc n0 m0 id sl ot e0)) ev.e);rw [<-a];unfold SS.data at a;simp only [Stm.er] at a;rw [Ze hwho] at a;change X _ _ _ _ _ _ _ _ (A3 p pp U who ev q F);rw [if_neg (show ¬kk=3 by omega)] at a;dsimp only at a;rw [if_neg (fun k=>k rfl)] at a;refine rf [0,1,2,3,4,5,6,7,8,9,10,11,12,13] o ?_;obtain ⟨A1,l⟩:=kL ((Ex.er (Ex.mk x r i c j f t ea z)).made g.er.pr U.cells U.ths[who].loc);have m:=Yg (p:=g.er.pr) hO.cv hO.lv (g0 (by omega));rw [<-l] at m;try rw [show (U.ths[who].er).loc=U.ths[who].loc from rfl] at a
 try rw [show U.er.cells=U.cells from rfl] at a
 rw [<-l] at a;have c1:A1.2.2.length<=16777216:=cP m.2 (by decide);refine Fl 13 call166 leA (Jq (p:=p) (pp:=pp) (who:=who) (hwho:=hwho) (Ex.sz (Ex.mk x r i c j f t ea z)) (e:=(Ex.mk x r i c j f t ea z)) (d:=24) (ev:=ev) (q:=q++F) (aL _) trivial (by decide) (g0 (by omega)) (by rw [b];decide) (v0.le leA) (hP.le leA) hM hO.cl hO.cv hO.lv) ?_ ?_ trivial
 . rintro _ _ ⟨ht,rfl,w0,h0,rfl⟩;exact dA func129 (dX (by rw [<-l] at ht h0|-;have i0:=a;rw [if_pos ht] at i0;rw [i0];exact ⟨U,w0,⟨ht,rfl,by rw [h0];unfold PEv.ac;simp only [b,aT]⟩,rfl⟩)) (by rw [aA];exact aE _)
 rintro _ _ ⟨f0,rfl,x0,n,l0⟩;simp only [Zw,spP,Zr,evL,ca,na] at l0;subst l0;refine ⟨(hlF o),?_⟩;rw [<-l] at f0 n|-;rw [if_neg (fun k=>k f0)] at a;rw [if_pos (by omega)] at a;refine Wy 14 call165 leA (Xu (p:=p) (pp:=pp) (who:=who) (g:=g) (N:=N) (U:=U) (ev:=x0) (sl:=sl) (bb:=e0) (u:=A1.1) (q:=q++F) hO (o0 (by omega)) (by rw [n];unfold PEv.ac;rw [b];simp;omega) hM) ?_;rintro _ _ ⟨a0,j0,⟨r0,q0,p0⟩,rfl⟩;refine ⟨trivial,?_⟩;refine jV ?_;refine Z7 (Zw p pp who a0 j0++q) func129 (Vm results129) (dG ⟨a0,j0,⟨by rw [a],by rw [a];exact r0,by rw [a,q0,n];unfold PEv.ac;simp only [b,aT],hTd.imp fun M h=>iV p0 h⟩,rfl⟩) (by rw [aA];exact aE _)
theorem xput_ok (hP:Prg q pp g)(hM:MayP g.er)(hO:PO g N who U)(hev:ev.e.acc= []/\ev.e.syn= [])(hyA:Kn q fun M=>y.At M)(hg:y.s.er.good g.er.cn (U.ths[who]'(hO.w)).loc.length)(hTd:Kn q fun M=>TodoAt M U.ths)(hk:y.s.er.kd=3):CallF prog G 130 (A9 p y) (Zw p pp who U ev++q) (RP (fun v q'=> ∃ (U':StC) (ev':EvC),((U.er.data g.er.pr who y.s.er ev.e).2.2=0/\U'.er=(U.er.data g.er.pr who y.s.er ev.e).1/\ev'.e=(U.er.data g.er.pr who y.s.er ev.e).2.1/\Kn q fun M=>TodoAt M U'.ths)/\q'=Zw p pp who U' ev'++q) (fun ch q'=> ∃ (U':StC) (ev':EvC),((U.er.data g.er.pr who y.s.er ev.e).2.2≠0/\ch= [Vd (U.er.data g.er.pr who y.s.er ev.e).2.2]/\ev'.e=(U.er.data g.er.pr who y.s.er ev.e).2.1)/\q'=Zw p pp who U' ev'++q)):=by
 refine aC func130 ntmps130 rfl fun F cs=> ?_;obtain ⟨yb,yo,ys⟩:=y;obtain ⟨kk,ln,cl,nm,wt,⟨ek,en,r,m,t,o,el,ea,ec⟩,⟨xk,xn,z,xsl,a0,x,xl,xa,xc⟩,bd,x0,ba,bc,z0,y0,id,sl,ot,a1⟩:=ys;have t0:=eR hyA;dsimp only at t0 hg hyA hk|-;simp only [Stm.er,PStm.kd] at hk;have hwho:=hO.w;have h8:=hO.h8;have p1:=hO.y;have x1:=hO.n9;obtain ⟨c,o1⟩:=hev;have h1:Kn q fun M=>ExAt M ⟨yb,yo+5,none⟩ (Ex.mk ek en r m t o el ea ec):=hyA.imp fun M h=>Yj (pre:= (A6 kk ln cl nm wt)) h.1 rfl h.2.1 rfl
 have g1:Kn q fun M=>ExAt M ⟨yb,yo+12,none⟩ (Ex.mk xk xn z xsl a0 x xl xa xc):=hyA.imp fun M h=>Yj (pre:= (A6 kk ln cl nm wt)++exC (Ex.mk ek en r m t o el ea ec)) h.1 rfl h.2.2.1 rfl
 have z1:Kn q fun M=>BlkAt M ba bc bd:=hyA.imp fun M h=>h.2.2.2.1;have y1:Kn q fun M=>BlkAt M z0 y0 x0:=hyA.imp fun M h=>⟨h.2.2.2.2.1,h.2.2.2.2.2⟩
 obtain ⟨d1,c1,b1,_⟩:=hg;obtain ⟨u1,t1,n0,s1,r1,j1,m1,l1,k1⟩:=Yu c1;obtain ⟨r0,o0⟩:=Wn d1;rw [Zg,Zg] at b1;obtain ⟨R,b⟩:=kL (U.er.data g.er.pr who (Stm.er (Stm.mk kk ln cl nm wt (Ex.mk ek en r m t o el ea ec) (Ex.mk xk xn z xsl a0 x xl xa xc) bd x0 ba bc z0 y0 id sl ot a1)) ev.e);rw [<-b];unfold SS.data at b;simp only [Stm.er] at b;rw [Ze hwho] at b;change X _ _ _ _ _ _ _ _ (A3 p pp U who ev q F);obtain rfl:kk=3:=(by omega);rw [if_pos rfl] at b;refine xo 6 ?_;obtain ⟨A1,g0⟩:=kL ((Ex.er (Ex.mk xk xn z xsl a0 x xl xa xc)).made g.er.pr U.cells U.ths[who].loc);have b0:=Yg (p:=g.er.pr) hO.cv hO.lv (o0 rfl);rw [<-g0] at b0;try rw [show (U.ths[who].er).loc=U.ths[who].loc from rfl] at b
 try rw [show U.er.cells=U.cells from rfl] at b
 rw [<-g0] at b;have p0:A1.2.2.length<=16777216:=cP b0.2 (by decide);refine Vn call166 leA (Jq (p:=p) (pp:=pp) (who:=who) (hwho:=hwho) (Ex.sz (Ex.mk xk xn z xsl a0 x xl xa xc)) (e:=(Ex.mk xk xn z xsl a0 x xl xa xc)) (d:=24) (ev:=ev) (q:=q++F) (aL _) trivial (by decide) (o0 rfl) (by rw [c];decide) (g1.le leA) (hP.le leA) hM hO.cl hO.cv hO.lv) ?_ ?_
 . rintro _ _ ⟨ht,rfl,j0,c0,rfl⟩;exact dA func130 (dX (by rw [<-g0] at ht c0|-;have d0:=b;rw [if_pos ht] at d0;rw [d0];exact ⟨U,j0,⟨ht,rfl,by rw [c0];unfold PEv.ac;simp only [c,aT]⟩,rfl⟩)) (by rw [aA];exact aE _)
 rintro _ _ ⟨m0,rfl,i1,j,f⟩;simp only [Zw,spP,Zr,evL,ca,na] at f;subst f;rw [<-g0] at m0 j|-;rw [if_neg (fun k=>k m0)] at b;try dsimp only at b
 refine oo 8 ?_;obtain ⟨A2,f0⟩:=kL ((Ex.er (Ex.mk ek en r m t o el ea ec)).made g.er.pr U.cells U.ths[who].loc);have h0:=Yg (p:=g.er.pr) hO.cv hO.lv (r0 (by omega));rw [<-f0] at h0;try rw [show (U.ths[who].er).loc=U.ths[who].loc from rfl] at b
 try rw [show U.er.cells=U.cells from rfl] at b
 rw [<-f0] at b;have n1:A2.2.2.length<=16777216:=cP h0.2 (by decide);refine Vn call166 leA (Jq (p:=p) (pp:=pp) (who:=who) (hwho:=hwho) (Ex.sz (Ex.mk ek en r m t o el ea ec)) (e:=(Ex.mk ek en r m t o el ea ec)) (d:=24) (ev:=i1) (q:=q++F) (aL _) trivial (by decide) (r0 (by omega)) (by rw [j];unfold PEv.ac;rw [c];simp only [aT];have v1:(2:Nat) ^ (24:Int).toNat=16777216:=(by decide);have:=p0;omega) (h1.le leA) (hP.le leA) hM hO.cl hO.cv hO.lv) ?_ ?_
 . rintro _ _ ⟨ht,rfl,j0,c0,rfl⟩;exact dA func130 (dX (by rw [<-f0] at ht c0|-;have d0:=b;rw [if_pos ht] at d0;rw [d0];exact ⟨U,j0,⟨ht,rfl,by rw [c0,j];unfold PEv.ac;simp only [c,aT]⟩,rfl⟩)) (by rw [aA];exact aE _)
 rintro _ _ ⟨l0,rfl,k0,e0,f⟩;simp only [Zw,spP,Zr,evL,ca,na] at f;subst f;rw [<-f0] at l0 e0|-;rw [if_neg (fun k=>k l0)] at b;rw [if_neg (by omega),if_pos rfl] at b;refine rf [8,0,1] t0 ?_;obtain ⟨An,u0⟩:=aV (n0 rfl).1;have v0:An<g.arrs.l.length:=by have:=(n0 rfl).2;rw [Tv] at this;omega
 refine bA 21 (Aw An) rfl (by rw [u0]) ?_;rw [u0] at b;refine Vn call168 leA (C1 (p:=p) (pp:=pp) (who:=who) (U:=U) (ev:=k0) (n:=An) (u:=A1.1) (q:=q++F) (hP.le leA) hM v0 b0.1) ?_ ?_
 . rintro _ _ ⟨⟨s0,rfl⟩,rfl⟩;exact dA func130 (dX (by rw [if_pos s0] at b;rw [b];exact ⟨U,k0,⟨(show (3:Int)≠0 by decide),rfl,by rw [e0,j];unfold PEv.ac;simp only [c,aT]⟩,rfl⟩)) (by rw [aA];exact aE _)
 rintro _ _ ⟨⟨q0,rfl⟩,f⟩;simp only [Zw,spP,Zr,evL,ca,na] at f;subst f;rw [if_neg (by omega)] at b;obtain ⟨i,i0⟩:=aV q0;refine bA 23 (Aw i) rfl (by rw [i0]) ?_
 have w1:=hO.cl;have f1:i<U.cells.length:=by
  have hx:=i0;unfold PPr.cell at hx;rw [show g.er.pr.arrs=g.arrs.l from rfl,show g.er.pr.vars=g.vars.l from rfl,show ((An:Int)).toNat=An from rfl] at hx;have q1:=Tc (l:=g.arrs.l) hM.a v0;split at hx<;>omega
 rw [i0,show ((i:Int)).toNat=i from rfl] at b;refine oo 1 ?_;refine Zb call167 leA (Cw (p:=p) (pp:=pp) (who:=who) (U:=U) (ev:=k0) (n:=i) (u:=A2.1) (q:=q++F) f1 (by rw [e0,j];unfold PEv.ac;rw [c];simp only [aT,aG];omega)) ?_;rintro _ _ ⟨w0,e1,rfl⟩;refine ox 1 ?_;refine Z7 (Zw p pp who ({ U with cells:=U.cells.set i A2.1 } :StC) w0++q) func130 (Vm results130) (dG ⟨({ U with cells:=U.cells.set i A2.1 } :StC),w0,⟨by rw [b],by rw [b];rfl,by rw [b,e1,e0,j];unfold PEv.ac;simp only [c,aT,aA],hTd⟩,rfl⟩) (by rw [aA];exact aE _)
theorem L4 (hP:Prg q pp g)(hM:MayP g.er)(hO:PO g N who U)(hev:ev.e.acc= []/\ev.e.syn= [])(hyA:Kn q fun M=>y.At M)(hg:y.s.er.good g.er.cn (U.ths[who]'(hO.w)).loc.length)(hTd:Kn q fun M=>TodoAt M U.ths)(hk:y.s.er.kd=4):CallF prog G 131 (A9 p y) (Zw p pp who U ev++q) (RP (fun v q'=> ∃ (U':StC) (ev':EvC),((U.er.data g.er.pr who y.s.er ev.e).2.2=0/\U'.er=(U.er.data g.er.pr who y.s.er ev.e).1/\ev'.e=(U.er.data g.er.pr who y.s.er ev.e).2.1/\Kn q fun M=>TodoAt M U'.ths)/\q'=Zw p pp who U' ev'++q) (fun ch q'=> ∃ (U':StC) (ev':EvC),((U.er.data g.er.pr who y.s.er ev.e).2.2≠0/\ch= [Vd (U.er.data g.er.pr who y.s.er ev.e).2.2]/\ev'.e=(U.er.data g.er.pr who y.s.er ev.e).2.1)/\q'=Zw p pp who U' ev'++q)):=by
 refine aC func131 ntmps131 rfl fun F cs=> ?_;obtain ⟨yb,yo,ys⟩:=y;obtain ⟨kk,ln,cl,nm,wt,⟨ek,en,d0,b0,e0,c0,el,ea,ec⟩,⟨xk,xn,o0,xsl,p0,n0,xl,xa,xc⟩,bd,f,ba,bc,m0,l0,id,sl,ot,x0⟩:=ys;have g0:=eR hyA;dsimp only at g0 hg hyA hk|-;simp only [Stm.er,PStm.kd] at hk;have hwho:=hO.w;have h8:=hO.h8;have m1:=hO.y;have u1:=hO.n9;obtain ⟨a0,l1⟩:=hev;have e1:Kn q fun M=>ExAt M ⟨yb,yo+5,none⟩ (Ex.mk ek en d0 b0 e0 c0 el ea ec):=hyA.imp fun M h=>Yj (pre:= (A6 kk ln cl nm wt)) h.1 rfl h.2.1 rfl
 have v1:Kn q fun M=>ExAt M ⟨yb,yo+12,none⟩ (Ex.mk xk xn o0 xsl p0 n0 xl xa xc):=hyA.imp fun M h=>Yj (pre:= (A6 kk ln cl nm wt)++exC (Ex.mk ek en d0 b0 e0 c0 el ea ec)) h.1 rfl h.2.2.1 rfl
 have v0:Kn q fun M=>BlkAt M ba bc bd:=hyA.imp fun M h=>h.2.2.2.1;have u0:Kn q fun M=>BlkAt M m0 l0 f:=hyA.imp fun M h=>⟨h.2.2.2.2.1,h.2.2.2.2.2⟩
 obtain ⟨d1,z0,y0,_⟩:=hg;obtain ⟨s1,r1,q1,p1,n1,g1,j1,i1,h1⟩:=Yu z0;obtain ⟨r0,t1⟩:=Wn d1;rw [Zg,Zg] at y0;obtain ⟨R,hR⟩:=kL (U.er.data g.er.pr who (Stm.er (Stm.mk kk ln cl nm wt (Ex.mk ek en d0 b0 e0 c0 el ea ec) (Ex.mk xk xn o0 xsl p0 n0 xl xa xc) bd f ba bc m0 l0 id sl ot x0)) ev.e);rw [<-hR];unfold SS.data at hR;simp only [Stm.er] at hR;rw [Ze hwho] at hR;change X _ _ _ _ _ _ _ _ (A3 p pp U who ev q F);obtain rfl:kk=4:=(by omega);rw [if_neg (show ¬ (4:Int)=3 by decide)] at hR;try dsimp only at hR
 rw [if_neg (fun k=>k rfl)] at hR;refine Yw (l:=U.ths) (by omega) fun ga e_=> ?_;have hr: ∀ r,Sees (Ag U r) (some ⟨ga,0,none⟩) (AB U):=fun r=>by rw [<-e_];exact bE r
 refine xo 7 ?_;obtain ⟨A1,h0⟩:=kL ((Ex.er (Ex.mk ek en d0 b0 e0 c0 el ea ec)).made g.er.pr U.cells U.ths[who].loc);have i0:=Yg (p:=g.er.pr) hO.cv hO.lv (r0 (by omega));rw [<-h0] at i0;try rw [show (U.ths[who].er).loc=U.ths[who].loc from rfl] at hR
 try rw [show U.er.cells=U.cells from rfl] at hR
 rw [<-h0] at hR;have k1:A1.2.2.length<=16777216:=cP i0.2 (by decide);refine Vn call166 leA (Jq (p:=p) (pp:=pp) (who:=who) (hwho:=hwho) (Ex.sz (Ex.mk ek en d0 b0 e0 c0 el ea ec)) (e:=(Ex.mk ek en d0 b0 e0 c0 el ea ec)) (d:=24) (ev:=ev) (q:=q++F) (aL _) trivial (by decide) (r0 (by omega)) (by rw [a0];decide) (e1.le leA) (hP.le leA) hM hO.cl hO.cv hO.lv) ?_ ?_
 . rintro _ _ ⟨ht,rfl,f1,s0,rfl⟩;exact dA func131 (dX (by rw [<-h0] at ht s0|-;have t0:=hR;rw [if_pos ht] at t0;rw [t0];exact ⟨U,f1,⟨ht,rfl,by rw [s0];unfold PEv.ac;simp only [a0,aT]⟩,rfl⟩)) (by rw [aA];exact aE _)
 rintro _ _ ⟨q0,rfl,x,j0,w0⟩;simp only [Zw,spP,Zr,evL,ca,na] at w0;subst w0;rw [<-h0] at q0 j0|-;rw [if_neg (fun k=>k q0)] at hR;rw [if_neg (by decide),if_neg (by decide),if_pos rfl] at hR;refine rn [3,0,7,0,2] ?_;refine xp 18 ?_ ?_<;>intro h5
 . rw [if_neg (show ¬A1.1=0 by omega)] at hR;refine bY (q':=stars (U.ths.map trH)::_) Zk (bY (Nu hwho _) ?_);refine bY (q':=rsH trC 5 116 (some ⟨ga,0,none⟩) U.hc U.ths::_) (by rw [<-e_];exact Zk) ?_;refine rf [1,0,1,3,4,5,6] g0 ?_;refine Y2 1 call95 (Jv (p:=p) (who:=who) (ga:=ga) (m:=U.ths.length) (c:=U.hc) (by rw [<-e_];exact clA) clA hwho) ?_ (hL:=(hlF g0));refine Wy 6 call84 (bM Zk Zk) (Be (gh:=ga) (n:=who) (hc:=U.hc) (ths:=U.ths) (l:=bd) (a:=ba) (c:=bc) hwho (v0.le leA) ⟨by omega,by have:=hO.td;omega⟩) ?_;rintro _ _ ⟨u,o,j,i,k0,rfl⟩;refine ⟨trivial,?_⟩;refine jV ?_;rw [Wl hwho];rw [<-e_];refine bY (q':=stars ((U.ths.set who ({ U.ths[who] with ta:=u,tc:=o,todo:=U.ths[who].todo++(psL j i bd).reverse } :TC)).map trH)::_) (aS (b:=lsH I64 2 (({ U.ths[who] with ta:=u,tc:=o,todo:=U.ths[who].todo++(psL j i bd).reverse } :TC)).la (({ U.ths[who] with ta:=u,tc:=o,todo:=U.ths[who].todo++(psL j i bd).reverse } :TC)).lc (({ U.ths[who] with ta:=u,tc:=o,todo:=U.ths[who].todo++(psL j i bd).reverse } :TC)).loc::lsH PS.v 146 (({ U.ths[who] with ta:=u,tc:=o,todo:=U.ths[who].todo++(psL j i bd).reverse } :TC)).ta (({ U.ths[who] with ta:=u,tc:=o,todo:=U.ths[who].todo++(psL j i bd).reverse } :TC)).tc (({ U.ths[who] with ta:=u,tc:=o,todo:=U.ths[who].todo++(psL j i bd).reverse } :TC)).todo::lsH I64 3 (({ U.ths[who] with ta:=u,tc:=o,todo:=U.ths[who].todo++(psL j i bd).reverse } :TC)).sa (({ U.ths[who] with ta:=u,tc:=o,todo:=U.ths[who].todo++(psL j i bd).reverse } :TC)).sc (({ U.ths[who] with ta:=u,tc:=o,todo:=U.ths[who].todo++(psL j i bd).reverse } :TC)).sp::stars (B7 U who)::_) (bM Zk (bM Zk (bM Zk Zk))) (Np hwho ({ U.ths[who] with ta:=u,tc:=o,todo:=U.ths[who].todo++(psL j i bd).reverse } :TC) _)) ?_;refine bY (q':=Zw p pp who ({ U with ths:=U.ths.set who ({ U.ths[who] with ta:=u,tc:=o,todo:=U.ths[who].todo++(psL j i bd).reverse } :TC) } :StC) ({ x with e:= { x.e with value:=A1.1 } } :EvC)++(q++F)) (by unfold Zw spP Vt Zr;simp only [bC];exact leA) ?_
   refine Z7 (Zw p pp who ({ U with ths:=U.ths.set who ({ U.ths[who] with ta:=u,tc:=o,todo:=U.ths[who].todo++(psL j i bd).reverse } :TC) } :StC) ({ x with e:= { x.e with value:=A1.1 } } :EvC)++q) func131 (Vm results131) (dG ⟨({ U with ths:=U.ths.set who ({ U.ths[who] with ta:=u,tc:=o,todo:=U.ths[who].todo++(psL j i bd).reverse } :TC) } :StC),({ x with e:= { x.e with value:=A1.1 } } :EvC),⟨by rw [hR],by rw [hR];dsimp only;rw [W7];congr 1;simp only [TC.er,aM,jS,Gw,iM,kE,bP,eM,jD,jT,aT,aA,Stm.er,cM],by rw [hR];dsimp only;rw [j0];unfold PEv.ac;simp only [a0,aT],(hTd.and ((hyA.and v0))).imp fun M h t ht z hz=>by
    rcases bO ht with ht|rfl
    . exact h.1 t ht z hz
    rcases aQ.1 hz with hz|hz
    . exact h.1 _ (aB hwho) z hz
    have f0:=jR.1 hz;have hb:=h.2.2;rw [k0 (by rw [<-Mj j i bd];exact jJ f0)] at hb;exact Gx hb z f0⟩,rfl⟩) (by rw [aA];exact aE _)
 rw [if_pos (show A1.1=0 by omega)] at hR;refine bY (q':=stars (U.ths.map trH)::_) Zk (bY (Nu hwho _) ?_);refine bY (q':=rsH trC 5 116 (some ⟨ga,0,none⟩) U.hc U.ths::_) (by rw [<-e_];exact Zk) ?_;refine rf [1,0,1,3,4,5,6] g0 ?_;refine Y2 1 call95 (Jv (p:=p) (who:=who) (ga:=ga) (m:=U.ths.length) (c:=U.hc) (by rw [<-e_];exact clA) clA hwho) ?_ (hL:=(hlF g0));refine Wy 6 call84 (bM Zk Zk) (Be (gh:=ga) (n:=who) (hc:=U.hc) (ths:=U.ths) (l:=f) (a:=m0) (c:=l0) hwho (u0.le leA) ⟨by omega,by have:=hO.td;omega⟩) ?_;rintro _ _ ⟨u,o,j,i,k0,rfl⟩;refine ⟨trivial,?_⟩;refine jV ?_;rw [Wl hwho];rw [<-e_];refine bY (q':=stars ((U.ths.set who ({ U.ths[who] with ta:=u,tc:=o,todo:=U.ths[who].todo++(psL j i f).reverse } :TC)).map trH)::_) (aS (b:=lsH I64 2 (({ U.ths[who] with ta:=u,tc:=o,todo:=U.ths[who].todo++(psL j i f).reverse } :TC)).la (({ U.ths[who] with ta:=u,tc:=o,todo:=U.ths[who].todo++(psL j i f).reverse } :TC)).lc (({ U.ths[who] with ta:=u,tc:=o,todo:=U.ths[who].todo++(psL j i f).reverse } :TC)).loc::lsH PS.v 146 (({ U.ths[who] with ta:=u,tc:=o,todo:=U.ths[who].todo++(psL j i f).reverse } :TC)).ta (({ U.ths[who] with ta:=u,tc:=o,todo:=U.ths[who].todo++(psL j i f).reverse } :TC)).tc (({ U.ths[who] with ta:=u,tc:=o,todo:=U.ths[who].todo++(psL j i f).reverse } :TC)).todo::lsH I64 3 (({ U.ths[who] with ta:=u,tc:=o,todo:=U.ths[who].todo++(psL j i f).reverse } :TC)).sa (({ U.ths[who] with ta:=u,tc:=o,todo:=U.ths[who].todo++(psL j i f).reverse } :TC)).sc (({ U.ths[who] with ta:=u,tc:=o,todo:=U.ths[who].todo++(psL j i f).reverse } :TC)).sp::stars (B7 U who)::_) (bM Zk (bM Zk (bM Zk Zk))) (Np hwho ({ U.ths[who] with ta:=u,tc:=o,todo:=U.ths[who].todo++(psL j i f).reverse } :TC) _)) ?_;refine bY (q':=Zw p pp who ({ U with ths:=U.ths.set who ({ U.ths[who] with ta:=u,tc:=o,todo:=U.ths[who].todo++(psL j i f).reverse } :TC) } :StC) ({ x with e:= { x.e with value:=A1.1 } } :EvC)++(q++F)) (by unfold Zw spP Vt Zr;simp only [bC];exact leA) ?_
 refine Z7 (Zw p pp who ({ U with ths:=U.ths.set who ({ U.ths[who] with ta:=u,tc:=o,todo:=U.ths[who].todo++(psL j i f).reverse } :TC) } :StC) ({ x with e:= { x.e with value:=A1.1 } } :EvC)++q) func131 (Vm results131) (dG ⟨({ U with ths:=U.ths.set who ({ U.ths[who] with ta:=u,tc:=o,todo:=U.ths[who].todo++(psL j i f).reverse } :TC) } :StC),({ x with e:= { x.e with value:=A1.1 } } :EvC),⟨by rw [hR],by rw [hR];dsimp only;rw [W7];congr 1;simp only [TC.er,aM,jS,Gw,iM,kE,bP,eM,jD,jT,aT,aA,Stm.er,cM],by rw [hR];dsimp only;rw [j0];unfold PEv.ac;simp only [a0,aT],(hTd.and ((hyA.and u0))).imp fun M h t ht z hz=>by
  rcases bO ht with ht|rfl
  . exact h.1 t ht z hz
  rcases aQ.1 hz with hz|hz
  . exact h.1 _ (aB hwho) z hz
  have f0:=jR.1 hz;have hb:=h.2.2;rw [k0 (by rw [<-Mj j i f];exact jJ f0)] at hb;exact Gx hb z f0⟩,rfl⟩) (by rw [aA];exact aE _)
theorem L3 (hP:Prg q pp g)(hM:MayP g.er)(hO:PO g N who U)(hev:ev.e.acc= []/\ev.e.syn= [])(hyA:Kn q fun M=>y.At M)(hg:y.s.er.good g.er.cn (U.ths[who]'(hO.w)).loc.length)(hTd:Kn q fun M=>TodoAt M U.ths)(hk:y.s.er.kd=5):CallF prog G 132 (A9 p y) (Zw p pp who U ev++q) (RP (fun v q'=> ∃ (U':StC) (ev':EvC),((U.er.data g.er.pr who y.s.er ev.e).2.2=0/\U'.er=(U.er.data g.er.pr who y.s.er ev.e).1/\ev'.e=(U.er.data g.er.pr who y.s.er ev.e).2.1/\Kn q fun M=>TodoAt M U'.ths)/\q'=Zw p pp who U' ev'++q) (fun ch q'=> ∃ (U':StC) (ev':EvC),((U.er.data g.er.pr who y.s.er ev.e).2.2≠0/\ch= [Vd (U.er.data g.er.pr who y.s.er ev.e).2.2]/\ev'.e=(U.er.data g.er.pr who y.s.er ev.e).2.1)/\q'=Zw p pp who U' ev'++q)):=by
 refine aC func132 ntmps132 rfl fun F cs=> ?_;obtain ⟨yb,yo,ys⟩:=y;obtain ⟨kk,ln,cl,nm,wt,⟨ek,en,a0,i,b0,o,el,ea,ec⟩,⟨xk,xn,d0,xsl,e0,c0,xl,xa,xc⟩,bd,f0,ba,bc,h0,g0,id,sl,ot,i0⟩:=ys;have o0:=eR hyA;dsimp only at o0 hg hyA hk|-;simp only [Stm.er,PStm.kd] at hk;have hwho:=hO.w;have h8:=hO.h8;have l1:=hO.y;have t1:=hO.n9;obtain ⟨k0,k1⟩:=hev;have d1:Kn q fun M=>ExAt M ⟨yb,yo+5,none⟩ (Ex.mk ek en a0 i b0 o el ea ec):=hyA.imp fun M h=>Yj (pre:= (A6 kk ln cl nm wt)) h.1 rfl h.2.1 rfl
 have u1:Kn q fun M=>ExAt M ⟨yb,yo+12,none⟩ (Ex.mk xk xn d0 xsl e0 c0 xl xa xc):=hyA.imp fun M h=>Yj (pre:= (A6 kk ln cl nm wt)++exC (Ex.mk ek en a0 i b0 o el ea ec)) h.1 rfl h.2.2.1 rfl
 have u0:Kn q fun M=>BlkAt M ba bc bd:=hyA.imp fun M h=>h.2.2.2.1;have v1:Kn q fun M=>BlkAt M h0 g0 f0:=hyA.imp fun M h=>⟨h.2.2.2.2.1,h.2.2.2.2.2⟩
 obtain ⟨y0,x0,w0,_⟩:=hg;obtain ⟨r1,q1,p1,n1,m1,f1,i1,h1,g1⟩:=Yu x0;obtain ⟨r0,s1⟩:=Wn y0;rw [Zg,Zg] at w0;obtain ⟨R,hR⟩:=kL (U.er.data g.er.pr who (Stm.er (Stm.mk kk ln cl nm wt (Ex.mk ek en a0 i b0 o el ea ec) (Ex.mk xk xn d0 xsl e0 c0 xl xa xc) bd f0 ba bc h0 g0 id sl ot i0)) ev.e);rw [<-hR];unfold SS.data at hR;simp only [Stm.er] at hR;rw [Ze hwho] at hR;change X _ _ _ _ _ _ _ _ (A3 p pp U who ev q F);obtain rfl:kk=5:=(by omega);rw [if_neg (show ¬ (5:Int)=3 by decide)] at hR;try dsimp only at hR
 rw [if_neg (fun k=>k rfl)] at hR;refine Yw (l:=U.ths) (by omega) fun ga e_=> ?_;have hr: ∀ r,Sees (Ag U r) (some ⟨ga,0,none⟩) (AB U):=fun r=>by rw [<-e_];exact bE r
 refine xo 7 ?_;obtain ⟨A1,l0⟩:=kL ((Ex.er (Ex.mk ek en a0 i b0 o el ea ec)).made g.er.pr U.cells U.ths[who].loc);have m0:=Yg (p:=g.er.pr) hO.cv hO.lv (r0 (by omega));rw [<-l0] at m0;try rw [show (U.ths[who].er).loc=U.ths[who].loc from rfl] at hR
 try rw [show U.er.cells=U.cells from rfl] at hR
 rw [<-l0] at hR;have j1:A1.2.2.length<=16777216:=cP m0.2 (by decide);refine Vn call166 leA (Jq (p:=p) (pp:=pp) (who:=who) (hwho:=hwho) (Ex.sz (Ex.mk ek en a0 i b0 o el ea ec)) (e:=(Ex.mk ek en a0 i b0 o el ea ec)) (d:=24) (ev:=ev) (q:=q++F) (aL _) trivial (by decide) (r0 (by omega)) (by rw [k0];decide) (d1.le leA) (hP.le leA) hM hO.cl hO.cv hO.lv) ?_ ?_
 . rintro _ _ ⟨ht,rfl,e1,s0,rfl⟩;exact dA func132 (dX (by rw [<-l0] at ht s0|-;have t0:=hR;rw [if_pos ht] at t0;rw [t0];exact ⟨U,e1,⟨ht,rfl,by rw [s0];unfold PEv.ac;simp only [k0,aT]⟩,rfl⟩)) (by rw [aA];exact aE _)
 rintro _ _ ⟨q0,rfl,j0,n0,v0⟩;simp only [Zw,spP,Zr,evL,ca,na] at v0;subst v0;rw [<-l0] at q0 n0|-;rw [if_neg (fun k=>k q0)] at hR;rw [if_neg (by decide),if_neg (by decide),if_neg (by decide),if_pos rfl] at hR;refine rn [3,0,7,0,2] ?_;refine xp 18 ?_ ?_<;>intro h5
 . rw [if_neg (show ¬A1.1=0 by omega)] at hR;refine bY (q':=stars (U.ths.map trH)::_) Zk (bY (Nu hwho _) ?_);refine bY (q':=rsH trC 5 116 (some ⟨ga,0,none⟩) U.hc U.ths::_) (by rw [<-e_];exact Zk) ?_;refine xo 4 ?_;refine aO call95 (Jv (p:=p) (who:=who) (ga:=ga) (m:=U.ths.length) (c:=U.hc) (by rw [<-e_];exact clA) clA hwho) ?_;refine oo 1 ?_;refine aO call95 (Jv (p:=p) (who:=who) (ga:=ga) (m:=U.ths.length) (c:=U.hc) (by rw [<-e_];exact clA) clA hwho) ?_;refine oo 2 ?_;refine ld ?_ (hc:=(cT (n:=who) (bE _) leA Zd hwho rfl 3 _ rfl));refine oo 1 ?_;refine bQ (U3 (u:=(⟨yb,yo,(Stm.mk 5 ln cl nm wt (Ex.mk ek en a0 i b0 o el ea ec) (Ex.mk xk xn d0 xsl e0 c0 xl xa xc) bd f0 ba bc h0 g0 id sl ot i0)⟩:PS)) PS.v underlying114 W0 rfl rfl) ?_;rintro _ _ ⟨g2,rfl,rfl⟩;refine bQ (Yx (f:=PS.v) (l:=U.ths[who].todo) (m:= [(⟨yb,yo,(Stm.mk 5 ln cl nm wt (Ex.mk ek en a0 i b0 o el ea ec) (Ex.mk xk xn d0 xsl e0 c0 xl xa xc) bd f0 ba bc h0 g0 id sl ot i0)⟩:PS)]) underlying114 W0 rfl rfl rfl Zk ((bR _).le leA) (fun _=>rfl) (by have:=hO.td;simp only [bJ];omega) (by have:=hO.td;simp only [bJ];omega)) ?_;rintro _ _ ⟨a5,c5,rfl,rfl⟩;refine oo 2 ?_;refine dJ (Yr (g:=ga) (f:=trC) (l:=U.ths) (u:=({ U.ths[who] with ta:=a5,tc:=c5,todo:=U.ths[who].todo++ [(⟨yb,yo,(Stm.mk 5 ln cl nm wt (Ex.mk ek en a0 i b0 o el ea ec) (Ex.mk xk xn d0 xsl e0 c0 xl xa xc) bd f0 ba bc h0 g0 id sl ot i0)⟩:PS)] } :TC)) (n:=who) (k:=3) (j:=(who:Int)) rfl rfl sizeOf114 Zd rfl hwho rfl rfl rfl rfl Zk) ?_;rintro _ _ ⟨rfl,rfl⟩;refine rf [1,0,1,3,4,5,6] o0 ?_;refine Y2 1 call95 (Jv (p:=p) (who:=who) (ga:=ga) (m:=U.ths.length) (c:=U.hc) (by rw [<-e_];exact clA) clA hwho) ?_ (hL:=(hlF o0));refine Wy 6 call84 (bM Zk Zk) (Zqo (gh:=ga) (n:=who) (hc:=U.hc) (ths:=U.ths) (x:=({ U.ths[who] with ta:=a5,tc:=c5,todo:=U.ths[who].todo++ [(⟨yb,yo,(Stm.mk 5 ln cl nm wt (Ex.mk ek en a0 i b0 o el ea ec) (Ex.mk xk xn d0 xsl e0 c0 xl xa xc) bd f0 ba bc h0 g0 id sl ot i0)⟩:PS)] } :TC)) (l:=bd) (a:=ba) (c:=bc) hwho (u0.le leA) ⟨by omega,by have:=hO.td;simp only [aG,bJ];omega⟩) ?_;rintro _ _ ⟨a1,c1,b1,o1,z0,rfl⟩;refine ⟨trivial,?_⟩;refine jV ?_;rw [<-e_];refine bY (q':=stars ((U.ths.set who ({ U.ths[who] with ta:=a1,tc:=c1,todo:=U.ths[who].todo++ [(⟨yb,yo,(Stm.mk 5 ln cl nm wt (Ex.mk ek en a0 i b0 o el ea ec) (Ex.mk xk xn d0 xsl e0 c0 xl xa xc) bd f0 ba bc h0 g0 id sl ot i0)⟩:PS)]++(psL b1 o1 bd).reverse } :TC)).map trH)::_) (aS (b:=lsH I64 2 (({ U.ths[who] with ta:=a1,tc:=c1,todo:=U.ths[who].todo++ [(⟨yb,yo,(Stm.mk 5 ln cl nm wt (Ex.mk ek en a0 i b0 o el ea ec) (Ex.mk xk xn d0 xsl e0 c0 xl xa xc) bd f0 ba bc h0 g0 id sl ot i0)⟩:PS)]++(psL b1 o1 bd).reverse } :TC)).la (({ U.ths[who] with ta:=a1,tc:=c1,todo:=U.ths[who].todo++ [(⟨yb,yo,(Stm.mk 5 ln cl nm wt (Ex.mk ek en a0 i b0 o el ea ec) (Ex.mk xk xn d0 xsl e0 c0 xl xa xc) bd f0 ba bc h0 g0 id sl ot i0)⟩:PS)]++(psL b1 o1 bd).reverse } :TC)).lc (({ U.ths[who] with ta:=a1,tc:=c1,todo:=U.ths[who].todo++ [(⟨yb,yo,(Stm.mk 5 ln cl nm wt (Ex.mk ek en a0 i b0 o el ea ec) (Ex.mk xk xn d0 xsl e0 c0 xl xa xc) bd f0 ba bc h0 g0 id sl ot i0)⟩:PS)]++(psL b1 o1 bd).reverse } :TC)).loc::lsH PS.v 146 (({ U.ths[who] with ta:=a1,tc:=c1,todo:=U.ths[who].todo++ [(⟨yb,yo,(Stm.mk 5 ln cl nm wt (Ex.mk ek en a0 i b0 o el ea ec) (Ex.mk xk xn d0 xsl e0 c0 xl xa xc) bd f0 ba bc h0 g0 id sl ot i0)⟩:PS)]++(psL b1 o1 bd).reverse } :TC)).ta (({ U.ths[who] with ta:=a1,tc:=c1,todo:=U.ths[who].todo++ [(⟨yb,yo,(Stm.mk 5 ln cl nm wt (Ex.mk ek en a0 i b0 o el ea ec) (Ex.mk xk xn d0 xsl e0 c0 xl xa xc) bd f0 ba bc h0 g0 id sl ot i0)⟩:PS)]++(psL b1 o1 bd).reverse } :TC)).tc (({ U.ths[who] with ta:=a1,tc:=c1,todo:=U.ths[who].todo++ [(⟨yb,yo,(Stm.mk 5 ln cl nm wt (Ex.mk ek en a0 i b0 o el ea ec) (Ex.mk xk xn d0 xsl e0 c0 xl xa xc) bd f0 ba bc h0 g0 id sl ot i0)⟩:PS)]++(psL b1 o1 bd).reverse } :TC)).todo::lsH I64 3 (({ U.ths[who] with ta:=a1,tc:=c1,todo:=U.ths[who].todo++ [(⟨yb,yo,(Stm.mk 5 ln cl nm wt (Ex.mk ek en a0 i b0 o el ea ec) (Ex.mk xk xn d0 xsl e0 c0 xl xa xc) bd f0 ba bc h0 g0 id sl ot i0)⟩:PS)]++(psL b1 o1 bd).reverse } :TC)).sa (({ U.ths[who] with ta:=a1,tc:=c1,todo:=U.ths[who].todo++ [(⟨yb,yo,(Stm.mk 5 ln cl nm wt (Ex.mk ek en a0 i b0 o el ea ec) (Ex.mk xk xn d0 xsl e0 c0 xl xa xc) bd f0 ba bc h0 g0 id sl ot i0)⟩:PS)]++(psL b1 o1 bd).reverse } :TC)).sc (({ U.ths[who] with ta:=a1,tc:=c1,todo:=U.ths[who].todo++ [(⟨yb,yo,(Stm.mk 5 ln cl nm wt (Ex.mk ek en a0 i b0 o el ea ec) (Ex.mk xk xn d0 xsl e0 c0 xl xa xc) bd f0 ba bc h0 g0 id sl ot i0)⟩:PS)]++(psL b1 o1 bd).reverse } :TC)).sp::stars (B7 U who)::_) (bM Zk (bM Zk (bM Zk Zk))) (Np hwho ({ U.ths[who] with ta:=a1,tc:=c1,todo:=U.ths[who].todo++ [(⟨yb,yo,(Stm.mk 5 ln cl nm wt (Ex.mk ek en a0 i b0 o el ea ec) (Ex.mk xk xn d0 xsl e0 c0 xl xa xc) bd f0 ba bc h0 g0 id sl ot i0)⟩:PS)]++(psL b1 o1 bd).reverse } :TC) _)) ?_;refine bY (q':=Zw p pp who ({ U with ths:=U.ths.set who ({ U.ths[who] with ta:=a1,tc:=c1,todo:=U.ths[who].todo++ [(⟨yb,yo,(Stm.mk 5 ln cl nm wt (Ex.mk ek en a0 i b0 o el ea ec) (Ex.mk xk xn d0 xsl e0 c0 xl xa xc) bd f0 ba bc h0 g0 id sl ot i0)⟩:PS)]++(psL b1 o1 bd).reverse } :TC) } :StC) ({ j0 with e:= { j0.e with value:=A1.1 } } :EvC)++(q++F)) (by unfold Zw spP Vt Zr;simp only [bC];exact leA) ?_
   refine Z7 (Zw p pp who ({ U with ths:=U.ths.set who ({ U.ths[who] with ta:=a1,tc:=c1,todo:=U.ths[who].todo++ [(⟨yb,yo,(Stm.mk 5 ln cl nm wt (Ex.mk ek en a0 i b0 o el ea ec) (Ex.mk xk xn d0 xsl e0 c0 xl xa xc) bd f0 ba bc h0 g0 id sl ot i0)⟩:PS)]++(psL b1 o1 bd).reverse } :TC) } :StC) ({ j0 with e:= { j0.e with value:=A1.1 } } :EvC)++q) func132 (Vm results132) (dG ⟨({ U with ths:=U.ths.set who ({ U.ths[who] with ta:=a1,tc:=c1,todo:=U.ths[who].todo++ [(⟨yb,yo,(Stm.mk 5 ln cl nm wt (Ex.mk ek en a0 i b0 o el ea ec) (Ex.mk xk xn d0 xsl e0 c0 xl xa xc) bd f0 ba bc h0 g0 id sl ot i0)⟩:PS)]++(psL b1 o1 bd).reverse } :TC) } :StC),({ j0 with e:= { j0.e with value:=A1.1 } } :EvC),⟨by rw [hR],by rw [hR];dsimp only;rw [W7];congr 1;simp only [TC.er,aM,jS,Gw,iM,kE,bP,eM,jD,jT,aT,aA,Stm.er,cM],by rw [hR];dsimp only;rw [n0];unfold PEv.ac;simp only [k0,aT],(hTd.and ((hyA.and u0))).imp fun M h t ht z hz=>by
    rcases bO ht with ht|rfl
    . exact h.1 t ht z hz
    rcases aQ.1 hz with hz|hz
    . rcases aQ.1 hz with hz|hz
      . exact h.1 _ (aB hwho) z hz
      rw [aZ.1 hz];exact h.2.1
    have p0:=jR.1 hz;have hb:=h.2.2;rw [z0 (by rw [<-Mj b1 o1 bd];exact jJ p0)] at hb;exact Gx hb z p0⟩,rfl⟩) (by rw [aA];exact aE _)
 rw [if_pos (show A1.1=0 by omega)] at hR;refine xx 2 ?_;refine Z7 (Zw p pp who U ({ j0 with e:= { j0.e with value:=A1.1 } } :EvC)++q) func132 (Vm results132) (dG ⟨U,({ j0 with e:= { j0.e with value:=A1.1 } } :EvC),⟨by rw [hR],by rw [hR];dsimp only;rw [aT];exact (G0 hwho).symm,by rw [hR];dsimp only;rw [n0];unfold PEv.ac;simp only [k0,aT],hTd⟩,rfl⟩) (by rw [aA];exact aE _)
theorem Zqz (hP:Prg q pp g)(hM:MayP g.er)(hO:PO g N who U)(hev:ev.e.acc= []/\ev.e.syn= [])(hyA:Kn q fun M=>y.At M)(hg:y.s.er.good g.er.cn (U.ths[who]'(hO.w)).loc.length)(hTd:Kn q fun M=>TodoAt M U.ths)(hk:y.s.er.kd=15):CallF prog G 142 (A9 p y) (Zw p pp who U ev++q) (RP (fun v q'=> ∃ (U':StC) (ev':EvC),((U.er.data g.er.pr who y.s.er ev.e).2.2=0/\U'.er=(U.er.data g.er.pr who y.s.er ev.e).1/\ev'.e=(U.er.data g.er.pr who y.s.er ev.e).2.1/\Kn q fun M=>TodoAt M U'.ths)/\q'=Zw p pp who U' ev'++q) (fun ch q'=> ∃ (U':StC) (ev':EvC),((U.er.data g.er.pr who y.s.er ev.e).2.2≠0/\ch= [Vd (U.er.data g.er.pr who y.s.er ev.e).2.2]/\ev'.e=(U.er.data g.er.pr who y.s.er ev.e).2.1)/\q'=Zw p pp who U' ev'++q)):=by
 refine aC func142 ntmps142 rfl fun F cs=> ?_;obtain ⟨yb,yo,ys⟩:=y;obtain ⟨kk,ln,cl,nm,wt,⟨t,o,f,b,i,c,r,x,u⟩,⟨xk,xn,a0,xsl,b0,z,xl,xa,xc⟩,bd,h0,ba,bc,k0,j0,id,sl,ot,l0⟩:=ys;have q0:=eR hyA;dsimp only at q0 hg hyA hk|-;simp only [Stm.er,PStm.kd] at hk;have hwho:=hO.w;have h8:=hO.h8;have y0:=hO.y;have f1:=hO.n9;obtain ⟨j,x0⟩:=hev;have p0:Kn q fun M=>ExAt M ⟨yb,yo+5,none⟩ (Ex.mk t o f b i c r x u):=hyA.imp fun M h=>Yj (pre:= (A6 kk ln cl nm wt)) h.1 rfl h.2.1 rfl
 have g1:Kn q fun M=>ExAt M ⟨yb,yo+12,none⟩ (Ex.mk xk xn a0 xsl b0 z xl xa xc):=hyA.imp fun M h=>Yj (pre:= (A6 kk ln cl nm wt)++exC (Ex.mk t o f b i c r x u)) h.1 rfl h.2.2.1 rfl
 have i1:Kn q fun M=>BlkAt M ba bc bd:=hyA.imp fun M h=>h.2.2.2.1;have h1:Kn q fun M=>BlkAt M k0 j0 h0:=hyA.imp fun M h=>⟨h.2.2.2.2.1,h.2.2.2.2.2⟩
 obtain ⟨o0,n0,m0,_⟩:=hg;obtain ⟨d1,c1,b1,a1,z0,s0,v0,u0,t0⟩:=Yu n0;obtain ⟨d0,e1⟩:=Wn o0;rw [Zg,Zg] at m0;obtain ⟨R,a⟩:=kL (U.er.data g.er.pr who (Stm.er (Stm.mk kk ln cl nm wt (Ex.mk t o f b i c r x u) (Ex.mk xk xn a0 xsl b0 z xl xa xc) bd h0 ba bc k0 j0 id sl ot l0)) ev.e);rw [<-a];unfold SS.data at a;simp only [Stm.er] at a;rw [Ze hwho] at a;change X _ _ _ _ _ _ _ _ (A3 p pp U who ev q F);obtain rfl:kk=15:=(by omega);rw [if_neg (show ¬ (15:Int)=3 by decide)] at a;try dsimp only at a
 rw [if_neg (fun k=>k rfl)] at a;refine xo 7 ?_;obtain ⟨A1,l⟩:=kL ((Ex.er (Ex.mk t o f b i c r x u)).made g.er.pr U.cells U.ths[who].loc);have n:=Yg (p:=g.er.pr) hO.cv hO.lv (d0 (by omega));rw [<-l] at n;try rw [show (U.ths[who].er).loc=U.ths[who].loc from rfl] at a
 try rw [show U.er.cells=U.cells from rfl] at a
 rw [<-l] at a;have w0:A1.2.2.length<=16777216:=cP n.2 (by decide);refine Vn call166 leA (Jq (p:=p) (pp:=pp) (who:=who) (hwho:=hwho) (Ex.sz (Ex.mk t o f b i c r x u)) (e:=(Ex.mk t o f b i c r x u)) (d:=24) (ev:=ev) (q:=q++F) (aL _) trivial (by decide) (d0 (by omega)) (by rw [j];decide) (p0.le leA) (hP.le leA) hM hO.cl hO.cv hO.lv) ?_ ?_
 . rintro _ _ ⟨ht,rfl,r0,e0,rfl⟩;exact dA func142 (dX (by rw [<-l] at ht e0|-;have g0:=a;rw [if_pos ht] at g0;rw [g0];exact ⟨U,r0,⟨ht,rfl,by rw [e0];unfold PEv.ac;simp only [j,aT]⟩,rfl⟩)) (by rw [aA];exact aE _)
 rintro _ _ ⟨c0,rfl,m,f0,i0⟩;simp only [Zw,spP,Zr,evL,ca,na] at i0;subst i0;rw [<-l] at c0 f0|-;rw [if_neg (fun k=>k c0)] at a;rw [if_neg (by decide),if_neg (by decide),if_neg (by decide),if_neg (by decide),if_neg (by decide)] at a;refine rn [3,0,6,0,1] ?_;refine Z7 (Zw p pp who U ({ m with e:= { m.e with told:=true,outv:=A1.1 } } :EvC)++q) func142 (Vm results142) (dG ⟨U,({ m with e:= { m.e with told:=true,outv:=A1.1 } } :EvC),⟨by rw [a],by rw [a],by rw [a];dsimp only;rw [f0];unfold PEv.ac;simp only [j,aT],hTd⟩,rfl⟩) (by unfold Zw spP;exact leA)
abbrev AD (v0:StC)(v1:PS):=(v0.sy.chans.getD v1.s.er.slt.toNat ch0)
theorem xsend_ok (hP:Prg q pp g)(hM:MayP g.er)(hO:PO g N who U)(hev:ev.e.acc= []/\ev.e.syn= [])(hyA:Kn q fun M=>y.At M)(hg:y.s.er.good g.er.cn (U.ths[who]'(hO.w)).loc.length)(hTd:Kn q fun M=>TodoAt M U.ths)(hk:y.s.er.kd=11)(hroom:((AD U y).items.length:Int)<(AD U y).room):CallF prog G 138 (A9 p y) (Zw p pp who U ev++q) (RP (fun v q'=> ∃ (U':StC) (ev':EvC),((U.er.data g.er.pr who y.s.er ev.e).2.2=0/\U'.er=(U.er.data g.er.pr who y.s.er ev.e).1/\ev'.e=(U.er.data g.er.pr who y.s.er ev.e).2.1/\Kn q fun M=>TodoAt M U'.ths)/\q'=Zw p pp who U' ev'++q) (fun ch q'=> ∃ (U':StC) (ev':EvC),((U.er.data g.er.pr who y.s.er ev.e).2.2≠0/\ch= [Vd (U.er.data g.er.pr who y.s.er ev.e).2.2]/\ev'.e=(U.er.data g.er.pr who y.s.er ev.e).2.1)/\q'=Zw p pp who U' ev'++q)):=by
 refine aC func138 ntmps138 rfl fun F cs=> ?_;obtain ⟨yb,yo,ys⟩:=y;obtain ⟨kk,ln,cl,nm,wt,⟨ek,x,f,b,i,c,z,ea,ec⟩,⟨xk,xn,b0,xsl,c0,a0,xl,xa,xc⟩,bd,j0,ba,bc,m0,l0,id,sl,ot,n0⟩:=ys;have m:=eR hyA;dsimp only at m hg hyA hk|-;simp only [Stm.er,PStm.kd] at hk;have hwho:=hO.w;have h8:=hO.h8;have o0:=hO.y;have i1:=hO.n9;obtain ⟨l,o⟩:=hev;have u0:Kn q fun M=>ExAt M ⟨yb,yo+5,none⟩ (Ex.mk ek x f b i c z ea ec):=hyA.imp fun M h=>Yj (pre:= (A6 kk ln cl nm wt)) h.1 rfl h.2.1 rfl
 have j1:Kn q fun M=>ExAt M ⟨yb,yo+12,none⟩ (Ex.mk xk xn b0 xsl c0 a0 xl xa xc):=hyA.imp fun M h=>Yj (pre:= (A6 kk ln cl nm wt)++exC (Ex.mk ek x f b i c z ea ec)) h.1 rfl h.2.2.1 rfl
 have l1:Kn q fun M=>BlkAt M ba bc bd:=hyA.imp fun M h=>h.2.2.2.1;have k1:Kn q fun M=>BlkAt M m0 l0 j0:=hyA.imp fun M h=>⟨h.2.2.2.2.1,h.2.2.2.2.2⟩
 obtain ⟨s0,r0,q0,_⟩:=hg;obtain ⟨f1,e1,d1,c1,b1,x0,e0,z0,y0⟩:=Yu r0;obtain ⟨f0,g1⟩:=Wn s0;rw [Zg,Zg] at q0;obtain ⟨R,a⟩:=kL (U.er.data g.er.pr who (Stm.er (Stm.mk kk ln cl nm wt (Ex.mk ek x f b i c z ea ec) (Ex.mk xk xn b0 xsl c0 a0 xl xa xc) bd j0 ba bc m0 l0 id sl ot n0)) ev.e);rw [<-a];unfold SS.data at a;simp only [Stm.er] at a;rw [Ze hwho] at a;change X _ _ _ _ _ _ _ _ (A3 p pp U who ev q F);obtain rfl:kk=11:=(by omega);rw [if_neg (show ¬ (11:Int)=3 by decide)] at a;try dsimp only at a
 rw [if_neg (fun k=>k rfl)] at a;have r:=e0 (.inl rfl);have h1:=hO.ch;refine rf [1,0,1,2,3,4,5,6,7,8,9,10,11,12,13] m ?_;obtain ⟨A1,n⟩:=kL ((Ex.er (Ex.mk ek x f b i c z ea ec)).made g.er.pr U.cells U.ths[who].loc);have j:=Yg (p:=g.er.pr) hO.cv hO.lv (f0 (by omega));rw [<-n] at j;try rw [show (U.ths[who].er).loc=U.ths[who].loc from rfl] at a
 try rw [show U.er.cells=U.cells from rfl] at a
 rw [<-n] at a;have a1:A1.2.2.length<=16777216:=cP j.2 (by decide);refine Fl 13 call166 leA (Jq (p:=p) (pp:=pp) (who:=who) (hwho:=hwho) (Ex.sz (Ex.mk ek x f b i c z ea ec)) (e:=(Ex.mk ek x f b i c z ea ec)) (d:=24) (ev:=ev) (q:=q++F) (aL _) trivial (by decide) (f0 (by omega)) (by rw [l];decide) (u0.le leA) (hP.le leA) hM hO.cl hO.cv hO.lv) ?_ ?_ trivial
 . rintro _ _ ⟨ht,rfl,v0,g0,rfl⟩;exact dA func138 (dX (by rw [<-n] at ht g0|-;have h0:=a;rw [if_pos ht] at h0;rw [h0];exact ⟨U,v0,⟨ht,rfl,by rw [g0];unfold PEv.ac;simp only [l,aT]⟩,rfl⟩)) (by rw [aA];exact aE _)
 rintro _ _ ⟨d0,rfl,w0,u,k0⟩;simp only [Zw,spP,Zr,evL,ca,na] at k0;subst k0;refine ⟨(hlF m),?_⟩;rw [<-n] at d0 u|-;rw [if_neg (fun k=>k d0)] at a;rw [if_neg (by decide),if_neg (by decide),if_neg (by decide),if_neg (by decide),if_pos rfl] at a;refine Ua 14 call174 (Send_Y (k:=sl) (t:=A1.1) o0 (by omega)) ?_;refine kc0 ?_;refine rf [16,17,18,19,20,21,22,0,5,0,1] m ?_;refine Zb call98 leA (V8 (p:=p) (pp:=pp) (who:=who) (U:=({ U with sy:=(Vf U.sy sl A1.1).1 } :StC)) (ev:=w0) (q:=q++F) (by rw [u];unfold PEv.ac;dsimp only;rw [o];decide)) ?_;rintro _ _ ⟨i0,t0,rfl⟩;refine ox 1 ?_;replace hroom:((U.sy.chans.getD sl.toNat ch0).items.length:Int)<(U.sy.chans.getD sl.toNat ch0).room:=hroom;have p0:(Vf U.sy sl A1.1).2.1=((U.sy.chans.getD sl.toNat ch0).all.length:Int):=by unfold Vf;rw [if_pos ⟨r.1,by omega⟩,if_pos j.1,if_pos hroom]
 refine Z7 (Zw p pp who ({ U with sy:=(Vf U.sy sl A1.1).1 } :StC) i0++q) func138 (Vm results138) (dG ⟨({ U with sy:=(Vf U.sy sl A1.1).1 } :StC),i0,⟨by rw [a],by rw [a];rfl,by rw [a,t0,u,p0];unfold PEv.ac PEv.sn;dsimp only;rw [l,o,fU (by omega)];simp;rfl,hTd⟩,rfl⟩) (by rw [aA];exact aE _)
end
structure SS.fine (F:Fnd) (N:Nat) (s:SS):Prop where
 ok:SS.ok F N s
 u:s.sy.conds.flatten.Nodup
 q: ∀ t∈s.ths,t.sp.length<s.ths.length
structure PTr.ok0 (F:Fnd) (N nth:Nat) (t:PTr):Prop where
 d:0<=t.decl/\t.decl<F.ths.length
 s:1<=t.st/\t.st<=4
 l:t.loc.length<=32
 v: ∀ x∈t.loc,val x
 g:Wm F.cn t.loc.length t.left
 n:t.left.length<=600*(N+1)
 p:t.sp.length<nth/\ ∀ i∈t.sp,0<=i/\i<nth
structure PTr.ok1 (t:PTr):Prop where
 e:t.left= []↔t.st=4
 w:t.st=2\/t.st=3->t.next.kd=8
theorem ThOk.parts {nth:Nat}(h:ThOk F N nth t)(q:t.sp.length<nth):t.ok0 F N nth/\t.ok1:=⟨⟨h.d,h.s,h.l,h.v,h.g,h.n,q,h.p.2⟩,⟨h.e,h.w⟩⟩
theorem ThOk.of {nth:Nat}(h:t.ok0 F N nth)(k:t.ok1)(l:nth<=8):ThOk F N nth t:=⟨h.d,h.s,h.l,h.v,h.g,h.n,k.e,k.w,by have:=h.p.1;omega,h.p.2⟩
structure SS.okx (F:Fnd) (N n:Nat) (s:SS):Prop where
 c:(s.cells.length:Int)=F.vars.length+Y7 F.arrs
 v: ∀ x∈s.cells,val x
 y:s.sy.ok N
 z:(s.sy.owners.length:Int)=F.mu/\(s.sy.conds.length:Int)=F.co/\s.sy.chans.map Ch.room=F.chs
 t:1<=s.ths.length/\s.ths.length<=8
 nn:n<s.ths.length
 h: ∀ i,i<s.ths.length->(s.th i).ok0 F N s.ths.length
 o: ∀ i,i<s.ths.length->i≠n->(s.th i).ok1
 m:(s.th n).st=1\/((s.th n).st=2/\(s.th n).next.kd=8/\(s.th n).left≠ [])
 w: ∀ l∈s.sy.conds,∀ t∈l,t.toNat<s.ths.length/\(s.th t.toNat).st=2
 u:s.sy.conds.flatten.Nodup
theorem SS.put_len (s:SS)(n:Nat)(t:PTr):(s.put n t).ths.length=s.ths.length:=by simp [SS.put]
abbrev dZ:=@SS.put_len
theorem Un (h:n<s.ths.length)(i:Nat):(s.put n t).th i=if i=n then t else s.th i:=by
 unfold SS.th SS.put;by_cases e:i=n
 . subst e;simp [List.getD,h]
 rw [if_neg e];simp only [bD,List.getElem?_set_ne (Ne.symm e)]
theorem PTr.ok0.mono {m m':Nat}(h:t.ok0 F N m)(l:N<=N')(k:m<=m'):t.ok0 F N' m':=
 ⟨h.d,h.s,h.l,h.v,h.g,by have:=h.n;omega,by have:=h.p.1;omega,fun i a=>by have:=h.p.2 i a;omega⟩
theorem SS.okx.mono (h:s.okx F N n)(l:N<=N'):s.okx F N' n:=
 ⟨h.c,h.v,h.y.mono l,h.z,h.t,h.nn,fun i hi=>(h.h i hi).mono l (aL _),h.o,h.m,h.w,h.u⟩
theorem SS.okx.put (h:s.okx F N n)(h0:t.ok0 F N s.ths.length)(hm:t.st=1\/(t.st=2/\t.next.kd=8/\t.left≠ []))(hw:(s.th n).st=2->t.st=2):(s.put n t).okx F N n:=by
 have b:=s.put_len n t;have f:=Un (t:=t) h.nn;refine ⟨h.c,h.v,h.y,h.z,by rw [b];exact h.t,by rw [b];exact h.nn,fun i d=> ?_,fun i d a=> ?_,?_,fun l j k p=> ?_,h.u⟩
 . rw [b] at d|-;rw [f];split
   . exact h0
   exact h.h i d
 . rw [b] at d;rw [f,if_neg a];exact h.o i d a
 . rw [f,if_pos rfl];exact hm
 obtain ⟨m,g⟩:=h.w l j k p;rw [b,f];refine ⟨m,?_⟩;split
 . rename_i e;rw [e] at g;exact hw g
 exact g
theorem SS.okx.cell {l:List Int}(h:s.okx F N n)(hl:l.length=s.cells.length)(hv: ∀ x∈l,val x):({ s with cells:=l } :SS).okx F N n:=
 ⟨by show (l.length:Int)=_;rw [hl];exact h.c,hv,h.y,h.z,h.t,h.nn,h.h,h.o,h.m,h.w,h.u⟩
theorem SS.okx.sync {y:Sy}(h:s.okx F N n)(l:N<=N')(hy:y.ok N')(h1:y.owners.length=s.sy.owners.length)(h2:y.conds=s.sy.conds)(h3:y.chans.map Ch.room=s.sy.chans.map Ch.room):({ s with sy:=y } :SS).okx F N' n:=
 ⟨h.c,h.v,hy,⟨by show (y.owners.length:Int)=_;rw [h1];exact h.z.1,by show (y.conds.length:Int)=_;rw [h2];exact h.z.2.1,by show y.chans.map Ch.room=_;rw [h3];exact h.z.2.2⟩,h.t,h.nn,fun i a=>(h.h i a).mono l (aL _),h.o,h.m,by show ∀ l∈y.conds,_;rw [h2];exact h.w,by show y.conds.flatten.Nodup;rw [h2];exact h.u⟩
theorem Gz {l:List Int}(h: ∀ x∈l,val x)(hv:val v): ∀ x∈l.set i v,val x:=fun x a=>by
 rcases bO a with a|rfl
 . exact h x a
 exact hv
theorem SS.okx.into {slot:Int}{loc:Bool}(h:s.okx F N n)(hv:val v):(s.into n slot loc v).1.okx F N n/\((s.into n slot loc v).1.th n).st=(s.th n).st:=by
 unfold SS.into;split
 . have k:=h.h n h.nn;refine ⟨h.put ⟨k.d,k.s,by simpa using k.l,Gz k.v hv,by rw [bC];exact k.g,k.n,k.p⟩ (by exact h.m) (fun e=>e),?_⟩;dsimp only;rw [Un h.nn,if_pos rfl]
 exact ⟨h.cell (by simp) (Gz h.v hv),rfl⟩
theorem Ca (s:Sy)(k v:Int):(Vf s k v).1.conds=s.conds:=by unfold Vf;(repeat' split)<;>rfl
theorem Zqd (s:Sy)(k v:Int):(Vf s k v).1.owners=s.owners:=by unfold Vf;(repeat' split)<;>rfl
theorem Ci {l:List Ch}{x:Ch}(h:x.room=(l.getD i ch0).room):(l.set i x).map Ch.room=l.map Ch.room:=by
 rw [fP];apply hU (by simp);intro j b a;by_cases e:i=j
 . subst e;have:i<l.length:=by simpa using a
   simp [h,List.getD,this]
 simp [iL e]
theorem Sz (s:Sy)(k v:Int):(Vf s k v).1.chans.map Ch.room=s.chans.map Ch.room:=by
 unfold Vf;split
 . split
   . split
     . exact Ci rfl
     rfl
   rfl
 rfl
theorem Sx (s:Sy)(k:Int):(Vq s k).1.chans.map Ch.room=s.chans.map Ch.room:=by
 unfold Vq;split
 . split
   . rfl
   exact Ci rfl
 rfl
theorem Dn (s:Sy)(m t:Int):(Ws s m t).1.owners.length=s.owners.length/\(Ws s m t).1.conds=s.conds/\(Ws s m t).1.chans=s.chans:=by
 unfold Ws;(repeat' split)<;>simp
theorem Nt (s:Sy)(m t:Int):(Z6 s m t).1.owners.length=s.owners.length/\(Z6 s m t).1.conds=s.conds/\(Z6 s m t).1.chans=s.chans:=by
 unfold Z6;(repeat' split)<;>simp
theorem Dd (h:n<s.ths.length):((s.put n t).th n)=t:=by rw [Un h,if_pos rfl]
theorem Ia {x:PStm}{ev:PEv}(h:s.okx F N n)(hM:MayP F)(hs:(s.th n).st=1)(hx:x.good F.cn (s.th n).loc.length)(hl:(s.th n).left.length+1<=600*(N+1))(hk:x.kd<=5\/x.kd=11\/x.kd=15)(ht:(s.data F.pr n x ev).2.2=0):(s.data F.pr n x ev).1.okx F (N+1) n:=by
 have u:=h.mono (cX N);obtain ⟨k,ln,cl,nm,wt,e,ix,g0,o0,id,b0,w,loc⟩:=x;simp only [PStm.kd] at hk;obtain ⟨r,q,a0,f,o⟩:=hx;obtain ⟨m0,l0,j0,i0,h0,c0,f0,e0,d0⟩:=Yu q;obtain ⟨z,n0⟩:=Wn r;have c:=h.h n h.nn;have j:=(Yg (p:=F.pr) h.v c.v (z (by omega))).1;unfold SS.data at ht|-;dsimp only at ht|-;generalize (if k=3 then ix.made F.pr s.cells (s.th n).loc else (0,0, []))=i at ht|-;generalize e.made F.pr s.cells (s.th n).loc=v at ht|-j;split at ht
 . rename_i h1;exact aR ht h1
 rename_i h1;rw [if_neg h1];split at ht
 . rename_i h2;exact aR ht h2
 rename_i h2;rw [if_neg h2];split at ht
 . rename_i h3;rw [if_pos h3];exact (u.into j).1
 rename_i h3;rw [if_neg h3];split at ht
 . rename_i h4;rw [if_pos h4];split at ht
   . exact aR ht (by show ¬ (3:Int)=0;decide)
   rename_i t;rw [if_neg t];exact u.cell (by simp) (Gz h.v j)
 rename_i h4;rw [if_neg h4]
 have b: ∀ m:List PStm,m.length<=513->Wm F.cn (s.th n).loc.length m->(s.put n { s.th n with left:=m++(s.th n).left }).okx F (N+1) n:=fun m hm hg=>by
  refine u.put ⟨c.d,c.s,c.l,c.v,Y9.2 fun y a=> ?_,by simp only [aG];omega,c.p⟩ (.inl hs) (fun e=>e);rcases aQ.1 a with a|a
  . exact Y9.1 hg y a
  exact Y9.1 c.g y a
 split at ht
 . rename_i t;rw [if_pos t];split
   . exact b _ (by omega) o
   exact b _ (by omega) f
 rename_i t;rw [if_neg t];split at ht
 . rename_i h6;rw [if_pos h6];split
   . exact b _ (by simp) trivial
   refine b _ (by simp only [aG,bJ];omega) (Y9.2 fun y a=> ?_);rcases aQ.1 a with a|a
   . exact Y9.1 f y a
   rw [aZ.1 a];exact ⟨r,q,a0,f,o⟩
 rename_i h6;rw [if_neg h6];split at ht
 . rename_i h7;rw [if_pos h7];exact h.sync (cX N) (sendS_ok h.y _ _) (by rw [Zqd]) (Ca _ _ _) (Sz _ _ _)
 rename_i h7;rw [if_neg h7];exact u
end Go.Proofs.YtflkjkhijcdbaaaGreat
