/- Contracts. -/
import Derived.Test.YtadahhbefdnabaaGreatDoorVh
set_option maxHeartbeats 16000000
set_option maxRecDepth 100000
set_option linter.all false
namespace Go.Proofs.YtadahhbefdnabaaGreatDoor
open Go Go.RowKit Wx Go.Proofs.Tryz
attribute [local irreducible] lsH rsH stars
variable {g:FC}{m:Mdl}{n p who xb xf N c b nb sb so j fuel:Nat}{G:World}{q q' r pre:List HP}{K:MK}{xa:Addr}{s S:MS}{ev:PEv}{u:Int->Bool}{k sl ot:Int}{bb:Bool}{i:Ins}{x:Stm}{σ:MC}{l:List MTC}{y:Operand}{a:Option Addr}{d:Option Tmp}{P:Program}{pos:String}{af:Array Edge}{gd:Option (Nat×Bool)}{L:List Stm}{f:Fc}{Q:Yp}{ds:List Deferred}{cs:List Frame}{F:Fnd}
def PStm.slt:PStm->Int
 | .mk _ _ _ _ _ _ _ _ _ _ slot _ _=>slot
def BegOk (g:FC)(m:Mdl)(n:Int):Prop:=(0<=n/\n<g.ths.l.length)/\g.ths.l.length<=1000000/\(0<=Vr g.main n/\Vr g.main n<m.threads.length)/\0<(m.threads.getD (Vr g.main n).toNat ⟨em,0, [], [],none,0,none,0⟩).ins.length
def BegOk.in {n}(h:BegOk g m n):0<(m.threads[(Vr g.main n).toNat]'(by have:=h.2.2.1;omega)).ins.length:=by
 have a:=h.2.2.2;rwa [aH,aB (by have:=h.2.2.1;omega)] at a
def T6 (main:Int)(m:Mdl)(d:Int)(s:MS)(who:Nat)(ev:PEv):MS×PEv×Int:=
 if 8<=s.ths.length then (s,ev,5)
 else
  let s1:MS:=s.put who { s.th who with sp:=(s.th who).sp++ [(s.ths.length:Int)] }
  ({ s1 with ths:=s1.ths++ [J6 main m d] },ev.sn [(6,0,(s.ths.length:Int))],0)
section
variable {u n:Int}
def Hi {n}(hn:n<σ.ths.length):σ.er.put n (σ.ths[n]).t=σ.er:=by
 unfold MC.er MS.put;rw [<-iF,eG]
def Zbq (l:List MTC)(T:MTC)(q:List HP):Le (stars (l.map mtH)::mtH T::q) (stars ((l++ [T]).map mtH)::q):=by
 exact Q4 mtH l T q
def Zgn (hX:CellsAt q xb xf (stC x))(hE:ME q K g m)(gc:GC q)(ge:GE q)(hk:Ho m=0)(hw:who<s.ths.length)(h8:s.ths.length<=100)(hsp:(s.th who).sp.length<=1000)(hl:ev.syn.length<=4000000000000)(hb:s.ths.length<8->BegOk g m x.er.slt):CF G 268 [pt p] (spH p K who ⟨xb,xf,none⟩ s ev::q) (RM p K who ⟨xb,xf,none⟩ (T6 g.main m x.er.slt s who ev) q):=by
 refine aE ntmps268 fun F cs=> ?_;have ⟨R,o⟩:=lV (T6 g.main m x.er.slt s who ev);rw [<-o];unfold T6 at o;have ⟨sl,w⟩:=lV x.er.slt;rw [<-w] at o hb;have i:Cl q ⟨xb,xf+22,none⟩ (I64 sl):=(by have:=hX 22 (I64 sl) (by rw [w];have ⟨kk,ln,cl,nm,wt,⟨ek,en,n0,k0,o0,m0,el,ea,ec⟩,⟨xk,xn,g0,xsl,h0,f0,xl,xa,xc⟩,bd,l0,ba,bc,q0,p0,id,sl,ot,i0⟩:=x;rfl);simpa using this);refine kL hw fun σ ga d e hs he=> ?_;subst hs he;rw [Y5 d] at hsp o;rw [gS] at h8 o hb
 refine Zp ?_ ?_<;>intro h1
 . rw [if_pos Zq] at o;refine Zz ?_;refine Vj (aG _) (Rk (z:=5)) ?_ ?_
   . rintro _ _ ⟨rfl,rfl⟩;exact cZ (q':=spH p K who ⟨xb,xf,none⟩ (σ.er.put who σ.ths[who].t) e.e::q) func268 (dZ (by rw [o,show σ.er.put who σ.ths[who].t=σ.er from Hi d];exact ⟨⟨(show (5:Int)≠0 by decide),rfl⟩,rfl⟩)) (U4 (σ:=σ) (ga:=ga) (x:=σ.ths[who]) (e:=e) d rfl rfl leA)
   rintro _ _ ⟨⟩
 have hB:=hb Zq;rw [if_neg Zq] at o;dsimp only at o;refine Zz ?_;refine Wb (Je (p:=p) (who:=who) (ga:=ga) (m:=σ.ths.length) (c:=σ.hc) clA clA d) ?_;refine Wb (Je (p:=p) (who:=who) (ga:=ga) (m:=σ.ths.length) (c:=σ.hc) clA clA d) ?_;refine ld ?_ (hc:=(cX (n:=who) (bJ _) leA Zr (show who<(σ.ths.set who σ.ths[who]).length by rw [aR];exact d) rfl 6 _ (by rw [aY];rfl)));refine Zz ?_;apply bU (Qd (u:=(σ.ths.length:Int)) I64 underlying23 Ts rfl rfl);rintro _ _ ⟨g2,rfl,rfl⟩;refine bU (Wu (f:=I64) (l:=σ.ths[who].t.sp) (m:= [(σ.ths.length:Int)]) underlying23 Ts rfl rfl rfl Zj ((bV _).le leA) (fun _=>rfl) (by simp [cI];omega) (by simp [cI];omega)) ?_;rintro _ _ ⟨a2,c2,rfl,rfl⟩;refine Zz ?_;refine cU (Wq (g:=ga) (f:=mtC) (l:=σ.ths.set who σ.ths[who]) (u:=({ σ.ths[who] with t:= { σ.ths[who].t with sp:=σ.ths[who].t.sp++ [(σ.ths.length:Int)] },sa:=a2,sc:=c2 } :MTC)) (n:=who) (k:=6) (j:=(who:Int)) rfl rfl sizeOf23 Zr rfl (by rw [aR];exact d) rfl (by rw [aY];rfl) rfl rfl Zj) ?_;rintro _ _ ⟨rfl,rfl⟩;rw [eV];obtain ⟨s2,r⟩: ∃ y,y=σ.er.put who (({ σ.ths[who] with t:= { σ.ths[who].t with sp:=σ.ths[who].t.sp++ [(σ.ths.length:Int)] },sa:=a2,sc:=c2 } :MTC)).t:=⟨_,rfl⟩;have a0:s2.ths.length=σ.ths.length:=(by rw [r,Vh,gS]);refine eN (q':=spH p K who ⟨xb,xf,none⟩ s2 e.e::(q++F)) (U4 (σ:=σ) (ga:=ga) (x:=({ σ.ths[who] with t:= { σ.ths[who].t with sp:=σ.ths[who].t.sp++ [(σ.ths.length:Int)] },sa:=a2,sc:=c2 } :MTC)) (e:=e) d r.symm rfl leA) ?_;have ⟨nl,d0⟩:=lV σ.ths.length;rw [<-d0] at h1 o a0 r|-;replace o:R=({ s2 with ths:=s2.ths++ [J6 g.main m sl] },e.e.sn [(6,0,(nl:Int))],0):=(by rw [r];exact o);have ⟨j0,v⟩:=lV e.e;rw [<-v] at hl o|-;clear v r;refine Iv fun a e3 c0 e0=> ?_;subst c0 e0;rw [gS] at a0
 refine Zz ?_;refine ldD 15 ?_ (hc:=(i.le leA));apply Wk 16 (aG _) (Xq (p:=p) (K:=K) (g:=g) (hE.le leA) (gc.le leA) (ge.le leA) clA clA hk hB.1 hB.2.1 hB.2.2.1 hB.in);rintro _ _ ⟨T,hT,rfl,rfl⟩;refine ⟨(hlA),?_⟩;apply eT 17 rfl (Yw mtC underlying125 Kt rfl rfl Zr rfl);rintro _ _ ⟨g4,rfl,rfl⟩;refine ⟨(hlA),?_⟩;refine eT 18 rfl (Z9 underlying125 Kt rfl rfl Zr rfl rfl Zj ((bJ _).le leA) Zqh (by simp [cI];omega) (by simp [cI];omega)) ?_;rintro _ _ ⟨a5,c5,rfl,rfl⟩;refine ⟨(hlA (h:=by repeat first|exact trivial|refine ⟨clA,?_⟩|refine ⟨(i.le leA),?_⟩)),?_⟩;refine Zz ?_;refine Zv (U7 (σ:=({ a with ths:=a.ths++ [T],ha:=a5,hc:=c5 } :MC)) (e:=e3) rfl rfl (aK (b:=stars ((a.ths++ [T]).map mtH)::_) (aK (bC Zj Zj) (Zbq _ _ _)) (by unfold mcL evL;exact leA))) (Kc hl) ?_;rintro _ _ rfl;refine Zm (spH p K who ⟨xb,xf,none⟩ (({ a with ths:=a.ths++ [T],ha:=a5,hc:=c5 } :MC)).er (e3.e.sn [(6,0,(nl:Int))])::q) ?_;exact (dC (by rw [o];exact ⟨rfl,by rw [<-hT];simp [MC.er]⟩))
end
def Yd (co:Int):List Int->MS->PEv->MS×PEv
 | [],s,ev=>(s,ev)
 |y::r,s,ev=>Yd co r (Hw s co y ev).1 (Hw s co y ev).2
def P3 (co:Int): ∀ (l r:List Int) (s:MS) (ev:PEv),Yd co (l++r) s ev=Yd co r (Yd co l s ev).1 (Yd co l s ev).2
 | [],_,_,_=>rfl
 |_::l,r,_,_=>by rw [bN,Yd,P3 co l r,Yd]
def P2 (co:Int): ∀ (l:List Int) (s:MS) (ev:PEv),(Yd co l s ev).1.ths.length=s.ths.length/\(Yd co l s ev).2.syn.length=ev.syn.length+l.length
 | [],_,_=>⟨rfl,rfl⟩
 |y::r,s,ev=>by
  have h:=P2 co r (Hw s co y ev).1 (Hw s co y ev).2;unfold Yd;rw [h.1,h.2];unfold Hw MS.put PEv.sn;simp;omega
def Ja (main:Int)(m:Mdl)(d:Int)(i:Ins)(s:MS)(who:Nat)(ev:PEv):MS×PEv×Int:=
 if i.c=24 then Ej s who i.a ev
 else if i.c=25 then Rs s who i.a ev
 else if i.c=26 then Cy s who i.a i.b ev
 else if i.c=27 then (if 0<=(Yc s.sy i.a).2.1 then ((Hw { s with sy:=(Yc s.sy i.a).1 } i.a (Yc s.sy i.a).2.1 ev).1,(Hw { s with sy:=(Yc s.sy i.a).1 } i.a (Yc s.sy i.a).2.1 ev).2,0) else ({ s with sy:=(Yc s.sy i.a).1 },ev,0))
 else if i.c=28 then ((Yd i.a (Hc s.sy i.a).2.1 { s with sy:=(Hc s.sy i.a).1 } ev).1,(Yd i.a (Hc s.sy i.a).2.1 { s with sy:=(Hc s.sy i.a).1 } ev).2,0)
 else if i.c=29 then ({ s.put who (s.th who).pop with sy:=(Qo s.sy i.a (Z4 (s.th who).stk)).1 },ev.sn [(4,i.a,max (Qo s.sy i.a (Z4 (s.th who).stk)).2.1 0)],0)
 else if i.c=30 then (({ s with sy:=(Qz s.sy i.a).1 } :MS).put who ((s.th who).push (Qz s.sy i.a).2.1),ev.sn [(5,i.a,max (Qz s.sy i.a).2.2.1 0)],0)
 else if i.c=31 then T6 main m d s who ev
 else if i.c=32 then (s,ev.sn ((s.th who).sp.map fun y=>(7,0,y)),0)
 else (s,ev,0)
structure IPre (g:FC) (m:Mdl) (d:Int) (i:Ins) (s:MS) (who:Nat) (ev:PEv) (N:Nat):Prop where
 w:who<s.ths.length
 h8:s.ths.length<=8
 sv: ∀ v∈(s.th who).stk,val v
 sl:(s.th who).stk.length<=1000
 y:s.sy.ok N
 n9:N<=1000000000
 la:ev.acc.length<=10000000
 ls:ev.syn.length<=3000000000000
 sg: ∀ k,0<=(Yc s.sy k).2.1->(Yc s.sy k).2.1.toNat<s.ths.length
 al: ∀ k,(Hc s.sy k).2.1.length<=1000000000/\ ∀ y∈(Hc s.sy k).2.1,0<=y/\y.toNat<s.ths.length
 sp:(s.th who).sp.length<=8
 pc: -1000000<=(s.th who).pc/\(s.th who).pc<=1000000
 n1:i.c=4\/i.c=5\/i.c=6\/i.c=8\/i.c=9\/i.c=20\/i.c=21\/i.c=22\/i.c=29\/i.c=33->1<=(s.th who).stk.length
 n2:i.c=7\/(10<=i.c/\i.c<=18)->2<=(s.th who).stk.length
 a3:i.c=3\/i.c=6->0<=i.a/\i.a<(s.th who).loc.length
 a2:i.c=2\/i.c=5->0<=i.a/\i.a<s.cells.length
 a4:i.c=4\/i.c=7->0<=i.a/\i.a<m.arrays.length
 cl:(s.cells.length:Int)=m.vars.length+Wy m.arrays
 b:i.c=31->s.ths.length<8->BegOk g m d
section
variable {u n:Int}
def Zwx (hX:CellsAt q xb xf (stC x))(hE:ME q K g m)(gc:GC q)(ge:GE q)(hk:Ho m=0)(hI:IPre g m x.er.slt i s who ev N):CF G 214 [pt p,.agg (Y7 i).toArray] (spH p K who ⟨xb,xf,none⟩ s ev::q) (RM p K who ⟨xb,xf,none⟩ (Ja g.main m x.er.slt i s who ev) q):=by
 refine aE ntmps214 fun F cs=> ?_;obtain ⟨R,a⟩:=lV (Ja g.main m x.er.slt i s who ev);rw [<-a];unfold Ja at a;obtain ⟨o,d,ib,c0⟩:=i;dsimp only at a;have hw:=hI.w;have f:=hI.y;have hN:=hI.n9;have a1:=hI.ls;have h8:=hI.h8;have y0:o=24\/o=25\/o=26\/o=27\/o=28\/o=29\/o=30\/o=31\/o=32\/(¬o=24/\ ¬o=25/\ ¬o=26/\ ¬o=27/\ ¬o=28/\ ¬o=29/\ ¬o=30/\ ¬o=31/\ ¬o=32):=Zq;rcases y0 with rfl|rfl|rfl|rfl|rfl|rfl|rfl|rfl|rfl|⟨w0,v0,u0,t0,s0,r0,q0,p0,o0⟩
 focus
  rw [if_pos rfl] at a;refine Yb fun n1=> ?_
  refine Zz ?_;refine Vj Zj (Zjc (n:=d) f hN Zq) ?_ ?_
  . rintro _ _ ⟨⟨h2,rfl⟩,rfl⟩;exact cZ func214 (dZ (by rw [a];exact ⟨⟨h2,rfl⟩,rfl⟩))
 rotate_left
 focus
  rw [if_neg Zw,if_pos rfl] at a;refine Yb fun n1=> ?_
  refine Zz ?_;refine Vj Zj (Zjt (n:=d) f hN Zq) ?_ ?_
  . rintro _ _ ⟨⟨h2,rfl⟩,rfl⟩;exact cZ func214 (dZ (by rw [a];exact ⟨⟨h2,rfl⟩,rfl⟩))
 rotate_left
 focus
  rw [if_neg Zw,if_neg Zw,if_pos rfl] at a;refine Yb fun n1=> ?_
  refine Zz ?_;refine Vj Zj (mwait_ok (n:=d) (k:=ib) f hN Zq hw (by have:=hI.pc;omega)) ?_ ?_
  . rintro _ _ ⟨⟨h2,rfl⟩,rfl⟩;exact cZ func214 (dZ (by rw [a];exact ⟨⟨h2,rfl⟩,rfl⟩))
 rotate_left
 . rw [if_neg Zw,if_neg Zw,if_neg Zw,if_pos rfl] at a;refine Td fun σ e hs he=> ?_;subst hs he
   have d0:=hI.sg d;rw [show σ.er.sy=σ.sy from rfl] at a d0 f;obtain ⟨SG,n0⟩:=lV (Yc σ.sy d);rw [<-n0] at a d0;refine Yb fun n1=> ?_
   refine Zz ?_;apply Q2 7 (Signal_Y (k:=d) f Zq);refine kc0 ?_;rw [<-n0];refine Wg ?_ ?_<;>intro h1
   . replace h1:0<=SG.2.1:=(by simpa using h1);rw [if_pos h1] at a;obtain ⟨J,hJ⟩:=aU h1;refine Zz ?_;apply aX 60 (Ad J) rfl (by rw [hJ,lF Zq]);refine Zv (U7 (σ:=({ σ with sy:=SG.1 } :MC)) (e:=e) rfl rfl (by unfold mcL evL;exact leA)) (Zjn (s:=(({ σ with sy:=SG.1 } :MC)).er) (ev:=e.e) (c:=J) (k:=d) (by rw [hJ] at d0;have:=d0 Zq;rw [cG] at this;exact this) Zq) ?_;rintro _ _ rfl;refine Zg ?_;exact ⟨_,(dC (by rw [a,hJ];exact ⟨rfl,rfl⟩)),leA⟩
   replace h1: ¬0<=SG.2.1:=(by simpa using h1);rw [if_neg h1] at a;refine Zm (spH p K who ⟨xb,xf,none⟩ (({ σ with sy:=SG.1 } :MC)).er e.e::q) ?_ (hq:=(U7 (σ:=({ σ with sy:=SG.1 } :MC)) (e:=e) rfl rfl (by unfold mcL evL;exact leA)));exact (dC (by rw [a];exact ⟨rfl,rfl⟩))
 . rw [if_neg Zw,if_neg Zw,if_neg Zw,if_neg Zw,if_pos rfl] at a;refine Td fun σ e hs he=> ?_;subst hs he
   have b0:=hI.al d;rw [show σ.er.sy=σ.sy from rfl] at a b0 f;obtain ⟨A,hA⟩:=lV (Hc σ.sy d);rw [<-hA] at a b0;rw [gS] at b0;obtain ⟨z,i0⟩:=lV (({ σ with sy:=A.1 } :MC)).er;have z0:z.ths.length=σ.ths.length:=(by rw [i0];exact gS _);replace a:R=((Yd d A.2.1 z e.e).1,(Yd d A.2.1 z e.e).2,0):=(by rw [i0];exact a);refine Yb fun n1=> ?_
   refine Zz ?_;apply Q2 7 (All_Y (k:=d) f Zq);refine kd2 fun a' c'=> ?_
   refine ⟨trivial,?_⟩;rw [<-hA];refine Zz ?_;refine cH (bW (fun (s:Nat)=>s<=A.2.1.length) (fun s=> [(0,pt p),(3,pt n1),(75,.slice a' A.2.1.length c'),(76,I64 (A.2.1.length:Int)),(77,I64 s)]) (fun s=>spH p K who ⟨xb,xf,none⟩ (Yd d (A.2.1.take s) z e.e).1 (Yd d (A.2.1.take s) z e.e).2::lsH I64 3 a' c' A.2.1::pC n1 (Y7 ⟨28,d,ib,c0⟩) 222::(q++F)) (fun s=>A.2.1.length - s) (fun s a0 ih=> ?_) 0 (aZ _)) Z5 (U7 (σ:=({ σ with sy:=A.1 } :MC)) (e:=e) i0.symm rfl (by unfold mcL evL;exact leA));try dsimp only at a0 ih|-
   obtain hi:=a0;refine Zp ?_ ?_<;>intro h0
   . have v:s<A.2.1.length:=Zq;have hj:=b0.2 _ (aC v);have j0:=P2 d (A.2.1.take s) z e.e;rw [bB] at j0;obtain ⟨J,hJ⟩:=aU hj.1;refine Uz (l:=A.2.1) Zq fun gl e_=> ?_;have hr: ∀ r,Sees (lsH I64 3 a' c' A.2.1::r) (some ⟨gl,0,none⟩) (A.2.1.map I64):=fun r=>by rw [<-e_];exact bV r
     refine Zz ?_;refine ld ?_ (hc:=(((hr _).le leA).at Zq v));apply aX 80 (Ad J) rfl (by rw [<-hJ]);refine Zz ?_;refine Zv leA (Zjn (s:=(Yd d (A.2.1.take s) z e.e).1) (ev:=(Yd d (A.2.1.take s) z e.e).2) (c:=J) (k:=d) (q:=lsH I64 3 a' c' A.2.1::pC n1 (Y7 ⟨28,d,ib,c0⟩) 222::(q++F)) (by rw [j0.1,z0];have:=hj.2;rw [hJ] at this;simpa using this) (by rw [j0.2];have:=b0.1;omega)) ?_;rintro _ _ rfl;refine Zz ?_;apply fQ 75 (.slice a' A.2.1.length c') rfl (by rw [<-e_]);rw [show Hw (Yd d (A.2.1.take s) z e.e).1 d J (Yd d (A.2.1.take s) z e.e).2=(Yd d (A.2.1.take (s+1)) z e.e) by rw [aM v,P3,<-hJ];rfl];refine Zs (ih (s+1) Zq Zq)
   obtain rfl:s=A.2.1.length:=Zq;rw [bR];refine Zg ?_;exact ⟨_,(dC (by rw [a];exact ⟨rfl,rfl⟩)),leA⟩
 . rw [if_neg Zw,if_neg Zw,if_neg Zw,if_neg Zw,if_neg Zw,if_pos rfl] at a;have l0:=hI.n1 Zy;have k0:=hI.sl;refine kL hw fun σ ga h e hs he=> ?_;subst hs he;have g0:=Y5 h;rw [g0] at l0 k0 a;rw [show σ.er.sy=σ.sy from rfl] at a f
   refine Yb fun n1=> ?_
   refine Zz ?_;refine Wk 8 leA (Sj (K:=K) (xa:=⟨xb,xf,none⟩) (σ:=σ) (ga:=ga) (x:=σ.ths[who]) (e:=e) (q:=pC n1 (Y7 ⟨29,d,ib,c0⟩) 222::(q++F)) h ⟨l0,Zq⟩) ?_;refine kk0 ?_;apply Q2 9 (Send_Y (k:=d) (t:=Z4 σ.ths[who].t.stk) f Zq);refine kc0 ?_;refine Zz ?_;apply Zv (U4 (σ:=({ σ with sy:=(Qo σ.sy d (Z4 σ.ths[who].t.stk)).1 } :MC)) (ga:=ga) (x:=({ σ.ths[who] with t:=σ.ths[who].t.pop } :MTC)) (e:=e) h rfl rfl leA) (Kc (s:=(({ σ with sy:=(Qo σ.sy d (Z4 σ.ths[who].t.stk)).1 } :MC)).er.put who (({ σ.ths[who] with t:=σ.ths[who].t.pop } :MTC)).t) (ev:=e.e) (k:=4) (sl:=d) (ot:=max (Qo σ.sy d (Z4 σ.ths[who].t.stk)).2.1 0) Zq);rintro _ _ rfl;refine Zg ?_;exact ⟨_,(dC (by rw [a];exact ⟨rfl,rfl⟩)),leA⟩
 . rw [if_neg Zw,if_neg Zw,if_neg Zw,if_neg Zw,if_neg Zw,if_neg Zw,if_pos rfl] at a;refine Td fun σ e hs he=> ?_;subst hs he
   rw [show σ.er.sy=σ.sy from rfl] at a f;obtain ⟨A,hA⟩:=lV (Qz σ.sy d);rw [<-hA] at a;have k0:=hI.sl;refine Yb fun n1=> ?_
   refine Zz ?_;apply Q2 7 (Recv_Y (k:=d) f Zq);refine kc0 ?_;rw [<-hA];refine Zz ?_;refine Zv (U7 (σ:=({ σ with sy:=A.1 } :MC)) (e:=e) rfl rfl (by unfold mcL evL;exact leA)) (By (s:=(({ σ with sy:=A.1 } :MC)).er) (ev:=e.e) (u:=A.2.1) (q:=pC n1 (Y7 ⟨30,d,ib,c0⟩) 222::(q++F)) hw (by have:((({ σ with sy:=A.1 } :MC)).er.th who).stk=(σ.er.th who).stk:=rfl;rw [this];omega)) ?_;rintro _ _ rfl;refine Zz ?_;apply Zv Zj (Kc (k:=5) (sl:=d) (ot:=max A.2.2.1 0) Zq);rintro _ _ rfl;refine Zg ?_;exact ⟨_,(dC (by rw [a];exact ⟨rfl,rfl⟩)),leA⟩
 focus
  rw [if_neg Zw,if_neg Zw,if_neg Zw,if_neg Zw,if_neg Zw,if_neg Zw,if_neg Zw,if_pos rfl] at a;refine Yb fun n1=> ?_
  refine Zz ?_;refine Vj Zj (Zgn (x:=x) (hX.le leA) (hE.le leA) (gc.le leA) (ge.le leA) hk hw Zq (by have:=hI.sp;omega) Zq (hI.b rfl)) ?_ ?_
  . rintro _ _ ⟨⟨h2,rfl⟩,rfl⟩;exact cZ func214 (dZ (by rw [a];exact ⟨⟨h2,rfl⟩,rfl⟩))
 rotate_left
 . rw [if_neg Zw,if_neg Zw,if_neg Zw,if_neg Zw,if_neg Zw,if_neg Zw,if_neg Zw,if_neg Zw,if_pos rfl] at a;have f0:=hI.sp;refine kL hw fun σ ga h e hs he=> ?_;subst hs he;rw [Y5 h] at f0 a;rw [show σ.er=σ.er.put who (σ.ths[who]).t from (Hi h).symm] at a;obtain ⟨L,hL⟩:=lV σ.ths[who].t.sp;rw [<-hL] at f0 a
   refine Yb fun n1=> ?_
   refine Zz ?_;refine Wb (Je (p:=p) (who:=who) (ga:=ga) (m:=σ.ths.length) (c:=σ.hc) clA clA h) ?_;refine ld ?_ (hc:=(cX (n:=who) (bJ _) leA Zr (show who<(σ.ths.set who σ.ths[who]).length by rw [aR];exact h) rfl 6 _ (by rw [aY];rfl)));apply aX 141 (.slice σ.ths[who].sa L.length σ.ths[who].sc) rfl (by rw [hL]);refine Zs (bW (fun (s:Nat×EvC)=>s.1<=L.length/\s.2.e=e.e.sn ((L.take s.1).map fun y=>(7,0,y))) (fun s=> [(0,pt p),(141,.slice σ.ths[who].sa L.length σ.ths[who].sc),(142,I64 L.length),(143,I64 (s.1:Int))]) (fun s=>msF p K who ⟨xb,xf,none⟩ σ ga σ.ths[who] s.2 (q++F)) (fun s=>L.length - s.1) (fun s a0 ih=> ?_) (0,e) ⟨aZ _,by simp [PEv.sn]⟩);try dsimp only at a0 ih|-
   obtain ⟨b1,e0⟩:=a0;obtain ⟨j,e2⟩:=s;dsimp only at*;refine Zp ?_ ?_<;>intro h0
   . have v:j<L.length:=Zq;have m0:j<σ.ths[who].t.sp.length:=(by rw [<-hL];exact v);refine Uz (l:=σ.ths[who].t.sp) Zq fun gl e_=> ?_;have hr: ∀ r,Sees (lsH I64 3 σ.ths[who].sa σ.ths[who].sc σ.ths[who].t.sp::r) (some ⟨gl,0,none⟩) (σ.ths[who].t.sp.map I64):=fun r=>by rw [<-e_];exact bV r
     refine Zz ?_;refine ld ?_ (hc:=(((hr _).le leA).at Zq m0));refine Zz ?_;refine Zv (bC Zj Zj) (Sk (K:=K) (xa:=⟨xb,xf,none⟩) (σ:= { σ with ha:=some ⟨ga,0,none⟩ }) (e:=e2) (k:=7) (sl:=0) (ot:=σ.ths[who].t.sp[j]) (by rw [e0];unfold PEv.sn;simp only [aA,aI,bB];omega)) ?_;rintro _ _ ⟨e3,⟨k1,k2,k3⟩,rfl⟩;refine Zz ?_;apply fQ 141 (.slice σ.ths[who].sa L.length σ.ths[who].sc) rfl (by rw [<-e_]);refine cH (ih (j+1,e3) ⟨Zy,by dsimp only;rw [k1,e0];unfold PEv.sn;simp only [aM v,aN,bG,dF,aO];simp only [hL]⟩ Zy) Z5 (by dsimp only;unfold msF;rw [k2,k3,show e3.e.acc=e2.e.acc by rw [k1];rfl];exact leA)
   obtain rfl:j=L.length:=Zq;rw [bR] at e0;refine Zm (spH p K who ⟨xb,xf,none⟩ (σ.er.put who (σ.ths[who]).t) e2.e::q) ?_ (hq:=(U4 (σ:=σ) (ga:=ga) (x:=σ.ths[who]) (e:=e2) h rfl rfl leA));exact (dC (by rw [a];exact ⟨rfl,by rw [e0]⟩))
 . rw [if_neg Zq,if_neg Zq,if_neg Zq,if_neg Zq,if_neg Zq,if_neg Zq,if_neg Zq,if_neg Zq,if_neg Zq] at a;refine Yb fun n1=> ?_
   refine rn [4,0,7] ?_;refine Wc 22 ?_ rfl ((bM w0));apply xx 6;refine Wc 28 ?_ rfl ((bM v0));apply xx 6;refine Wc 34 ?_ rfl ((bM u0));apply xx 6;refine Wc 42 ?_ rfl ((bM t0));apply xx 6;refine Wc 62 ?_ rfl ((bM s0));apply xx 6;refine Wc 87 ?_ rfl ((bM r0));apply xx 6;refine Wc 108 ?_ rfl ((bM q0));apply xx 6;refine Wc 131 ?_ rfl ((bM p0));apply xx 6;refine Wc 135 ?_ rfl ((bM o0));refine Zg ?_;exact ⟨_,(dC (by rw [a];exact ⟨rfl,rfl⟩)),leA⟩
 all_goals
  rintro _ _ ⟨h2,rfl⟩;refine Zg ?_;exact ⟨_,(dC ⟨by rw [a];exact h2,rfl⟩),(by rw [a];exact leA)⟩
end
def Ev (m:Mdl)(a u:Int):Int:=m.vars.length+Wy (m.arrays.take a.toNat)+u
def inA (m:Mdl)(a u:Int):Prop:=0<=u/\u<m.arrays.getD a.toNat 0
instance (m:Mdl) (a u:Int):Decidable (inA m a u):=by unfold inA;infer_instance
def Hn (main:Int)(m:Mdl)(kd d:Int)(i:Ins)(s:MS)(who:Nat)(ev:PEv):MS×PEv×Int:=
 if i.c=1 then (s.put who ((s.th who).push i.n),ev,0)
 else if i.c=3 then (s.put who ((s.th who).push ((s.th who).loc.getD i.a.toNat 0)),ev,0)
 else if i.c=6 then (s.put who { (s.th who).pop with loc:=(s.th who).loc.set i.a.toNat (Z4 (s.th who).stk) },ev,0)
 else if i.c=2 then (s.put who ((s.th who).push (s.cells.getD i.a.toNat 0)),ev.ac [(i.a,false,s.cells.getD i.a.toNat 0)],0)
 else if i.c=5 then ({ s.put who (s.th who).pop with cells:=s.cells.set i.a.toNat (Z4 (s.th who).stk) },ev.ac [(i.a,true,Z4 (s.th who).stk)],0)
 else if i.c=4 then (if inA m i.a (Z4 (s.th who).stk) then (s.put who ((s.th who).pop.push (s.cells.getD (Ev m i.a (Z4 (s.th who).stk)).toNat 0)),ev.ac [(Ev m i.a (Z4 (s.th who).stk),false,s.cells.getD (Ev m i.a (Z4 (s.th who).stk)).toNat 0)],0) else (s.put who (s.th who).pop,ev,3))
 else if i.c=7 then (if inA m i.a (Z4 (s.th who).pop.stk) then ({ s.put who (s.th who).pop.pop with cells:=s.cells.set (Ev m i.a (Z4 (s.th who).pop.stk)).toNat (Z4 (s.th who).stk) },ev.ac [(Ev m i.a (Z4 (s.th who).pop.stk),true,Z4 (s.th who).stk)],0) else (s.put who (s.th who).pop.pop,ev,3))
 else if i.c=8 then (if val (-Z4 (s.th who).stk) then (s.put who ((s.th who).pop.push (-Z4 (s.th who).stk)),ev,0) else (s.put who (s.th who).pop,ev,2))
 else if i.c=9 then (s.put who ((s.th who).pop.push (He (decide (Z4 (s.th who).stk=0)))),ev,0)
 else if i.c=22 then (s.put who ((s.th who).pop.push (He (decide (Z4 (s.th who).stk≠0)))),ev,0)
 else if i.c=19\/i.c=20\/i.c=21 then (s.put who (Cc i (s.th who)),Tp kd i (s.th who) ev,0)
 else if 10<=i.c/\i.c<=18 then (if (Uf (i.c - 7) (Z4 (s.th who).pop.stk) (Z4 (s.th who).stk)).2=0 then (s.put who ((s.th who).pop.pop.push (Uf (i.c - 7) (Z4 (s.th who).pop.stk) (Z4 (s.th who).stk)).1),ev,0) else (s.put who (s.th who).pop.pop,ev,(Uf (i.c - 7) (Z4 (s.th who).pop.stk) (Z4 (s.th who).stk)).2))
 else if i.c=33 then (s.put who (s.th who).pop, { ev with told:=true,outv:=Z4 (s.th who).stk },0)
 else Ja main m d i s who ev
def Up {l}(h:1<=l.length):Z4 l∈l:=by
 unfold Z4;rw [aH,aB Zq];exact aC _
def T8 (t:MTh):t.pop.stk.length=t.stk.length - 1:=by unfold MTh.pop;rw [bB];omega
def mt_same {x y}{ty}(hn:n<l.length)(h:mtC x=mtC y):rsH mtC 7 ty a c (l.set n x)=rsH mtC 7 ty a c (l.set n y):=by
 have e:(l.set n x).flatMap mtC=(l.set n y).flatMap mtC:=by rw [List.flatMap_def,List.flatMap_def,iF,iF,h]
 unfold rsH;rw [e,aR,aR]
def sumI_ta {l}(h: ∀ x∈l,0<=x): ∀ {n} (_:n<l.length),Wy (l.take n)+l.getD n 0<=Wy l/\0<=Wy (l.take n):=by
 induction l with
 |nil=>intro n a;simp at a
 |cons x r ih=>
  intro n a;have e:=h x (bO ..);have b: ∀ y∈r,0<=y:=fun y d=>h y (bQ _ d)
  have f:0<=Wy r:=by
   clear ih a h
   induction r with
   |nil=>simp [Wy]
   |cons y r ih2=>have:=b y (bO ..);have:=ih2 fun z c=>b z (bQ _ c);simp only [Wy,iU] at*;omega
  cases n with
  |zero=>simp only [Wy,fY,List.foldr_nil,iU,eS] at*;omega
  |succ n=>have:=ih b (n:=n) (by simpa using a);simp only [Wy,lM,iU,iI] at*;omega
def Zbs {A}{u}(ok:Nd m)(hA:A<m.arrays.length)(hu:0<=u/\u<m.arrays.getD A 0)(hn:(n:Int)=m.vars.length+Wy m.arrays): ∃ C:Nat,(m.vars.length:Int)+Wy (m.arrays.take A)+u=C/\C<n:=by
 have h:=sumI_ta (fun x a=>(ok.2.2.2.1.2 x a).1) hA;obtain ⟨C,b⟩:=aU (show 0<=(m.vars.length:Int)+Wy (m.arrays.take A)+u by omega);exact ⟨C,b,Zq⟩
section
variable {u n:Int}
abbrev Ax (v0:MS)(v1:Nat):=(v0.put v1 (v0.th v1).pop)
def mins_ok (hX:CellsAt q xb xf (stC x))(hE:ME q K g m)(gc:GC q)(ge:GE q)(hk:Ho m=0)(hI:IPre g m x.er.slt i s who ev N):CF G 141 [pt p,.agg (Y7 i).toArray] (spH p K who ⟨xb,xf,none⟩ s ev::q) (RM p K who ⟨xb,xf,none⟩ (Hn g.main m x.er.kd x.er.slt i s who ev) q):=by
 refine aE ntmps141 fun F cs=> ?_;obtain ⟨R,j⟩:=lV (Hn g.main m x.er.kd x.er.slt i s who ev);rw [<-j];unfold Hn at j;obtain ⟨b,ia,ib,h0⟩:=i;dsimp only at j;have o:=hI.w;have f1:=hI.sl;have g1:=hI.la;have ok:=Zza hk;obtain ⟨t,ht⟩:=lV (s.th who);have a0:=hI.sv;have p0:=hI.cl;rw [<-ht] at j f1 a0;have m0:b=3\/b=6\/(¬b=3/\ ¬b=6):=Zq;rcases m0 with rfl|rfl|⟨o3,o6⟩
 . rw [if_neg Zq,if_pos rfl] at j;refine kL o fun σ ga d e hs he=> ?_;subst hs he;have f0:=Y5 d;rw [<-ht] at f0;subst f0
   have y:=hI.a3 Zy;dsimp only at y;rw [Y5 d] at y;obtain ⟨A,rfl⟩:=aU y.1;replace y:A<σ.ths[who].t.loc.length:=Zq;refine Uz (l:=σ.ths[who].t.loc) Zq fun gl e_=> ?_;have i0: ∀ r,Sees (lsH I64 2 σ.ths[who].la σ.ths[who].lc σ.ths[who].t.loc::r) (some ⟨gl,0,none⟩) (σ.ths[who].t.loc.map I64):=fun r=>by rw [<-e_];exact bV r
   refine Yb fun n1=> ?_
   refine Zz ?_;refine Wb (Je (p:=p) (who:=who) (ga:=ga) (m:=σ.ths.length) (c:=σ.hc) clA clA d) ?_;refine ldD 4 ?_ (hc:=(cX (n:=who) (bJ _) leA Zr (show who<(σ.ths.set who σ.ths[who]).length by rw [aR];exact d) rfl 4 _ (by rw [aY];rfl)));refine Zz ?_;apply dW 31 (Ad A) rfl (rfl);refine rf [3029,8] e_ ?_;refine ldD 8 ?_ (hc:=(((i0 _).le leA).at Zq y));refine dW 33 (I64 (σ.ths[who].t.loc.getD A 0)) rfl (by rw [aH,aB y];rfl) ?_;refine Wk 9 leA (O8 (K:=K) (xa:=⟨xb,xf,none⟩) (σ:=σ) (ga:=ga) (x:=σ.ths[who]) (e:=e) (u:=σ.ths[who].t.loc.getD A 0) (q:=pC n1 (Y7 ⟨3,(A:Int),ib,h0⟩) 222::(q++F)) d Zq) ?_;rintro _ _ ⟨a9,c9,rfl⟩;refine ⟨(hlA (h:=by repeat first|exact trivial|refine ⟨clA,?_⟩|refine ⟨(cX (n:=who) (bJ _) leA Zr (show who<(σ.ths.set who σ.ths[who]).length by rw [aR];exact d) rfl 4 _ (by rw [aY];rfl)),?_⟩|refine ⟨(cX (n:=who) (bJ _) leA Zr (show who<(σ.ths.set who ({ σ.ths[who] with t:=σ.ths[who].t.push (σ.ths[who].t.loc.getD A 0),ta:=a9,tc:=c9 } :MTC)).length by rw [aR];exact d) rfl 4 _ (by rw [aY];rfl)),?_⟩|refine ⟨((i0 _).le leA).at Zq y,?_⟩)),?_⟩;refine Zm (spH p K who ⟨xb,xf,none⟩ (σ.er.put who (σ.ths[who].t.push (σ.ths[who].t.loc.getD A 0))) e.e::q) ?_ (hq:=(U4 (σ:=σ) (ga:=ga) (x:= { σ.ths[who] with t:=σ.ths[who].t.push (σ.ths[who].t.loc.getD A 0),ta:=a9,tc:=c9 }) (e:=e) d rfl rfl leA));exact (dC (by rw [j];exact ⟨rfl,rfl⟩))
 . rw [if_neg Zq,if_neg Zq,if_pos rfl] at j;refine kL o fun σ ga d e hs he=> ?_;subst hs he;have f0:=Y5 d;rw [<-ht] at f0;subst f0
   have y:=hI.a3 Zy;dsimp only at y;rw [Y5 d] at y;obtain ⟨A,rfl⟩:=aU y.1;replace y:A<σ.ths[who].t.loc.length:=Zq;have v:=hI.n1 Zy;rw [Y5 d] at v;refine Uz (l:=σ.ths[who].t.loc) Zq fun gl e_=> ?_;have i0: ∀ r,Sees (lsH I64 2 σ.ths[who].la σ.ths[who].lc σ.ths[who].t.loc::r) (some ⟨gl,0,none⟩) (σ.ths[who].t.loc.map I64):=fun r=>by rw [<-e_];exact bV r
   refine Yb fun n1=> ?_
   refine Zz ?_;refine Wb (Je (p:=p) (who:=who) (ga:=ga) (m:=σ.ths.length) (c:=σ.hc) clA clA d) ?_;refine ldD 3 ?_ (hc:=(cX (n:=who) (bJ _) leA Zr (show who<(σ.ths.set who σ.ths[who]).length by rw [aR];exact d) rfl 4 _ (by rw [aY];rfl)));refine Zz ?_;refine Wk 7 leA (Sj (K:=K) (xa:=⟨xb,xf,none⟩) (σ:=σ) (ga:=ga) (x:=σ.ths[who]) (e:=e) (q:=pC n1 (Y7 ⟨6,(A:Int),ib,h0⟩) 222::(q++F)) d ⟨v,Zq⟩) ?_;rintro _ _ ⟨rfl,rfl⟩;refine ⟨(hlA (h:=by repeat first|exact trivial|refine ⟨clA,?_⟩|refine ⟨(cX (n:=who) (bJ _) leA Zr (show who<(σ.ths.set who σ.ths[who]).length by rw [aR];exact d) rfl 4 _ (by rw [aY];rfl)),?_⟩|refine ⟨(cX (n:=who) (bJ _) leA Zr (show who<(σ.ths.set who ({ σ.ths[who] with t:=σ.ths[who].t.pop } :MTC)).length by rw [aR];exact d) rfl 4 _ (by rw [aY];rfl)),?_⟩|refine ⟨((i0 _).le leA).at Zq y,?_⟩)),?_⟩;apply dW 42 (Ad A) rfl (rfl);refine rf [3040,9] e_ ?_;refine XD.le (q':=lsH I64 2 (some ⟨gl,0,none⟩) σ.ths[who].lc σ.ths[who].t.loc::_) (by rw [<-e_];exact Zj) ?_;apply gL 9 rfl (Mh (f:=I64) (l:=σ.ths[who].t.loc) (n:=A) (u:=Z4 σ.ths[who].t.stk) rfl rfl sizeOf2 rfl y rfl rfl Zj);refine kk0 ?_;refine Zm (spH p K who ⟨xb,xf,none⟩ (σ.er.put who (({ σ.ths[who] with t:= { σ.ths[who].t.pop with loc:=σ.ths[who].t.loc.set A (Z4 σ.ths[who].t.stk) },la:=some ⟨gl,0,none⟩ } :MTC)).t) e.e::q) ?_ (hq:=(U4 (σ:=σ) (ga:=ga) (x:=({ σ.ths[who] with t:= { σ.ths[who].t.pop with loc:=σ.ths[who].t.loc.set A (Z4 σ.ths[who].t.stk) },la:=some ⟨gl,0,none⟩ } :MTC)) (e:=e) d rfl rfl (by unfold msF;rw [show rsH mtC 7 147 (some ⟨ga,0,none⟩) σ.hc (σ.ths.set who ({ σ.ths[who] with t:= { σ.ths[who].t.pop with loc:=σ.ths[who].t.loc.set A (Z4 σ.ths[who].t.stk) },la:=some ⟨gl,0,none⟩ } :MTC))=rsH mtC 7 147 (some ⟨ga,0,none⟩) σ.hc (σ.ths.set who { σ.ths[who] with t:=σ.ths[who].t.pop }) from mt_same d (by unfold mtC MTh.pop;simp only [aR];rw [<-e_])];exact leA)));exact (dC (by rw [j];exact ⟨rfl,rfl⟩))
 refine kL o fun σ ga d e hs he=> ?_;have f0:=Y5 d;rw [hs,<-ht] at f0;subst ht
 refine Yb fun n1=> ?_
 refine Zz ?_;apply bD (Je (p:=p) (who:=who) (ga:=ga) (m:=σ.ths.length) (c:=σ.hc) clA clA d);refine eN (q':=spH p K who ⟨xb,xf,none⟩ s ev::pC n1 (Y7 ⟨b,ia,ib,h0⟩) 222::(q++F)) (U4 (σ:=σ) (ga:=ga) (x:=σ.ths[who]) (e:=e) d (by rw [Hi d];exact hs) he leA) ?_;clear hs he f0 d;refine Zz ?_;have m0:b=1\/b=2\/b=5\/b=4\/b=7\/b=8\/b=9\/b=22\/19<=b/\b<=21\/10<=b/\b<=18\/b=33\/(¬b=1/\ ¬b=2/\ ¬b=5/\ ¬b=4/\ ¬b=7/\ ¬b=8/\ ¬b=9/\ ¬b=22/\ ¬b=19/\ ¬b=20/\ ¬b=21/\ ¬b=10/\ ¬b=11/\ ¬b=12/\ ¬b=13/\ ¬b=14/\ ¬b=15/\ ¬b=16/\ ¬b=17/\ ¬b=18/\ ¬b=33):=Zq;rcases m0 with rfl|rfl|rfl|rfl|rfl|rfl|rfl|rfl|hg|hg|rfl|⟨o1,o2,o5,o4,o7,o8,o9,r0,u0,t0,s0,d1,c1,b1,a1,z0,y0,x0,w0,v0,q0⟩
 . rw [if_pos rfl] at j;refine Zz ?_;apply Zv Zj (By (s:=s) (ev:=ev) (u:=h0) o Zq);rintro _ _ rfl;refine Zg ?_;exact ⟨_,(dC (by rw [j];exact ⟨rfl,rfl⟩)),leA⟩
 . rw [if_neg Zq,if_neg Zq,if_neg Zq,if_pos rfl] at j;have e0:=hI.a2 Zy;dsimp only at e0;obtain ⟨A,rfl⟩:=aU e0.1;replace e0:A<s.cells.length:=Zq;refine Zz ?_;apply Zv Zj (Zjp (s:=s) (ev:=ev) (n:=A) o e0 Zq Zq);rintro _ _ rfl;refine Zg ?_;exact ⟨_,(dC ⟨by rw [j],rfl⟩),(by rw [j];exact leA)⟩
 . rw [if_neg Zq,if_neg Zq,if_neg Zq,if_neg Zq,if_pos rfl] at j;have v:=hI.n1 Zy;have c0:=a0 _ (Up v);have e0:=hI.a2 Zy;dsimp only at e0;obtain ⟨A,rfl⟩:=aU e0.1;replace e0:A<s.cells.length:=Zq;refine Zz ?_;refine Wk 4 Zj (Q9 (s:=s) (ev:=ev) o ⟨Zq,Zq⟩) ?_;refine kk0 ?_;apply Wk 5 Zj (O6 (s:=(Ax s who)) (ev:=ev) (n:=A) (u:=Z4 (s.th who).stk) e0 Zq);rintro _ _ rfl;refine ⟨trivial,?_⟩;refine Zg ?_;exact ⟨_,(dC ⟨by rw [j],rfl⟩),(by rw [j];exact leA)⟩
 . rw [if_neg Zq,if_neg Zq,if_neg Zq,if_neg Zq,if_neg Zq,if_pos rfl] at j;have v:=hI.n1 Zy;have c0:=a0 _ (Up v);have b0:=hI.a4 Zy;dsimp only at b0;obtain ⟨A,rfl⟩:=aU b0.1;replace b0:A<m.arrays.length:=Zq;refine Zz ?_;refine Wk 5 Zj (Q9 (s:=s) (ev:=ev) o ⟨Zq,Zq⟩) ?_;refine kk0 ?_;refine XD.cP 6 Zj (O9 (s:=(Ax s who)) (ev:=ev) (a:=A) (u:=Z4 (s.th who).stk) (K:=K) (g:=g) (m:=m) (hE.le leA) ok b0) ?_ ?_ trivial
   . rintro _ _ ⟨⟨g0,rfl⟩,rfl⟩;exact cZ (q':=spH p K who ⟨xb,xf,none⟩ (Ax s who) ev::q) func141 (dZ (by rw [j,if_neg (show ¬inA m A (Z4 (s.th who).stk) from g0)];exact ⟨⟨(show (3:Int)≠0 by decide),rfl⟩,rfl⟩))
   rintro _ _ ⟨⟨d0,rfl⟩,rfl⟩;refine ⟨trivial,?_⟩;obtain ⟨C,hC,n0⟩:=Zbs (n:=s.cells.length) ok b0 d0 p0;rw [if_pos (show inA m A (Z4 (s.th who).stk) from d0),show Ev m A (Z4 (s.th who).stk)=(C:Int) from hC] at j;rw [hC];refine Wk 7 Zj (Zjp (s:=(Ax s who)) (ev:=ev) (n:=C) (by rw [Vh];exact o) n0 Zq (by rw [V6 o,T8];omega)) ?_;rintro _ _ rfl;refine ⟨trivial,?_⟩;rw [V6 o,Jg];refine Zg ?_;exact ⟨_,(dC ⟨by rw [j],rfl⟩),(by rw [j];exact leA)⟩
 . rw [if_neg Zq,if_neg Zq,if_neg Zq,if_neg Zq,if_neg Zq,if_neg Zq,if_pos rfl] at j;have k0:=hI.n2 Zy;have c0:=a0 _ (Up (Nat.le_of_succ_le k0));have j0:=T8 (s.th who);have o0:=a0 _ (fA (Up (l:=(s.th who).pop.stk) Zq));have b0:=hI.a4 Zy;dsimp only at b0;obtain ⟨A,rfl⟩:=aU b0.1;replace b0:A<m.arrays.length:=Zq;refine Zz ?_;refine Zv Zj (Q9 (s:=s) (ev:=ev) o ⟨Zq,Zq⟩) ?_;rintro _ _ ⟨rfl,rfl⟩;refine rn [2,0,1,2,3,4,5,8] ?_;refine Wk 5 Zj (Q9 (s:=(Ax s who)) (ev:=ev) (by rw [Vh];exact o) (by rw [V6 o,j0];omega)) ?_;refine kk0 ?_;rw [V6 o,Jg];refine XD.cP 6 Zj (O9 (s:=(s.put who (s.th who).pop.pop)) (ev:=ev) (a:=A) (u:=Z4 (s.th who).pop.stk) (K:=K) (g:=g) (m:=m) (hE.le leA) ok b0) ?_ ?_ trivial
   . rintro _ _ ⟨⟨g0,rfl⟩,rfl⟩;exact cZ (q':=spH p K who ⟨xb,xf,none⟩ (s.put who (s.th who).pop.pop) ev::q) func141 (dZ (by rw [j,if_neg (show ¬inA m A (Z4 (s.th who).pop.stk) from g0)];exact ⟨⟨(show (3:Int)≠0 by decide),rfl⟩,rfl⟩))
   rintro _ _ ⟨⟨d0,rfl⟩,rfl⟩;refine ⟨trivial,?_⟩;obtain ⟨C,hC,n0⟩:=Zbs (n:=s.cells.length) ok b0 d0 p0;rw [if_pos (show inA m A (Z4 (s.th who).pop.stk) from d0),show Ev m A (Z4 (s.th who).pop.stk)=(C:Int) from hC] at j;rw [hC];apply Wk 8 Zj (O6 (s:=(s.put who (s.th who).pop.pop)) (ev:=ev) (n:=C) (u:=Z4 (s.th who).stk) n0 Zq);rintro _ _ rfl;refine ⟨trivial,?_⟩;refine Zg ?_;exact ⟨_,(dC ⟨by rw [j],rfl⟩),(by rw [j];exact leA)⟩
 focus
  rw [if_neg Zq,if_neg Zq,if_neg Zq,if_neg Zq,if_neg Zq,if_neg Zq,if_neg Zq,if_pos rfl] at j;have v:=hI.n1 Zy;have c0:=a0 _ (Up v);refine Zz ?_;refine Zv Zj (Q9 (s:=s) (ev:=ev) o ⟨Zq,Zq⟩) ?_;rintro _ _ ⟨rfl,rfl⟩;refine Zz ?_;refine aX 88 (I64 (-(Z4 (s.th who).stk))) rfl (aQ (Value.int .i64) (show IntKind.i64.wrap (0 - Z4 (s.th who).stk)= -Z4 (s.th who).stk by rw [Int.zero_sub];unfold val at c0;exact Ue Zq Zq)) ?_;refine Vj (aG _) (Mn (z:= -(Z4 (s.th who).stk))) ?_ ?_
  . rintro _ _ ⟨⟨g0,rfl⟩,rfl⟩;exact cZ (q':=spH p K who ⟨xb,xf,none⟩ (Ax s who) ev::q) func141 (dZ (by rw [j,if_neg g0];exact ⟨⟨(show (2:Int)≠0 by decide),rfl⟩,rfl⟩))
  rintro _ _ ⟨⟨d0,rfl⟩,rfl⟩;rw [if_pos d0] at j
 rotate_left
 focus
  rw [if_neg Zq,if_neg Zq,if_neg Zq,if_neg Zq,if_neg Zq,if_neg Zq,if_neg Zq,if_neg Zq,if_pos rfl] at j;have v:=hI.n1 Zy;have c0:=a0 _ (Up v);refine Zz ?_;refine Zv Zj (Q9 (s:=s) (ev:=ev) o ⟨Zq,Zq⟩) ?_;rintro _ _ ⟨rfl,rfl⟩;refine Zz ?_;apply bD (Gi)
 rotate_left
 focus
  rw [if_neg Zq,if_neg Zq,if_neg Zq,if_neg Zq,if_neg Zq,if_neg Zq,if_neg Zq,if_neg Zq,if_neg Zq,if_pos rfl] at j;have v:=hI.n1 Zy;have c0:=a0 _ (Up v);refine Zz ?_;refine Zv Zj (Q9 (s:=s) (ev:=ev) o ⟨Zq,Zq⟩) ?_;rintro _ _ ⟨rfl,rfl⟩;refine Zz ?_;refine aX 104 (.bool (decide (Z4 (s.th who).stk≠0))) rfl (cB (by rw [cD];simp)) ?_;apply bD (Gi)
 rotate_left
 . rw [if_neg Zq,if_neg Zq,if_neg Zq,if_neg Zq,if_neg Zq,if_neg Zq,if_neg Zq,if_neg Zq,if_neg Zq,if_neg Zq,if_pos Zq] at j;refine Zz ?_;refine iG (fun (u_:Unit)=> [(0,pt p),(3,pt n1),(13,I64 b),(107,.bool true)]) (fun u_=>spH p K who ⟨xb,xf,none⟩ s ev::pC n1 (Y7 ⟨b,ia,ib,h0⟩) 222::(q++F)) (fun u_=>True) (fun u_ e1=> ?_) fun K=> ?_
   . refine Zz ?_;refine Zv Zj (mjump_ok (i:=⟨b,ia,ib,h0⟩) (x:=x) (s:=s) (ev:=ev) (hX.le leA) o Zy (fun h=>⟨hI.n1 (by dsimp only at h|-;omega),Zq⟩)) ?_;rintro _ _ rfl;refine Zg ?_;exact ⟨_,(dC (by rw [j];exact ⟨rfl,rfl⟩)),leA⟩
   have l0:b=19\/b=20\/b=21:=Zq;rcases l0 with rfl|rfl|rfl
   all_goals repeat first|(apply iJ 107;apply xx 2;exact cH (K () trivial) Z5 leA)|(apply Wc 107;apply xx 5;exact cH (K () trivial) Z5 leA)|(apply Wc 107;refine xx 6 ?_)
 . rw [if_neg Zq,if_neg Zq,if_neg Zq,if_neg Zq,if_neg Zq,if_neg Zq,if_neg Zq,if_neg Zq,if_neg Zq,if_neg Zq,if_neg Zq,if_pos Zq] at j;have k0:=hI.n2 Zy;have c0:=a0 _ (Up (Nat.le_of_succ_le k0));have j0:=T8 (s.th who);have o0:=a0 _ (fA (Up (l:=(s.th who).pop.stk) Zq));refine Zz ?_;refine iG (fun (u_:Unit)=> [(0,pt p),(3,pt n1),(13,I64 b),(114,.bool true)]) (fun u_=>spH p K who ⟨xb,xf,none⟩ s ev::pC n1 (Y7 ⟨b,ia,ib,h0⟩) 222::(q++F)) (fun u_=>True) (fun u_ e1=> ?_) fun K=> ?_
   . refine Zz ?_;refine Zv Zj (Q9 (s:=s) (ev:=ev) o ⟨Zq,Zq⟩) ?_;rintro _ _ ⟨rfl,rfl⟩;refine Zz ?_;refine Zv Zj (Q9 (s:=(Ax s who)) (ev:=ev) (by rw [Vh];exact o) (by rw [V6 o,j0];omega)) ?_;rintro _ _ ⟨rfl,rfl⟩;rw [V6 o,Jg];refine Zz ?_;refine Vj (aG _) (mboth_ok (n:=b) (u:=Z4 (s.th who).pop.stk) (k:=Z4 (s.th who).stk) Zq o0 c0) ?_ ?_
     . rintro _ _ ⟨⟨g0,rfl⟩,rfl⟩;exact cZ (q':=spH p K who ⟨xb,xf,none⟩ (s.put who (s.th who).pop.pop) ev::q) func141 (dZ (by rw [j,if_neg g0];exact ⟨⟨g0,rfl⟩,rfl⟩))
     rintro _ _ ⟨⟨d0,rfl⟩,rfl⟩;rw [if_pos d0] at j;refine Zv Zj (By (s:=(s.put who (s.th who).pop.pop)) (ev:=ev) (by rw [Vh];exact o) (by rw [V6 o,T8];rw [T8];omega)) ?_;rintro _ _ rfl;rw [V6 o,Jg];refine Zg ?_;exact ⟨_,(dC ⟨by rw [j],rfl⟩),(by rw [j];exact leA)⟩
   have l0:b=10\/b=11\/b=12\/b=13\/b=14\/b=15\/b=16\/b=17\/b=18:=Zq;rcases l0 with rfl|rfl|rfl|rfl|rfl|rfl|rfl|rfl|rfl
   all_goals repeat first|(apply iJ 114;apply xx 2;exact cH (K () trivial) Z5 leA)|(apply Wc 114;apply xx 5;exact cH (K () trivial) Z5 leA)|(apply Wc 114;refine xx 6 ?_)
 . rw [if_neg Zq,if_neg Zq,if_neg Zq,if_neg Zq,if_neg Zq,if_neg Zq,if_neg Zq,if_neg Zq,if_neg Zq,if_neg Zq,if_neg Zq,if_neg Zq,if_pos rfl] at j;have v:=hI.n1 Zy;have c0:=a0 _ (Up v);refine Zz ?_;refine Zv Zj (Q9 (s:=s) (ev:=ev) o ⟨Zq,Zq⟩) ?_;rintro _ _ ⟨rfl,rfl⟩;refine Iv fun σ e hs he=> ?_
   refine Zm (spH p K who ⟨xb,xf,none⟩ (Ax s who) ({ ev with told:=true,outv:=Z4 (s.th who).stk })::q) ?_ (hq:=(U7 (σ:=σ) (e:= { e with e:= { e.e with told:=true,outv:=Z4 (s.th who).stk } }) hs (by rw [he]) (by unfold mcL evL;exact leA)));exact (dC (by rw [j];exact ⟨rfl,rfl⟩))
 . rw [if_neg Zq,if_neg Zq,if_neg Zq,if_neg Zq,if_neg Zq,if_neg Zq,if_neg Zq,if_neg Zq,if_neg Zq,if_neg Zq,if_neg Zq,if_neg Zq,if_neg Zq] at j;refine Wc 17 ?_ rfl ((bM o1));apply xx 6;refine Wc 23 ?_ rfl ((bM o3));apply xx 6;refine Wc 35 ?_ rfl ((bM o6));apply xx 6;refine Wc 46 ?_ rfl ((bM o2));apply xx 6;refine Wc 52 ?_ rfl ((bM o5));apply xx 6;refine Wc 60 ?_ rfl ((bM o4));apply xx 6;refine Wc 70 ?_ rfl ((bM o7));apply xx 6;refine Wc 83 ?_ rfl ((bM o8));apply xx 6;refine Wc 91 ?_ rfl ((bM o9));apply xx 6;refine Wc 99 ?_ rfl ((bM r0));apply xx 7;refine Wc 107 ?_ rfl ((bM u0));apply xx 6;refine Wc 107 ?_ rfl ((bM t0));apply xx 5;refine Wc 107 ?_ rfl ((bM s0));apply xx 7;refine Wc 114 ?_ rfl ((bM d1));apply xx 6;refine Wc 114 ?_ rfl ((bM c1));apply xx 6;refine Wc 114 ?_ rfl ((bM b1));apply xx 6;refine Wc 114 ?_ rfl ((bM a1));apply xx 6;refine Wc 114 ?_ rfl ((bM z0));apply xx 6;refine Wc 114 ?_ rfl ((bM y0));apply xx 6;refine Wc 114 ?_ rfl ((bM x0));apply xx 6;refine Wc 114 ?_ rfl ((bM w0));apply xx 5;refine Wc 114 ?_ rfl ((bM v0));apply xx 6;refine Wc 135 ?_ rfl ((bM q0));refine Zz ?_;refine Vj Zj (Zwx (x:=x) (s:=s) (ev:=ev) (hX.le leA) (hE.le leA) (gc.le leA) (ge.le leA) hk hI) ?_ ?_
   . rintro _ _ ⟨⟨h2,rfl⟩,rfl⟩;exact cZ func141 (dZ (by rw [j];exact ⟨⟨h2,rfl⟩,rfl⟩))
   rintro _ _ ⟨h2,rfl⟩;refine Zg ?_;exact ⟨_,(dC ⟨by rw [j];exact h2,rfl⟩),(by rw [j];exact leA)⟩
 all_goals
  refine Zv Zj (By (s:=(Ax s who)) (ev:=ev) (by rw [Vh];exact o) (by rw [V6 o,T8];omega)) ?_;rintro _ _ rfl;rw [V6 o,Jg];refine Zg ?_;exact ⟨_,(dC ⟨by rw [j],rfl⟩),(by rw [j];exact leA)⟩
end
structure AtOk (m:Mdl) (s:MS) (who:Nat):Prop where
 w:who<s.ths.length
 h8:s.ths.length<=8
 k:0<=(s.th who).code/\(s.th who).code<m.threads.length
 p:0<=(s.th who).pc/\(s.th who).pc<(m.threads.getD (s.th who).code.toNat ⟨em,0, [], [],none,0,none,0⟩).ins.length
 b:(s.th who).pc<=1000000
 n:0<=s.cnt/\s.cnt<=1000000000000
def AtOk.in (h:AtOk m s who):(s.th who).pc<(m.threads[(s.th who).code.toNat]'(by have:=h.k;omega)).ins.length:=by
 have a:=h.p.2;rwa [aH,aB (by have:=h.k;omega)] at a
def MS.on (s:MS)(who:Nat):MS:= { s.put who { s.th who with pc:=(s.th who).pc+1 } with cnt:=s.cnt+1 }
def Mj (main:Int)(m:Mdl)(kd d:Int)(who:Nat):Nat->Bool->MS->PEv->MS×PEv×Int
 |0,_,s,ev=>(s,ev,0)
 |n+1,b,s,ev=>
  if (b||(((s.th who).at m).c !=23 && ((s.th who).at m).c !=34))=true then
   if (Hn main m kd d ((s.th who).at m) (s.on who) who ev).2.2≠0 then Hn main m kd d ((s.th who).at m) (s.on who) who ev
   else Mj main m kd d who n false (Hn main m kd d ((s.th who).at m) (s.on who) who ev).1 (Hn main m kd d ((s.th who).at m) (s.on who) who ev).2.1
  else (s,ev,0)
def GoodM (g:FC)(m:Mdl)(kd d:Int)(who N:Nat):Nat->Bool->MS->PEv->Prop
 |0,_,_,_=>False
 |n+1,b,s,ev=>AtOk m s who/\((b||(((s.th who).at m).c !=23 && ((s.th who).at m).c !=34))=true->IPre g m d ((s.th who).at m) (s.on who) who ev N/\((Hn g.main m kd d ((s.th who).at m) (s.on who) who ev).2.2=0->GoodM g m kd d who N n false (Hn g.main m kd d ((s.th who).at m) (s.on who) who ev).1 (Hn g.main m kd d ((s.th who).at m) (s.on who) who ev).2.1))/\ev.syn.length<=3000000000000
def doM (main:Int)(m:Mdl)(kd d:Int)(who n:Nat)(s:MS)(ev:PEv):MS×PEv×Int:=
 let r:=Mj main m kd d who n true (s.put who { s.th who with st:=1 }) { ev with woke:=decide ((s.th who).st=3) }
 if r.2.2≠0 then r
 else if ((r.1.th who).at m).c=34 then (r.1.put who { r.1.th who with st:=4 },r.2.1.sn [(8,0,0)],0)
 else r
def GoodM.at {kd d}{b}(h:GoodM g m kd d who N n b s ev):AtOk m s who/\ev.syn.length<=3000000000000:=by
 cases n with
 |zero=>exact h.elim
 |succ n=>exact ⟨h.1,h.2.2⟩
section
variable {u n:Int}
def Sx :Quiet prog G 138 [pt nb]:=by
 refine Quiet.of func138 ntmps138 rfl fun F b a c=> ?_;refine Zz ?_;apply Zzq c;apply Va (Im rfl underlying284 rfl zeroValue284);refine Zo zeroValue284 fun n1=> ?_
 refine Ye ?_;apply fQ 8 bF rfl rfl;refine Ye ?_;exact gK ⟨rfl,rfl,.inl rfl,⟨_,Pj results138⟩,leA⟩
def Zqn {y0}:Catches prog G 138 [pt nb] (P5 k) [pC nb [y0] 43] [pC nb [I64 k] 43]:=by
 refine Catches.of func138 ntmps138 rfl rfl fun F b a c=> ?_;refine Zz ?_;apply Zzq c;apply Va (Ih rfl underlying284 rfl);refine Zo zeroValue284 fun n1=> ?_
 refine Ye ?_;apply fQ 8 bT rfl rfl;refine Ye ?_;exact gK ⟨rfl,rfl,.inl rfl,⟨_,Pj results138⟩,leA⟩
def mgoes_ok (hE:ME q K g m)(hA:AtOk m s who):CR G 140 [pt p,.bool bb] (spH p K who xa s ev::q) (.bool (bb||(((s.th who).at m).c !=23 && ((s.th who).at m).c !=34))):=by
 refine aE ntmps140 fun F cs=> ?_;have d:=hA.in;have j:=hA.k;have i:=hA.p;refine kL hA.w fun σ ga b e o r=> ?_;subst o r;simp only [Y5 b] at d j i|-
 refine Zz ?_;apply Yf 4 (Je (p:=p) (who:=who) (ga:=ga) (m:=σ.ths.length) (c:=σ.hc) clA clA b);refine Yf 5 (Sf (p:=p) (K:=K) (g:=g) (m:=m) (c:=ga) (a:=0+(who:Int).toNat*7) (k:=σ.ths[who].t.code) (n:=σ.ths[who].t.pc) (hE.le leA) clA (cX (n:=who) (bJ _) leA Zr (show who<(σ.ths.set who σ.ths[who]).length by rw [aR];exact b) rfl 2 _ (by rw [aY];rfl)) (cX (n:=who) (bJ _) leA Zr (show who<(σ.ths.set who σ.ths[who]).length by rw [aR];exact b) rfl 3 _ (by rw [aY];rfl)) j ⟨i.1,d⟩) ?_;refine Zz ?_;refine' Qc ?_ ?_
 rotate_left
 . intro u h;refine Zz ?_;refine' Vo ?_;exact Vi h
 refine Zg ?_;exact ⟨_,⟨_,rfl,by first|rfl|(congr 1;unfold MTh.at;rw [cD];simp),rfl⟩,(U4 (σ:=σ) (ga:=ga) (x:=σ.ths[who]) (e:=e) b (Hi b) rfl leA)⟩
def mdo_ok {n_}(hX:CellsAt q xb xf (stC x))(hE:ME q K g m)(gc:GC q)(ge:GE q)(hk:Ho m=0)(hw:who<s.ths.length)(hG:GoodM g m x.er.kd x.er.slt who N n_ true (s.put who { s.th who with st:=1 }) { ev with woke:=decide ((s.th who).st=3) }):CF G 77 [pt p] (spH p K who ⟨xb,xf,none⟩ s ev::q) (Ret fun v q'=>v= I64 (doM g.main m x.er.kd x.er.slt who n_ s ev).2.2/\q'=spH p K who ⟨xb,xf,none⟩ (doM g.main m x.er.kd x.er.slt who n_ s ev).1 (doM g.main m x.er.kd x.er.slt who n_ s ev).2.1::q):=by
 refine aE ntmps77 fun F cs=> ?_;obtain ⟨D,r⟩:=lV (doM g.main m x.er.kd x.er.slt who n_ s ev);rw [<-r];unfold doM at r;obtain ⟨s0,g0⟩:=lV (s.put who { s.th who with st:=1 } );obtain ⟨m0,a0⟩:=lV ({ ev with woke:=decide ((s.th who).st=3) } :PEv);rw [<-g0,<-a0] at r hG;obtain ⟨R0,l0⟩:=lV (Mj g.main m x.er.kd x.er.slt who n_ true s0 m0);rw [<-l0] at r;dsimp only at r;refine kL hw fun σ ga d e hs he=> ?_;subst hs he;have y:=Y5 d;rw [y] at g0 a0
 refine Zo zeroValue43 fun n1=> ?_
 refine Zz ?_;refine XO.dfr ?_;refine Zz ?_;refine Wb (Je (p:=p) (who:=who) (ga:=ga) (m:=σ.ths.length) (c:=σ.hc) clA clA d) ?_;refine ld ?_ (hc:=(cX (n:=who) (bJ _) leA Zr (show who<(σ.ths.set who σ.ths[who]).length by rw [aR];exact d) rfl 1 _ (by rw [aY];rfl)));refine Zz ?_;refine Wb (Je (p:=p) (who:=who) (ga:=ga) (m:=σ.ths.length) (c:=σ.hc) clA clA d) ?_;refine cU (Wq (g:=ga) (f:=mtC) (l:=σ.ths.set who σ.ths[who]) (u:=({ σ.ths[who] with t:= { σ.ths[who].t with st:=1 } } :MTC)) (n:=who) (k:=1) (j:=(who:Int)) rfl rfl sizeOf143 Zr rfl (by rw [aR];exact d) rfl (by rw [aY];rfl) rfl rfl Zj) ?_;rintro _ _ ⟨rfl,rfl⟩;rw [eV];refine eN (q':=spH p K who ⟨xb,xf,none⟩ s0 m0::pC n1 zz5 43::(q++F)) (U4 (σ:=σ) (ga:=ga) (x:=({ σ.ths[who] with t:= { σ.ths[who].t with st:=1 } } :MTC)) (e:=({ e with e:= { e.e with woke:=decide (σ.ths[who].t.st=3) } } :EvC)) d g0.symm a0.symm leA) ?_;refine Zz ?_;clear g0 a0 y
 have j0: ∀ (p_:PE) (qq:List HP) (y0:Value),lkp p_ 2=some (pt n1)->R0.2.2≠0->Le qq (spH p K who ⟨xb,xf,none⟩ R0.1 R0.2.1::pC n1 [y0] 43::(q++F))->FQ prog G 77 cs (Ret fun v q'=>v= I64 D.2.2/\q'=spH p K who ⟨xb,xf,none⟩ D.1 D.2.1::q) F (.panic [P5 R0.2.2]) p_ [Wx.dfr 138 [pt n1]] cs qq:=
  fun p_ qq y0 h2 h0 p0=>by rw [if_pos h0] at r;rw [r];exact ⟨rfl,Lv.catches call138 func77 (Zqn (nb:=n1) (k:=R0.2.2) (y0:=y0)) (aK p0 (iL _ _ _)) rfl (fS (q':=spH p K who ⟨xb,xf,none⟩ R0.1 R0.2.1::q) func77 (Lf results77 (eD h2 (iO isAgg43 clA) fM)) ⟨_,rfl,rfl,rfl⟩ (aK (dS _ _) (aG _)))⟩
 refine Zs (bW (fun (s:Nat×Bool×MS×PEv)=>GoodM g m x.er.kd x.er.slt who N s.1 s.2.1 s.2.2.1 s.2.2.2/\Mj g.main m x.er.kd x.er.slt who s.1 s.2.1 s.2.2.1 s.2.2.2=R0) (fun s=> [(0,pt p),(2,pt n1),(3,.bool s.2.1)]) (fun s=>spH p K who ⟨xb,xf,none⟩ s.2.2.1 s.2.2.2::pC n1 zz5 43::(q++F)) (fun s=>s.1) (fun s o ih=> ?_) (n_,true,s0,m0) ⟨hG,l0.symm⟩);try dsimp only at o ih|-
 obtain ⟨b0,h⟩:=o;obtain ⟨n,b,s,ev⟩:=s;dsimp only at*;have hA:=b0.at.1;have r0:=b0.at.2;refine Zz ?_;apply Zv leA (mgoes_ok (q:=pC n1 zz5 43::(q++F)) (hE.le leA) hA);rintro _ _ ⟨rfl,rfl⟩;refine Wg ?_ ?_<;>intro h5
 . obtain _|n:=n;exact b0.elim;have i0:=b0.2.1 h5;unfold Mj at h;rw [if_pos h5] at h;have f0:=hA.in;have d0:=hA.k;have c0:=hA.p;have q0:=hA.b;have o0:=hA.n;obtain ⟨i,o⟩:=lV ((s.th who).at m);rw [<-o] at i0 h;obtain ⟨s1,n0⟩:=lV (s.on who);rw [<-n0] at i0 h;refine kL hA.w fun σ ga d e hs he=> ?_;subst hs he;have y:=Y5 d;simp only [y] at f0 d0 c0 q0 o;replace o0:0<=σ.cnt/\σ.cnt<=1000000000000:=o0
   apply xx 5;apply X.draw [(2,pt n1)] Tryz.mixed (by kernel_rfl) (by kernel_rfl) rfl;refine Zz ?_;refine Vd (fl:= [⟨6,4,fun g=> pt g,fun g=>pC g zz1 222⟩]) ?_;refine Bi 4 ⟨flA zeroValue222,trivial⟩ (aG _) (Je (p:=p) (who:=who) (ga:=ga) (m:=σ.ths.length) (c:=σ.hc) clA clA d) ?_;refine kk0 ?_;refine Bi 5 ⟨flA zeroValue222,trivial⟩ (aG _) (Sf (p:=p) (K:=K) (g:=g) (m:=m) (c:=ga) (a:=0+(who:Int).toNat*7) (k:=σ.ths[who].t.code) (n:=σ.ths[who].t.pc) (hE.le leA) clA (cX (n:=who) (bJ _) leA Zr (show who<(σ.ths.set who σ.ths[who]).length by rw [aR];exact d) rfl 2 _ (by rw [aY];rfl)) (cX (n:=who) (bJ _) leA Zr (show who<(σ.ths.set who σ.ths[who]).length by rw [aR];exact d) rfl 3 _ (by rw [aY];rfl)) d0 ⟨c0.1,f0⟩) ?_;refine kk0 ?_;refine Qs (e0:=⟨6,4,fun g=> pt g,fun g=>pC g zz1 222⟩) (hnd:=by simp) 6 ⟨flA zeroValue222,trivial⟩ fun k0=> ?_;change XF _ _ _ _ _ _ _ [] _ _ _ ((4,pt k0)::_) _ _ (pC k0 zz1 222::_);refine fR ?_;apply dW 28 (.agg (Y7 i).toArray) rfl (aQ (fun z=>Value.agg (Y7 z).toArray) (show Ek m σ.ths[who].t.code σ.ths[who].t.pc=i from o.symm));refine rn [8,0,6,0,4,0,4] ?_;apply bD (Je (p:=p) (who:=who) (ga:=ga) (m:=σ.ths.length) (c:=σ.hc) clA clA d);refine Zz ?_;refine ld ?_ (hc:=(cX (n:=who) (bJ _) leA Zr (show who<(σ.ths.set who σ.ths[who]).length by rw [aR];exact d) rfl 3 _ (by rw [aY];rfl)));refine Zz ?_;refine cU (Wq (g:=ga) (f:=mtC) (l:=σ.ths.set who σ.ths[who]) (u:=({ σ.ths[who] with t:= { σ.ths[who].t with pc:=σ.ths[who].t.pc+1 } } :MTC)) (n:=who) (k:=3) (j:=(who:Int)) rfl rfl sizeOf3 Zr rfl (by rw [aR];exact d) rfl (by rw [aY];rfl) rfl rfl Zj) ?_;rintro _ _ ⟨rfl,rfl⟩;rw [eV];refine eN (q':=spH p K who ⟨xb,xf,none⟩ s1 e.e::pC k0 (Y7 i) 222::pC n1 zz5 43::(q++F)) (U4 (σ:=({ σ with cnt:=σ.cnt+1 } :MC)) (ga:=ga) (x:=({ σ.ths[who] with t:= { σ.ths[who].t with pc:=σ.ths[who].t.pc+1 } } :MTC)) (e:=e) d (by rw [n0];unfold MS.on;rw [y];rfl) rfl leA) ?_;refine Zz ?_;refine Vj Zj (mins_ok (x:=x) (hX.le leA) (hE.le leA) (gc.le leA) (ge.le leA) hk i0.1) ?_ ?_
   . rintro _ _ ⟨⟨h0,rfl⟩,rfl⟩;rw [if_pos h0] at h;rw [h] at h0|-;exact j0 _ _ _ rfl h0 leA
   rintro _ _ ⟨h0,rfl⟩;refine Zz ?_;rw [if_neg (fun k=>k h0)] at h;refine Zs (ih (n,false,_,_) ⟨i0.2 h0,h⟩ Zy)
 obtain _|n:=n;exact b0.elim;unfold Mj at h;rw [if_neg (by rw [h5];decide)] at h;subst h;rw [if_neg (fun k=>k rfl)] at r;dsimp only at r;clear j0 l0 b0 h5;have f0:=hA.in;have d0:=hA.k;have c0:=hA.p;obtain ⟨i,o⟩:=lV ((s.th who).at m);rw [<-o] at r;refine kL hA.w fun σ ga d e hs he=> ?_;subst hs he;simp only [Y5 d] at f0 d0 c0 o r
 apply xx 4;apply X.draw [(2,pt n1)] Tryz.mixed (by kernel_rfl) (by kernel_rfl) rfl;refine Zz ?_;apply Yf 4 (Je (p:=p) (who:=who) (ga:=ga) (m:=σ.ths.length) (c:=σ.hc) clA clA d);refine Yf 5 (Sf (p:=p) (K:=K) (g:=g) (m:=m) (c:=ga) (a:=0+(who:Int).toNat*7) (k:=σ.ths[who].t.code) (n:=σ.ths[who].t.pc) (hE.le leA) clA (cX (n:=who) (bJ _) leA Zr (show who<(σ.ths.set who σ.ths[who]).length by rw [aR];exact d) rfl 2 _ (by rw [aY];rfl)) (cX (n:=who) (bJ _) leA Zr (show who<(σ.ths.set who σ.ths[who]).length by rw [aR];exact d) rfl 3 _ (by rw [aY];rfl)) d0 ⟨c0.1,f0⟩) ?_;apply dW 56 (.agg (Y7 i).toArray) rfl (aQ (fun z=>Value.agg (Y7 z).toArray) (show Ek m σ.ths[who].t.code σ.ths[who].t.pc=i from o.symm));refine Zp ?_ ?_<;>intro h6
 . rw [if_pos (by exact h6)] at r;refine Zz ?_;refine Wb (Je (p:=p) (who:=who) (ga:=ga) (m:=σ.ths.length) (c:=σ.hc) clA clA d) ?_;refine cU (Wq (g:=ga) (f:=mtC) (l:=σ.ths.set who σ.ths[who]) (u:=({ σ.ths[who] with t:= { σ.ths[who].t with st:=4 } } :MTC)) (n:=who) (k:=1) (j:=(who:Int)) rfl rfl sizeOf143 Zr rfl (by rw [aR];exact d) rfl (by rw [aY];rfl) rfl rfl Zj) ?_;rintro _ _ ⟨rfl,rfl⟩;rw [eV];refine eN (q':=spH p K who ⟨xb,xf,none⟩ (σ.er.put who (({ σ.ths[who] with t:= { σ.ths[who].t with st:=4 } } :MTC)).t) e.e::pC n1 zz5 43::(q++F)) (U4 (σ:=σ) (ga:=ga) (x:=({ σ.ths[who] with t:= { σ.ths[who].t with st:=4 } } :MTC)) (e:=e) d rfl rfl leA)<|Zz ?_;apply Zv leA (Kc (k:=8) (sl:=0) (ot:=0) (q:=pC n1 zz5 43::(q++F)) Zq);rintro _ _ rfl;refine Zz ?_;exact iH ⟨rfl,Ii call138 func77 (Sx (nb:=n1)) (fS (q':=spH p K who ⟨xb,xf,none⟩ (σ.er.put who (({ σ.ths[who] with t:= { σ.ths[who].t with st:=4 } } :MTC)).t) (e.e.sn [(8,0,0)])::q) func77 (Lf results77 (eD rfl (iO isAgg43 clA) fM)) ⟨_,rfl,by rw [r],by rw [r]⟩ leA)⟩
 rw [if_neg (by exact h6)] at r;refine Zz ?_;exact iH ⟨rfl,Ii call138 func77 (Sx (nb:=n1)) (fS (q':=spH p K who ⟨xb,xf,none⟩ σ.er e.e::q) func77 (Lf results77 (eD rfl (iO isAgg43 clA) fM)) ⟨_,rfl,by rw [r],by rw [r]⟩ (U4 (σ:=σ) (ga:=ga) (x:=σ.ths[who]) (e:=e) d (Hi d) rfl leA))⟩
end
def Sg (sb so n:Nat):List MapEntry:=(List.range n).map fun i:Nat=> { key:= I64 i,val:= .pointer (some ⟨sb,so+i*25,none⟩),born:=i }
def Sa (f:Nat->Value): ∀ (l:List Nat) (i j:Nat),l.Nodup->j∈l-> ∃ k,Instr.findNow (.int .i64) (I64 j) (l.map fun i:Nat=>({ key:= I64 i,val:=f i,born:=i } :MapEntry)) i=some (some (k,f j))
 |x::r,i,j,hd,hj=>by
  by_cases h:j=x
  . subst h;exact ⟨i,by simp [Instr.findNow,Instr.sameNow]⟩
  obtain ⟨k,a⟩:=Sa f r (i+1) j (jW.1 hd).2 (by rcases bS.1 hj with e|e;exact aV e h;exact e);refine ⟨k,?_⟩;simp only [bG,Instr.findNow,Instr.sameNow,if_true];rw [show (((j:Int))==(x:Int))=false from dD.2 Zq];exact a
def mapE_at (h:j<n): ∃ k,Instr.findNow (.int .i64) (I64 j) (Sg sb so n) 0=some (some (k,.pointer (some ⟨sb,so+j*25,none⟩))):=
 Sa (fun i=> .pointer (some ⟨sb,so+i*25,none⟩)) (List.range n) 0 j List.nodup_range (List.mem_range.2 h)
def Zxn {p}{ty}{x}{t kt et}{kd}{v zv}{clock}{es}(ht:P.underlying t=some (.map kt et))(hk:P.underlying kt=some (.int kd))(hx:evp p x=some (.map (some b)))(hy:evp p y=some (.int kd k))(hq:Has q b (.map es.toArray clock))(hz: ∀ w,(zeroValue et).run P w= .ok zv w)
 (hf: ∃ i,Instr.findNow (.int kd) (.int kd k) es 0=some (some (i,v))):Rd P G p q ⟨d,.lookup t x y false,ty,pos,af,gd⟩ v:=
 fun f w c s=>by
  obtain ⟨i,hf⟩:=hf;have a:MapKept.IsKey (.int kd) (.int kd k):=by first|trivial|exact rfl|simp [MapKept.IsKey]
  simp [execOp,Zu c hx,Zu c hy,Instr.lookup,run_underlying ht,MapKept.run_getObj_map (s.has hq),MapKept.run_checkKey hk a,MapKept.run_findKey hk hf,Result.andThen]
structure MQ (q:List HP) (K:MK) (sb so:Nat) (L:List Stm):Prop where
 h:Has q K.mb (.map (Sg sb so L.length).toArray L.length)
 c: ∀ j (h:j<L.length),CellsAt q sb (so+j*25) (stC L[j])
def MQ.le (h:MQ q' K sb so L)(l:Le q q'):MQ q K sb so L:=⟨h.h.le l,fun j hj=>(h.c j hj).le l⟩
section
variable {k:List Item}{pe:PE}
def Eb (x: ∀ σ:MC,σ.er=s->X P G f Q k pe ds cs (mcP p K σ::lsH I64 2 σ.ca σ.cc σ.cells::yH σ.sp σ.sy::rsH mtC 7 147 σ.ha σ.hc σ.ths::stars (σ.ths.map mtH)::r))(hq:Le q (maH p K s::r):=by exact Zj):X P G f Q k pe ds cs q:=
 .le hq (.ex fun z=> .le (Zb _ r) (.pure fun h=>x z h))
def XO.maO {ops lo:List Oper}(x: ∀ σ:MC,σ.er=s->XO P G f Q ops.toArray k lo pe ds cs (mcP p K σ::lsH I64 2 σ.ca σ.cc σ.cells::yH σ.sp σ.sy::rsH mtC 7 147 σ.ha σ.hc σ.ths::stars (σ.ths.map mtH)::r))(hq:Le q (maH p K s::r):=by exact Zj):XO P G f Q ops.toArray k lo pe ds cs q:=
 .le hq (.ex fun z=> .le (Zb _ r) (.pure fun h=>x z h))
def H6 (hs:σ.er=s)(h:Le q (mcP p K σ::(mcL σ++r))):Le q (maH p K s::r):=
 h.trans (Vt σ ((Yu hs _).trans (Zh (pure _::mcP p K σ::mcL σ) r)))
end
def Xd (hn:n<l.length):Sees (stars (l.map mtH)::r) l[n].sa (l[n].t.sp.map I64):=
 (bV (f:=I64) (ty:=3) (a:=l[n].sa) (c:=l[n].sc) (l:=l[n].t.sp) _).le (((kG mtH hn r).trans (Zb (mtL l[n]) _)).trans ((dS _ _).trans (dS _ _)))
def Zhu (hn:n<l.length):Sees (stars (l.map mtH)::r) l[n].la (l[n].t.loc.map I64):=
 (bV (f:=I64) (ty:=2) (a:=l[n].la) (c:=l[n].lc) (l:=l[n].t.loc) _).le ((kG mtH hn r).trans (Zb (mtL l[n]) _))
def Zhp (hn:n<l.length):Sees (stars (l.map mtH)::r) l[n].ta (l[n].t.stk.map I64):=
 (bV (f:=I64) (ty:=2) (a:=l[n].ta) (c:=l[n].tc) (l:=l[n].t.stk) _).le (((kG mtH hn r).trans (Zb (mtL l[n]) _)).trans (dS _ _))
section
variable {a:Nat}
def Zjd {x st}(hE:ME q K g m)(hQ:MQ q K sb so L)(h1:Cl q ⟨p,0+1,none⟩ (.pointer (some ⟨K.mp,0,none⟩)))(h2:Cl q ⟨p,0+2,none⟩ (.map (some K.mb)))(hst:Cl q ⟨c,a+1,none⟩ (I64 st))(h4:st≠4)(h5:Cl q ⟨c,a+2,none⟩ (I64 k))(h6:Cl q ⟨c,a+2+1,none⟩ (I64 x))(hk:0<=k/\k<m.threads.length)(hn:0<=x/\x<(m.threads[k.toNat]'Zq).ins.length)(hj:(Ek m k x).a=(j:Int))(hjl:j<L.length):CR G 76 [pt p,.pointer (some ⟨c,a,none⟩)] (q) (.pointer (some ⟨sb,so+j*25,none⟩)):=by
 refine We ntmps76 fun F cs=> ?_;refine ld ?_ (hc:=(hst.le leA));apply ox 2;refine X.part 9 rfl ?_ ?_<;>intro b
 . exact aV (by first|exact b|simpa using b) h4
 refine Zz ?_;refine ldD 3 ?_ (hc:=(h2.le leA));refine Zz ?_;refine Yf 6 (Sf (p:=p) (K:=K) (g:=g) (m:=m) (c:=c) (a:=a) (k:=k) (n:=x) (hE.le leA) (h1.le leA) (h5.le leA) (h6.le leA) hk hn) ?_ (hL:=(hlA (h:=by repeat first|exact trivial|refine ⟨clA,?_⟩|refine ⟨(h1.le leA),?_⟩|refine ⟨(h2.le leA),?_⟩|refine ⟨(hst.le leA),?_⟩)));refine Zz ?_;apply dW 17 (I64 j) rfl (by exact aQ (Value.int .i64) hj);apply eT 8 rfl (Rd.ef (Zxn (es:=Sg sb so L.length) underlying123 underlying3 rfl rfl (hQ.h.le leA) zeroValue130 (mapE_at hjl)));refine kk0<|Vz q
def Tn (h0:Cl q ⟨p,0,none⟩ (.pointer (some ⟨K.pp,0,none⟩))):CR G 55 [pt p] (q) bT:=by
 refine aE ntmps55 fun F cs=> ?_;refine Ye ?_;refine' Q1 ?_ ?_ (h0:=J2)
 rotate_left
 . intro b a;refine Ye ?_;refine ld ?_ (hc:=(h0.le leA));exact Vi a
 refine Zm (q) ?_ (h0:=J2);exact ⟨_,rfl,by first|rfl|simp,rfl⟩
end
section
variable {fv:Value}
def Zwd {l}(hs:Sees q a (l.map I64))(hn:l.length<=9223372036854775807)(hp:Rdr prog G fv I64 (fun x=> .bool (u x)) q l):CF G 204 [.slice a l.length c,fv] (q) (Af l u q):=by
 refine aE ntmps204 fun F cs=> ?_;have e:(l.map I64).length=l.length:=Zf;refine Zs (bW (fun (s:Nat×Option Addr)=>s.1<=l.length/\s.2=a/\(l.take s.1).any u=false) (fun s=> [(0,.slice s.2 l.length c),(1,fv),(7,I64 l.length),(8,I64 (s.1:Int))]) (fun s=>q++F) (fun s=>l.length - s.1) (fun s f g=> ?_) (0,a) ⟨Zy,rfl,rfl⟩);try dsimp only at f g|-
 obtain ⟨j,rfl,b⟩:=f;obtain ⟨s,a⟩:=s;dsimp only at*;refine Zp ?_ ?_<;>intro n
 . have d:s<l.length:=Zq;refine Yq hs (by rw [e];omega) fun m i k=> ?_;subst k;refine Zz ?_;apply Rg (hp _ leA _ (aC d));refine Zp ?_ ?_<;>intro h
   . refine Zm (q) ?_;exact ⟨_,rfl,_,rfl,by rw [Ik d h];exact dB Zq,rfl⟩
   refine Zs (g (s+1,some ⟨m,i,none⟩) ⟨Zy,rfl,by dsimp only;rw [Br d,b,h];rfl⟩ Zy)
 refine Zz ?_;rw [bX (show l.length<=s by omega)] at b;refine Zm (q) ?_;exact ⟨_,rfl,_,rfl,by rw [b];rfl,rfl⟩
def Zhj {l}(hs:Sees q a (l.map I64))(hn:l.length<=9223372036854775807)(hp:Rdr prog G fv I64 (fun x=> .bool (u x)) q l):CR G 136 [.slice a l.length c,fv] (q) (.bool (l.any u)):=by
 refine We ntmps136 fun F cs=> ?_;apply Zv (aG _) (Zwd (hs.le leA) hn (hp.le leA));rintro _ _ ⟨k,rfl,b,rfl⟩;refine Zm (q) ?_;exact ⟨_,rfl,aQ Value.bool b,rfl⟩
end
section
variable {a:Nat}
def mths_ok:CR G 116 [pt p] (maH p K s::q) (I64 s.ths.length):=by
 refine aE ntmps116 fun F cs=> ?_;refine Eb fun σ a=> ?_;subst a;rw [gS]
 refine Zz ?_;apply bD (Tn (p:=p) (K:=K) clA);refine Zg ?_;exact ⟨_,⟨_,rfl,rfl,rfl⟩,(H6 rfl (by unfold mcL;exact leA))⟩
structure MSee (q:List HP) (p:Nat) (σ:MC):Prop where
 t:Cl q ⟨p,0+5,none⟩ (.slice σ.ha σ.ths.length σ.hc)
 r:Sees q σ.ha (σ.ths.flatMap mtC)
def MSee.le (h:MSee q' p σ)(l:Le q q'):MSee q p σ:=⟨h.t.le l,h.r.le l⟩
def Zgd {pb}(hb:Cl q ⟨pb,0,none⟩ (pt p))(hS:MSee q p σ)(hn:n<σ.ths.length)(hl:σ.ths.length<=8):CR G 137 [I64 n,pt pb] (q) (.bool (decide ((σ.er.th n).st≠4))):=by
 refine aE ntmps137 fun F cs=> ?_;have b:=hS.r;refine Yq (b.le leA) (by rw [Zx Zr σ.ths];omega) fun f e d=> ?_;have c:=hS.t;rw [d] at b c;rw [Y5 hn];refine Zz ?_;refine ld ?_ (hc:=(hb.le leA));refine Zz ?_;refine ld ?_ (hc:=(c.le leA));apply oo 3;refine ld ?_ (hc:=(cX (n:=n) b leA Zr hn rfl 1 _ rfl));refine Zm (q) ?_;exact ⟨_,rfl,cB (by rw [cD];simp),rfl⟩
def MS.can (m:Mdl)(L:List PStm)(s:MS)(n:Nat):Bool:=
 if s.out.kind=4\/(s.th n).st=2\/(s.th n).st=4 then false
 else
  let x:=L.getD ((s.th n).at m).a.toNat Hs
  if (s.th n).st=3 then decide ((N9 s.sy x.oth).1<0\/(N9 s.sy x.oth).1=n)
  else if x.kd=6 then decide ((N9 s.sy x.slt).1<0\/(N9 s.sy x.slt).1=n)
  else if x.kd=11 then decide (((K8 s.sy x.slt).1.length:Int)<(Lw s.sy x.slt).1)
  else if x.kd=12 then decide (0<(K8 s.sy x.slt).1.length)
  else if x.kd=14 then ! (s.th n).sp.any fun i=>decide ((s.th i.toNat).st≠4)
  else true
structure Stands (m:Mdl) (L:List PStm) (s:MS) (n:Nat):Prop where
 w:n<s.ths.length
 h8:s.ths.length<=8
 k:0<=(s.th n).code/\(s.th n).code<m.threads.length
 p:0<=(s.th n).pc/\(s.th n).pc<(m.threads.getD (s.th n).code.toNat ⟨em,0, [], [],none,0,none,0⟩).ins.length
 a:(s.th n).st≠4->0<=((s.th n).at m).a/\((s.th n).at m).a<L.length
 sp:(s.th n).sp.length<=1000/\ ∀ i∈(s.th n).sp,0<=i/\i.toNat<s.ths.length
def Stands.in {L}(h:Stands m L s n):(s.th n).pc<(m.threads[(s.th n).code.toNat]'(by have:=h.k;omega)).ins.length:=by
 have a:=h.p.2;rwa [aH,aB (by have:=h.k;omega)] at a
def Zji (hE:ME q K g m)(hQ:MQ q K sb so L)(hS:Stands m (L.map Stm.er) s n)(hys:s.sy.ok N)(hN:N<=1000000000):CR G 75 [pt p,I64 n] (maH p K s::q) (.bool (s.can m (L.map Stm.er) n)):=by
 refine aE ntmps75 fun F cs=> ?_;have k0:=hS.in;have hw:=hS.w;have h8:=hS.h8;have hk:=hS.k;have hp:=hS.p;have ha:=hS.a;have y:=hS.sp;obtain ⟨R,d⟩:=lV (s.can m (L.map Stm.er) n);rw [<-d];unfold MS.can at d;dsimp only at d;refine Eb fun σ hs=> ?_;subst hs;have e:n<σ.ths.length:=(by rw [gS] at hw;exact hw);have t0:=Y5 e;simp only [t0] at k0 hk hp ha y d;rw [gS] at h8;rw [show σ.er.sy=σ.sy from rfl,show σ.er.out=σ.out from rfl] at d;replace hys:σ.sy.ok N:=hys;rw [aI] at ha
 refine Vq (l:=σ.ths) Zq fun ga e_=> ?_;have z: ∀ r,Sees (rsH mtC 7 147 σ.ha σ.hc σ.ths::r) (some ⟨ga,0,none⟩) (σ.ths.flatMap mtC):=fun r=>by rw [<-e_];exact bJ r
 refine Yb fun n1=> ?_
 refine Zz ?_;refine' Qc ?_ ?_
 rotate_left
 . intro v0 b0;refine Zz ?_;refine ld ?_ (hc:=(cX (n:=n) (z _) leA Zr e rfl 1 _ rfl));exact Vi b0
 refine Zz ?_;refine' Qc ?_ ?_
 rotate_left
 . intro v0 b0;refine Zz ?_;refine ld ?_ (hc:=(cX (n:=n) (z _) leA Zr e rfl 1 _ rfl));exact Vi b0
 refine Zp ?_ ?_<;>intro h1
 . rw [if_pos Zq] at d;refine Zg ?_;exact ⟨_,⟨_,rfl,by rw [d],rfl⟩,(H6 rfl (by unfold mcL;exact leA))⟩
 rw [if_neg Zq] at d;have v:σ.ths[n].t.st≠4:=Zq;replace ha:=ha v;obtain ⟨j,hj⟩:=aU ha.1;rw [hj] at d ha;have a0:j<L.length:=Zq;rw [show (L.map Stm.er).getD (j:Int).toNat Hs=(L[j]).er by rw [cG,aH,bZ,aB a0];rfl] at d;have hX:=hQ.c j a0;obtain ⟨x,hx⟩:=lV L[j];rw [<-hx] at hX d;obtain ⟨f,j0⟩:=lV x.er.kd;obtain ⟨sl,h0⟩:=lV x.er.slt;obtain ⟨ot,i0⟩:=lV x.er.oth;rw [<-j0,<-h0,<-i0] at d;have o:Cl q ⟨sb,so+j*25+0,none⟩ (I64 f):=hX 0 (I64 f) (by rw [j0];obtain ⟨kk,ln,cl,nm,wt,⟨ek,en,p0,m0,q0,o0,el,ea,ec⟩,⟨xk,xn,d0,xsl,e0,c0,xl,xa,xc⟩,bd,n0,ba,bc,s0,r0,id,sl,ot,f0⟩:=x;rfl);have b:Cl q ⟨sb,so+j*25+22,none⟩ (I64 sl):=hX 22 (I64 sl) (by rw [h0];obtain ⟨kk,ln,cl,nm,wt,⟨ek,en,p0,m0,q0,o0,el,ea,ec⟩,⟨xk,xn,d0,xsl,e0,c0,xl,xa,xc⟩,bd,n0,ba,bc,s0,r0,id,sl,ot,f0⟩:=x;rfl);have l0:Cl q ⟨sb,so+j*25+23,none⟩ (I64 ot):=hX 23 (I64 ot) (by rw [i0];obtain ⟨kk,ln,cl,nm,wt,⟨ek,en,p0,m0,q0,o0,el,ea,ec⟩,⟨xk,xn,d0,xsl,e0,c0,xl,xa,xc⟩,bd,n0,ba,bc,s0,r0,id,sl,ot,f0⟩:=x;rfl);refine Zz ?_;refine Wb (Zjd (p:=p) (K:=K) (g:=g) (m:=m) (L:=L) (sb:=sb) (so:=so) (j:=j) (c:=ga) (a:=0+(n:Int).toNat*7) (st:=σ.ths[n].t.st) (k:=σ.ths[n].t.code) (x:=σ.ths[n].t.pc) (hE.le leA) (hQ.le leA) clA clA (cX (n:=n) (z _) leA Zr e rfl 1 _ rfl) v (cX (n:=n) (z _) leA Zr e rfl 2 _ rfl) (cX (n:=n) (z _) leA Zr e rfl 3 _ rfl) hk ⟨hp.1,k0⟩ hj a0) ?_;refine ld ?_ (hc:=(b.le leA));refine Zz ?_;refine ld ?_ (hc:=(cX (n:=n) (z _) leA Zr e rfl 1 _ rfl));refine Wg ?_ ?_<;>intro g0
 focus
  replace g0:σ.ths[n].t.st=3:=sp g0;rw [if_pos g0] at d;refine Zz ?_;refine ld ?_ (hc:=(l0.le leA));refine Zz ?_;apply Wn (Zfj (m:=ot) hys Zq);refine kd0 ?_;refine Zz ?_;refine' Yi ?_
 rotate_left
 focus
  replace g0: ¬σ.ths[n].t.st=3:=sp g0;rw [if_neg g0] at d;refine Zz ?_;refine ld ?_ (hc:=(o.le leA));refine Wg ?_ ?_<;>intro g1
  focus
   replace g1:f=6:=sp g1;rw [if_pos g1] at d;refine Zz ?_;apply Wn (Zfj (m:=sl) hys Zq);refine kd0 ?_;refine Zz ?_;refine' Yi ?_
  rotate_left
  focus
   replace g1: ¬f=6:=sp g1;rw [if_neg g1] at d;refine Zz ?_;refine ld ?_ (hc:=(o.le leA));refine Wg ?_ ?_<;>intro g2
   focus
    replace g2:f=11:=sp g2;rw [if_pos g2] at d;refine Zz ?_;refine ldD 7 ?_ (hc:=(b.le leA));apply Q2 8 (Zkl (k:=sl) hys Zq);refine kd2 fun av cv=> ?_
    refine ⟨(hlA (h:=by repeat first|exact trivial|refine ⟨clA,?_⟩|refine ⟨(b.le leA),?_⟩)),?_⟩;refine Zz ?_;refine ldD 7 ?_ (hc:=(b.le leA));apply Q2 8 (Room_Y (k:=sl) hys Zq);refine kd0 ?_;refine ⟨(hlA (h:=by repeat first|exact trivial|refine ⟨clA,?_⟩|refine ⟨(b.le leA),?_⟩)),?_⟩
   rotate_left
   focus
    replace g2: ¬f=11:=sp g2;rw [if_neg g2] at d;refine Zz ?_;refine ld ?_ (hc:=(o.le leA));refine Wg ?_ ?_<;>intro g3
    focus
     replace g3:f=12:=sp g3;rw [if_pos g3] at d;refine Zz ?_;refine ldD 7 ?_ (hc:=(b.le leA));apply Q2 8 (Zkl (k:=sl) hys Zq);refine kd2 fun av cv=> ?_
     refine ⟨(hlA (h:=by repeat first|exact trivial|refine ⟨clA,?_⟩|refine ⟨(b.le leA),?_⟩)),?_⟩
    rotate_left
    focus
     replace g3: ¬f=12:=sp g3;rw [if_neg g3] at d;refine Zz ?_;refine ld ?_ (hc:=(o.le leA));refine Wg ?_ ?_<;>intro g4
     focus
      replace g4:f=14:=sp g4;rw [if_pos g4] at d;refine Zz ?_;refine ld ?_ (hc:=(cX (n:=n) (z _) leA Zr e rfl 6 _ rfl));refine Zz ?_;apply eN (q':=stars (σ.ths.map mtH)::_) Zj
      refine bD (Zhj (l:=σ.ths[n].t.sp) (u:=fun i=>decide ((σ.er.th i.toNat).st≠4)) ((Xd e).le leA) Zq (fun q1 l1 i hi=>by
       obtain ⟨k,rfl⟩:=aU (y.2 i hi).1;have u0:k<σ.ths.length:=by have:=(y.2 _ hi).2;rw [gS] at this;simpa using this
       exact gA call137 (Zgd (pb:=n1) (p:=p) (Cl.le (by exact clA) l1) (MSee.le ⟨by exact clA,(bJ _).le leA⟩ l1) u0 h8))) ?_
     rotate_left
     focus
      replace g4: ¬f=14:=sp g4;rw [if_neg g4] at d
 all_goals
  refine Zg ?_;exact ⟨_,⟨_,rfl,cB (by rw [d]<;>(rw [cD];simp)),rfl⟩,(H6 rfl (by unfold mcL;exact leA))⟩
def MS.all (m:Mdl)(L:List PStm)(s:MS):List Int:=((List.range s.ths.length).filter fun n=>s.can m L n).map fun (n:Nat)=>(n:Int)
def Xz {f}:((List.range (n+1)).filter f).map (fun (n:Nat)=>(n:Int))=((List.range n).filter f).map (fun (n:Nat)=>(n:Int))++(if f n=true then [(n:Int)] else []):=by
 rw [kA,iS,aN];congr 1
 cases h:f n<;>simp [h]
def Zqu (hE:ME q K g m)(hQ:MQ q K sb so L)(hS: ∀ n,n<S.ths.length->Stands m (L.map Stm.er) S n)(h8:S.ths.length<=8)(hys:S.sy.ok N)(hN:N<=1000000000):CF G 56 [pt p] (maH p K S::q) (Ret fun v q'=> ∃ a' c',v= .slice a' (S.all m (L.map Stm.er)).length c'/\q'=lsH I64 3 a' c' (S.all m (L.map Stm.er))::maH p K S::q):=by
 refine We ntmps56 fun F cs=> ?_;apply Zv (aG _) (mths_ok (s:=S));rintro _ _ ⟨rfl,rfl⟩;refine Zz ?_;refine cH (bW (fun (s:Nat×Option Addr×Nat)=>s.1<=S.ths.length) (fun s=> [(0,pt p),(2,.slice none 0 0),(3,.slice s.2.1 (((List.range s.1).filter fun n=>S.can m (L.map Stm.er) n).map fun (n:Nat)=>(n:Int)).length s.2.2),(6,I64 S.ths.length),(7,I64 (s.1:Int))]) (fun s=>lsH I64 3 s.2.1 s.2.2 (((List.range s.1).filter fun n=>S.can m (L.map Stm.er) n).map fun (n:Nat)=>(n:Int))::maH p K S::(q++F)) (fun s=>S.ths.length - s.1) (fun s a c=> ?_) (0,none,0) (aZ _)) Z5 (aK (Yy I64 3 _) leA);try dsimp only at a c|-
 obtain t:=a;obtain ⟨j,e,d⟩:=s;dsimp only at*;refine Zp ?_ ?_<;>intro w
 . obtain ⟨W,b⟩:=lV (((List.range j).filter fun n=>S.can m (L.map Stm.er) n).map fun (n:Nat)=>(n:Int));have k:W.length<=8:=(by rw [b,aI];have:=gB (fun n=>S.can m (L.map Stm.er) n) (List.range j);rw [List.length_range] at this;omega);rw [<-b];refine Zz ?_;apply Zv leA (Zji (n:=j) (s:=S) (L:=L) (q:=lsH I64 3 e d W::(q++F)) (hE.le leA) (hQ.le leA) (hS j Zq) hys hN);rintro _ _ ⟨rfl,rfl⟩;refine Wg ?_ ?_<;>intro h
   . refine Zz ?_;apply bU (Qd (u:=(j:Int)) I64 underlying23 Ts rfl rfl);rintro _ _ ⟨x,rfl,rfl⟩;refine bU (Wu (f:=I64) (l:=W) (m:= [(j:Int)]) underlying23 Ts rfl rfl rfl Zj ((bV _).le leA) (fun _=>rfl) (by simp only [cI];omega) (by simp only [cI];omega)) ?_;rintro _ _ ⟨r,o,rfl,rfl⟩;refine Zz ?_;rw [show W++ [(j:Int)]=(((List.range (j+1)).filter fun n=>S.can m (L.map Stm.er) n).map fun (n:Nat)=>(n:Int)) by rw [Xz,<-b,h];rfl];refine Zs (c (j+1,r,o) Zy Zy)
   refine Zz ?_;rw [show W=(((List.range (j+1)).filter fun n=>S.can m (L.map Stm.er) n).map fun (n:Nat)=>(n:Int)) by rw [Xz,<-b,h];simp];refine Zs (c (j+1,e,d) Zy Zy)
 obtain rfl:j=S.ths.length:=Zq;refine Zg ?_;exact ⟨_,⟨_,rfl,e,d,rfl,rfl⟩,(by unfold MS.all;exact leA)⟩
end
def ocC (o:POut):List Value:= [I64 o.kind,I64 o.trap,I64 o.th,I64 o.stmt]
def MS.outc (m:Mdl)(L:List PStm)(s:MS):POut:=if s.out.kind=4 then s.out else if 0<(s.all m L).length then ⟨1,0,0,0⟩ else if s.ths.all (fun t=>decide (t.st=4))=true then ⟨2,0,0,0⟩ else ⟨3,0,0,0⟩
section
variable {a:Nat}
def moutc_ok (hE:ME q K g m)(hQ:MQ q K sb so L)(hS: ∀ n,n<S.ths.length->Stands m (L.map Stm.er) S n)(h8:S.ths.length<=8)(hys:S.sy.ok N)(hN:N<=1000000000):CR G 21 [pt p] (maH p K S::q) (.agg (ocC (S.outc m (L.map Stm.er))).toArray):=by
 refine aE ntmps21 fun F cs=> ?_;obtain ⟨R,a⟩:=lV (S.outc m (L.map Stm.er));rw [<-a];unfold MS.outc at a;refine Eb fun σ b=> ?_
 refine Zo zeroValue45 fun n1=> ?_
 refine Zz ?_;refine Wb (Tn (p:=p) (K:=K) clA) ?_;have c:σ.out.kind=S.out.kind:=(by rw [<-b];rfl);refine Zp ?_ ?_<;>intro v
 . rw [if_pos (by rw [<-c];exact v)] at a;refine Zg ?_;exact ⟨_,⟨_,rfl,by rw [a,<-b];rfl,rfl⟩,(H6 b (by unfold mcL;exact leA))⟩
 rw [if_neg (by rw [<-c];exact v)] at a;refine Zz ?_;refine eN (q':=maH p K S::pC n1 zz1 45::(q++F)) (H6 b (by unfold mcL;exact leA)) ?_;apply Zv (aG _) (Zqu (S:=S) (L:=L) (q:=pC n1 zz1 45::(q++F)) (hE.le leA) (hQ.le leA) hS h8 hys hN);rintro _ _ ⟨a1,c1,rfl,rfl⟩;refine Zp ?_ ?_<;>intro h2
 . rw [if_pos Zq] at a;refine Zm (maH p K S::q) ?_;exact ⟨_,rfl,by rw [a];rfl,rfl⟩
 rw [if_neg Zq] at a;clear b c;refine Eb fun σ b=> ?_;subst b;rw [gS] at h8
 refine Zs (bW (fun (s:Nat)=>s<=σ.ths.length/\ ∀ j,(h:j<σ.ths.length)->j<s->σ.ths[j].t.st=4) (fun s=> [(0,pt p),(2,pt n1),(27,I64 σ.ths.length),(28,I64 s)]) (fun s=>mcP p K σ::lsH I64 2 σ.ca σ.cc σ.cells::yH σ.sp σ.sy::rsH mtC 7 147 σ.ha σ.hc σ.ths::stars (σ.ths.map mtH)::pC n1 zz1 45::(q++F)) (fun s=>σ.ths.length - s) (fun s f o=> ?_) 0 ⟨aZ _,fun j _ h=>aV h (iV _)⟩);try dsimp only at f o|-
 refine Zp ?_ ?_<;>intro h0
 . have d:s<σ.ths.length:=Zq;refine Vq (l:=σ.ths) Zq fun ga e_=> ?_;have hr: ∀ r,Sees (rsH mtC 7 147 σ.ha σ.hc σ.ths::r) (some ⟨ga,0,none⟩) (σ.ths.flatMap mtC):=fun r=>by rw [<-e_];exact bJ r
   refine Zz ?_;refine ld ?_ (hc:=(cX (n:=s) (hr _) leA Zr d rfl 1 _ rfl));refine Zp ?_ ?_<;>intro u
   . rw [if_neg (fun hh=>u (by simpa using dM.1 hh _ (cW (aC d))))] at a;refine Zg ?_;exact ⟨_,⟨_,rfl,by rw [a];rfl,rfl⟩,(H6 rfl (by unfold mcL;exact leA))⟩
   refine Zs (o (s+1) ⟨Zq,fun j k h=>by by_cases e:j=s;subst e;simpa using u;exact f.2 j k Zq⟩ Zq)
 rw [if_pos (dM.2 fun y x=>by obtain ⟨z,w,rfl⟩:=cF.1 x;obtain ⟨j,k,rfl⟩:=eH w;exact dB (f.2 j k Zq))] at a;refine Zg ?_;exact ⟨_,⟨_,rfl,by rw [a];rfl,rfl⟩,(H6 rfl (by unfold mcL;exact leA))⟩
end
def Ef.setRF {p}{ty}{x}{t}{α}{fl}{l}{sz et k}{u:α}{vs}{g}{j:Int}(hx:evp p x=some (.pointer (some ⟨g,0+j.toNat*sz+k,none⟩)))(hy:evp p y=some (.agg vs.toArray))(hsz: ∀ w,(Go.sizeOf t).run P w= .ok vs.length w)(hf: ∀ x,(fl x).length=sz)
 (hj:j=n) (hn:n<l.length) (hk:k+vs.length<=sz) (hu:Uw (fl l[n]) k vs=fl u) (h1:vs.all (·.oneCell')=true) (hq:Le q (Wx.rsH fl sz et (some ⟨g,0,none⟩) c l::r)):
 Ef P G p q ⟨d,.store t x y,ty,pos,af,gd⟩ fun z q'=>z=undef/\q'=Wx.rsH fl sz et (some ⟨g,0,none⟩) c (l.set n u)::r:=by
 subst hj;rw [cG,eE] at hx;intro tm w ag s;have m:=s.le hq;unfold Wx.rsH at m;obtain ⟨h0,h2|⟨g',a,q1,v,q3,o,q5,s'⟩⟩:=m.slH_elim
 . omega
 cases q1
 have h:n*sz+sz<=l.length*sz:=by
  have:=eQ sz (show n+1<=l.length from hn);rw [fT,Nat.one_mul] at this;omega
 have hc:n*sz+sz<=a.size:=by rw [o];exact dO h (eQ _ v)
 obtain ⟨z,w',q',hr,hs,rfl,rfl⟩:=Ef.storeA (G:=G) (d:=d) (ty:=ty) (pos:=pos) (af:=af) (gd:=gd) (q:=pto g (.cells a.toList.toArray et (0,0))::r) hx hy hsz rfl h1 (Le.here _ _) (by simp [Nat.ble_eq];omega) tm w ag (by simpa using s');refine ⟨_,w',_,hr,?_,rfl,rfl⟩;have hl:(l.set n u).length=l.length:=Zf;unfold Wx.rsH;rw [hl];have i:a.toList.length=c*sz:=by simpa using o
 have f:(Uw a.toList (n*sz+k) vs).length=a.toList.length:=by
  unfold Uw;rw [aA,aA,bB,bY];omega
 refine hs.le (Yo v q3 (by rw [gI,f,i]) ?_ r);rw [List.toList_toArray]
 have e1:(l.set n u).flatMap fl=(l.flatMap fl).take (n*sz)++fl u++(l.flatMap fl).drop (n*sz+sz):=by
  rw [Ul hf,show n*sz+sz=(n+1)*sz by rw [fT];omega,Rj hf,eW,if_pos hn,eJ,cM,aO]
 have e2:l.flatMap fl=(l.flatMap fl).take (n*sz)++fl l[n]++(l.flatMap fl).drop (n*sz+sz):=by
  conv=>lhs;rw [show l=l.set n l[n] by rw [eG]]
  rw [Ul hf,show n*sz+sz=(n+1)*sz by rw [fT];omega,Rj hf,eW,if_pos hn,eJ,cM,aO]
 have b:(l.flatMap fl).length=l.length*sz:=Zx hf l;rw [e1,<-hu];have e3:a.toList=(l.flatMap fl)++a.toList.drop (l.length*sz):=by rw [<-q5];exact (dJ _ _).symm
 obtain ⟨A,hA⟩:=lV ((l.flatMap fl).take (n*sz));obtain ⟨B,hB⟩:=lV ((l.flatMap fl).drop (n*sz+sz));have e:A.length=n*sz:=by rw [hA,bB,b];omega
 have b0:B.length=l.length*sz - (n*sz+sz):=by rw [hB,bY,b]
 rw [<-hA,<-hB] at e2|-;have a0:=hf l[n];rw [e3,e2];unfold Uw
 have t1:((A++fl l[n]++B)++a.toList.drop (l.length*sz)).take (n*sz+k)=A++(fl l[n]).take k:=by
  rw [aO,aO,<-e,List.take_length_add_append,List.take_append_of_le_length Zq]
 have t2:((A++fl l[n]++B)++a.toList.drop (l.length*sz)).drop (n*sz+k+vs.length)=(fl l[n]).drop (k+vs.length)++(B++a.toList.drop (l.length*sz)):=by
  rw [aO,aO,fW,<-e,List.drop_length_add_append,List.drop_append_of_le_length Zq]
 rw [t1,t2];rw [show A++(fl l[n]).take k++vs++((fl l[n]).drop (k+vs.length)++(B++a.toList.drop (l.length*sz)))=(A++((fl l[n]).take k++vs++(fl l[n]).drop (k+vs.length))++B)++a.toList.drop (l.length*sz) by simp only [aO]];apply List.take_left';simp only [aA,bB,bY];omega
def frC (x:MTC):List Value:= [I64 x.t.code,I64 x.t.pc,.slice x.la x.t.loc.length x.lc,.slice x.ta x.t.stk.length x.tc]
def Zj4 {o}{x}(h:CellsAt q b o (mtC x)):CellsAt q b (o+2) (frC x):=fun k v e=>by
 match k,e with
 |0,e=>exact h 2 v e
 |1,e=>exact h 3 v e
 |2,e=>exact h 4 v e
 |3,e=>exact h 5 v e
section
variable {x:MTC}
def Zh0 (hs:Sees q a (l.flatMap mtC))(hL:l.length<=1000000000):CF G 123 (Ae a l c) (q) (Ret fun v q'=> ∃ a' c',v= .slice a' l.length c'/\q'=rsH mtC 7 147 a' c' l::q):=by
 refine aE ntmps123 fun F cs=> ?_;rcases cQ l.length with b|b
 . obtain rfl:=aW b;refine Wg ?_ ?_<;>intro j
   . refine Zg ?_;exact ⟨_,⟨_,rfl,none,0,rfl,rfl⟩,((leA).trans (Zc _ _ _ _))⟩
   refine Zz ?_;apply bU (Q7 mtC underlying125 Kt);rintro _ _ ⟨g,rfl,rfl⟩;refine Zz ?_;apply bU (Z9 (f:=mtC) (l:= []) (m:= []) underlying125 Kt rfl rfl Zr rfl rfl Zj (hs.le leA) Zqh Qw Qw);rintro _ _ ⟨e,d,rfl,rfl⟩;refine Zg ?_;exact ⟨_,⟨_,rfl,e,d,Zf,rfl⟩,leA⟩
 refine Yq hs (by rw [Zx Zr];omega) fun k i h=> ?_;subst h;refine Zz ?_;apply bU (Q7 mtC underlying125 Kt);rintro _ _ ⟨g,rfl,rfl⟩;refine Zz ?_;apply bU (Z9 (f:=mtC) (l:= []) (m:=l) underlying125 Kt rfl rfl Zr rfl rfl Zj (hs.le leA) Zqh Qw Qw);rintro _ _ ⟨e,d,rfl,rfl⟩;refine Zg ?_;exact ⟨_,⟨_,rfl,e,d,Zf,rfl⟩,leA⟩
def Zwb (h1:Sees q x.la (x.t.loc.map I64))(h2:Sees q x.ta (x.t.stk.map I64))(b1:x.t.loc.length<=1000000)(b2:x.t.stk.length<=1000000):CF G 124 [.agg (frC x).toArray] (q) (Ret fun v q'=> ∃ a1 c1 a2 c2,v= .agg (frC { x with la:=a1,lc:=c1,ta:=a2,tc:=c2 }).toArray/\q'=lsH I64 2 a2 c2 x.t.stk::lsH I64 2 a1 c1 x.t.loc::q):=by
 refine aE ntmps124 fun F cs=> ?_;refine Yb fun n1=> ?_
 refine Zo zeroValue145 fun n2=> ?_
 refine rn [2,0,1,2,4,5] ?_;apply Wk 2 (aG _) (Jh (l:=x.t.loc) ((h1).le leA) Zq);refine kk2 fun b a=> ?_
 apply dd [6];apply Wk 5 (aG _) (Jh (l:=x.t.stk) ((h2).le leA) Zq);refine kk2 fun a1 c1=> ?_
 refine Zg ?_;exact ⟨_,⟨_,rfl,b,a,a1,c1,by rfl,rfl⟩,leA⟩
def mcopy_ok (h8:1<=s.ths.length/\s.ths.length<=8)(hys:s.sy.ok N)(hN:N<=1000000000)(hC:s.cells.length<=1000000)(hT: ∀ t∈s.ths,t.loc.length<=1000000/\t.stk.length<=1000000/\t.sp.length<=1000000):CF G 65 [pt p] (maH p K s::q) (Ret fun v q'=> ∃ p2,v= pt p2/\q'=maH p2 K s::maH p K s::q):=by
 refine aE ntmps65 fun F cs=> ?_;refine Eb fun σ hs=> ?_;subst hs;rw [gS] at h8;replace hys:σ.sy.ok N:=hys;replace hC:σ.cells.length<=1000000:=hC;replace hT: ∀ x∈σ.ths,x.t.loc.length<=1000000/\x.t.stk.length<=1000000/\x.t.sp.length<=1000000:=(fun x hx=>hT _ (cW hx));have k0:=Zx Zr σ.ths
 refine Zz ?_;apply bD (Tn (p:=p) (K:=K) clA);refine Zo zeroValue127 fun n1=> ?_
 refine rn [0,2,0,1,2,3,4,6,7,8,9,11,12,13,14] ?_;apply Wk 4 (aG _) (Jh (l:=σ.cells) ((bV _).le leA) Zq);refine kk2 fun ac cc=> ?_
 apply Q2 9 (Copy_Y hys Zq);refine kd1 fun py=> ?_
 refine ⟨hlA,?_⟩;apply Wk 14 (aG _) (Zh0 (l:=σ.ths) ((bJ _).le leA) Zq);refine kk2 fun j0 ct=> ?_
 refine Zz ?_;refine Vq (a:=j0) (l:=σ.ths) Zq fun o i0=> ?_;subst i0;refine cH (bW (fun (s:Nat×List MTC)=>s.1<=σ.ths.length/\s.2.length=s.1/\s.2.map MTC.t=(σ.ths.take s.1).map MTC.t) (fun s=> [(2,.pointer none),(3,pt n1),(32,I64 σ.ths.length),(33,I64 (s.1:Int))]) (fun s=>pC n1 [.pointer (some ⟨K.pp,0,none⟩),.pointer (some ⟨K.mp,0,none⟩),.map (some K.mb),.slice ac σ.cells.length cc,pt py,.slice (some ⟨o,0,none⟩) σ.ths.length ct,I64 σ.out.kind,I64 σ.out.trap,I64 σ.out.th,I64 σ.out.stmt,I64 σ.cnt] 127::lsH I64 2 ac cc σ.cells::yH py σ.sy::rsH mtC 7 147 (some ⟨o,0,none⟩) ct (s.2++σ.ths.drop s.1)::stars (s.2.map mtH)::mcP p K σ::lsH I64 2 σ.ca σ.cc σ.cells::yH σ.sp σ.sy::rsH mtC 7 147 σ.ha σ.hc σ.ths::stars (σ.ths.map mtH)::(q++F)) (fun s=>σ.ths.length - s.1) (fun s d0 ih=> ?_) (0, []) ⟨aZ _,rfl,rfl⟩) Z5 (aK (Y9 _) leA);try dsimp only at d0 ih|-
 obtain ⟨l0,m,b0⟩:=d0;obtain ⟨i,d⟩:=s;dsimp only at*;refine Zp ?_ ?_<;>intro h0
 . have e:i<σ.ths.length:=Zq;obtain ⟨x,hx⟩:=lV σ.ths[i];have hb:=hT x (hx ▸ aC e);have g0:=fun q:List HP=>Zhu (r:=q) e;have e0:=fun q:List HP=>Zhp (r:=q) e;have f0:=fun q:List HP=>Xd (r:=q) e;rw [<-hx] at g0 e0 f0
   have a0:i<(d++σ.ths.drop i).length:=by rw [aA,bY];omega
   have c0:(d++σ.ths.drop i)[i]=x:=by rw [fI Zq];simp [m,hx]
   have c: ∀ r,CellsAt (rsH mtC 7 147 (some ⟨o,0,none⟩) ct (d++σ.ths.drop i)::r) o (0+(i:Int).toNat*7) (mtC x):=fun r=>by rw [<-c0];exact eX (j:=(i:Int)) (bJ r) (aG _) Zr a0 rfl
   refine rn [12,0,4,0,1,2,3,4,5,8,9,10] ?_;refine ldD 10 ?_ (hc:=(((c _).le leA) 6 _ rfl));apply eT 5 rfl (Rd.ef (Ig (us:=frC x) rfl isAgg145 sizeOf145 rfl ((Zj4 (c _)).le leA)));rintro _ _ ⟨rfl,rfl⟩;refine ⟨(hlA (h:=by repeat first|exact trivial|refine ⟨clA,?_⟩|refine ⟨(((c _).le leA) 6 _ rfl),?_⟩|refine ⟨((Zj4 (c _)).le leA) 0 _ rfl,?_⟩|refine ⟨((Zj4 (c _)).le leA) _ _ rfl,?_⟩)),?_⟩;apply Wk 6 (aG _) (Zwb (x:=x) ((g0 _).le leA) ((e0 _).le leA) hb.1 hb.2.1);rintro _ _ ⟨a1,y,z,w,rfl,rfl⟩;refine ⟨(hlA (h:=by repeat first|exact trivial|refine ⟨clA,?_⟩|refine ⟨(((c _).le leA) 6 _ rfl),?_⟩|refine ⟨((Zj4 (c _)).le leA) 0 _ rfl,?_⟩|refine ⟨((Zj4 (c _)).le leA) _ _ rfl,?_⟩)),?_⟩;apply Wk 11 (aG _) (Ha (l:=x.t.sp) ((f0 _).le leA) Zq);refine kk2 fun a4 c4=> ?_
   refine Zz ?_;refine gL 14 rfl (Ef.setRF (g:=o) (fl:=mtC) (l:=d++σ.ths.drop i) (u:= { x with la:=a1,lc:=y,ta:=z,tc:=w }) (vs:=frC ({ x with la:=a1,lc:=y,ta:=z,tc:=w } :MTC)) (n:=i) (k:=2) (j:=(i:Int)) rfl rfl sizeOf145 Zr rfl a0 (show 2+4<=7 by decide) (by rw [c0];rfl) rfl Zj) ?_;refine kk0 ?_;refine Zz ?_;refine gL 17 rfl (Wq (g:=o) (f:=mtC) (l:=(d++σ.ths.drop i).set i { x with la:=a1,lc:=y,ta:=z,tc:=w }) (u:= { x with la:=a1,lc:=y,ta:=z,tc:=w,sa:=a4,sc:=c4 }) (n:=i) (k:=6) (j:=(i:Int)) rfl rfl sizeOf23 Zr rfl (by rw [aR];exact a0) rfl (by rw [aY];rfl) rfl rfl Zj) ?_;refine kk0 ?_;rw [eV];refine Zz ?_;rw [Pf d (σ.ths.drop i) i _ m (by rw [bY];omega),fZ];apply cE (q':=stars ((d++ [({ x with la:=a1,lc:=y,ta:=z,tc:=w,sa:=a4,sc:=c4 } :MTC)]).map mtH)::_) (aK (b:=stars (d.map mtH)::lsH I64 2 a1 y x.t.loc::lsH I64 2 z w x.t.stk::lsH I64 3 a4 c4 x.t.sp::_) (bC Zj (bC Zj (bC Zj Zj))) (aK (cC _ (Zh (mtL ({ x with la:=a1,lc:=y,ta:=z,tc:=w,sa:=a4,sc:=c4 } :MTC)) _)) (Zbq d ({ x with la:=a1,lc:=y,ta:=z,tc:=w,sa:=a4,sc:=c4 } :MTC) _)));refine Zs (ih (i+1,d++ [({ x with la:=a1,lc:=y,ta:=z,tc:=w,sa:=a4,sc:=c4 } :MTC)]) ⟨Zy,by dsimp only;rw [aA];simp [m],by dsimp only;rw [aM e,aN,aN,b0,<-hx];rfl⟩ Zy)
 obtain rfl:i=σ.ths.length:=Zq;rw [bR] at b0;rw [dU,cA];clear ih;refine Zg ?_;exact ⟨_,⟨_,rfl,n1,rfl,rfl⟩,(H6 (σ:=(⟨ac,cc,σ.cells,py,σ.sy,some ⟨o,0,none⟩,ct,d,σ.out,σ.cnt⟩:MC)) (by unfold MC.er;rw [b0]) (by unfold mcP mcC mcL;dsimp only;rw [m];exact aK (b:=pC n1 [.pointer (some ⟨K.pp,0,none⟩),.pointer (some ⟨K.mp,0,none⟩),.map (some K.mb),.slice ac σ.cells.length cc,pt py,.slice (some ⟨o,0,none⟩) σ.ths.length ct,I64 σ.out.kind,I64 σ.out.trap,I64 σ.out.th,I64 σ.out.stmt,I64 σ.cnt] 127::lsH I64 2 ac cc σ.cells::yH py σ.sy::rsH mtC 7 147 (some ⟨o,0,none⟩) ct d::stars (d.map mtH)::(maH p K σ.er::(q++F))) (bC Zj (bC Zj (bC Zj (bC Zj (bC Zj (H6 (σ:=σ) rfl (by unfold mcL;exact leA))))))) (aG _)))⟩
end
def MS.doP (main:Int)(m:Mdl)(L:List PStm)(fuel:Nat)(s:MS)(i:Int):MS×PEv×Int:=
 if i<0\/(s.ths.length:Int)<=i then (s,zEv 0 0,2)
 else if (s.all m L).length=0 then (s,zEv 0 0,150)
 else if s.can m L i.toNat=false then (s,zEv 0 0,151)
 else
  let x:=L.getD ((s.th i.toNat).at m).a.toNat Hs
  let r:=doM main m x.kd x.slt i.toNat fuel s (zEv i x.idn)
  if r.2.2≠0 then ({ s with out:=⟨4,r.2.2,i,x.idn⟩ }, { zEv i x.idn with trap:=r.2.2,acc:=r.2.1.acc },0)
  else (r.1,r.2.1,0)
section
variable {a:Nat}{i:Int}
abbrev A9 :=(⟨zEv 0 0,none,0,none,0⟩:EvC)
def mDo_ok (hE:ME q K g m)(hQ:MQ q K sb so L)(gc:GC q)(ge:GE q)(hk:Ho m=0)(hS: ∀ n,n<s.ths.length->Stands m (L.map Stm.er) s n)(h8:1<=s.ths.length/\s.ths.length<=8)(hys:s.sy.ok N)(hN:N<=1000000000)(hC:s.cells.length<=1000000)(hT: ∀ t∈s.ths,t.loc.length<=1000000/\t.stk.length<=1000000/\t.sp.length<=1000000)(hG: ∀ n,n<s.ths.length->s.can m (L.map Stm.er) n=true->GoodM g m (((L.map Stm.er).getD ((s.th n).at m).a.toNat Hs).kd) (((L.map Stm.er).getD ((s.th n).at m).a.toNat Hs).slt) n N fuel true (s.put n { s.th n with st:=1 }) { zEv n (((L.map Stm.er).getD ((s.th n).at m).a.toNat Hs).idn) with woke:=decide ((s.th n).st=3) }):CF G 37 [pt p,I64 i] (maH p K s::q) (Ret fun v q'=> ∃ e:EvC,e.e=(s.doP g.main m (L.map Stm.er) fuel i).2.1/\v= .tuple [.agg (evC e).toArray,I64 (s.doP g.main m (L.map Stm.er) fuel i).2.2].toArray/\q'=rsH acC 3 158 e.aa e.ac e.e.acc::rsH snC 3 161 e.na e.nc e.e.syn::maH p K (s.doP g.main m (L.map Stm.er) fuel i).1::q):=by
 refine aE ntmps37 fun F cs=> ?_;obtain ⟨D,d⟩:=lV (s.doP g.main m (L.map Stm.er) fuel i);rw [<-d];unfold MS.doP at d;refine Eb fun σ hs=> ?_;have hl:σ.ths.length=s.ths.length:=(by rw [<-hs,gS])
 refine Zo zeroValue63 fun n1=> ?_
 refine Zz ?_;refine Wb (Tn (p:=p) (K:=K) clA) ?_;refine' Yi ?_;refine Zp ?_ ?_<;>intro h1
 . rw [if_pos Zq] at d;refine Zg ?_;exact ⟨_,⟨_,rfl,A9,by rw [d],by rw [d];rfl,by rw [d]⟩,(aK (b:=maH p K s::(q++F)) (H6 hs (by unfold mcL;exact leA)) (aK (Zc snC 3 161 _) (Zc acC 3 158 _)))⟩
 rw [if_neg Zq] at d;obtain ⟨n,rfl⟩:=aU (show 0<=i by omega);have hn:n<s.ths.length:=Zq;rw [show ((n:Nat):Int).toNat=n from rfl] at d;refine cE (q':=maH p K s::pC n1 zz0 63::(q++F)) (H6 hs (by unfold mcL;exact leA)) ?_;clear hs hl;refine Zz ?_;apply Zv (aG _) (Zqu (S:=s) (L:=L) (q:=pC n1 zz0 63::(q++F)) (hE.le leA) (hQ.le leA) hS h8.2 hys hN);rintro _ _ ⟨a1,c1,rfl,rfl⟩;refine Zp ?_ ?_<;>intro h2
 . rw [if_pos Zq] at d;refine Zg ?_;exact ⟨_,⟨_,rfl,A9,by rw [d],by rw [d];rfl,by rw [d]⟩,(aK (b:=maH p K s::(q++F)) leA (aK (Zc snC 3 161 _) (Zc acC 3 158 _)))⟩
 rw [if_neg Zq] at d;refine Zz ?_;apply Zv leA (Zji (n:=n) (s:=s) (L:=L) (q:=pC n1 zz0 63::(q++F)) (hE.le leA) (hQ.le leA) (hS n hn) hys hN);rintro _ _ ⟨rfl,rfl⟩;refine Wg ?_ ?_<;>intro w
 . replace w:s.can m (L.map Stm.er) n=false:=(by simpa using w);rw [if_pos w] at d;refine Zg ?_;exact ⟨_,⟨_,rfl,A9,by rw [d],by rw [d];rfl,by rw [d]⟩,(aK (b:=maH p K s::(q++F)) leA (aK (Zc snC 3 161 _) (Zc acC 3 158 _)))⟩
 replace w:s.can m (L.map Stm.er) n=true:=(by simpa using w);rw [if_neg (by rw [w];decide)] at d;dsimp only at d;have hg:=hG n hn w;have b0:=hS n hn;have c0:(s.th n).st≠4:=(fun e=>by unfold MS.can at w;rw [if_pos (.inr (.inr e))] at w;cases w);have ha:=b0.a c0;obtain ⟨j,hj⟩:=aU ha.1;rw [hj] at d hg ha;rw [aI] at ha;have e0:j<L.length:=Zq;rw [show (L.map Stm.er).getD (j:Int).toNat Hs=(L[j]).er by rw [cG,aH,bZ,aB e0];rfl] at d hg;have hX:=hQ.c j e0;obtain ⟨x,hx⟩:=lV L[j];rw [<-hx] at hX d hg;obtain ⟨h,j0⟩:=lV x.er.idn;rw [<-j0] at d hg;have u:Cl q ⟨sb,so+j*25+21,none⟩ (I64 h):=hX 21 (I64 h) (by rw [j0];obtain ⟨kk,ln,cl,nm,wt,⟨ek,en,y0,v0,z0,x0,el,ea,ec⟩,⟨xk,xn,r0,xsl,s0,q0,xl,xa,xc⟩,bd,w0,ba,bc,d1,b1,u0,sl,ot,t0⟩:=x;rfl);refine Eb fun σ hs=> ?_;have z:n<σ.ths.length:=(by rw [<-hs,gS] at hn;exact hn);have o:s.th n=(σ.ths[n]).t:=(by rw [<-hs];exact Y5 z)
 have m0:0<=σ.ths[n].t.code/\σ.ths[n].t.code<m.threads.length:=(by rw [<-o];exact b0.k);have i0:σ.ths[n].t.pc<(m.threads[(σ.ths[n].t.code).toNat]'Zq).ins.length:=(by simp only [<-o];exact b0.in);have k0:0<=σ.ths[n].t.pc:=(by rw [<-o];exact b0.p.1);refine Vq (l:=σ.ths) Zq fun ga e_=> ?_;have hr: ∀ r,Sees (rsH mtC 7 147 σ.ha σ.hc σ.ths::r) (some ⟨ga,0,none⟩) (σ.ths.flatMap mtC):=fun r=>by rw [<-e_];exact bJ r
 refine Zz ?_;refine Wb (Zjd (p:=p) (K:=K) (g:=g) (m:=m) (L:=L) (sb:=sb) (so:=so) (j:=j) (c:=ga) (a:=0+(n:Int).toNat*7) (st:=σ.ths[n].t.st) (k:=σ.ths[n].t.code) (x:=σ.ths[n].t.pc) (hE.le leA) (hQ.le leA) clA clA (cX (n:=n) (hr _) leA Zr z rfl 1 _ rfl) (by rw [<-o];exact c0) (cX (n:=n) (hr _) leA Zr z rfl 2 _ rfl) (cX (n:=n) (hr _) leA Zr z rfl 3 _ rfl) m0 ⟨k0,i0⟩ (by rw [<-o];exact hj) e0) ?_;refine eN (q':=maH p K s::pC n1 zz0 63::(q++F)) (H6 hs (by unfold mcL;exact leA)) ?_;apply Zv (aG _) (mcopy_ok (q:=pC n1 zz0 63::(q++F)) h8 hys hN hC hT);rintro _ _ ⟨p2,rfl,rfl⟩;refine XO.maO fun y a0=> ?_
 refine Yb fun n2=> ?_
 refine Zz ?_;refine ld ?_ (hc:=(u.le leA));refine Zz ?_;refine eN (q':=spH n2 K n ⟨sb,so+j*25,none⟩ s (zEv n h)::maH p K s::pC n1 zz0 63::(q++F)) (aK (Zc snC 3 161 _) (aK (Zc acC 3 158 _) (U7 (σ:=y) (e:=(⟨zEv n h,none,0,none,0⟩:EvC)) a0 rfl (by unfold mcL evL;exact leA)))) ?_;obtain ⟨R,hR⟩:=lV (doM g.main m x.er.kd x.er.slt n fuel s (zEv n h));rw [<-hR] at d;apply Zv (aG _) (mdo_ok (N:=N) (n_:=fuel) (x:=x) (s:=s) (ev:=zEv n h) (q:=maH p K s::pC n1 zz0 63::(q++F)) (hX.le leA) (hE.le leA) (gc.le leA) (ge.le leA) hk hn hg);rintro _ _ ⟨rfl,rfl⟩;rw [<-hR];refine Wg ?_ ?_<;>intro h4
 . replace h4:R.2.2≠0:=sp h4;rw [if_pos h4] at d;refine Td fun y f a0 f0=> ?_
   refine Eb fun g0 h0=> ?_
   refine Zz ?_;refine ld ?_ (hc:=(u.le leA));refine Zz ?_;refine ldD 4 ?_ (hc:=(u.le leA));refine rn [6,7,8,9,10,11,12,13,14,0] ?_;refine Zl (rsH acC 3 158 (⟨{ zEv n h with trap:=R.2.2,acc:=f.e.acc },f.aa,f.ac,none,0⟩:EvC).aa (⟨{ zEv n h with trap:=R.2.2,acc:=f.e.acc },f.aa,f.ac,none,0⟩:EvC).ac (⟨{ zEv n h with trap:=R.2.2,acc:=f.e.acc },f.aa,f.ac,none,0⟩:EvC).e.acc::rsH snC 3 161 (⟨{ zEv n h with trap:=R.2.2,acc:=f.e.acc },f.aa,f.ac,none,0⟩:EvC).na (⟨{ zEv n h with trap:=R.2.2,acc:=f.e.acc },f.aa,f.ac,none,0⟩:EvC).nc (⟨{ zEv n h with trap:=R.2.2,acc:=f.e.acc },f.aa,f.ac,none,0⟩:EvC).e.syn::maH p K D.1::q) func37 (rAT_ results37) ⟨_,rfl,(⟨{ zEv n h with trap:=R.2.2,acc:=f.e.acc },f.aa,f.ac,none,0⟩:EvC),by rw [d,<-f0],by rw [d];rfl,rfl⟩ (aK (b:=maH p K D.1::rsH acC 3 158 f.aa f.ac f.e.acc::(q++F)) (H6 (σ:=({ g0 with out:=⟨4,R.2.2,n,h⟩ } :MC)) (by rw [d,<-h0];rfl) (by unfold mcL;exact leA)) (aK (Zc snC 3 161 _) leA))
 replace h4:R.2.2=0:=(by simpa using h4);rw [if_neg (fun k=>k h4)] at d;refine Td fun y f a0 f0=> ?_
 refine Eb fun g0 h0=> ?_
 refine Zg ?_;exact ⟨_,⟨_,rfl,f,by rw [d,<-f0],by rw [d];rfl,rfl⟩,(aK (b:=maH p K D.1::rsH acC 3 158 f.aa f.ac f.e.acc::rsH snC 3 161 f.na f.nc f.e.syn::(q++F)) (H6 (σ:=y) (by rw [d,<-a0]) (by unfold mcL;exact leA)) leA)⟩
end
structure MHd (q:List HP) (K:MK) (sb so:Nat) (g:FC) (m:Mdl) (L:List Stm) (fuel N:Nat) (s:MS):Prop where
 E:ME q K g m
 Q:MQ q K sb so L
 gc:GC q
 ge:GE q
 k:Ho m=0
 S: ∀ n,n<s.ths.length->Stands m (L.map Stm.er) s n
 h8:1<=s.ths.length/\s.ths.length<=8
 y:s.sy.ok N
 n9:N<=1000000000
 C:s.cells.length<=1000000
 T: ∀ t∈s.ths,t.loc.length<=1000000/\t.stk.length<=1000000/\t.sp.length<=1000000
 G: ∀ n,n<s.ths.length->s.can m (L.map Stm.er) n=true->GoodM g m (((L.map Stm.er).getD ((s.th n).at m).a.toNat Hs).kd) (((L.map Stm.er).getD ((s.th n).at m).a.toNat Hs).slt) n N fuel true (s.put n { s.th n with st:=1 }) { zEv n (((L.map Stm.er).getD ((s.th n).at m).a.toNat Hs).idn) with woke:=decide ((s.th n).st=3) }
def MHd.le (h:MHd q' K sb so g m L fuel N s)(l:Le q q'):MHd q K sb so g m L fuel N s:=⟨h.E.le l,h.Q.le l,h.gc.le l,h.ge.le l,h.k,h.S,h.h8,h.y,h.n9,h.C,h.T,h.G⟩
def ixM (k:Int)(n:Nat):Nat:=((k.tmod n+n).tmod n).toNat
def ixM_ok (h:0<n)(h8:n<=1000):(-(n:Int)<k.tmod n/\k.tmod n<n)/\(0<=(k.tmod n+n).tmod n/\(k.tmod n+n).tmod n<n)/\ixM k n<n:=by
 have c: -(n:Int)<k.tmod n/\k.tmod n<n:=by
  exact ⟨Int.lt_tmod_of_pos k (b:=(n:Int)) Zq,Int.tmod_lt_of_pos k (b:=(n:Int)) Zq⟩
 have a:0<=(k.tmod n+n).tmod n/\(k.tmod n+n).tmod n<n:=⟨Int.tmod_nonneg _ Zq,Int.tmod_lt_of_pos _ Zq⟩;exact ⟨c,a,by unfold ixM;omega⟩
def MS.stepP (main:Int)(m:Mdl)(L:List PStm)(fuel:Nat)(s:MS)(k:Int):MS×PEv×Int:=
 if (s.all m L).length=0 then (s,zEv 0 0,150) else s.doP main m L fuel ((s.all m L).getD (ixM k (s.all m L).length) 0)
def all_lenM (m:Mdl)(L:List PStm)(s:MS):(s.all m L).length<=s.ths.length:=by
 unfold MS.all;rw [aI];have:=gB (fun n=>s.can m L n) (List.range s.ths.length);rwa [List.length_range] at this
section
variable {a:Nat}{i:Int}
def mStep_ok (hH:MHd q K sb so g m L fuel N s)(hk: -9223372036854775808<=k/\k<=9223372036854775807):CF G 59 [pt p,I64 k] (maH p K s::q) (Ret fun v q'=> ∃ e:EvC,e.e=(s.stepP g.main m (L.map Stm.er) fuel k).2.1/\v= .tuple [.agg (evC e).toArray,I64 (s.stepP g.main m (L.map Stm.er) fuel k).2.2].toArray/\q'=rsH acC 3 158 e.aa e.ac e.e.acc::rsH snC 3 161 e.na e.nc e.e.syn::maH p K (s.stepP g.main m (L.map Stm.er) fuel k).1::q):=by
 refine aE ntmps59 fun F cs=> ?_;obtain ⟨D,a⟩:=lV (s.stepP g.main m (L.map Stm.er) fuel k);rw [<-a];unfold MS.stepP at a;have d:=all_lenM m (L.map Stm.er) s;have o:=hH.h8;refine Eb fun σ t=> ?_
 refine Zo zeroValue63 fun n1=> ?_
 refine Zz ?_;refine Wb (Tn (p:=p) (K:=K) clA) ?_;refine eN (q':=maH p K s::pC n1 zz0 63::(q++F)) (H6 t (by unfold mcL;exact leA)) ?_;apply Zv (aG _) (Zqu (S:=s) (L:=L) (q:=pC n1 zz0 63::(q++F)) (hH.E.le leA) (hH.Q.le leA) hH.S o.2 hH.y hH.n9);rintro _ _ ⟨a1,c1,rfl,rfl⟩;obtain ⟨A,x⟩:=lV (s.all m (L.map Stm.er));rw [<-x] at a d|-;refine Zp ?_ ?_<;>intro h2
 . rw [if_pos Zq] at a;refine Zg ?_;exact ⟨_,⟨_,rfl,A9,by rw [a],by rw [a];rfl,by rw [a]⟩,(aK (b:=maH p K s::(q++F)) leA (aK (Zc snC 3 161 _) (Zc acC 3 158 _)))⟩
 rw [if_neg Zq] at a;have h:0<A.length:=Zq;obtain ⟨u,n,c⟩:=ixM_ok (k:=k) h Zq;refine Uz (l:=A) Zq fun z f=> ?_;have j: ∀ r,Sees (lsH I64 3 a1 c1 A::r) (some ⟨z,0,none⟩) (A.map I64):=fun r=>by rw [<-f];exact bV r
 apply xo 16;refine aX 28 (I64 (ixM k A.length:Int)) rfl (by unfold ixM;rw [Int.toNat_of_nonneg n.1]) ?_;refine rf [3018,1] f ?_;refine ld ?_ (hc:=(((j _).le leA).at Zq c));refine aX 30 (I64 (A.getD (ixM k A.length) 0)) rfl (by rw [aH,aB c];rfl) ?_;apply Zv leA (mDo_ok (N:=N) (fuel:=fuel) (s:=s) (L:=L) (g:=g) (m:=m) (sb:=sb) (so:=so) (i:=A.getD (ixM k A.length) 0) (q:=pC n1 zz0 63::(q++F)) (hH.E.le leA) (hH.Q.le leA) (hH.gc.le leA) (hH.ge.le leA) hH.k hH.S o hH.y hH.n9 hH.C hH.T hH.G);rintro _ _ ⟨e,w,rfl,rfl⟩;refine Zg ?_;exact ⟨_,⟨_,rfl,e,by rw [w,a],by rw [a];rfl,rfl⟩,(by rw [a];exact leA)⟩
end
def F5:(prog.info? 63).map (fun i=>(i.zero,i.size,i.bytes))=some (some (.agg #[I64 0,I64 0,.bool false,I64 0,.slice none 0 0,.bool false,I64 0,I64 0,.slice none 0 0]),9,104):=by kernel_rfl
def Hq (x:EvC):(evC x).length=9:=rfl
def Zbg (x:EvC):(evC x).all (·.oneCell')=true:=rfl
def Vl (main:Int)(m:Mdl)(L:List PStm)(fuel:Nat):MS->List Int->MS×List PEv
 |s, []=>(s, [])
 |s,k::r=>if (s.stepP main m L fuel k).2.2≠0 then ((s.stepP main m L fuel k).1, []) else ((Vl main m L fuel (s.stepP main m L fuel k).1 r).1,(s.stepP main m L fuel k).2.1::(Vl main m L fuel (s.stepP main m L fuel k).1 r).2)
abbrev Zw4 (a:Option Addr)(c:Nat)(l:List EvC)(r:List HP):List HP:=rsH evC 9 63 a c l::stars (l.map fun x=>stars (evL x))::r
def Ge (n:Int)(k:Nat):List Int:=(List.range k).map fun i:Nat=>n+i
def Fg (n:Int)(a b:Nat):Ge n (a+b)=Ge n a++Ge (n+a) b:=by
 simp_all [Ge,List.range_add];omega
def seqI_one (n:Int):Ge n 1= [n]:=by simp [Ge,kA]
mutual
def Zzg {c}{lo}: ∀ (s:PStm) (d n n' e:Int),s.ask c lo d n=some n'-> ∃ k:Nat,n'=n+k/\(s.its e).map (fun y=>y.2.idn)=Ge n k
 | .mk k ln cl nm wt ex ix body els id slot other loc,d,n,n',e,h=>by
  unfold PStm.ask at h;split at h
  . cases h
  rename_i l;split at h
  . split at h
    . cases h
    rename_i m j;obtain ⟨g,o,b⟩:=Hk body (d+1) (n+1) m (e+1) j;obtain ⟨f,p,a⟩:=Hk els (d+1) m n' (e+1) h;refine ⟨1+(g+f),Zq,?_⟩;have i:id=n:=Zq;unfold PStm.its;rw [bG,aN,b,a,Fg,seqI_one,Fg,o,show (n:Int)+((1:Nat):Int)=n+1 from rfl];show id::_=_
    rw [i];rfl
  cases h
def Hk {c}{lo}: ∀ (l:List PStm) (d n n' e:Int),Z8 c lo l d n=some n'-> ∃ k:Nat,n'=n+k/\(Zt l e).map (fun y=>y.2.idn)=Ge n k
 | [],d,n,n',e,h=>by
  simp_all [Z8,Zt,Ge]
 |s::r,d,n,n',e,h=>by
  unfold Z8 at h;split at h
  . cases h
  rename_i m f;obtain ⟨b,o,i⟩:=Zzg s d n m e f;obtain ⟨a,j,g⟩:=Hk r d m n' e h;refine ⟨b+a,Zq,?_⟩;simp_all [Zt,Fg]
end
def Vm (F:Fnd):List PStm:=F.ths.flatMap fun t=>(Zt t.body 0).map Prod.snd
def Zyg {c}: ∀ (l:List PTh) (n n':Int),Vk c l n=some n'-> ∃ k:Nat,n'=n+k/\(l.flatMap fun t=>(Zt t.body 0).map Prod.snd).map PStm.idn=Ge n k
 | [],n,n',h=>by unfold Vk at h;cases h;exact ⟨0,Zf,by simp [Ge]⟩
 |t::r,n,n',h=>by
  unfold Vk at h;split at h
  . cases h
  split at h
  . cases h
  rename_i m e;obtain ⟨d,f,g⟩:=Hk t.body 1 n m 0 e;obtain ⟨b,i,a⟩:=Zyg r m n' h;refine ⟨d+b,Zq,?_⟩;rw [cM,aN,a,fO,Fg,<-f];congr 1
def may_ids (h:Bg F=true): ∃ k:Nat,F.stm=k/\(Vm F).map PStm.idn=Ge 0 k:=by
 unfold Bg at h;simp only [bA,fH] at h;obtain ⟨k,e,l⟩:=Zyg F.ths 0 _ h.2;exact ⟨k,Zq,l⟩
def X4 (h:Bg F=true){i}(hi:i<(Vm F).length):((Vm F)[i]).idn=i:=by
 obtain ⟨k,_,l⟩:=may_ids h;have a:((Vm F).map PStm.idn)[i]? =some ((Vm F)[i]).idn:=by grind
 grind [Ge]
def Zfw {τ:Type}(P:Program)(G:World)(gv:Value)(R:τ->List Value->HP->Prop)(xs:List τ)(M0 M1:HP)(pre:List HP):Prop:=
 ∀ (l:Nat) (J:Nat->HP),
  (∀ i (h:i<xs.length) vs A,R xs[i] vs A->CallV P G (Ai l) vs (J i::A::pre) (Ret fun v q=>v= .bool true/\q=J (i+1)::pre))->
  CallV P G gv (As l) (J 0::M0::pre) (Ret fun _ q=>q=J xs.length::M1::pre)
def Zkt {k}{p}{τ}{g}{ps}{ag bd}{gv}{R:τ->List Value->HP->Prop}{xs}{F}{M0 M1}(pre:List HP)(Inv:Nat->List HP)(hI:Zfw P G gv R xs M0 M1 pre)(hg:evp p g=some gv)(hq:Le q (Inv 0++((M0::pre)++F)))
 (hxs: ∀ x vs A,R x vs A->vs.length=ps.length) (hps:ps.all (Nat.blt · f.n)=true) (hf:(P.funcs[f.fn]?).isSome=true) (hro:f.round=none)
 (round: ∀ i (h:i<xs.length) vs A,R xs[i] vs A-> ∀ l rec F₀ cs₀,X P G ⟨f.fn,f.n,.normal,some l⟩ (RQ cs₀ rec l (Inv (i+1)) (fun _ _=>False) (pre++F₀)) [.code ag,.beginRound,.code bd] (Pe ps vs p) [] cs₀ (lp rec l .ready none::(Inv i++(A::(pre++F₀)))))
 (cont: ∀ r,X P G f Q k p (markD r::ds) cs (pto r (.deferred (some []))::(Inv xs.length++((M1::pre)++F)))):
 X P G f Q (.code (.rangeFunc g ps.toArray ag bd)::k) p ds cs q:=by
 refine X.rangeFunc (pre:=Inv 0++(M0::pre)) (F:=F) (R':=fun a q1=>a=none/\q1=Inv xs.length++(M1::pre)) hro hg (by rw [aO];exact hq) (fun l rec b=> ?_) fun r a q1 h=> ?_
 . have j:=hI l (fun i=>stars (lp rec l .ready none::Inv i)) fun i h vs A hR=> ?_
   . apply gY (pre':=stars (lp rec l .ready none::Inv 0)::(M0::pre)) (Zh (lp rec l .ready none::Inv 0) (M0::pre)) j;rintro e q' ⟨v,rfl,rfl⟩;exact ⟨lp rec l .ready none::(Inv xs.length++(M1::pre)),⟨v,rfl,.ready,none,_,Zf,rfl,rfl,rfl⟩,Zb (lp rec l .ready none::Inv xs.length) (M1::pre)⟩
   refine gY (pre':=lp rec l .ready none::(Inv i++(A::pre))) (Zb (lp rec l .ready none::Inv i) (A::pre))
    (CallV.yield (R:=Ret fun v q=>v= .bool true/\q=lp rec l .ready none::(Inv (i+1)++pre)) b hps (by simpa using hxs _ _ _ hR) hf (fun F₀ cs₀=> ?_)) ?_
   . intro tm w hn ha s;obtain ⟨o,d,p',y,z,w',q',⟨u,t,m⟩,h1,h2,h3,h4⟩:=round i h vs A hR l rec F₀ cs₀ tm w hn ha (by rw [aO] at s;exact s);refine ⟨o,d,p',y,z,w',q',⟨u,t,?_⟩,h1,h2,h3,h4⟩
     cases o with
     |fall=>exact ⟨Inv (i+1)++pre,⟨_,rfl,rfl,rfl⟩,by rw [aO];exact m⟩
     |jump c=>obtain ⟨qs,hJ,a0⟩:=m;exact hJ.elim
     |panic ch=>exact m.elim
   rintro e q' ⟨v,rfl,rfl,rfl⟩;exact ⟨stars (lp rec l .ready none::Inv (i+1))::pre,⟨_,rfl,rfl,rfl⟩,Zh (lp rec l .ready none::Inv (i+1)) pre⟩
 obtain ⟨rfl,rfl⟩:=h;have:=cont r;rw [<-aO] at this;exact this
def EvR (x:PEv)(vs:List Value)(A:HP):Prop:= ∃ e:EvC,e.e=x/\vs= [.agg (evC e).toArray]/\A=stars (evL e)
section
variable {a:Nat}{i:Int}{picks:List Int}{pa:Option Addr}{pc n1 n2 y:Nat}{J:Nat->MS->Prop}{Y:Nat->HP}
def Zfe (hc1:Cl pre ⟨n1,0,none⟩ (Aj pa picks pc))(hc2:Cl pre ⟨n2,0,none⟩ (pt p))(h0:J 0 S)(hJ: ∀ j s k,J j s->J (j+1) (s.stepP g.main m (L.map Stm.er) fuel k).1)(hH: ∀ j s,J j s->j<=picks.length->MHd pre K sb so g m L fuel (N+j) s)(hs:Sees pre pa (picks.map I64))(hk: ∀ k∈picks, -9223372036854775808<=k/\k<=9223372036854775807)(hp:picks.length<=10000)(hy: ∀ i (h:i<(Vl g.main m (L.map Stm.er) fuel S picks).2.length) vs A,EvR (Vl g.main m (L.map Stm.er) fuel S picks).2[i] vs A->CallV prog G (Ai y) vs (Y i::A::pre) (Ret fun v q=>v= .bool true/\q=Y (i+1)::pre)):CF G 117 [.func (.yield y) #[] #[],pt n1,pt n2] (Y 0::maH p K S::pre) (Ret fun v q'=>q'=Y (Vl g.main m (L.map Stm.er) fuel S picks).2.length::maH p K (Vl g.main m (L.map Stm.er) fuel S picks).1::pre):=by
 refine aE ntmps117 fun F cs=> ?_;obtain ⟨R,hR⟩:=lV (Vl g.main m (L.map Stm.er) fuel S picks);rw [<-hR];simp only [<-hR] at hy;refine Zz ?_;refine ld ?_ (hc:=(hc1.le leA));refine Zs (bW (fun (s:Nat×MS)=>s.1<=picks.length/\s.1<=R.2.length/\J s.1 s.2/\R=((Vl g.main m (L.map Stm.er) fuel s.2 (picks.drop s.1)).1,R.2.take s.1++(Vl g.main m (L.map Stm.er) fuel s.2 (picks.drop s.1)).2)) (fun s=> [(0,.func (.yield y) #[] #[]),(2,pt n2),(8,.slice pa picks.length pc),(9,I64 picks.length),(10,I64 (s.1:Int))]) (fun s=>Y s.1::maH p K s.2::(pre++F)) (fun s=>picks.length - s.1) (fun s r ih=> ?_) (0,S) ⟨aZ _,aZ _,h0,by rw [hR];rfl⟩);try dsimp only at r ih|-
 obtain ⟨hi,c0,hj,a⟩:=r;obtain ⟨i,s⟩:=s;dsimp only at*;refine Zp ?_ ?_<;>intro h0
 . have o:i<picks.length:=Zq;have u:=hJ i s picks[i] hj;rw [aP o,Vl] at a;obtain ⟨D,hD⟩:=lV (s.stepP g.main m (L.map Stm.er) fuel picks[i]);rw [<-hD] at a u;refine Yq (hs.le leA) (by rw [aI];omega) fun b1 o1 w=> ?_;have a0:=hs;rw [w] at a0;refine Zz ?_;refine ld ?_ (hc:=(hc2.le leA));refine Zz ?_;apply Zv (bC Zj (aG _)) (mStep_ok (N:=N+i) (s:=s) (k:=picks[i]) (fuel:=fuel) (sb:=sb) (so:=so) (L:=L) (g:=g) (m:=m) (q:=Y i::(pre++F)) ((hH i s hj Zq).le leA) (hk _ (aC o)));rintro _ _ ⟨x,hx,rfl,rfl⟩;rw [<-hD] at hx|-;refine Zo zeroValue63 fun n3=> ?_
   refine rn [0,6] ?_;by_cases h5:D.2.2=0
   . refine Ew 21 ?_ rfl (by simp [h5]);apply oo 1;rw [if_neg (fun k=>k h5)] at a;dsimp only at a;have c:R.2=R.2.take i++D.2.1::(Vl g.main m (L.map Stm.er) fuel D.1 (picks.drop (i+1))).2:=aQ Prod.snd a;have d:=aQ Prod.fst a;dsimp only at d;have f:i<R.2.length:=(by rw [c,aA,bB,aJ];omega);have t:R.2[i]=D.2.1:=(by have n:=aQ (fun l:List PEv=>l[i]?) c;rw [aB f,dT (by rw [bB];omega),bB,fG Zq,kI] at n;simpa using n);refine rn [1,0] ?_;refine jE (aK (b:=rsH acC 3 158 x.aa x.ac x.e.acc::rsH snC 3 161 x.na x.nc x.e.syn::Y i::([maH p K D.1]++(pre++F))) leA (aK (cC _ (cC _ (cC _ (Nk [maH p K D.1] pre F)))) (aK (Zh (evL x) _) (iL _ _ _)))) (jO (maH p K D.1::F) (hy i f _ _ ⟨x,by rw [t,hx],rfl,rfl⟩)) ?_;rintro _ _ ⟨_,⟨rfl,rfl⟩,rfl⟩;refine Ye ?_;apply fQ 8 (Aj pa picks pc) rfl (by rw [<-w]);refine cH (ih (i+1,D.1) ⟨Zy,f,u,by dsimp only;rw [aM f,t,aO];exact a⟩ Zy) Z5 (cC _ (Nk pre [maH p K D.1] F))
   refine XO.kt 21 ?_ rfl (by simp [h5]);refine Ye ?_;rw [if_pos h5] at a;dsimp only at a;have d:R.1=D.1:=(by rw [a]);have c:R.2.length=i:=(by have n:=aQ (fun z:MS×List PEv=>z.2.length) a;simp only [cA,bB] at n;omega);refine Zg ?_;exact ⟨_,⟨_,rfl,rfl⟩,(by rw [d,c];exact leA)⟩
 obtain rfl:i=picks.length:=Zq;rw [dU] at a;simp only [Vl,cA] at a;have c:R.2.length=picks.length:=(by have n:=aQ (fun z:MS×List PEv=>z.2.length) a;simp only [bB] at n;omega);refine Zg ?_;exact ⟨_,⟨_,rfl,rfl⟩,(by rw [aQ Prod.fst a,c];exact leA)⟩
def steps_ok:CF G 57 [pt p,.slice pa picks.length pc] (q) (Ret fun v q'=> ∃ na nb,v= .func (.func 117) [].toArray [pt nb,pt na].toArray/\q'=pC nb (Ae pa picks pc) 23::pC na [pt p] 54::q):=by
 refine aE ntmps57 fun F cs=> ?_;refine Yb fun n1=> ?_
 refine Yb fun n2=> ?_
 refine Zg ?_;exact ⟨_,⟨_,rfl,n1,n2,rfl,rfl⟩,leA⟩
def Zve (hc1:Cl pre ⟨n1,0,none⟩ (Aj pa picks pc))(hc2:Cl pre ⟨n2,0,none⟩ (pt p))(h0:J 0 S)(hJ: ∀ j s k,J j s->J (j+1) (s.stepP g.main m (L.map Stm.er) fuel k).1)(hH: ∀ j s,J j s->j<=picks.length->MHd pre K sb so g m L fuel (N+j) s)(hs:Sees pre pa (picks.map I64))(hk: ∀ k∈picks, -9223372036854775808<=k/\k<=9223372036854775807)(hp:picks.length<=10000):Zfw prog G (.func (.func 117) [].toArray [pt n1,pt n2].toArray) EvR (Vl g.main m (L.map Stm.er) fuel S picks).2 (maH p K S) (maH p K (Vl g.main m (L.map Stm.er) fuel S picks).1) pre:=
 fun y J' hy=>kF call117 (Zfe hc1 hc2 h0 hJ hH hs hk hp hy)
end
mutual
def Zk9: ∀ (s:PStm) (d e:Int),(s.its d).map Prod.snd=(s.its e).map Prod.snd
 | .mk _ _ _ _ _ _ _ b l _ _ _ _,d,e=>by simp only [PStm.its,bG,aN,My b (d+1) (e+1),My l (d+1) (e+1)]
def My: ∀ (l:List PStm) (d e:Int),(Zt l d).map Prod.snd=(Zt l e).map Prod.snd
 | [],_,_=>rfl
 |s::r,d,e=>by simp only [Zt,aN,Zk9 s d e,My r d e]
end
def ovT (t:Th):List PStm:=(Zt (Zk t.body) 1).map Prod.snd
def ovL (g:FC):List PStm:=g.ths.l.flatMap ovT
def ovO (g:FC)(k:Nat):Nat:=((g.ths.l.take k).flatMap ovT).length
def ovL_eq (g:FC):ovL g=Vm g.er:=by
 unfold ovL Vm;show _=(g.ths.l.map Th.er).flatMap _
 rw [jN];congr 1;funext t;exact My _ _ _
def ov_at {k i}(hk:k<g.ths.l.length)(hi:i<(Zt (Zk (g.ths.l[k]).body) 1).length): ∃ h:ovO g k+i<(ovL g).length,(ovL g)[ovO g k+i]=((Zt (Zk (g.ths.l[k]).body) 1)[i]).2:=by
 have e:ovL g=(g.ths.l.take k).flatMap ovT++(ovT (g.ths.l[k])++(g.ths.l.drop (k+1)).flatMap ovT):=by
  unfold ovL;rw [<-cM,<-aP hk,<-eJ,dJ]
 have c:(ovT (g.ths.l[k])).length=(Zt (Zk (g.ths.l[k]).body) 1).length:=aI _
 have h:(ovL g)[ovO g k+i]? =some ((Zt (Zk (g.ths.l[k]).body) 1)[i]).2:=by
  rw [e];unfold ovO;rw [dT (Nat.le_add_right _ _),iK,dX Zq];unfold ovT;rw [bZ,aB hi];rfl
 obtain ⟨b,a⟩:=cL.1 h;exact ⟨b,a⟩
def ov_next {k}(hk:k<g.ths.l.length):ovO g (k+1)=ovO g k+(Zt (Zk (g.ths.l[k]).body) 1).length:=by
 unfold ovO;rw [aM hk,eJ,aA];congr 1;show (ovT _++ []).length=_
 rw [cA];exact aI _
def ov_end (g:FC):ovO g g.ths.l.length=(ovL g).length:=by unfold ovO ovL;rw [bR]
def OvR (x:PStm)(vs:List Value)(A:HP):Prop:= ∃ (n:Int) (s:Stm),s.er=x/\vs= [I64 n,.agg (stC s).toArray]/\A=stM s
section
variable {nc y B:Nat}{Y:Nat->HP}
abbrev AM {β:Type}(v0)(v1:List β)(v2):=((.cells (Ae v0 v1 v2).toArray 128 (0,0)):Obj)
def over1_ok (hc:CellsAt pre nc 0 (pgC g))(hK:Kn pre fun M=>g.At M)(hB:CpOk B g)(hy: ∀ i (h:i<(ovL g).length) vs A,OvR (ovL g)[i] vs A->CallV prog G (Ai y) vs (Y i::A::pre) (Ret fun v q=>v= .bool true/\q=Y (i+1)::pre)):CF G 188 (AN y nc) (Y 0::pre) (Ret fun v q'=>q'=Y (ovL g).length::pre):=by
 refine aE ntmps188 fun F cs=> ?_;have hT:=eB (hK.imp fun M h=>h.ths);have hL:=hB.l.2.2.2.1;have l0:=hB.b;refine Yb fun n1=> ?_
 apply oo 4;refine ld ?_ (hc:=(Cl.le (hc 5 _ rfl) leA));refine Zz ?_;refine cH (Zb5 (fun (s:Nat×List Nat)=>s.1<=g.ths.l.length) (fun s=> [(2,pt n1),(8,.slice g.ths.a g.ths.l.length g.ths.c),(9,I64 g.ths.l.length),(10,I64 (s.1:Int))]) (fun s=>s.2.map markD++ []) (fun s=>mks s.2::Y (ovO g s.1)::pC n1 (As y) 353::(pre++F)) (fun s=>g.ths.l.length - s.1) (fun s d0 ih=> ?_) (0, []) (aZ _)) Z5 (aK leA (Il _));try dsimp only at d0 ih|-
 obtain hi:=d0;obtain ⟨j,w⟩:=s;dsimp only at*;refine Zp ?_ ?_<;>intro h0
 . have m:j<g.ths.l.length:=Zq;refine Yq (hT.le leA) (by rw [Zx Qb g.ths.l];omega) fun b1 o1 f0=> ?_;have e0:=hT;rw [f0] at e0;obtain ⟨x,hx⟩:=lV g.ths.l[j];have z:x∈g.ths.l:=(by rw [hx];exact aC m);have n:=hB.t x z;have u:=fun i=>ov_at (g:=g) (k:=j) (i:=i) m;have o:=ov_next (g:=g) m;rw [<-hx] at u o
   have a0: ∀ r,Le r pre->CellsAt r b1 (o1+(j:Int).toNat*3) (thC x):=fun r l=>by rw [hx];exact eX (j:=(j:Int)) (e0.le l) (aG _) Qb m rfl
   refine Zz ?_;apply H2 (us:=thC x) isAgg218 sizeOf218 rfl (a0 _ leA);refine Zo zeroValue3 fun n2=> ?_
   refine Zo zeroValue218 fun n3=> ?_
   refine Zz ?_;apply Zv (aG _) (Zks (l:=x.body) (B:=B) l0 n.1 n.2 ((hK.imp fun M h=>h.bod x z).le leA));rintro _ _ ⟨d,f,e,nb,p,rfl,rfl⟩;refine Zz ?_;have m0:Zn d=Zn x.body:=(by rw [<-Uj d 0,<-Uj x.body 0,p]);rw [<-p] at u o;refine cE (q':=pC nb (Ae f d e) 128::_) leA (fX ?_);refine Zkc (xs:=Zt (Zk d) 1) (im nb (AM f d e)::blM f e d::pC n1 (As y) 353::pC n2 (Aw j) 3::mks w::pre) (fun k:Nat=> [Y (ovO g j+k)]) (fun _ _=>False) (F:=F) (P9 (B:=B) Zq Zq (M8 p n.2) (Kn.blM.there) (dK (iQ _ _ _))) rfl ?_ (by rintro _ _ _ ⟨_,_,rfl,_⟩;rfl) rfl (by rw [func188];rfl) rfl (fun i hi vs A hA l9 rec F0 y0=> ?_) (fun r=> ?_) (fun _ _ _ hJ=>hJ.elim)
   . simp only [ca,na];exact leA
   . obtain ⟨s2,i0,rfl,rfl⟩:=hA;obtain ⟨j0,b0⟩:=u i hi;rw [<-i0] at b0;refine X.sub (p':= [(20,_),(19,_),(18,_),(3,_),(8,_),(2,_),(9,_),(10,_)]) ⟨rfl,rfl,rfl,rfl,rfl,rfl,rfl,rfl,trivial⟩ ?_;simp only [ca,na];obtain ⟨kk,ln,cl,nm,wt,⟨ek,en,u0,r0,v0,t0,el,ea,ec⟩,⟨xk,xn,o0,xsl,p0,n0,xl,xa,xc⟩,bd,s0,ba,bc,x0,w0,id,sl,ot,q0⟩:=s2;refine Zo zeroValue138 fun n4=> ?_
     refine Zz ?_;apply gE rfl leA;refine Zz ?_;refine jE (aK (b:=Y (ovO g j+i)::stM _::([lp rec l9 .busy none,im nb (AM f d e),blM f e d,pC n1 (As y) 353,pC n2 (Aw j) 3,mks w]++(pre++F0))) leA (cC _ (cC _ (Nk [lp rec l9 .busy none,im nb (AM f d e),blM f e d,pC n1 (As y) 353,pC n2 (Aw j) 3,mks w] pre F0)))) (jO ([lp rec l9 .busy none,im nb (AM f d e),blM f e d,pC n1 (As y) 353,pC n2 (Aw j) 3,mks w]++F0) (hy (ovO g j+i) j0 _ _ ⟨(j:Int),_,b0.symm,rfl,rfl⟩)) ?_;rintro _ _ ⟨_,⟨rfl,rfl⟩,rfl⟩;refine Zz ?_;refine gK ⟨rfl,rfl,?_⟩;exact aK (cC _ (Nk pre [lp rec l9 .busy none,im nb (AM f d e),blM f e d,pC n1 (As y) 353,pC n2 (Aw j) 3,mks w] F0)) (by simp only [ca,na];exact leA)
   simp only [ca,na];refine Zz ?_;apply fQ 8 (.slice g.ths.a g.ths.l.length g.ths.c) rfl (by rw [<-f0]);refine cH (ih (j+1,r::w) Zy Zy) Z5 (by dsimp only;rw [o];refine aK ?_ (C7 _ _ _);exact leA)
 obtain rfl:j=g.ths.l.length:=Zq;rw [ov_end];refine Zz ?_;exact gK ⟨rfl,Lv.mks (fS (q':=Y (ovL g).length::pre) func188 (Pj results188) ⟨_,rfl,rfl⟩ leA) (hq:=leA)⟩
def over_ok:CF G 110 (Av g) (q) (Ret fun v q'=> ∃ nb,v= .func (.func 188) [].toArray [pt nb].toArray/\q'=pC nb (pgC g) 29::q):=by
 refine aE ntmps110 fun F cs=> ?_;refine Yb fun n1=> ?_
 refine Zg ?_;exact ⟨_,⟨_,rfl,n1,rfl,rfl⟩,leA⟩
def Zgx (hc:CellsAt pre nc 0 (pgC g))(hK:Kn pre fun M=>g.At M)(hB:CpOk B g):Zfw prog G (.func (.func 188) [].toArray [pt nc].toArray) OvR (ovL g) (stars []) (stars []) pre:=
 fun y J a=>gY (pre':=J 0::pre) (cC _ (dS _ _)) (gA call188 (over1_ok hc hK hB a)) (by
  rintro e q' ⟨v,rfl,rfl⟩;exact ⟨_,⟨v,rfl,rfl⟩,cC _ (Zh [] pre)⟩)
def ovI (L:List PStm)(k nb:Nat):HP:=ex fun x:List Stm×Option Addr×Nat=>stars [pure (Zk x.1=L.take k),pC nb [.slice x.2.1 x.1.length x.2.2] 128,rsH stC 25 138 x.2.1 x.2.2 x.1,stsM x.1]
def ovI_in {L}{k}(x:List Stm×Option Addr×Nat)(h:Zk x.1=L.take k)(hle:Le q (pC nb [.slice x.2.1 x.1.length x.2.2] 128::rsH stC 25 138 x.2.1 x.2.2 x.1::stsM x.1::r)):Le q (ovI L k nb::r):=
 Vt x (hle.trans ((Yu h _).trans (by exact Zh [_,_,_,_] r)))
def X.ovI {todo}{p}{L}{k}
 (x: ∀ (l:List Stm) (a:Option Addr) (c:Nat),Zk l=L.take k->X P G f Q todo p ds cs (pC nb [.slice a l.length c] 128::rsH stC 25 138 a c l::stsM l::q)):X P G f Q todo p ds cs (Go.Proofs.YtadahhbefdnabaaGreatDoor.ovI L k nb::q):=
 X.ex (fun s=>cE (Zb _ _) (kP (fun h=>x s.1 s.2.1 s.2.2 h)))
def Zgm (hK:Kn q fun M=>g.At M)(hB:CpOk B g)(hL:(ovL g).length<=1000000):CF G 51 (Av g) (q) (Ret fun v q'=> ∃ (l':List Stm) (a':Option Addr) (c':Nat),Zk l'=ovL g/\v= .slice a' l'.length c'/\q'=blM a' c' l'::q):=by
 refine aE ntmps51 fun F cs=> ?_;refine Yb fun n1=> ?_
 refine Zo zeroValue128 fun n2=> ?_
 refine Zz ?_;apply Zv (aG _) (over_ok (g:=g));rintro _ _ ⟨nb,rfl,rfl⟩;refine Zz<|cE (q':=pC nb (pgC g) 29::_) leA (fX ?_);refine Zkt (xs:=ovL g) (im nb (.cells (pgC g).toArray 29 (0,0))::q) (fun k:Nat=> [ovI (ovL g) k n2]) (F:=F) (Zgx (B:=B) (dK (iQ _ _ _)) hK.there hB) rfl ?_ (by rintro _ _ _ ⟨_,_,_,rfl,_⟩;rfl) rfl (by rw [func51];rfl) rfl (fun i hi vs A hA l9 rec F0 e0=> ?_) fun r=> ?_
 . simp only [ca,na];apply ovI_in ([],none,0) (by simp [Zk]);exact aK (Zh [] _) (aK Nv (aK (Zc stC 25 138 _) leA))
 . obtain ⟨d9,s2,c0,rfl,rfl⟩:=hA;refine X.sub (p':= [(9,_),(8,_),(7,_),(3,_),(2,_)]) ⟨rfl,rfl,rfl,rfl,rfl,trivial⟩ ?_;simp only [ca,na];refine cE (q':=ovI (ovL g) i n2::_) Zj (X.ovI (fun d a1 c1 h1=> ?_));have d0:d.length<=1000000:=by have e1:=aQ List.length h1;rw [Wr,bB] at e1;omega
   obtain ⟨kk,ln,cl,nm,wt,⟨ek,en,y,t,z,x,el,ea,ec⟩,⟨xk,xn,h,xsl,p,e,xl,xa,xc⟩,bd,w,ba,bc,b0,a0,id,sl,ot,s⟩:=s2;refine Zo zeroValue138 fun n3=> ?_
   refine Zz ?_;apply gE rfl leA;refine Zz ?_;apply eT 3 rfl (Yw (u:=zSm) stC underlying128 Us rfl rfl Z7 rfl);rintro _ _ ⟨g9,rfl,rfl⟩;refine ⟨hlA,?_⟩;apply eT 4 rfl (Z9 (f:=stC) (l:=d) (m:= [zSm]) underlying128 Us rfl rfl Z7 rfl rfl Zj ((bJ _).le Zj) Mz Zi Zi);refine kk2 fun a3 c3=> ?_
   refine Iw (l:=d++ [zSm]) Zf fun g3 e3=> ?_;subst e3;apply Ey 5 rfl (Pu.indexAddr rfl rfl underlying128 sizeOf138 Zq Zi);refine Vd (fl:= []) (XF.two 6 7 trivial (Rt 6 (fun E=>Xi (fl:=stC) (l:=d++ [zSm]) (u:=(Stm.mk kk ln cl nm wt (Ex.mk ek en y t z x el ea ec) (Ex.mk xk xn h xsl p e xl xa xc) bd w ba bc b0 a0 id sl ot s)) (n:=d.length) (j:=(d.length:Int)) (g:=g3) (c:=c3) (et:=138) rfl rfl sizeOf138 Z7 rfl Zf (Mz _) Zj E) ?_) (Rt 7 (fun E=>Ef.stE (b:=n2) (o:=0) (l:= (Ae a1 d c1)) (v:= .slice (some ⟨g3,0,none⟩) (d++ [zSm]).length c3) (t':=128) sizeOf128 rfl rfl rfl rfl Zj rfl E) ?_))
   focus
    rintro _ _ ⟨rfl,rfl⟩;refine ⟨trivial,fR ?_⟩
   rotate_left
   focus
    rintro _ _ ⟨rfl,rfl⟩;refine ⟨trivial,fR ?_⟩;apply gL 6 rfl (I4 (a:=none) (fl:=stC) (l:=d++ [zSm]) (u:=(Stm.mk kk ln cl nm wt (Ex.mk ek en y t z x el ea ec) (Ex.mk xk xn h xsl p e xl xa xc) bd w ba bc b0 a0 id sl ot s)) (n:=d.length) rfl rfl sizeOf138 Z7 rfl Zf (Mz _) Zj);refine kk0 ?_
   all_goals
    refine Zz ?_;rw [show (d++ [zSm]).set d.length (Stm.mk kk ln cl nm wt (Ex.mk ek en y t z x el ea ec) (Ex.mk xk xn h xsl p e xl xa xc) bd w ba bc b0 a0 id sl ot s)=d++ [(Stm.mk kk ln cl nm wt (Ex.mk ek en y t z x el ea ec) (Ex.mk xk xn h xsl p e xl xa xc) bd w ba bc b0 a0 id sl ot s)] by simp];apply cE (q':=stsM (d++ [(Stm.mk kk ln cl nm wt (Ex.mk ek en y t z x el ea ec) (Ex.mk xk xn h xsl p e xl xa xc) bd w ba bc b0 a0 id sl ot s)])::_) (aK (bC Zj Zj) N2);refine gK ⟨rfl,rfl,?_⟩;simp only [ca,na];refine bC Zj (ovI_in (d++ [(Stm.mk kk ln cl nm wt (Ex.mk ek en y t z x el ea ec) (Ex.mk xk xn h xsl p e xl xa xc) bd w ba bc b0 a0 id sl ot s)],some ⟨g3,0,none⟩,c3) (by rw [Ib,h1,aM hi,<-c0];rfl) ?_);rw [show (d++ [zSm]).length=(d++ [(Stm.mk kk ln cl nm wt (Ex.mk ek en y t z x el ea ec) (Ex.mk xk xn h xsl p e xl xa xc) bd w ba bc b0 a0 id sl ot s)]).length by simp];exact leA
 simp only [ca,na];refine cE (q':=ovI (ovL g) (ovL g).length n2::_) Zj (X.ovI (fun d a1 c1 h1=> ?_));rw [bR] at h1;apply cE (q':=rsH stC 25 138 a1 c1 d::stsM d::_) (bC Zj Zj);refine X.frzR (Kn.blk Kn.stsM) (mn:=lE) ?_ (hq:=aG _);refine Zz ?_;exact iH ⟨rfl,Kx (q':=blM a1 c1 d::(q++F)) (fS (q':=blM a1 c1 d::q) func51 (Qq results51 rfl) ⟨_,rfl,d,a1,c1,h1,rfl,rfl⟩ leA) (hq:=bC Zj leA)⟩
end
end Go.Proofs.YtadahhbefdnabaaGreatDoor
