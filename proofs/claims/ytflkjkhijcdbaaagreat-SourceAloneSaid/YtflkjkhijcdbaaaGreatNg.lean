/- Contracts. -/
import Derived.Test.YtflkjkhijcdbaaaGreatNf
set_option maxHeartbeats 16000000
set_option maxRecDepth 100000
set_option linter.all false
namespace Go.Proofs.YtflkjkhijcdbaaaGreat
open Go Go.RowKit Wx Go.Proofs.Tryz
attribute [local irreducible] lsH rsH stars
variable {G:World}{q q':List HP}{n c pa pp b o B i N p:Nat}{lo d k slot:Int}{bb loc:Bool}{x1:Value}{g:FC}{s:Sy}{l:List Int}{a:Option Addr}{M M':Hp}{u:Int->Bool}
structure Cn where
 v:Int
 a:Int
 mu:Int
 co:Int
 ch:Int
 th:Int
def Fnd.cn (f:Fnd):Cn:=⟨f.vars.length,f.arrs.length,f.mu,f.co,f.chs.length,f.ths.length⟩
def inB (n c:Int):Bool:=decide (0<=n/\n<c)
def V9 (c:Cn)(lo slot:Int)(loc:Bool):Bool:=inB slot (if loc=true then lo else c.v)
def Uq (c:Cn)(lo k n slot:Int)(loc:Bool)(op:Int):Int:=
 if k=1 then (if val n then 0 else -1) else if k=2 then (if V9 c lo slot loc=true then 0 else -1) else if k=3 then (if inB slot c.a=true then 1 else -1)
 else if k=4\/k=5 then 1 else if k=6 then (if 1<=op/\op<=11 then 2 else -1) else -1
mutual
def PEx.ask (c:Cn)(lo:Int):PEx->Int->Bool
 | .mk k n _ slot loc op args,d=>decide (1<=d) && decide ((args.length:Int)=Uq c lo k n slot loc op) && Jm c lo args (d - 1)
def Jm (c:Cn)(lo:Int):List PEx->Int->Bool
 | [],_=>true
 |e::r,d=>e.ask c lo d && Jm c lo r d
end
def N3 (c:Cn)(lo k:Int)(e ix:PEx)(nb ne:Nat):Bool:=
 (decide (k=4\/k=5)|| !decide (0<(nb:Int))) && (k==4|| !decide (0<(ne:Int))) && (k !=3||ix.ask c lo 24) && (!decide ((1<=k/\k<=5)\/k=11\/k=15)||e.ask c lo 24)
def Na (c:Cn)(lo k slot other:Int)(loc:Bool):Bool:=
 if k=1 then loc && V9 c lo slot loc else if k=2 then V9 c lo slot loc else if k=3 then inB slot c.a else if k=6\/k=7 then inB slot c.mu
 else if k=8 then inB slot c.co && inB other c.mu else if k=9\/k=10 then inB slot c.co else if k=11 then inB slot c.ch else if k=12 then inB slot c.ch && V9 c lo other loc
 else if k=13 then inB slot c.th else decide (k=4\/k=5\/k=14\/k=15)
mutual
/-- Statements by their numbers from n on: the number behind them; none: they may not be. -/
def PStm.ask (c:Cn)(lo:Int):PStm->Int->Int->Option Int
 | .mk k _ _ _ _ e ix body els id slot other loc,d,n=>
  if 24<d\/n=512\/id≠n then none
  else if (N3 c lo k e ix body.length els.length && Na c lo k slot other loc)=true then
   match Z2 c lo body (d+1) (n+1) with
   |none=>none
   |some m=>Z2 c lo els (d+1) m
  else none
def Z2 (c:Cn)(lo:Int):List PStm->Int->Int->Option Int
 | [],_,n=>some n
 |s::r,d,n=>match s.ask c lo d n with
  |none=>none
  |some m=>Z2 c lo r d m
end
def W4 (c:Cn):List PTh->Int->Option Int
 | [],n=>some n
 |t::r,n=>if t.loc<0\/32<t.loc then none else match Z2 c t.loc t.body 1 n with
  |none=>none
  |some m=>W4 c r m
def Gg (f:Fnd):Bool:=
 decide ((0<=f.mu/\f.mu<=64)/\(0<=f.co/\f.co<=64)/\f.vars.length+f.arrs.length+f.mu+f.co+f.chs.length+f.ths.length<=64/\(∀ v∈f.vars,val v)/\(∀ n∈f.arrs,1<=n/\n<=256)/\(∀ n∈f.chs,1<=n/\n<=16)/\Y7 f.arrs<=256)
def Dh (f:Fnd):Bool:=Gg f && inB f.main f.ths.length && (W4 f.cn f.ths 0==some f.stm)
theorem g_th (g:FC):(g.er.ths.length:Int)=g.ths.l.length:=by show ((g.ths.l.map Th.er).length:Int)=_;rw [aU]
theorem Tj (g:FC):g.er.cn.v=g.vars.l.length:=rfl
theorem Tv (g:FC):g.er.cn.a=g.arrs.l.length:=rfl
theorem cn_ch (g:FC):g.er.cn.ch=g.chs.l.length:=rfl
theorem cn_mu (g:FC):g.er.cn.mu=g.mu:=rfl
theorem cn_co (g:FC):g.er.cn.co=g.co:=rfl
theorem cn_th (g:FC):g.er.cn.th=g.ths.l.length:=g_th g
theorem Tw {c:Cn}{lo d:Int}: ∀ {l:List PEx},Jm c lo l d=true↔ ∀ e∈l,e.ask c lo d=true
 | []=>by simp [Jm]
 |e::r=>by simp [Jm,Tw (l:=r)]
section
variable {n c:Int}
theorem Qc: ∀ (N:Nat) {e:Ex} {b o:Nat} {d:Int} {q:List HP},e.sz<=N->N<=1000000->(0<=d/\d<=24)->(Kn q fun M=>ExAt M ⟨b,o,none⟩ e)->CellsAt q pa 0 (AZ pp x1 lo)->CellsAt q pp 0 (pgC g)->CallF prog G 158 [.pointer (some ⟨pa,0,none⟩),.pointer (some ⟨b,o,none⟩),I64 d] (q) (Ret fun v q'=>v= .bool (e.er.ask g.er.cn lo d)/\q'=q):=fun N=>by
 induction N with
 |zero=>intro e b o d q hs;exact aR hs (by cases e;simp only [Ex.sz];omega)
 |succ N IH=> 
 intro e b o d q hs hN hd hK ha hp;obtain ⟨ek,en,n0,j,n,m,i,ea,ec⟩:=e;refine aC func158 ntmps158 rfl fun F cs=> ?_;have d0:CellsAt q pp 0 [.slice g.vars.a g.vars.l.length g.vars.c,.slice g.arrs.a g.arrs.l.length g.arrs.c,I64 g.mu,I64 g.co,.slice g.chs.a g.chs.l.length g.chs.c,.slice g.ths.a g.ths.l.length g.ths.c,I64 g.main,I64 g.stm]:=fun k v hk=>hp k v (by revert hk;match k with|0|1|2|3|4|5|6|7=>exact fun h=>h|(k+8)=>intro h;cases h)
 have f:=Kn.exC hK;have hA:Kn q fun M=>SlAt M ea ec i.length (i.flatMap exC)/\Ex.Ats M i:=hK.imp fun M h=>h.2;have hS:=fM (hA.imp fun M h=>h.1.2.2)
 have hl:i.length+1<=N+1:=by have:=Nc i;simp only [Ex.sz] at hs;omega
 have e0:=Zx Z4 i;obtain ⟨R,p⟩:=kL ((Ex.er (Ex.mk ek en n0 j n m i ea ec)).ask g.er.cn lo d);rw [<-p];simp only [Ex.er,PEx.ask,W9] at p;refine xx 10 ?_;refine xp 10 ?_ ?_<;>intro h0
 . refine xx 5 ?_;refine Zq (q) func158 (Zn results158 rfl) ⟨_,rfl,cB (by rw [p,aW (by omega)];rfl),rfl⟩
 rw [aN (by omega),gI] at p;refine rf [12,0,1] f ?_;refine kC (fun (x:Int)=> [(0,.pointer (some ⟨pa,0,none⟩)),(1,.pointer (some ⟨b,o,none⟩)),(2,I64 d),(7,I64 x)]) (fun x=>q++F) (fun x=>Uq g.er.cn lo ek en j n m=x/\(0<=x/\x<=2)) (fun x i0=> ?_) fun K=> ?_
 . obtain ⟨j0,o0⟩:=i0;rw [j0] at p;refine rf [6,0,4] f ?_;refine xp 81 ?_ ?_<;>intro h1
   . refine xx 5 ?_;refine Zq (q) func158 (Zn results158 rfl) ⟨_,rfl,cB (by rw [p,aW (by omega)];rfl),rfl⟩
   rw [aN (by omega),gI] at p;refine rf [8,0,4] f ?_;refine aY (cG (fun (s:Nat)=>s<=i.length/\ ∀ e∈i.take s,e.er.ask g.er.cn lo (d - 1)=true) (fun s=> [(0,.pointer (some ⟨pa,0,none⟩)),(1,.pointer (some ⟨b,o,none⟩)),(2,I64 d),(86,I64 i.length),(87,I64 s)]) (fun s=>q++F) (fun s=>i.length - s) (fun s f0 ih=> ?_) 0 ⟨bB _,by simp⟩) Zu leA;try dsimp only at f0 ih|-
   obtain ⟨p0,a0⟩:=f0;refine xx 5 ?_;refine xp 88 ?_ ?_<;>intro h2
   . have t:s<i.length:=(by omega);refine Yd (hS.le leA) (by rw [e0];omega) fun ab ao e_=> ?_;subst e_
     have k0:Kn q fun M=>ExAt M ⟨ab,ao+(s:Int).toNat*7,none⟩ i[s]:=hK.imp fun M h=>by
      obtain ⟨b',o',e1,e2⟩:=fR Z4 (by decide) h.2.1.2.2 t
      cases e1
      exact ⟨e2,Ye.1 h.2.2 _ (aB t)⟩
     have g0:i[s].sz<=N:=by have:=Vx (aB t);simp only [Ex.sz] at hs;omega
     refine rf [15,0,4] f ?_;refine aO call158 (IH (e:=i[s]) (d:=d - 1) g0 (by omega) (by omega) (k0.le leA) (ha.le leA) (hp.le leA)) ?_;refine Zt (bV rfl) ?_;refine ox 1 ?_;refine xp 100 ?_ ?_<;>intro h3
     . refine xx 5 ?_;refine Zq (q) func158 (Zn results158 rfl) ⟨_,rfl,cB (by rw [p];symm;rw [Bool.eq_false_iff];intro k;exact aR (Tw.1 k _ (by rw [Yy];exact aP (aB t))) (by simpa using h3)),rfl⟩
     refine xx 7 ?_
     refine aY (ih (s+1) ⟨by omega,fun e y=>by
      rw [aH t] at y;rcases aQ.1 y with y|y
      . exact a0 e y
      rw [aZ.1 y];simpa using h3⟩ (by omega)) Zu leA
   obtain rfl:s=i.length:=(by omega);rw [cD] at a0;refine xx 6 ?_;refine Zq (q) func158 (Zn results158 rfl) ⟨_,rfl,cB (by rw [p];symm;rw [Tw,Yy];intro e y;obtain ⟨z,r,rfl⟩:=bU.1 y;exact a0 z r),rfl⟩
 skip;refine xx 6 ?_;refine xp 15 ?_ ?_<;>intro g1
 . refine rf [6,0,2] f ?_;refine Zf [22,7,6,0,1,2] ?_;apply Zy 6 28 22 rfl
   . intro w c0;have m0:=sp w;refine rf [3,0,2] f ?_;exact Zz c0 ⟨orF w,Zv⟩
   . intro w c0;have m0:=sp w;refine oo 6 ?_;exact Zz c0 ⟨orT w,Zv⟩
   refine ox 1 ?_;refine xp 28 ?_ ?_<;>intro g3
   . refine xx 5 ?_;refine Zq (q) func158 (Zn results158 rfl) ⟨_,rfl,cB (by rw [p];symm;have r:Uq g.er.cn lo ek en j n m= -1:=(by unfold Uq;unfold V9 inB;rw [Tj,Tv];unfold val;first|(simp_all;done)|(simp_all;omega)|((repeat' split)<;>first|rfl|omega|(exfalso;simp_all;done)|(exfalso;simp_all;omega)));rw [r,aW (by omega)];rfl),rfl⟩
   refine xx 3 ?_;exact aY (K 0 ⟨by unfold Uq;unfold V9 inB;rw [Tj,Tv];unfold val;first|(simp_all;done)|(simp_all;omega)|((repeat' split)<;>first|rfl|omega|(exfalso;simp_all;done)|(exfalso;simp_all;omega)),by omega⟩) Zu leA
 refine xx 6 ?_;refine xp 29 ?_ ?_<;>intro g2
 . refine rf [2,0,1,2,3,4,5,6,7,8,9] f ?_;refine Y2 9 call159 (R8 (ha.le leA) (hp.le leA)) ?_;refine Vz 10 rfl (bV rfl) ?_;refine jV ?_;refine xp 41 ?_ ?_<;>intro g3
   . refine xx 5 ?_;refine Zq (q) func158 (Zn results158 rfl) ⟨_,rfl,cB (by rw [p];symm;have r:Uq g.er.cn lo ek en j n m= -1:=(by unfold Uq;unfold V9 inB;rw [Tj,Tv];unfold val;first|(simp_all;done)|(simp_all;omega)|((repeat' split)<;>first|rfl|omega|(exfalso;simp_all;done)|(exfalso;simp_all;omega)));rw [r,aW (by omega)];rfl),rfl⟩
   refine xx 3 ?_;exact aY (K 0 ⟨by unfold Uq;unfold V9 inB;rw [Tj,Tv];unfold val;first|(simp_all;done)|(simp_all;omega)|((repeat' split)<;>first|rfl|omega|(exfalso;simp_all;done)|(exfalso;simp_all;omega)),by omega⟩) Zu leA
 refine xx 6 ?_;refine xp 42 ?_ ?_<;>intro g3
 . refine rh [6,0,1,2,3,4,5,6,7,8,9,10,11,12] f ha d0 ?_;refine Y2 12 call79 (Ja) ?_ (hL:=(hlH ha d0 f));refine Vz 13 rfl (bV rfl) ?_;refine jV ?_;refine xp 57 ?_ ?_<;>intro g4
   . refine xx 5 ?_;refine Zq (q) func158 (Zn results158 rfl) ⟨_,rfl,cB (by rw [p];symm;have r:Uq g.er.cn lo ek en j n m= -1:=(by unfold Uq;unfold V9 inB;rw [Tj,Tv];unfold val;first|(simp_all;done)|(simp_all;omega)|((repeat' split)<;>first|rfl|omega|(exfalso;simp_all;done)|(exfalso;simp_all;omega)));rw [r,aW (by omega)];rfl),rfl⟩
   refine xx 3 ?_;exact aY (K 1 ⟨by unfold Uq;unfold V9 inB;rw [Tj,Tv];unfold val;first|(simp_all;done)|(simp_all;omega)|((repeat' split)<;>first|rfl|omega|(exfalso;simp_all;done)|(exfalso;simp_all;omega)),by omega⟩) Zu leA
 refine xx 7 ?_;refine xp 58 ?_ ?_<;>intro g4
 . refine xx 7 ?_;exact aY (K 1 ⟨by unfold Uq;unfold V9 inB;rw [Tj,Tv];unfold val;first|(simp_all;done)|(simp_all;omega)|((repeat' split)<;>first|rfl|omega|(exfalso;simp_all;done)|(exfalso;simp_all;omega)),by omega⟩) Zu leA
 refine xx 5 ?_;refine xp 58 ?_ ?_<;>intro g5
 . refine xx 5 ?_;exact aY (K 1 ⟨by unfold Uq;unfold V9 inB;rw [Tj,Tv];unfold val;first|(simp_all;done)|(simp_all;omega)|((repeat' split)<;>first|rfl|omega|(exfalso;simp_all;done)|(exfalso;simp_all;omega)),by omega⟩) Zu leA
 refine xx 6 ?_;refine xp 61 ?_ ?_<;>intro g6
 . refine rf [10,0,2] f ?_;refine Zf [68,7,6,0,1,2] ?_;apply Zy 6 74 68 rfl
   . intro u b0;have l0:=sp u;refine rf [3,0,2] f ?_;exact Zz b0 ⟨orF u,Zv⟩
   . intro u b0;have l0:=sp u;refine oo 6 ?_;exact Zz b0 ⟨orT u,Zv⟩
   refine ox 1 ?_;refine xp 74 ?_ ?_<;>intro g8
   . refine xx 5 ?_;refine Zq (q) func158 (Zn results158 rfl) ⟨_,rfl,cB (by rw [p];symm;have r:Uq g.er.cn lo ek en j n m= -1:=(by unfold Uq;unfold V9 inB;rw [Tj,Tv];unfold val;first|(simp_all;done)|(simp_all;omega)|((repeat' split)<;>first|rfl|omega|(exfalso;simp_all;done)|(exfalso;simp_all;omega)));rw [r,aW (by omega)];rfl),rfl⟩
   refine xx 3 ?_;exact aY (K 2 ⟨by unfold Uq;unfold V9 inB;rw [Tj,Tv];unfold val;first|(simp_all;done)|(simp_all;omega)|((repeat' split)<;>first|rfl|omega|(exfalso;simp_all;done)|(exfalso;simp_all;omega)),by omega⟩) Zu leA
 refine xx 5 ?_;refine Zq (q) func158 (Zn results158 rfl) ⟨_,rfl,cB (by rw [p];symm;have r:Uq g.er.cn lo ek en j n m= -1:=(by unfold Uq;unfold V9 inB;rw [Tj,Tv];unfold val;first|(simp_all;done)|(simp_all;omega)|((repeat' split)<;>first|rfl|omega|(exfalso;simp_all;done)|(exfalso;simp_all;omega)));rw [r,aW (by omega)];rfl),rfl⟩
theorem parts_ok {s:Stm}(hB:B<=1000000)(hb:s.lm B)(hK:Kn q fun M=>StAt M ⟨b,o,none⟩ s)(ha:CellsAt q pa 0 (AZ pp x1 lo))(hp:CellsAt q pp 0 (pgC g)):CallF prog G 122 (Am pa b o) (q) (Ret fun v q'=>v= .bool (match s with| .mk kk _ _ _ _ e ix bd es2 _ _ _ _ _ sl ot lo_=>N3 g.er.cn lo kk e.er ix.er bd.length es2.length)/\q'=q):=by
 refine aC func122 ntmps122 rfl fun F cs=> ?_;have e0:CellsAt q pp 0 [.slice g.vars.a g.vars.l.length g.vars.c,.slice g.arrs.a g.arrs.l.length g.arrs.c,I64 g.mu,I64 g.co,.slice g.chs.a g.chs.l.length g.chs.c,.slice g.ths.a g.ths.l.length g.ths.c,I64 g.main,I64 g.stm]:=fun k v hk=>hp k v (by revert hk;match k with|0|1|2|3|4|5|6|7=>exact fun h=>h|(k+8)=>intro h;cases h)
 obtain ⟨kk,ln,cl,nm,wt,⟨w,t,m,i,n,j,u,y,x⟩,⟨xk,xn,a0,xsl,b0,z,xl,xa,xc⟩,bd,es2,ba,bc,i0,h0,id,sl,ot,lo_⟩:=s;obtain ⟨p,c0,g0,f0⟩:=hb;have f:=eR hK;dsimp only;have r:Kn q fun M=>ExAt M ⟨b,o+5,none⟩ (Ex.mk w t m i n j u y x):=hK.imp fun M h=>Yj (pre:= (A6 kk ln cl nm wt)) h.1 rfl h.2.1 rfl
 have d0:Kn q fun M=>ExAt M ⟨b,o+12,none⟩ (Ex.mk xk xn a0 xsl b0 z xl xa xc):=hK.imp fun M h=>Yj (pre:= (A6 kk ln cl nm wt)++exC (Ex.mk w t m i n j u y x)) h.1 rfl h.2.2.1 rfl
 obtain ⟨R,hR⟩:=kL (N3 g.er.cn lo kk (Ex.er (Ex.mk w t m i n j u y x)) (Ex.er (Ex.mk xk xn a0 xsl b0 z xl xa xc)) bd.length es2.length);rw [<-hR];refine rf [17,0,8] f ?_;refine xp 13 ?_ ?_<;>intro h1
 focus
  refine rf [16,0,4] f ?_;refine Zf [34,6,8,5,4,0,1] ?_;apply Zy 11 45 34 rfl
  . intro g2 M2;have h2:=sp g2;refine rf [6,0,4] f ?_;exact Zz M2 ⟨orF g2,Zv⟩
  . intro g2 M2;have h2:=sp g2;refine oo 11 ?_;exact Zz M2 ⟨orT g2,Zv⟩
  refine ox 1 ?_;refine xp 45 ?_ ?_<;>intro h2
  focus
   refine xx 5 ?_
  rotate_left
  focus
   refine xo 21 ?_;refine aO call158 (Qc B (d:=24) (e:=(Ex.mk w t m i n j u y x)) p hB (by omega) (r.le leA) (ha.le leA) (hp.le leA)) ?_;refine ox 4 ?_
 rotate_left 2
 focus
  refine xx 6 ?_;refine xp 13 ?_ ?_<;>intro h2
  focus
   refine rf [16,0,4] f ?_;refine Zf [34,6,8,5,4,0,1] ?_;apply Zy 11 45 34 rfl
   . intro g3 M3;have h3:=sp g3;refine rf [6,0,4] f ?_;exact Zz M3 ⟨orF g3,Zv⟩
   . intro g3 M3;have h3:=sp g3;refine oo 11 ?_;exact Zz M3 ⟨orT g3,Zv⟩
   refine ox 1 ?_;refine xp 45 ?_ ?_<;>intro h3
   focus
    refine xx 5 ?_
   rotate_left
   focus
    refine xo 21 ?_;refine aO call158 (Qc B (d:=24) (e:=(Ex.mk w t m i n j u y x)) p hB (by omega) (r.le leA) (ha.le leA) (hp.le leA)) ?_;refine ox 4 ?_
  rotate_left 2
  focus
   refine xx 6 ?_;refine xp 13 ?_ ?_<;>intro h3
   focus
    refine rf [16,0,4] f ?_;refine Zf [34,6,8,5,4,0,1] ?_;apply Zy 11 45 34 rfl
    . intro g4 M4;have h4:=sp g4;refine rf [6,0,4] f ?_;exact Zz M4 ⟨orF g4,Zv⟩
    . intro g4 M4;have h4:=sp g4;refine oo 11 ?_;exact Zz M4 ⟨orT g4,Zv⟩
    refine ox 1 ?_;refine xp 45 ?_ ?_<;>intro h4
    focus
     refine xx 5 ?_
    rotate_left
    focus
     refine xo 21 ?_;refine aO call158 (Qc B (d:=24) (e:=(Ex.mk w t m i n j u y x)) p hB (by omega) (r.le leA) (ha.le leA) (hp.le leA)) ?_;refine ox 4 ?_
   rotate_left 2
   focus
    refine xx 5 ?_;refine xp 13 ?_ ?_<;>intro h4
    focus
     refine rf [14,0,4] f ?_;refine Zf [34,6,8,5,4,0,1] ?_;apply Zy 11 45 34 rfl
     . intro g5 M5;have h5:=sp g5;refine rf [6,0,4] f ?_;exact Zz M5 ⟨orF g5,Zv⟩
     . intro g5 M5;have h5:=sp g5;refine oo 11 ?_;exact Zz M5 ⟨orT g5,Zv⟩
     refine ox 1 ?_;refine xp 45 ?_ ?_<;>intro h5
     focus
      refine xx 5 ?_
     rotate_left
     focus
      refine xo 21 ?_;refine aO call158 (Qc B (d:=24) (e:=(Ex.mk w t m i n j u y x)) p hB (by omega) (r.le leA) (ha.le leA) (hp.le leA)) ?_;refine ox 4 ?_
    rotate_left 2
    focus
     refine xx 6 ?_;refine xp 18 ?_ ?_<;>intro h5
     focus
      refine rf [15,0,4] f ?_;refine Zf [34,6,5,8,4,0,1] ?_;apply Zy 11 45 34 rfl
      . intro g6 M6;have h6:=sp g6;refine rf [6,0,4] f ?_;exact Zz M6 ⟨orF g6,Zv⟩
      . intro g6 M6;have h6:=sp g6;refine oo 11 ?_;exact Zz M6 ⟨orT g6,Zv⟩
      refine ox 1 ?_;refine xp 45 ?_ ?_<;>intro h6
      focus
       refine xx 5 ?_
      rotate_left
      focus
       refine xo 11 ?_;refine aO call158 (Qc B (d:=24) (e:=(Ex.mk xk xn a0 xsl b0 z xl xa xc)) c0 hB (by omega) (d0.le leA) (ha.le leA) (hp.le leA)) ?_;refine oo 2 ?_;refine Zf [55,6,4,0,1] ?_;apply Zp 10 65 55 rfl
       . intro g7 M7;have h7:=sp g7;refine oo 7 ?_;refine aO call158 (Qc B (d:=24) (e:=(Ex.mk w t m i n j u y x)) p hB (by omega) (r.le leA) (ha.le leA) (hp.le leA)) ?_;refine oo 2 ?_;exact Zz M7 ⟨Wq g7,Zv⟩
       . intro g7 M7;have h7:=sp g7;refine oo 10 ?_;exact Zz M7 ⟨Wz g7,Zv⟩
       refine ox 2 ?_
     rotate_left 2
     focus
      refine xx 6 ?_;refine xp 20 ?_ ?_<;>intro h6
      focus
       refine xo 54 ?_;refine aO call158 (Qc B (d:=24) (e:=(Ex.mk w t m i n j u y x)) p hB (by omega) (r.le leA) (ha.le leA) (hp.le leA)) ?_;refine ox 4 ?_
      rotate_left
      focus
       refine xx 6 ?_;refine xp 22 ?_ ?_<;>intro h7
       focus
        refine rf [26,0,5] f ?_;refine xp 45 ?_ ?_<;>intro h8
        focus
         refine xx 5 ?_
        rotate_left
        focus
         refine xo 21 ?_;refine aO call158 (Qc B (d:=24) (e:=(Ex.mk w t m i n j u y x)) p hB (by omega) (r.le leA) (ha.le leA) (hp.le leA)) ?_;refine ox 4 ?_
       rotate_left 2
       focus
        refine rf [12,0,4] f ?_;refine Zf [34,8,6,5,4,0,1] ?_;apply Zy 11 45 34 rfl
        . intro g8 M8;have h8:=sp g8;refine rf [6,0,4] f ?_;exact Zz M8 ⟨orF g8,Zv⟩
        . intro g8 M8;have h8:=sp g8;refine oo 11 ?_;exact Zz M8 ⟨orT g8,Zv⟩
        refine ox 1 ?_;refine xp 45 ?_ ?_<;>intro h8
        focus
         refine xx 5 ?_
        rotate_left
        focus
         refine xx 26 ?_
 all_goals
  refine Zq (q) func122 (Zn results122 rfl) ⟨_,rfl,cB (by rw [hR];unfold N3;first|(simp_all;done)|(rcases aX (0<(bd.length:Int)) with z1|z1<;>rcases aX (0<(es2.length:Int)) with z2|z2<;>simp_all;done)|(rcases aX (0<(bd.length:Int)) with z1|z1<;>rcases aX (0<(es2.length:Int)) with z2|z2<;>simp_all<;>omega)),rfl⟩
theorem slots_ok {s:Stm}(hB:B<=1000000)(hb:s.lm B)(hK:Kn q fun M=>StAt M ⟨b,o,none⟩ s)(ha:CellsAt q pa 0 (AZ pp x1 lo))(hp:CellsAt q pp 0 (pgC g)):CallF prog G 123 (Am pa b o) (q) (Ret fun v q'=>v= .bool (match s with| .mk kk _ _ _ _ e ix bd es2 _ _ _ _ _ sl ot lo_=>Na g.er.cn lo kk sl ot lo_)/\q'=q):=by
 refine aC func123 ntmps123 rfl fun F cs=> ?_;have f:CellsAt q pp 0 [.slice g.vars.a g.vars.l.length g.vars.c,.slice g.arrs.a g.arrs.l.length g.arrs.c,I64 g.mu,I64 g.co,.slice g.chs.a g.chs.l.length g.chs.c,.slice g.ths.a g.ths.l.length g.ths.c,I64 g.main,I64 g.stm]:=fun k v hk=>hp k v (by revert hk;match k with|0|1|2|3|4|5|6|7=>exact fun h=>h|(k+8)=>intro h;cases h)
 obtain ⟨kk,ln,cl,nm,wt,⟨ek,en,u,r,w,t,el,ea,ec⟩,⟨xk,xn,y,xsl,z,x,xl,xa,xc⟩,bd,es2,ba,bc,m0,l0,id,sl,ot,lo_⟩:=s;obtain ⟨d0,c0,b0,a0⟩:=hb;have d:=eR hK;dsimp only;have f0:Kn q fun M=>ExAt M ⟨b,o+5,none⟩ (Ex.mk ek en u r w t el ea ec):=hK.imp fun M h=>Yj (pre:= (A6 kk ln cl nm wt)) h.1 rfl h.2.1 rfl
 have e0:Kn q fun M=>ExAt M ⟨b,o+12,none⟩ (Ex.mk xk xn y xsl z x xl xa xc):=hK.imp fun M h=>Yj (pre:= (A6 kk ln cl nm wt)++exC (Ex.mk ek en u r w t el ea ec)) h.1 rfl h.2.2.1 rfl
 obtain ⟨R,hR⟩:=kL (Na g.er.cn lo kk sl ot lo_);rw [<-hR];refine rg [9,0,8,0,7] ha d ?_;refine xp 14 ?_ ?_<;>intro h1
 focus
  refine rf [2,0,1,2,3,4,5] d ?_;refine D4 [20,4,0,1] ?_;apply Mb 1 [0,1,2,3,4,5,6,7,8,9,10,11,12,13,14,15] 31 20 rfl
  . intro p M2;have h2:=sp p;refine rf [6,7,8,9,10,11,12,13,14] d ?_;refine Y2 14 call159 (R8 (ha.le leA) (hp.le leA)) ?_ (hL:=(hlH ha f d));refine dd [15] ?_;exact Ul M2 ⟨Wq p,Zv⟩
  . intro p M2;have h2:=sp p;refine dd [5,6,7,8,9,10,11,12,13,14,15] ?_;exact Ul M2 ⟨Wz p,Zv⟩
  intro L_;refine rn [17,0] ?_
 rotate_left
 focus
  refine xx 6 ?_;refine xp 32 ?_ ?_<;>intro h2
  focus
   refine rf [2,0,1,2,3,4,5,6,7,8,9] d ?_;refine Y2 9 call159 (R8 (ha.le leA) (hp.le leA)) ?_;refine rn [11,0] ?_
  rotate_left
  focus
   refine xx 6 ?_;refine xp 44 ?_ ?_<;>intro h3
   focus
    refine rg [2,0,1,2,3,4,5,6,7,8,9] d f ?_;refine Y2 9 call79 (Ja) ?_ (hL:=(hlH ha f d));refine rn [11,0] ?_
   rotate_left
   focus
    refine xx 7 ?_;refine xp 56 ?_ ?_<;>intro h4
    focus
     refine rg [4,0,1,2,3,4,5,6,7,8] d f ?_;refine Y2 8 call79 (Ja) ?_;refine rn [10,0] ?_
    rotate_left
    focus
     refine xx 5 ?_;refine xp 56 ?_ ?_<;>intro h5
     focus
      refine rg [2,0,1,2,3,4,5,6,7,8] d f ?_;refine Y2 8 call79 (Ja) ?_;refine rn [10,0] ?_
     rotate_left
     focus
      refine xx 6 ?_;refine xp 68 ?_ ?_<;>intro h6
      focus
       refine rg [2,0,1,2,3,4,5,6,7,8] d f ?_;refine Y2 8 call79 (Ja) ?_;refine dd [9] ?_;refine D4 [79,5,4,1] ?_;apply Mb 1 [0,1,2,3,4,5,6,7,8,9,10,11,12,13,14,15,16,17,18,19] 89 79 rfl
       . intro n M7;have h7:=sp n;refine rg [11,12,13,14,15,16,17,18] d f ?_;refine Y2 18 call79 (Ja) ?_;refine dd [19] ?_;exact Ul M7 ⟨Wq n,Zv⟩
       . intro n M7;have h7:=sp n;refine dd [10,11,12,13,14,15,16,17,18,19] ?_;exact Ul M7 ⟨Wz n,Zv⟩
       intro L_;refine rn [21,0] ?_
      rotate_left
      focus
       refine xx 7 ?_;refine xp 90 ?_ ?_<;>intro h7
       focus
        refine rg [4,0,1,2,3,4,5,6,7,8] d f ?_;refine Y2 8 call79 (Ja) ?_;refine rn [10,0] ?_
       rotate_left
       focus
        refine xx 5 ?_;refine xp 90 ?_ ?_<;>intro h8
        focus
         refine rg [2,0,1,2,3,4,5,6,7,8] d f ?_;refine Y2 8 call79 (Ja) ?_;refine rn [10,0] ?_
        rotate_left
        focus
         refine xx 6 ?_;refine xp 102 ?_ ?_<;>intro h9
         focus
          refine rg [2,0,1,2,3,4,5,6,7,8,9] d f ?_;refine Y2 9 call79 (Ja) ?_ (hL:=(hlH ha f d));refine rn [11,0] ?_
         rotate_left
         focus
          refine xx 6 ?_;refine xp 114 ?_ ?_<;>intro k0
          focus
           refine rg [2,0,1,2,3,4,5,6,7,8,9] d f ?_;refine Y2 9 call79 (Ja) ?_ (hL:=(hlH ha f d));refine dd [10] ?_;refine D4 [126,4,0,1] ?_;apply Mb 1 [0,1,2,3,4,5,6,7,8,9,10,11,12,13,14,15,16,17,18,19,20,21] 137 126 rfl
           . intro i j;have m:=sp i;refine rf [12,13,14,15,16,17,18,19,20] d ?_;refine Y2 20 call159 (R8 (ha.le leA) (hp.le leA)) ?_ (hL:=(hlH ha f d));refine dd [21] ?_;exact Ul j ⟨Wq i,Zv⟩
           . intro i j;have m:=sp i;refine dd [11,12,13,14,15,16,17,18,19,20,21] ?_;exact Ul j ⟨Wz i,Zv⟩
           intro L_;refine rn [23,0] ?_
          rotate_left
          focus
           refine xx 6 ?_;refine xp 138 ?_ ?_<;>intro m
           focus
            refine rg [2,0,1,2,3,4,5,6,7,8,9] d f ?_;refine Y2 9 call79 (Ja) ?_ (hL:=(hlH ha f d));refine rn [11,0] ?_
           rotate_left
           focus
            refine xx 7 ?_;refine xp 150 ?_ ?_<;>intro j0
            focus
             refine xx 7 ?_
            rotate_left
            focus
             refine xx 6 ?_;refine xp 150 ?_ ?_<;>intro i0
             focus
              refine xx 7 ?_
             rotate_left
             focus
              refine xx 6 ?_;refine xp 150 ?_ ?_<;>intro h0
              focus
               refine xx 7 ?_
              rotate_left
              focus
               refine xx 5 ?_;refine xp 150 ?_ ?_<;>intro g0
               focus
                refine xx 5 ?_
               rotate_left
               focus
                refine xx 7 ?_
 all_goals
  refine Zq (q) func123 (Zn results123 rfl) ⟨_,rfl,cB (by rw [hR];unfold Na;unfold V9 inB;rw [Tj,Tv,cn_ch,cn_mu,cn_co,cn_th];first|(simp_all;done)|(simp_all;omega)|(simp_all<;>omega)),rfl⟩
end
mutual
theorem Ln {c:Cn}{lo:Int}: ∀ {s:PStm} {d n m:Int},n<=512->s.ask c lo d n=some m->n<=m/\m<=512
 | .mk ..,d,n,m,hn,h=>by
  simp only [PStm.ask] at h;split at h
  . cases h
  rename_i f;split at h
  . split at h
    . cases h
    rename_i k a;have b:=V1 (by omega) a;have e:=V1 b.2 h;omega
  cases h
theorem V1 {c:Cn}{lo:Int}: ∀ {l:List PStm} {d n m:Int},n<=512->Z2 c lo l d n=some m->n<=m/\m<=512
 | [],d,n,m,hn,h=>by simp only [Z2] at h;cases h;omega
 |s::r,d,n,m,hn,h=>by
  simp only [Z2] at h;split at h
  . cases h
  rename_i k a;have b:=Ln hn a;have e:=V1 b.2 h;omega
end
theorem Ew {c:Cn}(s:PStm)(r:List PStm)(d n:Int):Z2 c lo (s::r) d n=match s.ask c lo d n with|none=>none|some m=>Z2 c lo r d m:=by simp only [Z2]<;>rfl
theorem Ge {l:List Stm}(h:i<l.length):Zj (l.drop i)=l[i].er::Zj (l.drop (i+1)):=by rw [aJ h];rfl
section
variable {n:Int}{l:List Stm}
def AskB (G:World)(B pa pp:Nat)(g:FC)(lo:Int)(N:Nat):Prop:= ∀ {l:List Stm} {a:Option Addr} {c:Nat} {d n:Int} {q:List HP},Zm l<=N->Wa B l->(1<=d/\d<=25)->(0<=n/\n<=512)->CellsAt q pp 0 (pgC g)->(Kn q fun M=>BlkAt M a c l)->
 CallF prog G 80 [.pointer (some ⟨pa,0,none⟩),.slice a l.length c,I64 d] (pto pa (.cells (Ae pp n lo).toArray 168 (0,0))::q) (Ret fun v q'=> ∃ n',v= .bool (Z2 g.er.cn lo (Zj l) d n).isSome/\(∀ m,Z2 g.er.cn lo (Zj l) d n=some m->n'=m)/\q'=pto pa (.cells (Ae pp n' lo).toArray 168 (0,0))::q)
theorem ask_step (IH: ∀ N_,N_<N->AskB G B pa pp g lo N_)(hB:B<=1000000)(hN:N<=1000000)(hs:Zm l<=N)(hb:Wa B l)(hd:1<=d/\d<=25)(hn:0<=n/\n<=512)(hp:CellsAt q pp 0 (pgC g))(hK:Kn q fun M=>BlkAt M a c l):CallF prog G 80 [.pointer (some ⟨pa,0,none⟩),.slice a l.length c,I64 d] (pto pa (.cells [.pointer (some ⟨pp,0,none⟩),I64 n,I64 lo].toArray 168 (0,0))::q) (Ret fun v q'=> ∃ n',v= .bool (Z2 g.er.cn lo (Zj l) d n).isSome/\(∀ m,Z2 g.er.cn lo (Zj l) d n=some m->n'=m)/\q'=pto pa (.cells [.pointer (some ⟨pp,0,none⟩),I64 n',I64 lo].toArray 168 (0,0))::q):=by
 refine aC func80 ntmps80 rfl fun F cs=> ?_;have hS:=fM (hK.imp fun M h=>h.1.2.2);have hl:l.length<=N:=cP (Je l) hs;have d0:=Zx Z8 l;obtain ⟨R,hR⟩:=kL (Z2 g.er.cn lo (Zj l) d n);rw [<-hR];refine xx 12 ?_;refine aY (cG (fun (s:Nat×Int)=>s.1<=l.length/\R=Z2 g.er.cn lo (Zj (l.drop s.1)) d s.2/\0<=s.2/\s.2<=512) (fun s=> [(0,.pointer (some ⟨pa,0,none⟩)),(1,.slice a l.length c),(2,I64 d),(10,I64 l.length),(11,I64 (s.1:Int))]) (fun s=>pto pa (.cells [.pointer (some ⟨pp,0,none⟩),I64 s.2,I64 lo].toArray 168 (0,0))::(q++F)) (fun s=>l.length - s.1) (fun s e0 ih=> ?_) (0,n) ⟨bB _,by rw [hR,gB],hn⟩) Zu leA;try dsimp only at e0 ih|-
 obtain ⟨v0,b,u0⟩:=e0;obtain ⟨i,e⟩:=s;dsimp only at*;refine xx 5 ?_;refine xp 12 ?_ ?_<;>intro h0
 . have f:i<l.length:=(by omega);rw [Ge f,Ew] at b;obtain ⟨x,hx⟩:=kL l[i];have f0:x.sz<=Zm l:=hx ▸ Ub (aB f);have c0:x.lm B:=hx ▸ Jo hb (aB f);rw [<-hx] at b;refine Yd (hS.le leA) (by rw [d0];omega) fun ab ao e_=> ?_;rw [e_]
   have o:Kn q fun M=>StAt M ⟨ab,ao+(i:Int).toNat*25,none⟩ x:=hK.imp fun M h=>by
    obtain ⟨b',o',e1,e2⟩:=fR Z8 (by decide) h.1.2.2 f;rw [e_] at e1;cases e1
    exact ⟨by rw [hx];exact e2,by rw [hx];exact Vg.1 h.2 _ (aB f)⟩
   obtain ⟨kk,ln,cl,nm,wt,⟨ek,en,b1,z0,c1,a1,el,ea,ec⟩,⟨xk,xn,r0,xsl,s0,q0,xl,xa,xc⟩,bd,u,ba,bc,f1,d1,id,sl,ot,t0⟩:=x;have w:=c0;obtain ⟨y0,x0,k0,j0⟩:=c0;have y:=eR o;have hz:Zm bd+Zm u+1<=N:=(by simp only [Stm.sz] at f0;omega);simp only [Stm.er,PStm.ask,Zg] at b;refine rn [18,0,1,2,3] ?_;refine D4 [19,8,0,1,2,10,11] ?_;apply D5 11 [0,1,2,3,4,5,6,7,8] 25 19 rfl
   . intro t b0;have n0:=sp t;refine rn [4,5,6,7,8,9] ?_;exact Ul b0 ⟨orF t,Zv⟩
   . intro t b0;have n0:=sp t;refine dd [3,4,5,6,7,8] ?_;exact Ul b0 ⟨orT t,Zv⟩
   intro L_;refine dd [9] ?_;refine D4 [26,8,0,1,2,10,11] ?_;apply D5 0 [0,1,2,3,4,5,6,7,8,9,10,11,12,13,14,15,16,17,18,19] 36 26 rfl
   . intro r a0;have m0:=sp r;refine rf [11,12,13,14,15,16,17,18,19,20] y ?_;exact Ul a0 ⟨orF r,Zv⟩
   . intro r a0;have m0:=sp r;refine dd [10,11,12,13,14,15,16,17,18,19] ?_;exact Ul a0 ⟨orT r,Zv⟩
   intro L_;refine jV ?_;refine xp 36 ?_ ?_<;>intro g3
   . have j:24<d\/e=512\/id≠e:=(by first|omega|(simp at g3;omega));rw [if_pos j] at b;dsimp only at b;refine xx 5 ?_;refine Zq (pto pa (.cells [.pointer (some ⟨pp,0,none⟩),I64 e,I64 lo].toArray 168 (0,0))::q) func80 (Zn results80 rfl) ⟨_,rfl,_,(by rw [b];rfl),(by rw [b];intro m h;cases h),rfl⟩
   have j: ¬ (24<d\/e=512\/id≠e):=(by first|omega|(simp at g3;omega));rw [if_neg j] at b;have w0: ¬24<d/\ ¬e=512:=⟨fun k=>j (.inl k),fun k=>j (.inr (.inl k))⟩;refine rn [7,0,3,0,6] ?_;refine aO call122 (parts_ok hB w (o.le leA) (iZ Qu) (hp.le leA)) ?_;refine Zt (bV rfl) ?_;refine oo 1 ?_;refine Zf [48,8,0,1,2,10,11] ?_;apply Zy 5 53 48 rfl
   . intro p z;have l0:=sp p;refine oo 2 ?_;refine aO call123 (slots_ok hB w (o.le leA) (iZ Qu) (hp.le leA)) ?_;refine Zt (bV rfl) ?_;refine oo 1 ?_;exact Zz z ⟨orF p,Zv⟩
   . intro p z;have l0:=sp p;refine oo 5 ?_;exact Zz z ⟨orT p,Zv⟩
   refine ox 1 ?_;refine xp 53 ?_ ?_<;>intro g5
   . rw [if_neg (by intro k;rw [aI] at k;revert g5;simp [k.1,k.2])] at b;dsimp only at b;refine xx 5 ?_;refine Zq (pto pa (.cells [.pointer (some ⟨pp,0,none⟩),I64 (e+1),I64 lo].toArray 168 (0,0))::q) func80 (Zn results80 rfl) ⟨_,rfl,_,(by rw [b];rfl),(by rw [b];intro m h;cases h),rfl⟩
   rw [if_pos (by rw [aI];simpa using g5)] at b;refine rf [8,0,2] y ?_;refine Zb call80 Zk (IH (Zm bd) (by omega) (l:=bd) (d:=d+1) (n:=(e+1)) (aL _) k0 (by omega) (by omega) (hp.le leA) ((o.le leA).imp fun M h=>h.2.2.2.1)) ?_;rintro _ _ ⟨n2,rfl,i0,rfl⟩;rcases hR2:Z2 g.er.cn lo (Zj bd) (d+1) (e+1) with _|m1
   . refine bA 61 bF rfl (by rfl) ?_;rw [hR2] at b;dsimp only at b;refine ox 18 ?_;refine Zq (pto pa (.cells [.pointer (some ⟨pp,0,none⟩),I64 n2,I64 lo].toArray 168 (0,0))::q) func80 (Zn results80 rfl) ⟨_,rfl,_,(by rw [b];rfl),(by rw [b];intro m h;cases h),rfl⟩
   refine bA 61 bT rfl (by rfl) ?_;obtain rfl:=i0 _ hR2;rw [hR2] at b;have p0:=V1 (by omega) hR2;dsimp only at b;refine rf [6,0,2] y ?_;refine Zb call80 Zk (IH (Zm u) (by omega) (l:=u) (d:=d+1) (n:=n2) (aL _) j0 (by omega) (by omega) (hp.le leA) ((o.le leA).imp fun M h=>⟨h.2.2.2.2.1,h.2.2.2.2.2⟩)) ?_;rintro _ _ ⟨n3,rfl,g0,rfl⟩;rcases hR3:Z2 g.er.cn lo (Zj u) (d+1) n2 with _|m2
   . refine bA 71 bF rfl (by rfl) ?_;rw [hR3] at b;dsimp only at b;refine ox 8 ?_;refine Zq (pto pa (.cells [.pointer (some ⟨pp,0,none⟩),I64 n3,I64 lo].toArray 168 (0,0))::q) func80 (Zn results80 rfl) ⟨_,rfl,_,(by rw [b];rfl),(by rw [b];intro m h;cases h),rfl⟩
   refine bA 71 bT rfl (by rfl) ?_;obtain rfl:=g0 _ hR3;rw [hR3] at b;have o0:=V1 (by omega) hR3;dsimp only at b;refine ox 10 ?_;rw [<-e_];refine aY (ih (i+1,n3) ⟨by dsimp only;omega,b,by dsimp only;omega,by dsimp only;omega⟩ (by dsimp only;omega)) Zu leA
 obtain rfl:i=l.length:=(by omega);rw [dP] at b;simp only [Zj,Z2] at b;refine xx 6 ?_;refine Zq (pto pa (.cells [.pointer (some ⟨pp,0,none⟩),I64 e,I64 lo].toArray 168 (0,0))::q) func80 (Zn results80 rfl) ⟨_,rfl,e,by rw [b];rfl,by rw [b];intro m h;cases h;rfl,rfl⟩
theorem ask_all (hB:B<=1000000)(N:Nat)(hN:N<=1000000):AskB G B pa pp g lo N:=by
 induction N using Nat.strongRecOn with
 |ind N IH=>exact fun b e d a c f=>ask_step (fun n a=>IH n a (by omega)) hB hN b e d a c f
end
theorem Nl (a b:List Int):Y7 (a++b)=Y7 a+Y7 b:=by
 induction a with
 |nil=>simp [Y7]
 |cons x r ih=>simp only [Y7,cM,List.foldr_cons] at ih|-;omega
theorem Qg (h: ∀ x∈l,0<=x/\x<=k)(hk:0<=k):0<=Y7 l/\Y7 l<=k*l.length:=by
 induction l with
 |nil=>simp [Y7]
 |cons x r ih=>
  have c:=h x (bI ..);have b:=ih fun y a=>h y (bZ _ a)
  have e:Y7 (x::r)=x+Y7 r:=rfl;rw [e,bG,Int.natCast_succ,Int.mul_add,Int.mul_one];omega
theorem Es (hp:CellsAt q pp 0 (pgC g))(hK:Kn q fun M=>g.At M)(hl:g.vars.l.length<=1000000/\g.arrs.l.length<=1000000/\g.chs.l.length<=1000000/\g.ths.l.length<=1000000):CallF prog G 78 (A8 pp) (q) (Ret fun v q'=>v= .bool (Gg g.er)/\q'=q):=by
 refine aC func78 ntmps78 rfl fun F cs=> ?_;have n:CellsAt q pp 0 [.slice g.vars.a g.vars.l.length g.vars.c,.slice g.arrs.a g.arrs.l.length g.arrs.c,I64 g.mu,I64 g.co,.slice g.chs.a g.chs.l.length g.chs.c,.slice g.ths.a g.ths.l.length g.ths.c,I64 g.main,I64 g.stm]:=fun k v hk=>hp k v (by revert hk;match k with|0|1|2|3|4|5|6|7=>exact fun h=>h|(k+8)=>intro h;cases h)
 obtain ⟨R,hR⟩:=kL (Gg g.er);rw [<-hR];unfold Gg at hR;simp only [FC.er,aU] at hR;obtain ⟨d0,e0,g0,f0⟩:=hl;have hV:=(dT (hK.imp fun M h=>h.vars));have hA:=(dT (hK.imp fun M h=>h.arrs));have hC:=(dT (hK.imp fun M h=>h.chs));rw [Qv] at hV hA hC;refine rf [10,0,2] n ?_;refine Zf [15,2,0] ?_;apply Zy 6 21 15 rfl
 . intro b d;have j:=sp b;refine rf [3,0,2] n ?_;exact Zz d ⟨orF b,Zv⟩
 . intro b d;have j:=sp b;refine oo 6 ?_;exact Zz d ⟨orT b,Zv⟩
 refine oo 1 ?_;refine Zf [22,2,0] ?_;apply Zy 6 28 22 rfl
 . intro b d;have j:=sp b;refine rf [3,0,2] n ?_;exact Zz d ⟨orF b,Zv⟩
 . intro b d;have j:=sp b;refine oo 6 ?_;exact Zz d ⟨orT b,Zv⟩
 refine oo 1 ?_;refine Zf [29,2,0] ?_;apply Zy 6 35 29 rfl
 . intro b d;have j:=sp b;refine rf [3,0,2] n ?_;exact Zz d ⟨orF b,Zv⟩
 . intro b d;have j:=sp b;refine oo 6 ?_;exact Zz d ⟨orT b,Zv⟩
 refine ox 1 ?_;refine xp 35 ?_ ?_<;>intro h1
 . refine xx 5 ?_;refine Zq (q) func78 (Zn results78 rfl) ⟨_,rfl,cB (by rw [hR];symm;rw [cS];intro k;have k1:=k.1;have k2:=k.2.1;(first|omega|(simp at h1;omega))),rfl⟩
 have hm:(0<=g.mu/\g.mu<=64)/\(0<=g.co/\g.co<=64):=(by first|omega|(simp at h1;omega));refine rf [4,0,1,2,3,4,5,6,7,8,9,10,11,12,13,14,15,16,17,18,19,20,21,22,23,24,25,26,27,28,29,30,31,32,33,34,0] n ?_;refine xp 69 ?_ ?_<;>intro h2
 . refine xx 5 ?_;refine Zq (q) func78 (Zn results78 rfl) ⟨_,rfl,cB (by rw [hR];symm;rw [cS];intro k;have k1:=k.2.2.1;omega),rfl⟩
 refine rf [8,0,4] n ?_;refine aY (cG (fun (s:Nat)=>s<=g.vars.l.length/\(∀ x∈g.vars.l.take s,val x)) (fun s=> [(0,.pointer (some ⟨pp,0,none⟩)),(73,.slice g.vars.a g.vars.l.length g.vars.c),(74,I64 g.vars.l.length),(75,I64 s)]) (fun s=>q++F) (fun s=>g.vars.l.length - s) (fun s p w=> ?_) 0 ⟨bB _,by simp⟩) Zu leA;try dsimp only at p w|-
 obtain ⟨c0,e⟩:=p;refine xx 5 ?_;refine xp 76 ?_ ?_<;>intro h0
 . have o:s<g.vars.l.length:=(by omega);refine Yd (hV.le leA) (by simp;omega) fun ab ao e_=> ?_;have m:=hV;rw [e_] at m|-;refine rf [7,0] m ?_;obtain ⟨x,hx⟩:=kL g.vars.l[s];refine bA 78 (I64 x) rfl (by rw [hx]) ?_;have r:g.vars.l.take (s+1)=g.vars.l.take s++ [x]:=by rw [aH o,hx]
   refine oo 7 ?_;refine Zf [81,4,0,73,74,75] ?_;apply Zy 3 84 81 rfl
   . intro b d;have j:=sp b;refine oo 3 ?_;exact Zz d ⟨orF b,Zv⟩
   . intro b d;have j:=sp b;refine oo 3 ?_;exact Zz d ⟨orT b,Zv⟩
   refine ox 1 ?_;refine xp 84 ?_ ?_<;>intro h4
   . refine xx 5 ?_;refine Zq (q) func78 (Zn results78 rfl) ⟨_,rfl,cB (by rw [hR];symm;rw [cS];intro k;have k1:=k.2.2.2.1 x (hx ▸ aB o);unfold val at k1;(first|omega|(simp at h4;omega))),rfl⟩
   have hv:val x:=(by unfold val;first|omega|(simp at h4;omega));refine xx 7 ?_;rw [<-e_]
   refine aY (w (s+1) ⟨by (try dsimp only);omega,fun y f=>by
    (try dsimp only at f)
    rw [r] at f;rcases aQ.1 f with f|f
    . exact e y f
    rw [aZ.1 f];exact hv⟩ (by (try dsimp only);omega)) Zu leA
 obtain rfl:s=g.vars.l.length:=(by omega);rw [cD] at e;have t:=e;clear w;refine rf [12,0,4] n ?_;refine aY (cG (fun (s:Nat×Int)=>s.1<=g.arrs.l.length/\(∀ x∈g.arrs.l.take s.1,1<=x/\x<=256)/\s.2=Y7 (g.arrs.l.take s.1)) (fun s=> [(0,.pointer (some ⟨pp,0,none⟩)),(89,.slice g.arrs.a g.arrs.l.length g.arrs.c),(90,I64 g.arrs.l.length),(91,I64 (s.1:Int)),(5,I64 s.2)]) (fun s=>q++F) (fun s=>g.arrs.l.length - s.1) (fun s p w=> ?_) (0,0) ⟨bB _,by simp,by simp [Y7]⟩) Zu leA;try dsimp only at p w|-
 obtain ⟨c0,e,a0⟩:=p;obtain ⟨i,z⟩:=s;dsimp only at*;refine xx 5 ?_;refine xp 92 ?_ ?_<;>intro h0
 . have o:i<g.arrs.l.length:=(by omega);refine Yd (hA.le leA) (by simp;omega) fun ab ao e_=> ?_;have m:=hA;rw [e_] at m|-;refine rf [7,0] m ?_;obtain ⟨x,hx⟩:=kL g.arrs.l[i];refine bA 94 (I64 x) rfl (by rw [hx]) ?_;have r:g.arrs.l.take (i+1)=g.arrs.l.take i++ [x]:=by rw [aH o,hx]
   have b0:=Qg (l:=g.arrs.l.take i) (k:=256) (fun y f=>by have:=e y f;omega) (by decide);rw [bH] at b0;have j0:(i:Int)<=64:=(by omega);have i0:((min i g.arrs.l.length:Nat):Int)=i:=(by omega);rw [i0] at b0;refine oo 8 ?_;refine Zf [97,7,0,89,90,91,5] ?_;apply Zy 3 100 97 rfl
   . intro b d;have j:=sp b;refine oo 3 ?_;exact Zz d ⟨orF b,Zv⟩
   . intro b d;have j:=sp b;refine oo 3 ?_;exact Zz d ⟨orT b,Zv⟩
   refine ox 1 ?_;refine xp 100 ?_ ?_<;>intro h4
   . refine xx 5 ?_;refine Zq (q) func78 (Zn results78 rfl) ⟨_,rfl,cB (by rw [hR];symm;rw [cS];intro k;have k1:=k.2.2.2.2.1 x (hx ▸ aB o);(first|omega|(simp at h4;omega))),rfl⟩
   have hv:1<=x/\x<=256:=(by first|omega|(simp at h4;omega));refine xx 13 ?_;rw [<-e_]
   refine aY (w (i+1,z+x) ⟨by (try dsimp only);omega,fun y f=>by
    (try dsimp only at f)
    rw [r] at f;rcases aQ.1 f with f|f
    . exact e y f
    rw [aZ.1 f];exact hv,by dsimp only;rw [r,Nl,a0];simp [Y7]⟩ (by (try dsimp only);omega)) Zu leA
 obtain rfl:i=g.arrs.l.length:=(by omega);rw [cD] at e a0;have u:=e;clear w;have sm:=a0;subst a0;have b0:=Qg (l:=g.arrs.l) (k:=256) (fun y f=>by have:=e y f;omega) (by decide);refine rf [8,0,4] n ?_;refine aY (cG (fun (s:Nat)=>s<=g.chs.l.length/\(∀ x∈g.chs.l.take s,1<=x/\x<=16)) (fun s=> [(5,I64 (Y7 g.arrs.l)),(108,.slice g.chs.a g.chs.l.length g.chs.c),(109,I64 g.chs.l.length),(110,I64 s)]) (fun s=>q++F) (fun s=>g.chs.l.length - s) (fun s p w=> ?_) 0 ⟨bB _,by simp⟩) Zu leA;try dsimp only at p w|-
 obtain ⟨c0,e⟩:=p;refine xx 5 ?_;refine xp 111 ?_ ?_<;>intro h0
 . have o:s<g.chs.l.length:=(by omega);refine Yd (hC.le leA) (by simp;omega) fun ab ao e_=> ?_;have m:=hC;rw [e_] at m|-;refine rf [7,0] m ?_;obtain ⟨x,hx⟩:=kL g.chs.l[s];refine bA 113 (I64 x) rfl (by rw [hx]) ?_;have r:g.chs.l.take (s+1)=g.chs.l.take s++ [x]:=by rw [aH o,hx]
   refine oo 7 ?_;refine Zf [116,9,5,108,109,110] ?_;apply Zy 3 119 116 rfl
   . intro b d;have j:=sp b;refine oo 3 ?_;exact Zz d ⟨orF b,Zv⟩
   . intro b d;have j:=sp b;refine oo 3 ?_;exact Zz d ⟨orT b,Zv⟩
   refine ox 1 ?_;refine xp 119 ?_ ?_<;>intro h4
   . refine xx 5 ?_;refine Zq (q) func78 (Zn results78 rfl) ⟨_,rfl,cB (by rw [hR];symm;rw [cS];intro k;have k1:=k.2.2.2.2.2.1 x (hx ▸ aB o);(first|omega|(simp at h4;omega))),rfl⟩
   have hv:1<=x/\x<=16:=(by first|omega|(simp at h4;omega));refine xx 7 ?_;rw [<-e_]
   refine aY (w (s+1) ⟨by omega,fun y f=>by
    rw [r] at f;rcases aQ.1 f with f|f
    . exact e y f
    rw [aZ.1 f];exact hv⟩ (by omega)) Zu leA
 obtain rfl:s=g.chs.l.length:=(by omega);rw [cD] at e;clear w;refine xx 8 ?_;refine Zq (q) func78 (Zn results78 rfl) ⟨_,rfl,cB (by rw [hR];rw [cJ];simp only [bN];exact ⟨fun k=>⟨hm.1,hm.2,by omega,t,u,e,k⟩,fun k=>k.2.2.2.2.2.2⟩),rfl⟩
theorem pmay_ok (hp:CellsAt q pp 0 (pgC g))(hK:Kn q fun M=>g.At M)(hB:CpOk B g):CallF prog G 44 [.pointer (some ⟨pp,0,none⟩)] (q) (Ret fun v q'=>v= .bool (Dh g.er)/\q'=q):=by
 refine aC func44 ntmps44 rfl fun F cs=> ?_;have m:CellsAt q pp 0 [.slice g.vars.a g.vars.l.length g.vars.c,.slice g.arrs.a g.arrs.l.length g.arrs.c,I64 g.mu,I64 g.co,.slice g.chs.a g.chs.l.length g.chs.c,.slice g.ths.a g.ths.l.length g.ths.c,I64 g.main,I64 g.stm]:=fun k v hk=>hp k v (by revert hk;match k with|0|1|2|3|4|5|6|7=>exact fun h=>h|(k+8)=>intro h;cases h)
 obtain ⟨R,hR⟩:=kL (Dh g.er);rw [<-hR];unfold Dh at hR;rw [g_th,show g.er.main=g.main from rfl] at hR;obtain ⟨o,p,w,u,_⟩:=hB.l;have hT:=dT (hK.imp fun M h=>h.ths);have e0:=Zx Q1 g.ths.l;refine rn [6,0,1] ?_;refine Y2 1 call78 (Es (hp.le leA) (hK.le leA) ⟨o,p,w,u⟩) ?_;refine Vz 2 rfl (bV rfl) ?_;refine dd [3] ?_;refine D4 [9,2,0] ?_;apply D5 0 [0,1,2,3,4,5,6,7,8,9,10,11,12,13,14,15] 21 9 rfl
 . intro f j;have b0:=sp f;refine rf [5,6,7,8,9,10,11,12,13] m ?_;refine Y2 13 call79 (Ja) ?_ (hL:=(hlF m));refine Vz 14 rfl (bV rfl) ?_;refine dd [15] ?_;exact Ul j ⟨orF f,Zv⟩
 . intro f j;have b0:=sp f;refine dd [4,5,6,7,8,9,10,11,12,13,14,15] ?_;exact Ul j ⟨orT f,Zv⟩
 intro L_;refine jV ?_;refine xp 21 ?_ ?_<;>intro h1
 . refine xx 5 ?_;refine Zq (q) func44 (Zn results44 rfl) ⟨_,rfl,cB (by rw [hR];unfold inB;(first|(simp_all;done)|(rcases hz1:Gg g.er<;>rcases aX (0<=g.main/\g.main<(g.ths.l.length:Int)) with z|z<;>simp_all<;>(intros;omega)))),rfl⟩
 obtain ⟨i0,y⟩:Gg g.er=true/\inB g.main g.ths.l.length=true:=(by unfold inB;(first|(simp_all;done)|(rcases hz1:Gg g.er<;>rcases aX (0<=g.main/\g.main<(g.ths.l.length:Int)) with z|z<;>simp_all<;>(intros;omega))));rw [i0,gI,y,gI] at hR;refine xo 6 ?_;refine Ww fun n1=> ?_
 refine rf [8,0,4] m ?_;refine aY (cG (fun (s:Nat×Int×Int)=>s.1<=g.ths.l.length/\R=(W4 g.er.cn ((g.ths.l.drop s.1).map Th.er) s.2.1==some g.stm)/\0<=s.2.1/\s.2.1<=512) (fun s=> [(0,.pointer (some ⟨pp,0,none⟩)),(3,pt n1),(29,I64 g.ths.l.length),(30,I64 (s.1:Int))]) (fun s=>pto n1 (.cells [.pointer (some ⟨pp,0,none⟩),I64 s.2.1,I64 s.2.2].toArray 168 (0,0))::(q++F)) (fun s=>g.ths.l.length - s.1) (fun s f0 ih=> ?_) (0,0,0) ⟨bB _,by rw [hR,gB];rfl,by decide⟩) Zu leA;try dsimp only at f0 ih|-
 obtain ⟨m0,e,j0⟩:=f0;obtain ⟨i,n,lo⟩:=s;dsimp only at*;refine xx 5 ?_;refine xp 31 ?_ ?_<;>intro h0
 . have r:i<g.ths.l.length:=(by omega);obtain ⟨x,hx⟩:=kL g.ths.l[i];have c0:=hB.t x (hx ▸ aB r);rw [aJ r,<-hx,bP] at e;simp only [W4] at e;rw [show (Th.er x).loc=x.loc from rfl,show (Th.er x).body=Zj x.body from rfl] at e;refine Yd (hT.le leA) (by rw [e0];omega) fun ab ao e_=> ?_;have g0:=hT;have d0:=m;rw [e_] at g0 d0;have a0:CellsAt q ab (ao+(i:Int).toNat*3) (thC x):=by rw [hx];exact CellsAt.row g0 (aE _) Q1 r rfl
   have k0:Kn q fun M=>BlkAt M x.a x.c x.body:=hK.imp fun M h=>h.bod x (hx ▸ aB r)
   refine rg [14,0,10,0,2] d0 a0 ?_;refine Zf [44,5,0,3,29,30] ?_;apply Zy 6 50 44 rfl
   . intro f j;have b0:=sp f;refine rf [3,0,2] a0 ?_;exact Zz j ⟨orF f,Zv⟩
   . intro f j;have b0:=sp f;refine oo 6 ?_;exact Zz j ⟨orT f,Zv⟩
   refine ox 1 ?_;refine xp 50 ?_ ?_<;>intro h2
   . refine xx 5 ?_;refine Zq (q) func44 (Zn results44 rfl) ⟨_,rfl,cB (by rw [e];rw [if_pos (by first|omega|(simp at h2;omega))];rfl),rfl⟩
   rw [if_neg (by first|omega|(simp at h2;omega))] at e;refine rf [8,0,2,0,7,0] a0 ?_;refine Zb call80 Zk (ask_all hB.b (Zm x.body) c0.1 (l:=x.body) (d:=1) (n:=n) (lo:=x.loc) (aL _) c0.2 (by decide) j0 (hp.le leA) (k0.le leA)) ?_;rintro _ _ ⟨n2,rfl,y,rfl⟩;refine Zt (bV rfl) ?_;refine ox 1 ?_;rcases hR2:Z2 g.er.cn x.loc (Zj x.body) 1 n with _|m1
   . rw [hR2] at e;dsimp only at e;refine rn [2064,5] ?_;refine Zq (q) func44 (Zn results44 rfl) ⟨_,rfl,cB (by rw [e];rfl),rfl⟩
   rw [hR2] at e;dsimp only at e;refine Jc 64 ?_;obtain rfl:=y _ hR2;have l0:=V1 (by omega) hR2;refine xx 7 ?_;refine aY (ih (i+1,n2,x.loc) ⟨by dsimp only;omega,e,by dsimp only;omega,by dsimp only;omega⟩ (by dsimp only;omega)) Zu leA
 obtain rfl:i=g.ths.l.length:=(by omega);rw [dP] at e;simp only [eM,W4] at e;refine rf [3,0,1,2,3,4,5,6,7,8,9,10,0] m ?_;refine Zq (q) func44 (Zn results44 rfl) ⟨_,rfl,cB (by rw [e,cJ];simp),rfl⟩
def yH (p:Nat)(s:Sy):HP:=ex fun U:SyC=>stars (pure (Real U s)::syL p U)
theorem I6 {U:SyC}(h:Real U s)(q:List HP):Le (syL p U++q) (yH p s::q):=
 Em U ((Ql h _).trans (Z5 (pure (Real U s)::syL p U) q))
theorem Up {P:Program}{fn:FuncId}{vs:List Value}{R:Wx.U5}(h: ∀ U,Real U s->CallF P G fn vs (syL p U) R):CallF P G fn vs [yH p s] R:=by
 intro F w st c;obtain ⟨U,b⟩:=St.get_ex st;have a:=b.le (Z1 (pure (Real U s)::syL p U) F);exact h U a.get_pure F w (a.le (eD _ _)) c
theorem U1 {U:SyC}(h:Real U s):Le (syL p U) [yH p s]:=by have:=I6 (p:=p) h [];rwa [cA] at this
structure PS where
 b:Nat
 o:Nat
 s:Stm
def PS.v (x:PS):Value:= .pointer (some ⟨x.b,x.o,none⟩)
def PS.At (M:Hp)(x:PS):Prop:=StAt M ⟨x.b,x.o,none⟩ x.s
def psL (b o:Nat)(l:List Stm):List PS:=(List.range l.length).map fun i=>⟨b,o+i*25,l.getD i zSm⟩
theorem Mj (b o:Nat)(l:List Stm):(psL b o l).length=l.length:=by simp [psL]
theorem Gw (b o:Nat)(l:List Stm):(psL b o l).map (fun y=>y.s.er)=Zj l:=by
 apply hU
 . simp [psL,Zg]
 intro i c d;have a:i<l.length:=by simpa [psL] using c
 simp [psL,Yf,a]
theorem Gx {l:List Stm}(h:BlkAt M (some ⟨b,o,none⟩) c l): ∀ y∈psL b o l,y.At M:=by
 intro y d;obtain ⟨i,a,rfl⟩:=bU.1 d;have a:=jC.1 a;obtain ⟨k,j,g,f⟩:=fR Z8 (by decide) h.1.2.2 a
 cases g
 have e:l.getD i zSm=l[i]:=by simp [List.getD,a]
 unfold PS.At;dsimp only;rw [e];exact ⟨f,Vg.1 h.2 _ (aB a)⟩
structure TC where
 decl:Int
 st:Int
 la:Option Addr
 lc:Nat
 loc:List Int
 ta:Option Addr
 tc:Nat
 todo:List PS
 sa:Option Addr
 sc:Nat
 sp:List Int
variable {t:TC}{ths:List TC}
def trC (x:TC):List Value:= [I64 x.decl,I64 x.st,.slice x.la x.loc.length x.lc,.slice x.ta x.todo.length x.tc,.slice x.sa x.sp.length x.sc]
theorem Zd (x:TC):(trC x).length=5:=rfl
theorem F6 (x:TC):(trC x).all (·.oneCell')=true:=rfl
def TC.er (x:TC):PTr:=⟨x.decl,x.st,x.loc,(x.todo.map fun y=>y.s.er).reverse,x.sp⟩
def trL (x:TC):List HP:= [lsH I64 2 x.la x.lc x.loc,lsH PS.v 146 x.ta x.tc x.todo,lsH I64 3 x.sa x.sc x.sp]
def trH (x:TC):HP:=stars (trL x)
def TodoAt (M:Hp)(l:List TC):Prop:= ∀ t∈l,∀ y∈t.todo,y.At M
structure StC where
 ca:Option Addr
 cc:Nat
 cells:List Int
 sp:Nat
 sy:Sy
 ha:Option Addr
 hc:Nat
 ths:List TC
 out:POut
variable {U:StC}
def Vt (pp:Nat)(U:StC):List Value:= [.pointer (some ⟨pp,0,none⟩),.slice U.ca U.cells.length U.cc,.pointer (some ⟨U.sp,0,none⟩),.slice U.ha U.ths.length U.hc,I64 U.out.kind,I64 U.out.trap,I64 U.out.th,I64 U.out.stmt]
def StC.er (U:StC):SS:=⟨U.cells,U.sy,U.ths.map TC.er,U.out⟩
def Zr (U:StC):List HP:= [lsH I64 2 U.ca U.cc U.cells,yH U.sp U.sy,rsH trC 5 116 U.ha U.hc U.ths,stars (U.ths.map trH)]
def stP (p pp:Nat)(U:StC):HP:=pto p (.cells (Vt pp U).toArray 98 (0,0))
def acC (x:Ac):List Value:= [I64 x.1,.bool x.2.1,I64 x.2.2]
def snC (x:Sn):List Value:= [I64 x.1,I64 x.2.1,I64 x.2.2]
structure EvC where
 e:PEv
 aa:Option Addr
 ac:Nat
 na:Option Addr
 nc:Nat
def evC (x:EvC):List Value:= [I64 x.e.th,I64 x.e.stmt,.bool x.e.woke,I64 x.e.trap,.slice x.aa x.e.acc.length x.ac,.bool x.e.told,I64 x.e.outv,I64 x.e.value,.slice x.na x.e.syn.length x.nc]
def evL (x:EvC):List HP:= [rsH acC 3 140 x.aa x.ac x.e.acc,rsH snC 3 50 x.na x.nc x.e.syn]
def spP (p pp who:Nat)(U:StC)(e:EvC):HP:=pto p (.cells (Vt pp U++(I64 who::evC e)).toArray 145 (0,0))
structure Prg (q:List HP) (pp:Nat) (g:FC):Prop where
 hp:CellsAt q pp 0 (pgC g)
 hK:Kn q fun M=>g.At M
theorem Prg.le (h:Prg q' pp g)(l:Le q q'):Prg q pp g:=⟨h.hp.le l,h.hK.le l⟩
def Fnd.pr (f:Fnd):PPr:=⟨f.vars,f.arrs,f.chs,f.mu,f.co,f.main,f.ths.map fun t=>(t.loc,t.body)⟩
theorem C9 (n:Nat)(a:Option Addr)(c ty:Nat)(q:List HP):Le (slH a c ty 1 n ((List.replicate n (Value.int .i64 0).cells.toList).flatten)::q) (lsH I64 ty a c (List.replicate n 0)::q):=by
 unfold lsH;rw [cU,show (List.replicate n (0:Int)).map I64=(List.replicate n (Value.int .i64 0).cells.toList).flatten by simp [Value.cells]];exact aE _
theorem W0:(prog.info? 146).map (fun i=>(i.zero,i.size,i.bytes))=some (some (.pointer none),1,8):=by kernel_rfl
section
variable {t v m:Int}{ta:Option Addr}{tc:Nat}{todo:List PS}{x0 x2 x4:Value}{l:List Stm}
theorem X6 (hs:s.ok N)(hN:N<=1000):CallF prog G 56 (Aa p m) [yH p s] (Ret fun v q'=>v= .tuple [I64 (Hs s m).1,I64 (Hs s m).2].toArray/\q'= [yH p s]):=
 Up fun U a=>dF (aE _) (Owner_ok a hs hN) (by rintro _ _ ⟨_,rfl,rfl,rfl⟩;exact ⟨_,⟨_,rfl,rfl,rfl⟩,(U1 a)⟩)
theorem Lock_Y (hs:s.ok N)(hN:N<=1000):CallF prog G 128 (Ae p m t) [yH p s] (Ret fun v q'=>v= .tuple [.bool (Ws s m t).2.1,I64 (Ws s m t).2.2].toArray/\q'= [yH p (Ws s m t).1]):=
 Up fun U a=>dF (aE _) (Lock_ok a hs hN) (by rintro _ _ ⟨_,rfl,c,b,rfl,rfl⟩;exact ⟨_,⟨_,rfl,rfl,rfl⟩,(U1 b)⟩)
theorem Unlock_Y (hs:s.ok N)(hN:N<=1000):CallF prog G 193 (Ae p m t) [yH p s] (Ret fun v q'=>v= I64 (Z6 s m t).2/\q'= [yH p (Z6 s m t).1]):=
 Up fun U a=>dF (aE _) (Zzp a hs hN) (by rintro _ _ ⟨_,rfl,c,b,rfl,rfl⟩;exact ⟨_,⟨_,rfl,rfl,rfl⟩,(U1 b)⟩)
theorem Wait_Y (hs:s.ok N)(hN:N<=1000):CallF prog G 171 (Ae p k t) [yH p s] (Ret fun v q'=>v= I64 (U7 s k t).2/\q'= [yH p (U7 s k t).1]):=
 Up fun U a=>dF (aE _) (Wait_ok a hs hN) (by rintro _ _ ⟨_,rfl,c,b,rfl,rfl⟩;exact ⟨_,⟨_,rfl,rfl,rfl⟩,(U1 b)⟩)
theorem Lz (hs:s.ok N)(hN:N<=1000):CallF prog G 172 (Aa p k) [yH p s] (Ret fun v q'=>v= .tuple [I64 (max (Yt s k).2.1 0),.bool (decide (0<=(Yt s k).2.1)),I64 (Yt s k).2.2].toArray/\q'= [yH p (Yt s k).1]):=
 Up fun U a=>dF (aE _) (Zzr a hs hN) (by rintro _ _ ⟨_,rfl,c,b,rfl,rfl⟩;exact ⟨_,⟨_,rfl,rfl,rfl⟩,(U1 b)⟩)
theorem All_Y (hs:s.ok N)(hN:N<=1000):CallF prog G 173 (Aa p k) [yH p s] (Ret fun v q'=> ∃ a' c',v= .tuple [.slice a' (Kb s k).2.1.length c',I64 (Kb s k).2.2].toArray/\q'= [lsH I64 3 a' c' (Kb s k).2.1,yH p (Kb s k).1]):=
 Up fun U a=>dF (aE _) (All_ok a hs hN) (by rintro _ _ ⟨_,rfl,c,a',c',b,rfl,rfl⟩;exact ⟨_,⟨_,rfl,a',c',rfl,rfl⟩,(dD _ (U1 b))⟩)
theorem Send_Y (hs:s.ok N)(hN:N<=1000):CallF prog G 174 (Ae p k t) [yH p s] (Ret fun v q'=>v= .tuple [I64 (max (Vf s k t).2.1 0),.bool (decide (0<=(Vf s k t).2.1)),I64 (Vf s k t).2.2].toArray/\q'= [yH p (Vf s k t).1]):=
 Up fun U a=>dF (aE _) (Send_ok a hs hN) (by rintro _ _ ⟨_,rfl,c,b,rfl,rfl⟩;exact ⟨_,⟨_,rfl,rfl,rfl⟩,(U1 b)⟩)
theorem Recv_Y (hs:s.ok N)(hN:N<=1000):CallF prog G 175 (Aa p k) [yH p s] (Ret fun v q'=>v= .tuple [I64 (Vq s k).2.1,I64 (max (Vq s k).2.2.1 0),.bool (decide (0<=(Vq s k).2.2.1)),I64 (Vq s k).2.2.2].toArray/\q'= [yH p (Vq s k).1]):=
 Up fun U a=>dF (aE _) (Recv_ok a hs hN) (by rintro _ _ ⟨_,rfl,c,b,rfl,rfl⟩;exact ⟨_,⟨_,rfl,rfl,rfl⟩,(U1 b)⟩)
theorem P7 (hs:s.ok N)(hN:N<=1000):CallF prog G 58 (Aa p k) [yH p s] (Ret fun v q'=> ∃ a' c',v= .tuple [.slice a' (Qf s k).1.length c',I64 (Qf s k).2].toArray/\q'= [lsH I64 2 a' c' (Qf s k).1,yH p s]):=
 Up fun U a=>dF (aE _) (Zzm a hs hN) (by rintro _ _ ⟨_,rfl,a',c',rfl,rfl⟩;exact ⟨_,⟨_,rfl,a',c',rfl,rfl⟩,(dD _ (U1 a))⟩)
theorem Room_Y (hs:s.ok N)(hN:N<=1000):CallF prog G 125 (Aa p k) [yH p s] (Ret fun v q'=>v= .tuple [I64 (Bp s k).1,I64 (Bp s k).2].toArray/\q'= [yH p s]):=
 Up fun U a=>dF (aE _) (Room_ok a hs hN) (by rintro _ _ ⟨_,rfl,rfl,rfl⟩;exact ⟨_,⟨_,rfl,rfl,rfl⟩,(U1 a)⟩)
theorem Copy_Y (hs:s.ok N)(hN:N<=1000):CallF prog G 67 (A8 p) [yH p s] (Ret fun v q'=> ∃ p2,v= .pointer (some ⟨p2,0,none⟩)/\q'= [yH p2 s,yH p s]):=
 Up fun U a=>dF (aE _) (Copy_ok a hs hN) (by rintro _ _ ⟨_,rfl,p2,b,c,rfl,rfl⟩;exact ⟨_,⟨_,rfl,p2,rfl,rfl⟩,(I6 c _).trans (dD _ (U1 a))⟩)
theorem New_Y {mm cc:Int}{rooms:List Int}(hs:Sees q a (rooms.map I64))(ok:Nq mm cc rooms):CallF prog G 46 [I64 mm,I64 cc,.slice a rooms.length c] q (Ret fun v q'=> ∃ p,v= .tuple [.pointer (some ⟨p,0,none⟩),I64 0].toArray/\q'=yH p (Dy mm.toNat cc.toNat rooms)::q):=
 dF (aE _) (New_ok hs ok) (by rintro _ _ ⟨_,rfl,p,U,h,rfl,rfl⟩;exact ⟨_,⟨_,rfl,p,rfl,rfl⟩,I6 h _⟩)
theorem Kv (hc:Cl q ⟨b,o+3,none⟩ (.slice ta todo.length tc))(hs:Sees q ta (todo.map PS.v))(hl:todo.length<=1000000):CallF prog G 60 [.pointer (some ⟨b,o,none⟩)] (q) (Ret fun v q'=>v=(match todo.getLast? with|none=>Value.pointer none|some y=>y.v)/\q'=q):=by
 refine aC func60 ntmps60 rfl fun F g=> ?_;refine xo 10 ?_;refine ld ?_ (hc:=(hc.le leA));refine ox 3 ?_;refine xp 8 ?_ ?_<;>intro f
 . obtain rfl:todo= []:=aK (by omega);refine xx 5 ?_;refine Zq (q) func60 (Zn results60 rfl) ⟨_,rfl,rfl,rfl⟩
 have c:0<todo.length:=(by omega);refine Yd (hs.le leA) (by simp;omega) fun h e d=> ?_;subst d;have a:todo.getLast? =some todo[todo.length - 1]:=by rw [List.getLast?_eq_getElem?,aD (by omega)]
 refine rn [3,0,1,2,3] ?_;refine ldD 3 ?_ (hc:=(hc.le leA));refine dd [4,5,6] ?_;refine ldD 7 ?_ (hc:=(hc.le leA));refine dd [8,9,10] ?_;refine ldD 11 ?_ (hc:=((hs.le leA).at (n:=todo.length - 1) (by omega) (by omega)));refine rn [13,0] ?_;refine Zq (q) func60 (Zn results60 rfl) ⟨_,rfl,by rw [a],rfl⟩
variable {hc gh:Nat}
theorem push_box (hK:Kn q fun M=>BlkAt M a c l)(hl:l.length<=1000000/\todo.length<=1000000):CallF prog G 84 (AG b a l c) (pto b (.cells [x0,x1,x2,.slice ta todo.length tc,x4].toArray 116 (0,0))::lsH PS.v 146 ta tc todo::q) (Ret fun v q'=> ∃ a' c' b' o',(0<l.length->a=some ⟨b',o',none⟩)/\q'=pto b (.cells [x0,x1,x2,.slice a' (todo++(psL b' o' l).reverse).length c',x4].toArray 116 (0,0))::lsH PS.v 146 a' c' (todo++(psL b' o' l).reverse)::q):=by
 refine aC func84 ntmps84 rfl fun F cs=> ?_;have hS:=fM (hK.imp fun M h=>h.1.2.2);have o:=Zx Z8 l;rcases dK l.length with p|p
 . obtain rfl:=aK p;refine xx 7 ?_;refine aY (cG (fun (r:Unit)=>True) (fun r=> [(0,.pointer (some ⟨b,0,none⟩)),(1,.slice a 0 c),(6,I64 0),(7,I64 0)]) (fun r=>pto b (.cells [x0,x1,x2,.slice ta todo.length tc,x4].toArray 116 (0,0))::lsH PS.v 146 ta tc todo::(q++F)) (fun r=>0) (fun r e t=> ?_) () trivial) Zu leA;try dsimp only at e t|-
   obtain _:=e;refine xx 5 ?_;refine dR 8 rfl ?_ ?_<;>intro h0
   . exact aR (sp h0) (by decide)
   refine xx 2 ?_;refine Z7 (pto b (.cells [x0,x1,x2,.slice ta todo.length tc,x4].toArray 116 (0,0))::lsH PS.v 146 ta tc todo::q) func84 (Vm results84) ⟨_,rfl,ta,tc,0,0,(fun k=>aR k (by decide)),by simp [psL]⟩
 refine Yd (hS.le leA) (by rw [o];omega) fun n j e_=> ?_;subst e_;obtain ⟨d,g⟩:=kL (psL n j l).reverse;have w:d.length=l.length:=by rw [g,kH,Mj]
 refine xx 7 ?_;refine aY (cG (fun (s:Nat×Option Addr×Nat)=>s.1<=l.length) (fun s=> [(0,.pointer (some ⟨b,0,none⟩)),(1,.slice (some ⟨n,j,none⟩) l.length c),(6,I64 l.length),(7,I64 (s.1:Int))]) (fun s=>pto b (.cells [x0,x1,x2,.slice s.2.1 (todo++d.take s.1).length s.2.2,x4].toArray 116 (0,0))::lsH PS.v 146 s.2.1 s.2.2 (todo++d.take s.1)::(q++F)) (fun s=>l.length - s.1) (fun s e t=> ?_) (0,ta,tc) (bB _)) Zu (by simp only [gU,cA];exact leA);try dsimp only at e t|-
 obtain hi:=e;obtain ⟨i,a1,y⟩:=s;dsimp only at*;refine xx 5 ?_;refine xp 8 ?_ ?_<;>intro h0
 . have b0:i<l.length:=(by omega);have x:i<d.length:=(by omega);have hx:d[i]=⟨n,j+(l.length - 1 - i)*25,l.getD (l.length - 1 - i) zSm⟩:=by simp [g,psL]
   have a0:(todo++d.take i).length<=2000000:=by rw [aG,bH];omega
   refine rn [9,0,1,2,3,4,5,6,7,8,9,10,11,12] ?_;refine fC 12 rfl (U3 (u:=d[i]) PS.v underlying114 W0 (by rw [hx];exact bK some (bK (fun z=>Value.pointer (some ⟨n,j+z*25,none⟩)) (by omega))) rfl) ?_;rintro _ _ ⟨g2,rfl,rfl⟩;refine ⟨hlA,?_⟩;refine fC 13 rfl (Yx (f:=PS.v) (l:=todo++d.take i) (m:= [d[i]]) underlying114 W0 rfl rfl rfl Zk ((bR _).le leA) (fun _=>rfl) (by simp only [bJ];omega) (by simp only [bJ];omega)) ?_;refine kk2 fun a2 c2=> ?_
   rw [show todo++d.take i++ [d[i]]=todo++d.take (i+1) by rw [aH x,aA]];refine rn [15,16,17,0,5] ?_;refine aY (t (i+1,a2,c2) (by dsimp only;omega) (by dsimp only;omega)) Zu leA
 obtain rfl:i=l.length:=(by omega);rw [<-w,cD,g];refine xx 2 ?_;refine Z7 (pto b (.cells [x0,x1,x2,.slice a1 (todo++(psL n j l).reverse).length y,x4].toArray 116 (0,0))::lsH PS.v 146 a1 y (todo++(psL n j l).reverse)::q) func84 (Vm results84) ⟨_,rfl,a1,y,n,j,fun _=>rfl,rfl⟩
abbrev zTC:TC:=⟨0,0,none,0, [],none,0, [],none,0, []⟩
theorem Be (hn:n<ths.length)(hK:Kn q fun M=>BlkAt M a c l)(hl:l.length<=1000000/\ths[n].todo.length<=1000000):CallF prog G 84 [.pointer (some ⟨gh,0+(n:Int).toNat*5,none⟩),.slice a l.length c] (rsH trC 5 116 (some ⟨gh,0,none⟩) hc ths::lsH PS.v 146 ths[n].ta ths[n].tc ths[n].todo::q) (Ret fun v q'=> ∃ a' c' b' o',(0<l.length->a=some ⟨b',o',none⟩)/\q'=rsH trC 5 116 (some ⟨gh,0,none⟩) hc (ths.set n { ths.getD n zTC with ta:=a',tc:=c',todo:=(ths[n].todo++(psL b' o' l).reverse) })::lsH PS.v 146 a' c' (ths[n].todo++(psL b' o' l).reverse)::q):=by
 refine aC func84 ntmps84 rfl fun F cs=> ?_;have hS:=fM (hK.imp fun M h=>h.1.2.2);have w:=Zx Z8 l;obtain ⟨t,ht⟩:=kL ths[n];have c0:ths.getD n zTC=t:=by rw [ht];simp [List.getD,hn]
 have r:ths.set n t=ths:=by rw [ht];exact dO hn
 rw [<-ht] at hl|-;simp only [c0];refine bY (q':=rsH trC 5 116 (some ⟨gh,0,none⟩) hc (ths.set n { t with ta:=t.ta,tc:=t.tc,todo:=t.todo })::lsH PS.v 146 t.ta t.tc t.todo::(q++F)) (by rw [show ths.set n { t with ta:=t.ta,tc:=t.tc,todo:=t.todo } =ths from r];exact leA) ?_;rcases dK l.length with x|x
 . obtain rfl:=aK x;refine xx 7 ?_;refine aY (cG (fun (y:Unit)=>True) (fun y=> [(0,.pointer (some ⟨gh,0+(n:Int).toNat*5,none⟩)),(1,.slice a 0 c),(6,I64 0),(7,I64 0)]) (fun y=>rsH trC 5 116 (some ⟨gh,0,none⟩) hc (ths.set n { t with ta:=t.ta,tc:=t.tc,todo:=t.todo })::lsH PS.v 146 t.ta t.tc t.todo::(q++F)) (fun y=>0) (fun y d ih=> ?_) () trivial) Zu leA;try dsimp only at d ih|-
   obtain _:=d;refine xx 5 ?_;refine dR 8 rfl ?_ ?_<;>intro h0
   . exact aR (sp h0) (by decide)
   refine xx 2 ?_;refine Z7 (rsH trC 5 116 (some ⟨gh,0,none⟩) hc (ths.set n { t with ta:=t.ta,tc:=t.tc,todo:=t.todo })::lsH PS.v 146 t.ta t.tc t.todo::q) func84 (Vm results84) ⟨_,rfl,t.ta,t.tc,0,0,(fun k=>aR k (by decide)),by simp [psL]⟩
 refine Yd (hS.le leA) (by rw [w];omega) fun p o e_=> ?_;subst e_;obtain ⟨b,e⟩:=kL (psL p o l).reverse;have a0:b.length=l.length:=by rw [e,kH,Mj]
 refine xx 7 ?_;refine aY (cG (fun (s:Nat×Option Addr×Nat)=>s.1<=l.length) (fun s=> [(0,.pointer (some ⟨gh,0+(n:Int).toNat*5,none⟩)),(1,.slice (some ⟨p,o,none⟩) l.length c),(6,I64 l.length),(7,I64 (s.1:Int))]) (fun s=>rsH trC 5 116 (some ⟨gh,0,none⟩) hc (ths.set n { t with ta:=s.2.1,tc:=s.2.2,todo:=(t.todo++b.take s.1) })::lsH PS.v 146 s.2.1 s.2.2 (t.todo++b.take s.1)::(q++F)) (fun s=>l.length - s.1) (fun s d ih=> ?_) (0,t.ta,t.tc) (bB _)) Zu (by simp only [gU,cA];exact leA);try dsimp only at d ih|-
 obtain hi:=d;obtain ⟨i,a1,c1⟩:=s;dsimp only at*;refine xx 5 ?_;refine xp 8 ?_ ?_<;>intro h0
 . have e0:i<l.length:=(by omega);have b0:i<b.length:=(by omega);have hx:b[i]=⟨p,o+(l.length - 1 - i)*25,l.getD (l.length - 1 - i) zSm⟩:=by simp [e,psL]
   have d0:(t.todo++b.take i).length<=2000000:=by rw [aG,bH];omega
   refine rn [9,0,1,2,3,4] ?_;refine ldD 4 ?_ (hc:=(cT (n:=n) (bE _) leA Zd (by rw [bC];exact hn) rfl 3 _ (by rw [cN];rfl)));refine dd [5,6,7,8,9,10,11] ?_;refine fC 12 rfl (U3 (u:=b[i]) PS.v underlying114 W0 (by rw [hx];exact bK some (bK (fun z=>Value.pointer (some ⟨p,o+z*25,none⟩)) (by omega))) rfl) ?_;rintro _ _ ⟨g2,rfl,rfl⟩;refine ⟨(hlA (h:=by repeat first|exact trivial|refine ⟨clA,?_⟩|refine ⟨(cT (n:=n) (bE _) leA Zd (by rw [bC];exact hn) rfl 3 _ (by rw [cN];rfl)),?_⟩)),?_⟩;refine fC 13 rfl (Yx (f:=PS.v) (l:=t.todo++b.take i) (m:= [b[i]]) underlying114 W0 rfl rfl rfl Zk ((bR _).le leA) (fun _=>rfl) (by simp only [bJ];omega) (by simp only [bJ];omega)) ?_;refine kk2 fun a2 c2=> ?_
   rw [show t.todo++b.take i++ [b[i]]=t.todo++b.take (i+1) by rw [aH b0,aA]];refine dd [14,15] ?_;refine iQ 16 rfl (Yr (g:=gh) (f:=trC) (l:=ths.set n { t with ta:=a1,tc:=c1,todo:=t.todo++b.take i }) (u:= { t with ta:=a2,tc:=c2,todo:=t.todo++b.take (i+1) }) (n:=n) (k:=3) (j:=(n:Int)) rfl rfl sizeOf114 Zd rfl (by rw [bC];exact hn) rfl (by rw [cN];rfl) rfl rfl Zk) ?_;refine kk0 ?_;rw [fI];refine rn [0,5] ?_;refine aY (ih (i+1,a2,c2) (by dsimp only;omega) (by dsimp only;omega)) Zu leA
 obtain rfl:i=l.length:=(by omega);rw [<-a0,cD,e];refine xx 2 ?_;refine Z7 (rsH trC 5 116 (some ⟨gh,0,none⟩) hc (ths.set n { t with ta:=a1,tc:=c1,todo:=(t.todo++(psL p o l).reverse) })::lsH PS.v 146 a1 c1 (t.todo++(psL p o l).reverse)::q) func84 (Vm results84) ⟨_,rfl,a1,c1,p,o,fun _=>rfl,rfl⟩
end
theorem Gh:(prog.info? 2).map (fun i=>(i.zero,i.size,i.bytes))=some (some (I64 0),1,8):=by kernel_rfl
theorem R4:(prog.info? 3).map (fun i=>(i.zero,i.size,i.bytes))=some (some (I64 0),1,8):=by kernel_rfl
theorem Qj:(prog.info? 116).map (fun i=>(i.zero,i.size,i.bytes))=some (some (.agg #[I64 0,I64 0,.slice none 0 0,.slice none 0 0,.slice none 0 0]),5,88):=by kernel_rfl
theorem getD_pr (h:n<g.ths.l.length):g.er.pr.ths.getD n (0, [])=(g.ths.l[n].loc,Zj g.ths.l[n].body):=by
 have a:n<g.er.pr.ths.length:=by simp [FC.er,Fnd.pr];exact h
 rw [bD,aD a];simp [FC.er,Fnd.pr,Th.er]
abbrev Ax (v0:Int)(v1)(v2)(v3)(v4):=(⟨(v0:Int),4,some ⟨v1,0,none⟩,v2,List.replicate v2 0,v3,v4, [],none,0, []⟩:TC)
theorem Po (hP:Prg q pp g)(hn:n<g.ths.l.length)(hl:0<=g.ths.l[n].loc/\g.ths.l[n].loc<=32)(hb:g.ths.l[n].body.length<=1000000):CallF prog G 47 [.pointer (some ⟨pp,0,none⟩),I64 n] (q) (Ret fun v q'=> ∃ T:TC,T.er=Wc g.er.pr n/\v= .agg (trC T).toArray/\(Kn q fun M=> ∀ y∈T.todo,y.At M)/\q'=trH T::q):=by
 refine aC func47 ntmps47 rfl fun F cs=> ?_;obtain ⟨hp,hK⟩:=hP;have m:CellsAt q pp 0 [.slice g.vars.a g.vars.l.length g.vars.c,.slice g.arrs.a g.arrs.l.length g.arrs.c,I64 g.mu,I64 g.co,.slice g.chs.a g.chs.l.length g.chs.c,.slice g.ths.a g.ths.l.length g.ths.c,I64 g.main,I64 g.stm]:=fun k v hk=>hp k v (by revert hk;match k with|0|1|2|3|4|5|6|7=>exact fun h=>h|(k+8)=>intro h;cases h)
 have hT:=dT (hK.imp fun M h=>h.ths);have p:=Zx Q1 g.ths.l;obtain ⟨x,hx⟩:=kL g.ths.l[n];rw [<-hx] at hl hb;have j:=getD_pr hn;rw [<-hx] at j;refine Yd (hT.le leA) (by rw [p];omega) fun ab ao e_=> ?_;rw [e_] at hT m;have t:CellsAt q ab (ao+(n:Int).toNat*3) (thC x):=by rw [hx];exact CellsAt.row hT (aE _) Q1 hn rfl
 have s:Kn q fun M=>BlkAt M x.a x.c x.body:=hK.imp fun M h=>h.bod x (hx ▸ aB hn)
 obtain ⟨L,hL⟩:=aV hl.1;refine xo 2 ?_;refine bW zeroValue116 fun n1=> ?_
 refine rg [7,0,3,0] m t ?_;refine bA 14 (Aw L) rfl (by rw [hL]) ?_;refine bQ (Bk (n:=L) rfl rfl underlying23 Gh rfl rfl (by omega) (by omega)) ?_;rintro _ _ ⟨d,rfl,rfl⟩;refine eU (q':=lsH I64 2 (some ⟨d,0,none⟩) L (List.replicate L 0)::_) (aS Zk (C9 _ _ _ _ _)) ?_;refine oo 1 ?_;refine bW zeroValue116 fun n2=> ?_
 refine rg [0,6,0,3,0] m t ?_;refine eU (Za PS.v 146 _) ?_;refine Zb call84 (bM Zk Zk) (push_box (b:=n2) (todo:= []) (l:=x.body) (a:=x.a) (c:=x.c) (s.le leA) ⟨hb,by decide⟩) ?_;rintro _ _ ⟨f,e,b1,o1,b0,rfl⟩;refine oo 4 ?_;obtain ⟨TD,i⟩:=kL (psL b1 o1 x.body).reverse;rw [aT,<-i];have c0:TD.length=x.body.length:=by rw [i,kH,Mj]
 refine aO call60 (Kv (todo:=TD) (b:=n2) (o:=0) clA ((bR _).le leA) (by omega)) ?_
 have u:Kn q fun M=> ∀ y∈TD,y.At M:=by
  rcases dK x.body.length with w|w
  . obtain rfl:TD= []:=aK (by omega);exact fun _ _ _ y z=>by cases z
  refine s.imp fun M h y z=> ?_
  rw [b0 w] at h;rw [i] at z;exact Gx h y (jR.1 z)
 rcases dK x.body.length with w|w
 . obtain rfl:TD= []:=aK (by omega);refine bA 26 (.pointer none) rfl (rfl) ?_;refine rn [2,2027,3,0,3,0,0,1] ?_;refine bY (Za I64 3 _) ?_;refine bY (q':=trH (Ax n d L f e)::_) (aS (b:=lsH I64 2 (some ⟨d,0,none⟩) L (List.replicate L 0)::lsH PS.v 146 f e []::lsH I64 3 none 0 []::_) (bM Zk (bM Zk Zk)) (Z5 (trL (Ax n d L f e)) _)) ?_;refine Zq (trH (Ax n d L f e)::q) func47 (rA_ results47) ⟨_,rfl,(Ax n d L f e),by simp only [TC.er,Wc];rw [show ((n:Int)).toNat=n from rfl,j];simp [hL,aK w,Zj],by rw [trC];simp only [cU];rfl,u,rfl⟩
 have r:TD.getLast? =some (TD[TD.length - 1]'(by omega)):=by rw [List.getLast?_eq_getElem?,aD (by omega)]
 obtain ⟨yy,a0⟩:=kL (TD[TD.length - 1]'(by omega));rw [<-a0] at r;refine bA 26 (.pointer (some ⟨yy.b,yy.o,none⟩)) rfl (by rw [r];rfl) ?_;refine rn [2,1027,4,0,0,1] ?_;refine bY (Za I64 3 _) ?_;refine bY (q':=trH (⟨(n:Int),1,some ⟨d,0,none⟩,L,List.replicate L 0,f,e,TD,none,0, []⟩:TC)::_) (aS (b:=lsH I64 2 (some ⟨d,0,none⟩) L (List.replicate L 0)::lsH PS.v 146 f e TD::lsH I64 3 none 0 []::_) (bM Zk (bM Zk Zk)) (Z5 (trL (⟨(n:Int),1,some ⟨d,0,none⟩,L,List.replicate L 0,f,e,TD,none,0, []⟩:TC)) _)) ?_;refine Zq (trH (⟨(n:Int),1,some ⟨d,0,none⟩,L,List.replicate L 0,f,e,TD,none,0, []⟩:TC)::q) func47 (rA_ results47) ⟨_,rfl,(⟨(n:Int),1,some ⟨d,0,none⟩,L,List.replicate L 0,f,e,TD,none,0, []⟩:TC),by simp only [TC.er,Wc];rw [show ((n:Int)).toNat=n from rfl,j];rw [if_neg (by intro k_;have:=bK List.length k_;rw [Zg] at this;exact aR this (by simp only [dN];omega)),i];simp [hL,<-Gw b1 o1 x.body,jS],by rw [trC];simp only [cU];rfl,u,rfl⟩
mutual
/-- A statement whose parts and slots are there. -/
def PStm.good (c:Cn)(lo:Int):PStm->Prop
 | .mk k _ _ _ _ e ix body els _ slot other loc=>N3 c lo k e ix body.length els.length=true/\Na c lo k slot other loc=true/\(body.length<=512/\els.length<=512)/\Wm c lo body/\Wm c lo els
def Wm (c:Cn)(lo:Int):List PStm->Prop
 | []=>True
 |s::r=>s.good c lo/\Wm c lo r
end
theorem Y9 {c:Cn}{lo:Int}: ∀ {l:List PStm},Wm c lo l↔ ∀ s∈l,s.good c lo
 | []=>by simp [Wm]
 |s::r=>by simp [Wm,Y9 (l:=r)]
mutual
theorem E6 {c:Cn}{lo:Int}: ∀ {s:PStm} {d n m:Int},0<=n->n<=512->s.ask c lo d n=some m->s.good c lo/\n+1<=m/\m<=512
 | .mk ..,d,n,m,hz,hn,h=>by
  simp only [PStm.ask] at h;split at h
  . cases h
  rename_i g;split at h
  . rename_i a;rw [aI] at a;split at h
    . cases h
    rename_i k b;have f:=Ue (by omega) (by omega) b;have e:=Ue (by omega) (by omega) h;exact ⟨⟨a.1,a.2,⟨by omega,by omega⟩,f.1,e.1⟩,by omega,by omega⟩
  cases h
theorem Ue {c:Cn}{lo:Int}: ∀ {l:List PStm} {d n m:Int},0<=n->n<=512->Z2 c lo l d n=some m->Wm c lo l/\n+l.length<=m/\m<=512
 | [],d,n,m,hz,hn,h=>by simp only [Z2] at h;cases h;exact ⟨trivial,by simp,hn⟩
 |s::r,d,n,m,hz,hn,h=>by
  simp only [Z2] at h;split at h
  . cases h
  rename_i k e;have b:=E6 hz hn e;have a:=Ue (by omega) b.2.2 h;exact ⟨⟨b.1,a.1⟩,by rw [bG];omega,a.2.2⟩
end
structure MayP (F:Fnd):Prop where
 f:Nq F.mu F.co F.chs
 m:0<=F.main/\F.main<F.ths.length
 v: ∀ v∈F.vars,val v
 a: ∀ n∈F.arrs,1<=n/\n<=256
 s:Y7 F.arrs<=256
 l:F.vars.length<=64/\F.arrs.length<=64/\F.chs.length<=64/\F.ths.length<=64
 t: ∀ t∈F.ths,(0<=t.loc/\t.loc<=32)/\t.body.length<=512/\Wm F.cn t.loc t.body
theorem Mr {c:Cn}: ∀ {l:List PTh} {n m:Int},0<=n->n<=512->W4 c l n=some m-> ∀ t∈l,(0<=t.loc/\t.loc<=32)/\t.body.length<=512/\Wm c t.loc t.body
 | [],n,m,_,_,_,t,a=>by cases a
 |x::r,n,m,h0,hn,h,t,a=>by
  simp only [W4] at h;split at h
  . cases h
  rename_i d;split at h
  . cases h
  rename_i k b;have g:=Ue h0 hn b;rcases cE.1 a with rfl|a
  . exact ⟨by omega,by omega,g.1⟩
  exact Mr (by omega) g.2.2 h t a
theorem Xn {F:Fnd}(h:Dh F=true):MayP F:=by
 unfold Dh Gg inB at h;simp only [aI,bN,dC] at h;obtain ⟨⟨⟨i,g,j,f,e,d,c⟩,b⟩,a⟩:=h;exact ⟨⟨i,g,by omega,d⟩,b,f,e,c,by omega,Mr (by decide) (by decide) a⟩
theorem Zq3 (hK:Kn q fun M=>g.At M)(hM:MayP g.er):CallF prog G 25 [.agg (pgC g).toArray] (q) (Ret fun v q'=>v= I64 (g.vars.l.length+Y7 g.arrs.l)/\q'=q):=by
 refine aC func25 ntmps25 rfl fun F cs=> ?_;have z:g.vars.l.length<=64:=hM.l.1;have u:g.arrs.l.length<=64:=hM.l.2.1;have p: ∀ n∈g.arrs.l,1<=n/\n<=256:=hM.a;have m:=(dT (hK.imp fun M h=>h.arrs));rw [Qv] at m;refine xo 2 ?_;refine Ww fun w=> ?_
 refine rn [5,0] ?_;refine bA 7 (.slice g.vars.a g.vars.l.length g.vars.c) rfl (rfl) ?_;refine rn [7,0] ?_;refine bA 10 (.slice g.arrs.a g.arrs.l.length g.arrs.c) rfl (rfl) ?_;refine ox 4 ?_;refine aY (cG (fun (s:Nat)=>s<=g.arrs.l.length) (fun s=> [(3,I64 (g.vars.l.length+Y7 (g.arrs.l.take s))),(10,.slice g.arrs.a g.arrs.l.length g.arrs.c),(11,I64 g.arrs.l.length),(12,I64 s)]) (fun s=>(q++F)) (fun s=>g.arrs.l.length - s) (fun s f o=> ?_) 0 (bB _)) Zu leA;try dsimp only at f o|-
 obtain hi:=f;refine xx 5 ?_;refine xp 13 ?_ ?_<;>intro h0
 . have e:s<g.arrs.l.length:=(by omega);refine Yd (m.le leA) (by simp;omega) fun ab ao r=> ?_;have d:=m;rw [r] at d|-;refine rf [7,0] d ?_;have x:=p _ (aB e);have i:Y7 (g.arrs.l.take (s+1))=Y7 (g.arrs.l.take s)+g.arrs.l[s]:=by rw [aH e,Nl];simp [Y7]
   have b:=Qg (l:=g.arrs.l.take s) (k:=256) (fun y t=>by have:=p y (hY t);omega) (by decide);rw [bH] at b;have j:((min s g.arrs.l.length:Nat):Int)=s:=(by omega);rw [j] at b;refine ox 13 ?_;rw [<-r,show (g.vars.l.length:Int)+Y7 (g.arrs.l.take s)+g.arrs.l[s]=g.vars.l.length+Y7 (g.arrs.l.take (s+1)) by rw [i];omega];refine aY (o (s+1) (by omega) (by omega)) Zu leA
 obtain rfl:s=g.arrs.l.length:=(by omega);rw [cD];refine xx 7 ?_;refine Zq (q) func25 (Zn results25 rfl) ⟨_,rfl,rfl,rfl⟩
theorem SeesZ.block {ty:Nat}{l:List Value}(h:M b=some (.cells l.toArray ty (0,0))):SeesZ M (some ⟨b,0,none⟩) l:=fun i u a=>⟨b,0,l.toArray,ty,rfl,h,by rw [eC];simpa using a⟩
def PrgM (M:Hp)(pp:Nat)(g:FC):Prop:=SeesZ M (some ⟨pp,0,none⟩) (pgC g)/\g.At M
theorem PrgM.mono (e:Hle M M')(h:PrgM M pp g):PrgM M' pp g:=⟨h.1.mono e,h.2.mono e⟩
def prM (pp:Nat)(g:FC):HP:=lst (fun M=>PrgM M pp g) fun e h=>PrgM.mono e h
theorem Kn.prM {pp:Nat}{g:FC}{q:List HP}:Kn (prM pp g::q) fun M=>PrgM M pp g:=fL
theorem Prg.of (h:Kn q fun M=>PrgM M pp g):Prg q pp g:=⟨fun k v a=>by have:=(fM (h.imp fun M h=>h.1)).cl a;exact this,h.imp fun M h=>h.2⟩
theorem PS.At.mono {x:PS}(e:Hle M M')(h:x.At M):x.At M':=⟨h.1.mono e,h.2.mono e⟩
theorem TodoAt.mono {l:List TC}(e:Hle M M')(h:TodoAt M l):TodoAt M' l:=fun t ht y hy=>(h t ht y hy).mono e
def tdM (l:List TC):HP:=lst (fun M=>TodoAt M l) fun e h=>TodoAt.mono e h
theorem Kn.tdM {l:List TC}{q:List HP}:Kn (tdM l::q) fun M=>TodoAt M l:=fL
def Bw:POut:=⟨0,0,0,0⟩
def SS.pg (s:SS):SS:= { s with out:=if s.out.kind=4 then s.out else Bw }
def Vs (p:PPr):SS:=⟨p.vars++List.replicate (Y7 p.arrs).toNat 0,Dy p.mu.toNat p.co.toNat p.room, [Wc p p.main],Bw⟩
theorem Cd (p:PPr)(s:SS):(s.stands p).out.kind≠4:=by
 unfold SS.stands;dsimp only;split
 . exact (by decide:(1:Int)≠4)
 dsimp only;split<;>decide
theorem Zqn (p:PPr)(s:SS):(s.stands p).pg= { s with out:=Bw } :=by
 unfold SS.pg;rw [if_neg (Cd p s)];unfold SS.stands;dsimp only;split<;>rfl
theorem pnew_ok (hK:Kn q fun M=>g.At M)(hB:CpOk B g):CallF prog G 15 [.agg (pgC g).toArray] (q) (Ret fun v q'=>(Dh g.er=true/\ ∃ (p pp:Nat) (g':FC) (U:StC),g'.er=g.er/\U.er=Vs g.er.pr/\v= .tuple [.pointer (some ⟨p,0,none⟩),I64 0].toArray/\q'=stP p pp U::(Zr U++(prM pp g'::tdM U.ths::q)))\/(Dh g.er=false/\v= .tuple [.pointer none,I64 2].toArray/\q'=q)):=by
 refine aC func15 ntmps15 rfl fun F cs=> ?_;refine xo 2 ?_;refine Ww fun n1=> ?_
 refine oo 6 ?_;refine aO call44 (pmay_ok (B:=B) (iZ Qu) (hK.le leA) hB) ?_;refine Zt (bV rfl) ?_;refine ox 1 ?_;refine xp 9 ?_ ?_<;>intro h1
 . have hm:Dh g.er=false:=(by simpa using h1);refine xx 6 ?_;refine Zq (q) func15 (Wu results15 rfl rfl) ⟨_,rfl,.inr ⟨hm,rfl,rfl⟩⟩
 have hm:Dh g.er=true:=(by simpa using h1);have f0:=Xn hm;refine rn [4,0] ?_;refine Zb call45 (aE _) (pcopy_ok (B:=B) (hK.le leA) hB) ?_;rintro _ _ ⟨d,he,rfl,rfl⟩;have o:MayP d.er:=he ▸ f0;have b0:d.er.pr=g.er.pr:=by rw [he]
 have c0:0<=d.main/\d.main<d.ths.l.length:=⟨o.m.1,by have:=o.m.2;rw [g_th] at this;exact this⟩;obtain ⟨r,x⟩:=aV c0.1;have z:r<d.ths.l.length:=(by omega);have w:=o.t _ (aP (f:=Th.er) (aB z));have a0:=Qg (l:=d.arrs.l) (k:=256) (fun y hy=>by have:=o.a y hy;omega) (by decide);have g0:d.vars.l.length<=64:=o.l.1;have h0:Y7 d.arrs.l<=256:=o.s;obtain ⟨N,hN⟩:=aV a0.1;refine bW zeroValue29 fun j=> ?_
 refine rn [0,4,0,1,0,1,0] ?_;refine bA 18 (.slice d.chs.a d.chs.l.length d.chs.c) rfl (rfl) ?_;refine Zb call46 (aE _) (New_Y (a:=d.chs.a) (c:=d.chs.c) (by rw [<-Qv];exact dT (dW (kA (Kn.fc (q:= []) (f:=d)) fun M h=>h.chs) leA)) o.f) ?_;rintro _ _ ⟨py,rfl,rfl⟩;refine rn [12,1023,5,0] ?_;refine aO call25 (Zq3 (g:=d) (dW (Kn.fc (q:= []) (f:=d)) leA) o) ?_;refine bA 26 (I64 ((d.vars.l.length+N:Nat):Int)) rfl (by rw [hN];rfl) ?_;refine bQ (Bk (n:=d.vars.l.length+N) rfl rfl underlying23 Gh rfl rfl (by omega) (by omega)) ?_;rintro _ _ ⟨gl,rfl,rfl⟩;refine eU (q':=lsH I64 2 (some ⟨gl,0,none⟩) (d.vars.l.length+N) (List.replicate (d.vars.l.length+N) 0)::_) (aS Zk (C9 _ _ _ _ _)) ?_;refine oo 1 ?_;refine Ww fun n3=> ?_
 refine rn [3,0,1,2,3,4,5,6] ?_;refine dS 35 (.slice d.vars.a d.vars.l.length d.vars.c) rfl (rfl) ?_;refine dS 33 (.slice (some ⟨gl,0,none⟩) (List.replicate (d.vars.l.length+N) (0:Int)).length (d.vars.l.length+N)) rfl (by rw [cU]) ?_;refine fC 6 rfl (Ef.copyL (f:=I64) (l:=List.replicate (d.vars.l.length+N) 0) (m:=d.vars.l) underlying23 Gh rfl rfl Zk (by rw [<-Qv];exact dT (dW (kA (Kn.fc (q:= []) (f:=d)) fun M h=>h.vars) leA)) (fun _=>rfl) (by rw [cU];omega)) ?_;refine kk0 ?_;rw [show d.vars.l++(List.replicate (d.vars.l.length+N) (0:Int)).drop d.vars.l.length=d.vars.l++List.replicate N 0 by rw [List.drop_replicate];congr 2;omega];refine rn [0,4,0] ?_;refine bA 39 (Aw r) rfl (by rw [x]) ?_;refine eU (q':=pto j (.cells (pgC d).toArray 29 (0,0))::_) Zk (XO.freeze ?_);refine eU (q':=prM j d::_) (cZ (φ:=fun M=>PrgM M j d) (mn:=fun e h=>PrgM.mono e h) (((Kn.im).and (dW (Kn.fc (q:= []) (f:=d)) leA)).imp fun M h=>⟨SeesZ.block h.1,h.2⟩)) ?_;refine W3 call47 (Po (q:= [prM j d]) (pp:=j) (g:=d) (n:=r) (Prg.of Kn.prM) z w.1 (by have:=w.2.1;rw [show (Th.er d.ths.l[r]).body=Zj d.ths.l[r].body from rfl,Zg] at this;omega)) ?_;rintro _ _ ⟨T1,e0,rfl,d0,rfl⟩ _ e_;simp only [ca,na] at e_;subst e_;refine bQ (Yz (u:=T1) trC underlying96 Qj rfl rfl Zd rfl) ?_;rintro _ _ ⟨gt,rfl,rfl⟩;refine rn [2,0,7] ?_;obtain ⟨U,i⟩: ∃ U:StC,U=(⟨some ⟨gl,0,none⟩,d.vars.l.length+N,d.vars.l++List.replicate N 0,py,Dy d.mu.toNat d.co.toNat d.chs.l,some ⟨gt,0,none⟩,1, [T1],Bw⟩:StC):=⟨_,rfl⟩;refine bY (q':=tdM U.ths::_) (cZ (φ:=fun M=>TodoAt M U.ths) (mn:=fun e h=>TodoAt.mono e h) ((dW d0 leA).imp fun M h t ht y hy=>by rw [i] at ht;rw [aZ.1 ht] at hy;exact h y hy)) ?_;refine bY (q':=stars (U.ths.map trH)::_) (aS (b:=trH T1::_) Zk (by rw [i];exact aS (dD _ (W6 _)) (Uz _ _ _))) ?_;refine Zq (stP n3 j U::(Zr U++(prM j d::tdM U.ths::q))) func15 (Wu results15 rfl rfl) ⟨_,rfl,.inl ⟨hm,n3,j,d,U,he,by rw [i];simp only [StC.er,bP,eM,e0];rw [<-x,<-b0];simp [Vs,FC.er,Fnd.pr,hN],rfl,rfl⟩⟩ (by rw [i];simp only [stP,Vt,Zr,aG,cU,cM,aT,aA];exact leA)
structure ThOk (F:Fnd) (N nth:Nat) (t:PTr):Prop where
 d:0<=t.decl/\t.decl<F.ths.length
 s:1<=t.st/\t.st<=4
 l:t.loc.length<=32
 v: ∀ x∈t.loc,val x
 g:Wm F.cn t.loc.length t.left
 n:t.left.length<=600*(N+1)
 e:t.left= []↔t.st=4
 w:t.st=2\/t.st=3->t.next.kd=8
 p:t.sp.length<=8/\ ∀ i∈t.sp,0<=i/\i<nth
structure SS.ok (F:Fnd) (N:Nat) (s:SS):Prop where
 c:(s.cells.length:Int)=F.vars.length+Y7 F.arrs
 v: ∀ x∈s.cells,val x
 y:s.sy.ok N
 z:(s.sy.owners.length:Int)=F.mu/\(s.sy.conds.length:Int)=F.co/\s.sy.chans.map Ch.room=F.chs
 t:1<=s.ths.length/\s.ths.length<=8
 h: ∀ t∈s.ths,ThOk F N s.ths.length t
 w: ∀ l∈s.sy.conds,∀ t∈l,t.toNat<s.ths.length/\(s.th t.toNat).st=2
theorem Kg {s:SS}(h:n<s.ths.length):s.th n=s.ths[n]:=by unfold SS.th;simp [List.getD,h]
theorem Wl {α:Type}{l:List α}{d:α}(h:n<l.length):l.getD n d=l[n]:=by simp [List.getD,h]
theorem R9 (h:t.todo≠ []): ∃ y,t.todo.getLast? =some y/\y∈t.todo/\t.todo=t.todo.dropLast++ [y]/\t.er.left=y.s.er::(t.todo.dropLast.map fun y=>y.s.er).reverse/\t.er.next=y.s.er:=by
 have e:t.todo=t.todo.dropLast++ [t.todo.getLast h]:=(List.dropLast_concat_getLast h).symm
 have a:t.er.left=(t.todo.getLast h).s.er::(t.todo.dropLast.map fun y=>y.s.er).reverse:=by
  show (t.todo.map fun y=>y.s.er).reverse=_
  conv=>lhs;rw [e]
  simp
 exact ⟨t.todo.getLast h,List.getLast?_eq_some_getLast h,List.getLast_mem h,e,a,by unfold PTr.next;rw [a];rfl⟩
theorem Qr :t.er.left= []↔t.todo= []:=by
 show (t.todo.map fun y=>y.s.er).reverse= []↔_
 simp
theorem Va (t:TC):t.er.left.length=t.todo.length:=by
 show ((t.todo.map fun y=>y.s.er).reverse).length=_
 simp
theorem Ze (h:n<U.ths.length):U.er.th n=(U.ths[n]).er:=by
 have a:n<U.er.ths.length:=by show n<(U.ths.map TC.er).length;simpa using h
 rw [Kg a];exact eY TC.er
theorem StC.nth (U:StC):U.er.ths.length=U.ths.length:=by show (U.ths.map TC.er).length=_;simp
abbrev eP:=@StC.nth
theorem SS.ok.at {F:Fnd}{N:Nat}{U:StC}(h:SS.ok F N U.er){n:Nat}(hn:n<U.ths.length):ThOk F N U.ths.length (U.ths[n]).er:=by
 have:=h.h (U.ths[n]).er (aP (f:=TC.er) (aB hn));rwa [eP] at this
section
variable {x:TC}
theorem Sees.trT:Sees (trH x::q) x.ta (x.todo.map PS.v):=Sees.le (Sees.there (bR _)) (Z1 (trL x) q)
theorem Sees.trL:Sees (trH x::q) x.la (x.loc.map I64):=Sees.le (bR _) (Z1 (Go.Proofs.YtflkjkhijcdbaaaGreat.trL x) q)
theorem Sees.trS:Sees (trH x::q) x.sa (x.sp.map I64):=Sees.le (Sees.there (Sees.there (bR _))) (Z1 (Go.Proofs.YtflkjkhijcdbaaaGreat.trL x) q)
theorem Sees.todo (hi:i<ths.length):Sees (stars (ths.map trH)::q) ths[i].ta (ths[i].todo.map PS.v):=Sees.star hi (fun q=>Sees.trT) q
theorem T4 (hi:i<ths.length):Sees (stars (ths.map trH)::q) ths[i].la (ths[i].loc.map I64):=Sees.star hi (fun q=>Sees.trL) q
theorem D8 (hi:i<ths.length):Sees (stars (ths.map trH)::q) ths[i].sa (ths[i].sp.map I64):=Sees.star hi (fun q=>Sees.trS) q
end
abbrev inV (c:Cn)(lo s:Int)(l:Bool):Prop:=0<=s/\s<if l=true then lo else c.v
theorem Yu {c:Cn}{other:Int}(h:Na c lo k slot other loc=true):(1<=k/\k<=15)/\(k=1\/k=2->inV c lo slot loc)/\(k=3->0<=slot/\slot<c.a)/\(k=6\/k=7->0<=slot/\slot<c.mu)/\(k=8\/k=9\/k=10->0<=slot/\slot<c.co)/\(k=8->0<=other/\other<c.mu)/\(k=11\/k=12->0<=slot/\slot<c.ch)/\(k=12->inV c lo other loc)/\(k=13->0<=slot/\slot<c.th):=by
 unfold Na V9 inB at h
 have b:k=1\/k=2\/k=3\/k=4\/k=5\/k=6\/k=7\/k=8\/k=9\/k=10\/k=11\/k=12\/k=13\/k=14\/k=15:=by
  (repeat' split at h)<;>first|omega|(simp only [bN] at h;omega)
 rcases b with rfl|rfl|rfl|rfl|rfl|rfl|rfl|rfl|rfl|rfl|rfl|rfl|rfl|rfl|rfl<;>
  (simp only [Int.reduceEq,if_true,if_false,or_self,or_true,true_or,or_false,false_or,aI,bN,↓reduceIte] at h;refine ⟨by omega,fun e=> ?_,fun e=> ?_,fun e=> ?_,fun e=> ?_,fun e=> ?_,fun e=> ?_,fun e=> ?_,fun e=> ?_⟩<;>first|omega|exact h|exact h.1|exact h.2)
theorem Wn {c:Cn}{e ix:PEx}{nb ne:Nat}(h:N3 c lo k e ix nb ne=true):((1<=k/\k<=5)\/k=11\/k=15->e.ask c lo 24=true)/\(k=3->ix.ask c lo 24=true):=by
 unfold N3 at h;simp only [aI,dM,fA,cS,iY] at h;obtain ⟨⟨_,b⟩,a⟩:=h;exact ⟨fun k=>a.resolve_left (fun z=>z k),fun k=>b.resolve_left (fun z=>z k)⟩
theorem O5 {l:List Ch}(h:i<l.length):(l.map Ch.room).getD i 0=(l.getD i ch0).room:=by simp [List.getD,h]
section
variable {fv:Value}
theorem any_take {s:Nat}(h:s<l.length):(l.take (s+1)).any u=((l.take s).any u||u l[s]):=by rw [aH h,List.any_append];simp
theorem any_at {s:Nat}(h:s<l.length)(k:u l[s]=true):l.any u=true:=jP.2 ⟨_,aB h,k⟩
theorem Sl (hs:Sees q a (l.map I64))(hn:l.length<=9223372036854775807)(hp:Rdr prog G fv I64 (fun x=> .bool (u x)) q l):CallF prog G 164 [.slice a l.length c,fv] (q) (Ret fun v q'=> ∃ k:Int,v= I64 k/\decide (0<=k)=l.any u/\q'=q):=by
 refine aC func164 ntmps164 rfl fun F p=> ?_;have e:(l.map I64).length=l.length:=by simp
 refine xx 12 ?_;refine aY (cG (fun (s:Nat×Option Addr)=>s.1<=l.length/\s.2=a/\(l.take s.1).any u=false) (fun s=> [(0,.slice s.2 l.length c),(1,fv),(7,I64 l.length),(8,I64 (s.1:Int))]) (fun s=>q++F) (fun s=>l.length - s.1) (fun s f g=> ?_) (0,a) ⟨by dsimp only;omega,rfl,rfl⟩) Zu leA;try dsimp only at f g|-
 obtain ⟨j,rfl,b⟩:=f;obtain ⟨s,a⟩:=s;dsimp only at*;refine xx 5 ?_;refine xp 9 ?_ ?_<;>intro o
 . have d:s<l.length:=by omega
   refine Yd hs (by rw [e];omega) fun n i m=> ?_;subst m;refine rn [15,0] ?_;refine XO.cRV (hp _ leA _ (aB d)) ?_;refine ox 1 ?_;refine xp 16 ?_ ?_<;>intro h
   . refine xx 6 ?_;refine Zq (q) func164 (Zn results164 rfl) ⟨_,rfl,_,rfl,by rw [any_at d h];exact aN (by omega),rfl⟩
   refine xx 7 ?_;refine aY (g (s+1,some ⟨n,i,none⟩) ⟨by dsimp only;omega,rfl,by dsimp only;rw [any_take d,b,h];rfl⟩ (by dsimp only;omega)) Zu leA
 refine xx 6 ?_;rw [eO (show l.length<=s by omega)] at b;refine Zq (q) func164 (Zn results164 rfl) ⟨_,rfl,_,rfl,by rw [b];rfl,rfl⟩
theorem Zzw (hs:Sees q a (l.map I64))(hn:l.length<=9223372036854775807)(hp:Rdr prog G fv I64 (fun x=> .bool (u x)) q l):CallF prog G 126 [.slice a l.length c,fv] (q) (Ret fun v q'=>v= .bool (l.any u)/\q'=q):=by
 refine aC func126 ntmps126 rfl fun F d=> ?_;refine xo 8 ?_;refine Zb call164 (aE _) (Sl (hs.le leA) hn (hp.le leA)) ?_;rintro _ _ ⟨k,rfl,b,rfl⟩;refine ox 3 ?_;refine Zq (q) func126 (Zn results126 rfl) ⟨_,rfl,bK Value.bool b,rfl⟩
end
structure StSee (q:List HP) (p:Nat) (U:StC):Prop where
 t:Cl q ⟨p,0+3,none⟩ (.slice U.ha U.ths.length U.hc)
 r:Sees q U.ha (U.ths.flatMap trC)
theorem StSee.le (h:StSee q' p U)(l:Le q q'):StSee q p U:=⟨h.t.le l,h.r.le l⟩
theorem Zqr {pb:Nat}(hb:Cl q ⟨pb,0,none⟩ (.pointer (some ⟨p,0,none⟩)))(hS:StSee q p U)(hn:n<U.ths.length)(hl:U.ths.length<=8):CallF prog G 127 [I64 n,.pointer (some ⟨pb,0,none⟩)] (q) (Ret fun v q'=>v= .bool (decide ((U.ths.getD n zTC).st≠4))/\q'=q):=by
 refine aC func127 ntmps127 rfl fun F f=> ?_;have a:=Zx Zd U.ths;have b:=hS.r;refine Yd (b.le leA) (by rw [a];omega) fun g e d=> ?_;have c:=hS.t;rw [d] at b c;rw [Wl hn];refine xo 6 ?_;refine ld ?_ (hc:=(hb.le leA));refine oo 2 ?_;refine ld ?_ (hc:=(c.le leA));refine oo 3 ?_;refine ld ?_ (hc:=(cT (n:=n) b leA Zd hn rfl 1 _ rfl));refine ox 3 ?_;refine Zq (q) func127 (Zn results127 rfl) ⟨_,rfl,cB (by rw [cJ];simp),rfl⟩
abbrev AH (v0)(v1):=((.cells (Vt v0 v1).toArray 98 (0,0)):Obj)
theorem ready_ok {y:PS}(hok:SS.ok g.er N U.er)(hN:N<=900)(hn:n<U.ths.length)(hTd:Kn q fun M=>TodoAt M U.ths)(hy:y.s.er=(U.er.th n).next)(hyA:Kn q fun M=>y.At M)(hg:y.s.er.good g.er.cn (U.er.th n).loc.length)(hst:(U.er.th n).st=1)(hk0: ¬U.er.out.kind=4):CallF prog G 93 [.pointer (some ⟨p,0,none⟩),I64 n,.pointer (some ⟨y.b,y.o,none⟩)] (stP p pp U::(Zr U++q)) (Ret fun v q'=>v= .bool (U.er.can g.er.pr n)/\q'=stP p pp U::(Zr U++q)):=by
 refine aC func93 ntmps93 rfl fun F cs=> ?_;have c:=eR hyA;have j0:=Zx Zd U.ths;have h8:U.ths.length<=8:=by have:=hok.t.2;rwa [eP] at this
 obtain ⟨R,e⟩:=kL (U.er.can g.er.pr n);rw [<-e];unfold SS.can at e;dsimp only at e;rw [<-hy] at e;obtain ⟨yb,yo,ys⟩:=y;obtain ⟨kk,ln,cl,nm,wt,⟨ek,en,w0,t0,x0,v0,el,ea,ec⟩,⟨xk,xn,l0,xsl,m0,k0,xl,xa,xc⟩,bd,u0,ba,bc,z0,y0,id,sl,ot,n0⟩:=ys;dsimp only at c e hg|-;simp only [Stm.er] at e;obtain ⟨s0,e0,_⟩:=hg;obtain ⟨r0,q0,p0,a0,o0,g0,a,i0,h0⟩:=Yu e0;obtain ⟨x,w,r⟩:=hok.z;have c0:(U.er.sy.chans.length:Int)=g.er.cn.ch:=by have:=bK List.length r;rw [aU] at this;show _=((g.chs.l.length:Nat):Int);rw [this];rfl
 rw [if_neg (by intro k;rcases k with k|k|k;exact hk0 k;omega;omega),if_neg (by omega)] at e;change X _ _ _ _ _ _ _ _ (pto p (AH pp U)::lsH I64 2 U.ca U.cc U.cells::yH U.sp U.sy::rsH trC 5 116 U.ha U.hc U.ths::stars (U.ths.map trH)::(q++F));have f:U.sy.ok N:=hok.y;rw [show U.er.sy=U.sy from rfl] at e x w r c0;replace x:(U.sy.owners.length:Int)=g.er.cn.mu:=x;replace w:(U.sy.conds.length:Int)=g.er.cn.co:=w;refine xo 2 ?_;refine Ww fun n1=> ?_
 refine rf [8,0,7] c ?_;refine xp 19 ?_ ?_<;>intro g1
 . rw [if_pos (show kk=6 from g1)] at e;refine rf [2,0,1,2,3,4,5,6,7,8] c ?_;refine Ua 8 call56 (X6 (m:=sl) f (by omega)) ?_;refine kd0 ?_;refine ⟨(hlF c),?_⟩;refine rn [10,11,12,13,14,0,5] ?_;refine Zf [35,7,6,1] ?_;apply Zy 4 39 35 rfl
   . intro j b0;have f0:=sp j;refine oo 4 ?_;exact Zz b0 ⟨orF j,Zv⟩
   . intro j b0;have f0:=sp j;refine oo 4 ?_;exact Zz b0 ⟨orT j,Zv⟩
   refine ox 2 ?_;refine Zq (stP p pp U::(Zr U++q)) func93 (Zn results93 rfl) ⟨_,rfl,cB (by rw [e];unfold Hs;rw [if_pos ⟨(a0 (.inl g1)).1,by have:=(a0 (.inl g1)).2;omega⟩];dsimp only;have ho:=f.o _ (Y3 (d:=0) (i:=sl.toNat) (l:=U.sy.owners) (by have:=(a0 (.inl g1));omega));generalize U.sy.owners.getD sl.toNat 0=ow at*;rw [cJ];simp only [dM,bN,dC];omega),rfl⟩
 refine xx 6 ?_;refine xp 40 ?_ ?_<;>intro g2
 . rw [if_neg (by omega),if_pos (show kk=11 from g2)] at e;refine rf [2,0,1,2,3,4,5,6,7,8] c ?_;refine Ua 8 call58 (P7 (k:=sl) f (by omega)) ?_;refine kd2 fun av cv=> ?_
   refine ⟨(hlF c),?_⟩;refine rf [10,11,12,13,14,0,1,0,1,2,3,4,5,6,7,8] c ?_;refine Ua 8 call125 (Room_Y (k:=sl) f (by omega)) ?_;refine kd0 ?_;refine ⟨(hlF c),?_⟩;refine rn [10,11,12,13,14,0,8] ?_;refine Zq (stP p pp U::(Zr U++q)) func93 (Zn results93 rfl) ⟨_,rfl,cB (by rw [e];unfold Qf Bp;rw [if_pos ⟨(a (.inl g2)).1,by have:=(a (.inl g2)).2;omega⟩,if_pos ⟨(a (.inl g2)).1,by have:=(a (.inl g2)).2;omega⟩];dsimp only;rw [show g.er.pr.room=U.sy.chans.map Ch.room from r.symm];rw [O5 (by have:=a (.inl g2);omega)]),rfl⟩
 refine xx 6 ?_;refine xp 70 ?_ ?_<;>intro g3
 . rw [if_neg (by omega),if_neg (by omega),if_pos (show kk=12 from g3)] at e;refine rf [2,0,1,2,3,4,5,6,7,8] c ?_;refine Ua 8 call58 (P7 (k:=sl) f (by omega)) ?_;refine kd2 fun av cv=> ?_
   refine ⟨(hlF c),?_⟩;refine rn [10,11,12,13,14,0,7] ?_;refine Zq (stP p pp U::(Zr U++q)) func93 (Zn results93 rfl) ⟨_,rfl,cB (by rw [e];unfold Qf;rw [if_pos ⟨(a (.inr g3)).1,by have:=(a (.inr g3)).2;omega⟩];dsimp only;rw [cJ];simp),rfl⟩
 refine xx 6 ?_;refine xp 87 ?_ ?_<;>intro g4
 . rw [if_neg (by omega),if_neg (by omega),if_neg (by omega),if_pos (show kk=14 from g4)] at e;refine Yw (l:=U.ths) (by omega) fun ga e_=> ?_;rw [e_];refine rf [3,0,2,0,1,3092,2] e_ ?_;refine ld ?_ (hc:=(cT (n:=n) (bE _) leA Zd hn rfl 4 _ rfl));refine oo 1 ?_;have h:=(hok.at hn).p;rw [<-Ze hn] at h;have d0:(U.er.th n).sp=U.ths[n].sp:=by rw [Ze hn];rfl
   rw [d0] at h e
   refine aO call126 (Zzw (l:=U.ths[n].sp) (u:=fun i=>decide ((U.ths.getD i.toNat zTC).st≠4)) ((D8 hn).le leA) (by omega) (fun q1 l1 i hi=>by
    obtain ⟨k,rfl⟩:=aV (h.2 i hi).1;have hk:k<U.ths.length:=by have:=(h.2 _ hi).2;omega
    exact CallV.c11 call127 (Zqr (pb:=n1) (p:=p) (Cl.le (by exact clA) l1) (StSee.le ⟨by exact clA,by rw [e_];exact (bE _).le leA⟩ l1) hk h8))) ?_
   refine Zt (bV rfl) ?_;refine ox 2 ?_;rw [<-e_];refine Zq (stP p pp U::(Zr U++q)) func93 (Zn results93 rfl) ⟨_,rfl,cB (by rw [e,cJ];simp only [fA,List.any_eq_false,cC,bN,dC,ne_eq,fX];constructor<;>(intro z i hi;have:=z i hi;have hk:i.toNat<U.ths.length:=(by have:=h.2 i hi;omega);rw [Wl hk] at*;rw [Ze hk] at*;exact this)),rfl⟩
 refine xx 7 ?_;refine Zq (stP p pp U::(Zr U++q)) func93 (Zn results93 rfl) ⟨_,rfl,cB (by rw [e,if_neg (by omega),if_neg (by omega),if_neg (by omega),if_neg (by omega)]),rfl⟩
theorem Q7 (h:Cl q ⟨p,0,none⟩ (.pointer (some ⟨pp,0,none⟩))):CallF prog G 49 (A8 p) (q) (AL q):=by
 refine aC func49 ntmps49 rfl fun F a=> ?_;refine rn [9,2005,3] ?_;refine ld ?_ (hc:=(h.le leA));refine ox 4 ?_;refine Zq (q) func49 (Zn results49 rfl) ⟨_,rfl,rfl,rfl⟩
theorem X0 (hok:SS.ok g.er N U.er)(hN:N<=900)(hn:n<U.ths.length)(hTd:Kn q fun M=>TodoAt M U.ths):CallF prog G 59 [.pointer (some ⟨p,0,none⟩),I64 n] (stP p pp U::(Zr U++q)) (Ret fun v q'=>v= .bool (U.er.can g.er.pr n)/\q'=stP p pp U::(Zr U++q)):=by
 refine aC func59 ntmps59 rfl fun F cs=> ?_;change X _ _ _ _ _ _ _ _ (pto p (AH pp U)::lsH I64 2 U.ca U.cc U.cells::yH U.sp U.sy::rsH trC 5 116 U.ha U.hc U.ths::stars (U.ths.map trH)::(q++F));have m0:=Zx Zd U.ths;have h8:U.ths.length<=8:=by have:=hok.t.2;rwa [eP] at this
 have y0:1<=U.ths.length:=by have:=hok.t.1;rwa [eP] at this
 refine Yw (l:=U.ths) (by omega) fun ga e_=> ?_;have hr: ∀ r,Sees (rsH trC 5 116 U.ha U.hc U.ths::r) (some ⟨ga,0,none⟩) (U.ths.flatMap trC):=fun r=>by rw [<-e_];exact bE r
 have hT:=hok.at hn;have a0:=Ze hn;have g0:U.sy.ok N:=hok.y;obtain ⟨R,f⟩:=kL (U.er.can g.er.pr n);have l0:=f;rw [<-f];unfold SS.can at f;dsimp only at f;rw [a0] at f;have h0:(U.ths[n]).er.st=U.ths[n].st:=rfl;refine rn [11,0,2] ?_;refine xp 13 ?_ ?_<;>intro h1
 . refine xx 5 ?_;refine Zq (stP p pp U::(Zr U++q)) func59 (Zn results59 rfl) ⟨_,rfl,cB (by rw [f,if_pos (.inl (show U.er.out.kind=4 from h1))]),rfl⟩
 have i0: ¬U.er.out.kind=4:=h1;refine rf [7,0,1,3017,9] e_ ?_;refine ld ?_ (hc:=(cT (n:=n) (hr _) leA Zd hn rfl 1 _ rfl));refine ox 7 ?_;refine xp 24 ?_ ?_<;>intro h2
 . have d0:U.ths[n].st=1:=h2;have e0:U.ths[n].todo≠ []:=fun k=>by have:=hT.e.1 (Qr.2 k);omega
   obtain ⟨y,x,c0,j0,u,j⟩:=R9 e0;have b0:Kn q fun M=>y.At M:=hTd.imp fun M h=>h _ (aB hn) y c0
   have hg:=hT.g;rw [u] at hg;refine xo 6 ?_;refine aO call60 (Kv (b:=ga) (o:=0+(n:Int).toNat*5) (todo:=U.ths[n].todo) (cT (n:=n) (hr _) leA Zd hn rfl 3 _ rfl) ((Sees.todo hn).le leA) (by have:=hT.n;rw [Va] at this;omega)) ?_;refine bA 29 (.pointer (some ⟨y.b,y.o,none⟩)) rfl (by rw [x];rfl) ?_;refine Zb call93 leA (ready_ok (p:=p) (pp:=pp) (U:=U) (n:=n) (y:=y) (q:=q++F) hok hN hn (hTd.le leA) (by rw [a0,j]) (b0.le leA) (by rw [a0];exact hg.1) (by rw [a0,h0];exact d0) i0) ?_;rintro _ _ ⟨rfl,rfl⟩;refine ox 2 ?_;refine Zq (stP p pp U::(Zr U++q)) func59 (Zn results59 rfl) ⟨_,rfl,bK Value.bool l0.symm,rfl⟩
 refine xx 6 ?_;refine xp 31 ?_ ?_<;>intro h3
 . have d0:U.ths[n].st=3:=h3;have e0:U.ths[n].todo≠ []:=fun k=>by have:=hT.e.1 (Qr.2 k);omega
   obtain ⟨y,x,c0,j0,u,j⟩:=R9 e0;have b0:Kn q fun M=>y.At M:=hTd.imp fun M h=>h _ (aB hn) y c0
   have hg:=hT.g;rw [u] at hg;obtain ⟨yb,yo,ys⟩:=y;obtain ⟨kk,ln,cl,nm,wt,⟨ek,en,c1,z0,d1,b1,el,ea,ec⟩,⟨xk,xn,o0,xsl,p0,n0,xl,xa,xc⟩,bd,a1,ba,bc,f1,e1,id,sl,ot,q0⟩:=ys;have f0:=eR b0;dsimp only at f0 x u j hg;have c:=hT.w (.inr d0);rw [j] at c f;simp only [Stm.er,PStm.kd] at c f;obtain ⟨⟨x0,k0,_⟩,_⟩:=hg;obtain ⟨w0,v0,u0,t0,s0,a,_⟩:=Yu k0;have r0:(U.sy.owners.length:Int)=g.er.cn.mu:=hok.z.1;rw [if_neg (by intro k;rcases k with k|k|k;exact i0 k;omega;omega),if_pos (by omega)] at f;refine rn [2,0,1,2,3,4,5] ?_;refine Y2 5 call60 (Kv (b:=ga) (o:=0+(n:Int).toNat*5) (todo:=U.ths[n].todo) (cT (n:=n) (hr _) leA Zd hn rfl 3 _ rfl) ((Sees.todo hn).le leA) (by have:=hT.n;rw [Va] at this;omega)) ?_ (hL:=(hlA (h:=by repeat first|exact trivial|refine ⟨clA,?_⟩|refine ⟨(cT (n:=n) (hr _) leA Zd hn rfl 1 _ rfl),?_⟩|refine ⟨((f0.le leA) 23 _ rfl),?_⟩)));refine dS 39 (.pointer (some ⟨yb,yo,none⟩)) rfl (by rw [x];rfl) ?_;refine rf [7,8,9] f0 ?_;refine Ua 9 call56 (X6 (m:=ot) g0 (by omega)) ?_;refine kc0 ?_;refine rn [11,12,13,14,15,0,6] ?_;refine Zq (stP p pp U::(Zr U++q)) func59 (Zn results59 rfl) ⟨_,rfl,cB (by rw [f];unfold Hs;rw [if_pos ⟨(a c).1,by have:=(a c).2;omega⟩];dsimp only;have ho:=g0.o _ (Y3 (d:=0) (i:=ot.toNat) (l:=U.sy.owners) (by have:=(a c);omega));show _=(U.sy.owners.getD ot.toNat 0== -1);generalize U.sy.owners.getD ot.toNat 0=ow at*;rw [cJ];simp only [bN,dC];omega),rfl⟩
 refine xx 7 ?_;refine Zq (stP p pp U::(Zr U++q)) func59 (Zn results59 rfl) ⟨_,rfl,cB (by rw [f,if_pos];have:=hT.s;rw [h0] at*;omega),rfl⟩
theorem Cm:CallF prog G 41 [.pointer (some ⟨p,0,none⟩)] (stP p pp U::(Zr U++q)) (Ret fun v q'=>v= I64 U.ths.length/\q'=stP p pp U::(Zr U++q)):=by
 refine aC func41 ntmps41 rfl fun F a=> ?_;change X _ _ _ _ _ _ _ _ (pto p (AH pp U)::lsH I64 2 U.ca U.cc U.cells::yH U.sp U.sy::rsH trC 5 116 U.ha U.hc U.ths::stars (U.ths.map trH)::(q++F));refine xo 8 ?_;refine aO call49 (Q7 (pp:=pp) clA) ?_;refine Zt (bV rfl) ?_;refine rn [1,1005,7,0,3] ?_;refine Zq (stP p pp U::(Zr U++q)) func41 (Zn results41 rfl) ⟨_,rfl,rfl,rfl⟩
theorem P0 {p:PPr}{s:SS}:((List.range (i+1)).filter fun n=>s.can p n).map (fun (n:Nat)=>(n:Int))=((List.range i).filter fun n=>s.can p n).map (fun (n:Nat)=>(n:Int))++(if s.can p i=true then [(i:Int)] else []):=by
 rw [List.range_succ,List.filter_append,aM];by_cases h:s.can p i=true<;>simp [h]
def SS.allU (p:PPr)(s:SS)(i:Nat):List Int:=((List.range i).filter fun n=>s.can p n).map fun (n:Nat)=>(n:Int)
theorem P1 (p:PPr)(s:SS)(i:Nat):(s.allU p i).length<=i:=by
 unfold SS.allU;rw [aU];exact cP (gV _ _) (by simp)
theorem On (hok:SS.ok g.er N U.er)(hN:N<=900)(hTd:Kn q fun M=>TodoAt M U.ths):CallF prog G 40 [.pointer (some ⟨p,0,none⟩)] (stP p pp U::(Zr U++q)) (Ret fun v q'=> ∃ a' c',v= .slice a' (U.er.all g.er.pr).length c'/\q'=lsH I64 3 a' c' (U.er.all g.er.pr)::stP p pp U::(Zr U++q)):=by
 refine aC func40 ntmps40 rfl fun F x=> ?_;have o:U.ths.length<=8:=by have:=hok.t.2;rwa [eP] at this
 refine xo 12 ?_;refine Zb call41 leA (Cm (p:=p) (pp:=pp) (U:=U) (q:=q++F)) ?_;rintro _ _ ⟨rfl,rfl⟩;refine ox 3 ?_;refine aY (cG (fun (s:Nat×Option Addr×Nat)=>s.1<=U.ths.length) (fun s=> [(0,.pointer (some ⟨p,0,none⟩)),(3,.slice s.2.1 (U.er.allU g.er.pr s.1).length s.2.2),(6,I64 U.ths.length),(7,I64 (s.1:Int))]) (fun s=>lsH I64 3 s.2.1 s.2.2 (U.er.allU g.er.pr s.1)::stP p pp U::(Zr U++(q++F))) (fun s=>U.ths.length - s.1) (fun s a d=> ?_) (0,none,0) (bB _)) Zu (aS (Za I64 3 _) leA);try dsimp only at a d|-
 obtain k:=a;obtain ⟨s,c,b⟩:=s;dsimp only at*;refine xx 5 ?_;refine xp 8 ?_ ?_<;>intro r
 . have e:s<U.ths.length:=(by omega);refine xo 13 ?_;refine Zb call59 leA (X0 (p:=p) (pp:=pp) (U:=U) (n:=s) (q:=lsH I64 3 c b (U.er.allU g.er.pr s)::(q++F)) hok hN e (hTd.le leA)) ?_;rintro _ _ ⟨rfl,rfl⟩;refine ox 1 ?_;refine xp 12 ?_ ?_<;>intro h
   . refine xo 4 ?_;refine bQ (U3 (u:=(s:Int)) I64 underlying22 R4 rfl rfl) ?_;rintro _ _ ⟨w,rfl,rfl⟩;refine bQ (Yx (f:=I64) (l:=U.er.allU g.er.pr s) (m:= [(s:Int)]) underlying22 R4 rfl rfl rfl Zk ((bR _).le leA) (fun _=>rfl) (by have:=P1 g.er.pr U.er s;simp;omega) (by have:=P1 g.er.pr U.er s;simp;omega)) ?_;rintro _ _ ⟨j,i,rfl,rfl⟩;refine ox 7 ?_;rw [show U.er.allU g.er.pr s++ [(s:Int)]=U.er.allU g.er.pr (s+1) by unfold SS.allU;rw [P0,if_pos h]];refine aY (d (s+1,j,i) (by dsimp only;omega) (by dsimp only;omega)) Zu leA
   refine xx 7 ?_;rw [show U.er.allU g.er.pr s=U.er.allU g.er.pr (s+1) by unfold SS.allU;rw [P0,if_neg (by rw [h];decide),cA]];refine aY (d (s+1,c,b) (by dsimp only;omega) (by dsimp only;omega)) Zu leA
 obtain rfl:s=U.ths.length:=(by omega);rw [show U.er.allU g.er.pr U.ths.length=U.er.all g.er.pr by unfold SS.all SS.allU;rw [eP]];refine xx 7 ?_;refine Zq (lsH I64 3 c b (U.er.all g.er.pr)::stP p pp U::(Zr U++q)) func40 (Zn results40 rfl) ⟨_,rfl,c,b,rfl,rfl⟩
theorem Jz (b:Bool):val (Ux b):=by cases b<;>decide
theorem twoS_v (op a b:Int):val (Yi op a b).1:=by
 unfold Yi;split;exact Jz _;split;exact Jz _;split;exact Jz _;split;exact Jz _;split;decide
 have c: ∀ n:Int,val (if val n then (n,(0:Int)) else (0,2)).1:=fun n=>by
  split
  . assumption
  decide
 exact c _
theorem Fu {c:Cn}{n op:Int}{nm:ByteArray}{args:List PEx}(h:(PEx.mk k n nm slot loc op args).ask c lo d=true):
 1<=d/\(args.length:Int)=Uq c lo k n slot loc op/\(∀ e∈args,e.ask c lo (d - 1)=true)/\(1<=k/\k<=6)/\(k=1->val n/\args.length=0)/\(k=2->inV c lo slot loc/\args.length=0)/\(k=3->(0<=slot/\slot<c.a)/\args.length=1)/\(k=4\/k=5->args.length=1)/\(k=6->(1<=op/\op<=11)/\args.length=2):=by
 simp only [PEx.ask,aI,bN] at h;obtain ⟨⟨j,f⟩,i⟩:=h;have g:=Tw.1 i;refine ⟨j,f,g,?_⟩;unfold Uq at f;split at f
 . split at f
   . rename_i a b;refine ⟨by omega,fun _=>⟨b,by omega⟩,fun _=>by omega,fun _=>by omega,fun _=>by omega,fun _=>by omega⟩
   omega
 split at f
 . split at f
   . rename_i a b;unfold V9 inB at b;simp only [bN] at b;exact ⟨by omega,fun _=>by omega,fun _=>⟨b,by omega⟩,fun _=>by omega,fun _=>by omega,fun _=>by omega⟩
   omega
 split at f
 . split at f
   . rename_i a b;unfold inB at b;simp only [bN] at b;exact ⟨by omega,fun _=>by omega,fun _=>by omega,fun _=>⟨b,by omega⟩,fun _=>by omega,fun _=>by omega⟩
   omega
 split at f
 . exact ⟨by omega,fun _=>by omega,fun _=>by omega,fun _=>by omega,fun _=>by omega,fun _=>by omega⟩
 split at f
 . split at f
   . exact ⟨by omega,fun _=>by omega,fun _=>by omega,fun _=>by omega,fun _=>by omega,fun _=>by omega⟩
   omega
 omega
theorem Q8 {p:PPr}{cells loc:List Int}: ∀ {l:List PEx} {i:Nat} (h:i<l.length),(Ym p cells loc l).getD i (0,0, [])=(l[i]).made p cells loc
 |e::r,0,_=>by simp [Ym]
 |e::r,i+1,h=>by
  have a:i<r.length:=by simpa using h
  have:=Q8 (p:=p) (cells:=cells) (loc:=loc) a;simpa [Ym] using this
theorem Du (h: ∀ x∈l,val x)(i:Nat):val (l.getD i 0):=by
 by_cases hi:i<l.length
 . exact h _ (Y3 hi)
 have e:l.getD i 0=0:=by simp [List.getD,cF (show l.length<=i by omega)]
 rw [e];decide
theorem C0 (n:Nat):1<=2 ^ n:=Nat.one_le_two_pow
mutual
theorem Yg {p:PPr}{cells loc:List Int}{c:Cn}{lo:Int}(hc: ∀ x∈cells,val x)(hl: ∀ x∈loc,val x): ∀ {e:PEx} {d:Int},e.ask c lo d=true->val (e.made p cells loc).1/\(e.made p cells loc).2.2.length<=2 ^ d.toNat
 | .mk k n nm slot lc op args,d,h=>by
  obtain ⟨w,_,m,u,j,s,r,q,o⟩:=Fu h;have f:=Tg hc hl (p:=p) m;obtain ⟨D,v⟩:=aV (show 0<=d - 1 by omega);have l:d.toNat=D+1:=by omega
  have t:=C0 D;rw [l,Nat.pow_succ];rw [show (d - 1).toNat=D by omega] at f;generalize hms:Ym p cells loc args=ms at f;simp only [PEx.made,hms];split
  . exact ⟨(j (by assumption)).1,by simp⟩
  split
  . split
    . exact ⟨Du hl _,by simp⟩
    exact ⟨Du hc _,by simp only [bJ];omega⟩
  have i:=f 0;have g:=f 1;generalize ms.getD 0 (0,0, [])=a at i;generalize ms.getD 1 (0,0, [])=b at g;split
  . exact ⟨i.1,by omega⟩
  split
  . split
    . exact ⟨(by decide:val 0),by dsimp only;omega⟩
    exact ⟨Du hc _,by dsimp only;rw [aG];simp only [bJ];omega⟩
  split
  . exact ⟨twoS_v _ _ _,by dsimp only;omega⟩
  split
  . exact ⟨Jz _,by dsimp only;omega⟩
  split
  . exact ⟨Jz _,by dsimp only;omega⟩
  split
  . exact ⟨g.1,by dsimp only;rw [aG];omega⟩
  split
  . exact ⟨Jz _,by dsimp only;rw [aG];omega⟩
  exact ⟨twoS_v _ _ _,by dsimp only;rw [aG];omega⟩
theorem Tg {p:PPr}{cells loc:List Int}{c:Cn}{lo:Int}(hc: ∀ x∈cells,val x)(hl: ∀ x∈loc,val x): ∀ {l:List PEx} {d:Int},(∀ e∈l,e.ask c lo d=true)-> ∀ i,val ((Ym p cells loc l).getD i (0,0, [])).1/\((Ym p cells loc l).getD i (0,0, [])).2.2.length<=2 ^ d.toNat
 | [],d,_,i=>by simp [Ym];decide
 |e::r,d,h,i=>by
  cases i with
  |zero=>simpa [Ym] using Yg hc hl (h e (bI ..))
  |succ i=>simpa [Ym] using Tg hc hl (fun x a=>h x (bZ _ a)) i
end
theorem Tc (h: ∀ x∈l,1<=x/\x<=256): ∀ {n:Nat} (_:n<l.length),Y7 (l.take n)+l.getD n 0<=Y7 l/\0<=Y7 (l.take n)
 |n,hn=>by
  have e:l=l.take n++(l[n]::l.drop (n+1)):=by rw [<-aJ hn,eS]
  have d:Y7 l=Y7 (l.take n)+(l[n]+Y7 (l.drop (n+1))):=by
   conv=>lhs;rw [e]
   rw [Nl];rfl
  have c:=(Qg (l:=l.take n) (k:=256) (fun y a=>by have:=h y (hY a);omega) (by decide)).1;have b:=(Qg (l:=l.drop (n+1)) (k:=256) (fun y a=>by have:=h y (kD a);omega) (by decide)).1;rw [Wl hn];omega
theorem Fh:(prog.info? 140).map (fun i=>(i.zero,i.size,i.bytes))=some (some (.agg #[I64 0,.bool false,I64 0]),3,24):=by kernel_rfl
theorem Pt:(prog.info? 50).map (fun i=>(i.zero,i.size,i.bytes))=some (some (.agg #[I64 0,I64 0,I64 0]),3,24):=by kernel_rfl
def Zw (p pp who:Nat)(U:StC)(e:EvC):List HP:=spP p pp who U e::(Zr U++evL e)
theorem Xe (x:Ac):(acC x).length=3:=rfl
theorem O3 (x:Sn):(snC x).length=3:=rfl
theorem acC_one (x:Ac):(acC x).all (·.oneCell')=true:=rfl
theorem snC_one (x:Sn):(snC x).all (·.oneCell')=true:=rfl
def PEv.ac (e:PEv)(l:List Ac):PEv:= { e with acc:=e.acc++l }
def PEv.sn (e:PEv)(l:List Sn):PEv:= { e with syn:=e.syn++l }
theorem Mg (e:PEv)(a b:List Ac):(e.ac a).ac b=e.ac (a++b):=by unfold PEv.ac;simp
theorem Ng (e:PEv):e.ac []=e:=by unfold PEv.ac;simp
section
variable {who:Nat}{ev:EvC}{sl ot u:Int}
abbrev A3 (v0:Nat)(v1:Nat)(v2:StC)(v3:Nat)(v4:EvC)(v5:List HP)(v6):=(pto v0 (.cells (Vt v1 v2++(I64 v3::evC v4)).toArray 145 (0,0))::lsH I64 2 v2.ca v2.cc v2.cells::yH v2.sp v2.sy::rsH trC 5 116 v2.ha v2.hc v2.ths::stars (v2.ths.map trH)::rsH acC 3 140 v4.aa v4.ac v4.e.acc::rsH snC 3 50 v4.na v4.nc v4.e.syn::(v5++v6))
theorem V8 (hl:ev.e.syn.length<=1000000000):CallF prog G 98 [.pointer (some ⟨p,0,none⟩),I64 k,I64 sl,I64 ot] (Zw p pp who U ev++q) (Ret fun v q'=> ∃ ev':EvC,ev'.e=ev.e.sn [(k,sl,ot)]/\q'=Zw p pp who U ev'++q):=by
 refine aC func98 ntmps98 rfl fun F d=> ?_;change X _ _ _ _ _ _ _ _ (A3 p pp U who ev q F);refine rn [6,0,4] ?_;refine bQ (Yz (u:=(k,sl,ot)) snC underlying45 Pt rfl rfl O3 rfl) ?_;rintro _ _ ⟨c,rfl,rfl⟩;refine bQ (Z9 (f:=snC) (l:=ev.e.syn) (m:= [(k,sl,ot)]) underlying45 Pt rfl rfl O3 rfl rfl Zk ((bE _).le leA) snC_one (by simp;omega) (by simp;omega)) ?_;rintro _ _ ⟨b,a,rfl,rfl⟩;refine rn [3,0,1] ?_;refine Z7 (Zw p pp who U ({ ev with e:=ev.e.sn [(k,sl,ot)],na:=b,nc:=a } :EvC)++q) func98 (Vm results98) ⟨_,rfl,({ ev with e:=ev.e.sn [(k,sl,ot)],na:=b,nc:=a } :EvC),rfl,rfl⟩
theorem Fr (hl:ev.e.acc.length<=1000000000):CallF prog G 192 [.pointer (some ⟨p,0,none⟩),I64 sl,.bool bb,I64 u] (Zw p pp who U ev++q) (Ret fun v q'=> ∃ ev':EvC,ev'.e=ev.e.ac [(sl,bb,u)]/\q'=Zw p pp who U ev'++q):=by
 refine aC func192 ntmps192 rfl fun F d=> ?_;change X _ _ _ _ _ _ _ _ (A3 p pp U who ev q F);refine rn [6,0,4] ?_;refine bQ (Yz (u:=(sl,bb,u)) acC underlying44 Fh rfl rfl Xe rfl) ?_;rintro _ _ ⟨c,rfl,rfl⟩;refine bQ (Z9 (f:=acC) (l:=ev.e.acc) (m:= [(sl,bb,u)]) underlying44 Fh rfl rfl Xe rfl rfl Zk ((bE _).le leA) acC_one (by simp;omega) (by simp;omega)) ?_;rintro _ _ ⟨b,a,rfl,rfl⟩;refine rn [3,0,1] ?_;refine Z7 (Zw p pp who U ({ ev with e:=ev.e.ac [(sl,bb,u)],aa:=b,ac:=a } :EvC)++q) func192 (Vm results192) ⟨_,rfl,({ ev with e:=ev.e.ac [(sl,bb,u)],aa:=b,ac:=a } :EvC),rfl,rfl⟩
theorem Jv {ga m:Nat}(h3:Cl q ⟨p,0+3,none⟩ (.slice (some ⟨ga,0,none⟩) m c))(h8:Cl q ⟨p,8,none⟩ (Aw who))(hn:who<m):CallF prog G 95 (A8 p) (q) (Ret fun v q'=>v= .pointer (some ⟨ga,0+(who:Int).toNat*5,none⟩)/\q'=q):=by
 refine aC func95 ntmps95 rfl fun F a=> ?_;refine rn [5,0,1,2,3,4] ?_;refine ldD 4 ?_ (hc:=(h3.le leA));refine dd [5,6,7] ?_;refine ldD 8 ?_ (hc:=(h8.le leA));refine rn [10,11,0] ?_;refine Zq (q) func95 (Zn results95 rfl) ⟨_,rfl,rfl,rfl⟩
theorem O7 (hn:n<U.cells.length)(hl:ev.e.acc.length<=1000000000):CallF prog G 188 [.pointer (some ⟨p,0,none⟩),I64 n] (Zw p pp who U ev++q) (Ret fun v q'=>v= I64 (U.cells.getD n 0)/\ ∃ ev':EvC,ev'.e=ev.e.ac [((n:Int),false,U.cells.getD n 0)]/\q'=Zw p pp who U ev'++q):=by
 refine aC func188 ntmps188 rfl fun F g=> ?_;change X _ _ _ _ _ _ _ _ (A3 p pp U who ev q F);rw [Wl hn];refine Uw (l:=U.cells) (by omega) fun f c=> ?_;have d: ∀ r,Sees (lsH I64 2 U.ca U.cc U.cells::r) (some ⟨f,0,none⟩) (U.cells.map I64):=fun r=>by rw [<-c];exact bR r
 refine rf [12,0,1,3011,1] c ?_;refine ld ?_ (hc:=(((d _).le leA).at (by omega) hn));refine Zb call192 leA (Fr (p:=p) (pp:=pp) (who:=who) (U:=U) (ev:=ev) (q:=q++F) hl) ?_;rintro _ _ ⟨a,b,rfl⟩;change XO _ _ _ _ _ _ _ _ _ _ (A3 p pp U who a q F);refine rf [7,0,1,3020,1] c ?_;refine ld ?_ (hc:=(((d _).le leA).at (by omega) hn));refine ox 2 ?_;refine Zq (Zw p pp who U a++q) func188 (Zn results188 rfl) ⟨_,rfl,rfl,a,b,rfl⟩
theorem Cw (hn:n<U.cells.length)(hl:ev.e.acc.length<=1000000000):CallF prog G 167 [.pointer (some ⟨p,0,none⟩),I64 n,I64 u] (Zw p pp who U ev++q) (Ret fun v q'=> ∃ ev':EvC,ev'.e=ev.e.ac [((n:Int),true,u)]/\q'=Zw p pp who ({ U with cells:=U.cells.set n u } :StC) ev'++q):=by
 refine aC func167 ntmps167 rfl fun F g=> ?_;change X _ _ _ _ _ _ _ _ (A3 p pp U who ev q F);refine Uw (l:=U.cells) (by omega) fun d c=> ?_;refine xo 5 ?_;refine Zb call192 leA (Fr (p:=p) (pp:=pp) (who:=who) (U:=U) (ev:=ev) (q:=q++F) hl) ?_;rintro _ _ ⟨a,b,rfl⟩;change XO _ _ _ _ _ _ _ _ _ _ (A3 p pp U who a q F);refine rf [6,0,2,3014,1] c ?_;refine eU (q':=lsH I64 2 (some ⟨d,0,none⟩) U.cc U.cells::_) (by rw [<-c];exact Zk) ?_;refine dJ (Bj (f:=I64) (l:=U.cells) (n:=n) (u:=u) rfl rfl sizeOf2 rfl hn rfl rfl Zk) ?_;rintro _ _ ⟨rfl,rfl⟩;refine ox 1 ?_;rw [<-c];refine bY (q':=Zw p pp who ({ U with cells:=U.cells.set n u } :StC) a++(q++F)) (by unfold Zw spP Vt Zr;simp only [bC];exact leA) ?_;refine Z7 (Zw p pp who ({ U with cells:=U.cells.set n u } :StC) a++q) func167 (Vm results167) ⟨_,rfl,a,b,rfl⟩ (by rw [aA];exact aE _)
end
end Go.Proofs.YtflkjkhijcdbaaaGreat
