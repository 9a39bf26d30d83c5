/- Contracts. -/
import Derived.Test.YtadahhbefdnabaaGreatDoorVe
set_option maxHeartbeats 16000000
set_option maxRecDepth 100000
set_option linter.all false
namespace Go.Proofs.YtadahhbefdnabaaGreatDoor
open Go Go.RowKit Wx Go.Proofs.Tryz
attribute [local irreducible] lsH rsH stars
variable {B k nb p c n pa pp o i N C p0 p1 p2 j pm om pth ot:Nat}{q r q' pre:List HP}{P:Program}{G:World}{f:Fc}{Q:Yp}{todo:List Item}{ds:List Deferred}{cs:List Frame}{a b A:Option Addr}{l D l' xs:List Int}{M M':Hp}{x y:Ins}{g:FC}{lo d hi cd dep at_ z:Int}{bb:Bool}{x1 fv:Value}{s:Sy}{σ:SyC}{m:Mdl}{u:Int->Bool}{dn:List Bool}{e:Int×Value×Nat}
def Dj:(prog.info? 218).map (fun i=>(i.zero,i.size,i.bytes))=some (some (.agg #[.string ⟨#[]⟩,I64 0,.slice none 0 0]),3,48):=by kernel_rfl
def Px:(prog.info? 9).map (fun i=>(i.zero,i.size,i.bytes))=some (some (.string ⟨#[]⟩),1,16):=by kernel_rfl
abbrev zEx:Ex:= .mk 0 0 ⟨#[]⟩ 0 false 0 [] none 0
abbrev zSm:Stm:= .mk 0 0 0 ⟨#[]⟩ ⟨#[]⟩ zEx zEx [] [] none 0 none 0 0 0 0 false
mutual
def I1: ∀ {x y:Ex},x.er=y.er->x.sz=y.sz
 | .mk ..,.mk ..,h=>by
  simp only [Ex.er,PEx.mk.injEq] at h;simp only [Ex.sz,Xr h.2.2.2.2.2.2]
def Xr: ∀ {l m},Yj l=Yj m->Wo l=Wo m
 | [], [],_=>rfl
 | [],_::_,h=>by simp [Yj] at h
 |_::_, [],h=>by simp [Yj] at h
 |x::l,y::m,h=>by
  simp only [Yj,jY] at h;simp only [Wo,I1 h.1,Xr h.2]
end
mutual
def Zhm {B}: ∀ {x y:Stm},x.er=y.er->y.lm B->x.lm B
 | .mk ..,.mk ..,h,⟨h1,h2,h3,h4⟩=>by
  simp only [Stm.er,PStm.mk.injEq] at h;obtain ⟨_,_,_,_,_,d,c,b,a,_⟩:=h;exact ⟨I1 d ▸ h1,I1 c ▸ h2,M8 b h3,M8 a h4⟩
def M8 {B}: ∀ {l m},Zk l=Zk m->V1 B m->V1 B l
 | [],_,_,_=>trivial
 |_::_, [],h,_=>by simp [Zk] at h
 |x::l,y::m,h,⟨h1,h2⟩=>by
  simp only [Zk,jY] at h;exact ⟨Zhm h.1 h1,M8 h.2 h2⟩
end
def cbI (B:List PStm)(k nb:Nat):HP:=ex fun x:List Stm×Option Addr×Nat=>stars [pure (Zk x.1=Dr ((Zt B 1).take k)),pC nb [.slice x.2.1 x.1.length x.2.2] 128,rsH stC 25 138 x.2.1 x.2.2 x.1,stsM x.1]
def Zxk {B:List PStm}(x:List Stm×Option Addr×Nat)(h:Zk x.1=Dr ((Zt B 1).take k))(hle:Le q (pC nb [.slice x.2.1 x.1.length x.2.2] 128::rsH stC 25 138 x.2.1 x.2.2 x.1::stsM x.1::r)):Le q (cbI B k nb::r):=
 Vt x (hle.trans ((Yu h _).trans (by exact Zh [_,_,_,_] r)))
def X.cbI {p:PE}{B:List PStm}
 (x: ∀ (l:List Stm) (a:Option Addr) (c:Nat),Zk l=Dr ((Zt B 1).take k)->X P G f Q todo p ds cs (pC nb [.slice a l.length c] 128::rsH stC 25 138 a c l::stsM l::q)):X P G f Q todo p ds cs (Go.Proofs.YtadahhbefdnabaaGreatDoor.cbI B k nb::q):=
 X.ex (fun s=>cE (Zb _ _) (kP (fun h=>x s.1 s.2.1 s.2.2 h)))
def ones_len (l:List (Int×PStm)):(Dr l).length<=l.length:=by unfold Dr;rw [aI];exact gB _ _
mutual
def Zko: ∀ (s:Stm) (d:Int),(s.er.its d).length=s.sz
 | .mk _ _ _ _ _ _ _ body els _ _ _ _ _ _ _ _,d=>by simp only [Stm.er,PStm.its,aJ,aA,Stm.sz,Uj body,Uj els]
def Uj: ∀ (l:List Stm) (d:Int),(Zt (Zk l) d).length=Zn l
 | [],_=>rfl
 |s::r,d=>by simp only [Zk,Zt,aA,Zn,Zko s,Uj r]
end
def Ib (a b:List Stm):Zk (a++b)=Zk a++Zk b:=by rw [Yl,Yl,Yl,aN]
section
variable {l:List Stm}
def Zkv (hB:B<=1000000)(hs:Zn l<=1000000)(hb:V1 B l)(hK:Kn q fun M=>BlkAt M a c l):CF G 108 [.slice a l.length c] (q) (Ret fun v q'=> ∃ (l':List Stm) (a':Option Addr) (c':Nat),Zk l'=Zk l/\v= .slice a' l'.length c'/\q'=blM a' c' l'::q):=by
 refine aE ntmps108 fun F cs=> ?_;refine Zo zeroValue128 fun n1=> ?_
 refine Zz ?_;apply Zv (aG _) (Zks (l:=l) hB hs hb (hK.le leA));rintro _ _ ⟨l2,a2,c2,nb,c0,rfl,rfl⟩;refine Zz ?_;have g0:Zn l2=Zn l:=by rw [<-Uj l2 0,<-Uj l 0,c0]
 refine cE (q':=pC nb [.slice a2 l2.length c2] 128::_) leA (fX ?_);have f0:=M8 c0 hb;refine Zkc (xs:=Zt (Zk l2) 1) [im nb (.cells [.slice a2 l2.length c2].toArray 128 (0,0)),blM a2 c2 l2] (fun k:Nat=> [cbI (Zk l2) k n1]) (fun _ _=>False) (F:=q++F) (P9 (B:=B) Zq Zq f0 (Kn.blM.there) (dK (iQ _ _ _))) rfl ?_ (by rintro _ _ _ ⟨_,_,rfl,_⟩;rfl) rfl (by rw [func108];rfl) rfl (fun i hi vs A hA l9 rec F0 j0=> ?_) (fun r=> ?_) (fun _ _ _ hJ=>hJ.elim)
 . simp only [ca,na];apply Zxk ([],none,0) (by simp [Zk,Dr]);exact aK leA (aK (Zc stC 25 138 _) (aK Nv leA))
 . obtain ⟨s2,e0,rfl,rfl⟩:=hA;obtain ⟨x,hx⟩:=lV (AA l2)[i];rw [<-hx] at e0|-;have d0:=Zgy hi;rw [<-hx] at d0;refine X.sub (p':= [(10,_),(9,_),(8,_),(3,_),(2,_)]) ⟨rfl,rfl,rfl,rfl,rfl,trivial⟩ ?_;simp only [ca,na];refine cE (q':=cbI (Zk l2) i n1::_) Zj (X.cbI (fun d a1 c1 h1=> ?_));have i0:d.length<=1000000:=by have e1:=aQ List.length h1;rw [Wr] at e1;have e2:=ones_len ((AA l2).take i);rw [bB,Uj] at e2;omega
   obtain ⟨kk,ln,cl,nm,wt,⟨ek,en,y,s,z,w,el,ea,ec⟩,⟨xk,xn,h,xsl,p,e,xl,xa,xc⟩,bd,t,ba,bc,b0,a0,id,sl,ot,lo⟩:=s2;refine Zo zeroValue138 fun n2=> ?_
   refine Zz ?_;apply gE rfl leA;refine Zp ?_ ?_<;>intro h0
   . refine Zz ?_;apply eT 3 rfl (Yw (u:=zSm) stC underlying128 Us rfl rfl Z7 rfl);rintro _ _ ⟨g,rfl,rfl⟩;refine ⟨hlA,?_⟩;apply eT 4 rfl (Z9 (f:=stC) (l:=d) (m:= [zSm]) underlying128 Us rfl rfl Z7 rfl rfl Zj ((bJ _).le Zj) Mz Zi Zi);refine kk2 fun a3 c3=> ?_
     refine Iw (l:=d++ [zSm]) Zf fun g3 e3=> ?_;subst e3;apply Ey 5 rfl (Pu.indexAddr rfl rfl underlying128 sizeOf138 Zq Zi);refine Vd (fl:= []) (XF.two 6 7 trivial (Rt 6 (fun E=>Xi (fl:=stC) (l:=d++ [zSm]) (u:=(Stm.mk kk ln cl nm wt (Ex.mk ek en y s z w el ea ec) (Ex.mk xk xn h xsl p e xl xa xc) bd t ba bc b0 a0 id sl ot lo)) (n:=d.length) (j:=(d.length:Int)) (g:=g3) (c:=c3) (et:=138) rfl rfl sizeOf138 Z7 rfl Zf (Mz _) Zj E) ?_) (Rt 7 (fun E=>Ef.stE (b:=n1) (o:=0) (l:= [.slice a1 d.length c1]) (v:= .slice (some ⟨g3,0,none⟩) (d++ [zSm]).length c3) (t':=128) sizeOf128 rfl rfl rfl rfl Zj rfl E) ?_))
     focus
      rintro _ _ ⟨rfl,rfl⟩;refine ⟨trivial,fR ?_⟩
     rotate_left
     focus
      rintro _ _ ⟨rfl,rfl⟩;refine ⟨trivial,fR ?_⟩;apply gL 6 rfl (I4 (a:=none) (fl:=stC) (l:=d++ [zSm]) (u:=(Stm.mk kk ln cl nm wt (Ex.mk ek en y s z w el ea ec) (Ex.mk xk xn h xsl p e xl xa xc) bd t ba bc b0 a0 id sl ot lo)) (n:=d.length) rfl rfl sizeOf138 Z7 rfl Zf (Mz _) Zj);refine kk0 ?_
     all_goals
      refine Zz ?_;rw [show (d++ [zSm]).set d.length (Stm.mk kk ln cl nm wt (Ex.mk ek en y s z w el ea ec) (Ex.mk xk xn h xsl p e xl xa xc) bd t ba bc b0 a0 id sl ot lo)=d++ [(Stm.mk kk ln cl nm wt (Ex.mk ek en y s z w el ea ec) (Ex.mk xk xn h xsl p e xl xa xc) bd t ba bc b0 a0 id sl ot lo)] by simp];apply cE (q':=stsM (d++ [(Stm.mk kk ln cl nm wt (Ex.mk ek en y s z w el ea ec) (Ex.mk xk xn h xsl p e xl xa xc) bd t ba bc b0 a0 id sl ot lo)])::_) (aK (bC Zj Zj) N2);refine gK ⟨rfl,rfl,?_⟩;simp only [ca,na];refine bC Zj (Zxk (d++ [(Stm.mk kk ln cl nm wt (Ex.mk ek en y s z w el ea ec) (Ex.mk xk xn h xsl p e xl xa xc) bd t ba bc b0 a0 id sl ot lo)],some ⟨g3,0,none⟩,c3) (by rw [Ib,h1,d0,if_pos h0,<-e0];rfl) ?_);rw [show (d++ [zSm]).length=(d++ [(Stm.mk kk ln cl nm wt (Ex.mk ek en y s z w el ea ec) (Ex.mk xk xn h xsl p e xl xa xc) bd t ba bc b0 a0 id sl ot lo)]).length by simp];exact leA
   refine Zz ?_;refine gK ⟨rfl,rfl,?_⟩;simp only [ca,na];refine bC Zj (Zxk (d,a1,c1) (by rw [h1,d0,if_neg h0,cA]) leA)
 simp only [ca,na];refine cE (q':=cbI (Zk l2) (AA l2).length n1::_) Zj (X.cbI (fun d a1 c1 h1=> ?_));rw [bR,Zjx,c0] at h1;apply cE (q':=rsH stC 25 138 a1 c1 d::stsM d::_) (bC Zj Zj);refine X.frzR (Kn.blk Kn.stsM) (mn:=lE) ?_ (hq:=aG _);refine Zz ?_;exact iH ⟨rfl,Kx (q':=blM a1 c1 d::(q++F)) (fS (q':=blM a1 c1 d::q) func108 (Qq results108 rfl) ⟨_,rfl,d,a1,c1,h1,rfl,rfl⟩ leA) (hq:=bC Zj leA)⟩
def Qb (x:Th):(thC x).length=3:=rfl
def Zyh (x:Th):(thC x).all (·.oneCell')=true:=rfl
def Tl {l:List ByteArray}(hs:Sees q a (l.map Value.string))(hL:l.length<=1000000000):CF G 109 (Ae a l c) (q) (Ret fun v q'=> ∃ a' c',v= .slice a' l.length c'/\q'=lsH Value.string 9 a' c' l::q):=by
 refine aE ntmps109 fun F cs=> ?_;rcases cQ l.length with b|b
 . obtain rfl:=aW b;refine Wg ?_ ?_<;>intro j
   . refine Zg ?_;exact ⟨_,⟨_,rfl,none,0,rfl,rfl⟩,((leA).trans (Yy _ _ _))⟩
   refine Zz ?_;apply bU (Dd Value.string underlying25 Px);rintro _ _ ⟨g,rfl,rfl⟩;refine Zz ?_;apply bU (Wu (f:=Value.string) (l:= []) (m:= []) underlying25 Px rfl rfl rfl Zj (hs.le leA) (fun _=>rfl) Qw Qw);rintro _ _ ⟨e,d,rfl,rfl⟩;refine Zg ?_;exact ⟨_,⟨_,rfl,e,d,Zf,rfl⟩,leA⟩
 refine Yq hs Zi fun k i h=> ?_;subst h;refine Zz ?_;apply bU (Dd Value.string underlying25 Px);rintro _ _ ⟨g,rfl,rfl⟩;refine Zz ?_;apply bU (Wu (f:=Value.string) (l:= []) (m:=l) underlying25 Px rfl rfl rfl Zj (hs.le leA) (fun _=>rfl) Qw Qw);rintro _ _ ⟨e,d,rfl,rfl⟩;refine Zg ?_;exact ⟨_,⟨_,rfl,e,d,Zf,rfl⟩,leA⟩
def Zhe {l:List Th}(hs:Sees q a (l.flatMap thC))(hL:l.length<=1000000000):CF G 107 (Ae a l c) (q) (Ret fun v q'=> ∃ a' c',v= .slice a' l.length c'/\q'=rsH thC 3 218 a' c' l::q):=by
 refine aE ntmps107 fun F cs=> ?_;rcases cQ l.length with b|b
 . obtain rfl:=aW b;refine Wg ?_ ?_<;>intro j
   . refine Zg ?_;exact ⟨_,⟨_,rfl,none,0,rfl,rfl⟩,((leA).trans (Zc _ _ _ _))⟩
   refine Zz ?_;apply bU (Q7 thC underlying24 Dj);rintro _ _ ⟨g,rfl,rfl⟩;refine Zz ?_;apply bU (Z9 (f:=thC) (l:= []) (m:= []) underlying24 Dj rfl rfl Qb rfl rfl Zj (hs.le leA) Zyh Qw Qw);rintro _ _ ⟨e,d,rfl,rfl⟩;refine Zg ?_;exact ⟨_,⟨_,rfl,e,d,Zf,rfl⟩,leA⟩
 refine Yq hs (by rw [Zx Qb];omega) fun k i h=> ?_;subst h;refine Zz ?_;apply bU (Q7 thC underlying24 Dj);rintro _ _ ⟨g,rfl,rfl⟩;refine Zz ?_;apply bU (Z9 (f:=thC) (l:= []) (m:=l) underlying24 Dj rfl rfl Qb rfl rfl Zj (hs.le leA) Zyh Qw Qw);rintro _ _ ⟨e,d,rfl,rfl⟩;refine Zg ?_;exact ⟨_,⟨_,rfl,e,d,Zf,rfl⟩,leA⟩
end
def thsK {l}{x}(h:Ths.At M l)(hx:BlkAt M x.a x.c x.body):Ths.At M (l++ [x]):=fun y b=>by
 rcases bP.1 b with b|b
 . exact h y b
 rw [bE.1 b];exact hx
def Ths.At.mono {l}(e:Hle M M')(h:Ths.At M l):Ths.At M' l:=fun x hx=>(h x hx).mono e
def thsM (l:List Th):HP:=lst (fun M=>Ths.At M l) fun e h=>Ths.At.mono e h
def Kn.thsM {q}{l}:Kn (thsM l::q) fun M=>Ths.At M l:=fJ
structure CpOk (B:Nat) (g:FC):Prop where
 l:g.vars.l.length<=1000000/\g.arrs.l.length<=1000000/\g.chs.l.length<=1000000/\g.ths.l.length<=1000000/\g.nv.l.length<=1000000/\g.na.l.length<=1000000/\g.nm.l.length<=1000000/\g.nc.l.length<=1000000/\g.nh.l.length<=1000000
 b:B<=1000000
 t: ∀ x∈g.ths.l,Zn x.body<=1000000/\V1 B x.body
abbrev Av (v0:FC):=([.agg (pgC v0).toArray]:List Value)
def Zjk (hK:Kn q fun M=>g.At M)(hB:CpOk B g):CF G 50 (Av g) (q) (Ret fun v q'=> ∃ g':FC,g'.er=g.er/\v= .agg (pgC g').toArray/\q'=fcM g'::q):=by
 refine aE ntmps50 fun F cs=> ?_;obtain ⟨b1,b2,b3,b4,b5,b6,b7,b8,b9⟩:=hB.l;have hV:=(eB (hK.imp fun M h=>h.vars));have hA:=(eB (hK.imp fun M h=>h.arrs));have hC:=(eB (hK.imp fun M h=>h.chs));rw [Ql] at hV hA hC;have hT:=eB (hK.imp fun M h=>h.ths);have s0:=Zx Qb g.ths.l;have i0:=eB (hK.imp fun M h=>h.nv);rw [Qr] at i0;have n0:=eB (hK.imp fun M h=>h.na);rw [Qr] at n0;have j0:=eB (hK.imp fun M h=>h.nm);rw [Qr] at j0;have m0:=eB (hK.imp fun M h=>h.nc);rw [Qr] at m0;have l0:=eB (hK.imp fun M h=>h.nh);rw [Qr] at l0;refine Yb fun n1=> ?_
 refine Zo zeroValue29 fun n2=> ?_
 refine Zo zeroValue29 fun n3=> ?_
 refine rn [0,2,0,1,2,4,5,7,8] ?_;apply Wk 2 (aG _) (Jh (l:=g.vars.l) (hV.le leA) Zq);refine kk2 fun a1 d1=> ?_
 apply dd [9];apply Wk 5 (aG _) (Ha (l:=g.arrs.l) (hA.le leA) Zq);refine kk2 fun a2 d2=> ?_
 apply Wk 8 (aG _) (Ha (l:=g.chs.l) (hC.le leA) Zq);refine kk2 fun a3 d3=> ?_
 refine Zz ?_;apply Zv (aG _) (Zhe (l:=g.ths.l) (hT.le leA) Zq);rintro _ _ ⟨a4,d4,rfl,rfl⟩;refine Zz ?_;refine cH (bW (fun (s:Nat×List Th)=>s.1<=g.ths.l.length/\s.2.length=s.1/\s.2.map Th.er=(g.ths.l.take s.1).map Th.er) (fun s=> [(2,pt n2),(3,pt n3),(1,pt n1),(25,.slice g.ths.a g.ths.l.length g.ths.c),(26,I64 g.ths.l.length),(27,I64 (s.1:Int))]) (fun s=>pC n3 [.slice a1 g.vars.l.length d1,.slice a2 g.arrs.l.length d2,I64 g.mu,I64 g.co,.slice a3 g.chs.l.length d3,.slice a4 g.ths.l.length d4,I64 g.main,I64 g.stm,g.nv.v,g.na.v,g.nm.v,g.nc.v,g.nh.v] 29::pC n2 zz7 29::pC n1 [g.vars.v,g.arrs.v,I64 g.mu,I64 g.co,g.chs.v,g.ths.v,I64 g.main,I64 g.stm,g.nv.v,g.na.v,g.nm.v,g.nc.v,g.nh.v] 29::lsH I64 2 a1 d1 g.vars.l::lsH I64 3 a2 d2 g.arrs.l::lsH I64 3 a3 d3 g.chs.l::rsH thC 3 218 a4 d4 (s.2++g.ths.l.drop s.1)::thsM s.2::(q++F)) (fun s=>g.ths.l.length - s.1) (fun s t0 ih=> ?_) (0, []) ⟨aZ _,rfl,rfl⟩) Z5 (aK leA (aK (dP (φ:=fun M=>Ths.At M []) (mn:=fun e h=>Ths.At.mono e h) (fun _ _ _ _ h=>by cases h)) leA));try dsimp only at t0 ih|-
 obtain ⟨w0,p0,e0⟩:=t0;obtain ⟨i,d⟩:=s;dsimp only at*;refine Zp ?_ ?_<;>intro h0
 . have d0:i<g.ths.l.length:=Zq;obtain ⟨y,hy⟩:=lV g.ths.l[i];have r0:=hB.t y (hy ▸ aC d0);refine Yq (hT.le leA) (by rw [s0];omega) fun ab ao e_=> ?_;rw [e_] at hT;rw [e_];refine Vq (l:=d++g.ths.l.drop i) (by rw [aA,bY];omega) fun g4 e4=> ?_;subst e4;refine Zz ?_;apply Jb (n:=i) isAgg218 sizeOf218 hT d0;refine Zo zeroValue218 fun n4=> ?_
   refine Zz ?_;apply dW 36 (.slice y.a y.body.length y.c) rfl (by rw [hy]);apply Wk 5 (aG _) (Zkv (l:=y.body) (a:=y.a) (c:=y.c) hB.b r0.1 r0.2 ((hK.le leA).imp fun M h=>h.bod y (hy ▸ aC d0)));rintro _ _ ⟨l2,g0,f0,v0,rfl,rfl⟩;refine ⟨hlA,?_⟩;refine Zz ?_;refine gL 8 rfl (Wq (g:=g4) (f:=thC) (l:=d++g.ths.l.drop i) (u:= { y with body:=l2,a:=g0,c:=f0 }) (n:=i) (k:=2) (j:=(i:Int)) rfl rfl sizeOf128 Qb rfl (by rw [aA,bY];omega) rfl (by rw [show (d++g.ths.l.drop i)[i]'(by rw [aA,bY];omega)=y by rw [fI Zq];simp [p0,hy]];rfl) rfl rfl Zj) ?_;refine kk0<|Zz ?_;rw [Pf d (g.ths.l.drop i) i _ p0 (by rw [bY];omega),fZ];apply cE (q':=thsM (d++ [{ y with body:=l2,a:=g0,c:=f0 }])::_) (aK (bC Zj Zj) (aK (dP (φ:=fun M=>Ths.At M (d++ [{ y with body:=l2,a:=g0,c:=f0 }])) (mn:=fun e h=>Ths.At.mono e h) ((Kn.thsM.and Kn.blM.there).imp fun M h=>thsK h.1 h.2)) (cC _ ((dS _ _).trans (dS _ _)))));rw [<-e_];refine Zs (ih (i+1,d++ [{ y with body:=l2,a:=g0,c:=f0 }]) ⟨Zy,by dsimp only;rw [aA];simp [p0],by dsimp only;rw [aM d0,aN,aN,e0,<-hy];simp only [bG,dF,Th.er,v0]⟩ Zy)
 obtain rfl:i=g.ths.l.length:=Zq;rw [bR] at e0;rw [dU,cA];clear ih;refine Zo zeroValue27 fun n4=> ?_
 refine rn [0,2,0,1,2,4,5,7,8,10,11,13,14] ?_;apply Wk 2 (aG _) (Tl (l:=g.nv.l) (i0.le leA) Zq);refine kk2 fun x m=> ?_
 apply Wk 5 (aG _) (Tl (l:=g.na.l) (n0.le leA) Zq);refine kk2 fun c0 w=> ?_
 apply Wk 8 (aG _) (Tl (l:=g.nm.l) (j0.le leA) Zq);refine kk2 fun z o=> ?_
 apply Wk 11 (aG _) (Tl (l:=g.nc.l) (m0.le leA) Zq);refine kk2 fun b0 r=> ?_
 apply Wk 14 (aG _) (Tl (l:=g.nh.l) (l0.le leA) Zq);refine kk2 fun a0 p=> ?_
 refine rn [16,17,18,0,2,0,0,1] ?_;apply H8 Ql (f':=iC) (l:=g.vars.l) (a:=a1) (c:=d1) (fe:=I64) (ty:=2);apply H8 Ql (f':=iC) (l:=g.arrs.l) (a:=a2) (c:=d2) (fe:=I64) (ty:=3);apply H8 Ql (f':=iC) (l:=g.chs.l) (a:=a3) (c:=d3) (fe:=I64) (ty:=3);apply H8 Qr (f':=sC) (l:=g.nv.l) (a:=x) (c:=m) (fe:=Value.string) (ty:=9);apply H8 Qr (f':=sC) (l:=g.na.l) (a:=c0) (c:=w) (fe:=Value.string) (ty:=9);apply H8 Qr (f':=sC) (l:=g.nm.l) (a:=z) (c:=o) (fe:=Value.string) (ty:=9);apply H8 Qr (f':=sC) (l:=g.nc.l) (a:=b0) (c:=r) (fe:=Value.string) (ty:=9);apply H8 Qr (f':=sC) (l:=g.nh.l) (a:=a0) (c:=p) (fe:=Value.string) (ty:=9);apply Zkr (f:=thC) (sz:=3) (ty:=218) (l:=d) (a:=a4) (c:=d4);obtain ⟨g2,q0⟩: ∃ g2:FC,g2=(⟨⟨g.vars.l,a1,d1⟩,⟨g.arrs.l,a2,d2⟩,g.mu,g.co,⟨g.chs.l,a3,d3⟩,⟨d,a4,d4⟩,g.main,g.stm,⟨g.nv.l,x,m⟩,⟨g.na.l,c0,w⟩,⟨g.nm.l,z,o⟩,⟨g.nc.l,b0,r⟩,⟨g.nh.l,a0,p⟩,g.names,g.cells,g.locals,g.most,g.pl,g.pc,g.flaw⟩:FC):=⟨_,rfl⟩;have o0:d.length=g.ths.l.length:=by have:=aQ List.length e0;simpa using this
 refine cE (q':=fcM g2::_) (aK (b:=svM thC ⟨d,a4,d4⟩::svM sC ⟨g.nh.l,a0,p⟩::svM sC ⟨g.nc.l,b0,r⟩::svM sC ⟨g.nm.l,z,o⟩::svM sC ⟨g.na.l,c0,w⟩::svM sC ⟨g.nv.l,x,m⟩::svM iC ⟨g.chs.l,a3,d3⟩::svM iC ⟨g.arrs.l,a2,d2⟩::svM iC ⟨g.vars.l,a1,d1⟩::thsM d::_) (bC Zj (bC Zj (bC Zj (bC Zj (bC Zj (bC Zj (bC Zj (bC Zj (bC Zj Zj))))))))) (dP (φ:=fun M=>g2.At M) (mn:=fun e h=>FC.At.mono e h) ?hk_)) ?_
 case hk_=>
  exact ((Kn.here.and (Kn.here.there.and (Kn.here.there.there.and (Kn.here.there.there.there.and (Kn.here.there.there.there.there.and (Kn.here.there.there.there.there.there.and (Kn.here.there.there.there.there.there.there.and (Kn.here.there.there.there.there.there.there.there.and (Kn.here.there.there.there.there.there.there.there.there.and (Kn.thsM.there.there.there.there.there.there.there.there.there.and ((hK.le leA)))))))))))).imp fun M ⟨k0,k1,k2,k3,k4,k5,k6,k7,k8,k9,u0⟩=>by
   rw [q0];exact ⟨k8,k7,k6,k0,k9,k5,k4,k3,k2,k1,u0.names⟩)
 refine Zm (fcM g2::q) ?_;exact ⟨_,rfl,g2,by rw [q0];simp only [FC.er,e0],by rw [q0,<-o0];rfl,rfl⟩
structure Cn where
 v:Int
 a:Int
 mu:Int
 co:Int
 ch:Int
 th:Int
def Fnd.cn (f:Fnd):Cn:=⟨f.vars.length,f.arrs.length,f.mu,f.co,f.chs.length,f.ths.length⟩
def inB (n c:Int):Bool:=decide (0<=n/\n<c)
def Qt (c:Cn)(lo slot:Int)(loc:Bool):Bool:=inB slot (if loc=true then lo else c.v)
def J8 (c:Cn)(lo k n slot:Int)(loc:Bool)(op:Int):Int:=
 if k=1 then (if val n then 0 else -1) else if k=2 then (if Qt c lo slot loc=true then 0 else -1) else if k=3 then (if inB slot c.a=true then 1 else -1)
 else if k=4\/k=5 then 1 else if k=6 then (if 1<=op/\op<=11 then 2 else -1) else -1
mutual
def PEx.ask (c:Cn)(lo:Int):PEx->Int->Bool
 | .mk k n _ slot loc op args,d=>decide (1<=d) && decide ((args.length:Int)=J8 c lo k n slot loc op) && Nj c lo args (d - 1)
def Nj (c:Cn)(lo:Int):List PEx->Int->Bool
 | [],_=>true
 |e::r,d=>e.ask c lo d && Nj c lo r d
end
def Ll (c:Cn)(lo k:Int)(e ix:PEx)(nb ne:Nat):Bool:=
 (decide (k=4\/k=5)|| !decide (0<(nb:Int))) && (k==4|| !decide (0<(ne:Int))) && (k !=3||ix.ask c lo 24) && (!decide ((1<=k/\k<=5)\/k=11\/k=15)||e.ask c lo 24)
def Ds (c:Cn)(lo k slot other:Int)(loc:Bool):Bool:=
 if k=1 then loc && Qt c lo slot loc else if k=2 then Qt c lo slot loc else if k=3 then inB slot c.a else if k=6\/k=7 then inB slot c.mu
 else if k=8 then inB slot c.co && inB other c.mu else if k=9\/k=10 then inB slot c.co else if k=11 then inB slot c.ch else if k=12 then inB slot c.ch && Qt c lo other loc
 else if k=13 then inB slot c.th else decide (k=4\/k=5\/k=14\/k=15)
mutual
/-- Statements by their numbers from n on: the number behind them; none: they may not be. -/
def PStm.ask (c:Cn)(lo:Int):PStm->Int->Int->Option Int
 | .mk k _ _ _ _ e ix body els id slot other loc,d,n=>
  if 24<d\/n=512\/id≠n then none
  else if (Ll c lo k e ix body.length els.length && Ds c lo k slot other loc)=true then
   match Z8 c lo body (d+1) (n+1) with
   |none=>none
   |some m=>Z8 c lo els (d+1) m
  else none
def Z8 (c:Cn)(lo:Int):List PStm->Int->Int->Option Int
 | [],_,n=>some n
 |s::r,d,n=>match s.ask c lo d n with
  |none=>none
  |some m=>Z8 c lo r d m
end
def Vk (c:Cn):List PTh->Int->Option Int
 | [],n=>some n
 |t::r,n=>if t.loc<0\/32<t.loc then none else match Z8 c t.loc t.body 1 n with
  |none=>none
  |some m=>Vk c r m
def Zqf (f:Fnd):Bool:=
 decide ((0<=f.mu/\f.mu<=64)/\(0<=f.co/\f.co<=64)/\f.vars.length+f.arrs.length+f.mu+f.co+f.chs.length+f.ths.length<=64/\(∀ v∈f.vars,val v)/\(∀ n∈f.arrs,1<=n/\n<=256)/\(∀ n∈f.chs,1<=n/\n<=16)/\Wy f.arrs<=256)
def Bg (f:Fnd):Bool:=Zqf f && inB f.main f.ths.length && (Vk f.cn f.ths 0==some f.stm)
def g_th (g:FC):(g.er.ths.length:Int)=g.ths.l.length:=by show ((g.ths.l.map Th.er).length:Int)=_;rw [aI]
def E9 (g:FC):g.er.cn.v=g.vars.l.length:=rfl
def Fq (g:FC):g.er.cn.a=g.arrs.l.length:=rfl
def Zba (g:FC):g.er.cn.ch=g.chs.l.length:=rfl
def Zbi (g:FC):g.er.cn.mu=g.mu:=rfl
def Zbl (g:FC):g.er.cn.co=g.co:=rfl
def Zbr (g:FC):g.er.cn.th=g.ths.l.length:=g_th g
def Iq {c}{lo d}: ∀ {l},Nj c lo l d=true↔ ∀ e∈l,e.ask c lo d=true
 | []=>by simp [Nj]
 |e::r=>by simp [Nj,Iq (l:=r)]
section
variable {n c:Int}{b:Nat}
def Ht: ∀ (N:Nat) {e} {b o} {d} {q},e.sz<=N->N<=1000000->(0<=d/\d<=24)->(Kn q fun M=>ExAt M ⟨b,o,none⟩ e)->CellsAt q pa 0 [pt pp,x1,I64 lo]->CellsAt q pp 0 (pgC g)->CF G 308 [pt pa,.pointer (some ⟨b,o,none⟩),I64 d] (q) (Ret fun v q'=>v= .bool (e.er.ask g.er.cn lo d)/\q'=q):=fun N=>by
 induction N with
 |zero=>intro e b o d q hs;exact aV hs (by cases e;simp only [Ex.sz];omega)
 |succ N IH=> 
 intro e b o d q hs hN hd hK ha hp;obtain ⟨ek,en,n0,j,n,m,i,ea,ec⟩:=e;refine aE ntmps308 fun F cs=> ?_;have d0:CellsAt q pp 0 [.slice g.vars.a g.vars.l.length g.vars.c,.slice g.arrs.a g.arrs.l.length g.arrs.c,I64 g.mu,I64 g.co,.slice g.chs.a g.chs.l.length g.chs.c,.slice g.ths.a g.ths.l.length g.ths.c,I64 g.main,I64 g.stm]:=fun k v hk=>hp k v (by revert hk;match k with|0|1|2|3|4|5|6|7=>exact fun h=>h|(k+8)=>intro h;cases h)
 have f:=Kn.exC hK;have hA:Kn q fun M=>SlAt M ea ec i.length (i.flatMap exC)/\Ex.Ats M i:=hK.imp fun M h=>h.2;have hS:=eP (hA.imp fun M h=>h.1.2.2)
 have hl:i.length+1<=N+1:=by have:=Fx i;simp only [Ex.sz] at hs;omega
 have e0:=Zx Yn i;obtain ⟨R,p⟩:=lV ((Ex.er (Ex.mk ek en n0 j n m i ea ec)).ask g.er.cn lo d);rw [<-p];simp only [Ex.er,PEx.ask,Ko] at p;refine Zz ?_;refine xp 10 ?_ ?_<;>intro h0
 . refine Zz ?_;refine Zl (q) func308 (Qq results308 rfl) ⟨_,rfl,cB (by rw [p,bM Zq];rfl),rfl⟩
 rw [dB Zq,gU] at p;refine rf [12,0,1] f ?_;refine iG (fun (x:Int)=> [(0,pt pa),(1,.pointer (some ⟨b,o,none⟩)),(2,I64 d),(7,I64 x)]) (fun x=>q++F) (fun x=>J8 g.er.cn lo ek en j n m=x/\(0<=x/\x<=2)) (fun x i0=> ?_) fun K=> ?_
 . rw [i0.1] at p;refine Zz ?_;refine xp 81 ?_ ?_<;>intro h1
   . refine Zz ?_;refine Zl (q) func308 (Qq results308 rfl) ⟨_,rfl,cB (by rw [p,bM Zq];rfl),rfl⟩
   rw [dB Zq,gU] at p;refine Zz ?_;refine cH (bW (fun (s:Nat)=>s<=i.length/\ ∀ e∈i.take s,e.er.ask g.er.cn lo (d - 1)=true) (fun s=> [(0,pt pa),(1,.pointer (some ⟨b,o,none⟩)),(2,I64 d),(86,I64 i.length),(87,I64 s)]) (fun s=>q++F) (fun s=>i.length - s) (fun s f0 ih=> ?_) 0 ⟨aZ _,Zf⟩) Z5 leA;try dsimp only at f0 ih|-
   obtain ⟨p0,a0⟩:=f0;refine Zz ?_;refine xp 88 ?_ ?_<;>intro h2
   . have t:s<i.length:=Zq;refine Yq (hS.le leA) (by rw [e0];omega) fun ab ao e_=> ?_;subst e_
     have k0:Kn q fun M=>ExAt M ⟨ab,ao+(s:Int).toNat*7,none⟩ i[s]:=hK.imp fun M h=>by
      obtain ⟨b',o',e1,e2⟩:=jH Yn Zw h.2.1.2.2 t
      cases e1
      exact ⟨e2,Ub.1 h.2.2 _ (aC t)⟩
     have g0:i[s].sz<=N:=by have:=Wd (aC t);simp only [Ex.sz] at hs;omega
     refine rf [15,0,4] f ?_;refine Wb (IH (e:=i[s]) (d:=d - 1) g0 Zq Zq (k0.le leA) (ha.le leA) (hp.le leA)) ?_;refine xp 100 ?_ ?_<;>intro h3
     . refine Zz ?_;refine Zl (q) func308 (Qq results308 rfl) ⟨_,rfl,cB (by rw [p];symm;rw [Bool.eq_false_iff];intro k;exact aV (Iq.1 k _ (by rw [Ww];exact cW (aC t))) (by simpa using h3)),rfl⟩
     apply xx 7
     refine cH (ih (s+1) ⟨Zq,fun e y=>by
      rw [aM t] at y;rcases bP.1 y with y|y
      . exact a0 e y
      rw [bE.1 y];simpa using h3⟩ Zq) Z5 leA
   obtain rfl:s=i.length:=Zq;rw [bR] at a0;apply xx 6;refine Zl (q) func308 (Qq results308 rfl) ⟨_,rfl,cB (by rw [p];symm;rw [Iq,Ww];intro e y;obtain ⟨z,r,rfl⟩:=cF.1 y;exact a0 z r),rfl⟩
 skip;apply xx 6;refine xp 15 ?_ ?_<;>intro g1
 . refine rf [6,0,2] f ?_;apply fL [22,7,6,0,1,2];apply V9 6 28 22 rfl
   . intro w c0;have m0:=sp w;refine rf [3,0,2] f ?_;exact Z2 c0 ⟨orF w,Yt⟩
   . intro w c0;have m0:=sp w;apply oo 6;exact Z2 c0 ⟨orT w,Yt⟩
   apply ox 1;refine xp 28 ?_ ?_<;>intro g3
   . apply xx 5;refine Zl (q) func308 (Qq results308 rfl) ⟨_,rfl,cB (by rw [p];symm;have r:J8 g.er.cn lo ek en j n m= -1:=(by unfold J8;unfold Qt inB;rw [E9,Fq];unfold val;first|(simp_all;done)|(simp_all;omega)|((repeat' split)<;>first|rfl|omega|(exfalso;simp_all;done)|(exfalso;simp_all;omega)));rw [r,bM Zq];rfl),rfl⟩
   apply xx 3;exact cH (K 0 ⟨by unfold J8;unfold Qt inB;rw [E9,Fq];unfold val;first|(simp_all;done)|(simp_all;omega)|((repeat' split)<;>first|rfl|omega|(exfalso;simp_all;done)|(exfalso;simp_all;omega)),Zq⟩) Z5 leA
 apply xx 6;refine xp 29 ?_ ?_<;>intro g2
 . refine rf [2,0,1,2,3,4,5,6,7,8,9] f ?_;apply Yf 9 (Pl (ha.le leA) (hp.le leA));refine rn [11,0] ?_;refine xp 41 ?_ ?_<;>intro g3
   . apply xx 5;refine Zl (q) func308 (Qq results308 rfl) ⟨_,rfl,cB (by rw [p];symm;have r:J8 g.er.cn lo ek en j n m= -1:=(by unfold J8;unfold Qt inB;rw [E9,Fq];unfold val;first|(simp_all;done)|(simp_all;omega)|((repeat' split)<;>first|rfl|omega|(exfalso;simp_all;done)|(exfalso;simp_all;omega)));rw [r,bM Zq];rfl),rfl⟩
   apply xx 3;exact cH (K 0 ⟨by unfold J8;unfold Qt inB;rw [E9,Fq];unfold val;first|(simp_all;done)|(simp_all;omega)|((repeat' split)<;>first|rfl|omega|(exfalso;simp_all;done)|(exfalso;simp_all;omega)),Zq⟩) Z5 leA
 apply xx 6;refine xp 42 ?_ ?_<;>intro g3
 . refine rh [6,0,1,2,3,4,5,6,7,8,9,10,11,12] f ha d0 ?_;refine Yf 12 (Nr) ?_ (hL:=(hlH ha d0 f));refine rn [14,0] ?_;refine xp 57 ?_ ?_<;>intro g4
   . apply xx 5;refine Zl (q) func308 (Qq results308 rfl) ⟨_,rfl,cB (by rw [p];symm;have r:J8 g.er.cn lo ek en j n m= -1:=(by unfold J8;unfold Qt inB;rw [E9,Fq];unfold val;first|(simp_all;done)|(simp_all;omega)|((repeat' split)<;>first|rfl|omega|(exfalso;simp_all;done)|(exfalso;simp_all;omega)));rw [r,bM Zq];rfl),rfl⟩
   apply xx 3;exact cH (K 1 ⟨by unfold J8;unfold Qt inB;rw [E9,Fq];unfold val;first|(simp_all;done)|(simp_all;omega)|((repeat' split)<;>first|rfl|omega|(exfalso;simp_all;done)|(exfalso;simp_all;omega)),Zq⟩) Z5 leA
 apply xx 7;refine xp 58 ?_ ?_<;>intro g4
 . apply xx 7;exact cH (K 1 ⟨by unfold J8;unfold Qt inB;rw [E9,Fq];unfold val;first|(simp_all;done)|(simp_all;omega)|((repeat' split)<;>first|rfl|omega|(exfalso;simp_all;done)|(exfalso;simp_all;omega)),Zq⟩) Z5 leA
 apply xx 5;refine xp 58 ?_ ?_<;>intro g5
 . apply xx 5;exact cH (K 1 ⟨by unfold J8;unfold Qt inB;rw [E9,Fq];unfold val;first|(simp_all;done)|(simp_all;omega)|((repeat' split)<;>first|rfl|omega|(exfalso;simp_all;done)|(exfalso;simp_all;omega)),Zq⟩) Z5 leA
 apply xx 6;refine xp 61 ?_ ?_<;>intro g6
 . refine rf [10,0,2] f ?_;apply fL [68,7,6,0,1,2];apply V9 6 74 68 rfl
   . intro u b0;have l0:=sp u;refine rf [3,0,2] f ?_;exact Z2 b0 ⟨orF u,Yt⟩
   . intro u b0;have l0:=sp u;apply oo 6;exact Z2 b0 ⟨orT u,Yt⟩
   apply ox 1;refine xp 74 ?_ ?_<;>intro g8
   . apply xx 5;refine Zl (q) func308 (Qq results308 rfl) ⟨_,rfl,cB (by rw [p];symm;have r:J8 g.er.cn lo ek en j n m= -1:=(by unfold J8;unfold Qt inB;rw [E9,Fq];unfold val;first|(simp_all;done)|(simp_all;omega)|((repeat' split)<;>first|rfl|omega|(exfalso;simp_all;done)|(exfalso;simp_all;omega)));rw [r,bM Zq];rfl),rfl⟩
   apply xx 3;exact cH (K 2 ⟨by unfold J8;unfold Qt inB;rw [E9,Fq];unfold val;first|(simp_all;done)|(simp_all;omega)|((repeat' split)<;>first|rfl|omega|(exfalso;simp_all;done)|(exfalso;simp_all;omega)),Zq⟩) Z5 leA
 refine Zz ?_;refine Zl (q) func308 (Qq results308 rfl) ⟨_,rfl,cB (by rw [p];symm;have r:J8 g.er.cn lo ek en j n m= -1:=(by unfold J8;unfold Qt inB;rw [E9,Fq];unfold val;first|(simp_all;done)|(simp_all;omega)|((repeat' split)<;>first|rfl|omega|(exfalso;simp_all;done)|(exfalso;simp_all;omega)));rw [r,bM Zq];rfl),rfl⟩
def parts_ok {s:Stm}(hB:B<=1000000)(hb:s.lm B)(hK:Kn q fun M=>StAt M ⟨b,o,none⟩ s)(ha:CellsAt q pa 0 [pt pp,x1,I64 lo])(hp:CellsAt q pp 0 (pgC g)):CR G 280 (Aa pa b o) (q) (.bool (match s with| .mk kk _ _ _ _ e ix bd es2 _ _ _ _ _ sl ot lo_=>Ll g.er.cn lo kk e.er ix.er bd.length es2.length)):=by
 refine aE ntmps280 fun F cs=> ?_;have d0:CellsAt q pp 0 [.slice g.vars.a g.vars.l.length g.vars.c,.slice g.arrs.a g.arrs.l.length g.arrs.c,I64 g.mu,I64 g.co,.slice g.chs.a g.chs.l.length g.chs.c,.slice g.ths.a g.ths.l.length g.ths.c,I64 g.main,I64 g.stm]:=fun k v hk=>hp k v (by revert hk;match k with|0|1|2|3|4|5|6|7=>exact fun h=>h|(k+8)=>intro h;cases h)
 obtain ⟨kk,ln,cl,nm,wt,⟨u,r,j,f,m,i,t,x,w⟩,⟨xk,xn,z,xsl,a0,y,xl,xa,xc⟩,bd,es2,ba,bc,i0,h0,id,sl,ot,lo_⟩:=s;obtain ⟨n,b0,f0,e0⟩:=hb;have g0:=gM hK;dsimp only;have p:Kn q fun M=>ExAt M ⟨b,o+5,none⟩ (Ex.mk u r j f m i t x w):=hK.imp fun M h=>Wl (pre:= (A3 kk ln cl nm wt)) h.1 rfl h.2.1 rfl
 obtain ⟨R,hR⟩:=lV (Ll g.er.cn lo kk (Ex.er (Ex.mk u r j f m i t x w)) (Ex.er (Ex.mk xk xn z xsl a0 y xl xa xc)) bd.length es2.length);rw [<-hR];refine Zp ?_ ?_<;>intro h1
 focus
  refine Zz ?_;refine' Yi ?_;refine Zp ?_ ?_<;>intro h2
  rotate_left
  focus
   refine Zz ?_;apply bD (Ht B (d:=24) (e:=(Ex.mk u r j f m i t x w)) n hB Zq (p.le leA) (ha.le leA) (hp.le leA))
 rotate_left 2
 focus
  refine Zp ?_ ?_<;>intro h2
  focus
   refine Zz ?_;refine' Yi ?_;refine Zp ?_ ?_<;>intro h3
   rotate_left
   focus
    refine Zz ?_;apply bD (Ht B (d:=24) (e:=(Ex.mk u r j f m i t x w)) n hB Zq (p.le leA) (ha.le leA) (hp.le leA))
  rotate_left 2
  focus
   refine Zp ?_ ?_<;>intro h3
   focus
    refine Zz ?_;refine' Yi ?_;refine Zp ?_ ?_<;>intro h4
    rotate_left
    focus
     refine Zz ?_;apply bD (Ht B (d:=24) (e:=(Ex.mk u r j f m i t x w)) n hB Zq (p.le leA) (ha.le leA) (hp.le leA))
   rotate_left 2
   focus
    refine Zp ?_ ?_<;>intro h4
    focus
     refine Zz ?_;refine' Yi ?_;refine Zp ?_ ?_<;>intro h5
     rotate_left
     focus
      refine Zz ?_;apply bD (Ht B (d:=24) (e:=(Ex.mk u r j f m i t x w)) n hB Zq (p.le leA) (ha.le leA) (hp.le leA))
    rotate_left 2
    focus
     refine Zp ?_ ?_<;>intro h5
     focus
      refine Zz ?_;refine' Yi ?_;refine Zp ?_ ?_<;>intro h6
      rotate_left
      focus
       refine Zz ?_;refine Wb (Ht B (d:=24) (e:=(Ex.mk xk xn z xsl a0 y xl xa xc)) b0 hB Zq ((hK.imp fun M h=>Wl (pre:= (A3 kk ln cl nm wt)++exC (Ex.mk u r j f m i t x w)) h.1 rfl h.2.2.1 rfl).le leA) (ha.le leA) (hp.le leA)) ?_;refine' Q1 ?_ ?_
       rotate_left
       . intro h7 M7;refine Zz ?_;apply bD (Ht B (d:=24) (e:=(Ex.mk u r j f m i t x w)) n hB Zq (p.le leA) (ha.le leA) (hp.le leA));exact Vi M7
     rotate_left 2
     focus
      refine Zp ?_ ?_<;>intro h6
      focus
       refine Zz ?_;apply bD (Ht B (d:=24) (e:=(Ex.mk u r j f m i t x w)) n hB Zq (p.le leA) (ha.le leA) (hp.le leA))
      rotate_left
      focus
       refine Zp ?_ ?_<;>intro h7
       focus
        refine Zp ?_ ?_<;>intro h8
        rotate_left
        focus
         refine Zz ?_;apply bD (Ht B (d:=24) (e:=(Ex.mk u r j f m i t x w)) n hB Zq (p.le leA) (ha.le leA) (hp.le leA))
       rotate_left 2
       focus
        refine Zz ?_;refine' Yi ?_;refine Zp ?_ ?_<;>intro h8
        rotate_left
 all_goals
  refine Zm (q) ?_;exact ⟨_,rfl,cB (by rw [hR];unfold Ll;first|(simp_all;done)|(rcases bK (0<(bd.length:Int)) with z1|z1<;>rcases bK (0<(es2.length:Int)) with z2|z2<;>simp_all;done)|(rcases bK (0<(bd.length:Int)) with z1|z1<;>rcases bK (0<(es2.length:Int)) with z2|z2<;>simp_all<;>omega)),rfl⟩
def slots_ok {s:Stm}(hB:B<=1000000)(hb:s.lm B)(hK:Kn q fun M=>StAt M ⟨b,o,none⟩ s)(ha:CellsAt q pa 0 [pt pp,x1,I64 lo])(hp:CellsAt q pp 0 (pgC g)):CR G 281 (Aa pa b o) (q) (.bool (match s with| .mk kk _ _ _ _ e ix bd es2 _ _ _ _ _ sl ot lo_=>Ds g.er.cn lo kk sl ot lo_)):=by
 refine aE ntmps281 fun F cs=> ?_;have d:CellsAt q pp 0 [.slice g.vars.a g.vars.l.length g.vars.c,.slice g.arrs.a g.arrs.l.length g.arrs.c,I64 g.mu,I64 g.co,.slice g.chs.a g.chs.l.length g.chs.c,.slice g.ths.a g.ths.l.length g.ths.c,I64 g.main,I64 g.stm]:=fun k v hk=>hp k v (by revert hk;match k with|0|1|2|3|4|5|6|7=>exact fun h=>h|(k+8)=>intro h;cases h)
 obtain ⟨kk,ln,cl,nm,wt,⟨ek,en,w,t,x,u,el,ea,ec⟩,⟨xk,xn,z,xsl,a0,y,xl,xa,xc⟩,bd,es2,ba,bc,n0,m0,id,sl,ot,lo_⟩:=s;obtain ⟨e0,d0,c0,b0⟩:=hb;have f:=gM hK;dsimp only;have g0:Kn q fun M=>ExAt M ⟨b,o+5,none⟩ (Ex.mk ek en w t x u el ea ec):=hK.imp fun M h=>Wl (pre:= (A3 kk ln cl nm wt)) h.1 rfl h.2.1 rfl
 have f0:Kn q fun M=>ExAt M ⟨b,o+12,none⟩ (Ex.mk xk xn z xsl a0 y xl xa xc):=hK.imp fun M h=>Wl (pre:= (A3 kk ln cl nm wt)++exC (Ex.mk ek en w t x u el ea ec)) h.1 rfl h.2.2.1 rfl
 obtain ⟨R,m⟩:=lV (Ds g.er.cn lo kk sl ot lo_);rw [<-m];refine Zz ?_;refine xp 14 ?_ ?_<;>intro h1
 . refine Zz ?_;apply XD.sb [20,4,0,1];apply Tu 1 [0,1,2,3,4,5,6,7,8,9,10,11,12,13,14,15] 31 20 rfl
   . intro r M2;have h2:=sp r;refine Zz ?_;refine Yf 14 (Pl (ha.le leA) (hp.le leA)) ?_ (hL:=(hlH ha d f));apply dd [15];exact Ud M2 ⟨Rb r,Yt⟩
   . intro r M2;have h2:=sp r;apply dd [5,6,7,8,9,10,11,12,13,14,15];exact Ud M2 ⟨Rf r,Yt⟩
   intro L_;refine Zz ?_;refine Zl (q) func281 (Qq results281 rfl) ⟨_,rfl,cB (by rw [m];unfold Ds;unfold Qt inB;rw [E9,Fq,Zba,Zbi,Zbl,Zbr];first|(simp_all;done)|(simp_all;omega)|(simp_all<;>omega)),rfl⟩
 refine Zp ?_ ?_<;>intro h2
 focus
  refine Zz ?_;apply Yf 9 (Pl (ha.le leA) (hp.le leA))
 rotate_left
 focus
  refine Zp ?_ ?_<;>intro h3
  focus
   refine Zz ?_;refine Yf 9 (Nr) ?_ (hL:=(hlH ha d f))
  rotate_left
  focus
   refine Zp ?_ ?_<;>intro h4
   focus
    refine Zz ?_;apply Yf 8 (Nr)
   rotate_left
   focus
    refine Zp ?_ ?_<;>intro h5
    focus
     refine Zz ?_;apply Yf 8 (Nr)
    rotate_left
    focus
     refine Zz ?_;refine xp 68 ?_ ?_<;>intro h6
     . refine Zz ?_;apply Yf 8 (Nr);refine Zz ?_;apply XD.sb [79,5,4,1];apply Tu 1 [0,1,2,3,4,5,6,7,8,9,10,11,12,13,14,15,16,17,18,19] 89 79 rfl
       . intro p M7;have h7:=sp p;refine Zz ?_;apply Yf 18 (Nr);apply dd [19];exact Ud M7 ⟨Rb p,Yt⟩
       . intro p M7;have h7:=sp p;apply dd [10,11,12,13,14,15,16,17,18,19];exact Ud M7 ⟨Rf p,Yt⟩
       intro L_;refine Zz ?_;refine Zl (q) func281 (Qq results281 rfl) ⟨_,rfl,cB (by rw [m];unfold Ds;unfold Qt inB;rw [E9,Fq,Zba,Zbi,Zbl,Zbr];first|(simp_all;done)|(simp_all;omega)|(simp_all<;>omega)),rfl⟩
     refine Zp ?_ ?_<;>intro h7
     focus
      refine Zz ?_;apply Yf 8 (Nr)
     rotate_left
     focus
      refine Zp ?_ ?_<;>intro h8
      focus
       refine Zz ?_;apply Yf 8 (Nr)
      rotate_left
      focus
       refine Zp ?_ ?_<;>intro h9
       focus
        refine Zz ?_;refine Yf 9 (Nr) ?_ (hL:=(hlH ha d f))
       rotate_left
       focus
        refine Zz ?_;refine xp 114 ?_ ?_<;>intro l0
        . refine Zz ?_;refine Yf 9 (Nr) ?_ (hL:=(hlH ha d f));refine Zz ?_;apply XD.sb [126,4,0,1];apply Tu 1 [0,1,2,3,4,5,6,7,8,9,10,11,12,13,14,15,16,17,18,19,20,21] 137 126 rfl
          . intro i j;have n:=sp i;refine Zz ?_;refine Yf 20 (Pl (ha.le leA) (hp.le leA)) ?_ (hL:=(hlH ha d f));apply dd [21];exact Ud j ⟨Rb i,Yt⟩
          . intro i j;have n:=sp i;apply dd [11,12,13,14,15,16,17,18,19,20,21];exact Ud j ⟨Rf i,Yt⟩
          intro L_;refine Zz ?_;refine Zl (q) func281 (Qq results281 rfl) ⟨_,rfl,cB (by rw [m];unfold Ds;unfold Qt inB;rw [E9,Fq,Zba,Zbi,Zbl,Zbr];first|(simp_all;done)|(simp_all;omega)|(simp_all<;>omega)),rfl⟩
        refine Zp ?_ ?_<;>intro n
        focus
         refine Zz ?_;refine Yf 9 (Nr) ?_ (hL:=(hlH ha d f))
        rotate_left
        focus
         refine Zp ?_ ?_<;>intro k0
         rotate_left
         focus
          refine Zp ?_ ?_<;>intro j0
          rotate_left
          focus
           refine Zp ?_ ?_<;>intro i0
           rotate_left
           focus
            refine Zp ?_ ?_<;>intro h0
            rotate_left
 all_goals
  refine Zm (q) ?_;exact ⟨_,rfl,cB (by rw [m];unfold Ds;unfold Qt inB;rw [E9,Fq,Zba,Zbi,Zbl,Zbr];first|(simp_all;done)|(simp_all;omega)|(simp_all<;>omega)),rfl⟩
end
mutual
def Zvz {c}{lo}: ∀ {s:PStm} {d n m},n<=512->s.ask c lo d n=some m->n<=m/\m<=512
 | .mk ..,d,n,m,hn,h=>by
  simp only [PStm.ask] at h;split at h
  . cases h
  rename_i f;split at h
  . split at h
    . cases h
    rename_i k a;have b:=Qp Zq a;have e:=Qp b.2 h;omega
  cases h
def Qp {c}{lo}: ∀ {l} {d n m},n<=512->Z8 c lo l d n=some m->n<=m/\m<=512
 | [],d,n,m,hn,h=>by simp only [Z8] at h;cases h;omega
 |s::r,d,n,m,hn,h=>by
  simp only [Z8] at h;split at h
  . cases h
  rename_i k a;have b:=Zvz hn a;have e:=Qp b.2 h;omega
end
def Ic {c}(s:PStm)(r:List PStm)(d n:Int):Z8 c lo (s::r) d n=match s.ask c lo d n with|none=>none|some m=>Z8 c lo r d m:=by simp only [Z8]<;>rfl
def Zzk {l:List Stm}(h:i<l.length):Zk (l.drop i)=l[i].er::Zk (l.drop (i+1)):=by rw [aP h];rfl
section
variable {n:Int}{b:Nat}{l:List Stm}
def AskB (G:World)(B pa pp:Nat)(g:FC)(lo:Int)(N:Nat):Prop:= ∀ {l:List Stm} {a:Option Addr} {c:Nat} {d n:Int} {q:List HP},Zn l<=N->V1 B l->(1<=d/\d<=25)->(0<=n/\n<=512)->CellsAt q pp 0 (pgC g)->(Kn q fun M=>BlkAt M a c l)->
 CF G 230 [pt pa,.slice a l.length c,I64 d] (pC pa [pt pp,I64 n,I64 lo] 393::q) (Ret fun v q'=> ∃ n',v= .bool (Z8 g.er.cn lo (Zk l) d n).isSome/\(∀ m,Z8 g.er.cn lo (Zk l) d n=some m->n'=m)/\q'=pC pa [pt pp,I64 n',I64 lo] 393::q)
def ask_step (IH: ∀ N_,N_<N->AskB G B pa pp g lo N_)(hB:B<=1000000)(hN:N<=1000000)(hs:Zn l<=N)(hb:V1 B l)(hd:1<=d/\d<=25)(hn:0<=n/\n<=512)(hp:CellsAt q pp 0 (pgC g))(hK:Kn q fun M=>BlkAt M a c l):CF G 230 [pt pa,.slice a l.length c,I64 d] (pC pa (Am pp n lo) 393::q) (Ret fun v q'=> ∃ n',v= .bool (Z8 g.er.cn lo (Zk l) d n).isSome/\(∀ m,Z8 g.er.cn lo (Zk l) d n=some m->n'=m)/\q'=pC pa (Am pp n' lo) 393::q):=by
 refine aE ntmps230 fun F cs=> ?_;have hS:=eP (hK.imp fun M h=>h.1.2.2);have hl:l.length<=N:=dO (Na l) hs;have a0:=Zx Z7 l;obtain ⟨R,hR⟩:=lV (Z8 g.er.cn lo (Zk l) d n);rw [<-hR];refine Zs (bW (fun (s:Nat×Int)=>s.1<=l.length/\R=Z8 g.er.cn lo (Zk (l.drop s.1)) d s.2/\0<=s.2/\s.2<=512) (fun s=> [(0,pt pa),(1,.slice a l.length c),(2,I64 d),(10,I64 l.length),(11,I64 (s.1:Int))]) (fun s=>pC pa [pt pp,I64 s.2,I64 lo] 393::(q++F)) (fun s=>l.length - s.1) (fun s b0 ih=> ?_) (0,n) ⟨aZ _,by rw [hR,iD],hn⟩);try dsimp only at b0 ih|-
 obtain ⟨t0,b,s0⟩:=b0;obtain ⟨i,t⟩:=s;dsimp only at*;refine Zp ?_ ?_<;>intro h0
 . have e:i<l.length:=Zq;rw [Zzk e,Ic] at b;obtain ⟨x,hx⟩:=lV l[i];have c0:x.sz<=Zn l:=hx ▸ Qx (aC e);have z:x.lm B:=hx ▸ Nl hb (aC e);rw [<-hx] at b;refine Yq (hS.le leA) (by rw [a0];omega) fun ab ao e_=> ?_;rw [e_]
   have j:Kn q fun M=>StAt M ⟨ab,ao+(i:Int).toNat*25,none⟩ x:=hK.imp fun M h=>by
    obtain ⟨b',o',e1,e2⟩:=jH Z7 Zw h.1.2.2 e;rw [e_] at e1;cases e1
    exact ⟨by rw [hx];exact e2,by rw [hx];exact Uk.1 h.2 _ (aC e)⟩
   obtain ⟨kk,ln,cl,nm,wt,⟨ek,en,a1,y0,b1,z0,el,ea,ec⟩,⟨xk,xn,p0,xsl,q0,o0,xl,xa,xc⟩,bd,r,ba,bc,d1,c1,id,sl,ot,r0⟩:=x;have u:=z;obtain ⟨w0,v0,g0,f0⟩:=z;have i0:=gM j;have hz:Zn bd+Zn r+1<=N:=(by simp only [Stm.sz] at c0;omega);simp only [Stm.er,PStm.ask,Wr] at b;refine rn [18,0,1,2,3] ?_;apply XD.sb [19,8,0,1,2,10,11];apply Bl 11 [0,1,2,3,4,5,6,7,8] 25 19 rfl
   . intro p y;have k0:=sp p;refine rn [4,5,6,7,8,9] ?_;exact Ud y ⟨orF p,Yt⟩
   . intro p y;have k0:=sp p;apply dd [3,4,5,6,7,8];exact Ud y ⟨orT p,Yt⟩
   intro L_;refine Zz ?_;apply XD.sb [26,8,0,1,2,10,11];apply Bl 0 [0,1,2,3,4,5,6,7,8,9,10,11,12,13,14,15,16,17,18,19] 36 26 rfl
   . intro o w;have j0:=sp o;refine rf [11,12,13,14,15,16,17,18,19,20] i0 ?_;exact Ud w ⟨orF o,Yt⟩
   . intro o w;have j0:=sp o;apply dd [10,11,12,13,14,15,16,17,18,19];exact Ud w ⟨orT o,Yt⟩
   intro L_;refine Zz ?_;refine xp 36 ?_ ?_<;>intro g3
   . have f:24<d\/t=512\/id≠t:=(by first|omega|(simp at g3;omega));rw [if_pos f] at b;dsimp only at b;refine Zg ?_ (h0:=J2);exact ⟨_,⟨_,rfl,_,(by rw [b];rfl),(by rw [b];intro m h;cases h),rfl⟩,leA⟩
   have f: ¬ (24<d\/t=512\/id≠t):=(by first|omega|(simp at g3;omega));rw [if_neg f] at b;have u0: ¬24<d/\ ¬t=512:=⟨fun k=>f (.inl k),fun k=>f (.inr (.inl k))⟩;refine Zz ?_;refine Wb (parts_ok hB u (j.le leA) (dK V2) (hp.le leA)) ?_;refine' Qc ?_ ?_
   rotate_left
   . intro x0 l0;refine Zz ?_;apply bD (slots_ok hB u (j.le leA) (dK V2) (hp.le leA));exact Vi l0
   refine Zp ?_ ?_<;>intro g5
   . rw [if_neg (by intro k;rw [bA] at k;revert g5;simp [k.1,k.2])] at b;dsimp only at b;refine Zg ?_;exact ⟨_,⟨_,rfl,_,(by rw [b];rfl),(by rw [b];intro m h;cases h),rfl⟩,leA⟩
   rw [if_pos (by rw [bA];simpa using g5)] at b;refine Ye ?_;apply Zv Zj (IH (Zn bd) Zq (l:=bd) (d:=d+1) (n:=(t+1)) (aS _) g0 Zq Zq (hp.le leA) ((j.le leA).imp fun M h=>h.2.2.2.1));rintro _ _ ⟨n2,rfl,e0,rfl⟩;rcases hR2:Z8 g.er.cn lo (Zk bd) (d+1) (t+1) with _|m1
   . apply aX 61 bF rfl (by rfl);rw [hR2] at b;dsimp only at b;refine Zg ?_;exact ⟨_,⟨_,rfl,_,(by rw [b];rfl),(by rw [b];intro m h;cases h),rfl⟩,leA⟩
   apply aX 61 bT rfl (by rfl);obtain rfl:=e0 _ hR2;rw [hR2] at b;have n0:=Qp Zq hR2;dsimp only at b;refine Ye ?_;refine Zv Zj (IH (Zn r) Zq (l:=r) (d:=d+1) (n:=n2) (aS _) f0 Zq Zq (hp.le leA) ((j.le leA).imp fun M h=>⟨h.2.2.2.2.1,h.2.2.2.2.2⟩)) ?_;rintro _ _ ⟨n3,rfl,d0,rfl⟩;rcases hR3:Z8 g.er.cn lo (Zk r) (d+1) n2 with _|m2
   . apply aX 71 bF rfl (by rfl);rw [hR3] at b;dsimp only at b;refine Zg ?_;exact ⟨_,⟨_,rfl,_,(by rw [b];rfl),(by rw [b];intro m h;cases h),rfl⟩,leA⟩
   apply aX 71 bT rfl (by rfl);obtain rfl:=d0 _ hR3;rw [hR3] at b;have m0:=Qp Zq hR3;dsimp only at b;refine Zz ?_;rw [<-e_];refine Zs (ih (i+1,n3) ⟨Zy,b,Zy,Zy⟩ Zy)
 obtain rfl:i=l.length:=Zq;rw [dU] at b;simp only [Zk,Z8] at b;refine Zg ?_;exact ⟨_,⟨_,rfl,t,by rw [b];rfl,by rw [b];intro m h;cases h;rfl,rfl⟩,leA⟩
def ask_all (hB:B<=1000000)(N:Nat)(hN:N<=1000000):AskB G B pa pp g lo N:=by
 induction N using Nat.strongRecOn with
 |ind N IH=>exact fun b e d a c f=>ask_step (fun n a=>IH n a Zq) hB hN b e d a c f
end
def P8 (a b:List Int):Wy (a++b)=Wy a+Wy b:=by
 induction a with
 |nil=>simp [Wy]
 |cons x r ih=>simp only [Wy,bN,iU] at ih|-;omega
def H9 {k:Int}(h: ∀ x∈l,0<=x/\x<=k)(hk:0<=k):0<=Wy l/\Wy l<=k*l.length:=by
 induction l with
 |nil=>simp [Wy]
 |cons x r ih=>
  have c:=h x (bO ..);have b:=ih fun y a=>h y (bQ _ a)
  have e:Wy (x::r)=x+Wy r:=rfl;rw [e,aJ,Int.natCast_succ,Int.mul_add,Int.mul_one];omega
def Oq (hp:CellsAt q pp 0 (pgC g))(hK:Kn q fun M=>g.At M)(hl:g.vars.l.length<=1000000/\g.arrs.l.length<=1000000/\g.chs.l.length<=1000000/\g.ths.l.length<=1000000):CR G 228 [pt pp] (q) (.bool (Zqf g.er)):=by
 refine aE ntmps228 fun F cs=> ?_;have j0:CellsAt q pp 0 [.slice g.vars.a g.vars.l.length g.vars.c,.slice g.arrs.a g.arrs.l.length g.arrs.c,I64 g.mu,I64 g.co,.slice g.chs.a g.chs.l.length g.chs.c,.slice g.ths.a g.ths.l.length g.ths.c,I64 g.main,I64 g.stm]:=fun k v hk=>hp k v (by revert hk;match k with|0|1|2|3|4|5|6|7=>exact fun h=>h|(k+8)=>intro h;cases h)
 obtain ⟨R,w⟩:=lV (Zqf g.er);rw [<-w];unfold Zqf at w;simp only [FC.er,aI] at w;have hV:=(eB (hK.imp fun M h=>h.vars));have hA:=(eB (hK.imp fun M h=>h.arrs));have hC:=(eB (hK.imp fun M h=>h.chs));rw [Ql] at hV hA hC;refine Zz ?_;refine' Yi ?_;refine Zz ?_;refine' Yi ?_;refine Zz ?_;refine' Yi ?_;refine Zp ?_ ?_<;>intro h1
 . refine Zm (q) ?_;exact ⟨_,rfl,cB (by rw [w];symm;rw [dG];intro k;have k1:=k.1;have k2:=k.2.1;(first|omega|(simp at h1;omega))),rfl⟩
 have hm:(0<=g.mu/\g.mu<=64)/\(0<=g.co/\g.co<=64):=(by first|omega|(simp at h1;omega));refine Zp ?_ ?_<;>intro h2
 . refine Zm (q) ?_;exact ⟨_,rfl,cB (by rw [w];symm;rw [dG];intro k;have k1:=k.2.2.1;omega),rfl⟩
 refine Zs (bW (fun (s:Nat)=>s<=g.vars.l.length/\(∀ x∈g.vars.l.take s,val x)) (fun s=> [(0,pt pp),(73,.slice g.vars.a g.vars.l.length g.vars.c),(74,I64 g.vars.l.length),(75,I64 s)]) (fun s=>q++F) (fun s=>g.vars.l.length - s) (fun s f o=> ?_) 0 ⟨aZ _,Zf⟩);try dsimp only at f o|-
 obtain ⟨b0,b⟩:=f;refine Zp (fun h0=> ?_) (fun h0=> ?_) (h0:=J2)
 . have e:s<g.vars.l.length:=Zq;refine Yq (hV.le leA) Zi fun ab ao e_=> ?_;have r:=hV;rw [e_] at r|-;refine Ye ?_;obtain ⟨x,p⟩:=lV g.vars.l[s];apply aX 78 (I64 x) rfl (by rw [p]);have j:g.vars.l.take (s+1)=g.vars.l.take s++ [x]:=by rw [aM e,p]
   refine Ye ?_;refine' Yi ?_ (h0:=J2);refine Zp (fun t=> ?_) (fun t=> ?_) (h0:=J2)
   . refine Zm (q) ?_ (h0:=J2);exact ⟨_,rfl,cB (by rw [w];symm;rw [dG];intro k;have k1:=k.2.2.2.1 x (p ▸ aC e);unfold val at k1;(first|omega|(simp at t;omega))),rfl⟩
   have hv:val x:=(by unfold val;first|omega|(simp at t;omega));refine Zz ?_;rw [<-e_]
   refine cH (o (s+1) ⟨by (try dsimp only);omega,fun y d=>by
    (try dsimp only at d)
    rw [j] at d;rcases bP.1 d with d|d
    . exact b y d
    rw [bE.1 d];exact hv⟩ (by (try dsimp only);omega)) Z5 leA
 obtain rfl:s=g.vars.l.length:=Zq;rw [bR] at b;have m:=b;clear o;refine Zs (bW (fun (s:Nat×Int)=>s.1<=g.arrs.l.length/\(∀ x∈g.arrs.l.take s.1,1<=x/\x<=256)/\s.2=Wy (g.arrs.l.take s.1)) (fun s=> [(0,pt pp),(89,.slice g.arrs.a g.arrs.l.length g.arrs.c),(90,I64 g.arrs.l.length),(91,I64 (s.1:Int)),(5,I64 s.2)]) (fun s=>q++F) (fun s=>g.arrs.l.length - s.1) (fun s f o=> ?_) (0,0) ⟨aZ _,Zf,by simp [Wy]⟩);try dsimp only at f o|-
 obtain ⟨b0,b,u⟩:=f;obtain ⟨i,z⟩:=s;dsimp only at*;refine Zp (fun h0=> ?_) (fun h0=> ?_) (h0:=J2)
 . have e:i<g.arrs.l.length:=Zq;refine Yq (hA.le leA) Zi fun ab ao e_=> ?_;have r:=hA;rw [e_] at r|-;refine Ye ?_;obtain ⟨x,p⟩:=lV g.arrs.l[i];apply aX 94 (I64 x) rfl (by rw [p]);have j:g.arrs.l.take (i+1)=g.arrs.l.take i++ [x]:=by rw [aM e,p]
   have a0:=H9 (l:=g.arrs.l.take i) (k:=256) (fun y d=>by have:=b y d;omega) Zw;rw [bB] at a0;have i0:(i:Int)<=64:=Zq;have g0:((min i g.arrs.l.length:Nat):Int)=i:=Zq;rw [g0] at a0;refine Ye ?_;refine' Yi ?_ (h0:=J2);refine Zp (fun t=> ?_) (fun t=> ?_) (h0:=J2)
   . refine Zm (q) ?_ (h0:=J2);exact ⟨_,rfl,cB (by rw [w];symm;rw [dG];intro k;have k1:=k.2.2.2.2.1 x (p ▸ aC e);(first|omega|(simp at t;omega))),rfl⟩
   have hv:1<=x/\x<=256:=(by first|omega|(simp at t;omega));refine Zz ?_;rw [<-e_]
   refine cH (o (i+1,z+x) ⟨by (try dsimp only);omega,fun y d=>by
    (try dsimp only at d)
    rw [j] at d;rcases bP.1 d with d|d
    . exact b y d
    rw [bE.1 d];exact hv,by dsimp only;rw [j,P8,u];simp [Wy]⟩ (by (try dsimp only);omega)) Z5 leA
 obtain rfl:i=g.arrs.l.length:=Zq;rw [bR] at b u;have n:=b;clear o;have sm:=u;subst u;have a0:=H9 (l:=g.arrs.l) (k:=256) (fun y d=>by have:=b y d;omega) Zw;refine Zs (bW (fun (s:Nat)=>s<=g.chs.l.length/\(∀ x∈g.chs.l.take s,1<=x/\x<=16)) (fun s=> [(5,I64 (Wy g.arrs.l)),(108,.slice g.chs.a g.chs.l.length g.chs.c),(109,I64 g.chs.l.length),(110,I64 s)]) (fun s=>q++F) (fun s=>g.chs.l.length - s) (fun s f o=> ?_) 0 ⟨aZ _,Zf⟩);try dsimp only at f o|-
 obtain ⟨b0,b⟩:=f;refine Zp (fun h0=> ?_) (fun h0=> ?_) (h0:=J2)
 . have e:s<g.chs.l.length:=Zq;refine Yq (hC.le leA) Zi fun ab ao e_=> ?_;have r:=hC;rw [e_] at r|-;refine Ye ?_;obtain ⟨x,p⟩:=lV g.chs.l[s];apply aX 113 (I64 x) rfl (by rw [p]);have j:g.chs.l.take (s+1)=g.chs.l.take s++ [x]:=by rw [aM e,p]
   refine Ye ?_;refine' Yi ?_ (h0:=J2);refine Zp (fun t=> ?_) (fun t=> ?_) (h0:=J2)
   . refine Zm (q) ?_ (h0:=J2);exact ⟨_,rfl,cB (by rw [w];symm;rw [dG];intro k;have k1:=k.2.2.2.2.2.1 x (p ▸ aC e);(first|omega|(simp at t;omega))),rfl⟩
   have hv:1<=x/\x<=16:=(by first|omega|(simp at t;omega));refine Zz ?_;rw [<-e_]
   refine cH (o (s+1) ⟨Zq,fun y d=>by
    rw [j] at d;rcases bP.1 d with d|d
    . exact b y d
    rw [bE.1 d];exact hv⟩ Zq) Z5 leA
 obtain rfl:s=g.chs.l.length:=Zq;rw [bR] at b;clear o;refine Zm (q) ?_;exact ⟨_,rfl,cB (by rw [w];rw [cD];simp only [dQ];exact ⟨fun k=>⟨hm.1,hm.2,Zq,m,n,b,k⟩,fun k=>k.2.2.2.2.2.2⟩),rfl⟩
def pmay_ok (hp:CellsAt q pp 0 (pgC g))(hK:Kn q fun M=>g.At M)(hB:CpOk B g):CR G 162 [pt pp] (q) (.bool (Bg g.er)):=by
 refine aE ntmps162 fun F cs=> ?_;have b0:CellsAt q pp 0 [.slice g.vars.a g.vars.l.length g.vars.c,.slice g.arrs.a g.arrs.l.length g.arrs.c,I64 g.mu,I64 g.co,.slice g.chs.a g.chs.l.length g.chs.c,.slice g.ths.a g.ths.l.length g.ths.c,I64 g.main,I64 g.stm]:=fun k v hk=>hp k v (by revert hk;match k with|0|1|2|3|4|5|6|7=>exact fun h=>h|(k+8)=>intro h;cases h)
 obtain ⟨R,y⟩:=lV (Bg g.er);rw [<-y];unfold Bg at y;rw [g_th,show g.er.main=g.main from rfl] at y;obtain ⟨j,m,r,p,_⟩:=hB.l;have hT:=eB (hK.imp fun M h=>h.ths);have c0:=Zx Qb g.ths.l;refine Zz ?_;refine Yf 1 (Oq (hp.le leA) (hK.le leA) ⟨j,m,r,p⟩) ?_;refine Zz ?_;apply XD.sb [9,2,0];apply Bl 0 [0,1,2,3,4,5,6,7,8,9,10,11,12,13,14,15] 21 9 rfl
 . intro f w;have k0:=sp f;refine Zz ?_;refine Yf 13 (Nr) ?_ (hL:=(hlF b0));apply dd [14,15];exact Ud w ⟨orF f,Yt⟩
 . intro f w;have k0:=sp f;apply dd [4,5,6,7,8,9,10,11,12,13,14,15];exact Ud w ⟨orT f,Yt⟩
 intro L_;refine Zp ?_ ?_<;>intro h1
 . refine Zz ?_;refine Zl (q) func162 (Qq results162 rfl) ⟨_,rfl,cB (by rw [y];unfold inB;(first|(simp_all;done)|(rcases hz1:Zqf g.er<;>rcases bK (0<=g.main/\g.main<(g.ths.l.length:Int)) with z|z<;>simp_all<;>(intros;omega)))),rfl⟩
 obtain ⟨g0,u⟩:Zqf g.er=true/\inB g.main g.ths.l.length=true:=(by unfold inB;(first|(simp_all;done)|(rcases hz1:Zqf g.er<;>rcases bK (0<=g.main/\g.main<(g.ths.l.length:Int)) with z|z<;>simp_all<;>(intros;omega))));rw [g0,gU,u,gU] at y;refine Yb fun n1=> ?_
 refine Zs (bW (fun (s:Nat×Int×Int)=>s.1<=g.ths.l.length/\R=(Vk g.er.cn ((g.ths.l.drop s.1).map Th.er) s.2.1==some g.stm)/\0<=s.2.1/\s.2.1<=512) (fun s=> [(0,pt pp),(3,pt n1),(29,I64 g.ths.l.length),(30,I64 (s.1:Int))]) (fun s=>pC n1 [pt pp,I64 s.2.1,I64 s.2.2] 393::(q++F)) (fun s=>g.ths.l.length - s.1) (fun s d0 ih=> ?_) (0,0,0) ⟨aZ _,by rw [y,iD];rfl,Zw⟩);try dsimp only at d0 ih|-
 obtain ⟨m0,e,i0⟩:=d0;obtain ⟨i,n,lo⟩:=s;dsimp only at*;refine Zp ?_ ?_<;>intro h0
 . have o:i<g.ths.l.length:=Zq;obtain ⟨x,hx⟩:=lV g.ths.l[i];have a0:=hB.t x (hx ▸ aC o);rw [aP o,<-hx,bG] at e;simp only [Vk] at e;rw [show (Th.er x).loc=x.loc from rfl,show (Th.er x).body=Zk x.body from rfl] at e;refine Yq (hT.le leA) (by rw [c0];omega) fun ab ao e_=> ?_;have e0:=hT;have f0:=b0;rw [e_] at e0 f0;have n0:CellsAt q ab (ao+(i:Int).toNat*3) (thC x):=by rw [hx];exact eX e0 (aG _) Qb o rfl
   have j0:Kn q fun M=>BlkAt M x.a x.c x.body:=hK.imp fun M h=>h.bod x (hx ▸ aC o)
   refine Zz ?_;refine' Yi ?_;refine Zp ?_ ?_<;>intro h2
   . refine Zm (q) ?_;exact ⟨_,rfl,cB (by rw [e];rw [if_pos (by first|omega|(simp at h2;omega))];rfl),rfl⟩
   rw [if_neg (by first|omega|(simp at h2;omega))] at e;refine Zz ?_;apply Zv Zj (ask_all hB.b (Zn x.body) a0.1 (l:=x.body) (d:=1) (n:=n) (lo:=x.loc) (aS _) a0.2 Zw i0 (hp.le leA) (j0.le leA));rintro _ _ ⟨n2,rfl,u,rfl⟩;refine Zz ?_;rcases hR2:Z8 g.er.cn x.loc (Zk x.body) 1 n with _|m1
   . rw [hR2] at e;dsimp only at e;refine Zm (q) ?_;exact ⟨_,rfl,cB (by rw [e];rfl),rfl⟩
   rw [hR2] at e;dsimp only at e;refine Zz ?_;obtain rfl:=u _ hR2;have l0:=Qp Zq hR2;refine Zs (ih (i+1,n2,x.loc) ⟨Zy,e,Zy,Zy⟩ Zy)
 obtain rfl:i=g.ths.l.length:=Zq;rw [dU] at e;simp only [dF,Vk] at e;refine Zm (q) ?_;exact ⟨_,rfl,cB (by rw [e,cD];simp),rfl⟩
def yH (p:Nat)(s:Sy):HP:=ex fun σ:SyC=>stars (pure (Real σ s)::syL p σ)
def Zxi (h:Real σ s)(q:List HP):Le (syL p σ++q) (yH p s::q):=
 Vt σ ((Yu h _).trans (Zh (pure (Real σ s)::syL p σ) q))
def Jr {fn:FuncId}{vs:List Value}{R:Wx.Uc}(h: ∀ σ,Real σ s->CallF P G fn vs (syL p σ) R):CallF P G fn vs [yH p s] R:=by
 intro F w st cs;obtain ⟨σ,b⟩:=St.get_ex st;have a:=b.le (Zb (pure (Real σ s)::syL p σ) F);exact h σ a.get_pure F w (a.le (dS _ _)) cs
def Ky (h:Real σ s):Le (syL p σ) [yH p s]:=by have:=Zxi (p:=p) h [];rwa [cA] at this
structure PS where
 b:Nat
 o:Nat
 s:Stm
def PS.v (x:PS):Value:= .pointer (some ⟨x.b,x.o,none⟩)
def PS.At (M:Hp)(x:PS):Prop:=StAt M ⟨x.b,x.o,none⟩ x.s
def psL (b o:Nat)(l:List Stm):List PS:=(List.range l.length).map fun i=>⟨b,o+i*25,l.getD i zSm⟩
def Zy0 (b o:Nat)(l:List Stm):(psL b o l).length=l.length:=by simp [psL]
def psL_er (b o:Nat)(l:List Stm):(psL b o l).map (fun y=>y.s.er)=Zk l:=by
 apply List.ext_getElem
 . simp [psL,Wr]
 intro i a c
 simp [psL,Yl,by simpa [psL] using a]
def psL_at {b:Nat}{l:List Stm}(h:BlkAt M (some ⟨b,o,none⟩) c l): ∀ y∈psL b o l,y.At M:=by
 intro y a;obtain ⟨i,hi,rfl⟩:=cF.1 a;have hi:=List.mem_range.1 hi;obtain ⟨j,g,f,d⟩:=jH Z7 Zw h.1.2.2 hi
 cases f
 have e:l.getD i zSm=l[i]:=by simp [List.getD,hi]
 unfold PS.At;dsimp only;rw [e];exact ⟨d,Uk.1 h.2 _ (aC hi)⟩
structure TC where
 decl:Int
 st:Int
 la:Option Addr
 lc:Nat
 loc:List Int
 ta:Option Addr
 tc:Nat
 todo:List PS
 sa:Option Addr
 sc:Nat
 sp:List Int
def trC (x:TC):List Value:= [I64 x.decl,I64 x.st,.slice x.la x.loc.length x.lc,.slice x.ta x.todo.length x.tc,.slice x.sa x.sp.length x.sc]
def trC_len (x:TC):(trC x).length=5:=rfl
def TC.er (x:TC):PTr:=⟨x.decl,x.st,x.loc,(x.todo.map fun y=>y.s.er).reverse,x.sp⟩
def trL (x:TC):List HP:= [lsH I64 2 x.la x.lc x.loc,lsH PS.v 130 x.ta x.tc x.todo,lsH I64 3 x.sa x.sc x.sp]
def trH (x:TC):HP:=stars (trL x)
def TodoAt (M:Hp)(l:List TC):Prop:= ∀ t∈l,∀ y∈t.todo,y.At M
structure StC where
 ca:Option Addr
 cc:Nat
 cells:List Int
 sp:Nat
 sy:Sy
 ha:Option Addr
 hc:Nat
 ths:List TC
 out:POut
def staC (pp:Nat)(σ:StC):List Value:= [pt pp,.slice σ.ca σ.cells.length σ.cc,.pointer (some ⟨σ.sp,0,none⟩),.slice σ.ha σ.ths.length σ.hc,I64 σ.out.kind,I64 σ.out.trap,I64 σ.out.th,I64 σ.out.stmt]
def StC.er (σ:StC):SS:=⟨σ.cells,σ.sy,σ.ths.map TC.er,σ.out⟩
def staL (σ:StC):List HP:= [lsH I64 2 σ.ca σ.cc σ.cells,yH σ.sp σ.sy,rsH trC 5 332 σ.ha σ.hc σ.ths,stars (σ.ths.map trH)]
def stP (p pp:Nat)(σ:StC):HP:=pC p (staC pp σ) 329
def acC (x:Ac):List Value:= [I64 x.1,.bool x.2.1,I64 x.2.2]
def snC (x:Sn):List Value:= [I64 x.1,I64 x.2.1,I64 x.2.2]
structure EvC where
 e:PEv
 aa:Option Addr
 ac:Nat
 na:Option Addr
 nc:Nat
def evC (x:EvC):List Value:= [I64 x.e.th,I64 x.e.stmt,.bool x.e.woke,I64 x.e.trap,.slice x.aa x.e.acc.length x.ac,.bool x.e.told,I64 x.e.outv,I64 x.e.value,.slice x.na x.e.syn.length x.nc]
def evL (x:EvC):List HP:= [rsH acC 3 158 x.aa x.ac x.e.acc,rsH snC 3 161 x.na x.nc x.e.syn]
structure Prg (q:List HP) (pp:Nat) (g:FC):Prop where
 hp:CellsAt q pp 0 (pgC g)
 hK:Kn q fun M=>g.At M
def Prg.le (h:Prg q' pp g)(l:Le q q'):Prg q pp g:=⟨h.hp.le l,h.hK.le l⟩
def Fnd.pr (f:Fnd):PPr:=⟨f.vars,f.arrs,f.chs,f.mu,f.co,f.main,f.ths.map fun t=>(t.loc,t.body)⟩
def Fa (n:Nat)(a:Option Addr)(c ty:Nat)(q:List HP):Le (slH a c ty 1 n ((List.replicate n (Value.int .i64 0).cells.toList).flatten)::q) (lsH I64 ty a c (List.replicate n 0)::q):=by
 unfold lsH;rw [dA,show (List.replicate n (0:Int)).map I64=(List.replicate n (Value.int .i64 0).cells.toList).flatten by simp [Value.cells]];exact aG _
def O3:(prog.info? 130).map (fun i=>(i.zero,i.size,i.bytes))=some (some (.pointer none),1,8):=by kernel_rfl
section
variable {b:Nat}{k t v m:Int}{ta:Option Addr}{tc:Nat}{todo:List PS}{x0 x2 x4:Value}{l:List Stm}
def Zfj (hs:s.ok N)(hN:N<=1000000000):CF G 133 (Ak p m) [yH p s] (Ret fun v q'=>v= .tuple [I64 (N9 s m).1,I64 (N9 s m).2].toArray/\q'= [yH p s]):=
 Jr fun σ a=>eC (aG _) (Owner_ok a hs hN) (by rintro _ _ ⟨_,rfl,rfl,rfl⟩;exact ⟨_,⟨_,rfl,rfl,rfl⟩,(Ky a)⟩)
def Lock_Y (hs:s.ok N)(hN:N<=1000000000):CF G 295 (Am p m t) [yH p s] (Ret fun v q'=>v= .tuple [.bool (Jp s m t).2.1,I64 (Jp s m t).2.2].toArray/\q'= [yH p (Jp s m t).1]):=
 Jr fun σ b=>eC (aG _) (Lock_ok b hs hN) (by rintro _ _ ⟨_,rfl,a,c,rfl,rfl⟩;exact ⟨_,⟨_,rfl,rfl,rfl⟩,(Ky c)⟩)
def Unlock_Y (hs:s.ok N)(hN:N<=1000000000):CF G 296 (Am p m t) [yH p s] (Ret fun v q'=>v= I64 (Vv s m t).2/\q'= [yH p (Vv s m t).1]):=
 Jr fun σ b=>eC (aG _) (Zhg b hs hN) (by rintro _ _ ⟨_,rfl,a,c,rfl,rfl⟩;exact ⟨_,⟨_,rfl,rfl,rfl⟩,(Ky c)⟩)
def Wait_Y (hs:s.ok N)(hN:N<=1000000000):CF G 297 (Am p k t) [yH p s] (Ret fun v q'=>v= I64 (H4 s k t).2/\q'= [yH p (H4 s k t).1]):=
 Jr fun σ b=>eC (aG _) (Wait_ok b hs hN) (by rintro _ _ ⟨_,rfl,a,c,rfl,rfl⟩;exact ⟨_,⟨_,rfl,rfl,rfl⟩,(Ky c)⟩)
def Signal_Y (hs:s.ok N)(hN:N<=1000000000):CF G 263 (Ak p k) [yH p s] (Ret fun v q'=>v= .tuple [I64 (max (Yc s k).2.1 0),.bool (decide (0<=(Yc s k).2.1)),I64 (Yc s k).2.2].toArray/\q'= [yH p (Yc s k).1]):=
 Jr fun σ b=>eC (aG _) (Zhn b hs hN) (by rintro _ _ ⟨_,rfl,a,c,rfl,rfl⟩;exact ⟨_,⟨_,rfl,rfl,rfl⟩,(Ky c)⟩)
def All_Y (hs:s.ok N)(hN:N<=1000000000):CF G 265 (Ak p k) [yH p s] (Ret fun v q'=> ∃ a' c',v= .tuple [.slice a' (Hc s k).2.1.length c',I64 (Hc s k).2.2].toArray/\q'= [lsH I64 3 a' c' (Hc s k).2.1,yH p (Hc s k).1]):=
 Jr fun σ b=>eC (aG _) (All_ok b hs hN) (by rintro _ _ ⟨_,rfl,a,a',c',c,rfl,rfl⟩;exact ⟨_,⟨_,rfl,a',c',rfl,rfl⟩,(cC _ (Ky c))⟩)
def Send_Y (hs:s.ok N)(hN:N<=1000000000):CF G 266 (Am p k t) [yH p s] (Ret fun v q'=>v= .tuple [I64 (max (Qo s k t).2.1 0),.bool (decide (0<=(Qo s k t).2.1)),I64 (Qo s k t).2.2].toArray/\q'= [yH p (Qo s k t).1]):=
 Jr fun σ b=>eC (aG _) (Send_ok b hs hN) (by rintro _ _ ⟨_,rfl,a,c,rfl,rfl⟩;exact ⟨_,⟨_,rfl,rfl,rfl⟩,(Ky c)⟩)
def Recv_Y (hs:s.ok N)(hN:N<=1000000000):CF G 267 (Ak p k) [yH p s] (Ret fun v q'=>v= .tuple [I64 (Qz s k).2.1,I64 (max (Qz s k).2.2.1 0),.bool (decide (0<=(Qz s k).2.2.1)),I64 (Qz s k).2.2.2].toArray/\q'= [yH p (Qz s k).1]):=
 Jr fun σ b=>eC (aG _) (Recv_ok b hs hN) (by rintro _ _ ⟨_,rfl,a,c,rfl,rfl⟩;exact ⟨_,⟨_,rfl,rfl,rfl⟩,(Ky c)⟩)
def Zkl (hs:s.ok N)(hN:N<=1000000000):CF G 134 (Ak p k) [yH p s] (Ret fun v q'=> ∃ a' c',v= .tuple [.slice a' (K8 s k).1.length c',I64 (K8 s k).2].toArray/\q'= [lsH I64 2 a' c' (K8 s k).1,yH p s]):=
 Jr fun σ a=>eC (aG _) (Zhf a hs hN) (by rintro _ _ ⟨_,rfl,a',c',rfl,rfl⟩;exact ⟨_,⟨_,rfl,a',c',rfl,rfl⟩,(cC _ (Ky a))⟩)
def Room_Y (hs:s.ok N)(hN:N<=1000000000):CF G 135 (Ak p k) [yH p s] (Ret fun v q'=>v= .tuple [I64 (Lw s k).1,I64 (Lw s k).2].toArray/\q'= [yH p s]):=
 Jr fun σ a=>eC (aG _) (Room_ok a hs hN) (by rintro _ _ ⟨_,rfl,rfl,rfl⟩;exact ⟨_,⟨_,rfl,rfl,rfl⟩,(Ky a)⟩)
def Copy_Y (hs:s.ok N)(hN:N<=1000000000):CF G 122 [pt p] [yH p s] (Ret fun v q'=> ∃ p2,v= pt p2/\q'= [yH p2 s,yH p s]):=
 Jr fun σ a=>eC (aG _) (Copy_ok a hs hN) (by rintro _ _ ⟨_,rfl,p2,b,c,rfl,rfl⟩;exact ⟨_,⟨_,rfl,p2,rfl,rfl⟩,(Zxi c _).trans (cC _ (Ky a))⟩)
def New_Y {mm cc}{rooms}(hs:Sees q a (rooms.map I64))(ok:Bn mm cc rooms):CF G 53 [I64 mm,I64 cc,.slice a rooms.length c] q (Ret fun v q'=> ∃ p,v= .tuple [pt p,I64 0].toArray/\q'=yH p (Fr mm.toNat cc.toNat rooms)::q):=
 eC (aG _) (New_ok hs ok) (by rintro _ _ ⟨_,rfl,p,σ,h,rfl,rfl⟩;exact ⟨_,⟨_,rfl,p,rfl,rfl⟩,Zxi h _⟩)
def pnext_ok (hc:Cl q ⟨b,o+3,none⟩ (.slice ta todo.length tc))(hs:Sees q ta (todo.map PS.v))(hl:todo.length<=1000000):CR G 232 [.pointer (some ⟨b,o,none⟩)] (q) ((match todo.getLast? with|none=>Value.pointer none|some y=>y.v)):=by
 refine We ntmps232 fun F cs=> ?_;refine ld ?_ (hc:=(hc.le leA));refine Zp ?_ ?_<;>intro f
 . obtain rfl:todo= []:=aW Zq;exact Vz q
 have c:0<todo.length:=Zq;refine Yq (hs.le leA) Zi fun g e d=> ?_;subst d;have a:todo.getLast? =some todo[todo.length - 1]:=by rw [List.getLast?_eq_getElem?,aB Zq]
 refine Zz ?_;refine ldD 3 ?_ (hc:=(hc.le leA));refine Zz ?_;refine ldD 7 ?_ (hc:=(hc.le leA));refine Zz ?_;refine ldD 11 ?_ (hc:=((hs.le leA).at (n:=todo.length - 1) Zq Zq));refine Zm (q) ?_;exact ⟨_,rfl,by rw [a],rfl⟩
variable {ths:List TC}{hc gh:Nat}
def push_box (hK:Kn q fun M=>BlkAt M a c l)(hl:l.length<=1000000/\todo.length<=1000000):CF G 231 [pt b,.slice a l.length c] (pC b [x0,x1,x2,.slice ta todo.length tc,x4] 332::lsH PS.v 130 ta tc todo::q) (Ret fun v q'=> ∃ a' c' b' o',(0<l.length->a=some ⟨b',o',none⟩)/\q'=pC b [x0,x1,x2,.slice a' (todo++(psL b' o' l).reverse).length c',x4] 332::lsH PS.v 130 a' c' (todo++(psL b' o' l).reverse)::q):=by
 refine aE ntmps231 fun F cs=> ?_;have hS:=eP (hK.imp fun M h=>h.1.2.2);have j:=Zx Z7 l;rcases cQ l.length with n|n
 . obtain rfl:=aW n;refine Zs (bW (fun (r:Unit)=>True) (fun r=> [(0,pt b),(1,.slice a 0 c),(6,I64 0),(7,I64 0)]) (fun r=>pC b [x0,x1,x2,.slice ta todo.length tc,x4] 332::lsH PS.v 130 ta tc todo::(q++F)) (fun r=>0) (fun r e t=> ?_) () trivial);try dsimp only at e t|-
   obtain _:=e;refine Zz ?_;refine X.part 8 rfl ?_ ?_<;>intro y
   . exact aV (sp y) Zw
   refine Zm (pC b [x0,x1,x2,.slice ta todo.length tc,x4] 332::lsH PS.v 130 ta tc todo::q) ?_;exact ⟨_,rfl,ta,tc,0,0,(fun k=>aV k Zw),by simp [psL]⟩
 refine Yq (hS.le leA) (by rw [j];omega) fun p o e_=> ?_;subst e_;obtain ⟨d,g⟩:=lV (psL p o l).reverse;have w:d.length=l.length:=by rw [g,List.length_reverse,Zy0]
 refine Zz ?_;refine cH (bW (fun (s:Nat×Option Addr×Nat)=>s.1<=l.length) (fun s=> [(0,pt b),(1,.slice (some ⟨p,o,none⟩) l.length c),(6,I64 l.length),(7,I64 (s.1:Int))]) (fun s=>pC b [x0,x1,x2,.slice s.2.1 (todo++d.take s.1).length s.2.2,x4] 332::lsH PS.v 130 s.2.1 s.2.2 (todo++d.take s.1)::(q++F)) (fun s=>l.length - s.1) (fun s e t=> ?_) (0,ta,tc) (aZ _)) Z5 (by simp only [fY,cA];exact leA);try dsimp only at e t|-
 obtain hi:=e;obtain ⟨i,a1,c1⟩:=s;dsimp only at*;refine Zp ?_ ?_<;>intro y
 . have b0:i<l.length:=Zq;have x:i<d.length:=Zq;have hx:d[i]=⟨p,o+(l.length - 1 - i)*25,l.getD (l.length - 1 - i) zSm⟩:=by simp [g,psL]
   have a0:(todo++d.take i).length<=2000000:=by rw [aA,bB];omega
   refine Zz ?_;refine eT 12 rfl (Qd (u:=d[i]) PS.v underlying330 O3 (by rw [hx];exact aQ some (aQ (fun z=>Value.pointer (some ⟨p,o+z*25,none⟩)) Zq)) rfl) ?_;rintro _ _ ⟨g2,rfl,rfl⟩;refine ⟨hlA,?_⟩;refine eT 13 rfl (Wu (f:=PS.v) (l:=todo++d.take i) (m:= [d[i]]) underlying330 O3 rfl rfl rfl Zj ((bV _).le leA) (fun _=>rfl) (by simp only [cI];omega) (by simp only [cI];omega)) ?_;refine kk2 fun a2 c2=> ?_
   rw [show todo++d.take i++ [d[i]]=todo++d.take (i+1) by rw [aM x,aO]];refine Zs (t (i+1,a2,c2) Zy Zy)
 obtain rfl:i=l.length:=Zq;rw [<-w,bR,g];refine Zg ?_;exact ⟨_,⟨_,rfl,a1,c1,p,o,fun _=>rfl,rfl⟩,leA⟩
end
def Zqd:(prog.info? 2).map (fun i=>(i.zero,i.size,i.bytes))=some (some (I64 0),1,8):=by kernel_rfl
def Zgr:(prog.info? 332).map (fun i=>(i.zero,i.size,i.bytes))=some (some (.agg #[I64 0,I64 0,.slice none 0 0,.slice none 0 0,.slice none 0 0]),5,88):=by kernel_rfl
def getD_pr (h:n<g.ths.l.length):g.er.pr.ths.getD n (0, [])=(g.ths.l[n].loc,Zk g.ths.l[n].body):=by
 have a:n<g.er.pr.ths.length:=by simp [FC.er,Fnd.pr];exact h
 rw [aH,aB a];simp [FC.er,Fnd.pr,Th.er]
abbrev AG (v0:Int)(v1)(v2)(v3)(v4):=(⟨(v0:Int),4,some ⟨v1,0,none⟩,v2,List.replicate v2 0,v3,v4, [],none,0, []⟩:TC)
def begin_ok (hP:Prg q pp g)(hn:n<g.ths.l.length)(hl:0<=g.ths.l[n].loc/\g.ths.l[n].loc<=32)(hb:g.ths.l[n].body.length<=1000000):CF G 164 [pt pp,I64 n] (q) (Ret fun v q'=> ∃ T:TC,T.er=Zq6 g.er.pr n/\v= .agg (trC T).toArray/\(Kn q fun M=> ∀ y∈T.todo,y.At M)/\q'=trH T::q):=by
 refine aE ntmps164 fun F cs=> ?_;have z:CellsAt q pp 0 [.slice g.vars.a g.vars.l.length g.vars.c,.slice g.arrs.a g.arrs.l.length g.arrs.c,I64 g.mu,I64 g.co,.slice g.chs.a g.chs.l.length g.chs.c,.slice g.ths.a g.ths.l.length g.ths.c,I64 g.main,I64 g.stm]:=fun k v hk=>hP.1 k v (by revert hk;match k with|0|1|2|3|4|5|6|7=>exact fun h=>h|(k+8)=>intro h;cases h)
 have hT:=eB (hP.2.imp fun M h=>h.ths);obtain ⟨x,u⟩:=lV g.ths.l[n];rw [<-u] at hl hb;have j:=getD_pr hn;rw [<-u] at j;refine Yq (hT.le leA) (by rw [Zx Qb g.ths.l];omega) fun ab ao e_=> ?_;rw [e_] at hT z;have c0:CellsAt q ab (ao+(n:Int).toNat*3) (thC x):=by rw [u];exact eX hT (aG _) Qb hn rfl
 have r:Kn q fun M=>BlkAt M x.a x.c x.body:=hP.2.imp fun M h=>h.bod x (u ▸ aC hn)
 obtain ⟨L,hL⟩:=aU hl.1;refine Zo zeroValue332 fun n1=> ?_
 refine Zz ?_;apply aX 14 (Ad L) rfl (by rw [hL]);apply bU (Ef.make (n:=L) rfl rfl underlying22 Zqd rfl rfl Zq Zq);rintro _ _ ⟨e,rfl,rfl⟩;apply eN (q':=lsH I64 2 (some ⟨e,0,none⟩) L (List.replicate L 0)::_) (aK Zj (Fa _ _ _ _ _));refine Zo zeroValue332 fun n2=> ?_
 refine Zz ?_;apply eN (Yy PS.v 130 _);refine Zv (bC Zj Zj) (push_box (b:=n2) (todo:= []) (l:=x.body) (a:=x.a) (c:=x.c) (r.le leA) ⟨hb,Zw⟩) ?_;rintro _ _ ⟨i,f,b1,o1,a0,rfl⟩;refine Zz ?_;obtain ⟨TD,d⟩:=lV (psL b1 o1 x.body).reverse;rw [bL,<-d];have b0:TD.length=x.body.length:=by rw [d,List.length_reverse,Zy0]
 apply bD (pnext_ok (todo:=TD) (b:=n2) (o:=0) clA ((bV _).le leA) Zq)
 have hAt:Kn q fun M=> ∀ y∈TD,y.At M:=by
  rcases cQ x.body.length with s|s
  . obtain rfl:TD= []:=aW Zq;exact fun _ _ _ y t=>by cases t
  refine r.imp fun M h y t=> ?_
  rw [a0 s] at h;rw [d] at t;exact psL_at h y (List.mem_reverse.1 t)
 rcases cQ x.body.length with s|s
 . obtain rfl:TD= []:=aW Zq;apply aX 26 (.pointer none) rfl (rfl);refine Zz ?_;apply cE (Yy I64 3 _);refine cE (q':=trH (AG n e L i f)::_) (aK (b:=lsH I64 2 (some ⟨e,0,none⟩) L (List.replicate L 0)::lsH PS.v 130 i f []::lsH I64 3 none 0 []::_) (bC Zj (bC Zj Zj)) (Zh (trL (AG n e L i f)) _))<|Zg ?_;exact ⟨_,⟨_,rfl,(AG n e L i f),by simp only [TC.er,Zq6];rw [show ((n:Int)).toNat=n from rfl,j];simp [hL,aW s,Zk],by rw [trC];simp only [dA];rfl,hAt,rfl⟩,leA⟩
 have p:TD.getLast? =some (TD[TD.length - 1]'Zq):=by rw [List.getLast?_eq_getElem?,aB Zq]
 obtain ⟨yy,w⟩:=lV (TD[TD.length - 1]'Zq);rw [<-w] at p;refine aX 26 (.pointer (some ⟨yy.b,yy.o,none⟩)) rfl (by rw [p];rfl) ?_;refine Zz ?_;apply cE (Yy I64 3 _);refine cE (q':=trH (⟨(n:Int),1,some ⟨e,0,none⟩,L,List.replicate L 0,i,f,TD,none,0, []⟩:TC)::_) (aK (b:=lsH I64 2 (some ⟨e,0,none⟩) L (List.replicate L 0)::lsH PS.v 130 i f TD::lsH I64 3 none 0 []::_) (bC Zj (bC Zj Zj)) (Zh (trL (⟨(n:Int),1,some ⟨e,0,none⟩,L,List.replicate L 0,i,f,TD,none,0, []⟩:TC)) _))<|Zg ?_;exact ⟨_,⟨_,rfl,(⟨(n:Int),1,some ⟨e,0,none⟩,L,List.replicate L 0,i,f,TD,none,0, []⟩:TC),by simp only [TC.er,Zq6];rw [show ((n:Int)).toNat=n from rfl,j];rw [if_neg (by intro k_;have:=aQ List.length k_;rw [Wr] at this;exact aV this (by simp only [aT];omega)),d];simp [hL,<-psL_er b1 o1 x.body,List.map_reverse],by rw [trC];simp only [dA];rfl,hAt,rfl⟩,leA⟩
mutual
/-- A statement whose parts and slots are there. -/
def PStm.good (c:Cn)(lo:Int):PStm->Prop
 | .mk k _ _ _ _ e ix body els _ slot other loc=>Ll c lo k e ix body.length els.length=true/\Ds c lo k slot other loc=true/\(body.length<=512/\els.length<=512)/\Ki c lo body/\Ki c lo els
def Ki (c:Cn)(lo:Int):List PStm->Prop
 | []=>True
 |s::r=>s.good c lo/\Ki c lo r
end
mutual
def Oy {c}{lo}: ∀ {s:PStm} {d n m},0<=n->n<=512->s.ask c lo d n=some m->s.good c lo/\n+1<=m/\m<=512
 | .mk ..,d,n,m,hz,hn,h=>by
  simp only [PStm.ask] at h;split at h
  . cases h
  rename_i g;split at h
  . rename_i a;rw [bA] at a;split at h
    . cases h
    rename_i k b;have f:=Kv Zq Zq b;have e:=Kv Zq Zq h;exact ⟨⟨a.1,a.2,⟨Zq,Zq⟩,f.1,e.1⟩,Zq,Zq⟩
  cases h
def Kv {c}{lo}: ∀ {l} {d n m},0<=n->n<=512->Z8 c lo l d n=some m->Ki c lo l/\n+l.length<=m/\m<=512
 | [],d,n,m,hz,hn,h=>by simp only [Z8] at h;cases h;exact ⟨trivial,Zf,hn⟩
 |s::r,d,n,m,hz,hn,h=>by
  simp only [Z8] at h;split at h
  . cases h
  rename_i k e;have b:=Oy hz hn e;have a:=Kv Zq b.2.2 h;exact ⟨⟨b.1,a.1⟩,by rw [aJ];omega,a.2.2⟩
end
structure MayP (F:Fnd):Prop where
 f:Bn F.mu F.co F.chs
 m:0<=F.main/\F.main<F.ths.length
 v: ∀ v∈F.vars,val v
 a: ∀ n∈F.arrs,1<=n/\n<=256
 s:Wy F.arrs<=256
 l:F.vars.length<=64/\F.arrs.length<=64/\F.chs.length<=64/\F.ths.length<=64
 t: ∀ t∈F.ths,(0<=t.loc/\t.loc<=32)/\t.body.length<=512/\Ki F.cn t.loc t.body
def Eh {c}: ∀ {l} {n m},0<=n->n<=512->Vk c l n=some m-> ∀ t∈l,(0<=t.loc/\t.loc<=32)/\t.body.length<=512/\Ki c t.loc t.body
 | [],n,m,_,_,_,t,a=>by cases a
 |x::r,n,m,h0,hn,h,t,a=>by
  simp only [Vk] at h;split at h
  . cases h
  rename_i d;split at h
  . cases h
  rename_i k b;have g:=Kv h0 hn b;rcases bS.1 a with rfl|a
  . exact ⟨Zq,Zq,g.1⟩
  exact Eh Zq g.2.2 h t a
def mayS_ok {F}(h:Bg F=true):MayP F:=by
 unfold Bg Zqf inB at h;simp only [bA,dQ,fH] at h;obtain ⟨⟨⟨i,g,j,f,e,d,c⟩,b⟩,a⟩:=h;exact ⟨⟨i,g,Zq,d⟩,b,f,e,c,Zq,Eh Zw Zw a⟩
def Lt (hA:Sees q g.arrs.a (g.arrs.l.map I64))(hv:g.vars.l.length<=64)(hal:g.arrs.l.length<=64)(ha: ∀ n∈g.arrs.l,0<=n/\n<=256):CR G 163 (Av g) (q) (I64 (g.vars.l.length+Wy g.arrs.l)):=by
 refine aE ntmps163 fun F cs=> ?_;refine Yb fun p=> ?_
 refine rn [5,0] ?_;apply aX 7 (.slice g.vars.a g.vars.l.length g.vars.c) rfl (rfl);refine rn [7,0] ?_;apply aX 10 (.slice g.arrs.a g.arrs.l.length g.arrs.c) rfl (rfl);refine Zs (bW (fun (s:Nat)=>s<=g.arrs.l.length) (fun s=> [(3,I64 (g.vars.l.length+Wy (g.arrs.l.take s))),(10,.slice g.arrs.a g.arrs.l.length g.arrs.c),(11,I64 g.arrs.l.length),(12,I64 s)]) (fun s=>(q++F)) (fun s=>g.arrs.l.length - s) (fun s f j=> ?_) 0 (aZ _));try dsimp only at f j|-
 obtain hi:=f;refine Zp ?_ ?_<;>intro t
 . have e:s<g.arrs.l.length:=Zq;refine Yq (hA.le leA) Zi fun v u m=> ?_;have d:=hA;rw [m] at d|-;refine rf [7,0] d ?_;have r:=ha _ (aC e);have h:Wy (g.arrs.l.take (s+1))=Wy (g.arrs.l.take s)+g.arrs.l[s]:=by rw [aM e,P8];simp [Wy]
   have b:=H9 (l:=g.arrs.l.take s) (k:=256) (fun y o=>by have:=ha y (fA o);omega) Zw;rw [bB] at b;have i:((min s g.arrs.l.length:Nat):Int)=s:=Zq;rw [i] at b;refine Ye ?_;rw [<-m,show (g.vars.l.length:Int)+Wy (g.arrs.l.take s)+g.arrs.l[s]=g.vars.l.length+Wy (g.arrs.l.take (s+1)) by rw [h];omega];refine Zs (j (s+1) Zq Zq)
 obtain rfl:s=g.arrs.l.length:=Zq;rw [bR];exact Vz q
def Zgw (hK:Kn q fun M=>g.At M)(hM:MayP g.er):CF G 163 [.agg (pgC g).toArray] q (Ret fun v q'=>v= I64 (g.vars.l.length+Wy g.arrs.l)/\q'=q):=
 Lt (by have c:=eB (hK.imp fun M h=>h.arrs);rwa [Ql] at c) hM.l.1 hM.l.2.1 fun n b=>by have:=hM.a n b;omega
def SeesZ.block {b ty:Nat}{l:List Value}(h:M b=some (.cells l.toArray ty (0,0))):SeesZ M (some ⟨b,0,none⟩) l:=fun i u a=>⟨b,0,l.toArray,ty,rfl,h,by rw [eE];simpa using a⟩
def PrgM (M:Hp)(pp:Nat)(g:FC):Prop:=SeesZ M (some ⟨pp,0,none⟩) (pgC g)/\g.At M
def PrgM.mono (e:Hle M M')(h:PrgM M pp g):PrgM M' pp g:=⟨h.1.mono e,h.2.mono e⟩
def prM (pp:Nat)(g:FC):HP:=lst (fun M=>PrgM M pp g) fun e h=>PrgM.mono e h
def Kn.prM {pp}{g}{q}:Kn (prM pp g::q) fun M=>PrgM M pp g:=fJ
def Prg.of (h:Kn q fun M=>PrgM M pp g):Prg q pp g:=⟨fun k v a=>by have:=(eP (h.imp fun M h=>h.1)).cl a;exact this,h.imp fun M h=>h.2⟩
def PS.At.mono {x:PS}(e:Hle M M')(h:x.At M):x.At M':=⟨h.1.mono e,h.2.mono e⟩
def TodoAt.mono {l}(e:Hle M M')(h:TodoAt M l):TodoAt M' l:=fun t ht y hy=>(h t ht y hy).mono e
def tdM (l:List TC):HP:=lst (fun M=>TodoAt M l) fun e h=>TodoAt.mono e h
def Zzt:POut:=⟨0,0,0,0⟩
def Zk0 (p:PPr):SS:=⟨p.vars++List.replicate (Wy p.arrs).toNat 0,Fr p.mu.toNat p.co.toNat p.room, [Zq6 p p.main],Zzt⟩
def pnew_ok (hK:Kn q fun M=>g.At M)(hB:CpOk B g):CF G 92 (Av g) (q) (Ret fun v q'=>(Bg g.er=true/\ ∃ (p pp:Nat) (g':FC) (σ:StC),g'.er=g.er/\σ.er=Zk0 g.er.pr/\v= .tuple [pt p,I64 0].toArray/\q'=stP p pp σ::(staL σ++(prM pp g'::tdM σ.ths::q)))\/(Bg g.er=false/\v= .tuple [.pointer none,I64 2].toArray/\q'=q)):=by
 refine aE ntmps92 fun F cs=> ?_;refine Yb fun n1=> ?_
 refine Zz ?_;apply bD (pmay_ok (B:=B) (dK V2) (hK.le leA) hB);refine Zp ?_ ?_<;>intro h1
 . have hm:Bg g.er=false:=(by simpa using h1);refine Zm (q) ?_;exact ⟨_,rfl,.inr ⟨hm,rfl,rfl⟩⟩
 have hm:Bg g.er=true:=(by simpa using h1);have f0:=mayS_ok hm;refine Zz ?_;apply Zv (aG _) (Zjk (B:=B) (hK.le leA) hB);rintro _ _ ⟨d,he,rfl,rfl⟩;have j:MayP d.er:=he ▸ f0;have b0:d.er.pr=g.er.pr:=by rw [he]
 have c0:0<=d.main/\d.main<d.ths.l.length:=⟨j.m.1,by have:=j.m.2;rw [g_th] at this;exact this⟩;obtain ⟨mn,w⟩:=aU c0.1;have x:mn<d.ths.l.length:=Zq;have r:=j.t _ (cW (f:=Th.er) (aC x));have a0:=H9 (l:=d.arrs.l) (k:=256) (fun y z=>by have:=j.a y z;omega) Zw;have g0:d.vars.l.length<=64:=j.l.1;have h0:Wy d.arrs.l<=256:=j.s;obtain ⟨N,hN⟩:=aU a0.1;refine Zo zeroValue29 fun o=> ?_
 refine Zz ?_;apply aX 18 (.slice d.chs.a d.chs.l.length d.chs.c) rfl (rfl);refine Zv (aG _) (New_Y (a:=d.chs.a) (c:=d.chs.c) (by rw [<-Ql];exact eB (cO (lB (Kn.fc (q:= []) (f:=d)) fun M h=>h.chs) leA)) j.f) ?_;rintro _ _ ⟨py,rfl,rfl⟩;refine Zz ?_;apply bD (Zgw (g:=d) (cO (Kn.fc (q:= []) (f:=d)) leA) j);refine aX 26 (I64 ((d.vars.l.length+N:Nat):Int)) rfl (by rw [hN];rfl) ?_;apply bU (Ef.make (n:=d.vars.l.length+N) rfl rfl underlying22 Zqd rfl rfl Zq Zq);rintro _ _ ⟨gl,rfl,rfl⟩;apply eN (q':=lsH I64 2 (some ⟨gl,0,none⟩) (d.vars.l.length+N) (List.replicate (d.vars.l.length+N) 0)::_) (aK Zj (Fa _ _ _ _ _));refine Yb fun n3=> ?_
 refine Zz ?_;apply dW 35 (.slice d.vars.a d.vars.l.length d.vars.c) rfl (rfl);apply dW 33 (.slice (some ⟨gl,0,none⟩) (List.replicate (d.vars.l.length+N) (0:Int)).length (d.vars.l.length+N)) rfl (by rw [dA]);refine eT 6 rfl (Zvn (f:=I64) (l:=List.replicate (d.vars.l.length+N) 0) (m:=d.vars.l) underlying22 Zqd rfl rfl Zj (by rw [<-Ql];exact eB (cO (lB (Kn.fc (q:= []) (f:=d)) fun M h=>h.vars) leA)) (fun _=>rfl) (by rw [dA];omega)) ?_;refine kk0 ?_;rw [show d.vars.l++(List.replicate (d.vars.l.length+N) (0:Int)).drop d.vars.l.length=d.vars.l++List.replicate N 0 by rw [List.drop_replicate];congr 2;omega];refine Zz ?_;apply aX 39 (Ad mn) rfl (by rw [w]);refine eN (q':=pC o (pgC d) 29::_) Zj (XO.freeze ?_);refine eN (q':=prM o d::_) (dP (φ:=fun M=>PrgM M o d) (mn:=fun e h=>PrgM.mono e h) (((Kn.im).and (cO (Kn.fc (q:= []) (f:=d)) leA)).imp fun M h=>⟨SeesZ.block h.1,h.2⟩)) ?_;refine Wn (begin_ok (q:= [prM o d]) (pp:=o) (g:=d) (n:=mn) (Prg.of Kn.prM) x r.1 (by have:=r.2.1;rw [show (Th.er d.ths.l[mn]).body=Zk d.ths.l[mn].body from rfl,Wr] at this;omega)) ?_;rintro _ _ ⟨T1,e0,rfl,d0,rfl⟩ _ e_;simp only [ca,na] at e_;subst e_;apply bU (Yw (u:=T1) trC underlying327 Zgr rfl rfl trC_len rfl);rintro _ _ ⟨gt,rfl,rfl⟩;refine Zz ?_;obtain ⟨σ,i⟩: ∃ σ:StC,σ=(⟨some ⟨gl,0,none⟩,d.vars.l.length+N,d.vars.l++List.replicate N 0,py,Fr d.mu.toNat d.co.toNat d.chs.l,some ⟨gt,0,none⟩,1, [T1],Zzt⟩:StC):=⟨_,rfl⟩;refine cE (q':=tdM σ.ths::_) (dP (φ:=fun M=>TodoAt M σ.ths) (mn:=fun e h=>TodoAt.mono e h) ((cO d0 leA).imp fun M h t ht y z=>by rw [i] at ht;rw [bE.1 ht] at z;exact h y z)) ?_;refine cE (q':=stars (σ.ths.map trH)::_) (aK (b:=trH T1::_) Zj (by rw [i];exact aK (cC _ (Y9 _)) (Q5 _ _ _))) ?_;refine Zg ?_;exact ⟨_,⟨_,rfl,.inl ⟨hm,n3,o,d,σ,he,by rw [i];simp only [StC.er,bG,dF,e0];rw [<-w,<-b0];simp [Zk0,FC.er,Fnd.pr,hN],rfl,rfl⟩⟩,(by rw [i];simp only [stP,staC,staL,aA,dA,bN,bL,aO];exact leA)⟩
def GC (q:List HP):Prop:= ∃ L:List (ByteArray×Int),L.map (·.2)=Cw/\Sees q (some ⟨1,0,none⟩) (L.flatMap cdC)
def GC.le (h:GC q')(k:Le q q'):GC q:=let ⟨L,h1,h2⟩:=h;⟨L,h1,h2.le k⟩
section
variable {d:Nat}{n:Int}
def Mr (h1:Cl q ⟨p1,0,none⟩ (I64 lo))(h2:Cl q ⟨p2,0,none⟩ (I64 hi)):CR G 237 [I64 n,pt p1,pt p2] (q) (.bool (decide (Ym n lo hi))):=by
 refine We ntmps237 fun F cs=> ?_;refine ld ?_ (hc:=(h1.le leA));refine Zz ?_;refine' Q1 ?_ ?_
 rotate_left
 . intro h1 a;refine Zz ?_;refine ld ?_ (hc:=(h2.le leA));exact Vi a
 refine Zm (q) ?_;exact ⟨_,rfl,cB (by rw [cD,decide_eq_true_iff];unfold Ym;simp),rfl⟩
def Mm:CF G 178 [I64 lo,I64 hi] ([]) (Ret fun v q'=> ∃ p1 p2,v= .func (.func 237) [].toArray [pt p1,pt p2].toArray/\q'= [pC p1 [I64 lo] 3,pC p2 [I64 hi] 3]):=by
 refine aE ntmps178 fun F cs=> ?_;refine Yb fun b=> ?_
 refine Yb fun a=> ?_
 refine Zg ?_;exact ⟨_,⟨_,rfl,b,a,rfl,rfl⟩,leA⟩
def Er (h1:Cl q ⟨p1,0,none⟩ (I64 lo))(h2:Cl q ⟨p2,0,none⟩ (I64 hi)):Rdr prog G (.func (.func 237) [].toArray [pt p1,pt p2].toArray) I64 (fun x=> .bool (decide (Ym x lo hi))) q l:=
 fun q1 h x _=>kF call237 (Mr (h1.le h) (h2.le h))
def R5:CR G 180 [I64 n] (q) (.bool (decide (Ym n (-2147483648) 2147483647))):=by
 refine We ntmps180 fun F cs=> ?_;refine' Vo ?_;refine Zm (q) ?_;exact ⟨_,rfl,cB (by rw [cD,decide_eq_true_iff];unfold Ym;simp),rfl⟩
def Xe :Rdr prog G (.func (.func 180) #[] #[]) I64 (fun x=> .bool (decide (Ym x (-2147483648) 2147483647))) q l:=
 fun q1 h x _=>CallV.c10 call180 R5
abbrev Af (v0:List Int)(v1:Int->Bool)(v2:List HP):=(Ret fun v q'=> ∃ k:Int,v= I64 k/\decide (0<=k)=v0.any v1/\q'=v2)
def Sr (hs:Sees q a (l.map I64))(hn:l.length<=9223372036854775807)(hp:Rdr prog G fv I64 (fun x=> .bool (u x)) q l):CF G 285 [.slice a l.length c,fv] (q) (Af l u q):=by
 refine aE ntmps285 fun F cs=> ?_;have e:(l.map I64).length=l.length:=Zf;refine Zs (bW (fun (s:Nat×Option Addr)=>s.1<=l.length/\s.2=a/\(l.take s.1).any u=false) (fun s=> [(0,.slice s.2 l.length c),(1,fv),(7,I64 l.length),(8,I64 (s.1:Int))]) (fun s=>q++F) (fun s=>l.length - s.1) (fun s f g=> ?_) (0,a) ⟨Zy,rfl,rfl⟩);try dsimp only at f g|-
 obtain ⟨j,rfl,b⟩:=f;obtain ⟨s,a⟩:=s;dsimp only at*;refine Zp ?_ ?_<;>intro n
 . have d:s<l.length:=Zq;refine Yq hs (by rw [e];omega) fun m i k=> ?_;subst k;refine Zz ?_;apply Rg (hp _ leA _ (aC d));refine Zp ?_ ?_<;>intro h
   . refine Zm (q) ?_;exact ⟨_,rfl,_,rfl,by rw [Ik d h];exact dB Zq,rfl⟩
   refine Zs (g (s+1,some ⟨m,i,none⟩) ⟨Zy,rfl,by dsimp only;rw [Br d,b,h];rfl⟩ Zy)
 refine Zz ?_;rw [bX (show l.length<=s by omega)] at b;refine Zm (q) ?_;exact ⟨_,rfl,_,rfl,by rw [b];rfl,rfl⟩
def Ov (hs:Sees q a (l.map I64))(hn:l.length<=9223372036854775807)(hp:Rdr prog G fv I64 (fun x=> .bool (u x)) q l):CR G 238 [.slice a l.length c,fv] (q) (.bool (l.any u)):=by
 refine We ntmps238 fun F cs=> ?_;apply Zv (aG _) (Sr (hs.le leA) hn (hp.le leA));rintro _ _ ⟨k,rfl,b,rfl⟩;refine Zm (q) ?_;exact ⟨_,rfl,aQ Value.bool b,rfl⟩
def Zq9 {x:Int}(hx:x∈l)(h1:Cl q ⟨p,0,none⟩ fv)(hp:Rdr prog G fv I64 (fun x=> .bool (u x)) q l):CR G 239 [I64 x,pt p] (q) (.bool (!u x)):=by
 refine We ntmps239 fun F cs=> ?_;refine ld ?_ (hc:=(h1.le leA));refine Zz ?_;apply Rg (hp _ leA _ hx);exact Vz q
def Zkm (hs:Sees q a (l.map I64))(hn:l.length<=9223372036854775807)(hp:Rdr prog G fv I64 (fun x=> .bool (u x)) q l)(ho:fv.cells= #[fv]):CR G 179 [.slice a l.length c,I64 hi,fv] (q) (.bool (decide ((l.length:Int)<=hi/\ ∀ x∈l,u x=true))):=by
 refine aE ntmps179 fun F cs=> ?_;refine Yb fun g=> ?_
 rw [ho];refine Zz ?_;refine' Q1 ?_ ?_
 rotate_left
 . intro b e;refine Zz ?_;apply bD (Ov (u:=fun x=> !u x) (hs.le leA) hn (fun f b x d=>gA call239 (Zq9 d ((fC (l:= [fv]) V2 rfl).le b) (hp.le (b.trans leA)))));exact Vi e
 refine Zm (q) ?_;exact ⟨_,rfl,cB (by rw [cD];simp),rfl⟩
def Zqt (hs:Sees q a (l.map I64))(hn:l.length<=9223372036854775807)(hp:Rdr prog G fv I64 (fun x=> .bool (u x)) q l):CF G 204 [.slice a l.length c,fv] (q) (Af l u q):=by
 refine aE ntmps204 fun F cs=> ?_;have e:(l.map I64).length=l.length:=Zf;refine Zs (bW (fun (s:Nat×Option Addr)=>s.1<=l.length/\s.2=a/\(l.take s.1).any u=false) (fun s=> [(0,.slice s.2 l.length c),(1,fv),(7,I64 l.length),(8,I64 (s.1:Int))]) (fun s=>q++F) (fun s=>l.length - s.1) (fun s f g=> ?_) (0,a) ⟨Zy,rfl,rfl⟩);try dsimp only at f g|-
 obtain ⟨j,rfl,b⟩:=f;obtain ⟨s,a⟩:=s;dsimp only at*;refine Zp ?_ ?_<;>intro n
 . have d:s<l.length:=Zq;refine Yq hs (by rw [e];omega) fun m i k=> ?_;subst k;refine Zz ?_;apply Rg (hp _ leA _ (aC d));refine Zp ?_ ?_<;>intro h
   . refine Zm (q) ?_;exact ⟨_,rfl,_,rfl,by rw [Ik d h];exact dB Zq,rfl⟩
   refine Zs (g (s+1,some ⟨m,i,none⟩) ⟨Zy,rfl,by dsimp only;rw [Br d,b,h];rfl⟩ Zy)
 refine Zz ?_;rw [bX (show l.length<=s by omega)] at b;refine Zm (q) ?_;exact ⟨_,rfl,_,rfl,by rw [b];rfl,rfl⟩
def Zkw (hs:Sees q a (l.map I64))(hn:l.length<=9223372036854775807)(hp:Rdr prog G fv I64 (fun x=> .bool (u x)) q l):CR G 136 [.slice a l.length c,fv] (q) (.bool (l.any u)):=by
 refine We ntmps136 fun F cs=> ?_;apply Zv (aG _) (Zqt (hs.le leA) hn (hp.le leA));rintro _ _ ⟨k,rfl,b,rfl⟩;refine Zm (q) ?_;exact ⟨_,rfl,aQ Value.bool b,rfl⟩
def Zxb {x:Int}(hx:x∈l)(h1:Cl q ⟨p,0,none⟩ fv)(hp:Rdr prog G fv I64 (fun x=> .bool (u x)) q l):CR G 240 [I64 x,pt p] (q) (.bool (!u x)):=by
 refine We ntmps240 fun F cs=> ?_;refine ld ?_ (hc:=(h1.le leA));refine Zz ?_;apply Rg (hp _ leA _ hx);exact Vz q
def Cz (hs:Sees q a (l.map I64))(hn:l.length<=9223372036854775807)(hp:Rdr prog G fv I64 (fun x=> .bool (u x)) q l)(ho:fv.cells= #[fv]):CR G 181 [.slice a l.length c,I64 hi,fv] (q) (.bool (decide ((l.length:Int)<=hi/\ ∀ x∈l,u x=true))):=by
 refine aE ntmps181 fun F cs=> ?_;refine Yb fun g=> ?_
 rw [ho];refine Zz ?_;refine' Q1 ?_ ?_
 rotate_left
 . intro b e;refine Zz ?_;apply bD (Zkw (u:=fun x=> !u x) (hs.le leA) hn (fun f b x d=>gA call240 (Zxb d ((fC (l:= [fv]) V2 rfl).le b) (hp.le (b.trans leA)))));exact Vi e
 refine Zm (q) ?_;exact ⟨_,rfl,cB (by rw [cD];simp),rfl⟩
def Oj {l:List Cod}{u:Cod->Bool}(hs:Sees q a (l.flatMap Vs))(hn:l.length<=9223372036854775807)(hp:Rdr prog G fv (fun x=> .agg (Vs x).toArray) (fun x=> .bool (u x)) q l):CF G 286 [.slice a l.length c,fv] (q) (Ret fun v q'=> ∃ k:Int,v= I64 k/\decide (0<=k)=l.any u/\q'=q):=by
 refine aE ntmps286 fun F cs=> ?_;have e:=Zx (f:=Vs) (sz:=4) (fun _=>rfl) l;refine Zs (bW (fun (s:Nat×Option Addr)=>s.1<=l.length/\s.2=a/\(l.take s.1).any u=false) (fun s=> [(0,.slice s.2 l.length c),(1,fv),(7,I64 l.length),(8,I64 (s.1:Int))]) (fun s=>q++F) (fun s=>l.length - s.1) (fun s g h=> ?_) (0,a) ⟨Zy,rfl,rfl⟩);try dsimp only at g h|-
 obtain ⟨m,rfl,d⟩:=g;obtain ⟨s,a⟩:=s;dsimp only at*;refine Zp ?_ ?_<;>intro r
 . have b:s<l.length:=Zq;refine Yq hs (by rw [e];omega) fun p j o=> ?_;subst o;refine Zz ?_;apply Jb (n:=s) isAgg224 sizeOf224 hs b;apply Rg (hp _ leA _ (aC b));refine Zp ?_ ?_<;>intro i
   . refine Zm (q) ?_;exact ⟨_,rfl,_,rfl,by rw [Ik b i];exact dB Zq,rfl⟩
   refine Zs (h (s+1,some ⟨p,j,none⟩) ⟨Zy,rfl,by dsimp only;rw [Br b,d,i];rfl⟩ Zy)
 refine Zz ?_;rw [bX (show l.length<=s by omega)] at d;refine Zm (q) ?_;exact ⟨_,rfl,_,rfl,by rw [d];rfl,rfl⟩
def Zq0 {l:List Cod}{u:Cod->Bool}(hs:Sees q a (l.flatMap Vs))(hn:l.length<=9223372036854775807)(hp:Rdr prog G fv (fun x=> .agg (Vs x).toArray) (fun x=> .bool (u x)) q l):CR G 241 [.slice a l.length c,fv] (q) (.bool (l.any u)):=by
 refine We ntmps241 fun F cs=> ?_;apply Zv (aG _) (Oj (hs.le leA) hn (hp.le leA));rintro _ _ ⟨k,rfl,b,rfl⟩;refine Zm (q) ?_;exact ⟨_,rfl,aQ Value.bool b,rfl⟩
def Zkp {l:List Cod}{x:Cod}{u:Cod->Bool}(hx:x∈l)(h1:Cl q ⟨p,0,none⟩ fv)(hp:Rdr prog G fv (fun x=> .agg (Vs x).toArray) (fun x=> .bool (u x)) q l):CR G 242 [.agg (Vs x).toArray,pt p] (q) (.bool (!u x)):=by
 refine aE ntmps242 fun F cs=> ?_;refine Yb fun a=> ?_
 refine Zz ?_;refine ld ?_ (hc:=(h1.le leA));refine Zz ?_;apply Rg (hp _ leA _ hx);exact Vz q
def Zxy {l:List Cod}{u:Cod->Bool}(hs:Sees q a (l.flatMap Vs))(hn:l.length<=9223372036854775807)(hp:Rdr prog G fv (fun x=> .agg (Vs x).toArray) (fun x=> .bool (u x)) q l)(ho:fv.cells= #[fv]):CR G 182 [.slice a l.length c,I64 hi,fv] (q) (.bool (decide ((l.length:Int)<=hi/\ ∀ x∈l,u x=true))):=by
 refine aE ntmps182 fun F cs=> ?_;refine Yb fun g=> ?_
 rw [ho];refine Zz ?_;refine' Q1 ?_ ?_
 rotate_left
 . intro b e;refine Zz ?_;apply bD (Zq0 (u:=fun x=> !u x) (hs.le leA) hn (fun f b x d=>gA call242 (Zkp d ((fC (l:= [fv]) V2 rfl).le b) (hp.le (b.trans leA)))));exact Vi e
 refine Zm (q) ?_;exact ⟨_,rfl,cB (by rw [cD];simp),rfl⟩
def Zqr {l:List Ins}{u:Ins->Bool}(hs:Sees q a (l.flatMap Y7))(hn:l.length<=9223372036854775807)(hp:Rdr prog G fv (fun x=> .agg (Y7 x).toArray) (fun x=> .bool (u x)) q l):CF G 313 [.slice a l.length c,fv] (q) (Ret fun v q'=> ∃ k:Int,v= I64 k/\decide (0<=k)=l.any u/\q'=q):=by
 refine aE ntmps313 fun F cs=> ?_;have e:=Zx (f:=Y7) (sz:=4) (fun _=>rfl) l;refine Zs (bW (fun (s:Nat×Option Addr)=>s.1<=l.length/\s.2=a/\(l.take s.1).any u=false) (fun s=> [(0,.slice s.2 l.length c),(1,fv),(7,I64 l.length),(8,I64 (s.1:Int))]) (fun s=>q++F) (fun s=>l.length - s.1) (fun s g h=> ?_) (0,a) ⟨Zy,rfl,rfl⟩);try dsimp only at g h|-
 obtain ⟨m,rfl,d⟩:=g;obtain ⟨s,a⟩:=s;dsimp only at*;refine Zp ?_ ?_<;>intro r
 . have b:s<l.length:=Zq;refine Yq hs (by rw [e];omega) fun p j o=> ?_;subst o;refine Zz ?_;apply Jb (n:=s) isAgg222 sizeOf222 hs b;apply Rg (hp _ leA _ (aC b));refine Zp ?_ ?_<;>intro i
   . refine Zm (q) ?_;exact ⟨_,rfl,_,rfl,by rw [Ik b i];exact dB Zq,rfl⟩
   refine Zs (h (s+1,some ⟨p,j,none⟩) ⟨Zy,rfl,by dsimp only;rw [Br b,d,i];rfl⟩ Zy)
 refine Zz ?_;rw [bX (show l.length<=s by omega)] at d;refine Zm (q) ?_;exact ⟨_,rfl,_,rfl,by rw [d];rfl,rfl⟩
def Zkx {l:List Ins}{u:Ins->Bool}(hs:Sees q a (l.flatMap Y7))(hn:l.length<=9223372036854775807)(hp:Rdr prog G fv (fun x=> .agg (Y7 x).toArray) (fun x=> .bool (u x)) q l):CR G 287 [.slice a l.length c,fv] (q) (.bool (l.any u)):=by
 refine We ntmps287 fun F cs=> ?_;apply Zv (aG _) (Zqr (hs.le leA) hn (hp.le leA));rintro _ _ ⟨k,rfl,b,rfl⟩;refine Zm (q) ?_;exact ⟨_,rfl,aQ Value.bool b,rfl⟩
def Zxf {l:List Ins}{u:Ins->Bool}(hx:x∈l)(h1:Cl q ⟨p,0,none⟩ fv)(hp:Rdr prog G fv (fun x=> .agg (Y7 x).toArray) (fun x=> .bool (u x)) q l):CR G 288 [.agg (Y7 x).toArray,pt p] (q) (.bool (!u x)):=by
 refine aE ntmps288 fun F cs=> ?_;refine Yb fun a=> ?_
 refine Zz ?_;refine ld ?_ (hc:=(h1.le leA));refine Zz ?_;apply Rg (hp _ leA _ hx);exact Vz q
def Zhb {l:List Ins}{u:Ins->Bool}(hs:Sees q a (l.flatMap Y7))(hn:l.length<=9223372036854775807)(hp:Rdr prog G fv (fun x=> .agg (Y7 x).toArray) (fun x=> .bool (u x)) q l)(ho:fv.cells= #[fv]):CR G 243 [.slice a l.length c,I64 hi,fv] (q) (.bool (decide ((l.length:Int)<=hi/\ ∀ x∈l,u x=true))):=by
 refine aE ntmps243 fun F cs=> ?_;refine Yb fun g=> ?_
 rw [ho];refine Zz ?_;refine' Q1 ?_ ?_
 rotate_left
 . intro b e;refine Zz ?_;apply bD (Zkx (u:=fun x=> !u x) (hs.le leA) hn (fun f b x d=>gA call288 (Zxf d ((fC (l:= [fv]) V2 rfl).le b) (hp.le (b.trans leA)))));exact Vi e
 refine Zm (q) ?_;exact ⟨_,rfl,cB (by rw [cD];simp),rfl⟩
end
section
variable {d:Nat}{n:Int}{t:Cod}
def what_at {L:List (ByteArray×Int)}(h:L.map (·.2)=Cw)(hk:k<L.length)(h1:1<=k):k<35/\((L[k].2==1||L[k].2==2)=nmA k)/\((L[k].2==2)=decide ((k:Int)=26))/\((L[k].2==3)=decide ((k:Int)=1)):=by
 have b:L.length=35:=by rw [<-aI (f:=fun x:ByteArray×Int=>x.2),h];rfl
 have a:k<35:=Zq
 have e:L[k].2=Cw[k]'a:=by
  have:=fN (fun x:ByteArray×Int=>x.2) (l:=L) (i:=k) (h:=by simpa using hk);rw [<-this];simp only [h];rfl
 rw [e];exact ⟨a,whatL_at ⟨k,a⟩ h1⟩
def Lr :CR G 289 [I64 n,.bool bb] (q) (.bool (decide (if bb=true then 0<=n/\n<=65535 else n=0))):=by
 refine aE ntmps289 fun F cs=> ?_;refine Zp ?_ ?_<;>intro a
 . refine Zz ?_;refine' Vo ?_;refine Zm (q) ?_;exact ⟨_,rfl,cB (by rw [cD,decide_eq_true_iff];simp_all),rfl⟩
 refine Zm (q) ?_;exact ⟨_,rfl,cB (by rw [cD,decide_eq_true_iff];simp_all),rfl⟩
def Xw (g:GC q):CF G 246 [I64 cd] (q) (Ret fun v q'=>((¬ (1<=cd/\cd<=34)/\v= .tuple [.agg #[.string ⟨#[]⟩,.bool false,.bool false,.bool false],.bool false].toArray)\/((1<=cd/\cd<=34)/\ ∃ s,v= .tuple [.agg [.string s,.bool (nmA cd),.bool (decide (cd=26)),.bool (decide (cd=1))].toArray,.bool true].toArray))/\q'=q):=by
 refine aE ntmps246 fun F cs=> ?_;obtain ⟨L,c,d⟩:=g;have j:L.length=35:=by rw [<-aI (f:=fun x:ByteArray×Int=>x.2),c];rfl
 refine Zo zeroValue350 fun i=> ?_
 refine Zz ?_;refine' Yi ?_;refine Zp ?_ ?_<;>intro l
 . refine Zm (q) ?_;exact ⟨_,rfl,.inl ⟨Zq,rfl⟩,rfl⟩
 refine Zz ?_;have e:1<=cd/\cd<=34:=Zq;obtain ⟨_,w1,b,a⟩:=what_at c (k:=cd.toNat) Zq Zq;rw [show ((cd.toNat:Nat):Int)=cd by omega] at w1 b a;apply Va (Tj rfl rfl underlying453 sizeOf452 Zq Zq);apply Jb (n:=cd.toNat) isAgg452 sizeOf452 d Zq;refine Zo zeroValue452 fun h=> ?_
 refine Zz ?_;refine' Yi ?_;refine Zm (q) ?_;exact ⟨_,rfl,.inr ⟨e,(L[cd.toNat]'Zq).1,by rw [<-w1,<-b,<-a];rfl⟩,rfl⟩
def Zga (g:GC q):CR G 244 [.agg (Y7 x).toArray] (q) (.bool (decide (M3 x))):=by
 refine aE ntmps244 fun F cs=> ?_;obtain ⟨d,j,i,h⟩:=x;simp only [Y7];apply xo 2;refine Gx fun m=> ?_
 refine rn [5,0] ?_;apply Zv (aG _) (Xw (cd:=d) (g.le leA));rintro _ _ ⟨(⟨e,rfl⟩|⟨e,s,rfl⟩),rfl⟩
 iterate 2
  focus
   apply oo 3;refine iR zeroValue350 fun l=> ?_
   refine rn [0,8] ?_;apply fL [13,3,2,1];apply V9 7 20 13 rfl
   . intro a b;have c:=sp a;refine rn [1,0,1,0] ?_;apply bD (Lr);apply oo 2;exact Z2 b ⟨orF a,Yt⟩
   . intro a b;have c:=sp a;apply oo 7;exact Z2 b ⟨orT a,Yt⟩
   apply oo 1;apply fL [21,3,2,1];apply V9 7 28 21 rfl
   . intro a b;have c:=sp a;refine rn [1,0,1,0] ?_;apply bD (Lr);apply oo 2;exact Z2 b ⟨orF a,Yt⟩
   . intro a b;have c:=sp a;apply oo 7;exact Z2 b ⟨orT a,Yt⟩
   apply ox 1
  rotate_left
 . refine xp 28 ?_ ?_<;>intro c
   focus
    apply xx 5
   rotate_left
   focus
    refine rn [6,0,1] ?_;refine xp 30 ?_ ?_<;>intro f
    focus
     refine rn [4,0] ?_;apply bD (R5);apply ox 2
    rotate_left
    focus
     refine rn [5,0,3] ?_
   all_goals
    refine Zl (q) func244 (Qq results244 rfl) ⟨_,rfl,cB (by rw [cD];simp only [dQ,kD,M3];first|(simp_all;done)|(simp_all;omega)|(simp;intro k;exact aV k e)),rfl⟩
 refine xp 28 ?_ ?_<;>intro c
 focus
  apply xx 5
 rotate_left
 focus
  refine rn [6,0,1] ?_;refine xp 30 ?_ ?_<;>intro f
  focus
   refine rn [4,0] ?_;apply bD (R5);apply ox 2
  rotate_left
  focus
   refine rn [5,0,3] ?_
 all_goals
  refine Zl (q) func244 (Qq results244 rfl) ⟨_,rfl,cB (by rw [cD];simp only [dQ,kD,M3];first|(simp_all [Ym];done)|(by_cases e1:nmA d=true<;>by_cases e2:d=26<;>by_cases e3:d=1<;>simp_all [Ym]<;>omega)),rfl⟩
def Zwu {l:List Ins}(g:GC q):Rdr prog G (.func (.func 244) #[] #[]) (fun x=> .agg (Y7 x).toArray) (fun x=> .bool (decide (M3 x))) q l:=
 fun q1 h x _=>CallV.c10 call244 (Zga (g.le h))
end
section
variable {d:Nat}{n:Int}{t:Cod}
def X2 (g:GC q)(hq:CodQ q t):CR G 183 [.agg (Vs t).toArray] (q) (.bool (decide (Gj t))):=by
 refine aE ntmps183 fun F cs=> ?_;have hn:=hq.n;have r:=hq.ni;have p:=hq.nl;refine Yb fun s=> ?_
 refine rn [3,0,2,3,4] ?_;apply Q2 0 (Mm);refine kd2 fun m h=> ?_
 refine ⟨hlA,?_⟩;apply Ix 4 (kF call237 (Mr (p1:=m) (p2:=h) (lo:=1) (hi:=16) (fC (l:= [I64 1]) V2 rfl) (fC (l:= [I64 16]) V2 rfl)));refine Zz ?_;refine eY 8 rfl ?_ ?_<;>intro d
 focus
  replace d:=sp d;refine rn [8,9] ?_;apply Q2 6 (Mm);refine kd2 fun k f=> ?_
  refine ⟨hlA,?_⟩;apply Ix 9 (kF call237 (Mr (p1:=k) (p2:=f) (lo:=0) (hi:=32) (fC (l:= zz5) V2 rfl) (fC (l:= [I64 32]) V2 rfl)));refine Zz ?_;refine eY 14 rfl ?_ ?_<;>intro c
  focus
   replace c:=sp c;refine Zz ?_;refine eY 23 rfl ?_ ?_<;>intro b
   focus
    replace b:=sp b;refine Zz ?_;apply Yf 23 (Zhb (u:=fun x=>decide (M3 x)) (hq.i.le leA) hq.ni ((Zwu g).le leA) rfl);refine Zz ?_;refine eY 28 rfl ?_ ?_<;>intro a
    focus
     replace a:=sp a;refine Zz ?_;apply Q2 28 (Mm);refine kd2 fun j e=> ?_
     refine ⟨hlA,?_⟩;apply Yf 29 (Cz (u:=fun x=>decide (Ym x 0 65536)) (hq.l.le leA) hq.nl (Er (p1:=j) (p2:=e) (lo:=0) (hi:=65536) (fC (l:= zz5) V2 rfl) (fC (l:= [I64 65536]) V2 rfl)) rfl)
    rotate_left
    focus
     replace a:=sp a
   rotate_left 2
   focus
    replace b:=sp b
  rotate_left 3
  focus
   replace c:=sp c
 rotate_left 4
 focus
  replace d:=sp d
 all_goals
  refine Zm (q) ?_;exact ⟨_,rfl,cB (by first|(rw [cD];simp only [dQ,kD,Gj];simp_all;done)|((first|(symm;rw [dG];done)|(rw [dG])|(symm;rw [dG]));rintro ⟨z,y,w,o,v⟩;exact aV o Vp)),rfl⟩
def Zvu (g:GC q)(hq:MdlQ q m):CR G 99 [.agg (J0 m).toArray] (q) (I64 (Zqp m)):=by
 refine aE ntmps99 fun F cs=> ?_;have s:=hq.nv;have z:=hq.na;have y:=hq.nc;have w:=hq.nt;refine Yb fun n1=> ?_
 refine Zz ?_;apply Wn (Mm);refine kd2 fun e d=> ?_
 refine Zz ?_;apply Ix 3 (kF call237 (Mr (p1:=e) (p2:=d) (lo:=0) (hi:=64) (fC (l:= zz5) V2 rfl) (fC (l:= [I64 64]) V2 rfl)));refine Zz ?_;refine eY 10 rfl ?_ ?_<;>intro b
 focus
  replace b:=sp b
 rotate_left
 focus
  replace b:=sp b;refine Zz ?_;apply Ix 9 (kF call237 (Mr (p1:=e) (p2:=d) (lo:=0) (hi:=64) (fC (l:= zz5) V2 rfl) (fC (l:= [I64 64]) V2 rfl)));refine Zz ?_;refine eY 17 rfl ?_ ?_<;>intro j
  focus
   replace j:=sp j
  rotate_left
  focus
   replace j:=sp j;refine Zz ?_;apply Yf 15 (Zkm (u:=fun x=>decide (Ym x (-2147483648) 2147483647)) (hq.v.le leA) hq.nv Xe rfl);refine Zz ?_;refine eY 23 rfl ?_ ?_<;>intro i
   focus
    replace i:=sp i
   rotate_left
   focus
    replace i:=sp i;refine Zz ?_;apply Q2 21 (Mm);refine kd2 fun p n=> ?_
    refine ⟨hlA,?_⟩;apply Yf 22 (Cz (u:=fun x=>decide (Ym x 0 256)) (hq.a.le leA) hq.na (Er (p1:=p) (p2:=n) (lo:=0) (hi:=256) (fC (l:= zz5) V2 rfl) (fC (l:= [I64 256]) V2 rfl)) rfl);refine Zz ?_;refine eY 30 rfl ?_ ?_<;>intro h
    focus
     replace h:=sp h
    rotate_left
    focus
     replace h:=sp h;refine Zz ?_;apply Q2 28 (Mm);refine kd2 fun o k=> ?_
     refine ⟨hlA,?_⟩;apply Yf 29 (Cz (u:=fun x=>decide (Ym x 1 16)) (hq.c.le leA) hq.nc (Er (p1:=o) (p2:=k) (lo:=1) (hi:=16) (fC (l:= [I64 1]) V2 rfl) (fC (l:= [I64 16]) V2 rfl)) rfl);refine Zz ?_;refine eY 37 rfl ?_ ?_<;>intro f
     focus
      replace f:=sp f
     rotate_left
     focus
      replace f:=sp f;refine Zz ?_;apply Yf 35 (Zxy (u:=fun x=>decide (Gj x)) (hq.t.le leA) hq.nt (fun q1 b x r=>CallV.c10 call183 (X2 (g.le (b.trans leA)) ((hq.x x r).le (b.trans leA)))) rfl);refine Zp ?_ ?_<;>intro h6
      rotate_left
 all_goals
  refine Zm (q) ?_;exact ⟨_,rfl,aQ (Value.int _) (by unfold Zqp;split<;>(rename_i hm;unfold Nd at hm;simp_all)),rfl⟩
end
def Pw:(prog.info? 3).map (fun i=>(i.zero,i.size,i.bytes))=some (some (I64 0),1,8):=by kernel_rfl
abbrev Is:=Int×Int×Int×Int
variable {ins:List Is}
def Y4 (c:Int):Int×Int:=
 if c<=3\/c=30 then (0,1) else if c=4\/c=8\/c=9\/c=22 then (1,1) else if 10<=c/\c<=18 then (2,1) else if c=7 then (2,0) else if c=5\/c=6\/c=20\/c=21\/c=29\/c=33 then (1,0) else (0,0)
def Pc (c:Int):0<=(Y4 c).1/\0<=(Y4 c).2:=by
 unfold Y4;repeat' split
 all_goals decide
def D9 (i:Is)(a:Nat):List Int:=
 if i.1=34 then [] else if i.1=19 then [i.2.1] else if i.1=20\/i.1=21 then if i.2.1=a+1 then [i.2.1] else [i.2.1,a+1] else [(a:Int)+1]
def zI:Is:=(0,0,0,0)
def Jy (ins:List Is)(a:Nat)(d:Int):Int×Int:=
 let i:=ins.getD a zI
 if d<(Y4 i.1).1\/d - (Y4 i.1).1+(Y4 i.1).2>25 then (0,173)
 else if (i.1=23\/i.1=34)/\d≠0 then (0,175)
 else if ∃ x∈D9 i a,(ins.length:Int)<=x then (0,172) else (d - (Y4 i.1).1+(Y4 i.1).2,0)
def dAt (D:List Int)(i:Nat):Int:=D.getD i (-1)
def Ji (b:Int):List Int->List Int->Option (List Int)
 |D, []=>some D
 |D,x::r=>if 0<=dAt D x.toNat/\dAt D x.toNat≠b then none else Ji b (D.set x.toNat b) r
abbrev Rq (D:List Int)(dn:List Bool)(i:Nat):Prop:=0<=dAt D i/\dn.getD i false=false
def Ma (D:List Int)(dn:List Bool):Option Nat:=(List.range D.length).find? fun i=>decide (Rq D dn i)
def P6 (ins:List Is):Nat->List Int->List Bool->List Int×Int
 |0,D,_=>(D,0)
 |k+1,D,dn=>match Ma D dn with
  |none=>(D,0)
  |some a=>if (Jy ins a (dAt D a)).2≠0 then ([],(Jy ins a (dAt D a)).2) else match Ji (Jy ins a (dAt D a)).1 D (D9 (ins.getD a zI) a) with
   |none=>([],174)
   |some D'=>P6 ins k D' (dn.set a true)
def Bh {a:Nat}(h:Ma D dn=some a):a<D.length/\Rq D dn a/\ ∀ j,j<a-> ¬Rq D dn j:=by
 unfold Ma at h;have m:=List.find?_some h;have g:=jX h;refine ⟨by simpa using g,cY m,fun j p d=> ?_⟩;obtain ⟨_,b,n,e,i⟩:=List.find?_eq_some_iff_append.1 h
 have o:b.length=a:=by
  have c:(List.range D.length)[b.length]? =some a:=by rw [e];simp
  have f:b.length<D.length:=by have:=aQ List.length e;simp at this;omega
  rw [aB (by simpa using f)] at c;simpa using c
 have k:j∈b:=by
  have c:b[j]? =some j:=by
   have l:(List.range D.length)[j]? =b[j]? :=by rw [e,dX Zq]
   rw [<-l];have f:a<D.length:=by simpa using g
   rw [aB Zi];simp
  exact gC c
 have:=i j k;rw [dB d] at this;cases this
def Zja (h:Ma D dn=none): ∀ j,j<D.length-> ¬Rq D dn j:=by
 intro j b a;have:=List.find?_eq_none.1 h j (by simpa using b);exact this (dB a)
def Zgc {a:Nat}(h1:a<D.length)(h2:Rq D dn a)(h3: ∀ j,j<D.length->Rq D dn j->a<=j):Ma D dn=some a:=by
 cases h:Ma D dn with
 |none=>exact aV h2 (Zja h a h1)
 |some b=>
  obtain ⟨f,e,d⟩:=Bh h;have:=h3 b f e;rcases dN a b with c|c
  . exact aV h2 (d a c)
  rw [show b=a by omega]
def Sd (h: ∀ j,j<D.length-> ¬Rq D dn j):Ma D dn=none:=by
 cases h1:Ma D dn with
 |none=>rfl
 |some b=>obtain ⟨c,a,_⟩:=Bh h1;exact aV a (h b c)
def Pr {b:Int}(hi:i<D.length):dAt (D.set i b) j=if j=i then b else dAt D j:=by
 unfold dAt;simp only [aH,kO];by_cases h:j=i
 . subst h;simp [hi]
 have a: ¬i=j:=fun e=>h e.symm
 simp [h,a]
def O4 {a:Nat}(h:(Jy ins a d).2=0):(∀ x∈D9 (ins.getD a zI) a,x<(ins.length:Int))/\(0<=d->0<=(Jy ins a d).1)/\ ¬d<(Y4 (ins.getD a zI).1).1:=by
 unfold Jy at h|-;simp only at h|-;split at h
 . cases h
 rename_i e;split at h
 . cases h
 rename_i g;split at h
 . cases h
 rename_i c;rw [if_neg e,if_neg g,if_neg c];refine ⟨fun x f=> ?_,fun i=> ?_,fun b=>e (.inl b)⟩
 . rcases Int.lt_or_le x ins.length with b|b
   . exact b
   exact aV ⟨x,f,b⟩ c
 have:=Pc (ins.getD a zI).1;dsimp only;omega
def Ins.t (i:Ins):Is:=(i.c,i.a,i.b,i.n)
def efC (x:Int×Int):List Value:= [I64 x.1,I64 x.2]
def effL:List (Int×Int):= [(0,0),(0,1),(0,1),(0,1),(1,1),(1,0),(1,0),(2,0),(1,1),(1,1),(2,1),(2,1),(2,1),(2,1),(2,1),(2,1),(2,1),(2,1),(2,1),(0,0),(1,0),(1,0),(1,1),(0,0),(0,0),(0,0),(0,0),(0,0),(0,0),(1,0),(0,1),(0,0),(0,0),(1,0),(0,0)]
def effL_at: ∀ k:Fin 35,1<=k.val->effL[k.val]'k.isLt=Y4 k.val:=by decide
def GE (q:List HP):Prop:=Sees q (some ⟨2,0,none⟩) (effL.flatMap efC)
def GE.le (h:GE q')(k:Le q q'):GE q:=Sees.le h k
section
variable {d:Nat}{n:Int}{t:Cod}
def nxt (x:Ins)(at_:Int):List Int:=if x.c=34 then [] else if x.c=19 then [x.a] else if x.c=20\/x.c=21 then if x.a=at_+1 then [x.a] else [x.a,at_+1] else [at_+1]
def Zwz (x:Ins)(k:Nat):nxt x k=D9 x.t k:=rfl
def ivs (n:Int):List Value:= [I64 n]
abbrev A4 (v0:Nat)(v1:Ins)(v2:Nat)(v3:Int):=[im v0 (.cells (Y7 v1).toArray 222 (0,0)),im v2 (.cells [I64 v3].toArray 3 (0,0))]
def Zxx {y:Nat}{J:Nat->HP}{Jf:HP->Prop}(hat:0<=at_/\at_<=1000000000000)
 (hy: ∀ i (h:i<((nxt x at_).map ivs).length),CallV prog G (.func (.yield y) #[] #[]) ((nxt x at_).map ivs)[i] (J i:: (A4 p1 x p2 at_)) (Ret fun v q=>(v= .bool true/\q=J (i+1):: (A4 p1 x p2 at_))\/(v= .bool false/\ ∃ A,Jf A/\q=A:: (A4 p1 x p2 at_)))):
 CF G 293 [.func (.yield y) #[] #[],pt p1,pt p2] (J 0:: (A4 p1 x p2 at_)) (Ret fun _ q=>q=J (nxt x at_).length:: (A4 p1 x p2 at_)\/ ∃ A,Jf A/\q=A:: (A4 p1 x p2 at_)):=by
 refine aE ntmps293 fun F cs=> ?_;refine Zp ?_ ?_<;>intro k
 . have d:nxt x at_= []:=by unfold nxt;rw [if_pos k]
   refine Zm (J 0:: (A4 p1 x p2 at_)) ?_;exact ⟨_,rfl,.inl (by rw [d];rfl)⟩
 refine Zp ?_ ?_<;>intro l
 focus
  have d:nxt x at_= [x.a]:=by unfold nxt;rw [if_neg k,if_pos l]
 rotate_left
 focus
  refine Zp ?_ ?_<;>intro j
  . refine Zz ?_;have j:x.c=20\/x.c=21:= .inl j;rcases bK (x.a=at_+1) with f|f
    . have d:nxt x at_= [x.a]:=by unfold nxt;rw [if_neg k,if_neg l,if_pos j,if_pos f]
      rw [d] at hy;have g:=hy 0 Zf;apply XO.cV (g);rintro _ _ (⟨rfl,rfl⟩|⟨rfl,A,e,rfl⟩) _ b<;>simp only [ca,na] at b<;>subst b
      . refine rn [2,1022,1,0,0,4] ?_;refine iJ 28 ?_ rfl (by rw [fH];exact f);refine Zm (J 1:: (A4 p1 x p2 at_)) ?_;exact ⟨_,rfl,.inl (by rw [d];rfl)⟩
      refine Zg ?_;exact ⟨_,⟨_,rfl,.inr ⟨A,e,rfl⟩⟩,leA⟩
    have d:nxt x at_= [x.a,at_+1]:=by unfold nxt;rw [if_neg k,if_neg l,if_pos j,if_neg f]
    rw [d] at hy;have g:=hy 0 Zf;have m:=hy 1 Zf;apply XO.cV (g);rintro _ _ (⟨rfl,rfl⟩|⟨rfl,A,e,rfl⟩) _ b<;>simp only [ca,na] at b<;>subst b
    . refine rn [2,1022,1,0,0,4] ?_;refine Wc 28 ?_ rfl (by rw [dD];exact f);refine Zz ?_;apply XO.cV (m);rintro _ _ (⟨rfl,rfl⟩|⟨rfl,A,e,rfl⟩) _ b<;>simp only [ca,na] at b<;>subst b
      . refine Zm (J 2:: (A4 p1 x p2 at_)) ?_;exact ⟨_,rfl,.inl (by rw [d];rfl)⟩
      refine Zg ?_;exact ⟨_,⟨_,rfl,.inr ⟨A,e,rfl⟩⟩,leA⟩
    refine Zg ?_;exact ⟨_,⟨_,rfl,.inr ⟨A,e,rfl⟩⟩,leA⟩
  refine Zp ?_ ?_<;>intro n
  . have j:x.c=20\/x.c=21:= .inr n;rcases bK (x.a=at_+1) with f|f
    . have d:nxt x at_= [x.a]:=by unfold nxt;rw [if_neg k,if_neg l,if_pos j,if_pos f]
      rw [d] at hy;have g:=hy 0 Zf;refine Zz ?_;apply XO.cV (g);rintro _ _ (⟨rfl,rfl⟩|⟨rfl,A,e,rfl⟩) _ b<;>simp only [ca,na] at b<;>subst b
      . refine rn [2,1022,1,0,0,4] ?_;refine iJ 28 ?_ rfl (by rw [fH];exact f);refine Zm (J 1:: (A4 p1 x p2 at_)) ?_;exact ⟨_,rfl,.inl (by rw [d];rfl)⟩
      refine Zg ?_;exact ⟨_,⟨_,rfl,.inr ⟨A,e,rfl⟩⟩,leA⟩
    have d:nxt x at_= [x.a,at_+1]:=by unfold nxt;rw [if_neg k,if_neg l,if_pos j,if_neg f]
    rw [d] at hy;have g:=hy 0 Zf;have m:=hy 1 Zf;refine Zz ?_;apply XO.cV (g);rintro _ _ (⟨rfl,rfl⟩|⟨rfl,A,e,rfl⟩) _ b<;>simp only [ca,na] at b<;>subst b
    . refine rn [2,1022,1,0,0,4] ?_;refine Wc 28 ?_ rfl (by rw [dD];exact f);refine Zz ?_;apply XO.cV (m);rintro _ _ (⟨rfl,rfl⟩|⟨rfl,A,e,rfl⟩) _ b<;>simp only [ca,na] at b<;>subst b
      . refine Zm (J 2:: (A4 p1 x p2 at_)) ?_;exact ⟨_,rfl,.inl (by rw [d];rfl)⟩
      refine Zg ?_;exact ⟨_,⟨_,rfl,.inr ⟨A,e,rfl⟩⟩,leA⟩
    refine Zg ?_;exact ⟨_,⟨_,rfl,.inr ⟨A,e,rfl⟩⟩,leA⟩
  have d:nxt x at_= [at_+1]:=by unfold nxt;rw [if_neg k,if_neg l,if_neg Zq]
 all_goals
  rw [d] at hy;have g:=hy 0 Zf;refine Zz ?_;apply XO.cV (g);rintro _ _ (⟨rfl,rfl⟩|⟨rfl,A,e,rfl⟩) _ b<;>simp only [ca,na] at b<;>subst b
  . refine Zm (J 1:: (A4 p1 x p2 at_)) ?_;exact ⟨_,rfl,.inl (by rw [d];rfl)⟩
  refine Zg ?_;exact ⟨_,⟨_,rfl,.inr ⟨A,e,rfl⟩⟩,leA⟩
def Ce (hat:0<=at_/\at_<=1000000000000):Iter prog G (.func (.func 293) [].toArray [pt p1,pt p2].toArray) ((nxt x at_).map ivs) (A4 p1 x p2 at_):=by
 intro y J Jf a;rw [aI];exact kF call293 (Zxx (G:=G) (p1:=p1) (p2:=p2) (J:=J) (Jf:=Jf) hat a)
def Xm:CF G 255 [.agg (Y7 x).toArray,I64 at_] ([]) (Ret fun v q'=> ∃ p1 p2,v= .func (.func 293) [].toArray [pt p1,pt p2].toArray/\q'= [pC p1 (Y7 x) 222,pC p2 [I64 at_] 3]):=by
 refine aE ntmps255 fun F cs=> ?_;refine Yb fun b=> ?_
 refine Yb fun a=> ?_
 refine Zg ?_;exact ⟨_,⟨_,rfl,b,a,rfl,rfl⟩,leA⟩
end
def Qv (m:Mdl)(t:Cod)(c:Int):Option Int:=
 if c=2\/c=5 then some m.vars.length else if c=3\/c=6 then some t.locals else if c=4\/c=7 then some m.arrays.length else if c=19\/c=20\/c=21 then some t.ins.length
 else if c=24\/c=25 then some m.mutexes else if c=26\/c=27\/c=28 then some m.conds else if c=29\/c=30 then some m.chans.length else if c=31 then some m.threads.length else none
def Bk (m:Mdl)(t:Cod)(i:Ins):Prop:=(∀ n,Qv m t i.c=some n->i.a<n)/\(i.c=26->i.b<m.mutexes)
instance (m:Mdl) (t:Cod) (i:Ins):Decidable (Bk m t i):=by
 unfold Bk
 have:Decidable (∀ n,Qv m t i.c=some n->i.a<n):=match Qv m t i.c with
  |none=> .isTrue (fun n h=>by cases h)
  |some k=>if h:i.a<k then .isTrue (fun n e=>by cases e;exact h) else .isFalse (fun e=>h (e k rfl))
 infer_instance
def cntL:List (Int×Value×Nat):= [(2,.func (.func 315) #[] #[],0),(5,.func (.func 315) #[] #[],1),(3,.func (.func 316) #[] #[],2),(6,.func (.func 316) #[] #[],3),(4,.func (.func 317) #[] #[],4),(7,.func (.func 317) #[] #[],5),(19,.func (.func 318) #[] #[],6),(20,.func (.func 318) #[] #[],7),(21,.func (.func 318) #[] #[],8),(24,.func (.func 319) #[] #[],9),(25,.func (.func 319) #[] #[],10),(26,.func (.func 320) #[] #[],11),(27,.func (.func 320) #[] #[],12),(28,.func (.func 320) #[] #[],13),(29,.func (.func 321) #[] #[],14),(30,.func (.func 321) #[] #[],15),(31,.func (.func 322) #[] #[],16)]
def Rx (e:Int×Value×Nat):MapEntry:= { key:= I64 e.1,val:=e.2.1,born:=e.2.2 }
def cnt_none {t:Cod}{c:Int}(h: ∀ e∈cntL,e.1≠c):Qv m t c=none:=by
 simp only [cntL,bS,forall_eq_or_imp,gO,false_imp_iff,implies_true,and_true] at h;unfold Qv;(repeat' split)<;>first|rfl|omega
section
variable {d:Nat}{n:Int}{t:Cod}
abbrev A6 (v0:Nat)(v1:Nat)(v2:Nat)(v3:Nat):=([.pointer (some ⟨v0,v1,none⟩),.pointer (some ⟨v2,v3,none⟩)]:List Value)
def Zbt (hm:CellsAt q pm om (J0 m))(ht:CellsAt q pth ot (Vs t)):CR G 315 (A6 pm om pth ot) (q) (I64 m.vars.length):=by
 refine aE ntmps315 fun F cs=> ?_;apply xo 9;refine ld ?_ (hc:=((hm 0 _ rfl).le leA));exact Vz q
def Zbc (hm:CellsAt q pm om (J0 m))(ht:CellsAt q pth ot (Vs t)):CR G 316 (A6 pm om pth ot) (q) (I64 t.locals):=by
 refine aE ntmps316 fun F cs=> ?_;apply xo 9;refine ld ?_ (hc:=((ht 1 _ rfl).le leA));exact Vz q
def Zbd (hm:CellsAt q pm om (J0 m))(ht:CellsAt q pth ot (Vs t)):CR G 317 (A6 pm om pth ot) (q) (I64 m.arrays.length):=by
 refine aE ntmps317 fun F cs=> ?_;apply xo 9;refine ld ?_ (hc:=((hm 1 _ rfl).le leA));exact Vz q
def cnt4_ok (hm:CellsAt q pm om (J0 m))(ht:CellsAt q pth ot (Vs t)):CR G 318 (A6 pm om pth ot) (q) (I64 t.ins.length):=by
 refine aE ntmps318 fun F cs=> ?_;apply xo 9;refine ld ?_ (hc:=((ht 2 _ rfl).le leA));exact Vz q
def Zbu (hm:CellsAt q pm om (J0 m))(ht:CellsAt q pth ot (Vs t)):CR G 319 (A6 pm om pth ot) (q) (I64 m.mutexes):=by
 refine aE ntmps319 fun F cs=> ?_;apply xo 9;refine ld ?_ (hc:=((hm 3 _ rfl).le leA));exact Vz q
def Zq3 (hm:CellsAt q pm om (J0 m))(ht:CellsAt q pth ot (Vs t)):CR G 320 (A6 pm om pth ot) (q) (I64 m.conds):=by
 refine aE ntmps320 fun F cs=> ?_;apply xo 9;refine ld ?_ (hc:=((hm 4 _ rfl).le leA));exact Vz q
def Zbp (hm:CellsAt q pm om (J0 m))(ht:CellsAt q pth ot (Vs t)):CR G 321 (A6 pm om pth ot) (q) (I64 m.chans.length):=by
 refine aE ntmps321 fun F cs=> ?_;apply xo 9;refine ld ?_ (hc:=((hm 2 _ rfl).le leA));exact Vz q
def cnt8_ok (hm:CellsAt q pm om (J0 m))(ht:CellsAt q pth ot (Vs t)):CR G 322 (A6 pm om pth ot) (q) (I64 m.threads.length):=by
 refine aE ntmps322 fun F cs=> ?_;apply xo 9;refine ld ?_ (hc:=((hm 5 _ rfl).le leA));exact Vz q
abbrev AO (v0:Nat):=((.func (.func v0) #[] #[]):Value)
def Zbn (h:e∈cntL): ∃ (f:Nat) (n:Int),e.2.1= .func (.func f) #[] #[]/\Qv m t e.1=some n/\(CellsAt q pm om (J0 m)->CellsAt q pth ot (Vs t)->CallV prog G (AO f) (A6 pm om pth ot) q (Ret fun v q'=>v= I64 n/\q'=q)):=by
 simp only [cntL,bS,gO,or_false] at h;rcases h with rfl|rfl|rfl|rfl|rfl|rfl|rfl|rfl|rfl|rfl|rfl|rfl|rfl|rfl|rfl|rfl|rfl
 . exact ⟨315,(m.vars.length:Int),rfl,by simp [Qv],fun b a=>Z3 call315 (Zbt b a)⟩
 . exact ⟨315,(m.vars.length:Int),rfl,by simp [Qv],fun b a=>Z3 call315 (Zbt b a)⟩
 . exact ⟨316,t.locals,rfl,by simp [Qv],fun b a=>Z3 call316 (Zbc b a)⟩
 . exact ⟨316,t.locals,rfl,by simp [Qv],fun b a=>Z3 call316 (Zbc b a)⟩
 . exact ⟨317,(m.arrays.length:Int),rfl,by simp [Qv],fun b a=>Z3 call317 (Zbd b a)⟩
 . exact ⟨317,(m.arrays.length:Int),rfl,by simp [Qv],fun b a=>Z3 call317 (Zbd b a)⟩
 rotate_left
 rotate_left
 rotate_left
 . exact ⟨319,m.mutexes,rfl,by simp [Qv],fun b a=>Z3 call319 (Zbu b a)⟩
 . exact ⟨319,m.mutexes,rfl,by simp [Qv],fun b a=>Z3 call319 (Zbu b a)⟩
 . exact ⟨320,m.conds,rfl,by simp [Qv],fun b a=>Z3 call320 (Zq3 b a)⟩
 . exact ⟨320,m.conds,rfl,by simp [Qv],fun b a=>Z3 call320 (Zq3 b a)⟩
 . exact ⟨320,m.conds,rfl,by simp [Qv],fun b a=>Z3 call320 (Zq3 b a)⟩
 . exact ⟨321,(m.chans.length:Int),rfl,by simp [Qv],fun b a=>Z3 call321 (Zbp b a)⟩
 . exact ⟨321,(m.chans.length:Int),rfl,by simp [Qv],fun b a=>Z3 call321 (Zbp b a)⟩
 . exact ⟨322,(m.threads.length:Int),rfl,by simp [Qv],fun b a=>Z3 call322 (cnt8_ok b a)⟩
 all_goals
  exact ⟨318,(t.ins.length:Int),rfl,by simp [Qv],fun b a=>Z3 call318 (cnt4_ok b a)⟩
def Zhz:CF G 291 [] ([]) (Ret fun v q'=> ∃ n,v= .map (some n)/\q'= [pto n (.map (cntL.map Rx).toArray 17)]):=by
 refine We ntmps291 fun F cs=> ?_;apply bU (kV);rintro _ _ ⟨a,rfl,rfl⟩;refine Zz ?_;apply cU (dH (es:= []) underlying460 underlying220 rfl rfl rfl Zj (by rfl));rintro _ _ ⟨rfl,rfl⟩;refine Zz ?_;apply cU (dH (es:=((cntL.take 1).map Rx)) underlying460 underlying220 rfl rfl rfl Zj (by rfl));rintro _ _ ⟨rfl,rfl⟩;refine Zz ?_;apply cU (dH (es:=((cntL.take 2).map Rx)) underlying460 underlying220 rfl rfl rfl Zj (by rfl));rintro _ _ ⟨rfl,rfl⟩;refine Zz ?_;apply cU (dH (es:=((cntL.take 3).map Rx)) underlying460 underlying220 rfl rfl rfl Zj (by rfl));rintro _ _ ⟨rfl,rfl⟩;refine Zz ?_;apply cU (dH (es:=((cntL.take 4).map Rx)) underlying460 underlying220 rfl rfl rfl Zj (by rfl));rintro _ _ ⟨rfl,rfl⟩;refine Zz ?_;apply cU (dH (es:=((cntL.take 5).map Rx)) underlying460 underlying220 rfl rfl rfl Zj (by rfl));rintro _ _ ⟨rfl,rfl⟩;refine Zz ?_;apply cU (dH (es:=((cntL.take 6).map Rx)) underlying460 underlying220 rfl rfl rfl Zj (by rfl));rintro _ _ ⟨rfl,rfl⟩;refine Zz ?_;apply cU (dH (es:=((cntL.take 7).map Rx)) underlying460 underlying220 rfl rfl rfl Zj (by rfl));rintro _ _ ⟨rfl,rfl⟩;refine Zz ?_;apply cU (dH (es:=((cntL.take 8).map Rx)) underlying460 underlying220 rfl rfl rfl Zj (by rfl));rintro _ _ ⟨rfl,rfl⟩;refine Zz ?_;apply cU (dH (es:=((cntL.take 9).map Rx)) underlying460 underlying220 rfl rfl rfl Zj (by rfl));rintro _ _ ⟨rfl,rfl⟩;refine Zz ?_;apply cU (dH (es:=((cntL.take 10).map Rx)) underlying460 underlying220 rfl rfl rfl Zj (by rfl));rintro _ _ ⟨rfl,rfl⟩;refine Zz ?_;apply cU (dH (es:=((cntL.take 11).map Rx)) underlying460 underlying220 rfl rfl rfl Zj (by rfl));rintro _ _ ⟨rfl,rfl⟩;refine Zz ?_;apply cU (dH (es:=((cntL.take 12).map Rx)) underlying460 underlying220 rfl rfl rfl Zj (by rfl));rintro _ _ ⟨rfl,rfl⟩;refine Zz ?_;apply cU (dH (es:=((cntL.take 13).map Rx)) underlying460 underlying220 rfl rfl rfl Zj (by rfl));rintro _ _ ⟨rfl,rfl⟩;refine Zz ?_;apply cU (dH (es:=((cntL.take 14).map Rx)) underlying460 underlying220 rfl rfl rfl Zj (by rfl));rintro _ _ ⟨rfl,rfl⟩;refine Zz ?_;apply cU (dH (es:=((cntL.take 15).map Rx)) underlying460 underlying220 rfl rfl rfl Zj (by rfl));rintro _ _ ⟨rfl,rfl⟩;refine Zz ?_;apply cU (dH (es:=((cntL.take 16).map Rx)) underlying460 underlying220 rfl rfl rfl Zj (by rfl));rintro _ _ ⟨rfl,rfl⟩;refine Zg ?_;exact ⟨_,⟨_,rfl,a,rfl,rfl⟩,leA⟩
def cnt_call {f:Nat}{n:Int}(h:e∈cntL)(h1:e.2.1= .func (.func f) #[] #[])(h2:Qv m t e.1=some n)(h3:CellsAt q pm om (J0 m))(h4:CellsAt q pth ot (Vs t)):CallV prog G (AO f) (A6 pm om pth ot) q (Ret fun v q'=>v= I64 n/\q'=q):=by
 obtain ⟨i,g,c,a,b⟩:=Zbn (G:=G) (q:=q) (m:=m) (t:=t) (pm:=pm) (om:=om) (pth:=pth) (ot:=ot) h;rw [h2] at a;obtain rfl:=dR a;have d:=h1.symm.trans c
 cases d;exact b h3 h4
def Zjm (hm:CellsAt q pm om (J0 m))(ht:CellsAt q pth ot (Vs t))(hq:CodQ q t):CR G 251 (A6 pm om pth ot) (q) (.bool (decide (∀ x∈t.ins,Bk m t x))):=by
 refine aE ntmps251 fun F cs=> ?_;have hs:=hq.i;have d0:=hq.ni;have p:=Zx (f:=Y7) (sz:=4) (fun _=>rfl) t.ins;refine Zz ?_;apply Wn (Zhz);refine kd1 fun nm=> ?_
 apply oo 8;refine ld ?_ (hc:=((ht 2 _ rfl).le leA));refine Zs (bW (fun (s:Nat×Option Addr)=>s.1<=t.ins.length/\s.2=t.ia/\ ∀ i (h:i<t.ins.length),i<s.1->Bk m t t.ins[i]) (fun s=> [(15,I64 (s.1:Int)),(13,.slice s.2 t.ins.length t.ic),(14,I64 t.ins.length),(0,.pointer (some ⟨pm,om,none⟩)),(1,.pointer (some ⟨pth,ot,none⟩)),(5,.map (some nm))]) (fun s=>pto nm (.map (cntL.map Rx).toArray 17)::(q++F)) (fun s=>t.ins.length - s.1) (fun s r ih=> ?_) (0,t.ia) ⟨Zy,rfl,fun i _ k=>by dsimp only at k;omega⟩);try dsimp only at r ih|-
 obtain ⟨e0,b0,u⟩:=r;obtain ⟨s,ia⟩:=s;dsimp only at*;refine Zp ?_ ?_<;>intro h0
 . have b:s<t.ins.length:=Zq;refine Yq hs (by rw [p];omega) fun b1 o1 eA=> ?_;have o:=hs;rw [eA] at o;obtain rfl:ia=some ⟨b1,o1,none⟩:=b0.trans eA;refine Zz ?_;apply Jb (n:=s) isAgg222 sizeOf222 o b;refine Zo zeroValue222 fun n1=> ?_
   refine Zz ?_;obtain ⟨aF,hF,hA⟩:=Ca (kd:= .i64) (c:=t.ins[s].c) cntL 0;apply XO.rd (Rd.lookup (es:=cntL.map Rx) (clock:=17) underlying460 underlying220 rfl rfl Zj zeroValue462 hF);rcases hA with ⟨rfl,a0⟩|⟨jF,eF,rfl,g,w⟩
   focus
    have c0:=cnt_none (m:=m) (t:=t) a0;apply aX 22 (.nilFunc) rfl (rfl);refine Zz ?_;apply Ey 1 rfl (Zk2 rfl underlying462);refine Zz ?_;refine eY 37 rfl ?_ ?_<;>intro z
    focus
     replace z:=sp z;refine rn [5,6,7,8,9] ?_;refine ldD 9 ?_ (hc:=((hm 3 _ rfl).le leA));refine Zp ?_ ?_<;>intro y
     . refine Zm (q) ?_;exact ⟨_,rfl,cB (by symm;rw [dG];intro j;have d:=j _ (aC b);first|(have:=d.2 Zq;omega)|(have:=d.1 _ a;omega)),rfl⟩
    rotate_left
    focus
     replace z:=sp z
    all_goals
     refine Zz ?_;have l:Bk m t t.ins[s]:=⟨(fun n e=>by rw [c0] at e;cases e),fun e=>by omega⟩
   rotate_left 2
   focus
    obtain ⟨fF,nF,v,a,f0⟩:=Zbn (G:=G) (m:=m) (t:=t) (q:=q) (pm:=pm) (om:=om) (pth:=pth) (ot:=ot) g;rw [w] at a;apply aX 22 (AO fF) rfl (by exact v);refine Zz ?_;apply Ey 1 rfl (Zxt rfl underlying462);refine Zz ?_;apply Ix 8 ((cnt_call g v (w ▸ a)) (hm.le leA) (ht.le leA));refine Zp ?_ ?_<;>intro z
    . refine Zm (q) ?_;exact ⟨_,rfl,cB (by symm;rw [dG];intro j;have d:=j _ (aC b);first|(have:=d.2 Zq;omega)|(have:=d.1 _ a;omega)),rfl⟩
    refine Zz ?_;refine eY 37 rfl ?_ ?_<;>intro y
    focus
     replace y:=sp y;refine rn [5,6,7,8,9] ?_;refine ldD 9 ?_ (hc:=((hm 3 _ rfl).le leA));refine Zp ?_ ?_<;>intro h3
     . refine Zm (q) ?_;exact ⟨_,rfl,cB (by symm;rw [dG];intro j;have d:=j _ (aC b);first|(have:=d.2 Zq;omega)|(have:=d.1 _ a;omega)),rfl⟩
    rotate_left
    focus
     replace y:=sp y
    all_goals
     refine Zz ?_;have l:Bk m t t.ins[s]:=⟨(fun n e=>by rw [a] at e;cases e;omega),fun e=>by omega⟩
   all_goals
    refine Zs (ih (s+1,some ⟨b1,o1,none⟩) ⟨Zy,eA.symm,fun i hh k=>by rcases dN i s with e|e;exact u i hh e;obtain rfl:i=s:=(by dsimp only at k;omega);exact l⟩ Zy)
 refine Zm (q) ?_;exact ⟨_,rfl,cB (by symm;rw [decide_eq_true_iff];intro x hx;obtain ⟨k,hk,rfl⟩:=eH hx;exact u k hk Zq),rfl⟩
end
section
variable {d:Nat}{n:Int}{t:Cod}
variable {n:Nat}
def effS_le (c:Int):(Y4 c).1<=2/\(Y4 c).2<=1:=by
 unfold Y4;(repeat' split)<;>decide
def Ng (t:Cod):List Is:=t.ins.map Ins.t
def Nt {t:Cod}(h:n<t.ins.length):(Ng t).getD n zI=(t.ins[n]).t:=by
 unfold Ng;rw [aH,bZ,aB h];rfl
def Me (t:Cod):(Ng t).length=t.ins.length:=by simp [Ng]
abbrev AC (v0:Nat)(v1:Nat):=([.pointer (some ⟨v0,v1,none⟩)]:List Value)
abbrev Aw (v0:Int):=([I64 v0]:List Value)
abbrev AQ (v0:Int):=((.cells (Aw v0).toArray 3 (0,0)):Obj)
def look_ok (g:GE q)(ht:CellsAt q pth ot (Vs t))(hq:CodQ q t)(hc: ∀ x∈t.ins,1<=x.c/\x.c<=34)(hL:t.ins.length<=65536)(hn:n<t.ins.length)(hd:0<=dep/\dep<=1000000):CR G 254 [.pointer (some ⟨pth,ot,none⟩),I64 n,I64 dep] (q) (.tuple [I64 (Jy (Ng t) n dep).1,I64 (Jy (Ng t) n dep).2].toArray):=by
 refine aE ntmps254 fun F cs=> ?_;have hs:=hq.i;have l:=Zx (f:=Y7) (sz:=4) (fun _=>rfl) t.ins;have g0:=hc _ (aC hn);have e0:=Pc t.ins[n].c;have hk:t.ins[n].c.toNat<effL.length:=by show _<35;omega
 have c0:effL[t.ins[n].c.toNat]=Y4 t.ins[n].c:=by
  have e:=effL_at ⟨t.ins[n].c.toNat,hk⟩ (by show 1<=t.ins[n].c.toNat;omega);have p:((t.ins[n].c.toNat:Nat):Int)=t.ins[n].c:=Zq;dsimp only at e;rw [p] at e;exact e
 have f0:(Y4 t.ins[n].c).1<=2/\(Y4 t.ins[n].c).2<=1:=effS_le _;refine Yb fun z=> ?_
 refine Zo zeroValue3 fun w=> ?_
 refine Zo zeroValue34 fun v=> ?_
 refine rn [3,0,2] ?_;refine ld ?_ (hc:=((ht 2 _ rfl).le leA));refine Zz ?_;refine J9 hs (by rw [l];omega) fun b1 o1 p=> ?_;have d:=hs;rw [p] at d;refine aX 15 (.slice (some ⟨b1,o1,none⟩) t.ins.length t.ic) rfl (by rw [p]) ?_;refine Zz ?_;apply Jb (n:=n) isAgg222 sizeOf222 d hn;refine Zo zeroValue222 fun u=> ?_
 refine Zz ?_;apply Va (Tj rfl rfl underlying469 sizeOf468 Zq Zq);apply Jb (n:=t.ins[n].c.toNat) isAgg468 sizeOf468 g hk;apply aX 22 (.agg (efC (Y4 t.ins[n].c)).toArray) rfl (by rw [c0]);refine Zo zeroValue468 fun s=> ?_
 refine Zz ?_;refine' Yi ?_;refine Zp ?_ ?_<;>intro h1
 . refine Zz ?_;have a:Jy (Ng t) n dep=(0,173):=by unfold Jy;rw [Nt hn];dsimp only [Ins.t];rw [if_pos Zq]
   refine Zm (q) ?_;exact ⟨_,rfl,by rw [a],rfl⟩
 refine Zz ?_;refine' Yi ?_;refine Zz ?_;refine' Vo ?_;refine Zp ?_ ?_<;>intro h2
 . refine Zz ?_;have a:Jy (Ng t) n dep=(0,175):=by unfold Jy;rw [Nt hn];dsimp only [Ins.t];rw [if_neg Zq,if_pos Zq]
   refine Zm (q) ?_;exact ⟨_,rfl,by rw [a],rfl⟩
 refine Zz ?_;apply Wn (Xm);refine kd2 fun p1 p2=> ?_
 refine Zz ?_;refine cE (q':=pC p1 (Y7 t.ins[n]) 222::_) Zj (fX ?_);refine cE (q':=pC p2 (Aw n) 3::_) Zj (fX ?_);refine X.range [im p1 (.cells (Y7 t.ins[n]).toArray 222 (0,0)),im p2 (AQ n)] (fun k=>Wx.pure (∀ j (h:j<(nxt t.ins[n] (n:Int)).length),j<k->(nxt t.ins[n] (n:Int))[j]<t.ins.length)::pC z (AC pth ot) 356::pC w [I64 (0)] 3::pC v [I64 (0)] 34::pC u (Y7 t.ins[n]) 222::pC s (efC (Y4 t.ins[n].c)) 468::q) (fun e qs=>e= .ret/\qs=Wx.pure (∃ x∈nxt t.ins[n] (n:Int),(t.ins.length:Int)<=x)::pC z (AC pth ot) 356::pC w [I64 (0)] 3::pC v [I64 (172)] 34::pC u (Y7 t.ins[n]) 222::pC s (efC (Y4 t.ins[n].c)) 468::q) (F:=F) (Ce (x:=t.ins[n]) ⟨Zq,Zq⟩) rfl ?_ (by intro x o;obtain ⟨y,_,rfl⟩:=cF.1 o;rfl) rfl (by rw [func254];rfl) rfl (fun i hi l2 rec F0 h0=> ?_) (fun r=> ?_) fun r c2 d0 hJ=> ?_
 . refine aK (b:= [im p1 (.cells (Y7 t.ins[n]).toArray 222 (0,0)),im p2 (AQ n)]++((Wx.pure (∀ j (h:j<(nxt t.ins[n] (n:Int)).length),j<0->(nxt t.ins[n] (n:Int))[j]<t.ins.length)::pC z (AC pth ot) 356::pC w [I64 (0)] 3::pC v [I64 (0)] 34::pC u (Y7 t.ins[n]) 222::pC s (efC (Y4 t.ins[n].c)) 468::q)++F)) ?_ (Nk _ _ _);simp only [ca,na];refine bC Zj (bC Zj (aK ?_ (Yu (fun j h k=>aV k (iV j)) _)));exact leB
 . have b0:i<(nxt t.ins[n] (n:Int)).length:=by simpa using hi
   rw [fN];simp only [Pe,ivs];simp only [ca,na];refine cE (q':=Wx.pure (∀ j (h:j<(nxt t.ins[n] (n:Int)).length),j<i->(nxt t.ins[n] (n:Int))[j]<t.ins.length)::_) Zj (kP (fun m=> ?_));refine Zz ?_;apply gE rfl leA;refine rn [4,0,2] ?_;refine ld ?_ (hc:=((ht 2 _ rfl).le leA));refine Zp ?_ ?_<;>intro k1
   . refine Zz ?_;refine iH ⟨rfl,rfl,_,⟨rfl,rfl⟩,?_⟩;simp only [ca,na];refine bC Zj (aK ?_ (Yu (show ∃ x∈nxt t.ins[n] (n:Int),(t.ins.length:Int)<=x from ⟨_,aC b0,Zq⟩) _));exact leA
   refine Zz ?_;refine gK ⟨rfl,rfl,?_⟩;simp only [ca,na];refine bC Zj (aK ?_ (Yu (show (∀ j (h:j<(nxt t.ins[n] (n:Int)).length),j<i+1->(nxt t.ins[n] (n:Int))[j]<t.ins.length) from fun j h k=>by rcases dN j i with e|e;exact m j h e;obtain rfl:j=i:=Zq;omega) _));exact leA
 focus
  simp only [ca,na];rw [aI];refine cE (q':=Wx.pure (∀ j (h:j<(nxt t.ins[n] (n:Int)).length),j<(nxt t.ins[n] (n:Int)).length->(nxt t.ins[n] (n:Int))[j]<t.ins.length)::_) Zj (kP (fun m=> ?_));refine Zz ?_
  have a:Jy (Ng t) n dep=(dep - (Y4 t.ins[n].c).1+(Y4 t.ins[n].c).2,0):=by
   have hF: ¬∃ x∈D9 t.ins[n].t n,((Ng t).length:Int)<=x:=by
    rintro ⟨x,o,a0⟩;rw [Me] at a0;rw [<-Zwz] at o;obtain ⟨j,hj,rfl⟩:=eH o;have:=m j hj hj;omega
   unfold Jy;rw [Nt hn];dsimp only [Ins.t];rw [if_neg Zq,if_neg Zq];exact if_neg hF
 rotate_left
 focus
  obtain ⟨rfl,rfl⟩:=hJ;simp only [ca,na];refine cE (q':=Wx.pure (∃ x∈nxt t.ins[n] (n:Int),(t.ins.length:Int)<=x)::_) Zj (kP (fun m=> ?_))
  have a:Jy (Ng t) n dep=(0,172):=by
   have hF: ∃ x∈D9 t.ins[n].t n,((Ng t).length:Int)<=x:=by rw [Me,<-Zwz];exact m
   unfold Jy;rw [Nt hn];dsimp only [Ins.t];rw [if_neg Zq,if_neg Zq];exact if_pos hF
 all_goals
  refine iH ⟨rfl,Kx ?_⟩;exact fS (q':=q) func254 (X8 results254 (eD rfl (iO isAgg3 clA) (eD rfl (iO isAgg34 clA) fM))) ⟨_,rfl,by rw [a],rfl⟩ leB
end
def par (k:Nat):Nat:=(k - 1) / 2
def hAt (l:List Int)(i:Nat):Int:=l.getD i 0
def sw (l:List Int)(i j:Nat):List Int:=(l.set i (hAt l j)).set j (hAt l i)
def Ga (l:List Int)(i j:Nat):(sw l i j).length=l.length:=by simp [sw]
def H0 (h:i<l.length):hAt l i=l[i]:=by simp [hAt,List.getD,h]
def G5 (hi:i<l.length)(hj:j<l.length):hAt (sw l i j) k=if k=j then hAt l i else if k=i then hAt l j else hAt l k:=by
 unfold sw hAt;simp only [aH,kO,aR];by_cases h1:k=j
 . subst h1;simp [hj]
 have a: ¬j=k:=fun e=>h1 e.symm
 by_cases h2:k=i
 . subst h2;simp [h1,a,hi]
 have b: ¬i=k:=fun e=>h2 e.symm
 simp [h1,a,h2,b]
def Py (hi:i<l.length)(hj:j<l.length):(sw l i j).Perm l:=by
 have h:=Array.swap_perm (xs:=l.toArray) (i:=i) (j:=j) (by simpa using hi) (by simpa using hj);have a:=h.toList;rw [Array.toList_swap] at a;unfold sw;rw [H0 hi,H0 hj];simpa using a
def HeapP (l:List Int)(n:Nat):Prop:= ∀ k,0<k->k<n->hAt l (par k)<=hAt l k
def HeapP.least (h:HeapP l n): ∀ k,k<n->hAt l 0<=hAt l k:=by
 intro k
 induction k using Nat.strongRecOn with
 |_ k ih=>
  intro b;rcases cQ k with rfl|a
  . exact bI _
  have c:par k<k:=by unfold par;omega
  exact Int.le_trans (ih _ c Zq) (h k a b)
def HeapUp (l:List Int)(n j:Nat):Prop:=(∀ k,0<k->k<n->k≠j->hAt l (par k)<=hAt l k)/\ ∀ k,0<k->k<n->par k=j->0<j->hAt l (par j)<=hAt l k
def Zvx (h:HeapP l n):HeapUp l (n+1) n:=
 ⟨fun k b c a=>h k b Zq,fun k b c a d=>by unfold par at a;omega⟩
def HeapUp.done (h:HeapUp l n j)(hj:j=0\/hAt l (par j)<=hAt l j):HeapP l n:=fun k c b=>by
 by_cases e:k=j
 . subst e;rcases hj with a|a
   . omega
   exact a
 exact h.1 k c b e
theorem HeapUp.step (h:HeapUp l n j)(hn:n=l.length)(hj:j<n)(h0:0<j)(hlt:hAt l j<hAt l (par j)):HeapUp (sw l (par j) j) n (par j):=by
 have o:par j<j:=by unfold par;omega
 have e:=fun k=>G5 (l:=l) (i:=par j) (j:=j) (k:=k) Zq Zq
 refine ⟨fun k c b a=> ?_,fun k c b a f=> ?_⟩
 . rw [e,e];by_cases k1:k=j
   . subst k1;rw [if_neg Zq,if_pos rfl,if_pos rfl];omega
   by_cases k2:par k=j
   . have:=h.2 k c b k2 h0;rw [if_pos k2,if_neg k1,if_neg a];exact this
   by_cases k3:par k=par j
   . have:=h.1 k c b k1;rw [if_neg k2,if_pos k3,if_neg k1,if_neg a];rw [k3] at this;omega
   have:=h.1 k c b k1;rw [if_neg k2,if_neg k3,if_neg k1,if_neg a];exact this
 have g:par (par j)<par j:=by unfold par at f|-;omega
 have d:=h.1 (par j) f Zq Zq;rw [e,e,if_neg (show par (par j)≠j by omega),if_neg (show par (par j)≠par j by omega)];by_cases k1:k=j
 . subst k1;rw [if_pos rfl];exact d
 have m:k≠par j:=by rintro rfl;omega
 rw [if_neg k1,if_neg m];have:=h.1 k c b k1;rw [a] at this;omega
def HeapDn (l:List Int)(n i:Nat):Prop:=(∀ k,0<k->k<n->par k≠i->hAt l (par k)<=hAt l k)/\ ∀ k,0<k->k<n->par k=i->0<i->hAt l (par i)<=hAt l k
def HeapDn.done (h:HeapDn l n i)(hi: ∀ k,0<k->k<n->par k=i->hAt l i<=hAt l k):HeapP l n:=fun k b a=>by
 by_cases e:par k=i
 . rw [e];exact hi k b a e
 exact h.1 k b a e
theorem HeapDn.step (h:HeapDn l n i)(hn:n<=l.length)(hj:j<n)(hj0:0<j)(hp:par j=i)(hlt:hAt l j<hAt l i)(hmin: ∀ k,0<k->k<n->par k=i->hAt l j<=hAt l k):HeapDn (sw l i j) n j:=by
 have g:i<j:=by rw [<-hp];unfold par;omega
 have e:=fun k=>G5 (l:=l) (i:=i) (j:=j) (k:=k) Zq Zq
 refine ⟨fun k c d b=> ?_,fun k c d b m=> ?_⟩
 . rw [e,e,if_neg b];by_cases k1:par k=i
   . rw [if_pos k1];by_cases k2:k=j
     . subst k2;rw [if_pos rfl];omega
     have a:k≠i:=by rintro rfl;unfold par at k1;omega
     rw [if_neg k2,if_neg a];exact hmin k c d k1
   rw [if_neg k1];by_cases k2:k=j
   . subst k2;exact aV hp k1
   rw [if_neg k2];by_cases k3:k=i
   . subst k3;rw [if_pos rfl];exact h.2 j hj0 hj hp c
   rw [if_neg k3];exact h.1 k c d k1
 have f:k≠j:=by rintro rfl;unfold par at b;omega
 have a:k≠i:=by rintro rfl;unfold par at b;omega
 rw [e,e,hp,if_neg (show i≠j by omega),if_pos rfl,if_neg f,if_neg a];have:=h.1 k c d (by rw [b];omega);rw [b] at this;exact this
def Zvy (h:HeapP l (n+1))(hn:n+1<=l.length):HeapDn (sw l 0 n) n 0:=by
 have e:=fun k=>G5 (l:=l) (i:=0) (j:=n) (k:=k) Zq Zq
 refine ⟨fun k b c a=> ?_,fun k b c a d=>by omega⟩;rw [e,e,if_neg (show par k≠n by unfold par;omega),if_neg a,if_neg (show k≠n by omega),if_neg (show k≠0 by omega)];exact h k b Zq
section
variable {d:Nat}{n:Int}{t:Cod}
variable {b:Nat}
abbrev plP (b:Nat)(a:Option Addr)(c:Nat)(l:List Int):List HP:= [pC b [.slice a l.length c] 411,lsH I64 3 a c l]
abbrev plB (b:Nat)(l:List Int):HP:=bxH I64 411 3 b l
abbrev plI (b:Nat):Value:= .iface 410 (pt b)
def Zjj:CR G 252 [.slice a l.length c] (plP b a c l) (I64 l.length):=by
 refine aE ntmps252 fun F cs=> ?_;exact Vz (plP b a c l)
def Zgk (hi:i<l.length)(hj:j<l.length)(hL:l.length<=1000000):CR G 352 [.slice a l.length c,I64 i,I64 j] (plP b a c l) (.bool (decide (hAt l i<hAt l j))):=by
 refine aE ntmps352 fun F cs=> ?_;refine Uz (l:=l) Zq fun g d=> ?_;subst d;refine Zz ?_;refine ldD 3 ?_ (hc:=(gF (bV _) Zj hi rfl));refine Zz ?_;refine ldD 7 ?_ (hc:=(gF (bV _) Zj hj rfl));refine Zg ?_;exact ⟨_,⟨_,rfl,by rw [H0 hi,H0 hj],rfl⟩,leA⟩
def Zgz (hi:i<l.length)(hj:j<l.length)(hL:l.length<=1000000):CF G 355 [.slice a l.length c,I64 i,I64 j] (plP b a c l) (Ret fun v q'=>q'=plP b a c (sw l i j)):=by
 refine aE ntmps355 fun F cs=> ?_;refine Uz (l:=l) Zq fun g d=> ?_;subst d;refine Zz ?_;refine ldD 7 ?_ (hc:=(gF (bV _) Zj hj rfl));refine Zz ?_;refine ldD 11 ?_ (hc:=(gF (bV _) Zj hi rfl));refine Zz ?_;apply gL 13 rfl (Mh (l:=l) (n:=i) (u:=l[j]) rfl rfl sizeOf3 rfl hi rfl rfl Zj);refine kk0 ?_;refine Zz ?_;refine gL 15 rfl (Mh (l:=l.set i l[j]) (n:=j) (u:=l[i]) rfl rfl sizeOf3 rfl (by rw [aR];exact hj) rfl rfl Zj) ?_;refine kk0 ?_;refine Zz ?_;have e:(l.set i l[j]).set j l[i]=sw l i j:=by unfold sw;rw [H0 hi,H0 hj]
 rw [e];refine Zg ?_;exact ⟨_,⟨_,rfl,rfl⟩,(by unfold plP;rw [Ga];exact leA)⟩
def plPop_ok (h0:0<l.length)(hL:l.length<=1000000):CF G 353 [pt b] (plP b a c l) (Ret fun v q'=> ∃ x,v= .iface 3 (I64 x)/\l[l.length - 1]? =some x/\q'=plP b a c (l.take (l.length - 1))):=by
 refine aE ntmps353 fun F cs=> ?_;refine Uz (l:=l) Zq fun g e=> ?_;subst e;refine Zb4 (l:=l) fun d=> ?_;refine Zz ?_;refine ldD 9 ?_ (hc:=(Cl.e1z (bV _) Zj h0));refine rn [11,0,1,0,1,2,3,4,5,6,7,8,9,10,11] ?_;refine dW 23 (.slice (some ⟨g,0,none⟩) (l.take (l.length - 1)).length c) rfl (by rw [bB];congr 1;omega) ?_;refine Zz ?_;refine Zl (plP b (some ⟨g,0,none⟩) c (l.take (l.length - 1))) func353 (Qq results353 rfl) ⟨_,rfl,_,rfl,aB Zq,rfl⟩ (bC Zj ((leA).trans (C8 _ _ _ _ _ _ _)))
def Zgj (hL:l.length<=1000000):CF G 354 [pt b,.iface 3 (I64 z)] (plP b a c l) (Ret fun v q'=> ∃ a' c',q'=plP b a' c' (l++ [z])):=by
 refine We ntmps354 fun F cs=> ?_;apply Ey 5 rfl (Ip rfl underlying3 rfl);apply eT 6 rfl (Qu I64 [z] underlying411 Pw rfl rfl rfl rfl rfl rfl (fun _=>rfl));rintro _ _ ⟨f,rfl,rfl⟩;refine ⟨hlA,?_⟩;apply eT 7 rfl (Wu (l:=l) (m:= [z]) underlying411 Pw rfl rfl rfl Zj ((bV _).le Zj) (fun _=>rfl) Zi Zi);refine kk2 fun e d=> ?_
 refine Zg ?_;exact ⟨_,⟨_,rfl,e,d,rfl⟩,leA⟩
def mLen: CallM prog G (plI b) "Len" [] [plB b l] (Ret fun v q' => ∃ l', (fun v l' => v = I64 (l.length : Int) ∧ l' = l) v l' ∧ q' = [plB b l']) :=
 Dq (φ := fun v l' => v = I64 (l.length : Int) ∧ l' = l) fun a c => CallM.of call252 (fun F w s => Es (m := ⟨"Len", 83, #[], some (252, false)⟩) s clA Tryz.typeInfo410 underlying410 isAgg411 (by kernel_rfl) rfl rfl) (kU (Zjj) (fun e q h => by obtain ⟨v, rfl, h⟩ := h; exact ⟨v, rfl, ⟨l, a, c, ⟨h.1, rfl⟩, h.2⟩⟩))
def Zbk (hi:i<l.length)(hj:j<l.length)(hL:l.length≤1000000): CallM prog G (plI b) "Less" [I64 (i : Int), I64 (j : Int)] [plB b l] (Ret fun v q' => ∃ l', (fun v l' => v = .bool (decide (hAt l i < hAt l j)) ∧ l' = l) v l' ∧ q' = [plB b l']) :=
 Dq (φ := fun v l' => v = .bool (decide (hAt l i < hAt l j)) ∧ l' = l) fun a c => CallM.of call352 (fun F w s => Es (m := ⟨"Less", 196, #[], some (352, false)⟩) s clA Tryz.typeInfo410 underlying410 isAgg411 (by kernel_rfl) rfl rfl) (kU (Zgk hi hj hL) (fun e q h => by obtain ⟨v, rfl, h⟩ := h; exact ⟨v, rfl, ⟨l, a, c, ⟨h.1, rfl⟩, h.2⟩⟩))
def Zbz (hi:i<l.length)(hj:j<l.length)(hL:l.length≤1000000): CallM prog G (plI b) "Swap" [I64 (i : Int), I64 (j : Int)] [plB b l] (Ret fun v q' => ∃ l', (fun v l' => l' = sw l i j) v l' ∧ q' = [plB b l']) :=
 Dq (φ := fun v l' => l' = sw l i j) fun a c => CallM.of call355 (fun F w s => Es (m := ⟨"Swap", 422, #[], some (355, false)⟩) s clA Tryz.typeInfo410 underlying410 isAgg411 (by kernel_rfl) rfl rfl) (kU (Zgz hi hj hL) (fun e q h => by obtain ⟨v, rfl, h⟩ := h; exact ⟨v, rfl, ⟨_, a, c, rfl, h⟩⟩))
def mPop (h0:0<l.length)(hL:l.length≤1000000): CallM prog G (plI b) "Pop" [] [plB b l] (Ret fun v q' => ∃ l', (fun v l' => ∃ x, v = .iface 3 (I64 x) ∧ l[l.length - 1]? = some x ∧ l' = l.take (l.length - 1)) v l' ∧ q' = [plB b l']) :=
 Dq (φ := fun v l' => ∃ x, v = .iface 3 (I64 x) ∧ l[l.length - 1]? = some x ∧ l' = l.take (l.length - 1)) fun a c => CallM.of call353 (fun F w s => Sw (m := ⟨"Pop", 466, #[], some (353, true)⟩) Tryz.typeInfo410 underlying410 (by kernel_rfl) rfl rfl) (kU (plPop_ok h0 hL) (fun e q h => by obtain ⟨v, rfl, h⟩ := h; exact ⟨v, rfl, (by obtain ⟨x, g, f, d⟩ := h; exact ⟨_, a, c, ⟨x, g, f, rfl⟩, d⟩)⟩))
def mPush (hL:l.length≤1000000): CallM prog G (plI b) "Push" [.iface 3 (I64 z)] [plB b l] (Ret fun v q' => ∃ l', (fun v l' => l' = l ++ [z]) v l' ∧ q' = [plB b l']) :=
 Dq (φ := fun v l' => l' = l ++ [z]) fun a c => CallM.of call354 (fun F w s => Sw (m := ⟨"Push", 470, #[], some (354, true)⟩) Tryz.typeInfo410 underlying410 (by kernel_rfl) rfl rfl) (kU (Zgj hL) (fun e q h => by obtain ⟨v, rfl, h⟩ := h; exact ⟨v, rfl, (by obtain ⟨f, d, h⟩ := h; exact ⟨_, f, d, rfl, h⟩)⟩))
end
def Zby (h:k<l.length):hAt (l++ [z]) k=hAt l k:=by
 rw [H0 Zi,H0 h,kJ h]
def HeapP.app (h:HeapP l l.length):HeapUp (l++ [z]) (l++ [z]).length l.length:=by
 rw [aA];refine Zvx fun k b a=> ?_;rw [Zby a,Zby (by unfold par;omega)];exact h k b a
def HeapDn.least (h:HeapP l n)(hn:n<=l.length)(h0:0<n): ∀ x∈l.take n,hAt l 0<=x:=by
 intro x b;obtain ⟨k,c,rfl⟩:=eH b;have a:k<n:=by simp at c;omega
 have:=h.least k a;rw [H0 (i:=k) Zq] at this;rw [jB];exact this
def HeapP.take (h:HeapP l n)(hn:n<=l.length):HeapP (l.take n) (l.take n).length:=by
 have e: ∀ k,k<n->hAt (l.take n) k=hAt l k:=fun k d=>by rw [H0 Zi,H0 Zq,jB]
 intro k c b;have a:k<n:=by simp at b;omega
 rw [e k a,e _ (by unfold par;omega)];exact h k c a
def par_lt (h:0<k):par k<k:=by unfold par;omega
def par_cast (j:Nat):Int.tdiv ((j:Int) - 1) 2=(par j:Int):=by
 unfold par;rcases cQ j with rfl|h
 . decide
 rw [Int.tdiv_eq_ediv_of_nonneg Zq];omega
def Zf8 {m:List Int}{x:Int}(h:HeapP l l.length)(h0:0<l.length)(hp:m.Perm (sw l 0 (l.length - 1)))(hk: ∀ k,l.length - 1<=k->hAt m k=hAt (sw l 0 (l.length - 1)) k)(hx:m[m.length - 1]? =some x):
 (x::m.take (m.length - 1)).Perm l/\ ∀ y∈m.take (m.length - 1),x<=y:=by
 have b:m.Perm l:=hp.trans (Py h0 Zq);have i:=b.length_eq
 have e:x=hAt l 0:=by
  have c:=hk (l.length - 1) (aS _);rw [G5 h0 Zq,if_pos rfl] at c;rw [<-c,H0 Zq];rw [aB Zq] at hx;have:=dR hx;rw [<-this];congr 1;omega
 have a:m=m.take (m.length - 1)++ [x]:=by
  have c:m.length - 1<m.length:=Zq;rw [aB c] at hx;have f:=List.take_append_getElem c;rw [dR hx] at f;rw [f,show m.length - 1+1=m.length by omega,bR]
 refine ⟨?_,fun y g=> ?_⟩
 . refine List.Perm.trans ?_ b
   conv=>rhs;rw [a]
   exact (List.perm_append_comm (l₁:=m.take (m.length - 1)) (l₂:= [x])).symm
 have d:y∈l:=b.mem_iff.1 (fA g);rw [e];have:=HeapDn.least (n:=l.length) h (aS _) h0 y (by rw [bR];exact d);exact this
section
variable {d:Nat}{n:Int}{t:Cod}
variable {b n:Nat}
def up_ok (h:HeapUp l l.length j)(hj:j<l.length)(hL:l.length<=1000000):CF G 294 [plI b,I64 j] ([plB b l]) (Ret fun v q'=> ∃ l',HeapP l' l'.length/\l'.Perm l/\q'= [plB b l']):=by
 refine aE ntmps294 fun F cs=> ?_;refine Zs (bW (fun (s:List Int×Nat)=>HeapUp s.1 s.1.length s.2/\s.1.Perm l/\s.2<s.1.length) (fun s=> [(0,plI b),(1,I64 (s.2:Int))]) (fun s=>(plB b s.1::F)) (fun s=>s.2) (fun s d p=> ?_) (l,j) ⟨h,List.Perm.refl _,hj⟩);try dsimp only at d p|-
 obtain ⟨o,n,k⟩:=d;obtain ⟨m,j⟩:=s;dsimp only at*;have r:=n.length_eq;apply xo 6;have q:par j<=j:=by unfold par;omega
 refine aX 7 (I64 (par j:Int)) rfl (aQ (Value.int .i64) (by rw [par_cast j];exact Ue Zq Zq)) ?_;apply oo 9;refine kT 11 rfl ?_ ?_<;>intro f
 . replace f:=sp f;have c:j=0:=by rcases cQ j with e|e;exact e;have:=par_lt e;omega
   refine Zm ([plB b m]) ?_;exact ⟨_,rfl,m,o.done (.inl c),n,rfl⟩
 replace f:=sp f;have a:par j<m.length:=by unfold par;omega
 have c:0<j:=by rcases cQ j with e|e;subst e;exact aV rfl f;exact e
 refine Ye ?_;apply Re (Zbk (l:=m) (i:=j) (j:=par j) k a Zq);rintro _ _ ⟨u,⟨rfl,t⟩,rfl⟩ _ g;simp only [ca,na] at g;subst g;obtain rfl:=t.symm;refine Zp ?_ ?_<;>intro w
 . refine Zm ([plB b m]) ?_;exact ⟨_,rfl,m,o.done (.inr Zq),n,rfl⟩
 refine Ye ?_;apply Re (Zbz (l:=m) (i:=par j) (j:=j) a k Zq);rintro _ _ ⟨_,rfl,rfl⟩ _ g;simp only [ca,na] at g;subst g;refine Zs (p (sw m (par j) j,par j) ⟨by rw [Ga];exact o.step rfl k c Zq,(Py a k).trans n,by dsimp only;rw [Ga];exact a⟩ (par_lt c)) (h0:=J2)
def down_ok (h:HeapDn l n 0)(hn:n<=l.length)(hL:l.length<=1000000):CF G 292 [plI b,I64 0,I64 n] ([plB b l]) (Ret fun v q'=> ∃ l',HeapP l' n/\l'.Perm l/\(∀ k,n<=k->hAt l' k=hAt l k)/\q'= [plB b l']):=by
 refine aE ntmps292 fun F cs=> ?_;refine Zs (bW (fun (s:List Int×Nat)=>HeapDn s.1 n s.2/\s.1.Perm l/\(s.2<n\/s.2=0)/\ ∀ k,n<=k->hAt s.1 k=hAt l k) (fun s=> [(0,plI b),(1,I64 0),(2,I64 n),(7,I64 (s.2:Int))]) (fun s=>(plB b s.1::F)) (fun s=>(n - s.2)) (fun s q w=> ?_) (l,0) ⟨h,List.Perm.refl _,.inr rfl,fun _ _=>rfl⟩);try dsimp only at q w|-
 obtain ⟨g,f,hs,o⟩:=q;obtain ⟨m,i⟩:=s;dsimp only at*;have y:=f.length_eq;refine Zz ?_;refine kT 18 rfl ?_ ?_<;>intro u
 . replace u:=sp u;refine Zm ([plB b m]) ?_;exact ⟨_,rfl,m,g.done (fun k d e c=>aV c (by unfold par;omega)),f,o,rfl⟩
 replace u:=sp u;apply ox 4;refine xp 21 ?_ ?_<;>intro h1
 . refine Zm ([plB b m]) ?_;exact ⟨_,rfl,m,g.done (fun k d e c=>aV c (by unfold par;omega)),f,o,rfl⟩
 refine Zz ?_;refine kT 28 rfl ?_ ?_<;>intro t
 focus
  replace t:=sp t;refine Zz ?_;apply aX 30 (I64 ((2*i+2:Nat):Int)) rfl (aQ (Value.int .i64) Zq);apply aX 31 (I64 ((2*i+1:Nat):Int)) rfl (aQ (Value.int .i64) Zq);apply aX 10 (I64 ((2*i+2:Nat):Int)) rfl (aQ (Value.int .i64) Zq);apply aX 9 (I64 ((2*i+1:Nat):Int)) rfl (aQ (Value.int .i64) Zq);apply aX 8 (I64 ((2*i+1:Nat):Int)) rfl (aQ (Value.int .i64) Zq);apply Re (Zbk (l:=m) (i:=2*i+2) (j:=2*i+1) Zq Zq Zq);rintro _ _ ⟨x,⟨rfl,r⟩,rfl⟩ _ a;simp only [ca,na] at a;subst a;obtain rfl:=r.symm;refine Zp ?_ ?_<;>intro h3
  . have p:=(show ∀ k,0<k->k<n->par k=i->hAt m (2*i+2)<=hAt m k from fun k d e c=>by have:k=2*i+1\/k=2*i+2:=(by unfold par at c;omega);rcases this with rfl|rfl<;>omega);refine Zz ?_;apply Re (Zbk (l:=m) (i:=2*i+2) (j:=i) Zq Zq Zq);rintro _ _ ⟨x,⟨rfl,r⟩,rfl⟩ _ a;simp only [ca,na] at a;subst a;obtain rfl:=r.symm;refine Zp ?_ ?_<;>intro z
    . refine Zm ([plB b m]) ?_;exact ⟨_,rfl,m,g.done (fun k d e c=>by have:=p k d e c;omega),f,o,rfl⟩
    refine Zz ?_;apply Re (Zbz (l:=m) (i:=i) (j:=2*i+2) Zq Zq Zq);rintro _ _ ⟨_,rfl,rfl⟩ _ a;simp only [ca,na] at a;subst a;refine Zs (w (sw m i (2*i+2),2*i+2) ⟨g.step Zq Zq Zq (by unfold par;omega) Zq p,(Py Zq Zq).trans f,.inl Zy,fun k d=>by dsimp only;rw [G5 Zq Zq,if_neg Zq,if_neg Zq];exact o k d⟩ Zy)
  have p:=(show ∀ k,0<k->k<n->par k=i->hAt m (2*i+1)<=hAt m k from fun k d e c=>by have:k=2*i+1\/k=2*i+2:=(by unfold par at c;omega);rcases this with rfl|rfl<;>omega);refine Zz ?_
 rotate_left
 focus
  replace t:=sp t;refine Zz ?_;have p:=(show ∀ k,0<k->k<n->par k=i->hAt m (2*i+1)<=hAt m k from fun k d e c=>by have:k=2*i+1:=(by unfold par at c;omega);subst this;omega)
 all_goals
  apply Re (Zbk (l:=m) (i:=2*i+1) (j:=i) Zq Zq Zq);rintro _ _ ⟨x,⟨rfl,r⟩,rfl⟩ _ a;simp only [ca,na] at a;subst a;obtain rfl:=r.symm;refine Zp ?_ ?_<;>intro z
  . refine Zm ([plB b m]) ?_;exact ⟨_,rfl,m,g.done (fun k d e c=>by have:=p k d e c;omega),f,o,rfl⟩
  refine Zz ?_;apply Re (Zbz (l:=m) (i:=i) (j:=2*i+1) Zq Zq Zq);rintro _ _ ⟨_,rfl,rfl⟩ _ a;simp only [ca,na] at a;subst a;refine Zs (w (sw m i (2*i+1),2*i+1) ⟨g.step Zq Zq Zq (by unfold par;omega) Zq p,(Py Zq Zq).trans f,.inl Zy,fun k d=>by dsimp only;rw [G5 Zq Zq,if_neg Zq,if_neg Zq];exact o k d⟩ Zy)
def hPush_ok (h:HeapP l l.length)(hL:l.length<1000000):CF G 256 [plI b,.iface 3 (I64 z)] ([plB b l]) (Ret fun v q'=> ∃ l',HeapP l' l'.length/\l'.Perm (z::l)/\q'= [plB b l']):=by
 refine We ntmps256 fun F cs=> ?_;apply Re (mPush (l:=l) (z:=z) Zq);rintro _ _ ⟨_,rfl,rfl⟩ _ a;simp only [ca,na] at a;subst a;refine Zz ?_;apply Re (mLen (l:=l++ [z]));rintro _ _ ⟨i,⟨rfl,g⟩,rfl⟩ _ a;simp only [ca,na] at a;subst a;subst g;have c:(l++ [z]).length=l.length+1:=Zf;refine Zz ?_;refine aX 10 (I64 l.length) rfl (aQ (Value.int .i64) (by rw [c];omega)) ?_;apply Wn (up_ok (l:=l++ [z]) (j:=l.length) h.app Zq Zq);rintro _ _ ⟨d,f,e,rfl⟩ _ a;simp only [ca,na] at a;subst a;refine Zm ([plB b d]) ?_;exact ⟨_,rfl,d,f,e.trans (List.perm_append_comm (l₁:=l) (l₂:= [z])),rfl⟩
def hPop_ok (h:HeapP l l.length)(h0:0<l.length)(hL:l.length<=1000000):CF G 253 [plI b] ([plB b l]) (Ret fun v q'=> ∃ x l',v= .iface 3 (I64 x)/\(x::l').Perm l/\(∀ y∈l',x<=y)/\HeapP l' l'.length/\q'= [plB b l']):=by
 refine We ntmps253 fun F cs=> ?_;apply Re (mLen (l:=l));rintro _ _ ⟨a,⟨rfl,r⟩,rfl⟩ _ c;simp only [ca,na] at c;subst c;subst r;refine Zz ?_;apply aX 8 (I64 ((a.length - 1:Nat):Int)) rfl (aQ (Value.int .i64) Zq);apply aX 3 (I64 ((a.length - 1:Nat):Int)) rfl (aQ (Value.int .i64) Zq);apply Re (Zbz (l:=a) (i:=0) (j:=a.length - 1) Zq Zq Zq);rintro _ _ ⟨_,rfl,rfl⟩ _ c;simp only [ca,na] at c;subst c;have e:HeapDn (sw a 0 (a.length - 1)) (a.length - 1) 0:=Zvy (n:=a.length - 1) (by rw [show a.length - 1+1=a.length by omega];exact h) Zq;refine Zz ?_;refine Wn (down_ok (l:=sw a 0 (a.length - 1)) (n:=a.length - 1) e (by rw [Ga];omega) (by rw [Ga];omega)) ?_;rintro _ _ ⟨m,p,f,q,rfl⟩ _ c;simp only [ca,na] at c;subst c;have d:=f.length_eq;rw [Ga] at d;refine Zz ?_;apply Re (mPop (l:=m) Zq Zq);rintro _ _ ⟨_,⟨x,rfl,o,rfl⟩,rfl⟩ _ c;simp only [ca,na] at c;subst c;obtain ⟨k,g⟩:=Zf8 h h0 f q o;refine Zg ?_;exact ⟨_,⟨_,rfl,x,_,rfl,k,g,HeapP.take (n:=m.length - 1) (by rw [d];exact p) Zq,rfl⟩,leA⟩
end
structure HI (D:List Int) (dn:List Bool) (l:List Int):Prop where
 len:dn.length=D.length
 mem: ∀ x:Int,x∈l↔0<=x/\Rq D dn x.toNat
 nd:l.Nodup
 hp:HeapP l l.length
 rng: ∀ i,dAt D i= -1\/(0<=dAt D i/\dAt D i<=25)
 dnp: ∀ i,dn.getD i false=true->0<=dAt D i
 cnt:l.length+D.count (-1)<=D.length
def dAt_ge (h:D.length<=i):dAt D i= -1:=by simp [dAt,aH,eK h]
def dAt_lt (h:0<=dAt D i):i<D.length:=by
 rcases dN i D.length with e|e
 . exact e
 rw [dAt_ge e] at h;omega
def Dg (h:i<D.length):dAt D i=D[i]:=by simp [dAt,aH,h]
def Zwt {b:Bool}(hi:i<dn.length):(dn.set i b).getD j false=if j=i then b else dn.getD j false:=by
 simp only [aH,kO];by_cases h:j=i
 . subst h;simp [hi]
 have a: ¬i=j:=fun e=>h e.symm
 simp [h,a]
theorem HI.nil (h:HI D dn []):Ma D dn=none:=
 Sd fun j _ a=>by
  have:=(h.mem (j:Int)).2 ⟨Zq,by simpa using a⟩;simp at this
def HI.pop {x:Int}(h:HI D dn l)(hp:(x::l').Perm l)(hy: ∀ y∈l',x<=y)(hh:HeapP l' l'.length):
 0<=x/\x.toNat<D.length/\Ma D dn=some x.toNat/\Rq D dn x.toNat/\HI D (dn.set x.toNat true) l':=by
 have s:x∈l:=hp.mem_iff.1 (bO ..);obtain ⟨u,f⟩:=(h.mem x).1 s;have a:=dAt_lt f.1;have m:=(hp.nodup_iff).2 h.nd;obtain ⟨o,n⟩:=jW.1 m;refine ⟨u,a,Zgc a f (fun j v p=> ?_),f,?_⟩
 . have q:(j:Int)∈l:=(h.mem j).2 ⟨Zq,by simpa using p⟩;rcases bS.1 (hp.mem_iff.2 q) with e|e
   . omega
   have:=hy _ e;omega
 have e:=fun j=>Zwt (dn:=dn) (i:=x.toNat) (j:=j) (b:=true) (by rw [h.len];exact a)
 refine ⟨by rw [aR];exact h.len,fun y=> ?_,n,hh,h.rng,fun i hi=> ?_,?_⟩
 . constructor
   . intro r;obtain ⟨k,g,d⟩:=(h.mem y).1 (hp.mem_iff.1 (bQ _ r));refine ⟨k,g,?_⟩;rw [e,if_neg (fun c=>o (by rw [show x=y by omega];exact r))];exact d
   rintro ⟨k,g,d⟩;rw [e] at d;split at d
   . cases d
   rename_i c;have:=(h.mem y).2 ⟨k,g,d⟩;rcases bS.1 (hp.mem_iff.2 this) with e|e
   . exact aV (by rw [e]) c
   exact e
 . rw [e] at hi;split at hi
   . rename_i c;rw [c];exact f.1
   exact h.dnp i hi
 have t:=hp.length_eq;have w:=h.cnt;rw [aJ] at t;omega
def HI.push {b:Int}(h:HI D dn l)(hi:i<D.length)(hd:dAt D i= -1)(hb:0<=b/\b<=25)(hp:l'.Perm ((i:Int)::l))(hh:HeapP l' l'.length):HI (D.set i b) dn l':=by
 have e:=fun j=>Pr (D:=D) (i:=i) (j:=j) (b:=b) hi
 have m:dn.getD i false=false:=by
  cases hc:dn.getD i false with
  |false=>rfl
  |true=>have:=h.dnp i hc;omega
 have g:(i:Int)∉l:=fun k=>by have:=((h.mem _).1 k).2.1;simp only [cG] at this;omega
 refine ⟨by rw [aR];exact h.len,fun y=> ?_,(hp.nodup_iff).2 (jW.2 ⟨g,h.nd⟩),hh,fun j=> ?_,fun j n=> ?_,?_⟩
 . rw [hp.mem_iff,bS];constructor
   . rintro (rfl|k)
     . refine ⟨Zq,?_,by simpa using m⟩;rw [e];simp [hb.1]
     obtain ⟨f,c,d⟩:=(h.mem y).1 k;refine ⟨f,?_,d⟩;rw [e];split
     . exact hb.1
     exact c
   rintro ⟨f,c,d⟩;rw [e] at c;split at c
   . left;omega
   exact .inr ((h.mem y).2 ⟨f,c,d⟩)
 . rw [e];split
   . exact .inr hb
   exact h.rng j
 . rw [e];split
   . exact hb.1
   exact h.dnp j n
 have o:=List.count_set (a:=b) (b:=(-1:Int)) hi;rw [o,aR,hp.length_eq,aJ];rw [Dg hi] at hd;have s:0<D.count (-1):=List.count_pos_iff.2 (hd ▸ aC hi);have r:=h.cnt;have q:(D[i]==(-1:Int))=true:=by rw [hd];rfl
 have p:(b==(-1:Int))=false:=dD.2 Zq;rw [q,p];simp;omega
def HI.init (hn:0<n):HI ((List.replicate n (-1)).set 0 0) (List.replicate n false) [0]:=by
 have e:=fun j=>Pr (D:=List.replicate n (-1)) (i:=0) (j:=j) (b:=0) (by simpa using hn)
 have d: ∀ j,dAt (List.replicate n (-1)) j= -1:=fun j=>by
  unfold dAt;rw [aH,List.getElem?_replicate];split<;>rfl
 have c: ∀ j,(List.replicate n false).getD j false=false:=fun j=>by
  rw [aH,List.getElem?_replicate];split<;>rfl
 refine ⟨Zf,fun x=> ?_,Zf,fun k l f=>by simp at f;omega,fun i=> ?_,fun i hi=>(by rw [c] at hi;cases hi),?_⟩
 . rw [bE];constructor
   . rintro rfl;exact ⟨Zq,by rw [e];simp,c _⟩
   rintro ⟨h,a,g⟩;rw [e,d] at a;split at a<;>omega
 . rw [e,d];split<;>simp
 rw [List.count_set (by simpa using hn)];simp;omega
def noFalse {a:Nat}(h:(dn.filter (· ==false)).length=0)(ha:a<dn.length):dn.getD a false=true:=by
 have b:=aW h;rw [List.filter_eq_nil_iff] at b;have:=b dn[a] (aC ha);simp [List.getD,ha];simpa using this
def fil_set: ∀ (dn:List Bool) (a:Nat),a<dn.length->dn.getD a false=false->((dn.set a true).filter (· ==false)).length+1=(dn.filter (· ==false)).length:=by
 intro dn
 induction dn with
 |nil=>intro a h;simp at h
 |cons x r ih=>
  intro a b h
  cases a with
  |zero=>simp at h;subst h;simp
  |succ a=>
   have:=ih a (by simpa using b) (by simpa using h)
   cases x
   . simp only [List.set_cons_succ,jM,beq_self_eq_true,if_true,aJ];omega
   simpa using this
def dOf (m:Mdl)(t:Cod):List Int×Int:=
 if t.ins.length=0 then ([],170) else if ¬ (∀ x∈t.ins,Bk m t x) then ([],171) else P6 (Ng t) t.ins.length ((List.replicate t.ins.length (-1)).set 0 0) (List.replicate t.ins.length false)
def thrS_end (k:Nat)(h:HI D dn []):P6 ins k D dn=(D,0):=by
 cases k with
 |zero=>rfl
 |succ k=>unfold P6;rw [h.nil]
def fil_pos {a:Nat}(ha:a<dn.length)(h:dn.getD a false=false):0<(dn.filter (· ==false)).length:=by
 rcases cQ (dn.filter (· ==false)).length with e|e
 . have:=noFalse e ha;rw [h] at this;cases this
 exact e
def fill_eq (h:D.length=N)(h2: ∀ i (hi:i<D.length),i<N->D[i]= -1):D=List.replicate N (-1):=by
 refine List.ext_getElem (by simp [h]) fun i a b=> ?_;rw [List.getElem_replicate];exact h2 i a Zq
def Zfd {a:Nat}(h:Ma D dn=some a):P6 ins (k+1) D dn=if (Jy ins a (dAt D a)).2≠0 then ([],(Jy ins a (dAt D a)).2) else match Ji (Jy ins a (dAt D a)).1 D (D9 (ins.getD a zI) a) with
 |none=>([],174)
 |some D'=>P6 ins k D' (dn.set a true):=by
 conv=>lhs;unfold P6
 rw [h]<;>rfl
def oneS_le {a:Nat}(h:(Jy ins a d).2=0):(Jy ins a d).1<=25:=by
 unfold Jy at h|-;simp only at h|-;split at h
 . cases h
 rename_i e;split at h
 . cases h
 rename_i c;split at h
 . cases h
 rename_i b;rw [if_neg e,if_neg c,if_neg b];dsimp only;omega
structure VI (D0:List Int) (dn:List Bool) (b:Int) (xs:List Int) (k:Nat) (s:List Int×List Int):Prop where
 hi:HI s.1 dn s.2
 len:s.1.length=D0.length
 go:Ji b D0 xs=Ji b s.1 (xs.drop k)
def viH (D:List Int)(dn:List Bool)(b:Int)(xs:List Int)(g N nb k:Nat):HP:=ex fun s:List Int×List Int=>stars [Wx.pure (VI D dn b xs k s),lsH I64 3 (some ⟨g,0,none⟩) N s.1,plB nb s.2]
def Zvl {b:Int}{g:Nat}(s:List Int×List Int)(h:VI D dn b xs k s)(hle:Le q (lsH I64 3 (some ⟨g,0,none⟩) N s.1::plB nb s.2::r)):Le q (viH D dn b xs g N nb k::r):=
 Vt s (hle.trans ((Yu h _).trans (by exact Zh [_,_,_] r)))
def X.viH {p:PE}{b:Int}{g:Nat}
 (x: ∀ D' l',VI D dn b xs k (D',l')->X P G f Q todo p ds cs (lsH I64 3 (some ⟨g,0,none⟩) N D'::plB nb l'::q)):X P G f Q todo p ds cs (Go.Proofs.YtadahhbefdnabaaGreatDoor.viH D dn b xs g N nb k::q):=
 X.ex (fun s=>cE (Zb _ _) (kP (fun h=>x s.1 s.2 h)))
def nxt_mem (h:M3 x)(a:Nat): ∀ y∈nxt x (a:Int),0<=y:=by
 intro y b;have d:=h.2.1;unfold nxt at b
 have e:(x.c=19\/x.c=20\/x.c=21)->0<=x.a:=fun hc=>by
  rw [if_pos (by unfold nmA;exact dB Zq)] at d;exact d.1
 (repeat' split at b)<;>simp at b<;>first|(have:=e Zq;omega)|omega
theorem VI.step {D0:List Int}{b:Int}{y:Nat}(h:VI D0 dn b xs k (D,l))(hk:k<xs.length)(hy:xs[k]=(y:Int))(hyl:y<D.length):Ji b D0 xs=if 0<=D[y]/\D[y]≠b then none else Ji b (D.set y b) (xs.drop (k+1)):=by
 rw [h.go,aP hk,hy]
 conv=>lhs;unfold Ji
 simp only [cG,Dg hyl]
section
variable {d:Nat}{n:Int}{t:Cod}
variable {n:Nat}
abbrev AL (v0)(v1:Cod):=([.slice (some ⟨v0,0,none⟩) v1.ins.length v1.ins.length]:List Value)
def Zkz (g:GE q)(hm:CellsAt q pm om (J0 m))(ht:CellsAt q pth ot (Vs t))(hq:CodQ q t)(hin: ∀ x∈t.ins,M3 x)(hL:t.ins.length<=65536):CF G 189 (A6 pm om pth ot) (q) (Ret fun v q'=>((dOf m t).2≠0/\v= .tuple [.slice none 0 0,I64 (dOf m t).2].toArray/\q'=q)\/((dOf m t).2=0/\ ∃ a' c',v= .tuple [.slice a' (dOf m t).1.length c',I64 0].toArray/\q'=lsH I64 3 a' c' (dOf m t).1::q)):=by
 refine aE ntmps189 fun F cs=> ?_;have hs:=hq.i;have p0:=Zx (f:=Y7) (sz:=4) (fun _=>rfl) t.ins;have hc: ∀ x∈t.ins,1<=x.c/\x.c<=34:=fun x hx=>(hin x hx).1
 apply xo 12;refine ld ?_ (hc:=((ht 2 _ rfl).le leA));refine Zp ?_ ?_<;>intro h0
 . refine Zz ?_;have hD:dOf m t=([],170):=by unfold dOf;rw [if_pos Zq]
   refine Zm (q) ?_;exact ⟨_,rfl,.inl ⟨by rw [hD];decide,by rw [hD],rfl⟩⟩
 have hN:0<t.ins.length:=Zq;refine Zz ?_;apply bD (Zjm (hm.le leA) (ht.le leA) (hq.le leA));refine Zp ?_ ?_<;>intro h1
 . refine Zz ?_;have hD:dOf m t=([],171):=by unfold dOf;rw [if_neg Zq,if_pos (by simpa using h1)]
   refine Zm (q) ?_;exact ⟨_,rfl,.inl ⟨by rw [hD];decide,by rw [hD],rfl⟩⟩
 have d:dOf m t=P6 (Ng t) t.ins.length ((List.replicate t.ins.length (-1)).set 0 0) (List.replicate t.ins.length false):=by unfold dOf;rw [if_neg Zq,if_neg (by simpa using h1)]
 generalize dOf m t=T at d|-;apply xo 7;refine ld ?_ (hc:=((ht 2 _ rfl).le leA));refine Zz ?_;apply bU (Ef.make (n:=t.ins.length) rfl rfl underlying23 Pw rfl rfl Zq Zq);rintro _ _ ⟨w,rfl,rfl⟩;refine eN (q':=lsH I64 3 (some ⟨w,0,none⟩) t.ins.length (List.replicate t.ins.length 0)::_) (aK Zj (by rw [show lsH I64 3 (some ⟨w,0,none⟩) t.ins.length (List.replicate t.ins.length 0)=slH (some ⟨w,0,none⟩) t.ins.length 3 1 t.ins.length ((List.replicate t.ins.length (Value.cells (I64 0)).toList).flatten) from by unfold lsH;rw [dA];congr 1;induction t.ins.length with|zero=>rfl|succ n ih=>simp [List.replicate_succ,Value.cells] at*];exact aG _)) ?_;refine Zo zeroValue23 fun n1=> ?_
 refine Zs (bW (fun (s:List Int×Nat)=>s.1.length=t.ins.length/\s.2<=t.ins.length/\ ∀ i (h:i<s.1.length),i<s.2->s.1[i]= -1) (fun s=> [(32,I64 (s.2:Int)),(31,I64 t.ins.length),(6,pt n1),(5,I64 0),(4,.slice none 0 0),(0,.pointer (some ⟨pm,om,none⟩)),(1,.pointer (some ⟨pth,ot,none⟩))]) (fun s=>pC n1 (AL w t) 23::lsH I64 3 (some ⟨w,0,none⟩) t.ins.length s.1::(q++F)) (fun s=>t.ins.length - s.2) (fun s a0 ih=> ?_) (List.replicate t.ins.length 0,0) ⟨Zf,Zq,fun i _ h=>aV h (iV _)⟩);try dsimp only at a0 ih|-
 obtain ⟨r0,z1,l0⟩:=a0;obtain ⟨D,k⟩:=s;dsimp only at*;refine Zp ?_ ?_<;>intro h2
 . refine Zz ?_;apply cU (Mh (l:=D) (n:=k) (u:= -1) rfl rfl sizeOf3 rfl Zq rfl rfl Zj);rintro _ _ ⟨rfl,rfl⟩;refine Zs (ih (D.set k (-1),k+1) ⟨by rw [aR];exact r0,Zy,fun i hh hk=>by dsimp only at hk hh|-;rw [List.getElem_set];split;rfl;exact l0 i (by rw [aR] at hh;exact hh) Zq⟩ Zy)
 have o0:D=List.replicate t.ins.length (-1):=fill_eq r0 (fun i h1 h3=>l0 i h1 Zq);clear l0;refine Zz ?_;apply cU (Mh (l:=D) (n:=0) (u:=0) rfl rfl sizeOf3 rfl Zq rfl rfl Zj);rintro _ _ ⟨rfl,rfl⟩;refine Zz ?_;apply bU (Qu I64 [0] underlying411 Pw rfl rfl rfl rfl rfl rfl (fun _=>rfl));rintro _ _ ⟨g1,rfl,rfl⟩;refine Yb fun n2=> ?_
 refine Zo zeroValue410 fun n3=> ?_
 refine Zo zeroValue34 fun n4=> ?_
 refine Zz ?_;subst o0;refine cH (Zb5 (fun (s:List Int×List Bool×List Int×Nat×List Nat)=>HI s.1 s.2.1 s.2.2.1/\s.1.length=t.ins.length/\(s.2.1.filter (· ==false)).length<=s.2.2.2.1/\P6 (Ng t) s.2.2.2.1 s.1 s.2.1=T) (fun s=> [(8,pt n3),(9,pt n4),(6,pt n1),(5,I64 0),(4,.slice none 0 0),(0,.pointer (some ⟨pm,om,none⟩)),(1,.pointer (some ⟨pth,ot,none⟩))]) (fun s=>s.2.2.2.2.map markD++ []) (fun s=>mks s.2.2.2.2::pC n1 (AL w t) 23::lsH I64 3 (some ⟨w,0,none⟩) t.ins.length s.1::plB n2 s.2.2.1::pC n3 [pt n2] 410::pC n4 zz5 34::(q++F)) (fun s=>s.2.2.2.1) (fun s a0 ih=> ?_) ((List.replicate t.ins.length (-1)).set 0 0,List.replicate t.ins.length false, [0],t.ins.length, []) ⟨HI.init hN,Zf,dO (gB _ _) Zf,d.symm⟩) Z5 (by refine aK ?_ (Il _);refine bC Zj (bC Zj (Le.bx (a:=some ⟨g1,0,none⟩) (c:=1) ?_));exact leA);try dsimp only at a0 ih|-
 obtain ⟨hI,v0,s1,d⟩:=a0;skip;obtain ⟨D,dn,l,fu,rs⟩:=s;dsimp only at hI v0 s1 d ih|-;have y1:l.length<=65536:=by have:=hI.cnt;omega
 refine cE (q':=plB n2 l::_) Zj (X.bx (fun a1 c1=> ?_));refine Zz ?_;apply Wn (Zjj (b:=n2));refine kd0 ?_;refine Zz ?_;apply cE (q':=plB n2 l::_) (Le.bx (a:=a1) (c:=c1) (bC Zj Zj));refine Zp ?_ ?_<;>intro h3
 . refine Zz ?_;apply Wn (hPop_ok (b:=n2) hI.hp Zq Zq);rintro _ _ ⟨x,l',rfl,q1,m1,j1,rfl⟩ _ e_;simp only [ca,na] at e_;subst e_;obtain ⟨x1,o,q0,e0,u0⟩:=hI.pop q1 m1 j1;obtain ⟨a,rfl⟩: ∃ a:Nat,x=a:=⟨x.toNat,Zq⟩;simp only [cG] at o q0 e0 u0;have b2:=fil_pos (a:=a) (dn:=dn) (by rw [hI.len];exact o) e0.2;have a2:=fil_set dn a (by rw [hI.len];exact o) e0.2;obtain ⟨fv,rfl⟩: ∃ f,fu=f+1:=⟨fu - 1,Zq⟩;rw [Zfd q0,Dg o] at d;have d1:=hI.rng a;have i0:=e0.1;rw [Dg o] at d1 i0;have b0:a<t.ins.length:=Zq;apply Va (Ip rfl underlying3 rfl);refine Zz ?_;refine ld ?_ (hc:=(gF (bV _) Zj o rfl));apply bD (look_ok (n:=a) (dep:=D[a]) (g.le leA) (ht.le leA) (hq.le leA) hc hL b0 Zq);have p:(Jy (Ng t) a D[a]).2=0->(∀ x∈D9 ((Ng t).getD a zI) a,x<((Ng t).length:Int))/\0<=(Jy (Ng t) a D[a]).1/\(Jy (Ng t) a D[a]).1<=25:=fun h=>⟨(O4 h).1,(O4 h).2.1 i0,oneS_le h⟩
   generalize Jy (Ng t) a D[a]=O at d p|-;refine Zo zeroValue3 fun n5=> ?_
   refine Wg ?_ ?_<;>intro h4
   . have k0:O.2≠0:=by simpa using h4
     refine rn [4,0,5,0,2] ?_;refine iJ 96 ?_ rfl (by rw [jI];exact k0);refine Ye ?_;have d0:T=([],O.2):=by rw [if_pos k0] at d;exact d.symm
     refine iH ⟨rfl,?_⟩;refine Lv.mks ?_;exact fS (q':=q) func189 (res2 results189 rfl rfl) ⟨_,rfl,.inl ⟨by rw [d0];exact k0,by rw [d0],rfl⟩⟩ leB
   replace h4:=sp h4;rw [if_neg Zq,Nt b0] at d;obtain ⟨p,v1,u1⟩:=p Zq;rw [Nt b0,Me] at p;rw [<-Zwz] at p d;apply xo 7;refine ld ?_ (hc:=((ht 2 _ rfl).le leA));refine Zz ?_;refine J9 hs (by rw [p0];omega) fun b1 o1 e1=> ?_;have n0:=hs;rw [e1] at n0;refine aX 68 (.slice (some ⟨b1,o1,none⟩) t.ins.length t.ic) rfl (by rw [e1]) ?_;refine Zz ?_;apply Jb (n:=a) isAgg222 sizeOf222 n0 b0;refine Zz ?_;apply Wn (Xm (x:=t.ins[a]));refine kd2 fun p1 p2=> ?_
   refine Zz ?_;refine cE (q':=pC p1 (Y7 t.ins[a]) 222::_) Zj (fX ?_);refine cE (q':=pC p2 (Aw a) 3::_) Zj (fX ?_);have y0: ∀ y∈nxt t.ins[a] (a:Int),0<=y/\y<t.ins.length:=fun y hy=>⟨nxt_mem (hin _ (aC b0)) a y hy,p y hy⟩
   refine X.range [im p1 (.cells (Y7 t.ins[a]).toArray 222 (0,0)),im p2 (AQ a)] (fun k=>viH D (dn.set a true) O.1 (nxt t.ins[a] (a:Int)) w t.ins.length n2 k::pC n1 (AL w t) 23::pC n3 [pt n2] 410::pC n4 zz5 34::pC n5 [I64 O.1] 3:: []) (fun e qs=>e= .exit 2/\qs=Wx.pure (Ji O.1 D (nxt t.ins[a] (a:Int))=none)::pC n4 [I64 174] 34:: []) (F:=mks rs::(q++F)) (Ce (x:=t.ins[a]) ⟨Zq,Zq⟩) rfl ?_ (by intro x hx;obtain ⟨y,_,rfl⟩:=cF.1 hx;rfl) rfl (by rw [func189];rfl) rfl (fun i hi l2 rec F0 d2=> ?_) (fun r=> ?_) fun r c2 w1 hJ=> ?_
   . simp only [ca,na];refine Zvl (D,l') ⟨u0,rfl,Zf⟩ ?_;exact leA
   . have s0:i<(nxt t.ins[a] (a:Int)).length:=by simpa using hi
     rw [fN];simp only [Pe,ivs];have x0:=y0 _ (aC s0);obtain ⟨y,hy⟩: ∃ y:Nat,(nxt t.ins[a] (a:Int))[i]=(y:Int):=⟨((nxt t.ins[a] (a:Int))[i]).toNat,Zq⟩;rw [hy] at x0|-;simp only [ca,na];refine cE (q':=viH D (dn.set a true) O.1 (nxt t.ins[a] (a:Int)) w t.ins.length n2 i::_) Zj (X.viH (fun D1 l1 hV=> ?_));have c0:=hV.len;dsimp only at c0;have j:y<D1.length:=Zq;have j0:=hV.step s0 hy j;have f0:=hV.hi.rng y;dsimp only at f0;rw [Dg j] at f0;have t1:=hV.hi.cnt;dsimp only at t1;refine Zz ?_;apply gE rfl leA;refine Zz ?_;refine ld ?_ (hc:=(gF (bV _) Zj j rfl));refine Zp ?_ ?_<;>intro k1
     . refine Zz ?_;apply cU (Mh (l:=D1) (n:=y) (u:=O.1) rfl rfl sizeOf3 rfl j rfl rfl Zj);rintro _ _ ⟨rfl,rfl⟩;refine Zz ?_;apply Wn (hPush_ok (b:=n2) (l:=l1) (z:=(y:Int)) hV.hi.hp Zq);rintro _ _ ⟨w0,i1,f1,rfl⟩ _ e_;simp only [ca,na] at e_;subst e_;refine Zz ?_;refine gK ⟨rfl,rfl,?_⟩;simp only [ca,na];refine bC Zj (Zvl (D1.set y O.1,w0) ⟨hV.hi.push j (by rw [Dg j];exact k1) ⟨v1,u1⟩ f1 i1,by rw [aR];exact c0,by rw [j0,if_neg Zq]⟩ ?_);exact leA
     refine Zz ?_;refine ldD 3 ?_ (hc:=(gF (bV _) Zj j rfl));refine Zp ?_ ?_<;>intro k2
     . refine Zz ?_;refine X.out rfl ⟨rfl,rfl,_,⟨rfl,rfl⟩,?_⟩;simp only [ca,na];refine bC Zj (aK ?_ (Yu (show Ji O.1 D (nxt t.ins[a] (a:Int))=none by rw [j0,if_pos ⟨Zq,Zq⟩]) _));exact leA
     refine Zz ?_;have z0:D1.set y O.1=D1:=by rw [<-k2];exact eG j
     refine gK ⟨rfl,rfl,?_⟩;simp only [ca,na];refine bC Zj (Zvl (D1,l1) ⟨hV.hi,c0,by rw [j0,if_neg Zq,z0]⟩ ?_);exact leA
   . simp only [ca,na];rw [aI];refine cE (q':=viH D (dn.set a true) O.1 (nxt t.ins[a] (a:Int)) w t.ins.length n2 (nxt t.ins[a] (a:Int)).length::_) Zj (X.viH (fun D1 l1 hV=> ?_));have c0:=hV.len;have t0:=hV.hi;have m0:=hV.go;dsimp only at c0 t0 m0;rw [dU] at m0;rw [m0] at d;simp only [Ji] at d;refine Zz ?_;refine cH (ih (D1,dn.set a true,l1,fv,r::rs) ⟨t0,Zy,Zy,d⟩ Zy) Z5 (by refine aK ?_ (C7 _ _ _);exact leB)
   obtain ⟨rfl,rfl⟩:=hJ;simp only [ca,na];refine cE (q':=Wx.pure (Ji O.1 D (nxt t.ins[a] (a:Int))=none)::_) Zj (kP (fun hP=> ?_));rw [hP] at d;dsimp only at d;refine Ye ?_;refine iJ 96 ?_ rfl (by rw [jI];decide);refine Ye ?_;have d0:T=([],174):=d.symm;refine iH ⟨rfl,?_⟩;refine Kx ?_;refine Lv.mks ?_;exact fS (q':=q) func189 (res2 results189 rfl rfl) ⟨_,rfl,.inl ⟨by rw [d0];decide,by rw [d0],rfl⟩⟩ leB
 have r1:l= []:=aW Zq;rw [r1] at hI;rw [thrS_end fu hI] at d;refine Zz ?_;refine iH ⟨rfl,?_⟩;refine Lv.mks ?_;exact fS (q':=(lsH I64 3 (some ⟨w,0,none⟩) t.ins.length D::q)) func189 (res2 results189 rfl rfl) ⟨_,rfl,.inr ⟨by rw [<-d],_,_,by rw [<-d,v0],by rw [<-d]⟩⟩ leB
end
end Go.Proofs.YtadahhbefdnabaaGreatDoor
