/- Contracts. -/
import Derived.Test.YtflkjkhijcdbaaaGreatNe
set_option maxHeartbeats 16000000
set_option maxRecDepth 100000
set_option linter.all false
namespace Go.Proofs.YtflkjkhijcdbaaaGreat
open Go Go.RowKit Wx Go.Proofs.Tryz
attribute [local irreducible] lsH rsH stars
variable {B nb p c n pa pp b o i N who:Nat}{k lo d slot sl ot:Int}{q q':List HP}{P:Program}{G:World}{a:Option Addr}{l:List Int}{M M':Hp}{g:FC}{bb loc:Bool}{x1:Value}{s:Sy}{u:Int->Bool}
theorem Ni:(prog.info? 55).map (fun i=>(i.zero,i.size,i.bytes))=some (some (.agg #[.string ⟨#[]⟩,I64 0,.slice none 0 0]),3,48):=by kernel_rfl
theorem Ra:(prog.info? 9).map (fun i=>(i.zero,i.size,i.bytes))=some (some (.string ⟨#[]⟩),1,16):=by kernel_rfl
abbrev zEx:Ex:= .mk 0 0 ⟨#[]⟩ 0 false 0 [] none 0
abbrev zSm:Stm:= .mk 0 0 0 ⟨#[]⟩ ⟨#[]⟩ zEx zEx [] [] none 0 none 0 0 0 0 false
mutual
theorem Ed: ∀ {x y:Ex},x.er=y.er->x.sz=y.sz
 | .mk ..,.mk ..,h=>by
  simp only [Ex.er,PEx.mk.injEq] at h;simp only [Ex.sz,F2 h.2.2.2.2.2.2]
theorem F2: ∀ {l m:List Ex},Z3 l=Z3 m->Qe l=Qe m
 | [], [],_=>rfl
 | [],_::_,h=>by simp [Z3] at h
 |_::_, [],h=>by simp [Z3] at h
 |x::l,y::m,h=>by
  simp only [Z3,gP] at h;simp only [Qe,Ed h.1,F2 h.2]
end
mutual
theorem Zzt {B:Nat}: ∀ {x y:Stm},x.er=y.er->y.lm B->x.lm B
 | .mk ..,.mk ..,h,⟨h1,h2,h3,h4⟩=>by
  simp only [Stm.er,PStm.mk.injEq] at h;obtain ⟨_,_,_,_,_,d,c,b,a,_⟩:=h;exact ⟨Ed d ▸ h1,Ed c ▸ h2,K9 b h3,K9 a h4⟩
theorem K9 {B:Nat}: ∀ {l m:List Stm},Zj l=Zj m->Wa B m->Wa B l
 | [],_,_,_=>trivial
 |_::_, [],h,_=>by simp [Zj] at h
 |x::l,y::m,h,⟨h1,h2⟩=>by
  simp only [Zj,gP] at h;exact ⟨Zzt h.1 h1,K9 h.2 h2⟩
end
def cbI (B:List PStm)(k nb:Nat):HP:=ex fun x:List Stm×Option Addr×Nat=>stars [pure (Zj x.1=Mm ((Z0 B 1).take k)),pto nb (.cells [.slice x.2.1 x.1.length x.2.2].toArray 53 (0,0)),rsH stC 25 126 x.2.1 x.2.2 x.1,stsM x.1]
theorem Ik {B:List PStm}{k:Nat}{r:List HP}(x:List Stm×Option Addr×Nat)(h:Zj x.1=Mm ((Z0 B 1).take k))(hle:Le q (pto nb (.cells [.slice x.2.1 x.1.length x.2.2].toArray 53 (0,0))::rsH stC 25 126 x.2.1 x.2.2 x.1::stsM x.1::r)):Le q (cbI B k nb::r):=
 Em x (hle.trans ((Ql h _).trans (by exact Z5 [_,_,_,_] r)))
theorem X.cbI {f:Fc}{Q:Yn}{todo:List Item}{p:PE}{ds:List Deferred}{cs:List Frame}{B:List PStm}{k:Nat}
 (x: ∀ (l:List Stm) (a:Option Addr) (c:Nat),Zj l=Mm ((Z0 B 1).take k)->X P G f Q todo p ds cs (pto nb (.cells [.slice a l.length c].toArray 53 (0,0))::rsH stC 25 126 a c l::stsM l::q)):X P G f Q todo p ds cs (Go.Proofs.YtflkjkhijcdbaaaGreat.cbI B k nb::q):=
 X.ex (fun s=>bY (Z1 _ _) (X.pure (fun h=>x s.1 s.2.1 s.2.2 h)))
theorem ones_len (l:List (Int×PStm)):(Mm l).length<=l.length:=by unfold Mm;rw [aU];exact gV _ _
mutual
theorem Lq: ∀ (s:Stm) (d:Int),(s.er.its d).length=s.sz
 | .mk _ _ _ _ _ _ _ body els _ _ _ _ _ _ _ _,d=>by simp only [Stm.er,PStm.its,bG,aG,Stm.sz,V0 body,V0 els]
theorem V0: ∀ (l:List Stm) (d:Int),(Z0 (Zj l) d).length=Zm l
 | [],_=>rfl
 |s::r,d=>by simp only [Zj,Z0,aG,Zm,Lq s,V0 r]
end
theorem Im (a b:List Stm):Zj (a++b)=Zj a++Zj b:=by rw [Yf,Yf,Yf,aM]
section
variable {l:List Stm}
theorem Pa (hB:B<=1000000)(hs:Zm l<=1000000)(hb:Wa B l)(hK:Kn q fun M=>BlkAt M a c l):CallF prog G 82 [.slice a l.length c] (q) (Ret fun v q'=> ∃ (l':List Stm) (a':Option Addr) (c':Nat),Zj l'=Zj l/\v= .slice a' l'.length c'/\q'=blM a' c' l'::q):=by
 refine aC func82 ntmps82 rfl fun F cs=> ?_;refine xo 6 ?_;refine bW zeroValue53 fun n1=> ?_
 refine oo 6 ?_;refine Zb call124 (aE _) (Stmts_ok (l:=l) hB hs hb (hK.le leA)) ?_;rintro _ _ ⟨l2,a2,c2,nb,c0,rfl,rfl⟩;refine ox 2 ?_;have g0:Zm l2=Zm l:=by rw [<-V0 l2 0,<-V0 l 0,c0]
 refine bY (q':=pto nb (.cells [.slice a2 l2.length c2].toArray 53 (0,0))::_) leA (X.freeze ?_);have f0:=K9 c0 hb;refine X.rangeR (xs:=Z0 (Zj l2) 1) [im nb (.cells [.slice a2 l2.length c2].toArray 53 (0,0)),blM a2 c2 l2] (fun k:Nat=> [cbI (Zj l2) k n1]) (fun _ _=>False) (F:=q++F) (L8 (B:=B) (by omega) (by omega) f0 (Kn.blM.there) (iZ (Has.im _ _ _))) rfl ?_ (by rintro _ _ _ ⟨_,_,rfl,_⟩;rfl) rfl (by rw [func82];rfl) rfl (fun i hi vs A hA l9 rec F0 j0=> ?_) (fun r=> ?_) (fun _ _ _ hJ=>hJ.elim)
 . simp only [ca,na];refine Ik ([],none,0) (by simp [Zj,Mm]) ?_;exact aS leA (aS (Zi stC 25 126 _) (aS Hk leA))
 . obtain ⟨s2,e0,rfl,rfl⟩:=hA;obtain ⟨x,hx⟩:=kL (Z0 (Zj l2) 1)[i];rw [<-hx] at e0|-;have d0:=Zq5 hi;rw [<-hx] at d0;refine X.sub (p':= [(10,_),(9,_),(8,_),(3,_),(2,_)]) ⟨rfl,rfl,rfl,rfl,rfl,trivial⟩ ?_;simp only [ca,na];refine bY (q':=cbI (Zj l2) i n1::_) Zk (X.cbI (fun d a1 c1 h1=> ?_));have i0:d.length<=1000000:=by have e1:=bK List.length h1;rw [Zg] at e1;have e2:=ones_len ((Z0 (Zj l2) 1).take i);rw [bH,V0] at e2;omega
   obtain ⟨kk,ln,cl,nm,wt,⟨ek,en,y,s,z,w,el,ea,ec⟩,⟨xk,xn,h,xsl,p,e,xl,xa,xc⟩,bd,t,ba,bc,b0,a0,id,sl,ot,lo⟩:=s2;refine xo 5 ?_;refine bW zeroValue126 fun n2=> ?_
   refine rn [0,1] ?_;refine X.beginRound rfl leA ?_;refine xx 6 ?_;refine xp 12 ?_ ?_<;>intro h0
   . refine rn [1,0,1,2,3] ?_;refine fC 3 rfl (Yz (u:=zSm) stC underlying53 V7 rfl rfl Z8 rfl) ?_;rintro _ _ ⟨g,rfl,rfl⟩;refine ⟨hlA,?_⟩;refine fC 4 rfl (Z9 (f:=stC) (l:=d) (m:= [zSm]) underlying53 V7 rfl rfl Z8 rfl rfl Zk ((bE _).le Zk) H9 (by simp;omega) (by simp;omega)) ?_;refine kk2 fun a3 c3=> ?_
     refine P5 (l:=d++ [zSm]) (by simp) fun g3 e3=> ?_;subst e3;refine Vz 5 rfl (Pu.indexAddr rfl rfl underlying53 sizeOf126 (by omega) (by simp;omega)) ?_;refine Yo (fl:= []) (XF.two 6 7 trivial (D7 6 (fun E=>Zz3 (fl:=stC) (l:=d++ [zSm]) (u:=(Stm.mk kk ln cl nm wt (Ex.mk ek en y s z w el ea ec) (Ex.mk xk xn h xsl p e xl xa xc) bd t ba bc b0 a0 id sl ot lo)) (n:=d.length) (j:=(d.length:Int)) (g:=g3) (c:=c3) (et:=126) rfl rfl sizeOf126 Z8 rfl (by simp) (H9 _) Zk E) ?_) (D7 7 (fun E=>Ef.stE (b:=n1) (o:=0) (l:= [.slice a1 d.length c1]) (v:= .slice (some ⟨g3,0,none⟩) (d++ [zSm]).length c3) (t':=53) sizeOf53 rfl rfl rfl rfl Zk rfl E) ?_))
     focus
      rintro _ _ ⟨rfl,rfl⟩;refine ⟨trivial,eT ?_⟩;refine stD 7 ?_
     rotate_left
     focus
      rintro _ _ ⟨rfl,rfl⟩;refine ⟨trivial,eT ?_⟩;refine iQ 6 rfl (Lo (a:=none) (fl:=stC) (l:=d++ [zSm]) (u:=(Stm.mk kk ln cl nm wt (Ex.mk ek en y s z w el ea ec) (Ex.mk xk xn h xsl p e xl xa xc) bd t ba bc b0 a0 id sl ot lo)) (n:=d.length) rfl rfl sizeOf126 Z8 rfl (by simp) (H9 _) Zk) ?_;refine kk0 ?_
     all_goals
      refine rn [0,1] ?_;rw [show (d++ [zSm]).set d.length (Stm.mk kk ln cl nm wt (Ex.mk ek en y s z w el ea ec) (Ex.mk xk xn h xsl p e xl xa xc) bd t ba bc b0 a0 id sl ot lo)=d++ [(Stm.mk kk ln cl nm wt (Ex.mk ek en y s z w el ea ec) (Ex.mk xk xn h xsl p e xl xa xc) bd t ba bc b0 a0 id sl ot lo)] by simp];refine bY (q':=stsM (d++ [(Stm.mk kk ln cl nm wt (Ex.mk ek en y s z w el ea ec) (Ex.mk xk xn h xsl p e xl xa xc) bd t ba bc b0 a0 id sl ot lo)])::_) (aS (bM Zk Zk) H5) ?_;refine X.fall ⟨rfl,rfl,?_⟩;simp only [ca,na];refine bM Zk (Ik (d++ [(Stm.mk kk ln cl nm wt (Ex.mk ek en y s z w el ea ec) (Ex.mk xk xn h xsl p e xl xa xc) bd t ba bc b0 a0 id sl ot lo)],some ⟨g3,0,none⟩,c3) (by rw [Im,h1,d0,if_pos h0,<-e0];rfl) ?_);rw [show (d++ [zSm]).length=(d++ [(Stm.mk kk ln cl nm wt (Ex.mk ek en y s z w el ea ec) (Ex.mk xk xn h xsl p e xl xa xc) bd t ba bc b0 a0 id sl ot lo)]).length by simp];exact leA
   refine xx 3 ?_;refine X.fall ⟨rfl,rfl,?_⟩;simp only [ca,na];refine bM Zk (Ik (d,a1,c1) (by rw [h1,d0,if_neg h0,cA]) leA)
 simp only [ca,na];refine bY (q':=cbI (Zj l2) (Z0 (Zj l2) 1).length n1::_) Zk (X.cbI (fun d a1 c1 h1=> ?_));rw [cD,C3,c0] at h1;refine bY (q':=rsH stC 25 126 a1 c1 d::stsM d::_) (bM Zk Zk) ?_;refine X.frzR (Kn.blk Kn.stsM) (mn:=BlkAt.mono) ?_ (hq:=aE _);refine rn [3,0,2] ?_;exact X.ret ⟨rfl,Eh (q':=blM a1 c1 d::(q++F)) (jG (q':=blM a1 c1 d::q) func82 (Zn results82 rfl) ⟨_,rfl,d,a1,c1,h1,rfl,rfl⟩ leA) (hq:=bM Zk leA)⟩
theorem Q1 (x:Th):(thC x).length=3:=rfl
theorem O1 (x:Th):(thC x).all (·.oneCell')=true:=rfl
theorem Kd {l:List ByteArray}(hs:Sees q a (l.map Value.string))(hL:l.length<=1000000000):CallF prog G 83 [.slice a l.length c] (q) (Ret fun v q'=> ∃ a' c',v= .slice a' l.length c'/\q'=lsH Value.string 9 a' c' l::q):=by
 refine aC func83 ntmps83 rfl fun F k=> ?_;rcases dK l.length with b|b
 . obtain rfl:=aK b;refine xx 10 ?_;refine dR 4 rfl ?_ ?_<;>intro j
   . refine xx 5 ?_;refine Zq (lsH Value.string 9 none 0 []::q) func83 (Zn results83 rfl) ⟨_,rfl,none,0,rfl,rfl⟩ ((leA).trans (Za _ _ _))
   refine xo 4 ?_;refine bQ (J4 Value.string underlying25 Ra) ?_;rintro _ _ ⟨g,rfl,rfl⟩;refine oo 1 ?_;refine bQ (Yx (f:=Value.string) (l:= []) (m:= []) underlying25 Ra rfl rfl rfl Zk (hs.le leA) (fun _=>rfl) (by simp;try omega) (by simp;try omega)) ?_;rintro _ _ ⟨e,d,rfl,rfl⟩;refine ox 2 ?_;refine Zq (lsH Value.string 9 e d []::q) func83 (Zn results83 rfl) ⟨_,rfl,e,d,by simp,rfl⟩
 refine Yd hs (by simp;omega) fun n i h=> ?_;subst h;refine rn [10,1004,4] ?_;refine bQ (J4 Value.string underlying25 Ra) ?_;rintro _ _ ⟨g,rfl,rfl⟩;refine oo 1 ?_;refine bQ (Yx (f:=Value.string) (l:= []) (m:=l) underlying25 Ra rfl rfl rfl Zk (hs.le leA) (fun _=>rfl) (by simp;try omega) (by simp;try omega)) ?_;rintro _ _ ⟨e,d,rfl,rfl⟩;refine ox 2 ?_;refine Zq (lsH Value.string 9 e d l::q) func83 (Zn results83 rfl) ⟨_,rfl,e,d,by simp,rfl⟩
theorem Zz5 {l:List Th}(hs:Sees q a (l.flatMap thC))(hL:l.length<=1000000000):CallF prog G 81 [.slice a l.length c] (q) (Ret fun v q'=> ∃ a' c',v= .slice a' l.length c'/\q'=rsH thC 3 55 a' c' l::q):=by
 refine aC func81 ntmps81 rfl fun F k=> ?_;rcases dK l.length with b|b
 . obtain rfl:=aK b;refine xx 10 ?_;refine dR 4 rfl ?_ ?_<;>intro j
   . refine xx 5 ?_;refine Zq (rsH thC 3 55 none 0 []::q) func81 (Zn results81 rfl) ⟨_,rfl,none,0,rfl,rfl⟩ ((leA).trans (Zi _ _ _ _))
   refine xo 4 ?_;refine bQ (Qs thC underlying24 Ni) ?_;rintro _ _ ⟨g,rfl,rfl⟩;refine oo 1 ?_;refine bQ (Z9 (f:=thC) (l:= []) (m:= []) underlying24 Ni rfl rfl Q1 rfl rfl Zk (hs.le leA) O1 (by simp;try omega) (by simp;try omega)) ?_;rintro _ _ ⟨e,d,rfl,rfl⟩;refine ox 2 ?_;refine Zq (rsH thC 3 55 e d []::q) func81 (Zn results81 rfl) ⟨_,rfl,e,d,by simp,rfl⟩
 refine Yd hs (by rw [Zx Q1];omega) fun n i h=> ?_;subst h;refine rn [10,1004,4] ?_;refine bQ (Qs thC underlying24 Ni) ?_;rintro _ _ ⟨g,rfl,rfl⟩;refine oo 1 ?_;refine bQ (Z9 (f:=thC) (l:= []) (m:=l) underlying24 Ni rfl rfl Q1 rfl rfl Zk (hs.le leA) O1 (by simp;try omega) (by simp;try omega)) ?_;rintro _ _ ⟨e,d,rfl,rfl⟩;refine ox 2 ?_;refine Zq (rsH thC 3 55 e d l::q) func81 (Zn results81 rfl) ⟨_,rfl,e,d,by simp,rfl⟩
end
theorem thsK {l:List Th}{x:Th}(h:Ths.At M l)(hx:BlkAt M x.a x.c x.body):Ths.At M (l++ [x]):=fun y b=>by
 rcases aQ.1 b with b|b
 . exact h y b
 rw [aZ.1 b];exact hx
theorem Ths.At.mono {l:List Th}(e:Hle M M')(h:Ths.At M l):Ths.At M' l:=fun x hx=>(h x hx).mono e
def thsM (l:List Th):HP:=lst (fun M=>Ths.At M l) fun e h=>Ths.At.mono e h
theorem Kn.thsM {q:List HP}{l:List Th}:Kn (thsM l::q) fun M=>Ths.At M l:=fL
structure CpOk (B:Nat) (g:FC):Prop where
 l:g.vars.l.length<=1000000/\g.arrs.l.length<=1000000/\g.chs.l.length<=1000000/\g.ths.l.length<=1000000/\g.nv.l.length<=1000000/\g.na.l.length<=1000000/\g.nm.l.length<=1000000/\g.nc.l.length<=1000000/\g.nh.l.length<=1000000
 b:B<=1000000
 t: ∀ x∈g.ths.l,Zm x.body<=1000000/\Wa B x.body
theorem pcopy_ok (hK:Kn q fun M=>g.At M)(hB:CpOk B g):CallF prog G 45 [.agg (pgC g).toArray] (q) (Ret fun v q'=> ∃ g':FC,g'.er=g.er/\v= .agg (pgC g').toArray/\q'=fcM g'::q):=by
 refine aC func45 ntmps45 rfl fun F cs=> ?_;obtain ⟨b1,b2,b3,b4,b5,b6,b7,b8,b9⟩:=hB.l;have hV:=(dT (hK.imp fun M h=>h.vars));have hA:=(dT (hK.imp fun M h=>h.arrs));have hC:=(dT (hK.imp fun M h=>h.chs));rw [Qv] at hV hA hC;have hT:=dT (hK.imp fun M h=>h.ths);have s0:=Zx Q1 g.ths.l;have i0:=dT (hK.imp fun M h=>h.nv);rw [V6] at i0;have n0:=dT (hK.imp fun M h=>h.na);rw [V6] at n0;have j0:=dT (hK.imp fun M h=>h.nm);rw [V6] at j0;have m0:=dT (hK.imp fun M h=>h.nc);rw [V6] at m0;have l0:=dT (hK.imp fun M h=>h.nh);rw [V6] at l0;refine xo 2 ?_;refine Ww fun n1=> ?_
 refine bW zeroValue29 fun n2=> ?_
 refine rn [3,0] ?_;refine bW zeroValue29 fun n3=> ?_
 refine rn [0,2,0,1,2,4,5,7,8] ?_;refine Wy 2 call50 (aE _) (Qb (l:=g.vars.l) (hV.le leA) (by omega)) ?_;refine kk2 fun a1 d1=> ?_
 refine dd [9] ?_;refine Wy 5 call70 (aE _) (Ku (l:=g.arrs.l) (hA.le leA) (by omega)) ?_;refine kk2 fun a2 d2=> ?_
 refine Wy 8 call70 (aE _) (Ku (l:=g.chs.l) (hC.le leA) (by omega)) ?_;refine kk2 fun a3 d3=> ?_
 refine rn [11,12,13,14,15,0,3,0] ?_;refine Zb call81 (aE _) (Zz5 (l:=g.ths.l) (hT.le leA) (by omega)) ?_;rintro _ _ ⟨a4,d4,rfl,rfl⟩;refine rn [1,0,5,0,4] ?_;refine aY (cG (fun (s:Nat×List Th)=>s.1<=g.ths.l.length/\s.2.length=s.1/\s.2.map Th.er=(g.ths.l.take s.1).map Th.er) (fun s=> [(2,pt n2),(3,pt n3),(1,pt n1),(25,.slice g.ths.a g.ths.l.length g.ths.c),(26,I64 g.ths.l.length),(27,I64 (s.1:Int))]) (fun s=>pto n3 (.cells [.slice a1 g.vars.l.length d1,.slice a2 g.arrs.l.length d2,I64 g.mu,I64 g.co,.slice a3 g.chs.l.length d3,.slice a4 g.ths.l.length d4,I64 g.main,I64 g.stm,g.nv.v,g.na.v,g.nm.v,g.nc.v,g.nh.v].toArray 29 (0,0))::pto n2 Ay::pto n1 (.cells [g.vars.v,g.arrs.v,I64 g.mu,I64 g.co,g.chs.v,g.ths.v,I64 g.main,I64 g.stm,g.nv.v,g.na.v,g.nm.v,g.nc.v,g.nh.v].toArray 29 (0,0))::lsH I64 2 a1 d1 g.vars.l::lsH I64 3 a2 d2 g.arrs.l::lsH I64 3 a3 d3 g.chs.l::rsH thC 3 55 a4 d4 (s.2++g.ths.l.drop s.1)::thsM s.2::(q++F)) (fun s=>g.ths.l.length - s.1) (fun s t0 ih=> ?_) (0, []) ⟨bB _,rfl,rfl⟩) Zu (aS leA (aS (cZ (φ:=fun M=>Ths.At M []) (mn:=fun e h=>Ths.At.mono e h) (fun _ _ _ _ h=>by cases h)) leA));try dsimp only at t0 ih|-
 obtain ⟨w0,p0,e0⟩:=t0;obtain ⟨i,d⟩:=s;dsimp only at*;refine xx 5 ?_;refine xp 28 ?_ ?_<;>intro h0
 . have d0:i<g.ths.l.length:=(by omega);obtain ⟨y,hy⟩:=kL g.ths.l[i];have r0:=hB.t y (hy ▸ aB d0);refine Yd (hT.le leA) (by rw [s0];omega) fun ab ao e_=> ?_;rw [e_] at hT;rw [e_];refine Yw (l:=d++g.ths.l.drop i) (by rw [aG,bS];omega) fun g4 e4=> ?_;subst e4;refine xo 8 ?_;refine Nw (n:=i) isAgg55 sizeOf55 hT d0 ?_;refine bW zeroValue55 fun n4=> ?_
   refine rn [1,0,1,0,1,2,3,4,5] ?_;refine dS 36 (.slice y.a y.body.length y.c) rfl (by rw [hy]) ?_;refine Wy 5 call82 (aE _) (Pa (l:=y.body) (a:=y.a) (c:=y.c) hB.b r0.1 r0.2 ((hK.le leA).imp fun M h=>h.bod y (hy ▸ aB d0))) ?_;rintro _ _ ⟨l2,g0,f0,v0,rfl,rfl⟩;refine ⟨hlA,?_⟩;refine dd [6,7] ?_;refine iQ 8 rfl (Yr (g:=g4) (f:=thC) (l:=d++g.ths.l.drop i) (u:= { y with body:=l2,a:=g0,c:=f0 }) (n:=i) (k:=2) (j:=(i:Int)) rfl rfl sizeOf53 Q1 rfl (by rw [aG,bS];omega) rfl (by rw [show (d++g.ths.l.drop i)[i]'(by rw [aG,bS];omega)=y by rw [gA (by omega)];simp [p0,hy]];rfl) rfl rfl Zk) ?_;refine kk0 ?_;refine rn [0,5] ?_;rw [Ro d (g.ths.l.drop i) i _ p0 (by rw [bS];omega),fK];refine bY (q':=thsM (d++ [{ y with body:=l2,a:=g0,c:=f0 }])::_) (aS (bM Zk Zk) (aS (cZ (φ:=fun M=>Ths.At M (d++ [{ y with body:=l2,a:=g0,c:=f0 }])) (mn:=fun e h=>Ths.At.mono e h) ((Kn.thsM.and Kn.blM.there).imp fun M h=>thsK h.1 h.2)) (dD _ ((eD _ _).trans (eD _ _))))) ?_;rw [<-e_];refine aY (ih (i+1,d++ [{ y with body:=l2,a:=g0,c:=f0 }]) ⟨by dsimp only;omega,by dsimp only;rw [aG];simp [p0],by dsimp only;rw [aH d0,aM,aM,e0,<-hy];simp only [bP,eM,Th.er,v0]⟩ (by dsimp only;omega)) Zu leA
 obtain rfl:i=g.ths.l.length:=(by omega);rw [cD] at e0;rw [dP,cA];clear ih;refine rn [5,0] ?_;refine bW zeroValue27 fun n4=> ?_
 refine rn [0,2,0,1,2,4,5,7,8,10,11,13,14] ?_;refine Wy 2 call83 (aE _) (Kd (l:=g.nv.l) (i0.le leA) (by omega)) ?_;refine kk2 fun x m=> ?_
 refine Wy 5 call83 (aE _) (Kd (l:=g.na.l) (n0.le leA) (by omega)) ?_;refine kk2 fun c0 w=> ?_
 refine Wy 8 call83 (aE _) (Kd (l:=g.nm.l) (j0.le leA) (by omega)) ?_;refine kk2 fun z o=> ?_
 refine Wy 11 call83 (aE _) (Kd (l:=g.nc.l) (m0.le leA) (by omega)) ?_;refine kk2 fun b0 r=> ?_
 refine Wy 14 call83 (aE _) (Kd (l:=g.nh.l) (l0.le leA) (by omega)) ?_;refine kk2 fun a0 p=> ?_
 refine rn [16,17,18,0,2,0,0,1] ?_;refine Q0 Qv (f':=iC) (l:=g.vars.l) (a:=a1) (c:=d1) (fe:=I64) (ty:=2) ?_;refine Q0 Qv (f':=iC) (l:=g.arrs.l) (a:=a2) (c:=d2) (fe:=I64) (ty:=3) ?_;refine Q0 Qv (f':=iC) (l:=g.chs.l) (a:=a3) (c:=d3) (fe:=I64) (ty:=3) ?_;refine Q0 V6 (f':=sC) (l:=g.nv.l) (a:=x) (c:=m) (fe:=Value.string) (ty:=9) ?_;refine Q0 V6 (f':=sC) (l:=g.na.l) (a:=c0) (c:=w) (fe:=Value.string) (ty:=9) ?_;refine Q0 V6 (f':=sC) (l:=g.nm.l) (a:=z) (c:=o) (fe:=Value.string) (ty:=9) ?_;refine Q0 V6 (f':=sC) (l:=g.nc.l) (a:=b0) (c:=r) (fe:=Value.string) (ty:=9) ?_;refine Q0 V6 (f':=sC) (l:=g.nh.l) (a:=a0) (c:=p) (fe:=Value.string) (ty:=9) ?_;refine P6 (f:=thC) (sz:=3) (ty:=55) (l:=d) (a:=a4) (c:=d4) ?_;obtain ⟨g2,q0⟩: ∃ g2:FC,g2=(⟨⟨g.vars.l,a1,d1⟩,⟨g.arrs.l,a2,d2⟩,g.mu,g.co,⟨g.chs.l,a3,d3⟩,⟨d,a4,d4⟩,g.main,g.stm,⟨g.nv.l,x,m⟩,⟨g.na.l,c0,w⟩,⟨g.nm.l,z,o⟩,⟨g.nc.l,b0,r⟩,⟨g.nh.l,a0,p⟩,g.names,g.cells,g.locals,g.most,g.pl,g.pc,g.flaw⟩:FC):=⟨_,rfl⟩;have o0:d.length=g.ths.l.length:=by have:=bK List.length e0;simpa using this
 refine bY (q':=fcM g2::_) (aS (b:=svM thC ⟨d,a4,d4⟩::svM sC ⟨g.nh.l,a0,p⟩::svM sC ⟨g.nc.l,b0,r⟩::svM sC ⟨g.nm.l,z,o⟩::svM sC ⟨g.na.l,c0,w⟩::svM sC ⟨g.nv.l,x,m⟩::svM iC ⟨g.chs.l,a3,d3⟩::svM iC ⟨g.arrs.l,a2,d2⟩::svM iC ⟨g.vars.l,a1,d1⟩::thsM d::_) (bM Zk (bM Zk (bM Zk (bM Zk (bM Zk (bM Zk (bM Zk (bM Zk (bM Zk Zk))))))))) (cZ (φ:=fun M=>g2.At M) (mn:=fun e h=>FC.At.mono e h) ?hk_)) ?_
 case hk_=>
  exact ((Kn.here.and (Kn.here.there.and (Kn.here.there.there.and (Kn.here.there.there.there.and (Kn.here.there.there.there.there.and (Kn.here.there.there.there.there.there.and (Kn.here.there.there.there.there.there.there.and (Kn.here.there.there.there.there.there.there.there.and (Kn.here.there.there.there.there.there.there.there.there.and (Kn.thsM.there.there.there.there.there.there.there.there.there.and ((hK.le leA)))))))))))).imp fun M ⟨k0,k1,k2,k3,k4,k5,k6,k7,k8,k9,u0⟩=>by
   rw [q0];exact ⟨k8,k7,k6,k0,k9,k5,k4,k3,k2,k1,u0.names⟩)
 refine Zq (fcM g2::q) func45 (rA_ results45) ⟨_,rfl,g2,by rw [q0];simp only [FC.er,e0],by rw [q0,<-o0];rfl,rfl⟩
structure Cn where
 v:Int
 a:Int
 mu:Int
 co:Int
 ch:Int
 th:Int
def Fnd.cn (f:Fnd):Cn:=⟨f.vars.length,f.arrs.length,f.mu,f.co,f.chs.length,f.ths.length⟩
def inB (n c:Int):Bool:=decide (0<=n/\n<c)
def V9 (c:Cn)(lo slot:Int)(loc:Bool):Bool:=inB slot (if loc=true then lo else c.v)
def Uq (c:Cn)(lo k n slot:Int)(loc:Bool)(op:Int):Int:=
 if k=1 then (if val n then 0 else -1) else if k=2 then (if V9 c lo slot loc=true then 0 else -1) else if k=3 then (if inB slot c.a=true then 1 else -1)
 else if k=4\/k=5 then 1 else if k=6 then (if 1<=op/\op<=11 then 2 else -1) else -1
mutual
def PEx.ask (c:Cn)(lo:Int):PEx->Int->Bool
 | .mk k n _ slot loc op args,d=>decide (1<=d) && decide ((args.length:Int)=Uq c lo k n slot loc op) && Jm c lo args (d - 1)
def Jm (c:Cn)(lo:Int):List PEx->Int->Bool
 | [],_=>true
 |e::r,d=>e.ask c lo d && Jm c lo r d
end
def N3 (c:Cn)(lo k:Int)(e ix:PEx)(nb ne:Nat):Bool:=
 (decide (k=4\/k=5)|| !decide (0<(nb:Int))) && (k==4|| !decide (0<(ne:Int))) && (k !=3||ix.ask c lo 24) && (!decide ((1<=k/\k<=5)\/k=11\/k=15)||e.ask c lo 24)
def Na (c:Cn)(lo k slot other:Int)(loc:Bool):Bool:=
 if k=1 then loc && V9 c lo slot loc else if k=2 then V9 c lo slot loc else if k=3 then inB slot c.a else if k=6\/k=7 then inB slot c.mu
 else if k=8 then inB slot c.co && inB other c.mu else if k=9\/k=10 then inB slot c.co else if k=11 then inB slot c.ch else if k=12 then inB slot c.ch && V9 c lo other loc
 else if k=13 then inB slot c.th else decide (k=4\/k=5\/k=14\/k=15)
mutual
/-- Statements by their numbers from n on: the number behind them; none: they may not be. -/
def PStm.ask (c:Cn)(lo:Int):PStm->Int->Int->Option Int
 | .mk k _ _ _ _ e ix body els id slot other loc,d,n=>
  if 24<d\/n=512\/id≠n then none
  else if (N3 c lo k e ix body.length els.length && Na c lo k slot other loc)=true then
   match Z2 c lo body (d+1) (n+1) with
   |none=>none
   |some m=>Z2 c lo els (d+1) m
  else none
def Z2 (c:Cn)(lo:Int):List PStm->Int->Int->Option Int
 | [],_,n=>some n
 |s::r,d,n=>match s.ask c lo d n with
  |none=>none
  |some m=>Z2 c lo r d m
end
def W4 (c:Cn):List PTh->Int->Option Int
 | [],n=>some n
 |t::r,n=>if t.loc<0\/32<t.loc then none else match Z2 c t.loc t.body 1 n with
  |none=>none
  |some m=>W4 c r m
def Gg (f:Fnd):Bool:=
 decide ((0<=f.mu/\f.mu<=64)/\(0<=f.co/\f.co<=64)/\f.vars.length+f.arrs.length+f.mu+f.co+f.chs.length+f.ths.length<=64/\(∀ v∈f.vars,val v)/\(∀ n∈f.arrs,1<=n/\n<=256)/\(∀ n∈f.chs,1<=n/\n<=16)/\Y7 f.arrs<=256)
def Dh (f:Fnd):Bool:=Gg f && inB f.main f.ths.length && (W4 f.cn f.ths 0==some f.stm)
theorem g_th (g:FC):(g.er.ths.length:Int)=g.ths.l.length:=by show ((g.ths.l.map Th.er).length:Int)=_;rw [aU]
theorem Tj (g:FC):g.er.cn.v=g.vars.l.length:=rfl
theorem Tv (g:FC):g.er.cn.a=g.arrs.l.length:=rfl
theorem cn_ch (g:FC):g.er.cn.ch=g.chs.l.length:=rfl
theorem cn_mu (g:FC):g.er.cn.mu=g.mu:=rfl
theorem cn_co (g:FC):g.er.cn.co=g.co:=rfl
theorem cn_th (g:FC):g.er.cn.th=g.ths.l.length:=g_th g
theorem Tw {c:Cn}{lo d:Int}: ∀ {l:List PEx},Jm c lo l d=true↔ ∀ e∈l,e.ask c lo d=true
 | []=>by simp [Jm]
 |e::r=>by simp [Jm,Tw (l:=r)]
section
variable {n c:Int}
theorem Qc: ∀ (N:Nat) {e:Ex} {b o:Nat} {d:Int} {q:List HP},e.sz<=N->N<=1000000->(0<=d/\d<=24)->(Kn q fun M=>ExAt M ⟨b,o,none⟩ e)->CellsAt q pa 0 (AZ pp x1 lo)->CellsAt q pp 0 (pgC g)->CallF prog G 158 [.pointer (some ⟨pa,0,none⟩),.pointer (some ⟨b,o,none⟩),I64 d] (q) (Ret fun v q'=>v= .bool (e.er.ask g.er.cn lo d)/\q'=q):=fun N=>by
 induction N with
 |zero=>intro e b o d q hs;exact aR hs (by cases e;simp only [Ex.sz];omega)
 |succ N IH=> 
 intro e b o d q hs hN hd hK ha hp;obtain ⟨ek,en,n0,j,n,m,i,ea,ec⟩:=e;refine aC func158 ntmps158 rfl fun F cs=> ?_;have d0:CellsAt q pp 0 [.slice g.vars.a g.vars.l.length g.vars.c,.slice g.arrs.a g.arrs.l.length g.arrs.c,I64 g.mu,I64 g.co,.slice g.chs.a g.chs.l.length g.chs.c,.slice g.ths.a g.ths.l.length g.ths.c,I64 g.main,I64 g.stm]:=fun k v hk=>hp k v (by revert hk;match k with|0|1|2|3|4|5|6|7=>exact fun h=>h|(k+8)=>intro h;cases h)
 have f:=Kn.exC hK;have hA:Kn q fun M=>SlAt M ea ec i.length (i.flatMap exC)/\Ex.Ats M i:=hK.imp fun M h=>h.2;have hS:=fM (hA.imp fun M h=>h.1.2.2)
 have hl:i.length+1<=N+1:=by have:=Nc i;simp only [Ex.sz] at hs;omega
 have e0:=Zx Z4 i;obtain ⟨R,p⟩:=kL ((Ex.er (Ex.mk ek en n0 j n m i ea ec)).ask g.er.cn lo d);rw [<-p];simp only [Ex.er,PEx.ask,W9] at p;refine xx 10 ?_;refine xp 10 ?_ ?_<;>intro h0
 . refine xx 5 ?_;refine Zq (q) func158 (Zn results158 rfl) ⟨_,rfl,cB (by rw [p,aW (by omega)];rfl),rfl⟩
 rw [aN (by omega),gI] at p;refine rf [12,0,1] f ?_;refine kC (fun (x:Int)=> [(0,.pointer (some ⟨pa,0,none⟩)),(1,.pointer (some ⟨b,o,none⟩)),(2,I64 d),(7,I64 x)]) (fun x=>q++F) (fun x=>Uq g.er.cn lo ek en j n m=x/\(0<=x/\x<=2)) (fun x i0=> ?_) fun K=> ?_
 . obtain ⟨j0,o0⟩:=i0;rw [j0] at p;refine rf [6,0,4] f ?_;refine xp 81 ?_ ?_<;>intro h1
   . refine xx 5 ?_;refine Zq (q) func158 (Zn results158 rfl) ⟨_,rfl,cB (by rw [p,aW (by omega)];rfl),rfl⟩
   rw [aN (by omega),gI] at p;refine rf [8,0,4] f ?_;refine aY (cG (fun (s:Nat)=>s<=i.length/\ ∀ e∈i.take s,e.er.ask g.er.cn lo (d - 1)=true) (fun s=> [(0,.pointer (some ⟨pa,0,none⟩)),(1,.pointer (some ⟨b,o,none⟩)),(2,I64 d),(86,I64 i.length),(87,I64 s)]) (fun s=>q++F) (fun s=>i.length - s) (fun s f0 ih=> ?_) 0 ⟨bB _,by simp⟩) Zu leA;try dsimp only at f0 ih|-
   obtain ⟨p0,a0⟩:=f0;refine xx 5 ?_;refine xp 88 ?_ ?_<;>intro h2
   . have t:s<i.length:=(by omega);refine Yd (hS.le leA) (by rw [e0];omega) fun ab ao e_=> ?_;subst e_
     have k0:Kn q fun M=>ExAt M ⟨ab,ao+(s:Int).toNat*7,none⟩ i[s]:=hK.imp fun M h=>by
      obtain ⟨b',o',e1,e2⟩:=fR Z4 (by decide) h.2.1.2.2 t
      cases e1
      exact ⟨e2,Ye.1 h.2.2 _ (aB t)⟩
     have g0:i[s].sz<=N:=by have:=Vx (aB t);simp only [Ex.sz] at hs;omega
     refine rf [15,0,4] f ?_;refine aO call158 (IH (e:=i[s]) (d:=d - 1) g0 (by omega) (by omega) (k0.le leA) (ha.le leA) (hp.le leA)) ?_;refine Zt (bV rfl) ?_;refine ox 1 ?_;refine xp 100 ?_ ?_<;>intro h3
     . refine xx 5 ?_;refine Zq (q) func158 (Zn results158 rfl) ⟨_,rfl,cB (by rw [p];symm;rw [Bool.eq_false_iff];intro k;exact aR (Tw.1 k _ (by rw [Yy];exact aP (aB t))) (by simpa using h3)),rfl⟩
     refine xx 7 ?_
     refine aY (ih (s+1) ⟨by omega,fun e y=>by
      rw [aH t] at y;rcases aQ.1 y with y|y
      . exact a0 e y
      rw [aZ.1 y];simpa using h3⟩ (by omega)) Zu leA
   obtain rfl:s=i.length:=(by omega);rw [cD] at a0;refine xx 6 ?_;refine Zq (q) func158 (Zn results158 rfl) ⟨_,rfl,cB (by rw [p];symm;rw [Tw,Yy];intro e y;obtain ⟨z,r,rfl⟩:=bU.1 y;exact a0 z r),rfl⟩
 skip;refine xx 6 ?_;refine xp 15 ?_ ?_<;>intro g1
 . refine rf [6,0,2] f ?_;refine Zf [22,7,6,0,1,2] ?_;apply Zy 6 28 22 rfl
   . intro w c0;have m0:=sp w;refine rf [3,0,2] f ?_;exact Zz c0 ⟨orF w,Zv⟩
   . intro w c0;have m0:=sp w;refine oo 6 ?_;exact Zz c0 ⟨orT w,Zv⟩
   refine ox 1 ?_;refine xp 28 ?_ ?_<;>intro g3
   . refine xx 5 ?_;refine Zq (q) func158 (Zn results158 rfl) ⟨_,rfl,cB (by rw [p];symm;have r:Uq g.er.cn lo ek en j n m= -1:=(by unfold Uq;unfold V9 inB;rw [Tj,Tv];unfold val;first|(simp_all;done)|(simp_all;omega)|((repeat' split)<;>first|rfl|omega|(exfalso;simp_all;done)|(exfalso;simp_all;omega)));rw [r,aW (by omega)];rfl),rfl⟩
   refine xx 3 ?_;exact aY (K 0 ⟨by unfold Uq;unfold V9 inB;rw [Tj,Tv];unfold val;first|(simp_all;done)|(simp_all;omega)|((repeat' split)<;>first|rfl|omega|(exfalso;simp_all;done)|(exfalso;simp_all;omega)),by omega⟩) Zu leA
 refine xx 6 ?_;refine xp 29 ?_ ?_<;>intro g2
 . refine rf [2,0,1,2,3,4,5,6,7,8,9] f ?_;refine Y2 9 call159 (R8 (ha.le leA) (hp.le leA)) ?_;refine Vz 10 rfl (bV rfl) ?_;refine jV ?_;refine xp 41 ?_ ?_<;>intro g3
   . refine xx 5 ?_;refine Zq (q) func158 (Zn results158 rfl) ⟨_,rfl,cB (by rw [p];symm;have r:Uq g.er.cn lo ek en j n m= -1:=(by unfold Uq;unfold V9 inB;rw [Tj,Tv];unfold val;first|(simp_all;done)|(simp_all;omega)|((repeat' split)<;>first|rfl|omega|(exfalso;simp_all;done)|(exfalso;simp_all;omega)));rw [r,aW (by omega)];rfl),rfl⟩
   refine xx 3 ?_;exact aY (K 0 ⟨by unfold Uq;unfold V9 inB;rw [Tj,Tv];unfold val;first|(simp_all;done)|(simp_all;omega)|((repeat' split)<;>first|rfl|omega|(exfalso;simp_all;done)|(exfalso;simp_all;omega)),by omega⟩) Zu leA
 refine xx 6 ?_;refine xp 42 ?_ ?_<;>intro g3
 . refine rh [6,0,1,2,3,4,5,6,7,8,9,10,11,12] f ha d0 ?_;refine Y2 12 call79 (Ja) ?_ (hL:=(hlH ha d0 f));refine Vz 13 rfl (bV rfl) ?_;refine jV ?_;refine xp 57 ?_ ?_<;>intro g4
   . refine xx 5 ?_;refine Zq (q) func158 (Zn results158 rfl) ⟨_,rfl,cB (by rw [p];symm;have r:Uq g.er.cn lo ek en j n m= -1:=(by unfold Uq;unfold V9 inB;rw [Tj,Tv];unfold val;first|(simp_all;done)|(simp_all;omega)|((repeat' split)<;>first|rfl|omega|(exfalso;simp_all;done)|(exfalso;simp_all;omega)));rw [r,aW (by omega)];rfl),rfl⟩
   refine xx 3 ?_;exact aY (K 1 ⟨by unfold Uq;unfold V9 inB;rw [Tj,Tv];unfold val;first|(simp_all;done)|(simp_all;omega)|((repeat' split)<;>first|rfl|omega|(exfalso;simp_all;done)|(exfalso;simp_all;omega)),by omega⟩) Zu leA
 refine xx 7 ?_;refine xp 58 ?_ ?_<;>intro g4
 . refine xx 7 ?_;exact aY (K 1 ⟨by unfold Uq;unfold V9 inB;rw [Tj,Tv];unfold val;first|(simp_all;done)|(simp_all;omega)|((repeat' split)<;>first|rfl|omega|(exfalso;simp_all;done)|(exfalso;simp_all;omega)),by omega⟩) Zu leA
 refine xx 5 ?_;refine xp 58 ?_ ?_<;>intro g5
 . refine xx 5 ?_;exact aY (K 1 ⟨by unfold Uq;unfold V9 inB;rw [Tj,Tv];unfold val;first|(simp_all;done)|(simp_all;omega)|((repeat' split)<;>first|rfl|omega|(exfalso;simp_all;done)|(exfalso;simp_all;omega)),by omega⟩) Zu leA
 refine xx 6 ?_;refine xp 61 ?_ ?_<;>intro g6
 . refine rf [10,0,2] f ?_;refine Zf [68,7,6,0,1,2] ?_;apply Zy 6 74 68 rfl
   . intro u b0;have l0:=sp u;refine rf [3,0,2] f ?_;exact Zz b0 ⟨orF u,Zv⟩
   . intro u b0;have l0:=sp u;refine oo 6 ?_;exact Zz b0 ⟨orT u,Zv⟩
   refine ox 1 ?_;refine xp 74 ?_ ?_<;>intro g8
   . refine xx 5 ?_;refine Zq (q) func158 (Zn results158 rfl) ⟨_,rfl,cB (by rw [p];symm;have r:Uq g.er.cn lo ek en j n m= -1:=(by unfold Uq;unfold V9 inB;rw [Tj,Tv];unfold val;first|(simp_all;done)|(simp_all;omega)|((repeat' split)<;>first|rfl|omega|(exfalso;simp_all;done)|(exfalso;simp_all;omega)));rw [r,aW (by omega)];rfl),rfl⟩
   refine xx 3 ?_;exact aY (K 2 ⟨by unfold Uq;unfold V9 inB;rw [Tj,Tv];unfold val;first|(simp_all;done)|(simp_all;omega)|((repeat' split)<;>first|rfl|omega|(exfalso;simp_all;done)|(exfalso;simp_all;omega)),by omega⟩) Zu leA
 refine xx 5 ?_;refine Zq (q) func158 (Zn results158 rfl) ⟨_,rfl,cB (by rw [p];symm;have r:Uq g.er.cn lo ek en j n m= -1:=(by unfold Uq;unfold V9 inB;rw [Tj,Tv];unfold val;first|(simp_all;done)|(simp_all;omega)|((repeat' split)<;>first|rfl|omega|(exfalso;simp_all;done)|(exfalso;simp_all;omega)));rw [r,aW (by omega)];rfl),rfl⟩
theorem parts_ok {s:Stm}(hB:B<=1000000)(hb:s.lm B)(hK:Kn q fun M=>StAt M ⟨b,o,none⟩ s)(ha:CellsAt q pa 0 (AZ pp x1 lo))(hp:CellsAt q pp 0 (pgC g)):CallF prog G 122 (Am pa b o) (q) (Ret fun v q'=>v= .bool (match s with| .mk kk _ _ _ _ e ix bd es2 _ _ _ _ _ sl ot lo_=>N3 g.er.cn lo kk e.er ix.er bd.length es2.length)/\q'=q):=by
 refine aC func122 ntmps122 rfl fun F cs=> ?_;have e0:CellsAt q pp 0 [.slice g.vars.a g.vars.l.length g.vars.c,.slice g.arrs.a g.arrs.l.length g.arrs.c,I64 g.mu,I64 g.co,.slice g.chs.a g.chs.l.length g.chs.c,.slice g.ths.a g.ths.l.length g.ths.c,I64 g.main,I64 g.stm]:=fun k v hk=>hp k v (by revert hk;match k with|0|1|2|3|4|5|6|7=>exact fun h=>h|(k+8)=>intro h;cases h)
 obtain ⟨kk,ln,cl,nm,wt,⟨w,t,m,i,n,j,u,y,x⟩,⟨xk,xn,a0,xsl,b0,z,xl,xa,xc⟩,bd,es2,ba,bc,i0,h0,id,sl,ot,lo_⟩:=s;obtain ⟨p,c0,g0,f0⟩:=hb;have f:=eR hK;dsimp only;have r:Kn q fun M=>ExAt M ⟨b,o+5,none⟩ (Ex.mk w t m i n j u y x):=hK.imp fun M h=>Yj (pre:= (A6 kk ln cl nm wt)) h.1 rfl h.2.1 rfl
 have d0:Kn q fun M=>ExAt M ⟨b,o+12,none⟩ (Ex.mk xk xn a0 xsl b0 z xl xa xc):=hK.imp fun M h=>Yj (pre:= (A6 kk ln cl nm wt)++exC (Ex.mk w t m i n j u y x)) h.1 rfl h.2.2.1 rfl
 obtain ⟨R,hR⟩:=kL (N3 g.er.cn lo kk (Ex.er (Ex.mk w t m i n j u y x)) (Ex.er (Ex.mk xk xn a0 xsl b0 z xl xa xc)) bd.length es2.length);rw [<-hR];refine rf [17,0,8] f ?_;refine xp 13 ?_ ?_<;>intro h1
 focus
  refine rf [16,0,4] f ?_;refine Zf [34,6,8,5,4,0,1] ?_;apply Zy 11 45 34 rfl
  . intro g2 M2;have h2:=sp g2;refine rf [6,0,4] f ?_;exact Zz M2 ⟨orF g2,Zv⟩
  . intro g2 M2;have h2:=sp g2;refine oo 11 ?_;exact Zz M2 ⟨orT g2,Zv⟩
  refine ox 1 ?_;refine xp 45 ?_ ?_<;>intro h2
  focus
   refine xx 5 ?_
  rotate_left
  focus
   refine xo 21 ?_;refine aO call158 (Qc B (d:=24) (e:=(Ex.mk w t m i n j u y x)) p hB (by omega) (r.le leA) (ha.le leA) (hp.le leA)) ?_;refine ox 4 ?_
 rotate_left 2
 focus
  refine xx 6 ?_;refine xp 13 ?_ ?_<;>intro h2
  focus
   refine rf [16,0,4] f ?_;refine Zf [34,6,8,5,4,0,1] ?_;apply Zy 11 45 34 rfl
   . intro g3 M3;have h3:=sp g3;refine rf [6,0,4] f ?_;exact Zz M3 ⟨orF g3,Zv⟩
   . intro g3 M3;have h3:=sp g3;refine oo 11 ?_;exact Zz M3 ⟨orT g3,Zv⟩
   refine ox 1 ?_;refine xp 45 ?_ ?_<;>intro h3
   focus
    refine xx 5 ?_
   rotate_left
   focus
    refine xo 21 ?_;refine aO call158 (Qc B (d:=24) (e:=(Ex.mk w t m i n j u y x)) p hB (by omega) (r.le leA) (ha.le leA) (hp.le leA)) ?_;refine ox 4 ?_
  rotate_left 2
  focus
   refine xx 6 ?_;refine xp 13 ?_ ?_<;>intro h3
   focus
    refine rf [16,0,4] f ?_;refine Zf [34,6,8,5,4,0,1] ?_;apply Zy 11 45 34 rfl
    . intro g4 M4;have h4:=sp g4;refine rf [6,0,4] f ?_;exact Zz M4 ⟨orF g4,Zv⟩
    . intro g4 M4;have h4:=sp g4;refine oo 11 ?_;exact Zz M4 ⟨orT g4,Zv⟩
    refine ox 1 ?_;refine xp 45 ?_ ?_<;>intro h4
    focus
     refine xx 5 ?_
    rotate_left
    focus
     refine xo 21 ?_;refine aO call158 (Qc B (d:=24) (e:=(Ex.mk w t m i n j u y x)) p hB (by omega) (r.le leA) (ha.le leA) (hp.le leA)) ?_;refine ox 4 ?_
   rotate_left 2
   focus
    refine xx 5 ?_;refine xp 13 ?_ ?_<;>intro h4
    focus
     refine rf [14,0,4] f ?_;refine Zf [34,6,8,5,4,0,1] ?_;apply Zy 11 45 34 rfl
     . intro g5 M5;have h5:=sp g5;refine rf [6,0,4] f ?_;exact Zz M5 ⟨orF g5,Zv⟩
     . intro g5 M5;have h5:=sp g5;refine oo 11 ?_;exact Zz M5 ⟨orT g5,Zv⟩
     refine ox 1 ?_;refine xp 45 ?_ ?_<;>intro h5
     focus
      refine xx 5 ?_
     rotate_left
     focus
      refine xo 21 ?_;refine aO call158 (Qc B (d:=24) (e:=(Ex.mk w t m i n j u y x)) p hB (by omega) (r.le leA) (ha.le leA) (hp.le leA)) ?_;refine ox 4 ?_
    rotate_left 2
    focus
     refine xx 6 ?_;refine xp 18 ?_ ?_<;>intro h5
     focus
      refine rf [15,0,4] f ?_;refine Zf [34,6,5,8,4,0,1] ?_;apply Zy 11 45 34 rfl
      . intro g6 M6;have h6:=sp g6;refine rf [6,0,4] f ?_;exact Zz M6 ⟨orF g6,Zv⟩
      . intro g6 M6;have h6:=sp g6;refine oo 11 ?_;exact Zz M6 ⟨orT g6,Zv⟩
      refine ox 1 ?_;refine xp 45 ?_ ?_<;>intro h6
      focus
       refine xx 5 ?_
      rotate_left
      focus
       refine xo 11 ?_;refine aO call158 (Qc B (d:=24) (e:=(Ex.mk xk xn a0 xsl b0 z xl xa xc)) c0 hB (by omega) (d0.le leA) (ha.le leA) (hp.le leA)) ?_;refine oo 2 ?_;refine Zf [55,6,4,0,1] ?_;apply Zp 10 65 55 rfl
       . intro g7 M7;have h7:=sp g7;refine oo 7 ?_;refine aO call158 (Qc B (d:=24) (e:=(Ex.mk w t m i n j u y x)) p hB (by omega) (r.le leA) (ha.le leA) (hp.le leA)) ?_;refine oo 2 ?_;exact Zz M7 ⟨Wq g7,Zv⟩
       . intro g7 M7;have h7:=sp g7;refine oo 10 ?_;exact Zz M7 ⟨Wz g7,Zv⟩
       refine ox 2 ?_
     rotate_left 2
     focus
      refine xx 6 ?_;refine xp 20 ?_ ?_<;>intro h6
      focus
       refine xo 54 ?_;refine aO call158 (Qc B (d:=24) (e:=(Ex.mk w t m i n j u y x)) p hB (by omega) (r.le leA) (ha.le leA) (hp.le leA)) ?_;refine ox 4 ?_
      rotate_left
      focus
       refine xx 6 ?_;refine xp 22 ?_ ?_<;>intro h7
       focus
        refine rf [26,0,5] f ?_;refine xp 45 ?_ ?_<;>intro h8
        focus
         refine xx 5 ?_
        rotate_left
        focus
         refine xo 21 ?_;refine aO call158 (Qc B (d:=24) (e:=(Ex.mk w t m i n j u y x)) p hB (by omega) (r.le leA) (ha.le leA) (hp.le leA)) ?_;refine ox 4 ?_
       rotate_left 2
       focus
        refine rf [12,0,4] f ?_;refine Zf [34,8,6,5,4,0,1] ?_;apply Zy 11 45 34 rfl
        . intro g8 M8;have h8:=sp g8;refine rf [6,0,4] f ?_;exact Zz M8 ⟨orF g8,Zv⟩
        . intro g8 M8;have h8:=sp g8;refine oo 11 ?_;exact Zz M8 ⟨orT g8,Zv⟩
        refine ox 1 ?_;refine xp 45 ?_ ?_<;>intro h8
        focus
         refine xx 5 ?_
        rotate_left
        focus
         refine xx 26 ?_
 all_goals
  refine Zq (q) func122 (Zn results122 rfl) ⟨_,rfl,cB (by rw [hR];unfold N3;first|(simp_all;done)|(rcases aX (0<(bd.length:Int)) with z1|z1<;>rcases aX (0<(es2.length:Int)) with z2|z2<;>simp_all;done)|(rcases aX (0<(bd.length:Int)) with z1|z1<;>rcases aX (0<(es2.length:Int)) with z2|z2<;>simp_all<;>omega)),rfl⟩
theorem slots_ok {s:Stm}(hB:B<=1000000)(hb:s.lm B)(hK:Kn q fun M=>StAt M ⟨b,o,none⟩ s)(ha:CellsAt q pa 0 (AZ pp x1 lo))(hp:CellsAt q pp 0 (pgC g)):CallF prog G 123 (Am pa b o) (q) (Ret fun v q'=>v= .bool (match s with| .mk kk _ _ _ _ e ix bd es2 _ _ _ _ _ sl ot lo_=>Na g.er.cn lo kk sl ot lo_)/\q'=q):=by
 refine aC func123 ntmps123 rfl fun F cs=> ?_;have f:CellsAt q pp 0 [.slice g.vars.a g.vars.l.length g.vars.c,.slice g.arrs.a g.arrs.l.length g.arrs.c,I64 g.mu,I64 g.co,.slice g.chs.a g.chs.l.length g.chs.c,.slice g.ths.a g.ths.l.length g.ths.c,I64 g.main,I64 g.stm]:=fun k v hk=>hp k v (by revert hk;match k with|0|1|2|3|4|5|6|7=>exact fun h=>h|(k+8)=>intro h;cases h)
 obtain ⟨kk,ln,cl,nm,wt,⟨ek,en,u,r,w,t,el,ea,ec⟩,⟨xk,xn,y,xsl,z,x,xl,xa,xc⟩,bd,es2,ba,bc,m0,l0,id,sl,ot,lo_⟩:=s;obtain ⟨d0,c0,b0,a0⟩:=hb;have d:=eR hK;dsimp only;have f0:Kn q fun M=>ExAt M ⟨b,o+5,none⟩ (Ex.mk ek en u r w t el ea ec):=hK.imp fun M h=>Yj (pre:= (A6 kk ln cl nm wt)) h.1 rfl h.2.1 rfl
 have e0:Kn q fun M=>ExAt M ⟨b,o+12,none⟩ (Ex.mk xk xn y xsl z x xl xa xc):=hK.imp fun M h=>Yj (pre:= (A6 kk ln cl nm wt)++exC (Ex.mk ek en u r w t el ea ec)) h.1 rfl h.2.2.1 rfl
 obtain ⟨R,hR⟩:=kL (Na g.er.cn lo kk sl ot lo_);rw [<-hR];refine rg [9,0,8,0,7] ha d ?_;refine xp 14 ?_ ?_<;>intro h1
 focus
  refine rf [2,0,1,2,3,4,5] d ?_;refine D4 [20,4,0,1] ?_;apply Mb 1 [0,1,2,3,4,5,6,7,8,9,10,11,12,13,14,15] 31 20 rfl
  . intro p M2;have h2:=sp p;refine rf [6,7,8,9,10,11,12,13,14] d ?_;refine Y2 14 call159 (R8 (ha.le leA) (hp.le leA)) ?_ (hL:=(hlH ha f d));refine dd [15] ?_;exact Ul M2 ⟨Wq p,Zv⟩
  . intro p M2;have h2:=sp p;refine dd [5,6,7,8,9,10,11,12,13,14,15] ?_;exact Ul M2 ⟨Wz p,Zv⟩
  intro L_;refine rn [17,0] ?_
 rotate_left
 focus
  refine xx 6 ?_;refine xp 32 ?_ ?_<;>intro h2
  focus
   refine rf [2,0,1,2,3,4,5,6,7,8,9] d ?_;refine Y2 9 call159 (R8 (ha.le leA) (hp.le leA)) ?_;refine rn [11,0] ?_
  rotate_left
  focus
   refine xx 6 ?_;refine xp 44 ?_ ?_<;>intro h3
   focus
    refine rg [2,0,1,2,3,4,5,6,7,8,9] d f ?_;refine Y2 9 call79 (Ja) ?_ (hL:=(hlH ha f d));refine rn [11,0] ?_
   rotate_left
   focus
    refine xx 7 ?_;refine xp 56 ?_ ?_<;>intro h4
    focus
     refine rg [4,0,1,2,3,4,5,6,7,8] d f ?_;refine Y2 8 call79 (Ja) ?_;refine rn [10,0] ?_
    rotate_left
    focus
     refine xx 5 ?_;refine xp 56 ?_ ?_<;>intro h5
     focus
      refine rg [2,0,1,2,3,4,5,6,7,8] d f ?_;refine Y2 8 call79 (Ja) ?_;refine rn [10,0] ?_
     rotate_left
     focus
      refine xx 6 ?_;refine xp 68 ?_ ?_<;>intro h6
      focus
       refine rg [2,0,1,2,3,4,5,6,7,8] d f ?_;refine Y2 8 call79 (Ja) ?_;refine dd [9] ?_;refine D4 [79,5,4,1] ?_;apply Mb 1 [0,1,2,3,4,5,6,7,8,9,10,11,12,13,14,15,16,17,18,19] 89 79 rfl
       . intro n M7;have h7:=sp n;refine rg [11,12,13,14,15,16,17,18] d f ?_;refine Y2 18 call79 (Ja) ?_;refine dd [19] ?_;exact Ul M7 ⟨Wq n,Zv⟩
       . intro n M7;have h7:=sp n;refine dd [10,11,12,13,14,15,16,17,18,19] ?_;exact Ul M7 ⟨Wz n,Zv⟩
       intro L_;refine rn [21,0] ?_
      rotate_left
      focus
       refine xx 7 ?_;refine xp 90 ?_ ?_<;>intro h7
       focus
        refine rg [4,0,1,2,3,4,5,6,7,8] d f ?_;refine Y2 8 call79 (Ja) ?_;refine rn [10,0] ?_
       rotate_left
       focus
        refine xx 5 ?_;refine xp 90 ?_ ?_<;>intro h8
        focus
         refine rg [2,0,1,2,3,4,5,6,7,8] d f ?_;refine Y2 8 call79 (Ja) ?_;refine rn [10,0] ?_
        rotate_left
        focus
         refine xx 6 ?_;refine xp 102 ?_ ?_<;>intro h9
         focus
          refine rg [2,0,1,2,3,4,5,6,7,8,9] d f ?_;refine Y2 9 call79 (Ja) ?_ (hL:=(hlH ha f d));refine rn [11,0] ?_
         rotate_left
         focus
          refine xx 6 ?_;refine xp 114 ?_ ?_<;>intro k0
          focus
           refine rg [2,0,1,2,3,4,5,6,7,8,9] d f ?_;refine Y2 9 call79 (Ja) ?_ (hL:=(hlH ha f d));refine dd [10] ?_;refine D4 [126,4,0,1] ?_;apply Mb 1 [0,1,2,3,4,5,6,7,8,9,10,11,12,13,14,15,16,17,18,19,20,21] 137 126 rfl
           . intro i j;have m:=sp i;refine rf [12,13,14,15,16,17,18,19,20] d ?_;refine Y2 20 call159 (R8 (ha.le leA) (hp.le leA)) ?_ (hL:=(hlH ha f d));refine dd [21] ?_;exact Ul j ⟨Wq i,Zv⟩
           . intro i j;have m:=sp i;refine dd [11,12,13,14,15,16,17,18,19,20,21] ?_;exact Ul j ⟨Wz i,Zv⟩
           intro L_;refine rn [23,0] ?_
          rotate_left
          focus
           refine xx 6 ?_;refine xp 138 ?_ ?_<;>intro m
           focus
            refine rg [2,0,1,2,3,4,5,6,7,8,9] d f ?_;refine Y2 9 call79 (Ja) ?_ (hL:=(hlH ha f d));refine rn [11,0] ?_
           rotate_left
           focus
            refine xx 7 ?_;refine xp 150 ?_ ?_<;>intro j0
            focus
             refine xx 7 ?_
            rotate_left
            focus
             refine xx 6 ?_;refine xp 150 ?_ ?_<;>intro i0
             focus
              refine xx 7 ?_
             rotate_left
             focus
              refine xx 6 ?_;refine xp 150 ?_ ?_<;>intro h0
              focus
               refine xx 7 ?_
              rotate_left
              focus
               refine xx 5 ?_;refine xp 150 ?_ ?_<;>intro g0
               focus
                refine xx 5 ?_
               rotate_left
               focus
                refine xx 7 ?_
 all_goals
  refine Zq (q) func123 (Zn results123 rfl) ⟨_,rfl,cB (by rw [hR];unfold Na;unfold V9 inB;rw [Tj,Tv,cn_ch,cn_mu,cn_co,cn_th];first|(simp_all;done)|(simp_all;omega)|(simp_all<;>omega)),rfl⟩
end
mutual
theorem Ln {c:Cn}{lo:Int}: ∀ {s:PStm} {d n m:Int},n<=512->s.ask c lo d n=some m->n<=m/\m<=512
 | .mk ..,d,n,m,hn,h=>by
  simp only [PStm.ask] at h;split at h
  . cases h
  rename_i f;split at h
  . split at h
    . cases h
    rename_i k a;have b:=V1 (by omega) a;have e:=V1 b.2 h;omega
  cases h
theorem V1 {c:Cn}{lo:Int}: ∀ {l:List PStm} {d n m:Int},n<=512->Z2 c lo l d n=some m->n<=m/\m<=512
 | [],d,n,m,hn,h=>by simp only [Z2] at h;cases h;omega
 |s::r,d,n,m,hn,h=>by
  simp only [Z2] at h;split at h
  . cases h
  rename_i k a;have b:=Ln hn a;have e:=V1 b.2 h;omega
end
theorem Ew {c:Cn}(s:PStm)(r:List PStm)(d n:Int):Z2 c lo (s::r) d n=match s.ask c lo d n with|none=>none|some m=>Z2 c lo r d m:=by simp only [Z2]<;>rfl
theorem Ge {l:List Stm}(h:i<l.length):Zj (l.drop i)=l[i].er::Zj (l.drop (i+1)):=by rw [aJ h];rfl
section
variable {n:Int}{l:List Stm}
def AskB (G:World)(B pa pp:Nat)(g:FC)(lo:Int)(N:Nat):Prop:= ∀ {l:List Stm} {a:Option Addr} {c:Nat} {d n:Int} {q:List HP},Zm l<=N->Wa B l->(1<=d/\d<=25)->(0<=n/\n<=512)->CellsAt q pp 0 (pgC g)->(Kn q fun M=>BlkAt M a c l)->
 CallF prog G 80 [.pointer (some ⟨pa,0,none⟩),.slice a l.length c,I64 d] (pto pa (.cells (Ae pp n lo).toArray 168 (0,0))::q) (Ret fun v q'=> ∃ n',v= .bool (Z2 g.er.cn lo (Zj l) d n).isSome/\(∀ m,Z2 g.er.cn lo (Zj l) d n=some m->n'=m)/\q'=pto pa (.cells (Ae pp n' lo).toArray 168 (0,0))::q)
theorem ask_step (IH: ∀ N_,N_<N->AskB G B pa pp g lo N_)(hB:B<=1000000)(hN:N<=1000000)(hs:Zm l<=N)(hb:Wa B l)(hd:1<=d/\d<=25)(hn:0<=n/\n<=512)(hp:CellsAt q pp 0 (pgC g))(hK:Kn q fun M=>BlkAt M a c l):CallF prog G 80 [.pointer (some ⟨pa,0,none⟩),.slice a l.length c,I64 d] (pto pa (.cells [.pointer (some ⟨pp,0,none⟩),I64 n,I64 lo].toArray 168 (0,0))::q) (Ret fun v q'=> ∃ n',v= .bool (Z2 g.er.cn lo (Zj l) d n).isSome/\(∀ m,Z2 g.er.cn lo (Zj l) d n=some m->n'=m)/\q'=pto pa (.cells [.pointer (some ⟨pp,0,none⟩),I64 n',I64 lo].toArray 168 (0,0))::q):=by
 refine aC func80 ntmps80 rfl fun F cs=> ?_;have hS:=fM (hK.imp fun M h=>h.1.2.2);have hl:l.length<=N:=cP (Je l) hs;have d0:=Zx Z8 l;obtain ⟨R,hR⟩:=kL (Z2 g.er.cn lo (Zj l) d n);rw [<-hR];refine xx 12 ?_;refine aY (cG (fun (s:Nat×Int)=>s.1<=l.length/\R=Z2 g.er.cn lo (Zj (l.drop s.1)) d s.2/\0<=s.2/\s.2<=512) (fun s=> [(0,.pointer (some ⟨pa,0,none⟩)),(1,.slice a l.length c),(2,I64 d),(10,I64 l.length),(11,I64 (s.1:Int))]) (fun s=>pto pa (.cells [.pointer (some ⟨pp,0,none⟩),I64 s.2,I64 lo].toArray 168 (0,0))::(q++F)) (fun s=>l.length - s.1) (fun s e0 ih=> ?_) (0,n) ⟨bB _,by rw [hR,gB],hn⟩) Zu leA;try dsimp only at e0 ih|-
 obtain ⟨v0,b,u0⟩:=e0;obtain ⟨i,e⟩:=s;dsimp only at*;refine xx 5 ?_;refine xp 12 ?_ ?_<;>intro h0
 . have f:i<l.length:=(by omega);rw [Ge f,Ew] at b;obtain ⟨x,hx⟩:=kL l[i];have f0:x.sz<=Zm l:=hx ▸ Ub (aB f);have c0:x.lm B:=hx ▸ Jo hb (aB f);rw [<-hx] at b;refine Yd (hS.le leA) (by rw [d0];omega) fun ab ao e_=> ?_;rw [e_]
   have o:Kn q fun M=>StAt M ⟨ab,ao+(i:Int).toNat*25,none⟩ x:=hK.imp fun M h=>by
    obtain ⟨b',o',e1,e2⟩:=fR Z8 (by decide) h.1.2.2 f;rw [e_] at e1;cases e1
    exact ⟨by rw [hx];exact e2,by rw [hx];exact Vg.1 h.2 _ (aB f)⟩
   obtain ⟨kk,ln,cl,nm,wt,⟨ek,en,b1,z0,c1,a1,el,ea,ec⟩,⟨xk,xn,r0,xsl,s0,q0,xl,xa,xc⟩,bd,u,ba,bc,f1,d1,id,sl,ot,t0⟩:=x;have w:=c0;obtain ⟨y0,x0,k0,j0⟩:=c0;have y:=eR o;have hz:Zm bd+Zm u+1<=N:=(by simp only [Stm.sz] at f0;omega);simp only [Stm.er,PStm.ask,Zg] at b;refine rn [18,0,1,2,3] ?_;refine D4 [19,8,0,1,2,10,11] ?_;apply D5 11 [0,1,2,3,4,5,6,7,8] 25 19 rfl
   . intro t b0;have n0:=sp t;refine rn [4,5,6,7,8,9] ?_;exact Ul b0 ⟨orF t,Zv⟩
   . intro t b0;have n0:=sp t;refine dd [3,4,5,6,7,8] ?_;exact Ul b0 ⟨orT t,Zv⟩
   intro L_;refine dd [9] ?_;refine D4 [26,8,0,1,2,10,11] ?_;apply D5 0 [0,1,2,3,4,5,6,7,8,9,10,11,12,13,14,15,16,17,18,19] 36 26 rfl
   . intro r a0;have m0:=sp r;refine rf [11,12,13,14,15,16,17,18,19,20] y ?_;exact Ul a0 ⟨orF r,Zv⟩
   . intro r a0;have m0:=sp r;refine dd [10,11,12,13,14,15,16,17,18,19] ?_;exact Ul a0 ⟨orT r,Zv⟩
   intro L_;refine jV ?_;refine xp 36 ?_ ?_<;>intro g3
   . have j:24<d\/e=512\/id≠e:=(by first|omega|(simp at g3;omega));rw [if_pos j] at b;dsimp only at b;refine xx 5 ?_;refine Zq (pto pa (.cells [.pointer (some ⟨pp,0,none⟩),I64 e,I64 lo].toArray 168 (0,0))::q) func80 (Zn results80 rfl) ⟨_,rfl,_,(by rw [b];rfl),(by rw [b];intro m h;cases h),rfl⟩
   have j: ¬ (24<d\/e=512\/id≠e):=(by first|omega|(simp at g3;omega));rw [if_neg j] at b;have w0: ¬24<d/\ ¬e=512:=⟨fun k=>j (.inl k),fun k=>j (.inr (.inl k))⟩;refine rn [7,0,3,0,6] ?_;refine aO call122 (parts_ok hB w (o.le leA) (iZ Qu) (hp.le leA)) ?_;refine Zt (bV rfl) ?_;refine oo 1 ?_;refine Zf [48,8,0,1,2,10,11] ?_;apply Zy 5 53 48 rfl
   . intro p z;have l0:=sp p;refine oo 2 ?_;refine aO call123 (slots_ok hB w (o.le leA) (iZ Qu) (hp.le leA)) ?_;refine Zt (bV rfl) ?_;refine oo 1 ?_;exact Zz z ⟨orF p,Zv⟩
   . intro p z;have l0:=sp p;refine oo 5 ?_;exact Zz z ⟨orT p,Zv⟩
   refine ox 1 ?_;refine xp 53 ?_ ?_<;>intro g5
   . rw [if_neg (by intro k;rw [aI] at k;revert g5;simp [k.1,k.2])] at b;dsimp only at b;refine xx 5 ?_;refine Zq (pto pa (.cells [.pointer (some ⟨pp,0,none⟩),I64 (e+1),I64 lo].toArray 168 (0,0))::q) func80 (Zn results80 rfl) ⟨_,rfl,_,(by rw [b];rfl),(by rw [b];intro m h;cases h),rfl⟩
   rw [if_pos (by rw [aI];simpa using g5)] at b;refine rf [8,0,2] y ?_;refine Zb call80 Zk (IH (Zm bd) (by omega) (l:=bd) (d:=d+1) (n:=(e+1)) (aL _) k0 (by omega) (by omega) (hp.le leA) ((o.le leA).imp fun M h=>h.2.2.2.1)) ?_;rintro _ _ ⟨n2,rfl,i0,rfl⟩;rcases hR2:Z2 g.er.cn lo (Zj bd) (d+1) (e+1) with _|m1
   . refine bA 61 bF rfl (by rfl) ?_;rw [hR2] at b;dsimp only at b;refine ox 18 ?_;refine Zq (pto pa (.cells [.pointer (some ⟨pp,0,none⟩),I64 n2,I64 lo].toArray 168 (0,0))::q) func80 (Zn results80 rfl) ⟨_,rfl,_,(by rw [b];rfl),(by rw [b];intro m h;cases h),rfl⟩
   refine bA 61 bT rfl (by rfl) ?_;obtain rfl:=i0 _ hR2;rw [hR2] at b;have p0:=V1 (by omega) hR2;dsimp only at b;refine rf [6,0,2] y ?_;refine Zb call80 Zk (IH (Zm u) (by omega) (l:=u) (d:=d+1) (n:=n2) (aL _) j0 (by omega) (by omega) (hp.le leA) ((o.le leA).imp fun M h=>⟨h.2.2.2.2.1,h.2.2.2.2.2⟩)) ?_;rintro _ _ ⟨n3,rfl,g0,rfl⟩;rcases hR3:Z2 g.er.cn lo (Zj u) (d+1) n2 with _|m2
   . refine bA 71 bF rfl (by rfl) ?_;rw [hR3] at b;dsimp only at b;refine ox 8 ?_;refine Zq (pto pa (.cells [.pointer (some ⟨pp,0,none⟩),I64 n3,I64 lo].toArray 168 (0,0))::q) func80 (Zn results80 rfl) ⟨_,rfl,_,(by rw [b];rfl),(by rw [b];intro m h;cases h),rfl⟩
   refine bA 71 bT rfl (by rfl) ?_;obtain rfl:=g0 _ hR3;rw [hR3] at b;have o0:=V1 (by omega) hR3;dsimp only at b;refine ox 10 ?_;rw [<-e_];refine aY (ih (i+1,n3) ⟨by dsimp only;omega,b,by dsimp only;omega,by dsimp only;omega⟩ (by dsimp only;omega)) Zu leA
 obtain rfl:i=l.length:=(by omega);rw [dP] at b;simp only [Zj,Z2] at b;refine xx 6 ?_;refine Zq (pto pa (.cells [.pointer (some ⟨pp,0,none⟩),I64 e,I64 lo].toArray 168 (0,0))::q) func80 (Zn results80 rfl) ⟨_,rfl,e,by rw [b];rfl,by rw [b];intro m h;cases h;rfl,rfl⟩
theorem ask_all (hB:B<=1000000)(N:Nat)(hN:N<=1000000):AskB G B pa pp g lo N:=by
 induction N using Nat.strongRecOn with
 |ind N IH=>exact fun b e d a c f=>ask_step (fun n a=>IH n a (by omega)) hB hN b e d a c f
end
theorem Nl (a b:List Int):Y7 (a++b)=Y7 a+Y7 b:=by
 induction a with
 |nil=>simp [Y7]
 |cons x r ih=>simp only [Y7,cM,List.foldr_cons] at ih|-;omega
theorem Qg (h: ∀ x∈l,0<=x/\x<=k)(hk:0<=k):0<=Y7 l/\Y7 l<=k*l.length:=by
 induction l with
 |nil=>simp [Y7]
 |cons x r ih=>
  have c:=h x (bI ..);have b:=ih fun y a=>h y (bZ _ a)
  have e:Y7 (x::r)=x+Y7 r:=rfl;rw [e,bG,Int.natCast_succ,Int.mul_add,Int.mul_one];omega
theorem Es (hp:CellsAt q pp 0 (pgC g))(hK:Kn q fun M=>g.At M)(hl:g.vars.l.length<=1000000/\g.arrs.l.length<=1000000/\g.chs.l.length<=1000000/\g.ths.l.length<=1000000):CallF prog G 78 (A8 pp) (q) (Ret fun v q'=>v= .bool (Gg g.er)/\q'=q):=by
 refine aC func78 ntmps78 rfl fun F cs=> ?_;have n:CellsAt q pp 0 [.slice g.vars.a g.vars.l.length g.vars.c,.slice g.arrs.a g.arrs.l.length g.arrs.c,I64 g.mu,I64 g.co,.slice g.chs.a g.chs.l.length g.chs.c,.slice g.ths.a g.ths.l.length g.ths.c,I64 g.main,I64 g.stm]:=fun k v hk=>hp k v (by revert hk;match k with|0|1|2|3|4|5|6|7=>exact fun h=>h|(k+8)=>intro h;cases h)
 obtain ⟨R,hR⟩:=kL (Gg g.er);rw [<-hR];unfold Gg at hR;simp only [FC.er,aU] at hR;obtain ⟨d0,e0,g0,f0⟩:=hl;have hV:=(dT (hK.imp fun M h=>h.vars));have hA:=(dT (hK.imp fun M h=>h.arrs));have hC:=(dT (hK.imp fun M h=>h.chs));rw [Qv] at hV hA hC;refine rf [10,0,2] n ?_;refine Zf [15,2,0] ?_;apply Zy 6 21 15 rfl
 . intro b d;have j:=sp b;refine rf [3,0,2] n ?_;exact Zz d ⟨orF b,Zv⟩
 . intro b d;have j:=sp b;refine oo 6 ?_;exact Zz d ⟨orT b,Zv⟩
 refine oo 1 ?_;refine Zf [22,2,0] ?_;apply Zy 6 28 22 rfl
 . intro b d;have j:=sp b;refine rf [3,0,2] n ?_;exact Zz d ⟨orF b,Zv⟩
 . intro b d;have j:=sp b;refine oo 6 ?_;exact Zz d ⟨orT b,Zv⟩
 refine oo 1 ?_;refine Zf [29,2,0] ?_;apply Zy 6 35 29 rfl
 . intro b d;have j:=sp b;refine rf [3,0,2] n ?_;exact Zz d ⟨orF b,Zv⟩
 . intro b d;have j:=sp b;refine oo 6 ?_;exact Zz d ⟨orT b,Zv⟩
 refine ox 1 ?_;refine xp 35 ?_ ?_<;>intro h1
 . refine xx 5 ?_;refine Zq (q) func78 (Zn results78 rfl) ⟨_,rfl,cB (by rw [hR];symm;rw [cS];intro k;have k1:=k.1;have k2:=k.2.1;(first|omega|(simp at h1;omega))),rfl⟩
 have hm:(0<=g.mu/\g.mu<=64)/\(0<=g.co/\g.co<=64):=(by first|omega|(simp at h1;omega));refine rf [4,0,1,2,3,4,5,6,7,8,9,10,11,12,13,14,15,16,17,18,19,20,21,22,23,24,25,26,27,28,29,30,31,32,33,34,0] n ?_;refine xp 69 ?_ ?_<;>intro h2
 . refine xx 5 ?_;refine Zq (q) func78 (Zn results78 rfl) ⟨_,rfl,cB (by rw [hR];symm;rw [cS];intro k;have k1:=k.2.2.1;omega),rfl⟩
 refine rf [8,0,4] n ?_;refine aY (cG (fun (s:Nat)=>s<=g.vars.l.length/\(∀ x∈g.vars.l.take s,val x)) (fun s=> [(0,.pointer (some ⟨pp,0,none⟩)),(73,.slice g.vars.a g.vars.l.length g.vars.c),(74,I64 g.vars.l.length),(75,I64 s)]) (fun s=>q++F) (fun s=>g.vars.l.length - s) (fun s p w=> ?_) 0 ⟨bB _,by simp⟩) Zu leA;try dsimp only at p w|-
 obtain ⟨c0,e⟩:=p;refine xx 5 ?_;refine xp 76 ?_ ?_<;>intro h0
 . have o:s<g.vars.l.length:=(by omega);refine Yd (hV.le leA) (by simp;omega) fun ab ao e_=> ?_;have m:=hV;rw [e_] at m|-;refine rf [7,0] m ?_;obtain ⟨x,hx⟩:=kL g.vars.l[s];refine bA 78 (I64 x) rfl (by rw [hx]) ?_;have r:g.vars.l.take (s+1)=g.vars.l.take s++ [x]:=by rw [aH o,hx]
   refine oo 7 ?_;refine Zf [81,4,0,73,74,75] ?_;apply Zy 3 84 81 rfl
   . intro b d;have j:=sp b;refine oo 3 ?_;exact Zz d ⟨orF b,Zv⟩
   . intro b d;have j:=sp b;refine oo 3 ?_;exact Zz d ⟨orT b,Zv⟩
   refine ox 1 ?_;refine xp 84 ?_ ?_<;>intro h4
   . refine xx 5 ?_;refine Zq (q) func78 (Zn results78 rfl) ⟨_,rfl,cB (by rw [hR];symm;rw [cS];intro k;have k1:=k.2.2.2.1 x (hx ▸ aB o);unfold val at k1;(first|omega|(simp at h4;omega))),rfl⟩
   have hv:val x:=(by unfold val;first|omega|(simp at h4;omega));refine xx 7 ?_;rw [<-e_]
   refine aY (w (s+1) ⟨by (try dsimp only);omega,fun y f=>by
    (try dsimp only at f)
    rw [r] at f;rcases aQ.1 f with f|f
    . exact e y f
    rw [aZ.1 f];exact hv⟩ (by (try dsimp only);omega)) Zu leA
 obtain rfl:s=g.vars.l.length:=(by omega);rw [cD] at e;have t:=e;clear w;refine rf [12,0,4] n ?_;refine aY (cG (fun (s:Nat×Int)=>s.1<=g.arrs.l.length/\(∀ x∈g.arrs.l.take s.1,1<=x/\x<=256)/\s.2=Y7 (g.arrs.l.take s.1)) (fun s=> [(0,.pointer (some ⟨pp,0,none⟩)),(89,.slice g.arrs.a g.arrs.l.length g.arrs.c),(90,I64 g.arrs.l.length),(91,I64 (s.1:Int)),(5,I64 s.2)]) (fun s=>q++F) (fun s=>g.arrs.l.length - s.1) (fun s p w=> ?_) (0,0) ⟨bB _,by simp,by simp [Y7]⟩) Zu leA;try dsimp only at p w|-
 obtain ⟨c0,e,a0⟩:=p;obtain ⟨i,z⟩:=s;dsimp only at*;refine xx 5 ?_;refine xp 92 ?_ ?_<;>intro h0
 . have o:i<g.arrs.l.length:=(by omega);refine Yd (hA.le leA) (by simp;omega) fun ab ao e_=> ?_;have m:=hA;rw [e_] at m|-;refine rf [7,0] m ?_;obtain ⟨x,hx⟩:=kL g.arrs.l[i];refine bA 94 (I64 x) rfl (by rw [hx]) ?_;have r:g.arrs.l.take (i+1)=g.arrs.l.take i++ [x]:=by rw [aH o,hx]
   have b0:=Qg (l:=g.arrs.l.take i) (k:=256) (fun y f=>by have:=e y f;omega) (by decide);rw [bH] at b0;have j0:(i:Int)<=64:=(by omega);have i0:((min i g.arrs.l.length:Nat):Int)=i:=(by omega);rw [i0] at b0;refine oo 8 ?_;refine Zf [97,7,0,89,90,91,5] ?_;apply Zy 3 100 97 rfl
   . intro b d;have j:=sp b;refine oo 3 ?_;exact Zz d ⟨orF b,Zv⟩
   . intro b d;have j:=sp b;refine oo 3 ?_;exact Zz d ⟨orT b,Zv⟩
   refine ox 1 ?_;refine xp 100 ?_ ?_<;>intro h4
   . refine xx 5 ?_;refine Zq (q) func78 (Zn results78 rfl) ⟨_,rfl,cB (by rw [hR];symm;rw [cS];intro k;have k1:=k.2.2.2.2.1 x (hx ▸ aB o);(first|omega|(simp at h4;omega))),rfl⟩
   have hv:1<=x/\x<=256:=(by first|omega|(simp at h4;omega));refine xx 13 ?_;rw [<-e_]
   refine aY (w (i+1,z+x) ⟨by (try dsimp only);omega,fun y f=>by
    (try dsimp only at f)
    rw [r] at f;rcases aQ.1 f with f|f
    . exact e y f
    rw [aZ.1 f];exact hv,by dsimp only;rw [r,Nl,a0];simp [Y7]⟩ (by (try dsimp only);omega)) Zu leA
 obtain rfl:i=g.arrs.l.length:=(by omega);rw [cD] at e a0;have u:=e;clear w;have sm:=a0;subst a0;have b0:=Qg (l:=g.arrs.l) (k:=256) (fun y f=>by have:=e y f;omega) (by decide);refine rf [8,0,4] n ?_;refine aY (cG (fun (s:Nat)=>s<=g.chs.l.length/\(∀ x∈g.chs.l.take s,1<=x/\x<=16)) (fun s=> [(5,I64 (Y7 g.arrs.l)),(108,.slice g.chs.a g.chs.l.length g.chs.c),(109,I64 g.chs.l.length),(110,I64 s)]) (fun s=>q++F) (fun s=>g.chs.l.length - s) (fun s p w=> ?_) 0 ⟨bB _,by simp⟩) Zu leA;try dsimp only at p w|-
 obtain ⟨c0,e⟩:=p;refine xx 5 ?_;refine xp 111 ?_ ?_<;>intro h0
 . have o:s<g.chs.l.length:=(by omega);refine Yd (hC.le leA) (by simp;omega) fun ab ao e_=> ?_;have m:=hC;rw [e_] at m|-;refine rf [7,0] m ?_;obtain ⟨x,hx⟩:=kL g.chs.l[s];refine bA 113 (I64 x) rfl (by rw [hx]) ?_;have r:g.chs.l.take (s+1)=g.chs.l.take s++ [x]:=by rw [aH o,hx]
   refine oo 7 ?_;refine Zf [116,9,5,108,109,110] ?_;apply Zy 3 119 116 rfl
   . intro b d;have j:=sp b;refine oo 3 ?_;exact Zz d ⟨orF b,Zv⟩
   . intro b d;have j:=sp b;refine oo 3 ?_;exact Zz d ⟨orT b,Zv⟩
   refine ox 1 ?_;refine xp 119 ?_ ?_<;>intro h4
   . refine xx 5 ?_;refine Zq (q) func78 (Zn results78 rfl) ⟨_,rfl,cB (by rw [hR];symm;rw [cS];intro k;have k1:=k.2.2.2.2.2.1 x (hx ▸ aB o);(first|omega|(simp at h4;omega))),rfl⟩
   have hv:1<=x/\x<=16:=(by first|omega|(simp at h4;omega));refine xx 7 ?_;rw [<-e_]
   refine aY (w (s+1) ⟨by omega,fun y f=>by
    rw [r] at f;rcases aQ.1 f with f|f
    . exact e y f
    rw [aZ.1 f];exact hv⟩ (by omega)) Zu leA
 obtain rfl:s=g.chs.l.length:=(by omega);rw [cD] at e;clear w;refine xx 8 ?_;refine Zq (q) func78 (Zn results78 rfl) ⟨_,rfl,cB (by rw [hR];rw [cJ];simp only [bN];exact ⟨fun k=>⟨hm.1,hm.2,by omega,t,u,e,k⟩,fun k=>k.2.2.2.2.2.2⟩),rfl⟩
theorem pmay_ok (hp:CellsAt q pp 0 (pgC g))(hK:Kn q fun M=>g.At M)(hB:CpOk B g):CallF prog G 44 [.pointer (some ⟨pp,0,none⟩)] (q) (Ret fun v q'=>v= .bool (Dh g.er)/\q'=q):=by
 refine aC func44 ntmps44 rfl fun F cs=> ?_;have m:CellsAt q pp 0 [.slice g.vars.a g.vars.l.length g.vars.c,.slice g.arrs.a g.arrs.l.length g.arrs.c,I64 g.mu,I64 g.co,.slice g.chs.a g.chs.l.length g.chs.c,.slice g.ths.a g.ths.l.length g.ths.c,I64 g.main,I64 g.stm]:=fun k v hk=>hp k v (by revert hk;match k with|0|1|2|3|4|5|6|7=>exact fun h=>h|(k+8)=>intro h;cases h)
 obtain ⟨R,hR⟩:=kL (Dh g.er);rw [<-hR];unfold Dh at hR;rw [g_th,show g.er.main=g.main from rfl] at hR;obtain ⟨o,p,w,u,_⟩:=hB.l;have hT:=dT (hK.imp fun M h=>h.ths);have e0:=Zx Q1 g.ths.l;refine rn [6,0,1] ?_;refine Y2 1 call78 (Es (hp.le leA) (hK.le leA) ⟨o,p,w,u⟩) ?_;refine Vz 2 rfl (bV rfl) ?_;refine dd [3] ?_;refine D4 [9,2,0] ?_;apply D5 0 [0,1,2,3,4,5,6,7,8,9,10,11,12,13,14,15] 21 9 rfl
 . intro f j;have b0:=sp f;refine rf [5,6,7,8,9,10,11,12,13] m ?_;refine Y2 13 call79 (Ja) ?_ (hL:=(hlF m));refine Vz 14 rfl (bV rfl) ?_;refine dd [15] ?_;exact Ul j ⟨orF f,Zv⟩
 . intro f j;have b0:=sp f;refine dd [4,5,6,7,8,9,10,11,12,13,14,15] ?_;exact Ul j ⟨orT f,Zv⟩
 intro L_;refine jV ?_;refine xp 21 ?_ ?_<;>intro h1
 . refine xx 5 ?_;refine Zq (q) func44 (Zn results44 rfl) ⟨_,rfl,cB (by rw [hR];unfold inB;(first|(simp_all;done)|(rcases hz1:Gg g.er<;>rcases aX (0<=g.main/\g.main<(g.ths.l.length:Int)) with z|z<;>simp_all<;>(intros;omega)))),rfl⟩
 obtain ⟨i0,y⟩:Gg g.er=true/\inB g.main g.ths.l.length=true:=(by unfold inB;(first|(simp_all;done)|(rcases hz1:Gg g.er<;>rcases aX (0<=g.main/\g.main<(g.ths.l.length:Int)) with z|z<;>simp_all<;>(intros;omega))));rw [i0,gI,y,gI] at hR;refine xo 6 ?_;refine Ww fun n1=> ?_
 refine rf [8,0,4] m ?_;refine aY (cG (fun (s:Nat×Int×Int)=>s.1<=g.ths.l.length/\R=(W4 g.er.cn ((g.ths.l.drop s.1).map Th.er) s.2.1==some g.stm)/\0<=s.2.1/\s.2.1<=512) (fun s=> [(0,.pointer (some ⟨pp,0,none⟩)),(3,pt n1),(29,I64 g.ths.l.length),(30,I64 (s.1:Int))]) (fun s=>pto n1 (.cells [.pointer (some ⟨pp,0,none⟩),I64 s.2.1,I64 s.2.2].toArray 168 (0,0))::(q++F)) (fun s=>g.ths.l.length - s.1) (fun s f0 ih=> ?_) (0,0,0) ⟨bB _,by rw [hR,gB];rfl,by decide⟩) Zu leA;try dsimp only at f0 ih|-
 obtain ⟨m0,e,j0⟩:=f0;obtain ⟨i,n,lo⟩:=s;dsimp only at*;refine xx 5 ?_;refine xp 31 ?_ ?_<;>intro h0
 . have r:i<g.ths.l.length:=(by omega);obtain ⟨x,hx⟩:=kL g.ths.l[i];have c0:=hB.t x (hx ▸ aB r);rw [aJ r,<-hx,bP] at e;simp only [W4] at e;rw [show (Th.er x).loc=x.loc from rfl,show (Th.er x).body=Zj x.body from rfl] at e;refine Yd (hT.le leA) (by rw [e0];omega) fun ab ao e_=> ?_;have g0:=hT;have d0:=m;rw [e_] at g0 d0;have a0:CellsAt q ab (ao+(i:Int).toNat*3) (thC x):=by rw [hx];exact CellsAt.row g0 (aE _) Q1 r rfl
   have k0:Kn q fun M=>BlkAt M x.a x.c x.body:=hK.imp fun M h=>h.bod x (hx ▸ aB r)
   refine rg [14,0,10,0,2] d0 a0 ?_;refine Zf [44,5,0,3,29,30] ?_;apply Zy 6 50 44 rfl
   . intro f j;have b0:=sp f;refine rf [3,0,2] a0 ?_;exact Zz j ⟨orF f,Zv⟩
   . intro f j;have b0:=sp f;refine oo 6 ?_;exact Zz j ⟨orT f,Zv⟩
   refine ox 1 ?_;refine xp 50 ?_ ?_<;>intro h2
   . refine xx 5 ?_;refine Zq (q) func44 (Zn results44 rfl) ⟨_,rfl,cB (by rw [e];rw [if_pos (by first|omega|(simp at h2;omega))];rfl),rfl⟩
   rw [if_neg (by first|omega|(simp at h2;omega))] at e;refine rf [8,0,2,0,7,0] a0 ?_;refine Zb call80 Zk (ask_all hB.b (Zm x.body) c0.1 (l:=x.body) (d:=1) (n:=n) (lo:=x.loc) (aL _) c0.2 (by decide) j0 (hp.le leA) (k0.le leA)) ?_;rintro _ _ ⟨n2,rfl,y,rfl⟩;refine Zt (bV rfl) ?_;refine ox 1 ?_;rcases hR2:Z2 g.er.cn x.loc (Zj x.body) 1 n with _|m1
   . rw [hR2] at e;dsimp only at e;refine rn [2064,5] ?_;refine Zq (q) func44 (Zn results44 rfl) ⟨_,rfl,cB (by rw [e];rfl),rfl⟩
   rw [hR2] at e;dsimp only at e;refine Jc 64 ?_;obtain rfl:=y _ hR2;have l0:=V1 (by omega) hR2;refine xx 7 ?_;refine aY (ih (i+1,n2,x.loc) ⟨by dsimp only;omega,e,by dsimp only;omega,by dsimp only;omega⟩ (by dsimp only;omega)) Zu leA
 obtain rfl:i=g.ths.l.length:=(by omega);rw [dP] at e;simp only [eM,W4] at e;refine rf [3,0,1,2,3,4,5,6,7,8,9,10,0] m ?_;refine Zq (q) func44 (Zn results44 rfl) ⟨_,rfl,cB (by rw [e,cJ];simp),rfl⟩
def yH (p:Nat)(s:Sy):HP:=ex fun U:SyC=>stars (pure (Real U s)::syL p U)
theorem I6 {U:SyC}(h:Real U s)(q:List HP):Le (syL p U++q) (yH p s::q):=
 Em U ((Ql h _).trans (Z5 (pure (Real U s)::syL p U) q))
theorem Up {fn:FuncId}{vs:List Value}{R:Wx.U5}(h: ∀ U,Real U s->CallF P G fn vs (syL p U) R):CallF P G fn vs [yH p s] R:=by
 intro F w st c;obtain ⟨U,b⟩:=St.get_ex st;have a:=b.le (Z1 (pure (Real U s)::syL p U) F);exact h U a.get_pure F w (a.le (eD _ _)) c
theorem U1 {U:SyC}(h:Real U s):Le (syL p U) [yH p s]:=by have:=I6 (p:=p) h [];rwa [cA] at this
structure PS where
 b:Nat
 o:Nat
 s:Stm
def PS.v (x:PS):Value:= .pointer (some ⟨x.b,x.o,none⟩)
def PS.At (M:Hp)(x:PS):Prop:=StAt M ⟨x.b,x.o,none⟩ x.s
def psL (b o:Nat)(l:List Stm):List PS:=(List.range l.length).map fun i=>⟨b,o+i*25,l.getD i zSm⟩
theorem Mj (b o:Nat)(l:List Stm):(psL b o l).length=l.length:=by simp [psL]
theorem Gw (b o:Nat)(l:List Stm):(psL b o l).map (fun y=>y.s.er)=Zj l:=by
 apply hU
 . simp [psL,Zg]
 intro i c d;have a:i<l.length:=by simpa [psL] using c
 simp [psL,Yf,a]
theorem Gx {l:List Stm}(h:BlkAt M (some ⟨b,o,none⟩) c l): ∀ y∈psL b o l,y.At M:=by
 intro y d;obtain ⟨i,a,rfl⟩:=bU.1 d;have a:=jC.1 a;obtain ⟨k,j,g,f⟩:=fR Z8 (by decide) h.1.2.2 a
 cases g
 have e:l.getD i zSm=l[i]:=by simp [List.getD,a]
 unfold PS.At;dsimp only;rw [e];exact ⟨f,Vg.1 h.2 _ (aB a)⟩
structure TC where
 decl:Int
 st:Int
 la:Option Addr
 lc:Nat
 loc:List Int
 ta:Option Addr
 tc:Nat
 todo:List PS
 sa:Option Addr
 sc:Nat
 sp:List Int
variable {t:TC}{ths:List TC}
def trC (x:TC):List Value:= [I64 x.decl,I64 x.st,.slice x.la x.loc.length x.lc,.slice x.ta x.todo.length x.tc,.slice x.sa x.sp.length x.sc]
theorem Zd (x:TC):(trC x).length=5:=rfl
theorem F6 (x:TC):(trC x).all (·.oneCell')=true:=rfl
def TC.er (x:TC):PTr:=⟨x.decl,x.st,x.loc,(x.todo.map fun y=>y.s.er).reverse,x.sp⟩
def trL (x:TC):List HP:= [lsH I64 2 x.la x.lc x.loc,lsH PS.v 146 x.ta x.tc x.todo,lsH I64 3 x.sa x.sc x.sp]
def trH (x:TC):HP:=stars (trL x)
def TodoAt (M:Hp)(l:List TC):Prop:= ∀ t∈l,∀ y∈t.todo,y.At M
structure StC where
 ca:Option Addr
 cc:Nat
 cells:List Int
 sp:Nat
 sy:Sy
 ha:Option Addr
 hc:Nat
 ths:List TC
 out:POut
variable {U:StC}
def Vt (pp:Nat)(U:StC):List Value:= [.pointer (some ⟨pp,0,none⟩),.slice U.ca U.cells.length U.cc,.pointer (some ⟨U.sp,0,none⟩),.slice U.ha U.ths.length U.hc,I64 U.out.kind,I64 U.out.trap,I64 U.out.th,I64 U.out.stmt]
def StC.er (U:StC):SS:=⟨U.cells,U.sy,U.ths.map TC.er,U.out⟩
def Zr (U:StC):List HP:= [lsH I64 2 U.ca U.cc U.cells,yH U.sp U.sy,rsH trC 5 116 U.ha U.hc U.ths,stars (U.ths.map trH)]
def stP (p pp:Nat)(U:StC):HP:=pto p (.cells (Vt pp U).toArray 98 (0,0))
def acC (x:Ac):List Value:= [I64 x.1,.bool x.2.1,I64 x.2.2]
def snC (x:Sn):List Value:= [I64 x.1,I64 x.2.1,I64 x.2.2]
structure EvC where
 e:PEv
 aa:Option Addr
 ac:Nat
 na:Option Addr
 nc:Nat
variable {ev:EvC}
def evC (x:EvC):List Value:= [I64 x.e.th,I64 x.e.stmt,.bool x.e.woke,I64 x.e.trap,.slice x.aa x.e.acc.length x.ac,.bool x.e.told,I64 x.e.outv,I64 x.e.value,.slice x.na x.e.syn.length x.nc]
def evL (x:EvC):List HP:= [rsH acC 3 140 x.aa x.ac x.e.acc,rsH snC 3 50 x.na x.nc x.e.syn]
def spP (p pp who:Nat)(U:StC)(e:EvC):HP:=pto p (.cells (Vt pp U++(I64 who::evC e)).toArray 145 (0,0))
structure Prg (q:List HP) (pp:Nat) (g:FC):Prop where
 hp:CellsAt q pp 0 (pgC g)
 hK:Kn q fun M=>g.At M
theorem Prg.le (h:Prg q' pp g)(l:Le q q'):Prg q pp g:=⟨h.hp.le l,h.hK.le l⟩
def Fnd.pr (f:Fnd):PPr:=⟨f.vars,f.arrs,f.chs,f.mu,f.co,f.main,f.ths.map fun t=>(t.loc,t.body)⟩
theorem C9 (n:Nat)(a:Option Addr)(c ty:Nat)(q:List HP):Le (slH a c ty 1 n ((List.replicate n (Value.int .i64 0).cells.toList).flatten)::q) (lsH I64 ty a c (List.replicate n 0)::q):=by
 unfold lsH;rw [cU,show (List.replicate n (0:Int)).map I64=(List.replicate n (Value.int .i64 0).cells.toList).flatten by simp [Value.cells]];exact aE _
theorem W0:(prog.info? 146).map (fun i=>(i.zero,i.size,i.bytes))=some (some (.pointer none),1,8):=by kernel_rfl
section
variable {t v m:Int}{ta:Option Addr}{tc:Nat}{todo:List PS}{x0 x2 x4:Value}{l:List Stm}
theorem X6 (hs:s.ok N)(hN:N<=1000):CallF prog G 56 (Aa p m) [yH p s] (Ret fun v q'=>v= .tuple [I64 (Hs s m).1,I64 (Hs s m).2].toArray/\q'= [yH p s]):=
 Up fun U a=>dF (aE _) (Owner_ok a hs hN) (by rintro _ _ ⟨_,rfl,rfl,rfl⟩;exact ⟨_,⟨_,rfl,rfl,rfl⟩,(U1 a)⟩)
theorem Lock_Y (hs:s.ok N)(hN:N<=1000):CallF prog G 128 (Ae p m t) [yH p s] (Ret fun v q'=>v= .tuple [.bool (Ws s m t).2.1,I64 (Ws s m t).2.2].toArray/\q'= [yH p (Ws s m t).1]):=
 Up fun U a=>dF (aE _) (Lock_ok a hs hN) (by rintro _ _ ⟨_,rfl,c,b,rfl,rfl⟩;exact ⟨_,⟨_,rfl,rfl,rfl⟩,(U1 b)⟩)
theorem Unlock_Y (hs:s.ok N)(hN:N<=1000):CallF prog G 193 (Ae p m t) [yH p s] (Ret fun v q'=>v= I64 (Z6 s m t).2/\q'= [yH p (Z6 s m t).1]):=
 Up fun U a=>dF (aE _) (Zzp a hs hN) (by rintro _ _ ⟨_,rfl,c,b,rfl,rfl⟩;exact ⟨_,⟨_,rfl,rfl,rfl⟩,(U1 b)⟩)
theorem Wait_Y (hs:s.ok N)(hN:N<=1000):CallF prog G 171 (Ae p k t) [yH p s] (Ret fun v q'=>v= I64 (U7 s k t).2/\q'= [yH p (U7 s k t).1]):=
 Up fun U a=>dF (aE _) (Wait_ok a hs hN) (by rintro _ _ ⟨_,rfl,c,b,rfl,rfl⟩;exact ⟨_,⟨_,rfl,rfl,rfl⟩,(U1 b)⟩)
theorem Lz (hs:s.ok N)(hN:N<=1000):CallF prog G 172 (Aa p k) [yH p s] (Ret fun v q'=>v= .tuple [I64 (max (Yt s k).2.1 0),.bool (decide (0<=(Yt s k).2.1)),I64 (Yt s k).2.2].toArray/\q'= [yH p (Yt s k).1]):=
 Up fun U a=>dF (aE _) (Zzr a hs hN) (by rintro _ _ ⟨_,rfl,c,b,rfl,rfl⟩;exact ⟨_,⟨_,rfl,rfl,rfl⟩,(U1 b)⟩)
theorem All_Y (hs:s.ok N)(hN:N<=1000):CallF prog G 173 (Aa p k) [yH p s] (Ret fun v q'=> ∃ a' c',v= .tuple [.slice a' (Kb s k).2.1.length c',I64 (Kb s k).2.2].toArray/\q'= [lsH I64 3 a' c' (Kb s k).2.1,yH p (Kb s k).1]):=
 Up fun U a=>dF (aE _) (All_ok a hs hN) (by rintro _ _ ⟨_,rfl,c,a',c',b,rfl,rfl⟩;exact ⟨_,⟨_,rfl,a',c',rfl,rfl⟩,(dD _ (U1 b))⟩)
theorem Send_Y (hs:s.ok N)(hN:N<=1000):CallF prog G 174 (Ae p k t) [yH p s] (Ret fun v q'=>v= .tuple [I64 (max (Vf s k t).2.1 0),.bool (decide (0<=(Vf s k t).2.1)),I64 (Vf s k t).2.2].toArray/\q'= [yH p (Vf s k t).1]):=
 Up fun U a=>dF (aE _) (Send_ok a hs hN) (by rintro _ _ ⟨_,rfl,c,b,rfl,rfl⟩;exact ⟨_,⟨_,rfl,rfl,rfl⟩,(U1 b)⟩)
theorem Recv_Y (hs:s.ok N)(hN:N<=1000):CallF prog G 175 (Aa p k) [yH p s] (Ret fun v q'=>v= .tuple [I64 (Vq s k).2.1,I64 (max (Vq s k).2.2.1 0),.bool (decide (0<=(Vq s k).2.2.1)),I64 (Vq s k).2.2.2].toArray/\q'= [yH p (Vq s k).1]):=
 Up fun U a=>dF (aE _) (Recv_ok a hs hN) (by rintro _ _ ⟨_,rfl,c,b,rfl,rfl⟩;exact ⟨_,⟨_,rfl,rfl,rfl⟩,(U1 b)⟩)
theorem P7 (hs:s.ok N)(hN:N<=1000):CallF prog G 58 (Aa p k) [yH p s] (Ret fun v q'=> ∃ a' c',v= .tuple [.slice a' (Qf s k).1.length c',I64 (Qf s k).2].toArray/\q'= [lsH I64 2 a' c' (Qf s k).1,yH p s]):=
 Up fun U a=>dF (aE _) (Zzm a hs hN) (by rintro _ _ ⟨_,rfl,a',c',rfl,rfl⟩;exact ⟨_,⟨_,rfl,a',c',rfl,rfl⟩,(dD _ (U1 a))⟩)
theorem Room_Y (hs:s.ok N)(hN:N<=1000):CallF prog G 125 (Aa p k) [yH p s] (Ret fun v q'=>v= .tuple [I64 (Bp s k).1,I64 (Bp s k).2].toArray/\q'= [yH p s]):=
 Up fun U a=>dF (aE _) (Room_ok a hs hN) (by rintro _ _ ⟨_,rfl,rfl,rfl⟩;exact ⟨_,⟨_,rfl,rfl,rfl⟩,(U1 a)⟩)
theorem Copy_Y (hs:s.ok N)(hN:N<=1000):CallF prog G 67 (A8 p) [yH p s] (Ret fun v q'=> ∃ p2,v= .pointer (some ⟨p2,0,none⟩)/\q'= [yH p2 s,yH p s]):=
 Up fun U a=>dF (aE _) (Copy_ok a hs hN) (by rintro _ _ ⟨_,rfl,p2,b,c,rfl,rfl⟩;exact ⟨_,⟨_,rfl,p2,rfl,rfl⟩,(I6 c _).trans (dD _ (U1 a))⟩)
theorem New_Y {mm cc:Int}{rooms:List Int}(hs:Sees q a (rooms.map I64))(ok:Nq mm cc rooms):CallF prog G 46 [I64 mm,I64 cc,.slice a rooms.length c] q (Ret fun v q'=> ∃ p,v= .tuple [.pointer (some ⟨p,0,none⟩),I64 0].toArray/\q'=yH p (Dy mm.toNat cc.toNat rooms)::q):=
 dF (aE _) (New_ok hs ok) (by rintro _ _ ⟨_,rfl,p,U,h,rfl,rfl⟩;exact ⟨_,⟨_,rfl,p,rfl,rfl⟩,I6 h _⟩)
theorem Kv (hc:Cl q ⟨b,o+3,none⟩ (.slice ta todo.length tc))(hs:Sees q ta (todo.map PS.v))(hl:todo.length<=1000000):CallF prog G 60 [.pointer (some ⟨b,o,none⟩)] (q) (Ret fun v q'=>v=(match todo.getLast? with|none=>Value.pointer none|some y=>y.v)/\q'=q):=by
 refine aC func60 ntmps60 rfl fun F g=> ?_;refine xo 10 ?_;refine ld ?_ (hc:=(hc.le leA));refine ox 3 ?_;refine xp 8 ?_ ?_<;>intro f
 . obtain rfl:todo= []:=aK (by omega);refine xx 5 ?_;refine Zq (q) func60 (Zn results60 rfl) ⟨_,rfl,rfl,rfl⟩
 have c:0<todo.length:=(by omega);refine Yd (hs.le leA) (by simp;omega) fun h e d=> ?_;subst d;have a:todo.getLast? =some todo[todo.length - 1]:=by rw [List.getLast?_eq_getElem?,aD (by omega)]
 refine rn [3,0,1,2,3] ?_;refine ldD 3 ?_ (hc:=(hc.le leA));refine dd [4,5,6] ?_;refine ldD 7 ?_ (hc:=(hc.le leA));refine dd [8,9,10] ?_;refine ldD 11 ?_ (hc:=((hs.le leA).at (n:=todo.length - 1) (by omega) (by omega)));refine rn [13,0] ?_;refine Zq (q) func60 (Zn results60 rfl) ⟨_,rfl,by rw [a],rfl⟩
variable {hc gh:Nat}
theorem push_box (hK:Kn q fun M=>BlkAt M a c l)(hl:l.length<=1000000/\todo.length<=1000000):CallF prog G 84 (AG b a l c) (pto b (.cells [x0,x1,x2,.slice ta todo.length tc,x4].toArray 116 (0,0))::lsH PS.v 146 ta tc todo::q) (Ret fun v q'=> ∃ a' c' b' o',(0<l.length->a=some ⟨b',o',none⟩)/\q'=pto b (.cells [x0,x1,x2,.slice a' (todo++(psL b' o' l).reverse).length c',x4].toArray 116 (0,0))::lsH PS.v 146 a' c' (todo++(psL b' o' l).reverse)::q):=by
 refine aC func84 ntmps84 rfl fun F cs=> ?_;have hS:=fM (hK.imp fun M h=>h.1.2.2);have o:=Zx Z8 l;rcases dK l.length with p|p
 . obtain rfl:=aK p;refine xx 7 ?_;refine aY (cG (fun (r:Unit)=>True) (fun r=> [(0,.pointer (some ⟨b,0,none⟩)),(1,.slice a 0 c),(6,I64 0),(7,I64 0)]) (fun r=>pto b (.cells [x0,x1,x2,.slice ta todo.length tc,x4].toArray 116 (0,0))::lsH PS.v 146 ta tc todo::(q++F)) (fun r=>0) (fun r e t=> ?_) () trivial) Zu leA;try dsimp only at e t|-
   obtain _:=e;refine xx 5 ?_;refine dR 8 rfl ?_ ?_<;>intro h0
   . exact aR (sp h0) (by decide)
   refine xx 2 ?_;refine Z7 (pto b (.cells [x0,x1,x2,.slice ta todo.length tc,x4].toArray 116 (0,0))::lsH PS.v 146 ta tc todo::q) func84 (Vm results84) ⟨_,rfl,ta,tc,0,0,(fun k=>aR k (by decide)),by simp [psL]⟩
 refine Yd (hS.le leA) (by rw [o];omega) fun n j e_=> ?_;subst e_;obtain ⟨d,g⟩:=kL (psL n j l).reverse;have w:d.length=l.length:=by rw [g,kH,Mj]
 refine xx 7 ?_;refine aY (cG (fun (s:Nat×Option Addr×Nat)=>s.1<=l.length) (fun s=> [(0,.pointer (some ⟨b,0,none⟩)),(1,.slice (some ⟨n,j,none⟩) l.length c),(6,I64 l.length),(7,I64 (s.1:Int))]) (fun s=>pto b (.cells [x0,x1,x2,.slice s.2.1 (todo++d.take s.1).length s.2.2,x4].toArray 116 (0,0))::lsH PS.v 146 s.2.1 s.2.2 (todo++d.take s.1)::(q++F)) (fun s=>l.length - s.1) (fun s e t=> ?_) (0,ta,tc) (bB _)) Zu (by simp only [gU,cA];exact leA);try dsimp only at e t|-
 obtain hi:=e;obtain ⟨i,a1,y⟩:=s;dsimp only at*;refine xx 5 ?_;refine xp 8 ?_ ?_<;>intro h0
 . have b0:i<l.length:=(by omega);have x:i<d.length:=(by omega);have hx:d[i]=⟨n,j+(l.length - 1 - i)*25,l.getD (l.length - 1 - i) zSm⟩:=by simp [g,psL]
   have a0:(todo++d.take i).length<=2000000:=by rw [aG,bH];omega
   refine rn [9,0,1,2,3,4,5,6,7,8,9,10,11,12] ?_;refine fC 12 rfl (U3 (u:=d[i]) PS.v underlying114 W0 (by rw [hx];exact bK some (bK (fun z=>Value.pointer (some ⟨n,j+z*25,none⟩)) (by omega))) rfl) ?_;rintro _ _ ⟨g2,rfl,rfl⟩;refine ⟨hlA,?_⟩;refine fC 13 rfl (Yx (f:=PS.v) (l:=todo++d.take i) (m:= [d[i]]) underlying114 W0 rfl rfl rfl Zk ((bR _).le leA) (fun _=>rfl) (by simp only [bJ];omega) (by simp only [bJ];omega)) ?_;refine kk2 fun a2 c2=> ?_
   rw [show todo++d.take i++ [d[i]]=todo++d.take (i+1) by rw [aH x,aA]];refine rn [15,16,17,0,5] ?_;refine aY (t (i+1,a2,c2) (by dsimp only;omega) (by dsimp only;omega)) Zu leA
 obtain rfl:i=l.length:=(by omega);rw [<-w,cD,g];refine xx 2 ?_;refine Z7 (pto b (.cells [x0,x1,x2,.slice a1 (todo++(psL n j l).reverse).length y,x4].toArray 116 (0,0))::lsH PS.v 146 a1 y (todo++(psL n j l).reverse)::q) func84 (Vm results84) ⟨_,rfl,a1,y,n,j,fun _=>rfl,rfl⟩
abbrev zTC:TC:=⟨0,0,none,0, [],none,0, [],none,0, []⟩
theorem Be (hn:n<ths.length)(hK:Kn q fun M=>BlkAt M a c l)(hl:l.length<=1000000/\ths[n].todo.length<=1000000):CallF prog G 84 [.pointer (some ⟨gh,0+(n:Int).toNat*5,none⟩),.slice a l.length c] (rsH trC 5 116 (some ⟨gh,0,none⟩) hc ths::lsH PS.v 146 ths[n].ta ths[n].tc ths[n].todo::q) (Ret fun v q'=> ∃ a' c' b' o',(0<l.length->a=some ⟨b',o',none⟩)/\q'=rsH trC 5 116 (some ⟨gh,0,none⟩) hc (ths.set n { ths.getD n zTC with ta:=a',tc:=c',todo:=(ths[n].todo++(psL b' o' l).reverse) })::lsH PS.v 146 a' c' (ths[n].todo++(psL b' o' l).reverse)::q):=by
 refine aC func84 ntmps84 rfl fun F cs=> ?_;have hS:=fM (hK.imp fun M h=>h.1.2.2);have w:=Zx Z8 l;obtain ⟨t,ht⟩:=kL ths[n];have c0:ths.getD n zTC=t:=by rw [ht];simp [List.getD,hn]
 have r:ths.set n t=ths:=by rw [ht];exact dO hn
 rw [<-ht] at hl|-;simp only [c0];refine bY (q':=rsH trC 5 116 (some ⟨gh,0,none⟩) hc (ths.set n { t with ta:=t.ta,tc:=t.tc,todo:=t.todo })::lsH PS.v 146 t.ta t.tc t.todo::(q++F)) (by rw [show ths.set n { t with ta:=t.ta,tc:=t.tc,todo:=t.todo } =ths from r];exact leA) ?_;rcases dK l.length with x|x
 . obtain rfl:=aK x;refine xx 7 ?_;refine aY (cG (fun (y:Unit)=>True) (fun y=> [(0,.pointer (some ⟨gh,0+(n:Int).toNat*5,none⟩)),(1,.slice a 0 c),(6,I64 0),(7,I64 0)]) (fun y=>rsH trC 5 116 (some ⟨gh,0,none⟩) hc (ths.set n { t with ta:=t.ta,tc:=t.tc,todo:=t.todo })::lsH PS.v 146 t.ta t.tc t.todo::(q++F)) (fun y=>0) (fun y d ih=> ?_) () trivial) Zu leA;try dsimp only at d ih|-
   obtain _:=d;refine xx 5 ?_;refine dR 8 rfl ?_ ?_<;>intro h0
   . exact aR (sp h0) (by decide)
   refine xx 2 ?_;refine Z7 (rsH trC 5 116 (some ⟨gh,0,none⟩) hc (ths.set n { t with ta:=t.ta,tc:=t.tc,todo:=t.todo })::lsH PS.v 146 t.ta t.tc t.todo::q) func84 (Vm results84) ⟨_,rfl,t.ta,t.tc,0,0,(fun k=>aR k (by decide)),by simp [psL]⟩
 refine Yd (hS.le leA) (by rw [w];omega) fun p o e_=> ?_;subst e_;obtain ⟨b,e⟩:=kL (psL p o l).reverse;have a0:b.length=l.length:=by rw [e,kH,Mj]
 refine xx 7 ?_;refine aY (cG (fun (s:Nat×Option Addr×Nat)=>s.1<=l.length) (fun s=> [(0,.pointer (some ⟨gh,0+(n:Int).toNat*5,none⟩)),(1,.slice (some ⟨p,o,none⟩) l.length c),(6,I64 l.length),(7,I64 (s.1:Int))]) (fun s=>rsH trC 5 116 (some ⟨gh,0,none⟩) hc (ths.set n { t with ta:=s.2.1,tc:=s.2.2,todo:=(t.todo++b.take s.1) })::lsH PS.v 146 s.2.1 s.2.2 (t.todo++b.take s.1)::(q++F)) (fun s=>l.length - s.1) (fun s d ih=> ?_) (0,t.ta,t.tc) (bB _)) Zu (by simp only [gU,cA];exact leA);try dsimp only at d ih|-
 obtain hi:=d;obtain ⟨i,a1,c1⟩:=s;dsimp only at*;refine xx 5 ?_;refine xp 8 ?_ ?_<;>intro h0
 . have e0:i<l.length:=(by omega);have b0:i<b.length:=(by omega);have hx:b[i]=⟨p,o+(l.length - 1 - i)*25,l.getD (l.length - 1 - i) zSm⟩:=by simp [e,psL]
   have d0:(t.todo++b.take i).length<=2000000:=by rw [aG,bH];omega
   refine rn [9,0,1,2,3,4] ?_;refine ldD 4 ?_ (hc:=(cT (n:=n) (bE _) leA Zd (by rw [bC];exact hn) rfl 3 _ (by rw [cN];rfl)));refine dd [5,6,7,8,9,10,11] ?_;refine fC 12 rfl (U3 (u:=b[i]) PS.v underlying114 W0 (by rw [hx];exact bK some (bK (fun z=>Value.pointer (some ⟨p,o+z*25,none⟩)) (by omega))) rfl) ?_;rintro _ _ ⟨g2,rfl,rfl⟩;refine ⟨(hlA (h:=by repeat first|exact trivial|refine ⟨clA,?_⟩|refine ⟨(cT (n:=n) (bE _) leA Zd (by rw [bC];exact hn) rfl 3 _ (by rw [cN];rfl)),?_⟩)),?_⟩;refine fC 13 rfl (Yx (f:=PS.v) (l:=t.todo++b.take i) (m:= [b[i]]) underlying114 W0 rfl rfl rfl Zk ((bR _).le leA) (fun _=>rfl) (by simp only [bJ];omega) (by simp only [bJ];omega)) ?_;refine kk2 fun a2 c2=> ?_
   rw [show t.todo++b.take i++ [b[i]]=t.todo++b.take (i+1) by rw [aH b0,aA]];refine dd [14,15] ?_;refine iQ 16 rfl (Yr (g:=gh) (f:=trC) (l:=ths.set n { t with ta:=a1,tc:=c1,todo:=t.todo++b.take i }) (u:= { t with ta:=a2,tc:=c2,todo:=t.todo++b.take (i+1) }) (n:=n) (k:=3) (j:=(n:Int)) rfl rfl sizeOf114 Zd rfl (by rw [bC];exact hn) rfl (by rw [cN];rfl) rfl rfl Zk) ?_;refine kk0 ?_;rw [fI];refine rn [0,5] ?_;refine aY (ih (i+1,a2,c2) (by dsimp only;omega) (by dsimp only;omega)) Zu leA
 obtain rfl:i=l.length:=(by omega);rw [<-a0,cD,e];refine xx 2 ?_;refine Z7 (rsH trC 5 116 (some ⟨gh,0,none⟩) hc (ths.set n { t with ta:=a1,tc:=c1,todo:=(t.todo++(psL p o l).reverse) })::lsH PS.v 146 a1 c1 (t.todo++(psL p o l).reverse)::q) func84 (Vm results84) ⟨_,rfl,a1,c1,p,o,fun _=>rfl,rfl⟩
end
theorem Gh:(prog.info? 2).map (fun i=>(i.zero,i.size,i.bytes))=some (some (I64 0),1,8):=by kernel_rfl
theorem R4:(prog.info? 3).map (fun i=>(i.zero,i.size,i.bytes))=some (some (I64 0),1,8):=by kernel_rfl
theorem Qj:(prog.info? 116).map (fun i=>(i.zero,i.size,i.bytes))=some (some (.agg #[I64 0,I64 0,.slice none 0 0,.slice none 0 0,.slice none 0 0]),5,88):=by kernel_rfl
theorem getD_pr (h:n<g.ths.l.length):g.er.pr.ths.getD n (0, [])=(g.ths.l[n].loc,Zj g.ths.l[n].body):=by
 have a:n<g.er.pr.ths.length:=by simp [FC.er,Fnd.pr];exact h
 rw [bD,aD a];simp [FC.er,Fnd.pr,Th.er]
abbrev Ax (v0:Int)(v1)(v2)(v3)(v4):=(⟨(v0:Int),4,some ⟨v1,0,none⟩,v2,List.replicate v2 0,v3,v4, [],none,0, []⟩:TC)
theorem Po (hP:Prg q pp g)(hn:n<g.ths.l.length)(hl:0<=g.ths.l[n].loc/\g.ths.l[n].loc<=32)(hb:g.ths.l[n].body.length<=1000000):CallF prog G 47 [.pointer (some ⟨pp,0,none⟩),I64 n] (q) (Ret fun v q'=> ∃ T:TC,T.er=Wc g.er.pr n/\v= .agg (trC T).toArray/\(Kn q fun M=> ∀ y∈T.todo,y.At M)/\q'=trH T::q):=by
 refine aC func47 ntmps47 rfl fun F cs=> ?_;obtain ⟨hp,hK⟩:=hP;have m:CellsAt q pp 0 [.slice g.vars.a g.vars.l.length g.vars.c,.slice g.arrs.a g.arrs.l.length g.arrs.c,I64 g.mu,I64 g.co,.slice g.chs.a g.chs.l.length g.chs.c,.slice g.ths.a g.ths.l.length g.ths.c,I64 g.main,I64 g.stm]:=fun k v hk=>hp k v (by revert hk;match k with|0|1|2|3|4|5|6|7=>exact fun h=>h|(k+8)=>intro h;cases h)
 have hT:=dT (hK.imp fun M h=>h.ths);have p:=Zx Q1 g.ths.l;obtain ⟨x,hx⟩:=kL g.ths.l[n];rw [<-hx] at hl hb;have j:=getD_pr hn;rw [<-hx] at j;refine Yd (hT.le leA) (by rw [p];omega) fun ab ao e_=> ?_;rw [e_] at hT m;have t:CellsAt q ab (ao+(n:Int).toNat*3) (thC x):=by rw [hx];exact CellsAt.row hT (aE _) Q1 hn rfl
 have s:Kn q fun M=>BlkAt M x.a x.c x.body:=hK.imp fun M h=>h.bod x (hx ▸ aB hn)
 obtain ⟨L,hL⟩:=aV hl.1;refine xo 2 ?_;refine bW zeroValue116 fun n1=> ?_
 refine rg [7,0,3,0] m t ?_;refine bA 14 (Aw L) rfl (by rw [hL]) ?_;refine bQ (Bk (n:=L) rfl rfl underlying23 Gh rfl rfl (by omega) (by omega)) ?_;rintro _ _ ⟨d,rfl,rfl⟩;refine eU (q':=lsH I64 2 (some ⟨d,0,none⟩) L (List.replicate L 0)::_) (aS Zk (C9 _ _ _ _ _)) ?_;refine oo 1 ?_;refine bW zeroValue116 fun n2=> ?_
 refine rg [0,6,0,3,0] m t ?_;refine eU (Za PS.v 146 _) ?_;refine Zb call84 (bM Zk Zk) (push_box (b:=n2) (todo:= []) (l:=x.body) (a:=x.a) (c:=x.c) (s.le leA) ⟨hb,by decide⟩) ?_;rintro _ _ ⟨f,e,b1,o1,b0,rfl⟩;refine oo 4 ?_;obtain ⟨TD,i⟩:=kL (psL b1 o1 x.body).reverse;rw [aT,<-i];have c0:TD.length=x.body.length:=by rw [i,kH,Mj]
 refine aO call60 (Kv (todo:=TD) (b:=n2) (o:=0) clA ((bR _).le leA) (by omega)) ?_
 have u:Kn q fun M=> ∀ y∈TD,y.At M:=by
  rcases dK x.body.length with w|w
  . obtain rfl:TD= []:=aK (by omega);exact fun _ _ _ y z=>by cases z
  refine s.imp fun M h y z=> ?_
  rw [b0 w] at h;rw [i] at z;exact Gx h y (jR.1 z)
 rcases dK x.body.length with w|w
 . obtain rfl:TD= []:=aK (by omega);refine bA 26 (.pointer none) rfl (rfl) ?_;refine rn [2,2027,3,0,3,0,0,1] ?_;refine bY (Za I64 3 _) ?_;refine bY (q':=trH (Ax n d L f e)::_) (aS (b:=lsH I64 2 (some ⟨d,0,none⟩) L (List.replicate L 0)::lsH PS.v 146 f e []::lsH I64 3 none 0 []::_) (bM Zk (bM Zk Zk)) (Z5 (trL (Ax n d L f e)) _)) ?_;refine Zq (trH (Ax n d L f e)::q) func47 (rA_ results47) ⟨_,rfl,(Ax n d L f e),by simp only [TC.er,Wc];rw [show ((n:Int)).toNat=n from rfl,j];simp [hL,aK w,Zj],by rw [trC];simp only [cU];rfl,u,rfl⟩
 have r:TD.getLast? =some (TD[TD.length - 1]'(by omega)):=by rw [List.getLast?_eq_getElem?,aD (by omega)]
 obtain ⟨yy,a0⟩:=kL (TD[TD.length - 1]'(by omega));rw [<-a0] at r;refine bA 26 (.pointer (some ⟨yy.b,yy.o,none⟩)) rfl (by rw [r];rfl) ?_;refine rn [2,1027,4,0,0,1] ?_;refine bY (Za I64 3 _) ?_;refine bY (q':=trH (⟨(n:Int),1,some ⟨d,0,none⟩,L,List.replicate L 0,f,e,TD,none,0, []⟩:TC)::_) (aS (b:=lsH I64 2 (some ⟨d,0,none⟩) L (List.replicate L 0)::lsH PS.v 146 f e TD::lsH I64 3 none 0 []::_) (bM Zk (bM Zk Zk)) (Z5 (trL (⟨(n:Int),1,some ⟨d,0,none⟩,L,List.replicate L 0,f,e,TD,none,0, []⟩:TC)) _)) ?_;refine Zq (trH (⟨(n:Int),1,some ⟨d,0,none⟩,L,List.replicate L 0,f,e,TD,none,0, []⟩:TC)::q) func47 (rA_ results47) ⟨_,rfl,(⟨(n:Int),1,some ⟨d,0,none⟩,L,List.replicate L 0,f,e,TD,none,0, []⟩:TC),by simp only [TC.er,Wc];rw [show ((n:Int)).toNat=n from rfl,j];rw [if_neg (by intro k_;have:=bK List.length k_;rw [Zg] at this;exact aR this (by simp only [dN];omega)),i];simp [hL,<-Gw b1 o1 x.body,jS],by rw [trC];simp only [cU];rfl,u,rfl⟩
mutual
/-- A statement whose parts and slots are there. -/
def PStm.good (c:Cn)(lo:Int):PStm->Prop
 | .mk k _ _ _ _ e ix body els _ slot other loc=>N3 c lo k e ix body.length els.length=true/\Na c lo k slot other loc=true/\(body.length<=512/\els.length<=512)/\Wm c lo body/\Wm c lo els
def Wm (c:Cn)(lo:Int):List PStm->Prop
 | []=>True
 |s::r=>s.good c lo/\Wm c lo r
end
theorem Y9 {c:Cn}{lo:Int}: ∀ {l:List PStm},Wm c lo l↔ ∀ s∈l,s.good c lo
 | []=>by simp [Wm]
 |s::r=>by simp [Wm,Y9 (l:=r)]
mutual
theorem E6 {c:Cn}{lo:Int}: ∀ {s:PStm} {d n m:Int},0<=n->n<=512->s.ask c lo d n=some m->s.good c lo/\n+1<=m/\m<=512
 | .mk ..,d,n,m,hz,hn,h=>by
  simp only [PStm.ask] at h;split at h
  . cases h
  rename_i g;split at h
  . rename_i a;rw [aI] at a;split at h
    . cases h
    rename_i k b;have f:=Ue (by omega) (by omega) b;have e:=Ue (by omega) (by omega) h;exact ⟨⟨a.1,a.2,⟨by omega,by omega⟩,f.1,e.1⟩,by omega,by omega⟩
  cases h
theorem Ue {c:Cn}{lo:Int}: ∀ {l:List PStm} {d n m:Int},0<=n->n<=512->Z2 c lo l d n=some m->Wm c lo l/\n+l.length<=m/\m<=512
 | [],d,n,m,hz,hn,h=>by simp only [Z2] at h;cases h;exact ⟨trivial,by simp,hn⟩
 |s::r,d,n,m,hz,hn,h=>by
  simp only [Z2] at h;split at h
  . cases h
  rename_i k e;have b:=E6 hz hn e;have a:=Ue (by omega) b.2.2 h;exact ⟨⟨b.1,a.1⟩,by rw [bG];omega,a.2.2⟩
end
structure MayP (F:Fnd):Prop where
 f:Nq F.mu F.co F.chs
 m:0<=F.main/\F.main<F.ths.length
 v: ∀ v∈F.vars,val v
 a: ∀ n∈F.arrs,1<=n/\n<=256
 s:Y7 F.arrs<=256
 l:F.vars.length<=64/\F.arrs.length<=64/\F.chs.length<=64/\F.ths.length<=64
 t: ∀ t∈F.ths,(0<=t.loc/\t.loc<=32)/\t.body.length<=512/\Wm F.cn t.loc t.body
theorem Mr {c:Cn}: ∀ {l:List PTh} {n m:Int},0<=n->n<=512->W4 c l n=some m-> ∀ t∈l,(0<=t.loc/\t.loc<=32)/\t.body.length<=512/\Wm c t.loc t.body
 | [],n,m,_,_,_,t,a=>by cases a
 |x::r,n,m,h0,hn,h,t,a=>by
  simp only [W4] at h;split at h
  . cases h
  rename_i d;split at h
  . cases h
  rename_i k b;have g:=Ue h0 hn b;rcases cE.1 a with rfl|a
  . exact ⟨by omega,by omega,g.1⟩
  exact Mr (by omega) g.2.2 h t a
theorem Xn {F:Fnd}(h:Dh F=true):MayP F:=by
 unfold Dh Gg inB at h;simp only [aI,bN,dC] at h;obtain ⟨⟨⟨i,g,j,f,e,d,c⟩,b⟩,a⟩:=h;exact ⟨⟨i,g,by omega,d⟩,b,f,e,c,by omega,Mr (by decide) (by decide) a⟩
theorem Zq3 (hK:Kn q fun M=>g.At M)(hM:MayP g.er):CallF prog G 25 [.agg (pgC g).toArray] (q) (Ret fun v q'=>v= I64 (g.vars.l.length+Y7 g.arrs.l)/\q'=q):=by
 refine aC func25 ntmps25 rfl fun F cs=> ?_;have z:g.vars.l.length<=64:=hM.l.1;have u:g.arrs.l.length<=64:=hM.l.2.1;have p: ∀ n∈g.arrs.l,1<=n/\n<=256:=hM.a;have m:=(dT (hK.imp fun M h=>h.arrs));rw [Qv] at m;refine xo 2 ?_;refine Ww fun w=> ?_
 refine rn [5,0] ?_;refine bA 7 (.slice g.vars.a g.vars.l.length g.vars.c) rfl (rfl) ?_;refine rn [7,0] ?_;refine bA 10 (.slice g.arrs.a g.arrs.l.length g.arrs.c) rfl (rfl) ?_;refine ox 4 ?_;refine aY (cG (fun (s:Nat)=>s<=g.arrs.l.length) (fun s=> [(3,I64 (g.vars.l.length+Y7 (g.arrs.l.take s))),(10,.slice g.arrs.a g.arrs.l.length g.arrs.c),(11,I64 g.arrs.l.length),(12,I64 s)]) (fun s=>(q++F)) (fun s=>g.arrs.l.length - s) (fun s f o=> ?_) 0 (bB _)) Zu leA;try dsimp only at f o|-
 obtain hi:=f;refine xx 5 ?_;refine xp 13 ?_ ?_<;>intro h0
 . have e:s<g.arrs.l.length:=(by omega);refine Yd (m.le leA) (by simp;omega) fun ab ao r=> ?_;have d:=m;rw [r] at d|-;refine rf [7,0] d ?_;have x:=p _ (aB e);have i:Y7 (g.arrs.l.take (s+1))=Y7 (g.arrs.l.take s)+g.arrs.l[s]:=by rw [aH e,Nl];simp [Y7]
   have b:=Qg (l:=g.arrs.l.take s) (k:=256) (fun y t=>by have:=p y (hY t);omega) (by decide);rw [bH] at b;have j:((min s g.arrs.l.length:Nat):Int)=s:=(by omega);rw [j] at b;refine ox 13 ?_;rw [<-r,show (g.vars.l.length:Int)+Y7 (g.arrs.l.take s)+g.arrs.l[s]=g.vars.l.length+Y7 (g.arrs.l.take (s+1)) by rw [i];omega];refine aY (o (s+1) (by omega) (by omega)) Zu leA
 obtain rfl:s=g.arrs.l.length:=(by omega);rw [cD];refine xx 7 ?_;refine Zq (q) func25 (Zn results25 rfl) ⟨_,rfl,rfl,rfl⟩
theorem SeesZ.block {ty:Nat}{l:List Value}(h:M b=some (.cells l.toArray ty (0,0))):SeesZ M (some ⟨b,0,none⟩) l:=fun i u a=>⟨b,0,l.toArray,ty,rfl,h,by rw [eC];simpa using a⟩
def PrgM (M:Hp)(pp:Nat)(g:FC):Prop:=SeesZ M (some ⟨pp,0,none⟩) (pgC g)/\g.At M
theorem PrgM.mono (e:Hle M M')(h:PrgM M pp g):PrgM M' pp g:=⟨h.1.mono e,h.2.mono e⟩
def prM (pp:Nat)(g:FC):HP:=lst (fun M=>PrgM M pp g) fun e h=>PrgM.mono e h
theorem Kn.prM {pp:Nat}{g:FC}{q:List HP}:Kn (prM pp g::q) fun M=>PrgM M pp g:=fL
theorem Prg.of (h:Kn q fun M=>PrgM M pp g):Prg q pp g:=⟨fun k v a=>by have:=(fM (h.imp fun M h=>h.1)).cl a;exact this,h.imp fun M h=>h.2⟩
theorem PS.At.mono {x:PS}(e:Hle M M')(h:x.At M):x.At M':=⟨h.1.mono e,h.2.mono e⟩
theorem TodoAt.mono {l:List TC}(e:Hle M M')(h:TodoAt M l):TodoAt M' l:=fun t ht y hy=>(h t ht y hy).mono e
def tdM (l:List TC):HP:=lst (fun M=>TodoAt M l) fun e h=>TodoAt.mono e h
theorem Kn.tdM {l:List TC}{q:List HP}:Kn (tdM l::q) fun M=>TodoAt M l:=fL
def Bw:POut:=⟨0,0,0,0⟩
def SS.pg (s:SS):SS:= { s with out:=if s.out.kind=4 then s.out else Bw }
def Vs (p:PPr):SS:=⟨p.vars++List.replicate (Y7 p.arrs).toNat 0,Dy p.mu.toNat p.co.toNat p.room, [Wc p p.main],Bw⟩
theorem Cd (p:PPr)(s:SS):(s.stands p).out.kind≠4:=by
 unfold SS.stands;dsimp only;split
 . exact (by decide:(1:Int)≠4)
 dsimp only;split<;>decide
theorem Zqn (p:PPr)(s:SS):(s.stands p).pg= { s with out:=Bw } :=by
 unfold SS.pg;rw [if_neg (Cd p s)];unfold SS.stands;dsimp only;split<;>rfl
theorem pnew_ok (hK:Kn q fun M=>g.At M)(hB:CpOk B g):CallF prog G 15 [.agg (pgC g).toArray] (q) (Ret fun v q'=>(Dh g.er=true/\ ∃ (p pp:Nat) (g':FC) (U:StC),g'.er=g.er/\U.er=Vs g.er.pr/\v= .tuple [.pointer (some ⟨p,0,none⟩),I64 0].toArray/\q'=stP p pp U::(Zr U++(prM pp g'::tdM U.ths::q)))\/(Dh g.er=false/\v= .tuple [.pointer none,I64 2].toArray/\q'=q)):=by
 refine aC func15 ntmps15 rfl fun F cs=> ?_;refine xo 2 ?_;refine Ww fun n1=> ?_
 refine oo 6 ?_;refine aO call44 (pmay_ok (B:=B) (iZ Qu) (hK.le leA) hB) ?_;refine Zt (bV rfl) ?_;refine ox 1 ?_;refine xp 9 ?_ ?_<;>intro h1
 . have hm:Dh g.er=false:=(by simpa using h1);refine xx 6 ?_;refine Zq (q) func15 (Wu results15 rfl rfl) ⟨_,rfl,.inr ⟨hm,rfl,rfl⟩⟩
 have hm:Dh g.er=true:=(by simpa using h1);have f0:=Xn hm;refine rn [4,0] ?_;refine Zb call45 (aE _) (pcopy_ok (B:=B) (hK.le leA) hB) ?_;rintro _ _ ⟨d,he,rfl,rfl⟩;have o:MayP d.er:=he ▸ f0;have b0:d.er.pr=g.er.pr:=by rw [he]
 have c0:0<=d.main/\d.main<d.ths.l.length:=⟨o.m.1,by have:=o.m.2;rw [g_th] at this;exact this⟩;obtain ⟨r,x⟩:=aV c0.1;have z:r<d.ths.l.length:=(by omega);have w:=o.t _ (aP (f:=Th.er) (aB z));have a0:=Qg (l:=d.arrs.l) (k:=256) (fun y hy=>by have:=o.a y hy;omega) (by decide);have g0:d.vars.l.length<=64:=o.l.1;have h0:Y7 d.arrs.l<=256:=o.s;obtain ⟨N,hN⟩:=aV a0.1;refine bW zeroValue29 fun j=> ?_
 refine rn [0,4,0,1,0,1,0] ?_;refine bA 18 (.slice d.chs.a d.chs.l.length d.chs.c) rfl (rfl) ?_;refine Zb call46 (aE _) (New_Y (a:=d.chs.a) (c:=d.chs.c) (by rw [<-Qv];exact dT (dW (kA (Kn.fc (q:= []) (f:=d)) fun M h=>h.chs) leA)) o.f) ?_;rintro _ _ ⟨py,rfl,rfl⟩;refine rn [12,1023,5,0] ?_;refine aO call25 (Zq3 (g:=d) (dW (Kn.fc (q:= []) (f:=d)) leA) o) ?_;refine bA 26 (I64 ((d.vars.l.length+N:Nat):Int)) rfl (by rw [hN];rfl) ?_;refine bQ (Bk (n:=d.vars.l.length+N) rfl rfl underlying23 Gh rfl rfl (by omega) (by omega)) ?_;rintro _ _ ⟨gl,rfl,rfl⟩;refine eU (q':=lsH I64 2 (some ⟨gl,0,none⟩) (d.vars.l.length+N) (List.replicate (d.vars.l.length+N) 0)::_) (aS Zk (C9 _ _ _ _ _)) ?_;refine oo 1 ?_;refine Ww fun n3=> ?_
 refine rn [3,0,1,2,3,4,5,6] ?_;refine dS 35 (.slice d.vars.a d.vars.l.length d.vars.c) rfl (rfl) ?_;refine dS 33 (.slice (some ⟨gl,0,none⟩) (List.replicate (d.vars.l.length+N) (0:Int)).length (d.vars.l.length+N)) rfl (by rw [cU]) ?_;refine fC 6 rfl (Ef.copyL (f:=I64) (l:=List.replicate (d.vars.l.length+N) 0) (m:=d.vars.l) underlying23 Gh rfl rfl Zk (by rw [<-Qv];exact dT (dW (kA (Kn.fc (q:= []) (f:=d)) fun M h=>h.vars) leA)) (fun _=>rfl) (by rw [cU];omega)) ?_;refine kk0 ?_;rw [show d.vars.l++(List.replicate (d.vars.l.length+N) (0:Int)).drop d.vars.l.length=d.vars.l++List.replicate N 0 by rw [List.drop_replicate];congr 2;omega];refine rn [0,4,0] ?_;refine bA 39 (Aw r) rfl (by rw [x]) ?_;refine eU (q':=pto j (.cells (pgC d).toArray 29 (0,0))::_) Zk (XO.freeze ?_);refine eU (q':=prM j d::_) (cZ (φ:=fun M=>PrgM M j d) (mn:=fun e h=>PrgM.mono e h) (((Kn.im).and (dW (Kn.fc (q:= []) (f:=d)) leA)).imp fun M h=>⟨SeesZ.block h.1,h.2⟩)) ?_;refine W3 call47 (Po (q:= [prM j d]) (pp:=j) (g:=d) (n:=r) (Prg.of Kn.prM) z w.1 (by have:=w.2.1;rw [show (Th.er d.ths.l[r]).body=Zj d.ths.l[r].body from rfl,Zg] at this;omega)) ?_;rintro _ _ ⟨T1,e0,rfl,d0,rfl⟩ _ e_;simp only [ca,na] at e_;subst e_;refine bQ (Yz (u:=T1) trC underlying96 Qj rfl rfl Zd rfl) ?_;rintro _ _ ⟨gt,rfl,rfl⟩;refine rn [2,0,7] ?_;obtain ⟨U,i⟩: ∃ U:StC,U=(⟨some ⟨gl,0,none⟩,d.vars.l.length+N,d.vars.l++List.replicate N 0,py,Dy d.mu.toNat d.co.toNat d.chs.l,some ⟨gt,0,none⟩,1, [T1],Bw⟩:StC):=⟨_,rfl⟩;refine bY (q':=tdM U.ths::_) (cZ (φ:=fun M=>TodoAt M U.ths) (mn:=fun e h=>TodoAt.mono e h) ((dW d0 leA).imp fun M h t ht y hy=>by rw [i] at ht;rw [aZ.1 ht] at hy;exact h y hy)) ?_;refine bY (q':=stars (U.ths.map trH)::_) (aS (b:=trH T1::_) Zk (by rw [i];exact aS (dD _ (W6 _)) (Uz _ _ _))) ?_;refine Zq (stP n3 j U::(Zr U++(prM j d::tdM U.ths::q))) func15 (Wu results15 rfl rfl) ⟨_,rfl,.inl ⟨hm,n3,j,d,U,he,by rw [i];simp only [StC.er,bP,eM,e0];rw [<-x,<-b0];simp [Vs,FC.er,Fnd.pr,hN],rfl,rfl⟩⟩ (by rw [i];simp only [stP,Vt,Zr,aG,cU,cM,aT,aA];exact leA)
structure ThOk (F:Fnd) (N nth:Nat) (t:PTr):Prop where
 d:0<=t.decl/\t.decl<F.ths.length
 s:1<=t.st/\t.st<=4
 l:t.loc.length<=32
 v: ∀ x∈t.loc,val x
 g:Wm F.cn t.loc.length t.left
 n:t.left.length<=600*(N+1)
 e:t.left= []↔t.st=4
 w:t.st=2\/t.st=3->t.next.kd=8
 p:t.sp.length<=8/\ ∀ i∈t.sp,0<=i/\i<nth
structure SS.ok (F:Fnd) (N:Nat) (s:SS):Prop where
 c:(s.cells.length:Int)=F.vars.length+Y7 F.arrs
 v: ∀ x∈s.cells,val x
 y:s.sy.ok N
 z:(s.sy.owners.length:Int)=F.mu/\(s.sy.conds.length:Int)=F.co/\s.sy.chans.map Ch.room=F.chs
 t:1<=s.ths.length/\s.ths.length<=8
 h: ∀ t∈s.ths,ThOk F N s.ths.length t
 w: ∀ l∈s.sy.conds,∀ t∈l,t.toNat<s.ths.length/\(s.th t.toNat).st=2
theorem Kg {s:SS}(h:n<s.ths.length):s.th n=s.ths[n]:=by unfold SS.th;simp [List.getD,h]
theorem Wl {α:Type}{l:List α}{d:α}(h:n<l.length):l.getD n d=l[n]:=by simp [List.getD,h]
theorem R9 (h:t.todo≠ []): ∃ y,t.todo.getLast? =some y/\y∈t.todo/\t.todo=t.todo.dropLast++ [y]/\t.er.left=y.s.er::(t.todo.dropLast.map fun y=>y.s.er).reverse/\t.er.next=y.s.er:=by
 have e:t.todo=t.todo.dropLast++ [t.todo.getLast h]:=(List.dropLast_concat_getLast h).symm
 have a:t.er.left=(t.todo.getLast h).s.er::(t.todo.dropLast.map fun y=>y.s.er).reverse:=by
  show (t.todo.map fun y=>y.s.er).reverse=_
  conv=>lhs;rw [e]
  simp
 exact ⟨t.todo.getLast h,List.getLast?_eq_some_getLast h,List.getLast_mem h,e,a,by unfold PTr.next;rw [a];rfl⟩
theorem Qr :t.er.left= []↔t.todo= []:=by
 show (t.todo.map fun y=>y.s.er).reverse= []↔_
 simp
theorem Va (t:TC):t.er.left.length=t.todo.length:=by
 show ((t.todo.map fun y=>y.s.er).reverse).length=_
 simp
theorem Ze (h:n<U.ths.length):U.er.th n=(U.ths[n]).er:=by
 have a:n<U.er.ths.length:=by show n<(U.ths.map TC.er).length;simpa using h
 rw [Kg a];exact eY TC.er
theorem StC.nth (U:StC):U.er.ths.length=U.ths.length:=by show (U.ths.map TC.er).length=_;simp
abbrev eP:=@StC.nth
theorem SS.ok.at {F:Fnd}{N:Nat}{U:StC}(h:SS.ok F N U.er){n:Nat}(hn:n<U.ths.length):ThOk F N U.ths.length (U.ths[n]).er:=by
 have:=h.h (U.ths[n]).er (aP (f:=TC.er) (aB hn));rwa [eP] at this
section
variable {x:TC}
theorem Sees.trT:Sees (trH x::q) x.ta (x.todo.map PS.v):=Sees.le (Sees.there (bR _)) (Z1 (trL x) q)
theorem Sees.trL:Sees (trH x::q) x.la (x.loc.map I64):=Sees.le (bR _) (Z1 (Go.Proofs.YtflkjkhijcdbaaaGreat.trL x) q)
theorem Sees.trS:Sees (trH x::q) x.sa (x.sp.map I64):=Sees.le (Sees.there (Sees.there (bR _))) (Z1 (Go.Proofs.YtflkjkhijcdbaaaGreat.trL x) q)
theorem Sees.todo (hi:i<ths.length):Sees (stars (ths.map trH)::q) ths[i].ta (ths[i].todo.map PS.v):=Sees.star hi (fun q=>Sees.trT) q
theorem T4 (hi:i<ths.length):Sees (stars (ths.map trH)::q) ths[i].la (ths[i].loc.map I64):=Sees.star hi (fun q=>Sees.trL) q
theorem D8 (hi:i<ths.length):Sees (stars (ths.map trH)::q) ths[i].sa (ths[i].sp.map I64):=Sees.star hi (fun q=>Sees.trS) q
end
abbrev inV (c:Cn)(lo s:Int)(l:Bool):Prop:=0<=s/\s<if l=true then lo else c.v
theorem Yu {c:Cn}{other:Int}(h:Na c lo k slot other loc=true):(1<=k/\k<=15)/\(k=1\/k=2->inV c lo slot loc)/\(k=3->0<=slot/\slot<c.a)/\(k=6\/k=7->0<=slot/\slot<c.mu)/\(k=8\/k=9\/k=10->0<=slot/\slot<c.co)/\(k=8->0<=other/\other<c.mu)/\(k=11\/k=12->0<=slot/\slot<c.ch)/\(k=12->inV c lo other loc)/\(k=13->0<=slot/\slot<c.th):=by
 unfold Na V9 inB at h
 have b:k=1\/k=2\/k=3\/k=4\/k=5\/k=6\/k=7\/k=8\/k=9\/k=10\/k=11\/k=12\/k=13\/k=14\/k=15:=by
  (repeat' split at h)<;>first|omega|(simp only [bN] at h;omega)
 rcases b with rfl|rfl|rfl|rfl|rfl|rfl|rfl|rfl|rfl|rfl|rfl|rfl|rfl|rfl|rfl<;>
  (simp only [Int.reduceEq,if_true,if_false,or_self,or_true,true_or,or_false,false_or,aI,bN,↓reduceIte] at h;refine ⟨by omega,fun e=> ?_,fun e=> ?_,fun e=> ?_,fun e=> ?_,fun e=> ?_,fun e=> ?_,fun e=> ?_,fun e=> ?_⟩<;>first|omega|exact h|exact h.1|exact h.2)
theorem Wn {c:Cn}{e ix:PEx}{ne:Nat}(h:N3 c lo k e ix nb ne=true):((1<=k/\k<=5)\/k=11\/k=15->e.ask c lo 24=true)/\(k=3->ix.ask c lo 24=true):=by
 unfold N3 at h;simp only [aI,dM,fA,cS,iY] at h;obtain ⟨⟨_,b⟩,a⟩:=h;exact ⟨fun k=>a.resolve_left (fun z=>z k),fun k=>b.resolve_left (fun z=>z k)⟩
theorem O5 {l:List Ch}(h:i<l.length):(l.map Ch.room).getD i 0=(l.getD i ch0).room:=by simp [List.getD,h]
section
variable {fv:Value}
theorem any_take {s:Nat}(h:s<l.length):(l.take (s+1)).any u=((l.take s).any u||u l[s]):=by rw [aH h,List.any_append];simp
theorem any_at {s:Nat}(h:s<l.length)(k:u l[s]=true):l.any u=true:=jP.2 ⟨_,aB h,k⟩
theorem Sl (hs:Sees q a (l.map I64))(hn:l.length<=9223372036854775807)(hp:Rdr prog G fv I64 (fun x=> .bool (u x)) q l):CallF prog G 164 [.slice a l.length c,fv] (q) (Ret fun v q'=> ∃ k:Int,v= I64 k/\decide (0<=k)=l.any u/\q'=q):=by
 refine aC func164 ntmps164 rfl fun F p=> ?_;have e:(l.map I64).length=l.length:=by simp
 refine xx 12 ?_;refine aY (cG (fun (s:Nat×Option Addr)=>s.1<=l.length/\s.2=a/\(l.take s.1).any u=false) (fun s=> [(0,.slice s.2 l.length c),(1,fv),(7,I64 l.length),(8,I64 (s.1:Int))]) (fun s=>q++F) (fun s=>l.length - s.1) (fun s f g=> ?_) (0,a) ⟨by dsimp only;omega,rfl,rfl⟩) Zu leA;try dsimp only at f g|-
 obtain ⟨j,rfl,b⟩:=f;obtain ⟨s,a⟩:=s;dsimp only at*;refine xx 5 ?_;refine xp 9 ?_ ?_<;>intro o
 . have d:s<l.length:=by omega
   refine Yd hs (by rw [e];omega) fun n i m=> ?_;subst m;refine rn [15,0] ?_;refine XO.cRV (hp _ leA _ (aB d)) ?_;refine ox 1 ?_;refine xp 16 ?_ ?_<;>intro h
   . refine xx 6 ?_;refine Zq (q) func164 (Zn results164 rfl) ⟨_,rfl,_,rfl,by rw [any_at d h];exact aN (by omega),rfl⟩
   refine xx 7 ?_;refine aY (g (s+1,some ⟨n,i,none⟩) ⟨by dsimp only;omega,rfl,by dsimp only;rw [any_take d,b,h];rfl⟩ (by dsimp only;omega)) Zu leA
 refine xx 6 ?_;rw [eO (show l.length<=s by omega)] at b;refine Zq (q) func164 (Zn results164 rfl) ⟨_,rfl,_,rfl,by rw [b];rfl,rfl⟩
theorem Zzw (hs:Sees q a (l.map I64))(hn:l.length<=9223372036854775807)(hp:Rdr prog G fv I64 (fun x=> .bool (u x)) q l):CallF prog G 126 [.slice a l.length c,fv] (q) (Ret fun v q'=>v= .bool (l.any u)/\q'=q):=by
 refine aC func126 ntmps126 rfl fun F d=> ?_;refine xo 8 ?_;refine Zb call164 (aE _) (Sl (hs.le leA) hn (hp.le leA)) ?_;rintro _ _ ⟨k,rfl,b,rfl⟩;refine ox 3 ?_;refine Zq (q) func126 (Zn results126 rfl) ⟨_,rfl,bK Value.bool b,rfl⟩
end
structure StSee (q:List HP) (p:Nat) (U:StC):Prop where
 t:Cl q ⟨p,0+3,none⟩ (.slice U.ha U.ths.length U.hc)
 r:Sees q U.ha (U.ths.flatMap trC)
theorem StSee.le (h:StSee q' p U)(l:Le q q'):StSee q p U:=⟨h.t.le l,h.r.le l⟩
theorem Zqr {pb:Nat}(hb:Cl q ⟨pb,0,none⟩ (.pointer (some ⟨p,0,none⟩)))(hS:StSee q p U)(hn:n<U.ths.length)(hl:U.ths.length<=8):CallF prog G 127 [I64 n,.pointer (some ⟨pb,0,none⟩)] (q) (Ret fun v q'=>v= .bool (decide ((U.ths.getD n zTC).st≠4))/\q'=q):=by
 refine aC func127 ntmps127 rfl fun F f=> ?_;have a:=Zx Zd U.ths;have b:=hS.r;refine Yd (b.le leA) (by rw [a];omega) fun g e d=> ?_;have c:=hS.t;rw [d] at b c;rw [Wl hn];refine xo 6 ?_;refine ld ?_ (hc:=(hb.le leA));refine oo 2 ?_;refine ld ?_ (hc:=(c.le leA));refine oo 3 ?_;refine ld ?_ (hc:=(cT (n:=n) b leA Zd hn rfl 1 _ rfl));refine ox 3 ?_;refine Zq (q) func127 (Zn results127 rfl) ⟨_,rfl,cB (by rw [cJ];simp),rfl⟩
abbrev AH (v0)(v1):=((.cells (Vt v0 v1).toArray 98 (0,0)):Obj)
theorem ready_ok {y:PS}(hok:SS.ok g.er N U.er)(hN:N<=900)(hn:n<U.ths.length)(hTd:Kn q fun M=>TodoAt M U.ths)(hy:y.s.er=(U.er.th n).next)(hyA:Kn q fun M=>y.At M)(hg:y.s.er.good g.er.cn (U.er.th n).loc.length)(hst:(U.er.th n).st=1)(hk0: ¬U.er.out.kind=4):CallF prog G 93 [.pointer (some ⟨p,0,none⟩),I64 n,.pointer (some ⟨y.b,y.o,none⟩)] (stP p pp U::(Zr U++q)) (Ret fun v q'=>v= .bool (U.er.can g.er.pr n)/\q'=stP p pp U::(Zr U++q)):=by
 refine aC func93 ntmps93 rfl fun F cs=> ?_;have c:=eR hyA;have j0:=Zx Zd U.ths;have h8:U.ths.length<=8:=by have:=hok.t.2;rwa [eP] at this
 obtain ⟨R,e⟩:=kL (U.er.can g.er.pr n);rw [<-e];unfold SS.can at e;dsimp only at e;rw [<-hy] at e;obtain ⟨yb,yo,ys⟩:=y;obtain ⟨kk,ln,cl,nm,wt,⟨ek,en,w0,t0,x0,v0,el,ea,ec⟩,⟨xk,xn,l0,xsl,m0,k0,xl,xa,xc⟩,bd,u0,ba,bc,z0,y0,id,sl,ot,n0⟩:=ys;dsimp only at c e hg|-;simp only [Stm.er] at e;obtain ⟨s0,e0,_⟩:=hg;obtain ⟨r0,q0,p0,a0,o0,g0,a,i0,h0⟩:=Yu e0;obtain ⟨x,w,r⟩:=hok.z;have c0:(U.er.sy.chans.length:Int)=g.er.cn.ch:=by have:=bK List.length r;rw [aU] at this;show _=((g.chs.l.length:Nat):Int);rw [this];rfl
 rw [if_neg (by intro k;rcases k with k|k|k;exact hk0 k;omega;omega),if_neg (by omega)] at e;change X _ _ _ _ _ _ _ _ (pto p (AH pp U)::lsH I64 2 U.ca U.cc U.cells::yH U.sp U.sy::rsH trC 5 116 U.ha U.hc U.ths::stars (U.ths.map trH)::(q++F));have f:U.sy.ok N:=hok.y;rw [show U.er.sy=U.sy from rfl] at e x w r c0;replace x:(U.sy.owners.length:Int)=g.er.cn.mu:=x;replace w:(U.sy.conds.length:Int)=g.er.cn.co:=w;refine xo 2 ?_;refine Ww fun n1=> ?_
 refine rf [8,0,7] c ?_;refine xp 19 ?_ ?_<;>intro g1
 . rw [if_pos (show kk=6 from g1)] at e;refine rf [2,0,1,2,3,4,5,6,7,8] c ?_;refine Ua 8 call56 (X6 (m:=sl) f (by omega)) ?_;refine kd0 ?_;refine ⟨(hlF c),?_⟩;refine rn [10,11,12,13,14,0,5] ?_;refine Zf [35,7,6,1] ?_;apply Zy 4 39 35 rfl
   . intro j b0;have f0:=sp j;refine oo 4 ?_;exact Zz b0 ⟨orF j,Zv⟩
   . intro j b0;have f0:=sp j;refine oo 4 ?_;exact Zz b0 ⟨orT j,Zv⟩
   refine ox 2 ?_;refine Zq (stP p pp U::(Zr U++q)) func93 (Zn results93 rfl) ⟨_,rfl,cB (by rw [e];unfold Hs;rw [if_pos ⟨(a0 (.inl g1)).1,by have:=(a0 (.inl g1)).2;omega⟩];dsimp only;have ho:=f.o _ (Y3 (d:=0) (i:=sl.toNat) (l:=U.sy.owners) (by have:=(a0 (.inl g1));omega));generalize U.sy.owners.getD sl.toNat 0=ow at*;rw [cJ];simp only [dM,bN,dC];omega),rfl⟩
 refine xx 6 ?_;refine xp 40 ?_ ?_<;>intro g2
 . rw [if_neg (by omega),if_pos (show kk=11 from g2)] at e;refine rf [2,0,1,2,3,4,5,6,7,8] c ?_;refine Ua 8 call58 (P7 (k:=sl) f (by omega)) ?_;refine kd2 fun av cv=> ?_
   refine ⟨(hlF c),?_⟩;refine rf [10,11,12,13,14,0,1,0,1,2,3,4,5,6,7,8] c ?_;refine Ua 8 call125 (Room_Y (k:=sl) f (by omega)) ?_;refine kd0 ?_;refine ⟨(hlF c),?_⟩;refine rn [10,11,12,13,14,0,8] ?_;refine Zq (stP p pp U::(Zr U++q)) func93 (Zn results93 rfl) ⟨_,rfl,cB (by rw [e];unfold Qf Bp;rw [if_pos ⟨(a (.inl g2)).1,by have:=(a (.inl g2)).2;omega⟩,if_pos ⟨(a (.inl g2)).1,by have:=(a (.inl g2)).2;omega⟩];dsimp only;rw [show g.er.pr.room=U.sy.chans.map Ch.room from r.symm];rw [O5 (by have:=a (.inl g2);omega)]),rfl⟩
 refine xx 6 ?_;refine xp 70 ?_ ?_<;>intro g3
 . rw [if_neg (by omega),if_neg (by omega),if_pos (show kk=12 from g3)] at e;refine rf [2,0,1,2,3,4,5,6,7,8] c ?_;refine Ua 8 call58 (P7 (k:=sl) f (by omega)) ?_;refine kd2 fun av cv=> ?_
   refine ⟨(hlF c),?_⟩;refine rn [10,11,12,13,14,0,7] ?_;refine Zq (stP p pp U::(Zr U++q)) func93 (Zn results93 rfl) ⟨_,rfl,cB (by rw [e];unfold Qf;rw [if_pos ⟨(a (.inr g3)).1,by have:=(a (.inr g3)).2;omega⟩];dsimp only;rw [cJ];simp),rfl⟩
 refine xx 6 ?_;refine xp 87 ?_ ?_<;>intro g4
 . rw [if_neg (by omega),if_neg (by omega),if_neg (by omega),if_pos (show kk=14 from g4)] at e;refine Yw (l:=U.ths) (by omega) fun ga e_=> ?_;rw [e_];refine rf [3,0,2,0,1,3092,2] e_ ?_;refine ld ?_ (hc:=(cT (n:=n) (bE _) leA Zd hn rfl 4 _ rfl));refine oo 1 ?_;have h:=(hok.at hn).p;rw [<-Ze hn] at h;have d0:(U.er.th n).sp=U.ths[n].sp:=by rw [Ze hn];rfl
   rw [d0] at h e
   refine aO call126 (Zzw (l:=U.ths[n].sp) (u:=fun i=>decide ((U.ths.getD i.toNat zTC).st≠4)) ((D8 hn).le leA) (by omega) (fun q1 l1 i hi=>by
    obtain ⟨k,rfl⟩:=aV (h.2 i hi).1;have hk:k<U.ths.length:=by have:=(h.2 _ hi).2;omega
    exact CallV.c11 call127 (Zqr (pb:=n1) (p:=p) (Cl.le (by exact clA) l1) (StSee.le ⟨by exact clA,by rw [e_];exact (bE _).le leA⟩ l1) hk h8))) ?_
   refine Zt (bV rfl) ?_;refine ox 2 ?_;rw [<-e_];refine Zq (stP p pp U::(Zr U++q)) func93 (Zn results93 rfl) ⟨_,rfl,cB (by rw [e,cJ];simp only [fA,List.any_eq_false,cC,bN,dC,ne_eq,fX];constructor<;>(intro z i hi;have:=z i hi;have hk:i.toNat<U.ths.length:=(by have:=h.2 i hi;omega);rw [Wl hk] at*;rw [Ze hk] at*;exact this)),rfl⟩
 refine xx 7 ?_;refine Zq (stP p pp U::(Zr U++q)) func93 (Zn results93 rfl) ⟨_,rfl,cB (by rw [e,if_neg (by omega),if_neg (by omega),if_neg (by omega),if_neg (by omega)]),rfl⟩
theorem Q7 (h:Cl q ⟨p,0,none⟩ (.pointer (some ⟨pp,0,none⟩))):CallF prog G 49 (A8 p) (q) (AL q):=by
 refine aC func49 ntmps49 rfl fun F a=> ?_;refine rn [9,2005,3] ?_;refine ld ?_ (hc:=(h.le leA));refine ox 4 ?_;refine Zq (q) func49 (Zn results49 rfl) ⟨_,rfl,rfl,rfl⟩
theorem X0 (hok:SS.ok g.er N U.er)(hN:N<=900)(hn:n<U.ths.length)(hTd:Kn q fun M=>TodoAt M U.ths):CallF prog G 59 [.pointer (some ⟨p,0,none⟩),I64 n] (stP p pp U::(Zr U++q)) (Ret fun v q'=>v= .bool (U.er.can g.er.pr n)/\q'=stP p pp U::(Zr U++q)):=by
 refine aC func59 ntmps59 rfl fun F cs=> ?_;change X _ _ _ _ _ _ _ _ (pto p (AH pp U)::lsH I64 2 U.ca U.cc U.cells::yH U.sp U.sy::rsH trC 5 116 U.ha U.hc U.ths::stars (U.ths.map trH)::(q++F));have m0:=Zx Zd U.ths;have h8:U.ths.length<=8:=by have:=hok.t.2;rwa [eP] at this
 have y0:1<=U.ths.length:=by have:=hok.t.1;rwa [eP] at this
 refine Yw (l:=U.ths) (by omega) fun ga e_=> ?_;have hr: ∀ r,Sees (rsH trC 5 116 U.ha U.hc U.ths::r) (some ⟨ga,0,none⟩) (U.ths.flatMap trC):=fun r=>by rw [<-e_];exact bE r
 have hT:=hok.at hn;have a0:=Ze hn;have g0:U.sy.ok N:=hok.y;obtain ⟨R,f⟩:=kL (U.er.can g.er.pr n);have l0:=f;rw [<-f];unfold SS.can at f;dsimp only at f;rw [a0] at f;have h0:(U.ths[n]).er.st=U.ths[n].st:=rfl;refine rn [11,0,2] ?_;refine xp 13 ?_ ?_<;>intro h1
 . refine xx 5 ?_;refine Zq (stP p pp U::(Zr U++q)) func59 (Zn results59 rfl) ⟨_,rfl,cB (by rw [f,if_pos (.inl (show U.er.out.kind=4 from h1))]),rfl⟩
 have i0: ¬U.er.out.kind=4:=h1;refine rf [7,0,1,3017,9] e_ ?_;refine ld ?_ (hc:=(cT (n:=n) (hr _) leA Zd hn rfl 1 _ rfl));refine ox 7 ?_;refine xp 24 ?_ ?_<;>intro h2
 . have d0:U.ths[n].st=1:=h2;have e0:U.ths[n].todo≠ []:=fun k=>by have:=hT.e.1 (Qr.2 k);omega
   obtain ⟨y,x,c0,j0,u,j⟩:=R9 e0;have b0:Kn q fun M=>y.At M:=hTd.imp fun M h=>h _ (aB hn) y c0
   have hg:=hT.g;rw [u] at hg;refine xo 6 ?_;refine aO call60 (Kv (b:=ga) (o:=0+(n:Int).toNat*5) (todo:=U.ths[n].todo) (cT (n:=n) (hr _) leA Zd hn rfl 3 _ rfl) ((Sees.todo hn).le leA) (by have:=hT.n;rw [Va] at this;omega)) ?_;refine bA 29 (.pointer (some ⟨y.b,y.o,none⟩)) rfl (by rw [x];rfl) ?_;refine Zb call93 leA (ready_ok (p:=p) (pp:=pp) (U:=U) (n:=n) (y:=y) (q:=q++F) hok hN hn (hTd.le leA) (by rw [a0,j]) (b0.le leA) (by rw [a0];exact hg.1) (by rw [a0,h0];exact d0) i0) ?_;rintro _ _ ⟨rfl,rfl⟩;refine ox 2 ?_;refine Zq (stP p pp U::(Zr U++q)) func59 (Zn results59 rfl) ⟨_,rfl,bK Value.bool l0.symm,rfl⟩
 refine xx 6 ?_;refine xp 31 ?_ ?_<;>intro h3
 . have d0:U.ths[n].st=3:=h3;have e0:U.ths[n].todo≠ []:=fun k=>by have:=hT.e.1 (Qr.2 k);omega
   obtain ⟨y,x,c0,j0,u,j⟩:=R9 e0;have b0:Kn q fun M=>y.At M:=hTd.imp fun M h=>h _ (aB hn) y c0
   have hg:=hT.g;rw [u] at hg;obtain ⟨yb,yo,ys⟩:=y;obtain ⟨kk,ln,cl,nm,wt,⟨ek,en,c1,z0,d1,b1,el,ea,ec⟩,⟨xk,xn,o0,xsl,p0,n0,xl,xa,xc⟩,bd,a1,ba,bc,f1,e1,id,sl,ot,q0⟩:=ys;have f0:=eR b0;dsimp only at f0 x u j hg;have c:=hT.w (.inr d0);rw [j] at c f;simp only [Stm.er,PStm.kd] at c f;obtain ⟨⟨x0,k0,_⟩,_⟩:=hg;obtain ⟨w0,v0,u0,t0,s0,a,_⟩:=Yu k0;have r0:(U.sy.owners.length:Int)=g.er.cn.mu:=hok.z.1;rw [if_neg (by intro k;rcases k with k|k|k;exact i0 k;omega;omega),if_pos (by omega)] at f;refine rn [2,0,1,2,3,4,5] ?_;refine Y2 5 call60 (Kv (b:=ga) (o:=0+(n:Int).toNat*5) (todo:=U.ths[n].todo) (cT (n:=n) (hr _) leA Zd hn rfl 3 _ rfl) ((Sees.todo hn).le leA) (by have:=hT.n;rw [Va] at this;omega)) ?_ (hL:=(hlA (h:=by repeat first|exact trivial|refine ⟨clA,?_⟩|refine ⟨(cT (n:=n) (hr _) leA Zd hn rfl 1 _ rfl),?_⟩|refine ⟨((f0.le leA) 23 _ rfl),?_⟩)));refine dS 39 (.pointer (some ⟨yb,yo,none⟩)) rfl (by rw [x];rfl) ?_;refine rf [7,8,9] f0 ?_;refine Ua 9 call56 (X6 (m:=ot) g0 (by omega)) ?_;refine kc0 ?_;refine rn [11,12,13,14,15,0,6] ?_;refine Zq (stP p pp U::(Zr U++q)) func59 (Zn results59 rfl) ⟨_,rfl,cB (by rw [f];unfold Hs;rw [if_pos ⟨(a c).1,by have:=(a c).2;omega⟩];dsimp only;have ho:=g0.o _ (Y3 (d:=0) (i:=ot.toNat) (l:=U.sy.owners) (by have:=(a c);omega));show _=(U.sy.owners.getD ot.toNat 0== -1);generalize U.sy.owners.getD ot.toNat 0=ow at*;rw [cJ];simp only [bN,dC];omega),rfl⟩
 refine xx 7 ?_;refine Zq (stP p pp U::(Zr U++q)) func59 (Zn results59 rfl) ⟨_,rfl,cB (by rw [f,if_pos];have:=hT.s;rw [h0] at*;omega),rfl⟩
theorem Cm:CallF prog G 41 [.pointer (some ⟨p,0,none⟩)] (stP p pp U::(Zr U++q)) (Ret fun v q'=>v= I64 U.ths.length/\q'=stP p pp U::(Zr U++q)):=by
 refine aC func41 ntmps41 rfl fun F a=> ?_;change X _ _ _ _ _ _ _ _ (pto p (AH pp U)::lsH I64 2 U.ca U.cc U.cells::yH U.sp U.sy::rsH trC 5 116 U.ha U.hc U.ths::stars (U.ths.map trH)::(q++F));refine xo 8 ?_;refine aO call49 (Q7 (pp:=pp) clA) ?_;refine Zt (bV rfl) ?_;refine rn [1,1005,7,0,3] ?_;refine Zq (stP p pp U::(Zr U++q)) func41 (Zn results41 rfl) ⟨_,rfl,rfl,rfl⟩
theorem P0 {p:PPr}{s:SS}:((List.range (i+1)).filter fun n=>s.can p n).map (fun (n:Nat)=>(n:Int))=((List.range i).filter fun n=>s.can p n).map (fun (n:Nat)=>(n:Int))++(if s.can p i=true then [(i:Int)] else []):=by
 rw [List.range_succ,List.filter_append,aM];by_cases h:s.can p i=true<;>simp [h]
def SS.allU (p:PPr)(s:SS)(i:Nat):List Int:=((List.range i).filter fun n=>s.can p n).map fun (n:Nat)=>(n:Int)
theorem P1 (p:PPr)(s:SS)(i:Nat):(s.allU p i).length<=i:=by
 unfold SS.allU;rw [aU];exact cP (gV _ _) (by simp)
theorem On (hok:SS.ok g.er N U.er)(hN:N<=900)(hTd:Kn q fun M=>TodoAt M U.ths):CallF prog G 40 [.pointer (some ⟨p,0,none⟩)] (stP p pp U::(Zr U++q)) (Ret fun v q'=> ∃ a' c',v= .slice a' (U.er.all g.er.pr).length c'/\q'=lsH I64 3 a' c' (U.er.all g.er.pr)::stP p pp U::(Zr U++q)):=by
 refine aC func40 ntmps40 rfl fun F x=> ?_;have o:U.ths.length<=8:=by have:=hok.t.2;rwa [eP] at this
 refine xo 12 ?_;refine Zb call41 leA (Cm (p:=p) (pp:=pp) (U:=U) (q:=q++F)) ?_;rintro _ _ ⟨rfl,rfl⟩;refine ox 3 ?_;refine aY (cG (fun (s:Nat×Option Addr×Nat)=>s.1<=U.ths.length) (fun s=> [(0,.pointer (some ⟨p,0,none⟩)),(3,.slice s.2.1 (U.er.allU g.er.pr s.1).length s.2.2),(6,I64 U.ths.length),(7,I64 (s.1:Int))]) (fun s=>lsH I64 3 s.2.1 s.2.2 (U.er.allU g.er.pr s.1)::stP p pp U::(Zr U++(q++F))) (fun s=>U.ths.length - s.1) (fun s a d=> ?_) (0,none,0) (bB _)) Zu (aS (Za I64 3 _) leA);try dsimp only at a d|-
 obtain k:=a;obtain ⟨s,c,b⟩:=s;dsimp only at*;refine xx 5 ?_;refine xp 8 ?_ ?_<;>intro r
 . have e:s<U.ths.length:=(by omega);refine xo 13 ?_;refine Zb call59 leA (X0 (p:=p) (pp:=pp) (U:=U) (n:=s) (q:=lsH I64 3 c b (U.er.allU g.er.pr s)::(q++F)) hok hN e (hTd.le leA)) ?_;rintro _ _ ⟨rfl,rfl⟩;refine ox 1 ?_;refine xp 12 ?_ ?_<;>intro h
   . refine xo 4 ?_;refine bQ (U3 (u:=(s:Int)) I64 underlying22 R4 rfl rfl) ?_;rintro _ _ ⟨w,rfl,rfl⟩;refine bQ (Yx (f:=I64) (l:=U.er.allU g.er.pr s) (m:= [(s:Int)]) underlying22 R4 rfl rfl rfl Zk ((bR _).le leA) (fun _=>rfl) (by have:=P1 g.er.pr U.er s;simp;omega) (by have:=P1 g.er.pr U.er s;simp;omega)) ?_;rintro _ _ ⟨j,i,rfl,rfl⟩;refine ox 7 ?_;rw [show U.er.allU g.er.pr s++ [(s:Int)]=U.er.allU g.er.pr (s+1) by unfold SS.allU;rw [P0,if_pos h]];refine aY (d (s+1,j,i) (by dsimp only;omega) (by dsimp only;omega)) Zu leA
   refine xx 7 ?_;rw [show U.er.allU g.er.pr s=U.er.allU g.er.pr (s+1) by unfold SS.allU;rw [P0,if_neg (by rw [h];decide),cA]];refine aY (d (s+1,c,b) (by dsimp only;omega) (by dsimp only;omega)) Zu leA
 obtain rfl:s=U.ths.length:=(by omega);rw [show U.er.allU g.er.pr U.ths.length=U.er.all g.er.pr by unfold SS.all SS.allU;rw [eP]];refine xx 7 ?_;refine Zq (lsH I64 3 c b (U.er.all g.er.pr)::stP p pp U::(Zr U++q)) func40 (Zn results40 rfl) ⟨_,rfl,c,b,rfl,rfl⟩
theorem Jz (b:Bool):val (Ux b):=by cases b<;>decide
theorem twoS_v (op a b:Int):val (Yi op a b).1:=by
 unfold Yi;split;exact Jz _;split;exact Jz _;split;exact Jz _;split;exact Jz _;split;decide
 have c: ∀ n:Int,val (if val n then (n,(0:Int)) else (0,2)).1:=fun n=>by
  split
  . assumption
  decide
 exact c _
theorem Fu {c:Cn}{n op:Int}{nm:ByteArray}{args:List PEx}(h:(PEx.mk k n nm slot loc op args).ask c lo d=true):
 1<=d/\(args.length:Int)=Uq c lo k n slot loc op/\(∀ e∈args,e.ask c lo (d - 1)=true)/\(1<=k/\k<=6)/\(k=1->val n/\args.length=0)/\(k=2->inV c lo slot loc/\args.length=0)/\(k=3->(0<=slot/\slot<c.a)/\args.length=1)/\(k=4\/k=5->args.length=1)/\(k=6->(1<=op/\op<=11)/\args.length=2):=by
 simp only [PEx.ask,aI,bN] at h;obtain ⟨⟨j,f⟩,i⟩:=h;have g:=Tw.1 i;refine ⟨j,f,g,?_⟩;unfold Uq at f;split at f
 . split at f
   . rename_i a b;refine ⟨by omega,fun _=>⟨b,by omega⟩,fun _=>by omega,fun _=>by omega,fun _=>by omega,fun _=>by omega⟩
   omega
 split at f
 . split at f
   . rename_i a b;unfold V9 inB at b;simp only [bN] at b;exact ⟨by omega,fun _=>by omega,fun _=>⟨b,by omega⟩,fun _=>by omega,fun _=>by omega,fun _=>by omega⟩
   omega
 split at f
 . split at f
   . rename_i a b;unfold inB at b;simp only [bN] at b;exact ⟨by omega,fun _=>by omega,fun _=>by omega,fun _=>⟨b,by omega⟩,fun _=>by omega,fun _=>by omega⟩
   omega
 split at f
 . exact ⟨by omega,fun _=>by omega,fun _=>by omega,fun _=>by omega,fun _=>by omega,fun _=>by omega⟩
 split at f
 . split at f
   . exact ⟨by omega,fun _=>by omega,fun _=>by omega,fun _=>by omega,fun _=>by omega,fun _=>by omega⟩
   omega
 omega
theorem Q8 {p:PPr}{cells loc:List Int}: ∀ {l:List PEx} {i:Nat} (h:i<l.length),(Ym p cells loc l).getD i (0,0, [])=(l[i]).made p cells loc
 |e::r,0,_=>by simp [Ym]
 |e::r,i+1,h=>by
  have a:i<r.length:=by simpa using h
  have:=Q8 (p:=p) (cells:=cells) (loc:=loc) a;simpa [Ym] using this
theorem Du (h: ∀ x∈l,val x)(i:Nat):val (l.getD i 0):=by
 by_cases hi:i<l.length
 . exact h _ (Y3 hi)
 have e:l.getD i 0=0:=by simp [List.getD,cF (show l.length<=i by omega)]
 rw [e];decide
theorem C0 (n:Nat):1<=2 ^ n:=Nat.one_le_two_pow
mutual
theorem Yg {p:PPr}{cells loc:List Int}{c:Cn}{lo:Int}(hc: ∀ x∈cells,val x)(hl: ∀ x∈loc,val x): ∀ {e:PEx} {d:Int},e.ask c lo d=true->val (e.made p cells loc).1/\(e.made p cells loc).2.2.length<=2 ^ d.toNat
 | .mk k n nm slot lc op args,d,h=>by
  obtain ⟨w,_,m,u,j,s,r,q,o⟩:=Fu h;have f:=Tg hc hl (p:=p) m;obtain ⟨D,v⟩:=aV (show 0<=d - 1 by omega);have l:d.toNat=D+1:=by omega
  have t:=C0 D;rw [l,Nat.pow_succ];rw [show (d - 1).toNat=D by omega] at f;generalize hms:Ym p cells loc args=ms at f;simp only [PEx.made,hms];split
  . exact ⟨(j (by assumption)).1,by simp⟩
  split
  . split
    . exact ⟨Du hl _,by simp⟩
    exact ⟨Du hc _,by simp only [bJ];omega⟩
  have i:=f 0;have g:=f 1;generalize ms.getD 0 (0,0, [])=a at i;generalize ms.getD 1 (0,0, [])=b at g;split
  . exact ⟨i.1,by omega⟩
  split
  . split
    . exact ⟨(by decide:val 0),by dsimp only;omega⟩
    exact ⟨Du hc _,by dsimp only;rw [aG];simp only [bJ];omega⟩
  split
  . exact ⟨twoS_v _ _ _,by dsimp only;omega⟩
  split
  . exact ⟨Jz _,by dsimp only;omega⟩
  split
  . exact ⟨Jz _,by dsimp only;omega⟩
  split
  . exact ⟨g.1,by dsimp only;rw [aG];omega⟩
  split
  . exact ⟨Jz _,by dsimp only;rw [aG];omega⟩
  exact ⟨twoS_v _ _ _,by dsimp only;rw [aG];omega⟩
theorem Tg {p:PPr}{cells loc:List Int}{c:Cn}{lo:Int}(hc: ∀ x∈cells,val x)(hl: ∀ x∈loc,val x): ∀ {l:List PEx} {d:Int},(∀ e∈l,e.ask c lo d=true)-> ∀ i,val ((Ym p cells loc l).getD i (0,0, [])).1/\((Ym p cells loc l).getD i (0,0, [])).2.2.length<=2 ^ d.toNat
 | [],d,_,i=>by simp [Ym];decide
 |e::r,d,h,i=>by
  cases i with
  |zero=>simpa [Ym] using Yg hc hl (h e (bI ..))
  |succ i=>simpa [Ym] using Tg hc hl (fun x a=>h x (bZ _ a)) i
end
theorem Tc (h: ∀ x∈l,1<=x/\x<=256): ∀ {n:Nat} (_:n<l.length),Y7 (l.take n)+l.getD n 0<=Y7 l/\0<=Y7 (l.take n)
 |n,hn=>by
  have e:l=l.take n++(l[n]::l.drop (n+1)):=by rw [<-aJ hn,eS]
  have d:Y7 l=Y7 (l.take n)+(l[n]+Y7 (l.drop (n+1))):=by
   conv=>lhs;rw [e]
   rw [Nl];rfl
  have c:=(Qg (l:=l.take n) (k:=256) (fun y a=>by have:=h y (hY a);omega) (by decide)).1;have b:=(Qg (l:=l.drop (n+1)) (k:=256) (fun y a=>by have:=h y (kD a);omega) (by decide)).1;rw [Wl hn];omega
theorem Fh:(prog.info? 140).map (fun i=>(i.zero,i.size,i.bytes))=some (some (.agg #[I64 0,.bool false,I64 0]),3,24):=by kernel_rfl
theorem Pt:(prog.info? 50).map (fun i=>(i.zero,i.size,i.bytes))=some (some (.agg #[I64 0,I64 0,I64 0]),3,24):=by kernel_rfl
def Zw (p pp who:Nat)(U:StC)(e:EvC):List HP:=spP p pp who U e::(Zr U++evL e)
theorem Xe (x:Ac):(acC x).length=3:=rfl
theorem O3 (x:Sn):(snC x).length=3:=rfl
theorem acC_one (x:Ac):(acC x).all (·.oneCell')=true:=rfl
theorem snC_one (x:Sn):(snC x).all (·.oneCell')=true:=rfl
def PEv.ac (e:PEv)(l:List Ac):PEv:= { e with acc:=e.acc++l }
def PEv.sn (e:PEv)(l:List Sn):PEv:= { e with syn:=e.syn++l }
theorem Mg (e:PEv)(a b:List Ac):(e.ac a).ac b=e.ac (a++b):=by unfold PEv.ac;simp
theorem Ng (e:PEv):e.ac []=e:=by unfold PEv.ac;simp
section
variable {u:Int}
abbrev A3 (v0:Nat)(v1:Nat)(v2:StC)(v3:Nat)(v4:EvC)(v5:List HP)(v6):=(pto v0 (.cells (Vt v1 v2++(I64 v3::evC v4)).toArray 145 (0,0))::lsH I64 2 v2.ca v2.cc v2.cells::yH v2.sp v2.sy::rsH trC 5 116 v2.ha v2.hc v2.ths::stars (v2.ths.map trH)::rsH acC 3 140 v4.aa v4.ac v4.e.acc::rsH snC 3 50 v4.na v4.nc v4.e.syn::(v5++v6))
theorem V8 (hl:ev.e.syn.length<=1000000000):CallF prog G 98 [.pointer (some ⟨p,0,none⟩),I64 k,I64 sl,I64 ot] (Zw p pp who U ev++q) (Ret fun v q'=> ∃ ev':EvC,ev'.e=ev.e.sn [(k,sl,ot)]/\q'=Zw p pp who U ev'++q):=by
 refine aC func98 ntmps98 rfl fun F d=> ?_;change X _ _ _ _ _ _ _ _ (A3 p pp U who ev q F);refine rn [6,0,4] ?_;refine bQ (Yz (u:=(k,sl,ot)) snC underlying45 Pt rfl rfl O3 rfl) ?_;rintro _ _ ⟨c,rfl,rfl⟩;refine bQ (Z9 (f:=snC) (l:=ev.e.syn) (m:= [(k,sl,ot)]) underlying45 Pt rfl rfl O3 rfl rfl Zk ((bE _).le leA) snC_one (by simp;omega) (by simp;omega)) ?_;rintro _ _ ⟨b,a,rfl,rfl⟩;refine rn [3,0,1] ?_;refine Z7 (Zw p pp who U ({ ev with e:=ev.e.sn [(k,sl,ot)],na:=b,nc:=a } :EvC)++q) func98 (Vm results98) ⟨_,rfl,({ ev with e:=ev.e.sn [(k,sl,ot)],na:=b,nc:=a } :EvC),rfl,rfl⟩
theorem Fr (hl:ev.e.acc.length<=1000000000):CallF prog G 192 [.pointer (some ⟨p,0,none⟩),I64 sl,.bool bb,I64 u] (Zw p pp who U ev++q) (Ret fun v q'=> ∃ ev':EvC,ev'.e=ev.e.ac [(sl,bb,u)]/\q'=Zw p pp who U ev'++q):=by
 refine aC func192 ntmps192 rfl fun F d=> ?_;change X _ _ _ _ _ _ _ _ (A3 p pp U who ev q F);refine rn [6,0,4] ?_;refine bQ (Yz (u:=(sl,bb,u)) acC underlying44 Fh rfl rfl Xe rfl) ?_;rintro _ _ ⟨c,rfl,rfl⟩;refine bQ (Z9 (f:=acC) (l:=ev.e.acc) (m:= [(sl,bb,u)]) underlying44 Fh rfl rfl Xe rfl rfl Zk ((bE _).le leA) acC_one (by simp;omega) (by simp;omega)) ?_;rintro _ _ ⟨b,a,rfl,rfl⟩;refine rn [3,0,1] ?_;refine Z7 (Zw p pp who U ({ ev with e:=ev.e.ac [(sl,bb,u)],aa:=b,ac:=a } :EvC)++q) func192 (Vm results192) ⟨_,rfl,({ ev with e:=ev.e.ac [(sl,bb,u)],aa:=b,ac:=a } :EvC),rfl,rfl⟩
theorem Jv {ga m:Nat}(h3:Cl q ⟨p,0+3,none⟩ (.slice (some ⟨ga,0,none⟩) m c))(h8:Cl q ⟨p,8,none⟩ (Aw who))(hn:who<m):CallF prog G 95 (A8 p) (q) (Ret fun v q'=>v= .pointer (some ⟨ga,0+(who:Int).toNat*5,none⟩)/\q'=q):=by
 refine aC func95 ntmps95 rfl fun F a=> ?_;refine rn [5,0,1,2,3,4] ?_;refine ldD 4 ?_ (hc:=(h3.le leA));refine dd [5,6,7] ?_;refine ldD 8 ?_ (hc:=(h8.le leA));refine rn [10,11,0] ?_;refine Zq (q) func95 (Zn results95 rfl) ⟨_,rfl,rfl,rfl⟩
theorem O7 (hn:n<U.cells.length)(hl:ev.e.acc.length<=1000000000):CallF prog G 188 [.pointer (some ⟨p,0,none⟩),I64 n] (Zw p pp who U ev++q) (Ret fun v q'=>v= I64 (U.cells.getD n 0)/\ ∃ ev':EvC,ev'.e=ev.e.ac [((n:Int),false,U.cells.getD n 0)]/\q'=Zw p pp who U ev'++q):=by
 refine aC func188 ntmps188 rfl fun F g=> ?_;change X _ _ _ _ _ _ _ _ (A3 p pp U who ev q F);rw [Wl hn];refine Uw (l:=U.cells) (by omega) fun f c=> ?_;have d: ∀ r,Sees (lsH I64 2 U.ca U.cc U.cells::r) (some ⟨f,0,none⟩) (U.cells.map I64):=fun r=>by rw [<-c];exact bR r
 refine rf [12,0,1,3011,1] c ?_;refine ld ?_ (hc:=(((d _).le leA).at (by omega) hn));refine Zb call192 leA (Fr (p:=p) (pp:=pp) (who:=who) (U:=U) (ev:=ev) (q:=q++F) hl) ?_;rintro _ _ ⟨a,b,rfl⟩;change XO _ _ _ _ _ _ _ _ _ _ (A3 p pp U who a q F);refine rf [7,0,1,3020,1] c ?_;refine ld ?_ (hc:=(((d _).le leA).at (by omega) hn));refine ox 2 ?_;refine Zq (Zw p pp who U a++q) func188 (Zn results188 rfl) ⟨_,rfl,rfl,a,b,rfl⟩
theorem Cw (hn:n<U.cells.length)(hl:ev.e.acc.length<=1000000000):CallF prog G 167 [.pointer (some ⟨p,0,none⟩),I64 n,I64 u] (Zw p pp who U ev++q) (Ret fun v q'=> ∃ ev':EvC,ev'.e=ev.e.ac [((n:Int),true,u)]/\q'=Zw p pp who ({ U with cells:=U.cells.set n u } :StC) ev'++q):=by
 refine aC func167 ntmps167 rfl fun F g=> ?_;change X _ _ _ _ _ _ _ _ (A3 p pp U who ev q F);refine Uw (l:=U.cells) (by omega) fun d c=> ?_;refine xo 5 ?_;refine Zb call192 leA (Fr (p:=p) (pp:=pp) (who:=who) (U:=U) (ev:=ev) (q:=q++F) hl) ?_;rintro _ _ ⟨a,b,rfl⟩;change XO _ _ _ _ _ _ _ _ _ _ (A3 p pp U who a q F);refine rf [6,0,2,3014,1] c ?_;refine eU (q':=lsH I64 2 (some ⟨d,0,none⟩) U.cc U.cells::_) (by rw [<-c];exact Zk) ?_;refine dJ (Bj (f:=I64) (l:=U.cells) (n:=n) (u:=u) rfl rfl sizeOf2 rfl hn rfl rfl Zk) ?_;rintro _ _ ⟨rfl,rfl⟩;refine ox 1 ?_;rw [<-c];refine bY (q':=Zw p pp who ({ U with cells:=U.cells.set n u } :StC) a++(q++F)) (by unfold Zw spP Vt Zr;simp only [bC];exact leA) ?_;refine Z7 (Zw p pp who ({ U with cells:=U.cells.set n u } :StC) a++q) func167 (Vm results167) ⟨_,rfl,a,b,rfl⟩ (by rw [aA];exact aE _)
end
theorem Sv.cap {α:Type}{f:α->List Value}{x:Sv α}{w:World}(h:Kn q fun M=>x.At M f)(s:St G w q):x.l.length<=x.c:=h.fact (fun M h=>h.1) s
section
variable {u:Int}
theorem C1 (hP:Prg q pp g)(hM:MayP g.er)(hn:n<g.arrs.l.length)(hu:val u):CallF prog G 168 [.pointer (some ⟨p,0,none⟩),I64 n,I64 u] (Zw p pp who U ev++q) (RP (fun v q'=>(0<=g.er.pr.cell n u/\v= I64 (g.er.pr.cell n u))/\q'=Zw p pp who U ev++q) (fun ch q'=>(g.er.pr.cell n u<0/\ch= [Vd 3])/\q'=Zw p pp who U ev++q)):=by
 refine aC func168 ntmps168 rfl fun F cs=> ?_;change X _ _ _ _ _ _ _ _ (A3 p pp U who ev q F);have c0:CellsAt q pp 0 [.slice g.vars.a g.vars.l.length g.vars.c,.slice g.arrs.a g.arrs.l.length g.arrs.c,I64 g.mu,I64 g.co,.slice g.chs.a g.chs.l.length g.chs.c,.slice g.ths.a g.ths.l.length g.ths.c,I64 g.main,I64 g.stm]:=fun k v hk=>hP.hp k v (by revert hk;match k with|0|1|2|3|4|5|6|7=>exact fun h=>h|(k+8)=>intro h;cases h)
 have hA:=dT (hP.hK.imp fun M h=>h.arrs);rw [Qv] at hA;have l0:g.arrs.l.length<=64:=hM.l.2.1;have i0:g.vars.l.length<=64:=hM.l.1;have x:=hu;unfold val at x;have t: ∀ n∈g.arrs.l,1<=n/\n<=256:=hM.a;have j0:Y7 g.arrs.l<=256:=hM.s;have k0:=t _ (aB hn);have a0:=Tc t hn;rw [Wl hn] at a0;obtain ⟨R,j⟩:=kL (g.er.pr.cell n u);rw [<-j];unfold PPr.cell at j;rw [show ((n:Int)).toNat=n from rfl,show g.er.pr.arrs=g.arrs.l from rfl,show g.er.pr.vars=g.vars.l from rfl,Wl hn] at j;refine iR (fun w s=>Sv.cap ((hP.hK.imp fun M h=>h.arrs).le leA) s) fun g0=> ?_;refine Yd (hA.le leA) (by simp;omega) fun ab ao e_=> ?_;have d:=hA;have f:=c0;rw [e_] at d f;refine xo 10 ?_;refine Zf [12,6,0,1,2] ?_;apply Zy 14 26 12 rfl
 . intro b i;have f0:=sp b;refine rg [5,0,2,0,2,0,2] f d ?_;exact Zz i ⟨orF b,Zv⟩
 . intro b i;have f0:=sp b;refine oo 14 ?_;exact Zz i ⟨orT b,Zv⟩
 refine ox 1 ?_;refine xp 26 ?_ ?_<;>intro h1
 . have m0:R= -1:=(by rw [j,if_neg (by first|omega|(simp at h1;omega))]);refine xo 2 ?_;refine Vn call169 (aE _) (Ks (z:=3)) ?_ ?_
   . rintro _ _ ⟨rfl,rfl⟩;exact dA func168 (dX ⟨⟨by omega,rfl⟩,rfl⟩)
   rintro _ _ ⟨⟩
 have e0:0<=u/\u<g.arrs.l[n]:=(by first|omega|(simp at h1;omega));rw [if_pos e0] at j;refine rf [8,0,2,0,12,0,2,0,6] f ?_;refine cQ 7 (I64 (g.vars.l.length+u+Y7 (g.arrs.l.take 0))) rfl (by simp [Y7]) ?_;refine aY (cG (fun (s:Nat)=>s<=n) (fun s=> [(7,I64 (g.vars.l.length+u+Y7 (g.arrs.l.take s))),(48,.slice (some ⟨ab,ao,none⟩) (n:Int).toNat g.arrs.c),(49,I64 n),(50,I64 s)]) (fun s=>pto p (.cells (Vt pp U++(I64 who::evC ev)).toArray 145 (0,0))::lsH I64 2 U.ca U.cc U.cells::yH U.sp U.sy::rsH trC 5 116 U.ha U.hc U.ths::stars (U.ths.map trH)::rsH acC 3 140 ev.aa ev.ac ev.e.acc::rsH snC 3 50 ev.na ev.nc ev.e.syn::(q++F)) (fun s=>n - s) (fun s r ih=> ?_) 0 (bB _)) Zu leA;try dsimp only at r ih|-
 obtain hi:=r;refine xx 5 ?_;refine xp 51 ?_ ?_<;>intro h0
 . have o:s<g.arrs.l.length:=(by omega);refine rf [7,0] d ?_;have hx:=t _ (aB o);have b0:Y7 (g.arrs.l.take (s+1))=Y7 (g.arrs.l.take s)+g.arrs.l[s]:=by rw [aH o,Nl];simp [Y7]
   have m:=Qg (l:=g.arrs.l.take s) (k:=256) (fun y hy=>by have:=t y (hY hy);omega) (by decide);rw [bH] at m;have d0:((min s g.arrs.l.length:Nat):Int)=s:=(by omega);rw [d0] at m;refine ox 13 ?_;rw [show (g.vars.l.length:Int)+u+Y7 (g.arrs.l.take s)+g.arrs.l[s]=g.vars.l.length+u+Y7 (g.arrs.l.take (s+1)) by rw [b0];omega];refine aY (ih (s+1) (by omega) (by omega)) Zu leA
 obtain rfl:s=n:=(by omega);refine xx 7 ?_;refine Zq (Zw p pp who U ev++q) func168 (Zn results168 rfl) (dG ⟨⟨by omega,by rw [j];congr 1;omega⟩,rfl⟩)
variable {hwho:who<U.ths.length}
abbrev AB (v0:StC):=(v0.ths.flatMap trC)
abbrev Ag (v0:StC)(v1):=(rsH trC 5 116 v0.ha v0.hc v0.ths::v1)
theorem Jq: ∀ (N:Nat) {e:Ex} {b o:Nat} {d:Int} {ev:EvC} {q:List HP},e.sz<=N->True->d<=24->e.er.ask g.er.cn U.ths[who].loc.length d=true->ev.e.acc.length+2 ^ d.toNat<=100000000->(Kn q fun M=>ExAt M ⟨b,o,none⟩ e)->Prg q pp g->MayP g.er->(U.cells.length:Int)=g.vars.l.length+Y7 g.arrs.l->(∀ x∈U.cells,val x)->(∀ x∈U.ths[who].loc,val x)->CallF prog G 166 (Am p b o) (Zw p pp who U ev++q) (RP (fun v q'=>((e.er).made g.er.pr U.cells U.ths[who].loc).2.1=0/\v= I64 ((e.er).made g.er.pr U.cells U.ths[who].loc).1/\ ∃ ev':EvC,ev'.e=ev.e.ac ((e.er).made g.er.pr U.cells U.ths[who].loc).2.2/\q'=Zw p pp who U ev'++q) (fun ch q'=>((e.er).made g.er.pr U.cells U.ths[who].loc).2.1≠0/\ch= [Vd ((e.er).made g.er.pr U.cells U.ths[who].loc).2.1]/\ ∃ ev':EvC,ev'.e=ev.e.ac ((e.er).made g.er.pr U.cells U.ths[who].loc).2.2/\q'=Zw p pp who U ev'++q)):=fun N=>by
 induction N with
 |zero=>intro e b o d ev q hs;exact aR hs (by cases e;simp only [Ex.sz];omega)
 |succ N IH=> 
 intro e b o d ev q hs hN hd ha h2 hK hP hM u0 l0 k0;obtain ⟨ek,en,j2,i2,l2,g0,el,ea,ec⟩:=e;refine aC func166 ntmps166 rfl fun F cs=> ?_;have c0:=Kn.exC hK;have hA:Kn q fun M=>SlAt M ea ec el.length (el.flatMap exC)/\Ex.Ats M el:=hK.imp fun M h=>h.2;have hS:=fM (hA.imp fun M h=>h.1.2.2);have q0:=Zx Z4 el
 simp only [Ex.er] at ha;obtain ⟨h1,_,h3,hk,k1,k2,k3,k4,k6⟩:=Fu ha;rw [W9] at k1 k2 k3 k4 k6;rw [Yy] at h3;obtain ⟨M,j⟩:=kL ((Ex.er (Ex.mk ek en j2 i2 l2 g0 el ea ec)).made g.er.pr U.cells U.ths[who].loc);rw [<-j];simp only [Ex.er,PEx.made] at j;obtain ⟨D,hD⟩:=aV (show 0<=d - 1 by omega);have f2:d.toNat=D+1:=(by omega);have d0:(d - 1).toNat=D:=(by omega);have o2:=C0 D;rw [f2,Nat.pow_succ] at h2;change X _ _ _ _ _ _ _ _ (pto p (.cells (Vt pp U++(I64 who::evC ev)).toArray 145 (0,0))::lsH I64 2 U.ca U.cc U.cells::yH U.sp U.sy::rsH trC 5 116 U.ha U.hc U.ths::stars (U.ths.map trH)::rsH acC 3 140 ev.aa ev.ac ev.e.acc::rsH snC 3 50 ev.na ev.nc ev.e.syn::(q++F));have m1:ek=1\/ek=2\/ek=3\/ek=4\/ek=5\/ek=6:=(by omega);rcases m1 with rfl|rfl|rfl|rfl|rfl|rfl
 . rw [if_pos rfl] at j;refine rf [10,0,7,2010,6,0,2] c0 ?_;refine Zq (Zw p pp who U ev++q) func166 (Zn results166 rfl) (dG (by rw [j];exact ⟨rfl,rfl,ev,(Ng _).symm,rfl⟩))
 . rw [if_neg (by decide),if_pos rfl] at j;refine Yw (l:=U.ths) (by omega) fun ga e_=> ?_;have hr: ∀ r,Sees (Ag U r) (some ⟨ga,0,none⟩) (AB U):=fun r=>by rw [<-e_];exact bE r
   have r0:=(k2 rfl).1;unfold inV at r0;refine rf [10,0,7,1010,6,2016,7,0,1] c0 ?_;refine xp 21 ?_ ?_<;>intro h5
   . rw [if_pos h5] at j;rw [if_pos h5] at r0;obtain ⟨z0,v0⟩:=aV r0.1;have a1:z0<U.ths[who].loc.length:=(by omega);rw [v0,show ((z0:Int)).toNat=z0 from rfl,Wl a1] at j;have s1:=fun q:List HP=>T4 (q:=q) hwho;refine Yd ((s1 _).le leA) (by simp;omega) fun lb p2 a2=> ?_;have b1:=fun q:List HP=>(T4 (q:=q) hwho);rw [a2] at b1
     refine rf [2,0,1,6,7,8,9] c0 ?_;refine Y2 1 call95 (Jv (p:=p) (who:=who) (ga:=ga) (m:=U.ths.length) (c:=U.hc) (by rw [<-e_];exact clA) clA hwho) ?_ (hL:=(hlA (h:=by repeat first|exact trivial|refine ⟨clA,?_⟩|refine ⟨((c0.le leA) _ _ rfl),?_⟩|refine ⟨(cT (n:=who) (hr _) leA Zd hwho rfl 2 _ rfl),?_⟩)));refine dd [2,3] ?_;refine ldD 4 ?_ (hc:=(cT (n:=who) (hr _) leA Zd hwho rfl 2 _ rfl));refine dsl 26 a2 ?_;refine dS 30 (Aw z0) rfl (by rw [<-v0]) ?_;refine dd [9] ?_;refine ldD 10 ?_ (hc:=(((b1 _).le leA).at rfl a1));refine rn [12,0] ?_;refine Zq (Zw p pp who U ev++q) func166 (Zn results166 rfl) (dG (by rw [j];exact ⟨rfl,rfl,ev,(Ng _).symm,rfl⟩))
   rw [if_neg (by rw [h5];decide)] at j;rw [if_neg (by rw [h5];decide)] at r0;obtain ⟨j0,v0⟩:=aV r0.1;have l1:j0<U.cells.length:=(by have:=Qg (l:=g.arrs.l) (k:=256) (fun y hy=>by have:=hM.a y hy;omega) (by decide);have:=r0.2;rw [Tj] at this;omega);rw [v0,show ((j0:Int)).toNat=j0 from rfl] at j;refine rf [8,0] c0 ?_;refine bA 37 (Aw j0) rfl (by rw [<-v0]) ?_;refine Zb call188 leA (O7 (p:=p) (pp:=pp) (who:=who) (U:=U) (ev:=ev) (n:=j0) (q:=q++F) l1 (by omega)) ?_;rintro _ _ ⟨rfl,f,t,s⟩;simp only [Zw,spP,Zr,evL,ca,na] at s;subst s;change XO _ _ _ _ _ _ _ _ _ _ (pto p (.cells (Vt pp U++(I64 who::evC f)).toArray 145 (0,0))::lsH I64 2 U.ca U.cc U.cells::yH U.sp U.sy::rsH trC 5 116 U.ha U.hc U.ths::stars (U.ths.map trH)::rsH acC 3 140 f.aa f.ac f.e.acc::rsH snC 3 50 f.na f.nc f.e.syn::(q++F));refine ox 2 ?_;refine Zq (Zw p pp who U f++q) func166 (Zn results166 rfl) (dG (by rw [j];exact ⟨rfl,rfl,f,t,rfl⟩))
 . have j1:=(k3 rfl).2;refine Yd (hS.le leA) (by rw [q0];omega) fun ab ao e_=> ?_;subst e_
   have i0:Kn q fun M=>ExAt M ⟨ab,ao+(0:Int).toNat*7,none⟩ el[0]:=hK.imp fun M h=>by
    obtain ⟨b',o',e1,e2⟩:=fR (i:=0) Z4 (by decide) h.2.1.2.2 (by omega)
    cases e1
    exact ⟨e2,Ye.1 h.2.2 _ (aB _)⟩
   have b0:(el[0]).er.ask g.er.cn U.ths[who].loc.length (d - 1)=true:=h3 _ (aP (aB _));have n0:(el[0]).sz<=N:=by have:=Vx (aB (show 0<el.length by omega));simp only [Ex.sz] at hs;omega
   obtain ⟨A0,a0⟩:=kL (((el[0]).er).made g.er.pr U.cells U.ths[who].loc);have p0:(Ym g.er.pr U.cells U.ths[who].loc (Z3 el)).getD 0 (0,0, [])=A0:=by rw [a0,Q8 (by rw [W9];omega)];simp only [Yy,eY]
   have w:=Yg (p:=g.er.pr) l0 k0 b0;rw [<-a0,d0] at w;have f1: -2147483648<=A0.1/\A0.1<=2147483647:=w.1;rw [if_neg (by decide),if_neg (by decide),p0] at j;skip;refine rf [10,0,7,1010,6,1016,6,2039,2,0,1,2,3,4,5,6,7,8,9,10,11,12] c0 ?_;refine Fl 12 call166 leA (IH (e:=el[0]) (d:=d - 1) (b:=ab) (o:=ao+(0:Int).toNat*7) (ev:=ev) (q:=q++F) n0 trivial (by omega) b0 (by rw [d0];omega) (i0.le leA) (hP.le leA) hM u0 l0 k0) ?_ ?_ trivial
   . rintro _ _ ⟨ht,rfl,m0,e0,rfl⟩;exact dA func166 (dX (by rw [<-a0] at ht e0|-;rw [if_pos ht] at j;rw [j];exact ⟨ht,rfl,m0,e0,rfl⟩)) (by rw [aA];exact aE _)
   rintro _ _ ⟨h0,rfl,f,t,s⟩;simp only [Zw,spP,Zr,evL,ca,na] at s;subst s;refine ⟨(hlF c0),?_⟩;rw [<-a0] at h0 t|-;rw [if_neg (fun k=>k h0),if_pos rfl] at j;obtain ⟨An,x1⟩:=aV (k3 rfl).1.1;have y1:An<g.arrs.l.length:=by have:=(k3 rfl).1.2;rw [Tv] at this;omega
   refine dS 46 (Aw An) rfl (by rw [x1]) ?_;rw [x1] at j;refine Fl 13 call168 leA (C1 (p:=p) (pp:=pp) (who:=who) (U:=U) (ev:=f) (n:=An) (u:=A0.1) (q:=q++F) (hP.le leA) hM y1 w.1) ?_ ?_ trivial
   . rintro _ _ ⟨⟨u1,rfl⟩,rfl⟩;exact dA func166 (dX (by rw [if_pos u1] at j;rw [j];exact ⟨(show (3:Int)≠0 by decide),rfl,f,t,rfl⟩)) (by rw [aA];exact aE _)
   rintro _ _ ⟨⟨t1,rfl⟩,s⟩;simp only [Zw,spP,Zr,evL,ca,na] at s;subst s;refine ⟨(hlF c0),?_⟩;rw [if_neg (by omega)] at j;obtain ⟨j0,n1⟩:=aV t1;refine dS 54 (Aw j0) rfl (by rw [n1]) ?_
   have l1:j0<U.cells.length:=by
    have hx:=n1;unfold PPr.cell at hx;rw [show g.er.pr.arrs=g.arrs.l from rfl,show g.er.pr.vars=g.vars.l from rfl,show ((An:Int)).toNat=An from rfl] at hx;have r2:=Tc (l:=g.arrs.l) hM.a y1;split at hx<;>omega
   rw [n1,show ((j0:Int)).toNat=j0 from rfl] at j;refine Wy 14 call188 leA (O7 (p:=p) (pp:=pp) (who:=who) (U:=U) (ev:=f) (n:=j0) (q:=q++F) l1 (by rw [t];unfold PEv.ac;simp only [aG];omega)) ?_;rintro _ _ ⟨rfl,f0,t0,s⟩;simp only [Zw,spP,Zr,evL,ca,na] at s;subst s;refine ⟨(hlF c0),?_⟩;refine rn [16,0] ?_;refine Zq (Zw p pp who U f0++q) func166 (Zn results166 rfl) (dG (by rw [j];exact ⟨rfl,rfl,f0,by rw [t0,t,Mg],rfl⟩))
 . have j1:=k4 (.inl rfl);refine Yd (hS.le leA) (by rw [q0];omega) fun ab ao e_=> ?_;subst e_
   have i0:Kn q fun M=>ExAt M ⟨ab,ao+(0:Int).toNat*7,none⟩ el[0]:=hK.imp fun M h=>by
    obtain ⟨b',o',e1,e2⟩:=fR (i:=0) Z4 (by decide) h.2.1.2.2 (by omega)
    cases e1
    exact ⟨e2,Ye.1 h.2.2 _ (aB _)⟩
   have b0:(el[0]).er.ask g.er.cn U.ths[who].loc.length (d - 1)=true:=h3 _ (aP (aB _));have n0:(el[0]).sz<=N:=by have:=Vx (aB (show 0<el.length by omega));simp only [Ex.sz] at hs;omega
   obtain ⟨A0,a0⟩:=kL (((el[0]).er).made g.er.pr U.cells U.ths[who].loc);have p0:(Ym g.er.pr U.cells U.ths[who].loc (Z3 el)).getD 0 (0,0, [])=A0:=by rw [a0,Q8 (by rw [W9];omega)];simp only [Yy,eY]
   have w:=Yg (p:=g.er.pr) l0 k0 b0;rw [<-a0,d0] at w;have f1: -2147483648<=A0.1/\A0.1<=2147483647:=w.1;rw [if_neg (by decide),if_neg (by decide),p0] at j;have q1:Yi 8 0 A0.1=if val (-A0.1) then (-A0.1,0) else (0,2):=by unfold Yi;rw [if_neg (by decide),if_neg (by decide),if_neg (by decide),if_neg (by decide),if_neg (by rintro ⟨h|h,_⟩<;>exact aR h (by decide))];dsimp only;rw [if_neg (show ¬ (8:Int)=7 by decide),if_pos rfl,Int.zero_sub]
   refine rf [10,0,7,1010,6,1016,6,1039,6,2056,7,0,1] c0 ?_;refine Vn call166 leA (IH (e:=el[0]) (d:=d - 1) (b:=ab) (o:=ao+(0:Int).toNat*7) (ev:=ev) (q:=q++F) n0 trivial (by omega) b0 (by rw [d0];omega) (i0.le leA) (hP.le leA) hM u0 l0 k0) ?_ ?_
   . rintro _ _ ⟨ht,rfl,m0,e0,rfl⟩;exact dA func166 (dX (by rw [<-a0] at ht e0|-;rw [if_pos ht] at j;rw [j];exact ⟨ht,rfl,m0,e0,rfl⟩)) (by rw [aA];exact aE _)
   rintro _ _ ⟨h0,rfl,f,t,s⟩;simp only [Zw,spP,Zr,evL,ca,na] at s;subst s;rw [<-a0] at h0 t|-;change XO _ _ _ _ _ _ _ _ _ _ (pto p (.cells (Vt pp U++(I64 who::evC f)).toArray 145 (0,0))::lsH I64 2 U.ca U.cc U.cells::yH U.sp U.sy::rsH trC 5 116 U.ha U.hc U.ths::stars (U.ths.map trH)::rsH acC 3 140 f.aa f.ac f.e.acc::rsH snC 3 50 f.na f.nc f.e.syn::(q++F));rw [if_neg (fun k=>k h0),if_neg (by decide),if_pos rfl] at j;refine oo 1 ?_;refine bA 65 (I64 (-A0.1)) rfl (bK (Value.int .i64) (show IntKind.i64.wrap (0 - A0.1)= -A0.1 by rw [Int.zero_sub];exact Uf (by omega) (by omega))) ?_;refine Vn call189 (aE _) (Kz (z:= -A0.1) (q:=pto p (.cells (Vt pp U++(I64 who::evC f)).toArray 145 (0,0))::lsH I64 2 U.ca U.cc U.cells::yH U.sp U.sy::rsH trC 5 116 U.ha U.hc U.ths::stars (U.ths.map trH)::rsH acC 3 140 f.aa f.ac f.e.acc::rsH snC 3 50 f.na f.nc f.e.syn::(q++F))) ?_ ?_
   . rintro _ _ ⟨⟨i1,rfl⟩,rfl⟩;exact dA func166 (dX (by rw [q1,if_neg i1] at j;rw [j];exact ⟨(show (2:Int)≠0 by decide),rfl,f,t,rfl⟩)) leA
   rintro _ _ ⟨⟨d1,rfl⟩,rfl⟩;refine ox 2 ?_;refine Zq (Zw p pp who U f++q) func166 (Zn results166 rfl) (dG (by rw [q1,if_pos d1] at j;rw [j];exact ⟨rfl,rfl,f,t,rfl⟩))
 . have j1:=k4 (.inr rfl);refine Yd (hS.le leA) (by rw [q0];omega) fun ab ao e_=> ?_;subst e_
   have i0:Kn q fun M=>ExAt M ⟨ab,ao+(0:Int).toNat*7,none⟩ el[0]:=hK.imp fun M h=>by
    obtain ⟨b',o',e1,e2⟩:=fR (i:=0) Z4 (by decide) h.2.1.2.2 (by omega)
    cases e1
    exact ⟨e2,Ye.1 h.2.2 _ (aB _)⟩
   have b0:(el[0]).er.ask g.er.cn U.ths[who].loc.length (d - 1)=true:=h3 _ (aP (aB _));have n0:(el[0]).sz<=N:=by have:=Vx (aB (show 0<el.length by omega));simp only [Ex.sz] at hs;omega
   obtain ⟨A0,a0⟩:=kL (((el[0]).er).made g.er.pr U.cells U.ths[who].loc);have p0:(Ym g.er.pr U.cells U.ths[who].loc (Z3 el)).getD 0 (0,0, [])=A0:=by rw [a0,Q8 (by rw [W9];omega)];simp only [Yy,eY]
   have w:=Yg (p:=g.er.pr) l0 k0 b0;rw [<-a0,d0] at w;have f1: -2147483648<=A0.1/\A0.1<=2147483647:=w.1;rw [if_neg (by decide),if_neg (by decide),p0] at j;refine rf [10,0,7,1010,6,1016,6,1039,6,1056,6,2067,7,0,1] c0 ?_;refine Vn call166 leA (IH (e:=el[0]) (d:=d - 1) (b:=ab) (o:=ao+(0:Int).toNat*7) (ev:=ev) (q:=q++F) n0 trivial (by omega) b0 (by rw [d0];omega) (i0.le leA) (hP.le leA) hM u0 l0 k0) ?_ ?_
   . rintro _ _ ⟨ht,rfl,m0,e0,rfl⟩;exact dA func166 (dX (by rw [<-a0] at ht e0|-;rw [if_pos ht] at j;rw [j];exact ⟨ht,rfl,m0,e0,rfl⟩)) (by rw [aA];exact aE _)
   rintro _ _ ⟨h0,rfl,f,t,s⟩;simp only [Zw,spP,Zr,evL,ca,na] at s;subst s;rw [<-a0] at h0 t|-;change XO _ _ _ _ _ _ _ _ _ _ (pto p (.cells (Vt pp U++(I64 who::evC f)).toArray 145 (0,0))::lsH I64 2 U.ca U.cc U.cells::yH U.sp U.sy::rsH trC 5 116 U.ha U.hc U.ths::stars (U.ths.map trH)::rsH acC 3 140 f.aa f.ac f.e.acc::rsH snC 3 50 f.na f.nc f.e.syn::(q++F));rw [if_neg (fun k=>k h0),if_neg (by decide),if_neg (by decide),if_pos rfl] at j;refine oo 1 ?_;refine aO call190 (U9) ?_;refine ox 2 ?_;refine Zq (Zw p pp who U f++q) func166 (Zn results166 rfl) (dG (by rw [j];exact ⟨rfl,by first|rfl|(congr 2;done)|(congr 2;rw [cJ];simp),f,t,rfl⟩))
 have j1:=(k6 rfl).2;refine Yd (hS.le leA) (by rw [q0];omega) fun ab ao e_=> ?_;subst e_
 have i0:Kn q fun M=>ExAt M ⟨ab,ao+(0:Int).toNat*7,none⟩ el[0]:=hK.imp fun M h=>by
  obtain ⟨b',o',e1,e2⟩:=fR (i:=0) Z4 (by decide) h.2.1.2.2 (by omega)
  cases e1
  exact ⟨e2,Ye.1 h.2.2 _ (aB _)⟩
 have b0:(el[0]).er.ask g.er.cn U.ths[who].loc.length (d - 1)=true:=h3 _ (aP (aB _));have n0:(el[0]).sz<=N:=by have:=Vx (aB (show 0<el.length by omega));simp only [Ex.sz] at hs;omega
 obtain ⟨A0,a0⟩:=kL (((el[0]).er).made g.er.pr U.cells U.ths[who].loc);have p0:(Ym g.er.pr U.cells U.ths[who].loc (Z3 el)).getD 0 (0,0, [])=A0:=by rw [a0,Q8 (by rw [W9];omega)];simp only [Yy,eY]
 have w:=Yg (p:=g.er.pr) l0 k0 b0;rw [<-a0,d0] at w;have f1: -2147483648<=A0.1/\A0.1<=2147483647:=w.1
 have w1:Kn q fun M=>ExAt M ⟨ab,ao+(1:Int).toNat*7,none⟩ el[1]:=hK.imp fun M h=>by
  obtain ⟨b',o',e1,e2⟩:=fR (i:=1) Z4 (by decide) h.2.1.2.2 (by omega)
  cases e1
  exact ⟨e2,Ye.1 h.2.2 _ (aB _)⟩
 have c1:(el[1]).er.ask g.er.cn U.ths[who].loc.length (d - 1)=true:=h3 _ (aP (aB _));have b2:(el[1]).sz<=N:=by have:=Vx (aB (show 1<el.length by omega));simp only [Ex.sz] at hs;omega
 obtain ⟨A1,y0⟩:=kL (((el[1]).er).made g.er.pr U.cells U.ths[who].loc);have d2:(Ym g.er.pr U.cells U.ths[who].loc (Z3 el)).getD 1 (0,0, [])=A1:=by rw [y0,Q8 (by rw [W9];omega)];simp only [Yy,eY]
 have s0:=Yg (p:=g.er.pr) l0 k0 c1;rw [<-y0,d0] at s0;have q2: -2147483648<=A1.1/\A1.1<=2147483647:=s0.1;rw [if_neg (by decide),if_neg (by decide),p0,d2] at j;have c2:g0=1\/g0=2\/3<=g0:=(by have:=(k6 rfl).1;omega);refine rf [10,0,7,1010,6,1016,6,1039,6,1056,6,1067,9,0,1] c0 ?_;refine Vn call166 leA (IH (e:=el[0]) (d:=d - 1) (b:=ab) (o:=ao+(0:Int).toNat*7) (ev:=ev) (q:=q++F) n0 trivial (by omega) b0 (by rw [d0];omega) (i0.le leA) (hP.le leA) hM u0 l0 k0) ?_ ?_
 . rintro _ _ ⟨ht,rfl,m0,e0,rfl⟩;exact dA func166 (dX (by rw [<-a0] at ht e0|-;rw [if_pos ht] at j;rw [j];exact ⟨ht,rfl,m0,e0,rfl⟩)) (by rw [aA];exact aE _)
 rintro _ _ ⟨h0,rfl,f,t,s⟩;simp only [Zw,spP,Zr,evL,ca,na] at s;subst s;rw [<-a0] at h0 t|-;change XO _ _ _ _ _ _ _ _ _ _ (pto p (.cells (Vt pp U++(I64 who::evC f)).toArray 145 (0,0))::lsH I64 2 U.ca U.cc U.cells::yH U.sp U.sy::rsH trC 5 116 U.ha U.hc U.ths::stars (U.ths.map trH)::rsH acC 3 140 f.aa f.ac f.e.acc::rsH snC 3 50 f.na f.nc f.e.syn::(q++F));rw [if_neg (fun k=>k h0)] at j;refine rf [8,0,2] c0 ?_;refine Zf [90,5,4,0,1] ?_;apply Zp 3 93 90 rfl
 . intro x0 p1;have n2:=sp x0;refine oo 3 ?_;exact Zz p1 ⟨Wq x0,Zv⟩
 . intro x0 p1;have n2:=sp x0;refine oo 3 ?_;exact Zz p1 ⟨Wz x0,Zv⟩
 refine ox 1 ?_;refine xp 93 ?_ ?_<;>intro g1
 . have o0:g0=1:=g1.1;rw [if_neg (by decide),if_neg (by decide),if_neg (by decide),if_pos (by exact .inl ⟨o0,g1.2⟩),o0] at j;refine xx 5 ?_;refine Zq (Zw p pp who U f++q) func166 (Zn results166 rfl) (dG (by rw [j];exact ⟨rfl,by first|rfl|(simp only [o0];rfl),f,t,rfl⟩))
 refine rf [8,0,2] c0 ?_;refine Zf [99,5,4,0,1] ?_;apply Zp 3 102 99 rfl
 . intro w0 o1;have m2:=sp w0;refine oo 3 ?_;exact Zz o1 ⟨Wq w0,Zv⟩
 . intro w0 o1;have m2:=sp w0;refine oo 3 ?_;exact Zz o1 ⟨Wz w0,Zv⟩
 refine ox 1 ?_;refine xp 102 ?_ ?_<;>intro g2
 . have o0:g0=2:=g2.1;rw [if_neg (by decide),if_neg (by decide),if_neg (by decide),if_pos (by exact .inr ⟨o0,g2.2⟩),o0] at j;refine xx 5 ?_;refine Zq (Zw p pp who U f++q) func166 (Zn results166 rfl) (dG (by rw [j];exact ⟨rfl,by first|rfl|(simp only [o0];rfl),f,t,rfl⟩))
 rw [if_neg (by decide),if_neg (by decide),if_neg (by decide),if_neg (by rintro (⟨z1,z2⟩|⟨z1,z2⟩)<;>simp_all)] at j;have v1:(if g0<=2 then (Ux (A1.1 !=0),(0:Int),A0.2.2++A1.2.2) else ((Yi g0 A0.1 A1.1).1,(Yi g0 A0.1 A1.1).2,A0.2.2++A1.2.2))=((Wo g0 A0.1 A1.1).1,(Wo g0 A0.1 A1.1).2,A0.2.2++A1.2.2):=by unfold Wo;split<;>rfl
 refine rf [3,0,1,2,3,4,5,6,7,8,9,10,11] c0 ?_;refine Fl 11 call166 leA (IH (e:=el[1]) (d:=d - 1) (b:=ab) (o:=ao+(1:Int).toNat*7) (ev:=f) (q:=q++F) b2 trivial (by omega) c1 (by rw [d0,t];unfold PEv.ac;simp only [aG];omega) (w1.le leA) (hP.le leA) hM u0 l0 k0) ?_ ?_ trivial
 . rintro _ _ ⟨ht,rfl,m0,e0,rfl⟩;exact dA func166 (dX (by rw [<-y0] at ht e0|-;rw [if_pos ht] at j;rw [j];exact ⟨ht,rfl,m0,by rw [e0,t,Mg],rfl⟩)) (by rw [aA];exact aE _)
 rintro _ _ ⟨r1,rfl,f0,t0,s⟩;simp only [Zw,spP,Zr,evL,ca,na] at s;subst s;refine ⟨(hlF c0),?_⟩;rw [<-y0] at r1 t0|-;rw [if_neg (fun k=>k r1)] at j;refine Fl 12 call191 (aE _) (both_ok (op:=g0) (u:=A0.1) (z:=A1.1) (q:=pto p (.cells (Vt pp U++(I64 who::evC f0)).toArray 145 (0,0))::lsH I64 2 U.ca U.cc U.cells::yH U.sp U.sy::rsH trC 5 116 U.ha U.hc U.ths::stars (U.ths.map trH)::rsH acC 3 140 f0.aa f0.ac f0.e.acc::rsH snC 3 50 f0.na f0.nc f0.e.syn::(q++F)) (k6 rfl).1 w.1 s0.1) ?_ ?_ trivial
 . rintro _ _ ⟨⟨i1,rfl⟩,rfl⟩;exact dA func166 (dX (by rw [v1] at j;rw [j];exact ⟨i1,rfl,f0,by rw [t0,t,Mg],rfl⟩)) leA
 rintro _ _ ⟨⟨d1,rfl⟩,rfl⟩;refine ⟨(hlF c0),?_⟩;refine rn [14,0] ?_;refine Zq (Zw p pp who U f0++q) func166 (Zn results166 rfl) (dG (by rw [v1] at j;rw [j];exact ⟨d1,rfl,f0,by rw [t0,t,Mg],rfl⟩))
end
theorem Zz7 {l:List PS}(hs:Sees q a (l.map PS.v))(hL:l.length<=1000000000):CallF prog G 69 [.slice a l.length c] (q) (Ret fun v q'=> ∃ a' c',v= .slice a' l.length c'/\q'=lsH PS.v 146 a' c' l::q):=by
 refine aC func69 ntmps69 rfl fun F k=> ?_;rcases dK l.length with b|b
 . obtain rfl:=aK b;refine xx 10 ?_;refine dR 4 rfl ?_ ?_<;>intro j
   . refine xx 5 ?_;refine Zq (lsH PS.v 146 none 0 []::q) func69 (Zn results69 rfl) ⟨_,rfl,none,0,rfl,rfl⟩ ((leA).trans (Za _ _ _))
   refine xo 4 ?_;refine bQ (J4 PS.v underlying114 W0) ?_;rintro _ _ ⟨g,rfl,rfl⟩;refine oo 1 ?_;refine bQ (Yx (f:=PS.v) (l:= []) (m:= []) underlying114 W0 rfl rfl rfl Zk (hs.le leA) (fun _=>rfl) (by simp;try omega) (by simp;try omega)) ?_;rintro _ _ ⟨e,d,rfl,rfl⟩;refine ox 2 ?_;refine Zq (lsH PS.v 146 e d []::q) func69 (Zn results69 rfl) ⟨_,rfl,e,d,by simp,rfl⟩
 refine Yd hs (by rw [aU];omega) fun n i h=> ?_;subst h;refine rn [10,1004,4] ?_;refine bQ (J4 PS.v underlying114 W0) ?_;rintro _ _ ⟨g,rfl,rfl⟩;refine oo 1 ?_;refine bQ (Yx (f:=PS.v) (l:= []) (m:=l) underlying114 W0 rfl rfl rfl Zk (hs.le leA) (fun _=>rfl) (by simp;try omega) (by simp;try omega)) ?_;rintro _ _ ⟨e,d,rfl,rfl⟩;refine ox 2 ?_;refine Zq (lsH PS.v 146 e d l::q) func69 (Zn results69 rfl) ⟨_,rfl,e,d,by simp,rfl⟩
theorem Zz6 {l:List TC}(hs:Sees q a (l.flatMap trC))(hL:l.length<=1000000000):CallF prog G 68 [.slice a l.length c] (q) (Ret fun v q'=> ∃ a' c',v= .slice a' l.length c'/\q'=rsH trC 5 116 a' c' l::q):=by
 refine aC func68 ntmps68 rfl fun F k=> ?_;rcases dK l.length with b|b
 . obtain rfl:=aK b;refine xx 10 ?_;refine dR 4 rfl ?_ ?_<;>intro j
   . refine xx 5 ?_;refine Zq (rsH trC 5 116 none 0 []::q) func68 (Zn results68 rfl) ⟨_,rfl,none,0,rfl,rfl⟩ ((leA).trans (Zi _ _ _ _))
   refine xo 4 ?_;refine bQ (Qs trC underlying96 Qj) ?_;rintro _ _ ⟨g,rfl,rfl⟩;refine oo 1 ?_;refine bQ (Z9 (f:=trC) (l:= []) (m:= []) underlying96 Qj rfl rfl Zd rfl rfl Zk (hs.le leA) F6 (by simp;try omega) (by simp;try omega)) ?_;rintro _ _ ⟨e,d,rfl,rfl⟩;refine ox 2 ?_;refine Zq (rsH trC 5 116 e d []::q) func68 (Zn results68 rfl) ⟨_,rfl,e,d,by simp,rfl⟩
 refine Yd hs (by rw [Zx Zd];omega) fun n i h=> ?_;subst h;refine rn [10,1004,4] ?_;refine bQ (Qs trC underlying96 Qj) ?_;rintro _ _ ⟨g,rfl,rfl⟩;refine oo 1 ?_;refine bQ (Z9 (f:=trC) (l:= []) (m:=l) underlying96 Qj rfl rfl Zd rfl rfl Zk (hs.le leA) F6 (by simp;try omega) (by simp;try omega)) ?_;rintro _ _ ⟨e,d,rfl,rfl⟩;refine ox 2 ?_;refine Zq (rsH trC 5 116 e d l::q) func68 (Zn results68 rfl) ⟨_,rfl,e,d,by simp,rfl⟩
theorem SCopy_ok (hok:SS.ok g.er N U.er)(hN:N<=900)(hC:U.cells.length<=1000000):CallF prog G 37 [.pointer (some ⟨p,0,none⟩)] (stP p pp U::(Zr U++q)) (Ret fun v q'=> ∃ (p2:Nat) (σ2:StC),σ2.er=U.er/\σ2.ths.map TC.todo=U.ths.map TC.todo/\v= .pointer (some ⟨p2,0,none⟩)/\q'=stP p2 pp σ2::(Zr σ2++(stP p pp U::(Zr U++q)))):=by
 refine aC func37 ntmps37 rfl fun F cs=> ?_;change X _ _ _ _ _ _ _ _ (pto p (.cells (Vt pp U).toArray 98 (0,0))::lsH I64 2 U.ca U.cc U.cells::yH U.sp U.sy::rsH trC 5 116 U.ha U.hc U.ths::stars (U.ths.map trH)::(q++F));have l0:=Zx Zd U.ths;have h8:U.ths.length<=8:=by have:=hok.t.2;rwa [eP] at this
 have q0:1<=U.ths.length:=by have:=hok.t.1;rwa [eP] at this
 have g0:U.sy.ok N:=hok.y;have n0:U.cells.length<=1000000:=hC;refine xo 8 ?_;refine aO call49 (Q7 (p:=p) (pp:=pp) clA) ?_;refine Zt (bV rfl) ?_;refine rn [1,1008,6,0] ?_;refine bW zeroValue98 fun n1=> ?_
 refine rn [0,2,0,1,2,3,4,6,7,8,9,11,12,13,14] ?_;refine Wy 4 call50 (aE _) (Qb (l:=U.cells) ((bR _).le leA) (by omega)) ?_;refine kk2 fun ac cc=> ?_
 refine Ua 9 call67 (Copy_Y g0 (by omega)) ?_;refine kd1 fun py=> ?_
 refine ⟨hlA,?_⟩;refine Wy 14 call68 (aE _) (Zz6 (l:=U.ths) ((bE _).le leA) (by omega)) ?_;refine kk2 fun k0 ct=> ?_
 refine rn [16,17,18,19,20,21,0,4,0,4] ?_;refine Yw (a:=k0) (l:=U.ths) (by omega) fun o j0=> ?_;subst j0;refine aY (cG (fun (s:Nat×List TC)=>s.1<=U.ths.length/\s.2.length=s.1/\s.2.map TC.er=(U.ths.take s.1).map TC.er/\s.2.map TC.todo=(U.ths.take s.1).map TC.todo) (fun s=> [(3,pt n1),(32,I64 U.ths.length),(33,I64 (s.1:Int))]) (fun s=>pto n1 (.cells [.pointer (some ⟨pp,0,none⟩),.slice ac U.cells.length cc,.pointer (some ⟨py,0,none⟩),.slice (some ⟨o,0,none⟩) U.ths.length ct,I64 U.out.kind,I64 U.out.trap,I64 U.out.th,I64 U.out.stmt].toArray 98 (0,0))::lsH I64 2 ac cc U.cells::yH py U.sy::rsH trC 5 116 (some ⟨o,0,none⟩) ct (s.2++U.ths.drop s.1)::stars (s.2.map trH)::pto p (.cells (Vt pp U).toArray 98 (0,0))::lsH I64 2 U.ca U.cc U.cells::yH U.sp U.sy::rsH trC 5 116 U.ha U.hc U.ths::stars (U.ths.map trH)::(q++F)) (fun s=>U.ths.length - s.1) (fun s c0 ih=> ?_) (0, []) ⟨bB _,rfl,rfl,rfl⟩) Zu (aS (W6 _) leA);try dsimp only at c0 ih|-
 obtain ⟨m0,z,b0,a0⟩:=c0;obtain ⟨i,d⟩:=s;dsimp only at*;refine xx 5 ?_;refine xp 34 ?_ ?_<;>intro h0
 . have m:i<U.ths.length:=(by omega);obtain ⟨x,hx⟩:=kL U.ths[i];have hT:=hok.at m;rw [<-hx] at hT;have i0:=hT.n;rw [Va] at i0;have p0:x.loc.length<=32:=hT.l;have o0:x.sp.length<=8:=hT.p.1;have f0:=fun q:List HP=>T4 (q:=q) m;have d0:=fun q:List HP=>Sees.todo (q:=q) m;have e0:=fun q:List HP=>D8 (q:=q) m;rw [<-hx] at f0 d0 e0
   have c:i<(d++U.ths.drop i).length:=by rw [aG,bS];omega
   have e:(d++U.ths.drop i)[i]=x:=by rw [gA (by omega)];simp [z,hx]
   refine rn [12,0,4,0,1,2,3,4,5,6] ?_;refine ldD 6 ?_ (hc:=(cT (n:=i) (l:=(d++U.ths.drop i)) (bE _) leA Zd c rfl 2 _ (by rw [e];rfl)));refine dd [8,9,10] ?_;refine ldD 11 ?_ (hc:=(cT (n:=i) (l:=(d++U.ths.drop i)) (bE _) leA Zd c rfl 3 _ (by rw [e];rfl)));refine dd [13,14,15] ?_;refine ldD 16 ?_ (hc:=(cT (n:=i) (l:=(d++U.ths.drop i)) (bE _) leA Zd c rfl 4 _ (by rw [e];rfl)));refine Wy 7 call50 (aE _) (Qb (l:=x.loc) ((f0 _).le leA) (by omega)) ?_;rintro _ _ ⟨w,r,rfl,rfl⟩;refine ⟨(hlA (h:=by repeat first|exact trivial|refine ⟨clA,?_⟩|refine ⟨(cT (n:=i) (l:=(d++U.ths.drop i)) (bE _) leA Zd c rfl 2 _ (by rw [e];rfl)),?_⟩|refine ⟨(cT (n:=i) (l:=(d++U.ths.drop i)) (bE _) leA Zd c rfl 3 _ (by rw [e];rfl)),?_⟩|refine ⟨(cT (n:=i) (l:=(d++U.ths.drop i)) (bE _) leA Zd c rfl 4 _ (by rw [e];rfl)),?_⟩)),?_⟩;refine Wy 12 call69 (aE _) (Zz7 (l:=x.todo) ((d0 _).le leA) (by omega)) ?_;rintro _ _ ⟨a3,c3,rfl,rfl⟩;refine ⟨(hlA (h:=by repeat first|exact trivial|refine ⟨clA,?_⟩|refine ⟨(cT (n:=i) (l:=(d++U.ths.drop i)) (bE _) leA Zd c rfl 2 _ (by rw [e];rfl)),?_⟩|refine ⟨(cT (n:=i) (l:=(d++U.ths.drop i)) (bE _) leA Zd c rfl 3 _ (by rw [e];rfl)),?_⟩|refine ⟨(cT (n:=i) (l:=(d++U.ths.drop i)) (bE _) leA Zd c rfl 4 _ (by rw [e];rfl)),?_⟩)),?_⟩;refine Wy 17 call70 (aE _) (Ku (l:=x.sp) ((e0 _).le leA) (by omega)) ?_;refine kk2 fun a4 c4=> ?_
   refine dd [18,19] ?_;refine iQ 20 rfl (Yr (g:=o) (f:=trC) (l:=(d++U.ths.drop i)) (u:= { x with la:=w,lc:=r }) (n:=i) (k:=2) (j:=(i:Int)) rfl rfl sizeOf23 Zd rfl (by exact c) rfl (by rw [e];rfl) rfl rfl Zk) ?_;refine kk0 ?_;refine dd [21,22] ?_;refine iQ 23 rfl (Yr (g:=o) (f:=trC) (l:=((d++U.ths.drop i).set i { x with la:=w,lc:=r })) (u:= { x with la:=w,lc:=r,ta:=a3,tc:=c3 }) (n:=i) (k:=3) (j:=(i:Int)) rfl rfl sizeOf114 Zd rfl (by rw [bC];exact c) rfl (by rw [cN];rfl) rfl rfl Zk) ?_;refine kk0 ?_;rw [fI];refine dd [24,25] ?_;refine iQ 26 rfl (Yr (g:=o) (f:=trC) (l:=((d++U.ths.drop i).set i { x with la:=w,lc:=r,ta:=a3,tc:=c3 })) (u:= { x with la:=w,lc:=r,ta:=a3,tc:=c3,sa:=a4,sc:=c4 }) (n:=i) (k:=4) (j:=(i:Int)) rfl rfl sizeOf22 Zd rfl (by rw [bC];exact c) rfl (by rw [cN];rfl) rfl rfl Zk) ?_;refine kk0 ?_;rw [fI];refine rn [0,5] ?_;rw [Ro d (U.ths.drop i) i _ z (by rw [bS];omega),fK];refine bY (q':=stars ((d++ [({ x with la:=w,lc:=r,ta:=a3,tc:=c3,sa:=a4,sc:=c4 } :TC)]).map trH)::_) (aS (b:=stars (d.map trH)::lsH I64 2 w r x.loc::lsH PS.v 146 a3 c3 x.todo::lsH I64 3 a4 c4 x.sp::_) (bM Zk (bM Zk (bM Zk Zk))) (aS (dD _ (Z5 (trL ({ x with la:=w,lc:=r,ta:=a3,tc:=c3,sa:=a4,sc:=c4 } :TC)) _)) (Le.stars_snoc trH d ({ x with la:=w,lc:=r,ta:=a3,tc:=c3,sa:=a4,sc:=c4 } :TC) _))) ?_;refine aY (ih (i+1,d++ [({ x with la:=w,lc:=r,ta:=a3,tc:=c3,sa:=a4,sc:=c4 } :TC)]) ⟨by dsimp only;omega,by dsimp only;rw [aG];simp [z],by dsimp only;rw [aH m,aM,aM,b0,<-hx];rfl,by dsimp only;rw [aH m,aM,aM,a0,<-hx];rfl⟩ (by dsimp only;omega)) Zu leA
 obtain rfl:i=U.ths.length:=(by omega);rw [cD] at b0 a0;rw [dP,cA];clear ih;refine xx 6 ?_;refine bY (q':=stP n1 pp (⟨ac,cc,U.cells,py,U.sy,some ⟨o,0,none⟩,ct,d,U.out⟩:StC)::(Zr (⟨ac,cc,U.cells,py,U.sy,some ⟨o,0,none⟩,ct,d,U.out⟩:StC)++(stP p pp U::(Zr U++(q++F))))) (by unfold stP Vt;dsimp only;rw [z];exact leA) ?_;refine Zq (stP n1 pp (⟨ac,cc,U.cells,py,U.sy,some ⟨o,0,none⟩,ct,d,U.out⟩:StC)::(Zr (⟨ac,cc,U.cells,py,U.sy,some ⟨o,0,none⟩,ct,d,U.out⟩:StC)++(stP p pp U::(Zr U++q)))) func37 (Zn results37 rfl) ⟨_,rfl,n1,(⟨ac,cc,U.cells,py,U.sy,some ⟨o,0,none⟩,ct,d,U.out⟩:StC),by simp only [StC.er,b0],a0,rfl,rfl⟩
end Go.Proofs.YtflkjkhijcdbaaaGreat
