/- Contracts of functions, proved by walking their code. -/
import Derived.Test.YtgonllbkcgaliaaGreatDoorHk
import Derived.KernelRfl
set_option maxRecDepth 100000
set_option linter.unusedVariables false
set_option linter.unusedSimpArgs false
namespace Go.Proofs.YtgonllbkcgaliaaGreatDoor
open Go Go.RowKit Wx Go.Proofs.Tryz
attribute [local irreducible] Wx.lsH Wx.rsH Wx.stars
structure Cd where
 I:Sv Ins
 L:Sv Int
def ckC (x:Cd):List Value:= [x.I.v,x.L.v]
def Cd.At (M:Hp)(x:Cd):Prop:=x.I.At M Zx∧x.L.At M iC
theorem Cd.At.mono {x:Cd}{M M':Hp}(e:Hle M M')(h:x.At M):x.At M':=⟨h.1.mono e,h.2.mono e⟩
def ckM (x:Cd):HP:=lst (fun M=>x.At M) fun e h=>Cd.At.mono e h
def Cd.z:Cd:=⟨.z,.z⟩
theorem Zqz (M:Hp):Cd.z.At M:=⟨Dp M,Dp M⟩
section
variable {G:World}{q:List HP}{x:Cd}{l:List Ins}{a:Option Addr}{c:Nat}{ln sl:Int}{lo:Bool}{g:FC}
theorem C4:CallF prog G 158 [.int .i64 sl,.bool lo] (q) (Ret fun v q'=> ∃ (g:Nat),v= .slice (some ⟨g,0,none⟩) 1 1∧q'=rsH Zx 4 48 (some ⟨g,0,none⟩) 1 [⟨if lo=true then 6 else 5,sl,0,0⟩]::q):=by
 refine CallF.of func158 ntmps158 rfl (fun F cs=> ?_)
 refine xx 9 ?_;refine X.part 5 rfl (fun h1=> ?_) (fun h1=> ?_)
 · replace h1:=sp h1
   refine xo 4 ?_;refine XO.cR call64 (Yf) ?_;refine XO.ef (Z6 Zx [⟨6,sl,0,0⟩] underlying32 Za rfl rfl (fun _=>rfl) rfl rfl rfl rfl) ?_
   rintro _ _ ⟨g0,rfl,rfl⟩
   refine ox 2 ?_
   have hlo:lo=true:=(by simpa using h1);subst hlo
   refine Zq (rsH Zx 4 48 (some ⟨g0,0,none⟩) 1 ([⟨6,sl,0,0⟩])::q) func158 (Zu results158 rfl) ⟨_,rfl,g0,rfl,rfl⟩
 replace h1:=sp h1
 refine xo 5 ?_;refine XO.cR call64 (Yf) ?_;refine XO.ef (Z6 Zx [⟨5,sl,0,0⟩] underlying32 Za rfl rfl (fun _=>rfl) rfl rfl rfl rfl) ?_
 rintro _ _ ⟨g0,rfl,rfl⟩
 refine ox 2 ?_
 have hlo:lo=false:=(by simpa using h1);subst hlo
 refine Zq (rsH Zx 4 48 (some ⟨g0,0,none⟩) 1 ([⟨5,sl,0,0⟩])::q) func158 (Zu results158 rfl) ⟨_,rfl,g0,rfl,rfl⟩
theorem Zqe (hs:0≤sl∧sl≤1000000):CallF prog G 159 [.agg (pgC g).toArray,.int .i64 sl] (q) (Ret fun v q'=>v= .int .i64 (if sl=g.main then 0 else if sl<g.main then sl+1 else sl)∧q'=q):=by
 refine CallF.of func159 ntmps159 rfl (fun F cs=> ?_)
 refine xo 2 ?_;refine Zl fun n1=> ?_
 refine ol 7 ?_;refine ox 2 ?_;refine X.part 8 rfl (fun h1=> ?_) (fun h1=> ?_)
 focus
  replace h1:=sp h1
  refine xx 5 ?_
 rotate_left
 focus
  replace h1:=sp h1
  refine xl 7 ?_;refine ox 2 ?_;refine X.part 12 rfl (fun h2=> ?_) (fun h2=> ?_)
  rotate_left
  all_goals
   replace h2:=sp h2
   refine xx 7 ?_
 all_goals
  refine Zq (q) func159 (Zu results159 rfl) ⟨_,rfl,by repeat (first|rw [if_pos (by omega)]|rw [if_neg (by omega)]),rfl⟩
set_option maxHeartbeats 2000000 in
theorem Y7 (h:Kn q fun M=>x.At M)(hl:Sees q a (l.flatMap Zx))(hb:x.I.l.length+l.length≤2000000000∧x.L.l.length+l.length≤2000000000):CallF prog G 63 [.agg (ckC x).toArray,.slice a l.length c,.int .i64 ln] (q) (Ret fun v q'=> ∃ y:Cd,v= .agg (ckC y).toArray∧q'=ckM y::q∧y.I.l=x.I.l++l∧y.L.l=x.L.l++List.replicate l.length ln):=by
 refine CallF.of func63 ntmps63 rfl (fun F cs=> ?_)
 refine xo 2 ?_;refine Zl fun n1=> ?_
 refine Zm zeroValue139 fun n2=> ?_
 refine ol 4 ?_;refine XO.le (q':=rsH Zx 4 48 none 0 []::_) (Yx Zx 4 48 _) ?_
 refine XO.ef (Zo (f:=Zx) (l:= []) (m:=x.I.l) underlying32 Za rfl rfl (fun _=>rfl) rfl rfl Zj (Sv.sees (Kn.le (h.imp fun M h=>h.1))) (fun _=>rfl) (by (try simp only [List.length_append,List.length_cons,List.length_nil]);omega) (by (try simp only [List.length_append,List.length_cons,List.length_nil]);omega)) ?_
 rintro _ _ ⟨a1,c1,rfl,rfl⟩
 rw [List.nil_append]
 refine oo 1 ?_;refine XO.ef (Zo (f:=Zx) (l:=x.I.l) (m:=l) underlying32 Za rfl rfl (fun _=>rfl) rfl rfl Zj (hl.le leA) (fun _=>rfl) (by (try simp only [List.length_append,List.length_cons,List.length_nil]);omega) (by (try simp only [List.length_append,List.length_cons,List.length_nil]);omega)) ?_
 rintro _ _ ⟨a2,c2,rfl,rfl⟩
 refine oo 1 ?_;refine st ?_;refine ox 7 ?_;refine Cq ?_;refine X.at (X.loop (fun (s:(Nat×Sv Int)×Option Addr)=>s.1.1≤l.length∧s.2=a∧s.1.2.l=x.L.l++List.replicate s.1.1 ln) (fun s=> [(1,.slice s.2 l.length c),(2,.int .i64 ln),(3,.pointer (some ⟨n1,0,none⟩)),(6,.pointer (some ⟨n2,0,none⟩)),(7,.int .i64 (s.1.1:Int))]) (fun s=>svM iC s.1.2::svM Zx (⟨x.I.l++l,a2,c2⟩:Sv Ins)::pto n1 (.cells [(⟨x.I.l++l,a2,c2⟩:Sv Ins).v,s.1.2.v].toArray 139 (0,0))::pto n2 (.cells [.slice none 0 0,.slice none 0 0].toArray 139 (0,0))::(q++F)) (fun s=>l.length - s.1.1) (fun s hi_ ih=> ?_) ((0,x.L),a) ⟨Nat.zero_le _,rfl,by simp⟩) Zp (Le.trans leA (Le.trans (Kn.add (φ:=fun M=>x.L.At M iC) (mn:=fun e h=>Sv.At.mono e h) (Kn.le (h.imp fun M h=>h.2))) leA))
 try dsimp only at hi_ ih⊢
 obtain ⟨hi1,hi2,hi3⟩:=hi_
 obtain ⟨⟨k,L⟩,a3⟩:=s;dsimp only at*;subst hi2;have hLl:L.l.length=x.L.l.length+k:=(by rw [hi3,List.length_append,List.length_replicate])
 refine xx 8 ?_;refine X.part 17 rfl (fun h0=> ?_) (fun h0=> ?_)
 · replace h0:=sp h0;have hlt:k<l.length:=by omega
   refine xl 6 ?_;refine XO.le (q':=lsH I64 3 none 0 []::_) (Yc _ _ _) ?_
   refine XO.ef (Ye (f:=I64) (l:= []) (m:=L.l) underlying23 Qk rfl rfl rfl Zj (svI (show Kn _ fun M=>L.At M iC from knA)) (fun _=>rfl) (by simp;omega) (by simp;omega)) ?_
   rintro _ _ ⟨a4,c4,rfl,rfl⟩
   rw [List.nil_append]
   refine oo 1 ?_;refine XO.ef (Yh I64 [ln] underlying23 Qk rfl rfl rfl rfl rfl rfl (fun _=>rfl)) ?_
   rintro _ _ ⟨gl,rfl,rfl⟩
   refine XO.ef (Ye (f:=I64) (l:=L.l) (m:= [ln]) underlying23 Qk rfl rfl rfl Zj ((Sees.lsH _).le Zj) (fun _=>rfl) (by simp;omega) (by simp;omega)) ?_
   rintro _ _ ⟨a5,c5,rfl,rfl⟩
   refine oo 1 ?_;refine st ?_;refine ox 7 ?_;refine Tu (f':=iC) (fe:=I64) Hv ?_
   refine X.at (ih ((k+1,⟨L.l++ [ln],a5,c5⟩),_) ⟨by dsimp only;omega,rfl,by dsimp only;rw [hi3,List.append_assoc,List.replicate_succ']⟩ (by dsimp only;omega)) Zp leA
 replace h0:=sp h0;obtain rfl:k=l.length:=by omega
 refine xo 4 ?_;refine ldA ?_;refine stA ?_;refine ox 1 ?_;refine X.le (q':=ckM (⟨⟨x.I.l++l,a2,c2⟩,L⟩:Cd)::_) (Kn.add (Kn.and (show Kn _ fun M=>Sv.At M Zx (⟨x.I.l++l,a2,c2⟩:Sv Ins) from knA) (show Kn _ fun M=>L.At M iC from knA))) ?_
 refine Zq (ckM (⟨⟨x.I.l++l,a2,c2⟩,L⟩:Cd)::q) func63 (rA_ results63) ⟨_,rfl,(⟨⟨x.I.l++l,a2,c2⟩,L⟩:Cd),rfl,rfl,rfl,hi3⟩
variable {z:Cd}
set_option maxHeartbeats 2000000 in
theorem Rt (h:Kn q fun M=>x.At M)(hz:Kn q fun M=>z.At M)(hb:x.I.l.length+z.I.l.length≤2000000000∧x.L.l.length+z.L.l.length≤2000000000):CallF prog G 106 [.agg (ckC x).toArray,.agg (ckC z).toArray] (q) (Ret fun v q'=> ∃ y:Cd,v= .agg (ckC y).toArray∧q'=ckM y::q∧y.I.l=x.I.l++z.I.l∧y.L.l=x.L.l++z.L.l):=by
 refine CallF.of func106 ntmps106 rfl (fun F cs=> ?_)
 refine xo 2 ?_;refine Zl fun n1=> ?_
 refine Zl fun n2=> ?_
 refine Zm zeroValue139 fun n3=> ?_
 refine ox 2 ?_;refine drw ?_;refine dl [0] 1 ?_;refine dl [3] 4 ?_;refine XD.le (q':=rsH Zx 4 48 none 0 []::_) (Yx Zx 4 48 _) ?_
 refine XD.ef 2 rfl (Zo (f:=Zx) (l:= []) (m:=x.I.l) underlying32 Za rfl rfl (fun _=>rfl) rfl rfl Zj (Sv.sees (Kn.le (h.imp fun M h=>h.1))) (fun _=>rfl) (by (try simp only [List.length_append,List.length_cons,List.length_nil]);omega) (by (try simp only [List.length_append,List.length_cons,List.length_nil]);omega)) ?_
 rintro _ _ ⟨a1,c1,rfl,rfl⟩
 refine ⟨hlA,?_⟩
 rw [List.nil_append]
 refine XD.ef 5 rfl (Zo (f:=Zx) (l:=x.I.l) (m:=z.I.l) underlying32 Za rfl rfl (fun _=>rfl) rfl rfl Zj (Sv.sees (Kn.le (hz.imp fun M h=>h.1))) (fun _=>rfl) (by (try simp only [List.length_append,List.length_cons,List.length_nil]);omega) (by (try simp only [List.length_append,List.length_cons,List.length_nil]);omega)) ?_
 rintro _ _ ⟨a2,c2,rfl,rfl⟩
 refine ⟨trivial,?_⟩
 refine dd [6] ?_;refine stD 7 ?_;refine XD.nil ?_;refine xx 1 ?_;refine drw ?_;refine dl [0] 1 ?_;refine dl [3] 4 ?_;refine XD.le (q':=lsH I64 3 none 0 []::_) (Yc _ _ _) ?_
 refine XD.ef 2 rfl (Ye (f:=I64) (l:= []) (m:=x.L.l) underlying23 Qk rfl rfl rfl Zj (svI (Kn.le (h.imp fun M h=>h.2))) (fun _=>rfl) (by simp;omega) (by simp;omega)) ?_
 rintro _ _ ⟨a4,c4,rfl,rfl⟩
 refine ⟨hlA,?_⟩
 rw [List.nil_append]
 refine XD.ef 5 rfl (Ye (f:=I64) (l:=x.L.l) (m:=z.L.l) underlying23 Qk rfl rfl rfl Zj (svI (Kn.le (hz.imp fun M h=>h.2))) (fun _=>rfl) (by omega) (by omega)) ?_
 rintro _ _ ⟨a5,c5,rfl,rfl⟩
 refine ⟨trivial,?_⟩
 refine dd [6] ?_;refine stD 7 ?_;refine XD.nil ?_;refine xo 2 ?_;refine ldA ?_;refine stA ?_;refine ox 1 ?_;refine Cq ?_;refine Tu (f':=iC) (fe:=I64) Hv ?_
 refine X.le (q':=ckM (⟨(⟨x.I.l++z.I.l,a2,c2⟩:Sv Ins),(⟨x.L.l++z.L.l,a5,c5⟩:Sv Int)⟩:Cd)::_) (Kn.add (Kn.and (show Kn _ fun M=>Sv.At M Zx (⟨x.I.l++z.I.l,a2,c2⟩:Sv Ins) from knA) (show Kn _ fun M=>Sv.At M iC (⟨x.L.l++z.L.l,a5,c5⟩:Sv Int) from knA))) ?_
 refine Zq (ckM (⟨(⟨x.I.l++z.I.l,a2,c2⟩:Sv Ins),(⟨x.L.l++z.L.l,a5,c5⟩:Sv Int)⟩:Cd)::q) func106 (rA_ results106) ⟨_,rfl,(⟨(⟨x.I.l++z.I.l,a2,c2⟩:Sv Ins),(⟨x.L.l++z.L.l,a5,c5⟩:Sv Int)⟩:Cd),rfl,rfl,rfl,rfl⟩
end
def lnd (l:List Ins)(ln:Int):List (Ins×Int):=l.map fun i=>(i,ln)
def Qf (slot:Int)(loc:Bool):Ins:=⟨if loc=true then 6 else 5,slot,0,0⟩
def Bv (main t:Int):Int:=if t=main then 0 else if t<main then t+1 else t
def Qw (k:Int)(e ix:PEx)(id at_:Int):List Ins:=
 let c1:List Ins:=if k=3 then [⟨23,id,0,0⟩]++ix.code (at_+1) else [⟨23,id,0,0⟩]
 if k≤5∨k=11∨k=15 then c1++e.code (at_+c1.length) else c1
def Hu (main k slot other:Int)(loc:Bool):List Ins:=
 if k=1∨k=2 then [Qf slot loc] else if k=3 then [⟨7,slot,0,0⟩] else if k=6 then [⟨24,slot,0,0⟩] else if k=7 then [⟨25,slot,0,0⟩]
 else if k=8 then [⟨26,slot,other,0⟩] else if k=9 then [⟨27,slot,0,0⟩] else if k=10 then [⟨28,slot,0,0⟩] else if k=11 then [⟨29,slot,0,0⟩]
 else if k=12 then [⟨30,slot,0,0⟩,Qf other loc] else if k=13 then [⟨31,Bv main slot,0,0⟩] else if k=14 then [⟨32,0,0,0⟩] else [⟨33,0,0,0⟩]
mutual
def PStm.code (main:Int):PStm→Int→List (Ins×Int)
 | .mk k ln _ _ _ e ix body els id slot other loc,at_=>
  let c:=Qw k e ix id at_
  if k=4 then
   let b:=PStm.codes main body (at_+c.length+1)
   let n:Int:=at_+c.length+1+b.length
   if els= [] then lnd (c++ [⟨20,n,0,0⟩]) ln++b
   else
    let o:=PStm.codes main els (n+1)
    lnd (c++ [⟨20,n+1,0,0⟩]) ln++b++lnd [⟨19,n+1+o.length,0,0⟩] ln++o
  else if k=5 then
   let b:=PStm.codes main body (at_+c.length+1)
   lnd (c++ [⟨20,at_+c.length+1+b.length+1,0,0⟩]) ln++b++lnd [⟨19,at_,0,0⟩] ln
  else lnd (c++Hu main k slot other loc) ln
def PStm.codes (main:Int):List PStm→Int→List (Ins×Int)
 | [],_=> []
 |s::r,at_=>s.code main at_++PStm.codes main r (at_+(s.code main at_).length)
end
def Vn (main:Int)(t:PTh):List (Ins×Int):=PStm.codes main t.body 0++lnd [⟨34,0,0,0⟩] 0
mutual
/-- How much code a statement makes at most. -/
def PStm.wt:PStm→Nat
 | .mk _ _ _ _ _ e ix body els _ _ _ _=>4*e.sz+4*ix.sz+6+Ze body+Ze els
def Ze:List PStm→Nat
 | []=>0
 |s::r=>s.wt+Ze r
end
mutual
/-- What a statement that was found is like. -/
def PStm.fit:PStm→Prop
 | .mk k _ _ _ _ e ix body els _ slot _ _=>(1≤k∧k≤15)∧(k≤5∨k=11∨k=15→e.fit)∧(k=3→ix.fit)∧(k=13→0≤slot∧slot≤1000000)∧PStm.fits body∧PStm.fits els
def PStm.fits:List PStm→Prop
 | []=>True
 |s::r=>s.fit∧PStm.fits r
end
theorem Pc (k:Int)(e ix:PEx)(id t:Int):(Qw k e ix id t).length≤4*e.sz+4*ix.sz+1:=by
 have h1:=Yk ix (t+1)
 have h2: ∀ b,(e.code b).length≤4*e.sz:=Yk e
 unfold Qw
 dsimp only
 split<;>split<;>simp only [List.length_append,List.length_cons,List.length_nil]<;>first|omega|(have h3:=h2 (t+((0+1+(ix.code (t+1)).length:Nat):Int));omega)|(have h3:=h2 (t+((0+1:Nat):Int));omega)
theorem Zqf (m k s o:Int)(l:Bool):(Hu m k s o l).length≤2:=by unfold Hu;repeat' split<;>try (simp only [List.length_cons,List.length_nil];omega)
theorem Vk (l:List Ins)(n:Int):(lnd l n).length=l.length:=by simp [lnd]
mutual
theorem Tt (m:Int): ∀ (s:PStm) (t:Int),(s.code m t).length≤s.wt
 | .mk k ln _ _ _ e ix body els id slot other loc,t=>by
  have h1:=Pc k e ix id t
  have h2:=Y9 m body;have h3:=Y9 m els
  have h4:=Zqf m k slot other loc
  simp only [PStm.code,PStm.wt]
  split
  · split
    · have h5:=h2 (t+((Qw k e ix id t).length:Int)+1);simp only [List.length_append,Vk,List.length_cons,List.length_nil];omega
    have h5:=h2 (t+((Qw k e ix id t).length:Int)+1);have h6:=h3 (t+((Qw k e ix id t).length:Int)+1+((PStm.codes m body (t+((Qw k e ix id t).length:Int)+1)).length:Int)+1)
    simp only [List.length_append,Vk,List.length_cons,List.length_nil];omega
  split
  · have h5:=h2 (t+((Qw k e ix id t).length:Int)+1);simp only [List.length_append,Vk,List.length_cons,List.length_nil];omega
  rw [Vk,List.length_append];omega
theorem Y9 (m:Int): ∀ (l:List PStm) (t:Int),(PStm.codes m l t).length≤Ze l
 | [],_=>by simp [PStm.codes]
 |s::r,t=>by have h1:=Tt m s t;have h2:=Y9 m r (t+((s.code m t).length:Int));simp only [PStm.codes,Ze,List.length_append];omega
end
theorem N2 {α:Type}(a b:Nat)(x:α):List.replicate (a+b) x=List.replicate a x++List.replicate b x:=(List.replicate_append_replicate).symm
theorem Wg (l:List Ins)(n:Int):(lnd l n).map Prod.fst=l:=by simp [lnd,Function.comp_def]
theorem Ja (l:List Ins)(n:Int):(lnd l n).map Prod.snd=List.replicate l.length n:=by simp [lnd,Function.comp_def,List.map_const']
section
variable {G:World}{q:List HP}{x:Stm}{m:List Stm}{a:Option Addr}{c:Nat}{g:FC}{t:Int}
set_option maxHeartbeats 8000000 in
theorem S7 (IH: ∀ (m:List Stm) (a:Option Addr) (c:Nat),Z0 m<x.sz→ ∀ {q:List HP} {t:Int},(Kn q fun M=>BlkAt M a c m)→PStm.fits (Zk m)→(0≤t∧t+Ze (Zk m)≤1000000000)→CallF prog G 62 [.agg (pgC g).toArray,.slice a m.length c,.int .i64 t] q (Ret fun v q'=> ∃ y:Cd,v= .agg (ckC y).toArray∧q'=ckM y::q∧y.I.l=(PStm.codes g.main (Zk m) t).map Prod.fst∧y.L.l=(PStm.codes g.main (Zk m) t).map Prod.snd))(h:Kn q fun M=>x.At M)(hf:x.er.fit)(ht:0≤t∧t+x.er.wt≤1000000000):CallF prog G 107 [.agg (pgC g).toArray,.agg (stC x).toArray,.int .i64 t] (q) (Ret fun v q'=> ∃ y:Cd,v= .agg (ckC y).toArray∧q'=ckM y::q∧y.I.l=(x.er.code g.main t).map Prod.fst∧y.L.l=(x.er.code g.main t).map Prod.snd):=by
 refine CallF.of func107 ntmps107 rfl (fun F cs=> ?_)
 obtain ⟨k,ln,cl,nm,wt,⟨k1,z1,s1,l1,o1,p1,y1,u1,w1⟩,⟨k2,z2,s2,l2,o2,p2,y2,u2,w2⟩,body,els,ba,bc,ea,ec,id,slot,other,loc⟩:=x
 have hE:=A3 h;have hX:=A0 h;have hB:=A4 h;have hL:=A2 h
 simp only [Stm.er,PStm.fit] at hf;obtain ⟨hf1,hf2,hf3,hf4,hf5,hf6⟩:=hf;simp only [Stm.er,PStm.wt] at ht
 have hb1:=Yk (Ex.er (.mk k2 z2 s2 l2 o2 p2 y2 u2 w2)) (t+1);have hb2:=Pc k (Ex.er (.mk k1 z1 s1 l1 o1 p1 y1 u1 w1)) (Ex.er (.mk k2 z2 s2 l2 o2 p2 y2 u2 w2)) id t
 obtain ⟨C1,hC1⟩: ∃ C1:List Ins,(if k=3 then [⟨23,id,0,0⟩]++(Ex.er (.mk k2 z2 s2 l2 o2 p2 y2 u2 w2)).code (t+1) else [⟨23,id,0,0⟩]:List Ins)=C1:=⟨_,rfl⟩;obtain ⟨C2,hC2⟩: ∃ C2,Qw k (Ex.er (.mk k1 z1 s1 l1 o1 p1 y1 u1 w1)) (Ex.er (.mk k2 z2 s2 l2 o2 p2 y2 u2 w2)) id t=C2:=⟨_,rfl⟩;rw [hC2] at hb2
 have hC3:C2=if k≤5∨k=11∨k=15 then C1++(Ex.er (.mk k1 z1 s1 l1 o1 p1 y1 u1 w1)).code (t+C1.length) else C1:=(by rw [←hC2,←hC1];rfl);have hb3:C1.length≤4*(Ex.er (.mk k2 z2 s2 l2 o2 p2 y2 u2 w2)).sz+1:=(by rw [←hC1];split<;>simp only [List.length_append,List.length_cons,List.length_nil]<;>omega);have hb4:=Yk (Ex.er (.mk k1 z1 s1 l1 o1 p1 y1 u1 w1)) (t+C1.length)
 refine xo 2 ?_;refine Zl fun n1=> ?_
 refine Zl fun n2=> ?_
 refine Zm zeroValue139 fun n3=> ?_
 refine ol 5 ?_;refine ol 6 ?_;refine XO.cR call64 (Yf) ?_;refine XO.ef (Z6 Zx [⟨23,id,0,0⟩] underlying32 Za rfl rfl (fun _=>rfl) rfl rfl rfl rfl) ?_
 rintro _ _ ⟨g0,rfl,rfl⟩
 refine oo 1 ?_;refine Zh call63 (Le.refl _) (Y7 (x:=Cd.z) (l:= [⟨23,id,0,0⟩]) (fun _ _ _=>Zqz _) (Sees.le (Sees.rsH _) Zj) ⟨by simp [Cd.z,Sv.z],by simp [Cd.z,Sv.z]⟩) ?_
 rintro _ _ ⟨y0,rfl,rfl,hI0,hL0⟩
 replace hI0:y0.I.l= [⟨23,id,0,0⟩]:=by simpa [Cd.z,Sv.z] using hI0
 have hIl:y0.I.l.length=1:=by rw [hI0];rfl
 replace hL0:y0.L.l=List.replicate y0.I.l.length ln:=by rw [hIl];simpa [Cd.z,Sv.z] using hL0
 have hLl:y0.L.l.length=1:=by rw [hL0,hIl];rfl
 refine Zm zeroValue139 fun n4=> ?_
 refine stA ?_;refine ol 4 ?_;refine ox 3 ?_;refine X.join (fun (x:Cd)=> [(2,.int .i64 t),(3,.pointer (some ⟨n1,0,none⟩)),(4,.pointer (some ⟨n2,0,none⟩)),(6,.pointer (some ⟨n3,0,none⟩)),(7,.int .i64 ln),(8,.pointer (some ⟨n4,0,none⟩)),(9,.int .i64 k)]) (fun x=>ckM x::pto n4 (.cells (ckC x).toArray 139 (0,0))::pto n1 (.cells (pgC g).toArray 59 (0,0))::pto n2 (.cells (stC (.mk k ln cl nm wt (.mk k1 z1 s1 l1 o1 p1 y1 u1 w1) (.mk k2 z2 s2 l2 o2 p2 y2 u2 w2) body els ba bc ea ec id slot other loc)).toArray 217 (0,0))::pto n3 (.cells [.slice none 0 0,.slice none 0 0].toArray 139 (0,0))::(q++F)) (fun x=>x.I.l=C1∧x.L.l=List.replicate x.I.l.length ln) (fun x hx_=> ?_) (fun K=> ?_)
 · obtain ⟨y1_,hy1⟩: ∃ y,y=x:=⟨_,rfl⟩;rw [←hy1] at hx_⊢;obtain ⟨hI1,hL1⟩:=hx_;clear hI0 hL0 hIl hLl;have hLn:y1_.L.l.length=y1_.I.l.length:=(by rw [hL1,List.length_replicate]);rw [hI1] at hLn
   have hIn:y1_.I.l.length=C1.length:=by rw [hI1]
   refine xx 1 ?_;refine X.join (fun (x:Cd)=> [(2,.int .i64 t),(3,.pointer (some ⟨n1,0,none⟩)),(4,.pointer (some ⟨n2,0,none⟩)),(6,.pointer (some ⟨n3,0,none⟩)),(7,.int .i64 ln),(8,.pointer (some ⟨n4,0,none⟩)),(9,.int .i64 k)]) (fun x=>ckM x::pto n4 (.cells (ckC x).toArray 139 (0,0))::pto n1 (.cells (pgC g).toArray 59 (0,0))::pto n2 (.cells (stC (.mk k ln cl nm wt (.mk k1 z1 s1 l1 o1 p1 y1 u1 w1) (.mk k2 z2 s2 l2 o2 p2 y2 u2 w2) body els ba bc ea ec id slot other loc)).toArray 217 (0,0))::pto n3 (.cells [.slice none 0 0,.slice none 0 0].toArray 139 (0,0))::(q++F)) (fun x=>x.I.l=C2∧x.L.l=List.replicate x.I.l.length ln) (fun x hx_=> ?_) (fun K2=> ?_)
   · obtain ⟨y2_,hy2⟩: ∃ y,y=x:=⟨_,rfl⟩;rw [←hy2] at hx_⊢;obtain ⟨hI2,hL2⟩:=hx_;have hIm:y2_.I.l.length=C2.length:=(by rw [hI2]);have hLm:y2_.L.l.length=C2.length:=(by rw [hL2,List.length_replicate,hIm])
     clear hI1 hL1 hLn hIn hC3 hb3 hb4 hC1 hb1
     obtain ⟨R,hR⟩: ∃ R,(Stm.er (.mk k ln cl nm wt (.mk k1 z1 s1 l1 o1 p1 y1 u1 w1) (.mk k2 z2 s2 l2 o2 p2 y2 u2 w2) body els ba bc ea ec id slot other loc)).code g.main t=R:=⟨_,rfl⟩;rw [hR];simp only [Stm.er,PStm.code,hC2] at hR
     have hcl:k=1∨k=2∨k=3∨k=4∨k=5∨k=6∨k=7∨k=8∨k=9∨k=10∨k=11∨k=12∨k=13∨k=14∨k=15:=by omega
     rcases hcl with rfl|rfl|rfl|rfl|rfl|rfl|rfl|rfl|rfl|rfl|rfl|rfl|rfl|rfl|rfl
     focus
      replace hR:lnd (C2++ [Qf slot loc]) ln=R:=hR
      refine xx 12 ?_;refine X.kt 62 ?_;refine xx 4 ?_;refine drw ?_;refine Yw 0 ?_;refine dl [1] 2 ?_;refine dl [3] 4 ?_;refine dd [6] ?_;refine Yj 5 call158 (Le.refl _) (C4 (sl:=slot) (lo:=loc)) ?_
      rintro _ _ ⟨gi,rfl,rfl⟩
      refine ⟨hlA,?_⟩
      refine Yj 7 call63 (Le.refl _) (Y7 (x:=y2_) (l:= [Qf slot loc]) (show Kn _ fun M=>Cd.At M y2_ from knA) (Sees.le (Sees.rsH _) Zj) ⟨by simp;omega,by simp;omega⟩) ?_
      rintro _ _ ⟨y3_,rfl,rfl,hI3,hL3⟩
      refine ⟨trivial,?_⟩
      refine Yr 8 ?_
     rotate_left
     focus
      replace hR:lnd (C2++ [Qf slot loc]) ln=R:=hR
      refine xx 12 ?_;refine kx 62 5 ?_;refine X.kt 62 ?_;refine xx 2 ?_;refine drw ?_;refine Yw 0 ?_;refine dl [1] 2 ?_;refine dl [3] 4 ?_;refine dd [6] ?_;refine Yj 5 call158 (Le.refl _) (C4 (sl:=slot) (lo:=loc)) ?_
      rintro _ _ ⟨gi,rfl,rfl⟩
      refine ⟨hlA,?_⟩
      refine Yj 7 call63 (Le.refl _) (Y7 (x:=y2_) (l:= [Qf slot loc]) (show Kn _ fun M=>Cd.At M y2_ from knA) (Sees.le (Sees.rsH _) Zj) ⟨by simp;omega,by simp;omega⟩) ?_
      rintro _ _ ⟨y3_,rfl,rfl,hI3,hL3⟩
      refine ⟨trivial,?_⟩
      refine Yr 8 ?_
     rotate_left
     focus
      replace hR:lnd (C2++ [⟨7,slot,0,0⟩]) ln=R:=hR
      refine xx 12 ?_;refine kx 62 5 ?_;refine kx 62 6 ?_;refine X.kt 73 ?_;refine xx 2 ?_;refine drw ?_;refine Yw 0 ?_;refine dl [1] 2 ?_;refine dd [5] ?_;refine Z8 3 call64 (Yf) ?_;refine XD.ef 4 rfl (Z6 Zx [⟨7,slot,0,0⟩] underlying32 Za rfl rfl (fun _=>rfl) rfl rfl rfl rfl) ?_
      rintro _ _ ⟨gl,rfl,rfl⟩
      refine ⟨hlA,?_⟩
      refine Yj 6 call63 (Le.refl _) (Y7 (x:=y2_) (l:= [⟨7,slot,0,0⟩]) (show Kn _ fun M=>Cd.At M y2_ from knA) (Sees.le (Sees.rsH _) Zj) ⟨by simp;omega,by simp;omega⟩) ?_
      rintro _ _ ⟨y3_,rfl,rfl,hI3,hL3⟩
      refine ⟨trivial,?_⟩
      refine Yr 7 ?_
     rotate_left
     · obtain ⟨B,hB1⟩: ∃ B,PStm.codes g.main (Zk body) (t+(C2.length:Int)+1)=B:=⟨_,rfl⟩;have hBl:B.length≤Ze (Zk body):=(by rw [←hB1];exact Y9 _ _ _);have hszb:Z0 body<Stm.sz (.mk 4 ln cl nm wt (.mk k1 z1 s1 l1 o1 p1 y1 u1 w1) (.mk k2 z2 s2 l2 o2 p2 y2 u2 w2) body els ba bc ea ec id slot other loc):=(by simp only [Stm.sz];omega);have hsze:Z0 els<Stm.sz (.mk 4 ln cl nm wt (.mk k1 z1 s1 l1 o1 p1 y1 u1 w1) (.mk k2 z2 s2 l2 o2 p2 y2 u2 w2) body els ba bc ea ec id slot other loc):=(by simp only [Stm.sz];omega)
       obtain ⟨O,hO1⟩: ∃ O,PStm.codes g.main (Zk els) (t+(C2.length:Int)+1+(B.length:Int)+1)=O:=⟨_,rfl⟩;have hOl:O.length≤Ze (Zk els):=(by rw [←hO1];exact Y9 _ _ _)
       replace hR:(if Zk els= [] then lnd (C2++ [⟨20,t+(C2.length:Int)+1+((PStm.codes g.main (Zk body) (t+(C2.length:Int)+1)).length:Int),0,0⟩]) ln++PStm.codes g.main (Zk body) (t+(C2.length:Int)+1) else lnd (C2++ [⟨20,t+(C2.length:Int)+1+((PStm.codes g.main (Zk body) (t+(C2.length:Int)+1)).length:Int)+1,0,0⟩]) ln++PStm.codes g.main (Zk body) (t+(C2.length:Int)+1)++lnd [⟨19,t+(C2.length:Int)+1+((PStm.codes g.main (Zk body) (t+(C2.length:Int)+1)).length:Int)+1+((PStm.codes g.main (Zk els) (t+(C2.length:Int)+1+((PStm.codes g.main (Zk body) (t+(C2.length:Int)+1)).length:Int)+1)).length:Int),0,0⟩] ln++PStm.codes g.main (Zk els) (t+(C2.length:Int)+1+((PStm.codes g.main (Zk body) (t+(C2.length:Int)+1)).length:Int)+1))=R:=hR;rw [hB1] at hR;rw [hO1] at hR
       refine xx 12 ?_;refine kx 62 5 ?_;refine kx 62 6 ?_;refine kx 73 6 ?_;refine X.kt 82 ?_;refine xo 3 ?_;refine ldA ?_;refine ol 1 ?_;refine ol 2 ?_;refine oo 3 ?_;refine Zh call62 (Le.refl _) (IH body ba bc hszb (t:=(t+(y2_.I.l.length:Int)+1)) (Kn.le hB) hf5 (by omega)) ?_
       rintro _ _ ⟨yb_,rfl,rfl,hIb,hLb⟩
       rw [hIm,hB1] at hIb hLb;have hIbl:yb_.I.l.length=B.length:=(by rw [hIb,List.length_map]);have hLbl:yb_.L.l.length=B.length:=(by rw [hLb,List.length_map])
       refine Zm zeroValue139 fun n5=> ?_
       refine stA ?_;refine ol 5 ?_;refine ol 4 ?_;refine ol 8 ?_;refine ox 3 ?_;refine X.part 107 rfl (fun h2=> ?_) (fun h2=> ?_)
       · replace h2:=sp h2
         refine xx 2 ?_;refine drw ?_;refine Yw 0 ?_;refine dd [1,4] ?_;refine Yw 6 ?_;refine Z8 2 call64 (Yf) ?_;refine XD.ef 3 rfl (Z6 Zx [⟨20,(t+(y2_.I.l.length:Int)+1)+(yb_.I.l.length:Int),0,0⟩] underlying32 Za rfl rfl (fun _=>rfl) rfl rfl rfl rfl) ?_
         rintro _ _ ⟨gl0,rfl,rfl⟩
         refine ⟨hlA,?_⟩
         refine Yj 5 call63 (Le.refl _) (Y7 (x:=y2_) (l:= [⟨20,(t+(y2_.I.l.length:Int)+1)+(yb_.I.l.length:Int),0,0⟩]) (show Kn _ fun M=>Cd.At M y2_ from knA) (Sees.le (Sees.rsH _) Zj) ⟨by simp;omega,by simp;omega⟩) ?_
         rintro _ _ ⟨y3_,rfl,rfl,hI3,hL3⟩
         refine ⟨hlA,?_⟩
         have hIl3:y3_.I.l.length=C2.length+1:=(by rw [hI3,List.length_append,hIm];rfl);have hLl3:y3_.L.l.length=C2.length+1:=(by rw [hL3,List.length_append,List.length_replicate,hLm];rfl)
         refine Yj 7 call106 (Le.refl _) (Rt (x:=y3_) (z:=yb_) (show Kn _ fun M=>Cd.At M y3_ from knA) (show Kn _ fun M=>Cd.At M yb_ from knA) ⟨by omega,by omega⟩) ?_
         rintro _ _ ⟨y4_,rfl,rfl,hI4,hL4⟩
         refine ⟨trivial,?_⟩
         have hIl4:y4_.I.l.length=C2.length+1+B.length:=(by rw [hI4,List.length_append,hIl3,hIbl]);have hLl4:y4_.L.l.length=C2.length+1+B.length:=(by rw [hL4,List.length_append,hLl3,hLbl])
         refine Yr 8 ?_;refine XD.nil ?_
         have he:els= []:=List.eq_nil_of_length_eq_zero (by omega);rw [if_pos (by rw [he];rfl)] at hR
         refine Zq (ckM y4_::q) func107 (rA_ results107) ⟨_,rfl,y4_,rfl,rfl,by rw [←hR,hI4,hI3,hI2,hIb];simp only [List.map_append,Wg,Ja,List.append_assoc,List.length_append,List.length_cons,List.length_nil,List.length_map,Nat.zero_add,N2],by rw [←hR,hL4,hL3,hL2,hLb,hIm];simp only [List.map_append,Wg,Ja,List.append_assoc,List.length_append,List.length_cons,List.length_nil,List.length_map,Nat.zero_add,N2]⟩
       replace h2:=sp h2
       refine xo 4 ?_;refine ldA ?_;refine ol 1 ?_;refine oo 2 ?_
       have hne: ¬Zk els= []:=(fun e=>by have h9:=congrArg List.length e;rw [Jy] at h9;simp at h9;subst h9;simp at h2);rw [if_neg hne] at hR
       refine Zh call62 (Le.refl _) (IH els ea ec hsze (t:=(t+(y2_.I.l.length:Int)+1)+(yb_.I.l.length:Int)+1) (Kn.le hL) hf6 (by omega)) ?_
       rintro _ _ ⟨yo_,rfl,rfl,hIo,hLo⟩
       rw [hIm,hIbl,hO1] at hIo hLo;have hIol:yo_.I.l.length=O.length:=(by rw [hIo,List.length_map]);have hLol:yo_.L.l.length=O.length:=(by rw [hLo,List.length_map])
       refine Zm zeroValue139 fun n6=> ?_
       refine stA ?_;refine ox 2 ?_;refine drw ?_;refine Yw 0 ?_;refine dd [1,2,5] ?_;refine Yw 7 ?_;refine Z8 3 call64 (Yf) ?_;refine XD.ef 4 rfl (Z6 Zx [⟨20,(t+(y2_.I.l.length:Int)+1)+(yb_.I.l.length:Int)+1,0,0⟩] underlying32 Za rfl rfl (fun _=>rfl) rfl rfl rfl rfl) ?_
       rintro _ _ ⟨gl0,rfl,rfl⟩
       refine ⟨hlA,?_⟩
       refine Yj 6 call63 (Le.refl _) (Y7 (x:=y2_) (l:= [⟨20,(t+(y2_.I.l.length:Int)+1)+(yb_.I.l.length:Int)+1,0,0⟩]) (show Kn _ fun M=>Cd.At M y2_ from knA) (Sees.le (Sees.rsH _) Zj) ⟨by simp;omega,by simp;omega⟩) ?_
       rintro _ _ ⟨y3_,rfl,rfl,hI3,hL3⟩
       refine ⟨hlA,?_⟩
       have hIl3:y3_.I.l.length=C2.length+1:=(by rw [hI3,List.length_append,hIm];rfl);have hLl3:y3_.L.l.length=C2.length+1:=(by rw [hL3,List.length_append,List.length_replicate,hLm];rfl)
       refine Yj 8 call106 (Le.refl _) (Rt (x:=y3_) (z:=yb_) (show Kn _ fun M=>Cd.At M y3_ from knA) (show Kn _ fun M=>Cd.At M yb_ from knA) ⟨by omega,by omega⟩) ?_
       rintro _ _ ⟨y4_,rfl,rfl,hI4,hL4⟩
       refine ⟨trivial,?_⟩
       have hIl4:y4_.I.l.length=C2.length+1+B.length:=(by rw [hI4,List.length_append,hIl3,hIbl]);have hLl4:y4_.L.l.length=C2.length+1+B.length:=(by rw [hL4,List.length_append,hLl3,hLbl])
       refine Yr 9 ?_;refine XD.nil ?_;refine xx 1 ?_;refine drw ?_;refine Yw 0 ?_;refine dl [1,2,3] 4 ?_;refine dd [5,6,9] ?_;refine Yw 11 ?_;refine Z8 7 call64 (Yf) ?_;refine XD.ef 8 rfl (Z6 Zx [⟨19,(t+(y2_.I.l.length:Int)+1)+(yb_.I.l.length:Int)+1+(yo_.I.l.length:Int),0,0⟩] underlying32 Za rfl rfl (fun _=>rfl) rfl rfl rfl rfl) ?_
       rintro _ _ ⟨gl1,rfl,rfl⟩
       refine ⟨hlA,?_⟩
       refine Yj 10 call63 (Le.refl _) (Y7 (x:=y4_) (l:= [⟨19,(t+(y2_.I.l.length:Int)+1)+(yb_.I.l.length:Int)+1+(yo_.I.l.length:Int),0,0⟩]) (show Kn _ fun M=>Cd.At M y4_ from knA) (Sees.le (Sees.rsH _) Zj) ⟨by simp;omega,by simp;omega⟩) ?_
       rintro _ _ ⟨y5_,rfl,rfl,hI5,hL5⟩
       refine ⟨hlA,?_⟩
       have hIl5:y5_.I.l.length=C2.length+1+B.length+1:=(by rw [hI5,List.length_append,hIl4];rfl);have hLl5:y5_.L.l.length=C2.length+1+B.length+1:=(by rw [hL5,List.length_append,List.length_replicate,hLl4];rfl)
       refine Yj 12 call106 (Le.refl _) (Rt (x:=y5_) (z:=yo_) (show Kn _ fun M=>Cd.At M y5_ from knA) (show Kn _ fun M=>Cd.At M yo_ from knA) ⟨by omega,by omega⟩) ?_
       rintro _ _ ⟨y7_,rfl,rfl,hI7,hL7⟩
       refine ⟨hlA,?_⟩
       refine Yr 13 ?_;refine XD.nil ?_;refine Zq (ckM y7_::q) func107 (rA_ results107) ⟨_,rfl,y7_,rfl,rfl,by rw [←hR,hI7,hI5,hI4,hI3,hI2,hIo,hIb];simp only [List.map_append,Wg,Ja,List.append_assoc,List.length_append,List.length_cons,List.length_nil,List.length_map,Nat.zero_add,N2],by rw [←hR,hL7,hL5,hL4,hL3,hL2,hLo,hLb,hIm];simp only [List.map_append,Wg,Ja,List.append_assoc,List.length_append,List.length_cons,List.length_nil,List.length_map,Nat.zero_add,N2]⟩
     · obtain ⟨B,hB1⟩: ∃ B,PStm.codes g.main (Zk body) (t+(C2.length:Int)+1)=B:=⟨_,rfl⟩;have hBl:B.length≤Ze (Zk body):=(by rw [←hB1];exact Y9 _ _ _);have hszb:Z0 body<Stm.sz (.mk 5 ln cl nm wt (.mk k1 z1 s1 l1 o1 p1 y1 u1 w1) (.mk k2 z2 s2 l2 o2 p2 y2 u2 w2) body els ba bc ea ec id slot other loc):=(by simp only [Stm.sz];omega);have hsze:Z0 els<Stm.sz (.mk 5 ln cl nm wt (.mk k1 z1 s1 l1 o1 p1 y1 u1 w1) (.mk k2 z2 s2 l2 o2 p2 y2 u2 w2) body els ba bc ea ec id slot other loc):=(by simp only [Stm.sz];omega)
       replace hR:lnd (C2++ [⟨20,t+(C2.length:Int)+1+((PStm.codes g.main (Zk body) (t+(C2.length:Int)+1)).length:Int)+1,0,0⟩]) ln++PStm.codes g.main (Zk body) (t+(C2.length:Int)+1)++lnd [⟨19,t,0,0⟩] ln=R:=hR;rw [hB1] at hR
       refine xx 12 ?_;refine kx 62 5 ?_;refine kx 62 6 ?_;refine kx 73 6 ?_;refine kx 82 6 ?_;refine X.kt 144 ?_;refine xo 3 ?_;refine ldA ?_;refine ol 1 ?_;refine ol 2 ?_;refine oo 3 ?_;refine Zh call62 (Le.refl _) (IH body ba bc hszb (t:=(t+(y2_.I.l.length:Int)+1)) (Kn.le hB) hf5 (by omega)) ?_
       rintro _ _ ⟨yb_,rfl,rfl,hIb,hLb⟩
       rw [hIm,hB1] at hIb hLb;have hIbl:yb_.I.l.length=B.length:=(by rw [hIb,List.length_map]);have hLbl:yb_.L.l.length=B.length:=(by rw [hLb,List.length_map])
       refine Zm zeroValue139 fun n5=> ?_
       refine stA ?_;refine ol 5 ?_;refine ol 4 ?_;refine ox 6 ?_;refine drw ?_;refine Yw 0 ?_;refine dd [1,4] ?_;refine Yw 6 ?_;refine dd [8,11] ?_;refine Z8 2 call64 (Yf) ?_;refine XD.ef 3 rfl (Z6 Zx [⟨20,(t+(y2_.I.l.length:Int)+1)+(yb_.I.l.length:Int)+1,0,0⟩] underlying32 Za rfl rfl (fun _=>rfl) rfl rfl rfl rfl) ?_
       rintro _ _ ⟨gl0,rfl,rfl⟩
       refine ⟨hlA,?_⟩
       refine Yj 5 call63 (Le.refl _) (Y7 (x:=y2_) (l:= [⟨20,(t+(y2_.I.l.length:Int)+1)+(yb_.I.l.length:Int)+1,0,0⟩]) (show Kn _ fun M=>Cd.At M y2_ from knA) (Sees.le (Sees.rsH _) Zj) ⟨by simp;omega,by simp;omega⟩) ?_
       rintro _ _ ⟨y3_,rfl,rfl,hI3,hL3⟩
       refine ⟨hlA,?_⟩
       have hIl3:y3_.I.l.length=C2.length+1:=(by rw [hI3,List.length_append,hIm];rfl);have hLl3:y3_.L.l.length=C2.length+1:=(by rw [hL3,List.length_append,List.length_replicate,hLm];rfl)
       refine Yj 7 call106 (Le.refl _) (Rt (x:=y3_) (z:=yb_) (show Kn _ fun M=>Cd.At M y3_ from knA) (show Kn _ fun M=>Cd.At M yb_ from knA) ⟨by omega,by omega⟩) ?_
       rintro _ _ ⟨y4_,rfl,rfl,hI4,hL4⟩
       refine ⟨trivial,?_⟩
       have hIl4:y4_.I.l.length=C2.length+1+B.length:=(by rw [hI4,List.length_append,hIl3,hIbl]);have hLl4:y4_.L.l.length=C2.length+1+B.length:=(by rw [hL4,List.length_append,hLl3,hLbl])
       refine Z8 9 call64 (Yf) ?_;refine XD.ef 10 rfl (Z6 Zx [⟨19,t,0,0⟩] underlying32 Za rfl rfl (fun _=>rfl) rfl rfl rfl rfl) ?_
       rintro _ _ ⟨gl1,rfl,rfl⟩
       refine ⟨trivial,?_⟩
       refine Yj 12 call63 (Le.refl _) (Y7 (x:=y4_) (l:= [⟨19,t,0,0⟩]) (show Kn _ fun M=>Cd.At M y4_ from knA) (Sees.le (Sees.rsH _) Zj) ⟨by simp;omega,by simp;omega⟩) ?_
       rintro _ _ ⟨y5_,rfl,rfl,hI5,hL5⟩
       refine ⟨trivial,?_⟩
       have hIl5:y5_.I.l.length=C2.length+1+B.length+1:=(by rw [hI5,List.length_append,hIl4];rfl);have hLl5:y5_.L.l.length=C2.length+1+B.length+1:=(by rw [hL5,List.length_append,List.length_replicate,hLl4];rfl)
       refine Yr 13 ?_;refine XD.nil ?_;refine Zq (ckM y5_::q) func107 (rA_ results107) ⟨_,rfl,y5_,rfl,rfl,by rw [←hR,hI5,hI4,hI3,hI2,hIb];simp only [List.map_append,Wg,Ja,List.append_assoc,List.length_append,List.length_cons,List.length_nil,List.length_map,Nat.zero_add,N2],by rw [←hR,hL5,hL4,hL3,hL2,hLb,hIm];simp only [List.map_append,Wg,Ja,List.append_assoc,List.length_append,List.length_cons,List.length_nil,List.length_map,Nat.zero_add,N2]⟩
     focus
      replace hR:lnd (C2++ [⟨24,slot,0,0⟩]) ln=R:=hR
      refine xx 12 ?_;refine kx 62 5 ?_;refine kx 62 6 ?_;refine kx 73 6 ?_;refine kx 82 6 ?_;refine kx 144 6 ?_;refine X.kt 180 ?_;refine xx 2 ?_;refine drw ?_;refine Yw 0 ?_;refine dl [1] 2 ?_;refine dd [5] ?_;refine Z8 3 call64 (Yf) ?_;refine XD.ef 4 rfl (Z6 Zx [⟨24,slot,0,0⟩] underlying32 Za rfl rfl (fun _=>rfl) rfl rfl rfl rfl) ?_
      rintro _ _ ⟨gl,rfl,rfl⟩
      refine ⟨hlA,?_⟩
      refine Yj 6 call63 (Le.refl _) (Y7 (x:=y2_) (l:= [⟨24,slot,0,0⟩]) (show Kn _ fun M=>Cd.At M y2_ from knA) (Sees.le (Sees.rsH _) Zj) ⟨by simp;omega,by simp;omega⟩) ?_
      rintro _ _ ⟨y3_,rfl,rfl,hI3,hL3⟩
      refine ⟨trivial,?_⟩
      refine Yr 7 ?_
     rotate_left
     focus
      replace hR:lnd (C2++ [⟨25,slot,0,0⟩]) ln=R:=hR
      refine xx 12 ?_;refine kx 62 5 ?_;refine kx 62 6 ?_;refine kx 73 6 ?_;refine kx 82 6 ?_;refine kx 144 6 ?_;refine kx 180 6 ?_;refine X.kt 189 ?_;refine xx 2 ?_;refine drw ?_;refine Yw 0 ?_;refine dl [1] 2 ?_;refine dd [5] ?_;refine Z8 3 call64 (Yf) ?_;refine XD.ef 4 rfl (Z6 Zx [⟨25,slot,0,0⟩] underlying32 Za rfl rfl (fun _=>rfl) rfl rfl rfl rfl) ?_
      rintro _ _ ⟨gl,rfl,rfl⟩
      refine ⟨hlA,?_⟩
      refine Yj 6 call63 (Le.refl _) (Y7 (x:=y2_) (l:= [⟨25,slot,0,0⟩]) (show Kn _ fun M=>Cd.At M y2_ from knA) (Sees.le (Sees.rsH _) Zj) ⟨by simp;omega,by simp;omega⟩) ?_
      rintro _ _ ⟨y3_,rfl,rfl,hI3,hL3⟩
      refine ⟨trivial,?_⟩
      refine Yr 7 ?_
     rotate_left
     focus
      replace hR:lnd (C2++ [⟨26,slot,other,0⟩]) ln=R:=hR
      refine xx 12 ?_;refine kx 62 5 ?_;refine kx 62 6 ?_;refine kx 73 6 ?_;refine kx 82 6 ?_;refine kx 144 6 ?_;refine kx 180 6 ?_;refine kx 189 6 ?_;refine X.kt 198 ?_;refine xx 2 ?_;refine drw ?_;refine Yw 0 ?_;refine dl [1] 2 ?_;refine dl [3] 4 ?_;refine dd [7] ?_;refine Z8 5 call64 (Yf) ?_;refine XD.ef 6 rfl (Z6 Zx [⟨26,slot,other,0⟩] underlying32 Za rfl rfl (fun _=>rfl) rfl rfl rfl rfl) ?_
      rintro _ _ ⟨gl,rfl,rfl⟩
      refine ⟨hlA,?_⟩
      refine Yj 8 call63 (Le.refl _) (Y7 (x:=y2_) (l:= [⟨26,slot,other,0⟩]) (show Kn _ fun M=>Cd.At M y2_ from knA) (Sees.le (Sees.rsH _) Zj) ⟨by simp;omega,by simp;omega⟩) ?_
      rintro _ _ ⟨y3_,rfl,rfl,hI3,hL3⟩
      refine ⟨trivial,?_⟩
      refine Yr 9 ?_
     rotate_left
     focus
      replace hR:lnd (C2++ [⟨27,slot,0,0⟩]) ln=R:=hR
      refine xx 12 ?_;refine kx 62 5 ?_;refine kx 62 6 ?_;refine kx 73 6 ?_;refine kx 82 6 ?_;refine kx 144 6 ?_;refine kx 180 6 ?_;refine kx 189 6 ?_;refine kx 198 6 ?_;refine X.kt 209 ?_;refine xx 2 ?_;refine drw ?_;refine Yw 0 ?_;refine dl [1] 2 ?_;refine dd [5] ?_;refine Z8 3 call64 (Yf) ?_;refine XD.ef 4 rfl (Z6 Zx [⟨27,slot,0,0⟩] underlying32 Za rfl rfl (fun _=>rfl) rfl rfl rfl rfl) ?_
      rintro _ _ ⟨gl,rfl,rfl⟩
      refine ⟨hlA,?_⟩
      refine Yj 6 call63 (Le.refl _) (Y7 (x:=y2_) (l:= [⟨27,slot,0,0⟩]) (show Kn _ fun M=>Cd.At M y2_ from knA) (Sees.le (Sees.rsH _) Zj) ⟨by simp;omega,by simp;omega⟩) ?_
      rintro _ _ ⟨y3_,rfl,rfl,hI3,hL3⟩
      refine ⟨trivial,?_⟩
      refine Yr 7 ?_
     rotate_left
     focus
      replace hR:lnd (C2++ [⟨28,slot,0,0⟩]) ln=R:=hR
      refine xx 12 ?_;refine kx 62 5 ?_;refine kx 62 6 ?_;refine kx 73 6 ?_;refine kx 82 6 ?_;refine kx 144 6 ?_;refine kx 180 6 ?_;refine kx 189 6 ?_;refine kx 198 6 ?_;refine kx 209 6 ?_;refine X.kt 218 ?_;refine xx 2 ?_;refine drw ?_;refine Yw 0 ?_;refine dl [1] 2 ?_;refine dd [5] ?_;refine Z8 3 call64 (Yf) ?_;refine XD.ef 4 rfl (Z6 Zx [⟨28,slot,0,0⟩] underlying32 Za rfl rfl (fun _=>rfl) rfl rfl rfl rfl) ?_
      rintro _ _ ⟨gl,rfl,rfl⟩
      refine ⟨hlA,?_⟩
      refine Yj 6 call63 (Le.refl _) (Y7 (x:=y2_) (l:= [⟨28,slot,0,0⟩]) (show Kn _ fun M=>Cd.At M y2_ from knA) (Sees.le (Sees.rsH _) Zj) ⟨by simp;omega,by simp;omega⟩) ?_
      rintro _ _ ⟨y3_,rfl,rfl,hI3,hL3⟩
      refine ⟨trivial,?_⟩
      refine Yr 7 ?_
     rotate_left
     focus
      replace hR:lnd (C2++ [⟨29,slot,0,0⟩]) ln=R:=hR
      refine xx 12 ?_;refine kx 62 5 ?_;refine kx 62 6 ?_;refine kx 73 6 ?_;refine kx 82 6 ?_;refine kx 144 6 ?_;refine kx 180 6 ?_;refine kx 189 6 ?_;refine kx 198 6 ?_;refine kx 209 6 ?_;refine kx 218 6 ?_;refine X.kt 227 ?_;refine xx 2 ?_;refine drw ?_;refine Yw 0 ?_;refine dl [1] 2 ?_;refine dd [5] ?_;refine Z8 3 call64 (Yf) ?_;refine XD.ef 4 rfl (Z6 Zx [⟨29,slot,0,0⟩] underlying32 Za rfl rfl (fun _=>rfl) rfl rfl rfl rfl) ?_
      rintro _ _ ⟨gl,rfl,rfl⟩
      refine ⟨hlA,?_⟩
      refine Yj 6 call63 (Le.refl _) (Y7 (x:=y2_) (l:= [⟨29,slot,0,0⟩]) (show Kn _ fun M=>Cd.At M y2_ from knA) (Sees.le (Sees.rsH _) Zj) ⟨by simp;omega,by simp;omega⟩) ?_
      rintro _ _ ⟨y3_,rfl,rfl,hI3,hL3⟩
      refine ⟨trivial,?_⟩
      refine Yr 7 ?_
     rotate_left
     · replace hR:lnd (C2++ [⟨30,slot,0,0⟩,Qf other loc]) ln=R:=hR
       refine xx 12 ?_;refine kx 62 5 ?_;refine kx 62 6 ?_;refine kx 73 6 ?_;refine kx 82 6 ?_;refine kx 144 6 ?_;refine kx 180 6 ?_;refine kx 189 6 ?_;refine kx 198 6 ?_;refine kx 209 6 ?_;refine kx 218 6 ?_;refine kx 227 6 ?_;refine X.kt 236 ?_;refine xx 2 ?_;refine drw ?_;refine Yw 0 ?_;refine dl [1] 2 ?_;refine dl [5,7] 8 ?_;refine dl [9] 10 ?_;refine dd [12] ?_;refine Z8 3 call64 (Yf) ?_;refine XD.ef 4 rfl (Z6 Zx [⟨30,slot,0,0⟩] underlying32 Za rfl rfl (fun _=>rfl) rfl rfl rfl rfl) ?_
       rintro _ _ ⟨gl,rfl,rfl⟩
       refine ⟨hlA,?_⟩
       refine Yj 6 call63 (Le.refl _) (Y7 (x:=y2_) (l:= [⟨30,slot,0,0⟩]) (show Kn _ fun M=>Cd.At M y2_ from knA) (Sees.le (Sees.rsH _) Zj) ⟨by simp;omega,by simp;omega⟩) ?_
       rintro _ _ ⟨y3_,rfl,rfl,hI3,hL3⟩
       refine ⟨hlA,?_⟩
       refine Yj 11 call158 (Le.refl _) (C4 (sl:=other) (lo:=loc)) ?_
       rintro _ _ ⟨gi,rfl,rfl⟩
       refine ⟨trivial,?_⟩
       refine Yj 13 call63 (Le.refl _) (Y7 (x:=y3_) (l:= [Qf other loc]) (show Kn _ fun M=>Cd.At M y3_ from knA) (Sees.le (Sees.rsH _) Zj) ⟨by rw [hI3,List.length_append];simp;omega,by rw [hL3,List.length_append];simp;omega⟩) ?_
       rintro _ _ ⟨y4_,rfl,rfl,hI4,hL4⟩
       refine ⟨trivial,?_⟩
       refine Yr 14 ?_;refine XD.nil ?_;refine Zq (ckM y4_::q) func107 (rA_ results107) ⟨_,rfl,y4_,rfl,rfl,by rw [←hR,Wg,hI4,hI3,hI2,List.append_assoc];rfl,by rw [←hR,Ja,hL4,hL3,hL2,hIm,List.append_assoc,List.replicate_append_replicate,List.replicate_append_replicate,List.length_append];rfl⟩
     focus
      replace hR:lnd (C2++ [⟨31,Bv g.main slot,0,0⟩]) ln=R:=hR
      refine xx 12 ?_;refine kx 62 5 ?_;refine kx 62 6 ?_;refine kx 73 6 ?_;refine kx 82 6 ?_;refine kx 144 6 ?_;refine kx 180 6 ?_;refine kx 189 6 ?_;refine kx 198 6 ?_;refine kx 209 6 ?_;refine kx 218 6 ?_;refine kx 227 6 ?_;refine kx 236 6 ?_;refine X.kt 252 ?_;refine xx 2 ?_;refine drw ?_;refine Yw 0 ?_;refine Yw 1 ?_;refine dl [2] 3 ?_;refine dd [7] ?_;refine Z8 4 call159 (Zqe (g:=g) (sl:=slot) (hf4 rfl)) ?_
      refine Z8 5 call64 (Yf) ?_;refine XD.ef 6 rfl (Z6 Zx [⟨31,Bv g.main slot,0,0⟩] underlying32 Za rfl rfl (fun _=>rfl) rfl rfl rfl rfl) ?_
      rintro _ _ ⟨gl,rfl,rfl⟩
      refine ⟨hlA,?_⟩
      refine Yj 8 call63 (Le.refl _) (Y7 (x:=y2_) (l:= [⟨31,Bv g.main slot,0,0⟩]) (show Kn _ fun M=>Cd.At M y2_ from knA) (Sees.le (Sees.rsH _) Zj) ⟨by simp;omega,by simp;omega⟩) ?_
      rintro _ _ ⟨y3_,rfl,rfl,hI3,hL3⟩
      refine ⟨trivial,?_⟩
      refine Yr 9 ?_
     rotate_left
     focus
      replace hR:lnd (C2++ [⟨32,0,0,0⟩]) ln=R:=hR
      refine xx 12 ?_;refine kx 62 5 ?_;refine kx 62 6 ?_;refine kx 73 6 ?_;refine kx 82 6 ?_;refine kx 144 6 ?_;refine kx 180 6 ?_;refine kx 189 6 ?_;refine kx 198 6 ?_;refine kx 209 6 ?_;refine kx 218 6 ?_;refine kx 227 6 ?_;refine kx 236 6 ?_;refine kx 252 6 ?_;refine X.kt 263 ?_;refine xx 2 ?_;refine drw ?_;refine Yw 0 ?_;refine dd [3] ?_;refine Z8 1 call64 (Yf) ?_;refine XD.ef 2 rfl (Z6 Zx [⟨32,0,0,0⟩] underlying32 Za rfl rfl (fun _=>rfl) rfl rfl rfl rfl) ?_
      rintro _ _ ⟨gl,rfl,rfl⟩
      refine ⟨hlA,?_⟩
      refine Yj 4 call63 (Le.refl _) (Y7 (x:=y2_) (l:= [⟨32,0,0,0⟩]) (show Kn _ fun M=>Cd.At M y2_ from knA) (Sees.le (Sees.rsH _) Zj) ⟨by simp;omega,by simp;omega⟩) ?_
      rintro _ _ ⟨y3_,rfl,rfl,hI3,hL3⟩
      refine ⟨trivial,?_⟩
      refine Yr 5 ?_
     rotate_left
     focus
      replace hR:lnd (C2++ [⟨33,0,0,0⟩]) ln=R:=hR
      refine xx 12 ?_;refine kx 62 5 ?_;refine kx 62 6 ?_;refine kx 73 6 ?_;refine kx 82 6 ?_;refine kx 144 6 ?_;refine kx 180 6 ?_;refine kx 189 6 ?_;refine kx 198 6 ?_;refine kx 209 6 ?_;refine kx 218 6 ?_;refine kx 227 6 ?_;refine kx 236 6 ?_;refine kx 252 6 ?_;refine kx 263 4 ?_;refine drw ?_;refine Yw 0 ?_;refine dd [3] ?_;refine Z8 1 call64 (Yf) ?_;refine XD.ef 2 rfl (Z6 Zx [⟨33,0,0,0⟩] underlying32 Za rfl rfl (fun _=>rfl) rfl rfl rfl rfl) ?_
      rintro _ _ ⟨gl,rfl,rfl⟩
      refine ⟨hlA,?_⟩
      refine Yj 4 call63 (Le.refl _) (Y7 (x:=y2_) (l:= [⟨33,0,0,0⟩]) (show Kn _ fun M=>Cd.At M y2_ from knA) (Sees.le (Sees.rsH _) Zj) ⟨by simp;omega,by simp;omega⟩) ?_
      rintro _ _ ⟨y3_,rfl,rfl,hI3,hL3⟩
      refine ⟨trivial,?_⟩
      refine Yr 5 ?_
     all_goals
      refine XD.nil ?_;refine Zq (ckM y3_::q) func107 (rA_ results107) ⟨_,rfl,y3_,rfl,rfl,by rw [←hR,Wg,hI3,hI2],by rw [←hR,Ja,hL3,hL2,hIm,List.replicate_append_replicate,List.length_append]⟩
   have hke:k≤5∨k=11∨k=15∨ ¬ (k≤5∨k=11∨k=15):=by omega
   rcases hke with hke|rfl|rfl|hke
   focus
    refine xo 5 ?_;refine XO.kt 42 ?_;refine ox 9 ?_
   rotate_left
   focus
    refine xo 5 ?_;refine Y4 42 ?_;refine oo 4 ?_;refine XO.kt 46 ?_;refine ox 5 ?_
   rotate_left
   focus
    refine xo 5 ?_;refine Y4 42 ?_;refine oo 4 ?_;refine Y4 46 ?_;refine ox 4 ?_;refine X.kt 49 ?_;refine xx 1 ?_
   rotate_left
   · refine xo 5 ?_;refine Y4 42 ?_;refine oo 4 ?_;refine Y4 46 ?_;refine ox 4 ?_;refine kx 49 2 ?_;exact X.at (K2 y1_ ⟨by rw [hC3,if_neg (by omega),hI1],hL1⟩) Zp leA
   all_goals
    refine drw ?_;refine Yw 0 ?_;refine dd [1] ?_;refine Yw 2 ?_;refine dl [3,4] 5 ?_;refine dd [6,7,9] ?_;refine Yj 8 call157 (Le.refl _) (Av _ (.mk k1 z1 s1 l1 o1 p1 y1 u1 w1) (Nat.le_refl _) (t:=(t+y1_.I.l.length)) (Kn.le hE) (hf2 (by omega)) (by rw [←Ul];omega)) ?_
    rintro _ _ ⟨xa,xc,rfl,rfl⟩
    refine ⟨hlA,?_⟩
    refine Yj 10 call63 (Le.refl _) (Y7 (x:=y1_) (l:=(Ex.er (.mk k1 z1 s1 l1 o1 p1 y1 u1 w1)).code (t+y1_.I.l.length)) (show Kn _ fun M=>Cd.At M y1_ from knA) (Sees.le (Sees.rsH _) Zj) (by rw [hIn];exact ⟨by omega,by omega⟩)) ?_
    rintro _ _ ⟨y2_,rfl,rfl,hI2,hL2⟩
    refine ⟨hlA,?_⟩
    refine Yr 11 ?_;refine XD.nil ?_;exact X.at (K2 y2_ ⟨by rw [hI2,hC3,if_pos (by omega),hI1],by rw [hL2,hL1,hI2,List.length_append,List.replicate_append_replicate]⟩) Zp leA
 have hk3:k=3∨ ¬k=3:=by omega
 rcases hk3 with rfl|hk3
 · refine xx 5 ?_;refine X.kt 28 ?_;refine xx 1 ?_;refine drw ?_;refine Yw 0 ?_;refine dd [1] ?_;refine Yw 2 ?_;refine dl [3,4] 5 ?_;refine dd [6,7,9] ?_;refine Yj 8 call157 (Le.refl _) (Av _ (.mk k2 z2 s2 l2 o2 p2 y2 u2 w2) (Nat.le_refl _) (t:=(t+y0.I.l.length)) (Kn.le hX) (hf3 rfl) (by rw [←Ul];omega)) ?_
   rintro _ _ ⟨xa,xc,rfl,rfl⟩
   refine ⟨hlA,?_⟩
   refine Yj 10 call63 (Le.refl _) (Y7 (x:=y0) (l:=(Ex.er (.mk k2 z2 s2 l2 o2 p2 y2 u2 w2)).code (t+y0.I.l.length)) (show Kn _ fun M=>Cd.At M y0 from knA) (Sees.le (Sees.rsH _) Zj) (by rw [hIl,hLl] at*;have hb9:=Yk (Ex.er (.mk k2 z2 s2 l2 o2 p2 y2 u2 w2)) (t+((1:Nat):Int));omega)) ?_
   rintro _ _ ⟨y1_,rfl,rfl,hI1,hL1⟩
   refine ⟨hlA,?_⟩
   refine Yr 11 ?_;refine XD.nil ?_;exact X.at (K y1_ ⟨by rw [hI1,hIl,←hC1,if_pos rfl,hI0];rfl,by rw [hL1,hL0,hI1,List.length_append,List.replicate_append_replicate]⟩) Zp leA
 refine xx 5 ?_;refine X.know 28 (.bool false) rfl (congrArg Value.bool (beq_eq_false_iff_ne.2 (by omega))) ?_
 refine xx 2 ?_;exact X.at (K y0 ⟨by rw [←hC1,if_neg hk3,hI0],hL0⟩) Zp leA
end
theorem Nu (m:Int): ∀ (l r:List PStm) (t:Int),PStm.codes m (l++r) t=PStm.codes m l t++PStm.codes m r (t+(PStm.codes m l t).length)
 | [],r,t=>by simp [PStm.codes]
 |s::l,r,t=>by
  have ih:=Nu m l r (t+((s.code m t).length:Int))
  simp only [List.cons_append,PStm.codes,ih,List.append_assoc,List.length_append]
  congr 3
  omega
theorem Mh: ∀ (l r:List PStm),Ze (l++r)=Ze l+Ze r
 | [],r=>by simp [Ze]
 |s::l,r=>by simp only [List.cons_append,Ze,Mh l r];omega
theorem Ra {m:List Stm}{s:Nat}(h:s<m.length):Zk (m.take (s+1))=Zk (m.take s)++ [m[s].er]:=by rw [List.take_succ_eq_append_getElem h,K1];rfl
theorem Tc {x:PStm}: ∀ {l:List PStm},PStm.fits l→x∈l→x.fit
 |y::r,⟨h1,h2⟩,h=>by
  rcases List.mem_cons.1 h with rfl|h
  · exact h1
  exact Tc h2 h
theorem Sq {m:List Stm}{s:Nat}(h:s<m.length):Ze (Zk (m.take s))+m[s].er.wt≤Ze (Zk m):=by
 have h1:Zk m=Zk (m.take (s+1))++Zk (m.drop (s+1)):=by rw [←K1,List.take_append_drop]
 rw [h1,Mh,Ra h,Mh]
 simp only [Ze];omega
def Wd (main:Int)(l:List PTh)(i:Nat):List PTh:=match l with
 | []=> []
 |t::r=>if (i:Int)=main then Wd main r (i+1) else t::Wd main r (i+1)
def Nk (F:Fnd):List PTh:=F.ths.getD F.main.toNat ⟨em,0, []⟩::Wd F.main F.ths 0
theorem Rv (main:Int): ∀ (l:List PTh) (i:Nat) (t:PTh),Wd main (l++ [t]) i=Wd main l i++(if ((i+l.length:Nat):Int)=main then [] else [t])
 | [],i,t=>by simp only [List.nil_append,Wd,List.length_nil,Nat.add_zero]
 |x::r,i,t=>by
  have ih:=Rv main r (i+1) t
  simp only [List.cons_append,Wd]
  have e:((i+1+r.length:Nat):Int)=((i+(x::r).length:Nat):Int):=by simp;omega
  simp only [e] at ih
  split
  · exact ih
  rw [ih,List.cons_append]
theorem B7 (main:Int): ∀ (l:List PTh) (i:Nat),(Wd main l i).length≤l.length
 | [],i=>Nat.le_refl _
 |x::r,i=>by have:=B7 main r (i+1);simp only [Wd];split<;>simp only [List.length_cons]<;>omega
def thP (main:Int)(t:PTh):ByteArray×Int×List Ins×List Int:=(t.nm,t.loc,(Vn main t).map Prod.fst,(Vn main t).map Prod.snd)
theorem B3 (main:Int)(t:PTh):(Vn main t).length≤Ze t.body+1:=by
 unfold Vn;rw [List.length_append,Vk];have:=Y9 main t.body 0;simp;omega
structure ModOf (F:Fnd) (m:Mdl):Prop where
 v:m.vars=F.vars
 a:m.arrays=F.arrs
 c:m.chans=F.chs
 mu:m.mutexes=F.mu
 co:m.conds=F.co
 t:m.threads.map (fun x=>(x.name,x.locals,x.ins,x.lines))=(Nk F).map (thP F.main)
theorem Jz (main:Int){x:PTh}: ∀ (l:List PTh) (i:Nat),x∈Wd main l i→x∈l
 |y::r,i,h=>by
  simp only [Wd] at h
  split at h
  · exact List.mem_cons_of_mem _ (Jz main r _ h)
  rcases List.mem_cons.1 h with rfl|h
  · exact List.mem_cons_self
  exact List.mem_cons_of_mem _ (Jz main r _ h)
theorem mods_b {l:List Th}{main:Int}{mn:Nat}{T:List Cod}(hn: ∀ x∈l,x.nm.size≤9223372036854775807)(ht: ∀ x∈l,Ze (Zk x.body)≤999999999)(hmn:mn<l.length)
 (h:T.map (fun x=>(x.name,x.locals,x.ins,x.lines))=thP main (l[mn]).er::(Wd main (l.map Th.er) 0).map (thP main)): ∀ x∈T,x.name.size≤9223372036854775807∧x.ins.length≤9223372036854775807∧x.lines.length≤9223372036854775807:=by
 intro x hx
 have h1:(fun x:Cod=>(x.name,x.locals,x.ins,x.lines)) x∈thP main (l[mn]).er::(Wd main (l.map Th.er) 0).map (thP main):=by rw [←h];exact List.mem_map_of_mem hx
 have h2: ∃ y∈l,(x.name,x.locals,x.ins,x.lines)=thP main y.er:=by
  rcases List.mem_cons.1 h1 with h1|h1
  · exact ⟨_,List.getElem_mem hmn,h1⟩
  obtain ⟨p,hp,e⟩:=List.mem_map.1 h1
  obtain ⟨y,hy,e2⟩:=List.mem_map.1 (Jz main _ _ hp)
  exact ⟨y,hy,by rw [e2];exact e.symm⟩
 obtain ⟨y,hy,e⟩:=h2
 unfold thP at e
 simp only [Prod.mk.injEq] at e
 obtain ⟨e1, -,e3,e4⟩:=e
 have hl:=B3 main y.er
 have hw:=ht y hy
 have hl2:(Vn main y.er).length≤1000000000:=Nat.le_trans hl (by show Ze (Zk y.body)+1≤_;omega)
 refine ⟨by rw [e1];exact hn y hy,by rw [e3,List.length_map];omega,by rw [e4,List.length_map];omega⟩
theorem Df: ∀ (l:List Stm),l.length≤Z0 l
 | []=>Nat.le_refl _
 |x::r=>by have h1:=Stm.sz_pos x;have h2:=Df r;simp only [List.length_cons,Z0];omega
theorem Sj: ∀ (x:PStm),1≤x.wt
 | .mk .. =>by simp only [PStm.wt];omega
theorem Ro: ∀ (l:List PStm),l.length≤Ze l
 | []=>Nat.le_refl _
 |x::r=>by have h1:=Sj x;have h2:=Ro r;simp only [List.length_cons,Ze];omega
theorem Cy:(prog.info? 34).map (fun i=>(i.zero,i.size,i.bytes))=some (some (.agg #[.string ⟨#[]⟩,.int .i64 0,.slice none 0 0,.slice none 0 0]),4,72):=by kernel_rfl
section
variable {G:World}{q:List HP}{x:Stm}{m:List Stm}{a:Option Addr}{c:Nat}{g:FC}{t:Int}{h9:Th}
set_option maxHeartbeats 4000000 in
theorem B5 (IH: ∀ (x:Stm),x∈m→ ∀ {q:List HP} {t:Int},(Kn q fun M=>x.At M)→x.er.fit→(0≤t∧t+x.er.wt≤1000000000)→CallF prog G 107 [.agg (pgC g).toArray,.agg (stC x).toArray,.int .i64 t] q (Ret fun v q'=> ∃ y:Cd,v= .agg (ckC y).toArray∧q'=ckM y::q∧y.I.l=(x.er.code g.main t).map Prod.fst∧y.L.l=(x.er.code g.main t).map Prod.snd))(h:Kn q fun M=>BlkAt M a c m)(hf:PStm.fits (Zk m))(ht:0≤t∧t+Ze (Zk m)≤1000000000)(hL:m.length≤1000000000):CallF prog G 62 [.agg (pgC g).toArray,.slice a m.length c,.int .i64 t] (q) (Ret fun v q'=> ∃ y:Cd,v= .agg (ckC y).toArray∧q'=ckM y::q∧y.I.l=(PStm.codes g.main (Zk m) t).map Prod.fst∧y.L.l=(PStm.codes g.main (Zk m) t).map Prod.snd):=by
 refine CallF.of func62 ntmps62 rfl (fun F cs=> ?_)
 have hA:Sees q a (m.flatMap stC):=Kn.sees (h.imp fun M k=>k.1.2.2);have hlen:=Zb (f:=stC) (sz:=25) Ua m
 refine xo 2 ?_;refine Zl fun n1=> ?_
 refine Zm zeroValue139 fun n2=> ?_
 refine oo 4 ?_;refine Zm zeroValue139 fun n3=> ?_
 refine stA ?_;refine ox 7 ?_;refine X.at (X.loop (fun (s:(Nat×Cd)×Option Addr)=>s.1.1≤m.length∧s.2=a∧s.1.2.I.l=(PStm.codes g.main (Zk (m.take s.1.1)) t).map Prod.fst∧s.1.2.L.l=(PStm.codes g.main (Zk (m.take s.1.1)) t).map Prod.snd) (fun s=> [(8,.int .i64 (s.1.1:Int)),(1,.slice s.2 m.length c),(2,.int .i64 t),(3,.pointer (some ⟨n1,0,none⟩)),(6,.pointer (some ⟨n2,0,none⟩)),(7,.pointer (some ⟨n3,0,none⟩))]) (fun s=>ckM s.1.2::pto n3 (.cells (ckC s.1.2).toArray 139 (0,0))::pto n1 (.cells (pgC g).toArray 59 (0,0))::pto n2 (.cells [.slice none 0 0,.slice none 0 0].toArray 139 (0,0))::(q++F)) (fun s=>m.length - s.1.1) (fun s hi_ ih=> ?_) ((0,Cd.z),a) ⟨Nat.zero_le _,rfl,rfl,rfl⟩) Zp (Le.trans leA (Kn.add (φ:=fun M=>Cd.z.At M) (mn:=fun e h=>Cd.At.mono e h) (fun _ _ _=>Zqz _)))
 try dsimp only at hi_ ih⊢
 obtain ⟨hs0,ha,hI,hLn⟩:=hi_
 obtain ⟨⟨s,y⟩,a2⟩:=s;dsimp only at*;subst ha
 refine xx 8 ?_;refine X.part 13 rfl (fun h0=> ?_) (fun h0=> ?_)
 · replace h0:=sp h0;have hlt:s<m.length:=(by omega);have hcl:=Y9 g.main (Zk (m.take s)) t;have hwt:=Sq hlt;have hIl:y.I.l.length=(PStm.codes g.main (Zk (m.take s)) t).length:=(by rw [hI,List.length_map]);have hLl:y.L.l.length=(PStm.codes g.main (Zk (m.take s)) t).length:=(by rw [hLn,List.length_map]);have hfx:=Tc hf (show m[s].er∈Zk m by rw [U9];exact List.mem_map_of_mem (List.getElem_mem hlt));have hcx:=Tt g.main m[s].er (t+(y.I.l.length:Int))
   refine Jw hA (by rw [hlen];omega) (fun b1 o1 e1=> ?_);subst e1
   obtain ⟨y9,hy9⟩: ∃ y9,m[s]=y9:=⟨_,rfl⟩;have hmm:y9∈m:=hy9 ▸ List.getElem_mem hlt;obtain ⟨k3,ln3,cl3,nm3,wt3,⟨k3a,z3a,s3a,l3a,o3a,p3a,y3a,u3a,w3a⟩,⟨k3b,z3b,s3b,l3b,o3b,p3b,y3b,u3b,w3b⟩,body3,els3,ba3,bc3,ea3,ec3,id3,slot3,other3,loc3⟩:=y9;rw [hy9] at hfx hwt hcx
   have hrw: ∀ (Q:List HP),Le Q q→ ∀ (j:Nat) (v:Value),nth (stC (.mk k3 ln3 cl3 nm3 wt3 (.mk k3a z3a s3a l3a o3a p3a y3a u3a w3a) (.mk k3b z3b s3b l3b o3b p3b y3b u3b w3b) body3 els3 ba3 bc3 ea3 ec3 id3 slot3 other3 loc3)) j=some v→Cl Q ⟨b1,o1+(s:Int).toNat*25+j,none⟩ v:=fun Q hQ j v hv=>Wk hA hQ Ua hlt rfl j v (by rw [hy9,←Vm];exact hv)
   have hrL: ∀ (Q:List HP) (i:Nat),Le Q q→HL Q (rdA i b1 (o1+(s:Int).toNat*25) (stC (.mk k3 ln3 cl3 nm3 wt3 (.mk k3a z3a s3a l3a o3a p3a y3a u3a w3a) (.mk k3b z3b s3b l3b o3b p3b y3b u3b w3b) body3 els3 ba3 bc3 ea3 ec3 id3 slot3 other3 loc3))):=fun Q i hQ=>HL.rdA fun j v hk=>hrw Q hQ j v (by rw [Vm];exact hk)
   obtain ⟨Y,hY⟩: ∃ Y:Stm,Y=(.mk k3 ln3 cl3 nm3 wt3 (.mk k3a z3a s3a l3a o3a p3a y3a u3a w3a) (.mk k3b z3b s3b l3b o3b p3b y3b u3b w3b) body3 els3 ba3 bc3 ea3 ec3 id3 slot3 other3 loc3):=⟨_,rfl⟩;rw [←hY] at hfx hwt hcx hmm hy9
   refine xx 4 ?_;refine drw ?_;refine Yw 0 ?_;refine Yw 1 ?_;refine dd [2,3,4] ?_;refine XD.rdCs 5 (us:=stC (.mk k3 ln3 cl3 nm3 wt3 (.mk k3a z3a s3a l3a o3a p3a y3a u3a w3a) (.mk k3b z3b s3b l3b o3b p3b y3b u3b w3b) body3 els3 ba3 bc3 ea3 ec3 id3 slot3 other3 loc3)) rfl rfl isAgg217 sizeOf217 rfl (fun k v hk=>hrw _ leA k v (by rw [Vm];exact hk)) ?_
   refine dl [6,7] 8 ?_;refine dd [9,10] ?_;refine Yj 11 call107 (Le.refl _) (IH (.mk k3 ln3 cl3 nm3 wt3 (.mk k3a z3a s3a l3a o3a p3a y3a u3a w3a) (.mk k3b z3b s3b l3b o3b p3b y3b u3b w3b) body3 els3 ba3 bc3 ea3 ec3 id3 slot3 other3 loc3) (hY ▸ hmm) (t:=t+(y.I.l.length:Int)) (Kn.le (h.imp fun M k=>Jb.1 k.2 _ (hY ▸ hmm))) (hY ▸ hfx) (by rw [←hY];omega)) ?_
   rintro _ _ ⟨z,rfl,rfl,hzI,hzL⟩
   refine ⟨(hlA (h:=by repeat first|exact trivial|refine ⟨clA,?_⟩|refine HL.app (hrL _ _ leA) ?_|refine ⟨hrw _ leA 0 _ rfl,?_⟩|refine ⟨hrw _ leA _ _ rfl,?_⟩)),?_⟩
   rw [←hY] at hzI hzL;have hzIl:z.I.l.length≤Y.er.wt:=(by rw [hzI,List.length_map];exact hcx);have hzLl:z.L.l.length≤Y.er.wt:=(by rw [hzL,List.length_map];exact hcx)
   refine Yj 12 call106 (Le.refl _) (Rt (x:=y) (z:=z) (show Kn _ fun M=>Cd.At M y from knA) (show Kn _ fun M=>Cd.At M z from knA) ⟨by omega,by omega⟩) ?_
   rintro _ _ ⟨y2,rfl,rfl,hI2,hL2⟩
   refine ⟨(hlA (h:=by repeat first|exact trivial|refine ⟨clA,?_⟩|refine HL.app (hrL _ _ leA) ?_|refine ⟨hrw _ leA 0 _ rfl,?_⟩|refine ⟨hrw _ leA _ _ rfl,?_⟩)),?_⟩
   refine Yr 13 ?_;refine XD.nil ?_;refine xx 6 ?_
   have hS:PStm.codes g.main (Zk (m.take (s+1))) t=PStm.codes g.main (Zk (m.take s)) t++Y.er.code g.main (t+(y.I.l.length:Int)):=(by rw [Ra hlt,Nu,hIl,hy9];simp [PStm.codes])
   refine X.at (ih ((s+1,y2),some ⟨b1,o1,none⟩) ⟨by dsimp only;omega,rfl,by dsimp only;rw [hS,List.map_append,←hI,←hzI];exact hI2,by dsimp only;rw [hS,List.map_append,←hLn,←hzL];exact hL2⟩ (by dsimp only;omega)) Zp leA
 replace h0:=sp h0;obtain rfl:s=m.length:=(by omega);rw [List.take_length] at hI hLn
 refine xo 4 ?_;refine ldA ?_;refine stA ?_;refine ox 1 ?_;refine Zq (ckM y::q) func62 (rA_ results62) ⟨_,rfl,y,rfl,rfl,hI,hLn⟩
theorem Zzu: ∀ (N:Nat),(∀ (x:Stm),x.sz≤N→ ∀ {q:List HP} {t:Int},(Kn q fun M=>x.At M)→x.er.fit→(0≤t∧t+x.er.wt≤1000000000)→CallF prog G 107 [.agg (pgC g).toArray,.agg (stC x).toArray,.int .i64 t] q (Ret fun v q'=> ∃ y:Cd,v= .agg (ckC y).toArray∧q'=ckM y::q∧y.I.l=(x.er.code g.main t).map Prod.fst∧y.L.l=(x.er.code g.main t).map Prod.snd))∧(∀ (m:List Stm) (a:Option Addr) (c:Nat),Z0 m≤N→ ∀ {q:List HP} {t:Int},(Kn q fun M=>BlkAt M a c m)→PStm.fits (Zk m)→(0≤t∧t+Ze (Zk m)≤1000000000)→CallF prog G 62 [.agg (pgC g).toArray,.slice a m.length c,.int .i64 t] q (Ret fun v q'=> ∃ y:Cd,v= .agg (ckC y).toArray∧q'=ckM y::q∧y.I.l=(PStm.codes g.main (Zk m) t).map Prod.fst∧y.L.l=(PStm.codes g.main (Zk m) t).map Prod.snd)):=by
 intro N
 induction N with
 |zero=>
  have hS: ∀ (x:Stm),x.sz≤0→ ∀ {q:List HP} {t:Int},(Kn q fun M=>x.At M)→x.er.fit→(0≤t∧t+x.er.wt≤1000000000)→CallF prog G 107 [.agg (pgC g).toArray,.agg (stC x).toArray,.int .i64 t] q (Ret fun v q'=> ∃ y:Cd,v= .agg (ckC y).toArray∧q'=ckM y::q∧y.I.l=(x.er.code g.main t).map Prod.fst∧y.L.l=(x.er.code g.main t).map Prod.snd):=fun x hx=>by cases x;simp only [Stm.sz] at hx;omega
  exact ⟨hS,fun m a c hm q t h hf ht=>B5 (fun x hx=>hS x (Nat.le_trans (Qa hx) hm)) h hf ht (by have:=Df m;omega)⟩
 |succ N ih=>
  have hS: ∀ (x:Stm),x.sz≤N+1→ ∀ {q:List HP} {t:Int},(Kn q fun M=>x.At M)→x.er.fit→(0≤t∧t+x.er.wt≤1000000000)→CallF prog G 107 [.agg (pgC g).toArray,.agg (stC x).toArray,.int .i64 t] q (Ret fun v q'=> ∃ y:Cd,v= .agg (ckC y).toArray∧q'=ckM y::q∧y.I.l=(x.er.code g.main t).map Prod.fst∧y.L.l=(x.er.code g.main t).map Prod.snd):=fun x hx q t h hf ht=>S7 (fun m a c hm q t h hf ht=>ih.2 m a c (by omega) h hf ht) h hf ht
  exact ⟨hS,fun m a c hm q t h hf ht=>B5 (fun x hx=>hS x (Nat.le_trans (Qa hx) hm)) h hf ht (by have:=Ro (Zk m);rw [Jy] at this;omega)⟩
theorem stmts_ok: ∀ {q:List HP} {t:Int},(Kn q fun M=>BlkAt M a c m)→PStm.fits (Zk m)→(0≤t∧t+Ze (Zk m)≤1000000000)→CallF prog G 62 [.agg (pgC g).toArray,.slice a m.length c,.int .i64 t] q (Ret fun v q'=> ∃ y:Cd,v= .agg (ckC y).toArray∧q'=ckM y::q∧y.I.l=(PStm.codes g.main (Zk m) t).map Prod.fst∧y.L.l=(PStm.codes g.main (Zk m) t).map Prod.snd):=fun h hf ht=>(Zzu _).2 m a c (Nat.le_refl _) h hf ht
set_option maxHeartbeats 2000000 in
theorem Gt (h:Kn q fun M=>BlkAt M h9.a h9.c h9.body)(hf:PStm.fits (Zk h9.body))(ht:Ze (Zk h9.body)≤999999999):CallF prog G 41 [.agg (pgC g).toArray,.agg (thC h9).toArray] (q) (Ret fun v q'=> ∃ y:Cod,v= .agg (Y2 y).toArray∧q'=lst (fun M=>CodAt M y) (fun e h=>CodAt.mono e h)::q∧(y.name,y.locals,y.ins,y.lines)=thP g.main h9.er):=by
 refine CallF.of func41 ntmps41 rfl (fun F cs=> ?_)
 obtain ⟨C,hC⟩: ∃ C,PStm.codes g.main (Zk h9.body) 0=C:=⟨_,rfl⟩;have hCl:=Y9 g.main (Zk h9.body) 0;rw [hC] at hCl
 refine xo 2 ?_;refine Zl fun n1=> ?_
 refine Zl fun n2=> ?_
 refine Zm zeroValue34 fun n3=> ?_
 refine oo 3 ?_;refine ldA ?_;refine ol 1 ?_;refine Zh call62 (Le.refl _) (stmts_ok (m:=h9.body) (a:=h9.a) (c:=h9.c) (t:=0) (Kn.le h) hf ⟨Int.le_refl 0,by omega⟩) ?_
 rintro _ _ ⟨y,rfl,rfl,hI,hLn⟩
 rw [hC] at hI hLn;have hIl:y.I.l.length=C.length:=(by rw [hI,List.length_map]);have hLl:y.L.l.length=C.length:=(by rw [hLn,List.length_map])
 refine XO.cR call64 (Yf) ?_;refine XO.ef (Z6 Zx [⟨34,0,0,0⟩] underlying32 Za rfl rfl (fun _=>rfl) rfl rfl rfl rfl) ?_
 rintro _ _ ⟨gl,rfl,rfl⟩
 refine Zh call63 (Le.refl _) (Y7 (x:=y) (l:= [⟨34,0,0,0⟩]) (ln:=0) (show Kn _ fun M=>Cd.At M y from knA) (Sees.le (Sees.rsH _) Zj) ⟨by simp;omega,by simp;omega⟩) ?_
 rintro _ _ ⟨y2,rfl,rfl,hI2,hL2⟩
 refine Zm zeroValue139 fun n4=> ?_
 refine stA ?_;refine ol 4 ?_;refine ol 1 ?_;refine ol 1 ?_;refine ol 1 ?_;refine oo 1 ?_;refine stA ?_;refine ox 1 ?_;refine X.le (q':=lst (fun M=>CodAt M (⟨h9.nm,h9.loc,y2.I.l,y2.L.l,y2.I.a,y2.I.c,y2.L.a,y2.L.c⟩:Cod)) (fun e h=>CodAt.mono e h)::_) (Kn.add ((show Kn _ fun M=>Cd.At M y2 from knA).imp fun M k=>⟨k.1,by have:=k.2;unfold Sv.At at this;rw [Hv] at this;exact this⟩)) ?_
 refine Zq (lst (fun M=>CodAt M (⟨h9.nm,h9.loc,y2.I.l,y2.L.l,y2.I.a,y2.I.c,y2.L.a,y2.L.c⟩:Cod)) (fun e h=>CodAt.mono e h)::q) func41 (rA_ results41) ⟨_,rfl,(⟨h9.nm,h9.loc,y2.I.l,y2.L.l,y2.I.a,y2.I.c,y2.L.a,y2.L.c⟩:Cod),rfl,rfl,by simp only [thP,Vn,Th.er,hC,hI2,hL2,hI,hLn,List.map_append,Wg,Ja]⟩
end
section
variable {G:World}{q:List HP}{g:FC}{mn:Nat}
set_option maxHeartbeats 4000000 in
theorem Zq7 (h:Kn q fun M=>g.At M)(hm:g.main=(mn:Int))(hmn:mn<g.ths.l.length)(hf: ∀ x∈g.ths.l,PStm.fits (Zk x.body))(ht: ∀ x∈g.ths.l,Ze (Zk x.body)≤999999999)(hn: ∀ x∈g.ths.l,x.nm.size≤9223372036854775807)(h8:g.ths.l.length≤1000000):CallF prog G 18 [.agg (pgC g).toArray] (q) (Ret fun v q'=> ∃ m:Mdl,v= .agg (Wo m).toArray∧q'=mdM m::q∧ModOf g.er m∧MdB m):=by
 refine CallF.of func18 ntmps18 rfl (fun F cs=> ?_)
 have hA:Sees q g.ths.a (g.ths.l.flatMap thC):=Kn.sees (h.imp fun M k=>k.ths.2.2);have hlen:=Zb (f:=thC) (sz:=3) (fun _=>rfl) g.ths.l
 refine X.fact (fun w s=>Sv.len ((h.le leA).imp fun M k=>k.vars) s) (fun hb1=> ?_)
 refine X.fact (fun w s=>Sv.len ((h.le leA).imp fun M k=>k.arrs) s) (fun hb2=> ?_)
 refine X.fact (fun w s=>Sv.len ((h.le leA).imp fun M k=>k.chs) s) (fun hb3=> ?_)
 refine X.fact (fun w s=>Sv.len ((h.le leA).imp fun M k=>k.ths) s) (fun hb4=> ?_)
 refine X.fact (fun w s=>Kn.fact ((h.le leA).imp fun M k=>k.arrs) (fun M k=>k.1) s) (fun hb5=> ?_)
 refine Jw hA (by rw [hlen];omega) (fun b1 o1 e1=> ?_);have hs1:=hA;rw [e1] at hs1
 refine xo 2 ?_;refine Zl fun n1=> ?_
 refine Zm zeroValue26 fun n2=> ?_
 refine ox 2 ?_;refine drw ?_;refine dl [0] 1 ?_;refine dl [2] 3 ?_;refine dl [4] 5 ?_;refine dl [6] 7 ?_;refine dl [8] 9 ?_;refine Yw 10 ?_;refine dl [11] 12 ?_;refine dl [13] 14 ?_;refine XD.know 17 (.slice (some ⟨b1,o1,none⟩) g.ths.l.length g.ths.c) rfl (by show Value.slice g.ths.a _ _=_;rw [e1]) ?_
 refine XD.know 19 (.int .i64 (mn:Int)) rfl (by show Value.int .i64 g.main=_;rw [hm]) ?_
 refine dd [15] ?_;refine V9 16 (m:=mn) isAgg105 sizeOf105 hs1 hmn ?_ (hf:=fun _=>rfl)
 refine Yb (fl:= [⟨20,3,fun g=> .pointer (some ⟨g,0,none⟩),fun g=>pto g (.cells [.slice none 0 0,.slice none 0 0,.slice none 0 0,.int .i64 0,.int .i64 0,.slice none 0 0].toArray 26 (0,0))⟩]) ?_
 refine Jr 17 ⟨⟨_,rfl,rfl,rfl,rfl,rfl,rfl,fun q=>Ef.alloc zeroValue26⟩,trivial⟩ call41 (Le.refl _) (Gt (g:=g) (h9:=g.ths.l[mn]) (Kn.le (h.imp fun M k=>k.bod _ (List.getElem_mem hmn))) (hf _ (List.getElem_mem hmn)) (ht _ (List.getElem_mem hmn))) ?_ (hL:=hlR)
 rintro _ _ ⟨y,rfl,rfl,hy⟩
 refine ⟨hlR,?_⟩
 refine XF.ef 18 ⟨⟨_,rfl,rfl,rfl,rfl,rfl,rfl,fun q=>Ef.alloc zeroValue26⟩,trivial⟩ (A8 (V:=fun g=> .slice (some ⟨g,0,none⟩) 1 1) (A:=fun g=>rsH Y2 4 34 (some ⟨g,0,none⟩) 1 ([y])) (fun q=>Yd (u:=y) Y2 underlying24 Cy rfl rfl (fun _=>rfl) rfl)) ?_ (hL:=hlR)
 rintro _ _ ⟨gx,rfl,rfl⟩
 refine ⟨hlR,?_⟩
 refine Tp 19 ⟨⟨_,rfl,rfl,rfl,rfl,rfl,rfl,fun q=>Ef.alloc zeroValue26⟩,trivial⟩ (Pu.build (cells:= [_,_,_,_,_,_]) [(0,1),(1,1),(2,1),(3,1),(4,1),(5,1)] zeroValue26 underlying26 (by kernel_rfl) rfl rfl) ?_ (hL:=hlR)
 refine Wn (e0:=⟨20,3,fun g=> .pointer (some ⟨g,0,none⟩),fun g=>pto g (.cells [.slice none 0 0,.slice none 0 0,.slice none 0 0,.int .i64 0,.int .i64 0,.slice none 0 0].toArray 26 (0,0))⟩) (hnd:=by simp) 20 ⟨⟨_,rfl,rfl,rfl,rfl,rfl,rfl,fun q=>Ef.alloc zeroValue26⟩,trivial⟩ (fun n3=> ?_) (hL:=hlR)
 change XF _ _ _ _ _ _ _ [] _ _ _ ((3,.pointer (some ⟨n3,0,none⟩))::_) _ _ (pto n3 (.cells [.slice none 0 0,.slice none 0 0,.slice none 0 0,.int .i64 0,.int .i64 0,.slice none 0 0].toArray 26 (0,0))::_)
 refine XF.back ?_ (hL:=hlR)
 refine Yr 21 ?_;refine XD.nil ?_;refine xx 6 ?_
 have hme:g.er.ths.getD g.er.main.toNat ⟨em,0, []⟩=(g.ths.l[mn]).er:=(by show (g.ths.l.map Th.er).getD g.main.toNat _=_;rw [hm,Int.toNat_natCast,List.getD_eq_getElem?_getD,List.getElem?_map,List.getElem?_eq_getElem hmn];rfl)
 refine X.le (T6 (l:= []) (x:=y) (fun _ _ _ x hx=>by cases hx) knA) ?_
 refine X.at (X.loop (fun (s:(List Cod×Nat)×Option Addr×Nat)=>s.1.2≤g.ths.l.length∧s.1.1.map (fun x=>(x.name,x.locals,x.ins,x.lines))=thP g.main (g.ths.l[mn]).er::(Wd g.main ((g.ths.l.take s.1.2).map Th.er) 0).map (thP g.main)) (fun s=> [(4,.int .i64 (s.1.2:Int)),(1,.pointer (some ⟨n1,0,none⟩)),(2,.pointer (some ⟨n2,0,none⟩)),(3,.pointer (some ⟨n3,0,none⟩))]) (fun s=>rsH Y2 4 34 s.2.1 s.2.2 (s.1.1)::cosM s.1.1::pto n3 (.cells [g.vars.v,g.arrs.v,g.chs.v,.int .i64 g.mu,.int .i64 g.co,.slice s.2.1 s.1.1.length s.2.2].toArray 26 (0,0))::pto n1 (.cells (pgC g).toArray 59 (0,0))::pto n2 (.cells [.slice none 0 0,.slice none 0 0,.slice none 0 0,.int .i64 0,.int .i64 0,.slice none 0 0].toArray 26 (0,0))::(q++F)) (fun s=>g.ths.l.length - s.1.2) (fun s hi_ ih=> ?_) (([y],0),some ⟨gx,0,none⟩,1) ⟨Nat.zero_le _,by show [(y.name,y.locals,y.ins,y.lines)]=_;rw [hy];rfl⟩) Zp leA
 try dsimp only at hi_ ih⊢
 obtain ⟨hs0,hmp⟩:=hi_
 obtain ⟨⟨T,s⟩,a',c'⟩:=s;dsimp only at*;have hTl:T.length≤s+1:=by have h1:=congrArg List.length hmp;have h2:=B7 g.main ((g.ths.l.take s).map Th.er) 0;rw [List.length_map,List.length_take] at h2;rw [List.length_map,List.length_cons,List.length_map] at h1;omega
 refine xl 5 ?_;refine ox 3 ?_;refine X.part 29 rfl (fun h1=> ?_) (fun h1=> ?_)
 · replace h1:=sp h1;have hth:s<g.ths.l.length:=(by omega)
   have hso:Wd g.main ((g.ths.l.take (s+1)).map Th.er) 0=Wd g.main ((g.ths.l.take s).map Th.er) 0++(if (s:Int)=g.main then [] else [(g.ths.l[s]).er]):=(by rw [List.take_succ_eq_append_getElem hth,List.map_append,List.map_singleton,Rv,List.length_map,List.length_take,Nat.min_eq_left (Nat.le_of_lt hth),Nat.zero_add])
   refine xl 8 ?_;refine ox 2 ?_;refine X.part 35 rfl (fun k1=> ?_) (fun k1=> ?_)
   · replace k1:=sp k1
     refine xx 1 ?_;refine drw ?_;refine dl [0] 1 ?_;refine Yw 2 ?_;refine dl [3] 4 ?_;refine dd [5] ?_;refine XD.know 40 (.slice (some ⟨b1,o1,none⟩) g.ths.l.length g.ths.c) rfl (by show Value.slice g.ths.a _ _=_;rw [e1]) ?_
     refine dd [6] ?_;refine V9 7 (m:=s) isAgg105 sizeOf105 hs1 hth ?_ (hf:=fun _=>rfl)
     refine Yj 8 call41 (Le.refl _) (Gt (g:=g) (h9:=g.ths.l[s]) (Kn.le (h.imp fun M k=>k.bod _ (List.getElem_mem hth))) (hf _ (List.getElem_mem hth)) (ht _ (List.getElem_mem hth))) ?_
     rintro _ _ ⟨y,rfl,rfl,hy⟩
     refine ⟨hlR,?_⟩
     refine XD.ef 9 rfl (Yd Y2 underlying24 Cy rfl rfl (fun _=>rfl) rfl) ?_
     rintro _ _ ⟨gx,rfl,rfl⟩
     refine ⟨hlR,?_⟩
     refine XD.ef 10 rfl (Zo (f:=Y2) (l:=T) (m:= [y]) underlying24 Cy rfl rfl (fun _=>rfl) rfl rfl Zj ((Sees.rsH _).le Zj) (fun _=>rfl) (by simp only [List.length_cons,List.length_nil];omega) (by simp only [List.length_cons,List.length_nil];omega)) ?_
     rintro _ _ ⟨a4,c4,rfl,rfl⟩
     refine ⟨hlR,?_⟩
     refine dd [11] ?_;refine stD 12 ?_;refine XD.nil ?_;refine xx 6 ?_;refine X.le (T6 (l:=T) (x:=y) knA knA) ?_
     refine X.at (ih ((T++ [y],s+1),a4,c4) ⟨by dsimp only;omega,by dsimp only;rw [hso,if_neg (by omega),List.map_append,hmp,List.map_append,List.cons_append];simp only [List.map_cons,List.map_nil,hy]⟩ (by dsimp only;omega)) Zp leA
   replace k1:=sp k1
   refine xx 8 ?_;refine X.at (ih ((T,s+1),a',c') ⟨by dsimp only;omega,by dsimp only;rw [hso,if_pos (by omega),List.append_nil,hmp]⟩ (by dsimp only;omega)) Zp leA
 replace h1:=sp h1;obtain rfl:s=g.ths.l.length:=(by omega);rw [List.take_length] at hmp
 refine xo 4 ?_;refine ldA ?_;refine stA ?_;refine ox 1 ?_;refine I4 (f:=Y2) (a:=a') (c:=c') (l:=T) (sz:=4) (ty:=34) ?_
 refine X.le (q':=mdM (⟨g.vars.l,g.arrs.l,g.chs.l,g.mu,g.co,T,g.vars.a,g.vars.c,g.arrs.a,g.arrs.c,g.chs.a,g.chs.c,a',c'⟩:Mdl)::_) (Kn.add ((Kn.and (h.le leA) (Kn.and (knA (φ:=fun M=>SlAt M a' c' T.length (T.flatMap Y2))) (knA (φ:=fun M=>CodsAt M T)))).imp fun M k=>⟨by have:=k.1.vars;unfold Sv.At at this;rw [Hv] at this;exact this,by have:=k.1.arrs;unfold Sv.At at this;rw [Hv] at this;exact this,by have:=k.1.chs;unfold Sv.At at this;rw [Hv] at this;exact this,k.2.1,k.2.2⟩)) ?_
 have hpl: ∀ x∈T,x.name.size≤9223372036854775807∧x.ins.length≤9223372036854775807∧x.lines.length≤9223372036854775807:=mods_b hn ht hmn hmp
 refine Zq (mdM (⟨g.vars.l,g.arrs.l,g.chs.l,g.mu,g.co,T,g.vars.a,g.vars.c,g.arrs.a,g.arrs.c,g.chs.a,g.chs.c,a',c'⟩:Mdl)::q) func18 (rA_ results18) ⟨_,rfl,(⟨g.vars.l,g.arrs.l,g.chs.l,g.mu,g.co,T,g.vars.a,g.vars.c,g.arrs.a,g.arrs.c,g.chs.a,g.chs.c,a',c'⟩:Mdl),rfl,rfl,⟨rfl,rfl,rfl,rfl,rfl,by show T.map _=(Nk g.er).map _;rw [hmp];unfold Nk;rw [hme];rfl⟩,⟨hb1,hb2,hb3,by show T.length≤_;omega,hb5,hpl⟩⟩
end
theorem Ve {f:Fnd}{w:Int}(hw:w≠0):(f.fl w).flaw≠0:=by
 unfold Fnd.fl
 split
 · exact hw
 rename_i h;exact h
theorem T7 {g:Fnd}{nm:ByteArray}(h:((g.loc1 nm).loc2).flaw=0):(g.loc1 nm).loc2=g∧g.locals<32∧g.flaw=0:=by
 have e:(g.loc1 nm)=g:=by
  by_cases hk:g.at nm≠0
  · exfalso
    have h1:(g.loc1 nm).flaw≠0:=by unfold Fnd.loc1;rw [if_pos hk];exact Ve (by decide)
    unfold Fnd.loc2 at h
    split at h
    · exact Ve (by decide) h
    exact h1 h
  unfold Fnd.loc1;rw [if_neg hk]
 rw [e] at h⊢
 unfold Fnd.loc2 at h⊢
 by_cases h5:32≤g.locals
 · rw [if_pos h5] at h;exact absurd h (Ve (by decide))
 rw [if_neg h5] at h⊢;exact ⟨rfl,by omega,h⟩
structure Cn where
 v:Int
 a:Int
 mu:Int
 co:Int
 ch:Int
 th:Int
def Fnd.cn (f:Fnd):Cn:=⟨f.vars.length,f.arrs.length,f.mu,f.co,f.chs.length,f.ths.length⟩
structure Cn.le (c d:Cn):Prop where
 v:c.v≤d.v
 a:c.a≤d.a
 mu:c.mu≤d.mu
 co:c.co≤d.co
 ch:c.ch≤d.ch
 th:c.th≤d.th
structure NmOk (c:Cn) (lo:Int) (x:Nm):Prop where
 z:0≤x.s
 v:x.k=1→x.s<c.v
 a:x.k=2→x.s<c.a
 mu:x.k=3→x.s<c.mu
 co:x.k=4→x.s<c.co
 ch:x.k=5→x.s<c.ch
 th:x.k=6→x.s<c.th
 lo:x.k=100→x.s<lo
theorem NmOk.up {c d:Cn}{lo hi:Int}{x:Nm}(h:NmOk c lo x)(hc:c.le d)(hl:lo≤hi):NmOk d hi x:=by
 obtain ⟨h0,h1,h2,h3,h4,h5,h6,h7⟩:=h
 obtain ⟨k1,k2,k3,k4,k5,k6⟩:=hc
 exact ⟨h0,fun e=>by have:=h1 e;omega,fun e=>by have:=h2 e;omega,fun e=>by have:=h3 e;omega,fun e=>by have:=h4 e;omega,fun e=>by have:=h5 e;omega,fun e=>by have:=h6 e;omega,fun e=>by have:=h7 e;omega⟩
theorem Cn.le_refl (c:Cn):c.le c:=⟨Int.le_refl _,Int.le_refl _,Int.le_refl _,Int.le_refl _,Int.le_refl _,Int.le_refl _⟩
def vaOk (c:Cn)(lo:Int)(s:Int)(l:Bool):Prop:=0≤s∧(if l=true then s<lo else s<c.v)
mutual
def PEx.wl (c:Cn)(lo:Int):PEx→Prop
 | .mk k _ _ slot loc _ args=>(k=2→vaOk c lo slot loc)∧(k=3→0≤slot∧slot<c.a)∧Re c lo args
def Re (c:Cn)(lo:Int):List PEx→Prop
 | []=>True
 |e::r=>e.wl c lo∧Re c lo r
end
theorem vaOk.up {c:Cn}{lo hi:Int}{s:Int}{l:Bool}(h:vaOk c lo s l)(hl:lo≤hi):vaOk c hi s l:=by
 unfold vaOk at*
 refine ⟨h.1,?_⟩
 have:=h.2
 split<;>rename_i k
 · rw [if_pos k] at this;omega
 rw [if_neg k] at this;omega
mutual
theorem H3 {c:Cn}{lo hi:Int}(hl:lo≤hi): ∀ {e:PEx},e.wl c lo→e.wl c hi
 | .mk ..,⟨h1,h2,h3⟩=>⟨fun k=>(h1 k).up hl,h2,F2 hl h3⟩
theorem F2 {c:Cn}{lo hi:Int}(hl:lo≤hi): ∀ {l:List PEx},Re c lo l→Re c hi l
 | [],_=>trivial
 |_::_,⟨h1,h2⟩=>⟨H3 hl h1,F2 hl h2⟩
end
theorem Fnd.wants_ok {f:Fnd}{s:ByteArray}{a b:Int}(h:(f.wants s a b).1.flaw=0):(f.wants s a b).1=f∧ ∃ x∈f.names,(x.k=a∨x.k=b)∧(f.wants s a b).2=(x.k,x.s):=by
 unfold Fnd.wants at h⊢
 have hle:f.at s≤f.names.length:=He
 split at h
 · exact absurd h (Ve (by decide))
 rename_i i hi
 have hlt:i<f.names.length:=by omega
 have hx:(f.names.map fun x=>(x.k,x.s)).getD i (0,0)=(f.names[i].k,f.names[i].s):=by
  rw [List.getD_eq_getElem?_getD,List.getElem?_map,List.getElem?_eq_getElem hlt];rfl
 dsimp only at h⊢
 rw [hx] at h⊢
 split at h
 · exact absurd h (Ve (by decide))
 rename_i hk
 rw [if_neg hk]
 refine ⟨rfl,_,List.getElem_mem hlt,?_,rfl⟩
 simp only [Bool.and_eq_true,bne_iff_ne,ne_eq,not_and,Decidable.not_not] at hk
 by_cases e:f.names[i].k=a
 · exact .inl e
 exact .inr (hk e)
mutual
theorem Ui: ∀ (e:PEx) (f:Fnd),(f.expr e).2.sz=e.sz∧(f.expr e).2.dep=e.dep∧(e.fit→(f.expr e).2.fit)
 | .mk k n nm slot loc op args,f=>by
  simp only [Fnd.expr]
  split
  · obtain ⟨h1,h2,h3,h4⟩:=Qu args (f.wants nm 1 100).1
    exact ⟨by simp only [PEx.sz,h1],by simp only [PEx.dep,h2],fun ⟨a,b,c,d,e⟩=>⟨a,h3.trans b,c,d,h4 e⟩⟩
  split
  · obtain ⟨h1,h2,h3,h4⟩:=Qu args (f.wants nm 2 2).1
    exact ⟨by simp only [PEx.sz,h1],by simp only [PEx.dep,h2],fun ⟨a,b,c,d,e⟩=>⟨a,h3.trans b,c,d,h4 e⟩⟩
  obtain ⟨h1,h2,h3,h4⟩:=Qu args f
  exact ⟨by simp only [PEx.sz,h1],by simp only [PEx.dep,h2],fun ⟨a,b,c,d,e⟩=>⟨a,h3.trans b,c,d,h4 e⟩⟩
theorem Qu: ∀ (l:List PEx) (f:Fnd),Vv (f.exprs l).2=Vv l∧Yu (f.exprs l).2=Yu l∧(f.exprs l).2.length=l.length∧(PEx.fits l→PEx.fits (f.exprs l).2)
 | [],f=>⟨rfl,rfl,rfl,fun _=>trivial⟩
 |e::r,f=>by
  obtain ⟨a1,a2,a3⟩:=Ui e f
  obtain ⟨h1,h2,h3,h4⟩:=Qu r (f.expr e).1
  simp only [Fnd.exprs]
  exact ⟨by simp only [Vv,a1,h1],by simp only [Yu,a2,h2],by simp only [List.length_cons,h3],fun ⟨k1,k2⟩=>⟨a3 k1,h4 k2⟩⟩
end
mutual
theorem Nr {c:Cn}{lo:Int}: ∀ (e:PEx) (f:Fnd),(f.expr e).1.flaw=0→(f.expr e).1=f∧((∀ x∈f.names,NmOk c lo x)→(f.expr e).2.wl c lo)
 | .mk k n nm slot loc op args,f,h=>by
  simp only [Fnd.expr] at h⊢
  split at h
  · rename_i hk
    rw [if_pos hk]
    obtain ⟨h1,h2⟩:=J2 (c:=c) (lo:=lo) args _ h
    dsimp only at h h1⊢
    rw [h1] at h
    obtain ⟨e1,x,hx,hk2,e2⟩:=Fnd.wants_ok h
    refine ⟨h1.trans e1,fun hn=>⟨fun _=> ?_,fun e=>absurd (hk.symm.trans e) (by decide),h2 (by rw [e1];exact hn)⟩⟩
    have hx2:=hn x hx
    rw [e2]
    refine ⟨hx2.z,?_⟩
    dsimp only
    rcases hk2 with hk2|hk2
    · rw [if_neg (by rw [hk2];decide)];exact hx2.v hk2
    rw [if_pos (by rw [hk2];decide)];exact hx2.lo hk2
  rename_i hk0
  rw [if_neg hk0]
  split at h
  · rename_i hk
    rw [if_pos hk]
    obtain ⟨h1,h2⟩:=J2 (c:=c) (lo:=lo) args _ h
    dsimp only at h h1⊢
    rw [h1] at h
    obtain ⟨e1,x,hx,hk2,e2⟩:=Fnd.wants_ok h
    refine ⟨h1.trans e1,fun hn=>⟨fun e=>absurd (hk.symm.trans e) (by decide),fun _=> ?_,h2 (by rw [e1];exact hn)⟩⟩
    have hx2:=hn x hx
    rw [e2]
    exact ⟨hx2.z,hx2.a (by rcases hk2 with e|e<;>exact e)⟩
  rename_i hk1
  rw [if_neg hk1]
  obtain ⟨h1,h2⟩:=J2 (c:=c) (lo:=lo) args _ h
  exact ⟨h1,fun hn=>⟨fun e=>absurd e hk0,fun e=>absurd e hk1,h2 hn⟩⟩
theorem J2 {c:Cn}{lo:Int}: ∀ (l:List PEx) (f:Fnd),(f.exprs l).1.flaw=0→(f.exprs l).1=f∧((∀ x∈f.names,NmOk c lo x)→Re c lo (f.exprs l).2)
 | [],f,_=>⟨rfl,fun _=>trivial⟩
 |e::r,f,h=>by
  simp only [Fnd.exprs] at h⊢
  obtain ⟨h1,h2⟩:=J2 (c:=c) (lo:=lo) r _ h
  rw [h1] at h
  obtain ⟨k1,k2⟩:=Nr (c:=c) (lo:=lo) e f h
  exact ⟨h1.trans k1,fun hn=>⟨k2 hn,h2 (by rw [k1];exact hn)⟩⟩
end
def ownOk (c:Cn)(lo k slot other:Int)(loc:Bool):Prop:=
 (k=1∨k=2→vaOk c lo slot loc)∧(k=3→0≤slot∧slot<c.a)∧(k=6∨k=7→0≤slot∧slot<c.mu)∧(k=8∨k=9∨k=10→0≤slot∧slot<c.co)∧(k=8→0≤other∧other<c.mu)∧(k=11∨k=12→0≤slot∧slot<c.ch)∧(k=12→vaOk c lo other loc)∧(k=13→0≤slot∧slot<c.th)
theorem ownOk.up {c:Cn}{lo hi k s o:Int}{l:Bool}(h:ownOk c lo k s o l)(hl:lo≤hi):ownOk c hi k s o l:=by
 obtain ⟨h1,h2,h3,h4,h5,h6,h7,h8⟩:=h
 exact ⟨fun e=>(h1 e).up hl,h2,h3,h4,h5,h6,fun e=>(h7 e).up hl,h8⟩
mutual
def PStm.wl (c:Cn)(lo:Int):PStm→Prop
 | .mk k _ _ _ _ e ix body els id slot other loc=>(1≤k∧k≤15)∧(k≤5∨k=11∨k=15→e.fit∧e.dep≤24∧e.wl c lo)∧(k=3→ix.fit∧ix.dep≤24∧ix.wl c lo)∧(0≤id∧id<512)∧ownOk c lo k slot other loc∧Vf c lo body∧Vf c lo els
def Vf (c:Cn)(lo:Int):List PStm→Prop
 | []=>True
 |s::r=>s.wl c lo∧Vf c lo r
end
mutual
theorem F1 {c:Cn}{lo hi:Int}(hl:lo≤hi): ∀ {s:PStm},s.wl c lo→s.wl c hi
 | .mk ..,⟨h1,h2,h3,h4,h5,h6,h7⟩=>⟨h1,fun k=>⟨(h2 k).1,(h2 k).2.1,H3 hl (h2 k).2.2⟩,fun k=>⟨(h3 k).1,(h3 k).2.1,H3 hl (h3 k).2.2⟩,h4,h5.up hl,K5 hl h6,K5 hl h7⟩
theorem K5 {c:Cn}{lo hi:Int}(hl:lo≤hi): ∀ {l:List PStm},Vf c lo l→Vf c hi l
 | [],_=>trivial
 |_::_,⟨h1,h2⟩=>⟨F1 hl h1,K5 hl h2⟩
end
mutual
theorem Sk {c:Cn}{lo:Int}(hc:c.th≤1000000): ∀ {s:PStm},s.wl c lo→s.fit
 | .mk ..,⟨h1,h2,h3,h4,h5,h6,h7⟩=>⟨h1,fun k=>(h2 k).1,fun k=>(h3 k).1,fun k=>by have:=h5.2.2.2.2.2.2.2 k;omega,J0 hc h6,J0 hc h7⟩
theorem J0 {c:Cn}{lo:Int}(hc:c.th≤1000000): ∀ {l:List PStm},Vf c lo l→PStm.fits l
 | [],_=>trivial
 |_::_,⟨h1,h2⟩=>⟨Sk hc h1,J0 hc h2⟩
end
structure Ctx (c:Cn) (f:Fnd):Prop where
 n: ∀ x∈f.names,NmOk c f.locals x
 l:0≤f.locals∧f.locals≤f.most∧f.most≤32
 s:0≤f.stm
theorem On {c:Cn}{f:Fnd}{k sl ot:Int}{nm wt:ByteArray}{lo:Bool}(h:(f.own k nm wt sl ot lo).1.flaw=0)(hx:Ctx c f):
 f.flaw=0∧Ctx c (f.own k nm wt sl ot lo).1∧f.most≤(f.own k nm wt sl ot lo).1.most∧(f.own k nm wt sl ot lo).1.stm=f.stm∧ownOk c (f.own k nm wt sl ot lo).1.most k (f.own k nm wt sl ot lo).2.1 (f.own k nm wt sl ot lo).2.2.1 (f.own k nm wt sl ot lo).2.2.2:=by
 obtain ⟨g,hg⟩: ∃ g,f.own1 k nm sl lo=g:=⟨_,rfl⟩
 unfold Fnd.own at h⊢
 rw [hg] at h⊢
 -- behind own1 nothing is flawed
 have h1:g.1.flaw=0:=by
  unfold Fnd.own2 at h
  split at h
  · exact (T7 (show ((g.1.loc1 nm).loc2).flaw=0 from h)).2.2
  split at h
  · dsimp only at h;rw [←(Fnd.wants_ok h).1];exact h
  split at h
  · dsimp only at h;rw [←(Fnd.wants_ok h).1];exact h
  exact h
 have hw:g.1=f∧(k=2→vaOk c f.locals g.2.1 g.2.2)∧(k=3→0≤g.2.1∧g.2.1<c.a)∧(k=6∨k=7→0≤g.2.1∧g.2.1<c.mu)∧(k=8∨k=9∨k=10→0≤g.2.1∧g.2.1<c.co)∧(k=11∨k=12→0≤g.2.1∧g.2.1<c.ch)∧(k=13→0≤g.2.1∧g.2.1<c.th):=by
  rw [←hg] at h1⊢
  unfold Fnd.own1 at h1⊢
  by_cases hz:(Kr k).1≠0
  · rw [if_pos hz] at h1⊢
    obtain ⟨e1,x,hx1,hk,e2⟩:=Fnd.wants_ok h1
    have ho:=hx.n x hx1
    rw [e2]
    refine ⟨e1,fun e=> ?_,fun e=> ?_,fun e=> ?_,fun e=> ?_,fun e=> ?_,fun e=> ?_⟩
    · subst e
      refine ⟨ho.z,?_⟩
      dsimp only
      rcases hk with hk|hk
      · rw [if_neg (by rw [hk];decide)];exact ho.v hk
      rw [if_pos (by rw [hk];decide)];exact ho.lo hk
    · subst e;exact ⟨ho.z,ho.a (by rcases hk with e|e<;>exact e)⟩
    · refine ⟨ho.z,ho.mu ?_⟩;rcases e with e|e<;>subst e<;>rcases hk with e|e<;>exact e
    · refine ⟨ho.z,ho.co ?_⟩;rcases e with e|e|e<;>subst e<;>rcases hk with e|e<;>exact e
    · refine ⟨ho.z,ho.ch ?_⟩;rcases e with e|e<;>subst e<;>rcases hk with e|e<;>exact e
    subst e;exact ⟨ho.z,ho.th (by rcases hk with e|e<;>exact e)⟩
  rw [if_neg hz] at h1⊢
  have hz2:(Kr k).1=0:=Decidable.not_not.1 hz
  refine ⟨rfl,fun e=> ?_,fun e=> ?_,fun e=> ?_,fun e=> ?_,fun e=> ?_,fun e=> ?_⟩<;>exfalso<;>revert hz2
  · subst e;decide
  · subst e;decide
  · rcases e with e|e<;>subst e<;>decide
  · rcases e with e|e|e<;>subst e<;>decide
  · rcases e with e|e<;>subst e<;>decide
  subst e;decide
 obtain ⟨e1,w2,w3,w4,w5,w6,w7⟩:=hw
 obtain ⟨g1,gs,gl⟩:=g
 dsimp only at*
 subst e1
 obtain ⟨l1,l2,l3⟩:=hx.l
 refine ⟨h1,?_⟩
 unfold Fnd.own2 at h⊢
 split at h
 · rename_i hk
   rw [if_pos hk]
   obtain ⟨e3,e4,_⟩:=T7 (show ((g1.loc1 nm).loc2).flaw=0 from h)
   dsimp only
   rw [e3]
   have hm:(g1.loc3 nm).most=max g1.most (g1.locals+1):=rfl
   have hlo:(g1.loc3 nm).locals=g1.locals+1:=rfl
   refine ⟨⟨fun x hx1=> ?_,⟨by omega,by omega,by omega⟩,hx.s⟩,by omega,rfl,?_⟩
   · rcases List.mem_append.1 (show x∈g1.names++ [⟨nm,100,g1.locals⟩] from hx1) with hx1|hx1
     · exact (hx.n x hx1).up (Cn.le_refl c) (by omega)
     rw [List.mem_singleton.1 hx1]
     exact ⟨l1,fun e=>absurd (show (100:Int)=1 from e) (by decide),fun e=>absurd (show (100:Int)=2 from e) (by decide),fun e=>absurd (show (100:Int)=3 from e) (by decide),fun e=>absurd (show (100:Int)=4 from e) (by decide),fun e=>absurd (show (100:Int)=5 from e) (by decide),fun e=>absurd (show (100:Int)=6 from e) (by decide),fun _=>by dsimp only;omega⟩
   exact ⟨fun _=>⟨l1,by rw [if_pos rfl];omega⟩,fun e=>by omega,fun e=>by omega,fun e=>by omega,fun e=>by omega,fun e=>by omega,fun e=>by omega,fun e=>by omega⟩
 rename_i hk1
 rw [if_neg hk1]
 split at h
 · rename_i hk
   rw [if_pos hk]
   dsimp only at h⊢
   obtain ⟨e1,x,hx1,hk3,e2⟩:=Fnd.wants_ok h
   rw [e1,e2]
   have ho:=hx.n x hx1
   exact ⟨hx,Int.le_refl _,rfl,fun e=>by omega,fun e=>by omega,fun e=>by omega,fun e=>w5 (by omega),fun _=>⟨ho.z,ho.mu (by rcases hk3 with e|e<;>exact e)⟩,fun e=>by omega,fun e=>by omega,fun e=>by omega⟩
 rename_i hk2
 rw [if_neg hk2]
 split at h
 · rename_i hk
   rw [if_pos hk]
   dsimp only at h⊢
   obtain ⟨e1,x,hx1,hk3,e2⟩:=Fnd.wants_ok h
   rw [e1,e2]
   have ho:=hx.n x hx1
   refine ⟨hx,Int.le_refl _,rfl,fun e=>by omega,fun e=>by omega,fun e=>by omega,fun e=>by omega,fun e=>by omega,fun e=>w6 (by omega),fun _=>⟨ho.z,?_⟩,fun e=>by omega⟩
   dsimp only
   rcases hk3 with hk3|hk3
   · rw [if_neg (by rw [hk3];decide)];exact ho.v hk3
   rw [if_pos (by rw [hk3];decide)];have:=ho.lo hk3;omega
 rename_i hk3
 rw [if_neg hk3]
 dsimp only
 exact ⟨hx,Int.le_refl _,rfl,fun e=>(w2 (by omega)).up l2,w3,w4,fun e=>w5 (by omega),fun e=>by omega,fun e=>w6 (by omega),fun e=>by omega,w7⟩
theorem Ou {f:Fnd}{k sl ot:Int}{nm wt:ByteArray}{lo:Bool}(h:(f.own k nm wt sl ot lo).1.flaw=0):f.flaw=0:=by
 have h1:(f.own1 k nm sl lo).1.flaw=0:=by
  unfold Fnd.own Fnd.own2 at h
  split at h
  · exact (T7 (show (((f.own1 k nm sl lo).1.loc1 nm).loc2).flaw=0 from h)).2.2
  split at h
  · dsimp only at h;rw [←(Fnd.wants_ok h).1];exact h
  split at h
  · dsimp only at h;rw [←(Fnd.wants_ok h).1];exact h
  exact h
 unfold Fnd.own1 at h1
 split at h1
 · dsimp only at h1;rw [←(Fnd.wants_ok h1).1];exact h1
 exact h1
theorem T8 (l:List PStm)(f:Fnd)(h:(f.blk l).1.flaw=0):f.flaw=0:=by
 cases l with
 |nil=>exact h
 |cons s r=>
  simp only [Fnd.blk] at h
  split at h
  · rename_i k;exact k
  exact h
mutual
/-- A statement that Check lets pass. -/
def PStm.raw:PStm→Prop
 | .mk k _ _ _ _ e ix body els _ _ _ _=>(1≤k∧k≤15)∧(k≤5∨k=11∨k=15→e.fit∧e.dep≤24)∧(k=3→ix.fit∧ix.dep≤24)∧(e.sz≤e.nd+1∧ix.sz≤ix.nd+1)∧Ux body∧Ux els
def Ux:List PStm→Prop
 | []=>True
 |s::r=>s.raw∧Ux r
end
mutual
theorem Su {c:Cn}: ∀ (s:PStm) (f:Fnd),s.raw→(f.stmt s).1.flaw=0→Ctx c f→f.flaw=0∧Ctx c (f.stmt s).1∧f.most≤(f.stmt s).1.most∧(f.stmt s).2.wl c (f.stmt s).1.most
 | .mk k ln cl nm wt e ix body els id slot other loc,f,hr,h,hx=>by
  obtain ⟨r1,r2,r3,r4,r5,r6⟩:=hr
  simp only [Fnd.stmt] at h⊢
  split at h
  · exact absurd h (Ve (by decide))
  rename_i h5
  rw [if_neg h5]
  dsimp only at h⊢
  obtain ⟨g0,hg0⟩: ∃ g:Fnd,g= { f with stm:=f.stm+1 } :=⟨_,rfl⟩
  rw [←hg0] at h⊢
  obtain ⟨f1,hf1⟩: ∃ g,g=g0.expr ix:=⟨_,rfl⟩
  rw [←hf1] at h⊢
  obtain ⟨f2,hf2⟩: ∃ g,g=f1.1.expr e:=⟨_,rfl⟩
  rw [←hf2] at h⊢
  obtain ⟨f3,hf3⟩: ∃ g,g=f2.1.own k nm wt slot other loc:=⟨_,rfl⟩
  rw [←hf3] at h⊢
  obtain ⟨f4,hf4⟩: ∃ g,g=f3.1.blk body:=⟨_,rfl⟩
  rw [←hf4] at h⊢
  obtain ⟨g4,hg4⟩: ∃ g:Fnd,g= { f4.1 with names:=f3.1.names,locals:=f3.1.locals } :=⟨_,rfl⟩
  rw [←hg4] at h⊢
  obtain ⟨f5,hf5⟩: ∃ g,g=g4.blk els:=⟨_,rfl⟩
  rw [←hf5] at h⊢
  have q5:=T8 els g4 (by rw [←hf5];exact h)
  have q4:f4.1.flaw=0:=by rw [hg4] at q5;exact q5
  have q3:f3.1.flaw=0:=T8 body f3.1 (by rw [←hf4];exact q4)
  have q2:f2.1.flaw=0:=Ou (by rw [←hf3];exact q3)
  have p2:=Nr (c:=c) (lo:=f.locals) e f1.1 (by rw [←hf2];exact q2)
  rw [←hf2] at p2
  have q1:f1.1.flaw=0:=by rw [←p2.1];exact q2
  have p1:=Nr (c:=c) (lo:=f.locals) ix g0 (by rw [←hf1];exact q1)
  rw [←hf1] at p1
  have x0:Ctx c g0:=by rw [hg0];exact ⟨hx.n,hx.l,by have:=hx.s;dsimp only;omega⟩
  have e2:f2.1=g0:=p2.1.trans p1.1
  have nok: ∀ x∈g0.names,NmOk c f.locals x:=by rw [hg0];exact hx.n
  have w1:=p1.2 nok
  have w2:=p2.2 (by rw [p1.1];exact nok)
  have own:=On (c:=c) (f:=f2.1) (k:=k) (sl:=slot) (ot:=other) (nm:=nm) (wt:=wt) (lo:=loc) (by rw [←hf3];exact q3) (by rw [e2];exact x0)
  rw [←hf3] at own
  obtain ⟨o1,o2,o3,o4,o5⟩:=own
  have b4:=Mn (c:=c) body f3.1 r5 (by rw [←hf4];exact q4) o2
  rw [←hf4] at b4
  obtain ⟨b41,b42,b43⟩:=b4
  have x4:Ctx c g4:=by rw [hg4];exact ⟨o2.n,⟨o2.l.1,by have:=o2.l.2.1;dsimp only;omega,b41.l.2.2⟩,b41.s⟩
  have b5:=Mn (c:=c) els g4 r6 (by rw [←hf5];exact h) x4
  rw [←hf5] at b5
  obtain ⟨b51,b52,b53⟩:=b5
  have m4:g4.most=f4.1.most:=by rw [hg4]
  have m2:f2.1.most=f.most:=by rw [e2,hg0]
  have s2:f2.1.stm=f.stm+1:=by rw [e2,hg0]
  have k1:=Ui ix g0
  have k2:=Ui e f1.1
  rw [←hf1] at k1;rw [←hf2] at k2
  have hl:=hx.l
  have hlm:f.locals≤f5.1.most:=by omega
  refine ⟨by rw [e2,hg0] at o1;exact o1,⟨o2.n,⟨o2.l.1,by have:=o2.l.2.1;dsimp only;omega,b51.l.2.2⟩,b51.s⟩,by (try dsimp only);omega,r1,fun hk=>⟨k2.2.2 (r2 hk).1,by rw [k2.2.1];exact (r2 hk).2,H3 hlm w2⟩,fun hk=>⟨k1.2.2 (r3 hk).1,by rw [k1.2.1];exact (r3 hk).2,H3 hlm w1⟩,⟨hx.s,by omega⟩,o5.up (by (try dsimp only);omega),K5 (by (try dsimp only);omega) b43,b53⟩
theorem Mn {c:Cn}: ∀ (l:List PStm) (f:Fnd),Ux l→(f.blk l).1.flaw=0→Ctx c f→Ctx c (f.blk l).1∧f.most≤(f.blk l).1.most∧Vf c (f.blk l).1.most (f.blk l).2
 | [],f,_,_,hx=>⟨hx,Int.le_refl _,trivial⟩
 |s::r,f,hr,h,hx=>by
  simp only [Fnd.blk] at h⊢
  split at h
  · rename_i h5
    rw [if_pos h5]
    have q:=T8 r (f.stmt s).1 h
    obtain ⟨_,a2,a3,a4⟩:=Su (c:=c) s f hr.1 q hx
    obtain ⟨b1,b2,b3⟩:=Mn (c:=c) r (f.stmt s).1 hr.2 h a2
    exact ⟨b1,by (try dsimp only);omega,F1 b2 a4,b3⟩
  rename_i h5;exact absurd h h5
end
mutual
theorem Sp: ∀ (s:PStm) (f:Fnd),s.raw→(f.stmt s).2.wt≤14*s.nd
 | .mk k ln cl nm wt e ix body els id slot other loc,f,hr=>by
  obtain ⟨_,_,_,⟨r1,r2⟩,r5,r6⟩:=hr
  simp only [Fnd.stmt]
  split
  · have h1:=Qm body r5;have h2:=Qm els r6
    simp only [PStm.wt,Nq];omega
  dsimp only
  have k1:=Ui ix { f with stm:=f.stm+1 }
  have k2:=Ui e (Fnd.expr { f with stm:=f.stm+1 } ix).1
  simp only [PStm.wt,Nq,k1.1,k2.1]
  refine Nat.le_trans (Nat.add_le_add_left (Kg els _ r6) _) (Nat.le_trans (Nat.add_le_add_right (Nat.add_le_add_left (Kg body _ r5) _) _) ?_)
  omega
theorem Kg: ∀ (l:List PStm) (f:Fnd),Ux l→Ze (f.blk l).2≤14*Z2 l
 | [],f,_=>Nat.zero_le _
 |s::r,f,hr=>by
  simp only [Fnd.blk]
  split
  · have h1:=Sp s f hr.1;have h2:=Kg r (f.stmt s).1 hr.2
    simp only [Ze,Z2];omega
  simp [Ze]
theorem Sz: ∀ (s:PStm),s.raw→s.wt≤14*s.nd
 | .mk k ln cl nm wt e ix body els id slot other loc,hr=>by
  obtain ⟨_,_,_,⟨r1,r2⟩,r5,r6⟩:=hr
  have h1:=Qm body r5;have h2:=Qm els r6
  simp only [PStm.wt,Nq];omega
theorem Qm: ∀ (l:List PStm),Ux l→Ze l≤14*Z2 l
 | [],_=>Nat.zero_le _
 |s::r,hr=>by
  have h1:=Sz s hr.1;have h2:=Qm r hr.2
  simp only [Ze,Z2];omega
end
mutual
theorem Qp: ∀ {e:PEx} {d:Nat},e.right d=true→e.sz=e.nd∧e.dep≤d
 | .mk k n nm _ _ op args,d,h=>by
  simp only [PEx.right] at h
  split at h
  · cases h
  rename_i h0
  split at h
  · rename_i hk
    rw [Bool.and_eq_true] at h
    have hd:1≤d:=by
     unfold Dz at h0
     simp only [Bool.or_eq_true,not_or,decide_eq_true_eq] at h0
     omega
    obtain ⟨a,b⟩:=Ta h.2
    simp only [PEx.sz,PEx.nd,PEx.dep]
    rw [if_neg (by omega)]
    omega
  cases h
theorem Ta: ∀ {l:List PEx} {d:Nat},Wy l d=true→Vv l=Ej l∧Yu l≤d
 | [],_,_=>⟨rfl,Nat.zero_le _⟩
 |e::r,d,h=>by
  simp only [Wy,Bool.and_eq_true] at h
  have h1:=Qp h.1;have h2:=Ta h.2
  simp only [Vv,Ej,Yu];omega
end
theorem F3 {e:PEx}(h:e.nil=true):e.sz≤e.nd+1:=by
 cases e with
 |mk k n nm s l op args=>
  simp only [PEx.nil,Bool.and_eq_true,decide_eq_true_eq] at h
  have:args= []:=List.eq_nil_of_length_eq_zero h.2
  subst this
  simp only [PEx.sz,Vv];omega
mutual
theorem Ar: ∀ {s:PStm} {n:Nat},s.may n=true→s.raw
 | .mk k _ _ nm wt e ix body els _ _ _ _,n,h=>by
  simp only [PStm.may] at h
  split at h;cases h
  rename_i h1
  split at h;cases h
  split at h;cases h
  rename_i h3
  split at h;cases h
  rw [Bool.and_eq_true] at h
  unfold Zq9 at h1
  simp only [Bool.or_eq_true,not_or,decide_eq_true_eq] at h1
  unfold P2 at h3
  have hE:Gg k=true→e.right 24=true:=fun hE=>by cases hr:e.right 24 with|true=>rfl|false=>simp [hE,hr] at h3
  have hN:Gg k=false→e.nil=true:=fun hE=>by cases hr:e.nil with|true=>rfl|false=>simp [hE,hr] at h3
  have hI:k=3→ix.right 24=true:=fun hk=>by cases hr:ix.right 24 with|true=>rfl|false=>simp [hk,hr] at h3
  have hJ: ¬k=3→ix.nil=true:=fun hk=>by cases hr:ix.nil with|true=>rfl|false=>simp [hk,hr] at h3
  refine ⟨by omega,fun hk=> ?_,fun hk=>⟨Hy (hI hk),(Qp (hI hk)).2⟩,⟨?_,?_⟩,Q3 h.1,Q3 h.2⟩
  · have:Gg k=true:=by unfold Gg;simp only [Bool.or_eq_true,decide_eq_true_eq,beq_iff_eq];omega
    exact ⟨Hy (hE this),(Qp (hE this)).2⟩
  · cases hk:Gg k with
    |true=>have:=(Qp (hE hk)).1;omega
    |false=>exact F3 (hN hk)
  by_cases hk:k=3
  · have:=(Qp (hI hk)).1;omega
  exact F3 (hJ hk)
theorem Q3: ∀ {l:List PStm} {n:Nat},Ww l n=true→Ux l
 | [],_,_=>trivial
 |s::r,n,h=>by
  simp only [Ww,Bool.and_eq_true] at h
  exact ⟨Ar h.1,Q3 h.2⟩
end
structure DInv (f:Fnd):Prop where
 n: ∀ x∈f.names,NmOk f.cn 0 x
 l:f.locals=0∧f.stm=0
 k:f.names.length≤64∧f.vars.length≤f.names.length∧f.arrs.length≤f.names.length∧f.chs.length≤f.names.length∧f.ths.length≤f.names.length∧(0≤f.mu∧f.mu≤f.names.length)∧(0≤f.co∧f.co≤f.names.length)
 v: ∀ n∈f.vars, -2147483648≤n∧n≤2147483647
 a: ∀ n∈f.arrs,1≤n∧n≤256
 c: ∀ n∈f.chs,1≤n∧n≤16
 t: ∀ t∈f.ths,(1≤t.nm.size∧t.nm.size≤16)∧t.loc=0∧t.body= []
theorem Nv {α:Type}{φ:α→Prop}{l:List α}{x:α}(h: ∀ y∈l,φ y)(hx:φ x): ∀ y∈l++ [x],φ y:=by
 intro y hy
 rcases List.mem_append.1 hy with hy|hy
 · exact h y hy
 rw [List.mem_singleton.1 hy];exact hx
theorem DInv.z:DInv Fnd.z:=⟨fun x hx=>(by cases hx),⟨rfl,rfl⟩,by decide,fun x hx=>(by cases hx),fun x hx=>(by cases hx),fun x hx=>(by cases hx),fun x hx=>(by cases hx)⟩
theorem DInv.decl {f:Fnd}{d:PDec}(h:DInv f)(hf:(f.decl d).flaw=0)(h0:f.flaw=0)(hk:1≤d.k∧d.k≤6)(hn:1≤d.nm.size∧d.nm.size≤16):DInv (f.decl d):=by
 have key: ∃ g s,f.decl d= { g with names:=f.names++ [⟨d.nm,d.k,s⟩] } ∧g.names=f.names∧f.names.length<64∧g=(f.decl1 d).1∧s=(f.decl1 d).2.1∧(f.decl1 d).2.2=true:=by
  unfold Fnd.decl at hf⊢
  split at hf
  · exact absurd hf (Ve (by decide))
  rename_i c1
  rw [if_neg c1]
  split at hf
  · rename_i c2;rw [Ts c2] at hf;exact absurd hf (Ve (by decide))
  rename_i c2
  rw [if_neg c2]
  have en:(f.decl1 d).1.names=f.names:=by
   unfold Fnd.decl1
   (repeat' split)<;>first|rfl|exact (f.fl_keep _).2.2.1
  split at hf
  · exact absurd hf (Ve (by decide))
  rename_i c3
  rw [if_neg c3]
  rw [en] at c3
  exact ⟨_,_,by rw [en],en,by omega,rfl,rfl,by revert c2;cases (f.decl1 d).2.2<;>simp⟩
 obtain ⟨g,s,e1,e2,e3,e4,e5,e6⟩:=key
 rw [e1]
 obtain ⟨i1,i2,i3,i4,i5,i6,i7⟩:=h
 have hc:d.k=1∨d.k=2∨d.k=3∨d.k=4∨d.k=5∨d.k=6:=by omega
 have nms: ∀ {c:Cn},f.cn.le c→NmOk c 0 ⟨d.nm,d.k,s⟩→ ∀ x∈f.names++ [⟨d.nm,d.k,s⟩],NmOk c 0 x:=fun hle ho=>Nv (fun y hy=>(i1 y hy).up hle (Int.le_refl _)) ho
 unfold Fnd.decl1 at e4 e5 e6
 rcases hc with hc|hc|hc|hc|hc|hc 
 · rw [if_pos hc] at e4 e5 e6
   split at e6
   · cases e6
   rename_i c2
   rw [if_neg c2] at e4 e5
   subst e4;subst e5
   refine ⟨nms ⟨by simp [Fnd.cn]<;>omega,Int.le_refl _,Int.le_refl _,Int.le_refl _,Int.le_refl _,Int.le_refl _⟩ ⟨by simp,fun _=>by simp [Fnd.cn]<;>omega,?_,?_,?_,?_,?_,?_⟩,i2,by simp;omega,Nv i4 (by omega),i5,i6,i7⟩<;>(intro e;have e:d.k=_:=e;omega)
 · rw [if_neg (by omega),if_pos hc] at e4 e5 e6
   split at e6
   · cases e6
   rename_i c2
   rw [if_neg c2] at e4 e5
   subst e4;subst e5
   refine ⟨nms ⟨Int.le_refl _,by simp [Fnd.cn]<;>omega,Int.le_refl _,Int.le_refl _,Int.le_refl _,Int.le_refl _⟩ ⟨by simp,?_,fun _=>by simp [Fnd.cn]<;>omega,?_,?_,?_,?_,?_⟩,i2,by simp;omega,i4,Nv i5 (by omega),i6,i7⟩<;>(intro e;have e:d.k=_:=e;omega)
 · rw [if_neg (by omega),if_neg (by omega),if_pos hc] at e4 e5 e6
   subst e4;subst e5
   refine ⟨nms ⟨Int.le_refl _,Int.le_refl _,by simp [Fnd.cn]<;>omega,Int.le_refl _,Int.le_refl _,Int.le_refl _⟩ ⟨by dsimp only;omega,?_,?_,fun _=>by simp [Fnd.cn]<;>omega,?_,?_,?_,?_⟩,i2,by simp;omega,i4,i5,i6,i7⟩<;>(intro e;have e:d.k=_:=e;omega)
 · rw [if_neg (by omega),if_neg (by omega),if_neg (by omega),if_pos hc] at e4 e5 e6
   subst e4;subst e5
   refine ⟨nms ⟨Int.le_refl _,Int.le_refl _,Int.le_refl _,by simp [Fnd.cn]<;>omega,Int.le_refl _,Int.le_refl _⟩ ⟨by dsimp only;omega,?_,?_,?_,fun _=>by simp [Fnd.cn]<;>omega,?_,?_,?_⟩,i2,by simp;omega,i4,i5,i6,i7⟩<;>(intro e;have e:d.k=_:=e;omega)
 · rw [if_neg (by omega),if_neg (by omega),if_neg (by omega),if_neg (by omega),if_pos hc] at e4 e5 e6
   split at e6
   · cases e6
   rename_i c2
   rw [if_neg c2] at e4 e5
   subst e4;subst e5
   refine ⟨nms ⟨Int.le_refl _,Int.le_refl _,Int.le_refl _,Int.le_refl _,by simp [Fnd.cn]<;>omega,Int.le_refl _⟩ ⟨by simp,?_,?_,?_,?_,fun _=>by simp [Fnd.cn]<;>omega,?_,?_⟩,i2,by simp;omega,i4,i5,Nv i6 (by omega),i7⟩<;>(intro e;have e:d.k=_:=e;omega)
 rw [if_neg (by omega),if_neg (by omega),if_neg (by omega),if_neg (by omega),if_neg (by omega),if_pos hc] at e4 e5 e6
 subst e4;subst e5
 refine ⟨nms ⟨Int.le_refl _,Int.le_refl _,Int.le_refl _,Int.le_refl _,Int.le_refl _,by simp [Fnd.cn]<;>omega⟩ ⟨by simp,?_,?_,?_,?_,?_,fun _=>by simp [Fnd.cn]<;>omega,?_⟩,i2,by simp;omega,i4,i5,i6,Nv i7 ⟨hn,rfl,rfl⟩⟩<;>(intro e;have e:d.k=_:=e;omega)
theorem DInv.decls: ∀ {ds:List PDec} {f:Fnd},DInv f→(∀ d∈ds,(1≤d.k∧d.k≤6)∧(1≤d.nm.size∧d.nm.size≤16))→(f.decls ds).flaw=0→DInv (f.decls ds)
 | [],_,h,_,_=>h
 |d::r,f,h,hd,hf=>by
  unfold Fnd.decls at hf⊢
  split at hf
  · rename_i h0
    rw [if_pos h0]
    have hz:(f.decl d).flaw=0:=by
     cases r with
     |nil=>exact hf
     |cons x r=>
      unfold Fnd.decls at hf
      split at hf
      · assumption
      exact hf
    exact DInv.decls (h.decl hz h0 (hd d (List.mem_cons_self ..)).1 (hd d (List.mem_cons_self ..)).2) (fun x hx=>hd x (List.mem_cons_of_mem _ hx)) hf
  rename_i h0;exact absurd hf h0
structure ThW (P:List PStm→Prop) (c:Cn) (t:PTh):Prop where
 n:1≤t.nm.size∧t.nm.size≤16
 l:0≤t.loc∧t.loc≤32
 b:Vf c t.loc t.body
 p:P t.body
structure BInv (P:List PStm→Prop) (d f:Fnd):Prop where
 e:f.vars=d.vars∧f.arrs=d.arrs∧f.chs=d.chs∧f.mu=d.mu∧f.co=d.co∧f.ths.length=d.ths.length∧f.names=d.names
 n: ∀ x∈d.names,NmOk d.cn 0 x
 l:f.locals=0∧0≤f.stm
 t: ∀ t∈f.ths,ThW P d.cn t
theorem BInv.bodies {P:List PStm→Prop}{d:Fnd}: ∀ {bs:List (List PStm)} {i:Nat} {f:Fnd},(∀ b∈bs,Ux b∧ ∀ g,P (Fnd.blk g b).2)→BInv P d f→(f.bodies i bs).flaw=0→BInv P d (f.bodies i bs)
 | [],_,_,_,h,_=>h
 |b::r,i,f,hb,h,hf=>by
  unfold Fnd.bodies at hf⊢
  split at hf
  · rename_i h0
    rw [if_pos h0]
    dsimp only at hf⊢
    obtain ⟨g,hg⟩: ∃ g,g=Fnd.block { f with most:=0 } b:=⟨_,rfl⟩
    rw [←hg] at hf⊢
    obtain ⟨q,hq⟩: ∃ q,q=Fnd.blk { f with most:=0 } b:=⟨_,rfl⟩
    have e1:g=({ q.1 with names:=f.names,locals:=f.locals },q.2):=by rw [hg,hq];rfl
    have fl:g.1.flaw=0:=by
     cases r with
     |nil=>exact hf
     |cons x r=>
      unfold Fnd.bodies at hf
      split at hf
      · assumption
      exact hf
    have flq:q.1.flaw=0:=by rw [e1] at fl;exact fl
    have to:=Fnd.To.blk b { f with most:=0 }
    rw [←hq] at to
    obtain ⟨t1,t2,t3,t4,t5,t6,_⟩:=to.e
    dsimp only at t1 t2 t3 t4 t5 t6
    obtain ⟨j1,j2,j3,j4,j5,j6,j7⟩:=h.e
    have cx:Ctx d.cn { f with most:=0 } :=⟨by dsimp only;rw [j7,h.l.1];exact h.n,by dsimp only;rw [h.l.1];decide,h.l.2⟩
    have w:=Mn (c:=d.cn) b { f with most:=0 } (hb b (List.mem_cons_self ..)).1 (by rw [←hq];exact flq) cx
    have hp:=(hb b (List.mem_cons_self ..)).2 { f with most:=0 }
    rw [←hq] at w hp
    obtain ⟨w1,w2,w3⟩:=w
    dsimp only at w2
    refine BInv.bodies (fun x hx=>hb x (List.mem_cons_of_mem _ hx)) ⟨?_,h.n,?_,?_⟩ hf
    · rw [e1];dsimp only;rw [List.length_set,t6];exact ⟨t1.trans j1,t2.trans j2,t5.trans j3,t3.trans j4,t4.trans j5,j6,j7⟩
    · rw [e1];exact ⟨h.l.1,w1.s⟩
    rw [e1]
    dsimp only
    rw [t6]
    intro t ht
    by_cases hi:i<f.ths.length
    · rcases List.mem_or_eq_of_mem_set ht with ht|ht
      · exact h.t t ht
      rw [ht,List.getD_eq_getElem?_getD,List.getElem?_eq_getElem hi]
      exact ⟨(h.t _ (List.getElem_mem hi)).n,⟨w2,w1.l.2.2⟩,w3,hp⟩
    rw [List.set_eq_of_length_le (by omega)] at ht;exact h.t t ht
  rename_i h0;exact absurd hf h0
structure PrgOk (P:List PStm→Prop) (F:Fnd):Prop where
 k:F.vars.length≤64∧F.arrs.length≤64∧F.chs.length≤64∧F.ths.length≤64∧(0≤F.mu∧F.mu≤64)∧(0≤F.co∧F.co≤64)
 v: ∀ n∈F.vars, -2147483648≤n∧n≤2147483647
 a: ∀ n∈F.arrs,1≤n∧n≤256
 c: ∀ n∈F.chs,1≤n∧n≤16
 t: ∀ t∈F.ths,ThW P F.cn t
 m:0≤F.main∧F.main<F.ths.length
theorem bad_nm {d:PDec}(h:d.bad=false):1≤d.nm.size∧d.nm.size≤16:=by
 unfold PDec.bad Zzq at h
 simp only [Bool.or_eq_false_iff,decide_eq_false_iff_not,Bool.not_eq_false'] at h
 obtain ⟨⟨⟨⟨⟨⟨⟨⟨_,_⟩,h3⟩,_⟩,_⟩,_⟩,_⟩,_⟩,_⟩:=h
 have h4:nmS (bs d.nm)=true:=by simpa using h3
 unfold nmS at h4
 split at h4
 · cases h4
 rename_i h5
 have e:(bs d.nm).length=d.nm.size:=K0 d.nm
 omega
theorem Ax {d:PDec}(h:d.bad=false):Ux d.body:=by
 unfold PDec.bad Zzq at h
 simp only [Bool.or_eq_false_iff,decide_eq_false_iff_not,Bool.not_eq_false'] at h
 exact Q3 h.2
theorem Lj {ds:List PDec}{F:Fnd}{P:List PStm→Prop}(h:G5 ds=some F)(h0:P [])(hP: ∀ d∈ds,d.bad=false→ ∀ g,P (Fnd.blk g d.body).2):PrgOk P F:=by
 unfold G5 at h
 split at h
 · cases h
 rename_i hbad
 have hok: ∀ d∈ds,d.bad=false:=fun d hd=>by
  cases hb:d.bad with
  |false=>rfl
  |true=>exact absurd (List.any_eq_true.2 ⟨d,hd,hb⟩) hbad
 dsimp only at h
 obtain ⟨f,hf⟩: ∃ f,f=Fnd.decls .z ds:=⟨_,rfl⟩
 rw [←hf] at h
 obtain ⟨f1,hf1⟩: ∃ f1,f1=(if f.flaw=0∧(f.at Hl=0∨((f.names.map (·.k)).getD (f.at Hl - 1) 0)≠6) then f.fl 133 else f):=⟨_,rfl⟩
 rw [←hf1] at h
 obtain ⟨bs,hbs⟩: ∃ b,b=(ds.filter fun d=>d.k==6).map (·.body):=⟨_,rfl⟩
 rw [←hbs] at h
 by_cases hfl:(f1.bodies 0 bs).flaw≠0
 · rw [if_pos hfl] at h;cases h
 rw [if_neg hfl] at h
 cases h
 have hfl2:=Decidable.not_not.1 hfl
 have z1:f1.flaw=0:=by
  cases bs with
  |nil=>exact hfl2
  |cons x r=>
   unfold Fnd.bodies at hfl2
   split at hfl2
   · assumption
   exact hfl2
 have hm:f1=f∧f.flaw=0∧f.at Hl≠0∧((f.names.map (·.k)).getD (f.at Hl - 1) 0)=6:=by
  split at hf1
  · rw [hf1] at z1;exact absurd z1 (Ve (by decide))
  rename_i hn;rw [hf1] at z1
  refine ⟨hf1,z1,fun k=>hn ⟨z1,.inl k⟩,Decidable.byContradiction fun k=>hn ⟨z1,.inr k⟩⟩
 obtain ⟨e1,z2,m1,m2⟩:=hm
 have D:DInv f:=by
  rw [hf]
  exact DInv.decls .z (fun d hd=>⟨(bad_no (hok d hd)).1,bad_nm (hok d hd)⟩) (by rw [←hf];exact z2)
 rw [e1] at hfl2⊢
 have B:=BInv.bodies (P:=P) (d:=f) (bs:=bs) (i:=0) (f:=f) (fun b hb=>by
  rw [hbs] at hb
  obtain ⟨d,hd,rfl⟩:=List.mem_map.1 hb
  have hd2:=(List.mem_filter.1 hd).1
  exact ⟨Ax (hok d hd2),hP d hd2 (hok d hd2)⟩) ⟨⟨rfl,rfl,rfl,rfl,rfl,rfl,rfl⟩,D.n,⟨D.l.1,by rw [D.l.2];decide⟩,fun t ht=>by
   obtain ⟨a,b,c⟩:=D.t t ht
   exact ⟨a,by omega,by rw [c];trivial,by rw [c];exact h0⟩⟩ hfl2
 obtain ⟨g,hg⟩: ∃ g,g=f.bodies 0 bs:=⟨_,rfl⟩
 rw [←hg] at B⊢
 obtain ⟨b1,b2,b3,b4,b5,b6,b7⟩:=B.e
 have cn:Fnd.cn { g with main:=(g.names.map (·.s)).getD (f.at Hl - 1) 0 } =f.cn:=by unfold Fnd.cn;dsimp only;rw [b1,b2,b3,b4,b5,b6]
 obtain ⟨k1,k2,k3,k4,k5,k6,k7⟩:=D.k
 refine ⟨?_,by dsimp only;rw [b1];exact D.v,by dsimp only;rw [b2];exact D.a,by dsimp only;rw [b3];exact D.c,by rw [cn];exact B.t,?_⟩
 · dsimp only;rw [b1,b2,b3,b4,b5,b6];omega
 have hlt:f.at Hl - 1<f.names.length:=by
  have:f.at Hl≤f.names.length:=He
  omega
 have e6:f.names[f.at Hl - 1].k=6:=by
  rw [List.getD_eq_getElem?_getD,List.getElem?_map,List.getElem?_eq_getElem hlt] at m2;exact m2
 have ho:=D.n _ (List.getElem_mem hlt)
 dsimp only
 rw [b7,List.getD_eq_getElem?_getD,List.getElem?_map,List.getElem?_eq_getElem hlt,b6]
 exact ⟨ho.z,ho.th e6⟩
theorem G1 {l:Bs}{ds:List PDec}(h:Qr l=some ds):(ds.map fun d=>Z2 d.body+1).sum≤l.length∧l.length≤65536:=by
 unfold Qr at h
 split at h
 · cases h
 rename_i h0
 split at h
 · cases h
 rename_i ts h1
 split at h
 · cases h
 rename_i us h2
 split at h
 · cases h
 cases h
 have h3:=(Mw h1).1
 have h4:=(Rm (Nat.le_refl _) h2).1
 omega
theorem text_prg {l:Bs}{F:Fnd}(h:Me l=some F):PrgOk (fun b=>Ze b≤14*l.length) F∧l.length≤65536:=by
 unfold Me at h
 split at h
 · cases h
 rename_i ds hd
 obtain ⟨h1,h2⟩:=G1 hd
 refine ⟨Lj h (Nat.zero_le _) fun d hm hb g=> ?_,h2⟩
 have h3:=Kg d.body g (Ax hb)
 have h4:=Dr (f:=fun d:PDec=>Z2 d.body+1) hm
 have h5:Z2 d.body+1≤(ds.map fun d=>Z2 d.body+1).sum:=h4
 show Ze (Fnd.blk g d.body).2≤14*l.length
 omega
structure FCok (g:FC):Prop where
 m: ∃ mn:Nat,g.main=(mn:Int)∧mn<g.ths.l.length
 f: ∀ x∈g.ths.l,PStm.fits (Zk x.body)
 w: ∀ x∈g.ths.l,Ze (Zk x.body)≤999999999
 n: ∀ x∈g.ths.l,x.nm.size≤9223372036854775807
 l:g.ths.l.length≤1000000
theorem FC.ok {g:FC}{l:Bs}(h:Me l=some g.er):FCok g:=by
 obtain ⟨p,hl⟩:=text_prg h
 have e:g.er.ths.length=g.ths.l.length:=by show (g.ths.l.map Th.er).length=_;rw [List.length_map]
 have k:=p.k.2.2.2.1
 rw [e] at k
 have th: ∀ x∈g.ths.l,x.er∈g.er.ths:=fun x hx=>List.mem_map_of_mem hx
 have hc:g.er.cn.th≤1000000:=by show (g.er.ths.length:Int)≤_;omega
 have hm:=p.m
 rw [e] at hm
 have hm1:0≤g.main:=hm.1
 have hm2:g.main<g.ths.l.length:=hm.2
 refine ⟨⟨g.main.toNat,by omega,by omega⟩,fun x hx=>J0 hc (p.t _ (th x hx)).b,fun x hx=> ?_,fun x hx=> ?_,by omega⟩
 · have:=(p.t _ (th x hx)).p
   have e2:x.er.body=Zk x.body:=rfl
   rw [e2] at this;omega
 have:=(p.t _ (th x hx)).n
 have e2:x.er.nm=x.nm:=rfl
 rw [e2] at this;omega
end Go.Proofs.YtgonllbkcgaliaaGreatDoor
