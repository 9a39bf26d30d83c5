/- Contracts. -/
import Derived.Test.YtadahhbefdnabaaGreatDoorVf
import Derived.LaidMore
import Derived.ProofKit
set_option maxHeartbeats 16000000
set_option maxRecDepth 100000
set_option linter.all false
namespace Go.Proofs.YtadahhbefdnabaaGreatDoor
open Go Go.RowKit Wx Go.Proofs.Tryz
attribute [local irreducible] lsH rsH stars
variable {p pp b c n N o ab ao ec:Nat}{nm:ByteArray}{K A B:List (Ins×Int)}{ln l0 u cd sl op:Int}{q r:List HP}{a:Option Addr}{G:World}{l el:List Ex}{i:Ins}{lo:Bool}
abbrev coC (pp nm:Nat)(K:List (Ins×Int))(ln:Int)(a:Option Addr)(c:Nat)(b:Option Addr)(d:Nat):List Value:= [.pointer (some ⟨pp,0,none⟩),.map (some nm),.slice a (K.map Prod.fst).length c,.slice b (K.map Prod.snd).length d,I64 ln]
def kiL:List (Int×Value×Nat):= [(1,.func (.func 166) #[] #[],0),(2,.func (.func 166) #[] #[],1),(3,.func (.func 167) #[] #[],2),(4,.func (.func 168) #[] #[],3),(5,.func (.func 169) #[] #[],4),(6,.func (.func 170) #[] #[],5),(7,.func (.func 170) #[] #[],6),(8,.func (.func 171) #[] #[],7),(9,.func (.func 170) #[] #[],8),(10,.func (.func 170) #[] #[],9),(11,.func (.func 172) #[] #[],10),(12,.func (.func 173) #[] #[],11),(13,.func (.func 174) #[] #[],12),(14,.func (.func 175) #[] #[],13),(15,.func (.func 176) #[] #[],14)]
def kiE (e:Int×Value×Nat):MapEntry:= { key:= I64 e.1,val:=e.2.1,born:=e.2.2 }
abbrev kiP (nm:Nat):HP:=pto nm (.map (kiL.map kiE).toArray 15)
abbrev coP (p pp nm:Nat)(K:List (Ins×Int))(ln:Int)(a:Option Addr)(c:Nat)(b:Option Addr)(d:Nat):HP:=pto p (.cells (coC pp nm K ln a c b d).toArray 215 (0,0))
def coH (p pp nm:Nat)(K:List (Ins×Int))(ln:Int):HP:=ex fun z:(Option Addr×Nat)×Option Addr×Nat=>stars [coP p pp nm K ln z.1.1 z.1.2 z.2.1 z.2.2,rsH Y8 4 222 z.1.1 z.1.2 (K.map Prod.fst),lsH I64 3 z.2.1 z.2.2 (K.map Prod.snd),kiP nm]
theorem coI {nm:Nat}{b:Option Addr}{d:Nat}(h:Le q (coP p pp nm K ln a c b d::rsH Y8 4 222 a c (K.map Prod.fst)::lsH I64 3 b d (K.map Prod.snd)::kiP nm::r)):Le q (coH p pp nm K ln::r):=
 h.trans (Wa ((a,c),b,d) (Zm [_,_,_,_] r))
section
variable {P:Program}{f:Fc}{Q:Yw}{k:List Item}{p:PE}{ds:List Deferred}{cs:List Frame}{ops l:List Oper}{pk:PE}{L:Rds}{done:List Nat}{nm:Nat}
theorem Zqf (x: ∀ a c a2 c2,X P G f Q k p ds cs (coP b pp nm K ln a c a2 c2::rsH Y8 4 222 a c (K.map Prod.fst)::lsH I64 3 a2 c2 (K.map Prod.snd)::kiP nm::r))(hq:Le q (coH b pp nm K ln::r):=by exact Zj):X P G f Q k p ds cs q:=
 .le hq (.ex fun z=> .le (Zy _ r) (x _ _ _ _))
theorem Eu (x: ∀ a c a2 c2,XO P G f Q ops.toArray k l p ds cs (coP b pp nm K ln a c a2 c2::rsH Y8 4 222 a c (K.map Prod.fst)::lsH I64 3 a2 c2 (K.map Prod.snd)::kiP nm::r))(hq:Le q (coH b pp nm K ln::r):=by exact Zj):XO P G f Q ops.toArray k l p ds cs q:=
 .le hq (.ex fun z=> .le (Zy _ r) (x _ _ _ _))
theorem XD.coO (x: ∀ a c a2 c2,XD P G f Q ops k pk L n done p ds cs (coP b pp nm K ln a c a2 c2::rsH Y8 4 222 a c (K.map Prod.fst)::lsH I64 3 a2 c2 (K.map Prod.snd)::kiP nm::r))(hq:Le q (coH b pp nm K ln::r):=by exact Zj):XD P G f Q ops k pk L n done p ds cs q:=
 .le hq (.ex fun z=> .le (Zy _ r) (x _ _ _ _))
end
theorem L7:(prog.info? 222).map (fun i=>(i.zero,i.size,i.bytes))=some (some (.agg #[I64 0,I64 0,I64 0,I64 0]),4,32):=by kernel_rfl
theorem Zva:(prog.info? 3).map (fun i=>(i.zero,i.size,i.bytes))=some (some (I64 0),1,8):=by kernel_rfl
section
variable {nm:Nat}
theorem Ix (hc:Cl q ⟨p,0+2,none⟩ (.slice a n c)):CallF prog G 236 (A3 p) (q) (Ret fun v q'=>v= I64 n/\q'=q):=by
 refine aB func236 ntmps236 rfl fun F cs=> ?_;refine xo 9 ?_;refine ld ?_ (hc:=(hc.le leA));refine ox 3 ?_;refine Zq (q) func236 (Zf results236 rfl) ⟨_,rfl,rfl,rfl⟩
theorem Qd (hl:K.length<=2000000000):CallF prog G 98 [.pointer (some ⟨p,0,none⟩),.agg (Y8 i).toArray] (coH p pp nm K ln::q) (Ret fun v q'=>q'=coH p pp nm (K++ [(i,ln)]) ln::q):=by
 refine aB func98 ntmps98 rfl fun F cs=> ?_;refine Zqf fun a c b d=> ?_
 have g:(K.map Prod.fst).length=K.length:=aI _;have e:(K.map Prod.snd).length=K.length:=aI _;unfold coP coC;refine xo 2 ?_;refine Zl fun h=> ?_
 refine rn [2,0,1,2,3,4,5,6] ?_;refine eE 6 rfl (Yz (u:=i) Y8 underlying213 L7 rfl rfl (fun _=>rfl) rfl) ?_;rintro _ _ ⟨k,rfl,rfl⟩;refine ⟨hlA,?_⟩;refine eE 7 rfl (Z4 (f:=Y8) (l:=K.map Prod.fst) (m:= [i]) underlying213 L7 rfl rfl (fun _=>rfl) rfl rfl Zj ((cI _).le leA) (fun _=>rfl) (by simp;omega) (by simp;omega)) ?_;refine kk2 fun s o=> ?_
 refine rn [9,10,11,0,0,1,2,3,4,5,6,7,8,9] ?_;refine eE 9 rfl (Uk (u:=ln) I64 underlying23 Zva rfl rfl) ?_;rintro _ _ ⟨j,rfl,rfl⟩;refine ⟨hlA,?_⟩;refine eE 10 rfl (Yb (f:=I64) (l:=K.map Prod.snd) (m:= [ln]) underlying23 Zva rfl rfl rfl Zj ((bY _).le leA) (fun _=>rfl) (by simp;omega) (by simp;omega)) ?_;refine kk2 fun r n=> ?_
 refine rn [12,13,14,0] ?_;rw [show K.map Prod.fst++ [i]=(K++ [(i,ln)]).map Prod.fst by simp,show K.map Prod.snd++ [ln]=(K++ [(i,ln)]).map Prod.snd by simp];refine Zr (coH p pp nm (K++ [(i,ln)]) ln::q) func98 (Yy results98) ⟨_,rfl,rfl⟩ (coI leA)
theorem Vs (hl:K.length<=2000000000):CallF prog G 177 [.pointer (some ⟨p,0,none⟩),I64 cd,I64 u] (coH p pp nm K ln::q) (Ret fun v q'=>q'=coH p pp nm (K++ [(⟨cd,u,0,0⟩,ln)]) ln::q):=by
 refine aB func177 ntmps177 rfl fun F cs=> ?_;refine xo 5 ?_;refine Zv call98 (aH _) (Qd (i:=⟨cd,u,0,0⟩) hl) ?_;rintro _ _ rfl;refine ox 1 ?_;refine Zr (coH p pp nm (K++ [(⟨cd,u,0,0⟩,ln)]) ln::q) func177 (Yy results177) ⟨_,rfl,rfl⟩
theorem Zqq {bb:Bool}(hl:K.length<=2000000000):CallF prog G 234 [.pointer (some ⟨p,0,none⟩),I64 u,.bool bb] (coH p pp nm K ln::q) (Ret fun v q'=>q'=coH p pp nm (K++ [(intoS u bb,ln)]) ln::q):=by
 refine aB func234 ntmps234 rfl fun F cs=> ?_;refine xx 4 ?_;refine cY 6 rfl ?_ ?_<;>intro a
 . obtain rfl:bb=true:=by simpa using a
   refine xo 4 ?_;refine Zv call177 (aH _) (Vs hl) ?_;rintro _ _ rfl;refine ox 1 ?_;refine Zr (coH p pp nm (K++ [(intoS u true,ln)]) ln::q) func234 (Yy results234) ⟨_,rfl,rfl⟩
 obtain rfl:bb=false:=by simpa using a
 refine xo 4 ?_;refine Zv call177 (aH _) (Vs hl) ?_;rintro _ _ rfl;refine ox 1 ?_;refine Zr (coH p pp nm (K++ [(intoS u false,ln)]) ln::q) func234 (Yy results234) ⟨_,rfl,rfl⟩
theorem Db (hl:K.length<=2000000000):CallF prog G 235 [.pointer (some ⟨p,0,none⟩),I64 cd] (coH p pp nm K ln::q) (Ret fun v q'=> ∃ j1 j2,v= .func (.func 284) [].toArray (A8 j1 j2).toArray/\q'=pto j1 (.cells [.pointer (some ⟨p,0,none⟩)].toArray 210 (0,0))::pto j2 (.cells [I64 K.length].toArray 3 (0,0))::coH p pp nm (K++ [(⟨cd,0,0,0⟩,ln)]) ln::q):=by
 refine aB func235 ntmps235 rfl fun F cs=> ?_;refine xo 2 ?_;refine Zl fun f=> ?_
 refine rn [4,0] ?_;refine Eu fun a c b d=> ?_
 refine bM call236 (Ix (n:=(K.map Prod.fst).length) clA) ?_;refine aW 7 (I64 K.length) rfl (by rw [aI]) ?_;refine eP (q':=coH p pp nm K ln::_) (coI leA) ?_;refine Zh zeroValue3 fun e=> ?_
 refine rn [0,3,0,1] ?_;refine Zv call177 Zj (Vs hl) ?_;rintro _ _ rfl;refine ox 6 ?_;refine Zq (pto f (.cells [.pointer (some ⟨p,0,none⟩)].toArray 210 (0,0))::pto e (.cells [I64 K.length].toArray 3 (0,0))::coH p pp nm (K++ [(⟨cd,0,0,0⟩,ln)]) ln::q) func235 (Zf results235 rfl) ⟨_,rfl,f,e,rfl,rfl⟩
theorem Mf {j1 j2:Nat}(hK:K=(A++(⟨cd,0,0,0⟩,l0)::B))(hn:A.length=n)(hN:K.length=N)(hl:N<=2000000000):CallF prog G 284 (A8 j1 j2) (pto j1 (.cells (A3 p).toArray 210 (0,0))::pto j2 (AH n)::coH p pp nm K ln::q) (Ret fun v q'=>q'=coH p pp nm (A++(⟨cd,(N:Int),0,0⟩,l0)::B) ln::q):=by
 refine aB func284 ntmps284 rfl fun F cs=> ?_;subst hK hn;refine Zqf fun a c b d=> ?_
 have e:((A++(⟨cd,0,0,0⟩,l0)::B).map Prod.fst).length=N:=(by rw [aI,hN]);have h:((A++(⟨cd,0,0,0⟩,l0)::B).map Prod.snd).length=N:=(by rw [aI,hN]);have i:A.length<N:=(by rw [<-hN,aA,aJ];omega);unfold coP coC;rw [e,h];refine U7 (l:=(A++(⟨cd,0,0,0⟩,l0)::B).map Prod.fst) (by omega) fun m o=> ?_;subst o;refine rn [0,1,2,3,4,5,6] ?_;refine Ys 6 call236 (Ix (n:=N) clA) ?_;refine dd [7,8] ?_;refine iM 9 rfl (V4 (g:=m) (f:=Y8) (l:=(A++(⟨cd,0,0,0⟩,l0)::B).map Prod.fst) (u:=⟨cd,(N:Int),0,0⟩) (n:=A.length) (k:=1) (j:=(A.length:Int)) rfl rfl sizeOf3 (fun _=>rfl) rfl (by rw [e];exact i) rfl (by simp;rfl) rfl rfl Zj) ?_;refine kk0 ?_;refine jV ?_;rw [show ((A++(⟨cd,0,0,0⟩,l0)::B).map Prod.fst).set A.length ⟨cd,(N:Int),0,0⟩=(A++(⟨cd,(N:Int),0,0⟩,l0)::B).map Prod.fst by simp [List.set_append],show (A++(⟨cd,0,0,0⟩,l0)::B).map Prod.snd=(A++(⟨cd,(N:Int),0,0⟩,l0)::B).map Prod.snd by simp];refine Zr (coH p pp nm (A++(⟨cd,(N:Int),0,0⟩,l0)::B) ln::q) func284 (Yy results284) ⟨_,rfl,rfl⟩ (coI (by unfold coP coC;rw [show ((A++(⟨cd,(N:Int),0,0⟩,l0)::B).map Prod.fst).length=N by rw [<-hN];simp,show ((A++(⟨cd,(N:Int),0,0⟩,l0)::B).map Prod.snd).length=N by rw [<-hN];simp];exact leA))
end
theorem Ue {i:Nat}{k n:Int}(hK:Kn q fun M=>ExAt M ⟨b,o,none⟩ (.mk k n nm sl lo op el (some ⟨ab,ao,none⟩) ec))(hi:i<el.length):Kn q fun M=>ExAt M ⟨ab,ao+(i:Int).toNat*7,none⟩ el[i]:=hK.imp fun M h=>by
 obtain ⟨e,d,c,a⟩:=iZ (i:=i) Yk (by decide) h.2.1.2.2 hi
 cases c
 exact ⟨a,Vr.1 h.2.2 _ (aC hi)⟩
theorem Wu {k n:Int}{ea:Option Addr}{i:Nat}(h:(Ex.mk k n nm sl lo op el ea ec).sz<=N+1)(hi:i<el.length):(el[i]).sz<=N:=by
 have:=Y7 (aC hi);simp only [Ex.sz] at h;omega
theorem Qw {i:Nat}(h:Uf (Z5 l)=true)(hi:i<l.length):(l[i]).er.plain=true:=by
 induction l generalizing i with
 |nil=>simp at hi
 |cons x r ih=>
  simp only [Z5,Uf,aR] at h
  cases i with
  |zero=>exact h.1
  |succ i=>exact ih h.2 (by simpa using hi)
theorem Vp {i:Nat}(h:Q1 (Z5 l))(hi:i<l.length):(l[i]).er.fit:=Ud h (by rw [Y3];exact aZ (aC hi))
section
variable {nm:Nat}
theorem bare_ok: ∀ (N:Nat) {e:Ex} {b o:Nat} {q:List HP},e.sz<=N->(Kn q fun M=>ExAt M ⟨b,o,none⟩ e)->CallF prog G 310 (AA b o) (q) (Ret fun v q'=>v= .bool e.er.plain/\q'=q):=fun N=>by
 induction N with
 |zero=>intro e b o q p;exact aV p (by cases e;simp only [Ex.sz];omega)
 |succ N IH=> 
 intro e b o q p n;obtain ⟨m,en,y,u,z,x,el,ea,ec⟩:=e;refine aB func310 ntmps310 rfl fun F cs=> ?_;have c:=Kn.exC n;have hA:Kn q fun M=>SlAt M ea ec el.length (el.flatMap exC)/\Ex.Ats M el:=n.imp fun M h=>h.2;have hS:=eR (hA.imp fun M h=>h.1.2.2);have i:=Zx Yk el
 refine jW (fun w s=>Zkj (cF (n.imp fun M h=>h.2)) s) fun c0=> ?_;obtain ⟨R,g⟩: ∃ R,(Ex.er (Ex.mk m en y u z x el ea ec)).plain=R:=⟨_,rfl⟩;rw [g];simp only [Ex.er,PEx.plain] at g;refine rf [10,0,2] c ?_;refine bB [9,2,0] ?_;apply Zb 6 15 9 rfl
 . intro a f;have a0:=sp a;refine rf [3,0,2] c ?_;exact Zz f ⟨orF a,Zw⟩
 . intro a f;have a0:=sp a;refine oo 6 ?_;exact Zz f ⟨orT a,Zw⟩
 refine ox 1 ?_;refine cY 15 rfl ?_ ?_<;>intro l
 . have r:m=2\/m=3:=(by simpa using l);rw [if_pos r] at g;refine xx 5 ?_;refine Zq (q) func310 (Zf results310 rfl) ⟨_,rfl,by rw [<-g],rfl⟩
 have r: ¬ (m=2\/m=3):=(by simpa using l);rw [if_neg r] at g;refine rf [8,0,4] c ?_;refine aX (cC (fun (s:Nat)=>s<=el.length/\R=Uf (Z5 (el.drop s))) (fun s=> [(0,.pointer (some ⟨b,o,none⟩)),(21,I64 s),(20,I64 el.length),(2,.bool false)]) (fun s=>(q++F)) (fun s=>el.length - s) (fun s j ih=> ?_) 0 ⟨bC _,g.symm⟩) Zn leA;try dsimp only at j ih|-
 obtain ⟨b0,t⟩:=j;refine xx 5 ?_;refine xp 22 ?_ ?_<;>intro h0
 . have d:s<el.length:=(by omega);have k:Uf (Z5 (el.drop s))=(el[s].er.plain && Uf (Z5 (el.drop (s+1)))):=by rw [aP d];rfl
   refine rf [14,0,1] c ?_;refine Ql (hS.le leA) (by rw [i];omega) fun ab ao e_=> ?_;subst e_;refine oo 1 ?_;refine bM call310 (IH (Wu p d) (cF (Ue n d))) ?_;refine ox 2 ?_;refine xp 31 ?_ ?_<;>intro l
   . refine xx 5 ?_;refine Zq (q) func310 (Zf results310 rfl) ⟨_,rfl,by rw [t,k,l];rfl,rfl⟩
   refine xx 7 ?_;refine aX (ih (s+1) ⟨by omega,by rw [t,k,l];rfl⟩ (by omega)) Zn leA
 obtain rfl:s=el.length:=by omega
 refine xx 6 ?_;refine Zq (q) func310 (Zf results310 rfl) ⟨_,rfl,by rw [t,dP];rfl,rfl⟩
abbrev Ax (v0:List Ex):=(v0.map (PEx.ev ∘ Ex.er))
theorem worth_ok: ∀ (N:Nat) {e:Ex} {b o:Nat} {q:List HP},e.sz<=N->(Kn q fun M=>ExAt M ⟨b,o,none⟩ e)->e.er.plain=true->e.er.fit->CallF prog G 312 (AA b o) (q) (RP (fun v q'=>(e.er.ev.2=0/\v= I64 e.er.ev.1)/\q'=q) (fun ch q'=>(e.er.ev.2≠0/\ch= [noVE])/\q'=q)):=fun N=>by
 induction N with
 |zero=>intro e b o q y;exact aV y (by cases e;simp only [Ex.sz];omega)
 |succ N IH=> 
 intro e b o q y hK hp hf;obtain ⟨ek,en,n0,m0,o0,x,el,ea,ec⟩:=e;refine aB func312 ntmps312 rfl fun F cs=> ?_;have f:=Kn.exC hK;have hA:Kn q fun M=>SlAt M ea ec el.length (el.flatMap exC)/\Ex.Ats M el:=hK.imp fun M h=>h.2;have hS:=eR (hA.imp fun M h=>h.1.2.2);have b0:=Zx Yk el
 simp only [Ex.er,PEx.plain] at hp;simp only [Ex.er,PEx.fit,Jw] at hf;obtain ⟨r0,h0,q0,k0,c0⟩:=hf;have hk: ¬ (ek=2\/ek=3):=(fun hx=>by rw [if_pos hx] at hp;cases hp);rw [if_neg hk] at hp;obtain ⟨R,a⟩:=lM (Ex.er (Ex.mk ek en n0 m0 o0 x el ea ec)).ev;rw [<-a];simp only [Ex.er,PEx.ev,Fy,Y3,fC] at a;have l0:ek=1\/ek=4\/ek=5\/(ek=6/\x=1)\/(ek=6/\x=2)\/(ek=6/\3<=x):=by omega
 rcases l0 with rfl|rfl|rfl|⟨rfl,rfl⟩|⟨rfl,rfl⟩|⟨rfl,p0⟩
 . rw [if_pos rfl] at a;refine rf [10,0,7,2009,6,0,2] f ?_;refine Zq (q) func312 (Zf results312 rfl) (fS ⟨⟨by rw [a],by rw [a]⟩,rfl⟩)
 . have hl:el.length=1:=h0;have d:0<el.length:=(by omega);refine Z7 (hS.le leA) (by rw [b0];omega) fun ab ao e_=> ?_;subst e_;obtain ⟨n,g⟩: ∃ A,(el[0]).er.ev=A:=⟨_,rfl⟩;have t:(el[0]).er.plain=true:=Qw hp d;have l:(el[0]).er.fit:=Vp c0 d;have d0: -2147483648<=n.1/\n.1<=2147483647:=(by rw [<-g];exact Vt l);have a0:(Ax el).getD 0 (0,0)=n:=(by rw [aG,bJ,aE d];exact g);rw [if_neg (by decide),a0] at a;refine rf [10,0,7,1009,6,2015,6,0,1] f ?_;refine Wl call312 (aH _) (IH (Wu y d) (cF (Ue hK d)) t l) ?_ ?_
   . rintro _ _ ⟨⟨c,rfl⟩,rfl⟩;exact dF func312 (eD ⟨⟨by rw [g] at c;rw [if_pos c] at a;rw [a];exact c,rfl⟩,rfl⟩)
   rintro _ _ ⟨⟨i,rfl⟩,rfl⟩;rw [g] at i|-;rw [if_neg (fun k=>k i)] at a;refine aW 22 (I64 n.1) rfl (rfl) ?_;rw [if_pos rfl] at a;refine oo 1 ?_;refine aW 23 (I64 (-n.1)) rfl (aQ (Value.int .i64) (show IntKind.i64.wrap (0 - n.1)= -n.1 by rw [Int.zero_sub];exact Qk (by omega) (by omega))) ?_;have e0:Ms 8 0 n.1=if val (-n.1) then (-n.1,0) else (0,2):=by unfold Ms;rw [if_neg (by decide),if_neg (by decide),if_neg (by decide),if_neg (by decide),if_neg (by rintro ⟨h|h,_⟩<;>exact aV h (by decide))];dsimp only;rw [if_neg (show ¬ (8:Int)=7 by decide),if_pos rfl,Int.zero_sub]
   refine Wl call327 (aH _) (Kw (z:=(-n.1)) (q:=q++F)) ?_ ?_
   . rintro _ _ ⟨⟨hn,rfl⟩,rfl⟩;exact dF func312 (eD ⟨⟨by rw [a,e0,if_neg hn];decide,rfl⟩,rfl⟩)
   rintro _ _ ⟨⟨hv,rfl⟩,rfl⟩;refine ox 2 ?_;refine Zq (q) func312 (Zf results312 rfl) (fS ⟨⟨by rw [a,e0,if_pos hv],by rw [a,e0,if_pos hv]⟩,rfl⟩)
 . have hl:el.length=1:=h0;have d:0<el.length:=(by omega);refine Z7 (hS.le leA) (by rw [b0];omega) fun ab ao e_=> ?_;subst e_;obtain ⟨n,g⟩: ∃ A,(el[0]).er.ev=A:=⟨_,rfl⟩;have t:(el[0]).er.plain=true:=Qw hp d;have l:(el[0]).er.fit:=Vp c0 d;have d0: -2147483648<=n.1/\n.1<=2147483647:=(by rw [<-g];exact Vt l);have a0:(Ax el).getD 0 (0,0)=n:=(by rw [aG,bJ,aE d];exact g);rw [if_neg (by decide),a0] at a;refine rf [10,0,7,1009,6,1015,6,2025,6,0,1] f ?_;refine Wl call312 (aH _) (IH (Wu y d) (cF (Ue hK d)) t l) ?_ ?_
   . rintro _ _ ⟨⟨c,rfl⟩,rfl⟩;exact dF func312 (eD ⟨⟨by rw [g] at c;rw [if_pos c] at a;rw [a];exact c,rfl⟩,rfl⟩)
   rintro _ _ ⟨⟨i,rfl⟩,rfl⟩;rw [g] at i|-;rw [if_neg (fun k=>k i)] at a;refine aW 32 (I64 n.1) rfl (rfl) ?_;rw [if_neg (by decide),if_pos rfl] at a;refine oo 1 ?_;refine bM call328 (Q8) ?_;refine ox 2 ?_;refine Zq (q) func312 (Zf results312 rfl) (fS ⟨⟨by rw [a],by rw [a]⟩,rfl⟩)
 . have hl:el.length=2:=h0;have d:0<el.length:=(by omega);have m:1<el.length:=(by omega);refine Z7 (hS.le leA) (by rw [b0];omega) fun ab ao e_=> ?_;subst e_;obtain ⟨n,g⟩: ∃ A,(el[0]).er.ev=A:=⟨_,rfl⟩;have t:(el[0]).er.plain=true:=Qw hp d;have l:(el[0]).er.fit:=Vp c0 d;have d0: -2147483648<=n.1/\n.1<=2147483647:=(by rw [<-g];exact Vt l);have a0:(Ax el).getD 0 (0,0)=n:=(by rw [aG,bJ,aE d];exact g);obtain ⟨s,p⟩: ∃ A,(el[1]).er.ev=A:=⟨_,rfl⟩;have w:(el[1]).er.plain=true:=Qw hp m;have r:(el[1]).er.fit:=Vp c0 m;have i0: -2147483648<=s.1/\s.1<=2147483647:=(by rw [<-p];exact Vt r);have g0:(Ax el).getD 1 (0,0)=s:=(by rw [aG,bJ,aE m];exact p);rw [if_neg (by decide),a0,g0] at a;refine rf [10,0,7,1009,6,1015,6,1025,8,0,1] f ?_;refine Wl call312 (aH _) (IH (Wu y d) (cF (Ue hK d)) t l) ?_ ?_
   . rintro _ _ ⟨⟨c,rfl⟩,rfl⟩;exact dF func312 (eD ⟨⟨by rw [g] at c;rw [if_pos c] at a;rw [a];exact c,rfl⟩,rfl⟩)
   rintro _ _ ⟨⟨i,rfl⟩,rfl⟩;rw [g] at i|-;rw [if_neg (fun k=>k i)] at a;refine aW 40 (I64 n.1) rfl (rfl) ?_;rw [if_neg (by decide),if_neg (by decide)] at a;refine rf [9,0,2,2047,5] f ?_;refine xp 41 ?_ ?_<;>intro g1
   . have f0:n.1≠0:=(by first|exact g1.2|simpa using g1);rw [if_pos (by exact .inl ⟨rfl,f0⟩)] at a;refine xx 5 ?_;refine Zq (q) func312 (Zf results312 rfl) (fS ⟨⟨by rw [a];try first|rfl|exact j,by rw [a];try rfl⟩,rfl⟩)
   have f0:n.1=0:=(by first|(simpa using g1)|(rcases g1 with g1|g1;exact aV rfl g1;simpa using g1));rw [if_neg (by rintro (⟨u,z2⟩|⟨u,z2⟩)<;>first|exact aV u (by decide)|exact aV z2 (by omega))] at a;refine rf [6,0,2,1057,13,0,1] f ?_;refine Wl call312 (aH _) (IH (Wu y m) (cF (Ue hK m)) w r) ?_ ?_
   . rintro _ _ ⟨⟨c,rfl⟩,rfl⟩;exact dF func312 (eD ⟨⟨by rw [p] at c;rw [if_pos c] at a;rw [a];exact c,rfl⟩,rfl⟩)
   rintro _ _ ⟨⟨j,rfl⟩,rfl⟩;rw [p] at j|-;rw [if_neg (fun k=>k j)] at a;refine aW 66 (I64 s.1) rfl (rfl) ?_;rw [if_pos (by decide)] at a;refine rf [8,0,8,2071,7] f ?_;refine bM call328 (Q8) ?_;refine ox 2 ?_;refine Zq (q) func312 (Zf results312 rfl) (fS ⟨⟨by rw [a];try first|rfl|exact j,by rw [a];try rfl⟩,rfl⟩)
 . have hl:el.length=2:=h0;have d:0<el.length:=(by omega);have m:1<el.length:=(by omega);refine Z7 (hS.le leA) (by rw [b0];omega) fun ab ao e_=> ?_;subst e_;obtain ⟨n,g⟩: ∃ A,(el[0]).er.ev=A:=⟨_,rfl⟩;have t:(el[0]).er.plain=true:=Qw hp d;have l:(el[0]).er.fit:=Vp c0 d;have d0: -2147483648<=n.1/\n.1<=2147483647:=(by rw [<-g];exact Vt l);have a0:(Ax el).getD 0 (0,0)=n:=(by rw [aG,bJ,aE d];exact g);obtain ⟨s,p⟩: ∃ A,(el[1]).er.ev=A:=⟨_,rfl⟩;have w:(el[1]).er.plain=true:=Qw hp m;have r:(el[1]).er.fit:=Vp c0 m;have i0: -2147483648<=s.1/\s.1<=2147483647:=(by rw [<-p];exact Vt r);have g0:(Ax el).getD 1 (0,0)=s:=(by rw [aG,bJ,aE m];exact p);rw [if_neg (by decide),a0,g0] at a;refine rf [10,0,7,1009,6,1015,6,1025,8,0,1] f ?_;refine Wl call312 (aH _) (IH (Wu y d) (cF (Ue hK d)) t l) ?_ ?_
   . rintro _ _ ⟨⟨c,rfl⟩,rfl⟩;exact dF func312 (eD ⟨⟨by rw [g] at c;rw [if_pos c] at a;rw [a];exact c,rfl⟩,rfl⟩)
   rintro _ _ ⟨⟨i,rfl⟩,rfl⟩;rw [g] at i|-;rw [if_neg (fun k=>k i)] at a;refine aW 40 (I64 n.1) rfl (rfl) ?_;rw [if_neg (by decide),if_neg (by decide)] at a;refine rf [9,0,2,1047,11,0,2,2057,5] f ?_;refine xp 51 ?_ ?_<;>intro g1
   . have f0:n.1=0:=(by first|exact g1.2|simpa using g1);rw [if_pos (by exact .inr ⟨rfl,f0⟩)] at a;refine xx 5 ?_;refine Zq (q) func312 (Zf results312 rfl) (fS ⟨⟨by rw [a];try first|rfl|exact j,by rw [a];try rfl⟩,rfl⟩)
   have f0:n.1≠0:=(by first|(simpa using g1)|(rcases g1 with g1|g1;exact aV rfl g1;simpa using g1));rw [if_neg (by rintro (⟨u,z2⟩|⟨u,z2⟩)<;>first|exact aV u (by decide)|exact aV z2 (by omega))] at a;refine rf [8,0,1] f ?_;refine Wl call312 (aH _) (IH (Wu y m) (cF (Ue hK m)) w r) ?_ ?_
   . rintro _ _ ⟨⟨c,rfl⟩,rfl⟩;exact dF func312 (eD ⟨⟨by rw [p] at c;rw [if_pos c] at a;rw [a];exact c,rfl⟩,rfl⟩)
   rintro _ _ ⟨⟨j,rfl⟩,rfl⟩;rw [p] at j|-;rw [if_neg (fun k=>k j)] at a;refine aW 66 (I64 s.1) rfl (rfl) ?_;rw [if_pos (by decide)] at a;refine rf [8,0,8,1071,5,2071,5] f ?_;refine bM call328 (Q8) ?_;refine ox 2 ?_;refine Zq (q) func312 (Zf results312 rfl) (fS ⟨⟨by rw [a];try first|rfl|exact j,by rw [a];try rfl⟩,rfl⟩)
 have hl:el.length=2:=h0;have d:0<el.length:=(by omega);have m:1<el.length:=(by omega);refine Z7 (hS.le leA) (by rw [b0];omega) fun ab ao e_=> ?_;subst e_;obtain ⟨n,g⟩: ∃ A,(el[0]).er.ev=A:=⟨_,rfl⟩;have t:(el[0]).er.plain=true:=Qw hp d;have l:(el[0]).er.fit:=Vp c0 d;have d0: -2147483648<=n.1/\n.1<=2147483647:=(by rw [<-g];exact Vt l);have a0:(Ax el).getD 0 (0,0)=n:=(by rw [aG,bJ,aE d];exact g);obtain ⟨s,p⟩: ∃ A,(el[1]).er.ev=A:=⟨_,rfl⟩;have w:(el[1]).er.plain=true:=Qw hp m;have r:(el[1]).er.fit:=Vp c0 m;have i0: -2147483648<=s.1/\s.1<=2147483647:=(by rw [<-p];exact Vt r);have g0:(Ax el).getD 1 (0,0)=s:=(by rw [aG,bJ,aE m];exact p);rw [if_neg (by decide),a0,g0] at a;have j0:x=3\/x=4\/x=5\/x=6\/x=7\/x=8\/x=9\/x=10\/x=11:=(by have:=k0 rfl;omega);skip;rcases j0 with rfl|rfl|rfl|rfl|rfl|rfl|rfl|rfl|rfl
 . refine rf [10,0,7,1009,6,1015,6,1025,8,0,1] f ?_;refine Wl call312 (aH _) (IH (Wu y d) (cF (Ue hK d)) t l) ?_ ?_
   . rintro _ _ ⟨⟨c,rfl⟩,rfl⟩;exact dF func312 (eD ⟨⟨by rw [g] at c;rw [if_pos c] at a;rw [a];exact c,rfl⟩,rfl⟩)
   rintro _ _ ⟨⟨i,rfl⟩,rfl⟩;rw [g] at i|-;rw [if_neg (fun k=>k i)] at a;refine aW 40 (I64 n.1) rfl (rfl) ?_;rw [if_neg (by decide),if_neg (by decide),if_neg (by rintro (⟨u,_⟩|⟨u,_⟩)<;>exact aV u (by decide))] at a;refine rf [9,0,2,1047,11,0,2,1057,13,0,1] f ?_;refine Wl call312 (aH _) (IH (Wu y m) (cF (Ue hK m)) w r) ?_ ?_
   . rintro _ _ ⟨⟨c,rfl⟩,rfl⟩;exact dF func312 (eD ⟨⟨by rw [p] at c;rw [if_pos c] at a;rw [a];exact c,rfl⟩,rfl⟩)
   rintro _ _ ⟨⟨j,rfl⟩,rfl⟩;rw [p] at j|-;rw [if_neg (fun k=>k j)] at a;refine aW 66 (I64 s.1) rfl (rfl) ?_;rw [if_neg (by decide)] at a;refine rf [8,0,8,1071,5,1071,6,2077,6] f ?_;refine bM call328 (Q8) ?_;refine ox 2 ?_;refine Zq (q) func312 (Zf results312 rfl) (fS ⟨⟨by rw [a];rfl,by rw [a];first|rfl|(simp [Ms];try (first|rfl|(congr 1;rw [cN];simp)))⟩,rfl⟩)
 . refine rf [10,0,7,1009,6,1015,6,1025,8,0,1] f ?_;refine Wl call312 (aH _) (IH (Wu y d) (cF (Ue hK d)) t l) ?_ ?_
   . rintro _ _ ⟨⟨c,rfl⟩,rfl⟩;exact dF func312 (eD ⟨⟨by rw [g] at c;rw [if_pos c] at a;rw [a];exact c,rfl⟩,rfl⟩)
   rintro _ _ ⟨⟨i,rfl⟩,rfl⟩;rw [g] at i|-;rw [if_neg (fun k=>k i)] at a;refine aW 40 (I64 n.1) rfl (rfl) ?_;rw [if_neg (by decide),if_neg (by decide),if_neg (by rintro (⟨u,_⟩|⟨u,_⟩)<;>exact aV u (by decide))] at a;refine rf [9,0,2,1047,11,0,2,1057,13,0,1] f ?_;refine Wl call312 (aH _) (IH (Wu y m) (cF (Ue hK m)) w r) ?_ ?_
   . rintro _ _ ⟨⟨c,rfl⟩,rfl⟩;exact dF func312 (eD ⟨⟨by rw [p] at c;rw [if_pos c] at a;rw [a];exact c,rfl⟩,rfl⟩)
   rintro _ _ ⟨⟨j,rfl⟩,rfl⟩;rw [p] at j|-;rw [if_neg (fun k=>k j)] at a;refine aW 66 (I64 s.1) rfl (rfl) ?_;rw [if_neg (by decide)] at a;refine rf [8,0,8,1071,5,1071,6,1077,6,2083,6] f ?_;refine bM call328 (Q8) ?_;refine ox 2 ?_;refine Zq (q) func312 (Zf results312 rfl) (fS ⟨⟨by rw [a];rfl,by rw [a];first|rfl|(simp [Ms];try (first|rfl|(congr 1;rw [cN];simp)))⟩,rfl⟩)
 . refine rf [10,0,7,1009,6,1015,6,1025,8,0,1] f ?_;refine Wl call312 (aH _) (IH (Wu y d) (cF (Ue hK d)) t l) ?_ ?_
   . rintro _ _ ⟨⟨c,rfl⟩,rfl⟩;exact dF func312 (eD ⟨⟨by rw [g] at c;rw [if_pos c] at a;rw [a];exact c,rfl⟩,rfl⟩)
   rintro _ _ ⟨⟨i,rfl⟩,rfl⟩;rw [g] at i|-;rw [if_neg (fun k=>k i)] at a;refine aW 40 (I64 n.1) rfl (rfl) ?_;rw [if_neg (by decide),if_neg (by decide),if_neg (by rintro (⟨u,_⟩|⟨u,_⟩)<;>exact aV u (by decide))] at a;refine rf [9,0,2,1047,11,0,2,1057,13,0,1] f ?_;refine Wl call312 (aH _) (IH (Wu y m) (cF (Ue hK m)) w r) ?_ ?_
   . rintro _ _ ⟨⟨c,rfl⟩,rfl⟩;exact dF func312 (eD ⟨⟨by rw [p] at c;rw [if_pos c] at a;rw [a];exact c,rfl⟩,rfl⟩)
   rintro _ _ ⟨⟨j,rfl⟩,rfl⟩;rw [p] at j|-;rw [if_neg (fun k=>k j)] at a;refine aW 66 (I64 s.1) rfl (rfl) ?_;rw [if_neg (by decide)] at a;refine rf [8,0,8,1071,5,1071,6,1077,6,1083,6,2089,6] f ?_;refine bM call328 (Q8) ?_;refine ox 2 ?_;refine Zq (q) func312 (Zf results312 rfl) (fS ⟨⟨by rw [a];rfl,by rw [a];first|rfl|(simp [Ms];try (first|rfl|(congr 1;rw [cN];simp)))⟩,rfl⟩)
 . refine rf [10,0,7,1009,6,1015,6,1025,8,0,1] f ?_;refine Wl call312 (aH _) (IH (Wu y d) (cF (Ue hK d)) t l) ?_ ?_
   . rintro _ _ ⟨⟨c,rfl⟩,rfl⟩;exact dF func312 (eD ⟨⟨by rw [g] at c;rw [if_pos c] at a;rw [a];exact c,rfl⟩,rfl⟩)
   rintro _ _ ⟨⟨i,rfl⟩,rfl⟩;rw [g] at i|-;rw [if_neg (fun k=>k i)] at a;refine aW 40 (I64 n.1) rfl (rfl) ?_;rw [if_neg (by decide),if_neg (by decide),if_neg (by rintro (⟨u,_⟩|⟨u,_⟩)<;>exact aV u (by decide))] at a;refine rf [9,0,2,1047,11,0,2,1057,13,0,1] f ?_;refine Wl call312 (aH _) (IH (Wu y m) (cF (Ue hK m)) w r) ?_ ?_
   . rintro _ _ ⟨⟨c,rfl⟩,rfl⟩;exact dF func312 (eD ⟨⟨by rw [p] at c;rw [if_pos c] at a;rw [a];exact c,rfl⟩,rfl⟩)
   rintro _ _ ⟨⟨j,rfl⟩,rfl⟩;rw [p] at j|-;rw [if_neg (fun k=>k j)] at a;refine aW 66 (I64 s.1) rfl (rfl) ?_;rw [if_neg (by decide)] at a;refine rf [8,0,8,1071,5,1071,6,1077,6,1083,6,1089,6,2095,6] f ?_;refine bM call328 (Q8) ?_;refine ox 2 ?_;refine Zq (q) func312 (Zf results312 rfl) (fS ⟨⟨by rw [a];rfl,by rw [a];first|rfl|(simp [Ms];try (first|rfl|(congr 1;rw [cN];simp)))⟩,rfl⟩)
 . refine rf [10,0,7,1009,6,1015,6,1025,8,0,1] f ?_;refine Wl call312 (aH _) (IH (Wu y d) (cF (Ue hK d)) t l) ?_ ?_
   . rintro _ _ ⟨⟨c,rfl⟩,rfl⟩;exact dF func312 (eD ⟨⟨by rw [g] at c;rw [if_pos c] at a;rw [a];exact c,rfl⟩,rfl⟩)
   rintro _ _ ⟨⟨i,rfl⟩,rfl⟩;rw [g] at i|-;rw [if_neg (fun k=>k i)] at a;refine aW 40 (I64 n.1) rfl (rfl) ?_;rw [if_neg (by decide),if_neg (by decide),if_neg (by rintro (⟨u,_⟩|⟨u,_⟩)<;>exact aV u (by decide))] at a;refine rf [9,0,2,1047,11,0,2,1057,13,0,1] f ?_;refine Wl call312 (aH _) (IH (Wu y m) (cF (Ue hK m)) w r) ?_ ?_
   . rintro _ _ ⟨⟨c,rfl⟩,rfl⟩;exact dF func312 (eD ⟨⟨by rw [p] at c;rw [if_pos c] at a;rw [a];exact c,rfl⟩,rfl⟩)
   rintro _ _ ⟨⟨j,rfl⟩,rfl⟩;rw [p] at j|-;rw [if_neg (fun k=>k j)] at a;refine aW 66 (I64 s.1) rfl (rfl) ?_;rw [if_neg (by decide)] at a;refine rf [8,0,8,1071,5,1071,6,1077,6,1083,6,1089,6,1095,6,2101,6] f ?_;have e0:Ms 7 n.1 s.1=if val (n.1+s.1) then ((n.1+s.1),0) else (0,2):=by rfl
   refine Wl call327 (aH _) (Kw (z:=(n.1+s.1)) (q:=q++F)) ?_ ?_
   . rintro _ _ ⟨⟨hn,rfl⟩,rfl⟩;exact dF func312 (eD ⟨⟨by rw [a,e0,if_neg hn];decide,rfl⟩,rfl⟩)
   rintro _ _ ⟨⟨hv,rfl⟩,rfl⟩;refine ox 2 ?_;refine Zq (q) func312 (Zf results312 rfl) (fS ⟨⟨by rw [a,e0,if_pos hv],by rw [a,e0,if_pos hv]⟩,rfl⟩)
 . refine rf [10,0,7,1009,6,1015,6,1025,8,0,1] f ?_;refine Wl call312 (aH _) (IH (Wu y d) (cF (Ue hK d)) t l) ?_ ?_
   . rintro _ _ ⟨⟨c,rfl⟩,rfl⟩;exact dF func312 (eD ⟨⟨by rw [g] at c;rw [if_pos c] at a;rw [a];exact c,rfl⟩,rfl⟩)
   rintro _ _ ⟨⟨i,rfl⟩,rfl⟩;rw [g] at i|-;rw [if_neg (fun k=>k i)] at a;refine aW 40 (I64 n.1) rfl (rfl) ?_;rw [if_neg (by decide),if_neg (by decide),if_neg (by rintro (⟨u,_⟩|⟨u,_⟩)<;>exact aV u (by decide))] at a;refine rf [9,0,2,1047,11,0,2,1057,13,0,1] f ?_;refine Wl call312 (aH _) (IH (Wu y m) (cF (Ue hK m)) w r) ?_ ?_
   . rintro _ _ ⟨⟨c,rfl⟩,rfl⟩;exact dF func312 (eD ⟨⟨by rw [p] at c;rw [if_pos c] at a;rw [a];exact c,rfl⟩,rfl⟩)
   rintro _ _ ⟨⟨j,rfl⟩,rfl⟩;rw [p] at j|-;rw [if_neg (fun k=>k j)] at a;refine aW 66 (I64 s.1) rfl (rfl) ?_;rw [if_neg (by decide)] at a;refine rf [8,0,8,1071,5,1071,6,1077,6,1083,6,1089,6,1095,6,1101,6,2107,6] f ?_;have e0:Ms 8 n.1 s.1=if val (n.1 - s.1) then ((n.1 - s.1),0) else (0,2):=by rfl
   refine Wl call327 (aH _) (Kw (z:=(n.1 - s.1)) (q:=q++F)) ?_ ?_
   . rintro _ _ ⟨⟨hn,rfl⟩,rfl⟩;exact dF func312 (eD ⟨⟨by rw [a,e0,if_neg hn];decide,rfl⟩,rfl⟩)
   rintro _ _ ⟨⟨hv,rfl⟩,rfl⟩;refine ox 2 ?_;refine Zq (q) func312 (Zf results312 rfl) (fS ⟨⟨by rw [a,e0,if_pos hv],by rw [a,e0,if_pos hv]⟩,rfl⟩)
 . have hm:=val_mul d0 i0;refine rf [10,0,7,1009,6,1015,6,1025,8,0,1] f ?_;refine Wl call312 (aH _) (IH (Wu y d) (cF (Ue hK d)) t l) ?_ ?_
   . rintro _ _ ⟨⟨c,rfl⟩,rfl⟩;exact dF func312 (eD ⟨⟨by rw [g] at c;rw [if_pos c] at a;rw [a];exact c,rfl⟩,rfl⟩)
   rintro _ _ ⟨⟨i,rfl⟩,rfl⟩;rw [g] at i|-;rw [if_neg (fun k=>k i)] at a;refine aW 40 (I64 n.1) rfl (rfl) ?_;rw [if_neg (by decide),if_neg (by decide),if_neg (by rintro (⟨u,_⟩|⟨u,_⟩)<;>exact aV u (by decide))] at a;refine rf [9,0,2,1047,11,0,2,1057,13,0,1] f ?_;refine Wl call312 (aH _) (IH (Wu y m) (cF (Ue hK m)) w r) ?_ ?_
   . rintro _ _ ⟨⟨c,rfl⟩,rfl⟩;exact dF func312 (eD ⟨⟨by rw [p] at c;rw [if_pos c] at a;rw [a];exact c,rfl⟩,rfl⟩)
   rintro _ _ ⟨⟨j,rfl⟩,rfl⟩;rw [p] at j|-;rw [if_neg (fun k=>k j)] at a;refine aW 66 (I64 s.1) rfl (rfl) ?_;rw [if_neg (by decide)] at a;refine rf [8,0,8,1071,5,1071,6,1077,6,1083,6,1089,6,1095,6,1101,6,1107,6,2113,5] f ?_;refine Vl (Pu.mul rfl rfl (by omega) (by omega)) ?_;have e0:Ms 9 n.1 s.1=if val (n.1*s.1) then ((n.1*s.1),0) else (0,2):=by rfl
   refine Wl call327 (aH _) (Kw (z:=(n.1*s.1)) (q:=q++F)) ?_ ?_
   . rintro _ _ ⟨⟨hn,rfl⟩,rfl⟩;exact dF func312 (eD ⟨⟨by rw [a,e0,if_neg hn];decide,rfl⟩,rfl⟩)
   rintro _ _ ⟨⟨hv,rfl⟩,rfl⟩;refine ox 2 ?_;refine Zq (q) func312 (Zf results312 rfl) (fS ⟨⟨by rw [a,e0,if_pos hv],by rw [a,e0,if_pos hv]⟩,rfl⟩)
 . have hm:=val_div (b:=s.1) d0;refine rf [10,0,7,1009,6,1015,6,1025,8,0,1] f ?_;refine Wl call312 (aH _) (IH (Wu y d) (cF (Ue hK d)) t l) ?_ ?_
   . rintro _ _ ⟨⟨c,rfl⟩,rfl⟩;exact dF func312 (eD ⟨⟨by rw [g] at c;rw [if_pos c] at a;rw [a];exact c,rfl⟩,rfl⟩)
   rintro _ _ ⟨⟨i,rfl⟩,rfl⟩;rw [g] at i|-;rw [if_neg (fun k=>k i)] at a;refine aW 40 (I64 n.1) rfl (rfl) ?_;rw [if_neg (by decide),if_neg (by decide),if_neg (by rintro (⟨u,_⟩|⟨u,_⟩)<;>exact aV u (by decide))] at a;refine rf [9,0,2,1047,11,0,2,1057,13,0,1] f ?_;refine Wl call312 (aH _) (IH (Wu y m) (cF (Ue hK m)) w r) ?_ ?_
   . rintro _ _ ⟨⟨c,rfl⟩,rfl⟩;exact dF func312 (eD ⟨⟨by rw [p] at c;rw [if_pos c] at a;rw [a];exact c,rfl⟩,rfl⟩)
   rintro _ _ ⟨⟨j,rfl⟩,rfl⟩;rw [p] at j|-;rw [if_neg (fun k=>k j)] at a;refine aW 66 (I64 s.1) rfl (rfl) ?_;rw [if_neg (by decide)] at a;refine rf [8,0,8,1071,5,1071,6,1077,6,1083,6,1089,6,1095,6,1101,6,1107,6,1113,9] f ?_;refine xp 120 ?_ ?_<;>intro hz
   . refine xo 4 ?_;exact Zve (Pn.panic rfl) (dF func312 (eD ⟨⟨by rw [a];unfold Ms;rw [if_neg (by omega),if_neg (by omega),if_neg (by omega),if_neg (by omega),if_pos ⟨by omega,hz⟩];decide,rfl⟩,rfl⟩))
   refine rf [8,0,2,2127,5] f ?_;refine Vl (Zv5 rfl rfl (by omega)) ?_;refine aW 130 (I64 (n.1.tdiv s.1)) rfl (aQ (Value.int .i64) (show IntKind.i64.wrap (n.1.tdiv s.1)=n.1.tdiv s.1 from Qk (by omega) (by omega))) ?_;have e0:Ms 10 n.1 s.1=if val (n.1.tdiv s.1) then ((n.1.tdiv s.1),0) else (0,2):=by unfold Ms;rw [if_neg (by decide),if_neg (by decide),if_neg (by decide),if_neg (by decide),if_neg (fun h=>hz h.2)];rfl
   refine Wl call327 (aH _) (Kw (z:=(n.1.tdiv s.1)) (q:=q++F)) ?_ ?_
   . rintro _ _ ⟨⟨hn,rfl⟩,rfl⟩;exact dF func312 (eD ⟨⟨by rw [a,e0,if_neg hn];decide,rfl⟩,rfl⟩)
   rintro _ _ ⟨⟨hv,rfl⟩,rfl⟩;refine ox 2 ?_;refine Zq (q) func312 (Zf results312 rfl) (fS ⟨⟨by rw [a,e0,if_pos hv],by rw [a,e0,if_pos hv]⟩,rfl⟩)
 have hm:=val_mod (b:=s.1) d0;refine rf [10,0,7,1009,6,1015,6,1025,8,0,1] f ?_;refine Wl call312 (aH _) (IH (Wu y d) (cF (Ue hK d)) t l) ?_ ?_
 . rintro _ _ ⟨⟨c,rfl⟩,rfl⟩;exact dF func312 (eD ⟨⟨by rw [g] at c;rw [if_pos c] at a;rw [a];exact c,rfl⟩,rfl⟩)
 rintro _ _ ⟨⟨i,rfl⟩,rfl⟩;rw [g] at i|-;rw [if_neg (fun k=>k i)] at a;refine aW 40 (I64 n.1) rfl (rfl) ?_;rw [if_neg (by decide),if_neg (by decide),if_neg (by rintro (⟨u,_⟩|⟨u,_⟩)<;>exact aV u (by decide))] at a;refine rf [9,0,2,1047,11,0,2,1057,13,0,1] f ?_;refine Wl call312 (aH _) (IH (Wu y m) (cF (Ue hK m)) w r) ?_ ?_
 . rintro _ _ ⟨⟨c,rfl⟩,rfl⟩;exact dF func312 (eD ⟨⟨by rw [p] at c;rw [if_pos c] at a;rw [a];exact c,rfl⟩,rfl⟩)
 rintro _ _ ⟨⟨j,rfl⟩,rfl⟩;rw [p] at j|-;rw [if_neg (fun k=>k j)] at a;refine aW 66 (I64 s.1) rfl (rfl) ?_;rw [if_neg (by decide)] at a;refine rf [8,0,8,1071,5,1071,6,1077,6,1083,6,1089,6,1095,6,1101,6,1107,6,1113,9] f ?_;refine xp 120 ?_ ?_<;>intro hz
 . refine xo 4 ?_;exact Zve (Pn.panic rfl) (dF func312 (eD ⟨⟨by rw [a];unfold Ms;rw [if_neg (by omega),if_neg (by omega),if_neg (by omega),if_neg (by omega),if_pos ⟨by omega,hz⟩];decide,rfl⟩,rfl⟩))
 refine rf [8,0,2,1127,6] f ?_;refine Vl (Pu.rem rfl rfl (by omega)) ?_;have e0:Ms 11 n.1 s.1=if val (n.1.tmod s.1) then ((n.1.tmod s.1),0) else (0,2):=by unfold Ms;rw [if_neg (by decide),if_neg (by decide),if_neg (by decide),if_neg (by decide),if_neg (fun h=>hz h.2)];rfl
 refine Wl call327 (aH _) (Kw (z:=(n.1.tmod s.1)) (q:=q++F)) ?_ ?_
 . rintro _ _ ⟨⟨hn,rfl⟩,rfl⟩;exact dF func312 (eD ⟨⟨by rw [a,e0,if_neg hn];decide,rfl⟩,rfl⟩)
 rintro _ _ ⟨⟨hv,rfl⟩,rfl⟩;refine ox 2 ?_;refine Zq (q) func312 (Zf results312 rfl) (fS ⟨⟨by rw [a,e0,if_pos hv],by rw [a,e0,if_pos hv]⟩,rfl⟩)
variable {na nb:Nat}{y0 y1:Value}
theorem Zjg:Quiet prog G 311 (A8 na nb):=by
 refine Quiet.of func311 ntmps311 rfl fun F b a c=> ?_;refine xo 2 ?_;refine I0 c ?_;refine Vl (Pk rfl underlying486 rfl zeroValue486) ?_;refine oo 3 ?_;refine Zh zeroValue486 fun d=> ?_
 refine rn [0,6] ?_;refine fR 9 bF rfl rfl ?_;refine xx 2 ?_;exact gC ⟨rfl,rfl,.inl rfl,⟨_,Yy results311⟩,leA⟩
theorem Ir:Catches prog G 311 (A8 na nb) noVE [pto na (.cells [y0].toArray 2 (0,0)),pto nb (.cells [y1].toArray 4 (0,0))] [pto na (.cells zz6.toArray 2 (0,0)),pto nb (.cells [.bool false].toArray 4 (0,0))]:=by
 refine Catches.of func311 ntmps311 rfl rfl fun F b a c=> ?_;refine xo 2 ?_;refine I0 c ?_;refine Vl (Pj rfl underlying486 rfl) ?_;refine oo 3 ?_;refine Zh zeroValue486 fun d=> ?_
 refine rn [0,6] ?_;refine fR 9 bT rfl rfl ?_;refine rn [2,0,0,1] ?_;exact gC ⟨rfl,rfl,.inl rfl,⟨_,Yy results311⟩,leA⟩
theorem X9 {e:Ex}(hK:Kn q fun M=>ExAt M ⟨b,o,none⟩ e)(hf:e.er.fit):CallF prog G 282 (AA b o) (q) (Ret fun v q'=>v= .tuple [I64 (if e.er.one=true then e.er.ev.1 else 0),.bool e.er.one].toArray/\q'=q):=by
 refine aB func282 ntmps282 rfl fun F cs=> ?_;unfold PEx.one;refine xo 2 ?_;refine Zh zeroValue2 fun f=> ?_
 refine Zh zeroValue4 fun d=> ?_
 refine oo 5 ?_;refine bM call310 (bare_ok _ (aU _) (cF hK)) ?_;refine ox 2 ?_;refine cY 6 rfl ?_ ?_<;>intro a
 . replace a:e.er.plain=false:=(by simpa using a);refine rn [3,0,0,1] ?_;refine Zq (q) func282 (Bl results282 (dN rfl (gO isAgg2 clA) (dN rfl (gO isAgg4 clA) eT))) ⟨_,rfl,by rw [a];rfl,rfl⟩
 replace a:e.er.plain=true:=(by simpa using a);rw [a,gZ];refine xo 5 ?_;refine XO.dfr ?_;refine oo 4 ?_;refine Wl call312 (aH _) (worth_ok _ (aU _) (cF hK) a hf) ?_ ?_
 . rintro _ _ ⟨⟨c,rfl⟩,rfl⟩;exact ⟨rfl,Lv.catches call311 func282 (Ir (na:=f) (nb:=d)) leA rfl (gE (q':=q) func282 (Bl results282 (dN rfl (gO isAgg2 clA) (dN rfl (gO isAgg4 clA) eT))) ⟨_,rfl,by rw [beq_false_of_ne c];rfl,rfl⟩ leA)⟩
 rintro _ _ ⟨⟨c,rfl⟩,rfl⟩;refine rn [0,0,1] ?_;exact jA ⟨rfl,Pf call311 func282 (Zjg (na:=f) (nb:=d)) (gE (q':=q) func282 (Bl results282 (dN rfl (gO isAgg2 clA) (dN rfl (gO isAgg4 clA) eT))) ⟨_,rfl,by rw [c];rfl,rfl⟩ leA)⟩
end
def opL:List Int:= [0,0,0,10,11,12,13,14,15,16,17,18]
def GO (q:List HP):Prop:=Sees q (some ⟨0,0,none⟩) (opL.map I64)
theorem GO.le {q':List HP}(h:GO q')(k:Le q q'):GO q:=Sees.le h k
theorem opL_at: ∀ k:Fin 12,3<=k.val->opL[k.val]'k.isLt=(k.val:Int)+7:=by decide
def ExOk (G:World)(e:Ex)(b o:Nat):Prop:= ∀ {K:List (Ins×Int)} {ln:Int} {p pp nm:Nat} {q:List HP},K.length+4*e.sz<=1000000000->(Kn q fun M=>ExAt M ⟨b,o,none⟩ e)->GO q->e.er.fit->CallF prog G 233 (A7 p b o) (coH p pp nm K ln::q) (Ret fun v q'=>q'=coH p pp nm (K++lnd (e.er.code K.length) ln) ln::q)
theorem Dw (l m:List Ins)(n:Int):lnd (l++m) n=lnd l n++lnd m n:=by simp [lnd]
theorem F4 (i:Ins)(n:Int):lnd [i] n= [(i,n)]:=rfl
section
variable {nm:Nat}
theorem O5 {ek en esl eop:Int}{enm:ByteArray}{elo:Bool}{C0 C1:List Ins}(hl:el.length=2)(hs:K.length+4*(el[0].sz+el[1].sz)+4<=1000000000)(hK:Kn q fun M=>ExAt M ⟨b,o,none⟩ (Ex.mk ek en enm esl elo eop el (some ⟨ab,ao,none⟩) ec))(hg:GO q)(hf0:el[0].er.fit)(hf1:el[1].er.fit)(IH0:ExOk G el[0] ab (ao+((0:Nat):Int).toNat*7))(IH1:ExOk G el[1] ab (ao+((1:Nat):Int).toNat*7))(hC0:el[0].er.code K.length=C0)(hC1:el[1].er.code (K.length+C0.length+1)=C1):CallF prog G 283 [.pointer (some ⟨p,0,none⟩),.pointer (some ⟨b,o,none⟩),I64 cd,I64 u] (coH p pp nm K ln::q) (Ret fun v q'=>q'=coH p pp nm (K++lnd (C0++ [⟨cd,K.length+C0.length+1+C1.length+2,0,0⟩]++C1++ [⟨22,0,0,0⟩,⟨19,K.length+C0.length+1+C1.length+2+1,0,0⟩,⟨1,0,0,u⟩]) ln) ln::q):=by
 refine aB func283 ntmps283 rfl fun F cs=> ?_;have b0:=Za el[0].er K.length;have a0:=Za el[1].er (K.length+C0.length+1);rw [hC0,Z6] at b0;rw [hC1,Z6] at a0;have m:=Kn.exC hK;refine rf [6,0,1] m ?_;refine Zv call233 Zj (IH0 (by omega) (cF (Ue hK (by omega))) (hg.le leA) hf0) ?_;rintro _ _ rfl;rw [hC0];obtain ⟨r,j⟩: ∃ k:List (Ins×Int),k=K++lnd C0 ln:=⟨_,rfl⟩;rw [<-j];have a:r.length=K.length+C0.length:=(by rw [j];rw [aA,Z9]);refine oo 5 ?_;refine Zv call235 Zj (Db (by omega)) ?_;rintro _ _ ⟨j1,z,rfl,rfl⟩;obtain ⟨K2,h⟩: ∃ k:List (Ins×Int),k=r++ [(⟨cd,0,0,0⟩,ln)]:=⟨_,rfl⟩;rw [<-h];have y:K2.length=K.length+C0.length+1:=(by rw [h];rw [aA,a];rfl);refine rf [8,0,1] m ?_;refine Zv call233 Zj (IH1 (by omega) (cF (Ue hK (by omega))) (hg.le leA) hf1) ?_;rintro _ _ rfl;rw [show ((K2.length:Nat):Int)=K.length+C0.length+1 by omega,hC1];obtain ⟨K3,g⟩: ∃ k:List (Ins×Int),k=K2++lnd C1 ln:=⟨_,rfl⟩;rw [<-g];have x:K3.length=K.length+C0.length+1+C1.length:=(by rw [g];rw [aA,Z9,y]);refine oo 5 ?_;refine Zv call98 Zj (Qd (i:=⟨22,0,0,0⟩) (by omega)) ?_;rintro _ _ rfl;obtain ⟨K4,f⟩: ∃ k:List (Ins×Int),k=K3++ [(⟨22,0,0,0⟩,ln)]:=⟨_,rfl⟩;rw [<-f];have l:K4.length=K.length+C0.length+1+C1.length+1:=(by rw [f];rw [aA,x];rfl);refine oo 4 ?_;refine Zv call235 Zj (Db (by omega)) ?_;rintro _ _ ⟨j3,j4,rfl,rfl⟩;obtain ⟨K5,e⟩: ∃ k:List (Ins×Int),k=K4++ [(⟨19,0,0,0⟩,ln)]:=⟨_,rfl⟩;rw [<-e];have w:K5.length=K.length+C0.length+1+C1.length+2:=(by rw [e];rw [aA,l];rfl);refine oo 5 ?_;refine iV (bD Zj (bD Zj Zj)) (Ky call284 (Mf (j1:=j1) (j2:=z) (p:=p) (A:=r) (cd:=cd) (l0:=ln) (B:=lnd C1 ln++ [(⟨22,0,0,0⟩,ln),(⟨19,0,0,0⟩,ln)]) (by rw [e,f,g,h];simp) rfl w (by omega))) ?_;rintro _ _ rfl;obtain ⟨K6,d⟩: ∃ k:List (Ins×Int),k=(r++(⟨cd,((K.length+C0.length+1+C1.length+2:Nat):Int),0,0⟩,ln)::(lnd C1 ln++ [(⟨22,0,0,0⟩,ln),(⟨19,0,0,0⟩,ln)])):=⟨_,rfl⟩;rw [<-d];have t:K6.length=K.length+C0.length+1+C1.length+2:=(by rw [d];simp [a,Z9];omega);refine oo 6 ?_;refine Zv call98 Zj (Qd (i:=⟨1,0,0,u⟩) (by omega)) ?_;rintro _ _ rfl;obtain ⟨K7,c⟩: ∃ k:List (Ins×Int),k=K6++ [(⟨1,0,0,u⟩,ln)]:=⟨_,rfl⟩;rw [<-c];have s:K7.length=K.length+C0.length+1+C1.length+2+1:=(by rw [c];rw [aA,t];rfl);refine oo 3 ?_;refine iV (bD Zj (bD Zj Zj)) (Ky call284 (Mf (j1:=j3) (j2:=j4) (p:=p) (A:=r++(⟨cd,((K.length+C0.length+1+C1.length+2:Nat):Int),0,0⟩,ln)::(lnd C1 ln++ [(⟨22,0,0,0⟩,ln)])) (n:=K4.length) (cd:=19) (l0:=ln) (B:= [(⟨1,0,0,u⟩,ln)]) (by rw [c,d];simp) (by simp [a,l,Z9];omega) s (by omega))) ?_;rintro _ _ rfl;refine ox 1 ?_;refine Zr (coH p pp nm (K++lnd (C0++ [⟨cd,K.length+C0.length+1+C1.length+2,0,0⟩]++C1++ [⟨22,0,0,0⟩,⟨19,K.length+C0.length+1+C1.length+2+1,0,0⟩,⟨1,0,0,u⟩]) ln) ln::q) func283 (Yy results283) ⟨_,rfl,rfl⟩ (by rw [j];simp only [lnd,aO,bA,dC,aK,bO,aY,lF];exact leA)
abbrev Aq (v0:List Ex):=(v0.map (PEx.code ∘ Ex.er))
theorem Ny: ∀ (N:Nat) {e:Ex} {b o:Nat},e.sz<=N->ExOk G e b o:=fun N=>by
 induction N with
 |zero=>intro e b o hs;exact aV hs (by cases e;simp only [Ex.sz];omega)
 |succ N IH=> 
 intro e b o hs K ln p pp nm q hl hK hg hf;obtain ⟨ek,en,o0,n0,h0,v,el,ea,ec⟩:=e;refine aB func233 ntmps233 rfl fun F cs=> ?_;have l:=Kn.exC hK;have hA:Kn q fun M=>SlAt M ea ec el.length (el.flatMap exC)/\Ex.Ats M el:=hK.imp fun M h=>h.2;have hS:=eR (hA.imp fun M h=>h.1.2.2);have z:=Zx Yk el
 obtain ⟨R,t⟩:=lM ((Ex.er (Ex.mk ek en o0 n0 h0 v el ea ec)).code K.length);rw [<-t];simp only [Ex.er,PEx.code,R3,Y3,fC] at t;simp only [Ex.sz] at hl;refine xo 4 ?_;obtain ⟨c1,i0⟩:=lM (Ex.er (Ex.mk ek en o0 n0 h0 v el ea ec)).one;obtain ⟨v1,l0⟩:=lM (Ex.er (Ex.mk ek en o0 n0 h0 v el ea ec)).ev.1;refine bM call282 (X9 (cF hK) hf) ?_;refine aW 8 (.tuple [I64 (if c1=true then v1 else 0),.bool c1].toArray) rfl (by rw [i0,l0]) ?_;simp only [Ex.er] at i0 l0;rw [<-Y3] at t;rw [<-i0,<-l0] at t;refine ox 10 ?_;refine cY 11 rfl ?_ ?_<;>intro h1
 . obtain rfl:c1=true:=(by simpa using h1);rw [if_pos rfl] at t;refine xo 6 ?_;refine Zv call98 (aH _) (Qd (i:=⟨1,0,0,v1⟩) (by omega)) ?_;rintro _ _ rfl;refine ox 1 ?_;refine Zq (coH p pp nm (K++lnd R ln) ln::q) func233 (Yy results233) ⟨_,rfl,rfl⟩ (by rw [t];exact leA)
 obtain rfl:c1=false:=(by simpa using h1);rw [if_neg (by decide)] at t;simp only [Ex.er,PEx.fit,Jw] at hf;obtain ⟨z0,e0,y0,p0,a0⟩:=hf;have x0:ek≠1:=(fun k=>by subst k;simp [PEx.one,PEx.plain,PEx.ev,List.length_eq_zero_iff.1 e0,Z5,Uf] at i0);have s0:ek=2\/ek=3\/ek=4\/ek=5\/(ek=6/\v=1)\/(ek=6/\v=2)\/(ek=6/\3<=v):=by omega
 rcases s0 with rfl|rfl|rfl|rfl|⟨rfl,rfl⟩|⟨rfl,rfl⟩|⟨rfl,w0⟩
 . rw [if_pos rfl] at t;refine rf [8,0,7,2020,7,0,1] l ?_;refine cY 25 rfl ?_ ?_<;>intro h2
   . have h2:h0=true:=(by simpa using h2);refine rf [6,0] l ?_;refine Zv call177 Zj (Vs (by omega)) ?_;rintro _ _ rfl;refine ox 1 ?_;refine Zq (coH p pp nm (K++lnd R ln) ln::q) func233 (Yy results233) ⟨_,rfl,rfl⟩ (by rw [t,h2];exact leA)
   have h2:h0=false:=(by simpa using h2);refine rf [6,0] l ?_;refine Zv call177 Zj (Vs (by omega)) ?_;rintro _ _ rfl;refine ox 1 ?_;refine Zq (coH p pp nm (K++lnd R ln) ln::q) func233 (Yy results233) ⟨_,rfl,rfl⟩ (by rw [t,h2];exact leA)
 . have u:el.length=1:=e0;have a:0<el.length:=(by omega);refine Z7 (hS.le leA) (by rw [z];omega) fun ab ao e_=> ?_;subst e_;have r:(Aq el).getD 0 (fun _=> [])=(el[0]).er.code:=(by rw [aG,bJ,aE a];rfl);have d:=Vp a0 a;have b0:(el[0]).sz<=Wf el:=Y7 (aC a);obtain ⟨w,c⟩: ∃ C,el[0].er.code K.length=C:=⟨_,rfl⟩;have m:=Za el[0].er K.length;rw [c,Z6] at m;rw [if_neg (by decide),if_neg (by decide),if_neg (by rintro ⟨k,_⟩;exact aV k (by decide)),if_pos rfl,r,c] at t;refine rf [8,0,7,1020,6,2038,7,0,1] l ?_;refine Zv call233 Zj (IH (e:=el[0]) (Wu hs a) (by omega) (cF (Ue hK a)) (hg.le leA) d) ?_;rintro _ _ rfl;rw [c];obtain ⟨K1,g⟩: ∃ k:List (Ins×Int),k=K++lnd w ln:=⟨_,rfl⟩;rw [<-g];have d0:K1.length=K.length+w.length:=(by rw [g];rw [aA,Z9]);refine rf [7,0] l ?_;refine Zv call177 Zj (Vs (by rw [d0];omega)) ?_;rintro _ _ rfl;refine ox 1 ?_;refine Zq (coH p pp nm (K++lnd R ln) ln::q) func233 (Yy results233) ⟨_,rfl,rfl⟩ (by rw [t,Dw,F4,<-aK,<-g];exact leA)
 . have u:el.length=1:=e0;have a:0<el.length:=(by omega);refine Z7 (hS.le leA) (by rw [z];omega) fun ab ao e_=> ?_;subst e_;have r:(Aq el).getD 0 (fun _=> [])=(el[0]).er.code:=(by rw [aG,bJ,aE a];rfl);have d:=Vp a0 a;have b0:(el[0]).sz<=Wf el:=Y7 (aC a);obtain ⟨w,c⟩: ∃ C,el[0].er.code K.length=C:=⟨_,rfl⟩;have m:=Za el[0].er K.length;rw [c,Z6] at m;rw [if_neg (by decide),if_neg (by decide),if_neg (by rintro ⟨k,_⟩;exact aV k (by decide)),if_neg (by decide),if_pos rfl,r,c] at t;refine rf [8,0,7,1020,6,1038,6,2053,7,0,1] l ?_;refine Zv call233 Zj (IH (e:=el[0]) (Wu hs a) (by omega) (cF (Ue hK a)) (hg.le leA) d) ?_;rintro _ _ rfl;rw [c];obtain ⟨K1,g⟩: ∃ k:List (Ins×Int),k=K++lnd w ln:=⟨_,rfl⟩;rw [<-g];have d0:K1.length=K.length+w.length:=(by rw [g];rw [aA,Z9]);refine oo 5 ?_;refine Zv call98 Zj (Qd (i:=⟨8,0,0,0⟩) (by rw [d0];omega)) ?_;rintro _ _ rfl;refine ox 1 ?_;refine Zq (coH p pp nm (K++lnd R ln) ln::q) func233 (Yy results233) ⟨_,rfl,rfl⟩ (by rw [t,Dw,F4,<-aK,<-g];exact leA)
 . have u:el.length=1:=e0;have a:0<el.length:=(by omega);refine Z7 (hS.le leA) (by rw [z];omega) fun ab ao e_=> ?_;subst e_;have r:(Aq el).getD 0 (fun _=> [])=(el[0]).er.code:=(by rw [aG,bJ,aE a];rfl);have d:=Vp a0 a;have b0:(el[0]).sz<=Wf el:=Y7 (aC a);obtain ⟨w,c⟩: ∃ C,el[0].er.code K.length=C:=⟨_,rfl⟩;have m:=Za el[0].er K.length;rw [c,Z6] at m;rw [if_neg (by decide),if_neg (by decide),if_neg (by rintro ⟨k,_⟩;exact aV k (by decide)),if_neg (by decide),if_neg (by decide),if_pos rfl,r,c] at t;refine rf [8,0,7,1020,6,1038,6,1053,6,2065,7,0,1] l ?_;refine Zv call233 Zj (IH (e:=el[0]) (Wu hs a) (by omega) (cF (Ue hK a)) (hg.le leA) d) ?_;rintro _ _ rfl;rw [c];obtain ⟨K1,g⟩: ∃ k:List (Ins×Int),k=K++lnd w ln:=⟨_,rfl⟩;rw [<-g];have d0:K1.length=K.length+w.length:=(by rw [g];rw [aA,Z9]);refine oo 5 ?_;refine Zv call98 Zj (Qd (i:=⟨9,0,0,0⟩) (by rw [d0];omega)) ?_;rintro _ _ rfl;refine ox 1 ?_;refine Zq (coH p pp nm (K++lnd R ln) ln::q) func233 (Yy results233) ⟨_,rfl,rfl⟩ (by rw [t,Dw,F4,<-aK,<-g];exact leA)
 . have u:el.length=2:=e0;have a:0<el.length:=(by omega);have f:1<el.length:=(by omega);refine Z7 (hS.le leA) (by rw [z];omega) fun ab ao e_=> ?_;subst e_;have r:(Aq el).getD 0 (fun _=> [])=(el[0]).er.code:=(by rw [aG,bJ,aE a];rfl);have d:=Vp a0 a;have b0:(el[0]).sz<=Wf el:=Y7 (aC a);have g0:(Aq el).getD 1 (fun _=> [])=(el[1]).er.code:=(by rw [aG,bJ,aE f];rfl);have c0:=Vp a0 f;have k0:(el[1]).sz<=Wf el:=Y7 (aC f);obtain ⟨w,c⟩: ∃ C,el[0].er.code K.length=C:=⟨_,rfl⟩;have m:=Za el[0].er K.length;rw [c,Z6] at m;have j0:(el[0]).sz+(el[1]).sz<=Wf el:=(by obtain ⟨x,y,rfl⟩: ∃ x y,el= [x,y]:=(by match el,u with| [x,y],_=>exact ⟨x,y,rfl⟩);simp only [Wf,fT,fU];omega);obtain ⟨C1,s⟩: ∃ C,el[1].er.code (K.length+w.length+1)=C:=⟨_,rfl⟩;have f0:=Za el[1].er (K.length+w.length+1);rw [s,Z6] at f0;rw [if_neg (by decide),if_neg (by decide),if_pos ⟨rfl,by decide⟩,r,c,g0,s] at t;refine rf [8,0,7,1020,6,1038,6,1053,6,1065,8,0,7,2104,4] l ?_;refine Zv call283 Zj (O5 u (by omega) (cF hK) (hg.le leA) d c0 (IH (Wu hs a)) (IH (Wu hs f)) c s) ?_;rintro _ _ rfl;refine ox 2 ?_;refine Zr (coH p pp nm (K++lnd R ln) ln::q) func233 (Yy results233) ⟨_,rfl,rfl⟩ (by rw [t];exact leA)
 . have u:el.length=2:=e0;have a:0<el.length:=(by omega);have f:1<el.length:=(by omega);refine Z7 (hS.le leA) (by rw [z];omega) fun ab ao e_=> ?_;subst e_;have r:(Aq el).getD 0 (fun _=> [])=(el[0]).er.code:=(by rw [aG,bJ,aE a];rfl);have d:=Vp a0 a;have b0:(el[0]).sz<=Wf el:=Y7 (aC a);have g0:(Aq el).getD 1 (fun _=> [])=(el[1]).er.code:=(by rw [aG,bJ,aE f];rfl);have c0:=Vp a0 f;have k0:(el[1]).sz<=Wf el:=Y7 (aC f);obtain ⟨w,c⟩: ∃ C,el[0].er.code K.length=C:=⟨_,rfl⟩;have m:=Za el[0].er K.length;rw [c,Z6] at m;have j0:(el[0]).sz+(el[1]).sz<=Wf el:=(by obtain ⟨x,y,rfl⟩: ∃ x y,el= [x,y]:=(by match el,u with| [x,y],_=>exact ⟨x,y,rfl⟩);simp only [Wf,fT,fU];omega);obtain ⟨C1,s⟩: ∃ C,el[1].er.code (K.length+w.length+1)=C:=⟨_,rfl⟩;have f0:=Za el[1].er (K.length+w.length+1);rw [s,Z6] at f0;rw [if_neg (by decide),if_neg (by decide),if_pos ⟨rfl,by decide⟩,r,c,g0,s] at t;refine rf [8,0,7,1020,6,1038,6,1053,6,1065,8,0,7,1104,6,2109,4] l ?_;refine Zv call283 Zj (O5 u (by omega) (cF hK) (hg.le leA) d c0 (IH (Wu hs a)) (IH (Wu hs f)) c s) ?_;rintro _ _ rfl;refine ox 2 ?_;refine Zr (coH p pp nm (K++lnd R ln) ln::q) func233 (Yy results233) ⟨_,rfl,rfl⟩ (by rw [t];exact leA)
 have u:el.length=2:=e0;have a:0<el.length:=(by omega);have f:1<el.length:=(by omega);refine Z7 (hS.le leA) (by rw [z];omega) fun ab ao e_=> ?_;subst e_;have r:(Aq el).getD 0 (fun _=> [])=(el[0]).er.code:=(by rw [aG,bJ,aE a];rfl);have d:=Vp a0 a;have b0:(el[0]).sz<=Wf el:=Y7 (aC a);have g0:(Aq el).getD 1 (fun _=> [])=(el[1]).er.code:=(by rw [aG,bJ,aE f];rfl);have c0:=Vp a0 f;have k0:(el[1]).sz<=Wf el:=Y7 (aC f);obtain ⟨w,c⟩: ∃ C,el[0].er.code K.length=C:=⟨_,rfl⟩;have m:=Za el[0].er K.length;rw [c,Z6] at m;have j0:(el[0]).sz+(el[1]).sz<=Wf el:=(by obtain ⟨x,y,rfl⟩: ∃ x y,el= [x,y]:=(by match el,u with| [x,y],_=>exact ⟨x,y,rfl⟩);simp only [Wf,fT,fU];omega);obtain ⟨C1,s⟩: ∃ C,el[1].er.code (K.length+w.length)=C:=⟨_,rfl⟩;have f0:=Za el[1].er (K.length+w.length);rw [s,Z6] at f0;rw [if_neg (by decide),if_neg (by decide),if_neg (by rintro ⟨_,k⟩;omega),if_neg (by decide),if_neg (by decide),if_neg (by decide),r,c,g0,s] at t;refine rf [8,0,7,1020,6,1038,6,1053,6,1065,8,0,7,1104,6,1109,7,0,1] l ?_;refine Zv call233 Zj (IH (e:=el[0]) (Wu hs a) (by omega) (cF (Ue hK a)) (hg.le leA) d) ?_;rintro _ _ rfl;rw [c];obtain ⟨K1,g⟩: ∃ k:List (Ins×Int),k=K++lnd w ln:=⟨_,rfl⟩;rw [<-g];have d0:K1.length=K.length+w.length:=(by rw [g];rw [aA,Z9]);refine rf [7,0,1] l ?_;refine Zv call233 Zj (IH (e:=el[1]) (Wu hs f) (by omega) (cF (Ue hK f)) (hg.le leA) c0) ?_;rintro _ _ rfl;rw [show ((K1.length:Nat):Int)=K.length+w.length by omega,s];obtain ⟨K2,m0⟩: ∃ k:List (Ins×Int),k=K1++lnd C1 ln:=⟨_,rfl⟩;rw [<-m0];have r0:K2.length=K.length+w.length+C1.length:=(by rw [m0];rw [aA,Z9,d0]);refine rf [6,0] l ?_;refine Vl (H9 rfl rfl underlying446 sizeOf220 (by omega) (by have:=p0 rfl;omega)) ?_;have v0:=p0 rfl;obtain ⟨On,u0⟩:=bP (show 0<=v by omega);have q0:On<opL.length:=(by show On<12;omega);have t0:=opL_at ⟨On,q0⟩ (by show 3<=On;omega);refine ld ?_ (hc:=(gP (j:=v) (n:=On) (hg.le leA) (aH _) q0 (by omega)));refine aW 101 (I64 (v+7)) rfl (aQ (Value.int .i64) (by rw [u0];exact t0)) ?_;refine oo 1 ?_;refine Zv call98 Zj (Qd (i:=⟨v+7,0,0,0⟩) (by rw [r0];omega)) ?_;rintro _ _ rfl;refine ox 2 ?_;refine Zr (coH p pp nm (K++lnd R ln) ln::q) func233 (Yy results233) ⟨_,rfl,rfl⟩ (by rw [t,Dw,Dw,F4,<-aK,<-aK,<-g,<-m0];exact leA)
end
end Go.Proofs.YtadahhbefdnabaaGreatDoor
namespace Go.Proofs.YtadahhbefdnabaaGreatDoor
open Go Go.RowKit Wx Go.Proofs.Tryz
open Go.ChangeShapes Go.WideShapes Go.ChangeAt
theorem gEff: prog.globalNamed "warp/verify.effects" = some 2 := by kernel_rfl
theorem gCod: prog.globalNamed "warp/ops.codes" = some 1 := by kernel_rfl
theorem gOpc: prog.globalNamed "warp/compile.opCodes" = some 0 := by kernel_rfl
theorem tOpc:(prog.globals[0]?).map (·.type)=some 446:=by kernel_rfl
theorem tEff:(prog.globals[2]?).map (·.type)=some 469:=by kernel_rfl
theorem tCod:(prog.globals[1]?).map (·.type)=some 453:=by kernel_rfl
section
variable {H:Type}{enc:TypeId×Value->H}{W:World}{base fuel:Nat}{sp:Nat->Bool}{hd:Bool}{cs:List Value}{pl:List MemPlace}
def FD:DataW H->List Value
 | .agg [.lit (.int .i64 a),.lit (.int .i64 b)]=> [I64 a,I64 b]
 | .agg [.lit (.string s),.lit (.int .i64 b)]=> [.string ⟨s.toArray⟩,I64 b]
 |_=> []
theorem tab_ef (h:DataW.trod enc prog W base sp hd fuel 469 cs=some (Rows.laid_warp_verify_effects,pl)):cs=effL.flatMap efC:=by
 obtain ⟨f,m,rfl,s,w,t,o⟩:=DataW.trod_array underlying469 h;have r:prog.cellsOf 468=2:=by kernel_rfl
 have c2:prog.cellsOf 469=70:=by kernel_rfl
 have z:prog.cellsOf 3=1:=by kernel_rfl
 have p:=Rv (fun y:DataW H×List MemPlace=>FD y.1) 2 f cs (by rw [w,t,c2]) (fun i x=>by
  have q:=o i (by omega);rw [r,aE x] at q;obtain ⟨y0,y1,n,e,a,j,g⟩:=trod_struct2 underlying468 q;dsimp only at j g;rw [z] at j g;obtain ⟨n0,d,rfl,_⟩:=DataW.trod_int underlying3 j;obtain ⟨n1,b,rfl,_⟩:=DataW.trod_int underlying3 g;rw [e];generalize (cs.drop (i*2)).take 2=c at a d b|-;rw [r] at a
  match c,a,d,b with
  | [u,v],_,d,b=>simp at d b;subst d;subst b;rfl)
 rw [p]
 have k:f.map (·.1)=match (Rows.laid_warp_verify_effects:DataW H) with| .agg l=>l|_=> []:=by
  have:=aQ Prod.fst s;simp only at this;rw [this]
 have:f.flatMap (fun y=>FD y.1)=(f.map (·.1)).flatMap FD:=by rw [jG]
 rw [this,k];rfl
def LdO:DataW H->List Value
 | .lit (.int .i64 a)=> [I64 a]
 |_=> []
theorem tab_op (h:DataW.trod enc prog W base sp hd fuel 446 cs=some (Rows.laid_warp_compile_opCodes,pl)):cs=opL.map I64:=by
 obtain ⟨a,m,rfl,k,o,n,d⟩:=DataW.trod_array underlying446 h;have r:prog.cellsOf 220=1:=by kernel_rfl
 have q:prog.cellsOf 446=12:=by kernel_rfl
 have e:=Rv (fun y:DataW H×List MemPlace=>LdO y.1) 1 a cs (by rw [o,n,q]) (fun i p=>by
  have f:=d i (by omega);rw [r,aE p] at f;obtain ⟨s,j,g,_⟩:=DataW.trod_int underlying220 f;generalize (cs.drop (i*1)).take 1=c at j g|-;rw [g];subst j;rfl)
 rw [e]
 have b:a.map (·.1)=match (Rows.laid_warp_compile_opCodes:DataW H) with| .agg l=>l|_=> []:=by
  have:=aQ Prod.fst k;simp only at this;rw [this]
 have:a.flatMap (fun y=>LdO y.1)=(a.map (·.1)).flatMap LdO:=by rw [jG]
 rw [this,b];rfl
def toP:DataW H->ByteArray×Int
 | .agg [.lit (.string s),.lit (.int .i64 b)]=>(⟨s.toArray⟩,b)
 |_=>(⟨#[]⟩,0)
def codL:List (ByteArray×Int):=match (Rows.laid_warp_ops_codes:DataW Unit) with| .agg l=>l.map toP|_=> []
theorem Zx2:codL.map (·.2)=Er:=by rfl
theorem tab_cd (h:DataW.trod enc prog W base sp hd fuel 453 cs=some (Rows.laid_warp_ops_codes,pl)):cs=codL.flatMap cdC:=by
 obtain ⟨f,m,rfl,s,w,t,o⟩:=DataW.trod_array underlying453 h;have r:prog.cellsOf 452=2:=by kernel_rfl
 have c2:prog.cellsOf 453=70:=by kernel_rfl
 have c3:prog.cellsOf 9=1:=by kernel_rfl
 have z:prog.cellsOf 3=1:=by kernel_rfl
 have p:=Rv (fun y:DataW H×List MemPlace=>FD y.1) 2 f cs (by rw [w,t,c2]) (fun i x=>by
  have q:=o i (by omega);rw [r,aE x] at q;obtain ⟨y0,y1,n,e,a,j,g⟩:=trod_struct2 underlying452 q;dsimp only at j g;rw [c3] at j;rw [z] at g;obtain ⟨n0,d,rfl,_⟩:=DataW.trod_string underlying9 j;obtain ⟨n1,b,rfl,_⟩:=DataW.trod_int underlying3 g;rw [e];generalize (cs.drop (i*2)).take 2=c at a d b|-;rw [r] at a
  match c,a,d,b with
  | [u,v],_,d,b=>simp at d b;subst d;subst b;rfl)
 rw [p]
 have k:f.map (·.1)=match (Rows.laid_warp_ops_codes:DataW H) with| .agg l=>l|_=> []:=by
  have:=aQ Prod.fst s;simp only at this;rw [this]
 have:f.flatMap (fun y=>FD y.1)=(f.map (·.1)).flatMap FD:=by rw [jG]
 rw [this,k];rfl
end
def Ll: List (String × DataW Unit) := [("warp/ops.codes", Rows.laid_warp_ops_codes), ("warp/compile.opCodes", Rows.laid_warp_compile_opCodes), ("warp/verify.effects", Rows.laid_warp_verify_effects)]
theorem of_laid {W:World}(h:laidMetH prog Ll W):GC [old W]/\GO [old W]/\GE [old W]:=by
 rw [MakeChecks.laidMetH_plain _ _ _ (by kernel_rfl)] at h;obtain ⟨ps,⟨g0,y,v,f0,p0,q0,d,l,g,o,⟨g2,w,s,f2,p2,z,b,j,e,m,⟨g1,x,t,f1,p1,q1,c,k,f,n,_,_⟩,_⟩,_⟩,_,_⟩:=h;obtain rfl:=dT (gCod.symm.trans d);obtain rfl:=dT (gOpc.symm.trans b);obtain rfl:=dT (gEff.symm.trans c);obtain rfl:=dT (tCod.symm.trans l);obtain rfl:=dT (tOpc.symm.trans j);obtain rfl:=dT (tEff.symm.trans k);have r:=tab_cd o;have q:=tab_ef n;have p:=tab_op m;refine ⟨⟨codL,Zx2,SeesW.sees (fun i u a=>⟨_,_,rfl,?_⟩) []⟩,SeesW.sees (fun i u a=>⟨_,_,rfl,?_⟩) [],SeesW.sees (fun i u a=>⟨_,_,rfl,?_⟩) []⟩
 . rw [dO,World.var?_cell d g i,<-a,<-r];simp
 . rw [dO,World.var?_cell b e i,<-a,<-p];simp
 rw [dO,World.var?_cell c f i,<-a,<-q];simp
theorem door_met (os:Os)(args:Array Value):laidMetH prog Ll ((World.doorLaid prog 400 os).forCall (fun _ _=>0) ⟨#[],args, []⟩).memory:=
 laidMetH_of_parts3 (fuel:=8) (laidMet_of_run' 8 (by kernel_rfl) (by kernel_rfl)) (by kernel_rfl) (by kernel_rfl)
end Go.Proofs.YtadahhbefdnabaaGreatDoor
namespace Go.Proofs.YtadahhbefdnabaaGreatDoor
open Go Go.RowKit Wx Go.Proofs.Tryz
attribute [local irreducible] lsH rsH stars
variable {c b i n s pp nm bc ec2 o:Nat}{lo id t sl ot ln l0 u cd kk l1 cl lw main:Int}{k todo:List Item}{lo_:Bool}{e ix:PEx}{d:PDec}{ds:List Deferred}{F:Fnd}{l T:List Cod}{g:FC}{m:Mdl}{nm1 wt1:ByteArray}{x:Cod}{G:World}{q pre:List HP}{p:PE}{K A B:List (Ins×Int)}{Ep Xp:Ex}{bd es2:List Stm}{ea2 a:Option Addr}{P:Program}{v0 v1 v2 v3 v4:Value}{Q:Yw}{cs:List Frame}{M M':Hp}{ops:List Oper}{L:List (ByteArray×Int×List Ins×List Int)}
theorem Nr (f:Fnd)(w:Int):(f.fl w).stm=f.stm:=by unfold Fnd.fl;split<;>rfl
theorem Mk (f:Fnd)(s:ByteArray)(a b:Int):(f.wants s a b).1.stm=f.stm:=by
 unfold Fnd.wants;split
 . exact Nr _ _
 dsimp only;split
 . exact Nr _ _
 rfl
theorem Zq8 (f:Fnd)(k sl ot:Int)(nm wt:ByteArray)(lo:Bool):(f.own k nm wt sl ot lo).1.stm=f.stm:=by
 have a:(f.own1 k nm sl lo).1.stm=f.stm:=by
  unfold Fnd.own1;split
  . exact Mk _ _ _ _
  rfl
 unfold Fnd.own Fnd.own2;split
 . show (((f.own1 k nm sl lo).1.loc1 nm).loc2).stm=_
   have b:((f.own1 k nm sl lo).1.loc1 nm).stm=f.stm:=by
    unfold Fnd.loc1;split
    . rw [Nr,a]
    exact a
   unfold Fnd.loc2;split
   . rw [Nr,b]
   exact b
 split
 . exact (Mk _ _ _ _).trans a
 split
 . exact (Mk _ _ _ _).trans a
 exact a
mutual
theorem Bg {c:Cn}{lo:Int}: ∀ {e:PEx} {d:Nat},e.fit->e.dep<=d->e.wl c lo->e.ask c lo d=true
 | .mk k n nm slot loc op args,d,⟨h1,h2,h3,h4,h5⟩,hd,⟨w1,w2,w3⟩=>by
  simp only [PEx.dep] at hd;simp only [PEx.ask,aR,cP];refine ⟨⟨by omega,?_⟩,?_⟩
  . rw [h2];unfold Qr Qc inB;have g:k=1\/k=2\/k=3\/k=4\/k=5\/k=6:=by omega
    rcases g with rfl|rfl|rfl|rfl|rfl|rfl
    . have:=h3 rfl;rw [if_pos rfl,if_pos (show val n from ⟨by omega,by omega⟩)];rfl
    . obtain ⟨a,b⟩:=w1 rfl;rw [if_neg (by decide),if_pos rfl,if_pos]
      . rfl
      rw [cP];refine ⟨a,?_⟩;split
      . rename_i f;rw [if_pos f] at b;exact b
      rename_i f;rw [if_neg f] at b;exact b
    . have:=w2 rfl;rw [if_neg (by decide),if_neg (by decide),if_pos rfl,if_pos (by rw [cP];exact this)];rfl
    . rfl
    . rfl
    have:=h4 rfl;rw [if_neg (by decide),if_neg (by decide),if_neg (by decide),if_neg (by decide),if_pos rfl,if_pos (by omega)];rfl
  have:=Fb (c:=c) (lo:=lo) (d:=d - 1) h5 (by omega) w3;rwa [show ((d - 1:Nat):Int)=(d:Int) - 1 by omega] at this
theorem Fb {c:Cn}{lo:Int}: ∀ {l:List PEx} {d:Nat},Q1 l->Ym l<=d->Rx c lo l->Ko c lo l d=true
 | [],_,_,_,_=>rfl
 |e::r,d,⟨h1,h2⟩,hd,⟨w1,w2⟩=>by
  simp only [Ym] at hd;simp only [Ko,aR];exact ⟨Bg h1 (by omega) w1,Fb h2 (by omega) w2⟩
end
theorem slotB_of {c:Cn}{k slot other:Int}{loc:Bool}(hk:1<=k/\k<=15)(h:ownOk c lo k slot other loc)(hl:k=1->loc=true):Gh c lo k slot other loc=true:=by
 obtain ⟨i,o,g,e,m,f,l,j⟩:=h
 have cl: ∀ {s:Int},vaOk c lo s loc->Qc c lo s loc=true:=fun {s} h=>by
  unfold Qc inB vaOk at*;rw [cP];refine ⟨h.1,?_⟩;have:=h.2;split
  . rename_i hl;rw [if_pos hl] at this;exact this
  rename_i hl;rw [if_neg hl] at this;exact this
 have a: ∀ {n d:Int},0<=n/\n<d->inB n d=true:=fun h=>by unfold inB;exact dA h
 have b:k=1\/k=2\/k=3\/k=4\/k=5\/k=6\/k=7\/k=8\/k=9\/k=10\/k=11\/k=12\/k=13\/k=14\/k=15:=by omega
 unfold Gh;rcases b with rfl|rfl|rfl|rfl|rfl|rfl|rfl|rfl|rfl|rfl|rfl|rfl|rfl|rfl|rfl
 . rw [if_pos rfl,hl rfl,<-hl rfl,cl (i (.inl rfl)),hl rfl];rfl
 . exact cl (i (.inr rfl))
 . exact a (o rfl)
 . rfl
 . rfl
 . exact a (g (.inl rfl))
 . exact a (g (.inr rfl))
 . exact Bool.and_eq_true_iff.2 ⟨a (e (.inl rfl)),a (m rfl)⟩
 . exact a (e (.inr (.inl rfl)))
 . exact a (e (.inr (.inr rfl)))
 . exact a (f (.inl rfl))
 . exact Bool.and_eq_true_iff.2 ⟨a (f (.inr rfl)),cl (l rfl)⟩
 . exact a (j rfl)
 . rfl
 rfl
theorem partB_of {c:Cn}{k:Int}{nb ne:Nat}(hm:Zz3 k nb ne=false)(he:k<=5\/k=11\/k=15->e.ask c lo 24=true)(hx:k=3->ix.ask c lo 24=true):G0 c lo k e ix nb ne=true:=by
 unfold Zz3 at hm;unfold G0;simp only [eZ,Bool.and_eq_false_iff,jP,cM] at hm;simp only [aR,eS,cP,hU,cM,eI,iA,ne_eq];obtain ⟨a,b⟩:=hm;refine ⟨⟨⟨?_,?_⟩,?_⟩,?_⟩
 . rcases a with (a|a)|a
   . exact .inl (.inl a)
   . exact .inl (.inr a)
   exact .inr a
 . rcases b with b|b
   . exact .inl b
   exact .inr b
 . by_cases hk:k=3
   . exact .inr (hx hk)
   exact .inl hk
 by_cases hk:k<=5\/k=11\/k=15
 . exact .inr (he hk)
 exact .inl (by omega)
mutual
theorem Ox {c:Cn}{lo:Int}: ∀ (s:PStm) (f:Fnd) (d:Nat),s.may d=true->(f.stmt s).1.flaw=0->0<=f.stm->(f.stmt s).2.wl c lo->(f.stmt s).2.ask c lo d f.stm=some (f.stmt s).1.stm/\0<=(f.stmt s).1.stm
 | .mk k ln cl nm wt e ix body els id slot other loc,f,d,hm,h,hz,hw=>by
  simp only [PStm.may] at hm;split at hm;cases hm
  rename_i m1;split at hm;cases hm
  split at hm;cases hm
  split at hm;cases hm
  rename_i m4;rw [aR] at hm;unfold Zz4 at m1;simp only [eS,not_or,cP] at m1;simp only [Fnd.stmt] at h hw|-;split at h
  . exact aV h (Wb (by decide))
  rename_i h5;rw [if_neg h5] at hw|-;dsimp only at h hw|-;obtain ⟨g0,r⟩: ∃ g:Fnd,g= { f with stm:=f.stm+1 } :=⟨_,rfl⟩;rw [<-r] at h hw|-;obtain ⟨y,o⟩:=lM (g0.expr ix);rw [<-o] at h hw|-;obtain ⟨f2,n⟩:=lM (y.1.expr e);rw [<-n] at h hw|-;obtain ⟨p,l⟩:=lM (f2.1.own k nm wt slot other loc);rw [<-l] at h hw|-;obtain ⟨x,j⟩:=lM (p.1.blk body);rw [<-j] at h hw|-;obtain ⟨v,m⟩: ∃ g:Fnd,g= { x.1 with names:=p.1.names,locals:=p.1.locals } :=⟨_,rfl⟩;rw [<-m] at h hw|-;obtain ⟨f5,i⟩:=lM (v.blk els);rw [<-i] at h hw|-;have q5:=Jv els v (by rw [<-i];exact h);have q4:x.1.flaw=0:=by rw [m] at q5;exact q5
  have q3:p.1.flaw=0:=Jv body p.1 (by rw [<-j];exact q4);have q2:f2.1.flaw=0:=Pp (by rw [<-l];exact q3);have w:=(Ja (c:=c) (lo:=lo) e y.1 (by rw [<-n];exact q2)).1;rw [<-n] at w;have q1:y.1.flaw=0:=by rw [<-w];exact q2
  have p1:=(Ja (c:=c) (lo:=lo) ix g0 (by rw [<-o];exact q1)).1;rw [<-o] at p1;have s3:p.1.stm=f.stm+1:=by rw [l,Zq8,w,p1,r]
  obtain ⟨w1,w2,w3,w4,w5,w6,w7⟩:=hw;have b4:=H4 (c:=c) (lo:=lo) body p.1 (d+1) hm.1 (by rw [<-j];exact q4) (by omega) (by rw [<-j];exact w6);rw [<-j,s3] at b4;obtain ⟨u,c0,d0⟩:=b4;have s4:v.stm=x.1.stm:=by rw [m]
  have b5:=H4 (c:=c) (lo:=lo) els v (d+1) hm.2 (by rw [<-i];exact h) (by omega) (by rw [<-i];exact w7);rw [<-i,s4] at b5;obtain ⟨t,b0,a0⟩:=b5;refine ⟨?_,a0⟩;simp only [PStm.ask];rw [if_neg (by omega),if_pos]
  . have e1:((d+1:Nat):Int)=(d:Int)+1:=by omega
    rw [e1] at u t;rw [u];exact t
  rw [aR];refine ⟨partB_of (by rw [c0,b0];simpa using m4) (fun q=> ?_) (fun q=> ?_),slotB_of w1 w5 (fun q=>by subst q;rw [l];rfl)⟩
  . obtain ⟨a,b,z⟩:=w2 q;exact Bg (d:=24) a b z
  obtain ⟨a,b,z⟩:=w3 q;exact Bg (d:=24) a b z
theorem H4 {c:Cn}{lo:Int}: ∀ (l:List PStm) (f:Fnd) (d:Nat),Yp l d=true->(f.blk l).1.flaw=0->0<=f.stm->Ww c lo (f.blk l).2->Z3 c lo (f.blk l).2 d f.stm=some (f.blk l).1.stm/\(f.blk l).2.length=l.length/\0<=(f.blk l).1.stm
 | [],f,d,_,_,hz,_=>⟨rfl,rfl,hz⟩
 |s::r,f,d,hm,h,hz,hw=>by
  simp only [Yp,aR] at hm;simp only [Fnd.blk] at h hw|-;split at h
  . rename_i e;rw [if_pos e] at hw|-;obtain ⟨w1,g⟩:=hw;have a:=Ox (c:=c) (lo:=lo) s f d hm.1 (Jv r _ h) hz w1;have b:=H4 (c:=c) (lo:=lo) r (f.stmt s).1 d hm.2 h a.2 g;refine ⟨?_,by simp [b.2.1],b.2.2⟩;simp only [Z3];rw [a.1];exact b.1
  rename_i e;exact aV h e
end
theorem Rs {c:Cn}{t:PTh}{m k:Int}: ∀ {l:List PTh} {n:Int},Wh c l n=some m->(0<=t.loc/\t.loc<=32)->Z3 c t.loc t.body 1 m=some k->Wh c (l++ [t]) n=some k
 | [],n,h,ht,hk=>by
  cases h
  simp only [aY,Wh];rw [if_neg (by omega),hk]
 |x::r,n,h,ht,hk=>by
  simp only [Wh] at h;simp only [bO,Wh];split at h
  . cases h
  rename_i a;rw [if_neg a];split at h
  . cases h
  rename_i j b;exact Rs h ht hk
theorem BInv.next {d f:Fnd}{b:List PStm}(hb:V8 b)(h:BInv (fun _=>True) d f)(hf:(f.bodies i [b]).flaw=0):BInv (fun _=>True) d (f.bodies i [b]):=
 BInv.bodies (fun x a=>by rw [bN.1 a];exact ⟨hb,fun _=>trivial⟩) h hf
theorem Hz {f:Fnd}{r:List (List PStm)}(h:(f.bodies i r).flaw=0):f.flaw=0:=by
 cases r with
 |nil=>exact h
 |cons x r=>
  unfold Fnd.bodies at h;split at h
  . assumption
  exact h
theorem Te {d:Fnd}: ∀ {bs:List (List PStm)} {i:Nat} {f:Fnd},(∀ b∈bs,Yp b 1=true)->BInv (fun _=>True) d f->f.ths.length=i+bs.length->Wh d.cn (f.ths.take i) 0=some f.stm->(f.bodies i bs).flaw=0->Wh d.cn (f.bodies i bs).ths 0=some (f.bodies i bs).stm
 | [],i,f,_,_,hl,ha,_=>by
  rw [aT,iF] at hl;rw [<-hl,bV] at ha;exact ha
 |b::r,i,f,hb,h,hl,ha,hf=>by
  have o:=Hz hf
  have e0:f.bodies i (b::r)=(f.bodies i [b]).bodies (i+1) r:=by
   conv=>lhs;unfold Fnd.bodies
   conv=>rhs;arg 1;unfold Fnd.bodies
   rw [if_pos o,if_pos o];dsimp only;rw [show ∀ (g:Fnd) (j:Nat),g.bodies j []=g from fun _ _=>rfl]
  rw [e0] at hf|-;have p:=Hz hf;have m:=hb b (bW ..);have hn:=BInv.next (Vc m) h p
  have u:f.bodies i [b]= { (Fnd.blk { f with most:=0 } b).1 with names:=f.names,locals:=f.locals,ths:=(Fnd.blk { f with most:=0 } b).1.ths.set i ⟨((Fnd.blk { f with most:=0 } b).1.ths.getD i ⟨em,0, []⟩).nm,(Fnd.blk { f with most:=0 } b).1.most,(Fnd.blk { f with most:=0 } b).2⟩ } :=by
   unfold Fnd.bodies;rw [if_pos o];rfl
  obtain ⟨q,k⟩:=lM (Fnd.blk { f with most:=0 } b);rw [<-k] at u;have to:=iB b { f with most:=0 };rw [<-k] at to;obtain ⟨t1,t2,t3,t4,t5,t,_⟩:=to.e;dsimp only at t;have s:q.1.flaw=0:=by rw [u] at p;exact p
  obtain ⟨j1,j2,j3,j4,j5,j6,z⟩:=h.e;have cx:Ctx d.cn { f with most:=0 } :=⟨by dsimp only;rw [z,h.l.1];exact h.n,by dsimp only;rw [h.l.1];decide,h.l.2⟩;have w:=Hv (c:=d.cn) b { f with most:=0 } (Vc m) (by rw [<-k];exact s) cx;rw [<-k] at w;obtain ⟨w1,y,v⟩:=w;have a:=H4 (c:=d.cn) (lo:=q.1.most) b { f with most:=0 } 1 m (by rw [<-k];exact s) h.l.2 (by rw [<-k];exact v);rw [<-k] at a;have hi:i<q.1.ths.length:=by rw [t,hl];simp
  refine Te (fun x hx=>hb x (bX _ hx)) hn ?_ ?_ hf
  . rw [u];dsimp only;rw [bK,t,hl];simp;omega
  rw [u];dsimp only;rw [aN (by rw [bK];exact hi),List.take_set_of_le (aU i),cH,t];exact Rs ha ⟨y,w1.l.2.2⟩ a.1
theorem Zwn (l:List Int)(x:Int):Vh (l++ [x])=Vh l+x:=by
 induction l with
 |nil=>simp [Vh]
 |cons y r ih=>simp only [Vh,bO,List.foldr_cons] at ih|-;omega
structure DNum (f:Fnd):Prop where
 n:f.vars.length+f.arrs.length+f.mu+f.co+f.chs.length+f.ths.length=f.names.length
 s:Vh f.arrs=f.cells/\f.cells<=256
 k:f.nv.length<=f.names.length/\f.na.length<=f.names.length/\f.nm.length<=f.names.length/\f.nc.length<=f.names.length/\f.nh.length<=f.names.length
theorem DNum.z:DNum Fnd.z:=⟨rfl,⟨rfl,by decide⟩,by decide⟩
theorem DNum.decl {f:Fnd}(h:DNum f)(hf:(f.decl d).flaw=0)(hk:1<=d.k/\d.k<=6):DNum (f.decl d):=by
 have i: ∃ g s,f.decl d= { g with names:=f.names++ [⟨d.nm,d.k,s⟩] } /\g=(f.decl1 d).1/\(f.decl1 d).2.2=true:=by
  unfold Fnd.decl at hf|-;split at hf
  . exact aV hf (Wb (by decide))
  rename_i p;rw [if_neg p];split at hf
  . rename_i e;rw [Mv e] at hf;exact aV hf (Wb (by decide))
  rename_i e;rw [if_neg e]
  have m:(f.decl1 d).1.names=f.names:=by
   unfold Fnd.decl1;(repeat' split)<;>first|rfl|exact (f.fl_keep _).2.2.1
  split at hf
  . exact aV hf (Wb (by decide))
  rename_i o;rw [if_neg o];exact ⟨_,_,by rw [m],rfl,by revert e;cases (f.decl1 d).2.2<;>simp⟩
 obtain ⟨g,s,n,a,c⟩:=i;rw [n];obtain ⟨w,⟨j,l⟩,v,u,t,r,q⟩:=h;have b:d.k=1\/d.k=2\/d.k=3\/d.k=4\/d.k=5\/d.k=6:=by omega
 unfold Fnd.decl1 at a c;rcases b with b|b|b|b|b|b
 focus
  rw [if_pos b] at a c;split at c
  . cases c
  rename_i e;rw [if_neg e] at a;subst a
 rotate_left
 . rw [if_neg (by omega),if_pos b] at a c;split at c
   . cases c
   rename_i e;rw [if_neg e] at a;subst a;exact ⟨by simp;omega,⟨by dsimp only;rw [Zwn,j],by dsimp only;omega⟩,by simp;omega⟩
 focus
  rw [if_neg (by omega),if_neg (by omega),if_pos b] at a c;subst a
 rotate_left
 focus
  rw [if_neg (by omega),if_neg (by omega),if_neg (by omega),if_pos b] at a c;subst a
 rotate_left
 focus
  rw [if_neg (by omega),if_neg (by omega),if_neg (by omega),if_neg (by omega),if_pos b] at a c;split at c
  . cases c
  rename_i e;rw [if_neg e] at a;subst a
 rotate_left
 focus
  rw [if_neg (by omega),if_neg (by omega),if_neg (by omega),if_neg (by omega),if_neg (by omega),if_pos b] at a c;subst a
 all_goals
  exact ⟨by simp;omega,⟨j,l⟩,by simp;omega⟩
theorem DNum.decls: ∀ {ds:List PDec} {f:Fnd},DNum f->(∀ d∈ds,1<=d.k/\d.k<=6)->(f.decls ds).flaw=0->DNum (f.decls ds)
 | [],_,h,_,_=>h
 |d::r,f,h,hd,hf=>by
  unfold Fnd.decls at hf|-;split at hf
  . rename_i a;rw [if_pos a]
    have c:(f.decl d).flaw=0:=by
     cases r with
     |nil=>exact hf
     |cons x r=>
      unfold Fnd.decls at hf;split at hf
      . assumption
      exact hf
    exact DNum.decls (h.decl c (hd d (bW ..))) (fun x b=>hd x (bX _ b)) hf
  rename_i a;exact aV hf a
theorem R4: ∀ {ds:List PDec} {f:Fnd},f.flaw=0->(f.decls ds).flaw=0->(f.decls ds).ths.length=f.ths.length+(ds.filter fun d=>d.k==6).length
 | [],_,_,_=>rfl
 |d::r,f,h0,hf=>by
  unfold Fnd.decls at hf|-;rw [if_pos h0] at hf|-
  have a:(f.decl d).flaw=0:=by
   cases r with
   |nil=>exact hf
   |cons x r=>
    unfold Fnd.decls at hf;split at hf
    . assumption
    exact hf
  rw [R4 a hf,Ni h0 a,jD];by_cases hk:d.k=6
  . rw [if_pos hk,if_pos (by simpa using hk),aJ];omega
  rw [if_neg hk,if_neg (by simpa using hk)];omega
theorem N2: ∀ {bs:List (List PStm)} {i:Nat} {f:Fnd},(f.bodies i bs).nv=f.nv/\(f.bodies i bs).na=f.na/\(f.bodies i bs).nm=f.nm/\(f.bodies i bs).nc=f.nc/\(f.bodies i bs).nh=f.nh
 | [],_,_=>⟨rfl,rfl,rfl,rfl,rfl⟩
 |b::r,i,f=>by
  unfold Fnd.bodies;split
  . dsimp only;have to:=(iB b { f with most:=0 }).e;obtain ⟨_,_,_,_,_,_,_,h,g,d,c,a,_⟩:=to;obtain ⟨n,m,l,k,j⟩:=N2 (bs:=r) (i:=i+1) (f:= { (Fnd.block { f with most:=0 } b).1 with ths:=(Fnd.block { f with most:=0 } b).1.ths.set i ⟨((Fnd.block { f with most:=0 } b).1.ths.getD i ⟨em,0, []⟩).nm,(Fnd.block { f with most:=0 } b).1.most,(Fnd.block { f with most:=0 } b).2⟩ });exact ⟨n.trans h,m.trans g,l.trans d,k.trans c,j.trans a⟩
  exact ⟨rfl,rfl,rfl,rfl,rfl⟩
theorem bad_mays (h:d.bad=false):Yp d.body 1=true:=by
 unfold PDec.bad Zz5 at h;simp only [eZ,cM,iO] at h;exact h.2
structure FndOk (F:Fnd):Prop where
 m:Bz F=true
 k:F.nv.length<=64/\F.na.length<=64/\F.nm.length<=64/\F.nc.length<=64/\F.nh.length<=64
theorem find_may {ds:List PDec}(h:E8 ds=some F):FndOk F:=by
 have hp:=Cc (P:=fun _=>True) h trivial (fun _ _ _ _=>trivial);unfold E8 at h;split at h
 . cases h
 rename_i x
 have p: ∀ d∈ds,d.bad=false:=fun d hd=>by
  cases u:d.bad with
  |false=>rfl
  |true=>exact aV (kN.2 ⟨d,hd,u⟩) x
 dsimp only at h;obtain ⟨f,w⟩:=lM (Fnd.decls .z ds);rw [<-w] at h;obtain ⟨y,o⟩: ∃ y,y=(if f.flaw=0/\(f.at J2=0\/((f.names.map (·.k)).getD (f.at J2 - 1) 0)≠6) then f.fl 133 else f):=⟨_,rfl⟩;rw [<-o] at h;obtain ⟨bs,r⟩:=lM ((ds.filter fun d=>d.k==6).map (·.body));rw [<-r] at h;by_cases hfl:(y.bodies 0 bs).flaw≠0
 . rw [if_pos hfl] at h;cases h
 rw [if_neg hfl] at h
 cases h
 have j:=kE.1 hfl;have z1:y.flaw=0:=Hz j
 have hm:y=f/\f.flaw=0:=by
  split at o
  . rw [o] at z1;exact aV z1 (Wb (by decide))
  rw [o] at z1;exact ⟨o,z1⟩
 obtain ⟨e1,z2⟩:=hm;have z3:(Fnd.decls .z ds).flaw=0:=by rw [<-w];exact z2
 have D:DInv f:=by
  rw [w];exact DInv.decls .z (fun d hd=>⟨(Io (p d hd)).1,bad_nm (p d hd)⟩) z3
 have E:DNum f:=by
  rw [w];exact DNum.decls .z (fun d hd=>(Io (p d hd)).1) z3
 have b0:f.ths.length=bs.length:=by
  have:=R4 (f:= .z) rfl z3;rw [w,this,r,aI];show 0+_=_;omega
 rw [e1] at j hp|-
 have q: ∀ b∈bs,Yp b 1=true:=fun b u=>by
  rw [r] at u;obtain ⟨d,hd,rfl⟩:=bS.1 u;exact bad_mays (p d (gY.1 hd).1)
 have B0:BInv (fun _=>True) f f:=⟨⟨rfl,rfl,rfl,rfl,rfl,rfl,rfl⟩,D.n,⟨D.l.1,by rw [D.l.2];decide⟩,fun t ht=>by
  obtain ⟨a,b,c⟩:=D.t t ht;exact ⟨a,by omega,by rw [c];trivial,trivial⟩⟩
 have B:=BInv.bodies (i:=0) (fun b u=>⟨Vc (q b u),fun _=>trivial⟩) B0 j;have A:=Te (i:=0) q B0 (by omega) (by show some (0:Int)=some f.stm;rw [D.l.2]) j;have K:=N2 (bs:=bs) (i:=0) (f:=f);obtain ⟨g,hg⟩:=lM (f.bodies 0 bs);rw [<-hg] at B A K hp|-;obtain ⟨b1,b2,b3,b4,b5,b6,b7⟩:=B.e;obtain ⟨mn,a0⟩:=lM ((g.names.map (·.s)).getD (f.at J2 - 1) 0);rw [<-a0] at hp|-;have cn:Fnd.cn { g with main:=mn } =f.cn:=by unfold Fnd.cn;dsimp only;rw [b1,b2,b3,b4,b5,b6]
 obtain ⟨k1,k2,k3,k4,k5,k6,k7⟩:=D.k;have en:=E.n;refine ⟨?_,?_⟩
 . unfold Bz;rw [aR,aR];refine ⟨⟨?_,?_⟩,?_⟩
   . unfold S7;rw [cP];dsimp only;rw [b1,b2,b3,b4,b5,b6];refine ⟨by omega,by omega,by omega,fun v hv=>D.v v hv,D.a,D.c,by rw [E.s.1];exact E.s.2⟩
   . unfold inB;rw [cP];exact hp.m
   rw [cn];rw [eI];exact A
 obtain ⟨a1,a2,a3,a4,a5⟩:=K;dsimp only;rw [a1,a2,a3,a4,a5];have:=E.k;omega
theorem Gw {l:Bs}(h:Vi l=some F):FndOk F:=by
 unfold Vi at h;split at h
 . cases h
 exact find_may h
mutual
theorem Sq {B:Nat}: ∀ {s:Stm},s.er.wt<=B->s.lm B/\s.sz<=B
 | .mk k ln cl nm wt e ix body els ba bc ea ec id sl ot lo,h=>by
  simp only [Stm.er,PStm.wt,Z6] at h;have b:=Nu (B:=B) (l:=body) (by omega);have a:=Nu (B:=B) (l:=els) (by omega);have d:=Nn body;have c:=Nn els;exact ⟨⟨by omega,by omega,b,a⟩,by simp only [Stm.sz];omega⟩
theorem Nu {B:Nat}: ∀ {l:List Stm},Zo (Zk l)<=B->Vx B l
 | [],_=>trivial
 |s::r,h=>by
  simp only [Zk,Zo] at h;exact ⟨(Sq (by omega)).1,Nu (by omega)⟩
theorem Nn: ∀ (l:List Stm),Zu l<=Zo (Zk l)
 | []=>bC _
 |s::r=>by
  simp only [Zk,Zo,Zu];have b:=(Sq (s:=s) (aU _)).2;have a:=Nn r;omega
end
theorem FC.cp {l:Bs}(h:Vi l=some g.er):CpOk (14*65536) g:=by
 obtain ⟨p,u⟩:=Gv h;have m:=Gw h;obtain ⟨o,n,j,i,d⟩:=m.k;obtain ⟨c,b,a,s,_,_⟩:=p.k;have e:g.er.ths.length=g.ths.l.length:=by show (g.ths.l.map Th.er).length=_;rw [aI]
 rw [e] at s;have c:g.vars.l.length<=64:=c;have b:g.arrs.l.length<=64:=b;have a:g.chs.l.length<=64:=a;have o:g.nv.l.length<=64:=o;have n:g.na.l.length<=64:=n;have j:g.nm.l.length<=64:=j;have i:g.nc.l.length<=64:=i;have d:g.nh.l.length<=64:=d;refine ⟨by omega,by decide,fun x q=> ?_⟩;have:=(p.t _ (aZ (f:=Th.er) q)).p;have r:(Th.er x).body=Zk x.body:=rfl;rw [r] at this;have v:=Nn x.body;exact ⟨by omega,Nu (by omega)⟩
theorem Ga {k:Int}(h:k≠3)(h2:k<=5\/k=11\/k=15):Qz k e ix id t= [⟨23,id,0,0⟩]++e.code (t+1):=by
 unfold Qz;dsimp only;rw [if_neg h,if_pos h2];rfl
theorem preS_3 :Qz 3 e ix id t= [⟨23,id,0,0⟩]++ix.code (t+1)++e.code (t+1+(ix.code (t+1)).length):=by
 unfold Qz;dsimp only;rw [if_pos rfl,if_pos (by decide)];congr 2;simp;omega
theorem Gl {k:Int}(h:k≠3)(h2: ¬ (k<=5\/k=11\/k=15)):Qz k e ix id t= [⟨23,id,0,0⟩]:=by
 unfold Qz;dsimp only;rw [if_neg h,if_neg h2]
theorem code_ln {m:Int}{k l c:Int}{n w:ByteArray}{x:PEx}{b s:List PStm}{i:Int}{lo:Bool}(h:k≠4/\k≠5):(PStm.mk k l c n w e x b s i sl ot lo).code m t=lnd (Qz k e x i t++Uq m k sl ot lo) l:=by
 unfold PStm.code;rw [if_neg h.1,if_neg h.2]
section
variable {p:Nat}{i:Ins}
theorem Zvp {ba:Option Addr}(hK:Kn q fun M=>StAt M ⟨b,o,none⟩ (Stm.mk kk l1 cl nm1 wt1 Ep Xp bd es2 ba bc ea2 ec2 id sl ot lo_))(hw:(Stm.er (Stm.mk kk l1 cl nm1 wt1 Ep Xp bd es2 ba bc ea2 ec2 id sl ot lo_)).wl g.er.cn lw)(hl:K.length+(Stm.er (Stm.mk kk l1 cl nm1 wt1 Ep Xp bd es2 ba bc ea2 ec2 id sl ot lo_)).wt<=1000000000)(hg:GO q)(hP:Prg q pp g)(hk:kk=1\/kk=2):CallF prog G 166 [.pointer (some ⟨p,0,none⟩),.pointer (some ⟨b,o,none⟩)] (coH p pp nm (K++ [(⟨23,id,0,0⟩,l1)]) l1::q) (Ret fun v q'=> ∃ ln2,q'=coH p pp nm (K++(Stm.er (Stm.mk kk l1 cl nm1 wt1 Ep Xp bd es2 ba bc ea2 ec2 id sl ot lo_)).code g.main K.length) ln2::q):=by
 refine aB func166 ntmps166 rfl fun F cs=> ?_;obtain ⟨u,t,d,a,e,c,el,w,ec⟩:=Ep;obtain ⟨xk,xn,r,xsl,s,n,xl,xa,xc⟩:=Xp;have a0:=gL hK;have z:Kn q fun M=>ExAt M ⟨b,o+5,none⟩ (Ex.mk u t d a e c el w ec):=hK.imp fun M h=>Wz (pre:= [I64 kk,I64 l1,I64 cl,.string nm1,.string wt1]) h.1 rfl h.2.1 rfl;have i0:Kn q fun M=>ExAt M ⟨b,o+12,none⟩ (Ex.mk xk xn r xsl s n xl xa xc):=hK.imp fun M h=>Wz (pre:= [I64 kk,I64 l1,I64 cl,.string nm1,.string wt1]++exC (Ex.mk u t d a e c el w ec)) h.1 rfl h.2.2.1 rfl
 have k0:Kn q fun M=>BlkAt M ba bc bd:=hK.imp fun M h=>h.2.2.2.1;have j0:Kn q fun M=>BlkAt M ea2 ec2 es2:=hK.imp fun M h=>⟨h.2.2.2.2.1,h.2.2.2.2.2⟩
 simp only [Stm.er,PStm.wl] at hw;obtain ⟨h0,x,g0,f0,e0,d0,c0⟩:=hw;simp only [Stm.er,PStm.wt,Z6] at hl;obtain ⟨K0,j⟩: ∃ k:List (Ins×Int),k=K++ [(⟨23,id,0,0⟩,l1)]:=⟨_,rfl⟩;rw [<-j];have f:K0.length=K.length+1:=(by rw [j];simp);obtain ⟨R,m⟩:=lM ((Stm.er (Stm.mk kk l1 cl nm1 wt1 (Ex.mk u t d a e c el w ec) (Ex.mk xk xn r xsl s n xl xa xc) bd es2 ba bc ea2 ec2 id sl ot lo_)).code g.main K.length);rw [<-m];simp only [Stm.er] at m;obtain ⟨C0,l⟩: ∃ C,(Ex.er (Ex.mk u t d a e c el w ec)).code (K.length+1)=C:=⟨_,rfl⟩;have y:=Za (Ex.er (Ex.mk u t d a e c el w ec)) (K.length+1);rw [l,Z6] at y;rw [code_ln (by omega)] at m;rw [Ga (by omega) (by omega),l] at m;rw [show Uq g.main kk sl ot lo_= [intoS sl lo_] by rcases hk with rfl|rfl<;>rfl] at m;refine xo 6 ?_;refine Zv call233 Zj (Ny _ (aU _) (by rw [f];omega) (cF z) (hg.le leA) (x (by omega)).1) ?_;rintro _ _ rfl;rw [show ((K0.length:Nat):Int)=K.length+1 by rw [f];omega,l];obtain ⟨K1,i⟩: ∃ k:List (Ins×Int),k=K0++lnd C0 l1:=⟨_,rfl⟩;rw [<-i];have b0:K1.length=K.length+1+C0.length:=(by rw [i];rw [aA,f,Z9]);refine rf [1,0,1,2,3,4,5,6,7,8,9] a0 ?_;refine Wv 9 call234 Zj (Zqq (by omega)) ?_;rintro _ _ rfl;refine ⟨trivial,?_⟩;refine jV ?_;refine Zr (coH p pp nm (K++R) l1::q) func166 (Yy results166) ⟨_,rfl,l1,rfl⟩ (by rw [m];simp only [i,j,lnd,aO,bA,dC,aK,bO,aY];exact leA)
theorem csend_ok {ba:Option Addr}(hK:Kn q fun M=>StAt M ⟨b,o,none⟩ (Stm.mk kk l1 cl nm1 wt1 Ep Xp bd es2 ba bc ea2 ec2 id sl ot lo_))(hw:(Stm.er (Stm.mk kk l1 cl nm1 wt1 Ep Xp bd es2 ba bc ea2 ec2 id sl ot lo_)).wl g.er.cn lw)(hl:K.length+(Stm.er (Stm.mk kk l1 cl nm1 wt1 Ep Xp bd es2 ba bc ea2 ec2 id sl ot lo_)).wt<=1000000000)(hg:GO q)(hP:Prg q pp g)(hk:kk=11):CallF prog G 172 [.pointer (some ⟨p,0,none⟩),.pointer (some ⟨b,o,none⟩)] (coH p pp nm (K++ [(⟨23,id,0,0⟩,l1)]) l1::q) (Ret fun v q'=> ∃ ln2,q'=coH p pp nm (K++(Stm.er (Stm.mk kk l1 cl nm1 wt1 Ep Xp bd es2 ba bc ea2 ec2 id sl ot lo_)).code g.main K.length) ln2::q):=by
 refine aB func172 ntmps172 rfl fun F cs=> ?_;obtain ⟨u,t,d,a,e,c,el,w,ec⟩:=Ep;obtain ⟨xk,xn,r,xsl,s,n,xl,xa,xc⟩:=Xp;have a0:=gL hK;have z:Kn q fun M=>ExAt M ⟨b,o+5,none⟩ (Ex.mk u t d a e c el w ec):=hK.imp fun M h=>Wz (pre:= [I64 kk,I64 l1,I64 cl,.string nm1,.string wt1]) h.1 rfl h.2.1 rfl;have i0:Kn q fun M=>ExAt M ⟨b,o+12,none⟩ (Ex.mk xk xn r xsl s n xl xa xc):=hK.imp fun M h=>Wz (pre:= [I64 kk,I64 l1,I64 cl,.string nm1,.string wt1]++exC (Ex.mk u t d a e c el w ec)) h.1 rfl h.2.2.1 rfl
 have k0:Kn q fun M=>BlkAt M ba bc bd:=hK.imp fun M h=>h.2.2.2.1;have j0:Kn q fun M=>BlkAt M ea2 ec2 es2:=hK.imp fun M h=>⟨h.2.2.2.2.1,h.2.2.2.2.2⟩
 simp only [Stm.er,PStm.wl] at hw;obtain ⟨h0,x,g0,f0,e0,d0,c0⟩:=hw;simp only [Stm.er,PStm.wt,Z6] at hl;obtain ⟨K0,j⟩: ∃ k:List (Ins×Int),k=K++ [(⟨23,id,0,0⟩,l1)]:=⟨_,rfl⟩;rw [<-j];have f:K0.length=K.length+1:=(by rw [j];simp);obtain ⟨R,m⟩:=lM ((Stm.er (Stm.mk kk l1 cl nm1 wt1 (Ex.mk u t d a e c el w ec) (Ex.mk xk xn r xsl s n xl xa xc) bd es2 ba bc ea2 ec2 id sl ot lo_)).code g.main K.length);rw [<-m];simp only [Stm.er] at m;obtain ⟨C0,l⟩: ∃ C,(Ex.er (Ex.mk u t d a e c el w ec)).code (K.length+1)=C:=⟨_,rfl⟩;have y:=Za (Ex.er (Ex.mk u t d a e c el w ec)) (K.length+1);rw [l,Z6] at y;rw [code_ln (by omega)] at m;rw [Ga (by omega) (by omega),l] at m;rw [show Uq g.main kk sl ot lo_= [⟨29,sl,0,0⟩] by subst hk;rfl] at m;refine xo 6 ?_;refine Zv call233 Zj (Ny _ (aU _) (by rw [f];omega) (cF z) (hg.le leA) (x (by omega)).1) ?_;rintro _ _ rfl;rw [show ((K0.length:Nat):Int)=K.length+1 by rw [f];omega,l];obtain ⟨K1,i⟩: ∃ k:List (Ins×Int),k=K0++lnd C0 l1:=⟨_,rfl⟩;rw [<-i];have b0:K1.length=K.length+1+C0.length:=(by rw [i];rw [aA,f,Z9]);refine rf [6,0] a0 ?_;refine Zv call177 Zj (Vs (by omega)) ?_;rintro _ _ rfl;refine ox 1 ?_;refine Zr (coH p pp nm (K++R) l1::q) func172 (Yy results172) ⟨_,rfl,l1,rfl⟩ (by rw [m];simp only [i,j,lnd,aO,bA,dC,aK,bO,aY];exact leA)
theorem Zx0 {ba:Option Addr}(hK:Kn q fun M=>StAt M ⟨b,o,none⟩ (Stm.mk kk l1 cl nm1 wt1 Ep Xp bd es2 ba bc ea2 ec2 id sl ot lo_))(hw:(Stm.er (Stm.mk kk l1 cl nm1 wt1 Ep Xp bd es2 ba bc ea2 ec2 id sl ot lo_)).wl g.er.cn lw)(hl:K.length+(Stm.er (Stm.mk kk l1 cl nm1 wt1 Ep Xp bd es2 ba bc ea2 ec2 id sl ot lo_)).wt<=1000000000)(hg:GO q)(hP:Prg q pp g)(hk:kk=15):CallF prog G 176 [.pointer (some ⟨p,0,none⟩),.pointer (some ⟨b,o,none⟩)] (coH p pp nm (K++ [(⟨23,id,0,0⟩,l1)]) l1::q) (Ret fun v q'=> ∃ ln2,q'=coH p pp nm (K++(Stm.er (Stm.mk kk l1 cl nm1 wt1 Ep Xp bd es2 ba bc ea2 ec2 id sl ot lo_)).code g.main K.length) ln2::q):=by
 refine aB func176 ntmps176 rfl fun F cs=> ?_;obtain ⟨w,u,d,a,e,c,el,x,ec⟩:=Ep;obtain ⟨xk,xn,s,xsl,t,r,xl,xa,xc⟩:=Xp;have l0:=gL hK;have a0:Kn q fun M=>ExAt M ⟨b,o+5,none⟩ (Ex.mk w u d a e c el x ec):=hK.imp fun M h=>Wz (pre:= [I64 kk,I64 l1,I64 cl,.string nm1,.string wt1]) h.1 rfl h.2.1 rfl;have i0:Kn q fun M=>ExAt M ⟨b,o+12,none⟩ (Ex.mk xk xn s xsl t r xl xa xc):=hK.imp fun M h=>Wz (pre:= [I64 kk,I64 l1,I64 cl,.string nm1,.string wt1]++exC (Ex.mk w u d a e c el x ec)) h.1 rfl h.2.2.1 rfl
 have k0:Kn q fun M=>BlkAt M ba bc bd:=hK.imp fun M h=>h.2.2.2.1;have j0:Kn q fun M=>BlkAt M ea2 ec2 es2:=hK.imp fun M h=>⟨h.2.2.2.2.1,h.2.2.2.2.2⟩
 simp only [Stm.er,PStm.wl] at hw;obtain ⟨h0,y,g0,f0,e0,d0,c0⟩:=hw;simp only [Stm.er,PStm.wt,Z6] at hl;obtain ⟨K0,l⟩: ∃ k:List (Ins×Int),k=K++ [(⟨23,id,0,0⟩,l1)]:=⟨_,rfl⟩;rw [<-l];have f:K0.length=K.length+1:=(by rw [l];simp);obtain ⟨R,n⟩:=lM ((Stm.er (Stm.mk kk l1 cl nm1 wt1 (Ex.mk w u d a e c el x ec) (Ex.mk xk xn s xsl t r xl xa xc) bd es2 ba bc ea2 ec2 id sl ot lo_)).code g.main K.length);rw [<-n];simp only [Stm.er] at n;obtain ⟨C0,m⟩: ∃ C,(Ex.er (Ex.mk w u d a e c el x ec)).code (K.length+1)=C:=⟨_,rfl⟩;have z:=Za (Ex.er (Ex.mk w u d a e c el x ec)) (K.length+1);rw [m,Z6] at z;rw [code_ln (by omega)] at n;rw [Ga (by omega) (by omega),m] at n;rw [show Uq g.main kk sl ot lo_= [⟨33,0,0,0⟩] by subst hk;rfl] at n;refine xo 6 ?_;refine Zv call233 Zj (Ny _ (aU _) (by rw [f];omega) (cF a0) (hg.le leA) (y (by omega)).1) ?_;rintro _ _ rfl;rw [show ((K0.length:Nat):Int)=K.length+1 by rw [f];omega,m];obtain ⟨K1,j⟩: ∃ k:List (Ins×Int),k=K0++lnd C0 l1:=⟨_,rfl⟩;rw [<-j];have b0:K1.length=K.length+1+C0.length:=(by rw [j];rw [aA,f,Z9]);refine oo 4 ?_;refine Zv call98 Zj (Qd (i:=⟨33,0,0,0⟩) (by omega)) ?_;rintro _ _ rfl;refine ox 1 ?_;refine Zr (coH p pp nm (K++R) l1::q) func176 (Yy results176) ⟨_,rfl,l1,rfl⟩ (by rw [n];simp only [j,l,lnd,aO,bA,dC,aK,bO,aY];exact leA)
theorem Zxo {ba:Option Addr}(hK:Kn q fun M=>StAt M ⟨b,o,none⟩ (Stm.mk kk l1 cl nm1 wt1 Ep Xp bd es2 ba bc ea2 ec2 id sl ot lo_))(hw:(Stm.er (Stm.mk kk l1 cl nm1 wt1 Ep Xp bd es2 ba bc ea2 ec2 id sl ot lo_)).wl g.er.cn lw)(hl:K.length+(Stm.er (Stm.mk kk l1 cl nm1 wt1 Ep Xp bd es2 ba bc ea2 ec2 id sl ot lo_)).wt<=1000000000)(hg:GO q)(hP:Prg q pp g)(hk:kk=3):CallF prog G 167 [.pointer (some ⟨p,0,none⟩),.pointer (some ⟨b,o,none⟩)] (coH p pp nm (K++ [(⟨23,id,0,0⟩,l1)]) l1::q) (Ret fun v q'=> ∃ ln2,q'=coH p pp nm (K++(Stm.er (Stm.mk kk l1 cl nm1 wt1 Ep Xp bd es2 ba bc ea2 ec2 id sl ot lo_)).code g.main K.length) ln2::q):=by
 refine aB func167 ntmps167 rfl fun F cs=> ?_;obtain ⟨z,y,d,a,e,c,el,ea,ec⟩:=Ep;obtain ⟨xk,xn,i,xsl,j,f,xl,xa,xc⟩:=Xp;have g0:=gL hK;have f0:Kn q fun M=>ExAt M ⟨b,o+5,none⟩ (Ex.mk z y d a e c el ea ec):=hK.imp fun M h=>Wz (pre:= [I64 kk,I64 l1,I64 cl,.string nm1,.string wt1]) h.1 rfl h.2.1 rfl;have e0:Kn q fun M=>ExAt M ⟨b,o+12,none⟩ (Ex.mk xk xn i xsl j f xl xa xc):=hK.imp fun M h=>Wz (pre:= [I64 kk,I64 l1,I64 cl,.string nm1,.string wt1]++exC (Ex.mk z y d a e c el ea ec)) h.1 rfl h.2.2.1 rfl
 have o0:Kn q fun M=>BlkAt M ba bc bd:=hK.imp fun M h=>h.2.2.2.1;have n0:Kn q fun M=>BlkAt M ea2 ec2 es2:=hK.imp fun M h=>⟨h.2.2.2.2.1,h.2.2.2.2.2⟩
 simp only [Stm.er,PStm.wl] at hw;obtain ⟨m0,b0,a0,l0,k0,j0,i0⟩:=hw;simp only [Stm.er,PStm.wt,Z6] at hl;obtain ⟨K0,s⟩: ∃ k:List (Ins×Int),k=K++ [(⟨23,id,0,0⟩,l1)]:=⟨_,rfl⟩;rw [<-s];have m:K0.length=K.length+1:=(by rw [s];simp);obtain ⟨R,x⟩:=lM ((Stm.er (Stm.mk kk l1 cl nm1 wt1 (Ex.mk z y d a e c el ea ec) (Ex.mk xk xn i xsl j f xl xa xc) bd es2 ba bc ea2 ec2 id sl ot lo_)).code g.main K.length);rw [<-x];simp only [Stm.er] at x;subst hk;rw [code_ln (by omega)] at x;obtain ⟨w,t⟩: ∃ C,(Ex.er (Ex.mk xk xn i xsl j f xl xa xc)).code (K.length+1)=C:=⟨_,rfl⟩;have c0:=Za (Ex.er (Ex.mk xk xn i xsl j f xl xa xc)) (K.length+1);rw [t,Z6] at c0;obtain ⟨C0,u⟩: ∃ C,(Ex.er (Ex.mk z y d a e c el ea ec)).code (K.length+1+w.length)=C:=⟨_,rfl⟩;have d0:=Za (Ex.er (Ex.mk z y d a e c el ea ec)) (K.length+1+w.length);rw [u,Z6] at d0;rw [preS_3,t,u,show Uq g.main 3 sl ot lo_= [⟨7,sl,0,0⟩] from rfl] at x;refine xo 6 ?_;refine Zv call233 Zj (Ny _ (aU _) (by rw [m];omega) (cF e0) (hg.le leA) (a0 rfl).1) ?_;rintro _ _ rfl;rw [show ((K0.length:Nat):Int)=K.length+1 by rw [m];omega,t];obtain ⟨K1,r⟩: ∃ k:List (Ins×Int),k=K0++lnd w l1:=⟨_,rfl⟩;rw [<-r];have l:K1.length=K.length+1+w.length:=(by rw [r];rw [aA,m,Z9]);refine oo 7 ?_;refine Zv call233 Zj (Ny _ (aU _) (by rw [l];omega) (cF f0) (hg.le leA) (b0 (by omega)).1) ?_;rintro _ _ rfl;rw [show ((K1.length:Nat):Int)=K.length+1+w.length by rw [l];omega,u];obtain ⟨K2,n⟩: ∃ k:List (Ins×Int),k=K1++lnd C0 l1:=⟨_,rfl⟩;rw [<-n];have h0:K2.length=K.length+1+w.length+C0.length:=(by rw [n];rw [aA,l,Z9]);refine rf [6,0] g0 ?_;refine Zv call177 Zj (Vs (by omega)) ?_;rintro _ _ rfl;refine ox 1 ?_;refine Zr (coH p pp nm (K++R) l1::q) func167 (Yy results167) ⟨_,rfl,l1,rfl⟩ (by rw [x];simp only [n,r,s,lnd,aO,bA,dC,aK,bO,aY];exact leA)
theorem Rk {ba:Option Addr}(hK:Kn q fun M=>StAt M ⟨b,o,none⟩ (Stm.mk kk l1 cl nm1 wt1 Ep Xp bd es2 ba bc ea2 ec2 id sl ot lo_))(hw:(Stm.er (Stm.mk kk l1 cl nm1 wt1 Ep Xp bd es2 ba bc ea2 ec2 id sl ot lo_)).wl g.er.cn lw)(hl:K.length+(Stm.er (Stm.mk kk l1 cl nm1 wt1 Ep Xp bd es2 ba bc ea2 ec2 id sl ot lo_)).wt<=1000000000)(hg:GO q)(hP:Prg q pp g)(hk:kk=6\/kk=7\/kk=9\/kk=10):CallF prog G 170 [.pointer (some ⟨p,0,none⟩),.pointer (some ⟨b,o,none⟩)] (coH p pp nm (K++ [(⟨23,id,0,0⟩,l1)]) l1::q) (Ret fun v q'=> ∃ ln2,q'=coH p pp nm (K++(Stm.er (Stm.mk kk l1 cl nm1 wt1 Ep Xp bd es2 ba bc ea2 ec2 id sl ot lo_)).code g.main K.length) ln2::q):=by
 refine aB func170 ntmps170 rfl fun F cs=> ?_;obtain ⟨s,r,i,e,j,f,el,t,ec⟩:=Ep;obtain ⟨x,u,m,xsl,n,l,w,z,y⟩:=Xp;have c:=gL hK;have k0:Kn q fun M=>ExAt M ⟨b,o+5,none⟩ (Ex.mk s r i e j f el t ec):=hK.imp fun M h=>Wz (pre:= [I64 kk,I64 l1,I64 cl,.string nm1,.string wt1]) h.1 rfl h.2.1 rfl;have i0:Kn q fun M=>ExAt M ⟨b,o+12,none⟩ (Ex.mk x u m xsl n l w z y):=hK.imp fun M h=>Wz (pre:= [I64 kk,I64 l1,I64 cl,.string nm1,.string wt1]++exC (Ex.mk s r i e j f el t ec)) h.1 rfl h.2.2.1 rfl
 have l0:Kn q fun M=>BlkAt M ba bc bd:=hK.imp fun M h=>h.2.2.2.1;have j0:Kn q fun M=>BlkAt M ea2 ec2 es2:=hK.imp fun M h=>⟨h.2.2.2.2.1,h.2.2.2.2.2⟩
 simp only [Stm.er,PStm.wl] at hw;obtain ⟨h0,g0,f0,e0,d0,c0,b0⟩:=hw;simp only [Stm.er,PStm.wt,Z6] at hl;obtain ⟨K0,a⟩: ∃ k:List (Ins×Int),k=K++ [(⟨23,id,0,0⟩,l1)]:=⟨_,rfl⟩;rw [<-a];have a0:K0.length=K.length+1:=(by rw [a];simp);obtain ⟨R,d⟩:=lM ((Stm.er (Stm.mk kk l1 cl nm1 wt1 (Ex.mk s r i e j f el t ec) (Ex.mk x u m xsl n l w z y) bd es2 ba bc ea2 ec2 id sl ot lo_)).code g.main K.length);rw [<-d];simp only [Stm.er] at d;rw [code_ln (by omega)] at d;rw [Gl (by omega) (by omega)] at d;rcases hk with rfl|rfl|rfl|rfl
 iterate 4
  focus
   refine rf [5,0,7] c ?_
  rotate_left
 . refine rf [2008,6,0] c ?_;refine Zv call177 Zj (Vs (by omega)) ?_;rintro _ _ rfl;refine ox 2 ?_;refine Zr (coH p pp nm (K++R) l1::q) func170 (Yy results170) ⟨_,rfl,l1,rfl⟩ (by rw [d,show Uq g.main 6 sl ot lo_= [⟨24,sl,0,0⟩] from rfl];simp only [a,lnd,aO,bA,dC,aK,bO,aY];exact leA)
 . refine rf [1008,6,2016,6,0] c ?_;refine Zv call177 Zj (Vs (by omega)) ?_;rintro _ _ rfl;refine ox 2 ?_;refine Zr (coH p pp nm (K++R) l1::q) func170 (Yy results170) ⟨_,rfl,l1,rfl⟩ (by rw [d,show Uq g.main 7 sl ot lo_= [⟨25,sl,0,0⟩] from rfl];simp only [a,lnd,aO,bA,dC,aK,bO,aY];exact leA)
 . refine rf [1008,6,1016,6,2024,6,0] c ?_;refine Zv call177 Zj (Vs (by omega)) ?_;rintro _ _ rfl;refine ox 2 ?_;refine Zr (coH p pp nm (K++R) l1::q) func170 (Yy results170) ⟨_,rfl,l1,rfl⟩ (by rw [d,show Uq g.main 9 sl ot lo_= [⟨27,sl,0,0⟩] from rfl];simp only [a,lnd,aO,bA,dC,aK,bO,aY];exact leA)
 refine rf [1008,6,1016,6,1024,6,2032,6,0] c ?_;refine Zv call177 Zj (Vs (by omega)) ?_;rintro _ _ rfl;refine ox 2 ?_;refine Zr (coH p pp nm (K++R) l1::q) func170 (Yy results170) ⟨_,rfl,l1,rfl⟩ (by rw [d,show Uq g.main 10 sl ot lo_= [⟨28,sl,0,0⟩] from rfl];simp only [a,lnd,aO,bA,dC,aK,bO,aY];exact leA)
theorem cwait_ok {ba:Option Addr}(hK:Kn q fun M=>StAt M ⟨b,o,none⟩ (Stm.mk kk l1 cl nm1 wt1 Ep Xp bd es2 ba bc ea2 ec2 id sl ot lo_))(hw:(Stm.er (Stm.mk kk l1 cl nm1 wt1 Ep Xp bd es2 ba bc ea2 ec2 id sl ot lo_)).wl g.er.cn lw)(hl:K.length+(Stm.er (Stm.mk kk l1 cl nm1 wt1 Ep Xp bd es2 ba bc ea2 ec2 id sl ot lo_)).wt<=1000000000)(hg:GO q)(hP:Prg q pp g)(hk:kk=8):CallF prog G 171 [.pointer (some ⟨p,0,none⟩),.pointer (some ⟨b,o,none⟩)] (coH p pp nm (K++ [(⟨23,id,0,0⟩,l1)]) l1::q) (Ret fun v q'=> ∃ ln2,q'=coH p pp nm (K++(Stm.er (Stm.mk kk l1 cl nm1 wt1 Ep Xp bd es2 ba bc ea2 ec2 id sl ot lo_)).code g.main K.length) ln2::q):=by
 refine aB func171 ntmps171 rfl fun F cs=> ?_;obtain ⟨t,s,e,c,f,d,el,u,ec⟩:=Ep;obtain ⟨y,w,l,xsl,m,j,x,xa,z⟩:=Xp;have r:=gL hK;have k0:Kn q fun M=>ExAt M ⟨b,o+5,none⟩ (Ex.mk t s e c f d el u ec):=hK.imp fun M h=>Wz (pre:= [I64 kk,I64 l1,I64 cl,.string nm1,.string wt1]) h.1 rfl h.2.1 rfl;have i0:Kn q fun M=>ExAt M ⟨b,o+12,none⟩ (Ex.mk y w l xsl m j x xa z):=hK.imp fun M h=>Wz (pre:= [I64 kk,I64 l1,I64 cl,.string nm1,.string wt1]++exC (Ex.mk t s e c f d el u ec)) h.1 rfl h.2.2.1 rfl
 have l0:Kn q fun M=>BlkAt M ba bc bd:=hK.imp fun M h=>h.2.2.2.1;have j0:Kn q fun M=>BlkAt M ea2 ec2 es2:=hK.imp fun M h=>⟨h.2.2.2.2.1,h.2.2.2.2.2⟩
 simp only [Stm.er,PStm.wl] at hw;obtain ⟨h0,g0,f0,e0,d0,c0,b0⟩:=hw;simp only [Stm.er,PStm.wt,Z6] at hl;obtain ⟨K0,a⟩: ∃ k:List (Ins×Int),k=K++ [(⟨23,id,0,0⟩,l1)]:=⟨_,rfl⟩;rw [<-a];have a0:K0.length=K.length+1:=(by rw [a];simp);obtain ⟨R,n⟩:=lM ((Stm.er (Stm.mk kk l1 cl nm1 wt1 (Ex.mk t s e c f d el u ec) (Ex.mk y w l xsl m j x xa z) bd es2 ba bc ea2 ec2 id sl ot lo_)).code g.main K.length);rw [<-n];simp only [Stm.er] at n;subst hk;rw [code_ln (by omega)] at n;rw [Gl (by omega) (by omega),show Uq g.main 8 sl ot lo_= [⟨26,sl,ot,0⟩] from rfl] at n;refine rf [0,1,2,3,4,5,6,7,8,9,10] r ?_;refine Wv 10 call98 Zj (Qd (i:=⟨26,sl,ot,0⟩) (by omega)) ?_;rintro _ _ rfl;refine ⟨(hlF r),?_⟩;refine jV ?_;refine Zr (coH p pp nm (K++R) l1::q) func171 (Yy results171) ⟨_,rfl,l1,rfl⟩ (by rw [n];simp only [a,lnd,aO,bA,dC,aK,bO,aY];exact leA)
theorem crecv_ok {ba:Option Addr}(hK:Kn q fun M=>StAt M ⟨b,o,none⟩ (Stm.mk kk l1 cl nm1 wt1 Ep Xp bd es2 ba bc ea2 ec2 id sl ot lo_))(hw:(Stm.er (Stm.mk kk l1 cl nm1 wt1 Ep Xp bd es2 ba bc ea2 ec2 id sl ot lo_)).wl g.er.cn lw)(hl:K.length+(Stm.er (Stm.mk kk l1 cl nm1 wt1 Ep Xp bd es2 ba bc ea2 ec2 id sl ot lo_)).wt<=1000000000)(hg:GO q)(hP:Prg q pp g)(hk:kk=12):CallF prog G 173 [.pointer (some ⟨p,0,none⟩),.pointer (some ⟨b,o,none⟩)] (coH p pp nm (K++ [(⟨23,id,0,0⟩,l1)]) l1::q) (Ret fun v q'=> ∃ ln2,q'=coH p pp nm (K++(Stm.er (Stm.mk kk l1 cl nm1 wt1 Ep Xp bd es2 ba bc ea2 ec2 id sl ot lo_)).code g.main K.length) ln2::q):=by
 refine aB func173 ntmps173 rfl fun F cs=> ?_;obtain ⟨s,r,e,c,f,d,el,t,ec⟩:=Ep;obtain ⟨x,u,j,xsl,l,i,w,z,y⟩:=Xp;have n:=gL hK;have k0:Kn q fun M=>ExAt M ⟨b,o+5,none⟩ (Ex.mk s r e c f d el t ec):=hK.imp fun M h=>Wz (pre:= [I64 kk,I64 l1,I64 cl,.string nm1,.string wt1]) h.1 rfl h.2.1 rfl;have i0:Kn q fun M=>ExAt M ⟨b,o+12,none⟩ (Ex.mk x u j xsl l i w z y):=hK.imp fun M h=>Wz (pre:= [I64 kk,I64 l1,I64 cl,.string nm1,.string wt1]++exC (Ex.mk s r e c f d el t ec)) h.1 rfl h.2.2.1 rfl
 have l0:Kn q fun M=>BlkAt M ba bc bd:=hK.imp fun M h=>h.2.2.2.1;have j0:Kn q fun M=>BlkAt M ea2 ec2 es2:=hK.imp fun M h=>⟨h.2.2.2.2.1,h.2.2.2.2.2⟩
 simp only [Stm.er,PStm.wl] at hw;obtain ⟨h0,g0,f0,e0,d0,c0,b0⟩:=hw;simp only [Stm.er,PStm.wt,Z6] at hl;obtain ⟨K0,a⟩: ∃ k:List (Ins×Int),k=K++ [(⟨23,id,0,0⟩,l1)]:=⟨_,rfl⟩;rw [<-a];have a0:K0.length=K.length+1:=(by rw [a];simp);obtain ⟨R,m⟩:=lM ((Stm.er (Stm.mk kk l1 cl nm1 wt1 (Ex.mk s r e c f d el t ec) (Ex.mk x u j xsl l i w z y) bd es2 ba bc ea2 ec2 id sl ot lo_)).code g.main K.length);rw [<-m];simp only [Stm.er] at m;subst hk;rw [code_ln (by omega)] at m;rw [Gl (by omega) (by omega),show Uq g.main 12 sl ot lo_= [⟨30,sl,0,0⟩,intoS ot lo_] from rfl] at m;refine rf [6,0] n ?_;refine Zv call177 Zj (Vs (by omega)) ?_;rintro _ _ rfl;refine rf [1,0,1,2,3,4,5,6,7,8,9] n ?_;refine Wv 9 call234 Zj (Zqq (by simp;omega)) ?_;rintro _ _ rfl;refine ⟨trivial,?_⟩;refine jV ?_;refine Zr (coH p pp nm (K++R) l1::q) func173 (Yy results173) ⟨_,rfl,l1,rfl⟩ (by rw [m];simp only [a,lnd,aO,bA,dC,aK,bO,aY];exact leA)
theorem cjoin_ok {ba:Option Addr}(hK:Kn q fun M=>StAt M ⟨b,o,none⟩ (Stm.mk kk l1 cl nm1 wt1 Ep Xp bd es2 ba bc ea2 ec2 id sl ot lo_))(hw:(Stm.er (Stm.mk kk l1 cl nm1 wt1 Ep Xp bd es2 ba bc ea2 ec2 id sl ot lo_)).wl g.er.cn lw)(hl:K.length+(Stm.er (Stm.mk kk l1 cl nm1 wt1 Ep Xp bd es2 ba bc ea2 ec2 id sl ot lo_)).wt<=1000000000)(hg:GO q)(hP:Prg q pp g)(hk:kk=14):CallF prog G 175 [.pointer (some ⟨p,0,none⟩),.pointer (some ⟨b,o,none⟩)] (coH p pp nm (K++ [(⟨23,id,0,0⟩,l1)]) l1::q) (Ret fun v q'=> ∃ ln2,q'=coH p pp nm (K++(Stm.er (Stm.mk kk l1 cl nm1 wt1 Ep Xp bd es2 ba bc ea2 ec2 id sl ot lo_)).code g.main K.length) ln2::q):=by
 refine aB func175 ntmps175 rfl fun F cs=> ?_;obtain ⟨s,r,e,c,f,d,el,t,ec⟩:=Ep;obtain ⟨x,u,l,xsl,m,j,w,z,y⟩:=Xp;have m0:=gL hK;have k0:Kn q fun M=>ExAt M ⟨b,o+5,none⟩ (Ex.mk s r e c f d el t ec):=hK.imp fun M h=>Wz (pre:= [I64 kk,I64 l1,I64 cl,.string nm1,.string wt1]) h.1 rfl h.2.1 rfl;have i0:Kn q fun M=>ExAt M ⟨b,o+12,none⟩ (Ex.mk x u l xsl m j w z y):=hK.imp fun M h=>Wz (pre:= [I64 kk,I64 l1,I64 cl,.string nm1,.string wt1]++exC (Ex.mk s r e c f d el t ec)) h.1 rfl h.2.2.1 rfl
 have l0:Kn q fun M=>BlkAt M ba bc bd:=hK.imp fun M h=>h.2.2.2.1;have j0:Kn q fun M=>BlkAt M ea2 ec2 es2:=hK.imp fun M h=>⟨h.2.2.2.2.1,h.2.2.2.2.2⟩
 simp only [Stm.er,PStm.wl] at hw;obtain ⟨h0,g0,f0,e0,d0,c0,b0⟩:=hw;simp only [Stm.er,PStm.wt,Z6] at hl;obtain ⟨K0,a⟩: ∃ k:List (Ins×Int),k=K++ [(⟨23,id,0,0⟩,l1)]:=⟨_,rfl⟩;rw [<-a];have a0:K0.length=K.length+1:=(by rw [a];simp);obtain ⟨R,n⟩:=lM ((Stm.er (Stm.mk kk l1 cl nm1 wt1 (Ex.mk s r e c f d el t ec) (Ex.mk x u l xsl m j w z y) bd es2 ba bc ea2 ec2 id sl ot lo_)).code g.main K.length);rw [<-n];simp only [Stm.er] at n;subst hk;rw [code_ln (by omega)] at n;rw [Gl (by omega) (by omega),show Uq g.main 14 sl ot lo_= [⟨32,0,0,0⟩] from rfl] at n;refine xo 3 ?_;refine Zv call98 Zj (Qd (i:=⟨32,0,0,0⟩) (by omega)) ?_;rintro _ _ rfl;refine ox 1 ?_;refine Zr (coH p pp nm (K++R) l1::q) func175 (Yy results175) ⟨_,rfl,l1,rfl⟩ (by rw [n];simp only [a,lnd,aO,bA,dC,aK,bO,aY];exact leA)
theorem Lh (h:0<=u/\u<g.ths.l.length)(hb:g.ths.l.length<=1000000):CallF prog G 113 [.agg (pgC g).toArray,I64 u] (q) (Ret fun v q'=>v= .tuple [I64 (Vm g.main u),.bool true].toArray/\q'=q):=by
 refine aB func113 ntmps113 rfl fun F cs=> ?_;refine xo 2 ?_;refine Zl fun d=> ?_
 refine oo 10 ?_;refine bB [9,5,4,2,1] ?_;apply Zb 6 15 9 rfl
 . intro a b;have c:=sp a;refine rn [2,0,3] ?_;exact Zz b ⟨orF a,Zw⟩
 . intro a b;have c:=sp a;refine oo 6 ?_;exact Zz b ⟨orT a,Zw⟩
 refine rn [2,1006,5,0,3] ?_;refine xp 16 ?_ ?_<;>intro c
 . refine xx 6 ?_;refine Zq (q) func113 (Q4 results113 rfl rfl) ⟨_,rfl,by unfold Vm;rw [if_pos (by omega)],rfl⟩
 refine rn [5,0,3] ?_;refine xp 21 ?_ ?_<;>intro e
 . refine xx 8 ?_;refine Zq (q) func113 (Q4 results113 rfl rfl) ⟨_,rfl,by unfold Vm;rw [if_neg (by omega),if_pos (by omega)],rfl⟩
 refine xx 9 ?_;refine Zq (q) func113 (Q4 results113 rfl rfl) ⟨_,rfl,by unfold Vm;rw [if_neg (by omega),if_neg (by omega)],rfl⟩
theorem Zxe {ba:Option Addr}(hK:Kn q fun M=>StAt M ⟨b,o,none⟩ (Stm.mk kk l1 cl nm1 wt1 Ep Xp bd es2 ba bc ea2 ec2 id sl ot lo_))(hw:(Stm.er (Stm.mk kk l1 cl nm1 wt1 Ep Xp bd es2 ba bc ea2 ec2 id sl ot lo_)).wl g.er.cn lw)(hl:K.length+(Stm.er (Stm.mk kk l1 cl nm1 wt1 Ep Xp bd es2 ba bc ea2 ec2 id sl ot lo_)).wt<=1000000000)(hg:GO q)(hP:Prg q pp g)(hk:kk=13)(hb:g.ths.l.length<=1000000):CallF prog G 174 [.pointer (some ⟨p,0,none⟩),.pointer (some ⟨b,o,none⟩)] (coH p pp nm (K++ [(⟨23,id,0,0⟩,l1)]) l1::q) (Ret fun v q'=> ∃ ln2,q'=coH p pp nm (K++(Stm.er (Stm.mk kk l1 cl nm1 wt1 Ep Xp bd es2 ba bc ea2 ec2 id sl ot lo_)).code g.main K.length) ln2::q):=by
 refine aB func174 ntmps174 rfl fun F cs=> ?_;obtain ⟨ek,z,j,f,m,i,el,ea,ec⟩:=Ep;obtain ⟨xk,xn,r,xsl,s,n,xl,xa,xc⟩:=Xp;have x:=gL hK;have j0:Kn q fun M=>ExAt M ⟨b,o+5,none⟩ (Ex.mk ek z j f m i el ea ec):=hK.imp fun M h=>Wz (pre:= [I64 kk,I64 l1,I64 cl,.string nm1,.string wt1]) h.1 rfl h.2.1 rfl;have h0:Kn q fun M=>ExAt M ⟨b,o+12,none⟩ (Ex.mk xk xn r xsl s n xl xa xc):=hK.imp fun M h=>Wz (pre:= [I64 kk,I64 l1,I64 cl,.string nm1,.string wt1]++exC (Ex.mk ek z j f m i el ea ec)) h.1 rfl h.2.2.1 rfl
 have k0:Kn q fun M=>BlkAt M ba bc bd:=hK.imp fun M h=>h.2.2.2.1;have i0:Kn q fun M=>BlkAt M ea2 ec2 es2:=hK.imp fun M h=>⟨h.2.2.2.2.1,h.2.2.2.2.2⟩
 simp only [Stm.er,PStm.wl] at hw;obtain ⟨g0,f0,e0,d0,y,c0,b0⟩:=hw;simp only [Stm.er,PStm.wt,Z6] at hl;obtain ⟨K0,e⟩: ∃ k:List (Ins×Int),k=K++ [(⟨23,id,0,0⟩,l1)]:=⟨_,rfl⟩;rw [<-e];have a0:K0.length=K.length+1:=(by rw [e];simp);obtain ⟨R,w⟩:=lM ((Stm.er (Stm.mk kk l1 cl nm1 wt1 (Ex.mk ek z j f m i el ea ec) (Ex.mk xk xn r xsl s n xl xa xc) bd es2 ba bc ea2 ec2 id sl ot lo_)).code g.main K.length);rw [<-w];simp only [Stm.er] at w;subst hk;rw [code_ln (by omega)] at w;rw [Gl (by omega) (by omega),show Uq g.main 13 sl ot lo_= [⟨31,Vm g.main sl,0,0⟩] from rfl] at w;have u:=y.2.2.2.2.2.2.2 rfl;have t:sl<g.ths.l.length:=(by have:=u.2;rw [show g.er.cn.th=(g.er.ths.length:Int) from rfl,show g.er.ths.length=g.ths.l.length from aI _] at this;exact this);refine Zqf fun a c b d=> ?_
 refine rn [1,0,1,2,3,4,5] ?_;refine XD.rdCs 5 (us:=pgC g) rfl rfl isAgg29 sizeOf29 rfl (fun k v hk=>(hP.hp.le leA) k v hk) ?_;refine rf [7,8,9,10] x ?_;refine Ys 10 call113 (Lh ⟨u.1,t⟩ hb) ?_ (hL:=(hlA (h:=by repeat first|exact trivial|refine ⟨clA,?_⟩|refine ⟨(x.le leA) 22 _ rfl,?_⟩|refine ⟨(hP.hp.le leA) 0 _ rfl,?_⟩|refine ⟨(hP.hp.le leA) _ _ rfl,?_⟩)));refine rn [12,13,14,15,16,0,3] ?_;refine eP (q':=coH p pp nm K0 l1::_) (coI leA) ?_;refine Zv call177 Zj (Vs (by omega)) ?_;rintro _ _ rfl;refine ox 1 ?_;refine Zr (coH p pp nm (K++R) l1::q) func174 (Yy results174) ⟨_,rfl,l1,rfl⟩ (by rw [w];simp only [e,lnd,aO,bA,dC,aK,bO,aY];exact leA)
end
def Zzk (G:World)(g:FC)(m:List Stm)(a:Option Addr)(c:Nat)(lw:Int):Prop:= ∀ {K:List (Ins×Int)} {ln:Int} {p pp nm:Nat} {q:List HP},K.length+Zo (Zk m)<=1000000000->Ww g.er.cn lw (Zk m)->(Kn q fun M=>BlkAt M a c m)->GO q->Prg q pp g->CallF prog G 97 (As p a m c) (coH p pp nm K ln::q) (Ret fun v q'=> ∃ ln2,q'=coH p pp nm (K++PStm.codes g.main (Zk m) K.length) ln2::q)
theorem Di {c:Cn}{lo:Int}{x:PStm}: ∀ {l:List PStm},Ww c lo l->x∈l->x.wl c lo
 |y::r,⟨h1,h2⟩,h=>by
  rcases bG.1 h with rfl|h
  . exact h1
  exact Di h2 h
theorem Zqi: ∀ (x:PStm),1<=x.wt
 | .mk .. =>by simp only [PStm.wt];omega
theorem Dl: ∀ (l:List PStm),l.length<=Zo l
 | []=>aU _
 |x::r=>by have b:=Zqi x;have a:=Dl r;simp only [aJ,Zo];omega
theorem CallV.fr {fv:Value}{vs:List Value}{R:Value->List HP->Prop}(E:List HP)(h:CallV P G fv vs pre (Ret R)):CallV P G fv vs (pre++E) (Ret fun v q'=> ∃ q0,R v q0/\q'=q0++E):=by
 intro F w s;rw [aK] at s;exact (h (E++F) w s).mono fun e c _ ⟨q,⟨v,b,a⟩,hs⟩=>⟨q++E,⟨v,b,q,a,rfl⟩,by rw [aK];exact hs⟩
abbrev jH:=@CallV.fr
section
variable {p:Nat}{i:Ins}
theorem Zjm {ba:Option Addr}(hK:Kn q fun M=>StAt M ⟨b,o,none⟩ (Stm.mk kk l1 cl nm1 wt1 Ep Xp bd es2 ba bc ea2 ec2 id sl ot lo_))(hw:(Stm.er (Stm.mk kk l1 cl nm1 wt1 Ep Xp bd es2 ba bc ea2 ec2 id sl ot lo_)).wl g.er.cn lw)(hl:K.length+(Stm.er (Stm.mk kk l1 cl nm1 wt1 Ep Xp bd es2 ba bc ea2 ec2 id sl ot lo_)).wt<=1000000000)(hg:GO q)(hP:Prg q pp g)(hk:kk=4)(IHb:Zzk G g bd ba bc lw)(IHe:Zzk G g es2 ea2 ec2 lw):CallF prog G 168 [.pointer (some ⟨p,0,none⟩),.pointer (some ⟨b,o,none⟩)] (coH p pp nm (K++ [(⟨23,id,0,0⟩,l1)]) l1::q) (Ret fun v q'=> ∃ ln2,q'=coH p pp nm (K++(Stm.er (Stm.mk kk l1 cl nm1 wt1 Ep Xp bd es2 ba bc ea2 ec2 id sl ot lo_)).code g.main K.length) ln2::q):=by
 refine aB func168 ntmps168 rfl fun F cs=> ?_;obtain ⟨ek,en,l,i,m,j,el,ea,ec⟩:=Ep;obtain ⟨xk,xn,k0,xsl,m0,j0,xl,xa,xc⟩:=Xp;have g0:=gL hK;have z0:Kn q fun M=>ExAt M ⟨b,o+5,none⟩ (Ex.mk ek en l i m j el ea ec):=hK.imp fun M h=>Wz (pre:= [I64 kk,I64 l1,I64 cl,.string nm1,.string wt1]) h.1 rfl h.2.1 rfl;have f1:Kn q fun M=>ExAt M ⟨b,o+12,none⟩ (Ex.mk xk xn k0 xsl m0 j0 xl xa xc):=hK.imp fun M h=>Wz (pre:= [I64 kk,I64 l1,I64 cl,.string nm1,.string wt1]++exC (Ex.mk ek en l i m j el ea ec)) h.1 rfl h.2.2.1 rfl
 have a1:Kn q fun M=>BlkAt M ba bc bd:=hK.imp fun M h=>h.2.2.2.1;have y0:Kn q fun M=>BlkAt M ea2 ec2 es2:=hK.imp fun M h=>⟨h.2.2.2.2.1,h.2.2.2.2.2⟩
 simp only [Stm.er,PStm.wl] at hw;obtain ⟨e1,u0,d1,c1,b1,t0,s0⟩:=hw;simp only [Stm.er,PStm.wt,Z6] at hl;obtain ⟨K0,u⟩: ∃ k:List (Ins×Int),k=K++ [(⟨23,id,0,0⟩,l1)]:=⟨_,rfl⟩;rw [<-u];have r0:K0.length=K.length+1:=(by rw [u];simp);obtain ⟨R,n⟩:=lM ((Stm.er (Stm.mk kk l1 cl nm1 wt1 (Ex.mk ek en l i m j el ea ec) (Ex.mk xk xn k0 xsl m0 j0 xl xa xc) bd es2 ba bc ea2 ec2 id sl ot lo_)).code g.main K.length);rw [<-n];simp only [Stm.er] at n;subst hk;obtain ⟨e,h0⟩: ∃ C,(Ex.er (Ex.mk ek en l i m j el ea ec)).code (K.length+1)=C:=⟨_,rfl⟩;have x0:=Za (Ex.er (Ex.mk ek en l i m j el ea ec)) (K.length+1);rw [h0,Z6] at x0;simp only [PStm.code,reduceIte,Int.reduceEq] at n;rw [Ga (by decide) (by decide),h0] at n;obtain ⟨f,i0⟩: ∃ B,PStm.codes g.main (Zk bd) (K.length+1+e.length+1)=B:=⟨_,rfl⟩;have w0:=Y5 g.main (Zk bd) (K.length+1+e.length+1);rw [i0] at w0;obtain ⟨E0,f0⟩: ∃ B,PStm.codes g.main (Zk es2) (K.length+1+e.length+1+f.length+1)=B:=⟨_,rfl⟩;have v0:=Y5 g.main (Zk es2) (K.length+1+e.length+1+f.length+1);rw [f0] at v0;have ht:(K.length:Int)+(([⟨23,id,0,0⟩]++e:List Ins).length:Int)+1=K.length+1+e.length+1:=(by simp;omega);rw [ht,i0,f0] at n;refine Zqf fun a c b d=> ?_
 refine rn [5,0,8] ?_;refine eP (q':=coH p pp nm K0 l1::_) (coI leA) ?_;refine Zv call233 Zj (Ny _ (aU _) (by omega) (cF z0) (hg.le leA) (u0 (by omega)).1) ?_;rintro _ _ rfl;rw [show ((K0.length:Nat):Int)=K.length+1 by omega,h0];obtain ⟨K1,t⟩: ∃ k:List (Ins×Int),k=K0++lnd e l1:=⟨_,rfl⟩;rw [<-t];have x:K1.length=K.length+1+e.length:=(by rw [t];rw [aA,r0,Z9]);refine oo 4 ?_;refine Zv call235 Zj (Db (by omega)) ?_;rintro _ _ ⟨j1,j2,rfl,rfl⟩;obtain ⟨K2,s⟩: ∃ k:List (Ins×Int),k=K1++ [(⟨20,0,0,0⟩,l1)]:=⟨_,rfl⟩;rw [<-s];have q0:K2.length=K.length+1+e.length+1:=(by rw [s];rw [aA,x];rfl);refine rf [8,0] g0 ?_;refine Zv call97 Zj (IHb (by omega) t0 (cF a1) (hg.le leA) (hP.le leA)) ?_;rintro _ _ ⟨l2,rfl⟩;rw [show ((K2.length:Nat):Int)=K.length+1+e.length+1 by omega,i0];obtain ⟨K3,r⟩: ∃ k:List (Ins×Int),k=K2++f:=⟨_,rfl⟩;rw [<-r];have w:K3.length=K.length+1+e.length+1+f.length:=(by rw [r];rw [aA,q0]);refine oo 7 ?_;refine Eu fun a0 c0 b0 d0=> ?_
 refine st ?_;refine eP (q':=coH p pp nm K3 l1::_) (coI leA) ?_;refine rf [7,0,3] g0 ?_;refine cY 33 rfl ?_ ?_<;>intro h5
 . have he:es2= []:=(by have:=sp h5;exact aS (by omega));subst he;rw [if_pos (by rfl)] at n;refine xo 4 ?_;refine iV (bD Zj (bD Zj Zj)) (Ky call284 (Mf (j1:=j1) (j2:=j2) (p:=p) (A:=K1) (cd:=20) (l0:=l1) (B:=f) (by rw [r,s];simp) rfl w (by omega))) ?_;rintro _ _ rfl;refine ox 1 ?_;refine Zq (coH p pp nm (K++R) l1::q) func168 (Yy results168) ⟨_,rfl,l1,rfl⟩ (by rw [n];simp only [t,u,lnd,aO,bA,dC,aK,bO,aY,lF,Int.natCast_one];exact leA)
 have he:Zk es2≠ []:=(by have h6:=sp h5;intro k;have h7:=aQ List.length k;rw [Y9,aT] at h7;omega);rw [if_neg he] at n;refine xo 5 ?_;refine Zv call235 Zj (Db (by omega)) ?_;rintro _ _ ⟨j3,j4,rfl,rfl⟩;obtain ⟨K4,e0⟩: ∃ k:List (Ins×Int),k=K3++ [(⟨19,0,0,0⟩,l1)]:=⟨_,rfl⟩;rw [<-e0];have p0:K4.length=K.length+1+e.length+1+f.length+1:=(by rw [e0];rw [aA,w];rfl);refine oo 5 ?_;refine iV (bD Zj (bD Zj Zj)) (Ky call284 (Mf (j1:=j1) (j2:=j2) (p:=p) (A:=K1) (cd:=20) (l0:=l1) (B:=f++ [(⟨19,0,0,0⟩,l1)]) (by rw [e0,r,s];simp) rfl p0 (by omega))) ?_;rintro _ _ rfl;obtain ⟨K5,z⟩: ∃ k:List (Ins×Int),k=(K1++(⟨20,((K.length+1+e.length+1+f.length+1:Nat):Int),0,0⟩,l1)::(f++ [(⟨19,0,0,0⟩,l1)])):=⟨_,rfl⟩;rw [<-z];have o0:K5.length=K.length+1+e.length+1+f.length+1:=(by rw [z];simp [x];omega);refine rf [7,0] g0 ?_;refine Zv call97 Zj (IHe (by omega) s0 (cF y0) (hg.le leA) (hP.le leA)) ?_;rintro _ _ ⟨l3,rfl⟩;rw [show ((K5.length:Nat):Int)=K.length+1+e.length+1+f.length+1 by omega,f0];obtain ⟨K6,y⟩: ∃ k:List (Ins×Int),k=K5++E0:=⟨_,rfl⟩;rw [<-y];have n0:K6.length=K.length+1+e.length+1+f.length+1+E0.length:=(by rw [y];rw [aA,o0]);refine oo 3 ?_;refine iV (bD Zj (bD Zj Zj)) (Ky call284 (Mf (j1:=j3) (j2:=j4) (p:=p) (A:=K1++(⟨20,((K.length+1+e.length+1+f.length+1:Nat):Int),0,0⟩,l1)::f) (cd:=19) (l0:=l1) (B:=E0) (by rw [y,z];simp) (by simp [x,w];omega) n0 (by omega))) ?_;rintro _ _ rfl;refine ox 1 ?_;refine Zr (coH p pp nm (K++R) l3::q) func168 (Yy results168) ⟨_,rfl,l3,rfl⟩ (by rw [n];simp only [t,u,lnd,aO,bA,dC,aK,bO,aY,lF,Int.natCast_one];exact leA)
theorem Zjb {ba:Option Addr}(hK:Kn q fun M=>StAt M ⟨b,o,none⟩ (Stm.mk kk l1 cl nm1 wt1 Ep Xp bd es2 ba bc ea2 ec2 id sl ot lo_))(hw:(Stm.er (Stm.mk kk l1 cl nm1 wt1 Ep Xp bd es2 ba bc ea2 ec2 id sl ot lo_)).wl g.er.cn lw)(hl:K.length+(Stm.er (Stm.mk kk l1 cl nm1 wt1 Ep Xp bd es2 ba bc ea2 ec2 id sl ot lo_)).wt<=1000000000)(hg:GO q)(hP:Prg q pp g)(hk:kk=5)(IHb:Zzk G g bd ba bc lw):CallF prog G 169 [.pointer (some ⟨p,0,none⟩),.pointer (some ⟨b,o,none⟩)] (coH p pp nm (K++ [(⟨23,id,0,0⟩,l1)]) l1::q) (Ret fun v q'=> ∃ ln2,q'=coH p pp nm (K++(Stm.er (Stm.mk kk l1 cl nm1 wt1 Ep Xp bd es2 ba bc ea2 ec2 id sl ot lo_)).code g.main K.length) ln2::q):=by
 refine aB func169 ntmps169 rfl fun F cs=> ?_;obtain ⟨ek,en,i,e,j,f,el,ea,ec⟩:=Ep;obtain ⟨xk,xn,a0,xsl,b0,z,xl,xa,xc⟩:=Xp;have d0:=gL hK;have n0:Kn q fun M=>ExAt M ⟨b,o+5,none⟩ (Ex.mk ek en i e j f el ea ec):=hK.imp fun M h=>Wz (pre:= [I64 kk,I64 l1,I64 cl,.string nm1,.string wt1]) h.1 rfl h.2.1 rfl;have u0:Kn q fun M=>ExAt M ⟨b,o+12,none⟩ (Ex.mk xk xn a0 xsl b0 z xl xa xc):=hK.imp fun M h=>Wz (pre:= [I64 kk,I64 l1,I64 cl,.string nm1,.string wt1]++exC (Ex.mk ek en i e j f el ea ec)) h.1 rfl h.2.2.1 rfl
 have o0:Kn q fun M=>BlkAt M ba bc bd:=hK.imp fun M h=>h.2.2.2.1;have v0:Kn q fun M=>BlkAt M ea2 ec2 es2:=hK.imp fun M h=>⟨h.2.2.2.2.1,h.2.2.2.2.2⟩
 simp only [Stm.er,PStm.wl] at hw;obtain ⟨t0,j0,s0,r0,q0,i0,p0⟩:=hw;simp only [Stm.er,PStm.wt,Z6] at hl;obtain ⟨K0,u⟩: ∃ k:List (Ins×Int),k=K++ [(⟨23,id,0,0⟩,l1)]:=⟨_,rfl⟩;rw [<-u];have c0:K0.length=K.length+1:=(by rw [u];simp);obtain ⟨R,y⟩:=lM ((Stm.er (Stm.mk kk l1 cl nm1 wt1 (Ex.mk ek en i e j f el ea ec) (Ex.mk xk xn a0 xsl b0 z xl xa xc) bd es2 ba bc ea2 ec2 id sl ot lo_)).code g.main K.length);rw [<-y];simp only [Stm.er] at y;subst hk;obtain ⟨l,w⟩: ∃ C,(Ex.er (Ex.mk ek en i e j f el ea ec)).code (K.length+1)=C:=⟨_,rfl⟩;have m0:=Za (Ex.er (Ex.mk ek en i e j f el ea ec)) (K.length+1);rw [w,Z6] at m0;simp only [PStm.code,reduceIte,Int.reduceEq] at y;rw [Ga (by decide) (by decide),w] at y;obtain ⟨B0,x⟩: ∃ B,PStm.codes g.main (Zk bd) (K.length+1+l.length+1)=B:=⟨_,rfl⟩;have k0:=Y5 g.main (Zk bd) (K.length+1+l.length+1);rw [x] at k0;have ht:(K.length:Int)+(([⟨23,id,0,0⟩]++l:List Ins).length:Int)+1=K.length+1+l.length+1:=(by simp;omega);rw [ht,x] at y;refine Zqf fun a c b d=> ?_
 refine rn [1,0,1,2,3,4,5] ?_;refine Ys 5 call236 (Ix (n:=(K0.map Prod.fst).length) clA) ?_ (hL:=(hlF d0));refine dY 12 (I64 ((K.length+1:Nat):Int)) rfl (by rw [aI,c0]) ?_;refine rn [7,8,9,0,6] ?_;refine aW 5 (I64 K.length) rfl (aQ (Value.int .i64) (by omega)) ?_;refine eP (q':=coH p pp nm K0 l1::_) (coI leA) ?_;refine Zv call233 Zj (Ny _ (aU _) (by omega) (cF n0) (hg.le leA) (j0 (by omega)).1) ?_;rintro _ _ rfl;rw [show ((K0.length:Nat):Int)=K.length+1 by omega,w];obtain ⟨K1,t⟩: ∃ k:List (Ins×Int),k=K0++lnd l l1:=⟨_,rfl⟩;rw [<-t];have h0:K1.length=K.length+1+l.length:=(by rw [t];rw [aA,c0,Z9]);refine oo 4 ?_;refine Zv call235 Zj (Db (by omega)) ?_;rintro _ _ ⟨j1,j2,rfl,rfl⟩;obtain ⟨K2,s⟩: ∃ k:List (Ins×Int),k=K1++ [(⟨20,0,0,0⟩,l1)]:=⟨_,rfl⟩;rw [<-s];have g0:K2.length=K.length+1+l.length+1:=(by rw [s];rw [aA,h0];rfl);refine rf [8,0] d0 ?_;refine Zv call97 Zj (IHb (by omega) i0 (cF o0) (hg.le leA) (hP.le leA)) ?_;rintro _ _ ⟨l2,rfl⟩;rw [show ((K2.length:Nat):Int)=K.length+1+l.length+1 by omega,x];obtain ⟨K3,r⟩: ∃ k:List (Ins×Int),k=K2++B0:=⟨_,rfl⟩;rw [<-r];have f0:K3.length=K.length+1+l.length+1+B0.length:=(by rw [r];rw [aA,g0]);refine oo 7 ?_;refine Eu fun a7 c7 b7 d7=> ?_
 refine st ?_;refine eP (q':=coH p pp nm K3 l1::_) (coI leA) ?_;refine oo 5 ?_;refine Zv call177 Zj (Vs (by omega)) ?_;rintro _ _ rfl;obtain ⟨K4,m⟩: ∃ k:List (Ins×Int),k=K3++ [(⟨19,(K.length:Int),0,0⟩,l1)]:=⟨_,rfl⟩;rw [<-m];have e0:K4.length=K.length+1+l.length+1+B0.length+1:=(by rw [m];rw [aA,f0];rfl);refine oo 3 ?_;refine iV (bD Zj (bD Zj Zj)) (Ky call284 (Mf (j1:=j1) (j2:=j2) (p:=p) (A:=K1) (cd:=20) (l0:=l1) (B:=B0++ [(⟨19,(K.length:Int),0,0⟩,l1)]) (by rw [m,r,s];simp) rfl e0 (by omega))) ?_;rintro _ _ rfl;refine ox 1 ?_;refine Zr (coH p pp nm (K++R) l1::q) func169 (Yy results169) ⟨_,rfl,l1,rfl⟩ (by rw [y];simp only [t,u,lnd,aO,bA,dC,aK,bO,aY,lF,Int.natCast_one];exact leA)
theorem kd_at {ba:Option Addr}(hK:Kn q fun M=>StAt M ⟨b,o,none⟩ (Stm.mk kk l1 cl nm1 wt1 Ep Xp bd es2 ba bc ea2 ec2 id sl ot lo_))(hw:(Stm.er (Stm.mk kk l1 cl nm1 wt1 Ep Xp bd es2 ba bc ea2 ec2 id sl ot lo_)).wl g.er.cn lw)(hl:K.length+(Stm.er (Stm.mk kk l1 cl nm1 wt1 Ep Xp bd es2 ba bc ea2 ec2 id sl ot lo_)).wt<=1000000000)(hg:GO q)(hP:Prg q pp g)(hb:g.ths.l.length<=1000000)(IHb:Zzk G g bd ba bc lw)(IHe:Zzk G g es2 ea2 ec2 lw): ∃ j f,Instr.findNow (.int .i64) (I64 kk) (kiL.map kiE) 0=some (some (j,.func (.func f) #[] #[]))/\CallV prog G (.func (.func f) #[] #[]) (A7 p b o) (coH p pp nm (K++ [(⟨23,id,0,0⟩,l1)]) l1::q) (Ret fun v q'=> ∃ ln2,q'=coH p pp nm (K++(Stm.er (Stm.mk kk l1 cl nm1 wt1 Ep Xp bd es2 ba bc ea2 ec2 id sl ot lo_)).code g.main K.length) ln2::q):=by
 have h:=hw;simp only [Stm.er,PStm.wl] at h;have c:=h.1;have a:kk=1\/kk=2\/kk=3\/kk=4\/kk=5\/kk=6\/kk=7\/kk=8\/kk=9\/kk=10\/kk=11\/kk=12\/kk=13\/kk=14\/kk=15:=by omega
 rcases a with rfl|rfl|rfl|rfl|rfl|rfl|rfl|rfl|rfl|rfl|rfl|rfl|rfl|rfl|rfl
 . exact ⟨_,_,rfl,Ze call166 (Zvp hK hw hl hg hP (.inl rfl))⟩
 . exact ⟨_,_,rfl,Ze call166 (Zvp hK hw hl hg hP (.inr rfl))⟩
 . exact ⟨_,_,rfl,Ze call167 (Zxo hK hw hl hg hP rfl)⟩
 . exact ⟨_,_,rfl,Ze call168 (Zjm hK hw hl hg hP rfl IHb IHe)⟩
 . exact ⟨_,_,rfl,Ze call169 (Zjb hK hw hl hg hP rfl IHb)⟩
 . exact ⟨_,_,rfl,Ze call170 (Rk hK hw hl hg hP (.inl rfl))⟩
 . exact ⟨_,_,rfl,Ze call170 (Rk hK hw hl hg hP (.inr (.inl rfl)))⟩
 . exact ⟨_,_,rfl,Ze call171 (cwait_ok hK hw hl hg hP rfl)⟩
 . exact ⟨_,_,rfl,Ze call170 (Rk hK hw hl hg hP (.inr (.inr (.inl rfl))))⟩
 . exact ⟨_,_,rfl,Ze call170 (Rk hK hw hl hg hP (.inr (.inr (.inr rfl))))⟩
 . exact ⟨_,_,rfl,Ze call172 (csend_ok hK hw hl hg hP rfl)⟩
 . exact ⟨_,_,rfl,Ze call173 (crecv_ok hK hw hl hg hP rfl)⟩
 . exact ⟨_,_,rfl,Ze call174 (Zxe hK hw hl hg hP rfl hb)⟩
 . exact ⟨_,_,rfl,Ze call175 (cjoin_ok hK hw hl hg hP rfl)⟩
 exact ⟨_,_,rfl,Ze call176 (Zx0 hK hw hl hg hP rfl)⟩
theorem Zx3:CallF prog G 96 [] ([]) (Ret fun v q'=> ∃ n,v= .map (some n)/\q'= [kiP n]):=by
 refine aB func96 ntmps96 rfl fun F cs=> ?_;refine xo 6 ?_;refine bU (kS) ?_;rintro _ _ ⟨a,rfl,rfl⟩;refine dM (dD (es:= []) underlying211 underlying131 rfl rfl rfl Zj (by rfl)) ?_;rintro _ _ ⟨rfl,rfl⟩;refine dM (dD (es:=((kiL.take 1).map kiE)) underlying211 underlying131 rfl rfl rfl Zj (by rfl)) ?_;rintro _ _ ⟨rfl,rfl⟩;refine dM (dD (es:=((kiL.take 2).map kiE)) underlying211 underlying131 rfl rfl rfl Zj (by rfl)) ?_;rintro _ _ ⟨rfl,rfl⟩;refine dM (dD (es:=((kiL.take 3).map kiE)) underlying211 underlying131 rfl rfl rfl Zj (by rfl)) ?_;rintro _ _ ⟨rfl,rfl⟩;refine dM (dD (es:=((kiL.take 4).map kiE)) underlying211 underlying131 rfl rfl rfl Zj (by rfl)) ?_;rintro _ _ ⟨rfl,rfl⟩;refine dM (dD (es:=((kiL.take 5).map kiE)) underlying211 underlying131 rfl rfl rfl Zj (by rfl)) ?_;rintro _ _ ⟨rfl,rfl⟩;refine dM (dD (es:=((kiL.take 6).map kiE)) underlying211 underlying131 rfl rfl rfl Zj (by rfl)) ?_;rintro _ _ ⟨rfl,rfl⟩;refine dM (dD (es:=((kiL.take 7).map kiE)) underlying211 underlying131 rfl rfl rfl Zj (by rfl)) ?_;rintro _ _ ⟨rfl,rfl⟩;refine dM (dD (es:=((kiL.take 8).map kiE)) underlying211 underlying131 rfl rfl rfl Zj (by rfl)) ?_;rintro _ _ ⟨rfl,rfl⟩;refine dM (dD (es:=((kiL.take 9).map kiE)) underlying211 underlying131 rfl rfl rfl Zj (by rfl)) ?_;rintro _ _ ⟨rfl,rfl⟩;refine dM (dD (es:=((kiL.take 10).map kiE)) underlying211 underlying131 rfl rfl rfl Zj (by rfl)) ?_;rintro _ _ ⟨rfl,rfl⟩;refine dM (dD (es:=((kiL.take 11).map kiE)) underlying211 underlying131 rfl rfl rfl Zj (by rfl)) ?_;rintro _ _ ⟨rfl,rfl⟩;refine dM (dD (es:=((kiL.take 12).map kiE)) underlying211 underlying131 rfl rfl rfl Zj (by rfl)) ?_;rintro _ _ ⟨rfl,rfl⟩;refine dM (dD (es:=((kiL.take 13).map kiE)) underlying211 underlying131 rfl rfl rfl Zj (by rfl)) ?_;rintro _ _ ⟨rfl,rfl⟩;refine dM (dD (es:=((kiL.take 14).map kiE)) underlying211 underlying131 rfl rfl rfl Zj (by rfl)) ?_;rintro _ _ ⟨rfl,rfl⟩;refine ox 3 ?_;refine Zq [kiP a] func96 (Zf results96 rfl) ⟨_,rfl,a,rfl,rfl⟩
variable {m:List Stm}
theorem Fz (hb:g.ths.l.length<=1000000)(IH: ∀ (m':List Stm) (a':Option Addr) (c':Nat),Zu m'<Zu m->Zzk G g m' a' c' lw)(hl:K.length+Zo (Zk m)<=1000000000)(hw:Ww g.er.cn lw (Zk m))(hK:Kn q fun M=>BlkAt M a c m)(hg:GO q)(hP:Prg q pp g):CallF prog G 97 [.pointer (some ⟨p,0,none⟩),.slice a m.length c] (coH p pp nm K ln::q) (Ret fun v q'=> ∃ ln2,q'=coH p pp nm (K++PStm.codes g.main (Zk m) K.length) ln2::q):=by
 refine aB func97 ntmps97 rfl fun F cs=> ?_;have hS:=eR (hK.imp fun M h=>h.1.2.2);have z:=Zx Z2 m;refine jW (fun w s=>(cF hK).fact (fun M h=>And.intro h.1.1 h.1.2.1) s) fun i0=> ?_;have j0:m.length<=1000000000:=(by have:=Dl (Zk m);rw [Y9] at this;omega);refine xx 7 ?_;refine aX (cC (fun (s:Nat×Int)=>s.1<=m.length) (fun s=> [(0,.pointer (some ⟨p,0,none⟩)),(1,.slice a m.length c),(7,I64 m.length),(8,I64 (s.1:Int))]) (fun s=>coH p pp nm (K++PStm.codes g.main (Zk (m.take s.1)) K.length) s.2::(q++F)) (fun s=>m.length - s.1) (fun s a0 ih=> ?_) (0,ln) (bC _)) Zn (by simp only [gN,Zk,PStm.codes,bR];exact leA);try dsimp only at a0 ih|-
 obtain hi:=a0;obtain ⟨s,l0⟩:=s;dsimp only at*;refine xx 5 ?_;refine xp 9 ?_ ?_<;>intro h0
 . have n:s<m.length:=(by omega);obtain ⟨K1,r⟩:=lM (K++PStm.codes g.main (Zk (m.take s)) K.length);rw [<-r];have y:K++PStm.codes g.main (Zk (m.take (s+1))) K.length=K1++m[s].er.code g.main K1.length:=(by rw [r,Dr n,Tl];simp [PStm.codes]);have t:=Zqt n;have k0:=Y5 g.main (Zk (m.take s)) K.length;have g0:K1.length<=K.length+Zo (Zk (m.take s)):=(by rw [r,aA];omega);have u:m[s].er.wl g.er.cn lw:=Di hw (by rw [Yh];exact aZ (aC n));have x:m[s].sz<=Zu m:=Uy (aC n);refine Z7 (hS.le leA) (by rw [z];omega) fun ab ao e_=> ?_;subst e_
   have o:Kn q fun M=>StAt M ⟨ab,ao+(s:Int).toNat*25,none⟩ m[s]:=hK.imp fun M h=>(by
    obtain ⟨b',o',e1,e2⟩:=iZ (i:=s) Z2 (by decide) h.1.2.2 n
    cases e1
    exact ⟨e2,Vd.1 h.2 _ (aC n)⟩)
   obtain ⟨S,e0⟩:=lM m[s];rw [<-e0] at t u o y x;obtain ⟨kk,l1,cl,nm1,wt1,Ep,Xp,bd,es2,ba,bc,ea2,ec2,id,sl,ot,lo_⟩:=S;have b0:CellsAt q ab (ao+(s:Int).toNat*25) (AF kk l1):=(by have h:=gL o;exact fun k v e=>h k v (by match k,e with|0,e=>exact e|1,e=>exact e|(k+2),e=>cases e));have f0:Cl q ⟨ab,ao+(s:Int).toNat*25+21,none⟩ (.int .i64 id):=(by have h:=gL o;cases Ep;cases Xp;exact h 21 _ rfl);simp only [Stm.er,PStm.wt] at t;simp only [Stm.sz] at x;obtain ⟨j,f,d0,c0⟩:=kd_at (K:=K1) (p:=p) (pp:=pp) (nm:=nm) (G:=G) o u (by simp only [Stm.er,PStm.wt];omega) hg hP hb (IH bd ba bc (by omega)) (IH es2 ea2 ec2 (by omega));refine rf [23,0,2] b0 ?_;refine Eu fun a c b d=> ?_
   refine st ?_;refine eP (q':=coH p pp nm K1 l1::_) (coI leA) ?_;refine oo 7 ?_;refine ld ?_ (hc:=(f0.le leA));refine Zv call177 Zj (Vs (by omega)) ?_;rintro _ _ rfl;refine rn [1,0,1,2,3] ?_;refine XD.coO fun a2 c2 b2 d2=> ?_
   refine rf [4,5,6,7,8,10,11] b0 ?_;refine eE 8 rfl (Rd.ef (Rd.lookup (es:=kiL.map kiE) (clock:=15) underlying211 underlying131 rfl rfl Zj zeroValue335 d0)) ?_;refine kk0 ?_;refine dY 36 (.func (.func f) #[] #[]) rfl (rfl) ?_;refine XD.cVX 11 (coI leA) ((jH F c0)) ?_;rintro _ _ ⟨_,⟨l2,rfl⟩,rfl⟩;refine ⟨trivial,?_⟩;refine rn [0,5] ?_;rw [<-y];refine aX (ih (s+1,l2) (by dsimp only;omega) (by dsimp only;omega)) Zn leA
 obtain rfl:s=m.length:=(by omega);rw [bV];refine xx 2 ?_;refine Zr (coH p pp nm (K++PStm.codes g.main (Zk m) K.length) l0::q) func97 (Yy results97) ⟨_,rfl,l0,rfl⟩
theorem C2 (hb:g.ths.l.length<=1000000): ∀ (N:Nat) {m:List Stm} {a:Option Addr} {c:Nat},Zu m<=N->Zzk G g m a c lw
 |0,m,a,c,h=>fun d b i e f=>Fz hb (fun k o n j=>aV j (by omega)) d b i e f
 |N+1,m,a,c,h=>fun d b i e f=>Fz hb (fun k o n j=>C2 hb N (by omega)) d b i e f
theorem Zx5 (hb:g.ths.l.length<=1000000):Zzk G g m a c lw:=C2 hb _ (aU _)
end
def IterT {τ:Type}(P:Program)(G:World)(gv:Value)(R:τ->List Value->HP->Prop)(xs:List τ)(pre:List HP):Prop:=
 ∀ (l:Nat) (J:Nat->HP),
  (∀ i (h:i<xs.length) vs A,R xs[i] vs A->CallV P G (Aw l) vs (J i::A::pre) (Ret fun v q=>v= .bool true/\q=J (i+1)::pre))->
  CallV P G gv [.func (.yield l) #[] #[]] (J 0::pre) (Ret fun _ q=>q=J xs.length::pre)
theorem Zqw {f:Fc}{τ:Type}{g:Operand}{ps:List Tmp}{ag bd:Code}{gv:Value}{R:τ->List Value->HP->Prop}{xs:List τ}{F:List HP}(pre:List HP)(Inv:Nat->List HP)(hI:IterT P G gv R xs pre)(hg:evp p g=some gv)(hq:Le q (Inv 0++(pre++F)))
 (hxs: ∀ x vs A,R x vs A->vs.length=ps.length) (hps:ps.all (Nat.blt · f.n)=true) (hf:(P.funcs[f.fn]?).isSome=true) (hro:f.round=none)
 (round: ∀ i (h:i<xs.length) vs A,R xs[i] vs A-> ∀ l rec F₀ cs₀,X P G ⟨f.fn,f.n,.normal,some l⟩ (RQ cs₀ rec l (Inv (i+1)) (fun _ _=>False) (pre++F₀)) [.code ag,.beginRound,.code bd] (Gq ps vs p) [] cs₀ (lp rec l .ready none::(Inv i++(A::(pre++F₀)))))
 (cont: ∀ r,X P G f Q k p (markD r::ds) cs (pto r (.deferred (some []))::(Inv xs.length++(pre++F)))):
 X P G f Q (.code (.rangeFunc g ps.toArray ag bd)::k) p ds cs q:=by
 refine X.rangeFunc (pre:=Inv 0++pre) (F:=F) (R':=fun a q1=>a=none/\q1=Inv xs.length++pre) hro hg (by rw [aK];exact hq) (fun l rec b=> ?_) fun r a q1 h=> ?_
 . have m:=hI l (fun i=>stars (lp rec l .ready none::Inv i)) fun i h vs A hR=> ?_
   . refine hY (pre':=stars (lp rec l .ready none::Inv 0)::pre) (Zm (lp rec l .ready none::Inv 0) pre) m ?_;rintro e j ⟨v,rfl,rfl⟩;exact ⟨lp rec l .ready none::(Inv xs.length++pre),⟨v,rfl,.ready,none,_,by simp,rfl,rfl,rfl⟩,Zy (lp rec l .ready none::Inv xs.length) pre⟩
   refine hY (pre':=lp rec l .ready none::(Inv i++(A::pre))) (Zy (lp rec l .ready none::Inv i) (A::pre))
    (CallV.yield (R:=Ret fun v q=>v= .bool true/\q=lp rec l .ready none::(Inv (i+1)++pre)) b hps (by simpa using hxs _ _ _ hR) hf (fun F₀ cs₀=> ?_)) ?_
   . intro tm w hn ha s;obtain ⟨o,d,p',z,a0,w',j,⟨y,u,t⟩,h1,h2,h3,h4⟩:=round i h vs A hR l rec F₀ cs₀ tm w hn ha (by rw [aK] at s;exact s);refine ⟨o,d,p',z,a0,w',j,⟨y,u,?_⟩,h1,h2,h3,h4⟩
     cases o with
     |fall=>exact ⟨Inv (i+1)++pre,⟨_,rfl,rfl,rfl⟩,by rw [aK];exact t⟩
     |jump c=>obtain ⟨qs,hJ,b0⟩:=t;exact hJ.elim
     |panic ch=>exact t.elim
   rintro e j ⟨v,rfl,rfl,rfl⟩;exact ⟨stars (lp rec l .ready none::Inv (i+1))::pre,⟨_,rfl,rfl,rfl⟩,Zm (lp rec l .ready none::Inv (i+1)) pre⟩
 obtain ⟨rfl,rfl⟩:=h;have:=cont r;rw [<-aK] at this;exact this
def Xw (main:Int)(n:Nat):List Nat:=main.toNat::(List.range n).filter fun k:Nat=>decide ((k:Int)≠main)
def Dz (main:Int)(s:Nat):Nat:=((List.range s).filter fun k:Nat=>decide ((k:Int)≠main)).length
theorem Dq (main:Int)(n:Nat):(Xw main n).length=Dz main n+1:=rfl
theorem ordC_yes (h:(s:Int)≠main):Dz main (s+1)=Dz main s+1:=by
 unfold Dz;rw [jU,iP,aA,List.filter_cons_of_pos (by simpa using h)];rfl
theorem ordC_no (h:(s:Int)=main):Dz main (s+1)=Dz main s:=by
 unfold Dz;rw [jU,iP,aA,List.filter_cons_of_neg (by simpa using h)];rfl
theorem ord_at (hs:s<n)(h:(s:Int)≠main):(Xw main n)[Dz main s+1]? =some s:=by
 unfold Xw Dz;rw [List.getElem?_cons_succ]
 have e:List.range n=List.range s++s::(List.range n).drop (s+1):=by
  have a:=(dZ s (List.range n)).symm;rw [List.take_range,eW (Nat.le_of_lt hs),aP (by simpa using hs),List.getElem_range] at a;exact a
 rw [e,iP,List.filter_cons_of_pos (by simpa using h),dG (aU _),lA];rfl
theorem ord_lt {k:Nat}(hm:0<=main/\main<n)(h:k∈Xw main n):k<n:=by
 unfold Xw at h;rcases bG.1 h with rfl|h
 . omega
 exact List.mem_range.1 (gY.1 h).1
theorem G1 (main:Int): ∀ (l:List PTh) (i:Nat),V3 main l i=((List.range l.length).filter fun k:Nat=>decide (((k+i:Nat):Int)≠main)).map fun k=>l.getD k ⟨em,0, []⟩
 | [],i=>rfl
 |t::r,i=>by
  rw [V3,G1 main r (i+1),aJ,List.range_succ_eq_map,jD,List.filter_map]
  have e:(fun k:Nat=>decide (((k+(i+1):Nat):Int)≠main))=(fun k:Nat=>decide (((k+i:Nat):Int)≠main)) ∘ Nat.succ:=by
   funext k;show decide _=decide _;rw [show k+(i+1)=Nat.succ k+i by omega]
  rw [e];by_cases h:(i:Int)=main
  . rw [if_pos h,if_neg (by simpa using h),fC];rfl
  rw [if_neg h,if_pos (by simpa using h),bA,fC];rfl
theorem Zz0 (F:Fnd):Ui F=(Xw F.main F.ths.length).map fun k=>F.ths.getD k ⟨em,0, []⟩:=by
 unfold Ui Xw;rw [G1];rfl
section
variable {p y tb to:Nat}{J:Nat->HP}
def TpR (tb to:Nat)(k:Nat)(vs:List Value)(A:HP):Prop:=vs= [.pointer (some ⟨tb,to+k*3,none⟩)]/\A=stars []
theorem laid_ok:CallF prog G 95 (A3 pp) (q) (Ret fun v q'=> ∃ n,v= .func (.func 165) [].toArray (A3 n).toArray/\q'=pto n (.cells (A3 pp).toArray 121 (0,0))::q):=by
 refine aB func95 ntmps95 rfl fun F cs=> ?_;refine xo 2 ?_;refine Zl fun a=> ?_
 refine ox 7 ?_;refine Zq (pto a (.cells (A3 pp).toArray 121 (0,0))::q) func95 (Zf results95 rfl) ⟨_,rfl,a,rfl,rfl⟩
abbrev AJ (v0:Nat):=((.pointer (some ⟨v0,0,none⟩)):Value)
abbrev Ad (v0:FC):=(Xw v0.main v0.ths.l.length)
theorem laid1_ok (hc:Cl pre ⟨n,0,none⟩ (AJ pp))(hP:Prg pre pp g)(ht:g.ths.a=some ⟨tb,to,none⟩)(hm:0<=g.main/\g.main<g.ths.l.length)(hb:g.ths.l.length<=1000000)(hy: ∀ i (h:i<(Ad g).length) vs A,TpR tb to (Ad g)[i] vs A->CallV prog G (Aw y) vs (J i::A::pre) (Ret fun v q=>v= .bool true/\q=J (i+1)::pre)):CallF prog G 165 (AR y n) (J 0::pre) (Ret fun v q'=>q'=J (Ad g).length::pre):=by
 refine aB func165 ntmps165 rfl fun F cs=> ?_;obtain ⟨j,d⟩:=bP hm.1;have x:j<g.ths.l.length:=(by omega);have b:Cl pre ⟨pp,0+5,none⟩ (.slice (some ⟨tb,to,none⟩) g.ths.l.length g.ths.c):=(by have:=hP.hp 5 _ rfl;unfold Sv.v at this;rw [ht] at this;exact this);have f:Cl pre ⟨pp,0+6,none⟩ (Al j):=(by have:=hP.hp 6 _ rfl;rw [d] at this;exact this);refine rn [2,0,1] ?_;refine ldD 1 ?_ (hc:=(hc.le leA));refine dd [2,3] ?_;refine ldD 4 ?_ (hc:=(b.le leA));refine ldD 5 ?_ (hc:=(hc.le leA));refine dd [6,7] ?_;refine ldD 8 ?_ (hc:=(f.le leA));refine dd [9] ?_;refine XD.cVX 10 (aM (cG _ (Yr _)) (aH _)) (jH F (hy 0 (by rw [Dq];omega) _ _ ⟨by rw [show ((Ad g)[0]'(by rw [Dq];omega))=j by show g.main.toNat=j;rw [d];rfl],rfl⟩)) ?_;rintro _ _ ⟨_,⟨rfl,rfl⟩,rfl⟩;refine ⟨(hlA (h:=by repeat first|exact trivial|refine ⟨clA,?_⟩|refine ⟨hc.le leA,?_⟩|refine ⟨b.le leA,?_⟩|refine ⟨f.le leA,?_⟩)),?_⟩;refine rn [12,0,4] ?_;refine ld ?_ (hc:=(hc.le leA));refine oo 2 ?_;refine ld ?_ (hc:=(b.le leA));refine ox 4 ?_;refine aX (cC (fun (s:Nat)=>s<=g.ths.l.length) (fun s=> [(0,.func (.yield y) #[] #[]),(1,.pointer (some ⟨n,0,none⟩)),(20,I64 g.ths.l.length),(21,I64 s)]) (fun s=>J (Dz g.main s+1)::(pre++F)) (fun s=>g.ths.l.length - s) (fun s k p=> ?_) 0 (bC _)) Zn (by exact aH _);try dsimp only at k p|-
 obtain z:=k;refine xx 5 ?_;refine xp 22 ?_ ?_<;>intro h0
 . have r:s<g.ths.l.length:=(by omega);refine xo 12 ?_;refine ld ?_ (hc:=(hc.le leA));refine oo 2 ?_;refine ld ?_ (hc:=(f.le leA));refine oo 2 ?_;rcases eB ((s:Int)=(j:Int)) with o|o
   . refine XO.kf 30 ?_ rfl (by rw [jP];exact o);refine ox 18 ?_;rw [<-ordC_no (show (s:Int)=g.main by rw [d];exact o)];refine aX (p (s+1) (by omega) (by omega)) Zn leA
   have m:(s:Int)≠g.main:=(by rw [d];exact o);have e:=ord_at r m;have t:Dz g.main s+1<(Ad g).length:=(by obtain ⟨w,_⟩:=cA.1 e;exact w);have u:(Ad g)[Dz g.main s+1]=s:=(by obtain ⟨_,w⟩:=cA.1 e;exact w);refine XO.kt 30 ?_ rfl (by rw [iA];exact o);refine oo 1 ?_;refine ld ?_ (hc:=(hc.le leA));refine oo 2 ?_;refine ld ?_ (hc:=(b.le leA));refine oo 2 ?_;refine iV (aM (cG _ (Yr _)) (aH _)) (jH F (hy (Dz g.main s+1) t _ _ ⟨by rw [u],rfl⟩)) ?_;rintro _ _ ⟨_,⟨rfl,rfl⟩,rfl⟩;refine ox 10 ?_;rw [<-ordC_yes m];refine aX (p (s+1) (by omega) (by omega)) Zn leA
 obtain rfl:s=g.ths.l.length:=(by omega);rw [<-Dq];refine xx 2 ?_;refine Zr (J (Ad g).length::pre) func165 (Yy results165) ⟨_,rfl,rfl⟩
theorem Zxm (hc:Cl pre ⟨n,0,none⟩ (AJ pp))(hP:Prg pre pp g)(ht:g.ths.a=some ⟨tb,to,none⟩)(hm:0<=g.main/\g.main<g.ths.l.length)(hb:g.ths.l.length<=1000000):IterT prog G (.func (.func 165) [].toArray (A3 n).toArray) (TpR tb to) (Ad g) pre:=
 fun y J hy=>gT call165 (laid1_ok hc hP ht hm hb hy)
end
def CodAt (M:Hp)(x:Cod):Prop:=SlAt M x.ia x.ic x.ins.length (x.ins.flatMap Y8)/\SlAt M x.la x.lc x.lines.length (x.lines.map I64)
theorem CodAt.mono (e:Hle M M')(h:CodAt M x):CodAt M' x:=⟨h.1.mono e,h.2.mono e⟩
def CodsAt (M:Hp)(l:List Cod):Prop:= ∀ x∈l,CodAt M x
theorem CodsAt.mono (e:Hle M M')(h:CodsAt M l):CodsAt M' l:=fun x hx=>(h x hx).mono e
def Zjf (l:List Cod):HP:=lst (fun M=>CodsAt M l) fun e h=>CodsAt.mono e h
structure MdAt (M:Hp) (m:Mdl):Prop where
 v:SlAt M m.va m.vc m.vars.length (m.vars.map I64)
 a:SlAt M m.aa m.ac m.arrays.length (m.arrays.map I64)
 c:SlAt M m.ca m.cc m.chans.length (m.chans.map I64)
 t:SlAt M m.ta m.tc m.threads.length (m.threads.flatMap Vn)
 x:CodsAt M m.threads
theorem MdAt.mono (e:Hle M M')(h:MdAt M m):MdAt M' m:=⟨h.v.mono e,h.a.mono e,h.c.mono e,h.t.mono e,h.x.mono e⟩
def mdM (m:Mdl):HP:=lst (fun M=>MdAt M m) fun e h=>MdAt.mono e h
def MdB (m:Mdl):Prop:=m.vars.length<=9223372036854775807/\m.arrays.length<=9223372036854775807/\m.chans.length<=9223372036854775807/\m.threads.length<=9223372036854775807/\m.arrays.length<=m.ac/\ ∀ x∈m.threads,x.name.size<=9223372036854775807/\x.ins.length<=9223372036854775807/\x.lines.length<=9223372036854775807
theorem Ok (h:Kn q fun M=>MdAt M m)(b:MdB m):MdlQ q m:=
 ⟨eR (h.imp fun _ k=>k.v.2.2),eR (h.imp fun _ k=>k.a.2.2),eR (h.imp fun _ k=>k.c.2.2),eR (h.imp fun _ k=>k.t.2.2),
  fun x hx=>⟨eR (h.imp fun _ k=>(k.x x hx).1.2.2),eR (h.imp fun _ k=>(k.x x hx).2.2.2),(b.2.2.2.2.2 x hx).1,(b.2.2.2.2.2 x hx).2.1,(b.2.2.2.2.2 x hx).2.2⟩,b.1,b.2.1,b.2.2.1,b.2.2.2.1,b.2.2.2.2.1⟩
section
variable {fr:Fc}{q0:List HP}{lo:List Oper}{ty sz:Nat}
theorem X.frzI {l:List Int}(K:X P G fr Q todo p ds cs (lst (fun M=>SlAt M a c l.length (l.map I64)) fG::q0))(hq:Le q (Wx.lsH I64 ty a c l::q0):=by exact Zj):X P G fr Q todo p ds cs q:=by
 unfold Wx.lsH at hq;exact .frz fJ K hq
theorem I1 {l:List Int}(K:XO P G fr Q ops.toArray k lo p ds cs (lst (fun M=>SlAt M a c l.length (l.map I64)) fG::q0))(hq:Le q (Wx.lsH I64 ty a c l::q0):=by exact Zj):XO P G fr Q ops.toArray k lo p ds cs q:=by
 unfold Wx.lsH at hq;exact .frz fJ K hq
theorem X.frzC {α:Type}{f:α->List Value}{l:List α}(K:X P G fr Q todo p ds cs (lst (fun M=>SlAt M a c l.length (l.flatMap f)) fG::q0))(hq:Le q (Wx.rsH f sz ty a c l::q0):=by exact Zj):X P G fr Q todo p ds cs q:= .frzR fJ K hq
end
theorem Zyf :Le q (Zjf []::q):=dK (fun _ _ _ x a=>by cases a)
theorem Zkx (h:Kn q fun M=>CodsAt M l)(h1:Kn q fun M=>CodAt M x):Le q (Zjf (l++ [x])::q):=
 dK ((h.and h1).imp fun M k y a=>by
  rcases bE.1 a with a|a
  . exact k.1 y a
  rw [bN.1 a];exact k.2)
abbrev mtP (n:Nat)(v0 v1 v2 v3 v4:Value)(T:List Cod)(a:Option Addr)(c:Nat):HP:=pto n (.cells [v0,v1,v2,v3,v4,.slice a T.length c].toArray 109 (0,0))
def mtI (n:Nat)(v0 v1 v2 v3 v4:Value)(L:List (ByteArray×Int×List Ins×List Int)):HP:=ex fun z:List Cod×Option Addr×Nat=>stars [pure (z.1.map (fun x:Cod=>(x.name,x.locals,x.ins,x.lines))=L),mtP n v0 v1 v2 v3 v4 z.1 z.2.1 z.2.2,rsH Vn 4 224 z.2.1 z.2.2 z.1,Zjf z.1]
theorem mtI_in {r:List HP}(e:T.map (fun x:Cod=>(x.name,x.locals,x.ins,x.lines))=L)(h:Le q (mtP n v0 v1 v2 v3 v4 T a c::rsH Vn 4 224 a c T::Zjf T::r)):Le q (mtI n v0 v1 v2 v3 v4 L::r):=
 h.trans (Wa (T,a,c) ((Yc e _).trans (Zm [_,_,_,_] r)))
theorem X.mtO {f:Fc}{r:List HP}(x: ∀ T a c,T.map (fun x:Cod=>(x.name,x.locals,x.ins,x.lines))=L->X P G f Q k p ds cs (mtP n v0 v1 v2 v3 v4 T a c::rsH Vn 4 224 a c T::Zjf T::r))(hq:Le q (mtI n v0 v1 v2 v3 v4 L::r):=by exact Zj):X P G f Q k p ds cs q:=
 .le hq (.ex fun z=> .le (Zy _ r) (.pure fun h=>x z.1 z.2.1 z.2.2 h))
theorem XO.mtO {f:Fc}{l:List Oper}{r:List HP}(x: ∀ T a c,T.map (fun x:Cod=>(x.name,x.locals,x.ins,x.lines))=L->XO P G f Q ops.toArray k l p ds cs (mtP n v0 v1 v2 v3 v4 T a c::rsH Vn 4 224 a c T::Zjf T::r))(hq:Le q (mtI n v0 v1 v2 v3 v4 L::r):=by exact Zj):XO P G f Q ops.toArray k l p ds cs q:=
 .le hq (.ex fun z=> .le (Zy _ r) (.pure fun h=>x z.1 z.2.1 z.2.2 h))
section
variable {l:Bs}
theorem Lt:(prog.info? 224).map (fun i=>(i.zero,i.size,i.bytes))=some (some (.agg #[.string ⟨#[]⟩,I64 0,.slice none 0 0,.slice none 0 0]),4,72):=by kernel_rfl
theorem mod_len {f:PTh->ByteArray×Int×List Ins×List Int}(h:T.map (fun x:Cod=>(x.name,x.locals,x.ins,x.lines))=(Ui F).map f):T.length<=F.ths.length+1:=by
 have a:=aQ List.length h;have b:=E4 F.main F.ths 0;rw [aI,aI] at a;unfold Ui at a;rw [aJ] at a;omega
theorem new0_ok (hT:Vi l=some g.er)(hK:Kn q fun M=>g.At M):CallF prog G 92 (AB g) q (Ret fun v q'=> ∃ p,v= .tuple [.pointer (some ⟨p,0,none⟩),I64 0].toArray/\q'=q):=
 gF (aH _) (pnew_ok (B:=14*65536) hK (FC.cp hT)) (by
  have b:=(Gw hT).m;rintro _ _ ⟨_,rfl,(⟨_,p,pp,c,U,e,d,rfl,rfl⟩|⟨a,_,_⟩)⟩
  . exact ⟨_,⟨_,rfl,p,rfl,rfl⟩,(dX _ _).trans (by unfold staL;exact leA)⟩
  rw [b] at a;cases a)
abbrev AT :=((.cells zz9.toArray 109 (0,0)):Obj)
theorem Bv (hT:Vi l=some g.er)(hK:Kn q fun M=>g.At M)(hg:GO q):CallF prog G 45 (AB g) (q) (Ret fun v q'=> ∃ m:Mdl,v= .tuple [.agg (J7 m).toArray,I64 0].toArray/\q'=mdM m::q/\ModOf g.er m/\MdB m):=by
 refine aB func45 ntmps45 rfl fun F cs=> ?_;have hF:=FC.ok hT;obtain ⟨mn,b1,j0⟩:=hF.m;have m0:=(Gv hT).1;have f0:=m0.k;have x0:=m0.t;have i0:0<=g.main/\g.main<g.ths.l.length:=(by omega);have w0:g.vars.l.length<=64:=f0.1;have j1:g.arrs.l.length<=64:=f0.2.1;have d1:g.chs.l.length<=64:=f0.2.2.1;have y0:g.ths.l.length<=64:=(by have:=f0.2.2.2.1;rw [show g.er.ths.length=g.ths.l.length from aI _] at this;exact this);have hA:=dV (hK.imp fun M h=>h.ths);have k0:=Zx Uh g.ths.l;refine Z7 (hA.le leA) (by rw [k0];omega) fun tb to e1=> ?_;have t0:=hA;rw [e1] at t0;refine xo 2 ?_;refine Zl fun p=> ?_
 refine Zh zeroValue109 fun n2=> ?_
 refine rn [5,0] ?_;refine Zv call92 (aH _) (new0_ok hT (hK.le leA)) ?_;rintro _ _ ⟨p0,rfl,rfl⟩;refine rn [11,1015] ?_;refine cS (q':=pto p (B4 g)::_) Zj (fX (cS (q':=prM p g::_) (dK (φ:=fun M=>PrgM M p g) (mn:=fun e h=>PrgM.mono e h) (((Kn.im).and (hK.le leA)).imp fun M h=>⟨SeesZ.block h.1,h.2⟩)) ?_));refine rn [3,0,1,2,4,5,7,8,10,11,12,13] ?_;refine Yd (fl:= [⟨14,6,fun g=> pt g,fun g=>pto g AT⟩]) ?_;refine Td 2 ⟨⟨_,rfl,rfl,rfl,rfl,rfl,rfl,fun q=>cD zeroValue109⟩,trivial⟩ call93 (aH _) (Jx (l:=g.vars.l) (by rw [<-Ul];exact dV (cF (hK.imp fun M h=>h.vars))) (by omega)) ?_;refine kk2 fun a0 c0=> ?_
 refine Td 5 ⟨⟨_,rfl,rfl,rfl,rfl,rfl,rfl,fun q=>cD zeroValue109⟩,trivial⟩ call94 (aH _) (Hx (l:=g.arrs.l) (by rw [<-Ul];exact dV (cF (hK.imp fun M h=>h.arrs))) (by omega)) ?_;refine kk2 fun z y=> ?_
 refine Td 8 ⟨⟨_,rfl,rfl,rfl,rfl,rfl,rfl,fun q=>cD zeroValue109⟩,trivial⟩ call94 (aH _) (Hx (l:=g.chs.l) (by rw [<-Ul];exact dV (cF (hK.imp fun M h=>h.chs))) (by omega)) ?_;refine kk2 fun a2 c2=> ?_
 refine Qa 13 ⟨⟨_,rfl,rfl,rfl,rfl,rfl,rfl,fun q=>cD zeroValue109⟩,trivial⟩ (Pu.build (cells:= [_,_,_,_,_,_]) [(0,1),(1,1),(2,1),(3,1),(4,1),(5,1)] zeroValue109 underlying109 (by kernel_rfl) rfl rfl) ?_;refine Ws (e0:=⟨14,6,fun g=> pt g,fun g=>pto g AT⟩) (hnd:=by simp) 14 ⟨⟨_,rfl,rfl,rfl,rfl,rfl,rfl,fun q=>cD zeroValue109⟩,trivial⟩ fun b0=> ?_;change XF _ _ _ _ _ _ _ [] _ _ _ ((6,.pointer (some ⟨b0,0,none⟩))::_) _ _ (pto b0 AT::_);refine eQ ?_;refine rn [16,0,3] ?_;refine I1 (a:=a0) (c:=c0) (l:=g.vars.l) ?_;refine I1 (a:=z) (c:=y) (l:=g.arrs.l) ?_;refine I1 (a:=a2) (c:=c2) (l:=g.chs.l) ?_;refine Zv call95 (aH _) (laid_ok) ?_;rintro _ _ ⟨nb,rfl,rfl⟩;refine ox 2 ?_;obtain ⟨LL,s0⟩:=lM ((Ui g.er).map (thP g.main));have r0:LL=(Ad g).map (fun k=>thP g.main (g.er.ths.getD k ⟨em,0, []⟩)):=(by rw [s0,Zz0,fC,show g.er.ths.length=g.ths.l.length from aI _];rfl);have o0:LL.length=(Ad g).length:=(by rw [r0,aI]);refine cS (q':=pto nb (.cells [pt p].toArray 121 (0,0))::_) Zj (fX ?_);refine Zqw (xs:=(Ad g)) (im nb (.cells [pt p].toArray 121 (0,0))::prM p g::lst (fun M=>SlAt M a2 c2 g.chs.l.length (g.chs.l.map I64)) fG::lst (fun M=>SlAt M z y g.arrs.l.length (g.arrs.l.map I64)) fG::lst (fun M=>SlAt M a0 c0 g.vars.l.length (g.vars.l.map I64)) fG::pto n2 AT::q) (fun k:Nat=> [mtI b0 (.slice a0 g.vars.l.length c0) (.slice z g.arrs.l.length y) (.slice a2 g.chs.l.length c2) (I64 g.mu) (I64 g.co) (LL.take k)]) (F:=F) (Zxm (dH (iT _ _ _) 0 _ rfl) ((Prg.of Kn.prM).le (dX _ _)) e1 i0 (by omega)) rfl ?_ (by rintro _ _ _ ⟨rfl,_⟩;rfl) rfl (by rw [func45];rfl) rfl (fun i hi vs A hA l9 rec F0 r1=> ?_) fun r=> ?_
 . simp only [ca,na];refine mtI_in (T:= []) (a:=none) (c:=0) rfl ?_;exact aM (b:=mtP b0 (.slice a0 g.vars.l.length c0) (.slice z g.arrs.l.length y) (.slice a2 g.chs.l.length c2) (I64 g.mu) (I64 g.co) [] none 0::_) Zj (cG _ (aM (Zc Vn 4 224 _) (cG _ (aM Zyf leA))))
 . obtain ⟨rfl,rfl⟩:=hA;obtain ⟨k,hk⟩:=lM (Ad g)[i];have h0:k<g.ths.l.length:=ord_lt i0 (hk ▸ aC hi);rw [<-hk];have q0:i<LL.length:=(by rw [o0];exact hi);have n0:LL[i]=thP g.main (g.ths.l[k]).er:=(by simp only [r0,iG,<-hk];congr 1;show (g.ths.l.map Th.er).getD k _=_;rw [aG,bJ,aE h0];rfl);refine X.sub (p':= [(32,_),(31,_),(6,_),(3,_),(2,_),(1,_)]) ⟨rfl,rfl,rfl,rfl,rfl,rfl,trivial⟩ ?_;simp only [ca,na];have l1: ∀ {r:List HP},Kn (im nb (.cells [pt p].toArray 121 (0,0))::prM p g::r) fun M=>g.At M:=fun {r} =>(Kn.there Kn.prM).imp fun M h=>h.2
   obtain ⟨x,hx⟩:=lM g.ths.l[k];rw [<-hx] at n0;have d0:x∈g.ths.l:=hx ▸ aC h0;have u0:x.er∈g.er.ths:=aZ d0;have o1:=hF.w _ d0;have p1:=hF.n _ d0;have v0:=(x0 _ u0).b;have g0:CellsAt q tb (to+k*3) (thC x):=(by rw [hx];exact fD (j:=(k:Int)) t0 (aH _) Uh h0 rfl);obtain ⟨C,hC⟩: ∃ C,PStm.codes g.main (Zk x.body) 0=C:=⟨_,rfl⟩;have m1:=Y5 g.main (Zk x.body) 0;rw [hC] at m1;have q1:i<=64:=(by have:=hi;rw [Dq] at this;have h5:=fZ (fun k:Nat=>decide ((k:Int)≠g.main)) (List.range g.ths.l.length);rw [List.length_range] at h5;unfold Dz at this;omega);refine xx 3 ?_;refine fM rfl leA ?_;refine xo 3 ?_;refine Vg call96 (Zx3) ?_;refine kd1 fun nk=> ?_
   refine oo 1 ?_;refine Zl fun n3=> ?_
   refine rf [8,0] g0 ?_;refine eP (q':=coH n3 p nk [] 0::_) (coI (a:=none) (c:=0) (b:=none) (d:=0) (aM (b:=_::kiP nk::_) (bD Zj Zj) (cG _ (aM (Zc Y8 4 222 _) (cG _ (Z1 I64 3 _)))))) ?_;refine Zv call97 (aH _) (Zx5 (g:=g) (by omega) (K:= []) (by simp only [aT];omega) v0 ((cF (l1 (r:= [])) leA).imp fun M h=>h.bod x d0) (hg.le leA) ((Prg.of Kn.prM).le leA)) ?_;rintro _ _ ⟨l2,rfl⟩;rw [show (([]:List (Ins×Int)).length:Int)=0 from rfl,hC,aY];refine oo 6 ?_;refine Eu fun a5 c5 b5 d5=> ?_
   refine st ?_;refine eP (q':=coH n3 p nk C 0::_) (coI leA) ?_;refine oo 5 ?_;refine Zv call98 Zj (Qd (i:=⟨34,0,0,0⟩) (by omega)) ?_;rintro _ _ rfl;refine Eu fun a6 c6 b6 d6=> ?_;rw [show C++ [((⟨34,0,0,0⟩:Ins),(0:Int))]=Yx g.main x.er by rw [<-hC];rfl]
   refine XO.mtO fun T ta tc o=> ?_
   have l0:T.length=i:=(by have h:=aQ List.length o;rw [aI,bI,eW (Nat.le_of_lt q0)] at h;exact h);refine rf [1,0,1,2,3,4,5,6,7,8,9,10,11,12,13,14,15,16,17,18,19] g0 ?_;refine eE 19 rfl (Yz (u:=(⟨x.nm,x.loc,(Yx g.main x.er).map Prod.fst,(Yx g.main x.er).map Prod.snd,a6,c6,b6,d6⟩:Cod)) Vn underlying107 Lt rfl rfl (fun _=>rfl) rfl) ?_;rintro _ _ ⟨gx,rfl,rfl⟩;refine ⟨(hlF g0),?_⟩;refine eE 20 rfl (Z4 (f:=Vn) (l:=T) (m:= [(⟨x.nm,x.loc,(Yx g.main x.er).map Prod.fst,(Yx g.main x.er).map Prod.snd,a6,c6,b6,d6⟩:Cod)]) underlying107 Lt rfl rfl (fun _=>rfl) rfl rfl Zj ((cI _).le Zj) (fun _=>rfl) (by simp only [aJ,aT];omega) (by simp only [aJ,aT];omega)) ?_;rintro _ _ ⟨a7,c7,rfl,rfl⟩;refine ⟨(hlF g0),?_⟩;refine rn [22,23,0,1] ?_;refine X.frzC (f:=Y8) (a:=a6) (c:=c6) (l:=(Yx g.main x.er).map Prod.fst) ?_;refine X.frzI (a:=b6) (c:=d6) (l:=(Yx g.main x.er).map Prod.snd) ?_;refine cS (q':=Zjf (T++ [(⟨x.nm,x.loc,(Yx g.main x.er).map Prod.fst,(Yx g.main x.er).map Prod.snd,a6,c6,b6,d6⟩:Cod)])::_) (Zkx knA ((gI (knA (φ:=fun M=>SlAt M a6 c6 ((Yx g.main x.er).map Prod.fst).length (((Yx g.main x.er).map Prod.fst).flatMap Y8))) (knA (φ:=fun M=>SlAt M b6 d6 ((Yx g.main x.er).map Prod.snd).length (((Yx g.main x.er).map Prod.snd).map I64)))).imp fun M h=>⟨h.1,h.2⟩)) ?_;refine gC ⟨rfl,rfl,?_⟩;simp only [ca,na];refine bD Zj (mtI_in (T:=T++ [(⟨x.nm,x.loc,(Yx g.main x.er).map Prod.fst,(Yx g.main x.er).map Prod.snd,a6,c6,b6,d6⟩:Cod)]) (a:=a7) (c:=c7) (by rw [aO,o,aN q0,n0];rfl) leA)
 simp only [ca,na];rw [<-o0,bV];refine X.mtO fun T ta tc o=> ?_
 refine rn [3,0,0,2] ?_;rw [s0] at o;refine X.frzC (f:=Vn) (a:=ta) (c:=tc) (l:=T) ?_;refine cS (q':=mdM (⟨g.vars.l,g.arrs.l,g.chs.l,g.mu,g.co,T,a0,c0,z,y,a2,c2,ta,tc⟩:Mdl)::_) (dK ((gI (knA (φ:=fun M=>SlAt M a0 c0 g.vars.l.length (g.vars.l.map I64))) (gI (knA (φ:=fun M=>SlAt M z y g.arrs.l.length (g.arrs.l.map I64))) (gI (knA (φ:=fun M=>SlAt M a2 c2 g.chs.l.length (g.chs.l.map I64))) (gI (knA (φ:=fun M=>SlAt M ta tc T.length (T.flatMap Vn))) (knA (φ:=fun M=>CodsAt M T)))))).imp fun M k=>⟨k.1,k.2.1,k.2.2.1,k.2.2.2.1,k.2.2.2.2⟩)) ?_;have k1:ModOf g.er (⟨g.vars.l,g.arrs.l,g.chs.l,g.mu,g.co,T,a0,c0,z,y,a2,c2,ta,tc⟩:Mdl):=⟨rfl,rfl,rfl,rfl,rfl,o⟩;have z0: ∀ x∈T,x.name.size<=9223372036854775807/\x.ins.length<=9223372036854775807/\x.lines.length<=9223372036854775807:=mods_b hF.n hF.w j0 (by rw [o];unfold Ui;rw [show g.er.main.toNat=mn by show g.main.toNat=mn;rw [b1];rfl,show g.er.ths.getD mn ⟨em,0, []⟩=(g.ths.l[mn]).er by show (g.ths.l.map Th.er).getD mn _=_;rw [aG,bJ,aE j0];rfl];rfl);have l0:T.length<=9223372036854775807:=dR (mod_len o) (by rw [show g.er.ths.length=g.ths.l.length from aI _];exact dR (Nat.succ_le_succ y0) (by decide));have i1:g.vars.l.length<=9223372036854775807:=dR w0 (by decide);have h1:g.arrs.l.length<=9223372036854775807:=dR j1 (by decide);have g1:g.chs.l.length<=9223372036854775807:=dR d1 (by decide);refine jW (fun w s=>Kn.fact (knA (φ:=fun M=>SlAt M z y g.arrs.l.length (g.arrs.l.map I64))) (fun M k=>k.1) s) fun f1=> ?_;refine jA ⟨rfl,Ke ?_⟩;exact (gE (q':=mdM (⟨g.vars.l,g.arrs.l,g.chs.l,g.mu,g.co,T,a0,c0,z,y,a2,c2,ta,tc⟩:Mdl)::q) func45 (N3 results45) ⟨_,rfl,(⟨g.vars.l,g.arrs.l,g.chs.l,g.mu,g.co,T,a0,c0,z,y,a2,c2,ta,tc⟩:Mdl),rfl,rfl,k1,⟨i1,h1,g1,l0,f1,z0⟩⟩ leA)
end
end Go.Proofs.YtadahhbefdnabaaGreatDoor
namespace Go.Proofs.YtadahhbefdnabaaGreatDoor
open Go Go.RowKit Wx Go.Proofs.Tryz
variable {n:Nat}{p:Option Int}{s:Int}
theorem Va:(prog.info? 5).map (fun i=>(i.zero,i.size,i.bytes))=some (some (.int .u8 0),1,1):=by kernel_rfl
theorem Bu:(prog.info? 3).map (fun i=>(i.zero,i.size,i.bytes))=some (some (I64 0),1,8):=by kernel_rfl
theorem Zkn:(prog.info? 2).map (fun i=>(i.zero,i.size,i.bytes))=some (some (I64 0),1,8):=by kernel_rfl
theorem My:(prog.info? 49).map (fun i=>(i.zero,i.size,i.bytes))=some (some (.agg #[I64 0,I64 0]),2,16):=by kernel_rfl
abbrev V1:=Int×Int
variable {l:List V1}
abbrev Zyx:=Int×Int×Int×Int
structure Tkn where
 hash:Int
 turns:List V1
 e:Zyx
def tcs (x:V1):List Value:= [I64 x.1,I64 x.2]
def ocs (x:Zyx):List Value:= [I64 x.1,I64 x.2.1,I64 x.2.2.1,I64 x.2.2.2]
def Tkn.cs (t:Tkn)(a:Option Addr)(c:Nat):List Value:= [.int .u32 t.hash,.slice a t.turns.length c,I64 t.e.1,I64 t.e.2.1,I64 t.e.2.2.1,I64 t.e.2.2.2]
def Tkn.v (t:Tkn)(a:Option Addr)(c:Nat):Value:= .agg (t.cs a c).toArray
def okE (o:Zyx):Prop:=(1<=o.1/\o.1<=3/\o.2.1=0/\o.2.2.1=0/\o.2.2.2=0)\/(o.1=4/\1<=o.2.1/\o.2.1<=5/\0<=o.2.2.1/\o.2.2.1<=7/\0<=o.2.2.2/\o.2.2.2<=511)
instance (o:Zyx):Decidable (okE o):=by unfold okE;infer_instance
def goT:Option Int->Int->List V1->Prop
 |_,_, []=>True
 |p,s,x::r=>(0<=x.1/\x.1<=7/\1<=x.2/\s+x.2<=2147483647/\p≠some x.1)/\goT (some x.1) (s+x.2) r
instance goT.dec:(p:Option Int)->(s:Int)->(l:List V1)->Decidable (goT p s l)
 |_,_, []=> .isTrue trivial
 |p,s,x::r=>have:=goT.dec (some x.1) (s+x.2) r;by unfold goT;infer_instance
def okT (t:Tkn):Prop:=t.turns.length<=65536/\okE t.e/\goT none 0 t.turns
instance (t:Tkn):Decidable (okT t):=by unfold okT;infer_instance
def chk (t:Tkn):Int:=if okT t then 0 else 2
def E3 (l:List V1)(n:Nat):Option Int:=if n=0 then none else (l[n - 1]?).map (·.1)
theorem goT_end (h:l.length<=n):goT p s (l.drop n):=by rw [cL h];trivial
theorem Xa (h:n<l.length):goT p s (l.drop n)↔(0<=l[n].1/\l[n].1<=7/\1<=l[n].2/\s+l[n].2<=2147483647/\p≠some l[n].1)/\goT (E3 l (n+1)) (s+l[n].2) (l.drop (n+1)):=by
 rw [aP h];simp [goT,E3,h]
theorem Lg (h:n<l.length)(h0:0<n):E3 l n=some (l[n - 1]'(by omega)).1:=by
 simp [E3,Nat.ne_of_gt h0,aE (show n - 1<l.length by omega)]
theorem Gi (l:List V1):E3 l 0=none:=rfl
section
variable {G:World}{q:List HP}{t:Tkn}{a:Option Addr}{c:Nat}
theorem Ew (n:Int):CallF prog G 15 [I64 n] ([]) (Ret fun v q'=>v= I64 n/\q'= []):=by
 refine aB func15 ntmps15 rfl fun F cs=> ?_;refine xx 9 ?_;refine Zq [] func15 (Zf results15 rfl) ⟨_,rfl,rfl,rfl⟩
abbrev B5 (v0:Int)(v1:Int)(v2:Int):=(Ret fun v q'=>v= .bool (decide (v0<=v1/\v1<=v2))/\q'= [])
theorem within64_ok (n l m:Int):CallF prog G 49 [I64 n,I64 l,I64 m] ([]) (B5 l n m):=by
 refine aB func49 ntmps49 rfl fun F cs=> ?_;refine xo 10 ?_;refine bB [10,6,0,2] ?_;apply Zg 4 14 10 rfl
 . intro a b;have c:=sp a;refine oo 4 ?_;exact Zz b ⟨Yi a,Zw⟩
 . intro a b;have c:=sp a;refine oo 4 ?_;exact Zz b ⟨Yl a,Zw⟩
 refine ox 2 ?_;refine Zq [] func49 (Zf results49 rfl) ⟨_,rfl,cB (by simp;try omega),rfl⟩
theorem Bj (n l m:Int):CallF prog G 121 [I64 n,I64 l,I64 m] ([]) (B5 l n m):=by
 refine aB func121 ntmps121 rfl fun F cs=> ?_;refine xo 10 ?_;refine bB [10,6,0,2] ?_;apply Zg 4 14 10 rfl
 . intro a b;have c:=sp a;refine oo 4 ?_;exact Zz b ⟨Yi a,Zw⟩
 . intro a b;have c:=sp a;refine oo 4 ?_;exact Zz b ⟨Yl a,Zw⟩
 refine ox 2 ?_;refine Zq [] func121 (Zf results121 rfl) ⟨_,rfl,cB (by simp;try omega),rfl⟩
theorem Zzx (n l m:Int):CallF prog G 191 [I64 n,I64 l,I64 m] ([]) (B5 l n m):=by
 refine aB func191 ntmps191 rfl fun F cs=> ?_;refine xo 10 ?_;refine bB [10,6,0,2] ?_;apply Zg 4 14 10 rfl
 . intro a b;have c:=sp a;refine oo 4 ?_;exact Zz b ⟨Yi a,Zw⟩
 . intro a b;have c:=sp a;refine oo 4 ?_;exact Zz b ⟨Yl a,Zw⟩
 refine ox 2 ?_;refine Zq [] func191 (Zf results191 rfl) ⟨_,rfl,cB (by simp;try omega),rfl⟩
theorem Jb (n:Int):CallF prog G 119 [I64 n] ([]) (Ret fun v q'=>v= .bool (decide (0<=n/\n<=7))/\q'= []):=by
 refine aB func119 ntmps119 rfl fun F cs=> ?_;refine xo 7 ?_;refine Vg call121 (Bj _ _ _) ?_;refine kd0 ?_;refine ox 2 ?_;refine Zq [] func119 (Zf results119 rfl) ⟨_,rfl,rfl,rfl⟩
theorem Zxs (x:Zyx):CallF prog G 120 [.agg (ocs x).toArray] ([]) (Ret fun v q'=>v= .bool (decide (okE x))/\q'= []):=by
 refine aB func120 ntmps120 rfl fun F cs=> ?_;obtain ⟨k,d,e,s⟩:=x;simp only [ocs];refine xo 2 ?_;refine Zl fun f=> ?_
 refine rn [6,0,8] ?_;refine xp 5 ?_ ?_<;>intro j
 focus
  refine rn [5,0,1,0,1] ?_;refine Vl (F7 rfl rfl (by kernel_rfl) (EqV.struct underlying45 (by kernel_rfl) (by kernel_rfl) ⟨_,_,_,_,rfl,rfl,isAgg42,(gJ underlying42 _ _),⟨_,_,_,_,rfl,rfl,isAgg43,(gJ underlying43 _ _),⟨_,_,_,_,rfl,rfl,isAgg3,(gJ underlying3 _ _),⟨_,_,_,_,rfl,rfl,isAgg3,(gJ underlying3 _ _),rfl,rfl⟩,rfl⟩,rfl⟩,rfl⟩)) ?_;refine ox 2 ?_
 rotate_left
 focus
  refine xx 6 ?_;refine xp 5 ?_ ?_<;>intro i
  focus
   refine rn [5,0,1,0,1] ?_;refine Vl (F7 rfl rfl (by kernel_rfl) (EqV.struct underlying45 (by kernel_rfl) (by kernel_rfl) ⟨_,_,_,_,rfl,rfl,isAgg42,(gJ underlying42 _ _),⟨_,_,_,_,rfl,rfl,isAgg43,(gJ underlying43 _ _),⟨_,_,_,_,rfl,rfl,isAgg3,(gJ underlying3 _ _),⟨_,_,_,_,rfl,rfl,isAgg3,(gJ underlying3 _ _),rfl,rfl⟩,rfl⟩,rfl⟩,rfl⟩)) ?_;refine ox 2 ?_
  rotate_left
  focus
   refine xx 5 ?_;refine xp 5 ?_ ?_<;>intro h
   focus
    refine rn [3,0,1,0,1] ?_;refine Vl (F7 rfl rfl (by kernel_rfl) (EqV.struct underlying45 (by kernel_rfl) (by kernel_rfl) ⟨_,_,_,_,rfl,rfl,isAgg42,(gJ underlying42 _ _),⟨_,_,_,_,rfl,rfl,isAgg43,(gJ underlying43 _ _),⟨_,_,_,_,rfl,rfl,isAgg3,(gJ underlying3 _ _),⟨_,_,_,_,rfl,rfl,isAgg3,(gJ underlying3 _ _),rfl,rfl⟩,rfl⟩,rfl⟩,rfl⟩)) ?_;refine ox 2 ?_
   rotate_left
   focus
    refine xx 6 ?_;refine xp 14 ?_ ?_<;>intro g
    focus
     refine rn [4,0] ?_;refine Vg call191 (Zzx _ _ _) ?_;refine kd0 ?_;refine oo 1 ?_;refine bB [19,2,1] ?_;apply Zg 4 23 19 rfl
     . intro a b;have c:=sp a;refine rn [1,0] ?_;refine Vg call119 (Jb _) ?_;refine kd0 ?_;refine oo 1 ?_;exact Zz b ⟨Yi a,Zw⟩
     . intro a b;have c:=sp a;refine oo 4 ?_;exact Zz b ⟨Yl a,Zw⟩
     refine oo 1 ?_;refine bB [24,2,1] ?_;apply Zg 4 28 24 rfl
     . intro a b;have c:=sp a;refine rn [1,0] ?_;refine Vg call121 (Bj _ _ _) ?_;refine kd0 ?_;refine oo 1 ?_;exact Zz b ⟨Yi a,Zw⟩
     . intro a b;have c:=sp a;refine oo 4 ?_;exact Zz b ⟨Yl a,Zw⟩
     refine ox 2 ?_
    rotate_left
    focus
     refine xx 7 ?_
 all_goals
  refine Zq [] func120 (Zf results120 rfl) ⟨_,rfl,cB (by rw [cN,decide_eq_true_iff (p:=okE _)];unfold okE;simp;try omega),rfl⟩
theorem Zxu (hs:Sees q a (t.turns.flatMap tcs)):CallF prog G 60 [t.v a c] (q) (Ret fun v q'=>v= I64 (chk t)/\q'=q):=by
 refine aB func60 ntmps60 rfl fun F cs=> ?_;unfold Tkn.v Tkn.cs;refine xo 2 ?_;refine Zl fun w=> ?_
 refine rn [6,0,3] ?_;refine bB [10,2,1] ?_;apply Zb 5 15 10 rfl
 . intro b j;have d:=sp b;refine rn [1,0] ?_;refine Vg call120 (Zxs t.e) ?_;refine kd0 ?_;refine oo 2 ?_;exact Zz j ⟨orF b,Zw⟩
 . intro b j;have d:=sp b;refine oo 5 ?_;exact Zz j ⟨orT b,Zw⟩
 refine ox 1 ?_;refine xp 15 ?_ ?_<;>intro d
 . refine xx 5 ?_;refine Zq (q) func60 (Zf results60 rfl) ⟨_,rfl,by rw [chk,if_neg (by unfold okT;rintro ⟨x,y,_⟩;rcases d with d|d;omega;exact d y)],rfl⟩
 refine rn [10,0,4] ?_;have hl:t.turns.length<=65536:=by omega
 have he:okE t.e:=d.2;refine aX (cC (fun (s:Nat×Int)=>(s.1<=t.turns.length/\0<=s.2/\s.2<=2147483647)/\(goT none 0 t.turns↔goT (E3 t.turns s.1) s.2 (t.turns.drop s.1))) (fun s=> [(19,I64 (s.1:Int)),(3,I64 s.2),(1,pt w),(17,.slice a t.turns.length c),(18,I64 t.turns.length)]) (fun s=>pto w (.cells (t.cs a c).toArray 47 (0,0))::(q++F)) (fun s=>t.turns.length - s.1) (fun s o z=> ?_) (0,0) ⟨⟨by omega,by omega,by omega⟩,by simp [Gi]⟩) Zn leA;try dsimp only at o z|-
 obtain ⟨⟨d0,c0,b0⟩,r⟩:=o;obtain ⟨i,s⟩:=s;dsimp only at*;have m:=Zx (f:=tcs) (sz:=2) (fun _=>rfl) t.turns;refine xx 5 ?_;refine xp 20 ?_ ?_<;>intro h0
 . have e0:i<t.turns.length:=by omega
   refine xo 7 ?_;refine Ql hs (by rw [m];omega) fun f0 a0 e_=> ?_;subst e_;refine oo 1 ?_;refine Qi (n:=i) isAgg49 sizeOf49 hs (by omega) ?_;refine Zh zeroValue49 fun n2=> ?_
   refine rn [1,0,3,0,1,2] ?_;refine Rl 2 call119 (Jb _) ?_;refine kc0 ?_;refine dd [3,4] ?_;refine XD.sb [28,4,5,19,3,1,17,18] ?_;apply Tc 16 [0,1,2,3,4,5,6,7,8,9,10,11] 35 28 rfl
   . intro b j;have d:=sp b;refine rn [6,7,8,9] ?_;refine Rl 9 call121 (Bj _ _ _) ?_;refine kc0 ?_;refine dd [10,11] ?_;exact V0 j ⟨orF b,Zw⟩
   . intro b j;have d:=sp b;refine dd [5,6,7,8,9,10,11] ?_;exact V0 j ⟨orT b,Zw⟩
   intro L_;refine dd [12] ?_;refine XD.sb [36,4,5,19,3,1,17,18] ?_;apply Tc 0 [0,1,2,3,4,5,6,7,8,9,10,11,12,13,14,15,16,17,18,19,20,21,22,23,24,25,26,27] 51 36 rfl
   . intro b j;have d:=sp b;refine dd [13,14,15] ?_;refine XD.sb [39,36,4,5,19,3,1,17,18] ?_;apply Mc 1 [0,1,2,3,4,5,6,7,8,9,10,11,12,13,14,15,16,17,18,19,20,21,22,23,24,25,26] 50 39 rfl
     . intro l u;have h2:=sp l;refine rn [17,18,19,20,21,22,23,24,25,26,27] ?_;exact V0 u ⟨Yi l,Zw⟩
     . intro l u;have h2:=sp l;refine dd [16,17,18,19,20,21,22,23,24,25,26] ?_;exact V0 u ⟨Yl l,Zw⟩
     intro L_;refine dd [27] ?_;exact V0 j ⟨orF b,Zw⟩
   . intro b j;have d:=sp b;refine dd [13,14,15,16,17,18,19,20,21,22,23,24,25,26,27] ?_;exact V0 j ⟨orT b,Zw⟩
   intro L_;refine jV ?_;refine xp 51 ?_ ?_<;>intro d
   . refine xx 5 ?_;have k:=Xa (p:=E3 t.turns i) (s:=s) (show i<t.turns.length by omega);refine Zq (q) func60 (Zf results60 rfl) ⟨_,rfl,by rw [chk,if_neg];rintro ⟨_,_,g⟩;rw [r,k] at g;obtain ⟨⟨b,l,g3,g4,g5⟩,_⟩:=g;first|omega|(exact g5 (by rw [Lg (by omega) (by omega)];exact aQ some (by omega))),rfl⟩
   refine rn [5,0,8] ?_;have k:=Xa (p:=E3 t.turns i) (s:=s) (show i<t.turns.length by omega);refine aX (z (i+1,s+t.turns[i].2) ⟨⟨by dsimp only;omega,by dsimp only;omega,by dsimp only;omega⟩,r.trans (k.trans ⟨fun h=>h.2,fun h=>⟨⟨by omega,by omega,by omega,by omega,by rcases cW i with e|e;exact (by subst e;simp [Gi]);rw [Lg (by omega) e];simp only [ne_eq,Option.some.injEq];omega⟩,h⟩⟩)⟩ (by dsimp only;omega)) Zn leA
 refine xx 6 ?_;refine Zq (q) func60 (Zf results60 rfl) ⟨_,rfl,by rw [chk,if_pos ⟨hl,he,r.2 (goT_end (by omega))⟩],rfl⟩
end
end Go.Proofs.YtadahhbefdnabaaGreatDoor
namespace Go.Proofs.YtadahhbefdnabaaGreatDoor
open Go Go.RowKit Wx Go.Proofs.Tryz
variable {l m:List Int}{n k p c:Nat}{φ:Prop}{b a:Option Addr}{P:Program}{G:World}{q r:List HP}
def Qf (l:List Int):Int:=l.foldl (fun n x=>(n*33+x) % 4294967296) 5381
theorem Ej (h:n<l.length):Qf (l.take (n+1))=(Qf (l.take n)*33+l[n]) % 4294967296:=by
 unfold Qf;rw [aN h,List.foldl_append];rfl
theorem Gy (l:List Int):0<=Qf l/\Qf l<4294967296:=by
 unfold Qf
 have: ∀ (l:List Int) (n:Int),0<=n/\n<4294967296->0<=l.foldl (fun n x=>(n*33+x) % 4294967296) n/\l.foldl (fun n x=>(n*33+x) % 4294967296) n<4294967296:=by
  intro l
  induction l with
  |nil=>intro n h;exact h
  |cons x r ih=>intro n _;exact ih _ (by dsimp only;omega)
 exact this l 5381 (by omega)
def le4 (n:Int):List Int:= [n % 256,n / 256 % 256,n / 65536 % 256,n / 16777216 % 256]
def J0 (l:List Int):List Int:=l++le4 (Qf l)
def By8 (l:List Int):Prop:= ∀ x∈l,0<=x/\x<=255
theorem By8.app (h:By8 l)(k:By8 m):By8 (l++m):=fun x hx=>(bE.1 hx).elim (h x) (k x)
theorem le4_bs (n:Int):By8 (le4 n):=by
 intro x a;simp only [le4,bG,iH,or_false] at a;omega
theorem O6 (h:By8 l):By8 (J0 l):=h.app (le4_bs _)
theorem le4_take (s:Int)(i:Nat)(h:i<4)(h0:0<=s):(le4 s).take (i+1)=(le4 s).take i++ [(s / 256 ^ i) % 256]:=by
 rcases i with _|_|_|_|i
 . simp [le4]
 . simp [le4]
 . simp [le4]
 . simp [le4]
 omega
theorem pow_step (s:Int)(i:Nat):s / 256 ^ (i+1)=s / 256 ^ i / 256:=by
 rw [Int.pow_succ,Int.ediv_ediv_of_nonneg (Int.pow_nonneg (by omega))]
def vbF:Nat->Nat->List Int
 |0,n=> [(n:Int)]
 |k+1,n=>if n<128 then [(n:Int)] else ((n % 128+128:Nat):Int)::vbF k (n / 128)
def vb (n:Nat):List Int:=vbF 10 n
theorem vbF_low (h:n<128)(hk:0<k):vbF k n= [(n:Int)]:=by
 cases k with
 |zero=>omega
 |succ k=>simp [vbF,h]
theorem vbF_high (h: ¬n<128):vbF (k+1) n=((n % 128+128:Nat):Int)::vbF k (n / 128):=by simp [vbF,h]
theorem vbF_bs (k n:Nat)(h:n<128 ^ k):By8 (vbF k n):=by
 induction k generalizing n with
 |zero=>intro x a;simp [vbF] at a;simp at h;omega
 |succ k ih=>
  intro x a;unfold vbF at a;split at a
  . simp at a;omega
  rw [bG] at a;rcases a with rfl|a
  . omega
  exact ih (n / 128) (by rw [Nat.pow_succ] at h;omega) x a
theorem vbF_len (k n:Nat):1<=(vbF k n).length/\(vbF k n).length<=k+1:=by
 induction k generalizing n with
 |zero=>simp [vbF]
 |succ k ih=>
  unfold vbF;split
  . simp
  have:=ih (n / 128);simp;omega
theorem V9 (n:Nat):1<=(vb n).length/\(vb n).length<=11:=vbF_len 10 n
theorem Ou (n:Nat)(h:n<1180591620717411303424):By8 (vb n):=vbF_bs 10 n (by simpa using h)
def fullB (a:Option Addr)(c:Nat)(l:List Int):HP:=ex fun b=>star (pure (a=some ⟨b,0,none⟩/\c=l.length/\0<l.length)) (ex fun z=>im b (.cells (l.map (Value.int .u8)).toArray 5 z))
def bH (φ:Prop)(a:Option Addr)(c:Nat)(l:List Int):HP:=orH (lsH (Value.int .u8) 5 a c l) (star (pure φ) (fullB a c l))
theorem Sj (φ:Prop)(a:Option Addr)(c:Nat)(l:List Int)(q:List HP):Le (lsH (Value.int .u8) 5 a c l::q) (bH φ a c l::q):=Le.orl _ _ _
theorem Zj7 (hφ:φ){b:Nat}{z:Nat×Nat}(h0:0<l.length)(q:List HP):Le (im b (.cells (l.map (Value.int .u8)).toArray 5 z)::q) (bH φ (some ⟨b,0,none⟩) l.length l::q):=
 .one fun M x p=> .inr ⟨fun _=>none,x,fun _=> .inl rfl,fun _ _ e=>by simp at e,.refl _,hφ,b,fun _=>none,x,fun _=> .inl rfl,fun _ _ e=>by simp at e,.refl _,⟨rfl,rfl,h0⟩,z,p⟩
theorem Zwj {p:PE}{d:Option Tmp}{ty':TypeId}{pos:String}{af:Array Edge}{gd:Option (Nat×Bool)}{x y:Operand}{t:TypeId}{c':Nat}
 (ht:P.underlying t=some (.slice 5)) (hi:(P.info? 5).map (fun i=>(i.zero,i.size,i.bytes))=some (some (.int .u8 0),1,1))
 (hx:evp p x=some (.slice a l.length c)) (hy:evp p y=some (.slice b m.length c')) (hq:Le q (bH φ a c l::r)) (hs:Sees r b (m.map (Value.int .u8))) (hm:0<m.length) (hl:l.length+m.length<=1000000000):
 Ef P G p q ⟨d,.call ⟨.builtin .append, [x,y].toArray, [t,t].toArray⟩,ty',pos,af,gd⟩ fun v q'=> ∃ a' c',v= .slice a' (l++m).length c'/\q'=lsH (Value.int .u8) 5 a' c' (l++m)::r:=by
 intro j w u s;rcases (s.le hq).or_elim with h|h
 . exact Yb (G:=G) (q:=lsH (Value.int .u8) 5 a c l::r) (r:=r) (l:=l) (m:=m) (f:=Value.int .u8) ht hi rfl hx hy (.refl _) hs.there (fun _=>rfl) (by omega) (by omega) j w u h
 have o:=h.le (.split _ _ _);have a0:=o.get_pure;have e:=o.le (.drop _ _);obtain ⟨g,e⟩:=e.get_ex;have k:=e.le (.split _ _ _);obtain ⟨rfl,rfl,h0⟩:=k.get_pure;obtain ⟨z,s5⟩:=(k.le (.drop _ _)).get_ex;obtain ⟨v,w',q',h1,h2,a',c',rfl,rfl⟩:=Lj (P:=P) (G:=G) (d:=d) (ty':=ty') (pos:=pos) (af:=af) (gd:=gd) (n:=l.length) (m:=m.length) (vs:=l.map (Value.int .u8)) (ws:=m.map (Value.int .u8)) ht hi rfl rfl hx hy (by omega) hm h0 (Sees.im r) (by simp) hs.there (by simp) (by omega) (by omega) j w u s5;refine ⟨_,w',_,h1,?_,a',c',by simp,rfl⟩;unfold Wx.lsH;rw [aA,aO];exact h2.le (cG _ (.drop _ _))
section
variable {t u:Tkn}{d:Nat}{l m:List V1}
theorem Zxp (hs:Sees q a (l.flatMap tcs))(hL:l.length<=1000000000):CallF prog G 61 [.slice a l.length c] (q) (Ret fun v q'=> ∃ a' c',v= .slice a' l.length c'/\q'=rsH tcs 2 49 a' c' l::q):=by
 refine aB func61 ntmps61 rfl fun F cs=> ?_;have b:=Zx (f:=tcs) (sz:=2) (fun _=>rfl) l;rcases cW l.length with d|d
 . obtain rfl:=aS d;refine xx 10 ?_;refine cY 4 rfl ?_ ?_<;>intro k
   . refine xx 5 ?_;refine Zq (rsH tcs 2 49 none 0 []::q) func61 (Zf results61 rfl) ⟨_,rfl,none,0,rfl,rfl⟩ ((leA).trans (Zc _ _ _ _))
   refine xo 4 ?_;refine bU (U3 tcs underlying41 My) ?_;rintro _ _ ⟨g,rfl,rfl⟩;refine oo 1 ?_;refine bU (Z4 (l:= []) (m:= []) underlying41 My rfl rfl (fun _=>rfl) rfl rfl Zj (hs.le leA) (fun _=>rfl) (by simp;try omega) (by simp;try omega)) ?_;rintro _ _ ⟨h,e,rfl,rfl⟩;refine ox 2 ?_;refine Zq (rsH tcs 2 49 h e []::q) func61 (Zf results61 rfl) ⟨_,rfl,h,e,by simp,rfl⟩
 refine Z7 hs (by rw [b];omega) fun n j i=> ?_;subst i;refine rn [10,1004,4] ?_;refine bU (U3 tcs underlying41 My) ?_;rintro _ _ ⟨g,rfl,rfl⟩;refine oo 1 ?_;refine bU (Z4 (l:= []) (m:=l) underlying41 My rfl rfl (fun _=>rfl) rfl rfl Zj (hs.le leA) (fun _=>rfl) (by simp;try omega) (by simp;try omega)) ?_;rintro _ _ ⟨h,e,rfl,rfl⟩;refine ox 2 ?_;refine Zq (rsH tcs 2 49 h e l::q) func61 (Zf results61 rfl) ⟨_,rfl,h,e,by simp,rfl⟩
end
section
variable {d:Nat}
theorem Sum_ok (hs:Sees q a (l.map (Value.int .u8)))(hb:By8 l)(hL:l.length<=1000000000):CallF prog G 47 [.slice a l.length c] (q) (Ret fun v q'=>v= .int .u32 (Qf l)/\q'=q):=by
 refine aB func47 ntmps47 rfl fun F cs=> ?_;refine xx 16 ?_;refine aX (cC (fun (s:Nat)=>s<=l.length) (fun s=> [(3,.int .u32 (Qf (l.take s))),(6,.slice a l.length c),(7,I64 l.length),(8,I64 s)]) (fun s=>q++F) (fun s=>l.length - s) (fun s b f=> ?_) 0 (by omega)) Zn leA;try dsimp only at b f|-
 obtain i:=b;refine xx 5 ?_;refine cY 9 rfl ?_ ?_<;>intro d
 . have d:=cU d;have e:s<l.length:=by omega
   refine Z7 hs (by simp;omega) fun j h g=> ?_;subst g;refine rn [7,0,8] ?_;refine aW 16 (.int .u32 (Qf (l.take (s+1)))) rfl (aQ (Value.int .u32) (by rw [Ej e];simp only [wu32];omega)) ?_;refine ox 7 ?_;refine aX (f (s+1) (by omega) (by omega)) Zn leA
 have d:=of_decide_eq_false d;refine xx 7 ?_;refine Zq (q) func47 (Zf results47 rfl) ⟨_,rfl,by rw [bQ (by omega)],rfl⟩
theorem RSum_ok (hs:Sees q a (l.map (Value.int .u8)))(hb:By8 l)(hL:l.length<=1000000000):CallF prog G 48 [.slice a l.length c] (q) (Ret fun v q'=>v= .int .u32 (Qf l)/\q'=q):=by
 refine aB func48 ntmps48 rfl fun F cs=> ?_;refine xx 14 ?_;refine aX (cC (fun (s:Nat)=>s<=l.length) (fun s=> [(3,I64 (Qf (l.take s))),(0,.slice a l.length c),(4,I64 s)]) (fun s=>q++F) (fun s=>l.length - s) (fun s b f=> ?_) 0 (by omega)) Zn leA;try dsimp only at b f|-
 obtain k:=b;refine xx 8 ?_;refine cY 8 rfl ?_ ?_<;>intro e
 . have e:=cU e;have d:s<l.length:=by omega
   refine Z7 hs (by simp;omega) fun m i h=> ?_;subst h;have g:=Gy (l.take s);have j:=hb l[s] (aC d);refine rn [10,0,3] ?_;refine aW 19 (I64 (Qf (l.take (s+1)))) rfl (aQ (Value.int .i64) (by rw [Ej d,Int.tmod_eq_emod_of_nonneg (by omega)];omega)) ?_;refine ox 8 ?_;refine aX (f (s+1) (by omega) (by omega)) Zn leA
 have e:=of_decide_eq_false e;refine xx 8 ?_;have g:=Gy l;refine Zq (q) func48 (Zf results48 rfl) ⟨_,rfl,aQ (Value.int .u32) (by rw [bQ (by omega),wu32];omega),rfl⟩
end
open Go Go.RowKit Wx Go.Proofs.Tryz
theorem or128 {x:Int}(h:0<=x)(h2:x<256):IntKind.u8.wrap ((BitVec.ofInt IntKind.u8.bits x|||BitVec.ofInt IntKind.u8.bits 128).toNat:Int)=x % 128+128:=by
 have a: ∀ k:Fin 256,IntKind.u8.wrap ((BitVec.ofInt IntKind.u8.bits (k.val:Int)|||BitVec.ofInt IntKind.u8.bits 128).toNat:Int)=(k.val:Int) % 128+128:=by decide
 have:=a ⟨x.toNat,by omega⟩;simpa [Int.toNat_of_nonneg h] using this
theorem pow128 {m:Nat}(h:m<128 ^ k)(hm: ¬m<128): ∃ j,k=j+2/\m / 128<128 ^ (j+1):=by
 rcases k with _|_|k
 . simp at h;omega
 . simp at h;omega
 exact ⟨k,rfl,by rw [Nat.pow_succ] at h;omega⟩
def wrB (p:Nat)(l:List Int):HP:=ex fun z:Option Addr×Nat=>stars [pto p (.cells [.slice z.1 (l).length z.2].toArray 230 (0,0)),bH True z.1 z.2 l]
def wrO (p:Nat)(l:List Int):HP:=ex fun z:Option Addr×Nat=>stars [pto p (.cells [.slice z.1 (l).length z.2].toArray 230 (0,0)),lsH (Value.int .u8) 5 z.1 z.2 l]
theorem R6 (h:Le q (pto p (.cells [.slice a (l).length c].toArray 230 (0,0))::lsH (Value.int .u8) 5 a c l::r)):Le q (wrO p l::r):=h.trans (Wa (a,c) (Zm [_,_] r))
theorem wrB_in (h:Le q (pto p (.cells [.slice a (l).length c].toArray 230 (0,0))::bH True a c l::r)):Le q (wrB p l::r):=h.trans (Wa (a,c) (Zm [_,_] r))
theorem Qm (h:Le q (wrO p l::r)):Le q (wrB p l::r):=
 h.trans (Le.of_ex fun z=>(Zy _ r).trans (wrB_in (cG _ (Sj _ _ _ _ _))))
section
variable {f:Fc}{Q:Yw}{k:List Item}{p0:PE}{ds:List Deferred}{cs:List Frame}
theorem X.wrB (x: ∀ a c,X P G f Q k p0 ds cs (pto p (.cells [.slice a (l).length c].toArray 230 (0,0))::bH True a c l::r))(hq:Le q (Go.Proofs.YtadahhbefdnabaaGreatDoor.wrB p l::r):=by exact Zj):X P G f Q k p0 ds cs q:= .le hq (.ex fun z=> .le (Zy _ r) (x _ _))
theorem X.wrO (x: ∀ a c,X P G f Q k p0 ds cs (pto p (.cells [.slice a (l).length c].toArray 230 (0,0))::lsH (Value.int .u8) 5 a c l::r))(hq:Le q (Go.Proofs.YtadahhbefdnabaaGreatDoor.wrO p l::r):=by exact Zj):X P G f Q k p0 ds cs q:= .le hq (.ex fun z=> .le (Zy _ r) (x _ _))
theorem XO.wrO {ops lo:List Oper}(x: ∀ a c,XO P G f Q ops.toArray k lo p0 ds cs (pto p (.cells [.slice a (l).length c].toArray 230 (0,0))::lsH (Value.int .u8) 5 a c l::r))(hq:Le q (Go.Proofs.YtadahhbefdnabaaGreatDoor.wrO p l::r):=by exact Zj):XO P G f Q ops.toArray k lo p0 ds cs q:= .le hq (.ex fun z=> .le (Zy _ r) (x _ _))
end
section
variable {k:Int}
theorem S3 (hn:n<9223372036854775808)(hl:l.length<=500000000):CallF prog G 184 [.pointer (some ⟨p,0,none⟩),.int .u64 (n:Int)] (wrB p l::q) (Ret fun v q'=>q'=wrO p (l++vb n)::q):=by
 refine aB func184 ntmps184 rfl fun F cs=> ?_;refine X.wrB fun a c=> ?_
 refine xx 2 ?_;refine aX (cC (fun (s:(Nat×Nat)×List Int×Option Addr×Nat)=>s.1.2<128 ^ s.1.1/\s.1.2<9223372036854775808/\s.2.1++vbF s.1.1 s.1.2=l++vb n/\1<=s.1.1) (fun s=> [(0,.pointer (some ⟨p,0,none⟩)),(1,.int .u64 (s.1.2:Int))]) (fun s=>pto p (.cells [.slice s.2.2.1 (s.2.1).length s.2.2.2].toArray 230 (0,0))::bH True s.2.2.1 s.2.2.2 s.2.1::(q++F)) (fun s=>s.1.2) (fun s e o=> ?_) ((10,n),l,a,c) ⟨by dsimp only;omega,hn,rfl,by dsimp only;omega⟩) Zn leA;try dsimp only at e o|-
 obtain ⟨x,h2,f,z⟩:=e;obtain ⟨⟨k,m⟩,d,a,c⟩:=s;dsimp only at*;have r:=V9 n;have t:d.length<=900000000:=by have:=aQ List.length f;rw [aA,aA] at this;omega
 refine xx 6 ?_;refine cY 5 rfl ?_ ?_<;>intro g
 . have g:=cU g;refine rn [10,0,3] ?_;obtain ⟨j,rfl,w⟩:=pow128 x (by omega);refine aW 14 (.int .u8 ((m % 128+128:Nat):Int)) rfl (aQ (Value.int .u8) (by rw [or128 (by rw [wu8];omega) (by rw [wu8];omega),wu8];omega)) ?_;refine bU (Uk (u:=((m % 128+128:Nat):Int)) (Value.int .u8) underlying88 Va rfl rfl) ?_;rintro _ _ ⟨y,rfl,rfl⟩;refine bU (Zwj (l:=d) (m:= [((m % 128+128:Nat):Int)]) underlying88 Va rfl rfl Zj ((bY _).le leA) (by simp) (by simp only [aA,aJ,aT];omega)) ?_;rintro _ _ ⟨i,h,rfl,rfl⟩;refine rn [3,0,4] ?_;refine aW 21 (.int .u64 ((m / 128:Nat):Int)) rfl (aQ (Value.int .u64) (by rw [show (2:Int) ^ min (Int.toNat 7) IntKind.u64.bits=128 from rfl,Int.fdiv_eq_ediv_of_nonneg _ (by omega)];rfl)) ?_;refine ox 3 ?_;refine aX (o ((j+1,m / 128),d++ [((m % 128+128:Nat):Int)],i,h) ⟨w,by dsimp only;omega,by rw [vbF_high (k:=j+1) (by omega)] at f;dsimp only;rw [aK];exact f,by dsimp only;omega⟩ (by dsimp only;omega)) Zn (bD Zj (aM (b:=lsH (Value.int .u8) 5 i h (d++ [((m % 128+128:Nat):Int)])::_) Zj (aM (Sj True _ _ _ _) leA)))
 have g:=of_decide_eq_false g;refine rn [8,0,2] ?_;refine aW 29 (.int .u8 (m:Int)) rfl (aQ (Value.int .u8) (by rw [wu8];omega)) ?_;rw [vbF_low (by omega) (by omega)] at f;refine bU (Uk (u:=(m:Int)) (Value.int .u8) underlying88 Va rfl rfl) ?_;rintro _ _ ⟨y,rfl,rfl⟩;refine bU (Zwj (l:=d) (m:= [(m:Int)]) underlying88 Va rfl rfl Zj ((bY _).le leA) (by simp) (by simp only [aA,aJ,aT];omega)) ?_;rintro _ _ ⟨i,h,rfl,rfl⟩;rw [f];refine rn [3,0,1] ?_;refine Zr (wrO p (l++vb n)::q) func184 (Yy results184) ⟨_,rfl,rfl⟩ (R6 leA)
theorem We (hn:n<9223372036854775808)(hl:l.length<=500000000):CallF prog G 103 [.pointer (some ⟨p,0,none⟩),I64 n] (wrB p l::q) (Ret fun v q'=>q'=wrO p (l++vb n)::q):=by
 refine aB func103 ntmps103 rfl fun F cs=> ?_;refine xo 4 ?_;refine aW 6 (.int .u64 (n:Int)) rfl (aQ (Value.int .u64) (by rw [wu64];omega)) ?_;refine Zv call184 (aH _) (S3 hn hl) ?_;rintro _ _ rfl;refine ox 1 ?_;refine Zr (wrO p (l++vb n)::q) func103 (Yy results103) ⟨_,rfl,rfl⟩
def sgU (k:Int):Nat:=(if k<0 then -2*k - 1 else 2*k).toNat
theorem Jq (hk: -4611686018427387903<=k/\k<=4611686018427387903)(hl:l.length<=500000000):CallF prog G 101 [.pointer (some ⟨p,0,none⟩),I64 k] (wrB p l::q) (Ret fun v q'=>q'=wrO p (l++vb (sgU k))::q):=by
 refine aB func101 ntmps101 rfl fun F cs=> ?_;obtain ⟨N,a⟩:=lM (sgU k);rw [<-a];unfold sgU at a;refine xx 6 ?_;refine xp 5 ?_ ?_<;>intro b
 . rw [if_pos (by omega)] at a;refine xo 8 ?_;refine aW 10 (.int .u64 (N:Int)) rfl (aQ (Value.int .u64) (by rw [a,wu64];omega)) ?_;refine Zv call184 (aH _) (S3 (n:=N) (by omega) hl) ?_;rintro _ _ rfl;refine ox 1 ?_;refine Zq (wrO p (l++vb N)::q) func101 (Yy results101) ⟨_,rfl,rfl⟩
 rw [if_neg (by omega)] at a;refine xo 7 ?_;refine aW 15 (.int .u64 (N:Int)) rfl (aQ (Value.int .u64) (by rw [a,wu64];omega)) ?_;refine Zv call184 (aH _) (S3 (n:=N) (by omega) hl) ?_;rintro _ _ rfl;refine ox 1 ?_;refine Zr (wrO p (l++vb N)::q) func101 (Yy results101) ⟨_,rfl,rfl⟩
end
end Go.Proofs.YtadahhbefdnabaaGreatDoor
