/- Contracts. -/
import Derived.Test.YtadahhbefdnabaaGreatDoorVf
import Derived.LaidMore
import Derived.ProofKit
set_option maxHeartbeats 16000000
set_option maxRecDepth 100000
set_option linter.all false
namespace Go.Proofs.YtadahhbefdnabaaGreatDoor
open Go Go.RowKit Wx Go.Proofs.Tryz
attribute [local irreducible] lsH rsH stars
variable {m:List Stm}{t:Cod}{G:World}{q r:List HP}{a b:Option Addr}{A K B:List (Ins×Int)}{c:Cn}{d:PDec}{p i n s o pp N ab ao ec:Nat}{lo:Bool}{hi cd ot k sl ln l0 u op:Int}{l el:List Ex}{f F:Fnd}{nm:ByteArray}{P:List PStm->Prop}{ds:List PDec}
def X0 (m:Mdl):List Cod->Int
 | []=>0
 |t::r=>if (dOf m t).2≠0 then (dOf m t).2 else X0 m r
def Ho (m:Mdl):Int:=if Zqp m≠0 then Zqp m else X0 m m.threads
def Zgp {m}(h:Zqp m=0)(ht:t∈m.threads):(∀ x∈t.ins,M3 x)/\t.ins.length<=65536:=by
 have a:=(Bf.1 h).2.2.2.2.2.2 t ht;exact ⟨a.2.2.2.1.2,by have:=a.2.2.2.1.1;omega⟩
section
variable {pre:List HP}{A:Option Addr}{c d C p0 p1 p2:Nat}{lo n dep:Int}{fv:Value}{x y:Ins}{m:Mdl}{at_:Int}
variable {pm om pth ot n:Nat}{th:Int}
def Xn (gc:GC q)(g:GE q)(hq:MdlQ q m):CR G 111 [.agg (J0 m).toArray] (q) (I64 (Ho m)):=by
 refine aE ntmps111 fun F cs=> ?_;have v:=hq.nt;refine Yb fun n=> ?_
 refine Zz ?_;apply bD (Zvu (gc.le leA) (hq.le leA));refine Zp ?_ ?_<;>intro y
 . refine Zm (q) ?_;exact ⟨_,rfl,by unfold Ho;rw [if_pos Zq],rfl⟩
 refine Zs (bW (fun (s:Nat)=>s<=m.threads.length/\X0 m m.threads=X0 m (m.threads.drop s)) (fun s=> [(15,I64 s),(14,I64 m.threads.length),(1,pt n),(2,I64 0)]) (fun s=>pC n _ 109::(q++F)) (fun s=>m.threads.length - s) (fun s e o=> ?_) 0 ⟨aZ _,rfl⟩);try dsimp only at e o|-
 refine Zp ?_ ?_<;>intro y
 . have a:s<m.threads.length:=Zq;have ⟨l,w⟩:=Zgp Zq (aC a);have b:X0 m (m.threads.drop s)=if (dOf m m.threads[s]).2≠0 then (dOf m m.threads[s]).2 else X0 m (m.threads.drop (s+1)):=by rw [aP a];rfl
   refine Zz ?_;refine J9 hq.t (by rw [Zx (sz:=4) (fun _=>rfl) m.threads];omega) fun z r p=> ?_;have c:=hq.t;rw [p] at c;refine aX 20 _ rfl (by rw [p])<|Zz ?_;apply Zv (aG _) (Zkz (g.le leA) (dK V2) (eX (j:=(s:Int)) c leA (fun _=>rfl) a Zq) ((hq.x _ (aC a)).le leA) l w);rintro _ _ (⟨h,rfl,rfl⟩|⟨h,a1,c1,rfl,rfl⟩)
   . apply ox 11;refine iJ 27 ?_ rfl (by rw [jI];exact h);refine Zm (q) ?_;exact ⟨_,rfl,by unfold Ho;rw [if_neg Zq,e.2,b,if_pos h],rfl⟩
   refine Zs (o (s+1) ⟨Zq,by rw [e.2,b,if_neg Zq]⟩ Zq)
 refine Zm (q) ?_;exact ⟨_,rfl,by unfold Ho;rw [if_neg Zq,e.2,cN Zq];rfl,rfl⟩
end
mutual
def PEx.sz:PEx->Nat
 | .mk _ _ _ _ _ _ args=>Uv args+1
def Uv:List PEx->Nat
 | []=>0
 |e::r=>e.sz+Uv r
end
mutual
def Yk: ∀ (e:Ex),e.er.sz=e.sz
 | .mk _ _ _ _ _ _ args _ _=>by simp [Ex.er,PEx.sz,Ex.sz,I2 args]
def I2: ∀ (l:List Ex),Uv (Yj l)=Wo l
 | []=>rfl
 |e::r=>by simp [Yj,Uv,Wo,Yk e,I2 r]
end
mutual
/-- What an expression that may be is like. -/
def PEx.fit:PEx->Prop
 | .mk k n _ _ _ op args=>(1<=k/\k<=6)/\args.length=Ra k/\(k=1->0<=n/\n<=2147483647)/\(k=6->1<=op/\op<=11)/\PEx.fits args
def PEx.fits:List PEx->Prop
 | []=>True
 |e::r=>e.fit/\PEx.fits r
end
theorem Ua {x}: ∀ {l},PEx.fits l->x∈l->x.fit
 |y::r,⟨h1,h2⟩,h=>by
  rcases bS.1 h with rfl|h
  . exact h1
  exact Ua h2 h
mutual
def Tw: ∀ {e:PEx} {d},e.right d=true->e.fit
 | .mk k n nm _ _ op args,d,h=>by
  simp only [PEx.right] at h;split at h
  . cases h
  split at h
  . rename_i a;rw [bA,bA,dQ] at h;have ⟨⟨f,c⟩,b⟩:=h;refine ⟨a,c,fun h=> ?_,fun h=> ?_,B4 b⟩
    all_goals grind [partS]
  cases h
def B4: ∀ {l} {d},Ws l d=true->PEx.fits l
 | [],_,_=>trivial
 |e::r,d,h=>by
  simp [Ws] at h;exact ⟨Tw h.1,B4 h.2⟩
end
mutual
def PEx.plain:PEx->Bool
 | .mk k _ _ _ _ _ args=>if k=2\/k=3 then false else Qy args
def Qy:List PEx->Bool
 | []=>true
 |e::r=>e.plain && Qy r
end
mutual
/-- What an expression without names is worth, and its trap. -/
def PEx.ev:PEx->Int×Int
 | .mk k n _ _ _ op args=>
  if k=1 then (n,0)
  else if ((PEx.evs args).getD 0 (0,0)).2≠0 then (PEx.evs args).getD 0 (0,0)
  else if k=4 then Uf 8 0 ((PEx.evs args).getD 0 (0,0)).1
  else if k=5 then (He (((PEx.evs args).getD 0 (0,0)).1==0),0)
  else if (op=1/\((PEx.evs args).getD 0 (0,0)).1≠0)\/(op=2/\((PEx.evs args).getD 0 (0,0)).1=0) then (He (op==1),0)
  else if ((PEx.evs args).getD 1 (0,0)).2≠0 then (PEx.evs args).getD 1 (0,0)
  else if op<=2 then (He (((PEx.evs args).getD 1 (0,0)).1 !=0),((PEx.evs args).getD 1 (0,0)).2)
  else Uf op ((PEx.evs args).getD 0 (0,0)).1 ((PEx.evs args).getD 1 (0,0)).1
def PEx.evs:List PEx->List (Int×Int)
 | []=> []
 |e::r=>e.ev::PEx.evs r
end
theorem Jk (b:Bool):val (He b):=by cases b<;>decide
theorem Zzo (op a b:Int):val (Uf op a b).1:=by
 unfold Uf;split;exact Jk _;split;exact Jk _;split;exact Jk _;split;exact Jk _;grind
mutual
def Kl: ∀ {e:PEx},e.fit->val e.ev.1
 | .mk k n nm _ _ op args,⟨hk,h1,h2,h3,h4⟩=>by
  have b:=C4 h4
  have a: ∀ i,val ((PEx.evs args).getD i (0,0)).1:=fun i=>by
   grind
  grind [PEx.ev,Zzo,Jk]
def C4: ∀ {l},PEx.fits l-> ∀ x∈PEx.evs l,val x.1
 | [],_,x,h=>by cases h
 |e::r,⟨h1,h2⟩,x,h=>by
  rcases bS.1 h with rfl|h
  . exact Kl h1
  exact C4 h2 x h
end
def PEx.one (e:PEx):Bool:=e.plain && e.ev.2==0
mutual
def PEx.code:PEx->Int->List Ins
 | .mk k n nm slot loc op args,at_=>
  if (PEx.one (.mk k n nm slot loc op args))=true then [⟨1,0,0,(PEx.ev (.mk k n nm slot loc op args)).1⟩]
  else if k=2 then [⟨if loc=true then 3 else 2,slot,0,0⟩]
  else if k=1 then [⟨1,0,0,n⟩]
  else
   let a:=(PEx.codes args).getD 0 (fun _=> []) at_
   if k=6/\op<=2 then
    let b:=(PEx.codes args).getD 1 (fun _=> []) (at_+a.length+1)
    a++ [⟨if op=2 then 20 else 21,at_+a.length+1+b.length+2,0,0⟩]++b++ [⟨22,0,0,0⟩,⟨19,at_+a.length+1+b.length+2+1,0,0⟩,⟨1,0,0,2 - op⟩]
   else if k=3 then a++ [⟨4,slot,0,0⟩]
   else if k=4 then a++ [⟨8,0,0,0⟩]
   else if k=5 then a++ [⟨9,0,0,0⟩]
   else a++(PEx.codes args).getD 1 (fun _=> []) (at_+a.length)++ [⟨op+7,0,0,0⟩]
def PEx.codes:List PEx->List (Int->List Ins)
 | []=> []
 |e::r=>e.code::PEx.codes r
end
def Ed: ∀ (l:List PEx),PEx.codes l=l.map PEx.code
 | []=>rfl
 |e::r=>by rw [PEx.codes,Ed r,bG]
def C5: ∀ (l:List PEx),PEx.evs l=l.map PEx.ev
 | []=>rfl
 |e::r=>by rw [PEx.evs,C5 r,bG]
theorem Du {l}(h:i<l.length):(l[i]).sz<=Uv l:=by
 induction l generalizing i<;>grind [Uv]
mutual
theorem Z1: ∀ (e:PEx) (a:Int),(e.code a).length<=4*e.sz
 | .mk k n nm slot loc op args,a=>by
  have c: ∀ a b,((PEx.codes args).getD 0 (fun _=> []) a).length+((PEx.codes args).getD 1 (fun _=> []) b).length<=4*Uv args:=Ob args;have d: ∀ a,((PEx.codes args).getD 0 (fun _=> []) a).length<=4*Uv args:=fun a=>by have:=c a 0;omega
  simp only [PEx.code,PEx.sz];split;(simp [];omega);split;(simp [];omega);split;(simp [];omega);have f:=d a;split
  . have:=c a (a+(((PEx.codes args).getD 0 (fun _=> []) a).length:Int)+1);grind
  split;(simp only [aA,aJ,aT];omega)
  split;(simp only [aA,aJ,aT];omega)
  split;(simp only [aA,aJ,aT];omega)
  have:=c a (a+(((PEx.codes args).getD 0 (fun _=> []) a).length:Int));grind
theorem Ob: ∀ (l:List PEx) (a b:Int),((PEx.codes l).getD 0 (fun _=> []) a).length+((PEx.codes l).getD 1 (fun _=> []) b).length<=4*Uv l
 | [],a,b=>by simp [PEx.codes]
 | [e],a,b=>by simp_all [Z1,PEx.codes,Uv]
 |e::x::r,a,b=>by have d:=Z1 e a;have c:=Z1 x b;simp [PEx.codes,Uv];omega
end
def lnd (l:List Ins)(ln:Int):List (Ins×Int):=l.map fun i=>(i,ln)
def intoS (slot:Int)(loc:Bool):Ins:=⟨if loc=true then 6 else 5,slot,0,0⟩
def Vr (main t:Int):Int:=if t=main then 0 else if t<main then t+1 else t
def Js (k:Int)(e ix:PEx)(id at_:Int):List Ins:=
 let c1:List Ins:=if k=3 then [⟨23,id,0,0⟩]++ix.code (at_+1) else [⟨23,id,0,0⟩]
 if k<=5\/k=11\/k=15 then c1++e.code (at_+c1.length) else c1
def V7 (main k slot other:Int)(loc:Bool):List Ins:=
 if k=1\/k=2 then [intoS slot loc] else if k=3 then [⟨7,slot,0,0⟩] else if k=6 then [⟨24,slot,0,0⟩] else if k=7 then [⟨25,slot,0,0⟩]
 else if k=8 then [⟨26,slot,other,0⟩] else if k=9 then [⟨27,slot,0,0⟩] else if k=10 then [⟨28,slot,0,0⟩] else if k=11 then [⟨29,slot,0,0⟩]
 else if k=12 then [⟨30,slot,0,0⟩,intoS other loc] else if k=13 then [⟨31,Vr main slot,0,0⟩] else if k=14 then [⟨32,0,0,0⟩] else [⟨33,0,0,0⟩]
mutual
def PStm.code (main:Int):PStm->Int->List (Ins×Int)
 | .mk k ln _ _ _ e ix body els id slot other loc,at_=>
  let c:=Js k e ix id at_
  if k=4 then
   let b:=PStm.codes main body (at_+c.length+1)
   let n:Int:=at_+c.length+1+b.length
   if els= [] then lnd (c++ [⟨20,n,0,0⟩]) ln++b
   else
    let o:=PStm.codes main els (n+1)
    lnd (c++ [⟨20,n+1,0,0⟩]) ln++b++lnd [⟨19,n+1+o.length,0,0⟩] ln++o
  else if k=5 then
   let b:=PStm.codes main body (at_+c.length+1)
   lnd (c++ [⟨20,at_+c.length+1+b.length+1,0,0⟩]) ln++b++lnd [⟨19,at_,0,0⟩] ln
  else lnd (c++V7 main k slot other loc) ln
def PStm.codes (main:Int):List PStm->Int->List (Ins×Int)
 | [],_=> []
 |s::r,at_=>s.code main at_++PStm.codes main r (at_+(s.code main at_).length)
end
def Yz (main:Int)(t:PTh):List (Ins×Int):=PStm.codes main t.body 0++lnd [⟨34,0,0,0⟩] 0
mutual
/-- How much code a statement makes at most. -/
def PStm.wt:PStm->Nat
 | .mk _ _ _ _ _ e ix body els _ _ _ _=>4*e.sz+4*ix.sz+6+Za body+Za els
def Za:List PStm->Nat
 | []=>0
 |s::r=>s.wt+Za r
end
mutual
/-- What a statement that was found is like. -/
def PStm.fit:PStm->Prop
 | .mk k _ _ _ _ e ix body els _ slot _ _=>(1<=k/\k<=15)/\(k<=5\/k=11\/k=15->e.fit)/\(k=3->ix.fit)/\(k=13->0<=slot/\slot<=1000000)/\PStm.fits body/\PStm.fits els
def PStm.fits:List PStm->Prop
 | []=>True
 |s::r=>s.fit/\PStm.fits r
end
def preS_len (k:Int)(e ix:PEx)(id t:Int):(Js k e ix id t).length<=4*e.sz+4*ix.sz+1:=by
 grind [Z1,Js]
def Zfi (m k s o:Int)(l:Bool):(V7 m k s o l).length<=2:=by unfold V7;repeat' split<;>try (simp only [aJ,aT];omega)
theorem Yx (l:List Ins)(n:Int):(lnd l n).length=l.length:=by simp [lnd]
mutual
theorem Ox (m:Int): ∀ (s:PStm) (t:Int),(s.code m t).length<=s.wt
 | .mk k ln _ _ _ e ix body els id slot other loc,t=>by
  have d:=preS_len k e ix id t;have c:=Wp m body;have b:=Wp m els;have a:=Zfi m k slot other loc;grind [PStm.code,PStm.wt,Yx]
theorem Wp (m:Int): ∀ (l:List PStm) (t:Int),(PStm.codes m l t).length<=Za l
 | [],_=>by simp [PStm.codes]
 |s::r,t=>by have b:=Ox m s t;have a:=Wp m r (t+((s.code m t).length:Int));simp [PStm.codes,Za];omega
end
theorem Uh (l:List Ins)(n:Int):(lnd l n).map Prod.fst=l:=by simp [lnd,Function.comp_def]
def B3 (m:Int): ∀ (l r:List PStm) (t:Int),PStm.codes m (l++r) t=PStm.codes m l t++PStm.codes m r (t+(PStm.codes m l t).length)
 | [],r,t=>by simp [PStm.codes]
 |s::l,r,t=>by
  simp only [bN,PStm.codes,B3 m l r _,aO,aA];congr 3;omega
theorem Gh: ∀ (l r:List PStm),Za (l++r)=Za l+Za r
 | [],r=>by simp [Za]
 |s::l,r=>by simp [Za,Gh l r];omega
theorem Gb (h:s<m.length):Zk (m.take (s+1))=Zk (m.take s)++ [m[s].er]:=by rw [aM h,Ns];rfl
def Zk4 (h:s<m.length):Za (Zk (m.take s))+m[s].er.wt<=Za (Zk m):=by
 have a:Zk m=Zk (m.take (s+1))++Zk (m.drop (s+1)):=by rw [<-Ns,dJ]
 grind [Gh,Gb,Za]
def Ui (main:Int)(l:List PTh)(i:Nat):List PTh:=match l with
 | []=> []
 |t::r=>if (i:Int)=main then Ui main r (i+1) else t::Ui main r (i+1)
def V4 (F:Fnd):List PTh:=F.ths.getD F.main.toNat ⟨em,0, []⟩::Ui F.main F.ths 0
def Cu (main:Int): ∀ (l:List PTh) (i:Nat),(Ui main l i).length<=l.length
 | [],i=>aS _
 |x::r,i=>by have:=Cu main r (i+1);simp only [Ui];split<;>simp [aJ]<;>omega
def thP (main:Int)(t:PTh):ByteArray×Int×List Ins×List Int:=(t.nm,t.loc,(Yz main t).map Prod.fst,(Yz main t).map Prod.snd)
def Bq (main:Int)(t:PTh):(Yz main t).length<=Za t.body+1:=by
 grind [Yz,Yx,Wp]
structure ModOf (F:Fnd) (m:Mdl):Prop where
 v:m.vars=F.vars
 a:m.arrays=F.arrs
 c:m.chans=F.chs
 mu:m.mutexes=F.mu
 co:m.conds=F.co
 t:m.threads.map (fun x=>(x.name,x.locals,x.ins,x.lines))=(V4 F).map (thP F.main)
theorem Hh (main:Int){x}: ∀ (l:List PTh) (i:Nat),x∈Ui main l i->x∈l
 |y::r,i,h=>by
  simp [Ui] at h;split at h
  . exact bQ _ (Hh main r _ h)
  rcases bS.1 h with rfl|h
  . exact bO
  exact bQ _ (Hh main r _ h)
def mods_b {l:List Th}{main}{mn}{T:List Cod}(hn: ∀ x∈l,x.nm.size<=9223372036854775807)(ht: ∀ x∈l,Za (Zk x.body)<=999999999)(hmn:mn<l.length)
 (h:T.map (fun x=>(x.name,x.locals,x.ins,x.lines))=thP main (l[mn]).er::(Ui main (l.map Th.er) 0).map (thP main)): ∀ x∈T,x.name.size<=9223372036854775807/\x.ins.length<=9223372036854775807/\x.lines.length<=9223372036854775807:=by
 intro x j;have a:(fun x:Cod=>(x.name,x.locals,x.ins,x.lines)) x∈thP main (l[mn]).er::(Ui main (l.map Th.er) 0).map (thP main):=by grind
 have g: ∃ y∈l,(x.name,x.locals,x.ins,x.lines)=thP main y.er:=by
  rcases bS.1 a with a|a
  . grind
  have ⟨p,c,e⟩:=cF.1 a;have ⟨y,b,o⟩:=cF.1 (Hh main _ _ c);grind
 have ⟨y,b,e⟩:=g;unfold thP at e;simp [iM] at e;obtain ⟨i, -,n,m⟩:=e;have k:=ht y b;have d:(Yz main y.er).length<=1000000000:=dO (Bq main y.er) (by show Za (Zk y.body)+1<=_;omega);refine ⟨by rw [i];exact hn y b,by grind,by grind⟩
theorem Jc {w}(hw:w≠0):(f.fl w).flaw≠0:=by
 grind [Fnd.fl]
def Fw {g:Fnd}(h:((g.loc1 nm).loc2).flaw=0):(g.loc1 nm).loc2=g/\g.locals<32/\g.flaw=0:=by
 grind [Fnd.loc1,Jc,Fnd.loc2]
structure Cn.le (c d:Cn):Prop where
 v:c.v<=d.v
 a:c.a<=d.a
 mu:c.mu<=d.mu
 co:c.co<=d.co
 ch:c.ch<=d.ch
 th:c.th<=d.th
structure NmOk (c:Cn) (lo:Int) (x:Nm):Prop where
 z:0<=x.s
 v:x.k=1->x.s<c.v
 a:x.k=2->x.s<c.a
 mu:x.k=3->x.s<c.mu
 co:x.k=4->x.s<c.co
 ch:x.k=5->x.s<c.ch
 th:x.k=6->x.s<c.th
 lo:x.k=100->x.s<lo
def NmOk.up {d}{lo}{x}(h:NmOk c lo x)(hc:c.le d)(hl:lo<=hi):NmOk d hi x:=by
 have ⟨a,r,q,p,o,n,m,l⟩:=h;have ⟨k,j,i,g,f,b⟩:=hc;exact ⟨a,fun e=>by omega,fun e=>by omega,fun e=>by omega,fun e=>by omega,fun e=>by omega,fun e=>by omega,fun e=>by omega⟩
def Cn.le_refl (c:Cn):c.le c:=⟨bI _,bI _,bI _,bI _,bI _,bI _⟩
def vaOk (c:Cn)(lo:Int)(s:Int)(l:Bool):Prop:=0<=s/\(if l=true then s<lo else s<c.v)
mutual
def PEx.wl (c:Cn)(lo:Int):PEx->Prop
 | .mk k _ _ slot loc _ args=>(k=2->vaOk c lo slot loc)/\(k=3->0<=slot/\slot<c.a)/\Dp c lo args
def Dp (c:Cn)(lo:Int):List PEx->Prop
 | []=>True
 |e::r=>e.wl c lo/\Dp c lo r
end
def vaOk.up {lo}{s}{l}(h:vaOk c lo s l)(hl:lo<=hi):vaOk c hi s l:=by
 grind [vaOk]
mutual
def Tt {c}{lo hi}(hl:lo<=hi): ∀ {e:PEx},e.wl c lo->e.wl c hi
 | .mk ..,⟨h1,h2,h3⟩=>⟨fun k=>(h1 k).up hl,h2,It hl h3⟩
def It {c}{lo hi}(hl:lo<=hi): ∀ {l},Dp c lo l->Dp c hi l
 | [],_=>trivial
 |_::_,⟨h1,h2⟩=>⟨Tt hl h1,It hl h2⟩
end
theorem Fnd.wants_ok {s}{a b}(h:(f.wants s a b).1.flaw=0):(f.wants s a b).1=f/\ ∃ x∈f.names,(x.k=a\/x.k=b)/\(f.wants s a b).2=(x.k,x.s):=by
 unfold Fnd.wants at h|-;have c:f.at s<=f.names.length:=Bp;grind [Jc]
abbrev gR:=@Fnd.wants_ok
mutual
def Q6: ∀ (e:PEx) (f:Fnd),(f.expr e).2.sz=e.sz/\(f.expr e).2.dep=e.dep/\(e.fit->(f.expr e).2.fit)
 | .mk k n nm slot loc op args,f=>by
  simp [Fnd.expr];split
  . have ⟨j,i,h,g⟩:=Kf args (f.wants nm 1 100).1;exact ⟨by simp [PEx.sz,j],by simp [PEx.dep,i],fun ⟨a,b,c,d,e⟩=>⟨a,h.trans b,c,d,g e⟩⟩
  split
  . have ⟨j,i,h,g⟩:=Kf args (f.wants nm 2 2).1;exact ⟨by simp [PEx.sz,j],by simp [PEx.dep,i],fun ⟨a,b,c,d,e⟩=>⟨a,h.trans b,c,d,g e⟩⟩
  have ⟨j,i,h,g⟩:=Kf args f;exact ⟨by simp [PEx.sz,j],by simp [PEx.dep,i],fun ⟨a,b,c,d,e⟩=>⟨a,h.trans b,c,d,g e⟩⟩
def Kf: ∀ (l:List PEx) (f:Fnd),Uv (f.exprs l).2=Uv l/\Ys (f.exprs l).2=Ys l/\(f.exprs l).2.length=l.length/\(PEx.fits l->PEx.fits (f.exprs l).2)
 | [],f=>⟨rfl,rfl,rfl,fun _=>trivial⟩
 |e::r,f=>by
  have ⟨k,j,i⟩:=Q6 e f;have ⟨h,g,d,c⟩:=Kf r (f.expr e).1;simp [Fnd.exprs];exact ⟨by simp [Uv,k,h],by simp [Ys,j,g],by simp [d],fun ⟨b,a⟩=>⟨i b,c a⟩⟩
end
mutual
def Hl {c}{lo}: ∀ (e:PEx) (f:Fnd),(f.expr e).1.flaw=0->(f.expr e).1=f/\((∀ x∈f.names,NmOk c lo x)->(f.expr e).2.wl c lo)
 | .mk k n nm slot loc op args,f,h=>by
  simp [Fnd.expr] at h|-;split at h
  . rename_i m;rw [if_pos m];obtain ⟨g,o⟩:=Mf args _ h;rw [g] at h;have ⟨r,x,p,d,q⟩:=gR h;refine ⟨g.trans r,fun i=>⟨fun _=> ?_,fun e=>aV (m.symm.trans e) Zw,o (by grind)⟩⟩;have b:=i x p;rw [q];refine ⟨b.z,?_⟩;rcases d with d|d
    . rw [if_neg (by grind)];exact b.v d
    rw [if_pos (by grind)];exact b.lo d
  rename_i l;rw [if_neg l];split at h
  . rename_i m;rw [if_pos m];obtain ⟨g,o⟩:=Mf args _ h;rw [g] at h;have ⟨r,x,p,d,q⟩:=gR h;refine ⟨g.trans r,fun i=>⟨fun e=>aV (m.symm.trans e) Zw,fun _=> ?_,o (by grind)⟩⟩;have b:=i x p;rw [q];exact ⟨b.z,b.a Zq⟩
  rename_i j;rw [if_neg j];obtain ⟨g,o⟩:=Mf args _ h;exact ⟨g,fun i=>⟨fun e=>aV e l,fun e=>aV e j,o i⟩⟩
def Mf {c}{lo}: ∀ (l:List PEx) (f:Fnd),(f.exprs l).1.flaw=0->(f.exprs l).1=f/\((∀ x∈f.names,NmOk c lo x)->Dp c lo (f.exprs l).2)
 | [],f,_=>⟨rfl,fun _=>trivial⟩
 |e::r,f,h=>by
  simp [Fnd.exprs] at h|-;obtain ⟨d,i⟩:=Mf r _ h;rw [d] at h;obtain ⟨a,g⟩:=Hl e f h;exact ⟨d.trans a,fun b=>⟨g b,i (by rw [a];exact b)⟩⟩
end
def ownOk (c:Cn)(lo k slot other:Int)(loc:Bool):Prop:=
 (k=1\/k=2->vaOk c lo slot loc)/\(k=3->0<=slot/\slot<c.a)/\(k=6\/k=7->0<=slot/\slot<c.mu)/\(k=8\/k=9\/k=10->0<=slot/\slot<c.co)/\(k=8->0<=other/\other<c.mu)/\(k=11\/k=12->0<=slot/\slot<c.ch)/\(k=12->vaOk c lo other loc)/\(k=13->0<=slot/\slot<c.th)
def ownOk.up {lo s o}{l}(h:ownOk c lo k s o l)(hl:lo<=hi):ownOk c hi k s o l:=by
 have ⟨m,j,i,g,f,d,b,a⟩:=h;exact ⟨fun e=>(m e).up hl,j,i,g,f,d,fun e=>(b e).up hl,a⟩
mutual
def PStm.wl (c:Cn)(lo:Int):PStm->Prop
 | .mk k _ _ _ _ e ix body els id slot other loc=>(1<=k/\k<=15)/\(k<=5\/k=11\/k=15->e.fit/\e.dep<=24/\e.wl c lo)/\(k=3->ix.fit/\ix.dep<=24/\ix.wl c lo)/\(0<=id/\id<512)/\ownOk c lo k slot other loc/\Wv c lo body/\Wv c lo els
def Wv (c:Cn)(lo:Int):List PStm->Prop
 | []=>True
 |s::r=>s.wl c lo/\Wv c lo r
end
mutual
def Iu {c}{lo hi}(hl:lo<=hi): ∀ {s:PStm},s.wl c lo->s.wl c hi
 | .mk ..,⟨h1,h2,h3,h4,h5,h6,h7⟩=>⟨h1,fun k=>⟨(h2 k).1,(h2 k).2.1,Tt hl (h2 k).2.2⟩,fun k=>⟨(h3 k).1,(h3 k).2.1,Tt hl (h3 k).2.2⟩,h4,h5.up hl,N0 hl h6,N0 hl h7⟩
def N0 {c}{lo hi}(hl:lo<=hi): ∀ {l},Wv c lo l->Wv c hi l
 | [],_=>trivial
 |_::_,⟨h1,h2⟩=>⟨Iu hl h1,N0 hl h2⟩
end
mutual
def Zk8 {c}{lo}(hc:c.th<=1000000): ∀ {s:PStm},s.wl c lo->s.fit
 | .mk ..,⟨h1,h2,h3,h4,h5,h6,h7⟩=>⟨h1,fun k=>(h2 k).1,fun k=>(h3 k).1,fun k=>by have:=h5.2.2.2.2.2.2.2 k;omega,Mw hc h6,Mw hc h7⟩
def Mw {c}{lo}(hc:c.th<=1000000): ∀ {l},Wv c lo l->PStm.fits l
 | [],_=>trivial
 |_::_,⟨h1,h2⟩=>⟨Zk8 hc h1,Mw hc h2⟩
end
structure Ctx (c:Cn) (f:Fnd):Prop where
 n: ∀ x∈f.names,NmOk c f.locals x
 l:0<=f.locals/\f.locals<=f.most/\f.most<=32
 s:0<=f.stm
def Zyj {wt}(h:(f.own k nm wt sl ot lo).1.flaw=0)(hx:Ctx c f):
 f.flaw=0/\Ctx c (f.own k nm wt sl ot lo).1/\f.most<=(f.own k nm wt sl ot lo).1.most/\(f.own k nm wt sl ot lo).1.stm=f.stm/\ownOk c (f.own k nm wt sl ot lo).1.most k (f.own k nm wt sl ot lo).2.1 (f.own k nm wt sl ot lo).2.2.1 (f.own k nm wt sl ot lo).2.2.2:=by
 obtain ⟨g, hg⟩ : ∃ g, f.own1 k nm sl lo = g := ⟨_, rfl⟩; unfold Fnd.own at h |-; rw [hg] at h |-; -- behind own1 nothing is flawed
 have p:g.1.flaw=0:=by
  unfold Fnd.own2 at h;split at h
  . exact (Fw (h)).2.2
  grind [Fnd.wants_ok]
 have hw:g.1=f/\(k=2->vaOk c f.locals g.2.1 g.2.2)/\(k=3->0<=g.2.1/\g.2.1<c.a)/\(k=6\/k=7->0<=g.2.1/\g.2.1<c.mu)/\(k=8\/k=9\/k=10->0<=g.2.1/\g.2.1<c.co)/\(k=11\/k=12->0<=g.2.1/\g.2.1<c.ch)/\(k=13->0<=g.2.1/\g.2.1<c.th):=by
  rw [<-hg] at p|-;unfold Fnd.own1 at p|-;by_cases hz:(Nh k).1≠0
  . rw [if_pos hz] at p|-;have ⟨o,x,b,i,q⟩:=gR p;have d:=hx.n x b;rw [q];refine ⟨o,fun e=> ?_,fun e=> ?_,fun e=> ?_,fun e=> ?_,fun e=> ?_,fun e=> ?_⟩
    . subst e;refine ⟨d.z,?_⟩;dsimp only;rcases i with i|i
      . rw [if_neg (by rw [i];decide)];exact d.v i
      rw [if_pos (by rw [i];decide)];exact d.lo i
    . subst e;exact ⟨d.z,d.a (by rcases i with e|e<;>exact e)⟩
    . refine ⟨d.z,d.mu ?_⟩;rcases e with e|e<;>subst e<;>rcases i with e|e<;>exact e
    . refine ⟨d.z,d.co ?_⟩;rcases e with e|e|e<;>subst e<;>rcases i with e|e<;>exact e
    . refine ⟨d.z,d.ch ?_⟩;rcases e with e|e<;>subst e<;>rcases i with e|e<;>exact e
    subst e;exact ⟨d.z,d.th (by rcases i with e|e<;>exact e)⟩
  rw [if_neg hz] at p|-;have r:(Nh k).1=0:=Decidable.not_not.1 hz;refine ⟨rfl,fun e=> ?_,fun e=> ?_,fun e=> ?_,fun e=> ?_,fun e=> ?_,fun e=> ?_⟩<;>exfalso<;>revert r
  . subst e;decide
  . subst e;decide
  . rcases e with e|e<;>subst e<;>decide
  . rcases e with e|e|e<;>subst e<;>decide
  . rcases e with e|e<;>subst e<;>decide
  subst e;decide
 have ⟨o,w2,w3,w4,y,w,w7⟩:=hw;have ⟨m,gs,gl⟩:=g;dsimp only at*;subst o;have ⟨l1,l2,l3⟩:=hx.l;refine ⟨p,?_⟩;unfold Fnd.own2 at h|-;split at h
 . rename_i i;rw [if_pos i];have ⟨e3,e4,_⟩:=Fw (h);dsimp only;rw [e3];have hm:(m.loc3 nm).most=max m.most _:=rfl;have a0:(m.loc3 nm).locals=m.locals+1:=rfl;refine ⟨⟨fun x b=> ?_,⟨Zq,Zq,Zq⟩,hx.s⟩,Zq,rfl,?_⟩
   . rcases bP.1 (b) with b|b
     . exact (hx.n x b).up (Cn.le_refl c) Zq
     rw [bE.1 b];exact ⟨l1,fun e=>aV (show (100:Int)=1 from e) Zw,fun e=>aV (show (100:Int)=2 from e) Zw,fun e=>aV (show (100:Int)=3 from e) Zw,fun e=>aV (show (100:Int)=4 from e) Zw,fun e=>aV (show (100:Int)=5 from e) Zw,fun e=>aV (show (100:Int)=6 from e) Zw,fun _=>by grind⟩
   exact ⟨fun _=>⟨l1,by grind⟩,fun e=>by omega,fun e=>by omega,fun e=>by omega,fun e=>by omega,fun e=>by omega,fun e=>by omega,fun e=>by omega⟩
 rename_i u;rw [if_neg u];split at h
 . rename_i i;rw [if_pos i];dsimp only at h|-;have ⟨o,x,b,j,q⟩:=gR h;rw [o,q];have d:=hx.n x b;exact ⟨hx,bI _,rfl,fun e=>by omega,fun e=>by omega,fun e=>by omega,fun e=>y Zq,fun _=>⟨d.z,d.mu Zq⟩,fun e=>by omega,fun e=>by omega,fun e=>by omega⟩
 rename_i t;rw [if_neg t];split at h
 . rename_i i;rw [if_pos i];dsimp only at h|-;have ⟨o,x,b,j,q⟩:=gR h;rw [o,q];have d:=hx.n x b;refine ⟨hx,bI _,rfl,fun e=>by omega,fun e=>by omega,fun e=>by omega,fun e=>by omega,fun e=>by omega,fun e=>w Zq,fun _=>⟨d.z,?_⟩,fun e=>by omega⟩;dsimp only;rcases j with j|j
   . rw [if_neg (by grind)];exact d.v j
   rw [if_pos (by grind)];have:=d.lo j;omega
 rename_i j;rw [if_neg j];dsimp only;exact ⟨hx,bI _,rfl,fun e=>(w2 Zq).up l2,w3,w4,fun e=>y Zq,fun e=>by omega,fun e=>w Zq,fun e=>by omega,w7⟩
def Io {wt}(h:(f.own k nm wt sl ot lo).1.flaw=0):f.flaw=0:=by
 have a:(f.own1 k nm sl lo).1.flaw=0:=by
  unfold Fnd.own Fnd.own2 at h;split at h
  . exact (Fw (h)).2.2
  grind [Fnd.wants_ok]
 grind [Fnd.own1,Fnd.wants_ok]
def Ks (l:List PStm)(f:Fnd)(h:(f.blk l).1.flaw=0):f.flaw=0:=by
 cases l<;>grind [Fnd.blk]
mutual
/-- A statement that Check lets pass. -/
def PStm.raw:PStm->Prop
 | .mk k _ _ _ _ e ix body els _ _ _ _=>(1<=k/\k<=15)/\(k<=5\/k=11\/k=15->e.fit/\e.dep<=24)/\(k=3->ix.fit/\ix.dep<=24)/\(e.sz<=e.nd+1/\ix.sz<=ix.nd+1)/\U1 body/\U1 els
def U1:List PStm->Prop
 | []=>True
 |s::r=>s.raw/\U1 r
end
mutual
def Zvf {c}: ∀ (s:PStm) (f:Fnd),s.raw->(f.stmt s).1.flaw=0->Ctx c f->f.flaw=0/\Ctx c (f.stmt s).1/\f.most<=(f.stmt s).1.most/\(f.stmt s).2.wl c (f.stmt s).1.most
 | .mk k ln cl nm wt e ix body els id slot other loc,f,hr,h,hx=>by
  have ⟨r1,r2,r3,r4,r5,r6⟩:=hr;simp [Fnd.stmt] at h|-;split at h
  . grind [Jc]
  rename_i h5;rw [if_neg h5];dsimp only at h|-;obtain ⟨o,a⟩: ∃ g:Fnd,g= { f with stm:=f.stm+1 } :=⟨_,rfl⟩;rw [<-a] at h|-;have ⟨f1,m⟩:=lV (o.expr ix);rw [<-m] at h|-;have ⟨q,j⟩:=lV (f1.1.expr e);rw [<-j] at h|-;have ⟨p,i⟩:=lV (q.1.own k nm wt slot other loc);rw [<-i] at h|-;have ⟨f4,v⟩:=lV (p.1.blk body);rw [<-v] at h|-;obtain ⟨w,d⟩: ∃ g:Fnd,g= { f4.1 with names:=p.1.names,locals:=p.1.locals } :=⟨_,rfl⟩;rw [<-d] at h|-;have ⟨f5,u⟩:=lV (w.blk els);rw [<-u] at h|-;have q5:=Ks els w (by grind);have q4:f4.1.flaw=0:=by grind
  have q3:p.1.flaw=0:=Ks body p.1 (by grind);have q2:q.1.flaw=0:=Io (by rw [<-i];exact q3);have p2:=Hl (c:=c) (lo:=f.locals) e f1.1 (by grind);rw [<-j] at p2;have q1:f1.1.flaw=0:=by grind
  have p1:=Hl (c:=c) (lo:=f.locals) ix o (by grind);rw [<-m] at p1;have x0:Ctx c o:=by rw [a];exact ⟨hx.n,hx.l,by have:=hx.s;grind⟩
  have e2:q.1=o:=p2.1.trans p1.1;have a0: ∀ x∈o.names,NmOk c f.locals x:=by rw [a];exact hx.n
  have r:=Zyj (c:=c) (f:=q.1) (k:=k) (sl:=slot) (ot:=other) (nm:=nm) (wt:=wt) (lo:=loc) (by grind) (by grind);rw [<-i] at r;have ⟨o1,b,o3,o4,o5⟩:=r;have b4:=Nb body p.1 r5 (by grind) b;rw [<-v] at b4;have x4:Ctx c w:=by rw [d];exact ⟨b.n,⟨b.l.1,by have:=b.l.2.1;grind,b4.1.l.2.2⟩,b4.1.s⟩
  have b5:=Nb els w r6 (by grind) x4;rw [<-u] at b5;have m4:w.most=f4.1.most:=by rw [d]
  have m2:q.1.most=f.most:=by rw [e2,a]
  have s2:q.1.stm=f.stm+1:=by rw [e2,a]
  have k1:=Q6 ix o;have k2:=Q6 e f1.1;rw [<-m] at k1;rw [<-j] at k2;have hl:=hx.l;have t:f.locals<=f5.1.most:=Zq;refine ⟨by grind,⟨b.n,⟨b.l.1,by have:=b.l.2.1;grind,b5.1.l.2.2⟩,b5.1.s⟩,Zq,r1,fun hk=>⟨k2.2.2 (r2 hk).1,Zq,Tt t (p2.2 (by grind))⟩,fun hk=>⟨k1.2.2 (r3 hk).1,Zq,Tt t (p1.2 a0)⟩,⟨hx.s,Zq⟩,o5.up Zq,N0 Zq b4.2.2,b5.2.2⟩
def Nb {c}: ∀ (l:List PStm) (f:Fnd),U1 l->(f.blk l).1.flaw=0->Ctx c f->Ctx c (f.blk l).1/\f.most<=(f.blk l).1.most/\Wv c (f.blk l).1.most (f.blk l).2
 | [],f,_,_,hx=>⟨hx,bI _,trivial⟩
 |s::r,f,hr,h,hx=>by
  simp [Fnd.blk] at h|-;split at h
  . rename_i a;rw [if_pos a];have ⟨_,i,j,g⟩:=Zvf s f hr.1 (Ks r (f.stmt s).1 h) hx;have ⟨e,d,b⟩:=Nb r (f.stmt s).1 hr.2 h i;exact ⟨e,by (try dsimp only);omega,Iu d g,b⟩
  rename_i a;exact aV h a
end
mutual
theorem Zvb: ∀ (s:PStm) (f:Fnd),s.raw->(f.stmt s).2.wt<=7*s.nd
 | .mk k ln cl nm wt e ix body els id slot other loc,f,hr=>by
  have ⟨_,_,_,⟨h,g⟩,b,a⟩:=hr;simp [Fnd.stmt];split
  . have j:=Kz body b;have i:=Kz els a;simp [PStm.wt,Bj];omega
  simp [PStm.wt,Bj,(Q6 ix { f with stm:=f.stm+1 }).1,(Q6 e (Fnd.expr { f with stm:=f.stm+1 } ix).1).1];refine dO (Nat.add_le_add_left (Ny els _ a) _) (dO (Nat.add_le_add_right (Nat.add_le_add_left (Ny body _ b) _) _) ?_);omega
theorem Ny: ∀ (l:List PStm) (f:Fnd),U1 l->Za (f.blk l).2<=7*Yg l
 | [],f,_=>aZ _
 |s::r,f,hr=>by
  simp [Fnd.blk];split
  . have b:=Zvb s f hr.1;have a:=Ny r (f.stmt s).1 hr.2;simp [Za,Yg];omega
  simp [Za]
theorem Zk5: ∀ (s:PStm),s.raw->s.wt<=7*s.nd
 | .mk k ln cl nm wt e ix body els id slot other loc,hr=>by
  have ⟨_,_,_,⟨d,c⟩,b,a⟩:=hr;have g:=Kz body b;have f:=Kz els a;simp [PStm.wt,Bj];omega
theorem Kz: ∀ (l:List PStm),U1 l->Za l<=7*Yg l
 | [],_=>aZ _
 |s::r,hr=>by
  have b:=Zk5 s hr.1;have a:=Kz r hr.2;simp [Za,Yg];omega
end
mutual
def Kw: ∀ {e:PEx} {d},e.right d=true->e.sz=e.nd/\e.dep<=d
 | .mk k n nm _ _ op args,d,h=>by
  simp only [PEx.right] at h;split at h
  . cases h
  split at h
  . rw [bA] at h
    have hd:1<=d:=by
     grind [Ct]
    have ⟨a,b⟩:=Eu h.2;grind [PEx.sz,PEx.nd,PEx.dep]
  cases h
def Eu: ∀ {l} {d},Ws l d=true->Uv l=Pa l/\Ys l<=d
 | [],_,_=>⟨rfl,aZ _⟩
 |e::r,d,h=>by
  simp [Ws] at h;have b:=Kw h.1;have a:=Eu h.2;grind [Uv,Pa,Ys]
end
theorem Ir {e:PEx}(h:e.nil=true):e.sz<=e.nd+1:=by
 cases e<;>grind [PEx.nil,PEx.sz,Uv]
mutual
theorem Zzb: ∀ {s:PStm} {n},s.may n=true->s.raw
 | .mk k _ _ nm wt e ix body els _ _ _ _,n,h=>by
  simp only [PStm.may] at h;split at h;cases h
  rename_i d;split at h;cases h
  split at h;cases h
  rename_i g;split at h;cases h
  rw [bA] at h;unfold Zwg at d;simp [] at d;unfold Zjr at g;have b:Ok k=true->e.right 24=true:=fun b=>by grind
  have c:k=3->ix.right 24=true:=fun a=>by grind
  have i: ¬k=3->ix.nil=true:=fun a=>by grind
  refine ⟨Zq,fun a=> ?_,fun a=>⟨Tw (c a),(Kw (c a)).2⟩,⟨?_,?_⟩,Uy h.1,Uy h.2⟩
  . have:Ok k=true:=by grind [Ok]
    exact ⟨Tw (b this),(Kw (b this)).2⟩
  . cases a:Ok k with
    |true=>have:=(Kw (b a)).1;omega
    |false=>exact Ir ((fun b=>by grind) a)
  by_cases a:k=3
  . have:=(Kw (c a)).1;omega
  grind [Ir]
theorem Uy: ∀ {l} {n},Y2 l n=true->U1 l
 | [],_,_=>trivial
 |s::r,n,h=>by
  simp [Y2] at h;exact ⟨Zzb h.1,Uy h.2⟩
end
structure DInv (f:Fnd):Prop where
 n: ∀ x∈f.names,NmOk f.cn 0 x
 l:f.locals=0/\f.stm=0
 k:f.names.length<=64/\f.vars.length<=f.names.length/\f.arrs.length<=f.names.length/\f.chs.length<=f.names.length/\f.ths.length<=f.names.length/\(0<=f.mu/\f.mu<=f.names.length)/\(0<=f.co/\f.co<=f.names.length)
 v: ∀ n∈f.vars, -2147483648<=n/\n<=2147483647
 a: ∀ n∈f.arrs,1<=n/\n<=256
 c: ∀ n∈f.chs,1<=n/\n<=16
 t: ∀ t∈f.ths,(1<=t.nm.size/\t.nm.size<=16)/\t.loc=0/\t.body= []
def Bb {α:Type}{φ:α->Prop}{l}{x}(h: ∀ y∈l,φ y)(hx:φ x): ∀ y∈l++ [x],φ y:=by
 grind
def DInv.z:DInv Fnd.z:=⟨fun x a=>(by cases a),⟨rfl,rfl⟩,Zw,fun x a=>(by cases a),fun x a=>(by cases a),fun x a=>(by cases a),fun x a=>(by cases a)⟩
theorem DInv.decl (h:DInv f)(hf:(f.decl d).flaw=0)(h0:f.flaw=0)(hk:1<=d.k/\d.k<=6)(hn:1<=d.nm.size/\d.nm.size<=16):DInv (f.decl d):=by
 have r: ∃ g s,f.decl d= { g with names:=f.names++ [⟨d.nm,d.k,s⟩] } /\g.names=f.names/\f.names.length<64/\g=(f.decl1 d).1/\s=(f.decl1 d).2.1/\(f.decl1 d).2.2=true:=by
  grind [Fnd.decl,Jc,Fnd.decl1]
 have ⟨g,s,z,e2,e3,b,a,j⟩:=r;rw [z];have ⟨u,p,i3,o,n,m,l⟩:=h;have i:d.k=1\/d.k=2\/d.k=3\/d.k=4\/d.k=5\/d.k=6:=Zq;have e: ∀ {c:Cn},f.cn.le c->NmOk c 0 ⟨d.nm,d.k,s⟩-> ∀ x∈f.names++ [⟨d.nm,d.k,s⟩],NmOk c 0 x:=fun t w=>Bb (fun y v=>(u y v).up t (bI _)) w
 unfold Fnd.decl1 at b a j;rcases i with i|i|i|i|i|i 
 . rw [if_pos i] at b a j;split at j
   . cases j
   rename_i q;rw [if_neg q] at b a;subst b;subst a;refine ⟨e ⟨by grind [Fnd.cn],bI _,bI _,bI _,bI _,bI _⟩ ⟨Zf,fun _=>by grind [Fnd.cn],?_,?_,?_,?_,?_,?_⟩,p,Zi,Bb o Zq,n,m,l⟩<;>(grind)
 . rw [if_neg Zq,if_pos i] at b a j;split at j
   . cases j
   rename_i q;rw [if_neg q] at b a;subst b;subst a;refine ⟨e ⟨bI _,by grind [Fnd.cn],bI _,bI _,bI _,bI _⟩ ⟨Zf,?_,fun _=>by grind [Fnd.cn],?_,?_,?_,?_,?_⟩,p,Zi,o,Bb n Zq,m,l⟩<;>(grind)
 . rw [if_neg Zq,if_neg Zq,if_pos i] at b a j;subst b;subst a;refine ⟨e ⟨bI _,bI _,by grind [Fnd.cn],bI _,bI _,bI _⟩ ⟨by grind,?_,?_,fun _=>by grind [Fnd.cn],?_,?_,?_,?_⟩,p,Zi,o,n,m,l⟩<;>(grind)
 . rw [if_neg Zq,if_neg Zq,if_neg Zq,if_pos i] at b a j;subst b;subst a;refine ⟨e ⟨bI _,bI _,bI _,by grind [Fnd.cn],bI _,bI _⟩ ⟨by grind,?_,?_,?_,fun _=>by grind [Fnd.cn],?_,?_,?_⟩,p,Zi,o,n,m,l⟩<;>(grind)
 . rw [if_neg Zq,if_neg Zq,if_neg Zq,if_neg Zq,if_pos i] at b a j;split at j
   . cases j
   rename_i q;rw [if_neg q] at b a;subst b;subst a;refine ⟨e ⟨bI _,bI _,bI _,bI _,by grind [Fnd.cn],bI _⟩ ⟨Zf,?_,?_,?_,?_,fun _=>by grind [Fnd.cn],?_,?_⟩,p,Zi,o,n,Bb m Zq,l⟩<;>(grind)
 rw [if_neg Zq,if_neg Zq,if_neg Zq,if_neg Zq,if_neg Zq,if_pos i] at b a j;subst b;subst a;refine ⟨e ⟨bI _,bI _,bI _,bI _,bI _,by grind [Fnd.cn]⟩ ⟨Zf,?_,?_,?_,?_,?_,fun _=>by grind [Fnd.cn],?_⟩,p,Zi,o,n,m,Bb l ⟨hn,rfl,rfl⟩⟩<;>(grind)
def DInv.decls: ∀ {ds} {f},DInv f->(∀ d∈ds,(1<=d.k/\d.k<=6)/\(1<=d.nm.size/\d.nm.size<=16))->(f.decls ds).flaw=0->DInv (f.decls ds)
 | [],_,h,_,_=>h
 |d::r,f,h,hd,hf=>by
  unfold Fnd.decls at hf|-;split at hf
  . rename_i a;rw [if_pos a]
    have b:(f.decl d).flaw=0:=by
     cases r with
     |nil=>exact hf
     |cons x r=>
      unfold Fnd.decls at hf;split at hf
      . assumption
      exact hf
    exact DInv.decls (h.decl b a (hd d (bO ..)).1 (hd d (bO ..)).2) (fun x c=>hd x (bQ _ c)) hf
  rename_i a;exact aV hf a
structure ThW (P:List PStm->Prop) (c:Cn) (t:PTh):Prop where
 n:1<=t.nm.size/\t.nm.size<=16
 l:0<=t.loc/\t.loc<=32
 b:Wv c t.loc t.body
 p:P t.body
structure BInv (P:List PStm->Prop) (d f:Fnd):Prop where
 e:f.vars=d.vars/\f.arrs=d.arrs/\f.chs=d.chs/\f.mu=d.mu/\f.co=d.co/\f.ths.length=d.ths.length/\f.names=d.names
 n: ∀ x∈d.names,NmOk d.cn 0 x
 l:f.locals=0/\0<=f.stm
 t: ∀ t∈f.ths,ThW P d.cn t
theorem BInv.bodies {d}: ∀ {bs} {i} {f},(∀ b∈bs,U1 b/\ ∀ g,P (Fnd.blk g b).2)->BInv P d f->(f.bodies i bs).flaw=0->BInv P d (f.bodies i bs)
 | [],_,_,_,h,_=>h
 |b::r,i,f,hb,h,hf=>by
  unfold Fnd.bodies at hf|-;split at hf
  . rename_i h0;rw [if_pos h0];have ⟨g,p⟩:=lV (Fnd.block { f with most:=0 } b);rw [<-p] at hf|-;have ⟨q,j⟩:=lV (Fnd.blk { f with most:=0 } b);have u:g=({ q.1 with names:=f.names,locals:=f.locals },q.2):=by rw [p,j];rfl
    have fl:g.1.flaw=0:=by
     cases r<;>grind [Fnd.bodies]
    have a0:q.1.flaw=0:=by grind
    have to:=gZ b { f with most:=0 };rw [<-j] at to;have ⟨t1,t2,t3,z,y,m,_⟩:=to.e;dsimp only at t1 t2 t3 z y m;have ⟨j1,j2,j3,j4,j5,j6,j7⟩:=h.e;have w:=Nb b { f with most:=0 } (hb b (bO ..)).1 (by grind) ⟨by rw [j7,h.l.1];exact h.n,by dsimp only;rw [h.l.1];decide,h.l.2⟩;have o:=(hb b (bO ..)).2 { f with most:=0 };rw [<-j] at w o;have ⟨w1,k,v⟩:=w;refine BInv.bodies (fun x hx=>hb x (bQ _ hx)) ⟨?_,h.n,?_,?_⟩ hf
    . grind
    . rw [u];exact ⟨h.l.1,w1.s⟩
    rw [u];rw [m];intro t a;by_cases hi:i<f.ths.length
    . rcases cT a with a|a
      . exact h.t t a
      rw [a,aH,aB hi];exact ⟨(h.t _ (aC hi)).n,⟨k,w1.l.2.2⟩,v,o⟩
    rw [List.set_eq_of_length_le Zq] at a;exact h.t t a
  omega
structure PrgOk (P:List PStm->Prop) (F:Fnd):Prop where
 k:F.vars.length<=64/\F.arrs.length<=64/\F.chs.length<=64/\F.ths.length<=64/\(0<=F.mu/\F.mu<=64)/\(0<=F.co/\F.co<=64)
 v: ∀ n∈F.vars, -2147483648<=n/\n<=2147483647
 a: ∀ n∈F.arrs,1<=n/\n<=256
 c: ∀ n∈F.chs,1<=n/\n<=16
 t: ∀ t∈F.ths,ThW P F.cn t
 m:0<=F.main/\F.main<F.ths.length
def bad_nm (h:d.bad=false):1<=d.nm.size/\d.nm.size<=16:=by
 unfold PDec.bad Zwh at h;grind [nmS,Ry]
theorem Zq7 (h:d.bad=false):U1 d.body:=by
 grind [PDec.bad,Zwh,Uy]
theorem Sl (h:Ci ds=some F)(h0:P [])(hP: ∀ d∈ds,d.bad=false-> ∀ g,P (Fnd.blk g d.body).2):PrgOk P F:=by
 unfold Ci at h;split at h
 . cases h
 have m: ∀ d∈ds,d.bad=false:=fun d hd=>by
  grind
 dsimp only at h;have ⟨f,w⟩:=lV (Fnd.decls .z ds);rw [<-w] at h;obtain ⟨p,q⟩: ∃ p,p=(if f.flaw=0/\(f.at Ml=0\/((f.names.map (·.k)).getD (f.at Ml - 1) 0)≠6) then f.fl 133 else f):=⟨_,rfl⟩;rw [<-q] at h;have ⟨bs,r⟩:=lV ((ds.filter fun d=>d.k==6).map (·.body));rw [<-r] at h;by_cases hfl:(p.bodies 0 bs).flaw≠0
 . grind
 rw [if_neg hfl] at h
 cases h
 have j:=Decidable.not_not.1 hfl
 have z1:p.flaw=0:=by
  cases bs<;>grind [Fnd.bodies]
 have hm:p=f/\f.flaw=0/\f.at Ml≠0/\((f.names.map (·.k)).getD (f.at Ml - 1) 0)=6:=by
  grind [Jc]
 have D:DInv f:=by
  rw [w];exact DInv.decls .z (fun d hd=>⟨(Zq8 (m d hd)).1,bad_nm (m d hd)⟩) (by grind)
 rw [hm.1] at j|-
 have B:=BInv.bodies (P:=P) (fun b hb=>by
  grind [Zq7]) ⟨⟨rfl,rfl,rfl,rfl,rfl,rfl,rfl⟩,D.n,⟨D.l.1,by rw [D.l.2];decide⟩,fun t y=>by
   have ⟨a,b,c⟩:=D.t t y;exact ⟨a,Zq,by rw [c];trivial,by grind⟩⟩ j
 have ⟨g,hg⟩:=lV (f.bodies 0 bs);rw [<-hg] at B|-;have ⟨b1,b2,b3,b4,b5,b6,b7⟩:=B.e;have cn:Fnd.cn { g with main:=(g.names.map (·.s)).getD (f.at Ml - 1) 0 } =f.cn:=by grind [Fnd.cn]
 have ⟨k1,k2,k3,k4,k5,k6,k7⟩:=D.k;refine ⟨?_,by rw [b1];exact D.v,by rw [b2];exact D.a,by rw [b3];exact D.c,by rw [cn];exact B.t,?_⟩
 . grind
 have o:f.at Ml - 1<f.names.length:=by
  grind
 have e6:f.names[f.at Ml - 1].k=6:=by
  grind
 have u:=D.n _ (aC o);rw [b7,aH,bZ,aB o,b6];exact ⟨u.z,u.th e6⟩
def O2 {l}(h:Kd l=some ds):(ds.map fun d=>Yg d.body+1).sum<=l.length/\l.length<=65536:=by
 unfold Kd at h;split at h
 . cases h
 split at h
 . cases h
 rename_i e b;split at h
 . cases h
 rename_i c a;split at h
 . cases h
 cases h
 have g:=(T9 b).1;have f:=(F8 (aS _) a).1;omega
def P7 {l}(h:U6 l=some F):PrgOk (fun b=>Za b<=7*l.length) F/\l.length<=65536:=by
 unfold U6 at h;split at h
 . cases h
 rename_i ds hd;have ⟨c,a⟩:=O2 hd;grind [Sl,Ny,Zq7,Pb,Za]
structure FCok (g:FC):Prop where
 m: ∃ mn:Nat,g.main=(mn:Int)/\mn<g.ths.l.length
 f: ∀ x∈g.ths.l,PStm.fits (Zk x.body)
 w: ∀ x∈g.ths.l,Za (Zk x.body)<=999999999
 n: ∀ x∈g.ths.l,x.nm.size<=9223372036854775807
 l:g.ths.l.length<=1000000
def FC.ok {g}{l}(h:U6 l=some g.er):FCok g:=by
 have ⟨p,o⟩:=P7 h;have e:g.er.ths.length=g.ths.l.length:=by show (g.ths.l.map Th.er).length=_;rw [aI]
 have k:=p.k.2.2.2.1;have th: ∀ x∈g.ths.l,x.er∈g.er.ths:=fun x a=>cW a
 have i:g.er.cn.th<=1000000:=by show (g.er.ths.length:Int)<=_;omega
 have c:=p.m;rw [e] at c;have f:0<=g.main:=c.1;have d:g.main<g.ths.l.length:=c.2;refine ⟨⟨g.main.toNat,Zq,Zq⟩,fun x a=>Mw i (p.t _ (th x a)).b,fun x a=> ?_,fun x a=> ?_,Zq⟩
 . have:=(p.t _ (th x a)).p;have j:x.er.body=Zk x.body:=rfl;grind
 have:=(p.t _ (th x a)).n;have j:x.er.nm=x.nm:=rfl;grind
abbrev coC (pp nm:Nat)(K:List (Ins×Int))(ln:Int)(a:Option Addr)(c:Nat)(b:Option Addr)(d:Nat):List Value:= [pt pp,.map (some nm),.slice a (K.map Prod.fst).length c,.slice b (K.map Prod.snd).length d,I64 ln]
def kiL:List (Int×Value×Nat):= [(1,.func (.func 166) #[] #[],0),(2,.func (.func 166) #[] #[],1),(3,.func (.func 167) #[] #[],2),(4,.func (.func 168) #[] #[],3),(5,.func (.func 169) #[] #[],4),(6,.func (.func 170) #[] #[],5),(7,.func (.func 170) #[] #[],6),(8,.func (.func 171) #[] #[],7),(9,.func (.func 170) #[] #[],8),(10,.func (.func 170) #[] #[],9),(11,.func (.func 172) #[] #[],10),(12,.func (.func 173) #[] #[],11),(13,.func (.func 174) #[] #[],12),(14,.func (.func 175) #[] #[],13),(15,.func (.func 176) #[] #[],14)]
def kiE (e:Int×Value×Nat):MapEntry:= { key:= I64 e.1,val:=e.2.1,born:=e.2.2 }
abbrev kiP (nm:Nat):HP:=pto nm (.map (kiL.map kiE).toArray 15)
abbrev coP (p pp nm:Nat)(K:List (Ins×Int))(ln:Int)(a:Option Addr)(c:Nat)(b:Option Addr)(d:Nat):HP:=pC p (coC pp nm K ln a c b d) 215
def coH (p pp nm:Nat)(K:List (Ins×Int))(ln:Int):HP:=ex fun z:(Option Addr×Nat)×Option Addr×Nat=>stars [coP p pp nm K ln z.1.1 z.1.2 z.2.1 z.2.2,rsH Y7 4 222 z.1.1 z.1.2 (K.map Prod.fst),lsH I64 3 z.2.1 z.2.2 (K.map Prod.snd),kiP nm]
def coI {nm}{c d}(h:Le q (coP p pp nm K ln a c b d::rsH Y7 4 222 a c (K.map Prod.fst)::lsH I64 3 b d (K.map Prod.snd)::kiP nm::r)):Le q (coH p pp nm K ln::r):=
 h.trans (Vt ((a,c),b,d) (Zh [_,_,_,_] r))
section
variable {P:Program}{f:Fc}{Q:Yp}{k:List Item}{p:PE}{ds:List Deferred}{cs:List Frame}{ops l:List Oper}{pk:PE}{L:Rds}{done:List Nat}{b nm:Nat}
def Zki (x: ∀ a c a2 c2,X P G f Q k p ds cs (coP b pp nm K ln a c a2 c2::rsH Y7 4 222 a c (K.map Prod.fst)::lsH I64 3 a2 c2 (K.map Prod.snd)::kiP nm::r))(hq:Le q (coH b pp nm K ln::r):=by exact Zj):X P G f Q k p ds cs q:=
 .le hq (.ex fun z=> .le (Zb _ r) (x _ _ _ _))
def Cj (x: ∀ a c a2 c2,XO P G f Q ops.toArray k l p ds cs (coP b pp nm K ln a c a2 c2::rsH Y7 4 222 a c (K.map Prod.fst)::lsH I64 3 a2 c2 (K.map Prod.snd)::kiP nm::r))(hq:Le q (coH b pp nm K ln::r):=by exact Zj):XO P G f Q ops.toArray k l p ds cs q:=
 .le hq (.ex fun z=> .le (Zb _ r) (x _ _ _ _))
def XD.coO (x: ∀ a c a2 c2,XD P G f Q ops k pk L n done p ds cs (coP b pp nm K ln a c a2 c2::rsH Y7 4 222 a c (K.map Prod.fst)::lsH I64 3 a2 c2 (K.map Prod.snd)::kiP nm::r))(hq:Le q (coH b pp nm K ln::r):=by exact Zj):XD P G f Q ops k pk L n done p ds cs q:=
 .le hq (.ex fun z=> .le (Zb _ r) (x _ _ _ _))
end
def Xh:(prog.info? 222).map (fun i=>(i.zero,i.size,i.bytes))=some (some (.agg #[I64 0,I64 0,I64 0,I64 0]),4,32):=by kernel_rfl
def Zbe:(prog.info? 3).map (fun i=>(i.zero,i.size,i.bytes))=some (some (I64 0),1,8):=by kernel_rfl
section
variable {nm:Nat}{i:Ins}
def Zqi {c}(hc:Cl q ⟨p,0+2,none⟩ (.slice a n c)):CR G 236 [pt p] (q) (I64 n):=by
 refine We ntmps236 fun F cs=> ?_;refine ld ?_ (hc:=(hc.le leA));exact Vz q
def J4 (hl:K.length<=2000000000):CF G 98 [pt p,.agg (Y7 i).toArray] (coH p pp nm K ln::q) (Ret fun v q'=>q'=coH p pp nm (K++ [(i,ln)]) ln::q):=by
 refine aE ntmps98 fun F cs=> ?_;refine Zki fun a c b d=> ?_
 refine Yb fun h=> ?_
 refine Zz ?_;apply eT 6 rfl (Yw Y7 underlying213 Xh rfl rfl (fun _=>rfl) rfl);rintro _ _ ⟨k,rfl,rfl⟩;refine ⟨hlA,?_⟩;apply eT 7 rfl (Z9 underlying213 Xh rfl rfl (fun _=>rfl) rfl rfl Zj ((bJ _).le leA) (fun _=>rfl) Zi Zi);refine kk2 fun s o=> ?_
 refine Zz ?_;apply eT 9 rfl (Qd I64 underlying23 Zbe rfl rfl);rintro _ _ ⟨j,rfl,rfl⟩;refine ⟨hlA,?_⟩;apply eT 10 rfl (Wu underlying23 Zbe rfl rfl rfl Zj ((bV _).le leA) (fun _=>rfl) Zi Zi);refine kk2 fun r n=> ?_
 refine Zz ?_;rw [show K.map Prod.fst++ [i]=(K++ [(i,ln)]).map Prod.fst by simp,show K.map Prod.snd++ [ln]=(K++ [(i,ln)]).map Prod.snd by simp];refine Zg ?_;exact ⟨_,⟨_,rfl,rfl⟩,(coI leA)⟩
def Q8 (hl:K.length<=2000000000):CF G 177 [pt p,I64 cd,I64 u] (coH p pp nm K ln::q) (Ret fun v q'=>q'=coH p pp nm (K++ [(⟨cd,u,0,0⟩,ln)]) ln::q):=by
 refine We ntmps177 fun F cs=> ?_;refine Zv (aG _) (J4 (i:=⟨cd,u,0,0⟩) hl) ?_;rintro _ _ rfl;refine Zg ?_;exact ⟨_,⟨_,rfl,rfl⟩,leA⟩
def Zkf {bb}(hl:K.length<=2000000000):CF G 234 [pt p,I64 u,.bool bb] (coH p pp nm K ln::q) (Ret fun v q'=>q'=coH p pp nm (K++ [(intoS u bb,ln)]) ln::q):=by
 refine aE ntmps234 fun F cs=> ?_;refine Wg ?_ ?_<;>intro a
 focus
  obtain rfl:bb=true:=by simpa using a
 rotate_left
 focus
  obtain rfl:bb=false:=by simpa using a
 all_goals
  refine Zz ?_;apply Zv (aG _) (Q8 hl);rintro _ _ rfl;refine Zg ?_;exact ⟨_,⟨_,rfl,rfl⟩,leA⟩
def Fe (hl:K.length<=2000000000):CF G 235 [pt p,I64 cd] (coH p pp nm K ln::q) (Ret fun v q'=> ∃ j1 j2,v= .func (.func 284) [].toArray [pt j1,pt j2].toArray/\q'=pC j1 [pt p] 210::pC j2 [I64 K.length] 3::coH p pp nm (K++ [(⟨cd,0,0,0⟩,ln)]) ln::q):=by
 refine aE ntmps235 fun F cs=> ?_;refine Yb fun f=> ?_
 refine Zz ?_;refine Cj fun a c b d=> ?_
 apply bD (Zqi clA);apply aX 7 _ rfl (by rw [aI]);apply eN (q':=coH p pp nm K ln::_) (coI leA);refine Zo zeroValue3 fun e=> ?_
 refine Zz ?_;apply Zv Zj (Q8 hl);rintro _ _ rfl;refine Zg ?_;exact ⟨_,⟨_,rfl,f,e,rfl,rfl⟩,leA⟩
def Tf {j1 j2}(hK:K=(A++(⟨cd,0,0,0⟩,l0)::B))(hn:A.length=n)(hN:K.length=N)(hl:N<=2000000000):CF G 284 [pt j1,pt j2] (pC j1 [pt p] 210::pC j2 (Aw n) 3::coH p pp nm K ln::q) (Ret fun v q'=>q'=coH p pp nm (A++(⟨cd,(N:Int),0,0⟩,l0)::B) ln::q):=by
 refine aE ntmps284 fun F cs=> ?_;subst hK hn;refine Zki fun a c b d=> ?_
 have e:((A++(⟨cd,0,0,0⟩,l0)::B).map Prod.fst).length=N:=(by rw [aI,hN]);have h:((A++(⟨cd,0,0,0⟩,l0)::B).map Prod.snd).length=N:=(by rw [aI,hN]);have i:A.length<N:=(by rw [<-hN,aA,aJ];omega);unfold coP coC;rw [e];refine Vq (l:=(A++(⟨cd,0,0,0⟩,l0)::B).map Prod.fst) Zq fun m o=> ?_;subst o;refine Zz ?_;apply Yf 6 (Zqi clA);refine Zz ?_;refine gL 9 rfl (Wq (f:=Y7) (u:=⟨cd,(N:Int),0,0⟩) rfl rfl sizeOf3 (fun _=>rfl) rfl (by rw [e];exact i) rfl (by simp;rfl) rfl rfl Zj) ?_;refine kk0<|Zz ?_;rw [show ((A++(⟨cd,0,0,0⟩,l0)::B).map Prod.fst).set A.length ⟨cd,(N:Int),0,0⟩=(A++(⟨cd,(N:Int),0,0⟩,l0)::B).map Prod.fst by simp,show (A++(⟨cd,0,0,0⟩,l0)::B).map Prod.snd=(A++(⟨cd,(N:Int),0,0⟩,l0)::B).map Prod.snd by simp];refine Zg ?_;exact ⟨_,⟨_,rfl,rfl⟩,(coI (by unfold coP coC;rw [show ((A++(⟨cd,(N:Int),0,0⟩,l0)::B).map Prod.fst).length=N by rw [<-hN];simp,show ((A++(⟨cd,(N:Int),0,0⟩,l0)::B).map Prod.snd).length=N by rw [<-hN];simp];exact leA))⟩
end
def F6 {b}{n}(hK:Kn q fun M=>ExAt M ⟨b,o,none⟩ (.mk k n nm sl lo op el (some ⟨ab,ao,none⟩) ec))(hi:i<el.length):Kn q fun M=>ExAt M ⟨ab,ao+(i:Int).toNat*7,none⟩ el[i]:=hK.imp fun M h=>by
 have ⟨e,d,c,a⟩:=jH Yn Zw h.2.1.2.2 hi
 cases c
 exact ⟨a,Ub.1 h.2.2 _ (aC hi)⟩
def H7 {n}{ea}(h:(Ex.mk k n nm sl lo op el ea ec).sz<=N+1)(hi:i<el.length):(el[i]).sz<=N:=by
 have:=Wd (aC hi);simp [Ex.sz] at h;omega
def Dv (h:Qy (Yj l)=true)(hi:i<l.length):(l[i]).er.plain=true:=by
 induction l generalizing i with
 |nil=>simp at hi
 |cons x r ih=>
  simp [Yj,Qy] at h
  cases i with
  |zero=>exact h.1
  |succ i=>exact ih h.2 (by simpa using hi)
def Qh (h:PEx.fits (Yj l))(hi:i<l.length):(l[i]).er.fit:=Ua h (by rw [Ww];exact cW (aC hi))
section
variable {nm:Nat}{i:Ins}
def bare_ok: ∀ (N:Nat) {e} {b o} {q},e.sz<=N->(Kn q fun M=>ExAt M ⟨b,o,none⟩ e)->CF G 310 (AC b o) (q) (Ret fun v q'=>v= .bool e.er.plain/\q'=q):=fun N=>by
 induction N with
 |zero=>intro e b o q l;exact aV l (by cases e;simp only [Ex.sz];omega)
 |succ N IH=> 
 intro e b o q l k;have ⟨j,en,t,p,u,r,el,y,ec⟩:=e;refine aE ntmps310 fun F cs=> ?_;have b0:=Kn.exC k;have hS:=eP ((k.imp fun M h=>h.2).imp fun M h=>h.1.2.2)
 refine gW (fun w s=>Zx3 (cO (k.imp fun M h=>h.2)) s) fun a0=> ?_;obtain ⟨R,c⟩: ∃ R,(Ex.er (Ex.mk j en t p u r el y ec)).plain=R:=⟨_,rfl⟩;rw [c];simp only [Ex.er,PEx.plain] at c;refine Zz ?_;refine' Yi ?_;refine Wg ?_ ?_<;>intro i
 . have m:j=2\/j=3:=(by simpa using i);rw [if_pos m] at c;refine Zm (q) ?_;exact ⟨_,rfl,by rw [<-c],rfl⟩
 rw [if_neg (by simpa using i)] at c;refine Zs (bW (fun (s:Nat)=>s<=el.length/\R=Qy (Yj (el.drop s))) (fun s=> [(0,.pointer (some ⟨b,o,none⟩)),(21,I64 s),(20,I64 el.length),(2,.bool false)]) (fun s=>(q++F)) (fun s=>el.length - s) (fun s f x=> ?_) 0 ⟨aZ _,c.symm⟩)
 refine Zp ?_ ?_<;>intro h0
 . have a:s<el.length:=Zq;have g:Qy (Yj (el.drop s))=(el[s].er.plain && Qy (Yj (el.drop (s+1)))):=by rw [aP a];rfl
   refine Zz ?_;refine J9 (hS.le leA) (by rw [Zx Yn el];omega) fun ab ao e_=> ?_;subst e_;refine Zz ?_;apply bD (IH (H7 l a) (cO (F6 k a)));refine Zp ?_ ?_<;>intro i
   . refine Zm (q) ?_;exact ⟨_,rfl,by rw [f.2,g,i];rfl,rfl⟩
   refine Zs (x (s+1) ⟨Zq,by rw [f.2,g,i];rfl⟩ Zq)
 obtain rfl:s=el.length:=by omega
 refine Zm (q) ?_;exact ⟨_,rfl,by rw [f.2,dU];rfl,rfl⟩
def worth_ok: ∀ (N:Nat) {e} {b o} {q},e.sz<=N->(Kn q fun M=>ExAt M ⟨b,o,none⟩ e)->e.er.plain=true->e.er.fit->CF G 312 (AC b o) (q) (RP (fun v q'=>(e.er.ev.2=0/\v= I64 e.er.ev.1)/\q'=q) (fun ch q'=>(e.er.ev.2≠0/\ch= [noVE])/\q'=q)):=fun N=>by
 induction N with
 |zero=>intro e b o q hs;exact aV hs (by cases e;simp only [Ex.sz];omega)
 |succ N IH=> 
 intro e b o q hs hK hp hf;obtain ⟨ek,en,q0,p0,r0,i,el,ea,ec⟩:=e;refine aE ntmps312 fun F cs=> ?_;have i0:=Kn.exC hK;have hS:=eP ((hK.imp fun M h=>h.2).imp fun M h=>h.1.2.2);have b0:=Zx Yn el
 simp only [Ex.er,PEx.plain] at hp;simp only [Ex.er,PEx.fit,Ko] at hf;obtain ⟨t0,g0,s0,n0,d0⟩:=hf;have hk: ¬ (ek=2\/ek=3):=(fun hx=>by rw [if_pos hx] at hp;cases hp);rw [if_neg hk] at hp;obtain ⟨R,a⟩:=lV (Ex.er (Ex.mk ek en q0 p0 r0 i el ea ec)).ev;rw [<-a];simp only [Ex.er,PEx.ev,C5,Ww,fO] at a;have o0:ek=1\/ek=4\/ek=5\/(ek=6/\(i=1\/i=2\/3<=i)):=Zq;rcases o0 with rfl|rfl|rfl|⟨rfl,k0⟩
 . rw [if_pos rfl] at a;refine Zm (q) ?_;exact (dC ⟨⟨by rw [a],by rw [a]⟩,rfl⟩)
 . have hl:el.length=1:=g0;have d:0<el.length:=Zq;refine Yq (hS.le leA) (by rw [b0];omega) fun ab ao e_=> ?_;subst e_;obtain ⟨c,g⟩: ∃ A,(el[0]).er.ev=A:=⟨_,rfl⟩;have a0:(el[0]).er.plain=true:=Dv hp d;have j:(el[0]).er.fit:=Qh d0 d;have y: -2147483648<=c.1/\c.1<=2147483647:=(by rw [<-g];exact Kl j);have c0:(el.map (PEx.ev ∘ Ex.er)).getD 0 (0,0)=c:=(by rw [aH,bZ,aB d];exact g);rw [if_neg Zw,c0] at a;refine Zz ?_;refine Vj (aG _) (IH (H7 hs d) (cO (F6 hK d)) a0 j) ?_ ?_
   . rintro _ _ ⟨⟨m,rfl⟩,rfl⟩;exact cZ func312 (dZ ⟨⟨by rw [g] at m;rw [if_pos m] at a;rw [a];exact m,rfl⟩,rfl⟩)
   rintro _ _ ⟨⟨s,rfl⟩,rfl⟩;rw [g] at s|-;rw [if_neg (fun k=>k s)] at a;apply aX 22 (I64 c.1) rfl (rfl);rw [if_pos rfl] at a;refine Zz ?_;refine aX 23 (I64 (-c.1)) rfl (aQ (Value.int .i64) (show IntKind.i64.wrap (0 - c.1)= -c.1 by rw [Int.zero_sub];exact Ue Zq Zq)) ?_;have n:Uf 8 0 c.1=if val (-c.1) then (-c.1,0) else (0,2):=by unfold Uf;rw [if_neg Zw,if_neg Zw,if_neg Zw,if_neg Zw,if_neg (by rintro ⟨h|h,_⟩<;>exact aV h Zw)];dsimp only;rw [if_neg (show ¬ (8:Int)=7 by decide),if_pos rfl,Int.zero_sub]
   refine Vj (aG _) (Mp) ?_ ?_
   . rintro _ _ ⟨⟨hn,rfl⟩,rfl⟩;exact cZ func312 (dZ ⟨⟨by rw [a,n,if_neg hn];decide,rfl⟩,rfl⟩)
   rintro _ _ ⟨⟨r,rfl⟩,rfl⟩;refine Zm (q) ?_;exact (dC ⟨⟨by rw [a,n,if_pos r],by rw [a,n,if_pos r]⟩,rfl⟩)
 . have hl:el.length=1:=g0;have d:0<el.length:=Zq;refine Yq (hS.le leA) (by rw [b0];omega) fun ab ao e_=> ?_;subst e_;obtain ⟨c,g⟩: ∃ A,(el[0]).er.ev=A:=⟨_,rfl⟩;have a0:(el[0]).er.plain=true:=Dv hp d;have j:(el[0]).er.fit:=Qh d0 d;have y: -2147483648<=c.1/\c.1<=2147483647:=(by rw [<-g];exact Kl j);have c0:(el.map (PEx.ev ∘ Ex.er)).getD 0 (0,0)=c:=(by rw [aH,bZ,aB d];exact g);rw [if_neg Zw,c0] at a;refine Zz ?_;refine Vj (aG _) (IH (H7 hs d) (cO (F6 hK d)) a0 j) ?_ ?_
   . rintro _ _ ⟨⟨m,rfl⟩,rfl⟩;exact cZ func312 (dZ ⟨⟨by rw [g] at m;rw [if_pos m] at a;rw [a];exact m,rfl⟩,rfl⟩)
   rintro _ _ ⟨⟨s,rfl⟩,rfl⟩;rw [g] at s|-;rw [if_neg (fun k=>k s)] at a;apply aX 32 (I64 c.1) rfl (rfl);rw [if_neg Zw,if_pos rfl] at a;refine Zz ?_;apply bD (Km);refine Zm (q) ?_;exact (dC ⟨⟨by rw [a],by rw [a]⟩,rfl⟩)
 have hl:el.length=2:=g0;have d:0<el.length:=Zq;have p:1<el.length:=Zq;refine Yq (hS.le leA) (by rw [b0];omega) fun ab ao e_=> ?_;subst e_;obtain ⟨c,g⟩: ∃ A,(el[0]).er.ev=A:=⟨_,rfl⟩;have a0:(el[0]).er.plain=true:=Dv hp d;have j:(el[0]).er.fit:=Qh d0 d;have y: -2147483648<=c.1/\c.1<=2147483647:=(by rw [<-g];exact Kl j);have c0:(el.map (PEx.ev ∘ Ex.er)).getD 0 (0,0)=c:=(by rw [aH,bZ,aB d];exact g);obtain ⟨f,t⟩: ∃ A,(el[1]).er.ev=A:=⟨_,rfl⟩;have f0:(el[1]).er.plain=true:=Dv hp p;have w:(el[1]).er.fit:=Qh d0 p;have l0: -2147483648<=f.1/\f.1<=2147483647:=(by rw [<-t];exact Kl w);have m0:(el.map (PEx.ev ∘ Ex.er)).getD 1 (0,0)=f:=(by rw [aH,bZ,aB p];exact t);rw [if_neg Zw,c0,m0] at a;refine Zz ?_;refine Vj (aG _) (IH (H7 hs d) (cO (F6 hK d)) a0 j) ?_ ?_
 . rintro _ _ ⟨⟨m,rfl⟩,rfl⟩;exact cZ func312 (dZ ⟨⟨by rw [g] at m;rw [if_pos m] at a;rw [a];exact m,rfl⟩,rfl⟩)
 rintro _ _ ⟨⟨s,rfl⟩,rfl⟩;rw [g] at s|-;rw [if_neg (fun k=>k s)] at a;apply aX 40 (I64 c.1) rfl (rfl);rw [if_neg Zw,if_neg Zw] at a;rcases k0 with rfl|rfl|k0
 . refine Zp ?_ ?_<;>intro u
   . have x:c.1≠0:=(by first|exact u.2|simpa using u);rw [if_pos (by exact .inl ⟨rfl,x⟩)] at a;refine Zm (q) ?_;exact (dC ⟨⟨by rw [a];try first|rfl|exact l,by rw [a];try rfl⟩,rfl⟩)
   have x:c.1=0:=(by first|(simpa using u)|(rcases u with u|u;exact aV rfl u;simpa using u));rw [if_neg (by rintro (⟨z1,z2⟩|⟨z1,z2⟩)<;>first|exact aV z1 Zw|exact aV z2 Zq)] at a;refine Zz ?_;refine Vj (aG _) (IH (H7 hs p) (cO (F6 hK p)) f0 w) ?_ ?_
   . rintro _ _ ⟨⟨m,rfl⟩,rfl⟩;exact cZ func312 (dZ ⟨⟨by rw [t] at m;rw [if_pos m] at a;rw [a];exact m,rfl⟩,rfl⟩)
   rintro _ _ ⟨⟨l,rfl⟩,rfl⟩;rw [t] at l|-;rw [if_neg (fun k=>k l)] at a;apply aX 66 (I64 f.1) rfl (rfl);rw [if_pos Zw] at a;refine Zz ?_;apply bD (Km);refine Zm (q) ?_;exact (dC ⟨⟨by rw [a];try first|rfl|exact l,by rw [a];try rfl⟩,rfl⟩)
 . refine Zp ?_ ?_<;>intro u
   . have x:c.1=0:=(by first|exact u.2|simpa using u);rw [if_pos (by exact .inr ⟨rfl,x⟩)] at a;refine Zm (q) ?_;exact (dC ⟨⟨by rw [a];try first|rfl|exact l,by rw [a];try rfl⟩,rfl⟩)
   have x:c.1≠0:=(by first|(simpa using u)|(rcases u with u|u;exact aV rfl u;simpa using u));rw [if_neg (by rintro (⟨z1,z2⟩|⟨z1,z2⟩)<;>first|exact aV z1 Zw|exact aV z2 Zq)] at a;refine Zz ?_;refine Vj (aG _) (IH (H7 hs p) (cO (F6 hK p)) f0 w) ?_ ?_
   . rintro _ _ ⟨⟨m,rfl⟩,rfl⟩;exact cZ func312 (dZ ⟨⟨by rw [t] at m;rw [if_pos m] at a;rw [a];exact m,rfl⟩,rfl⟩)
   rintro _ _ ⟨⟨l,rfl⟩,rfl⟩;rw [t] at l|-;rw [if_neg (fun k=>k l)] at a;apply aX 66 (I64 f.1) rfl (rfl);rw [if_pos Zw] at a;refine Zz ?_;apply bD (Km);refine Zm (q) ?_;exact (dC ⟨⟨by rw [a];try first|rfl|exact l,by rw [a];try rfl⟩,rfl⟩)
 rw [if_neg (by rintro (⟨z1,_⟩|⟨z1,_⟩)<;>omega)] at a;refine Zz ?_;refine Vj (aG _) (IH (H7 hs p) (cO (F6 hK p)) f0 w) ?_ ?_
 . rintro _ _ ⟨⟨m,rfl⟩,rfl⟩;exact cZ func312 (dZ ⟨⟨by rw [t] at m;rw [if_pos m] at a;rw [a];exact m,rfl⟩,rfl⟩)
 rintro _ _ ⟨⟨l,rfl⟩,rfl⟩;rw [t] at l|-;rw [if_neg (fun k=>k l)] at a;apply aX 66 (I64 f.1) rfl (rfl);rw [if_neg Zq] at a;refine rf [8,0,8] i0 ?_;have j0:i=3\/i=4\/i=5\/i=6\/i=7\/i=8\/i=9\/i=10\/i=11:=(by have:=n0 rfl;omega);rcases j0 with rfl|rfl|rfl|rfl|rfl|rfl|rfl|rfl|rfl
 . refine rn [1071,5,1071,6,2077,6] ?_;apply bD (Km);apply ox 2;refine Zl (q) func312 (Qq results312 rfl) (dC ⟨⟨by rw [a];rfl,by rw [a];first|rfl|(simp [Uf];try (first|rfl|(congr 1;rw [cD];simp)))⟩,rfl⟩)
 . refine rn [1071,5,1071,6,1077,6,2083,6] ?_;apply bD (Km);apply ox 2;refine Zl (q) func312 (Qq results312 rfl) (dC ⟨⟨by rw [a];rfl,by rw [a];first|rfl|(simp [Uf];try (first|rfl|(congr 1;rw [cD];simp)))⟩,rfl⟩)
 . refine rn [1071,5,1071,6,1077,6,1083,6,2089,6] ?_;apply bD (Km);apply ox 2;refine Zl (q) func312 (Qq results312 rfl) (dC ⟨⟨by rw [a];rfl,by rw [a];first|rfl|(simp [Uf];try (first|rfl|(congr 1;rw [cD];simp)))⟩,rfl⟩)
 . refine rn [1071,5,1071,6,1077,6,1083,6,1089,6,2095,6] ?_;apply bD (Km);apply ox 2;refine Zl (q) func312 (Qq results312 rfl) (dC ⟨⟨by rw [a];rfl,by rw [a];first|rfl|(simp [Uf];try (first|rfl|(congr 1;rw [cD];simp)))⟩,rfl⟩)
 . refine rn [1071,5,1071,6,1077,6,1083,6,1089,6,1095,6,2101,6] ?_;have n:Uf 7 c.1 f.1=if val (c.1+f.1) then ((c.1+f.1),0) else (0,2):=by rfl
   refine Vj (aG _) (Mp) ?_ ?_
   . rintro _ _ ⟨⟨hn,rfl⟩,rfl⟩;exact cZ func312 (dZ ⟨⟨by rw [a,n,if_neg hn];decide,rfl⟩,rfl⟩)
   rintro _ _ ⟨⟨r,rfl⟩,rfl⟩;apply ox 2;refine Zl (q) func312 (Qq results312 rfl) (dC ⟨⟨by rw [a,n,if_pos r],by rw [a,n,if_pos r]⟩,rfl⟩)
 . refine rn [1071,5,1071,6,1077,6,1083,6,1089,6,1095,6,1101,6,2107,6] ?_;have n:Uf 8 c.1 f.1=if val (c.1 - f.1) then ((c.1 - f.1),0) else (0,2):=by rfl
   refine Vj (aG _) (Mp) ?_ ?_
   . rintro _ _ ⟨⟨hn,rfl⟩,rfl⟩;exact cZ func312 (dZ ⟨⟨by rw [a,n,if_neg hn];decide,rfl⟩,rfl⟩)
   rintro _ _ ⟨⟨r,rfl⟩,rfl⟩;apply ox 2;refine Zl (q) func312 (Qq results312 rfl) (dC ⟨⟨by rw [a,n,if_pos r],by rw [a,n,if_pos r]⟩,rfl⟩)
 . have hm:=Zyx y l0;refine rn [1071,5,1071,6,1077,6,1083,6,1089,6,1095,6,1101,6,1107,6,2113,5] ?_;apply Va (Pu.mul rfl rfl Zq Zq);have n:Uf 9 c.1 f.1=if val (c.1*f.1) then ((c.1*f.1),0) else (0,2):=by rfl
   refine Vj (aG _) (Mp) ?_ ?_
   . rintro _ _ ⟨⟨hn,rfl⟩,rfl⟩;exact cZ func312 (dZ ⟨⟨by rw [a,n,if_neg hn];decide,rfl⟩,rfl⟩)
   rintro _ _ ⟨⟨r,rfl⟩,rfl⟩;refine Zm (q) ?_ (h0:=J2);exact (dC ⟨⟨by rw [a,n,if_pos r],by rw [a,n,if_pos r]⟩,rfl⟩)
 . have hm:=Zyb (b:=f.1) y;refine Zp (fun hz=> ?_) (fun hz=> ?_)
   . refine Ye ?_;exact Zb2 (Pn.panic rfl) (cZ func312 (dZ ⟨⟨by rw [a];unfold Uf;rw [if_neg Zq,if_neg Zq,if_neg Zq,if_neg Zq,if_pos ⟨Zq,hz⟩];decide,rfl⟩,rfl⟩))
   refine rf [8,0,2,2127,5] i0 ?_;apply Va (Zzx rfl rfl Zq);apply aX 130 (I64 (c.1.tdiv f.1)) rfl (aQ (Value.int .i64) (show IntKind.i64.wrap (c.1.tdiv f.1)=c.1.tdiv f.1 from Ue Zq Zq));have n:Uf 10 c.1 f.1=if val (c.1.tdiv f.1) then ((c.1.tdiv f.1),0) else (0,2):=by unfold Uf;rw [if_neg Zw,if_neg Zw,if_neg Zw,if_neg Zw,if_neg (fun h=>hz h.2)];rfl
   refine Vj (aG _) (Mp) ?_ ?_
   . rintro _ _ ⟨⟨hn,rfl⟩,rfl⟩;exact cZ func312 (dZ ⟨⟨by rw [a,n,if_neg hn];decide,rfl⟩,rfl⟩)
   rintro _ _ ⟨⟨r,rfl⟩,rfl⟩;refine Zm (q) ?_ (h0:=J2);exact (dC ⟨⟨by rw [a,n,if_pos r],by rw [a,n,if_pos r]⟩,rfl⟩)
 have hm:=Zyy (b:=f.1) y;refine Zp (fun hz=> ?_) (fun hz=> ?_)
 . refine Ye ?_;exact Zb2 (Pn.panic rfl) (cZ func312 (dZ ⟨⟨by rw [a];unfold Uf;rw [if_neg Zq,if_neg Zq,if_neg Zq,if_neg Zq,if_pos ⟨Zq,hz⟩];decide,rfl⟩,rfl⟩))
 refine rf [8,0,2,1127,6] i0 ?_;apply Va (Pu.rem rfl rfl Zq);have n:Uf 11 c.1 f.1=if val (c.1.tmod f.1) then ((c.1.tmod f.1),0) else (0,2):=by unfold Uf;rw [if_neg Zw,if_neg Zw,if_neg Zw,if_neg Zw,if_neg (fun h=>hz h.2)];rfl
 refine Vj (aG _) (Mp) ?_ ?_
 . rintro _ _ ⟨⟨hn,rfl⟩,rfl⟩;exact cZ func312 (dZ ⟨⟨by rw [a,n,if_neg hn];decide,rfl⟩,rfl⟩)
 rintro _ _ ⟨⟨r,rfl⟩,rfl⟩;refine Zm (q) ?_;exact (dC ⟨⟨by rw [a,n,if_pos r],by rw [a,n,if_pos r]⟩,rfl⟩)
variable {na nb:Nat}{y0 y1:Value}
def Zxq:Quiet prog G 311 [pt na,pt nb]:=by
 refine Quiet.of func311 ntmps311 rfl fun F b a c=> ?_;refine Zz ?_;apply Zzq c;apply Va (Im rfl underlying486 rfl zeroValue486);refine Zo zeroValue486 fun d=> ?_
 refine Ye ?_;apply fQ 9 bF rfl rfl;refine Ye ?_;exact gK ⟨rfl,rfl,.inl rfl,⟨_,Pj results311⟩,leA⟩
def Zq1:Catches prog G 311 [pt na,pt nb] noVE [pC na [y0] 2,pC nb [y1] 4] [pC na zz5 2,pC nb [.bool false] 4]:=by
 refine Catches.of func311 ntmps311 rfl rfl fun F b a c=> ?_;refine Zz ?_;apply Zzq c;apply Va (Ih rfl underlying486 rfl);refine Zo zeroValue486 fun d=> ?_
 refine Ye ?_;apply fQ 9 bT rfl rfl;refine Ye ?_;exact gK ⟨rfl,rfl,.inl rfl,⟨_,Pj results311⟩,leA⟩
def Zky {e}{b}(hK:Kn q fun M=>ExAt M ⟨b,o,none⟩ e)(hf:e.er.fit):CR G 282 (AC b o) (q) (.tuple [I64 (if e.er.one=true then e.er.ev.1 else 0),.bool e.er.one].toArray):=by
 refine aE ntmps282 fun F cs=> ?_;unfold PEx.one;refine Zo zeroValue2 fun f=> ?_
 refine Zo zeroValue4 fun d=> ?_
 refine Zz ?_;apply bD (bare_ok _ (aS _) (cO hK));refine Wg ?_ ?_<;>intro a
 . replace a:e.er.plain=false:=(by simpa using a);refine Zm (q) ?_;exact ⟨_,rfl,by rw [a];rfl,rfl⟩
 replace a:e.er.plain=true:=(by simpa using a);rw [a];refine Zz ?_;refine XO.dfr<|Zz ?_;refine Vj (aG _) (worth_ok _ (aS _) (cO hK) a hf) ?_ ?_
 . rintro _ _ ⟨⟨c,rfl⟩,rfl⟩;exact ⟨rfl,Lv.catches call311 func282 (Zq1) leA rfl (fS (q':=q) func282 (X8 results282 (eD rfl (iO isAgg2 clA) (eD rfl (iO isAgg4 clA) fM))) ⟨_,rfl,by rw [beq_false_of_ne c];rfl,rfl⟩ leA)⟩
 rintro _ _ ⟨⟨c,rfl⟩,rfl⟩;refine Zz ?_;exact iH ⟨rfl,Ii call311 func282 (Zxq) (fS (q':=q) func282 (X8 results282 (eD rfl (iO isAgg2 clA) (eD rfl (iO isAgg4 clA) fM))) ⟨_,rfl,by rw [c];rfl,rfl⟩ leA)⟩
end
def opL:List Int:= [0,0,0,10,11,12,13,14,15,16,17,18]
def GO (q:List HP):Prop:=Sees q (some ⟨0,0,none⟩) (opL.map I64)
def GO.le {q'}(h:GO q')(k:Le q q'):GO q:=Sees.le h k
def opL_at: ∀ k:Fin 12,3<=k.val->opL[k.val]'k.isLt=(k.val:Int)+7:=by decide
def ExOk (G:World)(e:Ex)(b o:Nat):Prop:= ∀ {K:List (Ins×Int)} {ln:Int} {p pp nm:Nat} {q:List HP},K.length+4*e.sz<=1000000000->(Kn q fun M=>ExAt M ⟨b,o,none⟩ e)->GO q->e.er.fit->CF G 233 [pt p,.pointer (some ⟨b,o,none⟩)] (coH p pp nm K ln::q) (Ret fun v q'=>q'=coH p pp nm (K++lnd (e.er.code K.length) ln) ln::q)
def Fs (l m:List Ins)(n:Int):lnd (l++m) n=lnd l n++lnd m n:=by simp [lnd]
def Pd (i:Ins)(n:Int):lnd [i] n= [(i,n)]:=rfl
section
variable {nm:Nat}{i:Ins}
def Zz8 {ek en esl eop}{enm}{elo}{b}{C0 C1}(hl:el.length=2)(hs:K.length+4*(el[0].sz+el[1].sz)+4<=1000000000)(hK:Kn q fun M=>ExAt M ⟨b,o,none⟩ (Ex.mk ek en enm esl elo eop el (some ⟨ab,ao,none⟩) ec))(hg:GO q)(hf0:el[0].er.fit)(hf1:el[1].er.fit)(IH0:ExOk G el[0] ab (ao+((0:Nat):Int).toNat*7))(IH1:ExOk G el[1] ab (ao+((1:Nat):Int).toNat*7))(hC0:el[0].er.code K.length=C0)(hC1:el[1].er.code (K.length+C0.length+1)=C1):CF G 283 [pt p,.pointer (some ⟨b,o,none⟩),I64 cd,I64 u] (coH p pp nm K ln::q) (Ret fun v q'=>q'=coH p pp nm (K++lnd (C0++ [⟨cd,K.length+C0.length+1+C1.length+2,0,0⟩]++C1++ [⟨22,0,0,0⟩,⟨19,K.length+C0.length+1+C1.length+2+1,0,0⟩,⟨1,0,0,u⟩]) ln) ln::q):=by
 refine aE ntmps283 fun F cs=> ?_;have z:=Z1 el[0].er K.length;have y:=Z1 el[1].er (K.length+C0.length+1);rw [hC0,Yk] at z;rw [hC1,Yk] at y;have a0:=Kn.exC hK;refine Zz ?_;apply Zv Zj (IH0 Zq (cO (F6 hK Zq)) (hg.le leA) hf0);rintro _ _ rfl;rw [hC0];obtain ⟨m,j⟩: ∃ k:List (Ins×Int),k=K++lnd C0 ln:=⟨_,rfl⟩;rw [<-j];have a:m.length=K.length+C0.length:=(by rw [j];rw [aA,Yx]);refine Zz ?_;apply Zv Zj (Fe Zq);rintro _ _ ⟨j1,j2,rfl,rfl⟩;obtain ⟨K2,h⟩: ∃ k:List (Ins×Int),k=m++ [(⟨cd,0,0,0⟩,ln)]:=⟨_,rfl⟩;rw [<-h];have x:K2.length=K.length+C0.length+1:=(by rw [h];rw [aA,a];rfl);refine Zz ?_;apply Zv Zj (IH1 Zq (cO (F6 hK Zq)) (hg.le leA) hf1);rintro _ _ rfl;rw [show ((K2.length:Nat):Int)=K.length+C0.length+1 by omega,hC1];obtain ⟨K3,g⟩: ∃ k:List _,k=K2++lnd C1 ln:=⟨_,rfl⟩;rw [<-g];have w:K3.length=K.length+C0.length+1+C1.length:=(by rw [g];rw [aA,Yx,x]);refine Zz ?_;refine Zv Zj (J4 (i:=⟨22,0,0,0⟩) Zq) ?_;rintro _ _ rfl;obtain ⟨K4,f⟩: ∃ k:List (Ins×Int),k=K3++ [(⟨22,0,0,0⟩,ln)]:=⟨_,rfl⟩;rw [<-f];have l:K4.length=K.length+C0.length+1+C1.length+1:=(by rw [f];rw [aA,w];rfl);refine Zz ?_;apply Zv Zj (Fe Zq);rintro _ _ ⟨j3,j4,rfl,rfl⟩;obtain ⟨K5,e⟩: ∃ k:List (Ins×Int),k=K4++ [(⟨19,0,0,0⟩,ln)]:=⟨_,rfl⟩;rw [<-e];have t:K5.length=K.length+C0.length+1+C1.length+2:=(by rw [e];rw [aA,l];rfl);refine Zz ?_;refine jE (bC Zj (bC Zj Zj)) (Mc call284 (Tf (j1:=j1) (j2:=j2) (p:=p) (A:=m) (cd:=cd) (l0:=ln) (B:=lnd C1 ln++ [(⟨22,0,0,0⟩,ln),(⟨19,0,0,0⟩,ln)]) (by rw [e,f,g,h];simp) rfl t Zq)) ?_;rintro _ _ rfl;obtain ⟨K6,d⟩: ∃ k:List (Ins×Int),k=(m++(⟨cd,((K.length+C0.length+1+C1.length+2:Nat):Int),0,0⟩,ln)::(lnd C1 ln++ [(⟨22,0,0,0⟩,ln),(⟨19,0,0,0⟩,ln)])):=⟨_,rfl⟩;rw [<-d];have s:K6.length=K.length+C0.length+1+C1.length+2:=(by rw [d];simp [Yx];omega);refine Zz ?_;refine Zv Zj (J4 (i:=⟨1,0,0,u⟩) Zq) ?_;rintro _ _ rfl;obtain ⟨K7,c⟩: ∃ k:List (Ins×Int),k=K6++ [(⟨1,0,0,u⟩,ln)]:=⟨_,rfl⟩;rw [<-c];have r:K7.length=K.length+C0.length+1+C1.length+2+1:=(by rw [c];rw [aA,s];rfl);refine Zz ?_;refine jE (bC Zj (bC Zj Zj)) (Mc call284 (Tf (j1:=j3) (j2:=j4) (p:=p) (A:=m++(⟨cd,((K.length+C0.length+1+C1.length+2:Nat):Int),0,0⟩,ln)::(lnd C1 ln++ [(⟨22,0,0,0⟩,ln)])) (n:=K4.length) (cd:=19) (l0:=ln) (B:= [(⟨1,0,0,u⟩,ln)]) (by rw [c,d];simp) (by simp [Yx];omega) r Zq)) ?_;rintro _ _ rfl;refine Zg ?_;exact ⟨_,⟨_,rfl,rfl⟩,(by rw [j];simp [lnd,aN,bG,dF,aO,bN,bL,lH];exact leA)⟩
def Rv: ∀ (N:Nat) {e} {b o},e.sz<=N->ExOk G e b o:=fun N=>by
 induction N with
 |zero=>intro e b o hs;exact aV hs (by cases e;simp only [Ex.sz];omega)
 |succ N IH=> 
 intro e b o hs K ln p pp nm q hl hK hg hf;obtain ⟨ek,en,n0,m0,g0,u,el,ea,ec⟩:=e;refine aE ntmps233 fun F cs=> ?_;have z0:=Kn.exC hK;have hA:Kn q fun M=>SlAt M ea ec el.length (el.flatMap exC)/\Ex.Ats M el:=hK.imp fun M h=>h.2;have hS:=eP (hA.imp fun M h=>h.1.2.2);have w:=Zx Yn el
 obtain ⟨R,s⟩:=lV ((Ex.er (Ex.mk ek en n0 m0 g0 u el ea ec)).code K.length);rw [<-s];simp only [Ex.er,PEx.code,Ed,Ww,fO] at s;simp only [Ex.sz] at hl;refine Zz ?_;obtain ⟨c1,h0⟩:=lV (Ex.er (Ex.mk ek en n0 m0 g0 u el ea ec)).one;obtain ⟨v1,k0⟩:=lV (Ex.er (Ex.mk ek en n0 m0 g0 u el ea ec)).ev.1;apply bD (Zky (cO hK) hf);apply aX 8 (.tuple [I64 (if c1=true then v1 else 0),.bool c1].toArray) rfl (by rw [h0,k0]);simp only [Ex.er] at h0 k0;rw [<-Ww] at s;rw [<-h0,<-k0] at s;refine Wg ?_ ?_<;>intro h1
 . obtain rfl:c1=true:=(by simpa using h1);rw [if_pos rfl] at s;refine Zz ?_;refine Zv (aG _) (J4 (i:=⟨1,0,0,v1⟩) Zq) ?_;rintro _ _ rfl;refine Zg ?_;exact ⟨_,⟨_,rfl,rfl⟩,(by rw [s];exact leA)⟩
 obtain rfl:c1=false:=(by simpa using h1);rw [if_neg Zw] at s;simp only [Ex.er,PEx.fit,Ko] at hf;obtain ⟨y0,d0,x0,o0,z⟩:=hf;have w0:ek≠1:=(fun k=>by subst k;simp [PEx.one,PEx.plain,PEx.ev,List.length_eq_zero_iff.1 d0,Yj,Qy] at h0);have r0:ek=2\/ek=3\/ek=4\/ek=5\/(ek=6/\u=1)\/(ek=6/\u=2)\/(ek=6/\3<=u):=Zq;rcases r0 with rfl|rfl|rfl|rfl|⟨rfl,rfl⟩|⟨rfl,rfl⟩|⟨rfl,v0⟩
 . rw [if_pos rfl] at s;refine Wg ?_ ?_<;>intro h2
   . have h2:g0=true:=(by simpa using h2);refine Zz ?_;apply Zv Zj (Q8 Zq);rintro _ _ rfl;refine Zg ?_;exact ⟨_,⟨_,rfl,rfl⟩,(by rw [s,h2];exact leA)⟩
   have h2:g0=false:=(by simpa using h2);refine Zz ?_;apply Zv Zj (Q8 Zq);rintro _ _ rfl;refine Zg ?_;exact ⟨_,⟨_,rfl,rfl⟩,(by rw [s,h2];exact leA)⟩
 . have t:el.length=1:=d0;have a:0<el.length:=Zq;refine Yq (hS.le leA) (by rw [w];omega) fun ab ao e_=> ?_;subst e_;have m:(el.map (PEx.code ∘ Ex.er)).getD 0 (fun _=> [])=(el[0]).er.code:=(by rw [aH,bZ,aB a];rfl);have d:=Qh z a;have a0:(el[0]).sz<=Wo el:=Wd (aC a);obtain ⟨v,c⟩: ∃ C,el[0].er.code K.length=C:=⟨_,rfl⟩;have l:=Z1 el[0].er K.length;rw [c,Yk] at l;rw [if_neg Zw,if_neg Zw,if_neg (by rintro ⟨k,_⟩;exact aV k Zw),if_pos rfl,m,c] at s;refine Zz ?_;apply Zv Zj (IH (e:=el[0]) (H7 hs a) Zq (cO (F6 hK a)) (hg.le leA) d);rintro _ _ rfl;rw [c];obtain ⟨K1,g⟩: ∃ k:List (Ins×Int),k=K++lnd v ln:=⟨_,rfl⟩;rw [<-g];have c0:K1.length=K.length+v.length:=(by rw [g];rw [aA,Yx]);refine Zz ?_;refine Zv Zj (Q8 (by rw [c0];omega)) ?_;rintro _ _ rfl;refine Zg ?_;exact ⟨_,⟨_,rfl,rfl⟩,(by rw [s,Fs,Pd,<-aO,<-g];exact leA)⟩
 . have t:el.length=1:=d0;have a:0<el.length:=Zq;refine Yq (hS.le leA) (by rw [w];omega) fun ab ao e_=> ?_;subst e_;have m:(el.map (PEx.code ∘ Ex.er)).getD 0 (fun _=> [])=(el[0]).er.code:=(by rw [aH,bZ,aB a];rfl);have d:=Qh z a;have a0:(el[0]).sz<=Wo el:=Wd (aC a);obtain ⟨v,c⟩: ∃ C,el[0].er.code K.length=C:=⟨_,rfl⟩;have l:=Z1 el[0].er K.length;rw [c,Yk] at l;rw [if_neg Zw,if_neg Zw,if_neg (by rintro ⟨k,_⟩;exact aV k Zw),if_neg Zw,if_pos rfl,m,c] at s;refine Zz ?_;apply Zv Zj (IH (e:=el[0]) (H7 hs a) Zq (cO (F6 hK a)) (hg.le leA) d);rintro _ _ rfl;rw [c];obtain ⟨K1,g⟩: ∃ k:List (Ins×Int),k=K++lnd v ln:=⟨_,rfl⟩;rw [<-g];have c0:K1.length=K.length+v.length:=(by rw [g];rw [aA,Yx]);refine Zz ?_;refine Zv Zj (J4 (i:=⟨8,0,0,0⟩) (by rw [c0];omega)) ?_;rintro _ _ rfl;refine Zg ?_;exact ⟨_,⟨_,rfl,rfl⟩,(by rw [s,Fs,Pd,<-aO,<-g];exact leA)⟩
 . have t:el.length=1:=d0;have a:0<el.length:=Zq;refine Yq (hS.le leA) (by rw [w];omega) fun ab ao e_=> ?_;subst e_;have m:(el.map (PEx.code ∘ Ex.er)).getD 0 (fun _=> [])=(el[0]).er.code:=(by rw [aH,bZ,aB a];rfl);have d:=Qh z a;have a0:(el[0]).sz<=Wo el:=Wd (aC a);obtain ⟨v,c⟩: ∃ C,el[0].er.code K.length=C:=⟨_,rfl⟩;have l:=Z1 el[0].er K.length;rw [c,Yk] at l;rw [if_neg Zw,if_neg Zw,if_neg (by rintro ⟨k,_⟩;exact aV k Zw),if_neg Zw,if_neg Zw,if_pos rfl,m,c] at s;refine Zz ?_;apply Zv Zj (IH (e:=el[0]) (H7 hs a) Zq (cO (F6 hK a)) (hg.le leA) d);rintro _ _ rfl;rw [c];obtain ⟨K1,g⟩: ∃ k:List (Ins×Int),k=K++lnd v ln:=⟨_,rfl⟩;rw [<-g];have c0:K1.length=K.length+v.length:=(by rw [g];rw [aA,Yx]);refine Zz ?_;refine Zv Zj (J4 (i:=⟨9,0,0,0⟩) (by rw [c0];omega)) ?_;rintro _ _ rfl;refine Zg ?_;exact ⟨_,⟨_,rfl,rfl⟩,(by rw [s,Fs,Pd,<-aO,<-g];exact leA)⟩
 . have t:el.length=2:=d0;have a:0<el.length:=Zq;have f:1<el.length:=Zq;refine Yq (hS.le leA) (by rw [w];omega) fun ab ao e_=> ?_;subst e_;have m:(el.map (PEx.code ∘ Ex.er)).getD 0 (fun _=> [])=(el[0]).er.code:=(by rw [aH,bZ,aB a];rfl);have d:=Qh z a;have a0:(el[0]).sz<=Wo el:=Wd (aC a);have f0:(el.map (PEx.code ∘ Ex.er)).getD 1 (fun _=> [])=(el[1]).er.code:=(by rw [aH,bZ,aB f];rfl);have b0:=Qh z f;have j0:(el[1]).sz<=Wo el:=Wd (aC f);obtain ⟨v,c⟩: ∃ C,el[0].er.code K.length=C:=⟨_,rfl⟩;have l:=Z1 el[0].er K.length;rw [c,Yk] at l;have i0:(el[0]).sz+(el[1]).sz<=Wo el:=(by obtain ⟨x,y,rfl⟩: ∃ x y,el= [x,y]:=(by match el,t with| [x,y],_=>exact ⟨x,y,rfl⟩);simp only [Wo,fU,fV];omega);obtain ⟨C1,r⟩: ∃ C,el[1].er.code (K.length+v.length+1)=C:=⟨_,rfl⟩;have e0:=Z1 el[1].er (K.length+v.length+1);rw [r,Yk] at e0;rw [if_neg Zw,if_neg Zw,if_pos ⟨rfl,Zw⟩,m,c,f0,r] at s;refine Zz ?_;apply Zv Zj (Zz8 t Zq (cO hK) (hg.le leA) d b0 (IH (H7 hs a)) (IH (H7 hs f)) c r);rintro _ _ rfl;refine Zg ?_;exact ⟨_,⟨_,rfl,rfl⟩,(by rw [s];exact leA)⟩
 . have t:el.length=2:=d0;have a:0<el.length:=Zq;have f:1<el.length:=Zq;refine Yq (hS.le leA) (by rw [w];omega) fun ab ao e_=> ?_;subst e_;have m:(el.map (PEx.code ∘ Ex.er)).getD 0 (fun _=> [])=(el[0]).er.code:=(by rw [aH,bZ,aB a];rfl);have d:=Qh z a;have a0:(el[0]).sz<=Wo el:=Wd (aC a);have f0:(el.map (PEx.code ∘ Ex.er)).getD 1 (fun _=> [])=(el[1]).er.code:=(by rw [aH,bZ,aB f];rfl);have b0:=Qh z f;have j0:(el[1]).sz<=Wo el:=Wd (aC f);obtain ⟨v,c⟩: ∃ C,el[0].er.code K.length=C:=⟨_,rfl⟩;have l:=Z1 el[0].er K.length;rw [c,Yk] at l;have i0:(el[0]).sz+(el[1]).sz<=Wo el:=(by obtain ⟨x,y,rfl⟩: ∃ x y,el= [x,y]:=(by match el,t with| [x,y],_=>exact ⟨x,y,rfl⟩);simp only [Wo,fU,fV];omega);obtain ⟨C1,r⟩: ∃ C,el[1].er.code (K.length+v.length+1)=C:=⟨_,rfl⟩;have e0:=Z1 el[1].er (K.length+v.length+1);rw [r,Yk] at e0;rw [if_neg Zw,if_neg Zw,if_pos ⟨rfl,Zw⟩,m,c,f0,r] at s;refine Zz ?_;apply Zv Zj (Zz8 t Zq (cO hK) (hg.le leA) d b0 (IH (H7 hs a)) (IH (H7 hs f)) c r);rintro _ _ rfl;refine Zg ?_;exact ⟨_,⟨_,rfl,rfl⟩,(by rw [s];exact leA)⟩
 have t:el.length=2:=d0;have a:0<el.length:=Zq;have f:1<el.length:=Zq;refine Yq (hS.le leA) (by rw [w];omega) fun ab ao e_=> ?_;subst e_;have m:(el.map (PEx.code ∘ Ex.er)).getD 0 (fun _=> [])=(el[0]).er.code:=(by rw [aH,bZ,aB a];rfl);have d:=Qh z a;have a0:(el[0]).sz<=Wo el:=Wd (aC a);have f0:(el.map (PEx.code ∘ Ex.er)).getD 1 (fun _=> [])=(el[1]).er.code:=(by rw [aH,bZ,aB f];rfl);have b0:=Qh z f;have j0:(el[1]).sz<=Wo el:=Wd (aC f);obtain ⟨v,c⟩: ∃ C,el[0].er.code K.length=C:=⟨_,rfl⟩;have l:=Z1 el[0].er K.length;rw [c,Yk] at l;have i0:(el[0]).sz+(el[1]).sz<=Wo el:=(by obtain ⟨x,y,rfl⟩: ∃ x y,el= [x,y]:=(by match el,t with| [x,y],_=>exact ⟨x,y,rfl⟩);simp only [Wo,fU,fV];omega);obtain ⟨C1,r⟩: ∃ C,el[1].er.code (K.length+v.length)=C:=⟨_,rfl⟩;have e0:=Z1 el[1].er (K.length+v.length);rw [r,Yk] at e0;rw [if_neg Zw,if_neg Zw,if_neg (by rintro ⟨_,k⟩;omega),if_neg Zw,if_neg Zw,if_neg Zw,m,c,f0,r] at s;refine Zz ?_;apply Zv Zj (IH (e:=el[0]) (H7 hs a) Zq (cO (F6 hK a)) (hg.le leA) d);rintro _ _ rfl;rw [c];obtain ⟨K1,g⟩: ∃ k:List (Ins×Int),k=K++lnd v ln:=⟨_,rfl⟩;rw [<-g];have c0:K1.length=K.length+v.length:=(by rw [g];rw [aA,Yx]);refine Zz ?_;apply Zv Zj (IH (e:=el[1]) (H7 hs f) Zq (cO (F6 hK f)) (hg.le leA) b0);rintro _ _ rfl;rw [show ((K1.length:Nat):Int)=K.length+v.length by omega,r];obtain ⟨K2,l0⟩: ∃ k:List (Ins×Int),k=K1++lnd C1 ln:=⟨_,rfl⟩;rw [<-l0];have q0:K2.length=K.length+v.length+C1.length:=(by rw [l0];rw [aA,Yx,c0]);refine Zz ?_;refine Va (Tj rfl rfl underlying446 sizeOf220 Zq (by have:=o0 rfl;omega)) ?_;have u0:=o0 rfl;have ⟨On,t0⟩:=aU (show 0<=u by omega);have p0:On<opL.length:=(by show On<12;omega);have s0:=opL_at ⟨On,p0⟩ (by show 3<=On;omega);refine ld ?_ (hc:=(gF (j:=u) (n:=On) (hg.le leA) (aG _) p0 Zq));refine aX 101 (I64 (u+7)) rfl (aQ (Value.int .i64) (by rw [t0];exact s0)) ?_;refine Zz ?_;refine Zv Zj (J4 (i:=⟨u+7,0,0,0⟩) (by rw [q0];omega)) ?_;rintro _ _ rfl;refine Zg ?_;exact ⟨_,⟨_,rfl,rfl⟩,(by rw [s,Fs,Fs,Pd,<-aO,<-aO,<-g,<-l0];exact leA)⟩
end
end Go.Proofs.YtadahhbefdnabaaGreatDoor
namespace Go.Proofs.YtadahhbefdnabaaGreatDoor
open Go Go.RowKit Wx Go.Proofs.Tryz
open Go.ChangeShapes Go.WideShapes Go.ChangeAt
def gEff: prog.globalNamed "warp/verify.effects" = some 2 := by kernel_rfl
def gCod: prog.globalNamed "warp/ops.codes" = some 1 := by kernel_rfl
def gOpc: prog.globalNamed "warp/compile.opCodes" = some 0 := by kernel_rfl
def tOpc:(prog.globals[0]?).map (·.type)=some 446:=by kernel_rfl
def tEff:(prog.globals[2]?).map (·.type)=some 469:=by kernel_rfl
def tCod:(prog.globals[1]?).map (·.type)=some 453:=by kernel_rfl
section
variable {H:Type}{enc:TypeId×Value->H}{W:World}{base fuel:Nat}{sp:Nat->Bool}{hd:Bool}{cs:List Value}{pl:List MemPlace}
def FD:DataW H->List Value
 | .agg [.lit (.int .i64 a),.lit (.int .i64 b)]=> [I64 a,I64 b]
 | .agg [.lit (.string s),.lit (.int .i64 b)]=> [.string ⟨s.toArray⟩,I64 b]
 |_=> []
def tab_ef (h:DataW.trod enc prog W base sp hd fuel 469 cs=some (Rows.laid_warp_verify_effects,pl)):cs=effL.flatMap efC:=by
 obtain ⟨f,m,rfl,s,w,t,o⟩:=DataW.trod_array underlying469 h;have r:prog.cellsOf 468=2:=by kernel_rfl
 have z:prog.cellsOf 469=70:=by kernel_rfl
 have x:prog.cellsOf 3=1:=by kernel_rfl
 have p:=Dm (fun y:DataW H×List MemPlace=>FD y.1) 2 f cs (by rw [w,t,z]) (fun i hi=>by
  have q:=o i Zq;rw [r,aB hi] at q;have ⟨y0,y1,n,e,a,j,g⟩:=trod_struct2 underlying468 q;rw [x] at j g;obtain ⟨n0,d,rfl,_⟩:=DataW.trod_int underlying3 j;obtain ⟨n1,b,rfl,_⟩:=DataW.trod_int underlying3 g;rw [e];generalize (cs.drop (i*2)).take 2=c at a d b|-
  match c,a,d,b with
  | [u,v],_,d,b=>simp at d b;subst d;subst b;rfl)
 rw [p]
 have k:f.map (·.1)=match (Rows.laid_warp_verify_effects:DataW H) with| .agg l=>l|_=> []:=by
  have:=aQ Prod.fst s;simp only at this;rw [this]
 have:f.flatMap (fun y=>FD y.1)=(f.map (·.1)).flatMap FD:=by rw [jN]
 rw [this,k];rfl
def LdO:DataW H->List Value
 | .lit (.int .i64 a)=> [I64 a]
 |_=> []
def tab_op (h:DataW.trod enc prog W base sp hd fuel 446 cs=some (Rows.laid_warp_compile_opCodes,pl)):cs=opL.map I64:=by
 obtain ⟨a,m,rfl,k,o,n,d⟩:=DataW.trod_array underlying446 h;have q:prog.cellsOf 220=1:=by kernel_rfl
 have p:prog.cellsOf 446=12:=by kernel_rfl
 have e:=Dm (fun y:DataW H×List MemPlace=>LdO y.1) 1 a cs (by rw [o,n,p]) (fun i hi=>by
  have f:=d i Zq;rw [q,aB hi] at f;have ⟨r,j,g,_⟩:=DataW.trod_int underlying220 f;generalize (cs.drop (i*1)).take 1=c at j g|-;rw [g];subst j;rfl)
 rw [e]
 have b:a.map (·.1)=match (Rows.laid_warp_compile_opCodes:DataW H) with| .agg l=>l|_=> []:=by
  have:=aQ Prod.fst k;simp only at this;rw [this]
 have:a.flatMap (fun y=>LdO y.1)=(a.map (·.1)).flatMap LdO:=by rw [jN]
 rw [this,b];rfl
def toP:DataW H->ByteArray×Int
 | .agg [.lit (.string s),.lit (.int .i64 b)]=>(⟨s.toArray⟩,b)
 |_=>(⟨#[]⟩,0)
def codL:List (ByteArray×Int):=match (Rows.laid_warp_ops_codes:DataW Unit) with| .agg l=>l.map toP|_=> []
def Zhk:codL.map (·.2)=Cw:=by rfl
def tab_cd (h:DataW.trod enc prog W base sp hd fuel 453 cs=some (Rows.laid_warp_ops_codes,pl)):cs=codL.flatMap cdC:=by
 obtain ⟨f,m,rfl,s,w,t,o⟩:=DataW.trod_array underlying453 h;have r:prog.cellsOf 452=2:=by kernel_rfl
 have c2:prog.cellsOf 453=70:=by kernel_rfl
 have z:prog.cellsOf 9=1:=by kernel_rfl
 have x:prog.cellsOf 3=1:=by kernel_rfl
 have p:=Dm (fun y:DataW H×List MemPlace=>FD y.1) 2 f cs (by rw [w,t,c2]) (fun i hi=>by
  have q:=o i Zq;rw [r,aB hi] at q;have ⟨y0,y1,n,e,a,j,g⟩:=trod_struct2 underlying452 q;rw [z] at j;rw [x] at g;obtain ⟨n0,d,rfl,_⟩:=DataW.trod_string underlying9 j;obtain ⟨n1,b,rfl,_⟩:=DataW.trod_int underlying3 g;rw [e];generalize (cs.drop (i*2)).take 2=c at a d b|-
  match c,a,d,b with
  | [u,v],_,d,b=>simp at d b;subst d;subst b;rfl)
 rw [p]
 have k:f.map (·.1)=match (Rows.laid_warp_ops_codes:DataW H) with| .agg l=>l|_=> []:=by
  have:=aQ Prod.fst s;simp only at this;rw [this]
 have:f.flatMap (fun y=>FD y.1)=(f.map (·.1)).flatMap FD:=by rw [jN]
 rw [this,k];rfl
end
def Xv: List (String × DataW Unit) := [("warp/ops.codes", Rows.laid_warp_ops_codes), ("warp/compile.opCodes", Rows.laid_warp_compile_opCodes), ("warp/verify.effects", Rows.laid_warp_verify_effects)]
def of_laid {W}(h:laidMetH prog Xv W):GC [old W]/\GO [old W]/\GE [old W]:=by
 have ⟨ps,⟨g0,y,v,f0,p0,q0,d,l,g,o,⟨g2,w,s,f2,p2,z,b,j,e,m,⟨g1,x,t,f1,p1,q1,c,k,f,n,_,_⟩,_⟩,_⟩,_,_⟩:=h;obtain rfl:=dR (gCod.symm.trans d);obtain rfl:=dR (gOpc.symm.trans b);obtain rfl:=dR (gEff.symm.trans c);obtain rfl:=dR (tCod.symm.trans l);obtain rfl:=dR (tOpc.symm.trans j);obtain rfl:=dR (tEff.symm.trans k);refine ⟨⟨codL,Zhk,SeesW.sees (fun i u a=>⟨_,_,rfl,?_⟩) []⟩,SeesW.sees (fun i u a=>⟨_,_,rfl,?_⟩) [],SeesW.sees (fun i u a=>⟨_,_,rfl,?_⟩) []⟩
 . rw [eE,World.var?_cell d g i,<-a,<-(tab_cd o)];simp
 . rw [eE,World.var?_cell b e i,<-a,<-(tab_op m)];simp
 rw [eE,World.var?_cell c f i,<-a,<-(tab_ef n)];simp
def door_met (os:Os)(args:Array Value):laidMetH prog Xv ((World.doorLaid prog 400 os).forCall (fun _ _=>0) ⟨#[],args, []⟩).memory:=
 laidMetH_of_parts3 (fuel:=8) (laidMet_of_run' 8 (by kernel_rfl) (by kernel_rfl)) (by kernel_rfl) (by kernel_rfl)
end Go.Proofs.YtadahhbefdnabaaGreatDoor
namespace Go.Proofs.YtadahhbefdnabaaGreatDoor
open Go Go.RowKit Wx Go.Proofs.Tryz
attribute [local irreducible] lsH rsH stars
variable {c b i n s pp nm bc ec2 o:Nat}{lo id t sl ot ln l0 u cd kk l1 cl lw main:Int}{k todo:List Item}{lo_:Bool}{e ix:PEx}{d:PDec}{ds:List Deferred}{F:Fnd}{l T:List Cod}{g:FC}{m:Mdl}{nm1 wt1:ByteArray}{x:Cod}{G:World}{q pre:List HP}{p:PE}{K A B:List (Ins×Int)}{Ep Xp:Ex}{bd es2:List Stm}{ea2 a:Option Addr}{P:Program}{v0 v1 v2 v3 v4:Value}{Q:Yp}{cs:List Frame}{M M':Hp}{ops:List Oper}{L:List (ByteArray×Int×List Ins×List Int)}
theorem Ie (f:Fnd)(w:Int):(f.fl w).stm=f.stm:=by grind [Fnd.fl]
theorem Ec (f:Fnd)(s:ByteArray)(a b:Int):(f.wants s a b).1.stm=f.stm:=by
 grind [Fnd.wants,Ie]
theorem Zvh (f:Fnd)(k sl ot:Int)(nm wt:ByteArray)(lo:Bool):(f.own k nm wt sl ot lo).1.stm=f.stm:=by
 have a:(f.own1 k nm sl lo).1.stm=f.stm:=by
  grind [Fnd.own1,Ec]
 unfold Fnd.own Fnd.own2;split
 . show (((f.own1 k nm sl lo).1.loc1 nm).loc2).stm=_
   grind [Fnd.loc1,Ie,Fnd.loc2]
 grind [Ec]
mutual
def Fk {c}{lo}: ∀ {e:PEx} {d},e.fit->e.dep<=d->e.wl c lo->e.ask c lo d=true
 | .mk k n nm slot loc op args,d,⟨h1,h2,h3,h4,h5⟩,hd,⟨w1,w2,w3⟩=>by
  simp [PEx.dep] at hd;simp [PEx.ask,];refine ⟨⟨Zq,?_⟩,?_⟩
  . rw [h2];unfold J8 Qt inB;have f:k=1\/k=2\/k=3\/k=4\/k=5\/k=6:=Zq;rcases f with rfl|rfl|rfl|rfl|rfl|rfl
    . rw [if_pos (show val n from ⟨Zq,Zq⟩)];rfl
    . have ⟨a,b⟩:=w1 rfl;rw [if_neg Zw,if_pos rfl,if_pos]
      . rfl
      grind
    . rw [if_neg Zw,if_neg Zw,if_pos rfl,if_pos (by grind)];rfl
    . rfl
    . rfl
    rw [if_neg Zw,if_neg Zw,if_neg Zw,if_neg Zw,if_pos rfl,if_pos Zq];rfl
  have:=C6 (d:=d - 1) h5 Zq w3;grind
def C6 {c}{lo}: ∀ {l} {d},PEx.fits l->Ys l<=d->Dp c lo l->Nj c lo l d=true
 | [],_,_,_,_=>rfl
 |e::r,d,⟨h1,h2⟩,hd,⟨w1,w2⟩=>by
  simp [Ys] at hd;simp [Nj];exact ⟨Fk h1 Zq w1,C6 h2 Zq w2⟩
end
def slotB_of {c}{k slot other}{loc}(hk:1<=k/\k<=15)(h:ownOk c lo k slot other loc)(hl:k=1->loc=true):Ds c lo k slot other loc=true:=by
 have ⟨j,i,g,f,e,d,b,a⟩:=h
 have cl: ∀ {s:Int},vaOk c lo s loc->Qt c lo s loc=true:=fun {s} h=>by
  grind [Qt,inB,vaOk]
 grind [inB,Ds]
def partB_of {c}{k}{nb ne}(hm:Zwf k nb ne=false)(he:k<=5\/k=11\/k=15->e.ask c lo 24=true)(hx:k=3->ix.ask c lo 24=true):Ll c lo k e ix nb ne=true:=by
 grind [Zwf,Ll]
mutual
def Zzu {c}{lo}: ∀ (s:PStm) (f:Fnd) (d:Nat),s.may d=true->(f.stmt s).1.flaw=0->0<=f.stm->(f.stmt s).2.wl c lo->(f.stmt s).2.ask c lo d f.stm=some (f.stmt s).1.stm/\0<=(f.stmt s).1.stm
 | .mk k ln cl nm wt e ix body els id slot other loc,f,d,hm,h,hz,hw=>by
  simp only [PStm.may] at hm;split at hm;cases hm
  rename_i x;split at hm;cases hm
  split at hm;cases hm
  split at hm;cases hm
  rename_i m4;rw [bA] at hm;unfold Zwg at x;simp [] at x;simp [Fnd.stmt] at h hw|-;split at h
  . grind [Jc]
  rename_i h5;rw [if_neg h5] at hw|-;dsimp only at h hw|-;obtain ⟨y,t⟩: ∃ g:Fnd,g= { f with stm:=f.stm+1 } :=⟨_,rfl⟩;rw [<-t] at h hw|-;have ⟨v,q⟩:=lV (y.expr ix);rw [<-q] at h hw|-;have ⟨f2,p⟩:=lV (v.1.expr e);rw [<-p] at h hw|-;have ⟨j,i⟩:=lV (f2.1.own k nm wt slot other loc);rw [<-i] at h hw|-;have ⟨u,o⟩:=lV (j.1.blk body);rw [<-o] at h hw|-;obtain ⟨r,m⟩: ∃ g:Fnd,g= { u.1 with names:=j.1.names,locals:=j.1.locals } :=⟨_,rfl⟩;rw [<-m] at h hw|-;have ⟨f5,n⟩:=lV (r.blk els);rw [<-n] at h hw|-;have q5:=Ks els r (by grind);have q4:u.1.flaw=0:=by grind
  have q2:f2.1.flaw=0:=Io (by rw [<-i];exact (Ks body j.1 (by grind)));have p2:=(Hl (c:=c) (lo:=lo) e v.1 (by grind)).1;rw [<-p] at p2;have q1:v.1.flaw=0:=by grind
  have p1:=(Hl (c:=c) (lo:=lo) ix y (by grind)).1;rw [<-q] at p1;have s3:j.1.stm=f.stm+1:=by grind [Zvh]
  have ⟨w1,w2,w3,w4,w5,w6,w7⟩:=hw;have b4:=N5 (c:=c) (lo:=lo) body j.1 (d+1) hm.1 (by grind) Zq (by grind);rw [<-o] at b4;have s4:r.stm=u.1.stm:=by rw [m]
  have b5:=N5 (c:=c) (lo:=lo) els r (d+1) hm.2 (by grind) Zq (by grind);rw [<-n] at b5;refine ⟨?_,b5.2.2⟩;simp only [PStm.ask];rw [if_neg Zq,if_pos]
  . grind
  rw [bA];refine ⟨partB_of (by grind) (fun l=> ?_) (fun l=> ?_),slotB_of w1 w5 (fun l=>by subst l;rw [i];rfl)⟩
  . have ⟨a,b,z⟩:=w2 l;exact Fk a b z
  have ⟨a,b,z⟩:=w3 l;exact Fk a b z
def N5 {c}{lo}: ∀ (l:List PStm) (f:Fnd) (d:Nat),Y2 l d=true->(f.blk l).1.flaw=0->0<=f.stm->Wv c lo (f.blk l).2->Z8 c lo (f.blk l).2 d f.stm=some (f.blk l).1.stm/\(f.blk l).2.length=l.length/\0<=(f.blk l).1.stm
 | [],f,d,_,_,hz,_=>⟨rfl,rfl,hz⟩
 |s::r,f,d,hm,h,hz,hw=>by
  simp [Y2] at hm;simp [Fnd.blk] at h hw|-;split at h
  . rename_i e;rw [if_pos e] at hw|-;have a:=Zzu s f d hm.1 (Ks r _ h) hz hw.1;have b:=N5 r (f.stmt s).1 d hm.2 h a.2 hw.2;refine ⟨?_,by simp [b.2.1],b.2.2⟩;simp [Z8];rw [a.1];exact b.1
  rename_i e;exact aV h e
end
def Eg {c}{t}{m k}: ∀ {l} {n},Vk c l n=some m->(0<=t.loc/\t.loc<=32)->Z8 c t.loc t.body 1 m=some k->Vk c (l++ [t]) n=some k
 | [],n,h,ht,hk=>by
  cases h
  simp only [bL,Vk];rw [if_neg Zq,hk]
 |x::r,n,h,ht,hk=>by
  simp only [Vk] at h;simp only [bN,Vk];split at h
  . cases h
  rename_i a;rw [if_neg a];split at h
  . cases h
  exact Eg h ht hk
def BInv.next {d f}{b}(hb:U1 b)(h:BInv (fun _=>True) d f)(hf:(f.bodies i [b]).flaw=0):BInv (fun _=>True) d (f.bodies i [b]):=
 BInv.bodies (fun x a=>by grind) h hf
def Nx {f:Fnd}{r}(h:(f.bodies i r).flaw=0):f.flaw=0:=by
 cases r<;>grind [Fnd.bodies]
def B6 {d}: ∀ {bs} {i} {f},(∀ b∈bs,Y2 b 1=true)->BInv (fun _=>True) d f->f.ths.length=i+bs.length->Vk d.cn (f.ths.take i) 0=some f.stm->(f.bodies i bs).flaw=0->Vk d.cn (f.bodies i bs).ths 0=some (f.bodies i bs).stm
 | [],i,f,_,_,hl,ha,_=>by
  rw [aT,kC] at hl;rw [<-hl,bR] at ha;exact ha
 |b::r,i,f,hb,h,hl,ha,hf=>by
  have o:=Nx hf
  have e0:f.bodies i (b::r)=(f.bodies i [b]).bodies (i+1) r:=by
   conv=>lhs;unfold Fnd.bodies
   conv=>rhs;arg 1;unfold Fnd.bodies
   rw [if_pos o,if_pos o];rw [show ∀ (g:Fnd) (j:Nat),g.bodies j []=g from fun _ _=>rfl]
  rw [e0] at hf|-;have p:=Nx hf;have m:=hb b (bO ..)
  have u:f.bodies i [b]= { (Fnd.blk { f with most:=0 } b).1 with names:=f.names,locals:=f.locals,ths:=(Fnd.blk { f with most:=0 } b).1.ths.set i ⟨((Fnd.blk { f with most:=0 } b).1.ths.getD i ⟨em,0, []⟩).nm,(Fnd.blk { f with most:=0 } b).1.most,(Fnd.blk { f with most:=0 } b).2⟩ } :=by
   unfold Fnd.bodies;rw [if_pos o];rfl
  have ⟨q,k⟩:=lV (Fnd.blk { f with most:=0 } b);rw [<-k] at u;have to:=gZ b { f with most:=0 };rw [<-k] at to;have ⟨t1,t2,t3,t4,t5,t,_⟩:=to.e;have s:q.1.flaw=0:=by rw [u] at p;exact p
  have ⟨j1,j2,j3,j4,j5,j6,z⟩:=h.e;have w:=Nb b { f with most:=0 } (Uy m) (by rw [<-k];exact s) ⟨by rw [z,h.l.1];exact h.n,by dsimp only;rw [h.l.1];decide,h.l.2⟩;rw [<-k] at w;have a:=N5 b { f with most:=0 } 1 m (by rw [<-k];exact s) h.l.2 (by rw [<-k];exact w.2.2);rw [<-k] at a;have hi:i<q.1.ths.length:=by rw [t,hl];simp
  refine B6 (fun x hx=>hb x (bQ _ hx)) (BInv.next (Uy m) h p) ?_ ?_ hf
  . rw [u];rw [aR,t,hl];simp;omega
  rw [u];rw [aM (by rw [aR];exact hi),List.take_set_of_le (aS i),aY,t];exact Eg ha ⟨w.2.1,w.1.l.2.2⟩ a.1
theorem Zfl (l:List Int)(x:Int):Wy (l++ [x])=Wy l+x:=by
 induction l<;>grind [Wy,List.cons_append]
structure DNum (f:Fnd):Prop where
 n:f.vars.length+f.arrs.length+f.mu+f.co+f.chs.length+f.ths.length=f.names.length
 s:Wy f.arrs=f.cells/\f.cells<=256
 k:f.nv.length<=f.names.length/\f.na.length<=f.names.length/\f.nm.length<=f.names.length/\f.nc.length<=f.names.length/\f.nh.length<=f.names.length
def DNum.z:DNum Fnd.z:=⟨rfl,⟨rfl,Zw⟩,Zw⟩
theorem DNum.decl {f}(h:DNum f)(hf:(f.decl d).flaw=0)(hk:1<=d.k/\d.k<=6):DNum (f.decl d):=by
 have i: ∃ g s,f.decl d= { g with names:=f.names++ [⟨d.nm,d.k,s⟩] } /\g=(f.decl1 d).1/\(f.decl1 d).2.2=true:=by
  grind [Fnd.decl,Jc,Fnd.decl1]
 have ⟨g,s,m,a,c⟩:=i;rw [m];have ⟨t,⟨l,j⟩,r,q,p,o,n⟩:=h;have b:d.k=1\/d.k=2\/d.k=3\/d.k=4\/d.k=5\/d.k=6:=Zq;unfold Fnd.decl1 at a c;rcases b with b|b|b|b|b|b
 focus
  rw [if_pos b] at a c;split at c
  . cases c
  rename_i e;rw [if_neg e] at a;subst a
 rotate_left
 . rw [if_neg Zq,if_pos b] at a c;split at c
   . cases c
   rename_i e;rw [if_neg e] at a;subst a;exact ⟨Zi,⟨by grind [Zfl],by grind⟩,Zi⟩
 focus
  rw [if_neg Zq,if_neg Zq,if_pos b] at a c;subst a
 rotate_left
 focus
  rw [if_neg Zq,if_neg Zq,if_neg Zq,if_pos b] at a c;subst a
 rotate_left
 focus
  rw [if_neg Zq,if_neg Zq,if_neg Zq,if_neg Zq,if_pos b] at a c;split at c
  . cases c
  rename_i e;rw [if_neg e] at a;subst a
 rotate_left
 focus
  rw [if_neg Zq,if_neg Zq,if_neg Zq,if_neg Zq,if_neg Zq,if_pos b] at a c;subst a
 all_goals
  exact ⟨Zi,⟨l,j⟩,Zi⟩
def DNum.decls: ∀ {ds} {f},DNum f->(∀ d∈ds,1<=d.k/\d.k<=6)->(f.decls ds).flaw=0->DNum (f.decls ds)
 | [],_,h,_,_=>h
 |d::r,f,h,hd,hf=>by
  unfold Fnd.decls at hf|-;split at hf
  . rename_i a;rw [if_pos a]
    have c:(f.decl d).flaw=0:=by
     cases r with
     |nil=>exact hf
     |cons x r=>
      unfold Fnd.decls at hf;split at hf
      . assumption
      exact hf
    exact DNum.decls (h.decl c (hd d (bO ..))) (fun x b=>hd x (bQ _ b)) hf
  rename_i a;exact aV hf a
def Et: ∀ {ds} {f:Fnd},f.flaw=0->(f.decls ds).flaw=0->(f.decls ds).ths.length=f.ths.length+(ds.filter fun d=>d.k==6).length
 | [],_,_,_=>rfl
 |d::r,f,h0,hf=>by
  unfold Fnd.decls at hf|-;rw [if_pos h0] at hf|-
  have a:(f.decl d).flaw=0:=by
   cases r with
   |nil=>exact hf
   |cons x r=>
    unfold Fnd.decls at hf;split at hf
    . assumption
    exact hf
  rw [Et a hf,Ri h0 a,jM];by_cases hk:d.k=6
  . rw [if_pos hk,if_pos (by simpa using hk),aJ];omega
  rw [if_neg hk,if_neg (by simpa using hk)];omega
def R3: ∀ {bs} {i} {f:Fnd},(f.bodies i bs).nv=f.nv/\(f.bodies i bs).na=f.na/\(f.bodies i bs).nm=f.nm/\(f.bodies i bs).nc=f.nc/\(f.bodies i bs).nh=f.nh
 | [],_,_=>⟨rfl,rfl,rfl,rfl,rfl⟩
 |b::r,i,f=>by
  unfold Fnd.bodies;split
  . have ⟨_,_,_,_,_,_,_,h,g,d,c,a,_⟩:=((gZ b { f with most:=0 }).e);obtain ⟨n,m,l,k,j⟩:=R3;exact ⟨n.trans h,m.trans g,l.trans d,k.trans c,j.trans a⟩
  exact ⟨rfl,rfl,rfl,rfl,rfl⟩
theorem bad_mays (h:d.bad=false):Y2 d.body 1=true:=by
 grind [PDec.bad,Zwh]
structure FndOk (F:Fnd):Prop where
 m:Bg F=true
 k:F.nv.length<=64/\F.na.length<=64/\F.nm.length<=64/\F.nc.length<=64/\F.nh.length<=64
theorem find_may {ds}(h:Ci ds=some F):FndOk F:=by
 have u:=Sl (P:=fun _=>True) h trivial (fun _ _ _ _=>trivial);unfold Ci at h;split at h
 . cases h
 rename_i b0
 have p: ∀ d∈ds,d.bad=false:=fun d hd=>by
  grind
 dsimp only at h;obtain ⟨f,w⟩:=lV (Fnd.decls .z ds);rw [<-w] at h;obtain ⟨r,a0⟩: ∃ r,r=(if f.flaw=0/\(f.at Ml=0\/((f.names.map (·.k)).getD (f.at Ml - 1) 0)≠6) then f.fl 133 else f):=⟨_,rfl⟩;rw [<-a0] at h;obtain ⟨bs,q⟩:=lV ((ds.filter fun d=>d.k==6).map (·.body));rw [<-q] at h;by_cases hfl:(r.bodies 0 bs).flaw≠0
 . grind
 rw [if_neg hfl] at h
 cases h
 have j:=Decidable.not_not.1 hfl;have z1:r.flaw=0:=Nx j
 have hm:r=f/\f.flaw=0:=by
  grind [Jc]
 have x:(Fnd.decls .z ds).flaw=0:=by grind
 have D:DInv f:=by
  rw [w];exact DInv.decls .z (fun d hd=>⟨(Zq8 (p d hd)).1,bad_nm (p d hd)⟩) x
 have E:DNum f:=by
  rw [w];exact DNum.decls .z (fun d hd=>(Zq8 (p d hd)).1) x
 have c0:f.ths.length=bs.length:=by
  have:=Et (f:= .z) rfl x;rw [w,this,q,aI];show 0+_=_;omega
 rw [hm.1] at j u|-
 have o: ∀ b∈bs,Y2 b 1=true:=fun b hb=>by
  grind [bad_mays]
 have B0:BInv (fun _=>True) f f:=⟨⟨rfl,rfl,rfl,rfl,rfl,rfl,rfl⟩,D.n,⟨D.l.1,by rw [D.l.2];decide⟩,fun t ht=>by
  obtain ⟨a,b,c⟩:=D.t t ht;exact ⟨a,Zq,by rw [c];trivial,trivial⟩⟩
 have B:=BInv.bodies (i:=0) (fun b hb=>⟨Uy (o b hb),fun _=>trivial⟩) B0 j;have A:=B6 (i:=0) o B0 Zq (by show some (0:Int)=some f.stm;rw [D.l.2]) j;have K:=R3 (bs:=bs) (i:=0) (f:=f);obtain ⟨g,hg⟩:=lV (f.bodies 0 bs);rw [<-hg] at B A K u|-;obtain ⟨b1,b2,b3,b4,b5,b6,b7⟩:=B.e;obtain ⟨mn,y⟩:=lV ((g.names.map (·.s)).getD (f.at Ml - 1) 0);rw [<-y] at u|-;have cn:Fnd.cn { g with main:=mn } =f.cn:=by grind [Fnd.cn]
 obtain ⟨k1,k2,k3,k4,k5,k6,k7⟩:=D.k;have en:=E.n;refine ⟨?_,?_⟩
 . unfold Bg;rw [bA,bA];refine ⟨⟨?_,?_⟩,?_⟩
   . unfold Zqf;rw [dQ];dsimp only;rw [b1,b2,b3,b4,b5,b6];refine ⟨Zq,Zq,Zq,fun v hv=>D.v v hv,D.a,D.c,by rw [E.s.1];exact E.s.2⟩
   . unfold inB;rw [dQ];exact u.m
   grind
 dsimp only;rw [K.1,K.2.1,K.2.2.1,K.2.2.2.1,K.2.2.2.2];have:=E.k;omega
def Hy {l}(h:U6 l=some F):FndOk F:=by
 grind [U6,find_may]
mutual
theorem Xu {B}: ∀ {s:Stm},s.er.wt<=B->s.lm B/\s.sz<=B
 | .mk k ln cl nm wt e ix body els ba bc ea ec id sl ot lo,h=>by
  simp only [Stm.er,PStm.wt,Yk] at h;have d:=Rm body;have c:=Rm els;exact ⟨⟨Zq,Zq,Rc (B:=B) (l:=body) Zq,Rc (B:=B) (l:=els) Zq⟩,by grind [Stm.sz]⟩
theorem Rc {B}: ∀ {l},Za (Zk l)<=B->V1 B l
 | [],_=>trivial
 |s::r,h=>by
  simp only [Zk,Za] at h;exact ⟨(Xu Zq).1,Rc Zq⟩
theorem Rm: ∀ (l:List Stm),Zn l<=Za (Zk l)
 | []=>aZ _
 |s::r=>by
  simp only [Zk,Za,Zn];have b:=(Xu (s:=s) (aS _)).2;have a:=Rm r;omega
end
def FC.cp {l}(h:U6 l=some g.er):CpOk (14*65536) g:=by
 obtain ⟨p,s⟩:=P7 h;obtain ⟨o,n,j,i,d⟩:=(Hy h).k;obtain ⟨c,b,a,r,_,_⟩:=p.k;have e:g.er.ths.length=g.ths.l.length:=by show (g.ths.l.map Th.er).length=_;rw [aI]
 rw [e] at r;have c:g.vars.l.length<=64:=c;have b:g.arrs.l.length<=64:=b;have a:g.chs.l.length<=64:=a;have o:g.nv.l.length<=64:=o;have n:g.na.l.length<=64:=n;have j:g.nm.l.length<=64:=j;have i:g.nc.l.length<=64:=i;have d:g.nh.l.length<=64:=d;refine ⟨Zq,Zw,fun x q=> ?_⟩;have:=(p.t _ (cW (f:=Th.er) q)).p;grind [Th.er,Rm,Rc]
def Lc {k}(h:k≠3)(h2:k<=5\/k=11\/k=15):Js k e ix id t= [⟨23,id,0,0⟩]++e.code (t+1):=by
 unfold Js;dsimp only;rw [if_neg h,if_pos h2];rfl
def preS_3 :Js 3 e ix id t= [⟨23,id,0,0⟩]++ix.code (t+1)++e.code (t+1+(ix.code (t+1)).length):=by
 unfold Js;dsimp only;rw [if_pos rfl,if_pos Zw];congr 2;simp;omega
def Lu {k}(h:k≠3)(h2: ¬ (k<=5\/k=11\/k=15)):Js k e ix id t= [⟨23,id,0,0⟩]:=by
 unfold Js;dsimp only;rw [if_neg h,if_neg h2]
def code_ln {m}{k l c}{n w}{x}{b s}{i}{lo}(h:k≠4/\k≠5):(PStm.mk k l c n w e x b s i sl ot lo).code m t=lnd (Js k e x i t++V7 m k sl ot lo) l:=by
 unfold PStm.code;rw [if_neg h.1,if_neg h.2]
section
variable {p:Nat}{i:Ins}
def Zbh {ba}(hK:Kn q fun M=>StAt M ⟨b,o,none⟩ (Stm.mk kk l1 cl nm1 wt1 Ep Xp bd es2 ba bc ea2 ec2 id sl ot lo_))(hw:(Stm.er (Stm.mk kk l1 cl nm1 wt1 Ep Xp bd es2 ba bc ea2 ec2 id sl ot lo_)).wl g.er.cn lw)(hl:K.length+(Stm.er (Stm.mk kk l1 cl nm1 wt1 Ep Xp bd es2 ba bc ea2 ec2 id sl ot lo_)).wt<=1000000000)(hg:GO q)(hP:Prg q pp g)(hk:kk=1\/kk=2):CF G 166 (Aa p b o) (coH p pp nm (K++ [(⟨23,id,0,0⟩,l1)]) l1::q) (Ret fun v q'=> ∃ ln2,q'=coH p pp nm (K++(Stm.er (Stm.mk kk l1 cl nm1 wt1 Ep Xp bd es2 ba bc ea2 ec2 id sl ot lo_)).code g.main K.length) ln2::q):=by
 refine aE ntmps166 fun F cs=> ?_;obtain ⟨u,t,d,a,e,c,el,w,ec⟩:=Ep;obtain ⟨xk,xn,r,xsl,s,n,xl,xa,xc⟩:=Xp;have k0:=gM hK;have h0:Kn q fun M=>ExAt M ⟨b,o+12,none⟩ (Ex.mk xk xn r xsl s n xl xa xc):=hK.imp fun M h=>Wl (pre:= (A3 kk l1 cl nm1 wt1)++exC (Ex.mk u t d a e c el w ec)) h.1 rfl h.2.2.1 rfl
 have j0:Kn q fun M=>BlkAt M ba bc bd:=hK.imp fun M h=>h.2.2.2.1;have i0:Kn q fun M=>BlkAt M ea2 ec2 es2:=hK.imp fun M h=>⟨h.2.2.2.2.1,h.2.2.2.2.2⟩
 simp only [Stm.er,PStm.wl] at hw;simp only [Stm.er,PStm.wt,Yk] at hl;obtain ⟨K0,j⟩: ∃ k:List (Ins×Int),k=K++ [(⟨23,id,0,0⟩,l1)]:=⟨_,rfl⟩;rw [<-j];have f:K0.length=K.length+1:=(by rw [j];simp);obtain ⟨R,m⟩:=lV ((Stm.er (Stm.mk kk l1 cl nm1 wt1 (Ex.mk u t d a e c el w ec) (Ex.mk xk xn r xsl s n xl xa xc) bd es2 ba bc ea2 ec2 id sl ot lo_)).code g.main K.length);rw [<-m];simp only [Stm.er] at m;obtain ⟨C0,l⟩: ∃ C,(Ex.er (Ex.mk u t d a e c el w ec)).code (K.length+1)=C:=⟨_,rfl⟩;have y:=Z1 (Ex.er (Ex.mk u t d a e c el w ec)) (K.length+1);rw [l,Yk] at y;rw [code_ln Zq] at m;rw [Lc Zq Zq,l] at m;rw [show V7 g.main kk sl ot lo_= [intoS sl lo_] by rcases hk with rfl|rfl<;>rfl] at m;refine Zz ?_;refine Zv Zj (Rv _ (aS _) (by rw [f];omega) (cO (hK.imp fun M h=>Wl (pre:= (A3 kk l1 cl nm1 wt1)) h.1 rfl h.2.1 rfl)) (hg.le leA) (hw.2.1 Zq).1) ?_;rintro _ _ rfl;rw [show ((K0.length:Nat):Int)=K.length+1 by rw [f];omega,l];obtain ⟨K1,i⟩: ∃ k:List (Ins×Int),k=K0++lnd C0 l1:=⟨_,rfl⟩;rw [<-i];have a0:K1.length=K.length+1+C0.length:=(by rw [i];rw [aA,f,Yx]);refine Zz ?_;apply Wk 9 Zj (Zkf Zq);rintro _ _ rfl;refine ⟨trivial,?_⟩;refine Zg ?_;exact ⟨_,⟨_,rfl,l1,rfl⟩,(by rw [m];simp only [i,j,lnd,aN,bG,dF,aO,bN,bL];exact leA)⟩
def csend_ok {ba}(hK:Kn q fun M=>StAt M ⟨b,o,none⟩ (Stm.mk kk l1 cl nm1 wt1 Ep Xp bd es2 ba bc ea2 ec2 id sl ot lo_))(hw:(Stm.er (Stm.mk kk l1 cl nm1 wt1 Ep Xp bd es2 ba bc ea2 ec2 id sl ot lo_)).wl g.er.cn lw)(hl:K.length+(Stm.er (Stm.mk kk l1 cl nm1 wt1 Ep Xp bd es2 ba bc ea2 ec2 id sl ot lo_)).wt<=1000000000)(hg:GO q)(hP:Prg q pp g)(hk:kk=11):CF G 172 (Aa p b o) (coH p pp nm (K++ [(⟨23,id,0,0⟩,l1)]) l1::q) (Ret fun v q'=> ∃ ln2,q'=coH p pp nm (K++(Stm.er (Stm.mk kk l1 cl nm1 wt1 Ep Xp bd es2 ba bc ea2 ec2 id sl ot lo_)).code g.main K.length) ln2::q):=by
 refine aE ntmps172 fun F cs=> ?_;obtain ⟨u,t,d,a,e,c,el,w,ec⟩:=Ep;obtain ⟨xk,xn,r,xsl,s,n,xl,xa,xc⟩:=Xp;have k0:=gM hK;have h0:Kn q fun M=>ExAt M ⟨b,o+12,none⟩ (Ex.mk xk xn r xsl s n xl xa xc):=hK.imp fun M h=>Wl (pre:= (A3 kk l1 cl nm1 wt1)++exC (Ex.mk u t d a e c el w ec)) h.1 rfl h.2.2.1 rfl
 have j0:Kn q fun M=>BlkAt M ba bc bd:=hK.imp fun M h=>h.2.2.2.1;have i0:Kn q fun M=>BlkAt M ea2 ec2 es2:=hK.imp fun M h=>⟨h.2.2.2.2.1,h.2.2.2.2.2⟩
 simp only [Stm.er,PStm.wl] at hw;simp only [Stm.er,PStm.wt,Yk] at hl;obtain ⟨K0,j⟩: ∃ k:List (Ins×Int),k=K++ [(⟨23,id,0,0⟩,l1)]:=⟨_,rfl⟩;rw [<-j];have f:K0.length=K.length+1:=(by rw [j];simp);obtain ⟨R,m⟩:=lV ((Stm.er (Stm.mk kk l1 cl nm1 wt1 (Ex.mk u t d a e c el w ec) (Ex.mk xk xn r xsl s n xl xa xc) bd es2 ba bc ea2 ec2 id sl ot lo_)).code g.main K.length);rw [<-m];simp only [Stm.er] at m;obtain ⟨C0,l⟩: ∃ C,(Ex.er (Ex.mk u t d a e c el w ec)).code (K.length+1)=C:=⟨_,rfl⟩;have y:=Z1 (Ex.er (Ex.mk u t d a e c el w ec)) (K.length+1);rw [l,Yk] at y;rw [code_ln Zq] at m;rw [Lc Zq Zq,l] at m;rw [show V7 g.main kk sl ot lo_= [⟨29,sl,0,0⟩] by subst hk;rfl] at m;refine Zz ?_;refine Zv Zj (Rv _ (aS _) (by rw [f];omega) (cO (hK.imp fun M h=>Wl (pre:= (A3 kk l1 cl nm1 wt1)) h.1 rfl h.2.1 rfl)) (hg.le leA) (hw.2.1 Zq).1) ?_;rintro _ _ rfl;rw [show ((K0.length:Nat):Int)=K.length+1 by rw [f];omega,l];obtain ⟨K1,i⟩: ∃ k:List (Ins×Int),k=K0++lnd C0 l1:=⟨_,rfl⟩;rw [<-i];have a0:K1.length=K.length+1+C0.length:=(by rw [i];rw [aA,f,Yx]);refine Zz ?_;apply Zv Zj (Q8 Zq);rintro _ _ rfl;refine Zg ?_;exact ⟨_,⟨_,rfl,l1,rfl⟩,(by rw [m];simp only [i,j,lnd,aN,bG,dF,aO,bN,bL];exact leA)⟩
def Zhq {ba}(hK:Kn q fun M=>StAt M ⟨b,o,none⟩ (Stm.mk kk l1 cl nm1 wt1 Ep Xp bd es2 ba bc ea2 ec2 id sl ot lo_))(hw:(Stm.er (Stm.mk kk l1 cl nm1 wt1 Ep Xp bd es2 ba bc ea2 ec2 id sl ot lo_)).wl g.er.cn lw)(hl:K.length+(Stm.er (Stm.mk kk l1 cl nm1 wt1 Ep Xp bd es2 ba bc ea2 ec2 id sl ot lo_)).wt<=1000000000)(hg:GO q)(hP:Prg q pp g)(hk:kk=15):CF G 176 (Aa p b o) (coH p pp nm (K++ [(⟨23,id,0,0⟩,l1)]) l1::q) (Ret fun v q'=> ∃ ln2,q'=coH p pp nm (K++(Stm.er (Stm.mk kk l1 cl nm1 wt1 Ep Xp bd es2 ba bc ea2 ec2 id sl ot lo_)).code g.main K.length) ln2::q):=by
 refine aE ntmps176 fun F cs=> ?_;obtain ⟨w,u,d,a,e,c,el,x,ec⟩:=Ep;obtain ⟨xk,xn,s,xsl,t,r,xl,xa,xc⟩:=Xp;have l0:=gM hK;have i0:Kn q fun M=>ExAt M ⟨b,o+12,none⟩ (Ex.mk xk xn s xsl t r xl xa xc):=hK.imp fun M h=>Wl (pre:= (A3 kk l1 cl nm1 wt1)++exC (Ex.mk w u d a e c el x ec)) h.1 rfl h.2.2.1 rfl
 have k0:Kn q fun M=>BlkAt M ba bc bd:=hK.imp fun M h=>h.2.2.2.1;have j0:Kn q fun M=>BlkAt M ea2 ec2 es2:=hK.imp fun M h=>⟨h.2.2.2.2.1,h.2.2.2.2.2⟩
 simp only [Stm.er,PStm.wl] at hw;simp only [Stm.er,PStm.wt,Yk] at hl;obtain ⟨K0,l⟩: ∃ k:List (Ins×Int),k=K++ [(⟨23,id,0,0⟩,l1)]:=⟨_,rfl⟩;rw [<-l];have f:K0.length=K.length+1:=(by rw [l];simp);obtain ⟨R,n⟩:=lV ((Stm.er (Stm.mk kk l1 cl nm1 wt1 (Ex.mk w u d a e c el x ec) (Ex.mk xk xn s xsl t r xl xa xc) bd es2 ba bc ea2 ec2 id sl ot lo_)).code g.main K.length);rw [<-n];simp only [Stm.er] at n;obtain ⟨C0,m⟩: ∃ C,(Ex.er (Ex.mk w u d a e c el x ec)).code (K.length+1)=C:=⟨_,rfl⟩;have z:=Z1 (Ex.er (Ex.mk w u d a e c el x ec)) (K.length+1);rw [m,Yk] at z;rw [code_ln Zq] at n;rw [Lc Zq Zq,m] at n;rw [show V7 g.main kk sl ot lo_= [⟨33,0,0,0⟩] by subst hk;rfl] at n;refine Zz ?_;refine Zv Zj (Rv _ (aS _) (by rw [f];omega) (cO (hK.imp fun M h=>Wl (pre:= (A3 kk l1 cl nm1 wt1)) h.1 rfl h.2.1 rfl)) (hg.le leA) (hw.2.1 Zq).1) ?_;rintro _ _ rfl;rw [show ((K0.length:Nat):Int)=K.length+1 by rw [f];omega,m];obtain ⟨K1,j⟩: ∃ k:List (Ins×Int),k=K0++lnd C0 l1:=⟨_,rfl⟩;rw [<-j];have b0:K1.length=K.length+1+C0.length:=(by rw [j];rw [aA,f,Yx]);refine Zz ?_;refine Zv Zj (J4 (i:=⟨33,0,0,0⟩) Zq) ?_;rintro _ _ rfl;refine Zg ?_;exact ⟨_,⟨_,rfl,l1,rfl⟩,(by rw [n];simp only [j,l,lnd,aN,bG,dF,aO,bN,bL];exact leA)⟩
def Zg8 {ba}(hK:Kn q fun M=>StAt M ⟨b,o,none⟩ (Stm.mk kk l1 cl nm1 wt1 Ep Xp bd es2 ba bc ea2 ec2 id sl ot lo_))(hw:(Stm.er (Stm.mk kk l1 cl nm1 wt1 Ep Xp bd es2 ba bc ea2 ec2 id sl ot lo_)).wl g.er.cn lw)(hl:K.length+(Stm.er (Stm.mk kk l1 cl nm1 wt1 Ep Xp bd es2 ba bc ea2 ec2 id sl ot lo_)).wt<=1000000000)(hg:GO q)(hP:Prg q pp g)(hk:kk=3):CF G 167 (Aa p b o) (coH p pp nm (K++ [(⟨23,id,0,0⟩,l1)]) l1::q) (Ret fun v q'=> ∃ ln2,q'=coH p pp nm (K++(Stm.er (Stm.mk kk l1 cl nm1 wt1 Ep Xp bd es2 ba bc ea2 ec2 id sl ot lo_)).code g.main K.length) ln2::q):=by
 refine aE ntmps167 fun F cs=> ?_;obtain ⟨z,y,d,a,e,c,el,ea,ec⟩:=Ep;obtain ⟨xk,xn,i,xsl,j,f,xl,xa,xc⟩:=Xp;have o0:=gM hK;have f0:Kn q fun M=>ExAt M ⟨b,o+5,none⟩ (Ex.mk z y d a e c el ea ec):=hK.imp fun M h=>Wl (pre:= (A3 kk l1 cl nm1 wt1)) h.1 rfl h.2.1 rfl;have e0:Kn q fun M=>ExAt M ⟨b,o+12,none⟩ (Ex.mk xk xn i xsl j f xl xa xc):=hK.imp fun M h=>Wl (pre:= (A3 kk l1 cl nm1 wt1)++exC (Ex.mk z y d a e c el ea ec)) h.1 rfl h.2.2.1 rfl
 have n0:Kn q fun M=>BlkAt M ba bc bd:=hK.imp fun M h=>h.2.2.2.1;have m0:Kn q fun M=>BlkAt M ea2 ec2 es2:=hK.imp fun M h=>⟨h.2.2.2.2.1,h.2.2.2.2.2⟩
 simp only [Stm.er,PStm.wl] at hw;simp only [Stm.er,PStm.wt,Yk] at hl;obtain ⟨K0,s⟩: ∃ k:List (Ins×Int),k=K++ [(⟨23,id,0,0⟩,l1)]:=⟨_,rfl⟩;rw [<-s];have m:K0.length=K.length+1:=(by rw [s];simp);obtain ⟨R,x⟩:=lV ((Stm.er (Stm.mk kk l1 cl nm1 wt1 (Ex.mk z y d a e c el ea ec) (Ex.mk xk xn i xsl j f xl xa xc) bd es2 ba bc ea2 ec2 id sl ot lo_)).code g.main K.length);rw [<-x];simp only [Stm.er] at x;subst hk;rw [code_ln Zq] at x;obtain ⟨w,t⟩: ∃ C,(Ex.er (Ex.mk xk xn i xsl j f xl xa xc)).code (K.length+1)=C:=⟨_,rfl⟩;have c0:=Z1 (Ex.er (Ex.mk xk xn i xsl j f xl xa xc)) (K.length+1);rw [t,Yk] at c0;obtain ⟨C0,u⟩: ∃ C,(Ex.er (Ex.mk z y d a e c el ea ec)).code (K.length+1+w.length)=C:=⟨_,rfl⟩;have d0:=Z1 (Ex.er (Ex.mk z y d a e c el ea ec)) (K.length+1+w.length);rw [u,Yk] at d0;rw [preS_3,t,u,show V7 g.main 3 sl ot lo_= [⟨7,sl,0,0⟩] from rfl] at x;refine Zz ?_;refine Zv Zj (Rv _ (aS _) (by rw [m];omega) (cO e0) (hg.le leA) (hw.2.2.1 rfl).1) ?_;rintro _ _ rfl;rw [show ((K0.length:Nat):Int)=K.length+1 by rw [m];omega,t];obtain ⟨K1,r⟩: ∃ k:List (Ins×Int),k=K0++lnd w l1:=⟨_,rfl⟩;rw [<-r];have l:K1.length=K.length+1+w.length:=(by rw [r];rw [aA,m,Yx]);refine Zz ?_;refine Zv Zj (Rv _ (aS _) (by rw [l];omega) (cO f0) (hg.le leA) (hw.2.1 Zq).1) ?_;rintro _ _ rfl;rw [show ((K1.length:Nat):Int)=K.length+1+w.length by rw [l];omega,u];obtain ⟨K2,n⟩: ∃ k:List (Ins×Int),k=K1++lnd C0 l1:=⟨_,rfl⟩;rw [<-n];have g0:K2.length=K.length+1+w.length+C0.length:=(by rw [n];rw [aA,l,Yx]);refine Zz ?_;apply Zv Zj (Q8 Zq);rintro _ _ rfl;refine Zg ?_;exact ⟨_,⟨_,rfl,l1,rfl⟩,(by rw [x];simp only [n,r,s,lnd,aN,bG,dF,aO,bN,bL];exact leA)⟩
def Dh {ba}(hK:Kn q fun M=>StAt M ⟨b,o,none⟩ (Stm.mk kk l1 cl nm1 wt1 Ep Xp bd es2 ba bc ea2 ec2 id sl ot lo_))(hw:(Stm.er (Stm.mk kk l1 cl nm1 wt1 Ep Xp bd es2 ba bc ea2 ec2 id sl ot lo_)).wl g.er.cn lw)(hl:K.length+(Stm.er (Stm.mk kk l1 cl nm1 wt1 Ep Xp bd es2 ba bc ea2 ec2 id sl ot lo_)).wt<=1000000000)(hg:GO q)(hP:Prg q pp g)(hk:kk=6\/kk=7\/kk=9\/kk=10):CF G 170 (Aa p b o) (coH p pp nm (K++ [(⟨23,id,0,0⟩,l1)]) l1::q) (Ret fun v q'=> ∃ ln2,q'=coH p pp nm (K++(Stm.er (Stm.mk kk l1 cl nm1 wt1 Ep Xp bd es2 ba bc ea2 ec2 id sl ot lo_)).code g.main K.length) ln2::q):=by
 refine aE ntmps170 fun F cs=> ?_;obtain ⟨r,n,f,d,i,e,el,s,ec⟩:=Ep;obtain ⟨w,t,l,xsl,m,j,u,y,x⟩:=Xp;have l0:=gM hK;have j0:Kn q fun M=>ExAt M ⟨b,o+5,none⟩ (Ex.mk r n f d i e el s ec):=hK.imp fun M h=>Wl (pre:= (A3 kk l1 cl nm1 wt1)) h.1 rfl h.2.1 rfl;have h0:Kn q fun M=>ExAt M ⟨b,o+12,none⟩ (Ex.mk w t l xsl m j u y x):=hK.imp fun M h=>Wl (pre:= (A3 kk l1 cl nm1 wt1)++exC (Ex.mk r n f d i e el s ec)) h.1 rfl h.2.2.1 rfl
 have k0:Kn q fun M=>BlkAt M ba bc bd:=hK.imp fun M h=>h.2.2.2.1;have i0:Kn q fun M=>BlkAt M ea2 ec2 es2:=hK.imp fun M h=>⟨h.2.2.2.2.1,h.2.2.2.2.2⟩
 simp only [Stm.er,PStm.wl] at hw;simp only [Stm.er,PStm.wt,Yk] at hl;obtain ⟨K0,a⟩: ∃ k:List (Ins×Int),k=K++ [(⟨23,id,0,0⟩,l1)]:=⟨_,rfl⟩;rw [<-a];have z:K0.length=K.length+1:=(by rw [a];simp);obtain ⟨R,c⟩:=lV ((Stm.er (Stm.mk kk l1 cl nm1 wt1 (Ex.mk r n f d i e el s ec) (Ex.mk w t l xsl m j u y x) bd es2 ba bc ea2 ec2 id sl ot lo_)).code g.main K.length);rw [<-c];simp only [Stm.er] at c;rw [code_ln Zq] at c;rw [Lu Zq Zq] at c;rcases hk with rfl|rfl|rfl|rfl
 iterate 4
  focus
   refine Zz ?_;apply Zv Zj (Q8 Zq);rintro _ _ rfl;refine Zg ?_
  rotate_left
 . exact ⟨_,⟨_,rfl,l1,rfl⟩,(by rw [c,show V7 g.main 6 sl ot lo_= [⟨24,sl,0,0⟩] from rfl];simp only [a,lnd,aN,bG,dF,aO,bN,bL];exact leA)⟩
 . exact ⟨_,⟨_,rfl,l1,rfl⟩,(by rw [c,show V7 g.main 7 sl ot lo_= [⟨25,sl,0,0⟩] from rfl];simp only [a,lnd,aN,bG,dF,aO,bN,bL];exact leA)⟩
 . exact ⟨_,⟨_,rfl,l1,rfl⟩,(by rw [c,show V7 g.main 9 sl ot lo_= [⟨27,sl,0,0⟩] from rfl];simp only [a,lnd,aN,bG,dF,aO,bN,bL];exact leA)⟩
 exact ⟨_,⟨_,rfl,l1,rfl⟩,(by rw [c,show V7 g.main 10 sl ot lo_= [⟨28,sl,0,0⟩] from rfl];simp only [a,lnd,aN,bG,dF,aO,bN,bL];exact leA)⟩
def cwait_ok {ba}(hK:Kn q fun M=>StAt M ⟨b,o,none⟩ (Stm.mk kk l1 cl nm1 wt1 Ep Xp bd es2 ba bc ea2 ec2 id sl ot lo_))(hw:(Stm.er (Stm.mk kk l1 cl nm1 wt1 Ep Xp bd es2 ba bc ea2 ec2 id sl ot lo_)).wl g.er.cn lw)(hl:K.length+(Stm.er (Stm.mk kk l1 cl nm1 wt1 Ep Xp bd es2 ba bc ea2 ec2 id sl ot lo_)).wt<=1000000000)(hg:GO q)(hP:Prg q pp g)(hk:kk=8):CF G 171 (Aa p b o) (coH p pp nm (K++ [(⟨23,id,0,0⟩,l1)]) l1::q) (Ret fun v q'=> ∃ ln2,q'=coH p pp nm (K++(Stm.er (Stm.mk kk l1 cl nm1 wt1 Ep Xp bd es2 ba bc ea2 ec2 id sl ot lo_)).code g.main K.length) ln2::q):=by
 refine aE ntmps171 fun F cs=> ?_;obtain ⟨t,s,e,c,f,d,el,u,ec⟩:=Ep;obtain ⟨y,w,l,xsl,m,j,x,xa,z⟩:=Xp;have r:=gM hK;have k0:Kn q fun M=>ExAt M ⟨b,o+5,none⟩ (Ex.mk t s e c f d el u ec):=hK.imp fun M h=>Wl (pre:= (A3 kk l1 cl nm1 wt1)) h.1 rfl h.2.1 rfl;have i0:Kn q fun M=>ExAt M ⟨b,o+12,none⟩ (Ex.mk y w l xsl m j x xa z):=hK.imp fun M h=>Wl (pre:= (A3 kk l1 cl nm1 wt1)++exC (Ex.mk t s e c f d el u ec)) h.1 rfl h.2.2.1 rfl
 have l0:Kn q fun M=>BlkAt M ba bc bd:=hK.imp fun M h=>h.2.2.2.1;have j0:Kn q fun M=>BlkAt M ea2 ec2 es2:=hK.imp fun M h=>⟨h.2.2.2.2.1,h.2.2.2.2.2⟩
 simp only [Stm.er,PStm.wl] at hw;simp only [Stm.er,PStm.wt,Yk] at hl;obtain ⟨K0,a⟩: ∃ k:List (Ins×Int),k=K++ [(⟨23,id,0,0⟩,l1)]:=⟨_,rfl⟩;rw [<-a];have a0:K0.length=K.length+1:=(by rw [a];simp);obtain ⟨R,n⟩:=lV ((Stm.er (Stm.mk kk l1 cl nm1 wt1 (Ex.mk t s e c f d el u ec) (Ex.mk y w l xsl m j x xa z) bd es2 ba bc ea2 ec2 id sl ot lo_)).code g.main K.length);rw [<-n];simp only [Stm.er] at n;subst hk;rw [code_ln Zq] at n;rw [Lu Zq Zq,show V7 g.main 8 sl ot lo_= [⟨26,sl,ot,0⟩] from rfl] at n;refine Zz ?_;refine Wk 10 Zj (J4 (i:=⟨26,sl,ot,0⟩) Zq) ?_;rintro _ _ rfl;refine ⟨(hlF r),?_⟩;refine Zg ?_;exact ⟨_,⟨_,rfl,l1,rfl⟩,(by rw [n];simp only [a,lnd,aN,bG,dF,aO,bN,bL];exact leA)⟩
def crecv_ok {ba}(hK:Kn q fun M=>StAt M ⟨b,o,none⟩ (Stm.mk kk l1 cl nm1 wt1 Ep Xp bd es2 ba bc ea2 ec2 id sl ot lo_))(hw:(Stm.er (Stm.mk kk l1 cl nm1 wt1 Ep Xp bd es2 ba bc ea2 ec2 id sl ot lo_)).wl g.er.cn lw)(hl:K.length+(Stm.er (Stm.mk kk l1 cl nm1 wt1 Ep Xp bd es2 ba bc ea2 ec2 id sl ot lo_)).wt<=1000000000)(hg:GO q)(hP:Prg q pp g)(hk:kk=12):CF G 173 (Aa p b o) (coH p pp nm (K++ [(⟨23,id,0,0⟩,l1)]) l1::q) (Ret fun v q'=> ∃ ln2,q'=coH p pp nm (K++(Stm.er (Stm.mk kk l1 cl nm1 wt1 Ep Xp bd es2 ba bc ea2 ec2 id sl ot lo_)).code g.main K.length) ln2::q):=by
 refine aE ntmps173 fun F cs=> ?_;obtain ⟨r,n,e,c,f,d,el,s,ec⟩:=Ep;obtain ⟨w,t,j,xsl,l,i,u,y,x⟩:=Xp;have l0:=gM hK;have j0:Kn q fun M=>ExAt M ⟨b,o+5,none⟩ (Ex.mk r n e c f d el s ec):=hK.imp fun M h=>Wl (pre:= (A3 kk l1 cl nm1 wt1)) h.1 rfl h.2.1 rfl;have h0:Kn q fun M=>ExAt M ⟨b,o+12,none⟩ (Ex.mk w t j xsl l i u y x):=hK.imp fun M h=>Wl (pre:= (A3 kk l1 cl nm1 wt1)++exC (Ex.mk r n e c f d el s ec)) h.1 rfl h.2.2.1 rfl
 have k0:Kn q fun M=>BlkAt M ba bc bd:=hK.imp fun M h=>h.2.2.2.1;have i0:Kn q fun M=>BlkAt M ea2 ec2 es2:=hK.imp fun M h=>⟨h.2.2.2.2.1,h.2.2.2.2.2⟩
 simp only [Stm.er,PStm.wl] at hw;simp only [Stm.er,PStm.wt,Yk] at hl;obtain ⟨K0,a⟩: ∃ k:List (Ins×Int),k=K++ [(⟨23,id,0,0⟩,l1)]:=⟨_,rfl⟩;rw [<-a];have z:K0.length=K.length+1:=(by rw [a];simp);obtain ⟨R,m⟩:=lV ((Stm.er (Stm.mk kk l1 cl nm1 wt1 (Ex.mk r n e c f d el s ec) (Ex.mk w t j xsl l i u y x) bd es2 ba bc ea2 ec2 id sl ot lo_)).code g.main K.length);rw [<-m];simp only [Stm.er] at m;subst hk;rw [code_ln Zq] at m;rw [Lu Zq Zq,show V7 g.main 12 sl ot lo_= [⟨30,sl,0,0⟩,intoS ot lo_] from rfl] at m;refine Zz ?_;apply Zv Zj (Q8 Zq);rintro _ _ rfl;refine Zz ?_;apply Wk 9 Zj (Zkf Zi);rintro _ _ rfl;refine ⟨trivial,?_⟩;refine Zg ?_;exact ⟨_,⟨_,rfl,l1,rfl⟩,(by rw [m];simp only [a,lnd,aN,bG,dF,aO,bN,bL];exact leA)⟩
def cjoin_ok {ba}(hK:Kn q fun M=>StAt M ⟨b,o,none⟩ (Stm.mk kk l1 cl nm1 wt1 Ep Xp bd es2 ba bc ea2 ec2 id sl ot lo_))(hw:(Stm.er (Stm.mk kk l1 cl nm1 wt1 Ep Xp bd es2 ba bc ea2 ec2 id sl ot lo_)).wl g.er.cn lw)(hl:K.length+(Stm.er (Stm.mk kk l1 cl nm1 wt1 Ep Xp bd es2 ba bc ea2 ec2 id sl ot lo_)).wt<=1000000000)(hg:GO q)(hP:Prg q pp g)(hk:kk=14):CF G 175 (Aa p b o) (coH p pp nm (K++ [(⟨23,id,0,0⟩,l1)]) l1::q) (Ret fun v q'=> ∃ ln2,q'=coH p pp nm (K++(Stm.er (Stm.mk kk l1 cl nm1 wt1 Ep Xp bd es2 ba bc ea2 ec2 id sl ot lo_)).code g.main K.length) ln2::q):=by
 refine aE ntmps175 fun F cs=> ?_;obtain ⟨s,r,e,c,f,d,el,t,ec⟩:=Ep;obtain ⟨x,u,l,xsl,m,j,w,z,y⟩:=Xp;have m0:=gM hK;have k0:Kn q fun M=>ExAt M ⟨b,o+5,none⟩ (Ex.mk s r e c f d el t ec):=hK.imp fun M h=>Wl (pre:= (A3 kk l1 cl nm1 wt1)) h.1 rfl h.2.1 rfl;have i0:Kn q fun M=>ExAt M ⟨b,o+12,none⟩ (Ex.mk x u l xsl m j w z y):=hK.imp fun M h=>Wl (pre:= (A3 kk l1 cl nm1 wt1)++exC (Ex.mk s r e c f d el t ec)) h.1 rfl h.2.2.1 rfl
 have l0:Kn q fun M=>BlkAt M ba bc bd:=hK.imp fun M h=>h.2.2.2.1;have j0:Kn q fun M=>BlkAt M ea2 ec2 es2:=hK.imp fun M h=>⟨h.2.2.2.2.1,h.2.2.2.2.2⟩
 simp only [Stm.er,PStm.wl] at hw;simp only [Stm.er,PStm.wt,Yk] at hl;obtain ⟨K0,a⟩: ∃ k:List (Ins×Int),k=K++ [(⟨23,id,0,0⟩,l1)]:=⟨_,rfl⟩;rw [<-a];have a0:K0.length=K.length+1:=(by rw [a];simp);obtain ⟨R,n⟩:=lV ((Stm.er (Stm.mk kk l1 cl nm1 wt1 (Ex.mk s r e c f d el t ec) (Ex.mk x u l xsl m j w z y) bd es2 ba bc ea2 ec2 id sl ot lo_)).code g.main K.length);rw [<-n];simp only [Stm.er] at n;subst hk;rw [code_ln Zq] at n;rw [Lu Zq Zq,show V7 g.main 14 sl ot lo_= [⟨32,0,0,0⟩] from rfl] at n;refine Zz ?_;refine Zv Zj (J4 (i:=⟨32,0,0,0⟩) Zq) ?_;rintro _ _ rfl;refine Zg ?_;exact ⟨_,⟨_,rfl,l1,rfl⟩,(by rw [n];simp only [a,lnd,aN,bG,dF,aO,bN,bL];exact leA)⟩
def O0 (h:0<=u/\u<g.ths.l.length)(hb:g.ths.l.length<=1000000):CR G 113 [.agg (pgC g).toArray,I64 u] (q) (.tuple [I64 (Vr g.main u),.bool true].toArray):=by
 refine aE ntmps113 fun F cs=> ?_;refine Yb fun b=> ?_
 refine Ye ?_;refine' Yi ?_ (h0:=J2);refine Zp (fun a=> ?_) (fun a=> ?_) (h0:=J2)
 . refine Zm (q) ?_;exact ⟨_,rfl,by unfold Vr;rw [if_pos Zq],rfl⟩
 refine Zp ?_ ?_<;>intro c
 . refine Zm (q) ?_;exact ⟨_,rfl,by unfold Vr;rw [if_neg Zq,if_pos Zq],rfl⟩
 refine Zm (q) ?_;exact ⟨_,rfl,by unfold Vr;rw [if_neg Zq,if_neg Zq],rfl⟩
def Zg9 {ba}(hK:Kn q fun M=>StAt M ⟨b,o,none⟩ (Stm.mk kk l1 cl nm1 wt1 Ep Xp bd es2 ba bc ea2 ec2 id sl ot lo_))(hw:(Stm.er (Stm.mk kk l1 cl nm1 wt1 Ep Xp bd es2 ba bc ea2 ec2 id sl ot lo_)).wl g.er.cn lw)(hl:K.length+(Stm.er (Stm.mk kk l1 cl nm1 wt1 Ep Xp bd es2 ba bc ea2 ec2 id sl ot lo_)).wt<=1000000000)(hg:GO q)(hP:Prg q pp g)(hk:kk=13)(hb:g.ths.l.length<=1000000):CF G 174 (Aa p b o) (coH p pp nm (K++ [(⟨23,id,0,0⟩,l1)]) l1::q) (Ret fun v q'=> ∃ ln2,q'=coH p pp nm (K++(Stm.er (Stm.mk kk l1 cl nm1 wt1 Ep Xp bd es2 ba bc ea2 ec2 id sl ot lo_)).code g.main K.length) ln2::q):=by
 refine aE ntmps174 fun F cs=> ?_;obtain ⟨ek,z,j,f,m,i,el,ea,ec⟩:=Ep;obtain ⟨xk,xn,r,xsl,s,n,xl,xa,xc⟩:=Xp;have y:=gM hK;have j0:Kn q fun M=>ExAt M ⟨b,o+5,none⟩ (Ex.mk ek z j f m i el ea ec):=hK.imp fun M h=>Wl (pre:= (A3 kk l1 cl nm1 wt1)) h.1 rfl h.2.1 rfl;have h0:Kn q fun M=>ExAt M ⟨b,o+12,none⟩ (Ex.mk xk xn r xsl s n xl xa xc):=hK.imp fun M h=>Wl (pre:= (A3 kk l1 cl nm1 wt1)++exC (Ex.mk ek z j f m i el ea ec)) h.1 rfl h.2.2.1 rfl
 have k0:Kn q fun M=>BlkAt M ba bc bd:=hK.imp fun M h=>h.2.2.2.1;have i0:Kn q fun M=>BlkAt M ea2 ec2 es2:=hK.imp fun M h=>⟨h.2.2.2.2.1,h.2.2.2.2.2⟩
 simp only [Stm.er,PStm.wl] at hw;simp only [Stm.er,PStm.wt,Yk] at hl;obtain ⟨K0,e⟩: ∃ k:List (Ins×Int),k=K++ [(⟨23,id,0,0⟩,l1)]:=⟨_,rfl⟩;rw [<-e];have a0:K0.length=K.length+1:=(by rw [e];simp);obtain ⟨R,w⟩:=lV ((Stm.er (Stm.mk kk l1 cl nm1 wt1 (Ex.mk ek z j f m i el ea ec) (Ex.mk xk xn r xsl s n xl xa xc) bd es2 ba bc ea2 ec2 id sl ot lo_)).code g.main K.length);rw [<-w];simp only [Stm.er] at w;subst hk;rw [code_ln Zq] at w;rw [Lu Zq Zq,show V7 g.main 13 sl ot lo_= [⟨31,Vr g.main sl,0,0⟩] from rfl] at w;have u:=hw.2.2.2.2.1.2.2.2.2.2.2.2 rfl;refine Zki fun a c b d=> ?_
 refine Zz ?_;apply iP 5 (us:=pgC g) rfl rfl isAgg29 sizeOf29 rfl (fun k v hk=>(hP.hp.le leA) k v hk);refine Zz ?_;refine Yf 10 (O0 ⟨u.1,(by have:=u.2;rw [show g.er.cn.th=(g.er.ths.length:Int) from rfl,show g.er.ths.length=g.ths.l.length from aI _] at this;exact this)⟩ hb) ?_ (hL:=(hlA (h:=by repeat first|exact trivial|refine ⟨clA,?_⟩|refine ⟨(y.le leA) 22 _ rfl,?_⟩|refine ⟨(hP.hp.le leA) 0 _ rfl,?_⟩|refine ⟨(hP.hp.le leA) _ _ rfl,?_⟩)));refine Zz ?_;apply eN (q':=coH p pp nm K0 l1::_) (coI leA);apply Zv Zj (Q8 Zq);rintro _ _ rfl;refine Zg ?_;exact ⟨_,⟨_,rfl,l1,rfl⟩,(by rw [w];simp only [e,lnd,aN,bG,dF,aO,bN,bL];exact leA)⟩
end
def Zvd (G:World)(g:FC)(m:List Stm)(a:Option Addr)(c:Nat)(lw:Int):Prop:= ∀ {K:List (Ins×Int)} {ln:Int} {p pp nm:Nat} {q:List HP},K.length+Za (Zk m)<=1000000000->Wv g.er.cn lw (Zk m)->(Kn q fun M=>BlkAt M a c m)->GO q->Prg q pp g->CF G 97 [pt p,.slice a m.length c] (coH p pp nm K ln::q) (Ret fun v q'=> ∃ ln2,q'=coH p pp nm (K++PStm.codes g.main (Zk m) K.length) ln2::q)
def Gm {c}{lo}{x}: ∀ {l},Wv c lo l->x∈l->x.wl c lo
 |y::r,⟨h1,h2⟩,h=>by
  rcases bS.1 h with rfl|h
  . exact h1
  exact Gm h2 h
def Zk6: ∀ (x:PStm),1<=x.wt
 | .mk .. =>by simp only [PStm.wt];omega
def Gn: ∀ (l:List PStm),l.length<=Za l
 | []=>aS _
 |x::r=>by have b:=Zk6 x;have a:=Gn r;simp only [aJ,Za];omega
theorem CallV.fr {fv}{vs}{R}(E:List HP)(h:CallV P G fv vs pre (Ret R)):CallV P G fv vs (pre++E) (Ret fun v q'=> ∃ q0,R v q0/\q'=q0++E):=by
 intro F w s;rw [aO] at s;exact (h (E++F) w s).mono fun e c _ ⟨q,⟨v,b,a⟩,hs⟩=>⟨q++E,⟨v,b,q,a,rfl⟩,by rw [aO];exact hs⟩
abbrev jO:=@CallV.fr
section
variable {p:Nat}{i:Ins}
def Zxj {ba}(hK:Kn q fun M=>StAt M ⟨b,o,none⟩ (Stm.mk kk l1 cl nm1 wt1 Ep Xp bd es2 ba bc ea2 ec2 id sl ot lo_))(hw:(Stm.er (Stm.mk kk l1 cl nm1 wt1 Ep Xp bd es2 ba bc ea2 ec2 id sl ot lo_)).wl g.er.cn lw)(hl:K.length+(Stm.er (Stm.mk kk l1 cl nm1 wt1 Ep Xp bd es2 ba bc ea2 ec2 id sl ot lo_)).wt<=1000000000)(hg:GO q)(hP:Prg q pp g)(hk:kk=4)(IHb:Zvd G g bd ba bc lw)(IHe:Zvd G g es2 ea2 ec2 lw):CF G 168 (Aa p b o) (coH p pp nm (K++ [(⟨23,id,0,0⟩,l1)]) l1::q) (Ret fun v q'=> ∃ ln2,q'=coH p pp nm (K++(Stm.er (Stm.mk kk l1 cl nm1 wt1 Ep Xp bd es2 ba bc ea2 ec2 id sl ot lo_)).code g.main K.length) ln2::q):=by
 refine aE ntmps168 fun F cs=> ?_;obtain ⟨ek,en,l,i,m,j,el,ea,ec⟩:=Ep;obtain ⟨xk,xn,j0,xsl,k0,i0,xl,xa,xc⟩:=Xp;have f1:=gM hK;have y0:Kn q fun M=>ExAt M ⟨b,o+5,none⟩ (Ex.mk ek en l i m j el ea ec):=hK.imp fun M h=>Wl (pre:= (A3 kk l1 cl nm1 wt1)) h.1 rfl h.2.1 rfl;have e1:Kn q fun M=>ExAt M ⟨b,o+12,none⟩ (Ex.mk xk xn j0 xsl k0 i0 xl xa xc):=hK.imp fun M h=>Wl (pre:= (A3 kk l1 cl nm1 wt1)++exC (Ex.mk ek en l i m j el ea ec)) h.1 rfl h.2.2.1 rfl
 have z0:Kn q fun M=>BlkAt M ba bc bd:=hK.imp fun M h=>h.2.2.2.1;have x0:Kn q fun M=>BlkAt M ea2 ec2 es2:=hK.imp fun M h=>⟨h.2.2.2.2.1,h.2.2.2.2.2⟩
 simp only [Stm.er,PStm.wl] at hw;simp only [Stm.er,PStm.wt,Yk] at hl;obtain ⟨K0,u⟩: ∃ k:List (Ins×Int),k=K++ [(⟨23,id,0,0⟩,l1)]:=⟨_,rfl⟩;rw [<-u];have q0:K0.length=K.length+1:=(by rw [u];simp);obtain ⟨R,n⟩:=lV ((Stm.er (Stm.mk kk l1 cl nm1 wt1 (Ex.mk ek en l i m j el ea ec) (Ex.mk xk xn j0 xsl k0 i0 xl xa xc) bd es2 ba bc ea2 ec2 id sl ot lo_)).code g.main K.length);rw [<-n];simp only [Stm.er] at n;subst hk;obtain ⟨e,g0⟩: ∃ C,(Ex.er (Ex.mk ek en l i m j el ea ec)).code (K.length+1)=C:=⟨_,rfl⟩;have w0:=Z1 (Ex.er (Ex.mk ek en l i m j el ea ec)) (K.length+1);rw [g0,Yk] at w0;simp only [PStm.code,reduceIte,Int.reduceEq] at n;rw [Lc Zw Zw,g0] at n;obtain ⟨f,h0⟩: ∃ B,PStm.codes g.main (Zk bd) (K.length+1+e.length+1)=B:=⟨_,rfl⟩;have v0:=Wp g.main (Zk bd) (K.length+1+e.length+1);rw [h0] at v0;obtain ⟨E0,f0⟩: ∃ B,PStm.codes g.main (Zk es2) (K.length+1+e.length+1+f.length+1)=B:=⟨_,rfl⟩;have u0:=Wp g.main (Zk es2) (K.length+1+e.length+1+f.length+1);rw [f0] at u0;have ht:(K.length:Int)+(([⟨23,id,0,0⟩]++e:List Ins).length:Int)+1=K.length+1+e.length+1:=Zi;rw [ht,h0,f0] at n;refine Zki fun a c b d=> ?_
 refine Zz ?_;apply eN (q':=coH p pp nm K0 l1::_) (coI leA);apply Zv Zj (Rv _ (aS _) Zq (cO y0) (hg.le leA) (hw.2.1 Zq).1);rintro _ _ rfl;rw [show ((K0.length:Nat):Int)=K.length+1 by omega,g0];obtain ⟨K1,t⟩: ∃ k:List (Ins×Int),k=K0++lnd e l1:=⟨_,rfl⟩;rw [<-t];have x:K1.length=K.length+1+e.length:=(by rw [t];rw [aA,q0,Yx]);refine Zz ?_;apply Zv Zj (Fe Zq);rintro _ _ ⟨j1,j2,rfl,rfl⟩;obtain ⟨K2,s⟩: ∃ k:List (Ins×Int),k=K1++ [(⟨20,0,0,0⟩,l1)]:=⟨_,rfl⟩;rw [<-s];have p0:K2.length=K.length+1+e.length+1:=(by rw [s];rw [aA,x];rfl);refine Zz ?_;apply Zv Zj (IHb Zq hw.2.2.2.2.2.1 (cO z0) (hg.le leA) (hP.le leA));rintro _ _ ⟨l2,rfl⟩;rw [show ((K2.length:Nat):Int)=K.length+1+e.length+1 by omega,h0];obtain ⟨K3,r⟩: ∃ k:List (Ins×Int),k=K2++f:=⟨_,rfl⟩;rw [<-r];have w:K3.length=K.length+1+e.length+1+f.length:=(by rw [r];rw [aA,p0]);refine Zz ?_;refine Cj fun a0 c0 b0 d0=> ?_
 refine st ?_;apply eN (q':=coH p pp nm K3 l1::_) (coI leA);refine Wg ?_ ?_<;>intro h5
 . have he:es2= []:=(by have:=sp h5;exact aW Zq);subst he;rw [if_pos (by rfl)] at n;refine Zz ?_;refine jE (bC Zj (bC Zj Zj)) (Mc call284 (Tf (j1:=j1) (j2:=j2) (p:=p) (A:=K1) (cd:=20) (l0:=l1) (B:=f) (by rw [r,s];simp) rfl w Zq)) ?_;rintro _ _ rfl;refine Zg ?_;exact ⟨_,⟨_,rfl,l1,rfl⟩,(by rw [n];simp only [t,u,lnd,aN,bG,dF,aO,bN,bL,lH,Int.natCast_one];exact leA)⟩
 have he:Zk es2≠ []:=(by have h6:=sp h5;intro k;have h7:=aQ List.length k;rw [Wr,aT] at h7;omega);rw [if_neg he] at n;refine Zz ?_;apply Zv Zj (Fe Zq);rintro _ _ ⟨j3,j4,rfl,rfl⟩;obtain ⟨K4,e0⟩: ∃ k:List (Ins×Int),k=K3++ [(⟨19,0,0,0⟩,l1)]:=⟨_,rfl⟩;rw [<-e0];have o0:K4.length=K.length+1+e.length+1+f.length+1:=(by rw [e0];rw [aA,w];rfl);refine Zz ?_;refine jE (bC Zj (bC Zj Zj)) (Mc call284 (Tf (j1:=j1) (j2:=j2) (p:=p) (A:=K1) (cd:=20) (l0:=l1) (B:=f++ [(⟨19,0,0,0⟩,l1)]) (by rw [e0,r,s];simp) rfl o0 Zq)) ?_;rintro _ _ rfl;obtain ⟨K5,z⟩: ∃ k:List (Ins×Int),k=(K1++(⟨20,((K.length+1+e.length+1+f.length+1:Nat):Int),0,0⟩,l1)::(f++ [(⟨19,0,0,0⟩,l1)])):=⟨_,rfl⟩;rw [<-z];have n0:K5.length=K.length+1+e.length+1+f.length+1:=(by rw [z];simp [x];omega);refine Zz ?_;apply Zv Zj (IHe Zq hw.2.2.2.2.2.2 (cO x0) (hg.le leA) (hP.le leA));rintro _ _ ⟨l3,rfl⟩;rw [show ((K5.length:Nat):Int)=K.length+1+e.length+1+f.length+1 by omega,f0];obtain ⟨K6,y⟩: ∃ k:List (Ins×Int),k=K5++E0:=⟨_,rfl⟩;rw [<-y];have m0:K6.length=K.length+1+e.length+1+f.length+1+E0.length:=(by rw [y];rw [aA,n0]);refine Zz ?_;refine jE (bC Zj (bC Zj Zj)) (Mc call284 (Tf (j1:=j3) (j2:=j4) (p:=p) (A:=K1++(⟨20,((K.length+1+e.length+1+f.length+1:Nat):Int),0,0⟩,l1)::f) (cd:=19) (l0:=l1) (B:=E0) (by rw [y,z];simp) (by simp [x,w];omega) m0 Zq)) ?_;rintro _ _ rfl;refine Zg ?_;exact ⟨_,⟨_,rfl,l3,rfl⟩,(by rw [n];simp only [t,u,lnd,aN,bG,dF,aO,bN,bL,lH,Int.natCast_one];exact leA)⟩
def Zw8 {ba}(hK:Kn q fun M=>StAt M ⟨b,o,none⟩ (Stm.mk kk l1 cl nm1 wt1 Ep Xp bd es2 ba bc ea2 ec2 id sl ot lo_))(hw:(Stm.er (Stm.mk kk l1 cl nm1 wt1 Ep Xp bd es2 ba bc ea2 ec2 id sl ot lo_)).wl g.er.cn lw)(hl:K.length+(Stm.er (Stm.mk kk l1 cl nm1 wt1 Ep Xp bd es2 ba bc ea2 ec2 id sl ot lo_)).wt<=1000000000)(hg:GO q)(hP:Prg q pp g)(hk:kk=5)(IHb:Zvd G g bd ba bc lw):CF G 169 (Aa p b o) (coH p pp nm (K++ [(⟨23,id,0,0⟩,l1)]) l1::q) (Ret fun v q'=> ∃ ln2,q'=coH p pp nm (K++(Stm.er (Stm.mk kk l1 cl nm1 wt1 Ep Xp bd es2 ba bc ea2 ec2 id sl ot lo_)).code g.main K.length) ln2::q):=by
 refine aE ntmps169 fun F cs=> ?_;obtain ⟨ek,en,i,e,j,f,el,ea,ec⟩:=Ep;obtain ⟨xk,xn,a0,xsl,b0,z,xl,xa,xc⟩:=Xp;have o0:=gM hK;have m0:Kn q fun M=>ExAt M ⟨b,o+5,none⟩ (Ex.mk ek en i e j f el ea ec):=hK.imp fun M h=>Wl (pre:= (A3 kk l1 cl nm1 wt1)) h.1 rfl h.2.1 rfl;have u0:Kn q fun M=>ExAt M ⟨b,o+12,none⟩ (Ex.mk xk xn a0 xsl b0 z xl xa xc):=hK.imp fun M h=>Wl (pre:= (A3 kk l1 cl nm1 wt1)++exC (Ex.mk ek en i e j f el ea ec)) h.1 rfl h.2.2.1 rfl
 have n0:Kn q fun M=>BlkAt M ba bc bd:=hK.imp fun M h=>h.2.2.2.1;have v0:Kn q fun M=>BlkAt M ea2 ec2 es2:=hK.imp fun M h=>⟨h.2.2.2.2.1,h.2.2.2.2.2⟩
 simp only [Stm.er,PStm.wl] at hw;simp only [Stm.er,PStm.wt,Yk] at hl;obtain ⟨K0,u⟩: ∃ k:List (Ins×Int),k=K++ [(⟨23,id,0,0⟩,l1)]:=⟨_,rfl⟩;rw [<-u];have c0:K0.length=K.length+1:=(by rw [u];simp);obtain ⟨R,y⟩:=lV ((Stm.er (Stm.mk kk l1 cl nm1 wt1 (Ex.mk ek en i e j f el ea ec) (Ex.mk xk xn a0 xsl b0 z xl xa xc) bd es2 ba bc ea2 ec2 id sl ot lo_)).code g.main K.length);rw [<-y];simp only [Stm.er] at y;subst hk;obtain ⟨l,w⟩: ∃ C,(Ex.er (Ex.mk ek en i e j f el ea ec)).code (K.length+1)=C:=⟨_,rfl⟩;have k0:=Z1 (Ex.er (Ex.mk ek en i e j f el ea ec)) (K.length+1);rw [w,Yk] at k0;simp only [PStm.code,reduceIte,Int.reduceEq] at y;rw [Lc Zw Zw,w] at y;obtain ⟨B0,x⟩: ∃ B,PStm.codes g.main (Zk bd) (K.length+1+l.length+1)=B:=⟨_,rfl⟩;have j0:=Wp g.main (Zk bd) (K.length+1+l.length+1);rw [x] at j0;have ht:(K.length:Int)+(([⟨23,id,0,0⟩]++l:List Ins).length:Int)+1=K.length+1+l.length+1:=Zi;rw [ht,x] at y;refine Zki fun a c b d=> ?_
 refine Zz ?_;refine Yf 5 (Zqi (n:=(K0.map Prod.fst).length) clA) ?_ (hL:=(hlF o0));apply dW 12 (I64 ((K.length+1:Nat):Int)) rfl (by rw [aI,c0]);refine Zz ?_;apply aX 5 (I64 K.length) rfl (aQ (Value.int .i64) Zq);apply eN (q':=coH p pp nm K0 l1::_) (coI leA);apply Zv Zj (Rv _ (aS _) Zq (cO m0) (hg.le leA) (hw.2.1 Zq).1);rintro _ _ rfl;rw [show ((K0.length:Nat):Int)=K.length+1 by omega,w];obtain ⟨K1,t⟩: ∃ k:List (Ins×Int),k=K0++lnd l l1:=⟨_,rfl⟩;rw [<-t];have g0:K1.length=K.length+1+l.length:=(by rw [t];rw [aA,c0,Yx]);refine Zz ?_;apply Zv Zj (Fe Zq);rintro _ _ ⟨j1,j2,rfl,rfl⟩;obtain ⟨K2,s⟩: ∃ k:List (Ins×Int),k=K1++ [(⟨20,0,0,0⟩,l1)]:=⟨_,rfl⟩;rw [<-s];have f0:K2.length=K.length+1+l.length+1:=(by rw [s];rw [aA,g0];rfl);refine Zz ?_;apply Zv Zj (IHb Zq hw.2.2.2.2.2.1 (cO n0) (hg.le leA) (hP.le leA));rintro _ _ ⟨l2,rfl⟩;rw [show ((K2.length:Nat):Int)=K.length+1+l.length+1 by omega,x];obtain ⟨K3,r⟩: ∃ k:List (Ins×Int),k=K2++B0:=⟨_,rfl⟩;rw [<-r];have e0:K3.length=K.length+1+l.length+1+B0.length:=(by rw [r];rw [aA,f0]);refine Zz ?_;refine Cj fun a7 c7 b7 d7=> ?_
 refine Ye ?_;apply eN (q':=coH p pp nm K3 l1::_) (coI leA);refine Ye ?_;apply Zv Zj (Q8 Zq);rintro _ _ rfl;obtain ⟨K4,m⟩: ∃ k:List (Ins×Int),k=K3++ [(⟨19,(K.length:Int),0,0⟩,l1)]:=⟨_,rfl⟩;rw [<-m];have d0:K4.length=K.length+1+l.length+1+B0.length+1:=(by rw [m];rw [aA,e0];rfl);refine Zz ?_;refine jE (bC Zj (bC Zj Zj)) (Mc call284 (Tf (j1:=j1) (j2:=j2) (p:=p) (A:=K1) (cd:=20) (l0:=l1) (B:=B0++ [(⟨19,(K.length:Int),0,0⟩,l1)]) (by rw [m,r,s];simp) rfl d0 Zq)) ?_;rintro _ _ rfl;refine Zg ?_;exact ⟨_,⟨_,rfl,l1,rfl⟩,(by rw [y];simp only [t,u,lnd,aN,bG,dF,aO,bN,bL,lH,Int.natCast_one];exact leA)⟩
def kd_at {ba}(hK:Kn q fun M=>StAt M ⟨b,o,none⟩ (Stm.mk kk l1 cl nm1 wt1 Ep Xp bd es2 ba bc ea2 ec2 id sl ot lo_))(hw:(Stm.er (Stm.mk kk l1 cl nm1 wt1 Ep Xp bd es2 ba bc ea2 ec2 id sl ot lo_)).wl g.er.cn lw)(hl:K.length+(Stm.er (Stm.mk kk l1 cl nm1 wt1 Ep Xp bd es2 ba bc ea2 ec2 id sl ot lo_)).wt<=1000000000)(hg:GO q)(hP:Prg q pp g)(hb:g.ths.l.length<=1000000)(IHb:Zvd G g bd ba bc lw)(IHe:Zvd G g es2 ea2 ec2 lw): ∃ j f,Instr.findNow (.int .i64) (I64 kk) (kiL.map kiE) 0=some (some (j,.func (.func f) #[] #[]))/\CallV prog G (AO f) (Aa p b o) (coH p pp nm (K++ [(⟨23,id,0,0⟩,l1)]) l1::q) (Ret fun v q'=> ∃ ln2,q'=coH p pp nm (K++(Stm.er (Stm.mk kk l1 cl nm1 wt1 Ep Xp bd es2 ba bc ea2 ec2 id sl ot lo_)).code g.main K.length) ln2::q):=by
 have h:=hw;simp only [Stm.er,PStm.wl] at h;have c:=h.1;have a:kk=1\/kk=2\/kk=3\/kk=4\/kk=5\/kk=6\/kk=7\/kk=8\/kk=9\/kk=10\/kk=11\/kk=12\/kk=13\/kk=14\/kk=15:=Zq;rcases a with rfl|rfl|rfl|rfl|rfl|rfl|rfl|rfl|rfl|rfl|rfl|rfl|rfl|rfl|rfl
 . exact ⟨_,_,rfl,Z3 call166 (Zbh hK hw hl hg hP (.inl rfl))⟩
 . exact ⟨_,_,rfl,Z3 call166 (Zbh hK hw hl hg hP (.inr rfl))⟩
 . exact ⟨_,_,rfl,Z3 call167 (Zg8 hK hw hl hg hP rfl)⟩
 . exact ⟨_,_,rfl,Z3 call168 (Zxj hK hw hl hg hP rfl IHb IHe)⟩
 . exact ⟨_,_,rfl,Z3 call169 (Zw8 hK hw hl hg hP rfl IHb)⟩
 . exact ⟨_,_,rfl,Z3 call170 (Dh hK hw hl hg hP (.inl rfl))⟩
 . exact ⟨_,_,rfl,Z3 call170 (Dh hK hw hl hg hP (.inr (.inl rfl)))⟩
 . exact ⟨_,_,rfl,Z3 call171 (cwait_ok hK hw hl hg hP rfl)⟩
 . exact ⟨_,_,rfl,Z3 call170 (Dh hK hw hl hg hP (.inr (.inr (.inl rfl))))⟩
 . exact ⟨_,_,rfl,Z3 call170 (Dh hK hw hl hg hP (.inr (.inr (.inr rfl))))⟩
 . exact ⟨_,_,rfl,Z3 call172 (csend_ok hK hw hl hg hP rfl)⟩
 . exact ⟨_,_,rfl,Z3 call173 (crecv_ok hK hw hl hg hP rfl)⟩
 . exact ⟨_,_,rfl,Z3 call174 (Zg9 hK hw hl hg hP rfl hb)⟩
 . exact ⟨_,_,rfl,Z3 call175 (cjoin_ok hK hw hl hg hP rfl)⟩
 exact ⟨_,_,rfl,Z3 call176 (Zhq hK hw hl hg hP rfl)⟩
def Zhv:CF G 96 [] ([]) (Ret fun v q'=> ∃ n,v= .map (some n)/\q'= [kiP n]):=by
 refine We ntmps96 fun F cs=> ?_;apply bU (kV);rintro _ _ ⟨a,rfl,rfl⟩;apply cU (dH (es:= []) underlying211 underlying131 rfl rfl rfl Zj (by rfl));rintro _ _ ⟨rfl,rfl⟩;apply cU (dH (es:=((kiL.take 1).map kiE)) underlying211 underlying131 rfl rfl rfl Zj (by rfl));rintro _ _ ⟨rfl,rfl⟩;apply cU (dH (es:=((kiL.take 2).map kiE)) underlying211 underlying131 rfl rfl rfl Zj (by rfl));rintro _ _ ⟨rfl,rfl⟩;apply cU (dH (es:=((kiL.take 3).map kiE)) underlying211 underlying131 rfl rfl rfl Zj (by rfl));rintro _ _ ⟨rfl,rfl⟩;apply cU (dH (es:=((kiL.take 4).map kiE)) underlying211 underlying131 rfl rfl rfl Zj (by rfl));rintro _ _ ⟨rfl,rfl⟩;apply cU (dH (es:=((kiL.take 5).map kiE)) underlying211 underlying131 rfl rfl rfl Zj (by rfl));rintro _ _ ⟨rfl,rfl⟩;apply cU (dH (es:=((kiL.take 6).map kiE)) underlying211 underlying131 rfl rfl rfl Zj (by rfl));rintro _ _ ⟨rfl,rfl⟩;apply cU (dH (es:=((kiL.take 7).map kiE)) underlying211 underlying131 rfl rfl rfl Zj (by rfl));rintro _ _ ⟨rfl,rfl⟩;apply cU (dH (es:=((kiL.take 8).map kiE)) underlying211 underlying131 rfl rfl rfl Zj (by rfl));rintro _ _ ⟨rfl,rfl⟩;apply cU (dH (es:=((kiL.take 9).map kiE)) underlying211 underlying131 rfl rfl rfl Zj (by rfl));rintro _ _ ⟨rfl,rfl⟩;apply cU (dH (es:=((kiL.take 10).map kiE)) underlying211 underlying131 rfl rfl rfl Zj (by rfl));rintro _ _ ⟨rfl,rfl⟩;apply cU (dH (es:=((kiL.take 11).map kiE)) underlying211 underlying131 rfl rfl rfl Zj (by rfl));rintro _ _ ⟨rfl,rfl⟩;apply cU (dH (es:=((kiL.take 12).map kiE)) underlying211 underlying131 rfl rfl rfl Zj (by rfl));rintro _ _ ⟨rfl,rfl⟩;apply cU (dH (es:=((kiL.take 13).map kiE)) underlying211 underlying131 rfl rfl rfl Zj (by rfl));rintro _ _ ⟨rfl,rfl⟩;apply cU (dH (es:=((kiL.take 14).map kiE)) underlying211 underlying131 rfl rfl rfl Zj (by rfl));rintro _ _ ⟨rfl,rfl⟩;refine Zm [kiP a] ?_;exact ⟨_,rfl,a,rfl,rfl⟩
variable {m:List Stm}
def Co (hb:g.ths.l.length<=1000000)(IH: ∀ (m':List Stm) (a':Option Addr) (c':Nat),Zn m'<Zn m->Zvd G g m' a' c' lw)(hl:K.length+Za (Zk m)<=1000000000)(hw:Wv g.er.cn lw (Zk m))(hK:Kn q fun M=>BlkAt M a c m)(hg:GO q)(hP:Prg q pp g):CF G 97 [pt p,.slice a m.length c] (coH p pp nm K ln::q) (Ret fun v q'=> ∃ ln2,q'=coH p pp nm (K++PStm.codes g.main (Zk m) K.length) ln2::q):=by
 refine aE ntmps97 fun F cs=> ?_;refine gW (fun w s=>(cO hK).fact (fun M h=>And.intro h.1.1 h.1.2.1) s) fun i0=> ?_;have j0:m.length<=1000000000:=(by have:=Gn (Zk m);rw [Wr] at this;omega);refine Zz ?_;refine cH (bW (fun (s:Nat×Int)=>s.1<=m.length) (fun s=> [(0,pt p),(1,.slice a m.length c),(7,I64 m.length),(8,I64 (s.1:Int))]) (fun s=>coH p pp nm (K++PStm.codes g.main (Zk (m.take s.1)) K.length) s.2::(q++F)) (fun s=>m.length - s.1) (fun s a0 ih=> ?_) (0,ln) (aZ _)) Z5 (by simp only [fY,Zk,PStm.codes,cA];exact leA);try dsimp only at a0 ih|-
 obtain hi:=a0;obtain ⟨s,l0⟩:=s;dsimp only at*;refine Zp ?_ ?_<;>intro h0
 . have n:s<m.length:=Zq;obtain ⟨K1,r⟩:=lV (K++PStm.codes g.main (Zk (m.take s)) K.length);rw [<-r];have y:K++PStm.codes g.main (Zk (m.take (s+1))) K.length=K1++m[s].er.code g.main K1.length:=(by rw [r,Gb n,B3];simp [PStm.codes]);have t:=Zk4 n;have k0:=Wp g.main (Zk (m.take s)) K.length;have g0:K1.length<=K.length+Za (Zk (m.take s)):=(by rw [r,aA];omega);have u:m[s].er.wl g.er.cn lw:=Gm hw (by rw [Yl];exact cW (aC n));have x:m[s].sz<=Zn m:=Qx (aC n);refine Yq ((eP (hK.imp fun M h=>h.1.2.2)).le leA) (by rw [Zx Z7 m];omega) fun ab ao e_=> ?_;subst e_
   have o:Kn q fun M=>StAt M ⟨ab,ao+(s:Int).toNat*25,none⟩ m[s]:=hK.imp fun M h=>(by
    obtain ⟨b',o',e1,e2⟩:=jH (i:=s) Z7 Zw h.1.2.2 n
    cases e1
    exact ⟨e2,Uk.1 h.2 _ (aC n)⟩)
   obtain ⟨S,e0⟩:=lV m[s];rw [<-e0] at t u o y x;obtain ⟨kk,l1,cl,nm1,wt1,Ep,Xp,bd,es2,ba,bc,ea2,ec2,id,sl,ot,lo_⟩:=S;have b0:CellsAt q ab (ao+(s:Int).toNat*25) (Al kk l1):=(by have h:=gM o;exact fun k v e=>h k v (by match k,e with|0,e=>exact e|1,e=>exact e|(k+2),e=>cases e));have f0:Cl q ⟨ab,ao+(s:Int).toNat*25+21,none⟩ (.int .i64 id):=(by cases Ep;cases Xp;exact (gM o) 21 _ rfl);simp only [Stm.er,PStm.wt] at t;simp only [Stm.sz] at x;obtain ⟨j,f,d0,c0⟩:=kd_at (K:=K1) (p:=p) (pp:=pp) (nm:=nm) (G:=G) o u (by simp only [Stm.er,PStm.wt];omega) hg hP hb (IH bd ba bc Zq) (IH es2 ea2 ec2 Zq);refine rf [23,0,2] b0 ?_;refine Cj fun a c b d=> ?_
   refine st ?_;apply eN (q':=coH p pp nm K1 l1::_) (coI leA);refine Zz ?_;refine ld ?_ (hc:=(f0.le leA));apply Zv Zj (Q8 Zq);rintro _ _ rfl;refine Zz ?_;refine XD.coO fun a2 c2 b2 d2=> ?_
   refine rf [4,5,6,7,8,10,11] b0 ?_;apply eT 8 rfl (Rd.ef (Rd.lookup (es:=kiL.map kiE) (clock:=15) underlying211 underlying131 rfl rfl Zj zeroValue335 d0));refine kk0 ?_;apply dW 36 (AO f) rfl (rfl);apply XD.cVX 11 (coI leA) ((jO F c0));rintro _ _ ⟨_,⟨l2,rfl⟩,rfl⟩;refine ⟨trivial,?_⟩;refine Zz ?_;rw [<-y];refine Zs (ih (s+1,l2) Zy Zy)
 obtain rfl:s=m.length:=Zq;rw [bR];refine Zg ?_;exact ⟨_,⟨_,rfl,l0,rfl⟩,leA⟩
def S9 (hb:g.ths.l.length<=1000000): ∀ (N:Nat) {m} {a} {c},Zn m<=N->Zvd G g m a c lw
 |0,m,a,c,h=>fun hl hw hK hg hP=>Co hb (fun m' a' c' h'=>aV h' Zq) hl hw hK hg hP
 |N+1,m,a,c,h=>fun hl hw hK hg hP=>Co hb (fun m' a' c' h'=>S9 hb N Zq) hl hw hK hg hP
def Zhx (hb:g.ths.l.length<=1000000):Zvd G g m a c lw:=S9 hb _ (aS _)
end
abbrev As (v0:Nat):=([.func (.yield v0) #[] #[]]:List Value)
def IterT {τ:Type}(P:Program)(G:World)(gv:Value)(R:τ->List Value->HP->Prop)(xs:List τ)(pre:List HP):Prop:=
 ∀ (l:Nat) (J:Nat->HP),
  (∀ i (h:i<xs.length) vs A,R xs[i] vs A->CallV P G (Ai l) vs (J i::A::pre) (Ret fun v q=>v= .bool true/\q=J (i+1)::pre))->
  CallV P G gv (As l) (J 0::pre) (Ret fun _ q=>q=J xs.length::pre)
def Zkd {f}{τ}{g}{ps}{ag bd}{gv}{R:τ->List Value->HP->Prop}{xs}{F}(pre:List HP)(Inv:Nat->List HP)(hI:IterT P G gv R xs pre)(hg:evp p g=some gv)(hq:Le q (Inv 0++(pre++F)))
 (hxs: ∀ x vs A,R x vs A->vs.length=ps.length) (hps:ps.all (Nat.blt · f.n)=true) (hf:(P.funcs[f.fn]?).isSome=true) (hro:f.round=none)
 (round: ∀ i (h:i<xs.length) vs A,R xs[i] vs A-> ∀ l rec F₀ cs₀,X P G ⟨f.fn,f.n,.normal,some l⟩ (RQ cs₀ rec l (Inv (i+1)) (fun _ _=>False) (pre++F₀)) [.code ag,.beginRound,.code bd] (Pe ps vs p) [] cs₀ (lp rec l .ready none::(Inv i++(A::(pre++F₀)))))
 (cont: ∀ r,X P G f Q k p (markD r::ds) cs (pto r (.deferred (some []))::(Inv xs.length++(pre++F)))):
 X P G f Q (.code (.rangeFunc g ps.toArray ag bd)::k) p ds cs q:=by
 refine X.rangeFunc (pre:=Inv 0++pre) (F:=F) (R':=fun a q1=>a=none/\q1=Inv xs.length++pre) hro hg (by rw [aO];exact hq) (fun l rec b=> ?_) fun r a q1 h=> ?_
 . have m:=hI l (fun i=>stars (lp rec l .ready none::Inv i)) fun i h vs A hR=> ?_
   . apply gY (pre':=stars (lp rec l .ready none::Inv 0)::pre) (Zh (lp rec l .ready none::Inv 0) pre) m;rintro e j ⟨v,rfl,rfl⟩;exact ⟨lp rec l .ready none::(Inv xs.length++pre),⟨v,rfl,.ready,none,_,Zf,rfl,rfl,rfl⟩,Zb (lp rec l .ready none::Inv xs.length) pre⟩
   refine gY (pre':=lp rec l .ready none::(Inv i++(A::pre))) (Zb (lp rec l .ready none::Inv i) (A::pre))
    (CallV.yield (R:=Ret fun v q=>v= .bool true/\q=lp rec l .ready none::(Inv (i+1)++pre)) b hps (by simpa using hxs _ _ _ hR) hf (fun F₀ cs₀=> ?_)) ?_
   . intro tm w hn ha s;obtain ⟨o,d,p',z,a0,w',j,⟨y,u,t⟩,h1,h2,h3,h4⟩:=round i h vs A hR l rec F₀ cs₀ tm w hn ha (by rw [aO] at s;exact s);refine ⟨o,d,p',z,a0,w',j,⟨y,u,?_⟩,h1,h2,h3,h4⟩
     cases o with
     |fall=>exact ⟨Inv (i+1)++pre,⟨_,rfl,rfl,rfl⟩,by rw [aO];exact t⟩
     |jump c=>obtain ⟨qs,hJ,b0⟩:=t;exact hJ.elim
     |panic ch=>exact t.elim
   rintro e j ⟨v,rfl,rfl,rfl⟩;exact ⟨stars (lp rec l .ready none::Inv (i+1))::pre,⟨_,rfl,rfl,rfl⟩,Zh (lp rec l .ready none::Inv (i+1)) pre⟩
 obtain ⟨rfl,rfl⟩:=h;have:=cont r;rw [<-aO] at this;exact this
def Zjw (main:Int)(n:Nat):List Nat:=main.toNat::(List.range n).filter fun k:Nat=>decide ((k:Int)≠main)
def Ft (main:Int)(s:Nat):Nat:=((List.range s).filter fun k:Nat=>decide ((k:Int)≠main)).length
def Fu (main:Int)(n:Nat):(Zjw main n).length=Ft main n+1:=rfl
def ordC_yes (h:(s:Int)≠main):Ft main (s+1)=Ft main s+1:=by
 unfold Ft;rw [kA,iS,aA,List.filter_cons_of_pos (by simpa using h)];rfl
def ordC_no (h:(s:Int)=main):Ft main (s+1)=Ft main s:=by
 unfold Ft;rw [kA,iS,aA,List.filter_cons_of_neg (by simpa using h)];rfl
def ord_at (hs:s<n)(h:(s:Int)≠main):(Zjw main n)[Ft main s+1]? =some s:=by
 unfold Zjw Ft;rw [List.getElem?_cons_succ]
 have e:List.range n=List.range s++s::(List.range n).drop (s+1):=by
  have a:=(dJ s (List.range n)).symm;rw [List.take_range,fG (Nat.le_of_lt hs),aP (by simpa using hs),List.getElem_range] at a;exact a
 rw [e,iS,List.filter_cons_of_pos (by simpa using h),dT (aS _),kI];rfl
def ord_lt {k}(hm:0<=main/\main<n)(h:k∈Zjw main n):k<n:=by
 unfold Zjw at h;rcases bS.1 h with rfl|h
 . omega
 exact List.mem_range.1 (List.mem_filter.1 h).1
def La (main:Int): ∀ (l:List PTh) (i:Nat),Ui main l i=((List.range l.length).filter fun k:Nat=>decide (((k+i:Nat):Int)≠main)).map fun k=>l.getD k ⟨em,0, []⟩
 | [],i=>rfl
 |t::r,i=>by
  rw [Ui,La main r (i+1),aJ,List.range_succ_eq_map,jM,List.filter_map]
  have e:(fun k:Nat=>decide (((k+(i+1):Nat):Int)≠main))=(fun k:Nat=>decide (((k+i:Nat):Int)≠main)) ∘ Nat.succ:=by
   funext k;show decide _=decide _;rw [show k+(i+1)=Nat.succ k+i by omega]
  rw [e];by_cases h:(i:Int)=main
  . rw [if_pos h,if_neg (by simpa using h),fO];rfl
  rw [if_neg h,if_pos (by simpa using h),bG,fO];rfl
def Zwy (F:Fnd):V4 F=(Zjw F.main F.ths.length).map fun k=>F.ths.getD k ⟨em,0, []⟩:=by
 unfold V4 Zjw;rw [La];rfl
section
variable {p y tb to:Nat}{J:Nat->HP}
def TpR (tb to:Nat)(k:Nat)(vs:List Value)(A:HP):Prop:=vs= [.pointer (some ⟨tb,to+k*3,none⟩)]/\A=stars []
def laid_ok:CF G 95 [pt pp] (q) (Ret fun v q'=> ∃ n,v= .func (.func 165) [].toArray [pt n].toArray/\q'=pC n [pt pp] 121::q):=by
 refine aE ntmps95 fun F cs=> ?_;refine Yb fun a=> ?_
 refine Zg ?_;exact ⟨_,⟨_,rfl,a,rfl,rfl⟩,leA⟩
abbrev Ag (v0:FC):=(Zjw v0.main v0.ths.l.length)
def laid1_ok (hc:Cl pre ⟨n,0,none⟩ (pt pp))(hP:Prg pre pp g)(ht:g.ths.a=some ⟨tb,to,none⟩)(hm:0<=g.main/\g.main<g.ths.l.length)(hb:g.ths.l.length<=1000000)(hy: ∀ i (h:i<(Ag g).length) vs A,TpR tb to (Ag g)[i] vs A->CallV prog G (Ai y) vs (J i::A::pre) (Ret fun v q=>v= .bool true/\q=J (i+1)::pre)):CF G 165 (AN y n) (J 0::pre) (Ret fun v q'=>q'=J (Ag g).length::pre):=by
 refine aE ntmps165 fun F cs=> ?_;obtain ⟨j,d⟩:=aU hm.1;have x:j<g.ths.l.length:=Zq;have b:Cl pre ⟨pp,0+5,none⟩ (.slice (some ⟨tb,to,none⟩) g.ths.l.length g.ths.c):=(by have:=hP.hp 5 _ rfl;unfold Sv.v at this;rw [ht] at this;exact this);have f:Cl pre ⟨pp,0+6,none⟩ (Ad j):=(by have:=hP.hp 6 _ rfl;rw [d] at this;exact this);refine Zz ?_;refine ldD 1 ?_ (hc:=(hc.le leA));refine Zz ?_;refine ldD 4 ?_ (hc:=(b.le leA));refine ldD 5 ?_ (hc:=(hc.le leA));refine Zz ?_;refine ldD 8 ?_ (hc:=(f.le leA));refine Zz ?_;refine XD.cVX 10 (aK (cC _ (Y9 _)) (aG _)) (jO F (hy 0 (by rw [Fu];omega) _ _ ⟨by rw [show ((Ag g)[0]'(by rw [Fu];omega))=j by show g.main.toNat=j;rw [d];rfl],rfl⟩)) ?_;rintro _ _ ⟨_,⟨rfl,rfl⟩,rfl⟩;refine ⟨(hlA (h:=by repeat first|exact trivial|refine ⟨clA,?_⟩|refine ⟨hc.le leA,?_⟩|refine ⟨b.le leA,?_⟩|refine ⟨f.le leA,?_⟩)),?_⟩;refine Zz ?_;refine ld ?_ (hc:=(hc.le leA));refine Zz ?_;refine ld ?_ (hc:=(b.le leA));refine Zz ?_;refine cH (bW (fun (s:Nat)=>s<=g.ths.l.length) (fun s=> [(0,.func (.yield y) #[] #[]),(1,pt n),(20,I64 g.ths.l.length),(21,I64 s)]) (fun s=>J (Ft g.main s+1)::(pre++F)) (fun s=>g.ths.l.length - s) (fun s k p=> ?_) 0 (aZ _)) Z5 (by exact aG _);try dsimp only at k p|-
 obtain hi:=k;refine Zp ?_ ?_<;>intro z
 . have r:s<g.ths.l.length:=Zq;refine Zz ?_;refine ld ?_ (hc:=(hc.le leA));refine Zz ?_;refine ld ?_ (hc:=(f.le leA));refine Zz ?_;rcases bK ((s:Int)=(j:Int)) with o|o
   . refine Ew 30 ?_ rfl (by rw [lN];exact o);refine Zz ?_;rw [<-ordC_no (show (s:Int)=g.main by rw [d];exact o)];refine Zs (p (s+1) Zq Zq)
   have m:(s:Int)≠g.main:=(by rw [d];exact o);have e:=ord_at r m;have t:Ft g.main s+1<(Ag g).length:=(by obtain ⟨w,_⟩:=cL.1 e;exact w);have u:(Ag g)[Ft g.main s+1]=s:=(by obtain ⟨_,w⟩:=cL.1 e;exact w);refine XO.kt 30 ?_ rfl (by rw [jI];exact o);refine Zz ?_;refine ld ?_ (hc:=(hc.le leA));refine Zz ?_;refine ld ?_ (hc:=(b.le leA));refine Zz ?_;refine jE (aK (cC _ (Y9 _)) (aG _)) (jO F (hy (Ft g.main s+1) t _ _ ⟨by rw [u],rfl⟩)) ?_;rintro _ _ ⟨_,⟨rfl,rfl⟩,rfl⟩;refine Zz ?_;rw [<-ordC_yes m];refine Zs (p (s+1) Zq Zq)
 obtain rfl:s=g.ths.l.length:=Zq;rw [<-Fu];refine Zg ?_;exact ⟨_,⟨_,rfl,rfl⟩,leA⟩
def Zgt (hc:Cl pre ⟨n,0,none⟩ (pt pp))(hP:Prg pre pp g)(ht:g.ths.a=some ⟨tb,to,none⟩)(hm:0<=g.main/\g.main<g.ths.l.length)(hb:g.ths.l.length<=1000000):IterT prog G (.func (.func 165) [].toArray [pt n].toArray) (TpR tb to) (Ag g) pre:=
 fun y J hy=>gA call165 (laid1_ok hc hP ht hm hb hy)
end
def CodAt (M:Hp)(x:Cod):Prop:=SlAt M x.ia x.ic x.ins.length (x.ins.flatMap Y7)/\SlAt M x.la x.lc x.lines.length (x.lines.map I64)
def CodAt.mono (e:Hle M M')(h:CodAt M x):CodAt M' x:=⟨h.1.mono e,h.2.mono e⟩
def CodsAt (M:Hp)(l:List Cod):Prop:= ∀ x∈l,CodAt M x
def CodsAt.mono (e:Hle M M')(h:CodsAt M l):CodsAt M' l:=fun x hx=>(h x hx).mono e
def Zw9 (l:List Cod):HP:=lst (fun M=>CodsAt M l) fun e h=>CodsAt.mono e h
structure MdAt (M:Hp) (m:Mdl):Prop where
 v:SlAt M m.va m.vc m.vars.length (m.vars.map I64)
 a:SlAt M m.aa m.ac m.arrays.length (m.arrays.map I64)
 c:SlAt M m.ca m.cc m.chans.length (m.chans.map I64)
 t:SlAt M m.ta m.tc m.threads.length (m.threads.flatMap Vs)
 x:CodsAt M m.threads
def MdAt.mono (e:Hle M M')(h:MdAt M m):MdAt M' m:=⟨h.v.mono e,h.a.mono e,h.c.mono e,h.t.mono e,h.x.mono e⟩
def mdM (m:Mdl):HP:=lst (fun M=>MdAt M m) fun e h=>MdAt.mono e h
def MdB (m:Mdl):Prop:=m.vars.length<=9223372036854775807/\m.arrays.length<=9223372036854775807/\m.chans.length<=9223372036854775807/\m.threads.length<=9223372036854775807/\m.arrays.length<=m.ac/\ ∀ x∈m.threads,x.name.size<=9223372036854775807/\x.ins.length<=9223372036854775807/\x.lines.length<=9223372036854775807
def Zx2 (h:Kn q fun M=>MdAt M m)(b:MdB m):MdlQ q m:=
 ⟨eP (h.imp fun _ k=>k.v.2.2),eP (h.imp fun _ k=>k.a.2.2),eP (h.imp fun _ k=>k.c.2.2),eP (h.imp fun _ k=>k.t.2.2),
  fun x hx=>⟨eP (h.imp fun _ k=>(k.x x hx).1.2.2),eP (h.imp fun _ k=>(k.x x hx).2.2.2),(b.2.2.2.2.2 x hx).1,(b.2.2.2.2.2 x hx).2.1,(b.2.2.2.2.2 x hx).2.2⟩,b.1,b.2.1,b.2.2.1,b.2.2.2.1,b.2.2.2.2.1⟩
section
variable {fr:Fc}{q0:List HP}{lo:List Oper}{ty sz:Nat}
def X.frzI {l}(K:X P G fr Q todo p ds cs (lst (fun M=>SlAt M a c l.length (l.map I64)) fD::q0))(hq:Le q (Wx.lsH I64 ty a c l::q0):=by exact Zj):X P G fr Q todo p ds cs q:=by
 unfold Wx.lsH at hq;exact .frz fJ K hq
def Zzz {l}(K:XO P G fr Q ops.toArray k lo p ds cs (lst (fun M=>SlAt M a c l.length (l.map I64)) fD::q0))(hq:Le q (Wx.lsH I64 ty a c l::q0):=by exact Zj):XO P G fr Q ops.toArray k lo p ds cs q:=by
 unfold Wx.lsH at hq;exact .frz fJ K hq
def X.frzC {α}{f}{l:List α}(K:X P G fr Q todo p ds cs (lst (fun M=>SlAt M a c l.length (l.flatMap f)) fD::q0))(hq:Le q (Wx.rsH f sz ty a c l::q0):=by exact Zj):X P G fr Q todo p ds cs q:= .frzR fJ K hq
end
def Zha :Le q (Zw9 []::q):=dP (fun _ _ _ x a=>by cases a)
def Zx7 (h:Kn q fun M=>CodsAt M l)(h1:Kn q fun M=>CodAt M x):Le q (Zw9 (l++ [x])::q):=
 dP ((h.and h1).imp fun M k y a=>by
  rcases bP.1 a with a|a
  . exact k.1 y a
  rw [bE.1 a];exact k.2)
abbrev mtP (n:Nat)(v0 v1 v2 v3 v4:Value)(T:List Cod)(a:Option Addr)(c:Nat):HP:=pC n [v0,v1,v2,v3,v4,.slice a T.length c] 109
def mtI (n:Nat)(v0 v1 v2 v3 v4:Value)(L:List (ByteArray×Int×List Ins×List Int)):HP:=ex fun z:List Cod×Option Addr×Nat=>stars [pure (z.1.map (fun x:Cod=>(x.name,x.locals,x.ins,x.lines))=L),mtP n v0 v1 v2 v3 v4 z.1 z.2.1 z.2.2,rsH Vs 4 224 z.2.1 z.2.2 z.1,Zw9 z.1]
def mtI_in {r}(e:T.map (fun x:Cod=>(x.name,x.locals,x.ins,x.lines))=L)(h:Le q (mtP n v0 v1 v2 v3 v4 T a c::rsH Vs 4 224 a c T::Zw9 T::r)):Le q (mtI n v0 v1 v2 v3 v4 L::r):=
 h.trans (Vt (T,a,c) ((Yu e _).trans (Zh [_,_,_,_] r)))
def X.mtO {f}{r}(x: ∀ T a c,T.map (fun x:Cod=>(x.name,x.locals,x.ins,x.lines))=L->X P G f Q k p ds cs (mtP n v0 v1 v2 v3 v4 T a c::rsH Vs 4 224 a c T::Zw9 T::r))(hq:Le q (mtI n v0 v1 v2 v3 v4 L::r):=by exact Zj):X P G f Q k p ds cs q:=
 .le hq (.ex fun z=> .le (Zb _ r) (.pure fun h=>x z.1 z.2.1 z.2.2 h))
def XO.mtO {f}{l}{r}(x: ∀ T a c,T.map (fun x:Cod=>(x.name,x.locals,x.ins,x.lines))=L->XO P G f Q ops.toArray k l p ds cs (mtP n v0 v1 v2 v3 v4 T a c::rsH Vs 4 224 a c T::Zw9 T::r))(hq:Le q (mtI n v0 v1 v2 v3 v4 L::r):=by exact Zj):XO P G f Q ops.toArray k l p ds cs q:=
 .le hq (.ex fun z=> .le (Zb _ r) (.pure fun h=>x z.1 z.2.1 z.2.2 h))
section
variable {l:Bs}
def Xj:(prog.info? 224).map (fun i=>(i.zero,i.size,i.bytes))=some (some (.agg #[.string ⟨#[]⟩,I64 0,.slice none 0 0,.slice none 0 0]),4,72):=by kernel_rfl
def mod_len {f}(h:T.map (fun x:Cod=>(x.name,x.locals,x.ins,x.lines))=(V4 F).map f):T.length<=F.ths.length+1:=by
 have a:=aQ List.length h;have b:=Cu F.main F.ths 0;rw [aI,aI] at a;unfold V4 at a;rw [aJ] at a;omega
def new0_ok (hT:U6 l=some g.er)(hK:Kn q fun M=>g.At M):CF G 92 (Av g) q (Ret fun v q'=> ∃ p,v= .tuple [pt p,I64 0].toArray/\q'=q):=
 eC (aG _) (pnew_ok (B:=14*65536) hK (FC.cp hT)) (by
  rintro _ _ ⟨_,rfl,(⟨_,p,pp,c,σ,e,d,rfl,rfl⟩|⟨a,_,_⟩)⟩
  . exact ⟨_,⟨_,rfl,p,rfl,rfl⟩,(dS _ _).trans (by unfold staL;exact leA)⟩
  rw [(Hy hT).m] at a;cases a)
def S8 (hT:U6 l=some g.er)(hK:Kn q fun M=>g.At M)(hg:GO q):CF G 45 (Av g) (q) (Ret fun v q'=> ∃ m:Mdl,v= .tuple [.agg (J0 m).toArray,I64 0].toArray/\q'=mdM m::q/\ModOf g.er m/\MdB m):=by
 refine aE ntmps45 fun F cs=> ?_;have hF:=FC.ok hT;obtain ⟨mn,b1,i0⟩:=hF.m;have l0:=(P7 hT).1;have f0:=l0.k;have x0:=l0.t;have h0:0<=g.main/\g.main<g.ths.l.length:=Zq;have w0:g.vars.l.length<=64:=f0.1;have j1:g.arrs.l.length<=64:=f0.2.1;have d1:g.chs.l.length<=64:=f0.2.2.1;have y0:g.ths.l.length<=64:=(by have:=f0.2.2.2.1;rw [show g.er.ths.length=g.ths.l.length from aI _] at this;exact this);have hA:=eB (hK.imp fun M h=>h.ths);have j0:=Zx Qb g.ths.l;refine Yq (hA.le leA) (by rw [j0];omega) fun tb to e1=> ?_;have t0:=hA;rw [e1] at t0;refine Yb fun p=> ?_
 refine Zo zeroValue109 fun n2=> ?_
 refine Zz ?_;apply Zv (aG _) (new0_ok hT (hK.le leA));rintro _ _ ⟨p0,rfl,rfl⟩;refine rn [11,1015] ?_;refine cE (q':=pC p (pgC g) 29::_) Zj (fX (cE (q':=prM p g::_) (dP (φ:=fun M=>PrgM M p g) (mn:=fun e h=>PrgM.mono e h) (((Kn.im).and (hK.le leA)).imp fun M h=>⟨SeesZ.block h.1,h.2⟩)) ?_));refine rn [3,0,1,2,4,5,7,8,10,11,12,13] ?_;refine Vd (fl:= [⟨14,6,fun g=> pt g,fun g=>pC g zz8 109⟩]) ?_;refine Bi 2 ⟨flA zeroValue109,trivial⟩ (aG _) (Jh (l:=g.vars.l) (by rw [<-Ql];exact eB (cO (hK.imp fun M h=>h.vars))) Zq) ?_;refine kk2 fun a0 c0=> ?_
 refine Bi 5 ⟨flA zeroValue109,trivial⟩ (aG _) (Ha (l:=g.arrs.l) (by rw [<-Ql];exact eB (cO (hK.imp fun M h=>h.arrs))) Zq) ?_;refine kk2 fun z y=> ?_
 refine Bi 8 ⟨flA zeroValue109,trivial⟩ (aG _) (Ha (l:=g.chs.l) (by rw [<-Ql];exact eB (cO (hK.imp fun M h=>h.chs))) Zq) ?_;refine kk2 fun a2 c2=> ?_
 refine Kq 13 ⟨flA zeroValue109,trivial⟩ (Pu.build (cells:= [_,_,_,_,_,_]) [(0,1),(1,1),(2,1),(3,1),(4,1),(5,1)] zeroValue109 underlying109 (by kernel_rfl) rfl rfl) ?_;refine Qs (e0:=⟨14,6,fun g=> pt g,fun g=>pC g zz8 109⟩) (hnd:=by simp) 14 ⟨flA zeroValue109,trivial⟩ fun b0=> ?_;change XF _ _ _ _ _ _ _ [] _ _ _ ((6,pt b0)::_) _ _ (pC b0 zz8 109::_);refine fR ?_;refine rn [16,0,3] ?_;apply Zzz (a:=a0) (c:=c0) (l:=g.vars.l);apply Zzz (a:=z) (c:=y) (l:=g.arrs.l);apply Zzz (a:=a2) (c:=c2) (l:=g.chs.l);apply Zv (aG _) (laid_ok);rintro _ _ ⟨nb,rfl,rfl⟩;refine Zz ?_;obtain ⟨LL,r0⟩:=lV ((V4 g.er).map (thP g.main));have q0:LL=(Ag g).map (fun k=>thP g.main (g.er.ths.getD k ⟨em,0, []⟩)):=(by rw [r0,Zwy,fO,show g.er.ths.length=g.ths.l.length from aI _];rfl);have n0:LL.length=(Ag g).length:=(by rw [q0,aI]);refine cE (q':=pC nb [pt p] 121::_) Zj (fX ?_);refine Zkd (xs:=(Ag g)) (im nb (.cells [pt p].toArray 121 (0,0))::prM p g::lst (fun M=>SlAt M a2 c2 g.chs.l.length (g.chs.l.map I64)) fD::lst (fun M=>SlAt M z y g.arrs.l.length (g.arrs.l.map I64)) fD::lst (fun M=>SlAt M a0 c0 g.vars.l.length (g.vars.l.map I64)) fD::pC n2 zz8 109::q) (fun k:Nat=> [mtI b0 (.slice a0 g.vars.l.length c0) (.slice z g.arrs.l.length y) (.slice a2 g.chs.l.length c2) (I64 g.mu) (I64 g.co) (LL.take k)]) (F:=F) (Zgt (dK (iQ _ _ _) 0 _ rfl) ((Prg.of Kn.prM).le (dS _ _)) e1 h0 Zq) rfl ?_ (by rintro _ _ _ ⟨rfl,_⟩;rfl) rfl (by rw [func45];rfl) rfl (fun i hi vs A hA l9 rec F0 r1=> ?_) fun r=> ?_
 . simp only [ca,na];apply mtI_in (T:= []) (a:=none) (c:=0) rfl;exact aK (b:=mtP b0 (.slice a0 g.vars.l.length c0) (.slice z g.arrs.l.length y) (.slice a2 g.chs.l.length c2) (I64 g.mu) (I64 g.co) [] none 0::_) Zj (cC _ (aK (Zc Vs 4 224 _) (cC _ (aK Zha leA))))
 . obtain ⟨rfl,rfl⟩:=hA;obtain ⟨k,hk⟩:=lV (Ag g)[i];have g0:k<g.ths.l.length:=ord_lt h0 (hk ▸ aC hi);rw [<-hk];have o0:i<LL.length:=(by rw [n0];exact hi);have m0:LL[i]=thP g.main (g.ths.l[k]).er:=(by simp only [q0,fN,<-hk];congr 1;show (g.ths.l.map Th.er).getD k _=_;rw [aH,bZ,aB g0];rfl);refine X.sub (p':= [(32,_),(31,_),(6,_),(3,_),(2,_),(1,_)]) ⟨rfl,rfl,rfl,rfl,rfl,rfl,trivial⟩ ?_;simp only [ca,na];have l1: ∀ {r:List HP},Kn (im nb (.cells [pt p].toArray 121 (0,0))::prM p g::r) fun M=>g.At M:=fun {r} =>(Kn.there Kn.prM).imp fun M h=>h.2
   obtain ⟨x,hx⟩:=lV g.ths.l[k];rw [<-hx] at m0;have d0:x∈g.ths.l:=hx ▸ aC g0;have u0:x.er∈g.er.ths:=cW d0;have o1:=hF.w _ d0;have p1:=hF.n _ d0;have v0:=(x0 _ u0).b;have s0:CellsAt q tb (to+k*3) (thC x):=(by rw [hx];exact eX (j:=(k:Int)) t0 (aG _) Qb g0 rfl);obtain ⟨C,hC⟩: ∃ C,PStm.codes g.main (Zk x.body) 0=C:=⟨_,rfl⟩;have m1:=Wp g.main (Zk x.body) 0;rw [hC] at m1;have q1:i<=64:=(by have:=hi;rw [Fu] at this;have h5:=gB (fun k:Nat=>decide ((k:Int)≠g.main)) (List.range g.ths.l.length);rw [List.length_range] at h5;unfold Ft at this;omega);refine Zz ?_;apply gE rfl leA;refine Zz ?_;apply Wn (Zhv);refine kd1 fun nk=> ?_
   refine Yb fun n3=> ?_
   refine Zz ?_;apply eN (q':=coH n3 p nk [] 0::_) (coI (a:=none) (c:=0) (b:=none) (d:=0) (aK (b:=_::kiP nk::_) (bC Zj Zj) (cC _ (aK (Zc Y7 4 222 _) (cC _ (Yy I64 3 _))))));refine Zv (aG _) (Zhx (g:=g) Zq (K:= []) (by simp only [aT];omega) v0 ((cO (l1 (r:= [])) leA).imp fun M h=>h.bod x d0) (hg.le leA) ((Prg.of Kn.prM).le leA)) ?_;rintro _ _ ⟨l2,rfl⟩;rw [show (([]:List (Ins×Int)).length:Int)=0 from rfl,hC,bL];refine Zz ?_;refine Cj fun a5 c5 b5 d5=> ?_
   refine Ye ?_;apply eN (q':=coH n3 p nk C 0::_) (coI leA);refine Ye ?_;refine Zv Zj (J4 (i:=⟨34,0,0,0⟩) Zq) ?_;rintro _ _ rfl;refine Cj fun a6 c6 b6 d6=> ?_;rw [show C++ [((⟨34,0,0,0⟩:Ins),(0:Int))]=Yz g.main x.er by rw [<-hC];rfl]
   refine XO.mtO fun T ta tc o=> ?_
   have k0:T.length=i:=(by have h:=aQ List.length o;rw [aI,bB,fG (Nat.le_of_lt o0)] at h;exact h);refine Zz ?_;refine eT 19 rfl (Yw (u:=(⟨x.nm,x.loc,(Yz g.main x.er).map Prod.fst,(Yz g.main x.er).map Prod.snd,a6,c6,b6,d6⟩:Cod)) Vs underlying107 Xj rfl rfl (fun _=>rfl) rfl) ?_;rintro _ _ ⟨gx,rfl,rfl⟩;refine ⟨(hlF s0),?_⟩;refine eT 20 rfl (Z9 (f:=Vs) (l:=T) (m:= [(⟨x.nm,x.loc,(Yz g.main x.er).map Prod.fst,(Yz g.main x.er).map Prod.snd,a6,c6,b6,d6⟩:Cod)]) underlying107 Xj rfl rfl (fun _=>rfl) rfl rfl Zj ((bJ _).le Zj) (fun _=>rfl) (by simp only [aJ,aT];omega) (by simp only [aJ,aT];omega)) ?_;rintro _ _ ⟨a7,c7,rfl,rfl⟩;refine ⟨(hlF s0),?_⟩;refine Zz ?_;apply X.frzC (f:=Y7) (a:=a6) (c:=c6) (l:=(Yz g.main x.er).map Prod.fst);apply X.frzI (a:=b6) (c:=d6) (l:=(Yz g.main x.er).map Prod.snd);refine cE (q':=Zw9 (T++ [(⟨x.nm,x.loc,(Yz g.main x.er).map Prod.fst,(Yz g.main x.er).map Prod.snd,a6,c6,b6,d6⟩:Cod)])::_) (Zx7 knA ((gG (knA (φ:=fun M=>SlAt M a6 c6 ((Yz g.main x.er).map Prod.fst).length (((Yz g.main x.er).map Prod.fst).flatMap Y7))) (knA (φ:=fun M=>SlAt M b6 d6 ((Yz g.main x.er).map Prod.snd).length (((Yz g.main x.er).map Prod.snd).map I64)))).imp fun M h=>⟨h.1,h.2⟩)) ?_;refine gK ⟨rfl,rfl,?_⟩;simp only [ca,na];refine bC Zj (mtI_in (T:=T++ [(⟨x.nm,x.loc,(Yz g.main x.er).map Prod.fst,(Yz g.main x.er).map Prod.snd,a6,c6,b6,d6⟩:Cod)]) (a:=a7) (c:=c7) (by rw [aN,o,aM o0,m0];rfl) leA)
 simp only [ca,na];rw [<-n0,bR];refine X.mtO fun T ta tc o=> ?_
 refine Zz ?_;rw [r0] at o;apply X.frzC (f:=Vs) (a:=ta) (c:=tc) (l:=T);refine cE (q':=mdM (⟨g.vars.l,g.arrs.l,g.chs.l,g.mu,g.co,T,a0,c0,z,y,a2,c2,ta,tc⟩:Mdl)::_) (dP ((gG (knA (φ:=fun M=>SlAt M a0 c0 g.vars.l.length (g.vars.l.map I64))) (gG (knA (φ:=fun M=>SlAt M z y g.arrs.l.length (g.arrs.l.map I64))) (gG (knA (φ:=fun M=>SlAt M a2 c2 g.chs.l.length (g.chs.l.map I64))) (gG (knA (φ:=fun M=>SlAt M ta tc T.length (T.flatMap Vs))) (knA (φ:=fun M=>CodsAt M T)))))).imp fun M k=>⟨k.1,k.2.1,k.2.2.1,k.2.2.2.1,k.2.2.2.2⟩)) ?_;have i1:g.vars.l.length<=9223372036854775807:=dO w0 Zw;refine gW (fun w s=>Kn.fact (knA (φ:=fun M=>SlAt M z y g.arrs.l.length (g.arrs.l.map I64))) (fun M k=>k.1) s) fun f1=> ?_;refine iH ⟨rfl,Kx ?_⟩;exact (fS (q':=mdM (⟨g.vars.l,g.arrs.l,g.chs.l,g.mu,g.co,T,a0,c0,z,y,a2,c2,ta,tc⟩:Mdl)::q) func45 (rAT_ results45) ⟨_,rfl,(⟨g.vars.l,g.arrs.l,g.chs.l,g.mu,g.co,T,a0,c0,z,y,a2,c2,ta,tc⟩:Mdl),rfl,rfl,⟨rfl,rfl,rfl,rfl,rfl,o⟩,⟨i1,dO j1 Zw,dO d1 Zw,dO (mod_len o) (by rw [show g.er.ths.length=g.ths.l.length from aI _];exact dO (Nat.succ_le_succ y0) Zw),f1,mods_b hF.n hF.w i0 (by rw [o];unfold V4;rw [show g.er.main.toNat=mn by show g.main.toNat=mn;rw [b1];rfl,show g.er.ths.getD mn ⟨em,0, []⟩=(g.ths.l[mn]).er by show (g.ths.l.map Th.er).getD mn _=_;rw [aH,bZ,aB i0];rfl];rfl)⟩⟩ leA)
end
end Go.Proofs.YtadahhbefdnabaaGreatDoor
