/- Contracts. -/
import Derived.Test.YtflkjkhijcdbaaaGreatNi
import Derived.Lib.AppendZerosOnto
set_option maxHeartbeats 16000000
set_option maxRecDepth 100000
set_option linter.all false
namespace Go.Proofs.YtflkjkhijcdbaaaGreat
open Go Go.RowKit Wx Go.Proofs.Tryz
attribute [local irreducible] lsH rsH stars
variable {f F:Fnd}{lo hi k sl ot:Int}{g:FC}{nm s:ByteArray}{c:Cn}{d:PDec}{l:Bs}{pa:Option Addr}{e:PEx}{P:List PStm->Prop}{ds:List PDec}{i p N n:Nat}{G:World}{vs:List Value}{q:List HP}{pos:String}{af:Array Edge}{gd:Option (Nat×Bool)}
mutual
def PEx.sz:PEx->Nat
 | .mk _ _ _ _ _ _ args=>Qm args+1
def Qm:List PEx->Nat
 | []=>0
 |e::r=>e.sz+Qm r
end
mutual
theorem Ls: ∀ (e:Ex),e.er.sz=e.sz
 | .mk _ _ _ _ _ _ args _ _=>by simp only [Ex.er,PEx.sz,Ex.sz,Ec args]
theorem Ec: ∀ (l:List Ex),Qm (Z3 l)=Qe l
 | []=>rfl
 |e::r=>by simp only [Z3,Qm,Qe,Ls e,Ec r]
end
mutual
/-- What an expression that may be is like. -/
def PEx.fit:PEx->Prop
 | .mk k n _ _ _ op args=>(1<=k/\k<=6)/\args.length=Xp k/\(k=1->0<=n/\n<=2147483647)/\(k=6->1<=op/\op<=11)/\PEx.fits args
def PEx.fits:List PEx->Prop
 | []=>True
 |e::r=>e.fit/\PEx.fits r
end
mutual
theorem J7: ∀ {e:PEx} {d:Nat},e.right d=true->e.fit
 | .mk k n nm _ _ op args,d,h=>by
  simp only [PEx.right] at h;split at h
  . cases h
  split at h
  . rename_i b;rw [aI,aI,bN] at h;obtain ⟨⟨a,f⟩,c⟩:=h;refine ⟨b,f,fun h=> ?_,fun h=> ?_,H4 c⟩
    . subst h;unfold Xb at a;rw [if_pos rfl,aI] at a;simpa using a
    subst h;unfold Xb at a;rw [if_neg (by decide),if_neg (by decide),if_pos rfl,aI] at a;simpa using a
  cases h
theorem H4: ∀ {l:List PEx} {d:Nat},Y4 l d=true->PEx.fits l
 | [],_,_=>trivial
 |e::r,d,h=>by
  simp only [Y4,aI] at h;exact ⟨J7 h.1,H4 h.2⟩
end
mutual
/-- How much code a statement makes at most. -/
def PStm.wt:PStm->Nat
 | .mk _ _ _ _ _ e ix body els _ _ _ _=>4*e.sz+4*ix.sz+6+W5 body+W5 els
def W5:List PStm->Nat
 | []=>0
 |s::r=>s.wt+W5 r
end
theorem Y5 {w:Int}(hw:w≠0):(f.fl w).flaw≠0:=by
 unfold Fnd.fl;split
 . exact hw
 rename_i h;exact h
theorem Nd {g:Fnd}(h:((g.loc1 nm).loc2).flaw=0):(g.loc1 nm).loc2=g/\g.locals<32/\g.flaw=0:=by
 have e:(g.loc1 nm)=g:=by
  by_cases hk:g.at nm≠0
  . exfalso;have a:(g.loc1 nm).flaw≠0:=by unfold Fnd.loc1;rw [if_pos hk];exact Y5 (by decide)
    unfold Fnd.loc2 at h;split at h
    . exact Y5 (by decide) h
    exact a h
  unfold Fnd.loc1;rw [if_neg hk]
 rw [e] at h|-;unfold Fnd.loc2 at h|-;by_cases h5:32<=g.locals
 . rw [if_pos h5] at h;exact aR h (Y5 (by decide))
 rw [if_neg h5] at h|-;exact ⟨rfl,by omega,h⟩
structure Cn.le (c d:Cn):Prop where
 v:c.v<=d.v
 a:c.a<=d.a
 mu:c.mu<=d.mu
 co:c.co<=d.co
 ch:c.ch<=d.ch
 th:c.th<=d.th
structure NmOk (c:Cn) (lo:Int) (x:Nm):Prop where
 z:0<=x.s
 v:x.k=1->x.s<c.v
 a:x.k=2->x.s<c.a
 mu:x.k=3->x.s<c.mu
 co:x.k=4->x.s<c.co
 ch:x.k=5->x.s<c.ch
 th:x.k=6->x.s<c.th
 lo:x.k=100->x.s<lo
theorem NmOk.up {d:Cn}{x:Nm}(h:NmOk c lo x)(hc:c.le d)(hl:lo<=hi):NmOk d hi x:=by
 obtain ⟨l,k,j,i,g,f,b,a⟩:=h;obtain ⟨r,q,p,o,n,m⟩:=hc;exact ⟨l,fun e=>by have:=k e;omega,fun e=>by have:=j e;omega,fun e=>by have:=i e;omega,fun e=>by have:=g e;omega,fun e=>by have:=f e;omega,fun e=>by have:=b e;omega,fun e=>by have:=a e;omega⟩
theorem Cn.le_refl (c:Cn):c.le c:=⟨bL _,bL _,bL _,bL _,bL _,bL _⟩
def vaOk (c:Cn)(lo:Int)(s:Int)(l:Bool):Prop:=0<=s/\(if l=true then s<lo else s<c.v)
mutual
def PEx.wl (c:Cn)(lo:Int):PEx->Prop
 | .mk k _ _ slot loc _ args=>(k=2->vaOk c lo slot loc)/\(k=3->0<=slot/\slot<c.a)/\Mf c lo args
def Mf (c:Cn)(lo:Int):List PEx->Prop
 | []=>True
 |e::r=>e.wl c lo/\Mf c lo r
end
theorem vaOk.up {s:Int}{l:Bool}(h:vaOk c lo s l)(hl:lo<=hi):vaOk c hi s l:=by
 unfold vaOk at*;refine ⟨h.1,?_⟩;have:=h.2;split<;>rename_i k
 . rw [if_pos k] at this;omega
 rw [if_neg k] at this;omega
mutual
theorem Kh {c:Cn}{lo hi:Int}(hl:lo<=hi): ∀ {e:PEx},e.wl c lo->e.wl c hi
 | .mk ..,⟨h1,h2,h3⟩=>⟨fun k=>(h1 k).up hl,h2,Ey hl h3⟩
theorem Ey {c:Cn}{lo hi:Int}(hl:lo<=hi): ∀ {l:List PEx},Mf c lo l->Mf c hi l
 | [],_=>trivial
 |_::_,⟨h1,h2⟩=>⟨Kh hl h1,Ey hl h2⟩
end
theorem Fnd.wants_ok {a b:Int}(h:(f.wants s a b).1.flaw=0):(f.wants s a b).1=f/\ ∃ x∈f.names,(x.k=a\/x.k=b)/\(f.wants s a b).2=(x.k,x.s):=by
 unfold Fnd.wants at h|-;have j:f.at s<=f.names.length:=Kx;split at h
 . exact aR h (Y5 (by decide))
 rename_i i hi;have c:i<f.names.length:=by omega
 have g:(f.names.map fun x=>(x.k,x.s)).getD i (0,0)=(f.names[i].k,f.names[i].s):=by
  rw [bD,fJ,aD c];rfl
 dsimp only at h|-;rw [g] at h|-;split at h
 . exact aR h (Y5 (by decide))
 rename_i d;rw [if_neg d];refine ⟨rfl,_,aB c,?_,rfl⟩;simp only [aI,iY,ne_eq,not_and,fX] at d;by_cases e:f.names[i].k=a
 . exact .inl e
 exact .inr (d e)
abbrev fE:=@Fnd.wants_ok
mutual
theorem Uj: ∀ (e:PEx) (f:Fnd),(f.expr e).2.sz=e.sz/\(f.expr e).2.dep=e.dep/\(e.fit->(f.expr e).2.fit)
 | .mk k n nm slot loc op args,f=>by
  simp only [Fnd.expr];split
  . obtain ⟨j,i,h,g⟩:=U2 args (f.wants nm 1 100).1;exact ⟨by simp only [PEx.sz,j],by simp only [PEx.dep,i],fun ⟨a,b,c,d,e⟩=>⟨a,h.trans b,c,d,g e⟩⟩
  split
  . obtain ⟨j,i,h,g⟩:=U2 args (f.wants nm 2 2).1;exact ⟨by simp only [PEx.sz,j],by simp only [PEx.dep,i],fun ⟨a,b,c,d,e⟩=>⟨a,h.trans b,c,d,g e⟩⟩
  obtain ⟨j,i,h,g⟩:=U2 args f;exact ⟨by simp only [PEx.sz,j],by simp only [PEx.dep,i],fun ⟨a,b,c,d,e⟩=>⟨a,h.trans b,c,d,g e⟩⟩
theorem U2: ∀ (l:List PEx) (f:Fnd),Qm (f.exprs l).2=Qm l/\Yb (f.exprs l).2=Yb l/\(f.exprs l).2.length=l.length/\(PEx.fits l->PEx.fits (f.exprs l).2)
 | [],f=>⟨rfl,rfl,rfl,fun _=>trivial⟩
 |e::r,f=>by
  obtain ⟨k,j,i⟩:=Uj e f;obtain ⟨h,g,d,c⟩:=U2 r (f.expr e).1;simp only [Fnd.exprs];exact ⟨by simp only [Qm,k,h],by simp only [Yb,j,g],by simp only [bG,d],fun ⟨b,a⟩=>⟨i b,c a⟩⟩
end
mutual
theorem Qa {c:Cn}{lo:Int}: ∀ (e:PEx) (f:Fnd),(f.expr e).1.flaw=0->(f.expr e).1=f/\((∀ x∈f.names,NmOk c lo x)->(f.expr e).2.wl c lo)
 | .mk k n nm slot loc op args,f,h=>by
  simp only [Fnd.expr] at h|-;split at h
  . rename_i m;rw [if_pos m];obtain ⟨g,o⟩:=Q5 (c:=c) (lo:=lo) args _ h;dsimp only at h g|-;rw [g] at h;obtain ⟨p,x,q,b,r⟩:=fE h;refine ⟨g.trans p,fun i=>⟨fun _=> ?_,fun e=>aR (m.symm.trans e) (by decide),o (by rw [p];exact i)⟩⟩;have d:=i x q;rw [r];refine ⟨d.z,?_⟩;dsimp only;rcases b with b|b
    . rw [if_neg (by rw [b];decide)];exact d.v b
    rw [if_pos (by rw [b];decide)];exact d.lo b
  rename_i l;rw [if_neg l];split at h
  . rename_i m;rw [if_pos m];obtain ⟨g,o⟩:=Q5 (c:=c) (lo:=lo) args _ h;dsimp only at h g|-;rw [g] at h;obtain ⟨p,x,q,b,r⟩:=fE h;refine ⟨g.trans p,fun i=>⟨fun e=>aR (m.symm.trans e) (by decide),fun _=> ?_,o (by rw [p];exact i)⟩⟩;have d:=i x q;rw [r];exact ⟨d.z,d.a (by rcases b with e|e<;>exact e)⟩
  rename_i j;rw [if_neg j];obtain ⟨g,o⟩:=Q5 (c:=c) (lo:=lo) args _ h;exact ⟨g,fun i=>⟨fun e=>aR e l,fun e=>aR e j,o i⟩⟩
theorem Q5 {c:Cn}{lo:Int}: ∀ (l:List PEx) (f:Fnd),(f.exprs l).1.flaw=0->(f.exprs l).1=f/\((∀ x∈f.names,NmOk c lo x)->Mf c lo (f.exprs l).2)
 | [],f,_=>⟨rfl,fun _=>trivial⟩
 |e::r,f,h=>by
  simp only [Fnd.exprs] at h|-;obtain ⟨d,i⟩:=Q5 (c:=c) (lo:=lo) r _ h;rw [d] at h;obtain ⟨a,g⟩:=Qa (c:=c) (lo:=lo) e f h;exact ⟨d.trans a,fun b=>⟨g b,i (by rw [a];exact b)⟩⟩
end
def ownOk (c:Cn)(lo k slot other:Int)(loc:Bool):Prop:=
 (k=1\/k=2->vaOk c lo slot loc)/\(k=3->0<=slot/\slot<c.a)/\(k=6\/k=7->0<=slot/\slot<c.mu)/\(k=8\/k=9\/k=10->0<=slot/\slot<c.co)/\(k=8->0<=other/\other<c.mu)/\(k=11\/k=12->0<=slot/\slot<c.ch)/\(k=12->vaOk c lo other loc)/\(k=13->0<=slot/\slot<c.th)
theorem ownOk.up {s o:Int}{l:Bool}(h:ownOk c lo k s o l)(hl:lo<=hi):ownOk c hi k s o l:=by
 obtain ⟨m,j,i,g,f,d,b,a⟩:=h;exact ⟨fun e=>(m e).up hl,j,i,g,f,d,fun e=>(b e).up hl,a⟩
mutual
def PStm.wl (c:Cn)(lo:Int):PStm->Prop
 | .mk k _ _ _ _ e ix body els id slot other loc=>(1<=k/\k<=15)/\(k<=5\/k=11\/k=15->e.fit/\e.dep<=24/\e.wl c lo)/\(k=3->ix.fit/\ix.dep<=24/\ix.wl c lo)/\(0<=id/\id<512)/\ownOk c lo k slot other loc/\Qi c lo body/\Qi c lo els
def Qi (c:Cn)(lo:Int):List PStm->Prop
 | []=>True
 |s::r=>s.wl c lo/\Qi c lo r
end
mutual
theorem Ev {c:Cn}{lo hi:Int}(hl:lo<=hi): ∀ {s:PStm},s.wl c lo->s.wl c hi
 | .mk ..,⟨h1,h2,h3,h4,h5,h6,h7⟩=>⟨h1,fun k=>⟨(h2 k).1,(h2 k).2.1,Kh hl (h2 k).2.2⟩,fun k=>⟨(h3 k).1,(h3 k).2.1,Kh hl (h3 k).2.2⟩,h4,h5.up hl,J1 hl h6,J1 hl h7⟩
theorem J1 {c:Cn}{lo hi:Int}(hl:lo<=hi): ∀ {l:List PStm},Qi c lo l->Qi c hi l
 | [],_=>trivial
 |_::_,⟨h1,h2⟩=>⟨Ev hl h1,J1 hl h2⟩
end
structure Ctx (c:Cn) (f:Fnd):Prop where
 n: ∀ x∈f.names,NmOk c f.locals x
 l:0<=f.locals/\f.locals<=f.most/\f.most<=32
 s:0<=f.stm
theorem Og {wt:ByteArray}{lo:Bool}(h:(f.own k nm wt sl ot lo).1.flaw=0)(hx:Ctx c f):
 f.flaw=0/\Ctx c (f.own k nm wt sl ot lo).1/\f.most<=(f.own k nm wt sl ot lo).1.most/\(f.own k nm wt sl ot lo).1.stm=f.stm/\ownOk c (f.own k nm wt sl ot lo).1.most k (f.own k nm wt sl ot lo).2.1 (f.own k nm wt sl ot lo).2.2.1 (f.own k nm wt sl ot lo).2.2.2:=by
 obtain ⟨g, hg⟩ : ∃ g, f.own1 k nm sl lo = g := ⟨_, rfl⟩; unfold Fnd.own at h |-; rw [hg] at h |-; -- behind own1 nothing is flawed
 have p:g.1.flaw=0:=by
  unfold Fnd.own2 at h;split at h
  . exact (Nd (show ((g.1.loc1 nm).loc2).flaw=0 from h)).2.2
  split at h
  . dsimp only at h;rw [<-(fE h).1];exact h
  split at h
  . dsimp only at h;rw [<-(fE h).1];exact h
  exact h
 have hw:g.1=f/\(k=2->vaOk c f.locals g.2.1 g.2.2)/\(k=3->0<=g.2.1/\g.2.1<c.a)/\(k=6\/k=7->0<=g.2.1/\g.2.1<c.mu)/\(k=8\/k=9\/k=10->0<=g.2.1/\g.2.1<c.co)/\(k=11\/k=12->0<=g.2.1/\g.2.1<c.ch)/\(k=13->0<=g.2.1/\g.2.1<c.th):=by
  rw [<-hg] at p|-;unfold Fnd.own1 at p|-;by_cases hz:(Jt k).1≠0
  . rw [if_pos hz] at p|-;obtain ⟨o,x,b,j,q⟩:=fE p;have i:=hx.n x b;rw [q];refine ⟨o,fun e=> ?_,fun e=> ?_,fun e=> ?_,fun e=> ?_,fun e=> ?_,fun e=> ?_⟩
    . subst e;refine ⟨i.z,?_⟩;dsimp only;rcases j with j|j
      . rw [if_neg (by rw [j];decide)];exact i.v j
      rw [if_pos (by rw [j];decide)];exact i.lo j
    . subst e;exact ⟨i.z,i.a (by rcases j with e|e<;>exact e)⟩
    . refine ⟨i.z,i.mu ?_⟩;rcases e with e|e<;>subst e<;>rcases j with e|e<;>exact e
    . refine ⟨i.z,i.co ?_⟩;rcases e with e|e|e<;>subst e<;>rcases j with e|e<;>exact e
    . refine ⟨i.z,i.ch ?_⟩;rcases e with e|e<;>subst e<;>rcases j with e|e<;>exact e
    subst e;exact ⟨i.z,i.th (by rcases j with e|e<;>exact e)⟩
  rw [if_neg hz] at p|-;have r:(Jt k).1=0:=fX.1 hz;refine ⟨rfl,fun e=> ?_,fun e=> ?_,fun e=> ?_,fun e=> ?_,fun e=> ?_,fun e=> ?_⟩<;>exfalso<;>revert r
  . subst e;decide
  . subst e;decide
  . rcases e with e|e<;>subst e<;>decide
  . rcases e with e|e|e<;>subst e<;>decide
  . rcases e with e|e<;>subst e<;>decide
  subst e;decide
 obtain ⟨o,w2,w3,w4,y,w,w7⟩:=hw;obtain ⟨m,gs,gl⟩:=g;dsimp only at*;subst o;obtain ⟨l1,l2,l3⟩:=hx.l;refine ⟨p,?_⟩;unfold Fnd.own2 at h|-;split at h
 . rename_i j;rw [if_pos j];obtain ⟨e3,e4,_⟩:=Nd (show ((m.loc1 nm).loc2).flaw=0 from h);dsimp only;rw [e3];have hm:(m.loc3 nm).most=max m.most (m.locals+1):=rfl;have a0:(m.loc3 nm).locals=m.locals+1:=rfl;refine ⟨⟨fun x b=> ?_,⟨by omega,by omega,by omega⟩,hx.s⟩,by omega,rfl,?_⟩
   . rcases aQ.1 (show x∈m.names++ [⟨nm,100,m.locals⟩] from b) with b|b
     . exact (hx.n x b).up (Cn.le_refl c) (by omega)
     rw [aZ.1 b];exact ⟨l1,fun e=>aR (show (100:Int)=1 from e) (by decide),fun e=>aR (show (100:Int)=2 from e) (by decide),fun e=>aR (show (100:Int)=3 from e) (by decide),fun e=>aR (show (100:Int)=4 from e) (by decide),fun e=>aR (show (100:Int)=5 from e) (by decide),fun e=>aR (show (100:Int)=6 from e) (by decide),fun _=>by dsimp only;omega⟩
   exact ⟨fun _=>⟨l1,by rw [if_pos rfl];omega⟩,fun e=>by omega,fun e=>by omega,fun e=>by omega,fun e=>by omega,fun e=>by omega,fun e=>by omega,fun e=>by omega⟩
 rename_i u;rw [if_neg u];split at h
 . rename_i j;rw [if_pos j];dsimp only at h|-;obtain ⟨o,x,b,d,q⟩:=fE h;rw [o,q];have i:=hx.n x b;exact ⟨hx,bL _,rfl,fun e=>by omega,fun e=>by omega,fun e=>by omega,fun e=>y (by omega),fun _=>⟨i.z,i.mu (by rcases d with e|e<;>exact e)⟩,fun e=>by omega,fun e=>by omega,fun e=>by omega⟩
 rename_i t;rw [if_neg t];split at h
 . rename_i j;rw [if_pos j];dsimp only at h|-;obtain ⟨o,x,b,d,q⟩:=fE h;rw [o,q];have i:=hx.n x b;refine ⟨hx,bL _,rfl,fun e=>by omega,fun e=>by omega,fun e=>by omega,fun e=>by omega,fun e=>by omega,fun e=>w (by omega),fun _=>⟨i.z,?_⟩,fun e=>by omega⟩;dsimp only;rcases d with d|d
   . rw [if_neg (by rw [d];decide)];exact i.v d
   rw [if_pos (by rw [d];decide)];have:=i.lo d;omega
 rename_i d;rw [if_neg d];dsimp only;exact ⟨hx,bL _,rfl,fun e=>(w2 (by omega)).up l2,w3,w4,fun e=>y (by omega),fun e=>by omega,fun e=>w (by omega),fun e=>by omega,w7⟩
theorem Eu {wt:ByteArray}{lo:Bool}(h:(f.own k nm wt sl ot lo).1.flaw=0):f.flaw=0:=by
 have a:(f.own1 k nm sl lo).1.flaw=0:=by
  unfold Fnd.own Fnd.own2 at h;split at h
  . exact (Nd (show (((f.own1 k nm sl lo).1.loc1 nm).loc2).flaw=0 from h)).2.2
  split at h
  . dsimp only at h;rw [<-(fE h).1];exact h
  split at h
  . dsimp only at h;rw [<-(fE h).1];exact h
  exact h
 unfold Fnd.own1 at a;split at a
 . dsimp only at a;rw [<-(fE a).1];exact a
 exact a
theorem Qy (l:List PStm)(f:Fnd)(h:(f.blk l).1.flaw=0):f.flaw=0:=by
 cases l with
 |nil=>exact h
 |cons s r=>
  simp only [Fnd.blk] at h;split at h
  . rename_i k;exact k
  exact h
mutual
/-- A statement that Check lets pass. -/
def PStm.raw:PStm->Prop
 | .mk k _ _ _ _ e ix body els _ _ _ _=>(1<=k/\k<=15)/\(k<=5\/k=11\/k=15->e.fit/\e.dep<=24)/\(k=3->ix.fit/\ix.dep<=24)/\(e.sz<=e.nd+1/\ix.sz<=ix.nd+1)/\Vu body/\Vu els
def Vu:List PStm->Prop
 | []=>True
 |s::r=>s.raw/\Vu r
end
mutual
theorem Lr {c:Cn}: ∀ (s:PStm) (f:Fnd),s.raw->(f.stmt s).1.flaw=0->Ctx c f->f.flaw=0/\Ctx c (f.stmt s).1/\f.most<=(f.stmt s).1.most/\(f.stmt s).2.wl c (f.stmt s).1.most
 | .mk k ln cl nm wt e ix body els id slot other loc,f,hr,h,hx=>by
  obtain ⟨r1,r2,r3,r4,r5,r6⟩:=hr;simp only [Fnd.stmt] at h|-;split at h
  . exact aR h (Y5 (by decide))
  rename_i h5;rw [if_neg h5];dsimp only at h|-;obtain ⟨q,a⟩: ∃ g:Fnd,g= { f with stm:=f.stm+1 } :=⟨_,rfl⟩;rw [<-a] at h|-;obtain ⟨f1,o⟩:=kL (q.expr ix);rw [<-o] at h|-;obtain ⟨t,m⟩:=kL (f1.1.expr e);rw [<-m] at h|-;obtain ⟨r,j⟩:=kL (t.1.own k nm wt slot other loc);rw [<-j] at h|-;obtain ⟨f4,i⟩:=kL (r.1.blk body);rw [<-i] at h|-;obtain ⟨z,b⟩: ∃ g:Fnd,g= { f4.1 with names:=r.1.names,locals:=r.1.locals } :=⟨_,rfl⟩;rw [<-b] at h|-;obtain ⟨f5,d⟩:=kL (z.blk els);rw [<-d] at h|-;have q5:=Qy els z (by rw [<-d];exact h);have q4:f4.1.flaw=0:=by rw [b] at q5;exact q5
  have q3:r.1.flaw=0:=Qy body r.1 (by rw [<-i];exact q4);have q2:t.1.flaw=0:=Eu (by rw [<-j];exact q3);have p2:=Qa (c:=c) (lo:=f.locals) e f1.1 (by rw [<-m];exact q2);rw [<-m] at p2;have q1:f1.1.flaw=0:=by rw [<-p2.1];exact q2
  have p1:=Qa (c:=c) (lo:=f.locals) ix q (by rw [<-o];exact q1);rw [<-o] at p1;have x0:Ctx c q:=by rw [a];exact ⟨hx.n,hx.l,by have:=hx.s;dsimp only;omega⟩
  have e2:t.1=q:=p2.1.trans p1.1;have v: ∀ x∈q.names,NmOk c f.locals x:=by rw [a];exact hx.n
  have w1:=p1.2 v;have w2:=p2.2 (by rw [p1.1];exact v);have u:=Og (c:=c) (f:=t.1) (k:=k) (sl:=slot) (ot:=other) (nm:=nm) (wt:=wt) (lo:=loc) (by rw [<-j];exact q3) (by rw [e2];exact x0);rw [<-j] at u;obtain ⟨o1,p,o3,o4,o5⟩:=u;have b4:=Jp (c:=c) body r.1 r5 (by rw [<-i];exact q4) p;rw [<-i] at b4;obtain ⟨b0,f0,d0⟩:=b4;have x4:Ctx c z:=by rw [b];exact ⟨p.n,⟨p.l.1,by have:=p.l.2.1;dsimp only;omega,b0.l.2.2⟩,b0.s⟩
  have b5:=Jp (c:=c) els z r6 (by rw [<-d];exact h) x4;rw [<-d] at b5;obtain ⟨a0,e0,c0⟩:=b5;have m4:z.most=f4.1.most:=by rw [b]
  have m2:t.1.most=f.most:=by rw [e2,a]
  have s2:t.1.stm=f.stm+1:=by rw [e2,a]
  have k1:=Uj ix q;have k2:=Uj e f1.1;rw [<-o] at k1;rw [<-m] at k2;have hl:=hx.l;have w:f.locals<=f5.1.most:=by omega
  refine ⟨by rw [e2,a] at o1;exact o1,⟨p.n,⟨p.l.1,by have:=p.l.2.1;dsimp only;omega,a0.l.2.2⟩,a0.s⟩,by (try dsimp only);omega,r1,fun y=>⟨k2.2.2 (r2 y).1,by rw [k2.2.1];exact (r2 y).2,Kh w w2⟩,fun y=>⟨k1.2.2 (r3 y).1,by rw [k1.2.1];exact (r3 y).2,Kh w w1⟩,⟨hx.s,by omega⟩,o5.up (by (try dsimp only);omega),J1 (by (try dsimp only);omega) d0,c0⟩
theorem Jp {c:Cn}: ∀ (l:List PStm) (f:Fnd),Vu l->(f.blk l).1.flaw=0->Ctx c f->Ctx c (f.blk l).1/\f.most<=(f.blk l).1.most/\Qi c (f.blk l).1.most (f.blk l).2
 | [],f,_,_,hx=>⟨hx,bL _,trivial⟩
 |s::r,f,hr,h,hx=>by
  simp only [Fnd.blk] at h|-;split at h
  . rename_i a;rw [if_pos a];have q:=Qy r (f.stmt s).1 h;obtain ⟨_,i,j,g⟩:=Lr (c:=c) s f hr.1 q hx;obtain ⟨e,d,b⟩:=Jp (c:=c) r (f.stmt s).1 hr.2 h i;exact ⟨e,by (try dsimp only);omega,Ev d g,b⟩
  rename_i a;exact aR h a
end
mutual
theorem Lt: ∀ (s:PStm) (f:Fnd),s.raw->(f.stmt s).2.wt<=14*s.nd
 | .mk k ln cl nm wt e ix body els id slot other loc,f,hr=>by
  obtain ⟨_,_,_,⟨h,g⟩,b,a⟩:=hr;simp only [Fnd.stmt];split
  . have j:=Us body b;have i:=Us els a;simp only [PStm.wt,Hi];omega
  dsimp only;have d:=Uj ix { f with stm:=f.stm+1 };have c:=Uj e (Fnd.expr { f with stm:=f.stm+1 } ix).1;simp only [PStm.wt,Hi,d.1,c.1];refine cP (Nat.add_le_add_left (Hb els _ a) _) (cP (Nat.add_le_add_right (Nat.add_le_add_left (Hb body _ b) _) _) ?_);omega
theorem Hb: ∀ (l:List PStm) (f:Fnd),Vu l->W5 (f.blk l).2<=14*Zo l
 | [],f,_=>bB _
 |s::r,f,hr=>by
  simp only [Fnd.blk];split
  . have b:=Lt s f hr.1;have a:=Hb r (f.stmt s).1 hr.2;simp only [W5,Zo];omega
  simp [W5]
theorem Lh: ∀ (s:PStm),s.raw->s.wt<=14*s.nd
 | .mk k ln cl nm wt e ix body els id slot other loc,hr=>by
  obtain ⟨_,_,_,⟨d,c⟩,b,a⟩:=hr;have g:=Us body b;have f:=Us els a;simp only [PStm.wt,Hi];omega
theorem Us: ∀ (l:List PStm),Vu l->W5 l<=14*Zo l
 | [],_=>bB _
 |s::r,hr=>by
  have b:=Lh s hr.1;have a:=Us r hr.2;simp only [W5,Zo];omega
end
mutual
theorem U0: ∀ {e:PEx} {d:Nat},e.right d=true->e.sz=e.nd/\e.dep<=d
 | .mk k n nm _ _ op args,d,h=>by
  simp only [PEx.right] at h;split at h
  . cases h
  rename_i c;split at h
  . rename_i f;rw [aI] at h
    have g:1<=d:=by
     unfold Rz at c;simp only [dM,not_or,bN] at c;omega
    obtain ⟨a,b⟩:=Ma h.2;simp only [PEx.sz,PEx.nd,PEx.dep];rw [if_neg (by omega)];omega
  cases h
theorem Ma: ∀ {l:List PEx} {d:Nat},Y4 l d=true->Qm l=Bq l/\Yb l<=d
 | [],_,_=>⟨rfl,bB _⟩
 |e::r,d,h=>by
  simp only [Y4,aI] at h;have b:=U0 h.1;have a:=Ma h.2;simp only [Qm,Bq,Yb];omega
end
theorem Eb (h:e.nil=true):e.sz<=e.nd+1:=by
 cases e with
 |mk k n nm s l op args=>
  simp only [PEx.nil,aI,bN] at h;have:args= []:=aK h.2;subst this;simp only [PEx.sz,Qm];omega
mutual
theorem G8: ∀ {s:PStm} {n:Nat},s.may n=true->s.raw
 | .mk k _ _ nm wt e ix body els _ _ _ _,n,h=>by
  simp only [PStm.may] at h;split at h;cases h
  rename_i f;split at h;cases h
  split at h;cases h
  rename_i c;split at h;cases h
  rw [aI] at h;unfold Su at f;simp only [dM,not_or,bN] at f;unfold Pz at c;have b:E0 k=true->e.right 24=true:=fun b=>by cases hr:e.right 24 with|true=>rfl|false=>simp [b,hr] at c
  have g:E0 k=false->e.nil=true:=fun b=>by cases hr:e.nil with|true=>rfl|false=>simp [b,hr] at c
  have d:k=3->ix.right 24=true:=fun a=>by cases hr:ix.right 24 with|true=>rfl|false=>simp [a,hr] at c
  have i: ¬k=3->ix.nil=true:=fun a=>by cases hr:ix.nil with|true=>rfl|false=>simp [a,hr] at c
  refine ⟨by omega,fun a=> ?_,fun a=>⟨J7 (d a),(U0 (d a)).2⟩,⟨?_,?_⟩,W8 h.1,W8 h.2⟩
  . have:E0 k=true:=by unfold E0;simp only [dM,bN,dC];omega
    exact ⟨J7 (b this),(U0 (b this)).2⟩
  . cases a:E0 k with
    |true=>have:=(U0 (b a)).1;omega
    |false=>exact Eb (g a)
  by_cases a:k=3
  . have:=(U0 (d a)).1;omega
  exact Eb (i a)
theorem W8: ∀ {l:List PStm} {n:Nat},PStm.mays l n=true->Vu l
 | [],_,_=>trivial
 |s::r,n,h=>by
  simp only [PStm.mays,aI] at h;exact ⟨G8 h.1,W8 h.2⟩
end
structure DInv (f:Fnd):Prop where
 n: ∀ x∈f.names,NmOk f.cn 0 x
 l:f.locals=0/\f.stm=0
 k:f.names.length<=64/\f.vars.length<=f.names.length/\f.arrs.length<=f.names.length/\f.chs.length<=f.names.length/\f.ths.length<=f.names.length/\(0<=f.mu/\f.mu<=f.names.length)/\(0<=f.co/\f.co<=f.names.length)
 v: ∀ n∈f.vars, -2147483648<=n/\n<=2147483647
 a: ∀ n∈f.arrs,1<=n/\n<=256
 c: ∀ n∈f.chs,1<=n/\n<=16
 t: ∀ t∈f.ths,(1<=t.nm.size/\t.nm.size<=16)/\t.loc=0/\t.body= []
theorem Ho {α:Type}{φ:α->Prop}{l:List α}{x:α}(h: ∀ y∈l,φ y)(hx:φ x): ∀ y∈l++ [x],φ y:=by
 intro y a;rcases aQ.1 a with a|a
 . exact h y a
 rw [aZ.1 a];exact hx
theorem DInv.z:DInv Fnd.z:=⟨fun x a=>(by cases a),⟨rfl,rfl⟩,by decide,fun x a=>(by cases a),fun x a=>(by cases a),fun x a=>(by cases a),fun x a=>(by cases a)⟩
theorem DInv.decl (h:DInv f)(hf:(f.decl d).flaw=0)(h0:f.flaw=0)(hk:1<=d.k/\d.k<=6)(hn:1<=d.nm.size/\d.nm.size<=16):DInv (f.decl d):=by
 have t: ∃ g s,f.decl d= { g with names:=f.names++ [⟨d.nm,d.k,s⟩] } /\g.names=f.names/\f.names.length<64/\g=(f.decl1 d).1/\s=(f.decl1 d).2.1/\(f.decl1 d).2.2=true:=by
  unfold Fnd.decl at hf|-;split at hf
  . exact aR hf (Y5 (by decide))
  rename_i c1;rw [if_neg c1];split at hf
  . rename_i m;rw [J9 m] at hf;exact aR hf (Y5 (by decide))
  rename_i m;rw [if_neg m]
  have v:(f.decl1 d).1.names=f.names:=by
   unfold Fnd.decl1;(repeat' split)<;>first|rfl|exact (f.fl_keep _).2.2.1
  split at hf
  . exact aR hf (Y5 (by decide))
  rename_i w;rw [if_neg w];rw [v] at w;exact ⟨_,_,by rw [v],v,by omega,rfl,rfl,by revert m;cases (f.decl1 d).2.2<;>simp⟩
 obtain ⟨g,s,e1,e2,e3,b,a,l⟩:=t;rw [e1];obtain ⟨z,r,i3,q,p,o,n⟩:=h;have j:d.k=1\/d.k=2\/d.k=3\/d.k=4\/d.k=5\/d.k=6:=by omega
 have i: ∀ {c:Cn},f.cn.le c->NmOk c 0 ⟨d.nm,d.k,s⟩-> ∀ x∈f.names++ [⟨d.nm,d.k,s⟩],NmOk c 0 x:=fun u ho=>Ho (fun y hy=>(z y hy).up u (bL _)) ho
 unfold Fnd.decl1 at b a l;rcases j with j|j|j|j|j|j 
 . rw [if_pos j] at b a l;split at l
   . cases l
   rename_i m;rw [if_neg m] at b a;subst b;subst a;refine ⟨i ⟨by simp [Fnd.cn]<;>omega,bL _,bL _,bL _,bL _,bL _⟩ ⟨by simp,fun _=>by simp [Fnd.cn]<;>omega,?_,?_,?_,?_,?_,?_⟩,r,by simp;omega,Ho q (by omega),p,o,n⟩<;>(intro e;have e:d.k=_:=e;omega)
 . rw [if_neg (by omega),if_pos j] at b a l;split at l
   . cases l
   rename_i m;rw [if_neg m] at b a;subst b;subst a;refine ⟨i ⟨bL _,by simp [Fnd.cn]<;>omega,bL _,bL _,bL _,bL _⟩ ⟨by simp,?_,fun _=>by simp [Fnd.cn]<;>omega,?_,?_,?_,?_,?_⟩,r,by simp;omega,q,Ho p (by omega),o,n⟩<;>(intro e;have e:d.k=_:=e;omega)
 . rw [if_neg (by omega),if_neg (by omega),if_pos j] at b a l;subst b;subst a;refine ⟨i ⟨bL _,bL _,by simp [Fnd.cn]<;>omega,bL _,bL _,bL _⟩ ⟨by dsimp only;omega,?_,?_,fun _=>by simp [Fnd.cn]<;>omega,?_,?_,?_,?_⟩,r,by simp;omega,q,p,o,n⟩<;>(intro e;have e:d.k=_:=e;omega)
 . rw [if_neg (by omega),if_neg (by omega),if_neg (by omega),if_pos j] at b a l;subst b;subst a;refine ⟨i ⟨bL _,bL _,bL _,by simp [Fnd.cn]<;>omega,bL _,bL _⟩ ⟨by dsimp only;omega,?_,?_,?_,fun _=>by simp [Fnd.cn]<;>omega,?_,?_,?_⟩,r,by simp;omega,q,p,o,n⟩<;>(intro e;have e:d.k=_:=e;omega)
 . rw [if_neg (by omega),if_neg (by omega),if_neg (by omega),if_neg (by omega),if_pos j] at b a l;split at l
   . cases l
   rename_i m;rw [if_neg m] at b a;subst b;subst a;refine ⟨i ⟨bL _,bL _,bL _,bL _,by simp [Fnd.cn]<;>omega,bL _⟩ ⟨by simp,?_,?_,?_,?_,fun _=>by simp [Fnd.cn]<;>omega,?_,?_⟩,r,by simp;omega,q,p,Ho o (by omega),n⟩<;>(intro e;have e:d.k=_:=e;omega)
 rw [if_neg (by omega),if_neg (by omega),if_neg (by omega),if_neg (by omega),if_neg (by omega),if_pos j] at b a l;subst b;subst a;refine ⟨i ⟨bL _,bL _,bL _,bL _,bL _,by simp [Fnd.cn]<;>omega⟩ ⟨by simp,?_,?_,?_,?_,?_,fun _=>by simp [Fnd.cn]<;>omega,?_⟩,r,by simp;omega,q,p,o,Ho n ⟨hn,rfl,rfl⟩⟩<;>(intro e;have e:d.k=_:=e;omega)
theorem DInv.decls: ∀ {ds:List PDec} {f:Fnd},DInv f->(∀ d∈ds,(1<=d.k/\d.k<=6)/\(1<=d.nm.size/\d.nm.size<=16))->(f.decls ds).flaw=0->DInv (f.decls ds)
 | [],_,h,_,_=>h
 |d::r,f,h,hd,hf=>by
  unfold Fnd.decls at hf|-;split at hf
  . rename_i a;rw [if_pos a]
    have b:(f.decl d).flaw=0:=by
     cases r with
     |nil=>exact hf
     |cons x r=>
      unfold Fnd.decls at hf;split at hf
      . assumption
      exact hf
    exact DInv.decls (h.decl b a (hd d (bI ..)).1 (hd d (bI ..)).2) (fun x c=>hd x (bZ _ c)) hf
  rename_i a;exact aR hf a
structure ThW (P:List PStm->Prop) (c:Cn) (t:PTh):Prop where
 n:1<=t.nm.size/\t.nm.size<=16
 l:0<=t.loc/\t.loc<=32
 b:Qi c t.loc t.body
 p:P t.body
structure BInv (P:List PStm->Prop) (d f:Fnd):Prop where
 e:f.vars=d.vars/\f.arrs=d.arrs/\f.chs=d.chs/\f.mu=d.mu/\f.co=d.co/\f.ths.length=d.ths.length/\f.names=d.names
 n: ∀ x∈d.names,NmOk d.cn 0 x
 l:f.locals=0/\0<=f.stm
 t: ∀ t∈f.ths,ThW P d.cn t
theorem BInv.bodies {d:Fnd}: ∀ {bs:List (List PStm)} {i:Nat} {f:Fnd},(∀ b∈bs,Vu b/\ ∀ g,P (Fnd.blk g b).2)->BInv P d f->(f.bodies i bs).flaw=0->BInv P d (f.bodies i bs)
 | [],_,_,_,h,_=>h
 |b::r,i,f,hb,h,hf=>by
  unfold Fnd.bodies at hf|-;split at hf
  . rename_i o;rw [if_pos o];dsimp only at hf|-;obtain ⟨g,hg⟩:=kL (Fnd.block { f with most:=0 } b);rw [<-hg] at hf|-;obtain ⟨q,j⟩:=kL (Fnd.blk { f with most:=0 } b);have k:g=({ q.1 with names:=f.names,locals:=f.locals },q.2):=by rw [hg,j];rfl
    have fl:g.1.flaw=0:=by
     cases r with
     |nil=>exact hf
     |cons x r=>
      unfold Fnd.bodies at hf;split at hf
      . assumption
      exact hf
    have p:q.1.flaw=0:=by rw [k] at fl;exact fl
    have v:=fY b { f with most:=0 };rw [<-j] at v;obtain ⟨t1,t2,t3,z,y,m,_⟩:=v.e;dsimp only at t1 t2 t3 z y m;obtain ⟨j1,j2,j3,j4,j5,j6,j7⟩:=h.e;have cx:Ctx d.cn { f with most:=0 } :=⟨by dsimp only;rw [j7,h.l.1];exact h.n,by dsimp only;rw [h.l.1];decide,h.l.2⟩;have w:=Jp (c:=d.cn) b { f with most:=0 } (hb b (bI ..)).1 (by rw [<-j];exact p) cx;have hp:=(hb b (bI ..)).2 { f with most:=0 };rw [<-j] at w hp;obtain ⟨w1,u,w3⟩:=w;dsimp only at u;refine BInv.bodies (fun x hx=>hb x (bZ _ hx)) ⟨?_,h.n,?_,?_⟩ hf
    . rw [k];dsimp only;rw [bC,m];exact ⟨t1.trans j1,t2.trans j2,y.trans j3,t3.trans j4,z.trans j5,j6,j7⟩
    . rw [k];exact ⟨h.l.1,w1.s⟩
    rw [k];dsimp only;rw [m];intro t a;by_cases hi:i<f.ths.length
    . rcases bO a with a|a
      . exact h.t t a
      rw [a,bD,aD hi];exact ⟨(h.t _ (aB hi)).n,⟨u,w1.l.2.2⟩,w3,hp⟩
    rw [iW (by omega)] at a;exact h.t t a
  rename_i o;exact aR hf o
structure PrgOk (P:List PStm->Prop) (F:Fnd):Prop where
 k:F.vars.length<=64/\F.arrs.length<=64/\F.chs.length<=64/\F.ths.length<=64/\(0<=F.mu/\F.mu<=64)/\(0<=F.co/\F.co<=64)
 v: ∀ n∈F.vars, -2147483648<=n/\n<=2147483647
 a: ∀ n∈F.arrs,1<=n/\n<=256
 c: ∀ n∈F.chs,1<=n/\n<=16
 t: ∀ t∈F.ths,ThW P F.cn t
 m:0<=F.main/\F.main<F.ths.length
theorem bad_nm (h:d.bad=false):1<=d.nm.size/\d.nm.size<=16:=by
 unfold PDec.bad Sd at h;simp only [eK,cS,gK] at h;obtain ⟨⟨⟨⟨⟨⟨⟨⟨_,_⟩,b⟩,_⟩,_⟩,_⟩,_⟩,_⟩,_⟩:=h;have a:nmS (bs d.nm)=true:=by simpa using b
 unfold nmS at a;split at a
 . cases a
 rename_i c;have e:(bs d.nm).length=d.nm.size:=Ko d.nm;omega
theorem Xa (h:d.bad=false):Vu d.body:=by
 unfold PDec.bad Sd at h;simp only [eK,cS,gK] at h;exact W8 h.2
theorem Pm (h:N9 ds=some F)(h0:P [])(hP: ∀ d∈ds,d.bad=false-> ∀ g,P (Fnd.blk g d.body).2):PrgOk P F:=by
 unfold N9 at h;split at h
 . cases h
 rename_i a0
 have o: ∀ d∈ds,d.bad=false:=fun d w=>by
  cases hb:d.bad with
  |false=>rfl
  |true=>exact aR (jP.2 ⟨d,w,hb⟩) a0
 dsimp only at h;obtain ⟨f,hf⟩:=kL (Fnd.decls .z ds);rw [<-hf] at h;obtain ⟨f1,m⟩: ∃ f1,f1=(if f.flaw=0/\(f.at Um=0\/((f.names.map (·.k)).getD (f.at Um - 1) 0)≠6) then f.fl 133 else f):=⟨_,rfl⟩;rw [<-m] at h;obtain ⟨bs,y⟩:=kL ((ds.filter fun d=>d.k==6).map (·.body));rw [<-y] at h;by_cases hfl:(f1.bodies 0 bs).flaw≠0
 . rw [if_pos hfl] at h;cases h
 rw [if_neg hfl] at h
 cases h
 have j:=fX.1 hfl
 have u:f1.flaw=0:=by
  cases bs with
  |nil=>exact j
  |cons x r=>
   unfold Fnd.bodies at j;split at j
   . assumption
   exact j
 have hm:f1=f/\f.flaw=0/\f.at Um≠0/\((f.names.map (·.k)).getD (f.at Um - 1) 0)=6:=by
  split at m
  . rw [m] at u;exact aR u (Y5 (by decide))
  rename_i hn;rw [m] at u;refine ⟨m,u,fun k=>hn ⟨u,.inl k⟩,Decidable.byContradiction fun k=>hn ⟨u,.inr k⟩⟩
 obtain ⟨e1,z2,m1,m2⟩:=hm
 have D:DInv f:=by
  rw [hf];exact DInv.decls .z (fun d w=>⟨(Gl (o d w)).1,bad_nm (o d w)⟩) (by rw [<-hf];exact z2)
 rw [e1] at j|-
 have B:=BInv.bodies (P:=P) (d:=f) (bs:=bs) (i:=0) (f:=f) (fun b hb=>by
  rw [y] at hb;obtain ⟨d,w,rfl⟩:=bU.1 hb;have q:=(fH.1 w).1
  exact ⟨Xa (o d q),hP d q (o d q)⟩) ⟨⟨rfl,rfl,rfl,rfl,rfl,rfl,rfl⟩,D.n,⟨D.l.1,by rw [D.l.2];decide⟩,fun t ht=>by
   obtain ⟨a,b,c⟩:=D.t t ht;exact ⟨a,by omega,by rw [c];trivial,by rw [c];exact h0⟩⟩ j
 obtain ⟨g,hg⟩:=kL (f.bodies 0 bs);rw [<-hg] at B|-;obtain ⟨b1,b2,b3,b4,b5,b6,b7⟩:=B.e;have cn:Fnd.cn { g with main:=(g.names.map (·.s)).getD (f.at Um - 1) 0 } =f.cn:=by unfold Fnd.cn;dsimp only;rw [b1,b2,b3,b4,b5,b6]
 obtain ⟨k1,k2,k3,k4,k5,k6,k7⟩:=D.k;refine ⟨?_,by dsimp only;rw [b1];exact D.v,by dsimp only;rw [b2];exact D.a,by dsimp only;rw [b3];exact D.c,by rw [cn];exact B.t,?_⟩
 . dsimp only;rw [b1,b2,b3,b4,b5,b6];omega
 have p:f.at Um - 1<f.names.length:=by
  have:f.at Um<=f.names.length:=Kx;omega
 have e6:f.names[f.at Um - 1].k=6:=by
  rw [bD,fJ,aD p] at m2;exact m2
 have ho:=D.n _ (aB p);dsimp only;rw [b7,bD,fJ,aD p,b6];exact ⟨ho.z,ho.th e6⟩
theorem Zq4 (h:Qz l=some ds):(ds.map fun d=>Zo d.body+1).sum<=l.length/\l.length<=65536:=by
 unfold Qz at h;split at h
 . cases h
 rename_i i;split at h
 . cases h
 rename_i e b;split at h
 . cases h
 rename_i c a;split at h
 . cases h
 cases h
 have g:=(Kl b).1;have f:=(Tz (aL _) a).1;omega
theorem text_prg (h:Jj l=some F):PrgOk (fun b=>W5 b<=14*l.length) F/\l.length<=65536:=by
 unfold Jj at h;split at h
 . cases h
 rename_i ds c;obtain ⟨n,j⟩:=Zq4 c;refine ⟨Pm h (bB _) fun d a e g=> ?_,j⟩;have m:=Hb d.body g (Xa e);have i:=F8 (f:=fun d:PDec=>Zo d.body+1) a;have k:Zo d.body+1<=(ds.map fun d=>Zo d.body+1).sum:=i;show W5 (Fnd.blk g d.body).2<=14*l.length
 omega
theorem Hx (f:Fnd)(w:Int):(f.fl w).stm=f.stm:=by unfold Fnd.fl;split<;>rfl
theorem J8 (f:Fnd)(s:ByteArray)(a b:Int):(f.wants s a b).1.stm=f.stm:=by
 unfold Fnd.wants;split
 . exact Hx _ _
 dsimp only;split
 . exact Hx _ _
 rfl
theorem Ll (f:Fnd)(k sl ot:Int)(nm wt:ByteArray)(lo:Bool):(f.own k nm wt sl ot lo).1.stm=f.stm:=by
 have a:(f.own1 k nm sl lo).1.stm=f.stm:=by
  unfold Fnd.own1;split
  . exact J8 _ _ _ _
  rfl
 unfold Fnd.own Fnd.own2;split
 . show (((f.own1 k nm sl lo).1.loc1 nm).loc2).stm=_
   have b:((f.own1 k nm sl lo).1.loc1 nm).stm=f.stm:=by
    unfold Fnd.loc1;split
    . rw [Hx,a]
    exact a
   unfold Fnd.loc2;split
   . rw [Hx,b]
   exact b
 split
 . exact (J8 _ _ _ _).trans a
 split
 . exact (J8 _ _ _ _).trans a
 exact a
mutual
theorem Nf {c:Cn}{lo:Int}: ∀ {e:PEx} {d:Nat},e.fit->e.dep<=d->e.wl c lo->e.ask c lo d=true
 | .mk k n nm slot loc op args,d,⟨h1,h2,h3,h4,h5⟩,hd,⟨w1,w2,w3⟩=>by
  simp only [PEx.dep] at hd;simp only [PEx.ask,aI,bN];refine ⟨⟨by omega,?_⟩,?_⟩
  . rw [h2];unfold Uq V9 inB;have g:k=1\/k=2\/k=3\/k=4\/k=5\/k=6:=by omega
    rcases g with rfl|rfl|rfl|rfl|rfl|rfl
    . have:=h3 rfl;rw [if_pos rfl,if_pos (show val n from ⟨by omega,by omega⟩)];rfl
    . obtain ⟨a,b⟩:=w1 rfl;rw [if_neg (by decide),if_pos rfl,if_pos]
      . rfl
      rw [bN];refine ⟨a,?_⟩;split
      . rename_i f;rw [if_pos f] at b;exact b
      rename_i f;rw [if_neg f] at b;exact b
    . have:=w2 rfl;rw [if_neg (by decide),if_neg (by decide),if_pos rfl,if_pos (by rw [bN];exact this)];rfl
    . rfl
    . rfl
    have:=h4 rfl;rw [if_neg (by decide),if_neg (by decide),if_neg (by decide),if_neg (by decide),if_pos rfl,if_pos (by omega)];rfl
  have:=Rm (c:=c) (lo:=lo) (d:=d - 1) h5 (by omega) w3;rwa [show ((d - 1:Nat):Int)=(d:Int) - 1 by omega] at this
theorem Rm {c:Cn}{lo:Int}: ∀ {l:List PEx} {d:Nat},PEx.fits l->Yb l<=d->Mf c lo l->Jm c lo l d=true
 | [],_,_,_,_=>rfl
 |e::r,d,⟨h1,h2⟩,hd,⟨w1,w2⟩=>by
  simp only [Yb] at hd;simp only [Jm,aI];exact ⟨Nf h1 (by omega) w1,Rm h2 (by omega) w2⟩
end
theorem slotB_of {slot other:Int}{loc:Bool}(hk:1<=k/\k<=15)(h:ownOk c lo k slot other loc)(hl:k=1->loc=true):Na c lo k slot other loc=true:=by
 obtain ⟨j,p,i,e,o,g,m,l⟩:=h
 have f: ∀ {s:Int},vaOk c lo s loc->V9 c lo s loc=true:=fun {s} h=>by
  unfold V9 inB vaOk at*;rw [bN];refine ⟨h.1,?_⟩;have:=h.2;split
  . rename_i hl;rw [if_pos hl] at this;exact this
  rename_i hl;rw [if_neg hl] at this;exact this
 have a: ∀ {n d:Int},0<=n/\n<d->inB n d=true:=fun h=>by unfold inB;exact aN h
 have b:k=1\/k=2\/k=3\/k=4\/k=5\/k=6\/k=7\/k=8\/k=9\/k=10\/k=11\/k=12\/k=13\/k=14\/k=15:=by omega
 unfold Na;rcases b with rfl|rfl|rfl|rfl|rfl|rfl|rfl|rfl|rfl|rfl|rfl|rfl|rfl|rfl|rfl
 . rw [if_pos rfl,hl rfl,<-hl rfl,f (j (.inl rfl)),hl rfl];rfl
 . exact f (j (.inr rfl))
 . exact a (p rfl)
 . rfl
 . rfl
 . exact a (i (.inl rfl))
 . exact a (i (.inr rfl))
 . exact Bool.and_eq_true_iff.2 ⟨a (e (.inl rfl)),a (o rfl)⟩
 . exact a (e (.inr (.inl rfl)))
 . exact a (e (.inr (.inr rfl)))
 . exact a (g (.inl rfl))
 . exact Bool.and_eq_true_iff.2 ⟨a (g (.inr rfl)),f (m rfl)⟩
 . exact a (l rfl)
 . rfl
 rfl
theorem partB_of {ix:PEx}{nb ne:Nat}(hm:Sp k nb ne=false)(he:k<=5\/k=11\/k=15->e.ask c lo 24=true)(hx:k=3->ix.ask c lo 24=true):N3 c lo k e ix nb ne=true:=by
 unfold Sp at hm;unfold N3;simp only [eK,Bool.and_eq_false_iff,kG,cS] at hm;simp only [aI,dM,bN,fA,cS,dC,iY,ne_eq];obtain ⟨a,b⟩:=hm;refine ⟨⟨⟨?_,?_⟩,?_⟩,?_⟩
 . rcases a with (a|a)|a
   . exact .inl (.inl a)
   . exact .inl (.inr a)
   exact .inr a
 . rcases b with b|b
   . exact .inl b
   exact .inr b
 . by_cases hk:k=3
   . exact .inr (hx hk)
   exact .inl hk
 by_cases hk:k<=5\/k=11\/k=15
 . exact .inr (he hk)
 exact .inl (by omega)
mutual
theorem Cj {c:Cn}{lo:Int}: ∀ (s:PStm) (f:Fnd) (d:Nat),s.may d=true->(f.stmt s).1.flaw=0->0<=f.stm->(f.stmt s).2.wl c lo->(f.stmt s).2.ask c lo d f.stm=some (f.stmt s).1.stm/\0<=(f.stmt s).1.stm
 | .mk k ln cl nm wt e ix body els id slot other loc,f,d,hm,h,hz,hw=>by
  simp only [PStm.may] at hm;split at hm;cases hm
  rename_i m1;split at hm;cases hm
  split at hm;cases hm
  split at hm;cases hm
  rename_i m4;rw [aI] at hm;unfold Su at m1;simp only [dM,not_or,bN] at m1;simp only [Fnd.stmt] at h hw|-;split at h
  . exact aR h (Y5 (by decide))
  rename_i h5;rw [if_neg h5] at hw|-;dsimp only at h hw|-;obtain ⟨g0,r⟩: ∃ g:Fnd,g= { f with stm:=f.stm+1 } :=⟨_,rfl⟩;rw [<-r] at h hw|-;obtain ⟨y,o⟩:=kL (g0.expr ix);rw [<-o] at h hw|-;obtain ⟨f2,n⟩:=kL (y.1.expr e);rw [<-n] at h hw|-;obtain ⟨p,l⟩:=kL (f2.1.own k nm wt slot other loc);rw [<-l] at h hw|-;obtain ⟨x,j⟩:=kL (p.1.blk body);rw [<-j] at h hw|-;obtain ⟨v,m⟩: ∃ g:Fnd,g= { x.1 with names:=p.1.names,locals:=p.1.locals } :=⟨_,rfl⟩;rw [<-m] at h hw|-;obtain ⟨f5,i⟩:=kL (v.blk els);rw [<-i] at h hw|-;have q5:=Qy els v (by rw [<-i];exact h);have q4:x.1.flaw=0:=by rw [m] at q5;exact q5
  have q3:p.1.flaw=0:=Qy body p.1 (by rw [<-j];exact q4);have q2:f2.1.flaw=0:=Eu (by rw [<-l];exact q3);have w:=(Qa (c:=c) (lo:=lo) e y.1 (by rw [<-n];exact q2)).1;rw [<-n] at w;have q1:y.1.flaw=0:=by rw [<-w];exact q2
  have p1:=(Qa (c:=c) (lo:=lo) ix g0 (by rw [<-o];exact q1)).1;rw [<-o] at p1;have s3:p.1.stm=f.stm+1:=by rw [l,Ll,w,p1,r]
  obtain ⟨w1,w2,w3,w4,w5,w6,w7⟩:=hw;have b4:=J3 (c:=c) (lo:=lo) body p.1 (d+1) hm.1 (by rw [<-j];exact q4) (by omega) (by rw [<-j];exact w6);rw [<-j,s3] at b4;obtain ⟨u,c0,d0⟩:=b4;have s4:v.stm=x.1.stm:=by rw [m]
  have b5:=J3 (c:=c) (lo:=lo) els v (d+1) hm.2 (by rw [<-i];exact h) (by omega) (by rw [<-i];exact w7);rw [<-i,s4] at b5;obtain ⟨t,b0,a0⟩:=b5;refine ⟨?_,a0⟩;simp only [PStm.ask];rw [if_neg (by omega),if_pos]
  . have e1:((d+1:Nat):Int)=(d:Int)+1:=by omega
    rw [e1] at u t;rw [u];exact t
  rw [aI];refine ⟨partB_of (by rw [c0,b0];simpa using m4) (fun q=> ?_) (fun q=> ?_),slotB_of w1 w5 (fun q=>by subst q;rw [l];rfl)⟩
  . obtain ⟨a,b,z⟩:=w2 q;exact Nf (d:=24) a b z
  obtain ⟨a,b,z⟩:=w3 q;exact Nf (d:=24) a b z
theorem J3 {c:Cn}{lo:Int}: ∀ (l:List PStm) (f:Fnd) (d:Nat),PStm.mays l d=true->(f.blk l).1.flaw=0->0<=f.stm->Qi c lo (f.blk l).2->Z2 c lo (f.blk l).2 d f.stm=some (f.blk l).1.stm/\(f.blk l).2.length=l.length/\0<=(f.blk l).1.stm
 | [],f,d,_,_,hz,_=>⟨rfl,rfl,hz⟩
 |s::r,f,d,hm,h,hz,hw=>by
  simp only [PStm.mays,aI] at hm;simp only [Fnd.blk] at h hw|-;split at h
  . rename_i e;rw [if_pos e] at hw|-;obtain ⟨w1,g⟩:=hw;have a:=Cj (c:=c) (lo:=lo) s f d hm.1 (Qy r _ h) hz w1;have b:=J3 (c:=c) (lo:=lo) r (f.stmt s).1 d hm.2 h a.2 g;refine ⟨?_,by simp [b.2.1],b.2.2⟩;simp only [Z2];rw [a.1];exact b.1
  rename_i e;exact aR h e
end
theorem Mt {c:Cn}{t:PTh}{m k:Int}: ∀ {l:List PTh} {n:Int},W4 c l n=some m->(0<=t.loc/\t.loc<=32)->Z2 c t.loc t.body 1 m=some k->W4 c (l++ [t]) n=some k
 | [],n,h,ht,hk=>by
  cases h
  simp only [aT,W4];rw [if_neg (by omega),hk]
 |x::r,n,h,ht,hk=>by
  simp only [W4] at h;simp only [cM,W4];split at h
  . cases h
  rename_i a;rw [if_neg a];split at h
  . cases h
  rename_i j b;exact Mt h ht hk
theorem BInv.next {d:Fnd}{b:List PStm}(hb:Vu b)(h:BInv (fun _=>True) d f)(hf:(f.bodies i [b]).flaw=0):BInv (fun _=>True) d (f.bodies i [b]):=
 BInv.bodies (fun x a=>by rw [aZ.1 a];exact ⟨hb,fun _=>trivial⟩) h hf
theorem Jn {r:List (List PStm)}(h:(f.bodies i r).flaw=0):f.flaw=0:=by
 cases r with
 |nil=>exact h
 |cons x r=>
  unfold Fnd.bodies at h;split at h
  . assumption
  exact h
theorem H7 {d:Fnd}: ∀ {bs:List (List PStm)} {i:Nat} {f:Fnd},(∀ b∈bs,PStm.mays b 1=true)->BInv (fun _=>True) d f->f.ths.length=i+bs.length->W4 d.cn (f.ths.take i) 0=some f.stm->(f.bodies i bs).flaw=0->W4 d.cn (f.bodies i bs).ths 0=some (f.bodies i bs).stm
 | [],i,f,_,_,hl,ha,_=>by
  rw [dN,iS] at hl;rw [<-hl,cD] at ha;exact ha
 |b::r,i,f,hb,h,hl,ha,hf=>by
  have o:=Jn hf
  have e0:f.bodies i (b::r)=(f.bodies i [b]).bodies (i+1) r:=by
   conv=>lhs;unfold Fnd.bodies
   conv=>rhs;arg 1;unfold Fnd.bodies
   rw [if_pos o,if_pos o];dsimp only;rw [show ∀ (g:Fnd) (j:Nat),g.bodies j []=g from fun _ _=>rfl]
  rw [e0] at hf|-;have p:=Jn hf;have m:=hb b (bI ..);have hn:=BInv.next (W8 m) h p
  have u:f.bodies i [b]= { (Fnd.blk { f with most:=0 } b).1 with names:=f.names,locals:=f.locals,ths:=(Fnd.blk { f with most:=0 } b).1.ths.set i ⟨((Fnd.blk { f with most:=0 } b).1.ths.getD i ⟨em,0, []⟩).nm,(Fnd.blk { f with most:=0 } b).1.most,(Fnd.blk { f with most:=0 } b).2⟩ } :=by
   unfold Fnd.bodies;rw [if_pos o];rfl
  obtain ⟨q,k⟩:=kL (Fnd.blk { f with most:=0 } b);rw [<-k] at u;have v:=fY b { f with most:=0 };rw [<-k] at v;obtain ⟨t1,t2,t3,t4,t5,t,_⟩:=v.e;dsimp only at t;have s:q.1.flaw=0:=by rw [u] at p;exact p
  obtain ⟨j1,j2,j3,j4,j5,j6,j7⟩:=h.e;have cx:Ctx d.cn { f with most:=0 } :=⟨by dsimp only;rw [j7,h.l.1];exact h.n,by dsimp only;rw [h.l.1];decide,h.l.2⟩;have w:=Jp (c:=d.cn) b { f with most:=0 } (W8 m) (by rw [<-k];exact s) cx;rw [<-k] at w;obtain ⟨w1,z,y⟩:=w;have a:=J3 (c:=d.cn) (lo:=q.1.most) b { f with most:=0 } 1 m (by rw [<-k];exact s) h.l.2 (by rw [<-k];exact y);rw [<-k] at a;have hi:i<q.1.ths.length:=by rw [t,hl];simp
  refine H7 (fun x hx=>hb x (bZ _ hx)) hn ?_ ?_ hf
  . rw [u];dsimp only;rw [bC,t,hl];simp;omega
  rw [u];dsimp only;rw [aH (by rw [bC];exact hi),List.take_set_of_le (aL i),cN,t];exact Mt ha ⟨z,w1.l.2.2⟩ a.1
theorem Zqf (l:List Int)(x:Int):Y7 (l++ [x])=Y7 l+x:=by
 induction l with
 |nil=>simp [Y7]
 |cons y r ih=>simp only [Y7,cM,List.foldr_cons] at ih|-;omega
structure DNum (f:Fnd):Prop where
 n:f.vars.length+f.arrs.length+f.mu+f.co+f.chs.length+f.ths.length=f.names.length
 s:Y7 f.arrs=f.cells/\f.cells<=256
 k:f.nv.length<=f.names.length/\f.na.length<=f.names.length/\f.nm.length<=f.names.length/\f.nc.length<=f.names.length/\f.nh.length<=f.names.length
theorem DNum.z:DNum Fnd.z:=⟨rfl,⟨rfl,by decide⟩,by decide⟩
theorem DNum.decl (h:DNum f)(hf:(f.decl d).flaw=0)(hk:1<=d.k/\d.k<=6):DNum (f.decl d):=by
 have i: ∃ g s,f.decl d= { g with names:=f.names++ [⟨d.nm,d.k,s⟩] } /\g=(f.decl1 d).1/\(f.decl1 d).2.2=true:=by
  unfold Fnd.decl at hf|-;split at hf
  . exact aR hf (Y5 (by decide))
  rename_i p;rw [if_neg p];split at hf
  . rename_i e;rw [J9 e] at hf;exact aR hf (Y5 (by decide))
  rename_i e;rw [if_neg e]
  have m:(f.decl1 d).1.names=f.names:=by
   unfold Fnd.decl1;(repeat' split)<;>first|rfl|exact (f.fl_keep _).2.2.1
  split at hf
  . exact aR hf (Y5 (by decide))
  rename_i o;rw [if_neg o];exact ⟨_,_,by rw [m],rfl,by revert e;cases (f.decl1 d).2.2<;>simp⟩
 obtain ⟨g,s,n,a,c⟩:=i;rw [n];obtain ⟨w,⟨j,l⟩,v,u,t,r,q⟩:=h;have b:d.k=1\/d.k=2\/d.k=3\/d.k=4\/d.k=5\/d.k=6:=by omega
 unfold Fnd.decl1 at a c;rcases b with b|b|b|b|b|b
 focus
  rw [if_pos b] at a c;split at c
  . cases c
  rename_i e;rw [if_neg e] at a;subst a
 rotate_left
 . rw [if_neg (by omega),if_pos b] at a c;split at c
   . cases c
   rename_i e;rw [if_neg e] at a;subst a;exact ⟨by simp;omega,⟨by dsimp only;rw [Zqf,j],by dsimp only;omega⟩,by simp;omega⟩
 focus
  rw [if_neg (by omega),if_neg (by omega),if_pos b] at a c;subst a
 rotate_left
 focus
  rw [if_neg (by omega),if_neg (by omega),if_neg (by omega),if_pos b] at a c;subst a
 rotate_left
 focus
  rw [if_neg (by omega),if_neg (by omega),if_neg (by omega),if_neg (by omega),if_pos b] at a c;split at c
  . cases c
  rename_i e;rw [if_neg e] at a;subst a
 rotate_left
 focus
  rw [if_neg (by omega),if_neg (by omega),if_neg (by omega),if_neg (by omega),if_neg (by omega),if_pos b] at a c;subst a
 all_goals
  exact ⟨by simp;omega,⟨j,l⟩,by simp;omega⟩
theorem DNum.decls: ∀ {ds:List PDec} {f:Fnd},DNum f->(∀ d∈ds,1<=d.k/\d.k<=6)->(f.decls ds).flaw=0->DNum (f.decls ds)
 | [],_,h,_,_=>h
 |d::r,f,h,hd,hf=>by
  unfold Fnd.decls at hf|-;split at hf
  . rename_i a;rw [if_pos a]
    have c:(f.decl d).flaw=0:=by
     cases r with
     |nil=>exact hf
     |cons x r=>
      unfold Fnd.decls at hf;split at hf
      . assumption
      exact hf
    exact DNum.decls (h.decl c (hd d (bI ..))) (fun x b=>hd x (bZ _ b)) hf
  rename_i a;exact aR hf a
theorem Ms: ∀ {ds:List PDec} {f:Fnd},f.flaw=0->(f.decls ds).flaw=0->(f.decls ds).ths.length=f.ths.length+(ds.filter fun d=>d.k==6).length
 | [],_,_,_=>rfl
 |d::r,f,h0,hf=>by
  unfold Fnd.decls at hf|-;rw [if_pos h0] at hf|-
  have a:(f.decl d).flaw=0:=by
   cases r with
   |nil=>exact hf
   |cons x r=>
    unfold Fnd.decls at hf;split at hf
    . assumption
    exact hf
  rw [Ms a hf,Hy h0 a,jQ];by_cases hk:d.k=6
  . rw [if_pos hk,if_pos (by simpa using hk),bG];omega
  rw [if_neg hk,if_neg (by simpa using hk)];omega
theorem Hm: ∀ {bs:List (List PStm)} {i:Nat} {f:Fnd},(f.bodies i bs).nv=f.nv/\(f.bodies i bs).na=f.na/\(f.bodies i bs).nm=f.nm/\(f.bodies i bs).nc=f.nc/\(f.bodies i bs).nh=f.nh
 | [],_,_=>⟨rfl,rfl,rfl,rfl,rfl⟩
 |b::r,i,f=>by
  unfold Fnd.bodies;split
  . dsimp only;have a:=(fY b { f with most:=0 }).e;obtain ⟨_,_,_,_,_,_,_,j,h,g,d,c,_⟩:=a;obtain ⟨o,n,m,l,k⟩:=Hm (bs:=r) (i:=i+1) (f:= { (Fnd.block { f with most:=0 } b).1 with ths:=(Fnd.block { f with most:=0 } b).1.ths.set i ⟨((Fnd.block { f with most:=0 } b).1.ths.getD i ⟨em,0, []⟩).nm,(Fnd.block { f with most:=0 } b).1.most,(Fnd.block { f with most:=0 } b).2⟩ });exact ⟨o.trans j,n.trans h,m.trans g,l.trans d,k.trans c⟩
  exact ⟨rfl,rfl,rfl,rfl,rfl⟩
theorem bad_mays (h:d.bad=false):PStm.mays d.body 1=true:=by
 unfold PDec.bad Sd at h;simp only [eK,cS,gK] at h;exact h.2
structure FndOk (F:Fnd):Prop where
 m:Dh F=true
 k:F.nv.length<=64/\F.na.length<=64/\F.nm.length<=64/\F.nc.length<=64/\F.nh.length<=64
theorem find_may (h:N9 ds=some F):FndOk F:=by
 have hp:=Pm (P:=fun _=>True) h trivial (fun _ _ _ _=>trivial);unfold N9 at h;split at h
 . cases h
 rename_i y
 have p: ∀ d∈ds,d.bad=false:=fun d r=>by
  cases w:d.bad with
  |false=>rfl
  |true=>exact aR (jP.2 ⟨d,r,w⟩) y
 dsimp only at h;obtain ⟨f,x⟩:=kL (Fnd.decls .z ds);rw [<-x] at h;obtain ⟨f1,o⟩: ∃ f1,f1=(if f.flaw=0/\(f.at Um=0\/((f.names.map (·.k)).getD (f.at Um - 1) 0)≠6) then f.fl 133 else f):=⟨_,rfl⟩;rw [<-o] at h;obtain ⟨bs,u⟩:=kL ((ds.filter fun d=>d.k==6).map (·.body));rw [<-u] at h;by_cases hfl:(f1.bodies 0 bs).flaw≠0
 . rw [if_pos hfl] at h;cases h
 rw [if_neg hfl] at h
 cases h
 have j:=fX.1 hfl;have z1:f1.flaw=0:=Jn j
 have hm:f1=f/\f.flaw=0:=by
  split at o
  . rw [o] at z1;exact aR z1 (Y5 (by decide))
  rw [o] at z1;exact ⟨o,z1⟩
 obtain ⟨e1,z2⟩:=hm;have z3:(Fnd.decls .z ds).flaw=0:=by rw [<-x];exact z2
 have D:DInv f:=by
  rw [x];exact DInv.decls .z (fun d r=>⟨(Gl (p d r)).1,bad_nm (p d r)⟩) z3
 have E:DNum f:=by
  rw [x];exact DNum.decls .z (fun d r=>(Gl (p d r)).1) z3
 have b0:f.ths.length=bs.length:=by
  have:=Ms (f:= .z) rfl z3;rw [x,this,u,aU];show 0+_=_;omega
 rw [e1] at j hp|-
 have q: ∀ b∈bs,PStm.mays b 1=true:=fun b w=>by
  rw [u] at w;obtain ⟨d,r,rfl⟩:=bU.1 w;exact bad_mays (p d (fH.1 r).1)
 have B0:BInv (fun _=>True) f f:=⟨⟨rfl,rfl,rfl,rfl,rfl,rfl,rfl⟩,D.n,⟨D.l.1,by rw [D.l.2];decide⟩,fun t ht=>by
  obtain ⟨a,b,c⟩:=D.t t ht;exact ⟨a,by omega,by rw [c];trivial,trivial⟩⟩
 have B:=BInv.bodies (i:=0) (fun b w=>⟨W8 (q b w),fun _=>trivial⟩) B0 j;have A:=H7 (i:=0) q B0 (by omega) (by show some (0:Int)=some f.stm;rw [D.l.2]) j;have K:=Hm (bs:=bs) (i:=0) (f:=f);obtain ⟨g,hg⟩:=kL (f.bodies 0 bs);rw [<-hg] at B A K hp|-;obtain ⟨b1,b2,b3,b4,b5,b6,b7⟩:=B.e;obtain ⟨mn,a0⟩:=kL ((g.names.map (·.s)).getD (f.at Um - 1) 0);rw [<-a0] at hp|-;have cn:Fnd.cn { g with main:=mn } =f.cn:=by unfold Fnd.cn;dsimp only;rw [b1,b2,b3,b4,b5,b6]
 obtain ⟨k1,k2,k3,k4,k5,k6,k7⟩:=D.k;have en:=E.n;refine ⟨?_,?_⟩
 . unfold Dh;rw [aI,aI];refine ⟨⟨?_,?_⟩,?_⟩
   . unfold Gg;rw [bN];dsimp only;rw [b1,b2,b3,b4,b5,b6];refine ⟨by omega,by omega,by omega,fun v hv=>D.v v hv,D.a,D.c,by rw [E.s.1];exact E.s.2⟩
   . unfold inB;rw [bN];exact hp.m
   rw [cn];rw [dC];exact A
 obtain ⟨a1,a2,a3,a4,a5⟩:=K;dsimp only;rw [a1,a2,a3,a4,a5];have:=E.k;omega
theorem Cp (h:Jj l=some F):FndOk F:=by
 unfold Jj at h;split at h
 . cases h
 exact find_may h
mutual
theorem Fa {B:Nat}: ∀ {s:Stm},s.er.wt<=B->s.lm B/\s.sz<=B
 | .mk k ln cl nm wt e ix body els ba bc ea ec id sl ot lo,h=>by
  simp only [Stm.er,PStm.wt,Ls] at h;have b:=K8 (B:=B) (l:=body) (by omega);have a:=K8 (B:=B) (l:=els) (by omega);have d:=K6 body;have c:=K6 els;exact ⟨⟨by omega,by omega,b,a⟩,by simp only [Stm.sz];omega⟩
theorem K8 {B:Nat}: ∀ {l:List Stm},W5 (Zj l)<=B->Wa B l
 | [],_=>trivial
 |s::r,h=>by
  simp only [Zj,W5] at h;exact ⟨(Fa (by omega)).1,K8 (by omega)⟩
theorem K6: ∀ (l:List Stm),Zm l<=W5 (Zj l)
 | []=>bB _
 |s::r=>by
  simp only [Zj,W5,Zm];have b:=(Fa (s:=s) (aL _)).2;have a:=K6 r;omega
end
theorem FC.cp (h:Jj l=some g.er):CpOk (14*65536) g:=by
 obtain ⟨p,u⟩:=text_prg h;have m:=Cp h;obtain ⟨o,n,j,i,d⟩:=m.k;obtain ⟨c,b,a,s,_,_⟩:=p.k;have e:g.er.ths.length=g.ths.l.length:=by show (g.ths.l.map Th.er).length=_;rw [aU]
 rw [e] at s;have c:g.vars.l.length<=64:=c;have b:g.arrs.l.length<=64:=b;have a:g.chs.l.length<=64:=a;have o:g.nv.l.length<=64:=o;have n:g.na.l.length<=64:=n;have j:g.nm.l.length<=64:=j;have i:g.nc.l.length<=64:=i;have d:g.nh.l.length<=64:=d;refine ⟨by omega,by decide,fun x q=> ?_⟩;have:=(p.t _ (aP (f:=Th.er) q)).p;have r:(Th.er x).body=Zj x.body:=rfl;rw [r] at this;have v:=K6 x.body;exact ⟨by omega,K8 (by omega)⟩
theorem Ix (hM:MayP F):(Vs F.pr).fine F 0:=by
 have r:=Qg (l:=F.arrs) (k:=256) (fun y q=>by have:=hM.a y q;omega) (by decide);have b:=hM.f;have g:((F.mu.toNat:Nat):Int)=F.mu:=by have:=b.1.1;omega
 have h:((F.co.toNat:Nat):Int)=F.co:=by have:=b.2.1.1;omega
 have j:=newS_ok (m:=F.mu.toNat) (c:=F.co.toNat) (rooms:=F.chs) (by rw [g,h];exact b);obtain ⟨o,s⟩:=T3 (N:=0) (m:=1) hM hM.m (by decide);have i: ∀ l∈(Dy F.mu.toNat F.co.toNat F.chs).conds,l= []:=fun l n=>(gO.1 n).2
 refine ⟨⟨?_,?_,j,⟨?_,?_,?_⟩,⟨aL 1,show 1<=8 by decide⟩,?_,?_⟩,?_,?_⟩
 . show ((F.vars++List.replicate (Y7 F.arrs).toNat 0).length:Int)=_
   rw [aG,cU];omega
 . intro x e;rcases aQ.1 (show x∈F.vars++List.replicate (Y7 F.arrs).toNat 0 from e) with e|e
   . exact hM.v x e
   rw [(gO.1 e).2];unfold val;omega
 . show ((List.replicate F.mu.toNat (-1:Int)).length:Int)=F.mu
   rw [cU];exact g
 . show ((List.replicate F.co.toNat ([]:List Int)).length:Int)=F.co
   rw [cU];exact h
 . show (F.chs.map _).map Ch.room=F.chs
   rw [List.map_map];simp [Function.comp_def]
 . intro t d;rw [aZ.1 (show t∈ [Wc F.pr F.main] from d)];exact ThOk.of o s (by show 1<=8;decide)
 . intro l n t d;rw [i l n] at d;cases d
 . have:(Vs F.pr).sy.conds.flatten= []:=by rw [List.flatten_eq_nil_iff];exact i
   rw [this];exact List.nodup_nil
 intro t d;rw [aZ.1 (show t∈ [Wc F.pr F.main] from d)];exact o.p.1
def So (F:Fnd)(N:Nat)(s:SS)(g:FC)(U:StC):Prop:=g.er=F/\U.er=s/\MayP F/\s.fine F N/\s.pg=s
def gH (p:Nat)(F:Fnd)(N:Nat)(s:SS):HP:=ex fun x:Nat×FC×StC=>stars (pure (So F N s x.2.1 x.2.2)::stP p x.1 x.2.2::(Zr x.2.2++ [prM x.1 x.2.1,tdM x.2.2.ths]))
theorem R6 {P:Program}{fn:FuncId}{s:SS}{R:Wx.U5}
 (h: ∀ (U:StC) (pp:Nat) (g:FC),g.er=F->U.er=s->Hd (prM pp g::tdM U.ths::q) pp g N U->CallF P G fn vs (stP p pp U::(Zr U++(prM pp g::tdM U.ths::q))) R):CallF P G fn vs (gH p F N s::q) R:=by
 intro E w st cs;obtain ⟨⟨pp,g,U⟩,c⟩:=St.get_ex st;have b:=c.le (Z1 _ (q++E));obtain ⟨j,i,f,e,d⟩:=b.get_pure;have a:=b.le (eD _ _);subst j i;refine h U pp g rfl rfl ⟨Prg.of Kn.prM,f,e,d,Kn.there Kn.tdM⟩ E w ?_ cs;show St G w (stP p pp U::(Zr U++(prM pp g::tdM U.ths::q))++E)
 simp only [cM,aA] at a|-;exact a
theorem En {pp:Nat}{U:StC}{t0:List TC}(h:Hd (prM pp g::tdM t0::q) pp g N U)(E:List HP):Le (stP p pp U::(Zr U++(E++(prM pp g::tdM t0::q)))) (gH p g.er N U.er::(E++q)):=by
 have c:Le (prM pp g::tdM t0::q) (tdM U.ths::prM pp g::tdM t0::q):=cZ (φ:=fun M=>TodoAt M U.ths) (mn:=fun e h=>TodoAt.mono e h) h.T;have b:Le (prM pp g::tdM t0::q) (prM pp g::tdM U.ths::q):=c.trans ((iE _ _ _).trans (dD _ (dD _ (eD _ _))));have a:Le (E++(prM pp g::tdM t0::q)) ([prM pp g,tdM U.ths]++(E++q)):=(dH E b).trans (Vw E [prM pp g,tdM U.ths] q);refine Em ((pp,g,U):Nat×FC×StC) ?_;refine aS ?_ (Z5 (pure (So g.er N U.er g U)::stP p pp U::(Zr U++ [prM pp g,tdM U.ths])) (E++q));refine aS (dD _ (dH (Zr U) a)) (aS (Ql (φ:=So g.er N U.er g U) ⟨rfl,rfl,h.M,h.F,h.G⟩ _) ?_);simp only [cM,aA];exact aE _
theorem SS.fine.cells {s:SS}(h:s.fine F N)(hM:MayP F):s.cells.length<=1000:=by
 have d:=h.ok.c;have b:=hM.l.1;have a:=hM.s;omega
section
variable {s:SS}{z:Int}{picks:List Int}{pc:Nat}
theorem Gn (hT:Jj l=some g.er)(hK:Kn q fun M=>g.At M):CallF prog G 15 [.agg (pgC g).toArray] q (Ret fun v q'=> ∃ p,v= .tuple [.pointer (some ⟨p,0,none⟩),I64 0].toArray/\q'=gH p g.er 0 (Vs g.er.pr)::q):=
 dF (aE _) (pnew_ok (B:=14*65536) hK (FC.cp hT)) (by
  have f:=(Cp hT).m;have h:=Xn f;rintro _ _ ⟨_,rfl,(⟨_,p,e,b,U,d,c,rfl,rfl⟩|⟨i,_,_⟩)⟩
  . have a:MayP b.er:=by rw [d];exact h
    have j:Hd (prM e b::tdM U.ths::q) e b 0 U:=⟨Prg.of Kn.prM,a,by rw [c,d];exact Ix h,by rw [c];rfl,Kn.there Kn.tdM⟩;refine ⟨_,⟨_,rfl,p,rfl,rfl⟩,?_⟩;rw [<-c,<-d];exact En (E:= []) j
  rw [f] at i;cases i)
theorem Gm (hN:N+picks.length<=899)(hs:Sees q pa (picks.map I64))(hk: ∀ k∈picks, -9223372036854775808<=k/\k<=9223372036854775807):CallF prog G 16 [.pointer (some ⟨p,0,none⟩),.slice pa picks.length pc] (gH p F N s::q)
 (Ret fun v q'=> ∃ (L:List EvC) (a':Option Addr) (c':Nat),v= .tuple [.slice a' L.length c',.agg (otC ((SS.runP F.pr s picks).1.outc F.pr)).toArray].toArray/\q'=gH p F (N+picks.length) (SS.runP F.pr s picks).1::(E3 a' c' L++q)/\L.map EvC.e=(SS.runP F.pr s picks).2/\L.length<=picks.length):=
 R6 fun U j g i h d=>dF (aE _) (SRun_ok d hN (hs.le ((eD _ _).trans (eD _ _))) hk) (by
  subst i h;rintro _ _ ⟨_,rfl,l,L,a',c',rfl,rfl,a,b,f,c⟩;refine ⟨_,⟨_,rfl,L,a',c',by rw [b],rfl,f,c⟩,?_⟩;rw [<-b];exact En a (E3 a' c' L))
theorem Py (hN:N<=899)(hk: -9223372036854775808<=k/\k<=9223372036854775807):CallF prog G 19 [.pointer (some ⟨p,0,none⟩),I64 k] (gH p F N s::q)
 (Ret fun v q'=> ∃ x:EvC,v= .tuple [.agg (evC x).toArray,I64 (SS.stepP F.pr s k).2.2].toArray/\q'=gH p F (N+1) (SS.stepP F.pr s k).1::(evL x++q)/\x.e=(SS.stepP F.pr s k).2.1):=
 R6 fun U j g i h c=>dF (aE _) (Lj c hN hk) (by
  subst i h;rintro _ _ ⟨_,rfl,x,d,e,rfl,rfl,f,a⟩;have b:=c.step (U':=d) (k:=k) (by rw [a]) f;refine ⟨_,⟨_,rfl,x,by rw [a],rfl,by rw [a]⟩,?_⟩;rw [a];exact En b (evL x))
theorem Mw:CallF prog G 21 [.pointer (some ⟨p,0,none⟩)] (gH p F N s::q) (Ret fun v q'=> ∃ a' c',v= .slice a' s.cells.length c'/\q'=gH p F N s::lsH I64 2 a' c' s.cells::q):=
 R6 fun U b g d c a=>dF (aE _) (Zzs (by have:=a.F.cells a.M;show U.er.cells.length<=_;omega)) (by
  subst d c;rintro _ _ ⟨_,rfl,a',c',rfl,rfl⟩;exact ⟨_,⟨_,rfl,a',c',rfl,rfl⟩,(Vw [_] (stP p b U::Zr U) _).trans (En a [_])⟩)
theorem Xt (hN:N<=900):CallF prog G 22 [.pointer (some ⟨p,0,none⟩)] (gH p F N s::q) (Ret fun v q'=>v= .agg (otC (s.outc F.pr)).toArray/\q'=gH p F N s::q):=
 R6 fun U d g c b a=>dF (aE _) (Nh a.F.ok hN a.T) (by
  subst c b;rintro _ _ ⟨_,rfl,rfl,rfl⟩;exact ⟨_,⟨_,rfl,rfl,rfl⟩,En a []⟩)
end
theorem la_info3:(prog.info? 3).map (fun i=>(i.zero,i.size,i.bytes))=some (some (I64 0),1,8):=by kernel_rfl
def Hf (s:ByteArray):Option Fnd:=if 3000<s.size then none else Jj (bs s)
theorem Dq (h:Hf s=some F):Jj (bs s)=some F:=by
 unfold Hf at h;split at h
 . cases h
 exact h
inductive PrIs (s:ByteArray) (g:FC):Bool->Prop
 |no (h:Hf s=none):PrIs s g false
 |yes (h:Hf s=some g.er):PrIs s g true
abbrev knB:ByteArray:=⟨#[118,97,114,32,120,32,61,32,49,59,32,116,104,114,101,97,100,32,109,97,105,110,32,123,32,120,32,61,32,120,32,43,32,49,59,32,112,114,105,110,116,32,120,59,32,125]⟩
def knE (F:Fnd):Bool:=
 let r:=SS.runP F.pr (Vs F.pr) [0,0,0]
 r.2.length==2 && ((r.2.getD 1 zE0).outv==2 && (r.2.getD 1 zE0).told && (r.1.outc F.pr).kind==2 && r.1.cells== [2])
def knS:Bool:=match Hf knB with|none=>false|some F=>knE F
theorem knS_ok:knS=true:=by decide+kernel
theorem knS_at: ∃ F,Hf knB=some F/\knE F=true:=by
 have h:=knS_ok;unfold knS at h;split at h
 . cases h
 rename_i F a;exact ⟨F,a,h⟩
structure KnRun (F:Fnd) (L:List PEv) (s:SS):Prop where
 l: ∃ a b,L= [a,b]/\b.outv=2/\b.told=true
 o:(s.outc F.pr).kind=2
 c:s.cells= [2]
theorem knE_at (h:knE F=true):KnRun F (SS.runP F.pr (Vs F.pr) [0,0,0]).2 (SS.runP F.pr (Vs F.pr) [0,0,0]).1:=by
 unfold knE at h;dsimp only at h;generalize SS.runP F.pr (Vs F.pr) [0,0,0]=r at h|-;obtain ⟨s,L⟩:=r;simp only [aI,dC] at h;obtain ⟨g,⟨⟨f,e⟩,d⟩,c⟩:=h;refine ⟨?_,d,c⟩
 match L,g with
 | [a,b],_=>exact ⟨a,b,rfl,f,e⟩
theorem Xx:CallF prog G 13 [.string s] (q) (Ret fun v q'=> ∃ (g:FC) (bb:Bool),v= .tuple [.agg (pgC g).toArray,.bool bb].toArray/\q'=fcM g::q/\PrIs s g bb):=by
 refine aC func13 ntmps13 rfl fun F cs=> ?_;refine xo 2 ?_;refine bW zeroValue29 fun f=> ?_
 refine ox 9 ?_;refine xp 9 ?_ ?_<;>intro h
 . have b:Hf s=none:=(by unfold Hf;rw [if_pos (by omega)]);refine rn [4,0,2] ?_;refine bY (q':=fcM FC.z::_) (cZ (fun _ _ _=>Td _)) ?_;refine Zq (fcM FC.z::q) func13 (N1 results13) ⟨_,rfl,FC.z,false,rfl,rfl,.no b⟩
 have b:Hf s=Jj (bs s):=(by unfold Hf;rw [if_neg (by omega)]);refine xo 5 ?_;refine Zb call43 (aE _) (text_ok (s:=s)) ?_;rintro _ _ ⟨g,y,z,e,rfl,rfl,a⟩;refine oo 4 ?_;refine bW zeroValue29 fun d=> ?_
 refine bW zeroValue107 fun c=> ?_
 refine rn [0,0,4,0,2,0,2] ?_;refine Zq (fcM g::q) func13 (N1 results13) ⟨_,rfl,g,decide (e=0),rfl,rfl,by cases hx:Jj (bs s) with|none=>(rw [hx] at a;rw [aW a];exact .no (b.trans hx))|some F=>(rw [hx] at a;rw [aN a.1];exact .yes (by rw [a.2];exact b.trans hx))⟩
abbrev AS (v0:FC):=(Vs v0.er.pr)
theorem Pk:CallF prog G 14 [] (q) (AL q):=by
 refine aC func14 ntmps14 rfl fun F cs=> ?_;obtain ⟨F,hF,hE⟩:=knS_at;have hR:=knE_at hE;refine xo 6 ?_;refine Zb call13 (aE _) (Xx (s:=knB)) ?_;rintro _ _ ⟨g,bb,rfl,rfl,hP⟩;obtain ⟨rfl,hg⟩:bb=true/\g.er=F:=(by cases hP with|no h=>(rw [hF] at h;cases h)|yes h=>(rw [hF] at h;exact ⟨rfl,(gN h).symm⟩));have hT:=Dq hF;rw [<-hg] at hT hR;refine oo 3 ?_;refine bW zeroValue29 fun n1=> ?_
 refine rn [0,4,0] ?_;refine W3 call15 (Gn (q:= [fcM g]) hT Kn.fc) ?_;refine kd1 fun p=> ?_
 refine oo 9 ?_;refine bQ (Yp I64 [0,0,0] underlying22 la_info3 rfl rfl rfl rfl rfl rfl (fun _=>rfl)) ?_;rintro _ _ ⟨g3,rfl,rfl⟩;refine W3 call16 (Gm (p:=p) (N:=0) (F:=g.er) (q:= [lsH I64 3 (some ⟨g3,0,none⟩) 3 [0,0,0]]) (picks:= [0,0,0]) (by decide) (bR _) (fun k hk=>by simp at hk;omega)) ?_;rintro _ _ ⟨L,a1,c1,rfl,rfl,m,hl⟩ _ d;simp only [ca,na] at d;subst d;simp only [E3,ca,na];obtain ⟨r,r2⟩: ∃ r:SS×List PEv,r=SS.runP g.er.pr (AS g) [0,0,0]:=⟨_,rfl⟩;rw [<-r2] at hR m|-;obtain ⟨⟨e0,e1,z,ho,ht⟩,hk,i⟩:=hR;rw [z] at m;obtain ⟨w,v,rfl⟩: ∃ a b,L= [a,b]:=(by match L,m with| [a,b],_=>exact ⟨a,b,rfl⟩);have x:v.e=e1:=(by simp only [bP,eM,gP,and_true] at m;exact m.2);rw [<-x] at ho ht;refine P4 (l:= [w,v]) (gE 1) fun gb d=> ?_;have f: ∀ r,Sees (rsH evC 9 47 a1 c1 [w,v]::r) (some ⟨gb,0,none⟩) ([w,v].flatMap evC):=fun r=>by rw [<-d];exact bE r
 refine oo 3 ?_;refine bW zeroValue41 fun n2=> ?_
 refine rf [1,0,5,2023,4,2027,5,2032,1,3033,2] d ?_;refine ld ?_ (hc:=(cT (j:=1) (n:=1) (f _) leA R7 (gC 1) rfl 6 _ rfl));refine oo 3 ?_;refine XO.kt 39 ?_ rfl (aN ho);refine rf [1,3040,2] d ?_;refine ld ?_ (hc:=(cT (j:=1) (n:=1) (f _) leA R7 (gC 1) rfl 5 _ rfl));refine oo 2 ?_;refine XO.kt 45 ?_ rfl (ht);refine rn [1,0,3] ?_;refine XO.kt 50 ?_ rfl (aN hk);refine oo 1 ?_;refine W3 call21 (Mw (p:=p) (F:=g.er) (N:=0+ [0,0,0].length) (s:=r.1) (q:= [])) ?_;refine kd2 fun b0 a0=> ?_
 rw [i];refine rn [4,2056,1] ?_;refine W3 call21 (Mw (p:=p) (F:=g.er) (N:=0+ [0,0,0].length) (s:=r.1) (q:= [])) ?_;refine kd2 fun u t=> ?_
 rw [i];refine XO.lsadr (a:=u) (c:=t) (l:=([2]:List Int)) (gE 0) fun gd o=> ?_;have y: ∀ r,Sees (lsH I64 2 u t [2]::r) (some ⟨gd,0,none⟩) (([2]:List Int).map I64):=fun r=>by rw [<-o];exact bR r
 refine rf [3058,1] o ?_;refine ld ?_ (hc:=(((y _).le leA).at rfl (gE 0)));refine ox 4 ?_;refine Zq (q) func14 (Zn results14 rfl) ⟨_,rfl,rfl,rfl⟩
structure DT where
 decl:Int
 st:Int
 loc:Sv Int
 lft:Sv Stm
 sp:Sv Int
structure DC where
 g:FC
 cells:Sv Int
 own:Sv Int
 waits:Sv (Sv Int)
 chans:Sv (Sv Int)
 taken:Sv Int
 ths:Sv DT
 out:POut
structure VdC where
 decl:Int
 st:Int
 loc:Sv Int
 nx:Int
 sp:Sv Int
section
variable {D:DC}{u z:Int}{bb:Bool}
variable {S0:SS}
variable {a b:Option Addr}{c d:Nat}{l:List Int}
theorem Zzn (ha:Sees q a (l.map I64))(hb:Sees q b (l.map I64))(hl:l.length<=9223372036854775807):CallF prog G 20 [.slice a l.length c,.slice b l.length d] (q) (AL q):=by
 refine aC func20 ntmps20 rfl fun F cs=> ?_;refine rn [13,1010,8] ?_;refine aY (cG (fun (s:Nat)=>s<=l.length) (fun s=> [(0,.slice a l.length c),(1,.slice b l.length d),(5,I64 s)]) (fun s=>q++F) (fun s=>l.length - s) (fun s e j=> ?_) 0 (bB _)) Zu leA;try dsimp only at e j|-
 obtain hi:=e;refine xx 8 ?_;refine dR 14 rfl ?_ ?_<;>intro k
 . replace k:=sp k;have m:s<l.length:=(by omega);refine Yd (ha.le leA) (by rw [aU];omega) fun p o i=> ?_;have g:=ha;rw [i] at g;refine Yd (hb.le leA) (by rw [aU];omega) fun bb n h=> ?_;have f:=hb;rw [h] at f;refine rh [5,0,1,2,3017,3,4,5,6,3021,7] i g h ?_;refine rf [8,9,0,1025,8] f ?_;refine aY (j (s+1) (by omega) (by omega)) Zu leA
 refine xx 6 ?_;refine Zq (q) func20 (Zn results20 rfl) ⟨_,rfl,rfl,rfl⟩
variable {x:VwC}{y:VdC}
variable {x:EvC}{y:EvC}
end
theorem I5 {P:Program}{p:PE}{d:Option Tmp}{ty:TypeId}{x y:Operand}{t t':TypeId}{a b c:ByteArray}(hx:evp p x=some (.string a))(hy:evp p y=some (.string b))(h:a.size+b.size<=9223372036854775807)(e:a++b=c):Pu P p ⟨d,.binOp .add t x y t',ty,pos,af,gd⟩ (.string c):=e ▸ Wf hx hy h
theorem If (a b:List Nat):(Qw a b).length=59+(Vk 120 0 a).length+(Vk 121 0 b).length:=by
 simp only [Qw,hdB,mdB,aG,bG,dN];omega
theorem Zzg (a b:List Nat):ba hdB++ba (Vk 120 0 a)++ba mdB++ba (Vk 121 0 b)++ba [125]=ba (Qw a b):=by
 simp only [Iy,Qw,aA]
section
variable {P:Program}{f:Fc}{Q:Yn}{ops:List Oper}{k:List Item}{pk p:PE}{ds:List Deferred}{cs:List Frame}{pre F:List HP}{done:List Nat}{L:Rds}{fl:List FlE}{d:Tmp}{fo:Operand}{fv:Value}{args:List Operand}{ats:Array TypeId}{ty:TypeId}{R:Value->List HP->Prop}
theorem Zz2 {d:Option Tmp}(hc:CallV P G fv vs pre (Ret R))(hf:evp p fo=some fv)(hv:evl p args=some vs)(hq:Le q (pre++F))(E:List HP):
 EfA P G p (q++E) ⟨d,.call ⟨.value fo,args.toArray,ats⟩,ty,pos,af,gd⟩ fun v q'=> ∃ q1,(∃ q0,R v q0/\q1=q0++F)/\q'=q1++E:=by
 intro j w h s;rw [Ky h hf hv];have a:St G w (pre++(F++E)):=by rw [<-aA];exact s.le (hq.liftR E)
 refine (hc (F++E) w a).mono fun e i _ c=> ?_
 obtain ⟨q',⟨v,f,g⟩,b⟩:=c;exact ⟨q'++F++E,⟨v,f,q'++F,⟨q',g,rfl⟩,rfl⟩,by rw [aA];exact b⟩
theorem XF.cVX (i:Nat)(hR:FlR P G f ops done p fl)(hq:Le q pre)(hc:CallV P G fv vs pre (Ret R))
 (K: ∀ v q',R v q'->HL q' (cut ⟨some d,.call ⟨.value fo,args.toArray,ats⟩,ty,pos,af,gd⟩ L)/\XF P G f Q ops k pk fl (cut ⟨some d,.call ⟨.value fo,args.toArray,ats⟩,ty,pos,af,gd⟩ L) n (i::done) ((d,v)::p) ds cs q')
 (ho:ops[i]? =some ⟨some d,.call ⟨.value fo,args.toArray,ats⟩,ty,pos,af,gd⟩:=by rfl) (hf:evp p fo=some fv:=by rfl) (hv:evl p args=some vs:=by rfl) (hL:HL q L:=by exact hlA)
 (hon:C2 ops (fl.map (·.i)) done [i]=true:=by rfl) (hif:(fl.map (·.i)).contains i=false:=by rfl) (hr:rdy ops done i=true:=by rfl) (hw:Wt ops p ⟨some d,.call ⟨.value fo,args.toArray,ats⟩,ty,pos,af,gd⟩=some true:=by rfl)
 (hd:Nat.blt d f.n=true:=by rfl) (hlen:Nat.ble fl.length n=true:=by rfl):XF P G f Q ops k pk fl L (n+1) done p ds cs q:=
 X1 [i] hR (by simp) (fun x a=>by
  rw [aZ.1 a];exact ⟨_,_,ho,Zz2 hc hf hv (hq.trans (Ur pre)),fun v b ⟨c,h,e⟩=>by rw [cA] at e;subst e;exact K v _ h,hif,hr,hw,hd⟩) hL hon hlen
end
attribute [local irreducible] gH
section
variable {la lb ah bh:List Int}{pb px py:Option Addr}{ca_ cb_ cx cy:Nat}
theorem Bm (sA:Sees q pa (la.map (Value.int .u8)))(k1: ∀ k∈la,0<=k/\k<=255)(sB:Sees q pb (lb.map (Value.int .u8)))(k2: ∀ k∈lb,0<=k/\k<=255)(hs:Sees q px (ah.map I64))(hk: ∀ k∈ah, -9223372036854775808<=k/\k<=9223372036854775807)(ht:Sees q py (bh.map I64))(hm: ∀ k∈bh, -9223372036854775808<=k/\k<=9223372036854775807):CallF prog G 5 [.agg [.slice pa la.length ca_,.slice pb lb.length cb_].toArray,.slice px ah.length cx,.slice py bh.length cy] (q) (AL q):=by
 refine aC func5 ntmps5 rfl fun F cs=> ?_;refine xo 2 ?_;refine Ww fun n1=> ?_
 refine oo 5 ?_;refine Zt (Qh rfl rfl underlying58 sizeOf57 (by omega) (by omega)) ?_;refine rn [0,3] ?_;refine Zf [19,6,3,1,2] ?_;apply Zy 5 24 19 rfl
 . intro e f;have o:=sp e;refine Zt (Qh rfl rfl underlying58 sizeOf57 (by omega) (by omega)) ?_;refine rn [0,3] ?_;exact Zz f ⟨orF e,Zv⟩
 . intro e f;have o:=sp e;refine oo 5 ?_;exact Zz f ⟨orT e,Zv⟩
 refine oo 1 ?_;refine Zf [25,6,3,1,2] ?_;apply Zy 4 29 25 rfl
 . intro e f;have o:=sp e;refine oo 4 ?_;exact Zz f ⟨orF e,Zv⟩
 . intro e f;have o:=sp e;refine oo 4 ?_;exact Zz f ⟨orT e,Zv⟩
 refine oo 1 ?_;refine Zf [30,6,3,1,2] ?_;apply Zy 4 34 30 rfl
 . intro e f;have o:=sp e;refine oo 4 ?_;exact Zz f ⟨orF e,Zv⟩
 . intro e f;have o:=sp e;refine oo 4 ?_;exact Zz f ⟨orT e,Zv⟩
 refine ox 1 ?_;refine xp 34 ?_ ?_<;>intro o
 . refine xo 3 ?_;refine W3 call14 (Pk (q:= [])) ?_;refine kd0 ?_;refine ox 2 ?_;refine Zq (q) func5 (Zn results5 rfl) ⟨_,rfl,rfl,rfl⟩
 refine rn [7,0,1] ?_;refine Vz 1 rfl (Qh rfl rfl underlying58 sizeOf57 (by omega) (by omega)) ?_;refine rn [3,7] ?_;refine Vz 7 rfl (Qh rfl rfl underlying58 sizeOf57 (by omega) (by omega)) ?_;refine ldD 8 ?_;have j0:=N6 la;have i0:=N6 lb;have h0:=Q9 120 (Qk la) 0;have g0:=Q9 121 (Qk lb) 0;obtain ⟨F0,a0,w⟩:=Ib (a:=Qk la) (b:=Qk lb) (by omega) (by omega) (R5 k1) (R5 k2);have m:Hf (ba (Qw (Qk la) (Qk lb)))=some F0:=(by unfold Hf;rw [if_neg (by rw [K0,If];omega),V3];exact a0);refine Yo (fl:= [⟨16,8,fun g=> pt g,fun g=>pto g Ay⟩]) ?_;refine XF.cVX 3 ⟨⟨_,rfl,rfl,rfl,rfl,rfl,rfl,fun q=>bX zeroValue29⟩,trivial⟩ (aE _) (Yc call18 (Ft (c:=120) (l:=la) (a:=pa) (n:=ca_) (sA.le leA) k1 (by omega))) ?_;refine kk0 ?_;refine V4 4 ⟨⟨_,rfl,rfl,rfl,rfl,rfl,rfl,fun q=>bX zeroValue29⟩,trivial⟩ (Wf (a:=ba hdB) (b:=ba (Vk 120 0 (Qk la))) rfl rfl (by simp only [Rs,K0,hdB,mdB,bG,dN];omega)) ?_;refine V4 5 ⟨⟨_,rfl,rfl,rfl,rfl,rfl,rfl,fun q=>bX zeroValue29⟩,trivial⟩ (Wf (a:=ba hdB++ba (Vk 120 0 (Qk la))) (b:=ba mdB) rfl rfl (by simp only [Rs,K0,hdB,mdB,bG,dN];omega)) ?_;refine XF.cVX 9 ⟨⟨_,rfl,rfl,rfl,rfl,rfl,rfl,fun q=>bX zeroValue29⟩,trivial⟩ (aE _) (Yc call18 (Ft (c:=121) (l:=lb) (a:=pb) (n:=cb_) (sB.le leA) k2 (by omega))) ?_;refine kk0 ?_;refine V4 10 ⟨⟨_,rfl,rfl,rfl,rfl,rfl,rfl,fun q=>bX zeroValue29⟩,trivial⟩ (Wf (a:=ba hdB++ba (Vk 120 0 (Qk la))++ba mdB) (b:=ba (Vk 121 0 (Qk lb))) rfl rfl (by simp only [Rs,K0,hdB,mdB,bG,dN];omega)) ?_;refine V4 11 ⟨⟨_,rfl,rfl,rfl,rfl,rfl,rfl,fun q=>bX zeroValue29⟩,trivial⟩ (I5 (a:=ba hdB++ba (Vk 120 0 (Qk la))++ba mdB++ba (Vk 121 0 (Qk lb))) (b:=ba [125]) rfl rfl (by simp only [Rs,K0,hdB,mdB,bG,dN];omega) (Zzg _ _)) ?_;refine Fi 12 ⟨⟨_,rfl,rfl,rfl,rfl,rfl,rfl,fun q=>bX zeroValue29⟩,trivial⟩ call13 (aE _) (Xx (s:=ba (Qw (Qk la) (Qk lb)))) ?_;rintro _ _ ⟨d,bb,rfl,rfl,hP⟩;refine ⟨trivial,?_⟩;obtain ⟨rfl,hg⟩:bb=true/\d.er=F0:=(by cases hP with|no h=>(rw [m] at h;cases h)|yes h=>(rw [m] at h;exact ⟨rfl,(gN h).symm⟩));have hT:=Dq m;rw [<-hg] at hT w;refine V4 13 ⟨⟨_,rfl,rfl,rfl,rfl,rfl,rfl,fun q=>bX zeroValue29⟩,trivial⟩ (Pu.move rfl) ?_;refine V4 14 ⟨⟨_,rfl,rfl,rfl,rfl,rfl,rfl,fun q=>bX zeroValue29⟩,trivial⟩ (eZ rfl rfl) ?_;refine V4 15 ⟨⟨_,rfl,rfl,rfl,rfl,rfl,rfl,fun q=>bX zeroValue29⟩,trivial⟩ (eZ rfl rfl) ?_;refine Vv (e0:=⟨16,8,fun g=> pt g,fun g=>pto g Ay⟩) (hnd:=by simp) 16 ⟨⟨_,rfl,rfl,rfl,rfl,rfl,rfl,fun q=>bX zeroValue29⟩,trivial⟩ fun n2=> ?_;change XF _ _ _ _ _ _ _ [] _ _ _ ((8,pt n2)::_) _ _ (pto n2 Ay::_);refine eT ?_;refine rn [18,19,0,4] ?_;refine Zt (bV rfl) ?_;refine rn [1,1053,4,0] ?_;refine bA 55 (.agg (pgC d).toArray) rfl (rfl) ?_;refine W3 call15 (Gn (q:= [fcM d]) hT Kn.fc) ?_;refine kd1 fun j=> ?_
 refine rn [8,0] ?_;refine bA 60 (.agg (pgC d).toArray) rfl (rfl) ?_;refine W3 call15 (Gn (q:= [fcM d]) hT Kn.fc) ?_;refine kd1 fun i=> ?_
 refine oo 10 ?_;refine Zb call16 Zk ((Gm (p:=j) (N:=0) (F:=d.er) (s:=(AS d)) (picks:=ah) (by omega) (hs.le leA) hk:CallF prog G 16 _ (gH j d.er 0 (AS d)::_) _)) ?_;rintro _ _ ⟨s0,q0,o0,rfl,rfl,_,_⟩;simp only [E3,ca,na];refine oo 5 ?_;refine Zb call16 Zk ((Gm (p:=i) (N:=0) (F:=d.er) (s:=(AS d)) (picks:=bh) (by omega) (ht.le leA) hm:CallF prog G 16 _ (gH i d.er 0 (AS d)::_) _)) ?_;rintro _ _ ⟨r0,p0,n0,rfl,rfl,_,_⟩;simp only [E3,ca,na];refine ox 7 ?_;refine aY (cG (fun (s:Nat)=>s<=60) (fun s=> [(6,.bool false),(10,.pointer (some ⟨j,0,none⟩)),(11,I64 0),(12,.pointer (some ⟨i,0,none⟩)),(13,I64 0),(14,I64 s)]) (fun s=>gH j d.er (0+ah.length+s) (SS.stepN d.er.pr 0 s (SS.runP d.er.pr (AS d) ah).1)::gH i d.er (0+bh.length+s) (SS.stepN d.er.pr 1 s (SS.runP d.er.pr (AS d) bh).1)::(q++F)) (fun s=>60 - s) (fun s u ih=> ?_) 0 (bB _)) Zu leA;try dsimp only at u ih|-
 obtain hi:=u;refine xx 6 ?_;refine xp 71 ?_ ?_<;>intro h9
 . have k0:s<60:=(by omega);refine xo 7 ?_;refine W3 call19 (Py (p:=j) (F:=d.er) (N:=0+ah.length+s) (s:=(SS.stepN d.er.pr 0 s (SS.runP d.er.pr (AS d) ah).1)) (k:=0) (q:= []) (by omega) (by decide)) ?_;rintro _ _ ⟨f0,rfl,rfl,_⟩ _ x;simp only [ca,na] at x;subst x;simp only [evL,ca,na];refine oo 3 ?_;refine W3 call19 (Py (p:=i) (F:=d.er) (N:=0+bh.length+s) (s:=(SS.stepN d.er.pr 1 s (SS.runP d.er.pr (AS d) bh).1)) (k:=1) (q:= []) (by omega) (by decide)) ?_;rintro _ _ ⟨d0,rfl,rfl,_⟩ _ x;simp only [ca,na] at x;subst x;simp only [evL,ca,na];refine ox 7 ?_;refine aY (ih (s+1) (by omega) (by omega)) Zu leA
 obtain rfl:s=60:=(by omega);have v:=w.al (by omega) (by omega) (R5 k1) (R5 k2);obtain ⟨z,t⟩:=((((v.runP ah).stepN 0 60).mono (by decide:25 - 60<=0))).zero;obtain ⟨y,r⟩:=((((v.runP bh).stepN 1 60).mono (by decide:25 - 60<=0))).zero;generalize (SS.stepN d.er.pr 0 60 (SS.runP d.er.pr (AS d) ah).1)=S1 at z t|-;generalize (SS.stepN d.er.pr 1 60 (SS.runP d.er.pr (AS d) bh).1)=S2 at y r|-;refine rn [7,2080,4,2084,1] ?_;refine W3 call21 (Mw (p:=j) (F:=d.er) (N:=0+ah.length+60) (s:=S1) (q:= [])) ?_;refine kd2 fun c0 m0=> ?_
 rw [z];refine oo 1 ?_;refine W3 call21 (Mw (p:=i) (F:=d.er) (N:=0+bh.length+60) (s:=S2) (q:= [])) ?_;refine kd2 fun b0 l0=> ?_
 rw [y];refine aO call20 (Zzn ((bR (a:=c0) _).le leA) ((bR (a:=b0) _).le leA) (by show (2:Nat)<=_;decide)) ?_;refine rn [2,2091,1] ?_;refine W3 call22 (Xt (p:=j) (F:=d.er) (N:=0+ah.length+60) (s:=S1) (q:= []) (by omega)) ?_;refine kd0 ?_;refine oo 4 ?_;refine XO.kt 97 ?_ rfl (aN t);refine oo 1 ?_;refine W3 call22 (Xt (p:=i) (F:=d.er) (N:=0+bh.length+60) (s:=S2) (q:= []) (by omega)) ?_;refine kd0 ?_;refine oo 4 ?_;refine XO.kt 103 ?_ rfl (aN r);refine W3 call14 (Pk (q:= [])) ?_;refine kd0 ?_;refine ox 3 ?_;refine Zq (q) func5 (Zn results5 rfl) ⟨_,rfl,rfl,rfl⟩
end
end Go.Proofs.YtflkjkhijcdbaaaGreat
namespace Go.Proofs.YtflkjkhijcdbaaaGreat
open Go Go.RowKit Wx Go.WideShapes Go.Proofs.Tryz
variable {cs:List Value}{u:Value}
structure Two where
 a:SlV Int
 b:SlV Int
def Two.v (x:Two):Value:= .agg [.slice x.a.a x.a.l.length x.a.c,.slice x.b.a x.b.l.length x.b.c].toArray
def Two.ok (w:World)(x:Two):Prop:=(Sh.slice (.int .u8)).ok w x.a/\(Sh.slice (.int .u8)).ok w x.b
theorem Cb {i:Nat}(h:(cs.drop i).take 1= [u]):cs[i]? =some u:=by
 have a:=bK (fun l=>l[0]?) h;simpa [eW,fG] using a
theorem two_of {v:Value}(hl:cs.length=2)(e0:cs[0]? =some u)(e1:cs[1]? =some v):cs= [u,v]:=by
 apply fW;intro i
 match i with
 |0=>rw [e0];rfl
 |1=>rw [e1];rfl
 |i+2=>rw [cF (by omega),cF (by simp)]
theorem open_two {H:Type}{enc:TypeId×Value->H}{P:Program}{w w2:World}{base base2:Nat}{r:Reach}{spare:Nat->Bool}{held:Bool}{t e:TypeId}{v:Value}{d:DataW H}{p:List MemPlace}(ht:P.underlying t=some (.array 2 e))(hf:(Sh.slice (.int .u8)).fits P (.inl e)=true)
 (c1:P.cellsOf t=2) (c2:P.cellsOf e=1) (hok:Value.okWide P w2 r base2 t v) (h:DataW.Trod enc P w base spare held t v d p): ∃ x:Two,v=x.v/\x.ok w:=by
 have b: ∃ cs,v= .agg cs/\cs.size=P.cellsOf t:=by
  simp only [Value.okWide,ht] at hok;obtain ⟨cs,h1,h2,_⟩:=hok;exact ⟨cs,h1,h2⟩
 obtain ⟨cs,rfl,hs⟩:=b;obtain ⟨k,h⟩:=h;obtain ⟨xs,m,_,_,f,s,u⟩:=DataW.trod_array ht h;rw [c1] at f
 have g: ∀ i,i<2-> ∃ x:SlV Int,(Value.agg cs).cells.toList[i]? =some (.slice x.a x.l.length x.c)/\(Sh.slice (.int .u8)).ok w x:=fun i hi=>by
  have j:=u i hi;rw [aD (by omega),c2,kI] at j;obtain ⟨x,z,y⟩:=(Xf (Sh.slice (.int .u8))).1 hf j;exact ⟨x,Cb z,y⟩
 obtain ⟨o,e0,q⟩:=g 0 (by omega);obtain ⟨n,e1,w1⟩:=g 1 (by omega);refine ⟨⟨o,n⟩,?_,q,w1⟩;have:=two_of f e0 e1;unfold Two.v;simp only [Value.cells] at this;dsimp only;rw [<-this]
end Go.Proofs.YtflkjkhijcdbaaaGreat
