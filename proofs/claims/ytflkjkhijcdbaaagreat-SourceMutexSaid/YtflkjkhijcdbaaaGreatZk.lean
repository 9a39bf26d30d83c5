/- Contracts of functions, proved by walking their code. -/
import Derived.Test.YtflkjkhijcdbaaaGreatZj
import Derived.KernelRfl
set_option maxRecDepth 100000
set_option linter.unusedVariables false
set_option linter.unusedSimpArgs false
namespace Go.Proofs.YtflkjkhijcdbaaaGreat
open Go Go.RowKit Wx Go.Proofs.Tryz
attribute [local irreducible] Wx.lsH Wx.rsH Wx.stars
mutual
def PEx.sz:PEx→Nat
 | .mk _ _ _ _ _ _ args=>U9 args+1
def U9:List PEx→Nat
 | []=>0
 |e::r=>e.sz+U9 r
end
mutual
theorem Am: ∀ (e:Ex),e.er.sz=e.sz
 | .mk _ _ _ _ _ _ args _ _=>by simp only [Ex.er,PEx.sz,Ex.sz,Di args]
theorem Di: ∀ (l:List Ex),U9 (Z4 l)=Qn l
 | []=>rfl
 |e::r=>by simp only [Z4,U9,Qn,Am e,Di r]
end
mutual
/-- What an expression that may be is like. -/
def PEx.fit:PEx→Prop
 | .mk k n _ _ _ op args=>(1≤k∧k≤6)∧args.length=S6 k∧(k=1→0≤n∧n≤2147483647)∧(k=6→1≤op∧op≤11)∧PEx.fits args
def PEx.fits:List PEx→Prop
 | []=>True
 |e::r=>e.fit∧PEx.fits r
end
mutual
theorem Je: ∀ {e:PEx} {d:Nat},e.right d=true→e.fit
 | .mk k n nm _ _ op args,d,h=>by
  simp only [PEx.right] at h
  split at h
  · cases h
  split at h
  · rename_i hk
    rw [Bool.and_eq_true,Bool.and_eq_true,decide_eq_true_eq] at h
    obtain ⟨⟨h1,h2⟩,h3⟩:=h
    refine ⟨hk,h2,fun h=> ?_,fun h=> ?_,Ha h3⟩
    · subst h;unfold Se at h1;rw [if_pos rfl,Bool.and_eq_true] at h1;simpa using h1
    subst h;unfold Se at h1;rw [if_neg (by decide),if_neg (by decide),if_pos rfl,Bool.and_eq_true] at h1;simpa using h1
  cases h
theorem Ha: ∀ {l:List PEx} {d:Nat},Y5 l d=true→PEx.fits l
 | [],_,_=>trivial
 |e::r,d,h=>by
  simp only [Y5,Bool.and_eq_true] at h
  exact ⟨Je h.1,Ha h.2⟩
end
mutual
/-- How much code a statement makes at most. -/
def PStm.wt:PStm→Nat
 | .mk _ _ _ _ _ e ix body els _ _ _ _=>4*e.sz+4*ix.sz+6+W3 body+W3 els
def W3:List PStm→Nat
 | []=>0
 |s::r=>s.wt+W3 r
end
theorem Y6 {f:Fnd}{w:Int}(hw:w≠0):(f.fl w).flaw≠0:=by
 unfold Fnd.fl
 split
 · exact hw
 rename_i h;exact h
theorem Nv {g:Fnd}{nm:ByteArray}(h:((g.loc1 nm).loc2).flaw=0):(g.loc1 nm).loc2=g∧g.locals<32∧g.flaw=0:=by
 have e:(g.loc1 nm)=g:=by
  by_cases hk:g.at nm≠0
  · exfalso
    have h1:(g.loc1 nm).flaw≠0:=by unfold Fnd.loc1;rw [if_pos hk];exact Y6 (by decide)
    unfold Fnd.loc2 at h
    split at h
    · exact Y6 (by decide) h
    exact h1 h
  unfold Fnd.loc1;rw [if_neg hk]
 rw [e] at h⊢
 unfold Fnd.loc2 at h⊢
 by_cases h5:32≤g.locals
 · rw [if_pos h5] at h;exact absurd h (Y6 (by decide))
 rw [if_neg h5] at h⊢;exact ⟨rfl,by omega,h⟩
structure Cn.le (c d:Cn):Prop where
 v:c.v≤d.v
 a:c.a≤d.a
 mu:c.mu≤d.mu
 co:c.co≤d.co
 ch:c.ch≤d.ch
 th:c.th≤d.th
structure NmOk (c:Cn) (lo:Int) (x:Nm):Prop where
 z:0≤x.s
 v:x.k=1→x.s<c.v
 a:x.k=2→x.s<c.a
 mu:x.k=3→x.s<c.mu
 co:x.k=4→x.s<c.co
 ch:x.k=5→x.s<c.ch
 th:x.k=6→x.s<c.th
 lo:x.k=100→x.s<lo
theorem NmOk.up {c d:Cn}{lo hi:Int}{x:Nm}(h:NmOk c lo x)(hc:c.le d)(hl:lo≤hi):NmOk d hi x:=by
 obtain ⟨h0,h1,h2,h3,h4,h5,h6,h7⟩:=h
 obtain ⟨k1,k2,k3,k4,k5,k6⟩:=hc
 exact ⟨h0,fun e=>by have:=h1 e;omega,fun e=>by have:=h2 e;omega,fun e=>by have:=h3 e;omega,fun e=>by have:=h4 e;omega,fun e=>by have:=h5 e;omega,fun e=>by have:=h6 e;omega,fun e=>by have:=h7 e;omega⟩
theorem Cn.le_refl (c:Cn):c.le c:=⟨Int.le_refl _,Int.le_refl _,Int.le_refl _,Int.le_refl _,Int.le_refl _,Int.le_refl _⟩
def vaOk (c:Cn)(lo:Int)(s:Int)(l:Bool):Prop:=0≤s∧(if l=true then s<lo else s<c.v)
mutual
def PEx.wl (c:Cn)(lo:Int):PEx→Prop
 | .mk k _ _ slot loc _ args=>(k=2→vaOk c lo slot loc)∧(k=3→0≤slot∧slot<c.a)∧H9 c lo args
def H9 (c:Cn)(lo:Int):List PEx→Prop
 | []=>True
 |e::r=>e.wl c lo∧H9 c lo r
end
theorem vaOk.up {c:Cn}{lo hi:Int}{s:Int}{l:Bool}(h:vaOk c lo s l)(hl:lo≤hi):vaOk c hi s l:=by
 unfold vaOk at*
 refine ⟨h.1,?_⟩
 have:=h.2
 split<;>rename_i k
 · rw [if_pos k] at this;omega
 rw [if_neg k] at this;omega
mutual
theorem Kz {c:Cn}{lo hi:Int}(hl:lo≤hi): ∀ {e:PEx},e.wl c lo→e.wl c hi
 | .mk ..,⟨h1,h2,h3⟩=>⟨fun k=>(h1 k).up hl,h2,Dh hl h3⟩
theorem Dh {c:Cn}{lo hi:Int}(hl:lo≤hi): ∀ {l:List PEx},H9 c lo l→H9 c hi l
 | [],_=>trivial
 |_::_,⟨h1,h2⟩=>⟨Kz hl h1,Dh hl h2⟩
end
theorem Fnd.wants_ok {f:Fnd}{s:ByteArray}{a b:Int}(h:(f.wants s a b).1.flaw=0):(f.wants s a b).1=f∧ ∃ x∈f.names,(x.k=a∨x.k=b)∧(f.wants s a b).2=(x.k,x.s):=by
 unfold Fnd.wants at h⊢
 have hle:f.at s≤f.names.length:=J9
 split at h
 · exact absurd h (Y6 (by decide))
 rename_i i hi
 have hlt:i<f.names.length:=by omega
 have hx:(f.names.map fun x=>(x.k,x.s)).getD i (0,0)=(f.names[i].k,f.names[i].s):=by
  rw [List.getD_eq_getElem?_getD,List.getElem?_map,List.getElem?_eq_getElem hlt];rfl
 dsimp only at h⊢
 rw [hx] at h⊢
 split at h
 · exact absurd h (Y6 (by decide))
 rename_i hk
 rw [if_neg hk]
 refine ⟨rfl,_,List.getElem_mem hlt,?_,rfl⟩
 simp only [Bool.and_eq_true,bne_iff_ne,ne_eq,not_and,Decidable.not_not] at hk
 by_cases e:f.names[i].k=a
 · exact .inl e
 exact .inr (hk e)
mutual
theorem V5: ∀ (e:PEx) (f:Fnd),(f.expr e).2.sz=e.sz∧(f.expr e).2.dep=e.dep∧(e.fit→(f.expr e).2.fit)
 | .mk k n nm slot loc op args,f=>by
  simp only [Fnd.expr]
  split
  · obtain ⟨h1,h2,h3,h4⟩:=Ua args (f.wants nm 1 100).1
    exact ⟨by simp only [PEx.sz,h1],by simp only [PEx.dep,h2],fun ⟨a,b,c,d,e⟩=>⟨a,h3.trans b,c,d,h4 e⟩⟩
  split
  · obtain ⟨h1,h2,h3,h4⟩:=Ua args (f.wants nm 2 2).1
    exact ⟨by simp only [PEx.sz,h1],by simp only [PEx.dep,h2],fun ⟨a,b,c,d,e⟩=>⟨a,h3.trans b,c,d,h4 e⟩⟩
  obtain ⟨h1,h2,h3,h4⟩:=Ua args f
  exact ⟨by simp only [PEx.sz,h1],by simp only [PEx.dep,h2],fun ⟨a,b,c,d,e⟩=>⟨a,h3.trans b,c,d,h4 e⟩⟩
theorem Ua: ∀ (l:List PEx) (f:Fnd),U9 (f.exprs l).2=U9 l∧Yp (f.exprs l).2=Yp l∧(f.exprs l).2.length=l.length∧(PEx.fits l→PEx.fits (f.exprs l).2)
 | [],f=>⟨rfl,rfl,rfl,fun _=>trivial⟩
 |e::r,f=>by
  obtain ⟨a1,a2,a3⟩:=V5 e f
  obtain ⟨h1,h2,h3,h4⟩:=Ua r (f.expr e).1
  simp only [Fnd.exprs]
  exact ⟨by simp only [U9,a1,h1],by simp only [Yp,a2,h2],by simp only [List.length_cons,h3],fun ⟨k1,k2⟩=>⟨a3 k1,h4 k2⟩⟩
end
mutual
theorem Qf {c:Cn}{lo:Int}: ∀ (e:PEx) (f:Fnd),(f.expr e).1.flaw=0→(f.expr e).1=f∧((∀ x∈f.names,NmOk c lo x)→(f.expr e).2.wl c lo)
 | .mk k n nm slot loc op args,f,h=>by
  simp only [Fnd.expr] at h⊢
  split at h
  · rename_i hk
    rw [if_pos hk]
    obtain ⟨h1,h2⟩:=Qa (c:=c) (lo:=lo) args _ h
    dsimp only at h h1⊢
    rw [h1] at h
    obtain ⟨e1,x,hx,hk2,e2⟩:=Fnd.wants_ok h
    refine ⟨h1.trans e1,fun hn=>⟨fun _=> ?_,fun e=>absurd (hk.symm.trans e) (by decide),h2 (by rw [e1];exact hn)⟩⟩
    have hx2:=hn x hx
    rw [e2]
    refine ⟨hx2.z,?_⟩
    dsimp only
    rcases hk2 with hk2|hk2
    · rw [if_neg (by rw [hk2];decide)];exact hx2.v hk2
    rw [if_pos (by rw [hk2];decide)];exact hx2.lo hk2
  rename_i hk0
  rw [if_neg hk0]
  split at h
  · rename_i hk
    rw [if_pos hk]
    obtain ⟨h1,h2⟩:=Qa (c:=c) (lo:=lo) args _ h
    dsimp only at h h1⊢
    rw [h1] at h
    obtain ⟨e1,x,hx,hk2,e2⟩:=Fnd.wants_ok h
    refine ⟨h1.trans e1,fun hn=>⟨fun e=>absurd (hk.symm.trans e) (by decide),fun _=> ?_,h2 (by rw [e1];exact hn)⟩⟩
    have hx2:=hn x hx
    rw [e2]
    exact ⟨hx2.z,hx2.a (by rcases hk2 with e|e<;>exact e)⟩
  rename_i hk1
  rw [if_neg hk1]
  obtain ⟨h1,h2⟩:=Qa (c:=c) (lo:=lo) args _ h
  exact ⟨h1,fun hn=>⟨fun e=>absurd e hk0,fun e=>absurd e hk1,h2 hn⟩⟩
theorem Qa {c:Cn}{lo:Int}: ∀ (l:List PEx) (f:Fnd),(f.exprs l).1.flaw=0→(f.exprs l).1=f∧((∀ x∈f.names,NmOk c lo x)→H9 c lo (f.exprs l).2)
 | [],f,_=>⟨rfl,fun _=>trivial⟩
 |e::r,f,h=>by
  simp only [Fnd.exprs] at h⊢
  obtain ⟨h1,h2⟩:=Qa (c:=c) (lo:=lo) r _ h
  rw [h1] at h
  obtain ⟨k1,k2⟩:=Qf (c:=c) (lo:=lo) e f h
  exact ⟨h1.trans k1,fun hn=>⟨k2 hn,h2 (by rw [k1];exact hn)⟩⟩
end
def ownOk (c:Cn)(lo k slot other:Int)(loc:Bool):Prop:=
 (k=1∨k=2→vaOk c lo slot loc)∧(k=3→0≤slot∧slot<c.a)∧(k=6∨k=7→0≤slot∧slot<c.mu)∧(k=8∨k=9∨k=10→0≤slot∧slot<c.co)∧(k=8→0≤other∧other<c.mu)∧(k=11∨k=12→0≤slot∧slot<c.ch)∧(k=12→vaOk c lo other loc)∧(k=13→0≤slot∧slot<c.th)
theorem ownOk.up {c:Cn}{lo hi k s o:Int}{l:Bool}(h:ownOk c lo k s o l)(hl:lo≤hi):ownOk c hi k s o l:=by
 obtain ⟨h1,h2,h3,h4,h5,h6,h7,h8⟩:=h
 exact ⟨fun e=>(h1 e).up hl,h2,h3,h4,h5,h6,fun e=>(h7 e).up hl,h8⟩
mutual
def PStm.wl (c:Cn)(lo:Int):PStm→Prop
 | .mk k _ _ _ _ e ix body els id slot other loc=>(1≤k∧k≤15)∧(k≤5∨k=11∨k=15→e.fit∧e.dep≤24∧e.wl c lo)∧(k=3→ix.fit∧ix.dep≤24∧ix.wl c lo)∧(0≤id∧id<512)∧ownOk c lo k slot other loc∧Qy c lo body∧Qy c lo els
def Qy (c:Cn)(lo:Int):List PStm→Prop
 | []=>True
 |s::r=>s.wl c lo∧Qy c lo r
end
mutual
theorem Df {c:Cn}{lo hi:Int}(hl:lo≤hi): ∀ {s:PStm},s.wl c lo→s.wl c hi
 | .mk ..,⟨h1,h2,h3,h4,h5,h6,h7⟩=>⟨h1,fun k=>⟨(h2 k).1,(h2 k).2.1,Kz hl (h2 k).2.2⟩,fun k=>⟨(h3 k).1,(h3 k).2.1,Kz hl (h3 k).2.2⟩,h4,h5.up hl,Jt hl h6,Jt hl h7⟩
theorem Jt {c:Cn}{lo hi:Int}(hl:lo≤hi): ∀ {l:List PStm},Qy c lo l→Qy c hi l
 | [],_=>trivial
 |_::_,⟨h1,h2⟩=>⟨Df hl h1,Jt hl h2⟩
end
structure Ctx (c:Cn) (f:Fnd):Prop where
 n: ∀ x∈f.names,NmOk c f.locals x
 l:0≤f.locals∧f.locals≤f.most∧f.most≤32
 s:0≤f.stm
theorem L8 {c:Cn}{f:Fnd}{k sl ot:Int}{nm wt:ByteArray}{lo:Bool}(h:(f.own k nm wt sl ot lo).1.flaw=0)(hx:Ctx c f):
 f.flaw=0∧Ctx c (f.own k nm wt sl ot lo).1∧f.most≤(f.own k nm wt sl ot lo).1.most∧(f.own k nm wt sl ot lo).1.stm=f.stm∧ownOk c (f.own k nm wt sl ot lo).1.most k (f.own k nm wt sl ot lo).2.1 (f.own k nm wt sl ot lo).2.2.1 (f.own k nm wt sl ot lo).2.2.2:=by
 obtain ⟨g,hg⟩: ∃ g,f.own1 k nm sl lo=g:=⟨_,rfl⟩
 unfold Fnd.own at h⊢
 rw [hg] at h⊢
 -- behind own1 nothing is flawed
 have h1:g.1.flaw=0:=by
  unfold Fnd.own2 at h
  split at h
  · exact (Nv (show ((g.1.loc1 nm).loc2).flaw=0 from h)).2.2
  split at h
  · dsimp only at h;rw [←(Fnd.wants_ok h).1];exact h
  split at h
  · dsimp only at h;rw [←(Fnd.wants_ok h).1];exact h
  exact h
 have hw:g.1=f∧(k=2→vaOk c f.locals g.2.1 g.2.2)∧(k=3→0≤g.2.1∧g.2.1<c.a)∧(k=6∨k=7→0≤g.2.1∧g.2.1<c.mu)∧(k=8∨k=9∨k=10→0≤g.2.1∧g.2.1<c.co)∧(k=11∨k=12→0≤g.2.1∧g.2.1<c.ch)∧(k=13→0≤g.2.1∧g.2.1<c.th):=by
  rw [←hg] at h1⊢
  unfold Fnd.own1 at h1⊢
  by_cases hz:(Jg k).1≠0
  · rw [if_pos hz] at h1⊢
    obtain ⟨e1,x,hx1,hk,e2⟩:=Fnd.wants_ok h1
    have ho:=hx.n x hx1
    rw [e2]
    refine ⟨e1,fun e=> ?_,fun e=> ?_,fun e=> ?_,fun e=> ?_,fun e=> ?_,fun e=> ?_⟩
    · subst e
      refine ⟨ho.z,?_⟩
      dsimp only
      rcases hk with hk|hk
      · rw [if_neg (by rw [hk];decide)];exact ho.v hk
      rw [if_pos (by rw [hk];decide)];exact ho.lo hk
    · subst e;exact ⟨ho.z,ho.a (by rcases hk with e|e<;>exact e)⟩
    · refine ⟨ho.z,ho.mu ?_⟩;rcases e with e|e<;>subst e<;>rcases hk with e|e<;>exact e
    · refine ⟨ho.z,ho.co ?_⟩;rcases e with e|e|e<;>subst e<;>rcases hk with e|e<;>exact e
    · refine ⟨ho.z,ho.ch ?_⟩;rcases e with e|e<;>subst e<;>rcases hk with e|e<;>exact e
    subst e;exact ⟨ho.z,ho.th (by rcases hk with e|e<;>exact e)⟩
  rw [if_neg hz] at h1⊢
  have hz2:(Jg k).1=0:=Decidable.not_not.1 hz
  refine ⟨rfl,fun e=> ?_,fun e=> ?_,fun e=> ?_,fun e=> ?_,fun e=> ?_,fun e=> ?_⟩<;>exfalso<;>revert hz2
  · subst e;decide
  · subst e;decide
  · rcases e with e|e<;>subst e<;>decide
  · rcases e with e|e|e<;>subst e<;>decide
  · rcases e with e|e<;>subst e<;>decide
  subst e;decide
 obtain ⟨e1,w2,w3,w4,w5,w6,w7⟩:=hw
 obtain ⟨g1,gs,gl⟩:=g
 dsimp only at*
 subst e1
 obtain ⟨l1,l2,l3⟩:=hx.l
 refine ⟨h1,?_⟩
 unfold Fnd.own2 at h⊢
 split at h
 · rename_i hk
   rw [if_pos hk]
   obtain ⟨e3,e4,_⟩:=Nv (show ((g1.loc1 nm).loc2).flaw=0 from h)
   dsimp only
   rw [e3]
   have hm:(g1.loc3 nm).most=max g1.most (g1.locals+1):=rfl
   have hlo:(g1.loc3 nm).locals=g1.locals+1:=rfl
   refine ⟨⟨fun x hx1=> ?_,⟨by omega,by omega,by omega⟩,hx.s⟩,by omega,rfl,?_⟩
   · rcases List.mem_append.1 (show x∈g1.names++ [⟨nm,100,g1.locals⟩] from hx1) with hx1|hx1
     · exact (hx.n x hx1).up (Cn.le_refl c) (by omega)
     rw [List.mem_singleton.1 hx1]
     exact ⟨l1,fun e=>absurd (show (100:Int)=1 from e) (by decide),fun e=>absurd (show (100:Int)=2 from e) (by decide),fun e=>absurd (show (100:Int)=3 from e) (by decide),fun e=>absurd (show (100:Int)=4 from e) (by decide),fun e=>absurd (show (100:Int)=5 from e) (by decide),fun e=>absurd (show (100:Int)=6 from e) (by decide),fun _=>by dsimp only;omega⟩
   exact ⟨fun _=>⟨l1,by rw [if_pos rfl];omega⟩,fun e=>by omega,fun e=>by omega,fun e=>by omega,fun e=>by omega,fun e=>by omega,fun e=>by omega,fun e=>by omega⟩
 rename_i hk1
 rw [if_neg hk1]
 split at h
 · rename_i hk
   rw [if_pos hk]
   dsimp only at h⊢
   obtain ⟨e1,x,hx1,hk3,e2⟩:=Fnd.wants_ok h
   rw [e1,e2]
   have ho:=hx.n x hx1
   exact ⟨hx,Int.le_refl _,rfl,fun e=>by omega,fun e=>by omega,fun e=>by omega,fun e=>w5 (by omega),fun _=>⟨ho.z,ho.mu (by rcases hk3 with e|e<;>exact e)⟩,fun e=>by omega,fun e=>by omega,fun e=>by omega⟩
 rename_i hk2
 rw [if_neg hk2]
 split at h
 · rename_i hk
   rw [if_pos hk]
   dsimp only at h⊢
   obtain ⟨e1,x,hx1,hk3,e2⟩:=Fnd.wants_ok h
   rw [e1,e2]
   have ho:=hx.n x hx1
   refine ⟨hx,Int.le_refl _,rfl,fun e=>by omega,fun e=>by omega,fun e=>by omega,fun e=>by omega,fun e=>by omega,fun e=>w6 (by omega),fun _=>⟨ho.z,?_⟩,fun e=>by omega⟩
   dsimp only
   rcases hk3 with hk3|hk3
   · rw [if_neg (by rw [hk3];decide)];exact ho.v hk3
   rw [if_pos (by rw [hk3];decide)];have:=ho.lo hk3;omega
 rename_i hk3
 rw [if_neg hk3]
 dsimp only
 exact ⟨hx,Int.le_refl _,rfl,fun e=>(w2 (by omega)).up l2,w3,w4,fun e=>w5 (by omega),fun e=>by omega,fun e=>w6 (by omega),fun e=>by omega,w7⟩
theorem Dt {f:Fnd}{k sl ot:Int}{nm wt:ByteArray}{lo:Bool}(h:(f.own k nm wt sl ot lo).1.flaw=0):f.flaw=0:=by
 have h1:(f.own1 k nm sl lo).1.flaw=0:=by
  unfold Fnd.own Fnd.own2 at h
  split at h
  · exact (Nv (show (((f.own1 k nm sl lo).1.loc1 nm).loc2).flaw=0 from h)).2.2
  split at h
  · dsimp only at h;rw [←(Fnd.wants_ok h).1];exact h
  split at h
  · dsimp only at h;rw [←(Fnd.wants_ok h).1];exact h
  exact h
 unfold Fnd.own1 at h1
 split at h1
 · dsimp only at h1;rw [←(Fnd.wants_ok h1).1];exact h1
 exact h1
theorem U5 (l:List PStm)(f:Fnd)(h:(f.blk l).1.flaw=0):f.flaw=0:=by
 cases l with
 |nil=>exact h
 |cons s r=>
  simp only [Fnd.blk] at h
  split at h
  · rename_i k;exact k
  exact h
mutual
/-- A statement that Check lets pass. -/
def PStm.raw:PStm→Prop
 | .mk k _ _ _ _ e ix body els _ _ _ _=>(1≤k∧k≤15)∧(k≤5∨k=11∨k=15→e.fit∧e.dep≤24)∧(k=3→ix.fit∧ix.dep≤24)∧(e.sz≤e.nd+1∧ix.sz≤ix.nd+1)∧Vh body∧Vh els
def Vh:List PStm→Prop
 | []=>True
 |s::r=>s.raw∧Vh r
end
mutual
theorem Ab {c:Cn}: ∀ (s:PStm) (f:Fnd),s.raw→(f.stmt s).1.flaw=0→Ctx c f→f.flaw=0∧Ctx c (f.stmt s).1∧f.most≤(f.stmt s).1.most∧(f.stmt s).2.wl c (f.stmt s).1.most
 | .mk k ln cl nm wt e ix body els id slot other loc,f,hr,h,hx=>by
  obtain ⟨r1,r2,r3,r4,r5,r6⟩:=hr
  simp only [Fnd.stmt] at h⊢
  split at h
  · exact absurd h (Y6 (by decide))
  rename_i h5
  rw [if_neg h5]
  dsimp only at h⊢
  obtain ⟨g0,hg0⟩: ∃ g:Fnd,g= { f with stm:=f.stm+1 } :=⟨_,rfl⟩
  rw [←hg0] at h⊢
  obtain ⟨f1,hf1⟩: ∃ g,g=g0.expr ix:=⟨_,rfl⟩
  rw [←hf1] at h⊢
  obtain ⟨f2,hf2⟩: ∃ g,g=f1.1.expr e:=⟨_,rfl⟩
  rw [←hf2] at h⊢
  obtain ⟨f3,hf3⟩: ∃ g,g=f2.1.own k nm wt slot other loc:=⟨_,rfl⟩
  rw [←hf3] at h⊢
  obtain ⟨f4,hf4⟩: ∃ g,g=f3.1.blk body:=⟨_,rfl⟩
  rw [←hf4] at h⊢
  obtain ⟨g4,hg4⟩: ∃ g:Fnd,g= { f4.1 with names:=f3.1.names,locals:=f3.1.locals } :=⟨_,rfl⟩
  rw [←hg4] at h⊢
  obtain ⟨f5,hf5⟩: ∃ g,g=g4.blk els:=⟨_,rfl⟩
  rw [←hf5] at h⊢
  have q5:=U5 els g4 (by rw [←hf5];exact h)
  have q4:f4.1.flaw=0:=by rw [hg4] at q5;exact q5
  have q3:f3.1.flaw=0:=U5 body f3.1 (by rw [←hf4];exact q4)
  have q2:f2.1.flaw=0:=Dt (by rw [←hf3];exact q3)
  have p2:=Qf (c:=c) (lo:=f.locals) e f1.1 (by rw [←hf2];exact q2)
  rw [←hf2] at p2
  have q1:f1.1.flaw=0:=by rw [←p2.1];exact q2
  have p1:=Qf (c:=c) (lo:=f.locals) ix g0 (by rw [←hf1];exact q1)
  rw [←hf1] at p1
  have x0:Ctx c g0:=by rw [hg0];exact ⟨hx.n,hx.l,by have:=hx.s;dsimp only;omega⟩
  have e2:f2.1=g0:=p2.1.trans p1.1
  have nok: ∀ x∈g0.names,NmOk c f.locals x:=by rw [hg0];exact hx.n
  have w1:=p1.2 nok
  have w2:=p2.2 (by rw [p1.1];exact nok)
  have own:=L8 (c:=c) (f:=f2.1) (k:=k) (sl:=slot) (ot:=other) (nm:=nm) (wt:=wt) (lo:=loc) (by rw [←hf3];exact q3) (by rw [e2];exact x0)
  rw [←hf3] at own
  obtain ⟨o1,o2,o3,o4,o5⟩:=own
  have b4:=Jx (c:=c) body f3.1 r5 (by rw [←hf4];exact q4) o2
  rw [←hf4] at b4
  obtain ⟨b41,b42,b43⟩:=b4
  have x4:Ctx c g4:=by rw [hg4];exact ⟨o2.n,⟨o2.l.1,by have:=o2.l.2.1;dsimp only;omega,b41.l.2.2⟩,b41.s⟩
  have b5:=Jx (c:=c) els g4 r6 (by rw [←hf5];exact h) x4
  rw [←hf5] at b5
  obtain ⟨b51,b52,b53⟩:=b5
  have m4:g4.most=f4.1.most:=by rw [hg4]
  have m2:f2.1.most=f.most:=by rw [e2,hg0]
  have s2:f2.1.stm=f.stm+1:=by rw [e2,hg0]
  have k1:=V5 ix g0
  have k2:=V5 e f1.1
  rw [←hf1] at k1;rw [←hf2] at k2
  have hl:=hx.l
  have hlm:f.locals≤f5.1.most:=by omega
  refine ⟨by rw [e2,hg0] at o1;exact o1,⟨o2.n,⟨o2.l.1,by have:=o2.l.2.1;dsimp only;omega,b51.l.2.2⟩,b51.s⟩,by (try dsimp only);omega,r1,fun hk=>⟨k2.2.2 (r2 hk).1,by rw [k2.2.1];exact (r2 hk).2,Kz hlm w2⟩,fun hk=>⟨k1.2.2 (r3 hk).1,by rw [k1.2.1];exact (r3 hk).2,Kz hlm w1⟩,⟨hx.s,by omega⟩,o5.up (by (try dsimp only);omega),Jt (by (try dsimp only);omega) b43,b53⟩
theorem Jx {c:Cn}: ∀ (l:List PStm) (f:Fnd),Vh l→(f.blk l).1.flaw=0→Ctx c f→Ctx c (f.blk l).1∧f.most≤(f.blk l).1.most∧Qy c (f.blk l).1.most (f.blk l).2
 | [],f,_,_,hx=>⟨hx,Int.le_refl _,trivial⟩
 |s::r,f,hr,h,hx=>by
  simp only [Fnd.blk] at h⊢
  split at h
  · rename_i h5
    rw [if_pos h5]
    have q:=U5 r (f.stmt s).1 h
    obtain ⟨_,a2,a3,a4⟩:=Ab (c:=c) s f hr.1 q hx
    obtain ⟨b1,b2,b3⟩:=Jx (c:=c) r (f.stmt s).1 hr.2 h a2
    exact ⟨b1,by (try dsimp only);omega,Df b2 a4,b3⟩
  rename_i h5;exact absurd h h5
end
mutual
theorem Ay: ∀ (s:PStm) (f:Fnd),s.raw→(f.stmt s).2.wt≤14*s.nd
 | .mk k ln cl nm wt e ix body els id slot other loc,f,hr=>by
  obtain ⟨_,_,_,⟨r1,r2⟩,r5,r6⟩:=hr
  simp only [Fnd.stmt]
  split
  · have h1:=Uc body r5;have h2:=Uc els r6
    simp only [PStm.wt,Hb];omega
  dsimp only
  have k1:=V5 ix { f with stm:=f.stm+1 }
  have k2:=V5 e (Fnd.expr { f with stm:=f.stm+1 } ix).1
  simp only [PStm.wt,Hb,k1.1,k2.1]
  refine Nat.le_trans (Nat.add_le_add_left (K7 els _ r6) _) (Nat.le_trans (Nat.add_le_add_right (Nat.add_le_add_left (K7 body _ r5) _) _) ?_)
  omega
theorem K7: ∀ (l:List PStm) (f:Fnd),Vh l→W3 (f.blk l).2≤14*Z0 l
 | [],f,_=>Nat.zero_le _
 |s::r,f,hr=>by
  simp only [Fnd.blk]
  split
  · have h1:=Ay s f hr.1;have h2:=K7 r (f.stmt s).1 hr.2
    simp only [W3,Z0];omega
  simp [W3]
theorem Aq: ∀ (s:PStm),s.raw→s.wt≤14*s.nd
 | .mk k ln cl nm wt e ix body els id slot other loc,hr=>by
  obtain ⟨_,_,_,⟨r1,r2⟩,r5,r6⟩:=hr
  have h1:=Uc body r5;have h2:=Uc els r6
  simp only [PStm.wt,Hb];omega
theorem Uc: ∀ (l:List PStm),Vh l→W3 l≤14*Z0 l
 | [],_=>Nat.zero_le _
 |s::r,hr=>by
  have h1:=Aq s hr.1;have h2:=Uc r hr.2
  simp only [W3,Z0];omega
end
mutual
theorem Ui: ∀ {e:PEx} {d:Nat},e.right d=true→e.sz=e.nd∧e.dep≤d
 | .mk k n nm _ _ op args,d,h=>by
  simp only [PEx.right] at h
  split at h
  · cases h
  rename_i h0
  split at h
  · rename_i hk
    rw [Bool.and_eq_true] at h
    have hd:1≤d:=by
     unfold Te at h0
     simp only [Bool.or_eq_true,not_or,decide_eq_true_eq] at h0
     omega
    obtain ⟨a,b⟩:=Mp h.2
    simp only [PEx.sz,PEx.nd,PEx.dep]
    rw [if_neg (by omega)]
    omega
  cases h
theorem Mp: ∀ {l:List PEx} {d:Nat},Y5 l d=true→U9 l=Ra l∧Yp l≤d
 | [],_,_=>⟨rfl,Nat.zero_le _⟩
 |e::r,d,h=>by
  simp only [Y5,Bool.and_eq_true] at h
  have h1:=Ui h.1;have h2:=Mp h.2
  simp only [U9,Ra,Yp];omega
end
theorem Dm {e:PEx}(h:e.nil=true):e.sz≤e.nd+1:=by
 cases e with
 |mk k n nm s l op args=>
  simp only [PEx.nil,Bool.and_eq_true,decide_eq_true_eq] at h
  have:args= []:=List.eq_nil_of_length_eq_zero h.2
  subst this
  simp only [PEx.sz,U9];omega
mutual
theorem F9: ∀ {s:PStm} {n:Nat},s.may n=true→s.raw
 | .mk k _ _ nm wt e ix body els _ _ _ _,n,h=>by
  simp only [PStm.may] at h
  split at h;cases h
  rename_i h1
  split at h;cases h
  split at h;cases h
  rename_i h3
  split at h;cases h
  rw [Bool.and_eq_true] at h
  unfold Pw at h1
  simp only [Bool.or_eq_true,not_or,decide_eq_true_eq] at h1
  unfold G6 at h3
  have hE:D3 k=true→e.right 24=true:=fun hE=>by cases hr:e.right 24 with|true=>rfl|false=>simp [hE,hr] at h3
  have hN:D3 k=false→e.nil=true:=fun hE=>by cases hr:e.nil with|true=>rfl|false=>simp [hE,hr] at h3
  have hI:k=3→ix.right 24=true:=fun hk=>by cases hr:ix.right 24 with|true=>rfl|false=>simp [hk,hr] at h3
  have hJ: ¬k=3→ix.nil=true:=fun hk=>by cases hr:ix.nil with|true=>rfl|false=>simp [hk,hr] at h3
  refine ⟨by omega,fun hk=> ?_,fun hk=>⟨Je (hI hk),(Ui (hI hk)).2⟩,⟨?_,?_⟩,W7 h.1,W7 h.2⟩
  · have:D3 k=true:=by unfold D3;simp only [Bool.or_eq_true,decide_eq_true_eq,beq_iff_eq];omega
    exact ⟨Je (hE this),(Ui (hE this)).2⟩
  · cases hk:D3 k with
    |true=>have:=(Ui (hE hk)).1;omega
    |false=>exact Dm (hN hk)
  by_cases hk:k=3
  · have:=(Ui (hI hk)).1;omega
  exact Dm (hJ hk)
theorem W7: ∀ {l:List PStm} {n:Nat},Yw l n=true→Vh l
 | [],_,_=>trivial
 |s::r,n,h=>by
  simp only [Yw,Bool.and_eq_true] at h
  exact ⟨F9 h.1,W7 h.2⟩
end
structure DInv (f:Fnd):Prop where
 n: ∀ x∈f.names,NmOk f.cn 0 x
 l:f.locals=0∧f.stm=0
 k:f.names.length≤64∧f.vars.length≤f.names.length∧f.arrs.length≤f.names.length∧f.chs.length≤f.names.length∧f.ths.length≤f.names.length∧(0≤f.mu∧f.mu≤f.names.length)∧(0≤f.co∧f.co≤f.names.length)
 v: ∀ n∈f.vars, -2147483648≤n∧n≤2147483647
 a: ∀ n∈f.arrs,1≤n∧n≤256
 c: ∀ n∈f.chs,1≤n∧n≤16
 t: ∀ t∈f.ths,(1≤t.nm.size∧t.nm.size≤16)∧t.loc=0∧t.body= []
theorem Hm {α:Type}{φ:α→Prop}{l:List α}{x:α}(h: ∀ y∈l,φ y)(hx:φ x): ∀ y∈l++ [x],φ y:=by
 intro y hy
 rcases List.mem_append.1 hy with hy|hy
 · exact h y hy
 rw [List.mem_singleton.1 hy];exact hx
theorem DInv.z:DInv Fnd.z:=⟨fun x hx=>(by cases hx),⟨rfl,rfl⟩,by decide,fun x hx=>(by cases hx),fun x hx=>(by cases hx),fun x hx=>(by cases hx),fun x hx=>(by cases hx)⟩
theorem DInv.decl {f:Fnd}{d:PDec}(h:DInv f)(hf:(f.decl d).flaw=0)(h0:f.flaw=0)(hk:1≤d.k∧d.k≤6)(hn:1≤d.nm.size∧d.nm.size≤16):DInv (f.decl d):=by
 have key: ∃ g s,f.decl d= { g with names:=f.names++ [⟨d.nm,d.k,s⟩] } ∧g.names=f.names∧f.names.length<64∧g=(f.decl1 d).1∧s=(f.decl1 d).2.1∧(f.decl1 d).2.2=true:=by
  unfold Fnd.decl at hf⊢
  split at hf
  · exact absurd hf (Y6 (by decide))
  rename_i c1
  rw [if_neg c1]
  split at hf
  · rename_i c2;rw [J1 c2] at hf;exact absurd hf (Y6 (by decide))
  rename_i c2
  rw [if_neg c2]
  have en:(f.decl1 d).1.names=f.names:=by
   unfold Fnd.decl1
   (repeat' split)<;>first|rfl|exact (f.fl_keep _).2.2.1
  split at hf
  · exact absurd hf (Y6 (by decide))
  rename_i c3
  rw [if_neg c3]
  rw [en] at c3
  exact ⟨_,_,by rw [en],en,by omega,rfl,rfl,by revert c2;cases (f.decl1 d).2.2<;>simp⟩
 obtain ⟨g,s,e1,e2,e3,e4,e5,e6⟩:=key
 rw [e1]
 obtain ⟨i1,i2,i3,i4,i5,i6,i7⟩:=h
 have hc:d.k=1∨d.k=2∨d.k=3∨d.k=4∨d.k=5∨d.k=6:=by omega
 have nms: ∀ {c:Cn},f.cn.le c→NmOk c 0 ⟨d.nm,d.k,s⟩→ ∀ x∈f.names++ [⟨d.nm,d.k,s⟩],NmOk c 0 x:=fun hle ho=>Hm (fun y hy=>(i1 y hy).up hle (Int.le_refl _)) ho
 unfold Fnd.decl1 at e4 e5 e6
 rcases hc with hc|hc|hc|hc|hc|hc 
 · rw [if_pos hc] at e4 e5 e6
   split at e6
   · cases e6
   rename_i c2
   rw [if_neg c2] at e4 e5
   subst e4;subst e5
   refine ⟨nms ⟨by simp [Fnd.cn]<;>omega,Int.le_refl _,Int.le_refl _,Int.le_refl _,Int.le_refl _,Int.le_refl _⟩ ⟨by simp,fun _=>by simp [Fnd.cn]<;>omega,?_,?_,?_,?_,?_,?_⟩,i2,by simp;omega,Hm i4 (by omega),i5,i6,i7⟩<;>(intro e;have e:d.k=_:=e;omega)
 · rw [if_neg (by omega),if_pos hc] at e4 e5 e6
   split at e6
   · cases e6
   rename_i c2
   rw [if_neg c2] at e4 e5
   subst e4;subst e5
   refine ⟨nms ⟨Int.le_refl _,by simp [Fnd.cn]<;>omega,Int.le_refl _,Int.le_refl _,Int.le_refl _,Int.le_refl _⟩ ⟨by simp,?_,fun _=>by simp [Fnd.cn]<;>omega,?_,?_,?_,?_,?_⟩,i2,by simp;omega,i4,Hm i5 (by omega),i6,i7⟩<;>(intro e;have e:d.k=_:=e;omega)
 · rw [if_neg (by omega),if_neg (by omega),if_pos hc] at e4 e5 e6
   subst e4;subst e5
   refine ⟨nms ⟨Int.le_refl _,Int.le_refl _,by simp [Fnd.cn]<;>omega,Int.le_refl _,Int.le_refl _,Int.le_refl _⟩ ⟨by dsimp only;omega,?_,?_,fun _=>by simp [Fnd.cn]<;>omega,?_,?_,?_,?_⟩,i2,by simp;omega,i4,i5,i6,i7⟩<;>(intro e;have e:d.k=_:=e;omega)
 · rw [if_neg (by omega),if_neg (by omega),if_neg (by omega),if_pos hc] at e4 e5 e6
   subst e4;subst e5
   refine ⟨nms ⟨Int.le_refl _,Int.le_refl _,Int.le_refl _,by simp [Fnd.cn]<;>omega,Int.le_refl _,Int.le_refl _⟩ ⟨by dsimp only;omega,?_,?_,?_,fun _=>by simp [Fnd.cn]<;>omega,?_,?_,?_⟩,i2,by simp;omega,i4,i5,i6,i7⟩<;>(intro e;have e:d.k=_:=e;omega)
 · rw [if_neg (by omega),if_neg (by omega),if_neg (by omega),if_neg (by omega),if_pos hc] at e4 e5 e6
   split at e6
   · cases e6
   rename_i c2
   rw [if_neg c2] at e4 e5
   subst e4;subst e5
   refine ⟨nms ⟨Int.le_refl _,Int.le_refl _,Int.le_refl _,Int.le_refl _,by simp [Fnd.cn]<;>omega,Int.le_refl _⟩ ⟨by simp,?_,?_,?_,?_,fun _=>by simp [Fnd.cn]<;>omega,?_,?_⟩,i2,by simp;omega,i4,i5,Hm i6 (by omega),i7⟩<;>(intro e;have e:d.k=_:=e;omega)
 rw [if_neg (by omega),if_neg (by omega),if_neg (by omega),if_neg (by omega),if_neg (by omega),if_pos hc] at e4 e5 e6
 subst e4;subst e5
 refine ⟨nms ⟨Int.le_refl _,Int.le_refl _,Int.le_refl _,Int.le_refl _,Int.le_refl _,by simp [Fnd.cn]<;>omega⟩ ⟨by simp,?_,?_,?_,?_,?_,fun _=>by simp [Fnd.cn]<;>omega,?_⟩,i2,by simp;omega,i4,i5,i6,Hm i7 ⟨hn,rfl,rfl⟩⟩<;>(intro e;have e:d.k=_:=e;omega)
theorem DInv.decls: ∀ {ds:List PDec} {f:Fnd},DInv f→(∀ d∈ds,(1≤d.k∧d.k≤6)∧(1≤d.nm.size∧d.nm.size≤16))→(f.decls ds).flaw=0→DInv (f.decls ds)
 | [],_,h,_,_=>h
 |d::r,f,h,hd,hf=>by
  unfold Fnd.decls at hf⊢
  split at hf
  · rename_i h0
    rw [if_pos h0]
    have hz:(f.decl d).flaw=0:=by
     cases r with
     |nil=>exact hf
     |cons x r=>
      unfold Fnd.decls at hf
      split at hf
      · assumption
      exact hf
    exact DInv.decls (h.decl hz h0 (hd d (List.mem_cons_self ..)).1 (hd d (List.mem_cons_self ..)).2) (fun x hx=>hd x (List.mem_cons_of_mem _ hx)) hf
  rename_i h0;exact absurd hf h0
structure ThW (P:List PStm→Prop) (c:Cn) (t:PTh):Prop where
 n:1≤t.nm.size∧t.nm.size≤16
 l:0≤t.loc∧t.loc≤32
 b:Qy c t.loc t.body
 p:P t.body
structure BInv (P:List PStm→Prop) (d f:Fnd):Prop where
 e:f.vars=d.vars∧f.arrs=d.arrs∧f.chs=d.chs∧f.mu=d.mu∧f.co=d.co∧f.ths.length=d.ths.length∧f.names=d.names
 n: ∀ x∈d.names,NmOk d.cn 0 x
 l:f.locals=0∧0≤f.stm
 t: ∀ t∈f.ths,ThW P d.cn t
theorem BInv.bodies {P:List PStm→Prop}{d:Fnd}: ∀ {bs:List (List PStm)} {i:Nat} {f:Fnd},(∀ b∈bs,Vh b∧ ∀ g,P (Fnd.blk g b).2)→BInv P d f→(f.bodies i bs).flaw=0→BInv P d (f.bodies i bs)
 | [],_,_,_,h,_=>h
 |b::r,i,f,hb,h,hf=>by
  unfold Fnd.bodies at hf⊢
  split at hf
  · rename_i h0
    rw [if_pos h0]
    dsimp only at hf⊢
    obtain ⟨g,hg⟩: ∃ g,g=Fnd.block { f with most:=0 } b:=⟨_,rfl⟩
    rw [←hg] at hf⊢
    obtain ⟨q,hq⟩: ∃ q,q=Fnd.blk { f with most:=0 } b:=⟨_,rfl⟩
    have e1:g=({ q.1 with names:=f.names,locals:=f.locals },q.2):=by rw [hg,hq];rfl
    have fl:g.1.flaw=0:=by
     cases r with
     |nil=>exact hf
     |cons x r=>
      unfold Fnd.bodies at hf
      split at hf
      · assumption
      exact hf
    have flq:q.1.flaw=0:=by rw [e1] at fl;exact fl
    have to:=Fnd.To.blk b { f with most:=0 }
    rw [←hq] at to
    obtain ⟨t1,t2,t3,t4,t5,t6,_⟩:=to.e
    dsimp only at t1 t2 t3 t4 t5 t6
    obtain ⟨j1,j2,j3,j4,j5,j6,j7⟩:=h.e
    have cx:Ctx d.cn { f with most:=0 } :=⟨by dsimp only;rw [j7,h.l.1];exact h.n,by dsimp only;rw [h.l.1];decide,h.l.2⟩
    have w:=Jx (c:=d.cn) b { f with most:=0 } (hb b (List.mem_cons_self ..)).1 (by rw [←hq];exact flq) cx
    have hp:=(hb b (List.mem_cons_self ..)).2 { f with most:=0 }
    rw [←hq] at w hp
    obtain ⟨w1,w2,w3⟩:=w
    dsimp only at w2
    refine BInv.bodies (fun x hx=>hb x (List.mem_cons_of_mem _ hx)) ⟨?_,h.n,?_,?_⟩ hf
    · rw [e1];dsimp only;rw [List.length_set,t6];exact ⟨t1.trans j1,t2.trans j2,t5.trans j3,t3.trans j4,t4.trans j5,j6,j7⟩
    · rw [e1];exact ⟨h.l.1,w1.s⟩
    rw [e1]
    dsimp only
    rw [t6]
    intro t ht
    by_cases hi:i<f.ths.length
    · rcases List.mem_or_eq_of_mem_set ht with ht|ht
      · exact h.t t ht
      rw [ht,List.getD_eq_getElem?_getD,List.getElem?_eq_getElem hi]
      exact ⟨(h.t _ (List.getElem_mem hi)).n,⟨w2,w1.l.2.2⟩,w3,hp⟩
    rw [List.set_eq_of_length_le (by omega)] at ht;exact h.t t ht
  rename_i h0;exact absurd hf h0
structure PrgOk (P:List PStm→Prop) (F:Fnd):Prop where
 k:F.vars.length≤64∧F.arrs.length≤64∧F.chs.length≤64∧F.ths.length≤64∧(0≤F.mu∧F.mu≤64)∧(0≤F.co∧F.co≤64)
 v: ∀ n∈F.vars, -2147483648≤n∧n≤2147483647
 a: ∀ n∈F.arrs,1≤n∧n≤256
 c: ∀ n∈F.chs,1≤n∧n≤16
 t: ∀ t∈F.ths,ThW P F.cn t
 m:0≤F.main∧F.main<F.ths.length
theorem bad_nm {d:PDec}(h:d.bad=false):1≤d.nm.size∧d.nm.size≤16:=by
 unfold PDec.bad Px at h
 simp only [Bool.or_eq_false_iff,decide_eq_false_iff_not,Bool.not_eq_false'] at h
 obtain ⟨⟨⟨⟨⟨⟨⟨⟨_,_⟩,h3⟩,_⟩,_⟩,_⟩,_⟩,_⟩,_⟩:=h
 have h4:nmS (bs d.nm)=true:=by simpa using h3
 unfold nmS at h4
 split at h4
 · cases h4
 rename_i h5
 have e:(bs d.nm).length=d.nm.size:=Kd d.nm
 omega
theorem Ib {d:PDec}(h:d.bad=false):Vh d.body:=by
 unfold PDec.bad Px at h
 simp only [Bool.or_eq_false_iff,decide_eq_false_iff_not,Bool.not_eq_false'] at h
 exact W7 h.2
theorem Cv {ds:List PDec}{F:Fnd}{P:List PStm→Prop}(h:T2 ds=some F)(h0:P [])(hP: ∀ d∈ds,d.bad=false→ ∀ g,P (Fnd.blk g d.body).2):PrgOk P F:=by
 unfold T2 at h
 split at h
 · cases h
 rename_i hbad
 have hok: ∀ d∈ds,d.bad=false:=fun d hd=>by
  cases hb:d.bad with
  |false=>rfl
  |true=>exact absurd (List.any_eq_true.2 ⟨d,hd,hb⟩) hbad
 dsimp only at h
 obtain ⟨f,hf⟩: ∃ f,f=Fnd.decls .z ds:=⟨_,rfl⟩
 rw [←hf] at h
 obtain ⟨f1,hf1⟩: ∃ f1,f1=(if f.flaw=0∧(f.at Qp=0∨((f.names.map (·.k)).getD (f.at Qp - 1) 0)≠6) then f.fl 133 else f):=⟨_,rfl⟩
 rw [←hf1] at h
 obtain ⟨bs,hbs⟩: ∃ b,b=(ds.filter fun d=>d.k==6).map (·.body):=⟨_,rfl⟩
 rw [←hbs] at h
 by_cases hfl:(f1.bodies 0 bs).flaw≠0
 · rw [if_pos hfl] at h;cases h
 rw [if_neg hfl] at h
 cases h
 have hfl2:=Decidable.not_not.1 hfl
 have z1:f1.flaw=0:=by
  cases bs with
  |nil=>exact hfl2
  |cons x r=>
   unfold Fnd.bodies at hfl2
   split at hfl2
   · assumption
   exact hfl2
 have hm:f1=f∧f.flaw=0∧f.at Qp≠0∧((f.names.map (·.k)).getD (f.at Qp - 1) 0)=6:=by
  split at hf1
  · rw [hf1] at z1;exact absurd z1 (Y6 (by decide))
  rename_i hn;rw [hf1] at z1
  refine ⟨hf1,z1,fun k=>hn ⟨z1,.inl k⟩,Decidable.byContradiction fun k=>hn ⟨z1,.inr k⟩⟩
 obtain ⟨e1,z2,m1,m2⟩:=hm
 have D:DInv f:=by
  rw [hf]
  exact DInv.decls .z (fun d hd=>⟨(Fi (hok d hd)).1,bad_nm (hok d hd)⟩) (by rw [←hf];exact z2)
 rw [e1] at hfl2⊢
 have B:=BInv.bodies (P:=P) (d:=f) (bs:=bs) (i:=0) (f:=f) (fun b hb=>by
  rw [hbs] at hb
  obtain ⟨d,hd,rfl⟩:=List.mem_map.1 hb
  have hd2:=(List.mem_filter.1 hd).1
  exact ⟨Ib (hok d hd2),hP d hd2 (hok d hd2)⟩) ⟨⟨rfl,rfl,rfl,rfl,rfl,rfl,rfl⟩,D.n,⟨D.l.1,by rw [D.l.2];decide⟩,fun t ht=>by
   obtain ⟨a,b,c⟩:=D.t t ht
   exact ⟨a,by omega,by rw [c];trivial,by rw [c];exact h0⟩⟩ hfl2
 obtain ⟨g,hg⟩: ∃ g,g=f.bodies 0 bs:=⟨_,rfl⟩
 rw [←hg] at B⊢
 obtain ⟨b1,b2,b3,b4,b5,b6,b7⟩:=B.e
 have cn:Fnd.cn { g with main:=(g.names.map (·.s)).getD (f.at Qp - 1) 0 } =f.cn:=by unfold Fnd.cn;dsimp only;rw [b1,b2,b3,b4,b5,b6]
 obtain ⟨k1,k2,k3,k4,k5,k6,k7⟩:=D.k
 refine ⟨?_,by dsimp only;rw [b1];exact D.v,by dsimp only;rw [b2];exact D.a,by dsimp only;rw [b3];exact D.c,by rw [cn];exact B.t,?_⟩
 · dsimp only;rw [b1,b2,b3,b4,b5,b6];omega
 have hlt:f.at Qp - 1<f.names.length:=by
  have:f.at Qp≤f.names.length:=J9
  omega
 have e6:f.names[f.at Qp - 1].k=6:=by
  rw [List.getD_eq_getElem?_getD,List.getElem?_map,List.getElem?_eq_getElem hlt] at m2;exact m2
 have ho:=D.n _ (List.getElem_mem hlt)
 dsimp only
 rw [b7,List.getD_eq_getElem?_getD,List.getElem?_map,List.getElem?_eq_getElem hlt,b6]
 exact ⟨ho.z,ho.th e6⟩
theorem Ou {l:Bs}{ds:List PDec}(h:Q5 l=some ds):(ds.map fun d=>Z0 d.body+1).sum≤l.length∧l.length≤65536:=by
 unfold Q5 at h
 split at h
 · cases h
 rename_i h0
 split at h
 · cases h
 rename_i ts h1
 split at h
 · cases h
 rename_i us h2
 split at h
 · cases h
 cases h
 have h3:=(Kg h1).1
 have h4:=(Ns (Nat.le_refl _) h2).1
 omega
theorem text_prg {l:Bs}{F:Fnd}(h:J6 l=some F):PrgOk (fun b=>W3 b≤14*l.length) F∧l.length≤65536:=by
 unfold J6 at h
 split at h
 · cases h
 rename_i ds hd
 obtain ⟨h1,h2⟩:=Ou hd
 refine ⟨Cv h (Nat.zero_le _) fun d hm hb g=> ?_,h2⟩
 have h3:=K7 d.body g (Ib hb)
 have h4:=E0 (f:=fun d:PDec=>Z0 d.body+1) hm
 have h5:Z0 d.body+1≤(ds.map fun d=>Z0 d.body+1).sum:=h4
 show W3 (Fnd.blk g d.body).2≤14*l.length
 omega
theorem K5 (f:Fnd)(w:Int):(f.fl w).stm=f.stm:=by unfold Fnd.fl;split<;>rfl
theorem J0 (f:Fnd)(s:ByteArray)(a b:Int):(f.wants s a b).1.stm=f.stm:=by
 unfold Fnd.wants
 split
 · exact K5 _ _
 dsimp only
 split
 · exact K5 _ _
 rfl
theorem Ag (f:Fnd)(k sl ot:Int)(nm wt:ByteArray)(lo:Bool):(f.own k nm wt sl ot lo).1.stm=f.stm:=by
 have h1:(f.own1 k nm sl lo).1.stm=f.stm:=by
  unfold Fnd.own1
  split
  · exact J0 _ _ _ _
  rfl
 unfold Fnd.own Fnd.own2
 split
 · show (((f.own1 k nm sl lo).1.loc1 nm).loc2).stm=_
   have h2:((f.own1 k nm sl lo).1.loc1 nm).stm=f.stm:=by
    unfold Fnd.loc1
    split
    · rw [K5,h1]
    exact h1
   unfold Fnd.loc2
   split
   · rw [K5,h2]
   exact h2
 split
 · exact (J0 _ _ _ _).trans h1
 split
 · exact (J0 _ _ _ _).trans h1
 exact h1
mutual
theorem M9 {c:Cn}{lo:Int}: ∀ {e:PEx} {d:Nat},e.fit→e.dep≤d→e.wl c lo→e.ask c lo d=true
 | .mk k n nm slot loc op args,d,⟨h1,h2,h3,h4,h5⟩,hd,⟨w1,w2,w3⟩=>by
  simp only [PEx.dep] at hd
  simp only [PEx.ask,Bool.and_eq_true,decide_eq_true_eq]
  refine ⟨⟨by omega,?_⟩,?_⟩
  · rw [h2]
    unfold V2 V1 inB
    have hk:k=1∨k=2∨k=3∨k=4∨k=5∨k=6:=by omega
    rcases hk with rfl|rfl|rfl|rfl|rfl|rfl
    · have:=h3 rfl
      rw [if_pos rfl,if_pos (show val n from ⟨by omega,by omega⟩)];rfl
    · obtain ⟨a,b⟩:=w1 rfl
      rw [if_neg (by decide),if_pos rfl,if_pos]
      · rfl
      rw [decide_eq_true_eq];refine ⟨a,?_⟩
      split
      · rename_i hl;rw [if_pos hl] at b;exact b
      rename_i hl;rw [if_neg hl] at b;exact b
    · have:=w2 rfl
      rw [if_neg (by decide),if_neg (by decide),if_pos rfl,if_pos (by rw [decide_eq_true_eq];exact this)];rfl
    · rfl
    · rfl
    have:=h4 rfl
    rw [if_neg (by decide),if_neg (by decide),if_neg (by decide),if_neg (by decide),if_pos rfl,if_pos (by omega)];rfl
  have:=Rk (c:=c) (lo:=lo) (d:=d - 1) h5 (by omega) w3
  rwa [show ((d - 1:Nat):Int)=(d:Int) - 1 by omega] at this
theorem Rk {c:Cn}{lo:Int}: ∀ {l:List PEx} {d:Nat},PEx.fits l→Yp l≤d→H9 c lo l→Jv c lo l d=true
 | [],_,_,_,_=>rfl
 |e::r,d,⟨h1,h2⟩,hd,⟨w1,w2⟩=>by
  simp only [Yp] at hd
  simp only [Jv,Bool.and_eq_true]
  exact ⟨M9 h1 (by omega) w1,Rk h2 (by omega) w2⟩
end
theorem slotB_of {c:Cn}{lo k slot other:Int}{loc:Bool}(hk:1≤k∧k≤15)(h:ownOk c lo k slot other loc)(hl:k=1→loc=true):Nf c lo k slot other loc=true:=by
 obtain ⟨h1,h2,h3,h4,h5,h6,h7,h8⟩:=h
 have cl: ∀ {s:Int},vaOk c lo s loc→V1 c lo s loc=true:=fun {s} h=>by
  unfold V1 inB vaOk at*
  rw [decide_eq_true_eq]
  refine ⟨h.1,?_⟩
  have:=h.2
  split
  · rename_i hl;rw [if_pos hl] at this;exact this
  rename_i hl;rw [if_neg hl] at this;exact this
 have ib: ∀ {n d:Int},0≤n∧n<d→inB n d=true:=fun h=>by unfold inB;exact decide_eq_true h
 have hk2:k=1∨k=2∨k=3∨k=4∨k=5∨k=6∨k=7∨k=8∨k=9∨k=10∨k=11∨k=12∨k=13∨k=14∨k=15:=by omega
 unfold Nf
 rcases hk2 with rfl|rfl|rfl|rfl|rfl|rfl|rfl|rfl|rfl|rfl|rfl|rfl|rfl|rfl|rfl
 · rw [if_pos rfl,hl rfl,←hl rfl,cl (h1 (.inl rfl)),hl rfl];rfl
 · exact cl (h1 (.inr rfl))
 · exact ib (h2 rfl)
 · rfl
 · rfl
 · exact ib (h3 (.inl rfl))
 · exact ib (h3 (.inr rfl))
 · exact Bool.and_eq_true_iff.2 ⟨ib (h4 (.inl rfl)),ib (h5 rfl)⟩
 · exact ib (h4 (.inr (.inl rfl)))
 · exact ib (h4 (.inr (.inr rfl)))
 · exact ib (h6 (.inl rfl))
 · exact Bool.and_eq_true_iff.2 ⟨ib (h6 (.inr rfl)),cl (h7 rfl)⟩
 · exact ib (h8 rfl)
 · rfl
 rfl
theorem partB_of {c:Cn}{lo k:Int}{e ix:PEx}{nb ne:Nat}(hm:Pv k nb ne=false)(he:k≤5∨k=11∨k=15→e.ask c lo 24=true)(hx:k=3→ix.ask c lo 24=true):Nd c lo k e ix nb ne=true:=by
 unfold Pv at hm
 unfold Nd
 simp only [Bool.or_eq_false_iff,Bool.and_eq_false_iff,bne_eq_false_iff_eq,decide_eq_false_iff_not] at hm
 simp only [Bool.and_eq_true,Bool.or_eq_true,decide_eq_true_eq,Bool.not_eq_true',decide_eq_false_iff_not,beq_iff_eq,bne_iff_ne,ne_eq]
 obtain ⟨h1,h2⟩:=hm
 refine ⟨⟨⟨?_,?_⟩,?_⟩,?_⟩
 · rcases h1 with (h1|h1)|h1
   · exact .inl (.inl h1)
   · exact .inl (.inr h1)
   exact .inr h1
 · rcases h2 with h2|h2
   · exact .inl h2
   exact .inr h2
 · by_cases hk:k=3
   · exact .inr (hx hk)
   exact .inl hk
 by_cases hk:k≤5∨k=11∨k=15
 · exact .inr (he hk)
 exact .inl (by omega)
mutual
theorem Gk {c:Cn}{lo:Int}: ∀ (s:PStm) (f:Fnd) (d:Nat),s.may d=true→(f.stmt s).1.flaw=0→0≤f.stm→(f.stmt s).2.wl c lo→(f.stmt s).2.ask c lo d f.stm=some (f.stmt s).1.stm∧0≤(f.stmt s).1.stm
 | .mk k ln cl nm wt e ix body els id slot other loc,f,d,hm,h,hz,hw=>by
  simp only [PStm.may] at hm
  split at hm;cases hm
  rename_i m1
  split at hm;cases hm
  split at hm;cases hm
  split at hm;cases hm
  rename_i m4
  rw [Bool.and_eq_true] at hm
  unfold Pw at m1
  simp only [Bool.or_eq_true,not_or,decide_eq_true_eq] at m1
  simp only [Fnd.stmt] at h hw⊢
  split at h
  · exact absurd h (Y6 (by decide))
  rename_i h5
  rw [if_neg h5] at hw⊢
  dsimp only at h hw⊢
  obtain ⟨g0,hg0⟩: ∃ g:Fnd,g= { f with stm:=f.stm+1 } :=⟨_,rfl⟩
  rw [←hg0] at h hw⊢
  obtain ⟨f1,hf1⟩: ∃ g,g=g0.expr ix:=⟨_,rfl⟩
  rw [←hf1] at h hw⊢
  obtain ⟨f2,hf2⟩: ∃ g,g=f1.1.expr e:=⟨_,rfl⟩
  rw [←hf2] at h hw⊢
  obtain ⟨f3,hf3⟩: ∃ g,g=f2.1.own k nm wt slot other loc:=⟨_,rfl⟩
  rw [←hf3] at h hw⊢
  obtain ⟨f4,hf4⟩: ∃ g,g=f3.1.blk body:=⟨_,rfl⟩
  rw [←hf4] at h hw⊢
  obtain ⟨g4,hg4⟩: ∃ g:Fnd,g= { f4.1 with names:=f3.1.names,locals:=f3.1.locals } :=⟨_,rfl⟩
  rw [←hg4] at h hw⊢
  obtain ⟨f5,hf5⟩: ∃ g,g=g4.blk els:=⟨_,rfl⟩
  rw [←hf5] at h hw⊢
  have q5:=U5 els g4 (by rw [←hf5];exact h)
  have q4:f4.1.flaw=0:=by rw [hg4] at q5;exact q5
  have q3:f3.1.flaw=0:=U5 body f3.1 (by rw [←hf4];exact q4)
  have q2:f2.1.flaw=0:=Dt (by rw [←hf3];exact q3)
  have p2:=(Qf (c:=c) (lo:=lo) e f1.1 (by rw [←hf2];exact q2)).1
  rw [←hf2] at p2
  have q1:f1.1.flaw=0:=by rw [←p2];exact q2
  have p1:=(Qf (c:=c) (lo:=lo) ix g0 (by rw [←hf1];exact q1)).1
  rw [←hf1] at p1
  have s3:f3.1.stm=f.stm+1:=by rw [hf3,Ag,p2,p1,hg0]
  obtain ⟨w1,w2,w3,w4,w5,w6,w7⟩:=hw
  have b4:=Ji (c:=c) (lo:=lo) body f3.1 (d+1) hm.1 (by rw [←hf4];exact q4) (by omega) (by rw [←hf4];exact w6)
  rw [←hf4,s3] at b4
  obtain ⟨b41,b42,b43⟩:=b4
  have s4:g4.stm=f4.1.stm:=by rw [hg4]
  have b5:=Ji (c:=c) (lo:=lo) els g4 (d+1) hm.2 (by rw [←hf5];exact h) (by omega) (by rw [←hf5];exact w7)
  rw [←hf5,s4] at b5
  obtain ⟨b51,b52,b53⟩:=b5
  refine ⟨?_,b53⟩
  simp only [PStm.ask]
  rw [if_neg (by omega),if_pos]
  · have e1:((d+1:Nat):Int)=(d:Int)+1:=by omega
    rw [e1] at b41 b51
    rw [b41]
    exact b51
  rw [Bool.and_eq_true]
  refine ⟨partB_of (by rw [b42,b52];simpa using m4) (fun hk=> ?_) (fun hk=> ?_),slotB_of w1 w5 (fun hk=>by subst hk;rw [hf3];rfl)⟩
  · obtain ⟨a,b,z⟩:=w2 hk;exact M9 (d:=24) a b z
  obtain ⟨a,b,z⟩:=w3 hk;exact M9 (d:=24) a b z
theorem Ji {c:Cn}{lo:Int}: ∀ (l:List PStm) (f:Fnd) (d:Nat),Yw l d=true→(f.blk l).1.flaw=0→0≤f.stm→Qy c lo (f.blk l).2→Z3 c lo (f.blk l).2 d f.stm=some (f.blk l).1.stm∧(f.blk l).2.length=l.length∧0≤(f.blk l).1.stm
 | [],f,d,_,_,hz,_=>⟨rfl,rfl,hz⟩
 |s::r,f,d,hm,h,hz,hw=>by
  simp only [Yw,Bool.and_eq_true] at hm
  simp only [Fnd.blk] at h hw⊢
  split at h
  · rename_i h5
    rw [if_pos h5] at hw⊢
    obtain ⟨w1,w2⟩:=hw
    have a:=Gk (c:=c) (lo:=lo) s f d hm.1 (U5 r _ h) hz w1
    have b:=Ji (c:=c) (lo:=lo) r (f.stmt s).1 d hm.2 h a.2 w2
    refine ⟨?_,by simp [b.2.1],b.2.2⟩
    simp only [Z3]
    rw [a.1]
    exact b.1
  rename_i h5;exact absurd h h5
end
theorem Mg {c:Cn}{t:PTh}{m k:Int}: ∀ {l:List PTh} {n:Int},W2 c l n=some m→(0≤t.loc∧t.loc≤32)→Z3 c t.loc t.body 1 m=some k→W2 c (l++ [t]) n=some k
 | [],n,h,ht,hk=>by
  cases h
  simp only [List.nil_append,W2]
  rw [if_neg (by omega),hk]
 |x::r,n,h,ht,hk=>by
  simp only [W2] at h
  simp only [List.cons_append,W2]
  split at h
  · cases h
  rename_i h1
  rw [if_neg h1]
  split at h
  · cases h
  rename_i j hj
  exact Mg h ht hk
theorem BInv.next {d f:Fnd}{b:List PStm}{i:Nat}(hb:Vh b)(h:BInv (fun _=>True) d f)(hf:(f.bodies i [b]).flaw=0):BInv (fun _=>True) d (f.bodies i [b]):=
 BInv.bodies (fun x hx=>by rw [List.mem_singleton.1 hx];exact ⟨hb,fun _=>trivial⟩) h hf
theorem Jw {f:Fnd}{i:Nat}{r:List (List PStm)}(h:(f.bodies i r).flaw=0):f.flaw=0:=by
 cases r with
 |nil=>exact h
 |cons x r=>
  unfold Fnd.bodies at h
  split at h
  · assumption
  exact h
theorem He {d:Fnd}: ∀ {bs:List (List PStm)} {i:Nat} {f:Fnd},(∀ b∈bs,Yw b 1=true)→BInv (fun _=>True) d f→f.ths.length=i+bs.length→W2 d.cn (f.ths.take i) 0=some f.stm→(f.bodies i bs).flaw=0→W2 d.cn (f.bodies i bs).ths 0=some (f.bodies i bs).stm
 | [],i,f,_,_,hl,ha,_=>by
  rw [List.length_nil,Nat.add_zero] at hl
  rw [←hl,List.take_length] at ha
  exact ha
 |b::r,i,f,hb,h,hl,ha,hf=>by
  have hfl:=Jw hf
  have e0:f.bodies i (b::r)=(f.bodies i [b]).bodies (i+1) r:=by
   conv=>lhs;unfold Fnd.bodies
   conv=>rhs;arg 1;unfold Fnd.bodies
   rw [if_pos hfl,if_pos hfl]
   dsimp only
   rw [show ∀ (g:Fnd) (j:Nat),g.bodies j []=g from fun _ _=>rfl]
  rw [e0] at hf⊢
  have hf2:=Jw hf
  have hmb:=hb b (List.mem_cons_self ..)
  have hn:=BInv.next (W7 hmb) h hf2
  have e1:f.bodies i [b]= { (Fnd.blk { f with most:=0 } b).1 with names:=f.names,locals:=f.locals,ths:=(Fnd.blk { f with most:=0 } b).1.ths.set i ⟨((Fnd.blk { f with most:=0 } b).1.ths.getD i ⟨em,0, []⟩).nm,(Fnd.blk { f with most:=0 } b).1.most,(Fnd.blk { f with most:=0 } b).2⟩ } :=by
   unfold Fnd.bodies
   rw [if_pos hfl]
   rfl
  obtain ⟨q,hq⟩: ∃ q,q=Fnd.blk { f with most:=0 } b:=⟨_,rfl⟩
  rw [←hq] at e1
  have to:=Fnd.To.blk b { f with most:=0 }
  rw [←hq] at to
  obtain ⟨t1,t2,t3,t4,t5,t6,_⟩:=to.e
  dsimp only at t6
  have flq:q.1.flaw=0:=by rw [e1] at hf2;exact hf2
  obtain ⟨j1,j2,j3,j4,j5,j6,j7⟩:=h.e
  have cx:Ctx d.cn { f with most:=0 } :=⟨by dsimp only;rw [j7,h.l.1];exact h.n,by dsimp only;rw [h.l.1];decide,h.l.2⟩
  have w:=Jx (c:=d.cn) b { f with most:=0 } (W7 hmb) (by rw [←hq];exact flq) cx
  rw [←hq] at w
  obtain ⟨w1,w2,w3⟩:=w
  have a:=Ji (c:=d.cn) (lo:=q.1.most) b { f with most:=0 } 1 hmb (by rw [←hq];exact flq) h.l.2 (by rw [←hq];exact w3)
  rw [←hq] at a
  have hi:i<q.1.ths.length:=by rw [t6,hl];simp
  refine He (fun x hx=>hb x (List.mem_cons_of_mem _ hx)) hn ?_ ?_ hf
  · rw [e1];dsimp only;rw [List.length_set,t6,hl];simp;omega
  rw [e1]
  dsimp only
  rw [List.take_succ_eq_append_getElem (by rw [List.length_set];exact hi),List.take_set_of_le (Nat.le_refl i),List.getElem_set_self,t6]
  exact Mg ha ⟨w2,w1.l.2.2⟩ a.1
theorem I3 (l:List Int)(x:Int):Y9 (l++ [x])=Y9 l+x:=by
 induction l with
 |nil=>simp [Y9]
 |cons y r ih=>simp only [Y9,List.cons_append,List.foldr_cons] at ih⊢;omega
structure DNum (f:Fnd):Prop where
 n:f.vars.length+f.arrs.length+f.mu+f.co+f.chs.length+f.ths.length=f.names.length
 s:Y9 f.arrs=f.cells∧f.cells≤256
 k:f.nv.length≤f.names.length∧f.na.length≤f.names.length∧f.nm.length≤f.names.length∧f.nc.length≤f.names.length∧f.nh.length≤f.names.length
theorem DNum.z:DNum Fnd.z:=⟨rfl,⟨rfl,by decide⟩,by decide⟩
theorem DNum.decl {f:Fnd}{d:PDec}(h:DNum f)(hf:(f.decl d).flaw=0)(hk:1≤d.k∧d.k≤6):DNum (f.decl d):=by
 have key: ∃ g s,f.decl d= { g with names:=f.names++ [⟨d.nm,d.k,s⟩] } ∧g=(f.decl1 d).1∧(f.decl1 d).2.2=true:=by
  unfold Fnd.decl at hf⊢
  split at hf
  · exact absurd hf (Y6 (by decide))
  rename_i c1
  rw [if_neg c1]
  split at hf
  · rename_i c2;rw [J1 c2] at hf;exact absurd hf (Y6 (by decide))
  rename_i c2
  rw [if_neg c2]
  have en:(f.decl1 d).1.names=f.names:=by
   unfold Fnd.decl1
   (repeat' split)<;>first|rfl|exact (f.fl_keep _).2.2.1
  split at hf
  · exact absurd hf (Y6 (by decide))
  rename_i c3
  rw [if_neg c3]
  exact ⟨_,_,by rw [en],rfl,by revert c2;cases (f.decl1 d).2.2<;>simp⟩
 obtain ⟨g,s,e1,e4,e6⟩:=key
 rw [e1]
 obtain ⟨i1,⟨i2,i3⟩,i4,i5,i6,i7,i8⟩:=h
 have hc:d.k=1∨d.k=2∨d.k=3∨d.k=4∨d.k=5∨d.k=6:=by omega
 unfold Fnd.decl1 at e4 e6
 rcases hc with hc|hc|hc|hc|hc|hc
 focus
  rw [if_pos hc] at e4 e6
  split at e6
  · cases e6
  rename_i c2
  rw [if_neg c2] at e4
  subst e4
 rotate_left
 · rw [if_neg (by omega),if_pos hc] at e4 e6
   split at e6
   · cases e6
   rename_i c2
   rw [if_neg c2] at e4
   subst e4
   exact ⟨by simp;omega,⟨by dsimp only;rw [I3,i2],by dsimp only;omega⟩,by simp;omega⟩
 focus
  rw [if_neg (by omega),if_neg (by omega),if_pos hc] at e4 e6
  subst e4
 rotate_left
 focus
  rw [if_neg (by omega),if_neg (by omega),if_neg (by omega),if_pos hc] at e4 e6
  subst e4
 rotate_left
 focus
  rw [if_neg (by omega),if_neg (by omega),if_neg (by omega),if_neg (by omega),if_pos hc] at e4 e6
  split at e6
  · cases e6
  rename_i c2
  rw [if_neg c2] at e4
  subst e4
 rotate_left
 focus
  rw [if_neg (by omega),if_neg (by omega),if_neg (by omega),if_neg (by omega),if_neg (by omega),if_pos hc] at e4 e6
  subst e4
 all_goals
  exact ⟨by simp;omega,⟨i2,i3⟩,by simp;omega⟩
theorem DNum.decls: ∀ {ds:List PDec} {f:Fnd},DNum f→(∀ d∈ds,1≤d.k∧d.k≤6)→(f.decls ds).flaw=0→DNum (f.decls ds)
 | [],_,h,_,_=>h
 |d::r,f,h,hd,hf=>by
  unfold Fnd.decls at hf⊢
  split at hf
  · rename_i h0
    rw [if_pos h0]
    have h1:(f.decl d).flaw=0:=by
     cases r with
     |nil=>exact hf
     |cons x r=>
      unfold Fnd.decls at hf
      split at hf
      · assumption
      exact hf
    exact DNum.decls (h.decl h1 (hd d (List.mem_cons_self ..))) (fun x hx=>hd x (List.mem_cons_of_mem _ hx)) hf
  rename_i h0;exact absurd hf h0
theorem Mu: ∀ {ds:List PDec} {f:Fnd},f.flaw=0→(f.decls ds).flaw=0→(f.decls ds).ths.length=f.ths.length+(ds.filter fun d=>d.k==6).length
 | [],_,_,_=>rfl
 |d::r,f,h0,hf=>by
  unfold Fnd.decls at hf⊢
  rw [if_pos h0] at hf⊢
  have h1:(f.decl d).flaw=0:=by
   cases r with
   |nil=>exact hf
   |cons x r=>
    unfold Fnd.decls at hf
    split at hf
    · assumption
    exact hf
  rw [Mu h1 hf,K6 h0 h1,List.filter_cons]
  by_cases hk:d.k=6
  · rw [if_pos hk,if_pos (by simpa using hk),List.length_cons];omega
  rw [if_neg hk,if_neg (by simpa using hk)];omega
theorem Hk: ∀ {bs:List (List PStm)} {i:Nat} {f:Fnd},(f.bodies i bs).nv=f.nv∧(f.bodies i bs).na=f.na∧(f.bodies i bs).nm=f.nm∧(f.bodies i bs).nc=f.nc∧(f.bodies i bs).nh=f.nh
 | [],_,_=>⟨rfl,rfl,rfl,rfl,rfl⟩
 |b::r,i,f=>by
  unfold Fnd.bodies
  split
  · dsimp only
    have to:=(Fnd.To.blk b { f with most:=0 }).e
    obtain ⟨_,_,_,_,_,_,_,t1,t2,t3,t4,t5,_⟩:=to
    obtain ⟨a1,a2,a3,a4,a5⟩:=Hk (bs:=r) (i:=i+1) (f:= { (Fnd.block { f with most:=0 } b).1 with ths:=(Fnd.block { f with most:=0 } b).1.ths.set i ⟨((Fnd.block { f with most:=0 } b).1.ths.getD i ⟨em,0, []⟩).nm,(Fnd.block { f with most:=0 } b).1.most,(Fnd.block { f with most:=0 } b).2⟩ })
    exact ⟨a1.trans t1,a2.trans t2,a3.trans t3,a4.trans t4,a5.trans t5⟩
  exact ⟨rfl,rfl,rfl,rfl,rfl⟩
theorem bad_mays {d:PDec}(h:d.bad=false):Yw d.body 1=true:=by
 unfold PDec.bad Px at h
 simp only [Bool.or_eq_false_iff,decide_eq_false_iff_not,Bool.not_eq_false'] at h
 exact h.2
structure FndOk (F:Fnd):Prop where
 m:Bu F=true
 k:F.nv.length≤64∧F.na.length≤64∧F.nm.length≤64∧F.nc.length≤64∧F.nh.length≤64
theorem find_may {ds:List PDec}{F:Fnd}(h:T2 ds=some F):FndOk F:=by
 have hp:=Cv (P:=fun _=>True) h trivial (fun _ _ _ _=>trivial)
 unfold T2 at h
 split at h
 · cases h
 rename_i hbad
 have hok: ∀ d∈ds,d.bad=false:=fun d hd=>by
  cases hb:d.bad with
  |false=>rfl
  |true=>exact absurd (List.any_eq_true.2 ⟨d,hd,hb⟩) hbad
 dsimp only at h
 obtain ⟨f,hf⟩: ∃ f,f=Fnd.decls .z ds:=⟨_,rfl⟩
 rw [←hf] at h
 obtain ⟨f1,hf1⟩: ∃ f1,f1=(if f.flaw=0∧(f.at Qp=0∨((f.names.map (·.k)).getD (f.at Qp - 1) 0)≠6) then f.fl 133 else f):=⟨_,rfl⟩
 rw [←hf1] at h
 obtain ⟨bs,hbs⟩: ∃ b,b=(ds.filter fun d=>d.k==6).map (·.body):=⟨_,rfl⟩
 rw [←hbs] at h
 by_cases hfl:(f1.bodies 0 bs).flaw≠0
 · rw [if_pos hfl] at h;cases h
 rw [if_neg hfl] at h
 cases h
 have hfl2:=Decidable.not_not.1 hfl
 have z1:f1.flaw=0:=Jw hfl2
 have hm:f1=f∧f.flaw=0:=by
  split at hf1
  · rw [hf1] at z1;exact absurd z1 (Y6 (by decide))
  rw [hf1] at z1
  exact ⟨hf1,z1⟩
 obtain ⟨e1,z2⟩:=hm
 have z3:(Fnd.decls .z ds).flaw=0:=by rw [←hf];exact z2
 have D:DInv f:=by
  rw [hf]
  exact DInv.decls .z (fun d hd=>⟨(Fi (hok d hd)).1,bad_nm (hok d hd)⟩) z3
 have E:DNum f:=by
  rw [hf]
  exact DNum.decls .z (fun d hd=>(Fi (hok d hd)).1) z3
 have hth:f.ths.length=bs.length:=by
  have:=Mu (f:= .z) rfl z3
  rw [hf,this,hbs,List.length_map];show 0+_=_;omega
 rw [e1] at hfl2 hp⊢
 have hraw: ∀ b∈bs,Yw b 1=true:=fun b hb=>by
  rw [hbs] at hb
  obtain ⟨d,hd,rfl⟩:=List.mem_map.1 hb
  exact bad_mays (hok d (List.mem_filter.1 hd).1)
 have B0:BInv (fun _=>True) f f:=⟨⟨rfl,rfl,rfl,rfl,rfl,rfl,rfl⟩,D.n,⟨D.l.1,by rw [D.l.2];decide⟩,fun t ht=>by
  obtain ⟨a,b,c⟩:=D.t t ht
  exact ⟨a,by omega,by rw [c];trivial,trivial⟩⟩
 have B:=BInv.bodies (i:=0) (fun b hb=>⟨W7 (hraw b hb),fun _=>trivial⟩) B0 hfl2
 have A:=He (i:=0) hraw B0 (by omega) (by show some (0:Int)=some f.stm;rw [D.l.2]) hfl2
 have K:=Hk (bs:=bs) (i:=0) (f:=f)
 obtain ⟨g,hg⟩: ∃ g,g=f.bodies 0 bs:=⟨_,rfl⟩
 rw [←hg] at B A K hp⊢
 obtain ⟨b1,b2,b3,b4,b5,b6,b7⟩:=B.e
 obtain ⟨mn,hmn⟩: ∃ mn,mn=(g.names.map (·.s)).getD (f.at Qp - 1) 0:=⟨_,rfl⟩
 rw [←hmn] at hp⊢
 have cn:Fnd.cn { g with main:=mn } =f.cn:=by unfold Fnd.cn;dsimp only;rw [b1,b2,b3,b4,b5,b6]
 obtain ⟨k1,k2,k3,k4,k5,k6,k7⟩:=D.k
 have en:=E.n
 refine ⟨?_,?_⟩
 · unfold Bu
   rw [Bool.and_eq_true,Bool.and_eq_true]
   refine ⟨⟨?_,?_⟩,?_⟩
   · unfold Fv
     rw [decide_eq_true_eq]
     dsimp only
     rw [b1,b2,b3,b4,b5,b6]
     refine ⟨by omega,by omega,by omega,fun v hv=>D.v v hv,D.a,D.c,by rw [E.s.1];exact E.s.2⟩
   · unfold inB;rw [decide_eq_true_eq];exact hp.m
   rw [cn]
   rw [beq_iff_eq]
   exact A
 obtain ⟨a1,a2,a3,a4,a5⟩:=K
 dsimp only
 rw [a1,a2,a3,a4,a5]
 have:=E.k
 omega
theorem R0 {l:Bs}{F:Fnd}(h:J6 l=some F):FndOk F:=by
 unfold J6 at h
 split at h
 · cases h
 exact find_may h
mutual
theorem Ed {B:Nat}: ∀ {s:Stm},s.er.wt≤B→s.lm B∧s.sz≤B
 | .mk k ln cl nm wt e ix body els ba bc ea ec id sl ot lo,h=>by
  simp only [Stm.er,PStm.wt,Am] at h
  have h1:=Kl (B:=B) (l:=body) (by omega)
  have h2:=Kl (B:=B) (l:=els) (by omega)
  have h3:=Kr body
  have h4:=Kr els
  exact ⟨⟨by omega,by omega,h1,h2⟩,by simp only [Stm.sz];omega⟩
theorem Kl {B:Nat}: ∀ {l:List Stm},W3 (Zj l)≤B→Wa B l
 | [],_=>trivial
 |s::r,h=>by
  simp only [Zj,W3] at h
  exact ⟨(Ed (by omega)).1,Kl (by omega)⟩
theorem Kr: ∀ (l:List Stm),Zf l≤W3 (Zj l)
 | []=>Nat.zero_le _
 |s::r=>by
  simp only [Zj,W3,Zf]
  have h1:=(Ed (s:=s) (Nat.le_refl _)).2
  have h2:=Kr r
  omega
end
theorem FC.cp {g:FC}{l:Bs}(h:J6 l=some g.er):CpOk (14*65536) g:=by
 obtain ⟨p,hl⟩:=text_prg h
 have m:=R0 h
 obtain ⟨a1,a2,a3,a4,a5⟩:=m.k
 obtain ⟨b1,b2,b3,b4,_,_⟩:=p.k
 have e:g.er.ths.length=g.ths.l.length:=by show (g.ths.l.map Th.er).length=_;rw [List.length_map]
 rw [e] at b4
 have b1:g.vars.l.length≤64:=b1
 have b2:g.arrs.l.length≤64:=b2
 have b3:g.chs.l.length≤64:=b3
 have a1:g.nv.l.length≤64:=a1
 have a2:g.na.l.length≤64:=a2
 have a3:g.nm.l.length≤64:=a3
 have a4:g.nc.l.length≤64:=a4
 have a5:g.nh.l.length≤64:=a5
 refine ⟨by omega,by decide,fun x hx=> ?_⟩
 have:=(p.t _ (List.mem_map_of_mem (f:=Th.er) hx)).p
 have e2:(Th.er x).body=Zj x.body:=rfl
 rw [e2] at this
 have h2:=Kr x.body
 exact ⟨by omega,Kl (by omega)⟩
structure ThOk (F:Fnd) (N nth:Nat) (t:PTr):Prop where
 d:0≤t.decl∧t.decl<F.ths.length
 s:1≤t.st∧t.st≤4
 l:t.loc.length≤32
 v: ∀ x∈t.loc,val x
 g:Wm F.cn t.loc.length t.left
 n:t.left.length≤600*(N+1)
 e:t.left= []↔t.st=4
 w:t.st=2∨t.st=3→t.next.kd=8
 p:t.sp.length≤8∧ ∀ i∈t.sp,0≤i∧i<nth
structure SS.ok (F:Fnd) (N:Nat) (s:SS):Prop where
 c:(s.cells.length:Int)=F.vars.length+Y9 F.arrs
 v: ∀ x∈s.cells,val x
 y:s.sy.ok N
 z:(s.sy.owners.length:Int)=F.mu∧(s.sy.conds.length:Int)=F.co∧s.sy.chans.map Ch.room=F.chs
 t:1≤s.ths.length∧s.ths.length≤8
 h: ∀ t∈s.ths,ThOk F N s.ths.length t
 w: ∀ l∈s.sy.conds,∀ t∈l,t.toNat<s.ths.length∧(s.th t.toNat).st=2
theorem Hi {s:SS}{n:Nat}(h:n<s.ths.length):s.th n=s.ths[n]:=by unfold SS.th;simp [List.getD,h]
theorem Yn {α:Type}{l:List α}{n:Nat}{d:α}(h:n<l.length):l.getD n d=l[n]:=by simp [List.getD,h]
theorem Rl {t:TC}(h:t.todo≠ []): ∃ y,t.todo.getLast? =some y∧y∈t.todo∧t.todo=t.todo.dropLast++ [y]∧t.er.left=y.s.er::(t.todo.dropLast.map fun y=>y.s.er).reverse∧t.er.next=y.s.er:=by
 have e:t.todo=t.todo.dropLast++ [t.todo.getLast h]:=(List.dropLast_concat_getLast h).symm
 have e2:t.er.left=(t.todo.getLast h).s.er::(t.todo.dropLast.map fun y=>y.s.er).reverse:=by
  show (t.todo.map fun y=>y.s.er).reverse=_
  conv=>lhs;rw [e]
  simp
 exact ⟨t.todo.getLast h,List.getLast?_eq_some_getLast h,List.getLast_mem h,e,e2,by unfold PTr.next;rw [e2];rfl⟩
theorem Qx {t:TC}:t.er.left= []↔t.todo= []:=by
 show (t.todo.map fun y=>y.s.er).reverse= []↔_
 simp
theorem Vc (t:TC):t.er.left.length=t.todo.length:=by
 show ((t.todo.map fun y=>y.s.er).reverse).length=_
 simp
theorem Z1 {σ:StC}{n:Nat}(h:n<σ.ths.length):σ.er.th n=(σ.ths[n]).er:=by
 have h2:n<σ.er.ths.length:=by show n<(σ.ths.map TC.er).length;simpa using h
 rw [Hi h2];exact List.getElem_map TC.er
theorem StC.nth (σ:StC):σ.er.ths.length=σ.ths.length:=by show (σ.ths.map TC.er).length=_;simp
theorem SS.ok.at {F:Fnd}{N:Nat}{σ:StC}(h:SS.ok F N σ.er){n:Nat}(hn:n<σ.ths.length):ThOk F N σ.ths.length (σ.ths[n]).er:=by
 have:=h.h (σ.ths[n]).er (List.mem_map_of_mem (f:=TC.er) (List.getElem_mem hn))
 rwa [StC.nth] at this
section
variable {q:List HP}{ths:List TC}{i:Nat}{x:TC}
theorem Sees.trT:Sees (trH x::q) x.ta (x.todo.map PS.v):=Sees.le (Sees.there (Sees.lsH _)) (Zs (trL x) q)
theorem Sees.trL:Sees (trH x::q) x.la (x.loc.map I64):=Sees.le (Sees.lsH _) (Zs (Go.Proofs.YtflkjkhijcdbaaaGreat.trL x) q)
theorem Sees.trS:Sees (trH x::q) x.sa (x.sp.map I64):=Sees.le (Sees.there (Sees.there (Sees.lsH _))) (Zs (Go.Proofs.YtflkjkhijcdbaaaGreat.trL x) q)
theorem Sees.todo (hi:i<ths.length):Sees (stars (ths.map trH)::q) ths[i].ta (ths[i].todo.map PS.v):=Sees.star hi (fun q=>Sees.trT) q
theorem Tu (hi:i<ths.length):Sees (stars (ths.map trH)::q) ths[i].la (ths[i].loc.map I64):=Sees.star hi (fun q=>Sees.trL) q
theorem Dk (hi:i<ths.length):Sees (stars (ths.map trH)::q) ths[i].sa (ths[i].sp.map I64):=Sees.star hi (fun q=>Sees.trS) q
end
abbrev inV (c:Cn)(lo s:Int)(l:Bool):Prop:=0≤s∧s<if l=true then lo else c.v
theorem Yf {c:Cn}{lo k slot other:Int}{loc:Bool}(h:Nf c lo k slot other loc=true):(1≤k∧k≤15)∧(k=1∨k=2→inV c lo slot loc)∧(k=3→0≤slot∧slot<c.a)∧(k=6∨k=7→0≤slot∧slot<c.mu)∧(k=8∨k=9∨k=10→0≤slot∧slot<c.co)∧(k=8→0≤other∧other<c.mu)∧(k=11∨k=12→0≤slot∧slot<c.ch)∧(k=12→inV c lo other loc)∧(k=13→0≤slot∧slot<c.th):=by
 unfold Nf V1 inB at h
 have hk:k=1∨k=2∨k=3∨k=4∨k=5∨k=6∨k=7∨k=8∨k=9∨k=10∨k=11∨k=12∨k=13∨k=14∨k=15:=by
  (repeat' split at h)<;>first|omega|(simp only [decide_eq_true_eq] at h;omega)
 rcases hk with rfl|rfl|rfl|rfl|rfl|rfl|rfl|rfl|rfl|rfl|rfl|rfl|rfl|rfl|rfl<;>
  (simp only [Int.reduceEq,if_true,if_false,or_self,or_true,true_or,or_false,false_or,Bool.and_eq_true,decide_eq_true_eq,↓reduceIte] at h;refine ⟨by omega,fun e=> ?_,fun e=> ?_,fun e=> ?_,fun e=> ?_,fun e=> ?_,fun e=> ?_,fun e=> ?_,fun e=> ?_⟩<;>first|omega|exact h|exact h.1|exact h.2)
theorem Wz {c:Cn}{lo k:Int}{e ix:PEx}{nb ne:Nat}(h:Nd c lo k e ix nb ne=true):((1≤k∧k≤5)∨k=11∨k=15→e.ask c lo 24=true)∧(k=3→ix.ask c lo 24=true):=by
 unfold Nd at h
 simp only [Bool.and_eq_true,Bool.or_eq_true,Bool.not_eq_true',decide_eq_false_iff_not,bne_iff_ne] at h
 obtain ⟨⟨_,h1⟩,h2⟩:=h
 exact ⟨fun k=>h2.resolve_left (fun z=>z k),fun k=>h1.resolve_left (fun z=>z k)⟩
theorem E5 {l:List Ch}{i:Nat}(h:i<l.length):(l.map Ch.room).getD i 0=(l.getD i ch0).room:=by simp [List.getD,h]
section
variable {G:World}{q:List HP}{a:Option Addr}{c:Nat}{fv:Value}
theorem any_take {l:List Int}{u:Int→Bool}{s:Nat}(h:s<l.length):(l.take (s+1)).any u=((l.take s).any u||u l[s]):=by rw [List.take_succ_eq_append_getElem h,List.any_append];simp
theorem any_at {l:List Int}{u:Int→Bool}{s:Nat}(h:s<l.length)(k:u l[s]=true):l.any u=true:=List.any_eq_true.2 ⟨_,List.getElem_mem h,k⟩
set_option maxHeartbeats 1000000 in
theorem Pg {l:List Int}{u:Int→Bool}(hs:Sees q a (l.map I64))(hn:l.length≤9223372036854775807)(hp:Rdr prog G fv I64 (fun x=> .bool (u x)) q l):CallF prog G 164 [.slice a l.length c,fv] (q) (Ret fun v q'=> ∃ k:Int,v= .int .i64 k∧decide (0≤k)=l.any u∧q'=q):=by
 refine CallF.of func164 ntmps164 rfl (fun F cs=> ?_)
 have hlen:(l.map I64).length=l.length:=by simp
 refine xx 12 ?_;refine X.at (X.loop (fun (s:Nat×Option Addr)=>s.1≤l.length∧s.2=a∧(l.take s.1).any u=false) (fun s=> [(0,.slice s.2 l.length c),(1,fv),(7,.int .i64 (l.length:Int)),(8,.int .i64 (s.1:Int))]) (fun s=>q++F) (fun s=>l.length - s.1) (fun s hi_ ih=> ?_) (0,a) ⟨by dsimp only;omega,rfl,rfl⟩) Zu leA
 try dsimp only at hi_ ih⊢
 obtain ⟨hi1,rfl,hi2⟩:=hi_
 obtain ⟨s,a⟩:=s;dsimp only at*
 refine xx 5 ?_;refine X.part 9 rfl (fun h0=> ?_) (fun h0=> ?_)
 · replace h0:=sp h0
   have hi0:s<l.length:=by omega
   refine Ys hs (by rw [hlen];omega) (fun b1 o1 e_=> ?_);subst e_
   refine xj 15 ?_;refine XO.cRV (hp _ leA _ (List.getElem_mem hi0)) ?_;refine ox 1 ?_;refine X.part 16 rfl (fun h1=> ?_) (fun h1=> ?_)
   · replace h1:=sp h1
     refine xx 6 ?_;refine Zq (q) func164 (Zp results164 rfl) ⟨_,rfl,_,rfl,by rw [any_at hi0 h1];exact decide_eq_true (by omega),rfl⟩
   replace h1:=sp h1
   refine xx 7 ?_;refine X.at (ih (s+1,some ⟨b1,o1,none⟩) ⟨by dsimp only;omega,rfl,by dsimp only;rw [any_take hi0,hi2,h1];rfl⟩ (by dsimp only;omega)) Zu leA
 replace h0:=sp h0
 refine xx 6 ?_
 rw [List.take_of_length_le (show l.length≤s by omega)] at hi2
 refine Zq (q) func164 (Zp results164 rfl) ⟨_,rfl,_,rfl,by rw [hi2];rfl,rfl⟩
theorem O2 {l:List Int}{u:Int→Bool}(hs:Sees q a (l.map I64))(hn:l.length≤9223372036854775807)(hp:Rdr prog G fv I64 (fun x=> .bool (u x)) q l):CallF prog G 126 [.slice a l.length c,fv] (q) (Ret fun v q'=>v= .bool (l.any u)∧q'=q):=by
 refine CallF.of func126 ntmps126 rfl (fun F cs=> ?_)
 refine xo 8 ?_;refine Zb call164 (Le.refl _) (Pg (hs.le leA) hn (hp.le leA)) ?_;rintro _ _ ⟨k,rfl,hk,rfl⟩
 refine ox 3 ?_;refine Zq (q) func126 (Zp results126 rfl) ⟨_,rfl,congrArg Value.bool hk,rfl⟩
end
section
variable {G:World}{q:List HP}{p pp n N:Nat}{g:FC}{σ:StC}
structure StSee (q:List HP) (p:Nat) (σ:StC):Prop where
 t:Cl q ⟨p,0+3,none⟩ (.slice σ.ha σ.ths.length σ.hc)
 r:Sees q σ.ha (σ.ths.flatMap trC)
theorem StSee.le {q q':List HP}(h:StSee q' p σ)(l:Le q q'):StSee q p σ:=⟨h.t.le l,h.r.le l⟩
set_option maxHeartbeats 1000000 in
theorem Ok {pb:Nat}(hb:Cl q ⟨pb,0,none⟩ (.pointer (some ⟨p,0,none⟩)))(hS:StSee q p σ)(hn:n<σ.ths.length)(hl:σ.ths.length≤8):CallF prog G 127 [.int .i64 (n:Int),.pointer (some ⟨pb,0,none⟩)] (q) (Ret fun v q'=>v= .bool (decide ((σ.ths.getD n zTC).st≠4))∧q'=q):=by
 refine CallF.of func127 ntmps127 rfl (fun F cs=> ?_)
 have hlen:=Zx Zd σ.ths;have hr:=hS.r;refine Ys (hr.le leA) (by rw [hlen];omega) (fun b1 o1 e_=> ?_)
 have ht:=hS.t;rw [e_] at hr ht;rw [Yn hn]
 refine xo 6 ?_;refine ld ?_ (hc:=(hb.le leA))
 refine oo 2 ?_;refine ld ?_ (hc:=(ht.le leA))
 refine oo 3 ?_;refine ld ?_ (hc:=(Cl.row (n:=n) hr leA Zd hn rfl 1 _ rfl))
 refine ox 3 ?_;refine Zq (q) func127 (Zp results127 rfl) ⟨_,rfl,congrArg Value.bool (by rw [Bool.eq_iff_iff];simp),rfl⟩
set_option maxHeartbeats 8000000 in
theorem ready_ok {y:PS}(hok:SS.ok g.er N σ.er)(hN:N≤900)(hn:n<σ.ths.length)(hTd:Kn q fun M=>TodoAt M σ.ths)(hy:y.s.er=(σ.er.th n).next)(hyA:Kn q fun M=>y.At M)(hg:y.s.er.good g.er.cn (σ.er.th n).loc.length)(hst:(σ.er.th n).st=1)(hk0: ¬σ.er.out.kind=4):CallF prog G 93 [.pointer (some ⟨p,0,none⟩),.int .i64 (n:Int),.pointer (some ⟨y.b,y.o,none⟩)] (stP p pp σ::(Zr σ++q)) (Ret fun v q'=>v= .bool (σ.er.can g.er.pr n)∧q'=stP p pp σ::(Zr σ++q)):=by
 refine CallF.of func93 ntmps93 rfl (fun F cs=> ?_)
 have hCs:=Kn.stC hyA;have hlen:=Zx Zd σ.ths;have h8:σ.ths.length≤8:=by have:=hok.t.2;rwa [StC.nth] at this
 obtain ⟨R,hR⟩: ∃ R,R=σ.er.can g.er.pr n:=⟨_,rfl⟩;rw [←hR];unfold SS.can at hR;dsimp only at hR;rw [←hy] at hR
 obtain ⟨yb,yo,ys⟩:=y;obtain ⟨kk,ln,cl,nm,wt,⟨ek,en,enm,esl,elo,eop,el,ea,ec⟩,⟨xk,xn,xnm,xsl,xlo,xop,xl,xa,xc⟩,bd,es2,ba,bc,ea2,ec2,id,sl,ot,lo_⟩:=ys
 dsimp only at hCs hR hg⊢;simp only [Stm.er] at hR;obtain ⟨hg1,hg2,_⟩:=hg;obtain ⟨hs1,hs2,hs3,hs6,hs8,hs8o,hs11,hs12,hs13⟩:=Yf hg2;obtain ⟨hz1,hz2,hz3⟩:=hok.z;have hz3l:(σ.er.sy.chans.length:Int)=g.er.cn.ch:=by have:=congrArg List.length hz3;rw [List.length_map] at this;show _=((g.chs.l.length:Nat):Int);rw [this];rfl
 rw [if_neg (by intro k;rcases k with k|k|k;exact hk0 k;omega;omega),if_neg (by omega)] at hR
 change X _ _ _ _ _ _ _ _ (pto p (.cells (Yc pp σ).toArray 98 (0,0))::lsH I64 2 σ.ca σ.cc σ.cells::yH σ.sp σ.sy::rsH trC 5 116 σ.ha σ.hc σ.ths::stars (σ.ths.map trH)::(q++F))
 have hys:σ.sy.ok N:=hok.y;rw [show σ.er.sy=σ.sy from rfl] at hR hz1 hz2 hz3 hz3l;replace hz1:(σ.sy.owners.length:Int)=g.er.cn.mu:=hz1;replace hz2:(σ.sy.conds.length:Int)=g.er.cn.co:=hz2
 refine xo 2 ?_;refine Wu fun n1=> ?_
 refine oo 8 ?_;refine ld ?_ (hc:=((hCs.le leA) 0 _ rfl))
 refine ox 7 ?_;refine X.part 19 rfl (fun g1=> ?_) (fun g1=> ?_)
 · replace g1:=sp g1
   rw [if_pos (show kk=6 from g1)] at hR
   refine xx 2 ?_;refine drw ?_;refine ldD 0 ?_;refine dl [1,2] 3 ?_;refine dd [4,5,6] ?_;refine ldD 7 ?_ (hc:=((hCs.le leA) 22 _ rfl))
   refine Ud 8 call56 (Id (m:=sl) hys (by omega)) ?_
   rintro _ _ ⟨rfl,rfl⟩ _ e_;simp only [ca,na] at e_;subst e_
   refine ⟨(hlA (h:=by repeat first|exact trivial|refine ⟨clA,?_⟩|refine ⟨(hCs.le leA) 0 _ rfl,?_⟩|refine ⟨(hCs.le leA) 21 _ rfl,?_⟩|refine ⟨(hCs.le leA) 22 _ rfl,?_⟩|refine ⟨(hCs.le leA) 23 _ rfl,?_⟩)),?_⟩
   refine dd [9,10,11,12,13] ?_;refine XD.nil ?_;refine xo 5 ?_;refine Zh [35,7,6,1] ?_
   apply Zy 4 39 35 rfl
   · intro g12 M12;have c12:=sp g12
     refine oo 4 ?_;exact Zz M12 ⟨orF g12,Zv⟩
   · intro g12 M12;have c12:=sp g12
     refine oo 4 ?_;exact Zz M12 ⟨orT g12,Zv⟩
   refine ox 2 ?_;refine Zq (stP p pp σ::(Zr σ++q)) func93 (Zp results93 rfl) ⟨_,rfl,congrArg Value.bool (by rw [hR];unfold Hg;rw [if_pos ⟨(hs6 (.inl g1)).1,by have:=(hs6 (.inl g1)).2;omega⟩];dsimp only;have ho:=hys.o _ (Yr (d:=0) (i:=sl.toNat) (l:=σ.sy.owners) (by have:=(hs6 (.inl g1));omega));generalize σ.sy.owners.getD sl.toNat 0=ow at*;rw [Bool.eq_iff_iff];simp only [Bool.or_eq_true,decide_eq_true_eq,beq_iff_eq];omega),rfl⟩
 replace g1:=sp g1
 refine xx 6 ?_;refine X.part 40 rfl (fun g2=> ?_) (fun g2=> ?_)
 · replace g2:=sp g2
   rw [if_neg (by omega),if_pos (show kk=11 from g2)] at hR
   refine xx 2 ?_;refine drw ?_;refine ldD 0 ?_;refine dl [1,2] 3 ?_;refine dd [4,5,6] ?_;refine ldD 7 ?_ (hc:=((hCs.le leA) 22 _ rfl))
   refine Ud 8 call58 (Ce (k:=sl) hys (by omega)) ?_
   rintro _ _ ⟨av,cv,rfl,rfl⟩ _ e_;simp only [ca,na] at e_;subst e_
   refine ⟨(hlA (h:=by repeat first|exact trivial|refine ⟨clA,?_⟩|refine ⟨(hCs.le leA) 0 _ rfl,?_⟩|refine ⟨(hCs.le leA) 21 _ rfl,?_⟩|refine ⟨(hCs.le leA) 22 _ rfl,?_⟩|refine ⟨(hCs.le leA) 23 _ rfl,?_⟩)),?_⟩
   refine dd [9,10,11,12,13] ?_;refine XD.nil ?_;refine xx 1 ?_;refine drw ?_;refine ldD 0 ?_;refine dl [1,2] 3 ?_;refine dd [4,5,6] ?_;refine ldD 7 ?_ (hc:=((hCs.le leA) 22 _ rfl))
   refine Ud 8 call125 (Room_Y (k:=sl) hys (by omega)) ?_
   rintro _ _ ⟨rfl,rfl⟩ _ e_;simp only [ca,na] at e_;subst e_
   refine ⟨(hlA (h:=by repeat first|exact trivial|refine ⟨clA,?_⟩|refine ⟨(hCs.le leA) 0 _ rfl,?_⟩|refine ⟨(hCs.le leA) 21 _ rfl,?_⟩|refine ⟨(hCs.le leA) 22 _ rfl,?_⟩|refine ⟨(hCs.le leA) 23 _ rfl,?_⟩)),?_⟩
   refine dd [9,10,11,12,13] ?_;refine XD.nil ?_;refine xx 8 ?_;refine Zq (stP p pp σ::(Zr σ++q)) func93 (Zp results93 rfl) ⟨_,rfl,congrArg Value.bool (by rw [hR];unfold U7 R6;rw [if_pos ⟨(hs11 (.inl g2)).1,by have:=(hs11 (.inl g2)).2;omega⟩,if_pos ⟨(hs11 (.inl g2)).1,by have:=(hs11 (.inl g2)).2;omega⟩];dsimp only;rw [show g.er.pr.room=σ.sy.chans.map Ch.room from hz3.symm];rw [E5 (by have:=hs11 (.inl g2);omega)]),rfl⟩
 replace g2:=sp g2
 refine xx 6 ?_;refine X.part 70 rfl (fun g3=> ?_) (fun g3=> ?_)
 · replace g3:=sp g3
   rw [if_neg (by omega),if_neg (by omega),if_pos (show kk=12 from g3)] at hR
   refine xx 2 ?_;refine drw ?_;refine ldD 0 ?_;refine dl [1,2] 3 ?_;refine dd [4,5,6] ?_;refine ldD 7 ?_ (hc:=((hCs.le leA) 22 _ rfl))
   refine Ud 8 call58 (Ce (k:=sl) hys (by omega)) ?_
   rintro _ _ ⟨av,cv,rfl,rfl⟩ _ e_;simp only [ca,na] at e_;subst e_
   refine ⟨(hlA (h:=by repeat first|exact trivial|refine ⟨clA,?_⟩|refine ⟨(hCs.le leA) 0 _ rfl,?_⟩|refine ⟨(hCs.le leA) 21 _ rfl,?_⟩|refine ⟨(hCs.le leA) 22 _ rfl,?_⟩|refine ⟨(hCs.le leA) 23 _ rfl,?_⟩)),?_⟩
   refine dd [9,10,11,12,13] ?_;refine XD.nil ?_;refine xx 7 ?_;refine Zq (stP p pp σ::(Zr σ++q)) func93 (Zp results93 rfl) ⟨_,rfl,congrArg Value.bool (by rw [hR];unfold U7;rw [if_pos ⟨(hs11 (.inr g3)).1,by have:=(hs11 (.inr g3)).2;omega⟩];dsimp only;rw [Bool.eq_iff_iff];simp),rfl⟩
 replace g3:=sp g3
 refine xx 6 ?_;refine X.part 87 rfl (fun g4=> ?_) (fun g4=> ?_)
 · replace g4:=sp g4
   rw [if_neg (by omega),if_neg (by omega),if_neg (by omega),if_pos (show kk=14 from g4)] at hR
   refine Yq (l:=σ.ths) (by omega) (fun ga e_=> ?_);rw [e_]
   refine xj 3 ?_;refine ol 2 ?_;refine oo 1 ?_;refine XO.know 92 (.slice (some ⟨ga,0,none⟩) σ.ths.length σ.hc) rfl (by rw [←e_]) ?_
   refine oo 2 ?_;refine ld ?_ (hc:=(Cl.row (n:=n) (Sees.rsH _) leA Zd hn rfl 4 _ rfl))
   refine oo 1 ?_
   have hpS:=(hok.at hn).p;rw [←Z1 hn] at hpS;have hspe:(σ.er.th n).sp=σ.ths[n].sp:=by rw [Z1 hn];rfl
   rw [hspe] at hpS hR
   refine XO.cR call126 (O2 (l:=σ.ths[n].sp) (u:=fun i=>decide ((σ.ths.getD i.toNat zTC).st≠4)) ((Dk hn).le leA) (by omega) (fun q1 l1 i hi=>by
    obtain ⟨k,rfl⟩:=Int.eq_ofNat_of_zero_le (hpS.2 i hi).1
    have hk:k<σ.ths.length:=by have:=(hpS.2 _ hi).2;omega
    exact CallV.c11 call127 (Ok (pb:=n1) (p:=p) (Cl.le (by exact clA) l1) (StSee.le ⟨by exact clA,by rw [e_];exact (Sees.rsH _).le leA⟩ l1) hk h8))) ?_
   refine Zi (Pu.not rfl) ?_;refine ox 2 ?_
   rw [←e_]
   refine Zq (stP p pp σ::(Zr σ++q)) func93 (Zp results93 rfl) ⟨_,rfl,congrArg Value.bool (by rw [hR,Bool.eq_iff_iff];simp only [Bool.not_eq_true',List.any_eq_false,List.all_eq_true,decide_eq_true_eq,beq_iff_eq,ne_eq,Decidable.not_not];constructor<;>(intro z i hi;have:=z i hi;have hk:i.toNat<σ.ths.length:=(by have:=hpS.2 i hi;omega);rw [Yn hk] at*;rw [Z1 hk] at*;exact this)),rfl⟩
 replace g4:=sp g4
 refine xx 7 ?_;refine Zq (stP p pp σ::(Zr σ++q)) func93 (Zp results93 rfl) ⟨_,rfl,congrArg Value.bool (by rw [hR,if_neg (by omega),if_neg (by omega),if_neg (by omega),if_neg (by omega)]),rfl⟩
end
section
variable {G:World}{q:List HP}{p pp n N:Nat}{g:FC}{σ:StC}
theorem Q0 (h:Cl q ⟨p,0,none⟩ (.pointer (some ⟨pp,0,none⟩))):CallF prog G 49 [.pointer (some ⟨p,0,none⟩)] (q) (Ret fun v q'=>v= .bool true∧q'=q):=by
 refine CallF.of func49 ntmps49 rfl (fun F cs=> ?_)
 refine xo 9 ?_;refine XO.kt 5 ?_;refine oo 3 ?_;refine ld ?_ (hc:=(h.le leA))
 refine ox 4 ?_;refine Zq (q) func49 (Zp results49 rfl) ⟨_,rfl,rfl,rfl⟩
set_option maxHeartbeats 4000000 in
theorem Ih (hok:SS.ok g.er N σ.er)(hN:N≤900)(hn:n<σ.ths.length)(hTd:Kn q fun M=>TodoAt M σ.ths):CallF prog G 59 [.pointer (some ⟨p,0,none⟩),.int .i64 (n:Int)] (stP p pp σ::(Zr σ++q)) (Ret fun v q'=>v= .bool (σ.er.can g.er.pr n)∧q'=stP p pp σ::(Zr σ++q)):=by
 refine CallF.of func59 ntmps59 rfl (fun F cs=> ?_)
 change X _ _ _ _ _ _ _ _ (pto p (.cells (Yc pp σ).toArray 98 (0,0))::lsH I64 2 σ.ca σ.cc σ.cells::yH σ.sp σ.sy::rsH trC 5 116 σ.ha σ.hc σ.ths::stars (σ.ths.map trH)::(q++F))
 have hlen:=Zx Zd σ.ths;have h8:σ.ths.length≤8:=by have:=hok.t.2;rwa [StC.nth] at this
 have h1_:1≤σ.ths.length:=by have:=hok.t.1;rwa [StC.nth] at this
 refine Yq (l:=σ.ths) (by omega) (fun ga e_=> ?_)
 have hr: ∀ r,Sees (rsH trC 5 116 σ.ha σ.hc σ.ths::r) (some ⟨ga,0,none⟩) (σ.ths.flatMap trC):=fun r=>by rw [←e_];exact Sees.rsH r
 have hT:=hok.at hn;have hte:=Z1 hn;have hys:σ.sy.ok N:=hok.y
 obtain ⟨R,hR⟩: ∃ R,R=σ.er.can g.er.pr n:=⟨_,rfl⟩;have hR0:=hR;rw [←hR];unfold SS.can at hR;dsimp only at hR;rw [hte] at hR
 have hts:(σ.ths[n]).er.st=σ.ths[n].st:=rfl
 refine xj 11 ?_;refine ox 2 ?_;refine X.part 13 rfl (fun h1=> ?_) (fun h1=> ?_)
 · replace h1:=sp h1
   refine xx 5 ?_;refine Zq (stP p pp σ::(Zr σ++q)) func59 (Zp results59 rfl) ⟨_,rfl,congrArg Value.bool (by rw [hR,if_pos (.inl (show σ.er.out.kind=4 from h1))]),rfl⟩
 replace h1:=sp h1;have hk0: ¬σ.er.out.kind=4:=h1
 refine xj 7 ?_;refine oo 1 ?_;refine XO.know 17 (.slice (some ⟨ga,0,none⟩) σ.ths.length σ.hc) rfl (by rw [←e_]) ?_
 refine oo 9 ?_;refine ld ?_ (hc:=(Cl.row (n:=n) (hr _) leA Zd hn rfl 1 _ rfl))
 refine ox 7 ?_;refine X.part 24 rfl (fun h2=> ?_) (fun h2=> ?_)
 · replace h2:=sp h2;have hs1:σ.ths[n].st=1:=h2
   have hne:σ.ths[n].todo≠ []:=fun k=>by have:=hT.e.1 (Qx.2 k);omega
   obtain ⟨y,hy1,hy2,hy3,hy4,hy5⟩:=Rl hne
   have hyA:Kn q fun M=>y.At M:=hTd.imp fun M h=>h _ (List.getElem_mem hn) y hy2
   have hg:=hT.g;rw [hy4] at hg
   refine xo 6 ?_;refine XO.cR call60 (J7 (b:=ga) (o:=0+(n:Int).toNat*5) (todo:=σ.ths[n].todo) (Cl.row (n:=n) (hr _) leA Zd hn rfl 3 _ rfl) ((Sees.todo hn).le leA) (by have:=hT.n;rw [Vc] at this;omega)) ?_
   refine XO.know 29 (.pointer (some ⟨y.b,y.o,none⟩)) rfl (by rw [hy1];rfl) ?_
   refine Zb call93 leA (ready_ok (p:=p) (pp:=pp) (σ:=σ) (n:=n) (y:=y) (q:=q++F) hok hN hn (hTd.le leA) (by rw [hte,hy5]) (hyA.le leA) (by rw [hte];exact hg.1) (by rw [hte,hts];exact hs1) hk0) ?_
   rintro _ _ ⟨rfl,rfl⟩
   refine ox 2 ?_;refine Zq (stP p pp σ::(Zr σ++q)) func59 (Zp results59 rfl) ⟨_,rfl,congrArg Value.bool hR0.symm,rfl⟩
 replace h2:=sp h2
 refine xx 6 ?_;refine X.part 31 rfl (fun h3=> ?_) (fun h3=> ?_)
 · replace h3:=sp h3;have hs1:σ.ths[n].st=3:=h3
   have hne:σ.ths[n].todo≠ []:=fun k=>by have:=hT.e.1 (Qx.2 k);omega
   obtain ⟨y,hy1,hy2,hy3,hy4,hy5⟩:=Rl hne
   have hyA:Kn q fun M=>y.At M:=hTd.imp fun M h=>h _ (List.getElem_mem hn) y hy2
   have hg:=hT.g;rw [hy4] at hg
   obtain ⟨yb,yo,ys⟩:=y
   obtain ⟨kk,ln,cl,nm,wt,⟨ek,en,enm,esl,elo,eop,el,ea,ec⟩,⟨xk,xn,xnm,xsl,xlo,xop,xl,xa,xc⟩,bd,es2,ba,bc,ea2,ec2,id,sl,ot,lo_⟩:=ys
   have hCs:=Kn.stC hyA;dsimp only at hCs hy1 hy4 hy5 hg;have hkd:=hT.w (.inr hs1);rw [hy5] at hkd hR;simp only [Stm.er,PStm.kd] at hkd hR;obtain ⟨⟨hg1,hg2,_⟩,_⟩:=hg;obtain ⟨hq1,hq2,hq3,hq6,hq8,hq8o,_⟩:=Yf hg2
   have hz1:(σ.sy.owners.length:Int)=g.er.cn.mu:=hok.z.1
   rw [if_neg (by intro k;rcases k with k|k|k;exact hk0 k;omega;omega),if_pos (by omega)] at hR
   refine xx 2 ?_;refine drw ?_;refine dl [0,1,2] 3 ?_;refine dd [4] ?_;refine Y4 5 call60 (J7 (b:=ga) (o:=0+(n:Int).toNat*5) (todo:=σ.ths[n].todo) (Cl.row (n:=n) (hr _) leA Zd hn rfl 3 _ rfl) ((Sees.todo hn).le leA) (by have:=hT.n;rw [Vc] at this;omega)) ?_ (hL:=(hlA (h:=by repeat first|exact trivial|refine ⟨clA,?_⟩|refine ⟨(Cl.row (n:=n) (hr _) leA Zd hn rfl 1 _ rfl),?_⟩|refine ⟨((hCs.le leA) 23 _ rfl),?_⟩)))
   refine XD.know 39 (.pointer (some ⟨yb,yo,none⟩)) rfl (by rw [hy1];rfl) ?_
   refine dd [6,7] ?_;refine ldD 8 ?_ (hc:=((hCs.le leA) 23 _ rfl))
   refine Ud 9 call56 (Id (m:=ot) hys (by omega)) ?_
   rintro _ _ ⟨rfl,rfl⟩ _ e_;simp only [ca,na] at e_;subst e_
   refine ⟨trivial,?_⟩
   refine dd [10,11,12,13,14] ?_;refine XD.nil ?_;refine xx 6 ?_;refine Zq (stP p pp σ::(Zr σ++q)) func59 (Zp results59 rfl) ⟨_,rfl,congrArg Value.bool (by rw [hR];unfold Hg;rw [if_pos ⟨(hq8o hkd).1,by have:=(hq8o hkd).2;omega⟩];dsimp only;have ho:=hys.o _ (Yr (d:=0) (i:=ot.toNat) (l:=σ.sy.owners) (by have:=(hq8o hkd);omega));show _=(σ.sy.owners.getD ot.toNat 0== -1);generalize σ.sy.owners.getD ot.toNat 0=ow at*;rw [Bool.eq_iff_iff];simp only [decide_eq_true_eq,beq_iff_eq];omega),rfl⟩
 replace h3:=sp h3
 refine xx 7 ?_;refine Zq (stP p pp σ::(Zr σ++q)) func59 (Zp results59 rfl) ⟨_,rfl,congrArg Value.bool (by rw [hR,if_pos];have:=hT.s;rw [hts] at*;omega),rfl⟩
theorem Gh:CallF prog G 41 [.pointer (some ⟨p,0,none⟩)] (stP p pp σ::(Zr σ++q)) (Ret fun v q'=>v= .int .i64 (σ.ths.length:Int)∧q'=stP p pp σ::(Zr σ++q)):=by
 refine CallF.of func41 ntmps41 rfl (fun F cs=> ?_)
 change X _ _ _ _ _ _ _ _ (pto p (.cells (Yc pp σ).toArray 98 (0,0))::lsH I64 2 σ.ca σ.cc σ.cells::yH σ.sp σ.sy::rsH trC 5 116 σ.ha σ.hc σ.ths::stars (σ.ths.map trH)::(q++F))
 refine xo 8 ?_;refine XO.cR call49 (Q0 (pp:=pp) clA) ?_
 refine Zi (Pu.not rfl) ?_;refine ox 1 ?_;refine Wr 5 ?_;refine xj 7 ?_;refine ox 3 ?_;refine Zq (stP p pp σ::(Zr σ++q)) func41 (Zp results41 rfl) ⟨_,rfl,rfl,rfl⟩
theorem Cd {p:PPr}{s:SS}{i:Nat}:((List.range (i+1)).filter fun n=>s.can p n).map (fun (n:Nat)=>(n:Int))=((List.range i).filter fun n=>s.can p n).map (fun (n:Nat)=>(n:Int))++(if s.can p i=true then [(i:Int)] else []):=by
 rw [List.range_succ,List.filter_append,List.map_append]
 by_cases h:s.can p i=true<;>simp [h]
def SS.allU (p:PPr)(s:SS)(i:Nat):List Int:=((List.range i).filter fun n=>s.can p n).map fun (n:Nat)=>(n:Int)
theorem Cc (p:PPr)(s:SS)(i:Nat):(s.allU p i).length≤i:=by
 unfold SS.allU;rw [List.length_map];exact Nat.le_trans (List.length_filter_le _ _) (by simp)
set_option maxHeartbeats 2000000 in
theorem Sz (hok:SS.ok g.er N σ.er)(hN:N≤900)(hTd:Kn q fun M=>TodoAt M σ.ths):CallF prog G 40 [.pointer (some ⟨p,0,none⟩)] (stP p pp σ::(Zr σ++q)) (Ret fun v q'=> ∃ a' c',v= .slice a' (σ.er.all g.er.pr).length c'∧q'=lsH I64 3 a' c' (σ.er.all g.er.pr)::stP p pp σ::(Zr σ++q)):=by
 refine CallF.of func40 ntmps40 rfl (fun F cs=> ?_)
 have h8:σ.ths.length≤8:=by have:=hok.t.2;rwa [StC.nth] at this
 refine xo 12 ?_;refine Zb call41 leA (Gh (p:=p) (pp:=pp) (σ:=σ) (q:=q++F)) ?_
 rintro _ _ ⟨rfl,rfl⟩
 refine ox 3 ?_;refine X.at (X.loop (fun (s:Nat×Option Addr×Nat)=>s.1≤σ.ths.length) (fun s=> [(0,.pointer (some ⟨p,0,none⟩)),(3,.slice s.2.1 (σ.er.allU g.er.pr s.1).length s.2.2),(6,.int .i64 (σ.ths.length:Int)),(7,.int .i64 (s.1:Int))]) (fun s=>lsH I64 3 s.2.1 s.2.2 (σ.er.allU g.er.pr s.1)::stP p pp σ::(Zr σ++(q++F))) (fun s=>σ.ths.length - s.1) (fun s hi_ ih=> ?_) (0,none,0) (Nat.zero_le _)) Zu (Le.trans (Zo I64 3 _) leA)
 try dsimp only at hi_ ih⊢
 obtain hi:=hi_
 obtain ⟨s,a1,c1⟩:=s;dsimp only at*
 refine xx 5 ?_;refine X.part 8 rfl (fun h0=> ?_) (fun h0=> ?_)
 · replace h0:=sp h0;have hlt:s<σ.ths.length:=(by omega)
   refine xo 13 ?_;refine Zb call59 leA (Ih (p:=p) (pp:=pp) (σ:=σ) (n:=s) (q:=lsH I64 3 a1 c1 (σ.er.allU g.er.pr s)::(q++F)) hok hN hlt (hTd.le leA)) ?_
   rintro _ _ ⟨rfl,rfl⟩
   refine ox 1 ?_;refine X.part 12 rfl (fun h1=> ?_) (fun h1=> ?_)
   · replace h1:=sp h1
     refine xo 4 ?_;refine XO.ef (Qq (u:=(s:Int)) I64 underlying22 Rr rfl rfl) ?_
     rintro _ _ ⟨g2,rfl,rfl⟩
     refine XO.ef (Yb (f:=I64) (l:=σ.er.allU g.er.pr s) (m:= [(s:Int)]) underlying22 Rr rfl rfl rfl Zk ((Sees.lsH _).le leA) (fun _=>rfl) (by have:=Cc g.er.pr σ.er s;simp;omega) (by have:=Cc g.er.pr σ.er s;simp;omega)) ?_
     rintro _ _ ⟨a2,c2,rfl,rfl⟩
     refine ox 7 ?_
     rw [show σ.er.allU g.er.pr s++ [(s:Int)]=σ.er.allU g.er.pr (s+1) by unfold SS.allU;rw [Cd,if_pos h1]]
     refine X.at (ih (s+1,a2,c2) (by dsimp only;omega) (by dsimp only;omega)) Zu leA
   replace h1:=sp h1
   refine xx 7 ?_
   rw [show σ.er.allU g.er.pr s=σ.er.allU g.er.pr (s+1) by unfold SS.allU;rw [Cd,if_neg (by rw [h1];decide),List.append_nil]]
   refine X.at (ih (s+1,a1,c1) (by dsimp only;omega) (by dsimp only;omega)) Zu leA
 replace h0:=sp h0;obtain rfl:s=σ.ths.length:=(by omega);rw [show σ.er.allU g.er.pr σ.ths.length=σ.er.all g.er.pr by unfold SS.all SS.allU;rw [StC.nth]]
 refine xx 7 ?_;refine Zq (lsH I64 3 a1 c1 (σ.er.all g.er.pr)::stP p pp σ::(Zr σ++q)) func40 (Zp results40 rfl) ⟨_,rfl,a1,c1,rfl,rfl⟩
end
theorem Q3 (b:Bool):val (Qh b):=by cases b<;>decide
theorem twoS_v (op a b:Int):val (Wn op a b).1:=by
 unfold Wn
 split;exact Q3 _
 split;exact Q3 _
 split;exact Q3 _
 split;exact Q3 _
 split;decide
 have key: ∀ n:Int,val (if val n then (n,(0:Int)) else (0,2)).1:=fun n=>by
  split
  · assumption
  decide
 exact key _
theorem En {c:Cn}{lo k n slot op d:Int}{nm:ByteArray}{loc:Bool}{args:List PEx}(h:(PEx.mk k n nm slot loc op args).ask c lo d=true):
 1≤d∧(args.length:Int)=V2 c lo k n slot loc op∧(∀ e∈args,e.ask c lo (d - 1)=true)∧(1≤k∧k≤6)∧(k=1→val n∧args.length=0)∧(k=2→inV c lo slot loc∧args.length=0)∧(k=3→(0≤slot∧slot<c.a)∧args.length=1)∧(k=4∨k=5→args.length=1)∧(k=6→(1≤op∧op≤11)∧args.length=2):=by
 simp only [PEx.ask,Bool.and_eq_true,decide_eq_true_eq] at h
 obtain ⟨⟨h1,h2⟩,h3⟩:=h
 have h4:=N2.1 h3
 refine ⟨h1,h2,h4,?_⟩
 unfold V2 at h2
 split at h2
 · split at h2
   · rename_i a b;refine ⟨by omega,fun _=>⟨b,by omega⟩,fun _=>by omega,fun _=>by omega,fun _=>by omega,fun _=>by omega⟩
   omega
 split at h2
 · split at h2
   · rename_i a b;unfold V1 inB at b;simp only [decide_eq_true_eq] at b;exact ⟨by omega,fun _=>by omega,fun _=>⟨b,by omega⟩,fun _=>by omega,fun _=>by omega,fun _=>by omega⟩
   omega
 split at h2
 · split at h2
   · rename_i a b;unfold inB at b;simp only [decide_eq_true_eq] at b;exact ⟨by omega,fun _=>by omega,fun _=>by omega,fun _=>⟨b,by omega⟩,fun _=>by omega,fun _=>by omega⟩
   omega
 split at h2
 · exact ⟨by omega,fun _=>by omega,fun _=>by omega,fun _=>by omega,fun _=>by omega,fun _=>by omega⟩
 split at h2
 · split at h2
   · exact ⟨by omega,fun _=>by omega,fun _=>by omega,fun _=>by omega,fun _=>by omega,fun _=>by omega⟩
   omega
 omega
theorem Q1 {p:PPr}{cells loc:List Int}: ∀ {l:List PEx} {i:Nat} (h:i<l.length),(Yi p cells loc l).getD i (0,0, [])=(l[i]).made p cells loc
 |e::r,0,_=>by simp [Yi]
 |e::r,i+1,h=>by
  have h2:i<r.length:=by simpa using h
  have:=Q1 (p:=p) (cells:=cells) (loc:=loc) h2
  simpa [Yi] using this
theorem Br {l:List Int}(h: ∀ x∈l,val x)(i:Nat):val (l.getD i 0):=by
 by_cases hi:i<l.length
 · exact h _ (Yr hi)
 have e:l.getD i 0=0:=by simp [List.getD,List.getElem?_eq_none (show l.length≤i by omega)]
 rw [e];decide
theorem Ga (n:Nat):1≤2 ^ n:=Nat.one_le_two_pow
mutual
theorem Yh {p:PPr}{cells loc:List Int}{c:Cn}{lo:Int}(hc: ∀ x∈cells,val x)(hl: ∀ x∈loc,val x): ∀ {e:PEx} {d:Int},e.ask c lo d=true→val (e.made p cells loc).1∧(e.made p cells loc).2.2.length≤2 ^ d.toNat
 | .mk k n nm slot lc op args,d,h=>by
  obtain ⟨h1,_,h3,hk,k1,k2,k3,k4,k6⟩:=En h
  have hm:=N7 hc hl (p:=p) h3
  obtain ⟨D,hD⟩:=Int.eq_ofNat_of_zero_le (show 0≤d - 1 by omega)
  have hd:d.toNat=D+1:=by omega
  have hp:=Ga D
  rw [hd,Nat.pow_succ]
  rw [show (d - 1).toNat=D by omega] at hm
  generalize hms:Yi p cells loc args=ms at hm
  simp only [PEx.made,hms]
  split
  · exact ⟨(k1 (by assumption)).1,by simp⟩
  split
  · split
    · exact ⟨Br hl _,by simp⟩
    exact ⟨Br hc _,by simp only [List.length_singleton];omega⟩
  have ha:=hm 0
  have hb:=hm 1
  generalize ms.getD 0 (0,0, [])=a at ha
  generalize ms.getD 1 (0,0, [])=b at hb
  split
  · exact ⟨ha.1,by omega⟩
  split
  · split
    · exact ⟨(by decide:val 0),by dsimp only;omega⟩
    exact ⟨Br hc _,by dsimp only;rw [List.length_append];simp only [List.length_singleton];omega⟩
  split
  · exact ⟨twoS_v _ _ _,by dsimp only;omega⟩
  split
  · exact ⟨Q3 _,by dsimp only;omega⟩
  split
  · exact ⟨Q3 _,by dsimp only;omega⟩
  split
  · exact ⟨hb.1,by dsimp only;rw [List.length_append];omega⟩
  split
  · exact ⟨Q3 _,by dsimp only;rw [List.length_append];omega⟩
  exact ⟨twoS_v _ _ _,by dsimp only;rw [List.length_append];omega⟩
theorem N7 {p:PPr}{cells loc:List Int}{c:Cn}{lo:Int}(hc: ∀ x∈cells,val x)(hl: ∀ x∈loc,val x): ∀ {l:List PEx} {d:Int},(∀ e∈l,e.ask c lo d=true)→ ∀ i,val ((Yi p cells loc l).getD i (0,0, [])).1∧((Yi p cells loc l).getD i (0,0, [])).2.2.length≤2 ^ d.toNat
 | [],d,_,i=>by simp [Yi];decide
 |e::r,d,h,i=>by
  cases i with
  |zero=>simpa [Yi] using Yh hc hl (h e (List.mem_cons_self ..))
  |succ i=>simpa [Yi] using N7 hc hl (fun x hx=>h x (List.mem_cons_of_mem _ hx)) i
end
theorem Tv {l:List Int}(h: ∀ x∈l,1≤x∧x≤256): ∀ {n:Nat} (_:n<l.length),Y9 (l.take n)+l.getD n 0≤Y9 l∧0≤Y9 (l.take n)
 |n,hn=>by
  have e:l=l.take n++(l[n]::l.drop (n+1)):=by rw [←List.drop_eq_getElem_cons hn,List.take_append_drop]
  have e2:Y9 l=Y9 (l.take n)+(l[n]+Y9 (l.drop (n+1))):=by
   conv=>lhs;rw [e]
   rw [Nb];rfl
  have h1:=(U8 (l:=l.take n) (k:=256) (fun y hy=>by have:=h y (List.mem_of_mem_take hy);omega) (by decide)).1
  have h2:=(U8 (l:=l.drop (n+1)) (k:=256) (fun y hy=>by have:=h y (List.mem_of_mem_drop hy);omega) (by decide)).1
  rw [Yn hn]
  omega
theorem Eg:(prog.info? 140).map (fun i=>(i.zero,i.size,i.bytes))=some (some (.agg #[.int .i64 0,.bool false,.int .i64 0]),3,24):=by kernel_rfl
theorem Cb:(prog.info? 50).map (fun i=>(i.zero,i.size,i.bytes))=some (some (.agg #[.int .i64 0,.int .i64 0,.int .i64 0]),3,24):=by kernel_rfl
def Zw (p pp who:Nat)(σ:StC)(e:EvC):List HP:=spP p pp who σ e::(Zr σ++evL e)
theorem Ig (x:Ac):(acC x).length=3:=rfl
theorem Rn (x:Sn):(snC x).length=3:=rfl
theorem acC_one (x:Ac):(acC x).all (·.oneCell')=true:=rfl
theorem snC_one (x:Sn):(snC x).all (·.oneCell')=true:=rfl
def PEv.ac (e:PEv)(l:List Ac):PEv:= { e with acc:=e.acc++l }
def PEv.sn (e:PEv)(l:List Sn):PEv:= { e with syn:=e.syn++l }
theorem Mq (e:PEv)(a b:List Ac):(e.ac a).ac b=e.ac (a++b):=by unfold PEv.ac;simp
theorem Nq (e:PEv):e.ac []=e:=by unfold PEv.ac;simp
section
variable {G:World}{q:List HP}{p pp who n N:Nat}{g:FC}{σ:StC}{ev:EvC}{k sl ot u:Int}{bb:Bool}
set_option maxHeartbeats 1000000 in
theorem Ve (hl:ev.e.syn.length≤1000000000):CallF prog G 98 [.pointer (some ⟨p,0,none⟩),.int .i64 k,.int .i64 sl,.int .i64 ot] (Zw p pp who σ ev++q) (Ret fun v q'=> ∃ ev':EvC,ev'.e=ev.e.sn [(k,sl,ot)]∧q'=Zw p pp who σ ev'++q):=by
 refine CallF.of func98 ntmps98 rfl (fun F cs=> ?_)
 change X _ _ _ _ _ _ _ _ (pto p (.cells (Yc pp σ++(.int .i64 (who:Int)::evC ev)).toArray 145 (0,0))::lsH I64 2 σ.ca σ.cc σ.cells::yH σ.sp σ.sy::rsH trC 5 116 σ.ha σ.hc σ.ths::stars (σ.ths.map trH)::rsH acC 3 140 ev.aa ev.ac ev.e.acc::rsH snC 3 50 ev.na ev.nc ev.e.syn::(q++F))
 refine xj 6 ?_;refine oo 4 ?_;refine XO.ef (Yz (u:=(k,sl,ot)) snC underlying45 Cb rfl rfl Rn rfl) ?_
 rintro _ _ ⟨g1,rfl,rfl⟩
 refine XO.ef (Z9 (f:=snC) (l:=ev.e.syn) (m:= [(k,sl,ot)]) underlying45 Cb rfl rfl Rn rfl rfl Zk ((Sees.rsH _).le leA) snC_one (by simp;omega) (by simp;omega)) ?_
 rintro _ _ ⟨a2,c2,rfl,rfl⟩
 refine oo 3 ?_;refine st ?_;refine ox 1 ?_;refine Z7 (Zw p pp who σ ({ ev with e:=ev.e.sn [(k,sl,ot)],na:=a2,nc:=c2 } :EvC)++q) func98 (Vb results98) ⟨_,rfl,({ ev with e:=ev.e.sn [(k,sl,ot)],na:=a2,nc:=c2 } :EvC),rfl,rfl⟩
set_option maxHeartbeats 1000000 in
theorem Ep (hl:ev.e.acc.length≤1000000000):CallF prog G 192 [.pointer (some ⟨p,0,none⟩),.int .i64 sl,.bool bb,.int .i64 u] (Zw p pp who σ ev++q) (Ret fun v q'=> ∃ ev':EvC,ev'.e=ev.e.ac [(sl,bb,u)]∧q'=Zw p pp who σ ev'++q):=by
 refine CallF.of func192 ntmps192 rfl (fun F cs=> ?_)
 change X _ _ _ _ _ _ _ _ (pto p (.cells (Yc pp σ++(.int .i64 (who:Int)::evC ev)).toArray 145 (0,0))::lsH I64 2 σ.ca σ.cc σ.cells::yH σ.sp σ.sy::rsH trC 5 116 σ.ha σ.hc σ.ths::stars (σ.ths.map trH)::rsH acC 3 140 ev.aa ev.ac ev.e.acc::rsH snC 3 50 ev.na ev.nc ev.e.syn::(q++F))
 refine xj 6 ?_;refine oo 4 ?_;refine XO.ef (Yz (u:=(sl,bb,u)) acC underlying44 Eg rfl rfl Ig rfl) ?_
 rintro _ _ ⟨g1,rfl,rfl⟩
 refine XO.ef (Z9 (f:=acC) (l:=ev.e.acc) (m:= [(sl,bb,u)]) underlying44 Eg rfl rfl Ig rfl rfl Zk ((Sees.rsH _).le leA) acC_one (by simp;omega) (by simp;omega)) ?_
 rintro _ _ ⟨a2,c2,rfl,rfl⟩
 refine oo 3 ?_;refine st ?_;refine ox 1 ?_;refine Z7 (Zw p pp who σ ({ ev with e:=ev.e.ac [(sl,bb,u)],aa:=a2,ac:=c2 } :EvC)++q) func192 (Vb results192) ⟨_,rfl,({ ev with e:=ev.e.ac [(sl,bb,u)],aa:=a2,ac:=c2 } :EvC),rfl,rfl⟩
theorem Q7 {ga m c:Nat}(h3:Cl q ⟨p,0+3,none⟩ (.slice (some ⟨ga,0,none⟩) m c))(h8:Cl q ⟨p,8,none⟩ (.int .i64 (who:Int)))(hn:who<m):CallF prog G 95 [.pointer (some ⟨p,0,none⟩)] (q) (Ret fun v q'=>v= .pointer (some ⟨ga,0+(who:Int).toNat*5,none⟩)∧q'=q):=by
 refine CallF.of func95 ntmps95 rfl (fun F cs=> ?_)
 refine xx 5 ?_;refine drw ?_;refine dd [0,1,2,3] ?_;refine ldD 4 ?_ (hc:=(h3.le leA))
 refine dd [5,6,7] ?_;refine ldD 8 ?_ (hc:=(h8.le leA))
 refine dd [9,10] ?_;refine XD.nil ?_;refine Zq (q) func95 (Zp results95 rfl) ⟨_,rfl,rfl,rfl⟩
set_option maxHeartbeats 1000000 in
theorem Sa (hn:n<σ.cells.length)(hl:ev.e.acc.length≤1000000000):CallF prog G 188 [.pointer (some ⟨p,0,none⟩),.int .i64 (n:Int)] (Zw p pp who σ ev++q) (Ret fun v q'=>v= .int .i64 (σ.cells.getD n 0)∧ ∃ ev':EvC,ev'.e=ev.e.ac [((n:Int),false,σ.cells.getD n 0)]∧q'=Zw p pp who σ ev'++q):=by
 refine CallF.of func188 ntmps188 rfl (fun F cs=> ?_)
 change X _ _ _ _ _ _ _ _ (pto p (.cells (Yc pp σ++(.int .i64 (who:Int)::evC ev)).toArray 145 (0,0))::lsH I64 2 σ.ca σ.cc σ.cells::yH σ.sp σ.sy::rsH trC 5 116 σ.ha σ.hc σ.ths::stars (σ.ths.map trH)::rsH acC 3 140 ev.aa ev.ac ev.e.acc::rsH snC 3 50 ev.na ev.nc ev.e.syn::(q++F))
 rw [Yn hn]
 refine V8 (l:=σ.cells) (by omega) (fun gc e_=> ?_)
 have hr: ∀ r,Sees (lsH I64 2 σ.ca σ.cc σ.cells::r) (some ⟨gc,0,none⟩) (σ.cells.map I64):=fun r=>by rw [←e_];exact Sees.lsH r
 refine xj 12 ?_;refine oo 1 ?_;refine XO.know 11 (.slice (some ⟨gc,0,none⟩) σ.cells.length σ.cc) rfl (by rw [←e_]) ?_
 refine oo 1 ?_;refine ld ?_ (hc:=(((hr _).le leA).at (by omega) hn))
 refine Zb call192 leA (Ep (p:=p) (pp:=pp) (who:=who) (σ:=σ) (ev:=ev) (q:=q++F) hl) ?_
 rintro _ _ ⟨ev2,he2,rfl⟩
 change XO _ _ _ _ _ _ _ _ _ _ (pto p (.cells (Yc pp σ++(.int .i64 (who:Int)::evC ev2)).toArray 145 (0,0))::lsH I64 2 σ.ca σ.cc σ.cells::yH σ.sp σ.sy::rsH trC 5 116 σ.ha σ.hc σ.ths::stars (σ.ths.map trH)::rsH acC 3 140 ev2.aa ev2.ac ev2.e.acc::rsH snC 3 50 ev2.na ev2.nc ev2.e.syn::(q++F))
 refine ol 7 ?_;refine oo 1 ?_;refine XO.know 20 (.slice (some ⟨gc,0,none⟩) σ.cells.length σ.cc) rfl (by rw [←e_]) ?_
 refine oo 1 ?_;refine ld ?_ (hc:=(((hr _).le leA).at (by omega) hn))
 refine ox 2 ?_;refine Zq (Zw p pp who σ ev2++q) func188 (Zp results188 rfl) ⟨_,rfl,rfl,ev2,he2,rfl⟩
set_option maxHeartbeats 1000000 in
theorem Gx (hn:n<σ.cells.length)(hl:ev.e.acc.length≤1000000000):CallF prog G 167 [.pointer (some ⟨p,0,none⟩),.int .i64 (n:Int),.int .i64 u] (Zw p pp who σ ev++q) (Ret fun v q'=> ∃ ev':EvC,ev'.e=ev.e.ac [((n:Int),true,u)]∧q'=Zw p pp who ({ σ with cells:=σ.cells.set n u } :StC) ev'++q):=by
 refine CallF.of func167 ntmps167 rfl (fun F cs=> ?_)
 change X _ _ _ _ _ _ _ _ (pto p (.cells (Yc pp σ++(.int .i64 (who:Int)::evC ev)).toArray 145 (0,0))::lsH I64 2 σ.ca σ.cc σ.cells::yH σ.sp σ.sy::rsH trC 5 116 σ.ha σ.hc σ.ths::stars (σ.ths.map trH)::rsH acC 3 140 ev.aa ev.ac ev.e.acc::rsH snC 3 50 ev.na ev.nc ev.e.syn::(q++F))
 refine V8 (l:=σ.cells) (by omega) (fun gc e_=> ?_)
 refine xo 5 ?_;refine Zb call192 leA (Ep (p:=p) (pp:=pp) (who:=who) (σ:=σ) (ev:=ev) (q:=q++F) hl) ?_
 rintro _ _ ⟨ev2,he2,rfl⟩
 change XO _ _ _ _ _ _ _ _ _ _ (pto p (.cells (Yc pp σ++(.int .i64 (who:Int)::evC ev2)).toArray 145 (0,0))::lsH I64 2 σ.ca σ.cc σ.cells::yH σ.sp σ.sy::rsH trC 5 116 σ.ha σ.hc σ.ths::stars (σ.ths.map trH)::rsH acC 3 140 ev2.aa ev2.ac ev2.e.acc::rsH snC 3 50 ev2.na ev2.nc ev2.e.syn::(q++F))
 refine ol 6 ?_;refine oo 2 ?_;refine XO.know 14 (.slice (some ⟨gc,0,none⟩) σ.cells.length σ.cc) rfl (by rw [←e_]) ?_
 refine oo 1 ?_;refine XO.le (q':=lsH I64 2 (some ⟨gc,0,none⟩) σ.cc σ.cells::_) (by rw [←e_];exact Zk) ?_
 refine XO.ef0 (Qo (f:=I64) (l:=σ.cells) (n:=n) (u:=u) rfl rfl sizeOf2 rfl hn rfl rfl Zk) ?_
 rintro _ _ ⟨rfl,rfl⟩
 refine ox 1 ?_
 rw [←e_]
 refine X.le (q':=Zw p pp who ({ σ with cells:=σ.cells.set n u } :StC) ev2++(q++F)) (by unfold Zw spP Yc Zr;simp only [List.length_set];exact leA) ?_
 refine Z7 (Zw p pp who ({ σ with cells:=σ.cells.set n u } :StC) ev2++q) func167 (Vb results167) ⟨_,rfl,ev2,he2,rfl⟩ (by rw [List.append_assoc];exact Le.refl _)
end
end Go.Proofs.YtflkjkhijcdbaaaGreat
