/- Contracts of functions, proved by walking their code. -/
import Derived.Test.YtflkjkhijcdbaaaGreatBe
import Derived.KernelRfl
set_option maxRecDepth 100000
set_option linter.unusedVariables false
set_option linter.unusedSimpArgs false
namespace Go.Proofs.YtflkjkhijcdbaaaGreat
open Go Go.RowKit Wx Go.Proofs.Tryz
attribute [local irreducible] Wx.lsH Wx.rsH Wx.stars
mutual
def PEx.nd:PEx→Nat
 | .mk k _ _ _ _ _ args=>(if k=0 then 0 else 1)+Rc args
def Rc:List PEx→Nat
 | []=>0
 |e::r=>e.nd+Rc r
end
mutual
def PStm.nd:PStm→Nat
 | .mk _ _ _ _ _ e ix body els _ _ _ _=>1+e.nd+ix.nd+Z1 body+Z1 els
def Z1:List PStm→Nat
 | []=>0
 |s::r=>s.nd+Z1 r
end
theorem Kx: ∀ {g:Nat} {l:Bs} {ln cl:Int} {ts:List Tk},Ky g l ln cl=some ts→ts.length≤l.length∧ ∀ t∈ts,0≤t.n∧t.n≤2147483647
 |0,_,_,_,_,h=>by cases h
 |g+1, [],_,_,ts,h=>by cases h;exact ⟨Nat.le_refl _,fun t ht=>by cases ht⟩
 |g+1,c::r,ln,cl,ts,h=>by
  rw [Ky] at h
  split at h
  · have:=Kx h;exact ⟨by simp;omega,this.2⟩
  split at h
  · have:=Kx h;exact ⟨by simp;omega,this.2⟩
  split at h
  · have:=Kx h;refine ⟨Nat.le_trans this.1 ?_,this.2⟩;exact (List.dropWhile_sublist _).length_le
  split at h
  · cases h
  rename_i k w n ho
  cases hl:Ky g ((c::r).drop w.length) ln (cl+w.length) with
  |none=>rw [hl] at h;cases h
  |some us=>
   rw [hl] at h;cases h
   have:=Kx hl
   have hw:0<w.length∧0≤n∧n≤2147483647:=by
    unfold E5 at ho;dsimp only at ho
    have hp: ∀ s∈signsS,0<s.length:=by decide
    split at ho
    · rename_i hc
      split at ho
      · rename_i x hx
        cases ho
        refine ⟨by rw [List.length_take];have:=Rf (c::r);omega,?_⟩
        unfold Gu at hx
        split at hx
        · rename_i ha
          split at hx
          · cases hx;rename_i hb
            rw [Bool.and_eq_true] at ha
            exact ⟨(L9 ha.1).1,hb.1⟩
          cases hx
        cases hx
      cases ho
    split at ho
    · rename_i hc;cases ho;exact ⟨by rw [List.length_take];have:=Rf (c::r);omega,by decide,by decide⟩
    split at ho
    · cases ho
    split at ho
    · cases ho;exact ⟨by rw [List.length_take];have:=Rf (c::r);omega,by decide,by decide⟩
    split at ho
    · rename_i hf;cases ho;exact ⟨hp _ (List.mem_of_find?_eq_some hf),by decide,by decide⟩
    cases ho
   refine ⟨?_,?_⟩
   · have h1:=this.1;rw [List.length_drop] at h1;simp at h1⊢;omega
   intro t ht
   rcases List.mem_cons.1 ht with rfl|ht
   · exact hw.2
   exact this.2 t ht
theorem Kk {s:Bs}{ts r:List Tk}(h:tkW s ts=some r):r.length+1≤ts.length:=by
 unfold tkW at h
 split at h
 · cases h;rename_i hw;cases ts with
   |nil=>cases hw
   |cons t r=>simp
 cases h
theorem Wg {s:Bs}{ts r:List Tk}{u:Unit}(h:Vy s ts=some (u,r)):r.length+1≤ts.length:=Kk (Bx.1 h)
theorem He {ts r:List Tk}{x:ByteArray}(h:Q3 ts=some (x,r)):r.length+1≤ts.length:=by
 cases ts with
 |nil=>cases h
 |cons t l=>simp only [Q3] at h;split at h<;>cases h;simp
theorem Ho {ts r:List Tk}{x:Int}(h:Jg ts=some (x,r)):r.length+1≤ts.length:=by
 cases ts with
 |nil=>cases h
 |cons t l=>simp only [Jg] at h;split at h<;>cases h;simp
theorem Oy {n:Int}{ts:List Tk}(h:Ux n ts≠0):ts.tail.length+1=ts.length:=by
 cases ts with
 |nil=>exact absurd (by unfold Ux;simp [Tc,isW]) h
 |cons t r=>simp
theorem H0: ∀ f,(∀ n ts e r,Vq f n ts=some (e,r)→e.nd+r.length≤ts.length∧e.dep+r.length≤ts.length)∧(∀ n x ts e r,Mv f n x ts=some (e,r)→e.nd+r.length≤ts.length+x.nd∧(∀ B,x.dep+ts.length≤B→ts.length≤B→e.dep+r.length≤B))∧
 (∀ ts e r,unS f ts=some (e,r)→e.nd+r.length≤ts.length∧e.dep+r.length≤ts.length)∧(∀ ts e r,Uu f ts=some (e,r)→e.nd+r.length≤ts.length∧e.dep+r.length≤ts.length):=by
 intro f
 induction f with
 |zero=>exact ⟨fun _ _ _ _ h=>(by cases h),fun _ _ _ _ _ h=>(by cases h),fun _ _ _ h=>(by cases h),fun _ _ _ h=>by cases h⟩
 |succ f ih=>
  obtain ⟨ih1,ih2,ih3,ih4⟩:=ih
  refine ⟨fun n ts e r h=> ?_,fun n x ts e r h=> ?_,fun ts e r h=> ?_,fun ts e r h=> ?_⟩
  · rw [Vq] at h
    split at h
    · exact ih3 _ _ _ h
    split at h
    · cases h
    rename_i e1 r1 h1
    have k1:=ih1 _ _ _ _ h1
    have k2:=ih2 _ _ _ _ _ h
    exact ⟨by omega,k2.2 _ k1.2 (by omega)⟩
  · rw [Mv] at h
    split at h
    · cases h;exact ⟨by omega,fun B h1 _=>h1⟩
    rename_i hn
    have hl:=Oy hn
    split at h
    · cases h
    rename_i x1 r1 h1
    have k1:=ih1 _ _ _ _ h1
    have hd:(PEx.mk 6 0 em 0 false (Ux n ts) [x,x1]).nd=1+(x.nd+(x1.nd+0)):=rfl
    have he:(PEx.mk 6 0 em 0 false (Ux n ts) [x,x1]).dep=max x.dep (max x1.dep 0)+1:=rfl
    split at h
    · cases h;exact ⟨by omega,fun B h1 h2=>by omega⟩
    have k2:=ih2 _ _ _ _ _ h
    exact ⟨by omega,fun B h1 h2=>k2.2 B (by omega) (by omega)⟩
  · rw [unS] at h
    split at h
    · rename_i r1 h1
      have hl:=Kk h1
      split at h
      · cases h
      rename_i x1 r2 h2
      cases h
      have k1:=ih3 _ _ _ h2
      have hd:(PEx.mk 4 0 em 0 false 0 [x1]).nd=1+(x1.nd+0):=rfl
      have he:(PEx.mk 4 0 em 0 false 0 [x1]).dep=max x1.dep 0+1:=rfl
      exact ⟨by omega,by omega⟩
    split at h
    · rename_i r1 h1
      have hl:=Kk h1
      split at h
      · cases h
      rename_i x1 r2 h2
      cases h
      have k1:=ih3 _ _ _ h2
      have hd:(PEx.mk 5 0 em 0 false 0 [x1]).nd=1+(x1.nd+0):=rfl
      have he:(PEx.mk 5 0 em 0 false 0 [x1]).dep=max x1.dep 0+1:=rfl
      exact ⟨by omega,by omega⟩
    exact ih4 _ _ _ h
  rw [Uu] at h
  split at h
  · rename_i r1 h1
    have hl:=Kk h1
    split at h
    · cases h
    rename_i x1 r2 h2
    have k1:=ih1 _ _ _ _ h2
    split at h
    · cases h
    rename_i r3 h3
    cases h
    have:=Kk h3
    exact ⟨by omega,by omega⟩
  split at h
  · rename_i z r1 h1
    cases h
    have:=Ho h1
    have hd: ∀ z,(PEx.mk 1 z em 0 false 0 []).nd=1+0:=fun _=>rfl
    have he: ∀ z,(PEx.mk 1 z em 0 false 0 []).dep=0+1:=fun _=>rfl
    exact ⟨by rw [hd];omega,by rw [he];omega⟩
  split at h
  · cases h
  rename_i nm r1 h1
  have hl:=He h1
  split at h
  · cases h
    have hd:(PEx.mk 2 0 nm 0 false 0 []).nd=1+0:=rfl
    have he:(PEx.mk 2 0 nm 0 false 0 []).dep=0+1:=rfl
    exact ⟨by omega,by omega⟩
  rename_i r2 h2
  have hl2:=Kk h2
  split at h
  · cases h
  rename_i x1 r3 h3
  have k1:=ih1 _ _ _ _ h3
  split at h
  · cases h
  rename_i r4 h4
  cases h
  have:=Kk h4
  have hd:(PEx.mk 3 0 nm 0 false 0 [x1]).nd=1+(x1.nd+0):=rfl
  have he:(PEx.mk 3 0 nm 0 false 0 [x1]).dep=max x1.dep 0+1:=rfl
  exact ⟨by omega,by omega⟩
theorem Z0 {α β:Type}{A:Option (α×List Tk)}{K:α→List Tk→Option β}{y:β}(h:bnd A K=some y): ∃ x r,A=some (x,r)∧K x r=some y:=by
 cases A with
 |none=>cases h
 |some x=>exact ⟨x.1,x.2,rfl,h⟩
mutual
theorem C2 {B C:Nat}(h:B≤C): ∀ {s:PStm},s.bdd B→s.bdd C
 | .mk _ _ _ _ _ _ _ _ _ _ _ _ _,⟨h1,h2,h3,h4⟩=>⟨Nat.le_trans h1 h,Nat.le_trans h2 h,Qi h h3,Qi h h4⟩
theorem Qi {B C:Nat}(h:B≤C): ∀ {l:List PStm},Wm B l→Wm C l
 | [],_=>trivial
 |_::_,⟨h1,h2⟩=>⟨C2 h h1,Qi h h2⟩
end
theorem Ib:PEx.z.nd=0:=rfl
theorem Ri:PEx.z.dep=1:=rfl
theorem Hv {k ln cl:Int}{nm wt:ByteArray}{e ix:PEx}{b l:List PStm}{i s o:Int}{lo:Bool}:(PStm.mk k ln cl nm wt e ix b l i s o lo).nd=1+e.nd+ix.nd+Z1 b+Z1 l:=rfl
theorem Sf {f:Nat}{k:Int}{p:Int×Int}{nm:ByteArray}{ts r:List Tk}{s:PStm}{B:Nat}(hB:ts.length+1≤B)(h:Un f k p nm ts=some (s,r)):s.nd+r.length≤ts.length∧s.bdd B:=by
 unfold Un at h
 split at h
 · split at h
   · rename_i hw
     have hl:ts.tail.length+1=ts.length:=by cases ts with
      |nil=>cases hw
      |cons t r=>simp
     obtain ⟨ix,r1,h1,h⟩:=Z0 h
     obtain ⟨_,r2,h2,h⟩:=Z0 h
     obtain ⟨_,r3,h3,h⟩:=Z0 h
     obtain ⟨e,r4,h4,h⟩:=Z0 h
     obtain ⟨_,r5,h5,h⟩:=Z0 h
     cases h
     have k1:=(H0 _).1 _ _ _ _ h1;have k2:=Wg h2;have k3:=Wg h3;have k4:=(H0 _).1 _ _ _ _ h4;have k5:=Wg h5
     exact ⟨by rw [Hv];simp only [Z1];omega,by omega,by omega,trivial,trivial⟩
   obtain ⟨_,r3,h3,h⟩:=Z0 h
   obtain ⟨e,r4,h4,h⟩:=Z0 h
   obtain ⟨_,r5,h5,h⟩:=Z0 h
   cases h
   have k3:=Wg h3;have k4:=(H0 _).1 _ _ _ _ h4;have k5:=Wg h5
   exact ⟨by rw [Hv,Ib];simp only [Z1];omega,by omega,by rw [Ri];omega,trivial,trivial⟩
 split at h
 · obtain ⟨_,r3,h3,h⟩:=Z0 h
   obtain ⟨e,r4,h4,h⟩:=Z0 h
   obtain ⟨_,r5,h5,h⟩:=Z0 h
   cases h
   have k3:=Wg h3;have k4:=(H0 _).1 _ _ _ _ h4;have k5:=Wg h5
   exact ⟨by rw [Hv,Ib];simp only [Z1];omega,by omega,by rw [Ri];omega,trivial,trivial⟩
 split at h
 focus
  obtain ⟨wt,r3,h3,h⟩:=Z0 h
  obtain ⟨_,r5,h5,h⟩:=Z0 h
  cases h
  have k3:=He h3;have k5:=Wg h5
 rotate_left
 focus
  split at h
  · obtain ⟨e,r4,h4,h⟩:=Z0 h
    obtain ⟨_,r5,h5,h⟩:=Z0 h
    cases h
    have k4:=(H0 _).1 _ _ _ _ h4;have k5:=Wg h5
    exact ⟨by rw [Hv,Ib];simp only [Z1];omega,by omega,by rw [Ri];omega,trivial,trivial⟩
  obtain ⟨_,r5,h5,h⟩:=Z0 h
  cases h
  have k5:=Wg h5
 all_goals
  exact ⟨by rw [Hv,Ib];simp only [Z1];omega,by rw [Ri];omega,by rw [Ri];omega,trivial,trivial⟩
theorem Ga {ts:List Tk}(h:Vu ts≠0):ts.tail.length+1=ts.length:=by
 cases ts with
 |nil=>exact absurd (by decide) h
 |cons t r=>simp
theorem stmt_nd (B:Nat): ∀ f,(∀ ts s r,ts.length+1≤B→Q0 f ts=some (s,r)→s.nd+r.length≤ts.length∧s.bdd B)∧(∀ ts l r,ts.length+1≤B→Hg f ts=some (l,r)→Z1 l+r.length≤ts.length∧Wm B l)∧(∀ ts l r,ts.length+1≤B→Ue f ts=some (l,r)→Z1 l+r.length≤ts.length∧Wm B l):=by
 intro f
 induction f with
 |zero=>exact ⟨fun _ _ _ _ h=>(by cases h),fun _ _ _ _ h=>(by cases h),fun _ _ _ _ h=>by cases h⟩
 |succ f ih=>
  obtain ⟨ih1,ih2,ih3⟩:=ih
  refine ⟨fun ts s r hB h=> ?_,fun ts l r hB h=> ?_,fun ts l r hB h=> ?_⟩
  · rw [Q0] at h
    split at h
    · rename_i hk
      have hl:=Ga (ts:=ts) (by omega)
      obtain ⟨e,r1,h1,h⟩:=Z0 h
      obtain ⟨b,r2,h2,h⟩:=Z0 h
      have k1:=(H0 _).1 _ _ _ _ h1
      have k2:=ih2 _ _ _ (by omega) h2
      split at h
      · rename_i hw
        have hl2:r2.tail.length+1=r2.length:=by
         have:=hw.2
         cases r2 with
         |nil=>cases this
         |cons t r=>simp
        obtain ⟨b2,r3,h3,h⟩:=Z0 h
        cases h
        have k3:=ih2 _ _ _ (by omega) h3
        exact ⟨by rw [Hv,Ib];omega,by omega,by rw [Ri];omega,k2.2,k3.2⟩
      cases h
      exact ⟨by rw [Hv,Ib];simp only [Z1];omega,by omega,by rw [Ri];omega,k2.2,trivial⟩
    split at h
    · rename_i hk
      have hl:=Ga (ts:=ts) (by omega)
      have:=Sf (B:=B) (by omega) h
      exact ⟨by omega,this.2⟩
    obtain ⟨nm,r1,h1,h⟩:=Z0 h
    have k1:=He h1
    have hl:(if 0<Vu ts then ts.tail else ts).length≤ts.length:=by split<;>simp
    have:=Sf (B:=B) (by omega) h
    exact ⟨by omega,this.2⟩
  · rw [Hg] at h
    obtain ⟨_,r1,h1,h⟩:=Z0 h
    obtain ⟨l1,r2,h2,h⟩:=Z0 h
    obtain ⟨_,r3,h3,h⟩:=Z0 h
    cases h
    have k1:=Wg h1
    have k2:=ih3 _ _ _ (by omega) h2
    have k3:=Wg h3
    exact ⟨by omega,k2.2⟩
  rw [Ue] at h
  split at h
  · cases h;exact ⟨by simp [Z1],trivial⟩
  obtain ⟨s,r1,h1,h⟩:=Z0 h
  obtain ⟨l1,r2,h2,h⟩:=Z0 h
  cases h
  have k1:=ih1 _ _ _ hB h1
  have k2:=ih3 _ _ _ (by omega) h2
  exact ⟨by simp only [Z1];omega,k1.2,k2.2⟩
theorem decl_nd {f:Nat}{ts r:List Tk}{d:PDec}{B:Nat}(hB:ts.length+1≤B)(h:K5 f ts=some (d,r)):Z1 d.body+r.length+1≤ts.length∧Wm B d.body∧(1≤d.k∧d.k≤6):=by
 have hk6:dkS ts≤6:=Np
 unfold K5 at h
 split at h
 · cases h
 rename_i h0
 obtain ⟨nm,r1,h1,h⟩:=Z0 h
 have k1:=He h1
 have hl:ts.tail.length+1=ts.length:=by
  cases ts with
  |nil=>exact absurd (show dkS []=0 by decide) h0
  |cons t r=>simp
 split at h
 · obtain ⟨b,r2,h2,h⟩:=Z0 h
   cases h
   have k2:=(stmt_nd B f).2.1 _ _ _ (by omega) h2
   exact ⟨by dsimp only;omega,k2.2,by dsimp only;omega⟩
 obtain ⟨n,r2,h2,h⟩:=Z0 h
 obtain ⟨_,r3,h3,h⟩:=Z0 h
 cases h
 have k3:=Wg h3
 have k2:r2.length≤r1.length:=by
  unfold Dl at h2
  split at h2
  · obtain ⟨_,r4,h4,h2⟩:=Z0 h2
    have:=Wg h4
    split at h2
    · obtain ⟨z,r5,h5,h2⟩:=Z0 h2
      cases h2
      have:=Ho h5;have h6:r4.tail.length≤r4.length:=by simp
      omega
    have:=Ho h2;omega
  split at h2
  · have:=Ho h2;omega
  cases h2;exact Nat.le_refl _
 exact ⟨by simp only [Z1];omega,trivial,by dsimp only;omega⟩
theorem Nt {G:Nat}: ∀ {f:Nat} {ts:List Tk} {ds:List PDec} {B:Nat},ts.length+1≤B→U4 G f ts=some ds→(ds.map fun d=>Z1 d.body+1).sum≤ts.length∧ ∀ d∈ds,Wm B d.body∧(1≤d.k∧d.k≤6)
 |0,_,_,_,_,h=>by cases h
 |f+1,ts,ds,B,hB,h=>by
  rw [U4] at h
  split at h
  · cases h;exact ⟨by simp,fun d hd=>by cases hd⟩
  obtain ⟨d,r,h1,h⟩:=Z0 h
  cases h2:U4 G f r with
  |none=>rw [h2] at h;cases h
  |some us=>
   rw [h2] at h;cases h
   have k1:=decl_nd hB h1
   have k2:=Nt (B:=B) (by omega) h2
   refine ⟨by simp only [List.map_cons,List.sum_cons];omega,fun d hd=> ?_⟩
   rcases List.mem_cons.1 hd with rfl|hd
   · exact k1.2
   exact k2.2 d hd
def MoreD (L:List Tk)(S:Option (List PDec))(G g:Nat)(l:List PDec)(n:Nat)(b:Bool):Prop:=(b=false∧S=(U4 G g (L.drop n)).map (l++ ·))∨(b=true∧S=none)
section
variable {L:List Tk}{S:Option (List PDec)}{G g n m:Nat}{l:List PDec}{d:PDec}{b:Bool}
theorem MoreD.go (h:MoreD L S G (g+1) l n false)(hn:n<L.length)(ho:Out L false (K5 G (L.drop n)) d m b):MoreD L S G g (l++ [d]) m b:=by
 rcases h with ⟨_,e⟩|⟨e,_⟩
 · have hne:L.drop n≠ []:=by rw [List.drop_eq_getElem_cons hn];exact List.cons_ne_nil _ _
   rcases ho with ⟨k1,_,k3⟩|⟨k1,k2⟩
   · refine .inl ⟨k1,?_⟩
     rw [e,U4,if_neg hne,k3];simp only [bnd];cases U4 G g (L.drop m)<;>simp
   refine .inr ⟨k1,?_⟩
   rw [e,U4,if_neg hne,k2.resolve_left (by decide)];rfl
 cases e
theorem MoreD.over (h:MoreD L S G (g+1) l n false)(hn:L.length≤n):S=some l:=by
 rcases h with ⟨_,e⟩|⟨e,_⟩
 · rw [e,List.drop_eq_nil_of_le hn,U4,if_pos rfl];simp
 cases e
theorem MoreD.bad (h:MoreD L S G g l n true):S=none:=by
 rcases h with ⟨e,_⟩|⟨_,e⟩
 · cases e
 exact e
end
theorem A3 {l:Bs}(h:Rk l=none):Q2 l=none:=by
 unfold Rk at h;unfold Q2
 split
 · rfl
 rw [if_neg ‹_›] at h;rw [h]
theorem Ae {l:Bs}{ts:List Tk}(h:Rk l=some ts):Q2 l=(match U4 (10*ts.length+20) (ts.length+1) ts with|none=>none|some ds=>if ds.any (fun d=>Yf d.body 1)=true then none else some ds):=by
 unfold Rk at h;unfold Q2
 split
 · rw [if_pos ‹_›] at h;cases h
 rw [if_neg ‹_›] at h;simp only [h];rfl
theorem lexO_fin {l:Bs}{ts:List Tk}(h:Rk l=some ts):ts.length≤65536∧ ∀ t∈ts,0≤t.n∧t.n≤2147483647:=by
 unfold Rk at h
 split at h
 · cases h
 have:=Kx h;exact ⟨by omega,this.2⟩
def DcsAt (M:Hp)(a:Option Addr)(c:Nat)(l:List Dec):Prop:=SlAt M a c l.length (l.flatMap dcC)∧Decs.At M l
theorem DcsAt.mono {a:Option Addr}{c:Nat}{l:List Dec}{M M':Hp}(e:Hle M M')(h:DcsAt M a c l):DcsAt M' a c l:=⟨h.1.mono e,h.2.mono e⟩
def dsM (a:Option Addr)(c:Nat)(l:List Dec):HP:=lst (fun M=>DcsAt M a c l) DcsAt.mono
theorem Lc {q:List HP}{a:Option Addr}{c:Nat}{l:List Dec}(h:Kn q fun M=>DcsAt M a c l):Sees q a (l.flatMap dcC):=Kn.sees (h.imp fun M h=>h.1.2.2)
theorem Kn.dsI {q:List HP}{a:Option Addr}{c:Nat}{l:List Dec}(h:Kn q fun M=>DcsAt M a c l){i:Nat}(hi:i<l.length):Kn q fun M=>BlkAt M l[i].ba l[i].bc l[i].body:=h.imp fun M h=>h.2 _ (List.getElem_mem hi)
theorem X.dcs {P:Program}{G:World}{fr:Fc}{Q:Yr}{todo:List Item}{p:PE}{ds:List Deferred}{cs:List Frame}{q q1 q2:List HP}{l:List Dec}{s:Dec}(h1:Le q (dcsM l::q1))(h2:Le q1 (dcM s::q2))(K:X P G fr Q todo p ds cs (dcsM (l++ [s])::q2)):X P G fr Q todo p ds cs q:= .le (h1.trans ((Le.cons _ h2).trans C7)) K
theorem X.fzD {P:Program}{G:World}{fr:Fc}{Q:Yr}{todo:List Item}{p:PE}{ds:List Deferred}{cs:List Frame}{q q0:List HP}{a:Option Addr}{c:Nat}{m:List Dec}(K:X P G fr Q todo p ds cs (dsM a c m::q0))(hq:Le q (rsH dcC 6 229 a c m::q0):=by exact Zk)(h:Kn q0 fun M=>Decs.At M m:=by exact knA):X P G fr Q todo p ds cs q:= .frzR (Kn.here.and h.there) K hq
section
variable {G:World}{q:List HP}{s:ByteArray}{n:Nat}
theorem F9:(prog.info? 229).map (fun i=>(i.zero,i.size,i.bytes))=some (some (.agg #[.int .i64 0,.int .i64 0,.int .i64 0,.string ⟨#[]⟩,.int .i64 0,.slice none 0 0]),6,72):=by kernel_rfl
theorem A9 (hn:n≤s.size)(h63:s.size≤65536):CallF prog G 153 [.string s,.int .i64 (n:Int)] (q) (Ret fun v q'=> ∃ y z:Int,v= .agg [.int .i64 y,.int .i64 z].toArray∧q'=q):=by
 refine CallF.of func153 ntmps153 rfl (fun F cs=> ?_)
 refine xo 2 ?_;refine XO.al zeroValue107 fun n1=> ?_
 refine oo 4 ?_;refine XO.al zeroValue107 fun n2=> ?_
 refine stA ?_;refine ox 7 ?_;refine X.at (X.loop (fun (k:Nat×Int×Int)=>k.1≤n∧0≤k.2.1∧k.2.1≤k.1+1∧0≤k.2.2∧k.2.2≤k.1+1) (fun k=> [(6,.int .i64 (k.1:Int)),(0,.string s),(1,.int .i64 (n:Int)),(4,.pointer (some ⟨n1,0,none⟩)),(5,.pointer (some ⟨n2,0,none⟩))]) (fun k=>pto n2 (.cells [.int .i64 k.2.1,.int .i64 k.2.2].toArray 107 (0,0))::pto n1 (.cells [.int .i64 0,.int .i64 0].toArray 107 (0,0))::(q++F)) (fun k=>n - k.1) (fun k hi_ ih=> ?_) (0,1,1) ⟨by omega,by decide,by decide,by decide,by decide⟩) Zd leA
 try dsimp only at hi_ ih⊢
 obtain ⟨hk1,hk2,hk3,hk4,hk5⟩:=hi_
 obtain ⟨k,y,z⟩:=k;dsimp only at*
 refine xx 7 ?_;refine X.part 10 rfl (fun h1=> ?_) (fun h1=> ?_)
 · replace h1:=sp h1
   refine xj 7 ?_;refine oo 2 ?_;refine st ?_;refine oo 5 ?_;refine Zt (Wh rfl rfl underlying9 (by omega) (by omega)) ?_
   refine ox 2 ?_;refine X.part 20 rfl (fun h2=> ?_) (fun h2=> ?_)
   · replace h2:=sp h2
     refine xj 3 ?_;refine oo 2 ?_;refine st ?_;refine oo 1 ?_;refine st ?_;refine ox 7 ?_;refine X.at (ih (k+1,y+1,1) ⟨by dsimp only;omega,by dsimp only;omega,by dsimp only;omega,by dsimp only;omega,by dsimp only;omega⟩ (by dsimp only;omega)) Zd leA
   replace h2:=sp h2
   refine xx 8 ?_;refine X.at (ih (k+1,y,z+1) ⟨by dsimp only;omega,by dsimp only;omega,by dsimp only;omega,by dsimp only;omega,by dsimp only;omega⟩ (by dsimp only;omega)) Zd leA
 replace h1:=sp h1
 refine xo 4 ?_;refine ldA ?_;refine stA ?_;refine ox 1 ?_;refine Zq (q) func153 (rA_ results153) ⟨_,rfl,y,z,rfl,rfl⟩
theorem End_ok (h63:s.size≤65536):CallF prog G 115 [.string s] (q) (Ret fun v q'=> ∃ y z:Int,v= .agg [.int .i64 y,.int .i64 z].toArray∧q'=q):=by
 refine CallF.of func115 ntmps115 rfl (fun F cs=> ?_)
 refine xo 2 ?_;refine XO.al zeroValue107 fun n1=> ?_
 refine oo 6 ?_;refine Zf call153 (Le.refl _) (A9 (n:=s.size) (Nat.le_refl _) h63) ?_
 rintro _ _ ⟨y,z,rfl,rfl⟩
 refine stA ?_;refine ox 1 ?_;refine Zq (q) func115 (rA_ results115) ⟨_,rfl,y,z,rfl,rfl⟩
set_option maxHeartbeats 4000000 in
theorem Parse_ok:CallF prog G 76 [.string s] (q) (Ret fun v q'=>(∃ ds a c,Q2 (bs s)=some (ds.map Dec.er)∧v= .tuple [.slice a ds.length c,.agg [.int .i64 0,.int .i64 0].toArray,.int .i64 0].toArray∧q'=dsM a c ds::q)∨(Q2 (bs s)=none∧ ∃ (y z e:Int),e≠0∧v= .tuple [.slice none 0 0,.agg [.int .i64 y,.int .i64 z].toArray,.int .i64 e].toArray∧q'=q)):=by
 refine CallF.of func76 ntmps76 rfl (fun F cs=> ?_)
 refine xo 3 ?_;refine XO.al zeroValue107 fun n1=> ?_
 refine oo 5 ?_;refine Zf call113 (Le.refl _) (Lex_ok) ?_;rintro _ _ (⟨L,la,lc,hx,rfl,rfl⟩|⟨hx,y,z,e,he,rfl,rfl⟩)
 · obtain ⟨hn,hT⟩:=lexO_fin hx;have hP:=Ae hx;obtain ⟨S,hS⟩: ∃ S,U4 (10*L.length+20) (L.length+1) L=S:=⟨_,rfl⟩;rw [hS] at hP
   have hlen:=Zv (f:=tkC) (sz:=5) (fun _=>rfl) L
   refine oo 4 ?_;refine XO.al zeroValue107 fun n2=> ?_
   refine oo 1 ?_;refine stA ?_;refine ox 8 ?_;refine Wy 20 ?_;refine xo 6 ?_;refine Y8 fun n3=> ?_
   refine ox 8 ?_
   have hS0:MoreD L S (10*L.length+20) (L.length+1) [] 0 false:= .inl ⟨rfl,by rw [←hS,List.drop_zero];cases U4 (10*L.length+20) (L.length+1) L<;>rfl⟩
   refine X.at (X.loop (fun (s_:(Option Addr×Nat×List Dec)×Nat×Bool×Nat)=>s_.2.1≤L.length∧(s_.2.2.1=false→L.length - s_.2.1<s_.2.2.2∧s_.1.2.2.length≤s_.2.1)∧s_.1.2.2.length≤s_.2.1+1∧MoreD L S (10*L.length+20) s_.2.2.2 (s_.1.2.2.map Dec.er) s_.2.1 s_.2.2.1) (fun s_=> [(9,.slice s_.1.1 s_.1.2.2.length s_.1.2.1),(8,.pointer (some ⟨n3,0,none⟩)),(5,.slice la L.length lc),(0,.string s),(2,.slice none 0 0),(3,.pointer (some ⟨n1,0,none⟩)),(4,.int .i64 0)]) (fun s_=>rdH n3 la lc L s_.2.1 s_.2.2.1::rsH dcC 6 229 s_.1.1 s_.1.2.1 (s_.1.2.2)::dcsM s_.1.2.2::rsH tkC 5 234 la lc L::pto n1 (.cells [.int .i64 0,.int .i64 0].toArray 107 (0,0))::(q++F)) (fun s_=>2*(L.length - s_.2.1)+(if s_.2.2.1=true then 0 else 1)) (fun s_ hi_ ih=> ?_) ((none,0, []),0,false,L.length+1) ⟨Nat.zero_le _,fun _=>⟨by dsimp only;omega,Nat.le_refl _⟩,by simp,hS0⟩) Zd (Le.trans leA (Le.trans (Zl dcC 6 229 _) (Le.trans Lg leA)))
   try dsimp only at hi_ ih⊢
   obtain ⟨hi1,hi2,hi3,hi4⟩:=hi_
   obtain ⟨⟨a,c,l⟩,n,b,g⟩:=s_;dsimp only at*;clear hS0
   refine xj 6 ?_;refine Zt (Pu.not rfl) ?_;refine oo 1 ?_;refine Zm [31,9,8,5,0,2,3,4] ?_
   apply Zp 8 39 31 rfl
   · intro g1 M1;have h1:=sp g1
     refine ol 3 ?_;refine oo 4 ?_;exact Zz M1 ⟨Wz g1,Zw⟩
   · intro g1 M1;have h1:=sp g1
     refine oo 8 ?_;exact Zz M1 ⟨Wj g1,Zw⟩
   refine ox 1 ?_;refine X.part 39 rfl (fun h1=> ?_) (fun h1=> ?_)
   · replace h1:=sp h1
     refine xo 6 ?_;obtain ⟨rfl,h2⟩:b=false∧n<L.length:=⟨h1.1,by have:=h1.2;omega⟩
     obtain ⟨hf1,hf2⟩:=hi2 rfl;obtain ⟨g,rfl⟩: ∃ g2,g=g2+1:=⟨g - 1,by omega⟩
     refine Zf call114 leA (decl_ok (f:=10*L.length+20) (n:=n) (bad:=false) (L:=L) (Sees.le (Sees.rsH _) Zk) hn hi1 hT (by omega)) ?_
     rintro _ _ ⟨d,m2,b2,rfl,rfl,⟨hm2,hd2⟩,hM2,ho2⟩
     refine XO.ef (Yj (u:=d) dcC underlying161 F9 rfl rfl (fun _=>rfl) rfl) ?_
     rintro _ _ ⟨g2,rfl,rfl⟩
     refine XO.ef (Yq (f:=dcC) (l:=l) (m:= [d]) underlying161 F9 rfl rfl (fun _=>rfl) rfl rfl Zk ((Sees.rsH _).le Zk) (fun _=>rfl) (by simp;omega) (by simp;omega)) ?_
     rintro _ _ ⟨a3,c3,rfl,rfl⟩
     refine ox 3 ?_;refine X.dcs (l:=l) (s:=d) Zk Zk ?_
     refine X.at (ih ((a3,c3,l++ [d]),m2,b2,g) ⟨hM2,fun hb=>⟨by have:=hd2 hb;dsimp only;omega,by have:=hd2 hb;simp;omega⟩,by simp;omega,by rw [List.map_append];exact hi4.go h2 ho2⟩ (by dsimp only;cases b2 with|true=>simp;omega|false=>have:=hd2 rfl;simp;omega)) Zd leA
   replace h1:=sp h1
   refine xj 8 ?_;refine ox 1 ?_;refine X.part 48 rfl (fun h2=> ?_) (fun h2=> ?_)
   · replace h2:=sp h2
     refine xj 7 ?_;refine ox 4 ?_;refine X.part 55 rfl (fun h3=> ?_) (fun h3=> ?_)
     · replace h3:=sp h3
       refine xo 4 ?_;refine Zf call115 (Le.refl _) (End_ok (s:=s) (by have:=hx;unfold Rk at this;split at this;cases this;rw [←Kg];omega)) ?_
       rintro _ _ ⟨y,z,rfl,rfl⟩
       refine oo 1 ?_;refine stA ?_;refine ox 2 ?_
       subst h2;have hSn:=hi4.bad
       refine Zq (q) func76 (Td results76) ⟨_,rfl,.inr ⟨by rw [hP,hSn],y,z,120,by first|assumption|decide,rfl,rfl⟩⟩
     replace h3:=sp h3
     refine xx 3 ?_;refine drw ?_;refine dl [0,1,2,3] 4 ?_
     have hlt:n<L.length:=by omega
     refine Km (Sees.rsH (f:=tkC) (sz:=5) (ty:=234) (a:=la) (c:=lc) (l:=L) []) (by rw [hlen];omega) (fun b1 o1 e1=> ?_);subst e1
     refine dd [5,6] ?_;refine XD.rdCs 7 (us:= [.int .i64 L[n].ln,.int .i64 L[n].cl]) rfl rfl isAgg107 sizeOf107 rfl (fun k v hk=>by match k,hk with|0,hk=>cases hk;exact Cl.row (n:=n) (Sees.rsH (f:=tkC) (sz:=5) (ty:=234) (c:=lc) (l:=L) []) leA (fun _=>rfl) hlt rfl 3 _ rfl|1,hk=>cases hk;exact Cl.row (n:=n) (Sees.rsH (f:=tkC) (sz:=5) (ty:=234) (c:=lc) (l:=L) []) leA (fun _=>rfl) hlt rfl 4 _ rfl) ?_
     refine dd [8] ?_;refine V1 9 ?_;refine dd [10] ?_;refine XD.nil ?_
     subst h2;have hSn:=hi4.bad
     refine Zq (q) func76 (Td results76) ⟨_,rfl,.inr ⟨by rw [hP,hSn],L[n].ln,L[n].cl,120,by first|assumption|decide,rfl,rfl⟩⟩
   replace h2:=sp h2
   refine xx 8 ?_
   subst h2;replace h1:L.length≤n:=by rcases h1 with h1|h1;cases h1;omega
   obtain ⟨g,rfl⟩: ∃ g2,g=g2+1:=⟨g - 1,by have:=(hi2 rfl).1;omega⟩
   have hSl:=hi4.over h1;rw [hSl] at hP hS;dsimp only at hP
   have hbd: ∀ d∈l,Wm 1000000 (Zj d.body):=fun d hd=>Qi (by omega) ((Nt (Nat.le_refl _) hS).2 d.er (List.mem_map_of_mem hd)).1
   refine X.fzD (m:=l) ?_
   have hkD:Kn [dsM a c l] fun M=>DcsAt M a c l:=Kn.here;have hsD:=Lc hkD;have hdl:=Zv (f:=dcC) (sz:=6) (fun _=>rfl) l;clear ih hi4
   refine X.at (X.loop (fun (k:Nat×Option Addr)=>k.1≤l.length∧k.2=a∧((l).map Dec.er).any (fun d=>Yf d.body 1)=((l.drop k.1).map Dec.er).any (fun d=>Yf d.body 1)) (fun k=> [(10,.int .i64 (k.1:Int)),(9,.slice k.2 l.length c),(2,.slice none 0 0),(3,.pointer (some ⟨n1,0,none⟩)),(4,.int .i64 0)]) (fun k=>dsM a c l::pto n1 (.cells [.int .i64 0,.int .i64 0].toArray 107 (0,0))::(q++F)) (fun k=>l.length - k.1) (fun k hi_ ihk=> ?_) (0,a) ⟨Nat.zero_le _,rfl,rfl⟩) Zd leA
   try dsimp only at hi_ ihk⊢
   obtain ⟨hk1,hk2,hk3⟩:=hi_
   obtain ⟨k,a2⟩:=k;dsimp only at*;subst hk2
   refine xx 8 ?_;refine X.part 69 rfl (fun h3=> ?_) (fun h3=> ?_)
   · replace h3:=sp h3;have hlt:k<l.length:=by omega
     have hdk:l.drop k=l[k]::l.drop (k+1):=List.drop_eq_getElem_cons hlt
     refine Yx hsD (by rw [hdl];omega) (fun b2 o2 e2=> ?_);subst e2
     refine xj 10 ?_;refine Zf call116 (Le.refl _) (Iy _ l[k].body l[k].ba l[k].bc 1 (Nat.le_refl _) (hbd _ (List.getElem_mem hlt)) (by decide) ((Kn.dsI hkD hlt).le leA)) ?_
     rintro _ _ ⟨pl,pc,rfl,rfl⟩
     refine oo 3 ?_;refine XO.al zeroValue107 fun n4=> ?_
     refine stA ?_;refine ox 6 ?_;refine X.part 81 rfl (fun h4=> ?_) (fun h4=> ?_)
     · replace h4:=sp h4
       refine xx 2 ?_;refine drw ?_;refine Ji 0 ?_;refine dd [1] ?_;refine V1 2 ?_;refine dd [3] ?_;refine XD.nil ?_;refine Zq (q) func76 (Td results76) ⟨_,rfl,.inr ⟨by rw [hP,hk3,hdk,if_pos (by rw [List.map_cons,List.any_cons];simp only [Dec.er];rw [h4];rfl)],pl,pc,121,by first|assumption|decide,rfl,rfl⟩⟩
     replace h4:=sp h4
     refine xx 8 ?_;refine X.at (ihk (k+1,_) ⟨by dsimp only;omega,rfl,by rw [hk3,hdk,List.map_cons,List.any_cons];simp only [Dec.er];rw [h4];rfl⟩ (by dsimp only;omega)) Zd leA
   replace h3:=sp h3;obtain rfl:k=l.length:=by omega
   refine xo 7 ?_;refine stA ?_;refine ox 2 ?_;refine Zq (dsM a2 c l::q) func76 (Td results76) ⟨_,rfl,.inl ⟨l,a2,c,by rw [hP,hk3,List.drop_length,if_neg (by simp)],rfl,rfl⟩⟩
 have hP:=A3 hx
 refine oo 4 ?_;refine XO.al zeroValue107 fun n2=> ?_
 refine oo 1 ?_;refine stA ?_;refine ox 8 ?_;refine X.know 20 (.bool true) rfl (congrArg Value.bool (by simpa using he)) ?_
 refine xx 2 ?_;refine drw ?_;refine Ji 0 ?_;refine dd [1,2] ?_;refine V1 3 ?_;refine dd [4] ?_;refine XD.nil ?_;refine Zq (q) func76 (Td results76) ⟨_,rfl,.inr ⟨hP,y,z,e,by first|assumption|decide,rfl,rfl⟩⟩
end
def nmS (w:Bs):Bool:=if w.length<1∨16<w.length∨Pq (w.getD 0 0)=false∨kwS w=true then false else w.all Mc
def Sa (k:Int):Nat:=if k=3∨k=4∨k=5 then 1 else if k=6 then 2 else 0
def Su (k n:Int)(nm:Bs)(op:Int):Bool:=if k=1 then decide (0≤n) && decide (n≤2147483647) else if k=2∨k=3 then nmS nm else if k=6 then decide (1≤op) && decide (op≤11) else true
def Tt (k n:Int)(nm:Bs)(op:Int)(d:Nat):Bool:=decide ((d:Int)<1)||(k !=1 && n !=0)||(k !=2 && k !=3 && !(nm== []))||(k !=6 && op !=0)
mutual
def PEx.right:PEx→Nat→Bool
 | .mk k n nm _ _ op args,d=>if Tt k n (bs nm) op d=true then false else if 1≤k∧k≤6 then Su k n (bs nm) op && decide (args.length=Sa k) && Y9 args (d - 1) else false
def Y9:List PEx→Nat→Bool
 | [],_=>true
 |e::r,d=>e.right d && Y9 r d
end
def PEx.nil:PEx→Bool
 | .mk k n nm _ _ op args=>k==0 && n==0 && bs nm== [] && op==0 && decide (args.length=0)
def hasN (k:Int):Bool:=k !=4 && k !=5 && decide (k<14)
def hasW (k:Int):Bool:=k==8||k==12
def Ds (k:Int):Bool:=decide (k≤5)||k==11||k==15
def A7 (k:Int)(n:Nat):Bool:=decide (k<1)||decide (15<k)||decide (24<(n:Int))
def may2 (k:Int)(nm wt:Bs):Bool:=(hasN k !=nmS nm)||(!hasN k && !(nm== []))||(hasW k !=nmS wt)||(!hasW k && !(wt== []))
def Gi (k:Int)(e ix:PEx):Bool:=(Ds k && !e.right 24)||(!Ds k && !e.nil)||(k==3 && !ix.right 24)||(k !=3 && !ix.nil)
def A6 (k:Int)(b l:Nat):Bool:=(k !=4 && k !=5 && decide (0<(b:Int)))||(k !=4 && decide (0<(l:Int)))
mutual
def PStm.may:PStm→Nat→Bool
 | .mk k _ _ nm wt e ix body els _ _ _ _,n=>
  if A7 k n=true then false else if may2 k (bs nm) (bs wt)=true then false else if Gi k e ix=true then false else if A6 k body.length els.length=true then false
  else Yy body (n+1) && Yy els (n+1)
def Yy:List PStm→Nat→Bool
 | [],_=>true
 |s::r,n=>s.may n && Yy r n
end
def A8 (k n:Int)(nm:Bs)(b:Nat)(m:Bool):Bool:=decide (k<1)||decide (6<k)|| !nmS nm||(k !=6 && decide (0<(b:Int)))||decide (2147483647<n)||decide (n< -2147483647)||(k !=1 && decide (n<0))||(k !=1 && k !=2 && k !=5 && n !=0)|| !m
def PDec.bad (d:PDec):Bool:=A8 d.k d.n (bs d.nm) d.body.length (Yy d.body 1)
theorem X.join {P:Program}{G:World}{f:Fc}{Q:Yr}{a:Item}{k:List Item}{p:PE}{ds:List Deferred}{cs:List Frame}{q:List HP}{α:Type}(E:α→PE)(C:α→List HP)(I:α→Prop)(hK: ∀ x,I x→X P G f Q k (E x) ds cs (C x))(h:(∀ x,I x→X P G f Q k (E x) ds cs (C x))→X P G f Q (a::k) p ds cs q):X P G f Q (a::k) p ds cs q:=h hK
theorem aln_all {l:Bs}{i:Nat}(h:i<l.length):l.all Mc=((l.take i).all Mc && (Mc (l.getD i 0) && (l.drop (i+1)).all Mc)):=by
 conv=>lhs;rw [←List.take_append_drop i l,List.drop_eq_getElem_cons h]
 rw [List.all_append,List.all_cons,gD h]
section
variable {G:World}{q:List HP}{s:ByteArray}{e:Ex}{x:Stm}{l:List Stm}{a:Option Addr}{c n d:Nat}
theorem Gd:CallF prog G 155 [.string s] (q) (Ret fun v q'=>v= .bool (nmS (bs s))∧q'=q):=by
 refine CallF.of func155 ntmps155 rfl (fun F cs=> ?_)
 have hbl:=Kg s
 refine xo 11 ?_;refine Zm [7,2,0] ?_
 apply Zb 4 11 7 rfl
 · intro g1 M1;have h1:=sp g1
   refine oo 4 ?_;exact Zz M1 ⟨orF g1,Zw⟩
 · intro g1 M1;have h1:=sp g1
   refine oo 4 ?_;exact Zz M1 ⟨orT g1,Zw⟩
 refine oo 1 ?_;refine Zm [12,2,0] ?_
 apply Zb 5 17 12 rfl
 · intro g1 M1;have h1:=sp g1
   refine oo 1 ?_;refine Zt (Wh rfl rfl underlying9 (by omega) (by omega)) ?_
   refine XO.know 14 (.int .u8 (((bs s).getD 0 0).toNat:Int)) rfl (rfl) ?_;refine XO.cR call182 (Ty (c:=(bs s).getD 0 0)) ?_
   refine Zt (Pu.not rfl) ?_;refine oo 1 ?_;exact Zz M1 ⟨orF g1,Zw⟩
 · intro g1 M1;have h1:=sp g1
   refine oo 5 ?_;exact Zz M1 ⟨orT g1,Zw⟩
 refine oo 1 ?_;refine Zm [18,2,0] ?_
 apply Zb 3 21 18 rfl
 · intro g1 M1;have h1:=sp g1
   refine oo 1 ?_;refine XO.cR call179 (Q6) ?_;refine oo 1 ?_;exact Zz M1 ⟨orF g1,Zw⟩
 · intro g1 M1;have h1:=sp g1
   refine oo 3 ?_;exact Zz M1 ⟨orT g1,Zw⟩
 refine ox 1 ?_;refine X.part 21 rfl (fun h1=> ?_) (fun h1=> ?_)
 · replace h1:=sp h1
   refine xx 5 ?_;refine Zq (q) func155 (Zg results155 rfl) ⟨_,rfl,by unfold nmS;rw [if_pos];rcases h1 with ((h1|h1)|h1)|h1;exact .inl (by omega);exact .inr (.inl (by omega));exact .inr (.inr (.inl (by simpa using h1)));exact .inr (.inr (.inr h1)),rfl⟩
 replace h1:=sp h1
 refine xx 8 ?_
 have h63:s.size≤16:=by have:=h1.1.1.2;omega
 have hN:nmS (bs s)=(bs s).all Mc:=by unfold nmS;rw [if_neg];rintro (h|h|h|h)<;>first|omega|simp_all
 refine X.at (X.loop (fun (k:Nat)=>k≤s.size∧((bs s).take k).all Mc=true) (fun k=> [(3,.int .i64 (k:Int)),(0,.string s),(2,.bool false)]) (fun k=>(q++F)) (fun k=>s.size - k) (fun k hi_ ih=> ?_) 0 ⟨Nat.zero_le _,rfl⟩) Zd leA
 try dsimp only at hi_ ih⊢
 obtain ⟨hk1,hk2⟩:=hi_
 refine xx 8 ?_;refine X.part 25 rfl (fun t1=> ?_) (fun t1=> ?_)
 · replace t1:=sp t1
   refine xo 8 ?_;refine Zt (Wh rfl rfl underlying9 (by omega) (by omega)) ?_
   refine XO.know 30 (.int .u8 (((bs s).getD k 0).toNat:Int)) rfl (rfl) ?_;refine XO.cR call182 (Ty (c:=(bs s).getD k 0)) ?_
   refine Zt (Pu.not rfl) ?_;refine oo 1 ?_;refine Zm [33,3,0,2] ?_
   apply Zp 6 39 33 rfl
   · intro g2 M2;have t2:=sp g2
     refine oo 2 ?_;refine Zt (Wh rfl rfl underlying9 (by omega) (by omega)) ?_
     refine XO.know 36 (.int .u8 (((bs s).getD k 0).toNat:Int)) rfl (rfl) ?_;refine XO.cR call177 (Nc (c:=(bs s).getD k 0)) ?_
     refine Zt (Pu.not rfl) ?_;refine oo 1 ?_;exact Zz M2 ⟨Wz g2,Zw⟩
   · intro g2 M2;have t2:=sp g2
     refine oo 6 ?_;exact Zz M2 ⟨Wj g2,Zw⟩
   refine ox 1 ?_;refine X.part 39 rfl (fun t2=> ?_) (fun t2=> ?_)
   · replace t2:=sp t2
     refine xx 5 ?_;refine Zq (q) func155 (Zg results155 rfl) ⟨_,rfl,by rw [hN,aln_all (i:=k) (by omega)];have ha:Mc ((bs s).getD k 0)=false:=(by unfold Mc;revert t2;cases Pq ((bs s).getD k 0)<;>cases Qm ((bs s).getD k 0)<;>simp);rw [ha];simp,rfl⟩
   replace t2:=sp t2
   refine xx 8 ?_
   have hlt:k<(bs s).length:=(by omega);have ha:Mc ((bs s).getD k 0)=true:=by unfold Mc;revert t2;cases Pq ((bs s).getD k 0)<;>cases Qm ((bs s).getD k 0)<;>simp
   refine X.at (ih (k+1) ⟨by omega,by rw [List.take_succ_eq_append_getElem hlt,List.all_append,hk2,←gD (d:=0) hlt];simp only [List.all_cons,ha,List.all_nil];rfl⟩ (by omega)) Zd leA
 replace t1:=sp t1
 refine xx 6 ?_;refine Zq (q) func155 (Zg results155 rfl) ⟨_,rfl,by rw [hN,←hk2,List.take_of_length_le (by omega)],rfl⟩
set_option maxHeartbeats 1000000 in
theorem As (IH: ∀ x:Ex,x.sz<e.sz→ ∀ {d:Nat} {q:List HP},d≤9223372036854775807→(Kn q fun M=>x.At M)→CallF prog G 202 [.agg (exC x).toArray,.int .i64 (d:Int)] q (Ret fun v q'=>v= .bool (x.er.right d)∧q'=q))(hd:d≤9223372036854775807)(h:Kn q fun M=>e.At M):CallF prog G 202 [.agg (exC e).toArray,.int .i64 (d:Int)] (q) (Ret fun v q'=>v= .bool (e.er.right d)∧q'=q):=by
 refine CallF.of func202 ntmps202 rfl (fun F cs=> ?_)
 obtain ⟨k,z,nm,sl,lo,op,args,aa,ac⟩:=e
 have hA:=Ld h;have hlen:=Zv (f:=exC) (sz:=7) Z4 args;have hel:=W8 args
 refine X.fact (fun w s=>Kn.exL (h.le leA) s) (fun hal=> ?_)
 have hR:(Ex.mk k z nm sl lo op args aa ac).er.right d=if Tt k z (bs nm) op d=true then false else if 1≤k∧k≤6 then Su k z (bs nm) op && decide (args.length=Sa k) && Y9 (Z3 args) (d - 1) else false:=by simp only [Ex.er,PEx.right,hel]
 obtain ⟨R,hRR⟩: ∃ R,(Ex.mk k z nm sl lo op args aa ac).er.right d=R:=⟨_,rfl⟩;rw [hRR] at hR⊢
 refine xo 2 ?_;refine Y8 fun n1=> ?_
 refine oo 8 ?_;refine Zm [10,4,2,1] ?_
 apply Zb 9 19 10 rfl
 · intro g1 M1;have h1:=sp g1
   refine ol 1 ?_;refine oo 2 ?_;refine Zm [14,10,4,2,1] ?_
   apply Zp 4 18 14 rfl
   · intro g2 M2;have h2:=sp g2
     refine ol 1 ?_;refine oo 2 ?_;exact Zz M2 ⟨Wz g2,Zw⟩
   · intro g2 M2;have h2:=sp g2
     refine oo 4 ?_;exact Zz M2 ⟨Wj g2,Zw⟩
   refine oo 1 ?_;exact Zz M1 ⟨orF g1,Zw⟩
 · intro g1 M1;have h1:=sp g1
   refine oo 9 ?_;exact Zz M1 ⟨orT g1,Zw⟩
 refine oo 1 ?_;refine Zm [20,4,2,1] ?_
 apply Zb 14 34 20 rfl
 · intro g1 M1;have h1:=sp g1
   refine ol 1 ?_;refine oo 2 ?_;refine Zm [24,20,4,2,1] ?_
   apply Zp 4 28 24 rfl
   · intro g2 M2;have h2:=sp g2
     refine ol 1 ?_;refine oo 2 ?_;exact Zz M2 ⟨Wz g2,Zw⟩
   · intro g2 M2;have h2:=sp g2
     refine oo 4 ?_;exact Zz M2 ⟨Wj g2,Zw⟩
   refine oo 1 ?_;refine Zm [29,20,4,2,1] ?_
   apply Zp 4 33 29 rfl
   · intro g2 M2;have h2:=sp g2
     refine ol 1 ?_;refine oo 2 ?_;exact Zz M2 ⟨Wz g2,Zw⟩
   · intro g2 M2;have h2:=sp g2
     refine oo 4 ?_;exact Zz M2 ⟨Wj g2,Zw⟩
   refine oo 1 ?_;exact Zz M1 ⟨orF g1,Zw⟩
 · intro g1 M1;have h1:=sp g1
   refine oo 14 ?_;exact Zz M1 ⟨orT g1,Zw⟩
 refine oo 1 ?_;refine Zm [35,4,2,1] ?_
 apply Zb 9 44 35 rfl
 · intro g1 M1;have h1:=sp g1
   refine ol 1 ?_;refine oo 2 ?_;refine Zm [39,35,4,2,1] ?_
   apply Zp 4 43 39 rfl
   · intro g2 M2;have h2:=sp g2
     refine ol 1 ?_;refine oo 2 ?_;exact Zz M2 ⟨Wz g2,Zw⟩
   · intro g2 M2;have h2:=sp g2
     refine oo 4 ?_;exact Zz M2 ⟨Wj g2,Zw⟩
   refine oo 1 ?_;exact Zz M1 ⟨orF g1,Zw⟩
 · intro g1 M1;have h1:=sp g1
   refine oo 9 ?_;exact Zz M1 ⟨orT g1,Zw⟩
 refine ox 1 ?_;refine X.part 44 rfl (fun h1=> ?_) (fun h1=> ?_)
 · have hd1:Tt k z (bs nm) op d=true:=by rw [Aa] at h1;unfold Tt;rw [←h1];simp only [Bool.or_assoc,Bool.and_assoc];rfl
   refine xx 5 ?_;refine Zq (q) func202 (Zg results202 rfl) ⟨_,rfl,by rw [hR,if_pos hd1],rfl⟩
 have hd1: ¬Tt k z (bs nm) op d=true:=by rw [Aa] at h1;intro hd1;rw [←Bool.not_eq_true] at h1;apply h1;rw [←hd1];unfold Tt;simp only [Bool.or_assoc,Bool.and_assoc];rfl
 rw [if_neg hd1] at hR
 have hdp:1≤d:=by rcases Nat.lt_or_ge d 1 with hx|hx;exact absurd (by unfold Tt;rw [show decide ((d:Int)<1)=true from decide_eq_true (by omega)];rfl) hd1;exact hx
 refine xj 11 ?_;refine ox 1 ?_;refine X.join (fun (x:Nat×Bool)=> [(5,.int .i64 (x.1:Nat)),(6,.bool x.2),(2,.pointer (some ⟨n1,0,none⟩)),(1,.int .i64 (d:Int)),(4,.bool false)]) (fun x=>pto n1 (.cells (exC (.mk k z nm sl lo op args aa ac)).toArray 124 (0,0))::(q++F)) (fun x=>R=(x.2 && decide (args.length=x.1) && Y9 (Z3 args) (d - 1))∧x.1≤2) (fun x hx_=> ?_) (fun K=> ?_)
 · obtain ⟨m,ok⟩:=x;dsimp only at hx_⊢;obtain ⟨hx1,hx2⟩:=hx_
   refine xo 4 ?_;refine Zt (Pu.not rfl) ?_;refine oo 1 ?_;refine Zm [82,5,2,1,4] ?_
   apply Zb 6 88 82 rfl
   · intro g1 M1;have h1:=sp g1
     refine ol 1 ?_;refine oo 4 ?_;exact Zz M1 ⟨orF g1,Zw⟩
   · intro g1 M1;have h1:=sp g1
     refine oo 6 ?_;exact Zz M1 ⟨orT g1,Zw⟩
   refine ox 1 ?_;refine X.part 88 rfl (fun h1=> ?_) (fun h1=> ?_)
   · replace h1:=sp h1
     refine xx 5 ?_;refine Zq (q) func202 (Zg results202 rfl) ⟨_,rfl,by rw [hx1];rcases h1 with h1|h1;rw [h1];rfl;rw [show decide (args.length=m)=false from decide_eq_false (by omega)];simp,rfl⟩
   replace h1:=sp h1
   refine xx 8 ?_;obtain ⟨h1,h2⟩:=h1;obtain rfl:m=args.length:=by omega
   rw [h1,decide_eq_true rfl,Bool.true_and,Bool.true_and] at hx1
   refine X.at (X.loop (fun (s:Nat×Option Addr)=>s.1≤args.length∧R=Y9 (Z3 (args.drop s.1)) (d - 1)) (fun s=> [(7,.int .i64 (s.1:Int)),(5,.int .i64 (args.length:Int)),(2,.pointer (some ⟨n1,0,none⟩)),(1,.int .i64 (d:Int)),(4,.bool false)]) (fun s=>pto n1 (.cells (exC (.mk k z nm sl lo op args aa ac)).toArray 124 (0,0))::(q++F)) (fun s=>args.length - s.1) (fun s hi_ ih=> ?_) (0,none) ⟨Nat.zero_le _,hx1⟩) Zd leA
   try dsimp only at hi_ ih⊢
   obtain ⟨hi1,hi2⟩:=hi_
   obtain ⟨s,sx⟩:=s;dsimp only at*
   refine xx 7 ?_;refine X.part 91 rfl (fun t1=> ?_) (fun t1=> ?_)
   · replace t1:=sp t1
     refine xj 7 ?_;refine oo 1 ?_
     have hlt:s<args.length:=by omega
     have hds:Y9 (Z3 (args.drop s)) (d - 1)=(args[s].er.right (d - 1) && Y9 (Z3 (args.drop (s+1))) (d - 1)):=by rw [List.drop_eq_getElem_cons hlt];rfl
     refine Kh hA (by rw [hlen];omega) (fun b1 o1 e1=> ?_);subst e1
     refine oo 1 ?_;refine Q8 (n:=s) isAgg124 sizeOf124 hA hlt ?_ (hf:=Z4)
     refine oo 2 ?_;refine XO.know 100 (.int .i64 ((d - 1:Nat):Int)) rfl (congrArg (Value.int .i64) (by omega)) ?_
     refine XO.cR call202 (IH args[s] (by have:=Vk (List.getElem_mem hlt);simp only [Ex.sz];omega) (d:=d - 1) (by omega) (Lu (h.le leA) hlt)) ?_
     refine Zt (Pu.not rfl) ?_;refine ox 1 ?_;refine X.part 102 rfl (fun t2=> ?_) (fun t2=> ?_)
     · replace t2:=sp t2
       refine xx 5 ?_;refine Zq (q) func202 (Zg results202 rfl) ⟨_,rfl,by rw [hi2,hds,t2];rfl,rfl⟩
     replace t2:=sp t2
     refine xx 8 ?_;refine X.at (ih (s+1,none) ⟨by dsimp only;omega,by rw [hi2,hds,t2];rfl⟩ (by dsimp only;omega)) Zd leA
   replace t1:=sp t1
   refine xx 6 ?_;refine Zq (q) func202 (Zg results202 rfl) ⟨_,rfl,by obtain rfl:s=args.length:=(by omega);rw [hi2,List.drop_length];rfl,rfl⟩
 have hcl:k=1∨k=2∨k=3∨k=4∨k=5∨k=6∨ ¬ (1≤k∧k≤6):=by omega
 rcases hcl with rfl|rfl|rfl|rfl|rfl|rfl|hcl
 · rw [if_pos (by decide)] at hR
   refine xx 6 ?_;refine X.kt 47 ?_;refine xj 3 ?_;refine oo 2 ?_;refine Zm [52,6,5,4,2,1] ?_
   apply Zp 4 56 52 rfl
   · intro g1 M1;have h1:=sp g1
     refine ol 1 ?_;refine oo 2 ?_;exact Zz M1 ⟨Wz g1,Zw⟩
   · intro g1 M1;have h1:=sp g1
     refine oo 4 ?_;exact Zz M1 ⟨Wj g1,Zw⟩
   refine ox 3 ?_;exact X.at (K (0,(decide (0≤z) && decide (z≤2147483647))) ⟨hR,show 0≤2 by decide⟩) Zd leA
 · rw [if_pos (by decide)] at hR
   refine xx 6 ?_;refine kx 47 6 ?_;refine X.kt 57 ?_;refine xj 3 ?_;refine XO.cR call155 (Gd (s:=nm)) ?_
   refine ox 3 ?_;exact X.at (K (0,nmS (bs nm)) ⟨hR,show 0≤2 by decide⟩) Zd leA
 iterate 4
  focus
   rw [if_pos (by decide)] at hR
   refine xx 6 ?_;refine kx 47 6 ?_;refine kx 57 6 ?_
  rotate_left
 · rw [if_neg hcl] at hR
   refine xx 6 ?_;refine X.know 47 (.bool false) rfl (congrArg Value.bool (beq_eq_false_iff_ne.2 (by omega))) ?_
   refine xx 6 ?_;refine X.know 57 (.bool false) rfl (congrArg Value.bool (beq_eq_false_iff_ne.2 (by omega))) ?_
   refine xx 6 ?_;refine X.know 62 (.bool false) rfl (congrArg Value.bool (beq_eq_false_iff_ne.2 (by omega))) ?_
   refine xx 7 ?_;refine X.know 67 (.bool false) rfl (congrArg Value.bool (beq_eq_false_iff_ne.2 (by omega))) ?_
   refine xx 5 ?_;refine X.know 67 (.bool false) rfl (congrArg Value.bool (beq_eq_false_iff_ne.2 (by omega))) ?_
   refine xx 6 ?_;refine X.know 70 (.bool false) rfl (congrArg Value.bool (beq_eq_false_iff_ne.2 (by omega))) ?_
   refine xx 5 ?_;refine Zq (q) func202 (Zg results202 rfl) ⟨_,rfl,by rw [hR],rfl⟩
 · refine X.kt 62 ?_;refine xj 3 ?_;refine XO.cR call155 (Gd (s:=nm)) ?_
   refine ox 4 ?_;exact X.at (K (1,nmS (bs nm)) ⟨hR,show 1≤2 by decide⟩) Zd leA
 · refine kx 62 7 ?_;refine X.kt 67 ?_;refine xx 7 ?_;exact X.at (K (1,true) ⟨hR,show 1≤2 by decide⟩) Zd leA
 · refine kx 62 7 ?_;refine kx 67 5 ?_;refine X.kt 67 ?_;refine xx 5 ?_;exact X.at (K (1,true) ⟨hR,show 1≤2 by decide⟩) Zd leA
 refine kx 62 7 ?_;refine kx 67 5 ?_;refine kx 67 6 ?_;refine X.kt 70 ?_;refine xx 1 ?_;refine drw ?_;refine dl [0] 1 ?_;refine dd [2,3,8] ?_;refine B4 [5,75,4,2,1] ?_
 apply H2 1 [0,1,2,3,4,5,6,7,8] 79 75 rfl
 · intro g1 M1;have h1:=sp g1
   refine dl [4] 5 ?_;refine dd [6,7] ?_;exact Uc M1 ⟨Wz g1,Zw⟩
 · intro g1 M1;have h1:=sp g1
   refine dd [4,5,6,7] ?_;exact Uc M1 ⟨Wj g1,Zw⟩
 intro L_
 refine dd [9] ?_;refine XD.nil ?_;refine xx 1 ?_;exact X.at (K (2,(decide (1≤op) && decide (op≤11))) ⟨hR,show 2≤2 by decide⟩) Zd leA
theorem R2: ∀ (m:Nat) (e:Ex),e.sz≤m→ ∀ {d:Nat} {q:List HP},d≤9223372036854775807→(Kn q fun M=>e.At M)→CallF prog G 202 [.agg (exC e).toArray,.int .i64 (d:Int)] q (Ret fun v q'=>v= .bool (e.er.right d)∧q'=q)
 |m,e,hm,d,_,hd,h=>As (fun x hx d2 _ hd2 h2=>by
  cases m with
  |zero=>omega
  |succ m=>exact R2 m x (by omega) hd2 h2) hd h
theorem Bz:CallF prog G 203 [.agg (exC e).toArray] (q) (Ret fun v q'=>v= .bool e.er.nil∧q'=q):=by
 refine CallF.of func203 ntmps203 rfl (fun F cs=> ?_)
 obtain ⟨k,z,nm,sl,lo,op,args,aa,ac⟩:=e;have hel:=W8 args
 refine xo 2 ?_;refine Y8 fun n1=> ?_
 refine ol 5 ?_;refine oo 2 ?_;refine Zm [6,2,1] ?_
 apply Zp 4 10 6 rfl
 · intro g1 M1;have h1:=sp g1
   refine ol 1 ?_;refine oo 2 ?_;exact Zz M1 ⟨Wz g1,Zw⟩
 · intro g1 M1;have h1:=sp g1
   refine oo 4 ?_;exact Zz M1 ⟨Wj g1,Zw⟩
 refine oo 1 ?_;refine Zm [11,2,1] ?_
 apply Zp 4 15 11 rfl
 · intro g1 M1;have h1:=sp g1
   refine ol 1 ?_;refine oo 2 ?_;exact Zz M1 ⟨Wz g1,Zw⟩
 · intro g1 M1;have h1:=sp g1
   refine oo 4 ?_;exact Zz M1 ⟨Wj g1,Zw⟩
 refine oo 1 ?_;refine Zm [16,2,1] ?_
 apply Zp 4 20 16 rfl
 · intro g1 M1;have h1:=sp g1
   refine ol 1 ?_;refine oo 2 ?_;exact Zz M1 ⟨Wz g1,Zw⟩
 · intro g1 M1;have h1:=sp g1
   refine oo 4 ?_;exact Zz M1 ⟨Wj g1,Zw⟩
 refine oo 1 ?_;refine Zm [21,2,1] ?_
 apply Zp 5 26 21 rfl
 · intro g1 M1;have h1:=sp g1
   refine ol 1 ?_;refine oo 3 ?_;exact Zz M1 ⟨Wz g1,Zw⟩
 · intro g1 M1;have h1:=sp g1
   refine oo 5 ?_;exact Zz M1 ⟨Wj g1,Zw⟩
 refine ox 2 ?_;refine Zq (q) func203 (Zg results203 rfl) ⟨_,rfl,by simp only [Ex.er,PEx.nil,hel];rw [Aa];congr 1;rw [show decide (args.length=0)=((args.length:Int)==0) by rw [Bool.eq_iff_iff];simp];rfl,rfl⟩
set_option maxHeartbeats 2000000 in
theorem Ad (IH: ∀ (m:List Stm) (a:Option Addr) (c n:Nat),Zh m<x.sz→ ∀ {q:List HP},(Kn q fun M=>BlkAt M a c m)→CallF prog G 156 [.slice a m.length c,.int .i64 (n:Int)] q (Ret fun v q'=>v= .bool (Yy (Zj m) n)∧q'=q))(h:Kn q fun M=>x.At M):CallF prog G 183 [.agg (stC x).toArray,.int .i64 (n:Int)] (q) (Ret fun v q'=>v= .bool (x.er.may n)∧q'=q):=by
 refine CallF.of func183 ntmps183 rfl (fun F cs=> ?_)
 obtain ⟨k,ln,cl,nm,wt,⟨k1,z1,s1,l1,o1,p1,y1,u1,w1⟩,⟨k2,z2,s2,l2,o2,p2,y2,u2,w2⟩,body,els,ba,bc,ea,ec,id,slot,other,loc⟩:=x
 have hE:=Ln h;have hX:=Lh h;have hB:=Lp h;have hL:=Lm h;have hbl:=Zn body;have hll:=Zn els
 obtain ⟨R,hR⟩: ∃ R,(Stm.er (.mk k ln cl nm wt (.mk k1 z1 s1 l1 o1 p1 y1 u1 w1) (.mk k2 z2 s2 l2 o2 p2 y2 u2 w2) body els ba bc ea ec id slot other loc)).may n=R:=⟨_,rfl⟩;rw [hR];simp only [Stm.er,PStm.may,hbl,hll] at hR
 refine xo 2 ?_;refine Y8 fun n1=> ?_
 refine ol 5 ?_;refine oo 8 ?_;refine Zm [13,5,4,2,1] ?_
 apply Zb 3 16 13 rfl
 · intro g1 M1;have h1:=sp g1
   refine oo 3 ?_;exact Zz M1 ⟨orF g1,Zw⟩
 · intro g1 M1;have h1:=sp g1
   refine oo 3 ?_;exact Zz M1 ⟨orT g1,Zw⟩
 refine oo 1 ?_;refine Zm [17,5,4,2,1] ?_
 apply Zb 3 20 17 rfl
 · intro g1 M1;have h1:=sp g1
   refine oo 3 ?_;exact Zz M1 ⟨orF g1,Zw⟩
 · intro g1 M1;have h1:=sp g1
   refine oo 3 ?_;exact Zz M1 ⟨orT g1,Zw⟩
 refine ox 1 ?_;refine X.part 20 rfl (fun c1=> ?_) (fun c1=> ?_)
 · have d1:A7 k n=true:=by unfold A7;first|exact c1|(rw [←c1];simp only [Bool.or_assoc,Bool.and_assoc];rfl)
   rw [if_pos d1] at hR
   refine xx 5 ?_;refine Zq (q) func183 (Zg results183 rfl) ⟨_,rfl,by rw [hR],rfl⟩
 have d1:A7 k n=false:=by unfold A7;first|exact c1|(rw [←c1];simp only [Bool.or_assoc,Bool.and_assoc];rfl)
 rw [if_neg (by rw [d1];decide)] at hR
 have e1:=sp c1;have hn24:n≤24:=by omega
 refine xo 7 ?_;refine Zm [23,5,4,2,1] ?_
 apply Zp 3 26 23 rfl
 · intro g1 M1;have h1:=sp g1
   refine oo 3 ?_;exact Zz M1 ⟨Wz g1,Zw⟩
 · intro g1 M1;have h1:=sp g1
   refine oo 3 ?_;exact Zz M1 ⟨Wj g1,Zw⟩
 refine oo 1 ?_;refine Zm [27,5,4,2,1] ?_
 apply Zp 3 30 27 rfl
 · intro g1 M1;have h1:=sp g1
   refine oo 3 ?_;exact Zz M1 ⟨Wz g1,Zw⟩
 · intro g1 M1;have h1:=sp g1
   refine oo 3 ?_;exact Zz M1 ⟨Wj g1,Zw⟩
 refine oo 7 ?_;refine Zm [33,6,5,4,2,1] ?_
 apply Zb 3 36 33 rfl
 · intro g1 M1;have h1:=sp g1
   refine oo 3 ?_;exact Zz M1 ⟨orF g1,Zw⟩
 · intro g1 M1;have h1:=sp g1
   refine oo 3 ?_;exact Zz M1 ⟨orT g1,Zw⟩
 refine oo 7 ?_;refine Zm [39,7,6,5,4,2,1] ?_
 apply Zb 3 42 39 rfl
 · intro g1 M1;have h1:=sp g1
   refine oo 3 ?_;exact Zz M1 ⟨orF g1,Zw⟩
 · intro g1 M1;have h1:=sp g1
   refine oo 3 ?_;exact Zz M1 ⟨orT g1,Zw⟩
 refine oo 1 ?_;refine Zm [43,7,6,5,4,2,1] ?_
 apply Zb 3 46 43 rfl
 · intro g1 M1;have h1:=sp g1
   refine oo 3 ?_;exact Zz M1 ⟨orF g1,Zw⟩
 · intro g1 M1;have h1:=sp g1
   refine oo 3 ?_;exact Zz M1 ⟨orT g1,Zw⟩
 refine ol 7 ?_;refine XO.cR call155 (Gd (s:=nm)) ?_
 refine oo 2 ?_;refine Zm [52,8,7,6,5,4,2,1] ?_
 apply Zb 8 60 52 rfl
 · intro g1 M1;have h1:=sp g1
   refine oo 1 ?_;refine Zt (Pu.not rfl) ?_;refine oo 1 ?_;refine Zm [55,52,8,7,6,5,4,2,1] ?_
   apply Zp 4 59 55 rfl
   · intro g2 M2;have h2:=sp g2
     refine ol 1 ?_;refine oo 2 ?_;exact Zz M2 ⟨Wz g2,Zw⟩
   · intro g2 M2;have h2:=sp g2
     refine oo 4 ?_;exact Zz M2 ⟨Wj g2,Zw⟩
   refine oo 1 ?_;exact Zz M1 ⟨orF g1,Zw⟩
 · intro g1 M1;have h1:=sp g1
   refine oo 8 ?_;exact Zz M1 ⟨orT g1,Zw⟩
 refine oo 1 ?_;refine Zm [61,8,7,5,4,2,1] ?_
 apply Zb 6 67 61 rfl
 · intro g1 M1;have h1:=sp g1
   refine ol 2 ?_;refine XO.cR call155 (Gd (s:=wt)) ?_
   refine oo 2 ?_;exact Zz M1 ⟨orF g1,Zw⟩
 · intro g1 M1;have h1:=sp g1
   refine oo 6 ?_;exact Zz M1 ⟨orT g1,Zw⟩
 refine oo 1 ?_;refine Zm [68,8,7,5,4,2,1] ?_
 apply Zb 8 76 68 rfl
 · intro g1 M1;have h1:=sp g1
   refine oo 1 ?_;refine Zt (Pu.not rfl) ?_;refine oo 1 ?_;refine Zm [71,68,8,7,5,4,2,1] ?_
   apply Zp 4 75 71 rfl
   · intro g2 M2;have h2:=sp g2
     refine ol 1 ?_;refine oo 2 ?_;exact Zz M2 ⟨Wz g2,Zw⟩
   · intro g2 M2;have h2:=sp g2
     refine oo 4 ?_;exact Zz M2 ⟨Wj g2,Zw⟩
   refine oo 1 ?_;exact Zz M1 ⟨orF g1,Zw⟩
 · intro g1 M1;have h1:=sp g1
   refine oo 8 ?_;exact Zz M1 ⟨orT g1,Zw⟩
 refine ox 1 ?_;refine X.part 76 rfl (fun c2=> ?_) (fun c2=> ?_)
 · have d2:may2 k (bs nm) (bs wt)=true:=by rw [Aa,Aa] at c2;unfold may2 hasN hasW;first|exact c2|(rw [←c2];simp only [Bool.or_assoc,Bool.and_assoc];rfl)
   rw [if_pos d2] at hR
   refine xx 5 ?_;refine Zq (q) func183 (Zg results183 rfl) ⟨_,rfl,by rw [hR],rfl⟩
 have d2:may2 k (bs nm) (bs wt)=false:=by rw [Aa,Aa] at c2;unfold may2 hasN hasW;first|exact c2|(rw [←c2];simp only [Bool.or_assoc,Bool.and_assoc];rfl)
 rw [if_neg (by rw [d2];decide)] at hR
 refine xo 7 ?_;refine Zm [78,8,5,4,2,1] ?_
 apply Zp 5 83 78 rfl
 · intro g1 M1;have h1:=sp g1
   refine oo 1 ?_;refine ldA ?_;refine XO.cR call202 (R2 _ (.mk k1 z1 s1 l1 o1 p1 y1 u1 w1) (Nat.le_refl _) (d:=24) (by decide) (hE.le leA)) ?_
   refine Zt (Pu.not rfl) ?_;refine oo 1 ?_;exact Zz M1 ⟨Wz g1,Zw⟩
 · intro g1 M1;have h1:=sp g1
   refine oo 5 ?_;exact Zz M1 ⟨Wj g1,Zw⟩
 refine oo 1 ?_;refine Zm [84,8,5,4,2,1] ?_
 apply Zb 9 93 84 rfl
 · intro g1 M1;have h1:=sp g1
   refine oo 1 ?_;refine Zt (Pu.not rfl) ?_;refine oo 1 ?_;refine Zm [87,84,8,5,4,2,1] ?_
   apply Zp 5 92 87 rfl
   · intro g2 M2;have h2:=sp g2
     refine oo 1 ?_;refine ldA ?_;refine XO.cR call203 (Bz (e:=(.mk k1 z1 s1 l1 o1 p1 y1 u1 w1))) ?_
     refine Zt (Pu.not rfl) ?_;refine oo 1 ?_;exact Zz M2 ⟨Wz g2,Zw⟩
   · intro g2 M2;have h2:=sp g2
     refine oo 5 ?_;exact Zz M2 ⟨Wj g2,Zw⟩
   refine oo 1 ?_;exact Zz M1 ⟨orF g1,Zw⟩
 · intro g1 M1;have h1:=sp g1
   refine oo 9 ?_;exact Zz M1 ⟨orT g1,Zw⟩
 refine oo 1 ?_;refine Zm [94,5,4,2,1] ?_
 apply Zb 9 103 94 rfl
 · intro g1 M1;have h1:=sp g1
   refine oo 3 ?_;refine Zm [97,94,5,4,2,1] ?_
   apply Zp 5 102 97 rfl
   · intro g2 M2;have h2:=sp g2
     refine oo 1 ?_;refine ldA ?_;refine XO.cR call202 (R2 _ (.mk k2 z2 s2 l2 o2 p2 y2 u2 w2) (Nat.le_refl _) (d:=24) (by decide) (hX.le leA)) ?_
     refine Zt (Pu.not rfl) ?_;refine oo 1 ?_;exact Zz M2 ⟨Wz g2,Zw⟩
   · intro g2 M2;have h2:=sp g2
     refine oo 5 ?_;exact Zz M2 ⟨Wj g2,Zw⟩
   refine oo 1 ?_;exact Zz M1 ⟨orF g1,Zw⟩
 · intro g1 M1;have h1:=sp g1
   refine oo 9 ?_;exact Zz M1 ⟨orT g1,Zw⟩
 refine oo 1 ?_;refine Zm [104,5,4,2,1] ?_
 apply Zb 9 113 104 rfl
 · intro g1 M1;have h1:=sp g1
   refine oo 3 ?_;refine Zm [107,104,5,4,2,1] ?_
   apply Zp 5 112 107 rfl
   · intro g2 M2;have h2:=sp g2
     refine oo 1 ?_;refine ldA ?_;refine XO.cR call203 (Bz (e:=(.mk k2 z2 s2 l2 o2 p2 y2 u2 w2))) ?_
     refine Zt (Pu.not rfl) ?_;refine oo 1 ?_;exact Zz M2 ⟨Wz g2,Zw⟩
   · intro g2 M2;have h2:=sp g2
     refine oo 5 ?_;exact Zz M2 ⟨Wj g2,Zw⟩
   refine oo 1 ?_;exact Zz M1 ⟨orF g1,Zw⟩
 · intro g1 M1;have h1:=sp g1
   refine oo 9 ?_;exact Zz M1 ⟨orT g1,Zw⟩
 refine ox 1 ?_;refine X.part 113 rfl (fun c3=> ?_) (fun c3=> ?_)
 · have d3:Gi k (Ex.er (.mk k1 z1 s1 l1 o1 p1 y1 u1 w1)) (Ex.er (.mk k2 z2 s2 l2 o2 p2 y2 u2 w2))=true:=by unfold Gi Ds;first|exact c3|(rw [←c3];simp only [Bool.or_assoc,Bool.and_assoc];rfl)
   rw [if_pos d3] at hR
   refine xx 5 ?_;refine Zq (q) func183 (Zg results183 rfl) ⟨_,rfl,by rw [hR],rfl⟩
 have d3:Gi k (Ex.er (.mk k1 z1 s1 l1 o1 p1 y1 u1 w1)) (Ex.er (.mk k2 z2 s2 l2 o2 p2 y2 u2 w2))=false:=by unfold Gi Ds;first|exact c3|(rw [←c3];simp only [Bool.or_assoc,Bool.and_assoc];rfl)
 rw [if_neg (by rw [d3];decide)] at hR
 refine xo 8 ?_;refine Zm [116,5,4,2,1] ?_
 apply Zp 3 119 116 rfl
 · intro g1 M1;have h1:=sp g1
   refine oo 3 ?_;exact Zz M1 ⟨Wz g1,Zw⟩
 · intro g1 M1;have h1:=sp g1
   refine oo 3 ?_;exact Zz M1 ⟨Wj g1,Zw⟩
 refine oo 1 ?_;refine Zm [120,5,4,2,1] ?_
 apply Zp 5 125 120 rfl
 · intro g1 M1;have h1:=sp g1
   refine ol 1 ?_;refine oo 3 ?_;exact Zz M1 ⟨Wz g1,Zw⟩
 · intro g1 M1;have h1:=sp g1
   refine oo 5 ?_;exact Zz M1 ⟨Wj g1,Zw⟩
 refine oo 1 ?_;refine Zm [126,5,4,2,1] ?_
 apply Zb 9 135 126 rfl
 · intro g1 M1;have h1:=sp g1
   refine oo 3 ?_;refine Zm [129,126,5,4,2,1] ?_
   apply Zp 5 134 129 rfl
   · intro g2 M2;have h2:=sp g2
     refine ol 1 ?_;refine oo 3 ?_;exact Zz M2 ⟨Wz g2,Zw⟩
   · intro g2 M2;have h2:=sp g2
     refine oo 5 ?_;exact Zz M2 ⟨Wj g2,Zw⟩
   refine oo 1 ?_;exact Zz M1 ⟨orF g1,Zw⟩
 · intro g1 M1;have h1:=sp g1
   refine oo 9 ?_;exact Zz M1 ⟨orT g1,Zw⟩
 refine ox 1 ?_;refine X.part 135 rfl (fun c4=> ?_) (fun c4=> ?_)
 · have d4:A6 k body.length els.length=true:=by unfold A6;first|exact c4|(rw [←c4];simp only [Bool.or_assoc,Bool.and_assoc];rfl)
   rw [if_pos d4] at hR
   refine xx 5 ?_;refine Zq (q) func183 (Zg results183 rfl) ⟨_,rfl,by rw [hR],rfl⟩
 have d4:A6 k body.length els.length=false:=by unfold A6;first|exact c4|(rw [←c4];simp only [Bool.or_assoc,Bool.and_assoc];rfl)
 rw [if_neg (by rw [d4];decide)] at hR
 refine xj 5 ?_;refine oo 2 ?_;refine XO.cR call156 (IH body ba bc (n+1) (by simp only [Stm.sz];omega) (hB.le leA)) ?_
 refine oo 1 ?_;refine Zm [141,4,2,1] ?_
 apply Zp 6 147 141 rfl
 · intro g1 M1;have h1:=sp g1
   refine ol 1 ?_;refine oo 2 ?_;refine XO.cR call156 (IH els ea ec (n+1) (by simp only [Stm.sz];omega) (hL.le leA)) ?_
   refine oo 1 ?_;exact Zz M1 ⟨Wz g1,Zw⟩
 · intro g1 M1;have h1:=sp g1
   refine oo 6 ?_;exact Zz M1 ⟨Wj g1,Zw⟩
 refine ox 2 ?_;refine Zq (q) func183 (Zg results183 rfl) ⟨_,rfl,by rw [←hR],rfl⟩
set_option maxHeartbeats 400000 in
theorem Tu (IH: ∀ (x:Stm) (n:Nat),x.sz≤Zh l→ ∀ {q:List HP},(Kn q fun M=>x.At M)→CallF prog G 183 [.agg (stC x).toArray,.int .i64 (n:Int)] q (Ret fun v q'=>v= .bool (x.er.may n)∧q'=q))(h:Kn q fun M=>BlkAt M a c l):CallF prog G 156 [.slice a l.length c,.int .i64 (n:Int)] (q) (Ret fun v q'=>v= .bool (Yy (Zj l) n)∧q'=q):=by
 refine CallF.of func156 ntmps156 rfl (fun F cs=> ?_)
 have hA:=Ll h;have hlen:=Zv (f:=stC) (sz:=25) Z9 l
 refine X.fact (fun w s=>Lt (h.le leA) s) (fun hal=> ?_)
 refine xx 10 ?_;refine X.at (X.loop (fun (s:Nat×Option Addr)=>s.1≤l.length∧s.2=a∧Yy (Zj l) n=Yy (Zj (l.drop s.1)) n) (fun s=> [(5,.int .i64 (s.1:Int)),(0,.slice s.2 l.length c),(1,.int .i64 (n:Int)),(4,.bool false)]) (fun s=>(q++F)) (fun s=>l.length - s.1) (fun s hi_ ih=> ?_) (0,a) ⟨Nat.zero_le _,rfl,rfl⟩) Zd leA
 try dsimp only at hi_ ih⊢
 obtain ⟨hs,ha,hD⟩:=hi_
 obtain ⟨s,a2⟩:=s;dsimp only at*;subst ha
 refine xx 8 ?_;refine X.part 9 rfl (fun h0=> ?_) (fun h0=> ?_)
 · replace h0:=sp h0;have hlt:s<l.length:=by omega
   have hds:Yy (Zj (l.drop s)) n=(l[s].er.may n && Yy (Zj (l.drop (s+1))) n):=by rw [List.drop_eq_getElem_cons hlt];rfl
   refine xo 8 ?_;refine Kh hA (by rw [hlen];omega) (fun b1 o1 e1=> ?_);subst e1
   refine oo 1 ?_;refine Q8 (n:=s) isAgg126 sizeOf126 hA hlt ?_ (hf:=Z9)
   refine oo 1 ?_;refine XO.cR call183 (IH l[s] n (Uz (List.getElem_mem hlt)) ((Lr h hlt).le leA)) ?_;refine Zt (Pu.not rfl) ?_;refine ox 1 ?_;refine X.part 18 rfl (fun h1=> ?_) (fun h1=> ?_)
   · replace h1:=sp h1
     refine xx 5 ?_;refine Zq (q) func156 (Zg results156 rfl) ⟨_,rfl,by rw [hD,hds,h1];rfl,rfl⟩
   replace h1:=sp h1
   refine xx 8 ?_;refine X.at (ih (s+1,_) ⟨by dsimp only;omega,rfl,by rw [hD,hds,h1];rfl⟩ (by dsimp only;omega)) Zd leA
 replace h0:=sp h0;obtain rfl:s=l.length:=by omega
 refine xx 6 ?_;refine Zq (q) func156 (Zg results156 rfl) ⟨_,rfl,by rw [hD,List.drop_length];rfl,rfl⟩
theorem may_ok: ∀ N:Nat,(∀ (x:Stm) (n:Nat),x.sz≤N→ ∀ {q:List HP},(Kn q fun M=>x.At M)→CallF prog G 183 [.agg (stC x).toArray,.int .i64 (n:Int)] q (Ret fun v q'=>v= .bool (x.er.may n)∧q'=q))∧
 (∀ (m:List Stm) (a:Option Addr) (c n:Nat),Zh m≤N→ ∀ {q:List HP},(Kn q fun M=>BlkAt M a c m)→CallF prog G 156 [.slice a m.length c,.int .i64 (n:Int)] q (Ret fun v q'=>v= .bool (Yy (Zj m) n)∧q'=q)):=by
 intro N
 induction N with
 |zero=>
  have h1: ∀ (x:Stm) (n:Nat),x.sz≤0→ ∀ {q:List HP},(Kn q fun M=>x.At M)→CallF prog G 183 [.agg (stC x).toArray,.int .i64 (n:Int)] q (Ret fun v q'=>v= .bool (x.er.may n)∧q'=q):=fun x n hx=>by cases x;simp [Stm.sz] at hx
  exact ⟨h1,fun m a c n hm _ h=>Tu (fun x n hx=>h1 x n (by omega)) h⟩
 |succ N ih=>
  have h1: ∀ (x:Stm) (n:Nat),x.sz≤N+1→ ∀ {q:List HP},(Kn q fun M=>x.At M)→CallF prog G 183 [.agg (stC x).toArray,.int .i64 (n:Int)] q (Ret fun v q'=>v= .bool (x.er.may n)∧q'=q):=fun x n hx _ h=>Ad (fun m a c n hm=>ih.2 m a c n (by omega)) h
  exact ⟨h1,fun m a c n hm _ h=>Tu (fun x n hx=>h1 x n (by omega)) h⟩
theorem Kn.dsL {w:World}{l:List Dec}(h:Kn q fun M=>DcsAt M a c l)(s:St G w q):l.length≤9223372036854775807:=h.fact (fun M h=>by have h1:=h.1.1;have h2:=h.1.2.1;simp [maxLen] at h2;omega) s
variable {m:List Dec}
set_option maxHeartbeats 400000 in
theorem mayD_ok (h:Kn q fun M=>DcsAt M a c m):CallF prog G 117 [.slice a m.length c] (q) (Ret fun v q'=>v= .int .i64 (if (m.map Dec.er).any PDec.bad=true then 2 else 0)∧q'=q):=by
 refine CallF.of func117 ntmps117 rfl (fun F cs=> ?_)
 have hA:=Lc h;have hlen:=Zv (f:=dcC) (sz:=6) (fun _=>rfl) m
 refine X.fact (fun w s=>Kn.dsL (h.le leA) s) (fun hal=> ?_)
 refine xx 10 ?_;refine X.at (X.loop (fun (s:Nat×Option Addr)=>s.1≤m.length∧s.2=a∧(m.map Dec.er).any PDec.bad=((m.drop s.1).map Dec.er).any PDec.bad) (fun s=> [(3,.int .i64 (s.1:Int)),(0,.slice s.2 m.length c),(2,.int .i64 0)]) (fun s=>(q++F)) (fun s=>m.length - s.1) (fun s hi_ ih=> ?_) (0,a) ⟨Nat.zero_le _,rfl,rfl⟩) Zd leA
 try dsimp only at hi_ ih⊢
 obtain ⟨hs,ha,hD⟩:=hi_
 obtain ⟨s,a2⟩:=s;dsimp only at*;subst ha
 refine xx 8 ?_;refine X.part 9 rfl (fun h0=> ?_) (fun h0=> ?_)
 · replace h0:=sp h0;have hlt:s<m.length:=by omega
   have hds:((m.drop s).map Dec.er).any PDec.bad=(m[s].er.bad||((m.drop (s+1)).map Dec.er).any PDec.bad):=by rw [List.drop_eq_getElem_cons hlt];rfl
   refine xo 8 ?_;refine Kh hA (by rw [hlen];omega) (fun b1 o1 e1=> ?_);subst e1
   refine oo 1 ?_;refine Q8 (n:=s) isAgg229 sizeOf229 hA hlt ?_ (hf:=(fun _=>rfl))
   obtain ⟨x,hx⟩: ∃ x,m[s]=x:=⟨_,rfl⟩;have hK:=Kn.dsI h hlt;rw [hx] at hds hK
   refine XO.know 15 (.agg (dcC x).toArray) rfl (by rw [hx]) ?_
   obtain ⟨k,ln,cl,nm,z,body,ba,bc⟩:=x;have hbl:=Zn body
   refine XO.al zeroValue229 fun n1=> ?_
   refine stA ?_;refine ol 4 ?_;refine oo 7 ?_;refine Zm [20,5,4,3,0,2] ?_
   apply Zb 3 23 20 rfl
   · intro g1 M1;have h1:=sp g1
     refine oo 3 ?_;exact Zz M1 ⟨orF g1,Zw⟩
   · intro g1 M1;have h1:=sp g1
     refine oo 3 ?_;exact Zz M1 ⟨orT g1,Zw⟩
   refine oo 1 ?_;refine Zm [24,5,4,3,0,2] ?_
   apply Zb 5 29 24 rfl
   · intro g1 M1;have h1:=sp g1
     refine ol 1 ?_;refine XO.cR call155 (Gd (s:=nm)) ?_
     refine Zt (Pu.not rfl) ?_;refine oo 1 ?_;exact Zz M1 ⟨orF g1,Zw⟩
   · intro g1 M1;have h1:=sp g1
     refine oo 5 ?_;exact Zz M1 ⟨orT g1,Zw⟩
   refine oo 1 ?_;refine Zm [30,5,4,3,0,2] ?_
   apply Zb 9 39 30 rfl
   · intro g1 M1;have h1:=sp g1
     refine oo 3 ?_;refine Zm [33,30,5,4,3,0,2] ?_
     apply Zp 5 38 33 rfl
     · intro g2 M2;have h2:=sp g2
       refine ol 1 ?_;refine oo 3 ?_;exact Zz M2 ⟨Wz g2,Zw⟩
     · intro g2 M2;have h2:=sp g2
       refine oo 5 ?_;exact Zz M2 ⟨Wj g2,Zw⟩
     refine oo 1 ?_;exact Zz M1 ⟨orF g1,Zw⟩
   · intro g1 M1;have h1:=sp g1
     refine oo 9 ?_;exact Zz M1 ⟨orT g1,Zw⟩
   refine oo 1 ?_;refine Zm [40,5,4,3,0,2] ?_
   apply Zb 4 44 40 rfl
   · intro g1 M1;have h1:=sp g1
     refine ol 1 ?_;refine oo 2 ?_;exact Zz M1 ⟨orF g1,Zw⟩
   · intro g1 M1;have h1:=sp g1
     refine oo 4 ?_;exact Zz M1 ⟨orT g1,Zw⟩
   refine oo 1 ?_;refine Zm [45,5,4,3,0,2] ?_
   apply Zb 4 49 45 rfl
   · intro g1 M1;have h1:=sp g1
     refine ol 1 ?_;refine oo 2 ?_;exact Zz M1 ⟨orF g1,Zw⟩
   · intro g1 M1;have h1:=sp g1
     refine oo 4 ?_;exact Zz M1 ⟨orT g1,Zw⟩
   refine oo 1 ?_;refine Zm [50,5,4,3,0,2] ?_
   apply Zb 8 58 50 rfl
   · intro g1 M1;have h1:=sp g1
     refine oo 3 ?_;refine Zm [53,50,5,4,3,0,2] ?_
     apply Zp 4 57 53 rfl
     · intro g2 M2;have h2:=sp g2
       refine ol 1 ?_;refine oo 2 ?_;exact Zz M2 ⟨Wz g2,Zw⟩
     · intro g2 M2;have h2:=sp g2
       refine oo 4 ?_;exact Zz M2 ⟨Wj g2,Zw⟩
     refine oo 1 ?_;exact Zz M1 ⟨orF g1,Zw⟩
   · intro g1 M1;have h1:=sp g1
     refine oo 8 ?_;exact Zz M1 ⟨orT g1,Zw⟩
   refine oo 1 ?_;refine Zm [59,5,4,3,0,2] ?_
   apply Zb 16 75 59 rfl
   · intro g1 M1;have h1:=sp g1
     refine oo 3 ?_;refine Zm [62,59,5,4,3,0,2] ?_
     apply Zp 3 65 62 rfl
     · intro g2 M2;have h2:=sp g2
       refine oo 3 ?_;exact Zz M2 ⟨Wz g2,Zw⟩
     · intro g2 M2;have h2:=sp g2
       refine oo 3 ?_;exact Zz M2 ⟨Wj g2,Zw⟩
     refine oo 1 ?_;refine Zm [66,59,5,4,3,0,2] ?_
     apply Zp 3 69 66 rfl
     · intro g2 M2;have h2:=sp g2
       refine oo 3 ?_;exact Zz M2 ⟨Wz g2,Zw⟩
     · intro g2 M2;have h2:=sp g2
       refine oo 3 ?_;exact Zz M2 ⟨Wj g2,Zw⟩
     refine oo 1 ?_;refine Zm [70,59,5,4,3,0,2] ?_
     apply Zp 4 74 70 rfl
     · intro g2 M2;have h2:=sp g2
       refine ol 1 ?_;refine oo 2 ?_;exact Zz M2 ⟨Wz g2,Zw⟩
     · intro g2 M2;have h2:=sp g2
       refine oo 4 ?_;exact Zz M2 ⟨Wj g2,Zw⟩
     refine oo 1 ?_;exact Zz M1 ⟨orF g1,Zw⟩
   · intro g1 M1;have h1:=sp g1
     refine oo 16 ?_;exact Zz M1 ⟨orT g1,Zw⟩
   refine oo 1 ?_;refine Zm [76,4,3,0,2] ?_
   apply Zb 5 81 76 rfl
   · intro g1 M1;have h1:=sp g1
     refine ol 1 ?_;refine XO.cR call156 ((may_ok _).2 body ba bc 1 (Nat.le_refl _) (hK.le leA)) ?_;refine Zt (Pu.not rfl) ?_;refine oo 1 ?_;exact Zz M1 ⟨orF g1,Zw⟩
   · intro g1 M1;have h1:=sp g1
     refine oo 5 ?_;exact Zz M1 ⟨orT g1,Zw⟩
   refine ox 1 ?_;refine X.part 81 rfl (fun c1=> ?_) (fun c1=> ?_)
   · have d1:PDec.bad (Dec.er ⟨k,ln,cl,nm,z,body,ba,bc⟩)=true:=by unfold PDec.bad A8;simp only [Dec.er,hbl];first|exact c1|(rw [←c1];simp only [Bool.or_assoc,Bool.and_assoc];rfl)
     refine xx 5 ?_;refine Zq (q) func117 (Zg results117 rfl) ⟨_,rfl,by rw [hD,hds,d1];rfl,rfl⟩
   have d1:PDec.bad (Dec.er ⟨k,ln,cl,nm,z,body,ba,bc⟩)=false:=by unfold PDec.bad A8;simp only [Dec.er,hbl];first|exact c1|(rw [←c1];simp only [Bool.or_assoc,Bool.and_assoc];rfl)
   refine xx 8 ?_;refine X.at (ih (s+1,_) ⟨by dsimp only;omega,rfl,by rw [hD,hds,d1];rfl⟩ (by dsimp only;omega)) Zd leA
 replace h0:=sp h0;obtain rfl:s=m.length:=by omega
 refine xx 6 ?_;refine Zq (q) func117 (Zg results117 rfl) ⟨_,rfl,by rw [hD,List.drop_length];rfl,rfl⟩
end
structure PTh where
 nm:ByteArray
 loc:Int
 body:List PStm
structure Nm where
 t:ByteArray
 k:Int
 s:Int
structure Fnd where
 vars:List Int
 arrs:List Int
 mu:Int
 co:Int
 chs:List Int
 ths:List PTh
 main:Int
 stm:Int
 nv:List ByteArray
 na:List ByteArray
 nm:List ByteArray
 nc:List ByteArray
 nh:List ByteArray
 names:List Nm
 cells:Int
 locals:Int
 most:Int
 flaw:Int
def Fnd.z:Fnd:=⟨[], [],0,0, [], [],0,0, [], [], [], [], [], [],0,0,0,0⟩
def K1 (l:List Nm)(s:ByteArray):Nat→Nat
 |0=>0
 |k+1=>if ((l.map fun x=>bs x.t).getD k []==bs s)=true then k+1 else K1 l s k
def Fnd.at (f:Fnd)(s:ByteArray):Nat:=K1 f.names s f.names.length
def Fnd.fl (f:Fnd)(why:Int):Fnd:=if f.flaw=0 then { f with flaw:=why } else f
def Fnd.decl1 (f:Fnd)(d:PDec):Fnd×Int×Bool:=
 if d.k=1 then (if d.n< -2147483648∨2147483647<d.n then (f.fl 134,0,false) else ({ f with vars:=f.vars++ [d.n],nv:=f.nv++ [d.nm] },f.vars.length,true))
 else if d.k=2 then (if (d.n<1∨256<d.n)∨256<f.cells+d.n then (f.fl 134,0,false) else ({ f with cells:=f.cells+d.n,arrs:=f.arrs++ [d.n],na:=f.na++ [d.nm] },f.arrs.length,true))
 else if d.k=3 then ({ f with mu:=f.mu+1,nm:=f.nm++ [d.nm] },f.mu,true)
 else if d.k=4 then ({ f with co:=f.co+1,nc:=f.nc++ [d.nm] },f.co,true)
 else if d.k=5 then (if d.n<1∨16<d.n then (f.fl 134,0,false) else ({ f with chs:=f.chs++ [d.n],nh:=f.nh++ [d.nm] },f.chs.length,true))
 else if d.k=6 then ({ f with ths:=f.ths++ [⟨d.nm,0, []⟩] },f.ths.length,true)
 else (f,0,true)
def Fnd.decl (f:Fnd)(d:PDec):Fnd:=
 if f.at d.nm≠0 then f.fl 130
 else if (f.decl1 d).2.2=false then (f.decl1 d).1
 else if 64≤(f.decl1 d).1.names.length then (f.decl1 d).1.fl 134
 else { (f.decl1 d).1 with names:=(f.decl1 d).1.names++ [⟨d.nm,d.k,(f.decl1 d).2.1⟩] }
def Fnd.wants (f:Fnd)(s:ByteArray)(a b:Int):Fnd×Int×Int:=
 match f.at s with
 |0=>(f.fl 131,0,0)
 |i+1=>let x:=(f.names.map fun x=>(x.k,x.s)).getD i (0,0)
  if (x.1 !=a && x.1 !=b)=true then (f.fl 132,0,0) else (f,x)
mutual
def Fnd.expr (f:Fnd):PEx→Fnd×PEx
 | .mk k n nm slot loc op args=>
  if k=2 then ((Fnd.exprs (f.wants nm 1 100).1 args).1,.mk k n nm (f.wants nm 1 100).2.2 ((f.wants nm 1 100).2.1==100) op (Fnd.exprs (f.wants nm 1 100).1 args).2)
  else if k=3 then ((Fnd.exprs (f.wants nm 2 2).1 args).1,.mk k n nm (f.wants nm 2 2).2.2 loc op (Fnd.exprs (f.wants nm 2 2).1 args).2)
  else ((Fnd.exprs f args).1,.mk k n nm slot loc op (Fnd.exprs f args).2)
def Fnd.exprs (f:Fnd):List PEx→Fnd×List PEx
 | []=>(f, [])
 |e::r=>((Fnd.exprs (f.expr e).1 r).1,(f.expr e).2::(Fnd.exprs (f.expr e).1 r).2)
end
def Jy (k:Int):Int×Int:=if k=2 then (1,100) else if k=3 then (2,2) else if k=6∨k=7 then (3,3) else if k=8∨k=9∨k=10 then (4,4) else if k=11∨k=12 then (5,5) else if k=13 then (6,6) else (0,0)
def Fnd.own1 (f:Fnd)(k:Int)(nm:ByteArray)(slot:Int)(loc:Bool):Fnd×Int×Bool:=
 if (Jy k).1≠0 then ((f.wants nm (Jy k).1 (Jy k).2).1,(f.wants nm (Jy k).1 (Jy k).2).2.2,(f.wants nm (Jy k).1 (Jy k).2).2.1==100) else (f,slot,loc)
def Fnd.loc1 (g:Fnd)(nm:ByteArray):Fnd:=if g.at nm≠0 then g.fl 130 else g
def Fnd.loc2 (g:Fnd):Fnd:=if 32≤g.locals then g.fl 134 else g
def Fnd.loc3 (g:Fnd)(nm:ByteArray):Fnd:= { g with names:=g.names++ [⟨nm,100,g.locals⟩],locals:=g.locals+1,most:=max g.most (g.locals+1) }
def Fnd.own2 (g:Fnd)(k:Int)(nm wt:ByteArray)(sl other:Int)(lo:Bool):Fnd×Int×Int×Bool:=
 if k=1 then ((g.loc1 nm).loc2.loc3 nm,(g.loc1 nm).loc2.locals,other,true)
 else if k=8 then ((g.wants wt 3 3).1,sl,(g.wants wt 3 3).2.2,lo)
 else if k=12 then ((g.wants wt 1 100).1,sl,(g.wants wt 1 100).2.2,(g.wants wt 1 100).2.1==100)
 else (g,sl,other,lo)
def Fnd.own (f:Fnd)(k:Int)(nm wt:ByteArray)(slot other:Int)(loc:Bool):Fnd×Int×Int×Bool:=
 Fnd.own2 (f.own1 k nm slot loc).1 k nm wt (f.own1 k nm slot loc).2.1 other (f.own1 k nm slot loc).2.2
mutual
def Fnd.stmt (f:Fnd):PStm→Fnd×PStm
 | .mk k ln cl nm wt e ix body els id slot other loc=>
  if 512≤f.stm then (f.fl 134,.mk k ln cl nm wt e ix body els id slot other loc)
  else
   let f1:=Fnd.expr { f with stm:=f.stm+1 } ix
   let f2:=Fnd.expr f1.1 e
   let f3:=Fnd.own f2.1 k nm wt slot other loc
   let f4:=Fnd.blk f3.1 body
   let f5:=Fnd.blk { f4.1 with names:=f3.1.names,locals:=f3.1.locals } els
   ({ f5.1 with names:=f3.1.names,locals:=f3.1.locals },.mk k ln cl nm wt f2.2 f1.2 f4.2 f5.2 f.stm f3.2.1 f3.2.2.1 f3.2.2.2)
/-- The statements of a block, as long as there is no flaw (names are not let go of here). -/
def Fnd.blk (f:Fnd):List PStm→Fnd×List PStm
 | []=>(f, [])
 |s::r=>if f.flaw=0 then ((Fnd.blk (f.stmt s).1 r).1,(f.stmt s).2::(Fnd.blk (f.stmt s).1 r).2) else (f, [])
end
def Fnd.block (f:Fnd)(l:List PStm):Fnd×List PStm:=({ (f.blk l).1 with names:=f.names,locals:=f.locals },(f.blk l).2)
def Fnd.decls (f:Fnd):List PDec→Fnd
 | []=>f
 |d::r=>if f.flaw=0 then Fnd.decls (f.decl d) r else f
def Fnd.bodies (f:Fnd)(i:Nat):List (List PStm)→Fnd
 | []=>f
 |b::r=>if f.flaw=0 then
  let g:=Fnd.block { f with most:=0 } b
  Fnd.bodies { g.1 with ths:=g.1.ths.set i ⟨(g.1.ths.getD i ⟨em,0, []⟩).nm,g.1.most,g.2⟩ } (i+1) r
  else f
def Qp:ByteArray:=⟨#[109,97,105,110]⟩
def Tl (ds:List PDec):Option Fnd:=
 if ds.any PDec.bad=true then none else
 let f:=Fnd.decls .z ds
 let f1:=if f.flaw=0∧(f.at Qp=0∨((f.names.map (·.k)).getD (f.at Qp - 1) 0)≠6) then f.fl 133 else f
 let f2:=Fnd.bodies f1 0 ((ds.filter fun d=>d.k==6).map (·.body))
 if f2.flaw≠0 then none else some { f2 with main:=(f2.names.map (·.s)).getD (f.at Qp - 1) 0 }
def J3 (l:Bs):Option Fnd:=match Q2 l with
 |none=>none
 |some ds=>Tl ds
structure Sv (α:Type) where
 l:List α
 a:Option Addr
 c:Nat
def Sv.v {α:Type}(x:Sv α):Value:= .slice x.a x.l.length x.c
def Sv.z {α:Type}:Sv α:=⟨[],none,0⟩
structure Th where
 nm:ByteArray
 loc:Int
 body:List Stm
 a:Option Addr
 c:Nat
def nmC (x:Nm):List Value:= [.string x.t,.int .i64 x.k,.int .i64 x.s]
def thC (x:Th):List Value:= [.string x.nm,.int .i64 x.loc,.slice x.a x.body.length x.c]
def Th.er (x:Th):PTh:=⟨x.nm,x.loc,Zj x.body⟩
structure FC where
 vars:Sv Int
 arrs:Sv Int
 mu:Int
 co:Int
 chs:Sv Int
 ths:Sv Th
 main:Int
 stm:Int
 nv:Sv ByteArray
 na:Sv ByteArray
 nm:Sv ByteArray
 nc:Sv ByteArray
 nh:Sv ByteArray
 names:Sv Nm
 cells:Int
 locals:Int
 most:Int
 pl:Int
 pc:Int
 flaw:Int
def fcC (f:FC):List Value:= [f.vars.v,f.arrs.v,.int .i64 f.mu,.int .i64 f.co,f.chs.v,f.ths.v,.int .i64 f.main,.int .i64 f.stm,f.nv.v,f.na.v,f.nm.v,f.nc.v,f.nh.v,f.names.v,.int .i64 f.cells,.int .i64 f.locals,.int .i64 f.most,.int .i64 f.pl,.int .i64 f.pc,.int .i64 f.flaw]
def FC.er (f:FC):Fnd:=⟨f.vars.l,f.arrs.l,f.mu,f.co,f.chs.l,f.ths.l.map Th.er,f.main,f.stm,f.nv.l,f.na.l,f.nm.l,f.nc.l,f.nh.l,f.names.l,f.cells,f.locals,f.most,f.flaw⟩
def iC (x:Int):List Value:= [.int .i64 x]
def sC (x:ByteArray):List Value:= [.string x]
def Sv.At {α:Type}(M:Hp)(f:α→List Value)(x:Sv α):Prop:=SlAt M x.a x.c x.l.length (x.l.flatMap f)
theorem Sv.At.mono {α:Type}{f:α→List Value}{x:Sv α}{M M':Hp}(e:Hle M M')(h:x.At M f):x.At M' f:=SlAt.mono e h
def Ths.At (M:Hp)(l:List Th):Prop:= ∀ x∈l,BlkAt M x.a x.c x.body
structure FC.At (M:Hp) (f:FC):Prop where
 vars:f.vars.At M iC
 arrs:f.arrs.At M iC
 chs:f.chs.At M iC
 ths:f.ths.At M thC
 bod:Ths.At M f.ths.l
 nv:f.nv.At M sC
 na:f.na.At M sC
 nm:f.nm.At M sC
 nc:f.nc.At M sC
 nh:f.nh.At M sC
 names:f.names.At M nmC
theorem FC.At.mono {f:FC}{M M':Hp}(e:Hle M M')(h:f.At M):f.At M':=⟨h.vars.mono e,h.arrs.mono e,h.chs.mono e,h.ths.mono e,fun x hx=>(h.bod x hx).mono e,h.nv.mono e,h.na.mono e,h.nm.mono e,h.nc.mono e,h.nh.mono e,h.names.mono e⟩
def fcM (f:FC):HP:=lst (fun M=>f.At M) fun e h=>FC.At.mono e h
def svM {α:Type}(f:α→List Value)(x:Sv α):HP:=lst (fun M=>x.At M f) fun e h=>Sv.At.mono e h
section
variable {q q0:List HP}{f:FC}{α:Type}{g:α→List Value}{x:Sv α}
theorem Kn.fc:Kn (fcM f::q) fun M=>f.At M:=Kn.here
theorem Sv.sees (h:Kn q fun M=>x.At M g):Sees q x.a (x.l.flatMap g):=Kn.sees (h.imp fun M h=>h.2.2)
theorem Sv.len {G w:World}(h:Kn q fun M=>x.At M g)(s:St G w q):x.l.length≤9223372036854775807:=h.fact (fun M h=>by have h1:=h.1;have h2:=h.2.1;simp [maxLen] at h2;omega) s
theorem Dc (M:Hp):(Sv.z:Sv α).At M g:=SlAt.nil M
theorem U3 (l:List Int):l.flatMap iC=l.map (Value.int .i64):=by induction l with
 |nil=>rfl
 |cons x r ih=>rw [List.flatMap_cons,ih];rfl
theorem Vo (l:List ByteArray):l.flatMap sC=l.map Value.string:=by induction l with
 |nil=>rfl
 |cons x r ih=>rw [List.flatMap_cons,ih];rfl
end
def Fnd.le (N:Nat)(f:Fnd):Prop:=f.vars.length≤N∧f.arrs.length≤N∧f.chs.length≤N∧f.ths.length≤N∧f.nv.length≤N∧f.na.length≤N∧f.nm.length≤N∧f.nc.length≤N∧f.nh.length≤N∧f.names.length≤N∧(0≤f.mu∧f.mu≤N)∧(0≤f.co∧f.co≤N)∧(0≤f.cells∧f.cells≤256)
theorem J5 {l:List Nm}{s:ByteArray}: ∀ {k:Nat},K1 l s k≤k
 |0=>Nat.le_refl _
 |k+1=>by unfold K1;split;exact Nat.le_refl _;exact Nat.le_succ_of_le J5
section
variable {P:Program}{G:World}{fr:Fc}{Q:Yr}{k:List Item}{p:PE}{ds:List Deferred}{cs:List Frame}{q q0 r:List HP}{ops lo:List Oper}{α:Type}{f:α→List Value}{fe:α→Value}{sz ty:Nat}{a b:Option Addr}{c c':Nat}{l m:List α}{f':α→List Value}
theorem Dd {d:Option Tmp}{ty':TypeId}{pos:String}{af:Array Edge}{gd:Option (Nat×Bool)}{x y:Operand}{t:TypeId}{z:Value}{bytes:Nat}(ht:P.underlying t=some (.slice ty))(hi:(P.info? ty).map (fun i=>(i.zero,i.size,i.bytes))=some (some z,sz,bytes))(hz:z.cells.size=sz)(hsz:Nat.blt 0 sz=true)(hf: ∀ x,(f x).length=sz)
 (hx:evp p x=some (.slice a l.length c)) (hy:evp p y=some (.slice b m.length c')) (hq:Le q (Wx.rsH f sz ty a c l::r)) (hs:Sees q b (m.flatMap f)) (h1: ∀ x,(f x).all (·.oneCell')=true)
 (h63:l.length+m.length≤9223372036854775807) (hby:(l.length+m.length)*bytes≤140737488355328) (E:List HP):
 Ef P G p (q++E) ⟨d,.call ⟨.builtin .append, [x,y].toArray, [t,t].toArray⟩,ty',pos,af,gd⟩ fun v q'=> ∃ q1,(∃ a' c',v= .slice a' (l++m).length c'∧q1=Wx.rsH f sz ty a' c' (l++m)::r)∧q'=q1++E:=by
 intro tm w ag s
 obtain ⟨v,w',q',h1',h2',a',c'',h3,h4⟩:=Yq (P:=P) (G:=G) (d:=d) (ty':=ty') (pos:=pos) (af:=af) (gd:=gd) (r:=r++E) ht hi hz hsz hf hx hy (hq.liftR E) (hs.le (Y6 q E)) h1 h63 hby tm w ag s
 exact ⟨v,w',q',h1',h2',_,⟨a',c'',h3,rfl⟩,h4⟩
theorem Qd {todo:List Item}(hm: ∀ l:List α,l.flatMap f'=l.map fe)(K:X P G fr Q todo p ds cs (svM f' ⟨l,a,c⟩::q0))(hq:Le q (Wx.lsH fe ty a c l::q0):=by exact Zk):X P G fr Q todo p ds cs q:=by
 unfold Wx.lsH at hq
 exact .frz (sz:=1) (ty:=ty) (n:=l.length) (vs:=l.map fe) (Kn.here.imp fun M h=>by show SlAt M a c l.length (l.flatMap f');rw [hm];exact h) K hq
theorem Cp {todo:List Item}(K:X P G fr Q todo p ds cs (svM f ⟨l,a,c⟩::q0))(hq:Le q (Wx.rsH f sz ty a c l::q0):=by exact Zk):X P G fr Q todo p ds cs q:= .frzR Kn.here K hq
theorem svK {x:Sv α}(h:Kn q fun M=>x.At M f:=by exact knA):Kn q fun M=>x.At M f:=h
end
section
variable {G:World}{q:List HP}{s:ByteArray}{f:FC}{why pl pc a b k:Int}
theorem S8 (h:Kn q fun M=>f.At M):CallF prog G 119 [.agg (fcC f).toArray,.string s] (q) (Ret fun v q'=>v= .int .i64 ((f.er.at s:Int) - 1)∧q'=q):=by
 refine CallF.of func119 ntmps119 rfl (fun F cs=> ?_)
 have hN:Kn q fun M=>f.names.At M nmC:=h.imp fun M h=>h.names
 have hA:=Sv.sees hN;have hlen:=Zv (f:=nmC) (sz:=3) (fun _=>rfl) f.names.l
 refine X.fact (fun w s=>Sv.len (hN.le leA) s) (fun hal=> ?_)
 obtain ⟨⟨nl,na,nc⟩,hf⟩: ∃ x,f.names=x:=⟨_,rfl⟩;rw [hf] at hA hlen hal;dsimp only at hA hlen hal
 refine xo 2 ?_;refine Y8 fun n1=> ?_
 refine ol 6 ?_;refine XO.know 7 (.slice na nl.length nc) rfl (by show f.names.v=_;rw [hf];rfl) ?_
 refine ox 5 ?_;refine X.at (X.loop (fun (k:Nat×Option Addr)=>k.1≤nl.length∧K1 nl s nl.length=K1 nl s k.1) (fun k=> [(5,.int .i64 ((k.1:Int) - 1)),(2,.pointer (some ⟨n1,0,none⟩)),(1,.string s),(4,.int .i64 0)]) (fun k=>pto n1 (.cells (fcC f).toArray 240 (0,0))::(q++F)) (fun k=>k.1) (fun k hi_ ih=> ?_) (nl.length,none) ⟨Nat.le_refl _,rfl⟩) Zd leA
 try dsimp only at hi_ ih⊢
 obtain ⟨hk1,hk2⟩:=hi_
 obtain ⟨k,kx⟩:=k;dsimp only at*
 refine xx 6 ?_;refine X.part 11 rfl (fun h0=> ?_) (fun h0=> ?_)
 · replace h0:=sp h0;obtain ⟨k,rfl⟩: ∃ j,k=j+1:=⟨k - 1,by omega⟩;have hlt:k<nl.length:=by omega
   refine X.know 5 (.int .i64 (k:Int)) rfl (congrArg (Value.int .i64) (by omega)) ?_
   have hst:K1 nl s (k+1)=if (bs nl[k].t==bs s)=true then k+1 else K1 nl s k:=by rw [K1,gD (by simpa using hlt)];simp
   refine xj 7 ?_;refine XO.know 15 (.slice na nl.length nc) rfl (by show f.names.v=_;rw [hf];rfl) ?_
   refine oo 1 ?_;refine Kh hA (by rw [hlen];omega) (fun b1 o1 e1=> ?_);subst e1
   refine ol 2 ?_;refine ox 3 ?_;refine X.part 21 rfl (fun h1=> ?_) (fun h1=> ?_)
   · replace h1:=sp h1
     refine xx 6 ?_;refine Zq (q) func119 (Zg results119 rfl) ⟨_,rfl,by rw [show f.er.at s=K1 nl s nl.length by simp only [Fnd.at,FC.er,hf],hk2,hst,if_pos (sTr h1)];congr 1;omega,rfl⟩
   replace h1:=sp h1
   refine xx 8 ?_;refine X.at (ih (k,none) ⟨by dsimp only;omega,by rw [hk2,hst,if_neg (by rw [sNe h1];decide)]⟩ (by dsimp only;omega)) Zd leA
 replace h0:=sp h0;obtain rfl:k=0:=by omega
 refine xx 6 ?_;refine Zq (q) func119 (Zg results119 rfl) ⟨_,rfl,by rw [show f.er.at s=K1 nl s nl.length by simp only [Fnd.at,FC.er,hf],hk2];rfl,rfl⟩
theorem V8 (h:Kn q fun M=>f.At M):CallF prog G 120 [.agg (fcC f).toArray,.int .i64 why,.agg [.int .i64 pl,.int .i64 pc].toArray] (q) (Ret fun v q'=> ∃ g:FC,v= .agg (fcC g).toArray∧q'=fcM g::q∧g.er=f.er.fl why):=by
 refine CallF.of func120 ntmps120 rfl (fun F cs=> ?_)
 refine xo 2 ?_;refine Y8 fun n1=> ?_
 refine Y8 fun n2=> ?_
 refine XO.al zeroValue240 fun n3=> ?_
 refine ol 5 ?_;refine ox 2 ?_;refine X.part 9 rfl (fun h0=> ?_) (fun h0=> ?_)
 · replace h0:=sp h0;replace h0:f.flaw=0:=h0
   refine xx 1 ?_;refine drw ?_;refine dd [0] ?_;refine Ji 1 ?_;refine dd [2] ?_;refine stD 3 ?_;refine dd [4] ?_;refine V1 5 ?_;refine XD.nil ?_;refine xo 2 ?_;refine ldA ?_;refine stA ?_;refine ox 1 ?_;refine X.le (q':=fcM { f with flaw:=why,pl:=pl,pc:=pc } ::_) (Kn.add ((Kn.le h).imp fun M h=>⟨h.vars,h.arrs,h.chs,h.ths,h.bod,h.nv,h.na,h.nm,h.nc,h.nh,h.names⟩)) ?_
   refine Zq (fcM { f with flaw:=why,pl:=pl,pc:=pc } ::q) func120 (rA_ results120) ⟨_,rfl, { f with flaw:=why,pl:=pl,pc:=pc },rfl,rfl,by unfold Fnd.fl;rw [if_pos (show f.er.flaw=0 from h0)];rfl⟩
 replace h0:=sp h0;replace h0: ¬f.flaw=0:=h0
 refine xo 4 ?_;refine ldA ?_;refine stA ?_;refine ox 1 ?_;refine X.le (q':=fcM f::_) (Kn.add (Kn.le h)) ?_
 refine Zq (fcM f::q) func120 (rA_ results120) ⟨_,rfl,f,rfl,rfl,by unfold Fnd.fl;rw [if_neg (show ¬f.er.flaw=0 from h0)]⟩
theorem Ei:(prog.info? 2).map (fun i=>(i.zero,i.size,i.bytes))=some (some (.int .i64 0),1,8):=by kernel_rfl
theorem Qj:(prog.info? 245).map (fun i=>(i.zero,i.size,i.bytes))=some (some (.agg #[.string ⟨#[]⟩,.int .i64 0,.int .i64 0]),3,32):=by kernel_rfl
theorem Nk:(prog.info? 55).map (fun i=>(i.zero,i.size,i.bytes))=some (some (.agg #[.string ⟨#[]⟩,.int .i64 0,.slice none 0 0]),3,48):=by kernel_rfl
set_option maxHeartbeats 1000000 in
theorem wants_ok (h:Kn q fun M=>f.At M):CallF prog G 186 [.agg (fcC f).toArray,.string s,.int .i64 a,.int .i64 b,.agg [.int .i64 pl,.int .i64 pc].toArray] (q) (Ret fun v q'=> ∃ (g:FC) (x:Nm),v= .tuple [.agg (fcC g).toArray,.agg (nmC x).toArray].toArray∧q'=fcM g::q∧(g.er,x.k,x.s)=f.er.wants s a b):=by
 refine CallF.of func186 ntmps186 rfl (fun F cs=> ?_)
 have hN:Kn q fun M=>f.names.At M nmC:=h.imp fun M h=>h.names
 have hA:=Sv.sees hN;have hlen:=Zv (f:=nmC) (sz:=3) (fun _=>rfl) f.names.l
 obtain ⟨⟨nl,na,nc⟩,hf⟩: ∃ x,f.names=x:=⟨_,rfl⟩;rw [hf] at hA hlen;dsimp only at hA hlen
 have hat:f.er.at s=K1 nl s nl.length:=by simp only [Fnd.at,FC.er,hf]
 obtain ⟨W,hW⟩: ∃ W,f.er.wants s a b=W:=⟨_,rfl⟩;rw [hW];unfold Fnd.wants at hW
 refine xo 2 ?_;refine Y8 fun n1=> ?_
 refine Y8 fun n2=> ?_
 refine XO.al zeroValue240 fun n3=> ?_
 refine XO.al zeroValue245 fun n4=> ?_
 refine oo 3 ?_;refine ldA ?_;refine oo 1 ?_;refine XO.cR call119 (S8 (f:=f) (h.le leA)) ?_
 refine ox 8 ?_;refine X.part 17 rfl (fun h0=> ?_) (fun h0=> ?_)
 · replace h0:=sp h0;replace h0:f.er.at s=0:=by omega
   refine xo 3 ?_;refine ldA ?_;refine ldA ?_;refine Zf call120 (Le.refl _) (V8 (f:=f) (h.le leA)) ?_
   rintro _ _ ⟨g,rfl,rfl,hg⟩
   refine oo 1 ?_;refine stA ?_;refine stA ?_;refine ox 1 ?_
   rw [h0] at hW;dsimp only at hW
   refine Zq (fcM g::q) func186 (I6 results186) ⟨_,rfl,g,⟨⟨#[]⟩,0,0⟩,rfl,rfl,by rw [←hW,hg]⟩
 replace h0:=sp h0;obtain ⟨i,hi⟩: ∃ i,f.er.at s=i+1:=⟨f.er.at s - 1,by omega⟩;have hlt:i<nl.length:=by have:=J5 (l:=nl) (s:=s) (k:=nl.length);omega
 refine X.know 12 (.int .i64 (i:Int)) rfl (congrArg (Value.int .i64) (by omega)) ?_
 refine xj 6 ?_;refine XO.know 23 (.slice na nl.length nc) rfl (by show f.names.v=_;rw [hf];rfl) ?_
 refine oo 1 ?_;refine Kh hA (by rw [hlen];omega) (fun b1 o1 e1=> ?_);subst e1
 refine ol 2 ?_;refine oo 3 ?_;refine Zm [30,12,11,10,9,5,3] ?_
 apply Zp 9 39 30 rfl
 · intro g1 M1;have h1:=sp g1
   refine ol 1 ?_;refine XO.know 32 (.slice (some ⟨b1,o1,none⟩) nl.length nc) rfl (by show f.names.v=_;rw [hf];rfl) ?_
   refine ol 3 ?_;refine oo 3 ?_;exact Zz M1 ⟨Wz g1,Zw⟩
 · intro g1 M1;have h1:=sp g1
   refine oo 9 ?_;exact Zz M1 ⟨Wj g1,Zw⟩
 refine ox 1 ?_;refine X.part 39 rfl (fun h1=> ?_) (fun h1=> ?_)
 · replace h1:=sp h1
   refine xo 3 ?_;refine ldA ?_;refine ldA ?_;refine Zf call120 (Le.refl _) (V8 (f:=f) (h.le leA)) ?_
   rintro _ _ ⟨g,rfl,rfl,hg⟩
   refine oo 1 ?_;refine stA ?_;refine stA ?_;refine ox 1 ?_
   rw [hi] at hW;dsimp only at hW;rw [show ((f.er.names.map fun x=>(x.k,x.s)).getD i (0,0))=(nl[i].k,nl[i].s) by rw [show f.er.names=nl by simp only [FC.er,hf],gD (by simpa using hlt)];simp] at hW;dsimp only at hW
   rw [if_pos (by simpa using h1)] at hW
   refine Zq (fcM g::q) func186 (I6 results186) ⟨_,rfl,g,⟨⟨#[]⟩,0,0⟩,rfl,rfl,by rw [←hW,hg]⟩
 replace h1:=sp h1
 refine xx 3 ?_;refine drw ?_;refine Ji 0 ?_;refine dl [1] 2 ?_;refine XD.know 46 (.slice (some ⟨b1,o1,none⟩) nl.length nc) rfl (by show f.names.v=_;rw [hf];rfl) ?_
 refine dd [3,4] ?_;refine XD.ldS 5 (m:=i) isAgg245 sizeOf245 hA hlt ?_
 refine V1 6 ?_ (hh:=hlR)
 refine V1 7 ?_;refine XD.nil ?_
 rw [hi] at hW;dsimp only at hW;rw [show ((f.er.names.map fun x=>(x.k,x.s)).getD i (0,0))=(nl[i].k,nl[i].s) by rw [show f.er.names=nl by simp only [FC.er,hf],gD (by simpa using hlt)];simp] at hW;dsimp only at hW
 rw [if_neg (fun hx=>by simp at hx;omega)] at hW
 refine X.le (q':=fcM f::_) (Kn.add (Kn.le h)) ?_
 refine Zq (fcM f::q) func186 (I6 results186) ⟨_,rfl,f,nl[i],rfl,rfl,hW⟩
theorem want_ok:CallF prog G 185 [.int .i64 k] (q) (Ret fun v q'=>v= .tuple [.int .i64 (Jy k).1,.int .i64 (Jy k).2].toArray∧q'=q):=by
 refine CallF.of func185 ntmps185 rfl (fun F cs=> ?_)
 refine xx 16 ?_;refine X.part 5 rfl (fun h1=> ?_) (fun h1=> ?_)
 focus
  replace h1:=sp h1
  refine xx 6 ?_
 rotate_left
 focus
  replace h1:=sp h1
  refine xx 6 ?_;refine X.part 7 rfl (fun h2=> ?_) (fun h2=> ?_)
  focus
   replace h2:=sp h2
   refine xx 6 ?_
  rotate_left
  focus
   replace h2:=sp h2
   refine xx 7 ?_;refine X.part 9 rfl (fun h3=> ?_) (fun h3=> ?_)
   focus
    replace h3:=sp h3
    refine xx 8 ?_
   rotate_left
   focus
    replace h3:=sp h3
    refine xx 5 ?_;refine X.part 9 rfl (fun h4=> ?_) (fun h4=> ?_)
    focus
     replace h4:=sp h4
     refine xx 6 ?_
    rotate_left
    focus
     replace h4:=sp h4
     refine xx 7 ?_;refine X.part 12 rfl (fun h5=> ?_) (fun h5=> ?_)
     focus
      replace h5:=sp h5
      refine xx 8 ?_
     rotate_left
     focus
      replace h5:=sp h5
      refine xx 6 ?_;refine X.part 12 rfl (fun h6=> ?_) (fun h6=> ?_)
      focus
       replace h6:=sp h6
       refine xx 8 ?_
      rotate_left
      focus
       replace h6:=sp h6
       refine xx 5 ?_;refine X.part 12 rfl (fun h7=> ?_) (fun h7=> ?_)
       focus
        replace h7:=sp h7
        refine xx 6 ?_
       rotate_left
       focus
        replace h7:=sp h7
        refine xx 7 ?_;refine X.part 16 rfl (fun h8=> ?_) (fun h8=> ?_)
        focus
         replace h8:=sp h8
         refine xx 8 ?_
        rotate_left
        focus
         replace h8:=sp h8
         refine xx 5 ?_;refine X.part 16 rfl (fun h9=> ?_) (fun h9=> ?_)
         focus
          replace h9:=sp h9
          refine xx 6 ?_
         rotate_left
         focus
          replace h9:=sp h9
          refine xx 6 ?_;refine X.part 19 rfl (fun h10=> ?_) (fun h10=> ?_)
          focus
           replace h10:=sp h10
           refine xx 6 ?_
          rotate_left
          focus
           replace h10:=sp h10
           refine xx 8 ?_
 all_goals
  refine Zq (q) func185 (Wc results185 rfl rfl) ⟨_,rfl,by unfold Jy;repeat (first|rw [if_pos (by omega)]|rw [if_neg (by omega)]),rfl⟩
end
section
variable {q:List HP}{f:FC}
theorem FC.At.v {M:Hp}{f:FC}{x:Sv Int}{y:Sv ByteArray}(h:f.At M)(h1:x.At M iC)(h2:y.At M sC):({ f with vars:=x,nv:=y } :FC).At M:=⟨h1,h.arrs,h.chs,h.ths,h.bod,h2,h.na,h.nm,h.nc,h.nh,h.names⟩
theorem FC.At.a {M:Hp}{f:FC}{x:Sv Int}{y:Sv ByteArray}{c:Int}(h:f.At M)(h1:x.At M iC)(h2:y.At M sC):({ f with cells:=c,arrs:=x,na:=y } :FC).At M:=⟨h.vars,h1,h.chs,h.ths,h.bod,h.nv,h2,h.nm,h.nc,h.nh,h.names⟩
theorem FC.At.m {M:Hp}{f:FC}{y:Sv ByteArray}{c:Int}(h:f.At M)(h2:y.At M sC):({ f with mu:=c,nm:=y } :FC).At M:=⟨h.vars,h.arrs,h.chs,h.ths,h.bod,h.nv,h.na,h2,h.nc,h.nh,h.names⟩
theorem FC.At.c {M:Hp}{f:FC}{y:Sv ByteArray}{c:Int}(h:f.At M)(h2:y.At M sC):({ f with co:=c,nc:=y } :FC).At M:=⟨h.vars,h.arrs,h.chs,h.ths,h.bod,h.nv,h.na,h.nm,h2,h.nh,h.names⟩
theorem FC.At.h {M:Hp}{f:FC}{x:Sv Int}{y:Sv ByteArray}(h:f.At M)(h1:x.At M iC)(h2:y.At M sC):({ f with chs:=x,nh:=y } :FC).At M:=⟨h.vars,h.arrs,h1,h.ths,h.bod,h.nv,h.na,h.nm,h.nc,h2,h.names⟩
theorem FC.At.t {M:Hp}{f:FC}{x:Sv Th}(h:f.At M)(h1:x.At M thC)(h2:Ths.At M x.l):({ f with ths:=x } :FC).At M:=⟨h.vars,h.arrs,h.chs,h1,h2,h.nv,h.na,h.nm,h.nc,h.nh,h.names⟩
theorem FC.At.n {M:Hp}{f:FC}{x:Sv Nm}(h:f.At M)(h1:x.At M nmC):({ f with names:=x } :FC).At M:=⟨h.vars,h.arrs,h.chs,h.ths,h.bod,h.nv,h.na,h.nm,h.nc,h.nh,h1⟩
theorem svI {x:Sv Int}(h:Kn q fun M=>x.At M iC):Sees q x.a (x.l.map I64):=by rw [←U3];exact Sv.sees h
theorem svS {x:Sv ByteArray}(h:Kn q fun M=>x.At M sC):Sees q x.a (x.l.map Value.string):=by rw [←Vo];exact Sv.sees h
end
section
variable {G:World}{q:List HP}{f:FC}{d:Dec}
set_option maxHeartbeats 4000000 in
theorem Pt (h:Kn q fun M=>f.At M)(hb:f.er.le 100000)(hk:1≤d.k∧d.k≤6)(hd: -2147483647≤d.n∧d.n≤2147483647):CallF prog G 118 [.agg (fcC f).toArray,.agg (dcC d).toArray] (q) (Ret fun v q'=> ∃ g:FC,v= .agg (fcC g).toArray∧q'=fcM g::q∧g.er=f.er.decl d.er):=by
 refine CallF.of func118 ntmps118 rfl (fun F cs=> ?_)
 obtain ⟨k,ln,cl,nm,z,body,ba,bc⟩:=d;dsimp only at hk hd;obtain ⟨hb1,hb2,hb3,hb4,hb5,hb6,hb7,hb8,hb9,hb10,⟨hb11,hb12⟩,⟨hb13,hb14⟩,hb15,hb16⟩:=hb;dsimp only [FC.er] at hb1 hb2 hb3 hb4 hb5 hb6 hb7 hb8 hb9 hb10 hb11 hb12 hb13 hb14 hb15 hb16;rw [List.length_map] at hb4
 obtain ⟨R,hR⟩: ∃ R,f.er.decl (Dec.er ⟨k,ln,cl,nm,z,body,ba,bc⟩)=R:=⟨_,rfl⟩;rw [hR]
 obtain ⟨D,hD⟩: ∃ D,f.er.decl1 ⟨k,ln,cl,nm,z,Zj body⟩=D:=⟨_,rfl⟩
 replace hR:(if f.er.at nm≠0 then f.er.fl 130 else if D.2.2=false then D.1 else if 64≤D.1.names.length then D.1.fl 134 else { D.1 with names:=D.1.names++ [⟨nm,k,D.2.1⟩] })=R:=by rw [←hD];exact hR
 refine xo 2 ?_;refine Y8 fun n1=> ?_
 refine Y8 fun n2=> ?_
 refine XO.al zeroValue240 fun n3=> ?_
 refine oo 4 ?_;refine ldA ?_;refine ol 1 ?_;refine XO.cR call119 (S8 (f:=f) (h.le leA)) ?_
 refine ox 2 ?_;refine X.part 10 rfl (fun h0=> ?_) (fun h0=> ?_)
 · replace h0:=sp h0;rw [if_pos (show f.er.at nm≠0 by omega)] at hR
   refine xo 3 ?_;refine ldA ?_;refine oo 1 ?_;refine ldA ?_;refine Zf call120 (Le.refl _) (V8 (f:=f) (h.le leA)) ?_
   rintro _ _ ⟨g,rfl,rfl,hg⟩
   refine stA ?_;refine ox 1 ?_;refine Zq (fcM g::q) func118 (rA_ results118) ⟨_,rfl,g,rfl,rfl,hg.trans hR⟩
 replace h0:=sp h0;rw [if_neg (show ¬f.er.at nm≠0 by omega)] at hR
 unfold Fnd.decl1 at hD;dsimp only at hD
 refine xj 10 ?_;refine ox 1 ?_;refine X.join (fun (x:FC×Int)=> [(5,.int .i64 x.2),(2,.pointer (some ⟨n1,0,none⟩)),(3,.pointer (some ⟨n2,0,none⟩)),(4,.pointer (some ⟨n3,0,none⟩))]) (fun x=>fcM x.1::pto n1 (.cells (fcC x.1).toArray 240 (0,0))::pto n2 (.cells (dcC ⟨k,ln,cl,nm,z,body,ba,bc⟩).toArray 229 (0,0))::pto n3 (.cells [.slice none 0 0,.slice none 0 0,.int .i64 0,.int .i64 0,.slice none 0 0,.slice none 0 0,.int .i64 0,.int .i64 0,.slice none 0 0,.slice none 0 0,.slice none 0 0,.slice none 0 0,.slice none 0 0,.slice none 0 0,.int .i64 0,.int .i64 0,.int .i64 0,.int .i64 0,.int .i64 0,.int .i64 0].toArray 240 (0,0))::(q++F)) (fun x=>D=(x.1.er,x.2,true)∧x.1.names.l.length≤100000) (fun x hx_=> ?_) (fun K=> ?_)
 · obtain ⟨g,n⟩:=x;dsimp only at hx_⊢;obtain ⟨hx1,hx2⟩:=hx_;rw [hx1] at hR;dsimp only at hR;rw [if_neg (show ¬true=false by decide)] at hR
   refine xj 4 ?_;refine ox 3 ?_;refine X.part 217 rfl (fun h1=> ?_) (fun h1=> ?_)
   · replace h1:=sp h1;rw [if_pos (show 64≤g.er.names.length by simp only [FC.er];omega)] at hR
     refine xo 3 ?_;refine ldA ?_;refine oo 1 ?_;refine ldA ?_;refine Zf call120 (Le.refl _) (V8 (f:=g) knA) ?_
     rintro _ _ ⟨g2,rfl,rfl,hg⟩
     refine stA ?_;refine ox 1 ?_;refine Zq (fcM g2::q) func118 (rA_ results118) ⟨_,rfl,g2,rfl,rfl,hg.trans hR⟩
   replace h1:=sp h1;rw [if_neg (show ¬64≤g.er.names.length by simp only [FC.er];omega)] at hR
   refine xx 3 ?_;refine drw ?_;refine dl [0] 1 ?_;refine dl [3] 4 ?_;refine dl [5] 6 ?_;refine dd [7,8] ?_;refine XD.le (q':=rsH nmC 3 245 none 0 ([])::_) (Zl nmC 3 245 _) ?_
   refine Y3 (fl:= [⟨9,231,fun g=> .slice (some ⟨g,0,none⟩) 1 1,fun g=>rsH nmC 3 245 (some ⟨g,0,none⟩) 1 ([⟨nm,k,n⟩])⟩]) ?_
   refine XF.ef 2 ⟨⟨_,rfl,rfl,rfl,rfl,rfl,rfl,fun q=>Yj (u:=⟨nm,k,n⟩) nmC underlying238 Qj rfl rfl (fun _=>rfl) rfl⟩,trivial⟩ (Dd (f:=nmC) (sz:=3) (l:= []) (m:=g.names.l) underlying238 Qj rfl rfl (fun _=>rfl) rfl rfl Zk (Sv.sees (Kn.imp (φ:=fun M=>g.At M) knA fun M h=>h.names)) (fun _=>rfl) (by simp;omega) (by simp;omega)) ?_
   rintro _ _ ⟨aa,ac,rfl,rfl⟩
   refine ⟨hlA,?_⟩
   refine Vj (e0:=⟨9,231,fun g=> .slice (some ⟨g,0,none⟩) 1 1,fun g=>rsH nmC 3 245 (some ⟨g,0,none⟩) 1 ([⟨nm,k,n⟩])⟩) (hnd:=by simp) 9 ⟨⟨_,rfl,rfl,rfl,rfl,rfl,rfl,fun q=>Yj (u:=⟨nm,k,n⟩) nmC underlying238 Qj rfl rfl (fun _=>rfl) rfl⟩,trivial⟩ (fun gl=> ?_)
   change XF _ _ _ _ _ _ _ [] _ _ _ ((231,.slice (some ⟨gl,0,none⟩) 1 1)::_) _ _ (rsH nmC 3 245 (some ⟨gl,0,none⟩) 1 ([⟨nm,k,n⟩])::_)
   refine XF.back ?_
   try rw [List.nil_append]
   refine XD.ef 10 rfl (Yq (f:=nmC) (l:=g.names.l) (m:= [⟨nm,k,n⟩]) underlying238 Qj rfl rfl (fun _=>rfl) rfl rfl Zk ((Sees.rsH _).le Zk) (fun _=>rfl) (by simp;omega) (by simp;omega)) ?_
   rintro _ _ ⟨ba2,bc2,rfl,rfl⟩
   refine ⟨hlA,?_⟩
   refine dd [11] ?_;refine stD 12 ?_;refine XD.nil ?_;refine xo 2 ?_;refine ldA ?_;refine stA ?_;refine ox 1 ?_;refine Cp ?_;refine X.le (q':=fcM ({ g with names:=⟨g.names.l++ [⟨nm,k,n⟩],ba2,bc2⟩ } :FC)::_) (Kn.add ((Kn.and (φ:=fun M=>g.At M) knA (svK (x:=⟨_,ba2,bc2⟩) (f:=nmC))).imp fun M h=>FC.At.n h.1 h.2)) ?_
   refine Zq (fcM ({ g with names:=⟨g.names.l++ [⟨nm,k,n⟩],ba2,bc2⟩ } :FC)::q) func118 (rA_ results118) ⟨_,rfl, { g with names:=⟨g.names.l++ [⟨nm,k,n⟩],ba2,bc2⟩ },rfl,rfl,hR⟩
 have hcl:k=1∨k=2∨k=3∨k=4∨k=5∨k=6:=by omega
 rcases hcl with rfl|rfl|rfl|rfl|rfl|rfl
 · rw [if_pos rfl] at hD
   refine xx 6 ?_;refine X.kt 17 ?_;refine xj 5 ?_;refine ol 7 ?_;refine oo 2 ?_;refine Zm [26,5,4,3,2] ?_
   apply Zb 4 30 26 rfl
   · intro g1 M1;have h1:=sp g1
     refine ol 1 ?_;refine oo 2 ?_;exact Zz M1 ⟨orF g1,Zw⟩
   · intro g1 M1;have h1:=sp g1
     refine oo 4 ?_;exact Zz M1 ⟨orT g1,Zw⟩
   refine ox 1 ?_;refine X.part 30 rfl (fun h1=> ?_) (fun h1=> ?_)
   · replace h1:=sp h1
     refine xo 3 ?_;refine ldA ?_;refine oo 1 ?_;refine ldA ?_;refine Zf call120 (Le.refl _) (V8 (f:=f) (h.le leA)) ?_
     rintro _ _ ⟨g,rfl,rfl,hg⟩
     refine stA ?_;refine ox 1 ?_
     rw [if_pos (by omega)] at hD;rw [←hD,if_pos rfl] at hR
     refine Zq (fcM g::q) func118 (rA_ results118) ⟨_,rfl,g,rfl,rfl,hg.trans hR⟩
   replace h1:=sp h1
   refine xx 3 ?_;refine drw ?_;refine dl [0,1] 2 ?_;refine dl [4] 5 ?_;refine XD.le (q':=lsH I64 2 none 0 ([])::_) (Ze _ _ _) ?_
   refine Y3 (fl:= [⟨6,41,fun g=> .slice (some ⟨g,0,none⟩) 1 1,fun g=>lsH I64 2 (some ⟨g,0,none⟩) 1 ([z])⟩]) ?_
   refine XF.ef 3 ⟨⟨_,rfl,rfl,rfl,rfl,rfl,rfl,fun q=>Y0 I64 [z] underlying23 Ei rfl rfl rfl rfl rfl rfl (fun _=>rfl)⟩,trivial⟩ (Jr (fe:=I64) (l:= []) (m:=f.vars.l) underlying23 Ei rfl rfl rfl Zk (svI (Kn.le (h.imp fun M h=>h.vars))) (fun _=>rfl) (by simp;omega) (by simp;omega)) ?_
   rintro _ _ ⟨aaa,aca,rfl,rfl⟩
   refine ⟨hlA,?_⟩
   refine Vj (e0:=⟨6,41,fun g=> .slice (some ⟨g,0,none⟩) 1 1,fun g=>lsH I64 2 (some ⟨g,0,none⟩) 1 ([z])⟩) (hnd:=by simp) 6 ⟨⟨_,rfl,rfl,rfl,rfl,rfl,rfl,fun q=>Y0 I64 [z] underlying23 Ei rfl rfl rfl rfl rfl rfl (fun _=>rfl)⟩,trivial⟩ (fun gla=> ?_)
   change XF _ _ _ _ _ _ _ [] _ _ _ ((41,.slice (some ⟨gla,0,none⟩) 1 1)::_) _ _ (lsH I64 2 (some ⟨gla,0,none⟩) 1 ([z])::_)
   refine XF.back ?_
   try rw [List.nil_append]
   refine XD.ef 7 rfl (Yb (f:=I64) (l:=f.vars.l) (m:= [z]) underlying23 Ei rfl rfl rfl Zk ((Sees.lsH _).le Zk) (fun _=>rfl) (by simp;omega) (by simp;omega)) ?_
   rintro _ _ ⟨ba2a,bc2a,rfl,rfl⟩
   refine ⟨hlA,?_⟩
   refine dd [8,9] ?_;refine stD 10 ?_;refine XD.nil ?_;refine drw ?_;refine dl [0,1,2] 3 ?_;refine dl [5] 6 ?_;refine XD.le (q':=lsH Value.string 9 none 0 ([])::_) (Ze _ _ _) ?_
   refine Y3 (fl:= [⟨7,52,fun g=> .slice (some ⟨g,0,none⟩) 1 1,fun g=>lsH Value.string 9 (some ⟨g,0,none⟩) 1 ([nm])⟩]) ?_
   refine XF.ef 4 ⟨⟨_,rfl,rfl,rfl,rfl,rfl,rfl,fun q=>Y0 Value.string [nm] underlying25 Wn rfl rfl rfl rfl rfl rfl (fun _=>rfl)⟩,trivial⟩ (Jr (fe:=Value.string) (l:= []) (m:=f.nv.l) underlying25 Wn rfl rfl rfl Zk (svS (Kn.le (h.imp fun M h=>h.nv))) (fun _=>rfl) (by simp;omega) (by simp;omega)) ?_
   rintro _ _ ⟨aab,acb,rfl,rfl⟩
   refine ⟨hlA,?_⟩
   refine Vj (e0:=⟨7,52,fun g=> .slice (some ⟨g,0,none⟩) 1 1,fun g=>lsH Value.string 9 (some ⟨g,0,none⟩) 1 ([nm])⟩) (hnd:=by simp) 7 ⟨⟨_,rfl,rfl,rfl,rfl,rfl,rfl,fun q=>Y0 Value.string [nm] underlying25 Wn rfl rfl rfl rfl rfl rfl (fun _=>rfl)⟩,trivial⟩ (fun glb=> ?_)
   change XF _ _ _ _ _ _ _ [] _ _ _ ((52,.slice (some ⟨glb,0,none⟩) 1 1)::_) _ _ (lsH Value.string 9 (some ⟨glb,0,none⟩) 1 ([nm])::_)
   refine XF.back ?_
   try rw [List.nil_append]
   refine XD.ef 8 rfl (Yb (f:=Value.string) (l:=f.nv.l) (m:= [nm]) underlying25 Wn rfl rfl rfl Zk ((Sees.lsH _).le Zk) (fun _=>rfl) (by simp;omega) (by simp;omega)) ?_
   rintro _ _ ⟨ba2b,bc2b,rfl,rfl⟩
   refine ⟨hlA,?_⟩
   refine dd [9,10,11] ?_;refine stD 12 ?_;refine XD.nil ?_;refine xx 1 ?_
   rw [if_neg (by omega)] at hD
   refine Qd (f':=iC) (fe:=I64) U3 ?_
   refine Qd (f':=sC) (fe:=Value.string) Vo ?_
   refine X.le (q':=fcM ({ f with vars:=⟨f.vars.l++ [z],ba2a,bc2a⟩,nv:=⟨f.nv.l++ [nm],ba2b,bc2b⟩ } :FC)::_) (Kn.add ((Kn.and (Kn.le h) (Kn.and (svK (x:=⟨f.vars.l++ [z],ba2a,bc2a⟩) (f:=iC)) (svK (x:=⟨f.nv.l++ [nm],ba2b,bc2b⟩) (f:=sC)))).imp fun M h=>FC.At.v h.1 h.2.1 h.2.2)) ?_
   exact X.at (K (({ f with vars:=⟨f.vars.l++ [z],ba2a,bc2a⟩,nv:=⟨f.nv.l++ [nm],ba2b,bc2b⟩ } :FC),(f.vars.l.length:Int)) ⟨by first|(rw [←hD];done)|(rw [←hD];rfl)|(rw [←hD];simp only [FC.er,List.map_append,List.length_map];done)|(rw [←hD];simp only [FC.er,List.map_append,List.length_map];rfl),hb10⟩) Zd leA
 · rw [if_neg (by decide),if_pos rfl] at hD
   rw [show f.er.cells=f.cells from rfl] at hD
   refine xx 6 ?_;refine kx 17 6 ?_;refine X.kt 57 ?_;refine xj 5 ?_;refine ol 7 ?_;refine oo 2 ?_;refine Zm [66,5,4,3,2] ?_
   apply Zb 4 70 66 rfl
   · intro g1 M1;have h1:=sp g1
     refine ol 1 ?_;refine oo 2 ?_;exact Zz M1 ⟨orF g1,Zw⟩
   · intro g1 M1;have h1:=sp g1
     refine oo 4 ?_;exact Zz M1 ⟨orT g1,Zw⟩
   refine oo 1 ?_;refine Zm [71,5,4,3,2] ?_
   apply Zb 7 78 71 rfl
   · intro g1 M1;have h1:=sp g1
     refine ol 1 ?_;refine ol 1 ?_;refine oo 3 ?_;exact Zz M1 ⟨orF g1,Zw⟩
   · intro g1 M1;have h1:=sp g1
     refine oo 7 ?_;exact Zz M1 ⟨orT g1,Zw⟩
   refine ox 1 ?_;refine X.part 78 rfl (fun h1=> ?_) (fun h1=> ?_)
   · replace h1:=sp h1
     refine xo 3 ?_;refine ldA ?_;refine oo 1 ?_;refine ldA ?_;refine Zf call120 (Le.refl _) (V8 (f:=f) (h.le leA)) ?_
     rintro _ _ ⟨g,rfl,rfl,hg⟩
     refine stA ?_;refine ox 1 ?_
     rw [if_pos (by omega)] at hD;rw [←hD,if_pos rfl] at hR
     refine Zq (fcM g::q) func118 (rA_ results118) ⟨_,rfl,g,rfl,rfl,hg.trans hR⟩
   replace h1:=sp h1
   refine xj 5 ?_;refine ol 1 ?_;refine oo 2 ?_;refine st ?_;refine ox 2 ?_;refine drw ?_;refine dl [0,1] 2 ?_;refine dl [4] 5 ?_;refine XD.le (q':=lsH I64 3 none 0 ([])::_) (Ze _ _ _) ?_
   refine Y3 (fl:= [⟨6,95,fun g=> .slice (some ⟨g,0,none⟩) 1 1,fun g=>lsH I64 3 (some ⟨g,0,none⟩) 1 ([z])⟩]) ?_
   refine XF.ef 3 ⟨⟨_,rfl,rfl,rfl,rfl,rfl,rfl,fun q=>Y0 I64 [z] underlying22 Kv rfl rfl rfl rfl rfl rfl (fun _=>rfl)⟩,trivial⟩ (Jr (fe:=I64) (l:= []) (m:=f.arrs.l) underlying22 Kv rfl rfl rfl Zk (svI (Kn.le (h.imp fun M h=>h.arrs))) (fun _=>rfl) (by simp;omega) (by simp;omega)) ?_
   rintro _ _ ⟨aaa,aca,rfl,rfl⟩
   refine ⟨hlA,?_⟩
   refine Vj (e0:=⟨6,95,fun g=> .slice (some ⟨g,0,none⟩) 1 1,fun g=>lsH I64 3 (some ⟨g,0,none⟩) 1 ([z])⟩) (hnd:=by simp) 6 ⟨⟨_,rfl,rfl,rfl,rfl,rfl,rfl,fun q=>Y0 I64 [z] underlying22 Kv rfl rfl rfl rfl rfl rfl (fun _=>rfl)⟩,trivial⟩ (fun gla=> ?_)
   change XF _ _ _ _ _ _ _ [] _ _ _ ((95,.slice (some ⟨gla,0,none⟩) 1 1)::_) _ _ (lsH I64 3 (some ⟨gla,0,none⟩) 1 ([z])::_)
   refine XF.back ?_
   try rw [List.nil_append]
   refine XD.ef 7 rfl (Yb (f:=I64) (l:=f.arrs.l) (m:= [z]) underlying22 Kv rfl rfl rfl Zk ((Sees.lsH _).le Zk) (fun _=>rfl) (by simp;omega) (by simp;omega)) ?_
   rintro _ _ ⟨ba2a,bc2a,rfl,rfl⟩
   refine ⟨hlA,?_⟩
   refine dd [8,9] ?_;refine stD 10 ?_;refine XD.nil ?_;refine drw ?_;refine dl [0,1,2] 3 ?_;refine dl [5] 6 ?_;refine XD.le (q':=lsH Value.string 9 none 0 ([])::_) (Ze _ _ _) ?_
   refine Y3 (fl:= [⟨7,106,fun g=> .slice (some ⟨g,0,none⟩) 1 1,fun g=>lsH Value.string 9 (some ⟨g,0,none⟩) 1 ([nm])⟩]) ?_
   refine XF.ef 4 ⟨⟨_,rfl,rfl,rfl,rfl,rfl,rfl,fun q=>Y0 Value.string [nm] underlying25 Wn rfl rfl rfl rfl rfl rfl (fun _=>rfl)⟩,trivial⟩ (Jr (fe:=Value.string) (l:= []) (m:=f.na.l) underlying25 Wn rfl rfl rfl Zk (svS (Kn.le (h.imp fun M h=>h.na))) (fun _=>rfl) (by simp;omega) (by simp;omega)) ?_
   rintro _ _ ⟨aab,acb,rfl,rfl⟩
   refine ⟨hlA,?_⟩
   refine Vj (e0:=⟨7,106,fun g=> .slice (some ⟨g,0,none⟩) 1 1,fun g=>lsH Value.string 9 (some ⟨g,0,none⟩) 1 ([nm])⟩) (hnd:=by simp) 7 ⟨⟨_,rfl,rfl,rfl,rfl,rfl,rfl,fun q=>Y0 Value.string [nm] underlying25 Wn rfl rfl rfl rfl rfl rfl (fun _=>rfl)⟩,trivial⟩ (fun glb=> ?_)
   change XF _ _ _ _ _ _ _ [] _ _ _ ((106,.slice (some ⟨glb,0,none⟩) 1 1)::_) _ _ (lsH Value.string 9 (some ⟨glb,0,none⟩) 1 ([nm])::_)
   refine XF.back ?_
   try rw [List.nil_append]
   refine XD.ef 8 rfl (Yb (f:=Value.string) (l:=f.na.l) (m:= [nm]) underlying25 Wn rfl rfl rfl Zk ((Sees.lsH _).le Zk) (fun _=>rfl) (by simp;omega) (by simp;omega)) ?_
   rintro _ _ ⟨ba2b,bc2b,rfl,rfl⟩
   refine ⟨hlA,?_⟩
   refine dd [9,10,11] ?_;refine stD 12 ?_;refine XD.nil ?_;refine xx 1 ?_
   rw [if_neg (by omega)] at hD
   refine Qd (f':=iC) (fe:=I64) U3 ?_
   refine Qd (f':=sC) (fe:=Value.string) Vo ?_
   refine X.le (q':=fcM ({ f with cells:=f.cells+z,arrs:=⟨f.arrs.l++ [z],ba2a,bc2a⟩,na:=⟨f.na.l++ [nm],ba2b,bc2b⟩ } :FC)::_) (Kn.add ((Kn.and (Kn.le h) (Kn.and (svK (x:=⟨f.arrs.l++ [z],ba2a,bc2a⟩) (f:=iC)) (svK (x:=⟨f.na.l++ [nm],ba2b,bc2b⟩) (f:=sC)))).imp fun M h=>FC.At.a h.1 h.2.1 h.2.2)) ?_
   exact X.at (K (({ f with cells:=f.cells+z,arrs:=⟨f.arrs.l++ [z],ba2a,bc2a⟩,na:=⟨f.na.l++ [nm],ba2b,bc2b⟩ } :FC),(f.arrs.l.length:Int)) ⟨by first|(rw [←hD];done)|(rw [←hD];rfl)|(rw [←hD];simp only [FC.er,List.map_append,List.length_map];done)|(rw [←hD];simp only [FC.er,List.map_append,List.length_map];rfl),hb10⟩) Zd leA
 · rw [if_neg (by decide),if_neg (by decide),if_pos rfl] at hD
   refine xx 6 ?_;refine kx 17 6 ?_;refine kx 57 6 ?_;refine X.kt 111 ?_;refine xj 5 ?_;refine ol 6 ?_;refine oo 3 ?_;refine st ?_;refine ox 1 ?_;refine drw ?_;refine dl [0,1,2] 3 ?_;refine dl [5] 6 ?_;refine XD.le (q':=lsH Value.string 9 none 0 ([])::_) (Ze _ _ _) ?_
   refine Y3 (fl:= [⟨7,129,fun g=> .slice (some ⟨g,0,none⟩) 1 1,fun g=>lsH Value.string 9 (some ⟨g,0,none⟩) 1 ([nm])⟩]) ?_
   refine XF.ef 4 ⟨⟨_,rfl,rfl,rfl,rfl,rfl,rfl,fun q=>Y0 Value.string [nm] underlying25 Wn rfl rfl rfl rfl rfl rfl (fun _=>rfl)⟩,trivial⟩ (Jr (fe:=Value.string) (l:= []) (m:=f.nm.l) underlying25 Wn rfl rfl rfl Zk (svS (Kn.le (h.imp fun M h=>h.nm))) (fun _=>rfl) (by simp;omega) (by simp;omega)) ?_
   rintro _ _ ⟨aaa,aca,rfl,rfl⟩
   refine ⟨hlA,?_⟩
   refine Vj (e0:=⟨7,129,fun g=> .slice (some ⟨g,0,none⟩) 1 1,fun g=>lsH Value.string 9 (some ⟨g,0,none⟩) 1 ([nm])⟩) (hnd:=by simp) 7 ⟨⟨_,rfl,rfl,rfl,rfl,rfl,rfl,fun q=>Y0 Value.string [nm] underlying25 Wn rfl rfl rfl rfl rfl rfl (fun _=>rfl)⟩,trivial⟩ (fun gla=> ?_)
   change XF _ _ _ _ _ _ _ [] _ _ _ ((129,.slice (some ⟨gla,0,none⟩) 1 1)::_) _ _ (lsH Value.string 9 (some ⟨gla,0,none⟩) 1 ([nm])::_)
   refine XF.back ?_
   try rw [List.nil_append]
   refine XD.ef 8 rfl (Yb (f:=Value.string) (l:=f.nm.l) (m:= [nm]) underlying25 Wn rfl rfl rfl Zk ((Sees.lsH _).le Zk) (fun _=>rfl) (by simp;omega) (by simp;omega)) ?_
   rintro _ _ ⟨ba2a,bc2a,rfl,rfl⟩
   refine ⟨hlA,?_⟩
   refine dd [9,10,11] ?_;refine stD 12 ?_;refine XD.nil ?_;refine xx 1 ?_;refine Qd (f':=sC) (fe:=Value.string) Vo ?_
   refine X.le (q':=fcM ({ f with mu:=f.mu+1,nm:=⟨f.nm.l++ [nm],ba2a,bc2a⟩ } :FC)::_) (Kn.add ((Kn.and (Kn.le h) (svK (x:=⟨f.nm.l++ [nm],ba2a,bc2a⟩) (f:=sC))).imp fun M h=>FC.At.m h.1 h.2)) ?_
   exact X.at (K (({ f with mu:=f.mu+1,nm:=⟨f.nm.l++ [nm],ba2a,bc2a⟩ } :FC),(f.mu:Int)) ⟨by first|(rw [←hD];done)|(rw [←hD];rfl)|(rw [←hD];simp only [FC.er,List.map_append,List.length_map];done)|(rw [←hD];simp only [FC.er,List.map_append,List.length_map];rfl),hb10⟩) Zd leA
 · rw [if_neg (by decide),if_neg (by decide),if_neg (by decide),if_pos rfl] at hD
   refine xx 6 ?_;refine kx 17 6 ?_;refine kx 57 6 ?_;refine kx 111 6 ?_;refine X.kt 134 ?_;refine xj 5 ?_;refine ol 6 ?_;refine oo 3 ?_;refine st ?_;refine ox 1 ?_;refine drw ?_;refine dl [0,1,2] 3 ?_;refine dl [5] 6 ?_;refine XD.le (q':=lsH Value.string 9 none 0 ([])::_) (Ze _ _ _) ?_
   refine Y3 (fl:= [⟨7,152,fun g=> .slice (some ⟨g,0,none⟩) 1 1,fun g=>lsH Value.string 9 (some ⟨g,0,none⟩) 1 ([nm])⟩]) ?_
   refine XF.ef 4 ⟨⟨_,rfl,rfl,rfl,rfl,rfl,rfl,fun q=>Y0 Value.string [nm] underlying25 Wn rfl rfl rfl rfl rfl rfl (fun _=>rfl)⟩,trivial⟩ (Jr (fe:=Value.string) (l:= []) (m:=f.nc.l) underlying25 Wn rfl rfl rfl Zk (svS (Kn.le (h.imp fun M h=>h.nc))) (fun _=>rfl) (by simp;omega) (by simp;omega)) ?_
   rintro _ _ ⟨aaa,aca,rfl,rfl⟩
   refine ⟨hlA,?_⟩
   refine Vj (e0:=⟨7,152,fun g=> .slice (some ⟨g,0,none⟩) 1 1,fun g=>lsH Value.string 9 (some ⟨g,0,none⟩) 1 ([nm])⟩) (hnd:=by simp) 7 ⟨⟨_,rfl,rfl,rfl,rfl,rfl,rfl,fun q=>Y0 Value.string [nm] underlying25 Wn rfl rfl rfl rfl rfl rfl (fun _=>rfl)⟩,trivial⟩ (fun gla=> ?_)
   change XF _ _ _ _ _ _ _ [] _ _ _ ((152,.slice (some ⟨gla,0,none⟩) 1 1)::_) _ _ (lsH Value.string 9 (some ⟨gla,0,none⟩) 1 ([nm])::_)
   refine XF.back ?_
   try rw [List.nil_append]
   refine XD.ef 8 rfl (Yb (f:=Value.string) (l:=f.nc.l) (m:= [nm]) underlying25 Wn rfl rfl rfl Zk ((Sees.lsH _).le Zk) (fun _=>rfl) (by simp;omega) (by simp;omega)) ?_
   rintro _ _ ⟨ba2a,bc2a,rfl,rfl⟩
   refine ⟨hlA,?_⟩
   refine dd [9,10,11] ?_;refine stD 12 ?_;refine XD.nil ?_;refine xx 1 ?_;refine Qd (f':=sC) (fe:=Value.string) Vo ?_
   refine X.le (q':=fcM ({ f with co:=f.co+1,nc:=⟨f.nc.l++ [nm],ba2a,bc2a⟩ } :FC)::_) (Kn.add ((Kn.and (Kn.le h) (svK (x:=⟨f.nc.l++ [nm],ba2a,bc2a⟩) (f:=sC))).imp fun M h=>FC.At.c h.1 h.2)) ?_
   exact X.at (K (({ f with co:=f.co+1,nc:=⟨f.nc.l++ [nm],ba2a,bc2a⟩ } :FC),(f.co:Int)) ⟨by first|(rw [←hD];done)|(rw [←hD];rfl)|(rw [←hD];simp only [FC.er,List.map_append,List.length_map];done)|(rw [←hD];simp only [FC.er,List.map_append,List.length_map];rfl),hb10⟩) Zd leA
 · rw [if_neg (by decide),if_neg (by decide),if_neg (by decide),if_neg (by decide),if_pos rfl] at hD
   refine xx 6 ?_;refine kx 17 6 ?_;refine kx 57 6 ?_;refine kx 111 6 ?_;refine kx 134 6 ?_;refine X.kt 157 ?_;refine xj 5 ?_;refine ol 7 ?_;refine oo 2 ?_;refine Zm [166,5,4,3,2] ?_
   apply Zb 4 170 166 rfl
   · intro g1 M1;have h1:=sp g1
     refine ol 1 ?_;refine oo 2 ?_;exact Zz M1 ⟨orF g1,Zw⟩
   · intro g1 M1;have h1:=sp g1
     refine oo 4 ?_;exact Zz M1 ⟨orT g1,Zw⟩
   refine ox 1 ?_;refine X.part 170 rfl (fun h1=> ?_) (fun h1=> ?_)
   · replace h1:=sp h1
     refine xo 3 ?_;refine ldA ?_;refine oo 1 ?_;refine ldA ?_;refine Zf call120 (Le.refl _) (V8 (f:=f) (h.le leA)) ?_
     rintro _ _ ⟨g,rfl,rfl,hg⟩
     refine stA ?_;refine ox 1 ?_
     rw [if_pos (by omega)] at hD;rw [←hD,if_pos rfl] at hR
     refine Zq (fcM g::q) func118 (rA_ results118) ⟨_,rfl,g,rfl,rfl,hg.trans hR⟩
   replace h1:=sp h1
   refine xx 3 ?_;refine drw ?_;refine dl [0,1] 2 ?_;refine dl [4] 5 ?_;refine XD.le (q':=lsH I64 3 none 0 ([])::_) (Ze _ _ _) ?_
   refine Y3 (fl:= [⟨6,181,fun g=> .slice (some ⟨g,0,none⟩) 1 1,fun g=>lsH I64 3 (some ⟨g,0,none⟩) 1 ([z])⟩]) ?_
   refine XF.ef 3 ⟨⟨_,rfl,rfl,rfl,rfl,rfl,rfl,fun q=>Y0 I64 [z] underlying22 Kv rfl rfl rfl rfl rfl rfl (fun _=>rfl)⟩,trivial⟩ (Jr (fe:=I64) (l:= []) (m:=f.chs.l) underlying22 Kv rfl rfl rfl Zk (svI (Kn.le (h.imp fun M h=>h.chs))) (fun _=>rfl) (by simp;omega) (by simp;omega)) ?_
   rintro _ _ ⟨aaa,aca,rfl,rfl⟩
   refine ⟨hlA,?_⟩
   refine Vj (e0:=⟨6,181,fun g=> .slice (some ⟨g,0,none⟩) 1 1,fun g=>lsH I64 3 (some ⟨g,0,none⟩) 1 ([z])⟩) (hnd:=by simp) 6 ⟨⟨_,rfl,rfl,rfl,rfl,rfl,rfl,fun q=>Y0 I64 [z] underlying22 Kv rfl rfl rfl rfl rfl rfl (fun _=>rfl)⟩,trivial⟩ (fun gla=> ?_)
   change XF _ _ _ _ _ _ _ [] _ _ _ ((181,.slice (some ⟨gla,0,none⟩) 1 1)::_) _ _ (lsH I64 3 (some ⟨gla,0,none⟩) 1 ([z])::_)
   refine XF.back ?_
   try rw [List.nil_append]
   refine XD.ef 7 rfl (Yb (f:=I64) (l:=f.chs.l) (m:= [z]) underlying22 Kv rfl rfl rfl Zk ((Sees.lsH _).le Zk) (fun _=>rfl) (by simp;omega) (by simp;omega)) ?_
   rintro _ _ ⟨ba2a,bc2a,rfl,rfl⟩
   refine ⟨hlA,?_⟩
   refine dd [8,9] ?_;refine stD 10 ?_;refine XD.nil ?_;refine drw ?_;refine dl [0,1,2] 3 ?_;refine dl [5] 6 ?_;refine XD.le (q':=lsH Value.string 9 none 0 ([])::_) (Ze _ _ _) ?_
   refine Y3 (fl:= [⟨7,192,fun g=> .slice (some ⟨g,0,none⟩) 1 1,fun g=>lsH Value.string 9 (some ⟨g,0,none⟩) 1 ([nm])⟩]) ?_
   refine XF.ef 4 ⟨⟨_,rfl,rfl,rfl,rfl,rfl,rfl,fun q=>Y0 Value.string [nm] underlying25 Wn rfl rfl rfl rfl rfl rfl (fun _=>rfl)⟩,trivial⟩ (Jr (fe:=Value.string) (l:= []) (m:=f.nh.l) underlying25 Wn rfl rfl rfl Zk (svS (Kn.le (h.imp fun M h=>h.nh))) (fun _=>rfl) (by simp;omega) (by simp;omega)) ?_
   rintro _ _ ⟨aab,acb,rfl,rfl⟩
   refine ⟨hlA,?_⟩
   refine Vj (e0:=⟨7,192,fun g=> .slice (some ⟨g,0,none⟩) 1 1,fun g=>lsH Value.string 9 (some ⟨g,0,none⟩) 1 ([nm])⟩) (hnd:=by simp) 7 ⟨⟨_,rfl,rfl,rfl,rfl,rfl,rfl,fun q=>Y0 Value.string [nm] underlying25 Wn rfl rfl rfl rfl rfl rfl (fun _=>rfl)⟩,trivial⟩ (fun glb=> ?_)
   change XF _ _ _ _ _ _ _ [] _ _ _ ((192,.slice (some ⟨glb,0,none⟩) 1 1)::_) _ _ (lsH Value.string 9 (some ⟨glb,0,none⟩) 1 ([nm])::_)
   refine XF.back ?_
   try rw [List.nil_append]
   refine XD.ef 8 rfl (Yb (f:=Value.string) (l:=f.nh.l) (m:= [nm]) underlying25 Wn rfl rfl rfl Zk ((Sees.lsH _).le Zk) (fun _=>rfl) (by simp;omega) (by simp;omega)) ?_
   rintro _ _ ⟨ba2b,bc2b,rfl,rfl⟩
   refine ⟨hlA,?_⟩
   refine dd [9,10,11] ?_;refine stD 12 ?_;refine XD.nil ?_;refine xx 1 ?_
   rw [if_neg (by omega)] at hD
   refine Qd (f':=iC) (fe:=I64) U3 ?_
   refine Qd (f':=sC) (fe:=Value.string) Vo ?_
   refine X.le (q':=fcM ({ f with chs:=⟨f.chs.l++ [z],ba2a,bc2a⟩,nh:=⟨f.nh.l++ [nm],ba2b,bc2b⟩ } :FC)::_) (Kn.add ((Kn.and (Kn.le h) (Kn.and (svK (x:=⟨f.chs.l++ [z],ba2a,bc2a⟩) (f:=iC)) (svK (x:=⟨f.nh.l++ [nm],ba2b,bc2b⟩) (f:=sC)))).imp fun M h=>FC.At.h h.1 h.2.1 h.2.2)) ?_
   exact X.at (K (({ f with chs:=⟨f.chs.l++ [z],ba2a,bc2a⟩,nh:=⟨f.nh.l++ [nm],ba2b,bc2b⟩ } :FC),(f.chs.l.length:Int)) ⟨by first|(rw [←hD];done)|(rw [←hD];rfl)|(rw [←hD];simp only [FC.er,List.map_append,List.length_map];done)|(rw [←hD];simp only [FC.er,List.map_append,List.length_map];rfl),hb10⟩) Zd leA
 rw [if_neg (by decide),if_neg (by decide),if_neg (by decide),if_neg (by decide),if_neg (by decide),if_pos rfl] at hD
 refine xx 6 ?_;refine kx 17 6 ?_;refine kx 57 6 ?_;refine kx 111 6 ?_;refine kx 134 6 ?_;refine kx 157 6 ?_;refine X.kt 197 ?_;refine xj 5 ?_;refine ox 3 ?_;refine drw ?_;refine dl [0,1] 2 ?_;refine dl [4] 5 ?_;refine dd [6] ?_;refine XD.le (q':=rsH thC 3 55 none 0 ([])::_) (Zl thC 3 55 _) ?_
 refine Y3 (fl:= [⟨7,210,fun g=> .slice (some ⟨g,0,none⟩) 1 1,fun g=>rsH thC 3 55 (some ⟨g,0,none⟩) 1 ([⟨nm,0, [],none,0⟩])⟩]) ?_
 refine XF.ef 3 ⟨⟨_,rfl,rfl,rfl,rfl,rfl,rfl,fun q=>Yj (u:=⟨nm,0, [],none,0⟩) thC underlying24 Nk rfl rfl (fun _=>rfl) rfl⟩,trivial⟩ (Dd (f:=thC) (sz:=3) (l:= []) (m:=f.ths.l) underlying24 Nk rfl rfl (fun _=>rfl) rfl rfl Zk (Sv.sees (Kn.le (h.imp fun M h=>h.ths))) (fun _=>rfl) (by simp;omega) (by simp;omega)) ?_
 rintro _ _ ⟨aaa,aca,rfl,rfl⟩
 refine ⟨hlA,?_⟩
 refine Vj (e0:=⟨7,210,fun g=> .slice (some ⟨g,0,none⟩) 1 1,fun g=>rsH thC 3 55 (some ⟨g,0,none⟩) 1 ([⟨nm,0, [],none,0⟩])⟩) (hnd:=by simp) 7 ⟨⟨_,rfl,rfl,rfl,rfl,rfl,rfl,fun q=>Yj (u:=⟨nm,0, [],none,0⟩) thC underlying24 Nk rfl rfl (fun _=>rfl) rfl⟩,trivial⟩ (fun gla=> ?_)
 change XF _ _ _ _ _ _ _ [] _ _ _ ((210,.slice (some ⟨gla,0,none⟩) 1 1)::_) _ _ (rsH thC 3 55 (some ⟨gla,0,none⟩) 1 ([⟨nm,0, [],none,0⟩])::_)
 refine XF.back ?_
 try rw [List.nil_append]
 refine XD.ef 8 rfl (Yq (f:=thC) (l:=f.ths.l) (m:= [⟨nm,0, [],none,0⟩]) underlying24 Nk rfl rfl (fun _=>rfl) rfl rfl Zk ((Sees.rsH _).le Zk) (fun _=>rfl) (by simp;omega) (by simp;omega)) ?_
 rintro _ _ ⟨ba2a,bc2a,rfl,rfl⟩
 refine ⟨hlA,?_⟩
 refine dd [9,10] ?_;refine stD 11 ?_;refine XD.nil ?_;refine xx 1 ?_;refine Cp ?_;refine X.le (q':=fcM ({ f with ths:=⟨f.ths.l++ [⟨nm,0, [],none,0⟩],ba2a,bc2a⟩ } :FC)::_) (Kn.add ((Kn.and (Kn.le h) (svK (x:=⟨f.ths.l++ [⟨nm,0, [],none,0⟩],ba2a,bc2a⟩) (f:=thC))).imp fun M h=>FC.At.t h.1 h.2 (fun y hy=>by rcases List.mem_append.1 hy with hy|hy;exact h.1.bod y hy;rw [List.mem_singleton.1 hy];exact ⟨SlAt.nil M,trivial⟩))) ?_
 exact X.at (K (({ f with ths:=⟨f.ths.l++ [⟨nm,0, [],none,0⟩],ba2a,bc2a⟩ } :FC),(f.ths.l.length:Int)) ⟨by first|(rw [←hD];done)|(rw [←hD];rfl)|(rw [←hD];simp only [FC.er,List.map_append,List.length_map];done)|(rw [←hD];simp only [FC.er,List.map_append,List.length_map];rfl),hb10⟩) Zd leA
end
end Go.Proofs.YtflkjkhijcdbaaaGreat
