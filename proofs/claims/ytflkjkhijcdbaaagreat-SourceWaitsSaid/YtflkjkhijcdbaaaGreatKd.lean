/- Contracts. -/
import Derived.Test.YtflkjkhijcdbaaaGreatKc
set_option maxHeartbeats 16000000
set_option maxRecDepth 100000
set_option linter.all false
namespace Go.Proofs.YtflkjkhijcdbaaaGreat
open Go Go.RowKit Wx Go.Proofs.Tryz
attribute [local irreducible] lsH rsH stars
variable {ts r:List Tk}{k todo:List Item}{ln cl pl pc slot:Int}{nm wt:ByteArray}{e:Ex}{ix:PEx}{i B N:Nat}{loc:Bool}{p:PE}{d:PDec}{G w:World}{M M':Hp}{q q1 q2 q0:List HP}{P:Program}{fr:Fc}{Q:Y9}{ds:List Deferred}{cs:List Frame}
mutual
def PEx.nd:PEx->Nat
 | .mk k _ _ _ _ _ args=>(if k=0 then 0 else 1)+Fj args
def Fj:List PEx->Nat
 | []=>0
 |e::r=>e.nd+Fj r
end
mutual
def PStm.nd:PStm->Nat
 | .mk _ _ _ _ _ e ix body els _ _ _ _=>1+e.nd+ix.nd+Yz body+Yz els
def Yz:List PStm->Nat
 | []=>0
 |s::r=>s.nd+Yz r
end
theorem H1: ∀ {g:Nat} {l:Bs} {ln cl:Int} {ts:List Tk},H2 g l ln cl=some ts->ts.length<=l.length/\ ∀ t∈ts,0<=t.n/\t.n<=2147483647
 |0,_,_,_,_,h=>by cases h
 |g+1, [],_,_,ts,h=>by cases h;exact ⟨aY _,fun t d=>by cases d⟩
 |g+1,c::r,ln,cl,ts,h=>by
  rw [H2] at h;split at h
  . have:=H1 h;exact ⟨by simp;omega,this.2⟩
  split at h
  . have:=H1 h;exact ⟨by simp;omega,this.2⟩
  split at h
  . have:=H1 h;refine ⟨cL this.1 ?_,this.2⟩;exact (List.dropWhile_sublist _).length_le
  split at h
  . cases h
  rename_i k w n a
  cases hl:H2 g ((c::r).drop w.length) ln (cl+w.length) with
  |none=>rw [hl] at h;cases h
  |some us=>
   rw [hl] at h;cases h
   have:=H1 hl
   have i:0<w.length/\0<=n/\n<=2147483647:=by
    unfold P8 at a;dsimp only at a;have j: ∀ s∈signsS,0<s.length:=by decide
    split at a
    . rename_i o;split at a
      . rename_i x b
        cases a
        refine ⟨by rw [bM];have:=E4 (c::r);omega,?_⟩;unfold Ij at b;split at b
        . rename_i e;split at b
          . cases b;rename_i p
            rw [aQ] at e;exact ⟨(Zzh e.1).1,p.1⟩
          cases b
        cases b
      cases a
    split at a
    . rename_i o;cases a;exact ⟨by rw [bM];have:=E4 (c::r);omega,by decide,by decide⟩
    split at a
    . cases a
    split at a
    . cases a;exact ⟨by rw [bM];have:=E4 (c::r);omega,by decide,by decide⟩
    split at a
    . rename_i m;cases a;exact ⟨j _ (List.mem_of_find?_eq_some m),by decide,by decide⟩
    cases a
   refine ⟨?_,?_⟩
   . have f:=this.1;rw [bN] at f;simp at f|-;omega
   intro t d;rcases cO.1 d with rfl|d
   . exact i.2
   exact this.2 t d
theorem Ha {s:Bs}(h:tkW s ts=some r):r.length+1<=ts.length:=by
 unfold tkW at h;split at h
 . cases h;rename_i a;cases ts with
   |nil=>cases a
   |cons t r=>simp
 cases h
theorem W1 {s:Bs}{u:Unit}(h:V6 s ts=some (u,r)):r.length+1<=ts.length:=Ha (F6.1 h)
theorem Nr {x:ByteArray}(h:J8 ts=some (x,r)):r.length+1<=ts.length:=by
 cases ts with
 |nil=>cases h
 |cons t l=>simp only [J8] at h;split at h<;>cases h;simp
theorem Nt {x:Int}(h:Ki ts=some (x,r)):r.length+1<=ts.length:=by
 cases ts with
 |nil=>cases h
 |cons t l=>simp only [Ki] at h;split at h<;>cases h;simp
theorem Zku {n:Int}(h:Qy n ts≠0):ts.tail.length+1=ts.length:=by
 cases ts with
 |nil=>exact bD (by unfold Qy;simp [D8,isW]) h
 |cons t r=>simp
theorem Ni: ∀ f,(∀ n ts e r,V2 f n ts=some (e,r)->e.nd+r.length<=ts.length/\e.dep+r.length<=ts.length)/\(∀ n x ts e r,Tw f n x ts=some (e,r)->e.nd+r.length<=ts.length+x.nd/\(∀ B,x.dep+ts.length<=B->ts.length<=B->e.dep+r.length<=B))/\
 (∀ ts e r,unS f ts=some (e,r)->e.nd+r.length<=ts.length/\e.dep+r.length<=ts.length)/\(∀ ts e r,Qd f ts=some (e,r)->e.nd+r.length<=ts.length/\e.dep+r.length<=ts.length):=by
 intro f
 induction f with
 |zero=>exact ⟨fun _ _ _ _ h=>(by cases h),fun _ _ _ _ _ h=>(by cases h),fun _ _ _ h=>(by cases h),fun _ _ _ h=>by cases h⟩
 |succ f ih=>
  obtain ⟨c,m,g,s⟩:=ih;refine ⟨fun n ts e r h=> ?_,fun n x ts e r h=> ?_,fun ts e r h=> ?_,fun ts e r h=> ?_⟩
  . rw [V2] at h;split at h
    . exact g _ _ _ h
    split at h
    . cases h
    rename_i e1 i b;have j:=c _ _ _ _ b;have q:=m _ _ _ _ _ h;exact ⟨by omega,q.2 _ j.2 (by omega)⟩
  . rw [Tw] at h;split at h
    . cases h;exact ⟨by omega,fun B b _=>b⟩
    rename_i v;have o:=Zku v;split at h
    . cases h
    rename_i a i b;have j:=c _ _ _ _ b;have l:(PEx.mk 6 0 em 0 false (Qy n ts) [x,a]).nd=1+(x.nd+(a.nd+0)):=rfl;have k:(PEx.mk 6 0 em 0 false (Qy n ts) [x,a]).dep=max x.dep (max a.dep 0)+1:=rfl;split at h
    . cases h;exact ⟨by omega,fun B b d=>by omega⟩
    have q:=m _ _ _ _ _ h;exact ⟨by omega,fun B b d=>q.2 B (by omega) (by omega)⟩
  . rw [unS] at h;split at h
    . rename_i i b;have o:=Ha b;split at h
      . cases h
      rename_i a p d
      cases h
      have j:=g _ _ _ d;have l:(PEx.mk 4 0 em 0 false 0 [a]).nd=1+(a.nd+0):=rfl;have k:(PEx.mk 4 0 em 0 false 0 [a]).dep=max a.dep 0+1:=rfl;exact ⟨by omega,by omega⟩
    split at h
    . rename_i i b;have o:=Ha b;split at h
      . cases h
      rename_i a p d
      cases h
      have j:=g _ _ _ d;have l:(PEx.mk 5 0 em 0 false 0 [a]).nd=1+(a.nd+0):=rfl;have k:(PEx.mk 5 0 em 0 false 0 [a]).dep=max a.dep 0+1:=rfl;exact ⟨by omega,by omega⟩
    exact s _ _ _ h
  rw [Qd] at h;split at h
  . rename_i i b;have o:=Ha b;split at h
    . cases h
    rename_i a p d;have j:=c _ _ _ _ d;split at h
    . cases h
    rename_i u t
    cases h
    have:=Ha t;exact ⟨by omega,by omega⟩
  split at h
  . rename_i z i b
    cases h
    have:=Nt b;have l: ∀ z,(PEx.mk 1 z em 0 false 0 []).nd=1+0:=fun _=>rfl
    have k: ∀ z,(PEx.mk 1 z em 0 false 0 []).dep=0+1:=fun _=>rfl
    exact ⟨by rw [l];omega,by rw [k];omega⟩
  split at h
  . cases h
  rename_i nm i b;have o:=Nr b;split at h
  . cases h
    have l:(PEx.mk 2 0 nm 0 false 0 []).nd=1+0:=rfl;have k:(PEx.mk 2 0 nm 0 false 0 []).dep=0+1:=rfl;exact ⟨by omega,by omega⟩
  rename_i p d;have w:=Ha d;split at h
  . cases h
  rename_i a u t;have j:=c _ _ _ _ t;split at h
  . cases h
  rename_i r4 y
  cases h
  have:=Ha y;have l:(PEx.mk 3 0 nm 0 false 0 [a]).nd=1+(a.nd+0):=rfl;have k:(PEx.mk 3 0 nm 0 false 0 [a]).dep=max a.dep 0+1:=rfl;exact ⟨by omega,by omega⟩
theorem Yq {α β:Type}{A:Option (α×List Tk)}{K:α->List Tk->Option β}{y:β}(h:bnd A K=some y): ∃ x r,A=some (x,r)/\K x r=some y:=by
 cases A with
 |none=>cases h
 |some x=>exact ⟨x.1,x.2,rfl,h⟩
mutual
theorem Om {B C:Nat}(h:B<=C): ∀ {s:PStm},s.bdd B->s.bdd C
 | .mk _ _ _ _ _ _ _ _ _ _ _ _ _,⟨h1,h2,h3,h4⟩=>⟨cL h1 h,cL h2 h,Jo h h3,Jo h h4⟩
theorem Jo {B C:Nat}(h:B<=C): ∀ {l:List PStm},W8 B l->W8 C l
 | [],_=>trivial
 |_::_,⟨h1,h2⟩=>⟨Om h h1,Jo h h2⟩
end
theorem Zjr:PEx.z.nd=0:=rfl
theorem Fv:PEx.z.dep=1:=rfl
theorem M9 {k:Int}{e:PEx}{b l:List PStm}{i s o:Int}{lo:Bool}:(PStm.mk k ln cl nm wt e ix b l i s o lo).nd=1+e.nd+ix.nd+Yz b+Yz l:=rfl
theorem Zzc {f:Nat}{k:Int}{p:Int×Int}{s:PStm}(hB:ts.length+1<=B)(h:Qp f k p nm ts=some (s,r)):s.nd+r.length<=ts.length/\s.bdd B:=by
 unfold Qp at h;split at h
 . split at h
   . rename_i n
     have y:ts.tail.length+1=ts.length:=by cases ts with
      |nil=>cases n
      |cons t r=>simp
     obtain ⟨ix,v,q,h⟩:=Yq h;obtain ⟨_,u,o,h⟩:=Yq h;obtain ⟨_,j,c,h⟩:=Yq h;obtain ⟨e,i,b,h⟩:=Yq h;obtain ⟨_,d,a,h⟩:=Yq h
     cases h
     have x:=(Ni _).1 _ _ _ _ q;have w:=W1 o;have m:=W1 c;have l:=(Ni _).1 _ _ _ _ b;have g:=W1 a;exact ⟨by rw [M9];simp only [Yz];omega,by omega,by omega,trivial,trivial⟩
   obtain ⟨_,j,c,h⟩:=Yq h;obtain ⟨e,i,b,h⟩:=Yq h;obtain ⟨_,d,a,h⟩:=Yq h
   cases h
   have m:=W1 c;have l:=(Ni _).1 _ _ _ _ b;have g:=W1 a;exact ⟨by rw [M9,Zjr];simp only [Yz];omega,by omega,by rw [Fv];omega,trivial,trivial⟩
 split at h
 . obtain ⟨_,j,c,h⟩:=Yq h;obtain ⟨e,i,b,h⟩:=Yq h;obtain ⟨_,d,a,h⟩:=Yq h
   cases h
   have m:=W1 c;have l:=(Ni _).1 _ _ _ _ b;have g:=W1 a;exact ⟨by rw [M9,Zjr];simp only [Yz];omega,by omega,by rw [Fv];omega,trivial,trivial⟩
 split at h
 focus
  obtain ⟨wt,j,c,h⟩:=Yq h;obtain ⟨_,d,a,h⟩:=Yq h
  cases h
  have m:=Nr c;have g:=W1 a
 rotate_left
 focus
  split at h
  . obtain ⟨e,i,b,h⟩:=Yq h;obtain ⟨_,d,a,h⟩:=Yq h
    cases h
    have l:=(Ni _).1 _ _ _ _ b;have g:=W1 a;exact ⟨by rw [M9,Zjr];simp only [Yz];omega,by omega,by rw [Fv];omega,trivial,trivial⟩
  obtain ⟨_,d,a,h⟩:=Yq h
  cases h
  have g:=W1 a
 all_goals
  exact ⟨by rw [M9,Zjr];simp only [Yz];omega,by rw [Fv];omega,by rw [Fv];omega,trivial,trivial⟩
theorem If (h:Ub ts≠0):ts.tail.length+1=ts.length:=by
 cases ts with
 |nil=>exact bD (by decide) h
 |cons t r=>simp
theorem stmt_nd (B:Nat): ∀ f,(∀ ts s r,ts.length+1<=B->J5 f ts=some (s,r)->s.nd+r.length<=ts.length/\s.bdd B)/\(∀ ts l r,ts.length+1<=B->Nx f ts=some (l,r)->Yz l+r.length<=ts.length/\W8 B l)/\(∀ ts l r,ts.length+1<=B->Q6 f ts=some (l,r)->Yz l+r.length<=ts.length/\W8 B l):=by
 intro f
 induction f with
 |zero=>exact ⟨fun _ _ _ _ h=>(by cases h),fun _ _ _ _ h=>(by cases h),fun _ _ _ _ h=>by cases h⟩
 |succ f ih=>
  obtain ⟨n,i,g⟩:=ih;refine ⟨fun ts s r o h=> ?_,fun ts l r o h=> ?_,fun ts l r o h=> ?_⟩
  . rw [J5] at h;split at h
    . rename_i z;have u:=If (ts:=ts) (by omega);obtain ⟨e,m,a,h⟩:=Yq h;obtain ⟨b,d,j,h⟩:=Yq h;have k:=(Ni _).1 _ _ _ _ a;have c:=i _ _ _ (by omega) j;split at h
      . rename_i x
        have y:d.tail.length+1=d.length:=by
         have:=x.2
         cases d with
         |nil=>cases this
         |cons t r=>simp
        obtain ⟨b2,v,p,h⟩:=Yq h
        cases h
        have q:=i _ _ _ (by omega) p;exact ⟨by rw [M9,Zjr];omega,by omega,by rw [Fv];omega,c.2,q.2⟩
      cases h
      exact ⟨by rw [M9,Zjr];simp only [Yz];omega,by omega,by rw [Fv];omega,c.2,trivial⟩
    split at h
    . rename_i z;have u:=If (ts:=ts) (by omega);have:=Zzc (B:=B) (by omega) h;exact ⟨by omega,this.2⟩
    obtain ⟨nm,m,a,h⟩:=Yq h;have k:=Nr a;have u:(if 0<Ub ts then ts.tail else ts).length<=ts.length:=by split<;>simp
    have:=Zzc (B:=B) (by omega) h;exact ⟨by omega,this.2⟩
  . rw [Nx] at h;obtain ⟨_,m,a,h⟩:=Yq h;obtain ⟨w,d,j,h⟩:=Yq h;obtain ⟨_,v,p,h⟩:=Yq h
    cases h
    have k:=W1 a;have c:=g _ _ _ (by omega) j;have q:=W1 p;exact ⟨by omega,c.2⟩
  rw [Q6] at h;split at h
  . cases h;exact ⟨by simp [Yz],trivial⟩
  obtain ⟨s,m,a,h⟩:=Yq h;obtain ⟨w,d,j,h⟩:=Yq h
  cases h
  have k:=n _ _ _ o a;have c:=g _ _ _ (by omega) j;exact ⟨by simp only [Yz];omega,k.2,c.2⟩
theorem decl_nd {f:Nat}(hB:ts.length+1<=B)(h:Mu f ts=some (d,r)):Yz d.body+r.length+1<=ts.length/\W8 B d.body/\(1<=d.k/\d.k<=6):=by
 have j:dkS ts<=6:=Rl;unfold Mu at h;split at h
 . cases h
 rename_i q;obtain ⟨nm,i,p,h⟩:=Yq h;have w:=Nr p
 have x:ts.tail.length+1=ts.length:=by
  cases ts with
  |nil=>exact bD (show dkS []=0 by decide) q
  |cons t r=>simp
 split at h
 . obtain ⟨b,e,a,h⟩:=Yq h
   cases h
   have g:=(stmt_nd B f).2.1 _ _ _ (by omega) a;exact ⟨by dsimp only;omega,g.2,by dsimp only;omega⟩
 obtain ⟨n,e,a,h⟩:=Yq h;obtain ⟨_,u,o,h⟩:=Yq h
 cases h
 have v:=W1 o
 have g:e.length<=i.length:=by
  unfold Cd at a;split at a
  . obtain ⟨_,c,m,a⟩:=Yq a;have:=W1 m;split at a
    . obtain ⟨z,s,l,a⟩:=Yq a
      cases a
      have:=Nt l;have y:c.tail.length<=c.length:=by simp
      omega
    have:=Nt a;omega
  split at a
  . have:=Nt a;omega
  cases a;exact aY _
 exact ⟨by simp only [Yz];omega,trivial,by dsimp only;omega⟩
theorem Re {G:Nat}: ∀ {f:Nat} {ts:List Tk} {ds:List PDec} {B:Nat},ts.length+1<=B->Q9 G f ts=some ds->(ds.map fun d=>Yz d.body+1).sum<=ts.length/\ ∀ d∈ds,W8 B d.body/\(1<=d.k/\d.k<=6)
 |0,_,_,_,_,h=>by cases h
 |f+1,ts,ds,B,hB,h=>by
  rw [Q9] at h;split at h
  . cases h;exact ⟨by simp,fun d a=>by cases a⟩
  obtain ⟨d,r,e,h⟩:=Yq h
  cases h2:Q9 G f r with
  |none=>rw [h2] at h;cases h
  |some us=>
   rw [h2] at h;cases h
   have c:=decl_nd hB e;have b:=Re (B:=B) (by omega) h2;refine ⟨by simp only [cE,List.sum_cons];omega,fun d a=> ?_⟩;rcases cO.1 a with rfl|a
   . exact c.2
   exact b.2 d a
def MoreD (L:List Tk)(S:Option (List PDec))(G g:Nat)(l:List PDec)(n:Nat)(b:Bool):Prop:=(b=false/\S=(Q9 G g (L.drop n)).map (l++ ·))\/(b=true/\S=none)
section
variable {L:List Tk}{S:Option (List PDec)}{G g n m:Nat}{l:List PDec}{b:Bool}
theorem MoreD.go (h:MoreD L S G (g+1) l n false)(hn:n<L.length)(ho:Out L false (Mu G (L.drop n)) d m b):MoreD L S G g (l++ [d]) m b:=by
 rcases h with ⟨_,e⟩|⟨e,_⟩
 . have a:L.drop n≠ []:=by rw [aS hn];exact List.cons_ne_nil _ _
   rcases ho with ⟨c,_,f⟩|⟨c,i⟩
   . refine .inl ⟨c,?_⟩;rw [e,Q9,if_neg a,f];simp only [bnd];cases Q9 G g (L.drop m)<;>simp
   refine .inr ⟨c,?_⟩;rw [e,Q9,if_neg a,i.resolve_left (by decide)];rfl
 cases e
theorem MoreD.over (h:MoreD L S G (g+1) l n false)(hn:L.length<=n):S=some l:=by
 rcases h with ⟨_,e⟩|⟨e,_⟩
 . rw [e,dB hn,Q9,if_pos rfl];simp
 cases e
theorem MoreD.bad (h:MoreD L S G g l n true):S=none:=by
 rcases h with ⟨e,_⟩|⟨_,e⟩
 . cases e
 exact e
end
theorem Xb {l:Bs}(h:El l=none):J7 l=none:=by
 unfold El at h;unfold J7;split
 . rfl
 rw [if_neg ‹_›] at h;rw [h]
theorem Xy {l:Bs}(h:El l=some ts):J7 l=(match Q9 (10*ts.length+20) (ts.length+1) ts with|none=>none|some ds=>if ds.any (fun d=>Wz d.body 1)=true then none else some ds):=by
 unfold El at h;unfold J7;split
 . rw [if_pos ‹_›] at h;cases h
 rw [if_neg ‹_›] at h;simp only [h];rfl
theorem lexO_fin {l:Bs}(h:El l=some ts):ts.length<=65536/\ ∀ t∈ts,0<=t.n/\t.n<=2147483647:=by
 unfold El at h;split at h
 . cases h
 have:=H1 h;exact ⟨by omega,this.2⟩
def DcsAt (M:Hp)(a:Option Addr)(c:Nat)(l:List Dec):Prop:=SlAt M a c l.length (l.flatMap dcC)/\Decs.At M l
theorem DcsAt.mono {a:Option Addr}{c:Nat}{l:List Dec}(e:Hle M M')(h:DcsAt M a c l):DcsAt M' a c l:=⟨h.1.mono e,h.2.mono e⟩
def dsM (a:Option Addr)(c:Nat)(l:List Dec):HP:=lst (fun M=>DcsAt M a c l) DcsAt.mono
theorem Zq4 {a:Option Addr}{c:Nat}{l:List Dec}(h:Kn q fun M=>DcsAt M a c l):Sees q a (l.flatMap dcC):=eL (h.imp fun M h=>h.1.2.2)
theorem Kn.dsI {a:Option Addr}{c:Nat}{l:List Dec}(h:Kn q fun M=>DcsAt M a c l)(hi:i<l.length):Kn q fun M=>BlkAt M l[i].ba l[i].bc l[i].body:=h.imp fun M h=>h.2 _ (aA hi)
theorem X.dcs {l:List Dec}{s:Dec}(h1:Le q (dcsM l::q1))(h2:Le q1 (dcM s::q2))(K:X P G fr Q todo p ds cs (dcsM (l++ [s])::q2)):X P G fr Q todo p ds cs q:= .le (h1.trans ((dJ _ h2).trans Ot)) K
theorem X.fzD {a:Option Addr}{c:Nat}{m:List Dec}(K:X P G fr Q todo p ds cs (dsM a c m::q0))(hq:Le q (rsH dcC 6 229 a c m::q0):=by exact Zj)(h:Kn q0 fun M=>Decs.At M m:=by exact knA):X P G fr Q todo p ds cs q:= .frzR (Kn.here.and h.there) K hq
section
variable {s:ByteArray}{n:Nat}
theorem Sd:(prog.info? 229).map (fun i=>(i.zero,i.size,i.bytes))=some (some (.agg #[I64 0,I64 0,I64 0,.string ⟨#[]⟩,I64 0,.slice none 0 0]),6,72):=by kernel_rfl
abbrev BC (v0:List HP):=(Ret fun v q'=> ∃ y z:Int,v= .agg (Bm y z).toArray/\q'=v0)
theorem Xp (hn:n<=s.size)(h63:s.size<=65536):CallF prog G 153 [.string s,I64 n] (q) (BC q):=by
 refine aC func153 ntmps153 rfl fun F cs=> ?_;refine xo 2 ?_;refine bE zeroValue107 fun d=> ?_
 refine oo 4 ?_;refine bE zeroValue107 fun c=> ?_
 refine rn [0,7] ?_;refine aZ (cD (fun (k:Nat×Int×Int)=>k.1<=n/\0<=k.2.1/\k.2.1<=k.1+1/\0<=k.2.2/\k.2.2<=k.1+1) (fun k=> [(6,I64 (k.1:Int)),(0,.string s),(1,I64 n),(4,pt d),(5,pt c)]) (fun k=>pto c (.cells [I64 k.2.1,I64 k.2.2].toArray 107 (0,0))::pto d AD::(q++F)) (fun k=>n - k.1) (fun k a b=> ?_) (0,1,1) ⟨by omega,by decide,by decide,by decide,by decide⟩) Zg leA;try dsimp only at a b|-
 obtain ⟨i,h,g,f,e⟩:=a;obtain ⟨k,y,z⟩:=k;dsimp only at*;refine xx 7 ?_;refine xp 10 ?_ ?_<;>intro l
 . refine rn [7,0,2,0,5] ?_;refine Zi (W7 rfl rfl underlying9 (by omega) (by omega)) ?_;refine ox 2 ?_;refine xp 20 ?_ ?_<;>intro j
   . refine rn [3,0,2,0,1,0,7] ?_;refine aZ (b (k+1,y+1,1) ⟨by dsimp only;omega,by dsimp only;omega,by dsimp only;omega,by dsimp only;omega,by dsimp only;omega⟩ (by dsimp only;omega)) Zg leA
   refine xx 8 ?_;refine aZ (b (k+1,y,z+1) ⟨by dsimp only;omega,by dsimp only;omega,by dsimp only;omega,by dsimp only;omega,by dsimp only;omega⟩ (by dsimp only;omega)) Zg leA
 refine rn [4,0,0,1] ?_;refine Zq (q) func153 (rA_ results153) ⟨_,rfl,y,z,rfl,rfl⟩
theorem End_ok (h63:s.size<=65536):CallF prog G 115 [.string s] (q) (BC q):=by
 refine aC func115 ntmps115 rfl fun F cs=> ?_;refine xo 2 ?_;refine bE zeroValue107 fun a=> ?_
 refine oo 6 ?_;refine Zx call153 (aD _) (Xp (n:=s.size) (aY _) h63) ?_;rintro _ _ ⟨y,z,rfl,rfl⟩;refine rn [0,1] ?_;refine Zq (q) func115 (rA_ results115) ⟨_,rfl,y,z,rfl,rfl⟩
theorem Parse_ok:CallF prog G 76 [.string s] (q) (Ret fun v q'=>(∃ ds a c,J7 (bs s)=some (ds.map Dec.er)/\v= .tuple [.slice a ds.length c,.agg zz7.toArray,I64 0].toArray/\q'=dsM a c ds::q)\/(J7 (bs s)=none/\ ∃ (y z e:Int),e≠0/\v= .tuple [.slice none 0 0,.agg (Bm y z).toArray,I64 e].toArray/\q'=q)):=by
 refine aC func76 ntmps76 rfl fun F cs=> ?_;refine xo 3 ?_;refine bE zeroValue107 fun n1=> ?_
 refine oo 5 ?_;refine Zx call113 (aD _) (Lex_ok) ?_;rintro _ _ (⟨L,la,lc,hx,rfl,rfl⟩|⟨hx,y,z,e,he,rfl,rfl⟩)
 . obtain ⟨hn,hT⟩:=lexO_fin hx;have r:=Xy hx;obtain ⟨S,hS⟩: ∃ S,Q9 (10*L.length+20) (L.length+1) L=S:=⟨_,rfl⟩;rw [hS] at r;have b0:=Zv (f:=tkC) (sz:=5) (fun _=>rfl) L;refine oo 4 ?_;refine bE zeroValue107 fun n2=> ?_
   refine rn [1,0,8,1020,6] ?_;refine Z0 fun n3=> ?_
   refine ox 8 ?_;have f0:MoreD L S (10*L.length+20) (L.length+1) [] 0 false:= .inl ⟨rfl,by rw [<-hS,gS];cases Q9 (10*L.length+20) (L.length+1) L<;>rfl⟩;refine aZ (cD (fun (h:(Option Addr×Nat×List Dec)×Nat×Bool×Nat)=>h.2.1<=L.length/\(h.2.2.1=false->L.length - h.2.1<h.2.2.2/\h.1.2.2.length<=h.2.1)/\h.1.2.2.length<=h.2.1+1/\MoreD L S (10*L.length+20) h.2.2.2 (h.1.2.2.map Dec.er) h.2.1 h.2.2.1) (fun h=> [(9,.slice h.1.1 h.1.2.2.length h.1.2.1),(8,pt n3),(5,.slice la L.length lc),(0,.string s),(2,.slice none 0 0),(3,pt n1),(4,I64 0)]) (fun h=>rdH n3 la lc L h.2.1 h.2.2.1::rsH dcC 6 229 h.1.1 h.1.2.1 (h.1.2.2)::dcsM h.1.2.2::rsH tkC 5 234 la lc L::pto n1 AD::(q++F)) (fun h=>2*(L.length - h.2.1)+(if h.2.2.1=true then 0 else 1)) (fun h j ih=> ?_) ((none,0, []),0,false,L.length+1) ⟨bC _,fun _=>⟨by dsimp only;omega,aY _⟩,by simp,f0⟩) Zg (bB leA (bB (Zm dcC 6 229 _) (bB Zqs leA)));try dsimp only at j ih|-
   obtain ⟨j0,d0,q0,o⟩:=j;obtain ⟨⟨a,c,l⟩,n,b,g⟩:=h;dsimp only at*;clear f0;refine rn [6,0] ?_;refine Zi (bO rfl) ?_;refine oo 1 ?_;refine Zd [31,9,8,5,0,2,3,4] ?_;apply Zt 8 39 31 rfl
   . intro g1 M1;have p:=sp g1;refine rn [3,0,4] ?_;exact Zz M1 ⟨Ws g1,Zw⟩
   . intro g1 M1;have p:=sp g1;refine oo 8 ?_;exact Zz M1 ⟨Wo g1,Zw⟩
   refine ox 1 ?_;refine xp 39 ?_ ?_<;>intro p
   . refine xo 6 ?_;obtain ⟨rfl,h2⟩:b=false/\n<L.length:=⟨p.1,by have:=p.2;omega⟩;obtain ⟨s0,r0⟩:=d0 rfl;obtain ⟨g,rfl⟩: ∃ g2,g=g2+1:=⟨g - 1,by omega⟩;refine Zx call114 leA (decl_ok (f:=10*L.length+20) (n:=n) (bad:=false) (L:=L) (Sees.le (aV _) Zj) hn j0 hT (by omega)) ?_;rintro _ _ ⟨d,m2,b2,rfl,rfl,⟨o0,w⟩,n0,h0⟩;refine bI (Zl (u:=d) dcC underlying161 Sd rfl rfl (fun _=>rfl) rfl) ?_;rintro _ _ ⟨g2,rfl,rfl⟩;refine bI (Zu (f:=dcC) (l:=l) (m:= [d]) underlying161 Sd rfl rfl (fun _=>rfl) rfl rfl Zj ((aV _).le Zj) (fun _=>rfl) (by simp;omega) (by simp;omega)) ?_;rintro _ _ ⟨a3,c3,rfl,rfl⟩;refine ox 3 ?_;refine X.dcs (l:=l) (s:=d) Zj Zj ?_;refine aZ (ih ((a3,c3,l++ [d]),m2,b2,g) ⟨n0,fun hb=>⟨by have:=w hb;dsimp only;omega,by have:=w hb;simp;omega⟩,by simp;omega,by rw [aT];exact o.go h2 h0⟩ (by dsimp only;cases b2 with|true=>simp;omega|false=>have:=w rfl;simp;omega)) Zg leA
   refine rn [8,0,1] ?_;refine xp 48 ?_ ?_<;>intro h2
   . refine rn [7,0,4] ?_;refine xp 55 ?_ ?_<;>intro h3
     . refine xo 4 ?_;refine Zx call115 (aD _) (End_ok (s:=s) (by have:=hx;unfold El at this;split at this;cases this;rw [<-H5];omega)) ?_;rintro _ _ ⟨y,z,rfl,rfl⟩;refine rn [1,0,2] ?_;subst h2;have x:=o.bad;refine Zq (q) func76 (D7 results76) ⟨_,rfl,.inr ⟨by rw [r,x],y,z,120,by first|assumption|decide,rfl,rfl⟩⟩
     refine rn [3,0,1,2,3,4,5] ?_;have i:n<L.length:=by omega
     refine H7 (aV (f:=tkC) (sz:=5) (ty:=234) (a:=la) (c:=lc) (l:=L) []) (by rw [b0];omega) fun b1 o1 e1=> ?_;subst e1;refine dd [5,6] ?_;refine iM 7 (us:= [I64 L[n].ln,I64 L[n].cl]) rfl rfl isAgg107 sizeOf107 rfl (fun k v hk=>by match k,hk with|0,hk=>cases hk;exact cF (n:=n) (aV (f:=tkC) (sz:=5) (ty:=234) (c:=lc) (l:=L) []) leA (fun _=>rfl) i rfl 3 _ rfl|1,hk=>cases hk;exact cF (n:=n) (aV (f:=tkC) (sz:=5) (ty:=234) (c:=lc) (l:=L) []) leA (fun _=>rfl) i rfl 4 _ rfl) ?_;refine rn [9,10,11,0] ?_;subst h2;have x:=o.bad;refine Zq (q) func76 (D7 results76) ⟨_,rfl,.inr ⟨by rw [r,x],L[n].ln,L[n].cl,120,by first|assumption|decide,rfl,rfl⟩⟩
   refine xx 8 ?_;subst h2;replace p:L.length<=n:=by rcases p with p|p;cases p;omega
   obtain ⟨g,rfl⟩: ∃ g2,g=g2+1:=⟨g - 1,by have:=(d0 rfl).1;omega⟩;have m0:=o.over p;rw [m0] at r hS;dsimp only at r;have l0: ∀ d∈l,W8 1000000 (Zk d.body):=fun d hd=>Jo (by omega) ((Re (aY _) hS).2 d.er (aX hd)).1
   refine X.fzD (m:=l) ?_;have c0:Kn [dsM a c l] fun M=>DcsAt M a c l:=fR;have g0:=Zq4 c0;have k0:=Zv (f:=dcC) (sz:=6) (fun _=>rfl) l;clear ih o
   refine aZ (cD (fun (k:Nat×Option Addr)=>k.1<=l.length/\k.2=a/\((l).map Dec.er).any (fun d=>Wz d.body 1)=((l.drop k.1).map Dec.er).any (fun d=>Wz d.body 1)) (fun k=> [(10,I64 (k.1:Int)),(9,.slice k.2 l.length c),(2,.slice none 0 0),(3,pt n1),(4,I64 0)]) (fun k=>dsM a c l::pto n1 AD::(q++F)) (fun k=>l.length - k.1) (fun k j a0=> ?_) (0,a) ⟨bC _,rfl,rfl⟩) Zg leA;try dsimp only at j a0|-
   obtain ⟨p0,i0,t⟩:=j;obtain ⟨k,a2⟩:=k;dsimp only at*;subst i0;refine xx 8 ?_;refine xp 69 ?_ ?_<;>intro h3
   . have i:k<l.length:=by omega
     have e0:l.drop k=l[k]::l.drop (k+1):=aS i;refine Zs g0 (by rw [k0];omega) fun b2 o2 e2=> ?_;subst e2;refine rn [10,0] ?_;refine Zx call116 (aD _) (Zjt _ l[k].body l[k].ba l[k].bc 1 (aY _) (l0 _ (aA i)) (by decide) ((Kn.dsI c0 i).le leA)) ?_;rintro _ _ ⟨pl,pc,rfl,rfl⟩;refine oo 3 ?_;refine bE zeroValue107 fun n4=> ?_
     refine rn [0,6] ?_;refine xp 81 ?_ ?_<;>intro h4
     . refine rn [2,0,1,2,3,4,0] ?_;refine Zq (q) func76 (D7 results76) ⟨_,rfl,.inr ⟨by rw [r,t,e0,if_pos (by rw [cE,kZ];simp only [Dec.er];rw [h4];rfl)],pl,pc,121,by first|assumption|decide,rfl,rfl⟩⟩
     refine xx 8 ?_;refine aZ (a0 (k+1,_) ⟨by dsimp only;omega,rfl,by rw [t,e0,cE,kZ];simp only [Dec.er];rw [h4];rfl⟩ (by dsimp only;omega)) Zg leA
   obtain rfl:k=l.length:=by omega
   refine rn [7,0,2] ?_;refine Zq (dsM a2 c l::q) func76 (D7 results76) ⟨_,rfl,.inl ⟨l,a2,c,by rw [r,t,dN,if_neg (by simp)],rfl,rfl⟩⟩
 have r:=Xb hx;refine oo 4 ?_;refine bE zeroValue107 fun n2=> ?_
 refine rn [1,0,8] ?_;refine gI 20 ?_ rfl (by simpa using he);refine rn [2,0,1,2,3,4,5,0] ?_;refine Zq (q) func76 (D7 results76) ⟨_,rfl,.inr ⟨r,y,z,e,by first|assumption|decide,rfl,rfl⟩⟩
end
def nmS (w:Bs):Bool:=if w.length<1\/16<w.length\/Xu (w.getD 0 0)=false\/kwS w=true then false else w.all Te
def Zz6 (k:Int):Nat:=if k=3\/k=4\/k=5 then 1 else if k=6 then 2 else 0
def Zz1 (k n:Int)(nm:Bs)(op:Int):Bool:=if k=1 then decide (0<=n) && decide (n<=2147483647) else if k=2\/k=3 then nmS nm else if k=6 then decide (1<=op) && decide (op<=11) else true
def D9 (k n:Int)(nm:Bs)(op:Int)(d:Nat):Bool:=decide ((d:Int)<1)||(k !=1 && n !=0)||(k !=2 && k !=3 && !(nm== []))||(k !=6 && op !=0)
mutual
def PEx.right:PEx->Nat->Bool
 | .mk k n nm _ _ op args,d=>if D9 k n (bs nm) op d=true then false else if 1<=k/\k<=6 then Zz1 k n (bs nm) op && decide (args.length=Zz6 k) && Wn args (d - 1) else false
def Wn:List PEx->Nat->Bool
 | [],_=>true
 |e::r,d=>e.right d && Wn r d
end
def PEx.nil:PEx->Bool
 | .mk k n nm _ _ op args=>k==0 && n==0 && bs nm== [] && op==0 && decide (args.length=0)
def hasN (k:Int):Bool:=k !=4 && k !=5 && decide (k<14)
def hasW (k:Int):Bool:=k==8||k==12
def Ct (k:Int):Bool:=decide (k<=5)||k==11||k==15
def Xm (k:Int)(n:Nat):Bool:=decide (k<1)||decide (15<k)||decide (24<(n:Int))
def may2 (k:Int)(nm wt:Bs):Bool:=(hasN k !=nmS nm)||(!hasN k && !(nm== []))||(hasW k !=nmS wt)||(!hasW k && !(wt== []))
def Ix (k:Int)(e ix:PEx):Bool:=(Ct k && !e.right 24)||(!Ct k && !e.nil)||(k==3 && !ix.right 24)||(k !=3 && !ix.nil)
def Xh (k:Int)(b l:Nat):Bool:=(k !=4 && k !=5 && decide (0<(b:Int)))||(k !=4 && decide (0<(l:Int)))
mutual
def PStm.may:PStm->Nat->Bool
 | .mk k _ _ nm wt e ix body els _ _ _ _,n=>
  if Xm k n=true then false else if may2 k (bs nm) (bs wt)=true then false else if Ix k e ix=true then false else if Xh k body.length els.length=true then false
  else Yo body (n+1) && Yo els (n+1)
def Yo:List PStm->Nat->Bool
 | [],_=>true
 |s::r,n=>s.may n && Yo r n
end
def Xn (k n:Int)(nm:Bs)(b:Nat)(m:Bool):Bool:=decide (k<1)||decide (6<k)|| !nmS nm||(k !=6 && decide (0<(b:Int)))||decide (2147483647<n)||decide (n< -2147483647)||(k !=1 && decide (n<0))||(k !=1 && k !=2 && k !=5 && n !=0)|| !m
def PDec.bad (d:PDec):Bool:=Xn d.k d.n (bs d.nm) d.body.length (Yo d.body 1)
theorem X.join {f:Fc}{a:Item}{α:Type}(E:α->PE)(C:α->List HP)(I:α->Prop)(hK: ∀ x,I x->X P G f Q k (E x) ds cs (C x))(h:(∀ x,I x->X P G f Q k (E x) ds cs (C x))->X P G f Q (a::k) p ds cs q):X P G f Q (a::k) p ds cs q:=h hK
abbrev jI:=@X.join
theorem aln_all {l:Bs}(h:i<l.length):l.all Te=((l.take i).all Te && (Te (l.getD i 0) && (l.drop (i+1)).all Te)):=by
 conv=>lhs;rw [<-fE i l,aS h]
 rw [jA,hU,gD h]
section
variable {s:ByteArray}{x:Stm}{l:List Stm}{a:Option Addr}{c n d:Nat}
theorem Ik:CallF prog G 155 [.string s] (q) (Ret fun v q'=>v= .bool (nmS (bs s))/\q'=q):=by
 refine aC func155 ntmps155 rfl fun F cs=> ?_;have u:=H5 s;refine xo 11 ?_;refine Zd [7,2,0] ?_;apply Zb 4 11 7 rfl
 . intro a e;have b:=sp a;refine oo 4 ?_;exact Zz e ⟨orF a,Zw⟩
 . intro a e;have b:=sp a;refine oo 4 ?_;exact Zz e ⟨orT a,Zw⟩
 refine oo 1 ?_;refine Zd [12,2,0] ?_;apply Zb 5 17 12 rfl
 . intro a e;have b:=sp a;refine oo 1 ?_;refine Zi (W7 rfl rfl underlying9 (by omega) (by omega)) ?_;refine aM 14 (.int .u8 (((bs s).getD 0 0).toNat:Int)) rfl (rfl) ?_;refine aU call182 (Dh (c:=(bs s).getD 0 0)) ?_;refine Zi (bO rfl) ?_;refine oo 1 ?_;exact Zz e ⟨orF a,Zw⟩
 . intro a e;have b:=sp a;refine oo 5 ?_;exact Zz e ⟨orT a,Zw⟩
 refine oo 1 ?_;refine Zd [18,2,0] ?_;apply Zb 3 21 18 rfl
 . intro a e;have b:=sp a;refine oo 1 ?_;refine aU call179 (Kz) ?_;refine oo 1 ?_;exact Zz e ⟨orF a,Zw⟩
 . intro a e;have b:=sp a;refine oo 3 ?_;exact Zz e ⟨orT a,Zw⟩
 refine ox 1 ?_;refine xp 21 ?_ ?_<;>intro b
 . refine xx 5 ?_;refine Zq (q) func155 (Zh results155 rfl) ⟨_,rfl,by unfold nmS;rw [if_pos];rcases b with ((b|b)|b)|b;exact .inl (by omega);exact .inr (.inl (by omega));exact .inr (.inr (.inl (by simpa using b)));exact .inr (.inr (.inr b)),rfl⟩
 refine xx 8 ?_;have w:s.size<=16:=by have:=b.1.1.2;omega
 have r:nmS (bs s)=(bs s).all Te:=by unfold nmS;rw [if_neg];rintro (h|h|h|h)<;>first|omega|simp_all
 refine aZ (cD (fun (k:Nat)=>k<=s.size/\((bs s).take k).all Te=true) (fun k=> [(3,I64 k),(0,.string s),(2,.bool false)]) (fun k=>(q++F)) (fun k=>s.size - k) (fun k j p=> ?_) 0 ⟨bC _,rfl⟩) Zg leA;try dsimp only at j p|-
 obtain ⟨t,g⟩:=j;refine xx 8 ?_;refine xp 25 ?_ ?_<;>intro x
 . refine xo 8 ?_;refine Zi (W7 rfl rfl underlying9 (by omega) (by omega)) ?_;refine aM 30 (B6 s k) rfl (rfl) ?_;refine aU call182 (Dh (c:=(bs s).getD k 0)) ?_;refine Zi (bO rfl) ?_;refine oo 1 ?_;refine Zd [33,3,0,2] ?_;apply Zt 6 39 33 rfl
   . intro l o;have m:=sp l;refine oo 2 ?_;refine Zi (W7 rfl rfl underlying9 (by omega) (by omega)) ?_;refine aM 36 (B6 s k) rfl (rfl) ?_;refine aU call177 (Ro (c:=(bs s).getD k 0)) ?_;refine Zi (bO rfl) ?_;refine oo 1 ?_;exact Zz o ⟨Ws l,Zw⟩
   . intro l o;have m:=sp l;refine oo 6 ?_;exact Zz o ⟨Wo l,Zw⟩
   refine ox 1 ?_;refine xp 39 ?_ ?_<;>intro m
   . refine xx 5 ?_;refine Zq (q) func155 (Zh results155 rfl) ⟨_,rfl,by rw [r,aln_all (i:=k) (by omega)];have n:Te ((bs s).getD k 0)=false:=(by unfold Te;revert m;cases Xu ((bs s).getD k 0)<;>cases Jc ((bs s).getD k 0)<;>simp);rw [n];simp,rfl⟩
   refine xx 8 ?_;have f:k<(bs s).length:=(by omega);have n:Te ((bs s).getD k 0)=true:=by unfold Te;revert m;cases Xu ((bs s).getD k 0)<;>cases Jc ((bs s).getD k 0)<;>simp
   refine aZ (p (k+1) ⟨by omega,by rw [aI f,jA,g,<-gD (d:=0) f];simp only [hU,n,List.all_nil];rfl⟩ (by omega)) Zg leA
 refine xx 6 ?_;refine Zq (q) func155 (Zh results155 rfl) ⟨_,rfl,by rw [r,<-g,fD (by omega)],rfl⟩
theorem Xw (IH: ∀ x:Ex,x.sz<e.sz-> ∀ {d:Nat} {q:List HP},d<=9223372036854775807->(Kn q fun M=>x.At M)->CallF prog G 202 [.agg (exC x).toArray,I64 d] q (Ret fun v q'=>v= .bool (x.er.right d)/\q'=q))(hd:d<=9223372036854775807)(h:Kn q fun M=>e.At M):CallF prog G 202 [.agg (exC e).toArray,I64 d] (q) (Ret fun v q'=>v= .bool (e.er.right d)/\q'=q):=by
 refine aC func202 ntmps202 rfl fun F cs=> ?_;obtain ⟨k,z,nm,sl,lo,op,a,aa,ac⟩:=e;have hA:=Zq3 h;have b0:=Zv (f:=exC) (sz:=7) Z2 a;have e0:=Vf a;refine iJ (fun w s=>Kn.exL (h.le leA) s) fun j0=> ?_;have l:(Ex.mk k z nm sl lo op a aa ac).er.right d=if D9 k z (bs nm) op d=true then false else if 1<=k/\k<=6 then Zz1 k z (bs nm) op && decide (a.length=Zz6 k) && Wn (Z9 a) (d - 1) else false:=by simp only [Ex.er,PEx.right,e0]
 obtain ⟨R,f0⟩: ∃ R,(Ex.mk k z nm sl lo op a aa ac).er.right d=R:=⟨_,rfl⟩;rw [f0] at l|-;refine xo 2 ?_;refine Z0 fun n1=> ?_
 refine oo 8 ?_;refine Zd [10,4,2,1] ?_;apply Zb 9 19 10 rfl
 . intro b i;have c:=sp b;refine rn [1,0,2] ?_;refine Zd [14,10,4,2,1] ?_;apply Zt 4 18 14 rfl
   . intro g j;have r:=sp g;refine rn [1,0,2] ?_;exact Zz j ⟨Ws g,Zw⟩
   . intro g j;have r:=sp g;refine oo 4 ?_;exact Zz j ⟨Wo g,Zw⟩
   refine oo 1 ?_;exact Zz i ⟨orF b,Zw⟩
 . intro b i;have c:=sp b;refine oo 9 ?_;exact Zz i ⟨orT b,Zw⟩
 refine oo 1 ?_;refine Zd [20,4,2,1] ?_;apply Zb 14 34 20 rfl
 . intro b i;have c:=sp b;refine rn [1,0,2] ?_;refine Zd [24,20,4,2,1] ?_;apply Zt 4 28 24 rfl
   . intro g j;have r:=sp g;refine rn [1,0,2] ?_;exact Zz j ⟨Ws g,Zw⟩
   . intro g j;have r:=sp g;refine oo 4 ?_;exact Zz j ⟨Wo g,Zw⟩
   refine oo 1 ?_;refine Zd [29,20,4,2,1] ?_;apply Zt 4 33 29 rfl
   . intro g j;have r:=sp g;refine rn [1,0,2] ?_;exact Zz j ⟨Ws g,Zw⟩
   . intro g j;have r:=sp g;refine oo 4 ?_;exact Zz j ⟨Wo g,Zw⟩
   refine oo 1 ?_;exact Zz i ⟨orF b,Zw⟩
 . intro b i;have c:=sp b;refine oo 14 ?_;exact Zz i ⟨orT b,Zw⟩
 refine oo 1 ?_;refine Zd [35,4,2,1] ?_;apply Zb 9 44 35 rfl
 . intro b i;have c:=sp b;refine rn [1,0,2] ?_;refine Zd [39,35,4,2,1] ?_;apply Zt 4 43 39 rfl
   . intro g j;have r:=sp g;refine rn [1,0,2] ?_;exact Zz j ⟨Ws g,Zw⟩
   . intro g j;have r:=sp g;refine oo 4 ?_;exact Zz j ⟨Wo g,Zw⟩
   refine oo 1 ?_;exact Zz i ⟨orF b,Zw⟩
 . intro b i;have c:=sp b;refine oo 9 ?_;exact Zz i ⟨orT b,Zw⟩
 refine ox 1 ?_;refine dH 44 rfl ?_ ?_<;>intro c
 . have o:D9 k z (bs nm) op d=true:=by rw [Xv] at c;unfold D9;rw [<-c];simp only [fB,eT];rfl
   refine xx 5 ?_;refine Zq (q) func202 (Zh results202 rfl) ⟨_,rfl,by rw [l,if_pos o],rfl⟩
 have o: ¬D9 k z (bs nm) op d=true:=by rw [Xv] at c;intro o;rw [<-Bool.not_eq_true] at c;apply c;rw [<-o];unfold D9;simp only [fB,eT];rfl
 rw [if_neg o] at l;have i0:1<=d:=by rcases dY d 1 with hx|hx;exact bD (by unfold D9;rw [show decide ((d:Int)<1)=true from aR (by omega)];rfl) o;exact hx
 refine rn [11,0,1] ?_;refine jI (fun (x:Nat×Bool)=> [(5,I64 (x.1:Nat)),(6,.bool x.2),(2,pt n1),(1,I64 d),(4,.bool false)]) (fun x=>pto n1 (.cells (exC (.mk k z nm sl lo op a aa ac)).toArray 124 (0,0))::(q++F)) (fun x=>R=(x.2 && decide (a.length=x.1) && Wn (Z9 a) (d - 1))/\x.1<=2) (fun x a0=> ?_) fun K=> ?_
 . obtain ⟨m,ok⟩:=x;dsimp only at a0|-;obtain ⟨t,g0⟩:=a0;refine xo 4 ?_;refine Zi (bO rfl) ?_;refine oo 1 ?_;refine Zd [82,5,2,1,4] ?_;apply Zb 6 88 82 rfl
   . intro b i;have c:=sp b;refine rn [1,0,4] ?_;exact Zz i ⟨orF b,Zw⟩
   . intro b i;have c:=sp b;refine oo 6 ?_;exact Zz i ⟨orT b,Zw⟩
   refine ox 1 ?_;refine xp 88 ?_ ?_<;>intro c
   . refine xx 5 ?_;refine Zq (q) func202 (Zh results202 rfl) ⟨_,rfl,by rw [t];rcases c with c|c;rw [c];rfl;rw [show decide (a.length=m)=false from aO (by omega)];simp,rfl⟩
   refine xx 8 ?_;obtain ⟨c,r⟩:=c;obtain rfl:m=a.length:=by omega
   rw [c,aR rfl,iA,iA] at t;refine aZ (cD (fun (s:Nat×Option Addr)=>s.1<=a.length/\R=Wn (Z9 (a.drop s.1)) (d - 1)) (fun s=> [(7,I64 (s.1:Int)),(5,I64 a.length),(2,pt n1),(1,I64 d),(4,.bool false)]) (fun s=>pto n1 (.cells (exC (.mk k z nm sl lo op a aa ac)).toArray 124 (0,0))::(q++F)) (fun s=>a.length - s.1) (fun s c0 ih=> ?_) (0,none) ⟨bC _,t⟩) Zg leA;try dsimp only at c0 ih|-
   obtain ⟨h0,u⟩:=c0;obtain ⟨s,sx⟩:=s;dsimp only at*;refine xx 7 ?_;refine xp 91 ?_ ?_<;>intro t1
   . refine rn [7,0,1] ?_;have p:s<a.length:=by omega
     have d0:Wn (Z9 (a.drop s)) (d - 1)=(a[s].er.right (d - 1) && Wn (Z9 (a.drop (s+1))) (d - 1)):=by rw [aS p];rfl
     refine Kw hA (by rw [b0];omega) fun b1 o1 e1=> ?_;subst e1;refine oo 1 ?_;refine T0 (n:=s) isAgg124 sizeOf124 hA p ?_ (hf:=Z2);refine oo 2 ?_;refine aM 100 (I64 ((d - 1:Nat):Int)) rfl (bL (Value.int .i64) (by omega)) ?_;refine aU call202 (IH a[s] (by have:=Wu (aA p);simp only [Ex.sz];omega) (d:=d - 1) (by omega) (Zq2 (h.le leA) p)) ?_;refine Zi (bO rfl) ?_;refine ox 1 ?_;refine xp 102 ?_ ?_<;>intro t2
     . refine xx 5 ?_;refine Zq (q) func202 (Zh results202 rfl) ⟨_,rfl,by rw [u,d0,t2];rfl,rfl⟩
     refine xx 8 ?_;refine aZ (ih (s+1,none) ⟨by dsimp only;omega,by rw [u,d0,t2];rfl⟩ (by dsimp only;omega)) Zg leA
   refine xx 6 ?_;refine Zq (q) func202 (Zh results202 rfl) ⟨_,rfl,by obtain rfl:s=a.length:=(by omega);rw [u,dN];rfl,rfl⟩
 have y:k=1\/k=2\/k=3\/k=4\/k=5\/k=6\/ ¬ (1<=k/\k<=6):=by omega
 rcases y with rfl|rfl|rfl|rfl|rfl|rfl|y
 . rw [if_pos (by decide)] at l;refine rn [6,2047,3,0,2] ?_;refine Zd [52,6,5,4,2,1] ?_;apply Zt 4 56 52 rfl
   . intro b i;have c:=sp b;refine rn [1,0,2] ?_;exact Zz i ⟨Ws b,Zw⟩
   . intro b i;have c:=sp b;refine oo 4 ?_;exact Zz i ⟨Wo b,Zw⟩
   refine ox 3 ?_;exact aZ (K (0,(decide (0<=z) && decide (z<=2147483647))) ⟨l,show 0<=2 by decide⟩) Zg leA
 . rw [if_pos (by decide)] at l;refine rn [6,1047,6,2057,3,0] ?_;refine aU call155 (Ik (s:=nm)) ?_;refine ox 3 ?_;exact aZ (K (0,nmS (bs nm)) ⟨l,show 0<=2 by decide⟩) Zg leA
 iterate 4
  focus
   rw [if_pos (by decide)] at l;refine rn [6,1047,6,1057,6] ?_
  rotate_left
 . rw [if_neg y] at l;refine rn [6,1047,6,1057,6,1062,7,1067,5,1067,6,1070,5] ?_;refine Zq (q) func202 (Zh results202 rfl) ⟨_,rfl,by rw [l],rfl⟩
 . refine rn [2062,3,0] ?_;refine aU call155 (Ik (s:=nm)) ?_;refine ox 4 ?_;exact aZ (K (1,nmS (bs nm)) ⟨l,show 1<=2 by decide⟩) Zg leA
 . refine rn [1062,7,2067,7] ?_;exact aZ (K (1,true) ⟨l,show 1<=2 by decide⟩) Zg leA
 . refine rn [1062,7,1067,5,2067,5] ?_;exact aZ (K (1,true) ⟨l,show 1<=2 by decide⟩) Zg leA
 refine rn [1062,7,1067,5,1067,6,2070,1,0,1,2,3,4,9] ?_;refine Gr [5,75,4,2,1] ?_;apply Ns 1 [0,1,2,3,4,5,6,7,8] 79 75 rfl
 . intro b i;have c:=sp b;refine rn [5,6,7,8] ?_;exact Ql i ⟨Ws b,Zw⟩
 . intro b i;have c:=sp b;refine dd [4,5,6,7] ?_;exact Ql i ⟨Wo b,Zw⟩
 intro L_;refine rn [10,0,1] ?_;exact aZ (K (2,(decide (1<=op) && decide (op<=11))) ⟨l,show 2<=2 by decide⟩) Zg leA
theorem Ft: ∀ (m:Nat) (e:Ex),e.sz<=m-> ∀ {d:Nat} {q:List HP},d<=9223372036854775807->(Kn q fun M=>e.At M)->CallF prog G 202 [.agg (exC e).toArray,I64 d] q (Ret fun v q'=>v= .bool (e.er.right d)/\q'=q)
 |m,e,hm,d,_,hd,h=>Xw (fun x c f _ a b=>by
  cases m with
  |zero=>omega
  |succ m=>exact Ft m x (by omega) a b) hd h
theorem F1:CallF prog G 203 [.agg (exC e).toArray] (q) (Ret fun v q'=>v= .bool e.er.nil/\q'=q):=by
 refine aC func203 ntmps203 rfl fun F cs=> ?_;obtain ⟨k,z,nm,g,lo,op,c,j,i⟩:=e;have f:=Vf c;refine xo 2 ?_;refine Z0 fun h=> ?_
 refine rn [5,0,2] ?_;refine Zd [6,2,1] ?_;apply Zt 4 10 6 rfl
 . intro a b;have d:=sp a;refine rn [1,0,2] ?_;exact Zz b ⟨Ws a,Zw⟩
 . intro a b;have d:=sp a;refine oo 4 ?_;exact Zz b ⟨Wo a,Zw⟩
 refine oo 1 ?_;refine Zd [11,2,1] ?_;apply Zt 4 15 11 rfl
 . intro a b;have d:=sp a;refine rn [1,0,2] ?_;exact Zz b ⟨Ws a,Zw⟩
 . intro a b;have d:=sp a;refine oo 4 ?_;exact Zz b ⟨Wo a,Zw⟩
 refine oo 1 ?_;refine Zd [16,2,1] ?_;apply Zt 4 20 16 rfl
 . intro a b;have d:=sp a;refine rn [1,0,2] ?_;exact Zz b ⟨Ws a,Zw⟩
 . intro a b;have d:=sp a;refine oo 4 ?_;exact Zz b ⟨Wo a,Zw⟩
 refine oo 1 ?_;refine Zd [21,2,1] ?_;apply Zt 5 26 21 rfl
 . intro a b;have d:=sp a;refine rn [1,0,3] ?_;exact Zz b ⟨Ws a,Zw⟩
 . intro a b;have d:=sp a;refine oo 5 ?_;exact Zz b ⟨Wo a,Zw⟩
 refine ox 2 ?_;refine Zq (q) func203 (Zh results203 rfl) ⟨_,rfl,by simp only [Ex.er,PEx.nil,f];rw [Xv];congr 1;rw [show decide (c.length=0)=((c.length:Int)==0) by rw [cQ];simp];rfl,rfl⟩
theorem Xz (IH: ∀ (m:List Stm) (a:Option Addr) (c n:Nat),Zc m<x.sz-> ∀ {q:List HP},(Kn q fun M=>BlkAt M a c m)->CallF prog G 156 [.slice a m.length c,I64 n] q (Ret fun v q'=>v= .bool (Yo (Zk m) n)/\q'=q))(h:Kn q fun M=>x.At M):CallF prog G 183 [.agg (stC x).toArray,I64 n] (q) (Ret fun v q'=>v= .bool (x.er.may n)/\q'=q):=by
 refine aC func183 ntmps183 rfl fun F cs=> ?_;obtain ⟨k,ln,cl,nm,wt,⟨k1,y,s1,l1,o1,p1,y1,u1,w1⟩,⟨k2,w,s2,l2,o2,p2,z,u2,w2⟩,l,r,ba,bc,ea,ec,id,slot,t,loc⟩:=x;have hE:=Zq0 h;have hX:=Zqo h;have hB:=Zq1 h;have hL:=Zqe h;have b0:=Zf l;have a0:=Zf r;obtain ⟨R,o⟩: ∃ R,(Stm.er (.mk k ln cl nm wt (.mk k1 y s1 l1 o1 p1 y1 u1 w1) (.mk k2 w s2 l2 o2 p2 z u2 w2) l r ba bc ea ec id slot t loc)).may n=R:=⟨_,rfl⟩;rw [o];simp only [Stm.er,PStm.may,b0,a0] at o;refine xo 2 ?_;refine Z0 fun n1=> ?_
 refine rn [5,0,8] ?_;refine Zd [13,5,4,2,1] ?_;apply Zb 3 16 13 rfl
 . intro b f;have g:=sp b;refine oo 3 ?_;exact Zz f ⟨orF b,Zw⟩
 . intro b f;have g:=sp b;refine oo 3 ?_;exact Zz f ⟨orT b,Zw⟩
 refine oo 1 ?_;refine Zd [17,5,4,2,1] ?_;apply Zb 3 20 17 rfl
 . intro b f;have g:=sp b;refine oo 3 ?_;exact Zz f ⟨orF b,Zw⟩
 . intro b f;have g:=sp b;refine oo 3 ?_;exact Zz f ⟨orT b,Zw⟩
 refine ox 1 ?_;refine dH 20 rfl ?_ ?_<;>intro c1
 . have d1:Xm k n=true:=by unfold Xm;first|exact c1|(rw [<-c1];simp only [fB,eT];rfl)
   rw [if_pos d1] at o;refine xx 5 ?_;refine Zq (q) func183 (Zh results183 rfl) ⟨_,rfl,by rw [o],rfl⟩
 have d1:Xm k n=false:=by unfold Xm;first|exact c1|(rw [<-c1];simp only [fB,eT];rfl)
 rw [if_neg (by rw [d1];decide)] at o;have e1:=sp c1;have c0:n<=24:=by omega
 refine xo 7 ?_;refine Zd [23,5,4,2,1] ?_;apply Zt 3 26 23 rfl
 . intro b f;have g:=sp b;refine oo 3 ?_;exact Zz f ⟨Ws b,Zw⟩
 . intro b f;have g:=sp b;refine oo 3 ?_;exact Zz f ⟨Wo b,Zw⟩
 refine oo 1 ?_;refine Zd [27,5,4,2,1] ?_;apply Zt 3 30 27 rfl
 . intro b f;have g:=sp b;refine oo 3 ?_;exact Zz f ⟨Ws b,Zw⟩
 . intro b f;have g:=sp b;refine oo 3 ?_;exact Zz f ⟨Wo b,Zw⟩
 refine oo 7 ?_;refine Zd [33,6,5,4,2,1] ?_;apply Zb 3 36 33 rfl
 . intro b f;have g:=sp b;refine oo 3 ?_;exact Zz f ⟨orF b,Zw⟩
 . intro b f;have g:=sp b;refine oo 3 ?_;exact Zz f ⟨orT b,Zw⟩
 refine oo 7 ?_;refine Zd [39,7,6,5,4,2,1] ?_;apply Zb 3 42 39 rfl
 . intro b f;have g:=sp b;refine oo 3 ?_;exact Zz f ⟨orF b,Zw⟩
 . intro b f;have g:=sp b;refine oo 3 ?_;exact Zz f ⟨orT b,Zw⟩
 refine oo 1 ?_;refine Zd [43,7,6,5,4,2,1] ?_;apply Zb 3 46 43 rfl
 . intro b f;have g:=sp b;refine oo 3 ?_;exact Zz f ⟨orF b,Zw⟩
 . intro b f;have g:=sp b;refine oo 3 ?_;exact Zz f ⟨orT b,Zw⟩
 refine rn [7,0] ?_;refine aU call155 (Ik (s:=nm)) ?_;refine oo 2 ?_;refine Zd [52,8,7,6,5,4,2,1] ?_;apply Zb 8 60 52 rfl
 . intro b f;have g:=sp b;refine oo 1 ?_;refine Zi (bO rfl) ?_;refine oo 1 ?_;refine Zd [55,52,8,7,6,5,4,2,1] ?_;apply Zt 4 59 55 rfl
   . intro i j;have p:=sp i;refine rn [1,0,2] ?_;exact Zz j ⟨Ws i,Zw⟩
   . intro i j;have p:=sp i;refine oo 4 ?_;exact Zz j ⟨Wo i,Zw⟩
   refine oo 1 ?_;exact Zz f ⟨orF b,Zw⟩
 . intro b f;have g:=sp b;refine oo 8 ?_;exact Zz f ⟨orT b,Zw⟩
 refine oo 1 ?_;refine Zd [61,8,7,5,4,2,1] ?_;apply Zb 6 67 61 rfl
 . intro b f;have g:=sp b;refine rn [2,0] ?_;refine aU call155 (Ik (s:=wt)) ?_;refine oo 2 ?_;exact Zz f ⟨orF b,Zw⟩
 . intro b f;have g:=sp b;refine oo 6 ?_;exact Zz f ⟨orT b,Zw⟩
 refine oo 1 ?_;refine Zd [68,8,7,5,4,2,1] ?_;apply Zb 8 76 68 rfl
 . intro b f;have g:=sp b;refine oo 1 ?_;refine Zi (bO rfl) ?_;refine oo 1 ?_;refine Zd [71,68,8,7,5,4,2,1] ?_;apply Zt 4 75 71 rfl
   . intro i j;have p:=sp i;refine rn [1,0,2] ?_;exact Zz j ⟨Ws i,Zw⟩
   . intro i j;have p:=sp i;refine oo 4 ?_;exact Zz j ⟨Wo i,Zw⟩
   refine oo 1 ?_;exact Zz f ⟨orF b,Zw⟩
 . intro b f;have g:=sp b;refine oo 8 ?_;exact Zz f ⟨orT b,Zw⟩
 refine ox 1 ?_;refine dH 76 rfl ?_ ?_<;>intro u
 . have d2:may2 k (bs nm) (bs wt)=true:=by rw [Xv,Xv] at u;unfold may2 hasN hasW;first|exact u|(rw [<-u];simp only [fB,eT];rfl)
   rw [if_pos d2] at o;refine xx 5 ?_;refine Zq (q) func183 (Zh results183 rfl) ⟨_,rfl,by rw [o],rfl⟩
 have d2:may2 k (bs nm) (bs wt)=false:=by rw [Xv,Xv] at u;unfold may2 hasN hasW;first|exact u|(rw [<-u];simp only [fB,eT];rfl)
 rw [if_neg (by rw [d2];decide)] at o;refine xo 7 ?_;refine Zd [78,8,5,4,2,1] ?_;apply Zt 5 83 78 rfl
 . intro b f;have g:=sp b;refine rn [1,0] ?_;refine aU call202 (Ft _ (.mk k1 y s1 l1 o1 p1 y1 u1 w1) (aY _) (d:=24) (by decide) (hE.le leA)) ?_;refine Zi (bO rfl) ?_;refine oo 1 ?_;exact Zz f ⟨Ws b,Zw⟩
 . intro b f;have g:=sp b;refine oo 5 ?_;exact Zz f ⟨Wo b,Zw⟩
 refine oo 1 ?_;refine Zd [84,8,5,4,2,1] ?_;apply Zb 9 93 84 rfl
 . intro b f;have g:=sp b;refine oo 1 ?_;refine Zi (bO rfl) ?_;refine oo 1 ?_;refine Zd [87,84,8,5,4,2,1] ?_;apply Zt 5 92 87 rfl
   . intro i j;have p:=sp i;refine rn [1,0] ?_;refine aU call203 (F1 (e:=(.mk k1 y s1 l1 o1 p1 y1 u1 w1))) ?_;refine Zi (bO rfl) ?_;refine oo 1 ?_;exact Zz j ⟨Ws i,Zw⟩
   . intro i j;have p:=sp i;refine oo 5 ?_;exact Zz j ⟨Wo i,Zw⟩
   refine oo 1 ?_;exact Zz f ⟨orF b,Zw⟩
 . intro b f;have g:=sp b;refine oo 9 ?_;exact Zz f ⟨orT b,Zw⟩
 refine oo 1 ?_;refine Zd [94,5,4,2,1] ?_;apply Zb 9 103 94 rfl
 . intro b f;have g:=sp b;refine oo 3 ?_;refine Zd [97,94,5,4,2,1] ?_;apply Zt 5 102 97 rfl
   . intro i j;have p:=sp i;refine rn [1,0] ?_;refine aU call202 (Ft _ (.mk k2 w s2 l2 o2 p2 z u2 w2) (aY _) (d:=24) (by decide) (hX.le leA)) ?_;refine Zi (bO rfl) ?_;refine oo 1 ?_;exact Zz j ⟨Ws i,Zw⟩
   . intro i j;have p:=sp i;refine oo 5 ?_;exact Zz j ⟨Wo i,Zw⟩
   refine oo 1 ?_;exact Zz f ⟨orF b,Zw⟩
 . intro b f;have g:=sp b;refine oo 9 ?_;exact Zz f ⟨orT b,Zw⟩
 refine oo 1 ?_;refine Zd [104,5,4,2,1] ?_;apply Zb 9 113 104 rfl
 . intro b f;have g:=sp b;refine oo 3 ?_;refine Zd [107,104,5,4,2,1] ?_;apply Zt 5 112 107 rfl
   . intro i j;have p:=sp i;refine rn [1,0] ?_;refine aU call203 (F1 (e:=(.mk k2 w s2 l2 o2 p2 z u2 w2))) ?_;refine Zi (bO rfl) ?_;refine oo 1 ?_;exact Zz j ⟨Ws i,Zw⟩
   . intro i j;have p:=sp i;refine oo 5 ?_;exact Zz j ⟨Wo i,Zw⟩
   refine oo 1 ?_;exact Zz f ⟨orF b,Zw⟩
 . intro b f;have g:=sp b;refine oo 9 ?_;exact Zz f ⟨orT b,Zw⟩
 refine ox 1 ?_;refine dH 113 rfl ?_ ?_<;>intro c3
 . have d3:Ix k (Ex.er (.mk k1 y s1 l1 o1 p1 y1 u1 w1)) (Ex.er (.mk k2 w s2 l2 o2 p2 z u2 w2))=true:=by unfold Ix Ct;first|exact c3|(rw [<-c3];simp only [fB,eT];rfl)
   rw [if_pos d3] at o;refine xx 5 ?_;refine Zq (q) func183 (Zh results183 rfl) ⟨_,rfl,by rw [o],rfl⟩
 have d3:Ix k (Ex.er (.mk k1 y s1 l1 o1 p1 y1 u1 w1)) (Ex.er (.mk k2 w s2 l2 o2 p2 z u2 w2))=false:=by unfold Ix Ct;first|exact c3|(rw [<-c3];simp only [fB,eT];rfl)
 rw [if_neg (by rw [d3];decide)] at o;refine xo 8 ?_;refine Zd [116,5,4,2,1] ?_;apply Zt 3 119 116 rfl
 . intro b f;have g:=sp b;refine oo 3 ?_;exact Zz f ⟨Ws b,Zw⟩
 . intro b f;have g:=sp b;refine oo 3 ?_;exact Zz f ⟨Wo b,Zw⟩
 refine oo 1 ?_;refine Zd [120,5,4,2,1] ?_;apply Zt 5 125 120 rfl
 . intro b f;have g:=sp b;refine rn [1,0,3] ?_;exact Zz f ⟨Ws b,Zw⟩
 . intro b f;have g:=sp b;refine oo 5 ?_;exact Zz f ⟨Wo b,Zw⟩
 refine oo 1 ?_;refine Zd [126,5,4,2,1] ?_;apply Zb 9 135 126 rfl
 . intro b f;have g:=sp b;refine oo 3 ?_;refine Zd [129,126,5,4,2,1] ?_;apply Zt 5 134 129 rfl
   . intro i j;have p:=sp i;refine rn [1,0,3] ?_;exact Zz j ⟨Ws i,Zw⟩
   . intro i j;have p:=sp i;refine oo 5 ?_;exact Zz j ⟨Wo i,Zw⟩
   refine oo 1 ?_;exact Zz f ⟨orF b,Zw⟩
 . intro b f;have g:=sp b;refine oo 9 ?_;exact Zz f ⟨orT b,Zw⟩
 refine ox 1 ?_;refine dH 135 rfl ?_ ?_<;>intro c4
 . have d4:Xh k l.length r.length=true:=by unfold Xh;first|exact c4|(rw [<-c4];simp only [fB,eT];rfl)
   rw [if_pos d4] at o;refine xx 5 ?_;refine Zq (q) func183 (Zh results183 rfl) ⟨_,rfl,by rw [o],rfl⟩
 have d4:Xh k l.length r.length=false:=by unfold Xh;first|exact c4|(rw [<-c4];simp only [fB,eT];rfl)
 rw [if_neg (by rw [d4];decide)] at o;refine rn [5,0,2] ?_;refine aU call156 (IH l ba bc (n+1) (by simp only [Stm.sz];omega) (hB.le leA)) ?_;refine oo 1 ?_;refine Zd [141,4,2,1] ?_;apply Zt 6 147 141 rfl
 . intro b f;have g:=sp b;refine rn [1,0,2] ?_;refine aU call156 (IH r ea ec (n+1) (by simp only [Stm.sz];omega) (hL.le leA)) ?_;refine oo 1 ?_;exact Zz f ⟨Ws b,Zw⟩
 . intro b f;have g:=sp b;refine oo 6 ?_;exact Zz f ⟨Wo b,Zw⟩
 refine ox 2 ?_;refine Zq (q) func183 (Zh results183 rfl) ⟨_,rfl,by rw [<-o],rfl⟩
abbrev Br (v0:Stm)(v1:Nat)(v2:List HP):=(Ret fun v q'=>v= .bool (v0.er.may v1)/\q'=v2)
abbrev Bn (v0:Stm)(v1:Nat):=([.agg (stC v0).toArray,I64 v1]:List Value)
theorem D6 (IH: ∀ (x:Stm) (n:Nat),x.sz<=Zc l-> ∀ {q:List HP},(Kn q fun M=>x.At M)->CallF prog G 183 (Bn x n) q (Br x n q))(h:Kn q fun M=>BlkAt M a c l):CallF prog G 156 (Bw a l c n) (q) (Ret fun v q'=>v= .bool (Yo (Zk l) n)/\q'=q):=by
 refine aC func156 ntmps156 rfl fun F cs=> ?_;have k:=Zq7 h;have d:=Zv (f:=stC) (sz:=25) Ze l;refine iJ (fun w s=>Zq5 (h.le leA) s) fun o=> ?_;refine xx 10 ?_;refine aZ (cD (fun (s:Nat×Option Addr)=>s.1<=l.length/\s.2=a/\Yo (Zk l) n=Yo (Zk (l.drop s.1)) n) (fun s=> [(5,I64 (s.1:Int)),(0,.slice s.2 l.length c),(1,I64 n),(4,.bool false)]) (fun s=>(q++F)) (fun s=>l.length - s.1) (fun s e j=> ?_) (0,a) ⟨bC _,rfl,rfl⟩) Zg leA;try dsimp only at e j|-
 obtain ⟨u,p,i⟩:=e;obtain ⟨s,a2⟩:=s;dsimp only at*;subst p;refine xx 8 ?_;refine xp 9 ?_ ?_<;>intro y
 . have b:s<l.length:=by omega
   have g:Yo (Zk (l.drop s)) n=(l[s].er.may n && Yo (Zk (l.drop (s+1))) n):=by rw [aS b];rfl
   refine xo 8 ?_;refine Kw k (by rw [d];omega) fun z t r=> ?_;subst r;refine oo 1 ?_;refine T0 (n:=s) isAgg126 sizeOf126 k b ?_ (hf:=Ze);refine oo 1 ?_;refine aU call183 (IH l[s] n (Qk (aA b)) ((Zq6 h b).le leA)) ?_;refine Zi (bO rfl) ?_;refine ox 1 ?_;refine xp 18 ?_ ?_<;>intro m
   . refine xx 5 ?_;refine Zq (q) func156 (Zh results156 rfl) ⟨_,rfl,by rw [i,g,m];rfl,rfl⟩
   refine xx 8 ?_;refine aZ (j (s+1,_) ⟨by dsimp only;omega,rfl,by rw [i,g,m];rfl⟩ (by dsimp only;omega)) Zg leA
 obtain rfl:s=l.length:=by omega
 refine xx 6 ?_;refine Zq (q) func156 (Zh results156 rfl) ⟨_,rfl,by rw [i,dN];rfl,rfl⟩
theorem may_ok: ∀ N:Nat,(∀ (x:Stm) (n:Nat),x.sz<=N-> ∀ {q:List HP},(Kn q fun M=>x.At M)->CallF prog G 183 (Bn x n) q (Br x n q))/\
 (∀ (m:List Stm) (a:Option Addr) (c n:Nat),Zc m<=N-> ∀ {q:List HP},(Kn q fun M=>BlkAt M a c m)->CallF prog G 156 (Bw a m c n) q (Ret fun v q'=>v= .bool (Yo (Zk m) n)/\q'=q)):=by
 intro N
 induction N with
 |zero=>
  have b: ∀ (x:Stm) (n:Nat),x.sz<=0-> ∀ {q:List HP},(Kn q fun M=>x.At M)->CallF prog G 183 (Bn x n) q (Br x n q):=fun x n d=>by cases x;simp [Stm.sz] at d
  exact ⟨b,fun m a c n e _ h=>D6 (fun x n d=>b x n (by omega)) h⟩
 |succ N ih=>
  have b: ∀ (x:Stm) (n:Nat),x.sz<=N+1-> ∀ {q:List HP},(Kn q fun M=>x.At M)->CallF prog G 183 (Bn x n) q (Br x n q):=fun x n d _ h=>Xz (fun m a c n e=>ih.2 m a c n (by omega)) h
  exact ⟨b,fun m a c n e _ h=>D6 (fun x n d=>b x n (by omega)) h⟩
theorem Kn.dsL {l:List Dec}(h:Kn q fun M=>DcsAt M a c l)(s:St G w q):l.length<=9223372036854775807:=h.fact (fun M h=>by have d:=h.1.1;have b:=h.1.2.1;simp [maxLen] at b;omega) s
variable {m:List Dec}
theorem mayD_ok (h:Kn q fun M=>DcsAt M a c m):CallF prog G 117 [.slice a m.length c] (q) (Ret fun v q'=>v= I64 (if (m.map Dec.er).any PDec.bad=true then 2 else 0)/\q'=q):=by
 refine aC func117 ntmps117 rfl fun F cs=> ?_;have hA:=Zq4 h;have r:=Zv (f:=dcC) (sz:=6) (fun _=>rfl) m;refine iJ (fun w s=>Kn.dsL (h.le leA) s) fun a0=> ?_;refine xx 10 ?_;refine aZ (cD (fun (s:Nat×Option Addr)=>s.1<=m.length/\s.2=a/\(m.map Dec.er).any PDec.bad=((m.drop s.1).map Dec.er).any PDec.bad) (fun s=> [(3,I64 (s.1:Int)),(0,.slice s.2 m.length c),(2,I64 0)]) (fun s=>(q++F)) (fun s=>m.length - s.1) (fun s t ih=> ?_) (0,a) ⟨bC _,rfl,rfl⟩) Zg leA;try dsimp only at t ih|-
 obtain ⟨hs,ha,hD⟩:=t;obtain ⟨s,a2⟩:=s;dsimp only at*;subst ha;refine xx 8 ?_;refine xp 9 ?_ ?_<;>intro h0
 . have o:s<m.length:=by omega
   have p:((m.drop s).map Dec.er).any PDec.bad=(m[s].er.bad||((m.drop (s+1)).map Dec.er).any PDec.bad):=by rw [aS o];rfl
   refine xo 8 ?_;refine Kw hA (by rw [r];omega) fun b1 o1 e1=> ?_;subst e1;refine oo 1 ?_;refine T0 (n:=s) isAgg229 sizeOf229 hA o ?_ (hf:=(fun _=>rfl));obtain ⟨x,hx⟩: ∃ x,m[s]=x:=⟨_,rfl⟩;have hK:=Kn.dsI h o;rw [hx] at p hK;refine aM 15 (.agg (dcC x).toArray) rfl (by rw [hx]) ?_;obtain ⟨k,ln,cl,nm,z,j,ba,bc⟩:=x;have u:=Zf j;refine bE zeroValue229 fun n1=> ?_
   refine rn [0,4,0,7] ?_;refine Zd [20,5,4,3,0,2] ?_;apply Zb 3 23 20 rfl
   . intro b d;have i:=sp b;refine oo 3 ?_;exact Zz d ⟨orF b,Zw⟩
   . intro b d;have i:=sp b;refine oo 3 ?_;exact Zz d ⟨orT b,Zw⟩
   refine oo 1 ?_;refine Zd [24,5,4,3,0,2] ?_;apply Zb 5 29 24 rfl
   . intro b d;have i:=sp b;refine rn [1,0] ?_;refine aU call155 (Ik (s:=nm)) ?_;refine Zi (bO rfl) ?_;refine oo 1 ?_;exact Zz d ⟨orF b,Zw⟩
   . intro b d;have i:=sp b;refine oo 5 ?_;exact Zz d ⟨orT b,Zw⟩
   refine oo 1 ?_;refine Zd [30,5,4,3,0,2] ?_;apply Zb 9 39 30 rfl
   . intro b d;have i:=sp b;refine oo 3 ?_;refine Zd [33,30,5,4,3,0,2] ?_;apply Zt 5 38 33 rfl
     . intro e g;have l:=sp e;refine rn [1,0,3] ?_;exact Zz g ⟨Ws e,Zw⟩
     . intro e g;have l:=sp e;refine oo 5 ?_;exact Zz g ⟨Wo e,Zw⟩
     refine oo 1 ?_;exact Zz d ⟨orF b,Zw⟩
   . intro b d;have i:=sp b;refine oo 9 ?_;exact Zz d ⟨orT b,Zw⟩
   refine oo 1 ?_;refine Zd [40,5,4,3,0,2] ?_;apply Zb 4 44 40 rfl
   . intro b d;have i:=sp b;refine rn [1,0,2] ?_;exact Zz d ⟨orF b,Zw⟩
   . intro b d;have i:=sp b;refine oo 4 ?_;exact Zz d ⟨orT b,Zw⟩
   refine oo 1 ?_;refine Zd [45,5,4,3,0,2] ?_;apply Zb 4 49 45 rfl
   . intro b d;have i:=sp b;refine rn [1,0,2] ?_;exact Zz d ⟨orF b,Zw⟩
   . intro b d;have i:=sp b;refine oo 4 ?_;exact Zz d ⟨orT b,Zw⟩
   refine oo 1 ?_;refine Zd [50,5,4,3,0,2] ?_;apply Zb 8 58 50 rfl
   . intro b d;have i:=sp b;refine oo 3 ?_;refine Zd [53,50,5,4,3,0,2] ?_;apply Zt 4 57 53 rfl
     . intro e g;have l:=sp e;refine rn [1,0,2] ?_;exact Zz g ⟨Ws e,Zw⟩
     . intro e g;have l:=sp e;refine oo 4 ?_;exact Zz g ⟨Wo e,Zw⟩
     refine oo 1 ?_;exact Zz d ⟨orF b,Zw⟩
   . intro b d;have i:=sp b;refine oo 8 ?_;exact Zz d ⟨orT b,Zw⟩
   refine oo 1 ?_;refine Zd [59,5,4,3,0,2] ?_;apply Zb 16 75 59 rfl
   . intro b d;have i:=sp b;refine oo 3 ?_;refine Zd [62,59,5,4,3,0,2] ?_;apply Zt 3 65 62 rfl
     . intro e g;have l:=sp e;refine oo 3 ?_;exact Zz g ⟨Ws e,Zw⟩
     . intro e g;have l:=sp e;refine oo 3 ?_;exact Zz g ⟨Wo e,Zw⟩
     refine oo 1 ?_;refine Zd [66,59,5,4,3,0,2] ?_;apply Zt 3 69 66 rfl
     . intro e g;have l:=sp e;refine oo 3 ?_;exact Zz g ⟨Ws e,Zw⟩
     . intro e g;have l:=sp e;refine oo 3 ?_;exact Zz g ⟨Wo e,Zw⟩
     refine oo 1 ?_;refine Zd [70,59,5,4,3,0,2] ?_;apply Zt 4 74 70 rfl
     . intro e g;have l:=sp e;refine rn [1,0,2] ?_;exact Zz g ⟨Ws e,Zw⟩
     . intro e g;have l:=sp e;refine oo 4 ?_;exact Zz g ⟨Wo e,Zw⟩
     refine oo 1 ?_;exact Zz d ⟨orF b,Zw⟩
   . intro b d;have i:=sp b;refine oo 16 ?_;exact Zz d ⟨orT b,Zw⟩
   refine oo 1 ?_;refine Zd [76,4,3,0,2] ?_;apply Zb 5 81 76 rfl
   . intro b d;have i:=sp b;refine rn [1,0] ?_;refine aU call156 ((may_ok _).2 j ba bc 1 (aY _) (hK.le leA)) ?_;refine Zi (bO rfl) ?_;refine oo 1 ?_;exact Zz d ⟨orF b,Zw⟩
   . intro b d;have i:=sp b;refine oo 5 ?_;exact Zz d ⟨orT b,Zw⟩
   refine ox 1 ?_;refine dH 81 rfl ?_ ?_<;>intro y
   . have d1:PDec.bad (Dec.er ⟨k,ln,cl,nm,z,j,ba,bc⟩)=true:=by unfold PDec.bad Xn;simp only [Dec.er,u];first|exact y|(rw [<-y];simp only [fB,eT];rfl)
     refine xx 5 ?_;refine Zq (q) func117 (Zh results117 rfl) ⟨_,rfl,by rw [hD,p,d1];rfl,rfl⟩
   have d1:PDec.bad (Dec.er ⟨k,ln,cl,nm,z,j,ba,bc⟩)=false:=by unfold PDec.bad Xn;simp only [Dec.er,u];first|exact y|(rw [<-y];simp only [fB,eT];rfl)
   refine xx 8 ?_;refine aZ (ih (s+1,_) ⟨by dsimp only;omega,rfl,by rw [hD,p,d1];rfl⟩ (by dsimp only;omega)) Zg leA
 obtain rfl:s=m.length:=by omega
 refine xx 6 ?_;refine Zq (q) func117 (Zh results117 rfl) ⟨_,rfl,by rw [hD,dN];rfl,rfl⟩
end
structure PTh where
 nm:ByteArray
 loc:Int
 body:List PStm
structure Nm where
 t:ByteArray
 k:Int
 s:Int
structure Fnd where
 vars:List Int
 arrs:List Int
 mu:Int
 co:Int
 chs:List Int
 ths:List PTh
 main:Int
 stm:Int
 nv:List ByteArray
 na:List ByteArray
 nm:List ByteArray
 nc:List ByteArray
 nh:List ByteArray
 names:List Nm
 cells:Int
 locals:Int
 most:Int
 flaw:Int
variable {g:Fnd}
def Fnd.z:Fnd:=⟨[], [],0,0, [], [],0,0, [], [], [], [], [], [],0,0,0,0⟩
def Mp (l:List Nm)(s:ByteArray):Nat->Nat
 |0=>0
 |k+1=>if ((l.map fun x=>bs x.t).getD k []==bs s)=true then k+1 else Mp l s k
def Fnd.at (f:Fnd)(s:ByteArray):Nat:=Mp f.names s f.names.length
def Fnd.fl (f:Fnd)(why:Int):Fnd:=if f.flaw=0 then { f with flaw:=why } else f
def Fnd.decl1 (f:Fnd)(d:PDec):Fnd×Int×Bool:=
 if d.k=1 then (if d.n< -2147483648\/2147483647<d.n then (f.fl 134,0,false) else ({ f with vars:=f.vars++ [d.n],nv:=f.nv++ [d.nm] },f.vars.length,true))
 else if d.k=2 then (if (d.n<1\/256<d.n)\/256<f.cells+d.n then (f.fl 134,0,false) else ({ f with cells:=f.cells+d.n,arrs:=f.arrs++ [d.n],na:=f.na++ [d.nm] },f.arrs.length,true))
 else if d.k=3 then ({ f with mu:=f.mu+1,nm:=f.nm++ [d.nm] },f.mu,true)
 else if d.k=4 then ({ f with co:=f.co+1,nc:=f.nc++ [d.nm] },f.co,true)
 else if d.k=5 then (if d.n<1\/16<d.n then (f.fl 134,0,false) else ({ f with chs:=f.chs++ [d.n],nh:=f.nh++ [d.nm] },f.chs.length,true))
 else if d.k=6 then ({ f with ths:=f.ths++ [⟨d.nm,0, []⟩] },f.ths.length,true)
 else (f,0,true)
def Fnd.decl (f:Fnd)(d:PDec):Fnd:=
 if f.at d.nm≠0 then f.fl 130
 else if (f.decl1 d).2.2=false then (f.decl1 d).1
 else if 64<=(f.decl1 d).1.names.length then (f.decl1 d).1.fl 134
 else { (f.decl1 d).1 with names:=(f.decl1 d).1.names++ [⟨d.nm,d.k,(f.decl1 d).2.1⟩] }
def Fnd.wants (f:Fnd)(s:ByteArray)(a b:Int):Fnd×Int×Int:=
 match f.at s with
 |0=>(f.fl 131,0,0)
 |i+1=>let x:=(f.names.map fun x=>(x.k,x.s)).getD i (0,0)
  if (x.1 !=a && x.1 !=b)=true then (f.fl 132,0,0) else (f,x)
mutual
def Fnd.expr (f:Fnd):PEx->Fnd×PEx
 | .mk k n nm slot loc op args=>
  if k=2 then ((Fnd.exprs (f.wants nm 1 100).1 args).1,.mk k n nm (f.wants nm 1 100).2.2 ((f.wants nm 1 100).2.1==100) op (Fnd.exprs (f.wants nm 1 100).1 args).2)
  else if k=3 then ((Fnd.exprs (f.wants nm 2 2).1 args).1,.mk k n nm (f.wants nm 2 2).2.2 loc op (Fnd.exprs (f.wants nm 2 2).1 args).2)
  else ((Fnd.exprs f args).1,.mk k n nm slot loc op (Fnd.exprs f args).2)
def Fnd.exprs (f:Fnd):List PEx->Fnd×List PEx
 | []=>(f, [])
 |e::r=>((Fnd.exprs (f.expr e).1 r).1,(f.expr e).2::(Fnd.exprs (f.expr e).1 r).2)
end
def Kt (k:Int):Int×Int:=if k=2 then (1,100) else if k=3 then (2,2) else if k=6\/k=7 then (3,3) else if k=8\/k=9\/k=10 then (4,4) else if k=11\/k=12 then (5,5) else if k=13 then (6,6) else (0,0)
def Fnd.own1 (f:Fnd)(k:Int)(nm:ByteArray)(slot:Int)(loc:Bool):Fnd×Int×Bool:=
 if (Kt k).1≠0 then ((f.wants nm (Kt k).1 (Kt k).2).1,(f.wants nm (Kt k).1 (Kt k).2).2.2,(f.wants nm (Kt k).1 (Kt k).2).2.1==100) else (f,slot,loc)
def Fnd.loc1 (g:Fnd)(nm:ByteArray):Fnd:=if g.at nm≠0 then g.fl 130 else g
def Fnd.loc2 (g:Fnd):Fnd:=if 32<=g.locals then g.fl 134 else g
def Fnd.loc3 (g:Fnd)(nm:ByteArray):Fnd:= { g with names:=g.names++ [⟨nm,100,g.locals⟩],locals:=g.locals+1,most:=max g.most (g.locals+1) }
def Fnd.own2 (g:Fnd)(k:Int)(nm wt:ByteArray)(sl other:Int)(lo:Bool):Fnd×Int×Int×Bool:=
 if k=1 then ((g.loc1 nm).loc2.loc3 nm,(g.loc1 nm).loc2.locals,other,true)
 else if k=8 then ((g.wants wt 3 3).1,sl,(g.wants wt 3 3).2.2,lo)
 else if k=12 then ((g.wants wt 1 100).1,sl,(g.wants wt 1 100).2.2,(g.wants wt 1 100).2.1==100)
 else (g,sl,other,lo)
def Fnd.own (f:Fnd)(k:Int)(nm wt:ByteArray)(slot other:Int)(loc:Bool):Fnd×Int×Int×Bool:=
 Fnd.own2 (f.own1 k nm slot loc).1 k nm wt (f.own1 k nm slot loc).2.1 other (f.own1 k nm slot loc).2.2
mutual
def Fnd.stmt (f:Fnd):PStm->Fnd×PStm
 | .mk k ln cl nm wt e ix body els id slot other loc=>
  if 512<=f.stm then (f.fl 134,.mk k ln cl nm wt e ix body els id slot other loc)
  else
   let f1:=Fnd.expr { f with stm:=f.stm+1 } ix
   let f2:=Fnd.expr f1.1 e
   let f3:=Fnd.own f2.1 k nm wt slot other loc
   let f4:=Fnd.blk f3.1 body
   let f5:=Fnd.blk { f4.1 with names:=f3.1.names,locals:=f3.1.locals } els
   ({ f5.1 with names:=f3.1.names,locals:=f3.1.locals },.mk k ln cl nm wt f2.2 f1.2 f4.2 f5.2 f.stm f3.2.1 f3.2.2.1 f3.2.2.2)
/-- The statements of a block, as long as there is no flaw (names are not let go of here). -/
def Fnd.blk (f:Fnd):List PStm->Fnd×List PStm
 | []=>(f, [])
 |s::r=>if f.flaw=0 then ((Fnd.blk (f.stmt s).1 r).1,(f.stmt s).2::(Fnd.blk (f.stmt s).1 r).2) else (f, [])
end
def Fnd.block (f:Fnd)(l:List PStm):Fnd×List PStm:=({ (f.blk l).1 with names:=f.names,locals:=f.locals },(f.blk l).2)
def Fnd.decls (f:Fnd):List PDec->Fnd
 | []=>f
 |d::r=>if f.flaw=0 then Fnd.decls (f.decl d) r else f
def Fnd.bodies (f:Fnd)(i:Nat):List (List PStm)->Fnd
 | []=>f
 |b::r=>if f.flaw=0 then
  let g:=Fnd.block { f with most:=0 } b
  Fnd.bodies { g.1 with ths:=g.1.ths.set i ⟨(g.1.ths.getD i ⟨em,0, []⟩).nm,g.1.most,g.2⟩ } (i+1) r
  else f
def Jr:ByteArray:=⟨#[109,97,105,110]⟩
def Ej (ds:List PDec):Option Fnd:=
 if ds.any PDec.bad=true then none else
 let f:=Fnd.decls .z ds
 let f1:=if f.flaw=0/\(f.at Jr=0\/((f.names.map (·.k)).getD (f.at Jr - 1) 0)≠6) then f.fl 133 else f
 let f2:=Fnd.bodies f1 0 ((ds.filter fun d=>d.k==6).map (·.body))
 if f2.flaw≠0 then none else some { f2 with main:=(f2.names.map (·.s)).getD (f.at Jr - 1) 0 }
def Hg (l:Bs):Option Fnd:=match J7 l with
 |none=>none
 |some ds=>Ej ds
structure Sv (α:Type) where
 l:List α
 a:Option Addr
 c:Nat
variable {x:Sv Int}{y:Sv ByteArray}
def Sv.v {α:Type}(x:Sv α):Value:= .slice x.a x.l.length x.c
def Sv.z {α:Type}:Sv α:=⟨[],none,0⟩
structure Th where
 nm:ByteArray
 loc:Int
 body:List Stm
 a:Option Addr
 c:Nat
def nmC (x:Nm):List Value:= [.string x.t,I64 x.k,I64 x.s]
def thC (x:Th):List Value:= [.string x.nm,I64 x.loc,.slice x.a x.body.length x.c]
def Th.er (x:Th):PTh:=⟨x.nm,x.loc,Zk x.body⟩
structure FC where
 vars:Sv Int
 arrs:Sv Int
 mu:Int
 co:Int
 chs:Sv Int
 ths:Sv Th
 main:Int
 stm:Int
 nv:Sv ByteArray
 na:Sv ByteArray
 nm:Sv ByteArray
 nc:Sv ByteArray
 nh:Sv ByteArray
 names:Sv Nm
 cells:Int
 locals:Int
 most:Int
 pl:Int
 pc:Int
 flaw:Int
variable {f:FC}
def fcC (f:FC):List Value:= [f.vars.v,f.arrs.v,I64 f.mu,I64 f.co,f.chs.v,f.ths.v,I64 f.main,I64 f.stm,f.nv.v,f.na.v,f.nm.v,f.nc.v,f.nh.v,f.names.v,I64 f.cells,I64 f.locals,I64 f.most,I64 f.pl,I64 f.pc,I64 f.flaw]
def FC.er (f:FC):Fnd:=⟨f.vars.l,f.arrs.l,f.mu,f.co,f.chs.l,f.ths.l.map Th.er,f.main,f.stm,f.nv.l,f.na.l,f.nm.l,f.nc.l,f.nh.l,f.names.l,f.cells,f.locals,f.most,f.flaw⟩
def iC (x:Int):List Value:= [I64 x]
def sC (x:ByteArray):List Value:= [.string x]
def Sv.At {α:Type}(M:Hp)(f:α->List Value)(x:Sv α):Prop:=SlAt M x.a x.c x.l.length (x.l.flatMap f)
theorem Sv.At.mono {α:Type}{f:α->List Value}{x:Sv α}(e:Hle M M')(h:x.At M f):x.At M' f:=iE e h
def Ths.At (M:Hp)(l:List Th):Prop:= ∀ x∈l,BlkAt M x.a x.c x.body
structure FC.At (M:Hp) (f:FC):Prop where
 vars:f.vars.At M iC
 arrs:f.arrs.At M iC
 chs:f.chs.At M iC
 ths:f.ths.At M thC
 bod:Ths.At M f.ths.l
 nv:f.nv.At M sC
 na:f.na.At M sC
 nm:f.nm.At M sC
 nc:f.nc.At M sC
 nh:f.nh.At M sC
 names:f.names.At M nmC
theorem FC.At.mono (e:Hle M M')(h:f.At M):f.At M':=⟨h.vars.mono e,h.arrs.mono e,h.chs.mono e,h.ths.mono e,fun x hx=>(h.bod x hx).mono e,h.nv.mono e,h.na.mono e,h.nm.mono e,h.nc.mono e,h.nh.mono e,h.names.mono e⟩
def fcM (f:FC):HP:=lst (fun M=>f.At M) fun e h=>FC.At.mono e h
def svM {α:Type}(f:α->List Value)(x:Sv α):HP:=lst (fun M=>x.At M f) fun e h=>Sv.At.mono e h
section
variable {α:Type}{g:α->List Value}{x:Sv α}
theorem Kn.fc:Kn (fcM f::q) fun M=>f.At M:=fR
abbrev kB:=@Kn.fc
theorem Sv.sees (h:Kn q fun M=>x.At M g):Sees q x.a (x.l.flatMap g):=eL (h.imp fun M h=>h.2.2)
abbrev bV:=@Sv.sees
theorem Sv.len (h:Kn q fun M=>x.At M g)(s:St G w q):x.l.length<=9223372036854775807:=h.fact (fun M h=>by have b:=h.1;have a:=h.2.1;simp [maxLen] at a;omega) s
theorem Rw (M:Hp):(Sv.z:Sv α).At M g:=SlAt.nil M
theorem Z5 (l:List Int):l.flatMap iC=l.map (Value.int .i64):=by induction l with
 |nil=>rfl
 |cons x r ih=>rw [cP,ih];rfl
theorem Ua (l:List ByteArray):l.flatMap sC=l.map Value.string:=by induction l with
 |nil=>rfl
 |cons x r ih=>rw [cP,ih];rfl
end
def Fnd.le (N:Nat)(f:Fnd):Prop:=f.vars.length<=N/\f.arrs.length<=N/\f.chs.length<=N/\f.ths.length<=N/\f.nv.length<=N/\f.na.length<=N/\f.nm.length<=N/\f.nc.length<=N/\f.nh.length<=N/\f.names.length<=N/\(0<=f.mu/\f.mu<=N)/\(0<=f.co/\f.co<=N)/\(0<=f.cells/\f.cells<=256)
theorem Hn {l:List Nm}{s:ByteArray}: ∀ {k:Nat},Mp l s k<=k
 |0=>aY _
 |k+1=>by unfold Mp;split;exact aY _;exact Nat.le_succ_of_le Hn
section
variable {r:List HP}{ops lo:List Oper}{α:Type}{f:α->List Value}{fe:α->Value}{sz ty:Nat}{a b:Option Addr}{c c':Nat}{l m:List α}{f':α->List Value}
theorem Dx {d:Option Tmp}{ty':TypeId}{pos:String}{af:Array Edge}{gd:Option (Nat×Bool)}{x y:Operand}{t:TypeId}{z:Value}{bytes:Nat}(ht:P.underlying t=some (.slice ty))(hi:(P.info? ty).map (fun i=>(i.zero,i.size,i.bytes))=some (some z,sz,bytes))(hz:z.cells.size=sz)(hsz:Nat.blt 0 sz=true)(hf: ∀ x,(f x).length=sz)
 (hx:evp p x=some (.slice a l.length c)) (hy:evp p y=some (.slice b m.length c')) (hq:Le q (Wx.rsH f sz ty a c l::r)) (hs:Sees q b (m.flatMap f)) (h1: ∀ x,(f x).all (·.oneCell')=true)
 (h63:l.length+m.length<=9223372036854775807) (hby:(l.length+m.length)*bytes<=140737488355328) (E:List HP):
 Ef P G p (q++E) ⟨d,.call ⟨.builtin .append, [x,y].toArray, [t,t].toArray⟩,ty',pos,af,gd⟩ fun v q'=> ∃ q1,(∃ a' c',v= .slice a' (l++m).length c'/\q1=Wx.rsH f sz ty a' c' (l++m)::r)/\q'=q1++E:=by
 intro k w u s;obtain ⟨v,j,q',g,e,a',h,o,n⟩:=Zu (P:=P) (G:=G) (d:=d) (ty':=ty') (pos:=pos) (af:=af) (gd:=gd) (r:=r++E) ht hi hz hsz hf hx hy (hq.liftR E) (hs.le (Wf q E)) h1 h63 hby k w u s;exact ⟨v,j,q',g,e,_,⟨a',h,o,rfl⟩,n⟩
theorem W6 (hm: ∀ l:List α,l.flatMap f'=l.map fe)(K:X P G fr Q todo p ds cs (svM f' ⟨l,a,c⟩::q0))(hq:Le q (Wx.lsH fe ty a c l::q0):=by exact Zj):X P G fr Q todo p ds cs q:=by
 unfold Wx.lsH at hq;exact .frz (sz:=1) (ty:=ty) (n:=l.length) (vs:=l.map fe) (Kn.here.imp fun M h=>by show SlAt M a c l.length (l.flatMap f');rw [hm];exact h) K hq
theorem Mc (K:X P G fr Q todo p ds cs (svM f ⟨l,a,c⟩::q0))(hq:Le q (Wx.rsH f sz ty a c l::q0):=by exact Zj):X P G fr Q todo p ds cs q:= .frzR fR K hq
theorem svK {x:Sv α}(h:Kn q fun M=>x.At M f:=by exact knA):Kn q fun M=>x.At M f:=h
end
section
variable {s:ByteArray}{why a b k:Int}
theorem Zjg (h:Kn q fun M=>f.At M):CallF prog G 119 [.agg (fcC f).toArray,.string s] (q) (Ret fun v q'=>v= I64 ((f.er.at s:Int) - 1)/\q'=q):=by
 refine aC func119 ntmps119 rfl fun F cs=> ?_;have u:Kn q fun M=>f.names.At M nmC:=h.imp fun M h=>h.names
 have n:=bV u;have b:=Zv (f:=nmC) (sz:=3) (fun _=>rfl) f.names.l;refine iJ (fun w s=>Sv.len (u.le leA) s) fun i=> ?_;obtain ⟨⟨a,na,o⟩,g⟩: ∃ x,f.names=x:=⟨_,rfl⟩;rw [g] at n b i;dsimp only at n b i;refine xo 2 ?_;refine Z0 fun p=> ?_
 refine rn [6,0] ?_;refine aM 7 (.slice na a.length o) rfl (by show f.names.v=_;rw [g];rfl) ?_;refine ox 5 ?_;refine aZ (cD (fun (k:Nat×Option Addr)=>k.1<=a.length/\Mp a s a.length=Mp a s k.1) (fun k=> [(5,I64 ((k.1:Int) - 1)),(2,pt p),(1,.string s),(4,I64 0)]) (fun k=>pto p (.cells (fcC f).toArray 240 (0,0))::(q++F)) (fun k=>k.1) (fun k e r=> ?_) (a.length,none) ⟨aY _,rfl⟩) Zg leA;try dsimp only at e r|-
 obtain ⟨z,c⟩:=e;obtain ⟨k,kx⟩:=k;dsimp only at*;refine xx 6 ?_;refine xp 11 ?_ ?_<;>intro h0
 . obtain ⟨k,rfl⟩: ∃ j,k=j+1:=⟨k - 1,by omega⟩;have m:k<a.length:=by omega
   refine cU 5 (Al k) rfl (bL (Value.int .i64) (by omega)) ?_;have d:Mp a s (k+1)=if (bs a[k].t==bs s)=true then k+1 else Mp a s k:=by rw [Mp,gD (by simpa using m)];simp
   refine rn [7,0] ?_;refine aM 15 (.slice na a.length o) rfl (by show f.names.v=_;rw [g];rfl) ?_;refine oo 1 ?_;refine Kw n (by rw [b];omega) fun b1 o1 e1=> ?_;subst e1;refine rn [2,0,3] ?_;refine xp 21 ?_ ?_<;>intro y
   . refine xx 6 ?_;refine Zq (q) func119 (Zh results119 rfl) ⟨_,rfl,by rw [show f.er.at s=Mp a s a.length by simp only [Fnd.at,FC.er,g],c,d,if_pos (sTr y)];congr 1;omega,rfl⟩
   refine xx 8 ?_;refine aZ (r (k,none) ⟨by dsimp only;omega,by rw [c,d,if_neg (by rw [sNe y];decide)]⟩ (by dsimp only;omega)) Zg leA
 obtain rfl:k=0:=by omega
 refine xx 6 ?_;refine Zq (q) func119 (Zh results119 rfl) ⟨_,rfl,by rw [show f.er.at s=Mp a s a.length by simp only [Fnd.at,FC.er,g],c];rfl,rfl⟩
theorem U9 (h:Kn q fun M=>f.At M):CallF prog G 120 [.agg (fcC f).toArray,I64 why,.agg (Bm pl pc).toArray] (q) (Ret fun v q'=> ∃ g:FC,v= .agg (fcC g).toArray/\q'=fcM g::q/\g.er=f.er.fl why):=by
 refine aC func120 ntmps120 rfl fun F cs=> ?_;refine xo 2 ?_;refine Z0 fun d=> ?_
 refine Z0 fun c=> ?_
 refine bE zeroValue240 fun b=> ?_
 refine rn [5,0,2] ?_;refine xp 9 ?_ ?_<;>intro a
 . replace a:f.flaw=0:=a;refine rn [1,0,1,2,3,4,5,6,0,2,0,0,1] ?_;refine bK (q':=fcM { f with flaw:=why,pl:=pl,pc:=pc } ::_) (bY ((bU h).imp fun M h=>⟨h.vars,h.arrs,h.chs,h.ths,h.bod,h.nv,h.na,h.nm,h.nc,h.nh,h.names⟩)) ?_;refine Zq (fcM { f with flaw:=why,pl:=pl,pc:=pc } ::q) func120 (rA_ results120) ⟨_,rfl, { f with flaw:=why,pl:=pl,pc:=pc },rfl,rfl,by unfold Fnd.fl;rw [if_pos (show f.er.flaw=0 from a)];rfl⟩
 replace a: ¬f.flaw=0:=a;refine rn [4,0,0,1] ?_;refine bK (q':=fcM f::_) (bY (bU h)) ?_;refine Zq (fcM f::q) func120 (rA_ results120) ⟨_,rfl,f,rfl,rfl,by unfold Fnd.fl;rw [if_neg (show ¬f.er.flaw=0 from a)]⟩
theorem Pr:(prog.info? 2).map (fun i=>(i.zero,i.size,i.bytes))=some (some (I64 0),1,8):=by kernel_rfl
theorem Jb:(prog.info? 245).map (fun i=>(i.zero,i.size,i.bytes))=some (some (.agg #[.string ⟨#[]⟩,I64 0,I64 0]),3,32):=by kernel_rfl
theorem Rk:(prog.info? 55).map (fun i=>(i.zero,i.size,i.bytes))=some (some (.agg #[.string ⟨#[]⟩,I64 0,.slice none 0 0]),3,48):=by kernel_rfl
theorem wants_ok (h:Kn q fun M=>f.At M):CallF prog G 186 [.agg (fcC f).toArray,.string s,I64 a,I64 b,.agg [I64 pl,I64 pc].toArray] (q) (Ret fun v q'=> ∃ (g:FC) (x:Nm),v= .tuple [.agg (fcC g).toArray,.agg (nmC x).toArray].toArray/\q'=fcM g::q/\(g.er,x.k,x.s)=f.er.wants s a b):=by
 refine aC func186 ntmps186 rfl fun F cs=> ?_;have hN:Kn q fun M=>f.names.At M nmC:=h.imp fun M h=>h.names
 have p:=bV hN;have e:=Zv (f:=nmC) (sz:=3) (fun _=>rfl) f.names.l;obtain ⟨⟨d,na,r⟩,n⟩: ∃ x,f.names=x:=⟨_,rfl⟩;rw [n] at p e;dsimp only at p e;have a0:f.er.at s=Mp d s d.length:=by simp only [Fnd.at,FC.er,n]
 obtain ⟨W,c⟩: ∃ W,f.er.wants s a b=W:=⟨_,rfl⟩;rw [c];unfold Fnd.wants at c;refine xo 2 ?_;refine Z0 fun n1=> ?_
 refine Z0 fun n2=> ?_
 refine bE zeroValue240 fun n3=> ?_
 refine bE zeroValue245 fun n4=> ?_
 refine rn [3,0,1] ?_;refine aU call119 (Zjg (f:=f) (h.le leA)) ?_;refine ox 8 ?_;refine xp 17 ?_ ?_<;>intro h0
 . replace h0:f.er.at s=0:=by omega
   refine rn [3,0,0] ?_;refine Zx call120 (aD _) (U9 (f:=f) (h.le leA)) ?_;rintro _ _ ⟨g,rfl,rfl,t⟩;refine rn [1,0,0,1] ?_;rw [h0] at c;dsimp only at c;refine Zq (fcM g::q) func186 (Fa results186) ⟨_,rfl,g,⟨⟨#[]⟩,0,0⟩,rfl,rfl,by rw [<-c,t]⟩
 obtain ⟨i,z⟩: ∃ i,f.er.at s=i+1:=⟨f.er.at s - 1,by omega⟩;have j:i<d.length:=by have:=Hn (l:=d) (s:=s) (k:=d.length);omega
 refine cU 12 (I64 i) rfl (bL (Value.int .i64) (by omega)) ?_;refine rn [6,0] ?_;refine aM 23 (.slice na d.length r) rfl (by show f.names.v=_;rw [n];rfl) ?_;refine oo 1 ?_;refine Kw p (by rw [e];omega) fun b1 y e1=> ?_;subst e1;refine rn [2,0,3] ?_;refine Zd [30,12,11,10,9,5,3] ?_;apply Zt 9 39 30 rfl
 . intro o w;have u:=sp o;refine rn [1,0] ?_;refine aM 32 (.slice (some ⟨b1,y,none⟩) d.length r) rfl (by show f.names.v=_;rw [n];rfl) ?_;refine rn [3,0,3] ?_;exact Zz w ⟨Ws o,Zw⟩
 . intro o w;have u:=sp o;refine oo 9 ?_;exact Zz w ⟨Wo o,Zw⟩
 refine ox 1 ?_;refine xp 39 ?_ ?_<;>intro u
 . refine rn [3,0,0] ?_;refine Zx call120 (aD _) (U9 (f:=f) (h.le leA)) ?_;rintro _ _ ⟨g,rfl,rfl,t⟩;refine rn [1,0,0,1] ?_;rw [z] at c;dsimp only at c;rw [show ((f.er.names.map fun x=>(x.k,x.s)).getD i (0,0))=(d[i].k,d[i].s) by rw [show f.er.names=d by simp only [FC.er,n],gD (by simpa using j)];simp] at c;dsimp only at c;rw [if_pos (by simpa using u)] at c;refine Zq (fcM g::q) func186 (Fa results186) ⟨_,rfl,g,⟨⟨#[]⟩,0,0⟩,rfl,rfl,by rw [<-c,t]⟩
 refine rn [3,0,1,2,3] ?_;refine bW 46 (.slice (some ⟨b1,y,none⟩) d.length r) rfl (by show f.names.v=_;rw [n];rfl) ?_;refine dd [3,4] ?_;refine T3 5 (m:=i) isAgg245 sizeOf245 p j ?_;refine Zj5 6 ?_ (hh:=hlR);refine rn [8,0] ?_;rw [z] at c;dsimp only at c;rw [show ((f.er.names.map fun x=>(x.k,x.s)).getD i (0,0))=(d[i].k,d[i].s) by rw [show f.er.names=d by simp only [FC.er,n],gD (by simpa using j)];simp] at c;dsimp only at c;rw [if_neg (fun hx=>by simp at hx;omega)] at c;refine bK (q':=fcM f::_) (bY (bU h)) ?_;refine Zq (fcM f::q) func186 (Fa results186) ⟨_,rfl,f,d[i],rfl,rfl,c⟩
theorem want_ok:CallF prog G 185 [I64 k] (q) (Ret fun v q'=>v= .tuple [I64 (Kt k).1,I64 (Kt k).2].toArray/\q'=q):=by
 refine aC func185 ntmps185 rfl fun F cs=> ?_;refine xx 16 ?_;refine xp 5 ?_ ?_<;>intro j
 focus
  refine xx 6 ?_
 rotate_left
 focus
  refine xx 6 ?_;refine xp 7 ?_ ?_<;>intro i
  focus
   refine xx 6 ?_
  rotate_left
  focus
   refine xx 7 ?_;refine xp 9 ?_ ?_<;>intro h
   focus
    refine xx 8 ?_
   rotate_left
   focus
    refine xx 5 ?_;refine xp 9 ?_ ?_<;>intro g
    focus
     refine xx 6 ?_
    rotate_left
    focus
     refine xx 7 ?_;refine xp 12 ?_ ?_<;>intro f
     focus
      refine xx 8 ?_
     rotate_left
     focus
      refine xx 6 ?_;refine xp 12 ?_ ?_<;>intro e
      focus
       refine xx 8 ?_
      rotate_left
      focus
       refine xx 5 ?_;refine xp 12 ?_ ?_<;>intro d
       focus
        refine xx 6 ?_
       rotate_left
       focus
        refine xx 7 ?_;refine xp 16 ?_ ?_<;>intro c
        focus
         refine xx 8 ?_
        rotate_left
        focus
         refine xx 5 ?_;refine xp 16 ?_ ?_<;>intro b
         focus
          refine xx 6 ?_
         rotate_left
         focus
          refine xx 6 ?_;refine xp 19 ?_ ?_<;>intro a
          focus
           refine xx 6 ?_
          rotate_left
          focus
           refine xx 8 ?_
 all_goals
  refine Zq (q) func185 (Vq results185 rfl rfl) ⟨_,rfl,by unfold Kt;repeat (first|rw [if_pos (by omega)]|rw [if_neg (by omega)]),rfl⟩
end
theorem FC.At.v (h:f.At M)(h1:x.At M iC)(h2:y.At M sC):({ f with vars:=x,nv:=y } :FC).At M:=⟨h1,h.arrs,h.chs,h.ths,h.bod,h2,h.na,h.nm,h.nc,h.nh,h.names⟩
theorem FC.At.a {c:Int}(h:f.At M)(h1:x.At M iC)(h2:y.At M sC):({ f with cells:=c,arrs:=x,na:=y } :FC).At M:=⟨h.vars,h1,h.chs,h.ths,h.bod,h.nv,h2,h.nm,h.nc,h.nh,h.names⟩
theorem FC.At.m {c:Int}(h:f.At M)(h2:y.At M sC):({ f with mu:=c,nm:=y } :FC).At M:=⟨h.vars,h.arrs,h.chs,h.ths,h.bod,h.nv,h.na,h2,h.nc,h.nh,h.names⟩
theorem FC.At.c {M:Hp}{f:FC}{y:Sv ByteArray}{c:Int}(h:f.At M)(h2:y.At M sC):({ f with co:=c,nc:=y } :FC).At M:=⟨h.vars,h.arrs,h.chs,h.ths,h.bod,h.nv,h.na,h.nm,h2,h.nh,h.names⟩
theorem FC.At.h {M:Hp}{f:FC}{x:Sv Int}{y:Sv ByteArray}(h:f.At M)(h1:x.At M iC)(h2:y.At M sC):({ f with chs:=x,nh:=y } :FC).At M:=⟨h.vars,h.arrs,h1,h.ths,h.bod,h.nv,h.na,h.nm,h.nc,h2,h.names⟩
theorem FC.At.t {x:Sv Th}(h:f.At M)(h1:x.At M thC)(h2:Ths.At M x.l):({ f with ths:=x } :FC).At M:=⟨h.vars,h.arrs,h.chs,h1,h2,h.nv,h.na,h.nm,h.nc,h.nh,h.names⟩
theorem FC.At.n {x:Sv Nm}(h:f.At M)(h1:x.At M nmC):({ f with names:=x } :FC).At M:=⟨h.vars,h.arrs,h.chs,h.ths,h.bod,h.nv,h.na,h.nm,h.nc,h.nh,h1⟩
theorem svI (h:Kn q fun M=>x.At M iC):Sees q x.a (x.l.map I64):=by rw [<-Z5];exact bV h
theorem svS {x:Sv ByteArray}(h:Kn q fun M=>x.At M sC):Sees q x.a (x.l.map Value.string):=by rw [<-Ua];exact bV h
section
variable {d:Dec}
abbrev AF :=((.cells zz8.toArray 240 (0,0)):Obj)
theorem X6 (h:Kn q fun M=>f.At M)(hb:f.er.le 100000)(hk:1<=d.k/\d.k<=6)(hd: -2147483647<=d.n/\d.n<=2147483647):CallF prog G 118 [.agg (fcC f).toArray,.agg (dcC d).toArray] (q) (Ret fun v q'=> ∃ g:FC,v= .agg (fcC g).toArray/\q'=fcM g::q/\g.er=f.er.decl d.er):=by
 refine aC func118 ntmps118 rfl fun F cs=> ?_;obtain ⟨k,ln,cl,nm,z,b0,ba,bc⟩:=d;dsimp only at hk hd;obtain ⟨b1,a1,z0,j0,y0,x0,w0,v0,u0,r,⟨p0,o0⟩,⟨n0,m0⟩,l0,k0⟩:=hb;dsimp only [FC.er] at b1 a1 z0 j0 y0 x0 w0 v0 u0 r p0 o0 n0 m0 l0 k0;rw [aG] at j0;obtain ⟨R,w⟩: ∃ R,f.er.decl (Dec.er ⟨k,ln,cl,nm,z,b0,ba,bc⟩)=R:=⟨_,rfl⟩;rw [w];obtain ⟨D,i⟩: ∃ D,f.er.decl1 ⟨k,ln,cl,nm,z,Zk b0⟩=D:=⟨_,rfl⟩;replace w:(if f.er.at nm≠0 then f.er.fl 130 else if D.2.2=false then D.1 else if 64<=D.1.names.length then D.1.fl 134 else { D.1 with names:=D.1.names++ [⟨nm,k,D.2.1⟩] })=R:=by rw [<-i];exact w
 refine xo 2 ?_;refine Z0 fun n1=> ?_
 refine Z0 fun n2=> ?_
 refine bE zeroValue240 fun n3=> ?_
 refine rn [4,0,1,0] ?_;refine aU call119 (Zjg (f:=f) (h.le leA)) ?_;refine ox 2 ?_;refine xp 10 ?_ ?_<;>intro h0
 . rw [if_pos (show f.er.at nm≠0 by omega)] at w;refine rn [3,0,1,0] ?_;refine Zx call120 (aD _) (U9 (f:=f) (h.le leA)) ?_;rintro _ _ ⟨g,rfl,rfl,hg⟩;refine rn [0,1] ?_;refine Zq (fcM g::q) func118 (rA_ results118) ⟨_,rfl,g,rfl,rfl,hg.trans w⟩
 rw [if_neg (show ¬f.er.at nm≠0 by omega)] at w;unfold Fnd.decl1 at i;dsimp only at i;refine rn [10,0,1] ?_;refine jI (fun (x:FC×Int)=> [(5,I64 x.2),(2,pt n1),(3,pt n2),(4,pt n3)]) (fun x=>fcM x.1::pto n1 (.cells (fcC x.1).toArray 240 (0,0))::pto n2 (.cells (dcC ⟨k,ln,cl,nm,z,b0,ba,bc⟩).toArray 229 (0,0))::pto n3 AF::(q++F)) (fun x=>D=(x.1.er,x.2,true)/\x.1.names.l.length<=100000) (fun x i0=> ?_) fun K=> ?_
 . obtain ⟨g,n⟩:=x;dsimp only at i0|-;obtain ⟨s0,c1⟩:=i0;rw [s0] at w;dsimp only at w;rw [if_neg (show ¬true=false by decide)] at w;refine rn [4,0,3] ?_;refine xp 217 ?_ ?_<;>intro h1
   . rw [if_pos (show 64<=g.er.names.length by simp only [FC.er];omega)] at w;refine rn [3,0,1,0] ?_;refine Zx call120 (aD _) (U9 (f:=g) knA) ?_;rintro _ _ ⟨g2,rfl,rfl,hg⟩;refine rn [0,1] ?_;refine Zq (fcM g2::q) func118 (rA_ results118) ⟨_,rfl,g2,rfl,rfl,hg.trans w⟩
   rw [if_neg (show ¬64<=g.er.names.length by simp only [FC.er];omega)] at w;refine rn [3,0,1,2,4,5,6,7,8,9] ?_;refine fP (q':=rsH nmC 3 245 none 0 ([])::_) (Zm nmC 3 245 _) ?_;refine Z7 (fl:= [⟨9,231,fun g=> .slice (some ⟨g,0,none⟩) 1 1,fun g=>rsH nmC 3 245 (some ⟨g,0,none⟩) 1 ([⟨nm,k,n⟩])⟩]) ?_;refine gV 2 ⟨⟨_,rfl,rfl,rfl,rfl,rfl,rfl,fun q=>Zl (u:=⟨nm,k,n⟩) nmC underlying238 Jb rfl rfl (fun _=>rfl) rfl⟩,trivial⟩ (Dx (f:=nmC) (sz:=3) (l:= []) (m:=g.names.l) underlying238 Jb rfl rfl (fun _=>rfl) rfl rfl Zj (bV (kP (φ:=fun M=>g.At M) knA fun M h=>h.names)) (fun _=>rfl) (by simp;omega) (by simp;omega)) ?_;refine kk2 fun aa ac=> ?_
   refine Yn (e0:=⟨9,231,fun g=> .slice (some ⟨g,0,none⟩) 1 1,fun g=>rsH nmC 3 245 (some ⟨g,0,none⟩) 1 ([⟨nm,k,n⟩])⟩) (hnd:=by simp) 9 ⟨⟨_,rfl,rfl,rfl,rfl,rfl,rfl,fun q=>Zl (u:=⟨nm,k,n⟩) nmC underlying238 Jb rfl rfl (fun _=>rfl) rfl⟩,trivial⟩ fun gl=> ?_;change XF _ _ _ _ _ _ _ [] _ _ _ ((231,.slice (some ⟨gl,0,none⟩) 1 1)::_) _ _ (rsH nmC 3 245 (some ⟨gl,0,none⟩) 1 ([⟨nm,k,n⟩])::_);refine dO ?_;try rw [aN]
   refine dA 10 rfl (Zu (f:=nmC) (l:=g.names.l) (m:= [⟨nm,k,n⟩]) underlying238 Jb rfl rfl (fun _=>rfl) rfl rfl Zj ((aV _).le Zj) (fun _=>rfl) (by simp;omega) (by simp;omega)) ?_;refine kk2 fun g0 f0=> ?_
   refine rn [12,13,0,2,0,0,1] ?_;refine Mc ?_;refine bK (q':=fcM ({ g with names:=⟨g.names.l++ [⟨nm,k,n⟩],g0,f0⟩ } :FC)::_) (bY ((iD (φ:=fun M=>g.At M) knA (svK (x:=⟨_,g0,f0⟩) (f:=nmC))).imp fun M h=>FC.At.n h.1 h.2)) ?_;refine Zq (fcM ({ g with names:=⟨g.names.l++ [⟨nm,k,n⟩],g0,f0⟩ } :FC)::q) func118 (rA_ results118) ⟨_,rfl, { g with names:=⟨g.names.l++ [⟨nm,k,n⟩],g0,f0⟩ },rfl,rfl,w⟩
 have t0:k=1\/k=2\/k=3\/k=4\/k=5\/k=6:=by omega
 rcases t0 with rfl|rfl|rfl|rfl|rfl|rfl
 . rw [if_pos rfl] at i;refine rn [6,2017,5,0,7,0,2] ?_;refine Zd [26,5,4,3,2] ?_;apply Zb 4 30 26 rfl
   . intro s M1;have h1:=sp s;refine rn [1,0,2] ?_;exact Zz M1 ⟨orF s,Zw⟩
   . intro s M1;have h1:=sp s;refine oo 4 ?_;exact Zz M1 ⟨orT s,Zw⟩
   refine ox 1 ?_;refine xp 30 ?_ ?_<;>intro h1
   . refine rn [3,0,1,0] ?_;refine Zx call120 (aD _) (U9 (f:=f) (h.le leA)) ?_;rintro _ _ ⟨g,rfl,rfl,hg⟩;refine rn [0,1] ?_;rw [if_pos (by omega)] at i;rw [<-i,if_pos rfl] at w;refine Zq (fcM g::q) func118 (rA_ results118) ⟨_,rfl,g,rfl,rfl,hg.trans w⟩
   refine rn [3,0,1,2,3,5,6] ?_;refine fP (q':=lsH I64 2 none 0 ([])::_) (Zr _ _ _) ?_;refine Z7 (fl:= [⟨6,41,fun g=> .slice (some ⟨g,0,none⟩) 1 1,fun g=>lsH I64 2 (some ⟨g,0,none⟩) 1 ([z])⟩]) ?_;refine gV 3 ⟨⟨_,rfl,rfl,rfl,rfl,rfl,rfl,fun q=>Y6 I64 [z] underlying23 Pr rfl rfl rfl rfl rfl rfl (fun _=>rfl)⟩,trivial⟩ (Qj (fe:=I64) (l:= []) (m:=f.vars.l) underlying23 Pr rfl rfl rfl Zj (svI (bU (h.imp fun M h=>h.vars))) (fun _=>rfl) (by simp;omega) (by simp;omega)) ?_;refine kk2 fun d0 c0=> ?_
   refine Yn (e0:=⟨6,41,fun g=> .slice (some ⟨g,0,none⟩) 1 1,fun g=>lsH I64 2 (some ⟨g,0,none⟩) 1 ([z])⟩) (hnd:=by simp) 6 ⟨⟨_,rfl,rfl,rfl,rfl,rfl,rfl,fun q=>Y6 I64 [z] underlying23 Pr rfl rfl rfl rfl rfl rfl (fun _=>rfl)⟩,trivial⟩ fun j=> ?_;change XF _ _ _ _ _ _ _ [] _ _ _ ((41,.slice (some ⟨j,0,none⟩) 1 1)::_) _ _ (lsH I64 2 (some ⟨j,0,none⟩) 1 ([z])::_);refine dO ?_;try rw [aN]
   refine dA 7 rfl (Z6 (f:=I64) (l:=f.vars.l) (m:= [z]) underlying23 Pr rfl rfl rfl Zj ((bQ _).le Zj) (fun _=>rfl) (by simp;omega) (by simp;omega)) ?_;refine kk2 fun e b=> ?_
   refine rn [9,10,11,0,0,1,2,3,4,6,7] ?_;refine fP (q':=lsH Value.string 9 none 0 ([])::_) (Zr _ _ _) ?_;refine Z7 (fl:= [⟨7,52,fun g=> .slice (some ⟨g,0,none⟩) 1 1,fun g=>lsH Value.string 9 (some ⟨g,0,none⟩) 1 ([nm])⟩]) ?_;refine gV 4 ⟨⟨_,rfl,rfl,rfl,rfl,rfl,rfl,fun q=>Y6 Value.string [nm] underlying25 W9 rfl rfl rfl rfl rfl rfl (fun _=>rfl)⟩,trivial⟩ (Qj (fe:=Value.string) (l:= []) (m:=f.nv.l) underlying25 W9 rfl rfl rfl Zj (svS (bU (h.imp fun M h=>h.nv))) (fun _=>rfl) (by simp;omega) (by simp;omega)) ?_;refine kk2 fun r0 q0=> ?_
   refine Yn (e0:=⟨7,52,fun g=> .slice (some ⟨g,0,none⟩) 1 1,fun g=>lsH Value.string 9 (some ⟨g,0,none⟩) 1 ([nm])⟩) (hnd:=by simp) 7 ⟨⟨_,rfl,rfl,rfl,rfl,rfl,rfl,fun q=>Y6 Value.string [nm] underlying25 W9 rfl rfl rfl rfl rfl rfl (fun _=>rfl)⟩,trivial⟩ fun a0=> ?_;change XF _ _ _ _ _ _ _ [] _ _ _ ((52,.slice (some ⟨a0,0,none⟩) 1 1)::_) _ _ (lsH Value.string 9 (some ⟨a0,0,none⟩) 1 ([nm])::_);refine dO ?_;try rw [aN]
   refine dA 8 rfl (Z6 (f:=Value.string) (l:=f.nv.l) (m:= [nm]) underlying25 W9 rfl rfl rfl Zj ((bQ _).le Zj) (fun _=>rfl) (by simp;omega) (by simp;omega)) ?_;refine kk2 fun p o=> ?_
   refine rn [10,11,12,13,0,1] ?_;rw [if_neg (by omega)] at i;refine W6 (f':=iC) (fe:=I64) Z5 ?_;refine W6 (f':=sC) (fe:=Value.string) Ua ?_;refine bK (q':=fcM ({ f with vars:=⟨f.vars.l++ [z],e,b⟩,nv:=⟨f.nv.l++ [nm],p,o⟩ } :FC)::_) (bY ((iD (bU h) (iD (svK (x:=⟨f.vars.l++ [z],e,b⟩) (f:=iC)) (svK (x:=⟨f.nv.l++ [nm],p,o⟩) (f:=sC)))).imp fun M h=>FC.At.v h.1 h.2.1 h.2.2)) ?_;exact aZ (K (({ f with vars:=⟨f.vars.l++ [z],e,b⟩,nv:=⟨f.nv.l++ [nm],p,o⟩ } :FC),(f.vars.l.length:Int)) ⟨by first|(rw [<-i];done)|(rw [<-i];rfl)|(rw [<-i];simp only [FC.er,aT,aG];done)|(rw [<-i];simp only [FC.er,aT,aG];rfl),r⟩) Zg leA
 . rw [if_neg (by decide),if_pos rfl] at i;rw [show f.er.cells=f.cells from rfl] at i;refine rn [6,1017,6,2057,5,0,7,0,2] ?_;refine Zd [66,5,4,3,2] ?_;apply Zb 4 70 66 rfl
   . intro s M1;have h1:=sp s;refine rn [1,0,2] ?_;exact Zz M1 ⟨orF s,Zw⟩
   . intro s M1;have h1:=sp s;refine oo 4 ?_;exact Zz M1 ⟨orT s,Zw⟩
   refine oo 1 ?_;refine Zd [71,5,4,3,2] ?_;apply Zb 7 78 71 rfl
   . intro s M1;have h1:=sp s;refine rn [1,0,1,0,3] ?_;exact Zz M1 ⟨orF s,Zw⟩
   . intro s M1;have h1:=sp s;refine oo 7 ?_;exact Zz M1 ⟨orT s,Zw⟩
   refine ox 1 ?_;refine xp 78 ?_ ?_<;>intro h1
   . refine rn [3,0,1,0] ?_;refine Zx call120 (aD _) (U9 (f:=f) (h.le leA)) ?_;rintro _ _ ⟨g,rfl,rfl,hg⟩;refine rn [0,1] ?_;rw [if_pos (by omega)] at i;rw [<-i,if_pos rfl] at w;refine Zq (fcM g::q) func118 (rA_ results118) ⟨_,rfl,g,rfl,rfl,hg.trans w⟩
   refine rn [5,0,1,0,2,0,2,0,1,2,3,5,6] ?_;refine fP (q':=lsH I64 3 none 0 ([])::_) (Zr _ _ _) ?_;refine Z7 (fl:= [⟨6,95,fun g=> .slice (some ⟨g,0,none⟩) 1 1,fun g=>lsH I64 3 (some ⟨g,0,none⟩) 1 ([z])⟩]) ?_;refine gV 3 ⟨⟨_,rfl,rfl,rfl,rfl,rfl,rfl,fun q=>Y6 I64 [z] underlying22 Hs rfl rfl rfl rfl rfl rfl (fun _=>rfl)⟩,trivial⟩ (Qj (fe:=I64) (l:= []) (m:=f.arrs.l) underlying22 Hs rfl rfl rfl Zj (svI (bU (h.imp fun M h=>h.arrs))) (fun _=>rfl) (by simp;omega) (by simp;omega)) ?_;refine kk2 fun d0 c0=> ?_
   refine Yn (e0:=⟨6,95,fun g=> .slice (some ⟨g,0,none⟩) 1 1,fun g=>lsH I64 3 (some ⟨g,0,none⟩) 1 ([z])⟩) (hnd:=by simp) 6 ⟨⟨_,rfl,rfl,rfl,rfl,rfl,rfl,fun q=>Y6 I64 [z] underlying22 Hs rfl rfl rfl rfl rfl rfl (fun _=>rfl)⟩,trivial⟩ fun j=> ?_;change XF _ _ _ _ _ _ _ [] _ _ _ ((95,.slice (some ⟨j,0,none⟩) 1 1)::_) _ _ (lsH I64 3 (some ⟨j,0,none⟩) 1 ([z])::_);refine dO ?_;try rw [aN]
   refine dA 7 rfl (Z6 (f:=I64) (l:=f.arrs.l) (m:= [z]) underlying22 Hs rfl rfl rfl Zj ((bQ _).le Zj) (fun _=>rfl) (by simp;omega) (by simp;omega)) ?_;refine kk2 fun e b=> ?_
   refine rn [9,10,11,0,0,1,2,3,4,6,7] ?_;refine fP (q':=lsH Value.string 9 none 0 ([])::_) (Zr _ _ _) ?_;refine Z7 (fl:= [⟨7,106,fun g=> .slice (some ⟨g,0,none⟩) 1 1,fun g=>lsH Value.string 9 (some ⟨g,0,none⟩) 1 ([nm])⟩]) ?_;refine gV 4 ⟨⟨_,rfl,rfl,rfl,rfl,rfl,rfl,fun q=>Y6 Value.string [nm] underlying25 W9 rfl rfl rfl rfl rfl rfl (fun _=>rfl)⟩,trivial⟩ (Qj (fe:=Value.string) (l:= []) (m:=f.na.l) underlying25 W9 rfl rfl rfl Zj (svS (bU (h.imp fun M h=>h.na))) (fun _=>rfl) (by simp;omega) (by simp;omega)) ?_;refine kk2 fun r0 q0=> ?_
   refine Yn (e0:=⟨7,106,fun g=> .slice (some ⟨g,0,none⟩) 1 1,fun g=>lsH Value.string 9 (some ⟨g,0,none⟩) 1 ([nm])⟩) (hnd:=by simp) 7 ⟨⟨_,rfl,rfl,rfl,rfl,rfl,rfl,fun q=>Y6 Value.string [nm] underlying25 W9 rfl rfl rfl rfl rfl rfl (fun _=>rfl)⟩,trivial⟩ fun a0=> ?_;change XF _ _ _ _ _ _ _ [] _ _ _ ((106,.slice (some ⟨a0,0,none⟩) 1 1)::_) _ _ (lsH Value.string 9 (some ⟨a0,0,none⟩) 1 ([nm])::_);refine dO ?_;try rw [aN]
   refine dA 8 rfl (Z6 (f:=Value.string) (l:=f.na.l) (m:= [nm]) underlying25 W9 rfl rfl rfl Zj ((bQ _).le Zj) (fun _=>rfl) (by simp;omega) (by simp;omega)) ?_;refine kk2 fun p o=> ?_
   refine rn [10,11,12,13,0,1] ?_;rw [if_neg (by omega)] at i;refine W6 (f':=iC) (fe:=I64) Z5 ?_;refine W6 (f':=sC) (fe:=Value.string) Ua ?_;refine bK (q':=fcM ({ f with cells:=f.cells+z,arrs:=⟨f.arrs.l++ [z],e,b⟩,na:=⟨f.na.l++ [nm],p,o⟩ } :FC)::_) (bY ((iD (bU h) (iD (svK (x:=⟨f.arrs.l++ [z],e,b⟩) (f:=iC)) (svK (x:=⟨f.na.l++ [nm],p,o⟩) (f:=sC)))).imp fun M h=>FC.At.a h.1 h.2.1 h.2.2)) ?_;exact aZ (K (({ f with cells:=f.cells+z,arrs:=⟨f.arrs.l++ [z],e,b⟩,na:=⟨f.na.l++ [nm],p,o⟩ } :FC),(f.arrs.l.length:Int)) ⟨by first|(rw [<-i];done)|(rw [<-i];rfl)|(rw [<-i];simp only [FC.er,aT,aG];done)|(rw [<-i];simp only [FC.er,aT,aG];rfl),r⟩) Zg leA
 . rw [if_neg (by decide),if_neg (by decide),if_pos rfl] at i;refine rn [6,1017,6,1057,6,2111,5,0,6,0,3,0,1,0,1,2,3,4,6,7] ?_;refine fP (q':=lsH Value.string 9 none 0 ([])::_) (Zr _ _ _) ?_;refine Z7 (fl:= [⟨7,129,fun g=> .slice (some ⟨g,0,none⟩) 1 1,fun g=>lsH Value.string 9 (some ⟨g,0,none⟩) 1 ([nm])⟩]) ?_;refine gV 4 ⟨⟨_,rfl,rfl,rfl,rfl,rfl,rfl,fun q=>Y6 Value.string [nm] underlying25 W9 rfl rfl rfl rfl rfl rfl (fun _=>rfl)⟩,trivial⟩ (Qj (fe:=Value.string) (l:= []) (m:=f.nm.l) underlying25 W9 rfl rfl rfl Zj (svS (bU (h.imp fun M h=>h.nm))) (fun _=>rfl) (by simp;omega) (by simp;omega)) ?_;refine kk2 fun d0 c0=> ?_
   refine Yn (e0:=⟨7,129,fun g=> .slice (some ⟨g,0,none⟩) 1 1,fun g=>lsH Value.string 9 (some ⟨g,0,none⟩) 1 ([nm])⟩) (hnd:=by simp) 7 ⟨⟨_,rfl,rfl,rfl,rfl,rfl,rfl,fun q=>Y6 Value.string [nm] underlying25 W9 rfl rfl rfl rfl rfl rfl (fun _=>rfl)⟩,trivial⟩ fun j=> ?_;change XF _ _ _ _ _ _ _ [] _ _ _ ((129,.slice (some ⟨j,0,none⟩) 1 1)::_) _ _ (lsH Value.string 9 (some ⟨j,0,none⟩) 1 ([nm])::_);refine dO ?_;try rw [aN]
   refine dA 8 rfl (Z6 (f:=Value.string) (l:=f.nm.l) (m:= [nm]) underlying25 W9 rfl rfl rfl Zj ((bQ _).le Zj) (fun _=>rfl) (by simp;omega) (by simp;omega)) ?_;refine kk2 fun e b=> ?_
   refine rn [10,11,12,13,0,1] ?_;refine W6 (f':=sC) (fe:=Value.string) Ua ?_;refine bK (q':=fcM ({ f with mu:=f.mu+1,nm:=⟨f.nm.l++ [nm],e,b⟩ } :FC)::_) (bY ((iD (bU h) (svK (x:=⟨f.nm.l++ [nm],e,b⟩) (f:=sC))).imp fun M h=>FC.At.m h.1 h.2)) ?_;exact aZ (K (({ f with mu:=f.mu+1,nm:=⟨f.nm.l++ [nm],e,b⟩ } :FC),(f.mu:Int)) ⟨by first|(rw [<-i];done)|(rw [<-i];rfl)|(rw [<-i];simp only [FC.er,aT,aG];done)|(rw [<-i];simp only [FC.er,aT,aG];rfl),r⟩) Zg leA
 . rw [if_neg (by decide),if_neg (by decide),if_neg (by decide),if_pos rfl] at i;refine rn [6,1017,6,1057,6,1111,6,2134,5,0,6,0,3,0,1,0,1,2,3,4,6,7] ?_;refine fP (q':=lsH Value.string 9 none 0 ([])::_) (Zr _ _ _) ?_;refine Z7 (fl:= [⟨7,152,fun g=> .slice (some ⟨g,0,none⟩) 1 1,fun g=>lsH Value.string 9 (some ⟨g,0,none⟩) 1 ([nm])⟩]) ?_;refine gV 4 ⟨⟨_,rfl,rfl,rfl,rfl,rfl,rfl,fun q=>Y6 Value.string [nm] underlying25 W9 rfl rfl rfl rfl rfl rfl (fun _=>rfl)⟩,trivial⟩ (Qj (fe:=Value.string) (l:= []) (m:=f.nc.l) underlying25 W9 rfl rfl rfl Zj (svS (bU (h.imp fun M h=>h.nc))) (fun _=>rfl) (by simp;omega) (by simp;omega)) ?_;refine kk2 fun d0 c0=> ?_
   refine Yn (e0:=⟨7,152,fun g=> .slice (some ⟨g,0,none⟩) 1 1,fun g=>lsH Value.string 9 (some ⟨g,0,none⟩) 1 ([nm])⟩) (hnd:=by simp) 7 ⟨⟨_,rfl,rfl,rfl,rfl,rfl,rfl,fun q=>Y6 Value.string [nm] underlying25 W9 rfl rfl rfl rfl rfl rfl (fun _=>rfl)⟩,trivial⟩ fun j=> ?_;change XF _ _ _ _ _ _ _ [] _ _ _ ((152,.slice (some ⟨j,0,none⟩) 1 1)::_) _ _ (lsH Value.string 9 (some ⟨j,0,none⟩) 1 ([nm])::_);refine dO ?_;try rw [aN]
   refine dA 8 rfl (Z6 (f:=Value.string) (l:=f.nc.l) (m:= [nm]) underlying25 W9 rfl rfl rfl Zj ((bQ _).le Zj) (fun _=>rfl) (by simp;omega) (by simp;omega)) ?_;refine kk2 fun e b=> ?_
   refine rn [10,11,12,13,0,1] ?_;refine W6 (f':=sC) (fe:=Value.string) Ua ?_;refine bK (q':=fcM ({ f with co:=f.co+1,nc:=⟨f.nc.l++ [nm],e,b⟩ } :FC)::_) (bY ((iD (bU h) (svK (x:=⟨f.nc.l++ [nm],e,b⟩) (f:=sC))).imp fun M h=>FC.At.c h.1 h.2)) ?_;exact aZ (K (({ f with co:=f.co+1,nc:=⟨f.nc.l++ [nm],e,b⟩ } :FC),(f.co:Int)) ⟨by first|(rw [<-i];done)|(rw [<-i];rfl)|(rw [<-i];simp only [FC.er,aT,aG];done)|(rw [<-i];simp only [FC.er,aT,aG];rfl),r⟩) Zg leA
 . rw [if_neg (by decide),if_neg (by decide),if_neg (by decide),if_neg (by decide),if_pos rfl] at i;refine rn [6,1017,6,1057,6,1111,6,1134,6,2157,5,0,7,0,2] ?_;refine Zd [166,5,4,3,2] ?_;apply Zb 4 170 166 rfl
   . intro s M1;have h1:=sp s;refine rn [1,0,2] ?_;exact Zz M1 ⟨orF s,Zw⟩
   . intro s M1;have h1:=sp s;refine oo 4 ?_;exact Zz M1 ⟨orT s,Zw⟩
   refine ox 1 ?_;refine xp 170 ?_ ?_<;>intro h1
   . refine rn [3,0,1,0] ?_;refine Zx call120 (aD _) (U9 (f:=f) (h.le leA)) ?_;rintro _ _ ⟨g,rfl,rfl,hg⟩;refine rn [0,1] ?_;rw [if_pos (by omega)] at i;rw [<-i,if_pos rfl] at w;refine Zq (fcM g::q) func118 (rA_ results118) ⟨_,rfl,g,rfl,rfl,hg.trans w⟩
   refine rn [3,0,1,2,3,5,6] ?_;refine fP (q':=lsH I64 3 none 0 ([])::_) (Zr _ _ _) ?_;refine Z7 (fl:= [⟨6,181,fun g=> .slice (some ⟨g,0,none⟩) 1 1,fun g=>lsH I64 3 (some ⟨g,0,none⟩) 1 ([z])⟩]) ?_;refine gV 3 ⟨⟨_,rfl,rfl,rfl,rfl,rfl,rfl,fun q=>Y6 I64 [z] underlying22 Hs rfl rfl rfl rfl rfl rfl (fun _=>rfl)⟩,trivial⟩ (Qj (fe:=I64) (l:= []) (m:=f.chs.l) underlying22 Hs rfl rfl rfl Zj (svI (bU (h.imp fun M h=>h.chs))) (fun _=>rfl) (by simp;omega) (by simp;omega)) ?_;refine kk2 fun d0 c0=> ?_
   refine Yn (e0:=⟨6,181,fun g=> .slice (some ⟨g,0,none⟩) 1 1,fun g=>lsH I64 3 (some ⟨g,0,none⟩) 1 ([z])⟩) (hnd:=by simp) 6 ⟨⟨_,rfl,rfl,rfl,rfl,rfl,rfl,fun q=>Y6 I64 [z] underlying22 Hs rfl rfl rfl rfl rfl rfl (fun _=>rfl)⟩,trivial⟩ fun j=> ?_;change XF _ _ _ _ _ _ _ [] _ _ _ ((181,.slice (some ⟨j,0,none⟩) 1 1)::_) _ _ (lsH I64 3 (some ⟨j,0,none⟩) 1 ([z])::_);refine dO ?_;try rw [aN]
   refine dA 7 rfl (Z6 (f:=I64) (l:=f.chs.l) (m:= [z]) underlying22 Hs rfl rfl rfl Zj ((bQ _).le Zj) (fun _=>rfl) (by simp;omega) (by simp;omega)) ?_;refine kk2 fun e b=> ?_
   refine rn [9,10,11,0,0,1,2,3,4,6,7] ?_;refine fP (q':=lsH Value.string 9 none 0 ([])::_) (Zr _ _ _) ?_;refine Z7 (fl:= [⟨7,192,fun g=> .slice (some ⟨g,0,none⟩) 1 1,fun g=>lsH Value.string 9 (some ⟨g,0,none⟩) 1 ([nm])⟩]) ?_;refine gV 4 ⟨⟨_,rfl,rfl,rfl,rfl,rfl,rfl,fun q=>Y6 Value.string [nm] underlying25 W9 rfl rfl rfl rfl rfl rfl (fun _=>rfl)⟩,trivial⟩ (Qj (fe:=Value.string) (l:= []) (m:=f.nh.l) underlying25 W9 rfl rfl rfl Zj (svS (bU (h.imp fun M h=>h.nh))) (fun _=>rfl) (by simp;omega) (by simp;omega)) ?_;refine kk2 fun r0 q0=> ?_
   refine Yn (e0:=⟨7,192,fun g=> .slice (some ⟨g,0,none⟩) 1 1,fun g=>lsH Value.string 9 (some ⟨g,0,none⟩) 1 ([nm])⟩) (hnd:=by simp) 7 ⟨⟨_,rfl,rfl,rfl,rfl,rfl,rfl,fun q=>Y6 Value.string [nm] underlying25 W9 rfl rfl rfl rfl rfl rfl (fun _=>rfl)⟩,trivial⟩ fun a0=> ?_;change XF _ _ _ _ _ _ _ [] _ _ _ ((192,.slice (some ⟨a0,0,none⟩) 1 1)::_) _ _ (lsH Value.string 9 (some ⟨a0,0,none⟩) 1 ([nm])::_);refine dO ?_;try rw [aN]
   refine dA 8 rfl (Z6 (f:=Value.string) (l:=f.nh.l) (m:= [nm]) underlying25 W9 rfl rfl rfl Zj ((bQ _).le Zj) (fun _=>rfl) (by simp;omega) (by simp;omega)) ?_;refine kk2 fun p o=> ?_
   refine rn [10,11,12,13,0,1] ?_;rw [if_neg (by omega)] at i;refine W6 (f':=iC) (fe:=I64) Z5 ?_;refine W6 (f':=sC) (fe:=Value.string) Ua ?_;refine bK (q':=fcM ({ f with chs:=⟨f.chs.l++ [z],e,b⟩,nh:=⟨f.nh.l++ [nm],p,o⟩ } :FC)::_) (bY ((iD (bU h) (iD (svK (x:=⟨f.chs.l++ [z],e,b⟩) (f:=iC)) (svK (x:=⟨f.nh.l++ [nm],p,o⟩) (f:=sC)))).imp fun M h=>FC.At.h h.1 h.2.1 h.2.2)) ?_;exact aZ (K (({ f with chs:=⟨f.chs.l++ [z],e,b⟩,nh:=⟨f.nh.l++ [nm],p,o⟩ } :FC),(f.chs.l.length:Int)) ⟨by first|(rw [<-i];done)|(rw [<-i];rfl)|(rw [<-i];simp only [FC.er,aT,aG];done)|(rw [<-i];simp only [FC.er,aT,aG];rfl),r⟩) Zg leA
 rw [if_neg (by decide),if_neg (by decide),if_neg (by decide),if_neg (by decide),if_neg (by decide),if_pos rfl] at i;refine rn [6,1017,6,1057,6,1111,6,1134,6,1157,6,2197,5,0,3,0,1,2,3,5,6,7] ?_;refine fP (q':=rsH thC 3 55 none 0 ([])::_) (Zm thC 3 55 _) ?_;refine Z7 (fl:= [⟨7,210,fun g=> .slice (some ⟨g,0,none⟩) 1 1,fun g=>rsH thC 3 55 (some ⟨g,0,none⟩) 1 ([⟨nm,0, [],none,0⟩])⟩]) ?_;refine gV 3 ⟨⟨_,rfl,rfl,rfl,rfl,rfl,rfl,fun q=>Zl (u:=⟨nm,0, [],none,0⟩) thC underlying24 Rk rfl rfl (fun _=>rfl) rfl⟩,trivial⟩ (Dx (f:=thC) (sz:=3) (l:= []) (m:=f.ths.l) underlying24 Rk rfl rfl (fun _=>rfl) rfl rfl Zj (bV (bU (h.imp fun M h=>h.ths))) (fun _=>rfl) (by simp;omega) (by simp;omega)) ?_;refine kk2 fun d0 c0=> ?_
 refine Yn (e0:=⟨7,210,fun g=> .slice (some ⟨g,0,none⟩) 1 1,fun g=>rsH thC 3 55 (some ⟨g,0,none⟩) 1 ([⟨nm,0, [],none,0⟩])⟩) (hnd:=by simp) 7 ⟨⟨_,rfl,rfl,rfl,rfl,rfl,rfl,fun q=>Zl (u:=⟨nm,0, [],none,0⟩) thC underlying24 Rk rfl rfl (fun _=>rfl) rfl⟩,trivial⟩ fun j=> ?_;change XF _ _ _ _ _ _ _ [] _ _ _ ((210,.slice (some ⟨j,0,none⟩) 1 1)::_) _ _ (rsH thC 3 55 (some ⟨j,0,none⟩) 1 ([⟨nm,0, [],none,0⟩])::_);refine dO ?_;try rw [aN]
 refine dA 8 rfl (Zu (f:=thC) (l:=f.ths.l) (m:= [⟨nm,0, [],none,0⟩]) underlying24 Rk rfl rfl (fun _=>rfl) rfl rfl Zj ((aV _).le Zj) (fun _=>rfl) (by simp;omega) (by simp;omega)) ?_;refine kk2 fun e b=> ?_
 refine rn [10,11,12,0,1] ?_;refine Mc ?_;refine bK (q':=fcM ({ f with ths:=⟨f.ths.l++ [⟨nm,0, [],none,0⟩],e,b⟩ } :FC)::_) (bY ((iD (bU h) (svK (x:=⟨f.ths.l++ [⟨nm,0, [],none,0⟩],e,b⟩) (f:=thC))).imp fun M h=>FC.At.t h.1 h.2 (fun y hy=>by rcases aW.1 hy with hy|hy;exact h.1.bod y hy;rw [bJ.1 hy];exact ⟨SlAt.nil M,trivial⟩))) ?_;exact aZ (K (({ f with ths:=⟨f.ths.l++ [⟨nm,0, [],none,0⟩],e,b⟩ } :FC),(f.ths.l.length:Int)) ⟨by first|(rw [<-i];done)|(rw [<-i];rfl)|(rw [<-i];simp only [FC.er,aT,aG];done)|(rw [<-i];simp only [FC.er,aT,aG];rfl),r⟩) Zg leA
end
mutual
def PEx.thin:PEx->Prop
 | .mk _ _ _ _ _ _ args=>args.length<=2/\Hr args
def Hr:List PEx->Prop
 | []=>True
 |e::r=>e.thin/\Hr r
end
theorem Tf {x:PEx}: ∀ {l:List PEx},Hr l->x∈l->x.thin
 |y::r,⟨h1,h2⟩,h=>by
  rcases cO.1 h with rfl|h
  . exact h1
  exact Tf h2 h
mutual
theorem Kg: ∀ {e:PEx} {d:Nat},e.right d=true->e.thin
 | .mk k n nm _ _ op args,d,h=>by
  simp only [PEx.right] at h;split at h
  . cases h
  split at h
  . rw [aQ,aQ,bZ] at h;refine ⟨?_,Mt h.2⟩;have:=h.1.2;unfold Zz6 at this;split at this<;>(try split at this)<;>omega
  cases h
theorem Mt: ∀ {l:List PEx} {d:Nat},Wn l d=true->Hr l
 | [],_,_=>trivial
 |e::r,d,h=>by
  simp only [Wn,aQ] at h;exact ⟨Kg h.1,Mt h.2⟩
end
theorem Dq: ∀ {e:PEx},e.nil=true->e.thin
 | .mk k n nm _ _ op args,h=>by
  simp only [PEx.nil,aQ,bZ] at h;have a:=aP h.2;subst a;exact ⟨bC _,trivial⟩
theorem Zzq {l m:List Ex}(h:Ex.Ats M l)(k:Ex.Ats M m):Ex.Ats M (l++m):=Yr.2 fun x hx=>(aW.1 hx).elim (Yr.1 h x) (Yr.1 k x)
section
variable {a:Option Addr}{c:Nat}{l:List Ex}{kd n:Int}{op:Int}
theorem X.exs (h1:Le q (exsM l::q1))(h2:Le q1 (exM e::q2))(K:X P G fr Q todo p ds cs (exsM (l++ [e])::q2)):X P G fr Q todo p ds cs q:=by
 have a:Kn (exsM l::exM e::q2) fun M=>Ex.Ats M (l++ [e]):=((show Kn (exsM l::exM e::q2) fun M=>Ex.Ats M l from fR).and (Kn.there (show Kn (exM e::q2) fun M=>e.At M from fR))).imp fun M h=>Zzq h.1 ⟨h.2,trivial⟩
 exact .le ((h1.trans (dJ _ h2)).trans ((bY (mn:=fun e h=>iU e h) a).trans (dJ _ ((eM _ _).trans (eM _ _))))) K
theorem X.fzEs (K:X P G fr Q todo p ds cs (exM (.mk kd n nm slot loc op l a c)::q0))(hq:Le q (rsH exC 7 124 a c l::q0):=by exact Zj)(h:Kn q0 fun M=>Ex.Ats M l:=by exact knA):X P G fr Q todo p ds cs q:= .frzR (Kn.here.and h.there) K hq
end
theorem X3 (IH: ∀ (x:Ex),x.sz<e.sz->x.er.thin-> ∀ {f:FC} {pl pc:Int} {q:List HP},(Kn q fun M=>f.At M)->(Kn q fun M=>x.At M)->CallF prog G 184 [.agg (fcC f).toArray,.agg (exC x).toArray,.agg [I64 pl,I64 pc].toArray] q (Ret fun v q'=> ∃ (g:FC) (y:Ex),v= .tuple [.agg (fcC g).toArray,.agg (exC y).toArray].toArray/\q'=fcM g::exM y::q/\(g.er,y.er)=f.er.expr x.er))(hf:Kn q fun M=>f.At M)(h:Kn q fun M=>e.At M)(ht:e.er.thin):CallF prog G 184 [.agg (fcC f).toArray,.agg (exC e).toArray,.agg [I64 pl,I64 pc].toArray] (q) (Ret fun v q'=> ∃ (g:FC) (x:Ex),v= .tuple [.agg (fcC g).toArray,.agg (exC x).toArray].toArray/\q'=fcM g::exM x::q/\(g.er,x.er)=f.er.expr e.er):=by
 refine aC func184 ntmps184 rfl fun F cs=> ?_;obtain ⟨k,z,nm,sl,lo,op,d,aa,ac⟩:=e;have hA:=Zq3 h;have b0:=Zv (f:=exC) (sz:=7) Z2 d;have k0:d.length<=2:=by have:=ht.1;rw [Vf] at this;exact this
 have f0:Hr (Z9 d):=ht.2;obtain ⟨R,r⟩: ∃ R,f.er.expr (Ex.er (.mk k z nm sl lo op d aa ac))=R:=⟨_,rfl⟩;rw [r];simp only [Ex.er,Fnd.expr] at r;refine xo 2 ?_;refine Z0 fun n1=> ?_
 refine Z0 fun n2=> ?_
 refine Z0 fun n3=> ?_
 refine bE zeroValue240 fun n4=> ?_
 refine bE zeroValue124 fun n5=> ?_
 refine rn [5,0,1] ?_;refine jI (fun (x:FC×Int×Bool)=> [(3,pt n1),(4,pt n2),(5,pt n3),(6,pt n4),(7,pt n5)]) (fun x=>fcM x.1::pto n1 (.cells (fcC x.1).toArray 240 (0,0))::pto n2 (.cells (exC (.mk k z nm x.2.1 x.2.2 op d aa ac)).toArray 124 (0,0))::pto n3 (.cells [I64 pl,I64 pc].toArray 107 (0,0))::pto n4 (.cells zz8.toArray 240 (0,0))::pto n5 (.cells zz6.toArray 124 (0,0))::(q++F)) (fun x=>R=((Fnd.exprs x.1.er (Z9 d)).1,.mk k z nm x.2.1 x.2.2 op (Fnd.exprs x.1.er (Z9 d)).2)) (fun x a0=> ?_) fun K=> ?_
 . obtain ⟨g,o,p⟩:=x;dsimp only at a0|-;clear r;refine xx 10 ?_;refine aZ (cD (fun (s:FC×(Option Addr×Nat×List Ex)×Option Addr)=>s.2.1.2.2.length<=d.length/\s.2.2=aa/\R=((Fnd.exprs s.1.er (Z9 (d.drop s.2.1.2.2.length))).1,.mk k z nm o p op (Z9 s.2.1.2.2++(Fnd.exprs s.1.er (Z9 (d.drop s.2.1.2.2.length))).2))) (fun s=> [(12,.slice s.2.1.1 s.2.1.2.2.length s.2.1.2.1),(13,I64 (s.2.1.2.2.length:Int)),(3,pt n1),(4,pt n2),(5,pt n3),(6,pt n4),(7,pt n5)]) (fun s=>rsH exC 7 124 s.2.1.1 s.2.1.2.1 s.2.1.2.2::exsM s.2.1.2.2::fcM s.1::pto n1 (.cells (fcC s.1).toArray 240 (0,0))::pto n2 (.cells (exC (.mk k z nm o p op d s.2.2 ac)).toArray 124 (0,0))::pto n3 (.cells [I64 pl,I64 pc].toArray 107 (0,0))::pto n4 (.cells zz8.toArray 240 (0,0))::pto n5 (.cells zz6.toArray 124 (0,0))::(q++F)) (fun s=>d.length - s.2.1.2.2.length) (fun s c0 ih=> ?_) (g,(none,0, []),aa) ⟨bC _,rfl,a0⟩) Zg (bB leA (bB (Zm exC 7 124 _) (bB (bY (φ:=fun M=>Ex.Ats M []) (mn:=fun e h=>iU e h) (fun _ _ _=>trivial)) leA)));try dsimp only at c0 ih|-
   obtain ⟨l0,i0,d0⟩:=c0;obtain ⟨g,⟨a,c,i⟩,m0⟩:=s;dsimp only at*;subst i0;clear a0;refine rn [5,0,3] ?_;refine xp 54 ?_ ?_<;>intro h0
   . have t:i.length<d.length:=by omega
     obtain ⟨y,hy⟩: ∃ y,d[i.length]=y:=⟨_,rfl⟩;obtain ⟨k3,z3,s3,l3,o3,p3,y3,u3,w3⟩:=y;refine rn [5,0,1,2,3,4] ?_;refine H7 hA (by rw [b0];omega) fun b1 o1 e1=> ?_;subst e1;have b: ∀ (Q:List HP),Le Q q-> ∀ (j:Nat) (v:Value),nth (exC (.mk k3 z3 s3 l3 o3 p3 y3 u3 w3)) j=some v->Cl Q ⟨b1,o1+(i.length:Int).toNat*7+j,none⟩ v:=fun Q hQ j v hv=>cF hA hQ Z2 t rfl j v (by rw [hy,<-Us];exact hv)
     refine dd [4] ?_;refine iM 5 (us:=exC (.mk k3 z3 s3 l3 o3 p3 y3 u3 w3)) rfl rfl isAgg124 sizeOf124 rfl (fun k v hk=>b _ leA k v (by rw [Us];exact hk)) ?_;refine ldAD 6 ?_;refine Z7 (fl:= [⟨11,14,fun g=> pt g,fun g=>pto g (.cells zz8.toArray 240 (0,0))⟩,⟨12,15,fun g=> pt g,fun g=>pto g (.cells zz6.toArray 124 (0,0))⟩]) ?_;refine Ji 7 ⟨⟨_,rfl,rfl,rfl,rfl,rfl,rfl,fun q=>bA zeroValue240⟩,⟨_,rfl,rfl,rfl,rfl,rfl,rfl,fun q=>bA zeroValue124⟩,trivial⟩ call184 (aD _) (IH (.mk k3 z3 s3 l3 o3 p3 y3 u3 w3) (by have:=Wu (aA t);rw [hy] at this;simp only [Ex.sz] at this|-;omega) (by have:=Tf f0 (by rw [Yt];exact aX (aA t));rw [hy] at this;exact this) (f:=g) knA (bU (by have:=Zq2 h t;rw [hy] at this;exact this) leA)) ?_ (hL:=(hlA (h:=by repeat first|exact trivial|refine ⟨clA,?_⟩|refine ⟨b _ leA 0 _ rfl,?_⟩|refine ⟨b _ leA 1 _ rfl,?_⟩|refine ⟨b _ leA 2 _ rfl,?_⟩|refine ⟨b _ leA 3 _ rfl,?_⟩|refine ⟨b _ leA 4 _ rfl,?_⟩|refine ⟨b _ leA 5 _ rfl,?_⟩|refine ⟨b _ leA 6 _ rfl,?_⟩)));rintro _ _ ⟨g2,⟨k2,z2,s2,l2,o2,p2,y2,u2,w2⟩,rfl,rfl,j0⟩;refine ⟨(hlA (h:=by repeat first|exact trivial|refine ⟨clA,?_⟩|refine ⟨b _ leA 0 _ rfl,?_⟩|refine ⟨b _ leA 1 _ rfl,?_⟩|refine ⟨b _ leA 2 _ rfl,?_⟩|refine ⟨b _ leA 3 _ rfl,?_⟩|refine ⟨b _ leA 4 _ rfl,?_⟩|refine ⟨b _ leA 5 _ rfl,?_⟩|refine ⟨b _ leA 6 _ rfl,?_⟩)),?_⟩;refine Vl 8 ⟨⟨_,rfl,rfl,rfl,rfl,rfl,rfl,fun q=>bA zeroValue240⟩,⟨_,rfl,rfl,rfl,rfl,rfl,rfl,fun q=>bA zeroValue124⟩,trivial⟩ (jM rfl) ?_ (hL:=(hlA (h:=by repeat first|exact trivial|refine ⟨clA,?_⟩|refine ⟨b _ leA 0 _ rfl,?_⟩|refine ⟨b _ leA 1 _ rfl,?_⟩|refine ⟨b _ leA 2 _ rfl,?_⟩|refine ⟨b _ leA 3 _ rfl,?_⟩|refine ⟨b _ leA 4 _ rfl,?_⟩|refine ⟨b _ leA 5 _ rfl,?_⟩|refine ⟨b _ leA 6 _ rfl,?_⟩)));refine Vl 9 ⟨⟨_,rfl,rfl,rfl,rfl,rfl,rfl,fun q=>bA zeroValue240⟩,⟨_,rfl,rfl,rfl,rfl,rfl,rfl,fun q=>bA zeroValue124⟩,trivial⟩ (eB rfl rfl) ?_ (hL:=(hlA (h:=by repeat first|exact trivial|refine ⟨clA,?_⟩|refine ⟨b _ leA 0 _ rfl,?_⟩|refine ⟨b _ leA 1 _ rfl,?_⟩|refine ⟨b _ leA 2 _ rfl,?_⟩|refine ⟨b _ leA 3 _ rfl,?_⟩|refine ⟨b _ leA 4 _ rfl,?_⟩|refine ⟨b _ leA 5 _ rfl,?_⟩|refine ⟨b _ leA 6 _ rfl,?_⟩)));refine Vl 10 ⟨⟨_,rfl,rfl,rfl,rfl,rfl,rfl,fun q=>bA zeroValue240⟩,⟨_,rfl,rfl,rfl,rfl,rfl,rfl,fun q=>bA zeroValue124⟩,trivial⟩ (eB rfl rfl) ?_ (hL:=(hlA (h:=by repeat first|exact trivial|refine ⟨clA,?_⟩|refine ⟨b _ leA 0 _ rfl,?_⟩|refine ⟨b _ leA 1 _ rfl,?_⟩|refine ⟨b _ leA 2 _ rfl,?_⟩|refine ⟨b _ leA 3 _ rfl,?_⟩|refine ⟨b _ leA 4 _ rfl,?_⟩|refine ⟨b _ leA 5 _ rfl,?_⟩|refine ⟨b _ leA 6 _ rfl,?_⟩)));refine Yn (e0:=⟨11,14,fun g=> pt g,fun g=>pto g (.cells zz8.toArray 240 (0,0))⟩) (hnd:=by simp) 11 ⟨⟨_,rfl,rfl,rfl,rfl,rfl,rfl,fun q=>bA zeroValue240⟩,⟨_,rfl,rfl,rfl,rfl,rfl,rfl,fun q=>bA zeroValue124⟩,trivial⟩ (fun ga=> ?_) (hL:=(hlA (h:=by repeat first|exact trivial|refine ⟨clA,?_⟩|refine ⟨b _ leA 0 _ rfl,?_⟩|refine ⟨b _ leA 1 _ rfl,?_⟩|refine ⟨b _ leA 2 _ rfl,?_⟩|refine ⟨b _ leA 3 _ rfl,?_⟩|refine ⟨b _ leA 4 _ rfl,?_⟩|refine ⟨b _ leA 5 _ rfl,?_⟩|refine ⟨b _ leA 6 _ rfl,?_⟩)));change XF _ _ _ _ _ _ _ [⟨12,15,fun g=> pt g,fun g=>pto g (.cells zz6.toArray 124 (0,0))⟩] _ _ _ ((14,pt ga)::_) _ _ (pto ga (.cells zz8.toArray 240 (0,0))::_);refine Yn (e0:=⟨12,15,fun g=> pt g,fun g=>pto g (.cells zz6.toArray 124 (0,0))⟩) (hnd:=by simp) 12 ⟨⟨_,rfl,rfl,rfl,rfl,rfl,rfl,fun q=>bA zeroValue124⟩,trivial⟩ (fun gb=> ?_) (hL:=(hlA (h:=by repeat first|exact trivial|refine ⟨clA,?_⟩|refine ⟨b _ leA 0 _ rfl,?_⟩|refine ⟨b _ leA 1 _ rfl,?_⟩|refine ⟨b _ leA 2 _ rfl,?_⟩|refine ⟨b _ leA 3 _ rfl,?_⟩|refine ⟨b _ leA 4 _ rfl,?_⟩|refine ⟨b _ leA 5 _ rfl,?_⟩|refine ⟨b _ leA 6 _ rfl,?_⟩)));change XF _ _ _ _ _ _ _ [] _ _ _ ((15,pt gb)::_) _ _ (pto gb (.cells zz6.toArray 124 (0,0))::_);refine dO ?_ (hL:=(hlA (h:=by repeat first|exact trivial|refine ⟨clA,?_⟩|refine ⟨b _ leA 0 _ rfl,?_⟩|refine ⟨b _ leA 1 _ rfl,?_⟩|refine ⟨b _ leA 2 _ rfl,?_⟩|refine ⟨b _ leA 3 _ rfl,?_⟩|refine ⟨b _ leA 4 _ rfl,?_⟩|refine ⟨b _ leA 5 _ rfl,?_⟩|refine ⟨b _ leA 6 _ rfl,?_⟩)));refine rn [14,15,0,2,0,0,3,0] ?_;refine bI (Zl (u:=(.mk k2 z2 s2 l2 o2 p2 y2 u2 w2)) exC underlying122 Qh rfl rfl Z2 rfl) ?_;rintro _ _ ⟨gl,rfl,rfl⟩;refine bI (Zu (f:=exC) (l:=i) (m:= [(.mk k2 z2 s2 l2 o2 p2 y2 u2 w2)]) underlying122 Qh rfl rfl Z2 rfl rfl Zj ((aV _).le Zj) Lf (by simp;omega) (by simp;omega)) ?_;rintro _ _ ⟨a3,c3,rfl,rfl⟩;refine ox 8 ?_;refine X.exs (l:=i) (e:=(.mk k2 z2 s2 l2 o2 p2 y2 u2 w2)) Zj Zj ?_
     have g0:R=((Fnd.exprs g2.er (Z9 (d.drop (i.length+1)))).1,.mk k z nm o p op (Z9 (i++ [(.mk k2 z2 s2 l2 o2 p2 y2 u2 w2)])++(Fnd.exprs g2.er (Z9 (d.drop (i.length+1)))).2)):=by
      rw [d0,aS t,hy,Cy];simp only [Z9,Fnd.exprs,<-j0,aB,fZ]
     refine aZ (ih (g2,(a3,c3,i++ [(.mk k2 z2 s2 l2 o2 p2 y2 u2 w2)]),_) ⟨by simp;omega,rfl,by rw [aK];exact g0⟩ (by simp;omega)) Zg leA
   have hl:i.length=d.length:=by omega
   refine rn [6,0,2,0,1,2,3,4,0] ?_;refine X.fzEs (kd:=k) (n:=z) (nm:=nm) (slot:=o) (loc:=p) (op:=op) ?_;refine Zq (fcM g::exM (.mk k z nm o p op i a c)::q) func184 (Fa results184) ⟨_,rfl,g,(.mk k z nm o p op i a c),rfl,rfl,by rw [d0,hl,dN];simp only [Z9,Fnd.exprs,cK,Ex.er]⟩
 have w:k=2\/k=3\/ ¬ (k=2\/k=3):=by omega
 rcases w with rfl|rfl|w
 . rw [if_pos rfl] at r;refine rn [6,2018,3,0,1,0,0] ?_;refine Zx call186 (aD _) (wants_ok (f:=f) (bU hf)) ?_;rintro _ _ ⟨g,x,rfl,rfl,hw⟩;refine oo 3 ?_;refine bE zeroValue240 fun n6=> ?_
   refine bE zeroValue245 fun n7=> ?_
   refine rn [0,0,3,0,0,1,0,1,2,3,4,5,6,7,8,9,0,1] ?_;rw [<-hw] at r;dsimp only at r;exact aZ (K (g,x.s,x.k==100) r.symm) Zg leA
 . rw [if_neg (by decide),if_pos rfl] at r;refine rn [6,1018,6,2036,3,0,1,0,0] ?_;refine Zx call186 (aD _) (wants_ok (f:=f) (bU hf)) ?_;rintro _ _ ⟨g,x,rfl,rfl,hw⟩;refine oo 3 ?_;refine bE zeroValue240 fun n6=> ?_
   refine bE zeroValue245 fun n7=> ?_
   refine rn [0,0,3,0,0,3,0,1,0,2] ?_;rw [<-hw] at r;dsimp only at r;exact aZ (K (g,x.s,lo) r.symm) Zg leA
 rw [if_neg (fun e=>w (.inl e)),if_neg (fun e=>w (.inr e))] at r;refine rn [6,1018,6] ?_;refine cU 36 bF rfl (cB (dS.2 (by omega))) ?_;refine xx 3 ?_;refine bK (q':=fcM f::_) (bY (bU hf)) ?_;exact aZ (K (f,sl,lo) r.symm) Zg leA
theorem Gy: ∀ (N:Nat) (x:Ex),x.sz<=N->x.er.thin-> ∀ {f:FC} {pl pc:Int} {q:List HP},(Kn q fun M=>f.At M)->(Kn q fun M=>x.At M)->CallF prog G 184 [.agg (fcC f).toArray,.agg (exC x).toArray,.agg (Bm pl pc).toArray] q (Ret fun v q'=> ∃ (g:FC) (y:Ex),v= .tuple [.agg (fcC g).toArray,.agg (exC y).toArray].toArray/\q'=fcM g::exM y::q/\(g.er,y.er)=f.er.expr x.er)
 |N,x,hN,ht,_,_,_,_,hf,hx=>X3 (fun y d a _ _ _ _ c b=>by
  cases N with
  |zero=>omega
  |succ N=>exact Gy N y (by omega) a c b) hf hx ht
theorem Fnd.fl_eq (f:Fnd)(w:Int): ∃ x,f.fl w= { f with flaw:=x } :=by unfold Fnd.fl;split;exact ⟨_,rfl⟩;exact ⟨f.flaw,rfl⟩
theorem Fnd.wants_eq (f:Fnd)(s:ByteArray)(a b:Int): ∃ x,(f.wants s a b).1= { f with flaw:=x } :=by
 unfold Fnd.wants;split
 . exact f.fl_eq 131
 dsimp only;split
 . exact f.fl_eq 132
 exact ⟨f.flaw,rfl⟩
mutual
theorem Ec: ∀ (e:PEx) (f:Fnd),∃ x,(f.expr e).1= { f with flaw:=x }
 | .mk k n nm slot loc op args,f=>by
  simp only [Fnd.expr];split
  . obtain ⟨x,b⟩:=f.wants_eq nm 1 100;obtain ⟨y,a⟩:=J0 args (f.wants nm 1 100).1;exact ⟨y,by rw [a,b]⟩
  split
  . obtain ⟨x,b⟩:=f.wants_eq nm 2 2;obtain ⟨y,a⟩:=J0 args (f.wants nm 2 2).1;exact ⟨y,by rw [a,b]⟩
  exact J0 args f
theorem J0: ∀ (l:List PEx) (f:Fnd),∃ x,(f.exprs l).1= { f with flaw:=x }
 | [],f=>⟨f.flaw,rfl⟩
 |e::r,f=>by
  simp only [Fnd.exprs];obtain ⟨x,b⟩:=Ec e f;obtain ⟨y,a⟩:=J0 r (f.expr e).1;exact ⟨y,by rw [a,b]⟩
end
structure Fnd.To (f g:Fnd) (N:Nat):Prop where
 n:g.names.length<=f.names.length+N
 l:f.locals<=g.locals/\g.locals<=f.locals+N
 s:f.stm<=g.stm
 e:g.vars=f.vars/\g.arrs=f.arrs/\g.mu=f.mu/\g.co=f.co/\g.chs=f.chs/\g.ths=f.ths/\g.main=f.main/\g.nv=f.nv/\g.na=f.na/\g.nm=f.nm/\g.nc=f.nc/\g.nh=f.nh/\g.cells=f.cells
theorem Fnd.To.flaw (f:Fnd)(x:Int):f.To { f with flaw:=x } 0:=⟨aY _,⟨bX _,by dsimp only;omega⟩,bX _,rfl,rfl,rfl,rfl,rfl,rfl,rfl,rfl,rfl,rfl,rfl,rfl,rfl⟩
theorem Fnd.To.refl (f:Fnd):f.To f 0:=Fnd.To.flaw f f.flaw
theorem Fnd.To.trans {f h:Fnd}{M:Nat}(a:f.To g N)(b:g.To h M):f.To h (N+M):=by
 obtain ⟨a1,a2,a3,a4⟩:=a;obtain ⟨b1,b2,b3,b4⟩:=b;refine ⟨by omega,by omega,by omega,?_⟩;obtain ⟨x1,x2,x3,x4,x5,z,y,x,w,m,l,k,j⟩:=a4;obtain ⟨v,u,t,s,r,q,p,o,n,i,e,d,c⟩:=b4;exact ⟨v.trans x1,u.trans x2,t.trans x3,s.trans x4,r.trans x5,q.trans z,p.trans y,o.trans x,n.trans w,i.trans m,e.trans l,d.trans k,c.trans j⟩
theorem Fnd.To.up {f:Fnd}{M:Nat}(a:f.To g N)(h:N<=M):f.To g M:=⟨by have:=a.n;omega,by have:=a.l;omega,a.s,a.e⟩
theorem Fnd.To.back {f:Fnd}(a:f.To g N)(h:Fnd){M:Nat}(hn:h.names.length<=f.names.length+M)(hl:f.locals<=h.locals/\h.locals<=f.locals+M):f.To { g with names:=h.names,locals:=h.locals } M:=⟨hn,hl,a.s,a.e⟩
theorem Fnd.To.wants (f:Fnd)(s:ByteArray)(a b:Int):f.To (f.wants s a b).1 0:=by obtain ⟨x,c⟩:=f.wants_eq s a b;rw [c];exact .flaw f x
theorem Fnd.To.expr (f:Fnd)(e:PEx):f.To (f.expr e).1 0:=by obtain ⟨x,a⟩:=Ec e f;rw [a];exact .flaw f x
theorem Fnd.To.fl (f:Fnd)(w:Int):f.To (f.fl w) 0:=by obtain ⟨x,a⟩:=f.fl_eq w;rw [a];exact .flaw f x
theorem Fnd.To.loc1 (f:Fnd)(s:ByteArray):f.To (f.loc1 s) 0:=by unfold Fnd.loc1;split;exact .fl f _;exact .refl f
theorem Fnd.To.loc2 (f:Fnd):f.To f.loc2 0:=by unfold Fnd.loc2;split;exact .fl f _;exact .refl f
theorem Fnd.To.own1 (f:Fnd)(k:Int)(nm:ByteArray)(sl:Int)(lo:Bool):f.To (f.own1 k nm sl lo).1 0:=by unfold Fnd.own1;split;exact .wants ..;exact .refl f
theorem Fnd.To.own2 (f:Fnd)(k:Int)(nm wt:ByteArray)(sl ot:Int)(lo:Bool):f.To (f.own2 k nm wt sl ot lo).1 1:=by
 unfold Fnd.own2;split
 . have h:=(Fnd.To.loc1 f nm).trans (Fnd.To.loc2 (f.loc1 nm));refine ⟨by have:=h.n;simp [Fnd.loc3];omega,by have:=h.l;simp only [Fnd.loc3];omega,h.s,h.e⟩
 split
 . exact (Fnd.To.wants f ..).up (by decide)
 split
 . exact (Fnd.To.wants f ..).up (by decide)
 exact (Fnd.To.refl f).up (by decide)
theorem Fnd.To.own (f:Fnd)(k:Int)(nm wt:ByteArray)(sl ot:Int)(lo:Bool):f.To (f.own k nm wt sl ot lo).1 1:=(Fnd.To.own1 f k nm sl lo).trans (Fnd.To.own2 _ k nm wt _ ot _)
theorem Fnd.To.stm (f:Fnd)(n:Int)(h:f.stm<=n):f.To { f with stm:=n } 0:=⟨aY _,⟨bX _,by dsimp only;omega⟩,h,rfl,rfl,rfl,rfl,rfl,rfl,rfl,rfl,rfl,rfl,rfl,rfl,rfl⟩
mutual
theorem Fnd.To.stmt: ∀ (s:PStm) (f:Fnd),f.To (f.stmt s).1 1
 | .mk k ln cl nm wt e ix body els id slot other loc,f=>by
  simp only [Fnd.stmt];split
  . exact (Fnd.To.fl f _).up (by decide)
  dsimp only;have i:=(Fnd.To.stm f (f.stm+1) (by omega)).trans ((Fnd.To.expr { f with stm:=f.stm+1 } ix).trans (Fnd.To.expr _ e));have h:=i.trans (Fnd.To.own _ k nm wt slot other loc);obtain ⟨g,b⟩: ∃ g,Fnd.own (Fnd.expr (Fnd.expr { f with stm:=f.stm+1 } ix).1 e).1 k nm wt slot other loc=g:=⟨_,rfl⟩;rw [b];have a:f.To g.1 1:=by rw [<-b];exact h
  have d:=a.trans (Fnd.To.blk body g.1);have c:=(d.back g.1 a.n a.l).trans (Fnd.To.blk els _);exact c.back g.1 a.n a.l
theorem Fnd.To.blk: ∀ (l:List PStm) (f:Fnd),f.To (f.blk l).1 l.length
 | [],f=> .refl f
 |s::r,f=>by
  simp only [Fnd.blk];split
  . exact ((Fnd.To.stmt s f).trans (Fnd.To.blk r (f.stmt s).1)).up (by simp;omega)
  exact (Fnd.To.refl f).up (by simp)
end
abbrev gM:=@Fnd.To.blk
mutual
def PStm.thin:PStm->Prop
 | .mk _ _ _ _ _ e ix body els _ _ _ _=>e.thin/\ix.thin/\Vb body/\Vb els
def Vb:List PStm->Prop
 | []=>True
 |s::r=>s.thin/\Vb r
end
theorem Nb {x:PStm}: ∀ {l:List PStm},Vb l->x∈l->x.thin
 |y::r,⟨h1,h2⟩,h=>by
  rcases cO.1 h with rfl|h
  . exact h1
  exact Nb h2 h
mutual
theorem Cr: ∀ {s:PStm} {n:Nat},s.may n=true->s.thin
 | .mk k _ _ nm wt e ix body els _ _ _ _,n,h=>by
  simp only [PStm.may] at h;split at h;cases h
  split at h;cases h
  split at h;cases h
  rename_i a;split at h;cases h
  rw [aQ] at h
  have f:e.thin:=by
   unfold Ix at a
   cases hE:Ct k with
   |true=>exact Kg (d:=24) (by cases hr:e.right 24 with|true=>rfl|false=>simp [hE,hr] at a)
   |false=>exact Dq (by cases hr:e.nil with|true=>rfl|false=>simp [hE,hr] at a)
  have c:ix.thin:=by
   unfold Ix at a;rcases Classical.em (k=3) with b|b
   . exact Kg (d:=24) (by cases hr:ix.right 24 with|true=>rfl|false=>simp [b,hr] at a)
   exact Dq (by cases hr:ix.nil with|true=>rfl|false=>simp [b,hr] at a)
  exact ⟨f,c,Qs h.1,Qs h.2⟩
theorem Qs: ∀ {l:List PStm} {n:Nat},Yo l n=true->Vb l
 | [],_,_=>trivial
 |s::r,n,h=>by
  simp only [Yo,aQ] at h;exact ⟨Cr h.1,Qs h.2⟩
end
theorem Oa {f:Fnd}{k:Int}{e:PEx}{body els:List PStm}{id other:Int}{a b:Fnd×PEx}{c:Fnd×Int×Int×Bool}{x y:Fnd×List PStm}(h: ¬512<=f.stm)(ha:a=Fnd.expr { f with stm:=f.stm+1 } ix)(hb:b=a.1.expr e)(hc:c=b.1.own k nm wt slot other loc)(hx:x=c.1.block body)(hy:y=x.1.block els):
 f.stmt (.mk k ln cl nm wt e ix body els id slot other loc)=(y.1,.mk k ln cl nm wt b.2 a.2 x.2 y.2 f.stm c.2.1 c.2.2.1 c.2.2.2):=by
 subst ha hb hc hx hy;simp only [Fnd.stmt,if_neg h];rfl
theorem FC.At.s {n:Int}(h:f.At M):({ f with stm:=n } :FC).At M:=⟨h.vars,h.arrs,h.chs,h.ths,h.bod,h.nv,h.na,h.nm,h.nc,h.nh,h.names⟩
theorem FC.At.l {x:Sv Nm}{n m:Int}(h:f.At M)(h1:x.At M nmC):({ f with names:=x,locals:=n,most:=m } :FC).At M:=⟨h.vars,h.arrs,h.chs,h.ths,h.bod,h.nv,h.na,h.nm,h.nc,h.nh,h1⟩
theorem FC.At.b {g:FC}{n:Int}(h:f.At M)(h1:g.At M):({ f with names:=g.names,locals:=n } :FC).At M:=⟨h.vars,h.arrs,h.chs,h.ths,h.bod,h.nv,h.na,h.nm,h.nc,h.nh,h1.names⟩
section
variable {x:Stm}{m:List Stm}{a:Option Addr}{c:Nat}
theorem Xl (IH: ∀ (m:List Stm) (a:Option Addr) (c:Nat),Zc m<x.sz->Vb (Zk m)-> ∀ {f:FC} {q:List HP},(Kn q fun M=>f.At M)->(Kn q fun M=>BlkAt M a c m)->(f.names.l.length+Zc m<=300000/\(0<=f.locals/\f.locals+Zc m<=300000)/\0<=f.stm)->CallF prog G 121 [.agg (fcC f).toArray,.slice a m.length c] q (Ret fun v q'=> ∃ (g:FC) (b:Option Addr) (d:Nat) (m':List Stm),v= .tuple [.agg (fcC g).toArray,.slice b m'.length d].toArray/\q'=fcM g::blM b d m'::q/\(g.er,Zk m')=f.er.block (Zk m)))(hf:Kn q fun M=>f.At M)(h:Kn q fun M=>x.At M)(ht:x.er.thin)(hb:(f.names.l.length+x.sz<=300000/\(0<=f.locals/\f.locals+x.sz<=300000)/\0<=f.stm)):CallF prog G 157 [.agg (fcC f).toArray,.agg (stC x).toArray] (q) (Ret fun v q'=> ∃ (g:FC) (y:Stm),v= .tuple [.agg (fcC g).toArray,.agg (stC y).toArray].toArray/\q'=fcM g::stM y::q/\(g.er,y.er)=f.er.stmt x.er):=by
 refine aC func157 ntmps157 rfl fun F cs=> ?_;obtain ⟨k,ln,cl,nm,wt,⟨k1,z1,s1,l1,o1,p1,y1,u1,w1⟩,⟨k2,z2,s2,l2,o2,p2,y2,u2,w2⟩,i,p,ba,bc,ea,ec,id,slot,e,loc⟩:=x;obtain ⟨w0,v0,u0,t0⟩:=ht;have hE:=Zq0 h;have hX:=Zqo h;have hB:=Zq1 h;have hL:=Zqe h;simp only [Stm.sz] at hb;obtain ⟨t1,⟨r1,q1⟩,m1⟩:=hb;refine xo 2 ?_;refine Z0 fun n1=> ?_
 refine Z0 fun n2=> ?_
 refine bE zeroValue240 fun n3=> ?_
 refine bE zeroValue126 fun n4=> ?_
 refine rn [6,0,2] ?_;refine xp 18 ?_ ?_<;>intro h0
 . have b0:512<=f.er.stm:=h0;refine rn [2,0,1,2,3,5] ?_;refine Ym 3 call120 (aD _) (U9 (f:=f) (bU hf)) ?_;rintro _ _ ⟨gf,rfl,rfl,hg⟩;refine ⟨hlA,?_⟩;refine rn [6,7,0] ?_;refine bK (q':=stM (.mk k ln cl nm wt (.mk k1 z1 s1 l1 o1 p1 y1 u1 w1) (.mk k2 z2 s2 l2 o2 p2 y2 u2 w2) i p ba bc ea ec id slot e loc)::_) (bY (bU h)) ?_;refine Zq (fcM gf::stM (.mk k ln cl nm wt (.mk k1 z1 s1 l1 o1 p1 y1 u1 w1) (.mk k2 z2 s2 l2 o2 p2 y2 u2 w2) i p ba bc ea ec id slot e loc)::q) func157 (Fa results157) ⟨_,rfl,gf,(.mk k ln cl nm wt (.mk k1 z1 s1 l1 o1 p1 y1 u1 w1) (.mk k2 z2 s2 l2 o2 p2 y2 u2 w2) i p ba bc ea ec id slot e loc),rfl,rfl,by simp only [Stm.er,Fnd.stmt,if_pos b0,hg]⟩
 have b0: ¬512<=f.er.stm:=(by show ¬512<=f.stm;omega);refine rn [6,0,1,0,5,0,3,0,3,0,1,0,1,0] ?_;refine Zx call184 (aD _) (Gy _ (.mk k2 z2 s2 l2 o2 p2 y2 u2 w2) (aY _) v0 (f:=({ f with stm:=f.stm+1 } :FC)) ((bU hf).imp fun M h=>FC.At.s h) (bU hX)) ?_;rintro _ _ ⟨g1,⟨k3,z3,s3,l3,o3,p3,y3,u3,w3⟩,rfl,rfl,q0⟩;refine rn [3,0,1,0,3,0,1,0,1,0] ?_;refine Zx call184 (aD _) (Gy _ (.mk k1 z1 s1 l1 o1 p1 y1 u1 w1) (aY _) w0 (f:=g1) knA (bU hE)) ?_;rintro _ _ ⟨g2,⟨k4,z,s4,l4,o4,p4,y4,u4,w4⟩,rfl,rfl,p0⟩;have j0:f.er.To g2.er 0:=by have h1:=(Fnd.To.stm f.er (f.stm+1) (by show f.stm<=f.stm+1;omega)).trans ((Fnd.To.expr _ _).trans (Fnd.To.expr (Fnd.expr { f.er with stm:=f.stm+1 } (Ex.er (.mk k2 z2 s2 l2 o2 p2 y2 u2 w2))).1 (Ex.er (.mk k1 z1 s1 l1 o1 p1 y1 u1 w1))));rw [show g2.er=(Fnd.expr (Fnd.expr { f.er with stm:=f.stm+1 } (Ex.er (.mk k2 z2 s2 l2 o2 p2 y2 u2 w2))).1 (Ex.er (.mk k1 z1 s1 l1 o1 p1 y1 u1 w1))).1 from by rw [show (Fnd.expr { f.er with stm:=f.stm+1 } (Ex.er (.mk k2 z2 s2 l2 o2 p2 y2 u2 w2))).1=g1.er from (bL Prod.fst q0).symm];exact bL Prod.fst p0];exact h1
 refine rn [3,0,1,0,4,0,5] ?_;refine aU call185 (want_ok) ?_;refine ox 12 ?_;refine jI (fun (x:FC×Int×Bool)=> [(2,pt n1),(3,pt n2),(4,pt n3),(5,pt n4),(6,I64 k)]) (fun x=>fcM x.1::pto n1 (.cells (fcC x.1).toArray 240 (0,0))::pto n2 (.cells (stC (.mk k ln cl nm wt (.mk k4 z s4 l4 o4 p4 y4 u4 w4) (.mk k3 z3 s3 l3 o3 p3 y3 u3 w3) i p ba bc ea ec f.stm x.2.1 e x.2.2)).toArray 126 (0,0))::pto n3 (.cells zz8.toArray 240 (0,0))::pto n4 (.cells zz2.toArray 126 (0,0))::exM (.mk k3 z3 s3 l3 o3 p3 y3 u3 w3)::exM (.mk k4 z s4 l4 o4 p4 y4 u4 w4)::(q++F)) (fun x=>x=(x.1,x.2.1,x.2.2)/\(x.1.er,x.2.1,x.2.2)=g2.er.own1 k nm slot loc/\f.er.To x.1.er 0) (fun x j=> ?_) fun K=> ?_
 . obtain ⟨g,sl,lo⟩:=x;dsimp only at j|-;obtain ⟨_,s0,i0⟩:=j;clear j0;refine xx 5 ?_;refine jI (fun (x:FC×Int×Int×Bool)=> [(2,pt n1),(3,pt n2),(4,pt n3),(5,pt n4)]) (fun x=>fcM x.1::pto n1 (.cells (fcC x.1).toArray 240 (0,0))::pto n2 (.cells (stC (.mk k ln cl nm wt (.mk k4 z s4 l4 o4 p4 y4 u4 w4) (.mk k3 z3 s3 l3 o3 p3 y3 u3 w3) i p ba bc ea ec f.stm x.2.1 x.2.2.1 x.2.2.2)).toArray 126 (0,0))::pto n3 (.cells zz8.toArray 240 (0,0))::pto n4 (.cells zz2.toArray 126 (0,0))::exM (.mk k3 z3 s3 l3 o3 p3 y3 u3 w3)::exM (.mk k4 z s4 l4 o4 p4 y4 u4 w4)::(q++F)) (fun x=>(x.1.er,x.2.1,x.2.2.1,x.2.2.2)=g.er.own2 k nm wt sl e lo) (fun x j=> ?_) fun w=> ?_
   . obtain ⟨r,c0,d0,f0⟩:=x;dsimp only at j|-;have m0:f.er.To r.er 1:=by have h1:=i0.trans (Fnd.To.own2 g.er k nm wt sl e lo);rw [<-j] at h1;exact h1
     have a0:=m0;obtain ⟨a1,⟨e1,c1⟩,y0,_⟩:=a0;dsimp only [FC.er] at a1 e1 c1 y0;refine rn [2,0,1,0] ?_;refine Zx call121 (aD _) (IH i ba bc (by simp only [Stm.sz];omega) u0 (f:=r) knA (bU hB) ⟨by omega,⟨by omega,by omega⟩,by omega⟩) ?_;rintro _ _ ⟨g5,a5,c5,l5,rfl,rfl,g0⟩;have r0:g5.er.names=r.er.names:=by rw [show g5.er=(r.er.block (Zk i)).1 from bL Prod.fst g0];rfl
     have j1:g5.er.locals=r.er.locals:=by rw [show g5.er=(r.er.block (Zk i)).1 from bL Prod.fst g0];rfl
     have i1:r.er.stm<=g5.er.stm:=by rw [show g5.er=(r.er.block (Zk i)).1 from bL Prod.fst g0];exact (gM (Zk i) r.er).s
     dsimp only [FC.er] at r0 j1 i1;have v1:=bL List.length r0;refine rn [3,0,1,0,3,0,1,0] ?_;refine Zx call121 (aD _) (IH p ea ec (by simp only [Stm.sz];omega) t0 (f:=g5) knA (bU hL) ⟨by omega,⟨by omega,by omega⟩,by omega⟩) ?_;rintro _ _ ⟨g6,a6,c6,l6,rfl,rfl,f1⟩;refine rn [3,0,1,0,2,0,1,2,3,4,0] ?_;refine Jq (.mk k ln cl nm wt (.mk k4 z s4 l4 o4 p4 y4 u4 w4) (.mk k3 z3 s3 l3 o3 p3 y3 u3 w3) l5 l6 a5 c5 a6 c6 f.stm c0 d0 f0) jQ ?_;refine Zq (fcM g6::stM (.mk k ln cl nm wt (.mk k4 z s4 l4 o4 p4 y4 u4 w4) (.mk k3 z3 s3 l3 o3 p3 y3 u3 w3) l5 l6 a5 c5 a6 c6 f.stm c0 d0 f0)::q) func157 (Fa results157) ⟨_,rfl,g6,(.mk k ln cl nm wt (.mk k4 z s4 l4 o4 p4 y4 u4 w4) (.mk k3 z3 s3 l3 o3 p3 y3 u3 w3) l5 l6 a5 c5 a6 c6 f.stm c0 d0 f0),rfl,rfl,(Oa b0 q0 p0 (show (r.er,c0,d0,f0)=_ from by unfold Fnd.own;dsimp only;rw [<-s0];exact j) g0 f1).symm⟩
   have o:k=1\/k=8\/k=12\/ ¬ (k=1\/k=8\/k=12):=by omega
   rcases o with o|o|o|o
   . unfold Fnd.own2 at w;simp only [if_pos o] at w;refine rn [6,2083,4,0,1,0] ?_;refine aU call119 (Zjg (f:=g) knA) ?_;refine ox 2 ?_;refine jI (fun (x:FC)=> [(2,pt n1),(3,pt n2),(4,pt n3),(5,pt n4)]) (fun x=>fcM x::pto n1 (.cells (fcC x).toArray 240 (0,0))::pto n2 (.cells (stC (.mk k ln cl nm wt (.mk k4 z s4 l4 o4 p4 y4 u4 w4) (.mk k3 z3 s3 l3 o3 p3 y3 u3 w3) i p ba bc ea ec f.stm sl e lo)).toArray 126 (0,0))::pto n3 (.cells zz8.toArray 240 (0,0))::pto n4 (.cells zz2.toArray 126 (0,0))::exM (.mk k3 z3 s3 l3 o3 p3 y3 u3 w3)::exM (.mk k4 z s4 l4 o4 p4 y4 u4 w4)::(q++F)) (fun x=>x.er=g.er.loc1 nm) (fun x j=> ?_) fun K3=> ?_
     . obtain ⟨r,o0⟩:=lA x;rw [<-o0] at j|-;clear o0;refine rn [4,0,2] ?_;refine jI (fun (x:FC)=> [(2,pt n1),(3,pt n2),(4,pt n3),(5,pt n4)]) (fun x=>fcM x::pto n1 (.cells (fcC x).toArray 240 (0,0))::pto n2 (.cells (stC (.mk k ln cl nm wt (.mk k4 z s4 l4 o4 p4 y4 u4 w4) (.mk k3 z3 s3 l3 o3 p3 y3 u3 w3) i p ba bc ea ec f.stm sl e lo)).toArray 126 (0,0))::pto n3 (.cells zz8.toArray 240 (0,0))::pto n4 (.cells zz2.toArray 126 (0,0))::exM (.mk k3 z3 s3 l3 o3 p3 y3 u3 w3)::exM (.mk k4 z s4 l4 o4 p4 y4 u4 w4)::(q++F)) (fun x=>x.er=(g.er.loc1 nm).loc2) (fun x j=> ?_) fun K4=> ?_
       . obtain ⟨n,n0⟩:=lA x;rw [<-n0] at j|-;clear n0;have a0:f.er.To n.er 0:=by have h1:=i0.trans ((Fnd.To.loc1 g.er nm).trans (Fnd.To.loc2 (g.er.loc1 nm)));rw [<-j] at h1;exact h1
         obtain ⟨z0,⟨d1,b1⟩,x0,_⟩:=a0;dsimp only [FC.er] at z0 d1 b1 x0;refine rn [3,0,1,0,1,0,2,0,1,2,4,5,6,7,8] ?_;refine fP (q':=rsH nmC 3 245 none 0 ([])::_) (Zm nmC 3 245 _) ?_;refine Z7 (fl:= [⟨8,113,fun g=> .slice (some ⟨g,0,none⟩) 1 1,fun g=>rsH nmC 3 245 (some ⟨g,0,none⟩) 1 ([⟨nm,100,n.locals⟩])⟩]) ?_;refine gV 2 ⟨⟨_,rfl,rfl,rfl,rfl,rfl,rfl,fun q=>Zl (u:=⟨nm,100,n.locals⟩) nmC underlying238 Jb rfl rfl (fun _=>rfl) rfl⟩,trivial⟩ (Dx (f:=nmC) (sz:=3) (l:= []) (m:=n.names.l) underlying238 Jb rfl rfl (fun _=>rfl) rfl rfl Zj (bV (kP (φ:=fun M=>n.At M) knA fun M h=>h.names)) (fun _=>rfl) (by simp;omega) (by simp;omega)) ?_;refine kk2 fun aa ac=> ?_
         refine Yn (e0:=⟨8,113,fun g=> .slice (some ⟨g,0,none⟩) 1 1,fun g=>rsH nmC 3 245 (some ⟨g,0,none⟩) 1 ([⟨nm,100,n.locals⟩])⟩) (hnd:=by simp) 8 ⟨⟨_,rfl,rfl,rfl,rfl,rfl,rfl,fun q=>Zl (u:=⟨nm,100,n.locals⟩) nmC underlying238 Jb rfl rfl (fun _=>rfl) rfl⟩,trivial⟩ fun gl=> ?_;change XF _ _ _ _ _ _ _ [] _ _ _ ((113,.slice (some ⟨gl,0,none⟩) 1 1)::_) _ _ (rsH nmC 3 245 (some ⟨gl,0,none⟩) 1 ([⟨nm,100,n.locals⟩])::_);refine dO ?_;try rw [aN]
         refine dA 9 rfl (Zu (f:=nmC) (l:=n.names.l) (m:= [⟨nm,100,n.locals⟩]) underlying238 Jb rfl rfl (fun _=>rfl) rfl rfl Zj ((aV _).le Zj) (fun _=>rfl) (by simp;omega) (by simp;omega)) ?_;refine kk2 fun l0 k0=> ?_
         refine rn [11,12,0,3,0,2,0,3,0,1,0,2,0,2] ?_;refine Mc ?_;refine bK (q':=fcM ({ n with names:=⟨n.names.l++ [⟨nm,100,n.locals⟩],l0,k0⟩,locals:=n.locals+1,most:=max n.most (n.locals+1) } :FC)::_) (bY ((iD (φ:=fun M=>n.At M) knA (svK (x:=⟨_,l0,k0⟩) (f:=nmC))).imp fun M h=>FC.At.l h.1 h.2)) ?_;exact aZ (w (({ n with names:=⟨n.names.l++ [⟨nm,100,n.locals⟩],l0,k0⟩,locals:=n.locals+1,most:=max n.most (n.locals+1) } :FC),n.locals,e,true) (by rw [<-j];rfl)) Zg leA
       refine xp 96 ?_ ?_<;>intro h4
       . refine rn [2,0,1,0] ?_;refine Zx call120 (aD _) (U9 (f:=r) knA) ?_;rintro _ _ ⟨gf,rfl,rfl,hg⟩;refine rn [0,1] ?_;exact aZ (K4 gf (by rw [<-j];unfold Fnd.loc2;rw [if_pos (show 32<=r.er.locals from h4)];exact hg)) Zg leA
       refine xx 2 ?_;exact aZ (K4 r (by rw [<-j];unfold Fnd.loc2;rw [if_neg (show ¬32<=r.er.locals from (by show ¬32<=r.locals;omega))])) Zg leA
     refine xp 89 ?_ ?_<;>intro h3
     . refine rn [2,0,1,0] ?_;refine Zx call120 (aD _) (U9 (f:=g) knA) ?_;rintro _ _ ⟨gf,rfl,rfl,hg⟩;refine rn [0,1] ?_;exact aZ (K3 gf (by unfold Fnd.loc1;rw [if_pos (show g.er.at nm≠0 by omega)];exact hg)) Zg leA
     refine xx 2 ?_;exact aZ (K3 g (by unfold Fnd.loc1;rw [if_neg (show ¬g.er.at nm≠0 by omega)])) Zg leA
   . unfold Fnd.own2 at w;simp only [if_neg (show ¬k=1 by omega),if_pos o] at w;refine rn [6,1083,6,2126,3,0,1,0,1,0] ?_;refine Zx call186 (aD _) (wants_ok (f:=g) knA) ?_;rintro _ _ ⟨gw,xw,rfl,rfl,t⟩;refine oo 3 ?_;refine bE zeroValue240 fun n5=> ?_
     refine bE zeroValue245 fun n6=> ?_
     refine rn [0,0,3,0,0,3,0,1,0,2] ?_;exact aZ (w (gw,sl,xw.s,lo) (by rw [<-t])) Zg leA
   . unfold Fnd.own2 at w;simp only [if_neg (show ¬k=1 by omega),if_neg (show ¬k=8 by omega),if_pos o] at w;refine rn [6,1083,6,1126,6,2141,3,0,1,0,1,0] ?_;refine Zx call186 (aD _) (wants_ok (f:=g) knA) ?_;rintro _ _ ⟨gw,xw,rfl,rfl,t⟩;refine oo 3 ?_;refine bE zeroValue240 fun n5=> ?_
     refine bE zeroValue245 fun n6=> ?_
     refine rn [0,0,3,0,0,1,0,1,2,3,4,5,6,7,8,9,0,1] ?_;exact aZ (w (gw,sl,xw.s,xw.k==100) (by rw [<-t])) Zg leA
   unfold Fnd.own2 at w;simp only [if_neg (show ¬k=1 by omega),if_neg (show ¬k=8 by omega),if_neg (show ¬k=12 by omega)] at w;refine rn [6,1083,6,1126,6,1141,3] ?_;exact aZ (w (g,sl,e,lo) rfl) Zg leA
 refine xp 62 ?_ ?_<;>intro h1
 . refine rn [3,0,1,0,3,0] ?_;refine Zx call186 (aD _) (wants_ok (f:=g2) knA) ?_;rintro _ _ ⟨gw,xw,rfl,rfl,t⟩;refine oo 3 ?_;refine bE zeroValue240 fun n5=> ?_
   refine bE zeroValue245 fun n6=> ?_
   refine rn [0,0,3,0,0,1,0,1,2,3,4,5,6,7,8,9,0] ?_;exact aZ (K (gw,xw.s,xw.k==100) ⟨rfl,by unfold Fnd.own1;rw [if_pos (by simpa using h1),<-t],by have h2:=j0.trans (Fnd.To.wants g2.er nm (Kt k).1 (Kt k).2);rw [<-t] at h2;exact h2⟩) Zg leA
 refine xx 2 ?_;exact aZ (K (g2,slot,loc) ⟨rfl,by unfold Fnd.own1;rw [if_neg (by simpa using h1)],j0⟩) Zg leA
end
section
variable {x:Stm}{m:List Stm}{a:Option Addr}{c:Nat}
theorem Ld {l:List Stm}{k:Nat}(h:k<l.length):Zc (l.drop k)=l[k].sz+Zc (l.drop (k+1)):=by rw [aS h];rfl
theorem T5 (x:Stm):1<=x.sz:=by cases x;simp only [Stm.sz];omega
theorem Ey: ∀ (l:List Stm),l.length<=Zc l
 | []=>bC _
 |x::r=>by have:=T5 x;have:=Ey r;simp only [Zc,cC];omega
abbrev AA (v0:FC)(v1:Stm):=(v0.names.l.length+v1.sz<=300000/\(0<=v0.locals/\v0.locals+v1.sz<=300000)/\0<=v0.stm)
abbrev Ak (v0:List HP)(v1:FC)(v2:Stm):=(Ret fun v q'=> ∃ (g:FC) (y:Stm),v= .tuple [.agg (fcC g).toArray,.agg (stC y).toArray].toArray/\q'=fcM g::stM y::v0/\(g.er,y.er)=v1.er.stmt v2.er)
abbrev Bo (v0:FC)(v1:List Stm):=(v0.names.l.length+Zc v1<=300000/\(0<=v0.locals/\v0.locals+Zc v1<=300000)/\0<=v0.stm)
abbrev Bd (v0:FC)(v1:Stm):=([.agg (fcC v0).toArray,.agg (stC v1).toArray]:List Value)
theorem Ev (IH: ∀ (x:Stm),x.sz<=Zc m->x.er.thin-> ∀ {f:FC} {q:List HP},(Kn q fun M=>f.At M)->(Kn q fun M=>x.At M)->(AA f x)->CallF prog G 157 (Bd f x) q (Ak q f x))(hf:Kn q fun M=>f.At M)(h:Kn q fun M=>BlkAt M a c m)(ht:Vb (Zk m))(hb:(Bo f m)):CallF prog G 121 [.agg (fcC f).toArray,.slice a m.length c] (q) (Ret fun v q'=> ∃ (g:FC) (b:Option Addr) (d:Nat) (m':List Stm),v= .tuple [.agg (fcC g).toArray,.slice b m'.length d].toArray/\q'=fcM g::blM b d m'::q/\(g.er,Zk m')=f.er.block (Zk m)):=by
 refine aC func121 ntmps121 rfl fun F cs=> ?_;have o3:=Ey m;have hA:=Zq7 h;have y2:=Zv (f:=stC) (sz:=25) Ze m;refine iJ (fun w s=>Zq5 (h.le leA) s) fun s3=> ?_;obtain ⟨R,hR⟩: ∃ R,f.er.blk (Zk m)=R:=⟨_,rfl⟩;obtain ⟨fn,q3⟩:=lA f.names;obtain ⟨fl,r3⟩:=lA f.locals;refine xo 2 ?_;refine Z0 fun n1=> ?_
 refine bE zeroValue240 fun n2=> ?_
 refine rn [3,0,1,2,3,4,5,6,0,10] ?_;refine aZ (cD (fun (s:FC×(Option Addr×Nat×List Stm)×Option Addr)=>s.2.1.2.2.length<=m.length/\s.2.2=a/\R=((Fnd.blk s.1.er (Zk (m.drop s.2.1.2.2.length))).1,Zk s.2.1.2.2++(Fnd.blk s.1.er (Zk (m.drop s.2.1.2.2.length))).2)/\(s.1.names.l.length+Zc (m.drop s.2.1.2.2.length)<=300000/\(0<=s.1.locals/\s.1.locals+Zc (m.drop s.2.1.2.2.length)<=300000)/\0<=s.1.stm)) (fun s=> [(8,.slice s.2.1.1 s.2.1.2.2.length s.2.1.2.1),(9,I64 (s.2.1.2.2.length:Int)),(1,.slice s.2.2 m.length c),(2,pt n1),(4,pt n2),(5,.slice none 0 0),(6,f.names.v),(7,I64 f.locals)]) (fun s=>rsH stC 25 126 s.2.1.1 s.2.1.2.1 s.2.1.2.2::stsM s.2.1.2.2::fcM s.1::pto n1 (.cells (fcC s.1).toArray 240 (0,0))::pto n2 AF::(q++F)) (fun s=>m.length - s.2.1.2.2.length) (fun s z2 ih=> ?_) (f,(none,0, []),a) ⟨bC _,rfl,hR.symm,hb⟩) Zg (bB leA (bB (Zm stC 25 126 _) (bB Mw (bB (bY (φ:=fun M=>f.At M) (mn:=fun e h=>FC.At.mono e h) (bU hf)) leA))));try dsimp only at z2 ih|-
 obtain ⟨p3,m3,w2,b3⟩:=z2;obtain ⟨g,⟨a2,c2,n⟩,t3⟩:=s;dsimp only at*;subst m3;refine xo 8 ?_;refine Zd [20,8,9,1,2,4,5,6,7] ?_;apply Zt 4 24 20 rfl
 . intro g1 M1;have h1:=sp g1;refine rn [1,0,2] ?_;exact Zz M1 ⟨Ws g1,Zw⟩
 . intro g1 M1;have h1:=sp g1;refine oo 4 ?_;exact Zz M1 ⟨Wo g1,Zw⟩
 refine ox 1 ?_;refine dH 24 rfl ?_ ?_<;>intro h0
 . obtain ⟨b0,h9⟩:n.length<m.length/\g.flaw=0:=(by rw [aQ] at h0;exact ⟨by simpa using h0.1,by simpa using h0.2⟩);have hz:=Ld b0;rw [hz] at b3;obtain ⟨y,hy⟩: ∃ y,m[n.length]=y:=⟨_,rfl⟩;rw [hy] at b3;obtain ⟨k3,y0,k1,x0,m0,⟨d1,j0,s0,a1,w0,u0,l0,q0,o0⟩,⟨c1,i0,r0,z0,v0,t0,k0,p0,n0⟩,t,d0,m1,l1,j1,i1,f1,r,o,c0⟩:=y;have hp:=T5 (.mk k3 y0 k1 x0 m0 (.mk d1 j0 s0 a1 w0 u0 l0 q0 o0) (.mk c1 i0 r0 z0 v0 t0 k0 p0 n0) t d0 m1 l1 j1 i1 f1 r o c0);refine rn [5,0,1,2,3] ?_;refine H7 hA (by rw [y2];omega) fun b1 o1 e1=> ?_;subst e1;have v2: ∀ (Q:List HP),Le Q q-> ∀ (j:Nat) (v:Value),nth (stC (.mk k3 y0 k1 x0 m0 (.mk d1 j0 s0 a1 w0 u0 l0 q0 o0) (.mk c1 i0 r0 z0 v0 t0 k0 p0 n0) t d0 m1 l1 j1 i1 f1 r o c0)) j=some v->Cl Q ⟨b1,o1+(n.length:Int).toNat*25+j,none⟩ v:=fun Q hQ j v hv=>cF hA hQ Ze b0 rfl j v (by rw [hy,<-Us];exact hv)
   have g3: ∀ (Q:List HP) (i:Nat),Le Q q->HL Q (rdA i b1 (o1+(n.length:Int).toNat*25) (stC (.mk k3 y0 k1 x0 m0 (.mk d1 j0 s0 a1 w0 u0 l0 q0 o0) (.mk c1 i0 r0 z0 v0 t0 k0 p0 n0) t d0 m1 l1 j1 i1 f1 r o c0))):=fun Q i hQ=>HL.rdA fun j v hk=>v2 Q hQ j v (by rw [Us];exact hk)
   refine dd [3] ?_;refine iM 4 (us:=stC (.mk k3 y0 k1 x0 m0 (.mk d1 j0 s0 a1 w0 u0 l0 q0 o0) (.mk c1 i0 r0 z0 v0 t0 k0 p0 n0) t d0 m1 l1 j1 i1 f1 r o c0)) rfl rfl isAgg126 sizeOf126 rfl (fun k v hk=>v2 _ leA k v (by rw [Us];exact hk)) ?_;refine Z7 (fl:= [⟨9,10,fun g=> pt g,fun g=>pto g AF⟩,⟨10,11,fun g=> pt g,fun g=>pto g B7⟩]) ?_;refine Ji 5 ⟨⟨_,rfl,rfl,rfl,rfl,rfl,rfl,fun q=>bA zeroValue240⟩,⟨_,rfl,rfl,rfl,rfl,rfl,rfl,fun q=>bA zeroValue126⟩,trivial⟩ call157 (aD _) (IH (.mk k3 y0 k1 x0 m0 (.mk d1 j0 s0 a1 w0 u0 l0 q0 o0) (.mk c1 i0 r0 z0 v0 t0 k0 p0 n0) t d0 m1 l1 j1 i1 f1 r o c0) (by have:=Qk (aA b0);rw [hy] at this;exact this) (by have:=Nb ht (by rw [Yb];exact aX (aA b0));rw [hy] at this;exact this) (f:=g) knA (bU (by have:=Zq6 h b0;rw [hy] at this;exact this) leA) ⟨by omega,⟨by omega,by omega⟩,by omega⟩) ?_ (hL:=(hlA (h:=by repeat first|exact trivial|refine ⟨clA,?_⟩|refine dC (g3 _ _ leA) ?_|refine ⟨v2 _ leA 0 _ rfl,?_⟩|refine ⟨v2 _ leA _ _ rfl,?_⟩)));rintro _ _ ⟨g2,⟨k2,i2,s2,h2,t1,⟨o2,q1,z1,l2,f2,d2,s1,x1,v1⟩,⟨m2,p1,y1,j2,e2,b2,r1,w1,u1⟩,a0,g0,u2,t2,r2,q2,p2,z,p,f0⟩,rfl,rfl,d3⟩;refine ⟨trivial,?_⟩;refine Vl 6 ⟨⟨_,rfl,rfl,rfl,rfl,rfl,rfl,fun q=>bA zeroValue240⟩,⟨_,rfl,rfl,rfl,rfl,rfl,rfl,fun q=>bA zeroValue126⟩,trivial⟩ (jM rfl) ?_;refine Vl 7 ⟨⟨_,rfl,rfl,rfl,rfl,rfl,rfl,fun q=>bA zeroValue240⟩,⟨_,rfl,rfl,rfl,rfl,rfl,rfl,fun q=>bA zeroValue126⟩,trivial⟩ (eB rfl rfl) ?_;refine Vl 8 ⟨⟨_,rfl,rfl,rfl,rfl,rfl,rfl,fun q=>bA zeroValue240⟩,⟨_,rfl,rfl,rfl,rfl,rfl,rfl,fun q=>bA zeroValue126⟩,trivial⟩ (eB rfl rfl) ?_;refine Yn (e0:=⟨9,10,fun g=> pt g,fun g=>pto g AF⟩) (hnd:=by simp) 9 ⟨⟨_,rfl,rfl,rfl,rfl,rfl,rfl,fun q=>bA zeroValue240⟩,⟨_,rfl,rfl,rfl,rfl,rfl,rfl,fun q=>bA zeroValue126⟩,trivial⟩ fun ga=> ?_;change XF _ _ _ _ _ _ _ [⟨10,11,fun g=> pt g,fun g=>pto g B7⟩] _ _ _ ((10,pt ga)::_) _ _ (pto ga AF::_);refine Yn (e0:=⟨10,11,fun g=> pt g,fun g=>pto g B7⟩) (hnd:=by simp) 10 ⟨⟨_,rfl,rfl,rfl,rfl,rfl,rfl,fun q=>bA zeroValue126⟩,trivial⟩ fun gb=> ?_;change XF _ _ _ _ _ _ _ [] _ _ _ ((11,pt gb)::_) _ _ (pto gb B7::_);refine dO ?_;refine rn [12,13,0,2,0,0,3,0] ?_;refine bI (Zl (u:=(.mk k2 i2 s2 h2 t1 (.mk o2 q1 z1 l2 f2 d2 s1 x1 v1) (.mk m2 p1 y1 j2 e2 b2 r1 w1 u1) a0 g0 u2 t2 r2 q2 p2 z p f0)) stC underlying53 Ue rfl rfl Ze rfl) ?_;rintro _ _ ⟨gl,rfl,rfl⟩;refine bI (Zu (f:=stC) (l:=n) (m:= [(.mk k2 i2 s2 h2 t1 (.mk o2 q1 z1 l2 f2 d2 s1 x1 v1) (.mk m2 p1 y1 j2 e2 b2 r1 w1 u1) a0 g0 u2 t2 r2 q2 p2 z p f0)]) underlying53 Ue rfl rfl Ze rfl rfl Zj ((aV _).le Zj) V1 (by simp;omega) (by simp;omega)) ?_;rintro _ _ ⟨a3,c3,rfl,rfl⟩;refine ox 8 ?_;refine X.sts (l:=n) (s:=(.mk k2 i2 s2 h2 t1 (.mk o2 q1 z1 l2 f2 d2 s1 x1 v1) (.mk m2 p1 y1 j2 e2 b2 r1 w1 u1) a0 g0 u2 t2 r2 q2 p2 z p f0)) Zj Zj ?_;have x2:=Fnd.To.stmt (Stm.er (.mk k3 y0 k1 x0 m0 (.mk d1 j0 s0 a1 w0 u0 l0 q0 o0) (.mk c1 i0 r0 z0 v0 t0 k0 p0 n0) t d0 m1 l1 j1 i1 f1 r o c0)) g.er;rw [<-bL Prod.fst d3] at x2;obtain ⟨h3,⟨j3,i3⟩,f3,_⟩:=x2;dsimp only [FC.er] at h3 j3 i3 f3
   have e3:R=((Fnd.blk g2.er (Zk (m.drop (n.length+1)))).1,Zk (n++ [(.mk k2 i2 s2 h2 t1 (.mk o2 q1 z1 l2 f2 d2 s1 x1 v1) (.mk m2 p1 y1 j2 e2 b2 r1 w1 u1) a0 g0 u2 t2 r2 q2 p2 z p f0)])++(Fnd.blk g2.er (Zk (m.drop (n.length+1)))).2):=by
    rw [w2,aS b0,hy,Eb];simp only [Zk,Fnd.blk];rw [if_pos (show g.er.flaw=0 from h9)];simp only [<-d3,aB,fZ]
   have l3:(g2.names.l.length+Zc (m.drop (n.length+1))<=300000/\(0<=g2.locals/\g2.locals+Zc (m.drop (n.length+1))<=300000)/\0<=g2.stm):=⟨by omega,⟨by omega,by omega⟩,by omega⟩;refine aZ (ih (g2,(a3,c3,n++ [(.mk k2 i2 s2 h2 t1 (.mk o2 q1 z1 l2 f2 d2 s1 x1 v1) (.mk m2 p1 y1 j2 e2 b2 r1 w1 u1) a0 g0 u2 t2 r2 q2 p2 z p f0)]),_) ⟨by simp;omega,rfl,by rw [aK];exact e3,by rw [aK];exact l3⟩ (by simp;omega)) Zg leA
 have n3:R=(g.er,Zk n):=by
  rcases dY n.length m.length with b0|b0
  . rw [w2,aS b0];simp only [Zk,Fnd.blk];rw [if_neg (show ¬g.er.flaw=0 from fun hg=>by revert h0;rw [aR (show (n.length:Int)<m.length by omega),show g.flaw=0 from hg];decide)];simp
  rw [w2,dB b0];simp only [Zk,Fnd.blk,cK]
 refine rn [7,0,1,0,3,0,1,0,2] ?_;refine bK (q':=fcM ({ g with names:=f.names,locals:=f.locals } :FC)::_) (bY ((iD (φ:=fun M=>g.At M) knA (bU hf)).imp fun M h=>FC.At.b h.1 h.2)) ?_;refine X.fzB (m:=n) ?_;refine Zq (fcM ({ g with names:=f.names,locals:=f.locals } :FC)::blM a2 c2 n::q) func121 (N7 results121) ⟨_,rfl,({ g with names:=f.names,locals:=f.locals } :FC),a2,c2,n,rfl,rfl,by unfold Fnd.block;rw [hR,n3];rfl⟩
theorem Zkl: ∀ N:Nat,(∀ (x:Stm),x.sz<=N->x.er.thin-> ∀ {f:FC} {q:List HP},(Kn q fun M=>f.At M)->(Kn q fun M=>x.At M)->(AA f x)->CallF prog G 157 (Bd f x) q (Ak q f x))/\(∀ (m:List Stm) (a:Option Addr) (c:Nat),Zc m<=N->Vb (Zk m)-> ∀ {f:FC} {q:List HP},(Kn q fun M=>f.At M)->(Kn q fun M=>BlkAt M a c m)->(Bo f m)->CallF prog G 121 [.agg (fcC f).toArray,.slice a m.length c] q (Ret fun v q'=> ∃ (g:FC) (b:Option Addr) (d:Nat) (m':List Stm),v= .tuple [.agg (fcC g).toArray,.slice b m'.length d].toArray/\q'=fcM g::blM b d m'::q/\(g.er,Zk m')=f.er.block (Zk m))):=by
 intro N
 induction N with
 |zero=>
  have k: ∀ (x:Stm),x.sz<=0->x.er.thin-> ∀ {f:FC} {q:List HP},(Kn q fun M=>f.At M)->(Kn q fun M=>x.At M)->(AA f x)->CallF prog G 157 (Bd f x) q (Ak q f x):=fun x l=>by have:=T5 x;omega
  exact ⟨k,fun m a c n e _ _ i h j=>Ev (fun x l=>k x (by omega)) i h e j⟩
 |succ N ih=>
  have k: ∀ (x:Stm),x.sz<=N+1->x.er.thin-> ∀ {f:FC} {q:List HP},(Kn q fun M=>f.At M)->(Kn q fun M=>x.At M)->(AA f x)->CallF prog G 157 (Bd f x) q (Ak q f x):=fun x l e _ _ i h j=>Xl (fun m a c n=>ih.2 m a c (by omega)) i h e j
  exact ⟨k,fun m a c n e _ _ i h j=>Ev (fun x l=>k x (by omega)) i h e j⟩
end
theorem Da {f:Fnd}{M:Nat}(h:f.le N)(hn:N<=M):f.le M:=by
 obtain ⟨o,n,m,l,k,j,i,g,e,d,c,b,a⟩:=h;exact ⟨by omega,by omega,by omega,by omega,by omega,by omega,by omega,by omega,by omega,by omega,by omega,by omega,a⟩
theorem Ds {f:Fnd}(h:f.le N)(w:Int):(f.fl w).le N:=by obtain ⟨x,a⟩:=f.fl_eq w;rw [a];exact h
theorem Fnd.fl_keep (f:Fnd)(w:Int):(f.fl w).locals=f.locals/\(f.fl w).stm=f.stm/\(f.fl w).names=f.names/\(f.fl w).ths=f.ths:=by obtain ⟨x,a⟩:=f.fl_eq w;rw [a];exact ⟨rfl,rfl,rfl,rfl⟩
abbrev iV:=@Fnd.fl_keep
theorem K1 {f:Fnd}{w:Int}(h:f.flaw=0):(f.fl w).flaw=w:=by unfold Fnd.fl;rw [if_pos h]
theorem Sk {f:Fnd}(h:f.le N)(d:PDec):(f.decl1 d).1.le (N+1)/\(f.decl1 d).1.locals=f.locals/\(f.decl1 d).1.stm=f.stm/\(f.decl1 d).1.names=f.names:=by
 have c:=(Ds (Da h (dG N)) 134);have b:=f.fl_keep 134;obtain ⟨r,q,p,o,n,m,l,k,j,i,g,e,a⟩:=h;unfold Fnd.decl1;split
 . split
   . exact ⟨c,b.1,b.2.1,b.2.2.1⟩
   exact ⟨⟨by simp;omega,by dsimp only;omega,by dsimp only;omega,by dsimp only;omega,by simp;omega,by dsimp only;omega,by dsimp only;omega,by dsimp only;omega,by dsimp only;omega,by dsimp only;omega,by dsimp only;omega,by dsimp only;omega,a⟩,rfl,rfl,rfl⟩
 split
 . split
   . exact ⟨c,b.1,b.2.1,b.2.2.1⟩
   exact ⟨⟨by dsimp only;omega,by simp;omega,by dsimp only;omega,by dsimp only;omega,by dsimp only;omega,by simp;omega,by dsimp only;omega,by dsimp only;omega,by dsimp only;omega,by dsimp only;omega,by dsimp only;omega,by dsimp only;omega,by dsimp only;omega⟩,rfl,rfl,rfl⟩
 split
 . exact ⟨⟨by dsimp only;omega,by dsimp only;omega,by dsimp only;omega,by dsimp only;omega,by dsimp only;omega,by dsimp only;omega,by simp;omega,by dsimp only;omega,by dsimp only;omega,by dsimp only;omega,by dsimp only;omega,by dsimp only;omega,a⟩,rfl,rfl,rfl⟩
 split
 . exact ⟨⟨by dsimp only;omega,by dsimp only;omega,by dsimp only;omega,by dsimp only;omega,by dsimp only;omega,by dsimp only;omega,by dsimp only;omega,by simp;omega,by dsimp only;omega,by dsimp only;omega,by dsimp only;omega,by dsimp only;omega,a⟩,rfl,rfl,rfl⟩
 split
 . split
   . exact ⟨c,b.1,b.2.1,b.2.2.1⟩
   exact ⟨⟨by dsimp only;omega,by dsimp only;omega,by simp;omega,by dsimp only;omega,by dsimp only;omega,by dsimp only;omega,by dsimp only;omega,by dsimp only;omega,by simp;omega,by dsimp only;omega,by dsimp only;omega,by dsimp only;omega,a⟩,rfl,rfl,rfl⟩
 split
 . exact ⟨⟨by dsimp only;omega,by dsimp only;omega,by dsimp only;omega,by simp;omega,by dsimp only;omega,by dsimp only;omega,by dsimp only;omega,by dsimp only;omega,by dsimp only;omega,by dsimp only;omega,by dsimp only;omega,by dsimp only;omega,a⟩,rfl,rfl,rfl⟩
 exact ⟨⟨by dsimp only;omega,by dsimp only;omega,by dsimp only;omega,by dsimp only;omega,by dsimp only;omega,by dsimp only;omega,by dsimp only;omega,by dsimp only;omega,by dsimp only;omega,by dsimp only;omega,by dsimp only;omega,by dsimp only;omega,a⟩,rfl,rfl,rfl⟩
theorem Cs {f:Fnd}(h:(f.decl1 d).2.2=true):(f.decl1 d).1.ths.length=f.ths.length+(if d.k=6 then 1 else 0)/\(f.decl1 d).1.flaw=f.flaw:=by
 unfold Fnd.decl1 at h|-;split at h
 . rename_i a;split at h
   . cases h
   rename_i b;rw [if_pos a,if_neg b,if_neg (by omega)];exact ⟨rfl,rfl⟩
 rename_i l;rw [if_neg l];split at h
 . rename_i a;split at h
   . cases h
   rename_i b;rw [if_pos a,if_neg b,if_neg (by omega)];exact ⟨rfl,rfl⟩
 rename_i j;rw [if_neg j];split at h
 . rename_i a;rw [if_pos a,if_neg (by omega)];exact ⟨rfl,rfl⟩
 rename_i i;rw [if_neg i];split at h
 . rename_i a;rw [if_pos a,if_neg (by omega)];exact ⟨rfl,rfl⟩
 rename_i g;rw [if_neg g];split at h
 . rename_i a;split at h
   . cases h
   rename_i b;rw [if_pos a,if_neg b,if_neg (by omega)];exact ⟨rfl,rfl⟩
 rename_i e;rw [if_neg e];split at h
 . rename_i a;rw [if_pos a,if_pos a];exact ⟨by simp,rfl⟩
 rename_i c;rw [if_neg c,if_neg c];exact ⟨rfl,rfl⟩
theorem Hw {f:Fnd}(h:(f.decl1 d).2.2=false):(f.decl1 d).1=f.fl 134:=by
 unfold Fnd.decl1 at h|-;(repeat' split at h)<;>first|(cases h;done)|(split<;>(try split)<;>(try split)<;>(try split)<;>(try split)<;>(try split)<;>(try split)<;>first|rfl|omega|(exfalso;omega))
theorem Et {f:Fnd}(h:f.le N)(d:PDec):(f.decl d).le (N+1)/\(f.decl d).locals=f.locals/\(f.decl d).stm=f.stm:=by
 have k:=Da h (dG N);obtain ⟨i,g,e,v⟩:=Sk h d;unfold Fnd.decl;split
 . exact ⟨Ds k _,(f.fl_keep _).1,(f.fl_keep _).2.1⟩
 split
 . exact ⟨i,g,e⟩
 split
 . exact ⟨Ds i _,((iV _ _).1).trans g,((iV _ _).2.1).trans e⟩
 obtain ⟨u,s,r,q,p,o,n,m,l,t,c,b,a⟩:=i;have j:=h.2.2.2.2.2.2.2.2.2.1;exact ⟨⟨u,s,r,q,p,o,n,m,l,by dsimp only;rw [v];simp;omega,c,b,a⟩,g,e⟩
theorem Mg {f:Fnd}(hf:f.flaw=0)(h:(f.decl d).flaw=0):(f.decl d).ths.length=f.ths.length+(if d.k=6 then 1 else 0):=by
 unfold Fnd.decl at h|-;split at h
 . rw [K1 hf] at h;cases h
 rename_i e;rw [if_neg e];split at h
 . rename_i a;rw [Hw a,K1 hf] at h;cases h
 rename_i a;rw [if_neg a];have b:=Cs (f:=f) (d:=d) (by revert a;cases (f.decl1 d).2.2<;>simp);split at h
 . rw [K1 (b.2.trans hf)] at h;cases h
 rename_i c;rw [if_neg c];exact b.1
mutual
theorem Zk4: ∀ (x:Stm),x.sz<=x.er.nd
 | .mk k ln cl nm wt e ix body els ba bc ea ec id slot other loc=>by
  have b:=H9 body;have a:=H9 els;simp only [Stm.sz,Stm.er,M9];omega
theorem H9: ∀ (l:List Stm),Zc l<=Yz (Zk l)
 | []=>bC _
 |x::r=>by
  have b:=Zk4 x;have a:=H9 r;simp only [Zc,Zk,Yz];omega
end
theorem Lp (h:d.bad=false):(1<=d.k/\d.k<=6)/\(-2147483647<=d.n/\d.n<=2147483647)/\Vb d.body:=by
 unfold PDec.bad Xn at h;simp only [eX,dD,iB] at h;obtain ⟨⟨⟨⟨⟨⟨⟨⟨f,e⟩,_⟩,_⟩,c⟩,b⟩,_⟩,_⟩,a⟩:=h;exact ⟨by omega,by omega,Qs a⟩
theorem parse_nd {l:Bs}{ds:List PDec}(h:J7 l=some ds):(ds.map fun d=>Yz d.body+1).sum<=65536:=by
 unfold J7 at h;split at h
 . cases h
 rename_i g;split at h
 . cases h
 rename_i ts b;split at h
 . cases h
 rename_i c a;split at h
 . cases h
 cases h
 have f:=(H1 b).1;have e:=(Re (aY _) a).1;omega
theorem Pl {α:Type}{f:α->Nat}{x:α}: ∀ {l:List α},x∈l->f x<=(l.map f).sum
 |y::r,h=>by
  rcases cO.1 h with rfl|h
  . simp
  have:=Pl (f:=f) h;simp only [cE,List.sum_cons];omega
theorem Zzu {α:Type}{f:α->Nat}: ∀ {l:List α},l.length<=(l.map fun d=>f d+1).sum
 | []=>bC _
 |y::r=>by have:=Zzu (f:=f) (l:=r);simp only [cE,List.sum_cons,cC];omega
def thB (l:List Dec):List (Sv Stm):=(l.filter fun d=>d.k==6).map fun d=>⟨d.body,d.ba,d.bc⟩
theorem thB_snoc {l:List Dec}{k:Nat}(h:k<l.length):thB (l.take (k+1))=thB (l.take k)++(if l[k].k=6 then [⟨l[k].body,l[k].ba,l[k].bc⟩] else []):=by
 rw [aI h];unfold thB;rw [List.filter_append,aT];congr 1;by_cases hk:l[k].k=6
 . rw [if_pos hk];simp [hk]
 rw [if_neg hk];simp [hk]
theorem thB_len {l:List Dec}:(thB l).length<=l.length:=by unfold thB;rw [aG];exact iN _ _
theorem thB_er (l:List Dec):((l.map Dec.er).filter fun d=>d.k==6).map (·.body)=(thB l).map fun x=>Zk x.l:=by
 unfold thB
 induction l with
 |nil=>rfl
 |cons d r ih=>
  rw [cE,List.filter_cons,List.filter_cons];have a:(Dec.er d).k=d.k:=rfl;rw [a];split
  . rw [cE,cE,cE,ih];rfl
  exact ih
theorem thB_mem {l:List Dec}{x:Sv Stm}(h:x∈thB l): ∃ d∈l,x=⟨d.body,d.ba,d.bc⟩:=by
 unfold thB at h;obtain ⟨d,a,rfl⟩:=cI.1 h;exact ⟨d,(gB.1 a).1,rfl⟩
def FC.z:FC:=⟨.z,.z,0,0,.z,.z,0,0,.z,.z,.z,.z,.z,.z,0,0,0,0,0,0⟩
def pgC (f:FC):List Value:= [f.vars.v,f.arrs.v,I64 f.mu,I64 f.co,f.chs.v,f.ths.v,I64 f.main,I64 f.stm,f.nv.v,f.na.v,f.nm.v,f.nc.v,f.nh.v]
theorem Dw (M:Hp):FC.z.At M:=⟨Rw M,Rw M,Rw M,Rw M,(fun x a=>(by cases a)),Rw M,Rw M,Rw M,Rw M,Rw M,Rw M⟩
theorem FC.z_le:FC.z.er.le 0:=by simp [Fnd.le,FC.er,FC.z,Sv.z]
theorem FC.At.mo {n:Int}(h:f.At M):({ f with most:=n } :FC).At M:=⟨h.vars,h.arrs,h.chs,h.ths,h.bod,h.nv,h.na,h.nm,h.nc,h.nh,h.names⟩
theorem FC.At.mn {n:Int}(h:f.At M):({ f with main:=n } :FC).At M:=⟨h.vars,h.arrs,h.chs,h.ths,h.bod,h.nv,h.na,h.nm,h.nc,h.nh,h.names⟩
theorem Sj {f:Fnd}(h: ¬f.flaw=0): ∀ l,Fnd.decls f l=f
 | []=>rfl
 |d::r=>by unfold Fnd.decls;rw [if_neg h]
theorem Hx {f:Fnd}(h: ¬f.flaw=0)(i:Nat): ∀ l,Fnd.bodies f i l=f
 | []=>rfl
 |d::r=>by unfold Fnd.bodies;rw [if_neg h]
theorem Zzn:(prog.info? 53).map (fun i=>(i.zero,i.size,i.bytes))=some (some (.slice none 0 0),1,24):=by kernel_rfl
section
variable {m:List Dec}{a:Option Addr}{c:Nat}
abbrev Bh :=((.cells zz10.toArray 29 (0,0)):Obj)
theorem find_ok (h:Kn q fun M=>DcsAt M a c m)(hs:((m.map Dec.er).map fun d=>Yz d.body+1).sum<=65536):CallF prog G 77 [.slice a m.length c] (q) (Ret fun v q'=> ∃ (g:FC) (y z e:Int),v= .tuple [.agg (pgC g).toArray,.agg [Value.int .i64 y,I64 z].toArray,I64 e].toArray/\q'=fcM g::q/\(match Ej (m.map Dec.er) with|none=>e≠0|some F=>e=0/\g.er=F)):=by
 refine aC func77 ntmps77 rfl fun F cs=> ?_;have hA:=Zq4 h;have s1:=Zv (f:=dcC) (sz:=6) (fun _=>rfl) m;refine iJ (fun w s=>Kn.dsL (h.le leA) s) fun f3=> ?_;have w2:m.length<=65536:=by have:=Zzu (f:=fun d=>Yz d.body) (l:=m.map Dec.er);rw [aG] at this;omega
 have o2: ∀ d∈m,Zc d.body<=65536:=fun d hd=>by have h1:=Pl (f:=fun d=>Yz d.body+1) (aX (f:=Dec.er) hd);have h2:=H9 d.body;have h3:(Dec.er d).body=Zk d.body:=rfl;rw [h3] at h1;omega
 obtain ⟨R,hR⟩: ∃ R,Ej (m.map Dec.er)=R:=⟨_,rfl⟩;rw [hR];unfold Ej at hR;refine xo 2 ?_;refine bE zeroValue29 fun n1=> ?_
 refine bE zeroValue107 fun n2=> ?_
 refine oo 6 ?_;refine aU call117 (mayD_ok (h.le leA)) ?_;refine ox 2 ?_;refine dH 15 rfl ?_ ?_<;>intro h0
 . have d0:(m.map Dec.er).any PDec.bad=true:=(by cases p:(m.map Dec.er).any PDec.bad;rw [p] at h0;exact bD h0 (by decide);rfl);rw [if_pos d0] at hR;refine rn [5,0,0,2] ?_;refine bK (q':=fcM FC.z::_) (bY (fun _ _ _=>Dw _)) ?_;refine Zq (fcM FC.z::q) func77 (Vn results77) ⟨_,rfl,FC.z,0,0,2,rfl,rfl,by rw [<-hR];decide⟩
 have d0:(m.map Dec.er).any PDec.bad=false:=(by cases p:(m.map Dec.er).any PDec.bad;rfl;rw [p] at h0;exact bD h0 (by decide));rw [if_neg (by rw [d0];decide)] at hR;have q0: ∀ d∈m,(1<=d.k/\d.k<=6)/\(-2147483647<=d.n/\d.n<=2147483647)/\Vb (Zk d.body):=fun d hd=>Lp (d:=d.er) (by rw [List.any_eq_false] at d0;simpa using d0 _ (aX (f:=Dec.er) hd))
 refine xo 5 ?_;refine bE zeroValue240 fun n3=> ?_
 refine rn [0,11] ?_;refine aZ (cD (fun (s:(Nat×FC)×(Option Addr×Nat×List (Sv Stm))×Option Addr)=>s.1.1<=m.length/\s.2.2=a/\s.2.1.2.2=thB (m.take s.1.1)/\Fnd.decls .z (m.map Dec.er)=Fnd.decls s.1.2.er ((m.drop s.1.1).map Dec.er)/\s.1.2.er.le s.1.1/\(s.1.2.locals=0/\s.1.2.stm=0)/\(s.1.2.flaw=0->s.2.1.2.2.length=s.1.2.ths.l.length)) (fun s=> [(0,.slice s.2.2 m.length c),(2,pt n1),(3,pt n2),(4,I64 0),(5,pt n3),(6,.slice s.2.1.1 s.2.1.2.2.length s.2.1.2.1),(7,I64 (s.1.1:Int))]) (fun s=>lsH (@Sv.v Stm) 53 s.2.1.1 s.2.1.2.1 s.2.1.2.2::fcM s.1.2::pto n3 (.cells (fcC s.1.2).toArray 240 (0,0))::pto n1 Bh::pto n2 AD::(q++F)) (fun s=>m.length - s.1.1) (fun s l0 ih=> ?_) ((0,FC.z),(none,0, []),a) ⟨bC _,rfl,rfl,rfl,FC.z_le,⟨rfl,rfl⟩,fun _=>rfl⟩) Zg (bB leA (bB (Zr (@Sv.v Stm) 53 _) (bB (bY (φ:=fun M=>FC.z.At M) (mn:=fun e h=>FC.At.mono e h) (fun _ _ _=>Dw _)) leA)));try dsimp only at l0 ih|-
 obtain ⟨z2,l2,p0,o0,g0,⟨n0,m0⟩,x0⟩:=l0;obtain ⟨⟨k,g⟩,⟨ab,cb,B⟩,a2⟩:=s;dsimp only at*;subst l2;have g3:B.length<=65536:=(by rw [p0];exact cL thB_len (by rw [bM];omega));refine xo 8 ?_;refine Zd [23,0,2,3,4,5,6,7] ?_;apply Zt 4 27 23 rfl
 . intro g1 M1;have h1:=sp g1;refine rn [1,0,2] ?_;exact Zz M1 ⟨Ws g1,Zw⟩
 . intro g1 M1;have h1:=sp g1;refine oo 4 ?_;exact Zz M1 ⟨Wo g1,Zw⟩
 refine ox 1 ?_;refine dH 27 rfl ?_ ?_<;>intro h0
 . obtain ⟨b,h9⟩:k<m.length/\g.flaw=0:=(by rw [aQ] at h0;exact ⟨by simpa using h0.1,by simpa using h0.2⟩);have u1:=q0 _ (aA b);have q1:=thB_snoc b;refine rn [5,0,1,2,3] ?_;refine H7 hA (by rw [s1];omega) fun b1 o1 e1=> ?_;subst e1;have y1: ∀ (Q:List HP),Le Q q-> ∀ (j:Nat) (v:Value),nth (dcC m[k]) j=some v->Cl Q ⟨b1,o1+(k:Int).toNat*6+j,none⟩ v:=fun Q hQ j v hv=>cF hA hQ (fun _=>rfl) b rfl j v (by rw [<-Us];exact hv)
   refine dd [3] ?_;refine iM 4 (us:=dcC m[k]) rfl rfl isAgg229 sizeOf229 rfl (fun k v hk=>y1 _ leA k v (by rw [Us];exact hk)) ?_;refine Ym 5 call118 (aD _) (X6 (f:=g) (d:=m[k]) knA (Da g0 (by omega)) u1.1 u1.2.1) ?_;rintro _ _ ⟨o,rfl,rfl,a0⟩;refine ⟨trivial,?_⟩;refine rn [7,0,4] ?_;skip;refine rn [2,0,2] ?_;refine xp 41 ?_ ?_<;>intro h1
   . refine rn [7,0] ?_;refine bI (Y6 (@Sv.v Stm) [⟨m[k].body,m[k].ba,m[k].bc⟩] underlying241 Zzn rfl rfl rfl rfl rfl rfl (fun _=>rfl)) ?_;rintro _ _ ⟨gl,rfl,rfl⟩;refine bI (Z6 (f:= @Sv.v Stm) (l:=B) (m:= [⟨m[k].body,m[k].ba,m[k].bc⟩]) underlying241 Zzn rfl rfl rfl Zj ((bQ _).le Zj) (fun _=>rfl) (by simp;omega) (by simp;omega)) ?_;rintro _ _ ⟨a3,c3,rfl,rfl⟩;refine ox 8 ?_;have t0:=Et g0 m[k].er;rw [<-a0] at t0;obtain ⟨m1,l1,k1⟩:=t0;have j1:Fnd.decls g.er ((m.drop k).map Dec.er)=Fnd.decls o.er ((m.drop (k+1)).map Dec.er):=by rw [aS b,cE,Fnd.decls,if_pos (show g.er.flaw=0 from h9),a0]
     have k0:o.flaw=0->o.ths.l.length=g.ths.l.length+1:=fun p=>by have:=Mg (f:=g.er) (d:=m[k].er) h9 (by rw [<-a0];exact p);rw [<-a0,if_pos (show m[k].er.k=6 from (by simpa using h1:m[k].k=6))] at this;simpa [FC.er] using this
     refine aZ (ih ((k+1,o),(a3,c3,B++ [⟨m[k].body,m[k].ba,m[k].bc⟩]),_) ⟨by dsimp only;omega,rfl,by dsimp only;rw [q1,if_pos (show m[k].k=6 by simpa using h1),<-p0],o0.trans j1,m1,⟨l1.trans n0,k1.trans m0⟩,fun p=>by have h1:=k0 p;have h2:=x0 h9;simp;omega⟩ (by dsimp only;omega)) Zg leA
   refine xx 8 ?_;have t0:=Et g0 m[k].er;rw [<-a0] at t0;obtain ⟨m1,l1,k1⟩:=t0;have j1:Fnd.decls g.er ((m.drop k).map Dec.er)=Fnd.decls o.er ((m.drop (k+1)).map Dec.er):=by rw [aS b,cE,Fnd.decls,if_pos (show g.er.flaw=0 from h9),a0]
   have k0:o.flaw=0->o.ths.l.length=g.ths.l.length+0:=fun p=>by have:=Mg (f:=g.er) (d:=m[k].er) h9 (by rw [<-a0];exact p);rw [<-a0,if_neg (show ¬m[k].er.k=6 from (by simpa using h1: ¬m[k].k=6))] at this;simpa [FC.er] using this
   refine aZ (ih ((k+1,o),(ab,cb,B),_) ⟨by dsimp only;omega,rfl,by dsimp only;rw [q1,if_neg (show ¬m[k].k=6 by simpa using h1),<-p0];simp,o0.trans j1,m1,⟨l1.trans n0,k1.trans m0⟩,fun p=>by have h1:=k0 p;have h2:=x0 h9;simp;omega⟩ (by dsimp only;omega)) Zg leA
 have hD:Fnd.decls .z (m.map Dec.er)=g.er:=by
  rcases dY k m.length with b|b
  . rw [o0];exact Sj (fun hg=>by revert h0;rw [aR (show (k:Int)<m.length by omega),show g.flaw=0 from hg];decide) _
  rw [o0,dB b];rfl
 have hB:g.flaw=0->B=thB m:=fun hg=>by rw [p0,fD];rcases dY k m.length with b|b;(revert h0;rw [aR (show (k:Int)<m.length by omega),show g.flaw=0 from hg];intro p;exact bD p (by decide));exact b
 rw [hD,thB_er] at hR;clear ih o0;refine rn [4,0] ?_;refine aU call119 (Zjg (f:=g) (s:=Jr) knA) ?_;refine ox 3 ?_;obtain ⟨A,z0⟩: ∃ A,g.er.at Jr=A:=⟨_,rfl⟩;rw [z0] at hR|-;obtain ⟨f1,c0⟩: ∃ f1,(if g.er.flaw=0/\(A=0\/((g.er.names.map (·.k)).getD (A - 1) 0)≠6) then g.er.fl 133 else g.er)=f1:=⟨_,rfl⟩;rw [c0] at hR;refine jI (fun (x:FC)=> [(2,pt n1),(3,pt n2),(4,I64 0),(5,pt n3),(6,.slice ab B.length cb),(8,I64 ((A:Int) - 1))]) (fun x=>lsH (@Sv.v Stm) 53 ab cb B::fcM x::pto n3 (.cells (fcC x).toArray 240 (0,0))::pto n1 Bh::pto n2 AD::(q++F)) (fun x=>x.er=f1) (fun x j0=> ?_) fun K=> ?_
 . have hk:f1.locals=0/\f1.stm=0/\f1.names=g.er.names/\f1.ths=g.er.ths:=by rw [<-c0];split;exact ⟨(iV _ _).1.trans n0,(iV _ _).2.1.trans m0,(iV _ _).2.2.1,(iV _ _).2.2.2⟩;exact ⟨n0,m0,rfl,rfl⟩
   have s0:f1.flaw=0->g.flaw=0/\A≠0:=(by rw [<-c0];split;(rename_i p;intro hy;rw [K1 p.1] at hy;cases hy);(rename_i p;intro hy;exact ⟨hy,fun hz=>p ⟨hy,.inl hz⟩⟩));have v1:Fnd.bodies f1 0 ((thB m).map fun x=>Zk x.l)=Fnd.bodies f1 0 (B.map fun x=>Zk x.l):=(by by_cases p:f1.flaw=0;rw [hB (s0 p).1];rw [Hx p,Hx p]);have k0:f1.flaw=0->B.length<=f1.ths.length:=fun p=>(by rw [hk.2.2.2];have:=x0 (s0 p).1;simp only [FC.er,aG];omega);have r2:f1.flaw=0->B=thB m:=fun p=>hB (s0 p).1;have i3:A<=f1.names.length:=(by rw [<-z0,hk.2.2.1];exact Hn);have u2:f1.ths.length<=65536:=(by rw [hk.2.2.2];have:=g0.2.2.2.1;omega);have c2:f1.names.length<=65536:=(by rw [hk.2.2.1];have:=g0.2.2.2.2.2.2.2.2.2.1;omega)
   rw [v1] at hR;obtain ⟨j2,i2,f2,e2⟩:=hk;have s2:f1.flaw=0->A≠0:=fun p=>(s0 p).2;clear c0 hD hB s0 g0 n0 m0 x0 p0 v1 f2 e2 h0 z0
   refine xx 6 ?_;refine aZ (cD (fun (s:Nat×FC)=>s.1<=B.length/\Fnd.bodies f1 0 (B.map fun x=>Zk x.l)=Fnd.bodies s.2.er s.1 ((B.drop s.1).map fun x=>Zk x.l)/\s.2.er.names=f1.names/\(s.2.er.locals=0/\0<=s.2.er.stm)/\(s.2.er.flaw=0->f1.flaw=0)/\s.2.er.ths.length=f1.ths.length) (fun s=> [(2,pt n1),(3,pt n2),(4,I64 0),(5,pt n3),(6,.slice ab B.length cb),(8,I64 ((A:Int) - 1)),(9,I64 (s.1:Int))]) (fun s=>lsH (@Sv.v Stm) 53 ab cb B::fcM s.2::pto n3 (.cells (fcC s.2).toArray 240 (0,0))::pto n1 Bh::pto n2 AD::(q++F)) (fun s=>B.length - s.1) (fun s l0 ih=> ?_) (0,x) ⟨bC _,by dsimp only;rw [j0];rfl,by dsimp only;rw [j0],by dsimp only;rw [j0,j2,i2];decide,by dsimp only;rw [j0];exact id,by dsimp only;rw [j0]⟩) Zg leA;try dsimp only at l0 ih|-
   obtain ⟨y2,w0,d1,⟨c1,v0⟩,t1,k2⟩:=l0;obtain ⟨i,g⟩:=s;dsimp only at*;refine xo 8 ?_;refine Zd [75,2,3,4,5,6,8,9] ?_;apply Zt 4 79 75 rfl
   . intro g1 M1;have h1:=sp g1;refine rn [1,0,2] ?_;exact Zz M1 ⟨Ws g1,Zw⟩
   . intro g1 M1;have h1:=sp g1;refine oo 4 ?_;exact Zz M1 ⟨Wo g1,Zw⟩
   refine ox 1 ?_;refine dH 79 rfl ?_ ?_<;>intro h0
   . obtain ⟨b,h9⟩:i<B.length/\g.flaw=0:=(by rw [aQ] at h0;exact ⟨by simpa using h0.1,by simpa using h0.2⟩);have i0:=t1 h9;have w1:=k0 i0;have r1: ∀ x∈B,∃ d∈m,x=⟨d.body,d.ba,d.bc⟩:=fun x p=>thB_mem (by rw [<-r2 i0];exact p);obtain ⟨d,hd,y0⟩:=r1 _ (aA b)
     obtain ⟨x2,a1⟩: ∃ y,B[i]=y:=⟨_,rfl⟩;rw [a1] at y0;have p2:Kn q fun M=>BlkAt M x2.a x2.c x2.l:=(by rw [y0];exact h.imp fun M h=>h.2 _ hd);have p1:Vb (Zk x2.l):=(by rw [y0];exact (q0 d hd).2.2);have v2:Zc x2.l<=65536:=(by rw [y0];exact o2 d hd)
     have d3:g.ths.l.length=g.er.ths.length:=(aG _).symm;have f0:g.names.l.length<=65536:=(by rw [show g.names.l=f1.names from d1];exact c2);replace c1:g.locals=0:=c1;replace v0:0<=g.stm:=v0;refine Ur (fl:= @Sv.v Stm) (l:=B) (a:=ab) (by omega) fun gb e_=> ?_;subst e_;refine rn [7,0,2,0,1,2,3,4] ?_;refine ldD 4 ?_ (hc:=(jO (n:=i) (bQ _) Zj b rfl));refine bW 88 (.slice x2.a x2.l.length x2.c) rfl (by rw [a1];rfl) ?_;refine Z7 (fl:= [⟨9,10,fun g=> pt g,fun g=>pto g AF⟩]) ?_;refine Ji 5 ⟨⟨_,rfl,rfl,rfl,rfl,rfl,rfl,fun q=>bA zeroValue240⟩,trivial⟩ call121 (aD _) ((Zkl _).2 x2.l x2.a x2.c (aY _) p1 (f:=({ g with most:=0 } :FC)) (kP (φ:=fun M=>g.At M) knA fun M h=>FC.At.mo h) (bU p2) ⟨by dsimp only;omega,⟨by dsimp only;omega,by dsimp only;omega⟩,v0⟩) ?_ (hL:=hlR);rintro _ _ ⟨o,b2,d2,m2,rfl,rfl,r0⟩;refine ⟨trivial,?_⟩;refine Vl 6 ⟨⟨_,rfl,rfl,rfl,rfl,rfl,rfl,fun q=>bA zeroValue240⟩,trivial⟩ (jM rfl) ?_;refine Vl 7 ⟨⟨_,rfl,rfl,rfl,rfl,rfl,rfl,fun q=>bA zeroValue240⟩,trivial⟩ (eB rfl rfl) ?_;refine Vl 8 ⟨⟨_,rfl,rfl,rfl,rfl,rfl,rfl,fun q=>bA zeroValue240⟩,trivial⟩ (eB rfl rfl) ?_;refine Yn (e0:=⟨9,10,fun g=> pt g,fun g=>pto g AF⟩) (hnd:=by simp) 9 ⟨⟨_,rfl,rfl,rfl,rfl,rfl,rfl,fun q=>bA zeroValue240⟩,trivial⟩ fun ga=> ?_;change XF _ _ _ _ _ _ _ [] _ _ _ ((10,pt ga)::_) _ _ (pto ga AF::_);refine dO ?_;refine rn [11,12,0,2,0,0,5,0] ?_;have a0:o.ths.l.length=f1.ths.length:=(by rw [<-k2];have:=bL List.length (show o.er.ths=g.er.ths from (bL (fun x=>x.1.ths) r0).trans (gM (Zk x2.l) _).e.2.2.2.2.2.1);rw [show o.er.ths.length=o.ths.l.length from aG _] at this;exact this);refine dW (q':=rsH thC 3 55 none 0 []::_) (Zm thC 3 55 _) ?_;refine bI (Zu (f:=thC) (l:= []) (m:=o.ths.l) underlying24 Rk rfl rfl (fun _=>rfl) rfl rfl Zj (bV (kP (φ:=fun M=>o.At M) knA fun M h=>h.ths)) (fun _=>rfl) (by simp;omega) (by simp;omega)) ?_;rintro _ _ ⟨t2,u0,rfl,rfl⟩;rw [aN];refine rn [3,0,1,2,3,4,5,6,7] ?_;have i1:i<o.ths.l.length:=(by omega);obtain ⟨y,hy⟩: ∃ y,o.ths.l[i]=y:=⟨_,rfl⟩;refine Oz (fl:=thC) (sz:=3) (l:=o.ths.l) (a:=t2) (by omega) fun gt e_=> ?_;subst e_;refine dd [7,8] ?_;refine jD 9 rfl (Wk (f:=thC) (l:=o.ths.l) (u:=⟨y.nm,y.loc,m2,b2,d2⟩) (n:=i) (k:=2) rfl rfl sizeOf53 (fun _=>rfl) rfl i1 rfl (by rw [hy];rfl) rfl rfl Zj) ?_;rintro _ _ ⟨rfl,rfl⟩;refine ⟨hlR,?_⟩;refine dd [10,11] ?_;refine jD 12 rfl (Wk (f:=thC) (l:=o.ths.l.set i ⟨y.nm,y.loc,m2,b2,d2⟩) (u:=⟨y.nm,o.most,m2,b2,d2⟩) (n:=i) (k:=1) rfl rfl sizeOf3 (fun _=>rfl) rfl (by rw [bG];exact i1) rfl (by rw [cZ];rfl) rfl rfl Zj) ?_;refine kk0 ?_;refine bW 12 (.slice (some ⟨gt,0,none⟩) ((o.ths.l.set i ⟨y.nm,y.loc,m2,b2,d2⟩).set i ⟨y.nm,o.most,m2,b2,d2⟩).length u0) rfl (by rw [bG,bG]) ?_;refine rn [0,4,0,7] ?_;refine Mc ?_;refine bK (q':=fcM ({ o with ths:=⟨(o.ths.l.set i ⟨y.nm,y.loc,m2,b2,d2⟩).set i ⟨y.nm,o.most,m2,b2,d2⟩,some ⟨gt,0,none⟩,u0⟩ } :FC)::_) (bY ((iD (φ:=fun M=>o.At M) knA (iD (svK (x:=⟨(o.ths.l.set i ⟨y.nm,y.loc,m2,b2,d2⟩).set i ⟨y.nm,o.most,m2,b2,d2⟩,some ⟨gt,0,none⟩,u0⟩) (f:=thC)) (show Kn _ fun M=>BlkAt M b2 d2 m2 from knA))).imp fun M h=>FC.At.t h.1 h.2.1 (fun z hz=>by rcases bR hz with hz|hz;rcases bR hz with hz|hz;exact h.1.bod z hz;rw [hz];exact h.2.2;rw [hz];exact h.2.2))) ?_;have q2:((o.ths.l.set i ⟨y.nm,y.loc,m2,b2,d2⟩).set i ⟨y.nm,o.most,m2,b2,d2⟩).map Th.er=(o.ths.l.map Th.er).set i ⟨y.nm,o.most,Zk m2⟩:=by rw [fU,dZ];rfl
     have z1:((o.ths.l.map Th.er).getD i ⟨em,0, []⟩).nm=y.nm:=by rw [gD (by simpa using i1)];simp [hy,Th.er]
     have x1:Fnd.bodies f1 0 (B.map fun x=>Zk x.l)=Fnd.bodies ({ o with ths:=⟨(o.ths.l.set i ⟨y.nm,y.loc,m2,b2,d2⟩).set i ⟨y.nm,o.most,m2,b2,d2⟩,some ⟨gt,0,none⟩,u0⟩ } :FC).er (i+1) ((B.drop (i+1)).map fun x=>Zk x.l):=by
      rw [w0,aS b,cE,Fnd.bodies,if_pos (show g.er.flaw=0 from h9),a1];dsimp only;rw [show Fnd.block { g.er with most:=0 } (Zk x2.l)=(o.er,Zk m2) from r0.symm];congr 1;simp only [FC.er,q2];rw [z1]
     refine aZ (ih (i+1,({ o with ths:=⟨(o.ths.l.set i ⟨y.nm,y.loc,m2,b2,d2⟩).set i ⟨y.nm,o.most,m2,b2,d2⟩,some ⟨gt,0,none⟩,u0⟩ } :FC)) ⟨by dsimp only;omega,x1,(bL (fun x=>x.1.names) r0).trans d1,⟨(bL (fun x=>x.1.locals) r0).trans c1,by have h1:=(gM (Zk x2.l) ({ g with most:=0 } :FC).er).s;have h2:o.er.stm=_:=bL (fun x=>x.1.stm) r0;show 0<=o.er.stm;rw [h2];exact Int.le_trans v0 h1⟩,fun _=>i0,by show (((o.ths.l.set i ⟨y.nm,y.loc,m2,b2,d2⟩).set i ⟨y.nm,o.most,m2,b2,d2⟩).map Th.er).length=_;rw [aG,bG,bG];exact a0⟩ (by dsimp only;omega)) Zg leA
   have hE:Fnd.bodies f1 0 (B.map fun x=>Zk x.l)=g.er:=by
    rcases dY i B.length with b|b
    . rw [w0];exact Hx (fun hg=>by revert h0;rw [aR (show (i:Int)<B.length by omega),show g.flaw=0 from hg];decide) _ _
    rw [w0,dB b];rfl
   rw [hE] at hR;clear ih w0;refine rn [6,0,2] ?_;refine xp 113 ?_ ?_<;>intro h1
   . rw [if_pos (show g.er.flaw≠0 from h1)] at hR;refine rn [2,0,1,2,3,4,5,6,7,8,0] ?_;refine bK (q':=fcM FC.z::_) (bY (fun _ _ _=>Dw _)) ?_;refine Zq (fcM FC.z::q) func77 (Vn results77) ⟨_,rfl,FC.z,g.pl,g.pc,g.flaw,rfl,rfl,by rw [<-hR];exact h1⟩
   rw [if_neg (show ¬g.er.flaw≠0 from fun p=>p h1)] at hR;have i0:=t1 h1;have w1:=s2 i0;have hN:Kn (fcM g::q) fun M=>g.names.At M nmC:=kP (φ:=fun M=>g.At M) knA fun M h=>h.names;have b0:=bV hN;have r:=Zv (f:=nmC) (sz:=3) (fun _=>rfl) g.names.l
   obtain ⟨⟨nl,na,nc⟩,hf⟩: ∃ x,g.names=x:=⟨_,rfl⟩;rw [hf] at b0 r;dsimp only at b0 r;have f0:g.er.names=nl:=(by simp only [FC.er,hf]);obtain ⟨j,hj⟩: ∃ j,A=j+1:=⟨A - 1,by omega⟩;have b:j<nl.length:=(by rw [<-f0,d1];omega);refine rn [5,0] ?_;refine aM 120 (.slice na nl.length nc) rfl (by show g.names.v=_;rw [hf];rfl) ?_;refine oo 1 ?_;refine aM 121 (Al j) rfl (bL (Value.int .i64) (by omega)) ?_;refine Kw b0 (by rw [r];omega) fun b3 o3 e3=> ?_;subst e3;refine oo 2 ?_;refine ld ?_ (hc:=(cF (n:=j) b0 leA (fun _=>rfl) b rfl 2 _ rfl));refine rn [2,0,4,0,1,0,0,2] ?_;refine bK (q':=fcM ({ g with main:=nl[j].s } :FC)::_) (bY (kP (φ:=fun M=>g.At M) knA fun M h=>FC.At.mn h)) ?_;refine Zq (fcM ({ g with main:=nl[j].s } :FC)::q) func77 (Vn results77) ⟨_,rfl,({ g with main:=nl[j].s } :FC),0,0,0,rfl,rfl,by rw [<-hR,f0,hj,jE,gD (by simpa using b)];refine ⟨rfl,?_⟩;simp [FC.er,hf]⟩
 have hN:Kn (fcM g::q) fun M=>g.names.At M nmC:=kP (φ:=fun M=>g.At M) knA fun M h=>h.names;have b0:=bV hN;have r:=Zv (f:=nmC) (sz:=3) (fun _=>rfl) g.names.l
 obtain ⟨⟨nl,na,nc⟩,hf⟩: ∃ x,g.names=x:=⟨_,rfl⟩;rw [hf] at b0 r;dsimp only at b0 r;have f0:g.er.names=nl:=by simp only [FC.er,hf]
 have j3:A<=nl.length:=by rw [<-z0,<-f0];exact Hn
 refine rn [3,0,2] ?_;refine XO.part 55 rfl ?_ ?_<;>intro h1
 . replace h1:=sp h1;refine oo 3 ?_;refine XO.part 58 rfl ?_ ?_<;>intro h2
   . replace h2 := sp h2; refine rn [12,0,1] ?_; refine Zx call120 (aD _) (U9 (f := g) knA) ?_; rintro _ _ ⟨o, rfl, rfl, a0⟩; refine rn [0,1] ?_; -- ['guard T', 'guard T']
     exact aZ (K o (by rw [<-c0,if_pos (by exact ⟨h1,.inl (by omega)⟩)];exact a0)) Zg leA
   replace h2:=sp h2;refine rn [1,0] ?_;refine aM 60 (.slice na nl.length nc) rfl (by show g.names.v=_;rw [hf];rfl) ?_;obtain ⟨i,hi⟩: ∃ i,A=i+1:=⟨A - 1,by omega⟩;have b:i<nl.length:=by omega
   refine oo 1 ?_;refine aM 61 (Al i) rfl (bL (Value.int .i64) (by omega)) ?_;refine Kw b0 (by rw [r];omega) fun b3 o3 e3=> ?_;subst e3;refine oo 2 ?_;refine ld ?_ (hc:=(cF (n:=i) b0 leA (fun _=>rfl) b rfl 1 _ rfl));refine ox 4 ?_;refine xp 67 ?_ ?_<;>intro h3
   . refine rn [2,0,1] ?_; refine Zx call120 (aD _) (U9 (f := g) knA) ?_; rintro _ _ ⟨o, rfl, rfl, a0⟩; refine rn [0,1] ?_; -- ['guard T', 'guard F', 'adr3', 'cond T']
     exact aZ (K o (by rw [<-c0,if_pos (by refine ⟨h1,.inr ?_⟩;rw [f0,hi,jE,gD (by simpa using b)];simpa using h3)];exact a0)) Zg leA
   refine xx 2 ?_; -- ['guard T', 'guard F', 'adr3', 'cond F']
   exact aZ (K g (by rw [<-c0,if_neg (by rintro ⟨_,p|p⟩;omega;revert p;rw [f0,hi,jE,gD (by simpa using b)];simpa using h3)])) Zg leA
 replace h1 := sp h1; refine ox 15 ?_; -- ['guard F']
 exact aZ (K g (by rw [<-c0,if_neg (by exact fun p=>h1 p.1)])) Zg leA
variable {s:ByteArray}
theorem text_ok:CallF prog G 43 [.string s] (q) (Ret fun v q'=> ∃ (g:FC) (y z e:Int),v= .tuple [.agg (pgC g).toArray,.agg [Value.int .i64 y,I64 z].toArray,I64 e].toArray/\q'=fcM g::q/\(match Hg (bs s) with|none=>e≠0|some F=>e=0/\g.er=F)):=by
 refine aC func43 ntmps43 rfl fun F cs=> ?_;obtain ⟨R,b⟩: ∃ R,Hg (bs s)=R:=⟨_,rfl⟩;rw [b];unfold Hg at b;refine xo 2 ?_;refine bE zeroValue29 fun l=> ?_
 refine bE zeroValue107 fun k=> ?_
 refine oo 5 ?_;refine Zx call76 (aD _) (Parse_ok) ?_;rintro _ _ (⟨f,a,c,d,rfl,rfl⟩|⟨d,y,z,e,h,rfl,rfl⟩)
 iterate 2
  focus
   rw [d] at b;dsimp only at b;refine oo 4 ?_;refine bE zeroValue107 fun j=> ?_
   refine rn [1,0,8] ?_
  rotate_left
 . refine rn [1015,5] ?_;refine Zx call77 (aD _) (find_ok (m:=f) knA (parse_nd d)) ?_;rintro _ _ ⟨g,y,z,e,rfl,rfl,i⟩;refine rn [3,0,0,2] ?_;refine Zq (fcM g::q) func43 (Vn results43) ⟨_,rfl,g,y,z,e,rfl,rfl,by rw [<-b];exact i⟩
 refine gI 15 ?_ rfl (by rw [gL];exact h);refine rn [2,0,1,2,3,4,5,6,0] ?_;refine bK (q':=fcM FC.z::_) (bY (fun _ _ _=>Dw _)) ?_;refine Zq (fcM FC.z::q) func43 (Vn results43) ⟨_,rfl,FC.z,y,z,e,rfl,rfl,by rw [<-b];exact h⟩
end
end Go.Proofs.YtflkjkhijcdbaaaGreat
namespace Go.Proofs.YtflkjkhijcdbaaaGreat
open Go Go.RowKit Wx Go.Proofs.Tryz
variable {n i:Nat}
structure Ch where
 room:Int
 all:List Int
 taken:Nat
structure Sy where
 owners:List Int
 conds:List (List Int)
 chans:List Ch
variable {s:Sy}
def Ch.items (c:Ch):List Int:=c.all.drop c.taken
abbrev inR (k:Int)(n:Nat):Prop:=0<=k/\k<n
abbrev thr (t:Int):Prop:=0<=t/\t<=7
abbrev val (v:Int):Prop:= -2147483648<=v/\v<=2147483647
def W2 (s:Sy)(m t:Int):Sy×Bool×Int:=
 if inR m s.owners.length then if thr t then if s.owners.getD m.toNat 0= -1 then ({ s with owners:=s.owners.set m.toNat t },true,0) else (s,false,0) else (s,false,2) else (s,false,4)
def Yy (s:Sy)(m t:Int):Sy×Int:=
 if inR m s.owners.length then if thr t then if s.owners.getD m.toNat 0=t then ({ s with owners:=s.owners.set m.toNat (-1) },0) else (s,140) else (s,2) else (s,4)
def Uo (s:Sy)(k t:Int):Sy×Int:=
 if inR k s.conds.length then if thr t then if ∃ l∈s.conds,t∈l then (s,141) else ({ s with conds:=s.conds.set k.toNat (s.conds.getD k.toNat []++ [t]) },0) else (s,2) else (s,4)
def Y5 (s:Sy)(k:Int):Sy×Int×Int:=
 if inR k s.conds.length then if s.conds.getD k.toNat []= [] then (s, -1,0) else ({ s with conds:=s.conds.set k.toNat ((s.conds.getD k.toNat []).drop 1) },(s.conds.getD k.toNat []).headD 0,0) else (s, -1,4)
def Kk (s:Sy)(k:Int):Sy×List Int×Int:=
 if inR k s.conds.length then ({ s with conds:=s.conds.set k.toNat [] },s.conds.getD k.toNat [],0) else (s, [],4)
def ch0:Ch:=⟨1, [],0⟩
def Vt (s:Sy)(q v:Int):Sy×Int×Int:=
 if inR q s.chans.length then if val v then if ((s.chans.getD q.toNat ch0).items.length:Int)<(s.chans.getD q.toNat ch0).room then
  ({ s with chans:=s.chans.set q.toNat { s.chans.getD q.toNat ch0 with all:=(s.chans.getD q.toNat ch0).all++ [v] } },(s.chans.getD q.toNat ch0).all.length,0) else (s, -1,0) else (s, -1,2) else (s, -1,4)
def We (s:Sy)(q:Int):Sy×Int×Int×Int:=
 if inR q s.chans.length then if (s.chans.getD q.toNat ch0).items= [] then (s,0, -1,0) else
  ({ s with chans:=s.chans.set q.toNat { s.chans.getD q.toNat ch0 with taken:=(s.chans.getD q.toNat ch0).taken+1 } },(s.chans.getD q.toNat ch0).all.getD (s.chans.getD q.toNat ch0).taken 0,(s.chans.getD q.toNat ch0).taken,0) else (s,0, -1,4)
def Ch.ok (n:Nat)(c:Ch):Prop:=(1<=c.room/\c.room<=16)/\c.taken<=c.all.length/\c.all.length<=n/\(c.items.length:Int)<=c.room/\ ∀ v∈c.all,val v
structure Sy.ok (n:Nat) (s:Sy):Prop where
 no:s.owners.length<=64
 nc:s.conds.length<=64
 nh:s.chans.length<=64
 o: ∀ o∈s.owners, -1<=o/\o<=7
 c: ∀ l∈s.conds,l.length<=n/\ ∀ t∈l,thr t
 h: ∀ x∈s.chans,x.ok n
theorem Sy.ok.mono {m:Nat}(h:s.ok n)(l:n<=m):s.ok m:=
 ⟨h.no,h.nc,h.nh,h.o,fun x hx=>⟨cL (h.c x hx).1 l,(h.c x hx).2⟩,fun x hx=>let ⟨a,b,c,d,e⟩:=h.h x hx;⟨a,b,cL c l,d,e⟩⟩
theorem Yu {α:Type}{l:List α}{d:α}(h:i<l.length):l.getD i d∈l:=by
 have:l.getD i d=l[i]:=by simp [List.getD,h]
 rw [this];exact aA _
theorem Xt {k:Int}(h:inR k n):k.toNat<n:=by obtain ⟨a,b⟩:=h;omega
theorem Iy (h:s.ok n)(m t:Int):(W2 s m t).1.ok n:=by
 unfold W2;split
 . split
   . split
     . rename_i _ e _;exact ⟨by simpa using h.no,h.nc,h.nh,fun o d=>by rcases bR d with d|rfl;exact h.o o d;obtain ⟨a,b⟩:=e;omega,h.c,h.h⟩
     exact h
   exact h
 exact h
theorem Fx (h:s.ok n)(m t:Int):(Yy s m t).1.ok n:=by
 unfold Yy;split
 . split
   . split
     . exact ⟨by simpa using h.no,h.nc,h.nh,fun o a=>by rcases bR a with a|rfl;exact h.o o a;omega,h.c,h.h⟩
     exact h
   exact h
 exact h
theorem waitS_ok (h:s.ok n)(k t:Int):(Uo s k t).1.ok (n+1):=by
 unfold Uo;split
 . rename_i f;split
   . rename_i e;split
     . exact h.mono (by omega)
     refine ⟨h.no,by simpa using h.nc,h.nh,h.o,fun l b=> ?_,(h.mono (dG n)).h⟩;rcases bR b with b|rfl
     . exact (h.mono (dG n)).c l b
     obtain ⟨i,g⟩:=h.c _ (Yu (d:= []) (Xt f));refine ⟨by rw [aK];simp only [cC,aL];omega,fun x a=> ?_⟩;rcases aW.1 a with a|a
     . exact g x a
     rw [bJ.1 a];exact e
   exact h.mono (by omega)
 exact h.mono (by omega)
theorem sendS_ok (h:s.ok n)(q v:Int):(Vt s q v).1.ok (n+1):=by
 unfold Vt;split
 . rename_i f;split
   . rename_i e;split
     . rename_i b;refine ⟨h.no,h.nc,by simpa using h.nh,h.o,(h.mono (dG n)).c,fun x a=> ?_⟩;rcases bR a with a|rfl
       . exact (h.mono (dG n)).h x a
       obtain ⟨i,l,k,j,g⟩:=h.h _ (Yu (d:=ch0) (Xt f));unfold Ch.items at b;rw [bN] at b;refine ⟨i,by dsimp only;rw [aK];omega,by dsimp only;rw [aK,aJ];omega,?_,fun x a=> ?_⟩
       . unfold Ch.items;dsimp only;rw [bN,aK,aJ];omega
       rcases aW.1 a with a|a
       . exact g x a
       rw [bJ.1 a];exact e
     exact h.mono (by omega)
   exact h.mono (by omega)
 exact h.mono (by omega)
theorem S5 (h:s.ok n)(q:Int):(We s q).1.ok n:=by
 unfold We;split
 . rename_i g;split
   . exact h
   rename_i f;refine ⟨h.no,h.nc,by simpa using h.nh,h.o,h.c,fun x a=> ?_⟩;rcases bR a with a|rfl
   . exact h.h x a
   obtain ⟨k,l,j,e,i⟩:=h.h _ (Yu (d:=ch0) (Xt g));have b:0<(s.chans.getD q.toNat ch0).items.length:=gX.2 f;unfold Ch.items at b e;rw [bN] at b e;refine ⟨k,by dsimp only;omega,j,?_,i⟩;unfold Ch.items;dsimp only;rw [bN];omega
 exact h
theorem Tryz.info3:(prog.info? 3).map (fun i=>(i.zero,i.size,i.bytes))=some (some (I64 0),1,8):=by kernel_rfl
abbrev fS:=@Tryz.info3
theorem Tryz.info2:(prog.info? 2).map (fun i=>(i.zero,i.size,i.bytes))=some (some (I64 0),1,8):=by kernel_rfl
abbrev jR:=@Tryz.info2
theorem Tryz.info191:(prog.info? 191).map (fun i=>(i.zero,i.size,i.bytes))=some (some (.agg #[.slice none 0 0]),1,24):=by kernel_rfl
abbrev iO:=@Tryz.info191
theorem Tryz.info180:(prog.info? 180).map (fun i=>(i.zero,i.size,i.bytes))=some (some (.agg #[.slice none 0 0,I64 0,I64 0]),3,40):=by kernel_rfl
abbrev fV:=@Tryz.info180
def lsV (ty:TypeId)(x:SlV Int):HP:=lsH I64 ty x.a x.c x.l
def cqs (x:SlV Int):List Value:= [.slice x.a x.l.length x.c]
structure ChC where
 q:SlV Int
 room:Int
 sent:Int
def chs (x:ChC):List Value:= [.slice x.q.a x.q.l.length x.q.c,I64 x.room,I64 x.sent]
structure SyC where
 ao:Option Addr
 co:Nat
 owners:List Int
 ac:Option Addr
 cc:Nat
 conds:List (SlV Int)
 ah:Option Addr
 ch:Nat
 chans:List ChC
variable {U:SyC}
def syL (p:Nat)(s:SyC):List HP:= [pto p (.cells [.bool true,.slice s.ao s.owners.length s.co,.slice s.ac s.conds.length s.cc,.slice s.ah s.chans.length s.ch].toArray 176 (0,0)),
 lsH I64 3 s.ao s.co s.owners,rsH cqs 1 191 s.ac s.cc s.conds,stars (s.conds.map (lsV 3)),rsH chs 3 180 s.ah s.ch s.chans,stars (s.chans.map fun x=>lsV 2 x.q)]
def Ch.row (c:Ch):List Int×Int×Int:=(c.items,c.room,c.all.length)
def ChC.row (x:ChC):List Int×Int×Int:=(x.q.l,x.room,x.sent)
structure Real (U:SyC) (s:Sy):Prop where
 o:U.owners=s.owners
 c:U.conds.map (·.l)=s.conds
 h:U.chans.map ChC.row=s.chans.map Ch.row
theorem Real.lc (r:Real U s):U.conds.length=s.conds.length:=by rw [<-r.c];simp
theorem Real.lh (r:Real U s):U.chans.length=s.chans.length:=by have:=bL List.length r.h;simpa using this
theorem Real.cl (r:Real U s)(h:i<U.conds.length):s.conds.getD i []=U.conds[i].l:=by
 have a:i<s.conds.length:=by rw [<-r.lc];exact h
 have:=bL (·[i]?) r.c;simp only [eR,aH h,aH a,fX] at this;rw [List.getD,aH a];exact (gC this).symm
theorem Real.hl (r:Real U s)(h:i<U.chans.length):(s.chans.getD i ch0).row=U.chans[i].row:=by
 have a:i<s.chans.length:=by rw [<-r.lh];exact h
 have:=bL (·[i]?) r.h;simp only [eR,aH h,aH a,fX] at this;rw [List.getD,aH a];exact (gC this).symm
theorem Td {α β:Type}(f:α->β)(l:List α)(i:Nat)(x:α):(l.set i x).map f=(l.map f).set i (f x):=by simp
end Go.Proofs.YtflkjkhijcdbaaaGreat
