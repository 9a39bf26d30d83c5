/- Contracts. -/
import Derived.Test.YtflkjkhijcdbaaaGreatNc
set_option maxHeartbeats 16000000
set_option maxRecDepth 100000
set_option linter.all false
namespace Go.Proofs.YtflkjkhijcdbaaaGreat
open Go Go.RowKit Wx Go.Proofs.Tryz
attribute [local irreducible] lsH rsH stars
variable {ts r:List Tk}{k todo:List Item}{ln cl pl pc slot:Int}{nm wt:ByteArray}{e:Ex}{ix:PEx}{i B N:Nat}{loc:Bool}{p:PE}{d:PDec}{G w:World}{M M':Hp}{q q1 q2 q0:List HP}{P:Program}{fr:Fc}{Q:Yn}{ds:List Deferred}{cs:List Frame}
mutual
def PEx.nd:PEx->Nat
 | .mk k _ _ _ _ _ args=>(if k=0 then 0 else 1)+Bq args
def Bq:List PEx->Nat
 | []=>0
 |e::r=>e.nd+Bq r
end
mutual
def PStm.nd:PStm->Nat
 | .mk _ _ _ _ _ e ix body els _ _ _ _=>1+e.nd+ix.nd+Zo body+Zo els
def Zo:List PStm->Nat
 | []=>0
 |s::r=>s.nd+Zo r
end
theorem Kl: ∀ {g:Nat} {l:Bs} {ln cl:Int} {ts:List Tk},Ju g l ln cl=some ts->ts.length<=l.length/\ ∀ t∈ts,0<=t.n/\t.n<=2147483647
 |0,_,_,_,_,h=>by cases h
 |g+1, [],_,_,ts,h=>by cases h;exact ⟨aL _,fun t d=>by cases d⟩
 |g+1,c::r,ln,cl,ts,h=>by
  rw [Ju] at h;split at h
  . have:=Kl h;exact ⟨by simp;omega,this.2⟩
  split at h
  . have:=Kl h;exact ⟨by simp;omega,this.2⟩
  split at h
  . have:=Kl h;refine ⟨cP this.1 ?_,this.2⟩;exact (List.dropWhile_sublist _).length_le
  split at h
  . cases h
  rename_i k w n a
  cases hl:Ju g ((c::r).drop w.length) ln (cl+w.length) with
  |none=>rw [hl] at h;cases h
  |some us=>
   rw [hl] at h;cases h
   have:=Kl hl
   have i:0<w.length/\0<=n/\n<=2147483647:=by
    unfold M0 at a;dsimp only at a;have j: ∀ s∈signsS,0<s.length:=by decide
    split at a
    . rename_i o;split at a
      . rename_i x b
        cases a
        refine ⟨by rw [bH];have:=Mq (c::r);omega,?_⟩;unfold C6 at b;split at b
        . rename_i e;split at b
          . cases b;rename_i p
            rw [aI] at e;exact ⟨(Oo e.1).1,p.1⟩
          cases b
        cases b
      cases a
    split at a
    . rename_i o;cases a;exact ⟨by rw [bH];have:=Mq (c::r);omega,by decide,by decide⟩
    split at a
    . cases a
    split at a
    . cases a;exact ⟨by rw [bH];have:=Mq (c::r);omega,by decide,by decide⟩
    split at a
    . rename_i m;cases a;exact ⟨j _ (iO m),by decide,by decide⟩
    cases a
   refine ⟨?_,?_⟩
   . have f:=this.1;rw [bS] at f;simp at f|-;omega
   intro t d;rcases cE.1 d with rfl|d
   . exact i.2
   exact this.2 t d
theorem Kt {s:Bs}(h:tkW s ts=some r):r.length+1<=ts.length:=by
 unfold tkW at h;split at h
 . cases h;rename_i a;cases ts with
   |nil=>cases a
   |cons t r=>simp
 cases h
theorem Wk {s:Bs}{u:Unit}(h:W2 s ts=some (u,r)):r.length+1<=ts.length:=Kt (Df.1 h)
theorem Mv {x:ByteArray}(h:Jk ts=some (x,r)):r.length+1<=ts.length:=by
 cases ts with
 |nil=>cases h
 |cons t l=>simp only [Jk] at h;split at h<;>cases h;simp
theorem Mk {x:Int}(h:Ji ts=some (x,r)):r.length+1<=ts.length:=by
 cases ts with
 |nil=>cases h
 |cons t l=>simp only [Ji] at h;split at h<;>cases h;simp
theorem Zq7 {n:Int}(h:Uh n ts≠0):ts.tail.length+1=ts.length:=by
 cases ts with
 |nil=>exact aR (by unfold Uh;simp [Rq,isW]) h
 |cons t r=>simp
theorem My: ∀ f,(∀ n ts e r,Vj f n ts=some (e,r)->e.nd+r.length<=ts.length/\e.dep+r.length<=ts.length)/\(∀ n x ts e r,Mu f n x ts=some (e,r)->e.nd+r.length<=ts.length+x.nd/\(∀ B,x.dep+ts.length<=B->ts.length<=B->e.dep+r.length<=B))/\
 (∀ ts e r,unS f ts=some (e,r)->e.nd+r.length<=ts.length/\e.dep+r.length<=ts.length)/\(∀ ts e r,Ut f ts=some (e,r)->e.nd+r.length<=ts.length/\e.dep+r.length<=ts.length):=by
 intro f
 induction f with
 |zero=>exact ⟨fun _ _ _ _ h=>(by cases h),fun _ _ _ _ _ h=>(by cases h),fun _ _ _ h=>(by cases h),fun _ _ _ h=>by cases h⟩
 |succ f ih=>
  obtain ⟨c,m,g,s⟩:=ih;refine ⟨fun n ts e r h=> ?_,fun n x ts e r h=> ?_,fun ts e r h=> ?_,fun ts e r h=> ?_⟩
  . rw [Vj] at h;split at h
    . exact g _ _ _ h
    split at h
    . cases h
    rename_i e1 i b;have j:=c _ _ _ _ b;have q:=m _ _ _ _ _ h;exact ⟨by omega,q.2 _ j.2 (by omega)⟩
  . rw [Mu] at h;split at h
    . cases h;exact ⟨by omega,fun B b _=>b⟩
    rename_i v;have o:=Zq7 v;split at h
    . cases h
    rename_i a i b;have j:=c _ _ _ _ b;have l:(PEx.mk 6 0 em 0 false (Uh n ts) [x,a]).nd=1+(x.nd+(a.nd+0)):=rfl;have k:(PEx.mk 6 0 em 0 false (Uh n ts) [x,a]).dep=max x.dep (max a.dep 0)+1:=rfl;split at h
    . cases h;exact ⟨by omega,fun B b d=>by omega⟩
    have q:=m _ _ _ _ _ h;exact ⟨by omega,fun B b d=>q.2 B (by omega) (by omega)⟩
  . rw [unS] at h;split at h
    . rename_i i b;have o:=Kt b;split at h
      . cases h
      rename_i a p d
      cases h
      have j:=g _ _ _ d;have l:(PEx.mk 4 0 em 0 false 0 [a]).nd=1+(a.nd+0):=rfl;have k:(PEx.mk 4 0 em 0 false 0 [a]).dep=max a.dep 0+1:=rfl;exact ⟨by omega,by omega⟩
    split at h
    . rename_i i b;have o:=Kt b;split at h
      . cases h
      rename_i a p d
      cases h
      have j:=g _ _ _ d;have l:(PEx.mk 5 0 em 0 false 0 [a]).nd=1+(a.nd+0):=rfl;have k:(PEx.mk 5 0 em 0 false 0 [a]).dep=max a.dep 0+1:=rfl;exact ⟨by omega,by omega⟩
    exact s _ _ _ h
  rw [Ut] at h;split at h
  . rename_i i b;have o:=Kt b;split at h
    . cases h
    rename_i a p d;have j:=c _ _ _ _ d;split at h
    . cases h
    rename_i u t
    cases h
    have:=Kt t;exact ⟨by omega,by omega⟩
  split at h
  . rename_i z i b
    cases h
    have:=Mk b;have l: ∀ z,(PEx.mk 1 z em 0 false 0 []).nd=1+0:=fun _=>rfl
    have k: ∀ z,(PEx.mk 1 z em 0 false 0 []).dep=0+1:=fun _=>rfl
    exact ⟨by rw [l];omega,by rw [k];omega⟩
  split at h
  . cases h
  rename_i nm i b;have o:=Mv b;split at h
  . cases h
    have l:(PEx.mk 2 0 nm 0 false 0 []).nd=1+0:=rfl;have k:(PEx.mk 2 0 nm 0 false 0 []).dep=0+1:=rfl;exact ⟨by omega,by omega⟩
  rename_i p d;have w:=Kt d;split at h
  . cases h
  rename_i a u t;have j:=c _ _ _ _ t;split at h
  . cases h
  rename_i r4 y
  cases h
  have:=Kt y;have l:(PEx.mk 3 0 nm 0 false 0 [a]).nd=1+(a.nd+0):=rfl;have k:(PEx.mk 3 0 nm 0 false 0 [a]).dep=max a.dep 0+1:=rfl;exact ⟨by omega,by omega⟩
theorem Zs {α β:Type}{A:Option (α×List Tk)}{K:α->List Tk->Option β}{y:β}(h:bnd A K=some y): ∃ x r,A=some (x,r)/\K x r=some y:=by
 cases A with
 |none=>cases h
 |some x=>exact ⟨x.1,x.2,rfl,h⟩
mutual
theorem Lm {B C:Nat}(h:B<=C): ∀ {s:PStm},s.bdd B->s.bdd C
 | .mk _ _ _ _ _ _ _ _ _ _ _ _ _,⟨h1,h2,h3,h4⟩=>⟨cP h1 h,cP h2 h,Q4 h h3,Q4 h h4⟩
theorem Q4 {B C:Nat}(h:B<=C): ∀ {l:List PStm},Wg B l->Wg C l
 | [],_=>trivial
 |_::_,⟨h1,h2⟩=>⟨Lm h h1,Q4 h h2⟩
end
theorem X9:PEx.z.nd=0:=rfl
theorem Bv:PEx.z.dep=1:=rfl
theorem Hi {k:Int}{e:PEx}{b l:List PStm}{i s o:Int}{lo:Bool}:(PStm.mk k ln cl nm wt e ix b l i s o lo).nd=1+e.nd+ix.nd+Zo b+Zo l:=rfl
theorem O6 {f:Nat}{k:Int}{p:Int×Int}{s:PStm}(hB:ts.length+1<=B)(h:Ud f k p nm ts=some (s,r)):s.nd+r.length<=ts.length/\s.bdd B:=by
 unfold Ud at h;split at h
 . split at h
   . rename_i n
     have y:ts.tail.length+1=ts.length:=by cases ts with
      |nil=>cases n
      |cons t r=>simp
     obtain ⟨ix,v,q,h⟩:=Zs h;obtain ⟨_,u,o,h⟩:=Zs h;obtain ⟨_,j,c,h⟩:=Zs h;obtain ⟨e,i,b,h⟩:=Zs h;obtain ⟨_,d,a,h⟩:=Zs h
     cases h
     have x:=(My _).1 _ _ _ _ q;have w:=Wk o;have m:=Wk c;have l:=(My _).1 _ _ _ _ b;have g:=Wk a;exact ⟨by rw [Hi];simp only [Zo];omega,by omega,by omega,trivial,trivial⟩
   obtain ⟨_,j,c,h⟩:=Zs h;obtain ⟨e,i,b,h⟩:=Zs h;obtain ⟨_,d,a,h⟩:=Zs h
   cases h
   have m:=Wk c;have l:=(My _).1 _ _ _ _ b;have g:=Wk a;exact ⟨by rw [Hi,X9];simp only [Zo];omega,by omega,by rw [Bv];omega,trivial,trivial⟩
 split at h
 . obtain ⟨_,j,c,h⟩:=Zs h;obtain ⟨e,i,b,h⟩:=Zs h;obtain ⟨_,d,a,h⟩:=Zs h
   cases h
   have m:=Wk c;have l:=(My _).1 _ _ _ _ b;have g:=Wk a;exact ⟨by rw [Hi,X9];simp only [Zo];omega,by omega,by rw [Bv];omega,trivial,trivial⟩
 split at h
 focus
  obtain ⟨wt,j,c,h⟩:=Zs h;obtain ⟨_,d,a,h⟩:=Zs h
  cases h
  have m:=Mv c;have g:=Wk a
 rotate_left
 focus
  split at h
  . obtain ⟨e,i,b,h⟩:=Zs h;obtain ⟨_,d,a,h⟩:=Zs h
    cases h
    have l:=(My _).1 _ _ _ _ b;have g:=Wk a;exact ⟨by rw [Hi,X9];simp only [Zo];omega,by omega,by rw [Bv];omega,trivial,trivial⟩
  obtain ⟨_,d,a,h⟩:=Zs h
  cases h
  have g:=Wk a
 all_goals
  exact ⟨by rw [Hi,X9];simp only [Zo];omega,by rw [Bv];omega,by rw [Bv];omega,trivial,trivial⟩
theorem Pv (h:Vc ts≠0):ts.tail.length+1=ts.length:=by
 cases ts with
 |nil=>exact aR (by decide) h
 |cons t r=>simp
theorem stmt_nd (B:Nat): ∀ f,(∀ ts s r,ts.length+1<=B->U8 f ts=some (s,r)->s.nd+r.length<=ts.length/\s.bdd B)/\(∀ ts l r,ts.length+1<=B->Ke f ts=some (l,r)->Zo l+r.length<=ts.length/\Wg B l)/\(∀ ts l r,ts.length+1<=B->We f ts=some (l,r)->Zo l+r.length<=ts.length/\Wg B l):=by
 intro f
 induction f with
 |zero=>exact ⟨fun _ _ _ _ h=>(by cases h),fun _ _ _ _ h=>(by cases h),fun _ _ _ _ h=>by cases h⟩
 |succ f ih=>
  obtain ⟨n,i,g⟩:=ih;refine ⟨fun ts s r o h=> ?_,fun ts l r o h=> ?_,fun ts l r o h=> ?_⟩
  . rw [U8] at h;split at h
    . rename_i z;have u:=Pv (ts:=ts) (by omega);obtain ⟨e,m,a,h⟩:=Zs h;obtain ⟨b,d,j,h⟩:=Zs h;have k:=(My _).1 _ _ _ _ a;have c:=i _ _ _ (by omega) j;split at h
      . rename_i x
        have y:d.tail.length+1=d.length:=by
         have:=x.2
         cases d with
         |nil=>cases this
         |cons t r=>simp
        obtain ⟨b2,v,p,h⟩:=Zs h
        cases h
        have q:=i _ _ _ (by omega) p;exact ⟨by rw [Hi,X9];omega,by omega,by rw [Bv];omega,c.2,q.2⟩
      cases h
      exact ⟨by rw [Hi,X9];simp only [Zo];omega,by omega,by rw [Bv];omega,c.2,trivial⟩
    split at h
    . rename_i z;have u:=Pv (ts:=ts) (by omega);have:=O6 (B:=B) (by omega) h;exact ⟨by omega,this.2⟩
    obtain ⟨nm,m,a,h⟩:=Zs h;have k:=Mv a;have u:(if 0<Vc ts then ts.tail else ts).length<=ts.length:=by split<;>simp
    have:=O6 (B:=B) (by omega) h;exact ⟨by omega,this.2⟩
  . rw [Ke] at h;obtain ⟨_,m,a,h⟩:=Zs h;obtain ⟨w,d,j,h⟩:=Zs h;obtain ⟨_,v,p,h⟩:=Zs h
    cases h
    have k:=Wk a;have c:=g _ _ _ (by omega) j;have q:=Wk p;exact ⟨by omega,c.2⟩
  rw [We] at h;split at h
  . cases h;exact ⟨by simp [Zo],trivial⟩
  obtain ⟨s,m,a,h⟩:=Zs h;obtain ⟨w,d,j,h⟩:=Zs h
  cases h
  have k:=n _ _ _ o a;have c:=g _ _ _ (by omega) j;exact ⟨by simp only [Zo];omega,k.2,c.2⟩
theorem decl_nd {f:Nat}(hB:ts.length+1<=B)(h:Ui f ts=some (d,r)):Zo d.body+r.length+1<=ts.length/\Wg B d.body/\(1<=d.k/\d.k<=6):=by
 have j:dkS ts<=6:=N5;unfold Ui at h;split at h
 . cases h
 rename_i q;obtain ⟨nm,i,p,h⟩:=Zs h;have w:=Mv p
 have x:ts.tail.length+1=ts.length:=by
  cases ts with
  |nil=>exact aR (show dkS []=0 by decide) q
  |cons t r=>simp
 split at h
 . obtain ⟨b,e,a,h⟩:=Zs h
   cases h
   have g:=(stmt_nd B f).2.1 _ _ _ (by omega) a;exact ⟨by dsimp only;omega,g.2,by dsimp only;omega⟩
 obtain ⟨n,e,a,h⟩:=Zs h;obtain ⟨_,u,o,h⟩:=Zs h
 cases h
 have v:=Wk o
 have g:e.length<=i.length:=by
  unfold Eo at a;split at a
  . obtain ⟨_,c,m,a⟩:=Zs a;have:=Wk m;split at a
    . obtain ⟨z,s,l,a⟩:=Zs a
      cases a
      have:=Mk l;have y:c.tail.length<=c.length:=by simp
      omega
    have:=Mk a;omega
  split at a
  . have:=Mk a;omega
  cases a;exact aL _
 exact ⟨by simp only [Zo];omega,trivial,by dsimp only;omega⟩
theorem Tz {G:Nat}: ∀ {f:Nat} {ts:List Tk} {ds:List PDec} {B:Nat},ts.length+1<=B->Vh G f ts=some ds->(ds.map fun d=>Zo d.body+1).sum<=ts.length/\ ∀ d∈ds,Wg B d.body/\(1<=d.k/\d.k<=6)
 |0,_,_,_,_,h=>by cases h
 |f+1,ts,ds,B,hB,h=>by
  rw [Vh] at h;split at h
  . cases h;exact ⟨by simp,fun d a=>by cases a⟩
  obtain ⟨d,r,e,h⟩:=Zs h
  cases h2:Vh G f r with
  |none=>rw [h2] at h;cases h
  |some us=>
   rw [h2] at h;cases h
   have c:=decl_nd hB e;have b:=Tz (B:=B) (by omega) h2;refine ⟨by simp only [bP,List.sum_cons];omega,fun d a=> ?_⟩;rcases cE.1 a with rfl|a
   . exact c.2
   exact b.2 d a
def MoreD (L:List Tk)(S:Option (List PDec))(G g:Nat)(l:List PDec)(n:Nat)(b:Bool):Prop:=(b=false/\S=(Vh G g (L.drop n)).map (l++ ·))\/(b=true/\S=none)
section
variable {L:List Tk}{S:Option (List PDec)}{G g n m:Nat}{l:List PDec}{b:Bool}
theorem MoreD.go (h:MoreD L S G (g+1) l n false)(hn:n<L.length)(ho:Out L false (Ui G (L.drop n)) d m b):MoreD L S G g (l++ [d]) m b:=by
 rcases h with ⟨_,e⟩|⟨e,_⟩
 . have a:L.drop n≠ []:=by rw [aJ hn];exact gZ _ _
   rcases ho with ⟨c,_,f⟩|⟨c,i⟩
   . refine .inl ⟨c,?_⟩;rw [e,Vh,if_neg a,f];simp only [bnd];cases Vh G g (L.drop m)<;>simp
   refine .inr ⟨c,?_⟩;rw [e,Vh,if_neg a,i.resolve_left (by decide)];rfl
 cases e
theorem MoreD.over (h:MoreD L S G (g+1) l n false)(hn:L.length<=n):S=some l:=by
 rcases h with ⟨_,e⟩|⟨e,_⟩
 . rw [e,cO hn,Vh,if_pos rfl];simp
 cases e
theorem MoreD.bad (h:MoreD L S G g l n true):S=none:=by
 rcases h with ⟨e,_⟩|⟨_,e⟩
 . cases e
 exact e
end
theorem Sf {l:Bs}(h:Rt l=none):Qz l=none:=by
 unfold Rt at h;unfold Qz;split
 . rfl
 rw [if_neg ‹_›] at h;rw [h]
theorem Sb {l:Bs}(h:Rt l=some ts):Qz l=(match Vh (10*ts.length+20) (ts.length+1) ts with|none=>none|some ds=>if ds.any (fun d=>Yq d.body 1)=true then none else some ds):=by
 unfold Rt at h;unfold Qz;split
 . rw [if_pos ‹_›] at h;cases h
 rw [if_neg ‹_›] at h;simp only [h];rfl
theorem lexO_fin {l:Bs}(h:Rt l=some ts):ts.length<=65536/\ ∀ t∈ts,0<=t.n/\t.n<=2147483647:=by
 unfold Rt at h;split at h
 . cases h
 have:=Kl h;exact ⟨by omega,this.2⟩
def DcsAt (M:Hp)(a:Option Addr)(c:Nat)(l:List Dec):Prop:=SlAt M a c l.length (l.flatMap dcC)/\Decs.At M l
theorem DcsAt.mono {a:Option Addr}{c:Nat}{l:List Dec}(e:Hle M M')(h:DcsAt M a c l):DcsAt M' a c l:=⟨h.1.mono e,h.2.mono e⟩
def dsM (a:Option Addr)(c:Nat)(l:List Dec):HP:=lst (fun M=>DcsAt M a c l) DcsAt.mono
theorem Ow {a:Option Addr}{c:Nat}{l:List Dec}(h:Kn q fun M=>DcsAt M a c l):Sees q a (l.flatMap dcC):=fM (h.imp fun M h=>h.1.2.2)
theorem Kn.dsI {a:Option Addr}{c:Nat}{l:List Dec}(h:Kn q fun M=>DcsAt M a c l)(hi:i<l.length):Kn q fun M=>BlkAt M l[i].ba l[i].bc l[i].body:=h.imp fun M h=>h.2 _ (aB hi)
theorem X.dcs {l:List Dec}{s:Dec}(h1:Le q (dcsM l::q1))(h2:Le q1 (dcM s::q2))(K:X P G fr Q todo p ds cs (dcsM (l++ [s])::q2)):X P G fr Q todo p ds cs q:= .le (h1.trans ((dD _ h2).trans Lc)) K
theorem X.fzD {a:Option Addr}{c:Nat}{m:List Dec}(K:X P G fr Q todo p ds cs (dsM a c m::q0))(hq:Le q (rsH dcC 6 229 a c m::q0):=by exact Zk)(h:Kn q0 fun M=>Decs.At M m:=by exact knA):X P G fr Q todo p ds cs q:= .frzR (Kn.here.and h.there) K hq
section
variable {s:ByteArray}{n:Nat}
theorem Cg:(prog.info? 229).map (fun i=>(i.zero,i.size,i.bytes))=some (some (.agg #[I64 0,I64 0,I64 0,.string ⟨#[]⟩,I64 0,.slice none 0 0]),6,72):=by kernel_rfl
abbrev Bd (v0:List HP):=(Ret fun v q'=> ∃ y z:Int,v= .agg (B3 y z).toArray/\q'=v0)
theorem Sc (hn:n<=s.size)(h63:s.size<=65536):CallF prog G 153 [.string s,I64 n] (q) (Bd q):=by
 refine aC func153 ntmps153 rfl fun F cs=> ?_;refine xo 2 ?_;refine bW zeroValue107 fun d=> ?_
 refine oo 4 ?_;refine bW zeroValue107 fun c=> ?_
 refine rn [0,7] ?_;refine aY (cG (fun (k:Nat×Int×Int)=>k.1<=n/\0<=k.2.1/\k.2.1<=k.1+1/\0<=k.2.2/\k.2.2<=k.1+1) (fun k=> [(6,I64 (k.1:Int)),(0,.string s),(1,I64 n),(4,pt d),(5,pt c)]) (fun k=>pto c (.cells [I64 k.2.1,I64 k.2.2].toArray 107 (0,0))::pto d As::(q++F)) (fun k=>n - k.1) (fun k a b=> ?_) (0,1,1) ⟨by omega,by decide,by decide,by decide,by decide⟩) Zu leA;try dsimp only at a b|-
 obtain ⟨i,h,g,f,e⟩:=a;obtain ⟨k,y,z⟩:=k;dsimp only at*;refine xx 7 ?_;refine xp 10 ?_ ?_<;>intro l
 . refine rn [7,0,2,0,5] ?_;refine Zt (Wb rfl rfl underlying9 (by omega) (by omega)) ?_;refine ox 2 ?_;refine xp 20 ?_ ?_<;>intro j
   . refine rn [3,0,2,0,1,0,7] ?_;refine aY (b (k+1,y+1,1) ⟨by dsimp only;omega,by dsimp only;omega,by dsimp only;omega,by dsimp only;omega,by dsimp only;omega⟩ (by dsimp only;omega)) Zu leA
   refine xx 8 ?_;refine aY (b (k+1,y,z+1) ⟨by dsimp only;omega,by dsimp only;omega,by dsimp only;omega,by dsimp only;omega,by dsimp only;omega⟩ (by dsimp only;omega)) Zu leA
 refine rn [4,0,0,1] ?_;refine Zq (q) func153 (rA_ results153) ⟨_,rfl,y,z,rfl,rfl⟩
theorem End_ok (h63:s.size<=65536):CallF prog G 115 [.string s] (q) (Bd q):=by
 refine aC func115 ntmps115 rfl fun F cs=> ?_;refine xo 2 ?_;refine bW zeroValue107 fun a=> ?_
 refine oo 6 ?_;refine Zb call153 (aE _) (Sc (n:=s.size) (aL _) h63) ?_;rintro _ _ ⟨y,z,rfl,rfl⟩;refine rn [0,1] ?_;refine Zq (q) func115 (rA_ results115) ⟨_,rfl,y,z,rfl,rfl⟩
theorem Parse_ok:CallF prog G 76 [.string s] (q) (Ret fun v q'=>(∃ ds a c,Qz (bs s)=some (ds.map Dec.er)/\v= .tuple [.slice a ds.length c,.agg zz5.toArray,I64 0].toArray/\q'=dsM a c ds::q)\/(Qz (bs s)=none/\ ∃ (y z e:Int),e≠0/\v= .tuple [.slice none 0 0,.agg (B3 y z).toArray,I64 e].toArray/\q'=q)):=by
 refine aC func76 ntmps76 rfl fun F cs=> ?_;refine xo 3 ?_;refine bW zeroValue107 fun n1=> ?_
 refine oo 5 ?_;refine Zb call113 (aE _) (Lex_ok) ?_;rintro _ _ (⟨L,la,lc,hx,rfl,rfl⟩|⟨hx,y,z,e,he,rfl,rfl⟩)
 . obtain ⟨hn,hT⟩:=lexO_fin hx;have r:=Sb hx;obtain ⟨S,hS⟩: ∃ S,Vh (10*L.length+20) (L.length+1) L=S:=⟨_,rfl⟩;rw [hS] at r;have b0:=Zx (f:=tkC) (sz:=5) (fun _=>rfl) L;refine oo 4 ?_;refine bW zeroValue107 fun n2=> ?_
   refine rn [1,0,8,1020,6] ?_;refine Ww fun n3=> ?_
   refine ox 8 ?_;have f0:MoreD L S (10*L.length+20) (L.length+1) [] 0 false:= .inl ⟨rfl,by rw [<-hS,gB];cases Vh (10*L.length+20) (L.length+1) L<;>rfl⟩;refine aY (cG (fun (h:(Option Addr×Nat×List Dec)×Nat×Bool×Nat)=>h.2.1<=L.length/\(h.2.2.1=false->L.length - h.2.1<h.2.2.2/\h.1.2.2.length<=h.2.1)/\h.1.2.2.length<=h.2.1+1/\MoreD L S (10*L.length+20) h.2.2.2 (h.1.2.2.map Dec.er) h.2.1 h.2.2.1) (fun h=> [(9,.slice h.1.1 h.1.2.2.length h.1.2.1),(8,pt n3),(5,.slice la L.length lc),(0,.string s),(2,.slice none 0 0),(3,pt n1),(4,I64 0)]) (fun h=>rdH n3 la lc L h.2.1 h.2.2.1::rsH dcC 6 229 h.1.1 h.1.2.1 (h.1.2.2)::dcsM h.1.2.2::rsH tkC 5 234 la lc L::pto n1 As::(q++F)) (fun h=>2*(L.length - h.2.1)+(if h.2.2.1=true then 0 else 1)) (fun h j ih=> ?_) ((none,0, []),0,false,L.length+1) ⟨bB _,fun _=>⟨by dsimp only;omega,aL _⟩,by simp,f0⟩) Zu (aS leA (aS (Zi dcC 6 229 _) (aS I8 leA)));try dsimp only at j ih|-
   obtain ⟨j0,d0,q0,o⟩:=j;obtain ⟨⟨a,c,l⟩,n,b,g⟩:=h;dsimp only at*;clear f0;refine rn [6,0] ?_;refine Zt (bV rfl) ?_;refine oo 1 ?_;refine Zf [31,9,8,5,0,2,3,4] ?_;apply Zp 8 39 31 rfl
   . intro g1 M1;have p:=sp g1;refine rn [3,0,4] ?_;exact Zz M1 ⟨Wq g1,Zv⟩
   . intro g1 M1;have p:=sp g1;refine oo 8 ?_;exact Zz M1 ⟨Wz g1,Zv⟩
   refine ox 1 ?_;refine xp 39 ?_ ?_<;>intro p
   . refine xo 6 ?_;obtain ⟨rfl,h2⟩:b=false/\n<L.length:=⟨p.1,by have:=p.2;omega⟩;obtain ⟨s0,r0⟩:=d0 rfl;obtain ⟨g,rfl⟩: ∃ g2,g=g2+1:=⟨g - 1,by omega⟩;refine Zb call114 leA (decl_ok (f:=10*L.length+20) (n:=n) (bad:=false) (L:=L) (Sees.le (bE _) Zk) hn j0 hT (by omega)) ?_;rintro _ _ ⟨d,m2,b2,rfl,rfl,⟨o0,w⟩,n0,h0⟩;refine bQ (Yz (u:=d) dcC underlying161 Cg rfl rfl (fun _=>rfl) rfl) ?_;rintro _ _ ⟨g2,rfl,rfl⟩;refine bQ (Z9 (f:=dcC) (l:=l) (m:= [d]) underlying161 Cg rfl rfl (fun _=>rfl) rfl rfl Zk ((bE _).le Zk) (fun _=>rfl) (by simp;omega) (by simp;omega)) ?_;rintro _ _ ⟨a3,c3,rfl,rfl⟩;refine ox 3 ?_;refine X.dcs (l:=l) (s:=d) Zk Zk ?_;refine aY (ih ((a3,c3,l++ [d]),m2,b2,g) ⟨n0,fun hb=>⟨by have:=w hb;dsimp only;omega,by have:=w hb;simp;omega⟩,by simp;omega,by rw [aM];exact o.go h2 h0⟩ (by dsimp only;cases b2 with|true=>simp;omega|false=>have:=w rfl;simp;omega)) Zu leA
   refine rn [8,0,1] ?_;refine xp 48 ?_ ?_<;>intro h2
   . refine rn [7,0,4] ?_;refine xp 55 ?_ ?_<;>intro h3
     . refine xo 4 ?_;refine Zb call115 (aE _) (End_ok (s:=s) (by have:=hx;unfold Rt at this;split at this;cases this;rw [<-Ko];omega)) ?_;rintro _ _ ⟨y,z,rfl,rfl⟩;refine rn [1,0,2] ?_;subst h2;have x:=o.bad;refine Zq (q) func76 (T9 results76) ⟨_,rfl,.inr ⟨by rw [r,x],y,z,120,by first|assumption|decide,rfl,rfl⟩⟩
     refine rn [3,0,1,2,3,4,5] ?_;have i:n<L.length:=by omega
     refine K5 (bE (f:=tkC) (sz:=5) (ty:=234) (a:=la) (c:=lc) (l:=L) []) (by rw [b0];omega) fun b1 o1 e1=> ?_;subst e1;refine dd [5,6] ?_;refine XD.rdCs 7 (us:= [I64 L[n].ln,I64 L[n].cl]) rfl rfl isAgg107 sizeOf107 rfl (fun k v hk=>by match k,hk with|0,hk=>cases hk;exact cT (n:=n) (bE (f:=tkC) (sz:=5) (ty:=234) (c:=lc) (l:=L) []) leA (fun _=>rfl) i rfl 3 _ rfl|1,hk=>cases hk;exact cT (n:=n) (bE (f:=tkC) (sz:=5) (ty:=234) (c:=lc) (l:=L) []) leA (fun _=>rfl) i rfl 4 _ rfl) ?_;refine rn [9,10,11,0] ?_;subst h2;have x:=o.bad;refine Zq (q) func76 (T9 results76) ⟨_,rfl,.inr ⟨by rw [r,x],L[n].ln,L[n].cl,120,by first|assumption|decide,rfl,rfl⟩⟩
   refine xx 8 ?_;subst h2;replace p:L.length<=n:=by rcases p with p|p;cases p;omega
   obtain ⟨g,rfl⟩: ∃ g2,g=g2+1:=⟨g - 1,by have:=(d0 rfl).1;omega⟩;have m0:=o.over p;rw [m0] at r hS;dsimp only at r;have l0: ∀ d∈l,Wg 1000000 (Zj d.body):=fun d hd=>Q4 (by omega) ((Tz (aL _) hS).2 d.er (aP hd)).1
   refine X.fzD (m:=l) ?_;have c0:Kn [dsM a c l] fun M=>DcsAt M a c l:=fL;have g0:=Ow c0;have k0:=Zx (f:=dcC) (sz:=6) (fun _=>rfl) l;clear ih o
   refine aY (cG (fun (k:Nat×Option Addr)=>k.1<=l.length/\k.2=a/\((l).map Dec.er).any (fun d=>Yq d.body 1)=((l.drop k.1).map Dec.er).any (fun d=>Yq d.body 1)) (fun k=> [(10,I64 (k.1:Int)),(9,.slice k.2 l.length c),(2,.slice none 0 0),(3,pt n1),(4,I64 0)]) (fun k=>dsM a c l::pto n1 As::(q++F)) (fun k=>l.length - k.1) (fun k j a0=> ?_) (0,a) ⟨bB _,rfl,rfl⟩) Zu leA;try dsimp only at j a0|-
   obtain ⟨p0,i0,t⟩:=j;obtain ⟨k,a2⟩:=k;dsimp only at*;subst i0;refine xx 8 ?_;refine xp 69 ?_ ?_<;>intro h3
   . have i:k<l.length:=by omega
     have e0:l.drop k=l[k]::l.drop (k+1):=aJ i;refine Yd g0 (by rw [k0];omega) fun b2 o2 e2=> ?_;subst e2;refine rn [10,0] ?_;refine Zb call116 (aE _) (X8 _ l[k].body l[k].ba l[k].bc 1 (aL _) (l0 _ (aB i)) (by decide) ((Kn.dsI c0 i).le leA)) ?_;rintro _ _ ⟨pl,pc,rfl,rfl⟩;refine oo 3 ?_;refine bW zeroValue107 fun n4=> ?_
     refine rn [0,6] ?_;refine xp 81 ?_ ?_<;>intro h4
     . refine rn [2,0,1,2,3,4,0] ?_;refine Zq (q) func76 (T9 results76) ⟨_,rfl,.inr ⟨by rw [r,t,e0,if_pos (by rw [bP,iD];simp only [Dec.er];rw [h4];rfl)],pl,pc,121,by first|assumption|decide,rfl,rfl⟩⟩
     refine xx 8 ?_;refine aY (a0 (k+1,_) ⟨by dsimp only;omega,rfl,by rw [t,e0,bP,iD];simp only [Dec.er];rw [h4];rfl⟩ (by dsimp only;omega)) Zu leA
   obtain rfl:k=l.length:=by omega
   refine rn [7,0,2] ?_;refine Zq (dsM a2 c l::q) func76 (T9 results76) ⟨_,rfl,.inl ⟨l,a2,c,by rw [r,t,dP,if_neg (by simp)],rfl,rfl⟩⟩
 have r:=Sf hx;refine oo 4 ?_;refine bW zeroValue107 fun n2=> ?_
 refine rn [1,0,8] ?_;refine X.kt 20 ?_ rfl (by simpa using he);refine rn [2,0,1,2,3,4,5,0] ?_;refine Zq (q) func76 (T9 results76) ⟨_,rfl,.inr ⟨r,y,z,e,by first|assumption|decide,rfl,rfl⟩⟩
end
def nmS (w:Bs):Bool:=if w.length<1\/16<w.length\/Sr (w.getD 0 0)=false\/kwS w=true then false else w.all Nv
def Xp (k:Int):Nat:=if k=3\/k=4\/k=5 then 1 else if k=6 then 2 else 0
def Xb (k n:Int)(nm:Bs)(op:Int):Bool:=if k=1 then decide (0<=n) && decide (n<=2147483647) else if k=2\/k=3 then nmS nm else if k=6 then decide (1<=op) && decide (op<=11) else true
def Rz (k n:Int)(nm:Bs)(op:Int)(d:Nat):Bool:=decide ((d:Int)<1)||(k !=1 && n !=0)||(k !=2 && k !=3 && !(nm== []))||(k !=6 && op !=0)
mutual
def PEx.right:PEx->Nat->Bool
 | .mk k n nm _ _ op args,d=>if Rz k n (bs nm) op d=true then false else if 1<=k/\k<=6 then Xb k n (bs nm) op && decide (args.length=Xp k) && Y4 args (d - 1) else false
def Y4:List PEx->Nat->Bool
 | [],_=>true
 |e::r,d=>e.right d && Y4 r d
end
def PEx.nil:PEx->Bool
 | .mk k n nm _ _ op args=>k==0 && n==0 && bs nm== [] && op==0 && decide (args.length=0)
def hasN (k:Int):Bool:=k !=4 && k !=5 && decide (k<14)
def hasW (k:Int):Bool:=k==8||k==12
def E0 (k:Int):Bool:=decide (k<=5)||k==11||k==15
def Su (k:Int)(n:Nat):Bool:=decide (k<1)||decide (15<k)||decide (24<(n:Int))
def may2 (k:Int)(nm wt:Bs):Bool:=(hasN k !=nmS nm)||(!hasN k && !(nm== []))||(hasW k !=nmS wt)||(!hasW k && !(wt== []))
def Pz (k:Int)(e ix:PEx):Bool:=(E0 k && !e.right 24)||(!E0 k && !e.nil)||(k==3 && !ix.right 24)||(k !=3 && !ix.nil)
def Sp (k:Int)(b l:Nat):Bool:=(k !=4 && k !=5 && decide (0<(b:Int)))||(k !=4 && decide (0<(l:Int)))
mutual
def PStm.may:PStm->Nat->Bool
 | .mk k _ _ nm wt e ix body els _ _ _ _,n=>
  if Su k n=true then false else if may2 k (bs nm) (bs wt)=true then false else if Pz k e ix=true then false else if Sp k body.length els.length=true then false
  else PStm.mays body (n+1) && PStm.mays els (n+1)
def PStm.mays:List PStm->Nat->Bool
 | [],_=>true
 |s::r,n=>s.may n && PStm.mays r n
end
def Sd (k n:Int)(nm:Bs)(b:Nat)(m:Bool):Bool:=decide (k<1)||decide (6<k)|| !nmS nm||(k !=6 && decide (0<(b:Int)))||decide (2147483647<n)||decide (n< -2147483647)||(k !=1 && decide (n<0))||(k !=1 && k !=2 && k !=5 && n !=0)|| !m
def PDec.bad (d:PDec):Bool:=Sd d.k d.n (bs d.nm) d.body.length (PStm.mays d.body 1)
theorem X.join {f:Fc}{a:Item}{α:Type}(E:α->PE)(C:α->List HP)(I:α->Prop)(hK: ∀ x,I x->X P G f Q k (E x) ds cs (C x))(h:(∀ x,I x->X P G f Q k (E x) ds cs (C x))->X P G f Q (a::k) p ds cs q):X P G f Q (a::k) p ds cs q:=h hK
abbrev kC:=@X.join
theorem aln_all {l:Bs}(h:i<l.length):l.all Nv=((l.take i).all Nv && (Nv (l.getD i 0) && (l.drop (i+1)).all Nv)):=by
 conv=>lhs;rw [<-eS i l,aJ h]
 rw [kB,iB,gD h]
section
variable {s:ByteArray}{x:Stm}{l:List Stm}{a:Option Addr}{c n d:Nat}
theorem C7:CallF prog G 155 [.string s] (q) (Ret fun v q'=>v= .bool (nmS (bs s))/\q'=q):=by
 refine aC func155 ntmps155 rfl fun F cs=> ?_;have u:=Ko s;refine xo 11 ?_;refine Zf [7,2,0] ?_;apply Zy 4 11 7 rfl
 . intro a e;have b:=sp a;refine oo 4 ?_;exact Zz e ⟨orF a,Zv⟩
 . intro a e;have b:=sp a;refine oo 4 ?_;exact Zz e ⟨orT a,Zv⟩
 refine oo 1 ?_;refine Zf [12,2,0] ?_;apply Zy 5 17 12 rfl
 . intro a e;have b:=sp a;refine oo 1 ?_;refine Zt (Wb rfl rfl underlying9 (by omega) (by omega)) ?_;refine bA 14 (.int .u8 (((bs s).getD 0 0).toNat:Int)) rfl (rfl) ?_;refine aO call182 (Ta (c:=(bs s).getD 0 0)) ?_;refine Zt (bV rfl) ?_;refine oo 1 ?_;exact Zz e ⟨orF a,Zv⟩
 . intro a e;have b:=sp a;refine oo 5 ?_;exact Zz e ⟨orT a,Zv⟩
 refine oo 1 ?_;refine Zf [18,2,0] ?_;apply Zy 3 21 18 rfl
 . intro a e;have b:=sp a;refine oo 1 ?_;refine aO call179 (Jx) ?_;refine oo 1 ?_;exact Zz e ⟨orF a,Zv⟩
 . intro a e;have b:=sp a;refine oo 3 ?_;exact Zz e ⟨orT a,Zv⟩
 refine ox 1 ?_;refine xp 21 ?_ ?_<;>intro b
 . refine xx 5 ?_;refine Zq (q) func155 (Zn results155 rfl) ⟨_,rfl,by unfold nmS;rw [if_pos];rcases b with ((b|b)|b)|b;exact .inl (by omega);exact .inr (.inl (by omega));exact .inr (.inr (.inl (by simpa using b)));exact .inr (.inr (.inr b)),rfl⟩
 refine xx 8 ?_;have w:s.size<=16:=by have:=b.1.1.2;omega
 have r:nmS (bs s)=(bs s).all Nv:=by unfold nmS;rw [if_neg];rintro (h|h|h|h)<;>first|omega|simp_all
 refine aY (cG (fun (k:Nat)=>k<=s.size/\((bs s).take k).all Nv=true) (fun k=> [(3,I64 k),(0,.string s),(2,.bool false)]) (fun k=>(q++F)) (fun k=>s.size - k) (fun k j p=> ?_) 0 ⟨bB _,rfl⟩) Zu leA;try dsimp only at j p|-
 obtain ⟨t,g⟩:=j;refine xx 8 ?_;refine xp 25 ?_ ?_<;>intro x
 . refine xo 8 ?_;refine Zt (Wb rfl rfl underlying9 (by omega) (by omega)) ?_;refine bA 30 (AQ s k) rfl (rfl) ?_;refine aO call182 (Ta (c:=(bs s).getD k 0)) ?_;refine Zt (bV rfl) ?_;refine oo 1 ?_;refine Zf [33,3,0,2] ?_;apply Zp 6 39 33 rfl
   . intro l o;have m:=sp l;refine oo 2 ?_;refine Zt (Wb rfl rfl underlying9 (by omega) (by omega)) ?_;refine bA 36 (AQ s k) rfl (rfl) ?_;refine aO call177 (Tq (c:=(bs s).getD k 0)) ?_;refine Zt (bV rfl) ?_;refine oo 1 ?_;exact Zz o ⟨Wq l,Zv⟩
   . intro l o;have m:=sp l;refine oo 6 ?_;exact Zz o ⟨Wz l,Zv⟩
   refine ox 1 ?_;refine xp 39 ?_ ?_<;>intro m
   . refine xx 5 ?_;refine Zq (q) func155 (Zn results155 rfl) ⟨_,rfl,by rw [r,aln_all (i:=k) (by omega)];have n:Nv ((bs s).getD k 0)=false:=(by unfold Nv;revert m;cases Sr ((bs s).getD k 0)<;>cases Qo ((bs s).getD k 0)<;>simp);rw [n];simp,rfl⟩
   refine xx 8 ?_;have f:k<(bs s).length:=(by omega);have n:Nv ((bs s).getD k 0)=true:=by unfold Nv;revert m;cases Sr ((bs s).getD k 0)<;>cases Qo ((bs s).getD k 0)<;>simp
   refine aY (p (k+1) ⟨by omega,by rw [aH f,kB,g,<-gD (d:=0) f];simp only [iB,n,List.all_nil];rfl⟩ (by omega)) Zu leA
 refine xx 6 ?_;refine Zq (q) func155 (Zn results155 rfl) ⟨_,rfl,by rw [r,<-g,eO (by omega)],rfl⟩
theorem Sw (IH: ∀ x:Ex,x.sz<e.sz-> ∀ {d:Nat} {q:List HP},d<=9223372036854775807->(Kn q fun M=>x.At M)->CallF prog G 202 [.agg (exC x).toArray,I64 d] q (Ret fun v q'=>v= .bool (x.er.right d)/\q'=q))(hd:d<=9223372036854775807)(h:Kn q fun M=>e.At M):CallF prog G 202 [.agg (exC e).toArray,I64 d] (q) (Ret fun v q'=>v= .bool (e.er.right d)/\q'=q):=by
 refine aC func202 ntmps202 rfl fun F cs=> ?_;obtain ⟨k,z,nm,sl,lo,op,a,aa,ac⟩:=e;have hA:=Ov h;have b0:=Zx (f:=exC) (sz:=7) Z4 a;have e0:=W9 a;refine iR (fun w s=>Kn.exL (h.le leA) s) fun j0=> ?_;have l:(Ex.mk k z nm sl lo op a aa ac).er.right d=if Rz k z (bs nm) op d=true then false else if 1<=k/\k<=6 then Xb k z (bs nm) op && decide (a.length=Xp k) && Y4 (Z3 a) (d - 1) else false:=by simp only [Ex.er,PEx.right,e0]
 obtain ⟨R,f0⟩: ∃ R,(Ex.mk k z nm sl lo op a aa ac).er.right d=R:=⟨_,rfl⟩;rw [f0] at l|-;refine xo 2 ?_;refine Ww fun n1=> ?_
 refine oo 8 ?_;refine Zf [10,4,2,1] ?_;apply Zy 9 19 10 rfl
 . intro b i;have c:=sp b;refine rn [1,0,2] ?_;refine Zf [14,10,4,2,1] ?_;apply Zp 4 18 14 rfl
   . intro g j;have r:=sp g;refine rn [1,0,2] ?_;exact Zz j ⟨Wq g,Zv⟩
   . intro g j;have r:=sp g;refine oo 4 ?_;exact Zz j ⟨Wz g,Zv⟩
   refine oo 1 ?_;exact Zz i ⟨orF b,Zv⟩
 . intro b i;have c:=sp b;refine oo 9 ?_;exact Zz i ⟨orT b,Zv⟩
 refine oo 1 ?_;refine Zf [20,4,2,1] ?_;apply Zy 14 34 20 rfl
 . intro b i;have c:=sp b;refine rn [1,0,2] ?_;refine Zf [24,20,4,2,1] ?_;apply Zp 4 28 24 rfl
   . intro g j;have r:=sp g;refine rn [1,0,2] ?_;exact Zz j ⟨Wq g,Zv⟩
   . intro g j;have r:=sp g;refine oo 4 ?_;exact Zz j ⟨Wz g,Zv⟩
   refine oo 1 ?_;refine Zf [29,20,4,2,1] ?_;apply Zp 4 33 29 rfl
   . intro g j;have r:=sp g;refine rn [1,0,2] ?_;exact Zz j ⟨Wq g,Zv⟩
   . intro g j;have r:=sp g;refine oo 4 ?_;exact Zz j ⟨Wz g,Zv⟩
   refine oo 1 ?_;exact Zz i ⟨orF b,Zv⟩
 . intro b i;have c:=sp b;refine oo 14 ?_;exact Zz i ⟨orT b,Zv⟩
 refine oo 1 ?_;refine Zf [35,4,2,1] ?_;apply Zy 9 44 35 rfl
 . intro b i;have c:=sp b;refine rn [1,0,2] ?_;refine Zf [39,35,4,2,1] ?_;apply Zp 4 43 39 rfl
   . intro g j;have r:=sp g;refine rn [1,0,2] ?_;exact Zz j ⟨Wq g,Zv⟩
   . intro g j;have r:=sp g;refine oo 4 ?_;exact Zz j ⟨Wz g,Zv⟩
   refine oo 1 ?_;exact Zz i ⟨orF b,Zv⟩
 . intro b i;have c:=sp b;refine oo 9 ?_;exact Zz i ⟨orT b,Zv⟩
 refine ox 1 ?_;refine dR 44 rfl ?_ ?_<;>intro c
 . have o:Rz k z (bs nm) op d=true:=by rw [Sk] at c;unfold Rz;rw [<-c];simp only [eN,eG];rfl
   refine xx 5 ?_;refine Zq (q) func202 (Zn results202 rfl) ⟨_,rfl,by rw [l,if_pos o],rfl⟩
 have o: ¬Rz k z (bs nm) op d=true:=by rw [Sk] at c;intro o;rw [<-Bool.not_eq_true] at c;apply c;rw [<-o];unfold Rz;simp only [eN,eG];rfl
 rw [if_neg o] at l;have i0:1<=d:=by rcases dQ d 1 with hx|hx;exact aR (by unfold Rz;rw [show decide ((d:Int)<1)=true from aN (by omega)];rfl) o;exact hx
 refine rn [11,0,1] ?_;refine kC (fun (x:Nat×Bool)=> [(5,I64 (x.1:Nat)),(6,.bool x.2),(2,pt n1),(1,I64 d),(4,.bool false)]) (fun x=>pto n1 (.cells (exC (.mk k z nm sl lo op a aa ac)).toArray 124 (0,0))::(q++F)) (fun x=>R=(x.2 && decide (a.length=x.1) && Y4 (Z3 a) (d - 1))/\x.1<=2) (fun x a0=> ?_) fun K=> ?_
 . obtain ⟨m,ok⟩:=x;dsimp only at a0|-;obtain ⟨t,g0⟩:=a0;refine xo 4 ?_;refine Zt (bV rfl) ?_;refine oo 1 ?_;refine Zf [82,5,2,1,4] ?_;apply Zy 6 88 82 rfl
   . intro b i;have c:=sp b;refine rn [1,0,4] ?_;exact Zz i ⟨orF b,Zv⟩
   . intro b i;have c:=sp b;refine oo 6 ?_;exact Zz i ⟨orT b,Zv⟩
   refine ox 1 ?_;refine xp 88 ?_ ?_<;>intro c
   . refine xx 5 ?_;refine Zq (q) func202 (Zn results202 rfl) ⟨_,rfl,by rw [t];rcases c with c|c;rw [c];rfl;rw [show decide (a.length=m)=false from aW (by omega)];simp,rfl⟩
   refine xx 8 ?_;obtain ⟨c,r⟩:=c;obtain rfl:m=a.length:=by omega
   rw [c,aN rfl,gI,gI] at t;refine aY (cG (fun (s:Nat×Option Addr)=>s.1<=a.length/\R=Y4 (Z3 (a.drop s.1)) (d - 1)) (fun s=> [(7,I64 (s.1:Int)),(5,I64 a.length),(2,pt n1),(1,I64 d),(4,.bool false)]) (fun s=>pto n1 (.cells (exC (.mk k z nm sl lo op a aa ac)).toArray 124 (0,0))::(q++F)) (fun s=>a.length - s.1) (fun s c0 ih=> ?_) (0,none) ⟨bB _,t⟩) Zu leA;try dsimp only at c0 ih|-
   obtain ⟨h0,u⟩:=c0;obtain ⟨s,sx⟩:=s;dsimp only at*;refine xx 7 ?_;refine xp 91 ?_ ?_<;>intro t1
   . refine rn [7,0,1] ?_;have p:s<a.length:=by omega
     have d0:Y4 (Z3 (a.drop s)) (d - 1)=(a[s].er.right (d - 1) && Y4 (Z3 (a.drop (s+1))) (d - 1)):=by rw [aJ p];rfl
     refine K1 hA (by rw [b0];omega) fun b1 o1 e1=> ?_;subst e1;refine oo 1 ?_;refine Nw (n:=s) isAgg124 sizeOf124 hA p ?_ (hf:=Z4);refine oo 2 ?_;refine bA 100 (I64 ((d - 1:Nat):Int)) rfl (bK (Value.int .i64) (by omega)) ?_;refine aO call202 (IH a[s] (by have:=Vx (aB p);simp only [Ex.sz];omega) (d:=d - 1) (by omega) (Ok (h.le leA) p)) ?_;refine Zt (bV rfl) ?_;refine ox 1 ?_;refine xp 102 ?_ ?_<;>intro t2
     . refine xx 5 ?_;refine Zq (q) func202 (Zn results202 rfl) ⟨_,rfl,by rw [u,d0,t2];rfl,rfl⟩
     refine xx 8 ?_;refine aY (ih (s+1,none) ⟨by dsimp only;omega,by rw [u,d0,t2];rfl⟩ (by dsimp only;omega)) Zu leA
   refine xx 6 ?_;refine Zq (q) func202 (Zn results202 rfl) ⟨_,rfl,by obtain rfl:s=a.length:=(by omega);rw [u,dP];rfl,rfl⟩
 have y:k=1\/k=2\/k=3\/k=4\/k=5\/k=6\/ ¬ (1<=k/\k<=6):=by omega
 rcases y with rfl|rfl|rfl|rfl|rfl|rfl|y
 . rw [if_pos (by decide)] at l;refine rn [6,2047,3,0,2] ?_;refine Zf [52,6,5,4,2,1] ?_;apply Zp 4 56 52 rfl
   . intro b i;have c:=sp b;refine rn [1,0,2] ?_;exact Zz i ⟨Wq b,Zv⟩
   . intro b i;have c:=sp b;refine oo 4 ?_;exact Zz i ⟨Wz b,Zv⟩
   refine ox 3 ?_;exact aY (K (0,(decide (0<=z) && decide (z<=2147483647))) ⟨l,show 0<=2 by decide⟩) Zu leA
 . rw [if_pos (by decide)] at l;refine rn [6,1047,6,2057,3,0] ?_;refine aO call155 (C7 (s:=nm)) ?_;refine ox 3 ?_;exact aY (K (0,nmS (bs nm)) ⟨l,show 0<=2 by decide⟩) Zu leA
 iterate 4
  focus
   rw [if_pos (by decide)] at l;refine rn [6,1047,6,1057,6] ?_
  rotate_left
 . rw [if_neg y] at l;refine rn [6,1047,6,1057,6,1062,7,1067,5,1067,6,1070,5] ?_;refine Zq (q) func202 (Zn results202 rfl) ⟨_,rfl,by rw [l],rfl⟩
 . refine rn [2062,3,0] ?_;refine aO call155 (C7 (s:=nm)) ?_;refine ox 4 ?_;exact aY (K (1,nmS (bs nm)) ⟨l,show 1<=2 by decide⟩) Zu leA
 . refine rn [1062,7,2067,7] ?_;exact aY (K (1,true) ⟨l,show 1<=2 by decide⟩) Zu leA
 . refine rn [1062,7,1067,5,2067,5] ?_;exact aY (K (1,true) ⟨l,show 1<=2 by decide⟩) Zu leA
 refine rn [1062,7,1067,5,1067,6,2070,1,0,1,2,3,4,9] ?_;refine D4 [5,75,4,2,1] ?_;apply Mb 1 [0,1,2,3,4,5,6,7,8] 79 75 rfl
 . intro b i;have c:=sp b;refine rn [5,6,7,8] ?_;exact Ul i ⟨Wq b,Zv⟩
 . intro b i;have c:=sp b;refine dd [4,5,6,7] ?_;exact Ul i ⟨Wz b,Zv⟩
 intro L_;refine rn [10,0,1] ?_;exact aY (K (2,(decide (1<=op) && decide (op<=11))) ⟨l,show 2<=2 by decide⟩) Zu leA
theorem Bt: ∀ (m:Nat) (e:Ex),e.sz<=m-> ∀ {d:Nat} {q:List HP},d<=9223372036854775807->(Kn q fun M=>e.At M)->CallF prog G 202 [.agg (exC e).toArray,I64 d] q (Ret fun v q'=>v= .bool (e.er.right d)/\q'=q)
 |m,e,hm,d,_,hd,h=>Sw (fun x c f _ a b=>by
  cases m with
  |zero=>omega
  |succ m=>exact Bt m x (by omega) a b) hd h
theorem Dv:CallF prog G 203 [.agg (exC e).toArray] (q) (Ret fun v q'=>v= .bool e.er.nil/\q'=q):=by
 refine aC func203 ntmps203 rfl fun F cs=> ?_;obtain ⟨k,z,nm,g,lo,op,c,j,i⟩:=e;have f:=W9 c;refine xo 2 ?_;refine Ww fun h=> ?_
 refine rn [5,0,2] ?_;refine Zf [6,2,1] ?_;apply Zp 4 10 6 rfl
 . intro a b;have d:=sp a;refine rn [1,0,2] ?_;exact Zz b ⟨Wq a,Zv⟩
 . intro a b;have d:=sp a;refine oo 4 ?_;exact Zz b ⟨Wz a,Zv⟩
 refine oo 1 ?_;refine Zf [11,2,1] ?_;apply Zp 4 15 11 rfl
 . intro a b;have d:=sp a;refine rn [1,0,2] ?_;exact Zz b ⟨Wq a,Zv⟩
 . intro a b;have d:=sp a;refine oo 4 ?_;exact Zz b ⟨Wz a,Zv⟩
 refine oo 1 ?_;refine Zf [16,2,1] ?_;apply Zp 4 20 16 rfl
 . intro a b;have d:=sp a;refine rn [1,0,2] ?_;exact Zz b ⟨Wq a,Zv⟩
 . intro a b;have d:=sp a;refine oo 4 ?_;exact Zz b ⟨Wz a,Zv⟩
 refine oo 1 ?_;refine Zf [21,2,1] ?_;apply Zp 5 26 21 rfl
 . intro a b;have d:=sp a;refine rn [1,0,3] ?_;exact Zz b ⟨Wq a,Zv⟩
 . intro a b;have d:=sp a;refine oo 5 ?_;exact Zz b ⟨Wz a,Zv⟩
 refine ox 2 ?_;refine Zq (q) func203 (Zn results203 rfl) ⟨_,rfl,by simp only [Ex.er,PEx.nil,f];rw [Sk];congr 1;rw [show decide (c.length=0)=((c.length:Int)==0) by rw [cJ];simp];rfl,rfl⟩
theorem L9 (IH: ∀ (m:List Stm) (a:Option Addr) (c n:Nat),Zm m<x.sz-> ∀ {q:List HP},(Kn q fun M=>BlkAt M a c m)->CallF prog G 156 [.slice a m.length c,I64 n] q (Ret fun v q'=>v= .bool (PStm.mays (Zj m) n)/\q'=q))(h:Kn q fun M=>x.At M):CallF prog G 183 [.agg (stC x).toArray,I64 n] (q) (Ret fun v q'=>v= .bool (x.er.may n)/\q'=q):=by
 refine aC func183 ntmps183 rfl fun F cs=> ?_;obtain ⟨k,ln,cl,nm,wt,⟨k1,y,s1,l1,o1,p1,y1,u1,w1⟩,⟨k2,w,s2,l2,o2,p2,z,u2,w2⟩,l,r,ba,bc,ea,ec,id,slot,t,loc⟩:=x;have hE:=Oz h;have hX:=I9 h;have hB:=Oj h;have hL:=Oq h;have b0:=Zg l;have a0:=Zg r;obtain ⟨R,o⟩: ∃ R,(Stm.er (.mk k ln cl nm wt (.mk k1 y s1 l1 o1 p1 y1 u1 w1) (.mk k2 w s2 l2 o2 p2 z u2 w2) l r ba bc ea ec id slot t loc)).may n=R:=⟨_,rfl⟩;rw [o];simp only [Stm.er,PStm.may,b0,a0] at o;refine xo 2 ?_;refine Ww fun n1=> ?_
 refine rn [5,0,8] ?_;refine Zf [13,5,4,2,1] ?_;apply Zy 3 16 13 rfl
 . intro b f;have g:=sp b;refine oo 3 ?_;exact Zz f ⟨orF b,Zv⟩
 . intro b f;have g:=sp b;refine oo 3 ?_;exact Zz f ⟨orT b,Zv⟩
 refine oo 1 ?_;refine Zf [17,5,4,2,1] ?_;apply Zy 3 20 17 rfl
 . intro b f;have g:=sp b;refine oo 3 ?_;exact Zz f ⟨orF b,Zv⟩
 . intro b f;have g:=sp b;refine oo 3 ?_;exact Zz f ⟨orT b,Zv⟩
 refine ox 1 ?_;refine dR 20 rfl ?_ ?_<;>intro c1
 . have d1:Su k n=true:=by unfold Su;first|exact c1|(rw [<-c1];simp only [eN,eG];rfl)
   rw [if_pos d1] at o;refine xx 5 ?_;refine Zq (q) func183 (Zn results183 rfl) ⟨_,rfl,by rw [o],rfl⟩
 have d1:Su k n=false:=by unfold Su;first|exact c1|(rw [<-c1];simp only [eN,eG];rfl)
 rw [if_neg (by rw [d1];decide)] at o;have e1:=sp c1;have c0:n<=24:=by omega
 refine xo 7 ?_;refine Zf [23,5,4,2,1] ?_;apply Zp 3 26 23 rfl
 . intro b f;have g:=sp b;refine oo 3 ?_;exact Zz f ⟨Wq b,Zv⟩
 . intro b f;have g:=sp b;refine oo 3 ?_;exact Zz f ⟨Wz b,Zv⟩
 refine oo 1 ?_;refine Zf [27,5,4,2,1] ?_;apply Zp 3 30 27 rfl
 . intro b f;have g:=sp b;refine oo 3 ?_;exact Zz f ⟨Wq b,Zv⟩
 . intro b f;have g:=sp b;refine oo 3 ?_;exact Zz f ⟨Wz b,Zv⟩
 refine oo 7 ?_;refine Zf [33,6,5,4,2,1] ?_;apply Zy 3 36 33 rfl
 . intro b f;have g:=sp b;refine oo 3 ?_;exact Zz f ⟨orF b,Zv⟩
 . intro b f;have g:=sp b;refine oo 3 ?_;exact Zz f ⟨orT b,Zv⟩
 refine oo 7 ?_;refine Zf [39,7,6,5,4,2,1] ?_;apply Zy 3 42 39 rfl
 . intro b f;have g:=sp b;refine oo 3 ?_;exact Zz f ⟨orF b,Zv⟩
 . intro b f;have g:=sp b;refine oo 3 ?_;exact Zz f ⟨orT b,Zv⟩
 refine oo 1 ?_;refine Zf [43,7,6,5,4,2,1] ?_;apply Zy 3 46 43 rfl
 . intro b f;have g:=sp b;refine oo 3 ?_;exact Zz f ⟨orF b,Zv⟩
 . intro b f;have g:=sp b;refine oo 3 ?_;exact Zz f ⟨orT b,Zv⟩
 refine rn [7,0] ?_;refine aO call155 (C7 (s:=nm)) ?_;refine oo 2 ?_;refine Zf [52,8,7,6,5,4,2,1] ?_;apply Zy 8 60 52 rfl
 . intro b f;have g:=sp b;refine oo 1 ?_;refine Zt (bV rfl) ?_;refine oo 1 ?_;refine Zf [55,52,8,7,6,5,4,2,1] ?_;apply Zp 4 59 55 rfl
   . intro i j;have p:=sp i;refine rn [1,0,2] ?_;exact Zz j ⟨Wq i,Zv⟩
   . intro i j;have p:=sp i;refine oo 4 ?_;exact Zz j ⟨Wz i,Zv⟩
   refine oo 1 ?_;exact Zz f ⟨orF b,Zv⟩
 . intro b f;have g:=sp b;refine oo 8 ?_;exact Zz f ⟨orT b,Zv⟩
 refine oo 1 ?_;refine Zf [61,8,7,5,4,2,1] ?_;apply Zy 6 67 61 rfl
 . intro b f;have g:=sp b;refine rn [2,0] ?_;refine aO call155 (C7 (s:=wt)) ?_;refine oo 2 ?_;exact Zz f ⟨orF b,Zv⟩
 . intro b f;have g:=sp b;refine oo 6 ?_;exact Zz f ⟨orT b,Zv⟩
 refine oo 1 ?_;refine Zf [68,8,7,5,4,2,1] ?_;apply Zy 8 76 68 rfl
 . intro b f;have g:=sp b;refine oo 1 ?_;refine Zt (bV rfl) ?_;refine oo 1 ?_;refine Zf [71,68,8,7,5,4,2,1] ?_;apply Zp 4 75 71 rfl
   . intro i j;have p:=sp i;refine rn [1,0,2] ?_;exact Zz j ⟨Wq i,Zv⟩
   . intro i j;have p:=sp i;refine oo 4 ?_;exact Zz j ⟨Wz i,Zv⟩
   refine oo 1 ?_;exact Zz f ⟨orF b,Zv⟩
 . intro b f;have g:=sp b;refine oo 8 ?_;exact Zz f ⟨orT b,Zv⟩
 refine ox 1 ?_;refine dR 76 rfl ?_ ?_<;>intro u
 . have d2:may2 k (bs nm) (bs wt)=true:=by rw [Sk,Sk] at u;unfold may2 hasN hasW;first|exact u|(rw [<-u];simp only [eN,eG];rfl)
   rw [if_pos d2] at o;refine xx 5 ?_;refine Zq (q) func183 (Zn results183 rfl) ⟨_,rfl,by rw [o],rfl⟩
 have d2:may2 k (bs nm) (bs wt)=false:=by rw [Sk,Sk] at u;unfold may2 hasN hasW;first|exact u|(rw [<-u];simp only [eN,eG];rfl)
 rw [if_neg (by rw [d2];decide)] at o;refine xo 7 ?_;refine Zf [78,8,5,4,2,1] ?_;apply Zp 5 83 78 rfl
 . intro b f;have g:=sp b;refine rn [1,0] ?_;refine aO call202 (Bt _ (.mk k1 y s1 l1 o1 p1 y1 u1 w1) (aL _) (d:=24) (by decide) (hE.le leA)) ?_;refine Zt (bV rfl) ?_;refine oo 1 ?_;exact Zz f ⟨Wq b,Zv⟩
 . intro b f;have g:=sp b;refine oo 5 ?_;exact Zz f ⟨Wz b,Zv⟩
 refine oo 1 ?_;refine Zf [84,8,5,4,2,1] ?_;apply Zy 9 93 84 rfl
 . intro b f;have g:=sp b;refine oo 1 ?_;refine Zt (bV rfl) ?_;refine oo 1 ?_;refine Zf [87,84,8,5,4,2,1] ?_;apply Zp 5 92 87 rfl
   . intro i j;have p:=sp i;refine rn [1,0] ?_;refine aO call203 (Dv (e:=(.mk k1 y s1 l1 o1 p1 y1 u1 w1))) ?_;refine Zt (bV rfl) ?_;refine oo 1 ?_;exact Zz j ⟨Wq i,Zv⟩
   . intro i j;have p:=sp i;refine oo 5 ?_;exact Zz j ⟨Wz i,Zv⟩
   refine oo 1 ?_;exact Zz f ⟨orF b,Zv⟩
 . intro b f;have g:=sp b;refine oo 9 ?_;exact Zz f ⟨orT b,Zv⟩
 refine oo 1 ?_;refine Zf [94,5,4,2,1] ?_;apply Zy 9 103 94 rfl
 . intro b f;have g:=sp b;refine oo 3 ?_;refine Zf [97,94,5,4,2,1] ?_;apply Zp 5 102 97 rfl
   . intro i j;have p:=sp i;refine rn [1,0] ?_;refine aO call202 (Bt _ (.mk k2 w s2 l2 o2 p2 z u2 w2) (aL _) (d:=24) (by decide) (hX.le leA)) ?_;refine Zt (bV rfl) ?_;refine oo 1 ?_;exact Zz j ⟨Wq i,Zv⟩
   . intro i j;have p:=sp i;refine oo 5 ?_;exact Zz j ⟨Wz i,Zv⟩
   refine oo 1 ?_;exact Zz f ⟨orF b,Zv⟩
 . intro b f;have g:=sp b;refine oo 9 ?_;exact Zz f ⟨orT b,Zv⟩
 refine oo 1 ?_;refine Zf [104,5,4,2,1] ?_;apply Zy 9 113 104 rfl
 . intro b f;have g:=sp b;refine oo 3 ?_;refine Zf [107,104,5,4,2,1] ?_;apply Zp 5 112 107 rfl
   . intro i j;have p:=sp i;refine rn [1,0] ?_;refine aO call203 (Dv (e:=(.mk k2 w s2 l2 o2 p2 z u2 w2))) ?_;refine Zt (bV rfl) ?_;refine oo 1 ?_;exact Zz j ⟨Wq i,Zv⟩
   . intro i j;have p:=sp i;refine oo 5 ?_;exact Zz j ⟨Wz i,Zv⟩
   refine oo 1 ?_;exact Zz f ⟨orF b,Zv⟩
 . intro b f;have g:=sp b;refine oo 9 ?_;exact Zz f ⟨orT b,Zv⟩
 refine ox 1 ?_;refine dR 113 rfl ?_ ?_<;>intro c3
 . have d3:Pz k (Ex.er (.mk k1 y s1 l1 o1 p1 y1 u1 w1)) (Ex.er (.mk k2 w s2 l2 o2 p2 z u2 w2))=true:=by unfold Pz E0;first|exact c3|(rw [<-c3];simp only [eN,eG];rfl)
   rw [if_pos d3] at o;refine xx 5 ?_;refine Zq (q) func183 (Zn results183 rfl) ⟨_,rfl,by rw [o],rfl⟩
 have d3:Pz k (Ex.er (.mk k1 y s1 l1 o1 p1 y1 u1 w1)) (Ex.er (.mk k2 w s2 l2 o2 p2 z u2 w2))=false:=by unfold Pz E0;first|exact c3|(rw [<-c3];simp only [eN,eG];rfl)
 rw [if_neg (by rw [d3];decide)] at o;refine xo 8 ?_;refine Zf [116,5,4,2,1] ?_;apply Zp 3 119 116 rfl
 . intro b f;have g:=sp b;refine oo 3 ?_;exact Zz f ⟨Wq b,Zv⟩
 . intro b f;have g:=sp b;refine oo 3 ?_;exact Zz f ⟨Wz b,Zv⟩
 refine oo 1 ?_;refine Zf [120,5,4,2,1] ?_;apply Zp 5 125 120 rfl
 . intro b f;have g:=sp b;refine rn [1,0,3] ?_;exact Zz f ⟨Wq b,Zv⟩
 . intro b f;have g:=sp b;refine oo 5 ?_;exact Zz f ⟨Wz b,Zv⟩
 refine oo 1 ?_;refine Zf [126,5,4,2,1] ?_;apply Zy 9 135 126 rfl
 . intro b f;have g:=sp b;refine oo 3 ?_;refine Zf [129,126,5,4,2,1] ?_;apply Zp 5 134 129 rfl
   . intro i j;have p:=sp i;refine rn [1,0,3] ?_;exact Zz j ⟨Wq i,Zv⟩
   . intro i j;have p:=sp i;refine oo 5 ?_;exact Zz j ⟨Wz i,Zv⟩
   refine oo 1 ?_;exact Zz f ⟨orF b,Zv⟩
 . intro b f;have g:=sp b;refine oo 9 ?_;exact Zz f ⟨orT b,Zv⟩
 refine ox 1 ?_;refine dR 135 rfl ?_ ?_<;>intro c4
 . have d4:Sp k l.length r.length=true:=by unfold Sp;first|exact c4|(rw [<-c4];simp only [eN,eG];rfl)
   rw [if_pos d4] at o;refine xx 5 ?_;refine Zq (q) func183 (Zn results183 rfl) ⟨_,rfl,by rw [o],rfl⟩
 have d4:Sp k l.length r.length=false:=by unfold Sp;first|exact c4|(rw [<-c4];simp only [eN,eG];rfl)
 rw [if_neg (by rw [d4];decide)] at o;refine rn [5,0,2] ?_;refine aO call156 (IH l ba bc (n+1) (by simp only [Stm.sz];omega) (hB.le leA)) ?_;refine oo 1 ?_;refine Zf [141,4,2,1] ?_;apply Zp 6 147 141 rfl
 . intro b f;have g:=sp b;refine rn [1,0,2] ?_;refine aO call156 (IH r ea ec (n+1) (by simp only [Stm.sz];omega) (hL.le leA)) ?_;refine oo 1 ?_;exact Zz f ⟨Wq b,Zv⟩
 . intro b f;have g:=sp b;refine oo 6 ?_;exact Zz f ⟨Wz b,Zv⟩
 refine ox 2 ?_;refine Zq (q) func183 (Zn results183 rfl) ⟨_,rfl,by rw [<-o],rfl⟩
abbrev B8 (v0:Stm)(v1:Nat)(v2:List HP):=(Ret fun v q'=>v= .bool (v0.er.may v1)/\q'=v2)
abbrev B4 (v0:Stm)(v1:Nat):=([.agg (stC v0).toArray,I64 v1]:List Value)
theorem T8 (IH: ∀ (x:Stm) (n:Nat),x.sz<=Zm l-> ∀ {q:List HP},(Kn q fun M=>x.At M)->CallF prog G 183 (B4 x n) q (B8 x n q))(h:Kn q fun M=>BlkAt M a c l):CallF prog G 156 (Ba a l c n) (q) (Ret fun v q'=>v= .bool (PStm.mays (Zj l) n)/\q'=q):=by
 refine aC func156 ntmps156 rfl fun F cs=> ?_;have k:=Ob h;have d:=Zx (f:=stC) (sz:=25) Z8 l;refine iR (fun w s=>Ox (h.le leA) s) fun o=> ?_;refine xx 10 ?_;refine aY (cG (fun (s:Nat×Option Addr)=>s.1<=l.length/\s.2=a/\PStm.mays (Zj l) n=PStm.mays (Zj (l.drop s.1)) n) (fun s=> [(5,I64 (s.1:Int)),(0,.slice s.2 l.length c),(1,I64 n),(4,.bool false)]) (fun s=>(q++F)) (fun s=>l.length - s.1) (fun s e j=> ?_) (0,a) ⟨bB _,rfl,rfl⟩) Zu leA;try dsimp only at e j|-
 obtain ⟨u,p,i⟩:=e;obtain ⟨s,a2⟩:=s;dsimp only at*;subst p;refine xx 8 ?_;refine xp 9 ?_ ?_<;>intro y
 . have b:s<l.length:=by omega
   have g:PStm.mays (Zj (l.drop s)) n=(l[s].er.may n && PStm.mays (Zj (l.drop (s+1))) n):=by rw [aJ b];rfl
   refine xo 8 ?_;refine K1 k (by rw [d];omega) fun z t r=> ?_;subst r;refine oo 1 ?_;refine Nw (n:=s) isAgg126 sizeOf126 k b ?_ (hf:=Z8);refine oo 1 ?_;refine aO call183 (IH l[s] n (Ub (aB b)) ((Oy h b).le leA)) ?_;refine Zt (bV rfl) ?_;refine ox 1 ?_;refine xp 18 ?_ ?_<;>intro m
   . refine xx 5 ?_;refine Zq (q) func156 (Zn results156 rfl) ⟨_,rfl,by rw [i,g,m];rfl,rfl⟩
   refine xx 8 ?_;refine aY (j (s+1,_) ⟨by dsimp only;omega,rfl,by rw [i,g,m];rfl⟩ (by dsimp only;omega)) Zu leA
 obtain rfl:s=l.length:=by omega
 refine xx 6 ?_;refine Zq (q) func156 (Zn results156 rfl) ⟨_,rfl,by rw [i,dP];rfl,rfl⟩
theorem may_ok: ∀ N:Nat,(∀ (x:Stm) (n:Nat),x.sz<=N-> ∀ {q:List HP},(Kn q fun M=>x.At M)->CallF prog G 183 (B4 x n) q (B8 x n q))/\
 (∀ (m:List Stm) (a:Option Addr) (c n:Nat),Zm m<=N-> ∀ {q:List HP},(Kn q fun M=>BlkAt M a c m)->CallF prog G 156 (Ba a m c n) q (Ret fun v q'=>v= .bool (PStm.mays (Zj m) n)/\q'=q)):=by
 intro N
 induction N with
 |zero=>
  have b: ∀ (x:Stm) (n:Nat),x.sz<=0-> ∀ {q:List HP},(Kn q fun M=>x.At M)->CallF prog G 183 (B4 x n) q (B8 x n q):=fun x n d=>by cases x;simp [Stm.sz] at d
  exact ⟨b,fun m a c n e _ h=>T8 (fun x n d=>b x n (by omega)) h⟩
 |succ N ih=>
  have b: ∀ (x:Stm) (n:Nat),x.sz<=N+1-> ∀ {q:List HP},(Kn q fun M=>x.At M)->CallF prog G 183 (B4 x n) q (B8 x n q):=fun x n d _ h=>L9 (fun m a c n e=>ih.2 m a c n (by omega)) h
  exact ⟨b,fun m a c n e _ h=>T8 (fun x n d=>b x n (by omega)) h⟩
theorem Kn.dsL {l:List Dec}(h:Kn q fun M=>DcsAt M a c l)(s:St G w q):l.length<=9223372036854775807:=h.fact (fun M h=>by have d:=h.1.1;have b:=h.1.2.1;simp [maxLen] at b;omega) s
variable {m:List Dec}
theorem mayD_ok (h:Kn q fun M=>DcsAt M a c m):CallF prog G 117 [.slice a m.length c] (q) (Ret fun v q'=>v= I64 (if (m.map Dec.er).any PDec.bad=true then 2 else 0)/\q'=q):=by
 refine aC func117 ntmps117 rfl fun F cs=> ?_;have hA:=Ow h;have r:=Zx (f:=dcC) (sz:=6) (fun _=>rfl) m;refine iR (fun w s=>Kn.dsL (h.le leA) s) fun a0=> ?_;refine xx 10 ?_;refine aY (cG (fun (s:Nat×Option Addr)=>s.1<=m.length/\s.2=a/\(m.map Dec.er).any PDec.bad=((m.drop s.1).map Dec.er).any PDec.bad) (fun s=> [(3,I64 (s.1:Int)),(0,.slice s.2 m.length c),(2,I64 0)]) (fun s=>(q++F)) (fun s=>m.length - s.1) (fun s t ih=> ?_) (0,a) ⟨bB _,rfl,rfl⟩) Zu leA;try dsimp only at t ih|-
 obtain ⟨hs,ha,hD⟩:=t;obtain ⟨s,a2⟩:=s;dsimp only at*;subst ha;refine xx 8 ?_;refine xp 9 ?_ ?_<;>intro h0
 . have o:s<m.length:=by omega
   have p:((m.drop s).map Dec.er).any PDec.bad=(m[s].er.bad||((m.drop (s+1)).map Dec.er).any PDec.bad):=by rw [aJ o];rfl
   refine xo 8 ?_;refine K1 hA (by rw [r];omega) fun b1 o1 e1=> ?_;subst e1;refine oo 1 ?_;refine Nw (n:=s) isAgg229 sizeOf229 hA o ?_ (hf:=(fun _=>rfl));obtain ⟨x,hx⟩: ∃ x,m[s]=x:=⟨_,rfl⟩;have hK:=Kn.dsI h o;rw [hx] at p hK;refine bA 15 (.agg (dcC x).toArray) rfl (by rw [hx]) ?_;obtain ⟨k,ln,cl,nm,z,j,ba,bc⟩:=x;have u:=Zg j;refine bW zeroValue229 fun n1=> ?_
   refine rn [0,4,0,7] ?_;refine Zf [20,5,4,3,0,2] ?_;apply Zy 3 23 20 rfl
   . intro b d;have i:=sp b;refine oo 3 ?_;exact Zz d ⟨orF b,Zv⟩
   . intro b d;have i:=sp b;refine oo 3 ?_;exact Zz d ⟨orT b,Zv⟩
   refine oo 1 ?_;refine Zf [24,5,4,3,0,2] ?_;apply Zy 5 29 24 rfl
   . intro b d;have i:=sp b;refine rn [1,0] ?_;refine aO call155 (C7 (s:=nm)) ?_;refine Zt (bV rfl) ?_;refine oo 1 ?_;exact Zz d ⟨orF b,Zv⟩
   . intro b d;have i:=sp b;refine oo 5 ?_;exact Zz d ⟨orT b,Zv⟩
   refine oo 1 ?_;refine Zf [30,5,4,3,0,2] ?_;apply Zy 9 39 30 rfl
   . intro b d;have i:=sp b;refine oo 3 ?_;refine Zf [33,30,5,4,3,0,2] ?_;apply Zp 5 38 33 rfl
     . intro e g;have l:=sp e;refine rn [1,0,3] ?_;exact Zz g ⟨Wq e,Zv⟩
     . intro e g;have l:=sp e;refine oo 5 ?_;exact Zz g ⟨Wz e,Zv⟩
     refine oo 1 ?_;exact Zz d ⟨orF b,Zv⟩
   . intro b d;have i:=sp b;refine oo 9 ?_;exact Zz d ⟨orT b,Zv⟩
   refine oo 1 ?_;refine Zf [40,5,4,3,0,2] ?_;apply Zy 4 44 40 rfl
   . intro b d;have i:=sp b;refine rn [1,0,2] ?_;exact Zz d ⟨orF b,Zv⟩
   . intro b d;have i:=sp b;refine oo 4 ?_;exact Zz d ⟨orT b,Zv⟩
   refine oo 1 ?_;refine Zf [45,5,4,3,0,2] ?_;apply Zy 4 49 45 rfl
   . intro b d;have i:=sp b;refine rn [1,0,2] ?_;exact Zz d ⟨orF b,Zv⟩
   . intro b d;have i:=sp b;refine oo 4 ?_;exact Zz d ⟨orT b,Zv⟩
   refine oo 1 ?_;refine Zf [50,5,4,3,0,2] ?_;apply Zy 8 58 50 rfl
   . intro b d;have i:=sp b;refine oo 3 ?_;refine Zf [53,50,5,4,3,0,2] ?_;apply Zp 4 57 53 rfl
     . intro e g;have l:=sp e;refine rn [1,0,2] ?_;exact Zz g ⟨Wq e,Zv⟩
     . intro e g;have l:=sp e;refine oo 4 ?_;exact Zz g ⟨Wz e,Zv⟩
     refine oo 1 ?_;exact Zz d ⟨orF b,Zv⟩
   . intro b d;have i:=sp b;refine oo 8 ?_;exact Zz d ⟨orT b,Zv⟩
   refine oo 1 ?_;refine Zf [59,5,4,3,0,2] ?_;apply Zy 16 75 59 rfl
   . intro b d;have i:=sp b;refine oo 3 ?_;refine Zf [62,59,5,4,3,0,2] ?_;apply Zp 3 65 62 rfl
     . intro e g;have l:=sp e;refine oo 3 ?_;exact Zz g ⟨Wq e,Zv⟩
     . intro e g;have l:=sp e;refine oo 3 ?_;exact Zz g ⟨Wz e,Zv⟩
     refine oo 1 ?_;refine Zf [66,59,5,4,3,0,2] ?_;apply Zp 3 69 66 rfl
     . intro e g;have l:=sp e;refine oo 3 ?_;exact Zz g ⟨Wq e,Zv⟩
     . intro e g;have l:=sp e;refine oo 3 ?_;exact Zz g ⟨Wz e,Zv⟩
     refine oo 1 ?_;refine Zf [70,59,5,4,3,0,2] ?_;apply Zp 4 74 70 rfl
     . intro e g;have l:=sp e;refine rn [1,0,2] ?_;exact Zz g ⟨Wq e,Zv⟩
     . intro e g;have l:=sp e;refine oo 4 ?_;exact Zz g ⟨Wz e,Zv⟩
     refine oo 1 ?_;exact Zz d ⟨orF b,Zv⟩
   . intro b d;have i:=sp b;refine oo 16 ?_;exact Zz d ⟨orT b,Zv⟩
   refine oo 1 ?_;refine Zf [76,4,3,0,2] ?_;apply Zy 5 81 76 rfl
   . intro b d;have i:=sp b;refine rn [1,0] ?_;refine aO call156 ((may_ok _).2 j ba bc 1 (aL _) (hK.le leA)) ?_;refine Zt (bV rfl) ?_;refine oo 1 ?_;exact Zz d ⟨orF b,Zv⟩
   . intro b d;have i:=sp b;refine oo 5 ?_;exact Zz d ⟨orT b,Zv⟩
   refine ox 1 ?_;refine dR 81 rfl ?_ ?_<;>intro y
   . have d1:PDec.bad (Dec.er ⟨k,ln,cl,nm,z,j,ba,bc⟩)=true:=by unfold PDec.bad Sd;simp only [Dec.er,u];first|exact y|(rw [<-y];simp only [eN,eG];rfl)
     refine xx 5 ?_;refine Zq (q) func117 (Zn results117 rfl) ⟨_,rfl,by rw [hD,p,d1];rfl,rfl⟩
   have d1:PDec.bad (Dec.er ⟨k,ln,cl,nm,z,j,ba,bc⟩)=false:=by unfold PDec.bad Sd;simp only [Dec.er,u];first|exact y|(rw [<-y];simp only [eN,eG];rfl)
   refine xx 8 ?_;refine aY (ih (s+1,_) ⟨by dsimp only;omega,rfl,by rw [hD,p,d1];rfl⟩ (by dsimp only;omega)) Zu leA
 obtain rfl:s=m.length:=by omega
 refine xx 6 ?_;refine Zq (q) func117 (Zn results117 rfl) ⟨_,rfl,by rw [hD,dP];rfl,rfl⟩
end
structure PTh where
 nm:ByteArray
 loc:Int
 body:List PStm
structure Nm where
 t:ByteArray
 k:Int
 s:Int
structure Fnd where
 vars:List Int
 arrs:List Int
 mu:Int
 co:Int
 chs:List Int
 ths:List PTh
 main:Int
 stm:Int
 nv:List ByteArray
 na:List ByteArray
 nm:List ByteArray
 nc:List ByteArray
 nh:List ByteArray
 names:List Nm
 cells:Int
 locals:Int
 most:Int
 flaw:Int
variable {g:Fnd}
def Fnd.z:Fnd:=⟨[], [],0,0, [], [],0,0, [], [], [], [], [], [],0,0,0,0⟩
def Qd (l:List Nm)(s:ByteArray):Nat->Nat
 |0=>0
 |k+1=>if ((l.map fun x=>bs x.t).getD k []==bs s)=true then k+1 else Qd l s k
def Fnd.at (f:Fnd)(s:ByteArray):Nat:=Qd f.names s f.names.length
def Fnd.fl (f:Fnd)(why:Int):Fnd:=if f.flaw=0 then { f with flaw:=why } else f
def Fnd.decl1 (f:Fnd)(d:PDec):Fnd×Int×Bool:=
 if d.k=1 then (if d.n< -2147483648\/2147483647<d.n then (f.fl 134,0,false) else ({ f with vars:=f.vars++ [d.n],nv:=f.nv++ [d.nm] },f.vars.length,true))
 else if d.k=2 then (if (d.n<1\/256<d.n)\/256<f.cells+d.n then (f.fl 134,0,false) else ({ f with cells:=f.cells+d.n,arrs:=f.arrs++ [d.n],na:=f.na++ [d.nm] },f.arrs.length,true))
 else if d.k=3 then ({ f with mu:=f.mu+1,nm:=f.nm++ [d.nm] },f.mu,true)
 else if d.k=4 then ({ f with co:=f.co+1,nc:=f.nc++ [d.nm] },f.co,true)
 else if d.k=5 then (if d.n<1\/16<d.n then (f.fl 134,0,false) else ({ f with chs:=f.chs++ [d.n],nh:=f.nh++ [d.nm] },f.chs.length,true))
 else if d.k=6 then ({ f with ths:=f.ths++ [⟨d.nm,0, []⟩] },f.ths.length,true)
 else (f,0,true)
def Fnd.decl (f:Fnd)(d:PDec):Fnd:=
 if f.at d.nm≠0 then f.fl 130
 else if (f.decl1 d).2.2=false then (f.decl1 d).1
 else if 64<=(f.decl1 d).1.names.length then (f.decl1 d).1.fl 134
 else { (f.decl1 d).1 with names:=(f.decl1 d).1.names++ [⟨d.nm,d.k,(f.decl1 d).2.1⟩] }
def Fnd.wants (f:Fnd)(s:ByteArray)(a b:Int):Fnd×Int×Int:=
 match f.at s with
 |0=>(f.fl 131,0,0)
 |i+1=>let x:=(f.names.map fun x=>(x.k,x.s)).getD i (0,0)
  if (x.1 !=a && x.1 !=b)=true then (f.fl 132,0,0) else (f,x)
mutual
def Fnd.expr (f:Fnd):PEx->Fnd×PEx
 | .mk k n nm slot loc op args=>
  if k=2 then ((Fnd.exprs (f.wants nm 1 100).1 args).1,.mk k n nm (f.wants nm 1 100).2.2 ((f.wants nm 1 100).2.1==100) op (Fnd.exprs (f.wants nm 1 100).1 args).2)
  else if k=3 then ((Fnd.exprs (f.wants nm 2 2).1 args).1,.mk k n nm (f.wants nm 2 2).2.2 loc op (Fnd.exprs (f.wants nm 2 2).1 args).2)
  else ((Fnd.exprs f args).1,.mk k n nm slot loc op (Fnd.exprs f args).2)
def Fnd.exprs (f:Fnd):List PEx->Fnd×List PEx
 | []=>(f, [])
 |e::r=>((Fnd.exprs (f.expr e).1 r).1,(f.expr e).2::(Fnd.exprs (f.expr e).1 r).2)
end
def Jt (k:Int):Int×Int:=if k=2 then (1,100) else if k=3 then (2,2) else if k=6\/k=7 then (3,3) else if k=8\/k=9\/k=10 then (4,4) else if k=11\/k=12 then (5,5) else if k=13 then (6,6) else (0,0)
def Fnd.own1 (f:Fnd)(k:Int)(nm:ByteArray)(slot:Int)(loc:Bool):Fnd×Int×Bool:=
 if (Jt k).1≠0 then ((f.wants nm (Jt k).1 (Jt k).2).1,(f.wants nm (Jt k).1 (Jt k).2).2.2,(f.wants nm (Jt k).1 (Jt k).2).2.1==100) else (f,slot,loc)
def Fnd.loc1 (g:Fnd)(nm:ByteArray):Fnd:=if g.at nm≠0 then g.fl 130 else g
def Fnd.loc2 (g:Fnd):Fnd:=if 32<=g.locals then g.fl 134 else g
def Fnd.loc3 (g:Fnd)(nm:ByteArray):Fnd:= { g with names:=g.names++ [⟨nm,100,g.locals⟩],locals:=g.locals+1,most:=max g.most (g.locals+1) }
def Fnd.own2 (g:Fnd)(k:Int)(nm wt:ByteArray)(sl other:Int)(lo:Bool):Fnd×Int×Int×Bool:=
 if k=1 then ((g.loc1 nm).loc2.loc3 nm,(g.loc1 nm).loc2.locals,other,true)
 else if k=8 then ((g.wants wt 3 3).1,sl,(g.wants wt 3 3).2.2,lo)
 else if k=12 then ((g.wants wt 1 100).1,sl,(g.wants wt 1 100).2.2,(g.wants wt 1 100).2.1==100)
 else (g,sl,other,lo)
def Fnd.own (f:Fnd)(k:Int)(nm wt:ByteArray)(slot other:Int)(loc:Bool):Fnd×Int×Int×Bool:=
 Fnd.own2 (f.own1 k nm slot loc).1 k nm wt (f.own1 k nm slot loc).2.1 other (f.own1 k nm slot loc).2.2
mutual
def Fnd.stmt (f:Fnd):PStm->Fnd×PStm
 | .mk k ln cl nm wt e ix body els id slot other loc=>
  if 512<=f.stm then (f.fl 134,.mk k ln cl nm wt e ix body els id slot other loc)
  else
   let f1:=Fnd.expr { f with stm:=f.stm+1 } ix
   let f2:=Fnd.expr f1.1 e
   let f3:=Fnd.own f2.1 k nm wt slot other loc
   let f4:=Fnd.blk f3.1 body
   let f5:=Fnd.blk { f4.1 with names:=f3.1.names,locals:=f3.1.locals } els
   ({ f5.1 with names:=f3.1.names,locals:=f3.1.locals },.mk k ln cl nm wt f2.2 f1.2 f4.2 f5.2 f.stm f3.2.1 f3.2.2.1 f3.2.2.2)
/-- The statements of a block, as long as there is no flaw (names are not let go of here). -/
def Fnd.blk (f:Fnd):List PStm->Fnd×List PStm
 | []=>(f, [])
 |s::r=>if f.flaw=0 then ((Fnd.blk (f.stmt s).1 r).1,(f.stmt s).2::(Fnd.blk (f.stmt s).1 r).2) else (f, [])
end
def Fnd.block (f:Fnd)(l:List PStm):Fnd×List PStm:=({ (f.blk l).1 with names:=f.names,locals:=f.locals },(f.blk l).2)
def Fnd.decls (f:Fnd):List PDec->Fnd
 | []=>f
 |d::r=>if f.flaw=0 then Fnd.decls (f.decl d) r else f
def Fnd.bodies (f:Fnd)(i:Nat):List (List PStm)->Fnd
 | []=>f
 |b::r=>if f.flaw=0 then
  let g:=Fnd.block { f with most:=0 } b
  Fnd.bodies { g.1 with ths:=g.1.ths.set i ⟨(g.1.ths.getD i ⟨em,0, []⟩).nm,g.1.most,g.2⟩ } (i+1) r
  else f
def Um:ByteArray:=⟨#[109,97,105,110]⟩
def N9 (ds:List PDec):Option Fnd:=
 if ds.any PDec.bad=true then none else
 let f:=Fnd.decls .z ds
 let f1:=if f.flaw=0/\(f.at Um=0\/((f.names.map (·.k)).getD (f.at Um - 1) 0)≠6) then f.fl 133 else f
 let f2:=Fnd.bodies f1 0 ((ds.filter fun d=>d.k==6).map (·.body))
 if f2.flaw≠0 then none else some { f2 with main:=(f2.names.map (·.s)).getD (f.at Um - 1) 0 }
def Jj (l:Bs):Option Fnd:=match Qz l with
 |none=>none
 |some ds=>N9 ds
structure Sv (α:Type) where
 l:List α
 a:Option Addr
 c:Nat
variable {x:Sv Int}{y:Sv ByteArray}
def Sv.v {α:Type}(x:Sv α):Value:= .slice x.a x.l.length x.c
def Sv.z {α:Type}:Sv α:=⟨[],none,0⟩
structure Th where
 nm:ByteArray
 loc:Int
 body:List Stm
 a:Option Addr
 c:Nat
def nmC (x:Nm):List Value:= [.string x.t,I64 x.k,I64 x.s]
def thC (x:Th):List Value:= [.string x.nm,I64 x.loc,.slice x.a x.body.length x.c]
def Th.er (x:Th):PTh:=⟨x.nm,x.loc,Zj x.body⟩
structure FC where
 vars:Sv Int
 arrs:Sv Int
 mu:Int
 co:Int
 chs:Sv Int
 ths:Sv Th
 main:Int
 stm:Int
 nv:Sv ByteArray
 na:Sv ByteArray
 nm:Sv ByteArray
 nc:Sv ByteArray
 nh:Sv ByteArray
 names:Sv Nm
 cells:Int
 locals:Int
 most:Int
 pl:Int
 pc:Int
 flaw:Int
variable {f:FC}
def fcC (f:FC):List Value:= [f.vars.v,f.arrs.v,I64 f.mu,I64 f.co,f.chs.v,f.ths.v,I64 f.main,I64 f.stm,f.nv.v,f.na.v,f.nm.v,f.nc.v,f.nh.v,f.names.v,I64 f.cells,I64 f.locals,I64 f.most,I64 f.pl,I64 f.pc,I64 f.flaw]
def FC.er (f:FC):Fnd:=⟨f.vars.l,f.arrs.l,f.mu,f.co,f.chs.l,f.ths.l.map Th.er,f.main,f.stm,f.nv.l,f.na.l,f.nm.l,f.nc.l,f.nh.l,f.names.l,f.cells,f.locals,f.most,f.flaw⟩
def iC (x:Int):List Value:= [I64 x]
def sC (x:ByteArray):List Value:= [.string x]
def Sv.At {α:Type}(M:Hp)(f:α->List Value)(x:Sv α):Prop:=SlAt M x.a x.c x.l.length (x.l.flatMap f)
theorem Sv.At.mono {α:Type}{f:α->List Value}{x:Sv α}(e:Hle M M')(h:x.At M f):x.At M' f:=gM e h
def Ths.At (M:Hp)(l:List Th):Prop:= ∀ x∈l,BlkAt M x.a x.c x.body
structure FC.At (M:Hp) (f:FC):Prop where
 vars:f.vars.At M iC
 arrs:f.arrs.At M iC
 chs:f.chs.At M iC
 ths:f.ths.At M thC
 bod:Ths.At M f.ths.l
 nv:f.nv.At M sC
 na:f.na.At M sC
 nm:f.nm.At M sC
 nc:f.nc.At M sC
 nh:f.nh.At M sC
 names:f.names.At M nmC
theorem FC.At.mono (e:Hle M M')(h:f.At M):f.At M':=⟨h.vars.mono e,h.arrs.mono e,h.chs.mono e,h.ths.mono e,fun x hx=>(h.bod x hx).mono e,h.nv.mono e,h.na.mono e,h.nm.mono e,h.nc.mono e,h.nh.mono e,h.names.mono e⟩
def fcM (f:FC):HP:=lst (fun M=>f.At M) fun e h=>FC.At.mono e h
def svM {α:Type}(f:α->List Value)(x:Sv α):HP:=lst (fun M=>x.At M f) fun e h=>Sv.At.mono e h
section
variable {α:Type}{g:α->List Value}{x:Sv α}
theorem Kn.fc:Kn (fcM f::q) fun M=>f.At M:=fL
theorem Sv.sees (h:Kn q fun M=>x.At M g):Sees q x.a (x.l.flatMap g):=fM (h.imp fun M h=>h.2.2)
abbrev dT:=@Sv.sees
theorem Sv.len (h:Kn q fun M=>x.At M g)(s:St G w q):x.l.length<=9223372036854775807:=h.fact (fun M h=>by have b:=h.1;have a:=h.2.1;simp [maxLen] at a;omega) s
theorem Ei (M:Hp):(Sv.z:Sv α).At M g:=SlAt.nil M
theorem Qv (l:List Int):l.flatMap iC=l.map (Value.int .i64):=by induction l with
 |nil=>rfl
 |cons x r ih=>rw [cH,ih];rfl
theorem V6 (l:List ByteArray):l.flatMap sC=l.map Value.string:=by induction l with
 |nil=>rfl
 |cons x r ih=>rw [cH,ih];rfl
end
def Fnd.le (N:Nat)(f:Fnd):Prop:=f.vars.length<=N/\f.arrs.length<=N/\f.chs.length<=N/\f.ths.length<=N/\f.nv.length<=N/\f.na.length<=N/\f.nm.length<=N/\f.nc.length<=N/\f.nh.length<=N/\f.names.length<=N/\(0<=f.mu/\f.mu<=N)/\(0<=f.co/\f.co<=N)/\(0<=f.cells/\f.cells<=256)
theorem Kx {l:List Nm}{s:ByteArray}: ∀ {k:Nat},Qd l s k<=k
 |0=>aL _
 |k+1=>by unfold Qd;split;exact aL _;exact Nat.le_succ_of_le Kx
section
variable {r:List HP}{ops lo:List Oper}{α:Type}{f:α->List Value}{fe:α->Value}{sz ty:Nat}{a b:Option Addr}{c c':Nat}{l m:List α}{f':α->List Value}
theorem Er {d:Option Tmp}{ty':TypeId}{pos:String}{af:Array Edge}{gd:Option (Nat×Bool)}{x y:Operand}{t:TypeId}{z:Value}{bytes:Nat}(ht:P.underlying t=some (.slice ty))(hi:(P.info? ty).map (fun i=>(i.zero,i.size,i.bytes))=some (some z,sz,bytes))(hz:z.cells.size=sz)(hsz:Nat.blt 0 sz=true)(hf: ∀ x,(f x).length=sz)
 (hx:evp p x=some (.slice a l.length c)) (hy:evp p y=some (.slice b m.length c')) (hq:Le q (Wx.rsH f sz ty a c l::r)) (hs:Sees q b (m.flatMap f)) (h1: ∀ x,(f x).all (·.oneCell')=true)
 (h63:l.length+m.length<=9223372036854775807) (hby:(l.length+m.length)*bytes<=140737488355328) (E:List HP):
 Ef P G p (q++E) ⟨d,.call ⟨.builtin .append, [x,y].toArray, [t,t].toArray⟩,ty',pos,af,gd⟩ fun v q'=> ∃ q1,(∃ a' c',v= .slice a' (l++m).length c'/\q1=Wx.rsH f sz ty a' c' (l++m)::r)/\q'=q1++E:=by
 intro k w u s;obtain ⟨v,j,q',g,e,a',h,o,n⟩:=Z9 (P:=P) (G:=G) (d:=d) (ty':=ty') (pos:=pos) (af:=af) (gd:=gd) (r:=r++E) ht hi hz hsz hf hx hy (hq.liftR E) (hs.le (Y1 q E)) h1 h63 hby k w u s;exact ⟨v,j,q',g,e,_,⟨a',h,o,rfl⟩,n⟩
theorem Q0 (hm: ∀ l:List α,l.flatMap f'=l.map fe)(K:X P G fr Q todo p ds cs (svM f' ⟨l,a,c⟩::q0))(hq:Le q (Wx.lsH fe ty a c l::q0):=by exact Zk):X P G fr Q todo p ds cs q:=by
 unfold Wx.lsH at hq;exact .frz (sz:=1) (ty:=ty) (n:=l.length) (vs:=l.map fe) (Kn.here.imp fun M h=>by show SlAt M a c l.length (l.flatMap f');rw [hm];exact h) K hq
theorem P6 (K:X P G fr Q todo p ds cs (svM f ⟨l,a,c⟩::q0))(hq:Le q (Wx.rsH f sz ty a c l::q0):=by exact Zk):X P G fr Q todo p ds cs q:= .frzR fL K hq
theorem svK {x:Sv α}(h:Kn q fun M=>x.At M f:=by exact knA):Kn q fun M=>x.At M f:=h
end
section
variable {s:ByteArray}{why a b k:Int}
theorem Xs (h:Kn q fun M=>f.At M):CallF prog G 119 [.agg (fcC f).toArray,.string s] (q) (Ret fun v q'=>v= I64 ((f.er.at s:Int) - 1)/\q'=q):=by
 refine aC func119 ntmps119 rfl fun F cs=> ?_;have u:Kn q fun M=>f.names.At M nmC:=h.imp fun M h=>h.names
 have n:=dT u;have b:=Zx (f:=nmC) (sz:=3) (fun _=>rfl) f.names.l;refine iR (fun w s=>Sv.len (u.le leA) s) fun i=> ?_;obtain ⟨⟨a,na,o⟩,g⟩: ∃ x,f.names=x:=⟨_,rfl⟩;rw [g] at n b i;dsimp only at n b i;refine xo 2 ?_;refine Ww fun p=> ?_
 refine rn [6,0] ?_;refine bA 7 (.slice na a.length o) rfl (by show f.names.v=_;rw [g];rfl) ?_;refine ox 5 ?_;refine aY (cG (fun (k:Nat×Option Addr)=>k.1<=a.length/\Qd a s a.length=Qd a s k.1) (fun k=> [(5,I64 ((k.1:Int) - 1)),(2,pt p),(1,.string s),(4,I64 0)]) (fun k=>pto p (.cells (fcC f).toArray 240 (0,0))::(q++F)) (fun k=>k.1) (fun k e r=> ?_) (a.length,none) ⟨aL _,rfl⟩) Zu leA;try dsimp only at e r|-
 obtain ⟨z,c⟩:=e;obtain ⟨k,kx⟩:=k;dsimp only at*;refine xx 6 ?_;refine xp 11 ?_ ?_<;>intro h0
 . obtain ⟨k,rfl⟩: ∃ j,k=j+1:=⟨k - 1,by omega⟩;have m:k<a.length:=by omega
   refine cQ 5 (Aw k) rfl (bK (Value.int .i64) (by omega)) ?_;have d:Qd a s (k+1)=if (bs a[k].t==bs s)=true then k+1 else Qd a s k:=by rw [Qd,gD (by simpa using m)];simp
   refine rn [7,0] ?_;refine bA 15 (.slice na a.length o) rfl (by show f.names.v=_;rw [g];rfl) ?_;refine oo 1 ?_;refine K1 n (by rw [b];omega) fun b1 o1 e1=> ?_;subst e1;refine rn [2,0,3] ?_;refine xp 21 ?_ ?_<;>intro y
   . refine xx 6 ?_;refine Zq (q) func119 (Zn results119 rfl) ⟨_,rfl,by rw [show f.er.at s=Qd a s a.length by simp only [Fnd.at,FC.er,g],c,d,if_pos (sTr y)];congr 1;omega,rfl⟩
   refine xx 8 ?_;refine aY (r (k,none) ⟨by dsimp only;omega,by rw [c,d,if_neg (by rw [sNe y];decide)]⟩ (by dsimp only;omega)) Zu leA
 obtain rfl:k=0:=by omega
 refine xx 6 ?_;refine Zq (q) func119 (Zn results119 rfl) ⟨_,rfl,by rw [show f.er.at s=Qd a s a.length by simp only [Fnd.at,FC.er,g],c];rfl,rfl⟩
theorem Uv (h:Kn q fun M=>f.At M):CallF prog G 120 [.agg (fcC f).toArray,I64 why,.agg (B3 pl pc).toArray] (q) (Ret fun v q'=> ∃ g:FC,v= .agg (fcC g).toArray/\q'=fcM g::q/\g.er=f.er.fl why):=by
 refine aC func120 ntmps120 rfl fun F cs=> ?_;refine xo 2 ?_;refine Ww fun d=> ?_
 refine Ww fun c=> ?_
 refine bW zeroValue240 fun b=> ?_
 refine rn [5,0,2] ?_;refine xp 9 ?_ ?_<;>intro a
 . replace a:f.flaw=0:=a;refine rn [1,0,1,2,3,4,5,6,0,2,0,0,1] ?_;refine bY (q':=fcM { f with flaw:=why,pl:=pl,pc:=pc } ::_) (cZ ((dW h).imp fun M h=>⟨h.vars,h.arrs,h.chs,h.ths,h.bod,h.nv,h.na,h.nm,h.nc,h.nh,h.names⟩)) ?_;refine Zq (fcM { f with flaw:=why,pl:=pl,pc:=pc } ::q) func120 (rA_ results120) ⟨_,rfl, { f with flaw:=why,pl:=pl,pc:=pc },rfl,rfl,by unfold Fnd.fl;rw [if_pos (show f.er.flaw=0 from a)];rfl⟩
 replace a: ¬f.flaw=0:=a;refine rn [4,0,0,1] ?_;refine bY (q':=fcM f::_) (cZ (dW h)) ?_;refine Zq (fcM f::q) func120 (rA_ results120) ⟨_,rfl,f,rfl,rfl,by unfold Fnd.fl;rw [if_neg (show ¬f.er.flaw=0 from a)]⟩
theorem F7:(prog.info? 2).map (fun i=>(i.zero,i.size,i.bytes))=some (some (I64 0),1,8):=by kernel_rfl
theorem Qp:(prog.info? 245).map (fun i=>(i.zero,i.size,i.bytes))=some (some (.agg #[.string ⟨#[]⟩,I64 0,I64 0]),3,32):=by kernel_rfl
theorem Nr:(prog.info? 55).map (fun i=>(i.zero,i.size,i.bytes))=some (some (.agg #[.string ⟨#[]⟩,I64 0,.slice none 0 0]),3,48):=by kernel_rfl
theorem wants_ok (h:Kn q fun M=>f.At M):CallF prog G 186 [.agg (fcC f).toArray,.string s,I64 a,I64 b,.agg [I64 pl,I64 pc].toArray] (q) (Ret fun v q'=> ∃ (g:FC) (x:Nm),v= .tuple [.agg (fcC g).toArray,.agg (nmC x).toArray].toArray/\q'=fcM g::q/\(g.er,x.k,x.s)=f.er.wants s a b):=by
 refine aC func186 ntmps186 rfl fun F cs=> ?_;have hN:Kn q fun M=>f.names.At M nmC:=h.imp fun M h=>h.names
 have p:=dT hN;have e:=Zx (f:=nmC) (sz:=3) (fun _=>rfl) f.names.l;obtain ⟨⟨d,na,r⟩,n⟩: ∃ x,f.names=x:=⟨_,rfl⟩;rw [n] at p e;dsimp only at p e;have a0:f.er.at s=Qd d s d.length:=by simp only [Fnd.at,FC.er,n]
 obtain ⟨W,c⟩: ∃ W,f.er.wants s a b=W:=⟨_,rfl⟩;rw [c];unfold Fnd.wants at c;refine xo 2 ?_;refine Ww fun n1=> ?_
 refine Ww fun n2=> ?_
 refine bW zeroValue240 fun n3=> ?_
 refine bW zeroValue245 fun n4=> ?_
 refine rn [3,0,1] ?_;refine aO call119 (Xs (f:=f) (h.le leA)) ?_;refine ox 8 ?_;refine xp 17 ?_ ?_<;>intro h0
 . replace h0:f.er.at s=0:=by omega
   refine rn [3,0,0] ?_;refine Zb call120 (aE _) (Uv (f:=f) (h.le leA)) ?_;rintro _ _ ⟨g,rfl,rfl,t⟩;refine rn [1,0,0,1] ?_;rw [h0] at c;dsimp only at c;refine Zq (fcM g::q) func186 (Zqa results186) ⟨_,rfl,g,⟨⟨#[]⟩,0,0⟩,rfl,rfl,by rw [<-c,t]⟩
 obtain ⟨i,z⟩: ∃ i,f.er.at s=i+1:=⟨f.er.at s - 1,by omega⟩;have j:i<d.length:=by have:=Kx (l:=d) (s:=s) (k:=d.length);omega
 refine cQ 12 (I64 i) rfl (bK (Value.int .i64) (by omega)) ?_;refine rn [6,0] ?_;refine bA 23 (.slice na d.length r) rfl (by show f.names.v=_;rw [n];rfl) ?_;refine oo 1 ?_;refine K1 p (by rw [e];omega) fun b1 y e1=> ?_;subst e1;refine rn [2,0,3] ?_;refine Zf [30,12,11,10,9,5,3] ?_;apply Zp 9 39 30 rfl
 . intro o w;have u:=sp o;refine rn [1,0] ?_;refine bA 32 (.slice (some ⟨b1,y,none⟩) d.length r) rfl (by show f.names.v=_;rw [n];rfl) ?_;refine rn [3,0,3] ?_;exact Zz w ⟨Wq o,Zv⟩
 . intro o w;have u:=sp o;refine oo 9 ?_;exact Zz w ⟨Wz o,Zv⟩
 refine ox 1 ?_;refine xp 39 ?_ ?_<;>intro u
 . refine rn [3,0,0] ?_;refine Zb call120 (aE _) (Uv (f:=f) (h.le leA)) ?_;rintro _ _ ⟨g,rfl,rfl,t⟩;refine rn [1,0,0,1] ?_;rw [z] at c;dsimp only at c;rw [show ((f.er.names.map fun x=>(x.k,x.s)).getD i (0,0))=(d[i].k,d[i].s) by rw [show f.er.names=d by simp only [FC.er,n],gD (by simpa using j)];simp] at c;dsimp only at c;rw [if_pos (by simpa using u)] at c;refine Zq (fcM g::q) func186 (Zqa results186) ⟨_,rfl,g,⟨⟨#[]⟩,0,0⟩,rfl,rfl,by rw [<-c,t]⟩
 refine rn [3,0,1,2,3] ?_;refine dS 46 (.slice (some ⟨b1,y,none⟩) d.length r) rfl (by show f.names.v=_;rw [n];rfl) ?_;refine dd [3,4] ?_;refine XD.ldS 5 (m:=i) isAgg245 sizeOf245 p j ?_;refine stAD 6 ?_ (hh:=hlR);refine rn [8,0] ?_;rw [z] at c;dsimp only at c;rw [show ((f.er.names.map fun x=>(x.k,x.s)).getD i (0,0))=(d[i].k,d[i].s) by rw [show f.er.names=d by simp only [FC.er,n],gD (by simpa using j)];simp] at c;dsimp only at c;rw [if_neg (fun hx=>by simp at hx;omega)] at c;refine bY (q':=fcM f::_) (cZ (dW h)) ?_;refine Zq (fcM f::q) func186 (Zqa results186) ⟨_,rfl,f,d[i],rfl,rfl,c⟩
theorem want_ok:CallF prog G 185 [I64 k] (q) (Ret fun v q'=>v= .tuple [I64 (Jt k).1,I64 (Jt k).2].toArray/\q'=q):=by
 refine aC func185 ntmps185 rfl fun F cs=> ?_;refine xx 16 ?_;refine xp 5 ?_ ?_<;>intro j
 focus
  refine xx 6 ?_
 rotate_left
 focus
  refine xx 6 ?_;refine xp 7 ?_ ?_<;>intro i
  focus
   refine xx 6 ?_
  rotate_left
  focus
   refine xx 7 ?_;refine xp 9 ?_ ?_<;>intro h
   focus
    refine xx 8 ?_
   rotate_left
   focus
    refine xx 5 ?_;refine xp 9 ?_ ?_<;>intro g
    focus
     refine xx 6 ?_
    rotate_left
    focus
     refine xx 7 ?_;refine xp 12 ?_ ?_<;>intro f
     focus
      refine xx 8 ?_
     rotate_left
     focus
      refine xx 6 ?_;refine xp 12 ?_ ?_<;>intro e
      focus
       refine xx 8 ?_
      rotate_left
      focus
       refine xx 5 ?_;refine xp 12 ?_ ?_<;>intro d
       focus
        refine xx 6 ?_
       rotate_left
       focus
        refine xx 7 ?_;refine xp 16 ?_ ?_<;>intro c
        focus
         refine xx 8 ?_
        rotate_left
        focus
         refine xx 5 ?_;refine xp 16 ?_ ?_<;>intro b
         focus
          refine xx 6 ?_
         rotate_left
         focus
          refine xx 6 ?_;refine xp 19 ?_ ?_<;>intro a
          focus
           refine xx 6 ?_
          rotate_left
          focus
           refine xx 8 ?_
 all_goals
  refine Zq (q) func185 (Wu results185 rfl rfl) ⟨_,rfl,by unfold Jt;repeat (first|rw [if_pos (by omega)]|rw [if_neg (by omega)]),rfl⟩
end
theorem FC.At.v (h:f.At M)(h1:x.At M iC)(h2:y.At M sC):({ f with vars:=x,nv:=y } :FC).At M:=⟨h1,h.arrs,h.chs,h.ths,h.bod,h2,h.na,h.nm,h.nc,h.nh,h.names⟩
theorem FC.At.a {c:Int}(h:f.At M)(h1:x.At M iC)(h2:y.At M sC):({ f with cells:=c,arrs:=x,na:=y } :FC).At M:=⟨h.vars,h1,h.chs,h.ths,h.bod,h.nv,h2,h.nm,h.nc,h.nh,h.names⟩
theorem FC.At.m {c:Int}(h:f.At M)(h2:y.At M sC):({ f with mu:=c,nm:=y } :FC).At M:=⟨h.vars,h.arrs,h.chs,h.ths,h.bod,h.nv,h.na,h2,h.nc,h.nh,h.names⟩
theorem FC.At.c {M:Hp}{f:FC}{y:Sv ByteArray}{c:Int}(h:f.At M)(h2:y.At M sC):({ f with co:=c,nc:=y } :FC).At M:=⟨h.vars,h.arrs,h.chs,h.ths,h.bod,h.nv,h.na,h.nm,h2,h.nh,h.names⟩
theorem FC.At.h {M:Hp}{f:FC}{x:Sv Int}{y:Sv ByteArray}(h:f.At M)(h1:x.At M iC)(h2:y.At M sC):({ f with chs:=x,nh:=y } :FC).At M:=⟨h.vars,h.arrs,h1,h.ths,h.bod,h.nv,h.na,h.nm,h.nc,h2,h.names⟩
theorem FC.At.t {x:Sv Th}(h:f.At M)(h1:x.At M thC)(h2:Ths.At M x.l):({ f with ths:=x } :FC).At M:=⟨h.vars,h.arrs,h.chs,h1,h2,h.nv,h.na,h.nm,h.nc,h.nh,h.names⟩
theorem FC.At.n {x:Sv Nm}(h:f.At M)(h1:x.At M nmC):({ f with names:=x } :FC).At M:=⟨h.vars,h.arrs,h.chs,h.ths,h.bod,h.nv,h.na,h.nm,h.nc,h.nh,h1⟩
theorem svI (h:Kn q fun M=>x.At M iC):Sees q x.a (x.l.map I64):=by rw [<-Qv];exact dT h
theorem svS {x:Sv ByteArray}(h:Kn q fun M=>x.At M sC):Sees q x.a (x.l.map Value.string):=by rw [<-V6];exact dT h
section
variable {d:Dec}
abbrev Av :=((.cells zz6.toArray 240 (0,0)):Obj)
theorem Iz (h:Kn q fun M=>f.At M)(hb:f.er.le 100000)(hk:1<=d.k/\d.k<=6)(hd: -2147483647<=d.n/\d.n<=2147483647):CallF prog G 118 [.agg (fcC f).toArray,.agg (dcC d).toArray] (q) (Ret fun v q'=> ∃ g:FC,v= .agg (fcC g).toArray/\q'=fcM g::q/\g.er=f.er.decl d.er):=by
 refine aC func118 ntmps118 rfl fun F cs=> ?_;obtain ⟨k,ln,cl,nm,z,b0,ba,bc⟩:=d;dsimp only at hk hd;obtain ⟨b1,a1,z0,j0,y0,x0,w0,v0,u0,r,⟨p0,o0⟩,⟨n0,m0⟩,l0,k0⟩:=hb;dsimp only [FC.er] at b1 a1 z0 j0 y0 x0 w0 v0 u0 r p0 o0 n0 m0 l0 k0;rw [aU] at j0;obtain ⟨R,w⟩: ∃ R,f.er.decl (Dec.er ⟨k,ln,cl,nm,z,b0,ba,bc⟩)=R:=⟨_,rfl⟩;rw [w];obtain ⟨D,i⟩: ∃ D,f.er.decl1 ⟨k,ln,cl,nm,z,Zj b0⟩=D:=⟨_,rfl⟩;replace w:(if f.er.at nm≠0 then f.er.fl 130 else if D.2.2=false then D.1 else if 64<=D.1.names.length then D.1.fl 134 else { D.1 with names:=D.1.names++ [⟨nm,k,D.2.1⟩] })=R:=by rw [<-i];exact w
 refine xo 2 ?_;refine Ww fun n1=> ?_
 refine Ww fun n2=> ?_
 refine bW zeroValue240 fun n3=> ?_
 refine rn [4,0,1,0] ?_;refine aO call119 (Xs (f:=f) (h.le leA)) ?_;refine ox 2 ?_;refine xp 10 ?_ ?_<;>intro h0
 . rw [if_pos (show f.er.at nm≠0 by omega)] at w;refine rn [3,0,1,0] ?_;refine Zb call120 (aE _) (Uv (f:=f) (h.le leA)) ?_;rintro _ _ ⟨g,rfl,rfl,hg⟩;refine rn [0,1] ?_;refine Zq (fcM g::q) func118 (rA_ results118) ⟨_,rfl,g,rfl,rfl,hg.trans w⟩
 rw [if_neg (show ¬f.er.at nm≠0 by omega)] at w;unfold Fnd.decl1 at i;dsimp only at i;refine rn [10,0,1] ?_;refine kC (fun (x:FC×Int)=> [(5,I64 x.2),(2,pt n1),(3,pt n2),(4,pt n3)]) (fun x=>fcM x.1::pto n1 (.cells (fcC x.1).toArray 240 (0,0))::pto n2 (.cells (dcC ⟨k,ln,cl,nm,z,b0,ba,bc⟩).toArray 229 (0,0))::pto n3 Av::(q++F)) (fun x=>D=(x.1.er,x.2,true)/\x.1.names.l.length<=100000) (fun x i0=> ?_) fun K=> ?_
 . obtain ⟨g,n⟩:=x;dsimp only at i0|-;obtain ⟨s0,c1⟩:=i0;rw [s0] at w;dsimp only at w;rw [if_neg (show ¬true=false by decide)] at w;refine rn [4,0,3] ?_;refine xp 217 ?_ ?_<;>intro h1
   . rw [if_pos (show 64<=g.er.names.length by simp only [FC.er];omega)] at w;refine rn [3,0,1,0] ?_;refine Zb call120 (aE _) (Uv (f:=g) knA) ?_;rintro _ _ ⟨g2,rfl,rfl,hg⟩;refine rn [0,1] ?_;refine Zq (fcM g2::q) func118 (rA_ results118) ⟨_,rfl,g2,rfl,rfl,hg.trans w⟩
   rw [if_neg (show ¬64<=g.er.names.length by simp only [FC.er];omega)] at w;refine rn [3,0,1,2,4,5,6,7,8,9] ?_;refine jL (q':=rsH nmC 3 245 none 0 ([])::_) (Zi nmC 3 245 _) ?_;refine Yo (fl:= [⟨9,231,fun g=> .slice (some ⟨g,0,none⟩) 1 1,fun g=>rsH nmC 3 245 (some ⟨g,0,none⟩) 1 ([⟨nm,k,n⟩])⟩]) ?_;refine iX 2 ⟨⟨_,rfl,rfl,rfl,rfl,rfl,rfl,fun q=>Yz (u:=⟨nm,k,n⟩) nmC underlying238 Qp rfl rfl (fun _=>rfl) rfl⟩,trivial⟩ (Er (f:=nmC) (sz:=3) (l:= []) (m:=g.names.l) underlying238 Qp rfl rfl (fun _=>rfl) rfl rfl Zk (dT (kA (φ:=fun M=>g.At M) knA fun M h=>h.names)) (fun _=>rfl) (by simp;omega) (by simp;omega)) ?_;refine kk2 fun aa ac=> ?_
   refine Vv (e0:=⟨9,231,fun g=> .slice (some ⟨g,0,none⟩) 1 1,fun g=>rsH nmC 3 245 (some ⟨g,0,none⟩) 1 ([⟨nm,k,n⟩])⟩) (hnd:=by simp) 9 ⟨⟨_,rfl,rfl,rfl,rfl,rfl,rfl,fun q=>Yz (u:=⟨nm,k,n⟩) nmC underlying238 Qp rfl rfl (fun _=>rfl) rfl⟩,trivial⟩ fun gl=> ?_;change XF _ _ _ _ _ _ _ [] _ _ _ ((231,.slice (some ⟨gl,0,none⟩) 1 1)::_) _ _ (rsH nmC 3 245 (some ⟨gl,0,none⟩) 1 ([⟨nm,k,n⟩])::_);refine eT ?_;try rw [aT]
   refine fC 10 rfl (Z9 (f:=nmC) (l:=g.names.l) (m:= [⟨nm,k,n⟩]) underlying238 Qp rfl rfl (fun _=>rfl) rfl rfl Zk ((bE _).le Zk) (fun _=>rfl) (by simp;omega) (by simp;omega)) ?_;refine kk2 fun g0 f0=> ?_
   refine rn [12,13,0,2,0,0,1] ?_;refine P6 ?_;refine bY (q':=fcM ({ g with names:=⟨g.names.l++ [⟨nm,k,n⟩],g0,f0⟩ } :FC)::_) (cZ ((gL (φ:=fun M=>g.At M) knA (svK (x:=⟨_,g0,f0⟩) (f:=nmC))).imp fun M h=>FC.At.n h.1 h.2)) ?_;refine Zq (fcM ({ g with names:=⟨g.names.l++ [⟨nm,k,n⟩],g0,f0⟩ } :FC)::q) func118 (rA_ results118) ⟨_,rfl, { g with names:=⟨g.names.l++ [⟨nm,k,n⟩],g0,f0⟩ },rfl,rfl,w⟩
 have t0:k=1\/k=2\/k=3\/k=4\/k=5\/k=6:=by omega
 rcases t0 with rfl|rfl|rfl|rfl|rfl|rfl
 . rw [if_pos rfl] at i;refine rn [6,2017,5,0,7,0,2] ?_;refine Zf [26,5,4,3,2] ?_;apply Zy 4 30 26 rfl
   . intro s M1;have h1:=sp s;refine rn [1,0,2] ?_;exact Zz M1 ⟨orF s,Zv⟩
   . intro s M1;have h1:=sp s;refine oo 4 ?_;exact Zz M1 ⟨orT s,Zv⟩
   refine ox 1 ?_;refine xp 30 ?_ ?_<;>intro h1
   . refine rn [3,0,1,0] ?_;refine Zb call120 (aE _) (Uv (f:=f) (h.le leA)) ?_;rintro _ _ ⟨g,rfl,rfl,hg⟩;refine rn [0,1] ?_;rw [if_pos (by omega)] at i;rw [<-i,if_pos rfl] at w;refine Zq (fcM g::q) func118 (rA_ results118) ⟨_,rfl,g,rfl,rfl,hg.trans w⟩
   refine rn [3,0,1,2,3,5,6] ?_;refine jL (q':=lsH I64 2 none 0 ([])::_) (Za _ _ _) ?_;refine Yo (fl:= [⟨6,41,fun g=> .slice (some ⟨g,0,none⟩) 1 1,fun g=>lsH I64 2 (some ⟨g,0,none⟩) 1 ([z])⟩]) ?_;refine iX 3 ⟨⟨_,rfl,rfl,rfl,rfl,rfl,rfl,fun q=>Yp I64 [z] underlying23 F7 rfl rfl rfl rfl rfl rfl (fun _=>rfl)⟩,trivial⟩ (J5 (fe:=I64) (l:= []) (m:=f.vars.l) underlying23 F7 rfl rfl rfl Zk (svI (dW (h.imp fun M h=>h.vars))) (fun _=>rfl) (by simp;omega) (by simp;omega)) ?_;refine kk2 fun d0 c0=> ?_
   refine Vv (e0:=⟨6,41,fun g=> .slice (some ⟨g,0,none⟩) 1 1,fun g=>lsH I64 2 (some ⟨g,0,none⟩) 1 ([z])⟩) (hnd:=by simp) 6 ⟨⟨_,rfl,rfl,rfl,rfl,rfl,rfl,fun q=>Yp I64 [z] underlying23 F7 rfl rfl rfl rfl rfl rfl (fun _=>rfl)⟩,trivial⟩ fun j=> ?_;change XF _ _ _ _ _ _ _ [] _ _ _ ((41,.slice (some ⟨j,0,none⟩) 1 1)::_) _ _ (lsH I64 2 (some ⟨j,0,none⟩) 1 ([z])::_);refine eT ?_;try rw [aT]
   refine fC 7 rfl (Yx (f:=I64) (l:=f.vars.l) (m:= [z]) underlying23 F7 rfl rfl rfl Zk ((bR _).le Zk) (fun _=>rfl) (by simp;omega) (by simp;omega)) ?_;refine kk2 fun e b=> ?_
   refine rn [9,10,11,0,0,1,2,3,4,6,7] ?_;refine jL (q':=lsH Value.string 9 none 0 ([])::_) (Za _ _ _) ?_;refine Yo (fl:= [⟨7,52,fun g=> .slice (some ⟨g,0,none⟩) 1 1,fun g=>lsH Value.string 9 (some ⟨g,0,none⟩) 1 ([nm])⟩]) ?_;refine iX 4 ⟨⟨_,rfl,rfl,rfl,rfl,rfl,rfl,fun q=>Yp Value.string [nm] underlying25 Wh rfl rfl rfl rfl rfl rfl (fun _=>rfl)⟩,trivial⟩ (J5 (fe:=Value.string) (l:= []) (m:=f.nv.l) underlying25 Wh rfl rfl rfl Zk (svS (dW (h.imp fun M h=>h.nv))) (fun _=>rfl) (by simp;omega) (by simp;omega)) ?_;refine kk2 fun r0 q0=> ?_
   refine Vv (e0:=⟨7,52,fun g=> .slice (some ⟨g,0,none⟩) 1 1,fun g=>lsH Value.string 9 (some ⟨g,0,none⟩) 1 ([nm])⟩) (hnd:=by simp) 7 ⟨⟨_,rfl,rfl,rfl,rfl,rfl,rfl,fun q=>Yp Value.string [nm] underlying25 Wh rfl rfl rfl rfl rfl rfl (fun _=>rfl)⟩,trivial⟩ fun a0=> ?_;change XF _ _ _ _ _ _ _ [] _ _ _ ((52,.slice (some ⟨a0,0,none⟩) 1 1)::_) _ _ (lsH Value.string 9 (some ⟨a0,0,none⟩) 1 ([nm])::_);refine eT ?_;try rw [aT]
   refine fC 8 rfl (Yx (f:=Value.string) (l:=f.nv.l) (m:= [nm]) underlying25 Wh rfl rfl rfl Zk ((bR _).le Zk) (fun _=>rfl) (by simp;omega) (by simp;omega)) ?_;refine kk2 fun p o=> ?_
   refine rn [10,11,12,13,0,1] ?_;rw [if_neg (by omega)] at i;refine Q0 (f':=iC) (fe:=I64) Qv ?_;refine Q0 (f':=sC) (fe:=Value.string) V6 ?_;refine bY (q':=fcM ({ f with vars:=⟨f.vars.l++ [z],e,b⟩,nv:=⟨f.nv.l++ [nm],p,o⟩ } :FC)::_) (cZ ((gL (dW h) (gL (svK (x:=⟨f.vars.l++ [z],e,b⟩) (f:=iC)) (svK (x:=⟨f.nv.l++ [nm],p,o⟩) (f:=sC)))).imp fun M h=>FC.At.v h.1 h.2.1 h.2.2)) ?_;exact aY (K (({ f with vars:=⟨f.vars.l++ [z],e,b⟩,nv:=⟨f.nv.l++ [nm],p,o⟩ } :FC),(f.vars.l.length:Int)) ⟨by first|(rw [<-i];done)|(rw [<-i];rfl)|(rw [<-i];simp only [FC.er,aM,aU];done)|(rw [<-i];simp only [FC.er,aM,aU];rfl),r⟩) Zu leA
 . rw [if_neg (by decide),if_pos rfl] at i;rw [show f.er.cells=f.cells from rfl] at i;refine rn [6,1017,6,2057,5,0,7,0,2] ?_;refine Zf [66,5,4,3,2] ?_;apply Zy 4 70 66 rfl
   . intro s M1;have h1:=sp s;refine rn [1,0,2] ?_;exact Zz M1 ⟨orF s,Zv⟩
   . intro s M1;have h1:=sp s;refine oo 4 ?_;exact Zz M1 ⟨orT s,Zv⟩
   refine oo 1 ?_;refine Zf [71,5,4,3,2] ?_;apply Zy 7 78 71 rfl
   . intro s M1;have h1:=sp s;refine rn [1,0,1,0,3] ?_;exact Zz M1 ⟨orF s,Zv⟩
   . intro s M1;have h1:=sp s;refine oo 7 ?_;exact Zz M1 ⟨orT s,Zv⟩
   refine ox 1 ?_;refine xp 78 ?_ ?_<;>intro h1
   . refine rn [3,0,1,0] ?_;refine Zb call120 (aE _) (Uv (f:=f) (h.le leA)) ?_;rintro _ _ ⟨g,rfl,rfl,hg⟩;refine rn [0,1] ?_;rw [if_pos (by omega)] at i;rw [<-i,if_pos rfl] at w;refine Zq (fcM g::q) func118 (rA_ results118) ⟨_,rfl,g,rfl,rfl,hg.trans w⟩
   refine rn [5,0,1,0,2,0,2,0,1,2,3,5,6] ?_;refine jL (q':=lsH I64 3 none 0 ([])::_) (Za _ _ _) ?_;refine Yo (fl:= [⟨6,95,fun g=> .slice (some ⟨g,0,none⟩) 1 1,fun g=>lsH I64 3 (some ⟨g,0,none⟩) 1 ([z])⟩]) ?_;refine iX 3 ⟨⟨_,rfl,rfl,rfl,rfl,rfl,rfl,fun q=>Yp I64 [z] underlying22 Kr rfl rfl rfl rfl rfl rfl (fun _=>rfl)⟩,trivial⟩ (J5 (fe:=I64) (l:= []) (m:=f.arrs.l) underlying22 Kr rfl rfl rfl Zk (svI (dW (h.imp fun M h=>h.arrs))) (fun _=>rfl) (by simp;omega) (by simp;omega)) ?_;refine kk2 fun d0 c0=> ?_
   refine Vv (e0:=⟨6,95,fun g=> .slice (some ⟨g,0,none⟩) 1 1,fun g=>lsH I64 3 (some ⟨g,0,none⟩) 1 ([z])⟩) (hnd:=by simp) 6 ⟨⟨_,rfl,rfl,rfl,rfl,rfl,rfl,fun q=>Yp I64 [z] underlying22 Kr rfl rfl rfl rfl rfl rfl (fun _=>rfl)⟩,trivial⟩ fun j=> ?_;change XF _ _ _ _ _ _ _ [] _ _ _ ((95,.slice (some ⟨j,0,none⟩) 1 1)::_) _ _ (lsH I64 3 (some ⟨j,0,none⟩) 1 ([z])::_);refine eT ?_;try rw [aT]
   refine fC 7 rfl (Yx (f:=I64) (l:=f.arrs.l) (m:= [z]) underlying22 Kr rfl rfl rfl Zk ((bR _).le Zk) (fun _=>rfl) (by simp;omega) (by simp;omega)) ?_;refine kk2 fun e b=> ?_
   refine rn [9,10,11,0,0,1,2,3,4,6,7] ?_;refine jL (q':=lsH Value.string 9 none 0 ([])::_) (Za _ _ _) ?_;refine Yo (fl:= [⟨7,106,fun g=> .slice (some ⟨g,0,none⟩) 1 1,fun g=>lsH Value.string 9 (some ⟨g,0,none⟩) 1 ([nm])⟩]) ?_;refine iX 4 ⟨⟨_,rfl,rfl,rfl,rfl,rfl,rfl,fun q=>Yp Value.string [nm] underlying25 Wh rfl rfl rfl rfl rfl rfl (fun _=>rfl)⟩,trivial⟩ (J5 (fe:=Value.string) (l:= []) (m:=f.na.l) underlying25 Wh rfl rfl rfl Zk (svS (dW (h.imp fun M h=>h.na))) (fun _=>rfl) (by simp;omega) (by simp;omega)) ?_;refine kk2 fun r0 q0=> ?_
   refine Vv (e0:=⟨7,106,fun g=> .slice (some ⟨g,0,none⟩) 1 1,fun g=>lsH Value.string 9 (some ⟨g,0,none⟩) 1 ([nm])⟩) (hnd:=by simp) 7 ⟨⟨_,rfl,rfl,rfl,rfl,rfl,rfl,fun q=>Yp Value.string [nm] underlying25 Wh rfl rfl rfl rfl rfl rfl (fun _=>rfl)⟩,trivial⟩ fun a0=> ?_;change XF _ _ _ _ _ _ _ [] _ _ _ ((106,.slice (some ⟨a0,0,none⟩) 1 1)::_) _ _ (lsH Value.string 9 (some ⟨a0,0,none⟩) 1 ([nm])::_);refine eT ?_;try rw [aT]
   refine fC 8 rfl (Yx (f:=Value.string) (l:=f.na.l) (m:= [nm]) underlying25 Wh rfl rfl rfl Zk ((bR _).le Zk) (fun _=>rfl) (by simp;omega) (by simp;omega)) ?_;refine kk2 fun p o=> ?_
   refine rn [10,11,12,13,0,1] ?_;rw [if_neg (by omega)] at i;refine Q0 (f':=iC) (fe:=I64) Qv ?_;refine Q0 (f':=sC) (fe:=Value.string) V6 ?_;refine bY (q':=fcM ({ f with cells:=f.cells+z,arrs:=⟨f.arrs.l++ [z],e,b⟩,na:=⟨f.na.l++ [nm],p,o⟩ } :FC)::_) (cZ ((gL (dW h) (gL (svK (x:=⟨f.arrs.l++ [z],e,b⟩) (f:=iC)) (svK (x:=⟨f.na.l++ [nm],p,o⟩) (f:=sC)))).imp fun M h=>FC.At.a h.1 h.2.1 h.2.2)) ?_;exact aY (K (({ f with cells:=f.cells+z,arrs:=⟨f.arrs.l++ [z],e,b⟩,na:=⟨f.na.l++ [nm],p,o⟩ } :FC),(f.arrs.l.length:Int)) ⟨by first|(rw [<-i];done)|(rw [<-i];rfl)|(rw [<-i];simp only [FC.er,aM,aU];done)|(rw [<-i];simp only [FC.er,aM,aU];rfl),r⟩) Zu leA
 . rw [if_neg (by decide),if_neg (by decide),if_pos rfl] at i;refine rn [6,1017,6,1057,6,2111,5,0,6,0,3,0,1,0,1,2,3,4,6,7] ?_;refine jL (q':=lsH Value.string 9 none 0 ([])::_) (Za _ _ _) ?_;refine Yo (fl:= [⟨7,129,fun g=> .slice (some ⟨g,0,none⟩) 1 1,fun g=>lsH Value.string 9 (some ⟨g,0,none⟩) 1 ([nm])⟩]) ?_;refine iX 4 ⟨⟨_,rfl,rfl,rfl,rfl,rfl,rfl,fun q=>Yp Value.string [nm] underlying25 Wh rfl rfl rfl rfl rfl rfl (fun _=>rfl)⟩,trivial⟩ (J5 (fe:=Value.string) (l:= []) (m:=f.nm.l) underlying25 Wh rfl rfl rfl Zk (svS (dW (h.imp fun M h=>h.nm))) (fun _=>rfl) (by simp;omega) (by simp;omega)) ?_;refine kk2 fun d0 c0=> ?_
   refine Vv (e0:=⟨7,129,fun g=> .slice (some ⟨g,0,none⟩) 1 1,fun g=>lsH Value.string 9 (some ⟨g,0,none⟩) 1 ([nm])⟩) (hnd:=by simp) 7 ⟨⟨_,rfl,rfl,rfl,rfl,rfl,rfl,fun q=>Yp Value.string [nm] underlying25 Wh rfl rfl rfl rfl rfl rfl (fun _=>rfl)⟩,trivial⟩ fun j=> ?_;change XF _ _ _ _ _ _ _ [] _ _ _ ((129,.slice (some ⟨j,0,none⟩) 1 1)::_) _ _ (lsH Value.string 9 (some ⟨j,0,none⟩) 1 ([nm])::_);refine eT ?_;try rw [aT]
   refine fC 8 rfl (Yx (f:=Value.string) (l:=f.nm.l) (m:= [nm]) underlying25 Wh rfl rfl rfl Zk ((bR _).le Zk) (fun _=>rfl) (by simp;omega) (by simp;omega)) ?_;refine kk2 fun e b=> ?_
   refine rn [10,11,12,13,0,1] ?_;refine Q0 (f':=sC) (fe:=Value.string) V6 ?_;refine bY (q':=fcM ({ f with mu:=f.mu+1,nm:=⟨f.nm.l++ [nm],e,b⟩ } :FC)::_) (cZ ((gL (dW h) (svK (x:=⟨f.nm.l++ [nm],e,b⟩) (f:=sC))).imp fun M h=>FC.At.m h.1 h.2)) ?_;exact aY (K (({ f with mu:=f.mu+1,nm:=⟨f.nm.l++ [nm],e,b⟩ } :FC),(f.mu:Int)) ⟨by first|(rw [<-i];done)|(rw [<-i];rfl)|(rw [<-i];simp only [FC.er,aM,aU];done)|(rw [<-i];simp only [FC.er,aM,aU];rfl),r⟩) Zu leA
 . rw [if_neg (by decide),if_neg (by decide),if_neg (by decide),if_pos rfl] at i;refine rn [6,1017,6,1057,6,1111,6,2134,5,0,6,0,3,0,1,0,1,2,3,4,6,7] ?_;refine jL (q':=lsH Value.string 9 none 0 ([])::_) (Za _ _ _) ?_;refine Yo (fl:= [⟨7,152,fun g=> .slice (some ⟨g,0,none⟩) 1 1,fun g=>lsH Value.string 9 (some ⟨g,0,none⟩) 1 ([nm])⟩]) ?_;refine iX 4 ⟨⟨_,rfl,rfl,rfl,rfl,rfl,rfl,fun q=>Yp Value.string [nm] underlying25 Wh rfl rfl rfl rfl rfl rfl (fun _=>rfl)⟩,trivial⟩ (J5 (fe:=Value.string) (l:= []) (m:=f.nc.l) underlying25 Wh rfl rfl rfl Zk (svS (dW (h.imp fun M h=>h.nc))) (fun _=>rfl) (by simp;omega) (by simp;omega)) ?_;refine kk2 fun d0 c0=> ?_
   refine Vv (e0:=⟨7,152,fun g=> .slice (some ⟨g,0,none⟩) 1 1,fun g=>lsH Value.string 9 (some ⟨g,0,none⟩) 1 ([nm])⟩) (hnd:=by simp) 7 ⟨⟨_,rfl,rfl,rfl,rfl,rfl,rfl,fun q=>Yp Value.string [nm] underlying25 Wh rfl rfl rfl rfl rfl rfl (fun _=>rfl)⟩,trivial⟩ fun j=> ?_;change XF _ _ _ _ _ _ _ [] _ _ _ ((152,.slice (some ⟨j,0,none⟩) 1 1)::_) _ _ (lsH Value.string 9 (some ⟨j,0,none⟩) 1 ([nm])::_);refine eT ?_;try rw [aT]
   refine fC 8 rfl (Yx (f:=Value.string) (l:=f.nc.l) (m:= [nm]) underlying25 Wh rfl rfl rfl Zk ((bR _).le Zk) (fun _=>rfl) (by simp;omega) (by simp;omega)) ?_;refine kk2 fun e b=> ?_
   refine rn [10,11,12,13,0,1] ?_;refine Q0 (f':=sC) (fe:=Value.string) V6 ?_;refine bY (q':=fcM ({ f with co:=f.co+1,nc:=⟨f.nc.l++ [nm],e,b⟩ } :FC)::_) (cZ ((gL (dW h) (svK (x:=⟨f.nc.l++ [nm],e,b⟩) (f:=sC))).imp fun M h=>FC.At.c h.1 h.2)) ?_;exact aY (K (({ f with co:=f.co+1,nc:=⟨f.nc.l++ [nm],e,b⟩ } :FC),(f.co:Int)) ⟨by first|(rw [<-i];done)|(rw [<-i];rfl)|(rw [<-i];simp only [FC.er,aM,aU];done)|(rw [<-i];simp only [FC.er,aM,aU];rfl),r⟩) Zu leA
 . rw [if_neg (by decide),if_neg (by decide),if_neg (by decide),if_neg (by decide),if_pos rfl] at i;refine rn [6,1017,6,1057,6,1111,6,1134,6,2157,5,0,7,0,2] ?_;refine Zf [166,5,4,3,2] ?_;apply Zy 4 170 166 rfl
   . intro s M1;have h1:=sp s;refine rn [1,0,2] ?_;exact Zz M1 ⟨orF s,Zv⟩
   . intro s M1;have h1:=sp s;refine oo 4 ?_;exact Zz M1 ⟨orT s,Zv⟩
   refine ox 1 ?_;refine xp 170 ?_ ?_<;>intro h1
   . refine rn [3,0,1,0] ?_;refine Zb call120 (aE _) (Uv (f:=f) (h.le leA)) ?_;rintro _ _ ⟨g,rfl,rfl,hg⟩;refine rn [0,1] ?_;rw [if_pos (by omega)] at i;rw [<-i,if_pos rfl] at w;refine Zq (fcM g::q) func118 (rA_ results118) ⟨_,rfl,g,rfl,rfl,hg.trans w⟩
   refine rn [3,0,1,2,3,5,6] ?_;refine jL (q':=lsH I64 3 none 0 ([])::_) (Za _ _ _) ?_;refine Yo (fl:= [⟨6,181,fun g=> .slice (some ⟨g,0,none⟩) 1 1,fun g=>lsH I64 3 (some ⟨g,0,none⟩) 1 ([z])⟩]) ?_;refine iX 3 ⟨⟨_,rfl,rfl,rfl,rfl,rfl,rfl,fun q=>Yp I64 [z] underlying22 Kr rfl rfl rfl rfl rfl rfl (fun _=>rfl)⟩,trivial⟩ (J5 (fe:=I64) (l:= []) (m:=f.chs.l) underlying22 Kr rfl rfl rfl Zk (svI (dW (h.imp fun M h=>h.chs))) (fun _=>rfl) (by simp;omega) (by simp;omega)) ?_;refine kk2 fun d0 c0=> ?_
   refine Vv (e0:=⟨6,181,fun g=> .slice (some ⟨g,0,none⟩) 1 1,fun g=>lsH I64 3 (some ⟨g,0,none⟩) 1 ([z])⟩) (hnd:=by simp) 6 ⟨⟨_,rfl,rfl,rfl,rfl,rfl,rfl,fun q=>Yp I64 [z] underlying22 Kr rfl rfl rfl rfl rfl rfl (fun _=>rfl)⟩,trivial⟩ fun j=> ?_;change XF _ _ _ _ _ _ _ [] _ _ _ ((181,.slice (some ⟨j,0,none⟩) 1 1)::_) _ _ (lsH I64 3 (some ⟨j,0,none⟩) 1 ([z])::_);refine eT ?_;try rw [aT]
   refine fC 7 rfl (Yx (f:=I64) (l:=f.chs.l) (m:= [z]) underlying22 Kr rfl rfl rfl Zk ((bR _).le Zk) (fun _=>rfl) (by simp;omega) (by simp;omega)) ?_;refine kk2 fun e b=> ?_
   refine rn [9,10,11,0,0,1,2,3,4,6,7] ?_;refine jL (q':=lsH Value.string 9 none 0 ([])::_) (Za _ _ _) ?_;refine Yo (fl:= [⟨7,192,fun g=> .slice (some ⟨g,0,none⟩) 1 1,fun g=>lsH Value.string 9 (some ⟨g,0,none⟩) 1 ([nm])⟩]) ?_;refine iX 4 ⟨⟨_,rfl,rfl,rfl,rfl,rfl,rfl,fun q=>Yp Value.string [nm] underlying25 Wh rfl rfl rfl rfl rfl rfl (fun _=>rfl)⟩,trivial⟩ (J5 (fe:=Value.string) (l:= []) (m:=f.nh.l) underlying25 Wh rfl rfl rfl Zk (svS (dW (h.imp fun M h=>h.nh))) (fun _=>rfl) (by simp;omega) (by simp;omega)) ?_;refine kk2 fun r0 q0=> ?_
   refine Vv (e0:=⟨7,192,fun g=> .slice (some ⟨g,0,none⟩) 1 1,fun g=>lsH Value.string 9 (some ⟨g,0,none⟩) 1 ([nm])⟩) (hnd:=by simp) 7 ⟨⟨_,rfl,rfl,rfl,rfl,rfl,rfl,fun q=>Yp Value.string [nm] underlying25 Wh rfl rfl rfl rfl rfl rfl (fun _=>rfl)⟩,trivial⟩ fun a0=> ?_;change XF _ _ _ _ _ _ _ [] _ _ _ ((192,.slice (some ⟨a0,0,none⟩) 1 1)::_) _ _ (lsH Value.string 9 (some ⟨a0,0,none⟩) 1 ([nm])::_);refine eT ?_;try rw [aT]
   refine fC 8 rfl (Yx (f:=Value.string) (l:=f.nh.l) (m:= [nm]) underlying25 Wh rfl rfl rfl Zk ((bR _).le Zk) (fun _=>rfl) (by simp;omega) (by simp;omega)) ?_;refine kk2 fun p o=> ?_
   refine rn [10,11,12,13,0,1] ?_;rw [if_neg (by omega)] at i;refine Q0 (f':=iC) (fe:=I64) Qv ?_;refine Q0 (f':=sC) (fe:=Value.string) V6 ?_;refine bY (q':=fcM ({ f with chs:=⟨f.chs.l++ [z],e,b⟩,nh:=⟨f.nh.l++ [nm],p,o⟩ } :FC)::_) (cZ ((gL (dW h) (gL (svK (x:=⟨f.chs.l++ [z],e,b⟩) (f:=iC)) (svK (x:=⟨f.nh.l++ [nm],p,o⟩) (f:=sC)))).imp fun M h=>FC.At.h h.1 h.2.1 h.2.2)) ?_;exact aY (K (({ f with chs:=⟨f.chs.l++ [z],e,b⟩,nh:=⟨f.nh.l++ [nm],p,o⟩ } :FC),(f.chs.l.length:Int)) ⟨by first|(rw [<-i];done)|(rw [<-i];rfl)|(rw [<-i];simp only [FC.er,aM,aU];done)|(rw [<-i];simp only [FC.er,aM,aU];rfl),r⟩) Zu leA
 rw [if_neg (by decide),if_neg (by decide),if_neg (by decide),if_neg (by decide),if_neg (by decide),if_pos rfl] at i;refine rn [6,1017,6,1057,6,1111,6,1134,6,1157,6,2197,5,0,3,0,1,2,3,5,6,7] ?_;refine jL (q':=rsH thC 3 55 none 0 ([])::_) (Zi thC 3 55 _) ?_;refine Yo (fl:= [⟨7,210,fun g=> .slice (some ⟨g,0,none⟩) 1 1,fun g=>rsH thC 3 55 (some ⟨g,0,none⟩) 1 ([⟨nm,0, [],none,0⟩])⟩]) ?_;refine iX 3 ⟨⟨_,rfl,rfl,rfl,rfl,rfl,rfl,fun q=>Yz (u:=⟨nm,0, [],none,0⟩) thC underlying24 Nr rfl rfl (fun _=>rfl) rfl⟩,trivial⟩ (Er (f:=thC) (sz:=3) (l:= []) (m:=f.ths.l) underlying24 Nr rfl rfl (fun _=>rfl) rfl rfl Zk (dT (dW (h.imp fun M h=>h.ths))) (fun _=>rfl) (by simp;omega) (by simp;omega)) ?_;refine kk2 fun d0 c0=> ?_
 refine Vv (e0:=⟨7,210,fun g=> .slice (some ⟨g,0,none⟩) 1 1,fun g=>rsH thC 3 55 (some ⟨g,0,none⟩) 1 ([⟨nm,0, [],none,0⟩])⟩) (hnd:=by simp) 7 ⟨⟨_,rfl,rfl,rfl,rfl,rfl,rfl,fun q=>Yz (u:=⟨nm,0, [],none,0⟩) thC underlying24 Nr rfl rfl (fun _=>rfl) rfl⟩,trivial⟩ fun j=> ?_;change XF _ _ _ _ _ _ _ [] _ _ _ ((210,.slice (some ⟨j,0,none⟩) 1 1)::_) _ _ (rsH thC 3 55 (some ⟨j,0,none⟩) 1 ([⟨nm,0, [],none,0⟩])::_);refine eT ?_;try rw [aT]
 refine fC 8 rfl (Z9 (f:=thC) (l:=f.ths.l) (m:= [⟨nm,0, [],none,0⟩]) underlying24 Nr rfl rfl (fun _=>rfl) rfl rfl Zk ((bE _).le Zk) (fun _=>rfl) (by simp;omega) (by simp;omega)) ?_;refine kk2 fun e b=> ?_
 refine rn [10,11,12,0,1] ?_;refine P6 ?_;refine bY (q':=fcM ({ f with ths:=⟨f.ths.l++ [⟨nm,0, [],none,0⟩],e,b⟩ } :FC)::_) (cZ ((gL (dW h) (svK (x:=⟨f.ths.l++ [⟨nm,0, [],none,0⟩],e,b⟩) (f:=thC))).imp fun M h=>FC.At.t h.1 h.2 (fun y hy=>by rcases aQ.1 hy with hy|hy;exact h.1.bod y hy;rw [aZ.1 hy];exact ⟨SlAt.nil M,trivial⟩))) ?_;exact aY (K (({ f with ths:=⟨f.ths.l++ [⟨nm,0, [],none,0⟩],e,b⟩ } :FC),(f.ths.l.length:Int)) ⟨by first|(rw [<-i];done)|(rw [<-i];rfl)|(rw [<-i];simp only [FC.er,aM,aU];done)|(rw [<-i];simp only [FC.er,aM,aU];rfl),r⟩) Zu leA
end
mutual
def PEx.thin:PEx->Prop
 | .mk _ _ _ _ _ _ args=>args.length<=2/\Km args
def Km:List PEx->Prop
 | []=>True
 |e::r=>e.thin/\Km r
end
theorem Ml {x:PEx}: ∀ {l:List PEx},Km l->x∈l->x.thin
 |y::r,⟨h1,h2⟩,h=>by
  rcases cE.1 h with rfl|h
  . exact h1
  exact Ml h2 h
mutual
theorem Jh: ∀ {e:PEx} {d:Nat},e.right d=true->e.thin
 | .mk k n nm _ _ op args,d,h=>by
  simp only [PEx.right] at h;split at h
  . cases h
  split at h
  . rw [aI,aI,bN] at h;refine ⟨?_,Hh h.2⟩;have:=h.1.2;unfold Xp at this;split at this<;>(try split at this)<;>omega
  cases h
theorem Hh: ∀ {l:List PEx} {d:Nat},Y4 l d=true->Km l
 | [],_,_=>trivial
 |e::r,d,h=>by
  simp only [Y4,aI] at h;exact ⟨Jh h.1,Hh h.2⟩
end
theorem Tf: ∀ {e:PEx},e.nil=true->e.thin
 | .mk k n nm _ _ op args,h=>by
  simp only [PEx.nil,aI,bN] at h;have a:=aK h.2;subst a;exact ⟨bB _,trivial⟩
theorem Oh {l m:List Ex}(h:Ex.Ats M l)(k:Ex.Ats M m):Ex.Ats M (l++m):=Ye.2 fun x hx=>(aQ.1 hx).elim (Ye.1 h x) (Ye.1 k x)
section
variable {a:Option Addr}{c:Nat}{l:List Ex}{kd n:Int}{op:Int}
theorem X.exs (h1:Le q (exsM l::q1))(h2:Le q1 (exM e::q2))(K:X P G fr Q todo p ds cs (exsM (l++ [e])::q2)):X P G fr Q todo p ds cs q:=by
 have a:Kn (exsM l::exM e::q2) fun M=>Ex.Ats M (l++ [e]):=((show Kn (exsM l::exM e::q2) fun M=>Ex.Ats M l from fL).and (Kn.there (show Kn (exM e::q2) fun M=>e.At M from fL))).imp fun M h=>Oh h.1 ⟨h.2,trivial⟩
 exact .le ((h1.trans (dD _ h2)).trans ((cZ (mn:=fun e h=>iF e h) a).trans (dD _ ((eD _ _).trans (eD _ _))))) K
theorem X.fzEs (K:X P G fr Q todo p ds cs (exM (.mk kd n nm slot loc op l a c)::q0))(hq:Le q (rsH exC 7 124 a c l::q0):=by exact Zk)(h:Kn q0 fun M=>Ex.Ats M l:=by exact knA):X P G fr Q todo p ds cs q:= .frzR (Kn.here.and h.there) K hq
end
theorem S9 (IH: ∀ (x:Ex),x.sz<e.sz->x.er.thin-> ∀ {f:FC} {pl pc:Int} {q:List HP},(Kn q fun M=>f.At M)->(Kn q fun M=>x.At M)->CallF prog G 184 [.agg (fcC f).toArray,.agg (exC x).toArray,.agg [I64 pl,I64 pc].toArray] q (Ret fun v q'=> ∃ (g:FC) (y:Ex),v= .tuple [.agg (fcC g).toArray,.agg (exC y).toArray].toArray/\q'=fcM g::exM y::q/\(g.er,y.er)=f.er.expr x.er))(hf:Kn q fun M=>f.At M)(h:Kn q fun M=>e.At M)(ht:e.er.thin):CallF prog G 184 [.agg (fcC f).toArray,.agg (exC e).toArray,.agg [I64 pl,I64 pc].toArray] (q) (Ret fun v q'=> ∃ (g:FC) (x:Ex),v= .tuple [.agg (fcC g).toArray,.agg (exC x).toArray].toArray/\q'=fcM g::exM x::q/\(g.er,x.er)=f.er.expr e.er):=by
 refine aC func184 ntmps184 rfl fun F cs=> ?_;obtain ⟨k,z,nm,sl,lo,op,d,aa,ac⟩:=e;have hA:=Ov h;have b0:=Zx (f:=exC) (sz:=7) Z4 d;have k0:d.length<=2:=by have:=ht.1;rw [W9] at this;exact this
 have f0:Km (Z3 d):=ht.2;obtain ⟨R,r⟩: ∃ R,f.er.expr (Ex.er (.mk k z nm sl lo op d aa ac))=R:=⟨_,rfl⟩;rw [r];simp only [Ex.er,Fnd.expr] at r;refine xo 2 ?_;refine Ww fun n1=> ?_
 refine Ww fun n2=> ?_
 refine Ww fun n3=> ?_
 refine bW zeroValue240 fun n4=> ?_
 refine bW zeroValue124 fun n5=> ?_
 refine rn [5,0,1] ?_;refine kC (fun (x:FC×Int×Bool)=> [(3,pt n1),(4,pt n2),(5,pt n3),(6,pt n4),(7,pt n5)]) (fun x=>fcM x.1::pto n1 (.cells (fcC x.1).toArray 240 (0,0))::pto n2 (.cells (exC (.mk k z nm x.2.1 x.2.2 op d aa ac)).toArray 124 (0,0))::pto n3 (.cells [I64 pl,I64 pc].toArray 107 (0,0))::pto n4 (.cells zz6.toArray 240 (0,0))::pto n5 (.cells zz4.toArray 124 (0,0))::(q++F)) (fun x=>R=((Fnd.exprs x.1.er (Z3 d)).1,.mk k z nm x.2.1 x.2.2 op (Fnd.exprs x.1.er (Z3 d)).2)) (fun x a0=> ?_) fun K=> ?_
 . obtain ⟨g,o,p⟩:=x;dsimp only at a0|-;clear r;refine xx 10 ?_;refine aY (cG (fun (s:FC×(Option Addr×Nat×List Ex)×Option Addr)=>s.2.1.2.2.length<=d.length/\s.2.2=aa/\R=((Fnd.exprs s.1.er (Z3 (d.drop s.2.1.2.2.length))).1,.mk k z nm o p op (Z3 s.2.1.2.2++(Fnd.exprs s.1.er (Z3 (d.drop s.2.1.2.2.length))).2))) (fun s=> [(12,.slice s.2.1.1 s.2.1.2.2.length s.2.1.2.1),(13,I64 (s.2.1.2.2.length:Int)),(3,pt n1),(4,pt n2),(5,pt n3),(6,pt n4),(7,pt n5)]) (fun s=>rsH exC 7 124 s.2.1.1 s.2.1.2.1 s.2.1.2.2::exsM s.2.1.2.2::fcM s.1::pto n1 (.cells (fcC s.1).toArray 240 (0,0))::pto n2 (.cells (exC (.mk k z nm o p op d s.2.2 ac)).toArray 124 (0,0))::pto n3 (.cells [I64 pl,I64 pc].toArray 107 (0,0))::pto n4 (.cells zz6.toArray 240 (0,0))::pto n5 (.cells zz4.toArray 124 (0,0))::(q++F)) (fun s=>d.length - s.2.1.2.2.length) (fun s c0 ih=> ?_) (g,(none,0, []),aa) ⟨bB _,rfl,a0⟩) Zu (aS leA (aS (Zi exC 7 124 _) (aS (cZ (φ:=fun M=>Ex.Ats M []) (mn:=fun e h=>iF e h) (fun _ _ _=>trivial)) leA)));try dsimp only at c0 ih|-
   obtain ⟨l0,i0,d0⟩:=c0;obtain ⟨g,⟨a,c,i⟩,m0⟩:=s;dsimp only at*;subst i0;clear a0;refine rn [5,0,3] ?_;refine xp 54 ?_ ?_<;>intro h0
   . have t:i.length<d.length:=by omega
     obtain ⟨y,hy⟩: ∃ y,d[i.length]=y:=⟨_,rfl⟩;obtain ⟨k3,z3,s3,l3,o3,p3,y3,u3,w3⟩:=y;refine rn [5,0,1,2,3,4] ?_;refine K5 hA (by rw [b0];omega) fun b1 o1 e1=> ?_;subst e1;have b: ∀ (Q:List HP),Le Q q-> ∀ (j:Nat) (v:Value),nth (exC (.mk k3 z3 s3 l3 o3 p3 y3 u3 w3)) j=some v->Cl Q ⟨b1,o1+(i.length:Int).toNat*7+j,none⟩ v:=fun Q hQ j v hv=>cT hA hQ Z4 t rfl j v (by rw [hy,<-Uy];exact hv)
     refine dd [4] ?_;refine XD.rdCs 5 (us:=exC (.mk k3 z3 s3 l3 o3 p3 y3 u3 w3)) rfl rfl isAgg124 sizeOf124 rfl (fun k v hk=>b _ leA k v (by rw [Uy];exact hk)) ?_;refine ldAD 6 ?_;refine Yo (fl:= [⟨11,14,fun g=> pt g,fun g=>pto g (.cells zz6.toArray 240 (0,0))⟩,⟨12,15,fun g=> pt g,fun g=>pto g (.cells zz4.toArray 124 (0,0))⟩]) ?_;refine Fi 7 ⟨⟨_,rfl,rfl,rfl,rfl,rfl,rfl,fun q=>bX zeroValue240⟩,⟨_,rfl,rfl,rfl,rfl,rfl,rfl,fun q=>bX zeroValue124⟩,trivial⟩ call184 (aE _) (IH (.mk k3 z3 s3 l3 o3 p3 y3 u3 w3) (by have:=Vx (aB t);rw [hy] at this;simp only [Ex.sz] at this|-;omega) (by have:=Ml f0 (by rw [Yy];exact aP (aB t));rw [hy] at this;exact this) (f:=g) knA (dW (by have:=Ok h t;rw [hy] at this;exact this) leA)) ?_ (hL:=(hlA (h:=by repeat first|exact trivial|refine ⟨clA,?_⟩|refine ⟨b _ leA 0 _ rfl,?_⟩|refine ⟨b _ leA 1 _ rfl,?_⟩|refine ⟨b _ leA 2 _ rfl,?_⟩|refine ⟨b _ leA 3 _ rfl,?_⟩|refine ⟨b _ leA 4 _ rfl,?_⟩|refine ⟨b _ leA 5 _ rfl,?_⟩|refine ⟨b _ leA 6 _ rfl,?_⟩)));rintro _ _ ⟨g2,⟨k2,z2,s2,l2,o2,p2,y2,u2,w2⟩,rfl,rfl,j0⟩;refine ⟨(hlA (h:=by repeat first|exact trivial|refine ⟨clA,?_⟩|refine ⟨b _ leA 0 _ rfl,?_⟩|refine ⟨b _ leA 1 _ rfl,?_⟩|refine ⟨b _ leA 2 _ rfl,?_⟩|refine ⟨b _ leA 3 _ rfl,?_⟩|refine ⟨b _ leA 4 _ rfl,?_⟩|refine ⟨b _ leA 5 _ rfl,?_⟩|refine ⟨b _ leA 6 _ rfl,?_⟩)),?_⟩;refine V4 8 ⟨⟨_,rfl,rfl,rfl,rfl,rfl,rfl,fun q=>bX zeroValue240⟩,⟨_,rfl,rfl,rfl,rfl,rfl,rfl,fun q=>bX zeroValue124⟩,trivial⟩ (Pu.move rfl) ?_ (hL:=(hlA (h:=by repeat first|exact trivial|refine ⟨clA,?_⟩|refine ⟨b _ leA 0 _ rfl,?_⟩|refine ⟨b _ leA 1 _ rfl,?_⟩|refine ⟨b _ leA 2 _ rfl,?_⟩|refine ⟨b _ leA 3 _ rfl,?_⟩|refine ⟨b _ leA 4 _ rfl,?_⟩|refine ⟨b _ leA 5 _ rfl,?_⟩|refine ⟨b _ leA 6 _ rfl,?_⟩)));refine V4 9 ⟨⟨_,rfl,rfl,rfl,rfl,rfl,rfl,fun q=>bX zeroValue240⟩,⟨_,rfl,rfl,rfl,rfl,rfl,rfl,fun q=>bX zeroValue124⟩,trivial⟩ (eZ rfl rfl) ?_ (hL:=(hlA (h:=by repeat first|exact trivial|refine ⟨clA,?_⟩|refine ⟨b _ leA 0 _ rfl,?_⟩|refine ⟨b _ leA 1 _ rfl,?_⟩|refine ⟨b _ leA 2 _ rfl,?_⟩|refine ⟨b _ leA 3 _ rfl,?_⟩|refine ⟨b _ leA 4 _ rfl,?_⟩|refine ⟨b _ leA 5 _ rfl,?_⟩|refine ⟨b _ leA 6 _ rfl,?_⟩)));refine V4 10 ⟨⟨_,rfl,rfl,rfl,rfl,rfl,rfl,fun q=>bX zeroValue240⟩,⟨_,rfl,rfl,rfl,rfl,rfl,rfl,fun q=>bX zeroValue124⟩,trivial⟩ (eZ rfl rfl) ?_ (hL:=(hlA (h:=by repeat first|exact trivial|refine ⟨clA,?_⟩|refine ⟨b _ leA 0 _ rfl,?_⟩|refine ⟨b _ leA 1 _ rfl,?_⟩|refine ⟨b _ leA 2 _ rfl,?_⟩|refine ⟨b _ leA 3 _ rfl,?_⟩|refine ⟨b _ leA 4 _ rfl,?_⟩|refine ⟨b _ leA 5 _ rfl,?_⟩|refine ⟨b _ leA 6 _ rfl,?_⟩)));refine Vv (e0:=⟨11,14,fun g=> pt g,fun g=>pto g (.cells zz6.toArray 240 (0,0))⟩) (hnd:=by simp) 11 ⟨⟨_,rfl,rfl,rfl,rfl,rfl,rfl,fun q=>bX zeroValue240⟩,⟨_,rfl,rfl,rfl,rfl,rfl,rfl,fun q=>bX zeroValue124⟩,trivial⟩ (fun ga=> ?_) (hL:=(hlA (h:=by repeat first|exact trivial|refine ⟨clA,?_⟩|refine ⟨b _ leA 0 _ rfl,?_⟩|refine ⟨b _ leA 1 _ rfl,?_⟩|refine ⟨b _ leA 2 _ rfl,?_⟩|refine ⟨b _ leA 3 _ rfl,?_⟩|refine ⟨b _ leA 4 _ rfl,?_⟩|refine ⟨b _ leA 5 _ rfl,?_⟩|refine ⟨b _ leA 6 _ rfl,?_⟩)));change XF _ _ _ _ _ _ _ [⟨12,15,fun g=> pt g,fun g=>pto g (.cells zz4.toArray 124 (0,0))⟩] _ _ _ ((14,pt ga)::_) _ _ (pto ga (.cells zz6.toArray 240 (0,0))::_);refine Vv (e0:=⟨12,15,fun g=> pt g,fun g=>pto g (.cells zz4.toArray 124 (0,0))⟩) (hnd:=by simp) 12 ⟨⟨_,rfl,rfl,rfl,rfl,rfl,rfl,fun q=>bX zeroValue124⟩,trivial⟩ (fun gb=> ?_) (hL:=(hlA (h:=by repeat first|exact trivial|refine ⟨clA,?_⟩|refine ⟨b _ leA 0 _ rfl,?_⟩|refine ⟨b _ leA 1 _ rfl,?_⟩|refine ⟨b _ leA 2 _ rfl,?_⟩|refine ⟨b _ leA 3 _ rfl,?_⟩|refine ⟨b _ leA 4 _ rfl,?_⟩|refine ⟨b _ leA 5 _ rfl,?_⟩|refine ⟨b _ leA 6 _ rfl,?_⟩)));change XF _ _ _ _ _ _ _ [] _ _ _ ((15,pt gb)::_) _ _ (pto gb (.cells zz4.toArray 124 (0,0))::_);refine eT ?_ (hL:=(hlA (h:=by repeat first|exact trivial|refine ⟨clA,?_⟩|refine ⟨b _ leA 0 _ rfl,?_⟩|refine ⟨b _ leA 1 _ rfl,?_⟩|refine ⟨b _ leA 2 _ rfl,?_⟩|refine ⟨b _ leA 3 _ rfl,?_⟩|refine ⟨b _ leA 4 _ rfl,?_⟩|refine ⟨b _ leA 5 _ rfl,?_⟩|refine ⟨b _ leA 6 _ rfl,?_⟩)));refine rn [14,15,0,2,0,0,3,0] ?_;refine bQ (Yz (u:=(.mk k2 z2 s2 l2 o2 p2 y2 u2 w2)) exC underlying122 Uu rfl rfl Z4 rfl) ?_;rintro _ _ ⟨gl,rfl,rfl⟩;refine bQ (Z9 (f:=exC) (l:=i) (m:= [(.mk k2 z2 s2 l2 o2 p2 y2 u2 w2)]) underlying122 Uu rfl rfl Z4 rfl rfl Zk ((bE _).le Zk) Gc (by simp;omega) (by simp;omega)) ?_;rintro _ _ ⟨a3,c3,rfl,rfl⟩;refine ox 8 ?_;refine X.exs (l:=i) (e:=(.mk k2 z2 s2 l2 o2 p2 y2 u2 w2)) Zk Zk ?_
     have g0:R=((Fnd.exprs g2.er (Z3 (d.drop (i.length+1)))).1,.mk k z nm o p op (Z3 (i++ [(.mk k2 z2 s2 l2 o2 p2 y2 u2 w2)])++(Fnd.exprs g2.er (Z3 (d.drop (i.length+1)))).2)):=by
      rw [d0,aJ t,hy,Et];simp only [Z3,Fnd.exprs,<-j0,aA,fS]
     refine aY (ih (g2,(a3,c3,i++ [(.mk k2 z2 s2 l2 o2 p2 y2 u2 w2)]),_) ⟨by simp;omega,rfl,by rw [aG];exact g0⟩ (by simp;omega)) Zu leA
   have hl:i.length=d.length:=by omega
   refine rn [6,0,2,0,1,2,3,4,0] ?_;refine X.fzEs (kd:=k) (n:=z) (nm:=nm) (slot:=o) (loc:=p) (op:=op) ?_;refine Zq (fcM g::exM (.mk k z nm o p op i a c)::q) func184 (Zqa results184) ⟨_,rfl,g,(.mk k z nm o p op i a c),rfl,rfl,by rw [d0,hl,dP];simp only [Z3,Fnd.exprs,cA,Ex.er]⟩
 have w:k=2\/k=3\/ ¬ (k=2\/k=3):=by omega
 rcases w with rfl|rfl|w
 . rw [if_pos rfl] at r;refine rn [6,2018,3,0,1,0,0] ?_;refine Zb call186 (aE _) (wants_ok (f:=f) (dW hf)) ?_;rintro _ _ ⟨g,x,rfl,rfl,hw⟩;refine oo 3 ?_;refine bW zeroValue240 fun n6=> ?_
   refine bW zeroValue245 fun n7=> ?_
   refine rn [0,0,3,0,0,1,0,1,2,3,4,5,6,7,8,9,0,1] ?_;rw [<-hw] at r;dsimp only at r;exact aY (K (g,x.s,x.k==100) r.symm) Zu leA
 . rw [if_neg (by decide),if_pos rfl] at r;refine rn [6,1018,6,2036,3,0,1,0,0] ?_;refine Zb call186 (aE _) (wants_ok (f:=f) (dW hf)) ?_;rintro _ _ ⟨g,x,rfl,rfl,hw⟩;refine oo 3 ?_;refine bW zeroValue240 fun n6=> ?_
   refine bW zeroValue245 fun n7=> ?_
   refine rn [0,0,3,0,0,3,0,1,0,2] ?_;rw [<-hw] at r;dsimp only at r;exact aY (K (g,x.s,lo) r.symm) Zu leA
 rw [if_neg (fun e=>w (.inl e)),if_neg (fun e=>w (.inr e))] at r;refine rn [6,1018,6] ?_;refine cQ 36 bF rfl (cB (dB.2 (by omega))) ?_;refine xx 3 ?_;refine bY (q':=fcM f::_) (cZ (dW hf)) ?_;exact aY (K (f,sl,lo) r.symm) Zu leA
theorem Dl: ∀ (N:Nat) (x:Ex),x.sz<=N->x.er.thin-> ∀ {f:FC} {pl pc:Int} {q:List HP},(Kn q fun M=>f.At M)->(Kn q fun M=>x.At M)->CallF prog G 184 [.agg (fcC f).toArray,.agg (exC x).toArray,.agg (B3 pl pc).toArray] q (Ret fun v q'=> ∃ (g:FC) (y:Ex),v= .tuple [.agg (fcC g).toArray,.agg (exC y).toArray].toArray/\q'=fcM g::exM y::q/\(g.er,y.er)=f.er.expr x.er)
 |N,x,hN,ht,_,_,_,_,hf,hx=>S9 (fun y d a _ _ _ _ c b=>by
  cases N with
  |zero=>omega
  |succ N=>exact Dl N y (by omega) a c b) hf hx ht
theorem Fnd.fl_eq (f:Fnd)(w:Int): ∃ x,f.fl w= { f with flaw:=x } :=by unfold Fnd.fl;split;exact ⟨_,rfl⟩;exact ⟨f.flaw,rfl⟩
theorem Fnd.wants_eq (f:Fnd)(s:ByteArray)(a b:Int): ∃ x,(f.wants s a b).1= { f with flaw:=x } :=by
 unfold Fnd.wants;split
 . exact f.fl_eq 131
 dsimp only;split
 . exact f.fl_eq 132
 exact ⟨f.flaw,rfl⟩
mutual
theorem Rn: ∀ (e:PEx) (f:Fnd),∃ x,(f.expr e).1= { f with flaw:=x }
 | .mk k n nm slot loc op args,f=>by
  simp only [Fnd.expr];split
  . obtain ⟨x,b⟩:=f.wants_eq nm 1 100;obtain ⟨y,a⟩:=Q6 args (f.wants nm 1 100).1;exact ⟨y,by rw [a,b]⟩
  split
  . obtain ⟨x,b⟩:=f.wants_eq nm 2 2;obtain ⟨y,a⟩:=Q6 args (f.wants nm 2 2).1;exact ⟨y,by rw [a,b]⟩
  exact Q6 args f
theorem Q6: ∀ (l:List PEx) (f:Fnd),∃ x,(f.exprs l).1= { f with flaw:=x }
 | [],f=>⟨f.flaw,rfl⟩
 |e::r,f=>by
  simp only [Fnd.exprs];obtain ⟨x,b⟩:=Rn e f;obtain ⟨y,a⟩:=Q6 r (f.expr e).1;exact ⟨y,by rw [a,b]⟩
end
structure Fnd.To (f g:Fnd) (N:Nat):Prop where
 n:g.names.length<=f.names.length+N
 l:f.locals<=g.locals/\g.locals<=f.locals+N
 s:f.stm<=g.stm
 e:g.vars=f.vars/\g.arrs=f.arrs/\g.mu=f.mu/\g.co=f.co/\g.chs=f.chs/\g.ths=f.ths/\g.main=f.main/\g.nv=f.nv/\g.na=f.na/\g.nm=f.nm/\g.nc=f.nc/\g.nh=f.nh/\g.cells=f.cells
theorem Fnd.To.flaw (f:Fnd)(x:Int):f.To { f with flaw:=x } 0:=⟨aL _,⟨bL _,by dsimp only;omega⟩,bL _,rfl,rfl,rfl,rfl,rfl,rfl,rfl,rfl,rfl,rfl,rfl,rfl,rfl⟩
theorem Fnd.To.refl (f:Fnd):f.To f 0:=Fnd.To.flaw f f.flaw
theorem Fnd.To.trans {f h:Fnd}{M:Nat}(a:f.To g N)(b:g.To h M):f.To h (N+M):=by
 obtain ⟨a1,a2,a3,a4⟩:=a;obtain ⟨b1,b2,b3,b4⟩:=b;refine ⟨by omega,by omega,by omega,?_⟩;obtain ⟨x1,x2,x3,x4,x5,z,y,x,w,m,l,k,j⟩:=a4;obtain ⟨v,u,t,s,r,q,p,o,n,i,e,d,c⟩:=b4;exact ⟨v.trans x1,u.trans x2,t.trans x3,s.trans x4,r.trans x5,q.trans z,p.trans y,o.trans x,n.trans w,i.trans m,e.trans l,d.trans k,c.trans j⟩
theorem Fnd.To.up {f:Fnd}{M:Nat}(a:f.To g N)(h:N<=M):f.To g M:=⟨by have:=a.n;omega,by have:=a.l;omega,a.s,a.e⟩
theorem Fnd.To.back {f:Fnd}(a:f.To g N)(h:Fnd){M:Nat}(hn:h.names.length<=f.names.length+M)(hl:f.locals<=h.locals/\h.locals<=f.locals+M):f.To { g with names:=h.names,locals:=h.locals } M:=⟨hn,hl,a.s,a.e⟩
theorem Fnd.To.wants (f:Fnd)(s:ByteArray)(a b:Int):f.To (f.wants s a b).1 0:=by obtain ⟨x,c⟩:=f.wants_eq s a b;rw [c];exact .flaw f x
theorem Fnd.To.expr (f:Fnd)(e:PEx):f.To (f.expr e).1 0:=by obtain ⟨x,a⟩:=Rn e f;rw [a];exact .flaw f x
theorem Fnd.To.fl (f:Fnd)(w:Int):f.To (f.fl w) 0:=by obtain ⟨x,a⟩:=f.fl_eq w;rw [a];exact .flaw f x
theorem Fnd.To.loc1 (f:Fnd)(s:ByteArray):f.To (f.loc1 s) 0:=by unfold Fnd.loc1;split;exact .fl f _;exact .refl f
theorem Fnd.To.loc2 (f:Fnd):f.To f.loc2 0:=by unfold Fnd.loc2;split;exact .fl f _;exact .refl f
theorem Fnd.To.own1 (f:Fnd)(k:Int)(nm:ByteArray)(sl:Int)(lo:Bool):f.To (f.own1 k nm sl lo).1 0:=by unfold Fnd.own1;split;exact .wants ..;exact .refl f
theorem Fnd.To.own2 (f:Fnd)(k:Int)(nm wt:ByteArray)(sl ot:Int)(lo:Bool):f.To (f.own2 k nm wt sl ot lo).1 1:=by
 unfold Fnd.own2;split
 . have h:=(Fnd.To.loc1 f nm).trans (Fnd.To.loc2 (f.loc1 nm));refine ⟨by have:=h.n;simp [Fnd.loc3];omega,by have:=h.l;simp only [Fnd.loc3];omega,h.s,h.e⟩
 split
 . exact (Fnd.To.wants f ..).up (by decide)
 split
 . exact (Fnd.To.wants f ..).up (by decide)
 exact (Fnd.To.refl f).up (by decide)
theorem Fnd.To.own (f:Fnd)(k:Int)(nm wt:ByteArray)(sl ot:Int)(lo:Bool):f.To (f.own k nm wt sl ot lo).1 1:=(Fnd.To.own1 f k nm sl lo).trans (Fnd.To.own2 _ k nm wt _ ot _)
theorem Fnd.To.stm (f:Fnd)(n:Int)(h:f.stm<=n):f.To { f with stm:=n } 0:=⟨aL _,⟨bL _,by dsimp only;omega⟩,h,rfl,rfl,rfl,rfl,rfl,rfl,rfl,rfl,rfl,rfl,rfl,rfl,rfl⟩
mutual
theorem Fnd.To.stmt: ∀ (s:PStm) (f:Fnd),f.To (f.stmt s).1 1
 | .mk k ln cl nm wt e ix body els id slot other loc,f=>by
  simp only [Fnd.stmt];split
  . exact (Fnd.To.fl f _).up (by decide)
  dsimp only;have i:=(Fnd.To.stm f (f.stm+1) (by omega)).trans ((Fnd.To.expr { f with stm:=f.stm+1 } ix).trans (Fnd.To.expr _ e));have h:=i.trans (Fnd.To.own _ k nm wt slot other loc);obtain ⟨g,b⟩: ∃ g,Fnd.own (Fnd.expr (Fnd.expr { f with stm:=f.stm+1 } ix).1 e).1 k nm wt slot other loc=g:=⟨_,rfl⟩;rw [b];have a:f.To g.1 1:=by rw [<-b];exact h
  have d:=a.trans (Fnd.To.blk body g.1);have c:=(d.back g.1 a.n a.l).trans (Fnd.To.blk els _);exact c.back g.1 a.n a.l
theorem Fnd.To.blk: ∀ (l:List PStm) (f:Fnd),f.To (f.blk l).1 l.length
 | [],f=> .refl f
 |s::r,f=>by
  simp only [Fnd.blk];split
  . exact ((Fnd.To.stmt s f).trans (Fnd.To.blk r (f.stmt s).1)).up (by simp;omega)
  exact (Fnd.To.refl f).up (by simp)
end
abbrev fY:=@Fnd.To.blk
mutual
def PStm.thin:PStm->Prop
 | .mk _ _ _ _ _ e ix body els _ _ _ _=>e.thin/\ix.thin/\Wr body/\Wr els
def Wr:List PStm->Prop
 | []=>True
 |s::r=>s.thin/\Wr r
end
theorem H3 {x:PStm}: ∀ {l:List PStm},Wr l->x∈l->x.thin
 |y::r,⟨h1,h2⟩,h=>by
  rcases cE.1 h with rfl|h
  . exact h1
  exact H3 h2 h
mutual
theorem E5: ∀ {s:PStm} {n:Nat},s.may n=true->s.thin
 | .mk k _ _ nm wt e ix body els _ _ _ _,n,h=>by
  simp only [PStm.may] at h;split at h;cases h
  split at h;cases h
  split at h;cases h
  rename_i a;split at h;cases h
  rw [aI] at h
  have f:e.thin:=by
   unfold Pz at a
   cases hE:E0 k with
   |true=>exact Jh (d:=24) (by cases hr:e.right 24 with|true=>rfl|false=>simp [hE,hr] at a)
   |false=>exact Tf (by cases hr:e.nil with|true=>rfl|false=>simp [hE,hr] at a)
  have c:ix.thin:=by
   unfold Pz at a;rcases Classical.em (k=3) with b|b
   . exact Jh (d:=24) (by cases hr:ix.right 24 with|true=>rfl|false=>simp [b,hr] at a)
   exact Tf (by cases hr:ix.nil with|true=>rfl|false=>simp [b,hr] at a)
  exact ⟨f,c,Uo h.1,Uo h.2⟩
theorem Uo: ∀ {l:List PStm} {n:Nat},PStm.mays l n=true->Wr l
 | [],_,_=>trivial
 |s::r,n,h=>by
  simp only [PStm.mays,aI] at h;exact ⟨E5 h.1,Uo h.2⟩
end
theorem Fnd.stmt_eq {f:Fnd}{k:Int}{e:PEx}{body els:List PStm}{id other:Int}{a b:Fnd×PEx}{c:Fnd×Int×Int×Bool}{x y:Fnd×List PStm}(h: ¬512<=f.stm)(ha:a=Fnd.expr { f with stm:=f.stm+1 } ix)(hb:b=a.1.expr e)(hc:c=b.1.own k nm wt slot other loc)(hx:x=c.1.block body)(hy:y=x.1.block els):
 f.stmt (.mk k ln cl nm wt e ix body els id slot other loc)=(y.1,.mk k ln cl nm wt b.2 a.2 x.2 y.2 f.stm c.2.1 c.2.2.1 c.2.2.2):=by
 subst ha hb hc hx hy;simp only [Fnd.stmt,if_neg h];rfl
theorem FC.At.s {n:Int}(h:f.At M):({ f with stm:=n } :FC).At M:=⟨h.vars,h.arrs,h.chs,h.ths,h.bod,h.nv,h.na,h.nm,h.nc,h.nh,h.names⟩
theorem FC.At.l {x:Sv Nm}{n m:Int}(h:f.At M)(h1:x.At M nmC):({ f with names:=x,locals:=n,most:=m } :FC).At M:=⟨h.vars,h.arrs,h.chs,h.ths,h.bod,h.nv,h.na,h.nm,h.nc,h.nh,h1⟩
theorem FC.At.b {g:FC}{n:Int}(h:f.At M)(h1:g.At M):({ f with names:=g.names,locals:=n } :FC).At M:=⟨h.vars,h.arrs,h.chs,h.ths,h.bod,h.nv,h.na,h.nm,h.nc,h.nh,h1.names⟩
section
variable {x:Stm}{m:List Stm}{a:Option Addr}{c:Nat}
theorem Se (IH: ∀ (m:List Stm) (a:Option Addr) (c:Nat),Zm m<x.sz->Wr (Zj m)-> ∀ {f:FC} {q:List HP},(Kn q fun M=>f.At M)->(Kn q fun M=>BlkAt M a c m)->(f.names.l.length+Zm m<=300000/\(0<=f.locals/\f.locals+Zm m<=300000)/\0<=f.stm)->CallF prog G 121 [.agg (fcC f).toArray,.slice a m.length c] q (Ret fun v q'=> ∃ (g:FC) (b:Option Addr) (d:Nat) (m':List Stm),v= .tuple [.agg (fcC g).toArray,.slice b m'.length d].toArray/\q'=fcM g::blM b d m'::q/\(g.er,Zj m')=f.er.block (Zj m)))(hf:Kn q fun M=>f.At M)(h:Kn q fun M=>x.At M)(ht:x.er.thin)(hb:(f.names.l.length+x.sz<=300000/\(0<=f.locals/\f.locals+x.sz<=300000)/\0<=f.stm)):CallF prog G 157 [.agg (fcC f).toArray,.agg (stC x).toArray] (q) (Ret fun v q'=> ∃ (g:FC) (y:Stm),v= .tuple [.agg (fcC g).toArray,.agg (stC y).toArray].toArray/\q'=fcM g::stM y::q/\(g.er,y.er)=f.er.stmt x.er):=by
 refine aC func157 ntmps157 rfl fun F cs=> ?_;obtain ⟨k,ln,cl,nm,wt,⟨k1,z1,s1,l1,o1,p1,y1,u1,w1⟩,⟨k2,z2,s2,l2,o2,p2,y2,u2,w2⟩,i,p,ba,bc,ea,ec,id,slot,e,loc⟩:=x;obtain ⟨w0,v0,u0,t0⟩:=ht;have hE:=Oz h;have hX:=I9 h;have hB:=Oj h;have hL:=Oq h;simp only [Stm.sz] at hb;obtain ⟨t1,⟨r1,q1⟩,m1⟩:=hb;refine xo 2 ?_;refine Ww fun n1=> ?_
 refine Ww fun n2=> ?_
 refine bW zeroValue240 fun n3=> ?_
 refine bW zeroValue126 fun n4=> ?_
 refine rn [6,0,2] ?_;refine xp 18 ?_ ?_<;>intro h0
 . have b0:512<=f.er.stm:=h0;refine rn [2,0,1,2,3,5] ?_;refine Wy 3 call120 (aE _) (Uv (f:=f) (dW hf)) ?_;rintro _ _ ⟨gf,rfl,rfl,hg⟩;refine ⟨hlA,?_⟩;refine rn [6,7,0] ?_;refine bY (q':=stM (.mk k ln cl nm wt (.mk k1 z1 s1 l1 o1 p1 y1 u1 w1) (.mk k2 z2 s2 l2 o2 p2 y2 u2 w2) i p ba bc ea ec id slot e loc)::_) (cZ (dW h)) ?_;refine Zq (fcM gf::stM (.mk k ln cl nm wt (.mk k1 z1 s1 l1 o1 p1 y1 u1 w1) (.mk k2 z2 s2 l2 o2 p2 y2 u2 w2) i p ba bc ea ec id slot e loc)::q) func157 (Zqa results157) ⟨_,rfl,gf,(.mk k ln cl nm wt (.mk k1 z1 s1 l1 o1 p1 y1 u1 w1) (.mk k2 z2 s2 l2 o2 p2 y2 u2 w2) i p ba bc ea ec id slot e loc),rfl,rfl,by simp only [Stm.er,Fnd.stmt,if_pos b0,hg]⟩
 have b0: ¬512<=f.er.stm:=(by show ¬512<=f.stm;omega);refine rn [6,0,1,0,5,0,3,0,3,0,1,0,1,0] ?_;refine Zb call184 (aE _) (Dl _ (.mk k2 z2 s2 l2 o2 p2 y2 u2 w2) (aL _) v0 (f:=({ f with stm:=f.stm+1 } :FC)) ((dW hf).imp fun M h=>FC.At.s h) (dW hX)) ?_;rintro _ _ ⟨g1,⟨k3,z3,s3,l3,o3,p3,y3,u3,w3⟩,rfl,rfl,q0⟩;refine rn [3,0,1,0,3,0,1,0,1,0] ?_;refine Zb call184 (aE _) (Dl _ (.mk k1 z1 s1 l1 o1 p1 y1 u1 w1) (aL _) w0 (f:=g1) knA (dW hE)) ?_;rintro _ _ ⟨g2,⟨k4,z,s4,l4,o4,p4,y4,u4,w4⟩,rfl,rfl,p0⟩;have j0:f.er.To g2.er 0:=by have h1:=(Fnd.To.stm f.er (f.stm+1) (by show f.stm<=f.stm+1;omega)).trans ((Fnd.To.expr _ _).trans (Fnd.To.expr (Fnd.expr { f.er with stm:=f.stm+1 } (Ex.er (.mk k2 z2 s2 l2 o2 p2 y2 u2 w2))).1 (Ex.er (.mk k1 z1 s1 l1 o1 p1 y1 u1 w1))));rw [show g2.er=(Fnd.expr (Fnd.expr { f.er with stm:=f.stm+1 } (Ex.er (.mk k2 z2 s2 l2 o2 p2 y2 u2 w2))).1 (Ex.er (.mk k1 z1 s1 l1 o1 p1 y1 u1 w1))).1 from by rw [show (Fnd.expr { f.er with stm:=f.stm+1 } (Ex.er (.mk k2 z2 s2 l2 o2 p2 y2 u2 w2))).1=g1.er from (bK Prod.fst q0).symm];exact bK Prod.fst p0];exact h1
 refine rn [3,0,1,0,4,0,5] ?_;refine aO call185 (want_ok) ?_;refine ox 12 ?_;refine kC (fun (x:FC×Int×Bool)=> [(2,pt n1),(3,pt n2),(4,pt n3),(5,pt n4),(6,I64 k)]) (fun x=>fcM x.1::pto n1 (.cells (fcC x.1).toArray 240 (0,0))::pto n2 (.cells (stC (.mk k ln cl nm wt (.mk k4 z s4 l4 o4 p4 y4 u4 w4) (.mk k3 z3 s3 l3 o3 p3 y3 u3 w3) i p ba bc ea ec f.stm x.2.1 e x.2.2)).toArray 126 (0,0))::pto n3 (.cells zz6.toArray 240 (0,0))::pto n4 (.cells zz2.toArray 126 (0,0))::exM (.mk k3 z3 s3 l3 o3 p3 y3 u3 w3)::exM (.mk k4 z s4 l4 o4 p4 y4 u4 w4)::(q++F)) (fun x=>x=(x.1,x.2.1,x.2.2)/\(x.1.er,x.2.1,x.2.2)=g2.er.own1 k nm slot loc/\f.er.To x.1.er 0) (fun x j=> ?_) fun K=> ?_
 . obtain ⟨g,sl,lo⟩:=x;dsimp only at j|-;obtain ⟨_,s0,i0⟩:=j;clear j0;refine xx 5 ?_;refine kC (fun (x:FC×Int×Int×Bool)=> [(2,pt n1),(3,pt n2),(4,pt n3),(5,pt n4)]) (fun x=>fcM x.1::pto n1 (.cells (fcC x.1).toArray 240 (0,0))::pto n2 (.cells (stC (.mk k ln cl nm wt (.mk k4 z s4 l4 o4 p4 y4 u4 w4) (.mk k3 z3 s3 l3 o3 p3 y3 u3 w3) i p ba bc ea ec f.stm x.2.1 x.2.2.1 x.2.2.2)).toArray 126 (0,0))::pto n3 (.cells zz6.toArray 240 (0,0))::pto n4 (.cells zz2.toArray 126 (0,0))::exM (.mk k3 z3 s3 l3 o3 p3 y3 u3 w3)::exM (.mk k4 z s4 l4 o4 p4 y4 u4 w4)::(q++F)) (fun x=>(x.1.er,x.2.1,x.2.2.1,x.2.2.2)=g.er.own2 k nm wt sl e lo) (fun x j=> ?_) fun w=> ?_
   . obtain ⟨r,c0,d0,f0⟩:=x;dsimp only at j|-;have m0:f.er.To r.er 1:=by have h1:=i0.trans (Fnd.To.own2 g.er k nm wt sl e lo);rw [<-j] at h1;exact h1
     have a0:=m0;obtain ⟨a1,⟨e1,c1⟩,y0,_⟩:=a0;dsimp only [FC.er] at a1 e1 c1 y0;refine rn [2,0,1,0] ?_;refine Zb call121 (aE _) (IH i ba bc (by simp only [Stm.sz];omega) u0 (f:=r) knA (dW hB) ⟨by omega,⟨by omega,by omega⟩,by omega⟩) ?_;rintro _ _ ⟨g5,a5,c5,l5,rfl,rfl,g0⟩;have r0:g5.er.names=r.er.names:=by rw [show g5.er=(r.er.block (Zj i)).1 from bK Prod.fst g0];rfl
     have j1:g5.er.locals=r.er.locals:=by rw [show g5.er=(r.er.block (Zj i)).1 from bK Prod.fst g0];rfl
     have i1:r.er.stm<=g5.er.stm:=by rw [show g5.er=(r.er.block (Zj i)).1 from bK Prod.fst g0];exact (fY (Zj i) r.er).s
     dsimp only [FC.er] at r0 j1 i1;have v1:=bK List.length r0;refine rn [3,0,1,0,3,0,1,0] ?_;refine Zb call121 (aE _) (IH p ea ec (by simp only [Stm.sz];omega) t0 (f:=g5) knA (dW hL) ⟨by omega,⟨by omega,by omega⟩,by omega⟩) ?_;rintro _ _ ⟨g6,a6,c6,l6,rfl,rfl,f1⟩;refine rn [3,0,1,0,2,0,1,2,3,4,0] ?_;refine Qx (.mk k ln cl nm wt (.mk k4 z s4 l4 o4 p4 y4 u4 w4) (.mk k3 z3 s3 l3 o3 p3 y3 u3 w3) l5 l6 a5 c5 a6 c6 f.stm c0 d0 f0) jA ?_;refine Zq (fcM g6::stM (.mk k ln cl nm wt (.mk k4 z s4 l4 o4 p4 y4 u4 w4) (.mk k3 z3 s3 l3 o3 p3 y3 u3 w3) l5 l6 a5 c5 a6 c6 f.stm c0 d0 f0)::q) func157 (Zqa results157) ⟨_,rfl,g6,(.mk k ln cl nm wt (.mk k4 z s4 l4 o4 p4 y4 u4 w4) (.mk k3 z3 s3 l3 o3 p3 y3 u3 w3) l5 l6 a5 c5 a6 c6 f.stm c0 d0 f0),rfl,rfl,(Fnd.stmt_eq b0 q0 p0 (show (r.er,c0,d0,f0)=_ from by unfold Fnd.own;dsimp only;rw [<-s0];exact j) g0 f1).symm⟩
   have o:k=1\/k=8\/k=12\/ ¬ (k=1\/k=8\/k=12):=by omega
   rcases o with o|o|o|o
   . unfold Fnd.own2 at w;simp only [if_pos o] at w;refine rn [6,2083,4,0,1,0] ?_;refine aO call119 (Xs (f:=g) knA) ?_;refine ox 2 ?_;refine kC (fun (x:FC)=> [(2,pt n1),(3,pt n2),(4,pt n3),(5,pt n4)]) (fun x=>fcM x::pto n1 (.cells (fcC x).toArray 240 (0,0))::pto n2 (.cells (stC (.mk k ln cl nm wt (.mk k4 z s4 l4 o4 p4 y4 u4 w4) (.mk k3 z3 s3 l3 o3 p3 y3 u3 w3) i p ba bc ea ec f.stm sl e lo)).toArray 126 (0,0))::pto n3 (.cells zz6.toArray 240 (0,0))::pto n4 (.cells zz2.toArray 126 (0,0))::exM (.mk k3 z3 s3 l3 o3 p3 y3 u3 w3)::exM (.mk k4 z s4 l4 o4 p4 y4 u4 w4)::(q++F)) (fun x=>x.er=g.er.loc1 nm) (fun x j=> ?_) fun K3=> ?_
     . obtain ⟨r,o0⟩:=kL x;rw [<-o0] at j|-;clear o0;refine rn [4,0,2] ?_;refine kC (fun (x:FC)=> [(2,pt n1),(3,pt n2),(4,pt n3),(5,pt n4)]) (fun x=>fcM x::pto n1 (.cells (fcC x).toArray 240 (0,0))::pto n2 (.cells (stC (.mk k ln cl nm wt (.mk k4 z s4 l4 o4 p4 y4 u4 w4) (.mk k3 z3 s3 l3 o3 p3 y3 u3 w3) i p ba bc ea ec f.stm sl e lo)).toArray 126 (0,0))::pto n3 (.cells zz6.toArray 240 (0,0))::pto n4 (.cells zz2.toArray 126 (0,0))::exM (.mk k3 z3 s3 l3 o3 p3 y3 u3 w3)::exM (.mk k4 z s4 l4 o4 p4 y4 u4 w4)::(q++F)) (fun x=>x.er=(g.er.loc1 nm).loc2) (fun x j=> ?_) fun K4=> ?_
       . obtain ⟨n,n0⟩:=kL x;rw [<-n0] at j|-;clear n0;have a0:f.er.To n.er 0:=by have h1:=i0.trans ((Fnd.To.loc1 g.er nm).trans (Fnd.To.loc2 (g.er.loc1 nm)));rw [<-j] at h1;exact h1
         obtain ⟨z0,⟨d1,b1⟩,x0,_⟩:=a0;dsimp only [FC.er] at z0 d1 b1 x0;refine rn [3,0,1,0,1,0,2,0,1,2,4,5,6,7,8] ?_;refine jL (q':=rsH nmC 3 245 none 0 ([])::_) (Zi nmC 3 245 _) ?_;refine Yo (fl:= [⟨8,113,fun g=> .slice (some ⟨g,0,none⟩) 1 1,fun g=>rsH nmC 3 245 (some ⟨g,0,none⟩) 1 ([⟨nm,100,n.locals⟩])⟩]) ?_;refine iX 2 ⟨⟨_,rfl,rfl,rfl,rfl,rfl,rfl,fun q=>Yz (u:=⟨nm,100,n.locals⟩) nmC underlying238 Qp rfl rfl (fun _=>rfl) rfl⟩,trivial⟩ (Er (f:=nmC) (sz:=3) (l:= []) (m:=n.names.l) underlying238 Qp rfl rfl (fun _=>rfl) rfl rfl Zk (dT (kA (φ:=fun M=>n.At M) knA fun M h=>h.names)) (fun _=>rfl) (by simp;omega) (by simp;omega)) ?_;refine kk2 fun aa ac=> ?_
         refine Vv (e0:=⟨8,113,fun g=> .slice (some ⟨g,0,none⟩) 1 1,fun g=>rsH nmC 3 245 (some ⟨g,0,none⟩) 1 ([⟨nm,100,n.locals⟩])⟩) (hnd:=by simp) 8 ⟨⟨_,rfl,rfl,rfl,rfl,rfl,rfl,fun q=>Yz (u:=⟨nm,100,n.locals⟩) nmC underlying238 Qp rfl rfl (fun _=>rfl) rfl⟩,trivial⟩ fun gl=> ?_;change XF _ _ _ _ _ _ _ [] _ _ _ ((113,.slice (some ⟨gl,0,none⟩) 1 1)::_) _ _ (rsH nmC 3 245 (some ⟨gl,0,none⟩) 1 ([⟨nm,100,n.locals⟩])::_);refine eT ?_;try rw [aT]
         refine fC 9 rfl (Z9 (f:=nmC) (l:=n.names.l) (m:= [⟨nm,100,n.locals⟩]) underlying238 Qp rfl rfl (fun _=>rfl) rfl rfl Zk ((bE _).le Zk) (fun _=>rfl) (by simp;omega) (by simp;omega)) ?_;refine kk2 fun l0 k0=> ?_
         refine rn [11,12,0,3,0,2,0,3,0,1,0,2,0,2] ?_;refine P6 ?_;refine bY (q':=fcM ({ n with names:=⟨n.names.l++ [⟨nm,100,n.locals⟩],l0,k0⟩,locals:=n.locals+1,most:=max n.most (n.locals+1) } :FC)::_) (cZ ((gL (φ:=fun M=>n.At M) knA (svK (x:=⟨_,l0,k0⟩) (f:=nmC))).imp fun M h=>FC.At.l h.1 h.2)) ?_;exact aY (w (({ n with names:=⟨n.names.l++ [⟨nm,100,n.locals⟩],l0,k0⟩,locals:=n.locals+1,most:=max n.most (n.locals+1) } :FC),n.locals,e,true) (by rw [<-j];rfl)) Zu leA
       refine xp 96 ?_ ?_<;>intro h4
       . refine rn [2,0,1,0] ?_;refine Zb call120 (aE _) (Uv (f:=r) knA) ?_;rintro _ _ ⟨gf,rfl,rfl,hg⟩;refine rn [0,1] ?_;exact aY (K4 gf (by rw [<-j];unfold Fnd.loc2;rw [if_pos (show 32<=r.er.locals from h4)];exact hg)) Zu leA
       refine xx 2 ?_;exact aY (K4 r (by rw [<-j];unfold Fnd.loc2;rw [if_neg (show ¬32<=r.er.locals from (by show ¬32<=r.locals;omega))])) Zu leA
     refine xp 89 ?_ ?_<;>intro h3
     . refine rn [2,0,1,0] ?_;refine Zb call120 (aE _) (Uv (f:=g) knA) ?_;rintro _ _ ⟨gf,rfl,rfl,hg⟩;refine rn [0,1] ?_;exact aY (K3 gf (by unfold Fnd.loc1;rw [if_pos (show g.er.at nm≠0 by omega)];exact hg)) Zu leA
     refine xx 2 ?_;exact aY (K3 g (by unfold Fnd.loc1;rw [if_neg (show ¬g.er.at nm≠0 by omega)])) Zu leA
   . unfold Fnd.own2 at w;simp only [if_neg (show ¬k=1 by omega),if_pos o] at w;refine rn [6,1083,6,2126,3,0,1,0,1,0] ?_;refine Zb call186 (aE _) (wants_ok (f:=g) knA) ?_;rintro _ _ ⟨gw,xw,rfl,rfl,t⟩;refine oo 3 ?_;refine bW zeroValue240 fun n5=> ?_
     refine bW zeroValue245 fun n6=> ?_
     refine rn [0,0,3,0,0,3,0,1,0,2] ?_;exact aY (w (gw,sl,xw.s,lo) (by rw [<-t])) Zu leA
   . unfold Fnd.own2 at w;simp only [if_neg (show ¬k=1 by omega),if_neg (show ¬k=8 by omega),if_pos o] at w;refine rn [6,1083,6,1126,6,2141,3,0,1,0,1,0] ?_;refine Zb call186 (aE _) (wants_ok (f:=g) knA) ?_;rintro _ _ ⟨gw,xw,rfl,rfl,t⟩;refine oo 3 ?_;refine bW zeroValue240 fun n5=> ?_
     refine bW zeroValue245 fun n6=> ?_
     refine rn [0,0,3,0,0,1,0,1,2,3,4,5,6,7,8,9,0,1] ?_;exact aY (w (gw,sl,xw.s,xw.k==100) (by rw [<-t])) Zu leA
   unfold Fnd.own2 at w;simp only [if_neg (show ¬k=1 by omega),if_neg (show ¬k=8 by omega),if_neg (show ¬k=12 by omega)] at w;refine rn [6,1083,6,1126,6,1141,3] ?_;exact aY (w (g,sl,e,lo) rfl) Zu leA
 refine xp 62 ?_ ?_<;>intro h1
 . refine rn [3,0,1,0,3,0] ?_;refine Zb call186 (aE _) (wants_ok (f:=g2) knA) ?_;rintro _ _ ⟨gw,xw,rfl,rfl,t⟩;refine oo 3 ?_;refine bW zeroValue240 fun n5=> ?_
   refine bW zeroValue245 fun n6=> ?_
   refine rn [0,0,3,0,0,1,0,1,2,3,4,5,6,7,8,9,0] ?_;exact aY (K (gw,xw.s,xw.k==100) ⟨rfl,by unfold Fnd.own1;rw [if_pos (by simpa using h1),<-t],by have h2:=j0.trans (Fnd.To.wants g2.er nm (Jt k).1 (Jt k).2);rw [<-t] at h2;exact h2⟩) Zu leA
 refine xx 2 ?_;exact aY (K (g2,slot,loc) ⟨rfl,by unfold Fnd.own1;rw [if_neg (by simpa using h1)],j0⟩) Zu leA
end
section
variable {x:Stm}{m:List Stm}{a:Option Addr}{c:Nat}
theorem Ga {l:List Stm}{k:Nat}(h:k<l.length):Zm (l.drop k)=l[k].sz+Zm (l.drop (k+1)):=by rw [aJ h];rfl
theorem Ny (x:Stm):1<=x.sz:=by cases x;simp only [Stm.sz];omega
theorem Rx: ∀ (l:List Stm),l.length<=Zm l
 | []=>bB _
 |x::r=>by have:=Ny x;have:=Rx r;simp only [Zm,bG];omega
abbrev Ao (v0:FC)(v1:Stm):=(v0.names.l.length+v1.sz<=300000/\(0<=v0.locals/\v0.locals+v1.sz<=300000)/\0<=v0.stm)
abbrev Ab (v0:List HP)(v1:FC)(v2:Stm):=(Ret fun v q'=> ∃ (g:FC) (y:Stm),v= .tuple [.agg (fcC g).toArray,.agg (stC y).toArray].toArray/\q'=fcM g::stM y::v0/\(g.er,y.er)=v1.er.stmt v2.er)
abbrev B5 (v0:FC)(v1:List Stm):=(v0.names.l.length+Zm v1<=300000/\(0<=v0.locals/\v0.locals+Zm v1<=300000)/\0<=v0.stm)
abbrev AW (v0:FC)(v1:Stm):=([.agg (fcC v0).toArray,.agg (stC v1).toArray]:List Value)
theorem Rv (IH: ∀ (x:Stm),x.sz<=Zm m->x.er.thin-> ∀ {f:FC} {q:List HP},(Kn q fun M=>f.At M)->(Kn q fun M=>x.At M)->(Ao f x)->CallF prog G 157 (AW f x) q (Ab q f x))(hf:Kn q fun M=>f.At M)(h:Kn q fun M=>BlkAt M a c m)(ht:Wr (Zj m))(hb:(B5 f m)):CallF prog G 121 [.agg (fcC f).toArray,.slice a m.length c] (q) (Ret fun v q'=> ∃ (g:FC) (b:Option Addr) (d:Nat) (m':List Stm),v= .tuple [.agg (fcC g).toArray,.slice b m'.length d].toArray/\q'=fcM g::blM b d m'::q/\(g.er,Zj m')=f.er.block (Zj m)):=by
 refine aC func121 ntmps121 rfl fun F cs=> ?_;have o3:=Rx m;have hA:=Ob h;have y2:=Zx (f:=stC) (sz:=25) Z8 m;refine iR (fun w s=>Ox (h.le leA) s) fun s3=> ?_;obtain ⟨R,hR⟩: ∃ R,f.er.blk (Zj m)=R:=⟨_,rfl⟩;obtain ⟨fn,q3⟩:=kL f.names;obtain ⟨fl,r3⟩:=kL f.locals;refine xo 2 ?_;refine Ww fun n1=> ?_
 refine bW zeroValue240 fun n2=> ?_
 refine rn [3,0,1,2,3,4,5,6,0,10] ?_;refine aY (cG (fun (s:FC×(Option Addr×Nat×List Stm)×Option Addr)=>s.2.1.2.2.length<=m.length/\s.2.2=a/\R=((Fnd.blk s.1.er (Zj (m.drop s.2.1.2.2.length))).1,Zj s.2.1.2.2++(Fnd.blk s.1.er (Zj (m.drop s.2.1.2.2.length))).2)/\(s.1.names.l.length+Zm (m.drop s.2.1.2.2.length)<=300000/\(0<=s.1.locals/\s.1.locals+Zm (m.drop s.2.1.2.2.length)<=300000)/\0<=s.1.stm)) (fun s=> [(8,.slice s.2.1.1 s.2.1.2.2.length s.2.1.2.1),(9,I64 (s.2.1.2.2.length:Int)),(1,.slice s.2.2 m.length c),(2,pt n1),(4,pt n2),(5,.slice none 0 0),(6,f.names.v),(7,I64 f.locals)]) (fun s=>rsH stC 25 126 s.2.1.1 s.2.1.2.1 s.2.1.2.2::stsM s.2.1.2.2::fcM s.1::pto n1 (.cells (fcC s.1).toArray 240 (0,0))::pto n2 Av::(q++F)) (fun s=>m.length - s.2.1.2.2.length) (fun s z2 ih=> ?_) (f,(none,0, []),a) ⟨bB _,rfl,hR.symm,hb⟩) Zu (aS leA (aS (Zi stC 25 126 _) (aS Hk (aS (cZ (φ:=fun M=>f.At M) (mn:=fun e h=>FC.At.mono e h) (dW hf)) leA))));try dsimp only at z2 ih|-
 obtain ⟨p3,m3,w2,b3⟩:=z2;obtain ⟨g,⟨a2,c2,n⟩,t3⟩:=s;dsimp only at*;subst m3;refine xo 8 ?_;refine Zf [20,8,9,1,2,4,5,6,7] ?_;apply Zp 4 24 20 rfl
 . intro g1 M1;have h1:=sp g1;refine rn [1,0,2] ?_;exact Zz M1 ⟨Wq g1,Zv⟩
 . intro g1 M1;have h1:=sp g1;refine oo 4 ?_;exact Zz M1 ⟨Wz g1,Zv⟩
 refine ox 1 ?_;refine dR 24 rfl ?_ ?_<;>intro h0
 . obtain ⟨b0,h9⟩:n.length<m.length/\g.flaw=0:=(by rw [aI] at h0;exact ⟨by simpa using h0.1,by simpa using h0.2⟩);have hz:=Ga b0;rw [hz] at b3;obtain ⟨y,hy⟩: ∃ y,m[n.length]=y:=⟨_,rfl⟩;rw [hy] at b3;obtain ⟨k3,y0,k1,x0,m0,⟨d1,j0,s0,a1,w0,u0,l0,q0,o0⟩,⟨c1,i0,r0,z0,v0,t0,k0,p0,n0⟩,t,d0,m1,l1,j1,i1,f1,r,o,c0⟩:=y;have hp:=Ny (.mk k3 y0 k1 x0 m0 (.mk d1 j0 s0 a1 w0 u0 l0 q0 o0) (.mk c1 i0 r0 z0 v0 t0 k0 p0 n0) t d0 m1 l1 j1 i1 f1 r o c0);refine rn [5,0,1,2,3] ?_;refine K5 hA (by rw [y2];omega) fun b1 o1 e1=> ?_;subst e1;have v2: ∀ (Q:List HP),Le Q q-> ∀ (j:Nat) (v:Value),nth (stC (.mk k3 y0 k1 x0 m0 (.mk d1 j0 s0 a1 w0 u0 l0 q0 o0) (.mk c1 i0 r0 z0 v0 t0 k0 p0 n0) t d0 m1 l1 j1 i1 f1 r o c0)) j=some v->Cl Q ⟨b1,o1+(n.length:Int).toNat*25+j,none⟩ v:=fun Q hQ j v hv=>cT hA hQ Z8 b0 rfl j v (by rw [hy,<-Uy];exact hv)
   have g3: ∀ (Q:List HP) (i:Nat),Le Q q->HL Q (rdA i b1 (o1+(n.length:Int).toNat*25) (stC (.mk k3 y0 k1 x0 m0 (.mk d1 j0 s0 a1 w0 u0 l0 q0 o0) (.mk c1 i0 r0 z0 v0 t0 k0 p0 n0) t d0 m1 l1 j1 i1 f1 r o c0))):=fun Q i hQ=>HL.rdA fun j v hk=>v2 Q hQ j v (by rw [Uy];exact hk)
   refine dd [3] ?_;refine XD.rdCs 4 (us:=stC (.mk k3 y0 k1 x0 m0 (.mk d1 j0 s0 a1 w0 u0 l0 q0 o0) (.mk c1 i0 r0 z0 v0 t0 k0 p0 n0) t d0 m1 l1 j1 i1 f1 r o c0)) rfl rfl isAgg126 sizeOf126 rfl (fun k v hk=>v2 _ leA k v (by rw [Uy];exact hk)) ?_;refine Yo (fl:= [⟨9,10,fun g=> pt g,fun g=>pto g Av⟩,⟨10,11,fun g=> pt g,fun g=>pto g AR⟩]) ?_;refine Fi 5 ⟨⟨_,rfl,rfl,rfl,rfl,rfl,rfl,fun q=>bX zeroValue240⟩,⟨_,rfl,rfl,rfl,rfl,rfl,rfl,fun q=>bX zeroValue126⟩,trivial⟩ call157 (aE _) (IH (.mk k3 y0 k1 x0 m0 (.mk d1 j0 s0 a1 w0 u0 l0 q0 o0) (.mk c1 i0 r0 z0 v0 t0 k0 p0 n0) t d0 m1 l1 j1 i1 f1 r o c0) (by have:=Ub (aB b0);rw [hy] at this;exact this) (by have:=H3 ht (by rw [Yf];exact aP (aB b0));rw [hy] at this;exact this) (f:=g) knA (dW (by have:=Oy h b0;rw [hy] at this;exact this) leA) ⟨by omega,⟨by omega,by omega⟩,by omega⟩) ?_ (hL:=(hlA (h:=by repeat first|exact trivial|refine ⟨clA,?_⟩|refine HL.app (g3 _ _ leA) ?_|refine ⟨v2 _ leA 0 _ rfl,?_⟩|refine ⟨v2 _ leA _ _ rfl,?_⟩)));rintro _ _ ⟨g2,⟨k2,i2,s2,h2,t1,⟨o2,q1,z1,l2,f2,d2,s1,x1,v1⟩,⟨m2,p1,y1,j2,e2,b2,r1,w1,u1⟩,a0,g0,u2,t2,r2,q2,p2,z,p,f0⟩,rfl,rfl,d3⟩;refine ⟨trivial,?_⟩;refine V4 6 ⟨⟨_,rfl,rfl,rfl,rfl,rfl,rfl,fun q=>bX zeroValue240⟩,⟨_,rfl,rfl,rfl,rfl,rfl,rfl,fun q=>bX zeroValue126⟩,trivial⟩ (Pu.move rfl) ?_;refine V4 7 ⟨⟨_,rfl,rfl,rfl,rfl,rfl,rfl,fun q=>bX zeroValue240⟩,⟨_,rfl,rfl,rfl,rfl,rfl,rfl,fun q=>bX zeroValue126⟩,trivial⟩ (eZ rfl rfl) ?_;refine V4 8 ⟨⟨_,rfl,rfl,rfl,rfl,rfl,rfl,fun q=>bX zeroValue240⟩,⟨_,rfl,rfl,rfl,rfl,rfl,rfl,fun q=>bX zeroValue126⟩,trivial⟩ (eZ rfl rfl) ?_;refine Vv (e0:=⟨9,10,fun g=> pt g,fun g=>pto g Av⟩) (hnd:=by simp) 9 ⟨⟨_,rfl,rfl,rfl,rfl,rfl,rfl,fun q=>bX zeroValue240⟩,⟨_,rfl,rfl,rfl,rfl,rfl,rfl,fun q=>bX zeroValue126⟩,trivial⟩ fun ga=> ?_;change XF _ _ _ _ _ _ _ [⟨10,11,fun g=> pt g,fun g=>pto g AR⟩] _ _ _ ((10,pt ga)::_) _ _ (pto ga Av::_);refine Vv (e0:=⟨10,11,fun g=> pt g,fun g=>pto g AR⟩) (hnd:=by simp) 10 ⟨⟨_,rfl,rfl,rfl,rfl,rfl,rfl,fun q=>bX zeroValue126⟩,trivial⟩ fun gb=> ?_;change XF _ _ _ _ _ _ _ [] _ _ _ ((11,pt gb)::_) _ _ (pto gb AR::_);refine eT ?_;refine rn [12,13,0,2,0,0,3,0] ?_;refine bQ (Yz (u:=(.mk k2 i2 s2 h2 t1 (.mk o2 q1 z1 l2 f2 d2 s1 x1 v1) (.mk m2 p1 y1 j2 e2 b2 r1 w1 u1) a0 g0 u2 t2 r2 q2 p2 z p f0)) stC underlying53 V7 rfl rfl Z8 rfl) ?_;rintro _ _ ⟨gl,rfl,rfl⟩;refine bQ (Z9 (f:=stC) (l:=n) (m:= [(.mk k2 i2 s2 h2 t1 (.mk o2 q1 z1 l2 f2 d2 s1 x1 v1) (.mk m2 p1 y1 j2 e2 b2 r1 w1 u1) a0 g0 u2 t2 r2 q2 p2 z p f0)]) underlying53 V7 rfl rfl Z8 rfl rfl Zk ((bE _).le Zk) H9 (by simp;omega) (by simp;omega)) ?_;rintro _ _ ⟨a3,c3,rfl,rfl⟩;refine ox 8 ?_;refine X.sts (l:=n) (s:=(.mk k2 i2 s2 h2 t1 (.mk o2 q1 z1 l2 f2 d2 s1 x1 v1) (.mk m2 p1 y1 j2 e2 b2 r1 w1 u1) a0 g0 u2 t2 r2 q2 p2 z p f0)) Zk Zk ?_;have x2:=Fnd.To.stmt (Stm.er (.mk k3 y0 k1 x0 m0 (.mk d1 j0 s0 a1 w0 u0 l0 q0 o0) (.mk c1 i0 r0 z0 v0 t0 k0 p0 n0) t d0 m1 l1 j1 i1 f1 r o c0)) g.er;rw [<-bK Prod.fst d3] at x2;obtain ⟨h3,⟨j3,i3⟩,f3,_⟩:=x2;dsimp only [FC.er] at h3 j3 i3 f3
   have e3:R=((Fnd.blk g2.er (Zj (m.drop (n.length+1)))).1,Zj (n++ [(.mk k2 i2 s2 h2 t1 (.mk o2 q1 z1 l2 f2 d2 s1 x1 v1) (.mk m2 p1 y1 j2 e2 b2 r1 w1 u1) a0 g0 u2 t2 r2 q2 p2 z p f0)])++(Fnd.blk g2.er (Zj (m.drop (n.length+1)))).2):=by
    rw [w2,aJ b0,hy,Ry];simp only [Zj,Fnd.blk];rw [if_pos (show g.er.flaw=0 from h9)];simp only [<-d3,aA,fS]
   have l3:(g2.names.l.length+Zm (m.drop (n.length+1))<=300000/\(0<=g2.locals/\g2.locals+Zm (m.drop (n.length+1))<=300000)/\0<=g2.stm):=⟨by omega,⟨by omega,by omega⟩,by omega⟩;refine aY (ih (g2,(a3,c3,n++ [(.mk k2 i2 s2 h2 t1 (.mk o2 q1 z1 l2 f2 d2 s1 x1 v1) (.mk m2 p1 y1 j2 e2 b2 r1 w1 u1) a0 g0 u2 t2 r2 q2 p2 z p f0)]),_) ⟨by simp;omega,rfl,by rw [aG];exact e3,by rw [aG];exact l3⟩ (by simp;omega)) Zu leA
 have n3:R=(g.er,Zj n):=by
  rcases dQ n.length m.length with b0|b0
  . rw [w2,aJ b0];simp only [Zj,Fnd.blk];rw [if_neg (show ¬g.er.flaw=0 from fun hg=>by revert h0;rw [aN (show (n.length:Int)<m.length by omega),show g.flaw=0 from hg];decide)];simp
  rw [w2,cO b0];simp only [Zj,Fnd.blk,cA]
 refine rn [7,0,1,0,3,0,1,0,2] ?_;refine bY (q':=fcM ({ g with names:=f.names,locals:=f.locals } :FC)::_) (cZ ((gL (φ:=fun M=>g.At M) knA (dW hf)).imp fun M h=>FC.At.b h.1 h.2)) ?_;refine X.fzB (m:=n) ?_;refine Zq (fcM ({ g with names:=f.names,locals:=f.locals } :FC)::blM a2 c2 n::q) func121 (N1 results121) ⟨_,rfl,({ g with names:=f.names,locals:=f.locals } :FC),a2,c2,n,rfl,rfl,by unfold Fnd.block;rw [hR,n3];rfl⟩
theorem Zzk: ∀ N:Nat,(∀ (x:Stm),x.sz<=N->x.er.thin-> ∀ {f:FC} {q:List HP},(Kn q fun M=>f.At M)->(Kn q fun M=>x.At M)->(Ao f x)->CallF prog G 157 (AW f x) q (Ab q f x))/\(∀ (m:List Stm) (a:Option Addr) (c:Nat),Zm m<=N->Wr (Zj m)-> ∀ {f:FC} {q:List HP},(Kn q fun M=>f.At M)->(Kn q fun M=>BlkAt M a c m)->(B5 f m)->CallF prog G 121 [.agg (fcC f).toArray,.slice a m.length c] q (Ret fun v q'=> ∃ (g:FC) (b:Option Addr) (d:Nat) (m':List Stm),v= .tuple [.agg (fcC g).toArray,.slice b m'.length d].toArray/\q'=fcM g::blM b d m'::q/\(g.er,Zj m')=f.er.block (Zj m))):=by
 intro N
 induction N with
 |zero=>
  have k: ∀ (x:Stm),x.sz<=0->x.er.thin-> ∀ {f:FC} {q:List HP},(Kn q fun M=>f.At M)->(Kn q fun M=>x.At M)->(Ao f x)->CallF prog G 157 (AW f x) q (Ab q f x):=fun x l=>by have:=Ny x;omega
  exact ⟨k,fun m a c n e _ _ i h j=>Rv (fun x l=>k x (by omega)) i h e j⟩
 |succ N ih=>
  have k: ∀ (x:Stm),x.sz<=N+1->x.er.thin-> ∀ {f:FC} {q:List HP},(Kn q fun M=>f.At M)->(Kn q fun M=>x.At M)->(Ao f x)->CallF prog G 157 (AW f x) q (Ab q f x):=fun x l e _ _ i h j=>Se (fun m a c n=>ih.2 m a c (by omega)) i h e j
  exact ⟨k,fun m a c n e _ _ i h j=>Rv (fun x l=>k x (by omega)) i h e j⟩
end
theorem T5 {f:Fnd}{M:Nat}(h:f.le N)(hn:N<=M):f.le M:=by
 obtain ⟨o,n,m,l,k,j,i,g,e,d,c,b,a⟩:=h;exact ⟨by omega,by omega,by omega,by omega,by omega,by omega,by omega,by omega,by omega,by omega,by omega,by omega,a⟩
theorem T6 {f:Fnd}(h:f.le N)(w:Int):(f.fl w).le N:=by obtain ⟨x,a⟩:=f.fl_eq w;rw [a];exact h
theorem Fnd.fl_keep (f:Fnd)(w:Int):(f.fl w).locals=f.locals/\(f.fl w).stm=f.stm/\(f.fl w).names=f.names/\(f.fl w).ths=f.ths:=by obtain ⟨x,a⟩:=f.fl_eq w;rw [a];exact ⟨rfl,rfl,rfl,rfl⟩
abbrev iG:=@Fnd.fl_keep
theorem J2 {f:Fnd}{w:Int}(h:f.flaw=0):(f.fl w).flaw=w:=by unfold Fnd.fl;rw [if_pos h]
theorem Cv {f:Fnd}(h:f.le N)(d:PDec):(f.decl1 d).1.le (N+1)/\(f.decl1 d).1.locals=f.locals/\(f.decl1 d).1.stm=f.stm/\(f.decl1 d).1.names=f.names:=by
 have c:=(T6 (T5 h (cX N)) 134);have b:=f.fl_keep 134;obtain ⟨r,q,p,o,n,m,l,k,j,i,g,e,a⟩:=h;unfold Fnd.decl1;split
 . split
   . exact ⟨c,b.1,b.2.1,b.2.2.1⟩
   exact ⟨⟨by simp;omega,by dsimp only;omega,by dsimp only;omega,by dsimp only;omega,by simp;omega,by dsimp only;omega,by dsimp only;omega,by dsimp only;omega,by dsimp only;omega,by dsimp only;omega,by dsimp only;omega,by dsimp only;omega,a⟩,rfl,rfl,rfl⟩
 split
 . split
   . exact ⟨c,b.1,b.2.1,b.2.2.1⟩
   exact ⟨⟨by dsimp only;omega,by simp;omega,by dsimp only;omega,by dsimp only;omega,by dsimp only;omega,by simp;omega,by dsimp only;omega,by dsimp only;omega,by dsimp only;omega,by dsimp only;omega,by dsimp only;omega,by dsimp only;omega,by dsimp only;omega⟩,rfl,rfl,rfl⟩
 split
 . exact ⟨⟨by dsimp only;omega,by dsimp only;omega,by dsimp only;omega,by dsimp only;omega,by dsimp only;omega,by dsimp only;omega,by simp;omega,by dsimp only;omega,by dsimp only;omega,by dsimp only;omega,by dsimp only;omega,by dsimp only;omega,a⟩,rfl,rfl,rfl⟩
 split
 . exact ⟨⟨by dsimp only;omega,by dsimp only;omega,by dsimp only;omega,by dsimp only;omega,by dsimp only;omega,by dsimp only;omega,by dsimp only;omega,by simp;omega,by dsimp only;omega,by dsimp only;omega,by dsimp only;omega,by dsimp only;omega,a⟩,rfl,rfl,rfl⟩
 split
 . split
   . exact ⟨c,b.1,b.2.1,b.2.2.1⟩
   exact ⟨⟨by dsimp only;omega,by dsimp only;omega,by simp;omega,by dsimp only;omega,by dsimp only;omega,by dsimp only;omega,by dsimp only;omega,by dsimp only;omega,by simp;omega,by dsimp only;omega,by dsimp only;omega,by dsimp only;omega,a⟩,rfl,rfl,rfl⟩
 split
 . exact ⟨⟨by dsimp only;omega,by dsimp only;omega,by dsimp only;omega,by simp;omega,by dsimp only;omega,by dsimp only;omega,by dsimp only;omega,by dsimp only;omega,by dsimp only;omega,by dsimp only;omega,by dsimp only;omega,by dsimp only;omega,a⟩,rfl,rfl,rfl⟩
 exact ⟨⟨by dsimp only;omega,by dsimp only;omega,by dsimp only;omega,by dsimp only;omega,by dsimp only;omega,by dsimp only;omega,by dsimp only;omega,by dsimp only;omega,by dsimp only;omega,by dsimp only;omega,by dsimp only;omega,by dsimp only;omega,a⟩,rfl,rfl,rfl⟩
theorem E8 {f:Fnd}(h:(f.decl1 d).2.2=true):(f.decl1 d).1.ths.length=f.ths.length+(if d.k=6 then 1 else 0)/\(f.decl1 d).1.flaw=f.flaw:=by
 unfold Fnd.decl1 at h|-;split at h
 . rename_i a;split at h
   . cases h
   rename_i b;rw [if_pos a,if_neg b,if_neg (by omega)];exact ⟨rfl,rfl⟩
 rename_i l;rw [if_neg l];split at h
 . rename_i a;split at h
   . cases h
   rename_i b;rw [if_pos a,if_neg b,if_neg (by omega)];exact ⟨rfl,rfl⟩
 rename_i j;rw [if_neg j];split at h
 . rename_i a;rw [if_pos a,if_neg (by omega)];exact ⟨rfl,rfl⟩
 rename_i i;rw [if_neg i];split at h
 . rename_i a;rw [if_pos a,if_neg (by omega)];exact ⟨rfl,rfl⟩
 rename_i g;rw [if_neg g];split at h
 . rename_i a;split at h
   . cases h
   rename_i b;rw [if_pos a,if_neg b,if_neg (by omega)];exact ⟨rfl,rfl⟩
 rename_i e;rw [if_neg e];split at h
 . rename_i a;rw [if_pos a,if_pos a];exact ⟨by simp,rfl⟩
 rename_i c;rw [if_neg c,if_neg c];exact ⟨rfl,rfl⟩
theorem J9 {f:Fnd}(h:(f.decl1 d).2.2=false):(f.decl1 d).1=f.fl 134:=by
 unfold Fnd.decl1 at h|-;(repeat' split at h)<;>first|(cases h;done)|(split<;>(try split)<;>(try split)<;>(try split)<;>(try split)<;>(try split)<;>(try split)<;>first|rfl|omega|(exfalso;omega))
theorem Ru {f:Fnd}(h:f.le N)(d:PDec):(f.decl d).le (N+1)/\(f.decl d).locals=f.locals/\(f.decl d).stm=f.stm:=by
 have k:=T5 h (cX N);obtain ⟨i,g,e,v⟩:=Cv h d;unfold Fnd.decl;split
 . exact ⟨T6 k _,(f.fl_keep _).1,(f.fl_keep _).2.1⟩
 split
 . exact ⟨i,g,e⟩
 split
 . exact ⟨T6 i _,((iG _ _).1).trans g,((iG _ _).2.1).trans e⟩
 obtain ⟨u,s,r,q,p,o,n,m,l,t,c,b,a⟩:=i;have j:=h.2.2.2.2.2.2.2.2.2.1;exact ⟨⟨u,s,r,q,p,o,n,m,l,by dsimp only;rw [v];simp;omega,c,b,a⟩,g,e⟩
theorem Hy {f:Fnd}(hf:f.flaw=0)(h:(f.decl d).flaw=0):(f.decl d).ths.length=f.ths.length+(if d.k=6 then 1 else 0):=by
 unfold Fnd.decl at h|-;split at h
 . rw [J2 hf] at h;cases h
 rename_i e;rw [if_neg e];split at h
 . rename_i a;rw [J9 a,J2 hf] at h;cases h
 rename_i a;rw [if_neg a];have b:=E8 (f:=f) (d:=d) (by revert a;cases (f.decl1 d).2.2<;>simp);split at h
 . rw [J2 (b.2.trans hf)] at h;cases h
 rename_i c;rw [if_neg c];exact b.1
mutual
theorem Zzc: ∀ (x:Stm),x.sz<=x.er.nd
 | .mk k ln cl nm wt e ix body els ba bc ea ec id slot other loc=>by
  have b:=K7 body;have a:=K7 els;simp only [Stm.sz,Stm.er,Hi];omega
theorem K7: ∀ (l:List Stm),Zm l<=Zo (Zj l)
 | []=>bB _
 |x::r=>by
  have b:=Zzc x;have a:=K7 r;simp only [Zm,Zj,Zo];omega
end
theorem Gl (h:d.bad=false):(1<=d.k/\d.k<=6)/\(-2147483647<=d.n/\d.n<=2147483647)/\Wr d.body:=by
 unfold PDec.bad Sd at h;simp only [eK,cS,gK] at h;obtain ⟨⟨⟨⟨⟨⟨⟨⟨f,e⟩,_⟩,_⟩,c⟩,b⟩,_⟩,_⟩,a⟩:=h;exact ⟨by omega,by omega,Uo a⟩
theorem parse_nd {l:Bs}{ds:List PDec}(h:Qz l=some ds):(ds.map fun d=>Zo d.body+1).sum<=65536:=by
 unfold Qz at h;split at h
 . cases h
 rename_i g;split at h
 . cases h
 rename_i ts b;split at h
 . cases h
 rename_i c a;split at h
 . cases h
 cases h
 have f:=(Kl b).1;have e:=(Tz (aL _) a).1;omega
theorem F8 {α:Type}{f:α->Nat}{x:α}: ∀ {l:List α},x∈l->f x<=(l.map f).sum
 |y::r,h=>by
  rcases cE.1 h with rfl|h
  . simp
  have:=F8 (f:=f) h;simp only [bP,List.sum_cons];omega
theorem O2 {α:Type}{f:α->Nat}: ∀ {l:List α},l.length<=(l.map fun d=>f d+1).sum
 | []=>bB _
 |y::r=>by have:=O2 (f:=f) (l:=r);simp only [bP,List.sum_cons,bG];omega
def thB (l:List Dec):List (Sv Stm):=(l.filter fun d=>d.k==6).map fun d=>⟨d.body,d.ba,d.bc⟩
theorem thB_snoc {l:List Dec}{k:Nat}(h:k<l.length):thB (l.take (k+1))=thB (l.take k)++(if l[k].k=6 then [⟨l[k].body,l[k].ba,l[k].bc⟩] else []):=by
 rw [aH h];unfold thB;rw [List.filter_append,aM];congr 1;by_cases hk:l[k].k=6
 . rw [if_pos hk];simp [hk]
 rw [if_neg hk];simp [hk]
theorem thB_len {l:List Dec}:(thB l).length<=l.length:=by unfold thB;rw [aU];exact gV _ _
theorem thB_er (l:List Dec):((l.map Dec.er).filter fun d=>d.k==6).map (·.body)=(thB l).map fun x=>Zj x.l:=by
 unfold thB
 induction l with
 |nil=>rfl
 |cons d r ih=>
  rw [bP,jQ,jQ];have a:(Dec.er d).k=d.k:=rfl;rw [a];split
  . rw [bP,bP,bP,ih];rfl
  exact ih
theorem thB_mem {l:List Dec}{x:Sv Stm}(h:x∈thB l): ∃ d∈l,x=⟨d.body,d.ba,d.bc⟩:=by
 unfold thB at h;obtain ⟨d,a,rfl⟩:=bU.1 h;exact ⟨d,(fH.1 a).1,rfl⟩
def FC.z:FC:=⟨.z,.z,0,0,.z,.z,0,0,.z,.z,.z,.z,.z,.z,0,0,0,0,0,0⟩
def pgC (f:FC):List Value:= [f.vars.v,f.arrs.v,I64 f.mu,I64 f.co,f.chs.v,f.ths.v,I64 f.main,I64 f.stm,f.nv.v,f.na.v,f.nm.v,f.nc.v,f.nh.v]
theorem Td (M:Hp):FC.z.At M:=⟨Ei M,Ei M,Ei M,Ei M,(fun x a=>(by cases a)),Ei M,Ei M,Ei M,Ei M,Ei M,Ei M⟩
theorem FC.z_le:FC.z.er.le 0:=by simp [Fnd.le,FC.er,FC.z,Sv.z]
theorem FC.At.mo {n:Int}(h:f.At M):({ f with most:=n } :FC).At M:=⟨h.vars,h.arrs,h.chs,h.ths,h.bod,h.nv,h.na,h.nm,h.nc,h.nh,h.names⟩
theorem FC.At.mn {n:Int}(h:f.At M):({ f with main:=n } :FC).At M:=⟨h.vars,h.arrs,h.chs,h.ths,h.bod,h.nv,h.na,h.nm,h.nc,h.nh,h.names⟩
theorem Ck {f:Fnd}(h: ¬f.flaw=0): ∀ l,Fnd.decls f l=f
 | []=>rfl
 |d::r=>by unfold Fnd.decls;rw [if_neg h]
theorem Kq {f:Fnd}(h: ¬f.flaw=0)(i:Nat): ∀ l,Fnd.bodies f i l=f
 | []=>rfl
 |d::r=>by unfold Fnd.bodies;rw [if_neg h]
theorem O0:(prog.info? 53).map (fun i=>(i.zero,i.size,i.bytes))=some (some (.slice none 0 0),1,24):=by kernel_rfl
section
variable {m:List Dec}{a:Option Addr}{c:Nat}
abbrev Ay :=((.cells zz7.toArray 29 (0,0)):Obj)
theorem find_ok (h:Kn q fun M=>DcsAt M a c m)(hs:((m.map Dec.er).map fun d=>Zo d.body+1).sum<=65536):CallF prog G 77 [.slice a m.length c] (q) (Ret fun v q'=> ∃ (g:FC) (y z e:Int),v= .tuple [.agg (pgC g).toArray,.agg [Value.int .i64 y,I64 z].toArray,I64 e].toArray/\q'=fcM g::q/\(match N9 (m.map Dec.er) with|none=>e≠0|some F=>e=0/\g.er=F)):=by
 refine aC func77 ntmps77 rfl fun F cs=> ?_;have hA:=Ow h;have s1:=Zx (f:=dcC) (sz:=6) (fun _=>rfl) m;refine iR (fun w s=>Kn.dsL (h.le leA) s) fun f3=> ?_;have w2:m.length<=65536:=by have:=O2 (f:=fun d=>Zo d.body) (l:=m.map Dec.er);rw [aU] at this;omega
 have o2: ∀ d∈m,Zm d.body<=65536:=fun d hd=>by have h1:=F8 (f:=fun d=>Zo d.body+1) (aP (f:=Dec.er) hd);have h2:=K7 d.body;have h3:(Dec.er d).body=Zj d.body:=rfl;rw [h3] at h1;omega
 obtain ⟨R,hR⟩: ∃ R,N9 (m.map Dec.er)=R:=⟨_,rfl⟩;rw [hR];unfold N9 at hR;refine xo 2 ?_;refine bW zeroValue29 fun n1=> ?_
 refine bW zeroValue107 fun n2=> ?_
 refine oo 6 ?_;refine aO call117 (mayD_ok (h.le leA)) ?_;refine ox 2 ?_;refine dR 15 rfl ?_ ?_<;>intro h0
 . have d0:(m.map Dec.er).any PDec.bad=true:=(by cases p:(m.map Dec.er).any PDec.bad;rw [p] at h0;exact aR h0 (by decide);rfl);rw [if_pos d0] at hR;refine rn [5,0,0,2] ?_;refine bY (q':=fcM FC.z::_) (cZ (fun _ _ _=>Td _)) ?_;refine Zq (fcM FC.z::q) func77 (Ce results77) ⟨_,rfl,FC.z,0,0,2,rfl,rfl,by rw [<-hR];decide⟩
 have d0:(m.map Dec.er).any PDec.bad=false:=(by cases p:(m.map Dec.er).any PDec.bad;rfl;rw [p] at h0;exact aR h0 (by decide));rw [if_neg (by rw [d0];decide)] at hR;have q0: ∀ d∈m,(1<=d.k/\d.k<=6)/\(-2147483647<=d.n/\d.n<=2147483647)/\Wr (Zj d.body):=fun d hd=>Gl (d:=d.er) (by rw [List.any_eq_false] at d0;simpa using d0 _ (aP (f:=Dec.er) hd))
 refine xo 5 ?_;refine bW zeroValue240 fun n3=> ?_
 refine rn [0,11] ?_;refine aY (cG (fun (s:(Nat×FC)×(Option Addr×Nat×List (Sv Stm))×Option Addr)=>s.1.1<=m.length/\s.2.2=a/\s.2.1.2.2=thB (m.take s.1.1)/\Fnd.decls .z (m.map Dec.er)=Fnd.decls s.1.2.er ((m.drop s.1.1).map Dec.er)/\s.1.2.er.le s.1.1/\(s.1.2.locals=0/\s.1.2.stm=0)/\(s.1.2.flaw=0->s.2.1.2.2.length=s.1.2.ths.l.length)) (fun s=> [(0,.slice s.2.2 m.length c),(2,pt n1),(3,pt n2),(4,I64 0),(5,pt n3),(6,.slice s.2.1.1 s.2.1.2.2.length s.2.1.2.1),(7,I64 (s.1.1:Int))]) (fun s=>lsH (@Sv.v Stm) 53 s.2.1.1 s.2.1.2.1 s.2.1.2.2::fcM s.1.2::pto n3 (.cells (fcC s.1.2).toArray 240 (0,0))::pto n1 Ay::pto n2 As::(q++F)) (fun s=>m.length - s.1.1) (fun s l0 ih=> ?_) ((0,FC.z),(none,0, []),a) ⟨bB _,rfl,rfl,rfl,FC.z_le,⟨rfl,rfl⟩,fun _=>rfl⟩) Zu (aS leA (aS (Za (@Sv.v Stm) 53 _) (aS (cZ (φ:=fun M=>FC.z.At M) (mn:=fun e h=>FC.At.mono e h) (fun _ _ _=>Td _)) leA)));try dsimp only at l0 ih|-
 obtain ⟨z2,l2,p0,o0,g0,⟨n0,m0⟩,x0⟩:=l0;obtain ⟨⟨k,g⟩,⟨ab,cb,B⟩,a2⟩:=s;dsimp only at*;subst l2;have g3:B.length<=65536:=(by rw [p0];exact cP thB_len (by rw [bH];omega));refine xo 8 ?_;refine Zf [23,0,2,3,4,5,6,7] ?_;apply Zp 4 27 23 rfl
 . intro g1 M1;have h1:=sp g1;refine rn [1,0,2] ?_;exact Zz M1 ⟨Wq g1,Zv⟩
 . intro g1 M1;have h1:=sp g1;refine oo 4 ?_;exact Zz M1 ⟨Wz g1,Zv⟩
 refine ox 1 ?_;refine dR 27 rfl ?_ ?_<;>intro h0
 . obtain ⟨b,h9⟩:k<m.length/\g.flaw=0:=(by rw [aI] at h0;exact ⟨by simpa using h0.1,by simpa using h0.2⟩);have u1:=q0 _ (aB b);have q1:=thB_snoc b;refine rn [5,0,1,2,3] ?_;refine K5 hA (by rw [s1];omega) fun b1 o1 e1=> ?_;subst e1;have y1: ∀ (Q:List HP),Le Q q-> ∀ (j:Nat) (v:Value),nth (dcC m[k]) j=some v->Cl Q ⟨b1,o1+(k:Int).toNat*6+j,none⟩ v:=fun Q hQ j v hv=>cT hA hQ (fun _=>rfl) b rfl j v (by rw [<-Uy];exact hv)
   refine dd [3] ?_;refine XD.rdCs 4 (us:=dcC m[k]) rfl rfl isAgg229 sizeOf229 rfl (fun k v hk=>y1 _ leA k v (by rw [Uy];exact hk)) ?_;refine Wy 5 call118 (aE _) (Iz (f:=g) (d:=m[k]) knA (T5 g0 (by omega)) u1.1 u1.2.1) ?_;rintro _ _ ⟨o,rfl,rfl,a0⟩;refine ⟨trivial,?_⟩;refine rn [7,0,4] ?_;skip;refine rn [2,0,2] ?_;refine xp 41 ?_ ?_<;>intro h1
   . refine rn [7,0] ?_;refine bQ (Yp (@Sv.v Stm) [⟨m[k].body,m[k].ba,m[k].bc⟩] underlying241 O0 rfl rfl rfl rfl rfl rfl (fun _=>rfl)) ?_;rintro _ _ ⟨gl,rfl,rfl⟩;refine bQ (Yx (f:= @Sv.v Stm) (l:=B) (m:= [⟨m[k].body,m[k].ba,m[k].bc⟩]) underlying241 O0 rfl rfl rfl Zk ((bR _).le Zk) (fun _=>rfl) (by simp;omega) (by simp;omega)) ?_;rintro _ _ ⟨a3,c3,rfl,rfl⟩;refine ox 8 ?_;have t0:=Ru g0 m[k].er;rw [<-a0] at t0;obtain ⟨m1,l1,k1⟩:=t0;have j1:Fnd.decls g.er ((m.drop k).map Dec.er)=Fnd.decls o.er ((m.drop (k+1)).map Dec.er):=by rw [aJ b,bP,Fnd.decls,if_pos (show g.er.flaw=0 from h9),a0]
     have k0:o.flaw=0->o.ths.l.length=g.ths.l.length+1:=fun p=>by have:=Hy (f:=g.er) (d:=m[k].er) h9 (by rw [<-a0];exact p);rw [<-a0,if_pos (show m[k].er.k=6 from (by simpa using h1:m[k].k=6))] at this;simpa [FC.er] using this
     refine aY (ih ((k+1,o),(a3,c3,B++ [⟨m[k].body,m[k].ba,m[k].bc⟩]),_) ⟨by dsimp only;omega,rfl,by dsimp only;rw [q1,if_pos (show m[k].k=6 by simpa using h1),<-p0],o0.trans j1,m1,⟨l1.trans n0,k1.trans m0⟩,fun p=>by have h1:=k0 p;have h2:=x0 h9;simp;omega⟩ (by dsimp only;omega)) Zu leA
   refine xx 8 ?_;have t0:=Ru g0 m[k].er;rw [<-a0] at t0;obtain ⟨m1,l1,k1⟩:=t0;have j1:Fnd.decls g.er ((m.drop k).map Dec.er)=Fnd.decls o.er ((m.drop (k+1)).map Dec.er):=by rw [aJ b,bP,Fnd.decls,if_pos (show g.er.flaw=0 from h9),a0]
   have k0:o.flaw=0->o.ths.l.length=g.ths.l.length+0:=fun p=>by have:=Hy (f:=g.er) (d:=m[k].er) h9 (by rw [<-a0];exact p);rw [<-a0,if_neg (show ¬m[k].er.k=6 from (by simpa using h1: ¬m[k].k=6))] at this;simpa [FC.er] using this
   refine aY (ih ((k+1,o),(ab,cb,B),_) ⟨by dsimp only;omega,rfl,by dsimp only;rw [q1,if_neg (show ¬m[k].k=6 by simpa using h1),<-p0];simp,o0.trans j1,m1,⟨l1.trans n0,k1.trans m0⟩,fun p=>by have h1:=k0 p;have h2:=x0 h9;simp;omega⟩ (by dsimp only;omega)) Zu leA
 have hD:Fnd.decls .z (m.map Dec.er)=g.er:=by
  rcases dQ k m.length with b|b
  . rw [o0];exact Ck (fun hg=>by revert h0;rw [aN (show (k:Int)<m.length by omega),show g.flaw=0 from hg];decide) _
  rw [o0,cO b];rfl
 have hB:g.flaw=0->B=thB m:=fun hg=>by rw [p0,eO];rcases dQ k m.length with b|b;(revert h0;rw [aN (show (k:Int)<m.length by omega),show g.flaw=0 from hg];intro p;exact aR p (by decide));exact b
 rw [hD,thB_er] at hR;clear ih o0;refine rn [4,0] ?_;refine aO call119 (Xs (f:=g) (s:=Um) knA) ?_;refine ox 3 ?_;obtain ⟨A,z0⟩: ∃ A,g.er.at Um=A:=⟨_,rfl⟩;rw [z0] at hR|-;obtain ⟨f1,c0⟩: ∃ f1,(if g.er.flaw=0/\(A=0\/((g.er.names.map (·.k)).getD (A - 1) 0)≠6) then g.er.fl 133 else g.er)=f1:=⟨_,rfl⟩;rw [c0] at hR;refine kC (fun (x:FC)=> [(2,pt n1),(3,pt n2),(4,I64 0),(5,pt n3),(6,.slice ab B.length cb),(8,I64 ((A:Int) - 1))]) (fun x=>lsH (@Sv.v Stm) 53 ab cb B::fcM x::pto n3 (.cells (fcC x).toArray 240 (0,0))::pto n1 Ay::pto n2 As::(q++F)) (fun x=>x.er=f1) (fun x j0=> ?_) fun K=> ?_
 . have hk:f1.locals=0/\f1.stm=0/\f1.names=g.er.names/\f1.ths=g.er.ths:=by rw [<-c0];split;exact ⟨(iG _ _).1.trans n0,(iG _ _).2.1.trans m0,(iG _ _).2.2.1,(iG _ _).2.2.2⟩;exact ⟨n0,m0,rfl,rfl⟩
   have s0:f1.flaw=0->g.flaw=0/\A≠0:=(by rw [<-c0];split;(rename_i p;intro hy;rw [J2 p.1] at hy;cases hy);(rename_i p;intro hy;exact ⟨hy,fun hz=>p ⟨hy,.inl hz⟩⟩));have v1:Fnd.bodies f1 0 ((thB m).map fun x=>Zj x.l)=Fnd.bodies f1 0 (B.map fun x=>Zj x.l):=(by by_cases p:f1.flaw=0;rw [hB (s0 p).1];rw [Kq p,Kq p]);have k0:f1.flaw=0->B.length<=f1.ths.length:=fun p=>(by rw [hk.2.2.2];have:=x0 (s0 p).1;simp only [FC.er,aU];omega);have r2:f1.flaw=0->B=thB m:=fun p=>hB (s0 p).1;have i3:A<=f1.names.length:=(by rw [<-z0,hk.2.2.1];exact Kx);have u2:f1.ths.length<=65536:=(by rw [hk.2.2.2];have:=g0.2.2.2.1;omega);have c2:f1.names.length<=65536:=(by rw [hk.2.2.1];have:=g0.2.2.2.2.2.2.2.2.2.1;omega)
   rw [v1] at hR;obtain ⟨j2,i2,f2,e2⟩:=hk;have s2:f1.flaw=0->A≠0:=fun p=>(s0 p).2;clear c0 hD hB s0 g0 n0 m0 x0 p0 v1 f2 e2 h0 z0
   refine xx 6 ?_;refine aY (cG (fun (s:Nat×FC)=>s.1<=B.length/\Fnd.bodies f1 0 (B.map fun x=>Zj x.l)=Fnd.bodies s.2.er s.1 ((B.drop s.1).map fun x=>Zj x.l)/\s.2.er.names=f1.names/\(s.2.er.locals=0/\0<=s.2.er.stm)/\(s.2.er.flaw=0->f1.flaw=0)/\s.2.er.ths.length=f1.ths.length) (fun s=> [(2,pt n1),(3,pt n2),(4,I64 0),(5,pt n3),(6,.slice ab B.length cb),(8,I64 ((A:Int) - 1)),(9,I64 (s.1:Int))]) (fun s=>lsH (@Sv.v Stm) 53 ab cb B::fcM s.2::pto n3 (.cells (fcC s.2).toArray 240 (0,0))::pto n1 Ay::pto n2 As::(q++F)) (fun s=>B.length - s.1) (fun s l0 ih=> ?_) (0,x) ⟨bB _,by dsimp only;rw [j0];rfl,by dsimp only;rw [j0],by dsimp only;rw [j0,j2,i2];decide,by dsimp only;rw [j0];exact id,by dsimp only;rw [j0]⟩) Zu leA;try dsimp only at l0 ih|-
   obtain ⟨y2,w0,d1,⟨c1,v0⟩,t1,k2⟩:=l0;obtain ⟨i,g⟩:=s;dsimp only at*;refine xo 8 ?_;refine Zf [75,2,3,4,5,6,8,9] ?_;apply Zp 4 79 75 rfl
   . intro g1 M1;have h1:=sp g1;refine rn [1,0,2] ?_;exact Zz M1 ⟨Wq g1,Zv⟩
   . intro g1 M1;have h1:=sp g1;refine oo 4 ?_;exact Zz M1 ⟨Wz g1,Zv⟩
   refine ox 1 ?_;refine dR 79 rfl ?_ ?_<;>intro h0
   . obtain ⟨b,h9⟩:i<B.length/\g.flaw=0:=(by rw [aI] at h0;exact ⟨by simpa using h0.1,by simpa using h0.2⟩);have i0:=t1 h9;have w1:=k0 i0;have r1: ∀ x∈B,∃ d∈m,x=⟨d.body,d.ba,d.bc⟩:=fun x p=>thB_mem (by rw [<-r2 i0];exact p);obtain ⟨d,hd,y0⟩:=r1 _ (aB b)
     obtain ⟨x2,a1⟩: ∃ y,B[i]=y:=⟨_,rfl⟩;rw [a1] at y0;have p2:Kn q fun M=>BlkAt M x2.a x2.c x2.l:=(by rw [y0];exact h.imp fun M h=>h.2 _ hd);have p1:Wr (Zj x2.l):=(by rw [y0];exact (q0 d hd).2.2);have v2:Zm x2.l<=65536:=(by rw [y0];exact o2 d hd)
     have d3:g.ths.l.length=g.er.ths.length:=(aU _).symm;have f0:g.names.l.length<=65536:=(by rw [show g.names.l=f1.names from d1];exact c2);replace c1:g.locals=0:=c1;replace v0:0<=g.stm:=v0;refine Uw (fl:= @Sv.v Stm) (l:=B) (a:=ab) (by omega) fun gb e_=> ?_;subst e_;refine rn [7,0,2,0,1,2,3,4] ?_;refine ldD 4 ?_ (hc:=(jN (n:=i) (bR _) Zk b rfl));refine dS 88 (.slice x2.a x2.l.length x2.c) rfl (by rw [a1];rfl) ?_;refine Yo (fl:= [⟨9,10,fun g=> pt g,fun g=>pto g Av⟩]) ?_;refine Fi 5 ⟨⟨_,rfl,rfl,rfl,rfl,rfl,rfl,fun q=>bX zeroValue240⟩,trivial⟩ call121 (aE _) ((Zzk _).2 x2.l x2.a x2.c (aL _) p1 (f:=({ g with most:=0 } :FC)) (kA (φ:=fun M=>g.At M) knA fun M h=>FC.At.mo h) (dW p2) ⟨by dsimp only;omega,⟨by dsimp only;omega,by dsimp only;omega⟩,v0⟩) ?_ (hL:=hlR);rintro _ _ ⟨o,b2,d2,m2,rfl,rfl,r0⟩;refine ⟨trivial,?_⟩;refine V4 6 ⟨⟨_,rfl,rfl,rfl,rfl,rfl,rfl,fun q=>bX zeroValue240⟩,trivial⟩ (Pu.move rfl) ?_;refine V4 7 ⟨⟨_,rfl,rfl,rfl,rfl,rfl,rfl,fun q=>bX zeroValue240⟩,trivial⟩ (eZ rfl rfl) ?_;refine V4 8 ⟨⟨_,rfl,rfl,rfl,rfl,rfl,rfl,fun q=>bX zeroValue240⟩,trivial⟩ (eZ rfl rfl) ?_;refine Vv (e0:=⟨9,10,fun g=> pt g,fun g=>pto g Av⟩) (hnd:=by simp) 9 ⟨⟨_,rfl,rfl,rfl,rfl,rfl,rfl,fun q=>bX zeroValue240⟩,trivial⟩ fun ga=> ?_;change XF _ _ _ _ _ _ _ [] _ _ _ ((10,pt ga)::_) _ _ (pto ga Av::_);refine eT ?_;refine rn [11,12,0,2,0,0,5,0] ?_;have a0:o.ths.l.length=f1.ths.length:=(by rw [<-k2];have:=bK List.length (show o.er.ths=g.er.ths from (bK (fun x=>x.1.ths) r0).trans (fY (Zj x2.l) _).e.2.2.2.2.2.1);rw [show o.er.ths.length=o.ths.l.length from aU _] at this;exact this);refine eU (q':=rsH thC 3 55 none 0 []::_) (Zi thC 3 55 _) ?_;refine bQ (Z9 (f:=thC) (l:= []) (m:=o.ths.l) underlying24 Nr rfl rfl (fun _=>rfl) rfl rfl Zk (dT (kA (φ:=fun M=>o.At M) knA fun M h=>h.ths)) (fun _=>rfl) (by simp;omega) (by simp;omega)) ?_;rintro _ _ ⟨t2,u0,rfl,rfl⟩;rw [aT];refine rn [3,0,1,2,3,4,5,6,7] ?_;have i1:i<o.ths.l.length:=(by omega);obtain ⟨y,hy⟩: ∃ y,o.ths.l[i]=y:=⟨_,rfl⟩;refine P5 (fl:=thC) (sz:=3) (l:=o.ths.l) (a:=t2) (by omega) fun gt e_=> ?_;subst e_;refine dd [7,8] ?_;refine iQ 9 rfl (Yr (f:=thC) (l:=o.ths.l) (u:=⟨y.nm,y.loc,m2,b2,d2⟩) (n:=i) (k:=2) rfl rfl sizeOf53 (fun _=>rfl) rfl i1 rfl (by rw [hy];rfl) rfl rfl Zk) ?_;rintro _ _ ⟨rfl,rfl⟩;refine ⟨hlR,?_⟩;refine dd [10,11] ?_;refine iQ 12 rfl (Yr (f:=thC) (l:=o.ths.l.set i ⟨y.nm,y.loc,m2,b2,d2⟩) (u:=⟨y.nm,o.most,m2,b2,d2⟩) (n:=i) (k:=1) rfl rfl sizeOf3 (fun _=>rfl) rfl (by rw [bC];exact i1) rfl (by rw [cN];rfl) rfl rfl Zk) ?_;refine kk0 ?_;refine dS 12 (.slice (some ⟨gt,0,none⟩) ((o.ths.l.set i ⟨y.nm,y.loc,m2,b2,d2⟩).set i ⟨y.nm,o.most,m2,b2,d2⟩).length u0) rfl (by rw [bC,bC]) ?_;refine rn [0,4,0,7] ?_;refine P6 ?_;refine bY (q':=fcM ({ o with ths:=⟨(o.ths.l.set i ⟨y.nm,y.loc,m2,b2,d2⟩).set i ⟨y.nm,o.most,m2,b2,d2⟩,some ⟨gt,0,none⟩,u0⟩ } :FC)::_) (cZ ((gL (φ:=fun M=>o.At M) knA (gL (svK (x:=⟨(o.ths.l.set i ⟨y.nm,y.loc,m2,b2,d2⟩).set i ⟨y.nm,o.most,m2,b2,d2⟩,some ⟨gt,0,none⟩,u0⟩) (f:=thC)) (show Kn _ fun M=>BlkAt M b2 d2 m2 from knA))).imp fun M h=>FC.At.t h.1 h.2.1 (fun z hz=>by rcases bO hz with hz|hz;rcases bO hz with hz|hz;exact h.1.bod z hz;rw [hz];exact h.2.2;rw [hz];exact h.2.2))) ?_;have q2:((o.ths.l.set i ⟨y.nm,y.loc,m2,b2,d2⟩).set i ⟨y.nm,o.most,m2,b2,d2⟩).map Th.er=(o.ths.l.map Th.er).set i ⟨y.nm,o.most,Zj m2⟩:=by rw [fI,fP];rfl
     have z1:((o.ths.l.map Th.er).getD i ⟨em,0, []⟩).nm=y.nm:=by rw [gD (by simpa using i1)];simp [hy,Th.er]
     have x1:Fnd.bodies f1 0 (B.map fun x=>Zj x.l)=Fnd.bodies ({ o with ths:=⟨(o.ths.l.set i ⟨y.nm,y.loc,m2,b2,d2⟩).set i ⟨y.nm,o.most,m2,b2,d2⟩,some ⟨gt,0,none⟩,u0⟩ } :FC).er (i+1) ((B.drop (i+1)).map fun x=>Zj x.l):=by
      rw [w0,aJ b,bP,Fnd.bodies,if_pos (show g.er.flaw=0 from h9),a1];dsimp only;rw [show Fnd.block { g.er with most:=0 } (Zj x2.l)=(o.er,Zj m2) from r0.symm];congr 1;simp only [FC.er,q2];rw [z1]
     refine aY (ih (i+1,({ o with ths:=⟨(o.ths.l.set i ⟨y.nm,y.loc,m2,b2,d2⟩).set i ⟨y.nm,o.most,m2,b2,d2⟩,some ⟨gt,0,none⟩,u0⟩ } :FC)) ⟨by dsimp only;omega,x1,(bK (fun x=>x.1.names) r0).trans d1,⟨(bK (fun x=>x.1.locals) r0).trans c1,by have h1:=(fY (Zj x2.l) ({ g with most:=0 } :FC).er).s;have h2:o.er.stm=_:=bK (fun x=>x.1.stm) r0;show 0<=o.er.stm;rw [h2];exact Int.le_trans v0 h1⟩,fun _=>i0,by show (((o.ths.l.set i ⟨y.nm,y.loc,m2,b2,d2⟩).set i ⟨y.nm,o.most,m2,b2,d2⟩).map Th.er).length=_;rw [aU,bC,bC];exact a0⟩ (by dsimp only;omega)) Zu leA
   have hE:Fnd.bodies f1 0 (B.map fun x=>Zj x.l)=g.er:=by
    rcases dQ i B.length with b|b
    . rw [w0];exact Kq (fun hg=>by revert h0;rw [aN (show (i:Int)<B.length by omega),show g.flaw=0 from hg];decide) _ _
    rw [w0,cO b];rfl
   rw [hE] at hR;clear ih w0;refine rn [6,0,2] ?_;refine xp 113 ?_ ?_<;>intro h1
   . rw [if_pos (show g.er.flaw≠0 from h1)] at hR;refine rn [2,0,1,2,3,4,5,6,7,8,0] ?_;refine bY (q':=fcM FC.z::_) (cZ (fun _ _ _=>Td _)) ?_;refine Zq (fcM FC.z::q) func77 (Ce results77) ⟨_,rfl,FC.z,g.pl,g.pc,g.flaw,rfl,rfl,by rw [<-hR];exact h1⟩
   rw [if_neg (show ¬g.er.flaw≠0 from fun p=>p h1)] at hR;have i0:=t1 h1;have w1:=s2 i0;have hN:Kn (fcM g::q) fun M=>g.names.At M nmC:=kA (φ:=fun M=>g.At M) knA fun M h=>h.names;have b0:=dT hN;have r:=Zx (f:=nmC) (sz:=3) (fun _=>rfl) g.names.l
   obtain ⟨⟨nl,na,nc⟩,hf⟩: ∃ x,g.names=x:=⟨_,rfl⟩;rw [hf] at b0 r;dsimp only at b0 r;have f0:g.er.names=nl:=(by simp only [FC.er,hf]);obtain ⟨j,hj⟩: ∃ j,A=j+1:=⟨A - 1,by omega⟩;have b:j<nl.length:=(by rw [<-f0,d1];omega);refine rn [5,0] ?_;refine bA 120 (.slice na nl.length nc) rfl (by show g.names.v=_;rw [hf];rfl) ?_;refine oo 1 ?_;refine bA 121 (Aw j) rfl (bK (Value.int .i64) (by omega)) ?_;refine K1 b0 (by rw [r];omega) fun b3 o3 e3=> ?_;subst e3;refine oo 2 ?_;refine ld ?_ (hc:=(cT (n:=j) b0 leA (fun _=>rfl) b rfl 2 _ rfl));refine rn [2,0,4,0,1,0,0,2] ?_;refine bY (q':=fcM ({ g with main:=nl[j].s } :FC)::_) (cZ (kA (φ:=fun M=>g.At M) knA fun M h=>FC.At.mn h)) ?_;refine Zq (fcM ({ g with main:=nl[j].s } :FC)::q) func77 (Ce results77) ⟨_,rfl,({ g with main:=nl[j].s } :FC),0,0,0,rfl,rfl,by rw [<-hR,f0,hj,iT,gD (by simpa using b)];refine ⟨rfl,?_⟩;simp [FC.er,hf]⟩
 have hN:Kn (fcM g::q) fun M=>g.names.At M nmC:=kA (φ:=fun M=>g.At M) knA fun M h=>h.names;have b0:=dT hN;have r:=Zx (f:=nmC) (sz:=3) (fun _=>rfl) g.names.l
 obtain ⟨⟨nl,na,nc⟩,hf⟩: ∃ x,g.names=x:=⟨_,rfl⟩;rw [hf] at b0 r;dsimp only at b0 r;have f0:g.er.names=nl:=by simp only [FC.er,hf]
 have j3:A<=nl.length:=by rw [<-z0,<-f0];exact Kx
 refine rn [3,0,2] ?_;refine XO.part 55 rfl ?_ ?_<;>intro h1
 . replace h1:=sp h1;refine oo 3 ?_;refine XO.part 58 rfl ?_ ?_<;>intro h2
   . replace h2 := sp h2; refine rn [12,0,1] ?_; refine Zb call120 (aE _) (Uv (f := g) knA) ?_; rintro _ _ ⟨o, rfl, rfl, a0⟩; refine rn [0,1] ?_; -- ['guard T', 'guard T']
     exact aY (K o (by rw [<-c0,if_pos (by exact ⟨h1,.inl (by omega)⟩)];exact a0)) Zu leA
   replace h2:=sp h2;refine rn [1,0] ?_;refine bA 60 (.slice na nl.length nc) rfl (by show g.names.v=_;rw [hf];rfl) ?_;obtain ⟨i,hi⟩: ∃ i,A=i+1:=⟨A - 1,by omega⟩;have b:i<nl.length:=by omega
   refine oo 1 ?_;refine bA 61 (Aw i) rfl (bK (Value.int .i64) (by omega)) ?_;refine K1 b0 (by rw [r];omega) fun b3 o3 e3=> ?_;subst e3;refine oo 2 ?_;refine ld ?_ (hc:=(cT (n:=i) b0 leA (fun _=>rfl) b rfl 1 _ rfl));refine ox 4 ?_;refine xp 67 ?_ ?_<;>intro h3
   . refine rn [2,0,1] ?_; refine Zb call120 (aE _) (Uv (f := g) knA) ?_; rintro _ _ ⟨o, rfl, rfl, a0⟩; refine rn [0,1] ?_; -- ['guard T', 'guard F', 'adr3', 'cond T']
     exact aY (K o (by rw [<-c0,if_pos (by refine ⟨h1,.inr ?_⟩;rw [f0,hi,iT,gD (by simpa using b)];simpa using h3)];exact a0)) Zu leA
   refine xx 2 ?_; -- ['guard T', 'guard F', 'adr3', 'cond F']
   exact aY (K g (by rw [<-c0,if_neg (by rintro ⟨_,p|p⟩;omega;revert p;rw [f0,hi,iT,gD (by simpa using b)];simpa using h3)])) Zu leA
 replace h1 := sp h1; refine ox 15 ?_; -- ['guard F']
 exact aY (K g (by rw [<-c0,if_neg (by exact fun p=>h1 p.1)])) Zu leA
variable {s:ByteArray}
theorem text_ok:CallF prog G 43 [.string s] (q) (Ret fun v q'=> ∃ (g:FC) (y z e:Int),v= .tuple [.agg (pgC g).toArray,.agg [Value.int .i64 y,I64 z].toArray,I64 e].toArray/\q'=fcM g::q/\(match Jj (bs s) with|none=>e≠0|some F=>e=0/\g.er=F)):=by
 refine aC func43 ntmps43 rfl fun F cs=> ?_;obtain ⟨R,b⟩: ∃ R,Jj (bs s)=R:=⟨_,rfl⟩;rw [b];unfold Jj at b;refine xo 2 ?_;refine bW zeroValue29 fun l=> ?_
 refine bW zeroValue107 fun k=> ?_
 refine oo 5 ?_;refine Zb call76 (aE _) (Parse_ok) ?_;rintro _ _ (⟨f,a,c,d,rfl,rfl⟩|⟨d,y,z,e,h,rfl,rfl⟩)
 iterate 2
  focus
   rw [d] at b;dsimp only at b;refine oo 4 ?_;refine bW zeroValue107 fun j=> ?_
   refine rn [1,0,8] ?_
  rotate_left
 . refine rn [1015,5] ?_;refine Zb call77 (aE _) (find_ok (m:=f) knA (parse_nd d)) ?_;rintro _ _ ⟨g,y,z,e,rfl,rfl,i⟩;refine rn [3,0,0,2] ?_;refine Zq (fcM g::q) func43 (Ce results43) ⟨_,rfl,g,y,z,e,rfl,rfl,by rw [<-b];exact i⟩
 refine X.kt 15 ?_ rfl (by rw [iY];exact h);refine rn [2,0,1,2,3,4,5,6,0] ?_;refine bY (q':=fcM FC.z::_) (cZ (fun _ _ _=>Td _)) ?_;refine Zq (fcM FC.z::q) func43 (Ce results43) ⟨_,rfl,FC.z,y,z,e,rfl,rfl,by rw [<-b];exact h⟩
end
end Go.Proofs.YtflkjkhijcdbaaaGreat
namespace Go.Proofs.YtflkjkhijcdbaaaGreat
open Go Go.RowKit Wx Go.Proofs.Tryz
variable {n i:Nat}
structure Ch where
 room:Int
 all:List Int
 taken:Nat
structure Sy where
 owners:List Int
 conds:List (List Int)
 chans:List Ch
variable {s:Sy}
def Ch.items (c:Ch):List Int:=c.all.drop c.taken
abbrev inR (k:Int)(n:Nat):Prop:=0<=k/\k<n
abbrev thr (t:Int):Prop:=0<=t/\t<=7
abbrev val (v:Int):Prop:= -2147483648<=v/\v<=2147483647
def Ws (s:Sy)(m t:Int):Sy×Bool×Int:=
 if inR m s.owners.length then if thr t then if s.owners.getD m.toNat 0= -1 then ({ s with owners:=s.owners.set m.toNat t },true,0) else (s,false,0) else (s,false,2) else (s,false,4)
def Z6 (s:Sy)(m t:Int):Sy×Int:=
 if inR m s.owners.length then if thr t then if s.owners.getD m.toNat 0=t then ({ s with owners:=s.owners.set m.toNat (-1) },0) else (s,140) else (s,2) else (s,4)
def U7 (s:Sy)(k t:Int):Sy×Int:=
 if inR k s.conds.length then if thr t then if ∃ l∈s.conds,t∈l then (s,141) else ({ s with conds:=s.conds.set k.toNat (s.conds.getD k.toNat []++ [t]) },0) else (s,2) else (s,4)
def Yt (s:Sy)(k:Int):Sy×Int×Int:=
 if inR k s.conds.length then if s.conds.getD k.toNat []= [] then (s, -1,0) else ({ s with conds:=s.conds.set k.toNat ((s.conds.getD k.toNat []).drop 1) },(s.conds.getD k.toNat []).headD 0,0) else (s, -1,4)
def Kb (s:Sy)(k:Int):Sy×List Int×Int:=
 if inR k s.conds.length then ({ s with conds:=s.conds.set k.toNat [] },s.conds.getD k.toNat [],0) else (s, [],4)
def ch0:Ch:=⟨1, [],0⟩
def Vf (s:Sy)(q v:Int):Sy×Int×Int:=
 if inR q s.chans.length then if val v then if ((s.chans.getD q.toNat ch0).items.length:Int)<(s.chans.getD q.toNat ch0).room then
  ({ s with chans:=s.chans.set q.toNat { s.chans.getD q.toNat ch0 with all:=(s.chans.getD q.toNat ch0).all++ [v] } },(s.chans.getD q.toNat ch0).all.length,0) else (s, -1,0) else (s, -1,2) else (s, -1,4)
def Vq (s:Sy)(q:Int):Sy×Int×Int×Int:=
 if inR q s.chans.length then if (s.chans.getD q.toNat ch0).items= [] then (s,0, -1,0) else
  ({ s with chans:=s.chans.set q.toNat { s.chans.getD q.toNat ch0 with taken:=(s.chans.getD q.toNat ch0).taken+1 } },(s.chans.getD q.toNat ch0).all.getD (s.chans.getD q.toNat ch0).taken 0,(s.chans.getD q.toNat ch0).taken,0) else (s,0, -1,4)
def Ch.ok (n:Nat)(c:Ch):Prop:=(1<=c.room/\c.room<=16)/\c.taken<=c.all.length/\c.all.length<=n/\(c.items.length:Int)<=c.room/\ ∀ v∈c.all,val v
structure Sy.ok (n:Nat) (s:Sy):Prop where
 no:s.owners.length<=64
 nc:s.conds.length<=64
 nh:s.chans.length<=64
 o: ∀ o∈s.owners, -1<=o/\o<=7
 c: ∀ l∈s.conds,l.length<=n/\ ∀ t∈l,thr t
 h: ∀ x∈s.chans,x.ok n
theorem Sy.ok.mono {m:Nat}(h:s.ok n)(l:n<=m):s.ok m:=
 ⟨h.no,h.nc,h.nh,h.o,fun x hx=>⟨cP (h.c x hx).1 l,(h.c x hx).2⟩,fun x hx=>let ⟨a,b,c,d,e⟩:=h.h x hx;⟨a,b,cP c l,d,e⟩⟩
theorem Y3 {α:Type}{l:List α}{d:α}(h:i<l.length):l.getD i d∈l:=by
 have:l.getD i d=l[i]:=by simp [List.getD,h]
 rw [this];exact aB _
theorem Sa {k:Int}(h:inR k n):k.toNat<n:=by obtain ⟨a,b⟩:=h;omega
theorem Pj (h:s.ok n)(m t:Int):(Ws s m t).1.ok n:=by
 unfold Ws;split
 . split
   . split
     . rename_i _ e _;exact ⟨by simpa using h.no,h.nc,h.nh,fun o d=>by rcases bO d with d|rfl;exact h.o o d;obtain ⟨a,b⟩:=e;omega,h.c,h.h⟩
     exact h
   exact h
 exact h
theorem Bf (h:s.ok n)(m t:Int):(Z6 s m t).1.ok n:=by
 unfold Z6;split
 . split
   . split
     . exact ⟨by simpa using h.no,h.nc,h.nh,fun o a=>by rcases bO a with a|rfl;exact h.o o a;omega,h.c,h.h⟩
     exact h
   exact h
 exact h
theorem waitS_ok (h:s.ok n)(k t:Int):(U7 s k t).1.ok (n+1):=by
 unfold U7;split
 . rename_i f;split
   . rename_i e;split
     . exact h.mono (by omega)
     refine ⟨h.no,by simpa using h.nc,h.nh,h.o,fun l b=> ?_,(h.mono (cX n)).h⟩;rcases bO b with b|rfl
     . exact (h.mono (cX n)).c l b
     obtain ⟨i,g⟩:=h.c _ (Y3 (d:= []) (Sa f));refine ⟨by rw [aG];simp only [bG,dN];omega,fun x a=> ?_⟩;rcases aQ.1 a with a|a
     . exact g x a
     rw [aZ.1 a];exact e
   exact h.mono (by omega)
 exact h.mono (by omega)
theorem sendS_ok (h:s.ok n)(q v:Int):(Vf s q v).1.ok (n+1):=by
 unfold Vf;split
 . rename_i f;split
   . rename_i e;split
     . rename_i b;refine ⟨h.no,h.nc,by simpa using h.nh,h.o,(h.mono (cX n)).c,fun x a=> ?_⟩;rcases bO a with a|rfl
       . exact (h.mono (cX n)).h x a
       obtain ⟨i,l,k,j,g⟩:=h.h _ (Y3 (d:=ch0) (Sa f));unfold Ch.items at b;rw [bS] at b;refine ⟨i,by dsimp only;rw [aG];omega,by dsimp only;rw [aG,bJ];omega,?_,fun x a=> ?_⟩
       . unfold Ch.items;dsimp only;rw [bS,aG,bJ];omega
       rcases aQ.1 a with a|a
       . exact g x a
       rw [aZ.1 a];exact e
     exact h.mono (by omega)
   exact h.mono (by omega)
 exact h.mono (by omega)
theorem Co (h:s.ok n)(q:Int):(Vq s q).1.ok n:=by
 unfold Vq;split
 . rename_i g;split
   . exact h
   rename_i f;refine ⟨h.no,h.nc,by simpa using h.nh,h.o,h.c,fun x a=> ?_⟩;rcases bO a with a|rfl
   . exact h.h x a
   obtain ⟨k,l,j,e,i⟩:=h.h _ (Y3 (d:=ch0) (Sa g));have b:0<(s.chans.getD q.toNat ch0).items.length:=iK.2 f;unfold Ch.items at b e;rw [bS] at b e;refine ⟨k,by dsimp only;omega,j,?_,i⟩;unfold Ch.items;dsimp only;rw [bS];omega
 exact h
theorem Tryz.info3:(prog.info? 3).map (fun i=>(i.zero,i.size,i.bytes))=some (some (I64 0),1,8):=by kernel_rfl
abbrev fN:=@Tryz.info3
theorem Tryz.info2:(prog.info? 2).map (fun i=>(i.zero,i.size,i.bytes))=some (some (I64 0),1,8):=by kernel_rfl
abbrev jB:=@Tryz.info2
theorem Tryz.info191:(prog.info? 191).map (fun i=>(i.zero,i.size,i.bytes))=some (some (.agg #[.slice none 0 0]),1,24):=by kernel_rfl
abbrev gW:=@Tryz.info191
theorem Tryz.info180:(prog.info? 180).map (fun i=>(i.zero,i.size,i.bytes))=some (some (.agg #[.slice none 0 0,I64 0,I64 0]),3,40):=by kernel_rfl
abbrev fQ:=@Tryz.info180
def lsV (ty:TypeId)(x:SlV Int):HP:=lsH I64 ty x.a x.c x.l
def cqs (x:SlV Int):List Value:= [.slice x.a x.l.length x.c]
structure ChC where
 q:SlV Int
 room:Int
 sent:Int
def chs (x:ChC):List Value:= [.slice x.q.a x.q.l.length x.q.c,I64 x.room,I64 x.sent]
structure SyC where
 ao:Option Addr
 co:Nat
 owners:List Int
 ac:Option Addr
 cc:Nat
 conds:List (SlV Int)
 ah:Option Addr
 ch:Nat
 chans:List ChC
variable {U:SyC}
def syL (p:Nat)(s:SyC):List HP:= [pto p (.cells [.bool true,.slice s.ao s.owners.length s.co,.slice s.ac s.conds.length s.cc,.slice s.ah s.chans.length s.ch].toArray 176 (0,0)),
 lsH I64 3 s.ao s.co s.owners,rsH cqs 1 191 s.ac s.cc s.conds,stars (s.conds.map (lsV 3)),rsH chs 3 180 s.ah s.ch s.chans,stars (s.chans.map fun x=>lsV 2 x.q)]
def Ch.row (c:Ch):List Int×Int×Int:=(c.items,c.room,c.all.length)
def ChC.row (x:ChC):List Int×Int×Int:=(x.q.l,x.room,x.sent)
structure Real (U:SyC) (s:Sy):Prop where
 o:U.owners=s.owners
 c:U.conds.map (·.l)=s.conds
 h:U.chans.map ChC.row=s.chans.map Ch.row
theorem Real.lc (r:Real U s):U.conds.length=s.conds.length:=by rw [<-r.c];simp
theorem Real.lh (r:Real U s):U.chans.length=s.chans.length:=by have:=bK List.length r.h;simpa using this
theorem Real.cl (r:Real U s)(h:i<U.conds.length):s.conds.getD i []=U.conds[i].l:=by
 have a:i<s.conds.length:=by rw [<-r.lc];exact h
 have:=bK (·[i]?) r.c;simp only [fJ,aD h,aD a,gJ] at this;rw [List.getD,aD a];exact (gN this).symm
theorem Real.hl (r:Real U s)(h:i<U.chans.length):(s.chans.getD i ch0).row=U.chans[i].row:=by
 have a:i<s.chans.length:=by rw [<-r.lh];exact h
 have:=bK (·[i]?) r.h;simp only [fJ,aD h,aD a,gJ] at this;rw [List.getD,aD a];exact (gN this).symm
theorem M9 {α β:Type}(f:α->β)(l:List α)(i:Nat)(x:α):(l.set i x).map f=(l.map f).set i (f x):=by simp
end Go.Proofs.YtflkjkhijcdbaaaGreat
