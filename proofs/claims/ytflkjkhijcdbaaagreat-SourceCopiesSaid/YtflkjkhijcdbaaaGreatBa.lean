/- Contracts of functions, proved by walking their code. -/
import Derived.Calls
import Derived.Defers
import Derived.Below
import Derived.WalkKit
import Derived.Laws.StructEq
set_option linter.unusedVariables false
set_option linter.unusedSimpArgs false
namespace Wx
open Go Go.RowKit
abbrev Hp:=Nat→Option Obj
def Hle (h k:Hp):Prop:= ∀ b o,h b=some o→k b=some o
def Hdj (h k:Hp):Prop:= ∀ b,h b=none∨k b=none
theorem Hle.refl (h:Hp):Hle h h:=fun _ _ e=>e
theorem Hle.trans {a b c:Hp}(h:Hle a b)(k:Hle b c):Hle a c:=fun x o e=>k x o (h x o e)
theorem Hdj.symm {h k:Hp}(d:Hdj h k):Hdj k h:=fun b=>(d b).symm
theorem Hdj.mono {h k h' k':Hp}(d:Hdj h k)(a:Hle h' h)(b:Hle k' k):Hdj h' k':=by
 intro x
 rcases d x with e|e
 · left;cases hx:h' x with
   |none=>rfl
   |some o=>have:=a x o hx;rw [e] at this;cases this
 right;cases hx:k' x with
 |none=>rfl
 |some o=>have:=b x o hx;rw [e] at this;cases this
def Vm (h k:Hp):Hp:=fun b=>match h b with|some o=>some o|none=>k b
theorem Hle.join_left (h k:Hp):Hle h (Vm h k):=by intro b o e;simp [Vm,e]
theorem Hle.join_right {h k:Hp}(d:Hdj h k):Hle k (Vm h k):=by
 intro b o e
 rcases d b with n|n
 · simp [Vm,n,e]
 rw [n] at e;cases e
theorem Hle.join {h k m:Hp}(a:Hle h m)(b:Hle k m):Hle (Vm h k) m:=by
 intro x o e
 unfold Vm at e
 cases hx:h x with
 |none=>rw [hx] at e;exact b x o e
 |some o'=>rw [hx] at e;cases e;exact a x _ hx
theorem Hdj.join_right {a h k:Hp}(d:Hdj a h)(e:Hdj a k):Hdj a (Vm h k):=by
 intro b
 rcases d b with n|n
 · exact .inl n
 rcases e b with m|m
 · exact .inl m
 right;simp [Vm,n,m]
structure HP where
 p:Hp→Hp→Prop
 mono: ∀ {M M' h h':Hp},Hle M M'→Hle h h'→p M h→p M' h'
def emp:HP:=⟨fun _ _=>True,fun _ _ _=>trivial⟩
def pto (b:Nat)(o:Obj):HP:=⟨fun _ h=>h b=some o,fun _ e k=>e _ _ k⟩
def im (b:Nat)(o:Obj):HP:=⟨fun M _=>M b=some o,fun e _ k=>e _ _ k⟩
def pure (φ:Prop):HP:=⟨fun _ _=>φ,fun _ _ k=>k⟩
def star (A B:HP):HP:=⟨fun M h=> ∃ h₁ h₂,Hdj h₁ h₂∧Hle h₁ h∧Hle h₂ h∧A.p M h₁∧B.p M h₂,
 fun e e' ⟨h₁,h₂,d,a,b,p,q⟩=>⟨h₁,h₂,d,a.trans e',b.trans e',A.mono e (.refl _) p,B.mono e (.refl _) q⟩⟩
def ex {α:Sort _}(A:α→HP):HP:=⟨fun M h=> ∃ x,(A x).p M h,fun e e' ⟨x,p⟩=>⟨x,(A x).mono e e' p⟩⟩
def stars:List HP→HP
 | []=>emp
 |A::r=>star A (stars r)
def Le (cs ds:List HP):Prop:= ∀ M h,(stars cs).p M h→(stars ds).p M h
theorem Le.refl (cs:List HP):Le cs cs:=fun _ _ h=>h
theorem Le.trans {a b c:List HP}(h:Le a b)(k:Le b c):Le a c:=fun M x p=>k M x (h M x p)
theorem Le.nil (cs:List HP):Le cs []:=fun _ _ _=>trivial
theorem Le.cons (A:HP){cs ds:List HP}(h:Le cs ds):Le (A::cs) (A::ds):=
 fun M _ ⟨h₁,h₂,d,a,b,p,q⟩=>⟨h₁,h₂,d,a,b,p,h M _ q⟩
theorem Le.drop (A:HP)(cs:List HP):Le (A::cs) cs:=fun _ _ ⟨_,_,_,_,b,_,q⟩=>(stars cs).mono (.refl _) b q
theorem Le.swap (A B:HP)(cs:List HP):Le (A::B::cs) (B::A::cs):=by
 rintro M h ⟨h₁,h₂,d,a,b,p,k₁,k₂,e,a',b',p',q⟩
 refine ⟨k₁,Vm h₁ k₂,?_,a'.trans b,.join a (b'.trans b),p',h₁,k₂,(d.mono (.refl _) b'),.join_left _ _,.join_right (d.mono (.refl _) b'),p,q⟩
 exact .join_right ((d.mono (.refl _) a').symm) e
theorem Le.there (B:HP){A:HP}{cs r:List HP}(h:Le cs (A::r)):Le (B::cs) (A::B::r):=(h.cons B).trans (.swap _ _ _)
theorem Le.here (A:HP)(cs:List HP):Le (A::cs) (A::cs):= .refl _
theorem Le.pick {A:HP}{cs r ds:List HP}(h:Le cs (A::r))(k:Le r ds):Le cs (A::ds):=h.trans (k.cons A)
theorem Le.lose {A:HP}{cs ds:List HP}(h:Le cs ds):Le (A::cs) ds:=(Le.drop A cs).trans h
theorem Le.one {A B:HP}{cs:List HP}(h: ∀ M x,A.p M x→B.p M x):Le (A::cs) (B::cs):=
 fun M _ ⟨h₁,h₂,d,a,b,p,q⟩=>⟨h₁,h₂,d,a,b,h M _ p,q⟩
theorem Le.append_left (ds:List HP){a b:List HP}(h:Le a b):Le (ds++a) (ds++b):=by
 induction ds with
 |nil=>exact h
 |cons A r ih=>exact ih.cons A
theorem Le.split (A B:HP)(cs:List HP):Le (star A B::cs) (A::B::cs):=by
 rintro M h ⟨h₁,h₂,d,a,b,⟨k₁,k₂,e,a',b',p,p'⟩,q⟩
 refine ⟨k₁,Vm k₂ h₂,?_,a'.trans a,.join (b'.trans a) b,p,k₂,h₂,d.mono b' (.refl _),.join_left _ _,.join_right (d.mono b' (.refl _)),p',q⟩
 exact .join_right e (d.mono a' (.refl _))
theorem Le.fuse (A B:HP)(cs:List HP):Le (A::B::cs) (star A B::cs):=by
 rintro M h ⟨h₁,h₂,d,a,b,p,k₁,k₂,e,a',b',p',q⟩
 refine ⟨Vm h₁ k₁,k₂,?_,.join a (a'.trans b),b'.trans b,⟨h₁,k₁,d.mono (.refl _) a',.join_left _ _,.join_right (d.mono (.refl _) a'),p,p'⟩,q⟩
 exact (Hdj.join_right (d.mono (.refl _) b').symm e.symm).symm
theorem Y6 (a b:List HP):Le (a++b) a:=by
 induction a with
 |nil=>exact Le.nil _
 |cons A r ih=>exact ih.cons A
theorem Z5 (cs ds:List HP):Le (cs++ds) (stars cs::ds):=by
 induction cs with
 |nil=>exact fun M h p=>⟨fun _=>none,h,fun _=> .inl rfl,fun _ _ e=>by simp at e,.refl _,trivial,p⟩
 |cons A r ih=>exact (ih.cons A).trans (.fuse _ _ _)
theorem Zs (cs ds:List HP):Le (stars cs::ds) (cs++ds):=by
 induction cs with
 |nil=>exact .drop _ _
 |cons A r ih=>exact (Le.split _ _ _).trans (ih.cons A)
theorem Qb {φ:Prop}(h:φ)(cs:List HP):Le cs (pure φ::cs):=
 fun _ k p=>⟨fun _=>none,k,fun _=> .inl rfl,fun _ _ e=>by simp at e,.refl _,h,p⟩
theorem Df {α:Sort _}{A:α→HP}{cs ds:List HP}(x:α)(h:Le cs (A x::ds)):Le cs (ex A::ds):=
 h.trans (.one fun _ _ p=>⟨x,p⟩)
def wh (w:World):Hp:=fun b=>w.heap[b]?
def St (G w:World)(cs:List HP):Prop:=
 Below G.heap.size G w∧ ∃ M h:Hp,Hle M (wh w)∧Hle h (wh w)∧(∀ b o,h b=some o→G.heap.size≤b)∧Hdj M h∧Hle (wh G) M∧(stars cs).p M h
variable {G w w':World}{cs ds:List HP}
theorem St.le (s:St G w cs)(h:Le cs ds):St G w ds:=let ⟨b,M,k,a,c,d,e,f,p⟩:=s;⟨b,M,k,a,c,d,e,f,h M k p⟩
theorem St.below (s:St G w cs):Below G.heap.size G w:=s.1
theorem St.get_pure {φ:Prop}(s:St G w (pure φ::cs)):φ:=let ⟨_,_,_,_,_,_,_,_,_,_,_,_,_,p,_⟩:=s;p
theorem St.get_ex {α:Sort _}{A:α→HP}(s:St G w (ex A::cs)): ∃ x,St G w (A x::cs):=
 let ⟨b,M,k,a,c,d,e,f,h₁,h₂,i,j,l,⟨x,p⟩,q⟩:=s;⟨x,b,M,k,a,c,d,e,f,h₁,h₂,i,j,l,p,q⟩
def Has (cs:List HP)(b:Nat)(o:Obj):Prop:= ∀ M h,(stars cs).p M h→M b=some o∨h b=some o
theorem Has.pto (b:Nat)(o:Obj)(cs:List HP):Has (pto b o::cs) b o:=fun _ _ ⟨_,_,_,a,_,p,_⟩=> .inr (a _ _ p)
theorem Has.im (b:Nat)(o:Obj)(cs:List HP):Has (im b o::cs) b o:=fun _ _ ⟨_,_,_,_,_,p,_⟩=> .inl p
theorem Has.there {A:HP}{cs:List HP}{b:Nat}{o:Obj}(h:Has cs b o):Has (A::cs) b o:=
 fun M _ ⟨_,_,_,_,e,_,q⟩=>(h M _ q).imp id (e _ _)
theorem Has.le {cs ds:List HP}{b:Nat}{o:Obj}(h:Has ds b o)(k:Le cs ds):Has cs b o:=fun M x p=>h M x (k M x p)
theorem St.has {b:Nat}{o:Obj}(s:St G w cs)(h:Has cs b o):w.heap[b]? =some o:=by
 obtain ⟨_,M,k,a,c,_,_,_,p⟩:=s
 rcases h M k p with e|e
 · exact a _ _ e
 exact c _ _ e
theorem St.put {b:Nat}{o o':Obj}(s:St G w (pto b o::cs))(hb:w'.heap[b]? =some o')(hne: ∀ k,k≠b→w'.heap[k]? =w.heap[k]?)
 (hs:w'.heap.size=w.heap.size) (h1:w'.os=w.os) (h2:w'.tape=w.tape) (h3:w'.output=w.output):St G w' (pto b o'::cs):=by
 obtain ⟨bl,M,h,a,c,d,e,f,h₁,h₂,dj,l₁,l₂,p,q⟩:=s
 have hbh:h b=some o:=l₁ _ _ p
 have hGb:G.heap.size≤b:=d _ _ hbh
 refine ⟨bl.trans ⟨h1,h2,h3,by omega,fun k hk=>hne k (by omega)⟩,M,Vm (fun x=>if x=b then some o' else none) (fun x=>if x=b then none else h x),?_,?_,?_,?_,f,
  (fun x=>if x=b then some o' else none),(fun x=>if x=b then none else h x),?_,.join_left _ _,?_,?_,?_⟩
 · intro x o₁ hx
   have hxb:x≠b:=by rintro rfl;rcases e x with n|n<;>simp_all
   exact (hne x hxb).trans (a _ _ hx)
 · intro x o₁ hx
   by_cases hxb:x=b
   · subst hxb;simp [Vm] at hx;subst hx;exact hb
   simp [Vm,hxb] at hx;exact (hne x hxb).trans (c _ _ hx)
 · intro x o₁ hx
   by_cases hxb:x=b
   · omega
   simp [Vm,hxb] at hx;exact d _ _ hx
 · intro x
   by_cases hxb:x=b
   · subst hxb;left;rcases e x with n|n
     · exact n
     rw [n] at hbh;cases hbh
   rcases e x with n|n
   · exact .inl n
   right;simp [Vm,hxb,n]
 · intro x;by_cases hxb:x=b<;>simp [hxb]
 · refine .join_right ?_;intro x;by_cases hxb:x=b<;>simp [hxb]
 · simp [pto]
 refine (stars cs).mono (.refl _) ?_ q;intro x o₁ hx
 have hxb:x≠b:=by
  rintro rfl
  rcases dj x with n|n
  · have p':h₁ x=some o:=p
    rw [n] at p';cases p'
  rw [n] at hx;cases hx
 simp [hxb];exact l₂ _ _ hx
theorem St.new {o:Obj}(s:St G w cs)(hn:w'.heap=w.heap.push o)(h1:w'.os=w.os)(h2:w'.tape=w.tape)(h3:w'.output=w.output):
 St G w' (pto w.heap.size o::cs):=by
 obtain ⟨bl,M,h,a,c,d,e,f,q⟩:=s
 have hlt: ∀ x o₁,w.heap[x]? =some o₁→x<w.heap.size:=fun x o₁ hx=>(Array.getElem?_eq_some_iff.1 hx).1
 have hold: ∀ x,x≠w.heap.size→w'.heap[x]? =w.heap[x]? :=by
  intro x hx;rw [hn,Array.getElem?_push,if_neg hx]
 have hnew:w'.heap[w.heap.size]? =some o:=by rw [hn,Array.getElem?_push,if_pos rfl]
 have hM:M w.heap.size=none:=by
  cases hm:M w.heap.size with
  |none=>rfl
  |some o₁=>have:=hlt _ _ (a _ _ hm);omega
 have hh:h w.heap.size=none:=by
  cases hm:h w.heap.size with
  |none=>rfl
  |some o₁=>have:=hlt _ _ (c _ _ hm);omega
 have hsz:=bl.size
 refine ⟨bl.trans ⟨h1,h2,h3,by rw [hn];simp,fun k hk=>hold k (by omega)⟩,M,Vm (fun x=>if x=w.heap.size then some o else none) h,?_,?_,?_,?_,f,
  (fun x=>if x=w.heap.size then some o else none),h,?_,.join_left _ _,?_,?_,q⟩
 · intro x o₁ hx
   refine (hold x ?_).trans (a _ _ hx);rintro rfl;rw [hM] at hx;cases hx
 · intro x o₁ hx
   by_cases hxb:x=w.heap.size
   · subst hxb;simp [Vm] at hx;subst hx;exact hnew
   simp [Vm,hxb] at hx;exact (hold x hxb).trans (c _ _ hx)
 · intro x o₁ hx
   by_cases hxb:x=w.heap.size
   · omega
   simp [Vm,hxb] at hx;exact d _ _ hx
 · intro x
   by_cases hxb:x=w.heap.size
   · subst hxb;exact .inl hM
   rcases e x with n|n
   · exact .inl n
   right;simp [Vm,hxb,n]
 · intro x
   by_cases hxb:x=w.heap.size
   · subst hxb;exact .inr hh
   simp [hxb]
 · refine .join_right ?_;intro x
   by_cases hxb:x=w.heap.size
   · subst hxb;exact .inr hh
   simp [hxb]
 simp [pto]
theorem St.same (s:St G w cs)(hh:w'.heap=w.heap)(h1:w'.os=w.os)(h2:w'.tape=w.tape)(h3:w'.output=w.output):St G w' cs:=by
 obtain ⟨bl,M,h,a,c,d,e,f,q⟩:=s
 have hw:wh w'=wh w:=by funext x;simp [wh,hh]
 exact ⟨bl.trans ⟨h1,h2,h3,by rw [hh];exact Nat.le_refl _,fun k _=>by rw [hh]⟩,M,h,hw ▸ a,hw ▸ c,d,e,f,q⟩
theorem St.freeze {b:Nat}{o:Obj}(s:St G w (pto b o::cs)):St G w (im b o::cs):=by
 obtain ⟨bl,M,h,a,c,d,e,f,h₁,h₂,dj,l₁,l₂,p,q⟩:=s
 have hbh:h b=some o:=l₁ _ _ p
 have hMb:M b=none:=by rcases e b with n|n;exact n;rw [n] at hbh;cases hbh
 have hMle:Hle M (Vm M (fun x=>if x=b then some o else none)):= .join_left _ _
 refine ⟨bl,Vm M (fun x=>if x=b then some o else none),h₂,?_,l₂.trans c,fun x o₁ hx=>d _ _ (l₂ _ _ hx),?_,f.trans hMle,fun _=>none,h₂,fun _=> .inl rfl,
  fun _ _ e=>by simp at e,.refl _,?_,(stars cs).mono hMle (.refl _) q⟩
 · refine .join a ?_;intro x o₁ hx
   by_cases hxb:x=b
   · subst hxb;simp at hx;subst hx;exact c _ _ hbh
   simp [hxb] at hx
 · intro x
   by_cases hxb:x=b
   · subst hxb;right
     rcases dj x with n|n
     · have p':h₁ x=some o:=p
       rw [n] at p';cases p'
     exact n
   rcases e x with n|n
   · left;simp [Vm,n,hxb]
   right
   cases hx:h₂ x with
   |none=>rfl
   |some o₁=>have:=l₂ _ _ hx;rw [n] at this;cases this
 simp [im,Vm,hMb]
end Wx
namespace Wx
open Go Go.RowKit
abbrev PE:=List (Nat×Value)
def lkp:PE→Nat→Option Value
 | [],_=>none
 |(d,v)::r,t=>bif Nat.beq d t then some v else lkp r t
def Agr (tm:Array Value)(p:PE):Prop:= ∀ t v,lkp p t=some v→tm.getD t undef=v
def evp (p:PE):Operand→Option Value
 | .tmp t=>lkp p t
 | .const v=>some v
 | .global g=>some (.pointer (some ⟨g,0,none⟩))
 | .func f=>some (.func (.func f) #[] #[])
def evl (p:PE):List Operand→Option (List Value)
 | []=>some []
 |x::r=>match evp p x,evl p r with
  |some v,some vs=>some (v::vs)
  |_,_=>none
def evA (tm:Array Value):Operand→Value
 | .tmp t=>tm.getD t undef
 | .const v=>v
 | .global g=> .pointer (some ⟨g,0,none⟩)
 | .func f=> .func (.func f) #[] #[]
theorem Zu {tm:Array Value}{p:PE}(a:Agr tm p){x:Operand}{v:Value}(h:evp p x=some v):evA tm x=v:=by
 cases x with
 |tmp t=>exact a t v h
 |const c=>simpa [evp,evA] using h
 |global g=>simpa [evp,evA] using h
 |func f=>simpa [evp,evA] using h
theorem Hf {tm:Array Value}{p:PE}(a:Agr tm p): ∀ {l:List Operand} {vs:List Value},evl p l=some vs→l.map (evA tm)=vs:=by
 intro l
 induction l with
 |nil=>intro vs h;simpa [evl] using h
 |cons x r ih=>
  intro vs h
  simp only [evl] at h
  split at h
  · rename_i v ws h1 h2
    cases h
    simp [Zu a h1,ih h2]
  cases h
def SubP:PE→PE→Prop
 | [],_=>True
 |(d,v)::r,p=>lkp p d=some v∧SubP r p
theorem SubP.lk {p' p:PE}(h:SubP p' p): ∀ t v,lkp p' t=some v→lkp p t=some v:=by
 induction p' with
 |nil=>intro t v e;simp [lkp] at e
 |cons x r ih=>
  obtain ⟨d,u⟩:=x
  intro t v e
  simp only [lkp] at e
  cases hb:Nat.beq d t with
  |true=>
   rw [hb] at e
   simp at e
   have:=Nat.eq_of_beq_eq_true hb
   subst this;subst e;exact h.1
  |false=>rw [hb] at e;exact ih h.2 t v (by simpa using e)
theorem Agr.sub {tm:Array Value}{p p':PE}(a:Agr tm p)(h:SubP p' p):Agr tm p':=fun t v e=>a t v (h.lk t v e)
def Up (p:PE):Option Tmp→Value→PE
 |some d,v=>(d,v)::p
 |none,_=>p
def Ww (tm:Array Value):Option Tmp→Value→Array Value
 |some d,v=>tm.setIfInBounds d v
 |none,_=>tm
def dOk (n:Nat):Option Tmp→Bool
 |some d=>Nat.blt d n
 |none=>true
theorem Yw (tm:Array Value)(d:Option Tmp)(v:Value):(Ww tm d v).size=tm.size:=by cases d<;>simp [Ww]
theorem Agr.put {tm:Array Value}{p:PE}(a:Agr tm p){d:Option Tmp}{v:Value}(hd:dOk tm.size d=true):Agr (Ww tm d v) (Up p d v):=by
 cases d with
 |none=>exact a
 |some d=>
  have hlt:d<tm.size:=by simpa [dOk,Nat.blt_eq] using hd
  intro t u e
  simp only [Up,lkp] at e
  cases hb:Nat.beq d t with
  |true=>
   rw [hb] at e
   have:=Nat.eq_of_beq_eq_true hb
   subst this
   simp at e
   subst e
   simp [Ww,hlt]
  |false=>
   rw [hb] at e
   have hne:d≠t:=Nat.ne_of_beq_eq_false hb
   have:=a t u (by simpa using e)
   simpa [Ww,Array.getElem?_setIfInBounds,hne] using this
structure Fc where
 fn:FuncId
 n:Nat
 kind:CallKind
 round:Option Nat
def Fc.fr (f:Fc)(tm:Array Value)(ds:List Deferred)(todo:List Item):Frame:=
 { fn:=f.fn,tmps:=tm,todo,defers:=ds,mode:= .run,kind:=f.kind,roundOf:=f.round }
inductive Out where
 |fall
 |jump (c:Code)
 |panic (ch:List PanicEntry)
def Gone (c:Code)(k:List Item):Prop:=c= .ret∨(∃ id,c= .exit id∧exitTo id k=none)∨(∃ l,c= .goto l∧gotoIn l k=none)
def Arr (P:Program)(f:Fc)(m:Machine):Out→Array Value→List Deferred→List Frame→World→Prop
 | .fall,tm,ds,cs,w=>Steps P m (lone (f.fr tm ds []) cs w)
 | .jump c,tm,ds,cs,w=> ∃ k,Gone c k∧Steps P m (lone (f.fr tm ds (.code c::k)) cs w)
 | .panic ch,tm,ds,cs,w=> ∃ k,Steps P m (lone { f.fr tm ds k with mode:= .panicking ch } cs w)
theorem Arr.head {P:Program}{f:Fc}{m m₁:Machine}{o:Out}{tm:Array Value}{ds:List Deferred}{cs:List Frame}{w:World}
 (s:Steps P m m₁) (h:Arr P f m₁ o tm ds cs w):Arr P f m o tm ds cs w:=by
 cases o with
 |fall=>exact s.trans h
 |jump c=>obtain ⟨k,g,h⟩:=h;exact ⟨k,g,s.trans h⟩
 |panic ch=>obtain ⟨k,h⟩:=h;exact ⟨k,s.trans h⟩
abbrev Yr:=Out→PE→List Deferred→List Frame→List HP→Prop
def X (P:Program)(G:World)(f:Fc)(Q:Yr)(todo:List Item)(p:PE)(ds:List Deferred)(cs:List Frame)(q:List HP):Prop:=
 ∀ tm w,tm.size=f.n→Agr tm p→St G w q→
  ∃ o tm' p' ds' cs' w' q',Q o p' ds' cs' q'∧tm'.size=f.n∧Agr tm' p'∧St G w' q'∧Arr P f (lone (f.fr tm ds todo) cs w) o tm' ds' cs' w'
section code
variable {P:Program}{G:World}{f:Fc}{Q:Yr}{k:List Item}{p:PE}{ds:List Deferred}{cs:List Frame}{q:List HP}
theorem X.le {todo:List Item}{q':List HP}(h:Le q q')(x:X P G f Q todo p ds cs q'):X P G f Q todo p ds cs q:=
 fun tm w n a s=>x tm w n a (s.le h)
theorem X.sub {todo:List Item}{p':PE}(h:SubP p' p)(x:X P G f Q todo p' ds cs q):X P G f Q todo p ds cs q:=
 fun tm w n a s=>x tm w n (a.sub h) s
theorem X.at {todo:List Item}{p':PE}{q':List HP}(x:X P G f Q todo p' ds cs q')(h:SubP p' p)(l:Le q q'):X P G f Q todo p ds cs q:=(x.sub h).le l
theorem X.pure {todo:List Item}{φ:Prop}(x:φ→X P G f Q todo p ds cs q):X P G f Q todo p ds cs (pure φ::q):=
 fun tm w n a s=>x s.get_pure tm w n a (s.le (.drop _ _))
theorem X.ex {todo:List Item}{α:Sort _}{A:α→HP}(x: ∀ y,X P G f Q todo p ds cs (A y::q)):X P G f Q todo p ds cs (ex A::q):=
 fun tm w n a s=>let ⟨y,s'⟩:=s.get_ex;x y tm w n a s'
theorem X.freeze {todo:List Item}{b:Nat}{o:Obj}(x:X P G f Q todo p ds cs (im b o::q)):X P G f Q todo p ds cs (pto b o::q):=
 fun tm w n a s=>x tm w n a s.freeze
theorem X.know {todo:List Item}(s:Nat){v:Value}(u:Value)(h:lkp p s=some v)(e:v=u)(K:X P G f Q todo ((s,u)::p) ds cs q):X P G f Q todo p ds cs q:=by
 subst e
 refine fun tm w n ag st=>K tm w n (fun j u' hj=>ag j u' ?_) st
 simp only [lkp] at hj
 cases hb:Nat.beq s j with
 |true=>rw [hb] at hj;have:=Nat.eq_of_beq_eq_true hb;subst this;rw [h];simpa using hj
 |false=>rw [hb] at hj;simpa using hj
theorem X.step {todo todo':List Item}(h: ∀ tm w,step P (lone (f.fr tm ds todo) cs w)= .next (lone (f.fr tm ds todo') cs w))
 (x:X P G f Q todo' p ds cs q):X P G f Q todo p ds cs q:=by
 intro tm w n a s
 obtain ⟨o,tm',p',ds',cs',w',q',hQ,hn,ha,hs,arr⟩:=x tm w n a s
 exact ⟨o,tm',p',ds',cs',w',q',hQ,hn,ha,hs,arr.head (.one (h tm w))⟩
theorem X.seq {a b:Code}(x:X P G f Q (.code a:: .code b::k) p ds cs q):X P G f Q (.code (.seq a b)::k) p ds cs q:=
 .step (fun _ _=>step_lone_go (by simp [stepG,stepG.exec,Fc.fr])) x
theorem X.skip (x:X P G f Q k p ds cs q):X P G f Q (.code .skip::k) p ds cs q:=
 .step (fun _ _=>step_lone_go (by simp [stepG,stepG.exec,Fc.fr])) x
theorem X.label {l:Nat}(x:X P G f Q k p ds cs q):X P G f Q (.code (.label l)::k) p ds cs q:=
 .step (fun _ _=>step_lone_go (by simp [stepG,stepG.exec,Fc.fr])) x
theorem X.inBlock {l:Nat}(x:X P G f Q k p ds cs q):X P G f Q (.inBlock l::k) p ds cs q:=
 .step (fun _ _=>step_lone_go (by simp [stepG,stepG.exec,Fc.fr])) x
theorem X.inScope {b:Code}(x:X P G f Q k p ds cs q):X P G f Q (.inScope b::k) p ds cs q:=
 .step (fun _ _=>step_lone_go (by simp [stepG,stepG.exec,Fc.fr])) x
theorem X.block {l:Nat}{b:Code}(x:X P G f Q (.code b:: .inBlock l::k) p ds cs q):X P G f Q (.code (.block l b)::k) p ds cs q:=
 .step (fun _ _=>step_lone_go (by simp [stepG,stepG.exec,Fc.fr])) x
theorem X.scope {b:Code}(x:X P G f Q (.code b:: .inScope b::k) p ds cs q):X P G f Q (.code (.scope b)::k) p ds cs q:=
 .step (fun _ _=>step_lone_go (by simp [stepG,stepG.exec,Fc.fr])) x
theorem X.inLoop {b:Code}(x:X P G f Q (.code b:: .inLoop b::k) p ds cs q):X P G f Q (.inLoop b::k) p ds cs q:=
 .step (fun _ _=>step_lone_go (by simp [stepG,stepG.exec,Fc.fr])) x
theorem X.loop1 {b:Code}(x:X P G f Q (.code b:: .inLoop b::k) p ds cs q):X P G f Q (.code (.loop b)::k) p ds cs q:=
 .step (fun _ _=>step_lone_go (by simp [stepG,stepG.exec,Fc.fr])) x
theorem X.exit {id:Nat}{k':List Item}(h:exitTo id k=some k')(x:X P G f Q k' p ds cs q):X P G f Q (.code (.exit id)::k) p ds cs q:=
 .step (fun _ _=>step_lone_go (by simp [stepG,stepG.exec,Fc.fr,h])) x
theorem Q7 (f:Fc)(tm:Array Value)(ds:List Deferred)(todo:List Item)(x:Operand):(f.fr tm ds todo).eval x=evA tm x:=by cases x<;>rfl
theorem X.cond_at {c:Operand}{t e:Code}{b:Bool}(hc:evp p c=some (.bool b))(x:X P G f Q (.code (if b then t else e)::k) p ds cs q):
 X P G f Q (.code (.cond c t e)::k) p ds cs q:=by
 intro tm w n a s
 obtain ⟨o,tm',p',ds',cs',w',q',hQ,hn,ha,hs,arr⟩:=x tm w n a s
 refine ⟨o,tm',p',ds',cs',w',q',hQ,hn,ha,hs,arr.head (.one (step_lone_go ?_))⟩
 have hv:(f.fr tm ds (.code (.cond c t e)::k)).eval c= .bool b:=(Q7 ..).trans (Zu a hc)
 simp only [Fc.fr] at hv
 simp [stepG,stepG.exec,Fc.fr,hv]
theorem X.condT {c:Operand}{t e:Code}(hc:evp p c=some (.bool true))(x:X P G f Q (.code t::k) p ds cs q):X P G f Q (.code (.cond c t e)::k) p ds cs q:= .cond_at hc x
theorem X.condF {c:Operand}{t e:Code}(hc:evp p c=some (.bool false))(x:X P G f Q (.code e::k) p ds cs q):X P G f Q (.code (.cond c t e)::k) p ds cs q:= .cond_at hc x
theorem X.fall (h:Q .fall p ds cs q):X P G f Q [] p ds cs q:=fun tm w n a s=>⟨.fall,tm,p,ds,cs,w,q,h,n,a,s,.refl P _⟩
theorem X.ret (h:Q (.jump .ret) p ds cs q):X P G f Q (.code .ret::k) p ds cs q:=
 fun tm w n a s=>⟨.jump .ret,tm,p,ds,cs,w,q,h,n,a,s,k,.inl rfl,.refl P _⟩
theorem X.loop {b:Code}{α:Sort _}(Inv:α→Prop)(pI:α→PE)(qI:α→List HP)(μ:α→Nat)
 (round: ∀ a,Inv a→(∀ a',Inv a'→μ a'<μ a→X P G f Q (.inLoop b::k) (pI a') ds cs (qI a'))→X P G f Q (.code b:: .inLoop b::k) (pI a) ds cs (qI a))
 (a:α) (h:Inv a):X P G f Q (.code (.loop b)::k) (pI a) ds cs (qI a):=by
 have key: ∀ n a,μ a=n→Inv a→X P G f Q (.code b:: .inLoop b::k) (pI a) ds cs (qI a):=by
  intro n
  induction n using Nat.strongRecOn with
  |_ n ih=>exact fun a hn h=>round a h fun a' h' hl=> .inLoop (ih (μ a') (hn ▸ hl) a' rfl h')
 exact .loop1 (key _ a rfl h)
end code
def XO (P:Program)(G:World)(f:Fc)(Q:Yr)(ops:Array Oper)(k:List Item)(l:List Oper)(p:PE)(ds:List Deferred)(cs:List Frame)(q:List HP):Prop:=
 ∀ is:List Nat,is.map (ops[·]?)=l.map some→X P G f Q (.inRegion ops is::k) p ds cs q
def Wt (ops:List Oper)(p:PE)(o:Oper):Option Bool:=
 match o.guard with
 |none=>some true
 |some (j,want)=>match (ops[j]?).bind (·.dst) with
  |none=>some false
  |some d=>match lkp p d with
   |some (.bool b)=>some (b==want)
   |some (.tuple _)=>some false
   |_=>none
theorem Yu {ops:List Oper}{p:PE}{o:Oper}{b:Bool}{tm:Array Value}(a:Agr tm p)(h:Wt ops p o=some b):Region.wanted o (yielded ops.toArray tm)=b:=by
 unfold Wt at h
 unfold Region.wanted
 split at h
 · rename_i hg;rw [hg];simpa using h
 rename_i j want hg
 rw [hg]
 dsimp only
 unfold yielded
 split at h
 · rename_i hd
   have hd':(ops.toArray[j]?).bind (fun x=>x.dst)=none:=by simpa using hd
   rw [hd']
   simp at h;subst h
   simp
 rename_i d hd
 have hd':(ops.toArray[j]?).bind (fun x=>x.dst)=some d:=by simpa using hd
 rw [hd']
 split at h
 · rename_i bb hl
   have:=a d _ hl
   have hs:tm[d]? =some (.bool bb):=by
    cases hx:tm[d]? with
    |none=>simp [hx,undef] at this
    |some u=>simpa [hx] using this
   simp [hs]
   simpa using h
 · rename_i vs hl
   have:=a d _ hl
   simp at h;subst h
   cases hx:tm[d]? with
   |none=>simp [hx]
   |some u=>
    have hu:u= .tuple vs:=by simpa [hx] using this
    simp [hx,hu]
 cases h
section region
variable {P:Program}{G:World}{f:Fc}{Q:Yr}{ops:List Oper}{k:List Item}{p:PE}{ds:List Deferred}{cs:List Frame}{q:List HP}{rest:List Oper}{o:Oper}
theorem X.region {id:Nat}(x:XO P G f Q ops.toArray k ops p ds cs q):X P G f Q (.code (.region id ops.toArray false)::k) p ds cs q:=by
 refine .step (todo':= .inRegion ops.toArray (List.range ops.length)::k) (fun _ _=>step_lone_go (by simp [stepG,stepG.exec,Fc.fr])) (x _ ?_)
 apply List.ext_getElem?
 intro i
 simp only [List.getElem?_map]
 by_cases h:i<ops.length
 · simp [h]
 simp [h]
theorem XO.nil (x:X P G f Q k p ds cs q):XO P G f Q ops.toArray k [] p ds cs q:=by
 intro is h
 cases is with
 |nil=>exact .step (fun _ _=>step_lone_go (by simp [stepG,stepG.exec,Fc.fr])) x
 |cons i r=>simp at h
theorem XO.le {l:List Oper}{q':List HP}(h:Le q q')(x:XO P G f Q ops.toArray k l p ds cs q'):XO P G f Q ops.toArray k l p ds cs q:=fun is e=>(x is e).le h
theorem XO.sub {l:List Oper}{p':PE}(h:SubP p' p)(x:XO P G f Q ops.toArray k l p' ds cs q):XO P G f Q ops.toArray k l p ds cs q:=fun is e=>(x is e).sub h
theorem XO.freeze {l:List Oper}{b:Nat}{o:Obj}(x:XO P G f Q ops.toArray k l p ds cs (im b o::q)):XO P G f Q ops.toArray k l p ds cs (pto b o::q):=fun is e=> .freeze (x is e)
theorem Vi (f:Fc)(tm:Array Value)(ds:List Deferred)(ops:Array Oper)(i:Nat)(r:List Nat)(k:List Item)(v:Value){o:Oper}(ho:ops[i]? =some o):
 (f.fr tm ds (.inRegion ops (i::r)::k)).finish v=f.fr (Ww tm o.dst v) ds (.inRegion ops r::k):=by
 cases hd:o.dst<;>simp [Frame.finish,Fc.fr,ho,Ww,hd]
theorem U0 (f:Fc)(tm:Array Value)(ds:List Deferred)(cs:List Frame)(w:World)(ops:Array Oper)(i:Nat)(r:List Nat)(k:List Item){o:Oper}(ho:ops[i]? =some o)
 (hw:Region.wanted o (yielded ops tm)=true) (hdf: ∀ c,o.op≠ .defer c):
 stepG P true { frame:=f.fr tm ds (.inRegion ops (i::r)::k),callers:=cs,status:= .running,dying:=none } w=
  stepG.apply P true (f.fr tm ds (.inRegion ops (i::r)::k)) cs none (execOp (evA tm) o) w:=by
 have he:(f.fr tm ds (.inRegion ops (i::r)::k)).eval=evA tm:=funext fun x=>Q7 ..
 simp only [Fc.fr] at he
 simp only [stepG,stepG.exec,stepG.oper,Frame.oper?,Fc.fr,ho,hw,he,Option.map_some,Option.getD_some,if_true]
 split
 · rename_i c _ h;exact absurd h (hdf _)
 rfl
theorem XO.pass_ (hw:Wt ops p o=some false)(hd:dOk f.n o.dst=true)(x:XO P G f Q ops.toArray k rest (Up p o.dst undef) ds cs q):
 XO P G f Q ops.toArray k (o::rest) p ds cs q:=by
 intro is h tm w n a s
 cases is with
 |nil=>simp at h
 |cons i r=>
  obtain ⟨ho,hr⟩:=List.cons.inj h
  obtain ⟨o',tm',p',ds',cs',w',q',hQ,hn,ha,hs,arr⟩:=x r hr (Ww tm o.dst undef) w (by rw [Yw];exact n) (a.put (n ▸ hd)) s
  refine ⟨o',tm',p',ds',cs',w',q',hQ,hn,ha,hs,arr.head (.one (step_lone_go ?_))⟩
  rw [←Vi f tm ds _ i r k undef ho]
  have:=Yu a hw
  simp [stepG,stepG.exec,Fc.fr,ho,this]
theorem XO.run {v:Value}(hw:Wt ops p o=some true)(hd:dOk f.n o.dst=true)
 (hr: ∀ tm w,tm.size=f.n→Agr tm p→St G w q→(execOp (evA tm) o).run P w= .ok (.value v) w∨(v=undef∧(execOp (evA tm) o).run P w= .ok .skip w))
 (x:XO P G f Q ops.toArray k rest (Up p o.dst v) ds cs q) (hdf: ∀ c,o.op≠ .defer c:=by intro _ h;cases h):XO P G f Q ops.toArray k (o::rest) p ds cs q:=by
 intro is h tm w n a s
 cases is with
 |nil=>simp at h
 |cons i r=>
  obtain ⟨ho,hr'⟩:=List.cons.inj h
  obtain ⟨o',tm',p',ds',cs',w',q',hQ,hn,ha,hs,arr⟩:=x r hr' (Ww tm o.dst v) w (by rw [Yw];exact n) (a.put (n ▸ hd)) s
  refine ⟨o',tm',p',ds',cs',w',q',hQ,hn,ha,hs,arr.head (.one (step_lone_go ?_))⟩
  rw [U0 f tm ds cs w _ i r k ho (Yu a hw) hdf,←Vi f tm ds _ i r k v ho]
  rcases hr tm w n a s with e|⟨rfl,e⟩
  · simp [stepG.apply,e]
  simp [stepG.apply,e]
theorem XO.eff (hw:Wt ops p o=some true)(hd:dOk f.n o.dst=true)
 (hr: ∀ tm w,tm.size=f.n→Agr tm p→St G w q→ ∃ v w' q',((execOp (evA tm) o).run P w= .ok (.value v) w'∨(v=undef∧(execOp (evA tm) o).run P w= .ok .skip w'))∧St G w' q'∧
  XO P G f Q ops.toArray k rest (Up p o.dst v) ds cs q') (hdf: ∀ c,o.op≠ .defer c:=by intro _ h;cases h):XO P G f Q ops.toArray k (o::rest) p ds cs q:=by
 intro is h tm w n a s
 cases is with
 |nil=>simp at h
 |cons i r=>
  obtain ⟨ho,hr'⟩:=List.cons.inj h
  obtain ⟨v,w₁,q₁,hrun,s₁,x⟩:=hr tm w n a s
  obtain ⟨o',tm',p',ds',cs',w',q',hQ,hn,ha,hs,arr⟩:=x r hr' (Ww tm o.dst v) w₁ (by rw [Yw];exact n) (a.put (n ▸ hd)) s₁
  refine ⟨o',tm',p',ds',cs',w',q',hQ,hn,ha,hs,arr.head (.one (step_lone_go ?_))⟩
  rw [U0 f tm ds cs w _ i r k ho (Yu a hw) hdf,←Vi f tm ds _ i r k v ho]
  rcases hrun with e|⟨rfl,e⟩
  · simp [stepG.apply,e]
  simp [stepG.apply,e]
theorem XO.panics {v:Value}(hw:Wt ops p o=some true)
 (hr: ∀ tm w,tm.size=f.n→Agr tm p→St G w q→ ∃ w',(execOp (evA tm) o).run P w= .halt (.panic v) w'∧St G w' q)
 (hQ:Q (.panic [{ v,recovered:=false }]) p ds cs q) (hdf: ∀ c,o.op≠ .defer c:=by intro _ h;cases h):XO P G f Q ops.toArray k (o::rest) p ds cs q:=by
 intro is h tm w n a s
 cases is with
 |nil=>simp at h
 |cons i r=>
  obtain ⟨ho,hr'⟩:=List.cons.inj h
  obtain ⟨w₁,e,s₁⟩:=hr tm w n a s
  refine ⟨.panic [{ v,recovered:=false }],tm,p,ds,cs,w₁,q,hQ,n,a,s₁,.inRegion ops.toArray (i::r)::k,.one (step_lone_go ?_)⟩
  rw [U0 f tm ds cs w _ i r k ho (Yu a hw) hdf]
  simp [stepG.apply,e,Frame.raise,Fc.fr]
def okTodo:List Item→Prop
 | .call .. ::_| .extern .. ::_=>False
 |_=>True
def L4 (fr:Frame)(cs:List Frame)(e:Ending)(w:World):Machine:=
 match e with
 | .returned v=>lone (fr.finish v) cs w
 | .panicked ch=>lone (fr.raise ch) cs w
 | .outgrown=>lone fr cs w
def Ap (P:Program)(s:Sem Next)(w:World)(R:Ending→World→Prop):Prop:=
 ∀ (fr:Frame) (cs:List Frame),fr.mode= .run→okTodo fr.todo→ ∃ e w',R e w'∧e≠ .outgrown∧
  ∃ fr₁ cs₁ w₁,(stepG.apply P true fr cs none s w).bare= .go { frame:=fr₁,callers:=cs₁,status:= .running,dying:=none } w₁∧
   Steps P (lone fr₁ cs₁ w₁) (L4 fr cs e w')
abbrev Ug:=Ending→List HP→Prop
def CallV (P:Program)(G:World)(fv:Value)(vs:List Value)(pre:List HP)(R:Ug):Prop:=
 ∀ (F:List HP) w,St G w (pre++F)→Ap P (do let d←Deferred.ofValue fv vs.toArray;invoke d.target d.args) w fun e w'=> ∃ q,R e q∧St G w' (q++F)
def CallF (P:Program)(G:World)(fn:FuncId)(vs:List Value)(pre:List HP)(R:Ug):Prop:=
 ∀ (F:List HP) w,St G w (pre++F)→Calls P fn vs.toArray w fun e w'=>e≠ .outgrown∧ ∃ q,R e q∧St G w' (q++F)
theorem Vv {fn:FuncId}{a b vs:List Value}{pre:List HP}{R:Ug}
 (hc: ∀ args w,(callFunc fn args).run P w= .ok (.enter fn args) w) (h:CallF P G fn (a++vs++b) pre R):CallV P G (.func (.func fn) a.toArray b.toArray) vs pre R:=by
 intro F w s fr cs hm ho
 obtain ⟨e,w',frX,⟨hne,q,hR,hs⟩,hcom,hfn,hl⟩:=h F w s (fr::cs)
 refine ⟨e,w',⟨q,hR,hs⟩,hne,Frame.enter P fn (a++vs++b).toArray .normal,fr::cs,w,?_,?_⟩
 · have:(do let d←Deferred.ofValue (.func (.func fn) a.toArray b.toArray) vs.toArray;invoke d.target d.args:Sem Next).run P w= .ok (.enter fn (a++vs++b).toArray) w:=by
    have:=hc (a++vs++b).toArray w
    simpa [Deferred.ofValue,invoke,Sem.run_bind,Result.andThen,bind,Sem.bind,Pure.pure] using this
   simp only [stepG.apply,Sem.runT_eq,this,GStep.bare_after,GStep.bare_go,if_true]
   cases ht:fr.todo with
   |nil=>rfl
   |cons x r=>cases x<;>first|rfl|(rw [ht] at ho;exact ho.elim)
 cases e with
 |returned v=>exact Steps.trans hcom (.one (step_leave_returned hl))
 |panicked ch=>exact Steps.trans hcom (.one (step_leave_panicked hl))
 |outgrown=>exact absurd rfl hne
theorem XO.callE {d:Option Tmp}{fo:Operand}{args:List Operand}{ats:Array TypeId}{ty:TypeId}{pos:String}{af:Array Edge}{gd:Option (Nat×Bool)}
 {fv:Value} {vs:List Value} {pre F:List HP} {R:Ug}
 (hw:Wt ops p ⟨d,.call ⟨.value fo,args.toArray,ats⟩,ty,pos,af,gd⟩=some true) (hd:dOk f.n d=true)
 (hf:evp p fo=some fv) (hv:evl p args=some vs) (hc:CallV P G fv vs pre R) (hq:Le q (pre++F))
 (x: ∀ v q',R (.returned v) q'→XO P G f Q ops.toArray k rest (Up p d v) ds cs (q'++F))
 (xp: ∀ ch q',R (.panicked ch) q'→Q (.panic ch) p ds cs (q'++F)):
 XO P G f Q ops.toArray k (⟨d,.call ⟨.value fo,args.toArray,ats⟩,ty,pos,af,gd⟩::rest) p ds cs q:=by
 intro is h tm w n a s
 cases is with
 |nil=>simp at h
 |cons i r=>
  obtain ⟨ho,hr'⟩:=List.cons.inj h
  obtain ⟨e,w₁,⟨q₁,hR,s₁⟩,hne,fr₁,cs₁,w₂,hap,hst⟩:=hc F w (s.le hq) (f.fr tm ds (.inRegion ops.toArray (i::r)::k)) cs rfl trivial
  have hexec:execOp (evA tm) ⟨d,.call ⟨.value fo,args.toArray,ats⟩,ty,pos,af,gd⟩=(do let d←Deferred.ofValue fv vs.toArray;invoke d.target d.args):=by
   have h1:=Zu a hf
   have h2:=Hf a hv
   simp only [execOp,resolve,h1]
   have:(args.toArray.map (evA tm))=vs.toArray:=by rw [←h2];simp
   rw [this]
  have hstep:step P (lone (f.fr tm ds (.inRegion ops.toArray (i::r)::k)) cs w)= .next (lone fr₁ cs₁ w₂):=by
   refine step_lone_go ?_
   rw [U0 f tm ds cs w _ i r k ho (Yu a hw) (by intro _ h;cases h),hexec]
   exact hap
  cases e with
  |returned v=>
   obtain ⟨o',tm',p',ds',cs',w',q',hQ,hn,ha,hs,arr⟩:=x v q₁ hR r hr' (Ww tm d v) w₁ (by rw [Yw];exact n) (a.put (n ▸ hd)) s₁
   refine ⟨o',tm',p',ds',cs',w',q',hQ,hn,ha,hs,Arr.head ((Steps.one hstep).trans hst) ?_⟩
   have:=Vi f tm ds _ i r k v ho
   simp only [L4,this]
   exact arr
  |panicked ch=>
   refine ⟨.panic ch,tm,p,ds,cs,w₁,q₁++F,xp ch q₁ hR,n,a,s₁,.inRegion ops.toArray (i::r)::k,?_⟩
   have:=(Steps.one hstep).trans hst
   simpa [L4,Frame.raise,Fc.fr] using this
  |outgrown=>exact absurd rfl hne
end region
end Wx
namespace Wx
open Go Go.RowKit
theorem Bi {P:Program}(n:Nat){t e:TypeId}(ht:P.underlying t=some (.pointer e))(A:Option Addr)(w:World):(Op.equalIn (n+1) t (.pointer A) (.pointer none)).run P w= .ok A.isNone w:=by
 cases A<;>simp [Op.equalIn,run_underlying ht]
theorem Tf {P:Program}(k:Nat){t e:TypeId}(ht:P.underlying t=some (.slice e))(A:Option Addr)(n m:Nat)(w:World):(Op.equalIn (k+1) t (.slice A n m) (.slice none 0 0)).run P w= .ok A.isNone w:=by
 cases A<;>simp [Op.equalIn,run_underlying ht]
theorem Fw {P:Program}(k:Nat){t:TypeId}(ht:P.underlying t=some .bool)(x y:Bool)(w:World):(Op.equalIn (k+1) t (.bool x) (.bool y)).run P w= .ok (x==y) w:=by
 simp [Op.equalIn,run_underlying ht]
def nth:List Value→Nat→Option Value
 | [],_=>none
 |v::_,0=>some v
 |_::r,n+1=>nth r n
theorem Ve (l:List Value)(n:Nat):nth l n=l[n]? :=by
 induction l generalizing n with
 |nil=>simp [nth]
 |cons v r ih=>cases n with
  |zero=>simp [nth]
  |succ n=>simp [nth,ih]
def Nb (l:List Value)(o:Nat)(v:Value):List Value:=match l,o with
 | [],_=> []
 |_::r,0=>v::r
 |x::r,n+1=>x::Nb r n v
theorem Ny (l:List Value)(o:Nat)(v:Value):Nb l o v=l.set o v:=by
 induction l generalizing o with
 |nil=>simp [Nb]
 |cons x r ih=>cases o<;>simp [Nb,ih]
def sub (l:List Value)(o n:Nat):List Value:=(l.drop o).take n
theorem W1 (b o n:Nat):(⟨b,o,none⟩:Addr).add n=⟨b,o+n,none⟩:=by unfold Addr.add;split<;>simp_all
theorem Uk {z:Int}(h1: -9223372036854775808≤z)(h2:z≤9223372036854775807):IntKind.i64.wrap z=z:=by rw [IntKind.wrap_i64];omega
def Pu (P:Program)(p:PE)(o:Oper)(v:Value):Prop:= ∀ tm w,Agr tm p→(execOp (evA tm) o).run P w= .ok (.value v) w
def Rd (P:Program)(G:World)(p:PE)(q:List HP)(o:Oper)(v:Value):Prop:= ∀ tm w,Agr tm p→St G w q→(execOp (evA tm) o).run P w= .ok (.value v) w
def Ef (P:Program)(G:World)(p:PE)(q:List HP)(o:Oper)(R:Value→List HP→Prop):Prop:= ∀ tm w,Agr tm p→St G w q→
 ∃ v w' q',((execOp (evA tm) o).run P w= .ok (.value v) w'∨(v=undef∧(execOp (evA tm) o).run P w= .ok .skip w'))∧St G w' q'∧R v q'
def Pn (P:Program)(G:World)(p:PE)(q:List HP)(o:Oper)(v:Value):Prop:= ∀ tm w,Agr tm p→St G w q→ ∃ w',(execOp (evA tm) o).run P w= .halt (.panic v) w'∧St G w' q
theorem Pu.rd {P:Program}{G:World}{p:PE}{q:List HP}{o:Oper}{v:Value}(h:Pu P p o v):Rd P G p q o v:=fun tm w ag _=>h tm w ag
section facts
variable {P:Program}{G:World}{p:PE}{q:List HP}{d:Option Tmp}{ty:TypeId}{pos:String}{af:Array Edge}{gd:Option (Nat×Bool)}{v u:Value}{a b c x y:Operand}
theorem Pu.move (hx:evp p x=some v):Pu P p ⟨d,.move x,ty,pos,af,gd⟩ v:=fun tm w ag=>by simp [execOp,Zu ag hx]
theorem Pu.assign (hx:evp p x=some v):Pu P p ⟨d,.assign x,ty,pos,af,gd⟩ v:=fun tm w ag=>by simp [execOp,Zu ag hx]
theorem Pu.pickT (hc:evp p c=some (.bool true))(hx:evp p a=some v):Pu P p ⟨d,.pick c a b,ty,pos,af,gd⟩ v:=fun tm w ag=>by simp [execOp,Zu ag hc,Zu ag hx,asBool]
theorem Pu.pickF (hc:evp p c=some (.bool false))(hx:evp p b=some v):Pu P p ⟨d,.pick c a b,ty,pos,af,gd⟩ v:=fun tm w ag=>by simp [execOp,Zu ag hc,Zu ag hx,asBool]
theorem Pu.extract {n:Nat}{vs:List Value}(hx:evp p x=some (.tuple vs.toArray))(hv:nth vs n=some v):Pu P p ⟨d,.extract x n,ty,pos,af,gd⟩ v:=
 fun tm w ag=>by rw [Ve] at hv;simp [execOp,Zu ag hx,Instr.extract,hv]
theorem Pu.makeFunc {fn:Fn}{l m:List Operand}{fs ms:List Value}(h1:evl p l=some fs)(h2:evl p m=some ms):Pu P p ⟨d,.makeFunc fn l.toArray m.toArray,ty,pos,af,gd⟩ (.func fn fs.toArray ms.toArray):=
 fun tm w ag=>by
  have e1:=Hf ag h1
  have e2:=Hf ag h2
  simp [execOp,Instr.makeFunc,e1,e2]
theorem Pu.makeInterface {t:TypeId}{D:TypeDesc}(hx:evp p x=some v)(hu:P.underlying t=some D)(hD:(match D with| .interface _=>false|_=>true)=true):Pu P p ⟨d,.makeInterface t x,ty,pos,af,gd⟩ (.iface t v):=
 fun tm w ag=>by
  simp only [execOp,Instr.makeInterface,Zu ag hx,Sem.run_bind,run_underlying hu,Result.andThen_ok]
  cases D<;>first|(cases hD;done)|rfl
theorem Pu.int {op:BinOp}{t t':TypeId}{kd:IntKind}{m n:Int}{r:Value}(hx:evp p x=some (.int kd m))(hy:evp p y=some (.int kd n))
 (hr: ∀ w,(Go.binOp op t (.int kd m) (.int kd n)).run P w= .ok r w):Pu P p ⟨d,.binOp op t x y t',ty,pos,af,gd⟩ r:=
 fun tm w ag=>by
  have:(eqGuard op t x y (.int kd m) (.int kd n)).run P w= .ok () w:=by
   unfold eqGuard;split<;>simp_all
  simp [execOp,Zu ag hx,Zu ag hy,this,hr]
section
variable {kd:IntKind}{m n:Int}{t t':TypeId}(hx:evp p x=some (.int kd m))(hy:evp p y=some (.int kd n))
include hx hy
theorem Iv:Pu P p ⟨d,.binOp .add t x y t',ty,pos,af,gd⟩ (.int kd (kd.wrap (m+n))):= .int hx hy (fun w=>by simp [Go.binOp,Op.intArith])
theorem Ij:Pu P p ⟨d,.binOp .sub t x y t',ty,pos,af,gd⟩ (.int kd (kd.wrap (m - n))):= .int hx hy (fun w=>by simp [Go.binOp,Op.intArith])
theorem Ik:Pu P p ⟨d,.binOp .mul t x y t',ty,pos,af,gd⟩ (.int kd (kd.wrap (m*n))):= .int hx hy (fun w=>by simp [Go.binOp,Op.intArith])
theorem Pu.rem (h0:n≠0):Pu P p ⟨d,.binOp .rem t x y t',ty,pos,af,gd⟩ (.int kd (m.tmod n)):= .int hx hy (fun w=>by simp [Go.binOp,Op.intDiv,h0])
theorem Fr (h0:n≠0):Pu P p ⟨d,.binOp .quo t x y t',ty,pos,af,gd⟩ (.int kd (kd.wrap (m.tdiv n))):= .int hx hy (fun w=>by simp [Go.binOp,Op.intDiv,h0])
theorem Pu.eql:Pu P p ⟨d,.binOp .eql t x y t',ty,pos,af,gd⟩ (.bool (m==n)):= .int hx hy (fun w=>by simp [Go.binOp,Op.intCmp])
theorem Pu.neq:Pu P p ⟨d,.binOp .neq t x y t',ty,pos,af,gd⟩ (.bool (m !=n)):= .int hx hy (fun w=>by simp [Go.binOp,Op.intCmp])
theorem Pu.lss:Pu P p ⟨d,.binOp .lss t x y t',ty,pos,af,gd⟩ (.bool (decide (m<n))):= .int hx hy (fun w=>by simp [Go.binOp,Op.intCmp])
theorem Pu.leq:Pu P p ⟨d,.binOp .leq t x y t',ty,pos,af,gd⟩ (.bool (decide (m≤n))):= .int hx hy (fun w=>by simp [Go.binOp,Op.intCmp])
theorem Pu.gtr:Pu P p ⟨d,.binOp .gtr t x y t',ty,pos,af,gd⟩ (.bool (decide (n<m))):= .int hx hy (fun w=>by simp [Go.binOp,Op.intCmp])
theorem Pu.geq:Pu P p ⟨d,.binOp .geq t x y t',ty,pos,af,gd⟩ (.bool (decide (n≤m))):= .int hx hy (fun w=>by simp [Go.binOp,Op.intCmp])
end
section
variable {m n:Int}{t t':TypeId}(hx:evp p x=some (.int .i64 m))(hy:evp p y=some (.int .i64 n))
include hx hy
theorem Pu.add (h1: -9223372036854775808≤m+n)(h2:m+n≤9223372036854775807):Pu P p ⟨d,.binOp .add t x y t',ty,pos,af,gd⟩ (.int .i64 (m+n)):=by
 have:=Iv (P:=P) (d:=d) (t:=t) (t':=t') (ty:=ty) (pos:=pos) (af:=af) (gd:=gd) hx hy
 rwa [Uk h1 h2] at this
theorem Pu.sub (h1: -9223372036854775808≤m - n)(h2:m - n≤9223372036854775807):Pu P p ⟨d,.binOp .sub t x y t',ty,pos,af,gd⟩ (.int .i64 (m - n)):=by
 have:=Ij (P:=P) (d:=d) (t:=t) (t':=t') (ty:=ty) (pos:=pos) (af:=af) (gd:=gd) hx hy
 rwa [Uk h1 h2] at this
theorem Pu.mul (h1: -9223372036854775808≤m*n)(h2:m*n≤9223372036854775807):Pu P p ⟨d,.binOp .mul t x y t',ty,pos,af,gd⟩ (.int .i64 (m*n)):=by
 have:=Ik (P:=P) (d:=d) (t:=t) (t':=t') (ty:=ty) (pos:=pos) (af:=af) (gd:=gd) hx hy
 rwa [Uk h1 h2] at this
end
theorem Pu.not {t:TypeId}{z:Bool}(hx:evp p x=some (.bool z)):Pu P p ⟨d,.unOp .not t x,ty,pos,af,gd⟩ (.bool !z):=fun tm w ag=>by simp [execOp,Zu ag hx,Op.unary]
theorem Pu.negW {t:TypeId}{kd:IntKind}{n:Int}(hx:evp p x=some (.int kd n)):Pu P p ⟨d,.unOp .neg t x,ty,pos,af,gd⟩ (.int kd (kd.wrap (0 - n))):=fun tm w ag=>by simp [execOp,Zu ag hx,Op.unary,Op.intArith]
theorem C0 {s t:TypeId}{D:TypeDesc}{ks kd:IntKind}{n:Int}(hx:evp p x=some (.int ks n))(hs:P.underlying s=some D)(ht:P.underlying t=some (.int kd)):Pu P p ⟨d,.convert s t x,ty,pos,af,gd⟩ (.int kd (kd.wrap n)):=
 fun tm w ag=>by simp [execOp,Zu ag hx,convert,run_underlying hs,run_underlying ht,Conv.intToInt]
theorem Pu.conv {s t:TypeId}{D:TypeDesc}{ks kd:IntKind}{n:Int}(hx:evp p x=some (.int ks n))(hs:P.underlying s=some D)(ht:P.underlying t=some (.int kd))(hn:kd.wrap n=n):Pu P p ⟨d,.convert s t x,ty,pos,af,gd⟩ (.int kd n):=by
 have:=C0 (P:=P) (d:=d) (ty:=ty) (pos:=pos) (af:=af) (gd:=gd) hx hs ht
 rwa [hn] at this
theorem Pu.nilCheck {A:Addr}(hx:evp p x=some (.pointer (some A))):Pu P p ⟨d,.nilCheck x,ty,pos,af,gd⟩ (.pointer (some A)):=fun tm w ag=>by simp [execOp,Zu ag hx]
theorem Fi {f:Nat}{l m:Array Value}(hx:evp p x=some (.func (.func f) l m)):Pu P p ⟨d,.nilCheck x,ty,pos,af,gd⟩ (.func (.func f) l m):=fun tm w ag=>by simp [execOp,Zu ag hx]
theorem Pu.fieldAddr {t:TypeId}{n:Nat}{b o:Nat}{fs:Array Field}(ft off sz:Nat)(hx:evp p x=some (.pointer (some ⟨b,o,none⟩)))(ht:P.underlying t=some (.struct fs))(hF:(fs[n]?).map (fun F=>(F.type,F.offset))=some (ft,off))
 (hs: ∀ w,(Go.sizeOf ft).run P w= .ok (sz+1) w):Pu P p ⟨d,.fieldAddr t x n,ty,pos,af,gd⟩ (.pointer (some ⟨b,o+off,none⟩)):=
 fun tm w ag=>by
  obtain ⟨F,hF',e⟩:=Option.map_eq_some_iff.1 hF
  clear hF
  simp only [Prod.mk.injEq] at e
  obtain ⟨rfl,rfl⟩:=e
  simp [execOp,Zu ag hx,Instr.fieldAt,Instr.sureAddr,run_underlying ht,hF',fieldPlace,hs,W1]
theorem Pu.len {t:TypeId}{e:TypeId}{A:Option Addr}{n m:Nat}{ats:List TypeId}(hx:evp p x=some (.slice A n m))(ht:P.underlying t=some (.slice e)):Pu P p ⟨d,.call ⟨.builtin .len, [x].toArray,(t::ats).toArray⟩,ty,pos,af,gd⟩ (.int .i64 n):=
 fun tm w ag=>by simp [execOp,resolve,invoke,builtin,Zu ag hx,Builtin.len_,run_underlying ht,goInt]
theorem Pu.indexAddr {t e:TypeId}{b o n m:Nat}{kd:IntKind}{i:Int}{sz:Nat}(hx:evp p x=some (.slice (some ⟨b,o,none⟩) n m))(hy:evp p y=some (.int kd i))(ht:P.underlying t=some (.slice e))(hs: ∀ w,(Go.sizeOf e).run P w= .ok sz w)
 (h0:0≤i) (h1:i<n):Pu P p ⟨d,.indexAddr t x y,ty,pos,af,gd⟩ (.pointer (some ⟨b,o+i.toNat*sz,none⟩)):=
 fun tm w ag=>by
  have hc:0≤i∧i<(n:Int):=⟨h0,h1⟩
  simp [execOp,Zu ag hx,Zu ag hy,Instr.indexAt,asIntOf,run_underlying ht,hc,hs,W1]
theorem Pu.ptrNil {op:BinOp}{t t' e:TypeId}{A:Option Addr}{z:Bool}(hop:op= .eql∧z=A.isNone∨op= .neq∧z=A.isSome)(hx:evp p x=some (.pointer A))(ht:P.underlying t=some (.pointer e)):Pu P p ⟨d,.binOp op t x (.const (.pointer none)) t',ty,pos,af,gd⟩ (.bool z):=
 fun tm w ag=>by
  have he:(Op.equal t (.pointer A) (.pointer none)).run P w= .ok A.isNone w:=Bi 9999 ht A w
  have hn:evA tm (.const (.pointer none))= .pointer none:=rfl
  rcases hop with ⟨rfl,rfl⟩|⟨rfl,rfl⟩<;>cases A<;>simp [execOp,Zu ag hx,hn,eqGuard,Go.binOp,he]
theorem O6 {t t' e:TypeId}{A:Option Addr}(hx:evp p x=some (.pointer A))(ht:P.underlying t=some (.pointer e)):Pu P p ⟨d,.binOp .eql t x (.const (.pointer none)) t',ty,pos,af,gd⟩ (.bool A.isNone):= .ptrNil (.inl ⟨rfl,rfl⟩) hx ht
theorem O4 {t t' e:TypeId}{A:Option Addr}(hx:evp p x=some (.pointer A))(ht:P.underlying t=some (.pointer e)):Pu P p ⟨d,.binOp .neq t x (.const (.pointer none)) t',ty,pos,af,gd⟩ (.bool A.isSome):= .ptrNil (.inr ⟨rfl,rfl⟩) hx ht
theorem Pu.slcNil {op:BinOp}{t t' e:TypeId}{A:Option Addr}{n m:Nat}{z:Bool}(hop:op= .eql∧z=A.isNone∨op= .neq∧z=A.isSome)(hx:evp p x=some (.slice A n m))(ht:P.underlying t=some (.slice e)):Pu P p ⟨d,.binOp op t x (.const (.slice none 0 0)) t',ty,pos,af,gd⟩ (.bool z):=
 fun tm w ag=>by
  have he:(Op.equal t (.slice A n m) (.slice none 0 0)).run P w= .ok A.isNone w:=Tf 9999 ht A n m w
  have hn:evA tm (.const (.slice none 0 0))= .slice none 0 0:=rfl
  rcases hop with ⟨rfl,rfl⟩|⟨rfl,rfl⟩<;>cases A<;>simp [execOp,Zu ag hx,hn,eqGuard,Go.binOp,he]
theorem Lx {t t' e:TypeId}{A:Option Addr}{n m:Nat}(hx:evp p x=some (.slice A n m))(ht:P.underlying t=some (.slice e)):Pu P p ⟨d,.binOp .eql t x (.const (.slice none 0 0)) t',ty,pos,af,gd⟩ (.bool A.isNone):= .slcNil (.inl ⟨rfl,rfl⟩) hx ht
theorem Lw {t t' e:TypeId}{A:Option Addr}{n m:Nat}(hx:evp p x=some (.slice A n m))(ht:P.underlying t=some (.slice e)):Pu P p ⟨d,.binOp .neq t x (.const (.slice none 0 0)) t',ty,pos,af,gd⟩ (.bool A.isSome):= .slcNil (.inr ⟨rfl,rfl⟩) hx ht
theorem Pu.boolCmp {op:BinOp}{t t':TypeId}{z z' r:Bool}(hop:op= .eql∧r=(z==z')∨op= .neq∧r=(z !=z'))(hx:evp p x=some (.bool z))(hy:evp p y=some (.bool z'))(ht:P.underlying t=some .bool):Pu P p ⟨d,.binOp op t x y t',ty,pos,af,gd⟩ (.bool r):=
 fun tm w ag=>by
  have he:(Op.equal t (.bool z) (.bool z')).run P w= .ok (z==z') w:=Fw 9999 ht z z' w
  rcases hop with ⟨rfl,rfl⟩|⟨rfl,rfl⟩<;>simp [execOp,Zu ag hx,Zu ag hy,eqGuard,Go.binOp,he,bne]
theorem Pu.eqlB {t t':TypeId}{z z':Bool}(hx:evp p x=some (.bool z))(hy:evp p y=some (.bool z'))(ht:P.underlying t=some .bool):Pu P p ⟨d,.binOp .eql t x y t',ty,pos,af,gd⟩ (.bool (z==z')):= .boolCmp (.inl ⟨rfl,rfl⟩) hx hy ht
theorem Pu.neqB {t t':TypeId}{z z':Bool}(hx:evp p x=some (.bool z))(hy:evp p y=some (.bool z'))(ht:P.underlying t=some .bool):Pu P p ⟨d,.binOp .neq t x y t',ty,pos,af,gd⟩ (.bool (z !=z')):= .boolCmp (.inr ⟨rfl,rfl⟩) hx hy ht
theorem Has.cell {w:World}{b o:Nat}{l:List Value}{t:TypeId}{fz:Nat×Nat}(h:Has q b (.cells l.toArray t fz))(s:St G w q)(hv:nth l o=some v):w.cell? ⟨b,o,none⟩=some v:=by
 have:=s.has h
 rw [Ve] at hv
 simp [World.cell?,this,hv]
def Cl (q:List HP)(A:Addr)(v:Value):Prop:= ∀ G w,St G w q→w.cell? A=some v
theorem Cl.of {b o:Nat}{l:List Value}{t:TypeId}{fz:Nat×Nat}(h:Has q b (.cells l.toArray t fz))(hv:nth l o=some v):Cl q ⟨b,o,none⟩ v:=fun _ _ s=>h.cell s hv
theorem Rd.load {t:TypeId}{A:Addr}(hx:evp p x=some (.pointer (some A)))(ht: ∀ w,(isAgg t).run P w= .ok false w)(hc:Cl q A v):Rd P G p q ⟨d,.load t x,ty,pos,af,gd⟩ v:=
 fun tm w ag s=>by simp [execOp,Zu ag hx,Instr.loadAt,Instr.sureAddr,loadVar,ht,hc G w s]
theorem Rd.loadA {t:TypeId}{b o:Nat}{l:List Value}{t':TypeId}{fz:Nat×Nat}{sz:Nat}(hx:evp p x=some (.pointer (some ⟨b,o,none⟩)))(ht: ∀ w,(isAgg t).run P w= .ok true w)(hs: ∀ w,(Go.sizeOf t).run P w= .ok sz w)
 (hh:Has q b (.cells l.toArray t' fz)) (hv:Nat.ble (o+sz) l.length=true):Rd P G p q ⟨d,.load t x,ty,pos,af,gd⟩ (.agg (Wx.sub l o sz).toArray):=
 fun tm w ag s=>by
  have hb:=s.has hh
  have hv':o+sz≤l.length:=by simpa using hv
  have hl:(Wx.sub l o sz).length=sz:=by simp [Wx.sub];omega
  have hc:=run_loadCells_list (P:=P) w ⟨b,o,none⟩ (Wx.sub l o sz) (fun j u hj=>by
   rw [W1]
   simp only [World.cell?,hb]
   simp only [Wx.sub,List.getElem?_take,List.getElem?_drop] at hj
   split at hj
   · simpa using hj
   cases hj)
  rw [hl] at hc
  simp [execOp,Zu ag hx,Instr.loadAt,Instr.sureAddr,loadVar,ht,hs,hc]
theorem Ef.store {t:TypeId}{b o:Nat}{l:List Value}{t':TypeId}{r:List HP}(hx:evp p x=some (.pointer (some ⟨b,o,none⟩)))(hy:evp p y=some v)(hs: ∀ w,(Go.sizeOf t).run P w= .ok 1 w)
 (hv:v.cells= #[v]) (h1:v.oneCell'=true) (hq:Le q (pto b (.cells l.toArray t' (0,0))::r)) (ho:Nat.blt o l.length=true):
 Ef P G p q ⟨d,.store t x y,ty,pos,af,gd⟩ fun z q'=>z=undef∧q'=pto b (.cells (Nb l o v).toArray t' (0,0))::r:=
 fun tm w ag s=>by
  have s':=s.le hq
  have hb:=s'.has (Has.pto _ _ _)
  have ho':o<l.length:=by simpa [Nat.blt_eq] using ho
  have hc:w.cell? ⟨b,o,none⟩=some (l[o]):=by simp [World.cell?,hb,ho']
  have hf:w.frozen? ⟨b,o,none⟩=false:=by simp [World.frozen?,hb]
  refine ⟨undef,w.setCell ⟨b,o,none⟩ v,pto b (.cells (Nb l o v).toArray t' (0,0))::r,.inr ⟨rfl,?_⟩,?_,rfl,rfl⟩
  · have e1:=Zu ag hx
    have e2:=Zu ag hy
    have hst:(Go.store ⟨b,o,none⟩ v).run P w= .ok () (w.setCell ⟨b,o,none⟩ v):=by
     cases v<;>first|(simp [Value.oneCell'] at h1;done)|simp [Go.store,Sem.run,hc,hf]
    simp [execOp,e1,e2,Instr.storeAt,Instr.sureAddr,storeVar,hs,hv,storeCells,W1,hst]
  rw [Ny]
  refine s'.put ?_ ?_ ?_ rfl rfl rfl
  · rw [setCell_eq_setRow w b o l.toArray t' (0,0) v hb]
    simpa using setRow_heap w b l.toArray (l.toArray.setIfInBounds o v) t' (0,0) hb
  · intro j hj
    rw [setCell_eq_setRow w b o l.toArray t' (0,0) v hb]
    exact setRow_other w b j _ hj
  simp [World.setCell]
theorem Ef.box {t:TypeId}(hx:evp p x=some v):Ef P G p q ⟨d,.box t x,ty,pos,af,gd⟩ fun z q'=> ∃ n,z= .pointer (some ⟨n,0,none⟩)∧q'=pto n (.cells v.cells t (0,0))::q:=
 fun tm w ag s=>⟨_,w.alloc (.cells v.cells t),_,.inl (by simp [execOp,Zu ag hx,Instr.box,newVar,newRow]),s.new rfl rfl rfl rfl,_,rfl,rfl⟩
theorem Ef.alloc {t:TypeId}{z:Value}(hz: ∀ w,(zeroValue t).run P w= .ok z w):Ef P G p q ⟨d,.alloc t,ty,pos,af,gd⟩ fun r q'=> ∃ n,r= .pointer (some ⟨n,0,none⟩)∧q'=pto n (.cells z.cells t (0,0))::q:=
 fun tm w ag s=>⟨_,w.alloc (.cells z.cells t),_,.inl (by simp [execOp,Instr.alloc,hz,newVar,newRow]),s.new rfl rfl rfl rfl,_,rfl,rfl⟩
theorem Ef.makeMap {t:TypeId}:Ef P G p q ⟨d,.makeMap t none,ty,pos,af,gd⟩ fun r q'=> ∃ n,r= .map (some n)∧q'=pto n (.map #[] 0)::q:=
 fun tm w ag s=>⟨_,w.alloc (.map #[] 0),_,.inl (by simp [execOp,Instr.makeMap]),s.new rfl rfl rfl rfl,_,rfl,rfl⟩
end facts
section ops
variable {P:Program}{G:World}{f:Fc}{Q:Yr}{ops:List Oper}{k:List Item}{p:PE}{ds:List Deferred}{cs:List Frame}{q:List HP}{rest:List Oper}{o:Oper}{v:Value}
theorem XO.rd_ (h:Rd P G p q o v)(K:XO P G f Q ops.toArray k rest (Up p o.dst v) ds cs q)(hw:Wt ops p o=some true:=by rfl)(hd:dOk f.n o.dst=true:=by rfl)(hdf: ∀ c,o.op≠ .defer c:=by intro _ h;cases h):
 XO P G f Q ops.toArray k (o::rest) p ds cs q:= .run hw hd (fun tm w _ ag s=> .inl (h tm w ag s)) K hdf
theorem XO.pu_ (h:Pu P p o v)(K:XO P G f Q ops.toArray k rest (Up p o.dst v) ds cs q)(hw:Wt ops p o=some true:=by rfl)(hd:dOk f.n o.dst=true:=by rfl)(hdf: ∀ c,o.op≠ .defer c:=by intro _ h;cases h):
 XO P G f Q ops.toArray k (o::rest) p ds cs q:= .rd_ h.rd K hw hd hdf
theorem XO.ef_ {R:Value→List HP→Prop}(h:Ef P G p q o R)(K: ∀ v q',R v q'→XO P G f Q ops.toArray k rest (Up p o.dst v) ds cs q')(hw:Wt ops p o=some true:=by rfl)(hd:dOk f.n o.dst=true:=by rfl)(hdf: ∀ c,o.op≠ .defer c:=by intro _ h;cases h):
 XO P G f Q ops.toArray k (o::rest) p ds cs q:=
 .eff hw hd (fun tm w _ ag s=>let ⟨v,w',q',hr,s',hR⟩:=h tm w ag s;⟨v,w',q',hr,s',K v q' hR⟩) hdf
section
variable {d:Tmp}{op:Op}{ty:TypeId}{pos:String}{af:Array Edge}{gd:Option (Nat×Bool)}
theorem XO.rd (h:Rd P G p q ⟨some d,op,ty,pos,af,gd⟩ v)(K:XO P G f Q ops.toArray k rest ((d,v)::p) ds cs q)(hw:Wt ops p ⟨some d,op,ty,pos,af,gd⟩=some true:=by rfl)(hd:Nat.blt d f.n=true:=by rfl)(hdf: ∀ c,op≠ .defer c:=by intro _ h;cases h):
 XO P G f Q ops.toArray k (⟨some d,op,ty,pos,af,gd⟩::rest) p ds cs q:= .rd_ h K hw hd hdf
theorem Zt (h:Pu P p ⟨some d,op,ty,pos,af,gd⟩ v)(K:XO P G f Q ops.toArray k rest ((d,v)::p) ds cs q)(hw:Wt ops p ⟨some d,op,ty,pos,af,gd⟩=some true:=by rfl)(hd:Nat.blt d f.n=true:=by rfl)(hdf: ∀ c,op≠ .defer c:=by intro _ h;cases h):
 XO P G f Q ops.toArray k (⟨some d,op,ty,pos,af,gd⟩::rest) p ds cs q:= .rd_ h.rd K hw hd hdf
theorem XO.ef {R:Value→List HP→Prop}(h:Ef P G p q ⟨some d,op,ty,pos,af,gd⟩ R)(K: ∀ v q',R v q'→XO P G f Q ops.toArray k rest ((d,v)::p) ds cs q')(hw:Wt ops p ⟨some d,op,ty,pos,af,gd⟩=some true:=by rfl)(hd:Nat.blt d f.n=true:=by rfl)(hdf: ∀ c,op≠ .defer c:=by intro _ h;cases h):
 XO P G f Q ops.toArray k (⟨some d,op,ty,pos,af,gd⟩::rest) p ds cs q:= .ef_ h K hw hd hdf
theorem XO.ef0 {R:Value→List HP→Prop}(h:Ef P G p q ⟨none,op,ty,pos,af,gd⟩ R)(K: ∀ v q',R v q'→XO P G f Q ops.toArray k rest p ds cs q')(hw:Wt ops p ⟨none,op,ty,pos,af,gd⟩=some true:=by rfl)(hdf: ∀ c,op≠ .defer c:=by intro _ h;cases h):
 XO P G f Q ops.toArray k (⟨none,op,ty,pos,af,gd⟩::rest) p ds cs q:= .ef_ h K hw rfl hdf
end
theorem XO.pn (h:Pn P G p q o v)(hQ:Q (.panic [{ v,recovered:=false }]) p ds cs q)(hw:Wt ops p o=some true:=by rfl)(hdf: ∀ c,o.op≠ .defer c:=by intro _ h;cases h):
 XO P G f Q ops.toArray k (o::rest) p ds cs q:= .panics hw (fun tm w _ ag s=>h tm w ag s) hQ hdf
theorem XO.part {l:List Oper}(s:Nat){t:Bool}(h:lkp p s=some (.bool t))(ht:t=true→XO P G f Q ops.toArray k l ((s,.bool true)::p) ds cs q)
 (hf:t=false→XO P G f Q ops.toArray k l ((s,.bool false)::p) ds cs q):XO P G f Q ops.toArray k l p ds cs q:=by
 have key: ∀ t' tm,lkp p s=some (.bool t')→Agr tm p→Agr tm ((s,.bool t')::p):=by
  intro t' tm e ag j u hj
  refine ag j u ?_
  simp only [lkp] at hj
  cases hb:Nat.beq s j with
  |true=>rw [hb] at hj;have:=Nat.eq_of_beq_eq_true hb;subst this;rw [e];simpa using hj
  |false=>rw [hb] at hj;simpa using hj
 cases t with
 |true=>exact fun is e tm w n ag st=>ht rfl is e tm w n (key true tm h ag) st
 |false=>exact fun is e tm w n ag st=>hf rfl is e tm w n (key false tm h ag) st
theorem XO.know {l:List Oper}(s:Nat){v:Value}(u:Value)(h:lkp p s=some v)(e:v=u)(K:XO P G f Q ops.toArray k l ((s,u)::p) ds cs q):XO P G f Q ops.toArray k l p ds cs q:=by
 subst e
 refine fun is e tm w n ag st=>K is e tm w n (fun j u' hj=>ag j u' ?_) st
 simp only [lkp] at hj
 cases hb:Nat.beq s j with
 |true=>rw [hb] at hj;have:=Nat.eq_of_beq_eq_true hb;subst this;rw [h];simpa using hj
 |false=>rw [hb] at hj;simpa using hj
def Ret (R:Value→List HP→Prop):Ug:=fun e q=> ∃ v,e= .returned v∧R v q
theorem XO.call_ {d:Option Tmp}{fo:Operand}{args:List Operand}{ats:Array TypeId}{ty:TypeId}{pos:String}{af:Array Edge}{gd:Option (Nat×Bool)}
 {fv:Value} {vs:List Value} {pre F:List HP} {R:Value→List HP→Prop}
 (hf:evp p fo=some fv) (hv:evl p args=some vs) (hc:CallV P G fv vs pre (Ret R)) (hq:Le q (pre++F))
 (x: ∀ v q',R v q'→ ∀ q'',q''=q'++F→XO P G f Q ops.toArray k rest (Up p d v) ds cs q'')
 (hw:Wt ops p ⟨d,.call ⟨.value fo,args.toArray,ats⟩,ty,pos,af,gd⟩=some true:=by rfl) (hd:dOk f.n d=true:=by rfl):
 XO P G f Q ops.toArray k (⟨d,.call ⟨.value fo,args.toArray,ats⟩,ty,pos,af,gd⟩::rest) p ds cs q:=
 .callE hw hd hf hv hc hq (fun v q' ⟨_,h,r⟩=>by cases h;exact x v q' r _ rfl) (fun ch q' ⟨_,h,_⟩=>by cases h)
theorem XO.callF_ {d:Option Tmp}{fn:FuncId}{args:List Operand}{ats:Array TypeId}{ty:TypeId}{pos:String}{af:Array Edge}{gd:Option (Nat×Bool)}
 {vs:List Value} {pre F:List HP} {R:Value→List HP→Prop} (hcf: ∀ args w,(callFunc fn args).run P w= .ok (.enter fn args) w)
 (hc:CallF P G fn vs pre (Ret R)) (hv:evl p args=some vs) (hq:Le q (pre++F))
 (x: ∀ v q',R v q'→ ∀ q'',q''=q'++F→XO P G f Q ops.toArray k rest (Up p d v) ds cs q'')
 (hw:Wt ops p ⟨d,.call ⟨.value (.func fn),args.toArray,ats⟩,ty,pos,af,gd⟩=some true:=by rfl) (hd:dOk f.n d=true:=by rfl):
 XO P G f Q ops.toArray k (⟨d,.call ⟨.value (.func fn),args.toArray,ats⟩,ty,pos,af,gd⟩::rest) p ds cs q:=
 .call_ (fv:= .func (.func fn) #[] #[]) rfl hv (Vv (a:= []) (b:= []) hcf (by simpa using hc)) hq x hw hd
theorem XO.call {d:Tmp}{fo:Operand}{args:List Operand}{ats:Array TypeId}{ty:TypeId}{pos:String}{af:Array Edge}{gd:Option (Nat×Bool)}
 {fv:Value} {vs:List Value} {pre F:List HP} {R:Value→List HP→Prop}
 (hf:evp p fo=some fv) (hv:evl p args=some vs) (hc:CallV P G fv vs pre (Ret R)) (hq:Le q (pre++F))
 (x: ∀ v q',R v q'→ ∀ q'',q''=q'++F→XO P G f Q ops.toArray k rest ((d,v)::p) ds cs q'')
 (hw:Wt ops p ⟨some d,.call ⟨.value fo,args.toArray,ats⟩,ty,pos,af,gd⟩=some true:=by rfl) (hd:Nat.blt d f.n=true:=by rfl):
 XO P G f Q ops.toArray k (⟨some d,.call ⟨.value fo,args.toArray,ats⟩,ty,pos,af,gd⟩::rest) p ds cs q:= .call_ hf hv hc hq x hw hd
theorem XO.callF {d:Tmp}{fn:FuncId}{args:List Operand}{ats:Array TypeId}{ty:TypeId}{pos:String}{af:Array Edge}{gd:Option (Nat×Bool)}
 {vs:List Value} {pre F:List HP} {R:Value→List HP→Prop} (hcf: ∀ args w,(callFunc fn args).run P w= .ok (.enter fn args) w)
 (hc:CallF P G fn vs pre (Ret R)) (hv:evl p args=some vs) (hq:Le q (pre++F))
 (x: ∀ v q',R v q'→ ∀ q'',q''=q'++F→XO P G f Q ops.toArray k rest ((d,v)::p) ds cs q'')
 (hw:Wt ops p ⟨some d,.call ⟨.value (.func fn),args.toArray,ats⟩,ty,pos,af,gd⟩=some true:=by rfl) (hd:Nat.blt d f.n=true:=by rfl):
 XO P G f Q ops.toArray k (⟨some d,.call ⟨.value (.func fn),args.toArray,ats⟩,ty,pos,af,gd⟩::rest) p ds cs q:= .callF_ hcf hc hv hq x hw hd
end ops
def E4:Nat→List Value→PE
 |_, []=> []
 |i,v::r=>(i,v)::E4 (i+1) r
theorem lkp_penv (vs:List Value)(i t:Nat)(v:Value)(h:lkp (E4 i vs) t=some v):i≤t∧vs[t - i]? =some v:=by
 induction vs generalizing i with
 |nil=>simp [E4,lkp] at h
 |cons u r ih=>
  simp only [E4,lkp] at h
  cases hb:Nat.beq i t with
  |true=>rw [hb] at h;have:=Nat.eq_of_beq_eq_true hb;subst this;simpa using h
  |false=>
   rw [hb] at h
   have hne:i≠t:=Nat.ne_of_beq_eq_false hb
   obtain ⟨h1,h2⟩:=ih (i+1) (by simpa using h)
   refine ⟨by omega,?_⟩
   have:t - i=(t - (i+1))+1:=by omega
   rw [this];simpa using h2
theorem Cf (vs:List Value)(m:Nat):Agr (vs.toArray++Array.replicate m undef) (E4 0 vs):=by
 intro t v h
 obtain ⟨_,h2⟩:=lkp_penv vs 0 t v h
 have hlt:t<vs.length:=by
  rcases Nat.lt_or_ge t vs.length with h|h
  · exact h
  simp [List.getElem?_eq_none h] at h2
 simp [Array.getElem?_append,hlt] at h2⊢
 simpa using h2
def Lv (P:Program)(G:World)(fn:FuncId)(R:Ug)(F:List HP)(ds:List Deferred)(u:FrameMode)(p:PE)(q:List HP):Prop:=
 ∀ tm w fr cs,fr.fn=fn→fr.tmps=tm→fr.defers=ds→fr.mode=u→fr.kind= .normal→Agr tm p→St G w q→
  ∃ e w' fr' q',R e q'∧e≠ .outgrown∧St G w' (q'++F)∧Steps P (lone fr cs w) (lone fr' cs w')∧fr'.fn=fn∧fr'.leaving P w' e
def FQ (P:Program)(G:World)(fn:FuncId)(cs₀:List Frame)(R:Ug)(F:List HP):Yr:=fun o p ds cs q=>cs=cs₀∧match o with
 | .fall| .jump .ret=>Lv P G fn R F ds .returning p q
 | .panic ch=>Lv P G fn R F ds (.panicking ch) p q
 |_=>False
theorem CallF.of {P:Program}{G:World}{fn:FuncId}{fd:Func}{c:Code}{n:Nat}{vs:List Value}{pre:List HP}{R:Ug}(hf:P.funcs[fn]? =some fd)(hn:fd.ntmps=n)(hb:fd.body=some c)
 (h: ∀ F cs,X P G ⟨fn,n,.normal,none⟩ (FQ P G fn cs R F) [.code c] (E4 0 vs) [] cs (pre++F)) (hl:Nat.ble vs.length n=true:=by rfl):CallF P G fn vs pre R:=by
 intro F w s cs
 subst hn
 have hl':vs.length≤fd.ntmps:=by simpa using hl
 obtain ⟨o,tm',p',ds',cs',w',q',⟨rfl,hQ⟩,hn',ha,hs,arr⟩:=h F cs (vs.toArray++Array.replicate (fd.ntmps - vs.length) undef) w (by simp;omega) (Cf vs _) s
 have henter:Frame.enter P fn vs.toArray .normal=Fc.fr ⟨fn,fd.ntmps,.normal,none⟩ (vs.toArray++Array.replicate (fd.ntmps - vs.length) undef) [] [.code c]:=by
  simp [Frame.enter,Fc.fr,hf,hb]
 rw [←henter] at arr
 cases o with
 |fall=>
  obtain ⟨e,w'',fr',q'',hR,hne,hs',hst,hfn,hl⟩:=hQ tm' w' { Fc.fr ⟨fn,fd.ntmps,.normal,none⟩ tm' ds' [] with mode:= .returning } cs' rfl rfl rfl rfl rfl ha hs
  refine ⟨e,w'',fr',⟨hne,q'',hR,hs'⟩,?_,hfn,hl⟩
  have h1:step P (lone (Fc.fr ⟨fn,fd.ntmps,.normal,none⟩ tm' ds' []) cs' w')= .next (lone { Fc.fr ⟨fn,fd.ntmps,.normal,none⟩ tm' ds' [] with mode:= .returning } cs' w'):=
   step_lone_go (by simp [stepG,stepG.exec,Fc.fr])
  have hall:=(arr.trans (.one h1)).trans hst
  cases e<;>first|exact hall|exact absurd rfl hne
 |jump c'=>
  obtain ⟨k,g,arr⟩:=arr
  cases c' with
  |ret=>
   obtain ⟨e,w'',fr',q'',hR,hne,hs',hst,hfn,hl⟩:=hQ tm' w' { Fc.fr ⟨fn,fd.ntmps,.normal,none⟩ tm' ds' (.code .ret::k) with mode:= .returning } cs' rfl rfl rfl rfl rfl ha hs
   refine ⟨e,w'',fr',⟨hne,q'',hR,hs'⟩,?_,hfn,hl⟩
   have h1:step P (lone (Fc.fr ⟨fn,fd.ntmps,.normal,none⟩ tm' ds' (.code .ret::k)) cs' w')= .next (lone { Fc.fr ⟨fn,fd.ntmps,.normal,none⟩ tm' ds' (.code .ret::k) with mode:= .returning } cs' w'):=
    step_lone_go (by simp [stepG,stepG.exec,Fc.fr])
   have hall:=(arr.trans (.one h1)).trans hst
   cases e<;>first|exact hall|exact absurd rfl hne
  |_=>exact hQ.elim
 |panic ch=>
  obtain ⟨k,arr⟩:=arr
  obtain ⟨e,w'',fr',q'',hR,hne,hs',hst,hfn,hl⟩:=hQ tm' w' { Fc.fr ⟨fn,fd.ntmps,.normal,none⟩ tm' ds' k with mode:= .panicking ch } cs' rfl rfl rfl rfl rfl ha hs
  refine ⟨e,w'',fr',⟨hne,q'',hR,hs'⟩,?_,hfn,hl⟩
  have hall:=arr.trans hst
  cases e<;>first|exact hall|exact absurd rfl hne
theorem Lv.ret {P:Program}{G:World}{fn:FuncId}{fd:Func}{R:Ug}{F:List HP}{p:PE}{q q':List HP}{v:Value}(hf:P.funcs[fn]? =some fd)
 (hr: ∀ tm w,Agr tm p→St G w q→(results fd tm).run P w= .ok v w) (h:R (.returned v) q') (hq:Le q (q'++F)):Lv P G fn R F [] .returning p q:=
 fun tm w fr cs h1 h2 h3 h4 h5 ag s=>⟨.returned v,w,fr,q',h,by simp,s.le hq,.refl P _,h1,h4,h3,h5,fd,by rw [h1];exact hf,by rw [h2];exact hr tm w ag s⟩
theorem Lv.panic {P:Program}{G:World}{fn:FuncId}{fd:Func}{R:Ug}{F:List HP}{p:PE}{q q':List HP}{ch:List PanicEntry}(hf:P.funcs[fn]? =some fd)
 (h:R (.panicked ch) q') (hq:Le q (q'++F)):Lv P G fn R F [] (.panicking ch) p q:=
 fun tm w fr cs h1 h2 h3 h4 h5 ag s=>⟨.panicked ch,w,fr,q',h,by simp,s.le hq,.refl P _,h1,h4,h3,fd,by rw [h1];exact hf⟩
theorem Vg {P:Program}{fd:Func}(h:fd.results= #[]){p:PE}{G:World}{q:List HP}(tm:Array Value)(w:World)(_:Agr tm p)(_:St G w q):(results fd tm).run P w= .ok (.tuple #[]) w:=results_none h _ _ _
theorem Zg {P:Program}{fd:Func}{t:Tmp}(h:fd.results= #[.tmp t]){p:PE}{v:Value}(hp:lkp p t=some v){G:World}{q:List HP}(tm:Array Value)(w:World)(ag:Agr tm p)(_:St G w q):
 (results fd tm).run P w= .ok v w:=by rw [results_tmp h];rw [ag _ _ hp]
theorem Wc {P:Program}{fd:Func}{t t':Tmp}(h:fd.results= #[.tmp t,.tmp t']){p:PE}{v v':Value}(hp:lkp p t=some v)(hp':lkp p t'=some v'){G:World}{q:List HP}(tm:Array Value)(w:World)(ag:Agr tm p)(_:St G w q):
 (results fd tm).run P w= .ok (.tuple #[v,v']) w:=by rw [results_tmp2 h];rw [ag _ _ hp,ag _ _ hp']
theorem I1 {P:Program}{fd:Func}{t t' t'':Tmp}(h:fd.results= #[.tmp t,.tmp t',.tmp t'']){p:PE}{v v' v'':Value}(hp:lkp p t=some v)(hp':lkp p t'=some v')(hp'':lkp p t''=some v''){G:World}{q:List HP}(tm:Array Value)(w:World)(ag:Agr tm p)(_:St G w q):
 (results fd tm).run P w= .ok (.tuple #[v,v',v'']) w:=by
 have h1:=ag _ _ hp;have h2:=ag _ _ hp';have h3:=ag _ _ hp''
 simp [results,h];exact ⟨by simpa using h1,by simpa using h2,by simpa using h3⟩
end Wx
namespace Wx
open Go Go.RowKit
def I5 (done:List Nat)(o:Oper):Bool:=o.after.toList.all fun e=> !Region.binds .any e||done.contains e.on
def rdy (ops:List Oper)(done:List Nat)(j:Nat):Bool:= !done.contains j && match ops[j]? with|some o=>I5 done o|none=>false
def Bf (ops:List Oper)(o:Oper):List Tmp:=
 (o.op.operands.toList.filterMap fun| .tmp t=>some t|_=>none)++(match o.guard with|some (j,_)=>((ops[j]?).bind (·.dst)).toList|none=> [])
def B1 (ops:List Oper)(x y:Oper):Bool:=
 (match x.dst with|some d=> !(Bf ops y).contains d && y.dst !=some d|none=>true) && (match y.dst with|some d=> !(Bf ops x).contains d|none=>true)
def onB (o:Oper)(i:Nat):Bool:=o.after.toList.any fun e=>Region.binds .any e && e.on==i
def okR (ops:List Oper):Bool:=
 (ops.zipIdx.all fun (x,i)=>ops.zipIdx.all fun (y,j)=>i==j||onB x j||onB y i||B1 ops x y) &&
 ops.all fun o=>match o.op with| .select .. =>false| .defer _=>false|_=>true
def Tx (ops:List Oper)(pk:PE):Bool:=ops.all fun o=>match o.dst with|some d=>pk.all fun e=> !(e.1==d)|none=>true
def OW (P:Program)(ops:List Oper)(o:Oper)(tm:Array Value)(w:World)(K:Array Value→World→Prop)(Kp:List PanicEntry→Array Value→World→Prop):Prop:=
 if Region.wanted o (yielded ops.toArray tm)=true then
  Ap P (execOp (evA tm) o) w fun e w'=>match e with| .returned v=>K (Ww tm o.dst v) w'| .panicked ch=>Kp ch tm w'| .outgrown=>False
 else K (Ww tm o.dst undef) w
theorem Ap.mono {P:Program}{s:Sem Next}{w:World}{R R':Ending→World→Prop}(h:Ap P s w R)(hr: ∀ e w',e≠ .outgrown→R e w'→R' e w'):Ap P s w R':=
 fun fr cs hm ho=>let ⟨e,w',r,hne,rest⟩:=h fr cs hm ho;⟨e,w',hr _ _ hne r,hne,rest⟩
theorem OW.mono {P:Program}{ops:List Oper}{o:Oper}{tm:Array Value}{w:World}{K K':Array Value→World→Prop}{Kp:List PanicEntry→Array Value→World→Prop}
 (h:OW P ops o tm w K Kp) (hk: ∀ t w',K t w'→K' t w'):OW P ops o tm w K' Kp:=by
 unfold OW at*
 split
 · rename_i hw;rw [if_pos hw] at h
   exact h.mono fun e w' _ r=>by cases e<;>first|exact hk _ _ r|exact r
 rename_i hw;rw [if_neg hw] at h;exact hk _ _ h
abbrev Rds:=List (Nat×Nat×Nat×Value)
def SL (L:Rds)(w:World):Prop:= ∀ e∈L,w.cell? ⟨e.2.1,e.2.2.1,none⟩=some e.2.2.2
def cut (o:Oper):Rds→Rds
 | []=> []
 |e::r=>bif onB o e.1 then cut o r else e::cut o r
theorem V7 {o:Oper}{L:Rds}{e:Nat×Nat×Nat×Value}:e∈cut o L↔e∈L∧onB o e.1=false:=by
 induction L with
 |nil=>simp [cut]
 |cons x r ih=>
  unfold cut
  cases hx:onB o x.1 with
  |true=>
   simp only [cond_true,ih,List.mem_cons]
   constructor
   · rintro ⟨h,k⟩;exact ⟨.inr h,k⟩
   rintro ⟨h|h,k⟩
   · subst h;rw [hx] at k;cases k
   exact ⟨h,k⟩
  |false=>
   simp only [cond_false,List.mem_cons,ih]
   constructor
   · rintro (h|⟨h,k⟩)
     · subst h;exact ⟨.inl rfl,hx⟩
     exact ⟨.inr h,k⟩
   rintro ⟨h|h,k⟩
   · exact .inl h
   exact .inr ⟨h,k⟩
def WA (P:Program)(ops:List Oper)(Kend:Array Value→World→Prop)(Kp:List PanicEntry→Array Value→World→Prop):Nat→Rds→List Nat→Array Value→World→Prop
 |0,_,done,tm,w=>(∀ j,rdy ops done j=false)∧Kend tm w
 |n+1,L,done,tm,w=>((∀ j,rdy ops done j=false)→Kend tm w)∧
  ∀ j o,ops[j]? =some o→rdy ops done j=true→OW P ops o tm w (fun tm' w'=>SL (cut o L) w'∧WA P ops Kend Kp n (cut o L) (j::done) tm' w') Kp
section
variable {P:Program}{ops:List Oper}{Kend:Array Value→World→Prop}{Kp:List PanicEntry→Array Value→World→Prop}
theorem SL.mono {L L':Rds}{w:World}(hs: ∀ e∈L',e∈L)(h:SL L w):SL L' w:=fun e he=>h e (hs e he)
theorem Cj {L L':Rds}(o:Oper)(hs: ∀ e∈L',e∈L): ∀ e∈cut o L',e∈cut o L:=fun e he=>by
 rw [V7] at he⊢;exact ⟨hs e he.1,he.2⟩
theorem WA.mono: ∀ n {L L':Rds} {done tm w},(∀ e∈L',e∈L)→WA P ops Kend Kp n L done tm w→WA P ops Kend Kp n L' done tm w:=by
 intro n
 induction n with
 |zero=>exact fun _ h=>h
 |succ n ih=>exact fun hs ⟨h0,h⟩=>⟨h0,fun j o ho hr=>(h j o ho hr).mono fun t w' ⟨a,b⟩=>⟨a.mono (Cj o hs),ih (Cj o hs) b⟩⟩
theorem Tw {done done':List Nat}(h: ∀ j,j∈done↔j∈done')(j:Nat):rdy ops done j=rdy ops done' j:=by
 have hc: ∀ x,done.contains x=done'.contains x:=fun x=>by
  rw [Bool.eq_iff_iff];simp [h x]
 unfold rdy I5
 simp only [hc]
theorem WA.congr: ∀ n {L:Rds} {done done':List Nat} {tm:Array Value} {w:World},(∀ j,j∈done↔j∈done')→WA P ops Kend Kp n L done tm w→WA P ops Kend Kp n L done' tm w:=by
 intro n
 induction n with
 |zero=>exact fun h ⟨a,b⟩=>⟨fun j=>by rw [←Tw h];exact a j,b⟩
 |succ n ih=>
  intro L done done' tm w h ⟨a,b⟩
  refine ⟨fun hn=>a fun j=>by rw [Tw h];exact hn j,fun j o ho hr=>(b j o ho (by rw [Tw h];exact hr)).mono fun t w' ⟨s,x⟩=>⟨s,ih (fun i=>by simp [h i]) x⟩⟩
theorem Ha {done:List Nat}{i j:Nat}(h:rdy ops done j=true)(hne:j≠i):rdy ops (i::done) j=true:=by
 unfold rdy at*
 simp only [Bool.and_eq_true,Bool.not_eq_true'] at h⊢
 refine ⟨by simpa [hne] using h.1,?_⟩
 cases ho:ops[j]? with
 |none=>rw [ho] at h;simp at h
 |some o=>
  rw [ho] at h
  have h2:=h.2
  simp only [I5,List.all_eq_true] at h2⊢
  intro e he
  have:=h2 e he
  simp only [Bool.or_eq_true] at this⊢
  rcases this with x|x
  · exact .inl x
  right;simp at x⊢;exact .inr x
theorem I7 (tm:Array Value){x y:Option Tmp}(v u:Value)(h: ∀ d,x=some d→y≠some d):Ww (Ww tm x v) y u=Ww (Ww tm y u) x v:=by
 cases x<;>cases y<;>simp only [Ww]
 rename_i a b
 have hne:a≠b:=fun e=>h a rfl (by rw [e])
 exact Array.setIfInBounds_comm v u hne
theorem evA_put {tm:Array Value}{x:Option Tmp}{v:Value}{y:Operand}(h: ∀ d,x=some d→y≠ .tmp d):evA (Ww tm x v) y=evA tm y:=by
 cases x with
 |none=>rfl
 |some d=>
  cases y with
  |tmp t=>
   have hne:d≠t:=fun e=>h d rfl (by rw [e])
   simp [evA,Ww,hne]
  |_=>rfl
theorem G9 {o:Oper}(hs: ∀ cs b,o.op≠ .select cs b){tm:Array Value}{x:Option Tmp}{v:Value}(h: ∀ d,x=some d→d∉Bf ops o):execOp (evA (Ww tm x v)) o=execOp (evA tm) o:=
 execOp_congr o hs fun y hy=>evA_put fun d hd e=>h d hd (by
  subst e
  exact List.mem_append_left _ (List.mem_filterMap.2 ⟨.tmp d,by simpa using hy,rfl⟩))
theorem Tp {o:Oper}{tm:Array Value}{x:Option Tmp}{v:Value}(h: ∀ d,x=some d→d∉Bf ops o):
 Region.wanted o (yielded ops.toArray (Ww tm x v))=Region.wanted o (yielded ops.toArray tm):=by
 cases x with
 |none=>rfl
 |some d=>
  unfold Region.wanted
  cases hg:o.guard with
  |none=>rfl
  |some g=>
   obtain ⟨j,want⟩:=g
   have hd:=h d rfl
   simp only [Bf,hg,List.mem_append,not_or] at hd
   dsimp only
   unfold yielded
   simp only [List.getElem?_toArray]
   cases hj:(ops[j]?).bind (·.dst) with
   |none=>simp
   |some e=>
    have hne:d≠e:=fun q=>by rw [hj] at hd;simp [q] at hd
    simp [Ww,Array.getElem?_setIfInBounds_ne hne]
def Yv (P:Program)(ops:List Oper)(S:World→Prop)(o:Oper)(v:Value)(tm:Array Value):Prop:=
 (Region.wanted o (yielded ops.toArray tm)=true∧ ∀ w,S w→(execOp (evA tm) o).run P w= .ok (.value v) w)∨(Region.wanted o (yielded ops.toArray tm)=false∧v=undef)
theorem Ap.value {s:Sem Next}{w:World}{v:Value}{R:Ending→World→Prop}(h:s.run P w= .ok (.value v) w)(hR:R (.returned v) w):Ap P s w R:=
 fun fr cs _ _=>⟨.returned v,w,hR,by simp,fr.finish v,cs,w,by simp [stepG.apply,h],.refl P _⟩
theorem OW.of_yv {o:Oper}{v:Value}{tm:Array Value}{w:World}{S:World→Prop}{K:Array Value→World→Prop}(hy:Yv P ops S o v tm)(hS:S w)(hK:K (Ww tm o.dst v) w):OW P ops o tm w K Kp:=by
 unfold OW
 rcases hy with ⟨hw,hr⟩|⟨hw,rfl⟩
 · rw [if_pos hw];exact Ap.value (hr w hS) hK
 rw [if_neg (by simp [hw])];exact hK
theorem Be {x y:Oper}(h:B1 ops x y=true):(∀ d,x.dst=some d→d∉Bf ops y∧y.dst≠some d)∧(∀ d,y.dst=some d→d∉Bf ops x):=by
 unfold B1 at h
 rw [Bool.and_eq_true] at h
 refine ⟨fun d hd=> ?_,fun d hd=> ?_⟩
 · have h1:=h.1;rw [hd] at h1;simp at h1;exact ⟨h1.1,h1.2⟩
 have h2:=h.2;rw [hd] at h2;simpa using h2
theorem Gn (hok:okR ops=true){i j:Nat}{x y:Oper}(hx:ops[i]? =some x)(hy:ops[j]? =some y)(hne:i≠j):onB x j=true∨onB y i=true∨B1 ops x y=true:=by
 unfold okR at hok
 rw [Bool.and_eq_true] at hok
 have h1:=List.all_eq_true.1 hok.1 (x,i) (List.mem_zipIdx_iff_getElem?.2 hx)
 have h2:=List.all_eq_true.1 h1 (y,j) (List.mem_zipIdx_iff_getElem?.2 hy)
 simp only [Bool.or_eq_true,beq_iff_eq] at h2
 rcases h2 with ((h|h)|h)|h
 · exact absurd h hne
 · exact .inl h
 · exact .inr (.inl h)
 exact .inr (.inr h)
theorem E6 (hok:okR ops=true){j:Nat}{y:Oper}(hy:ops[j]? =some y):(∀ cs b,y.op≠ .select cs b)∧(∀ c,y.op≠ .defer c):=by
 unfold okR at hok
 rw [Bool.and_eq_true] at hok
 have h1:=List.all_eq_true.1 hok.2 y (List.mem_of_getElem? hy)
 refine ⟨fun cs b e=> ?_,fun c e=> ?_⟩<;> · rw [e] at h1;simp at h1
theorem Bj {done:List Nat}{i j:Nat}{o:Oper}(ho:ops[i]? =some o)(hr:rdy ops done i=true)(hj:onB o j=true):j∈done:=by
 unfold rdy at hr
 rw [ho] at hr
 simp only [Bool.and_eq_true,I5,List.all_eq_true] at hr
 obtain ⟨e,he,hb⟩:=List.any_eq_true.1 hj
 simp only [Bool.and_eq_true,beq_iff_eq] at hb
 have:=hr.2 e he
 simp [hb.1] at this
 rw [←hb.2];exact this
theorem WA.first (hok:okR ops=true){i:Nat}{o:Oper}{v:Value}{Li:Rds}(ho:ops[i]? =some o)(hKp: ∀ ch tm w,Kp ch (Ww tm o.dst v) w→Kp ch tm w)(hLi: ∀ e∈Li,e.1=i):
 ∀ n L done tm w,(∀ e∈Li,e∈L)→rdy ops done i=true→Yv P ops (SL Li) o v tm→SL L w→WA P ops Kend Kp n L (i::done) (Ww tm o.dst v) w→WA P ops Kend Kp (n+1) L done tm w:=by
 intro n
 have same: ∀ {n L done tm w},(∀ e∈Li,e∈L)→Yv P ops (SL Li) o v tm→SL L w→WA P ops Kend Kp n L (i::done) (Ww tm o.dst v) w→
  OW P ops o tm w (fun tm' w'=>SL (cut o L) w'∧WA P ops Kend Kp n (cut o L) (i::done) tm' w') Kp:=fun hsub hy hS H=>
  OW.of_yv hy (hS.mono hsub) ⟨hS.mono fun e he=>(V7.1 he).1,H.mono _ fun e he=>(V7.1 he).1⟩
 induction n with
 |zero=>
  intro L done tm w hsub hr hy hS H
  refine ⟨fun hn=>absurd hr (by simp [hn i]),fun j oj hj hrj=> ?_⟩
  by_cases hji:j=i
  · subst hji
    rw [ho] at hj;cases hj
    exact same hsub hy hS H
  have:=Ha hrj hji
  rw [H.1 j] at this;cases this
 |succ n ih=>
  intro L done tm w hsub hr hy hS H
  refine ⟨fun hn=>absurd hr (by simp [hn i]),fun j oj hj hrj=> ?_⟩
  by_cases hji:j=i
  · subst hji
    rw [ho] at hj;cases hj
    exact same hsub hy hS H
  have hap:B1 ops o oj=true:=by
   rcases Gn hok ho hj (Ne.symm hji) with h|h|h
   · have:=Bj ho hr h
     unfold rdy at hrj;simp [this] at hrj
   · have:=Bj hj hrj h
     unfold rdy at hr;simp [this] at hr
   exact h
  obtain ⟨ha,hb⟩:=Be hap
  have Hj:=H.2 j oj hj (Ha hrj hji)
  have hsel:=E6 hok hj
  have hex:execOp (evA (Ww tm o.dst v)) oj=execOp (evA tm) oj:=G9 hsel.1 fun d hd=>(ha d hd).1
  have hwt:Region.wanted oj (yielded ops.toArray (Ww tm o.dst v))=Region.wanted oj (yielded ops.toArray tm):=Tp fun d hd=>(ha d hd).1
  have honb:onB oj i=false:=by
   cases hb:onB oj i with
   |false=>rfl
   |true=>have:=Bj hj hrj hb;unfold rdy at hr;simp [this] at hr
  have hsub': ∀ e∈Li,e∈cut oj L:=fun e he=>V7.2 ⟨hsub e he,by rw [hLi e he];exact honb⟩
  have step: ∀ u w',SL (cut oj L) w'∧WA P ops Kend Kp n (cut oj L) (j::i::done) (Ww (Ww tm o.dst v) oj.dst u) w'→SL (cut oj L) w'∧WA P ops Kend Kp (n+1) (cut oj L) (j::done) (Ww tm oj.dst u) w':=by
   rintro u w' ⟨hS',hx⟩
   refine ⟨hS',ih (cut oj L) (j::done) (Ww tm oj.dst u) w' hsub' (Ha hr (Ne.symm hji)) ?_ hS' ?_⟩
   · have hsel':=E6 hok ho
     unfold Yv at*
     rw [Tp (ops:=ops) (o:=o) fun d hd=>hb d hd,G9 (ops:=ops) hsel'.1 fun d hd=>hb d hd]
     exact hy
   rw [I7 _ _ _ (fun d hd e=>(ha d e).2 hd)]
   exact hx.congr n fun x=>by simp only [List.mem_cons];exact ⟨fun h=>by rcases h with h|h|h<;>simp [h],fun h=>by rcases h with h|h|h<;>simp [h]⟩
  unfold OW at Hj⊢
  rw [hwt,hex] at Hj
  split
  · rename_i hw
    rw [if_pos hw] at Hj
    refine Hj.mono fun e w' _ r=> ?_
    cases e with
    |returned u=>exact step u w' r
    |panicked ch=>exact hKp _ _ _ r
    |outgrown=>exact r
  rename_i hw
  rw [if_neg hw] at Hj
  exact step undef w Hj
end
section
variable {P:Program}{ops:List Oper}{Kend:Array Value→World→Prop}{Kp:List PanicEntry→Array Value→World→Prop}{f:Fc}{k:List Item}{ds:List Deferred}{cs:List Frame}
theorem OW.run {o:Oper}{i:Nat}{r:List Nat}{tm:Array Value}{w:World}{K:Array Value→World→Prop}(ho:ops[i]? =some o)(hdf: ∀ c,o.op≠ .defer c)(h:OW P ops o tm w K Kp):
 (∃ tm' w',K tm' w'∧tm'.size=tm.size∧Steps P (lone (f.fr tm ds (.inRegion ops.toArray (i::r)::k)) cs w) (lone (f.fr tm' ds (.inRegion ops.toArray r::k)) cs w'))∨
 (∃ ch w',Kp ch tm w'∧ ∃ k',Steps P (lone (f.fr tm ds (.inRegion ops.toArray (i::r)::k)) cs w) (lone { f.fr tm ds k' with mode:= .panicking ch } cs w')):=by
 have ho':ops.toArray[i]? =some o:=by simpa using ho
 unfold OW at h
 split at h
 · rename_i hw
   obtain ⟨e,w',hR,hne,fr₁,cs₁,w₁,hap,hst⟩:=h (f.fr tm ds (.inRegion ops.toArray (i::r)::k)) cs rfl trivial
   have hstep:step P (lone (f.fr tm ds (.inRegion ops.toArray (i::r)::k)) cs w)= .next (lone fr₁ cs₁ w₁):=by
    refine step_lone_go ?_
    rw [U0 f tm ds cs w _ i r k ho' hw hdf]
    exact hap
   cases e with
   |returned v=>
    refine .inl ⟨Ww tm o.dst v,w',hR,Yw _ _ _,?_⟩
    have:=(Steps.one hstep).trans hst
    rwa [L4,Vi f tm ds _ i r k v ho'] at this
   |panicked ch=>
    refine .inr ⟨ch,w',hR,.inRegion ops.toArray (i::r)::k,?_⟩
    have:=(Steps.one hstep).trans hst
    simpa [L4,Frame.raise,Fc.fr] using this
   |outgrown=>exact absurd rfl hne
 rename_i hw
 refine .inl ⟨Ww tm o.dst undef,w,h,Yw _ _ _,.one (step_lone_go ?_)⟩
 rw [←Vi f tm ds _ i r k undef ho']
 simp [stepG,stepG.exec,Fc.fr,ho',hw]
def Cor (ops:List Oper)(listed:Array Bool)(done:List Nat):Prop:=listed.size=ops.length∧ ∀ j,j<ops.length→listed[j]? =some (decide (j∈done))
theorem Cor.ready {listed:Array Bool}{done:List Nat}(hc:Cor ops listed done)(hd: ∀ o∈ops,∀ e∈o.after,Region.binds .any e=true→e.on<ops.length)(j:Nat):j∈Region.ready .any ops.toArray listed↔rdy ops done j=true:=by
 rw [mem_ready]
 unfold rdy I5
 by_cases hj:j<ops.length
 · have h1:=hc.2 j hj
   have ho:ops[j]? =some ops[j]:=by simp [hj]
   rw [ho]
   simp only [List.getElem?_toArray,ho,Option.some.injEq,exists_eq_left',Bool.and_eq_true,Bool.not_eq_true',List.all_eq_true,Bool.or_eq_true]
   have e1:(listed.getD j true=false)↔done.contains j=false:=by
    simp [Array.getD_eq_getD_getElem?,h1]
   rw [e1]
   refine and_congr_right fun _=> ?_
   constructor
   · intro h e he
     by_cases hb:Region.binds .any e=true
     · right
       have:=h e (by simpa using he) hb
       have hl:=hd _ (List.getElem_mem hj) e (by simpa using he) hb
       simp [Array.getD_eq_getD_getElem?,hc.2 _ hl] at this
       simpa using this
     left;simpa using hb
   intro h e he hb
   have hl:=hd _ (List.getElem_mem hj) e (by simpa using he) hb
   rcases h e (by simpa using he) with x|x
   · rw [hb] at x;cases x
   simp [Array.getD_eq_getD_getElem?,hc.2 _ hl]
   simpa using x
 have:ops[j]? =none:=by simp;omega
 simp [this]
theorem Cor.set {listed:Array Bool}{done:List Nat}(hc:Cor ops listed done)(i:Nat):Cor ops (listed.setIfInBounds i true) (i::done):=by
 refine ⟨by simp [hc.1],fun j hj=> ?_⟩
 by_cases h:i=j
 · subst h;simp [hc.1,hj]
 rw [Array.getElem?_setIfInBounds_ne h,hc.2 j hj]
 have:j≠i:=fun e=>h e.symm
 simp [this]
theorem WA.sound (hsel:okR ops=true)(hd: ∀ o∈ops,∀ e∈o.after,Region.binds .any e=true→e.on<ops.length): ∀ fuel t listed L done tm w,Cor ops listed done→WA P ops Kend Kp fuel L done tm w→
 (∃ tm' w',Kend tm' w'∧tm'.size=tm.size∧Steps P (lone (f.fr tm ds (.inRegion ops.toArray (Region.linearise.go .any ops.toArray fuel t listed [])::k)) cs w) (lone (f.fr tm' ds k) cs w'))∨
 (∃ ch tm' w',Kp ch tm' w'∧tm'.size=tm.size∧ ∃ k',Steps P (lone (f.fr tm ds (.inRegion ops.toArray (Region.linearise.go .any ops.toArray fuel t listed [])::k)) cs w) (lone { f.fr tm' ds k' with mode:= .panicking ch } cs w')):=by
 intro fuel
 have hend: ∀ tm w,Kend tm w→ ∃ tm' w',Kend tm' w'∧tm'.size=tm.size∧Steps P (lone (f.fr tm ds (.inRegion ops.toArray []::k)) cs w) (lone (f.fr tm' ds k) cs w'):=
  fun tm w h=>⟨tm,w,h,rfl,.one (step_lone_go (by simp [stepG,stepG.exec,Fc.fr]))⟩
 induction fuel with
 |zero=>exact fun t listed L done tm w _ h=> .inl (by simpa [Region.linearise.go] using hend tm w h.2)
 |succ fuel ih=>
  intro t listed L done tm w hc h
  obtain ⟨h₀,h₁⟩:=h
  simp only [Region.linearise.go]
  have hgo:(match (Region.ready .any ops.toArray listed)[t % (Region.ready .any ops.toArray listed).length]? with
   |some i=>Region.linearise.go .any ops.toArray fuel (t / (Region.ready .any ops.toArray listed).length) (listed.setIfInBounds i true) [i]
   |none=> [].reverse)=(match (Region.ready .any ops.toArray listed)[t % (Region.ready .any ops.toArray listed).length]? with
   |some i=>i::Region.linearise.go .any ops.toArray fuel (t / (Region.ready .any ops.toArray listed).length) (listed.setIfInBounds i true) []
   |none=> []):=by
   split
   · rw [linearise_go_acc];rfl
   rfl
  change (∃ tm' w',Kend tm' w'∧tm'.size=tm.size∧Steps P (lone (f.fr tm ds (.inRegion ops.toArray (match (Region.ready .any ops.toArray listed)[t % (Region.ready .any ops.toArray listed).length]? with
   |some i=>Region.linearise.go .any ops.toArray fuel (t / (Region.ready .any ops.toArray listed).length) (listed.setIfInBounds i true) [i]
   |none=> [].reverse)::k)) cs w) (lone (f.fr tm' ds k) cs w'))∨(∃ ch tm' w',Kp ch tm' w'∧tm'.size=tm.size∧ ∃ k',Steps P (lone (f.fr tm ds (.inRegion ops.toArray (match (Region.ready .any ops.toArray listed)[t % (Region.ready .any ops.toArray listed).length]? with
   |some i=>Region.linearise.go .any ops.toArray fuel (t / (Region.ready .any ops.toArray listed).length) (listed.setIfInBounds i true) [i]
   |none=> [].reverse)::k)) cs w) (lone { f.fr tm' ds k' with mode:= .panicking ch } cs w'))
  rw [hgo]
  cases hi:(Region.ready .any ops.toArray listed)[t % (Region.ready .any ops.toArray listed).length]? with
  |none=>
   have hnil:Region.ready .any ops.toArray listed= []:=by
    cases hr:Region.ready .any ops.toArray listed with
    |nil=>rfl
    |cons x xs=>
     rw [hr] at hi
     have hlt:t % (x::xs).length<(x::xs).length:=Nat.mod_lt _ (by simp)
     simp at hi
     simp at hlt
     omega
   refine .inl (hend tm w (h₀ fun j=> ?_))
   cases hj:rdy ops done j with
   |false=>rfl
   |true=>have:=(hc.ready hd j).2 hj;rw [hnil] at this;cases this
  |some i=>
   dsimp only
   have hmem:=List.mem_of_getElem? hi
   have hr:=(hc.ready hd i).1 hmem
   have ho: ∃ o,ops[i]? =some o:=by
    unfold rdy at hr
    cases hx:ops[i]? with
    |none=>rw [hx] at hr;simp at hr
    |some o=>exact ⟨o,rfl⟩
   obtain ⟨o,ho⟩:=ho
   rcases OW.run (f:=f) (k:=k) (ds:=ds) (cs:=cs) (r:=Region.linearise.go .any ops.toArray fuel (t / (Region.ready .any ops.toArray listed).length) (listed.setIfInBounds i true) []) ho (E6 hsel ho).2 (h₁ i o ho hr) with ⟨tm',w',⟨_,hW⟩,hsz,hst⟩|⟨ch,w',hk,k',hst⟩
   · rcases ih (t / (Region.ready .any ops.toArray listed).length) _ _ _ tm' w' (hc.set i) hW with ⟨tm2,w2,hK,hs2,hst2⟩|⟨ch,tm2,w2,hK,hs2,k',hst2⟩
     · exact .inl ⟨tm2,w2,hK,hs2.trans hsz,hst.trans hst2⟩
     exact .inr ⟨ch,tm2,w2,hK,hs2.trans hsz,k',hst.trans hst2⟩
   exact .inr ⟨ch,tm,w',hk,rfl,k',hst⟩
end
def HL (q:List HP):Rds→Prop
 | []=>True
 |(_,b,o,v)::r=>Cl q ⟨b,o,none⟩ v∧HL q r
theorem HL.sl {G w:World}{q:List HP}{L:Rds}(h:HL q L)(s:St G w q):SL L w:=by
 induction L with
 |nil=>intro e he;cases he
 |cons x r ih=>
  obtain ⟨i,b,o,v⟩:=x
  intro e he
  rcases List.mem_cons.1 he with rfl|he
  · exact h.1 G w s
  exact ih h.2 e he
section rules
variable {P:Program}{G:World}{f:Fc}{Q:Yr}{ops:List Oper}{k:List Item}{pk p:PE}{ds:List Deferred}{cs:List Frame}{q:List HP}{n:Nat}{done:List Nat}{L:Rds}{o:Oper}{v:Value}
def Kp' (G:World)(Q:Yr)(n:Nat)(pk:PE)(ds:List Deferred)(cs:List Frame)(ch:List PanicEntry)(tm:Array Value)(w:World):Prop:=tm.size=n∧Agr tm pk∧ ∃ q',Q (.panic ch) pk ds cs q'∧St G w q'
def Ke' (P:Program)(G:World)(f:Fc)(Q:Yr)(k:List Item)(ds:List Deferred)(cs:List Frame)(tm:Array Value)(w:World):Prop:=
 tm.size=f.n→ ∃ o tm' p' ds' cs' w' q',Q o p' ds' cs' q'∧tm'.size=f.n∧Agr tm' p'∧St G w' q'∧Arr P f (lone (f.fr tm ds k) cs w) o tm' ds' cs' w'
def XD (P:Program)(G:World)(f:Fc)(Q:Yr)(ops:List Oper)(k:List Item)(pk:PE)(L:Rds)(n:Nat)(done:List Nat)(p:PE)(ds:List Deferred)(cs:List Frame)(q:List HP):Prop:=
 okR ops=true→Tx ops pk=true→ ∀ tm w,tm.size=f.n→Agr tm p→St G w q→SL L w→WA P ops (Ke' P G f Q k ds cs) (Kp' G Q f.n pk ds cs) n L done tm w
def S4 (ops:List Oper):Bool:=ops.all fun o=>o.after.toList.all fun e=>Nat.blt e.on ops.length
theorem X.draw {id:Nat}(pk:PE)(hm:P.follows .mixedOrders=true)(h1:okR ops=true)(h2:S4 ops=true)(h3:Tx ops pk=true)
 (x:XD P G f Q ops k pk [] ops.length [] p ds cs q):X P G f Q (.code (.region id ops.toArray true)::k) p ds cs q:=by
 intro tm w hn ag s
 have hd: ∀ o∈ops,∀ e∈o.after,Region.binds .any e=true→e.on<ops.length:=by
  intro o ho e he _
  have:=List.all_eq_true.1 (List.all_eq_true.1 h2 o ho) e (by simpa using he)
  simpa [Nat.blt_eq] using this
 have s':St G { w with drawn:=w.drawn+1 } q:=s.same rfl rfl rfl rfl
 have hW:=x h1 h3 tm _ hn ag s' (fun e he=>by cases he)
 have h0:Go.step P (lone (f.fr tm ds (.code (.region id ops.toArray true)::k)) cs w)=
  .next (lone (f.fr tm ds (.inRegion ops.toArray (Region.linearise.go .any ops.toArray ops.length (w.tape w.drawn (.order f.fn id)) (Array.replicate ops.length false) [])::k)) cs { w with drawn:=w.drawn+1 }):=
  step_lone_go (by simp [stepG,stepG.exec,Fc.fr,choose,Sem.run,Question.forced,Question.cut,Region.schedule,hm,Region.linearise])
 have hc:Cor ops (Array.replicate ops.length false) []:=⟨by simp,fun j hj=>by simp [hj]⟩
 rcases WA.sound (f:=f) (k:=k) (ds:=ds) (cs:=cs) h1 hd ops.length (w.tape w.drawn (.order f.fn id)) _ [] [] tm _ hc hW with ⟨tm',w',hK,hsz,hst⟩|⟨ch,tm',w',hK,hsz,k',hst⟩
 · obtain ⟨o,tm2,p2,ds2,cs2,w2,q2,hQ,a,b,c,arr⟩:=hK (hsz.trans hn)
   exact ⟨o,tm2,p2,ds2,cs2,w2,q2,hQ,a,b,c,arr.head ((Steps.one h0).trans hst)⟩
 obtain ⟨h4,h5,q',hQ,hs⟩:=hK
 exact ⟨.panic ch,tm',pk,ds,cs,w',q',hQ,h4,h5,hs,Arr.head ((Steps.one h0).trans hst) ⟨k',.refl P _⟩⟩
theorem XD.nil (x:X P G f Q k p ds cs q)(h:(List.range ops.length).all (done.contains ·)=true:=by rfl):XD P G f Q ops k pk L 0 done p ds cs q:=by
 intro _ _ tm w hn ag s hs
 refine ⟨fun j=> ?_,fun _=>x tm w hn ag s⟩
 unfold rdy
 by_cases hj:j<ops.length
 · have:=List.all_eq_true.1 h j (by simpa using hj)
   simp at this
   simp [this]
 have:ops[j]? =none:=by simp;omega
 simp [this]
theorem XD.le {q':List HP}(h:Le q q')(x:XD P G f Q ops k pk L n done p ds cs q'):XD P G f Q ops k pk L n done p ds cs q:=fun a b tm w hn ag s hs=>x a b tm w hn ag (s.le h) hs
theorem XD.sub {p':PE}(h:SubP p' p)(x:XD P G f Q ops k pk L n done p' ds cs q):XD P G f Q ops k pk L n done p ds cs q:=fun a b tm w hn ag s hs=>x a b tm w hn (ag.sub h) s hs
theorem XD.know (s:Nat){v:Value}(u:Value)(h:lkp p s=some v)(e:v=u)(K:XD P G f Q ops k pk L n done ((s,u)::p) ds cs q):XD P G f Q ops k pk L n done p ds cs q:=by
 subst e
 refine fun a b tm w hn ag st hs=>K a b tm w hn (fun j u' hj=>ag j u' ?_) st hs
 simp only [lkp] at hj
 cases hb:Nat.beq s j with
 |true=>rw [hb] at hj;have:=Nat.eq_of_beq_eq_true hb;subst this;rw [h];simpa using hj
 |false=>rw [hb] at hj;simpa using hj
theorem XD.part (s:Nat){t:Bool}(h:lkp p s=some (.bool t))(ht:t=true→XD P G f Q ops k pk L n done ((s,.bool true)::p) ds cs q)
 (hf:t=false→XD P G f Q ops k pk L n done ((s,.bool false)::p) ds cs q):XD P G f Q ops k pk L n done p ds cs q:=by
 cases t with
 |true=>exact .know s _ h rfl (ht rfl)
 |false=>exact .know s _ h rfl (hf rfl)
theorem Agr.of_put {tm:Array Value}{d:Option Tmp}{v:Value}{p:PE}(h: ∀ e,d=some e→p.all (fun x=> !(x.1==e))=true)(a:Agr (Ww tm d v) p):Agr tm p:=by
 intro t u e
 have:=a t u e
 cases d with
 |none=>exact this
 |some d=>
  have hne:d≠t:=by
   rintro rfl
   have h1:=h d rfl
   have: ∀ (l:PE),l.all (fun x=> !(x.1==d))=true→lkp l d=none:=by
    intro l
    induction l with
    |nil=>intro _;rfl
    |cons x r ih=>
     obtain ⟨y,z⟩:=x
     intro hl
     simp only [List.all_cons,Bool.and_eq_true] at hl
     simp only [lkp]
     have:Nat.beq y d=false:=by
      have h:=hl.1
      cases hb:Nat.beq y d with
      |false=>rfl
      |true=>rw [Nat.eq_of_beq_eq_true hb] at h;simp at h
     rw [this]
     exact ih hl.2
   rw [this p h1] at e;cases e
  simpa [Ww,Array.getElem?_setIfInBounds,hne] using this
theorem Oj {ops:List Oper}{pk:PE}(h:Tx ops pk=true){i:Nat}{o:Oper}(ho:ops[i]? =some o): ∀ e,o.dst=some e→pk.all (fun x=> !(x.1==e))=true:=by
 intro e he
 have:=List.all_eq_true.1 h o (List.mem_of_getElem? ho)
 rw [he] at this
 exact this
theorem Kp'.of_put (h3:Tx ops pk=true){i:Nat}(ho:ops[i]? =some o)(ch:List PanicEntry)(tm:Array Value)(w:World)(h:Kp' G Q f.n pk ds cs ch (Ww tm o.dst v) w):Kp' G Q f.n pk ds cs ch tm w:=by
 obtain ⟨a,b,c⟩:=h
 exact ⟨by rwa [Yw] at a,b.of_put (Oj h3 ho),c⟩
theorem XD.pu_ (i:Nat)(ho:ops[i]? =some o)(h:Pu P p o v)(K:XD P G f Q ops k pk L n (i::done) (Up p o.dst v) ds cs q)
 (hr:rdy ops done i=true:=by rfl) (hw:Wt ops p o=some true:=by rfl) (hd:dOk f.n o.dst=true:=by rfl):XD P G f Q ops k pk L (n+1) done p ds cs q:=
 fun a b tm w hn ag s hs=>WA.first (Li:= []) a ho (fun ch tm w=>Kp'.of_put b ho ch tm w) (fun e he=>by cases he) n L done tm w (fun e he=>by cases he) hr (.inl ⟨Yu ag hw,fun w' _=>h tm w' ag⟩) hs
  (K a b _ w (by rw [Yw];exact hn) (ag.put (hn ▸ hd)) s hs)
theorem XD.pass_ (i:Nat)(ho:ops[i]? =some o)(K:XD P G f Q ops k pk L n (i::done) (Up p o.dst undef) ds cs q)
 (hr:rdy ops done i=true:=by rfl) (hw:Wt ops p o=some false:=by rfl) (hd:dOk f.n o.dst=true:=by rfl):XD P G f Q ops k pk L (n+1) done p ds cs q:=
 fun a b tm w hn ag s hs=>WA.first (Li:= []) a ho (fun ch tm w=>Kp'.of_put b ho ch tm w) (fun e he=>by cases he) n L done tm w (fun e he=>by cases he) hr (.inr ⟨Yu ag hw,rfl⟩) hs
  (K a b _ w (by rw [Yw];exact hn) (ag.put (hn ▸ hd)) s hs)
theorem XD.load (i:Nat){d:Tmp}{t:TypeId}{x:Operand}{ty:TypeId}{pos:String}{af:Array Edge}{gd:Option (Nat×Bool)}{b o:Nat}(ho:ops[i]? =some ⟨some d,.load t x,ty,pos,af,gd⟩)
 (hx:evp p x=some (.pointer (some ⟨b,o,none⟩))) (ht: ∀ w,(isAgg t).run P w= .ok false w) (hc:Cl q ⟨b,o,none⟩ v) (K:XD P G f Q ops k pk ((i,b,o,v)::L) n (i::done) ((d,v)::p) ds cs q)
 (hr:rdy ops done i=true:=by rfl) (hw:Wt ops p ⟨some d,.load t x,ty,pos,af,gd⟩=some true:=by rfl) (hd:Nat.blt d f.n=true:=by rfl):XD P G f Q ops k pk L (n+1) done p ds cs q:=by
 intro a h3 tm w hn ag s hs
 have hs':SL ((i,b,o,v)::L) w:=by
  intro e he
  rcases List.mem_cons.1 he with rfl|he
  · exact hc G w s
  exact hs e he
 refine WA.mono _ (L:=(i,b,o,v)::L) (fun e he=>List.mem_cons_of_mem _ he) ?_
 refine WA.first (Li:= [(i,b,o,v)]) a ho (fun ch tm w=>Kp'.of_put h3 ho ch tm w) (fun e he=>by rw [List.mem_singleton.1 he]) n _ done tm w (fun e he=>by rw [List.mem_singleton.1 he];exact List.mem_cons_self) hr (.inl ⟨Yu ag hw,fun w' h=> ?_⟩) hs'
  (K a h3 _ w (by rw [Yw];exact hn) (Agr.put (d:=some d) ag (hn ▸ hd)) s hs')
 have hcell:=h (i,b,o,v) List.mem_cons_self
 simp [execOp,Zu ag hx,Instr.loadAt,Instr.sureAddr,loadVar,ht,hcell]
theorem XD.rdL (i:Nat)(ho:ops[i]? =some o)(L':Rds)(hi:L'.all (fun e=>Nat.beq e.1 i)=true)(hL:HL q L')(h: ∀ tm w,Agr tm p→SL L' w→(execOp (evA tm) o).run P w= .ok (.value v) w)(K:XD P G f Q ops k pk (L'++L) n (i::done) (Up p o.dst v) ds cs q)
 (hr:rdy ops done i=true:=by rfl) (hw:Wt ops p o=some true:=by rfl) (hd:dOk f.n o.dst=true:=by rfl):XD P G f Q ops k pk L (n+1) done p ds cs q:=by
 intro a h3 tm w hn ag s hs
 have hs1:=hL.sl s
 have hs':SL (L'++L) w:=by
  intro e he
  rcases List.mem_append.1 he with he|he
  · exact hs1 e he
  exact hs e he
 refine WA.mono _ (L:=L'++L) (fun e he=>List.mem_append_right _ he) ?_
 exact WA.first (Li:=L') a ho (fun ch tm w=>Kp'.of_put h3 ho ch tm w) (fun e he=>Nat.eq_of_beq_eq_true (List.all_eq_true.1 hi e he)) n _ done tm w (fun e he=>List.mem_append_left _ he) hr (.inl ⟨Yu ag hw,fun w' hw'=>h tm w' ag hw'⟩) hs'
  (K a h3 _ w (by rw [Yw];exact hn) (ag.put (hn ▸ hd)) s hs')
def Uw (ops:List Oper)(done:List Nat)(i:Nat):Bool:=(List.range ops.length).all fun j=>j==i|| !rdy ops done j
theorem XD.one {R:Ending→List HP→Prop}(i:Nat)(ho:ops[i]? =some o)(h: ∀ tm w,Agr tm p→St G w q→Ap P (execOp (evA tm) o) w fun e w'=> ∃ q',R e q'∧St G w' q')
 (K: ∀ v q',R (.returned v) q'→HL q' (cut o L)∧XD P G f Q ops k pk (cut o L) n (i::done) (Up p o.dst v) ds cs q') (Kp: ∀ ch q',R (.panicked ch) q'→Q (.panic ch) pk ds cs q'∧SubP pk p)
 (h1:Uw ops done i=true:=by rfl) (hr:rdy ops done i=true:=by rfl) (hw:Wt ops p o=some true:=by rfl) (hd:dOk f.n o.dst=true:=by rfl):XD P G f Q ops k pk L (n+1) done p ds cs q:=by
 intro a h3 tm w hn ag s hs
 refine ⟨fun hnone=>absurd hr (by simp [hnone i]),fun j oj hj hrj=> ?_⟩
 have hji:j=i:=by
  have hjl:j<ops.length:=(List.getElem?_eq_some_iff.1 hj).1
  have:=List.all_eq_true.1 h1 j (by simpa using hjl)
  simpa [hrj] using this
 subst hji
 rw [ho] at hj;cases hj
 unfold OW
 rw [if_pos (Yu ag hw)]
 refine (h tm w ag s).mono fun e w' hne ⟨q',hR,s'⟩=> ?_
 cases e with
 |returned v=>
  obtain ⟨hl,x⟩:=K v q' hR
  exact ⟨hl.sl s',x a h3 _ w' (by rw [Yw];exact hn) (ag.put (hn ▸ hd)) s' (hl.sl s')⟩
 |panicked ch=>
  obtain ⟨hQ,hp⟩:=Kp ch q' hR
  exact ⟨hn,ag.sub hp,q',hQ,s'⟩
 |outgrown=>exact absurd rfl hne
theorem Ap.skip {P:Program}{s:Sem Next}{w w':World}{R:Ending→World→Prop}(h:s.run P w= .ok .skip w')(hR:R (.returned undef) w'):Ap P s w R:=
 fun fr cs _ _=>⟨.returned undef,w',hR,by simp,fr.finish undef,cs,w',by simp [stepG.apply,h],.refl P _⟩
theorem Xb {P:Program}{s:Sem Next}{w w':World}{v:Value}{R:Ending→World→Prop}(h:s.run P w= .ok (.value v) w')(hR:R (.returned v) w'):Ap P s w R:=
 fun fr cs _ _=>⟨.returned v,w',hR,by simp,fr.finish v,cs,w',by simp [stepG.apply,h],.refl P _⟩
theorem Ef.ap {R:Value→List HP→Prop}(h:Ef P G p q o R)(tm:Array Value)(w:World)(ag:Agr tm p)(s:St G w q):Ap P (execOp (evA tm) o) w fun e w'=> ∃ q',Ret R e q'∧St G w' q':=by
 obtain ⟨v,w',q',hr,s',hR⟩:=h tm w ag s
 rcases hr with hr|⟨rfl,hr⟩
 · exact Xb hr ⟨q',⟨v,rfl,hR⟩,s'⟩
 exact Ap.skip hr ⟨q',⟨undef,rfl,hR⟩,s'⟩
theorem XD.ef_ (i:Nat){R:Value→List HP→Prop}(ho:ops[i]? =some o)(h:Ef P G p q o R)(K: ∀ v q',R v q'→HL q' (cut o L)∧XD P G f Q ops k pk (cut o L) n (i::done) (Up p o.dst v) ds cs q')
 (h1:Uw ops done i=true:=by rfl) (hr:rdy ops done i=true:=by rfl) (hw:Wt ops p o=some true:=by rfl) (hd:dOk f.n o.dst=true:=by rfl):XD P G f Q ops k pk L (n+1) done p ds cs q:=
 .one i ho (fun tm w ag s=>h.ap tm w ag s) (fun v q' ⟨_,e,r⟩=>by cases e;exact K v q' r) (fun ch q' ⟨_,e,_⟩=>by cases e) h1 hr hw hd
theorem H1 {d:Option Tmp}{fo:Operand}{args:List Operand}{ats:Array TypeId}{ty:TypeId}{pos:String}{af:Array Edge}{gd:Option (Nat×Bool)}{fv:Value}{vs:List Value}{tm:Array Value}(ag:Agr tm p)
 (hf:evp p fo=some fv) (hv:evl p args=some vs):execOp (evA tm) ⟨d,.call ⟨.value fo,args.toArray,ats⟩,ty,pos,af,gd⟩=(do let d←Deferred.ofValue fv vs.toArray;invoke d.target d.args):=by
 have h1:=Zu ag hf
 have h2:=Hf ag hv
 simp only [execOp,resolve,h1]
 have:(args.toArray.map (evA tm))=vs.toArray:=by rw [←h2];simp
 rw [this]
theorem XD.call_ (i:Nat){d:Option Tmp}{fo:Operand}{args:List Operand}{ats:Array TypeId}{ty:TypeId}{pos:String}{af:Array Edge}{gd:Option (Nat×Bool)}
 {fv:Value} {vs:List Value} {pre F:List HP} {R:Value→List HP→Prop} (ho:ops[i]? =some ⟨d,.call ⟨.value fo,args.toArray,ats⟩,ty,pos,af,gd⟩)
 (hf:evp p fo=some fv) (hv:evl p args=some vs) (hc:CallV P G fv vs pre (Ret R)) (hq:Le q (pre++F))
 (K: ∀ v q',R v q'→ ∀ q'',q''=q'++F→HL q'' (cut ⟨d,.call ⟨.value fo,args.toArray,ats⟩,ty,pos,af,gd⟩ L)∧XD P G f Q ops k pk (cut ⟨d,.call ⟨.value fo,args.toArray,ats⟩,ty,pos,af,gd⟩ L) n (i::done) (Up p d v) ds cs q'')
 (h1:Uw ops done i=true:=by rfl) (hr:rdy ops done i=true:=by rfl) (hw:Wt ops p ⟨d,.call ⟨.value fo,args.toArray,ats⟩,ty,pos,af,gd⟩=some true:=by rfl) (hd:dOk f.n d=true:=by rfl):XD P G f Q ops k pk L (n+1) done p ds cs q:=
 .one (R:=fun e q''=> ∃ q',Ret R e q'∧q''=q'++F) i ho (fun tm w ag s=>by
  rw [H1 ag hf hv]
  exact (hc F w (s.le hq)).mono fun e w' _ ⟨q',hR,s'⟩=>⟨q'++F,⟨q',hR,rfl⟩,s'⟩)
  (fun v q'' ⟨q',⟨_,e,r⟩,e'⟩=>by cases e;exact K v q' r q'' e') (fun ch q'' ⟨_,⟨_,e,_⟩,_⟩=>by cases e) h1 hr hw hd
theorem XD.callF_ (i:Nat){d:Option Tmp}{fn:FuncId}{args:List Operand}{ats:Array TypeId}{ty:TypeId}{pos:String}{af:Array Edge}{gd:Option (Nat×Bool)}
 {vs:List Value} {pre F:List HP} {R:Value→List HP→Prop} (hcf: ∀ args w,(callFunc fn args).run P w= .ok (.enter fn args) w) (hc:CallF P G fn vs pre (Ret R)) (ho:ops[i]? =some ⟨d,.call ⟨.value (.func fn),args.toArray,ats⟩,ty,pos,af,gd⟩)
 (hv:evl p args=some vs) (hq:Le q (pre++F))
 (K: ∀ v q',R v q'→ ∀ q'',q''=q'++F→HL q'' (cut ⟨d,.call ⟨.value (.func fn),args.toArray,ats⟩,ty,pos,af,gd⟩ L)∧XD P G f Q ops k pk (cut ⟨d,.call ⟨.value (.func fn),args.toArray,ats⟩,ty,pos,af,gd⟩ L) n (i::done) (Up p d v) ds cs q'')
 (h1:Uw ops done i=true:=by rfl) (hr:rdy ops done i=true:=by rfl) (hw:Wt ops p ⟨d,.call ⟨.value (.func fn),args.toArray,ats⟩,ty,pos,af,gd⟩=some true:=by rfl) (hd:dOk f.n d=true:=by rfl):XD P G f Q ops k pk L (n+1) done p ds cs q:=
 .call_ i (fv:= .func (.func fn) #[] #[]) ho rfl hv (Vv (a:= []) (b:= []) hcf (by simpa using hc)) hq K h1 hr hw hd
theorem XD.call (i:Nat){d:Tmp}{fo:Operand}{args:List Operand}{ats:Array TypeId}{ty:TypeId}{pos:String}{af:Array Edge}{gd:Option (Nat×Bool)}
 {fv:Value} {vs:List Value} {pre F:List HP} {R:Value→List HP→Prop} (ho:ops[i]? =some ⟨some d,.call ⟨.value fo,args.toArray,ats⟩,ty,pos,af,gd⟩)
 (hf:evp p fo=some fv) (hv:evl p args=some vs) (hc:CallV P G fv vs pre (Ret R)) (hq:Le q (pre++F))
 (K: ∀ v q',R v q'→ ∀ q'',q''=q'++F→HL q'' (cut ⟨some d,.call ⟨.value fo,args.toArray,ats⟩,ty,pos,af,gd⟩ L)∧XD P G f Q ops k pk (cut ⟨some d,.call ⟨.value fo,args.toArray,ats⟩,ty,pos,af,gd⟩ L) n (i::done) ((d,v)::p) ds cs q'')
 (h1:Uw ops done i=true:=by rfl) (hr:rdy ops done i=true:=by rfl) (hw:Wt ops p ⟨some d,.call ⟨.value fo,args.toArray,ats⟩,ty,pos,af,gd⟩=some true:=by rfl) (hd:Nat.blt d f.n=true:=by rfl):XD P G f Q ops k pk L (n+1) done p ds cs q:= .call_ i ho hf hv hc hq K h1 hr hw hd
theorem XD.callF (i:Nat){d:Tmp}{fn:FuncId}{args:List Operand}{ats:Array TypeId}{ty:TypeId}{pos:String}{af:Array Edge}{gd:Option (Nat×Bool)}
 {vs:List Value} {pre F:List HP} {R:Value→List HP→Prop} (hcf: ∀ args w,(callFunc fn args).run P w= .ok (.enter fn args) w) (hc:CallF P G fn vs pre (Ret R)) (ho:ops[i]? =some ⟨some d,.call ⟨.value (.func fn),args.toArray,ats⟩,ty,pos,af,gd⟩)
 (hv:evl p args=some vs) (hq:Le q (pre++F))
 (K: ∀ v q',R v q'→ ∀ q'',q''=q'++F→HL q'' (cut ⟨some d,.call ⟨.value (.func fn),args.toArray,ats⟩,ty,pos,af,gd⟩ L)∧XD P G f Q ops k pk (cut ⟨some d,.call ⟨.value (.func fn),args.toArray,ats⟩,ty,pos,af,gd⟩ L) n (i::done) ((d,v)::p) ds cs q'')
 (h1:Uw ops done i=true:=by rfl) (hr:rdy ops done i=true:=by rfl) (hw:Wt ops p ⟨some d,.call ⟨.value (.func fn),args.toArray,ats⟩,ty,pos,af,gd⟩=some true:=by rfl) (hd:Nat.blt d f.n=true:=by rfl):XD P G f Q ops k pk L (n+1) done p ds cs q:= .callF_ i hcf hc ho hv hq K h1 hr hw hd
section
variable {d:Tmp}{op:Op}{ty:TypeId}{pos:String}{af:Array Edge}{gd:Option (Nat×Bool)}
theorem J7 (i:Nat)(ho:ops[i]? =some ⟨some d,op,ty,pos,af,gd⟩)(h:Pu P p ⟨some d,op,ty,pos,af,gd⟩ v)(K:XD P G f Q ops k pk L n (i::done) ((d,v)::p) ds cs q)
 (hr:rdy ops done i=true:=by rfl) (hw:Wt ops p ⟨some d,op,ty,pos,af,gd⟩=some true:=by rfl) (hd:Nat.blt d f.n=true:=by rfl):XD P G f Q ops k pk L (n+1) done p ds cs q:= .pu_ i ho h K hr hw hd
theorem XD.ef (i:Nat){R:Value→List HP→Prop}(ho:ops[i]? =some ⟨some d,op,ty,pos,af,gd⟩)(h:Ef P G p q ⟨some d,op,ty,pos,af,gd⟩ R)(K: ∀ v q',R v q'→HL q' (cut ⟨some d,op,ty,pos,af,gd⟩ L)∧XD P G f Q ops k pk (cut ⟨some d,op,ty,pos,af,gd⟩ L) n (i::done) ((d,v)::p) ds cs q')
 (h1:Uw ops done i=true:=by rfl) (hr:rdy ops done i=true:=by rfl) (hw:Wt ops p ⟨some d,op,ty,pos,af,gd⟩=some true:=by rfl) (hd:Nat.blt d f.n=true:=by rfl):XD P G f Q ops k pk L (n+1) done p ds cs q:= .ef_ i ho h K h1 hr hw hd
theorem XD.ef0 (i:Nat){R:Value→List HP→Prop}(ho:ops[i]? =some ⟨none,op,ty,pos,af,gd⟩)(h:Ef P G p q ⟨none,op,ty,pos,af,gd⟩ R)(K: ∀ v q',R v q'→HL q' (cut ⟨none,op,ty,pos,af,gd⟩ L)∧XD P G f Q ops k pk (cut ⟨none,op,ty,pos,af,gd⟩ L) n (i::done) p ds cs q')
 (h1:Uw ops done i=true:=by rfl) (hr:rdy ops done i=true:=by rfl) (hw:Wt ops p ⟨none,op,ty,pos,af,gd⟩=some true:=by rfl):XD P G f Q ops k pk L (n+1) done p ds cs q:= .ef_ i ho h K h1 hr hw rfl
end
end rules
end Wx
namespace Wx
open Go Go.RowKit
def slP (a:Option Addr)(c:Nat)(ty sz n:Nat)(vs:List Value)(h:Hp):Prop:=
 vs.length=n*sz∧((a=none∧c=0∧n=0)∨ ∃ g cur,a=some ⟨g,0,none⟩∧n≤c∧c≤maxLen∧cur.size=c*sz∧cur.toList.take (n*sz)=vs∧h g=some (.cells cur ty (0,0)))
theorem slP.mono {a:Option Addr}{c ty sz n:Nat}{vs:List Value}{h h':Hp}(e:Hle h h')(p:slP a c ty sz n vs h):slP a c ty sz n vs h':=by
 obtain ⟨p1,p2⟩:=p
 refine ⟨p1,p2.imp id ?_⟩
 rintro ⟨g,cur,q1,q2,q3,q4,q5,q6⟩
 exact ⟨g,cur,q1,q2,q3,q4,q5,e _ _ q6⟩
def slH (a:Option Addr)(c:Nat)(ty sz n:Nat)(vs:List Value):HP:=⟨fun _ h=>slP a c ty sz n vs h,fun _ e p=>p.mono e⟩
def slM (a:Option Addr)(c:Nat)(ty sz n:Nat)(vs:List Value):HP:=⟨fun M _=>slP a c ty sz n vs M,fun e _ p=>p.mono e⟩
section
variable {G w:World}{q:List HP}{a:Option Addr}{c ty sz n:Nat}{vs:List Value}
theorem St.slH_elim (s:St G w (slH a c ty sz n vs::q)):vs.length=n*sz∧((a=none∧c=0∧n=0∧St G w q)∨
 ∃ g cur,a=some ⟨g,0,none⟩∧n≤c∧c≤maxLen∧cur.size=c*sz∧cur.toList.take (n*sz)=vs∧St G w (pto g (.cells cur ty (0,0))::q)):=by
 have sq:St G w q:=s.le (.drop _ _)
 obtain ⟨bl,M,h,x1,x2,x3,x4,x5,h₁,h₂,dj,l₁,l₂,⟨p1,p2⟩,qq⟩:=s
 refine ⟨p1,?_⟩
 rcases p2 with ⟨rfl,rfl,rfl⟩|⟨g,cur,q1,q2,q3,q4,q5,q6⟩
 · exact .inl ⟨rfl,rfl,rfl,sq⟩
 exact .inr ⟨g,cur,q1,q2,q3,q4,q5,bl,M,h,x1,x2,x3,x4,x5,h₁,h₂,dj,l₁,l₂,q6,qq⟩
theorem Wk {g:Nat}{cur:Array Value}(h1:n≤c)(h2:c≤maxLen)(h3:cur.size=c*sz)(h4:cur.toList.take (n*sz)=vs)(q:List HP):
 Le (pto g (.cells cur ty (0,0))::q) (slH (some ⟨g,0,none⟩) c ty sz n vs::q):=
 .one fun M x p=>⟨by rw [←h4,List.length_take,Array.length_toList,h3];exact Nat.min_eq_left (Nat.mul_le_mul_right _ h1),.inr ⟨g,cur,rfl,h1,h2,h3,h4,p⟩⟩
theorem Ka (ty sz:Nat)(q:List HP):Le q (slH none 0 ty sz 0 []::q):=
 fun M h p=>⟨fun _=>none,h,fun _=> .inl rfl,fun _ _ e=>by simp at e,.refl _,⟨by simp,.inl ⟨rfl,rfl,rfl⟩⟩,p⟩
def Sees (q:List HP)(a:Option Addr)(vs:List Value):Prop:= ∀ G w,St G w q→ ∀ i u,vs[i]? =some u→ ∃ b o,a=some ⟨b,o,none⟩∧w.cell? ⟨b,o+i,none⟩=some u
theorem slP.sees {h:Hp}(p:slP a c ty sz n vs h)(hw: ∀ b o,h b=some o→w.heap[b]? =some o): ∀ i u,vs[i]? =some u→ ∃ b o,a=some ⟨b,o,none⟩∧w.cell? ⟨b,o+i,none⟩=some u:=by
 intro i u hu
 obtain ⟨p1,p2⟩:=p
 rcases p2 with ⟨_,_,rfl⟩|⟨g,cur,q1,q2,q3,q4,q5,q6⟩
 · have:vs= []:=List.eq_nil_of_length_eq_zero (by simpa using p1)
   subst this;simp at hu
 refine ⟨g,0,q1,?_⟩
 have:=hw _ _ q6
 rw [←q5,List.getElem?_take] at hu
 split at hu
 · simp only [World.cell?,this,Nat.zero_add];simpa using hu
 cases hu
theorem Sees.slH (q:List HP):Sees (slH a c ty sz n vs::q) a vs:=by
 rintro G _ ⟨_,M,h,x1,x2,_,_,_,h₁,h₂,_,l₁,_,p,_⟩
 exact slP.sees p fun b o e=>x2 _ _ (l₁ _ _ e)
theorem Sees.le {q':List HP}(h:Sees q' a vs)(l:Le q q'):Sees q a vs:=fun G w s=>h G w (s.le l)
theorem Sees.there {A:HP}(h:Sees q a vs):Sees (A::q) a vs:=h.le (.drop _ _)
theorem Sees.cl {b o i:Nat}{u:Value}(h:Sees q (some ⟨b,o,none⟩) vs)(hi:vs[i]? =some u):Cl q ⟨b,o+i,none⟩ u:=fun G w s=>by
 obtain ⟨b',o',e,hc⟩:=h G w s i u hi
 cases e;exact hc
def Ea (a:Option Addr)(c l s:Nat):Option Addr:=if c=l then a else a.map (·.add (l*s))
theorem Sees.suf {l:Nat}(h:Sees q a vs)(hn:vs.length≤c*sz):Sees q (Ea a c l sz) (vs.drop (l*sz)):=fun G w s i u hu=>by
 rw [List.getElem?_drop] at hu
 obtain ⟨b,o,rfl,hc⟩:=h G w s _ u hu
 unfold Ea
 by_cases e:c=l
 · subst e
   have:vs[c*sz+i]? =none:=List.getElem?_eq_none (by omega)
   rw [this] at hu;cases hu
 rw [if_neg e]
 exact ⟨b,o+l*sz,by simp [W1],by rw [Nat.add_assoc];exact hc⟩
theorem St.slFreeze (s:St G w (Wx.slH a c ty sz n vs::q)):St G w (Wx.slM a c ty sz n vs::q):=by
 obtain ⟨h0,h|⟨g,cur,q1,q2,q3,q4,q5,s'⟩⟩:=s.slH_elim
 · obtain ⟨rfl,rfl,rfl,s'⟩:=h
   refine s'.le fun M h p=>⟨fun _=>none,h,fun _=> .inl rfl,fun _ _ e=>by simp at e,.refl _,⟨h0,.inl ⟨rfl,rfl,rfl⟩⟩,p⟩
 exact s'.freeze.le (.one fun M x p=>⟨h0,.inr ⟨g,cur,q1,q2,q3,q4,q5,p⟩⟩)
theorem St.slLen (s:St G w (Wx.slH a c ty sz n vs::q)):vs.length=n*sz∧n≤c∧c≤maxLen:=by
 obtain ⟨h0,h|⟨g,cur,q1,q2,q3,q4,q5,s'⟩⟩:=s.slH_elim
 · obtain ⟨rfl,rfl,rfl,s'⟩:=h;exact ⟨h0,Nat.le_refl _,by simp [maxLen]⟩
 exact ⟨h0,q2,q3⟩
end
section
variable {P:Program}{G:World}{f:Fc}{Q:Yr}{k:List Item}{p:PE}{ds:List Deferred}{cs:List Frame}{q:List HP}{ops:List Oper}{l:List Oper}{a:Option Addr}{c ty sz n:Nat}{vs:List Value}
theorem X.fact {todo:List Item}{φ:Prop}(h: ∀ w,St G w q→φ)(x:φ→X P G f Q todo p ds cs q):X P G f Q todo p ds cs q:=fun tm w hn ag s=>x (h w s) tm w hn ag s
theorem XO.fact {φ:Prop}(h: ∀ w,St G w q→φ)(x:φ→XO P G f Q ops.toArray k l p ds cs q):XO P G f Q ops.toArray k l p ds cs q:=fun is e=> .fact h fun y=>x y is e
theorem XD.fact {pk:PE}{L:Rds}{m:Nat}{done:List Nat}{φ:Prop}(h: ∀ w,St G w q→φ)(x:φ→XD P G f Q ops k pk L m done p ds cs q):XD P G f Q ops k pk L m done p ds cs q:=fun a b tm w hn ag s hs=>x (h w s) a b tm w hn ag s hs
theorem Sees.addr {w:World}(hs:Sees q a vs)(h:0<vs.length)(s:St G w q): ∃ b o,a=some ⟨b,o,none⟩:=
 let ⟨b,o,e,_⟩:=hs G w s 0 vs[0] (by simp [h]);⟨b,o,e⟩
theorem X.addr {todo:List Item}(hs:Sees q a vs)(h:0<vs.length)(x: ∀ b o,a=some ⟨b,o,none⟩→X P G f Q todo p ds cs q):X P G f Q todo p ds cs q:=
 .fact (fun w s=>hs.addr h s) fun ⟨b,o,e⟩=>x b o e
theorem XO.addr (hs:Sees q a vs)(h:0<vs.length)(x: ∀ b o,a=some ⟨b,o,none⟩→XO P G f Q ops.toArray k l p ds cs q):XO P G f Q ops.toArray k l p ds cs q:=
 .fact (fun w s=>hs.addr h s) fun ⟨b,o,e⟩=>x b o e
end
section facts
variable {P:Program}{G:World}{p:PE}{q r:List HP}{d:Option Tmp}{ty:TypeId}{pos:String}{af:Array Edge}{gd:Option (Nat×Bool)}{v u:Value}{x y:Operand}{a b:Option Addr}{c c' sz n m i:Nat}{vs ws:List Value}{t e:TypeId}
theorem K0 {w:World}(hs: ∀ i u,ws[i]? =some u→ ∃ b' o,b=some ⟨b',o,none⟩∧w.cell? ⟨b',o+i,none⟩=some u)(hm:ws.length=m*sz)(hsz:0<sz):
 (m=0∧ws= [])∨ ∃ ad:Addr,b=some ad∧ ∀ j u,ws[j]? =some u→w.cell? (ad.add j)=some u:=by
 by_cases h0:m=0
 · subst h0;exact .inl ⟨rfl,List.eq_nil_of_length_eq_zero (by simpa using hm)⟩
 right
 have hl:0<ws.length:=by rw [hm];exact Nat.mul_pos (by omega) hsz
 obtain ⟨b',o,rfl,_⟩:=hs 0 ws[0] (by simp [hl])
 refine ⟨⟨b',o,none⟩,rfl,fun j u hu=> ?_⟩
 obtain ⟨b2,o2,e,hc⟩:=hs j u hu
 cases e;rw [W1];exact hc
theorem zip_ev {α β γ:Type}(ps:List (α×β))(g:β→γ):(ps.toArray.map fun (i,x)=>(i,g x)).toList=(ps.map (·.1)).zip ((ps.map (·.2)).map g):=by
 simp only [List.map_toArray]
 induction ps with
 |nil=>rfl
 |cons x r ih=>simp only [List.map_cons,List.zip_cons_cons];exact congrArg _ ih
theorem Qr {bi:Builtin}{l:List Operand}{ats:Array TypeId}{us:List Value}{tm:Array Value}(ag:Agr tm p)(hv:evl p l=some us):
 execOp (evA tm) ⟨d,.call ⟨.builtin bi,l.toArray,ats⟩,ty,pos,af,gd⟩=builtin bi ats ty (l.toArray.map fun| .const _=>true|_=>false) us.toArray:=by
 have h2:=Hf ag hv
 simp only [execOp,resolve]
 have:(l.toArray.map (evA tm))=us.toArray:=by rw [←h2];simp
 rw [this]
 rfl
theorem Ef.append {z:Value}{bytes:Nat}(ht:P.underlying t=some (.slice e))(hi:(P.info? e).map (fun i=>(i.zero,i.size,i.bytes))=some (some z,sz,bytes))(hz:z.cells.size=sz)(hsz:Nat.blt 0 sz=true)
 (hx:evp p x=some (.slice a i c)) (hy:evp p y=some (.slice b m c')) (hq:Le q (slH a c e sz n vs::r)) (hin:i≤n) (hs:Sees q b ws) (hm:ws.length=m*sz) (h1: ∀ u∈ws,u.oneCell'=true)
 (h63:i+m≤9223372036854775807) (hby:(i+m)*bytes≤140737488355328):
 Ef P G p q ⟨d,.call ⟨.builtin .append, [x,y].toArray, [t,t].toArray⟩,ty,pos,af,gd⟩ fun v q'=> ∃ a' c',v= .slice a' (i+m) c'∧q'=slH a' c' e sz (i+m) (vs.take (i*sz)++ws)::r:=by
 obtain ⟨I,hI,e1,e2,e3⟩:=info_parts hi
 have hsz':0<sz:=by simpa [Nat.blt_eq] using hsz
 subst e2;subst e3
 intro tm w ag s
 have hev:evl p [x,y]=some [.slice a i c,.slice b m c']:=by simp [evl,hx,hy]
 have hex:=Qr (d:=d) (ty:=ty) (pos:=pos) (af:=af) (gd:=gd) (bi:= .append) (ats:= [t,t].toArray) ag hev
 rw [hex]
 have hrun: ∀ v w',(Builtin.append_ #[t,t] ty #[.slice a i c,.slice b m c']).run P w= .ok v w'→(builtin .append [t,t].toArray ty ([x,y].toArray.map fun| .const _=>true|_=>false) [.slice a i c,.slice b m c'].toArray).run P w= .ok (.value v) w':=by
  intro v w' h;simp [builtin,h]
 have sees:=K0 (hs G w s) hm hsz'
 obtain ⟨hlen,hcase⟩:=(s.le hq).slH_elim
 rcases hcase with ⟨rfl,rfl,rfl,s'⟩|⟨g,cur,rfl,hnc,hcm,hcs,htk,s'⟩
 · obtain rfl:i=0:=by omega
   have hvs:vs= []:=List.eq_nil_of_length_eq_zero (by simpa using hlen)
   subst hvs
   rcases sees with ⟨rfl,rfl⟩|⟨ad,rfl,hc⟩
   · refine ⟨.slice none 0 0,w,_,.inl (hrun _ _ ?_),s'.le (Ka e I.size r),none,0,rfl,by simp⟩
     cases b<;>simp [Builtin.append_,run_underlying ht,Go.sizeOf,typeInfo,hI,Builtin.lenOf,Builtin.firstCells,loadCells,loadCellsFrom]
   by_cases hm0:m=0
   · subst hm0
     have hws:ws= []:=List.eq_nil_of_length_eq_zero (by simpa using hm)
     subst hws
     refine ⟨.slice none 0 0,w,_,.inl (hrun _ _ ?_),s'.le (Ka e I.size r),none,0,rfl,by simp⟩
     simp [Builtin.append_,run_underlying ht,Go.sizeOf,typeInfo,hI,Builtin.lenOf,Builtin.firstCells,loadCells,loadCellsFrom]
   have hr:=run_append_nil (P:=P) w t ty e I z ht hI e1 ad m c' ws hm hc (by omega) (by omega) (by have hb:=hby;simp only [Nat.zero_add] at hb;omega)
   have hge:=grownCap_ge w m 0 e
   have hcl:=grownCap_le_maxLen w m 0 e (by simp only [maxLen];omega)
   refine ⟨_,_,_,.inl (hrun _ _ hr),?_,some ⟨w.heap.size,0,none⟩,grownCap w m 0 e,by simp,rfl⟩
   have s2:St G (w.drew.alloc (.cells (ws.toArray++Builtin.zeroCells z.cells (grownCap w m 0 e - m)) e)) (pto w.heap.size (.cells (ws.toArray++Builtin.zeroCells z.cells (grownCap w m 0 e - m)) e (0,0))::r):=
    St.new (w:=w.drew) (s'.same rfl rfl rfl rfl) rfl rfl rfl rfl
   refine s2.le (Wk (by omega) hcl ?_ ?_ r)
   · simp only [Array.size_append,List.size_toArray,size_zeroCells,hz,hm,←Nat.add_mul]
     congr 1;omega
   simp only [Array.toList_append,Nat.zero_add,Nat.zero_mul,List.take_zero,List.nil_append]
   rw [←hm];exact List.take_left
 have htake:cur.toList.take (i*I.size)=vs.take (i*I.size):=by
  rw [←htk,List.take_take,Nat.min_eq_left (Nat.mul_le_mul_right _ hin)]
 have hg:w.heap[g]? =some (.cells cur e (0,0)):=s'.has (Has.pto _ _ _)
 have hvl:(vs.take (i*I.size)).length=i*I.size:=by rw [List.length_take,hlen];exact Nat.min_eq_left (Nat.mul_le_mul_right _ hin)
 -- the source, as an address that serves
 have hsrc: ∃ ad:Addr,(b=some ad∨(b=none∧m=0))∧ ∀ j u,ws[j]? =some u→w.cell? (ad.add j)=some u:=by
  rcases sees with ⟨rfl,rfl⟩|⟨ad,hb,hc⟩
  · cases b with
    |none=>exact ⟨⟨0,0,none⟩,.inr ⟨rfl,rfl⟩,fun j u h=>by simp at h⟩
    |some ad=>exact ⟨ad,.inl rfl,fun j u h=>by simp at h⟩
  exact ⟨ad,.inl hb,hc⟩
 obtain ⟨ad,hb,hc⟩:=hsrc
 by_cases hroom:i+m≤c
 · have hfit:i*I.size+ws.length≤cur.size:=by rw [hm,hcs,←Nat.add_mul];exact Nat.mul_le_mul_right _ hroom
   have hst:=run_storeCells_at P g (i*I.size) e ws 0 cur w hg (by simpa using hfit) h1
   simp only [Nat.add_zero] at hst
   have hr:(Builtin.append_ #[t,t] ty #[.slice (some ⟨g,0,none⟩) i c,.slice b m c']).run P w=
    .ok (.slice (some ⟨g,0,none⟩) (i+m) c) (w.setRow g (cur.toList.take (i*I.size)++ws++cur.toList.drop (i*I.size+ws.length)).toArray):=by
    rcases hb with rfl|⟨rfl,rfl⟩
    · exact run_append_room (P:=P) w t ty e I ht hI g i c cur hg ad m c' ws hm hc h1 hroom hfit
    have hws:ws= []:=List.eq_nil_of_length_eq_zero (by simpa using hm)
    subst hws
    have hself:=setRow_self w g cur e (0,0) hg
    simp only [List.length_nil,Nat.add_zero,List.append_nil,List.take_append_drop,Array.toArray_toList,hself]
    have hroom':i≤c:=by omega
    simp [Builtin.append_,run_underlying ht,Go.sizeOf,typeInfo,hI,Builtin.lenOf,Builtin.firstCells,hroom',storeCells]
   refine ⟨_,_,_,.inl (hrun _ _ hr),?_,some ⟨g,0,none⟩,c,rfl,rfl⟩
   have s2:=s'.put (o':= .cells (cur.toList.take (i*I.size)++ws++cur.toList.drop (i*I.size+ws.length)).toArray e (0,0)) (setRow_heap w g cur _ e (0,0) hg) (fun j hj=>setRow_other w g j _ hj) (by simp) rfl rfl rfl
   refine s2.le (Wk hroom hcm ?_ ?_ r)
   · simp only [List.size_toArray,List.length_append,List.length_take,List.length_drop,Array.length_toList]
     omega
   rw [htake]
   have:(vs.take (i*I.size)++ws).length=(i+m)*I.size:=by rw [List.length_append,hvl,hm,Nat.add_mul]
   rw [←this];exact List.take_left
 have holds: ∀ j u,(vs.take (i*I.size))[j]? =some u→w.cell? ((⟨g,0,none⟩:Addr).add j)=some u:=by
  intro j u hu
  rw [W1,Nat.zero_add]
  rw [←htake,List.getElem?_take] at hu
  split at hu
  · simp only [World.cell?,hg];simpa using hu
  cases hu
 have hr:(Builtin.append_ #[t,t] ty #[.slice (some ⟨g,0,none⟩) i c,.slice b m c']).run P w=
  .ok (.slice (some ⟨w.heap.size,0,none⟩) (i+m) (grownCap w (i+m) c e))
   (w.drew.alloc (.cells ((vs.take (i*I.size)).toArray++ws.toArray++Builtin.zeroCells z.cells (grownCap w (i+m) c e - (i+m))) e)):=by
  rcases hb with rfl|⟨rfl,rfl⟩
  · exact run_append_grow (P:=P) w t ty e I z ht hI e1 ⟨g,0,none⟩ i c _ hvl holds ad m c' ws hm hc (by omega) (by omega) (growslice_fits (by omega) hby)
  omega
 have hge:=grownCap_ge w (i+m) c e
 have hcl:=grownCap_le_maxLen w (i+m) c e (by simp only [maxLen];omega)
 refine ⟨_,_,_,.inl (hrun _ _ hr),?_,some ⟨w.heap.size,0,none⟩,grownCap w (i+m) c e,rfl,rfl⟩
 have s3:St G w.drew r:=(s'.le (.drop _ _)).same rfl rfl rfl rfl
 have s2:=St.new (w:=w.drew) (w':=w.drew.alloc (.cells ((vs.take (i*I.size)).toArray++ws.toArray++Builtin.zeroCells z.cells (grownCap w (i+m) c e - (i+m))) e)) s3 rfl rfl rfl rfl
 have hl2:(vs.take (i*I.size)++ws).length=(i+m)*I.size:=by rw [List.length_append,hvl,hm,Nat.add_mul]
 refine s2.le (Wk hge hcl ?_ ?_ r)
 · simp only [Array.size_append,List.size_toArray,size_zeroCells,hz,hvl,hm,←Nat.add_mul]
   congr 1;omega
 simp only [Array.toList_append,List.append_assoc]
 rw [←List.append_assoc,←hl2];exact List.take_left
theorem Ef.buildSlice {z:Value}{bytes len:Nat}{ps:List (Nat×Operand)}{us:List Value}{cells:List Value}(ht:P.underlying t=some (.slice e))(hi:(P.info? e).map (fun i=>(i.zero,i.size,i.bytes))=some (some z,sz,bytes))
 (hv:evl p (ps.map (·.2))=some us) (h0:Nat.ble (len*sz) 16777216=true) (hn:Nat.blt 0 (len*sz)=true)
 (hf:Instr.fill (fun i=>some (i*sz,sz)) ((Array.range (len*sz)).map (z.cells[· % z.cells.size]!)) ((ps.map (·.1)).zip us)=some cells.toArray) (hl:cells.length=len*sz):
 Ef P G p q ⟨d,.buildSlice t len ps.toArray,ty,pos,af,gd⟩ fun v q'=> ∃ g,v= .slice (some ⟨g,0,none⟩) len len∧q'=slH (some ⟨g,0,none⟩) len e sz len cells::q:=by
 obtain ⟨I,hI,e1,e2,e3⟩:=info_parts hi
 subst e2
 intro tm w ag s
 have h2:=Hf ag hv
 have hps:(ps.toArray.map fun (i,x)=>(i,evA tm x)).toList=(ps.map (·.1)).zip us:=by
  rw [←h2];exact zip_ev ps _
 have h0':len*I.size≤16777216:=by simpa using h0
 have hn':0<len*I.size:=by simpa [Nat.blt_eq] using hn
 refine ⟨.slice (some ⟨w.heap.size,0,none⟩) len len,w.alloc (.cells cells.toArray e),_,.inl ?_,?_,w.heap.size,rfl,rfl⟩
 · have h3: ¬ (16777216<len*I.size):=by omega
   have h4: ¬ (len*I.size=0):=by omega
   simp only [execOp,Instr.buildSlice,Sem.run_bind,run_underlying ht,Result.andThen_ok,Go.sizeOf,typeInfo,zeroValue]
   rw [hps]
   simp [hI,e1,h3,h4,hf,newRow]
 have s2:St G (w.alloc (.cells cells.toArray e)) (pto w.heap.size (.cells cells.toArray e (0,0))::q):=s.new rfl rfl rfl rfl
 refine s2.le (Wk (Nat.le_refl _) ?_ (by simp [hl]) (by simp [←hl]) q)
 have hs0:0<I.size:=Nat.pos_of_mul_pos_left hn' 
 have:len≤len*I.size:=Nat.le_mul_of_pos_right _ hs0
 simp only [maxLen];omega
theorem Hi {z:Value}{bytes:Nat}(ht:P.underlying t=some (.slice e))(hi:(P.info? e).map (fun i=>(i.zero,i.size,i.bytes))=some (some z,sz,bytes)):
 Ef P G p q ⟨d,.buildSlice t 0 #[],ty,pos,af,gd⟩ fun v q'=> ∃ g,v= .slice (some ⟨g,0,none⟩) 0 0∧q'=slH (some ⟨g,0,none⟩) 0 e sz 0 []::q:=by
 obtain ⟨I,hI,e1,e2,e3⟩:=info_parts hi
 subst e2
 intro tm w ag s
 refine ⟨.slice (some ⟨w.heap.size,0,none⟩) 0 0,w.alloc (.cells #[] e),_,.inl ?_,?_,w.heap.size,rfl,rfl⟩
 · simp [execOp,Instr.buildSlice,run_underlying ht,Go.sizeOf,typeInfo,hI,Instr.fill,newRow]
   congr 2
   apply Array.ext';simp
 have s2:St G (w.alloc (.cells #[] e)) (pto w.heap.size (.cells #[] e (0,0))::q):=s.new rfl rfl rfl rfl
 exact s2.le (Wk (Nat.le_refl _) (by simp [maxLen]) (by simp) (by simp) q)
theorem Lj {kd:IntKind}{h:Int}(hx:evp p x=some (.slice a n c))(hy:evp p y=some (.int kd h))(ht:P.underlying t=some (.slice e))(hs: ∀ w,(Go.sizeOf e).run P w= .ok sz w)(h0:0≤h)(h1:h≤c):
 Pu P p ⟨d,.slice t x none (some y) none,ty,pos,af,gd⟩ (.slice a h.toNat c):=fun tm w ag=>by
 have hc:0≤h∧h≤(c:Int):=⟨h0,h1⟩
 have hz:a.map (fun x:Addr=>x.add 0)=a:=by cases a<;>simp [Addr.add]
 simp [execOp,Zu ag hx,Zu ag hy,Instr.sliceAt,Instr.slice,run_underlying ht,Instr.sliceBounds,Instr.sliceBound,asIntOf,hc,hs,hz]
theorem Lz {kd:IntKind}{l:Int}(hx:evp p x=some (.slice a n c))(hy:evp p y=some (.int kd l))(ht:P.underlying t=some (.slice e))(hs: ∀ w,(Go.sizeOf e).run P w= .ok sz w)(h0:0≤l)(h1:l≤n):
 Pu P p ⟨d,.slice t x (some y) none none,ty,pos,af,gd⟩ (.slice (Ea a c l.toNat sz) (n - l.toNat) (c - l.toNat)):=fun tm w ag=>by
 have hc:0≤l∧l≤(n:Int):=⟨h0,h1⟩
 simp [execOp,Zu ag hx,Zu ag hy,Instr.sliceAt,Instr.slice,run_underlying ht,Instr.sliceBounds,Instr.sliceBound,asIntOf,hc,hs,Ea]
def spl:List Value→Nat→List Value→List Value
 |l,_, []=>l
 | [],_,_=> []
 |_::l,0,v::vs=>v::spl l 0 vs
 |x::l,n+1,vs=>x::spl l n vs
def Da:List (Nat×Nat)→Nat→Option (Nat×Nat)
 | [],_=>none
 |v::_,0=>some v
 |_::r,n+1=>Da r n
theorem Sc (l:List (Nat×Nat))(n:Nat):Da l n=l[n]? :=by
 induction l generalizing n with
 |nil=>simp [Da]
 |cons v r ih=>cases n with
  |zero=>simp [Da]
  |succ n=>simp [Da,ih]
def Bc (pl:List (Nat×Nat)):List Value→List (Nat×Value)→Option (List Value)
 |cs, []=>some cs
 |cs,(i,v)::r=>match Da pl i with
  |some (off,sz)=>bif Nat.beq v.cells.toList.length sz && Nat.ble (off+sz) cs.length then Bc pl (spl cs off v.cells.toList) r else none
  |none=>none
theorem spl_fold (vs:List Value): ∀ (l:List Value) (o j:Nat),(vs.zipIdx j).foldl (fun cs (c,i)=>cs.setIfInBounds (o+i) c) l.toArray=(spl l (o+j) vs).toArray:=by
 induction vs with
 |nil=>intro l o j;simp [spl]
 |cons v vs ih=>
  intro l o j
  simp only [List.zipIdx_cons,List.foldl_cons]
  rw [List.setIfInBounds_toArray,ih]
  congr 1
  have: ∀ (l:List Value) (n:Nat),spl (l.set n v) (n+1) vs=spl l n (v::vs):=by
   intro l
   induction l with
   |nil=>intro n;cases vs<;>simp [spl]
   |cons x l ih2=>
    intro n
    cases n with
    |zero=>cases vs with
     |nil=>simp [spl]
     |cons u us=>simp [spl]
    |succ n=>cases vs with
     |nil=>have:=ih2 n;simp [spl] at this⊢;exact this
     |cons u us=>have:=ih2 n;simp [spl] at this⊢;exact this
  rw [←this l (o+j),Nat.add_assoc]
theorem Pp {pl:List (Nat×Nat)}: ∀ (ps:List (Nat×Value)) {cs cells:List Value},Bc pl cs ps=some cells→Instr.fill (pl.toArray[·]?) cs.toArray ps=some cells.toArray:=by
 intro ps
 induction ps with
 |nil=>intro cs cells h;simp [Bc] at h;simp [Instr.fill,h]
 |cons x r ih=>
  obtain ⟨i,v⟩:=x
  intro cs cells h
  simp only [Bc,Sc] at h
  cases hp:pl[i]? with
  |none=>rw [hp] at h;cases h
  |some pp=>
   obtain ⟨off,sz⟩:=pp
   rw [hp] at h
   dsimp only at h
   cases hc:(Nat.beq v.cells.toList.length sz && Nat.ble (off+sz) cs.length) with
   |false=>rw [hc] at h;cases h
   |true=>
    rw [hc] at h
    simp only [cond_true] at h
    simp only [Bool.and_eq_true,Nat.beq_eq_true_eq,Nat.ble_eq] at hc
    have h1:v.cells.size=sz:=by simpa using hc.1
    have h2:off+sz≤cs.length:=by simpa using hc.2
    have hcond: ¬ (v.cells.size≠sz∨off+v.cells.size>cs.toArray.size):=by simp [h1];omega
    simp only [Instr.fill,List.getElem?_toArray,hp]
    have hb:(decide (v.cells.size≠sz)||decide (off+v.cells.size>cs.toArray.size))=false:=by simp [h1];omega
    rw [if_neg (by simpa using hcond)]
    have:=ih h
    have hf:=spl_fold v.cells.toList cs off 0
    simp only [Nat.add_zero] at hf
    rw [←hf] at this
    rw [←this]
    have e1:(v.cells.zipIdx.foldl (fun cs (x:Value×Nat)=>cs.setIfInBounds (off+x.2) x.1) cs.toArray)=(v.cells.toList.zipIdx.foldl (fun cs (x:Value×Nat)=>cs.setIfInBounds (off+x.2) x.1) cs.toArray):=by
     rw [←Array.foldl_toList,Array.toList_zipIdx]
    rw [e1]
    simp only [List.getElem?_toArray]
theorem Pu.build {ps:List (Nat×Operand)}{us z cells:List Value}{fs:Array Field}(pl:List (Nat×Nat))(hz: ∀ w,(zeroValue t).run P w= .ok (.agg z.toArray) w)(ht:P.underlying t=some (.struct fs))
 (hp:fs.toList.mapM (fun f=>(P.info? f.type).map fun i=>(f.offset,i.size))=some pl) (hv:evl p (ps.map (·.2))=some us) (hb:Bc pl z ((ps.map (·.1)).zip us)=some cells):Pu P p ⟨d,.build t ps.toArray,ty,pos,af,gd⟩ (.agg cells.toArray):=fun tm w ag=>by
 have h2:=Hf ag hv
 have hps:(ps.toArray.map fun (i,x)=>(i,evA tm x)).toList=(ps.map (·.1)).zip us:=by
  rw [←h2];exact zip_ev ps _
 have hpl:=run_places (P:=P) w fs.toList pl hp
 have hpl':(fs.mapM fun f=>do Pure.pure (f.offset,←Go.sizeOf f.type):Sem (Array (Nat×Nat))).run P w= .ok pl.toArray w:=by
  have e:fs=fs.toList.toArray:=by simp
  rw [e,List.mapM_toArray]
  simp only [Sem.run_map]
  have:(fun f:Field=>(do Pure.pure (f.offset,←Go.sizeOf f.type):Sem (Nat×Nat)))=(fun f=>Prod.mk f.offset<$>Go.sizeOf f.type):=by
   funext f;exact (map_eq_pure_bind _ _).symm
  rw [this,hpl];rfl
 have hfill:=Pp _ hb
 simp only [execOp,Instr.build,Sem.run_bind,hz,Result.andThen_ok,run_underlying ht,hpl',Value.cells,hps,hfill]
 rfl
theorem Pu.field {l:List Value}{fs:Array Field}{k:Nat}(ft off:Nat)(hx:evp p x=some (.agg l.toArray))(ht:P.underlying t=some (.struct fs))(hF:(fs[k]?).map (fun F=>(F.type,F.offset))=some (ft,off))(ha: ∀ w,(isAgg ft).run P w= .ok false w)(hv:nth l off=some v):
 Pu P p ⟨d,.field t x k,ty,pos,af,gd⟩ v:=fun tm w ag=>by
 obtain ⟨F,hF',e⟩:=Option.map_eq_some_iff.1 hF
 clear hF
 simp only [Prod.mk.injEq] at e
 obtain ⟨rfl,rfl⟩:=e
 rw [Ve] at hv
 simp [execOp,Zu ag hx,Instr.field,run_underlying ht,hF',asAgg,part,ha,hv]
theorem O5 {l:List Value}{fs:Array Field}{k:Nat}(ft off:Nat)(hx:evp p x=some (.agg l.toArray))(ht:P.underlying t=some (.struct fs))(hF:(fs[k]?).map (fun F=>(F.type,F.offset))=some (ft,off))(ha: ∀ w,(isAgg ft).run P w= .ok true w)(hs: ∀ w,(Go.sizeOf ft).run P w= .ok sz w):
 Pu P p ⟨d,.field t x k,ty,pos,af,gd⟩ (.agg (Wx.sub l off sz).toArray):=fun tm w ag=>by
 obtain ⟨F,hF',e⟩:=Option.map_eq_some_iff.1 hF
 clear hF
 simp only [Prod.mk.injEq] at e
 obtain ⟨rfl,rfl⟩:=e
 simp [execOp,Zu ag hx,Instr.field,run_underlying ht,hF',asAgg,part,ha,hs,Wx.sub,List.extract]
def U1 (l:List Value)(o:Nat)(vs:List Value):List Value:=l.take o++vs++l.drop (o+vs.length)
theorem Ef.storeA {bk o:Nat}{l:List Value}{t':TypeId}(hx:evp p x=some (.pointer (some ⟨bk,o,none⟩)))(hy:evp p y=some (.agg vs.toArray))(hs: ∀ w,(Go.sizeOf t).run P w= .ok sz w)
 (hl:vs.length=sz) (h1:vs.all (·.oneCell')=true) (hq:Le q (pto bk (.cells l.toArray t' (0,0))::r)) (ho:Nat.ble (o+sz) l.length=true):
 Ef P G p q ⟨d,.store t x y,ty,pos,af,gd⟩ fun z q'=>z=undef∧q'=pto bk (.cells (U1 l o vs).toArray t' (0,0))::r:=
 fun tm w ag s=>by
  have s':=s.le hq
  have hb:=s'.has (Has.pto _ _ _)
  have ho':o+vs.length≤l.length:=by rw [hl];simpa using ho
  have hst:=run_storeCells_at P bk o t' vs 0 l.toArray w hb (by simpa using ho') (fun v hv=>List.all_eq_true.1 h1 v hv)
  simp only [Nat.add_zero] at hst
  refine ⟨undef,w.setRow bk (U1 l o vs).toArray,_,.inr ⟨rfl,?_⟩,?_,rfl,rfl⟩
  · have e1:=Zu ag hx
    have e2:=Zu ag hy
    simp [execOp,e1,e2,Instr.storeAt,Instr.sureAddr,storeVar,hs,Value.cells,hl,hst,U1]
  exact s'.put (setRow_heap w bk l.toArray _ t' (0,0) hb) (fun j hj=>setRow_other w bk j _ hj) (by simp) rfl rfl rfl
end facts
def LV (P:Program)(G:World)(q:List HP)(t:TypeId)(A:Addr)(v:Value):Prop:= ∀ w,St G w q→(loadVar t A).run P w= .ok v w
theorem LV.cell {P:Program}{G:World}{q:List HP}{t:TypeId}{A:Addr}{v:Value}(ht: ∀ w,(isAgg t).run P w= .ok false w)(h:Cl q A v):LV P G q t A v:=fun w s=>by simp [loadVar,ht,h G w s]
theorem LV.agg {P:Program}{G:World}{q:List HP}{t:TypeId}{b o sz:Nat}{l:List Value}{t':TypeId}{fz:Nat×Nat}(ht: ∀ w,(isAgg t).run P w= .ok true w)(hs: ∀ w,(Go.sizeOf t).run P w= .ok sz w)
 (hh:Has q b (.cells l.toArray t' fz)) (hv:Nat.ble (o+sz) l.length=true):LV P G q t ⟨b,o,none⟩ (.agg (Wx.sub l o sz).toArray):=fun w s=>by
 have hb:=s.has hh
 have hv':o+sz≤l.length:=by simpa using hv
 have hl:(Wx.sub l o sz).length=sz:=by simp [Wx.sub];omega
 have hc:=run_loadCells_list (P:=P) w ⟨b,o,none⟩ (Wx.sub l o sz) (fun j u hj=>by
  rw [W1]
  simp only [World.cell?,hb]
  simp only [Wx.sub,List.getElem?_take,List.getElem?_drop] at hj
  split at hj
  · simpa using hj
  cases hj)
 rw [hl] at hc
 simp [loadVar,ht,hs,hc]
def ResOk (P:Program)(G:World)(p:PE)(q:List HP):List ResultVar→List Value→Prop
 | [], []=>True
 | .tmp t::r,v::vs=>lkp p t=some v∧ResOk P G p q r vs
 | .cell a t::r,v::vs=>(∃ A,lkp p a=some (.pointer (some A))∧LV P G q t A v)∧ResOk P G p q r vs
 |_,_=>False
def Tv (tm:Array Value):ResultVar→Sem Value
 | .tmp t=>Pure.pure (tm.getD t undef)
 | .cell a t=>do loadVar t (←asAddr (tm.getD a undef))
theorem R3 (fd:Func)(tm:Array Value):results fd tm=(do let vs←fd.results.mapM (Tv tm);Pure.pure (if h:vs.size=1 then vs[0] else .tuple vs)):=rfl
theorem ResOk.run {P:Program}{G:World}{p:PE}{q:List HP}{tm:Array Value}{w:World}(ag:Agr tm p)(s:St G w q): ∀ {rs:List ResultVar} {vs:List Value},ResOk P G p q rs vs→
 (rs.mapM (Tv tm)).run P w= .ok vs w:=by
 intro rs
 induction rs with
 |nil=>intro vs h;cases vs with
  |nil=>simp
  |cons=>exact h.elim
 |cons x r ih=>
  intro vs h
  cases vs with
  |nil=>cases x<;>exact h.elim
  |cons v vs=>
   cases x with
   |tmp t=>
    obtain ⟨h1,h2⟩:=h
    have e:(Tv tm (.tmp t)).run P w= .ok v w:=by rw [Tv,ag _ _ h1];rfl
    simp only [List.mapM_cons,Sem.run_bind,e,Result.andThen_ok,ih h2,Sem.run_pure]
   |cell a t=>
    obtain ⟨⟨A,h1,h3⟩,h2⟩:=h
    have e:(Tv tm (.cell a t)).run P w= .ok v w:=by
     rw [Tv,ag _ _ h1];simp [asAddr,h3 w s]
    simp only [List.mapM_cons,Sem.run_bind,e,Result.andThen_ok,ih h2,Sem.run_pure]
theorem R4 {P:Program}{G:World}{p:PE}{q:List HP}{fd:Func}{r:ResultVar}{v:Value}(h:fd.results= [r].toArray)(hk:ResOk P G p q [r] [v])(tm:Array Value)(w:World)(ag:Agr tm p)(s:St G w q):(results fd tm).run P w= .ok v w:=by
 have:=hk.run ag s
 rw [R3,h,List.mapM_toArray]
 simp only [Sem.run_bind,Sem.run_map,this,Result.andThen_ok,Sem.run_pure]
 rfl
theorem Dr {P:Program}{G:World}{p:PE}{q:List HP}{fd:Func}{r r':ResultVar}{rs:List ResultVar}{vs:List Value}(h:fd.results=(r::r'::rs).toArray)(hk:ResOk P G p q (r::r'::rs) vs)(tm:Array Value)(w:World)(ag:Agr tm p)(s:St G w q):(results fd tm).run P w= .ok (.tuple vs.toArray) w:=by
 have:=hk.run ag s
 have hl:vs.length≠1:=by
  intro e
  match vs,e with
  | [v],_=>cases r<;>cases r'<;>simp [ResOk] at hk
 rw [R3,h,List.mapM_toArray]
 simp only [Sem.run_bind,Sem.run_map,this,Result.andThen_ok,Sem.run_pure]
 rw [dif_neg (by simpa using hl)]
end Wx
namespace Wx
open Go Go.RowKit
def lp (rec:Loop)(l:Nat)(st:LoopState)(pend:Option Code):HP:=pto l (.loop { rec with state:=st,pending:=pend })
def markD (r:Nat):Deferred:= { target:= .collected r,args:= #[] }
theorem Jb {P:Program}{w:World}{l:Nat}{r:Loop}(h:w.heap[l]? =some (.loop r)):(Instr.getLoop l).run P w= .ok r w:=by
 simp [Instr.getLoop,getObj,Sem.run,h]
theorem Kw {P:Program}{w:World}{l:Nat}{o o':Obj}(h:w.heap[l]? =some o)(hc: ∀ c e z,o≠ .cells c e z):(setObj l o').run P w= .ok () { w with heap:=w.heap.setIfInBounds l o' } :=by
 cases o<;>first|(exact absurd rfl (hc _ _ _))|simp [setObj,Sem.run,h]
theorem St.setObj {G w:World}{b:Nat}{o o':Obj}{q:List HP}(s:St G w (pto b o::q)):St G { w with heap:=w.heap.setIfInBounds b o' } (pto b o'::q):=by
 have hb:=s.has (Has.pto _ _ _)
 have hlt:b<w.heap.size:=(Array.getElem?_eq_some_iff.1 hb).1
 refine s.put ?_ ?_ (by simp) rfl rfl rfl
 · simp [hlt]
 intro k hk
 exact Array.getElem?_setIfInBounds_ne (fun e=>hk e.symm)
section
variable {P:Program}{G:World}{f:Fc}{Q:Yr}{k:List Item}{p:PE}{ds:List Deferred}{cs:List Frame}{q:List HP}
def YQ (cs₀:List Frame)(rec:Loop)(l:Nat)(R:Ug)(F:List HP):Yr:=fun o p ds cs q=>cs=cs₀∧ds= []∧match o with
 | .fall=> ∃ q',R (.returned (.bool true)) (lp rec l .ready none::q')∧Le q (lp rec l .busy none::(q'++F))
 | .jump c=> ∃ q',R (.returned (.bool false)) (lp rec l .done (some c)::q')∧Le q (lp rec l .busy none::(q'++F))
 | .panic ch=> ∃ q',R (.panicked ch) q'∧Le q (q'++F)
def Aw:List Tmp→List Value→PE→PE
 |t::ts,v::vs,p=>Aw ts vs ((t,v)::p)
 |_,_,p=>p
theorem agr_zipP {n:Nat}: ∀ (ts:List Tmp) (vs:List Value) (tm:Array Value) (p:PE),tm.size=n→Agr tm p→ts.all (Nat.blt · n)=true→vs.length=ts.length→
 Agr ((ts.zip vs).foldl (fun tm (t,a)=>tm.setIfInBounds t a) tm) (Aw ts vs p)∧((ts.zip vs).foldl (fun tm (t,a)=>tm.setIfInBounds t a) tm).size=n:=by
 intro ts
 induction ts with
 |nil=>intro vs tm p hn ag _ hl;cases vs<;>simp_all [Aw]
 |cons t r ih=>
  intro vs tm p hn ag hb hl
  cases vs with
  |nil=>simp at hl
  |cons v vs=>
   simp only [List.all_cons,Bool.and_eq_true] at hb
   simp only [List.zip_cons_cons,List.foldl_cons,Aw]
   exact ih vs _ _ (by simp [hn]) (Agr.put (d:=some t) ag (by rw [hn];exact hb.1)) hb.2 (by simpa using hl)
theorem Rz {fr:Frame}{l:Nat}{r:Loop}{w:World}{k:List Item}(hm:fr.mode= .run)(ht:fr.todo= .beginRound::k)(hr:fr.roundOf=some l)(h:w.heap[l]? =some (.loop r))(hs:r.state= .ready):
 step P (lone fr cs w)= .next (lone { fr with todo:=k } cs { w with heap:=w.heap.setIfInBounds l (.loop { r with state:= .busy }) }):=by
 have h1:(Instr.beginRound l).run P w= .ok () { w with heap:=w.heap.setIfInBounds l (.loop { r with state:= .busy }) } :=by
  simp only [Instr.beginRound,Sem.run_bind,Jb h,Result.andThen_ok]
  rw [Kw h (by intro c e z;simp)]
  simp [hs]
 refine step_lone_go ?_
 simp [stepG,stepG.exec,hm,ht,hr,stepG.apply,h1,Frame.finish]
theorem X.beginRound {rec:Loop}{l:Nat}{pend:Option Code}{cq:List HP}(hr:f.round=some l)(hq:Le q (lp rec l .ready pend::cq))(x:X P G f Q k p ds cs (lp rec l .busy pend::cq)):X P G f Q (.beginRound::k) p ds cs q:=by
 intro tm w n a s
 have s':=s.le hq
 have hb:=s'.has (Has.pto _ _ _)
 have s2:St G { w with heap:=w.heap.setIfInBounds l (.loop { rec with state:= .busy,pending:=pend }) } (lp rec l .busy pend::cq):=St.setObj (o:= .loop { rec with state:= .ready,pending:=pend }) s'
 obtain ⟨o,tm',p',ds',cs',w',q',hQ,hn,ha,hs,arr⟩:=x tm _ n a s2
 refine ⟨o,tm',p',ds',cs',w',q',hQ,hn,ha,hs,arr.head (.one ?_)⟩
 exact Rz (P:=P) (cs:=cs) (fr:=f.fr tm ds (.beginRound::k)) rfl rfl hr hb rfl
theorem Nf {w:World}{l:Nat}{r:Loop}(h:w.heap[l]? =some (.loop r))(j:Option Code):
 (Instr.endRound l j).run P w= .ok (.bool j.isNone) { w with heap:=w.heap.setIfInBounds l (.loop { r with state:=if j.isNone then .ready else .done,pending:=j }) } :=by
 simp only [Instr.endRound,Sem.run_bind,Jb h,Result.andThen_ok]
 rw [Kw h (by intro c e z;simp)]
 rfl
theorem Hk {fr c:Frame}{cs:List Frame}{l:Nat}{w w':World}{v:Value}{j:Option Code}(hm:fr.mode= .run)(hr:fr.roundOf=some l)(hk:fr.kind= .normal)
 (hj:(fr.todo= []∧j=none)∨(∃ c k,fr.todo= .code c::k∧Gone c k∧j=some c)) (h:(Instr.endRound l j).run P w= .ok v w'):
 step P (lone fr (c::cs) w)= .next (lone (c.finish v) cs w'):=by
 refine step_lone_go ?_
 rcases hj with ⟨ht,rfl⟩|⟨c',k,ht,hg,rfl⟩
 · simp [stepG,stepG.exec,hm,ht,hr,Sem.runT_eq,h,GStep.bare_after,doReturn,hk]
 rcases hg with rfl|⟨id,rfl,he⟩|⟨g,rfl,he⟩
 · simp [stepG,stepG.exec,hm,ht,hr,Sem.runT_eq,h,GStep.bare_after,doReturn,hk]
 · simp [stepG,stepG.exec,hm,ht,hr,he,Sem.runT_eq,h,GStep.bare_after,doReturn,hk]
 simp [stepG,stepG.exec,hm,ht,hr,he,Sem.runT_eq,h,GStep.bare_after,doReturn,hk]
structure LoopIs (rec:Loop) (fn:FuncId) (n:Nat) (ts:List Tmp) (as bd:Code) (p:PE):Prop where
 fn:rec.fn=fn
 n:rec.tmps.size=n
 ts:rec.params=ts.toArray
 as:rec.assign=as
 bd:rec.body=bd
 pd:rec.pending=none
 ag:Agr rec.tmps p
theorem CallV.yield {rec:Loop}{l n fn:Nat}{us:List Value}{pre:List HP}{R:Ug}{ts:List Tmp}{as bd:Code}(hr:LoopIs rec fn n ts as bd p)(hb:ts.all (Nat.blt · n)=true)(hl:Nat.beq us.length ts.length=true)
 (hf:(P.funcs[fn]?).isSome=true)
 (h: ∀ F cs,X P G ⟨fn,n,.normal,some l⟩ (YQ cs rec l R F) [.code as,.beginRound,.code bd] (Aw ts us p) [] cs (lp rec l .ready none::(pre++F))):
 CallV P G (.func (.yield l) #[] #[]) us (lp rec l .ready none::pre) R:=by
 obtain ⟨rfl,hn,hts,rfl,rfl,hpd,ag⟩:=hr
 intro F w s fr cs hm ho
 have hb':=s.has (Has.pto _ _ _)
 have hl':us.length=ts.length:=Nat.eq_of_beq_eq_true hl
 obtain ⟨ha,hsz⟩:=agr_zipP ts us rec.tmps p hn ag hb hl'
 obtain ⟨o,tm',p',ds',cs',w',q',⟨rfl,rfl,hQ⟩,hn',ha',hs,arr⟩:=h F (fr::cs) _ w hsz ha s
 have hy:(do let d←Deferred.ofValue (.func (.yield l) #[] #[]) us.toArray;invoke d.target d.args:Sem Next).run P w=
  .ok (.round l rec.fn ((ts.zip us).foldl (fun tm (t,a)=>tm.setIfInBounds t a) rec.tmps) rec.assign rec.body) w:=by
  simp [Deferred.ofValue,invoke,Instr.yield,Jb hb',hts,hl',List.zip_toArray]
 have hfr:Frame.round l rec.fn ((ts.zip us).foldl (fun tm (t,a)=>tm.setIfInBounds t a) rec.tmps) rec.assign rec.body .normal=
  Fc.fr ⟨rec.fn,n,.normal,some l⟩ ((ts.zip us).foldl (fun tm (t,a)=>tm.setIfInBounds t a) rec.tmps) [] [.code rec.assign,.beginRound,.code rec.body]:=rfl
 have hap:(stepG.apply P true fr cs none (do let d←Deferred.ofValue (.func (.yield l) #[] #[]) us.toArray;invoke d.target d.args:Sem Next) w).bare=
  .go { frame:=Frame.round l rec.fn ((ts.zip us).foldl (fun tm (t,a)=>tm.setIfInBounds t a) rec.tmps) rec.assign rec.body .normal,callers:=fr::cs,status:= .running,dying:=none } w:=by
  simp only [stepG.apply,Sem.runT_eq,hy,GStep.bare_after,GStep.bare_go,if_true]
 rw [←hfr] at arr
 cases o with
 |fall=>
  obtain ⟨q1,hR,hle⟩:=hQ
  have s1:=hs.le hle
  have h1:=s1.has (Has.pto _ _ _)
  refine ⟨.returned (.bool true), { w' with heap:=w'.heap.setIfInBounds l (.loop { rec with state:= .ready,pending:=none }) },⟨_,hR,?_⟩,by simp,_,_,_,hap,arr.trans (.one ?_)⟩
  · exact St.setObj s1
  exact Hk (fr:=Fc.fr ⟨rec.fn,n,.normal,some l⟩ tm' [] []) rfl rfl rfl (.inl ⟨rfl,rfl⟩) (Nf h1 none)
 |jump c=>
  obtain ⟨q1,hR,hle⟩:=hQ
  obtain ⟨k',hg,arr⟩:=arr
  have s1:=hs.le hle
  have h1:=s1.has (Has.pto _ _ _)
  refine ⟨.returned (.bool false), { w' with heap:=w'.heap.setIfInBounds l (.loop { rec with state:= .done,pending:=some c }) },⟨_,hR,?_⟩,by simp,_,_,_,hap,arr.trans (.one ?_)⟩
  · exact St.setObj s1
  exact Hk (fr:=Fc.fr ⟨rec.fn,n,.normal,some l⟩ tm' [] (.code c::k')) rfl rfl rfl (.inr ⟨c,k',rfl,hg,rfl⟩) (Nf h1 (some c))
 |panic ch=>
  obtain ⟨q1,hR,hle⟩:=hQ
  obtain ⟨k',arr⟩:=arr
  refine ⟨.panicked ch,w',⟨_,hR,hs.le hle⟩,by simp,_,_,_,hap,arr.trans (.one ?_)⟩
  obtain ⟨fd,hfd⟩:=Option.isSome_iff_exists.1 hf
  exact step_lone_go (by simp [stepG,unwind,Frame.catches,Fc.fr,hfd,L4])
theorem Dt {w:World}(fn:FuncId)(tm:Array Value)(ps:Array Tmp)(as bd:Code):
 (Instr.enterLoop fn tm ps as bd none).run P w= .ok (w.heap.size+1, [markD w.heap.size])
  ((w.alloc (.deferred (some []))).alloc (.loop { state:= .ready,pending:=none,fn:=fn,tmps:=tm,params:=ps,assign:=as,body:=bd,defers:=w.heap.size })):=by
 simp [Instr.enterLoop,newObj,Sem.run,markD]
theorem Gy {w:World}{l:Nat}{r:Loop}(h:w.heap[l]? =some (.loop r))(hs:r.state≠ .busy):(Instr.endLoop l).run P w= .ok r.pending { w with heap:=w.heap.setIfInBounds l (.loop { r with state:= .exhausted }) } :=by
 have hs':(r.state==LoopState.busy)=false:=by simpa using hs
 simp only [Instr.endLoop,Sem.run_bind,Jb h,Result.andThen_ok,hs']
 simp only [Bool.false_eq_true,if_false,Sem.run_bind]
 rw [Kw h (by intro c e z;simp)]
 simp
theorem X.rangeFunc {g:Operand}{ps:List Tmp}{as bd:Code}{gv:Value}{pre F:List HP}{R':Option Code→List HP→Prop}(hro:f.round=none)(hg:evp p g=some gv)(hq:Le q (pre++F))
 (call: ∀ l rec,LoopIs rec f.fn f.n ps as bd p→CallV P G gv [.func (.yield l) #[] #[]] (lp rec l .ready none::pre)
  (Ret fun _ q'=> ∃ st pend q1,st≠ .busy∧q'=lp rec l st pend::q1∧R' pend q1))
 (cont: ∀ r pend q1,R' pend q1→X P G f Q (pend.toList.map Item.code++k) p (markD r::ds) cs (pto r (.deferred (some []))::(q1++F))):
 X P G f Q (.code (.rangeFunc g ps.toArray as bd)::k) p ds cs q:=by
 intro tm w n ag s
 have he:=Dt (P:=P) (w:=w) f.fn tm ps.toArray as bd
 have s0:=s.le hq
 have s1:St G (w.alloc (.deferred (some []))) (pto w.heap.size (.deferred (some []))::(pre++F)):=s0.new rfl rfl rfl rfl
 have s2:=s1.new (w':=(w.alloc (.deferred (some []))).alloc (.loop { state:= .ready,pending:=none,fn:=f.fn,tmps:=tm,params:=ps.toArray,assign:=as,body:=bd,defers:=w.heap.size })) (o:= .loop { state:= .ready,pending:=none,fn:=f.fn,tmps:=tm,params:=ps.toArray,assign:=as,body:=bd,defers:=w.heap.size }) rfl rfl rfl rfl
 have hsz:(w.alloc (.deferred (some []))).heap.size=w.heap.size+1:=by simp
 rw [hsz] at s2
 have s3:=s2.le (ds:=lp { state:= .ready,pending:=none,fn:=f.fn,tmps:=tm,params:=ps.toArray,assign:=as,body:=bd,defers:=w.heap.size } (w.heap.size+1) .ready none::(pre++(pto w.heap.size (.deferred (some []))::F))) (Le.cons _ (by
  clear s2 s1 s0 hq call cont
  induction pre with
  |nil=>exact .refl _
  |cons A r ih=>exact (Le.swap _ _ _).trans (ih.cons A)))
 obtain ⟨e,w3,⟨q3,⟨v,rfl,st,pend,q1,hst,rfl,hR⟩,s4⟩,_,fr₁,cs₁,w₁,hap,hsteps⟩:=call (w.heap.size+1) { state:= .ready,pending:=none,fn:=f.fn,tmps:=tm,params:=ps.toArray,assign:=as,body:=bd,defers:=w.heap.size } ⟨rfl,n,rfl,rfl,rfl,rfl,ag⟩ (pto w.heap.size (.deferred (some []))::F) _ s3
  (f.fr tm (markD w.heap.size::ds) (.inRangeFunc (w.heap.size+1)::k)) cs rfl trivial
 have hgv:(f.fr tm (markD w.heap.size::ds) (.inRangeFunc (w.heap.size+1)::k)).eval g=gv:=(Q7 ..).trans (Zu ag hg)
 have hres:(do let d←resolve (f.fr tm (markD w.heap.size::ds) (.inRangeFunc (w.heap.size+1)::k)).eval { callee:= .value g,args:= #[.const (.func (.yield (w.heap.size+1)) #[] #[])],argTypes:= #[] } 0;invoke d.target d.args:Sem Next)=
  (do let d←Deferred.ofValue gv [.func (.yield (w.heap.size+1)) #[] #[]].toArray;invoke d.target d.args):=by
  have he2: ∀ v,(f.fr tm (markD w.heap.size::ds) (.inRangeFunc (w.heap.size+1)::k)).eval (.const v)=v:=fun _=>rfl
  simp [resolve,hgv,he2]
 have h1:Go.step P (lone (f.fr tm ds (.code (.rangeFunc g ps.toArray as bd)::k)) cs w)= .next (lone fr₁ cs₁ w₁):=by
  refine step_lone_go ?_
  have hro':(f.fr tm ds (.code (.rangeFunc g ps.toArray as bd)::k)).roundOf=none:=hro
  rw [←hap,←hres]
  simp only [Fc.fr] at hro'⊢
  simp [stepG,stepG.exec,hro',Sem.runT_eq,he,GStep.bare_after]
 have hfin:L4 (f.fr tm (markD w.heap.size::ds) (.inRangeFunc (w.heap.size+1)::k)) cs (.returned v) w3=lone (f.fr tm (markD w.heap.size::ds) (.endRangeFunc (w.heap.size+1)::k)) cs w3:=rfl
 rw [hfin] at hsteps
 have hb:=s4.has (Has.pto _ _ _)
 have hend:=Gy (P:=P) hb hst
 have s5:St G { w3 with heap:=w3.heap.setIfInBounds (w.heap.size+1) (.loop { state:= .exhausted,pending:=pend,fn:=f.fn,tmps:=tm,params:=ps.toArray,assign:=as,body:=bd,defers:=w.heap.size }) } (q1++(pto w.heap.size (.deferred (some []))::F)):=
  (St.setObj (o':= .loop { state:= .exhausted,pending:=pend,fn:=f.fn,tmps:=tm,params:=ps.toArray,assign:=as,body:=bd,defers:=w.heap.size }) s4).le (.drop _ _)
 have h2:Go.step P (lone (f.fr tm (markD w.heap.size::ds) (.endRangeFunc (w.heap.size+1)::k)) cs w3)=
  .next (lone (f.fr tm (markD w.heap.size::ds) (pend.toList.map Item.code++k)) cs { w3 with heap:=w3.heap.setIfInBounds (w.heap.size+1) (.loop { state:= .exhausted,pending:=pend,fn:=f.fn,tmps:=tm,params:=ps.toArray,assign:=as,body:=bd,defers:=w.heap.size }) }):=by
  refine step_lone_go ?_
  simp only [stepG,stepG.exec,Fc.fr,Sem.runT_eq,hend,GStep.bare_after]
  cases pend<;>rfl
 have s6:=s5.le (ds:=pto w.heap.size (.deferred (some []))::(q1++F)) (by
  clear s5 h2 hend hb hsteps hR s4
  induction q1 with
  |nil=>exact .refl _
  |cons A r ih=>exact (ih.cons A).trans (Le.swap _ _ _))
 obtain ⟨o,tm',p',ds',cs',w',q',hQ,hn,ha,hs,arr⟩:=cont w.heap.size pend q1 hR tm _ n ag s6
 exact ⟨o,tm',p',ds',cs',w',q',hQ,hn,ha,hs,arr.head ((Steps.one h1).trans (hsteps.trans (.one h2)))⟩
end
theorem Lv.mark {P:Program}{G:World}{fn:FuncId}{R:Ug}{F:List HP}{ds:List Deferred}{u:FrameMode}{p:PE}{q q':List HP}{r:Nat}(hu:u≠ .run)(hq:Le q (pto r (.deferred (some []))::q'))
 (h:Lv P G fn R F ds u p q'):Lv P G fn R F (markD r::ds) u p q:=by
 intro tm w fr cs h1 h2 h3 h4 h5 ag s
 have s':=s.le hq
 have hb:=s'.has (Has.pto _ _ _)
 have hrun:(Instr.takeDeferred r).run P w= .ok [] { w with heap:=w.heap.setIfInBounds r (.deferred none) } :=by
  have hg:(getObj r).run P w= .ok (.deferred (some [])) w:=by simp [getObj,Sem.run,hb]
  simp only [Instr.takeDeferred,Sem.run_bind,hg,Result.andThen_ok]
  rw [Kw hb (by intro c e z;simp)]
  simp
 have s2:St G { w with heap:=w.heap.setIfInBounds r (.deferred none) } q':=(St.setObj (o':= .deferred none) s').le (.drop _ _)
 have hstep:Go.step P (lone fr cs w)= .next (lone { fr with defers:=ds } cs { w with heap:=w.heap.setIfInBounds r (.deferred none) }):=by
  refine step_lone_go ?_;obtain ⟨fn',tmps',todo',defers',mode',kind',ro⟩:=fr
  simp only at h1 h2 h3 h4 h5
  subst h3 h4
  cases mode' with
  |run=>exact absurd rfl hu
  |returning=>simp [stepG,unwind,markD,Sem.runT_eq,hrun,GStep.bare_after]
  |panicking ch=>simp [stepG,unwind,markD,Sem.runT_eq,hrun,GStep.bare_after]
 obtain ⟨e,w',fr',q'',hR,hne,hs,hst,hfn,hl⟩:=h tm _ { fr with defers:=ds } cs h1 h2 rfl h4 h5 ag s2
 exact ⟨e,w',fr',q'',hR,hne,hs,(Steps.one hstep).trans hst,hfn,hl⟩
end Wx
namespace Wx
open Go Go.RowKit
variable {α:Type}
def lsH (f:α→Value)(ty:TypeId)(a:Option Addr)(c:Nat)(l:List α):HP:=slH a c ty 1 l.length (l.map f)
section
variable {P:Program}{G:World}{fr:Fc}{Q:Yr}{k:List Item}{p:PE}{ds:List Deferred}{cs:List Frame}{q r:List HP}{ops lo:List Oper}{f:α→Value}{ty:TypeId}{a b:Option Addr}{c c':Nat}{l m:List α}
theorem Sees.lsH (q:List HP):Sees (lsH f ty a c l::q) a (l.map f):=Sees.slH q
theorem Ze (f:α→Value)(ty:TypeId)(q:List HP):Le q (Wx.lsH f ty none 0 []::q):=Ka ty 1 q
theorem Sees.at {bk o n:Nat}{j:Int}(h:Sees q (some ⟨bk,o,none⟩) (l.map f))(hj:j=n)(hn:n<l.length):Cl q ⟨bk,o+j.toNat*1,none⟩ (f l[n]):=by
 subst hj
 rw [Int.toNat_natCast,Nat.mul_one]
 exact h.cl (by simp [hn])
theorem Ef.appL {d:Option Tmp}{ty':TypeId}{pos:String}{af:Array Edge}{gd:Option (Nat×Bool)}{x y:Operand}{t:TypeId}{z:Value}{bytes i:Nat}(ht:P.underlying t=some (.slice ty))(hi:(P.info? ty).map (fun i=>(i.zero,i.size,i.bytes))=some (some z,1,bytes))(hz:z.cells.size=1)
 (hx:evp p x=some (.slice a i c)) (hy:evp p y=some (.slice b m.length c')) (hq:Le q (Wx.lsH f ty a c l::r)) (hin:i≤l.length) (hs:Sees q b (m.map f)) (h1: ∀ u,(f u).oneCell'=true)
 (h63:i+m.length≤9223372036854775807) (hby:(i+m.length)*bytes≤140737488355328):
 Ef P G p q ⟨d,.call ⟨.builtin .append, [x,y].toArray, [t,t].toArray⟩,ty',pos,af,gd⟩ fun v q'=> ∃ a' c',v= .slice a' (l.take i++m).length c'∧q'=Wx.lsH f ty a' c' (l.take i++m)::r:=by
 have h:=Ef.append (P:=P) (G:=G) (d:=d) (ty:=ty') (pos:=pos) (af:=af) (gd:=gd) ht hi hz rfl hx hy hq hin hs (by simp) (by intro u hu;obtain ⟨w,_,rfl⟩:=List.mem_map.1 hu;exact h1 w) h63 hby
 intro tm w ag s
 obtain ⟨v,w',q',h1,h2,a',c',rfl,rfl⟩:=h tm w ag s
 have hl:(l.take i++m).length=i+m.length:=by simp;omega
 refine ⟨_,w',_,h1,?_,a',c',by rw [hl],rfl⟩
 unfold Wx.lsH
 rw [hl,List.map_append,List.map_take]
 simpa using h2
theorem Yb {d:Option Tmp}{ty':TypeId}{pos:String}{af:Array Edge}{gd:Option (Nat×Bool)}{x y:Operand}{t:TypeId}{z:Value}{bytes:Nat}(ht:P.underlying t=some (.slice ty))(hi:(P.info? ty).map (fun i=>(i.zero,i.size,i.bytes))=some (some z,1,bytes))(hz:z.cells.size=1)
 (hx:evp p x=some (.slice a l.length c)) (hy:evp p y=some (.slice b m.length c')) (hq:Le q (Wx.lsH f ty a c l::r)) (hs:Sees q b (m.map f)) (h1: ∀ u,(f u).oneCell'=true)
 (h63:l.length+m.length≤9223372036854775807) (hby:(l.length+m.length)*bytes≤140737488355328):
 Ef P G p q ⟨d,.call ⟨.builtin .append, [x,y].toArray, [t,t].toArray⟩,ty',pos,af,gd⟩ fun v q'=> ∃ a' c',v= .slice a' (l++m).length c'∧q'=Wx.lsH f ty a' c' (l++m)::r:=by
 have h:=Ef.appL (P:=P) (G:=G) (d:=d) (ty':=ty') (pos:=pos) (af:=af) (gd:=gd) ht hi hz hx hy hq (Nat.le_refl _) hs h1 h63 hby
 simpa using h
theorem Qq {d:Option Tmp}{ty':TypeId}{pos:String}{af:Array Edge}{gd:Option (Nat×Bool)}{x:Operand}{t:TypeId}{z:Value}{bytes:Nat}{u:α}(f:α→Value)(ht:P.underlying t=some (.slice ty))(hi:(P.info? ty).map (fun i=>(i.zero,i.size,i.bytes))=some (some z,1,bytes))
 (hx:evp p x=some (f u)) (h1:(f u).cells= #[f u]):
 Ef P G p q ⟨d,.buildSlice t 1 [(0,x)].toArray,ty',pos,af,gd⟩ fun v q'=> ∃ g,v= .slice (some ⟨g,0,none⟩) 1 1∧q'=Wx.lsH f ty (some ⟨g,0,none⟩) 1 [u]::q:=by
 have hf:Instr.fill (fun i=>some (i*1,1)) ((Array.range (1*1)).map (z.cells[· % z.cells.size]!)) (([(0,x)].map (·.1)).zip [f u])=some [f u].toArray:=by
  simp [Instr.fill,h1,Array.range]
  rfl
 exact Ef.buildSlice ht hi (us:= [f u]) (by simp [evl,hx]) rfl rfl hf rfl
theorem Jt {d:Option Tmp}{ty':TypeId}{pos:String}{af:Array Edge}{gd:Option (Nat×Bool)}{t:TypeId}{z:Value}{bytes:Nat}(f:α→Value)(ht:P.underlying t=some (.slice ty))(hi:(P.info? ty).map (fun i=>(i.zero,i.size,i.bytes))=some (some z,1,bytes)):
 Ef P G p q ⟨d,.buildSlice t 0 #[],ty',pos,af,gd⟩ fun v q'=> ∃ g,v= .slice (some ⟨g,0,none⟩) 0 0∧q'=Wx.lsH f ty (some ⟨g,0,none⟩) 0 []::q:=
 Hi ht hi
theorem St.lsAddr {w:World}(s:St G w (Wx.lsH f ty a c l::q))(h:0<l.length): ∃ g,a=some ⟨g,0,none⟩:=by
 obtain ⟨h0,h1|⟨g,cur,q1,_⟩⟩:=s.slH_elim
 · obtain ⟨_,_,h3,_⟩:=h1;omega
 exact ⟨g,q1⟩
theorem St.lsLen {w:World}(s:St G w (Wx.lsH f ty a c l::q)):l.length≤c∧c≤9223372036854775807:=by
 have:=s.slLen.2
 simpa [maxLen] using this
theorem Rt {d:Option Tmp}{ty':TypeId}{pos:String}{af:Array Edge}{gd:Option (Nat×Bool)}{x y:Operand}{t:TypeId}{u:α}{n g:Nat}{j:Int}(hx:evp p x=some (.pointer (some ⟨g,0+j.toNat*1,none⟩)))(hy:evp p y=some (f u))(hsz: ∀ w,(Go.sizeOf t).run P w= .ok 1 w)
 (hj:j=n) (hn:n<l.length) (hv:(f u).cells= #[f u]) (h1:(f u).oneCell'=true) (hq:Le q (Wx.lsH f ty (some ⟨g,0,none⟩) c l::r)):
 Ef P G p q ⟨d,.store t x y,ty',pos,af,gd⟩ fun z q'=>z=undef∧q'=Wx.lsH f ty (some ⟨g,0,none⟩) c (l.set n u)::r:=by
 subst hj
 rw [Int.toNat_natCast,Nat.mul_one,Nat.zero_add] at hx
 intro tm w ag s
 obtain ⟨h0,h2|⟨g',cur,q1,q2,q3,q4,q5,s'⟩⟩:=(s.le hq).slH_elim
 · obtain ⟨_,_,h3,_⟩:=h2;omega
 cases q1
 have hc:n<cur.size:=by rw [q4];omega
 obtain ⟨z,w',q',hr,hs,rfl,rfl⟩:=Ef.store (G:=G) (d:=d) (ty:=ty') (pos:=pos) (af:=af) (gd:=gd) (q:=pto g (.cells cur.toList.toArray ty (0,0))::r) hx hy hsz hv h1 (Le.here _ _) (by simpa [Nat.blt_eq] using hc) tm w ag (by simpa using s')
 refine ⟨_,w',_,hr,?_,rfl,rfl⟩
 have hl:(l.set n u).length=l.length:=by simp
 unfold Wx.lsH
 rw [hl]
 refine hs.le (Wk q2 q3 (by simp [Ny,q4]) ?_ r)
 rw [Ny,List.map_set,←q5]
 simp [List.take_set]
end
theorem Le.append_right {a b:List HP}(h:Le a b)(F:List HP):Le (a++F) (b++F):=
 ((Z5 a F).trans (.one fun M x p=>h M x p)).trans (Zs b F)
section
variable {P:Program}{G:World}{pre pre':List HP}{vs:List Value}{R R':Ug}
theorem CallV.conv {fv:Value}(hp:Le pre pre')(h:CallV P G fv vs pre' R)(hr: ∀ e q,R e q→ ∃ q',R' e q'∧Le q q'):CallV P G fv vs pre R':=by
 intro F w s fr cs hm ho
 obtain ⟨e,w',⟨q,hR,hs⟩,rest⟩:=h F w (s.le (hp.append_right F)) fr cs hm ho
 obtain ⟨q',hR',hl⟩:=hr e q hR
 exact ⟨e,w',⟨q',hR',hs.le (hl.append_right F)⟩,rest⟩
theorem CallF.conv {fn:FuncId}(hp:Le pre pre')(h:CallF P G fn vs pre' R)(hr: ∀ e q,R e q→ ∃ q',R' e q'∧Le q q'):CallF P G fn vs pre R':=by
 intro F w s cs
 obtain ⟨e,w',fr,⟨hne,q,hR,hs⟩,rest⟩:=h F w (s.le (hp.append_right F)) cs
 obtain ⟨q',hR',hl⟩:=hr e q hR
 exact ⟨e,w',fr,⟨hne,q',hR',hs.le (hl.append_right F)⟩,rest⟩
end
end Wx
namespace Wx
open Go Go.RowKit
section
variable {P:Program}{G:World}{p:PE}{q:List HP}{d:Option Tmp}{ty:TypeId}{pos:String}{af:Array Edge}{gd:Option (Nat×Bool)}{x y:Operand}
theorem Pu.shr {t t':TypeId}{kd ky:IntKind}{m n:Int}(hx:evp p x=some (.int kd m))(hy:evp p y=some (.int ky n))(h0:0≤n):Pu P p ⟨d,.binOp .shr t x y t',ty,pos,af,gd⟩ (.int kd (m.fdiv (2 ^ min n.toNat kd.bits))):=
 fun tm w ag=>by
  have h1: ¬n<0:=by omega
  simp [execOp,Zu ag hx,Zu ag hy,eqGuard,Go.binOp,Op.shift,h1]
theorem Pu.max2 {ats:Array TypeId}{kd ky:IntKind}{m n:Int}(hx:evp p x=some (.int kd m))(hy:evp p y=some (.int ky n)):
 Pu P p ⟨d,.call ⟨.builtin .max, [x,y].toArray,ats⟩,ty,pos,af,gd⟩ (.int kd (max m n)):=fun tm w ag=>by
 rw [Qr (us:= [.int kd m,.int ky n]) ag (by simp [evl,hx,hy])]
 simp [builtin,Builtin.max_,Builtin.max2]
 split<;>omega
theorem Pu.min2 {ats:Array TypeId}{kd ky:IntKind}{m n:Int}(hx:evp p x=some (.int kd m))(hy:evp p y=some (.int ky n)):
 Pu P p ⟨d,.call ⟨.builtin .min, [x,y].toArray,ats⟩,ty,pos,af,gd⟩ (.int kd (min m n)):=fun tm w ag=>by
 rw [Qr (us:= [.int kd m,.int ky n]) ag (by simp [evl,hx,hy])]
 simp [builtin,Builtin.min_,Builtin.min2]
 split<;>omega
def EqV (P:Program)(k:Nat)(t:TypeId)(x y:Value)(b:Bool):Prop:= ∀ w,(Op.equalIn k t x y).run P w= .ok b w
theorem EqV.int {k:Nat}{t:TypeId}{kd kd':IntKind}(h:P.underlying t=some (.int kd'))(a b:Int):EqV P (k+1) t (.int kd a) (.int kd b) (a==b):=fun w=>run_equalIn_int w k t kd kd' a b h
def EqFs (P:Program)(k:Nat)(xs ys:List Value):List (TypeId×Nat)→Bool→Prop
 | [],b=>b=true
 |(t,o)::r,b=> ∃ x y b1 b2,nth xs o=some x∧nth ys o=some y∧(∀ w,(isAgg t).run P w= .ok false w)∧EqV P k t x y b1∧EqFs P k xs ys r b2∧b=(b1 && b2)
theorem EqFs.run {k:Nat}{xs ys:List Value}{w:World}: ∀ {fs : List Field} {b : Bool}, fs.all (fun f => f.name != "_") = true → EqFs P k xs ys (fs.map fun f => (f.type, f.offset)) b → (Op.eqFields k xs.toArray ys.toArray fs).run P w = .ok b w
 | [],b,_,h=>by cases h;rfl
 |f::fs,b,hn,h=>by
  obtain ⟨x,y,b1,b2,hx,hy,ha,he,hr,rfl⟩:=h
  simp only [List.all_cons,Bool.and_eq_true,bne_iff_ne,ne_eq] at hn
  rw [Ve] at hx hy
  have ih:=EqFs.run (w:=w) hn.2 hr
  have he':=he w
  simp only [Op.eqFields,ne_eq,hn.1,not_false_eq_true,if_true,Sem.run_bind,part,ha w,Result.andThen_ok,Sem.run_ite,Bool.false_eq_true,if_false,List.getElem?_toArray,hx,hy,Sem.run_pure,he']
  cases b1
  · simp
  simp [ih]
theorem EqV.struct {k : Nat}{t : TypeId}{xs ys : List Value}{b : Bool}{fs : List Field}(hu : P.underlying t = some (.struct fs.toArray))(hp : P.stoodInHeld t = false)(hn : fs.all (fun f => f.name != "_") = true)(h : EqFs P k xs ys (fs.map fun f => (f.type, f.offset)) b):
 EqV P (k+1) t (.agg xs.toArray) (.agg ys.toArray) b:=fun w=>by
 have hf:P.fieldsOf t=fs.toArray:=by simp [Program.fieldsOf,hu]
 rw [run_equalIn_struct w k t _ _ (by rw [hf];exact hu) hp,hf]
 exact h.run hn
theorem Pu.neqA {t t':TypeId}{xs ys:Array Value}{b:Bool}(hx:evp p x=some (.agg xs))(hy:evp p y=some (.agg ys))(hg:P.eqGuardType P.depth t=false)(h:EqV P Op.maxDepth t (.agg xs) (.agg ys) b):
 Pu P p ⟨d,.binOp .neq t x y t',ty,pos,af,gd⟩ (.bool !b):=fun tm w ag=>by
 have he:(Op.equal t (.agg xs) (.agg ys)).run P w= .ok b w:=h w
 simp [execOp,Zu ag hx,Zu ag hy,eqGuard,hg,Go.binOp,he]
end
def rdA (i b o:Nat):List Value→Rds
 | []=> []
 |v::r=>(i,b,o,v)::rdA i b (o+1) r
theorem E1 (i b:Nat): ∀ (l:List Value) (o:Nat),(rdA i b o l).all (fun e=>Nat.beq e.1 i)=true
 | [],_=>rfl
 |v::r,o=>by simp [rdA,E1 i b r]
theorem E0 {i b:Nat}: ∀ {l:List Value} {o j:Nat} {v:Value},l[j]? =some v→(i,b,o+j,v)∈rdA i b o l
 | [],_,_,_,h=>by simp at h
 |u::r,o,0,v,h=>by simp at h;subst h;simp [rdA]
 |u::r,o,j+1,v,h=>by
  simp only [List.getElem?_cons_succ] at h
  have:=E0 (i:=i) (b:=b) (o:=o+1) h
  rw [Nat.add_assoc,Nat.add_comm 1 j] at this
  exact List.mem_cons_of_mem _ this
theorem HL.rdA {q:List HP}{i b:Nat}: ∀ {l:List Value} {o:Nat},(∀ j v,l[j]? =some v→Cl q ⟨b,o+j,none⟩ v)→HL q (Wx.rdA i b o l)
 | [],_,_=>trivial
 |v::r,o,h=>⟨h 0 v rfl,HL.rdA (o:=o+1) fun j u hj=>by rw [Nat.add_assoc,Nat.add_comm 1 j];exact h (j+1) u (by simpa using hj)⟩
section
variable {P:Program}{G:World}{f:Fc}{Q:Yr}{k:List Item}{pk:PE}{L:Rds}{m n:Nat}{done:List Nat}{p:PE}{ds:List Deferred}{cs:List Frame}{q:List HP}{ops:List Oper}{ty:TypeId}{pos:String}{af:Array Edge}{gd:Option (Nat×Bool)}{x:Operand}
theorem XD.loadA (i:Nat){t:TypeId}{d:Tmp}{b o sz:Nat}{l:List Value}{t':TypeId}{fz:Nat×Nat}(ho:ops[i]? =some ⟨some d,.load t x,ty,pos,af,gd⟩)
 (hx:evp p x=some (.pointer (some ⟨b,o,none⟩))) (ht: ∀ w,(isAgg t).run P w= .ok true w) (hs: ∀ w,(Go.sizeOf t).run P w= .ok sz w) (hh:Has q b (.cells l.toArray t' fz)) (hv:Nat.ble (o+sz) l.length=true)
 (K:XD P G f Q ops k pk (rdA i b o (Wx.sub l o sz)++L) n (i::done) ((d,.agg (Wx.sub l o sz).toArray)::p) ds cs q)
 (hr:rdy ops done i=true:=by rfl) (hw:Wt ops p ⟨some d,.load t x,ty,pos,af,gd⟩=some true:=by rfl) (hd:Nat.blt d f.n=true:=by rfl):XD P G f Q ops k pk L (n+1) done p ds cs q:=by
 have hv':o+sz≤l.length:=by simpa using hv
 have hl:(Wx.sub l o sz).length=sz:=by simp [Wx.sub];omega
 refine XD.rdL i ho (rdA i b o (Wx.sub l o sz)) (E1 _ _ _ _) (HL.rdA fun j v hj=>Cl.of hh ?_) (fun tm w ag hS=> ?_) K hr hw hd
 · rw [Ve]
   simp only [Wx.sub,List.getElem?_take,List.getElem?_drop] at hj
   split at hj
   · exact hj
   cases hj
 have hc:=run_loadCells_list (P:=P) w ⟨b,o,none⟩ (Wx.sub l o sz) (fun j u hj=>by
  rw [W1]
  exact hS _ (E0 hj))
 rw [hl] at hc
 simp [execOp,Zu ag hx,Instr.loadAt,Instr.sureAddr,loadVar,ht,hs,hc]
end
section
variable {P:Program}{G:World}{p:PE}{q:List HP}{rs:List ResultVar}{vs:List Value}
theorem ResOk.nil:ResOk P G p q [] []:=trivial
theorem ResOk.tmp {t:Tmp}{v:Value}(h:lkp p t=some v)(r:ResOk P G p q rs vs):ResOk P G p q (.tmp t::rs) (v::vs):=⟨h,r⟩
theorem ResOk.cell {a:Tmp}{t:TypeId}{A:Addr}{v:Value}(h:lkp p a=some (.pointer (some A)))(l:LV P G q t A v)(r:ResOk P G p q rs vs):ResOk P G p q (.cell a t::rs) (v::vs):=⟨⟨A,h,l⟩,r⟩
end
theorem Om {us:List Value}(hus: ∀ u∈us,u.cells= #[u]): ∀ (n:Nat) (pre post:List Value),pre.length=n→post.length=us.length→
 Instr.fill (fun i=>some (i*1,1)) (pre++post).toArray ((List.range' n us.length).zip us)=some (pre++us).toArray:=by
 induction us with
 |nil=>intro n pre post _ h;have:=List.eq_nil_of_length_eq_zero h;subst this;simp [Instr.fill]
 |cons u r ih=>
  intro n pre post hp h
  obtain ⟨x,post,rfl⟩: ∃ x l,post=x::l:=by cases post with
   |nil=>cases h
   |cons x l=>exact ⟨x,l,rfl⟩
  have hu:=hus u List.mem_cons_self
  have hr:=ih (fun v hv=>hus v (List.mem_cons_of_mem _ hv)) (n+1) (pre++ [u]) post (by simp [hp]) (by simpa using h)
  simp only [List.append_assoc,List.singleton_append] at hr
  rw [List.length_cons,List.range'_succ,List.zip_cons_cons]
  subst hp
  simp only [Instr.fill,hu,Nat.mul_one]
  simp
  simpa using hr
section
variable {α:Type}{P:Program}{G:World}{p:PE}{q:List HP}
theorem Y0 {d:Option Tmp}{ty':TypeId}{pos:String}{af:Array Edge}{gd:Option (Nat×Bool)}{t e:TypeId}{z:Value}{bytes n:Nat}{ps:List (Nat×Operand)}(f:α→Value)(l:List α)(ht:P.underlying t=some (.slice e))(hi:(P.info? e).map (fun i=>(i.zero,i.size,i.bytes))=some (some z,1,bytes))(hz:z.cells.size=1)
 (hv:evl p (ps.map (·.2))=some (l.map f)) (hx:ps.map (·.1)=List.range' 0 n) (hn:l.length=n) (h0:Nat.blt 0 n=true) (h1:Nat.ble n 16777216=true) (hc: ∀ u,(f u).cells= #[f u]):
 Ef P G p q ⟨d,.buildSlice t n ps.toArray,ty',pos,af,gd⟩ fun v q'=> ∃ g,v= .slice (some ⟨g,0,none⟩) n n∧q'=lsH f e (some ⟨g,0,none⟩) n l::q:=by
 subst hn
 have hf:Instr.fill (fun i=>some (i*1,1)) ((Array.range (l.length*1)).map (z.cells[· % z.cells.size]!)) ((ps.map (·.1)).zip (l.map f))=some (l.map f).toArray:=by
  rw [hx]
  have:=Om (us:=l.map f) (fun u hu=>by obtain ⟨w,_,rfl⟩:=List.mem_map.1 hu;exact hc w) 0 [] ((Array.range (l.length*1)).map (z.cells[· % z.cells.size]!)).toList rfl (by simp)
  rw [List.nil_append,List.nil_append,List.length_map,Array.toArray_toList] at this
  exact this
 exact Ef.buildSlice ht hi hv (by simpa using h1) (by simpa using h0) hf (by simp)
end
end Wx
namespace Wx
open Go Go.RowKit
theorem wf64 {n:Int}(h:(Lit.int .i64 n).wf=true): -9223372036854775808≤n∧n≤9223372036854775807:=by
 simpa [Lit.wf,IntKind.min,IntKind.max,IntKind.signed,IntKind.bits] using h
theorem CallF.law {P:Program}{fn:FuncId}{vs:List Value}{q:List HP}{w:World}{R:Value→List HP→Prop}(h:CallF P w fn vs q (Ret R))(hR: ∀ v q',R v q'→v= .bool true)(s:St w w q):
 Calls P fn vs.toArray w fun e w'=>e= .returned (.bool true)∧Below w.heap.size w w':=
 (h [] w (by simpa using s)).mono fun e w' ⟨_,q',⟨v,he,hv⟩,s'⟩=>⟨by rw [he,hR v q' hv],s'.below⟩
end Wx
