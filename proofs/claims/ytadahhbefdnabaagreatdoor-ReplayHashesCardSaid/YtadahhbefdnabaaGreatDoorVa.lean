/- Contracts. -/
import Derived.Calls
import Derived.Defers
import Derived.Below
import Derived.WalkKit
import Derived.Laws.StructEq
namespace Wx
abbrev aA:=@List.length_append
abbrev aC:=@List.getElem_mem
abbrev aE:=@List.getElem?_eq_getElem
abbrev aG:=@List.getD_eq_getElem?_getD
abbrev aI:=@List.length_map
abbrev aJ:=@List.length_cons
abbrev aK:=@List.append_assoc
abbrev aN:=@List.take_succ_eq_append_getElem
abbrev aO:=@List.map_append
abbrev aP:=@List.drop_eq_getElem_cons
abbrev aQ:=@congrArg
abbrev aR:=@Bool.and_eq_true
abbrev aS:=@List.eq_nil_of_length_eq_zero
abbrev aT:=@List.length_nil
abbrev aU:=@Nat.le_refl
abbrev aV:=@absurd
abbrev aY:=@List.nil_append
abbrev aZ:=@List.mem_map_of_mem
abbrev bA:=@List.map_cons
abbrev bC:=@Nat.zero_le
abbrev bE:=@List.mem_append
abbrev bG:=@List.mem_cons
abbrev bI:=@List.length_take
abbrev bJ:=@List.getElem?_map
abbrev bK:=@List.length_set
abbrev bL:=@Int.le_refl
abbrev bN:=@List.mem_singleton
abbrev bO:=@List.cons_append
abbrev bP:=@Int.eq_ofNat_of_zero_le
abbrev bQ:=@List.take_of_length_le
abbrev bR:=@List.append_nil
abbrev bS:=@List.mem_map
abbrev bV:=@List.take_length
abbrev bW:=@List.mem_cons_self
abbrev bX:=@List.mem_cons_of_mem
abbrev bZ:=@List.flatMap_cons
abbrev cA:=@List.getElem?_eq_some_iff
abbrev cE:=@List.length_drop
abbrev cH:=@List.getElem_set_self
abbrev cL:=@List.drop_eq_nil_of_le
abbrev cM:=@decide_eq_false_iff_not
abbrev cN:=@Bool.eq_iff_iff
abbrev cO:=@List.length_replicate
abbrev cP:=@decide_eq_true_eq
abbrev cQ:=@List.all_eq_true
abbrev cT:=@Int.toNat_natCast
abbrev cU:=@of_decide_eq_true
abbrev cW:=@Nat.eq_zero_or_pos
abbrev cX:=@Nat.eq_of_beq_eq_true
abbrev cZ:=@beq_eq_false_iff_ne
abbrev dA:=@decide_eq_true
abbrev dB:=@List.getElem?_append_left
abbrev dC:=@List.map_nil
abbrev dG:=@List.getElem?_append_right
abbrev dJ:=@Nat.lt_or_ge
abbrev dO:=@Nat.zero_add
abbrev dP:=@List.drop_length
abbrev dQ:=@decide_eq_false
abbrev dR:=@Nat.le_trans
abbrev dT:=@Option.some.inj
abbrev dZ:=@List.take_append_drop
abbrev eB:=@Decidable.em
abbrev eC:=@Array.getElem?_setIfInBounds
abbrev eG:=@Nat.add_mul
abbrev eH:=@List.mem_append_left
abbrev eI:=@beq_iff_eq
abbrev eJ:=@Nat.mul_le_mul_right
abbrev eK:=@List.flatMap_append
abbrev eM:=@List.mem_append_right
abbrev eN:=@List.length_singleton
abbrev eS:=@Bool.or_eq_true
abbrev eU:=@List.getElem?_eq_none
abbrev eV:=@Bool.and_assoc
abbrev eW:=@Nat.min_eq_left
abbrev eX:=@List.set_eq_take_append_cons_drop
abbrev eZ:=@Bool.or_eq_false_iff
abbrev fA:=@Nat.add_assoc
abbrev fB:=@Bool.or_assoc
abbrev fC:=@List.map_map
abbrev fE:=@List.size_toArray
abbrev fH:=@List.getElem_of_mem
abbrev fI:=@Nat.blt_eq
abbrev fL:=@List.getElem?_take
abbrev fO:=@Nat.add_sub_cancel
abbrev fT:=@List.getElem_cons_zero
abbrev fU:=@List.getElem_cons_succ
abbrev fW:=@List.cons.inj
abbrev fY:=@List.drop_zero
abbrev fZ:=@List.length_filter_le
abbrev gA:=@List.set_getElem_self
abbrev gB:=@List.mem_or_eq_of_mem_set
abbrev gK:=@Array.length_toList
abbrev gM:=@List.getD_cons_zero
abbrev gN:=@List.take_zero
abbrev gR:=@List.getElem?_drop
abbrev gS:=@List.zip_cons_cons
abbrev gV:=@List.getElem?_toArray
abbrev gW:=@List.singleton_append
abbrev gX:=@List.nodup_cons
abbrev gY:=@List.mem_filter
abbrev gZ:=@Bool.true_and
abbrev hU:=@Bool.not_eq_true'
abbrev iA:=@bne_iff_ne
abbrev iD:=@List.getElem_append_right
abbrev iE:=@List.drop_drop
abbrev iF:=@Nat.add_zero
abbrev iG:=@List.getElem_map
abbrev iH:=@List.not_mem_nil
abbrev iI:=@Array.getElem?_setIfInBounds_ne
abbrev iJ:=@List.getElem?_replicate
abbrev iK:=@List.all_cons
abbrev iL:=@Option.map_some
abbrev iN:=@Bool.false_eq_true
abbrev iO:=@Bool.not_eq_false'
abbrev iP:=@List.filter_append
abbrev iQ:=@Nat.ne_of_beq_eq_false
abbrev iR:=@Nat.mul_one
abbrev iU:=@List.take_left
abbrev iW:=@List.set_set
abbrev iY:=@Array.getD_eq_getD_getElem?
abbrev jB:=@List.mem_of_getElem?
abbrev jD:=@List.filter_cons
abbrev jG:=@List.flatMap_map
abbrev jI:=@Nat.zero_lt_succ
abbrev jJ:=@List.mem_of_mem_tail
abbrev jK:=@Array.getElem?_eq_some_iff
abbrev jL:=@Prod.mk.injEq
abbrev jO:=@Array.toList_append
abbrev jP:=@bne_eq_false_iff_eq
abbrev jQ:=@List.mem_of_find?_eq_some
abbrev jR:=@List.cons.injEq
abbrev jS:=@List.append_inj
abbrev jT:=@Nat.not_lt_zero
abbrev jU:=@List.range_succ
abbrev jY:=@Nat.pos_of_ne_zero
abbrev kB:=@Nat.add_sub_cancel_left
abbrev kC:=@List.ext_getElem?
abbrev kD:=@Array.size_append
abbrev kE:=@Decidable.not_not
abbrev kG:=@Option.map_eq_some_iff
abbrev kH:=@List.eraseIdx_append_of_length_le
abbrev kJ:=@List.length_eq_one_iff
abbrev kM:=@List.sum_cons
abbrev kN:=@List.any_eq_true
abbrev kO:=@List.flatMap_nil
abbrev kP:=@Nat.le_add_right
abbrev kU:=@Array.toArray_toList
abbrev kV:=@List.foldl_cons
abbrev kW:=@Nat.add_comm
abbrev kY:=@List.all_append
abbrev lA:=@Nat.sub_self
abbrev lC:=@List.replicate_succ'
abbrev lE:=@List.mem_of_mem_take
abbrev lF:=@Int.natCast_add
abbrev lG:=@List.takeWhile_cons
abbrev lH:=@List.getD_cons_succ
abbrev lI:=@Nat.one_mul
abbrev lJ:=@Int.lt_of_lt_of_le
abbrev lK:=@List.any_cons
theorem lM {α:Sort _}(a:α): ∃ x,x=a:=⟨a,rfl⟩
end Wx
set_option maxHeartbeats 16000000
set_option linter.all false
namespace Wx
open Go Go.RowKit
section
variable {b:Nat}{φ:Prop}{o:Obj}
abbrev Hp:=Nat->Option Obj
variable {h k:Hp}
def Hle (h k:Hp):Prop:= ∀ b o,h b=some o->k b=some o
def Hdj (h k:Hp):Prop:= ∀ b,h b=none\/k b=none
theorem Hle.refl (h:Hp):Hle h h:=fun _ _ e=>e
theorem Hle.trans {a b c:Hp}(h:Hle a b)(k:Hle b c):Hle a c:=fun x o e=>k x o (h x o e)
theorem Hdj.symm (d:Hdj h k):Hdj k h:=fun b=>(d b).symm
theorem Hdj.mono {h' k':Hp}(d:Hdj h k)(a:Hle h' h)(b:Hle k' k):Hdj h' k':=by
 intro x;rcases d x with e|e
 . left;cases hx:h' x with
   |none=>rfl
   |some o=>have:=a x o hx;rw [e] at this;cases this
 right;cases hx:k' x with
 |none=>rfl
 |some o=>have:=b x o hx;rw [e] at this;cases this
def V6 (h k:Hp):Hp:=fun b=>match h b with|some o=>some o|none=>k b
theorem Hle.join_left (h k:Hp):Hle h (V6 h k):=by intro b o e;simp [V6,e]
theorem Hle.join_right (d:Hdj h k):Hle k (V6 h k):=by
 intro b o e;rcases d b with n|n
 . simp [V6,n,e]
 rw [n] at e;cases e
theorem Hle.join {m:Hp}(a:Hle h m)(b:Hle k m):Hle (V6 h k) m:=by
 intro x o e;unfold V6 at e
 cases hx:h x with
 |none=>rw [hx] at e;exact b x o e
 |some o'=>rw [hx] at e;cases e;exact a x _ hx
theorem Hdj.join_right {a:Hp}(d:Hdj a h)(e:Hdj a k):Hdj a (V6 h k):=by
 intro b;rcases d b with n|n
 . exact .inl n
 rcases e b with m|m
 . exact .inl m
 right;simp [V6,n,m]
structure HP where
 p:Hp->Hp->Prop
 mono: ∀ {M M' h h':Hp},Hle M M'->Hle h h'->p M h->p M' h'
variable {a cs ds r:List HP}{A:HP}
def emp:HP:=⟨fun _ _=>True,fun _ _ _=>trivial⟩
def pto (b:Nat)(o:Obj):HP:=⟨fun _ h=>h b=some o,fun _ e k=>e _ _ k⟩
def im (b:Nat)(o:Obj):HP:=⟨fun M _=>M b=some o,fun e _ k=>e _ _ k⟩
def pure (φ:Prop):HP:=⟨fun _ _=>φ,fun _ _ k=>k⟩
def star (A B:HP):HP:=⟨fun M h=> ∃ h₁ h₂,Hdj h₁ h₂/\Hle h₁ h/\Hle h₂ h/\A.p M h₁/\B.p M h₂,
 fun e e' ⟨h₁,h₂,d,a,b,p,q⟩=>⟨h₁,h₂,d,a.trans e',b.trans e',A.mono e (.refl _) p,B.mono e (.refl _) q⟩⟩
def ex {α:Sort _}(A:α->HP):HP:=⟨fun M h=> ∃ x,(A x).p M h,fun e e' ⟨x,p⟩=>⟨x,(A x).mono e e' p⟩⟩
def stars:List HP->HP
 | []=>emp
 |A::r=>star A (stars r)
def Le (cs ds:List HP):Prop:= ∀ M h,(stars cs).p M h->(stars ds).p M h
theorem Le.refl (cs:List HP):Le cs cs:=fun _ _ h=>h
abbrev aH:=@Le.refl
theorem Le.trans {b c:List HP}(h:Le a b)(k:Le b c):Le a c:=fun M x p=>k M x (h M x p)
abbrev aM:=@Le.trans
theorem Le.nil (cs:List HP):Le cs []:=fun _ _ _=>trivial
theorem Le.cons (A:HP)(h:Le cs ds):Le (A::cs) (A::ds):=
 fun M _ ⟨h₁,h₂,d,a,b,p,q⟩=>⟨h₁,h₂,d,a,b,p,h M _ q⟩
abbrev cG:=@Le.cons
theorem Le.drop (A:HP)(cs:List HP):Le (A::cs) cs:=fun _ _ ⟨_,_,_,_,b,_,q⟩=>(stars cs).mono (.refl _) b q
abbrev dX:=@Le.drop
theorem Le.swap (A B:HP)(cs:List HP):Le (A::B::cs) (B::A::cs):=by
 rintro M h ⟨f,j,d,a,b,p,g,c,e,k,i,p',q⟩;refine ⟨g,V6 f c,?_,k.trans b,.join a (i.trans b),p',f,c,(d.mono (.refl _) i),.join_left _ _,.join_right (d.mono (.refl _) i),p,q⟩;exact .join_right ((d.mono (.refl _) k).symm) e
abbrev iS:=@Le.swap
theorem Le.there (B:HP)(h:Le cs (A::r)):Le (B::cs) (A::B::r):=(h.cons B).trans (.swap _ _ _)
theorem Le.here (A:HP)(cs:List HP):Le (A::cs) (A::cs):= .refl _
theorem Le.pick (h:Le cs (A::r))(k:Le r ds):Le cs (A::ds):=h.trans (k.cons A)
abbrev bD:=@Le.pick
theorem F9 (h:Le cs ds):Le (A::cs) ds:=(dX A cs).trans h
theorem Le.one {B:HP}(h: ∀ M x,A.p M x->B.p M x):Le (A::cs) (B::cs):=
 fun M _ ⟨h₁,h₂,d,a,b,p,q⟩=>⟨h₁,h₂,d,a,b,h M _ p,q⟩
theorem Q2 (ds:List HP){b:List HP}(h:Le a b):Le (ds++a) (ds++b):=by
 induction ds with
 |nil=>exact h
 |cons A r ih=>exact ih.cons A
theorem Le.split (A B:HP)(cs:List HP):Le (star A B::cs) (A::B::cs):=by
 rintro M h ⟨j,f,d,a,b,⟨g,c,e,k,i,p,p'⟩,q⟩;refine ⟨g,V6 c f,?_,k.trans a,.join (i.trans a) b,p,c,f,d.mono i (.refl _),.join_left _ _,.join_right (d.mono i (.refl _)),p',q⟩;exact .join_right e (d.mono k (.refl _))
theorem Le.fuse (A B:HP)(cs:List HP):Le (A::B::cs) (star A B::cs):=by
 rintro M h ⟨f,j,d,a,b,p,c,g,e,i,k,p',q⟩;refine ⟨V6 f c,g,?_,.join a (i.trans b),k.trans b,⟨f,c,d.mono (.refl _) i,.join_left _ _,.join_right (d.mono (.refl _) i),p,p'⟩,q⟩;exact (Hdj.join_right (d.mono (.refl _) k).symm e.symm).symm
theorem Wq (a b:List HP):Le (a++b) a:=by
 induction a with
 |nil=>exact Le.nil _
 |cons A r ih=>exact ih.cons A
theorem Zm (cs ds:List HP):Le (cs++ds) (stars cs::ds):=by
 induction cs with
 |nil=>exact fun M h p=>⟨fun _=>none,h,fun _=> .inl rfl,fun _ _ e=>by simp at e,.refl _,trivial,p⟩
 |cons A r ih=>exact (ih.cons A).trans (.fuse _ _ _)
theorem Zy (cs ds:List HP):Le (stars cs::ds) (cs++ds):=by
 induction cs with
 |nil=>exact .drop _ _
 |cons A r ih=>exact (Le.split _ _ _).trans (ih.cons A)
theorem Yc (h:φ)(cs:List HP):Le cs (pure φ::cs):=
 fun _ k p=>⟨fun _=>none,k,fun _=> .inl rfl,fun _ _ e=>by simp at e,.refl _,h,p⟩
theorem Le.of_ex {α:Sort _}{A:α->HP}(h: ∀ x,Le (A x::cs) ds):Le (ex A::cs) ds:=by
 rintro M k ⟨c,b,d,a,e,⟨x,p⟩,q⟩;exact h x M k ⟨c,b,d,a,e,p,q⟩
theorem Wa {α:Sort _}{A:α->HP}(x:α)(h:Le cs (A x::ds)):Le cs (ex A::ds):=
 h.trans (.one fun _ _ p=>⟨x,p⟩)
def wh (w:World):Hp:=fun b=>w.heap[b]?
def St (G w:World)(cs:List HP):Prop:=
 Below G.heap.size G w/\ ∃ M h:Hp,Hle M (wh w)/\Hle h (wh w)/\(∀ b o,h b=some o->G.heap.size<=b)/\Hdj M h/\Hle (wh G) M/\(stars cs).p M h
variable {G w w':World}
theorem St.le (s:St G w cs)(h:Le cs ds):St G w ds:=let ⟨b,M,k,a,c,d,e,f,p⟩:=s;⟨b,M,k,a,c,d,e,f,h M k p⟩
theorem St.get_pure (s:St G w (pure φ::cs)):φ:=let ⟨_,_,_,_,_,_,_,_,_,_,_,_,_,p,_⟩:=s;p
theorem St.get_ex {α:Sort _}{A:α->HP}(s:St G w (ex A::cs)): ∃ x,St G w (A x::cs):=
 let ⟨b,M,k,a,c,d,e,f,h₁,h₂,i,j,l,⟨x,p⟩,q⟩:=s;⟨x,b,M,k,a,c,d,e,f,h₁,h₂,i,j,l,p,q⟩
def Has (cs:List HP)(b:Nat)(o:Obj):Prop:= ∀ M h,(stars cs).p M h->M b=some o\/h b=some o
theorem Has.pto (b:Nat)(o:Obj)(cs:List HP):Has (pto b o::cs) b o:=fun _ _ ⟨_,_,_,a,_,p,_⟩=> .inr (a _ _ p)
abbrev dU:=@Has.pto
theorem Has.im (b:Nat)(o:Obj)(cs:List HP):Has (im b o::cs) b o:=fun _ _ ⟨_,_,_,_,_,p,_⟩=> .inl p
abbrev iT:=@Has.im
theorem Has.there (h:Has cs b o):Has (A::cs) b o:=
 fun M _ ⟨_,_,_,_,e,_,q⟩=>(h M _ q).imp id (e _ _)
theorem Has.le (h:Has ds b o)(k:Le cs ds):Has cs b o:=fun M x p=>h M x (k M x p)
theorem St.has (s:St G w cs)(h:Has cs b o):w.heap[b]? =some o:=by
 obtain ⟨_,M,k,a,c,_,_,_,p⟩:=s;rcases h M k p with e|e
 . exact a _ _ e
 exact c _ _ e
theorem St.put {o':Obj}(s:St G w (pto b o::cs))(hb:w'.heap[b]? =some o')(hne: ∀ k,k≠b->w'.heap[k]? =w.heap[k]?)
 (hs:w'.heap.size=w.heap.size) (h1:w'.os=w.os) (h2:w'.tape=w.tape) (h3:w'.output=w.output):St G w' (pto b o'::cs):=by
 obtain ⟨y,M,h,a,c,d,e,f,r,t,v,m,l,p,q⟩:=s;have j:h b=some o:=m _ _ p;have u:G.heap.size<=b:=d _ _ j
 refine ⟨y.trans ⟨h1,h2,h3,by omega,fun k z=>hne k (by omega)⟩,M,V6 (fun x=>if x=b then some o' else none) (fun x=>if x=b then none else h x),?_,?_,?_,?_,f,
  (fun x=>if x=b then some o' else none),(fun x=>if x=b then none else h x),?_,.join_left _ _,?_,?_,?_⟩
 . intro x i hx;have g:x≠b:=by rintro rfl;rcases e x with n|n<;>simp_all
   exact (hne x g).trans (a _ _ hx)
 . intro x i hx;by_cases g:x=b
   . subst g;simp [V6] at hx;subst hx;exact hb
   simp [V6,g] at hx;exact (hne x g).trans (c _ _ hx)
 . intro x i hx;by_cases g:x=b
   . omega
   simp [V6,g] at hx;exact d _ _ hx
 . intro x;by_cases g:x=b
   . subst g;left;rcases e x with n|n
     . exact n
     rw [n] at j;cases j
   rcases e x with n|n
   . exact .inl n
   right;simp [V6,g,n]
 . intro x;by_cases g:x=b<;>simp [g]
 . refine .join_right ?_;intro x;by_cases g:x=b<;>simp [g]
 . simp [pto]
 refine (stars cs).mono (.refl _) ?_ q;intro x i hx
 have g:x≠b:=by
  rintro rfl;rcases v x with n|n
  . have p':r x=some o:=p;rw [n] at p';cases p'
  rw [n] at hx;cases hx
 simp [g];exact l _ _ hx
theorem St.new (s:St G w cs)(hn:w'.heap=w.heap.push o)(h1:w'.os=w.os)(h2:w'.tape=w.tape)(h3:w'.output=w.output):
 St G w' (pto w.heap.size o::cs):=by
 obtain ⟨p,M,h,a,c,d,e,f,q⟩:=s;have j: ∀ x b,w.heap[x]? =some b->x<w.heap.size:=fun x b hx=>(jK.1 hx).1
 have g: ∀ x,x≠w.heap.size->w'.heap[x]? =w.heap[x]? :=by
  intro x hx;rw [hn,Array.getElem?_push,if_neg hx]
 have i:w'.heap[w.heap.size]? =some o:=by rw [hn,Array.getElem?_push,if_pos rfl]
 have m:M w.heap.size=none:=by
  cases hm:M w.heap.size with
  |none=>rfl
  |some b=>have:=j _ _ (a _ _ hm);omega
 have l:h w.heap.size=none:=by
  cases hm:h w.heap.size with
  |none=>rfl
  |some b=>have:=j _ _ (c _ _ hm);omega
 have r:=p.size
 refine ⟨p.trans ⟨h1,h2,h3,by rw [hn];simp,fun k t=>g k (by omega)⟩,M,V6 (fun x=>if x=w.heap.size then some o else none) h,?_,?_,?_,?_,f,
  (fun x=>if x=w.heap.size then some o else none),h,?_,.join_left _ _,?_,?_,q⟩
 . intro x b hx;refine (g x ?_).trans (a _ _ hx);rintro rfl;rw [m] at hx;cases hx
 . intro x b hx;by_cases hxb:x=w.heap.size
   . subst hxb;simp [V6] at hx;subst hx;exact i
   simp [V6,hxb] at hx;exact (g x hxb).trans (c _ _ hx)
 . intro x b hx;by_cases hxb:x=w.heap.size
   . omega
   simp [V6,hxb] at hx;exact d _ _ hx
 . intro x;by_cases hxb:x=w.heap.size
   . subst hxb;exact .inl m
   rcases e x with n|n
   . exact .inl n
   right;simp [V6,hxb,n]
 . intro x;by_cases hxb:x=w.heap.size
   . subst hxb;exact .inr l
   simp [hxb]
 . refine .join_right ?_;intro x;by_cases hxb:x=w.heap.size
   . subst hxb;exact .inr l
   simp [hxb]
 simp [pto]
theorem St.same (s:St G w cs)(hh:w'.heap=w.heap)(h1:w'.os=w.os)(h2:w'.tape=w.tape)(h3:w'.output=w.output):St G w' cs:=by
 obtain ⟨g,M,h,a,c,d,e,f,q⟩:=s;have b:wh w'=wh w:=by funext x;simp [wh,hh]
 exact ⟨g.trans ⟨h1,h2,h3,by rw [hh];exact aU _,fun k _=>by rw [hh]⟩,M,h,b ▸ a,b ▸ c,d,e,f,q⟩
theorem St.freeze (s:St G w (pto b o::cs)):St G w (im b o::cs):=by
 obtain ⟨v,M,h,a,c,d,e,f,r,i,u,m,g,p,q⟩:=s;have l:h b=some o:=m _ _ p;have t:M b=none:=by rcases e b with n|n;exact n;rw [n] at l;cases l
 have k:Hle M (V6 M (fun x=>if x=b then some o else none)):= .join_left _ _
 refine ⟨v,V6 M (fun x=>if x=b then some o else none),i,?_,g.trans c,fun x j hx=>d _ _ (g _ _ hx),?_,f.trans k,fun _=>none,i,fun _=> .inl rfl,
  fun _ _ e=>by simp at e,.refl _,?_,(stars cs).mono k (.refl _) q⟩
 . refine .join a ?_;intro x j hx;by_cases hxb:x=b
   . subst hxb;simp at hx;subst hx;exact c _ _ l
   simp [hxb] at hx
 . intro x;by_cases hxb:x=b
   . subst hxb;right;rcases u x with n|n
     . have p':r x=some o:=p;rw [n] at p';cases p'
     exact n
   rcases e x with n|n
   . left;simp [V6,n,hxb]
   right
   cases hx:i x with
   |none=>rfl
   |some j=>have:=g _ _ hx;rw [n] at this;cases this
 simp [im,V6,t]
end
section
variable {tm:Array Value}{c:Operand}{v:Value}{P:Program}{ds:List Deferred}{cs:List Frame}{todo:List Item}{q':List HP}{b t e:Code}{l id:Nat}
abbrev PE:=List (Nat×Value)
variable {p p':PE}
def lkp:PE->Nat->Option Value
 | [],_=>none
 |(d,v)::r,t=>bif Nat.beq d t then some v else lkp r t
def Agr (tm:Array Value)(p:PE):Prop:= ∀ t v,lkp p t=some v->tm.getD t undef=v
def evp (p:PE):Operand->Option Value
 | .tmp t=>lkp p t
 | .const v=>some v
 | .global g=>some (.pointer (some ⟨g,0,none⟩))
 | .func f=>some (.func (.func f) #[] #[])
def evl (p:PE):List Operand->Option (List Value)
 | []=>some []
 |x::r=>match evp p x,evl p r with
  |some v,some vs=>some (v::vs)
  |_,_=>none
def evA (tm:Array Value):Operand->Value
 | .tmp t=>tm.getD t undef
 | .const v=>v
 | .global g=> .pointer (some ⟨g,0,none⟩)
 | .func f=> .func (.func f) #[] #[]
theorem Zp (a:Agr tm p){x:Operand}(h:evp p x=some v):evA tm x=v:=by
 cases x with
 |tmp t=>exact a t v h
 |const c=>simpa [evp,evA] using h
 |global g=>simpa [evp,evA] using h
 |func f=>simpa [evp,evA] using h
theorem Nb (a:Agr tm p): ∀ {l:List Operand} {vs:List Value},evl p l=some vs->l.map (evA tm)=vs:=by
 intro l
 induction l with
 |nil=>intro vs h;simpa [evl] using h
 |cons x r ih=>
  intro vs h;simp only [evl] at h;split at h
  . rename_i v ws c b
    cases h
    simp [Zp a c,ih b]
  cases h
def SubP:PE->PE->Prop
 | [],_=>True
 |(d,v)::r,p=>lkp p d=some v/\SubP r p
theorem SubP.lk (h:SubP p' p): ∀ t v,lkp p' t=some v->lkp p t=some v:=by
 induction p' with
 |nil=>intro t v e;simp [lkp] at e
 |cons x r ih=>
  obtain ⟨d,u⟩:=x;intro t v e;simp only [lkp] at e
  cases hb:Nat.beq d t with
  |true=>
   rw [hb] at e;simp at e;have:=cX hb;subst this;subst e;exact h.1
  |false=>rw [hb] at e;exact ih h.2 t v (by simpa using e)
theorem Agr.sub (a:Agr tm p)(h:SubP p' p):Agr tm p':=fun t v e=>a t v (h.lk t v e)
def Qg (p:PE):Option Tmp->Value->PE
 |some d,v=>(d,v)::p
 |none,_=>p
def Wg (tm:Array Value):Option Tmp->Value->Array Value
 |some d,v=>tm.setIfInBounds d v
 |none,_=>tm
def dOk (n:Nat):Option Tmp->Bool
 |some d=>Nat.blt d n
 |none=>true
theorem Yg (tm:Array Value)(d:Option Tmp)(v:Value):(Wg tm d v).size=tm.size:=by cases d<;>simp [Wg]
theorem Agr.put (a:Agr tm p){d:Option Tmp}(hd:dOk tm.size d=true):Agr (Wg tm d v) (Qg p d v):=by
 cases d with
 |none=>exact a
 |some d=>
  have c:d<tm.size:=by simpa [dOk,fI] using hd
  intro t u e;simp only [Qg,lkp] at e
  cases hb:Nat.beq d t with
  |true=>
   rw [hb] at e;have:=cX hb;subst this;simp at e;subst e;simp [Wg,c]
  |false=>
   rw [hb] at e;have b:d≠t:=iQ hb;have:=a t u (by simpa using e);simpa [Wg,eC,b] using this
structure Fc where
 fn:FuncId
 n:Nat
 kind:CallKind
 round:Option Nat
variable {f:Fc}
def Fc.fr (f:Fc)(tm:Array Value)(ds:List Deferred)(todo:List Item):Frame:=
 { fn:=f.fn,tmps:=tm,todo,defers:=ds,mode:= .run,kind:=f.kind,roundOf:=f.round }
inductive Out where
 |fall
 |jump (c:Code)
 |panic (ch:List PanicEntry)
def Gone (c:Code)(k:List Item):Prop:=c= .ret\/(∃ id,c= .exit id/\exitTo id k=none)\/(∃ l,c= .goto l/\gotoIn l k=none)
def Arr (P:Program)(f:Fc)(m:Machine):Out->Array Value->List Deferred->List Frame->World->Prop
 | .fall,tm,ds,cs,w=>Steps P m (lone (f.fr tm ds []) cs w)
 | .jump c,tm,ds,cs,w=> ∃ k,Gone c k/\Steps P m (lone (f.fr tm ds (.code c::k)) cs w)
 | .panic ch,tm,ds,cs,w=> ∃ k,Steps P m (lone { f.fr tm ds k with mode:= .panicking ch } cs w)
theorem Arr.head {m m₁:Machine}{o:Out}{w:World}
 (s:Steps P m m₁) (h:Arr P f m₁ o tm ds cs w):Arr P f m o tm ds cs w:=by
 cases o with
 |fall=>exact s.trans h
 |jump c=>obtain ⟨k,g,h⟩:=h;exact ⟨k,g,s.trans h⟩
 |panic ch=>obtain ⟨k,h⟩:=h;exact ⟨k,s.trans h⟩
abbrev Yw:=Out->PE->List Deferred->List Frame->List HP->Prop
def X (P:Program)(G:World)(f:Fc)(Q:Yw)(todo:List Item)(p:PE)(ds:List Deferred)(cs:List Frame)(q:List HP):Prop:=
 ∀ tm w,tm.size=f.n->Agr tm p->St G w q->
  ∃ o tm' p' ds' cs' w' q',Q o p' ds' cs' q'/\tm'.size=f.n/\Agr tm' p'/\St G w' q'/\Arr P f (lone (f.fr tm ds todo) cs w) o tm' ds' cs' w'
section code
variable {G:World}{Q:Yw}{k:List Item}{q:List HP}
theorem X.le (h:Le q q')(x:X P G f Q todo p ds cs q'):X P G f Q todo p ds cs q:=
 fun tm w n a s=>x tm w n a (s.le h)
abbrev cS:=@X.le
theorem X.sub (h:SubP p' p)(x:X P G f Q todo p' ds cs q):X P G f Q todo p ds cs q:=
 fun tm w n a s=>x tm w n (a.sub h) s
theorem X.at (x:X P G f Q todo p' ds cs q')(h:SubP p' p)(l:Le q q'):X P G f Q todo p ds cs q:=(x.sub h).le l
abbrev aX:=@X.at
theorem X.pure {todo:List Item}{φ:Prop}(x:φ->X P G f Q todo p ds cs q):X P G f Q todo p ds cs (pure φ::q):=
 fun tm w n a s=>x s.get_pure tm w n a (s.le (.drop _ _))
theorem X.ex {todo:List Item}{α:Sort _}{A:α->HP}(x: ∀ y,X P G f Q todo p ds cs (A y::q)):X P G f Q todo p ds cs (ex A::q):=
 fun tm w n a s=>let ⟨y,s'⟩:=s.get_ex;x y tm w n a s'
theorem X.freeze {b:Nat}{o:Obj}(x:X P G f Q todo p ds cs (im b o::q)):X P G f Q todo p ds cs (pto b o::q):=
 fun tm w n a s=>x tm w n a s.freeze
abbrev fX:=@X.freeze
theorem X.know (s:Nat)(u:Value)(h:lkp p s=some v)(e:v=u)(K:X P G f Q todo ((s,u)::p) ds cs q):X P G f Q todo p ds cs q:=by
 subst e;refine fun tm w n c st=>K tm w n (fun j b a=>c j b ?_) st
 simp only [lkp] at a
 cases hb:Nat.beq s j with
 |true=>rw [hb] at a;have:=cX hb;subst this;rw [h];simpa using a
 |false=>rw [hb] at a;simpa using a
abbrev fR:=@X.know
theorem X.step {todo':List Item}(h: ∀ tm w,step P (lone (f.fr tm ds todo) cs w)= .next (lone (f.fr tm ds todo') cs w))
 (x:X P G f Q todo' p ds cs q):X P G f Q todo p ds cs q:=by
 intro tm w n a s;obtain ⟨o,b,p',c,d,w',q',k,i,j,g,e⟩:=x tm w n a s;exact ⟨o,b,p',c,d,w',q',k,i,j,g,e.head (.one (h tm w))⟩
theorem X.seq {a:Code}(x:X P G f Q (.code a:: .code b::k) p ds cs q):X P G f Q (.code (.seq a b)::k) p ds cs q:=
 .step (fun _ _=>step_lone_go (by simp [stepG,stepG.exec,Fc.fr])) x
theorem X.skip (x:X P G f Q k p ds cs q):X P G f Q (.code .skip::k) p ds cs q:=
 .step (fun _ _=>step_lone_go (by simp [stepG,stepG.exec,Fc.fr])) x
theorem X.label (x:X P G f Q k p ds cs q):X P G f Q (.code (.label l)::k) p ds cs q:=
 .step (fun _ _=>step_lone_go (by simp [stepG,stepG.exec,Fc.fr])) x
theorem X.inBlock (x:X P G f Q k p ds cs q):X P G f Q (.inBlock l::k) p ds cs q:=
 .step (fun _ _=>step_lone_go (by simp [stepG,stepG.exec,Fc.fr])) x
theorem X.inScope (x:X P G f Q k p ds cs q):X P G f Q (.inScope b::k) p ds cs q:=
 .step (fun _ _=>step_lone_go (by simp [stepG,stepG.exec,Fc.fr])) x
theorem X.block (x:X P G f Q (.code b:: .inBlock l::k) p ds cs q):X P G f Q (.code (.block l b)::k) p ds cs q:=
 .step (fun _ _=>step_lone_go (by simp [stepG,stepG.exec,Fc.fr])) x
theorem X.scope (x:X P G f Q (.code b:: .inScope b::k) p ds cs q):X P G f Q (.code (.scope b)::k) p ds cs q:=
 .step (fun _ _=>step_lone_go (by simp [stepG,stepG.exec,Fc.fr])) x
theorem X.inLoop (x:X P G f Q (.code b:: .inLoop b::k) p ds cs q):X P G f Q (.inLoop b::k) p ds cs q:=
 .step (fun _ _=>step_lone_go (by simp [stepG,stepG.exec,Fc.fr])) x
theorem X.loop1 (x:X P G f Q (.code b:: .inLoop b::k) p ds cs q):X P G f Q (.code (.loop b)::k) p ds cs q:=
 .step (fun _ _=>step_lone_go (by simp [stepG,stepG.exec,Fc.fr])) x
theorem X.exit {k':List Item}(h:exitTo id k=some k')(x:X P G f Q k' p ds cs q):X P G f Q (.code (.exit id)::k) p ds cs q:=
 .step (fun _ _=>step_lone_go (by simp [stepG,stepG.exec,Fc.fr,h])) x
theorem Kc (f:Fc)(tm:Array Value)(ds:List Deferred)(todo:List Item)(x:Operand):(f.fr tm ds todo).eval x=evA tm x:=by cases x<;>rfl
theorem X.cond_at {b:Bool}(hc:evp p c=some (.bool b))(x:X P G f Q (.code (if b then t else e)::k) p ds cs q):
 X P G f Q (.code (.cond c t e)::k) p ds cs q:=by
 intro tm w n a s;obtain ⟨o,d,p',g,h,w',q',u,m,r,l,i⟩:=x tm w n a s;refine ⟨o,d,p',g,h,w',q',u,m,r,l,i.head (.one (step_lone_go ?_))⟩;have j:(f.fr tm ds (.code (.cond c t e)::k)).eval c= .bool b:=(Kc ..).trans (Zp a hc);simp only [Fc.fr] at j;simp [stepG,stepG.exec,Fc.fr,j]
theorem X.condT (hc:evp p c=some (.bool true))(x:X P G f Q (.code t::k) p ds cs q):X P G f Q (.code (.cond c t e)::k) p ds cs q:= .cond_at hc x
theorem X.condF (hc:evp p c=some (.bool false))(x:X P G f Q (.code e::k) p ds cs q):X P G f Q (.code (.cond c t e)::k) p ds cs q:= .cond_at hc x
theorem X.fall (h:Q .fall p ds cs q):X P G f Q [] p ds cs q:=fun tm w n a s=>⟨.fall,tm,p,ds,cs,w,q,h,n,a,s,.refl P _⟩
abbrev gC:=@X.fall
theorem X.ret (h:Q (.jump .ret) p ds cs q):X P G f Q (.code .ret::k) p ds cs q:=
 fun tm w n a s=>⟨.jump .ret,tm,p,ds,cs,w,q,h,n,a,s,k,.inl rfl,.refl P _⟩
abbrev jA:=@X.ret
theorem X.out (hk:exitTo id k=none)(h:Q (.jump (.exit id)) p ds cs q):X P G f Q (.code (.exit id)::k) p ds cs q:=
 fun tm w n a s=>⟨.jump (.exit id),tm,p,ds,cs,w,q,h,n,a,s,k,.inr (.inl ⟨id,rfl,hk⟩),.refl P _⟩
theorem X.loop {α:Sort _}(Inv:α->Prop)(pI:α->PE)(qI:α->List HP)(μ:α->Nat)
 (round: ∀ a,Inv a->(∀ a',Inv a'->μ a'<μ a->X P G f Q (.inLoop b::k) (pI a') ds cs (qI a'))->X P G f Q (.code b:: .inLoop b::k) (pI a) ds cs (qI a))
 (a:α) (h:Inv a):X P G f Q (.code (.loop b)::k) (pI a) ds cs (qI a):=by
 have c: ∀ n a,μ a=n->Inv a->X P G f Q (.code b:: .inLoop b::k) (pI a) ds cs (qI a):=by
  intro n
  induction n using Nat.strongRecOn with
  |_ n ih=>exact fun a d h=>round a h fun a' g e=> .inLoop (ih (μ a') (d ▸ e) a' rfl g)
 exact .loop1 (c _ a rfl h)
abbrev cC:=@X.loop
end code
def XO (P:Program)(G:World)(f:Fc)(Q:Yw)(ops:Array Oper)(k:List Item)(l:List Oper)(p:PE)(ds:List Deferred)(cs:List Frame)(q:List HP):Prop:=
 ∀ is:List Nat,is.map (ops[·]?)=l.map some->X P G f Q (.inRegion ops is::k) p ds cs q
def Wt (ops:List Oper)(p:PE)(o:Oper):Option Bool:=
 match o.guard with
 |none=>some true
 |some (j,want)=>match (ops[j]?).bind (·.dst) with
  |none=>some false
  |some d=>match lkp p d with
   |some (.bool b)=>some (b==want)
   |some (.tuple _)=>some false
   |_=>none
theorem Yt {ops:List Oper}{p:PE}{o:Oper}{b:Bool}{tm:Array Value}(a:Agr tm p)(h:Wt ops p o=some b):Region.wanted o (yielded ops.toArray tm)=b:=by
 unfold Wt at h;unfold Region.wanted;split at h
 . rename_i f;rw [f];simpa using h
 rename_i j i f;rw [f];dsimp only;unfold yielded;split at h
 . rename_i g;have c:(ops.toArray[j]?).bind (fun x=>x.dst)=none:=by simpa using g
   rw [c];simp at h;subst h;simp
 rename_i d g;have c:(ops.toArray[j]?).bind (fun x=>x.dst)=some d:=by simpa using g
 rw [c];split at h
 . rename_i m e;have:=a d _ e
   have l:tm[d]? =some (.bool m):=by
    cases hx:tm[d]? with
    |none=>simp [hx,undef] at this
    |some u=>simpa [hx] using this
   simp [l];simpa using h
 . rename_i vs e;have:=a d _ e;simp at h;subst h
   cases hx:tm[d]? with
   |none=>simp [hx]
   |some u=>
    have k:u= .tuple vs:=by simpa [hx] using this
    simp [hx,k]
 cases h
section region
variable {P:Program}{G:World}{f:Fc}{Q:Yw}{ops:List Oper}{k:List Item}{p:PE}{ds:List Deferred}{cs:List Frame}{q:List HP}{rest:List Oper}{o:Oper}
theorem X.region {id:Nat}(x:XO P G f Q ops.toArray k ops p ds cs q):X P G f Q (.code (.region id ops.toArray false)::k) p ds cs q:=by
 refine .step (todo':= .inRegion ops.toArray (List.range ops.length)::k) (fun _ _=>step_lone_go (by simp [stepG,stepG.exec,Fc.fr])) (x _ ?_);apply kC;intro i;simp only [bJ];by_cases h:i<ops.length
 . simp [h]
 simp [h]
theorem XO.nil (x:X P G f Q k p ds cs q):XO P G f Q ops.toArray k [] p ds cs q:=by
 intro a h
 cases a with
 |nil=>exact .step (fun _ _=>step_lone_go (by simp [stepG,stepG.exec,Fc.fr])) x
 |cons i r=>simp at h
theorem XO.le {l:List Oper}{q':List HP}(h:Le q q')(x:XO P G f Q ops.toArray k l p ds cs q'):XO P G f Q ops.toArray k l p ds cs q:=fun is e=>(x is e).le h
abbrev eP:=@XO.le
theorem XO.sub {l:List Oper}{p':PE}(h:SubP p' p)(x:XO P G f Q ops.toArray k l p' ds cs q):XO P G f Q ops.toArray k l p ds cs q:=fun is e=>(x is e).sub h
theorem XO.pure {l:List Oper}{φ:Prop}(x:φ->XO P G f Q ops.toArray k l p ds cs q):XO P G f Q ops.toArray k l p ds cs (pure φ::q):=fun is e=> .pure fun h=>x h is e
theorem XO.ex {l:List Oper}{α:Sort _}{A:α->HP}(x: ∀ y,XO P G f Q ops.toArray k l p ds cs (A y::q)):XO P G f Q ops.toArray k l p ds cs (Wx.ex A::q):=fun is e=> .ex fun y=>x y is e
theorem XO.freeze {l:List Oper}{b:Nat}{o:Obj}(x:XO P G f Q ops.toArray k l p ds cs (im b o::q)):XO P G f Q ops.toArray k l p ds cs (pto b o::q):=fun is e=> .freeze (x is e)
theorem V7 (f:Fc)(tm:Array Value)(ds:List Deferred)(ops:Array Oper)(i:Nat)(r:List Nat)(k:List Item)(v:Value){o:Oper}(ho:ops[i]? =some o):
 (f.fr tm ds (.inRegion ops (i::r)::k)).finish v=f.fr (Wg tm o.dst v) ds (.inRegion ops r::k):=by
 cases hd:o.dst<;>simp [Frame.finish,Fc.fr,ho,Wg,hd]
theorem Qq (f:Fc)(tm:Array Value)(ds:List Deferred)(cs:List Frame)(w:World)(ops:Array Oper)(i:Nat)(r:List Nat)(k:List Item){o:Oper}(ho:ops[i]? =some o)
 (hw:Region.wanted o (yielded ops tm)=true) (hdf: ∀ c,o.op≠ .defer c):
 stepG P true { frame:=f.fr tm ds (.inRegion ops (i::r)::k),callers:=cs,status:= .running,dying:=none } w=
  stepG.apply P true (f.fr tm ds (.inRegion ops (i::r)::k)) cs none (execOp (evA tm) o) w:=by
 have a:(f.fr tm ds (.inRegion ops (i::r)::k)).eval=evA tm:=funext fun x=>Kc ..
 simp only [Fc.fr] at a;simp only [stepG,stepG.exec,stepG.oper,Frame.oper?,Fc.fr,ho,hw,a,iL,Option.getD_some,if_true];split
 . rename_i c _ h;exact aV h (hdf _)
 rfl
theorem XO.pass_ (hw:Wt ops p o=some false)(hd:dOk f.n o.dst=true)(x:XO P G f Q ops.toArray k rest (Qg p o.dst undef) ds cs q):
 XO P G f Q ops.toArray k (o::rest) p ds cs q:=by
 intro j h tm w n a s
 cases j with
 |nil=>simp at h
 |cons i r=>
  obtain ⟨g,m⟩:=fW h;obtain ⟨o',b,p',c,d,w',q',v,t,u,l,e⟩:=x r m (Wg tm o.dst undef) w (by rw [Yg];exact n) (a.put (n ▸ hd)) s;refine ⟨o',b,p',c,d,w',q',v,t,u,l,e.head (.one (step_lone_go ?_))⟩;rw [<-V7 f tm ds _ i r k undef g];have:=Yt a hw;simp [stepG,stepG.exec,Fc.fr,g,this]
theorem XO.run {v:Value}(hw:Wt ops p o=some true)(hd:dOk f.n o.dst=true)
 (hr: ∀ tm w,tm.size=f.n->Agr tm p->St G w q->(execOp (evA tm) o).run P w= .ok (.value v) w\/(v=undef/\(execOp (evA tm) o).run P w= .ok .skip w))
 (x:XO P G f Q ops.toArray k rest (Qg p o.dst v) ds cs q) (hdf: ∀ c,o.op≠ .defer c:=by intro _ h;cases h):XO P G f Q ops.toArray k (o::rest) p ds cs q:=by
 intro t h tm w n a s
 cases t with
 |nil=>simp at h
 |cons i r=>
  obtain ⟨m,d⟩:=fW h;obtain ⟨o',b,p',g,j,w',q',hQ,y,z,u,l⟩:=x r d (Wg tm o.dst v) w (by rw [Yg];exact n) (a.put (n ▸ hd)) s;refine ⟨o',b,p',g,j,w',q',hQ,y,z,u,l.head (.one (step_lone_go ?_))⟩;rw [Qq f tm ds cs w _ i r k m (Yt a hw) hdf,<-V7 f tm ds _ i r k v m];rcases hr tm w n a s with e|⟨rfl,e⟩
  . simp [stepG.apply,e]
  simp [stepG.apply,e]
theorem XO.eff (hw:Wt ops p o=some true)(hd:dOk f.n o.dst=true)
 (hr: ∀ tm w,tm.size=f.n->Agr tm p->St G w q-> ∃ v w' q',((execOp (evA tm) o).run P w= .ok (.value v) w'\/(v=undef/\(execOp (evA tm) o).run P w= .ok .skip w'))/\St G w' q'/\
  XO P G f Q ops.toArray k rest (Qg p o.dst v) ds cs q') (hdf: ∀ c,o.op≠ .defer c:=by intro _ h;cases h):XO P G f Q ops.toArray k (o::rest) p ds cs q:=by
 intro is h tm w n a s
 cases is with
 |nil=>simp at h
 |cons i r=>
  obtain ⟨z,l⟩:=fW h;obtain ⟨v,b,y,g,d,x⟩:=hr tm w n a s;obtain ⟨o',j,p',m,t,w',q',hQ,hn,ha,hs,u⟩:=x r l (Wg tm o.dst v) b (by rw [Yg];exact n) (a.put (n ▸ hd)) d;refine ⟨o',j,p',m,t,w',q',hQ,hn,ha,hs,u.head (.one (step_lone_go ?_))⟩;rw [Qq f tm ds cs w _ i r k z (Yt a hw) hdf,<-V7 f tm ds _ i r k v z];rcases g with e|⟨rfl,e⟩
  . simp [stepG.apply,e]
  simp [stepG.apply,e]
theorem XO.panics {v:Value}(hw:Wt ops p o=some true)
 (hr: ∀ tm w,tm.size=f.n->Agr tm p->St G w q-> ∃ w',(execOp (evA tm) o).run P w= .halt (.panic v) w'/\St G w' q)
 (hQ:Q (.panic [{ v,recovered:=false }]) p ds cs q) (hdf: ∀ c,o.op≠ .defer c:=by intro _ h;cases h):XO P G f Q ops.toArray k (o::rest) p ds cs q:=by
 intro g h tm w n a s
 cases g with
 |nil=>simp at h
 |cons i r=>
  obtain ⟨l,j⟩:=fW h;obtain ⟨b,e,d⟩:=hr tm w n a s;refine ⟨.panic [{ v,recovered:=false }],tm,p,ds,cs,b,q,hQ,n,a,d,.inRegion ops.toArray (i::r)::k,.one (step_lone_go ?_)⟩;rw [Qq f tm ds cs w _ i r k l (Yt a hw) hdf];simp [stepG.apply,e,Frame.raise,Fc.fr]
def okTodo:List Item->Prop
 | .call .. ::_| .extern .. ::_=>False
 |_=>True
def Zzv (fr:Frame)(cs:List Frame)(e:Ending)(w:World):Machine:=
 match e with
 | .returned v=>lone (fr.finish v) cs w
 | .panicked ch=>lone (fr.raise ch) cs w
 | .outgrown=>lone fr cs w
def Ap (P:Program)(s:Sem Next)(w:World)(R:Ending->World->Prop):Prop:=
 ∀ (fr:Frame) (cs:List Frame),fr.mode= .run->okTodo fr.todo-> ∃ e w',R e w'/\e≠ .outgrown/\
  ∃ fr₁ cs₁ w₁,(stepG.apply P true fr cs none s w).bare= .go { frame:=fr₁,callers:=cs₁,status:= .running,dying:=none } w₁/\
   Steps P (lone fr₁ cs₁ w₁) (Zzv fr cs e w')
abbrev Ub:=Ending->List HP->Prop
def CallV (P:Program)(G:World)(fv:Value)(vs:List Value)(pre:List HP)(R:Ub):Prop:=
 ∀ (F:List HP) w,St G w (pre++F)->Ap P (do let d<-Deferred.ofValue fv vs.toArray;invoke d.target d.args) w fun e w'=> ∃ q,R e q/\St G w' (q++F)
def CallF (P:Program)(G:World)(fn:FuncId)(vs:List Value)(pre:List HP)(R:Ub):Prop:=
 ∀ (F:List HP) w,St G w (pre++F)->Calls P fn vs.toArray w fun e w'=>e≠ .outgrown/\ ∃ q,R e q/\St G w' (q++F)
theorem CallF.mono {fn:FuncId}{vs:List Value}{pre:List HP}{R R':Ub}(h:CallF P G fn vs pre R)(hr: ∀ e q,R e q->R' e q):CallF P G fn vs pre R':=by
 intro F w s cs;obtain ⟨e,w',fr,⟨a,q,c,b⟩,rest⟩:=h F w s cs;exact ⟨e,w',fr,⟨a,q,hr e q c,b⟩,rest⟩
abbrev kR:=@CallF.mono
theorem Yq {fn:FuncId}{a b vs:List Value}{pre:List HP}{R:Ub}
 (hc: ∀ args w,(callFunc fn args).run P w= .ok (.enter fn args) w) (h:CallF P G fn (a++vs++b) pre R):CallV P G (.func (.func fn) a.toArray b.toArray) vs pre R:=by
 intro F w s fr cs n g;obtain ⟨e,w',m,⟨f,q,l,j⟩,c,k,i⟩:=h F w s (fr::cs);refine ⟨e,w',⟨q,l,j⟩,f,Frame.enter P fn (a++vs++b).toArray .normal,fr::cs,w,?_,?_⟩
 . have:(do let d<-Deferred.ofValue (.func (.func fn) a.toArray b.toArray) vs.toArray;invoke d.target d.args:Sem Next).run P w= .ok (.enter fn (a++vs++b).toArray) w:=by
    have:=hc (a++vs++b).toArray w;simpa [Deferred.ofValue,invoke,Sem.run_bind,Result.andThen,bind,Sem.bind,Pure.pure] using this
   simp only [stepG.apply,Sem.runT_eq,this,GStep.bare_after,GStep.bare_go,if_true]
   cases ht:fr.todo with
   |nil=>rfl
   |cons x r=>cases x<;>first|rfl|(rw [ht] at g;exact g.elim)
 cases e with
 |returned v=>exact Steps.trans c (.one (step_leave_returned i))
 |panicked ch=>exact Steps.trans c (.one (step_leave_panicked i))
 |outgrown=>exact aV rfl f
theorem XO.callE {d:Option Tmp}{fo:Operand}{args:List Operand}{ats:Array TypeId}{ty:TypeId}{pos:String}{af:Array Edge}{gd:Option (Nat×Bool)}
 {fv:Value} {vs:List Value} {pre F:List HP} {R:Ub}
 (hw:Wt ops p ⟨d,.call ⟨.value fo,args.toArray,ats⟩,ty,pos,af,gd⟩=some true) (hd:dOk f.n d=true)
 (hf:evp p fo=some fv) (hv:evl p args=some vs) (hc:CallV P G fv vs pre R) (hq:Le q (pre++F))
 (x: ∀ v q',R (.returned v) q'->XO P G f Q ops.toArray k rest (Qg p d v) ds cs (q'++F))
 (xp: ∀ ch q',R (.panicked ch) q'->Q (.panic ch) p ds cs (q'++F)):
 XO P G f Q ops.toArray k (⟨d,.call ⟨.value fo,args.toArray,ats⟩,ty,pos,af,gd⟩::rest) p ds cs q:=by
 intro is h tm w n a s
 cases is with
 |nil=>simp at h
 |cons i r=>
  obtain ⟨ho,z⟩:=fW h;obtain ⟨e,g,⟨b,hR,j⟩,a0,m,o,t,b0,u⟩:=hc F w (s.le hq) (f.fr tm ds (.inRegion ops.toArray (i::r)::k)) cs rfl trivial
  have l:execOp (evA tm) ⟨d,.call ⟨.value fo,args.toArray,ats⟩,ty,pos,af,gd⟩=(do let d<-Deferred.ofValue fv vs.toArray;invoke d.target d.args):=by
   have h1:=Zp a hf;have h2:=Nb a hv;simp only [execOp,resolve,h1];have:(args.toArray.map (evA tm))=vs.toArray:=by rw [<-h2];simp
   rw [this]
  have c:step P (lone (f.fr tm ds (.inRegion ops.toArray (i::r)::k)) cs w)= .next (lone m o t):=by
   refine step_lone_go ?_;rw [Qq f tm ds cs w _ i r k ho (Yt a hw) (by intro _ h;cases h),l];exact b0
  cases e with
  |returned v=>
   obtain ⟨o',y,p',c0,d0,w',q',hQ,hn,ha,hs,e0⟩:=x v b hR r z (Wg tm d v) g (by rw [Yg];exact n) (a.put (n ▸ hd)) j;refine ⟨o',y,p',c0,d0,w',q',hQ,hn,ha,hs,Arr.head ((Steps.one c).trans u) ?_⟩;have:=V7 f tm ds _ i r k v ho;simp only [Zzv,this];exact e0
  |panicked ch=>
   refine ⟨.panic ch,tm,p,ds,cs,g,b++F,xp ch b hR,n,a,j,.inRegion ops.toArray (i::r)::k,?_⟩;have:=(Steps.one c).trans u;simpa [Zzv,Frame.raise,Fc.fr] using this
  |outgrown=>exact aV rfl a0
end region
end
section
theorem Ca {P:Program}(n:Nat){t e:TypeId}(ht:P.underlying t=some (.pointer e))(A:Option Addr)(w:World):(Op.equalIn (n+1) t (.pointer A) (.pointer none)).run P w= .ok A.isNone w:=by
 cases A<;>simp [Op.equalIn,run_underlying ht]
theorem Eh {P:Program}(k:Nat){t e:TypeId}(ht:P.underlying t=some (.slice e))(A:Option Addr)(n m:Nat)(w:World):(Op.equalIn (k+1) t (.slice A n m) (.slice none 0 0)).run P w= .ok A.isNone w:=by
 cases A<;>simp [Op.equalIn,run_underlying ht]
theorem Im {P:Program}(k:Nat){t:TypeId}(ht:P.underlying t=some .bool)(x y:Bool)(w:World):(Op.equalIn (k+1) t (.bool x) (.bool y)).run P w= .ok (x==y) w:=by
 simp [Op.equalIn,run_underlying ht]
def nth:List Value->Nat->Option Value
 | [],_=>none
 |v::_,0=>some v
 |_::r,n+1=>nth r n
theorem Ur (l:List Value)(n:Nat):nth l n=l[n]? :=by
 induction l generalizing n with
 |nil=>simp [nth]
 |cons v r ih=>cases n with
  |zero=>simp [nth]
  |succ n=>simp [nth,ih]
def J6 (l:List Value)(o:Nat)(v:Value):List Value:=match l,o with
 | [],_=> []
 |_::r,0=>v::r
 |x::r,n+1=>x::J6 r n v
theorem Bc (l:List Value)(o:Nat)(v:Value):J6 l o v=l.set o v:=by
 induction l generalizing o with
 |nil=>simp [J6]
 |cons x r ih=>cases o<;>simp [J6,ih]
def sub (l:List Value)(o n:Nat):List Value:=(l.drop o).take n
theorem Vj (b o n:Nat):(⟨b,o,none⟩:Addr).add n=⟨b,o+n,none⟩:=by unfold Addr.add;split<;>simp_all
theorem Qk {z:Int}(h1: -9223372036854775808<=z)(h2:z<=9223372036854775807):IntKind.i64.wrap z=z:=by rw [IntKind.wrap_i64];omega
def Pu (P:Program)(p:PE)(o:Oper)(v:Value):Prop:= ∀ tm w,Agr tm p->(execOp (evA tm) o).run P w= .ok (.value v) w
def Rd (P:Program)(G:World)(p:PE)(q:List HP)(o:Oper)(v:Value):Prop:= ∀ tm w,Agr tm p->St G w q->(execOp (evA tm) o).run P w= .ok (.value v) w
def Ef (P:Program)(G:World)(p:PE)(q:List HP)(o:Oper)(R:Value->List HP->Prop):Prop:= ∀ tm w,Agr tm p->St G w q->
 ∃ v w' q',((execOp (evA tm) o).run P w= .ok (.value v) w'\/(v=undef/\(execOp (evA tm) o).run P w= .ok .skip w'))/\St G w' q'/\R v q'
def Pn (P:Program)(G:World)(p:PE)(q:List HP)(o:Oper)(v:Value):Prop:= ∀ tm w,Agr tm p->St G w q-> ∃ w',(execOp (evA tm) o).run P w= .halt (.panic v) w'/\St G w' q
theorem Pu.rd {P:Program}{G:World}{p:PE}{q:List HP}{o:Oper}{v:Value}(h:Pu P p o v):Rd P G p q o v:=fun tm w ag _=>h tm w ag
section facts
variable {P:Program}{G:World}{p:PE}{q:List HP}{d:Option Tmp}{ty:TypeId}{pos:String}{af:Array Edge}{gd:Option (Nat×Bool)}{v u:Value}{a b c x y:Operand}
theorem Pu.move (hx:evp p x=some v):Pu P p ⟨d,.move x,ty,pos,af,gd⟩ v:=fun tm w a=>by simp [execOp,Zp a hx]
theorem Pu.assign (hx:evp p x=some v):Pu P p ⟨d,.assign x,ty,pos,af,gd⟩ v:=fun tm w a=>by simp [execOp,Zp a hx]
theorem Pu.pickT (hc:evp p c=some (.bool true))(hx:evp p a=some v):Pu P p ⟨d,.pick c a b,ty,pos,af,gd⟩ v:=fun tm w e=>by simp [execOp,Zp e hc,Zp e hx,asBool]
theorem Pu.pickF (hc:evp p c=some (.bool false))(hx:evp p b=some v):Pu P p ⟨d,.pick c a b,ty,pos,af,gd⟩ v:=fun tm w e=>by simp [execOp,Zp e hc,Zp e hx,asBool]
theorem Pu.extract {n:Nat}{vs:List Value}(hx:evp p x=some (.tuple vs.toArray))(hv:nth vs n=some v):Pu P p ⟨d,.extract x n,ty,pos,af,gd⟩ v:=
 fun tm w a=>by rw [Ur] at hv;simp [execOp,Zp a hx,Instr.extract,hv]
abbrev fP:=@Pu.extract
theorem Pu.makeFunc {fn:Fn}{l m:List Operand}{fs ms:List Value}(h1:evl p l=some fs)(h2:evl p m=some ms):Pu P p ⟨d,.makeFunc fn l.toArray m.toArray,ty,pos,af,gd⟩ (.func fn fs.toArray ms.toArray):=
 fun tm w a=>by
  have c:=Nb a h1;have b:=Nb a h2;simp [execOp,Instr.makeFunc,c,b]
theorem Pu.makeInterface {t:TypeId}{D:TypeDesc}(hx:evp p x=some v)(hu:P.underlying t=some D)(hD:(match D with| .interface _=>false|_=>true)=true):Pu P p ⟨d,.makeInterface t x,ty,pos,af,gd⟩ (.iface t v):=
 fun tm w a=>by
  simp only [execOp,Instr.makeInterface,Zp a hx,Sem.run_bind,run_underlying hu,Result.andThen_ok]
  cases D<;>first|(cases hD;done)|rfl
theorem Pu.int {op:BinOp}{t t':TypeId}{kd:IntKind}{m n:Int}{r:Value}(hx:evp p x=some (.int kd m))(hy:evp p y=some (.int kd n))
 (hr: ∀ w,(Go.binOp op t (.int kd m) (.int kd n)).run P w= .ok r w):Pu P p ⟨d,.binOp op t x y t',ty,pos,af,gd⟩ r:=
 fun tm w a=>by
  have:(eqGuard op t x y (.int kd m) (.int kd n)).run P w= .ok () w:=by
   unfold eqGuard;split<;>simp_all
  simp [execOp,Zp a hx,Zp a hy,this,hr]
section
variable {kd:IntKind}{m n:Int}{t t':TypeId}(hx:evp p x=some (.int kd m))(hy:evp p y=some (.int kd n))
include hx hy
theorem Zv7:Pu P p ⟨d,.binOp .add t x y t',ty,pos,af,gd⟩ (.int kd (kd.wrap (m+n))):= .int hx hy (fun w=>by simp [Go.binOp,Op.intArith])
theorem Zv4:Pu P p ⟨d,.binOp .sub t x y t',ty,pos,af,gd⟩ (.int kd (kd.wrap (m - n))):= .int hx hy (fun w=>by simp [Go.binOp,Op.intArith])
theorem Zv6:Pu P p ⟨d,.binOp .mul t x y t',ty,pos,af,gd⟩ (.int kd (kd.wrap (m*n))):= .int hx hy (fun w=>by simp [Go.binOp,Op.intArith])
theorem Pu.rem (h0:n≠0):Pu P p ⟨d,.binOp .rem t x y t',ty,pos,af,gd⟩ (.int kd (m.tmod n)):= .int hx hy (fun w=>by simp [Go.binOp,Op.intDiv,h0])
theorem Zv5 (h0:n≠0):Pu P p ⟨d,.binOp .quo t x y t',ty,pos,af,gd⟩ (.int kd (kd.wrap (m.tdiv n))):= .int hx hy (fun w=>by simp [Go.binOp,Op.intDiv,h0])
theorem Pu.eql:Pu P p ⟨d,.binOp .eql t x y t',ty,pos,af,gd⟩ (.bool (m==n)):= .int hx hy (fun w=>by simp [Go.binOp,Op.intCmp])
theorem Pu.neq:Pu P p ⟨d,.binOp .neq t x y t',ty,pos,af,gd⟩ (.bool (m !=n)):= .int hx hy (fun w=>by simp [Go.binOp,Op.intCmp])
theorem Pu.lss:Pu P p ⟨d,.binOp .lss t x y t',ty,pos,af,gd⟩ (.bool (decide (m<n))):= .int hx hy (fun w=>by simp [Go.binOp,Op.intCmp])
theorem Pu.leq:Pu P p ⟨d,.binOp .leq t x y t',ty,pos,af,gd⟩ (.bool (decide (m<=n))):= .int hx hy (fun w=>by simp [Go.binOp,Op.intCmp])
theorem Pu.gtr:Pu P p ⟨d,.binOp .gtr t x y t',ty,pos,af,gd⟩ (.bool (decide (n<m))):= .int hx hy (fun w=>by simp [Go.binOp,Op.intCmp])
theorem Pu.geq:Pu P p ⟨d,.binOp .geq t x y t',ty,pos,af,gd⟩ (.bool (decide (n<=m))):= .int hx hy (fun w=>by simp [Go.binOp,Op.intCmp])
end
section
variable {m n:Int}{t t':TypeId}(hx:evp p x=some (.int .i64 m))(hy:evp p y=some (.int .i64 n))
include hx hy
theorem Pu.add (h1: -9223372036854775808<=m+n)(h2:m+n<=9223372036854775807):Pu P p ⟨d,.binOp .add t x y t',ty,pos,af,gd⟩ (.int .i64 (m+n)):=by
 have:=Zv7 (P:=P) (d:=d) (t:=t) (t':=t') (ty:=ty) (pos:=pos) (af:=af) (gd:=gd) hx hy;rwa [Qk h1 h2] at this
theorem Pu.sub (h1: -9223372036854775808<=m - n)(h2:m - n<=9223372036854775807):Pu P p ⟨d,.binOp .sub t x y t',ty,pos,af,gd⟩ (.int .i64 (m - n)):=by
 have:=Zv4 (P:=P) (d:=d) (t:=t) (t':=t') (ty:=ty) (pos:=pos) (af:=af) (gd:=gd) hx hy;rwa [Qk h1 h2] at this
theorem Pu.mul (h1: -9223372036854775808<=m*n)(h2:m*n<=9223372036854775807):Pu P p ⟨d,.binOp .mul t x y t',ty,pos,af,gd⟩ (.int .i64 (m*n)):=by
 have:=Zv6 (P:=P) (d:=d) (t:=t) (t':=t') (ty:=ty) (pos:=pos) (af:=af) (gd:=gd) hx hy;rwa [Qk h1 h2] at this
end
theorem Pu.not {t:TypeId}{z:Bool}(hx:evp p x=some (.bool z)):Pu P p ⟨d,.unOp .not t x,ty,pos,af,gd⟩ (.bool !z):=fun tm w a=>by simp [execOp,Zp a hx,Op.unary]
theorem Pu.negW {t:TypeId}{kd:IntKind}{n:Int}(hx:evp p x=some (.int kd n)):Pu P p ⟨d,.unOp .neg t x,ty,pos,af,gd⟩ (.int kd (kd.wrap (0 - n))):=fun tm w a=>by simp [execOp,Zp a hx,Op.unary,Op.intArith]
theorem Zqc {s t:TypeId}{D:TypeDesc}{ks kd:IntKind}{n:Int}(hx:evp p x=some (.int ks n))(hs:P.underlying s=some D)(ht:P.underlying t=some (.int kd)):Pu P p ⟨d,.convert s t x,ty,pos,af,gd⟩ (.int kd (kd.wrap n)):=
 fun tm w a=>by simp [execOp,Zp a hx,convert,run_underlying hs,run_underlying ht,Conv.intToInt]
theorem Pu.conv {s t:TypeId}{D:TypeDesc}{ks kd:IntKind}{n:Int}(hx:evp p x=some (.int ks n))(hs:P.underlying s=some D)(ht:P.underlying t=some (.int kd))(hn:kd.wrap n=n):Pu P p ⟨d,.convert s t x,ty,pos,af,gd⟩ (.int kd n):=by
 have:=Zqc (P:=P) (d:=d) (ty:=ty) (pos:=pos) (af:=af) (gd:=gd) hx hs ht;rwa [hn] at this
theorem Pu.nilCheck {A:Addr}(hx:evp p x=some (.pointer (some A))):Pu P p ⟨d,.nilCheck x,ty,pos,af,gd⟩ (.pointer (some A)):=fun tm w a=>by simp [execOp,Zp a hx]
theorem I6 {f:Nat}{l m:Array Value}(hx:evp p x=some (.func (.func f) l m)):Pu P p ⟨d,.nilCheck x,ty,pos,af,gd⟩ (.func (.func f) l m):=fun tm w a=>by simp [execOp,Zp a hx]
theorem Pu.fieldAddr {t:TypeId}{n:Nat}{b o:Nat}{fs:Array Field}(ft off sz:Nat)(hx:evp p x=some (.pointer (some ⟨b,o,none⟩)))(ht:P.underlying t=some (.struct fs))(hF:(fs[n]?).map (fun F=>(F.type,F.offset))=some (ft,off))
 (hs: ∀ w,(Go.sizeOf ft).run P w= .ok (sz+1) w):Pu P p ⟨d,.fieldAddr t x n,ty,pos,af,gd⟩ (.pointer (some ⟨b,o+off,none⟩)):=
 fun tm w c=>by
  obtain ⟨F,a,e⟩:=kG.1 hF;clear hF;simp only [jL] at e;obtain ⟨rfl,rfl⟩:=e;simp [execOp,Zp c hx,Instr.fieldAt,Instr.sureAddr,run_underlying ht,a,fieldPlace,hs,Vj]
theorem Pu.len {t:TypeId}{e:TypeId}{A:Option Addr}{n m:Nat}{ats:List TypeId}(hx:evp p x=some (.slice A n m))(ht:P.underlying t=some (.slice e)):Pu P p ⟨d,.call ⟨.builtin .len, [x].toArray,(t::ats).toArray⟩,ty,pos,af,gd⟩ (.int .i64 n):=
 fun tm w a=>by simp [execOp,resolve,invoke,builtin,Zp a hx,Builtin.len_,run_underlying ht,goInt]
theorem Pu.indexAddr {t e:TypeId}{b o n m:Nat}{kd:IntKind}{i:Int}{sz:Nat}(hx:evp p x=some (.slice (some ⟨b,o,none⟩) n m))(hy:evp p y=some (.int kd i))(ht:P.underlying t=some (.slice e))(hs: ∀ w,(Go.sizeOf e).run P w= .ok sz w)
 (h0:0<=i) (h1:i<n):Pu P p ⟨d,.indexAddr t x y,ty,pos,af,gd⟩ (.pointer (some ⟨b,o+i.toNat*sz,none⟩)):=
 fun tm w a=>by
  have c:0<=i/\i<(n:Int):=⟨h0,h1⟩;simp [execOp,Zp a hx,Zp a hy,Instr.indexAt,asIntOf,run_underlying ht,c,hs,Vj]
theorem Pu.ptrNil {op:BinOp}{t t' e:TypeId}{A:Option Addr}{z:Bool}(hop:op= .eql/\z=A.isNone\/op= .neq/\z=A.isSome)(hx:evp p x=some (.pointer A))(ht:P.underlying t=some (.pointer e)):Pu P p ⟨d,.binOp op t x (.const (.pointer none)) t',ty,pos,af,gd⟩ (.bool z):=
 fun tm w c=>by
  have b:(Op.equal t (.pointer A) (.pointer none)).run P w= .ok A.isNone w:=Ca 9999 ht A w;have a:evA tm (.const (.pointer none))= .pointer none:=rfl;rcases hop with ⟨rfl,rfl⟩|⟨rfl,rfl⟩<;>cases A<;>simp [execOp,Zp c hx,a,eqGuard,Go.binOp,b]
theorem Zyw {t t' e:TypeId}{A:Option Addr}(hx:evp p x=some (.pointer A))(ht:P.underlying t=some (.pointer e)):Pu P p ⟨d,.binOp .eql t x (.const (.pointer none)) t',ty,pos,af,gd⟩ (.bool A.isNone):= .ptrNil (.inl ⟨rfl,rfl⟩) hx ht
theorem Zyk {t t' e:TypeId}{A:Option Addr}(hx:evp p x=some (.pointer A))(ht:P.underlying t=some (.pointer e)):Pu P p ⟨d,.binOp .neq t x (.const (.pointer none)) t',ty,pos,af,gd⟩ (.bool A.isSome):= .ptrNil (.inr ⟨rfl,rfl⟩) hx ht
theorem Pu.slcNil {op:BinOp}{t t' e:TypeId}{A:Option Addr}{n m:Nat}{z:Bool}(hop:op= .eql/\z=A.isNone\/op= .neq/\z=A.isSome)(hx:evp p x=some (.slice A n m))(ht:P.underlying t=some (.slice e)):Pu P p ⟨d,.binOp op t x (.const (.slice none 0 0)) t',ty,pos,af,gd⟩ (.bool z):=
 fun tm w c=>by
  have b:(Op.equal t (.slice A n m) (.slice none 0 0)).run P w= .ok A.isNone w:=Eh 9999 ht A n m w;have a:evA tm (.const (.slice none 0 0))= .slice none 0 0:=rfl;rcases hop with ⟨rfl,rfl⟩|⟨rfl,rfl⟩<;>cases A<;>simp [execOp,Zp c hx,a,eqGuard,Go.binOp,b]
theorem Zj3 {t t' e:TypeId}{A:Option Addr}{n m:Nat}(hx:evp p x=some (.slice A n m))(ht:P.underlying t=some (.slice e)):Pu P p ⟨d,.binOp .eql t x (.const (.slice none 0 0)) t',ty,pos,af,gd⟩ (.bool A.isNone):= .slcNil (.inl ⟨rfl,rfl⟩) hx ht
theorem Zj1 {t t' e:TypeId}{A:Option Addr}{n m:Nat}(hx:evp p x=some (.slice A n m))(ht:P.underlying t=some (.slice e)):Pu P p ⟨d,.binOp .neq t x (.const (.slice none 0 0)) t',ty,pos,af,gd⟩ (.bool A.isSome):= .slcNil (.inr ⟨rfl,rfl⟩) hx ht
theorem Pu.boolCmp {op:BinOp}{t t':TypeId}{z z' r:Bool}(hop:op= .eql/\r=(z==z')\/op= .neq/\r=(z !=z'))(hx:evp p x=some (.bool z))(hy:evp p y=some (.bool z'))(ht:P.underlying t=some .bool):Pu P p ⟨d,.binOp op t x y t',ty,pos,af,gd⟩ (.bool r):=
 fun tm w a=>by
  have b:(Op.equal t (.bool z) (.bool z')).run P w= .ok (z==z') w:=Im 9999 ht z z' w;rcases hop with ⟨rfl,rfl⟩|⟨rfl,rfl⟩<;>simp [execOp,Zp a hx,Zp a hy,eqGuard,Go.binOp,b,bne]
theorem Pu.eqlB {t t':TypeId}{z z':Bool}(hx:evp p x=some (.bool z))(hy:evp p y=some (.bool z'))(ht:P.underlying t=some .bool):Pu P p ⟨d,.binOp .eql t x y t',ty,pos,af,gd⟩ (.bool (z==z')):= .boolCmp (.inl ⟨rfl,rfl⟩) hx hy ht
theorem Pu.neqB {t t':TypeId}{z z':Bool}(hx:evp p x=some (.bool z))(hy:evp p y=some (.bool z'))(ht:P.underlying t=some .bool):Pu P p ⟨d,.binOp .neq t x y t',ty,pos,af,gd⟩ (.bool (z !=z')):= .boolCmp (.inr ⟨rfl,rfl⟩) hx hy ht
theorem Has.cell {w:World}{b o:Nat}{l:List Value}{t:TypeId}{fz:Nat×Nat}(h:Has q b (.cells l.toArray t fz))(s:St G w q)(hv:nth l o=some v):w.cell? ⟨b,o,none⟩=some v:=by
 have:=s.has h;rw [Ur] at hv;simp [World.cell?,this,hv]
def Cl (q:List HP)(A:Addr)(v:Value):Prop:= ∀ G w,St G w q->w.cell? A=some v
theorem Cl.of {b o:Nat}{l:List Value}{t:TypeId}{fz:Nat×Nat}(h:Has q b (.cells l.toArray t fz))(hv:nth l o=some v):Cl q ⟨b,o,none⟩ v:=fun _ _ s=>h.cell s hv
abbrev fK:=@Cl.of
theorem Rd.load {t:TypeId}{A:Addr}(hx:evp p x=some (.pointer (some A)))(ht: ∀ w,(isAgg t).run P w= .ok false w)(hc:Cl q A v):Rd P G p q ⟨d,.load t x,ty,pos,af,gd⟩ v:=
 fun tm w a s=>by simp [execOp,Zp a hx,Instr.loadAt,Instr.sureAddr,loadVar,ht,hc G w s]
theorem Rd.loadA {t:TypeId}{b o:Nat}{l:List Value}{t':TypeId}{fz:Nat×Nat}{sz:Nat}(hx:evp p x=some (.pointer (some ⟨b,o,none⟩)))(ht: ∀ w,(isAgg t).run P w= .ok true w)(hs: ∀ w,(Go.sizeOf t).run P w= .ok sz w)
 (hh:Has q b (.cells l.toArray t' fz)) (hv:Nat.ble (o+sz) l.length=true):Rd P G p q ⟨d,.load t x,ty,pos,af,gd⟩ (.agg (Wx.sub l o sz).toArray):=
 fun tm w h s=>by
  have g:=s.has hh;have e:o+sz<=l.length:=by simpa using hv
  have f:(Wx.sub l o sz).length=sz:=by simp [Wx.sub];omega
  have c:=run_loadCells_list (P:=P) w ⟨b,o,none⟩ (Wx.sub l o sz) (fun j u a=>by
   rw [Vj];simp only [World.cell?,g];simp only [Wx.sub,fL,gR] at a;split at a
   . simpa using a
   cases a)
  rw [f] at c;simp [execOp,Zp h hx,Instr.loadAt,Instr.sureAddr,loadVar,ht,hs,c]
theorem Ef.store {t:TypeId}{b o:Nat}{l:List Value}{t':TypeId}{r:List HP}(hx:evp p x=some (.pointer (some ⟨b,o,none⟩)))(hy:evp p y=some v)(hs: ∀ w,(Go.sizeOf t).run P w= .ok 1 w)
 (hv:v.cells= #[v]) (h1:v.oneCell'=true) (hq:Le q (pto b (.cells l.toArray t' (0,0))::r)) (ho:Nat.blt o l.length=true):
 Ef P G p q ⟨d,.store t x y,ty,pos,af,gd⟩ fun z q'=>z=undef/\q'=pto b (.cells (J6 l o v).toArray t' (0,0))::r:=
 fun tm w g s=>by
  have f:=s.le hq;have a:=f.has (dU _ _ _);have e:o<l.length:=by simpa [fI] using ho
  have k:w.cell? ⟨b,o,none⟩=some (l[o]):=by simp [World.cell?,a,e]
  have i:w.frozen? ⟨b,o,none⟩=false:=by simp [World.frozen?,a]
  refine ⟨undef,w.setCell ⟨b,o,none⟩ v,pto b (.cells (J6 l o v).toArray t' (0,0))::r,.inr ⟨rfl,?_⟩,?_,rfl,rfl⟩
  . have n:=Zp g hx;have m:=Zp g hy
    have c:(Go.store ⟨b,o,none⟩ v).run P w= .ok () (w.setCell ⟨b,o,none⟩ v):=by
     cases v<;>first|(simp [Value.oneCell'] at h1;done)|simp [Go.store,Sem.run,k,i]
    simp [execOp,n,m,Instr.storeAt,Instr.sureAddr,storeVar,hs,hv,storeCells,Vj,c]
  rw [Bc];refine f.put ?_ ?_ ?_ rfl rfl rfl
  . rw [setCell_eq_setRow w b o l.toArray t' (0,0) v a];simpa using setRow_heap w b l.toArray (l.toArray.setIfInBounds o v) t' (0,0) a
  . intro j h;rw [setCell_eq_setRow w b o l.toArray t' (0,0) v a];exact setRow_other w b j _ h
  simp [World.setCell]
theorem Ef.box {t:TypeId}(hx:evp p x=some v):Ef P G p q ⟨d,.box t x,ty,pos,af,gd⟩ fun z q'=> ∃ n,z= .pointer (some ⟨n,0,none⟩)/\q'=pto n (.cells v.cells t (0,0))::q:=
 fun tm w a s=>⟨_,w.alloc (.cells v.cells t),_,.inl (by simp [execOp,Zp a hx,Instr.box,newVar,newRow]),s.new rfl rfl rfl rfl,_,rfl,rfl⟩
theorem Ef.alloc {t:TypeId}{z:Value}(hz: ∀ w,(zeroValue t).run P w= .ok z w):Ef P G p q ⟨d,.alloc t,ty,pos,af,gd⟩ fun r q'=> ∃ n,r= .pointer (some ⟨n,0,none⟩)/\q'=pto n (.cells z.cells t (0,0))::q:=
 fun tm w a s=>⟨_,w.alloc (.cells z.cells t),_,.inl (by simp [execOp,Instr.alloc,hz,newVar,newRow]),s.new rfl rfl rfl rfl,_,rfl,rfl⟩
abbrev cD:=@Ef.alloc
theorem Ef.makeMap {t:TypeId}:Ef P G p q ⟨d,.makeMap t none,ty,pos,af,gd⟩ fun r q'=> ∃ n,r= .map (some n)/\q'=pto n (.map #[] 0)::q:=
 fun tm w a s=>⟨_,w.alloc (.map #[] 0),_,.inl (by simp [execOp,Instr.makeMap]),s.new rfl rfl rfl rfl,_,rfl,rfl⟩
abbrev kS:=@Ef.makeMap
end facts
section ops
variable {P:Program}{G:World}{f:Fc}{Q:Yw}{ops:List Oper}{k:List Item}{p:PE}{ds:List Deferred}{cs:List Frame}{q:List HP}{rest:List Oper}{o:Oper}{v:Value}
theorem XO.rd_ (h:Rd P G p q o v)(K:XO P G f Q ops.toArray k rest (Qg p o.dst v) ds cs q)(hw:Wt ops p o=some true:=by rfl)(hd:dOk f.n o.dst=true:=by rfl)(hdf: ∀ c,o.op≠ .defer c:=by intro _ h;cases h):
 XO P G f Q ops.toArray k (o::rest) p ds cs q:= .run hw hd (fun tm w _ ag s=> .inl (h tm w ag s)) K hdf
theorem XO.pu_ (h:Pu P p o v)(K:XO P G f Q ops.toArray k rest (Qg p o.dst v) ds cs q)(hw:Wt ops p o=some true:=by rfl)(hd:dOk f.n o.dst=true:=by rfl)(hdf: ∀ c,o.op≠ .defer c:=by intro _ h;cases h):
 XO P G f Q ops.toArray k (o::rest) p ds cs q:= .rd_ h.rd K hw hd hdf
theorem XO.ef_ {R:Value->List HP->Prop}(h:Ef P G p q o R)(K: ∀ v q',R v q'->XO P G f Q ops.toArray k rest (Qg p o.dst v) ds cs q')(hw:Wt ops p o=some true:=by rfl)(hd:dOk f.n o.dst=true:=by rfl)(hdf: ∀ c,o.op≠ .defer c:=by intro _ h;cases h):
 XO P G f Q ops.toArray k (o::rest) p ds cs q:=
 .eff hw hd (fun tm w _ ag s=>let ⟨v,w',q',hr,s',hR⟩:=h tm w ag s;⟨v,w',q',hr,s',K v q' hR⟩) hdf
section
variable {d:Tmp}{op:Op}{ty:TypeId}{pos:String}{af:Array Edge}{gd:Option (Nat×Bool)}
theorem XO.rd (h:Rd P G p q ⟨some d,op,ty,pos,af,gd⟩ v)(K:XO P G f Q ops.toArray k rest ((d,v)::p) ds cs q)(hw:Wt ops p ⟨some d,op,ty,pos,af,gd⟩=some true:=by rfl)(hd:Nat.blt d f.n=true:=by rfl)(hdf: ∀ c,op≠ .defer c:=by intro _ h;cases h):
 XO P G f Q ops.toArray k (⟨some d,op,ty,pos,af,gd⟩::rest) p ds cs q:= .rd_ h K hw hd hdf
theorem Vl (h:Pu P p ⟨some d,op,ty,pos,af,gd⟩ v)(K:XO P G f Q ops.toArray k rest ((d,v)::p) ds cs q)(hw:Wt ops p ⟨some d,op,ty,pos,af,gd⟩=some true:=by rfl)(hd:Nat.blt d f.n=true:=by rfl)(hdf: ∀ c,op≠ .defer c:=by intro _ h;cases h):
 XO P G f Q ops.toArray k (⟨some d,op,ty,pos,af,gd⟩::rest) p ds cs q:= .rd_ h.rd K hw hd hdf
theorem XO.ef {R:Value->List HP->Prop}(h:Ef P G p q ⟨some d,op,ty,pos,af,gd⟩ R)(K: ∀ v q',R v q'->XO P G f Q ops.toArray k rest ((d,v)::p) ds cs q')(hw:Wt ops p ⟨some d,op,ty,pos,af,gd⟩=some true:=by rfl)(hd:Nat.blt d f.n=true:=by rfl)(hdf: ∀ c,op≠ .defer c:=by intro _ h;cases h):
 XO P G f Q ops.toArray k (⟨some d,op,ty,pos,af,gd⟩::rest) p ds cs q:= .ef_ h K hw hd hdf
abbrev bU:=@XO.ef
theorem XO.ef0 {R:Value->List HP->Prop}(h:Ef P G p q ⟨none,op,ty,pos,af,gd⟩ R)(K: ∀ v q',R v q'->XO P G f Q ops.toArray k rest p ds cs q')(hw:Wt ops p ⟨none,op,ty,pos,af,gd⟩=some true:=by rfl)(hdf: ∀ c,op≠ .defer c:=by intro _ h;cases h):
 XO P G f Q ops.toArray k (⟨none,op,ty,pos,af,gd⟩::rest) p ds cs q:= .ef_ h K hw rfl hdf
abbrev dM:=@XO.ef0
end
theorem Zve (h:Pn P G p q o v)(hQ:Q (.panic [{ v,recovered:=false }]) p ds cs q)(hw:Wt ops p o=some true:=by rfl)(hdf: ∀ c,o.op≠ .defer c:=by intro _ h;cases h):
 XO P G f Q ops.toArray k (o::rest) p ds cs q:= .panics hw (fun tm w _ ag s=>h tm w ag s) hQ hdf
theorem XO.part {l:List Oper}(s:Nat){t:Bool}(h:lkp p s=some (.bool t))(ht:t=true->XO P G f Q ops.toArray k l ((s,.bool true)::p) ds cs q)
 (hf:t=false->XO P G f Q ops.toArray k l ((s,.bool false)::p) ds cs q):XO P G f Q ops.toArray k l p ds cs q:=by
 have a: ∀ t' tm,lkp p s=some (.bool t')->Agr tm p->Agr tm ((s,.bool t')::p):=by
  intro t' tm e c j u b;refine c j u ?_;simp only [lkp] at b
  cases hb:Nat.beq s j with
  |true=>rw [hb] at b;have:=cX hb;subst this;rw [e];simpa using b
  |false=>rw [hb] at b;simpa using b
 cases t with
 |true=>exact fun d e tm w n c st=>ht rfl d e tm w n (a true tm h c) st
 |false=>exact fun d e tm w n c st=>hf rfl d e tm w n (a false tm h c) st
abbrev kQ:=@XO.part
theorem XO.know {l:List Oper}(s:Nat){v:Value}(u:Value)(h:lkp p s=some v)(e:v=u)(K:XO P G f Q ops.toArray k l ((s,u)::p) ds cs q):XO P G f Q ops.toArray k l p ds cs q:=by
 subst e;refine fun c e tm w n d st=>K c e tm w n (fun j b a=>d j b ?_) st
 simp only [lkp] at a
 cases hb:Nat.beq s j with
 |true=>rw [hb] at a;have:=cX hb;subst this;rw [h];simpa using a
 |false=>rw [hb] at a;simpa using a
abbrev aW:=@XO.know
def Ret (R:Value->List HP->Prop):Ub:=fun e q=> ∃ v,e= .returned v/\R v q
theorem XO.call_ {d:Option Tmp}{fo:Operand}{args:List Operand}{ats:Array TypeId}{ty:TypeId}{pos:String}{af:Array Edge}{gd:Option (Nat×Bool)}
 {fv:Value} {vs:List Value} {pre F:List HP} {R:Value->List HP->Prop}
 (hf:evp p fo=some fv) (hv:evl p args=some vs) (hc:CallV P G fv vs pre (Ret R)) (hq:Le q (pre++F))
 (x: ∀ v q',R v q'-> ∀ q'',q''=q'++F->XO P G f Q ops.toArray k rest (Qg p d v) ds cs q'')
 (hw:Wt ops p ⟨d,.call ⟨.value fo,args.toArray,ats⟩,ty,pos,af,gd⟩=some true:=by rfl) (hd:dOk f.n d=true:=by rfl):
 XO P G f Q ops.toArray k (⟨d,.call ⟨.value fo,args.toArray,ats⟩,ty,pos,af,gd⟩::rest) p ds cs q:=
 .callE hw hd hf hv hc hq (fun v q' ⟨_,h,r⟩=>by cases h;exact x v q' r _ rfl) (fun a q' ⟨_,h,_⟩=>by cases h)
theorem XO.callF_ {d:Option Tmp}{fn:FuncId}{args:List Operand}{ats:Array TypeId}{ty:TypeId}{pos:String}{af:Array Edge}{gd:Option (Nat×Bool)}
 {vs:List Value} {pre F:List HP} {R:Value->List HP->Prop} (hcf: ∀ args w,(callFunc fn args).run P w= .ok (.enter fn args) w)
 (hc:CallF P G fn vs pre (Ret R)) (hv:evl p args=some vs) (hq:Le q (pre++F))
 (x: ∀ v q',R v q'-> ∀ q'',q''=q'++F->XO P G f Q ops.toArray k rest (Qg p d v) ds cs q'')
 (hw:Wt ops p ⟨d,.call ⟨.value (.func fn),args.toArray,ats⟩,ty,pos,af,gd⟩=some true:=by rfl) (hd:dOk f.n d=true:=by rfl):
 XO P G f Q ops.toArray k (⟨d,.call ⟨.value (.func fn),args.toArray,ats⟩,ty,pos,af,gd⟩::rest) p ds cs q:=
 .call_ (fv:= .func (.func fn) #[] #[]) rfl hv (Yq (a:= []) (b:= []) hcf (by simpa using hc)) hq x hw hd
theorem XO.call {d:Tmp}{fo:Operand}{args:List Operand}{ats:Array TypeId}{ty:TypeId}{pos:String}{af:Array Edge}{gd:Option (Nat×Bool)}
 {fv:Value} {vs:List Value} {pre F:List HP} {R:Value->List HP->Prop}
 (hf:evp p fo=some fv) (hv:evl p args=some vs) (hc:CallV P G fv vs pre (Ret R)) (hq:Le q (pre++F))
 (x: ∀ v q',R v q'-> ∀ q'',q''=q'++F->XO P G f Q ops.toArray k rest ((d,v)::p) ds cs q'')
 (hw:Wt ops p ⟨some d,.call ⟨.value fo,args.toArray,ats⟩,ty,pos,af,gd⟩=some true:=by rfl) (hd:Nat.blt d f.n=true:=by rfl):
 XO P G f Q ops.toArray k (⟨some d,.call ⟨.value fo,args.toArray,ats⟩,ty,pos,af,gd⟩::rest) p ds cs q:= .call_ hf hv hc hq x hw hd
theorem XO.callF {d:Tmp}{fn:FuncId}{args:List Operand}{ats:Array TypeId}{ty:TypeId}{pos:String}{af:Array Edge}{gd:Option (Nat×Bool)}
 {vs:List Value} {pre F:List HP} {R:Value->List HP->Prop} (hcf: ∀ args w,(callFunc fn args).run P w= .ok (.enter fn args) w)
 (hc:CallF P G fn vs pre (Ret R)) (hv:evl p args=some vs) (hq:Le q (pre++F))
 (x: ∀ v q',R v q'-> ∀ q'',q''=q'++F->XO P G f Q ops.toArray k rest ((d,v)::p) ds cs q'')
 (hw:Wt ops p ⟨some d,.call ⟨.value (.func fn),args.toArray,ats⟩,ty,pos,af,gd⟩=some true:=by rfl) (hd:Nat.blt d f.n=true:=by rfl):
 XO P G f Q ops.toArray k (⟨some d,.call ⟨.value (.func fn),args.toArray,ats⟩,ty,pos,af,gd⟩::rest) p ds cs q:= .callF_ hcf hc hv hq x hw hd
end ops
def Se:Nat->List Value->PE
 |_, []=> []
 |i,v::r=>(i,v)::Se (i+1) r
theorem lkp_penv (vs:List Value)(i t:Nat)(v:Value)(h:lkp (Se i vs) t=some v):i<=t/\vs[t - i]? =some v:=by
 induction vs generalizing i with
 |nil=>simp [Se,lkp] at h
 |cons u r ih=>
  simp only [Se,lkp] at h
  cases hb:Nat.beq i t with
  |true=>rw [hb] at h;have:=cX hb;subst this;simpa using h
  |false=>
   rw [hb] at h;have a:i≠t:=iQ hb;obtain ⟨c,b⟩:=ih (i+1) (by simpa using h);refine ⟨by omega,?_⟩;have:t - i=(t - (i+1))+1:=by omega
   rw [this];simpa using b
theorem Zqv (vs:List Value)(m:Nat):Agr (vs.toArray++Array.replicate m undef) (Se 0 vs):=by
 intro t v h;obtain ⟨_,b⟩:=lkp_penv vs 0 t v h
 have a:t<vs.length:=by
  rcases dJ t vs.length with h|h
  . exact h
  simp [eU h] at b
 simp [Array.getElem?_append,a] at b|-;simpa using b
def Lv (P:Program)(G:World)(fn:FuncId)(R:Ub)(F:List HP)(ds:List Deferred)(u:FrameMode)(p:PE)(q:List HP):Prop:=
 ∀ tm w fr cs,fr.fn=fn->fr.tmps=tm->fr.defers=ds->fr.mode=u->fr.kind= .normal->Agr tm p->St G w q->
  ∃ e w' fr' q',R e q'/\e≠ .outgrown/\St G w' (q'++F)/\Steps P (lone fr cs w) (lone fr' cs w')/\fr'.fn=fn/\fr'.leaving P w' e
def FQ (P:Program)(G:World)(fn:FuncId)(cs₀:List Frame)(R:Ub)(F:List HP):Yw:=fun o p ds cs q=>cs=cs₀/\match o with
 | .fall| .jump .ret=>Lv P G fn R F ds .returning p q
 | .panic ch=>Lv P G fn R F ds (.panicking ch) p q
 |_=>False
theorem CallF.of {P:Program}{G:World}{fn:FuncId}{fd:Func}{c:Code}{n:Nat}{vs:List Value}{pre:List HP}{R:Ub}(hf:P.funcs[fn]? =some fd)(hn:fd.ntmps=n)(hb:fd.body=some c)
 (h: ∀ F cs,X P G ⟨fn,n,.normal,none⟩ (FQ P G fn cs R F) [.code c] (Se 0 vs) [] cs (pre++F)) (hl:Nat.ble vs.length n=true:=by rfl):CallF P G fn vs pre R:=by
 intro F w s cs;subst hn;have b0:vs.length<=fd.ntmps:=by simpa using hl
 obtain ⟨o,a,p',i,j,w',q',⟨rfl,x⟩,a0,z,y,f⟩:=h F cs (vs.toArray++Array.replicate (fd.ntmps - vs.length) undef) w (by simp;omega) (Zqv vs _) s
 have u:Frame.enter P fn vs.toArray .normal=Fc.fr ⟨fn,fd.ntmps,.normal,none⟩ (vs.toArray++Array.replicate (fd.ntmps - vs.length) undef) [] [.code c]:=by
  simp [Frame.enter,Fc.fr,hf,hb]
 rw [<-u] at f
 cases o with
 |fall=>
  obtain ⟨e,l,t,m,v,b,q,p,r,hl⟩:=x a w' { Fc.fr ⟨fn,fd.ntmps,.normal,none⟩ a i [] with mode:= .returning } j rfl rfl rfl rfl rfl z y;refine ⟨e,l,t,⟨b,m,v,q⟩,?_,r,hl⟩
  have h1:step P (lone (Fc.fr ⟨fn,fd.ntmps,.normal,none⟩ a i []) j w')= .next (lone { Fc.fr ⟨fn,fd.ntmps,.normal,none⟩ a i [] with mode:= .returning } j w'):=
   step_lone_go (by simp [stepG,stepG.exec,Fc.fr])
  have d:=(f.trans (.one h1)).trans p
  cases e<;>first|exact d|exact aV rfl b
 |jump c'=>
  obtain ⟨k,g,f⟩:=f
  cases c' with
  |ret=>
   obtain ⟨e,l,t,m,v,b,q,p,r,hl⟩:=x a w' { Fc.fr ⟨fn,fd.ntmps,.normal,none⟩ a i (.code .ret::k) with mode:= .returning } j rfl rfl rfl rfl rfl z y;refine ⟨e,l,t,⟨b,m,v,q⟩,?_,r,hl⟩
   have h1:step P (lone (Fc.fr ⟨fn,fd.ntmps,.normal,none⟩ a i (.code .ret::k)) j w')= .next (lone { Fc.fr ⟨fn,fd.ntmps,.normal,none⟩ a i (.code .ret::k) with mode:= .returning } j w'):=
    step_lone_go (by simp [stepG,stepG.exec,Fc.fr])
   have d:=(f.trans (.one h1)).trans p
   cases e<;>first|exact d|exact aV rfl b
  |_=>exact x.elim
 |panic ch=>
  obtain ⟨k,f⟩:=f;obtain ⟨e,l,t,m,v,b,q,p,r,hl⟩:=x a w' { Fc.fr ⟨fn,fd.ntmps,.normal,none⟩ a i k with mode:= .panicking ch } j rfl rfl rfl rfl rfl z y;refine ⟨e,l,t,⟨b,m,v,q⟩,?_,r,hl⟩;have d:=f.trans p
  cases e<;>first|exact d|exact aV rfl b
abbrev aB:=@CallF.of
theorem Lv.ret {P:Program}{G:World}{fn:FuncId}{fd:Func}{R:Ub}{F:List HP}{p:PE}{q q':List HP}{v:Value}(hf:P.funcs[fn]? =some fd)
 (hr: ∀ tm w,Agr tm p->St G w q->(results fd tm).run P w= .ok v w) (h:R (.returned v) q') (hq:Le q (q'++F)):Lv P G fn R F [] .returning p q:=
 fun tm w fr cs a e d c b f s=>⟨.returned v,w,fr,q',h,by simp,s.le hq,.refl P _,a,c,d,b,fd,by rw [a];exact hf,by rw [e];exact hr tm w f s⟩
abbrev gE:=@Lv.ret
theorem Lv.panic {P:Program}{G:World}{fn:FuncId}{fd:Func}{R:Ub}{F:List HP}{p:PE}{q q':List HP}{ch:List PanicEntry}(hf:P.funcs[fn]? =some fd)
 (h:R (.panicked ch) q') (hq:Le q (q'++F)):Lv P G fn R F [] (.panicking ch) p q:=
 fun tm w fr cs a e c b d f s=>⟨.panicked ch,w,fr,q',h,by simp,s.le hq,.refl P _,a,b,c,fd,by rw [a];exact hf⟩
theorem Yy {P:Program}{fd:Func}(h:fd.results= #[]){p:PE}{G:World}{q:List HP}(tm:Array Value)(w:World)(_:Agr tm p)(_:St G w q):(results fd tm).run P w= .ok (.tuple #[]) w:=results_none h _ _ _
theorem Zf {P:Program}{fd:Func}{t:Tmp}(h:fd.results= #[.tmp t]){p:PE}{v:Value}(hp:lkp p t=some v){G:World}{q:List HP}(tm:Array Value)(w:World)(ag:Agr tm p)(_:St G w q):
 (results fd tm).run P w= .ok v w:=by rw [results_tmp h];rw [ag _ _ hp]
theorem Q4 {P:Program}{fd:Func}{t t':Tmp}(h:fd.results= #[.tmp t,.tmp t']){p:PE}{v v':Value}(hp:lkp p t=some v)(hp':lkp p t'=some v'){G:World}{q:List HP}(tm:Array Value)(w:World)(ag:Agr tm p)(_:St G w q):
 (results fd tm).run P w= .ok (.tuple #[v,v']) w:=by rw [results_tmp2 h];rw [ag _ _ hp,ag _ _ hp']
end
section
variable {P:Program}{s:Sem Next}{w G w':World}{R:Value->List HP->Prop}{ops:List Oper}{o y:Oper}{tm:Array Value}{K Kend:Array Value->World->Prop}{Kp:List PanicEntry->Array Value->World->Prop}{done:List Nat}{i j:Nat}{x d:Option Tmp}{v fv:Value}{f:Fc}{k:List Item}{ds:List Deferred}{cs:List Frame}{listed:Array Bool}{q pre F:List HP}{pk p:PE}{pos:String}{af:Array Edge}{gd:Option (Nat×Bool)}{fo:Operand}{args:List Operand}{vs:List Value}{fn:FuncId}
def Zwl (done:List Nat)(o:Oper):Bool:=o.after.toList.all fun e=> !Region.binds .any e||done.contains e.on
def rdy (ops:List Oper)(done:List Nat)(j:Nat):Bool:= !done.contains j && match ops[j]? with|some o=>Zwl done o|none=>false
def looks (ops:List Oper)(o:Oper):List Tmp:=
 (o.op.operands.toList.filterMap fun| .tmp t=>some t|_=>none)++(match o.guard with|some (j,_)=>((ops[j]?).bind (·.dst)).toList|none=> [])
def C5 (ops:List Oper)(x y:Oper):Bool:=
 (match x.dst with|some d=> !(looks ops y).contains d && y.dst !=some d|none=>true) && (match y.dst with|some d=> !(looks ops x).contains d|none=>true)
def onB (o:Oper)(i:Nat):Bool:=o.after.toList.any fun e=>Region.binds .any e && e.on==i
def okR (ops:List Oper):Bool:=
 (ops.zipIdx.all fun (x,i)=>ops.zipIdx.all fun (y,j)=>i==j||onB x j||onB y i||C5 ops x y) &&
 ops.all fun o=>match o.op with| .select .. =>false| .defer _=>false|_=>true
def R8 (ops:List Oper)(pk:PE):Bool:=ops.all fun o=>match o.dst with|some d=>pk.all fun e=> !(e.1==d)|none=>true
def OW (P:Program)(ops:List Oper)(o:Oper)(tm:Array Value)(w:World)(K:Array Value->World->Prop)(Kp:List PanicEntry->Array Value->World->Prop):Prop:=
 if Region.wanted o (yielded ops.toArray tm)=true then
  Ap P (execOp (evA tm) o) w fun e w'=>match e with| .returned v=>K (Wg tm o.dst v) w'| .panicked ch=>Kp ch tm w'| .outgrown=>False
 else K (Wg tm o.dst undef) w
theorem Ap.mono {R R':Ending->World->Prop}(h:Ap P s w R)(hr: ∀ e w',e≠ .outgrown->R e w'->R' e w'):Ap P s w R':=
 fun fr cs hm ho=>let ⟨e,w',r,hne,rest⟩:=h fr cs hm ho;⟨e,w',hr _ _ hne r,hne,rest⟩
theorem OW.mono {K':Array Value->World->Prop}
 (h:OW P ops o tm w K Kp) (hk: ∀ t w',K t w'->K' t w'):OW P ops o tm w K' Kp:=by
 unfold OW at*;split
 . rename_i a;rw [if_pos a] at h;exact h.mono fun e w' _ r=>by cases e<;>first|exact hk _ _ r|exact r
 rename_i a;rw [if_neg a] at h;exact hk _ _ h
abbrev Rds:=List (Nat×Nat×Nat×Value)
variable {L L':Rds}
def SL (L:Rds)(w:World):Prop:= ∀ e∈L,w.cell? ⟨e.2.1,e.2.2.1,none⟩=some e.2.2.2
def cut (o:Oper):Rds->Rds
 | []=> []
 |e::r=>bif onB o e.1 then cut o r else e::cut o r
theorem U4 {e:Nat×Nat×Nat×Value}:e∈cut o L↔e∈L/\onB o e.1=false:=by
 induction L with
 |nil=>simp [cut]
 |cons x r ih=>
  unfold cut
  cases hx:onB o x.1 with
  |true=>
   simp only [cond_true,ih,bG];constructor
   . rintro ⟨h,k⟩;exact ⟨.inr h,k⟩
   rintro ⟨h|h,k⟩
   . subst h;rw [hx] at k;cases k
   exact ⟨h,k⟩
  |false=>
   simp only [cond_false,bG,ih];constructor
   . rintro (h|⟨h,k⟩)
     . subst h;exact ⟨.inl rfl,hx⟩
     exact ⟨.inr h,k⟩
   rintro ⟨h|h,k⟩
   . exact .inl h
   exact .inr ⟨h,k⟩
def WA (P:Program)(ops:List Oper)(Kend:Array Value->World->Prop)(Kp:List PanicEntry->Array Value->World->Prop):Nat->Rds->List Nat->Array Value->World->Prop
 |0,_,done,tm,w=>(∀ j,rdy ops done j=false)/\Kend tm w
 |n+1,L,done,tm,w=>((∀ j,rdy ops done j=false)->Kend tm w)/\
  ∀ j o,ops[j]? =some o->rdy ops done j=true->OW P ops o tm w (fun tm' w'=>SL (cut o L) w'/\WA P ops Kend Kp n (cut o L) (j::done) tm' w') Kp
theorem SL.mono (hs: ∀ e∈L',e∈L)(h:SL L w):SL L' w:=fun e he=>h e (hs e he)
theorem X5 (o:Oper)(hs: ∀ e∈L',e∈L): ∀ e∈cut o L',e∈cut o L:=fun e a=>by
 rw [U4] at a|-;exact ⟨hs e a.1,a.2⟩
theorem WA.mono: ∀ n {L L':Rds} {done tm w},(∀ e∈L',e∈L)->WA P ops Kend Kp n L done tm w->WA P ops Kend Kp n L' done tm w:=by
 intro n
 induction n with
 |zero=>exact fun _ h=>h
 |succ n ih=>exact fun c ⟨g,h⟩=>⟨g,fun j o f d=>(h j o f d).mono fun t w' ⟨a,b⟩=>⟨a.mono (X5 o c),ih (X5 o c) b⟩⟩
theorem Ev {done':List Nat}(h: ∀ j,j∈done↔j∈done')(j:Nat):rdy ops done j=rdy ops done' j:=by
 have a: ∀ x,done.contains x=done'.contains x:=fun x=>by
  rw [cN];simp [h x]
 unfold rdy Zwl;simp only [a]
theorem WA.congr: ∀ n {L:Rds} {done done':List Nat} {tm:Array Value} {w:World},(∀ j,j∈done↔j∈done')->WA P ops Kend Kp n L done tm w->WA P ops Kend Kp n L done' tm w:=by
 intro n
 induction n with
 |zero=>exact fun h ⟨a,b⟩=>⟨fun j=>by rw [<-Ev h];exact a j,b⟩
 |succ n ih=>
  intro L done done' tm w h ⟨a,b⟩;refine ⟨fun e=>a fun j=>by rw [Ev h];exact e j,fun j o d c=>(b j o d (by rw [Ev h];exact c)).mono fun t w' ⟨s,x⟩=>⟨s,ih (fun i=>by simp [h i]) x⟩⟩
theorem T6 (h:rdy ops done j=true)(hne:j≠i):rdy ops (i::done) j=true:=by
 unfold rdy at*;simp only [aR,hU] at h|-;refine ⟨by simpa [hne] using h.1,?_⟩
 cases ho:ops[j]? with
 |none=>rw [ho] at h;simp at h
 |some o=>
  rw [ho] at h;have a:=h.2;simp only [Zwl,cQ] at a|-;intro e b;have:=a e b;simp only [eS] at this|-;rcases this with x|x
  . exact .inl x
  right;simp at x|-;exact .inr x
theorem Zws (tm:Array Value){y:Option Tmp}(v u:Value)(h: ∀ d,x=some d->y≠some d):Wg (Wg tm x v) y u=Wg (Wg tm y u) x v:=by
 cases x<;>cases y<;>simp only [Wg]
 rename_i a b;have c:a≠b:=fun e=>h a rfl (by rw [e])
 exact Array.setIfInBounds_comm v u c
theorem evA_put {y:Operand}(h: ∀ d,x=some d->y≠ .tmp d):evA (Wg tm x v) y=evA tm y:=by
 cases x with
 |none=>rfl
 |some d=>
  cases y with
  |tmp t=>
   have a:d≠t:=fun e=>h d rfl (by rw [e])
   simp [evA,Wg,a]
  |_=>rfl
theorem X2 (hs: ∀ cs b,o.op≠ .select cs b)(h: ∀ d,x=some d->d∉looks ops o):execOp (evA (Wg tm x v)) o=execOp (evA tm) o:=
 execOp_congr o hs fun y hy=>evA_put fun d a e=>h d a (by
  subst e;exact eH _ (List.mem_filterMap.2 ⟨.tmp d,by simpa using hy,rfl⟩))
theorem Ei (h: ∀ d,x=some d->d∉looks ops o):
 Region.wanted o (yielded ops.toArray (Wg tm x v))=Region.wanted o (yielded ops.toArray tm):=by
 cases x with
 |none=>rfl
 |some d=>
  unfold Region.wanted
  cases hg:o.guard with
  |none=>rfl
  |some g=>
   obtain ⟨j,c⟩:=g;have b:=h d rfl;simp only [looks,hg,bE,not_or] at b;dsimp only;unfold yielded;simp only [gV]
   cases hj:(ops[j]?).bind (·.dst) with
   |none=>simp
   |some e=>
    have a:d≠e:=fun q=>by rw [hj] at b;simp [q] at b
    simp [Wg,iI a]
def Yv (P:Program)(ops:List Oper)(S:World->Prop)(o:Oper)(v:Value)(tm:Array Value):Prop:=
 (Region.wanted o (yielded ops.toArray tm)=true/\ ∀ w,S w->(execOp (evA tm) o).run P w= .ok (.value v) w)\/(Region.wanted o (yielded ops.toArray tm)=false/\v=undef)
theorem Ap.value {R:Ending->World->Prop}(h:s.run P w= .ok (.value v) w)(hR:R (.returned v) w):Ap P s w R:=
 fun fr cs _ _=>⟨.returned v,w,hR,by simp,fr.finish v,cs,w,by simp [stepG.apply,h],.refl P _⟩
theorem OW.of_yv {S:World->Prop}(hy:Yv P ops S o v tm)(hS:S w)(hK:K (Wg tm o.dst v) w):OW P ops o tm w K Kp:=by
 unfold OW;rcases hy with ⟨a,b⟩|⟨a,rfl⟩
 . rw [if_pos a];exact Ap.value (b w hS) hK
 rw [if_neg (by simp [a])];exact hK
theorem C4 {x:Oper}(h:C5 ops x y=true):(∀ d,x.dst=some d->d∉looks ops y/\y.dst≠some d)/\(∀ d,y.dst=some d->d∉looks ops x):=by
 unfold C5 at h;rw [aR] at h;refine ⟨fun d b=> ?_,fun d b=> ?_⟩
 . have a:=h.1;rw [b] at a;simp at a;exact ⟨a.1,a.2⟩
 have c:=h.2;rw [b] at c;simpa using c
theorem Xy (hok:okR ops=true){x:Oper}(hx:ops[i]? =some x)(hy:ops[j]? =some y)(hne:i≠j):onB x j=true\/onB y i=true\/C5 ops x y=true:=by
 unfold okR at hok;rw [aR] at hok;have b:=cQ.1 hok.1 (x,i) (List.mem_zipIdx_iff_getElem?.2 hx);have a:=cQ.1 b (y,j) (List.mem_zipIdx_iff_getElem?.2 hy);simp only [eS,eI] at a;rcases a with ((h|h)|h)|h
 . exact aV h hne
 . exact .inl h
 . exact .inr (.inl h)
 exact .inr (.inr h)
theorem S5 (hok:okR ops=true)(hy:ops[j]? =some y):(∀ cs b,y.op≠ .select cs b)/\(∀ c,y.op≠ .defer c):=by
 unfold okR at hok;rw [aR] at hok;have a:=cQ.1 hok.2 y (jB hy);refine ⟨fun cs b e=> ?_,fun c e=> ?_⟩<;> · rw [e] at a;simp at a
theorem G7 (ho:ops[i]? =some o)(hr:rdy ops done i=true)(hj:onB o j=true):j∈done:=by
 unfold rdy at hr;rw [ho] at hr;simp only [aR,Zwl,cQ] at hr;obtain ⟨e,b,a⟩:=kN.1 hj;simp only [aR,eI] at a;have:=hr.2 e b;simp [a.1] at this;rw [<-a.2];exact this
theorem WA.first (hok:okR ops=true){Li:Rds}(ho:ops[i]? =some o)(hKp: ∀ ch tm w,Kp ch (Wg tm o.dst v) w->Kp ch tm w)(hLi: ∀ e∈Li,e.1=i):
 ∀ n L done tm w,(∀ e∈Li,e∈L)->rdy ops done i=true->Yv P ops (SL Li) o v tm->SL L w->WA P ops Kend Kp n L (i::done) (Wg tm o.dst v) w->WA P ops Kend Kp (n+1) L done tm w:=by
 intro n
 have m: ∀ {n L done tm w},(∀ e∈Li,e∈L)->Yv P ops (SL Li) o v tm->SL L w->WA P ops Kend Kp n L (i::done) (Wg tm o.dst v) w->
  OW P ops o tm w (fun c0 w'=>SL (cut o L) w'/\WA P ops Kend Kp n (cut o L) (i::done) c0 w') Kp:=fun a hy t H=>
  OW.of_yv hy (t.mono a) ⟨t.mono fun e s=>(U4.1 s).1,H.mono _ fun e s=>(U4.1 s).1⟩
 induction n with
 |zero=>
  intro L done tm w a g hy t H;refine ⟨fun hn=>aV g (by simp [hn i]),fun j b f c=> ?_⟩;by_cases hji:j=i
  . subst hji;rw [ho] at f;cases f
    exact m a hy t H
  have:=T6 c hji;rw [H.1 j] at this;cases this
 |succ n ih=>
  intro L done tm w a g hy t H;refine ⟨fun hn=>aV g (by simp [hn i]),fun j b f c=> ?_⟩;by_cases hji:j=i
  . subst hji;rw [ho] at f;cases f
    exact m a hy t H
  have f0:C5 ops o b=true:=by
   rcases Xy hok ho f (Ne.symm hji) with h|h|h
   . have:=G7 ho g h;unfold rdy at c;simp [this] at c
   . have:=G7 f c h;unfold rdy at g;simp [this] at g
   exact h
  obtain ⟨ha,hb⟩:=C4 f0;have y:=H.2 j b f (T6 c hji);have z:=S5 hok f;have e0:execOp (evA (Wg tm o.dst v)) b=execOp (evA tm) b:=X2 z.1 fun d k=>(ha d k).1
  have d0:Region.wanted b (yielded ops.toArray (Wg tm o.dst v))=Region.wanted b (yielded ops.toArray tm):=Ei fun d k=>(ha d k).1
  have a0:onB b i=false:=by
   cases hb:onB b i with
   |false=>rfl
   |true=>have:=G7 f c hb;unfold rdy at g;simp [this] at g
  have p: ∀ e∈Li,e∈cut b L:=fun e s=>U4.2 ⟨a e s,by rw [hLi e s];exact a0⟩
  have l: ∀ u w',SL (cut b L) w'/\WA P ops Kend Kp n (cut b L) (j::i::done) (Wg (Wg tm o.dst v) b.dst u) w'->SL (cut b L) w'/\WA P ops Kend Kp (n+1) (cut b L) (j::done) (Wg tm b.dst u) w':=by
   rintro u w' ⟨b0,hx⟩;refine ⟨b0,ih (cut b L) (j::done) (Wg tm b.dst u) w' p (T6 g (Ne.symm hji)) ?_ b0 ?_⟩
   . have q:=S5 hok ho;unfold Yv at*;rw [Ei (ops:=ops) (o:=o) fun d k=>hb d k,X2 (ops:=ops) q.1 fun d k=>hb d k];exact hy
   rw [Zws _ _ _ (fun d k e=>(ha d e).2 k)];exact hx.congr n fun x=>by simp only [bG];exact ⟨fun h=>by rcases h with h|h|h<;>simp [h],fun h=>by rcases h with h|h|h<;>simp [h]⟩
  unfold OW at y|-;rw [d0,e0] at y;split
  . rename_i hw;rw [if_pos hw] at y;refine y.mono fun e w' _ r=> ?_
    cases e with
    |returned u=>exact l u w' r
    |panicked ch=>exact hKp _ _ _ r
    |outgrown=>exact r
  rename_i hw;rw [if_neg hw] at y;exact l undef w y
theorem OW.run {r:List Nat}(ho:ops[i]? =some o)(hdf: ∀ c,o.op≠ .defer c)(h:OW P ops o tm w K Kp):
 (∃ tm' w',K tm' w'/\tm'.size=tm.size/\Steps P (lone (f.fr tm ds (.inRegion ops.toArray (i::r)::k)) cs w) (lone (f.fr tm' ds (.inRegion ops.toArray r::k)) cs w'))\/
 (∃ ch w',Kp ch tm w'/\ ∃ k',Steps P (lone (f.fr tm ds (.inRegion ops.toArray (i::r)::k)) cs w) (lone { f.fr tm ds k' with mode:= .panicking ch } cs w')):=by
 have b:ops.toArray[i]? =some o:=by simpa using ho
 unfold OW at h;split at h
 . rename_i m;obtain ⟨e,w',q,n,d,g,j,p,l⟩:=h (f.fr tm ds (.inRegion ops.toArray (i::r)::k)) cs rfl trivial
   have a:step P (lone (f.fr tm ds (.inRegion ops.toArray (i::r)::k)) cs w)= .next (lone d g j):=by
    refine step_lone_go ?_;rw [Qq f tm ds cs w _ i r k b m hdf];exact p
   cases e with
   |returned v=>
    refine .inl ⟨Wg tm o.dst v,w',q,Yg _ _ _,?_⟩;have:=(Steps.one a).trans l;rwa [Zzv,V7 f tm ds _ i r k v b] at this
   |panicked ch=>
    refine .inr ⟨ch,w',q,.inRegion ops.toArray (i::r)::k,?_⟩;have:=(Steps.one a).trans l;simpa [Zzv,Frame.raise,Fc.fr] using this
   |outgrown=>exact aV rfl n
 rename_i m;refine .inl ⟨Wg tm o.dst undef,w,h,Yg _ _ _,.one (step_lone_go ?_)⟩;rw [<-V7 f tm ds _ i r k undef b];simp [stepG,stepG.exec,Fc.fr,b,m]
def Cor (ops:List Oper)(listed:Array Bool)(done:List Nat):Prop:=listed.size=ops.length/\ ∀ j,j<ops.length->listed[j]? =some (decide (j∈done))
theorem Cor.ready (hc:Cor ops listed done)(hd: ∀ o∈ops,∀ e∈o.after,Region.binds .any e=true->e.on<ops.length)(j:Nat):j∈Region.ready .any ops.toArray listed↔rdy ops done j=true:=by
 rw [mem_ready];unfold rdy Zwl;by_cases hj:j<ops.length
 . have f:=hc.2 j hj;have d:ops[j]? =some ops[j]:=by simp [hj]
   rw [d];simp only [gV,d,Option.some.injEq,exists_eq_left',aR,hU,cQ,eS]
   have g:(listed.getD j true=false)↔done.contains j=false:=by
    simp [iY,f]
   rw [g];refine and_congr_right fun _=> ?_
   constructor
   . intro h e b;by_cases a:Region.binds .any e=true
     . right
       have:=h e (by simpa using b) a;have c:=hd _ (aC hj) e (by simpa using b) a;simp [iY,hc.2 _ c] at this;simpa using this
     left;simpa using a
   intro h e b a;have c:=hd _ (aC hj) e (by simpa using b) a;rcases h e (by simpa using b) with x|x
   . rw [a] at x;cases x
   simp [iY,hc.2 _ c];simpa using x
 have:ops[j]? =none:=by simp;omega
 simp [this]
theorem Cor.set (hc:Cor ops listed done)(i:Nat):Cor ops (listed.setIfInBounds i true) (i::done):=by
 refine ⟨by simp [hc.1],fun j a=> ?_⟩;by_cases h:i=j
 . subst h;simp [hc.1,a]
 rw [iI h,hc.2 j a];have:j≠i:=fun e=>h e.symm
 simp [this]
theorem WA.sound (hsel:okR ops=true)(hd: ∀ o∈ops,∀ e∈o.after,Region.binds .any e=true->e.on<ops.length): ∀ fuel t listed L done tm w,Cor ops listed done->WA P ops Kend Kp fuel L done tm w->
 (∃ tm' w',Kend tm' w'/\tm'.size=tm.size/\Steps P (lone (f.fr tm ds (.inRegion ops.toArray (Region.linearise.go .any ops.toArray fuel t listed [])::k)) cs w) (lone (f.fr tm' ds k) cs w'))\/
 (∃ ch tm' w',Kp ch tm' w'/\tm'.size=tm.size/\ ∃ k',Steps P (lone (f.fr tm ds (.inRegion ops.toArray (Region.linearise.go .any ops.toArray fuel t listed [])::k)) cs w) (lone { f.fr tm' ds k' with mode:= .panicking ch } cs w')):=by
 intro fuel
 have c: ∀ tm w,Kend tm w-> ∃ tm' w',Kend tm' w'/\tm'.size=tm.size/\Steps P (lone (f.fr tm ds (.inRegion ops.toArray []::k)) cs w) (lone (f.fr tm' ds k) cs w'):=
  fun tm w h=>⟨tm,w,h,rfl,.one (step_lone_go (by simp [stepG,stepG.exec,Fc.fr]))⟩
 induction fuel with
 |zero=>exact fun t listed L done tm w _ h=> .inl (by simpa [Region.linearise.go] using c tm w h.2)
 |succ fuel ih=>
  intro t listed L done tm w hc h;obtain ⟨n,m⟩:=h;simp only [Region.linearise.go]
  have z:(match (Region.ready .any ops.toArray listed)[t % (Region.ready .any ops.toArray listed).length]? with
   |some i=>Region.linearise.go .any ops.toArray fuel (t / (Region.ready .any ops.toArray listed).length) (listed.setIfInBounds i true) [i]
   |none=> [].reverse)=(match (Region.ready .any ops.toArray listed)[t % (Region.ready .any ops.toArray listed).length]? with
   |some i=>i::Region.linearise.go .any ops.toArray fuel (t / (Region.ready .any ops.toArray listed).length) (listed.setIfInBounds i true) []
   |none=> []):=by
   split
   . rw [linearise_go_acc];rfl
   rfl
  change (∃ tm' w',Kend tm' w'/\tm'.size=tm.size/\Steps P (lone (f.fr tm ds (.inRegion ops.toArray (match (Region.ready .any ops.toArray listed)[t % (Region.ready .any ops.toArray listed).length]? with
   |some i=>Region.linearise.go .any ops.toArray fuel (t / (Region.ready .any ops.toArray listed).length) (listed.setIfInBounds i true) [i]
   |none=> [].reverse)::k)) cs w) (lone (f.fr tm' ds k) cs w'))\/(∃ ch tm' w',Kp ch tm' w'/\tm'.size=tm.size/\ ∃ k',Steps P (lone (f.fr tm ds (.inRegion ops.toArray (match (Region.ready .any ops.toArray listed)[t % (Region.ready .any ops.toArray listed).length]? with
   |some i=>Region.linearise.go .any ops.toArray fuel (t / (Region.ready .any ops.toArray listed).length) (listed.setIfInBounds i true) [i]
   |none=> [].reverse)::k)) cs w) (lone { f.fr tm' ds k' with mode:= .panicking ch } cs w'))
  rw [z]
  cases hi:(Region.ready .any ops.toArray listed)[t % (Region.ready .any ops.toArray listed).length]? with
  |none=>
   have s:Region.ready .any ops.toArray listed= []:=by
    cases l:Region.ready .any ops.toArray listed with
    |nil=>rfl
    |cons x xs=>
     rw [l] at hi;have y:t % (x::xs).length<(x::xs).length:=Nat.mod_lt _ (by simp);simp at hi;simp at y;omega
   refine .inl (c tm w (n fun j=> ?_))
   cases hj:rdy ops done j with
   |false=>rfl
   |true=>have:=(hc.ready hd j).2 hj;rw [s] at this;cases this
  |some i=>
   dsimp only;have u:=jB hi;have l:=(hc.ready hd i).1 u
   have q: ∃ o,ops[i]? =some o:=by
    unfold rdy at l
    cases hx:ops[i]? with
    |none=>rw [hx] at l;simp at l
    |some o=>exact ⟨o,rfl⟩
   obtain ⟨o,q⟩:=q;rcases OW.run (f:=f) (k:=k) (ds:=ds) (cs:=cs) (r:=Region.linearise.go .any ops.toArray fuel (t / (Region.ready .any ops.toArray listed).length) (listed.setIfInBounds i true) []) q (S5 hsel q).2 (m i o q l) with ⟨tm',w',⟨_,hW⟩,p,b⟩|⟨ch,w',hk,k',b⟩
   . rcases ih (t / (Region.ready .any ops.toArray listed).length) _ _ _ tm' w' (hc.set i) hW with ⟨d,v,hK,g,a⟩|⟨ch,d,v,hK,g,k',a⟩
     . exact .inl ⟨d,v,hK,g.trans p,b.trans a⟩
     exact .inr ⟨ch,d,v,hK,g.trans p,k',b.trans a⟩
   exact .inr ⟨ch,tm,w',hk,rfl,k',b⟩
def HL (q:List HP):Rds->Prop
 | []=>True
 |(_,b,o,v)::r=>Cl q ⟨b,o,none⟩ v/\HL q r
theorem HL.sl (h:HL q L)(s:St G w q):SL L w:=by
 induction L with
 |nil=>intro e a;cases a
 |cons x r ih=>
  obtain ⟨i,b,o,v⟩:=x;intro e a;rcases bG.1 a with rfl|a
  . exact h.1 G w s
  exact ih h.2 e a
section rules
variable {Q:Yw}{n:Nat}
def Kp' (G:World)(Q:Yw)(n:Nat)(pk:PE)(ds:List Deferred)(cs:List Frame)(ch:List PanicEntry)(tm:Array Value)(w:World):Prop:=tm.size=n/\Agr tm pk/\ ∃ q',Q (.panic ch) pk ds cs q'/\St G w q'
def Ke' (P:Program)(G:World)(f:Fc)(Q:Yw)(k:List Item)(ds:List Deferred)(cs:List Frame)(tm:Array Value)(w:World):Prop:=
 tm.size=f.n-> ∃ o tm' p' ds' cs' w' q',Q o p' ds' cs' q'/\tm'.size=f.n/\Agr tm' p'/\St G w' q'/\Arr P f (lone (f.fr tm ds k) cs w) o tm' ds' cs' w'
def XD (P:Program)(G:World)(f:Fc)(Q:Yw)(ops:List Oper)(k:List Item)(pk:PE)(L:Rds)(n:Nat)(done:List Nat)(p:PE)(ds:List Deferred)(cs:List Frame)(q:List HP):Prop:=
 okR ops=true->R8 ops pk=true-> ∀ tm w,tm.size=f.n->Agr tm p->St G w q->SL L w->WA P ops (Ke' P G f Q k ds cs) (Kp' G Q f.n pk ds cs) n L done tm w
def Iu (ops:List Oper):Bool:=ops.all fun o=>o.after.toList.all fun e=>Nat.blt e.on ops.length
theorem X.draw {id:Nat}(pk:PE)(hm:P.follows .mixedOrders=true)(h1:okR ops=true)(h2:Iu ops=true)(h3:R8 ops pk=true)
 (x:XD P G f Q ops k pk [] ops.length [] p ds cs q):X P G f Q (.code (.region id ops.toArray true)::k) p ds cs q:=by
 intro tm w v ag s
 have hd: ∀ o∈ops,∀ e∈o.after,Region.binds .any e=true->e.on<ops.length:=by
  intro o ho e l _;have:=cQ.1 (cQ.1 h2 o ho) e (by simpa using l);simpa [fI] using this
 have s':St G { w with drawn:=w.drawn+1 } q:=s.same rfl rfl rfl rfl;have hW:=x h1 h3 tm _ v ag s' (fun e l=>by cases l)
 have y:Go.step P (lone (f.fr tm ds (.code (.region id ops.toArray true)::k)) cs w)=
  .next (lone (f.fr tm ds (.inRegion ops.toArray (Region.linearise.go .any ops.toArray ops.length (w.tape w.drawn (.order f.fn id)) (Array.replicate ops.length false) [])::k)) cs { w with drawn:=w.drawn+1 }):=
  step_lone_go (by simp [stepG,stepG.exec,Fc.fr,choose,Sem.run,Question.forced,Question.cut,Region.schedule,hm,Region.linearise])
 have hc:Cor ops (Array.replicate ops.length false) []:=⟨by simp,fun j hj=>by simp [hj]⟩;rcases WA.sound (f:=f) (k:=k) (ds:=ds) (cs:=cs) h1 hd ops.length (w.tape w.drawn (.order f.fn id)) _ [] [] tm _ hc hW with ⟨g,w',n,h,d⟩|⟨ch,g,w',n,h,k',d⟩
 . obtain ⟨o,i,p2,r,t,z,q2,m,a,b,c,u⟩:=n (h.trans v);exact ⟨o,i,p2,r,t,z,q2,m,a,b,c,u.head ((Steps.one y).trans d)⟩
 obtain ⟨h4,h5,q',m,hs⟩:=n;exact ⟨.panic ch,g,pk,ds,cs,w',q',m,h4,h5,hs,Arr.head ((Steps.one y).trans d) ⟨k',.refl P _⟩⟩
theorem XD.nil (x:X P G f Q k p ds cs q)(h:(List.range ops.length).all (done.contains ·)=true:=by rfl):XD P G f Q ops k pk L 0 done p ds cs q:=by
 intro _ _ tm w a b s c;refine ⟨fun j=> ?_,fun _=>x tm w a b s⟩;unfold rdy;by_cases hj:j<ops.length
 . have:=cQ.1 h j (by simpa using hj);simp at this;simp [this]
 have:ops[j]? =none:=by simp;omega
 simp [this]
abbrev jV:=@XD.nil
theorem XD.le {q':List HP}(h:Le q q')(x:XD P G f Q ops k pk L n done p ds cs q'):XD P G f Q ops k pk L n done p ds cs q:=fun a b tm w hn ag s hs=>x a b tm w hn ag (s.le h) hs
abbrev kK:=@XD.le
theorem XD.sub {p':PE}(h:SubP p' p)(x:XD P G f Q ops k pk L n done p' ds cs q):XD P G f Q ops k pk L n done p ds cs q:=fun a b tm w hn ag s hs=>x a b tm w hn (ag.sub h) s hs
theorem XD.ex {α:Sort _}{A:α->HP}(x: ∀ y,XD P G f Q ops k pk L n done p ds cs (A y::q)):XD P G f Q ops k pk L n done p ds cs (Wx.ex A::q):=fun a b tm w hn ag s hs=>let ⟨y,s'⟩:=s.get_ex;x y a b tm w hn ag s' hs
theorem XD.know (s:Nat)(u:Value)(h:lkp p s=some v)(e:v=u)(K:XD P G f Q ops k pk L n done ((s,u)::p) ds cs q):XD P G f Q ops k pk L n done p ds cs q:=by
 subst e;refine fun a b tm w i l st g=>K a b tm w i (fun j d c=>l j d ?_) st g
 simp only [lkp] at c
 cases hb:Nat.beq s j with
 |true=>rw [hb] at c;have:=cX hb;subst this;rw [h];simpa using c
 |false=>rw [hb] at c;simpa using c
abbrev dY:=@XD.know
theorem XD.part (s:Nat){t:Bool}(h:lkp p s=some (.bool t))(ht:t=true->XD P G f Q ops k pk L n done ((s,.bool true)::p) ds cs q)
 (hf:t=false->XD P G f Q ops k pk L n done ((s,.bool false)::p) ds cs q):XD P G f Q ops k pk L n done p ds cs q:=by
 cases t with
 |true=>exact .know s _ h rfl (ht rfl)
 |false=>exact .know s _ h rfl (hf rfl)
abbrev eY:=@XD.part
theorem Agr.of_put (h: ∀ e,d=some e->p.all (fun x=> !(x.1==e))=true)(a:Agr (Wg tm d v) p):Agr tm p:=by
 intro t u e;have:=a t u e
 cases d with
 |none=>exact this
 |some d=>
  have b:d≠t:=by
   rintro rfl;have f:=h d rfl
   have: ∀ (l:PE),l.all (fun x=> !(x.1==d))=true->lkp l d=none:=by
    intro l
    induction l with
    |nil=>intro _;rfl
    |cons x r ih=>
     obtain ⟨y,z⟩:=x;intro c;simp only [iK,aR] at c;simp only [lkp]
     have:Nat.beq y d=false:=by
      have h:=c.1
      cases hb:Nat.beq y d with
      |false=>rfl
      |true=>rw [cX hb] at h;simp at h
     rw [this];exact ih c.2
   rw [this p f] at e;cases e
  simpa [Wg,eC,b] using this
theorem Zw7 (h:R8 ops pk=true)(ho:ops[i]? =some o): ∀ e,o.dst=some e->pk.all (fun x=> !(x.1==e))=true:=by
 intro e a;have:=cQ.1 h o (jB ho);rw [a] at this;exact this
theorem Kp'.of_put (h3:R8 ops pk=true)(ho:ops[i]? =some o)(ch:List PanicEntry)(tm:Array Value)(w:World)(h:Kp' G Q f.n pk ds cs ch (Wg tm o.dst v) w):Kp' G Q f.n pk ds cs ch tm w:=by
 obtain ⟨a,b,c⟩:=h;exact ⟨by rwa [Yg] at a,b.of_put (Zw7 h3 ho),c⟩
abbrev kT:=@Kp'.of_put
theorem XD.pu_ (i:Nat)(ho:ops[i]? =some o)(h:Pu P p o v)(K:XD P G f Q ops k pk L n (i::done) (Qg p o.dst v) ds cs q)
 (hr:rdy ops done i=true:=by rfl) (hw:Wt ops p o=some true:=by rfl) (hd:dOk f.n o.dst=true:=by rfl):XD P G f Q ops k pk L (n+1) done p ds cs q:=
 fun a b tm w j d s g=>WA.first (Li:= []) a ho (fun l tm w=>kT b ho l tm w) (fun e c=>by cases c) n L done tm w (fun e c=>by cases c) hr (.inl ⟨Yt d hw,fun w' _=>h tm w' d⟩) g
  (K a b _ w (by rw [Yg];exact j) (d.put (j ▸ hd)) s g)
theorem XD.pass_ (i:Nat)(ho:ops[i]? =some o)(K:XD P G f Q ops k pk L n (i::done) (Qg p o.dst undef) ds cs q)
 (hr:rdy ops done i=true:=by rfl) (hw:Wt ops p o=some false:=by rfl) (hd:dOk f.n o.dst=true:=by rfl):XD P G f Q ops k pk L (n+1) done p ds cs q:=
 fun a b tm w g h s d=>WA.first (Li:= []) a ho (fun j tm w=>kT b ho j tm w) (fun e c=>by cases c) n L done tm w (fun e c=>by cases c) hr (.inr ⟨Yt h hw,rfl⟩) d
  (K a b _ w (by rw [Yg];exact g) (h.put (g ▸ hd)) s d)
theorem XD.load (i:Nat){d:Tmp}{t:TypeId}{x:Operand}{ty:TypeId}{b o:Nat}(ho:ops[i]? =some ⟨some d,.load t x,ty,pos,af,gd⟩)
 (hx:evp p x=some (.pointer (some ⟨b,o,none⟩))) (ht: ∀ w,(isAgg t).run P w= .ok false w) (hc:Cl q ⟨b,o,none⟩ v) (K:XD P G f Q ops k pk ((i,b,o,v)::L) n (i::done) ((d,v)::p) ds cs q)
 (hr:rdy ops done i=true:=by rfl) (hw:Wt ops p ⟨some d,.load t x,ty,pos,af,gd⟩=some true:=by rfl) (hd:Nat.blt d f.n=true:=by rfl):XD P G f Q ops k pk L (n+1) done p ds cs q:=by
 intro a r tm w m l s u
 have j:SL ((i,b,o,v)::L) w:=by
  intro e c;rcases bG.1 c with rfl|c
  . exact hc G w s
  exact u e c
 refine WA.mono _ (L:=(i,b,o,v)::L) (fun e c=>bX _ c) ?_
 refine WA.first (Li:= [(i,b,o,v)]) a ho (fun y tm w=>kT r ho y tm w) (fun e c=>by rw [bN.1 c]) n _ done tm w (fun e c=>by rw [bN.1 c];exact bW) hr (.inl ⟨Yt l hw,fun w' h=> ?_⟩) j
  (K a r _ w (by rw [Yg];exact m) (Agr.put (d:=some d) l (m ▸ hd)) s j)
 have g:=h (i,b,o,v) bW;simp [execOp,Zp l hx,Instr.loadAt,Instr.sureAddr,loadVar,ht,g]
theorem XD.rdL (i:Nat)(ho:ops[i]? =some o)(L':Rds)(hi:L'.all (fun e=>Nat.beq e.1 i)=true)(hL:HL q L')(h: ∀ tm w,Agr tm p->SL L' w->(execOp (evA tm) o).run P w= .ok (.value v) w)(K:XD P G f Q ops k pk (L'++L) n (i::done) (Qg p o.dst v) ds cs q)
 (hr:rdy ops done i=true:=by rfl) (hw:Wt ops p o=some true:=by rfl) (hd:dOk f.n o.dst=true:=by rfl):XD P G f Q ops k pk L (n+1) done p ds cs q:=by
 intro a m tm w l j s r;have g:=hL.sl s
 have c:SL (L'++L) w:=by
  intro e b;rcases bE.1 b with b|b
  . exact g e b
  exact r e b
 refine WA.mono _ (L:=L'++L) (fun e b=>eM _ b) ?_
 exact WA.first (Li:=L') a ho (fun t tm w=>kT m ho t tm w) (fun e b=>cX (cQ.1 hi e b)) n _ done tm w (fun e b=>eH _ b) hr (.inl ⟨Yt j hw,fun w' d=>h tm w' j d⟩) c
  (K a m _ w (by rw [Yg];exact l) (j.put (l ▸ hd)) s c)
def Uc (ops:List Oper)(done:List Nat)(i:Nat):Bool:=(List.range ops.length).all fun j=>j==i|| !rdy ops done j
theorem XD.one {R:Ending->List HP->Prop}(i:Nat)(ho:ops[i]? =some o)(h: ∀ tm w,Agr tm p->St G w q->Ap P (execOp (evA tm) o) w fun e w'=> ∃ q',R e q'/\St G w' q')
 (K: ∀ v q',R (.returned v) q'->HL q' (cut o L)/\XD P G f Q ops k pk (cut o L) n (i::done) (Qg p o.dst v) ds cs q') (Kp: ∀ ch q',R (.panicked ch) q'->Q (.panic ch) pk ds cs q'/\SubP pk p)
 (h1:Uc ops done i=true:=by rfl) (hr:rdy ops done i=true:=by rfl) (hw:Wt ops p o=some true:=by rfl) (hd:dOk f.n o.dst=true:=by rfl):XD P G f Q ops k pk L (n+1) done p ds cs q:=by
 intro a h3 tm w m d s hs;refine ⟨fun b=>aV hr (by simp [b i]),fun j oj u g=> ?_⟩
 have t:j=i:=by
  have r:j<ops.length:=(cA.1 u).1;have:=cQ.1 h1 j (by simpa using r);simpa [g] using this
 subst t;rw [ho] at u;cases u
 unfold OW;rw [if_pos (Yt d hw)];refine (h tm w d s).mono fun e w' l ⟨q',z,c⟩=> ?_
 cases e with
 |returned v=>
  obtain ⟨y,x⟩:=K v q' z;exact ⟨y.sl c,x a h3 _ w' (by rw [Yg];exact m) (d.put (m ▸ hd)) c (y.sl c)⟩
 |panicked ch=>
  obtain ⟨hQ,hp⟩:=Kp ch q' z;exact ⟨m,d.sub hp,q',hQ,c⟩
 |outgrown=>exact aV rfl l
theorem Ap.skip {R:Ending->World->Prop}(h:s.run P w= .ok .skip w')(hR:R (.returned undef) w'):Ap P s w R:=
 fun fr cs _ _=>⟨.returned undef,w',hR,by simp,fr.finish undef,cs,w',by simp [stepG.apply,h],.refl P _⟩
theorem Zyc {R:Ending->World->Prop}(h:s.run P w= .ok (.value v) w')(hR:R (.returned v) w'):Ap P s w R:=
 fun fr cs _ _=>⟨.returned v,w',hR,by simp,fr.finish v,cs,w',by simp [stepG.apply,h],.refl P _⟩
theorem Ef.ap (h:Ef P G p q o R)(tm:Array Value)(w:World)(ag:Agr tm p)(s:St G w q):Ap P (execOp (evA tm) o) w fun e w'=> ∃ q',Ret R e q'/\St G w' q':=by
 obtain ⟨v,w',q',a,b,c⟩:=h tm w ag s;rcases a with a|⟨rfl,a⟩
 . exact Zyc a ⟨q',⟨v,rfl,c⟩,b⟩
 exact Ap.skip a ⟨q',⟨undef,rfl,c⟩,b⟩
theorem XD.ef_ (i:Nat)(ho:ops[i]? =some o)(h:Ef P G p q o R)(K: ∀ v q',R v q'->HL q' (cut o L)/\XD P G f Q ops k pk (cut o L) n (i::done) (Qg p o.dst v) ds cs q')
 (h1:Uc ops done i=true:=by rfl) (hr:rdy ops done i=true:=by rfl) (hw:Wt ops p o=some true:=by rfl) (hd:dOk f.n o.dst=true:=by rfl):XD P G f Q ops k pk L (n+1) done p ds cs q:=
 .one i ho (fun tm w a s=>h.ap tm w a s) (fun v q' ⟨_,e,r⟩=>by cases e;exact K v q' r) (fun b q' ⟨_,e,_⟩=>by cases e) h1 hr hw hd
theorem Ls {ats:Array TypeId}{ty:TypeId}(ag:Agr tm p)
 (hf:evp p fo=some fv) (hv:evl p args=some vs):execOp (evA tm) ⟨d,.call ⟨.value fo,args.toArray,ats⟩,ty,pos,af,gd⟩=(do let d<-Deferred.ofValue fv vs.toArray;invoke d.target d.args):=by
 have b:=Zp ag hf;have a:=Nb ag hv;simp only [execOp,resolve,b];have:(args.toArray.map (evA tm))=vs.toArray:=by rw [<-a];simp
 rw [this]
theorem XD.call_ (i:Nat){ats:Array TypeId}{ty:TypeId}
     (ho:ops[i]? =some ⟨d,.call ⟨.value fo,args.toArray,ats⟩,ty,pos,af,gd⟩)
 (hf:evp p fo=some fv) (hv:evl p args=some vs) (hc:CallV P G fv vs pre (Ret R)) (hq:Le q (pre++F))
 (K: ∀ v q',R v q'-> ∀ q'',q''=q'++F->HL q'' (cut ⟨d,.call ⟨.value fo,args.toArray,ats⟩,ty,pos,af,gd⟩ L)/\XD P G f Q ops k pk (cut ⟨d,.call ⟨.value fo,args.toArray,ats⟩,ty,pos,af,gd⟩ L) n (i::done) (Qg p d v) ds cs q'')
 (h1:Uc ops done i=true:=by rfl) (hr:rdy ops done i=true:=by rfl) (hw:Wt ops p ⟨d,.call ⟨.value fo,args.toArray,ats⟩,ty,pos,af,gd⟩=some true:=by rfl) (hd:dOk f.n d=true:=by rfl):XD P G f Q ops k pk L (n+1) done p ds cs q:=
 .one (R:=fun e q''=> ∃ q',Ret R e q'/\q''=q'++F) i ho (fun tm w c s=>by
  rw [Ls c hf hv];exact (hc F w (s.le hq)).mono fun e w' _ ⟨q',b,a⟩=>⟨q'++F,⟨q',b,rfl⟩,a⟩)
  (fun v q'' ⟨q',⟨_,e,r⟩,e'⟩=>by cases e;exact K v q' r q'' e') (fun g q'' ⟨_,⟨_,e,_⟩,_⟩=>by cases e) h1 hr hw hd
theorem XD.callF_ (i:Nat){ats:Array TypeId}{ty:TypeId}
    (hcf: ∀ args w,(callFunc fn args).run P w= .ok (.enter fn args) w) (hc:CallF P G fn vs pre (Ret R)) (ho:ops[i]? =some ⟨d,.call ⟨.value (.func fn),args.toArray,ats⟩,ty,pos,af,gd⟩)
 (hv:evl p args=some vs) (hq:Le q (pre++F))
 (K: ∀ v q',R v q'-> ∀ q'',q''=q'++F->HL q'' (cut ⟨d,.call ⟨.value (.func fn),args.toArray,ats⟩,ty,pos,af,gd⟩ L)/\XD P G f Q ops k pk (cut ⟨d,.call ⟨.value (.func fn),args.toArray,ats⟩,ty,pos,af,gd⟩ L) n (i::done) (Qg p d v) ds cs q'')
 (h1:Uc ops done i=true:=by rfl) (hr:rdy ops done i=true:=by rfl) (hw:Wt ops p ⟨d,.call ⟨.value (.func fn),args.toArray,ats⟩,ty,pos,af,gd⟩=some true:=by rfl) (hd:dOk f.n d=true:=by rfl):XD P G f Q ops k pk L (n+1) done p ds cs q:=
 .call_ i (fv:= .func (.func fn) #[] #[]) ho rfl hv (Yq (a:= []) (b:= []) hcf (by simpa using hc)) hq K h1 hr hw hd
theorem XD.call (i:Nat){d:Tmp}{ats:Array TypeId}{ty:TypeId}
     (ho:ops[i]? =some ⟨some d,.call ⟨.value fo,args.toArray,ats⟩,ty,pos,af,gd⟩)
 (hf:evp p fo=some fv) (hv:evl p args=some vs) (hc:CallV P G fv vs pre (Ret R)) (hq:Le q (pre++F))
 (K: ∀ v q',R v q'-> ∀ q'',q''=q'++F->HL q'' (cut ⟨some d,.call ⟨.value fo,args.toArray,ats⟩,ty,pos,af,gd⟩ L)/\XD P G f Q ops k pk (cut ⟨some d,.call ⟨.value fo,args.toArray,ats⟩,ty,pos,af,gd⟩ L) n (i::done) ((d,v)::p) ds cs q'')
 (h1:Uc ops done i=true:=by rfl) (hr:rdy ops done i=true:=by rfl) (hw:Wt ops p ⟨some d,.call ⟨.value fo,args.toArray,ats⟩,ty,pos,af,gd⟩=some true:=by rfl) (hd:Nat.blt d f.n=true:=by rfl):XD P G f Q ops k pk L (n+1) done p ds cs q:= .call_ i ho hf hv hc hq K h1 hr hw hd
theorem XD.callF (i:Nat){d:Tmp}{ats:Array TypeId}{ty:TypeId}
    (hcf: ∀ args w,(callFunc fn args).run P w= .ok (.enter fn args) w) (hc:CallF P G fn vs pre (Ret R)) (ho:ops[i]? =some ⟨some d,.call ⟨.value (.func fn),args.toArray,ats⟩,ty,pos,af,gd⟩)
 (hv:evl p args=some vs) (hq:Le q (pre++F))
 (K: ∀ v q',R v q'-> ∀ q'',q''=q'++F->HL q'' (cut ⟨some d,.call ⟨.value (.func fn),args.toArray,ats⟩,ty,pos,af,gd⟩ L)/\XD P G f Q ops k pk (cut ⟨some d,.call ⟨.value (.func fn),args.toArray,ats⟩,ty,pos,af,gd⟩ L) n (i::done) ((d,v)::p) ds cs q'')
 (h1:Uc ops done i=true:=by rfl) (hr:rdy ops done i=true:=by rfl) (hw:Wt ops p ⟨some d,.call ⟨.value (.func fn),args.toArray,ats⟩,ty,pos,af,gd⟩=some true:=by rfl) (hd:Nat.blt d f.n=true:=by rfl):XD P G f Q ops k pk L (n+1) done p ds cs q:= .callF_ i hcf hc ho hv hq K h1 hr hw hd
section
variable {d:Tmp}{op:Op}{ty:TypeId}
theorem Fv (i:Nat)(ho:ops[i]? =some ⟨some d,op,ty,pos,af,gd⟩)(h:Pu P p ⟨some d,op,ty,pos,af,gd⟩ v)(K:XD P G f Q ops k pk L n (i::done) ((d,v)::p) ds cs q)
 (hr:rdy ops done i=true:=by rfl) (hw:Wt ops p ⟨some d,op,ty,pos,af,gd⟩=some true:=by rfl) (hd:Nat.blt d f.n=true:=by rfl):XD P G f Q ops k pk L (n+1) done p ds cs q:= .pu_ i ho h K hr hw hd
theorem XD.ef (i:Nat)(ho:ops[i]? =some ⟨some d,op,ty,pos,af,gd⟩)(h:Ef P G p q ⟨some d,op,ty,pos,af,gd⟩ R)(K: ∀ v q',R v q'->HL q' (cut ⟨some d,op,ty,pos,af,gd⟩ L)/\XD P G f Q ops k pk (cut ⟨some d,op,ty,pos,af,gd⟩ L) n (i::done) ((d,v)::p) ds cs q')
 (h1:Uc ops done i=true:=by rfl) (hr:rdy ops done i=true:=by rfl) (hw:Wt ops p ⟨some d,op,ty,pos,af,gd⟩=some true:=by rfl) (hd:Nat.blt d f.n=true:=by rfl):XD P G f Q ops k pk L (n+1) done p ds cs q:= .ef_ i ho h K h1 hr hw hd
abbrev eE:=@XD.ef
theorem XD.ef0 (i:Nat)(ho:ops[i]? =some ⟨none,op,ty,pos,af,gd⟩)(h:Ef P G p q ⟨none,op,ty,pos,af,gd⟩ R)(K: ∀ v q',R v q'->HL q' (cut ⟨none,op,ty,pos,af,gd⟩ L)/\XD P G f Q ops k pk (cut ⟨none,op,ty,pos,af,gd⟩ L) n (i::done) p ds cs q')
 (h1:Uc ops done i=true:=by rfl) (hr:rdy ops done i=true:=by rfl) (hw:Wt ops p ⟨none,op,ty,pos,af,gd⟩=some true:=by rfl):XD P G f Q ops k pk L (n+1) done p ds cs q:= .ef_ i ho h K h1 hr hw rfl
abbrev iM:=@XD.ef0
end
end rules
end
section
variable {a:Option Addr}{c ty sz n o i k m bytes:Nat}{vs l us cells:List Value}{h:Hp}{G w:World}{q:List HP}{u z:Value}{P:Program}{p:PE}{todo:List Item}{φ:Prop}{ps:List (Nat×Operand)}{kd:IntKind}{fs:Array Field}
def slP (a:Option Addr)(c:Nat)(ty sz n:Nat)(vs:List Value)(h:Hp):Prop:=
 vs.length=n*sz/\((a=none/\c=0/\n=0)\/ ∃ g cur,a=some ⟨g,0,none⟩/\n<=c/\c<=maxLen/\cur.size=c*sz/\cur.toList.take (n*sz)=vs/\h g=some (.cells cur ty (0,0)))
theorem slP.mono {h':Hp}(e:Hle h h')(p:slP a c ty sz n vs h):slP a c ty sz n vs h':=by
 obtain ⟨o,m⟩:=p;refine ⟨o,m.imp id ?_⟩;rintro ⟨g,b,l,k,j,i,f,d⟩;exact ⟨g,b,l,k,j,i,f,e _ _ d⟩
def slH (a:Option Addr)(c:Nat)(ty sz n:Nat)(vs:List Value):HP:=⟨fun _ h=>slP a c ty sz n vs h,fun _ e p=>p.mono e⟩
def slM (a:Option Addr)(c:Nat)(ty sz n:Nat)(vs:List Value):HP:=⟨fun M _=>slP a c ty sz n vs M,fun e _ p=>p.mono e⟩
theorem St.slH_elim (s:St G w (slH a c ty sz n vs::q)):vs.length=n*sz/\((a=none/\c=0/\n=0/\St G w q)\/
 ∃ g cur,a=some ⟨g,0,none⟩/\n<=c/\c<=maxLen/\cur.size=c*sz/\cur.toList.take (n*sz)=vs/\St G w (pto g (.cells cur ty (0,0))::q)):=by
 have o:St G w q:=s.le (.drop _ _);obtain ⟨bl,M,h,m,l,k,j,i,f,e,dj,d,b,⟨p1,z⟩,p⟩:=s;refine ⟨p1,?_⟩;rcases z with ⟨rfl,rfl,rfl⟩|⟨g,cur,y,x,v,u,t,r⟩
 . exact .inl ⟨rfl,rfl,rfl,o⟩
 exact .inr ⟨g,cur,y,x,v,u,t,bl,M,h,m,l,k,j,i,f,e,dj,d,b,r,p⟩
theorem Yn {g:Nat}{cur:Array Value}(h1:n<=c)(h2:c<=maxLen)(h3:cur.size=c*sz)(h4:cur.toList.take (n*sz)=vs)(q:List HP):
 Le (pto g (.cells cur ty (0,0))::q) (slH (some ⟨g,0,none⟩) c ty sz n vs::q):=
 .one fun M x p=>⟨by rw [<-h4,bI,gK,h3];exact eW (eJ _ h1),.inr ⟨g,cur,rfl,h1,h2,h3,h4,p⟩⟩
theorem Hq (ty sz:Nat)(q:List HP):Le q (slH none 0 ty sz 0 []::q):=
 fun M h p=>⟨fun _=>none,h,fun _=> .inl rfl,fun _ _ e=>by simp at e,.refl _,⟨by simp,.inl ⟨rfl,rfl,rfl⟩⟩,p⟩
def Sees (q:List HP)(a:Option Addr)(vs:List Value):Prop:= ∀ G w,St G w q-> ∀ i u,vs[i]? =some u-> ∃ b o,a=some ⟨b,o,none⟩/\w.cell? ⟨b,o+i,none⟩=some u
theorem slP.sees (p:slP a c ty sz n vs h)(hw: ∀ b o,h b=some o->w.heap[b]? =some o): ∀ i u,vs[i]? =some u-> ∃ b o,a=some ⟨b,o,none⟩/\w.cell? ⟨b,o+i,none⟩=some u:=by
 intro i u d;obtain ⟨l,k⟩:=p;rcases k with ⟨_,_,rfl⟩|⟨g,m,j,s,r,q,f,e⟩
 . have:vs= []:=aS (by simpa using l);subst this;simp at d
 refine ⟨g,0,j,?_⟩;have:=hw _ _ e;rw [<-f,fL] at d;split at d
 . simp only [World.cell?,this,dO];simpa using d
 cases d
theorem Sees.slH (q:List HP):Sees (slH a c ty sz n vs::q) a vs:=by
 rintro G _ ⟨_,M,h,j,i,_,_,_,g,f,_,d,_,p,_⟩;exact slP.sees p fun b o e=>i _ _ (d _ _ e)
theorem Sees.le {q':List HP}(h:Sees q' a vs)(l:Le q q'):Sees q a vs:=fun G w s=>h G w (s.le l)
theorem Sees.there {A:HP}(h:Sees q a vs):Sees (A::q) a vs:=h.le (.drop _ _)
theorem Sees.cl {b:Nat}(h:Sees q (some ⟨b,o,none⟩) vs)(hi:vs[i]? =some u):Cl q ⟨b,o+i,none⟩ u:=fun G w s=>by
 obtain ⟨c,o',e,a⟩:=h G w s i u hi
 cases e;exact a
def Oe (a:Option Addr)(c l s:Nat):Option Addr:=if c=l then a else a.map (·.add (l*s))
theorem Sees.suf {l:Nat}(h:Sees q a vs)(hn:vs.length<=c*sz):Sees q (Oe a c l sz) (vs.drop (l*sz)):=fun G w s i u d=>by
 rw [gR] at d;obtain ⟨b,o,rfl,f⟩:=h G w s _ u d;unfold Oe;by_cases e:c=l
 . subst e;have:vs[c*sz+i]? =none:=eU (by omega);rw [this] at d;cases d
 rw [if_neg e];exact ⟨b,o+l*sz,by simp [Vj],by rw [fA];exact f⟩
theorem St.slFreeze (s:St G w (Wx.slH a c ty sz n vs::q)):St G w (Wx.slM a c ty sz n vs::q):=by
 obtain ⟨f,h|⟨g,d,m,l,k,j,i,b⟩⟩:=s.slH_elim
 . obtain ⟨rfl,rfl,rfl,b⟩:=h;refine b.le fun M h p=>⟨fun _=>none,h,fun _=> .inl rfl,fun _ _ e=>by simp at e,.refl _,⟨f,.inl ⟨rfl,rfl,rfl⟩⟩,p⟩
 exact b.freeze.le (.one fun M x p=>⟨f,.inr ⟨g,d,m,l,k,j,i,p⟩⟩)
section
variable {f:Fc}{Q:Yw}{k:List Item}{ds:List Deferred}{cs:List Frame}{ops:List Oper}{l:List Oper}
theorem X.fact (h: ∀ w,St G w q->φ)(x:φ->X P G f Q todo p ds cs q):X P G f Q todo p ds cs q:=fun tm w hn ag s=>x (h w s) tm w hn ag s
abbrev jW:=@X.fact
theorem XO.fact (h: ∀ w,St G w q->φ)(x:φ->XO P G f Q ops.toArray k l p ds cs q):XO P G f Q ops.toArray k l p ds cs q:=fun is e=> .fact h fun y=>x y is e
theorem XD.fact {pk:PE}{L:Rds}{done:List Nat}(h: ∀ w,St G w q->φ)(x:φ->XD P G f Q ops k pk L m done p ds cs q):XD P G f Q ops k pk L m done p ds cs q:=fun a b tm w hn ag s hs=>x (h w s) a b tm w hn ag s hs
theorem Sees.addr (hs:Sees q a vs)(h:0<vs.length)(s:St G w q): ∃ b o,a=some ⟨b,o,none⟩:=
 let ⟨b,o,e,_⟩:=hs G w s 0 vs[0] (by simp [h]);⟨b,o,e⟩
theorem X.addr (hs:Sees q a vs)(h:0<vs.length)(x: ∀ b o,a=some ⟨b,o,none⟩->X P G f Q todo p ds cs q):X P G f Q todo p ds cs q:=
 .fact (fun w s=>hs.addr h s) fun ⟨b,o,e⟩=>x b o e
theorem XO.addr (hs:Sees q a vs)(h:0<vs.length)(x: ∀ b o,a=some ⟨b,o,none⟩->XO P G f Q ops.toArray k l p ds cs q):XO P G f Q ops.toArray k l p ds cs q:=
 .fact (fun w s=>hs.addr h s) fun ⟨b,o,e⟩=>x b o e
end
section facts
variable {r:List HP}{d:Option Tmp}{ty:TypeId}{pos:String}{af:Array Edge}{gd:Option (Nat×Bool)}{v:Value}{x y:Operand}{b:Option Addr}{c':Nat}{ws:List Value}{t e:TypeId}
theorem U6 (hs: ∀ i u,ws[i]? =some u-> ∃ b' o,b=some ⟨b',o,none⟩/\w.cell? ⟨b',o+i,none⟩=some u)(hm:ws.length=m*sz)(hsz:0<sz):
 (m=0/\ws= [])\/ ∃ ad:Addr,b=some ad/\ ∀ j u,ws[j]? =some u->w.cell? (ad.add j)=some u:=by
 by_cases h0:m=0
 . subst h0;exact .inl ⟨rfl,aS (by simpa using hm)⟩
 right
 have c:0<ws.length:=by rw [hm];exact Nat.mul_pos (by omega) hsz
 obtain ⟨b',o,rfl,_⟩:=hs 0 ws[0] (by simp [c]);refine ⟨⟨b',o,none⟩,rfl,fun j u a=> ?_⟩;obtain ⟨g,f,e,d⟩:=hs j u a
 cases e;rw [Vj];exact d
theorem zip_ev {α β γ:Type}(ps:List (α×β))(g:β->γ):(ps.toArray.map fun (i,x)=>(i,g x)).toList=(ps.map (·.1)).zip ((ps.map (·.2)).map g):=by
 simp only [List.map_toArray]
 induction ps with
 |nil=>rfl
 |cons x r ih=>simp only [bA,gS];exact aQ _ ih
theorem Un {bi:Builtin}{l:List Operand}{ats:Array TypeId}{tm:Array Value}(ag:Agr tm p)(hv:evl p l=some us):
 execOp (evA tm) ⟨d,.call ⟨.builtin bi,l.toArray,ats⟩,ty,pos,af,gd⟩=builtin bi ats ty (l.toArray.map fun| .const _=>true|_=>false) us.toArray:=by
 have a:=Nb ag hv;simp only [execOp,resolve];have:(l.toArray.map (evA tm))=us.toArray:=by rw [<-a];simp
 rw [this];rfl
theorem Ef.append (ht:P.underlying t=some (.slice e))(hi:(P.info? e).map (fun i=>(i.zero,i.size,i.bytes))=some (some z,sz,bytes))(hz:z.cells.size=sz)(hsz:Nat.blt 0 sz=true)
 (hx:evp p x=some (.slice a i c)) (hy:evp p y=some (.slice b m c')) (hq:Le q (slH a c e sz n vs::r)) (hin:i<=n) (hs:Sees q b ws) (hm:ws.length=m*sz) (h1: ∀ u∈ws,u.oneCell'=true)
 (h63:i+m<=9223372036854775807) (hby:(i+m)*bytes<=140737488355328):
 Ef P G p q ⟨d,.call ⟨.builtin .append, [x,y].toArray, [t,t].toArray⟩,ty,pos,af,gd⟩ fun v q'=> ∃ a' c',v= .slice a' (i+m) c'/\q'=slH a' c' e sz (i+m) (vs.take (i*sz)++ws)::r:=by
 obtain ⟨I,hI,e1,e2,e3⟩:=info_parts hi;have k0:0<sz:=by simpa [fI] using hsz
 subst e2;subst e3;intro tm w ag s;have s0:evl p [x,y]=some [.slice a i c,.slice b m c']:=by simp [evl,hx,hy]
 have r0:=Un (d:=d) (ty:=ty) (pos:=pos) (af:=af) (gd:=gd) (bi:= .append) (ats:= [t,t].toArray) ag s0;rw [r0]
 have k: ∀ v w',(Builtin.append_ #[t,t] ty #[.slice a i c,.slice b m c']).run P w= .ok v w'->(builtin .append [t,t].toArray ty ([x,y].toArray.map fun| .const _=>true|_=>false) [.slice a i c,.slice b m c'].toArray).run P w= .ok (.value v) w':=by
  intro v w' h;simp [builtin,h]
 have c0:=U6 (hs G w s) hm k0;obtain ⟨d0,j0⟩:=(s.le hq).slH_elim;rcases j0 with ⟨rfl,rfl,rfl,s'⟩|⟨g,f,rfl,v0,u0,t0,o0,s'⟩
 . obtain rfl:i=0:=by omega
   have n0:vs= []:=aS (by simpa using d0);subst n0;rcases c0 with ⟨rfl,rfl⟩|⟨o,rfl,hc⟩
   . refine ⟨.slice none 0 0,w,_,.inl (k _ _ ?_),s'.le (Hq e I.size r),none,0,rfl,by simp⟩
     cases b<;>simp [Builtin.append_,run_underlying ht,Go.sizeOf,typeInfo,hI,Builtin.lenOf,Builtin.firstCells,loadCells,loadCellsFrom]
   by_cases hm0:m=0
   . subst hm0;have f0:ws= []:=aS (by simpa using hm);subst f0;refine ⟨.slice none 0 0,w,_,.inl (k _ _ ?_),s'.le (Hq e I.size r),none,0,rfl,by simp⟩;simp [Builtin.append_,run_underlying ht,Go.sizeOf,typeInfo,hI,Builtin.lenOf,Builtin.firstCells,loadCells,loadCellsFrom]
   have hr:=run_append_nil (P:=P) w t ty e I z ht hI e1 o m c' ws hm hc (by omega) (by omega) (by have hb:=hby;simp only [dO] at hb;omega);have m0:=grownCap_ge w m 0 e;have i0:=grownCap_le_maxLen w m 0 e (by simp only [maxLen];omega);refine ⟨_,_,_,.inl (k _ _ hr),?_,some ⟨w.heap.size,0,none⟩,grownCap w m 0 e,by simp,rfl⟩
   have s2:St G (w.drew.alloc (.cells (ws.toArray++Builtin.zeroCells z.cells (grownCap w m 0 e - m)) e)) (pto w.heap.size (.cells (ws.toArray++Builtin.zeroCells z.cells (grownCap w m 0 e - m)) e (0,0))::r):=
    St.new (w:=w.drew) (s'.same rfl rfl rfl rfl) rfl rfl rfl rfl
   refine s2.le (Yn (by omega) i0 ?_ ?_ r)
   . simp only [kD,fE,size_zeroCells,hz,hm,<-eG];congr 1;omega
   simp only [jO,dO,Nat.zero_mul,gN,aY];rw [<-hm];exact iU
 have l:f.toList.take (i*I.size)=vs.take (i*I.size):=by
  rw [<-o0,List.take_take,eW (eJ _ hin)]
 have hg:w.heap[g]? =some (.cells f e (0,0)):=s'.has (dU _ _ _);have a0:(vs.take (i*I.size)).length=i*I.size:=by rw [bI,d0];exact eW (eJ _ hin)
 -- the source, asc an address that serves
 have l0: ∃ o:Addr,(b=some o\/(b=none/\m=0))/\ ∀ j u,ws[j]? =some u->w.cell? (o.add j)=some u:=by
  rcases c0 with ⟨rfl,rfl⟩|⟨o,hb,hc⟩
  . cases b with
    |none=>exact ⟨⟨0,0,none⟩,.inr ⟨rfl,rfl⟩,fun j u h=>by simp at h⟩
    |some o=>exact ⟨o,.inl rfl,fun j u h=>by simp at h⟩
  exact ⟨o,.inl hb,hc⟩
 obtain ⟨o,hb,hc⟩:=l0;by_cases hroom:i+m<=c
 . have e0:i*I.size+ws.length<=f.size:=by rw [hm,t0,<-eG];exact eJ _ hroom
   have p0:=run_storeCells_at P g (i*I.size) e ws 0 f w hg (by simpa using e0) h1;simp only [iF] at p0
   have hr:(Builtin.append_ #[t,t] ty #[.slice (some ⟨g,0,none⟩) i c,.slice b m c']).run P w=
    .ok (.slice (some ⟨g,0,none⟩) (i+m) c) (w.setRow g (f.toList.take (i*I.size)++ws++f.toList.drop (i*I.size+ws.length)).toArray):=by
    rcases hb with rfl|⟨rfl,rfl⟩
    . exact run_append_room (P:=P) w t ty e I ht hI g i c f hg o m c' ws hm hc h1 hroom e0
    have f0:ws= []:=aS (by simpa using hm);subst f0;have g0:=setRow_self w g f e (0,0) hg;simp only [aT,iF,bR,dZ,kU,g0];have b0:i<=c:=by omega
    simp [Builtin.append_,run_underlying ht,Go.sizeOf,typeInfo,hI,Builtin.lenOf,Builtin.firstCells,b0,storeCells]
   refine ⟨_,_,_,.inl (k _ _ hr),?_,some ⟨g,0,none⟩,c,rfl,rfl⟩;have s2:=s'.put (o':= .cells (f.toList.take (i*I.size)++ws++f.toList.drop (i*I.size+ws.length)).toArray e (0,0)) (setRow_heap w g f _ e (0,0) hg) (fun j hj=>setRow_other w g j _ hj) (by simp) rfl rfl rfl;refine s2.le (Yn hroom u0 ?_ ?_ r)
   . simp only [fE,aA,bI,cE,gK];omega
   rw [l];have:(vs.take (i*I.size)++ws).length=(i+m)*I.size:=by rw [aA,a0,hm,eG]
   rw [<-this];exact iU
 have h0: ∀ j u,(vs.take (i*I.size))[j]? =some u->w.cell? ((⟨g,0,none⟩:Addr).add j)=some u:=by
  intro j u hu;rw [Vj,dO];rw [<-l,fL] at hu;split at hu
  . simp only [World.cell?,hg];simpa using hu
  cases hu
 have hr:(Builtin.append_ #[t,t] ty #[.slice (some ⟨g,0,none⟩) i c,.slice b m c']).run P w=
  .ok (.slice (some ⟨w.heap.size,0,none⟩) (i+m) (grownCap w (i+m) c e))
   (w.drew.alloc (.cells ((vs.take (i*I.size)).toArray++ws.toArray++Builtin.zeroCells z.cells (grownCap w (i+m) c e - (i+m))) e)):=by
  rcases hb with rfl|⟨rfl,rfl⟩
  . exact run_append_grow (P:=P) w t ty e I z ht hI e1 ⟨g,0,none⟩ i c _ a0 h0 o m c' ws hm hc (by omega) (by omega) (growslice_fits (by omega) hby)
  omega
 have m0:=grownCap_ge w (i+m) c e;have i0:=grownCap_le_maxLen w (i+m) c e (by simp only [maxLen];omega);refine ⟨_,_,_,.inl (k _ _ hr),?_,some ⟨w.heap.size,0,none⟩,grownCap w (i+m) c e,rfl,rfl⟩;have s3:St G w.drew r:=(s'.le (.drop _ _)).same rfl rfl rfl rfl;have s2:=St.new (w:=w.drew) (w':=w.drew.alloc (.cells ((vs.take (i*I.size)).toArray++ws.toArray++Builtin.zeroCells z.cells (grownCap w (i+m) c e - (i+m))) e)) s3 rfl rfl rfl rfl;have q0:(vs.take (i*I.size)++ws).length=(i+m)*I.size:=by rw [aA,a0,hm,eG]
 refine s2.le (Yn m0 i0 ?_ ?_ r)
 . simp only [kD,fE,size_zeroCells,hz,a0,hm,<-eG];congr 1;omega
 simp only [jO,aK];rw [<-aK,<-q0];exact iU
theorem Ef.buildSlice {len:Nat}(ht:P.underlying t=some (.slice e))(hi:(P.info? e).map (fun i=>(i.zero,i.size,i.bytes))=some (some z,sz,bytes))
 (hv:evl p (ps.map (·.2))=some us) (h0:Nat.ble (len*sz) 16777216=true) (hn:Nat.blt 0 (len*sz)=true)
 (hf:Instr.fill (fun i=>some (i*sz,sz)) ((Array.range (len*sz)).map (z.cells[· % z.cells.size]!)) ((ps.map (·.1)).zip us)=some cells.toArray) (hl:cells.length=len*sz):
 Ef P G p q ⟨d,.buildSlice t len ps.toArray,ty,pos,af,gd⟩ fun v q'=> ∃ g,v= .slice (some ⟨g,0,none⟩) len len/\q'=slH (some ⟨g,0,none⟩) len e sz len cells::q:=by
 obtain ⟨I,h,o,n,u⟩:=info_parts hi;subst n;intro tm w r s;have l:=Nb r hv
 have b:(ps.toArray.map fun (i,x)=>(i,evA tm x)).toList=(ps.map (·.1)).zip us:=by
  rw [<-l];exact zip_ev ps _
 have m:len*I.size<=16777216:=by simpa using h0
 have c:0<len*I.size:=by simpa [fI] using hn
 refine ⟨.slice (some ⟨w.heap.size,0,none⟩) len len,w.alloc (.cells cells.toArray e),_,.inl ?_,?_,w.heap.size,rfl,rfl⟩
 . have k: ¬ (16777216<len*I.size):=by omega
   have j: ¬ (len*I.size=0):=by omega
   simp only [execOp,Instr.buildSlice,Sem.run_bind,run_underlying ht,Result.andThen_ok,Go.sizeOf,typeInfo,zeroValue];rw [b];simp [h,o,k,j,hf,newRow]
 have f:St G (w.alloc (.cells cells.toArray e)) (pto w.heap.size (.cells cells.toArray e (0,0))::q):=s.new rfl rfl rfl rfl;refine f.le (Yn (aU _) ?_ (by simp [hl]) (by simp [<-hl]) q);have a:0<I.size:=Nat.pos_of_mul_pos_left c;have:len<=len*I.size:=Nat.le_mul_of_pos_right _ a;simp only [maxLen];omega
abbrev kL:=@Ef.buildSlice
theorem T2 (ht:P.underlying t=some (.slice e))(hi:(P.info? e).map (fun i=>(i.zero,i.size,i.bytes))=some (some z,sz,bytes)):
 Ef P G p q ⟨d,.buildSlice t 0 #[],ty,pos,af,gd⟩ fun v q'=> ∃ g,v= .slice (some ⟨g,0,none⟩) 0 0/\q'=slH (some ⟨g,0,none⟩) 0 e sz 0 []::q:=by
 obtain ⟨I,b,h,c,f⟩:=info_parts hi;subst c;intro tm w j s;refine ⟨.slice (some ⟨w.heap.size,0,none⟩) 0 0,w.alloc (.cells #[] e),_,.inl ?_,?_,w.heap.size,rfl,rfl⟩
 . simp [execOp,Instr.buildSlice,run_underlying ht,Go.sizeOf,typeInfo,b,Instr.fill,newRow];congr 2;apply Array.ext';simp
 have a:St G (w.alloc (.cells #[] e)) (pto w.heap.size (.cells #[] e (0,0))::q):=s.new rfl rfl rfl rfl;exact a.le (Yn (aU _) (by simp [maxLen]) (by simp) (by simp) q)
theorem Zje {h:Int}(hx:evp p x=some (.slice a n c))(hy:evp p y=some (.int kd h))(ht:P.underlying t=some (.slice e))(hs: ∀ w,(Go.sizeOf e).run P w= .ok sz w)(h0:0<=h)(h1:h<=c):
 Pu P p ⟨d,.slice t x none (some y) none,ty,pos,af,gd⟩ (.slice a h.toNat c):=fun tm w b=>by
 have g:0<=h/\h<=(c:Int):=⟨h0,h1⟩;have f:a.map (fun x:Addr=>x.add 0)=a:=by cases a<;>simp [Addr.add]
 simp [execOp,Zp b hx,Zp b hy,Instr.sliceAt,Instr.slice,run_underlying ht,Instr.sliceBounds,Instr.sliceBound,asIntOf,g,hs,f]
theorem Zjo {l:Int}(hx:evp p x=some (.slice a n c))(hy:evp p y=some (.int kd l))(ht:P.underlying t=some (.slice e))(hs: ∀ w,(Go.sizeOf e).run P w= .ok sz w)(h0:0<=l)(h1:l<=n):
 Pu P p ⟨d,.slice t x (some y) none none,ty,pos,af,gd⟩ (.slice (Oe a c l.toNat sz) (n - l.toNat) (c - l.toNat)):=fun tm w b=>by
 have f:0<=l/\l<=(n:Int):=⟨h0,h1⟩;simp [execOp,Zp b hx,Zp b hy,Instr.sliceAt,Instr.slice,run_underlying ht,Instr.sliceBounds,Instr.sliceBound,asIntOf,f,hs,Oe]
def spl:List Value->Nat->List Value->List Value
 |l,_, []=>l
 | [],_,_=> []
 |_::l,0,v::vs=>v::spl l 0 vs
 |x::l,n+1,vs=>x::spl l n vs
def P0:List (Nat×Nat)->Nat->Option (Nat×Nat)
 | [],_=>none
 |v::_,0=>some v
 |_::r,n+1=>P0 r n
theorem Zvq (l:List (Nat×Nat))(n:Nat):P0 l n=l[n]? :=by
 induction l generalizing n with
 |nil=>simp [P0]
 |cons v r ih=>cases n with
  |zero=>simp [P0]
  |succ n=>simp [P0,ih]
def Cr (pl:List (Nat×Nat)):List Value->List (Nat×Value)->Option (List Value)
 |cs, []=>some cs
 |cs,(i,v)::r=>match P0 pl i with
  |some (off,sz)=>bif Nat.beq v.cells.toList.length sz && Nat.ble (off+sz) cs.length then Cr pl (spl cs off v.cells.toList) r else none
  |none=>none
theorem spl_fold (vs:List Value): ∀ (l:List Value) (o j:Nat),(vs.zipIdx j).foldl (fun cs (c,i)=>cs.setIfInBounds (o+i) c) l.toArray=(spl l (o+j) vs).toArray:=by
 induction vs with
 |nil=>intro l o j;simp [spl]
 |cons v vs ih=>
  intro l o j;simp only [List.zipIdx_cons,kV];rw [List.setIfInBounds_toArray,ih];congr 1
  have: ∀ (l:List Value) (n:Nat),spl (l.set n v) (n+1) vs=spl l n (v::vs):=by
   intro l
   induction l with
   |nil=>intro n;cases vs<;>simp [spl]
   |cons x l ih2=>
    intro n
    cases n with
    |zero=>cases vs with
     |nil=>simp [spl]
     |cons u us=>simp [spl]
    |succ n=>cases vs with
     |nil=>have:=ih2 n;simp [spl] at this|-;exact this
     |cons u us=>have:=ih2 n;simp [spl] at this|-;exact this
  rw [<-this l (o+j),fA]
theorem Zjk {pl:List (Nat×Nat)}: ∀ (ps:List (Nat×Value)) {cs cells:List Value},Cr pl cs ps=some cells->Instr.fill (pl.toArray[·]?) cs.toArray ps=some cells.toArray:=by
 intro ps
 induction ps with
 |nil=>intro cs cells h;simp [Cr] at h;simp [Instr.fill,h]
 |cons x r ih=>
  obtain ⟨i,v⟩:=x;intro cs cells h;simp only [Cr,Zvq] at h
  cases hp:pl[i]? with
  |none=>rw [hp] at h;cases h
  |some pp=>
   obtain ⟨a,sz⟩:=pp;rw [hp] at h;dsimp only at h
   cases hc:(Nat.beq v.cells.toList.length sz && Nat.ble (a+sz) cs.length) with
   |false=>rw [hc] at h;cases h
   |true=>
    rw [hc] at h;simp only [cond_true] at h;simp only [aR,Nat.beq_eq_true_eq,Nat.ble_eq] at hc;have d:v.cells.size=sz:=by simpa using hc.1
    have g:a+sz<=cs.length:=by simpa using hc.2
    have b: ¬ (v.cells.size≠sz\/a+v.cells.size>cs.toArray.size):=by simp [d];omega
    simp only [Instr.fill,gV,hp];have f:(decide (v.cells.size≠sz)||decide (a+v.cells.size>cs.toArray.size))=false:=by simp [d];omega
    rw [if_neg (by simpa using b)];have:=ih h;have c:=spl_fold v.cells.toList cs a 0;simp only [iF] at c;rw [<-c] at this;rw [<-this]
    have e:(v.cells.zipIdx.foldl (fun cs (x:Value×Nat)=>cs.setIfInBounds (a+x.2) x.1) cs.toArray)=(v.cells.toList.zipIdx.foldl (fun cs (x:Value×Nat)=>cs.setIfInBounds (a+x.2) x.1) cs.toArray):=by
     rw [<-Array.foldl_toList,Array.toList_zipIdx]
    rw [e];simp only [gV]
theorem Pu.build {z:List Value}(pl:List (Nat×Nat))(hz: ∀ w,(zeroValue t).run P w= .ok (.agg z.toArray) w)(ht:P.underlying t=some (.struct fs))
 (hp:fs.toList.mapM (fun f=>(P.info? f.type).map fun i=>(f.offset,i.size))=some pl) (hv:evl p (ps.map (·.2))=some us) (hb:Cr pl z ((ps.map (·.1)).zip us)=some cells):Pu P p ⟨d,.build t ps.toArray,ty,pos,af,gd⟩ (.agg cells.toArray):=fun tm w j=>by
 have h:=Nb j hv
 have c:(ps.toArray.map fun (i,x)=>(i,evA tm x)).toList=(ps.map (·.1)).zip us:=by
  rw [<-h];exact zip_ev ps _
 have g:=run_places (P:=P) w fs.toList pl hp
 have b:(fs.mapM fun f=>do Pure.pure (f.offset,<-Go.sizeOf f.type):Sem (Array (Nat×Nat))).run P w= .ok pl.toArray w:=by
  have e:fs=fs.toList.toArray:=by simp
  rw [e,List.mapM_toArray];simp only [Sem.run_map]
  have:(fun f:Field=>(do Pure.pure (f.offset,<-Go.sizeOf f.type):Sem (Nat×Nat)))=(fun f=>Prod.mk f.offset<$>Go.sizeOf f.type):=by
   funext f;exact (map_eq_pure_bind _ _).symm
  rw [this,g];rfl
 have a:=Zjk _ hb;simp only [execOp,Instr.build,Sem.run_bind,hz,Result.andThen_ok,run_underlying ht,b,Value.cells,c,a];rfl
theorem Pu.field (ft off:Nat)(hx:evp p x=some (.agg l.toArray))(ht:P.underlying t=some (.struct fs))(hF:(fs[k]?).map (fun F=>(F.type,F.offset))=some (ft,off))(ha: ∀ w,(isAgg ft).run P w= .ok false w)(hv:nth l off=some v):
 Pu P p ⟨d,.field t x k,ty,pos,af,gd⟩ v:=fun tm w b=>by
 obtain ⟨F,a,e⟩:=kG.1 hF;clear hF;simp only [jL] at e;obtain ⟨rfl,rfl⟩:=e;rw [Ur] at hv;simp [execOp,Zp b hx,Instr.field,run_underlying ht,a,asAgg,part,ha,hv]
theorem Zyv (ft off:Nat)(hx:evp p x=some (.agg l.toArray))(ht:P.underlying t=some (.struct fs))(hF:(fs[k]?).map (fun F=>(F.type,F.offset))=some (ft,off))(ha: ∀ w,(isAgg ft).run P w= .ok true w)(hs: ∀ w,(Go.sizeOf ft).run P w= .ok sz w):
 Pu P p ⟨d,.field t x k,ty,pos,af,gd⟩ (.agg (Wx.sub l off sz).toArray):=fun tm w b=>by
 obtain ⟨F,a,e⟩:=kG.1 hF;clear hF;simp only [jL] at e;obtain ⟨rfl,rfl⟩:=e;simp [execOp,Zp b hx,Instr.field,run_underlying ht,a,asAgg,part,ha,hs,Wx.sub,List.extract]
def Vo (l:List Value)(o:Nat)(vs:List Value):List Value:=l.take o++vs++l.drop (o+vs.length)
theorem Ef.storeA {bk:Nat}{t':TypeId}(hx:evp p x=some (.pointer (some ⟨bk,o,none⟩)))(hy:evp p y=some (.agg vs.toArray))(hs: ∀ w,(Go.sizeOf t).run P w= .ok sz w)
 (hl:vs.length=sz) (h1:vs.all (·.oneCell')=true) (hq:Le q (pto bk (.cells l.toArray t' (0,0))::r)) (ho:Nat.ble (o+sz) l.length=true):
 Ef P G p q ⟨d,.store t x y,ty,pos,af,gd⟩ fun z q'=>z=undef/\q'=pto bk (.cells (Vo l o vs).toArray t' (0,0))::r:=
 fun tm w f s=>by
  have c:=s.le hq;have e:=c.has (dU _ _ _);have b:o+vs.length<=l.length:=by rw [hl];simpa using ho
  have a:=run_storeCells_at P bk o t' vs 0 l.toArray w e (by simpa using b) (fun v g=>cQ.1 h1 v g);simp only [iF] at a;refine ⟨undef,w.setRow bk (Vo l o vs).toArray,_,.inr ⟨rfl,?_⟩,?_,rfl,rfl⟩
  . have k:=Zp f hx;have i:=Zp f hy;simp [execOp,k,i,Instr.storeAt,Instr.sureAddr,storeVar,hs,Value.cells,hl,a,Vo]
  exact c.put (setRow_heap w bk l.toArray _ t' (0,0) e) (fun j h=>setRow_other w bk j _ h) (by simp) rfl rfl rfl
end facts
def LV (P:Program)(G:World)(q:List HP)(t:TypeId)(A:Addr)(v:Value):Prop:= ∀ w,St G w q->(loadVar t A).run P w= .ok v w
theorem LV.cell {P:Program}{G:World}{q:List HP}{t:TypeId}{A:Addr}{v:Value}(ht: ∀ w,(isAgg t).run P w= .ok false w)(h:Cl q A v):LV P G q t A v:=fun w s=>by simp [loadVar,ht,h G w s]
abbrev gO:=@LV.cell
theorem LV.agg {P:Program}{G:World}{q:List HP}{t:TypeId}{b o sz:Nat}{l:List Value}{t':TypeId}{fz:Nat×Nat}(ht: ∀ w,(isAgg t).run P w= .ok true w)(hs: ∀ w,(Go.sizeOf t).run P w= .ok sz w)
 (hh:Has q b (.cells l.toArray t' fz)) (hv:Nat.ble (o+sz) l.length=true):LV P G q t ⟨b,o,none⟩ (.agg (Wx.sub l o sz).toArray):=fun w s=>by
 have f:=s.has hh;have d:o+sz<=l.length:=by simpa using hv
 have e:(Wx.sub l o sz).length=sz:=by simp [Wx.sub];omega
 have c:=run_loadCells_list (P:=P) w ⟨b,o,none⟩ (Wx.sub l o sz) (fun j u a=>by
  rw [Vj];simp only [World.cell?,f];simp only [Wx.sub,fL,gR] at a;split at a
  . simpa using a
  cases a)
 rw [e] at c;simp [loadVar,ht,hs,c]
def ResOk (P:Program)(G:World)(p:PE)(q:List HP):List ResultVar->List Value->Prop
 | [], []=>True
 | .tmp t::r,v::vs=>lkp p t=some v/\ResOk P G p q r vs
 | .cell a t::r,v::vs=>(∃ A,lkp p a=some (.pointer (some A))/\LV P G q t A v)/\ResOk P G p q r vs
 |_,_=>False
def Ek (tm:Array Value):ResultVar->Sem Value
 | .tmp t=>Pure.pure (tm.getD t undef)
 | .cell a t=>do loadVar t (<-asAddr (tm.getD a undef))
theorem Gc (fd:Func)(tm:Array Value):results fd tm=(do let vs<-fd.results.mapM (Ek tm);Pure.pure (if h:vs.size=1 then vs[0] else .tuple vs)):=rfl
theorem ResOk.run {P:Program}{G:World}{p:PE}{q:List HP}{tm:Array Value}{w:World}(ag:Agr tm p)(s:St G w q): ∀ {rs:List ResultVar} {vs:List Value},ResOk P G p q rs vs->
 (rs.mapM (Ek tm)).run P w= .ok vs w:=by
 intro rs
 induction rs with
 |nil=>intro vs h;cases vs with
  |nil=>simp
  |cons=>exact h.elim
 |cons x r ih=>
  intro vs h
  cases vs with
  |nil=>cases x<;>exact h.elim
  |cons v vs=>
   cases x with
   |tmp t=>
    obtain ⟨c,b⟩:=h;have e:(Ek tm (.tmp t)).run P w= .ok v w:=by rw [Ek,ag _ _ c];rfl
    simp only [List.mapM_cons,Sem.run_bind,e,Result.andThen_ok,ih b,Sem.run_pure]
   |cell a t=>
    obtain ⟨⟨A,c,d⟩,b⟩:=h
    have e:(Ek tm (.cell a t)).run P w= .ok v w:=by
     rw [Ek,ag _ _ c];simp [asAddr,d w s]
    simp only [List.mapM_cons,Sem.run_bind,e,Result.andThen_ok,ih b,Sem.run_pure]
theorem Zks {P:Program}{G:World}{p:PE}{q:List HP}{fd:Func}{r:ResultVar}{v:Value}(h:fd.results= [r].toArray)(hk:ResOk P G p q [r] [v])(tm:Array Value)(w:World)(ag:Agr tm p)(s:St G w q):(results fd tm).run P w= .ok v w:=by
 have:=hk.run ag s;rw [Gc,h,List.mapM_toArray];simp only [Sem.run_bind,Sem.run_map,this,Result.andThen_ok,Sem.run_pure];rfl
theorem Bl {P:Program}{G:World}{p:PE}{q:List HP}{fd:Func}{r r':ResultVar}{rs:List ResultVar}{vs:List Value}(h:fd.results=(r::r'::rs).toArray)(hk:ResOk P G p q (r::r'::rs) vs)(tm:Array Value)(w:World)(ag:Agr tm p)(s:St G w q):(results fd tm).run P w= .ok (.tuple vs.toArray) w:=by
 have:=hk.run ag s
 have a:vs.length≠1:=by
  intro e
  match vs,e with
  | [v],_=>cases r<;>cases r'<;>simp [ResOk] at hk
 rw [Gc,h,List.mapM_toArray];simp only [Sem.run_bind,Sem.run_map,this,Result.andThen_ok,Sem.run_pure];rw [dif_neg (by simpa using a)]
end
section
variable {P:Program}{w G:World}{l n:Nat}{r rec:Loop}{o o':Obj}{q pre F:List HP}{k:List Item}{p:PE}{ds:List Deferred}{cs:List Frame}{fr:Frame}{R:Ub}{asc bd:Code}
def lp (rec:Loop)(l:Nat)(st:LoopState)(pend:Option Code):HP:=pto l (.loop { rec with state:=st,pending:=pend })
def markD (r:Nat):Deferred:= { target:= .collected r,args:= #[] }
theorem Hn (h:w.heap[l]? =some (.loop r)):(Instr.getLoop l).run P w= .ok r w:=by
 simp [Instr.getLoop,getObj,Sem.run,h]
theorem Nz (h:w.heap[l]? =some o)(hc: ∀ c e z,o≠ .cells c e z):(setObj l o').run P w= .ok () { w with heap:=w.heap.setIfInBounds l o' } :=by
 cases o<;>first|(exact aV rfl (hc _ _ _))|simp [setObj,Sem.run,h]
theorem St.setObj {b:Nat}(s:St G w (pto b o::q)):St G { w with heap:=w.heap.setIfInBounds b o' } (pto b o'::q):=by
 have d:=s.has (dU _ _ _);have a:b<w.heap.size:=(jK.1 d).1;refine s.put ?_ ?_ (by simp) rfl rfl rfl
 . simp [a]
 intro k c;exact iI (fun e=>c e.symm)
section
variable {f:Fc}{Q:Yw}
def YQ (cs₀:List Frame)(rec:Loop)(l:Nat)(R:Ub)(F:List HP):Yw:=fun o p ds cs q=>cs=cs₀/\ds= []/\match o with
 | .fall=> ∃ q',R (.returned (.bool true)) (lp rec l .ready none::q')/\Le q (lp rec l .busy none::(q'++F))
 | .jump c=> ∃ q',R (.returned (.bool false)) (lp rec l .done (some c)::q')/\Le q (lp rec l .busy none::(q'++F))
 | .panic ch=> ∃ q',R (.panicked ch) q'/\Le q (q'++F)
def Gq:List Tmp->List Value->PE->PE
 |t::ts,v::vs,p=>Gq ts vs ((t,v)::p)
 |_,_,p=>p
theorem agr_zipP : ∀ (ts:List Tmp) (vs:List Value) (tm:Array Value) (p:PE),tm.size=n->Agr tm p->ts.all (Nat.blt · n)=true->vs.length=ts.length->
 Agr ((ts.zip vs).foldl (fun tm (t,a)=>tm.setIfInBounds t a) tm) (Gq ts vs p)/\((ts.zip vs).foldl (fun tm (t,a)=>tm.setIfInBounds t a) tm).size=n:=by
 intro ts
 induction ts with
 |nil=>intro vs tm p b f _ c;cases vs<;>simp_all [Gq]
 |cons t r ih=>
  intro vs tm p b f e c
  cases vs with
  |nil=>simp at c
  |cons v vs=>
   simp only [iK,aR] at e;simp only [gS,kV,Gq];exact ih vs _ _ (by simp [b]) (Agr.put (d:=some t) f (by rw [b];exact e.1)) e.2 (by simpa using c)
theorem Fp (hm:fr.mode= .run)(ht:fr.todo= .beginRound::k)(hr:fr.roundOf=some l)(h:w.heap[l]? =some (.loop r))(hs:r.state= .ready):
 step P (lone fr cs w)= .next (lone { fr with todo:=k } cs { w with heap:=w.heap.setIfInBounds l (.loop { r with state:= .busy }) }):=by
 have a:(Instr.beginRound l).run P w= .ok () { w with heap:=w.heap.setIfInBounds l (.loop { r with state:= .busy }) } :=by
  simp only [Instr.beginRound,Sem.run_bind,Hn h,Result.andThen_ok];rw [Nz h (by intro c e z;simp)];simp [hs]
 refine step_lone_go ?_;simp [stepG,stepG.exec,hm,ht,hr,stepG.apply,a,Frame.finish]
theorem X.beginRound {pend:Option Code}{cq:List HP}(hr:f.round=some l)(hq:Le q (lp rec l .ready pend::cq))(x:X P G f Q k p ds cs (lp rec l .busy pend::cq)):X P G f Q (.beginRound::k) p ds cs q:=by
 intro tm w n a s;have g:=s.le hq;have m:=g.has (dU _ _ _);have h:St G { w with heap:=w.heap.setIfInBounds l (.loop { rec with state:= .busy,pending:=pend }) } (lp rec l .busy pend::cq):=St.setObj (o:= .loop { rec with state:= .ready,pending:=pend }) g;obtain ⟨o,b,p',c,d,w',q',t,j,r,i,e⟩:=x tm _ n a h;refine ⟨o,b,p',c,d,w',q',t,j,r,i,e.head (.one ?_)⟩;exact Fp (P:=P) (cs:=cs) (fr:=f.fr tm ds (.beginRound::k)) rfl rfl hr m rfl
abbrev fM:=@X.beginRound
theorem Bi (h:w.heap[l]? =some (.loop r))(j:Option Code):
 (Instr.endRound l j).run P w= .ok (.bool j.isNone) { w with heap:=w.heap.setIfInBounds l (.loop { r with state:=if j.isNone then .ready else .done,pending:=j }) } :=by
 simp only [Instr.endRound,Sem.run_bind,Hn h,Result.andThen_ok];rw [Nz h (by intro c e z;simp)];rfl
theorem Tz {c:Frame}{w':World}{v:Value}{j:Option Code}(hm:fr.mode= .run)(hr:fr.roundOf=some l)(hk:fr.kind= .normal)
 (hj:(fr.todo= []/\j=none)\/(∃ c k,fr.todo= .code c::k/\Gone c k/\j=some c)) (h:(Instr.endRound l j).run P w= .ok v w'):
 step P (lone fr (c::cs) w)= .next (lone (c.finish v) cs w'):=by
 refine step_lone_go ?_;rcases hj with ⟨a,rfl⟩|⟨c',k,a,d,rfl⟩
 . simp [stepG,stepG.exec,hm,a,hr,Sem.runT_eq,h,GStep.bare_after,doReturn,hk]
 rcases d with rfl|⟨id,rfl,b⟩|⟨g,rfl,b⟩
 . simp [stepG,stepG.exec,hm,a,hr,Sem.runT_eq,h,GStep.bare_after,doReturn,hk]
 . simp [stepG,stepG.exec,hm,a,hr,b,Sem.runT_eq,h,GStep.bare_after,doReturn,hk]
 simp [stepG,stepG.exec,hm,a,hr,b,Sem.runT_eq,h,GStep.bare_after,doReturn,hk]
structure LoopIs (rec:Loop) (fn:FuncId) (n:Nat) (ts:List Tmp) (asc bd:Code) (p:PE):Prop where
 fn:rec.fn=fn
 n:rec.tmps.size=n
 ts:rec.params=ts.toArray
 asc:rec.assign=asc
 bd:rec.body=bd
 pd:rec.pending=none
 ag:Agr rec.tmps p
theorem CallV.yield {fn:Nat}{us:List Value}{ts:List Tmp}(hr:LoopIs rec fn n ts asc bd p)(hb:ts.all (Nat.blt · n)=true)(hl:Nat.beq us.length ts.length=true)
 (hf:(P.funcs[fn]?).isSome=true)
 (h: ∀ F cs,X P G ⟨fn,n,.normal,some l⟩ (YQ cs rec l R F) [.code asc,.beginRound,.code bd] (Gq ts us p) [] cs (lp rec l .ready none::(pre++F))):
 CallV P G (.func (.yield l) #[] #[]) us (lp rec l .ready none::pre) R:=by
 obtain ⟨rfl,hn,q,rfl,rfl,a0,ag⟩:=hr;intro F w s fr cs hm ho;have y:=s.has (dU _ _ _);have j:us.length=ts.length:=cX hl;obtain ⟨ha,r⟩:=agr_zipP ts us rec.tmps p hn ag hb j;obtain ⟨o,g,p',d0,e0,w',q',⟨rfl,rfl,z⟩,b0,c0,u,b⟩:=h F (fr::cs) _ w r ha s
 have hy:(do let d<-Deferred.ofValue (.func (.yield l) #[] #[]) us.toArray;invoke d.target d.args:Sem Next).run P w=
  .ok (.round l rec.fn ((ts.zip us).foldl (fun tm (t,a)=>tm.setIfInBounds t a) rec.tmps) rec.assign rec.body) w:=by
  simp [Deferred.ofValue,invoke,Instr.yield,Hn y,q,j,List.zip_toArray]
 have v:Frame.round l rec.fn ((ts.zip us).foldl (fun tm (t,a)=>tm.setIfInBounds t a) rec.tmps) rec.assign rec.body .normal=
  Fc.fr ⟨rec.fn,n,.normal,some l⟩ ((ts.zip us).foldl (fun tm (t,a)=>tm.setIfInBounds t a) rec.tmps) [] [.code rec.assign,.beginRound,.code rec.body]:=rfl
 have f:(stepG.apply P true fr cs none (do let d<-Deferred.ofValue (.func (.yield l) #[] #[]) us.toArray;invoke d.target d.args:Sem Next) w).bare=
  .go { frame:=Frame.round l rec.fn ((ts.zip us).foldl (fun tm (t,a)=>tm.setIfInBounds t a) rec.tmps) rec.assign rec.body .normal,callers:=fr::cs,status:= .running,dying:=none } w:=by
  simp only [stepG.apply,Sem.runT_eq,hy,GStep.bare_after,GStep.bare_go,if_true]
 rw [<-v] at b
 cases o with
 |fall=>
  obtain ⟨q1,k,e⟩:=z;have i:=u.le e;have h1:=i.has (dU _ _ _);refine ⟨.returned (.bool true), { w' with heap:=w'.heap.setIfInBounds l (.loop { rec with state:= .ready,pending:=none }) },⟨_,k,?_⟩,by simp,_,_,_,f,b.trans (.one ?_)⟩
  . exact St.setObj i
  exact Tz (fr:=Fc.fr ⟨rec.fn,n,.normal,some l⟩ g [] []) rfl rfl rfl (.inl ⟨rfl,rfl⟩) (Bi h1 none)
 |jump c=>
  obtain ⟨q1,k,e⟩:=z;obtain ⟨m,hg,b⟩:=b;have i:=u.le e;have h1:=i.has (dU _ _ _);refine ⟨.returned (.bool false), { w' with heap:=w'.heap.setIfInBounds l (.loop { rec with state:= .done,pending:=some c }) },⟨_,k,?_⟩,by simp,_,_,_,f,b.trans (.one ?_)⟩
  . exact St.setObj i
  exact Tz (fr:=Fc.fr ⟨rec.fn,n,.normal,some l⟩ g [] (.code c::m)) rfl rfl rfl (.inr ⟨c,m,rfl,hg,rfl⟩) (Bi h1 (some c))
 |panic ch=>
  obtain ⟨q1,k,e⟩:=z;obtain ⟨m,b⟩:=b;refine ⟨.panicked ch,w',⟨_,k,u.le e⟩,by simp,_,_,_,f,b.trans (.one ?_)⟩;obtain ⟨fd,x⟩:=Option.isSome_iff_exists.1 hf;exact step_lone_go (by simp [stepG,unwind,Frame.catches,Fc.fr,x,Zzv])
theorem Po (fn:FuncId)(tm:Array Value)(ps:Array Tmp)(asc bd:Code):
 (Instr.enterLoop fn tm ps asc bd none).run P w= .ok (w.heap.size+1, [markD w.heap.size])
  ((w.alloc (.deferred (some []))).alloc (.loop { state:= .ready,pending:=none,fn:=fn,tmps:=tm,params:=ps,assign:=asc,body:=bd,defers:=w.heap.size })):=by
 simp [Instr.enterLoop,newObj,Sem.run,markD]
theorem O7 (h:w.heap[l]? =some (.loop r))(hs:r.state≠ .busy):(Instr.endLoop l).run P w= .ok r.pending { w with heap:=w.heap.setIfInBounds l (.loop { r with state:= .exhausted }) } :=by
 have a:(r.state==LoopState.busy)=false:=by simpa using hs
 simp only [Instr.endLoop,Sem.run_bind,Hn h,Result.andThen_ok,a];simp only [iN,if_false,Sem.run_bind];rw [Nz h (by intro c e z;simp)];simp
theorem X.rangeFunc {g:Operand}{ps:List Tmp}{gv:Value}{R':Option Code->List HP->Prop}(hro:f.round=none)(hg:evp p g=some gv)(hq:Le q (pre++F))
 (call: ∀ l rec,LoopIs rec f.fn f.n ps asc bd p->CallV P G gv [.func (.yield l) #[] #[]] (lp rec l .ready none::pre)
  (Ret fun _ q'=> ∃ st pend q1,st≠ .busy/\q'=lp rec l st pend::q1/\R' pend q1))
 (cont: ∀ r pend q1,R' pend q1->X P G f Q (pend.toList.map Item.code++k) p (markD r::ds) cs (pto r (.deferred (some []))::(q1++F))):
 X P G f Q (.code (.rangeFunc g ps.toArray asc bd)::k) p ds cs q:=by
 intro tm w n ag s;have he:=Po (P:=P) (w:=w) f.fn tm ps.toArray asc bd;have s0:=s.le hq;have s1:St G (w.alloc (.deferred (some []))) (pto w.heap.size (.deferred (some []))::(pre++F)):=s0.new rfl rfl rfl rfl;have z:=s1.new (w':=(w.alloc (.deferred (some []))).alloc (.loop { state:= .ready,pending:=none,fn:=f.fn,tmps:=tm,params:=ps.toArray,assign:=asc,body:=bd,defers:=w.heap.size })) (o:= .loop { state:= .ready,pending:=none,fn:=f.fn,tmps:=tm,params:=ps.toArray,assign:=asc,body:=bd,defers:=w.heap.size }) rfl rfl rfl rfl;have a0:(w.alloc (.deferred (some []))).heap.size=w.heap.size+1:=by simp
 rw [a0] at z
 have s3:=z.le (ds:=lp { state:= .ready,pending:=none,fn:=f.fn,tmps:=tm,params:=ps.toArray,assign:=asc,body:=bd,defers:=w.heap.size } (w.heap.size+1) .ready none::(pre++(pto w.heap.size (.deferred (some []))::F))) (cG _ (by
  clear z s1 s0 hq call cont
  induction pre with
  |nil=>exact .refl _
  |cons A r ih=>exact (iS _ _ _).trans (ih.cons A)))
 obtain ⟨e,h,⟨q3,⟨v,rfl,st,pend,q1,b0,rfl,hR⟩,y⟩,_,i,j,m,e0,a⟩:=call (w.heap.size+1) { state:= .ready,pending:=none,fn:=f.fn,tmps:=tm,params:=ps.toArray,assign:=asc,body:=bd,defers:=w.heap.size } ⟨rfl,n,rfl,rfl,rfl,rfl,ag⟩ (pto w.heap.size (.deferred (some []))::F) _ s3
  (f.fr tm (markD w.heap.size::ds) (.inRangeFunc (w.heap.size+1)::k)) cs rfl trivial
 have c0:(f.fr tm (markD w.heap.size::ds) (.inRangeFunc (w.heap.size+1)::k)).eval g=gv:=(Kc ..).trans (Zp ag hg)
 have t:(do let d<-resolve (f.fr tm (markD w.heap.size::ds) (.inRangeFunc (w.heap.size+1)::k)).eval { callee:= .value g,args:= #[.const (.func (.yield (w.heap.size+1)) #[] #[])],argTypes:= #[] } 0;invoke d.target d.args:Sem Next)=
  (do let d<-Deferred.ofValue gv [.func (.yield (w.heap.size+1)) #[] #[]].toArray;invoke d.target d.args):=by
  have d0: ∀ v,(f.fr tm (markD w.heap.size::ds) (.inRangeFunc (w.heap.size+1)::k)).eval (.const v)=v:=fun _=>rfl
  simp [resolve,c0,d0]
 have h1:Go.step P (lone (f.fr tm ds (.code (.rangeFunc g ps.toArray asc bd)::k)) cs w)= .next (lone i j m):=by
  refine step_lone_go ?_;have b:(f.fr tm ds (.code (.rangeFunc g ps.toArray asc bd)::k)).roundOf=none:=hro;rw [<-e0,<-t];simp only [Fc.fr] at b|-;simp [stepG,stepG.exec,b,Sem.runT_eq,he,GStep.bare_after]
 have u:Zzv (f.fr tm (markD w.heap.size::ds) (.inRangeFunc (w.heap.size+1)::k)) cs (.returned v) h=lone (f.fr tm (markD w.heap.size::ds) (.endRangeFunc (w.heap.size+1)::k)) cs h:=rfl;rw [u] at a;have hb:=y.has (dU _ _ _);have c:=O7 (P:=P) hb b0
 have s5:St G { h with heap:=h.heap.setIfInBounds (w.heap.size+1) (.loop { state:= .exhausted,pending:=pend,fn:=f.fn,tmps:=tm,params:=ps.toArray,assign:=asc,body:=bd,defers:=w.heap.size }) } (q1++(pto w.heap.size (.deferred (some []))::F)):=
  (St.setObj (o':= .loop { state:= .exhausted,pending:=pend,fn:=f.fn,tmps:=tm,params:=ps.toArray,assign:=asc,body:=bd,defers:=w.heap.size }) y).le (.drop _ _)
 have h2:Go.step P (lone (f.fr tm (markD w.heap.size::ds) (.endRangeFunc (w.heap.size+1)::k)) cs h)=
  .next (lone (f.fr tm (markD w.heap.size::ds) (pend.toList.map Item.code++k)) cs { h with heap:=h.heap.setIfInBounds (w.heap.size+1) (.loop { state:= .exhausted,pending:=pend,fn:=f.fn,tmps:=tm,params:=ps.toArray,assign:=asc,body:=bd,defers:=w.heap.size }) }):=by
  refine step_lone_go ?_;simp only [stepG,stepG.exec,Fc.fr,Sem.runT_eq,c,GStep.bare_after]
  cases pend<;>rfl
 have s6:=s5.le (ds:=pto w.heap.size (.deferred (some []))::(q1++F)) (by
  clear s5 h2 c hb a hR y
  induction q1 with
  |nil=>exact .refl _
  |cons A r ih=>exact (ih.cons A).trans (iS _ _ _))
 obtain ⟨o,x,p',f0,g0,w',q',hQ,hn,ha,hs,h0⟩:=cont w.heap.size pend q1 hR tm _ n ag s6;exact ⟨o,x,p',f0,g0,w',q',hQ,hn,ha,hs,h0.head ((Steps.one h1).trans (a.trans (.one h2)))⟩
end
theorem Zv9 {fn:FuncId}{u:FrameMode}{q':List HP}{r:Nat}(hu:u≠ .run)(hq:Le q (pto r (.deferred (some []))::q'))
 (h:Lv P G fn R F ds u p q'):Lv P G fn R F (markD r::ds) u p q:=by
 intro tm w fr cs h1 h2 h3 o y ag s;have v:=s.le hq;have x:=v.has (dU _ _ _)
 have a:(Instr.takeDeferred r).run P w= .ok [] { w with heap:=w.heap.setIfInBounds r (.deferred none) } :=by
  have hg:(getObj r).run P w= .ok (.deferred (some [])) w:=by simp [getObj,Sem.run,x]
  simp only [Instr.takeDeferred,Sem.run_bind,hg,Result.andThen_ok];rw [Nz x (by intro c e z;simp)];simp
 have s2:St G { w with heap:=w.heap.setIfInBounds r (.deferred none) } q':=(St.setObj (o':= .deferred none) v).le (.drop _ _)
 have d:Go.step P (lone fr cs w)= .next (lone { fr with defers:=ds } cs { w with heap:=w.heap.setIfInBounds r (.deferred none) }):=by
  refine step_lone_go ?_;obtain ⟨a0,i,g,f,b,k,ro⟩:=fr;simp only at h1 h2 h3 o y;subst h3 o
  cases b with
  |run=>exact aV rfl hu
  |returning=>simp [stepG,unwind,markD,Sem.runT_eq,a,GStep.bare_after]
  |panicking ch=>simp [stepG,unwind,markD,Sem.runT_eq,a,GStep.bare_after]
 obtain ⟨e,w',t,j,hR,m,hs,l,n,hl⟩:=h tm _ { fr with defers:=ds } cs h1 h2 rfl o y ag s2;exact ⟨e,w',t,j,hR,m,hs,(Steps.one d).trans l,n,hl⟩
end
section
variable {P:Program}{G:World}{n bytes:Nat}{j:Int}{d:Option Tmp}{pos:String}{af:Array Edge}{gd:Option (Nat×Bool)}{x y:Operand}{z:Value}
variable {α:Type}
def lsH (f:α->Value)(ty:TypeId)(a:Option Addr)(c:Nat)(l:List α):HP:=slH a c ty 1 l.length (l.map f)
section
variable {fr:Fc}{Q:Yw}{k:List Item}{p:PE}{ds:List Deferred}{cs:List Frame}{q r:List HP}{ops lo:List Oper}{f:α->Value}{ty:TypeId}{a b:Option Addr}{c c':Nat}{l m:List α}
theorem Sees.lsH (q:List HP):Sees (lsH f ty a c l::q) a (l.map f):=Sees.slH q
abbrev bY:=@Sees.lsH
theorem Z1 (f:α->Value)(ty:TypeId)(q:List HP):Le q (Wx.lsH f ty none 0 []::q):=Hq ty 1 q
theorem Sees.at {bk o:Nat}(h:Sees q (some ⟨bk,o,none⟩) (l.map f))(hj:j=n)(hn:n<l.length):Cl q ⟨bk,o+j.toNat*1,none⟩ (f l[n]):=by
 subst hj;rw [cT,iR];exact h.cl (by simp [hn])
theorem Ef.appL {ty':TypeId}{t:TypeId}{i:Nat}(ht:P.underlying t=some (.slice ty))(hi:(P.info? ty).map (fun i=>(i.zero,i.size,i.bytes))=some (some z,1,bytes))(hz:z.cells.size=1)
 (hx:evp p x=some (.slice a i c)) (hy:evp p y=some (.slice b m.length c')) (hq:Le q (Wx.lsH f ty a c l::r)) (hin:i<=l.length) (hs:Sees q b (m.map f)) (h1: ∀ u,(f u).oneCell'=true)
 (h63:i+m.length<=9223372036854775807) (hby:(i+m.length)*bytes<=140737488355328):
 Ef P G p q ⟨d,.call ⟨.builtin .append, [x,y].toArray, [t,t].toArray⟩,ty',pos,af,gd⟩ fun v q'=> ∃ a' c',v= .slice a' (l.take i++m).length c'/\q'=Wx.lsH f ty a' c' (l.take i++m)::r:=by
 have h:=Ef.append (P:=P) (G:=G) (d:=d) (ty:=ty') (pos:=pos) (af:=af) (gd:=gd) ht hi hz rfl hx hy hq hin hs (by simp) (by intro u g;obtain ⟨w,_,rfl⟩:=bS.1 g;exact h1 w) h63 hby;intro tm w k s;obtain ⟨v,w',q',h1,j,a',c',rfl,rfl⟩:=h tm w k s;have e:(l.take i++m).length=i+m.length:=by simp;omega
 refine ⟨_,w',_,h1,?_,a',c',by rw [e],rfl⟩;unfold Wx.lsH;rw [e,aO,List.map_take];simpa using j
theorem Yb {ty':TypeId}{t:TypeId}(ht:P.underlying t=some (.slice ty))(hi:(P.info? ty).map (fun i=>(i.zero,i.size,i.bytes))=some (some z,1,bytes))(hz:z.cells.size=1)
 (hx:evp p x=some (.slice a l.length c)) (hy:evp p y=some (.slice b m.length c')) (hq:Le q (Wx.lsH f ty a c l::r)) (hs:Sees q b (m.map f)) (h1: ∀ u,(f u).oneCell'=true)
 (h63:l.length+m.length<=9223372036854775807) (hby:(l.length+m.length)*bytes<=140737488355328):
 Ef P G p q ⟨d,.call ⟨.builtin .append, [x,y].toArray, [t,t].toArray⟩,ty',pos,af,gd⟩ fun v q'=> ∃ a' c',v= .slice a' (l++m).length c'/\q'=Wx.lsH f ty a' c' (l++m)::r:=by
 have h:=Ef.appL (P:=P) (G:=G) (d:=d) (ty':=ty') (pos:=pos) (af:=af) (gd:=gd) ht hi hz hx hy hq (aU _) hs h1 h63 hby;simpa using h
theorem Uk {ty':TypeId}{t:TypeId}{u:α}(f:α->Value)(ht:P.underlying t=some (.slice ty))(hi:(P.info? ty).map (fun i=>(i.zero,i.size,i.bytes))=some (some z,1,bytes))
 (hx:evp p x=some (f u)) (h1:(f u).cells= #[f u]):
 Ef P G p q ⟨d,.buildSlice t 1 [(0,x)].toArray,ty',pos,af,gd⟩ fun v q'=> ∃ g,v= .slice (some ⟨g,0,none⟩) 1 1/\q'=Wx.lsH f ty (some ⟨g,0,none⟩) 1 [u]::q:=by
 have a:Instr.fill (fun i=>some (i*1,1)) ((Array.range (1*1)).map (z.cells[· % z.cells.size]!)) (([(0,x)].map (·.1)).zip [f u])=some [f u].toArray:=by
  simp [Instr.fill,h1,Array.range];rfl
 exact kL ht hi (us:= [f u]) (by simp [evl,hx]) rfl rfl a rfl
theorem Ry {ty':TypeId}{t:TypeId}(f:α->Value)(ht:P.underlying t=some (.slice ty))(hi:(P.info? ty).map (fun i=>(i.zero,i.size,i.bytes))=some (some z,1,bytes)):
 Ef P G p q ⟨d,.buildSlice t 0 #[],ty',pos,af,gd⟩ fun v q'=> ∃ g,v= .slice (some ⟨g,0,none⟩) 0 0/\q'=Wx.lsH f ty (some ⟨g,0,none⟩) 0 []::q:=
 T2 ht hi
theorem St.lsAddr {w:World}(s:St G w (Wx.lsH f ty a c l::q))(h:0<l.length): ∃ g,a=some ⟨g,0,none⟩:=by
 obtain ⟨j,d|⟨g,e,b,_⟩⟩:=s.slH_elim
 . obtain ⟨_,_,i,_⟩:=d;omega
 exact ⟨g,b⟩
theorem D7 {ty':TypeId}{t:TypeId}{u:α}{g:Nat}(hx:evp p x=some (.pointer (some ⟨g,0+j.toNat*1,none⟩)))(hy:evp p y=some (f u))(hsz: ∀ w,(Go.sizeOf t).run P w= .ok 1 w)
 (hj:j=n) (hn:n<l.length) (hv:(f u).cells= #[f u]) (h1:(f u).oneCell'=true) (hq:Le q (Wx.lsH f ty (some ⟨g,0,none⟩) c l::r)):
 Ef P G p q ⟨d,.store t x y,ty',pos,af,gd⟩ fun z q'=>z=undef/\q'=Wx.lsH f ty (some ⟨g,0,none⟩) c (l.set n u)::r:=by
 subst hj;rw [cT,iR,dO] at hx;intro tm w ag s;obtain ⟨h0,h2|⟨g',a,m,k,i,b,h,e⟩⟩:=(s.le hq).slH_elim
 . obtain ⟨_,_,h3,_⟩:=h2;omega
 cases m
 have hc:n<a.size:=by rw [b];omega
 obtain ⟨z,w',q',v,o,rfl,rfl⟩:=Ef.store (G:=G) (d:=d) (ty:=ty') (pos:=pos) (af:=af) (gd:=gd) (q:=pto g (.cells a.toList.toArray ty (0,0))::r) hx hy hsz hv h1 (Le.here _ _) (by simpa [fI] using hc) tm w ag (by simpa using e);refine ⟨_,w',_,v,?_,rfl,rfl⟩;have hl:(l.set n u).length=l.length:=by simp
 unfold Wx.lsH;rw [hl];refine o.le (Yn k i (by simp [Bc,b]) ?_ r);rw [Bc,List.map_set,<-h];simp [List.take_set]
end
theorem Le.append_right {a b:List HP}(h:Le a b)(F:List HP):Le (a++F) (b++F):=
 ((Zm a F).trans (.one fun M x p=>h M x p)).trans (Zy b F)
section
variable {pre pre':List HP}{vs:List Value}{R R':Ub}
theorem CallV.conv {fv:Value}(hp:Le pre pre')(h:CallV P G fv vs pre' R)(hr: ∀ e q,R e q-> ∃ q',R' e q'/\Le q q'):CallV P G fv vs pre R':=by
 intro F w s fr cs d c;obtain ⟨e,w',⟨q,g,b⟩,rest⟩:=h F w (s.le (hp.append_right F)) fr cs d c;obtain ⟨q',a,f⟩:=hr e q g;exact ⟨e,w',⟨q',a,b.le (f.append_right F)⟩,rest⟩
abbrev hY:=@CallV.conv
theorem CallF.conv {fn:FuncId}(hp:Le pre pre')(h:CallF P G fn vs pre' R)(hr: ∀ e q,R e q-> ∃ q',R' e q'/\Le q q'):CallF P G fn vs pre R':=by
 intro F w s cs;obtain ⟨e,w',fr,⟨a,q,f,c⟩,rest⟩:=h F w (s.le (hp.append_right F)) cs;obtain ⟨q',b,d⟩:=hr e q f;exact ⟨e,w',fr,⟨a,q',b,c.le (d.append_right F)⟩,rest⟩
abbrev gF:=@CallF.conv
end
end
section
variable {P:Program}{G:World}{p:PE}{q:List HP}{d:Option Tmp}{pos:String}{af:Array Edge}{gd:Option (Nat×Bool)}{x:Operand}{kd ky:IntKind}{m n:Int}{k:Nat}{xs ys:List Value}{b:Bool}{v:Value}
section
variable {ty:TypeId}{y:Operand}
theorem Pu.shr {t t':TypeId}(hx:evp p x=some (.int kd m))(hy:evp p y=some (.int ky n))(h0:0<=n):Pu P p ⟨d,.binOp .shr t x y t',ty,pos,af,gd⟩ (.int kd (m.fdiv (2 ^ min n.toNat kd.bits))):=
 fun tm w a=>by
  have b: ¬n<0:=by omega
  simp [execOp,Zp a hx,Zp a hy,eqGuard,Go.binOp,Op.shift,b]
theorem Pu.max2 {ats:Array TypeId}(hx:evp p x=some (.int kd m))(hy:evp p y=some (.int ky n)):
 Pu P p ⟨d,.call ⟨.builtin .max, [x,y].toArray,ats⟩,ty,pos,af,gd⟩ (.int kd (max m n)):=fun tm w a=>by
 rw [Un (us:= [.int kd m,.int ky n]) a (by simp [evl,hx,hy])];simp [builtin,Builtin.max_,Builtin.max2];split<;>omega
theorem Pu.min2 {ats:Array TypeId}(hx:evp p x=some (.int kd m))(hy:evp p y=some (.int ky n)):
 Pu P p ⟨d,.call ⟨.builtin .min, [x,y].toArray,ats⟩,ty,pos,af,gd⟩ (.int kd (min m n)):=fun tm w a=>by
 rw [Un (us:= [.int kd m,.int ky n]) a (by simp [evl,hx,hy])];simp [builtin,Builtin.min_,Builtin.min2];split<;>omega
def EqV (P:Program)(k:Nat)(t:TypeId)(x y:Value)(b:Bool):Prop:= ∀ w,(Op.equalIn k t x y).run P w= .ok b w
theorem EqV.int {t:TypeId}{kd':IntKind}(h:P.underlying t=some (.int kd'))(a b:Int):EqV P (k+1) t (.int kd a) (.int kd b) (a==b):=fun w=>run_equalIn_int w k t kd kd' a b h
abbrev gJ:=@EqV.int
def EqFs (P:Program)(k:Nat)(xs ys:List Value):List (TypeId×Nat)->Bool->Prop
 | [],b=>b=true
 |(t,o)::r,b=> ∃ x y b1 b2,nth xs o=some x/\nth ys o=some y/\(∀ w,(isAgg t).run P w= .ok false w)/\EqV P k t x y b1/\EqFs P k xs ys r b2/\b=(b1 && b2)
theorem EqFs.run {w:World}: ∀ {fs : List Field} {b : Bool}, fs.all (fun f => f.name != "_") = true → EqFs P k xs ys (fs.map fun f => (f.type, f.offset)) b → (Op.eqFields k xs.toArray ys.toArray fs).run P w = .ok b w
 | [],b,_,h=>by cases h;rfl
 |f::fs,b,hn,h=>by
  obtain ⟨x,y,i,j,hx,hy,g,e,d,rfl⟩:=h;simp only [iK,aR,iA,ne_eq] at hn;rw [Ur] at hx hy;have c:=EqFs.run (w:=w) hn.2 d;have a:=e w;simp only [Op.eqFields,ne_eq,hn.1,not_false_eq_true,if_true,Sem.run_bind,part,g w,Result.andThen_ok,Sem.run_ite,iN,if_false,gV,hx,hy,Sem.run_pure,a]
  cases i
  . simp
  simp [c]
theorem EqV.struct {t : TypeId}{fs : List Field}(hu : P.underlying t = some (.struct fs.toArray))(hp : P.stoodInHeld t = false)(hn : fs.all (fun f => f.name != "_") = true)(h : EqFs P k xs ys (fs.map fun f => (f.type, f.offset)) b):
 EqV P (k+1) t (.agg xs.toArray) (.agg ys.toArray) b:=fun w=>by
 have a:P.fieldsOf t=fs.toArray:=by simp [Program.fieldsOf,hu]
 rw [run_equalIn_struct w k t _ _ (by rw [a];exact hu) hp,a];exact h.run hn
theorem F7 {t t':TypeId}{xs ys:Array Value}(hx:evp p x=some (.agg xs))(hy:evp p y=some (.agg ys))(hg:P.eqGuardType P.depth t=false)(h:EqV P Op.maxDepth t (.agg xs) (.agg ys) b):
 Pu P p ⟨d,.binOp .eql t x y t',ty,pos,af,gd⟩ (.bool b):=fun tm w a=>by
 have c:(Op.equal t (.agg xs) (.agg ys)).run P w= .ok b w:=h w;simp [execOp,Zp a hx,Zp a hy,eqGuard,hg,Go.binOp,c]
end
def rdA (i b o:Nat):List Value->Rds
 | []=> []
 |v::r=>(i,b,o,v)::rdA i b (o+1) r
theorem Sl (i b:Nat): ∀ (l:List Value) (o:Nat),(rdA i b o l).all (fun e=>Nat.beq e.1 i)=true
 | [],_=>rfl
 |v::r,o=>by simp [rdA,Sl i b r]
theorem Si {i b:Nat}: ∀ {l:List Value} {o j:Nat} {v:Value},l[j]? =some v->(i,b,o+j,v)∈rdA i b o l
 | [],_,_,_,h=>by simp at h
 |u::r,o,0,v,h=>by simp at h;subst h;simp [rdA]
 |u::r,o,j+1,v,h=>by
  simp only [List.getElem?_cons_succ] at h;have:=Si (i:=i) (b:=b) (o:=o+1) h;rw [fA,kW 1 j] at this;exact bX _ this
theorem HL.rdA {i b:Nat}: ∀ {l:List Value} {o:Nat},(∀ j v,l[j]? =some v->Cl q ⟨b,o+j,none⟩ v)->HL q (Wx.rdA i b o l)
 | [],_,_=>trivial
 |v::r,o,h=>⟨h 0 v rfl,HL.rdA (o:=o+1) fun j u a=>by rw [fA,kW 1 j];exact h (j+1) u (by simpa using a)⟩
section
variable {f:Fc}{Q:Yw}{k:List Item}{pk:PE}{L:Rds}{m n:Nat}{done:List Nat}{ds:List Deferred}{cs:List Frame}{ops:List Oper}{ty:TypeId}
theorem XD.loadA (i:Nat){t:TypeId}{d:Tmp}{b o sz:Nat}{l:List Value}{t':TypeId}{fz:Nat×Nat}(ho:ops[i]? =some ⟨some d,.load t x,ty,pos,af,gd⟩)
 (hx:evp p x=some (.pointer (some ⟨b,o,none⟩))) (ht: ∀ w,(isAgg t).run P w= .ok true w) (hs: ∀ w,(Go.sizeOf t).run P w= .ok sz w) (hh:Has q b (.cells l.toArray t' fz)) (hv:Nat.ble (o+sz) l.length=true)
 (K:XD P G f Q ops k pk (rdA i b o (Wx.sub l o sz)++L) n (i::done) ((d,.agg (Wx.sub l o sz).toArray)::p) ds cs q)
 (hr:rdy ops done i=true:=by rfl) (hw:Wt ops p ⟨some d,.load t x,ty,pos,af,gd⟩=some true:=by rfl) (hd:Nat.blt d f.n=true:=by rfl):XD P G f Q ops k pk L (n+1) done p ds cs q:=by
 have e:o+sz<=l.length:=by simpa using hv
 have g:(Wx.sub l o sz).length=sz:=by simp [Wx.sub];omega
 refine XD.rdL i ho (rdA i b o (Wx.sub l o sz)) (Sl _ _ _ _) (HL.rdA fun j v a=>fK hh ?_) (fun tm w m h=> ?_) K hr hw hd
 . rw [Ur];simp only [Wx.sub,fL,gR] at a;split at a
   . exact a
   cases a
 have c:=run_loadCells_list (P:=P) w ⟨b,o,none⟩ (Wx.sub l o sz) (fun j u a=>by
  rw [Vj];exact h _ (Si a))
 rw [g] at c;simp [execOp,Zp m hx,Instr.loadAt,Instr.sureAddr,loadVar,ht,hs,c]
end
section
variable {rs:List ResultVar}{vs:List Value}
theorem ResOk.nil:ResOk P G p q [] []:=trivial
abbrev eT:=@ResOk.nil
theorem ResOk.tmp {t:Tmp}(h:lkp p t=some v)(r:ResOk P G p q rs vs):ResOk P G p q (.tmp t::rs) (v::vs):=⟨h,r⟩
abbrev fN:=@ResOk.tmp
theorem ResOk.cell {a:Tmp}{t:TypeId}{A:Addr}(h:lkp p a=some (.pointer (some A)))(l:LV P G q t A v)(r:ResOk P G p q rs vs):ResOk P G p q (.cell a t::rs) (v::vs):=⟨⟨A,h,l⟩,r⟩
abbrev dN:=@ResOk.cell
end
theorem Zxi {us:List Value}(hus: ∀ u∈us,u.cells= #[u]): ∀ (n:Nat) (pre post:List Value),pre.length=n->post.length=us.length->
 Instr.fill (fun i=>some (i*1,1)) (pre++post).toArray ((List.range' n us.length).zip us)=some (pre++us).toArray:=by
 induction us with
 |nil=>intro n pre post _ h;have:=aS h;subst this;simp [Instr.fill]
 |cons u r ih=>
  intro n pre post b h
  obtain ⟨x,post,rfl⟩: ∃ x l,post=x::l:=by cases post with
   |nil=>cases h
   |cons x l=>exact ⟨x,l,rfl⟩
  have d:=hus u bW;have a:=ih (fun v c=>hus v (bX _ c)) (n+1) (pre++ [u]) post (by simp [b]) (by simpa using h);simp only [aK,gW] at a;rw [aJ,List.range'_succ,gS];subst b;simp only [Instr.fill,d,iR];simp;simpa using a
section
variable {α:Type}
theorem Yu {ty':TypeId}{t e:TypeId}{z:Value}{bytes n:Nat}{ps:List (Nat×Operand)}(f:α->Value)(l:List α)(ht:P.underlying t=some (.slice e))(hi:(P.info? e).map (fun i=>(i.zero,i.size,i.bytes))=some (some z,1,bytes))(hz:z.cells.size=1)
 (hv:evl p (ps.map (·.2))=some (l.map f)) (hx:ps.map (·.1)=List.range' 0 n) (hn:l.length=n) (h0:Nat.blt 0 n=true) (h1:Nat.ble n 16777216=true) (hc: ∀ u,(f u).cells= #[f u]):
 Ef P G p q ⟨d,.buildSlice t n ps.toArray,ty',pos,af,gd⟩ fun v q'=> ∃ g,v= .slice (some ⟨g,0,none⟩) n n/\q'=lsH f e (some ⟨g,0,none⟩) n l::q:=by
 subst hn
 have b:Instr.fill (fun i=>some (i*1,1)) ((Array.range (l.length*1)).map (z.cells[· % z.cells.size]!)) ((ps.map (·.1)).zip (l.map f))=some (l.map f).toArray:=by
  rw [hx];have:=Zxi (us:=l.map f) (fun u a=>by obtain ⟨w,_,rfl⟩:=bS.1 a;exact hc w) 0 [] ((Array.range (l.length*1)).map (z.cells[· % z.cells.size]!)).toList rfl (by simp);rw [aY,aY,aI,kU] at this;exact this
 exact kL ht hi hv (by simpa using h1) (by simpa using h0) b (by simp)
end
end
section
end
end Wx
