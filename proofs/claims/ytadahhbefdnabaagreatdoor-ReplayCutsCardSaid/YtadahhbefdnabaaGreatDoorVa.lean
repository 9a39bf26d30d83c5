/- Contracts. -/
import Derived.Calls
import Derived.Defers
import Derived.Below
import Derived.WalkKit
import Derived.Laws.StructEq
namespace Wx
abbrev aA:=@List.length_append
abbrev aB:=@List.getElem?_eq_getElem
abbrev aC:=@List.getElem_mem
abbrev aH:=@List.getD_eq_getElem?_getD
abbrev aI:=@List.length_map
abbrev aJ:=@List.length_cons
abbrev aM:=@List.take_succ_eq_append_getElem
abbrev aN:=@List.map_append
abbrev aO:=@List.append_assoc
abbrev aP:=@List.drop_eq_getElem_cons
abbrev aQ:=@congrArg
abbrev aR:=@List.length_set
abbrev aS:=@Nat.le_refl
abbrev aT:=@List.length_nil
abbrev aU:=@Int.eq_ofNat_of_zero_le
abbrev aV:=@absurd
abbrev aW:=@List.eq_nil_of_length_eq_zero
abbrev aY:=@List.getElem_set_self
abbrev aZ:=@Nat.zero_le
abbrev bA:=@Bool.and_eq_true
abbrev bB:=@List.length_take
abbrev bE:=@List.mem_singleton
abbrev bG:=@List.map_cons
abbrev bI:=@Int.le_refl
abbrev bK:=@Decidable.em
abbrev bL:=@List.nil_append
abbrev bM:=@decide_eq_false
abbrev bN:=@List.cons_append
abbrev bO:=@List.mem_cons_self
abbrev bP:=@List.mem_append
abbrev bQ:=@List.mem_cons_of_mem
abbrev bR:=@List.take_length
abbrev bS:=@List.mem_cons
abbrev bX:=@List.take_of_length_le
abbrev bY:=@List.length_drop
abbrev bZ:=@List.getElem?_map
abbrev cA:=@List.append_nil
abbrev cD:=@Bool.eq_iff_iff
abbrev cF:=@List.mem_map
abbrev cG:=@Int.toNat_natCast
abbrev cI:=@List.length_singleton
abbrev cL:=@List.getElem?_eq_some_iff
abbrev cM:=@List.flatMap_cons
abbrev cN:=@List.drop_eq_nil_of_le
abbrev cQ:=@Nat.eq_zero_or_pos
abbrev cS:=@Nat.eq_of_beq_eq_true
abbrev cT:=@List.mem_or_eq_of_mem_set
abbrev cW:=@List.mem_map_of_mem
abbrev cY:=@of_decide_eq_true
abbrev dA:=@List.length_replicate
abbrev dB:=@decide_eq_true
abbrev dD:=@beq_eq_false_iff_ne
abbrev dF:=@List.map_nil
abbrev dG:=@decide_eq_false_iff_not
abbrev dJ:=@List.take_append_drop
abbrev dM:=@List.all_eq_true
abbrev dN:=@Nat.lt_or_ge
abbrev dO:=@Nat.le_trans
abbrev dQ:=@decide_eq_true_eq
abbrev dR:=@Option.some.inj
abbrev dT:=@List.getElem?_append_right
abbrev dU:=@List.drop_length
abbrev dX:=@List.getElem?_append_left
abbrev eE:=@Nat.zero_add
abbrev eG:=@List.set_getElem_self
abbrev eH:=@List.getElem_of_mem
abbrev eJ:=@List.flatMap_append
abbrev eK:=@List.getElem?_eq_none
abbrev eQ:=@Nat.mul_le_mul_right
abbrev eS:=@List.getD_cons_zero
abbrev eU:=@Bool.and_assoc
abbrev eV:=@List.set_set
abbrev eW:=@List.set_eq_take_append_cons_drop
abbrev eZ:=@List.mem_append_left
abbrev fA:=@List.mem_of_mem_take
abbrev fB:=@Bool.or_assoc
abbrev fG:=@Nat.min_eq_left
abbrev fH:=@beq_iff_eq
abbrev fI:=@List.getElem_append_right
abbrev fN:=@List.getElem_map
abbrev fO:=@List.map_map
abbrev fT:=@Nat.add_mul
abbrev fU:=@List.getElem_cons_zero
abbrev fV:=@List.getElem_cons_succ
abbrev fW:=@Nat.add_assoc
abbrev fY:=@List.take_zero
abbrev fZ:=@List.drop_drop
abbrev gB:=@List.length_filter_le
abbrev gC:=@List.mem_of_getElem?
abbrev gI:=@List.size_toArray
abbrev gJ:=@List.cons.inj
abbrev gN:=@Array.getElem?_setIfInBounds
abbrev gO:=@List.not_mem_nil
abbrev gT:=@List.mem_append_right
abbrev gU:=@Bool.true_and
abbrev gV:=@List.exists_cons_of_ne_nil
abbrev gX:=@Nat.blt_eq
abbrev iD:=@List.drop_zero
abbrev iF:=@List.map_set
abbrev iI:=@List.getD_cons_succ
abbrev iK:=@Nat.add_sub_cancel_left
abbrev iM:=@Prod.mk.injEq
abbrev iN:=@List.all_cons
abbrev iS:=@List.filter_append
abbrev iT:=@Nat.add_sub_cancel
abbrev iU:=@List.foldr_cons
abbrev iV:=@Nat.not_lt_zero
abbrev iW:=@Nat.pos_of_ne_zero
abbrev iY:=@Nat.ne_of_beq_eq_false
abbrev iZ:=@Nat.le_succ
abbrev jA:=@List.getElem?_set_self
abbrev jB:=@List.getElem_take
abbrev jC:=@List.getElem?_toArray
abbrev jD:=@List.take_left
abbrev jI:=@bne_iff_ne
abbrev jK:=@List.mem_iff_getElem
abbrev jL:=@Bool.or_eq_false_iff
abbrev jM:=@List.filter_cons
abbrev jN:=@List.flatMap_map
abbrev jP:=@Nat.zero_lt_succ
abbrev jQ:=@Array.getElem?_eq_some_iff
abbrev jR:=@Nat.mul_one
abbrev jU:=@Option.map_some
abbrev jV:=@Bool.or_eq_true
abbrev jW:=@List.nodup_cons
abbrev jX:=@List.mem_of_find?_eq_some
abbrev jY:=@List.cons.injEq
abbrev jZ:=@List.append_inj
abbrev kA:=@List.range_succ
abbrev kB:=@List.getElem?_take
abbrev kC:=@Nat.add_zero
abbrev kD:=@Bool.false_eq_true
abbrev kI:=@Nat.sub_self
abbrev kJ:=@List.getElem_append_left
abbrev kM:=@List.ext_getElem?
abbrev kN:=@Array.size_append
abbrev kO:=@List.getElem?_set
abbrev kQ:=@Option.map_eq_some_iff
abbrev kR:=@List.length_eq_one_iff
abbrev kX:=@Array.toArray_toList
abbrev kY:=@List.foldl_cons
abbrev kZ:=@Nat.add_comm
abbrev lA:=@List.getElem?_of_mem
abbrev lC:=@List.all_append
abbrev lF:=@Int.max_eq_left
abbrev lG:=@List.replicate_succ'
abbrev lH:=@Int.natCast_add
abbrev lI:=@List.mem_of_mem_tail
abbrev lJ:=@Array.toList_append
abbrev lK:=@Array.length_toList
abbrev lM:=@List.take_succ_cons
abbrev lN:=@bne_eq_false_iff_eq
abbrev lO:=@List.takeWhile_cons
abbrev lP:=@List.getElem?_drop
abbrev lQ:=@List.zip_cons_cons
abbrev lR:=@Int.lt_of_lt_of_le
abbrev lS:=@List.map_take
abbrev lT:=@List.any_cons
abbrev lU:=@List.sum_cons
theorem lV {α:Sort _}(a:α): ∃ x,x=a:=⟨a,rfl⟩
end Wx
set_option maxHeartbeats 16000000
set_option linter.all false
namespace Wx
open Go Go.RowKit
section
variable {p φ:Prop}{b:Nat}{o:Obj}
def Zq  (h : p := by omega) : p := h
def Zw  (h : p := by decide) : p := h
def Zi  (h : p := by simp; omega) : p := h
def Zf  (h : p := by simp) : p := h
def Zy  (h : p := by dsimp only; omega) : p := h
def Vp  (h : p := by assumption) : p := h
def Qw  (h : p := by simp; try omega) : p := h
abbrev Hp:=Nat->Option Obj
variable {h k:Hp}
def Hle (h k:Hp):Prop:= ∀ b o,h b=some o->k b=some o
def Hdj (h k:Hp):Prop:= ∀ b,h b=none\/k b=none
def Hle.refl (h:Hp):Hle h h:=fun _ _ e=>e
theorem Hle.trans {a b c}(h:Hle a b)(k:Hle b c):Hle a c:=fun x o e=>k x o (h x o e)
def Hdj.symm (d:Hdj h k):Hdj k h:=fun b=>(d b).symm
def Hdj.mono {h' k'}(d:Hdj h k)(a:Hle h' h)(b:Hle k' k):Hdj h' k':=by
 intro x;rcases d x with e|e
 . left;cases hx:h' x with
   |none=>rfl
   |some o=>have:=a x o hx;grind
 right;cases hx:k' x with
 |none=>rfl
 |some o=>have:=b x o hx;grind
def Uo (h k:Hp):Hp:=fun b=>match h b with|some o=>some o|none=>k b
def Hle.join_left (h k:Hp):Hle h (Uo h k):=by intro b o e;simp [Uo,e]
def Hle.join_right (d:Hdj h k):Hle k (Uo h k):=by
 intro b o e;rcases d b with n|n
 all_goals grind [Uo]
def Hle.join {m}(a:Hle h m)(b:Hle k m):Hle (Uo h k) m:=by
 intro x o e;unfold Uo at e
 cases hx:h x with
 |none=>rw [hx] at e;exact b x o e
 |some o'=>rw [hx] at e;cases e;exact a x _ hx
def Hdj.join_right {a}(d:Hdj a h)(e:Hdj a k):Hdj a (Uo h k):=by
 intro b;rcases d b with n|n
 . exact .inl n
 rcases e b with m|m
 all_goals grind [Uo]
structure HP where
 p:Hp->Hp->Prop
 mono: ∀ {M M' h h':Hp},Hle M M'->Hle h h'->p M h->p M' h'
variable {a cs ds r:List HP}{A:HP}
def emp:HP:=⟨fun _ _=>True,fun _ _ _=>trivial⟩
def pto (b:Nat)(o:Obj):HP:=⟨fun _ h=>h b=some o,fun _ e k=>e _ _ k⟩
def im (b:Nat)(o:Obj):HP:=⟨fun M _=>M b=some o,fun e _ k=>e _ _ k⟩
def pure (φ:Prop):HP:=⟨fun _ _=>φ,fun _ _ k=>k⟩
def star (A B:HP):HP:=⟨fun M h=> ∃ h₁ h₂,Hdj h₁ h₂/\Hle h₁ h/\Hle h₂ h/\A.p M h₁/\B.p M h₂,
 fun e e' ⟨h₁,h₂,d,a,b,p,q⟩=>⟨h₁,h₂,d,a.trans e',b.trans e',A.mono e (.refl _) p,B.mono e (.refl _) q⟩⟩
def ex {α:Sort _}(A:α->HP):HP:=⟨fun M h=> ∃ x,(A x).p M h,fun e e' ⟨x,p⟩=>⟨x,(A x).mono e e' p⟩⟩
def stars:List HP->HP
 | []=>emp
 |A::r=>star A (stars r)
def Le (cs ds:List HP):Prop:= ∀ M h,(stars cs).p M h->(stars ds).p M h
def Le.refl (cs:List HP):Le cs cs:=fun _ _ h=>h
abbrev aG:=@Le.refl
theorem Le.trans {b c}(h:Le a b)(k:Le b c):Le a c:=fun M x p=>k M x (h M x p)
abbrev aK:=@Le.trans
theorem Le.nil (cs:List HP):Le cs []:=fun _ _ _=>trivial
theorem Le.cons (A:HP)(h:Le cs ds):Le (A::cs) (A::ds):=
 fun M _ ⟨h₁,h₂,d,a,b,p,q⟩=>⟨h₁,h₂,d,a,b,p,h M _ q⟩
abbrev cC:=@Le.cons
def Le.drop (A:HP)(cs:List HP):Le (A::cs) cs:=fun _ _ ⟨_,_,_,_,b,_,q⟩=>(stars cs).mono (.refl _) b q
abbrev dS:=@Le.drop
theorem Le.swap (A B:HP)(cs:List HP):Le (A::B::cs) (B::A::cs):=by
 rintro M h ⟨f,j,d,a,b,p,g,c,e,k,i,p',q⟩;refine ⟨g,Uo f c,?_,k.trans b,.join a (i.trans b),p',f,c,(d.mono (.refl _) i),.join_left _ _,.join_right (d.mono (.refl _) i),p,q⟩;exact .join_right ((d.mono (.refl _) k).symm) e
abbrev iL:=@Le.swap
def Le.there (B:HP)(h:Le cs (A::r)):Le (B::cs) (A::B::r):=(h.cons B).trans (.swap _ _ _)
def Le.here (A:HP)(cs:List HP):Le (A::cs) (A::cs):= .refl _
def Le.pick (h:Le cs (A::r))(k:Le r ds):Le cs (A::ds):=h.trans (k.cons A)
abbrev bC:=@Le.pick
def Ps (h:Le cs ds):Le (A::cs) ds:=(dS A cs).trans h
def Le.one {B}(h: ∀ M x,A.p M x->B.p M x):Le (A::cs) (B::cs):=
 fun M _ ⟨h₁,h₂,d,a,b,p,q⟩=>⟨h₁,h₂,d,a,b,h M _ p,q⟩
def Kb (ds:List HP){b}(h:Le a b):Le (ds++a) (ds++b):=by
 induction ds with
 |nil=>exact h
 |cons A r ih=>exact ih.cons A
def Le.split (A B:HP)(cs:List HP):Le (star A B::cs) (A::B::cs):=by
 rintro M h ⟨j,f,d,a,b,⟨g,c,e,k,i,p,p'⟩,q⟩;refine ⟨g,Uo c f,?_,k.trans a,.join (i.trans a) b,p,c,f,d.mono i (.refl _),.join_left _ _,.join_right (d.mono i (.refl _)),p',q⟩;exact .join_right e (d.mono k (.refl _))
def Le.fuse (A B:HP)(cs:List HP):Le (A::B::cs) (star A B::cs):=by
 rintro M h ⟨f,j,d,a,b,p,c,g,e,i,k,p',q⟩;refine ⟨Uo f c,g,?_,.join a (i.trans b),k.trans b,⟨f,c,d.mono (.refl _) i,.join_left _ _,.join_right (d.mono (.refl _) i),p,p'⟩,q⟩;exact (Hdj.join_right (d.mono (.refl _) k).symm e.symm).symm
def Wi (a b:List HP):Le (a++b) a:=by
 induction a with
 |nil=>exact Le.nil _
 |cons A r ih=>exact ih.cons A
def Zh (cs ds:List HP):Le (cs++ds) (stars cs::ds):=by
 induction cs with
 |nil=>exact fun M h p=>⟨fun _=>none,h,fun _=> .inl rfl,fun _ _ e=>by simp at e,.refl _,trivial,p⟩
 |cons A r ih=>exact (ih.cons A).trans (.fuse _ _ _)
def Zb (cs ds:List HP):Le (stars cs::ds) (cs++ds):=by
 induction cs with
 |nil=>exact .drop _ _
 |cons A r ih=>exact (Le.split _ _ _).trans (ih.cons A)
def Yu (h:φ)(cs:List HP):Le cs (pure φ::cs):=
 fun _ k p=>⟨fun _=>none,k,fun _=> .inl rfl,fun _ _ e=>by simp at e,.refl _,h,p⟩
def Le.of_ex {α}{A:α->HP}(h: ∀ x,Le (A x::cs) ds):Le (ex A::cs) ds:=by
 rintro M k ⟨c,b,d,a,e,⟨x,p⟩,q⟩;exact h x M k ⟨c,b,d,a,e,p,q⟩
def Vt {α}{A}(x:α)(h:Le cs (A x::ds)):Le cs (ex A::ds):=
 h.trans (.one fun _ _ p=>⟨x,p⟩)
def wh (w:World):Hp:=fun b=>w.heap[b]?
def St (G w:World)(cs:List HP):Prop:=
 Below G.heap.size G w/\ ∃ M h:Hp,Hle M (wh w)/\Hle h (wh w)/\(∀ b o,h b=some o->G.heap.size<=b)/\Hdj M h/\Hle (wh G) M/\(stars cs).p M h
variable {G w w':World}
def St.le (s:St G w cs)(h:Le cs ds):St G w ds:=let ⟨b,M,k,a,c,d,e,f,p⟩:=s;⟨b,M,k,a,c,d,e,f,h M k p⟩
def St.below (s:St G w cs):Below G.heap.size G w:=s.1
def St.get_pure (s:St G w (pure φ::cs)):φ:=let ⟨_,_,_,_,_,_,_,_,_,_,_,_,_,p,_⟩:=s;p
def St.get_ex {α}{A:α->HP}(s:St G w (ex A::cs)): ∃ x,St G w (A x::cs):=
 let ⟨b,M,k,a,c,d,e,f,h₁,h₂,i,j,l,⟨x,p⟩,q⟩:=s;⟨x,b,M,k,a,c,d,e,f,h₁,h₂,i,j,l,p,q⟩
def Has (cs:List HP)(b:Nat)(o:Obj):Prop:= ∀ M h,(stars cs).p M h->M b=some o\/h b=some o
def Has.pto (b:Nat)(o:Obj)(cs:List HP):Has (pto b o::cs) b o:=fun _ _ ⟨_,_,_,a,_,p,_⟩=> .inr (a _ _ p)
abbrev dV:=@Has.pto
def Has.im (b:Nat)(o:Obj)(cs:List HP):Has (im b o::cs) b o:=fun _ _ ⟨_,_,_,_,_,p,_⟩=> .inl p
abbrev iQ:=@Has.im
def Has.there (h:Has cs b o):Has (A::cs) b o:=
 fun M _ ⟨_,_,_,_,e,_,q⟩=>(h M _ q).imp id (e _ _)
def Has.le (h:Has ds b o)(k:Le cs ds):Has cs b o:=fun M x p=>h M x (k M x p)
def St.has (s:St G w cs)(h:Has cs b o):w.heap[b]? =some o:=by
 have ⟨_,M,k,a,c,_,_,_,p⟩:=s;rcases h M k p with e|e
 . exact a _ _ e
 exact c _ _ e
def St.put {o'}(s:St G w (pto b o::cs))(hb:w'.heap[b]? =some o')(hne: ∀ k,k≠b->w'.heap[k]? =w.heap[k]?)
 (hs:w'.heap.size=w.heap.size) (h1:w'.os=w.os) (h2:w'.tape=w.tape) (h3:w'.output=w.output):St G w' (pto b o'::cs):=by
 have ⟨y,M,h,a,c,d,e,f,m,t,v,l,j,p,q⟩:=s;have r:h b=some o:=l _ _ p;have u:G.heap.size<=b:=d _ _ r
 refine ⟨y.trans ⟨h1,h2,h3,Zq,fun k z=>hne k Zq⟩,M,Uo (fun x=>if x=b then some o' else none) (fun x=>if x=b then none else h x),?_,?_,?_,?_,f,
  (fun x=>if x=b then some o' else none),(fun x=>if x=b then none else h x),?_,.join_left _ _,?_,?_,?_⟩
 . intro x i hx;have g:x≠b:=by rintro rfl;rcases e x with n|n<;>simp_all
   exact (hne x g).trans (a _ _ hx)
 . intro x i hx;by_cases g:x=b
   . subst g;simp [Uo] at hx;subst hx;exact hb
   simp [Uo,g] at hx;exact (hne x g).trans (c _ _ hx)
 . grind [Uo]
 . intro x;by_cases g:x=b
   . left;rcases e x with n|n
     all_goals grind
   rcases e x with n|n
   all_goals grind [Uo]
 . intro x;grind
 . refine .join_right ?_;intro x;grind
 . simp [pto]
 refine (stars cs).mono (.refl _) ?_ q;intro x i hx
 have g:x≠b:=by
  rintro rfl;rcases v x with n|n
  . have p':m x=some o:=p;grind
  grind
 simp [g];exact j _ _ hx
def St.new (s:St G w cs)(hn:w'.heap=w.heap.push o)(h1:w'.os=w.os)(h2:w'.tape=w.tape)(h3:w'.output=w.output):
 St G w' (pto w.heap.size o::cs):=by
 have ⟨l,M,h,a,c,d,e,f,q⟩:=s;have j: ∀ x b,w.heap[x]? =some b->x<w.heap.size:=fun x b hx=>(jQ.1 hx).1
 have g: ∀ x,x≠w.heap.size->w'.heap[x]? =w.heap[x]? :=by
  grind
 have i:w'.heap[w.heap.size]? =some o:=by grind
 have t:M w.heap.size=none:=by
  cases hm:M w.heap.size with
  |none=>rfl
  |some b=>have:=j _ _ (a _ _ hm);omega
 have r:h w.heap.size=none:=by
  cases hm:h w.heap.size with
  |none=>rfl
  |some b=>have:=j _ _ (c _ _ hm);omega
 have m:=l.size
 refine ⟨l.trans ⟨h1,h2,h3,by rw [hn];simp,fun k p=>g k Zq⟩,M,Uo (fun x=>if x=w.heap.size then some o else none) h,?_,?_,?_,?_,f,
  (fun x=>if x=w.heap.size then some o else none),h,?_,.join_left _ _,?_,?_,q⟩
 . intro x b hx;refine (g x ?_).trans (a _ _ hx);grind
 . intro x b hx;by_cases hxb:x=w.heap.size
   . subst hxb;simp [Uo] at hx;subst hx;exact i
   simp [Uo,hxb] at hx;exact (g x hxb).trans (c _ _ hx)
 . grind [Uo]
 . intro x;by_cases hxb:x=w.heap.size
   . grind
   rcases e x with n|n
   all_goals grind [Uo]
 . intro x;grind
 . refine .join_right ?_;intro x;grind
 simp [pto]
def St.same (s:St G w cs)(hh:w'.heap=w.heap)(h1:w'.os=w.os)(h2:w'.tape=w.tape)(h3:w'.output=w.output):St G w' cs:=by
 have ⟨g,M,h,a,c,d,e,f,q⟩:=s;have b:wh w'=wh w:=by funext x;simp [wh,hh]
 exact ⟨g.trans ⟨h1,h2,h3,by grind,fun k _=>by rw [hh]⟩,M,h,b ▸ a,b ▸ c,d,e,f,q⟩
theorem St.freeze (s:St G w (pto b o::cs)):St G w (im b o::cs):=by
 have ⟨v,M,h,a,c,d,e,f,m,i,u,l,g,p,q⟩:=s;have r:h b=some o:=l _ _ p;have t:M b=none:=by rcases e b with n|n;all_goals grind
 have k:Hle M (Uo M (fun x=>if x=b then some o else none)):= .join_left _ _
 refine ⟨v,Uo M (fun x=>if x=b then some o else none),i,?_,g.trans c,fun x j hx=>d _ _ (g _ _ hx),?_,f.trans k,fun _=>none,i,fun _=> .inl rfl,
  fun _ _ e=>by simp at e,.refl _,?_,(stars cs).mono k (.refl _) q⟩
 . refine .join a ?_;intro x j hx;by_cases hxb:x=b
   . subst hxb;simp at hx;subst hx;exact c _ _ r
   grind
 . intro x;by_cases hxb:x=b
   . subst hxb;right;rcases u x with n|n
     . have p':m x=some o:=p;grind
     exact n
   rcases e x with n|n
   . grind [Uo]
   right
   cases hx:i x with
   |none=>rfl
   |some j=>have:=g _ _ hx;grind
 simp [im,Uo,t]
end
section
variable {tm:Array Value}{c:Operand}{v:Value}{P:Program}{ds:List Deferred}{cs:List Frame}{todo:List Item}{q':List HP}{b t e:Code}{l id:Nat}
abbrev PE:=List (Nat×Value)
variable {p p':PE}
def lkp:PE->Nat->Option Value
 | [],_=>none
 |(d,v)::r,t=>bif Nat.beq d t then some v else lkp r t
def Agr (tm:Array Value)(p:PE):Prop:= ∀ t v,lkp p t=some v->tm.getD t undef=v
def evp (p:PE):Operand->Option Value
 | .tmp t=>lkp p t
 | .const v=>some v
 | .global g=>some (.pointer (some ⟨g,0,none⟩))
 | .func f=>some (.func (.func f) #[] #[])
def evl (p:PE):List Operand->Option (List Value)
 | []=>some []
 |x::r=>match evp p x,evl p r with
  |some v,some vs=>some (v::vs)
  |_,_=>none
def evA (tm:Array Value):Operand->Value
 | .tmp t=>tm.getD t undef
 | .const v=>v
 | .global g=> .pointer (some ⟨g,0,none⟩)
 | .func f=> .func (.func f) #[] #[]
theorem Zu (a:Agr tm p){x}(h:evp p x=some v):evA tm x=v:=by
 cases x with
 |tmp t=>exact a t v h
 |const c=>grind [evp,evA]
 |global g=>grind [evp,evA]
 |func f=>grind [evp,evA]
theorem Rw (a:Agr tm p): ∀ {l} {vs},evl p l=some vs->l.map (evA tm)=vs:=by
 intro l
 induction l<;>grind [evl,Zu]
def SubP:PE->PE->Prop
 | [],_=>True
 |(d,v)::r,p=>lkp p d=some v/\SubP r p
def SubP.lk (h:SubP p' p): ∀ t v,lkp p' t=some v->lkp p t=some v:=by
 induction p' with
 |nil=>grind [lkp]
 |cons x r ih=>
  intro t v e;simp [lkp] at e
  cases hb:Nat.beq x.1 t with
  |true=>
   rw [hb] at e;simp at e;have:=cS hb;subst this;subst e;exact h.1
  |false=>rw [hb] at e;exact ih h.2 t v (by simpa using e)
theorem Agr.sub (a:Agr tm p)(h:SubP p' p):Agr tm p':=fun t v e=>a t v (h.lk t v e)
theorem Agr.nil (tm:Array Value):Agr tm []:=fun _ _ e=>by simp [lkp] at e
def Jt (p:PE):Option Tmp->Value->PE
 |some d,v=>(d,v)::p
 |none,_=>p
def Vn (tm:Array Value):Option Tmp->Value->Array Value
 |some d,v=>tm.setIfInBounds d v
 |none,_=>tm
def dOk (n:Nat):Option Tmp->Bool
 |some d=>Nat.blt d n
 |none=>true
def Yr (tm:Array Value)(d:Option Tmp)(v:Value):(Vn tm d v).size=tm.size:=by cases d<;>simp [Vn]
def Agr.put (a:Agr tm p){d}(hd:dOk tm.size d=true):Agr (Vn tm d v) (Jt p d v):=by
 cases d with
 |none=>exact a
 |some d=>
  have c:d<tm.size:=by simpa [dOk] using hd
  intro t u e;simp [Jt,lkp] at e
  cases hb:Nat.beq d t with
  |true=>
   have:=cS hb;simp_all [Vn]
  |false=>
   rw [hb] at e;have b:d≠t:=iY hb;have:=a t u (by simpa using e);simp_all [Vn]
structure Fc where
 fn:FuncId
 n:Nat
 kind:CallKind
 round:Option Nat
variable {f:Fc}
def Fc.fr (f:Fc)(tm:Array Value)(ds:List Deferred)(todo:List Item):Frame:=
 { fn:=f.fn,tmps:=tm,todo,defers:=ds,mode:= .run,kind:=f.kind,roundOf:=f.round }
inductive Out where
 |fall
 |jump (c:Code)
 |panic (ch:List PanicEntry)
def Gone (c:Code)(k:List Item):Prop:=c= .ret\/(∃ id,c= .exit id/\exitTo id k=none)\/(∃ l,c= .goto l/\gotoIn l k=none)
def Arr (P:Program)(f:Fc)(m:Machine):Out->Array Value->List Deferred->List Frame->World->Prop
 | .fall,tm,ds,cs,w=>Steps P m (lone (f.fr tm ds []) cs w)
 | .jump c,tm,ds,cs,w=> ∃ k,Gone c k/\Steps P m (lone (f.fr tm ds (.code c::k)) cs w)
 | .panic ch,tm,ds,cs,w=> ∃ k,Steps P m (lone { f.fr tm ds k with mode:= .panicking ch } cs w)
theorem Arr.head {m m₁}{o}{w}
 (s:Steps P m m₁) (h:Arr P f m₁ o tm ds cs w):Arr P f m o tm ds cs w:=by
 cases o with
 |fall=>exact s.trans h
 |jump c=>have ⟨k,g,h⟩:=h;exact ⟨k,g,s.trans h⟩
 |panic ch=>have ⟨k,h⟩:=h;exact ⟨k,s.trans h⟩
abbrev Yp:=Out->PE->List Deferred->List Frame->List HP->Prop
def X (P:Program)(G:World)(f:Fc)(Q:Yp)(todo:List Item)(p:PE)(ds:List Deferred)(cs:List Frame)(q:List HP):Prop:=
 ∀ tm w,tm.size=f.n->Agr tm p->St G w q->
  ∃ o tm' p' ds' cs' w' q',Q o p' ds' cs' q'/\tm'.size=f.n/\Agr tm' p'/\St G w' q'/\Arr P f (lone (f.fr tm ds todo) cs w) o tm' ds' cs' w'
section code
variable {G:World}{Q:Yp}{k:List Item}{q:List HP}
def X.le (h:Le q q')(x:X P G f Q todo p ds cs q'):X P G f Q todo p ds cs q:=
 fun tm w n a s=>x tm w n a (s.le h)
abbrev cE:=@X.le
theorem X.sub (h:SubP p' p)(x:X P G f Q todo p' ds cs q):X P G f Q todo p ds cs q:=
 fun tm w n a s=>x tm w n (a.sub h) s
def X.at (x:X P G f Q todo p' ds cs q')(h:SubP p' p)(l:Le q q'):X P G f Q todo p ds cs q:=(x.sub h).le l
abbrev cH:=@X.at
def X.pure {todo}{φ}(x:φ->X P G f Q todo p ds cs q):X P G f Q todo p ds cs (pure φ::q):=
 fun tm w n a s=>x s.get_pure tm w n a (s.le (.drop _ _))
abbrev kP:=@X.pure
def X.ex {todo}{α}{A:α->HP}(x: ∀ y,X P G f Q todo p ds cs (A y::q)):X P G f Q todo p ds cs (ex A::q):=
 fun tm w n a s=>let ⟨y,s'⟩:=s.get_ex;x y tm w n a s'
theorem X.freeze {b}{o}(x:X P G f Q todo p ds cs (im b o::q)):X P G f Q todo p ds cs (pto b o::q):=
 fun tm w n a s=>x tm w n a s.freeze
abbrev fX:=@X.freeze
def X.know (s:Nat)(u:Value)(h:lkp p s=some v)(e:v=u)(K:X P G f Q todo ((s,u)::p) ds cs q):X P G f Q todo p ds cs q:=by
 refine fun tm w n b st=>K tm w n (fun j a c=>b j a ?_) st
 grind [lkp,Nat.eq_of_beq_eq_true]
abbrev fQ:=@X.know
theorem X.step {todo'}(h: ∀ tm w,step P (lone (f.fr tm ds todo) cs w)= .next (lone (f.fr tm ds todo') cs w))
 (x:X P G f Q todo' p ds cs q):X P G f Q todo p ds cs q:=by
 intro tm w n a s;have ⟨o,b,p',c,d,w',q',k,i,j,g,e⟩:=x tm w n a s;exact ⟨o,b,p',c,d,w',q',k,i,j,g,e.head (.one (h tm w))⟩
def X.seq {a}(x:X P G f Q (.code a:: .code b::k) p ds cs q):X P G f Q (.code (.seq a b)::k) p ds cs q:=
 .step (fun _ _=>step_lone_go (by simp [stepG,stepG.exec,Fc.fr])) x
def X.skip (x:X P G f Q k p ds cs q):X P G f Q (.code .skip::k) p ds cs q:=
 .step (fun _ _=>step_lone_go (by simp [stepG,stepG.exec,Fc.fr])) x
def X.label (x:X P G f Q k p ds cs q):X P G f Q (.code (.label l)::k) p ds cs q:=
 .step (fun _ _=>step_lone_go (by simp [stepG,stepG.exec,Fc.fr])) x
def X.inBlock (x:X P G f Q k p ds cs q):X P G f Q (.inBlock l::k) p ds cs q:=
 .step (fun _ _=>step_lone_go (by simp [stepG,stepG.exec,Fc.fr])) x
def X.inScope (x:X P G f Q k p ds cs q):X P G f Q (.inScope b::k) p ds cs q:=
 .step (fun _ _=>step_lone_go (by simp [stepG,stepG.exec,Fc.fr])) x
def X.block (x:X P G f Q (.code b:: .inBlock l::k) p ds cs q):X P G f Q (.code (.block l b)::k) p ds cs q:=
 .step (fun _ _=>step_lone_go (by simp [stepG,stepG.exec,Fc.fr])) x
def X.scope (x:X P G f Q (.code b:: .inScope b::k) p ds cs q):X P G f Q (.code (.scope b)::k) p ds cs q:=
 .step (fun _ _=>step_lone_go (by simp [stepG,stepG.exec,Fc.fr])) x
def X.inLoop (x:X P G f Q (.code b:: .inLoop b::k) p ds cs q):X P G f Q (.inLoop b::k) p ds cs q:=
 .step (fun _ _=>step_lone_go (by simp [stepG,stepG.exec,Fc.fr])) x
theorem Zb6 (x:X P G f Q (.code b:: .inLoop b::k) p ds cs q):X P G f Q (.code (.loop b)::k) p ds cs q:=
 .step (fun _ _=>step_lone_go (by simp [stepG,stepG.exec,Fc.fr])) x
def X.exit {k'}(h:exitTo id k=some k')(x:X P G f Q k' p ds cs q):X P G f Q (.code (.exit id)::k) p ds cs q:=
 .step (fun _ _=>step_lone_go (by simp [stepG,stepG.exec,Fc.fr,h])) x
def M6 (f:Fc)(tm:Array Value)(ds:List Deferred)(todo:List Item)(x:Operand):(f.fr tm ds todo).eval x=evA tm x:=by cases x<;>rfl
def X.cond_at {b}(hc:evp p c=some (.bool b))(x:X P G f Q (.code (if b then t else e)::k) p ds cs q):
 X P G f Q (.code (.cond c t e)::k) p ds cs q:=by
 intro tm w n a s;have ⟨o,d,p',g,h,w',q',u,m,r,l,i⟩:=x tm w n a s;refine ⟨o,d,p',g,h,w',q',u,m,r,l,i.head (.one (step_lone_go ?_))⟩;have j:(f.fr tm ds (.code (.cond c t e)::k)).eval c= .bool b:=(M6 ..).trans (Zu a hc);simp [Fc.fr] at j;simp [stepG,stepG.exec,Fc.fr,j]
def X.condT (hc:evp p c=some (.bool true))(x:X P G f Q (.code t::k) p ds cs q):X P G f Q (.code (.cond c t e)::k) p ds cs q:= .cond_at hc x
def X.condF (hc:evp p c=some (.bool false))(x:X P G f Q (.code e::k) p ds cs q):X P G f Q (.code (.cond c t e)::k) p ds cs q:= .cond_at hc x
def X.fall (h:Q .fall p ds cs q):X P G f Q [] p ds cs q:=fun tm w n a s=>⟨.fall,tm,p,ds,cs,w,q,h,n,a,s,.refl P _⟩
abbrev gK:=@X.fall
def X.ret (h:Q (.jump .ret) p ds cs q):X P G f Q (.code .ret::k) p ds cs q:=
 fun tm w n a s=>⟨.jump .ret,tm,p,ds,cs,w,q,h,n,a,s,k,.inl rfl,.refl P _⟩
abbrev iH:=@X.ret
def X.out (hk:exitTo id k=none)(h:Q (.jump (.exit id)) p ds cs q):X P G f Q (.code (.exit id)::k) p ds cs q:=
 fun tm w n a s=>⟨.jump _,tm,p,ds,cs,w,q,h,n,a,s,k,.inr (.inl ⟨id,rfl,hk⟩),.refl P _⟩
def X.loop {α}(Inv:α->Prop)(pI:α->PE)(qI:α->List HP)(μ:α->Nat)
 (round: ∀ a,Inv a->(∀ a',Inv a'->μ a'<μ a->X P G f Q (.inLoop b::k) (pI a') ds cs (qI a'))->X P G f Q (.code b:: .inLoop b::k) (pI a) ds cs (qI a))
 (a:α) (h:Inv a):X P G f Q (.code (.loop b)::k) (pI a) ds cs (qI a):=by
 have c: ∀ n a,μ a=n->Inv a->X P G f Q (.code b:: .inLoop b::k) (pI a) ds cs (qI a):=by
  intro n
  induction n using Nat.strongRecOn with
  |_ n ih=>exact fun a d h=>round a h fun a' g e=> .inLoop (ih _ (d ▸ e) a' rfl g)
 grind [Zb6]
abbrev bW:=@X.loop
end code
def XO (P:Program)(G:World)(f:Fc)(Q:Yp)(ops:Array Oper)(k:List Item)(l:List Oper)(p:PE)(ds:List Deferred)(cs:List Frame)(q:List HP):Prop:=
 ∀ is:List Nat,is.map (ops[·]?)=l.map some->X P G f Q (.inRegion ops is::k) p ds cs q
def Wt (ops:List Oper)(p:PE)(o:Oper):Option Bool:=
 match o.guard with
 |none=>some true
 |some (j,want)=>match (ops[j]?).bind (·.dst) with
  |none=>some false
  |some d=>match lkp p d with
   |some (.bool b)=>some (b==want)
   |some (.tuple _)=>some false
   |_=>none
def Y6 {ops}{p}{o}{b}{tm}(a:Agr tm p)(h:Wt ops p o=some b):Region.wanted o (yielded ops.toArray tm)=b:=by
 unfold Wt at h;unfold Region.wanted;split at h
 . grind
 rename_i j f g;rw [g];unfold yielded;split at h
 . grind
 rename_i d l;have e:(ops.toArray[j]?).bind (fun x=>x.dst)=some d:=by grind
 split at h
 . rename_i i c;have:=a d _ c
   have k:tm[d]? =some (.bool i):=by
    cases hx:tm[d]? with
    |none=>simp [hx,undef] at this
    |some u=>simpa [hx] using this
   simp_all
 . rename_i vs c;have:=a d _ c;
   cases hx:tm[d]? <;>simp_all
 cases h
section region
variable {P:Program}{G:World}{f:Fc}{Q:Yp}{ops:List Oper}{k:List Item}{p:PE}{ds:List Deferred}{cs:List Frame}{q:List HP}{rest:List Oper}{o:Oper}
def X.region {id}(x:XO P G f Q ops.toArray k ops p ds cs q):X P G f Q (.code (.region id ops.toArray false)::k) p ds cs q:=by
 refine .step (todo':= .inRegion ops.toArray (List.range ops.length)::k) (fun _ _=>step_lone_go (by simp [stepG,stepG.exec,Fc.fr])) (x _ ?_);apply kM;grind
theorem XO.nil (x:X P G f Q k p ds cs q):XO P G f Q ops.toArray k [] p ds cs q:=by
 intro a h
 cases a with
 |nil=>exact .step (fun _ _=>step_lone_go (by simp [stepG,stepG.exec,Fc.fr])) x
 |cons i r=>simp at h
def XO.le {l}{q'}(h:Le q q')(x:XO P G f Q ops.toArray k l p ds cs q'):XO P G f Q ops.toArray k l p ds cs q:=fun is e=>(x is e).le h
abbrev eN:=@XO.le
theorem XO.sub {l}{p'}(h:SubP p' p)(x:XO P G f Q ops.toArray k l p' ds cs q):XO P G f Q ops.toArray k l p ds cs q:=fun is e=>(x is e).sub h
def XO.pure {l}{φ}(x:φ->XO P G f Q ops.toArray k l p ds cs q):XO P G f Q ops.toArray k l p ds cs (pure φ::q):=fun is e=> .pure fun h=>x h is e
def XO.ex {l}{α}{A:α->HP}(x: ∀ y,XO P G f Q ops.toArray k l p ds cs (A y::q)):XO P G f Q ops.toArray k l p ds cs (Wx.ex A::q):=fun is e=> .ex fun y=>x y is e
theorem XO.freeze {l}{b}{o}(x:XO P G f Q ops.toArray k l p ds cs (im b o::q)):XO P G f Q ops.toArray k l p ds cs (pto b o::q):=fun is e=> .freeze (x is e)
theorem U0 (f:Fc)(tm:Array Value)(ds:List Deferred)(ops:Array Oper)(i:Nat)(r:List Nat)(k:List Item)(v:Value){o}(ho:ops[i]? =some o):
 (f.fr tm ds (.inRegion ops (i::r)::k)).finish v=f.fr (Vn tm o.dst v) ds (.inRegion ops r::k):=by
 grind [Frame.finish,Fc.fr,Vn]
theorem Jx (f:Fc)(tm:Array Value)(ds:List Deferred)(cs:List Frame)(w:World)(ops:Array Oper)(i:Nat)(r:List Nat)(k:List Item){o}(ho:ops[i]? =some o)
 (hw:Region.wanted o (yielded ops tm)=true) (hdf: ∀ c,o.op≠ .defer c):
 stepG P true { frame:=f.fr tm ds (.inRegion ops (i::r)::k),callers:=cs,status:= .running,dying:=none } w=
  stepG.apply P true (f.fr tm ds (.inRegion ops (i::r)::k)) cs none (execOp (evA tm) o) w:=by
 have a:(f.fr tm ds (.inRegion ops (i::r)::k)).eval=evA tm:=funext fun x=>M6 ..
 simp [stepG,stepG.exec,stepG.oper,Frame.oper?,Fc.fr,ho,hw,];split
 . rename_i c _ h;exact aV h (hdf _)
 rfl
def XO.pass_ (hw:Wt ops p o=some false)(hd:dOk f.n o.dst=true)(x:XO P G f Q ops.toArray k rest (Jt p o.dst undef) ds cs q):
 XO P G f Q ops.toArray k (o::rest) p ds cs q:=by
 intro j h tm w n a s
 cases j with
 |nil=>simp at h
 |cons i r=>
  have ⟨g,m⟩:=gJ h;have ⟨o',b,p',c,d,w',q',v,t,u,l,e⟩:=x r m _ w (by rw [Yr];exact n) (a.put (n ▸ hd)) s;refine ⟨o',b,p',c,d,w',q',v,t,u,l,e.head (.one (step_lone_go ?_))⟩;rw [<-U0 f tm ds _ i r k undef g];have:=Y6 a hw;simp [stepG,stepG.exec,Fc.fr,g,this]
def XO.run {v}(hw:Wt ops p o=some true)(hd:dOk f.n o.dst=true)
 (hr: ∀ tm w,tm.size=f.n->Agr tm p->St G w q->(execOp (evA tm) o).run P w= .ok (.value v) w\/(v=undef/\(execOp (evA tm) o).run P w= .ok .skip w))
 (x:XO P G f Q ops.toArray k rest (Jt p o.dst v) ds cs q) (hdf: ∀ c,o.op≠ .defer c:=by intro _ h;cases h):XO P G f Q ops.toArray k (o::rest) p ds cs q:=by
 intro t h tm w n a s
 cases t with
 |nil=>simp at h
 |cons i r=>
  have ⟨m,d⟩:=gJ h;have ⟨o',b,p',g,j,w',q',hQ,y,z,u,l⟩:=x r d _ w (by rw [Yr];exact n) (a.put (n ▸ hd)) s;refine ⟨o',b,p',g,j,w',q',hQ,y,z,u,l.head (.one (step_lone_go ?_))⟩;rw [Jx f tm ds cs w _ i r k m (Y6 a hw) hdf,<-U0 f tm ds _ i r k v m];rcases hr tm w n a s with e|⟨rfl,e⟩
  all_goals simp_all [stepG.apply]
def XO.eff (hw:Wt ops p o=some true)(hd:dOk f.n o.dst=true)
 (hr: ∀ tm w,tm.size=f.n->Agr tm p->St G w q-> ∃ v w' q',((execOp (evA tm) o).run P w= .ok (.value v) w'\/(v=undef/\(execOp (evA tm) o).run P w= .ok .skip w'))/\St G w' q'/\
  XO P G f Q ops.toArray k rest (Jt p o.dst v) ds cs q') (hdf: ∀ c,o.op≠ .defer c:=by intro _ h;cases h):XO P G f Q ops.toArray k (o::rest) p ds cs q:=by
 intro is h tm w n a s
 cases is with
 |nil=>simp at h
 |cons i r=>
  have ⟨z,l⟩:=gJ h;have ⟨v,b,y,g,d,x⟩:=hr tm w n a s;have ⟨o',j,p',m,t,w',q',hQ,hn,ha,hs,u⟩:=x r l _ b (by rw [Yr];exact n) (a.put (n ▸ hd)) d;refine ⟨o',j,p',m,t,w',q',hQ,hn,ha,hs,u.head (.one (step_lone_go ?_))⟩;rw [Jx f tm ds cs w _ i r k z (Y6 a hw) hdf,<-U0 f tm ds _ i r k v z];rcases g with e|⟨rfl,e⟩
  all_goals simp_all [stepG.apply]
def XO.panics {v}(hw:Wt ops p o=some true)
 (hr: ∀ tm w,tm.size=f.n->Agr tm p->St G w q-> ∃ w',(execOp (evA tm) o).run P w= .halt (.panic v) w'/\St G w' q)
 (hQ:Q (.panic [{ v,recovered:=false }]) p ds cs q) (hdf: ∀ c,o.op≠ .defer c:=by intro _ h;cases h):XO P G f Q ops.toArray k (o::rest) p ds cs q:=by
 intro g h tm w n a s
 cases g with
 |nil=>simp at h
 |cons i r=>
  have ⟨l,j⟩:=gJ h;have ⟨b,e,d⟩:=hr tm w n a s;refine ⟨.panic [{ v,recovered:=false }],tm,p,ds,cs,b,q,hQ,n,a,d,.inRegion ops.toArray (i::r)::k,.one (step_lone_go ?_)⟩;rw [Jx f tm ds cs w _ i r k l (Y6 a hw) hdf];simp [stepG.apply,e,Frame.raise,Fc.fr]
def okTodo:List Item->Prop
 | .call .. ::_| .extern .. ::_=>False
 |_=>True
def Zvc (fr:Frame)(cs:List Frame)(e:Ending)(w:World):Machine:=
 match e with
 | .returned v=>lone (fr.finish v) cs w
 | .panicked ch=>lone (fr.raise ch) cs w
 | .outgrown=>lone fr cs w
def Ap (P:Program)(s:Sem Next)(w:World)(R:Ending->World->Prop):Prop:=
 ∀ (fr:Frame) (cs:List Frame),fr.mode= .run->okTodo fr.todo-> ∃ e w',R e w'/\e≠ .outgrown/\
  ∃ fr₁ cs₁ w₁,(stepG.apply P true fr cs none s w).bare= .go { frame:=fr₁,callers:=cs₁,status:= .running,dying:=none } w₁/\
   Steps P (lone fr₁ cs₁ w₁) (Zvc fr cs e w')
abbrev Uc:=Ending->List HP->Prop
def CallV (P:Program)(G:World)(fv:Value)(vs:List Value)(pre:List HP)(R:Uc):Prop:=
 ∀ (F:List HP) w,St G w (pre++F)->Ap P (do let d<-Deferred.ofValue fv vs.toArray;invoke d.target d.args) w fun e w'=> ∃ q,R e q/\St G w' (q++F)
def CallF (P:Program)(G:World)(fn:FuncId)(vs:List Value)(pre:List HP)(R:Uc):Prop:=
 ∀ (F:List HP) w,St G w (pre++F)->Calls P fn vs.toArray w fun e w'=>e≠ .outgrown/\ ∃ q,R e q/\St G w' (q++F)
def CallF.mono {fn}{vs}{pre}{R R'}(h:CallF P G fn vs pre R)(hr: ∀ e q,R e q->R' e q):CallF P G fn vs pre R':=by
 intro F w s cs;have ⟨e,w',fr,⟨a,q,c,b⟩,rest⟩:=h F w s cs;grind
abbrev kU:=@CallF.mono
def Yh {fn}{a b vs}{pre}{R}
 (hc: ∀ args w,(callFunc fn args).run P w= .ok (.enter fn args) w) (h:CallF P G fn (a++vs++b) pre R):CallV P G (.func (.func fn) a.toArray b.toArray) vs pre R:=by
 intro F w s fr cs n g;have ⟨e,w',m,⟨f,q,l,j⟩,c,k,i⟩:=h F w s (fr::cs);refine ⟨e,w',⟨q,l,j⟩,f,Frame.enter P fn (a++vs++b).toArray .normal,fr::cs,w,?_,?_⟩
 . have:(do let d<-Deferred.ofValue (.func (.func fn) a.toArray b.toArray) vs.toArray;invoke d.target d.args:Sem Next).run P w= .ok (.enter fn (a++vs++b).toArray) w:=by
    have:=hc (a++vs++b).toArray w;simpa [Deferred.ofValue,invoke,] using this
   simp [stepG.apply,this,]
   cases ht:fr.todo with
   |nil=>rfl
   |cons x r=>cases x<;>first|rfl|(rw [ht] at g;exact g.elim)
 cases e with
 |returned v=>exact Steps.trans c (.one (step_leave_returned i))
 |panicked ch=>exact Steps.trans c (.one (step_leave_panicked i))
 |outgrown=>grind
def XO.callE {d}{fo}{args}{ats}{ty}{pos}{af}{gd}
 {fv} {vs} {pre F} {R}
 (hw:Wt ops p ⟨d,.call ⟨.value fo,args.toArray,ats⟩,ty,pos,af,gd⟩=some true) (hd:dOk f.n d=true)
 (hf:evp p fo=some fv) (hv:evl p args=some vs) (hc:CallV P G fv vs pre R) (hq:Le q (pre++F))
 (x: ∀ v q',R (.returned v) q'->XO P G f Q ops.toArray k rest (Jt p d v) ds cs (q'++F))
 (xp: ∀ ch q',R (.panicked ch) q'->Q (.panic ch) p ds cs (q'++F)):
 XO P G f Q ops.toArray k (⟨d,.call ⟨.value fo,args.toArray,ats⟩,ty,pos,af,gd⟩::rest) p ds cs q:=by
 intro is h tm w n a s
 cases is with
 |nil=>simp at h
 |cons i r=>
  have ⟨ho,z⟩:=gJ h;have ⟨e,g,⟨b,hR,j⟩,d0,m,o,t,a0,u⟩:=hc F w (s.le hq) (f.fr tm ds (.inRegion ops.toArray (i::r)::k)) cs rfl trivial
  have l:execOp (evA tm) ⟨d,.call ⟨.value fo,args.toArray,ats⟩,ty,pos,af,gd⟩=(do let d<-Deferred.ofValue fv vs.toArray;invoke d.target d.args):=by
   simp only [execOp,resolve,Zu a hf];have:(args.toArray.map (evA tm))=vs.toArray:=by rw [<-(Rw a hv)];simp
   rw [this]
  have c:step P (lone (f.fr tm ds (.inRegion ops.toArray (i::r)::k)) cs w)= .next (lone m o t):=by
   refine step_lone_go ?_;rw [Jx f tm ds cs w _ i r k ho (Y6 a hw) Zf,l];exact a0
  cases e with
  |returned v=>
   have ⟨o',y,p',b0,c0,w',q',hQ,hn,ha,hs,e0⟩:=x v b hR r z _ g (by rw [Yr];exact n) (a.put (n ▸ hd)) j;refine ⟨o',y,p',b0,c0,w',q',hQ,hn,ha,hs,Arr.head ((Steps.one c).trans u) ?_⟩;simp_all [U0,Zvc]
  |panicked ch=>
   refine ⟨.panic ch,tm,p,ds,cs,g,b++F,xp ch b hR,n,a,j,.inRegion ops.toArray (i::r)::k,?_⟩;have:=(Steps.one c).trans u;grind [Zvc,Frame.raise,Fc.fr]
  |outgrown=>grind
end region
end
section
def S5 {P}(n:Nat){t e}(ht:P.underlying t=some (.pointer e))(A:Option Addr)(w:World):(Op.equalIn (n+1) t (.pointer A) (.pointer none)).run P w= .ok A.isNone w:=by
 cases A<;>simp [Op.equalIn,run_underlying ht]
def G9 {P}(k:Nat){t e}(ht:P.underlying t=some (.slice e))(A:Option Addr)(n m:Nat)(w:World):(Op.equalIn (k+1) t (.slice A n m) (.slice none 0 0)).run P w= .ok A.isNone w:=by
 cases A<;>simp [Op.equalIn,run_underlying ht]
def Zqo {P}(k:Nat){t}(ht:P.underlying t=some .bool)(x y:Bool)(w:World):(Op.equalIn (k+1) t (.bool x) (.bool y)).run P w= .ok (x==y) w:=by
 simp [Op.equalIn,run_underlying ht]
def nth:List Value->Nat->Option Value
 | [],_=>none
 |v::_,0=>some v
 |_::r,n+1=>nth r n
theorem Qi (l:List Value)(n:Nat):nth l n=l[n]? :=by
 induction l generalizing n with
 |nil=>simp [nth]
 |cons v r ih=>cases n<;>grind [nth]
def Ku (l:List Value)(o:Nat)(v:Value):List Value:=match l,o with
 | [],_=> []
 |_::r,0=>v::r
 |x::r,n+1=>x::Ku r n v
theorem Ff (l:List Value)(o:Nat)(v:Value):Ku l o v=l.set o v:=by
 induction l generalizing o with
 |nil=>simp [Ku]
 |cons x r ih=>cases o<;>simp [Ku,ih]
def sub (l:List Value)(o n:Nat):List Value:=(l.drop o).take n
theorem Vu (b o n:Nat):(⟨b,o,none⟩:Addr).add n=⟨b,o+n,none⟩:=by grind [Addr.add]
def Ue {z}(h1: -9223372036854775808<=z)(h2:z<=9223372036854775807):IntKind.i64.wrap z=z:=by rw [IntKind.wrap_i64];omega
def Pu (P:Program)(p:PE)(o:Oper)(v:Value):Prop:= ∀ tm w,Agr tm p->(execOp (evA tm) o).run P w= .ok (.value v) w
def Rd (P:Program)(G:World)(p:PE)(q:List HP)(o:Oper)(v:Value):Prop:= ∀ tm w,Agr tm p->St G w q->(execOp (evA tm) o).run P w= .ok (.value v) w
def Ef (P:Program)(G:World)(p:PE)(q:List HP)(o:Oper)(R:Value->List HP->Prop):Prop:= ∀ tm w,Agr tm p->St G w q->
 ∃ v w' q',((execOp (evA tm) o).run P w= .ok (.value v) w'\/(v=undef/\(execOp (evA tm) o).run P w= .ok .skip w'))/\St G w' q'/\R v q'
def Pn (P:Program)(G:World)(p:PE)(q:List HP)(o:Oper)(v:Value):Prop:= ∀ tm w,Agr tm p->St G w q-> ∃ w',(execOp (evA tm) o).run P w= .halt (.panic v) w'/\St G w' q
def Pu.rd {P}{G}{p}{q}{o}{v}(h:Pu P p o v):Rd P G p q o v:=fun tm w ag _=>h tm w ag
section facts
variable {P:Program}{G:World}{p:PE}{q:List HP}{d:Option Tmp}{ty:TypeId}{pos:String}{af:Array Edge}{gd:Option (Nat×Bool)}{v u:Value}{a b c x y:Operand}
def Pu.move (hx:evp p x=some v):Pu P p ⟨d,.move x,ty,pos,af,gd⟩ v:=fun tm w a=>by simp [execOp,Zu a hx]
def Pu.assign (hx:evp p x=some v):Pu P p ⟨d,.assign x,ty,pos,af,gd⟩ v:=fun tm w a=>by simp [execOp,Zu a hx]
def Pu.pickT (hc:evp p c=some (.bool true))(hx:evp p a=some v):Pu P p ⟨d,.pick c a b,ty,pos,af,gd⟩ v:=fun tm w e=>by simp [execOp,Zu e hc,Zu e hx,asBool]
def Pu.pickF (hc:evp p c=some (.bool false))(hx:evp p b=some v):Pu P p ⟨d,.pick c a b,ty,pos,af,gd⟩ v:=fun tm w e=>by simp [execOp,Zu e hc,Zu e hx,asBool]
def Pu.extract {n}{vs}(hx:evp p x=some (.tuple vs.toArray))(hv:nth vs n=some v):Pu P p ⟨d,.extract x n,ty,pos,af,gd⟩ v:=
 fun tm w a=>by rw [Qi] at hv;simp [execOp,Zu a hx,Instr.extract,hv]
abbrev fP:=@Pu.extract
def Pu.makeFunc {fn}{l m}{fs ms}(h1:evl p l=some fs)(h2:evl p m=some ms):Pu P p ⟨d,.makeFunc fn l.toArray m.toArray,ty,pos,af,gd⟩ (.func fn fs.toArray ms.toArray):=
 fun tm w a=>by
  simp [execOp,Instr.makeFunc,Rw a h1,Rw a h2]
def Pu.makeInterface {t}{D}(hx:evp p x=some v)(hu:P.underlying t=some D)(hD:(match D with| .interface _=>false|_=>true)=true):Pu P p ⟨d,.makeInterface t x,ty,pos,af,gd⟩ (.iface t v):=
 fun tm w a=>by
  simp [execOp,Instr.makeInterface,Zu a hx,run_underlying hu]
  cases D<;>first|(cases hD;done)|rfl
def Pu.int {op}{t t'}{kd}{m n}{r}(hx:evp p x=some (.int kd m))(hy:evp p y=some (.int kd n))
 (hr: ∀ w,(Go.binOp op t (.int kd m) (.int kd n)).run P w= .ok r w):Pu P p ⟨d,.binOp op t x y t',ty,pos,af,gd⟩ r:=
 fun tm w a=>by
  have:(eqGuard op t x y (.int kd m) (.int kd n)).run P w= .ok () w:=by
   unfold eqGuard;split<;>simp_all
  simp [execOp,Zu a hx,Zu a hy,this,hr]
section
variable {kd:IntKind}{m n:Int}{t t':TypeId}(hx:evp p x=some (.int kd m))(hy:evp p y=some (.int kd n))
include hx hy
def Zfz:Pu P p ⟨d,.binOp .add t x y t',ty,pos,af,gd⟩ (.int kd (kd.wrap (m+n))):= .int hx hy (fun w=>by simp [Go.binOp,Op.intArith])
def Zb8:Pu P p ⟨d,.binOp .sub t x y t',ty,pos,af,gd⟩ (.int kd (kd.wrap (m - n))):= .int hx hy (fun w=>by simp [Go.binOp,Op.intArith])
def Zfq:Pu P p ⟨d,.binOp .mul t x y t',ty,pos,af,gd⟩ (.int kd (kd.wrap (m*n))):= .int hx hy (fun w=>by simp [Go.binOp,Op.intArith])
def Pu.rem (h0:n≠0):Pu P p ⟨d,.binOp .rem t x y t',ty,pos,af,gd⟩ (.int kd (m.tmod n)):= .int hx hy (fun w=>by simp [Go.binOp,Op.intDiv,h0])
def Zzx (h0:n≠0):Pu P p ⟨d,.binOp .quo t x y t',ty,pos,af,gd⟩ (.int kd (kd.wrap (m.tdiv n))):= .int hx hy (fun w=>by simp [Go.binOp,Op.intDiv,h0])
def Pu.eql:Pu P p ⟨d,.binOp .eql t x y t',ty,pos,af,gd⟩ (.bool (m==n)):= .int hx hy (fun w=>by simp [Go.binOp,Op.intCmp])
def Pu.neq:Pu P p ⟨d,.binOp .neq t x y t',ty,pos,af,gd⟩ (.bool (m !=n)):= .int hx hy (fun w=>by simp [Go.binOp,Op.intCmp])
def Pu.lss:Pu P p ⟨d,.binOp .lss t x y t',ty,pos,af,gd⟩ (.bool (decide (m<n))):= .int hx hy (fun w=>by simp [Go.binOp,Op.intCmp])
def Pu.leq:Pu P p ⟨d,.binOp .leq t x y t',ty,pos,af,gd⟩ (.bool (decide (m<=n))):= .int hx hy (fun w=>by simp [Go.binOp,Op.intCmp])
def Pu.gtr:Pu P p ⟨d,.binOp .gtr t x y t',ty,pos,af,gd⟩ (.bool (decide (n<m))):= .int hx hy (fun w=>by simp [Go.binOp,Op.intCmp])
def Pu.geq:Pu P p ⟨d,.binOp .geq t x y t',ty,pos,af,gd⟩ (.bool (decide (n<=m))):= .int hx hy (fun w=>by simp [Go.binOp,Op.intCmp])
end
section
variable {m n:Int}{t t':TypeId}(hx:evp p x=some (.int .i64 m))(hy:evp p y=some (.int .i64 n))
include hx hy
theorem Pu.add (h1: -9223372036854775808<=m+n)(h2:m+n<=9223372036854775807):Pu P p ⟨d,.binOp .add t x y t',ty,pos,af,gd⟩ (.int .i64 (m+n)):=by
 have:=Zfz (P:=P) (d:=d) (t:=t) (t':=t') (ty:=ty) (pos:=pos) (af:=af) (gd:=gd) hx hy;rwa [Ue h1 h2] at this
theorem Pu.sub (h1: -9223372036854775808<=m - n)(h2:m - n<=9223372036854775807):Pu P p ⟨d,.binOp .sub t x y t',ty,pos,af,gd⟩ (.int .i64 (m - n)):=by
 have:=Zb8 (P:=P) (d:=d) (t:=t) (t':=t') (ty:=ty) (pos:=pos) (af:=af) (gd:=gd) hx hy;rwa [Ue h1 h2] at this
def Pu.mul (h1: -9223372036854775808<=m*n)(h2:m*n<=9223372036854775807):Pu P p ⟨d,.binOp .mul t x y t',ty,pos,af,gd⟩ (.int .i64 (m*n)):=by
 have:=Zfq (P:=P) (d:=d) (t:=t) (t':=t') (ty:=ty) (pos:=pos) (af:=af) (gd:=gd) hx hy;rwa [Ue h1 h2] at this
end
def Pu.not {t}{z}(hx:evp p x=some (.bool z)):Pu P p ⟨d,.unOp .not t x,ty,pos,af,gd⟩ (.bool !z):=fun tm w a=>by simp [execOp,Zu a hx,Op.unary]
def Pu.negW {t}{kd}{n}(hx:evp p x=some (.int kd n)):Pu P p ⟨d,.unOp .neg t x,ty,pos,af,gd⟩ (.int kd (kd.wrap (0 - n))):=fun tm w a=>by simp [execOp,Zu a hx,Op.unary,Op.intArith]
def Zk3 {s t}{D}{ks kd}{n}(hx:evp p x=some (.int ks n))(hs:P.underlying s=some D)(ht:P.underlying t=some (.int kd)):Pu P p ⟨d,.convert s t x,ty,pos,af,gd⟩ (.int kd (kd.wrap n)):=
 fun tm w a=>by simp [execOp,Zu a hx,convert,run_underlying hs,run_underlying ht,Conv.intToInt]
def Pu.conv {s t}{D}{ks kd}{n}(hx:evp p x=some (.int ks n))(hs:P.underlying s=some D)(ht:P.underlying t=some (.int kd))(hn:kd.wrap n=n):Pu P p ⟨d,.convert s t x,ty,pos,af,gd⟩ (.int kd n):=by
 have:=Zk3 (d:=d) (ty:=ty) (pos:=pos) (af:=af) (gd:=gd) hx hs ht;rwa [hn] at this
def Pu.nilCheck {A}(hx:evp p x=some (.pointer (some A))):Pu P p ⟨d,.nilCheck x,ty,pos,af,gd⟩ (.pointer (some A)):=fun tm w a=>by simp [execOp,Zu a hx]
def Zzy {f:Nat}{l m}(hx:evp p x=some (.func (.func f) l m)):Pu P p ⟨d,.nilCheck x,ty,pos,af,gd⟩ (.func (.func f) l m):=fun tm w a=>by simp [execOp,Zu a hx]
def Pu.fieldAddr {t}{n:Nat}{b o}{fs}(ft off sz:Nat)(hx:evp p x=some (.pointer (some ⟨b,o,none⟩)))(ht:P.underlying t=some (.struct fs))(hF:(fs[n]?).map (fun F=>(F.type,F.offset))=some (ft,off))
 (hs: ∀ w,(Go.sizeOf ft).run P w= .ok (sz+1) w):Pu P p ⟨d,.fieldAddr t x n,ty,pos,af,gd⟩ (.pointer (some ⟨b,o+off,none⟩)):=
 fun tm w c=>by
  have ⟨F,a,e⟩:=kQ.1 hF;obtain ⟨rfl,rfl⟩:=e;simp [execOp,Zu c hx,Instr.fieldAt,Instr.sureAddr,run_underlying ht,a,fieldPlace,hs,Vu]
def Pu.len {t}{e}{A}{n m}{ats}(hx:evp p x=some (.slice A n m))(ht:P.underlying t=some (.slice e)):Pu P p ⟨d,.call ⟨.builtin .len, [x].toArray,(t::ats).toArray⟩,ty,pos,af,gd⟩ (.int .i64 n):=
 fun tm w a=>by simp [execOp,resolve,invoke,builtin,Zu a hx,Builtin.len_,run_underlying ht,goInt]
def Pu.indexAddr {t e}{b o n m}{kd}{i}{sz}(hx:evp p x=some (.slice (some ⟨b,o,none⟩) n m))(hy:evp p y=some (.int kd i))(ht:P.underlying t=some (.slice e))(hs: ∀ w,(Go.sizeOf e).run P w= .ok sz w)
 (h0:0<=i) (h1:i<n):Pu P p ⟨d,.indexAddr t x y,ty,pos,af,gd⟩ (.pointer (some ⟨b,o+i.toNat*sz,none⟩)):=
 fun tm w a=>by
  have c:0<=i/\i<(n:Int):=⟨h0,h1⟩;simp [execOp,Zu a hx,Zu a hy,Instr.indexAt,asIntOf,run_underlying ht,c,hs,Vu]
def Pu.ptrNil {op}{t t' e}{A}{z}(hop:op= .eql/\z=A.isNone\/op= .neq/\z=A.isSome)(hx:evp p x=some (.pointer A))(ht:P.underlying t=some (.pointer e)):Pu P p ⟨d,.binOp op t x (.const (.pointer none)) t',ty,pos,af,gd⟩ (.bool z):=
 fun tm w c=>by
  have b:(Op.equal t _ _).run P w= .ok A.isNone w:=S5 9999 ht A w;have a:evA tm (.const _)= .pointer none:=rfl;rcases hop with ⟨rfl,rfl⟩|⟨rfl,rfl⟩<;>cases A<;>simp [execOp,Zu c hx,a,eqGuard,Go.binOp,b]
def Zht {t t' e}{A}(hx:evp p x=some (.pointer A))(ht:P.underlying t=some (.pointer e)):Pu P p ⟨d,.binOp .eql t x (.const (.pointer none)) t',ty,pos,af,gd⟩ (.bool A.isNone):= .ptrNil (.inl ⟨rfl,rfl⟩) hx ht
def Zhd {t t' e}{A}(hx:evp p x=some (.pointer A))(ht:P.underlying t=some (.pointer e)):Pu P p ⟨d,.binOp .neq t x (.const (.pointer none)) t',ty,pos,af,gd⟩ (.bool A.isSome):= .ptrNil (.inr ⟨rfl,rfl⟩) hx ht
def Pu.slcNil {op}{t t' e}{A}{n m}{z}(hop:op= .eql/\z=A.isNone\/op= .neq/\z=A.isSome)(hx:evp p x=some (.slice A n m))(ht:P.underlying t=some (.slice e)):Pu P p ⟨d,.binOp op t x (.const (.slice none 0 0)) t',ty,pos,af,gd⟩ (.bool z):=
 fun tm w c=>by
  have b:(Op.equal t _ _).run P w= .ok A.isNone w:=G9 9999 ht A n m w;have a:evA tm (.const _)= .slice none 0 0:=rfl;rcases hop with ⟨rfl,rfl⟩|⟨rfl,rfl⟩<;>cases A<;>simp [execOp,Zu c hx,a,eqGuard,Go.binOp,b]
def Zxr {t t' e}{A}{n m}(hx:evp p x=some (.slice A n m))(ht:P.underlying t=some (.slice e)):Pu P p ⟨d,.binOp .eql t x (.const (.slice none 0 0)) t',ty,pos,af,gd⟩ (.bool A.isNone):= .slcNil (.inl ⟨rfl,rfl⟩) hx ht
def Zxc {t t' e}{A}{n m}(hx:evp p x=some (.slice A n m))(ht:P.underlying t=some (.slice e)):Pu P p ⟨d,.binOp .neq t x (.const (.slice none 0 0)) t',ty,pos,af,gd⟩ (.bool A.isSome):= .slcNil (.inr ⟨rfl,rfl⟩) hx ht
def Pu.boolCmp {op}{t t'}{z z' r}(hop:op= .eql/\r=(z==z')\/op= .neq/\r=(z !=z'))(hx:evp p x=some (.bool z))(hy:evp p y=some (.bool z'))(ht:P.underlying t=some .bool):Pu P p ⟨d,.binOp op t x y t',ty,pos,af,gd⟩ (.bool r):=
 fun tm w a=>by
  have b:(Op.equal t _ _).run P w= .ok _ w:=Zqo 9999 ht z z' w;rcases hop with ⟨rfl,rfl⟩|⟨rfl,rfl⟩<;>simp [execOp,Zu a hx,Zu a hy,eqGuard,Go.binOp,b,bne]
def Pu.eqlB {t t'}{z z'}(hx:evp p x=some (.bool z))(hy:evp p y=some (.bool z'))(ht:P.underlying t=some .bool):Pu P p ⟨d,.binOp .eql t x y t',ty,pos,af,gd⟩ (.bool (z==z')):= .boolCmp (.inl ⟨rfl,rfl⟩) hx hy ht
def Pu.neqB {t t'}{z z'}(hx:evp p x=some (.bool z))(hy:evp p y=some (.bool z'))(ht:P.underlying t=some .bool):Pu P p ⟨d,.binOp .neq t x y t',ty,pos,af,gd⟩ (.bool (z !=z')):= .boolCmp (.inr ⟨rfl,rfl⟩) hx hy ht
def Has.cell {w}{b o}{l}{t}{fz}(h:Has q b (.cells l.toArray t fz))(s:St G w q)(hv:nth l o=some v):w.cell? ⟨b,o,none⟩=some v:=by
 have:=s.has h;grind [Qi,World.cell?]
def Cl (q:List HP)(A:Addr)(v:Value):Prop:= ∀ G w,St G w q->w.cell? A=some v
def Cl.of {b o}{l}{t}{fz}(h:Has q b (.cells l.toArray t fz))(hv:nth l o=some v):Cl q ⟨b,o,none⟩ v:=fun _ _ s=>h.cell s hv
abbrev fC:=@Cl.of
def Rd.load {t}{A}(hx:evp p x=some (.pointer (some A)))(ht: ∀ w,(isAgg t).run P w= .ok false w)(hc:Cl q A v):Rd P G p q ⟨d,.load t x,ty,pos,af,gd⟩ v:=
 fun tm w a s=>by simp [execOp,Zu a hx,Instr.loadAt,Instr.sureAddr,loadVar,ht,hc G w s]
def Rd.loadA {t}{b o}{l}{t'}{fz}{sz}(hx:evp p x=some (.pointer (some ⟨b,o,none⟩)))(ht: ∀ w,(isAgg t).run P w= .ok true w)(hs: ∀ w,(Go.sizeOf t).run P w= .ok sz w)
 (hh:Has q b (.cells l.toArray t' fz)) (hv:Nat.ble (o+sz) l.length=true):Rd P G p q ⟨d,.load t x,ty,pos,af,gd⟩ (.agg (Wx.sub l o sz).toArray):=
 fun tm w f s=>by
  have h:=s.has hh;have c:o+sz<=l.length:=by simp_all
  have e:(Wx.sub l o sz).length=sz:=by simp [Wx.sub];omega
  have a:=run_loadCells_list (P:=P) w ⟨b,o,none⟩ (Wx.sub l o sz) (fun j u g=>by
   grind [Vu,World.cell?,Wx.sub])
  rw [e] at a;simp [execOp,Zu f hx,Instr.loadAt,Instr.sureAddr,loadVar,ht,hs,a]
def Ef.store {t}{b o}{l}{t'}{r}(hx:evp p x=some (.pointer (some ⟨b,o,none⟩)))(hy:evp p y=some v)(hs: ∀ w,(Go.sizeOf t).run P w= .ok 1 w)
 (hv:v.cells= #[v]) (h1:v.oneCell'=true) (hq:Le q (pto b (.cells l.toArray t' (0,0))::r)) (ho:Nat.blt o l.length=true):
 Ef P G p q ⟨d,.store t x y,ty,pos,af,gd⟩ fun z q'=>z=undef/\q'=pto b (.cells (Ku l o v).toArray t' (0,0))::r:=
 fun tm w g s=>by
  have e:=s.le hq;have f:=e.has (dV _ _ _);have c:o<l.length:=by simp_all
  have i:w.cell? ⟨b,o,none⟩=some (l[o]):=by simp [World.cell?,f]
  have h:w.frozen? ⟨b,o,none⟩=false:=by simp [World.frozen?,f]
  refine ⟨undef,w.setCell ⟨b,o,none⟩ v,pto b _::r,.inr ⟨rfl,?_⟩,?_,rfl,rfl⟩
  . 
    have a:(Go.store ⟨b,o,none⟩ v).run P w= .ok () (w.setCell ⟨b,o,none⟩ v):=by
     cases v<;>first|(simp [Value.oneCell'] at h1;done)|simp [Go.store,Sem.run,i,h]
    simp [execOp,Zu g hx,Zu g hy,Instr.storeAt,Instr.sureAddr,storeVar,hs,hv,storeCells,Vu,a]
  rw [Ff];refine e.put ?_ ?_ ?_ rfl rfl rfl
  all_goals grind [World.setCell]
def Ef.box {t}(hx:evp p x=some v):Ef P G p q ⟨d,.box t x,ty,pos,af,gd⟩ fun z q'=> ∃ n,z= .pointer (some ⟨n,0,none⟩)/\q'=pto n (.cells v.cells t (0,0))::q:=
 fun tm w a s=>⟨_,w.alloc _,_,.inl (by simp [execOp,Zu a hx,Instr.box,newVar,newRow]),s.new rfl rfl rfl rfl,_,rfl,rfl⟩
def Ef.alloc {t}{z}(hz: ∀ w,(zeroValue t).run P w= .ok z w):Ef P G p q ⟨d,.alloc t,ty,pos,af,gd⟩ fun r q'=> ∃ n,r= .pointer (some ⟨n,0,none⟩)/\q'=pto n (.cells z.cells t (0,0))::q:=
 fun tm w a s=>⟨_,w.alloc _,_,.inl (by simp [execOp,Instr.alloc,hz,newVar,newRow]),s.new rfl rfl rfl rfl,_,rfl,rfl⟩
def Ef.makeMap {t}:Ef P G p q ⟨d,.makeMap t none,ty,pos,af,gd⟩ fun r q'=> ∃ n,r= .map (some n)/\q'=pto n (.map #[] 0)::q:=
 fun tm w a s=>⟨_,w.alloc _,_,.inl (by simp [execOp,Instr.makeMap]),s.new rfl rfl rfl rfl,_,rfl,rfl⟩
abbrev kV:=@Ef.makeMap
end facts
section ops
variable {P:Program}{G:World}{f:Fc}{Q:Yp}{ops:List Oper}{k:List Item}{p:PE}{ds:List Deferred}{cs:List Frame}{q:List HP}{rest:List Oper}{o:Oper}{v:Value}
def XO.rd_ (h:Rd P G p q o v)(K:XO P G f Q ops.toArray k rest (Jt p o.dst v) ds cs q)(hw:Wt ops p o=some true:=by rfl)(hd:dOk f.n o.dst=true:=by rfl)(hdf: ∀ c,o.op≠ .defer c:=by intro _ h;cases h):
 XO P G f Q ops.toArray k (o::rest) p ds cs q:= .run hw hd (fun tm w _ ag s=> .inl (h tm w ag s)) K hdf
def XO.pu_ (h:Pu P p o v)(K:XO P G f Q ops.toArray k rest (Jt p o.dst v) ds cs q)(hw:Wt ops p o=some true:=by rfl)(hd:dOk f.n o.dst=true:=by rfl)(hdf: ∀ c,o.op≠ .defer c:=by intro _ h;cases h):
 XO P G f Q ops.toArray k (o::rest) p ds cs q:= .rd_ h.rd K hw hd hdf
def XO.ef_ {R}(h:Ef P G p q o R)(K: ∀ v q',R v q'->XO P G f Q ops.toArray k rest (Jt p o.dst v) ds cs q')(hw:Wt ops p o=some true:=by rfl)(hd:dOk f.n o.dst=true:=by rfl)(hdf: ∀ c,o.op≠ .defer c:=by intro _ h;cases h):
 XO P G f Q ops.toArray k (o::rest) p ds cs q:=
 .eff hw hd (fun tm w _ ag s=>let ⟨v,w',q',hr,s',hR⟩:=h tm w ag s;⟨v,w',q',hr,s',K v q' hR⟩) hdf
section
variable {d:Tmp}{op:Op}{ty:TypeId}{pos:String}{af:Array Edge}{gd:Option (Nat×Bool)}
def XO.rd (h:Rd P G p q ⟨some d,op,ty,pos,af,gd⟩ v)(K:XO P G f Q ops.toArray k rest ((d,v)::p) ds cs q)(hw:Wt ops p ⟨some d,op,ty,pos,af,gd⟩=some true:=by rfl)(hd:Nat.blt d f.n=true:=by rfl)(hdf: ∀ c,op≠ .defer c:=by intro _ h;cases h):
 XO P G f Q ops.toArray k (⟨some d,op,ty,pos,af,gd⟩::rest) p ds cs q:= .rd_ h K hw hd hdf
def Va (h:Pu P p ⟨some d,op,ty,pos,af,gd⟩ v)(K:XO P G f Q ops.toArray k rest ((d,v)::p) ds cs q)(hw:Wt ops p ⟨some d,op,ty,pos,af,gd⟩=some true:=by rfl)(hd:Nat.blt d f.n=true:=by rfl)(hdf: ∀ c,op≠ .defer c:=by intro _ h;cases h):
 XO P G f Q ops.toArray k (⟨some d,op,ty,pos,af,gd⟩::rest) p ds cs q:= .rd_ h.rd K hw hd hdf
def XO.ef {R}(h:Ef P G p q ⟨some d,op,ty,pos,af,gd⟩ R)(K: ∀ v q',R v q'->XO P G f Q ops.toArray k rest ((d,v)::p) ds cs q')(hw:Wt ops p ⟨some d,op,ty,pos,af,gd⟩=some true:=by rfl)(hd:Nat.blt d f.n=true:=by rfl)(hdf: ∀ c,op≠ .defer c:=by intro _ h;cases h):
 XO P G f Q ops.toArray k (⟨some d,op,ty,pos,af,gd⟩::rest) p ds cs q:= .ef_ h K hw hd hdf
abbrev bU:=@XO.ef
def XO.ef0 {R}(h:Ef P G p q ⟨none,op,ty,pos,af,gd⟩ R)(K: ∀ v q',R v q'->XO P G f Q ops.toArray k rest p ds cs q')(hw:Wt ops p ⟨none,op,ty,pos,af,gd⟩=some true:=by rfl)(hdf: ∀ c,op≠ .defer c:=by intro _ h;cases h):
 XO P G f Q ops.toArray k (⟨none,op,ty,pos,af,gd⟩::rest) p ds cs q:= .ef_ h K hw rfl hdf
abbrev cU:=@XO.ef0
end
def Zb2 (h:Pn P G p q o v)(hQ:Q (.panic [{ v,recovered:=false }]) p ds cs q)(hw:Wt ops p o=some true:=by rfl)(hdf: ∀ c,o.op≠ .defer c:=by intro _ h;cases h):
 XO P G f Q ops.toArray k (o::rest) p ds cs q:= .panics hw (fun tm w _ ag s=>h tm w ag s) hQ hdf
def XO.part {l}(s:Nat){t}(h:lkp p s=some (.bool t))(ht:t=true->XO P G f Q ops.toArray k l ((s,.bool true)::p) ds cs q)
 (hf:t=false->XO P G f Q ops.toArray k l ((s,.bool false)::p) ds cs q):XO P G f Q ops.toArray k l p ds cs q:=by
 have a: ∀ t' tm,lkp p s=some (.bool t')->Agr tm p->Agr tm ((s,.bool t')::p):=by
  intro t' tm e b j u d;apply b j u;grind [lkp,Nat.eq_of_beq_eq_true]
 cases t with
 |true=>exact fun c e tm w n b st=>ht rfl c e tm w n (a true tm h b) st
 |false=>exact fun c e tm w n b st=>hf rfl c e tm w n (a false tm h b) st
abbrev kT:=@XO.part
def XO.know {l}(s:Nat){v}(u:Value)(h:lkp p s=some v)(e:v=u)(K:XO P G f Q ops.toArray k l ((s,u)::p) ds cs q):XO P G f Q ops.toArray k l p ds cs q:=by
 refine fun b e tm w n c st=>K b e tm w n (fun j a d=>c j a ?_) st
 grind [lkp,Nat.eq_of_beq_eq_true]
abbrev aX:=@XO.know
def Ret (R:Value->List HP->Prop):Uc:=fun e q=> ∃ v,e= .returned v/\R v q
def XO.call_ {d}{fo}{args}{ats}{ty}{pos}{af}{gd}
 {fv} {vs} {pre F} {R}
 (hf:evp p fo=some fv) (hv:evl p args=some vs) (hc:CallV P G fv vs pre (Ret R)) (hq:Le q (pre++F))
 (x: ∀ v q',R v q'-> ∀ q'',q''=q'++F->XO P G f Q ops.toArray k rest (Jt p d v) ds cs q'')
 (hw:Wt ops p ⟨d,.call ⟨.value fo,args.toArray,ats⟩,ty,pos,af,gd⟩=some true:=by rfl) (hd:dOk f.n d=true:=by rfl):
 XO P G f Q ops.toArray k (⟨d,.call ⟨.value fo,args.toArray,ats⟩,ty,pos,af,gd⟩::rest) p ds cs q:=
 .callE hw hd hf hv hc hq (fun v q' ⟨_,h,r⟩=>by cases h;exact x v q' r _ rfl) (fun a q' ⟨_,h,_⟩=>by cases h)
def XO.callF_ {d}{fn}{args}{ats}{ty}{pos}{af}{gd}
 {vs} {pre F} {R} (hcf: ∀ args w,(callFunc fn args).run P w= .ok (.enter fn args) w)
 (hc:CallF P G fn vs pre (Ret R)) (hv:evl p args=some vs) (hq:Le q (pre++F))
 (x: ∀ v q',R v q'-> ∀ q'',q''=q'++F->XO P G f Q ops.toArray k rest (Jt p d v) ds cs q'')
 (hw:Wt ops p ⟨d,.call ⟨.value (.func fn),args.toArray,ats⟩,ty,pos,af,gd⟩=some true:=by rfl) (hd:dOk f.n d=true:=by rfl):
 XO P G f Q ops.toArray k (⟨d,.call ⟨.value (.func fn),args.toArray,ats⟩,ty,pos,af,gd⟩::rest) p ds cs q:=
 .call_ rfl hv (Yh hcf (by simpa using hc)) hq x hw hd
def XO.call {d:Tmp}{fo}{args}{ats}{ty}{pos}{af}{gd}
 {fv} {vs} {pre F} {R}
 (hf:evp p fo=some fv) (hv:evl p args=some vs) (hc:CallV P G fv vs pre (Ret R)) (hq:Le q (pre++F))
 (x: ∀ v q',R v q'-> ∀ q'',q''=q'++F->XO P G f Q ops.toArray k rest ((d,v)::p) ds cs q'')
 (hw:Wt ops p ⟨some d,.call ⟨.value fo,args.toArray,ats⟩,ty,pos,af,gd⟩=some true:=by rfl) (hd:Nat.blt d f.n=true:=by rfl):
 XO P G f Q ops.toArray k (⟨some d,.call ⟨.value fo,args.toArray,ats⟩,ty,pos,af,gd⟩::rest) p ds cs q:= .call_ hf hv hc hq x hw hd
def XO.callF {d:Tmp}{fn}{args}{ats}{ty}{pos}{af}{gd}
 {vs} {pre F} {R} (hcf: ∀ args w,(callFunc fn args).run P w= .ok (.enter fn args) w)
 (hc:CallF P G fn vs pre (Ret R)) (hv:evl p args=some vs) (hq:Le q (pre++F))
 (x: ∀ v q',R v q'-> ∀ q'',q''=q'++F->XO P G f Q ops.toArray k rest ((d,v)::p) ds cs q'')
 (hw:Wt ops p ⟨some d,.call ⟨.value (.func fn),args.toArray,ats⟩,ty,pos,af,gd⟩=some true:=by rfl) (hd:Nat.blt d f.n=true:=by rfl):
 XO P G f Q ops.toArray k (⟨some d,.call ⟨.value (.func fn),args.toArray,ats⟩,ty,pos,af,gd⟩::rest) p ds cs q:= .callF_ hcf hc hv hq x hw hd
end ops
def Zqv:Nat->List Value->PE
 |_, []=> []
 |i,v::r=>(i,v)::Zqv (i+1) r
def lkp_penv (vs:List Value)(i t:Nat)(v:Value)(h:lkp (Zqv i vs) t=some v):i<=t/\vs[t - i]? =some v:=by
 induction vs generalizing i<;>grind [Zqv,lkp,Nat.eq_of_beq_eq_true]
def Zku (vs:List Value)(m:Nat):Agr (vs.toArray++Array.replicate m undef) (Zqv 0 vs):=by
 intro t v h;have ⟨_,b⟩:=lkp_penv vs 0 t v h
 have a:t<vs.length:=by
  grind
 simp_all [Array.getElem?_append]
def Lv (P:Program)(G:World)(fn:FuncId)(R:Uc)(F:List HP)(ds:List Deferred)(u:FrameMode)(p:PE)(q:List HP):Prop:=
 ∀ tm w fr cs,fr.fn=fn->fr.tmps=tm->fr.defers=ds->fr.mode=u->fr.kind= .normal->Agr tm p->St G w q->
  ∃ e w' fr' q',R e q'/\e≠ .outgrown/\St G w' (q'++F)/\Steps P (lone fr cs w) (lone fr' cs w')/\fr'.fn=fn/\fr'.leaving P w' e
def FQ (P:Program)(G:World)(fn:FuncId)(cs₀:List Frame)(R:Uc)(F:List HP):Yp:=fun o p ds cs q=>cs=cs₀/\match o with
 | .fall| .jump .ret=>Lv P G fn R F ds .returning p q
 | .panic ch=>Lv P G fn R F ds (.panicking ch) p q
 |_=>False
def CallF.of {P}{G}{fn}{fd}{c}{n}{vs}{pre}{R}(hn:fd.ntmps=n)(h: ∀ F cs,X P G ⟨fn,n,.normal,none⟩ (FQ P G fn cs R F) [.code c] (Zqv 0 vs) [] cs (pre++F))(hl:Nat.ble vs.length n=true:=by rfl)(hf:P.funcs[fn]? =some fd:=by exact rfl)(hb:fd.body=some c:=by exact rfl):CallF P G fn vs pre R:=by
 intro F w s cs;subst hn;have b0:vs.length<=fd.ntmps:=by simp_all
 obtain ⟨o,a,p',f,i,w',q',⟨rfl,x⟩,a0,z,y,d⟩:=h F cs (vs.toArray++Array.replicate (fd.ntmps - vs.length) undef) w Zi (Zku vs _) s
 have u:Frame.enter P fn vs.toArray .normal=Fc.fr ⟨fn,fd.ntmps,.normal,none⟩ (vs.toArray++Array.replicate (fd.ntmps - vs.length) undef) [] [.code c]:=by
  grind [Frame.enter,Fc.fr]
 rw [<-u] at d
 cases o with
 |fall=>
  have ⟨e,j,t,l,v,q,p,m,r,hl⟩:=x a w' { Fc.fr ⟨fn,fd.ntmps,.normal,none⟩ a f [] with mode:= .returning } i rfl rfl rfl rfl rfl z y;refine ⟨e,j,t,⟨q,l,v,p⟩,?_,r,hl⟩
  have h1:step P (lone (Fc.fr ⟨fn,fd.ntmps,.normal,none⟩ a f []) i w')= .next (lone { Fc.fr ⟨fn,fd.ntmps,.normal,none⟩ a f [] with mode:= .returning } i w'):=
   step_lone_go (by simp [stepG,stepG.exec,Fc.fr])
  have b:=(d.trans (.one h1)).trans m
  cases e<;>first|exact b|grind
 |jump c'=>
  have ⟨k,g,d⟩:=d
  cases c' with
  |ret=>
   have ⟨e,j,t,l,v,q,p,m,r,hl⟩:=x a w' { Fc.fr ⟨fn,fd.ntmps,.normal,none⟩ a f (.code .ret::k) with mode:= .returning } i rfl rfl rfl rfl rfl z y;refine ⟨e,j,t,⟨q,l,v,p⟩,?_,r,hl⟩
   have h1:step P (lone (Fc.fr ⟨fn,fd.ntmps,.normal,none⟩ a f (.code .ret::k)) i w')= .next (lone { Fc.fr ⟨fn,fd.ntmps,.normal,none⟩ a f (.code .ret::k) with mode:= .returning } i w'):=
    step_lone_go (by simp [stepG,stepG.exec,Fc.fr])
   have b:=(d.trans (.one h1)).trans m
   cases e<;>first|exact b|grind
  |_=>exact x.elim
 |panic ch=>
  have ⟨k,d⟩:=d;have ⟨e,j,t,l,v,q,p,m,r,hl⟩:=x a w' { Fc.fr ⟨fn,fd.ntmps,.normal,none⟩ a f k with mode:= .panicking ch } i rfl rfl rfl rfl rfl z y;refine ⟨e,j,t,⟨q,l,v,p⟩,?_,r,hl⟩
  cases e<;>first|exact (d.trans m)|grind
abbrev aE:=@CallF.of
def Lv.ret {P}{G}{fn}{fd}{R}{F}{p}{q q'}{v}(hf:P.funcs[fn]? =some fd)
 (hr: ∀ tm w,Agr tm p->St G w q->(results fd tm).run P w= .ok v w) (h:R (.returned v) q') (hq:Le q (q'++F)):Lv P G fn R F [] .returning p q:=
 fun tm w fr cs d e c b a f s=>⟨.returned v,w,fr,q',h,Zf,s.le hq,.refl P _,d,b,c,a,fd,by grind,by grind⟩
abbrev fS:=@Lv.ret
def Lv.panic {P}{G}{fn}{fd}{R}{F}{p}{q q'}{ch}(hf:P.funcs[fn]? =some fd)
 (h:R (.panicked ch) q') (hq:Le q (q'++F)):Lv P G fn R F [] (.panicking ch) p q:=
 fun tm w fr cs c e b a d f s=>⟨.panicked ch,w,fr,q',h,Zf,s.le hq,.refl P _,c,a,b,fd,by grind⟩
def Pj {P}{fd}(h:fd.results= #[]){p}{G}{q}(tm:Array Value)(w:World)(_:Agr tm p)(_:St G w q):(results fd tm).run P w= .ok (.tuple #[]) w:=results_none h _ _ _
def Qq {P}{fd:Func}{t}(h:fd.results= #[.tmp t]){p}{v}(hp:lkp p t=some v){G}{q}(tm:Array Value)(w:World)(ag:Agr tm p)(_:St G w q):
 (results fd tm).run P w= .ok v w:=by rw [results_tmp h];rw [ag _ _ hp]
def res2 {P}{fd:Func}{t t'}(h:fd.results= #[.tmp t,.tmp t']){p}{v v'}(hp:lkp p t=some v)(hp':lkp p t'=some v'){G}{q}(tm:Array Value)(w:World)(ag:Agr tm p)(_:St G w q):
 (results fd tm).run P w= .ok (.tuple #[v,v']) w:=by rw [results_tmp2 h];rw [ag _ _ hp,ag _ _ hp']
def res3 {P}{fd:Func}{t t' t''}(h:fd.results= #[.tmp t,.tmp t',.tmp t'']){p}{v v' v''}(hp:lkp p t=some v)(hp':lkp p t'=some v')(hp'':lkp p t''=some v''){G}{q}(tm:Array Value)(w:World)(ag:Agr tm p)(_:St G w q):
 (results fd tm).run P w= .ok (.tuple #[v,v',v'']) w:=by
 simp [results,h];exact ⟨by simpa using (ag _ _ hp),by simpa using (ag _ _ hp'),by simpa using (ag _ _ hp'')⟩
end
section
variable {P:Program}{s:Sem Next}{w G w':World}{R:Value->List HP->Prop}{ops:List Oper}{o y:Oper}{tm:Array Value}{K Kend:Array Value->World->Prop}{Kp:List PanicEntry->Array Value->World->Prop}{done:List Nat}{i j:Nat}{x d:Option Tmp}{v fv:Value}{f:Fc}{k:List Item}{ds:List Deferred}{cs:List Frame}{listed:Array Bool}{q pre F:List HP}{pk p:PE}{pos:String}{af:Array Edge}{gd:Option (Nat×Bool)}{fo:Operand}{args:List Operand}{vs:List Value}{fn:FuncId}
def Zf3 (done:List Nat)(o:Oper):Bool:=o.after.toList.all fun e=> !Region.binds .any e||done.contains e.on
def rdy (ops:List Oper)(done:List Nat)(j:Nat):Bool:= !done.contains j && match ops[j]? with|some o=>Zf3 done o|none=>false
def looks (ops:List Oper)(o:Oper):List Tmp:=
 (o.op.operands.toList.filterMap fun| .tmp t=>some t|_=>none)++(match o.guard with|some (j,_)=>((ops[j]?).bind (·.dst)).toList|none=> [])
def Ij (ops:List Oper)(x y:Oper):Bool:=
 (match x.dst with|some d=> !(looks ops y).contains d && y.dst !=some d|none=>true) && (match y.dst with|some d=> !(looks ops x).contains d|none=>true)
def onB (o:Oper)(i:Nat):Bool:=o.after.toList.any fun e=>Region.binds .any e && e.on==i
def okR (ops:List Oper):Bool:=
 (ops.zipIdx.all fun (x,i)=>ops.zipIdx.all fun (y,j)=>i==j||onB x j||onB y i||Ij ops x y) &&
 ops.all fun o=>match o.op with| .select .. =>false| .defer _=>false|_=>true
def Bw (ops:List Oper)(pk:PE):Bool:=ops.all fun o=>match o.dst with|some d=>pk.all fun e=> !(e.1==d)|none=>true
def OW (P:Program)(ops:List Oper)(o:Oper)(tm:Array Value)(w:World)(K:Array Value->World->Prop)(Kp:List PanicEntry->Array Value->World->Prop):Prop:=
 if Region.wanted o (yielded ops.toArray tm)=true then
  Ap P (execOp (evA tm) o) w fun e w'=>match e with| .returned v=>K (Vn tm o.dst v) w'| .panicked ch=>Kp ch tm w'| .outgrown=>False
 else K (Vn tm o.dst undef) w
def Ap.mono {R R'}(h:Ap P s w R)(hr: ∀ e w',e≠ .outgrown->R e w'->R' e w'):Ap P s w R':=
 fun fr cs hm ho=>let ⟨e,w',r,hne,rest⟩:=h fr cs hm ho;⟨e,w',hr _ _ hne r,hne,rest⟩
def OW.mono {K'}
 (h:OW P ops o tm w K Kp) (hk: ∀ t w',K t w'->K' t w'):OW P ops o tm w K' Kp:=by
 unfold OW at*;split
 . rename_i a;rw [if_pos a] at h;exact h.mono fun e w' _ r=>by grind
 grind
abbrev Rds:=List (Nat×Nat×Nat×Value)
variable {L L':Rds}
def SL (L:Rds)(w:World):Prop:= ∀ e∈L,w.cell? ⟨e.2.1,e.2.2.1,none⟩=some e.2.2.2
def cut (o:Oper):Rds->Rds
 | []=> []
 |e::r=>bif onB o e.1 then cut o r else e::cut o r
theorem Jq {e}:e∈cut o L↔e∈L/\onB o e.1=false:=by
 induction L<;>grind [cut,onB]
def WA (P:Program)(ops:List Oper)(Kend:Array Value->World->Prop)(Kp:List PanicEntry->Array Value->World->Prop):Nat->Rds->List Nat->Array Value->World->Prop
 |0,_,done,tm,w=>(∀ j,rdy ops done j=false)/\Kend tm w
 |n+1,L,done,tm,w=>((∀ j,rdy ops done j=false)->Kend tm w)/\
  ∀ j o,ops[j]? =some o->rdy ops done j=true->OW P ops o tm w (fun tm' w'=>SL (cut o L) w'/\WA P ops Kend Kp n (cut o L) (j::done) tm' w') Kp
def SL.mono (hs: ∀ e∈L',e∈L)(h:SL L w):SL L' w:=fun e he=>h e (hs e he)
def Zkk (o:Oper)(hs: ∀ e∈L',e∈L): ∀ e∈cut o L',e∈cut o L:=fun e a=>by
 grind [Jq]
def WA.mono: ∀ n {L L'} {done tm w},(∀ e∈L',e∈L)->WA P ops Kend Kp n L done tm w->WA P ops Kend Kp n L' done tm w:=by
 intro n
 induction n with
 |zero=>exact fun _ h=>h
 |succ n ih=>exact fun c ⟨g,h⟩=>⟨g,fun j o f d=>(h j o f d).mono fun t w' ⟨a,b⟩=>⟨a.mono (Zkk o c),ih (Zkk o c) b⟩⟩
def G2 {done'}(h: ∀ j,j∈done↔j∈done')(j:Nat):rdy ops done j=rdy ops done' j:=by
 grind [rdy,Zf3]
def WA.congr: ∀ n {L} {done done'} {tm} {w},(∀ j,j∈done↔j∈done')->WA P ops Kend Kp n L done tm w->WA P ops Kend Kp n L done' tm w:=by
 intro n
 induction n with
 |zero=>exact fun h ⟨a,b⟩=>⟨fun j=>by rw [<-G2 h];exact a j,b⟩
 |succ n ih=>
  intro L done done' tm w h ⟨a,b⟩;refine ⟨fun e=>a fun j=>by rw [G2 h];exact e j,fun j o d c=>(b j o d (by rw [G2 h];exact c)).mono fun t w' ⟨s,x⟩=>⟨s,ih (fun i=>by simp [h i]) x⟩⟩
theorem Dk (h:rdy ops done j=true)(hne:j≠i):rdy ops (i::done) j=true:=by
 grind [rdy,Zf3]
def Zf4 (tm:Array Value){y}(v u:Value)(h: ∀ d,x=some d->y≠some d):Vn (Vn tm x v) y u=Vn (Vn tm y u) x v:=by
 cases x<;>cases y<;>simp [Vn]
 grind
def evA_put {y}(h: ∀ d,x=some d->y≠ .tmp d):evA (Vn tm x v) y=evA tm y:=by
 cases x with
 |none=>rfl
 |some d=>
  cases y with
  |tmp t=>
   have a:d≠t:=fun e=>h d rfl (by rw [e])
   simp [evA,Vn,a]
  |_=>rfl
def Zkq (hs: ∀ cs b,o.op≠ .select cs b)(h: ∀ d,x=some d->d∉looks ops o):execOp (evA (Vn tm x v)) o=execOp (evA tm) o:=
 execOp_congr o hs fun y hy=>evA_put fun d a e=>h d a (by
  exact eZ _ (List.mem_filterMap.2 ⟨.tmp d,by grind,rfl⟩))
def Cx (h: ∀ d,x=some d->d∉looks ops o):
 Region.wanted o (yielded ops.toArray (Vn tm x v))=Region.wanted o (yielded ops.toArray tm):=by
 cases x with
 |none=>rfl
 |some d=>
  unfold Region.wanted
  cases hg:o.guard with
  |none=>rfl
  |some g=>
   have b:=h d rfl;simp [looks,hg,] at b;unfold yielded;simp [jC]
   cases hj:(ops[g.1]?).bind _ with
   |none=>simp
   |some e=>
    have a:d≠e:=fun q=>by rw [hj] at b;simp [q] at b
    simp [Vn,Array.getElem?_setIfInBounds_ne a]
def Yv (P:Program)(ops:List Oper)(S:World->Prop)(o:Oper)(v:Value)(tm:Array Value):Prop:=
 (Region.wanted o (yielded ops.toArray tm)=true/\ ∀ w,S w->(execOp (evA tm) o).run P w= .ok (.value v) w)\/(Region.wanted o (yielded ops.toArray tm)=false/\v=undef)
theorem Ap.value {R}(h:s.run P w= .ok (.value v) w)(hR:R (.returned v) w):Ap P s w R:=
 fun fr cs _ _=>⟨.returned v,w,hR,Zf,fr.finish v,cs,w,by simp [stepG.apply,h],.refl P _⟩
def OW.of_yv {S}(hy:Yv P ops S o v tm)(hS:S w)(hK:K (Vn tm o.dst v) w):OW P ops o tm w K Kp:=by
 unfold OW;rcases hy with ⟨a,b⟩|⟨a,rfl⟩
 all_goals grind [Ap.value]
theorem Iz {x}(h:Ij ops x y=true):(∀ d,x.dst=some d->d∉looks ops y/\y.dst≠some d)/\(∀ d,y.dst=some d->d∉looks ops x):=by
 grind [Ij]
theorem Zjy (hok:okR ops=true){x}(hx:ops[i]? =some x)(hy:ops[j]? =some y)(hne:i≠j):onB x j=true\/onB y i=true\/Ij ops x y=true:=by
 unfold okR at hok;rw [bA] at hok;have b:=dM.1 (dM.1 hok.1 (x,i) (List.mem_zipIdx_iff_getElem?.2 hx)) (y,j) (List.mem_zipIdx_iff_getElem?.2 hy);grind
def Zqx (hok:okR ops=true)(hy:ops[j]? =some y):(∀ cs b,y.op≠ .select cs b)/\(∀ c,y.op≠ .defer c):=by
 grind [okR]
theorem Zwv (ho:ops[i]? =some o)(hr:rdy ops done i=true)(hj:onB o j=true):j∈done:=by
 unfold rdy at hr;simp only [Zf3] at hr;have ⟨e,a,b⟩:=List.any_eq_true.1 hj;grind
def WA.first (hok:okR ops=true){Li}(ho:ops[i]? =some o)(hKp: ∀ ch tm w,Kp ch (Vn tm o.dst v) w->Kp ch tm w)(hLi: ∀ e∈Li,e.1=i):
 ∀ n L done tm w,(∀ e∈Li,e∈L)->rdy ops done i=true->Yv P ops (SL Li) o v tm->SL L w->WA P ops Kend Kp n L (i::done) (Vn tm o.dst v) w->WA P ops Kend Kp (n+1) L done tm w:=by
 intro n
 have d0: ∀ {n L done tm w},(∀ e∈Li,e∈L)->Yv P ops (SL Li) o v tm->SL L w->WA P ops Kend Kp n L (i::done) (Vn tm o.dst v) w->
  OW P ops o tm w (fun t w'=>SL (cut o L) w'/\WA P ops Kend Kp n (cut o L) (i::done) t w') Kp:=fun b hy q H=>
  OW.of_yv hy (q.mono b) ⟨q.mono fun e l=>(Jq.1 l).1,H.mono _ fun e l=>(Jq.1 l).1⟩
 induction n with
 |zero=>
  intro L done tm w b p hy q H;refine ⟨fun z=>aV p (by simp [z i]),fun j a hj h=> ?_⟩;by_cases hji:j=i
  . grind
  have:=Dk h hji;rw [H.1 j] at this;cases this
 |succ n ih=>
  intro L done tm w b p hy q H;refine ⟨fun z=>aV p (by simp [z i]),fun j a hj h=> ?_⟩;by_cases hji:j=i
  . grind
  have b0:Ij ops o a=true:=by
   grind [Zjy,Zwv,rdy]
  have ⟨ha,hb⟩:=Iz b0;have s:=H.2 j a hj (Dk h hji);have a0:execOp (evA (Vn tm o.dst v)) a=execOp (evA tm) a:=Zkq (Zqx hok hj).1 fun d c=>(ha d c).1
  have y:Region.wanted a (yielded ops.toArray (Vn tm o.dst v))=Region.wanted a (yielded ops.toArray tm):=Cx fun d c=>(ha d c).1
  have e0:onB a i=false:=by
   grind [Zwv,rdy]
  have c0: ∀ u w',SL (cut a L) w'/\WA P ops Kend Kp n (cut a L) (j::i::done) (Vn (Vn tm o.dst v) a.dst u) w'->SL (cut a L) w'/\WA P ops Kend Kp (n+1) (cut a L) (j::done) (Vn tm a.dst u) w':=by
   rintro u w' ⟨m,hx⟩;refine ⟨m,ih _ (j::done) _ w' (fun e l=>Jq.2 ⟨b e l,by grind⟩) (Dk p (Ne.symm hji)) ?_ m ?_⟩
   . unfold Yv at*;rw [Cx fun d c=>hb d c,Zkq (Zqx hok ho).1 fun d c=>hb d c];exact hy
   rw [Zf4 _ _ _ (fun d c e=>(ha d e).2 c)];exact hx.congr n fun x=>by grind
  unfold OW at s|-;rw [y,a0] at s;split
  . rename_i hw;rw [if_pos hw] at s;refine s.mono fun e w' _ r=> ?_
    grind
  grind
def OW.run {r}(ho:ops[i]? =some o)(hdf: ∀ c,o.op≠ .defer c)(h:OW P ops o tm w K Kp):
 (∃ tm' w',K tm' w'/\tm'.size=tm.size/\Steps P (lone (f.fr tm ds (.inRegion ops.toArray (i::r)::k)) cs w) (lone (f.fr tm' ds (.inRegion ops.toArray r::k)) cs w'))\/
 (∃ ch w',Kp ch tm w'/\ ∃ k',Steps P (lone (f.fr tm ds (.inRegion ops.toArray (i::r)::k)) cs w) (lone { f.fr tm ds k' with mode:= .panicking ch } cs w')):=by
 have l:ops.toArray[i]? =some o:=by grind
 unfold OW at h;split at h
 . have ⟨e,w',n,p,b,d,g,q,j⟩:=h (f.fr tm ds (.inRegion ops.toArray (i::r)::k)) cs rfl trivial
   have a:step P (lone (f.fr tm ds (.inRegion ops.toArray (i::r)::k)) cs w)= .next (lone b d g):=by
    grind [step_lone_go,Jx]
   cases e with
   |returned v=>
    refine .inl ⟨Vn tm o.dst v,w',n,Yr _ _ _,?_⟩;have:=(Steps.one a).trans j;grind [Zvc,U0]
   |panicked ch=>
    refine .inr ⟨ch,w',n,.inRegion ops.toArray (i::r)::k,?_⟩;have:=(Steps.one a).trans j;grind [Zvc,Frame.raise,Fc.fr]
   |outgrown=>grind
 rename_i m;refine .inl ⟨Vn tm o.dst undef,w,h,Yr _ _ _,.one (step_lone_go ?_)⟩;rw [<-U0 f tm ds _ i r k undef l];simp [stepG,stepG.exec,Fc.fr,l,m]
def Cor (ops:List Oper)(listed:Array Bool)(done:List Nat):Prop:=listed.size=ops.length/\ ∀ j,j<ops.length->listed[j]? =some (decide (j∈done))
theorem Cor.ready (hc:Cor ops listed done)(hd: ∀ o∈ops,∀ e∈o.after,Region.binds .any e=true->e.on<ops.length)(j:Nat):j∈Region.ready .any ops.toArray listed↔rdy ops done j=true:=by
 rw [mem_ready];unfold rdy Zf3;by_cases hj:j<ops.length
 . have g:=hc.2 j hj;have c:ops[j]? =some ops[j]:=by simp [hj]
   rw [c];simp only [jC,c,Option.some.injEq,exists_eq_left',bA,Bool.not_eq_true',dM,jV]
   have f:(listed.getD j true=false)↔done.contains j=false:=by
    simp_all
   rw [f];refine and_congr_right fun _=> ?_
   constructor
   . intro h e d;by_cases a:Region.binds .any e=true
     . right
       have:=h e (by grind) a;have b:=hd _ (aC hj) e (by grind) a;simp [Array.getD_eq_getD_getElem?,hc.2 _ b] at this;grind
     grind
   intro h e d a;have b:=hd _ (aC hj) e Zq a;rcases h e (by grind) with x|x
   . grind
   simp [Array.getD_eq_getD_getElem?,hc.2 _ b];simpa using x
 grind
def Cor.set (hc:Cor ops listed done)(i:Nat):Cor ops (listed.setIfInBounds i true) (i::done):=by
 refine ⟨by simp [hc.1],fun j a=> ?_⟩;by_cases h:i=j
 . subst h;simp [hc.1,a]
 rw [Array.getElem?_setIfInBounds_ne h,hc.2 j a];grind
def WA.sound (hsel:okR ops=true)(hd: ∀ o∈ops,∀ e∈o.after,Region.binds .any e=true->e.on<ops.length): ∀ fuel t listed L done tm w,Cor ops listed done->WA P ops Kend Kp fuel L done tm w->
 (∃ tm' w',Kend tm' w'/\tm'.size=tm.size/\Steps P (lone (f.fr tm ds (.inRegion ops.toArray (Region.linearise.go .any ops.toArray fuel t listed [])::k)) cs w) (lone (f.fr tm' ds k) cs w'))\/
 (∃ ch tm' w',Kp ch tm' w'/\tm'.size=tm.size/\ ∃ k',Steps P (lone (f.fr tm ds (.inRegion ops.toArray (Region.linearise.go .any ops.toArray fuel t listed [])::k)) cs w) (lone { f.fr tm' ds k' with mode:= .panicking ch } cs w')):=by
 intro fuel
 have b: ∀ tm w,Kend tm w-> ∃ tm' w',Kend tm' w'/\tm'.size=tm.size/\Steps P (lone (f.fr tm ds (.inRegion ops.toArray []::k)) cs w) (lone (f.fr tm' ds k) cs w'):=
  fun tm w h=>⟨tm,w,h,rfl,.one (step_lone_go (by simp [stepG,stepG.exec,Fc.fr]))⟩
 induction fuel with
 |zero=>exact fun t listed L done tm w _ h=> .inl (by simpa [Region.linearise.go] using b tm w h.2)
 |succ fuel ih=>
  intro t listed L done tm w v h;simp only [Region.linearise.go]
  have u:(match (Region.ready .any ops.toArray listed)[t % (Region.ready .any ops.toArray listed).length]? with
   |some i=>Region.linearise.go .any ops.toArray fuel (t / (Region.ready .any ops.toArray listed).length) (listed.setIfInBounds i true) [i]
   |none=> [].reverse)=(match (Region.ready .any ops.toArray listed)[t % (Region.ready .any ops.toArray listed).length]? with
   |some i=>i::Region.linearise.go .any ops.toArray fuel (t / (Region.ready .any ops.toArray listed).length) (listed.setIfInBounds i true) []
   |none=> []):=by
   grind [linearise_go_acc]
  change (∃ tm' w',Kend tm' w'/\tm'.size=tm.size/\Steps P (lone (f.fr tm ds (.inRegion ops.toArray (match (Region.ready .any ops.toArray listed)[t % (Region.ready .any ops.toArray listed).length]? with
   |some i=>Region.linearise.go .any ops.toArray fuel (t / (Region.ready .any ops.toArray listed).length) (listed.setIfInBounds i true) [i]
   |none=> [].reverse)::k)) cs w) (lone (f.fr tm' ds k) cs w'))\/(∃ ch tm' w',Kp ch tm' w'/\tm'.size=tm.size/\ ∃ k',Steps P (lone (f.fr tm ds (.inRegion ops.toArray (match (Region.ready .any ops.toArray listed)[t % (Region.ready .any ops.toArray listed).length]? with
   |some i=>Region.linearise.go .any ops.toArray fuel (t / (Region.ready .any ops.toArray listed).length) (listed.setIfInBounds i true) [i]
   |none=> [].reverse)::k)) cs w) (lone { f.fr tm' ds k' with mode:= .panicking ch } cs w'))
  rw [u]
  cases hi:(Region.ready .any ops.toArray listed)[t % (Region.ready .any ops.toArray listed).length]? with
  |none=>
   have z:Region.ready .any ops.toArray listed= []:=by
    cases y:Region.ready .any ops.toArray listed<;>grind [Region.ready,Nat.mod_lt]
   refine .inl (b tm w (h.1 fun j=> ?_))
   cases hj:rdy ops done j with
   |false=>rfl
   |true=>have:=(v.ready hd j).2 hj;grind
  |some i=>
   dsimp only;have y:=(v.ready hd i).1 (gC hi)
   have p: ∃ o,ops[i]? =some o:=by
    grind [rdy]
   obtain ⟨o,p⟩:=p;rcases OW.run (f:=f) (k:=k) (ds:=ds) (cs:=cs) (r:=Region.linearise.go .any ops.toArray fuel (t / (Region.ready .any ops.toArray listed).length) (listed.setIfInBounds i true) []) p (Zqx hsel p).2 (h.2 i o p y) with ⟨tm',w',⟨_,hW⟩,n,d⟩|⟨ch,w',hk,k',d⟩
   . rcases ih (t / (Region.ready .any ops.toArray listed).length) _ _ _ tm' w' (v.set i) hW with ⟨c,s,x,g,a⟩|⟨ch,c,s,x,g,k',a⟩
     . exact .inl ⟨c,s,x,g.trans n,d.trans a⟩
     exact .inr ⟨ch,c,s,x,g.trans n,k',d.trans a⟩
   grind
def HL (q:List HP):Rds->Prop
 | []=>True
 |(_,b,o,v)::r=>Cl q ⟨b,o,none⟩ v/\HL q r
def HL.sl (h:HL q L)(s:St G w q):SL L w:=by
 induction L with
 |nil=>intro e a;cases a
 |cons x r ih=>
  intro e a;rcases bS.1 a with rfl|a
  . exact h.1 G w s
  exact ih h.2 e a
section rules
variable {Q:Yp}{n:Nat}
def Kp' (G:World)(Q:Yp)(n:Nat)(pk:PE)(ds:List Deferred)(cs:List Frame)(ch:List PanicEntry)(tm:Array Value)(w:World):Prop:=tm.size=n/\Agr tm pk/\ ∃ q',Q (.panic ch) pk ds cs q'/\St G w q'
def Ke' (P:Program)(G:World)(f:Fc)(Q:Yp)(k:List Item)(ds:List Deferred)(cs:List Frame)(tm:Array Value)(w:World):Prop:=
 tm.size=f.n-> ∃ o tm' p' ds' cs' w' q',Q o p' ds' cs' q'/\tm'.size=f.n/\Agr tm' p'/\St G w' q'/\Arr P f (lone (f.fr tm ds k) cs w) o tm' ds' cs' w'
def XD (P:Program)(G:World)(f:Fc)(Q:Yp)(ops:List Oper)(k:List Item)(pk:PE)(L:Rds)(n:Nat)(done:List Nat)(p:PE)(ds:List Deferred)(cs:List Frame)(q:List HP):Prop:=
 okR ops=true->Bw ops pk=true-> ∀ tm w,tm.size=f.n->Agr tm p->St G w q->SL L w->WA P ops (Ke' P G f Q k ds cs) (Kp' G Q f.n pk ds cs) n L done tm w
def Pt (ops:List Oper):Bool:=ops.all fun o=>o.after.toList.all fun e=>Nat.blt e.on ops.length
def X.draw {id}(pk:PE)(hm:P.follows .mixedOrders=true)(h1:okR ops=true)(h2:Pt ops=true)(h3:Bw ops pk=true)
 (x:XD P G f Q ops k pk [] ops.length [] p ds cs q):X P G f Q (.code (.region id ops.toArray true)::k) p ds cs q:=by
 intro tm w u ag s
 have hd: ∀ o∈ops,∀ e∈o.after,Region.binds .any e=true->e.on<ops.length:=by
  intro o ho e v _;have:=dM.1 (dM.1 h2 o ho) e (by grind);simp_all
 have s':St G { w with drawn:=w.drawn+1 } q:=s.same rfl rfl rfl rfl
 have y:Go.step P (lone (f.fr tm ds (.code (.region id ops.toArray true)::k)) cs w)=
  .next (lone (f.fr tm ds (.inRegion ops.toArray (Region.linearise.go .any ops.toArray ops.length (w.tape w.drawn (.order f.fn id)) (Array.replicate ops.length false) [])::k)) cs { w with drawn:=w.drawn+1 }):=
  step_lone_go (by simp [stepG,stepG.exec,Fc.fr,Sem.run,Question.forced,Question.cut,Region.schedule,hm,Region.linearise])
 have hc:Cor ops (Array.replicate ops.length false) []:=⟨Zf,fun j hj=>by simp [hj]⟩;rcases WA.sound h1 hd ops.length _ _ [] [] tm _ hc (x h1 h3 tm _ u ag s' (fun e v=>by cases v)) with ⟨g,w',m,h,d⟩|⟨ch,g,w',m,h,k',d⟩
 . have ⟨o,i,p2,n,r,z,q2,l,a,b,c,t⟩:=m (h.trans u);exact ⟨o,i,p2,n,r,z,q2,l,a,b,c,t.head ((Steps.one y).trans d)⟩
 have ⟨h4,h5,q',l,hs⟩:=m;exact ⟨.panic ch,g,pk,ds,cs,w',q',l,h4,h5,hs,Arr.head ((Steps.one y).trans d) ⟨k',.refl P _⟩⟩
theorem XD.nil (x:X P G f Q k p ds cs q)(h:(List.range ops.length).all (done.contains ·)=true:=by rfl):XD P G f Q ops k pk L 0 done p ds cs q:=by
 intro _ _ tm w a b s c;refine ⟨fun j=> ?_,fun _=>x tm w a b s⟩;grind [rdy]
def XD.le {q'}(h:Le q q')(x:XD P G f Q ops k pk L n done p ds cs q'):XD P G f Q ops k pk L n done p ds cs q:=fun a b tm w hn ag s hs=>x a b tm w hn ag (s.le h) hs
theorem XD.sub {p'}(h:SubP p' p)(x:XD P G f Q ops k pk L n done p' ds cs q):XD P G f Q ops k pk L n done p ds cs q:=fun a b tm w hn ag s hs=>x a b tm w hn (ag.sub h) s hs
def XD.ex {α}{A:α->HP}(x: ∀ y,XD P G f Q ops k pk L n done p ds cs (A y::q)):XD P G f Q ops k pk L n done p ds cs (Wx.ex A::q):=fun a b tm w hn ag s hs=>let ⟨y,s'⟩:=s.get_ex;x y a b tm w hn ag s' hs
def XD.know (s:Nat)(u:Value)(h:lkp p s=some v)(e:v=u)(K:XD P G f Q ops k pk L n done ((s,u)::p) ds cs q):XD P G f Q ops k pk L n done p ds cs q:=by
 refine fun a b tm w g i st d=>K a b tm w g (fun j c l=>i j c ?_) st d
 grind [lkp,Nat.eq_of_beq_eq_true]
abbrev dW:=@XD.know
def XD.part (s:Nat){t}(h:lkp p s=some (.bool t))(ht:t=true->XD P G f Q ops k pk L n done ((s,.bool true)::p) ds cs q)
 (hf:t=false->XD P G f Q ops k pk L n done ((s,.bool false)::p) ds cs q):XD P G f Q ops k pk L n done p ds cs q:=by
 cases t with
 |true=>exact .know s _ h rfl (ht rfl)
 |false=>exact .know s _ h rfl (hf rfl)
abbrev eY:=@XD.part
def Agr.of_put (h: ∀ e,d=some e->p.all (fun x=> !(x.1==e))=true)(a:Agr (Vn tm d v) p):Agr tm p:=by
 intro t u e;have:=a t u e
 cases d with
 |none=>exact this
 |some d=>
  have b:d≠t:=by
   rintro rfl
   have: ∀ (l:PE),l.all (fun x=> !(x.1==d))=true->lkp l d=none:=by
    intro l
    induction l<;>grind [lkp,Nat.eq_of_beq_eq_true]
   grind
  simp_all [Vn]
def Zgv (h:Bw ops pk=true)(ho:ops[i]? =some o): ∀ e,o.dst=some e->pk.all (fun x=> !(x.1==e))=true:=by
 intro e a;have:=dM.1 h o (gC ho);grind
def Kp'.of_put (h3:Bw ops pk=true)(ho:ops[i]? =some o)(ch:List PanicEntry)(tm:Array Value)(w:World)(h:Kp' G Q f.n pk ds cs ch (Vn tm o.dst v) w):Kp' G Q f.n pk ds cs ch tm w:=by
 have ⟨a,b,c⟩:=h;exact ⟨by rwa [Yr] at a,b.of_put (Zgv h3 ho),c⟩
abbrev kW:=@Kp'.of_put
def XD.pu_ (i:Nat)(ho:ops[i]? =some o)(h:Pu P p o v)(K:XD P G f Q ops k pk L n (i::done) (Jt p o.dst v) ds cs q)
 (hr:rdy ops done i=true:=by rfl) (hw:Wt ops p o=some true:=by rfl) (hd:dOk f.n o.dst=true:=by rfl):XD P G f Q ops k pk L (n+1) done p ds cs q:=
 fun a b tm w j d s g=>WA.first (Li:= []) a ho (fun l tm w=>kW b ho l tm w) (fun e c=>by cases c) n L done tm w (fun e c=>by cases c) hr (.inl ⟨Y6 d hw,fun w' _=>h tm w' d⟩) g
  (K a b _ w (by rw [Yr];exact j) (d.put (j ▸ hd)) s g)
def XD.pass_ (i:Nat)(ho:ops[i]? =some o)(K:XD P G f Q ops k pk L n (i::done) (Jt p o.dst undef) ds cs q)
 (hr:rdy ops done i=true:=by rfl) (hw:Wt ops p o=some false:=by rfl) (hd:dOk f.n o.dst=true:=by rfl):XD P G f Q ops k pk L (n+1) done p ds cs q:=
 fun a b tm w g h s d=>WA.first (Li:= []) a ho (fun j tm w=>kW b ho j tm w) (fun e c=>by cases c) n L done tm w (fun e c=>by cases c) hr (.inr ⟨Y6 h hw,rfl⟩) d
  (K a b _ w (by rw [Yr];exact g) (h.put (g ▸ hd)) s d)
def XD.load (i:Nat){d}{t}{x}{ty}{b o}(ho:ops[i]? =some ⟨some d,.load t x,ty,pos,af,gd⟩)
 (hx:evp p x=some (.pointer (some ⟨b,o,none⟩))) (ht: ∀ w,(isAgg t).run P w= .ok false w) (hc:Cl q ⟨b,o,none⟩ v) (K:XD P G f Q ops k pk ((i,b,o,v)::L) n (i::done) ((d,v)::p) ds cs q)
 (hr:rdy ops done i=true:=by rfl) (hw:Wt ops p ⟨some d,.load t x,ty,pos,af,gd⟩=some true:=by rfl) (hd:Nat.blt d f.n=true:=by rfl):XD P G f Q ops k pk L (n+1) done p ds cs q:=by
 intro a r tm w m l s u
 have j:SL ((i,b,o,v)::L) w:=by
  intro e c;rcases bS.1 c with rfl|c
  . exact hc G w s
  exact u e c
 apply WA.mono _ (fun e c=>bQ _ c)
 refine WA.first (Li:= [(i,b,o,v)]) a ho (fun y tm w=>kW r ho y tm w) (fun e c=>by rw [bE.1 c]) n _ done tm w (fun e c=>by grind) hr (.inl ⟨Y6 l hw,fun w' h=> ?_⟩) j
  (K a r _ w (by rw [Yr];exact m) (Agr.put l (m ▸ hd)) s j)
 simp [execOp,Zu l hx,Instr.loadAt,Instr.sureAddr,loadVar,ht,h _ bO]
def XD.rdL (i:Nat)(ho:ops[i]? =some o)(L':Rds)(hi:L'.all (fun e=>Nat.beq e.1 i)=true)(hL:HL q L')(h: ∀ tm w,Agr tm p->SL L' w->(execOp (evA tm) o).run P w= .ok (.value v) w)(K:XD P G f Q ops k pk (L'++L) n (i::done) (Jt p o.dst v) ds cs q)
 (hr:rdy ops done i=true:=by rfl) (hw:Wt ops p o=some true:=by rfl) (hd:dOk f.n o.dst=true:=by rfl):XD P G f Q ops k pk L (n+1) done p ds cs q:=by
 intro a m tm w l j s r
 have c:SL (L'++L) w:=by
  intro e b;rcases bP.1 b with b|b
  . exact (hL.sl s) e b
  exact r e b
 apply WA.mono _ (fun e b=>gT _ b)
 exact WA.first a ho (fun t tm w=>kW m ho t tm w) (fun e b=>cS (dM.1 hi e b)) n _ done tm w (fun e b=>eZ _ b) hr (.inl ⟨Y6 j hw,fun w' d=>h tm w' j d⟩) c
  (K a m _ w (by rw [Yr];exact l) (j.put (l ▸ hd)) s c)
def Ut (ops:List Oper)(done:List Nat)(i:Nat):Bool:=(List.range ops.length).all fun j=>j==i|| !rdy ops done j
def XD.one {R:Ending->List HP->Prop}(i:Nat)(ho:ops[i]? =some o)(h: ∀ tm w,Agr tm p->St G w q->Ap P (execOp (evA tm) o) w fun e w'=> ∃ q',R e q'/\St G w' q')
 (K: ∀ v q',R (.returned v) q'->HL q' (cut o L)/\XD P G f Q ops k pk (cut o L) n (i::done) (Jt p o.dst v) ds cs q') (Kp: ∀ ch q',R (.panicked ch) q'->Q (.panic ch) pk ds cs q'/\SubP pk p)
 (h1:Ut ops done i=true:=by rfl) (hr:rdy ops done i=true:=by rfl) (hw:Wt ops p o=some true:=by rfl) (hd:dOk f.n o.dst=true:=by rfl):XD P G f Q ops k pk L (n+1) done p ds cs q:=by
 intro a h3 tm w g d s hs;refine ⟨fun b=>aV hr (by simp [b i]),fun j oj m u=> ?_⟩
 have l:j=i:=by
  have:=dM.1 h1 j (by grind);grind
 subst l;rw [ho] at m;cases m
 unfold OW;rw [if_pos (Y6 d hw)];refine (h tm w d s).mono fun e w' z ⟨q',t,c⟩=> ?_
 cases e with
 |returned v=>
  have ⟨r,x⟩:=K v q' t;exact ⟨r.sl c,x a h3 _ w' (by rw [Yr];exact g) (d.put (g ▸ hd)) c (r.sl c)⟩
 |panicked ch=>
  have ⟨hQ,y⟩:=Kp ch q' t;exact ⟨g,d.sub y,q',hQ,c⟩
 |outgrown=>grind
def Ap.skip {R}(h:s.run P w= .ok .skip w')(hR:R (.returned undef) w'):Ap P s w R:=
 fun fr cs _ _=>⟨.returned undef,w',hR,Zf,fr.finish undef,cs,w',by simp [stepG.apply,h],.refl P _⟩
def Zh4 {R}(h:s.run P w= .ok (.value v) w')(hR:R (.returned v) w'):Ap P s w R:=
 fun fr cs _ _=>⟨.returned v,w',hR,Zf,fr.finish v,cs,w',by simp [stepG.apply,h],.refl P _⟩
def Ef.ap (h:Ef P G p q o R)(tm:Array Value)(w:World)(ag:Agr tm p)(s:St G w q):Ap P (execOp (evA tm) o) w fun e w'=> ∃ q',Ret R e q'/\St G w' q':=by
 have ⟨v,w',q',a,b,c⟩:=h tm w ag s;rcases a with a|⟨rfl,a⟩
 . exact Zh4 a ⟨q',⟨v,rfl,c⟩,b⟩
 exact Ap.skip a ⟨q',⟨undef,rfl,c⟩,b⟩
def XD.ef_ (i:Nat)(ho:ops[i]? =some o)(h:Ef P G p q o R)(K: ∀ v q',R v q'->HL q' (cut o L)/\XD P G f Q ops k pk (cut o L) n (i::done) (Jt p o.dst v) ds cs q')
 (h1:Ut ops done i=true:=by rfl) (hr:rdy ops done i=true:=by rfl) (hw:Wt ops p o=some true:=by rfl) (hd:dOk f.n o.dst=true:=by rfl):XD P G f Q ops k pk L (n+1) done p ds cs q:=
 .one i ho (fun tm w a s=>h.ap tm w a s) (fun v q' ⟨_,e,r⟩=>by grind) (fun b q' ⟨_,e,_⟩=>by cases e) h1 hr hw hd
def G8 {ats}{ty}(ag:Agr tm p)
 (hf:evp p fo=some fv) (hv:evl p args=some vs):execOp (evA tm) ⟨d,.call ⟨.value fo,args.toArray,ats⟩,ty,pos,af,gd⟩=(do let d<-Deferred.ofValue fv vs.toArray;invoke d.target d.args):=by
 simp only [execOp,resolve,Zu ag hf];have:(args.toArray.map (evA tm))=vs.toArray:=by rw [<-(Rw ag hv)];simp
 rw [this]
def XD.call_ (i:Nat){ats}{ty}
     (ho:ops[i]? =some ⟨d,.call ⟨.value fo,args.toArray,ats⟩,ty,pos,af,gd⟩)
 (hf:evp p fo=some fv) (hv:evl p args=some vs) (hc:CallV P G fv vs pre (Ret R)) (hq:Le q (pre++F))
 (K: ∀ v q',R v q'-> ∀ q'',q''=q'++F->HL q'' (cut ⟨d,.call ⟨.value fo,args.toArray,ats⟩,ty,pos,af,gd⟩ L)/\XD P G f Q ops k pk (cut ⟨d,.call ⟨.value fo,args.toArray,ats⟩,ty,pos,af,gd⟩ L) n (i::done) (Jt p d v) ds cs q'')
 (h1:Ut ops done i=true:=by rfl) (hr:rdy ops done i=true:=by rfl) (hw:Wt ops p ⟨d,.call ⟨.value fo,args.toArray,ats⟩,ty,pos,af,gd⟩=some true:=by rfl) (hd:dOk f.n d=true:=by rfl):XD P G f Q ops k pk L (n+1) done p ds cs q:=
 .one (R:=fun e q''=> ∃ q',Ret R e q'/\q''=q'++F) i ho (fun tm w c s=>by
  rw [G8 c hf hv];exact (hc F w (s.le hq)).mono fun e w' _ ⟨q',b,a⟩=>⟨q'++F,⟨q',b,rfl⟩,a⟩)
  (fun v q'' ⟨q',⟨_,e,r⟩,e'⟩=>by grind) (fun g q'' ⟨_,⟨_,e,_⟩,_⟩=>by cases e) h1 hr hw hd
def XD.callF_ (i:Nat){ats}{ty}
    (hcf: ∀ args w,(callFunc fn args).run P w= .ok (.enter fn args) w) (hc:CallF P G fn vs pre (Ret R)) (ho:ops[i]? =some ⟨d,.call ⟨.value (.func fn),args.toArray,ats⟩,ty,pos,af,gd⟩)
 (hv:evl p args=some vs) (hq:Le q (pre++F))
 (K: ∀ v q',R v q'-> ∀ q'',q''=q'++F->HL q'' (cut ⟨d,.call ⟨.value (.func fn),args.toArray,ats⟩,ty,pos,af,gd⟩ L)/\XD P G f Q ops k pk (cut ⟨d,.call ⟨.value (.func fn),args.toArray,ats⟩,ty,pos,af,gd⟩ L) n (i::done) (Jt p d v) ds cs q'')
 (h1:Ut ops done i=true:=by rfl) (hr:rdy ops done i=true:=by rfl) (hw:Wt ops p ⟨d,.call ⟨.value (.func fn),args.toArray,ats⟩,ty,pos,af,gd⟩=some true:=by rfl) (hd:dOk f.n d=true:=by rfl):XD P G f Q ops k pk L (n+1) done p ds cs q:=
 .call_ i ho rfl hv (Yh hcf (by simpa using hc)) hq K h1 hr hw hd
def XD.call (i:Nat){d}{ats}{ty}
     (ho:ops[i]? =some ⟨some d,.call ⟨.value fo,args.toArray,ats⟩,ty,pos,af,gd⟩)
 (hf:evp p fo=some fv) (hv:evl p args=some vs) (hc:CallV P G fv vs pre (Ret R)) (hq:Le q (pre++F))
 (K: ∀ v q',R v q'-> ∀ q'',q''=q'++F->HL q'' (cut ⟨some d,.call ⟨.value fo,args.toArray,ats⟩,ty,pos,af,gd⟩ L)/\XD P G f Q ops k pk (cut ⟨some d,.call ⟨.value fo,args.toArray,ats⟩,ty,pos,af,gd⟩ L) n (i::done) ((d,v)::p) ds cs q'')
 (h1:Ut ops done i=true:=by rfl) (hr:rdy ops done i=true:=by rfl) (hw:Wt ops p ⟨some d,.call ⟨.value fo,args.toArray,ats⟩,ty,pos,af,gd⟩=some true:=by rfl) (hd:Nat.blt d f.n=true:=by rfl):XD P G f Q ops k pk L (n+1) done p ds cs q:= .call_ i ho hf hv hc hq K h1 hr hw hd
def XD.callF (i:Nat){d}{ats}{ty}
    (hcf: ∀ args w,(callFunc fn args).run P w= .ok (.enter fn args) w) (hc:CallF P G fn vs pre (Ret R)) (ho:ops[i]? =some ⟨some d,.call ⟨.value (.func fn),args.toArray,ats⟩,ty,pos,af,gd⟩)
 (hv:evl p args=some vs) (hq:Le q (pre++F))
 (K: ∀ v q',R v q'-> ∀ q'',q''=q'++F->HL q'' (cut ⟨some d,.call ⟨.value (.func fn),args.toArray,ats⟩,ty,pos,af,gd⟩ L)/\XD P G f Q ops k pk (cut ⟨some d,.call ⟨.value (.func fn),args.toArray,ats⟩,ty,pos,af,gd⟩ L) n (i::done) ((d,v)::p) ds cs q'')
 (h1:Ut ops done i=true:=by rfl) (hr:rdy ops done i=true:=by rfl) (hw:Wt ops p ⟨some d,.call ⟨.value (.func fn),args.toArray,ats⟩,ty,pos,af,gd⟩=some true:=by rfl) (hd:Nat.blt d f.n=true:=by rfl):XD P G f Q ops k pk L (n+1) done p ds cs q:= .callF_ i hcf hc ho hv hq K h1 hr hw hd
section
variable {d:Tmp}{op:Op}{ty:TypeId}
def Ey (i:Nat)(ho:ops[i]? =some ⟨some d,op,ty,pos,af,gd⟩)(h:Pu P p ⟨some d,op,ty,pos,af,gd⟩ v)(K:XD P G f Q ops k pk L n (i::done) ((d,v)::p) ds cs q)
 (hr:rdy ops done i=true:=by rfl) (hw:Wt ops p ⟨some d,op,ty,pos,af,gd⟩=some true:=by rfl) (hd:Nat.blt d f.n=true:=by rfl):XD P G f Q ops k pk L (n+1) done p ds cs q:= .pu_ i ho h K hr hw hd
def XD.ef (i:Nat)(ho:ops[i]? =some ⟨some d,op,ty,pos,af,gd⟩)(h:Ef P G p q ⟨some d,op,ty,pos,af,gd⟩ R)(K: ∀ v q',R v q'->HL q' (cut ⟨some d,op,ty,pos,af,gd⟩ L)/\XD P G f Q ops k pk (cut ⟨some d,op,ty,pos,af,gd⟩ L) n (i::done) ((d,v)::p) ds cs q')
 (h1:Ut ops done i=true:=by rfl) (hr:rdy ops done i=true:=by rfl) (hw:Wt ops p ⟨some d,op,ty,pos,af,gd⟩=some true:=by rfl) (hd:Nat.blt d f.n=true:=by rfl):XD P G f Q ops k pk L (n+1) done p ds cs q:= .ef_ i ho h K h1 hr hw hd
abbrev eT:=@XD.ef
def XD.ef0 (i:Nat)(ho:ops[i]? =some ⟨none,op,ty,pos,af,gd⟩)(h:Ef P G p q ⟨none,op,ty,pos,af,gd⟩ R)(K: ∀ v q',R v q'->HL q' (cut ⟨none,op,ty,pos,af,gd⟩ L)/\XD P G f Q ops k pk (cut ⟨none,op,ty,pos,af,gd⟩ L) n (i::done) p ds cs q')
 (h1:Ut ops done i=true:=by rfl) (hr:rdy ops done i=true:=by rfl) (hw:Wt ops p ⟨none,op,ty,pos,af,gd⟩=some true:=by rfl):XD P G f Q ops k pk L (n+1) done p ds cs q:= .ef_ i ho h K h1 hr hw rfl
abbrev gL:=@XD.ef0
end
end rules
end
section
variable {a:Option Addr}{c ty sz n o i k m bytes:Nat}{vs l us cells:List Value}{h:Hp}{G w:World}{q:List HP}{u z:Value}{P:Program}{p:PE}{todo:List Item}{φ:Prop}{ps:List (Nat×Operand)}{kd:IntKind}{fs:Array Field}
def slP (a:Option Addr)(c:Nat)(ty sz n:Nat)(vs:List Value)(h:Hp):Prop:=
 vs.length=n*sz/\((a=none/\c=0/\n=0)\/ ∃ g cur,a=some ⟨g,0,none⟩/\n<=c/\c<=maxLen/\cur.size=c*sz/\cur.toList.take (n*sz)=vs/\h g=some (.cells cur ty (0,0)))
def slP.mono {h'}(e:Hle h h')(p:slP a c ty sz n vs h):slP a c ty sz n vs h':=by
 refine ⟨p.1,p.2.imp id ?_⟩;rintro ⟨g,b,l,k,j,i,f,d⟩;exact ⟨g,b,l,k,j,i,f,e _ _ d⟩
def slH (a:Option Addr)(c:Nat)(ty sz n:Nat)(vs:List Value):HP:=⟨fun _ h=>slP a c ty sz n vs h,fun _ e p=>p.mono e⟩
def slM (a:Option Addr)(c:Nat)(ty sz n:Nat)(vs:List Value):HP:=⟨fun M _=>slP a c ty sz n vs M,fun e _ p=>p.mono e⟩
def St.slH_elim (s:St G w (slH a c ty sz n vs::q)):vs.length=n*sz/\((a=none/\c=0/\n=0/\St G w q)\/
 ∃ g cur,a=some ⟨g,0,none⟩/\n<=c/\c<=maxLen/\cur.size=c*sz/\cur.toList.take (n*sz)=vs/\St G w (pto g (.cells cur ty (0,0))::q)):=by
 have sq:St G w q:=s.le (.drop _ _);have ⟨bl,M,h,m,l,k,j,i,f,e,dj,d,b,⟨z,y⟩,o⟩:=s;refine ⟨z,?_⟩;rcases y with ⟨rfl,rfl,rfl⟩|⟨g,cur,x,v,u,t,r,p⟩
 . grind
 exact .inr ⟨g,cur,x,v,u,t,r,bl,M,h,m,l,k,j,i,f,e,dj,d,b,p,o⟩
def Yo {g}{cur}(h1:n<=c)(h2:c<=maxLen)(h3:cur.size=c*sz)(h4:cur.toList.take (n*sz)=vs)(q:List HP):
 Le (pto g (.cells cur ty (0,0))::q) (slH (some ⟨g,0,none⟩) c ty sz n vs::q):=
 .one fun M x p=>⟨by grind [Nat.mul_le_mul_right],.inr ⟨g,cur,rfl,h1,h2,h3,h4,p⟩⟩
def Nw (ty sz:Nat)(q:List HP):Le q (slH none 0 ty sz 0 []::q):=
 fun M h p=>⟨fun _=>none,h,fun _=> .inl rfl,fun _ _ e=>by simp at e,.refl _,⟨Zf,.inl ⟨rfl,rfl,rfl⟩⟩,p⟩
def Sees (q:List HP)(a:Option Addr)(vs:List Value):Prop:= ∀ G w,St G w q-> ∀ i u,vs[i]? =some u-> ∃ b o,a=some ⟨b,o,none⟩/\w.cell? ⟨b,o+i,none⟩=some u
def slP.sees (p:slP a c ty sz n vs h)(hw: ∀ b o,h b=some o->w.heap[b]? =some o): ∀ i u,vs[i]? =some u-> ∃ b o,a=some ⟨b,o,none⟩/\w.cell? ⟨b,o+i,none⟩=some u:=by
 intro i u f;have ⟨e,d⟩:=p;grind [World.cell?]
def Sees.slH (q:List HP):Sees (slH a c ty sz n vs::q) a vs:=by
 rintro G _ ⟨_,M,h,j,i,_,_,_,g,f,_,d,_,p,_⟩;exact slP.sees p fun b o e=>i _ _ (d _ _ e)
def Sees.le {q'}(h:Sees q' a vs)(l:Le q q'):Sees q a vs:=fun G w s=>h G w (s.le l)
def Sees.there {A}(h:Sees q a vs):Sees (A::q) a vs:=h.le (.drop _ _)
def Sees.cl {b}(h:Sees q (some ⟨b,o,none⟩) vs)(hi:vs[i]? =some u):Cl q ⟨b,o+i,none⟩ u:=fun G w s=>by
 have ⟨c,o',e,a⟩:=h G w s i u hi;grind
def Sees.take (h:Sees q a vs)(k:Nat):Sees q a (vs.take k):=fun G w s i u b=>by
 rw [kB] at b;split at b
 . exact h G w s i u b
 cases b
def I7 (a:Option Addr)(c l s:Nat):Option Addr:=if c=l then a else a.map (·.add (l*s))
def Sees.suf {l}(h:Sees q a vs)(hn:vs.length<=c*sz):Sees q (I7 a c l sz) (vs.drop (l*sz)):=fun G w s i u d=>by
 rw [lP] at d;obtain ⟨b,o,rfl,e⟩:=h G w s _ u d;grind [I7,Vu]
def St.slFreeze (s:St G w (Wx.slH a c ty sz n vs::q)):St G w (Wx.slM a c ty sz n vs::q):=by
 obtain ⟨f,h|⟨g,d,m,l,k,j,i,b⟩⟩:=s.slH_elim
 . obtain ⟨rfl,rfl,rfl,b⟩:=h;refine b.le fun M h p=>⟨fun _=>none,h,fun _=> .inl rfl,fun _ _ e=>by simp at e,.refl _,⟨f,.inl ⟨rfl,rfl,rfl⟩⟩,p⟩
 exact b.freeze.le (.one fun M x p=>⟨f,.inr ⟨g,d,m,l,k,j,i,p⟩⟩)
def St.slLen (s:St G w (Wx.slH a c ty sz n vs::q)):vs.length=n*sz/\n<=c/\c<=maxLen:=by
 obtain ⟨l,h|⟨g,b,k,j,i,f,e,d⟩⟩:=s.slH_elim
 all_goals omega
section
variable {f:Fc}{Q:Yp}{k:List Item}{ds:List Deferred}{cs:List Frame}{ops:List Oper}{l:List Oper}
def X.fact (h: ∀ w,St G w q->φ)(x:φ->X P G f Q todo p ds cs q):X P G f Q todo p ds cs q:=fun tm w hn ag s=>x (h w s) tm w hn ag s
abbrev gW:=@X.fact
def XO.fact (h: ∀ w,St G w q->φ)(x:φ->XO P G f Q ops.toArray k l p ds cs q):XO P G f Q ops.toArray k l p ds cs q:=fun is e=> .fact h fun y=>x y is e
def XD.fact {pk}{L}{done}(h: ∀ w,St G w q->φ)(x:φ->XD P G f Q ops k pk L m done p ds cs q):XD P G f Q ops k pk L m done p ds cs q:=fun a b tm w hn ag s hs=>x (h w s) a b tm w hn ag s hs
def Sees.addr (hs:Sees q a vs)(h:0<vs.length)(s:St G w q): ∃ b o,a=some ⟨b,o,none⟩:=
 let ⟨b,o,e,_⟩:=hs G w s 0 vs[0] (by simp);⟨b,o,e⟩
def X.addr (hs:Sees q a vs)(h:0<vs.length)(x: ∀ b o,a=some ⟨b,o,none⟩->X P G f Q todo p ds cs q):X P G f Q todo p ds cs q:=
 .fact (fun w s=>hs.addr h s) fun ⟨b,o,e⟩=>x b o e
def XO.addr (hs:Sees q a vs)(h:0<vs.length)(x: ∀ b o,a=some ⟨b,o,none⟩->XO P G f Q ops.toArray k l p ds cs q):XO P G f Q ops.toArray k l p ds cs q:=
 .fact (fun w s=>hs.addr h s) fun ⟨b,o,e⟩=>x b o e
end
section facts
variable {r:List HP}{d:Option Tmp}{ty:TypeId}{pos:String}{af:Array Edge}{gd:Option (Nat×Bool)}{v:Value}{x y:Operand}{b:Option Addr}{c':Nat}{ws:List Value}{t e:TypeId}
def Jj (hs: ∀ i u,ws[i]? =some u-> ∃ b' o,b=some ⟨b',o,none⟩/\w.cell? ⟨b',o+i,none⟩=some u)(hm:ws.length=m*sz)(hsz:0<sz):
 (m=0/\ws= [])\/ ∃ ad:Addr,b=some ad/\ ∀ j u,ws[j]? =some u->w.cell? (ad.add j)=some u:=by
 by_cases h0:m=0
 . simp_all
 right
 have a:0<ws.length:=by simp_all;omega
 obtain ⟨b',o,rfl,_⟩:=hs 0 ws[0] (by simp);grind [Vu]
def zip_ev {α β γ:Type}(ps:List (α×β))(g:β->γ):(ps.toArray.map fun (i,x)=>(i,g x)).toList=(ps.map (·.1)).zip ((ps.map (·.2)).map g):=by
 grind
def Qm {bi}{l}{ats}{tm}(ag:Agr tm p)(hv:evl p l=some us):
 execOp (evA tm) ⟨d,.call ⟨.builtin bi,l.toArray,ats⟩,ty,pos,af,gd⟩=builtin bi ats ty (l.toArray.map fun| .const _=>true|_=>false) us.toArray:=by
 have a:=Rw ag hv;simp only [execOp,resolve];have:(l.toArray.map (evA tm))=us.toArray:=by grind
 rw [this];rfl
def Ef.append (ht:P.underlying t=some (.slice e))(hi:(P.info? e).map (fun i=>(i.zero,i.size,i.bytes))=some (some z,sz,bytes))(hz:z.cells.size=sz)(hsz:Nat.blt 0 sz=true)
 (hx:evp p x=some (.slice a i c)) (hy:evp p y=some (.slice b m c')) (hq:Le q (slH a c e sz n vs::r)) (hin:i<=n) (hs:Sees q b ws) (hm:ws.length=m*sz) (h1: ∀ u∈ws,u.oneCell'=true)
 (h63:i+m<=9223372036854775807) (hby:(i+m)*bytes<=140737488355328):
 Ef P G p q ⟨d,.call ⟨.builtin .append, [x,y].toArray, [t,t].toArray⟩,ty,pos,af,gd⟩ fun v q'=> ∃ a' c',v= .slice a' (i+m) c'/\q'=slH a' c' e sz (i+m) (vs.take (i*sz)++ws)::r:=by
 have ⟨I,hI,e1,e2,e3⟩:=info_parts hi;have k0:0<sz:=by simpa [gX] using hsz
 subst e2;subst e3;intro tm w ag s;have s0:evl p [x,y]=some [.slice a i c,.slice b m c']:=by simp [evl,hx,hy]
 have r0:=Qm (d:=d) (ty:=ty) (pos:=pos) (af:=af) (gd:=gd) (bi:= .append) (ats:= [t,t].toArray) ag s0;rw [r0]
 have k: ∀ v w',(Builtin.append_ #[t,t] ty #[.slice a i c,.slice b m c']).run P w= .ok v w'->(builtin .append [t,t].toArray ty ([x,y].toArray.map fun| .const _=>true|_=>false) [.slice a i c,.slice b m c'].toArray).run P w= .ok (.value v) w':=by
  intro v w' h;simp [builtin,h]
 have c0:=Jj (hs G w s) hm k0;have ⟨d0,j0⟩:=(s.le hq).slH_elim;rcases j0 with ⟨rfl,rfl,rfl,s'⟩|⟨g,f,rfl,v0,u0,t0,o0,s'⟩
 . obtain rfl:i=0:=by omega
   have n0:vs= []:=aW (by simpa using d0);subst n0;rcases c0 with ⟨rfl,rfl⟩|⟨o,rfl,hc⟩
   . refine ⟨.slice none 0 0,w,_,.inl (k _ _ ?_),s'.le (Nw e I.size r),none,0,rfl,Zf⟩
     cases b<;>simp [Builtin.append_,run_underlying ht,Go.sizeOf,typeInfo,hI,Builtin.lenOf,Builtin.firstCells,loadCells,loadCellsFrom]
   by_cases hm0:m=0
   . subst hm0;have f0:ws= []:=aW (by simpa using hm);subst f0;refine ⟨.slice none 0 0,w,_,.inl (k _ _ ?_),s'.le (Nw e I.size r),none,0,rfl,Zf⟩;simp [Builtin.append_,run_underlying ht,Go.sizeOf,typeInfo,hI,Builtin.lenOf,Builtin.firstCells,loadCells,loadCellsFrom]
   have hr:=run_append_nil w t ty e I z ht hI e1 o m c' ws hm hc Zq Zq (by have hb:=hby;simp [eE] at hb;omega);have m0:=grownCap_ge w m 0 e;have i0:=grownCap_le_maxLen w m 0 e (by simp [maxLen];omega);refine ⟨_,_,_,.inl (k _ _ hr),?_,some ⟨w.heap.size,0,none⟩,grownCap w m 0 e,Zf,rfl⟩
   have s2:St G (w.drew.alloc (.cells (ws.toArray++Builtin.zeroCells z.cells (grownCap w m 0 e - m)) e)) (pto w.heap.size (.cells (ws.toArray++Builtin.zeroCells z.cells (grownCap w m 0 e - m)) e (0,0))::r):=
    St.new (s'.same rfl rfl rfl rfl) rfl rfl rfl rfl
   refine s2.le (Yo Zq i0 ?_ ?_ r)
   . simp [kN,gI,size_zeroCells,hz,hm,<-fT];congr 1;omega
   simp [lJ,eE,Nat.zero_mul,fY,bL];rw [<-hm];exact jD
 have l:f.toList.take (i*I.size)=vs.take (i*I.size):=by
  rw [<-o0,List.take_take,fG (eQ _ hin)]
 have hg:w.heap[g]? =some (.cells f e (0,0)):=s'.has (dV _ _ _);have a0:(vs.take (i*I.size)).length=i*I.size:=by rw [bB,d0];exact fG (eQ _ hin)
 -- the source, asc an address that serves
 have l0: ∃ o:Addr,(b=some o\/(b=none/\m=0))/\ ∀ j u,ws[j]? =some u->w.cell? (o.add j)=some u:=by
  rcases c0 with ⟨rfl,rfl⟩|⟨o,hb,hc⟩
  . cases b with
    |none=>exact ⟨⟨0,0,none⟩,.inr ⟨rfl,rfl⟩,fun j u h=>by simp at h⟩
    |some o=>exact ⟨o,.inl rfl,fun j u h=>by simp at h⟩
  exact ⟨o,.inl hb,hc⟩
 have ⟨o,hb,hc⟩:=l0;by_cases hroom:i+m<=c
 . have e0:i*I.size+ws.length<=f.size:=by rw [hm,t0,<-fT];exact eQ _ hroom
   have p0:=run_storeCells_at P g (i*I.size) e ws 0 f w hg (by simpa using e0) h1;simp [kC] at p0
   have hr:(Builtin.append_ #[t,t] ty #[.slice (some ⟨g,0,none⟩) i c,.slice b m c']).run P w=
    .ok (.slice (some ⟨g,0,none⟩) (i+m) c) (w.setRow g (f.toList.take (i*I.size)++ws++f.toList.drop (i*I.size+ws.length)).toArray):=by
    rcases hb with rfl|⟨rfl,rfl⟩
    . exact run_append_room w t ty e I ht hI g i c f hg o m c' ws hm hc h1 hroom e0
    have f0:ws= []:=aW (by simpa using hm);subst f0;have g0:=setRow_self w g f e (0,0) hg;simp [aT,kC,cA,dJ,kX,g0];have b0:i<=c:=Zq;simp [Builtin.append_,run_underlying ht,Go.sizeOf,typeInfo,hI,Builtin.lenOf,Builtin.firstCells,b0,storeCells]
   refine ⟨_,_,_,.inl (k _ _ hr),?_,some ⟨g,0,none⟩,c,rfl,rfl⟩;have s2:=s'.put (o':= .cells (f.toList.take (i*I.size)++ws++f.toList.drop (i*I.size+ws.length)).toArray e (0,0)) (setRow_heap w g f _ e (0,0) hg) (fun j hj=>setRow_other w g j _ hj) Zf rfl rfl rfl;refine s2.le (Yo hroom u0 ?_ ?_ r)
   . simp [gI,aA,bB,bY,lK];omega
   rw [l];have:(vs.take (i*I.size)++ws).length=(i+m)*I.size:=by rw [aA,a0,hm,fT]
   rw [<-this];exact jD
 have h0: ∀ j u,(vs.take (i*I.size))[j]? =some u->w.cell? ((⟨g,0,none⟩:Addr).add j)=some u:=by
  intro j u hu;rw [Vu,eE];rw [<-l,kB] at hu;split at hu
  . simp [World.cell?,hg];simpa using hu
  cases hu
 have hr:(Builtin.append_ #[t,t] ty #[.slice (some ⟨g,0,none⟩) i c,.slice b m c']).run P w=
  .ok (.slice (some ⟨w.heap.size,0,none⟩) (i+m) (grownCap w (i+m) c e))
   (w.drew.alloc (.cells ((vs.take (i*I.size)).toArray++ws.toArray++Builtin.zeroCells z.cells (grownCap w (i+m) c e - (i+m))) e)):=by
  rcases hb with rfl|⟨rfl,rfl⟩
  . exact run_append_grow w t ty e I z ht hI e1 ⟨g,0,none⟩ i c _ a0 h0 o m c' ws hm hc Zq Zq (growslice_fits Zq hby)
  omega
 have m0:=grownCap_ge w (i+m) c e;have i0:=grownCap_le_maxLen w (i+m) c e (by simp [maxLen];omega);refine ⟨_,_,_,.inl (k _ _ hr),?_,some ⟨w.heap.size,0,none⟩,grownCap w (i+m) c e,rfl,rfl⟩;have s3:St G w.drew r:=(s'.le (.drop _ _)).same rfl rfl rfl rfl;have s2:=St.new (w':=w.drew.alloc (.cells ((vs.take (i*I.size)).toArray++ws.toArray++Builtin.zeroCells z.cells (grownCap w (i+m) c e - (i+m))) e)) s3 rfl rfl rfl rfl;have q0:(vs.take (i*I.size)++ws).length=(i+m)*I.size:=by rw [aA,a0,hm,fT]
 refine s2.le (Yo m0 i0 ?_ ?_ r)
 . simp [kN,gI,size_zeroCells,hz,a0,hm,<-fT];congr 1;omega
 simp [lJ,aO];rw [<-aO,<-q0];exact jD
def Ef.buildSlice {len}(ht:P.underlying t=some (.slice e))(hi:(P.info? e).map (fun i=>(i.zero,i.size,i.bytes))=some (some z,sz,bytes))
 (hv:evl p (ps.map (·.2))=some us) (h0:Nat.ble (len*sz) 16777216=true) (hn:Nat.blt 0 (len*sz)=true)
 (hf:Instr.fill (fun i=>some (i*sz,sz)) ((Array.range (len*sz)).map (z.cells[· % z.cells.size]!)) ((ps.map (·.1)).zip us)=some cells.toArray) (hl:cells.length=len*sz):
 Ef P G p q ⟨d,.buildSlice t len ps.toArray,ty,pos,af,gd⟩ fun v q'=> ∃ g,v= .slice (some ⟨g,0,none⟩) len len/\q'=slH (some ⟨g,0,none⟩) len e sz len cells::q:=by
 have ⟨I,h,n,m,u⟩:=info_parts hi;subst m;intro tm w o s;have r:=Rw o hv
 have b:(ps.toArray.map fun (i,x)=>(i,evA tm x)).toList=(ps.map (·.1)).zip us:=by
  grind
 have l:len*I.size<=16777216:=by simp_all
 have c:0<len*I.size:=by simp_all
 refine ⟨.slice _ len len,w.alloc (.cells cells.toArray e),_,.inl ?_,?_,w.heap.size,rfl,rfl⟩
 . have k: ¬ (16777216<len*I.size):=Zq;have j: ¬ (len*I.size=0):=Zq;simp only [execOp,Instr.buildSlice,Sem.run_bind,run_underlying ht,Go.sizeOf,typeInfo,zeroValue];rw [b];simp [h,n,k,j,hf,newRow]
 have f:St G (w.alloc _) (pto w.heap.size (.cells cells.toArray e (0,0))::q):=s.new rfl rfl rfl rfl;refine f.le (Yo (aS _) ?_ (by simp [hl]) (by simp [<-hl]) q);have:len<=len*I.size:=Nat.le_mul_of_pos_right _ (Nat.pos_of_mul_pos_left c);simp [maxLen];omega
abbrev kS:=@Ef.buildSlice
def B9 (ht:P.underlying t=some (.slice e))(hi:(P.info? e).map (fun i=>(i.zero,i.size,i.bytes))=some (some z,sz,bytes)):
 Ef P G p q ⟨d,.buildSlice t 0 #[],ty,pos,af,gd⟩ fun v q'=> ∃ g,v= .slice (some ⟨g,0,none⟩) 0 0/\q'=slH (some ⟨g,0,none⟩) 0 e sz 0 []::q:=by
 have ⟨I,b,h,c,f⟩:=info_parts hi;intro tm w j s;refine ⟨.slice _ 0 0,w.alloc (.cells #[] e),_,.inl ?_,?_,w.heap.size,rfl,rfl⟩
 . simp [execOp,Instr.buildSlice,run_underlying ht,Go.sizeOf,typeInfo,b,Instr.fill,newRow];grind
 have a:St G (w.alloc _) (pto w.heap.size (.cells #[] e (0,0))::q):=s.new rfl rfl rfl rfl;exact a.le (Yo (aS _) (by simp) Zf Zf q)
def Zxu {h}(hx:evp p x=some (.slice a n c))(hy:evp p y=some (.int kd h))(ht:P.underlying t=some (.slice e))(hs: ∀ w,(Go.sizeOf e).run P w= .ok sz w)(h0:0<=h)(h1:h<=c):
 Pu P p ⟨d,.slice t x none (some y) none,ty,pos,af,gd⟩ (.slice a h.toNat c):=fun tm w b=>by
 have g:0<=h/\h<=(c:Int):=⟨h0,h1⟩;have f:a.map (fun x:Addr=>x.add 0)=a:=by simp_all [Addr.add]
 simp [execOp,Zu b hx,Zu b hy,Instr.sliceAt,Instr.slice,run_underlying ht,Instr.sliceBounds,Instr.sliceBound,asIntOf,g,hs,f]
def Zxp {l}(hx:evp p x=some (.slice a n c))(hy:evp p y=some (.int kd l))(ht:P.underlying t=some (.slice e))(hs: ∀ w,(Go.sizeOf e).run P w= .ok sz w)(h0:0<=l)(h1:l<=n):
 Pu P p ⟨d,.slice t x (some y) none none,ty,pos,af,gd⟩ (.slice (I7 a c l.toNat sz) (n - l.toNat) (c - l.toNat)):=fun tm w b=>by
 have f:0<=l/\l<=(n:Int):=⟨h0,h1⟩;simp [execOp,Zu b hx,Zu b hy,Instr.sliceAt,Instr.slice,run_underlying ht,Instr.sliceBounds,Instr.sliceBound,asIntOf,f,hs,I7]
def spl:List Value->Nat->List Value->List Value
 |l,_, []=>l
 | [],_,_=> []
 |_::l,0,v::vs=>v::spl l 0 vs
 |x::l,n+1,vs=>x::spl l n vs
def Zqg:List (Nat×Nat)->Nat->Option (Nat×Nat)
 | [],_=>none
 |v::_,0=>some v
 |_::r,n+1=>Zqg r n
theorem Zy5 (l:List (Nat×Nat))(n:Nat):Zqg l n=l[n]? :=by
 induction l generalizing n with
 |nil=>simp [Zqg]
 |cons v r ih=>cases n<;>grind [Zqg]
def S3 (pl:List (Nat×Nat)):List Value->List (Nat×Value)->Option (List Value)
 |cs, []=>some cs
 |cs,(i,v)::r=>match Zqg pl i with
  |some (off,sz)=>bif Nat.beq v.cells.toList.length sz && Nat.ble (off+sz) cs.length then S3 pl (spl cs off v.cells.toList) r else none
  |none=>none
def spl_fold (vs:List Value): ∀ (l:List Value) (o j:Nat),(vs.zipIdx j).foldl (fun cs (c,i)=>cs.setIfInBounds (o+i) c) l.toArray=(spl l (o+j) vs).toArray:=by
 induction vs with
 |nil=>simp_all [spl]
 |cons v vs ih=>
  intro l o j;simp only [List.zipIdx_cons,kY];rw [ih]
  have: ∀ (l:List Value) (n:Nat),spl (l.set n v) (n+1) vs=spl l n (v::vs):=by
   intro l
   induction l with
   |nil=>grind [spl]
   |cons x l ih2=>
    intro n
    cases n<;>grind [spl]
  grind
def Zw2 {pl}: ∀ (ps:List (Nat×Value)) {cs cells},S3 pl cs ps=some cells->Instr.fill (pl.toArray[·]?) cs.toArray ps=some cells.toArray:=by
 intro ps
 induction ps with
 |nil=>grind [S3,Instr.fill]
 |cons x r ih=>
  intro cs cells h;simp only [S3,Zy5] at h
  cases hp:pl[x.1]? with
  |none=>grind
  |some pp=>
   have ⟨a,sz⟩:=pp;rw [hp] at h;dsimp only at h
   cases hc:(Nat.beq x.2.cells.toList.length sz && Nat.ble (a+sz) cs.length) with
   |false=>grind
   |true=>
    rw [hc] at h;simp [] at hc;have f:x.2.cells.size=sz:=by simp_all
    have b: ¬ (x.2.cells.size≠sz\/a+x.2.cells.size>cs.toArray.size):=by grind
    simp only [Instr.fill,];have d:(decide (x.2.cells.size≠sz)||decide (a+x.2.cells.size>cs.toArray.size))=false:=by grind
    have c:=spl_fold x.2.cells.toList cs a 0;grind [Array.toList_zipIdx]
def Pu.build {z}(pl:List (Nat×Nat))(hz: ∀ w,(zeroValue t).run P w= .ok (.agg z.toArray) w)(ht:P.underlying t=some (.struct fs))
 (hp:fs.toList.mapM (fun f=>(P.info? f.type).map fun i=>(f.offset,i.size))=some pl) (hv:evl p (ps.map (·.2))=some us) (hb:S3 pl z ((ps.map (·.1)).zip us)=some cells):Pu P p ⟨d,.build t ps.toArray,ty,pos,af,gd⟩ (.agg cells.toArray):=fun tm w h=>by
 have j:=Rw h hv
 have c:(ps.toArray.map fun (i,x)=>(i,evA tm x)).toList=(ps.map (·.1)).zip us:=by
  grind
 have b:(fs.mapM fun f=>do Pure.pure (f.offset,<-Go.sizeOf f.type):Sem _).run P w= .ok pl.toArray w:=by
  have e:fs=fs.toList.toArray:=Zf;rw [List.mapM_toArray];simp only [Sem.run_map]
  have:(fun f:Field=>(do Pure.pure (f.offset,<-Go.sizeOf f.type):Sem _))=(fun f=>Prod.mk f.offset<$>Go.sizeOf f.type):=by
   simp
  rw [this,run_places w fs.toList pl hp];rfl
 simp only [execOp,Instr.build,Sem.run_bind,hz,Result.andThen_ok,run_underlying ht,b,Value.cells,c,Zw2 _ hb];rfl
def Pu.field (ft off:Nat)(hx:evp p x=some (.agg l.toArray))(ht:P.underlying t=some (.struct fs))(hF:(fs[k]?).map (fun F=>(F.type,F.offset))=some (ft,off))(ha: ∀ w,(isAgg ft).run P w= .ok false w)(hv:nth l off=some v):
 Pu P p ⟨d,.field t x k,ty,pos,af,gd⟩ v:=fun tm w b=>by
 have ⟨F,a,e⟩:=kQ.1 hF;obtain ⟨rfl,rfl⟩:=e;rw [Qi] at hv;simp [execOp,Zu b hx,Instr.field,run_underlying ht,a,asAgg,part,ha,hv]
def Zhc (ft off:Nat)(hx:evp p x=some (.agg l.toArray))(ht:P.underlying t=some (.struct fs))(hF:(fs[k]?).map (fun F=>(F.type,F.offset))=some (ft,off))(ha: ∀ w,(isAgg ft).run P w= .ok true w)(hs: ∀ w,(Go.sizeOf ft).run P w= .ok sz w):
 Pu P p ⟨d,.field t x k,ty,pos,af,gd⟩ (.agg (Wx.sub l off sz).toArray):=fun tm w b=>by
 have ⟨F,a,e⟩:=kQ.1 hF;obtain ⟨rfl,rfl⟩:=e;simp [execOp,Zu b hx,Instr.field,run_underlying ht,a,asAgg,part,ha,hs,Wx.sub]
def Uw (l:List Value)(o:Nat)(vs:List Value):List Value:=l.take o++vs++l.drop (o+vs.length)
def Ef.storeA {bk}{t'}(hx:evp p x=some (.pointer (some ⟨bk,o,none⟩)))(hy:evp p y=some (.agg vs.toArray))(hs: ∀ w,(Go.sizeOf t).run P w= .ok sz w)
 (hl:vs.length=sz) (h1:vs.all (·.oneCell')=true) (hq:Le q (pto bk (.cells l.toArray t' (0,0))::r)) (ho:Nat.ble (o+sz) l.length=true):
 Ef P G p q ⟨d,.store t x y,ty,pos,af,gd⟩ fun z q'=>z=undef/\q'=pto bk (.cells (Uw l o vs).toArray t' (0,0))::r:=
 fun tm w e s=>by
  have b:=s.le hq;have c:=b.has (dV _ _ _);have g:o+vs.length<=l.length:=by simp_all
  have a:=run_storeCells_at P bk o t' vs 0 l.toArray w c Zq (fun v f=>dM.1 h1 v f);refine ⟨undef,w.setRow bk (Uw l o vs).toArray,_,.inr ⟨rfl,?_⟩,?_,rfl,rfl⟩
  . simp [execOp,Zu e hx,Zu e hy,Instr.storeAt,Instr.sureAddr,storeVar,hs,Value.cells,hl,a,Uw]
  exact b.put (setRow_heap w bk l.toArray _ t' (0,0) c) (fun j h=>setRow_other w bk j _ h) Zf rfl rfl rfl
end facts
def LV (P:Program)(G:World)(q:List HP)(t:TypeId)(A:Addr)(v:Value):Prop:= ∀ w,St G w q->(loadVar t A).run P w= .ok v w
def LV.cell {P}{G}{q}{t}{A}{v}(ht: ∀ w,(isAgg t).run P w= .ok false w)(h:Cl q A v):LV P G q t A v:=fun w s=>by simp [loadVar,ht,h G w s]
abbrev iO:=@LV.cell
def LV.agg {P}{G}{q}{t}{b o sz}{l}{t'}{fz}(ht: ∀ w,(isAgg t).run P w= .ok true w)(hs: ∀ w,(Go.sizeOf t).run P w= .ok sz w)
 (hh:Has q b (.cells l.toArray t' fz)) (hv:Nat.ble (o+sz) l.length=true):LV P G q t ⟨b,o,none⟩ (.agg (Wx.sub l o sz).toArray):=fun w s=>by
 have f:=s.has hh;have c:o+sz<=l.length:=by simp_all
 have d:(Wx.sub l o sz).length=sz:=by simp [Wx.sub];omega
 have a:=run_loadCells_list (P:=P) w ⟨b,o,none⟩ (Wx.sub l o sz) (fun j u e=>by
  grind [Vu,World.cell?,Wx.sub])
 rw [d] at a;simp [loadVar,ht,hs,a]
def ResOk (P:Program)(G:World)(p:PE)(q:List HP):List ResultVar->List Value->Prop
 | [], []=>True
 | .tmp t::r,v::vs=>lkp p t=some v/\ResOk P G p q r vs
 | .cell a t::r,v::vs=>(∃ A,lkp p a=some (.pointer (some A))/\LV P G q t A v)/\ResOk P G p q r vs
 |_,_=>False
def G1 (tm:Array Value):ResultVar->Sem Value
 | .tmp t=>Pure.pure (tm.getD t undef)
 | .cell a t=>do loadVar t (<-asAddr (tm.getD a undef))
theorem Lb (fd:Func)(tm:Array Value):results fd tm=(do let vs<-fd.results.mapM (G1 tm);Pure.pure (if h:vs.size=1 then vs[0] else .tuple vs)):=rfl
def ResOk.run {P}{G}{p}{q}{tm}{w}(ag:Agr tm p)(s:St G w q): ∀ {rs} {vs},ResOk P G p q rs vs->
 (rs.mapM (G1 tm)).run P w= .ok vs w:=by
 intro rs
 induction rs with
 |nil=>intro vs h;cases vs with
  |nil=>simp
  |cons=>exact h.elim
 |cons x r ih=>
  intro vs h
  cases vs with
  |nil=>cases x<;>exact h.elim
  |cons v vs=>
   cases x with
   |tmp t=>
    have ⟨c,b⟩:=h;have e:(G1 tm (.tmp t)).run P w= .ok v w:=by rw [G1,ag _ _ c];rfl
    simp [e,ih b]
   |cell a t=>
    have ⟨⟨A,c,d⟩,b⟩:=h
    have e:(G1 tm (.cell a t)).run P w= .ok v w:=by
     rw [G1,ag _ _ c];simp [asAddr,d w s]
    simp [e,ih b]
def Lf {P}{G}{p}{q}{fd}{r}{v}(h:fd.results= [r].toArray)(hk:ResOk P G p q [r] [v])(tm:Array Value)(w:World)(ag:Agr tm p)(s:St G w q):(results fd tm).run P w= .ok v w:=by
 have:=hk.run ag s;grind [Lb,Sem.run_bind,Sem.run_map,Result.andThen_ok,Sem.run_pure]
def X8 {P}{G}{p}{q}{fd}{r r'}{rs}{vs}(h:fd.results=(r::r'::rs).toArray)(hk:ResOk P G p q (r::r'::rs) vs)(tm:Array Value)(w:World)(ag:Agr tm p)(s:St G w q):(results fd tm).run P w= .ok (.tuple vs.toArray) w:=by
 have:=hk.run ag s
 have a:vs.length≠1:=by
  intro e
  match vs,e with
  | [v],_=>cases r<;>cases r'<;>simp [ResOk] at hk
 grind [Lb,Sem.run_bind,Sem.run_map,Result.andThen_ok,Sem.run_pure]
end
section
variable {P:Program}{w G:World}{l n:Nat}{r rec:Loop}{o o':Obj}{q pre F:List HP}{k:List Item}{p:PE}{ds:List Deferred}{cs:List Frame}{fr:Frame}{R:Uc}{asc bd:Code}
def lp (rec:Loop)(l:Nat)(st:LoopState)(pend:Option Code):HP:=pto l (.loop { rec with state:=st,pending:=pend })
def markD (r:Nat):Deferred:= { target:= .collected r,args:= #[] }
def Np (h:w.heap[l]? =some (.loop r)):(Instr.getLoop l).run P w= .ok r w:=by
 simp [Instr.getLoop,getObj,Sem.run,h]
def T7 (h:w.heap[l]? =some o)(hc: ∀ c e z,o≠ .cells c e z):(setObj l o').run P w= .ok () { w with heap:=w.heap.setIfInBounds l o' } :=by
 cases o<;>first|(exact aV rfl (hc _ _ _))|simp [setObj,Sem.run,h]
def St.setObj {b}(s:St G w (pto b o::q)):St G { w with heap:=w.heap.setIfInBounds b o' } (pto b o'::q):=by
 have a:b<w.heap.size:=(jQ.1 (s.has (dV _ _ _))).1;refine s.put ?_ ?_ Zf rfl rfl rfl
 all_goals grind
section
variable {f:Fc}{Q:Yp}
def YQ (cs₀:List Frame)(rec:Loop)(l:Nat)(R:Uc)(F:List HP):Yp:=fun o p ds cs q=>cs=cs₀/\ds= []/\match o with
 | .fall=> ∃ q',R (.returned (.bool true)) (lp rec l .ready none::q')/\Le q (lp rec l .busy none::(q'++F))
 | .jump c=> ∃ q',R (.returned (.bool false)) (lp rec l .done (some c)::q')/\Le q (lp rec l .busy none::(q'++F))
 | .panic ch=> ∃ q',R (.panicked ch) q'/\Le q (q'++F)
def Pe:List Tmp->List Value->PE->PE
 |t::ts,v::vs,p=>Pe ts vs ((t,v)::p)
 |_,_,p=>p
def agr_zipP : ∀ (ts:List Tmp) (vs:List Value) (tm:Array Value) (p:PE),tm.size=n->Agr tm p->ts.all (Nat.blt · n)=true->vs.length=ts.length->
 Agr ((ts.zip vs).foldl (fun tm (t,a)=>tm.setIfInBounds t a) tm) (Pe ts vs p)/\((ts.zip vs).foldl (fun tm (t,a)=>tm.setIfInBounds t a) tm).size=n:=by
 intro ts
 induction ts with
 |nil=>simp_all [Pe]
 |cons t r ih=>
  intro vs tm p c f b e
  cases vs with
  |nil=>simp at e
  |cons v vs=>
   simp only [iN,bA] at b;exact ih vs _ _ (by simp [c]) (Agr.put (d:=some t) f (by rw [c];exact b.1)) b.2 (by grind)
def Pz (hm:fr.mode= .run)(ht:fr.todo= .beginRound::k)(hr:fr.roundOf=some l)(h:w.heap[l]? =some (.loop r))(hs:r.state= .ready):
 step P (lone fr cs w)= .next (lone { fr with todo:=k } cs { w with heap:=w.heap.setIfInBounds l (.loop { r with state:= .busy }) }):=by
 have a:(Instr.beginRound l).run P w= .ok () { w with heap:=w.heap.setIfInBounds l (.loop { r with state:= .busy }) } :=by
  simp_all [Instr.beginRound,Np,T7]
 refine step_lone_go ?_;simp [stepG,stepG.exec,hm,ht,hr,stepG.apply,a,Frame.finish]
def X.beginRound {pend}{cq}(hr:f.round=some l)(hq:Le q (lp rec l .ready pend::cq))(x:X P G f Q k p ds cs (lp rec l .busy pend::cq)):X P G f Q (.beginRound::k) p ds cs q:=by
 intro tm w n a s;have g:=s.le hq;have ⟨o,b,p',c,d,w',q',t,j,r,i,e⟩:=x tm _ n a (St.setObj g);refine ⟨o,b,p',c,d,w',q',t,j,r,i,e.head (.one ?_)⟩;exact Pz rfl rfl hr (g.has (dV _ _ _)) rfl
abbrev gE:=@X.beginRound
def Fh (h:w.heap[l]? =some (.loop r))(j:Option Code):
 (Instr.endRound l j).run P w= .ok (.bool j.isNone) { w with heap:=w.heap.setIfInBounds l (.loop { r with state:=if j.isNone then .ready else .done,pending:=j }) } :=by
 simp_all [Instr.endRound,Np,T7]
def Bz {c}{w'}{v}{j}(hm:fr.mode= .run)(hr:fr.roundOf=some l)(hk:fr.kind= .normal)
 (hj:(fr.todo= []/\j=none)\/(∃ c k,fr.todo= .code c::k/\Gone c k/\j=some c)) (h:(Instr.endRound l j).run P w= .ok v w'):
 step P (lone fr (c::cs) w)= .next (lone (c.finish v) cs w'):=by
 refine step_lone_go ?_;rcases hj with ⟨a,rfl⟩|⟨c',k,a,d,rfl⟩
 . simp [stepG,stepG.exec,hm,a,hr,h,doReturn,hk]
 rcases d with rfl|⟨id,rfl,b⟩|⟨g,rfl,b⟩
 . simp [stepG,stepG.exec,hm,a,hr,h,doReturn,hk]
 . simp [stepG,stepG.exec,hm,a,hr,b,h,doReturn,hk]
 simp [stepG,stepG.exec,hm,a,hr,b,h,doReturn,hk]
structure LoopIs (rec:Loop) (fn:FuncId) (n:Nat) (ts:List Tmp) (asc bd:Code) (p:PE):Prop where
 fn:rec.fn=fn
 n:rec.tmps.size=n
 ts:rec.params=ts.toArray
 asc:rec.assign=asc
 bd:rec.body=bd
 pd:rec.pending=none
 ag:Agr rec.tmps p
def CallV.yield {fn:Nat}{us}{ts}(hr:LoopIs rec fn n ts asc bd p)(hb:ts.all (Nat.blt · n)=true)(hl:Nat.beq us.length ts.length=true)
 (hf:(P.funcs[fn]?).isSome=true)
 (h: ∀ F cs,X P G ⟨fn,n,.normal,some l⟩ (YQ cs rec l R F) [.code asc,.beginRound,.code bd] (Pe ts us p) [] cs (lp rec l .ready none::(pre++F))):
 CallV P G (.func (.yield l) #[] #[]) us (lp rec l .ready none::pre) R:=by
 obtain ⟨rfl,hn,q,rfl,rfl,a0,ag⟩:=hr;intro F w s fr cs hm ho;have j:us.length=ts.length:=cS hl;have ⟨ha,r⟩:=agr_zipP ts us rec.tmps p hn ag hb j;obtain ⟨o,g,p',d0,e0,w',q',⟨rfl,rfl,z⟩,b0,c0,u,b⟩:=h F (fr::cs) _ w r ha s
 have hy:(do let d<-Deferred.ofValue (.func (.yield l) #[] #[]) us.toArray;invoke d.target d.args:Sem Next).run P w=
  .ok (.round l rec.fn ((ts.zip us).foldl (fun tm (t,a)=>tm.setIfInBounds t a) rec.tmps) rec.assign rec.body) w:=by
  simp [Deferred.ofValue,invoke,Instr.yield,Np (s.has (dV _ _ _)),q,j]
 have v:Frame.round l rec.fn ((ts.zip us).foldl (fun tm (t,a)=>tm.setIfInBounds t a) rec.tmps) rec.assign rec.body .normal=
  Fc.fr ⟨rec.fn,n,.normal,some l⟩ ((ts.zip us).foldl (fun tm (t,a)=>tm.setIfInBounds t a) rec.tmps) [] [.code rec.assign,.beginRound,.code rec.body]:=rfl
 have f:(stepG.apply P true fr cs none (do let d<-Deferred.ofValue (.func (.yield l) #[] #[]) us.toArray;invoke d.target d.args:Sem Next) w).bare=
  .go { frame:=Frame.round l rec.fn ((ts.zip us).foldl (fun tm (t,a)=>tm.setIfInBounds t a) rec.tmps) rec.assign rec.body .normal,callers:=fr::cs,status:= .running,dying:=none } w:=by
  grind [stepG.apply,Sem.runT_eq,GStep.bare_after,GStep.bare_go]
 cases o with
 |fall=>
  have ⟨q1,k,e⟩:=z;have i:=u.le e;have h1:=i.has (dV _ _ _);refine ⟨.returned _, { w' with heap:=w'.heap.setIfInBounds l (.loop { rec with state:= .ready,pending:=none }) },⟨_,k,?_⟩,Zf,_,_,_,f,b.trans (.one ?_)⟩
  . exact St.setObj i
  exact Bz rfl rfl rfl (.inl ⟨rfl,rfl⟩) (Fh h1 none)
 |jump c=>
  have ⟨q1,k,e⟩:=z;have ⟨m,hg,b⟩:=b;have i:=u.le e;refine ⟨.returned _, { w' with heap:=w'.heap.setIfInBounds l (.loop { rec with state:= .done,pending:=some c }) },⟨_,k,?_⟩,Zf,_,_,_,f,b.trans (.one ?_)⟩
  . exact St.setObj i
  exact Bz rfl rfl rfl (.inr ⟨c,m,rfl,hg,rfl⟩) (Fh (i.has (dV _ _ _)) _)
 |panic ch=>
  have ⟨q1,k,e⟩:=z;have ⟨m,b⟩:=b;refine ⟨.panicked ch,w',⟨_,k,u.le e⟩,Zf,_,_,_,f,b.trans (.one ?_)⟩;have ⟨fd,x⟩:=Option.isSome_iff_exists.1 hf;exact step_lone_go (by simp [stepG,unwind,Frame.catches,Fc.fr,x])
def I8 (fn:FuncId)(tm:Array Value)(ps:Array Tmp)(asc bd:Code):
 (Instr.enterLoop fn tm ps asc bd none).run P w= .ok (w.heap.size+1, [markD w.heap.size])
  ((w.alloc (.deferred (some []))).alloc (.loop { state:= .ready,pending:=none,fn:=fn,tmps:=tm,params:=ps,assign:=asc,body:=bd,defers:=w.heap.size })):=by
 simp [Instr.enterLoop,Sem.run,markD]
def Zz9 (h:w.heap[l]? =some (.loop r))(hs:r.state≠ .busy):(Instr.endLoop l).run P w= .ok r.pending { w with heap:=w.heap.setIfInBounds l (.loop { r with state:= .exhausted }) } :=by
 simp_all [Instr.endLoop,Np,T7]
def X.rangeFunc {g}{ps}{gv}{R':Option Code->List HP->Prop}(hro:f.round=none)(hg:evp p g=some gv)(hq:Le q (pre++F))
 (call: ∀ l rec,LoopIs rec f.fn f.n ps asc bd p->CallV P G gv [.func (.yield l) #[] #[]] (lp rec l .ready none::pre)
  (Ret fun _ q'=> ∃ st pend q1,st≠ .busy/\q'=lp rec l st pend::q1/\R' pend q1))
 (cont: ∀ r pend q1,R' pend q1->X P G f Q (pend.toList.map Item.code++k) p (markD r::ds) cs (pto r (.deferred (some []))::(q1++F))):
 X P G f Q (.code (.rangeFunc g ps.toArray asc bd)::k) p ds cs q:=by
 intro tm w n ag s;have s0:=s.le hq;have s1:St G (w.alloc (.deferred (some []))) (pto w.heap.size (.deferred (some []))::(pre++F)):=s0.new rfl rfl rfl rfl;have z:=s1.new (w':=(w.alloc (.deferred (some []))).alloc (.loop { state:= .ready,pending:=none,fn:=f.fn,tmps:=tm,params:=ps.toArray,assign:=asc,body:=bd,defers:=w.heap.size })) rfl rfl rfl rfl;have a0:(w.alloc (.deferred (some []))).heap.size=w.heap.size+1:=Zf;rw [a0] at z
 have s3:=z.le (ds:=lp { state:= .ready,pending:=none,fn:=f.fn,tmps:=tm,params:=ps.toArray,assign:=asc,body:=bd,defers:=w.heap.size } (w.heap.size+1) .ready none::(pre++(pto w.heap.size (.deferred (some []))::F))) (cC _ (by
  clear z s1 s0 hq call cont
  induction pre with
  |nil=>exact .refl _
  |cons A r ih=>exact (iL _ _ _).trans (ih.cons A)))
 obtain ⟨e,h,⟨q3,⟨v,rfl,st,pend,q1,b0,rfl,hR⟩,y⟩,_,i,j,m,e0,a⟩:=call (w.heap.size+1) { state:= .ready,pending:=none,fn:=f.fn,tmps:=tm,params:=ps.toArray,assign:=asc,body:=bd,defers:=w.heap.size } ⟨rfl,n,rfl,rfl,rfl,rfl,ag⟩ (pto w.heap.size (.deferred (some []))::F) _ s3
  (f.fr tm (markD w.heap.size::ds) (.inRangeFunc (w.heap.size+1)::k)) cs rfl trivial
 have t:(do let d<-resolve (f.fr tm (markD w.heap.size::ds) (.inRangeFunc (w.heap.size+1)::k)).eval { callee:= .value g,args:= #[.const (.func (.yield (w.heap.size+1)) #[] #[])],argTypes:= #[] } 0;invoke d.target d.args:Sem Next)=
  (do let d<-Deferred.ofValue gv [.func (.yield (w.heap.size+1)) #[] #[]].toArray;invoke d.target d.args):=by
  have d0: ∀ v,(f.fr tm (markD w.heap.size::ds) (.inRangeFunc (w.heap.size+1)::k)).eval (.const v)=v:=fun _=>rfl
  simp [resolve,(M6 ..).trans (Zu ag hg),d0]
 have h1:Go.step P (lone (f.fr tm ds (.code (.rangeFunc g ps.toArray asc bd)::k)) cs w)= .next (lone i j m):=by
  refine step_lone_go ?_;have b:(f.fr tm ds (.code (.rangeFunc g ps.toArray asc bd)::k)).roundOf=none:=hro;rw [<-e0,<-t];simp [Fc.fr] at b|-;simp [stepG,stepG.exec,b,I8 f.fn tm ps.toArray asc bd]
 have u:Zvc (f.fr tm (markD w.heap.size::ds) (.inRangeFunc (w.heap.size+1)::k)) cs (.returned v) h=lone (f.fr tm (markD w.heap.size::ds) (.endRangeFunc (w.heap.size+1)::k)) cs h:=rfl;have hb:=y.has (dV _ _ _);have c:=Zz9 (P:=P) hb b0
 have s5:St G { h with heap:=h.heap.setIfInBounds (w.heap.size+1) (.loop { state:= .exhausted,pending:=pend,fn:=f.fn,tmps:=tm,params:=ps.toArray,assign:=asc,body:=bd,defers:=w.heap.size }) } (q1++(pto w.heap.size (.deferred (some []))::F)):=
  (St.setObj (o':= .loop { state:= .exhausted,pending:=pend,fn:=f.fn,tmps:=tm,params:=ps.toArray,assign:=asc,body:=bd,defers:=w.heap.size }) y).le (.drop _ _)
 have h2:Go.step P (lone (f.fr tm (markD w.heap.size::ds) (.endRangeFunc (w.heap.size+1)::k)) cs h)=
  .next (lone (f.fr tm (markD w.heap.size::ds) (pend.toList.map Item.code++k)) cs { h with heap:=h.heap.setIfInBounds (w.heap.size+1) (.loop { state:= .exhausted,pending:=pend,fn:=f.fn,tmps:=tm,params:=ps.toArray,assign:=asc,body:=bd,defers:=w.heap.size }) }):=by
  refine step_lone_go ?_;simp [stepG,stepG.exec,Fc.fr,c]
  cases pend<;>rfl
 have s6:=s5.le (ds:=pto w.heap.size (.deferred (some []))::(q1++F)) (by
  clear s5 h2 c hb a hR y
  induction q1 with
  |nil=>exact .refl _
  |cons A r ih=>exact (ih.cons A).trans (iL _ _ _))
 have ⟨o,x,p',f0,g0,w',q',hQ,hn,ha,hs,h0⟩:=cont w.heap.size pend q1 hR tm _ n ag s6;exact ⟨o,x,p',f0,g0,w',q',hQ,hn,ha,hs,h0.head ((Steps.one h1).trans (a.trans (.one h2)))⟩
end
def Lv.mark {fn}{u}{q'}{r}(hu:u≠ .run)(hq:Le q (pto r (.deferred (some []))::q'))
 (h:Lv P G fn R F ds u p q'):Lv P G fn R F (markD r::ds) u p q:=by
 intro tm w fr cs h1 h2 h3 o y ag s;have v:=s.le hq;have x:=v.has (dV _ _ _)
 have a:(Instr.takeDeferred r).run P w= .ok [] { w with heap:=w.heap.setIfInBounds r (.deferred none) } :=by
  have hg:(getObj r).run P w= .ok (.deferred (some [])) w:=by simp [getObj,Sem.run,x]
  simp [Instr.takeDeferred,hg];rw [T7 x (by intro c e z;simp)];simp
 have d:Go.step P (lone fr cs w)= .next (lone { fr with defers:=ds } cs { w with heap:=w.heap.setIfInBounds r (.deferred none) }):=by
  refine step_lone_go ?_;have ⟨a0,i,g,f,b,k,ro⟩:=fr;subst h3 o
  cases b with
  |run=>exact aV rfl hu
  |returning=>simp [stepG,unwind,markD,a]
  |panicking ch=>simp [stepG,unwind,markD,a]
 have ⟨e,w',t,j,hR,m,hs,l,n,hl⟩:=h tm _ { fr with defers:=ds } cs h1 h2 rfl o y ag ((St.setObj (o':= .deferred none) v).le (.drop _ _));exact ⟨e,w',t,j,hR,m,hs,(Steps.one d).trans l,n,hl⟩
end
section
variable {P:Program}{G w:World}{n bytes:Nat}{j:Int}{d:Option Tmp}{pos:String}{af:Array Edge}{gd:Option (Nat×Bool)}{x y:Operand}{z:Value}
variable {α:Type}
def lsH (f:α->Value)(ty:TypeId)(a:Option Addr)(c:Nat)(l:List α):HP:=slH a c ty 1 l.length (l.map f)
section
variable {fr:Fc}{Q:Yp}{k:List Item}{p:PE}{ds:List Deferred}{cs:List Frame}{q r:List HP}{ops lo:List Oper}{f:α->Value}{ty:TypeId}{a b:Option Addr}{c c':Nat}{l m:List α}
def Sees.lsH (q:List HP):Sees (lsH f ty a c l::q) a (l.map f):=Sees.slH q
abbrev bV:=@Sees.lsH
def Yy (f:α->Value)(ty:TypeId)(q:List HP):Le q (Wx.lsH f ty none 0 []::q):=Nw ty 1 q
def Sees.at {bk o}(h:Sees q (some ⟨bk,o,none⟩) (l.map f))(hj:j=n)(hn:n<l.length):Cl q ⟨bk,o+j.toNat*1,none⟩ (f l[n]):=by
 subst hj;exact h.cl (by simp [hn])
def Ef.appL {ty'}{t}{i}(ht:P.underlying t=some (.slice ty))(hi:(P.info? ty).map (fun i=>(i.zero,i.size,i.bytes))=some (some z,1,bytes))(hz:z.cells.size=1)
 (hx:evp p x=some (.slice a i c)) (hy:evp p y=some (.slice b m.length c')) (hq:Le q (Wx.lsH f ty a c l::r)) (hin:i<=l.length) (hs:Sees q b (m.map f)) (h1: ∀ u,(f u).oneCell'=true)
 (h63:i+m.length<=9223372036854775807) (hby:(i+m.length)*bytes<=140737488355328):
 Ef P G p q ⟨d,.call ⟨.builtin .append, [x,y].toArray, [t,t].toArray⟩,ty',pos,af,gd⟩ fun v q'=> ∃ a' c',v= .slice a' (l.take i++m).length c'/\q'=Wx.lsH f ty a' c' (l.take i++m)::r:=by
 have h:=Ef.append (G:=G) (d:=d) (ty:=ty') (pos:=pos) (af:=af) (gd:=gd) ht hi hz rfl hx hy hq hin hs Zf (by grind) h63 hby;simp_all [Wx.lsH]
def Wu {ty'}{t}(ht:P.underlying t=some (.slice ty))(hi:(P.info? ty).map (fun i=>(i.zero,i.size,i.bytes))=some (some z,1,bytes))(hz:z.cells.size=1)
 (hx:evp p x=some (.slice a l.length c)) (hy:evp p y=some (.slice b m.length c')) (hq:Le q (Wx.lsH f ty a c l::r)) (hs:Sees q b (m.map f)) (h1: ∀ u,(f u).oneCell'=true)
 (h63:l.length+m.length<=9223372036854775807) (hby:(l.length+m.length)*bytes<=140737488355328):
 Ef P G p q ⟨d,.call ⟨.builtin .append, [x,y].toArray, [t,t].toArray⟩,ty',pos,af,gd⟩ fun v q'=> ∃ a' c',v= .slice a' (l++m).length c'/\q'=Wx.lsH f ty a' c' (l++m)::r:=by
 simpa using (Ef.appL (ty':=ty') ht hi hz hx hy hq (aS _) hs h1 h63 hby)
def Qd {ty'}{t}{u}(f:α->Value)(ht:P.underlying t=some (.slice ty))(hi:(P.info? ty).map (fun i=>(i.zero,i.size,i.bytes))=some (some z,1,bytes))
 (hx:evp p x=some (f u)) (h1:(f u).cells= #[f u]):
 Ef P G p q ⟨d,.buildSlice t 1 [(0,x)].toArray,ty',pos,af,gd⟩ fun v q'=> ∃ g,v= .slice (some ⟨g,0,none⟩) 1 1/\q'=Wx.lsH f ty (some ⟨g,0,none⟩) 1 [u]::q:=by
 have a:Instr.fill (fun i=>some (i*1,1)) ((Array.range (1*1)).map (z.cells[· % z.cells.size]!)) (([(0,x)].map (·.1)).zip [f u])=some [f u].toArray:=by
  simp [Instr.fill,h1,Array.range];rfl
 exact kS ht hi (by simp [evl,hx]) rfl rfl a rfl
def Dd {ty'}{t}(f:α->Value)(ht:P.underlying t=some (.slice ty))(hi:(P.info? ty).map (fun i=>(i.zero,i.size,i.bytes))=some (some z,1,bytes)):
 Ef P G p q ⟨d,.buildSlice t 0 #[],ty',pos,af,gd⟩ fun v q'=> ∃ g,v= .slice (some ⟨g,0,none⟩) 0 0/\q'=Wx.lsH f ty (some ⟨g,0,none⟩) 0 []::q:=
 B9 ht hi
def St.lsAddr (s:St G w (Wx.lsH f ty a c l::q))(h:0<l.length): ∃ g,a=some ⟨g,0,none⟩:=by
 obtain ⟨i,e|⟨g,b,d,_⟩⟩:=s.slH_elim
 all_goals grind
def St.lsLen (s:St G w (Wx.lsH f ty a c l::q)):l.length<=c/\c<=9223372036854775807:=by
 have:=s.slLen.2;simpa [maxLen] using this
def Mh {ty'}{t}{u}{g}(hx:evp p x=some (.pointer (some ⟨g,0+j.toNat*1,none⟩)))(hy:evp p y=some (f u))(hsz: ∀ w,(Go.sizeOf t).run P w= .ok 1 w)
 (hj:j=n) (hn:n<l.length) (hv:(f u).cells= #[f u]) (h1:(f u).oneCell'=true) (hq:Le q (Wx.lsH f ty (some ⟨g,0,none⟩) c l::r)):
 Ef P G p q ⟨d,.store t x y,ty',pos,af,gd⟩ fun z q'=>z=undef/\q'=Wx.lsH f ty (some ⟨g,0,none⟩) c (l.set n u)::r:=by
 subst hj;intro tm w ag s;obtain ⟨h0,h2|⟨g',a,m,k,i,h,e,b⟩⟩:=(s.le hq).slH_elim
 . omega
 cases m
 have hc:n<a.size:=Zq;obtain ⟨z,w',q',v,o,rfl,rfl⟩:=Ef.store (q:=pto g (.cells a.toList.toArray ty (0,0))::r) hx hy hsz hv h1 (Le.here _ _) (by simp_all) tm w ag (by simpa using b);refine ⟨_,w',_,v,?_,rfl,rfl⟩;have hl:(l.set n u).length=l.length:=Zf;unfold Wx.lsH;rw [hl];refine o.le (Yo k i (by simp [Ff,h]) ?_ r);rw [Ff,iF,<-e];simp [List.take_set]
end
def Le.append_right {a b}(h:Le a b)(F:List HP):Le (a++F) (b++F):=
 ((Zh a F).trans (.one fun M x p=>h M x p)).trans (Zb b F)
section
variable {pre pre':List HP}{vs:List Value}{R R':Uc}
def CallV.conv {fv}(hp:Le pre pre')(h:CallV P G fv vs pre' R)(hr: ∀ e q,R e q-> ∃ q',R' e q'/\Le q q'):CallV P G fv vs pre R':=by
 intro F w s fr cs d c;have ⟨e,w',⟨q,g,b⟩,rest⟩:=h F w (s.le (hp.append_right F)) fr cs d c;have ⟨q',a,f⟩:=hr e q g;exact ⟨e,w',⟨q',a,b.le (f.append_right F)⟩,rest⟩
abbrev gY:=@CallV.conv
def CallF.conv {fn}(hp:Le pre pre')(h:CallF P G fn vs pre' R)(hr: ∀ e q,R e q-> ∃ q',R' e q'/\Le q q'):CallF P G fn vs pre R':=by
 intro F w s cs;have ⟨e,w',fr,⟨a,q,f,c⟩,rest⟩:=h F w (s.le (hp.append_right F)) cs;have ⟨q',b,d⟩:=hr e q f;exact ⟨e,w',fr,⟨a,q',b,c.le (d.append_right F)⟩,rest⟩
abbrev eC:=@CallF.conv
end
end
section
variable {P:Program}{G:World}{p:PE}{q:List HP}{d:Option Tmp}{pos:String}{af:Array Edge}{gd:Option (Nat×Bool)}{x:Operand}{kd ky:IntKind}{m n:Int}{k:Nat}{xs ys:Array Value}{b:Bool}{v:Value}
section
variable {ty:TypeId}{y:Operand}
def Pu.shr {t t'}(hx:evp p x=some (.int kd m))(hy:evp p y=some (.int ky n))(h0:0<=n):Pu P p ⟨d,.binOp .shr t x y t',ty,pos,af,gd⟩ (.int kd (m.fdiv (2 ^ min n.toNat kd.bits))):=
 fun tm w a=>by
  have b: ¬n<0:=Zq;simp [execOp,Zu a hx,Zu a hy,eqGuard,Go.binOp,Op.shift,b]
def Pu.max2 {ats}(hx:evp p x=some (.int kd m))(hy:evp p y=some (.int ky n)):
 Pu P p ⟨d,.call ⟨.builtin .max, [x,y].toArray,ats⟩,ty,pos,af,gd⟩ (.int kd (max m n)):=fun tm w a=>by
 rw [Qm (us:= [.int kd m,.int ky n]) a (by simp [evl,hx,hy])];simp [builtin,Builtin.max_,Builtin.max2];split<;>omega
def Pu.min2 {ats}(hx:evp p x=some (.int kd m))(hy:evp p y=some (.int ky n)):
 Pu P p ⟨d,.call ⟨.builtin .min, [x,y].toArray,ats⟩,ty,pos,af,gd⟩ (.int kd (min m n)):=fun tm w a=>by
 rw [Qm (us:= [.int kd m,.int ky n]) a (by simp [evl,hx,hy])];simp [builtin,Builtin.min_,Builtin.min2];split<;>omega
def EqV (P:Program)(k:Nat)(t:TypeId)(x y:Value)(b:Bool):Prop:= ∀ w,(Op.equalIn k t x y).run P w= .ok b w
def EqV.int {t}{kd'}(h:P.underlying t=some (.int kd'))(a b:Int):EqV P (k+1) t (.int kd a) (.int kd b) (a==b):=fun w=>run_equalIn_int w k t kd kd' a b h
abbrev eO:=@EqV.int
def EqV.bool {t}(h:P.underlying t=some .bool)(a b:Bool):EqV P (k+1) t (.bool a) (.bool b) (a==b):=fun w=>run_equalIn_bool' w k t a b h
def EqFs (P:Program)(k:Nat)(xs ys:List Value):List (TypeId×Nat)->Bool->Prop
 | [],b=>b=true
 |(t,o)::r,b=> ∃ x y b1 b2,nth xs o=some x/\nth ys o=some y/\(∀ w,(isAgg t).run P w= .ok false w)/\EqV P k t x y b1/\EqFs P k xs ys r b2/\b=(b1 && b2)
def EqFs.run {xs ys}{w}: ∀ {fs} {b}, fs.all (fun f => f.name != "_") = true → EqFs P k xs ys (fs.map fun f => (f.type, f.offset)) b → (Op.eqFields k xs.toArray ys.toArray fs).run P w = .ok b w
 | [],b,_,h=>by cases h;rfl
 |f::fs,b,hn,h=>by
  obtain ⟨x,y,i,j,hx,hy,g,e,d,rfl⟩:=h;simp only [iN,bA,jI] at hn;rw [Qi] at hx hy;simp [Op.eqFields,hn.1,part,g w,hx,hy,e w]
  cases i
  . simp
  simp [EqFs.run hn.2 d]
def EqV.struct {t}{xs ys}{fs : List Field}(hu : P.underlying t = some (.struct fs.toArray))(hp : P.stoodInHeld t = false)(hn : fs.all (fun f => f.name != "_") = true)(h : EqFs P k xs ys (fs.map fun f => (f.type, f.offset)) b):
 EqV P (k+1) t (.agg xs.toArray) (.agg ys.toArray) b:=fun w=>by
 have a:P.fieldsOf t=fs.toArray:=by simp [Program.fieldsOf,hu]
 rw [run_equalIn_struct w k t _ _ (by grind) hp,a];exact h.run hn
abbrev jJ:=@EqV.struct
def Gg {t t'}(hx:evp p x=some (.agg xs))(hy:evp p y=some (.agg ys))(hg:P.eqGuardType P.depth t=false)(h:EqV P Op.maxDepth t (.agg xs) (.agg ys) b):
 Pu P p ⟨d,.binOp .eql t x y t',ty,pos,af,gd⟩ (.bool b):=fun tm w a=>by
 have c:(Op.equal t _ _).run P w= .ok b w:=h w;simp [execOp,Zu a hx,Zu a hy,eqGuard,hg,Go.binOp,c]
def Zb9 {t t'}(hx:evp p x=some (.agg xs))(hy:evp p y=some (.agg ys))(hg:P.eqGuardType P.depth t=false)(h:EqV P Op.maxDepth t (.agg xs) (.agg ys) b):
 Pu P p ⟨d,.binOp .neq t x y t',ty,pos,af,gd⟩ (.bool !b):=fun tm w a=>by
 have c:(Op.equal t _ _).run P w= .ok b w:=h w;simp [execOp,Zu a hx,Zu a hy,eqGuard,hg,Go.binOp,c]
end
def rdA (i b o:Nat):List Value->Rds
 | []=> []
 |v::r=>(i,b,o,v)::rdA i b (o+1) r
def Zqq (i b:Nat): ∀ (l:List Value) (o:Nat),(rdA i b o l).all (fun e=>Nat.beq e.1 i)=true
 | [],_=>rfl
 |v::r,o=>by simp [rdA,Zqq i b r]
def X9 {i b}: ∀ {l} {o j} {v},l[j]? =some v->(i,b,o+j,v)∈rdA i b o l
 | [],_,_,_,h=>by simp at h
 |u::r,o,0,v,h=>by simp at h;subst h;simp [rdA]
 |u::r,o,j+1,v,h=>by
  simp [List.getElem?_cons_succ] at h;have:=X9 (i:=i) (b:=b) (o:=o+1) h;rw [fW,kZ 1 j] at this;exact bQ _ this
def HL.rdA {i b}: ∀ {l} {o},(∀ j v,l[j]? =some v->Cl q ⟨b,o+j,none⟩ v)->HL q (Wx.rdA i b o l)
 | [],_,_=>trivial
 |v::r,o,h=>⟨h 0 v rfl,HL.rdA fun j u a=>by rw [fW,kZ 1 j];simp_all⟩
section
variable {f:Fc}{Q:Yp}{k:List Item}{pk:PE}{L:Rds}{m n:Nat}{done:List Nat}{ds:List Deferred}{cs:List Frame}{ops:List Oper}{ty:TypeId}
def XD.loadA (i:Nat){t}{d}{b o sz}{l}{t'}{fz}(ho:ops[i]? =some ⟨some d,.load t x,ty,pos,af,gd⟩)
 (hx:evp p x=some (.pointer (some ⟨b,o,none⟩))) (ht: ∀ w,(isAgg t).run P w= .ok true w) (hs: ∀ w,(Go.sizeOf t).run P w= .ok sz w) (hh:Has q b (.cells l.toArray t' fz)) (hv:Nat.ble (o+sz) l.length=true)
 (K:XD P G f Q ops k pk (rdA i b o (Wx.sub l o sz)++L) n (i::done) ((d,.agg (Wx.sub l o sz).toArray)::p) ds cs q)
 (hr:rdy ops done i=true:=by rfl) (hw:Wt ops p ⟨some d,.load t x,ty,pos,af,gd⟩=some true:=by rfl) (hd:Nat.blt d f.n=true:=by rfl):XD P G f Q ops k pk L (n+1) done p ds cs q:=by
 have e:o+sz<=l.length:=by simp_all
 have g:(Wx.sub l o sz).length=sz:=by simp [Wx.sub];omega
 refine XD.rdL i ho _ (Zqq _ _ _ _) (HL.rdA fun j v a=>fC hh ?_) (fun tm w m h=> ?_) K hr hw hd
 . grind [Qi,Wx.sub]
 have c:=run_loadCells_list (P:=P) w ⟨b,o,none⟩ _ (fun j u a=>by
  rw [Vu];exact h _ (X9 a))
 rw [g] at c;simp [execOp,Zu m hx,Instr.loadAt,Instr.sureAddr,loadVar,ht,hs,c]
end
section
variable {rs:List ResultVar}{vs:List Value}
theorem ResOk.nil:ResOk P G p q [] []:=trivial
abbrev fM:=@ResOk.nil
def ResOk.tmp {t:Tmp}(h:lkp p t=some v)(r:ResOk P G p q rs vs):ResOk P G p q (.tmp t::rs) (v::vs):=⟨h,r⟩
abbrev kE:=@ResOk.tmp
def ResOk.cell {a:Tmp}{t}{A}(h:lkp p a=some (.pointer (some A)))(l:LV P G q t A v)(r:ResOk P G p q rs vs):ResOk P G p q (.cell a t::rs) (v::vs):=⟨⟨A,h,l⟩,r⟩
abbrev eD:=@ResOk.cell
end
def Zg4 {us}(hus: ∀ u∈us,u.cells= #[u]): ∀ (n:Nat) (pre post:List Value),pre.length=n->post.length=us.length->
 Instr.fill (fun i=>some (i*1,1)) (pre++post).toArray ((List.range' n us.length).zip us)=some (pre++us).toArray:=by
 induction us with
 |nil=>simp_all [Instr.fill]
 |cons u r ih=>
  intro n pre post b h;obtain ⟨x,post,rfl⟩: ∃ x l,post=x::l:=by cases post<;>grind
  have d:=ih (fun v a=>hus v (bQ _ a)) (n+1) (pre++ [u]) post (by simp [b]) (by simpa using h);simp_all [List.range'_succ,Instr.fill]
section
variable {α:Type}
def Qu {ty'}{t e}{z}{bytes n}{ps:List (Nat×Operand)}(f:α->Value)(l:List α)(ht:P.underlying t=some (.slice e))(hi:(P.info? e).map (fun i=>(i.zero,i.size,i.bytes))=some (some z,1,bytes))(hz:z.cells.size=1)
 (hv:evl p (ps.map (·.2))=some (l.map f)) (hx:ps.map (·.1)=List.range' 0 n) (hn:l.length=n) (h0:Nat.blt 0 n=true) (h1:Nat.ble n 16777216=true) (hc: ∀ u,(f u).cells= #[f u]):
 Ef P G p q ⟨d,.buildSlice t n ps.toArray,ty',pos,af,gd⟩ fun v q'=> ∃ g,v= .slice (some ⟨g,0,none⟩) n n/\q'=lsH f e (some ⟨g,0,none⟩) n l::q:=by
 subst hn
 have a:Instr.fill (fun i=>some (i*1,1)) ((Array.range (l.length*1)).map (z.cells[· % z.cells.size]!)) ((ps.map (·.1)).zip (l.map f))=some (l.map f).toArray:=by
  rw [hx];have:=Zg4 (us:=l.map f) (fun u b=>by grind) 0 [] ((Array.range (l.length*1)).map (z.cells[· % z.cells.size]!)).toList rfl Zf;rw [aI] at this;exact this
 exact kS ht hi hv (by grind) (by grind) a Zf
end
end
section
def wf64 {n}(h:(Lit.int .i64 n).wf=true): -9223372036854775808<=n/\n<=9223372036854775807:=by
 grind [Lit.wf,IntKind.min,IntKind.max,IntKind.signed,IntKind.bits]
def CallF.law {P}{fn}{vs}{q}{w}{R}(h:CallF P w fn vs q (Ret R))(hR: ∀ v q',R v q'->v= .bool true)(s:St w w q):
 Calls P fn vs.toArray w fun e w'=>e= .returned (.bool true)/\Below w.heap.size w w':=
 (h [] w (by simpa using s)).mono fun e w' ⟨_,q',⟨v,b,a⟩,s'⟩=>⟨by grind,s'.below⟩
end
end Wx
