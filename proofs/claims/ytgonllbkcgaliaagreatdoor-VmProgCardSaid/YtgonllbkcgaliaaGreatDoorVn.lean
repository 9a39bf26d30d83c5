/- Contracts of functions, proved by walking their code. -/
import Derived.Test.YtgonllbkcgaliaaGreatDoorVm
import Derived.KernelRfl
set_option maxRecDepth 100000
set_option linter.unusedVariables false
set_option linter.unusedSimpArgs false
namespace Go.Proofs.YtgonllbkcgaliaaGreatDoor
open Go Go.RowKit Wx Go.Proofs.Tryz
attribute [local irreducible] Wx.lsH Wx.rsH Wx.stars
mutual
/-- How deep the stack is ahead of each instruction of an expression's code. -/
def PEx.dl:PEx→Int→List Int
 | .mk k n nm slot loc op args,d=>
  if (PEx.one (.mk k n nm slot loc op args))=true then [d]
  else if k=2 then [d]
  else if k=1 then [d]
  else
   let a:=(J9 args).getD 0 (fun _=> []) d
   if k=6∧op≤2 then a++ [d+1]++(J9 args).getD 1 (fun _=> []) d++ [d+1,d+1,d]
   else if k=3 then a++ [d+1]
   else if k=4 then a++ [d+1]
   else if k=5 then a++ [d+1]
   else a++(J9 args).getD 1 (fun _=> []) (d+1)++ [d+2]
def J9:List PEx→List (Int→List Int)
 | []=> []
 |e::r=>e.dl::J9 r
end
def Atl {α:Type}(L:List α)(s:Nat)(C:List α):Prop:= ∀ i,i<C.length→L[s+i]? =C[i]?
theorem Atl.app {α:Type}{L A B:List α}{s:Nat}:Atl L s (A++B)↔Atl L s A∧Atl L (s+A.length) B:=by
 constructor
 · intro h
   refine ⟨fun i hi=> ?_,fun i hi=> ?_⟩
   · rw [h i (by rw [List.length_append];omega),List.getElem?_append_left hi]
   rw [Nat.add_assoc,h (A.length+i) (by rw [List.length_append];omega),List.getElem?_append_right (by omega),Nat.add_sub_cancel_left]
 rintro ⟨h1,h2⟩ i hi
 rw [List.length_append] at hi
 by_cases hl:i<A.length
 · rw [h1 i hl,List.getElem?_append_left hl]
 have:=h2 (i - A.length) (by omega)
 rw [show s+A.length+(i - A.length)=s+i by omega] at this
 rw [this,List.getElem?_append_right (by omega)]
theorem Atl.one {α:Type}{L:List α}{s:Nat}{x:α}:Atl L s [x]↔L[s]? =some x:=by
 constructor
 · intro h;have:=h 0 (by simp);simpa using this
 intro h i hi
 obtain rfl:i=0:=by simp at hi;omega
 simpa using h
theorem Atl.cons {α:Type}{L r:List α}{s:Nat}{x:α}:Atl L s (x::r)↔L[s]? =some x∧Atl L (s+1) r:=by
 rw [show x::r= [x]++r from rfl,Atl.app,Atl.one];rfl
def Cnd (L:List Ins)(D:List Int)(p:Nat):Prop:=
 ∃ i e,L[p]? =some i∧D[p]? =some e∧0≤e∧ ¬e<(Yh i.c).1∧e - (Yh i.c).1+(Yh i.c).2≤25∧((i.c=23∨i.c=34)→e=0)∧ ∀ y∈nxt i p,0≤y∧D[y.toNat]? =some (e - (Yh i.c).1+(Yh i.c).2)
theorem Cnd.go {L:List Ins}{D:List Int}{p:Nat}{i:Ins}{e a b:Int}(hL:L[p]? =some i)(hD:D[p]? =some e)(he:0≤e)(hf:Yh i.c=(a,b))(h1:a≤e)(h2:e - a+b≤25)(hc:i.c=23∨i.c=34→e=0)(h3: ∀ y∈nxt i p,0≤y∧D[y.toNat]? =some (e - a+b)):Cnd L D p:=
 ⟨i,e,hL,hD,he,by rw [hf];dsimp only;omega,by rw [hf];exact h2,hc,by rw [hf];exact h3⟩
theorem Cnd.on {L:List Ins}{D:List Int}{p:Nat}{i:Ins}{e a b:Int}(hL:L[p]? =some i)(hD:D[p]? =some e)(hn:D[p+1]? =some (e - a+b))(he:0≤e)(hf:Yh i.c=(a,b))(h1:a≤e)(h2:e - a+b≤25)(hc: ¬ (i.c=19∨i.c=20∨i.c=21∨i.c=34))(hm:i.c=23→e=0):Cnd L D p:=by
 refine .go hL hD he hf h1 h2 (fun k=>hm (by omega)) fun y hy=> ?_
 unfold nxt at hy
 rw [if_neg (by omega),if_neg (by omega),if_neg (by omega),List.mem_singleton] at hy
 rw [hy]
 refine ⟨by omega,?_⟩
 rw [show ((p:Int)+1).toNat=p+1 by omega];exact hn
theorem Cnd.jmp {L:List Ins}{D:List Int}{p t:Nat}{i:Ins}{e:Int}(hL:L[p]? =some i)(hD:D[p]? =some e)(hc:i.c=19)(ht:i.a=t)(hn:D[t]? =some e)(he:0≤e)(h2:e≤25):Cnd L D p:=by
 refine .go (a:=0) (b:=0) hL hD he (by rw [hc];decide) he (by omega) (fun k=>by omega) fun y hy=> ?_
 unfold nxt at hy
 rw [if_neg (by omega),if_pos hc,List.mem_singleton] at hy
 rw [hy,ht]
 exact ⟨by omega,by rw [Int.toNat_natCast,hn];congr 1;omega⟩
theorem Cnd.jif {L:List Ins}{D:List Int}{p t:Nat}{i:Ins}{e:Int}(hL:L[p]? =some i)(hD:D[p]? =some e)(hc:i.c=20∨i.c=21)(ht:i.a=t)(hn:D[t]? =some (e - 1))(hn2:D[p+1]? =some (e - 1))(he:1≤e)(h2:e≤25):Cnd L D p:=by
 refine .go (a:=1) (b:=0) hL hD (by omega) (by rcases hc with hc|hc<;>rw [hc]<;>decide) he (by omega) (fun k=>by omega) fun y hy=> ?_
 have hy2:y=i.a∨y=(p:Int)+1:=by
  unfold nxt at hy
  rw [if_neg (by omega),if_neg (by omega),if_pos hc] at hy
  split at hy
  · left;exact List.mem_singleton.1 hy
  rcases List.mem_cons.1 hy with h|h
  · left;exact h
  right;exact List.mem_singleton.1 h
 rcases hy2 with rfl|rfl
 · rw [ht];exact ⟨by omega,by rw [Int.toNat_natCast,hn];congr 1;omega⟩
 refine ⟨by omega,?_⟩
 rw [show ((p:Int)+1).toNat=p+1 by omega,hn2];congr 1;omega
def Cnds (L:List Ins)(D:List Int)(s n:Nat):Prop:= ∀ p,s≤p→p<s+n→Cnd L D p
theorem Cnds.app {L:List Ins}{D:List Int}{s n m:Nat}(h:Cnds L D s n)(h2:Cnds L D (s+n) m):Cnds L D s (n+m):=fun p h1 h3=>by
 by_cases k:p<s+n
 · exact h p h1 k
 exact h2 p (by omega) (by omega)
theorem Cnds.one {L:List Ins}{D:List Int}{s:Nat}(h:Cnd L D s):Cnds L D s 1:=fun p h1 h3=>by
 obtain rfl:p=s:=by omega
 exact h
theorem Cnds.len {L:List Ins}{D:List Int}{s n m:Nat}(h:Cnds L D s n)(e:n=m):Cnds L D s m:=e ▸ h
theorem Vq {D:List Int}{p q:Nat}{x:Option Int}(h:D[p]? =x)(e:p=q):D[q]? =x:=e ▸ h
theorem T8 {D:List Ins}{p q:Nat}{x:Option Ins}(h:D[p]? =x)(e:p=q):D[q]? =x:=e ▸ h
theorem Atl.at {α:Type}{L C:List α}{s t:Nat}(h:Atl L s C)(e:s=t):Atl L t C:=e ▸ h
theorem Cnd.pt {L:List Ins}{D:List Int}{p q:Nat}(h:Cnd L D p)(e:p=q):Cnd L D q:=e ▸ h
theorem PEx.sz_pos (e:PEx):1≤e.sz:=by cases e;simp only [PEx.sz];omega
theorem Qu: ∀ (N:Nat) (e:PEx),e.sz≤N→e.fit→ ∀ (s d:Int),(e.dl d).length=(e.code s).length∧(e.dl d)[0]? =some d
 |0,e,hN,_,_,_=>by have:=e.sz_pos;omega
 |N+1,.mk k n nm slot loc op args,hN,⟨hk,hm,hn1,hop,hfa⟩,s,d=>by
  simp only [PEx.dl,PEx.code]
  split
  · exact ⟨rfl,rfl⟩
  split
  · exact ⟨rfl,rfl⟩
  split
  · exact ⟨rfl,rfl⟩
  rename_i k2 k1
  have hx: ∀ x∈args,∀ s d,(x.dl d).length=(x.code s).length∧(x.dl d)[0]? =some d:=fun x hx s d=>by
   obtain ⟨i,hi,rfl⟩:=List.getElem_of_mem hx
   have:=Rz hi
   simp only [PEx.sz] at hN
   exact Qu N _ (by omega) (Qk hfa hx) s d
  have h0: ∀ {x:PEx} {r:List Int},(∀ s d,(x.dl d).length=(x.code s).length∧(x.dl d)[0]? =some d)→(x.dl d++r)[0]? =some d:=fun {x r} h=>by
   have h2:=(h s d).2
   rw [List.getElem?_append_left (by obtain ⟨h3,_⟩:=List.getElem?_eq_some_iff.1 h2;exact h3)];exact h2
  by_cases h6:k=6
  · obtain ⟨x,y,rfl⟩: ∃ x y,args= [x,y]:=by
     match args,hm with
     | [x,y],_=>exact ⟨x,y,rfl⟩
     | [],hm=>rw [h6] at hm;cases hm
     | [_],hm=>rw [h6] at hm;cases hm
     |_::_::_::_,hm=>rw [h6] at hm;simp [Nq] at hm
    have ix:=hx x (by simp);have iy:=hx y (by simp)
    simp only [J9,PEx.codes,List.getD_cons_zero,List.getD_cons_succ]
    subst h6
    by_cases ho:op≤2
    · simp (decide:=true) only [ho,and_true,true_and,and_false,false_and,if_true,if_false,reduceIte]
      refine ⟨by simp only [List.length_append,List.length_cons,List.length_nil];rw [(ix s d).1,(iy (s+(x.code s).length+1) d).1],?_⟩
      rw [List.append_assoc,List.append_assoc];exact h0 ix
    simp (decide:=true) only [ho,and_true,true_and,and_false,false_and,if_true,if_false,reduceIte]
    refine ⟨by simp only [List.length_append,List.length_cons,List.length_nil];rw [(ix s d).1,(iy (s+(x.code s).length) (d+1)).1],?_⟩
    rw [List.append_assoc];exact h0 ix
  obtain ⟨x,rfl⟩: ∃ x,args= [x]:=by
   have h1:args.length=1:=by rw [hm];unfold Nq;rw [if_pos (by omega)]
   match args,h1 with
   | [x],_=>exact ⟨x,rfl⟩
  have ix:=hx x (by simp)
  simp only [J9,PEx.codes,List.getD_cons_zero]
  have hc:k=3∨k=4∨k=5:=by omega
  rcases hc with rfl|rfl|rfl<;>simp (decide:=true) only [false_and,if_true,if_false,reduceIte]<;>exact ⟨by simp only [List.length_append,List.length_cons,List.length_nil];rw [(ix s d).1],h0 ix⟩
theorem Atl.hd {L C:List Int}{s:Nat}{d:Int}(h:Atl L s C)(h0:C[0]? =some d):L[s]? =some d:=by
 have:=h 0 (by obtain ⟨h3,_⟩:=List.getElem?_eq_some_iff.1 h0;exact h3)
 rw [Nat.add_zero] at this;rw [this,h0]
theorem PEx.snd (L:List Ins)(D:List Int): ∀ (N:Nat) (e:PEx),e.sz≤N→e.fit→ ∀ (s:Nat) (d:Int),0≤d→d+e.dep≤25→Atl L s (e.code s)→Atl D s (e.dl d)→D[s+(e.code s).length]? =some (d+1)→Cnds L D s (e.code s).length
 |0,e,hN,_,_,_,_,_,_,_,_=>by have:=e.sz_pos;omega
 |N+1,.mk k n nm slot loc op args,hN,⟨hk,hm,hn1,hop,hfa⟩,s,d,hd,hdep,hL,hD,hE=>by
  have hx: ∀ x∈args,∀ (s:Nat) (d:Int),0≤d→d+x.dep≤25→Atl L s (x.code s)→Atl D s (x.dl d)→D[s+(x.code s).length]? =some (d+1)→Cnds L D s (x.code s).length:=fun x hx=>by
   obtain ⟨i,hi,rfl⟩:=List.getElem_of_mem hx
   have:=Rz hi
   simp only [PEx.sz] at hN
   exact PEx.snd L D N _ (by omega) (Qk hfa hx)
  have hl: ∀ x∈args,∀ (s d:Int),(x.dl d).length=(x.code s).length∧(x.dl d)[0]? =some d:=fun x hx=>Qu _ x (Nat.le_refl _) (Qk hfa hx)
  simp only [PEx.dep] at hdep
  simp only [PEx.code] at hL hE⊢
  simp only [PEx.dl] at hD
  split at hL
  · rename_i h1
    rw [if_pos h1] at hD hE⊢
    rw [Atl.one] at hL hD
    exact .one (.on (a:=0) (b:=1) hL hD (by simpa using hE) hd (show Yh 1=(0,1) by decide) hd (by omega) (show ¬ ((1:Int)=19∨(1:Int)=20∨(1:Int)=21∨(1:Int)=34) by decide) (fun h=>absurd (show (1:Int)=23 from h) (by decide)))
  rename_i h1
  rw [if_neg h1] at hD hE⊢
  split at hL
  · rename_i h2
    rw [if_pos h2] at hD hE⊢
    rw [Atl.one] at hL hD
    refine .one (.on (a:=0) (b:=1) hL hD (by simpa using hE) hd ?_ hd (by omega) ?_ (fun h=> ?_))
    · dsimp only;split<;>decide
    · dsimp only;split<;>decide
    dsimp only at h;split at h<;>exact absurd h (by decide)
  rename_i h2
  rw [if_neg h2] at hD hE⊢
  split at hL
  · rename_i h3
    rw [if_pos h3] at hD hE⊢
    rw [Atl.one] at hL hD
    exact .one (.on (a:=0) (b:=1) hL hD (by simpa using hE) hd (show Yh 1=(0,1) by decide) hd (by omega) (show ¬ ((1:Int)=19∨(1:Int)=20∨(1:Int)=21∨(1:Int)=34) by decide) (fun h=>absurd (show (1:Int)=23 from h) (by decide)))
  rename_i h3
  rw [if_neg h3] at hD hE⊢
  (try dsimp only at hL);(try dsimp only at hD);(try dsimp only at hE);(try dsimp only)
  by_cases h6:k=6
  · obtain ⟨x,y,rfl⟩: ∃ x y,args= [x,y]:=by
     match args,hm with
     | [x,y],_=>exact ⟨x,y,rfl⟩
     | [],hm=>rw [h6] at hm;cases hm
     | [_],hm=>rw [h6] at hm;cases hm
     |_::_::_::_,hm=>rw [h6] at hm;simp [Nq] at hm
    have ix:=hx x (by simp);have iy:=hx y (by simp);have lx:=hl x (by simp);have ly:=hl y (by simp)
    simp only [J9,PEx.codes,List.getD_cons_zero,List.getD_cons_succ] at hL hD hE⊢
    simp only [Y2] at hdep
    subst h6
    by_cases ho:op≤2
    · simp (decide:=true) only [ho,and_true,true_and,and_false,false_and,if_true,if_false,reduceIte] at hL hD hE⊢
      rw [Atl.app,Atl.app,Atl.app,Atl.one,Atl.cons,Atl.cons,Atl.one] at hL hD
      obtain ⟨⟨⟨L1,L2⟩,L3⟩,L4,L5,L6⟩:=hL
      obtain ⟨⟨⟨D1,D2⟩,D3⟩,D4,D5,D6⟩:=hD
      have e1:=(lx s d).1
      have e2:=(ly (s+(x.code s).length+1) d).1
      obtain ⟨B,hB⟩: ∃ B,y.code (s+(x.code s).length+1)=B:=⟨_,rfl⟩
      rw [hB] at L2 L3 L4 L5 L6 e2 hE⊢
      simp only [List.length_append,List.length_cons,List.length_nil,e1,e2] at L2 L3 L4 L5 L6 D2 D3 D4 D5 D6 hE⊢
      have hz:((s+(x.code s).length+1:Nat):Int)=(s:Int)+((x.code s).length:Int)+1:=by omega
      have c1:=ix s d hd (by omega) L1 D1 D2
      have dh:=Atl.hd D3 (ly 0 d).2
      have c2:=iy (s+(x.code s).length+1) d hd (by omega) (by rw [hz,hB];exact L3.at (by omega)) (D3.at (by omega)) (by rw [hz,hB];exact Vq D4 (by omega))
      rw [hz,hB] at c2
      have cJ:Cnd L D (s+(x.code s).length):= .jif (t:=s+(x.code s).length+1+B.length+2) L2 D2 (by dsimp only;by_cases h2:op=2<;>simp [h2]) (by dsimp only;omega) (Vq (by rw [show d+1 - 1=d by omega];exact D6) (by omega)) (Vq (by rw [show d+1 - 1=d by omega];exact dh) (by omega)) (by omega) (by omega)
      have c3:Cnd L D (s+(x.code s).length+1+B.length):= .on (a:=1) (b:=1) (T8 L4 (by omega)) (Vq D4 (by omega)) (Vq (by rw [show d+1 - 1+1=d+1 by omega];exact D5) (by omega)) (by omega) (show Yh 22=(1,1) by decide) (by omega) (by omega) (show ¬ ((22:Int)=19∨(22:Int)=20∨(22:Int)=21∨(22:Int)=34) by decide) (fun h=>absurd (show (22:Int)=23 from h) (by decide))
      have c4:Cnd L D (s+(x.code s).length+1+B.length+1):= .jmp (t:=s+(x.code s).length+1+B.length+2+1) (T8 L5 (by omega)) (Vq D5 (by omega)) rfl (by dsimp only;omega) (Vq hE (by omega)) (by omega) (by omega)
      have c5:Cnd L D (s+(x.code s).length+1+B.length+1+1):= .on (a:=0) (b:=1) (T8 L6 (by omega)) (Vq D6 (by omega)) (Vq (by rw [show d - 0+1=d+1 by omega];exact hE) (by omega)) (by omega) (show Yh 1=(0,1) by decide) (by omega) (by omega) (show ¬ ((1:Int)=19∨(1:Int)=20∨(1:Int)=21∨(1:Int)=34) by decide) (fun h=>absurd (show (1:Int)=23 from h) (by decide))
      exact (((((c1.app (.one cJ)).app c2).app (.one (c3.pt (by omega)))).app (.one (c4.pt (by omega)))).app (.one (c5.pt (by omega)))).len (by omega)
    simp (decide:=true) only [ho,and_true,true_and,and_false,false_and,if_true,if_false,reduceIte] at hL hD hE⊢
    obtain ⟨n1,hn1'⟩: ∃ n1,(x.code s).length=n1:=⟨_,rfl⟩
    rw [Atl.app,Atl.app,Atl.one] at hL hD
    obtain ⟨⟨L1,L2⟩,L3⟩:=hL
    obtain ⟨⟨D1,D2⟩,D3⟩:=hD
    rw [(lx s d).1] at D2
    rw [List.length_append,(lx s d).1,(ly (s+(x.code s).length) (d+1)).1] at D3
    rw [List.length_append] at L3
    simp only [List.length_append,List.length_cons,List.length_nil] at hE⊢
    have hz:(((s+(x.code s).length:Nat)):Int)=(s:Int)+((x.code s).length:Int):=by omega
    have d2:=Atl.hd D2 (ly (s+(x.code s).length) (d+1)).2
    have c1:=ix s d hd (by omega) L1 D1 d2
    have c2:=iy (s+(x.code s).length) (d+1) (by omega) (by omega) (by rw [hz];exact L2) D2 (by rw [hz,Nat.add_assoc];rw [show d+1+1=d+2 by omega];exact D3)
    rw [hz] at c2
    refine (c1.app c2).app (.one (.on (a:=2) (b:=1) L3 D3 ?_ (by omega) ?_ (by omega) (by omega) ?_ (fun h=> ?_)))
    · rw [show d+2 - 2+1=d+1 by omega];rw [←hE];congr 1
    · dsimp only;have:op+7=10∨op+7=11∨op+7=12∨op+7=13∨op+7=14∨op+7=15∨op+7=16∨op+7=17∨op+7=18:=by have:=hop rfl;omega
      rcases this with h|h|h|h|h|h|h|h|h<;>rw [h]<;>decide
    · dsimp only;have:=hop rfl;omega
    dsimp only at h;have:=hop rfl;omega
  obtain ⟨x,rfl⟩: ∃ x,args= [x]:=by
   have h1:args.length=1:=by rw [hm];unfold Nq;rw [if_pos (by omega)]
   match args,h1 with
   | [x],_=>exact ⟨x,rfl⟩
  have ix:=hx x (by simp);have lx:=hl x (by simp)
  simp only [J9,PEx.codes,List.getD_cons_zero] at hL hD hE⊢
  simp only [Y2] at hdep
  have e1:=(lx s d).1
  have hc:k=3∨k=4∨k=5:=by omega
  rcases hc with rfl|rfl|rfl<;>simp (decide:=true) only [false_and,if_true,if_false,reduceIte] at hL hD hE⊢ <;>rw [Atl.app,Atl.one] at hL hD<;>simp only [List.length_append,List.length_cons,List.length_nil,e1] at hD hE⊢ <;>refine (ix s d hd (by omega) hL.1 hD.1 hD.2).app (.one (.on (a:=1) (b:=1) hL.2 hD.2 (by rw [show d+1 - 1+1=d+1 by omega];exact hE) (by omega) (by dsimp only;decide) (by omega) (by omega) (by dsimp only;decide) (fun h=>by dsimp only at h;omega)))
def Fq (k:Int)(e ix:PEx):List Int:=
 let d:Int:=if k=3 then 1 else 0
 (if k=3 then [0]++ix.dl 0 else [0])++(if k≤5∨k=11∨k=15 then e.dl d else [])
def preE (k:Int):Int:=if k=3 then 2 else if k≤5∨k=11∨k=15 then 1 else 0
def Gu (k:Int):List Int:=if k=3 then [2] else if k=12 then [0,1] else [preE k]
mutual
def PStm.dl:PStm→List Int
 | .mk k _ _ _ _ e ix body els _ _ _ _=>
  if k=4 then (if els= [] then Fq k e ix++ [1]++Vk body else Fq k e ix++ [1]++Vk body++ [0]++Vk els)
  else if k=5 then Fq k e ix++ [1]++Vk body++ [0]
  else Fq k e ix++Gu k
def Vk:List PStm→List Int
 | []=> []
 |s::r=>s.dl++Vk r
end
theorem Gl {k:Int}{e ix:PEx}{id t:Int}(h:k≤5∨k=11∨k=15→e.fit)(h2:k=3→ix.fit):(Fq k e ix).length=(Q4 k e ix id t).length∧(Fq k e ix)[0]? =some 0:=by
 have a:=fun (h:e.fit) s d=>Qu _ e (Nat.le_refl _) h s d
 have b:=fun (h:ix.fit) s d=>Qu _ ix (Nat.le_refl _) h s d
 unfold Fq Q4
 by_cases h3:k=3
 · subst h3
   have e1:=fun s=>(a (h (by decide)) s 1).1
   have e2:=fun s=>(b (h2 rfl) s 0).1
   simp (decide:=true) only [if_true,true_or,reduceIte]
   refine ⟨?_,rfl⟩
   simp only [List.length_append,List.length_cons,List.length_nil]
   rw [e2 (t+1),e1]
 simp only [if_neg h3]
 by_cases h4:k≤5∨k=11∨k=15
 · have e1:=fun s=>(a (h h4) s 0).1
   simp only [if_pos h4]
   refine ⟨?_,rfl⟩
   simp only [List.length_append,List.length_cons,List.length_nil]
   rw [e1]
 simp only [if_neg h4,List.append_nil]
 exact ⟨rfl,rfl⟩
theorem pre_snd {L:List Ins}{D:List Int}{k:Int}{e ix:PEx}{id:Int}{s:Nat}(h:k≤5∨k=11∨k=15→e.fit∧e.dep≤24)(h2:k=3→ix.fit∧ix.dep≤24)(hL:Atl L s (Q4 k e ix id s))(hD:Atl D s (Fq k e ix))(hE:D[s+(Q4 k e ix id s).length]? =some (preE k)):Cnds L D s (Q4 k e ix id s).length:=by
 have a:=fun (h:e.fit) s d=>Qu _ e (Nat.le_refl _) h s d
 have b:=fun (h:ix.fit) s d=>Qu _ ix (Nat.le_refl _) h s d
 have ce:=fun (h:e.fit)=>PEx.snd L D _ e (Nat.le_refl _) h
 have cx:=fun (h:ix.fit)=>PEx.snd L D _ ix (Nat.le_refl _) h
 have mk: ∀ {p:Nat},L[p]? =some ⟨23,id,0,0⟩→D[p]? =some 0→D[p+1]? =some 0→Cnd L D p:=fun h1 h2 h3=> .on (a:=0) (b:=0) h1 h2 h3 (by omega) (show Yh 23=(0,0) by decide) (by omega) (by omega) (show ¬ ((23:Int)=19∨(23:Int)=20∨(23:Int)=21∨(23:Int)=34) by decide) (fun _=>rfl)
 unfold Fq at hD
 unfold Q4 at hL hE⊢
 unfold preE at hE
 by_cases h3:k=3
 · subst h3
   obtain ⟨f1,f2⟩:=h (by decide);obtain ⟨g1,g2⟩:=h2 rfl
   simp (decide:=true) only [if_true,true_or,reduceIte] at hL hD hE⊢
   rw [Atl.app,Atl.app,Atl.one] at hL hD
   obtain ⟨⟨L1,L2⟩,L3⟩:=hL
   obtain ⟨⟨D1,D2⟩,D3⟩:=hD
   have e2:=(b g1 (s+1) 0).1
   simp only [List.length_append,List.length_cons,List.length_nil,e2] at L2 L3 D2 D3 hE⊢
   have hz:(((s+1:Nat)):Int)=(s:Int)+1:=by omega
   have hz2:((s+(1+(ix.code (s+1)).length):Nat):Int)=(s:Int)+((0+1+(ix.code (s+1)).length:Nat):Int):=by omega
   have dh1:=Atl.hd D2 (b g1 0 0).2
   have dh2:=Atl.hd D3 (a f1 0 1).2
   have c0:=mk L1 D1 (Vq dh1 (by omega))
   have c1:=cx g1 (s+1) 0 (by omega) (by omega) (by rw [hz];exact L2.at (by omega)) (D2.at (by omega)) (by rw [hz];exact Vq dh2 (by omega))
   rw [hz] at c1
   have c2:=ce f1 (s+(1+(ix.code (s+1)).length)) 1 (by omega) (by omega) (by rw [hz2];exact L3.at (by omega)) (D3.at (by omega)) (by rw [hz2];exact Vq hE (by omega))
   rw [hz2] at c2
   exact ((Cnds.one c0).app (c1.app (by rw [show s+1+(ix.code (s+1)).length=s+(1+(ix.code (s+1)).length) by omega];exact c2))).len (by omega)
 simp only [if_neg h3] at hL hD hE⊢
 by_cases h4:k≤5∨k=11∨k=15
 · obtain ⟨f1,f2⟩:=h h4
   simp only [if_pos h4] at hL hD hE⊢
   rw [Atl.app,Atl.one] at hL hD
   obtain ⟨L1,L2⟩:=hL
   obtain ⟨D1,D2⟩:=hD
   simp only [List.length_append,List.length_cons,List.length_nil] at L2 D2 hE⊢
   have hz:(((s+1:Nat)):Int)=(s:Int)+((0+1:Nat):Int):=by omega
   have dh1:=Atl.hd D2 (a f1 0 0).2
   have c0:=mk L1 D1 (Vq dh1 (by omega))
   have c1:=ce f1 (s+1) 0 (by omega) (by omega) (by rw [hz];exact L2.at (by omega)) (D2.at (by omega)) (by rw [hz];exact Vq hE (by omega))
   rw [hz] at c1
   exact ((Cnds.one c0).app c1).len (by omega)
 simp only [if_neg h4,List.append_nil] at hL hD hE⊢
 rw [Atl.one] at hL hD
 exact Cnds.one (mk hL hD hE)
theorem tail_len (m k s o:Int)(l:Bool)(h:1≤k∧k≤15)(h4: ¬k=4)(h5: ¬k=5):(Gu k).length=(He m k s o l).length:=by
 have hc:k=1∨k=2∨k=3∨k=6∨k=7∨k=8∨k=9∨k=10∨k=11∨k=12∨k=13∨k=14∨k=15:=by omega
 rcases hc with rfl|rfl|rfl|rfl|rfl|rfl|rfl|rfl|rfl|rfl|rfl|rfl|rfl<;>simp (decide:=true) [Gu,He]
theorem Jp {A B:List Int}{d:Int}(h:A[0]? =some d):(A++B)[0]? =some d:=by
 rw [List.getElem?_append_left (by obtain ⟨h3,_⟩:=List.getElem?_eq_some_iff.1 h;exact h3)];exact h
mutual
theorem Mj {c:Cn}{lo:Int}(m:Int): ∀ {s:PStm},s.wl c lo→ ∀ t,s.dl.length=(s.code m t).length∧s.dl[0]? =some 0
 | .mk k ln _ _ _ e ix body els id slot other loc,⟨h1,h2,h3,_,_,h6,h7⟩,t=>by
  have hp:=Gl (k:=k) (e:=e) (ix:=ix) (id:=id) (t:=t) (fun h=>(h2 h).1) (fun h=>(h3 h).1)
  have hb:=fun t=>Uw (c:=c) (lo:=lo) m h6 t
  have he:=fun t=>Uw (c:=c) (lo:=lo) m h7 t
  simp only [PStm.dl,PStm.code]
  by_cases h4:k=4
  · simp only [if_pos h4]
    by_cases hn:els= []
    · simp only [if_pos hn]
      refine ⟨?_,Jp (Jp hp.2)⟩
      simp only [List.length_append,Vw,List.length_cons,List.length_nil]
      rw [hp.1,hb (t+((Q4 k e ix id t).length:Int)+1)]
    simp only [if_neg hn]
    refine ⟨?_,Jp (Jp (Jp (Jp hp.2)))⟩
    simp only [List.length_append,Vw,List.length_cons,List.length_nil]
    rw [hp.1,hb (t+((Q4 k e ix id t).length:Int)+1),he (t+((Q4 k e ix id t).length:Int)+1+((PStm.codes m body (t+((Q4 k e ix id t).length:Int)+1)).length:Int)+1)]
  simp only [if_neg h4]
  by_cases h5:k=5
  · simp only [if_pos h5]
    refine ⟨?_,Jp (Jp (Jp hp.2))⟩
    simp only [List.length_append,Vw,List.length_cons,List.length_nil]
    rw [hp.1,hb (t+((Q4 k e ix id t).length:Int)+1)]
  simp only [if_neg h5]
  refine ⟨?_,Jp hp.2⟩
  simp only [List.length_append,Vw]
  rw [hp.1,tail_len m k slot other loc h1 h4 h5]
theorem Uw {c:Cn}{lo:Int}(m:Int): ∀ {l:List PStm},Ve c lo l→ ∀ t,(Vk l).length=(PStm.codes m l t).length
 | [],_,_=>rfl
 |s::r,⟨h1,h2⟩,t=>by
  simp only [Vk,PStm.codes,List.length_append]
  rw [(Mj (c:=c) (lo:=lo) m h1 t).1,Uw (c:=c) (lo:=lo) m h2 (t+((s.code m t).length:Int))]
end
theorem Ue {c:Cn}{lo:Int}(m:Int){l:List PStm}(h:Ve c lo l){D:List Int}{p:Nat}{t:Int}(hD:Atl D p (Vk l))(hE:D[p+(PStm.codes m l t).length]? =some 0):D[p]? =some 0:=by
 cases l with
 |nil=>exact hE
 |cons s r=>exact Atl.hd hD (Jp (Mj (c:=c) (lo:=lo) m h.1 t).2)
theorem tail_snd {L:List Ins}{D:List Int}{m k sl ot:Int}{lo:Bool}{p:Nat}(h:1≤k∧k≤15)(h4: ¬k=4)(h5: ¬k=5)(hL:Atl L p (He m k sl ot lo))(hD:Atl D p (Gu k))(hE:D[p+(He m k sl ot lo).length]? =some 0):Cnds L D p (He m k sl ot lo).length∧D[p]? =some (preE k):=by
 have one: ∀ {i:Ins} {a:Int},Atl L p [i]→D[p]? =some a→D[p+1]? =some 0→0≤a→a≤2→Yh i.c=(a,0)→ ¬ (i.c=19∨i.c=20∨i.c=21∨i.c=34)→ ¬i.c=23→Cnds L D p 1:=fun {i a} h1 h2 h3 h4 h5 h6 h7 h8=>
  .one (.on (a:=a) (b:=0) (Atl.one.1 h1) h2 (by rw [show a - a+0=0 by omega];exact h3) h4 h6 (by omega) (by omega) h7 (fun k=>absurd k h8))
 have hi: ∀ (s:Int),Yh (Qx s lo).c=(1,0)∧ ¬ ((Qx s lo).c=19∨(Qx s lo).c=20∨(Qx s lo).c=21∨(Qx s lo).c=34)∧ ¬ (Qx s lo).c=23:=fun s=>by
  have hc:(Qx s lo).c=5∨(Qx s lo).c=6:=match lo with
   |false=> .inl rfl
   |true=> .inr rfl
  rcases hc with hc|hc<;>rw [hc]<;>exact ⟨by decide,by decide,by decide⟩
 have hc:k=1∨k=2∨k=3∨k=6∨k=7∨k=8∨k=9∨k=10∨k=11∨k=12∨k=13∨k=14∨k=15:=by omega
 rcases hc with rfl|rfl|rfl|rfl|rfl|rfl|rfl|rfl|rfl|rfl|rfl|rfl|rfl<;>simp (decide:=true) only [He,Gu,preE,if_true,if_false,reduceIte,or_true,true_or,or_false,false_or,or_self] at hL hD hE⊢
 all_goals (try (rw [Atl.one] at hD))
 · exact ⟨one hL hD hE (by decide) (by decide) (hi sl).1 (hi sl).2.1 (hi sl).2.2,hD⟩
 · exact ⟨one hL hD hE (by decide) (by decide) (hi sl).1 (hi sl).2.1 (hi sl).2.2,hD⟩
 · exact ⟨one hL hD hE (by decide) (by decide) (show Yh 7=(2,0) by decide) (show ¬ ((7:Int)=19∨(7:Int)=20∨(7:Int)=21∨(7:Int)=34) by decide) (show ¬ (7:Int)=23 by decide),hD⟩
 · exact ⟨one hL hD hE (by decide) (by decide) (show Yh 24=(0,0) by decide) (show ¬ ((24:Int)=19∨(24:Int)=20∨(24:Int)=21∨(24:Int)=34) by decide) (show ¬ (24:Int)=23 by decide),hD⟩
 · exact ⟨one hL hD hE (by decide) (by decide) (show Yh 25=(0,0) by decide) (show ¬ ((25:Int)=19∨(25:Int)=20∨(25:Int)=21∨(25:Int)=34) by decide) (show ¬ (25:Int)=23 by decide),hD⟩
 · exact ⟨one hL hD hE (by decide) (by decide) (show Yh 26=(0,0) by decide) (show ¬ ((26:Int)=19∨(26:Int)=20∨(26:Int)=21∨(26:Int)=34) by decide) (show ¬ (26:Int)=23 by decide),hD⟩
 · exact ⟨one hL hD hE (by decide) (by decide) (show Yh 27=(0,0) by decide) (show ¬ ((27:Int)=19∨(27:Int)=20∨(27:Int)=21∨(27:Int)=34) by decide) (show ¬ (27:Int)=23 by decide),hD⟩
 · exact ⟨one hL hD hE (by decide) (by decide) (show Yh 28=(0,0) by decide) (show ¬ ((28:Int)=19∨(28:Int)=20∨(28:Int)=21∨(28:Int)=34) by decide) (show ¬ (28:Int)=23 by decide),hD⟩
 · exact ⟨one hL hD hE (by decide) (by decide) (show Yh 29=(1,0) by decide) (show ¬ ((29:Int)=19∨(29:Int)=20∨(29:Int)=21∨(29:Int)=34) by decide) (show ¬ (29:Int)=23 by decide),hD⟩
 · rw [Atl.cons,Atl.one] at hL hD
   refine ⟨(Cnds.one (.on (a:=0) (b:=1) hL.1 hD.1 hD.2 (by decide) (show Yh 30=(0,1) by decide) (by decide) (by decide) (show ¬ ((30:Int)=19∨(30:Int)=20∨(30:Int)=21∨(30:Int)=34) by decide) (fun h=>absurd (show (30:Int)=23 from h) (by decide)))).app (m:=1) (.one (.on (a:=1) (b:=0) hL.2 hD.2 hE (by decide) (hi ot).1 (by decide) (by decide) (hi ot).2.1 (fun h=>absurd h (hi ot).2.2))),hD.1⟩
 · exact ⟨one hL hD hE (by decide) (by decide) (show Yh 31=(0,0) by decide) (show ¬ ((31:Int)=19∨(31:Int)=20∨(31:Int)=21∨(31:Int)=34) by decide) (show ¬ (31:Int)=23 by decide),hD⟩
 · exact ⟨one hL hD hE (by decide) (by decide) (show Yh 32=(0,0) by decide) (show ¬ ((32:Int)=19∨(32:Int)=20∨(32:Int)=21∨(32:Int)=34) by decide) (show ¬ (32:Int)=23 by decide),hD⟩
 exact ⟨one hL hD hE (by decide) (by decide) (show Yh 33=(1,0) by decide) (show ¬ ((33:Int)=19∨(33:Int)=20∨(33:Int)=21∨(33:Int)=34) by decide) (show ¬ (33:Int)=23 by decide),hD⟩
mutual
theorem PStm.snd {c:Cn}{lo:Int}(m:Int)(L:List Ins)(D:List Int): ∀ {s:PStm},s.wl c lo→ ∀ (p:Nat),Atl L p ((s.code m p).map Prod.fst)→Atl D p s.dl→D[p+(s.code m p).length]? =some 0→Cnds L D p (s.code m p).length
 | .mk k ln _ _ _ e ix body els id slot other loc,⟨h1,h2,h3,_,_,h6,h7⟩,p,hL,hD,hE=>by
  have hp:=Gl (k:=k) (e:=e) (ix:=ix) (id:=id) (t:=p) (fun h=>(h2 h).1) (fun h=>(h3 h).1)
  have hb:=fun t=>Uw (c:=c) (lo:=lo) m h6 t
  have he:=fun t=>Uw (c:=c) (lo:=lo) m h7 t
  obtain ⟨C,hC⟩: ∃ C,Q4 k e ix id p=C:=⟨_,rfl⟩
  have pre:=pre_snd (L:=L) (D:=D) (k:=k) (e:=e) (ix:=ix) (id:=id) (s:=p) (fun h=>⟨(h2 h).1,(h2 h).2.1⟩) (fun h=>⟨(h3 h).1,(h3 h).2.1⟩)
  simp only [PStm.dl] at hD
  simp only [PStm.code] at hL hE⊢
  rw [hC] at hL hE hp pre⊢
  have z1:((p+C.length+1:Nat):Int)=(p:Int)+(C.length:Int)+1:=by omega
  obtain ⟨B,hB⟩: ∃ B,PStm.codes m body ((p:Int)+(C.length:Int)+1)=B:=⟨_,rfl⟩
  have bl:(Vk body).length=B.length:=by rw [←hB];exact hb _
  by_cases h4:k=4
  · subst h4
    simp only [if_true] at hD hL hE⊢
    rw [hB] at hL hE⊢
    by_cases hn:els= []
    · simp only [if_pos hn] at hD hL hE⊢
      rw [List.map_append,Vi,Atl.app,Atl.app,Atl.one] at hL
      rw [Atl.app,Atl.app,Atl.one] at hD
      obtain ⟨⟨L1,L2⟩,L3⟩:=hL
      obtain ⟨⟨D1,D2⟩,D3⟩:=hD
      simp only [List.length_append,Vw,List.length_cons,List.length_nil,hp.1] at L3 D2 D3 hE⊢
      have db:=Ue (c:=c) (lo:=lo) m h6 (p:=p+C.length+1) (t:=(p:Int)+(C.length:Int)+1) (D3.at (by omega)) (by rw [hB];exact Vq hE (by omega))
      have c1:=pre L1 D1 D2
      have cJ:Cnd L D (p+C.length):= .jif (t:=p+C.length+1+B.length) L2 D2 (.inl rfl) (by dsimp only;omega) (Vq hE (by omega)) db (by omega) (by omega)
      have c2:=Jy (c:=c) (lo:=lo) m L D h6 (p+C.length+1) (by rw [z1,hB];exact L3.at (by omega)) (D3.at (by omega)) (by rw [z1,hB];exact Vq hE (by omega))
      rw [z1,hB] at c2
      exact ((c1.app (.one cJ)).app c2).len (by omega)
    simp only [if_neg hn] at hD hL hE⊢
    obtain ⟨O,hO⟩: ∃ O,PStm.codes m els ((p:Int)+(C.length:Int)+1+(B.length:Int)+1)=O:=⟨_,rfl⟩
    have ol:(Vk els).length=O.length:=by rw [←hO];exact he _
    rw [hO] at hL hE⊢
    have z2:((p+C.length+1+B.length+1:Nat):Int)=(p:Int)+(C.length:Int)+1+(B.length:Int)+1:=by omega
    rw [List.map_append,List.map_append,List.map_append,Vi,Vi,Atl.app,Atl.app,Atl.app,Atl.app,Atl.one,Atl.one] at hL
    rw [Atl.app,Atl.app,Atl.app,Atl.app,Atl.one,Atl.one] at hD
    obtain ⟨⟨⟨⟨L1,L2⟩,L3⟩,L4⟩,L5⟩:=hL
    obtain ⟨⟨⟨⟨D1,D2⟩,D3⟩,D4⟩,D5⟩:=hD
    simp only [List.length_append,Vw,List.length_map,List.length_cons,List.length_nil,hp.1,bl] at L3 L4 L5 D2 D3 D4 D5 hE⊢
    have db:=Ue (c:=c) (lo:=lo) m h6 (p:=p+C.length+1) (t:=(p:Int)+(C.length:Int)+1) (D3.at (by omega)) (by rw [hB];exact Vq D4 (by omega))
    have do_:=Ue (c:=c) (lo:=lo) m h7 (p:=p+C.length+1+B.length+1) (t:=(p:Int)+(C.length:Int)+1+(B.length:Int)+1) (D5.at (by omega)) (by rw [hO];exact Vq hE (by omega))
    have c1:=pre L1 D1 D2
    have cJ:Cnd L D (p+C.length):= .jif (t:=p+C.length+1+B.length+1) L2 D2 (.inl rfl) (by dsimp only;omega) do_ db (by omega) (by omega)
    have c2:=Jy (c:=c) (lo:=lo) m L D h6 (p+C.length+1) (by rw [z1,hB];exact L3.at (by omega)) (D3.at (by omega)) (by rw [z1,hB];exact Vq D4 (by omega))
    have cK:Cnd L D (p+C.length+1+B.length):= .jmp (t:=p+C.length+1+B.length+1+O.length) (T8 L4 (by omega)) (Vq D4 (by omega)) rfl (by dsimp only;omega) (Vq hE (by omega)) (by omega) (by omega)
    have c3:=Jy (c:=c) (lo:=lo) m L D h7 (p+C.length+1+B.length+1) (by rw [z2,hO];exact L5.at (by omega)) (D5.at (by omega)) (by rw [z2,hO];exact Vq hE (by omega))
    rw [z1,hB] at c2
    rw [z2,hO] at c3
    exact ((((c1.app (.one cJ)).app c2).app (.one (cK.pt (by omega)))).app (n:=C.length+1+B.length+1) (by rw [show p+(C.length+1+B.length+1)=p+C.length+1+B.length+1 by omega];exact c3)).len (by omega)
  simp only [if_neg h4] at hD hL hE⊢
  by_cases h5:k=5
  · subst h5
    simp only [if_true] at hD hL hE⊢
    rw [hB] at hL hE⊢
    rw [List.map_append,List.map_append,Vi,Vi,Atl.app,Atl.app,Atl.app,Atl.one,Atl.one] at hL
    rw [Atl.app,Atl.app,Atl.app,Atl.one,Atl.one] at hD
    obtain ⟨⟨⟨L1,L2⟩,L3⟩,L4⟩:=hL
    obtain ⟨⟨⟨D1,D2⟩,D3⟩,D4⟩:=hD
    simp only [List.length_append,Vw,List.length_map,List.length_cons,List.length_nil,hp.1,bl] at L3 L4 D2 D3 D4 hE⊢
    have db:=Ue (c:=c) (lo:=lo) m h6 (p:=p+C.length+1) (t:=(p:Int)+(C.length:Int)+1) (D3.at (by omega)) (by rw [hB];exact Vq D4 (by omega))
    have c1:=pre L1 D1 D2
    have cJ:Cnd L D (p+C.length):= .jif (t:=p+C.length+1+B.length+1) L2 D2 (.inl rfl) (by dsimp only;omega) (Vq hE (by omega)) db (by omega) (by omega)
    have c2:=Jy (c:=c) (lo:=lo) m L D h6 (p+C.length+1) (by rw [z1,hB];exact L3.at (by omega)) (D3.at (by omega)) (by rw [z1,hB];exact Vq D4 (by omega))
    have cK:Cnd L D (p+C.length+1+B.length):= .jmp (t:=p) (T8 L4 (by omega)) (Vq D4 (by omega)) rfl rfl (Atl.hd D1 hp.2) (by omega) (by omega)
    rw [z1,hB] at c2
    exact (((c1.app (.one cJ)).app c2).app (.one (cK.pt (by omega)))).len (by omega)
  simp only [if_neg h5] at hD hL hE⊢
  rw [Vi,Atl.app] at hL
  rw [Atl.app] at hD
  obtain ⟨L1,L2⟩:=hL
  obtain ⟨D1,D2⟩:=hD
  simp only [List.length_append,Vw,hp.1] at D2 hE⊢
  obtain ⟨t1,t2⟩:=tail_snd h1 h4 h5 L2 D2 (Vq hE (by omega))
  exact (pre L1 D1 t2).app t1
theorem Jy {c:Cn}{lo:Int}(m:Int)(L:List Ins)(D:List Int): ∀ {l:List PStm},Ve c lo l→ ∀ (p:Nat),Atl L p ((PStm.codes m l p).map Prod.fst)→Atl D p (Vk l)→D[p+(PStm.codes m l p).length]? =some 0→Cnds L D p (PStm.codes m l p).length
 | [],_,p,_,_,_=>fun q h1 h2=>by simp only [PStm.codes,List.length_nil] at h2;omega
 |s::r,⟨h1,h2⟩,p,hL,hD,hE=>by
  simp only [PStm.codes] at hL hE⊢
  simp only [Vk] at hD
  have z:((p+(s.code m p).length:Nat):Int)=(p:Int)+((s.code m p).length:Int):=by omega
  have sl:=(Mj (c:=c) (lo:=lo) m h1 p).1
  rw [List.map_append,Atl.app,List.length_map] at hL
  rw [Atl.app,sl] at hD
  rw [List.length_append] at hE⊢
  have ds:=Ue (c:=c) (lo:=lo) m h2 (t:=(p:Int)+((s.code m p).length:Int)) hD.2 (Vq hE (by omega))
  have c1:=PStm.snd (c:=c) (lo:=lo) m L D h1 p hL.1 hD.1 ds
  have c2:=Jy (c:=c) (lo:=lo) m L D h2 (p+(s.code m p).length) (by rw [z];exact hL.2) hD.2 (by rw [z];exact Vq hE (by omega))
  rw [z] at c2
  exact c1.app c2
end
theorem th_snd {c:Cn}{lo:Int}(m:Int){t:PTh}(h:Ve c lo t.body):Snd ((V1 m t).map Prod.fst) (fun k=>(Vk t.body++ [0]).getD k (-1)):=by
 have hl:=Uw (c:=c) (lo:=lo) m h 0
 obtain ⟨L,hL⟩: ∃ L,(V1 m t).map Prod.fst=L:=⟨_,rfl⟩
 obtain ⟨D,hD⟩: ∃ D,Vk t.body++ [0]=D:=⟨_,rfl⟩
 have eL:L=(PStm.codes m t.body 0).map Prod.fst++ [⟨34,0,0,0⟩]:=by rw [←hL];unfold V1;rw [List.map_append,Vi]
 have lL:L.length=(PStm.codes m t.body 0).length+1:=by rw [eL];simp
 have lD:D.length=(PStm.codes m t.body 0).length+1:=by rw [←hD];simp [hl]
 have aL:Atl L 0 L:=fun i _=>by rw [Nat.zero_add]
 have aD:Atl D 0 D:=fun i _=>by rw [Nat.zero_add]
 have aL2:=aL;have aD2:=aD
 rw [eL] at aL2
 rw [←eL] at aL2
 have aL3:Atl L 0 ((PStm.codes m t.body 0).map Prod.fst++ [⟨34,0,0,0⟩]):=by rw [←eL];exact aL
 have aD3:Atl D 0 (Vk t.body++ [0]):=by rw [hD];exact aD
 rw [Atl.app,Atl.one,List.length_map] at aL3
 rw [Atl.app,Atl.one,hl] at aD3
 have cs:=Jy (c:=c) (lo:=lo) m L D h 0 aL3.1 aD3.1 aD3.2
 have all: ∀ a,a<L.length→Cnd L D a:=fun a ha=>by
  by_cases k:a<(PStm.codes m t.body 0).length
  · exact cs a (Nat.zero_le _) (by rw [Nat.zero_add];exact k)
  obtain rfl:a=(PStm.codes m t.body 0).length:=by omega
  refine .go (a:=0) (b:=0) (T8 aL3.2 (by omega)) (Vq aD3.2 (by omega)) (by omega) (show Yh 34=(0,0) by decide) (by omega) (by omega) (fun _=>rfl) fun y hy=> ?_
  unfold nxt at hy
  rw [if_pos rfl] at hy
  cases hy
 have dz:D[0]? =some 0:=Ue (c:=c) (lo:=lo) m h (t:=0) aD3.1 aD3.2
 rw [hL,hD]
 refine ⟨by omega,?_,fun a ha h0=> ?_⟩
 · show D.getD 0 (-1)=0
   rw [List.getD_eq_getElem?_getD,dz];rfl
 obtain ⟨i,e,h1,h2,h3,h4,h5,h6,h7⟩:=all a ha
 have ei:L.getD a R9=i:=by rw [List.getD_eq_getElem?_getD,h1];rfl
 have ee:D.getD a (-1)=e:=by rw [List.getD_eq_getElem?_getD,h2];rfl
 rw [ei,ee]
 refine ⟨h4,h5,h6,fun y hy=> ?_⟩
 obtain ⟨g1,g2⟩:=h7 y hy
 have gl:=(List.getElem?_eq_some_iff.1 g2).1
 exact ⟨g1,by omega,by rw [List.getD_eq_getElem?_getD,g2];rfl⟩
theorem B1 (main:Int): ∀ (l:List PTh) (i:Nat),(i:Int)≤main→main<i+l.length→(We main l i).length+1=l.length
 | [],i,h1,h2=>by simp at h2;omega
 |x::r,i,h1,h2=>by
  simp only [We]
  by_cases k:(i:Int)=main
  · rw [if_pos k]
    have: ∀ (l:List PTh) (j:Nat),main<j→(We main l j).length=l.length:=by
     intro l
     induction l with
     |nil=>intro j _;rfl
     |cons y r ih=>intro j hj;simp only [We];rw [if_neg (by omega),List.length_cons,ih (j+1) (by omega),List.length_cons]
    rw [this r (i+1) (by omega),List.length_cons]
  rw [if_neg k,List.length_cons,B1 main r (i+1) (by omega) (by rw [List.length_cons] at h2;omega),List.length_cons]
structure IG (c:Cn) (lo T:Int) (i:Ins):Prop where
 k:1≤i.c∧i.c≤34
 n:if i.c=1 then -2147483648≤i.n∧i.n≤2147483647 else i.n=0
 b:if i.c=26 then 0≤i.b∧i.b<c.mu else i.b=0
 z:0≤i.a
 o:nmA i.c=false→i.a=0
 v:i.c=2∨i.c=5→i.a<c.v
 l:i.c=3∨i.c=6→i.a<lo
 a:i.c=4∨i.c=7→i.a<c.a
 j:i.c=19∨i.c=20∨i.c=21→i.a≤T
 m:i.c=23→i.a<512
 mu:i.c=24∨i.c=25→i.a<c.mu
 co:i.c=26∨i.c=27∨i.c=28→i.a<c.co
 ch:i.c=29∨i.c=30→i.a<c.ch
 th:i.c=31→i.a<c.th
theorem IG.bare {c:Cn}{lo T x:Int}(h:x=8∨x=9∨(10≤x∧x≤18)∨x=22∨(32≤x∧x≤34)):IG c lo T ⟨x,0,0,0⟩:=
 ⟨by dsimp only;omega,by rw [if_neg (by dsimp only;omega)],by rw [if_neg (by dsimp only;omega)],Int.le_refl 0,fun _=>rfl,by dsimp only;omega,by dsimp only;omega,by dsimp only;omega,by dsimp only;omega,by dsimp only;omega,by dsimp only;omega,by dsimp only;omega,by dsimp only;omega,by dsimp only;omega⟩
theorem IG.push {c:Cn}{lo T n:Int}(h: -2147483648≤n∧n≤2147483647):IG c lo T ⟨1,0,0,n⟩:=
 ⟨show (1:Int)≤1∧(1:Int)≤34 by decide,by rw [if_pos rfl];exact h,by rw [if_neg (show ¬ (1:Int)=26 by decide)],Int.le_refl 0,fun _=>rfl,by dsimp only;omega,by dsimp only;omega,by dsimp only;omega,by dsimp only;omega,by dsimp only;omega,by dsimp only;omega,by dsimp only;omega,by dsimp only;omega,by dsimp only;omega⟩
theorem IG.nm {c:Cn}{lo T x a:Int}(h:2≤x∧x≤31∧ ¬x=26)(h0:nmA x=true)(hz:0≤a)(h1:x=2∨x=5→a<c.v)(h2:x=3∨x=6→a<lo)(h3:x=4∨x=7→a<c.a)(h4:x=19∨x=20∨x=21→a≤T)(h5:x=23→a<512)(h6:x=24∨x=25→a<c.mu)(h7:x=27∨x=28→a<c.co)(h8:x=29∨x=30→a<c.ch)(h9:x=31→a<c.th):IG c lo T ⟨x,a,0,0⟩:=
 ⟨by dsimp only;omega,by rw [if_neg (by dsimp only;omega)],by rw [if_neg (by dsimp only;omega)],hz,fun e=>absurd (show nmA x=false from e) (by rw [h0];decide),h1,h2,h3,h4,h5,h6,fun e=>h7 (by have e:x=26∨x=27∨x=28:=e;omega),h8,h9⟩
theorem IG.jump {c:Cn}{lo T x a:Int}(h:x=19∨x=20∨x=21)(hz:0≤a)(hT:a≤T):IG c lo T ⟨x,a,0,0⟩:=
 .nm (by omega) (by unfold nmA;exact decide_eq_true (by omega)) hz (by omega) (by omega) (by omega) (fun _=>hT) (by omega) (by omega) (by omega) (by omega) (by omega)
theorem Y4 {α:Type}{φ:α→Prop}{l m:List α}(h: ∀ x∈l,φ x)(h2: ∀ x∈m,φ x): ∀ x∈l++m,φ x:=fun x hx=>by
 rcases List.mem_append.1 hx with hx|hx
 · exact h x hx
 exact h2 x hx
theorem Y3 {α:Type}{φ:α→Prop}{a:α}(h:φ a): ∀ x∈ [a],φ x:=fun x hx=>by rw [List.mem_singleton.1 hx];exact h
theorem U0 {c:Cn}{lo:Int}: ∀ (N:Nat) (e:PEx),e.sz≤N→e.fit→e.wl c lo→ ∀ (s T:Int),0≤s→s+(e.code s).length≤T→ ∀ i∈e.code s,IG c lo T i
 |0,e,hN,_,_,_,_,_,_=>by have:=e.sz_pos;omega
 |N+1,.mk k n nm slot loc op args,hN,hfit,hw,s,T,hs,hT=>by
  have hval:=Vd hfit
  obtain ⟨hk,hm,hn1,hop,hfa⟩:=hfit
  obtain ⟨w1,w2,w3⟩:=hw
  have hx: ∀ x∈args,x.fit∧x.sz≤N:=fun x hx=>by
   obtain ⟨i,hi,rfl⟩:=List.getElem_of_mem hx
   have:=Rz hi
   simp only [PEx.sz] at hN
   exact ⟨Qk hfa hx,by omega⟩
  simp only [PEx.code] at hT⊢
  split
  · exact Y3 (.push hval)
  rename_i h1
  rw [if_neg h1] at hT
  split
  · rename_i h2
    have hv:=w1 h2
    unfold vaOk at hv
    refine Y3 ?_
    by_cases hl:loc=true
    · rw [if_pos hl] at hv⊢
      exact .nm (by decide) (by decide) hv.1 (by omega) (fun _=>hv.2) (by omega) (by omega) (by omega) (by omega) (by omega) (by omega) (by omega)
    rw [if_neg hl] at hv⊢
    exact .nm (by decide) (by decide) hv.1 (fun _=>hv.2) (by omega) (by omega) (by omega) (by omega) (by omega) (by omega) (by omega) (by omega)
  rename_i h2
  rw [if_neg h2] at hT
  split
  · rename_i h3
    have:=hn1 h3
    exact Y3 (.push (by omega))
  rename_i h3
  rw [if_neg h3] at hT
  (try dsimp only at hT);(try dsimp only)
  by_cases h6:k=6
  · obtain ⟨x,y,rfl⟩: ∃ x y,args= [x,y]:=by
     match args,hm with
     | [x,y],_=>exact ⟨x,y,rfl⟩
     | [],hm=>rw [h6] at hm;cases hm
     | [_],hm=>rw [h6] at hm;cases hm
     |_::_::_::_,hm=>rw [h6] at hm;simp [Nq] at hm
    obtain ⟨fx,sx⟩:=hx x (by simp);obtain ⟨fy,sy⟩:=hx y (by simp)
    obtain ⟨wx,wy,_⟩:=w3
    have ix:=U0 (c:=c) (lo:=lo) N x sx fx wx s T hs
    simp only [PEx.codes,List.getD_cons_zero,List.getD_cons_succ] at hT⊢
    subst h6
    have ho7:=hop rfl
    by_cases ho:op≤2
    · simp (decide:=true) only [ho,and_true,true_and,and_false,false_and,if_true,if_false,reduceIte] at hT⊢
      have iy:=U0 (c:=c) (lo:=lo) N y sy fy wy (s+((x.code s).length:Int)+1) T (by omega)
      simp only [List.length_append,List.length_cons,List.length_nil] at hT
      refine Y4 (Y4 (Y4 (ix (by omega)) (Y3 (.jump ?_ (by omega) (by omega)))) (iy (by omega))) ?_
      · split
        · exact .inr (.inl rfl)
        exact .inr (.inr rfl)
      intro i hi
      simp only [List.mem_cons,List.not_mem_nil,or_false] at hi
      rcases hi with rfl|rfl|rfl
      · exact .bare (by omega)
      · exact .jump (.inl rfl) (by omega) (by omega)
      exact .push (by omega)
    simp (decide:=true) only [ho,and_true,true_and,and_false,false_and,if_true,if_false,reduceIte] at hT⊢
    have iy:=U0 (c:=c) (lo:=lo) N y sy fy wy (s+((x.code s).length:Int)) T (by omega)
    simp only [List.length_append,List.length_cons,List.length_nil] at hT
    exact Y4 (Y4 (ix (by omega)) (iy (by omega))) (Y3 (.bare (by omega)))
  obtain ⟨x,rfl⟩: ∃ x,args= [x]:=by
   have h1:args.length=1:=by rw [hm];unfold Nq;rw [if_pos (by omega)]
   match args,h1 with
   | [x],_=>exact ⟨x,rfl⟩
  obtain ⟨fx,sx⟩:=hx x (by simp)
  obtain ⟨wx,_⟩:=w3
  have ix:=U0 (c:=c) (lo:=lo) N x sx fx wx s T hs
  simp only [PEx.codes,List.getD_cons_zero] at hT⊢
  have hc:k=3∨k=4∨k=5:=by omega
  rcases hc with rfl|rfl|rfl<;>simp (decide:=true) only [false_and,if_true,if_false,reduceIte] at hT⊢ <;>simp only [List.length_append,List.length_cons,List.length_nil] at hT<;>refine Y4 (ix (by omega)) (Y3 ?_)
  · obtain ⟨a1,a2⟩:=w2 rfl
    exact .nm (by decide) (by decide) a1 (by omega) (by omega) (fun _=>a2) (by omega) (by omega) (by omega) (by omega) (by omega) (by omega)
  · exact .bare (by omega)
  exact .bare (by omega)
theorem preS_ig {c:Cn}{lo k id t T:Int}{e ix:PEx}(h:k≤5∨k=11∨k=15→e.fit∧e.dep≤24∧e.wl c lo)(h2:k=3→ix.fit∧ix.dep≤24∧ix.wl c lo)(hi:0≤id∧id<512)(ht:0≤t)(hT:t+(Q4 k e ix id t).length≤T): ∀ i∈Q4 k e ix id t,IG c lo T i:=by
 have mk:IG c lo T ⟨23,id,0,0⟩:= .nm (by decide) (by decide) hi.1 (by omega) (by omega) (by omega) (by omega) (fun _=>hi.2) (by omega) (by omega) (by omega) (by omega)
 unfold Q4 at hT⊢
 dsimp only at hT⊢
 have e1: ∀ {C1:List Ins},(∀ i∈C1,IG c lo T i)→(k≤5∨k=11∨k=15→t+(C1++e.code (t+C1.length)).length≤T)→ ∀ i∈(if k≤5∨k=11∨k=15 then C1++e.code (t+C1.length) else C1),IG c lo T i:=fun {C1} hC hL=>by
  by_cases hk:k≤5∨k=11∨k=15
  · rw [if_pos hk]
    have:=hL hk
    rw [List.length_append] at this
    exact Y4 hC (U0 (c:=c) (lo:=lo) _ e (Nat.le_refl _) (h hk).1 (h hk).2.2 _ T (by omega) (by omega))
  rw [if_neg hk];exact hC
 refine e1 ?_ (fun hk=>by rw [if_pos hk] at hT;exact hT)
 by_cases h3:k=3
 · rw [if_pos h3]
   have hk:k≤5∨k=11∨k=15:=by omega
   rw [if_pos hk,if_pos h3] at hT
   simp only [List.length_append,List.length_cons,List.length_nil] at hT
   exact Y4 (Y3 mk) (U0 (c:=c) (lo:=lo) _ ix (Nat.le_refl _) (h2 h3).1 (h2 h3).2.2 _ T (by omega) (by omega))
 rw [if_neg h3];exact Y3 mk
theorem Fx {c:Cn}{lo T s:Int}{l:Bool}(h:vaOk c lo s l):IG c lo T (Qx s l):=by
 unfold vaOk at h
 unfold Qx
 by_cases hl:l=true
 · rw [if_pos hl] at h⊢
   exact .nm (by decide) (by decide) h.1 (by omega) (fun _=>h.2) (by omega) (by omega) (by omega) (by omega) (by omega) (by omega) (by omega)
 rw [if_neg hl] at h⊢
 exact .nm (by decide) (by decide) h.1 (fun _=>h.2) (by omega) (by omega) (by omega) (by omega) (by omega) (by omega) (by omega) (by omega)
theorem tailS_ig {c:Cn}{lo m k sl ot T:Int}{l:Bool}(h:1≤k∧k≤15)(h4: ¬k=4)(h5: ¬k=5)(ho:ownOk c lo k sl ot l)(hm:0≤m∧m<c.th): ∀ i∈He m k sl ot l,IG c lo T i:=by
 obtain ⟨o1,o2,o3,o4,o5,o6,o7,o8⟩:=ho
 have hc:k=1∨k=2∨k=3∨k=6∨k=7∨k=8∨k=9∨k=10∨k=11∨k=12∨k=13∨k=14∨k=15:=by omega
 rcases hc with rfl|rfl|rfl|rfl|rfl|rfl|rfl|rfl|rfl|rfl|rfl|rfl|rfl<;>simp (decide:=true) only [He,if_true,if_false,reduceIte,or_true,true_or,or_false,false_or,or_self]
 · exact Y3 (Fx (o1 (.inl rfl)))
 · exact Y3 (Fx (o1 (.inr rfl)))
 · have:=o2 rfl
   exact Y3 (.nm (by decide) (by decide) this.1 (by omega) (by omega) (fun _=>this.2) (by omega) (by omega) (by omega) (by omega) (by omega) (by omega))
 · have:=o3 (.inl rfl)
   exact Y3 (.nm (by decide) (by decide) this.1 (by omega) (by omega) (by omega) (by omega) (by omega) (fun _=>this.2) (by omega) (by omega) (by omega))
 · have:=o3 (.inr rfl)
   exact Y3 (.nm (by decide) (by decide) this.1 (by omega) (by omega) (by omega) (by omega) (by omega) (fun _=>this.2) (by omega) (by omega) (by omega))
 · have h1:=o4 (.inl rfl);have h2:=o5 rfl
   exact Y3 ⟨show (1:Int)≤26∧(26:Int)≤34 by decide,by rw [if_neg (show ¬ (26:Int)=1 by decide)],by rw [if_pos rfl];exact h2,h1.1,fun e=>absurd (show nmA 26=false from e) (by decide),by dsimp only;omega,by dsimp only;omega,by dsimp only;omega,by dsimp only;omega,by dsimp only;omega,by dsimp only;omega,fun _=>h1.2,by dsimp only;omega,by dsimp only;omega⟩
 · have:=o4 (.inr (.inl rfl))
   exact Y3 (.nm (by decide) (by decide) this.1 (by omega) (by omega) (by omega) (by omega) (by omega) (by omega) (fun _=>this.2) (by omega) (by omega))
 · have:=o4 (.inr (.inr rfl))
   exact Y3 (.nm (by decide) (by decide) this.1 (by omega) (by omega) (by omega) (by omega) (by omega) (by omega) (fun _=>this.2) (by omega) (by omega))
 · have:=o6 (.inl rfl)
   exact Y3 (.nm (by decide) (by decide) this.1 (by omega) (by omega) (by omega) (by omega) (by omega) (by omega) (by omega) (fun _=>this.2) (by omega))
 · have:=o6 (.inr rfl)
   intro i hi
   simp only [List.mem_cons,List.not_mem_nil,or_false] at hi
   rcases hi with rfl|rfl
   · exact .nm (by decide) (by decide) this.1 (by omega) (by omega) (by omega) (by omega) (by omega) (by omega) (by omega) (fun _=>this.2) (by omega)
   exact Fx (o7 rfl)
 · have:=o8 rfl
   refine Y3 (.nm (by decide) (by decide) ?_ (by omega) (by omega) (by omega) (by omega) (by omega) (by omega) (by omega) (by omega) (fun _=> ?_))
   · unfold T0;split<;>(try split)<;>omega
   unfold T0;split<;>(try split)<;>omega
 · exact Y3 (.bare (by omega))
 exact Y3 (.bare (by omega))
theorem Hz {φ:Ins→Prop}{l:List Ins}{n:Int}(h: ∀ i∈l,φ i): ∀ x∈lnd l n,φ x.1:=fun x hx=>by
 unfold lnd at hx
 obtain ⟨i,hi,rfl⟩:=List.mem_map.1 hx
 exact h i hi
mutual
theorem F5 {c:Cn}{lo m:Int}(hm:0≤m∧m<c.th): ∀ {s:PStm},s.wl c lo→ ∀ (t T:Int),0≤t→t+(s.code m t).length≤T→ ∀ x∈s.code m t,IG c lo T x.1
 | .mk k ln _ _ _ e ix body els id slot other loc,⟨h1,h2,h3,h4',h5',h6,h7⟩,t,T,ht,hT=>by
  simp only [PStm.code] at hT⊢
  obtain ⟨C,hC⟩: ∃ C,Q4 k e ix id t=C:=⟨_,rfl⟩
  have pre:=fun hT=>preS_ig (c:=c) (lo:=lo) (k:=k) (id:=id) (t:=t) (T:=T) (e:=e) (ix:=ix) h2 h3 h4' ht hT
  rw [hC] at hT pre⊢
  obtain ⟨B,hB⟩: ∃ B,PStm.codes m body (t+(C.length:Int)+1)=B:=⟨_,rfl⟩
  have cb:=Qr (c:=c) (lo:=lo) hm h6 (t+(C.length:Int)+1) T (by omega)
  rw [hB] at cb
  by_cases h4:k=4
  · simp only [if_pos h4] at hT⊢
    rw [hB] at hT⊢
    by_cases hn:els= []
    · simp only [if_pos hn] at hT⊢
      simp only [List.length_append,Vw,List.length_cons,List.length_nil] at hT
      exact Y4 (Hz (Y4 (pre (by omega)) (Y3 (.jump (.inr (.inl rfl)) (by omega) (by omega))))) (cb (by omega))
    simp only [if_neg hn] at hT⊢
    have co:=Qr (c:=c) (lo:=lo) hm h7 (t+(C.length:Int)+1+(B.length:Int)+1) T (by omega)
    obtain ⟨O,hO⟩: ∃ O,PStm.codes m els (t+(C.length:Int)+1+(B.length:Int)+1)=O:=⟨_,rfl⟩
    rw [hO] at hT co⊢
    simp only [List.length_append,Vw,List.length_cons,List.length_nil] at hT
    exact Y4 (Y4 (Y4 (Hz (Y4 (pre (by omega)) (Y3 (.jump (.inr (.inl rfl)) (by omega) (by omega))))) (cb (by omega))) (Hz (Y3 (.jump (.inl rfl) (by omega) (by omega))))) (co (by omega))
  simp only [if_neg h4] at hT⊢
  by_cases h5:k=5
  · simp only [if_pos h5] at hT⊢
    rw [hB] at hT⊢
    simp only [List.length_append,Vw,List.length_cons,List.length_nil] at hT
    exact Y4 (Y4 (Hz (Y4 (pre (by omega)) (Y3 (.jump (.inr (.inl rfl)) (by omega) (by omega))))) (cb (by omega))) (Hz (Y3 (.jump (.inl rfl) (by omega) (by omega))))
  simp only [if_neg h5] at hT⊢
  rw [Vw,List.length_append] at hT
  exact Hz (Y4 (pre (by omega)) (tailS_ig h1 h4 h5 h5' hm))
theorem Qr {c:Cn}{lo m:Int}(hm:0≤m∧m<c.th): ∀ {l:List PStm},Ve c lo l→ ∀ (t T:Int),0≤t→t+(PStm.codes m l t).length≤T→ ∀ x∈PStm.codes m l t,IG c lo T x.1
 | [],_,_,_,_,_=>fun x hx=>by simp only [PStm.codes] at hx;cases hx
 |s::r,⟨h1,h2⟩,t,T,ht,hT=>by
  simp only [PStm.codes] at hT⊢
  rw [List.length_append] at hT
  exact Y4 (F5 (c:=c) (lo:=lo) hm h1 t T ht (by omega)) (Qr (c:=c) (lo:=lo) hm h2 (t+((s.code m t).length:Int)) T (by omega) (by omega))
end
mutual
def PStm.lnb (B:Int):PStm→Prop
 | .mk _ ln _ _ _ _ _ body els _ _ _ _=>(0≤ln∧ln≤B)∧W7 B body∧W7 B els
def W7 (B:Int):List PStm→Prop
 | []=>True
 |s::r=>s.lnb B∧W7 B r
end
mutual
theorem Gj {B:Int}: ∀ (s:PStm) (f:Fnd),s.lnb B→(f.stmt s).2.lnb B
 | .mk k ln cl nm wt e ix body els id slot other loc,f,⟨h1,h2,h3⟩=>by
  simp only [Fnd.stmt]
  split
  · exact ⟨h1,h2,h3⟩
  exact ⟨h1,Kz body _ h2,Kz els _ h3⟩
theorem Kz {B:Int}: ∀ (l:List PStm) (f:Fnd),W7 B l→W7 B (f.blk l).2
 | [],f,_=>trivial
 |s::r,f,⟨h1,h2⟩=>by
  simp only [Fnd.blk]
  split
  · exact ⟨Gj s f h1,Kz r _ h2⟩
  trivial
end
mutual
theorem F4 {B m:Int}: ∀ {s:PStm},s.lnb B→ ∀ t,∀ x∈s.code m t,0≤x.2∧x.2≤B
 | .mk k ln _ _ _ e ix body els id slot other loc,⟨h1,h2,h3⟩,t=>by
  have hl: ∀ l:List Ins,∀ x∈lnd l ln,0≤x.2∧x.2≤B:=fun l x hx=>by
   unfold lnd at hx;obtain ⟨i,hi,rfl⟩:=List.mem_map.1 hx;exact h1
  have hb:=fun t=>Qt (m:=m) h2 t
  have he:=fun t=>Qt (m:=m) h3 t
  simp only [PStm.code]
  split
  · split
    · exact Y4 (hl _) (hb _)
    exact Y4 (Y4 (Y4 (hl _) (hb _)) (hl _)) (he _)
  split
  · exact Y4 (Y4 (hl _) (hb _)) (hl _)
  exact hl _
theorem Qt {B m:Int}: ∀ {l:List PStm},W7 B l→ ∀ t,∀ x∈PStm.codes m l t,0≤x.2∧x.2≤B
 | [],_,_=>fun x hx=>by simp only [PStm.codes] at hx;cases hx
 |s::r,⟨h1,h2⟩,t=>by
  simp only [PStm.codes]
  exact Y4 (F4 h1 t) (Qt h2 _)
end
theorem Dj: ∀ {g:Nat} {l:Bs} {ln cl:Int} {ts:List Tk},J0 g l ln cl=some ts→0≤ln→ ∀ t∈ts,0≤t.ln∧t.ln≤ln+l.length
 |0,_,_,_,_,h,_=>by cases h
 |g+1, [],ln,cl,ts,h,_=>by cases h;exact fun t ht=>by cases ht
 |g+1,c::r,ln,cl,ts,h,h0=>by
  rw [J0] at h
  split at h
  · intro t ht;have:=Dj h (by omega) t ht;rw [List.length_cons];omega
  split at h
  · intro t ht;have:=Dj h h0 t ht;rw [List.length_cons];omega
  split at h
  · intro t ht
    have:=Dj h h0 t ht
    have hs:((c::r).dropWhile (· !=10)).length≤(c::r).length:=(List.dropWhile_sublist _).length_le
    omega
  split at h
  · cases h
  rename_i k w n ho
  cases hl:J0 g ((c::r).drop w.length) ln (cl+w.length) with
  |none=>rw [hl] at h;cases h
  |some us=>
   rw [hl] at h;cases h
   intro t ht
   rcases List.mem_cons.1 ht with rfl|ht
   · dsimp only;omega
   have:=Dj hl h0 t ht
   rw [List.length_drop] at this;omega
theorem K7 {s:Bs}{ts r:List Tk}(h:tkW s ts=some r): ∀ t∈r,t∈ts:=by
 unfold tkW at h
 split at h
 · cases h;exact fun t ht=>List.mem_of_mem_tail ht
 cases h
theorem W0 {s:Bs}{ts r:List Tk}{u:Unit}(h:Va s ts=some (u,r)): ∀ t∈r,t∈ts:=K7 (N4.1 h)
theorem Kr {ts r:List Tk}{x:ByteArray}(h:Qs ts=some (x,r)): ∀ t∈r,t∈ts:=by
 cases ts with
 |nil=>cases h
 |cons t l=>simp only [Qs] at h;split at h<;>cases h;exact fun t ht=>List.mem_cons_of_mem _ ht
theorem Mh {ts r:List Tk}{x:Int}(h:Q8 ts=some (x,r)): ∀ t∈r,t∈ts:=by
 cases ts with
 |nil=>cases h
 |cons t l=>simp only [Q8] at h;split at h<;>cases h;exact fun t ht=>List.mem_cons_of_mem _ ht
theorem Ck: ∀ f,(∀ n ts e r,W9 f n ts=some (e,r)→ ∀ t∈r,t∈ts)∧(∀ n x ts e r,Hu f n x ts=some (e,r)→ ∀ t∈r,t∈ts)∧
 (∀ ts e r,unS f ts=some (e,r)→ ∀ t∈r,t∈ts)∧(∀ ts e r,Ub f ts=some (e,r)→ ∀ t∈r,t∈ts):=by
 intro f
 induction f with
 |zero=>exact ⟨fun _ _ _ _ h=>(by cases h),fun _ _ _ _ _ h=>(by cases h),fun _ _ _ h=>(by cases h),fun _ _ _ h=>by cases h⟩
 |succ f ih=>
  obtain ⟨ih1,ih2,ih3,ih4⟩:=ih
  refine ⟨fun n ts e r h=> ?_,fun n x ts e r h=> ?_,fun ts e r h=> ?_,fun ts e r h=> ?_⟩
  · rw [W9] at h
    split at h
    · exact ih3 _ _ _ h
    split at h
    · cases h
    rename_i e1 r1 h1
    exact fun t ht=>ih1 _ _ _ _ h1 t (ih2 _ _ _ _ _ h t ht)
  · rw [Hu] at h
    split at h
    · cases h;exact fun t ht=>ht
    split at h
    · cases h
    rename_i x1 r1 h1
    have k1:=ih1 _ _ _ _ h1
    split at h
    · cases h;exact fun t ht=>List.mem_of_mem_tail (k1 t ht)
    exact fun t ht=>List.mem_of_mem_tail (k1 t (ih2 _ _ _ _ _ h t ht))
  · rw [unS] at h
    split at h
    · rename_i r1 h1
      split at h
      · cases h
      rename_i x1 r2 h2
      cases h
      exact fun t ht=>K7 h1 t (ih3 _ _ _ h2 t ht)
    split at h
    · rename_i r1 h1
      split at h
      · cases h
      rename_i x1 r2 h2
      cases h
      exact fun t ht=>K7 h1 t (ih3 _ _ _ h2 t ht)
    exact ih4 _ _ _ h
  rw [Ub] at h
  split at h
  · rename_i r1 h1
    split at h
    · cases h
    rename_i x1 r2 h2
    split at h
    · cases h
    rename_i r3 h3
    cases h
    exact fun t ht=>K7 h1 t (ih1 _ _ _ _ h2 t (K7 h3 t ht))
  split at h
  · rename_i z r1 h1
    cases h
    exact Mh h1
  split at h
  · cases h
  rename_i nm r1 h1
  split at h
  · cases h;exact Kr h1
  rename_i r2 h2
  split at h
  · cases h
  rename_i x1 r3 h3
  split at h
  · cases h
  rename_i r4 h4
  cases h
  exact fun t ht=>Kr h1 t (K7 h2 t (ih1 _ _ _ _ h3 t (K7 h4 t ht)))
def TB (B:Int)(ts:List Tk):Prop:= ∀ t∈ts,0≤t.ln∧t.ln≤B
theorem TB.sub {B:Int}{ts r:List Tk}(h:TB B ts)(k: ∀ t∈r,t∈ts):TB B r:=fun t ht=>h t (k t ht)
theorem TB.tl {B:Int}{ts:List Tk}(h:TB B ts):TB B ts.tail:=fun t ht=>h t (List.mem_of_mem_tail ht)
theorem TB.pos {B:Int}{ts:List Tk}(h:TB B ts)(hB:0≤B):0≤(Zi ts).1∧(Zi ts).1≤B:=by
 cases ts with
 |nil=>exact ⟨Int.le_refl 0,hB⟩
 |cons t r=>exact h t (List.mem_cons_self ..)
theorem Lm {B:Int}{f:Nat}{k:Int}{p:Int×Int}{nm:ByteArray}{ts r:List Tk}{s:PStm}(hp:0≤p.1∧p.1≤B)(hB:TB B ts)(h:Uy f k p nm ts=some (s,r)):s.lnb B∧TB B r:=by
 have ex:=fun {ts e r} (h:W9 f 1 ts=some (e,r))=>(Ck f).1 1 ts e r h
 unfold Uy at h
 split at h
 · split at h
   · obtain ⟨ix,r1,h1,h⟩:=Zu h
     obtain ⟨_,r2,h2,h⟩:=Zu h
     obtain ⟨_,r3,h3,h⟩:=Zu h
     obtain ⟨e,r4,h4,h⟩:=Zu h
     obtain ⟨_,r5,h5,h⟩:=Zu h
     cases h
     exact ⟨⟨hp,trivial,trivial⟩,((((hB.tl.sub (ex h1)).sub (W0 h2)).sub (W0 h3)).sub (ex h4)).sub (W0 h5)⟩
   obtain ⟨_,r3,h3,h⟩:=Zu h
   obtain ⟨e,r4,h4,h⟩:=Zu h
   obtain ⟨_,r5,h5,h⟩:=Zu h
   cases h
   exact ⟨⟨hp,trivial,trivial⟩,((hB.sub (W0 h3)).sub (ex h4)).sub (W0 h5)⟩
 split at h
 · obtain ⟨_,r3,h3,h⟩:=Zu h
   obtain ⟨e,r4,h4,h⟩:=Zu h
   obtain ⟨_,r5,h5,h⟩:=Zu h
   cases h
   exact ⟨⟨hp,trivial,trivial⟩,((hB.sub (W0 h3)).sub (ex h4)).sub (W0 h5)⟩
 split at h
 · obtain ⟨wt,r3,h3,h⟩:=Zu h
   obtain ⟨_,r5,h5,h⟩:=Zu h
   cases h
   exact ⟨⟨hp,trivial,trivial⟩,(hB.sub (Kr h3)).sub (W0 h5)⟩
 split at h
 · obtain ⟨e,r4,h4,h⟩:=Zu h
   obtain ⟨_,r5,h5,h⟩:=Zu h
   cases h
   exact ⟨⟨hp,trivial,trivial⟩,(hB.sub (ex h4)).sub (W0 h5)⟩
 obtain ⟨_,r5,h5,h⟩:=Zu h
 cases h
 exact ⟨⟨hp,trivial,trivial⟩,hB.sub (W0 h5)⟩
theorem stmt_ln {B:Int}(b0:0≤B): ∀ f,(∀ ts s r,TB B ts→Qa f ts=some (s,r)→s.lnb B∧TB B r)∧(∀ ts l r,TB B ts→Ky f ts=some (l,r)→W7 B l∧TB B r)∧(∀ ts l r,TB B ts→Ud f ts=some (l,r)→W7 B l∧TB B r):=by
 intro f
 induction f with
 |zero=>exact ⟨fun _ _ _ _ h=>(by cases h),fun _ _ _ _ h=>(by cases h),fun _ _ _ _ h=>by cases h⟩
 |succ f ih=>
  obtain ⟨ih1,ih2,ih3⟩:=ih
  have ex:=fun {ts e r} (h:W9 f 1 ts=some (e,r))=>(Ck f).1 1 ts e r h
  refine ⟨fun ts s r hB h=> ?_,fun ts l r hB h=> ?_,fun ts l r hB h=> ?_⟩
  · have hp:=hB.pos b0
    rw [Qa] at h
    split at h
    · obtain ⟨e,r1,h1,h⟩:=Zu h
      obtain ⟨b,r2,h2,h⟩:=Zu h
      have k2:=ih2 _ _ _ (hB.tl.sub (ex h1)) h2
      split at h
      · obtain ⟨b2,r3,h3,h⟩:=Zu h
        cases h
        have k3:=ih2 _ _ _ k2.2.tl h3
        exact ⟨⟨hp,k2.1,k3.1⟩,k3.2⟩
      cases h;exact ⟨⟨hp,k2.1,trivial⟩,k2.2⟩
    split at h
    · exact Lm hp hB.tl h
    obtain ⟨nm,r1,h1,h⟩:=Zu h
    exact Lm hp (TB.sub (by split<;>first|exact hB.tl|exact hB) (Kr h1)) h
  · rw [Ky] at h
    obtain ⟨_,r1,h1,h⟩:=Zu h
    obtain ⟨l1,r2,h2,h⟩:=Zu h
    obtain ⟨_,r3,h3,h⟩:=Zu h
    cases h
    have k2:=ih3 _ _ _ (hB.sub (W0 h1)) h2
    exact ⟨k2.1,k2.2.sub (W0 h3)⟩
  rw [Ud] at h
  split at h
  · cases h;exact ⟨trivial,hB⟩
  obtain ⟨s,r1,h1,h⟩:=Zu h
  obtain ⟨l1,r2,h2,h⟩:=Zu h
  cases h
  have k1:=ih1 _ _ _ hB h1
  have k2:=ih3 _ _ _ k1.2 h2
  exact ⟨⟨k1.1,k2.1⟩,k2.2⟩
theorem decl_ln {B:Int}(b0:0≤B){f:Nat}{ts r:List Tk}{d:PDec}(hB:TB B ts)(h:J5 f ts=some (d,r)):W7 B d.body∧TB B r:=by
 unfold J5 at h
 split at h
 · cases h
 obtain ⟨nm,r1,h1,h⟩:=Zu h
 have k1:=hB.tl.sub (Kr h1)
 split at h
 · obtain ⟨b,r2,h2,h⟩:=Zu h
   cases h
   exact (stmt_ln b0 f).2.1 _ _ _ k1 h2
 obtain ⟨n,r2,h2,h⟩:=Zu h
 obtain ⟨_,r3,h3,h⟩:=Zu h
 cases h
 refine ⟨trivial,TB.sub ?_ (W0 h3)⟩
 unfold B3 at h2
 split at h2
 · obtain ⟨_,r4,h4,h2⟩:=Zu h2
   have k4:=k1.sub (W0 h4)
   split at h2
   · obtain ⟨z,r5,h5,h2⟩:=Zu h2
     cases h2
     exact k4.tl.sub (Mh h5)
   exact k4.sub (Mh h2)
 split at h2
 · exact k1.sub (Mh h2)
 cases h2;exact k1
theorem Cy {B:Int}(b0:0≤B){G:Nat}: ∀ {f:Nat} {ts:List Tk} {ds:List PDec},TB B ts→Ux G f ts=some ds→ ∀ d∈ds,W7 B d.body
 |0,_,_,_,h=>by cases h
 |f+1,ts,ds,hB,h=>by
  rw [Ux] at h
  split at h
  · cases h;exact fun d hd=>by cases hd
  obtain ⟨d,r,h1,h⟩:=Zu h
  cases h2:Ux G f r with
  |none=>rw [h2] at h;cases h
  |some us=>
   rw [h2] at h;cases h
   have k1:=decl_ln b0 hB h1
   have k2:=Cy b0 k1.2 h2
   intro d hd
   rcases List.mem_cons.1 hd with rfl|hd
   · exact k1.1
   exact k2 d hd
theorem parse_ln {l:Bs}{ds:List PDec}(h:Qf l=some ds): ∀ d∈ds,W7 (l.length+1) d.body:=by
 unfold Qf at h
 split at h
 · cases h
 split at h
 · cases h
 rename_i ts h1
 split at h
 · cases h
 rename_i us h2
 split at h
 · cases h
 cases h
 exact Cy (by omega) (fun t ht=>by have:=Dj h1 (by omega) t ht;omega) h2
theorem Ij {l:Bs}{F:Fnd}(h:M8 l=some F):PrgOk (fun b=>Z0 b≤14*l.length∧W7 (l.length+1) b) F∧l.length≤65536:=by
 unfold M8 at h
 split at h
 · cases h
 rename_i ds hd
 obtain ⟨h1,h2⟩:=Er hd
 refine ⟨Cj h ⟨Nat.zero_le _,trivial⟩ fun d hm hb g=>⟨?_,Kz _ _ (parse_ln hd d hm)⟩,h2⟩
 have h3:=Ji d.body g (Ft hb)
 have h4:=By (f:=fun d:PDec=>Z3 d.body+1) hm
 have h5:Z3 d.body+1≤(ds.map fun d=>Z3 d.body+1).sum:=h4
 omega
theorem IG.ok {c:Cn}{lo T:Int}{i:Ins}(h:IG c lo T i)(hc:c.v≤64∧c.a≤64∧c.mu≤64∧c.co≤64∧c.ch≤64∧c.th≤64)(hl:lo≤32)(hT:T≤65535):U7 i:=by
 obtain ⟨k,n,b,z,o,v,l,a,j,m,mu,co,ch,th⟩:=h
 refine ⟨k,?_,?_,n⟩
 · by_cases hn:nmA i.c=true
   · rw [if_pos hn]
     refine ⟨z,?_⟩
     unfold nmA at hn
     have:=of_decide_eq_true hn
     omega
   rw [if_neg hn];exact o (by simpa using hn)
 by_cases hb:i.c=26
 · rw [if_pos hb] at b⊢;omega
 rw [if_neg hb] at b⊢;exact b
theorem modOf_ok {F:Fnd}{m:Mdl}{N:Nat}(hF:PrgOk (fun b=>Z0 b≤14*N∧W7 (N+1) b) F)(hN:N≤4600)(hm:ModOf F m):Qb m=0:=by
 obtain ⟨k1,k2,k3,k4,⟨k5,k5'⟩,k6,k6'⟩:=hF.k
 have ml:m.threads.length=F.ths.length:=by
  have:=congrArg List.length hm.t
  rw [List.length_map,List.length_map] at this
  rw [this]
  unfold Np
  rw [List.length_cons]
  exact B1 F.main F.ths 0 hF.m.1 (by have:=hF.m.2;omega)
 have hmn:F.main.toNat<F.ths.length:=by have:=hF.m;omega
 have thr: ∀ x∈m.threads,∃ t∈F.ths,x.name=t.nm∧x.locals=t.loc∧x.ins=(V1 F.main t).map Prod.fst∧x.lines=(V1 F.main t).map Prod.snd:=fun x hx=>by
  have h1:(fun x:Cod=>(x.name,x.locals,x.ins,x.lines)) x∈(Np F).map (thP F.main):=by rw [←hm.t];exact List.mem_map_of_mem hx
  obtain ⟨t,ht,e⟩:=List.mem_map.1 h1
  unfold thP at e
  simp only [Prod.mk.injEq] at e
  refine ⟨t,?_,e.1.symm,e.2.1.symm,e.2.2.1.symm,e.2.2.2.symm⟩
  unfold Np at ht
  rcases List.mem_cons.1 ht with ht|ht
  · rw [ht,List.getD_eq_getElem?_getD,List.getElem?_eq_getElem hmn];exact List.getElem_mem hmn
  exact J4 _ _ _ ht
 have cm:0≤F.main∧F.main<F.cn.th:=hF.m
 have per: ∀ x∈m.threads,Nj x∧(dOf m x).2=0:=fun x hx=>by
  obtain ⟨t,ht,e1,e2,e3,e4⟩:=thr x hx
  obtain ⟨w1,w2,w3,w4,w5⟩:=hF.t t ht
  have hlen:=Rg F.main t
  have cl:(V1 F.main t).length=(PStm.codes F.main t.body 0).length+1:=by unfold V1;rw [List.length_append,Vw];rfl
  have ig: ∀ i∈x.ins,IG F.cn t.loc ((PStm.codes F.main t.body 0).length:Int) i:=fun i hi=>by
   rw [e3] at hi
   obtain ⟨y,hy,rfl⟩:=List.mem_map.1 hi
   unfold V1 at hy
   rcases List.mem_append.1 hy with hy|hy
   · exact Qr (c:=F.cn) (lo:=t.loc) cm w3 0 _ (Int.le_refl 0) (by omega) y hy
   exact Hz (Y3 (.bare (by omega))) y hy
  have li:x.ins.length=(PStm.codes F.main t.body 0).length+1:=by rw [e3,List.length_map,cl]
  have ll:x.lines.length=(PStm.codes F.main t.body 0).length+1:=by rw [e4,List.length_map,cl]
  refine ⟨⟨by rw [e1];unfold Z8;omega,by rw [e2];exact w2,by omega,⟨by omega,fun i hi=>(ig i hi).ok ⟨by show (F.vars.length:Int)≤64;omega,by show (F.arrs.length:Int)≤64;omega,k5',k6',by show (F.chs.length:Int)≤64;omega,by show (F.ths.length:Int)≤64;omega⟩ w2.2 (by omega)⟩,⟨by omega,fun n hn=> ?_⟩⟩,?_⟩
  · rw [e4] at hn
    obtain ⟨y,hy,rfl⟩:=List.mem_map.1 hn
    unfold V1 at hy
    rcases List.mem_append.1 hy with hy|hy
    · have:=Qt w5 0 y hy;unfold Z8;omega
    unfold lnd at hy;obtain ⟨i,hi,rfl⟩:=List.mem_map.1 hy;unfold Z8;dsimp only;omega
  have sn:=th_snd (c:=F.cn) (lo:=t.loc) F.main w3
  rw [←e3] at sn
  refine sn.dOf fun i hi=> ?_
  have g:=ig i hi
  refine ⟨fun n hn=> ?_,fun hc=>by have:=g.b;rw [if_pos hc] at this;rw [hm.mu];exact this.2⟩
  unfold Yu at hn
  split at hn
  · rename_i h;cases hn;rw [hm.v];exact g.v h
  split at hn
  · rename_i h;cases hn;rw [e2];exact g.l h
  split at hn
  · rename_i h;cases hn;rw [hm.a];exact g.a h
  split at hn
  · rename_i h;cases hn;have:=g.j h;omega
  split at hn
  · rename_i h;cases hn;rw [hm.mu];exact g.mu h
  split at hn
  · rename_i h;cases hn;rw [hm.co];exact g.co h
  split at hn
  · rename_i h;cases hn;rw [hm.c];exact g.ch h
  split at hn
  · rename_i h;cases hn;rw [ml];exact g.th h
  cases hn
 refine vchk_of ⟨by rw [hm.mu];exact ⟨k5,k5'⟩,by rw [hm.co];exact ⟨k6,k6'⟩,⟨by rw [hm.v];omega,by rw [hm.v];exact hF.v⟩,⟨by rw [hm.a];omega,by rw [hm.a];exact fun n hn=>by have:=hF.a n hn;unfold Z8;omega⟩,⟨by rw [hm.c];omega,by rw [hm.c];exact hF.c⟩,⟨by omega,fun x hx=>(per x hx).1⟩⟩ fun x hx=>(per x hx).2
def atC (x:Int×Int):List Value:= [.int .i64 x.1,.int .i64 x.2]
theorem tmod_nat (a b:Nat):(a:Int).tmod (b:Int)=((a % b:Nat):Int):=rfl
theorem Lw {x:Int}{n:Nat}(h:0≤x)(hn:0<n): ∃ k:Nat,x.tmod (n:Int)=(k:Int)∧k<n:=by
 obtain ⟨k,rfl⟩:=Int.eq_ofNat_of_zero_le h
 exact ⟨k % n,rfl,Nat.mod_lt _ hn⟩
theorem ModOf.pos {F:Fnd}{m:Mdl}(h:ModOf F m):0<m.threads.length:=by
 have h1:=congrArg List.length h.t
 rw [List.length_map,List.length_map] at h1
 rw [h1];unfold Np;simp
theorem dOf_at {m:Mdl}{i:Nat}(h:Qb m=0)(hi:i<m.threads.length):0<m.threads[i].ins.length∧(dOf m m.threads[i]).1.length=m.threads[i].ins.length∧ ∀ a,a<m.threads[i].ins.length→dAt (dOf m m.threads[i]).1 a≤27:=by
 obtain ⟨h1,_,h3,_⟩:=vOk h hi
 obtain ⟨k1,k2,_,k4⟩:=Bh h1 h3
 refine ⟨k1,k2,fun a ha=> ?_⟩
 rcases Int.lt_or_le (dAt (dOf m m.threads[i]).1 a) 0 with g|g
 · omega
 have:=(k4 a ha g).2.1;have h4:=Bg (m.threads[i].ins[a].c);have h5:=Mr (m.threads[i].ins[a].c);omega
section
variable {G:World}{q pre:List HP}{a b A:Option Addr}{c d C p p0 p1 p2 i:Nat}{lo hi n cd dep:Int}{fv:Value}{x y:Ins}{t:Cod}{m:Mdl}{at_:Int}
variable {l cells loc:List Int}{idx arr z k u pc code:Int}{x1 x2 x3 x4 x5 x6 old:Value}{pm cc lc n1 n2:Nat}{la cda:Option Addr}
variable {s:ByteArray}{ats:List (Int×Int)}{a0 a2:Option Addr}{c0 c2:Nat}
set_option maxHeartbeats 4000000 in
theorem prog_ok:CallF prog G 15 [.string s] (q) (Ret fun v q'=> ∃ (g:FC) (bb:Bool),v= .tuple [.agg (pgC g).toArray,.bool bb].toArray∧(bb=true→M8 (bs s)=some g.er∧s.size≤3000)∧q'=fcM g::q):=by
 refine CallF.of func15 ntmps15 rfl (fun F cs=> ?_)
 refine xo 2 ?_;refine Zy zeroValue59 fun n1=> ?_
 refine ox 9 ?_;refine X.part 9 rfl (fun h0=> ?_) (fun h0=> ?_)
 · replace h0:=sp h0
   refine xo 4 ?_;refine stA ?_;refine ox 2 ?_;refine X.le (q':=fcM FC.z::_) (Kn.add (fun _ _ _=>Td _)) ?_
   refine Zq (fcM FC.z::q) func15 (Te results15) ⟨_,rfl,FC.z,false,rfl,(fun h=>by cases h),rfl⟩
 replace h0:=sp h0
 refine xo 5 ?_;refine Zh call31 (Le.refl _) (text_ok (s:=s)) ?_
 rintro _ _ ⟨g,y,z,e,rfl,rfl,hF⟩
 refine oo 4 ?_;refine Zy zeroValue59 fun n2=> ?_
 refine Zy zeroValue87 fun n3=> ?_
 refine stA ?_;refine stA ?_;refine oo 4 ?_;refine ldA ?_;refine oo 2 ?_;refine stA ?_;refine ox 2 ?_;refine Zq (fcM g::q) func15 (Te results15) ⟨_,rfl,g,_,rfl,(fun h=>by have he:e=0:=(by simpa using h);cases hx:M8 (bs s) with|none=>(rw [hx] at hF;exact absurd he hF)|some F=>(rw [hx] at hF;exact ⟨by rw [hF.2],by omega⟩)),rfl⟩
set_option maxHeartbeats 16000000 in
theorem S8 (gc:GC q)(g:GE q)(hat:Sees q a0 (ats.flatMap atC))(hs:Sees q a2 (l.map I64))(hLa:ats.length≤9223372036854775807)(hL:l.length≤9223372036854775807):CallF prog G 5 [.string s,.slice a0 ats.length c0,.slice a2 l.length c2] (q) (Ret fun v q'=>v= .bool true∧q'=q):=by
 refine CallF.of func5 ntmps5 rfl (fun F cs=> ?_)
 have hlen:=Zm (f:=atC) (sz:=2) (fun _=>rfl) ats
 refine xo 7 ?_;refine Zh call15 (Le.refl _) (prog_ok (s:=s)) ?_
 rintro _ _ ⟨gF,bb,rfl,hbb,rfl⟩
 cases bb
 focus
  refine oo 3 ?_;refine Zy zeroValue59 fun n1=> ?_
  refine stA ?_;refine oo 6 ?_;refine Zn (Pu.not rfl) ?_;refine oo 1 ?_;refine XO.kt 27 ?_;refine oo 18 ?_
 rotate_left
 focus
  refine oo 3 ?_;refine Zy zeroValue59 fun n2=> ?_
  refine stA ?_;refine oo 6 ?_;refine Zn (Pu.not rfl) ?_;refine oo 1 ?_;refine Wh 27 ?_;refine oo 5 ?_;refine Zf [32,7,6,1,2] ?_
  apply Zx 4 36 32 rfl
  · intro g1 M1;have h1:=sp g1
    refine oo 4 ?_;exact Zz M1 ⟨orF g1,Zv⟩
  · intro g1 M1;have h1:=sp g1
    refine oo 4 ?_;exact Zz M1 ⟨orT g1,Zv⟩
  refine oo 1 ?_;refine Zf [37,7,6,1,2] ?_
  apply Zx 4 41 37 rfl
  · intro g1 M1;have h1:=sp g1
    refine oo 1 ?_;refine XO.cR call16 (Jc (hs.le leA) hL) ?_;refine Zn (Pu.not rfl) ?_;refine oo 1 ?_;exact Zz M1 ⟨orF g1,Zv⟩
  · intro g1 M1;have h1:=sp g1
    refine oo 4 ?_;exact Zz M1 ⟨orT g1,Zv⟩
  refine ox 1 ?_;refine X.part 41 rfl (fun h1=> ?_) (fun h1=> ?_)
  focus
   replace h1:=sp h1
   refine xo 3 ?_
  rotate_left
  focus
   replace h1:=sp h1
   refine xo 4 ?_;refine ldA ?_;obtain ⟨hT,hsz⟩:=hbb rfl;have hpr:=Ij hT;have ho:=FC.ok (g:=gF) (l:=bs s) hT;obtain ⟨mn,hm1,hm2⟩:=ho.m
   refine Zh call18 (Le.refl _) (Io (g:=gF) (mn:=mn) knA hm1 hm2 ho.f ho.w ho.n ho.l) ?_
   rintro _ _ ⟨m',rfl,rfl,hM,hB⟩
   have hk:Qb m'=0:=modOf_ok hpr.1 (by rw [J6];omega) hM;have hmp:=hM.pos;have hmo:=Ki hk;have hv1:=hmo.2.2.1.1;have hsu:=Y8 hmo m'.arrays.length;rw [List.take_length] at hsu
   obtain ⟨N,hN⟩: ∃ N:Nat,Jn m'=(N:Int):=⟨(Jn m').toNat,by unfold Jn;omega⟩;have hNb:N≤16448:=(by unfold Jn at hN;omega)
   have hqm:MdlQ [mdM m'] m':=Kn.mdl knA hB;have hlen2:=Zm (f:=Wk) (sz:=4) (fun _=>rfl) m'.threads
   refine Zy zeroValue26 fun n3=> ?_
   refine stA ?_;refine oo 3 ?_;refine ldA ?_;refine XO.cR call19 (Ma (Kn.mdl knA hB) hk) ?_;refine XO.know 46 (.int .i64 (N:Int)) rfl (by rw [hN]) ?_
   refine XO.ef (Hh (n:=N) rfl rfl underlying22 Tryz.info2 rfl rfl (by omega) (by omega)) ?_
   rintro _ _ ⟨gn,rfl,rfl⟩
   refine XO.le (q':=lsH I64 2 (some ⟨gn,0,none⟩) N (List.replicate N 0)::_) (Le.trans Zw (by rw [←Mu (f:=I64) (u:=0) rfl];exact Le.refl _)) ?_
   refine ox 8 ?_;refine X.at (X.loop (fun (r:Nat×List Int)=>r.2.length=N) (fun r=> [(11,.int .i64 (r.1:Int)),(1,.slice a0 ats.length c0),(2,.slice a2 l.length c2),(6,.bool false),(9,.pointer (some ⟨n3,0,none⟩)),(10,.slice (some ⟨gn,0,none⟩) N N)]) (fun r=>lsH I64 2 (some ⟨gn,0,none⟩) N (r.2)::mdM m'::pto n3 (.cells (Wp m').toArray 26 (0,0))::(q++F)) (fun r=>N - r.1) (fun r hi_ ihr=> ?_) (0,List.replicate N 0) (List.length_replicate ..)) Zt leA
   try dsimp only at hi_ ihr⊢
   obtain hr:=hi_
   have hr:=hi_;clear hi_;obtain ⟨i,cs⟩:=r;dsimp only at*
   refine xo 8 ?_;refine Zf [52,11,1,2,6,9,10] ?_
   apply Zg 5 57 52 rfl
   · intro g3 M3;have h3:=sp g3
     refine oo 5 ?_;exact Zz M3 ⟨Yd g3,Zv⟩
   · intro g3 M3;have h3:=sp g3
     refine oo 5 ?_;exact Zz M3 ⟨Yc g3,Zv⟩
   refine ox 1 ?_;refine X.part 57 rfl (fun h3=> ?_) (fun h3=> ?_)
   · replace h3:=sp h3
     refine xo 9 ?_
     have hi1:i<l.length:=(by omega);have hi2:i<cs.length:=(by omega)
     refine Yz hs (by simp;omega) (fun b1 o1 e1=> ?_)
     have hs1:=hs;rw [e1] at hs1
     refine XO.know 62 (.slice (some ⟨b1,o1,none⟩) l.length c2) rfl (by rw [e1]) ?_
     refine oo 1 ?_;refine ld ?_ (hc:=(Cl.e1 hs1 leA hi1 rfl))
     refine oo 1 ?_;refine XO.ef0 (Up (f:=I64) (l:=cs) (n:=i) (u:=l[i]) rfl rfl sizeOf2 rfl hi2 rfl rfl Zw) ?_
     rintro _ _ ⟨rfl,rfl⟩
     refine ox 7 ?_;refine X.at (ihr (i+1,cs.set i l[i]) (by dsimp only;rw [List.length_set];exact hr) (by dsimp only;omega)) Zt leA
   replace h3:=sp h3
   refine xx 8 ?_
   clear ihr
   refine X.at (X.loop (fun (i:Nat)=>i≤ats.length) (fun i=> [(12,.int .i64 (i:Int)),(1,.slice a0 ats.length c0),(2,.slice a2 l.length c2),(6,.bool false),(9,.pointer (some ⟨n3,0,none⟩)),(10,.slice (some ⟨gn,0,none⟩) N N)]) (fun i=>lsH I64 2 (some ⟨gn,0,none⟩) N (cs)::mdM m'::pto n3 (.cells (Wp m').toArray 26 (0,0))::(q++F)) (fun i=>ats.length - i) (fun i hi_ ihi=> ?_) 0 (Nat.zero_le _)) Zt leA
   try dsimp only at hi_ ihi⊢
   obtain hi_0:=hi_
   refine xx 8 ?_;refine X.part 70 rfl (fun h5=> ?_) (fun h5=> ?_)
   · replace h5:=sp h5;have hi0:i<ats.length:=(by omega)
     obtain ⟨x,hx⟩: ∃ x,ats[i]=x:=⟨_,rfl⟩
     refine xo 9 ?_;refine Yz hat (by rw [hlen];omega) (fun bA oA eA=> ?_)
     have hsA:=hat;rw [eA] at hsA
     refine XO.know 73 (.slice (some ⟨bA,oA,none⟩) ats.length c0) rfl (by rw [eA]) ?_
     refine oo 1 ?_;refine Zn (V5 rfl rfl underlying65 sizeOf3 (by omega) (by omega)) ?_
     refine ld ?_ (hc:=(Yi (j:=(i:Int)) hsA leA (fun _=>rfl) hi0 rfl 0 _ rfl))
     refine oo 2 ?_;refine Zf [79,12,1,2,6,9,10] ?_
     apply Zx 7 86 79 rfl
     · intro g6 M6;have h6:=sp g6
       refine oo 2 ?_;refine XO.know 80 (.slice (some ⟨bA,oA,none⟩) ats.length c0) rfl (by rw [eA]) ?_
       refine oo 1 ?_;refine Zn (V5 rfl rfl underlying65 sizeOf3 (by omega) (by omega)) ?_
       refine ld ?_ (hc:=(Yi (j:=(i:Int)) hsA leA (fun _=>rfl) hi0 rfl 1 _ rfl))
       refine oo 2 ?_;exact Zz M6 ⟨orF g6,Zv⟩
     · intro g6 M6;have h6:=sp g6
       refine oo 7 ?_;exact Zz M6 ⟨orT g6,Zv⟩
     refine ox 1 ?_;refine X.part 86 rfl (fun h6=> ?_) (fun h6=> ?_)
     · replace h6:=sp h6
       refine xx 7 ?_;refine X.at (ihi (i+1) (by omega) (by omega)) Zt leA
     replace h6:=sp h6
     refine xx 3 ?_;refine drw ?_;refine dd [0,1] ?_;refine XD.know 87 (.slice (some ⟨bA,oA,none⟩) ats.length c0) rfl (by rw [eA]) ?_
     refine dd [2] ?_;refine Wm 3 rfl (V5 rfl rfl underlying65 sizeOf3 (by omega) (by omega)) ?_
     refine ldD 4 ?_ (hc:=(Yi (j:=(i:Int)) hsA leA (fun _=>rfl) hi0 rfl 0 _ rfl))
     refine dd [5] ?_;refine ldD 6 ?_;refine dd [7,8] ?_;obtain ⟨C,hC,hCl⟩:=Lw (x:=ats[i].1) (n:=m'.threads.length) (by omega) hmp
     refine XD.know 95 (.int .i64 (C:Int)) rfl (by rw [hC]) ?_
     obtain ⟨hd0,hd1,hd2⟩:=dOf_at hk hCl;obtain ⟨hin,h65,hde,_⟩:=vOk hk hCl;have hcod:=hmo.2.2.2.2.2.2 _ (List.getElem_mem hCl);have hlo:=hcod.2.1;unfold Z8 at hlo
     obtain ⟨nl,hnl⟩: ∃ nl:Nat,m'.threads[C].locals=(nl:Int):=⟨m'.threads[C].locals.toNat,by omega⟩;have hnb:nl≤32:=(by omega)
     obtain ⟨pc,hpc,hpl⟩:=Lw (x:=ats[i].2) (n:=m'.threads[C].ins.length) (by omega) hd0
     refine dd [9] ?_;refine XD.nil ?_;refine xo 3 ?_;refine ld ?_;refine oo 1 ?_;refine Yz hqm.t (by rw [hlen2];omega) (fun bT oT eT=> ?_)
     have hsT:=hqm.t;rw [eT] at hsT
     refine XO.know 97 (.slice (some ⟨bT,oT,none⟩) m'.threads.length m'.tc) rfl (by rw [eT]) ?_
     refine oo 1 ?_;refine Wn (n:=C) isAgg34 sizeOf34 hsT hCl ?_
     refine Zy zeroValue34 fun n4=> ?_
     refine stA ?_;refine ox 2 ?_;refine drw ?_;refine dd [0,1,2] ?_;refine XD.know 102 (.slice (some ⟨bA,oA,none⟩) ats.length c0) rfl (by rw [eA]) ?_
     refine dd [3] ?_;refine Wm 4 rfl (V5 rfl rfl underlying65 sizeOf3 (by omega) (by omega)) ?_
     refine ldD 5 ?_ (hc:=(Yi (j:=(i:Int)) hsA leA (fun _=>rfl) hi0 rfl 1 _ rfl))
     refine dd [6] ?_;refine ldD 7 ?_;refine dd [8,9] ?_;refine XD.know 110 (.int .i64 (pc:Int)) rfl (by rw [hpc]) ?_
     refine dd [10] ?_;refine ldD 11 ?_;refine XD.know 112 (.int .i64 (nl:Int)) rfl (by rw [hnl]) ?_
     refine Yy (fl:= [⟨14,15,fun g=> .pointer (some ⟨g,0,none⟩),fun g=>pto g (.cells [.int .i64 0,.int .i64 0,.slice none 0 0,.slice none 0 0].toArray 67 (0,0))⟩]) ?_
     refine XF.ef 12 ⟨⟨_,rfl,rfl,rfl,rfl,rfl,rfl,fun q=>Ef.alloc zeroValue67⟩,trivial⟩ (S3 (V:=fun g=> .slice (some ⟨g,0,none⟩) nl nl) (A:=fun g=>slH (some ⟨g,0,none⟩) nl 2 1 nl ((List.replicate nl (I64 0).cells.toList).flatten)) (fun q=>Hh (n:=nl) rfl rfl underlying22 Tryz.info2 rfl rfl (by omega) (by omega))) ?_ (hL:=hlR)
     rintro _ _ ⟨gl,rfl,rfl⟩
     refine ⟨hlR,?_⟩
     refine Mq 13 ⟨⟨_,rfl,rfl,rfl,rfl,rfl,rfl,fun q=>Ef.alloc zeroValue67⟩,trivial⟩ (Pu.build (cells:= [_,_,_,_]) [(0,1),(1,1),(2,1),(3,1)] zeroValue67 underlying67 (by kernel_rfl) rfl rfl) ?_ (hL:=hlR)
     refine Wv (e0:=⟨14,15,fun g=> .pointer (some ⟨g,0,none⟩),fun g=>pto g (.cells [.int .i64 0,.int .i64 0,.slice none 0 0,.slice none 0 0].toArray 67 (0,0))⟩) (hnd:=by simp) 14 ⟨⟨_,rfl,rfl,rfl,rfl,rfl,rfl,fun q=>Ef.alloc zeroValue67⟩,trivial⟩ (fun nf=> ?_) (hL:=hlR)
     change XF _ _ _ _ _ _ _ [] _ _ _ ((15,.pointer (some ⟨nf,0,none⟩))::_) _ _ (pto nf (.cells [.int .i64 0,.int .i64 0,.slice none 0 0,.slice none 0 0].toArray 67 (0,0))::_)
     refine XF.back ?_ (hL:=hlR)
     refine Z9 15 ?_;refine XD.nil ?_;refine xo 2 ?_;refine ldA ?_;refine ldA ?_;refine XO.le (q':=lsH I64 2 (some ⟨gl,0,none⟩) nl (List.replicate nl 0)::_) (Le.trans (show Le _ (slH (some ⟨gl,0,none⟩) nl 2 1 nl ((List.replicate nl (I64 0).cells.toList).flatten)::_) from Zw) (by rw [←Mu (f:=I64) (u:=0) rfl];exact Le.refl _)) ?_
     refine Zh call20 (Le.refl _) (Nr (m:=m') (t:=m'.threads[C]) ((hqm.x _ (List.getElem_mem hCl)).le leA) hin h65) ?_
     rintro _ _ (⟨hbad,rfl,rfl⟩|⟨_,da,dc,rfl,rfl⟩)
     · exact absurd hde hbad
     obtain ⟨Dl,hDl⟩: ∃ Dl,(dOf m' m'.threads[C]).1=Dl:=⟨_,rfl⟩;rw [hDl] at hd1 hd2;rw [hDl]
     refine ox 12 ?_;refine Zj 122 ?_;refine xx 8 ?_
     have hpd:pc<Dl.length:=(by omega);have hdb:Dl[pc]≤27:=(by have:=hd2 pc hpl;unfold dAt at this;rwa [Z1 hpd] at this)
     refine Qd (fl:=I64) (l:=Dl) (by omega) (fun gd e_=> ?_);subst e_
     refine X.le (q':=lsH I64 2 none 0 ([])::_) (Yw _ _ _) ?_
     refine X.at (X.loop (fun (r:List Int×Option Addr×Nat)=>r.1.length≤Dl[pc].toNat) (fun r=> [(18,.int .i64 (r.1.length:Int)),(16,.slice (some ⟨gd,0,none⟩) Dl.length dc),(15,.pointer (some ⟨nf,0,none⟩)),(12,.int .i64 (i:Int)),(1,.slice a0 ats.length c0),(2,.slice a2 l.length c2),(6,.bool false),(9,.pointer (some ⟨n3,0,none⟩)),(10,.slice (some ⟨gn,0,none⟩) N N)]) (fun r=>pto nf (.cells [.int .i64 (C:Int),.int .i64 (pc:Int),.slice (some ⟨gl,0,none⟩) nl nl,.slice r.2.1 r.1.length r.2.2].toArray 67 (0,0))::lsH I64 2 r.2.1 r.2.2 (r.1)::lsH I64 2 (some ⟨gl,0,none⟩) nl (List.replicate nl 0)::lsH I64 3 (some ⟨gd,0,none⟩) dc (Dl)::lsH I64 2 (some ⟨gn,0,none⟩) N (cs)::mdM m'::pto n3 (.cells (Wp m').toArray 26 (0,0))::(q++F)) (fun r=>Dl[pc].toNat - r.1.length) (fun r hi_ ihr=> ?_) ([],none,0) (Nat.zero_le _)) Zt leA
     try dsimp only at hi_ ihr⊢
     obtain hrk:=hi_
     have hrk:=hi_;clear hi_;obtain ⟨stk,sa,sc⟩:=r;dsimp only at*;have hsl:stk.length≤27:=(by omega)
     refine xo 6 ?_;refine ld ?_;refine oo 1 ?_;refine ld ?_ (hc:=(Cl.e1 (Sees.lsH _) Zw hpd rfl))
     refine ox 2 ?_;refine X.part 129 rfl (fun h8=> ?_) (fun h8=> ?_)
     · replace h8:=sp h8
       refine xx 16 ?_;refine X.part 135 rfl (fun h9=> ?_) (fun h9=> ?_)
       · replace h9:=sp h9
         refine xo 9 ?_;refine XO.know 142 (.int .i64 (((i+stk.length) % l.length:Nat):Int)) rfl (congrArg (Value.int .i64) (by rw [←Int.natCast_add];exact tmod_nat _ _)) ?_
         have hkm:(i+stk.length) % l.length<l.length:=Nat.mod_lt _ (by omega)
         refine Yz hs (by simp;omega) (fun b2 o2 e2=> ?_)
         have hs2:=hs;rw [e2] at hs2
         refine XO.know 136 (.slice (some ⟨b2,o2,none⟩) l.length c2) rfl (by rw [e2]) ?_
         refine oo 1 ?_;refine ld ?_ (hc:=(Cl.e1 hs2 leA hkm rfl))
         refine oo 4 ?_;refine ld ?_;refine oo 1 ?_;refine XO.ef (Yj I64 [l[(i+stk.length) % l.length]] underlying22 Tryz.info2 rfl rfl rfl rfl rfl rfl (fun _=>rfl)) ?_
         rintro _ _ ⟨gz,rfl,rfl⟩
         refine XO.ef (Yt (f:=I64) (l:=stk) (m:= [l[(i+stk.length) % l.length]]) underlying22 Tryz.info2 rfl rfl rfl Zw ((Sees.lsH _).le Zw) (fun _=>rfl) (by simp;omega) (by simp;omega)) ?_
         rintro _ _ ⟨a3,c3,rfl,rfl⟩
         refine oo 1 ?_;refine st ?_;refine ox 7 ?_;refine X.know 18 (.int .i64 ((stk++ [l[(i+stk.length) % l.length]]).length:Int)) rfl (congrArg (Value.int .i64) (by simp)) ?_
         refine X.at (ihr (stk++ [l[(i+stk.length) % l.length]],a3,c3) (by dsimp only;simp only [List.length_append,List.length_cons,List.length_nil];omega) (by dsimp only;simp only [List.length_append,List.length_cons,List.length_nil];omega)) Zt leA
       replace h9:=sp h9
       refine xo 4 ?_;refine ld ?_;refine oo 1 ?_;refine XO.ef (Yj I64 [(stk.length:Int)] underlying22 Tryz.info2 rfl rfl rfl rfl rfl rfl (fun _=>rfl)) ?_
       rintro _ _ ⟨gz,rfl,rfl⟩
       refine XO.ef (Yt (f:=I64) (l:=stk) (m:= [(stk.length:Int)]) underlying22 Tryz.info2 rfl rfl rfl Zw ((Sees.lsH _).le Zw) (fun _=>rfl) (by simp;omega) (by simp;omega)) ?_
       rintro _ _ ⟨a3,c3,rfl,rfl⟩
       refine oo 1 ?_;refine st ?_;refine ox 7 ?_;refine X.know 18 (.int .i64 ((stk++ [(stk.length:Int)]).length:Int)) rfl (congrArg (Value.int .i64) (by simp)) ?_
       refine X.at (ihr (stk++ [(stk.length:Int)],a3,c3) (by dsimp only;simp only [List.length_append,List.length_cons,List.length_nil];omega) (by dsimp only;simp only [List.length_append,List.length_cons,List.length_nil];omega)) Zt leA
     replace h8:=sp h8;clear ihr
     refine xo 4 ?_;refine ldA ?_;refine ldA ?_;refine oo 1 ?_;refine XO.know 152 (.agg (U2 ⟨(C:Int),(pc:Int),List.replicate nl 0,stk,(some ⟨gl,0,none⟩),nl,sa,sc⟩).toArray) rfl (by unfold U2;simp;rfl) ?_
     refine XO.know 153 (.slice (some ⟨gn,0,none⟩) cs.length N) rfl (by rw [hr]) ?_
     refine XO.lscap (fl:=I64) (l:=stk) (fun hcap=> ?_)
     refine XO.cR call21 (does_ok (m:=m') (f:=⟨(C:Int),(pc:Int),List.replicate nl 0,stk,(some ⟨gl,0,none⟩),nl,sa,sc⟩) (cells:=cs) (cda:=some ⟨gn,0,none⟩) (cc:=N) (gc.le leA) (g.le leA) (hqm.le leA) ⟨(Sees.lsH _).le Zw,(Sees.lsH _).le Zw,(by simp;omega),(by dsimp only;omega)⟩ ((Sees.lsH _).le Zw) hcap ⟨(by simp;omega),(by dsimp only;omega),(by omega)⟩) ?_
     refine Zn (Pu.not rfl) ?_;refine ox 1 ?_;refine Zj 155 ?_;refine xx 8 ?_;refine X.at (ihi (i+1) (by omega) (by omega)) Zt leA
   refine xo 4 ?_
 all_goals
  refine XO.cR call17 (known_ok (gc.le leA) (g.le leA)) ?_;refine ox 2 ?_;refine Zq (q) func5 (Zp results5 rfl) ⟨_,rfl,rfl,rfl⟩
end
end Go.Proofs.YtgonllbkcgaliaaGreatDoor
