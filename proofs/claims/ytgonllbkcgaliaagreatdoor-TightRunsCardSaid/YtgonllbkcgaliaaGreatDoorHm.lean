/- Contracts of functions, proved by walking their code. -/
import Derived.Test.YtgonllbkcgaliaaGreatDoorHl
import Derived.KernelRfl
set_option maxRecDepth 100000
set_option linter.unusedVariables false
set_option linter.unusedSimpArgs false
namespace Go.Proofs.YtgonllbkcgaliaaGreatDoor
open Go Go.RowKit Wx Go.Proofs.Tryz
attribute [local irreducible] Wx.lsH Wx.rsH Wx.stars
mutual
/-- How deep the stack is ahead of each instruction of an expression's code. -/
def PEx.dl:PEx→Int→List Int
 | .mk k n nm slot loc op args,d=>
  if (PEx.one (.mk k n nm slot loc op args))=true then [d]
  else if k=2 then [d]
  else if k=1 then [d]
  else
   let a:=(K6 args).getD 0 (fun _=> []) d
   if k=6∧op≤2 then a++ [d+1]++(K6 args).getD 1 (fun _=> []) d++ [d+1,d+1,d]
   else if k=3 then a++ [d+1]
   else if k=4 then a++ [d+1]
   else if k=5 then a++ [d+1]
   else a++(K6 args).getD 1 (fun _=> []) (d+1)++ [d+2]
def K6:List PEx→List (Int→List Int)
 | []=> []
 |e::r=>e.dl::K6 r
end
def Atl {α:Type}(L:List α)(s:Nat)(C:List α):Prop:= ∀ i,i<C.length→L[s+i]? =C[i]?
theorem Atl.app {α:Type}{L A B:List α}{s:Nat}:Atl L s (A++B)↔Atl L s A∧Atl L (s+A.length) B:=by
 constructor
 · intro h
   refine ⟨fun i hi=> ?_,fun i hi=> ?_⟩
   · rw [h i (by rw [List.length_append];omega),List.getElem?_append_left hi]
   rw [Nat.add_assoc,h (A.length+i) (by rw [List.length_append];omega),List.getElem?_append_right (by omega),Nat.add_sub_cancel_left]
 rintro ⟨h1,h2⟩ i hi
 rw [List.length_append] at hi
 by_cases hl:i<A.length
 · rw [h1 i hl,List.getElem?_append_left hl]
 have:=h2 (i - A.length) (by omega)
 rw [show s+A.length+(i - A.length)=s+i by omega] at this
 rw [this,List.getElem?_append_right (by omega)]
theorem Atl.one {α:Type}{L:List α}{s:Nat}{x:α}:Atl L s [x]↔L[s]? =some x:=by
 constructor
 · intro h;have:=h 0 (by simp);simpa using this
 intro h i hi
 obtain rfl:i=0:=by simp at hi;omega
 simpa using h
theorem Atl.cons {α:Type}{L r:List α}{s:Nat}{x:α}:Atl L s (x::r)↔L[s]? =some x∧Atl L (s+1) r:=by
 rw [show x::r= [x]++r from rfl,Atl.app,Atl.one];rfl
def Cnd (L:List Ins)(D:List Int)(p:Nat):Prop:=
 ∃ i e,L[p]? =some i∧D[p]? =some e∧0≤e∧ ¬e<(Z5 i.c).1∧e - (Z5 i.c).1+(Z5 i.c).2≤25∧((i.c=23∨i.c=34)→e=0)∧ ∀ y∈nxt i p,0≤y∧D[y.toNat]? =some (e - (Z5 i.c).1+(Z5 i.c).2)
theorem Cnd.go {L:List Ins}{D:List Int}{p:Nat}{i:Ins}{e a b:Int}(hL:L[p]? =some i)(hD:D[p]? =some e)(he:0≤e)(hf:Z5 i.c=(a,b))(h1:a≤e)(h2:e - a+b≤25)(hc:i.c=23∨i.c=34→e=0)(h3: ∀ y∈nxt i p,0≤y∧D[y.toNat]? =some (e - a+b)):Cnd L D p:=
 ⟨i,e,hL,hD,he,by rw [hf];dsimp only;omega,by rw [hf];exact h2,hc,by rw [hf];exact h3⟩
theorem Cnd.on {L:List Ins}{D:List Int}{p:Nat}{i:Ins}{e a b:Int}(hL:L[p]? =some i)(hD:D[p]? =some e)(hn:D[p+1]? =some (e - a+b))(he:0≤e)(hf:Z5 i.c=(a,b))(h1:a≤e)(h2:e - a+b≤25)(hc: ¬ (i.c=19∨i.c=20∨i.c=21∨i.c=34))(hm:i.c=23→e=0):Cnd L D p:=by
 refine .go hL hD he hf h1 h2 (fun k=>hm (by omega)) fun y hy=> ?_
 unfold nxt at hy
 rw [if_neg (by omega),if_neg (by omega),if_neg (by omega),List.mem_singleton] at hy
 rw [hy]
 refine ⟨by omega,?_⟩
 rw [show ((p:Int)+1).toNat=p+1 by omega];exact hn
theorem Cnd.jmp {L:List Ins}{D:List Int}{p t:Nat}{i:Ins}{e:Int}(hL:L[p]? =some i)(hD:D[p]? =some e)(hc:i.c=19)(ht:i.a=t)(hn:D[t]? =some e)(he:0≤e)(h2:e≤25):Cnd L D p:=by
 refine .go (a:=0) (b:=0) hL hD he (by rw [hc];decide) he (by omega) (fun k=>by omega) fun y hy=> ?_
 unfold nxt at hy
 rw [if_neg (by omega),if_pos hc,List.mem_singleton] at hy
 rw [hy,ht]
 exact ⟨by omega,by rw [Int.toNat_natCast,hn];congr 1;omega⟩
theorem Cnd.jif {L:List Ins}{D:List Int}{p t:Nat}{i:Ins}{e:Int}(hL:L[p]? =some i)(hD:D[p]? =some e)(hc:i.c=20∨i.c=21)(ht:i.a=t)(hn:D[t]? =some (e - 1))(hn2:D[p+1]? =some (e - 1))(he:1≤e)(h2:e≤25):Cnd L D p:=by
 refine .go (a:=1) (b:=0) hL hD (by omega) (by rcases hc with hc|hc<;>rw [hc]<;>decide) he (by omega) (fun k=>by omega) fun y hy=> ?_
 have hy2:y=i.a∨y=(p:Int)+1:=by
  unfold nxt at hy
  rw [if_neg (by omega),if_neg (by omega),if_pos hc] at hy
  split at hy
  · left;exact List.mem_singleton.1 hy
  rcases List.mem_cons.1 hy with h|h
  · left;exact h
  right;exact List.mem_singleton.1 h
 rcases hy2 with rfl|rfl
 · rw [ht];exact ⟨by omega,by rw [Int.toNat_natCast,hn];congr 1;omega⟩
 refine ⟨by omega,?_⟩
 rw [show ((p:Int)+1).toNat=p+1 by omega,hn2];congr 1;omega
def Cnds (L:List Ins)(D:List Int)(s n:Nat):Prop:= ∀ p,s≤p→p<s+n→Cnd L D p
theorem Cnds.app {L:List Ins}{D:List Int}{s n m:Nat}(h:Cnds L D s n)(h2:Cnds L D (s+n) m):Cnds L D s (n+m):=fun p h1 h3=>by
 by_cases k:p<s+n
 · exact h p h1 k
 exact h2 p (by omega) (by omega)
theorem Cnds.one {L:List Ins}{D:List Int}{s:Nat}(h:Cnd L D s):Cnds L D s 1:=fun p h1 h3=>by
 obtain rfl:p=s:=by omega
 exact h
theorem Cnds.len {L:List Ins}{D:List Int}{s n m:Nat}(h:Cnds L D s n)(e:n=m):Cnds L D s m:=e ▸ h
theorem W9 {D:List Int}{p q:Nat}{x:Option Int}(h:D[p]? =x)(e:p=q):D[q]? =x:=e ▸ h
theorem Bc {D:List Ins}{p q:Nat}{x:Option Ins}(h:D[p]? =x)(e:p=q):D[q]? =x:=e ▸ h
theorem Atl.at {α:Type}{L C:List α}{s t:Nat}(h:Atl L s C)(e:s=t):Atl L t C:=e ▸ h
theorem Cnd.pt {L:List Ins}{D:List Int}{p q:Nat}(h:Cnd L D p)(e:p=q):Cnd L D q:=e ▸ h
theorem PEx.sz_pos (e:PEx):1≤e.sz:=by cases e;simp only [PEx.sz];omega
theorem Qo: ∀ (N:Nat) (e:PEx),e.sz≤N→e.fit→ ∀ (s d:Int),(e.dl d).length=(e.code s).length∧(e.dl d)[0]? =some d
 |0,e,hN,_,_,_=>by have:=e.sz_pos;omega
 |N+1,.mk k n nm slot loc op args,hN,⟨hk,hm,hn1,hop,hfa⟩,s,d=>by
  simp only [PEx.dl,PEx.code]
  split
  · exact ⟨rfl,rfl⟩
  split
  · exact ⟨rfl,rfl⟩
  split
  · exact ⟨rfl,rfl⟩
  rename_i k2 k1
  have hx: ∀ x∈args,∀ s d,(x.dl d).length=(x.code s).length∧(x.dl d)[0]? =some d:=fun x hx s d=>by
   obtain ⟨i,hi,rfl⟩:=List.getElem_of_mem hx
   have:=Tx hi
   simp only [PEx.sz] at hN
   exact Qo N _ (by omega) (Ub hfa hx) s d
  have h0: ∀ {x:PEx} {r:List Int},(∀ s d,(x.dl d).length=(x.code s).length∧(x.dl d)[0]? =some d)→(x.dl d++r)[0]? =some d:=fun {x r} h=>by
   have h2:=(h s d).2
   rw [List.getElem?_append_left (by obtain ⟨h3,_⟩:=List.getElem?_eq_some_iff.1 h2;exact h3)];exact h2
  by_cases h6:k=6
  · obtain ⟨x,y,rfl⟩: ∃ x y,args= [x,y]:=by
     match args,hm with
     | [x,y],_=>exact ⟨x,y,rfl⟩
     | [],hm=>rw [h6] at hm;cases hm
     | [_],hm=>rw [h6] at hm;cases hm
     |_::_::_::_,hm=>rw [h6] at hm;simp [Mu] at hm
    have ix:=hx x (by simp);have iy:=hx y (by simp)
    simp only [K6,PEx.codes,List.getD_cons_zero,List.getD_cons_succ]
    subst h6
    by_cases ho:op≤2
    · simp (decide:=true) only [ho,and_true,true_and,and_false,false_and,if_true,if_false,reduceIte]
      refine ⟨by simp only [List.length_append,List.length_cons,List.length_nil];rw [(ix s d).1,(iy (s+(x.code s).length+1) d).1],?_⟩
      rw [List.append_assoc,List.append_assoc];exact h0 ix
    simp (decide:=true) only [ho,and_true,true_and,and_false,false_and,if_true,if_false,reduceIte]
    refine ⟨by simp only [List.length_append,List.length_cons,List.length_nil];rw [(ix s d).1,(iy (s+(x.code s).length) (d+1)).1],?_⟩
    rw [List.append_assoc];exact h0 ix
  obtain ⟨x,rfl⟩: ∃ x,args= [x]:=by
   have h1:args.length=1:=by rw [hm];unfold Mu;rw [if_pos (by omega)]
   match args,h1 with
   | [x],_=>exact ⟨x,rfl⟩
  have ix:=hx x (by simp)
  simp only [K6,PEx.codes,List.getD_cons_zero]
  have hc:k=3∨k=4∨k=5:=by omega
  rcases hc with rfl|rfl|rfl<;>simp (decide:=true) only [false_and,if_true,if_false,reduceIte]<;>exact ⟨by simp only [List.length_append,List.length_cons,List.length_nil];rw [(ix s d).1],h0 ix⟩
theorem Atl.hd {L C:List Int}{s:Nat}{d:Int}(h:Atl L s C)(h0:C[0]? =some d):L[s]? =some d:=by
 have:=h 0 (by obtain ⟨h3,_⟩:=List.getElem?_eq_some_iff.1 h0;exact h3)
 rw [Nat.add_zero] at this;rw [this,h0]
theorem PEx.snd (L:List Ins)(D:List Int): ∀ (N:Nat) (e:PEx),e.sz≤N→e.fit→ ∀ (s:Nat) (d:Int),0≤d→d+e.dep≤25→Atl L s (e.code s)→Atl D s (e.dl d)→D[s+(e.code s).length]? =some (d+1)→Cnds L D s (e.code s).length
 |0,e,hN,_,_,_,_,_,_,_,_=>by have:=e.sz_pos;omega
 |N+1,.mk k n nm slot loc op args,hN,⟨hk,hm,hn1,hop,hfa⟩,s,d,hd,hdep,hL,hD,hE=>by
  have hx: ∀ x∈args,∀ (s:Nat) (d:Int),0≤d→d+x.dep≤25→Atl L s (x.code s)→Atl D s (x.dl d)→D[s+(x.code s).length]? =some (d+1)→Cnds L D s (x.code s).length:=fun x hx=>by
   obtain ⟨i,hi,rfl⟩:=List.getElem_of_mem hx
   have:=Tx hi
   simp only [PEx.sz] at hN
   exact PEx.snd L D N _ (by omega) (Ub hfa hx)
  have hl: ∀ x∈args,∀ (s d:Int),(x.dl d).length=(x.code s).length∧(x.dl d)[0]? =some d:=fun x hx=>Qo _ x (Nat.le_refl _) (Ub hfa hx)
  simp only [PEx.dep] at hdep
  simp only [PEx.code] at hL hE⊢
  simp only [PEx.dl] at hD
  split at hL
  · rename_i h1
    rw [if_pos h1] at hD hE⊢
    rw [Atl.one] at hL hD
    exact .one (.on (a:=0) (b:=1) hL hD (by simpa using hE) hd (show Z5 1=(0,1) by decide) hd (by omega) (show ¬ ((1:Int)=19∨(1:Int)=20∨(1:Int)=21∨(1:Int)=34) by decide) (fun h=>absurd (show (1:Int)=23 from h) (by decide)))
  rename_i h1
  rw [if_neg h1] at hD hE⊢
  split at hL
  · rename_i h2
    rw [if_pos h2] at hD hE⊢
    rw [Atl.one] at hL hD
    refine .one (.on (a:=0) (b:=1) hL hD (by simpa using hE) hd ?_ hd (by omega) ?_ (fun h=> ?_))
    · dsimp only;split<;>decide
    · dsimp only;split<;>decide
    dsimp only at h;split at h<;>exact absurd h (by decide)
  rename_i h2
  rw [if_neg h2] at hD hE⊢
  split at hL
  · rename_i h3
    rw [if_pos h3] at hD hE⊢
    rw [Atl.one] at hL hD
    exact .one (.on (a:=0) (b:=1) hL hD (by simpa using hE) hd (show Z5 1=(0,1) by decide) hd (by omega) (show ¬ ((1:Int)=19∨(1:Int)=20∨(1:Int)=21∨(1:Int)=34) by decide) (fun h=>absurd (show (1:Int)=23 from h) (by decide)))
  rename_i h3
  rw [if_neg h3] at hD hE⊢
  (try dsimp only at hL);(try dsimp only at hD);(try dsimp only at hE);(try dsimp only)
  by_cases h6:k=6
  · obtain ⟨x,y,rfl⟩: ∃ x y,args= [x,y]:=by
     match args,hm with
     | [x,y],_=>exact ⟨x,y,rfl⟩
     | [],hm=>rw [h6] at hm;cases hm
     | [_],hm=>rw [h6] at hm;cases hm
     |_::_::_::_,hm=>rw [h6] at hm;simp [Mu] at hm
    have ix:=hx x (by simp);have iy:=hx y (by simp);have lx:=hl x (by simp);have ly:=hl y (by simp)
    simp only [K6,PEx.codes,List.getD_cons_zero,List.getD_cons_succ] at hL hD hE⊢
    simp only [Yu] at hdep
    subst h6
    by_cases ho:op≤2
    · simp (decide:=true) only [ho,and_true,true_and,and_false,false_and,if_true,if_false,reduceIte] at hL hD hE⊢
      rw [Atl.app,Atl.app,Atl.app,Atl.one,Atl.cons,Atl.cons,Atl.one] at hL hD
      obtain ⟨⟨⟨L1,L2⟩,L3⟩,L4,L5,L6⟩:=hL
      obtain ⟨⟨⟨D1,D2⟩,D3⟩,D4,D5,D6⟩:=hD
      have e1:=(lx s d).1
      have e2:=(ly (s+(x.code s).length+1) d).1
      obtain ⟨B,hB⟩: ∃ B,y.code (s+(x.code s).length+1)=B:=⟨_,rfl⟩
      rw [hB] at L2 L3 L4 L5 L6 e2 hE⊢
      simp only [List.length_append,List.length_cons,List.length_nil,e1,e2] at L2 L3 L4 L5 L6 D2 D3 D4 D5 D6 hE⊢
      have hz:((s+(x.code s).length+1:Nat):Int)=(s:Int)+((x.code s).length:Int)+1:=by omega
      have c1:=ix s d hd (by omega) L1 D1 D2
      have dh:=Atl.hd D3 (ly 0 d).2
      have c2:=iy (s+(x.code s).length+1) d hd (by omega) (by rw [hz,hB];exact L3.at (by omega)) (D3.at (by omega)) (by rw [hz,hB];exact W9 D4 (by omega))
      rw [hz,hB] at c2
      have cJ:Cnd L D (s+(x.code s).length):= .jif (t:=s+(x.code s).length+1+B.length+2) L2 D2 (by dsimp only;by_cases h2:op=2<;>simp [h2]) (by dsimp only;omega) (W9 (by rw [show d+1 - 1=d by omega];exact D6) (by omega)) (W9 (by rw [show d+1 - 1=d by omega];exact dh) (by omega)) (by omega) (by omega)
      have c3:Cnd L D (s+(x.code s).length+1+B.length):= .on (a:=1) (b:=1) (Bc L4 (by omega)) (W9 D4 (by omega)) (W9 (by rw [show d+1 - 1+1=d+1 by omega];exact D5) (by omega)) (by omega) (show Z5 22=(1,1) by decide) (by omega) (by omega) (show ¬ ((22:Int)=19∨(22:Int)=20∨(22:Int)=21∨(22:Int)=34) by decide) (fun h=>absurd (show (22:Int)=23 from h) (by decide))
      have c4:Cnd L D (s+(x.code s).length+1+B.length+1):= .jmp (t:=s+(x.code s).length+1+B.length+2+1) (Bc L5 (by omega)) (W9 D5 (by omega)) rfl (by dsimp only;omega) (W9 hE (by omega)) (by omega) (by omega)
      have c5:Cnd L D (s+(x.code s).length+1+B.length+1+1):= .on (a:=0) (b:=1) (Bc L6 (by omega)) (W9 D6 (by omega)) (W9 (by rw [show d - 0+1=d+1 by omega];exact hE) (by omega)) (by omega) (show Z5 1=(0,1) by decide) (by omega) (by omega) (show ¬ ((1:Int)=19∨(1:Int)=20∨(1:Int)=21∨(1:Int)=34) by decide) (fun h=>absurd (show (1:Int)=23 from h) (by decide))
      exact (((((c1.app (.one cJ)).app c2).app (.one (c3.pt (by omega)))).app (.one (c4.pt (by omega)))).app (.one (c5.pt (by omega)))).len (by omega)
    simp (decide:=true) only [ho,and_true,true_and,and_false,false_and,if_true,if_false,reduceIte] at hL hD hE⊢
    obtain ⟨n1,hn1'⟩: ∃ n1,(x.code s).length=n1:=⟨_,rfl⟩
    rw [Atl.app,Atl.app,Atl.one] at hL hD
    obtain ⟨⟨L1,L2⟩,L3⟩:=hL
    obtain ⟨⟨D1,D2⟩,D3⟩:=hD
    rw [(lx s d).1] at D2
    rw [List.length_append,(lx s d).1,(ly (s+(x.code s).length) (d+1)).1] at D3
    rw [List.length_append] at L3
    simp only [List.length_append,List.length_cons,List.length_nil] at hE⊢
    have hz:(((s+(x.code s).length:Nat)):Int)=(s:Int)+((x.code s).length:Int):=by omega
    have d2:=Atl.hd D2 (ly (s+(x.code s).length) (d+1)).2
    have c1:=ix s d hd (by omega) L1 D1 d2
    have c2:=iy (s+(x.code s).length) (d+1) (by omega) (by omega) (by rw [hz];exact L2) D2 (by rw [hz,Nat.add_assoc];rw [show d+1+1=d+2 by omega];exact D3)
    rw [hz] at c2
    refine (c1.app c2).app (.one (.on (a:=2) (b:=1) L3 D3 ?_ (by omega) ?_ (by omega) (by omega) ?_ (fun h=> ?_)))
    · rw [show d+2 - 2+1=d+1 by omega];rw [←hE];congr 1
    · dsimp only;have:op+7=10∨op+7=11∨op+7=12∨op+7=13∨op+7=14∨op+7=15∨op+7=16∨op+7=17∨op+7=18:=by have:=hop rfl;omega
      rcases this with h|h|h|h|h|h|h|h|h<;>rw [h]<;>decide
    · dsimp only;have:=hop rfl;omega
    dsimp only at h;have:=hop rfl;omega
  obtain ⟨x,rfl⟩: ∃ x,args= [x]:=by
   have h1:args.length=1:=by rw [hm];unfold Mu;rw [if_pos (by omega)]
   match args,h1 with
   | [x],_=>exact ⟨x,rfl⟩
  have ix:=hx x (by simp);have lx:=hl x (by simp)
  simp only [K6,PEx.codes,List.getD_cons_zero] at hL hD hE⊢
  simp only [Yu] at hdep
  have e1:=(lx s d).1
  have hc:k=3∨k=4∨k=5:=by omega
  rcases hc with rfl|rfl|rfl<;>simp (decide:=true) only [false_and,if_true,if_false,reduceIte] at hL hD hE⊢ <;>rw [Atl.app,Atl.one] at hL hD<;>simp only [List.length_append,List.length_cons,List.length_nil,e1] at hD hE⊢ <;>refine (ix s d hd (by omega) hL.1 hD.1 hD.2).app (.one (.on (a:=1) (b:=1) hL.2 hD.2 (by rw [show d+1 - 1+1=d+1 by omega];exact hE) (by omega) (by dsimp only;decide) (by omega) (by omega) (by dsimp only;decide) (fun h=>by dsimp only at h;omega)))
def Ct (k:Int)(e ix:PEx):List Int:=
 let d:Int:=if k=3 then 1 else 0
 (if k=3 then [0]++ix.dl 0 else [0])++(if k≤5∨k=11∨k=15 then e.dl d else [])
def preE (k:Int):Int:=if k=3 then 2 else if k≤5∨k=11∨k=15 then 1 else 0
def Pf (k:Int):List Int:=if k=3 then [2] else if k=12 then [0,1] else [preE k]
mutual
def PStm.dl:PStm→List Int
 | .mk k _ _ _ _ e ix body els _ _ _ _=>
  if k=4 then (if els= [] then Ct k e ix++ [1]++Vz body else Ct k e ix++ [1]++Vz body++ [0]++Vz els)
  else if k=5 then Ct k e ix++ [1]++Vz body++ [0]
  else Ct k e ix++Pf k
def Vz:List PStm→List Int
 | []=> []
 |s::r=>s.dl++Vz r
end
theorem Pt {k:Int}{e ix:PEx}{id t:Int}(h:k≤5∨k=11∨k=15→e.fit)(h2:k=3→ix.fit):(Ct k e ix).length=(Qw k e ix id t).length∧(Ct k e ix)[0]? =some 0:=by
 have a:=fun (h:e.fit) s d=>Qo _ e (Nat.le_refl _) h s d
 have b:=fun (h:ix.fit) s d=>Qo _ ix (Nat.le_refl _) h s d
 unfold Ct Qw
 by_cases h3:k=3
 · subst h3
   have e1:=fun s=>(a (h (by decide)) s 1).1
   have e2:=fun s=>(b (h2 rfl) s 0).1
   simp (decide:=true) only [if_true,true_or,reduceIte]
   refine ⟨?_,rfl⟩
   simp only [List.length_append,List.length_cons,List.length_nil]
   rw [e2 (t+1),e1]
 simp only [if_neg h3]
 by_cases h4:k≤5∨k=11∨k=15
 · have e1:=fun s=>(a (h h4) s 0).1
   simp only [if_pos h4]
   refine ⟨?_,rfl⟩
   simp only [List.length_append,List.length_cons,List.length_nil]
   rw [e1]
 simp only [if_neg h4,List.append_nil]
 exact ⟨rfl,rfl⟩
theorem pre_snd {L:List Ins}{D:List Int}{k:Int}{e ix:PEx}{id:Int}{s:Nat}(h:k≤5∨k=11∨k=15→e.fit∧e.dep≤24)(h2:k=3→ix.fit∧ix.dep≤24)(hL:Atl L s (Qw k e ix id s))(hD:Atl D s (Ct k e ix))(hE:D[s+(Qw k e ix id s).length]? =some (preE k)):Cnds L D s (Qw k e ix id s).length:=by
 have a:=fun (h:e.fit) s d=>Qo _ e (Nat.le_refl _) h s d
 have b:=fun (h:ix.fit) s d=>Qo _ ix (Nat.le_refl _) h s d
 have ce:=fun (h:e.fit)=>PEx.snd L D _ e (Nat.le_refl _) h
 have cx:=fun (h:ix.fit)=>PEx.snd L D _ ix (Nat.le_refl _) h
 have mk: ∀ {p:Nat},L[p]? =some ⟨23,id,0,0⟩→D[p]? =some 0→D[p+1]? =some 0→Cnd L D p:=fun h1 h2 h3=> .on (a:=0) (b:=0) h1 h2 h3 (by omega) (show Z5 23=(0,0) by decide) (by omega) (by omega) (show ¬ ((23:Int)=19∨(23:Int)=20∨(23:Int)=21∨(23:Int)=34) by decide) (fun _=>rfl)
 unfold Ct at hD
 unfold Qw at hL hE⊢
 unfold preE at hE
 by_cases h3:k=3
 · subst h3
   obtain ⟨f1,f2⟩:=h (by decide);obtain ⟨g1,g2⟩:=h2 rfl
   simp (decide:=true) only [if_true,true_or,reduceIte] at hL hD hE⊢
   rw [Atl.app,Atl.app,Atl.one] at hL hD
   obtain ⟨⟨L1,L2⟩,L3⟩:=hL
   obtain ⟨⟨D1,D2⟩,D3⟩:=hD
   have e2:=(b g1 (s+1) 0).1
   simp only [List.length_append,List.length_cons,List.length_nil,e2] at L2 L3 D2 D3 hE⊢
   have hz:(((s+1:Nat)):Int)=(s:Int)+1:=by omega
   have hz2:((s+(1+(ix.code (s+1)).length):Nat):Int)=(s:Int)+((0+1+(ix.code (s+1)).length:Nat):Int):=by omega
   have dh1:=Atl.hd D2 (b g1 0 0).2
   have dh2:=Atl.hd D3 (a f1 0 1).2
   have c0:=mk L1 D1 (W9 dh1 (by omega))
   have c1:=cx g1 (s+1) 0 (by omega) (by omega) (by rw [hz];exact L2.at (by omega)) (D2.at (by omega)) (by rw [hz];exact W9 dh2 (by omega))
   rw [hz] at c1
   have c2:=ce f1 (s+(1+(ix.code (s+1)).length)) 1 (by omega) (by omega) (by rw [hz2];exact L3.at (by omega)) (D3.at (by omega)) (by rw [hz2];exact W9 hE (by omega))
   rw [hz2] at c2
   exact ((Cnds.one c0).app (c1.app (by rw [show s+1+(ix.code (s+1)).length=s+(1+(ix.code (s+1)).length) by omega];exact c2))).len (by omega)
 simp only [if_neg h3] at hL hD hE⊢
 by_cases h4:k≤5∨k=11∨k=15
 · obtain ⟨f1,f2⟩:=h h4
   simp only [if_pos h4] at hL hD hE⊢
   rw [Atl.app,Atl.one] at hL hD
   obtain ⟨L1,L2⟩:=hL
   obtain ⟨D1,D2⟩:=hD
   simp only [List.length_append,List.length_cons,List.length_nil] at L2 D2 hE⊢
   have hz:(((s+1:Nat)):Int)=(s:Int)+((0+1:Nat):Int):=by omega
   have dh1:=Atl.hd D2 (a f1 0 0).2
   have c0:=mk L1 D1 (W9 dh1 (by omega))
   have c1:=ce f1 (s+1) 0 (by omega) (by omega) (by rw [hz];exact L2.at (by omega)) (D2.at (by omega)) (by rw [hz];exact W9 hE (by omega))
   rw [hz] at c1
   exact ((Cnds.one c0).app c1).len (by omega)
 simp only [if_neg h4,List.append_nil] at hL hD hE⊢
 rw [Atl.one] at hL hD
 exact Cnds.one (mk hL hD hE)
theorem tail_len (m k s o:Int)(l:Bool)(h:1≤k∧k≤15)(h4: ¬k=4)(h5: ¬k=5):(Pf k).length=(Hu m k s o l).length:=by
 have hc:k=1∨k=2∨k=3∨k=6∨k=7∨k=8∨k=9∨k=10∨k=11∨k=12∨k=13∨k=14∨k=15:=by omega
 rcases hc with rfl|rfl|rfl|rfl|rfl|rfl|rfl|rfl|rfl|rfl|rfl|rfl|rfl<;>simp (decide:=true) [Pf,Hu]
theorem Kx {A B:List Int}{d:Int}(h:A[0]? =some d):(A++B)[0]? =some d:=by
 rw [List.getElem?_append_left (by obtain ⟨h3,_⟩:=List.getElem?_eq_some_iff.1 h;exact h3)];exact h
mutual
theorem Np {c:Cn}{lo:Int}(m:Int): ∀ {s:PStm},s.wl c lo→ ∀ t,s.dl.length=(s.code m t).length∧s.dl[0]? =some 0
 | .mk k ln _ _ _ e ix body els id slot other loc,⟨h1,h2,h3,_,_,h6,h7⟩,t=>by
  have hp:=Pt (k:=k) (e:=e) (ix:=ix) (id:=id) (t:=t) (fun h=>(h2 h).1) (fun h=>(h3 h).1)
  have hb:=fun t=>Uy (c:=c) (lo:=lo) m h6 t
  have he:=fun t=>Uy (c:=c) (lo:=lo) m h7 t
  simp only [PStm.dl,PStm.code]
  by_cases h4:k=4
  · simp only [if_pos h4]
    by_cases hn:els= []
    · simp only [if_pos hn]
      refine ⟨?_,Kx (Kx hp.2)⟩
      simp only [List.length_append,Vk,List.length_cons,List.length_nil]
      rw [hp.1,hb (t+((Qw k e ix id t).length:Int)+1)]
    simp only [if_neg hn]
    refine ⟨?_,Kx (Kx (Kx (Kx hp.2)))⟩
    simp only [List.length_append,Vk,List.length_cons,List.length_nil]
    rw [hp.1,hb (t+((Qw k e ix id t).length:Int)+1),he (t+((Qw k e ix id t).length:Int)+1+((PStm.codes m body (t+((Qw k e ix id t).length:Int)+1)).length:Int)+1)]
  simp only [if_neg h4]
  by_cases h5:k=5
  · simp only [if_pos h5]
    refine ⟨?_,Kx (Kx (Kx hp.2))⟩
    simp only [List.length_append,Vk,List.length_cons,List.length_nil]
    rw [hp.1,hb (t+((Qw k e ix id t).length:Int)+1)]
  simp only [if_neg h5]
  refine ⟨?_,Kx hp.2⟩
  simp only [List.length_append,Vk]
  rw [hp.1,tail_len m k slot other loc h1 h4 h5]
theorem Uy {c:Cn}{lo:Int}(m:Int): ∀ {l:List PStm},Vf c lo l→ ∀ t,(Vz l).length=(PStm.codes m l t).length
 | [],_,_=>rfl
 |s::r,⟨h1,h2⟩,t=>by
  simp only [Vz,PStm.codes,List.length_append]
  rw [(Np (c:=c) (lo:=lo) m h1 t).1,Uy (c:=c) (lo:=lo) m h2 (t+((s.code m t).length:Int))]
end
theorem Qq {c:Cn}{lo:Int}(m:Int){l:List PStm}(h:Vf c lo l){D:List Int}{p:Nat}{t:Int}(hD:Atl D p (Vz l))(hE:D[p+(PStm.codes m l t).length]? =some 0):D[p]? =some 0:=by
 cases l with
 |nil=>exact hE
 |cons s r=>exact Atl.hd hD (Kx (Np (c:=c) (lo:=lo) m h.1 t).2)
theorem tail_snd {L:List Ins}{D:List Int}{m k sl ot:Int}{lo:Bool}{p:Nat}(h:1≤k∧k≤15)(h4: ¬k=4)(h5: ¬k=5)(hL:Atl L p (Hu m k sl ot lo))(hD:Atl D p (Pf k))(hE:D[p+(Hu m k sl ot lo).length]? =some 0):Cnds L D p (Hu m k sl ot lo).length∧D[p]? =some (preE k):=by
 have one: ∀ {i:Ins} {a:Int},Atl L p [i]→D[p]? =some a→D[p+1]? =some 0→0≤a→a≤2→Z5 i.c=(a,0)→ ¬ (i.c=19∨i.c=20∨i.c=21∨i.c=34)→ ¬i.c=23→Cnds L D p 1:=fun {i a} h1 h2 h3 h4 h5 h6 h7 h8=>
  .one (.on (a:=a) (b:=0) (Atl.one.1 h1) h2 (by rw [show a - a+0=0 by omega];exact h3) h4 h6 (by omega) (by omega) h7 (fun k=>absurd k h8))
 have hi: ∀ (s:Int),Z5 (Qf s lo).c=(1,0)∧ ¬ ((Qf s lo).c=19∨(Qf s lo).c=20∨(Qf s lo).c=21∨(Qf s lo).c=34)∧ ¬ (Qf s lo).c=23:=fun s=>by
  have hc:(Qf s lo).c=5∨(Qf s lo).c=6:=match lo with
   |false=> .inl rfl
   |true=> .inr rfl
  rcases hc with hc|hc<;>rw [hc]<;>exact ⟨by decide,by decide,by decide⟩
 have hc:k=1∨k=2∨k=3∨k=6∨k=7∨k=8∨k=9∨k=10∨k=11∨k=12∨k=13∨k=14∨k=15:=by omega
 rcases hc with rfl|rfl|rfl|rfl|rfl|rfl|rfl|rfl|rfl|rfl|rfl|rfl|rfl<;>simp (decide:=true) only [Hu,Pf,preE,if_true,if_false,reduceIte,or_true,true_or,or_false,false_or,or_self] at hL hD hE⊢
 all_goals (try (rw [Atl.one] at hD))
 · exact ⟨one hL hD hE (by decide) (by decide) (hi sl).1 (hi sl).2.1 (hi sl).2.2,hD⟩
 · exact ⟨one hL hD hE (by decide) (by decide) (hi sl).1 (hi sl).2.1 (hi sl).2.2,hD⟩
 · exact ⟨one hL hD hE (by decide) (by decide) (show Z5 7=(2,0) by decide) (show ¬ ((7:Int)=19∨(7:Int)=20∨(7:Int)=21∨(7:Int)=34) by decide) (show ¬ (7:Int)=23 by decide),hD⟩
 · exact ⟨one hL hD hE (by decide) (by decide) (show Z5 24=(0,0) by decide) (show ¬ ((24:Int)=19∨(24:Int)=20∨(24:Int)=21∨(24:Int)=34) by decide) (show ¬ (24:Int)=23 by decide),hD⟩
 · exact ⟨one hL hD hE (by decide) (by decide) (show Z5 25=(0,0) by decide) (show ¬ ((25:Int)=19∨(25:Int)=20∨(25:Int)=21∨(25:Int)=34) by decide) (show ¬ (25:Int)=23 by decide),hD⟩
 · exact ⟨one hL hD hE (by decide) (by decide) (show Z5 26=(0,0) by decide) (show ¬ ((26:Int)=19∨(26:Int)=20∨(26:Int)=21∨(26:Int)=34) by decide) (show ¬ (26:Int)=23 by decide),hD⟩
 · exact ⟨one hL hD hE (by decide) (by decide) (show Z5 27=(0,0) by decide) (show ¬ ((27:Int)=19∨(27:Int)=20∨(27:Int)=21∨(27:Int)=34) by decide) (show ¬ (27:Int)=23 by decide),hD⟩
 · exact ⟨one hL hD hE (by decide) (by decide) (show Z5 28=(0,0) by decide) (show ¬ ((28:Int)=19∨(28:Int)=20∨(28:Int)=21∨(28:Int)=34) by decide) (show ¬ (28:Int)=23 by decide),hD⟩
 · exact ⟨one hL hD hE (by decide) (by decide) (show Z5 29=(1,0) by decide) (show ¬ ((29:Int)=19∨(29:Int)=20∨(29:Int)=21∨(29:Int)=34) by decide) (show ¬ (29:Int)=23 by decide),hD⟩
 · rw [Atl.cons,Atl.one] at hL hD
   refine ⟨(Cnds.one (.on (a:=0) (b:=1) hL.1 hD.1 hD.2 (by decide) (show Z5 30=(0,1) by decide) (by decide) (by decide) (show ¬ ((30:Int)=19∨(30:Int)=20∨(30:Int)=21∨(30:Int)=34) by decide) (fun h=>absurd (show (30:Int)=23 from h) (by decide)))).app (m:=1) (.one (.on (a:=1) (b:=0) hL.2 hD.2 hE (by decide) (hi ot).1 (by decide) (by decide) (hi ot).2.1 (fun h=>absurd h (hi ot).2.2))),hD.1⟩
 · exact ⟨one hL hD hE (by decide) (by decide) (show Z5 31=(0,0) by decide) (show ¬ ((31:Int)=19∨(31:Int)=20∨(31:Int)=21∨(31:Int)=34) by decide) (show ¬ (31:Int)=23 by decide),hD⟩
 · exact ⟨one hL hD hE (by decide) (by decide) (show Z5 32=(0,0) by decide) (show ¬ ((32:Int)=19∨(32:Int)=20∨(32:Int)=21∨(32:Int)=34) by decide) (show ¬ (32:Int)=23 by decide),hD⟩
 exact ⟨one hL hD hE (by decide) (by decide) (show Z5 33=(1,0) by decide) (show ¬ ((33:Int)=19∨(33:Int)=20∨(33:Int)=21∨(33:Int)=34) by decide) (show ¬ (33:Int)=23 by decide),hD⟩
mutual
theorem PStm.snd {c:Cn}{lo:Int}(m:Int)(L:List Ins)(D:List Int): ∀ {s:PStm},s.wl c lo→ ∀ (p:Nat),Atl L p ((s.code m p).map Prod.fst)→Atl D p s.dl→D[p+(s.code m p).length]? =some 0→Cnds L D p (s.code m p).length
 | .mk k ln _ _ _ e ix body els id slot other loc,⟨h1,h2,h3,_,_,h6,h7⟩,p,hL,hD,hE=>by
  have hp:=Pt (k:=k) (e:=e) (ix:=ix) (id:=id) (t:=p) (fun h=>(h2 h).1) (fun h=>(h3 h).1)
  have hb:=fun t=>Uy (c:=c) (lo:=lo) m h6 t
  have he:=fun t=>Uy (c:=c) (lo:=lo) m h7 t
  obtain ⟨C,hC⟩: ∃ C,Qw k e ix id p=C:=⟨_,rfl⟩
  have pre:=pre_snd (L:=L) (D:=D) (k:=k) (e:=e) (ix:=ix) (id:=id) (s:=p) (fun h=>⟨(h2 h).1,(h2 h).2.1⟩) (fun h=>⟨(h3 h).1,(h3 h).2.1⟩)
  simp only [PStm.dl] at hD
  simp only [PStm.code] at hL hE⊢
  rw [hC] at hL hE hp pre⊢
  have z1:((p+C.length+1:Nat):Int)=(p:Int)+(C.length:Int)+1:=by omega
  obtain ⟨B,hB⟩: ∃ B,PStm.codes m body ((p:Int)+(C.length:Int)+1)=B:=⟨_,rfl⟩
  have bl:(Vz body).length=B.length:=by rw [←hB];exact hb _
  by_cases h4:k=4
  · subst h4
    simp only [if_true] at hD hL hE⊢
    rw [hB] at hL hE⊢
    by_cases hn:els= []
    · simp only [if_pos hn] at hD hL hE⊢
      rw [List.map_append,Wg,Atl.app,Atl.app,Atl.one] at hL
      rw [Atl.app,Atl.app,Atl.one] at hD
      obtain ⟨⟨L1,L2⟩,L3⟩:=hL
      obtain ⟨⟨D1,D2⟩,D3⟩:=hD
      simp only [List.length_append,Vk,List.length_cons,List.length_nil,hp.1] at L3 D2 D3 hE⊢
      have db:=Qq (c:=c) (lo:=lo) m h6 (p:=p+C.length+1) (t:=(p:Int)+(C.length:Int)+1) (D3.at (by omega)) (by rw [hB];exact W9 hE (by omega))
      have c1:=pre L1 D1 D2
      have cJ:Cnd L D (p+C.length):= .jif (t:=p+C.length+1+B.length) L2 D2 (.inl rfl) (by dsimp only;omega) (W9 hE (by omega)) db (by omega) (by omega)
      have c2:=J7 (c:=c) (lo:=lo) m L D h6 (p+C.length+1) (by rw [z1,hB];exact L3.at (by omega)) (D3.at (by omega)) (by rw [z1,hB];exact W9 hE (by omega))
      rw [z1,hB] at c2
      exact ((c1.app (.one cJ)).app c2).len (by omega)
    simp only [if_neg hn] at hD hL hE⊢
    obtain ⟨O,hO⟩: ∃ O,PStm.codes m els ((p:Int)+(C.length:Int)+1+(B.length:Int)+1)=O:=⟨_,rfl⟩
    have ol:(Vz els).length=O.length:=by rw [←hO];exact he _
    rw [hO] at hL hE⊢
    have z2:((p+C.length+1+B.length+1:Nat):Int)=(p:Int)+(C.length:Int)+1+(B.length:Int)+1:=by omega
    rw [List.map_append,List.map_append,List.map_append,Wg,Wg,Atl.app,Atl.app,Atl.app,Atl.app,Atl.one,Atl.one] at hL
    rw [Atl.app,Atl.app,Atl.app,Atl.app,Atl.one,Atl.one] at hD
    obtain ⟨⟨⟨⟨L1,L2⟩,L3⟩,L4⟩,L5⟩:=hL
    obtain ⟨⟨⟨⟨D1,D2⟩,D3⟩,D4⟩,D5⟩:=hD
    simp only [List.length_append,Vk,List.length_map,List.length_cons,List.length_nil,hp.1,bl] at L3 L4 L5 D2 D3 D4 D5 hE⊢
    have db:=Qq (c:=c) (lo:=lo) m h6 (p:=p+C.length+1) (t:=(p:Int)+(C.length:Int)+1) (D3.at (by omega)) (by rw [hB];exact W9 D4 (by omega))
    have do_:=Qq (c:=c) (lo:=lo) m h7 (p:=p+C.length+1+B.length+1) (t:=(p:Int)+(C.length:Int)+1+(B.length:Int)+1) (D5.at (by omega)) (by rw [hO];exact W9 hE (by omega))
    have c1:=pre L1 D1 D2
    have cJ:Cnd L D (p+C.length):= .jif (t:=p+C.length+1+B.length+1) L2 D2 (.inl rfl) (by dsimp only;omega) do_ db (by omega) (by omega)
    have c2:=J7 (c:=c) (lo:=lo) m L D h6 (p+C.length+1) (by rw [z1,hB];exact L3.at (by omega)) (D3.at (by omega)) (by rw [z1,hB];exact W9 D4 (by omega))
    have cK:Cnd L D (p+C.length+1+B.length):= .jmp (t:=p+C.length+1+B.length+1+O.length) (Bc L4 (by omega)) (W9 D4 (by omega)) rfl (by dsimp only;omega) (W9 hE (by omega)) (by omega) (by omega)
    have c3:=J7 (c:=c) (lo:=lo) m L D h7 (p+C.length+1+B.length+1) (by rw [z2,hO];exact L5.at (by omega)) (D5.at (by omega)) (by rw [z2,hO];exact W9 hE (by omega))
    rw [z1,hB] at c2
    rw [z2,hO] at c3
    exact ((((c1.app (.one cJ)).app c2).app (.one (cK.pt (by omega)))).app (n:=C.length+1+B.length+1) (by rw [show p+(C.length+1+B.length+1)=p+C.length+1+B.length+1 by omega];exact c3)).len (by omega)
  simp only [if_neg h4] at hD hL hE⊢
  by_cases h5:k=5
  · subst h5
    simp only [if_true] at hD hL hE⊢
    rw [hB] at hL hE⊢
    rw [List.map_append,List.map_append,Wg,Wg,Atl.app,Atl.app,Atl.app,Atl.one,Atl.one] at hL
    rw [Atl.app,Atl.app,Atl.app,Atl.one,Atl.one] at hD
    obtain ⟨⟨⟨L1,L2⟩,L3⟩,L4⟩:=hL
    obtain ⟨⟨⟨D1,D2⟩,D3⟩,D4⟩:=hD
    simp only [List.length_append,Vk,List.length_map,List.length_cons,List.length_nil,hp.1,bl] at L3 L4 D2 D3 D4 hE⊢
    have db:=Qq (c:=c) (lo:=lo) m h6 (p:=p+C.length+1) (t:=(p:Int)+(C.length:Int)+1) (D3.at (by omega)) (by rw [hB];exact W9 D4 (by omega))
    have c1:=pre L1 D1 D2
    have cJ:Cnd L D (p+C.length):= .jif (t:=p+C.length+1+B.length+1) L2 D2 (.inl rfl) (by dsimp only;omega) (W9 hE (by omega)) db (by omega) (by omega)
    have c2:=J7 (c:=c) (lo:=lo) m L D h6 (p+C.length+1) (by rw [z1,hB];exact L3.at (by omega)) (D3.at (by omega)) (by rw [z1,hB];exact W9 D4 (by omega))
    have cK:Cnd L D (p+C.length+1+B.length):= .jmp (t:=p) (Bc L4 (by omega)) (W9 D4 (by omega)) rfl rfl (Atl.hd D1 hp.2) (by omega) (by omega)
    rw [z1,hB] at c2
    exact (((c1.app (.one cJ)).app c2).app (.one (cK.pt (by omega)))).len (by omega)
  simp only [if_neg h5] at hD hL hE⊢
  rw [Wg,Atl.app] at hL
  rw [Atl.app] at hD
  obtain ⟨L1,L2⟩:=hL
  obtain ⟨D1,D2⟩:=hD
  simp only [List.length_append,Vk,hp.1] at D2 hE⊢
  obtain ⟨t1,t2⟩:=tail_snd h1 h4 h5 L2 D2 (W9 hE (by omega))
  exact (pre L1 D1 t2).app t1
theorem J7 {c:Cn}{lo:Int}(m:Int)(L:List Ins)(D:List Int): ∀ {l:List PStm},Vf c lo l→ ∀ (p:Nat),Atl L p ((PStm.codes m l p).map Prod.fst)→Atl D p (Vz l)→D[p+(PStm.codes m l p).length]? =some 0→Cnds L D p (PStm.codes m l p).length
 | [],_,p,_,_,_=>fun q h1 h2=>by simp only [PStm.codes,List.length_nil] at h2;omega
 |s::r,⟨h1,h2⟩,p,hL,hD,hE=>by
  simp only [PStm.codes] at hL hE⊢
  simp only [Vz] at hD
  have z:((p+(s.code m p).length:Nat):Int)=(p:Int)+((s.code m p).length:Int):=by omega
  have sl:=(Np (c:=c) (lo:=lo) m h1 p).1
  rw [List.map_append,Atl.app,List.length_map] at hL
  rw [Atl.app,sl] at hD
  rw [List.length_append] at hE⊢
  have ds:=Qq (c:=c) (lo:=lo) m h2 (t:=(p:Int)+((s.code m p).length:Int)) hD.2 (W9 hE (by omega))
  have c1:=PStm.snd (c:=c) (lo:=lo) m L D h1 p hL.1 hD.1 ds
  have c2:=J7 (c:=c) (lo:=lo) m L D h2 (p+(s.code m p).length) (by rw [z];exact hL.2) hD.2 (by rw [z];exact W9 hE (by omega))
  rw [z] at c2
  exact c1.app c2
end
theorem th_snd {c:Cn}{lo:Int}(m:Int){t:PTh}(h:Vf c lo t.body):Snd ((Vn m t).map Prod.fst) (fun k=>(Vz t.body++ [0]).getD k (-1)):=by
 have hl:=Uy (c:=c) (lo:=lo) m h 0
 obtain ⟨L,hL⟩: ∃ L,(Vn m t).map Prod.fst=L:=⟨_,rfl⟩
 obtain ⟨D,hD⟩: ∃ D,Vz t.body++ [0]=D:=⟨_,rfl⟩
 have eL:L=(PStm.codes m t.body 0).map Prod.fst++ [⟨34,0,0,0⟩]:=by rw [←hL];unfold Vn;rw [List.map_append,Wg]
 have lL:L.length=(PStm.codes m t.body 0).length+1:=by rw [eL];simp
 have lD:D.length=(PStm.codes m t.body 0).length+1:=by rw [←hD];simp [hl]
 have aL:Atl L 0 L:=fun i _=>by rw [Nat.zero_add]
 have aD:Atl D 0 D:=fun i _=>by rw [Nat.zero_add]
 have aL2:=aL;have aD2:=aD
 rw [eL] at aL2
 rw [←eL] at aL2
 have aL3:Atl L 0 ((PStm.codes m t.body 0).map Prod.fst++ [⟨34,0,0,0⟩]):=by rw [←eL];exact aL
 have aD3:Atl D 0 (Vz t.body++ [0]):=by rw [hD];exact aD
 rw [Atl.app,Atl.one,List.length_map] at aL3
 rw [Atl.app,Atl.one,hl] at aD3
 have cs:=J7 (c:=c) (lo:=lo) m L D h 0 aL3.1 aD3.1 aD3.2
 have all: ∀ a,a<L.length→Cnd L D a:=fun a ha=>by
  by_cases k:a<(PStm.codes m t.body 0).length
  · exact cs a (Nat.zero_le _) (by rw [Nat.zero_add];exact k)
  obtain rfl:a=(PStm.codes m t.body 0).length:=by omega
  refine .go (a:=0) (b:=0) (Bc aL3.2 (by omega)) (W9 aD3.2 (by omega)) (by omega) (show Z5 34=(0,0) by decide) (by omega) (by omega) (fun _=>rfl) fun y hy=> ?_
  unfold nxt at hy
  rw [if_pos rfl] at hy
  cases hy
 have dz:D[0]? =some 0:=Qq (c:=c) (lo:=lo) m h (t:=0) aD3.1 aD3.2
 rw [hL,hD]
 refine ⟨by omega,?_,fun a ha h0=> ?_⟩
 · show D.getD 0 (-1)=0
   rw [List.getD_eq_getElem?_getD,dz];rfl
 obtain ⟨i,e,h1,h2,h3,h4,h5,h6,h7⟩:=all a ha
 have ei:L.getD a Zt=i:=by rw [List.getD_eq_getElem?_getD,h1];rfl
 have ee:D.getD a (-1)=e:=by rw [List.getD_eq_getElem?_getD,h2];rfl
 rw [ei,ee]
 refine ⟨h4,h5,h6,fun y hy=> ?_⟩
 obtain ⟨g1,g2⟩:=h7 y hy
 have gl:=(List.getElem?_eq_some_iff.1 g2).1
 exact ⟨g1,by omega,by rw [List.getD_eq_getElem?_getD,g2];rfl⟩
theorem Eo (main:Int): ∀ (l:List PTh) (i:Nat),(i:Int)≤main→main<i+l.length→(Wd main l i).length+1=l.length
 | [],i,h1,h2=>by simp at h2;omega
 |x::r,i,h1,h2=>by
  simp only [Wd]
  by_cases k:(i:Int)=main
  · rw [if_pos k]
    have: ∀ (l:List PTh) (j:Nat),main<j→(Wd main l j).length=l.length:=by
     intro l
     induction l with
     |nil=>intro j _;rfl
     |cons y r ih=>intro j hj;simp only [Wd];rw [if_neg (by omega),List.length_cons,ih (j+1) (by omega),List.length_cons]
    rw [this r (i+1) (by omega),List.length_cons]
  rw [if_neg k,List.length_cons,Eo main r (i+1) (by omega) (by rw [List.length_cons] at h2;omega),List.length_cons]
structure IG (c:Cn) (lo T:Int) (i:Ins):Prop where
 k:1≤i.c∧i.c≤34
 n:if i.c=1 then -2147483648≤i.n∧i.n≤2147483647 else i.n=0
 b:if i.c=26 then 0≤i.b∧i.b<c.mu else i.b=0
 z:0≤i.a
 o:nmA i.c=false→i.a=0
 v:i.c=2∨i.c=5→i.a<c.v
 l:i.c=3∨i.c=6→i.a<lo
 a:i.c=4∨i.c=7→i.a<c.a
 j:i.c=19∨i.c=20∨i.c=21→i.a≤T
 m:i.c=23→i.a<512
 mu:i.c=24∨i.c=25→i.a<c.mu
 co:i.c=26∨i.c=27∨i.c=28→i.a<c.co
 ch:i.c=29∨i.c=30→i.a<c.ch
 th:i.c=31→i.a<c.th
theorem IG.bare {c:Cn}{lo T x:Int}(h:x=8∨x=9∨(10≤x∧x≤18)∨x=22∨(32≤x∧x≤34)):IG c lo T ⟨x,0,0,0⟩:=
 ⟨by dsimp only;omega,by rw [if_neg (by dsimp only;omega)],by rw [if_neg (by dsimp only;omega)],Int.le_refl 0,fun _=>rfl,by dsimp only;omega,by dsimp only;omega,by dsimp only;omega,by dsimp only;omega,by dsimp only;omega,by dsimp only;omega,by dsimp only;omega,by dsimp only;omega,by dsimp only;omega⟩
theorem IG.push {c:Cn}{lo T n:Int}(h: -2147483648≤n∧n≤2147483647):IG c lo T ⟨1,0,0,n⟩:=
 ⟨show (1:Int)≤1∧(1:Int)≤34 by decide,by rw [if_pos rfl];exact h,by rw [if_neg (show ¬ (1:Int)=26 by decide)],Int.le_refl 0,fun _=>rfl,by dsimp only;omega,by dsimp only;omega,by dsimp only;omega,by dsimp only;omega,by dsimp only;omega,by dsimp only;omega,by dsimp only;omega,by dsimp only;omega,by dsimp only;omega⟩
theorem IG.nm {c:Cn}{lo T x a:Int}(h:2≤x∧x≤31∧ ¬x=26)(h0:nmA x=true)(hz:0≤a)(h1:x=2∨x=5→a<c.v)(h2:x=3∨x=6→a<lo)(h3:x=4∨x=7→a<c.a)(h4:x=19∨x=20∨x=21→a≤T)(h5:x=23→a<512)(h6:x=24∨x=25→a<c.mu)(h7:x=27∨x=28→a<c.co)(h8:x=29∨x=30→a<c.ch)(h9:x=31→a<c.th):IG c lo T ⟨x,a,0,0⟩:=
 ⟨by dsimp only;omega,by rw [if_neg (by dsimp only;omega)],by rw [if_neg (by dsimp only;omega)],hz,fun e=>absurd (show nmA x=false from e) (by rw [h0];decide),h1,h2,h3,h4,h5,h6,fun e=>h7 (by have e:x=26∨x=27∨x=28:=e;omega),h8,h9⟩
theorem IG.jump {c:Cn}{lo T x a:Int}(h:x=19∨x=20∨x=21)(hz:0≤a)(hT:a≤T):IG c lo T ⟨x,a,0,0⟩:=
 .nm (by omega) (by unfold nmA;exact decide_eq_true (by omega)) hz (by omega) (by omega) (by omega) (fun _=>hT) (by omega) (by omega) (by omega) (by omega) (by omega)
theorem Yt {α:Type}{φ:α→Prop}{l m:List α}(h: ∀ x∈l,φ x)(h2: ∀ x∈m,φ x): ∀ x∈l++m,φ x:=fun x hx=>by
 rcases List.mem_append.1 hx with hx|hx
 · exact h x hx
 exact h2 x hx
theorem Yy {α:Type}{φ:α→Prop}{a:α}(h:φ a): ∀ x∈ [a],φ x:=fun x hx=>by rw [List.mem_singleton.1 hx];exact h
theorem Qz {c:Cn}{lo:Int}: ∀ (N:Nat) (e:PEx),e.sz≤N→e.fit→e.wl c lo→ ∀ (s T:Int),0≤s→s+(e.code s).length≤T→ ∀ i∈e.code s,IG c lo T i
 |0,e,hN,_,_,_,_,_,_=>by have:=e.sz_pos;omega
 |N+1,.mk k n nm slot loc op args,hN,hfit,hw,s,T,hs,hT=>by
  have hval:=Qs hfit
  obtain ⟨hk,hm,hn1,hop,hfa⟩:=hfit
  obtain ⟨w1,w2,w3⟩:=hw
  have hx: ∀ x∈args,x.fit∧x.sz≤N:=fun x hx=>by
   obtain ⟨i,hi,rfl⟩:=List.getElem_of_mem hx
   have:=Tx hi
   simp only [PEx.sz] at hN
   exact ⟨Ub hfa hx,by omega⟩
  simp only [PEx.code] at hT⊢
  split
  · exact Yy (.push hval)
  rename_i h1
  rw [if_neg h1] at hT
  split
  · rename_i h2
    have hv:=w1 h2
    unfold vaOk at hv
    refine Yy ?_
    by_cases hl:loc=true
    · rw [if_pos hl] at hv⊢
      exact .nm (by decide) (by decide) hv.1 (by omega) (fun _=>hv.2) (by omega) (by omega) (by omega) (by omega) (by omega) (by omega) (by omega)
    rw [if_neg hl] at hv⊢
    exact .nm (by decide) (by decide) hv.1 (fun _=>hv.2) (by omega) (by omega) (by omega) (by omega) (by omega) (by omega) (by omega) (by omega)
  rename_i h2
  rw [if_neg h2] at hT
  split
  · rename_i h3
    have:=hn1 h3
    exact Yy (.push (by omega))
  rename_i h3
  rw [if_neg h3] at hT
  (try dsimp only at hT);(try dsimp only)
  by_cases h6:k=6
  · obtain ⟨x,y,rfl⟩: ∃ x y,args= [x,y]:=by
     match args,hm with
     | [x,y],_=>exact ⟨x,y,rfl⟩
     | [],hm=>rw [h6] at hm;cases hm
     | [_],hm=>rw [h6] at hm;cases hm
     |_::_::_::_,hm=>rw [h6] at hm;simp [Mu] at hm
    obtain ⟨fx,sx⟩:=hx x (by simp);obtain ⟨fy,sy⟩:=hx y (by simp)
    obtain ⟨wx,wy,_⟩:=w3
    have ix:=Qz (c:=c) (lo:=lo) N x sx fx wx s T hs
    simp only [PEx.codes,List.getD_cons_zero,List.getD_cons_succ] at hT⊢
    subst h6
    have ho7:=hop rfl
    by_cases ho:op≤2
    · simp (decide:=true) only [ho,and_true,true_and,and_false,false_and,if_true,if_false,reduceIte] at hT⊢
      have iy:=Qz (c:=c) (lo:=lo) N y sy fy wy (s+((x.code s).length:Int)+1) T (by omega)
      simp only [List.length_append,List.length_cons,List.length_nil] at hT
      refine Yt (Yt (Yt (ix (by omega)) (Yy (.jump ?_ (by omega) (by omega)))) (iy (by omega))) ?_
      · split
        · exact .inr (.inl rfl)
        exact .inr (.inr rfl)
      intro i hi
      simp only [List.mem_cons,List.not_mem_nil,or_false] at hi
      rcases hi with rfl|rfl|rfl
      · exact .bare (by omega)
      · exact .jump (.inl rfl) (by omega) (by omega)
      exact .push (by omega)
    simp (decide:=true) only [ho,and_true,true_and,and_false,false_and,if_true,if_false,reduceIte] at hT⊢
    have iy:=Qz (c:=c) (lo:=lo) N y sy fy wy (s+((x.code s).length:Int)) T (by omega)
    simp only [List.length_append,List.length_cons,List.length_nil] at hT
    exact Yt (Yt (ix (by omega)) (iy (by omega))) (Yy (.bare (by omega)))
  obtain ⟨x,rfl⟩: ∃ x,args= [x]:=by
   have h1:args.length=1:=by rw [hm];unfold Mu;rw [if_pos (by omega)]
   match args,h1 with
   | [x],_=>exact ⟨x,rfl⟩
  obtain ⟨fx,sx⟩:=hx x (by simp)
  obtain ⟨wx,_⟩:=w3
  have ix:=Qz (c:=c) (lo:=lo) N x sx fx wx s T hs
  simp only [PEx.codes,List.getD_cons_zero] at hT⊢
  have hc:k=3∨k=4∨k=5:=by omega
  rcases hc with rfl|rfl|rfl<;>simp (decide:=true) only [false_and,if_true,if_false,reduceIte] at hT⊢ <;>simp only [List.length_append,List.length_cons,List.length_nil] at hT<;>refine Yt (ix (by omega)) (Yy ?_)
  · obtain ⟨a1,a2⟩:=w2 rfl
    exact .nm (by decide) (by decide) a1 (by omega) (by omega) (fun _=>a2) (by omega) (by omega) (by omega) (by omega) (by omega) (by omega)
  · exact .bare (by omega)
  exact .bare (by omega)
theorem preS_ig {c:Cn}{lo k id t T:Int}{e ix:PEx}(h:k≤5∨k=11∨k=15→e.fit∧e.dep≤24∧e.wl c lo)(h2:k=3→ix.fit∧ix.dep≤24∧ix.wl c lo)(hi:0≤id∧id<512)(ht:0≤t)(hT:t+(Qw k e ix id t).length≤T): ∀ i∈Qw k e ix id t,IG c lo T i:=by
 have mk:IG c lo T ⟨23,id,0,0⟩:= .nm (by decide) (by decide) hi.1 (by omega) (by omega) (by omega) (by omega) (fun _=>hi.2) (by omega) (by omega) (by omega) (by omega)
 unfold Qw at hT⊢
 dsimp only at hT⊢
 have e1: ∀ {C1:List Ins},(∀ i∈C1,IG c lo T i)→(k≤5∨k=11∨k=15→t+(C1++e.code (t+C1.length)).length≤T)→ ∀ i∈(if k≤5∨k=11∨k=15 then C1++e.code (t+C1.length) else C1),IG c lo T i:=fun {C1} hC hL=>by
  by_cases hk:k≤5∨k=11∨k=15
  · rw [if_pos hk]
    have:=hL hk
    rw [List.length_append] at this
    exact Yt hC (Qz (c:=c) (lo:=lo) _ e (Nat.le_refl _) (h hk).1 (h hk).2.2 _ T (by omega) (by omega))
  rw [if_neg hk];exact hC
 refine e1 ?_ (fun hk=>by rw [if_pos hk] at hT;exact hT)
 by_cases h3:k=3
 · rw [if_pos h3]
   have hk:k≤5∨k=11∨k=15:=by omega
   rw [if_pos hk,if_pos h3] at hT
   simp only [List.length_append,List.length_cons,List.length_nil] at hT
   exact Yt (Yy mk) (Qz (c:=c) (lo:=lo) _ ix (Nat.le_refl _) (h2 h3).1 (h2 h3).2.2 _ T (by omega) (by omega))
 rw [if_neg h3];exact Yy mk
theorem C5 {c:Cn}{lo T s:Int}{l:Bool}(h:vaOk c lo s l):IG c lo T (Qf s l):=by
 unfold vaOk at h
 unfold Qf
 by_cases hl:l=true
 · rw [if_pos hl] at h⊢
   exact .nm (by decide) (by decide) h.1 (by omega) (fun _=>h.2) (by omega) (by omega) (by omega) (by omega) (by omega) (by omega) (by omega)
 rw [if_neg hl] at h⊢
 exact .nm (by decide) (by decide) h.1 (fun _=>h.2) (by omega) (by omega) (by omega) (by omega) (by omega) (by omega) (by omega) (by omega)
theorem tailS_ig {c:Cn}{lo m k sl ot T:Int}{l:Bool}(h:1≤k∧k≤15)(h4: ¬k=4)(h5: ¬k=5)(ho:ownOk c lo k sl ot l)(hm:0≤m∧m<c.th): ∀ i∈Hu m k sl ot l,IG c lo T i:=by
 obtain ⟨o1,o2,o3,o4,o5,o6,o7,o8⟩:=ho
 have hc:k=1∨k=2∨k=3∨k=6∨k=7∨k=8∨k=9∨k=10∨k=11∨k=12∨k=13∨k=14∨k=15:=by omega
 rcases hc with rfl|rfl|rfl|rfl|rfl|rfl|rfl|rfl|rfl|rfl|rfl|rfl|rfl<;>simp (decide:=true) only [Hu,if_true,if_false,reduceIte,or_true,true_or,or_false,false_or,or_self]
 · exact Yy (C5 (o1 (.inl rfl)))
 · exact Yy (C5 (o1 (.inr rfl)))
 · have:=o2 rfl
   exact Yy (.nm (by decide) (by decide) this.1 (by omega) (by omega) (fun _=>this.2) (by omega) (by omega) (by omega) (by omega) (by omega) (by omega))
 focus
  have:=o3 (.inl rfl)
 rotate_left
 focus
  have:=o3 (.inr rfl)
 rotate_left
 · have h1:=o4 (.inl rfl);have h2:=o5 rfl
   exact Yy ⟨show (1:Int)≤26∧(26:Int)≤34 by decide,by rw [if_neg (show ¬ (26:Int)=1 by decide)],by rw [if_pos rfl];exact h2,h1.1,fun e=>absurd (show nmA 26=false from e) (by decide),by dsimp only;omega,by dsimp only;omega,by dsimp only;omega,by dsimp only;omega,by dsimp only;omega,by dsimp only;omega,fun _=>h1.2,by dsimp only;omega,by dsimp only;omega⟩
 · have:=o4 (.inr (.inl rfl))
   exact Yy (.nm (by decide) (by decide) this.1 (by omega) (by omega) (by omega) (by omega) (by omega) (by omega) (fun _=>this.2) (by omega) (by omega))
 · have:=o4 (.inr (.inr rfl))
   exact Yy (.nm (by decide) (by decide) this.1 (by omega) (by omega) (by omega) (by omega) (by omega) (by omega) (fun _=>this.2) (by omega) (by omega))
 · have:=o6 (.inl rfl)
   exact Yy (.nm (by decide) (by decide) this.1 (by omega) (by omega) (by omega) (by omega) (by omega) (by omega) (by omega) (fun _=>this.2) (by omega))
 · have:=o6 (.inr rfl)
   intro i hi
   simp only [List.mem_cons,List.not_mem_nil,or_false] at hi
   rcases hi with rfl|rfl
   · exact .nm (by decide) (by decide) this.1 (by omega) (by omega) (by omega) (by omega) (by omega) (by omega) (by omega) (fun _=>this.2) (by omega)
   exact C5 (o7 rfl)
 · have:=o8 rfl
   refine Yy (.nm (by decide) (by decide) ?_ (by omega) (by omega) (by omega) (by omega) (by omega) (by omega) (by omega) (by omega) (fun _=> ?_))
   · unfold Bv;split<;>(try split)<;>omega
   unfold Bv;split<;>(try split)<;>omega
 · exact Yy (.bare (by omega))
 · exact Yy (.bare (by omega))
 all_goals
  exact Yy (.nm (by decide) (by decide) this.1 (by omega) (by omega) (by omega) (by omega) (by omega) (fun _=>this.2) (by omega) (by omega) (by omega))
theorem Mk {φ:Ins→Prop}{l:List Ins}{n:Int}(h: ∀ i∈l,φ i): ∀ x∈lnd l n,φ x.1:=fun x hx=>by
 unfold lnd at hx
 obtain ⟨i,hi,rfl⟩:=List.mem_map.1 hx
 exact h i hi
mutual
theorem Al {c:Cn}{lo m:Int}(hm:0≤m∧m<c.th): ∀ {s:PStm},s.wl c lo→ ∀ (t T:Int),0≤t→t+(s.code m t).length≤T→ ∀ x∈s.code m t,IG c lo T x.1
 | .mk k ln _ _ _ e ix body els id slot other loc,⟨h1,h2,h3,h4',h5',h6,h7⟩,t,T,ht,hT=>by
  simp only [PStm.code] at hT⊢
  obtain ⟨C,hC⟩: ∃ C,Qw k e ix id t=C:=⟨_,rfl⟩
  have pre:=fun hT=>preS_ig (c:=c) (lo:=lo) (k:=k) (id:=id) (t:=t) (T:=T) (e:=e) (ix:=ix) h2 h3 h4' ht hT
  rw [hC] at hT pre⊢
  obtain ⟨B,hB⟩: ∃ B,PStm.codes m body (t+(C.length:Int)+1)=B:=⟨_,rfl⟩
  have cb:=Q5 (c:=c) (lo:=lo) hm h6 (t+(C.length:Int)+1) T (by omega)
  rw [hB] at cb
  by_cases h4:k=4
  · simp only [if_pos h4] at hT⊢
    rw [hB] at hT⊢
    by_cases hn:els= []
    · simp only [if_pos hn] at hT⊢
      simp only [List.length_append,Vk,List.length_cons,List.length_nil] at hT
      exact Yt (Mk (Yt (pre (by omega)) (Yy (.jump (.inr (.inl rfl)) (by omega) (by omega))))) (cb (by omega))
    simp only [if_neg hn] at hT⊢
    have co:=Q5 (c:=c) (lo:=lo) hm h7 (t+(C.length:Int)+1+(B.length:Int)+1) T (by omega)
    obtain ⟨O,hO⟩: ∃ O,PStm.codes m els (t+(C.length:Int)+1+(B.length:Int)+1)=O:=⟨_,rfl⟩
    rw [hO] at hT co⊢
    simp only [List.length_append,Vk,List.length_cons,List.length_nil] at hT
    exact Yt (Yt (Yt (Mk (Yt (pre (by omega)) (Yy (.jump (.inr (.inl rfl)) (by omega) (by omega))))) (cb (by omega))) (Mk (Yy (.jump (.inl rfl) (by omega) (by omega))))) (co (by omega))
  simp only [if_neg h4] at hT⊢
  by_cases h5:k=5
  · simp only [if_pos h5] at hT⊢
    rw [hB] at hT⊢
    simp only [List.length_append,Vk,List.length_cons,List.length_nil] at hT
    exact Yt (Yt (Mk (Yt (pre (by omega)) (Yy (.jump (.inr (.inl rfl)) (by omega) (by omega))))) (cb (by omega))) (Mk (Yy (.jump (.inl rfl) (by omega) (by omega))))
  simp only [if_neg h5] at hT⊢
  rw [Vk,List.length_append] at hT
  exact Mk (Yt (pre (by omega)) (tailS_ig h1 h4 h5 h5' hm))
theorem Q5 {c:Cn}{lo m:Int}(hm:0≤m∧m<c.th): ∀ {l:List PStm},Vf c lo l→ ∀ (t T:Int),0≤t→t+(PStm.codes m l t).length≤T→ ∀ x∈PStm.codes m l t,IG c lo T x.1
 | [],_,_,_,_,_=>fun x hx=>by simp only [PStm.codes] at hx;cases hx
 |s::r,⟨h1,h2⟩,t,T,ht,hT=>by
  simp only [PStm.codes] at hT⊢
  rw [List.length_append] at hT
  exact Yt (Al (c:=c) (lo:=lo) hm h1 t T ht (by omega)) (Q5 (c:=c) (lo:=lo) hm h2 (t+((s.code m t).length:Int)) T (by omega) (by omega))
end
mutual
def PStm.lnb (B:Int):PStm→Prop
 | .mk _ ln _ _ _ _ _ body els _ _ _ _=>(0≤ln∧ln≤B)∧W6 B body∧W6 B els
def W6 (B:Int):List PStm→Prop
 | []=>True
 |s::r=>s.lnb B∧W6 B r
end
mutual
theorem A5 {B:Int}: ∀ (s:PStm) (f:Fnd),s.lnb B→(f.stmt s).2.lnb B
 | .mk k ln cl nm wt e ix body els id slot other loc,f,⟨h1,h2,h3⟩=>by
  simp only [Fnd.stmt]
  split
  · exact ⟨h1,h2,h3⟩
  exact ⟨h1,K8 body _ h2,K8 els _ h3⟩
theorem K8 {B:Int}: ∀ (l:List PStm) (f:Fnd),W6 B l→W6 B (f.blk l).2
 | [],f,_=>trivial
 |s::r,f,⟨h1,h2⟩=>by
  simp only [Fnd.blk]
  split
  · exact ⟨A5 s f h1,K8 r _ h2⟩
  trivial
end
mutual
theorem Ai {B m:Int}: ∀ {s:PStm},s.lnb B→ ∀ t,∀ x∈s.code m t,0≤x.2∧x.2≤B
 | .mk k ln _ _ _ e ix body els id slot other loc,⟨h1,h2,h3⟩,t=>by
  have hl: ∀ l:List Ins,∀ x∈lnd l ln,0≤x.2∧x.2≤B:=fun l x hx=>by
   unfold lnd at hx;obtain ⟨i,hi,rfl⟩:=List.mem_map.1 hx;exact h1
  have hb:=fun t=>Q4 (m:=m) h2 t
  have he:=fun t=>Q4 (m:=m) h3 t
  simp only [PStm.code]
  split
  · split
    · exact Yt (hl _) (hb _)
    exact Yt (Yt (Yt (hl _) (hb _)) (hl _)) (he _)
  split
  · exact Yt (Yt (hl _) (hb _)) (hl _)
  exact hl _
theorem Q4 {B m:Int}: ∀ {l:List PStm},W6 B l→ ∀ t,∀ x∈PStm.codes m l t,0≤x.2∧x.2≤B
 | [],_,_=>fun x hx=>by simp only [PStm.codes] at hx;cases hx
 |s::r,⟨h1,h2⟩,t=>by
  simp only [PStm.codes]
  exact Yt (Ai h1 t) (Q4 h2 _)
end
theorem Fk: ∀ {g:Nat} {l:Bs} {ln cl:Int} {ts:List Tk},Kc g l ln cl=some ts→0≤ln→ ∀ t∈ts,0≤t.ln∧t.ln≤ln+l.length
 |0,_,_,_,_,h,_=>by cases h
 |g+1, [],ln,cl,ts,h,_=>by cases h;exact fun t ht=>by cases ht
 |g+1,c::r,ln,cl,ts,h,h0=>by
  rw [Kc] at h
  split at h
  · intro t ht;have:=Fk h (by omega) t ht;rw [List.length_cons];omega
  split at h
  · intro t ht;have:=Fk h h0 t ht;rw [List.length_cons];omega
  split at h
  · intro t ht
    have:=Fk h h0 t ht
    have hs:((c::r).dropWhile (· !=10)).length≤(c::r).length:=(List.dropWhile_sublist _).length_le
    omega
  split at h
  · cases h
  rename_i k w n ho
  cases hl:Kc g ((c::r).drop w.length) ln (cl+w.length) with
  |none=>rw [hl] at h;cases h
  |some us=>
   rw [hl] at h;cases h
   intro t ht
   rcases List.mem_cons.1 ht with rfl|ht
   · dsimp only;omega
   have:=Fk hl h0 t ht
   rw [List.length_drop] at this;omega
theorem H8 {s:Bs}{ts r:List Tk}(h:tkW s ts=some r): ∀ t∈r,t∈ts:=by
 unfold tkW at h
 split at h
 · cases h;exact fun t ht=>List.mem_of_mem_tail ht
 cases h
theorem Wc {s:Bs}{ts r:List Tk}{u:Unit}(h:Vp s ts=some (u,r)): ∀ t∈r,t∈ts:=H8 (Rx.1 h)
theorem Hr {ts r:List Tk}{x:ByteArray}(h:Jj ts=some (x,r)): ∀ t∈r,t∈ts:=by
 cases ts with
 |nil=>cases h
 |cons t l=>simp only [Jj] at h;split at h<;>cases h;exact fun t ht=>List.mem_cons_of_mem _ ht
theorem N4 {ts r:List Tk}{x:Int}(h:Jd ts=some (x,r)): ∀ t∈r,t∈ts:=by
 cases ts with
 |nil=>cases h
 |cons t l=>simp only [Jd] at h;split at h<;>cases h;exact fun t ht=>List.mem_cons_of_mem _ ht
theorem Lk: ∀ f,(∀ n ts e r,W8 f n ts=some (e,r)→ ∀ t∈r,t∈ts)∧(∀ n x ts e r,Mp f n x ts=some (e,r)→ ∀ t∈r,t∈ts)∧
 (∀ ts e r,unS f ts=some (e,r)→ ∀ t∈r,t∈ts)∧(∀ ts e r,Ud f ts=some (e,r)→ ∀ t∈r,t∈ts):=by
 intro f
 induction f with
 |zero=>exact ⟨fun _ _ _ _ h=>(by cases h),fun _ _ _ _ _ h=>(by cases h),fun _ _ _ h=>(by cases h),fun _ _ _ h=>by cases h⟩
 |succ f ih=>
  obtain ⟨ih1,ih2,ih3,ih4⟩:=ih
  refine ⟨fun n ts e r h=> ?_,fun n x ts e r h=> ?_,fun ts e r h=> ?_,fun ts e r h=> ?_⟩
  · rw [W8] at h
    split at h
    · exact ih3 _ _ _ h
    split at h
    · cases h
    rename_i e1 r1 h1
    exact fun t ht=>ih1 _ _ _ _ h1 t (ih2 _ _ _ _ _ h t ht)
  · rw [Mp] at h
    split at h
    · cases h;exact fun t ht=>ht
    split at h
    · cases h
    rename_i x1 r1 h1
    have k1:=ih1 _ _ _ _ h1
    split at h
    · cases h;exact fun t ht=>List.mem_of_mem_tail (k1 t ht)
    exact fun t ht=>List.mem_of_mem_tail (k1 t (ih2 _ _ _ _ _ h t ht))
  · rw [unS] at h
    split at h
    · rename_i r1 h1
      split at h
      · cases h
      rename_i x1 r2 h2
      cases h
      exact fun t ht=>H8 h1 t (ih3 _ _ _ h2 t ht)
    split at h
    · rename_i r1 h1
      split at h
      · cases h
      rename_i x1 r2 h2
      cases h
      exact fun t ht=>H8 h1 t (ih3 _ _ _ h2 t ht)
    exact ih4 _ _ _ h
  rw [Ud] at h
  split at h
  · rename_i r1 h1
    split at h
    · cases h
    rename_i x1 r2 h2
    split at h
    · cases h
    rename_i r3 h3
    cases h
    exact fun t ht=>H8 h1 t (ih1 _ _ _ _ h2 t (H8 h3 t ht))
  split at h
  · rename_i z r1 h1
    cases h
    exact N4 h1
  split at h
  · cases h
  rename_i nm r1 h1
  split at h
  · cases h;exact Hr h1
  rename_i r2 h2
  split at h
  · cases h
  rename_i x1 r3 h3
  split at h
  · cases h
  rename_i r4 h4
  cases h
  exact fun t ht=>Hr h1 t (H8 h2 t (ih1 _ _ _ _ h3 t (H8 h4 t ht)))
def TB (B:Int)(ts:List Tk):Prop:= ∀ t∈ts,0≤t.ln∧t.ln≤B
theorem TB.sub {B:Int}{ts r:List Tk}(h:TB B ts)(k: ∀ t∈r,t∈ts):TB B r:=fun t ht=>h t (k t ht)
theorem TB.tl {B:Int}{ts:List Tk}(h:TB B ts):TB B ts.tail:=fun t ht=>h t (List.mem_of_mem_tail ht)
theorem TB.pos {B:Int}{ts:List Tk}(h:TB B ts)(hB:0≤B):0≤(Zi ts).1∧(Zi ts).1≤B:=by
 cases ts with
 |nil=>exact ⟨Int.le_refl 0,hB⟩
 |cons t r=>exact h t (List.mem_cons_self ..)
theorem O6 {B:Int}{f:Nat}{k:Int}{p:Int×Int}{nm:ByteArray}{ts r:List Tk}{s:PStm}(hp:0≤p.1∧p.1≤B)(hB:TB B ts)(h:Uu f k p nm ts=some (s,r)):s.lnb B∧TB B r:=by
 have ex:=fun {ts e r} (h:W8 f 1 ts=some (e,r))=>(Lk f).1 1 ts e r h
 unfold Uu at h
 split at h
 · split at h
   · obtain ⟨ix,r1,h1,h⟩:=Zn h
     obtain ⟨_,r2,h2,h⟩:=Zn h
     obtain ⟨_,r3,h3,h⟩:=Zn h
     obtain ⟨e,r4,h4,h⟩:=Zn h
     obtain ⟨_,r5,h5,h⟩:=Zn h
     cases h
     exact ⟨⟨hp,trivial,trivial⟩,((((hB.tl.sub (ex h1)).sub (Wc h2)).sub (Wc h3)).sub (ex h4)).sub (Wc h5)⟩
   obtain ⟨_,r3,h3,h⟩:=Zn h
   obtain ⟨e,r4,h4,h⟩:=Zn h
   obtain ⟨_,r5,h5,h⟩:=Zn h
   cases h
   exact ⟨⟨hp,trivial,trivial⟩,((hB.sub (Wc h3)).sub (ex h4)).sub (Wc h5)⟩
 split at h
 · obtain ⟨_,r3,h3,h⟩:=Zn h
   obtain ⟨e,r4,h4,h⟩:=Zn h
   obtain ⟨_,r5,h5,h⟩:=Zn h
   cases h
   exact ⟨⟨hp,trivial,trivial⟩,((hB.sub (Wc h3)).sub (ex h4)).sub (Wc h5)⟩
 split at h
 · obtain ⟨wt,r3,h3,h⟩:=Zn h
   obtain ⟨_,r5,h5,h⟩:=Zn h
   cases h
   exact ⟨⟨hp,trivial,trivial⟩,(hB.sub (Hr h3)).sub (Wc h5)⟩
 split at h
 · obtain ⟨e,r4,h4,h⟩:=Zn h
   obtain ⟨_,r5,h5,h⟩:=Zn h
   cases h
   exact ⟨⟨hp,trivial,trivial⟩,(hB.sub (ex h4)).sub (Wc h5)⟩
 obtain ⟨_,r5,h5,h⟩:=Zn h
 cases h
 exact ⟨⟨hp,trivial,trivial⟩,hB.sub (Wc h5)⟩
theorem stmt_ln {B:Int}(b0:0≤B): ∀ f,(∀ ts s r,TB B ts→Jq f ts=some (s,r)→s.lnb B∧TB B r)∧(∀ ts l r,TB B ts→Hx f ts=some (l,r)→W6 B l∧TB B r)∧(∀ ts l r,TB B ts→U1 f ts=some (l,r)→W6 B l∧TB B r):=by
 intro f
 induction f with
 |zero=>exact ⟨fun _ _ _ _ h=>(by cases h),fun _ _ _ _ h=>(by cases h),fun _ _ _ _ h=>by cases h⟩
 |succ f ih=>
  obtain ⟨ih1,ih2,ih3⟩:=ih
  have ex:=fun {ts e r} (h:W8 f 1 ts=some (e,r))=>(Lk f).1 1 ts e r h
  refine ⟨fun ts s r hB h=> ?_,fun ts l r hB h=> ?_,fun ts l r hB h=> ?_⟩
  · have hp:=hB.pos b0
    rw [Jq] at h
    split at h
    · obtain ⟨e,r1,h1,h⟩:=Zn h
      obtain ⟨b,r2,h2,h⟩:=Zn h
      have k2:=ih2 _ _ _ (hB.tl.sub (ex h1)) h2
      split at h
      · obtain ⟨b2,r3,h3,h⟩:=Zn h
        cases h
        have k3:=ih2 _ _ _ k2.2.tl h3
        exact ⟨⟨hp,k2.1,k3.1⟩,k3.2⟩
      cases h;exact ⟨⟨hp,k2.1,trivial⟩,k2.2⟩
    split at h
    · exact O6 hp hB.tl h
    obtain ⟨nm,r1,h1,h⟩:=Zn h
    exact O6 hp (TB.sub (by split<;>first|exact hB.tl|exact hB) (Hr h1)) h
  · rw [Hx] at h
    obtain ⟨_,r1,h1,h⟩:=Zn h
    obtain ⟨l1,r2,h2,h⟩:=Zn h
    obtain ⟨_,r3,h3,h⟩:=Zn h
    cases h
    have k2:=ih3 _ _ _ (hB.sub (Wc h1)) h2
    exact ⟨k2.1,k2.2.sub (Wc h3)⟩
  rw [U1] at h
  split at h
  · cases h;exact ⟨trivial,hB⟩
  obtain ⟨s,r1,h1,h⟩:=Zn h
  obtain ⟨l1,r2,h2,h⟩:=Zn h
  cases h
  have k1:=ih1 _ _ _ hB h1
  have k2:=ih3 _ _ _ k1.2 h2
  exact ⟨⟨k1.1,k2.1⟩,k2.2⟩
theorem decl_ln {B:Int}(b0:0≤B){f:Nat}{ts r:List Tk}{d:PDec}(hB:TB B ts)(h:Ke f ts=some (d,r)):W6 B d.body∧TB B r:=by
 unfold Ke at h
 split at h
 · cases h
 obtain ⟨nm,r1,h1,h⟩:=Zn h
 have k1:=hB.tl.sub (Hr h1)
 split at h
 · obtain ⟨b,r2,h2,h⟩:=Zn h
   cases h
   exact (stmt_ln b0 f).2.1 _ _ _ k1 h2
 obtain ⟨n,r2,h2,h⟩:=Zn h
 obtain ⟨_,r3,h3,h⟩:=Zn h
 cases h
 refine ⟨trivial,TB.sub ?_ (Wc h3)⟩
 unfold E1 at h2
 split at h2
 · obtain ⟨_,r4,h4,h2⟩:=Zn h2
   have k4:=k1.sub (Wc h4)
   split at h2
   · obtain ⟨z,r5,h5,h2⟩:=Zn h2
     cases h2
     exact k4.tl.sub (N4 h5)
   exact k4.sub (N4 h2)
 split at h2
 · exact k1.sub (N4 h2)
 cases h2;exact k1
theorem Lf {B:Int}(b0:0≤B){G:Nat}: ∀ {f:Nat} {ts:List Tk} {ds:List PDec},TB B ts→Un G f ts=some ds→ ∀ d∈ds,W6 B d.body
 |0,_,_,_,h=>by cases h
 |f+1,ts,ds,hB,h=>by
  rw [Un] at h
  split at h
  · cases h;exact fun d hd=>by cases hd
  obtain ⟨d,r,h1,h⟩:=Zn h
  cases h2:Un G f r with
  |none=>rw [h2] at h;cases h
  |some us=>
   rw [h2] at h;cases h
   have k1:=decl_ln b0 hB h1
   have k2:=Lf b0 k1.2 h2
   intro d hd
   rcases List.mem_cons.1 hd with rfl|hd
   · exact k1.1
   exact k2 d hd
theorem parse_ln {l:Bs}{ds:List PDec}(h:Qr l=some ds): ∀ d∈ds,W6 (l.length+1) d.body:=by
 unfold Qr at h
 split at h
 · cases h
 split at h
 · cases h
 rename_i ts h1
 split at h
 · cases h
 rename_i us h2
 split at h
 · cases h
 cases h
 exact Lf (by omega) (fun t ht=>by have:=Fk h1 (by omega) t ht;omega) h2
theorem Zqy {l:Bs}{F:Fnd}(h:Me l=some F):PrgOk (fun b=>Ze b≤14*l.length∧W6 (l.length+1) b) F∧l.length≤65536:=by
 unfold Me at h
 split at h
 · cases h
 rename_i ds hd
 obtain ⟨h1,h2⟩:=G1 hd
 refine ⟨Lj h ⟨Nat.zero_le _,trivial⟩ fun d hm hb g=>⟨?_,K8 _ _ (parse_ln hd d hm)⟩,h2⟩
 have h3:=Kg d.body g (Ax hb)
 have h4:=Dr (f:=fun d:PDec=>Z2 d.body+1) hm
 have h5:Z2 d.body+1≤(ds.map fun d=>Z2 d.body+1).sum:=h4
 omega
theorem IG.ok {c:Cn}{lo T:Int}{i:Ins}(h:IG c lo T i)(hc:c.v≤64∧c.a≤64∧c.mu≤64∧c.co≤64∧c.ch≤64∧c.th≤64)(hl:lo≤32)(hT:T≤65535):Jk i:=by
 obtain ⟨k,n,b,z,o,v,l,a,j,m,mu,co,ch,th⟩:=h
 refine ⟨k,?_,?_,n⟩
 · by_cases hn:nmA i.c=true
   · rw [if_pos hn]
     refine ⟨z,?_⟩
     unfold nmA at hn
     have:=of_decide_eq_true hn
     omega
   rw [if_neg hn];exact o (by simpa using hn)
 by_cases hb:i.c=26
 · rw [if_pos hb] at b⊢;omega
 rw [if_neg hb] at b⊢;exact b
theorem modOf_ok {F:Fnd}{m:Mdl}{N:Nat}(hF:PrgOk (fun b=>Ze b≤14*N∧W6 (N+1) b) F)(hN:N≤4600)(hm:ModOf F m):V0 m=0:=by
 obtain ⟨k1,k2,k3,k4,⟨k5,k5'⟩,k6,k6'⟩:=hF.k
 have ml:m.threads.length=F.ths.length:=by
  have:=congrArg List.length hm.t
  rw [List.length_map,List.length_map] at this
  rw [this]
  unfold Nk
  rw [List.length_cons]
  exact Eo F.main F.ths 0 hF.m.1 (by have:=hF.m.2;omega)
 have hmn:F.main.toNat<F.ths.length:=by have:=hF.m;omega
 have thr: ∀ x∈m.threads,∃ t∈F.ths,x.name=t.nm∧x.locals=t.loc∧x.ins=(Vn F.main t).map Prod.fst∧x.lines=(Vn F.main t).map Prod.snd:=fun x hx=>by
  have h1:(fun x:Cod=>(x.name,x.locals,x.ins,x.lines)) x∈(Nk F).map (thP F.main):=by rw [←hm.t];exact List.mem_map_of_mem hx
  obtain ⟨t,ht,e⟩:=List.mem_map.1 h1
  unfold thP at e
  simp only [Prod.mk.injEq] at e
  refine ⟨t,?_,e.1.symm,e.2.1.symm,e.2.2.1.symm,e.2.2.2.symm⟩
  unfold Nk at ht
  rcases List.mem_cons.1 ht with ht|ht
  · rw [ht,List.getD_eq_getElem?_getD,List.getElem?_eq_getElem hmn];exact List.getElem_mem hmn
  exact Jz _ _ _ ht
 have cm:0≤F.main∧F.main<F.cn.th:=hF.m
 have per: ∀ x∈m.threads,Dx x∧(dOf m x).2=0:=fun x hx=>by
  obtain ⟨t,ht,e1,e2,e3,e4⟩:=thr x hx
  obtain ⟨w1,w2,w3,w4,w5⟩:=hF.t t ht
  have hlen:=B3 F.main t
  have cl:(Vn F.main t).length=(PStm.codes F.main t.body 0).length+1:=by unfold Vn;rw [List.length_append,Vk];rfl
  have ig: ∀ i∈x.ins,IG F.cn t.loc ((PStm.codes F.main t.body 0).length:Int) i:=fun i hi=>by
   rw [e3] at hi
   obtain ⟨y,hy,rfl⟩:=List.mem_map.1 hi
   unfold Vn at hy
   rcases List.mem_append.1 hy with hy|hy
   · exact Q5 (c:=F.cn) (lo:=t.loc) cm w3 0 _ (Int.le_refl 0) (by omega) y hy
   exact Mk (Yy (.bare (by omega))) y hy
  have li:x.ins.length=(PStm.codes F.main t.body 0).length+1:=by rw [e3,List.length_map,cl]
  have ll:x.lines.length=(PStm.codes F.main t.body 0).length+1:=by rw [e4,List.length_map,cl]
  refine ⟨⟨by rw [e1];unfold Yn;omega,by rw [e2];exact w2,by omega,⟨by omega,fun i hi=>(ig i hi).ok ⟨by show (F.vars.length:Int)≤64;omega,by show (F.arrs.length:Int)≤64;omega,k5',k6',by show (F.chs.length:Int)≤64;omega,by show (F.ths.length:Int)≤64;omega⟩ w2.2 (by omega)⟩,⟨by omega,fun n hn=> ?_⟩⟩,?_⟩
  · rw [e4] at hn
    obtain ⟨y,hy,rfl⟩:=List.mem_map.1 hn
    unfold Vn at hy
    rcases List.mem_append.1 hy with hy|hy
    · have:=Q4 w5 0 y hy;unfold Yn;omega
    unfold lnd at hy;obtain ⟨i,hi,rfl⟩:=List.mem_map.1 hy;unfold Yn;dsimp only;omega
  have sn:=th_snd (c:=F.cn) (lo:=t.loc) F.main w3
  rw [←e3] at sn
  refine sn.dOf fun i hi=> ?_
  have g:=ig i hi
  refine ⟨fun n hn=> ?_,fun hc=>by have:=g.b;rw [if_pos hc] at this;rw [hm.mu];exact this.2⟩
  unfold Vw at hn
  split at hn
  · rename_i h;cases hn;rw [hm.v];exact g.v h
  split at hn
  · rename_i h;cases hn;rw [e2];exact g.l h
  split at hn
  · rename_i h;cases hn;rw [hm.a];exact g.a h
  split at hn
  · rename_i h;cases hn;have:=g.j h;omega
  split at hn
  · rename_i h;cases hn;rw [hm.mu];exact g.mu h
  split at hn
  · rename_i h;cases hn;rw [hm.co];exact g.co h
  split at hn
  · rename_i h;cases hn;rw [hm.c];exact g.ch h
  split at hn
  · rename_i h;cases hn;rw [ml];exact g.th h
  cases hn
 refine Ot ⟨by rw [hm.mu];exact ⟨k5,k5'⟩,by rw [hm.co];exact ⟨k6,k6'⟩,⟨by rw [hm.v];omega,by rw [hm.v];exact hF.v⟩,⟨by rw [hm.a];omega,by rw [hm.a];exact fun n hn=>by have:=hF.a n hn;unfold Yn;omega⟩,⟨by rw [hm.c];omega,by rw [hm.c];exact hF.c⟩,⟨by omega,fun x hx=>(per x hx).1⟩⟩ fun x hx=>(per x hx).2
section
variable {G:World}{q pre:List HP}{a b A:Option Addr}{c d C p p0 p1 p2 i:Nat}{lo hi n cd dep:Int}{fv:Value}{x y:Ins}{t:Cod}{m:Mdl}{at_:Int}
variable {l cells loc:List Int}{idx arr z k u pc code:Int}{x1 x2 x3 x4 x5 x6 old:Value}{pm cc lc n1 n2:Nat}{la cda:Option Addr}
set_option maxHeartbeats 4000000 in
theorem plain_ok (hS:StepQ m x loc l cells)(hx:x.c=1∨x.c=3∨x.c=6∨x.c=19∨x.c=20∨x.c=21):CallF prog G 81 [.pointer (some ⟨p,0,none⟩),.agg (Zx x).toArray] (pto p (.cells [.slice a (l).length c,.pointer (some ⟨pm,0,none⟩),x2,.int .i64 (pc),.slice la (loc).length lc,x5,.slice cda cells.length cc].toArray 122 (0,0))::lsH I64 2 a c (l)::lsH I64 2 la lc (loc)::q) (Ret fun v q'=> ∃ a' c',q'=pto p (.cells [.slice a' ((Yz x pc loc l).2.2).length c',.pointer (some ⟨pm,0,none⟩),x2,.int .i64 ((Yz x pc loc l).1),.slice la ((Yz x pc loc l).2.1).length lc,x5,.slice cda cells.length cc].toArray 122 (0,0))::lsH I64 2 a' c' ((Yz x pc loc l).2.2)::lsH I64 2 la lc ((Yz x pc loc l).2.1)::q):=by
 refine CallF.of func81 ntmps81 rfl (fun F cs=> ?_)
 have hdep:=hS.dep;have hlen:=hS.len
 rcases hx with hx|hx|hx|hx|hx|hx
 · have hdx:=hdep;rw [hx] at hdx;replace hdx:(0:Int)≤l.length:=hdx
   refine xo 2 ?_;refine Zl fun n1=> ?_
   refine ol 4 ?_;refine ox 7 ?_;refine X.kt 6 ?_;refine xx 1 ?_;refine drw ?_;refine dl [0,1,2,3] 4 ?_;refine Qd 5 call79 (Ka (l:=l) (z:=x.n) (by omega)) ?_
   rintro _ _ ⟨a2,c2,rfl⟩ _ e_;simp only [ca,na] at e_;subst e_
   refine ⟨trivial,?_⟩
   refine XD.nil ?_;refine xx 1 ?_
   have hPS:Yz x pc loc l=(pc,loc,l++ [x.n]):=by unfold Yz;rw [if_pos hx]
   refine Yo (pto p (.cells [.slice a2 (l++ [x.n]).length c2,.pointer (some ⟨pm,0,none⟩),x2,.int .i64 (pc),.slice la (loc).length lc,x5,.slice cda cells.length cc].toArray 122 (0,0))::lsH I64 2 a2 c2 (l++ [x.n])::lsH I64 2 la lc (loc)::q) func81 (V4 results81) ⟨_,rfl,a2,c2,by rw [hPS]⟩
 · have hdx:=hdep;rw [hx] at hdx;replace hdx:(0:Int)≤l.length:=hdx
   have hv:=hS.loc (by omega);have hlt:x.a.toNat<loc.length:=(by omega)
   refine Je (l:=loc) (by omega) (fun gl e_=> ?_);subst e_
   refine xo 2 ?_;refine Zl fun n1=> ?_
   refine ol 4 ?_;refine ox 7 ?_;refine kx 6 6 ?_;refine X.kt 14 ?_;refine xx 1 ?_;refine drw ?_;refine dl [0,1,2,3,4,5,6] 7 ?_;refine dl [8] 9 ?_;refine dd [10] ?_;refine ldD 11 ?_ (hc:=(Cl.e1 (Sees.lsH _) Zj hlt (by omega)))
   refine Qd 12 call79 (Ka (l:=l) (z:=loc[x.a.toNat]) (by omega)) ?_
   rintro _ _ ⟨a2,c2,rfl⟩ _ e_;simp only [ca,na] at e_;subst e_
   refine ⟨hlR,?_⟩
   refine XD.nil ?_;refine xx 1 ?_
   have hPS:Yz x pc loc l=(pc,loc,l++ [loc[x.a.toNat]]):=by unfold Yz;rw [if_neg (by omega),if_pos hx,Wv hlt]
   refine Yo (pto p (.cells [.slice a2 (l++ [loc[x.a.toNat]]).length c2,.pointer (some ⟨pm,0,none⟩),x2,.int .i64 (pc),.slice (some ⟨gl,0,none⟩) (loc).length lc,x5,.slice cda cells.length cc].toArray 122 (0,0))::lsH I64 2 a2 c2 (l++ [loc[x.a.toNat]])::lsH I64 2 (some ⟨gl,0,none⟩) lc (loc)::q) func81 (V4 results81) ⟨_,rfl,a2,c2,by rw [hPS]⟩
 · have hdx:=hdep;rw [hx] at hdx;replace hdx:(1:Int)≤l.length:=hdx
   have hv:=hS.loc (by omega);have hlt:x.a.toNat<loc.length:=(by omega)
   refine Je (l:=loc) (by omega) (fun gl e_=> ?_);subst e_
   refine xo 2 ?_;refine Zl fun n1=> ?_
   refine ol 4 ?_;refine ox 7 ?_;refine kx 6 6 ?_;refine kx 14 6 ?_;refine X.kt 29 ?_;refine xx 1 ?_;refine drw ?_;refine dl [0,1,2,3] 4 ?_;refine dl [5] 6 ?_;refine dd [7,8,9] ?_;refine Qd 10 call78 (Qx (l:=l) (by omega)) ?_
   rintro _ _ ⟨rfl,rfl⟩ _ e_;simp only [ca,na] at e_;subst e_
   refine ⟨hlA,?_⟩
   refine dd [11] ?_;refine XD.ef0 12 rfl (Wq (l:=loc) (n:=x.a.toNat) (u:=Z9 l) rfl rfl sizeOf2 (by omega) hlt rfl rfl Zj) ?_
   rintro _ _ ⟨rfl,rfl⟩
   refine ⟨trivial,?_⟩
   refine XD.nil ?_;refine xx 1 ?_
   have hPS:Yz x pc loc l=(pc,loc.set x.a.toNat (Z9 l),l.take (l.length - 1)):=by unfold Yz;rw [if_neg (by omega),if_neg (by omega),if_pos hx]
   refine Yo (pto p (.cells [.slice a (l.take (l.length - 1)).length c,.pointer (some ⟨pm,0,none⟩),x2,.int .i64 (pc),.slice (some ⟨gl,0,none⟩) loc.length lc,x5,.slice cda cells.length cc].toArray 122 (0,0))::lsH I64 2 a c (l.take (l.length - 1))::lsH I64 2 (some ⟨gl,0,none⟩) lc (loc.set x.a.toNat (Z9 l))::q) func81 (V4 results81) ⟨_,rfl,a,c,by rw [hPS];simp only [List.length_set]⟩
 · have hdx:=hdep;rw [hx] at hdx;replace hdx:(0:Int)≤l.length:=hdx
   refine xo 2 ?_;refine Zl fun n1=> ?_
   refine ol 4 ?_;refine ox 7 ?_;refine kx 6 6 ?_;refine kx 14 6 ?_;refine kx 29 6 ?_;refine X.kt 43 ?_;refine xl 4 ?_;refine oo 3 ?_;refine st ?_;refine ox 2 ?_
   have hPS:Yz x pc loc l=(x.a,loc,l):=by unfold Yz;rw [if_neg (by omega),if_neg (by omega),if_neg (by omega),if_pos hx]
   refine Yo (pto p (.cells [.slice a (l).length c,.pointer (some ⟨pm,0,none⟩),x2,.int .i64 (x.a),.slice la (loc).length lc,x5,.slice cda cells.length cc].toArray 122 (0,0))::lsH I64 2 a c (l)::lsH I64 2 la lc (loc)::q) func81 (V4 results81) ⟨_,rfl,a,c,by rw [hPS]⟩
 iterate 2
  focus
   have hdx:=hdep;rw [hx] at hdx;replace hdx:(1:Int)≤l.length:=hdx
   refine xo 2 ?_;refine Zl fun n1=> ?_
   refine ol 4 ?_;refine ox 7 ?_;refine kx 6 6 ?_;refine kx 14 6 ?_;refine kx 29 6 ?_;refine kx 43 6 ?_
  rotate_left
 focus
  refine X.kt 51 ?_;refine xo 6 ?_;refine V3 call78 (Qx (l:=l) (by omega)) ?_
  rintro _ _ ⟨rfl,rfl⟩ _ e_;simp only [ca,na] at e_;subst e_
  refine ox 2 ?_;refine X.part 57 rfl (fun h1=> ?_) (fun h1=> ?_)
  · replace h1:=sp h1
    refine xl 4 ?_;refine oo 3 ?_;refine st ?_;refine ox 2 ?_
    have hPS:Yz x pc loc l=(x.a,loc,l.take (l.length - 1)):=by unfold Yz;rw [if_neg (by omega),if_neg (by omega),if_neg (by omega),if_neg (by omega),if_pos hx];rw [if_pos h1]
    refine Yo (pto p (.cells [.slice a (l.take (l.length - 1)).length c,.pointer (some ⟨pm,0,none⟩),x2,.int .i64 (x.a),.slice la (loc).length lc,x5,.slice cda cells.length cc].toArray 122 (0,0))::lsH I64 2 a c (l.take (l.length - 1))::lsH I64 2 la lc (loc)::q) func81 (V4 results81) ⟨_,rfl,a,c,by rw [hPS]⟩
  replace h1:=sp h1
  refine xx 3 ?_
  have hPS:Yz x pc loc l=(pc,loc,l.take (l.length - 1)):=by unfold Yz;rw [if_neg (by omega),if_neg (by omega),if_neg (by omega),if_neg (by omega),if_pos hx];rw [if_neg h1]
 rotate_left
 focus
  refine kx 51 6 ?_;refine X.kt 64 ?_;refine xo 6 ?_;refine V3 call78 (Qx (l:=l) (by omega)) ?_
  rintro _ _ ⟨rfl,rfl⟩ _ e_;simp only [ca,na] at e_;subst e_
  refine ox 2 ?_;refine X.part 70 rfl (fun h1=> ?_) (fun h1=> ?_)
  · replace h1:=sp h1
    refine xl 4 ?_;refine oo 3 ?_;refine st ?_;refine ox 2 ?_
    have hPS:Yz x pc loc l=(x.a,loc,l.take (l.length - 1)):=by unfold Yz;rw [if_neg (by omega),if_neg (by omega),if_neg (by omega),if_neg (by omega),if_neg (by omega),if_pos hx];rw [if_pos h1]
    refine Yo (pto p (.cells [.slice a (l.take (l.length - 1)).length c,.pointer (some ⟨pm,0,none⟩),x2,.int .i64 (x.a),.slice la (loc).length lc,x5,.slice cda cells.length cc].toArray 122 (0,0))::lsH I64 2 a c (l.take (l.length - 1))::lsH I64 2 la lc (loc)::q) func81 (V4 results81) ⟨_,rfl,a,c,by rw [hPS]⟩
  replace h1:=sp h1
  refine xx 3 ?_
  have hPS:Yz x pc loc l=(pc,loc,l.take (l.length - 1)):=by unfold Yz;rw [if_neg (by omega),if_neg (by omega),if_neg (by omega),if_neg (by omega),if_neg (by omega),if_pos hx];rw [if_neg (fun k=>k h1)]
 all_goals
  refine Yo (pto p (.cells [.slice a (l.take (l.length - 1)).length c,.pointer (some ⟨pm,0,none⟩),x2,.int .i64 (pc),.slice la (loc).length lc,x5,.slice cda cells.length cc].toArray 122 (0,0))::lsH I64 2 a c (l.take (l.length - 1))::lsH I64 2 la lc (loc)::q) func81 (V4 results81) ⟨_,rfl,a,c,by rw [hPS]⟩
end
section
variable {G:World}{q pre:List HP}{a b A:Option Addr}{c d C p p0 p1 p2 i:Nat}{lo hi n cd dep:Int}{fv:Value}{x y:Ins}{t:Cod}{m:Mdl}{at_:Int}
variable {l cells loc:List Int}{idx arr z k u pc code:Int}{x1 x2 x3 x4 x5 x6 old:Value}{pm cc lc n1 n2:Nat}{la cda:Option Addr}
def mkL:List Value:= [.nilFunc,.nilFunc,.nilFunc,.nilFunc,.nilFunc,.nilFunc,.nilFunc,.nilFunc,.func (.func 112) #[] #[],.func (.func 114) #[] #[],.func (.func 117) #[] #[],.func (.func 118) #[] #[],.func (.func 119) #[] #[],.func (.func 120) #[] #[],.func (.func 121) #[] #[],.func (.func 122) #[] #[],.func (.func 123) #[] #[],.func (.func 124) #[] #[],.func (.func 126) #[] #[],.nilFunc,.nilFunc,.nilFunc,.func (.func 116) #[] #[],.nilFunc,.nilFunc,.nilFunc,.nilFunc,.nilFunc,.nilFunc,.nilFunc,.nilFunc,.nilFunc,.nilFunc,.nilFunc,.nilFunc]
theorem Vu {c:Int}(h:1≤c∧c≤34):(Dc c∧ ∃ n,nth mkL c.toNat=some (.func (.func n) #[] #[])∧ ∀ (q:List HP) (u z:Int),val u→val z→CallV prog G (.func (.func n) #[] #[]) [.int .i64 u,.int .i64 z] q (RP (fun v q'=>(mkS c u z).2=0∧v= .int .i64 (mkS c u z).1∧q'=q) (fun ch q'=>(mkS c u z).2≠0∧ch= [U5 (mkS c u z).2]∧q'=q)))∨(¬Dc c∧nth mkL c.toNat=some .nilFunc):=by
 have hc:c=1∨c=2∨c=3∨c=4∨c=5∨c=6∨c=7∨c=8∨c=9∨c=10∨c=11∨c=12∨c=13∨c=14∨c=15∨c=16∨c=17∨c=18∨c=19∨c=20∨c=21∨c=22∨c=23∨c=24∨c=25∨c=26∨c=27∨c=28∨c=29∨c=30∨c=31∨c=32∨c=33∨c=34:=by omega
 rcases hc with rfl|rfl|rfl|rfl|rfl|rfl|rfl|rfl|rfl|rfl|rfl|rfl|rfl|rfl|rfl|rfl|rfl|rfl|rfl|rfl|rfl|rfl|rfl|rfl|rfl|rfl|rfl|rfl|rfl|rfl|rfl|rfl|rfl|rfl
 rotate_left
 rotate_left
 rotate_left
 rotate_left
 rotate_left
 rotate_left
 rotate_left
 · exact .inl ⟨by decide,112,rfl,fun q u z hu hz=>Z7 call112 (maker8 hu hz)⟩
 · exact .inl ⟨by decide,114,rfl,fun q u z hu hz=>Z7 call114 (maker9 hu hz)⟩
 · exact .inl ⟨by decide,117,rfl,fun q u z hu hz=>Z7 call117 (maker10 hu hz)⟩
 · exact .inl ⟨by decide,118,rfl,fun q u z hu hz=>Z7 call118 (maker11 hu hz)⟩
 · exact .inl ⟨by decide,119,rfl,fun q u z hu hz=>Z7 call119 (maker12 hu hz)⟩
 · exact .inl ⟨by decide,120,rfl,fun q u z hu hz=>Z7 call120 (maker13 hu hz)⟩
 · exact .inl ⟨by decide,121,rfl,fun q u z hu hz=>Z7 call121 (maker14 hu hz)⟩
 · exact .inl ⟨by decide,122,rfl,fun q u z hu hz=>Z7 call122 (maker15 hu hz)⟩
 · exact .inl ⟨by decide,123,rfl,fun q u z hu hz=>Z7 call123 (maker16 hu hz)⟩
 · exact .inl ⟨by decide,124,rfl,fun q u z hu hz=>Z7 call124 (maker17 hu hz)⟩
 · exact .inl ⟨by decide,126,rfl,fun q u z hu hz=>Z7 call126 (maker18 hu hz)⟩
 rotate_left
 rotate_left
 rotate_left
 · exact .inl ⟨by decide,116,rfl,fun q u z hu hz=>Z7 call116 (maker22 hu hz)⟩
 rotate_left
 rotate_left
 rotate_left
 rotate_left
 rotate_left
 rotate_left
 rotate_left
 rotate_left
 rotate_left
 rotate_left
 rotate_left
 all_goals
  exact .inr ⟨by decide,rfl⟩
theorem W5:CallF prog G 77 [] (q) (Ret fun v q'=>v= .agg mkL.toArray∧q'=q):=by
 refine CallF.of func77 ntmps77 rfl (fun F cs=> ?_)
 refine xo 2 ?_;refine Zm zeroValue158 fun n1=> ?_
 refine oo 3 ?_;refine Zc (Cj (cells:=mkL.toArray) zeroValue158 underlying158 sizeOf157 rfl (by kernel_rfl)) ?_
 refine stA ?_;refine ox 1 ?_;refine Zq (q) func77 (rA_ results77) ⟨_,rfl,rfl,rfl⟩
theorem Wi:Quiet prog G 76 [.pointer (some ⟨n2,0,none⟩)]:=by
 refine Quiet.of func76 ntmps76 rfl (fun F c₀ cs₀ hr=> ?_)
 refine xo 2 ?_;refine XO.rcv hr ?_;refine Zc (Oz rfl underlying155 rfl zeroValue155) ?_;refine oo 3 ?_;refine Zm zeroValue155 fun n3=> ?_
 refine stA ?_;refine ox 6 ?_;refine X.know 8 (.bool false) rfl rfl ?_;refine xx 2 ?_;exact X.fall ⟨rfl,rfl,.inl rfl,⟨_,V4 results76⟩,leA⟩
theorem Lb {y0 y1 y2 y3 y4 y5 y6 y7 y8 y9:Value}:Catches prog G 76 [.pointer (some ⟨n2,0,none⟩)] (U5 k) [pto n2 (.cells [y0,y1,y2,y3,y4,y5,y6,y7,y8,y9].toArray 51 (0,0))] [pto n2 (.cells (Um (Uf k)).toArray 51 (0,0))]:=by
 refine Catches.of func76 ntmps76 rfl rfl (fun F c₀ cs₀ hr=> ?_)
 refine xo 2 ?_;refine XO.rcv hr ?_;refine Zc (Oq rfl underlying155 rfl) ?_;refine oo 3 ?_;refine Zm zeroValue155 fun n3=> ?_
 refine stA ?_;refine ox 6 ?_;refine X.know 8 (.bool true) rfl rfl ?_;refine xl 3 ?_;refine oo 1 ?_;refine stA ?_;refine ox 1 ?_;exact X.fall ⟨rfl,rfl,.inl rfl,⟨_,V4 results76⟩,leA⟩
end
section
variable {G:World}{q pre:List HP}{a b A:Option Addr}{c d C p p0 p1 p2 i:Nat}{lo hi n cd dep:Int}{fv:Value}{x y:Ins}{t:Cod}{m:Mdl}{at_:Int}
variable {l cells loc:List Int}{idx arr z k u pc code:Int}{x1 x2 x3 x4 x5 x6 old:Value}{pm cc lc n1 n2:Nat}{la cda:Option Addr}
set_option maxHeartbeats 16000000 in
theorem do_ok (hm:CellsAt q pm 0 (Wo m))(hq:MdlQ q m)(hc:Sees q cda (cells.map I64))(hS:StepQ m x loc l cells)(hpc:0≤pc∧pc≤65536):CallF prog G 52 [.pointer (some ⟨p,0,none⟩),.agg (Zx x).toArray] (pto p (.cells [.slice a (l).length c,.pointer (some ⟨pm,0,none⟩),x2,.int .i64 (pc),.slice la (loc).length lc,x5,.slice cda cells.length cc].toArray 122 (0,0))::lsH I64 2 a c (l)::lsH I64 2 la lc (loc)::q) (Ret fun v q'=>((doS m x pc loc l cells).2.kind=7∧v= .agg (Um (doS m x pc loc l cells).2).toArray∧q'=q)∨((doS m x pc loc l cells).2.kind≠7∧v= .agg (Um (doS m x pc loc l cells).2).toArray∧ ∃ a' c',q'=pto p (.cells [.slice a' ((doS m x pc loc l cells).1.2.2).length c',.pointer (some ⟨pm,0,none⟩),x2,.int .i64 ((doS m x pc loc l cells).1.1),.slice la ((doS m x pc loc l cells).1.2.1).length lc,x5,.slice cda cells.length cc].toArray 122 (0,0))::lsH I64 2 a' c' ((doS m x pc loc l cells).1.2.2)::lsH I64 2 la lc ((doS m x pc loc l cells).1.2.1)::q)):=by
 refine CallF.of func52 ntmps52 rfl (fun F cs=> ?_)
 have hdep:=hS.dep;have hlen:=hS.len;have hxc:=hS.ins.1
 refine xo 2 ?_;refine Zl fun n1=> ?_
 refine Zm zeroValue51 fun n2=> ?_
 refine oo 4 ?_;refine XO.dfr ?_
 have hpan: ∀ (p_:PE) (qq:List HP) (k:Int) (y0 y1 y2 y3 y4 y5 y6 y7 y8 y9:Value),lkp p_ 4=some (.pointer (some ⟨n2,0,none⟩))→doS m x pc loc l cells=((pc,loc,l),Uf k)→Le qq (pto n2 (.cells [y0,y1,y2,y3,y4,y5,y6,y7,y8,y9].toArray 51 (0,0))::(q++F))→FQ prog G 52 cs (Ret fun v q'=>((doS m x pc loc l cells).2.kind=7∧v= .agg (Um (doS m x pc loc l cells).2).toArray∧q'=q)∨((doS m x pc loc l cells).2.kind≠7∧v= .agg (Um (doS m x pc loc l cells).2).toArray∧ ∃ a' c',q'=pto p (.cells [.slice a' ((doS m x pc loc l cells).1.2.2).length c',.pointer (some ⟨pm,0,none⟩),x2,.int .i64 ((doS m x pc loc l cells).1.1),.slice la ((doS m x pc loc l cells).1.2.1).length lc,x5,.slice cda cells.length cc].toArray 122 (0,0))::lsH I64 2 a' c' ((doS m x pc loc l cells).1.2.2)::lsH I64 2 la lc ((doS m x pc loc l cells).1.2.1)::q)) F (.panic [U5 k]) p_ [Wx.dfr 76 [.pointer (some ⟨n2,0,none⟩)]] cs qq:=
  fun p_ qq k y0 y1 y2 y3 y4 y5 y6 y7 y8 y9 h4 hn hle=>⟨rfl,Lv.catches call76 func52 (Lb (n2:=n2) (k:=k) (y0:=y0) (y1:=y1) (y2:=y2) (y3:=y3) (y4:=y4) (y5:=y5) (y6:=y6) (y7:=y7) (y8:=y8) (y9:=y9)) hle rfl (Lv.ret (q':=q) func52 (resC1 results52 (ResOk.cell h4 (LV.agg isAgg51 sizeOf51 Vd rfl) ResOk.nil)) ⟨_,rfl,.inl ⟨by rw [hn],by rw [hn];rfl,rfl⟩⟩ leA)⟩
 have hcase:x.c=34∨x.c=8∨x.c=9∨x.c=22∨(10≤x.c∧x.c≤18)∨x.c=2∨x.c=5∨x.c=4∨x.c=7∨x.c=23∨x.c=33∨x.c=29∨x.c=24∨x.c=25∨x.c=26∨x.c=27∨x.c=28∨x.c=30∨x.c=31∨x.c=32∨(x.c=1∨x.c=3∨x.c=6∨x.c=19∨x.c=20∨x.c=21):=by omega
 rcases hcase with hx|hx|hx|hx|hx|hx|hx|hx|hx|hx|hx|hx|hx|hx|hx|hx|hx|hx|hx|hx|hx
 · refine ol 5 ?_;refine ox 2 ?_;refine X.kt 11 ?_;refine xo 4 ?_;refine stA ?_;refine ox 1 ?_
   have hD:doS m x pc loc l cells=((pc,loc,l),Jo 4 0):=by unfold doS;rw [if_pos hx]
   exact X.ret ⟨rfl,Vg call76 func52 (Wi (n2:=n2)) (Lv.ret (q':=pto p (.cells [.slice a (l).length c,.pointer (some ⟨pm,0,none⟩),x2,.int .i64 (pc),.slice la (loc).length lc,x5,.slice cda cells.length cc].toArray 122 (0,0))::lsH I64 2 a c (l)::lsH I64 2 la lc (loc)::q) func52 (rA_ results52) ⟨_,rfl,.inr ⟨by rw [hD];exact (by decide:(4:Int)≠7),by rw [hD];rfl,a,c,by rw [hD]⟩⟩ leA)⟩
 · obtain ⟨hmk0,nf,hmk,hcall⟩:=(Vu (G:=G) hxc).resolve_right (fun h=>h.1 (by omega))
   have hun:Rf x.c:=by omega
   have hdx:(1:Int)≤l.length:=by have h:=hdep;rw [hx] at h;exact h
   refine ol 5 ?_;refine ox 2 ?_;refine W0 11 ?_;refine xl 8 ?_;refine oo 4 ?_;refine st ?_;refine ox 3 ?_;refine X.draw [(4,.pointer (some ⟨n2,0,none⟩))] Tryz.mixed (by kernel_rfl) (by kernel_rfl) rfl ?_
   refine dl [1] 2 ?_;refine Z8 0 call77 (W5) ?_;refine Vb 3 rfl (Wz rfl rfl underlying158 sizeOf157 isAgg157 (by omega) (by omega) hmk) ?_
   refine dd [4] ?_;refine XD.nil ?_;refine xo 3 ?_;refine Zc (Kb rfl underlying157) ?_;refine oo 7 ?_;refine V3 call78 (Qx (l:=l) (by omega)) ?_
   rintro _ _ ⟨rfl,rfl⟩ _ e_;simp only [ca,na] at e_;subst e_
   refine ol 7 ?_;refine oo 2 ?_;refine Y4 35 ?_;refine ox 13 ?_;refine X.draw [(4,.pointer (some ⟨n2,0,none⟩))] Tryz.mixed (by kernel_rfl) (by kernel_rfl) rfl ?_
   refine dd [0,1,2,3,4,5] ?_;refine Ah 6 (Le.refl _) (hcall _ 0 (Z9 l) (by unfold val;omega) (Vx hS.vl _)) ?_ ?_ ⟨rfl,trivial⟩
   · rintro _ _ ⟨h0,rfl,rfl⟩
     exact hpan _ _ _ _ _ _ _ _ _ _ _ _ _ rfl (by unfold doS;rw [if_neg (by omega),if_pos hmk0];simp only [if_pos hun];exact if_pos h0) leA
   rintro _ _ ⟨hv,rfl,rfl⟩
   refine ⟨trivial,?_⟩
   refine Qd 7 call79 (Ka (l:=l.take (l.length - 1)) (z:=(mkS x.c 0 (Z9 l)).1) (by rw [List.length_take];omega)) ?_
   rintro _ _ ⟨a2,c2,rfl⟩ _ e_;simp only [ca,na] at e_;subst e_
   refine ⟨trivial,?_⟩
   refine XD.nil ?_;refine xo 3 ?_;refine stA ?_;refine ox 1 ?_
   have hD:doS m x pc loc l cells=(((pc+1),loc,l.take (l.length - 1)++ [(mkS x.c 0 (Z9 l)).1]),Y5):=by unfold doS;rw [if_neg (by omega),if_pos hmk0];simp only [if_pos hun];exact if_neg (fun h=>h hv)
   exact X.ret ⟨rfl,Vg call76 func52 (Wi (n2:=n2)) (Lv.ret (q':=pto p (.cells [.slice a2 (l.take (l.length - 1)++ [(mkS x.c 0 (Z9 l)).1]).length c2,.pointer (some ⟨pm,0,none⟩),x2,.int .i64 ((pc+1)),.slice la (loc).length lc,x5,.slice cda cells.length cc].toArray 122 (0,0))::lsH I64 2 a2 c2 (l.take (l.length - 1)++ [(mkS x.c 0 (Z9 l)).1])::lsH I64 2 la lc (loc)::q) func52 (rA_ results52) ⟨_,rfl,.inr ⟨by rw [hD];exact (by decide:(1:Int)≠7),by rw [hD];rfl,a2,c2,by rw [hD]⟩⟩ leA)⟩
 · obtain ⟨hmk0,nf,hmk,hcall⟩:=(Vu (G:=G) hxc).resolve_right (fun h=>h.1 (by omega))
   have hun:Rf x.c:=by omega
   have hdx:(1:Int)≤l.length:=by have h:=hdep;rw [hx] at h;exact h
   refine ol 5 ?_;refine ox 2 ?_;refine W0 11 ?_;refine xl 8 ?_;refine oo 4 ?_;refine st ?_;refine ox 3 ?_;refine X.draw [(4,.pointer (some ⟨n2,0,none⟩))] Tryz.mixed (by kernel_rfl) (by kernel_rfl) rfl ?_
   refine dl [1] 2 ?_;refine Z8 0 call77 (W5) ?_;refine Vb 3 rfl (Wz rfl rfl underlying158 sizeOf157 isAgg157 (by omega) (by omega) hmk) ?_
   refine dd [4] ?_;refine XD.nil ?_;refine xo 3 ?_;refine Zc (Kb rfl underlying157) ?_;refine oo 7 ?_;refine V3 call78 (Qx (l:=l) (by omega)) ?_
   rintro _ _ ⟨rfl,rfl⟩ _ e_;simp only [ca,na] at e_;subst e_
   refine ol 7 ?_;refine oo 2 ?_;refine XO.kt 35 ?_;refine ol 1 ?_;refine oo 3 ?_;refine Y4 40 ?_;refine ox 8 ?_;refine X.draw [(4,.pointer (some ⟨n2,0,none⟩))] Tryz.mixed (by kernel_rfl) (by kernel_rfl) rfl ?_
   refine dd [0,1,2,3,4,5] ?_;refine Ah 6 (Le.refl _) (hcall _ 0 (Z9 l) (by unfold val;omega) (Vx hS.vl _)) ?_ ?_ ⟨rfl,trivial⟩
   · rintro _ _ ⟨h0,rfl,rfl⟩
     exact hpan _ _ _ _ _ _ _ _ _ _ _ _ _ rfl (by unfold doS;rw [if_neg (by omega),if_pos hmk0];simp only [if_pos hun];exact if_pos h0) leA
   rintro _ _ ⟨hv,rfl,rfl⟩
   refine ⟨trivial,?_⟩
   refine Qd 7 call79 (Ka (l:=l.take (l.length - 1)) (z:=(mkS x.c 0 (Z9 l)).1) (by rw [List.length_take];omega)) ?_
   rintro _ _ ⟨a2,c2,rfl⟩ _ e_;simp only [ca,na] at e_;subst e_
   refine ⟨trivial,?_⟩
   refine XD.nil ?_;refine xo 3 ?_;refine stA ?_;refine ox 1 ?_
   have hD:doS m x pc loc l cells=(((pc+1),loc,l.take (l.length - 1)++ [(mkS x.c 0 (Z9 l)).1]),Y5):=by unfold doS;rw [if_neg (by omega),if_pos hmk0];simp only [if_pos hun];exact if_neg (fun h=>h hv)
   exact X.ret ⟨rfl,Vg call76 func52 (Wi (n2:=n2)) (Lv.ret (q':=pto p (.cells [.slice a2 (l.take (l.length - 1)++ [(mkS x.c 0 (Z9 l)).1]).length c2,.pointer (some ⟨pm,0,none⟩),x2,.int .i64 ((pc+1)),.slice la (loc).length lc,x5,.slice cda cells.length cc].toArray 122 (0,0))::lsH I64 2 a2 c2 (l.take (l.length - 1)++ [(mkS x.c 0 (Z9 l)).1])::lsH I64 2 la lc (loc)::q) func52 (rA_ results52) ⟨_,rfl,.inr ⟨by rw [hD];exact (by decide:(1:Int)≠7),by rw [hD];rfl,a2,c2,by rw [hD]⟩⟩ leA)⟩
 · obtain ⟨hmk0,nf,hmk,hcall⟩:=(Vu (G:=G) hxc).resolve_right (fun h=>h.1 (by omega))
   have hun:Rf x.c:=by omega
   have hdx:(1:Int)≤l.length:=by have h:=hdep;rw [hx] at h;exact h
   refine ol 5 ?_;refine ox 2 ?_;refine W0 11 ?_;refine xl 8 ?_;refine oo 4 ?_;refine st ?_;refine ox 3 ?_;refine X.draw [(4,.pointer (some ⟨n2,0,none⟩))] Tryz.mixed (by kernel_rfl) (by kernel_rfl) rfl ?_
   refine dl [1] 2 ?_;refine Z8 0 call77 (W5) ?_;refine Vb 3 rfl (Wz rfl rfl underlying158 sizeOf157 isAgg157 (by omega) (by omega) hmk) ?_
   refine dd [4] ?_;refine XD.nil ?_;refine xo 3 ?_;refine Zc (Kb rfl underlying157) ?_;refine oo 7 ?_;refine V3 call78 (Qx (l:=l) (by omega)) ?_
   rintro _ _ ⟨rfl,rfl⟩ _ e_;simp only [ca,na] at e_;subst e_
   refine ol 7 ?_;refine oo 2 ?_;refine XO.kt 35 ?_;refine ol 1 ?_;refine oo 3 ?_;refine XO.kt 40 ?_;refine ol 1 ?_;refine ox 3 ?_;refine kx 44 3 ?_;refine X.draw [(4,.pointer (some ⟨n2,0,none⟩))] Tryz.mixed (by kernel_rfl) (by kernel_rfl) rfl ?_
   refine dd [0,1,2,3,4,5] ?_;refine Ah 6 (Le.refl _) (hcall _ 0 (Z9 l) (by unfold val;omega) (Vx hS.vl _)) ?_ ?_ ⟨rfl,trivial⟩
   · rintro _ _ ⟨h0,rfl,rfl⟩
     exact hpan _ _ _ _ _ _ _ _ _ _ _ _ _ rfl (by unfold doS;rw [if_neg (by omega),if_pos hmk0];simp only [if_pos hun];exact if_pos h0) leA
   rintro _ _ ⟨hv,rfl,rfl⟩
   refine ⟨trivial,?_⟩
   refine Qd 7 call79 (Ka (l:=l.take (l.length - 1)) (z:=(mkS x.c 0 (Z9 l)).1) (by rw [List.length_take];omega)) ?_
   rintro _ _ ⟨a2,c2,rfl⟩ _ e_;simp only [ca,na] at e_;subst e_
   refine ⟨trivial,?_⟩
   refine XD.nil ?_;refine xo 3 ?_;refine stA ?_;refine ox 1 ?_
   have hD:doS m x pc loc l cells=(((pc+1),loc,l.take (l.length - 1)++ [(mkS x.c 0 (Z9 l)).1]),Y5):=by unfold doS;rw [if_neg (by omega),if_pos hmk0];simp only [if_pos hun];exact if_neg (fun h=>h hv)
   exact X.ret ⟨rfl,Vg call76 func52 (Wi (n2:=n2)) (Lv.ret (q':=pto p (.cells [.slice a2 (l.take (l.length - 1)++ [(mkS x.c 0 (Z9 l)).1]).length c2,.pointer (some ⟨pm,0,none⟩),x2,.int .i64 ((pc+1)),.slice la (loc).length lc,x5,.slice cda cells.length cc].toArray 122 (0,0))::lsH I64 2 a2 c2 (l.take (l.length - 1)++ [(mkS x.c 0 (Z9 l)).1])::lsH I64 2 la lc (loc)::q) func52 (rA_ results52) ⟨_,rfl,.inr ⟨by rw [hD];exact (by decide:(1:Int)≠7),by rw [hD];rfl,a2,c2,by rw [hD]⟩⟩ leA)⟩
 · obtain ⟨hmk0,nf,hmk,hcall⟩:=(Vu (G:=G) hxc).resolve_right (fun h=>h.1 (by omega))
   have hun: ¬Rf x.c:=by omega
   have hdx:(2:Int)≤l.length:=by have h:=hdep;unfold Z5 at h;rw [if_neg (by omega),if_neg (by omega),if_pos (by omega)] at h;exact h
   refine ol 5 ?_;refine ox 2 ?_;refine W0 11 ?_;refine xl 8 ?_;refine oo 4 ?_;refine st ?_;refine ox 3 ?_;refine X.draw [(4,.pointer (some ⟨n2,0,none⟩))] Tryz.mixed (by kernel_rfl) (by kernel_rfl) rfl ?_
   refine dl [1] 2 ?_;refine Z8 0 call77 (W5) ?_;refine Vb 3 rfl (Wz rfl rfl underlying158 sizeOf157 isAgg157 (by omega) (by omega) hmk) ?_
   refine dd [4] ?_;refine XD.nil ?_;refine xo 3 ?_;refine Zc (Kb rfl underlying157) ?_;refine oo 7 ?_;refine V3 call78 (Qx (l:=l) (by omega)) ?_
   rintro _ _ ⟨rfl,rfl⟩ _ e_;simp only [ca,na] at e_;subst e_
   refine ol 7 ?_;refine oo 2 ?_;refine XO.kt 35 ?_;refine ol 1 ?_;refine oo 3 ?_;refine XO.kt 40 ?_;refine ol 1 ?_;refine ox 3 ?_;refine X.kt 44 ?_;refine xo 5 ?_;refine V3 call78 (Qx (l:=l.take (l.length - 1)) (by rw [List.length_take];omega)) ?_
   rintro _ _ ⟨rfl,rfl⟩ _ e_;simp only [ca,na] at e_;subst e_
   rw [M0]
   refine XO.know 48 (.int .i64 (Vr l)) rfl (congrArg (Value.int .i64) (Ny (by omega))) ?_
   refine ox 3 ?_;refine X.draw [(4,.pointer (some ⟨n2,0,none⟩))] Tryz.mixed (by kernel_rfl) (by kernel_rfl) rfl ?_
   refine dd [0,1,2,3,4,5] ?_;refine Ah 6 (Le.refl _) (hcall _ (Vr l) (Z9 l) (Vx hS.vl _) (Vx hS.vl _)) ?_ ?_ ⟨rfl,trivial⟩
   · rintro _ _ ⟨h0,rfl,rfl⟩
     exact hpan _ _ _ _ _ _ _ _ _ _ _ _ _ rfl (by unfold doS;rw [if_neg (by omega),if_pos hmk0];simp only [if_neg hun];exact if_pos h0) leA
   rintro _ _ ⟨hv,rfl,rfl⟩
   refine ⟨trivial,?_⟩
   refine Qd 7 call79 (Ka (l:=l.take (l.length - 2)) (z:=(mkS x.c (Vr l) (Z9 l)).1) (by rw [List.length_take];omega)) ?_
   rintro _ _ ⟨a2,c2,rfl⟩ _ e_;simp only [ca,na] at e_;subst e_
   refine ⟨trivial,?_⟩
   refine XD.nil ?_;refine xo 3 ?_;refine stA ?_;refine ox 1 ?_
   have hD:doS m x pc loc l cells=(((pc+1),loc,l.take (l.length - 2)++ [(mkS x.c (Vr l) (Z9 l)).1]),Y5):=by unfold doS;rw [if_neg (by omega),if_pos hmk0];simp only [if_neg hun];exact if_neg (fun h=>h hv)
   exact X.ret ⟨rfl,Vg call76 func52 (Wi (n2:=n2)) (Lv.ret (q':=pto p (.cells [.slice a2 (l.take (l.length - 2)++ [(mkS x.c (Vr l) (Z9 l)).1]).length c2,.pointer (some ⟨pm,0,none⟩),x2,.int .i64 ((pc+1)),.slice la (loc).length lc,x5,.slice cda cells.length cc].toArray 122 (0,0))::lsH I64 2 a2 c2 (l.take (l.length - 2)++ [(mkS x.c (Vr l) (Z9 l)).1])::lsH I64 2 la lc (loc)::q) func52 (rA_ results52) ⟨_,rfl,.inr ⟨by rw [hD];exact (by decide:(1:Int)≠7),by rw [hD];rfl,a2,c2,by rw [hD]⟩⟩ leA)⟩
 · have hmk:=((Vu (G:=G) hxc).resolve_left (fun h=>absurd h.1 (by omega))).2
   have hcls:x.c=2∨x.c=5∨x.c=4∨x.c=7:=by omega
   refine ol 5 ?_;refine ox 2 ?_;refine W0 11 ?_;refine xl 8 ?_;refine oo 4 ?_;refine st ?_;refine ox 3 ?_;refine X.draw [(4,.pointer (some ⟨n2,0,none⟩))] Tryz.mixed (by kernel_rfl) (by kernel_rfl) rfl ?_
   refine dl [1] 2 ?_;refine Z8 0 call77 (W5) ?_;refine Vb 3 rfl (Wz rfl rfl underlying158 sizeOf157 isAgg157 (by omega) (by omega) hmk) ?_
   refine dd [4] ?_;refine XD.nil ?_;refine xo 3 ?_;refine Zc (W4 rfl underlying157) ?_;refine ol 7 ?_;refine ox 8 ?_;refine X.kt 60 ?_;refine xo 6 ?_;refine ldA ?_;refine Ky call80 (Le.pick Zj Zj) (Tw (m:=m) (x:=x) (loc:=loc) (l:=l) (cells:=cells) (hm.le leA) (hq.le leA) (hc.le leA) hS hcls) ?_ ?_
   · rintro _ _ ⟨h0,rfl,rfl⟩
     exact hpan _ _ _ _ _ _ _ _ _ _ _ _ _ rfl (by unfold doS;rw [if_neg (by omega),if_neg (by omega),if_pos hcls,h0]) leA
   rintro _ _ ⟨y,l2,hac,rfl,a2,c2,rfl⟩
   refine oo 1 ?_;refine stA ?_;refine ox 1 ?_
   have hD:doS m x pc loc l cells=(((pc+1),loc,l2),Kw y.1 y.2.1 y.2.2):=by unfold doS;rw [if_neg (by omega),if_neg (by omega),if_pos hcls,hac]
   exact X.ret ⟨rfl,Vg call76 func52 (Wi (n2:=n2)) (Lv.ret (q':=pto p (.cells [.slice a2 (l2).length c2,.pointer (some ⟨pm,0,none⟩),x2,.int .i64 ((pc+1)),.slice la (loc).length lc,x5,.slice cda cells.length cc].toArray 122 (0,0))::lsH I64 2 a2 c2 (l2)::lsH I64 2 la lc (loc)::q) func52 (rA_ results52) ⟨_,rfl,.inr ⟨by rw [hD];exact (by decide:(2:Int)≠7),by rw [hD];rfl,a2,c2,by rw [hD]⟩⟩ leA)⟩
 · have hmk:=((Vu (G:=G) hxc).resolve_left (fun h=>absurd h.1 (by omega))).2
   have hcls:x.c=2∨x.c=5∨x.c=4∨x.c=7:=by omega
   have hdx:(1:Int)≤l.length:=by have h:=hdep;rw [hx] at h;exact h
   refine ol 5 ?_;refine ox 2 ?_;refine W0 11 ?_;refine xl 8 ?_;refine oo 4 ?_;refine st ?_;refine ox 3 ?_;refine X.draw [(4,.pointer (some ⟨n2,0,none⟩))] Tryz.mixed (by kernel_rfl) (by kernel_rfl) rfl ?_
   refine dl [1] 2 ?_;refine Z8 0 call77 (W5) ?_;refine Vb 3 rfl (Wz rfl rfl underlying158 sizeOf157 isAgg157 (by omega) (by omega) hmk) ?_
   refine dd [4] ?_;refine XD.nil ?_;refine xo 3 ?_;refine Zc (W4 rfl underlying157) ?_;refine ol 7 ?_;refine ox 8 ?_;refine kx 60 6 ?_;refine X.kt 60 ?_;refine xo 6 ?_;refine ldA ?_;refine Ky call80 (Le.pick Zj Zj) (Tw (m:=m) (x:=x) (loc:=loc) (l:=l) (cells:=cells) (hm.le leA) (hq.le leA) (hc.le leA) hS hcls) ?_ ?_
   · rintro _ _ ⟨h0,rfl,rfl⟩
     exact hpan _ _ _ _ _ _ _ _ _ _ _ _ _ rfl (by unfold doS;rw [if_neg (by omega),if_neg (by omega),if_pos hcls,h0]) leA
   rintro _ _ ⟨y,l2,hac,rfl,a2,c2,rfl⟩
   refine oo 1 ?_;refine stA ?_;refine ox 1 ?_
   have hD:doS m x pc loc l cells=(((pc+1),loc,l2),Kw y.1 y.2.1 y.2.2):=by unfold doS;rw [if_neg (by omega),if_neg (by omega),if_pos hcls,hac]
   exact X.ret ⟨rfl,Vg call76 func52 (Wi (n2:=n2)) (Lv.ret (q':=pto p (.cells [.slice a2 (l2).length c2,.pointer (some ⟨pm,0,none⟩),x2,.int .i64 ((pc+1)),.slice la (loc).length lc,x5,.slice cda cells.length cc].toArray 122 (0,0))::lsH I64 2 a2 c2 (l2)::lsH I64 2 la lc (loc)::q) func52 (rA_ results52) ⟨_,rfl,.inr ⟨by rw [hD];exact (by decide:(2:Int)≠7),by rw [hD];rfl,a2,c2,by rw [hD]⟩⟩ leA)⟩
 · have hmk:=((Vu (G:=G) hxc).resolve_left (fun h=>absurd h.1 (by omega))).2
   have hcls:x.c=2∨x.c=5∨x.c=4∨x.c=7:=by omega
   have hdx:(1:Int)≤l.length:=by have h:=hdep;rw [hx] at h;exact h
   refine ol 5 ?_;refine ox 2 ?_;refine W0 11 ?_;refine xl 8 ?_;refine oo 4 ?_;refine st ?_;refine ox 3 ?_;refine X.draw [(4,.pointer (some ⟨n2,0,none⟩))] Tryz.mixed (by kernel_rfl) (by kernel_rfl) rfl ?_
   refine dl [1] 2 ?_;refine Z8 0 call77 (W5) ?_;refine Vb 3 rfl (Wz rfl rfl underlying158 sizeOf157 isAgg157 (by omega) (by omega) hmk) ?_
   refine dd [4] ?_;refine XD.nil ?_;refine xo 3 ?_;refine Zc (W4 rfl underlying157) ?_;refine ol 7 ?_;refine ox 8 ?_;refine kx 60 6 ?_;refine kx 60 6 ?_;refine X.kt 60 ?_;refine xo 6 ?_;refine ldA ?_;refine Ky call80 (Le.pick Zj Zj) (Tw (m:=m) (x:=x) (loc:=loc) (l:=l) (cells:=cells) (hm.le leA) (hq.le leA) (hc.le leA) hS hcls) ?_ ?_
   · rintro _ _ ⟨h0,rfl,rfl⟩
     exact hpan _ _ _ _ _ _ _ _ _ _ _ _ _ rfl (by unfold doS;rw [if_neg (by omega),if_neg (by omega),if_pos hcls,h0]) leA
   rintro _ _ ⟨y,l2,hac,rfl,a2,c2,rfl⟩
   refine oo 1 ?_;refine stA ?_;refine ox 1 ?_
   have hD:doS m x pc loc l cells=(((pc+1),loc,l2),Kw y.1 y.2.1 y.2.2):=by unfold doS;rw [if_neg (by omega),if_neg (by omega),if_pos hcls,hac]
   exact X.ret ⟨rfl,Vg call76 func52 (Wi (n2:=n2)) (Lv.ret (q':=pto p (.cells [.slice a2 (l2).length c2,.pointer (some ⟨pm,0,none⟩),x2,.int .i64 ((pc+1)),.slice la (loc).length lc,x5,.slice cda cells.length cc].toArray 122 (0,0))::lsH I64 2 a2 c2 (l2)::lsH I64 2 la lc (loc)::q) func52 (rA_ results52) ⟨_,rfl,.inr ⟨by rw [hD];exact (by decide:(2:Int)≠7),by rw [hD];rfl,a2,c2,by rw [hD]⟩⟩ leA)⟩
 · have hmk:=((Vu (G:=G) hxc).resolve_left (fun h=>absurd h.1 (by omega))).2
   have hcls:x.c=2∨x.c=5∨x.c=4∨x.c=7:=by omega
   have hdx:(2:Int)≤l.length:=by have h:=hdep;rw [hx] at h;exact h
   refine ol 5 ?_;refine ox 2 ?_;refine W0 11 ?_;refine xl 8 ?_;refine oo 4 ?_;refine st ?_;refine ox 3 ?_;refine X.draw [(4,.pointer (some ⟨n2,0,none⟩))] Tryz.mixed (by kernel_rfl) (by kernel_rfl) rfl ?_
   refine dl [1] 2 ?_;refine Z8 0 call77 (W5) ?_;refine Vb 3 rfl (Wz rfl rfl underlying158 sizeOf157 isAgg157 (by omega) (by omega) hmk) ?_
   refine dd [4] ?_;refine XD.nil ?_;refine xo 3 ?_;refine Zc (W4 rfl underlying157) ?_;refine ol 7 ?_;refine ox 8 ?_;refine kx 60 6 ?_;refine kx 60 6 ?_;refine kx 60 5 ?_;refine X.kt 60 ?_;refine xo 4 ?_;refine ldA ?_;refine Ky call80 (Le.pick Zj Zj) (Tw (m:=m) (x:=x) (loc:=loc) (l:=l) (cells:=cells) (hm.le leA) (hq.le leA) (hc.le leA) hS hcls) ?_ ?_
   · rintro _ _ ⟨h0,rfl,rfl⟩
     exact hpan _ _ _ _ _ _ _ _ _ _ _ _ _ rfl (by unfold doS;rw [if_neg (by omega),if_neg (by omega),if_pos hcls,h0]) leA
   rintro _ _ ⟨y,l2,hac,rfl,a2,c2,rfl⟩
   refine oo 1 ?_;refine stA ?_;refine ox 1 ?_
   have hD:doS m x pc loc l cells=(((pc+1),loc,l2),Kw y.1 y.2.1 y.2.2):=by unfold doS;rw [if_neg (by omega),if_neg (by omega),if_pos hcls,hac]
   exact X.ret ⟨rfl,Vg call76 func52 (Wi (n2:=n2)) (Lv.ret (q':=pto p (.cells [.slice a2 (l2).length c2,.pointer (some ⟨pm,0,none⟩),x2,.int .i64 ((pc+1)),.slice la (loc).length lc,x5,.slice cda cells.length cc].toArray 122 (0,0))::lsH I64 2 a2 c2 (l2)::lsH I64 2 la lc (loc)::q) func52 (rA_ results52) ⟨_,rfl,.inr ⟨by rw [hD];exact (by decide:(2:Int)≠7),by rw [hD];rfl,a2,c2,by rw [hD]⟩⟩ leA)⟩
 · have hmk:=((Vu (G:=G) hxc).resolve_left (fun h=>absurd h.1 (by omega))).2
   refine ol 5 ?_;refine ox 2 ?_;refine W0 11 ?_;refine xl 8 ?_;refine oo 4 ?_;refine st ?_;refine ox 3 ?_;refine X.draw [(4,.pointer (some ⟨n2,0,none⟩))] Tryz.mixed (by kernel_rfl) (by kernel_rfl) rfl ?_
   refine dl [1] 2 ?_;refine Z8 0 call77 (W5) ?_;refine Vb 3 rfl (Wz rfl rfl underlying158 sizeOf157 isAgg157 (by omega) (by omega) hmk) ?_
   refine dd [4] ?_;refine XD.nil ?_;refine xo 3 ?_;refine Zc (W4 rfl underlying157) ?_;refine ol 7 ?_;refine ox 8 ?_;refine kx 60 6 ?_;refine kx 60 6 ?_;refine kx 60 5 ?_;refine kx 60 6 ?_;refine X.kt 69 ?_;refine xl 4 ?_;refine oo 1 ?_;refine stA ?_;refine ox 1 ?_
   have hD:doS m x pc loc l cells=(((pc+1),loc,l),Jo 3 x.a):=by unfold doS;rw [if_neg (by omega),if_neg (by omega),if_neg (by omega),if_pos hx]
   exact X.ret ⟨rfl,Vg call76 func52 (Wi (n2:=n2)) (Lv.ret (q':=pto p (.cells [.slice a (l).length c,.pointer (some ⟨pm,0,none⟩),x2,.int .i64 ((pc+1)),.slice la (loc).length lc,x5,.slice cda cells.length cc].toArray 122 (0,0))::lsH I64 2 a c (l)::lsH I64 2 la lc (loc)::q) func52 (rA_ results52) ⟨_,rfl,.inr ⟨by rw [hD];exact (by decide:(3:Int)≠7),by rw [hD];rfl,a,c,by rw [hD]⟩⟩ leA)⟩
 · have hmk:=((Vu (G:=G) hxc).resolve_left (fun h=>absurd h.1 (by omega))).2
   have hdx:(1:Int)≤l.length:=by have h:=hdep;rw [hx] at h;exact h
   refine ol 5 ?_;refine ox 2 ?_;refine W0 11 ?_;refine xl 8 ?_;refine oo 4 ?_;refine st ?_;refine ox 3 ?_;refine X.draw [(4,.pointer (some ⟨n2,0,none⟩))] Tryz.mixed (by kernel_rfl) (by kernel_rfl) rfl ?_
   refine dl [1] 2 ?_;refine Z8 0 call77 (W5) ?_;refine Vb 3 rfl (Wz rfl rfl underlying158 sizeOf157 isAgg157 (by omega) (by omega) hmk) ?_
   refine dd [4] ?_;refine XD.nil ?_;refine xo 3 ?_;refine Zc (W4 rfl underlying157) ?_;refine ol 7 ?_;refine ox 8 ?_;refine kx 60 6 ?_;refine kx 60 6 ?_;refine kx 60 5 ?_;refine kx 60 6 ?_;refine kx 69 6 ?_;refine X.kt 74 ?_;refine xo 6 ?_;refine V3 call78 (Qx (l:=l) (by omega)) ?_
   rintro _ _ ⟨rfl,rfl⟩ _ e_;simp only [ca,na] at e_;subst e_
   refine oo 1 ?_;refine stA ?_;refine ox 1 ?_
   have hD:doS m x pc loc l cells=(((pc+1),loc,l.take (l.length - 1)),Jo 6 (Z9 l)):=by unfold doS;rw [if_neg (by omega),if_neg (by omega),if_neg (by omega),if_neg (by omega),if_pos hx]
   exact X.ret ⟨rfl,Vg call76 func52 (Wi (n2:=n2)) (Lv.ret (q':=pto p (.cells [.slice a (l.take (l.length - 1)).length c,.pointer (some ⟨pm,0,none⟩),x2,.int .i64 ((pc+1)),.slice la (loc).length lc,x5,.slice cda cells.length cc].toArray 122 (0,0))::lsH I64 2 a c (l.take (l.length - 1))::lsH I64 2 la lc (loc)::q) func52 (rA_ results52) ⟨_,rfl,.inr ⟨by rw [hD];exact (by decide:(6:Int)≠7),by rw [hD];rfl,a,c,by rw [hD]⟩⟩ leA)⟩
 · have hmk:=((Vu (G:=G) hxc).resolve_left (fun h=>absurd h.1 (by omega))).2
   have hdx:(1:Int)≤l.length:=by have h:=hdep;rw [hx] at h;exact h
   refine ol 5 ?_;refine ox 2 ?_;refine W0 11 ?_;refine xl 8 ?_;refine oo 4 ?_;refine st ?_;refine ox 3 ?_;refine X.draw [(4,.pointer (some ⟨n2,0,none⟩))] Tryz.mixed (by kernel_rfl) (by kernel_rfl) rfl ?_
   refine dl [1] 2 ?_;refine Z8 0 call77 (W5) ?_;refine Vb 3 rfl (Wz rfl rfl underlying158 sizeOf157 isAgg157 (by omega) (by omega) hmk) ?_
   refine dd [4] ?_;refine XD.nil ?_;refine xo 3 ?_;refine Zc (W4 rfl underlying157) ?_;refine ol 7 ?_;refine ox 8 ?_;refine kx 60 6 ?_;refine kx 60 6 ?_;refine kx 60 5 ?_;refine kx 60 6 ?_;refine kx 69 6 ?_;refine kx 74 6 ?_;refine X.kt 81 ?_;refine xx 2 ?_;refine X.draw [(4,.pointer (some ⟨n2,0,none⟩))] Tryz.mixed (by kernel_rfl) (by kernel_rfl) rfl ?_
   refine Yw 0 ?_;refine dd [1,2,3] ?_;refine Qd 4 call78 (Qx (l:=l) (by omega)) ?_
   rintro _ _ ⟨rfl,rfl⟩ _ e_;simp only [ca,na] at e_;subst e_
   refine ⟨hlA,?_⟩
   refine dd [5] ?_;refine Yr 6 ?_;refine XD.nil ?_
   have hD:doS m x pc loc l cells=(((pc+1),loc,l.take (l.length - 1)),V2 x (Z9 l)):=by unfold doS;rw [if_neg (by omega),if_neg (by omega),if_neg (by omega),if_neg (by omega),if_neg (by omega),if_pos hx]
   exact X.ret ⟨rfl,Vg call76 func52 (Wi (n2:=n2)) (Lv.ret (q':=pto p (.cells [.slice a (l.take (l.length - 1)).length c,.pointer (some ⟨pm,0,none⟩),x2,.int .i64 ((pc+1)),.slice la (loc).length lc,x5,.slice cda cells.length cc].toArray 122 (0,0))::lsH I64 2 a c (l.take (l.length - 1))::lsH I64 2 la lc (loc)::q) func52 (rA_ results52) ⟨_,rfl,.inr ⟨by rw [hD];exact (by decide:(5:Int)≠7),by rw [hD];rfl,a,c,by rw [hD]⟩⟩ leA)⟩
 iterate 8
  focus
   have hmk:=((Vu (G:=G) hxc).resolve_left (fun h=>absurd h.1 (by omega))).2
   refine ol 5 ?_;refine ox 2 ?_;refine W0 11 ?_;refine xl 8 ?_;refine oo 4 ?_;refine st ?_;refine ox 3 ?_;refine X.draw [(4,.pointer (some ⟨n2,0,none⟩))] Tryz.mixed (by kernel_rfl) (by kernel_rfl) rfl ?_
   refine dl [1] 2 ?_;refine Z8 0 call77 (W5) ?_;refine Vb 3 rfl (Wz rfl rfl underlying158 sizeOf157 isAgg157 (by omega) (by omega) hmk) ?_
   refine dd [4] ?_;refine XD.nil ?_;refine xo 3 ?_;refine Zc (W4 rfl underlying157) ?_;refine ol 7 ?_;refine ox 8 ?_;refine kx 60 6 ?_;refine kx 60 6 ?_;refine kx 60 5 ?_;refine kx 60 6 ?_;refine kx 69 6 ?_;refine kx 74 6 ?_;refine kx 81 7 ?_
  rotate_left
 · have hmk:=((Vu (G:=G) hxc).resolve_left (fun h=>absurd h.1 (by omega))).2
   have hcls:=hx
   refine ol 5 ?_;refine ox 2 ?_;refine W0 11 ?_;refine xl 8 ?_;refine oo 4 ?_;refine st ?_;refine ox 3 ?_;refine X.draw [(4,.pointer (some ⟨n2,0,none⟩))] Tryz.mixed (by kernel_rfl) (by kernel_rfl) rfl ?_
   refine dl [1] 2 ?_;refine Z8 0 call77 (W5) ?_;refine Vb 3 rfl (Wz rfl rfl underlying158 sizeOf157 isAgg157 (by omega) (by omega) hmk) ?_
   refine dd [4] ?_;refine XD.nil ?_;refine xo 3 ?_;refine Zc (W4 rfl underlying157) ?_;refine ol 7 ?_;refine ox 8 ?_;refine kx 60 6 ?_;refine kx 60 6 ?_;refine kx 60 5 ?_;refine kx 60 6 ?_;refine kx 69 6 ?_;refine kx 74 6 ?_;refine kx 81 7 ?_;refine kx 89 6 ?_;refine kx 89 6 ?_;refine kx 89 6 ?_;refine kx 89 6 ?_;refine kx 89 6 ?_;refine kx 89 6 ?_;refine kx 89 5 ?_;refine W0 89 ?_;refine xo 6 ?_;refine ldA ?_;refine Zh call81 (Le.pick Zj (Le.pick Zj Zj)) (plain_ok (m:=m) (x:=x) (loc:=loc) (l:=l) (cells:=cells) hS hcls) ?_
   rintro _ _ ⟨a2,c2,rfl⟩
   refine oo 4 ?_;refine stA ?_;refine ox 1 ?_
   have hD:doS m x pc loc l cells=(((Yz x (pc+1) loc l).1,(Yz x (pc+1) loc l).2.1,(Yz x (pc+1) loc l).2.2),Y5):=by unfold doS;rw [if_neg (by omega),if_neg (by omega),if_neg (by omega),if_neg (by omega),if_neg (by omega),if_neg (by omega),if_neg (by omega)]
   exact X.ret ⟨rfl,Vg call76 func52 (Wi (n2:=n2)) (Lv.ret (q':=pto p (.cells [.slice a2 ((Yz x (pc+1) loc l).2.2).length c2,.pointer (some ⟨pm,0,none⟩),x2,.int .i64 ((Yz x (pc+1) loc l).1),.slice la ((Yz x (pc+1) loc l).2.1).length lc,x5,.slice cda cells.length cc].toArray 122 (0,0))::lsH I64 2 a2 c2 ((Yz x (pc+1) loc l).2.2)::lsH I64 2 la lc ((Yz x (pc+1) loc l).2.1)::q) func52 (rA_ results52) ⟨_,rfl,.inr ⟨by rw [hD];exact (by decide:(1:Int)≠7),by rw [hD];rfl,a2,c2,by rw [hD]⟩⟩ leA)⟩
 focus
  refine X.kt 89 ?_;refine xo 5 ?_
 rotate_left
 focus
  refine kx 89 6 ?_;refine X.kt 89 ?_;refine xo 5 ?_
 rotate_left
 focus
  refine kx 89 6 ?_;refine kx 89 6 ?_;refine X.kt 89 ?_;refine xo 5 ?_
 rotate_left
 focus
  refine kx 89 6 ?_;refine kx 89 6 ?_;refine kx 89 6 ?_;refine X.kt 89 ?_;refine xo 5 ?_
 rotate_left
 focus
  refine kx 89 6 ?_;refine kx 89 6 ?_;refine kx 89 6 ?_;refine kx 89 6 ?_;refine X.kt 89 ?_;refine xo 5 ?_
 rotate_left
 focus
  refine kx 89 6 ?_;refine kx 89 6 ?_;refine kx 89 6 ?_;refine kx 89 6 ?_;refine kx 89 6 ?_;refine X.kt 89 ?_;refine xo 5 ?_
 rotate_left
 focus
  refine kx 89 6 ?_;refine kx 89 6 ?_;refine kx 89 6 ?_;refine kx 89 6 ?_;refine kx 89 6 ?_;refine kx 89 6 ?_;refine X.kt 89 ?_;refine xo 5 ?_
 rotate_left
 focus
  refine kx 89 6 ?_;refine kx 89 6 ?_;refine kx 89 6 ?_;refine kx 89 6 ?_;refine kx 89 6 ?_;refine kx 89 6 ?_;refine kx 89 5 ?_;refine X.kt 89 ?_;refine xo 3 ?_
 all_goals
  refine ldA ?_;refine oo 1 ?_;refine stA ?_;refine ox 1 ?_
  have hD:doS m x pc loc l cells=(((pc+1),loc,l),V2 x 0):=by unfold doS;rw [if_neg (by omega),if_neg (by omega),if_neg (by omega),if_neg (by omega),if_neg (by omega),if_neg (by omega),if_pos (by omega)]
  exact X.ret ⟨rfl,Vg call76 func52 (Wi (n2:=n2)) (Lv.ret (q':=pto p (.cells [.slice a (l).length c,.pointer (some ⟨pm,0,none⟩),x2,.int .i64 ((pc+1)),.slice la (loc).length lc,x5,.slice cda cells.length cc].toArray 122 (0,0))::lsH I64 2 a c (l)::lsH I64 2 la lc (loc)::q) func52 (rA_ results52) ⟨_,rfl,.inr ⟨by rw [hD];exact (by decide:(5:Int)≠7),by rw [hD];rfl,a,c,by rw [hD]⟩⟩ leA)⟩
end
def zCod:Cod:=⟨⟨#[]⟩,0, [], [],none,0,none,0⟩
abbrev Up (m:Mdl)(i:Int):Cod:=m.threads.getD i.toNat zCod
abbrev Wj (m:Mdl)(f:Frm):Ins:=(Up m f.code).ins.getD f.pc.toNat Gk
theorem Zzg {m:Mdl}{t:Cod}(h:(dOf m t).2=0): ∀ x∈t.ins,Kz m t x:=by
 unfold dOf at h
 split at h
 · exact absurd h (by decide)
 split at h
 · exact absurd h (by decide)
 rename_i h1;exact Decidable.not_not.1 h1
theorem E9 {m:Mdl}{f:Frm}{cells:List Int}(h:Ji m f 0)(hc:(cells.length:Int)=Kt m):StepQ m (Wj m f) f.loc f.stk cells∧f.loc.length≤32∧f.stk.length≤27:=by
 obtain ⟨h1,h2,hth,h3,h4,h5,h6,h7,h8,h9⟩:=h
 obtain ⟨hin,hL,hd0,_⟩:=vOk h1 hth
 obtain ⟨_,_,_,hG⟩:=Rn hin hd0
 have hsl:=Zzg hd0
 have hpc:f.pc.toNat<m.threads[f.code.toNat].ins.length:=by omega
 have e1:Up m f.code=m.threads[f.code.toNat]:=Wv hth
 have e2:Wj m f=m.threads[f.code.toNat].ins[f.pc.toNat]:=by unfold Wj;rw [e1];exact Wv hpc
 have hix:=hin _ (List.getElem_mem hpc)
 have hsx:=hsl _ (List.getElem_mem hpc)
 obtain ⟨g1,g2,_,_⟩:=hG _ hpc h8
 have hnn:=Tq m.threads[f.code.toNat].ins[f.pc.toNat].c
 have hle:=Aj m.threads[f.code.toNat].ins[f.pc.toNat].c
 have hlo:=((Ut h1).2.2.2.2.2.2 _ (List.getElem_mem hth)).2.1
 unfold Yn at hlo
 rw [e2]
 generalize m.threads[f.code.toNat].ins[f.pc.toNat]=x at*
 have ha:nmA x.c=true→0≤x.a:=fun hn=>by have:=hix.2.1;rw [if_pos hn] at this;exact this.1
 have hn: ∀ k,x.c=k→(2≤k∧k≤7)→0≤x.a:=fun k hk hr=>ha (by unfold nmA;simp only [decide_eq_true_eq];omega)
 refine ⟨⟨Ut h1,hix,by omega,fun hk=> ?_,fun hk=> ?_,fun hk=> ?_,h7,by omega,hc⟩,by omega,by omega⟩
 · exact ⟨hn x.c rfl (by omega),hsx.1 _ (by unfold Vw;rw [if_pos (by omega)])⟩
 · exact ⟨hn x.c rfl (by omega),hsx.1 _ (by unfold Vw;rw [if_neg (by omega),if_neg (by omega),if_pos (by omega)])⟩
 exact ⟨hn x.c rfl (by omega),by rw [h5];exact hsx.1 _ (by unfold Vw;rw [if_neg (by omega),if_pos (by omega)])⟩
theorem Ly {m:Mdl}{x:Ins}{pc:Int}{loc l cells:List Int}(h:(doS m x pc loc l cells).2.kind=7):(doS m x pc loc l cells).1=(pc,loc,l):=by
 unfold doS at h⊢
 split at h
 · rename_i k;rw [if_pos k]
 rename_i k1;rw [if_neg k1]
 split at h
 · rename_i k2;rw [if_pos k2];dsimp only at h⊢
   generalize (if Rf x.c then (0:Int) else Vr l)=a at h⊢
   generalize (if Rf x.c then 1 else 2)=k at h⊢
   split at h
   · rename_i k3;rw [if_pos k3]
   exact absurd h (by show ¬ (1:Int)=7;decide)
 rename_i k2;rw [if_neg k2]
 split at h
 · rename_i k3;rw [if_pos k3]
   split at h
   · rfl
   exact absurd h (by show ¬ (2:Int)=7;decide)
 (repeat' split at h)<;>exact absurd h (by first|(show ¬ (3:Int)=7;decide)|(show ¬ (6:Int)=7;decide)|(show ¬ (5:Int)=7;decide)|(show ¬ (1:Int)=7;decide))
abbrev H0 (m:Mdl)(f:Frm)(cells:List Int):(Int×List Int×List Int)×Did:=doS m (Wj m f) f.pc f.loc f.stk cells
theorem Ng {bb:Bool}{p:Prop}(h:bb=true↔p)(k:bb=false): ¬p:=fun hp=>by rw [h.2 hp] at k;cases k
section
variable {G:World}{q pre:List HP}{a b A:Option Addr}{c d C p p0 p1 p2 i:Nat}{lo hi n cd dep:Int}{fv:Value}{x y:Ins}{t:Cod}{m:Mdl}{at_:Int}
variable {l cells loc:List Int}{idx arr z k u pc code:Int}{x1 x2 x3 x4 x5 x6 old:Value}{pm cc lc n1 n2:Nat}{la cda:Option Addr}
variable {f:Frm}{th:Int}
set_option maxHeartbeats 8000000 in
theorem VDo_ok (gc:GC q)(g:GE q)(hq:MdlQ q m)(hf:FrmQ q f)(hc:Sees q cda (cells.map I64))(hcl:cells.length≤9223372036854775807):CallF prog G 25 [.agg (Wo m).toArray,.agg (Nb f).toArray,.slice cda cells.length cc] (q) (Ret fun v q'=>((Ji m f 0∧(cells.length:Int)=Kt m∧Uj cells)∧ ∃ la lc sa sc,v= .tuple [.agg (Nb ⟨f.code,(H0 m f cells).1.1,(H0 m f cells).1.2.1,(H0 m f cells).1.2.2,la,lc,sa,sc⟩).toArray,.agg (Um (H0 m f cells).2).toArray,.int .i64 0].toArray∧q'=lsH I64 2 sa sc ((H0 m f cells).1.2.2)::lsH I64 2 la lc ((H0 m f cells).1.2.1)::q)∨(¬ (Ji m f 0∧(cells.length:Int)=Kt m∧Uj cells)∧v= .tuple [.agg (Nb zFrm).toArray,.agg (Um zDid).toArray,.int .i64 2].toArray∧q'=q)):=by
 refine CallF.of func25 ntmps25 rfl (fun F cs=> ?_)
 have hlen:=Zb (f:=Y2) (sz:=4) (fun _=>rfl) m.threads;have hnt:=hq.nt
 refine xo 2 ?_;refine Zl fun n1=> ?_
 refine Zl fun n2=> ?_
 refine Zm zeroValue67 fun n3=> ?_
 refine Zm zeroValue51 fun n4=> ?_
 refine oo 5 ?_;refine ldA ?_;refine ldA ?_;refine Zh call27 (Le.refl _) (Oj (gc.le leA) (g.le leA) (hq.le leA) (hf.le leA)) ?_;rintro _ _ ⟨⟨bb,rfl,hbb⟩,rfl⟩
 refine Zc (Pu.not rfl) ?_;refine oo 1 ?_;refine XO.part 16 rfl (fun h1=> ?_) (fun h1=> ?_)
 · replace h1:=sp h1
   refine oo 16 ?_;refine stA ?_;refine stA ?_;refine ox 2 ?_;refine Zq (q) func25 (Tg results25) ⟨_,rfl,.inr ⟨by first|exact fun k=>Ng hbb (by simpa using h1) k.1|(rintro ⟨_,k2,k3⟩;first|omega|simp_all),rfl,rfl⟩⟩
 replace h1:=sp h1
 refine oo 2 ?_
 have hm:=hbb.1 (by simpa using h1)
 refine Zh call47 Zj (Lu (hq.le leA) hm.1) ?_;rintro _ _ ⟨rfl,rfl⟩
 refine oo 3 ?_;refine XO.part 22 rfl (fun h2=> ?_) (fun h2=> ?_)
 · replace h2:=sp h2
   refine oo 10 ?_;refine stA ?_;refine stA ?_;refine ox 2 ?_;refine Zq (q) func25 (Tg results25) ⟨_,rfl,.inr ⟨by first|exact fun k=>Ng hbb (by simpa using h1) k.1|(rintro ⟨_,k2,k3⟩;first|omega|simp_all),rfl,rfl⟩⟩
 replace h2:=sp h2
 refine oo 1 ?_;refine XO.cR call50 (H7 (hc.le leA) hcl) ?_;refine Zc (Pu.not rfl) ?_;refine ox 2 ?_;refine X.part 26 rfl (fun h3=> ?_) (fun h3=> ?_)
 · replace h3:=sp h3
   refine xo 5 ?_;refine stA ?_;refine stA ?_;refine ox 2 ?_;refine Zq (q) func25 (Tg results25) ⟨_,rfl,.inr ⟨by first|exact fun k=>Ng hbb (by simpa using h1) k.1|(rintro ⟨_,k2,k3⟩;first|omega|simp_all),rfl,rfl⟩⟩
 replace h3:=sp h3
 refine xo 4 ?_;refine ldA ?_
 have hcnt:(cells.length:Int)=Kt m:=by omega
 obtain ⟨hS,hl32,hs27⟩:=E9 hm hcnt;have hm0:=hm;obtain ⟨hm1,hm2,hth,hm3,hm4,hm5⟩:=hm0
 have hvc:Uj cells:=by simpa using h3
 have hpc:f.pc.toNat<m.threads[f.code.toNat].ins.length:=by omega
 have hql:=hq.x _ (List.getElem_mem hth);have hni:=hql.ni;have hsi:=hql.i;have hlen2:=Zb (f:=Zx) (sz:=4) (fun _=>rfl) m.threads[f.code.toNat].ins
 have hxe:Wj m f=m.threads[f.code.toNat].ins[f.pc.toNat]:=by unfold Wj;rw [show Up m f.code=m.threads[f.code.toNat] from Wv hth];exact Wv hpc
 have hp65:=(vOk hm1 hth).2.1
 refine Zh call51 (Le.refl _) (Bp (hf.le leA) (by omega) (by omega)) ?_
 rintro _ _ ⟨la,lc,sa,sc,rfl,rfl⟩
 refine Zm zeroValue67 fun n5=> ?_
 refine stA ?_;refine ol 4 ?_;refine oo 1 ?_;refine ldA ?_;refine oo 2 ?_;refine Zl fun n6=> ?_
 refine ox 3 ?_;refine drw ?_;refine dl [0,1] 2 ?_;refine dl [3] 4 ?_;refine Wp hq.t (by rw [hlen];omega) (fun b1 o1 e1=> ?_)
 have hs1:=hq.t;rw [e1] at hs1
 refine XD.know 40 (.slice (some ⟨b1,o1,none⟩) m.threads.length m.tc) rfl (by rw [e1]) ?_
 refine dd [5,6] ?_;refine ldD 7 ?_ (hc:=(Wk (j:=f.code) hs1 leA (fun _=>rfl) hth (by omega) 2 _ rfl))
 refine dl [8] 9 ?_;refine Wp hsi (by rw [hlen2];omega) (fun b2 o2 e2=> ?_)
 have hs2:=hsi;rw [e2] at hs2
 refine XD.know 45 (.slice (some ⟨b2,o2,none⟩) m.threads[f.code.toNat].ins.length m.threads[f.code.toNat].ic) rfl (by rw [e2]) ?_
 refine dd [10] ?_;refine V9 11 (m:=f.pc.toNat) isAgg48 sizeOf48 hs2 hpc ?_
 refine XD.know 49 (.agg (Zx (Wj m f)).toArray) rfl (by rw [hxe]) ?_
 refine Yb (fl:= [⟨13,11,fun g=> .pointer (some ⟨g,0,none⟩),fun g=>pto g (.cells (Um zDid).toArray 51 (0,0))⟩]) ?_
 refine Jr 12 ⟨⟨_,rfl,rfl,rfl,rfl,rfl,rfl,fun q=>Ef.alloc zeroValue51⟩,trivial⟩ call52 (Le.pick Zj (Le.pick Zj Zj)) (do_ok (m:=m) (x:=Wj m f) (l:=f.stk) (loc:=f.loc) (cells:=cells) (pc:=f.pc) (CellsAt.of Vd) (hq.le leA) (hc.le leA) hS ⟨by omega,by omega⟩) ?_ (hL:=hlR)
 rintro _ _ (⟨hk,rfl,rfl⟩|⟨hk,rfl,a2,c2,rfl⟩)<;>refine ⟨hlR,?_⟩
 iterate 2
  focus
   refine Wn (e0:=⟨13,11,fun g=> .pointer (some ⟨g,0,none⟩),fun g=>pto g (.cells (Um zDid).toArray 51 (0,0))⟩) (hnd:=by simp) 13 ⟨⟨_,rfl,rfl,rfl,rfl,rfl,rfl,fun q=>Ef.alloc zeroValue51⟩,trivial⟩ (fun nd=> ?_) (hL:=hlR)
   change XF _ _ _ _ _ _ _ [] _ _ _ ((11,.pointer (some ⟨nd,0,none⟩))::_) _ _ (pto nd (.cells (Um zDid).toArray 51 (0,0))::_)
   refine XF.back ?_ (hL:=hlR)
   refine Yr 14 ?_;refine XD.nil ?_;refine xl 4 ?_;refine ox 2 ?_
  rotate_left
 · refine X.know 53 (.bool true) rfl (congrArg Value.bool (by first|(rw [beq_iff_eq];exact hk)|(rw [beq_eq_false_iff_ne];exact hk))) ?_
   refine xx 2 ?_;refine drw ?_;refine Yw 0 ?_;refine Yw 2 ?_;refine Yj 1 call51 (Le.refl _) (Bp (hf.le leA) (by omega) (by omega)) ?_
   rintro _ _ ⟨la2,lc2,sa2,sc2,rfl,rfl⟩
   refine ⟨hlR,?_⟩
   refine Yr 3 ?_ (hh:=hlR)
   refine Yr 4 ?_;refine dd [5] ?_;refine XD.nil ?_;refine Zq (lsH I64 2 sa2 sc2 (f.stk)::lsH I64 2 la2 lc2 (f.loc)::q) func25 (Tg results25) ⟨_,rfl,.inl ⟨⟨hm,hcnt,hvc⟩,la2,lc2,sa2,sc2,by rw [show (H0 m f cells).1=(f.pc,f.loc,f.stk) from Ly hk];rfl,by rw [show (H0 m f cells).1=(f.pc,f.loc,f.stk) from Ly hk]⟩⟩
 refine X.know 53 (.bool false) rfl (congrArg Value.bool (by first|(rw [beq_iff_eq];exact hk)|(rw [beq_eq_false_iff_ne];exact hk))) ?_
 refine xl 9 ?_;refine oo 3 ?_;refine st ?_;refine ox 2 ?_;refine drw ?_;refine dd [0,1,2] ?_;refine Yw 3 ?_;refine Yw 4 ?_;refine Yr 5 ?_ (hh:=hlR)
 refine Yr 6 ?_;refine dd [7] ?_;refine XD.nil ?_;refine Zq (lsH I64 2 a2 c2 ((H0 m f cells).1.2.2)::lsH I64 2 la lc ((H0 m f cells).1.2.1)::q) func25 (Tg results25) ⟨_,rfl,.inl ⟨⟨hm,hcnt,hvc⟩,la,lc,a2,c2,rfl,rfl⟩⟩
end
end Go.Proofs.YtgonllbkcgaliaaGreatDoor
