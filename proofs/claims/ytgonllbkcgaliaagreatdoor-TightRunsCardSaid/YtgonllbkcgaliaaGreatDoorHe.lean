/- Contracts of functions, proved by walking their code. -/
import Derived.Test.YtgonllbkcgaliaaGreatDoorHd
import Derived.KernelRfl
import Derived.Test.YtgonllbkcgaliaaGreatDoorRows
import Derived.OpenShut
import Derived.LaidMore
import Derived.ProofKit
set_option maxRecDepth 100000
set_option linter.unusedVariables false
set_option linter.unusedSimpArgs false
namespace Go.Proofs.YtgonllbkcgaliaaGreatDoor
open Go Go.RowKit Wx Go.Proofs.Tryz
attribute [local irreducible] Wx.lsH Wx.rsH Wx.stars
def par (k:Nat):Nat:=(k - 1) / 2
def hAt (l:List Int)(i:Nat):Int:=l.getD i 0
def sw (l:List Int)(i j:Nat):List Int:=(l.set i (hAt l j)).set j (hAt l i)
theorem R5 (l:List Int)(i j:Nat):(sw l i j).length=l.length:=by simp [sw]
theorem Jp {l:List Int}{i:Nat}(h:i<l.length):hAt l i=l[i]:=by simp [hAt,List.getD,h]
theorem Bf {l:List Int}{i j k:Nat}(hi:i<l.length)(hj:j<l.length):hAt (sw l i j) k=if k=j then hAt l i else if k=i then hAt l j else hAt l k:=by
 unfold sw hAt
 simp only [List.getD_eq_getElem?_getD,List.getElem?_set,List.length_set]
 by_cases h1:k=j
 · subst h1;simp [hj]
 have h1': ¬j=k:=fun e=>h1 e.symm
 by_cases h2:k=i
 · subst h2;simp [h1,h1',hi]
 have h2': ¬i=k:=fun e=>h2 e.symm
 simp [h1,h1',h2,h2']
theorem Dt {l:List Int}{i j:Nat}(hi:i<l.length)(hj:j<l.length):(sw l i j).Perm l:=by
 have h:=Array.swap_perm (xs:=l.toArray) (i:=i) (j:=j) (by simpa using hi) (by simpa using hj)
 have h2:=h.toList
 rw [Array.toList_swap] at h2
 unfold sw
 rw [Jp hi,Jp hj]
 simpa using h2
def HeapP (l:List Int)(n:Nat):Prop:= ∀ k,0<k→k<n→hAt l (par k)≤hAt l k
theorem HeapP.least {l:List Int}{n:Nat}(h:HeapP l n): ∀ k,k<n→hAt l 0≤hAt l k:=by
 intro k
 induction k using Nat.strongRecOn with
 |_ k ih=>
  intro hk
  rcases Nat.eq_zero_or_pos k with rfl|hp
  · exact Int.le_refl _
  have h1:par k<k:=by unfold par;omega
  exact Int.le_trans (ih _ h1 (by omega)) (h k hp hk)
def HeapUp (l:List Int)(n j:Nat):Prop:=(∀ k,0<k→k<n→k≠j→hAt l (par k)≤hAt l k)∧ ∀ k,0<k→k<n→par k=j→0<j→hAt l (par j)≤hAt l k
theorem Sm {l:List Int}{n:Nat}(h:HeapP l n):HeapUp l (n+1) n:=
 ⟨fun k h1 h2 h3=>h k h1 (by omega),fun k h1 h2 h3 h4=>by unfold par at h3;omega⟩
theorem HeapUp.done {l:List Int}{n j:Nat}(h:HeapUp l n j)(hj:j=0∨hAt l (par j)≤hAt l j):HeapP l n:=fun k h1 h2=>by
 by_cases e:k=j
 · subst e;rcases hj with h3|h3
   · omega
   exact h3
 exact h.1 k h1 h2 e
theorem HeapUp.step {l:List Int}{n j:Nat}(h:HeapUp l n j)(hn:n=l.length)(hj:j<n)(h0:0<j)(hlt:hAt l j<hAt l (par j)):HeapUp (sw l (par j) j) n (par j):=by
 have hp:par j<j:=by unfold par;omega
 have e:=fun k=>Bf (l:=l) (i:=par j) (j:=j) (k:=k) (by omega) (by omega)
 refine ⟨fun k h1 h2 h3=> ?_,fun k h1 h2 h3 h4=> ?_⟩
 · rw [e,e]
   by_cases k1:k=j
   · subst k1
     rw [if_neg (by omega),if_pos rfl,if_pos rfl];omega
   by_cases k2:par k=j
   · have:=h.2 k h1 h2 k2 h0
     rw [if_pos k2,if_neg k1,if_neg h3];exact this
   by_cases k3:par k=par j
   · have:=h.1 k h1 h2 k1
     rw [if_neg k2,if_pos k3,if_neg k1,if_neg h3]
     rw [k3] at this;omega
   have:=h.1 k h1 h2 k1
   rw [if_neg k2,if_neg k3,if_neg k1,if_neg h3];exact this
 have hpp:par (par j)<par j:=by unfold par at h4⊢;omega
 have hpj:=h.1 (par j) h4 (by omega) (by omega)
 rw [e,e,if_neg (show par (par j)≠j by omega),if_neg (show par (par j)≠par j by omega)]
 by_cases k1:k=j
 · subst k1;rw [if_pos rfl];exact hpj
 have hk:k≠par j:=by rintro rfl;omega
 rw [if_neg k1,if_neg hk]
 have:=h.1 k h1 h2 k1
 rw [h3] at this;omega
def HeapDn (l:List Int)(n i:Nat):Prop:=(∀ k,0<k→k<n→par k≠i→hAt l (par k)≤hAt l k)∧ ∀ k,0<k→k<n→par k=i→0<i→hAt l (par i)≤hAt l k
theorem HeapDn.done {l:List Int}{n i:Nat}(h:HeapDn l n i)(hi: ∀ k,0<k→k<n→par k=i→hAt l i≤hAt l k):HeapP l n:=fun k h1 h2=>by
 by_cases e:par k=i
 · rw [e];exact hi k h1 h2 e
 exact h.1 k h1 h2 e
theorem HeapDn.step {l:List Int}{n i j:Nat}(h:HeapDn l n i)(hn:n≤l.length)(hj:j<n)(hj0:0<j)(hp:par j=i)(hlt:hAt l j<hAt l i)(hmin: ∀ k,0<k→k<n→par k=i→hAt l j≤hAt l k):HeapDn (sw l i j) n j:=by
 have hij:i<j:=by rw [←hp];unfold par;omega
 have e:=fun k=>Bf (l:=l) (i:=i) (j:=j) (k:=k) (by omega) (by omega)
 refine ⟨fun k h1 h2 h3=> ?_,fun k h1 h2 h3 h4=> ?_⟩
 · rw [e,e,if_neg h3]
   by_cases k1:par k=i
   · rw [if_pos k1]
     by_cases k2:k=j
     · subst k2;rw [if_pos rfl];omega
     have hki:k≠i:=by rintro rfl;unfold par at k1;omega
     rw [if_neg k2,if_neg hki];exact hmin k h1 h2 k1
   rw [if_neg k1]
   by_cases k2:k=j
   · subst k2;exact absurd hp k1
   rw [if_neg k2]
   by_cases k3:k=i
   · subst k3;rw [if_pos rfl];exact h.2 j hj0 hj hp h1
   rw [if_neg k3];exact h.1 k h1 h2 k1
 have hkj:k≠j:=by rintro rfl;unfold par at h3;omega
 have hki:k≠i:=by rintro rfl;unfold par at h3;omega
 rw [e,e,hp,if_neg (show i≠j by omega),if_pos rfl,if_neg hkj,if_neg hki]
 have:=h.1 k h1 h2 (by rw [h3];omega)
 rw [h3] at this;exact this
theorem Sn {l:List Int}{n:Nat}(h:HeapP l (n+1))(hn:n+1≤l.length):HeapDn (sw l 0 n) n 0:=by
 have e:=fun k=>Bf (l:=l) (i:=0) (j:=n) (k:=k) (by omega) (by omega)
 refine ⟨fun k h1 h2 h3=> ?_,fun k h1 h2 h3 h4=>by omega⟩
 rw [e,e,if_neg (show par k≠n by unfold par;omega),if_neg h3,if_neg (show k≠n by omega),if_neg (show k≠0 by omega)]
 exact h k h1 (by omega)
section
variable {G:World}{q pre:List HP}{a b A:Option Addr}{c d C p p0 p1 p2 i:Nat}{lo hi n cd dep:Int}{fv:Value}{x y:Ins}{t:Cod}{m:Mdl}{at_:Int}
variable {l:List Int}{b i j:Nat}{z:Int}
abbrev plP (b:Nat)(a:Option Addr)(c:Nat)(l:List Int):List HP:= [pto b (.cells [.slice a l.length c].toArray 172 (0,0)),lsH I64 3 a c l]
abbrev plB (b:Nat)(l:List Int):HP:=bxH I64 172 3 b l
abbrev plI (b:Nat):Value:= .iface 171 (.pointer (some ⟨b,0,none⟩))
theorem Pi:CallF prog G 89 [.slice a l.length c] (plP b a c l) (Ret fun v q'=>v= .int .i64 (l.length:Int)∧q'=plP b a c l):=by
 refine CallF.of func89 ntmps89 rfl (fun F cs=> ?_)
 refine xx 10 ?_;refine Zq (plP b a c l) func89 (Zu results89 rfl) ⟨_,rfl,rfl,rfl⟩
theorem Zq2 (hi:i<l.length)(hj:j<l.length)(hL:l.length≤1000000):CallF prog G 226 [.slice a l.length c,.int .i64 (i:Int),.int .i64 (j:Int)] (plP b a c l) (Ret fun v q'=>v= .bool (decide (hAt l i<hAt l j))∧q'=plP b a c l):=by
 refine CallF.of func226 ntmps226 rfl (fun F cs=> ?_)
 refine Je (l:=l) (by omega) (fun g e_=> ?_);subst e_
 refine xx 5 ?_;refine drw ?_;refine dd [0,1,2] ?_;refine ldD 3 ?_ (hc:=(Cl.e1 (Sees.lsH _) Zj hi rfl))
 refine dd [4,5,6] ?_;refine ldD 7 ?_ (hc:=(Cl.e1 (Sees.lsH _) Zj hj rfl))
 refine dd [8,9] ?_;refine XD.nil ?_;refine Zq (plP b (some ⟨g,0,none⟩) c l) func226 (Zu results226 rfl) ⟨_,rfl,by rw [Jp hi,Jp hj],rfl⟩
theorem Zq0 (hi:i<l.length)(hj:j<l.length)(hL:l.length≤1000000):CallF prog G 229 [.slice a l.length c,.int .i64 (i:Int),.int .i64 (j:Int)] (plP b a c l) (Ret fun v q'=>q'=plP b a c (sw l i j)):=by
 refine CallF.of func229 ntmps229 rfl (fun F cs=> ?_)
 refine Je (l:=l) (by omega) (fun g e_=> ?_);subst e_
 refine drw ?_;refine dd [0,1,2,3,4,5,6] ?_;refine ldD 7 ?_ (hc:=(Cl.e1 (Sees.lsH _) Zj hj rfl))
 refine dd [8,9,10] ?_;refine ldD 11 ?_ (hc:=(Cl.e1 (Sees.lsH _) Zj hi rfl))
 refine dd [12] ?_;refine XD.ef0 13 rfl (Wq (l:=l) (n:=i) (u:=l[j]) rfl rfl sizeOf3 rfl hi rfl rfl Zj) ?_
 rintro _ _ ⟨rfl,rfl⟩
 refine ⟨trivial,?_⟩
 refine dd [14] ?_;refine XD.ef0 15 rfl (Wq (l:=l.set i l[j]) (n:=j) (u:=l[i]) rfl rfl sizeOf3 rfl (by rw [List.length_set];exact hj) rfl rfl Zj) ?_
 rintro _ _ ⟨rfl,rfl⟩
 refine ⟨trivial,?_⟩
 refine XD.nil ?_
 have e1:(l.set i l[j]).set j l[i]=sw l i j:=by unfold sw;rw [Jp hi,Jp hj]
 rw [e1]
 refine Yo (plP b (some ⟨g,0,none⟩) c (sw l i j)) func229 (V4 results229) ⟨_,rfl,rfl⟩ (by unfold plP;rw [R5];exact leA)
theorem plPop_ok (h0:0<l.length)(hL:l.length≤1000000):CallF prog G 227 [.pointer (some ⟨b,0,none⟩)] (plP b a c l) (Ret fun v q'=> ∃ x,v= .iface 3 (.int .i64 x)∧l[l.length - 1]? =some x∧q'=plP b a c (l.take (l.length - 1))):=by
 refine CallF.of func227 ntmps227 rfl (fun F cs=> ?_)
 refine Je (l:=l) (by omega) (fun g e_=> ?_);subst e_
 refine Xe (l:=l) (fun hcap=> ?_)
 refine xx 5 ?_;refine drw ?_;refine dl [0,1] 2 ?_;refine dl [3,4] 5 ?_;refine dd [6,7,8] ?_;refine ldD 9 ?_ (hc:=(A9 (Sees.lsH _) Zj h0))
 refine dd [10] ?_;refine XD.nil ?_;refine xx 1 ?_;refine drw ?_;refine dl [0,1,2] 3 ?_;refine dl [4,5] 6 ?_;refine dd [7,8,9,10] ?_;refine XD.know 23 (.slice (some ⟨g,0,none⟩) (l.take (l.length - 1)).length c) rfl (by rw [List.length_take];congr 1;omega) ?_
 refine stD 11 ?_;refine XD.nil ?_;refine xx 6 ?_;refine Zq (plP b (some ⟨g,0,none⟩) c (l.take (l.length - 1))) func227 (Zu results227 rfl) ⟨_,rfl,_,rfl,List.getElem?_eq_getElem (by omega),rfl⟩ (Le.pick Zj ((leA).trans (Nc _ _ _ _ _ _ _)))
theorem Zq1 (hL:l.length≤1000000):CallF prog G 228 [.pointer (some ⟨b,0,none⟩),.iface 3 (.int .i64 z)] (plP b a c l) (Ret fun v q'=> ∃ a' c',q'=plP b a' c' (l++ [z])):=by
 refine CallF.of func228 ntmps228 rfl (fun F cs=> ?_)
 refine drw ?_;refine dl [0,1,2] 3 ?_;refine dd [4] ?_;refine Vb 5 rfl (Fe rfl underlying3 rfl) ?_;refine XD.ef 6 rfl (Yh I64 [z] underlying172 Tryz.info3 rfl rfl rfl rfl rfl rfl (fun _=>rfl)) ?_
 rintro _ _ ⟨g1,rfl,rfl⟩
 refine ⟨hlA,?_⟩
 refine XD.ef 7 rfl (Ye (l:=l) (m:= [z]) underlying172 Tryz.info3 rfl rfl rfl Zj ((Sees.lsH _).le Zj) (fun _=>rfl) (by simp;omega) (by simp;omega)) ?_
 rintro _ _ ⟨a1,c1,rfl,rfl⟩
 refine ⟨trivial,?_⟩
 refine dd [8] ?_;refine stD 9 ?_;refine XD.nil ?_;refine Yo (plP b a1 c1 (l++ [z])) func228 (V4 results228) ⟨_,rfl,a1,c1,rfl⟩
theorem mLen: CallM prog G (plI b) "Len" [] [plB b l] (Ret fun v q' => ∃ l', (fun v l' => v = .int .i64 (l.length : Int) ∧ l' = l) v l' ∧ q' = [plB b l']) :=
 Nl (φ := fun v l' => v = .int .i64 (l.length : Int) ∧ l' = l) fun a c => CallM.of call89 (fun F w s => T0 (m := ⟨"Len", 173, #[], some (89, false)⟩) s clA Tryz.typeInfo171 underlying171 isAgg172 (by kernel_rfl) rfl rfl) (CallF.mono (Pi) (fun e q h => by obtain ⟨v, rfl, h⟩ := h; exact ⟨v, rfl, ⟨l, a, c, ⟨h.1, rfl⟩, h.2⟩⟩))
theorem Xv (hi:i<l.length)(hj:j<l.length)(hL:l.length≤1000000): CallM prog G (plI b) "Less" [.int .i64 (i : Int), .int .i64 (j : Int)] [plB b l] (Ret fun v q' => ∃ l', (fun v l' => v = .bool (decide (hAt l i < hAt l j)) ∧ l' = l) v l' ∧ q' = [plB b l']) :=
 Nl (φ := fun v l' => v = .bool (decide (hAt l i < hAt l j)) ∧ l' = l) fun a c => CallM.of call226 (fun F w s => T0 (m := ⟨"Less", 282, #[], some (226, false)⟩) s clA Tryz.typeInfo171 underlying171 isAgg172 (by kernel_rfl) rfl rfl) (CallF.mono (Zq2 hi hj hL) (fun e q h => by obtain ⟨v, rfl, h⟩ := h; exact ⟨v, rfl, ⟨l, a, c, ⟨h.1, rfl⟩, h.2⟩⟩))
theorem Xk (hi:i<l.length)(hj:j<l.length)(hL:l.length≤1000000): CallM prog G (plI b) "Swap" [.int .i64 (i : Int), .int .i64 (j : Int)] [plB b l] (Ret fun v q' => ∃ l', (fun v l' => l' = sw l i j) v l' ∧ q' = [plB b l']) :=
 Nl (φ := fun v l' => l' = sw l i j) fun a c => CallM.of call229 (fun F w s => T0 (m := ⟨"Swap", 244, #[], some (229, false)⟩) s clA Tryz.typeInfo171 underlying171 isAgg172 (by kernel_rfl) rfl rfl) (CallF.mono (Zq0 hi hj hL) (fun e q h => by obtain ⟨v, rfl, h⟩ := h; exact ⟨v, rfl, ⟨_, a, c, rfl, h⟩⟩))
theorem mPop (h0:0<l.length)(hL:l.length≤1000000): CallM prog G (plI b) "Pop" [] [plB b l] (Ret fun v q' => ∃ l', (fun v l' => ∃ x, v = .iface 3 (.int .i64 x) ∧ l[l.length - 1]? = some x ∧ l' = l.take (l.length - 1)) v l' ∧ q' = [plB b l']) :=
 Nl (φ := fun v l' => ∃ x, v = .iface 3 (.int .i64 x) ∧ l[l.length - 1]? = some x ∧ l' = l.take (l.length - 1)) fun a c => CallM.of call227 (fun F w s => E8 (m := ⟨"Pop", 246, #[], some (227, true)⟩) Tryz.typeInfo171 underlying171 (by kernel_rfl) rfl rfl) (CallF.mono (plPop_ok h0 hL) (fun e q h => by obtain ⟨v, rfl, h⟩ := h; exact ⟨v, rfl, (by obtain ⟨x, h1, h2, h3⟩ := h; exact ⟨_, a, c, ⟨x, h1, h2, rfl⟩, h3⟩)⟩))
theorem mPush (hL:l.length≤1000000): CallM prog G (plI b) "Push" [.iface 3 (.int .i64 z)] [plB b l] (Ret fun v q' => ∃ l', (fun v l' => l' = l ++ [z]) v l' ∧ q' = [plB b l']) :=
 Nl (φ := fun v l' => l' = l ++ [z]) fun a c => CallM.of call228 (fun F w s => E8 (m := ⟨"Push", 250, #[], some (228, true)⟩) Tryz.typeInfo171 underlying171 (by kernel_rfl) rfl rfl) (CallF.mono (Zq1 hL) (fun e q h => by obtain ⟨v, rfl, h⟩ := h; exact ⟨v, rfl, (by obtain ⟨a2, c2, h⟩ := h; exact ⟨_, a2, c2, rfl, h⟩)⟩))
end
theorem Xg {l:List Int}{z:Int}{k:Nat}(h:k<l.length):hAt (l++ [z]) k=hAt l k:=by
 rw [Jp (by simp;omega),Jp h,List.getElem_append_left h]
theorem HeapP.app {l:List Int}{z:Int}(h:HeapP l l.length):HeapUp (l++ [z]) (l++ [z]).length l.length:=by
 rw [List.length_append]
 refine Sm (fun k h1 h2=> ?_)
 rw [Xg h2,Xg (by unfold par;omega)];exact h k h1 h2
theorem HeapDn.least {l:List Int}{n:Nat}(h:HeapP l n)(hn:n≤l.length)(h0:0<n): ∀ x∈l.take n,hAt l 0≤x:=by
 intro x hx
 obtain ⟨k,hk,rfl⟩:=List.getElem_of_mem hx
 have hk':k<n:=by simp at hk;omega
 have:=h.least k hk'
 rw [Jp (i:=k) (by omega)] at this;rw [List.getElem_take];exact this
theorem HeapP.take {l:List Int}{n:Nat}(h:HeapP l n)(hn:n≤l.length):HeapP (l.take n) (l.take n).length:=by
 have e: ∀ k,k<n→hAt (l.take n) k=hAt l k:=fun k hk=>by rw [Jp (by simp;omega),Jp (by omega),List.getElem_take]
 intro k h1 h2
 have h3:k<n:=by simp at h2;omega
 rw [e k h3,e _ (by unfold par;omega)];exact h k h1 h3
theorem par_lt {k:Nat}(h:0<k):par k<k:=by unfold par;omega
theorem par_cast (j:Nat):Int.tdiv ((j:Int) - 1) 2=(par j:Int):=by
 unfold par
 rcases Nat.eq_zero_or_pos j with rfl|h
 · decide
 rw [Int.tdiv_eq_ediv_of_nonneg (by omega)];omega
theorem Zqs {l m:List Int}{x:Int}(h:HeapP l l.length)(h0:0<l.length)(hp:m.Perm (sw l 0 (l.length - 1)))(hk: ∀ k,l.length - 1≤k→hAt m k=hAt (sw l 0 (l.length - 1)) k)(hx:m[m.length - 1]? =some x):
 (x::m.take (m.length - 1)).Perm l∧ ∀ y∈m.take (m.length - 1),x≤y:=by
 have hpl:m.Perm l:=hp.trans (Dt h0 (by omega))
 have hml:=hpl.length_eq
 have hx1:x=hAt l 0:=by
  have h1:=hk (l.length - 1) (Nat.le_refl _)
  rw [Bf h0 (by omega),if_pos rfl] at h1
  rw [←h1,Jp (by omega)]
  rw [List.getElem?_eq_getElem (by omega)] at hx
  have:=Option.some.inj hx
  rw [←this];congr 1;omega
 have hsplit:m=m.take (m.length - 1)++ [x]:=by
  have h1:m.length - 1<m.length:=by omega
  rw [List.getElem?_eq_getElem h1] at hx
  have h2:=List.take_append_getElem h1
  rw [Option.some.inj hx] at h2
  rw [h2,show m.length - 1+1=m.length by omega,List.take_length]
 refine ⟨?_,fun y hy=> ?_⟩
 · refine List.Perm.trans ?_ hpl
   conv=>rhs;rw [hsplit]
   exact (List.perm_append_comm (l₁:=m.take (m.length - 1)) (l₂:= [x])).symm
 have hy2:y∈l:=hpl.mem_iff.1 (List.mem_of_mem_take hy)
 rw [hx1]
 have:=HeapDn.least (n:=l.length) h (Nat.le_refl _) h0 y (by rw [List.take_length];exact hy2)
 exact this
section
variable {G:World}{q pre:List HP}{a b A:Option Addr}{c d C p p0 p1 p2 i:Nat}{lo hi n cd dep:Int}{fv:Value}{x y:Ins}{t:Cod}{m:Mdl}{at_:Int}
variable {l:List Int}{b i j n:Nat}{z:Int}
set_option maxHeartbeats 1000000 in
theorem up_ok (h:HeapUp l l.length j)(hj:j<l.length)(hL:l.length≤1000000):CallF prog G 139 [plI b,.int .i64 (j:Int)] ([plB b l]) (Ret fun v q'=> ∃ l',HeapP l' l'.length∧l'.Perm l∧q'= [plB b l']):=by
 refine CallF.of func139 ntmps139 rfl (fun F cs=> ?_)
 refine xx 1 ?_;refine X.at (X.loop (fun (s:List Int×Nat)=>HeapUp s.1 s.1.length s.2∧s.1.Perm l∧s.2<s.1.length) (fun s=> [(0,plI b),(1,.int .i64 (s.2:Int))]) (fun s=>(plB b s.1::F)) (fun s=>s.2) (fun s hi_ ih=> ?_) (l,j) ⟨h,List.Perm.refl _,hj⟩) Zp leA
 try dsimp only at hi_ ih⊢
 obtain ⟨hu,hp,hs⟩:=hi_
 obtain ⟨m,j⟩:=s;dsimp only at*;have hmL:=hp.length_eq
 refine xo 6 ?_
 have hpl:par j≤j:=by unfold par;omega
 refine XO.know 7 (.int .i64 (par j:Int)) rfl (congrArg (Value.int .i64) (by rw [par_cast j];exact Uz (by omega) (by omega))) ?_
 refine oo 9 ?_;refine XO.part 11 rfl (fun h1=> ?_) (fun h1=> ?_)
 · replace h1:=sp h1
   have hj0:j=0:=by rcases Nat.eq_zero_or_pos j with e|e;exact e;have:=par_lt e;omega
   refine ox 9 ?_;refine Yo ([plB b m]) func139 (V4 results139) ⟨_,rfl,m,hu.done (.inl hj0),hp,rfl⟩
 replace h1:=sp h1
 have hpj:par j<m.length:=by unfold par;omega
 have hj0:0<j:=by rcases Nat.eq_zero_or_pos j with e|e;subst e;exact absurd rfl h1;exact e
 refine oo 3 ?_;refine Mr (Xv (l:=m) (i:=j) (j:=par j) hs hpj (by omega)) ?_
 rintro _ _ ⟨l9,⟨rfl,e9⟩,rfl⟩ _ e_;simp only [ca,na] at e_;subst e_
 obtain rfl:=e9.symm
 refine Zc (Pu.not rfl) ?_;refine ox 2 ?_;refine X.part 17 rfl (fun h2=> ?_) (fun h2=> ?_)
 · replace h2:=sp h2
   refine xx 2 ?_;refine Yo ([plB b m]) func139 (V4 results139) ⟨_,rfl,m,hu.done (.inr (by omega)),hp,rfl⟩
 replace h2:=sp h2
 refine xo 7 ?_;refine Mr (Xk (l:=m) (i:=par j) (j:=j) hpj hs (by omega)) ?_
 rintro _ _ ⟨_,rfl,rfl⟩ _ e_;simp only [ca,na] at e_;subst e_
 refine ox 6 ?_;refine X.at (ih (sw m (par j) j,par j) ⟨by rw [R5];exact hu.step rfl hs hj0 (by omega),(Dt hpj hs).trans hp,by dsimp only;rw [R5];exact hpj⟩ (par_lt hj0)) Zp leA
set_option maxHeartbeats 2000000 in
theorem down_ok (h:HeapDn l n 0)(hn:n≤l.length)(hL:l.length≤1000000):CallF prog G 137 [plI b,.int .i64 0,.int .i64 (n:Int)] ([plB b l]) (Ret fun v q'=> ∃ l',HeapP l' n∧l'.Perm l∧(∀ k,n≤k→hAt l' k=hAt l k)∧q'= [plB b l']):=by
 refine CallF.of func137 ntmps137 rfl (fun F cs=> ?_)
 refine xx 11 ?_;refine X.at (X.loop (fun (s:List Int×Nat)=>HeapDn s.1 n s.2∧s.1.Perm l∧(s.2<n∨s.2=0)∧ ∀ k,n≤k→hAt s.1 k=hAt l k) (fun s=> [(0,plI b),(1,.int .i64 0),(2,.int .i64 (n:Int)),(7,.int .i64 (s.2:Int))]) (fun s=>(plB b s.1::F)) (fun s=>(n - s.2)) (fun s hi_ ih=> ?_) (l,0) ⟨h,List.Perm.refl _,.inr rfl,fun _ _=>rfl⟩) Zp leA
 try dsimp only at hi_ ih⊢
 obtain ⟨hu,hp,hs,hk⟩:=hi_
 obtain ⟨m,i⟩:=s;dsimp only at*;have hmL:=hp.length_eq
 refine xo 15 ?_;refine XO.part 18 rfl (fun g1=> ?_) (fun g1=> ?_)
 · replace g1:=sp g1
   refine ox 13 ?_;refine Zq ([plB b m]) func137 (Zu results137 rfl) ⟨_,rfl,m,hu.done (fun k k1 k2 k3=>absurd k3 (by unfold par;omega)),hp,hk,rfl⟩
 replace g1:=sp g1
 refine ox 4 ?_;refine X.part 21 rfl (fun h1=> ?_) (fun h1=> ?_)
 · replace h1:=sp h1
   refine xx 9 ?_;refine Zq ([plB b m]) func137 (Zu results137 rfl) ⟨_,rfl,m,hu.done (fun k k1 k2 k3=>absurd k3 (by unfold par;omega)),hp,hk,rfl⟩
 replace h1:=sp h1
 refine xo 20 ?_;refine XO.part 28 rfl (fun h2=> ?_) (fun h2=> ?_)
 focus
  replace h2:=sp h2
  refine oo 3 ?_;refine XO.know 30 (.int .i64 ((2*i+2:Nat):Int)) rfl (congrArg (Value.int .i64) (by omega)) ?_
  refine XO.know 31 (.int .i64 ((2*i+1:Nat):Int)) rfl (congrArg (Value.int .i64) (by omega)) ?_
  refine XO.know 10 (.int .i64 ((2*i+2:Nat):Int)) rfl (congrArg (Value.int .i64) (by omega)) ?_
  refine XO.know 9 (.int .i64 ((2*i+1:Nat):Int)) rfl (congrArg (Value.int .i64) (by omega)) ?_
  refine XO.know 8 (.int .i64 ((2*i+1:Nat):Int)) rfl (congrArg (Value.int .i64) (by omega)) ?_
  refine Mr (Xv (l:=m) (i:=2*i+2) (j:=2*i+1) (by omega) (by omega) (by omega)) ?_
  rintro _ _ ⟨l9,⟨rfl,e9⟩,rfl⟩ _ e_;simp only [ca,na] at e_;subst e_
  obtain rfl:=e9.symm
  refine ox 2 ?_;refine X.part 33 rfl (fun h3=> ?_) (fun h3=> ?_)
  · replace h3:=sp h3
    have hM:=(show ∀ k,0<k→k<n→par k=i→hAt m (2*i+2)≤hAt m k from fun k k1 k2 k3=>by have:k=2*i+1∨k=2*i+2:=(by unfold par at k3;omega);rcases this with rfl|rfl<;>omega)
    refine xo 11 ?_;refine Mr (Xv (l:=m) (i:=2*i+2) (j:=i) (by omega) (by omega) (by omega)) ?_
    rintro _ _ ⟨l9,⟨rfl,e9⟩,rfl⟩ _ e_;simp only [ca,na] at e_;subst e_
    obtain rfl:=e9.symm
    refine Zc (Pu.not rfl) ?_;refine ox 1 ?_;refine X.part 39 rfl (fun h4=> ?_) (fun h4=> ?_)
    · replace h4:=sp h4
      refine xx 9 ?_;refine Zq ([plB b m]) func137 (Zu results137 rfl) ⟨_,rfl,m,hu.done (fun k k1 k2 k3=>by have:=hM k k1 k2 k3;omega),hp,hk,rfl⟩
    replace h4:=sp h4
    refine xo 7 ?_;refine Mr (Xk (l:=m) (i:=i) (j:=2*i+2) (by omega) (by omega) (by omega)) ?_
    rintro _ _ ⟨_,rfl,rfl⟩ _ e_;simp only [ca,na] at e_;subst e_
    refine ox 6 ?_;refine X.at (ih (sw m i (2*i+2),2*i+2) ⟨hu.step (by omega) (by omega) (by omega) (by unfold par;omega) (by omega) hM,(Dt (by omega) (by omega)).trans hp,.inl (by dsimp only;omega),fun k k1=>by dsimp only;rw [Bf (by omega) (by omega),if_neg (by omega),if_neg (by omega)];exact hk k k1⟩ (by dsimp only;omega)) Zp leA
  replace h3:=sp h3
  have hM:=(show ∀ k,0<k→k<n→par k=i→hAt m (2*i+1)≤hAt m k from fun k k1 k2 k3=>by have:k=2*i+1∨k=2*i+2:=(by unfold par at k3;omega);rcases this with rfl|rfl<;>omega)
  refine xo 8 ?_
 rotate_left
 focus
  replace h2:=sp h2
  refine oo 14 ?_
  have hM:=(show ∀ k,0<k→k<n→par k=i→hAt m (2*i+1)≤hAt m k from fun k k1 k2 k3=>by have:k=2*i+1:=(by unfold par at k3;omega);subst this;omega)
 all_goals
  refine Mr (Xv (l:=m) (i:=2*i+1) (j:=i) (by omega) (by omega) (by omega)) ?_
  rintro _ _ ⟨l9,⟨rfl,e9⟩,rfl⟩ _ e_;simp only [ca,na] at e_;subst e_
  obtain rfl:=e9.symm
  refine Zc (Pu.not rfl) ?_;refine ox 1 ?_;refine X.part 39 rfl (fun h4=> ?_) (fun h4=> ?_)
  · replace h4:=sp h4
    refine xx 9 ?_;refine Zq ([plB b m]) func137 (Zu results137 rfl) ⟨_,rfl,m,hu.done (fun k k1 k2 k3=>by have:=hM k k1 k2 k3;omega),hp,hk,rfl⟩
  replace h4:=sp h4
  refine xo 7 ?_;refine Mr (Xk (l:=m) (i:=i) (j:=2*i+1) (by omega) (by omega) (by omega)) ?_
  rintro _ _ ⟨_,rfl,rfl⟩ _ e_;simp only [ca,na] at e_;subst e_
  refine ox 6 ?_;refine X.at (ih (sw m i (2*i+1),2*i+1) ⟨hu.step (by omega) (by omega) (by omega) (by unfold par;omega) (by omega) hM,(Dt (by omega) (by omega)).trans hp,.inl (by dsimp only;omega),fun k k1=>by dsimp only;rw [Bf (by omega) (by omega),if_neg (by omega),if_neg (by omega)];exact hk k k1⟩ (by dsimp only;omega)) Zp leA
theorem hPush_ok (h:HeapP l l.length)(hL:l.length<1000000):CallF prog G 93 [plI b,.iface 3 (.int .i64 z)] ([plB b l]) (Ret fun v q'=> ∃ l',HeapP l' l'.length∧l'.Perm (z::l)∧q'= [plB b l']):=by
 refine CallF.of func93 ntmps93 rfl (fun F cs=> ?_)
 refine xo 4 ?_;refine Mr (mPush (l:=l) (z:=z) (by omega)) ?_
 rintro _ _ ⟨_,rfl,rfl⟩ _ e_;simp only [ca,na] at e_;subst e_
 refine oo 4 ?_;refine Mr (mLen (l:=l++ [z])) ?_
 rintro _ _ ⟨l9,⟨rfl,e9⟩,rfl⟩ _ e_;simp only [ca,na] at e_;subst e_
 subst e9
 have hll:(l++ [z]).length=l.length+1:=by simp
 refine oo 1 ?_;refine XO.know 10 (.int .i64 (l.length:Int)) rfl (congrArg (Value.int .i64) (by rw [hll];omega)) ?_
 refine V3 call139 (up_ok (l:=l++ [z]) (j:=l.length) h.app (by omega) (by omega)) ?_
 rintro _ _ ⟨l8,hh,hp,rfl⟩ _ e_;simp only [ca,na] at e_;subst e_
 refine ox 1 ?_;refine Yo ([plB b l8]) func93 (V4 results93) ⟨_,rfl,l8,hh,hp.trans (List.perm_append_comm (l₁:=l) (l₂:= [z])),rfl⟩
theorem hPop_ok (h:HeapP l l.length)(h0:0<l.length)(hL:l.length≤1000000):CallF prog G 90 [plI b] ([plB b l]) (Ret fun v q'=> ∃ x l',v= .iface 3 (.int .i64 x)∧(x::l').Perm l∧(∀ y∈l',x≤y)∧HeapP l' l'.length∧q'= [plB b l']):=by
 refine CallF.of func90 ntmps90 rfl (fun F cs=> ?_)
 refine xo 7 ?_;refine Mr (mLen (l:=l)) ?_
 rintro _ _ ⟨l9,⟨rfl,e9⟩,rfl⟩ _ e_;simp only [ca,na] at e_;subst e_
 subst e9
 refine oo 7 ?_;refine XO.know 8 (.int .i64 ((l9.length - 1:Nat):Int)) rfl (congrArg (Value.int .i64) (by omega)) ?_
 refine XO.know 3 (.int .i64 ((l9.length - 1:Nat):Int)) rfl (congrArg (Value.int .i64) (by omega)) ?_
 refine Mr (Xk (l:=l9) (i:=0) (j:=l9.length - 1) (by omega) (by omega) (by omega)) ?_
 rintro _ _ ⟨_,rfl,rfl⟩ _ e_;simp only [ca,na] at e_;subst e_
 have h0n:HeapDn (sw l9 0 (l9.length - 1)) (l9.length - 1) 0:=Sn (n:=l9.length - 1) (by rw [show l9.length - 1+1=l9.length by omega];exact h) (by omega)
 refine oo 5 ?_;refine V3 call137 (down_ok (l:=sw l9 0 (l9.length - 1)) (n:=l9.length - 1) h0n (by rw [R5];omega) (by rw [R5];omega)) ?_
 rintro _ _ ⟨m,hm,hp,hk,rfl⟩ _ e_;simp only [ca,na] at e_;subst e_
 have hml:=hp.length_eq;rw [R5] at hml
 refine oo 4 ?_;refine Mr (mPop (l:=m) (by omega) (by omega)) ?_
 rintro _ _ ⟨_,⟨x,rfl,hx,rfl⟩,rfl⟩ _ e_;simp only [ca,na] at e_;subst e_
 obtain ⟨k1,k2⟩:=Zqs h h0 hp hk hx
 refine ox 2 ?_;refine Zq ([plB b (m.take (m.length - 1))]) func90 (Zu results90 rfl) ⟨_,rfl,x,_,rfl,k1,k2,HeapP.take (n:=m.length - 1) (by rw [hml];exact hm) (by omega),rfl⟩
end
structure HI (D:List Int) (dn:List Bool) (l:List Int):Prop where
 len:dn.length=D.length
 mem: ∀ x:Int,x∈l↔0≤x∧Mx D dn x.toNat
 nd:l.Nodup
 hp:HeapP l l.length
 rng: ∀ i,dAt D i= -1∨(0≤dAt D i∧dAt D i≤25)
 dnp: ∀ i,dn.getD i false=true→0≤dAt D i
 cnt:l.length+D.count (-1)≤D.length
theorem dAt_ge {D:List Int}{i:Nat}(h:D.length≤i):dAt D i= -1:=by simp [dAt,List.getD_eq_getElem?_getD,List.getElem?_eq_none h]
theorem dAt_lt {D:List Int}{i:Nat}(h:0≤dAt D i):i<D.length:=by
 rcases Nat.lt_or_ge i D.length with e|e
 · exact e
 rw [dAt_ge e] at h;omega
theorem Mf {D:List Int}{i:Nat}(h:i<D.length):dAt D i=D[i]:=by simp [dAt,List.getD_eq_getElem?_getD,h]
theorem In {dn:List Bool}{i j:Nat}{b:Bool}(hi:i<dn.length):(dn.set i b).getD j false=if j=i then b else dn.getD j false:=by
 simp only [List.getD_eq_getElem?_getD,List.getElem?_set]
 by_cases h:j=i
 · subst h;simp [hi]
 have h': ¬i=j:=fun e=>h e.symm
 simp [h,h']
theorem HI.nil {D:List Int}{dn:List Bool}(h:HI D dn []):Kj D dn=none:=
 Fv fun j _ ho=>by
  have:=(h.mem (j:Int)).2 ⟨by omega,by simpa using ho⟩
  simp at this
theorem HI.pop {D:List Int}{dn:List Bool}{l l':List Int}{x:Int}(h:HI D dn l)(hp:(x::l').Perm l)(hy: ∀ y∈l',x≤y)(hh:HeapP l' l'.length):
 0≤x∧x.toNat<D.length∧Kj D dn=some x.toNat∧Mx D dn x.toNat∧HI D (dn.set x.toNat true) l':=by
 have hx:x∈l:=hp.mem_iff.1 (List.mem_cons_self ..)
 obtain ⟨h0,ho⟩:=(h.mem x).1 hx
 have hlt:=dAt_lt ho.1
 have hnd:=(hp.nodup_iff).2 h.nd
 obtain ⟨hn1,hn2⟩:=List.nodup_cons.1 hnd
 refine ⟨h0,hlt,Zzz hlt ho (fun j hj hjo=> ?_),ho,?_⟩
 · have hjl:(j:Int)∈l:=(h.mem j).2 ⟨by omega,by simpa using hjo⟩
   rcases List.mem_cons.1 (hp.mem_iff.2 hjl) with e|e
   · omega
   have:=hy _ e;omega
 have e:=fun j=>In (dn:=dn) (i:=x.toNat) (j:=j) (b:=true) (by rw [h.len];exact hlt)
 refine ⟨by rw [List.length_set];exact h.len,fun y=> ?_,hn2,hh,h.rng,fun i hi=> ?_,?_⟩
 · constructor
   · intro hm
     obtain ⟨k1,k2,k3⟩:=(h.mem y).1 (hp.mem_iff.1 (List.mem_cons_of_mem _ hm))
     refine ⟨k1,k2,?_⟩
     rw [e,if_neg (fun c=>hn1 (by rw [show x=y by omega];exact hm))];exact k3
   rintro ⟨k1,k2,k3⟩
   rw [e] at k3
   split at k3
   · cases k3
   rename_i c
   have:=(h.mem y).2 ⟨k1,k2,k3⟩
   rcases List.mem_cons.1 (hp.mem_iff.2 this) with e|e
   · exact absurd (by rw [e]) c
   exact e
 · rw [e] at hi
   split at hi
   · rename_i c;rw [c];exact ho.1
   exact h.dnp i hi
 have h7:=hp.length_eq;have h8:=h.cnt;rw [List.length_cons] at h7;omega
theorem HI.push {D:List Int}{dn:List Bool}{l l':List Int}{i:Nat}{b:Int}(h:HI D dn l)(hi:i<D.length)(hd:dAt D i= -1)(hb:0≤b∧b≤25)(hp:l'.Perm ((i:Int)::l))(hh:HeapP l' l'.length):HI (D.set i b) dn l':=by
 have e:=fun j=>Mb (D:=D) (i:=i) (j:=j) (b:=b) hi
 have hdn:dn.getD i false=false:=by
  cases hc:dn.getD i false with
  |false=>rfl
  |true=>have:=h.dnp i hc;omega
 have hni:(i:Int)∉l:=fun hm=>by have:=((h.mem _).1 hm).2.1;simp only [Int.toNat_natCast] at this;omega
 refine ⟨by rw [List.length_set];exact h.len,fun y=> ?_,(hp.nodup_iff).2 (List.nodup_cons.2 ⟨hni,h.nd⟩),hh,fun j=> ?_,fun j hj=> ?_,?_⟩
 · rw [hp.mem_iff,List.mem_cons]
   constructor
   · rintro (rfl|hm)
     · refine ⟨by omega,?_,by simpa using hdn⟩
       rw [e];simp [hb.1]
     obtain ⟨k1,k2,k3⟩:=(h.mem y).1 hm
     refine ⟨k1,?_,k3⟩
     rw [e];split
     · exact hb.1
     exact k2
   rintro ⟨k1,k2,k3⟩
   rw [e] at k2
   split at k2
   · left;omega
   exact .inr ((h.mem y).2 ⟨k1,k2,k3⟩)
 · rw [e];split
   · exact .inr hb
   exact h.rng j
 · rw [e];split
   · exact hb.1
   exact h.dnp j hj
 have h1:=List.count_set (a:=b) (b:=(-1:Int)) hi
 rw [h1,List.length_set,hp.length_eq,List.length_cons]
 rw [Mf hi] at hd
 have h2:0<D.count (-1):=List.count_pos_iff.2 (hd ▸ List.getElem_mem hi)
 have h3:=h.cnt
 have e1:(D[i]==(-1:Int))=true:=by rw [hd];rfl
 have e2:(b==(-1:Int))=false:=beq_eq_false_iff_ne.2 (by omega)
 rw [e1,e2];simp;omega
theorem HI.init {n:Nat}(hn:0<n):HI ((List.replicate n (-1)).set 0 0) (List.replicate n false) [0]:=by
 have e:=fun j=>Mb (D:=List.replicate n (-1)) (i:=0) (j:=j) (b:=0) (by simpa using hn)
 have e0: ∀ j,dAt (List.replicate n (-1)) j= -1:=fun j=>by
  unfold dAt;rw [List.getD_eq_getElem?_getD,List.getElem?_replicate];split<;>rfl
 have ef: ∀ j,(List.replicate n false).getD j false=false:=fun j=>by
  rw [List.getD_eq_getElem?_getD,List.getElem?_replicate];split<;>rfl
 refine ⟨by simp,fun x=> ?_,by simp,fun k h1 h2=>by simp at h2;omega,fun i=> ?_,fun i hi=>(by rw [ef] at hi;cases hi),?_⟩
 · rw [List.mem_singleton]
   constructor
   · rintro rfl;exact ⟨by omega,by rw [e];simp,ef _⟩
   rintro ⟨k1,k2,k3⟩
   rw [e,e0] at k2
   split at k2<;>omega
 · rw [e,e0];split<;>simp
 rw [List.count_set (by simpa using hn)];simp
 omega
theorem noFalse {dn:List Bool}{a:Nat}(h:(dn.filter (· ==false)).length=0)(ha:a<dn.length):dn.getD a false=true:=by
 have h1:=List.eq_nil_of_length_eq_zero h
 rw [List.filter_eq_nil_iff] at h1
 have:=h1 dn[a] (List.getElem_mem ha)
 simp [List.getD,ha]
 simpa using this
theorem fil_set: ∀ (dn:List Bool) (a:Nat),a<dn.length→dn.getD a false=false→((dn.set a true).filter (· ==false)).length+1=(dn.filter (· ==false)).length:=by
 intro dn
 induction dn with
 |nil=>intro a h;simp at h
 |cons x r ih=>
  intro a ha h
  cases a with
  |zero=>simp at h;subst h;simp
  |succ a=>
   have:=ih a (by simpa using ha) (by simpa using h)
   cases x
   · simp only [List.set_cons_succ,List.filter_cons,beq_self_eq_true,if_true,List.length_cons];omega
   simpa using this
def dOf (m:Mdl)(t:Cod):List Int×Int:=
 if t.ins.length=0 then ([],170) else if ¬ (∀ x∈t.ins,Kz m t x) then ([],171) else Kq (Ur t) t.ins.length ((List.replicate t.ins.length (-1)).set 0 0) (List.replicate t.ins.length false)
theorem thrS_end {ins:List Bl}{D:List Int}{dn:List Bool}(k:Nat)(h:HI D dn []):Kq ins k D dn=(D,0):=by
 cases k with
 |zero=>rfl
 |succ k=>unfold Kq;rw [h.nil]
theorem fil_pos {dn:List Bool}{a:Nat}(ha:a<dn.length)(h:dn.getD a false=false):0<(dn.filter (· ==false)).length:=by
 rcases Nat.eq_zero_or_pos (dn.filter (· ==false)).length with e|e
 · have:=noFalse e ha;rw [h] at this;cases this
 exact e
theorem fill_eq {D:List Int}{N:Nat}(h:D.length=N)(h2: ∀ i (hi:i<D.length),i<N→D[i]= -1):D=List.replicate N (-1):=by
 refine List.ext_getElem (by simp [h]) (fun i h1 h3=> ?_)
 rw [List.getElem_replicate];exact h2 i h1 (by omega)
theorem Zqx {ins:List Bl}{k a:Nat}{D:List Int}{dn:List Bool}(h:Kj D dn=some a):Kq ins (k+1) D dn=if (Vl ins a (dAt D a)).2≠0 then ([],(Vl ins a (dAt D a)).2) else match Ug (Vl ins a (dAt D a)).1 D (Jc (ins.getD a zI) a) with
 |none=>([],174)
 |some D'=>Kq ins k D' (dn.set a true):=by
 conv=>lhs;unfold Kq
 rw [h];rfl
theorem oneS_le {ins:List Bl}{a:Nat}{d:Int}(h:(Vl ins a d).2=0):(Vl ins a d).1≤25:=by
 unfold Vl at h⊢
 simp only at h⊢
 split at h
 · cases h
 rename_i h1
 split at h
 · cases h
 rename_i h2
 split at h
 · cases h
 rename_i h3
 rw [if_neg h1,if_neg h2,if_neg h3];dsimp only;omega
structure VI (D0:List Int) (dn:List Bool) (b:Int) (xs:List Int) (k:Nat) (s:List Int×List Int):Prop where
 hi:HI s.1 dn s.2
 len:s.1.length=D0.length
 go:Ug b D0 xs=Ug b s.1 (xs.drop k)
def viH (D:List Int)(dn:List Bool)(b:Int)(xs:List Int)(g N nb k:Nat):HP:=ex fun s:List Int×List Int=>stars [Wx.pure (VI D dn b xs k s),lsH I64 3 (some ⟨g,0,none⟩) N s.1,plB nb s.2]
theorem Ss {D:List Int}{dn:List Bool}{b:Int}{xs:List Int}{g N nb k:Nat}{q r:List HP}(s:List Int×List Int)(h:VI D dn b xs k s)(hle:Le q (lsH I64 3 (some ⟨g,0,none⟩) N s.1::plB nb s.2::r)):Le q (viH D dn b xs g N nb k::r):=
 Sx s (hle.trans ((Jh h _).trans (by exact Vh [_,_,_] r)))
theorem X.viH {P:Program}{G:World}{f:Fc}{Q:Y3}{todo:List Item}{p:PE}{ds:List Deferred}{cs:List Frame}{D:List Int}{dn:List Bool}{b:Int}{xs:List Int}{g N nb k:Nat}{q:List HP}
 (x: ∀ D' l',VI D dn b xs k (D',l')→X P G f Q todo p ds cs (lsH I64 3 (some ⟨g,0,none⟩) N D'::plB nb l'::q)):X P G f Q todo p ds cs (Go.Proofs.YtgonllbkcgaliaaGreatDoor.viH D dn b xs g N nb k::q):=
 X.ex (fun s=>X.le (W2 _ _) (X.pure (fun h=>x s.1 s.2 h)))
theorem nxt_mem {x:Ins}(h:Jk x)(a:Nat): ∀ y∈nxt x (a:Int),0≤y:=by
 intro y hy
 have h1:=h.2.1
 unfold nxt at hy
 have hA:(x.c=19∨x.c=20∨x.c=21)→0≤x.a:=fun hc=>by
  rw [if_pos (by unfold nmA;exact decide_eq_true (by omega))] at h1;exact h1.1
 (repeat' split at hy)<;>simp at hy<;>first|(have:=hA (by omega);omega)|omega
theorem VI.step {D0:List Int}{dn:List Bool}{b:Int}{xs:List Int}{k y:Nat}{D l:List Int}(h:VI D0 dn b xs k (D,l))(hk:k<xs.length)(hy:xs[k]=(y:Int))(hyl:y<D.length):Ug b D0 xs=if 0≤D[y]∧D[y]≠b then none else Ug b (D.set y b) (xs.drop (k+1)):=by
 rw [h.go,List.drop_eq_getElem_cons hk,hy]
 conv=>lhs;unfold Ug
 simp only [Int.toNat_natCast,Mf hyl]
section
variable {G:World}{q pre:List HP}{a b A:Option Addr}{c d C p p0 p1 p2 i:Nat}{lo hi n cd dep:Int}{fv:Value}{x y:Ins}{t:Cod}{m:Mdl}{at_:Int}
variable {pm om pt ot n:Nat}
set_option maxHeartbeats 4000000 in
theorem Dw (g:GE q)(hm:CellsAt q pm om (Wo m))(ht:CellsAt q pt ot (Y2 t))(hq:CodQ q t)(hin: ∀ x∈t.ins,Jk x)(hL:t.ins.length≤65536):CallF prog G 55 [.pointer (some ⟨pm,om,none⟩),.pointer (some ⟨pt,ot,none⟩)] (q) (Ret fun v q'=>((dOf m t).2≠0∧v= .tuple [.slice none 0 0,.int .i64 (dOf m t).2].toArray∧q'=q)∨((dOf m t).2=0∧ ∃ a' c',v= .tuple [.slice a' (dOf m t).1.length c',.int .i64 0].toArray∧q'=lsH I64 3 a' c' (dOf m t).1::q)):=by
 refine CallF.of func55 ntmps55 rfl (fun F cs=> ?_)
 have hs:=hq.i;have hlen:=Zb (f:=Zx) (sz:=4) (fun _=>rfl) t.ins
 have hc: ∀ x∈t.ins,1≤x.c∧x.c≤34:=fun x hx=>(hin x hx).1
 refine xo 12 ?_;refine ld ?_ (hc:=((ht 2 _ rfl).le leA))
 refine ox 3 ?_;refine X.part 19 rfl (fun h0=> ?_) (fun h0=> ?_)
 · replace h0:=sp h0
   refine xx 6 ?_
   have hD:dOf m t=([],170):=by unfold dOf;rw [if_pos (by omega)]
   refine Zq (q) func55 (Qt results55 rfl rfl) ⟨_,rfl,.inl ⟨by rw [hD];decide,by rw [hD],rfl⟩⟩
 replace h0:=sp h0;have hN:0<t.ins.length:=by omega
 refine xo 7 ?_;refine XO.cR call88 (P1 (hm.le leA) (ht.le leA) (hq.le leA)) ?_;refine Zc (Pu.not rfl) ?_;refine ox 1 ?_;refine X.part 23 rfl (fun h1=> ?_) (fun h1=> ?_)
 · replace h1:=sp h1
   refine xx 6 ?_
   have hD:dOf m t=([],171):=by unfold dOf;rw [if_neg (by omega),if_pos (by simpa using h1)]
   refine Zq (q) func55 (Qt results55 rfl rfl) ⟨_,rfl,.inl ⟨by rw [hD];decide,by rw [hD],rfl⟩⟩
 replace h1:=sp h1
 have hT:dOf m t=Kq (Ur t) t.ins.length ((List.replicate t.ins.length (-1)).set 0 0) (List.replicate t.ins.length false):=by unfold dOf;rw [if_neg (by omega),if_neg (by simpa using h1)]
 generalize dOf m t=T at hT⊢
 refine xo 7 ?_;refine ld ?_ (hc:=((ht 2 _ rfl).le leA))
 refine oo 1 ?_;refine XO.ef (Q7 (n:=t.ins.length) rfl rfl underlying23 Tryz.info3 rfl rfl (by omega) (by omega)) ?_
 rintro _ _ ⟨g0,rfl,rfl⟩
 refine XO.le (q':=lsH I64 3 (some ⟨g0,0,none⟩) t.ins.length (List.replicate t.ins.length 0)::_) (Le.trans Zj (by rw [show lsH I64 3 (some ⟨g0,0,none⟩) t.ins.length (List.replicate t.ins.length 0)=slH (some ⟨g0,0,none⟩) t.ins.length 3 1 t.ins.length ((List.replicate t.ins.length (Value.cells (.int .i64 0)).toList).flatten) from by unfold lsH;rw [List.length_replicate];congr 1;induction t.ins.length with|zero=>rfl|succ n ih=>simp [List.replicate_succ,Value.cells] at*];exact Le.refl _)) ?_
 refine Zm zeroValue23 fun n1=> ?_
 refine st ?_;refine ol 4 ?_;refine ox 4 ?_;refine X.at (X.loop (fun (s:List Int×Nat)=>s.1.length=t.ins.length∧s.2≤t.ins.length∧ ∀ i (h:i<s.1.length),i<s.2→s.1[i]= -1) (fun s=> [(32,.int .i64 (s.2:Int)),(31,.int .i64 (t.ins.length:Int)),(6,.pointer (some ⟨n1,0,none⟩)),(5,.int .i64 0),(4,.slice none 0 0),(0,.pointer (some ⟨pm,om,none⟩)),(1,.pointer (some ⟨pt,ot,none⟩))]) (fun s=>pto n1 (.cells [.slice (some ⟨g0,0,none⟩) t.ins.length t.ins.length].toArray 23 (0,0))::lsH I64 3 (some ⟨g0,0,none⟩) t.ins.length s.1::(q++F)) (fun s=>t.ins.length - s.2) (fun s hi_ ih=> ?_) (List.replicate t.ins.length 0,0) ⟨by simp,by omega,fun i _ h=>absurd h (Nat.not_lt_zero _)⟩) Zp leA
 try dsimp only at hi_ ih⊢
 obtain ⟨hl1,hl2,hl3⟩:=hi_
 obtain ⟨D,k⟩:=s;dsimp only at*
 refine xx 5 ?_;refine X.part 33 rfl (fun h2=> ?_) (fun h2=> ?_)
 · replace h2:=sp h2
   refine xl 10 ?_;refine oo 2 ?_;refine XO.ef0 (Wq (l:=D) (n:=k) (u:= -1) rfl rfl sizeOf3 rfl (by omega) rfl rfl Zj) ?_
   rintro _ _ ⟨rfl,rfl⟩
   refine ox 6 ?_;refine X.at (ih (D.set k (-1),k+1) ⟨by rw [List.length_set];exact hl1,by dsimp only;omega,fun i hh hk=>by dsimp only at hk hh⊢;rw [List.getElem_set];split;rfl;exact hl3 i (by rw [List.length_set] at hh;exact hh) (by omega)⟩ (by dsimp only;omega)) Zp leA
 replace h2:=sp h2
 have hrep:D=List.replicate t.ins.length (-1):=fill_eq hl1 (fun i h1 h3=>hl3 i h1 (by omega))
 clear hl3
 refine xl 4 ?_;refine oo 1 ?_;refine XO.ef0 (Wq (l:=D) (n:=0) (u:=0) rfl rfl sizeOf3 rfl (by omega) rfl rfl Zj) ?_
 rintro _ _ ⟨rfl,rfl⟩
 refine oo 3 ?_;refine XO.ef (Yh I64 [0] underlying172 Tryz.info3 rfl rfl rfl rfl rfl rfl (fun _=>rfl)) ?_
 rintro _ _ ⟨g1,rfl,rfl⟩
 refine Zl fun n2=> ?_
 refine Zm zeroValue171 fun n3=> ?_
 refine st ?_;refine oo 3 ?_;refine Zm zeroValue35 fun n4=> ?_
 refine st ?_;refine ox 5 ?_
 subst hrep
 refine X.at (X.loopD (fun (s:List Int×List Bool×List Int×Nat×List Nat)=>HI s.1 s.2.1 s.2.2.1∧s.1.length=t.ins.length∧(s.2.1.filter (· ==false)).length≤s.2.2.2.1∧Kq (Ur t) s.2.2.2.1 s.1 s.2.1=T) (fun s=> [(8,.pointer (some ⟨n3,0,none⟩)),(9,.pointer (some ⟨n4,0,none⟩)),(6,.pointer (some ⟨n1,0,none⟩)),(5,.int .i64 0),(4,.slice none 0 0),(0,.pointer (some ⟨pm,om,none⟩)),(1,.pointer (some ⟨pt,ot,none⟩))]) (fun s=>s.2.2.2.2.map markD++ []) (fun s=>mks s.2.2.2.2::pto n1 (.cells [.slice (some ⟨g0,0,none⟩) t.ins.length t.ins.length].toArray 23 (0,0))::lsH I64 3 (some ⟨g0,0,none⟩) t.ins.length s.1::plB n2 s.2.2.1::pto n3 (.cells [.pointer (some ⟨n2,0,none⟩)].toArray 171 (0,0))::pto n4 (.cells [.int .i64 0].toArray 35 (0,0))::(q++F)) (fun s=>s.2.2.2.1) (fun s hi_ ih=> ?_) ((List.replicate t.ins.length (-1)).set 0 0,List.replicate t.ins.length false, [0],t.ins.length, []) ⟨HI.init hN,by simp,Nat.le_trans (List.length_filter_le _ _) (by simp),hT.symm⟩) Zp (by refine Le.trans ?_ (Ov _);refine Le.pick Zj (Le.pick Zj (Le.bx (a:=some ⟨g1,0,none⟩) (c:=1) ?_));exact leA)
 try dsimp only at hi_ ih⊢
 obtain ⟨hI,hDN,hfu,hT⟩:=hi_
 skip
 obtain ⟨D,dn,l,fu,rs⟩:=s;dsimp only at hI hDN hfu hT ih⊢
 have hlN:l.length≤65536:=by have:=hI.cnt;omega
 refine X.le (q':=plB n2 l::_) Zj (X.bx (fun a1 c1=> ?_))
 refine xl 3 ?_;refine ol 1 ?_;refine V3 call89 (Pi (b:=n2)) ?_
 rintro _ _ ⟨rfl,rfl⟩ _ e_;simp only [ca,na] at e_;subst e_
 refine ox 2 ?_;refine X.le (q':=plB n2 l::_) (Le.bx (a:=a1) (c:=c1) (Le.pick Zj Zj)) ?_
 refine X.part 47 rfl (fun h3=> ?_) (fun h3=> ?_)
 · replace h3:=sp h3
   refine xl 5 ?_;refine oo 1 ?_;refine V3 call90 (hPop_ok (b:=n2) hI.hp (by omega) (by omega)) ?_
   rintro _ _ ⟨x,l',rfl,hp1,hp2,hp3,rfl⟩ _ e_;simp only [ca,na] at e_;subst e_
   obtain ⟨hx0,hxl,hle,hop,hI'⟩:=hI.pop hp1 hp2 hp3
   obtain ⟨a,rfl⟩: ∃ a:Nat,x=a:=⟨x.toNat,by omega⟩
   simp only [Int.toNat_natCast] at hxl hle hop hI'
   have hfp:=fil_pos (a:=a) (dn:=dn) (by rw [hI.len];exact hxl) hop.2
   have hfs:=fil_set dn a (by rw [hI.len];exact hxl) hop.2
   obtain ⟨fv,rfl⟩: ∃ f,fu=f+1:=⟨fu - 1,by omega⟩
   rw [Zqx hle,Mf hxl] at hT;have hrg:=hI.rng a;have hop1:=hop.1;rw [Mf hxl] at hrg hop1
   have haN:a<t.ins.length:=by omega
   refine Zc (Fe rfl underlying3 rfl) ?_;refine ol 6 ?_;refine oo 2 ?_;refine ld ?_ (hc:=(Cl.e1 (Sees.lsH _) Zj hxl rfl))
   refine XO.cR call91 (look_ok (n:=a) (dep:=D[a]) (g.le leA) (ht.le leA) (hq.le leA) hc hL haN (by omega)) ?_
   have hO1:(Vl (Ur t) a D[a]).2=0→(∀ x∈Jc ((Ur t).getD a zI) a,x<((Ur t).length:Int))∧0≤(Vl (Ur t) a D[a]).1∧(Vl (Ur t) a D[a]).1≤25:=fun h=>⟨(J6 h).1,(J6 h).2.1 hop1,oneS_le h⟩
   generalize Vl (Ur t) a D[a]=O at hT hO1⊢
   refine oo 3 ?_;refine Zm zeroValue3 fun n5=> ?_
   refine st ?_;refine ox 8 ?_;refine X.part 63 rfl (fun h4=> ?_) (fun h4=> ?_)
   · have hne:O.2≠0:=by simpa using h4
     refine xo 4 ?_;refine st ?_;refine ol 5 ?_;refine ox 2 ?_;refine X.know 96 (.bool true) rfl (congrArg Value.bool (by rw [bne_iff_ne];exact hne)) ?_
     refine xx 2 ?_;refine drw ?_;refine ldD 0 ?_;refine dd [1,2] ?_;refine XD.nil ?_
     have hTT:T=([],O.2):=by rw [if_pos hne] at hT;exact hT.symm
     refine X.ret ⟨rfl,?_⟩
     refine Lv.mks ?_;exact Lv.ret (q':=q) func55 (Qt results55 rfl rfl) ⟨_,rfl,.inl ⟨by rw [hTT];exact hne,by rw [hTT],rfl⟩⟩ leB
   replace h4:=sp h4
   rw [if_neg (by omega),Uo haN] at hT;obtain ⟨hO1,hO2,hO3⟩:=hO1 (by omega);rw [Uo haN,We] at hO1;rw [←Ee] at hO1 hT
   refine xo 7 ?_;refine ld ?_ (hc:=((ht 2 _ rfl).le leA))
   refine oo 1 ?_;refine Y6 hs (by rw [hlen];omega) (fun b1 o1 e1=> ?_)
   have hs1:=hs;rw [e1] at hs1
   refine XO.know 68 (.slice (some ⟨b1,o1,none⟩) t.ins.length t.ic) rfl (by rw [e1]) ?_
   refine oo 1 ?_;refine Wm (n:=a) isAgg48 sizeOf48 hs1 haN ?_
   refine oo 1 ?_;refine V3 call92 (G8 (x:=t.ins[a])) ?_
   rintro _ _ ⟨p1,p2,rfl,rfl⟩ _ e_;simp only [ca,na] at e_;subst e_
   refine ox 2 ?_;refine X.le (q':=pto p1 (.cells (Zx t.ins[a]).toArray 48 (0,0))::_) Zj (X.freeze ?_)
   refine X.le (q':=pto p2 (.cells [.int .i64 (a:Int)].toArray 3 (0,0))::_) Zj (X.freeze ?_)
   have hxs: ∀ y∈nxt t.ins[a] (a:Int),0≤y∧y<t.ins.length:=fun y hy=>⟨nxt_mem (hin _ (List.getElem_mem haN)) a y hy,hO1 y hy⟩
   refine X.range [im p1 (.cells (Zx t.ins[a]).toArray 48 (0,0)),im p2 (.cells [.int .i64 (a:Int)].toArray 3 (0,0))] (fun k=>viH D (dn.set a true) O.1 (nxt t.ins[a] (a:Int)) g0 t.ins.length n2 k::pto n1 (.cells [.slice (some ⟨g0,0,none⟩) t.ins.length t.ins.length].toArray 23 (0,0))::pto n3 (.cells [.pointer (some ⟨n2,0,none⟩)].toArray 171 (0,0))::pto n4 (.cells [.int .i64 0].toArray 35 (0,0))::pto n5 (.cells [.int .i64 O.1].toArray 3 (0,0)):: []) (fun e qs=>e= .exit 2∧qs=Wx.pure (Ug O.1 D (nxt t.ins[a] (a:Int))=none)::pto n4 (.cells [.int .i64 174].toArray 35 (0,0)):: []) (F:=mks rs::(q++F)) (Dy (x:=t.ins[a]) ⟨by omega,by omega⟩) rfl ?_ (by intro x hx;obtain ⟨y,_,rfl⟩:=List.mem_map.1 hx;rfl) rfl (by rw [func55];rfl) rfl (fun i hi l2 rec F0 cs0=> ?_) (fun r=> ?_) (fun r c2 qs2 hJ=> ?_)
   · simp only [ca,na];refine Ss (D,l') ⟨hI',rfl,by simp⟩ ?_;exact leA
   · have hi':i<(nxt t.ins[a] (a:Int)).length:=by simpa using hi
     rw [List.getElem_map]
     simp only [Cw,ivs]
     have hyb:=hxs _ (List.getElem_mem hi')
     obtain ⟨y,hy⟩: ∃ y:Nat,(nxt t.ins[a] (a:Int))[i]=(y:Int):=⟨((nxt t.ins[a] (a:Int))[i]).toNat,by omega⟩
     rw [hy] at hyb⊢
     simp only [ca,na]
     refine X.le (q':=viH D (dn.set a true) O.1 (nxt t.ins[a] (a:Int)) g0 t.ins.length n2 i::_) Zj (X.viH (fun D1 l1 hV=> ?_))
     have hV1:=hV.len;dsimp only at hV1;have hyl:y<D1.length:=by omega
     have hst:=hV.step hi' hy hyl;have hrg1:=hV.hi.rng y;dsimp only at hrg1;rw [Mf hyl] at hrg1;have hc1:=hV.hi.cnt;dsimp only at hc1
     refine xx 3 ?_;refine X.beginRound rfl leA ?_;refine xl 3 ?_;refine oo 2 ?_;refine ld ?_ (hc:=(Cl.e1 (Sees.lsH _) Zj hyl rfl))
     refine ox 2 ?_;refine X.part 79 rfl (fun k1=> ?_) (fun k1=> ?_)
     · replace k1:=sp k1
       refine xl 3 ?_;refine ol 1 ?_;refine oo 1 ?_;refine XO.ef0 (Wq (l:=D1) (n:=y) (u:=O.1) rfl rfl sizeOf3 rfl hyl rfl rfl Zj) ?_
       rintro _ _ ⟨rfl,rfl⟩
       refine ol 2 ?_;refine oo 3 ?_;refine V3 call93 (hPush_ok (b:=n2) (l:=l1) (z:=(y:Int)) hV.hi.hp (by omega)) ?_
       rintro _ _ ⟨l2',hq1,hq2,rfl⟩ _ e_;simp only [ca,na] at e_;subst e_
       refine ox 2 ?_;refine X.fall ⟨rfl,rfl,?_⟩
       simp only [ca,na]
       refine Le.pick Zj (Ss (D1.set y O.1,l2') ⟨hV.hi.push hyl (by rw [Mf hyl];exact k1) ⟨hO2,hO3⟩ hq2 hq1,by rw [List.length_set];exact hV1,by rw [hst,if_neg (by omega)]⟩ ?_)
       exact leA
     replace k1:=sp k1
     refine xx 2 ?_;refine drw ?_;refine ldD 0 ?_;refine dd [1,2] ?_;refine ldD 3 ?_ (hc:=(Cl.e1 (Sees.lsH _) Zj hyl rfl))
     refine ldD 4 ?_;refine dd [5] ?_;refine XD.nil ?_;refine X.part 94 rfl (fun k2=> ?_) (fun k2=> ?_)
     · replace k2:=sp k2
       refine xo 3 ?_;refine st ?_;refine ox 1 ?_;refine X.out rfl ⟨rfl,rfl,_,⟨rfl,rfl⟩,?_⟩
       simp only [ca,na]
       refine Le.pick Zj (Le.trans ?_ (Jh (show Ug O.1 D (nxt t.ins[a] (a:Int))=none by rw [hst,if_pos ⟨by omega,by omega⟩]) _))
       exact leA
     replace k2:=sp k2
     refine xx 3 ?_
     have hse:D1.set y O.1=D1:=by rw [←k2];exact List.set_getElem_self hyl
     refine X.fall ⟨rfl,rfl,?_⟩
     simp only [ca,na]
     refine Le.pick Zj (Ss (D1,l1) ⟨hV.hi,hV1,by rw [hst,if_neg (by omega),hse]⟩ ?_)
     exact leA
   · simp only [ca,na]
     rw [List.length_map]
     refine X.le (q':=viH D (dn.set a true) O.1 (nxt t.ins[a] (a:Int)) g0 t.ins.length n2 (nxt t.ins[a] (a:Int)).length::_) Zj (X.viH (fun D1 l1 hV=> ?_))
     have hV1:=hV.len;have hV2:=hV.hi;have hV3:=hV.go;dsimp only at hV1 hV2 hV3;rw [List.drop_length] at hV3;rw [hV3] at hT;simp only [Ug] at hT
     refine xx 2 ?_;refine X.at (ih (D1,dn.set a true,l1,fv,r::rs) ⟨hV2,by dsimp only;omega,by dsimp only;omega,hT⟩ (by dsimp only;omega)) Zp (by refine Le.trans ?_ (Sf _ _ _);exact leB)
   obtain ⟨rfl,rfl⟩:=hJ
   simp only [ca,na]
   refine X.le (q':=Wx.pure (Ug O.1 D (nxt t.ins[a] (a:Int))=none)::_) Zj (X.pure (fun hP=> ?_))
   rw [hP] at hT;dsimp only at hT
   refine xl 4 ?_;refine ox 2 ?_;refine X.know 96 (.bool true) rfl (congrArg Value.bool (by rw [bne_iff_ne];decide)) ?_
   refine xx 2 ?_;refine drw ?_;refine ldD 0 ?_;refine dd [1,2] ?_;refine XD.nil ?_
   have hTT:T=([],174):=hT.symm
   refine X.ret ⟨rfl,?_⟩
   refine F4 ?_;refine Lv.mks ?_;exact Lv.ret (q':=q) func55 (Qt results55 rfl rfl) ⟨_,rfl,.inl ⟨by rw [hTT];decide,by rw [hTT],rfl⟩⟩ leB
 replace h3:=sp h3
 have hl0:l= []:=List.eq_nil_of_length_eq_zero (by omega)
 rw [hl0] at hI;rw [thrS_end fu hI] at hT
 refine xl 5 ?_;refine ox 2 ?_;refine W0 96 ?_;refine xl 4 ?_;refine ox 3 ?_;refine X.ret ⟨rfl,?_⟩
 refine Lv.mks ?_;exact Lv.ret (q':=(lsH I64 3 (some ⟨g0,0,none⟩) t.ins.length D::q)) func55 (Qt results55 rfl rfl) ⟨_,rfl,.inr ⟨by rw [←hT],_,_,by rw [←hT,hDN],by rw [←hT]⟩⟩ leB
end
def Bn (m:Mdl)(th:Int):List Int×Int:=if Tb m≠0 then ([],Tb m) else if h:0≤th∧th.toNat<m.threads.length then dOf m m.threads[th.toNat] else ([],2)
def Gv (m:Mdl):List Cod→Int
 | []=>0
 |t::r=>if (dOf m t).2≠0 then (dOf m t).2 else Gv m r
def V0 (m:Mdl):Int:=if Tb m≠0 then Tb m else Gv m m.threads
theorem N7 {m:Mdl}(h:Tb m=0){t:Cod}(ht:t∈m.threads):(∀ x∈t.ins,Jk x)∧t.ins.length≤65536:=by
 have h1:=Hi.1 h
 have h2:=h1.2.2.2.2.2.2 t ht
 exact ⟨h2.2.2.2.1.2,by have:=h2.2.2.2.1.1;omega⟩
section
variable {G:World}{q pre:List HP}{a b A:Option Addr}{c d C p p0 p1 p2 i:Nat}{lo hi n cd dep:Int}{fv:Value}{x y:Ins}{t:Cod}{m:Mdl}{at_:Int}
variable {pm om pt ot n:Nat}{th:Int}
set_option maxHeartbeats 2000000 in
theorem Zz3 (gc:GC q)(g:GE q)(hq:MdlQ q m):CallF prog G 53 [.agg (Wo m).toArray,.int .i64 th] (q) (Ret fun v q'=>((Bn m th).2≠0∧v= .tuple [.slice none 0 0,.int .i64 (Bn m th).2].toArray∧q'=q)∨((Bn m th).2=0∧ ∃ a' c',v= .tuple [.slice a' (Bn m th).1.length c',.int .i64 0].toArray∧q'=lsH I64 3 a' c' (Bn m th).1::q)):=by
 refine CallF.of func53 ntmps53 rfl (fun F cs=> ?_)
 have hlen:=Zb (f:=Y2) (sz:=4) (fun _=>rfl) m.threads;have hnt:=hq.nt
 refine xo 2 ?_;refine Zl fun n1=> ?_
 refine oo 6 ?_;refine ldA ?_;refine XO.cR call54 (Si (gc.le leA) (hq.le leA)) ?_;refine ox 7 ?_;refine X.part 10 rfl (fun h1=> ?_) (fun h1=> ?_)
 · replace h1:=sp h1
   refine xx 7 ?_
   have hk1:Tb m≠0:=by omega
   have hdp:Bn m th=([],Tb m):=by unfold Bn;rw [if_pos hk1]
   refine Zq (q) func53 (Qt results53 rfl rfl) ⟨_,rfl,.inl ⟨by rw [hdp];exact hk1,by rw [hdp],rfl⟩⟩
 replace h1:=sp h1
 refine xo 8 ?_;refine Zg [14,5,4,2,1] ?_
 apply Zw 6 20 14 rfl
 · intro g2 M2;have h2:=sp g2
   refine ol 2 ?_;refine oo 3 ?_;exact Zz M2 ⟨orF g2,Zv⟩
 · intro g2 M2;have h2:=sp g2
   refine oo 6 ?_;exact Zz M2 ⟨orT g2,Zv⟩
 refine ox 1 ?_;refine X.part 20 rfl (fun h2=> ?_) (fun h2=> ?_)
 · replace h2:=sp h2
   refine xx 6 ?_
   have hk0:Tb m=0:=by omega
   have hdp:Bn m th=([],2):=by unfold Bn;rw [if_neg (by omega),dif_neg (by omega)]
   refine Zq (q) func53 (Qt results53 rfl rfl) ⟨_,rfl,.inl ⟨by rw [hdp];decide,by rw [hdp],rfl⟩⟩
 replace h2:=sp h2
 refine xl 5 ?_;refine oo 1 ?_;refine Y6 hq.t (by rw [hlen];omega) (fun b1 o1 e1=> ?_)
 have hs1:=hq.t;rw [e1] at hs1
 refine XO.know 22 (.slice (some ⟨b1,o1,none⟩) m.threads.length m.tc) rfl (by rw [e1]) ?_
 refine oo 1 ?_
 have hk0:Tb m=0:=by omega
 have hth:th.toNat<m.threads.length:=by omega
 obtain ⟨hin,hL⟩:=N7 hk0 (List.getElem_mem hth)
 have hdp:Bn m th=dOf m m.threads[th.toNat]:=by unfold Bn;rw [if_neg (by omega),dif_pos ⟨by omega,hth⟩]
 refine Zh call55 (Le.refl _) (Dw (m:=m) (t:=m.threads[th.toNat]) (g.le leA) (CellsAt.of Vd) (Dn (j:=th) hs1 leA (fun _=>rfl) hth (by omega)) ((hq.x _ (List.getElem_mem hth)).le leA) hin hL) ?_
 rintro _ _ (⟨hz,rfl,rfl⟩|⟨hz,a1,c1,rfl,rfl⟩)
 · refine ox 5 ?_;refine Zq (q) func53 (Qt results53 rfl rfl) ⟨_,rfl,.inl ⟨by rw [hdp];exact hz,by rw [hdp],rfl⟩⟩
 refine ox 5 ?_;refine Zq (lsH I64 3 a1 c1 (dOf m m.threads[th.toNat]).1::q) func53 (Qt results53 rfl rfl) ⟨_,rfl,.inr ⟨by rw [hdp];exact hz,_,_,by rw [hdp],by rw [hdp]⟩⟩
set_option maxHeartbeats 2000000 in
theorem Br (gc:GC q)(g:GE q)(hq:MdlQ q m):CallF prog G 28 [.agg (Wo m).toArray] (q) (Ret fun v q'=>v= .int .i64 (V0 m)∧q'=q):=by
 refine CallF.of func28 ntmps28 rfl (fun F cs=> ?_)
 have hlen:=Zb (f:=Y2) (sz:=4) (fun _=>rfl) m.threads;have hnt:=hq.nt
 refine xo 2 ?_;refine Zl fun n1=> ?_
 refine oo 5 ?_;refine ldA ?_;refine XO.cR call54 (Si (gc.le leA) (hq.le leA)) ?_;refine ox 7 ?_;refine X.part 10 rfl (fun h0=> ?_) (fun h0=> ?_)
 · replace h0:=sp h0
   refine xx 6 ?_;refine Zq (q) func28 (Zu results28 rfl) ⟨_,rfl,by unfold V0;rw [if_pos (by omega)],rfl⟩
 replace h0:=sp h0;have hk0:Tb m=0:=by omega
 refine xl 6 ?_;refine ox 4 ?_;refine X.at (X.loop (fun (s:Nat)=>s≤m.threads.length∧Gv m m.threads=Gv m (m.threads.drop s)) (fun s=> [(15,.int .i64 (s:Int)),(14,.int .i64 (m.threads.length:Int)),(1,.pointer (some ⟨n1,0,none⟩)),(2,.int .i64 0)]) (fun s=>pto n1 (.cells (Wo m).toArray 26 (0,0))::(q++F)) (fun s=>m.threads.length - s) (fun s hi_ ih=> ?_) 0 ⟨Nat.zero_le _,rfl⟩) Zp leA
 try dsimp only at hi_ ih⊢
 obtain ⟨hs0,hv⟩:=hi_
 refine xx 5 ?_;refine X.part 16 rfl (fun h0=> ?_) (fun h0=> ?_)
 · replace h0:=sp h0
   have hth:s<m.threads.length:=by omega
   obtain ⟨hin,hL⟩:=N7 hk0 (List.getElem_mem hth)
   have hvd:Gv m (m.threads.drop s)=if (dOf m m.threads[s]).2≠0 then (dOf m m.threads[s]).2 else Gv m (m.threads.drop (s+1)):=by rw [List.drop_eq_getElem_cons hth];rfl
   refine xl 12 ?_;refine oo 1 ?_;refine Y6 hq.t (by rw [hlen];omega) (fun b1 o1 e1=> ?_)
   have hs1:=hq.t;rw [e1] at hs1
   refine XO.know 20 (.slice (some ⟨b1,o1,none⟩) m.threads.length m.tc) rfl (by rw [e1]) ?_
   refine oo 1 ?_;refine Zh call55 (Le.refl _) (Dw (m:=m) (t:=m.threads[s]) (g.le leA) (CellsAt.of Vd) (Dn (j:=(s:Int)) hs1 leA (fun _=>rfl) hth (by omega)) ((hq.x _ (List.getElem_mem hth)).le leA) hin hL) ?_
   rintro _ _ (⟨hz,rfl,rfl⟩|⟨hz,a1,c1,rfl,rfl⟩)
   · refine ox 11 ?_;refine X.know 27 (.bool true) rfl (congrArg Value.bool (by rw [bne_iff_ne];exact hz)) ?_
     refine xx 6 ?_;refine Zq (q) func28 (Zu results28 rfl) ⟨_,rfl,by unfold V0;rw [if_neg (by omega),hv,hvd,if_pos hz],rfl⟩
   refine ox 11 ?_;refine kx 27 7 ?_;refine X.at (ih (s+1) ⟨by omega,by rw [hv,hvd,if_neg (by omega)]⟩ (by omega)) Zp leA
 replace h0:=sp h0
 refine xx 6 ?_;refine Zq (q) func28 (Zu results28 rfl) ⟨_,rfl,by unfold V0;rw [if_neg (by omega),hv,List.drop_eq_nil_of_le (by omega)];rfl,rfl⟩
end
theorem Jl {α:Type}{f:α→Value}{u:α}{ty:TypeId}{a:Option Addr}{c:Nat}(h:(f u).cells= #[f u])(n:Nat):slH a c ty 1 n ((List.replicate n (f u).cells.toList).flatten)=lsH f ty a c (List.replicate n u):=by
 unfold lsH;rw [List.length_replicate,h];congr 1
 induction n with
 |zero=>rfl
 |succ n ih=>simp [List.replicate_succ] at*
end Go.Proofs.YtgonllbkcgaliaaGreatDoor
namespace Go.Proofs.YtgonllbkcgaliaaGreatDoor
open Go Go.RowKit Wx Go.Proofs.Tryz
open Go.ChangeShapes Go.WideShapes Go.ChangeAt
theorem gEff: prog.globalNamed "warp/verify.effects" = some 0 := by kernel_rfl
theorem gCod: prog.globalNamed "warp/ops.codes" = some 1 := by kernel_rfl
theorem tEff:(prog.globals[0]?).map (·.type)=some 249:=by kernel_rfl
theorem tCod:(prog.globals[1]?).map (·.type)=some 306:=by kernel_rfl
section
variable {H:Type}{enc:TypeId×Value→H}{W:World}{base fuel:Nat}{sp:Nat→Bool}{hd:Bool}{cs:List Value}{pl:List MemPlace}
def FD:DataW H→List Value
 | .agg [.lit (.int .i64 a),.lit (.int .i64 b)]=> [.int .i64 a,.int .i64 b]
 | .agg [.lit (.string s),.lit (.int .i64 b)]=> [.string ⟨s.toArray⟩,.int .i64 b]
 |_=> []
theorem tab_ef (h:DataW.trod enc prog W base sp hd fuel 249 cs=some (Rows.laid_warp_verify_effects,pl)):cs=effL.flatMap efC:=by
 obtain ⟨xs,m,rfl,hx,hl,hn,hel⟩:=DataW.trod_array underlying249 h
 have c1:prog.cellsOf 248=2:=by kernel_rfl
 have c2:prog.cellsOf 249=70:=by kernel_rfl
 have c3:prog.cellsOf 3=1:=by kernel_rfl
 have hcs:=Bu (fun y:DataW H×List MemPlace=>FD y.1) 2 xs cs (by rw [hl,hn,c2]) (fun i hi=>by
  have h1:=hel i (by omega)
  rw [c1,List.getElem?_eq_getElem hi] at h1
  obtain ⟨y0,y1,n,e,hl2,k0,k1⟩:=trod_struct2 underlying248 h1
  dsimp only at k0 k1
  rw [c3] at k0 k1
  obtain ⟨n0,e0,rfl,_⟩:=DataW.trod_int underlying3 k0
  obtain ⟨n1,e1,rfl,_⟩:=DataW.trod_int underlying3 k1
  rw [e]
  generalize (cs.drop (i*2)).take 2=c at hl2 e0 e1⊢
  rw [c1] at hl2
  match c,hl2,e0,e1 with
  | [u,v],_,e0,e1=>simp at e0 e1;subst e0;subst e1;rfl)
 rw [hcs]
 have hx1:xs.map (·.1)=match (Rows.laid_warp_verify_effects:DataW H) with| .agg l=>l|_=> []:=by
  have:=congrArg Prod.fst hx
  simp only at this
  rw [this]
 have:xs.flatMap (fun y=>FD y.1)=(xs.map (·.1)).flatMap FD:=by rw [List.flatMap_map]
 rw [this,hx1]
 rfl
def toP:DataW H→ByteArray×Int
 | .agg [.lit (.string s),.lit (.int .i64 b)]=>(⟨s.toArray⟩,b)
 |_=>(⟨#[]⟩,0)
def codL:List (ByteArray×Int):=match (Rows.laid_warp_ops_codes:DataW Unit) with| .agg l=>l.map toP|_=> []
theorem Zzc:codL.map (·.2)=Be:=by rfl
theorem tab_cd (h:DataW.trod enc prog W base sp hd fuel 306 cs=some (Rows.laid_warp_ops_codes,pl)):cs=codL.flatMap cdC:=by
 obtain ⟨xs,m,rfl,hx,hl,hn,hel⟩:=DataW.trod_array underlying306 h
 have c1:prog.cellsOf 305=2:=by kernel_rfl
 have c2:prog.cellsOf 306=70:=by kernel_rfl
 have c3:prog.cellsOf 9=1:=by kernel_rfl
 have c4:prog.cellsOf 3=1:=by kernel_rfl
 have hcs:=Bu (fun y:DataW H×List MemPlace=>FD y.1) 2 xs cs (by rw [hl,hn,c2]) (fun i hi=>by
  have h1:=hel i (by omega)
  rw [c1,List.getElem?_eq_getElem hi] at h1
  obtain ⟨y0,y1,n,e,hl2,k0,k1⟩:=trod_struct2 underlying305 h1
  dsimp only at k0 k1
  rw [c3] at k0;rw [c4] at k1
  obtain ⟨n0,e0,rfl,_⟩:=DataW.trod_string underlying9 k0
  obtain ⟨n1,e1,rfl,_⟩:=DataW.trod_int underlying3 k1
  rw [e]
  generalize (cs.drop (i*2)).take 2=c at hl2 e0 e1⊢
  rw [c1] at hl2
  match c,hl2,e0,e1 with
  | [u,v],_,e0,e1=>simp at e0 e1;subst e0;subst e1;rfl)
 rw [hcs]
 have hx1:xs.map (·.1)=match (Rows.laid_warp_ops_codes:DataW H) with| .agg l=>l|_=> []:=by
  have:=congrArg Prod.fst hx
  simp only at this
  rw [this]
 have:xs.flatMap (fun y=>FD y.1)=(xs.map (·.1)).flatMap FD:=by rw [List.flatMap_map]
 rw [this,hx1]
 rfl
end
def G4: List (String × DataW Unit) := [("warp/ops.codes", Rows.laid_warp_ops_codes), ("warp/verify.effects", Rows.laid_warp_verify_effects)]
theorem of_laid {W:World}(h:laidMetH prog G4 W):GC [old W]∧GE [old W]:=by
 rw [MakeChecks.laidMetH_plain _ _ _ (by kernel_rfl)] at h
 obtain ⟨ps,⟨g0,t0,cs0,f0,p0,q0,hg0,ht0,hv0,hd0,⟨g1,t1,cs1,f1,p1,q1,hg1,ht1,hv1,hd1,_,_⟩,_⟩,_,_⟩:=h
 obtain rfl:=Option.some.inj (gCod.symm.trans hg0)
 obtain rfl:=Option.some.inj (gEff.symm.trans hg1)
 obtain rfl:=Option.some.inj (tCod.symm.trans ht0)
 obtain rfl:=Option.some.inj (tEff.symm.trans ht1)
 have e0:=tab_cd hd0
 have e1:=tab_ef hd1
 refine ⟨⟨codL,Zzc,SeesW.sees (fun i u hu=>⟨_,_,rfl,?_⟩) []⟩,SeesW.sees (fun i u hu=>⟨_,_,rfl,?_⟩) []⟩
 · rw [Nat.zero_add,World.var?_cell hg0 hv0 i,←hu,←e0];simp
 rw [Nat.zero_add,World.var?_cell hg1 hv1 i,←hu,←e1];simp
theorem door_met (os:Os)(args:Array Value):laidMetH prog G4 ((World.doorLaid prog 400 os).forCall (fun _ _=>0) ⟨#[],args, []⟩).memory:=
 laidMetH_of_parts3 (fuel:=8) (laidMet_of_run' 8 (by kernel_rfl) (by kernel_rfl)) (by kernel_rfl) (by kernel_rfl)
end Go.Proofs.YtgonllbkcgaliaaGreatDoor
namespace Go.Proofs.YtgonllbkcgaliaaGreatDoor
open Go Go.RowKit Wx Go.Proofs.Tryz
theorem ints_okQ {q:List HP}{x:SlV (Sh.T (.int .i64))}(h:(Sh.slice (.int .i64)).okQ q x):Sees q x.a (x.l.map I64)∧x.l.length≤9223372036854775807:=by
 have e:x.l.map I64=x.l.flatMap (Sh.cells (.int .i64)):=(Ih .i64 x.l).symm
 exact ⟨by rw [e];exact h.2.2.2.1,Nat.le_trans h.1 (Nat.le_trans h.2.1 (by decide))⟩
end Go.Proofs.YtgonllbkcgaliaaGreatDoor
namespace Go.Proofs.YtgonllbkcgaliaaGreatDoor
open Go Go.RowKit Wx Go.Proofs.Tryz
attribute [local irreducible] Wx.lsH Wx.rsH Wx.stars
def Zt:Ins:=⟨0,0,0,0⟩
def jm (i:Ins):Bool:=decide (19≤i.c∧i.c≤21)
def led (l:List Ins):Nat→Nat→Option Nat
 |0,_=>none
 |k+1,a=>if (l.getD a Zt).c=19 then led l k (l.getD a Zt).a.toNat else some a
def leadS (l:List Ins)(a:Nat):Nat:=(led l (l.length+1) a).getD a
def Jn (l:List Ins):List Int:=(List.range l.length).map fun i=>(leadS l i:Int)
def Ins.mv (f:Nat→Nat)(i:Ins):Ins:=if jm i=true then { i with a:=(f i.a.toNat:Int) } else i
def Zy (l:List Ins):List Ins:=l.map (Ins.mv (leadS l))
def kb (R:Nat→Bool):Nat→Nat
 |0=>0
 |k+1=>kb R k+(if R k=true then 0 else 1)
def Z1 {α:Type}(R:Nat→Bool):Nat→List α→List α
 |_, []=> []
 |k,x::r=>if R k=true then Z1 R (k+1) r else x::Z1 R (k+1) r
def Wb (R:Nat→Bool)(l:List Ins):List Ins:=(Z1 R 0 l).map (Ins.mv (kb R))
def H2 (R S:Nat→Bool):Nat→Bool:=fun j=>R j||S (kb R j)
theorem If (R:Nat→Bool)(k:Nat):kb R k≤kb R (k+1):=by simp only [kb];omega
theorem D7 (R:Nat→Bool){a b:Nat}(h:a≤b):kb R a≤kb R b:=by
 induction b with
 |zero=>rw [show a=0 by omega];exact Nat.le_refl _
 |succ b ih=>
  rcases Nat.lt_or_ge a (b+1) with h1|h1
  · exact Nat.le_trans (ih (by omega)) (If R b)
  rw [show a=b+1 by omega];exact Nat.le_refl _
theorem P7 (R:Nat→Bool)(k:Nat):kb R k≤k:=by
 induction k with
 |zero=>exact Nat.le_refl _
 |succ k ih=>simp only [kb];split<;>omega
theorem Qb {R:Nat→Bool}{k:Nat}(h:R k=false):kb R (k+1)=kb R k+1:=by simp [kb,h]
theorem Q2 {R:Nat→Bool}{k:Nat}(h:R k=true):kb R (k+1)=kb R k:=by simp [kb,h]
theorem Tm {R:Nat→Bool}{a b:Nat}(h:R a=false)(hab:a<b):kb R a<kb R b:=by
 have:=Qb h;have:=D7 R (show a+1≤b by omega);omega
theorem kb_all {R:Nat→Bool}{a b:Nat}(hab:a≤b)(h: ∀ j,a≤j→j<b→R j=true):kb R a=kb R b:=by
 induction b with
 |zero=>rw [show a=0 by omega]
 |succ b ih=>
  rcases Nat.lt_or_ge a (b+1) with h1|h1
  · rw [Q2 (h b (by omega) (by omega)),ih (by omega) fun j h2 h3=>h j h2 (by omega)]
  rw [show a=b+1 by omega]
theorem kb_two (R S:Nat→Bool)(k:Nat):kb S (kb R k)=kb (H2 R S) k:=by
 induction k with
 |zero=>rfl
 |succ k ih=>
  cases hr:R k with
  |true=>rw [Q2 hr,ih,Q2 (by simp [H2,hr])]
  |false=>
   rw [Qb hr]
   cases hs:S (kb R k) with
   |true=>rw [Q2 hs,ih,Q2 (by simp [H2,hs])]
   |false=>rw [Qb hs,ih,Qb (by simp [H2,hr,hs])]
theorem cutS_congr {α:Type}{R S:Nat→Bool}: ∀ (l:List α) (k:Nat),(∀ j,k≤j→j<k+l.length→R j=S j)→Z1 R k l=Z1 S k l
 | [],_,_=>rfl
 |x::r,k,h=>by
  have h1:=h k (Nat.le_refl _) (by simp)
  have h2:=cutS_congr r (k+1) fun j a b=>h j (by omega) (by simp;omega)
  simp only [Z1,h1,h2]
theorem Lh {α β:Type}(R:Nat→Bool)(f:α→β): ∀ (l:List α) (k:Nat),(Z1 R k l).map f=Z1 R k (l.map f)
 | [],_=>rfl
 |x::r,k=>by simp only [Z1,List.map_cons];split<;>simp [Lh R f r (k+1)]
theorem Fr {α:Type}(R S:Nat→Bool): ∀ (l:List α) (k:Nat),Z1 S (kb R k) (Z1 R k l)=Z1 (H2 R S) k l
 | [],_=>rfl
 |x::r,k=>by
  have ih:=Fr R S r (k+1)
  cases hr:R k with
  |true=>rw [Q2 hr] at ih;simp [Z1,hr,H2];exact ih
  |false=>
   rw [Qb hr] at ih
   cases hs:S (kb R k) with
   |true=>simp [Z1,hr,hs,H2];exact ih
   |false=>simp [Z1,hr,hs,H2];exact ih
theorem Lm {α:Type}(R:Nat→Bool): ∀ (l:List α) (k:Nat),(Z1 R k l).length+kb R k=kb R (k+l.length)
 | [],k=>by simp [Z1]
 |x::r,k=>by
  have ih:=Lm R r (k+1)
  rw [List.length_cons,show k+(r.length+1)=k+1+r.length by omega]
  cases hr:R k with
  |true=>rw [Q2 hr] at ih;simp only [Z1,hr,if_true];exact ih
  |false=>rw [Qb hr] at ih;simp only [Z1,hr,if_false,List.length_cons,Bool.false_eq_true];omega
theorem Tj {α:Type}(R:Nat→Bool)(l:List α):(Z1 R 0 l).length=kb R l.length:=by have:=Lm R l 0;simpa [kb] using this
theorem Lp {α:Type}(R:Nat→Bool): ∀ (l m:List α) (k:Nat),Z1 R k (l++m)=Z1 R k l++Z1 R (k+l.length) m
 | [],m,k=>by simp [Z1]
 |x::r,m,k=>by
  have ih:=Lp R r m (k+1)
  rw [List.length_cons,show k+(r.length+1)=k+1+r.length by omega]
  simp only [Z1,List.cons_append]
  split<;>simp [ih]
theorem Xp {α:Type}(R:Nat→Bool): ∀ (l:List α) (k p:Nat),p<l.length→R (k+p)=false→(Z1 R k l)[kb R (k+p) - kb R k]? =l[p]?
 | [],_,p,h,_=>by simp at h
 |x::r,k,0,_,hr=>by simp at hr;simp [Z1,hr]
 |x::r,k,p+1,h,hr=>by
  rw [show k+(p+1)=k+1+p by omega] at hr⊢
  have ih:=Xp R r (k+1) p (by simpa using h) hr
  have hm:=D7 R (show k+1≤k+1+p by omega)
  cases hk:R k with
  |true=>rw [Q2 hk] at ih;simp [Z1,hk];exact ih
  |false=>
   rw [Qb hk] at ih hm
   have e:kb R (k+1+p) - kb R k=(kb R (k+1+p) - (kb R k+1))+1:=by omega
   simp only [Z1,hk,e,Bool.false_eq_true,if_false,List.getElem?_cons_succ];exact ih
theorem Ln {α:Type}{R:Nat→Bool}{l:List α}{p:Nat}(h:p<l.length)(hr:R p=false):(Z1 R 0 l)[kb R p]? =l[p]? :=by
 have:=Xp R l 0 p h (by simpa using hr);simpa [kb] using this
theorem De {R:Nat→Bool}{n k:Nat}(h:k<kb R n): ∃ p,p<n∧R p=false∧kb R p=k:=by
 induction n with
 |zero=>simp [kb] at h
 |succ n ih=>
  rcases Nat.lt_or_ge k (kb R n) with h1|h1
  · obtain ⟨p,a,b,c⟩:=ih h1;exact ⟨p,by omega,b,c⟩
  cases hr:R n with
  |true=>rw [Q2 hr] at h;omega
  |false=>rw [Qb hr] at h;exact ⟨n,by omega,hr,by omega⟩
theorem mv_jm (f:Nat→Nat)(i:Ins):jm (i.mv f)=jm i:=by unfold Ins.mv;split<;>rfl
theorem Rw (f:Nat→Nat)(i:Ins):(i.mv f).c=i.c:=by unfold Ins.mv;split<;>rfl
theorem mv_two (f g:Nat→Nat)(i:Ins):(i.mv f).mv g=i.mv fun a=>g (f a):=by
 unfold Ins.mv
 by_cases h:jm i=true
 · have:jm { i with a:=(f i.a.toNat:Int) } =true:=h
   simp [h,this]
 simp [h]
theorem mv_congr {f g:Nat→Nat}{i:Ins}(h:jm i=true→f i.a.toNat=g i.a.toNat):i.mv f=i.mv g:=by
 unfold Ins.mv
 split
 · rename_i e;rw [h e]
 rfl
theorem Zqb (R S:Nat→Bool)(l:List Ins):Wb S (Wb R l)=Wb (H2 R S) l:=by
 unfold Wb
 have h:=Fr R S l 0
 rw [show kb R 0=0 from rfl] at h
 rw [←Lh,List.map_map,h]
 apply List.map_congr_left
 intro i _
 rw [Function.comp_apply,mv_two]
 exact mv_congr fun _=>kb_two R S _
theorem N0 (R:Nat→Bool)(l:List Ins):(Wb R l).length=kb R l.length:=by unfold Wb;rw [List.length_map,Tj]
theorem En {R:Nat→Bool}{l:List Ins}{p:Nat}(h:p<l.length)(hr:R p=false):(Wb R l).getD (kb R p) Zt=(l.getD p Zt).mv (kb R):=by
 unfold Wb
 rw [List.getD_eq_getElem?_getD,List.getElem?_map,Ln h hr,List.getD_eq_getElem?_getD]
 simp [h]
theorem Yq (l:List Ins):(Zy l).length=l.length:=by simp [Zy]
theorem Zr {α:Type}{l:List α}{i:Nat}{z:α}(h:i<l.length):l.getD i z=l[i]:=by simp [List.getD_eq_getElem?_getD,h]
theorem V7 (l:List Ins){p:Nat}(h:p<l.length):(Zy l).getD p Zt=(l.getD p Zt).mv (leadS l):=by
 rw [Zr (by simpa [Zy] using h),Zr h];simp [Zy]
theorem Ha {l:List Ins}{j:Nat}: ∀ {k a m:Nat},led l k a=some j→k≤m→led l m a=some j
 |0,_,_,h,_=>by simp [led] at h
 |k+1,a,m,h,hm=>by
  obtain ⟨m,rfl⟩: ∃ x,m=x+1:=⟨m - 1,by omega⟩
  simp only [led] at h⊢
  split
  · rename_i e;rw [if_pos e] at h;exact Ha h (by omega)
  rename_i e;rw [if_neg e] at h;exact h
def Hk (l:List Ins)(a:Nat):Prop:= ∀ k,led l k a=none
theorem V8 {l:List Ins}{a:Nat}(h:(l.getD a Zt).c=19)(k:Nat):led l (k+1) a=led l k (l.getD a Zt).a.toNat:=if_pos h
theorem G3 {l:List Ins}{a k:Nat}(hk:1≤k)(h: ∀ m,led l (k+m) a=led l m a):Hk l a:=by
 have h1: ∀ t,led l (t*k) a=none:=by
  intro t
  induction t with
  |zero=>simp [led]
  |succ t ih=>rw [Nat.add_mul,Nat.one_mul,Nat.add_comm,h];exact ih
 intro n
 cases e:led l n a with
 |none=>rfl
 |some j=>have:=Ha e (Nat.le_mul_of_pos_right n hk);rw [h1] at this;cases this
theorem Qi {l:List Ins}{a:Nat}(h:(l.getD a Zt).c=19):Hk l a↔Hk l (l.getD a Zt).a.toNat:=by
 constructor
 · intro h1 k;rw [←V8 h];exact h1 _
 intro h1 k
 cases k with
 |zero=>rfl
 |succ k=>rw [V8 h];exact h1 k
theorem Fz {l:List Ins}{a:Nat}(h:Hk l a):(l.getD a Zt).c=19:=by
 have:=h 1
 simp only [led] at this
 split at this
 · rename_i e;exact e
 cases this
theorem Do {l:List Ins}{j:Nat}: ∀ {k a:Nat},led l k a=some j→(l.getD j Zt).c≠19
 |0,_,h=>by simp [led] at h
 |k+1,a,h=>by
  simp only [led] at h
  split at h
  · exact Do h
  rename_i e;cases h;exact e
theorem led_lt {l:List Ins}(hb: ∀ i∈l,i.c=19→i.a.toNat<l.length){j:Nat}: ∀ {k a:Nat},a<l.length→led l k a=some j→j<l.length
 |0,_,_,h=>by simp [led] at h
 |k+1,a,ha,h=>by
  simp only [led] at h
  split at h
  · rename_i e
    rw [Zr ha] at e h
    exact led_lt hb (hb _ (List.getElem_mem ha) e) h
  cases h;exact ha
def stl (so:List Int):Nat:=so.countP (fun x=>decide (0≤x))
structure LI (l:List Ins) (so:List Int):Prop where
 len:so.length=l.length
 low: ∀ i,i<so.length→ -2≤so.getD i 0
 hi: ∀ i,i<so.length→0≤so.getD i 0→led l (stl so) i=some (so.getD i 0).toNat
 neg: ∀ i,i<so.length→so.getD i 0= -1→(l.getD i Zt).c=19
def Eg (l:List Ins)(i a:Nat):Prop:= ∃ k,1≤k∧ ∀ m,led l (k+m) i=led l m a
def LD (l:List Ins)(so so':List Int)(a:Nat)(r:Int):Prop:=
 LI l so'∧(∀ i,i<so.length→so.getD i 0≠ -2→so'.getD i 0=so.getD i 0)∧(∀ i,i<so.length→so'.getD i 0= -1→so.getD i 0= -1∨Hk l i)∧so'.getD a 0=r∧ -1≤r∧(r= -1→Hk l a)
theorem Vc {so:List Int}{i j:Nat}{v:Int}(h:i<so.length):(so.set i v).getD j 0=if j=i then v else so.getD j 0:=by
 simp only [List.getD_eq_getElem?_getD,List.getElem?_set]
 by_cases e:j=i
 · subst e;simp [h]
 have e': ¬i=j:=fun x=>e x.symm
 simp [e,e']
theorem Cm {so:List Int}{i:Nat}{v:Int}(h:i<so.length)(h1:so.getD i 0<0):stl (so.set i v)=stl so+(if 0≤v then 1 else 0):=by
 unfold stl
 induction so generalizing i with
 |nil=>simp at h
 |cons x r ih=>
  cases i with
  |zero=>
   simp only [List.getD_cons_zero] at h1
   have hx:decide (0≤x)=false:=decide_eq_false (by omega)
   by_cases hv:0≤v
   · rw [List.set_cons_zero,List.countP_cons,List.countP_cons];simp [hx,hv]
   rw [List.set_cons_zero,List.countP_cons,List.countP_cons];simp [hx,hv]
  |succ i=>
   simp only [List.getD_cons_succ] at h1
   have:=ih (by simpa using h) h1
   rw [List.set_cons_succ,List.countP_cons,List.countP_cons,this];omega
theorem stl_le (so:List Int):stl so≤so.length:=List.countP_le_length
theorem LD.plain {l:List Ins}{so:List Int}{a:Nat}(h:LI l so)(ha:a<so.length)(hc:(l.getD a Zt).c≠19):LD l so (so.set a (a:Int)) a a:=by
 have hn:so.getD a 0= -2∨so.getD a 0=(a:Int):=by
  have h1:=h.low a ha
  rcases Int.lt_or_le (so.getD a 0) 0 with h2|h2
  · have h3:so.getD a 0≠ -1:=fun e=>hc (h.neg a ha e)
    left;omega
  right
  have h3:=h.hi a ha h2
  cases hk:stl so with
  |zero=>rw [hk] at h3;cases h3
  |succ k=>
   rw [hk] at h3
   have h4:led l (k+1) a=some a:=if_neg hc
   rw [h4] at h3
   have:=Option.some.inj h3;omega
 rcases hn with hn|hn
 · have e:=fun j=>Vc (so:=so) (i:=a) (j:=j) (v:=(a:Int)) ha
   have hs:=Cm (so:=so) (i:=a) (v:=(a:Int)) ha (by omega)
   rw [if_pos (by omega)] at hs
   refine ⟨⟨by rw [List.length_set];exact h.len,fun i hi=> ?_,fun i hi h0=> ?_,fun i hi h0=> ?_⟩,fun i hi h1=> ?_,fun i hi h1=> ?_,by rw [e,if_pos rfl],by omega,by omega⟩
   · rw [List.length_set] at hi;rw [e];split;omega;exact h.low i hi
   · rw [List.length_set] at hi
     rw [e] at h0⊢
     split
     · rename_i e1;subst e1;rw [hs,Int.toNat_natCast];exact if_neg hc
     rename_i e1;rw [if_neg e1] at h0;exact Ha (h.hi i hi h0) (by omega)
   · rw [List.length_set] at hi;rw [e] at h0;split at h0;omega;exact h.neg i hi h0
   · rw [e,if_neg];rintro rfl;exact h1 hn
   rw [e] at h1;split at h1
   · omega
   exact .inl h1
 have e:so.set a (a:Int)=so:=by
  rw [←hn,Zr ha];simp
 rw [e]
 exact ⟨h,fun _ _ _=>rfl,fun i _ h1=> .inl h1,hn,by omega,by omega⟩
theorem LD.known {l:List Ins}{so:List Int}{a:Nat}(h:LI l so)(hw: ∀ i,i<so.length→so.getD i 0= -1→Hk l i∨Eg l i a)(ha:a<so.length)(hn:so.getD a 0≠ -2):LD l so so a (so.getD a 0):=by
 refine ⟨h,fun _ _ _=>rfl,fun i _ h1=> .inl h1,rfl,?_,fun h1=> ?_⟩
 · have:=h.low a ha;omega
 rcases hw a ha h1 with h2|⟨k,hk,h2⟩
 · exact h2
 exact G3 hk h2
theorem LD.start {l:List Ins}{so:List Int}{a:Nat}(h:LI l so)(hw: ∀ i,i<so.length→so.getD i 0= -1→Hk l i∨Eg l i a)(ha:a<so.length)(hc:(l.getD a Zt).c=19)(hn:so.getD a 0= -2):
 LI l (so.set a (-1))∧ ∀ i,i<(so.set a (-1)).length→(so.set a (-1)).getD i 0= -1→Hk l i∨Eg l i (l.getD a Zt).a.toNat:=by
 have e:=fun j=>Vc (so:=so) (i:=a) (j:=j) (v:= -1) ha
 have hs:=Cm (so:=so) (i:=a) (v:= -1) ha (by omega)
 rw [if_neg (by omega)] at hs
 refine ⟨⟨by rw [List.length_set];exact h.len,fun i hi=> ?_,fun i hi h0=> ?_,fun i hi h0=> ?_⟩,fun i hi h1=> ?_⟩
 · rw [List.length_set] at hi;rw [e];split;omega;exact h.low i hi
 · rw [List.length_set] at hi
   rw [e] at h0⊢
   split
   · rename_i e1;rw [if_pos e1] at h0;omega
   rename_i e1;rw [if_neg e1] at h0;rw [hs];exact h.hi i hi h0
 · rw [List.length_set] at hi
   rw [e] at h0
   split at h0
   · rename_i e1;rw [e1];exact hc
   exact h.neg i hi h0
 rw [List.length_set] at hi
 rw [e] at h1
 split at h1
 · rename_i e1;subst e1;exact .inr ⟨1,Nat.le_refl _,fun m=>by rw [Nat.add_comm];exact V8 hc m⟩
 rcases hw i hi h1 with h2|⟨k,hk,h2⟩
 · exact .inl h2
 exact .inr ⟨k+1,by omega,fun m=>by rw [Nat.add_assoc,h2,Nat.add_comm 1 m];exact V8 hc m⟩
theorem LD.stop {l:List Ins}{so so2:List Int}{a:Nat}{r:Int}(h0:LI l so)(ha:a<so.length)(hc:(l.getD a Zt).c=19)(hn:so.getD a 0= -2)
 (h:LD l (so.set a (-1)) so2 (l.getD a Zt).a.toNat r) (hl:(l.getD a Zt).a.toNat<so.length):LD l so (so2.set a r) a r:=by
 obtain ⟨h1,h2,h3,h4,h5,h6⟩:=h
 have e:=fun j=>Vc (so:=so) (i:=a) (j:=j) (v:= -1) ha
 have hl2:so2.length=so.length:=by rw [h1.len,h0.len]
 have hal:a<so2.length:=by omega
 have e2:=fun j=>Vc (so:=so2) (i:=a) (j:=j) (v:=r) hal
 have ha2:so2.getD a 0= -1:=by rw [h2 a (by rw [List.length_set];exact ha) (by rw [e,if_pos rfl];omega),e,if_pos rfl]
 have hs:=Cm (so:=so2) (i:=a) (v:=r) hal (by omega)
 refine ⟨⟨by rw [List.length_set];exact h1.len,fun i hi=> ?_,fun i hi hz=> ?_,fun i hi hz=> ?_⟩,fun i hi hz=> ?_,fun i hi hz=> ?_,by rw [e2,if_pos rfl],h5,fun hz=>(Qi hc).2 (h6 hz)⟩
 · rw [List.length_set] at hi;rw [e2];split;omega;exact h1.low i hi
 · rw [List.length_set] at hi
   rw [e2] at hz⊢
   split
   · rename_i e1;rw [if_pos e1] at hz;subst e1
     rw [hs,if_pos hz,V8 hc]
     have:=h1.hi (l.getD i Zt).a.toNat (by omega) (by rw [h4];exact hz)
     rw [h4] at this;exact this
   rename_i e1;rw [if_neg e1] at hz;exact Ha (h1.hi i hi hz) (by omega)
 · rw [List.length_set] at hi
   rw [e2] at hz
   split at hz
   · rename_i e1;rw [e1];exact hc
   exact h1.neg i hi hz
 · rw [e2]
   split
   · rename_i e1;subst e1;exact absurd hn hz
   rename_i e1;rw [h2 i (by rw [List.length_set];exact hi) (by rw [e,if_neg e1];exact hz),e,if_neg e1]
 rw [e2] at hz
 split at hz
 · rename_i e1;subst e1;exact .inr ((Qi hc).2 (h6 hz))
 rename_i e1
 rcases h3 i (by rw [List.length_set];exact hi) hz with h7|h7
 · rw [e,if_neg e1] at h7;exact .inl h7
 exact .inr h7
theorem LI.init (l:List Ins):LI l (List.replicate l.length (-2)):=by
 have e: ∀ i,i<l.length→(List.replicate l.length (-2:Int)).getD i 0= -2:=fun i hi=>by simp [List.getD_eq_getElem?_getD,hi]
 refine ⟨by simp,fun i hi=> ?_,fun i hi h=> ?_,fun i hi h=> ?_⟩
 · rw [List.length_replicate] at hi;rw [e i hi];omega
 · rw [List.length_replicate] at hi;rw [e i hi] at h;omega
 rw [List.length_replicate] at hi;rw [e i hi] at h;omega
theorem LI.done {l:List Ins}{so:List Int}(h:LI l so)(h1: ∀ i,i<so.length→so.getD i 0≠ -2)(h2: ∀ i,i<so.length→so.getD i 0= -1→Hk l i){i:Nat}(hi:i<so.length):
 (if so.getD i 0= -1 then (i:Int) else so.getD i 0)=leadS l i:=by
 have hl:=stl_le so
 rw [h.len] at hl
 split
 · rename_i e;unfold leadS;rw [h2 i hi e];rfl
 rename_i e
 have h3:=h.low i hi;have h4:=h1 i hi
 have h5:0≤so.getD i 0:=by omega
 unfold leadS
 rw [Ha (h.hi i hi h5) (show stl so≤l.length+1 by omega),Option.getD_some,Int.toNat_of_nonneg h5]
theorem Po: ∀ (n:Nat) (L:List Nat),L.Nodup→(∀ x∈L,x<n)→L.length≤n
 |0,L,_,h=>by
  cases L with
  |nil=>simp
  |cons x r=>exact absurd (h x (List.mem_cons_self ..)) (by omega)
 |n+1,L,hn,h=>by
  have h1:=Po n (L.erase n) (hn.erase n) fun x hx=>by
   have h2:=h x (List.mem_of_mem_erase hx)
   have h3:x≠n:=fun e=>by subst e;exact (hn.not_mem_erase) hx
   omega
  by_cases hm:n∈L
  · have:=List.length_erase_of_mem hm;omega
  rw [List.erase_of_not_mem hm] at h1;omega
theorem P3 (l:List Ins): ∀ (k a:Nat) (V:List Nat),V.Nodup→(∀ v∈V,v<l.length∧Eg l v a)→l.length+1≤V.length+k→led l k a=none→Hk l a
 |0,a,V,h1,h2,h3,_=>by have:=Po l.length V h1 fun v hv=>(h2 v hv).1;omega
 |k+1,a,V,h1,h2,h3,h4=>by
  simp only [led] at h4
  split at h4
  · rename_i hc
    by_cases hm:a∈V
    · obtain ⟨_,t,ht,hw⟩:=h2 a hm;exact G3 ht hw
    have ha:a<l.length:=by
     rcases Nat.lt_or_ge a l.length with h|h
     · exact h
     rw [List.getD_eq_getElem?_getD,List.getElem?_eq_none h] at hc;cases hc
    refine (Qi hc).2 (P3 l k _ (a::V) (List.nodup_cons.2 ⟨hm,h1⟩) (fun v hv=> ?_) (by rw [List.length_cons];omega) h4)
    rcases List.mem_cons.1 hv with rfl|hv
    · exact ⟨ha,1,Nat.le_refl _,fun m=>by rw [Nat.add_comm];exact V8 hc m⟩
    obtain ⟨h5,t,ht,hw⟩:=h2 v hv
    exact ⟨h5,t+1,by omega,fun m=>by rw [Nat.add_assoc,hw,Nat.add_comm 1 m];exact V8 hc m⟩
  cases h4
theorem P4 {l:List Ins}{a:Nat}(h:led l (l.length+1) a=none):Hk l a:=
 P3 l (l.length+1) a [] List.nodup_nil (fun v hv=>by cases hv) (by simp) h
inductive Rch (l:List Ins):Nat→Prop
 |zero:0<l.length→Rch l 0
 |step {i:Nat} {y:Int} :Rch l i→y∈nxt (l.getD i Zt) i→0≤y→y.toNat<l.length→Rch l y.toNat
theorem Rch.lt {l:List Ins}{i:Nat}(h:Rch l i):i<l.length:=by cases h<;>assumption
def Nx (n:Nat)(o:List Bool)(ys:List Int):List Bool:=ys.foldl (fun o y=>if y<(n:Int) then o.set y.toNat true else o) o
def El (l:List Ins)(o:List Bool)(i:Nat):List Bool:=if o.getD i false=true then Nx l.length o (nxt (l.getD i Zt) i) else o
def Hc (l:List Ins)(o:List Bool)(is:List Nat):List Bool:=is.foldl (El l) o
def Jm (l:List Ins):Nat→List Bool→List Bool
 |0,o=>o
 |k+1,o=>Jm l k (Hc l o (List.range l.length))
def Fi (l:List Ins):List Bool:=Jm l l.length ((List.replicate l.length false).set 0 true)
def unr (l:List Ins)(j:Nat):Bool:= !(Fi l).getD j false
def SubB (o o':List Bool):Prop:=o'.length=o.length∧ ∀ i,o.getD i false=true→o'.getD i false=true
theorem SubB.refl (o:List Bool):SubB o o:=⟨rfl,fun _ h=>h⟩
theorem SubB.trans {a b c:List Bool}(h:SubB a b)(k:SubB b c):SubB a c:=⟨by rw [k.1,h.1],fun i e=>k.2 i (h.2 i e)⟩
theorem Ho {o:List Bool}{i j:Nat}{b:Bool}(h:i<o.length):(o.set i b).getD j false=if j=i then b else o.getD j false:=by
 simp only [List.getD_eq_getElem?_getD,List.getElem?_set]
 by_cases e:j=i
 · subst e;simp [h]
 have e': ¬i=j:=fun x=>e x.symm
 simp [e,e']
theorem SubB.cnt: ∀ {o o':List Bool},SubB o o'→o.countP id≤o'.countP id∧(o.countP id=o'.countP id→o'=o)
 | [], [],_=>⟨Nat.le_refl _,fun _=>rfl⟩
 | [],_::_,h=>by cases h.1
 |_::_, [],h=>by cases h.1
 |x::r,y::s,h=>by
  have h1:SubB r s:=⟨by simpa using h.1,fun i e=>by simpa using h.2 (i+1) (by simpa using e)⟩
  obtain ⟨k1,k2⟩:=SubB.cnt h1
  have h2:=h.2 0
  simp only [List.getD_cons_zero] at h2
  rw [List.countP_cons,List.countP_cons]
  cases x<;>cases y
  · exact ⟨by simpa using k1,fun e=>by rw [k2 (by simpa using e)]⟩
  · exact ⟨by simp;omega,fun e=>by simp at e;omega⟩
  · cases h2 rfl
  exact ⟨by simpa using k1,fun e=>by rw [k2 (by simpa using e)]⟩
theorem Fq {n:Nat}: ∀ {ys:List Int} {o:List Bool},o.length=n→(∀ y∈ys,0≤y)→SubB o (Nx n o ys)∧(∀ y∈ys,y<(n:Int)→(Nx n o ys).getD y.toNat false=true)∧ ∀ j,(Nx n o ys).getD j false=true→o.getD j false=true∨ ∃ y∈ys,y.toNat=j∧y<(n:Int)
 | [],o,_,_=>⟨.refl o,by simp,fun j h=> .inl h⟩
 |y::r,o,ho,h0=>by
  have hy:=h0 y (List.mem_cons_self ..)
  have hr:=fun x hx=>h0 x (List.mem_cons_of_mem _ hx)
  show SubB o (Nx n (if y<(n:Int) then o.set y.toNat true else o) r)∧_
  by_cases e:y<(n:Int)
  · have hl:y.toNat<o.length:=by omega
    have g:=fun j=>Ho (o:=o) (i:=y.toNat) (j:=j) (b:=true) hl
    have hs:SubB o (o.set y.toNat true):=⟨by simp,fun i hi=>by rw [g];split<;>first|rfl|exact hi⟩
    obtain ⟨a,b,c⟩:=Fq (n:=n) (ys:=r) (o:=o.set y.toNat true) (by simpa using ho) hr
    have em:Nx n o (y::r)=Nx n (o.set y.toNat true) r:=by simp [Nx,e]
    rw [if_pos e,em]
    refine ⟨hs.trans a,fun x hx hxn=> ?_,fun j hj=> ?_⟩
    · rcases List.mem_cons.1 hx with rfl|hx
      · exact a.2 _ (by rw [g,if_pos rfl])
      exact b x hx hxn
    rcases c j hj with h1|⟨x,hx,h1⟩
    · rw [g] at h1
      split at h1
      · rename_i e1;exact .inr ⟨y,List.mem_cons_self ..,e1.symm,e⟩
      exact .inl h1
    exact .inr ⟨x,List.mem_cons_of_mem _ hx,h1⟩
  obtain ⟨a,b,c⟩:=Fq (n:=n) (ys:=r) (o:=o) ho hr
  have em:Nx n o (y::r)=Nx n o r:=by simp [Nx,e]
  rw [if_neg e,em]
  refine ⟨a,fun x hx hxn=> ?_,fun j hj=> ?_⟩
  · rcases List.mem_cons.1 hx with rfl|hx
    · exact absurd hxn e
    exact b x hx hxn
  rcases c j hj with h1|⟨x,hx,h1⟩
  · exact .inl h1
  exact .inr ⟨x,List.mem_cons_of_mem _ hx,h1⟩
theorem nxt_nn {x:Ins}(h:0≤x.a)(a:Nat): ∀ y∈nxt x (a:Int),0≤y:=by
 intro y hy
 unfold nxt at hy
 split at hy
 · cases hy
 split at hy
 · rw [List.mem_singleton.1 hy];exact h
 split at hy
 · split at hy
   · rw [List.mem_singleton.1 hy];exact h
   rcases List.mem_cons.1 hy with rfl|hy
   · exact h
   rw [List.mem_singleton.1 hy];omega
 rw [List.mem_singleton.1 hy];omega
theorem Oc {l:List Ins}(hb: ∀ i∈l,0≤i.a)(p:Nat):0≤(l.getD p Zt).a:=by
 rcases Nat.lt_or_ge p l.length with h|h
 · rw [Zr h];exact hb _ (List.getElem_mem h)
 rw [List.getD_eq_getElem?_getD,List.getElem?_eq_none h];decide
section
variable {l:List Ins}
theorem pass1_ok (hb: ∀ i∈l,0≤i.a){o:List Bool}(ho:o.length=l.length)(i:Nat):SubB o (El l o i)∧(o.getD i false=true→ ∀ y∈nxt (l.getD i Zt) i,y<(l.length:Int)→(El l o i).getD y.toNat false=true)∧((∀ j,o.getD j false=true→Rch l j)→ ∀ j,(El l o i).getD j false=true→Rch l j):=by
 unfold El
 split
 · rename_i h
   have hn:=nxt_nn (Oc hb i) i
   obtain ⟨a,b,c⟩:=Fq (n:=l.length) (o:=o) ho hn
   refine ⟨a,fun _=>b,fun hR j hj=> ?_⟩
   rcases c j hj with h1|⟨y,hy,h1,h2⟩
   · exact hR j h1
   subst h1;exact .step (hR i h) hy (hn y hy) (by have:=hn y hy;omega)
 rename_i h
 exact ⟨.refl o,fun e=>absurd e h,fun hR=>hR⟩
theorem Ei (hb: ∀ i∈l,0≤i.a): ∀ {is:List Nat} {o:List Bool},o.length=l.length→SubB o (Hc l o is)∧(∀ i∈is,o.getD i false=true→ ∀ y∈nxt (l.getD i Zt) i,y<(l.length:Int)→(Hc l o is).getD y.toNat false=true)∧((∀ j,o.getD j false=true→Rch l j)→ ∀ j,(Hc l o is).getD j false=true→Rch l j)
 | [],o,_=>⟨.refl o,by simp,fun hR=>hR⟩
 |i::r,o,ho=>by
  obtain ⟨a,b,c⟩:=pass1_ok hb ho i
  obtain ⟨a2,b2,c2⟩:=Ei hb (is:=r) (o:=El l o i) (by rw [a.1];exact ho)
  have em:Hc l o (i::r)=Hc l (El l o i) r:=rfl
  rw [em]
  refine ⟨a.trans a2,fun x hx hox y hy hyl=> ?_,fun hR=>c2 (c hR)⟩
  rcases List.mem_cons.1 hx with rfl|hx
  · exact a2.2 _ (b hox y hy hyl)
  exact b2 x hx (a.2 _ hox) y hy hyl
theorem Em {o:List Bool}(h:Hc l o (List.range l.length)=o): ∀ k,Jm l k o=o
 |0=>rfl
 |k+1=>by rw [Jm,h];exact Em h k
theorem R4 (hb: ∀ i∈l,0≤i.a): ∀ (k:Nat) {o:List Bool},o.length=l.length→SubB o (Jm l k o)∧((∀ j,o.getD j false=true→Rch l j)→ ∀ j,(Jm l k o).getD j false=true→Rch l j)∧(Hc l (Jm l k o) (List.range l.length)=Jm l k o∨o.countP id+k≤(Jm l k o).countP id)
 |0,o,_=>⟨.refl o,fun h=>h,.inr (Nat.le_refl _)⟩
 |k+1,o,ho=>by
  obtain ⟨a,_,c⟩:=Ei hb (is:=List.range l.length) ho
  obtain ⟨a2,b2,c2⟩:=R4 hb k (o:=Hc l o (List.range l.length)) (by rw [a.1];exact ho)
  refine ⟨a.trans a2,fun hR=>b2 (c hR),?_⟩
  by_cases e:Hc l o (List.range l.length)=o
  · left
    have:Jm l (k+1) o=o:=Em e (k+1)
    rw [this];exact e
  rcases c2 with h|h
  · exact .inl h
  right
  obtain ⟨k1,k2⟩:=a.cnt
  have:o.countP id≠(Hc l o (List.range l.length)).countP id:=fun h2=>e (k2 h2)
  show o.countP id+(k+1)≤(Jm l k (Hc l o (List.range l.length))).countP id
  omega
theorem G7 (hb: ∀ i∈l,0≤i.a):(Fi l).length=l.length:=by
 have:=(R4 hb l.length (o:=(List.replicate l.length false).set 0 true) (by simp)).1.1
 simpa [Fi] using this
theorem Zzp (hb: ∀ i∈l,0≤i.a)(j:Nat):(Fi l).getD j false=true↔Rch l j:=by
 obtain ⟨a,b,c⟩:=R4 hb l.length (o:=(List.replicate l.length false).set 0 true) (by simp)
 have ef: ∀ j,(List.replicate l.length false).getD j false=false:=fun j=>by rw [List.getD_eq_getElem?_getD,List.getElem?_replicate];split<;>rfl
 rcases Nat.eq_zero_or_pos l.length with h0|h0
 · constructor
   · intro h
     have:(Fi l).length=0:=by rw [G7 hb,h0]
     rw [List.eq_nil_of_length_eq_zero this] at h;simp at h
   intro h;have:=h.lt;omega
 have g:=fun j=>Ho (o:=List.replicate l.length false) (i:=0) (j:=j) (b:=true) (by simpa using h0)
 have hc1:1≤((List.replicate l.length false).set 0 true).countP id:=by
  rw [List.one_le_countP_iff]
  exact ⟨true,List.mem_iff_getElem.2 ⟨0,by simpa using h0,by simp⟩,rfl⟩
 constructor
 · refine b (fun j h=> ?_) j
   rw [g] at h
   split at h
   · rename_i e;subst e;exact .zero h0
   rw [ef] at h;cases h
 intro h
 have hfix:Hc l (Fi l) (List.range l.length)=Fi l:=by
  rcases c with h1|h1
  · exact h1
  have:=List.countP_le_length (p:=id) (l:=Jm l l.length ((List.replicate l.length false).set 0 true))
  rw [a.1] at this;simp only [List.length_set,List.length_replicate] at this
  omega
 have hp:=(Ei hb (is:=List.range l.length) (G7 hb)).2.1
 rw [hfix] at hp
 induction h with
 |zero h=>exact a.2 0 (by rw [g,if_pos rfl])
 |step hR hy h1 h2 ih=>exact hp _ (by simpa using hR.lt) ih _ hy (by omega)
theorem Na (hb: ∀ i∈l,0≤i.a)(j:Nat):unr l j=false↔Rch l j:=by
 rw [←Zzp hb,unr];simp
structure PI (l:List Ins) (out:List Bool) (todo:List Int):Prop where
 len:out.length=l.length
 rch: ∀ j,j<l.length→out.getD j false=false→Rch l j
 td: ∀ x∈todo,0≤x∧x.toNat<l.length∧Rch l x.toNat
 cls: ∀ j,j<l.length→out.getD j false=false→ ∀ y∈nxt (l.getD j Zt) j,out.getD y.toNat false=false∨y∈todo
 zer:out.getD 0 false=false∨(0:Int)∈todo
def Nj (i:Ins)(a:Nat):List Int:=(if jm i=true then [i.a] else [])++(if i.c≠19∧i.c≠34 then [(a:Int)+1] else [])
theorem Gl (i:Ins)(a:Nat)(y:Int):y∈Nj i a↔y∈nxt i a:=by
 unfold Nj nxt jm
 by_cases h1:i.c=34
 · simp [h1]
 by_cases h2:i.c=19
 · simp [h2]
 by_cases h3:i.c=20∨i.c=21
 · have:19≤i.c∧i.c≤21:=by omega
   simp [h1,h2,h3,this]
   by_cases h4:i.a=a+1
   · simp [h4]
   simp [h4]
 have: ¬ (19≤i.c∧i.c≤21):=by omega
 simp [h1,h2,h3,this]
theorem PI.init (h:0<l.length):PI l (List.replicate l.length true) [0]:=by
 have ef: ∀ j,j<l.length→(List.replicate l.length true).getD j false=true:=fun j hj=>by simp [List.getD_eq_getElem?_getD,hj]
 exact ⟨by simp,fun j hj e=>(by rw [ef j hj] at e;cases e),fun x hx=>(by rw [List.mem_singleton.1 hx];exact ⟨Int.le_refl _,h,.zero h⟩),fun j hj e=>(by rw [ef j hj] at e;cases e),.inr (List.mem_singleton_self _)⟩
theorem PI.skip {out:List Bool}{todo:List Int}{x:Int}(h:PI l out (todo++ [x]))(hx:out.getD x.toNat false=false):PI l out todo:=by
 obtain ⟨x0,x1,x2⟩:=h.td x (by simp)
 refine ⟨h.len,h.rch,fun y hy=>h.td y (by simp [hy]),fun j hj e y hy=> ?_,?_⟩
 · rcases h.cls j hj e y hy with k|k
   · exact .inl k
   rcases List.mem_append.1 k with k|k
   · exact .inr k
   rw [List.mem_singleton.1 k];exact .inl hx
 rcases h.zer with k|k
 · exact .inl k
 rcases List.mem_append.1 k with k|k
 · exact .inr k
 rw [←List.mem_singleton.1 k] at hx;exact .inl hx
theorem Ez (hb: ∀ i∈l,0≤i.a)(hV: ∀ j,Rch l j→ ∀ y∈nxt (l.getD j Zt) j,y<(l.length:Int)){out:List Bool}{todo:List Int}{x:Int}(h:PI l out (todo++ [x])):
 PI l (out.set x.toNat false) (todo++Nj (l.getD x.toNat Zt) x.toNat):=by
 obtain ⟨x0,x1,x2⟩:=h.td x (by simp)
 have hl:=h.len
 have g:=fun j=>Ho (o:=out) (i:=x.toNat) (j:=j) (b:=false) (by omega)
 refine ⟨by rw [List.length_set];exact h.len,fun j hj e=> ?_,fun y hy=> ?_,fun j hj e y hy=> ?_,?_⟩
 · rw [g] at e
   split at e
   · rename_i e1;rw [e1];exact x2
   exact h.rch j hj e
 · rcases List.mem_append.1 hy with k|k
   · exact h.td y (by simp [k])
   rw [Gl] at k
   have h1:=nxt_nn (Oc hb x.toNat) x.toNat y k
   have h2:=hV _ x2 y k
   exact ⟨h1,by omega,.step x2 k h1 (by omega)⟩
 · rw [g]
   by_cases e1:y.toNat=x.toNat
   · rw [if_pos e1];exact .inl rfl
   rw [if_neg e1]
   rw [g] at e
   by_cases e2:j=x.toNat
   · subst e2;right;rw [List.mem_append,Gl];exact .inr hy
   rw [if_neg e2] at e
   rcases h.cls j hj e y hy with k|k
   · exact .inl k
   rcases List.mem_append.1 k with k|k
   · right;simp [k]
   rw [List.mem_singleton.1 k] at e1;exact absurd rfl e1
 rw [g]
 by_cases e1:0=x.toNat
 · rw [if_pos e1];exact .inl rfl
 rw [if_neg e1]
 rcases h.zer with k|k
 · exact .inl k
 rcases List.mem_append.1 k with k|k
 · right;simp [k]
 rw [←List.mem_singleton.1 k] at e1;exact absurd rfl e1
theorem PI.over (hb: ∀ i∈l,0≤i.a){out:List Bool}(h:PI l out [])(j:Nat)(hj:j<l.length):out.getD j false=unr l j:=by
 have h1:out.getD j false=false↔Rch l j:=by
  refine ⟨h.rch j hj,fun hR=> ?_⟩
  clear hj
  induction hR with
  |zero _=>rcases h.zer with k|k;exact k;cases k
  |step hR hy h1 h2 ih=>
   rcases h.cls _ hR.lt ih _ hy with k|k
   · exact k
   cases k
 rw [←Na hb] at h1
 cases e1:out.getD j false<;>cases e2:unr l j<;>simp_all
end
def clo:Nat→List Ins→List Bool
 |_, []=> []
 |k,x::r=>(decide (x.c=19) && decide ((k:Int)<x.a) && ((clo (k+1) r).take (x.a.toNat - (k+1))).all id)::clo (k+1) r
def cl (l:List Ins)(j:Nat):Bool:=(clo 0 l).getD j false
theorem D9: ∀ (l:List Ins) (k:Nat),(clo k l).length=l.length
 | [],_=>rfl
 |x::r,k=>by simp [clo,D9 r (k+1)]
theorem Lr: ∀ (l:List Ins) (k p:Nat),(clo k l).drop p=clo (k+p) (l.drop p)
 |l,k,0=>by simp
 | [],k,p+1=>by simp [clo]
 |x::r,k,p+1=>by simp only [clo,List.drop_succ_cons];rw [Lr r (k+1) p];congr 1;omega
theorem Fl {l:List Ins}{k:Nat}: ∀ j,(clo k (l.drop k)).getD j false=(clo 0 l).getD (k+j) false:=by
 intro j
 have:=Lr l 0 k
 rw [Nat.zero_add] at this
 rw [←this,List.getD_eq_getElem?_getD,List.getElem?_drop,List.getD_eq_getElem?_getD]
theorem cl_iff {l:List Ins}{p:Nat}(h:p<l.length)(hA:(l.getD p Zt).a.toNat≤l.length):
 cl l p=true↔(l.getD p Zt).c=19∧(p:Int)<(l.getD p Zt).a∧ ∀ j,p<j→j<(l.getD p Zt).a.toNat→cl l j=true:=by
 have h1:cl l p=(clo p (l.drop p)).getD 0 false:=by rw [Fl];rfl
 rw [h1,List.drop_eq_getElem_cons h]
 rw [Zr h] at hA⊢
 simp only [clo,List.getD_cons_zero,Bool.and_eq_true,decide_eq_true_eq,List.all_eq_true,and_assoc]
 refine and_congr_right fun _=>and_congr_right fun h3=> ?_
 constructor
 · intro h4 j hj1 hj2
   have hm:=h4 ((clo (p+1) (l.drop (p+1))).getD (j - (p+1)) false) (by
    have hl:j - (p+1)<(clo (p+1) (l.drop (p+1))).length:=by rw [D9,List.length_drop];omega
    rw [Zr hl]
    refine List.mem_iff_getElem.2 ⟨j - (p+1),by rw [List.length_take];omega,by simp⟩)
   rw [Fl] at hm
   rw [show p+1+(j - (p+1))=j by omega] at hm
   exact hm
 intro h4 b hb
 obtain ⟨i,hi,rfl⟩:=List.getElem_of_mem hb
 rw [List.length_take,D9,List.length_drop] at hi
 have:=h4 (p+1+i) (by omega) (by omega)
 unfold cl at this
 rw [←Fl,List.getD_eq_getElem?_getD] at this
 simp only [List.getElem_take,id]
 have hl:i<(clo (p+1) (l.drop (p+1))).length:=by rw [D9,List.length_drop];omega
 rw [List.getElem?_eq_getElem hl] at this
 exact this
def LeftQ (l:List Ins)(s:Nat)(left:List Int):Prop:=left.length=l.length+1∧ ∀ j,s≤j→j≤l.length→(j:Int)≤left.getD j 0∧left.getD j 0≤l.length∧(∀ i,j≤i→i<(left.getD j 0).toNat→cl l i=true)∧((left.getD j 0).toNat<l.length→cl l (left.getD j 0).toNat=false)
theorem LeftQ.eq {l:List Ins}{s:Nat}{left:List Int}(h:LeftQ l s left){a b:Nat}(ha:s≤a)(hab:a≤b)(hb:b≤l.length):left.getD b 0=left.getD a 0↔ ∀ j,a≤j→j<b→cl l j=true:=by
 obtain ⟨a1,a2,a3,a4⟩:=h.2 a ha (by omega)
 obtain ⟨b1,b2,b3,b4⟩:=h.2 b (by omega) hb
 constructor
 · intro e j h1 h2;exact a3 j h1 (by omega)
 intro hc
 have hge:(b:Int)≤left.getD a 0:=by
  rcases Int.lt_or_le (left.getD a 0) b with h1|h1
  · exfalso
    have:=hc (left.getD a 0).toNat (by omega) (by omega)
    rw [a4 (by omega)] at this;cases this
  exact h1
 rcases Int.lt_trichotomy (left.getD a 0) (left.getD b 0) with h1|h1|h1
 · have:=b3 (left.getD a 0).toNat (by omega) (by omega)
   rw [a4 (by omega)] at this;cases this
 · exact h1.symm
 have:=a3 (left.getD b 0).toNat (by omega) (by omega)
 rw [b4 (by omega)] at this;cases this
theorem Ok (l:List Ins):LeftQ l l.length ((List.replicate (l.length+1) 0).set l.length (l.length:Int)):=by
 have g:=fun j=>Vc (so:=List.replicate (l.length+1) 0) (i:=l.length) (j:=j) (v:=(l.length:Int)) (by simp)
 refine ⟨by simp,fun j h1 h2=> ?_⟩
 obtain rfl:j=l.length:=by omega
 rw [g,if_pos rfl]
 exact ⟨Int.le_refl _,Int.le_refl _,fun i h1 h2=>by omega,fun h=>by omega⟩
theorem LeftQ.step {l:List Ins}{a:Nat}{left:List Int}(h:LeftQ l (a+1) left)(ha:a<l.length):LeftQ l a (left.set a (if cl l a=true then left.getD (a+1) 0 else (a:Int))):=by
 have hl:=h.1
 have g:=fun j v=>Vc (so:=left) (i:=a) (j:=j) (v:=v) (by omega)
 refine ⟨by rw [List.length_set];exact h.1,fun j h1 h2=> ?_⟩
 rw [g]
 by_cases e:j=a
 · rw [if_pos e];subst e
   obtain ⟨a1,a2,a3,a4⟩:=h.2 (j+1) (Nat.le_refl _) (by omega)
   split
   · rename_i hc
     exact ⟨by omega,a2,fun i h3 h4=>by rcases Nat.lt_or_ge j i with h5|h5;exact a3 i h5 h4;rw [show i=j by omega];exact hc,a4⟩
   rename_i hc
   refine ⟨Int.le_refl _,by omega,fun i h3 h4=>by omega,fun _=> ?_⟩
   rw [Int.toNat_natCast];simpa using hc
 rw [if_neg e];exact h.2 j (by omega) h2
theorem kb_one (a k:Nat):kb (fun j=>j==a) k=if a<k then k - 1 else k:=by
 induction k with
 |zero=>simp [kb]
 |succ k ih=>
  simp only [kb,ih,beq_iff_eq]
  by_cases h1:a<k
  · rw [if_pos h1,if_neg (by omega),if_pos (by omega)];omega
  by_cases h2:k=a
  · rw [if_neg h1,if_pos h2,if_pos (by omega)];omega
  rw [if_neg h1,if_neg h2,if_neg (by omega)]
theorem Uh:(prog.info? 3).map (fun i=>(i.zero,i.size,i.bytes))=some (some (.int .i64 0),1,8):=by kernel_rfl
theorem ginfo2:(prog.info? 2).map (fun i=>(i.zero,i.size,i.bytes))=some (some (.int .i64 0),1,8):=by kernel_rfl
theorem Vy:(prog.info? 48).map (fun i=>(i.zero,i.size,i.bytes))=some (some (.agg #[.int .i64 0,.int .i64 0,.int .i64 0,.int .i64 0]),4,32):=by kernel_rfl
theorem ginfo4:(prog.info? 4).map (fun i=>(i.zero,i.size,i.bytes))=some (some (.bool false),1,1):=by kernel_rfl
theorem R8 {q:List HP}{vs:List Value}{G w:World}(h:Sees q none vs)(s:St G w q):vs= []:=by
 cases vs with
 |nil=>rfl
 |cons x r=>obtain ⟨b,o,e,_⟩:=h G w s 0 x rfl;cases e
theorem Tz {α:Type}{R:Nat→Bool}{l:List α}{s:Nat}(h:s<l.length):Z1 R 0 (l.take (s+1))=Z1 R 0 (l.take s)++(if R s=true then [] else [l[s]]):=by
 rw [List.take_succ_eq_append_getElem h,Lp,List.length_take,Nat.min_eq_left (by omega),Nat.zero_add];rfl
theorem D8 {α:Type}(R:Nat→Bool)(l:List α):(Z1 R 0 l).length≤l.length:=by rw [Tj];exact P7 _ _
section
variable {G:World}{q:List HP}{a b A:Option Addr}{c d:Nat}{cd:Int}{l:List Ins}{ln:List Int}{o:List Bool}
theorem By:CallF prog G 154 [.int .i64 cd] (q) (Ret fun v q'=>v= .bool (decide (19≤cd∧cd≤21))∧q'=q):=by
 refine CallF.of func154 ntmps154 rfl (fun F cs=> ?_)
 refine xo 9 ?_;refine Zg [5,2,0] ?_
 apply Zw 3 8 5 rfl
 · intro g1 M1;have h1:=sp g1
   refine oo 3 ?_;exact Zz M1 ⟨orF g1,Zv⟩
 · intro g1 M1;have h1:=sp g1
   refine oo 3 ?_;exact Zz M1 ⟨orT g1,Zv⟩
 refine oo 1 ?_;refine Zg [9,2,0] ?_
 apply Zw 3 12 9 rfl
 · intro g1 M1;have h1:=sp g1
   refine oo 3 ?_;exact Zz M1 ⟨orF g1,Zv⟩
 · intro g1 M1;have h1:=sp g1
   refine oo 3 ?_;exact Zz M1 ⟨orT g1,Zv⟩
 refine ox 2 ?_;refine Zq (q) func154 (Zu results154 rfl) ⟨_,rfl,congrArg Value.bool (by rw [Bool.eq_iff_iff];simp;omega),rfl⟩
theorem Gh {m:List Int}(hs:Sees q a (m.map I64))(hL:m.length≤1000000):CallF prog G 35 [.slice a m.length c] (q) (Ret fun v q'=> ∃ a' c',v= .slice a' m.length c'∧q'=lsH I64 2 a' c' (m)::q):=by
 refine CallF.of func35 ntmps35 rfl (fun F cs=> ?_)
 rcases a with _|⟨a⟩
 · refine X.fact (fun w s=>R8 (hs.le leA) s) (fun hm=> ?_)
   obtain rfl:m= []:=by cases m with
    |nil=>rfl
    |cons x r=>simp [Zx] at hm
   refine xx 10 ?_;refine X.kt 4 ?_;refine X.le (q':=lsH I64 2 none 0 ([])::_) (Yc I64 2 _) ?_
   refine xx 5 ?_;refine Zq (lsH I64 2 none 0 ([])::q) func35 (Zu results35 rfl) ⟨_,rfl,none,0,rfl,rfl⟩
 refine xx 10 ?_;refine W0 4 ?_;refine xo 4 ?_;refine XO.ef (Ey I64 underlying22 ginfo2) ?_;rintro _ _ ⟨g0,rfl,rfl⟩
 refine oo 1 ?_;refine XO.ef (Ye (f:=I64) (l:= []) (m:=m) underlying22 ginfo2 rfl rfl rfl Zj (hs.le leA) (fun _=>rfl) (by simp;omega) (by simp;omega)) ?_
 rintro _ _ ⟨a2,c2,rfl,rfl⟩
 refine ox 2 ?_;refine Zq (lsH I64 2 a2 c2 (m)::q) func35 (Zu results35 rfl) ⟨_,rfl,a2,c2,rfl,rfl⟩
theorem Nf {m:List Int}(hs:Sees q a (m.map I64))(hL:m.length≤1000000):CallF prog G 36 [.slice a m.length c] (q) (Ret fun v q'=> ∃ a' c',v= .slice a' m.length c'∧q'=lsH I64 3 a' c' (m)::q):=by
 refine CallF.of func36 ntmps36 rfl (fun F cs=> ?_)
 rcases a with _|⟨a⟩
 · refine X.fact (fun w s=>R8 (hs.le leA) s) (fun hm=> ?_)
   obtain rfl:m= []:=by cases m with
    |nil=>rfl
    |cons x r=>simp [Zx] at hm
   refine xx 10 ?_;refine X.kt 4 ?_;refine X.le (q':=lsH I64 3 none 0 ([])::_) (Yc I64 3 _) ?_
   refine xx 5 ?_;refine Zq (lsH I64 3 none 0 ([])::q) func36 (Zu results36 rfl) ⟨_,rfl,none,0,rfl,rfl⟩
 refine xx 10 ?_;refine W0 4 ?_;refine xo 4 ?_;refine XO.ef (Ey I64 underlying23 Uh) ?_;rintro _ _ ⟨g0,rfl,rfl⟩
 refine oo 1 ?_;refine XO.ef (Ye (f:=I64) (l:= []) (m:=m) underlying23 Uh rfl rfl rfl Zj (hs.le leA) (fun _=>rfl) (by simp;omega) (by simp;omega)) ?_
 rintro _ _ ⟨a2,c2,rfl,rfl⟩
 refine ox 2 ?_;refine Zq (lsH I64 3 a2 c2 (m)::q) func36 (Zu results36 rfl) ⟨_,rfl,a2,c2,rfl,rfl⟩
theorem Lt {m:List Ins}(hs:Sees q a (m.flatMap Zx))(hL:m.length≤1000000):CallF prog G 60 [.slice a m.length c] (q) (Ret fun v q'=> ∃ a' c',v= .slice a' m.length c'∧q'=rsH Zx 4 48 a' c' (m)::q):=by
 refine CallF.of func60 ntmps60 rfl (fun F cs=> ?_)
 rcases a with _|⟨a⟩
 · refine X.fact (fun w s=>R8 (hs.le leA) s) (fun hm=> ?_)
   obtain rfl:m= []:=by cases m with
    |nil=>rfl
    |cons x r=>simp [Zx] at hm
   refine xx 10 ?_;refine X.kt 4 ?_;refine X.le (q':=rsH Zx 4 48 none 0 ([])::_) (Yx Zx 4 48 _) ?_
   refine xx 5 ?_;refine Zq (rsH Zx 4 48 none 0 ([])::q) func60 (Zu results60 rfl) ⟨_,rfl,none,0,rfl,rfl⟩
 refine xx 10 ?_;refine W0 4 ?_;refine xo 4 ?_;refine XO.ef (Ef.litR0 Zx underlying32 Vy) ?_;rintro _ _ ⟨g0,rfl,rfl⟩
 refine oo 1 ?_;refine XO.ef (Zo (f:=Zx) (l:= []) (m:=m) underlying32 Vy rfl rfl (fun _=>rfl) rfl rfl Zj (hs.le leA) (fun _=>rfl) (by simp;omega) (by simp;omega)) ?_
 rintro _ _ ⟨a2,c2,rfl,rfl⟩
 refine ox 2 ?_;refine Zq (rsH Zx 4 48 a2 c2 (m)::q) func60 (Zu results60 rfl) ⟨_,rfl,a2,c2,rfl,rfl⟩
set_option maxHeartbeats 1000000 in
theorem Zzh {m:List Int}(hs:Sees q a (m.map I64))(ho:Sees q b (o.map Value.bool))(hl:m.length≤o.length)(hL:m.length≤1000000):CallF prog G 192 [.slice a m.length c,.slice b o.length d] (q) (Ret fun v q'=> ∃ a' c',v= .slice a' (Z1 (fun j=>o.getD j false) 0 m).length c'∧q'=lsH I64 3 a' c' ((Z1 (fun j=>o.getD j false) 0 m))::q):=by
 refine CallF.of func192 ntmps192 rfl (fun F cs=> ?_)
 refine xx 16 ?_;refine X.at (X.loop (fun (s:Nat×Option Addr×Nat)=>s.1≤m.length) (fun s=> [(8,.slice a m.length c),(9,.int .i64 (m.length:Int)),(10,.int .i64 (s.1:Int)),(5,.slice s.2.1 (Z1 (fun j=>o.getD j false) 0 (m.take s.1)).length s.2.2),(1,.slice b o.length d),(4,.slice none 0 0)]) (fun s=>lsH I64 3 s.2.1 s.2.2 ((Z1 (fun j=>o.getD j false) 0 (m.take s.1)))::(q++F)) (fun s=>m.length - s.1) (fun s hi_ ih=> ?_) (0,none,0) (Nat.zero_le _)) Zp (Le.trans leA (Yc I64 3 _))
 try dsimp only at hi_ ih⊢
 obtain hs0:=hi_
 obtain ⟨s,a1,c1⟩:=s;dsimp only at*
 refine xx 5 ?_;refine X.part 11 rfl (fun h0=> ?_) (fun h0=> ?_)
 · replace h0:=sp h0
   have hlt:s<m.length:=by omega
   have hso:s<o.length:=by omega
   have hcl:(Z1 (fun j=>o.getD j false) 0 (m.take s)).length≤m.length:=by have:=D8 (fun j=>o.getD j false) (m.take s);rw [List.length_take] at this;omega
   refine xo 7 ?_;refine Y6 hs (by simp;omega) (fun b1 o1 e1=> ?_)
   have hs1:=hs;rw [e1] at hs1
   refine XO.know 8 (.slice (some ⟨b1,o1,none⟩) m.length c) rfl (by rw [e1]) ?_
   refine oo 1 ?_;refine ld ?_ (hc:=(Cl.e1 hs1 leA hlt rfl))
   refine oo 7 ?_;refine Y6 ho (by simp;omega) (fun b2 o2 e2=> ?_)
   have hs2:=ho;rw [e2] at hs2
   refine XO.know 15 (.slice (some ⟨b2,o2,none⟩) o.length d) rfl (by rw [e2]) ?_
   refine oo 1 ?_;refine ld ?_ (hc:=(Cl.e1 hs2 leA hso rfl))
   refine Zc (Pu.not rfl) ?_;refine ox 1 ?_;refine X.part 19 rfl (fun h1=> ?_) (fun h1=> ?_)
   · replace h1:=sp h1
     refine xo 4 ?_;refine XO.ef (R3 I64 underlying23 Uh rfl rfl) ?_;rintro _ _ ⟨g0,rfl,rfl⟩
     refine XO.ef (Ye (f:=I64) (l:=(Z1 (fun j=>o.getD j false) 0 (m.take s))) (m:= [m[s]]) underlying23 Uh rfl rfl rfl Zj ((Sees.lsH _).le Zj) (fun _=>rfl) (by simp only [List.length_cons,List.length_nil];omega) (by simp only [List.length_cons,List.length_nil];omega)) ?_
     rintro _ _ ⟨a2,c2,rfl,rfl⟩
     refine ox 7 ?_
     have hk:o.getD s false=false:=by rw [List.getD_eq_getElem?_getD,List.getElem?_eq_getElem hso];simpa using h1
     have hS:(Z1 (fun j=>o.getD j false) 0 (m.take (s+1)))=(Z1 (fun j=>o.getD j false) 0 (m.take s))++ [m[s]]:=by rw [Tz hlt,if_neg (by rw [hk];decide)]
     rw [←hS];subst e1 e2
     refine X.at (ih (s+1,a2,c2) (by dsimp only;omega) (by dsimp only;omega)) Zp leA
   replace h1:=sp h1
   refine xx 7 ?_
   have hk:o.getD s false=true:=by rw [List.getD_eq_getElem?_getD,List.getElem?_eq_getElem hso];simpa using h1
   have hS:(Z1 (fun j=>o.getD j false) 0 (m.take (s+1)))=(Z1 (fun j=>o.getD j false) 0 (m.take s)):=by rw [Tz hlt,if_pos hk,List.append_nil]
   rw [←hS];subst e1 e2
   refine X.at (ih (s+1,a1,c1) (by dsimp only;omega) (by dsimp only;omega)) Zp leA
 replace h0:=sp h0
 refine xx 7 ?_;obtain rfl:s=m.length:=by omega
 rw [List.take_length]
 refine Zq (lsH I64 3 a1 c1 ((Z1 (fun j=>o.getD j false) 0 m))::q) func192 (Zu results192 rfl) ⟨_,rfl,a1,c1,rfl,rfl⟩
set_option maxHeartbeats 1000000 in
theorem Zzm {m:List Ins}(hs:Sees q a (m.flatMap Zx))(ho:Sees q b (o.map Value.bool))(hl:m.length≤o.length)(hL:m.length≤1000000):CallF prog G 191 [.slice a m.length c,.slice b o.length d] (q) (Ret fun v q'=> ∃ a' c',v= .slice a' (Z1 (fun j=>o.getD j false) 0 m).length c'∧q'=rsH Zx 4 48 a' c' ((Z1 (fun j=>o.getD j false) 0 m))::q):=by
 refine CallF.of func191 ntmps191 rfl (fun F cs=> ?_)
 refine xx 16 ?_
 have hlen:=Zb (f:=Zx) (sz:=4) (fun _=>rfl) m
 refine X.at (X.loop (fun (s:Nat×Option Addr×Nat)=>s.1≤m.length) (fun s=> [(8,.slice a m.length c),(9,.int .i64 (m.length:Int)),(10,.int .i64 (s.1:Int)),(5,.slice s.2.1 (Z1 (fun j=>o.getD j false) 0 (m.take s.1)).length s.2.2),(1,.slice b o.length d),(4,.slice none 0 0)]) (fun s=>rsH Zx 4 48 s.2.1 s.2.2 ((Z1 (fun j=>o.getD j false) 0 (m.take s.1)))::(q++F)) (fun s=>m.length - s.1) (fun s hi_ ih=> ?_) (0,none,0) (Nat.zero_le _)) Zp (Le.trans leA (Yx Zx 4 48 _))
 try dsimp only at hi_ ih⊢
 obtain hs0:=hi_
 obtain ⟨s,a1,c1⟩:=s;dsimp only at*
 refine xx 5 ?_;refine X.part 11 rfl (fun h0=> ?_) (fun h0=> ?_)
 · replace h0:=sp h0
   have hlt:s<m.length:=by omega
   have hso:s<o.length:=by omega
   have hcl:(Z1 (fun j=>o.getD j false) 0 (m.take s)).length≤m.length:=by have:=D8 (fun j=>o.getD j false) (m.take s);rw [List.length_take] at this;omega
   refine xo 7 ?_;refine Y6 hs (by rw [hlen];omega) (fun b1 o1 e1=> ?_)
   have hs1:=hs;rw [e1] at hs1
   refine XO.know 8 (.slice (some ⟨b1,o1,none⟩) m.length c) rfl (by rw [e1]) ?_
   refine oo 1 ?_;refine Wm (n:=s) isAgg48 sizeOf48 hs1 hlt ?_
   refine Zm zeroValue48 fun n1=> ?_
   refine oo 1 ?_;refine stA ?_;refine oo 5 ?_;refine Y6 ho (by simp;omega) (fun b2 o2 e2=> ?_)
   have hs2:=ho;rw [e2] at hs2
   refine XO.know 15 (.slice (some ⟨b2,o2,none⟩) o.length d) rfl (by rw [e2]) ?_
   refine oo 1 ?_;refine ld ?_ (hc:=(Cl.e1 hs2 leA hso rfl))
   refine Zc (Pu.not rfl) ?_;refine ox 1 ?_;refine X.part 19 rfl (fun h1=> ?_) (fun h1=> ?_)
   · replace h1:=sp h1
     refine xo 3 ?_;refine ldA ?_;refine XO.ef (Yd Zx underlying32 Vy rfl rfl (fun _=>rfl) rfl) ?_
     rintro _ _ ⟨g0,rfl,rfl⟩
     refine XO.ef (Zo (f:=Zx) (l:=(Z1 (fun j=>o.getD j false) 0 (m.take s))) (m:= [m[s]]) underlying32 Vy rfl rfl (fun _=>rfl) rfl rfl Zj ((Sees.rsH _).le Zj) (fun _=>rfl) (by simp only [List.length_cons,List.length_nil];omega) (by simp only [List.length_cons,List.length_nil];omega)) ?_
     rintro _ _ ⟨a2,c2,rfl,rfl⟩
     refine ox 7 ?_
     have hk:o.getD s false=false:=by rw [List.getD_eq_getElem?_getD,List.getElem?_eq_getElem hso];simpa using h1
     have hS:(Z1 (fun j=>o.getD j false) 0 (m.take (s+1)))=(Z1 (fun j=>o.getD j false) 0 (m.take s))++ [m[s]]:=by rw [Tz hlt,if_neg (by rw [hk];decide)]
     rw [←hS];subst e1 e2
     refine X.at (ih (s+1,a2,c2) (by dsimp only;omega) (by dsimp only;omega)) Zp leA
   replace h1:=sp h1
   refine xx 7 ?_
   have hk:o.getD s false=true:=by rw [List.getD_eq_getElem?_getD,List.getElem?_eq_getElem hso];simpa using h1
   have hS:(Z1 (fun j=>o.getD j false) 0 (m.take (s+1)))=(Z1 (fun j=>o.getD j false) 0 (m.take s)):=by rw [Tz hlt,if_pos hk,List.append_nil]
   rw [←hS];subst e1 e2
   refine X.at (ih (s+1,a1,c1) (by dsimp only;omega) (by dsimp only;omega)) Zp leA
 replace h0:=sp h0
 refine xx 7 ?_;obtain rfl:s=m.length:=by omega
 rw [List.take_length]
 refine Zq (rsH Zx 4 48 a1 c1 ((Z1 (fun j=>o.getD j false) 0 m))::q) func191 (Zu results191 rfl) ⟨_,rfl,a1,c1,rfl,rfl⟩
end
end Go.Proofs.YtgonllbkcgaliaaGreatDoor
namespace Wx
open Go Go.RowKit
abbrev Bs:=List UInt8
def bs (s:ByteArray):Bs:=s.data.toList
def ba (l:Bs):ByteArray:=⟨l.toArray⟩
def em:ByteArray:=⟨#[]⟩
theorem Qg (l:Bs):bs (ba l)=l:=rfl
theorem ba_bs (s:ByteArray):ba (bs s)=s:=by cases s;rfl
theorem K0 (s:ByteArray):(bs s).length=s.size:=rfl
theorem S8 (a b:ByteArray):(a.toList==b.toList)=(bs a==bs b):=by rw [ByteArray.toList_eq,ByteArray.toList_eq];rfl
def s8 (s:ByteArray)(n:Nat):Int:=(((bs s).getD n 0).toNat:Int)
section
variable {P:Program}{p:PE}{d:Option Tmp}{ty:TypeId}{pos:String}{af:Array Edge}{gd:Option (Nat×Bool)}{x y z:Operand}{t:TypeId}{kd kd':IntKind}{s:ByteArray}{i j:Int}
theorem Wl (hx:evp p x=some (.string s))(hy:evp p y=some (.int kd i))(ht:P.underlying t=some .string)(h0:0≤i)(h1:i.toNat<s.size):Pu P p ⟨d,.index t x y,ty,pos,af,gd⟩ (.int .u8 (s8 s i.toNat)):=fun tm w ag=>by
 have e:s[i.toNat]? =some s[i.toNat]:=getElem?_pos s i.toNat h1
 have e2:s8 s i.toNat=(s[i.toNat].toNat:Int):=by
  have h1':i.toNat<s.data.toList.length:=h1
  unfold s8 bs
  have h3:s.data.toList[i.toNat]? =some s.data.toList[i.toNat]:=List.getElem?_eq_getElem h1'
  unfold List.getD
  rw [h3];rfl
 rw [e2]
 simp [execOp,Zd ag hx,Zd ag hy,Instr.index,asIntOf,run_underlying ht,h0,e]
theorem Cz (hx:evp p x=some (.string s))(hy:evp p y=some (.int kd i))(hz:evp p z=some (.int kd' j))(ht:P.underlying t=some .string)(h0:0≤i)(h1:i≤j)(h2:j.toNat≤s.size):Pu P p ⟨d,.slice t x (some y) (some z) none,ty,pos,af,gd⟩ (.string (s.extract i.toNat j.toNat)):=fun tm w ag=>by
 have h3:0≤j∧j≤(s.size:Int):=⟨by omega,by omega⟩
 have h4:0≤i∧i≤(j.toNat:Int):=⟨h0,by omega⟩
 simp [execOp,Zd ag hx,Zd ag hy,Zd ag hz,Instr.sliceAt,Instr.slice,Instr.sliceBounds,Instr.sliceBound,asIntOf,run_underlying ht,h3,h4]
 intro h;omega
end
theorem Is (s:ByteArray)(i j:Nat):bs (s.extract i j)=((bs s).drop i).take (j - i):=by
 simp [bs,ByteArray.data_extract,Array.toList_extract,List.extract_eq_take_drop]
def Kn (q:List HP)(φ:Hp→Prop):Prop:= ∀ M h,(stars q).p M h→φ M
def lst (φ:Hp→Prop)(mono: ∀ {M M':Hp},Hle M M'→φ M→φ M'):HP:=⟨fun M _=>φ M,fun e _ p=>mono e p⟩
section
variable {P:Program}{G w:World}{f:Fc}{Q:Y3}{ops:List Oper}{k:List Item}{l:List Oper}{p:PE}{ds:List Deferred}{cs:List Frame}{q q0:List HP}{φ ψ:Hp→Prop}{mn: ∀ {M M':Hp},Hle M M'→φ M→φ M'}{A:HP}
theorem Kn.le (h:Kn q0 φ)(k:Le q q0:=by exact leA):Kn q φ:=fun M x p=>h M x (k M x p)
theorem Kn.here:Kn (lst φ mn::q) φ:=fun _ _ ⟨_,_,_,_,_,p,_⟩=>p
theorem Kn.there (h:Kn q φ):Kn (A::q) φ:=h.le (Le.drop A q)
theorem Kn.imp (h:Kn q φ)(k: ∀ M,φ M→ψ M):Kn q ψ:=fun M x p=>k M (h M x p)
theorem Kn.and (h:Kn q φ)(k:Kn q ψ):Kn q fun M=>φ M∧ψ M:=fun M x p=>⟨h M x p,k M x p⟩
theorem Kn.add (h:Kn q φ):Le q (lst φ mn::q):=fun M x p=>⟨fun _=>none,x,fun _=> .inl rfl,fun _ _ e=>by simp at e,.refl _,h M x p,p⟩
theorem Kn.sees {a:Option Addr}{vs:List Value}(h:Kn q fun M=>SeesM M a vs):Sees q a vs:=by
 rintro G w ⟨_,M,x,x1,_,_,_,_,p⟩ i u hu
 obtain ⟨b,o,cur,ty,z,e1,e2,e3⟩:=h M x p i u hu
 have e4:w.heap[b]? =some (.cells cur ty z):=x1 _ _ e2
 exact ⟨b,o,e1,by simp [World.cell?,e4,e3]⟩
theorem Kn.fact {χ:Prop}(h:Kn q φ)(k: ∀ M,φ M→χ)(s:St G w q):χ:=let ⟨_,M,x,_,_,_,_,_,p⟩:=s;k M (h M x p)
theorem knA {m: ∀ {M M':Hp},Hle M M'→φ M→φ M'}(h:Le q (lst φ m::q0):=by exact Zj):Kn q φ:=Kn.here.le h
def SlAt (M:Hp)(a:Option Addr)(c n:Nat)(vs:List Value):Prop:=n≤c∧c≤maxLen∧SeesM M a vs
theorem SlAt.mono {M M':Hp}{a:Option Addr}{c n:Nat}{vs:List Value}(e:Hle M M')(h:SlAt M a c n vs):SlAt M' a c n vs:=⟨h.1,h.2.1,h.2.2.mono e⟩
theorem slP.at {a:Option Addr}{c ty sz n:Nat}{vs:List Value}{M:Hp}(p:slP a c ty sz n vs M):SlAt M a c n vs:=by
 have hs:=Zqm p
 refine ⟨?_,?_,hs⟩
 · rcases p.2 with ⟨_,rfl,h⟩|⟨g,cur,q1,q2,q3,q4,q5,q6⟩
   · rw [h];exact Nat.le_refl _
   exact q2
 rcases p.2 with ⟨_,rfl,h⟩|⟨g,cur,q1,q2,q3,q4,q5,q6⟩
 · simp [maxLen]
 exact q3
theorem SlAt.nil (M:Hp):SlAt M none 0 0 []:=⟨Nat.le_refl _,by simp [maxLen],fun i u h=>by simp at h⟩
theorem Kn.slM {a:Option Addr}{c ty sz n:Nat}{vs:List Value}:Kn (slM a c ty sz n vs::q) fun M=>SlAt M a c n vs:=fun _ _ ⟨_,_,_,_,_,p,_⟩=>slP.at p
theorem frz {a:Option Addr}{c ty sz n:Nat}{vs:List Value}(hq:Le q (slH a c ty sz n vs::q0):=by exact Zj)(h:Kn (lst (fun M=>SlAt M a c n vs) SlAt.mono::q0) φ)(s:St G w q):St G w (lst φ mn::q0):=by
 have s1:=(s.le hq).slFreeze
 have s2:=s1.le (Kn.add (mn:=SlAt.mono) Kn.slM)
 have s3:=s2.le (Le.trans (Le.swap _ _ _) (Le.drop _ _))
 exact (s3.le (Kn.add h)).le (Le.trans (Le.swap _ _ _) (Le.drop _ _))
theorem X.frz {todo:List Item}{a:Option Addr}{c ty sz n:Nat}{vs:List Value}(h:Kn (lst (fun M=>SlAt M a c n vs) SlAt.mono::q0) φ)(x:X P G f Q todo p ds cs (lst φ mn::q0))(hq:Le q (slH a c ty sz n vs::q0):=by exact Zj):X P G f Q todo p ds cs q:= .turn (fun w=>Wx.frz hq h) x
end
end Wx
namespace Wx
open Go Go.RowKit
section
variable {α:Type}{P:Program}{G:World}{fr:Fc}{Q:Y3}{k:List Item}{p:PE}{ds:List Deferred}{cs:List Frame}{q q0 r:List HP}{ops lo:List Oper}{f:α→List Value}{sz ty:Nat}{a b:Option Addr}{c c':Nat}{l m:List α}
section
variable {d:Option Tmp}{ty':TypeId}{pos:String}{af:Array Edge}{gd:Option (Nat×Bool)}{x y:Operand}{t:TypeId}{z:Value}{bytes i:Nat}
theorem Rg (off:Nat): ∀ (us:List Value) (n:Nat) (pre post:List Value),pre.length=off+n→us.length≤post.length→(us.zipIdx n).foldl (fun cs (c,i)=>cs.setIfInBounds (off+i) c) (pre++post).toArray=(pre++us++post.drop us.length).toArray:=by
 intro us
 induction us with
 |nil=>intro n pre post _ h;simp
 |cons u r ih=>
  intro n pre post hp h
  obtain ⟨x,post,rfl⟩: ∃ x l,post=x::l:=by cases post with
   |nil=>cases h
   |cons x l=>exact ⟨x,l,rfl⟩
  rw [List.zipIdx_cons,List.foldl_cons]
  have:=ih (n+1) (pre++ [u]) post (by simp;omega) (by simpa using h)
  simp only [List.append_assoc,List.singleton_append] at this
  simpa [←hp] using this
theorem Ef.litR2 {u v:α}(f:α→List Value)(ht:P.underlying t=some (.slice ty))(hi:(P.info? ty).map (fun i=>(i.zero,i.size,i.bytes))=some (some z,sz,bytes))(h0:Nat.ble (2*sz) 16777216=true)(hn:Nat.blt 0 sz=true)
 (hf: ∀ x,(f x).length=sz) (hx:evp p x=some (.agg (f u).toArray)) (hy:evp p y=some (.agg (f v).toArray)):
 Ef P G p q ⟨d,.buildSlice t 2 [(0,x),(1,y)].toArray,ty',pos,af,gd⟩ fun w q'=> ∃ g,w= .slice (some ⟨g,0,none⟩) 2 2∧q'=Wx.rsH f sz ty (some ⟨g,0,none⟩) 2 [u,v]::q:=by
 have hc: ∀ u,(Value.agg (f u).toArray).cells=(f u).toArray:=fun _=>rfl
 have hfill:Instr.fill (fun i=>some (i*sz,sz)) ((Array.range (2*sz)).map (z.cells[· % z.cells.size]!)) (([(0,x),(1,y)].map (·.1)).zip [Value.agg (f u).toArray,Value.agg (f v).toArray])=some (f u++f v).toArray:=by
  obtain ⟨A,hA,hl⟩: ∃ A:List Value,(Array.range (2*sz)).map (z.cells[· % z.cells.size]!)=A.toArray∧A.length=2*sz:=⟨((Array.range (2*sz)).map (z.cells[· % z.cells.size]!)).toList,Array.toArray_toList.symm,by rw [Array.length_toList,Array.size_map,Array.size_range]⟩
  have k1:=Rg (0*sz) (f u) 0 [] A (by simp) (by rw [hf];omega)
  have k2:=Rg (1*sz) (f v) 0 (f u) (A.drop (f u).length) (by rw [hf];omega) (by rw [List.length_drop,hf,hf];omega)
  rw [List.nil_append,List.nil_append] at k1
  have e1: ∀ (off:Nat) (us:List Value) (A:Array Value),(us.toArray.zipIdx).foldl (fun cs (c,i)=>cs.setIfInBounds (off+i) c) A=(us.zipIdx 0).foldl (fun cs (c,i)=>cs.setIfInBounds (off+i) c) A:=by intro off us A;simp
  have h2:=(e1 (0*sz) (f u) A.toArray).trans k1
  have h3:=(e1 (1*sz) (f v) (f u++A.drop (f u).length).toArray).trans k2
  rw [hA]
  simp only [List.map_cons,List.map_nil,List.zip_cons_cons,List.zip_nil_left,List.zip_nil_right,Instr.fill,hc]
  rw [if_neg (by simp [hf];omega),h2,if_neg (by simp [hf];omega),h3]
  congr 2
  rw [List.drop_eq_nil_of_le (by rw [List.length_drop,hf,hf];omega),List.append_nil]
 have:=Ef.buildSlice (P:=P) (G:=G) (p:=p) (q:=q) (d:=d) (ty:=ty') (pos:=pos) (af:=af) (gd:=gd) (ps:= [(0,x),(1,y)]) (len:=2) ht hi (us:= [.agg (f u).toArray,.agg (f v).toArray]) (by simp [evl,hx,hy]) (by simpa using h0) (by have h:=hn;simp [Nat.blt_eq] at h⊢;omega) hfill (by simp [hf];omega)
 simpa [Wx.rsH] using this
end
variable {φ:Hp→Prop}{mn: ∀ {M M':Hp},Hle M M'→φ M→φ M'}
theorem X.frzR {todo:List Item}(h:Kn (lst (fun M=>SlAt M a c l.length (l.flatMap f)) SlAt.mono::q0) φ)(x:X P G fr Q todo p ds cs (lst φ mn::q0))(hq:Le q (rsH f sz ty a c l::q0):=by exact Zj):X P G fr Q todo p ds cs q:= .frz h x hq
end
end Wx
namespace Wx
open Go Go.RowKit
end Wx
