/- What functions of package verify, of its references and of its laws do: contracts of calls, proved by walking their code. -/
import Derived.Test.YtbeeplmgcdnadaaDoorJ
import Derived.Test.YtbeeplmgcdnadaaDoorWc
import Derived.KernelRfl
set_option maxRecDepth 100000
set_option linter.unusedVariables false
set_option linter.unusedSimpArgs false
namespace Go.Proofs.YtbeeplmgcdnadaaDoor
open Go Go.RowKit Wx
attribute [local irreducible] Wx.lsH Wx.rsH Wx.lsM Wx.rsM Wx.stars

/-! ### heaps: a list as a tree, the least one first -/
def par (k : Nat) : Nat := (k - 1) / 2
def hAt (l : List Int) (i : Nat) : Int := l.getD i 0
def sw (l : List Int) (i j : Nat) : List Int := (l.set i (hAt l j)).set j (hAt l i)
theorem sw_len (l : List Int) (i j : Nat) : (sw l i j).length = l.length := by simp [sw]
theorem hAt_lt {l : List Int} {i : Nat} (h : i < l.length) : hAt l i = l[i] := by simp [hAt, List.getD, h]
theorem hAt_sw {l : List Int} {i j k : Nat} (hi : i < l.length) (hj : j < l.length) : hAt (sw l i j) k = if k = j then hAt l i else if k = i then hAt l j else hAt l k := by
  unfold sw hAt
  simp only [List.getD_eq_getElem?_getD, List.getElem?_set, List.length_set]
  by_cases h1 : k = j
  · subst h1; simp [hj]
  · have h1' : ¬ j = k := fun e => h1 e.symm
    by_cases h2 : k = i
    · subst h2; simp [h1, h1', hi]
    · have h2' : ¬ i = k := fun e => h2 e.symm
      simp [h1, h1', h2, h2']
theorem sw_perm {l : List Int} {i j : Nat} (hi : i < l.length) (hj : j < l.length) : (sw l i j).Perm l := by
  have h := Array.swap_perm (xs := l.toArray) (i := i) (j := j) (by simpa using hi) (by simpa using hj)
  have h2 := h.toList
  rw [Array.toList_swap] at h2
  unfold sw
  rw [hAt_lt hi, hAt_lt hj]
  simpa using h2
/-- The first n are a heap. -/
def HeapP (l : List Int) (n : Nat) : Prop := ∀ k, 0 < k → k < n → hAt l (par k) ≤ hAt l k
theorem HeapP.least {l : List Int} {n : Nat} (h : HeapP l n) : ∀ k, k < n → hAt l 0 ≤ hAt l k := by
  intro k
  induction k using Nat.strongRecOn with
  | _ k ih =>
    intro hk
    rcases Nat.eq_zero_or_pos k with rfl | hp
    · exact Int.le_refl _
    · have h1 : par k < k := by unfold par; omega
      exact Int.le_trans (ih _ h1 (by omega)) (h k hp hk)
def HeapUp (l : List Int) (n j : Nat) : Prop := (∀ k, 0 < k → k < n → k ≠ j → hAt l (par k) ≤ hAt l k) ∧ ∀ k, 0 < k → k < n → par k = j → 0 < j → hAt l (par j) ≤ hAt l k
theorem HeapUp.init {l : List Int} {n : Nat} (h : HeapP l n) : HeapUp l (n + 1) n :=
  ⟨fun k h1 h2 h3 => h k h1 (by omega), fun k h1 h2 h3 h4 => by unfold par at h3; omega⟩
theorem HeapUp.done {l : List Int} {n j : Nat} (h : HeapUp l n j) (hj : j = 0 ∨ hAt l (par j) ≤ hAt l j) : HeapP l n := fun k h1 h2 => by
  by_cases e : k = j
  · subst e; rcases hj with h3 | h3
    · omega
    · exact h3
  · exact h.1 k h1 h2 e
theorem HeapUp.step {l : List Int} {n j : Nat} (h : HeapUp l n j) (hn : n = l.length) (hj : j < n) (h0 : 0 < j) (hlt : hAt l j < hAt l (par j)) : HeapUp (sw l (par j) j) n (par j) := by
  have hp : par j < j := by unfold par; omega
  have e := fun k => hAt_sw (l := l) (i := par j) (j := j) (k := k) (by omega) (by omega)
  refine ⟨fun k h1 h2 h3 => ?_, fun k h1 h2 h3 h4 => ?_⟩
  · rw [e, e]
    by_cases k1 : k = j
    · subst k1
      rw [if_neg (by omega), if_pos rfl, if_pos rfl]; omega
    · by_cases k2 : par k = j
      · have := h.2 k h1 h2 k2 h0
        rw [if_pos k2, if_neg k1, if_neg h3]; exact this
      · by_cases k3 : par k = par j
        · have := h.1 k h1 h2 k1
          rw [if_neg k2, if_pos k3, if_neg k1, if_neg h3]
          rw [k3] at this; omega
        · have := h.1 k h1 h2 k1
          rw [if_neg k2, if_neg k3, if_neg k1, if_neg h3]; exact this
  · have hpp : par (par j) < par j := by unfold par at h4 ⊢; omega
    have hpj := h.1 (par j) h4 (by omega) (by omega)
    rw [e, e, if_neg (show par (par j) ≠ j by omega), if_neg (show par (par j) ≠ par j by omega)]
    by_cases k1 : k = j
    · subst k1; rw [if_pos rfl]; exact hpj
    · have hk : k ≠ par j := by rintro rfl; omega
      rw [if_neg k1, if_neg hk]
      have := h.1 k h1 h2 k1
      rw [h3] at this; omega
def HeapDn (l : List Int) (n i : Nat) : Prop := (∀ k, 0 < k → k < n → par k ≠ i → hAt l (par k) ≤ hAt l k) ∧ ∀ k, 0 < k → k < n → par k = i → 0 < i → hAt l (par i) ≤ hAt l k
theorem HeapDn.done {l : List Int} {n i : Nat} (h : HeapDn l n i) (hi : ∀ k, 0 < k → k < n → par k = i → hAt l i ≤ hAt l k) : HeapP l n := fun k h1 h2 => by
  by_cases e : par k = i
  · rw [e]; exact hi k h1 h2 e
  · exact h.1 k h1 h2 e
theorem HeapDn.step {l : List Int} {n i j : Nat} (h : HeapDn l n i) (hn : n ≤ l.length) (hj : j < n) (hj0 : 0 < j) (hp : par j = i) (hlt : hAt l j < hAt l i) (hmin : ∀ k, 0 < k → k < n → par k = i → hAt l j ≤ hAt l k) : HeapDn (sw l i j) n j := by
  have hij : i < j := by rw [← hp]; unfold par; omega
  have e := fun k => hAt_sw (l := l) (i := i) (j := j) (k := k) (by omega) (by omega)
  refine ⟨fun k h1 h2 h3 => ?_, fun k h1 h2 h3 h4 => ?_⟩
  · rw [e, e, if_neg h3]
    by_cases k1 : par k = i
    · rw [if_pos k1]
      by_cases k2 : k = j
      · subst k2; rw [if_pos rfl]; omega
      · have hki : k ≠ i := by rintro rfl; unfold par at k1; omega
        rw [if_neg k2, if_neg hki]; exact hmin k h1 h2 k1
    · rw [if_neg k1]
      by_cases k2 : k = j
      · subst k2; exact absurd hp k1
      · rw [if_neg k2]
        by_cases k3 : k = i
        · subst k3; rw [if_pos rfl]; exact h.2 j hj0 hj hp h1
        · rw [if_neg k3]; exact h.1 k h1 h2 k1
  · have hkj : k ≠ j := by rintro rfl; unfold par at h3; omega
    have hki : k ≠ i := by rintro rfl; unfold par at h3; omega
    rw [e, e, hp, if_neg (show i ≠ j by omega), if_pos rfl, if_neg hkj, if_neg hki]
    have := h.1 k h1 h2 (by rw [h3]; omega)
    rw [h3] at this; exact this
theorem HeapDn.init {l : List Int} {n : Nat} (h : HeapP l (n + 1)) (hn : n + 1 ≤ l.length) : HeapDn (sw l 0 n) n 0 := by
  have e := fun k => hAt_sw (l := l) (i := 0) (j := n) (k := k) (by omega) (by omega)
  refine ⟨fun k h1 h2 h3 => ?_, fun k h1 h2 h3 h4 => by omega⟩
  rw [e, e, if_neg (show par k ≠ n by unfold par; omega), if_neg h3, if_neg (show k ≠ n by omega), if_neg (show k ≠ 0 by omega)]
  exact h k h1 (by omega)

section
variable {G : World} {q pre : List HP} {a b A : Option Addr} {c d C p p0 p1 p2 i : Nat} {lo hi n cd dep : Int} {fv : Value} {x y : Ins} {t : Cod} {m : Mdl} {at_ : Int}
variable {l : List Int} {b i j : Nat} {z : Int}
abbrev plP (b : Nat) (a : Option Addr) (c : Nat) (l : List Int) : List HP := [pto b (.cells [.slice a l.length c].toArray 100 (0, 0)), lsH I64 3 a c l]
abbrev plB (b : Nat) (l : List Int) : HP := bxH I64 100 3 b l
abbrev plI (b : Nat) : Value := .iface 99 (.pointer (some ⟨b, 0, none⟩))
theorem plLen_ok  : CallF Tryd.prog G 52 [.slice a l.length c] (plP b a c l) (Ret fun v q' => v = .int .i64 (l.length : Int) ∧ q' = plP b a c l) := by
 refine CallF.of Tryd.func52 Tryd.ntmps52 rfl (fun F cs => ?_)
 refine xx 10 ?_
 refine X.retL (plP b a c l) Tryd.func52 (res1 Tryd.results52 rfl) ⟨_, rfl, rfl, rfl⟩
theorem plLess_ok (hi : i < l.length) (hj : j < l.length) (hL : l.length ≤ 1000000) : CallF Tryd.prog G 116 [.slice a l.length c, .int .i64 (i : Int), .int .i64 (j : Int)] (plP b a c l) (Ret fun v q' => v = .bool (decide (hAt l i < hAt l j)) ∧ q' = plP b a c l) := by
 refine CallF.of Tryd.func116 Tryd.ntmps116 rfl (fun F cs => ?_)
 refine X.lsadr (l := l) (by omega) (fun g e_ => ?_); subst e_
 refine xx 5 ?_
 refine drw ?_
 refine dd [0, 1, 2] ?_
 refine ldD 3 ?_ (hc := (Cl.e1 (Sees.lsH _) fndA hi rfl))
 refine dd [4, 5, 6] ?_
 refine ldD 7 ?_ (hc := (Cl.e1 (Sees.lsH _) fndA hj rfl))
 refine dd [8, 9] ?_
 refine XD.nil ?_
 refine X.retL (plP b (some ⟨g, 0, none⟩) c l) Tryd.func116 (res1 Tryd.results116 rfl) ⟨_, rfl, by rw [hAt_lt hi, hAt_lt hj], rfl⟩
theorem plSwap_ok (hi : i < l.length) (hj : j < l.length) (hL : l.length ≤ 1000000) : CallF Tryd.prog G 119 [.slice a l.length c, .int .i64 (i : Int), .int .i64 (j : Int)] (plP b a c l) (Ret fun v q' => q' = plP b a c (sw l i j)) := by
 refine CallF.of Tryd.func119 Tryd.ntmps119 rfl (fun F cs => ?_)
 refine X.lsadr (l := l) (by omega) (fun g e_ => ?_); subst e_
 refine drw ?_
 refine dd [0, 1, 2, 3, 4, 5, 6] ?_
 refine ldD 7 ?_ (hc := (Cl.e1 (Sees.lsH _) fndA hj rfl))
 refine dd [8, 9, 10] ?_
 refine ldD 11 ?_ (hc := (Cl.e1 (Sees.lsH _) fndA hi rfl))
 refine dd [12] ?_
 refine XD.ef0 13 rfl (Ef.setL (l := l) (n := i) (u := l[j]) rfl rfl Tryd.sizeOf3 rfl hi rfl rfl fndA) ?_
 rintro _ _ ⟨rfl, rfl⟩
 refine ⟨trivial, ?_⟩
 refine dd [14] ?_
 refine XD.ef0 15 rfl (Ef.setL (l := l.set i l[j]) (n := j) (u := l[i]) rfl rfl Tryd.sizeOf3 rfl (by rw [List.length_set]; exact hj) rfl rfl fndA) ?_
 rintro _ _ ⟨rfl, rfl⟩
 refine ⟨trivial, ?_⟩
 refine XD.nil ?_
 have e1 : (l.set i l[j]).set j l[i] = sw l i j := by unfold sw; rw [hAt_lt hi, hAt_lt hj]
 rw [e1]
 refine X.fallL (plP b (some ⟨g, 0, none⟩) c (sw l i j)) Tryd.func119 (res0 Tryd.results119) ⟨_, rfl, rfl⟩ (by unfold plP; rw [sw_len]; exact leA)
theorem plPop_ok (h0 : 0 < l.length) (hL : l.length ≤ 1000000) : CallF Tryd.prog G 117 [.pointer (some ⟨b, 0, none⟩)] (plP b a c l) (Ret fun v q' => ∃ x, v = .iface 3 (.int .i64 x) ∧ l[l.length - 1]? = some x ∧ q' = plP b a c (l.take (l.length - 1))) := by
 refine CallF.of Tryd.func117 Tryd.ntmps117 rfl (fun F cs => ?_)
 refine X.lsadr (l := l) (by omega) (fun g e_ => ?_); subst e_
 refine X.lscap (l := l) (fun hcap => ?_)
 refine xx 5 ?_
 refine drw ?_
 refine dd [0, 1] ?_
 refine ldD 2 ?_
 refine dd [3, 4] ?_
 refine ldD 5 ?_
 refine dd [6, 7, 8] ?_
 refine ldD 9 ?_ (hc := (Cl.e1z (Sees.lsH _) fndA h0))
 refine dd [10] ?_
 refine XD.nil ?_
 refine xx 1 ?_
 refine drw ?_
 refine dd [0, 1, 2] ?_
 refine ldD 3 ?_
 refine dd [4, 5] ?_
 refine ldD 6 ?_
 refine dd [7, 8, 9, 10] ?_
 refine XD.know 23 (.slice (some ⟨g, 0, none⟩) (l.take (l.length - 1)).length c) rfl (by rw [List.length_take]; congr 1; omega) ?_
 refine stD 11 ?_
 refine XD.nil ?_
 refine xx 6 ?_
 refine X.sb [2] ?_
 refine X.retL (plP b (some ⟨g, 0, none⟩) c (l.take (l.length - 1))) Tryd.func117 (res1 Tryd.results117 rfl) ⟨_, rfl, _, rfl, List.getElem?_eq_getElem (by omega), rfl⟩ (Le.pick fndA ((leA).trans (Le.lsH_take _ _ _ _ _ _ _)))
theorem plPush_ok (hL : l.length ≤ 1000000) : CallF Tryd.prog G 118 [.pointer (some ⟨b, 0, none⟩), .iface 3 (.int .i64 z)] (plP b a c l) (Ret fun v q' => ∃ a' c', q' = plP b a' c' (l ++ [z])) := by
 refine CallF.of Tryd.func118 Tryd.ntmps118 rfl (fun F cs => ?_)
 refine drw ?_
 refine dd [0, 1, 2] ?_
 refine ldD 3 ?_
 refine dd [4] ?_
 refine XD.pu 5 rfl (Pu.assertD rfl Tryd.underlying3 rfl) ?_
 refine XD.ef 6 rfl (Ef.litL I64 [z] Tryd.underlying100 Tryd.info3 rfl rfl rfl rfl rfl rfl (fun _ => rfl)) ?_
 rintro _ _ ⟨g1, rfl, rfl⟩
 refine ⟨hlA, ?_⟩
 refine XD.ef 7 rfl (Ef.appA (l := l) (m := [z]) Tryd.underlying100 Tryd.info3 rfl rfl rfl fndA ((Sees.lsH _).le fndA) (fun _ => rfl) (by simp; omega) (by simp; omega)) ?_
 rintro _ _ ⟨a1, c1, rfl, rfl⟩
 refine ⟨trivial, ?_⟩
 refine dd [8] ?_
 refine stD 9 ?_
 refine XD.nil ?_
 refine X.fallL (plP b a1 c1 (l ++ [z])) Tryd.func118 (res0 Tryd.results118) ⟨_, rfl, a1, c1, rfl⟩
theorem mLen  : CallM Tryd.prog G (plI b) "Len" [] [plB b l] (Ret fun v q' => ∃ l', (fun v l' => v = .int .i64 (l.length : Int) ∧ l' = l) v l' ∧ q' = [plB b l']) :=
  CallM.bx (φ := fun v l' => v = .int .i64 (l.length : Int) ∧ l' = l) fun a c => CallM.of Tryd.call52 (fun F w s => method_val (m := ⟨"Len", 101, #[], some (52, false)⟩) s clA Tryd.typeInfo99 Tryd.underlying99 Tryd.isAgg100 (by kernel_rfl) rfl rfl) (CallF.mono (plLen_ok) (fun e q h => by obtain ⟨v, rfl, h⟩ := h; exact ⟨v, rfl, ⟨l, a, c, ⟨h.1, rfl⟩, h.2⟩⟩))
theorem mLess (hi : i < l.length) (hj : j < l.length) (hL : l.length ≤ 1000000) : CallM Tryd.prog G (plI b) "Less" [.int .i64 (i : Int), .int .i64 (j : Int)] [plB b l] (Ret fun v q' => ∃ l', (fun v l' => v = .bool (decide (hAt l i < hAt l j)) ∧ l' = l) v l' ∧ q' = [plB b l']) :=
  CallM.bx (φ := fun v l' => v = .bool (decide (hAt l i < hAt l j)) ∧ l' = l) fun a c => CallM.of Tryd.call116 (fun F w s => method_val (m := ⟨"Less", 144, #[], some (116, false)⟩) s clA Tryd.typeInfo99 Tryd.underlying99 Tryd.isAgg100 (by kernel_rfl) rfl rfl) (CallF.mono (plLess_ok hi hj hL) (fun e q h => by obtain ⟨v, rfl, h⟩ := h; exact ⟨v, rfl, ⟨l, a, c, ⟨h.1, rfl⟩, h.2⟩⟩))
theorem mSwap (hi : i < l.length) (hj : j < l.length) (hL : l.length ≤ 1000000) : CallM Tryd.prog G (plI b) "Swap" [.int .i64 (i : Int), .int .i64 (j : Int)] [plB b l] (Ret fun v q' => ∃ l', (fun v l' => l' = sw l i j) v l' ∧ q' = [plB b l']) :=
  CallM.bx (φ := fun v l' => l' = sw l i j) fun a c => CallM.of Tryd.call119 (fun F w s => method_val (m := ⟨"Swap", 119, #[], some (119, false)⟩) s clA Tryd.typeInfo99 Tryd.underlying99 Tryd.isAgg100 (by kernel_rfl) rfl rfl) (CallF.mono (plSwap_ok hi hj hL) (fun e q h => by obtain ⟨v, rfl, h⟩ := h; exact ⟨v, rfl, ⟨_, a, c, rfl, h⟩⟩))
theorem mPop (h0 : 0 < l.length) (hL : l.length ≤ 1000000) : CallM Tryd.prog G (plI b) "Pop" [] [plB b l] (Ret fun v q' => ∃ l', (fun v l' => ∃ x, v = .iface 3 (.int .i64 x) ∧ l[l.length - 1]? = some x ∧ l' = l.take (l.length - 1)) v l' ∧ q' = [plB b l']) :=
  CallM.bx (φ := fun v l' => ∃ x, v = .iface 3 (.int .i64 x) ∧ l[l.length - 1]? = some x ∧ l' = l.take (l.length - 1)) fun a c => CallM.of Tryd.call117 (fun F w s => method_ptr (m := ⟨"Pop", 121, #[], some (117, true)⟩) Tryd.typeInfo99 Tryd.underlying99 (by kernel_rfl) rfl rfl) (CallF.mono (plPop_ok h0 hL) (fun e q h => by obtain ⟨v, rfl, h⟩ := h; exact ⟨v, rfl, (by obtain ⟨x, h1, h2, h3⟩ := h; exact ⟨_, a, c, ⟨x, h1, h2, rfl⟩, h3⟩)⟩))
theorem mPush (hL : l.length ≤ 1000000) : CallM Tryd.prog G (plI b) "Push" [.iface 3 (.int .i64 z)] [plB b l] (Ret fun v q' => ∃ l', (fun v l' => l' = l ++ [z]) v l' ∧ q' = [plB b l']) :=
  CallM.bx (φ := fun v l' => l' = l ++ [z]) fun a c => CallM.of Tryd.call118 (fun F w s => method_ptr (m := ⟨"Push", 125, #[], some (118, true)⟩) Tryd.typeInfo99 Tryd.underlying99 (by kernel_rfl) rfl rfl) (CallF.mono (plPush_ok hL) (fun e q h => by obtain ⟨v, rfl, h⟩ := h; exact ⟨v, rfl, (by obtain ⟨a2, c2, h⟩ := h; exact ⟨_, a2, c2, rfl, h⟩)⟩))
end
end Go.Proofs.YtbeeplmgcdnadaaDoor

