/- What functions of package verify, of its references and of its laws do: contracts of calls, proved by walking their code. -/
import Derived.Test.YtbeeplmgcdnadaaDoorI
import Derived.KernelRfl
set_option maxRecDepth 100000
set_option linter.unusedVariables false
set_option linter.unusedSimpArgs false
namespace Go.Proofs.YtbeeplmgcdnadaaDoor
open Go Go.RowKit Wx
attribute [local irreducible] Wx.lsH Wx.rsH Wx.lsM Wx.rsM Wx.stars

theorem hAt_app {l : List Int} {z : Int} {k : Nat} (h : k < l.length) : hAt (l ++ [z]) k = hAt l k := by
  rw [hAt_lt (by simp; omega), hAt_lt h, List.getElem_append_left h]
theorem HeapP.app {l : List Int} {z : Int} (h : HeapP l l.length) : HeapUp (l ++ [z]) (l ++ [z]).length l.length := by
  rw [List.length_append]
  refine HeapUp.init (fun k h1 h2 => ?_)
  rw [hAt_app h2, hAt_app (by unfold par; omega)]; exact h k h1 h2
theorem HeapDn.least {l : List Int} {n : Nat} (h : HeapP l n) (hn : n ≤ l.length) (h0 : 0 < n) : ∀ x ∈ l.take n, hAt l 0 ≤ x := by
  intro x hx
  obtain ⟨k, hk, rfl⟩ := List.getElem_of_mem hx
  have hk' : k < n := by simp at hk; omega
  have := h.least k hk'
  rw [hAt_lt (i := k) (by omega)] at this; rw [List.getElem_take]; exact this
theorem HeapP.take {l : List Int} {n : Nat} (h : HeapP l n) (hn : n ≤ l.length) : HeapP (l.take n) (l.take n).length := by
  have e : ∀ k, k < n → hAt (l.take n) k = hAt l k := fun k hk => by rw [hAt_lt (by simp; omega), hAt_lt (by omega), List.getElem_take]
  intro k h1 h2
  have h3 : k < n := by simp at h2; omega
  rw [e k h3, e _ (by unfold par; omega)]; exact h k h1 h3
theorem par_lt {k : Nat} (h : 0 < k) : par k < k := by unfold par; omega
theorem par_cast (j : Nat) : Int.tdiv ((j : Int) - 1) 2 = (par j : Int) := by
  unfold par
  rcases Nat.eq_zero_or_pos j with rfl | h
  · decide
  · rw [Int.tdiv_eq_ediv_of_nonneg (by omega)]; omega
theorem pop_plain {l m : List Int} {x : Int} (h : HeapP l l.length) (h0 : 0 < l.length) (hp : m.Perm (sw l 0 (l.length - 1))) (hk : ∀ k, l.length - 1 ≤ k → hAt m k = hAt (sw l 0 (l.length - 1)) k) (hx : m[m.length - 1]? = some x) :
    (x :: m.take (m.length - 1)).Perm l ∧ ∀ y ∈ m.take (m.length - 1), x ≤ y := by
  have hpl : m.Perm l := hp.trans (sw_perm h0 (by omega))
  have hml := hpl.length_eq
  have hx1 : x = hAt l 0 := by
    have h1 := hk (l.length - 1) (Nat.le_refl _)
    rw [hAt_sw h0 (by omega), if_pos rfl] at h1
    rw [← h1, hAt_lt (by omega)]
    rw [List.getElem?_eq_getElem (by omega)] at hx
    have := Option.some.inj hx
    rw [← this]; congr 1; omega
  have hsplit : m = m.take (m.length - 1) ++ [x] := by
    have h1 : m.length - 1 < m.length := by omega
    rw [List.getElem?_eq_getElem h1] at hx
    have h2 := List.take_append_getElem h1
    rw [Option.some.inj hx] at h2
    rw [h2, show m.length - 1 + 1 = m.length by omega, List.take_length]
  refine ⟨?_, fun y hy => ?_⟩
  · refine List.Perm.trans ?_ hpl
    conv => rhs; rw [hsplit]
    exact (List.perm_append_comm (l₁ := m.take (m.length - 1)) (l₂ := [x])).symm
  · have hy2 : y ∈ l := hpl.mem_iff.1 (List.mem_of_mem_take hy)
    rw [hx1]
    have := HeapDn.least (n := l.length) h (Nat.le_refl _) h0 y (by rw [List.take_length]; exact hy2)
    exact this

section
variable {G : World} {q pre : List HP} {a b A : Option Addr} {c d C p p0 p1 p2 i : Nat} {lo hi n cd dep : Int} {fv : Value} {x y : Ins} {t : Cod} {m : Mdl} {at_ : Int}
variable {l : List Int} {b i j n : Nat} {z : Int}
set_option maxHeartbeats 1000000 in
theorem up_ok (h : HeapUp l l.length j) (hj : j < l.length) (hL : l.length ≤ 1000000) : CallF Tryd.prog G 74 [plI b, .int .i64 (j : Int)] ([plB b l]) (Ret fun v q' => ∃ l', HeapP l' l'.length ∧ l'.Perm l ∧ q' = [plB b l']) := by
 refine CallF.of Tryd.func74 Tryd.ntmps74 rfl (fun F cs => ?_)
 refine xx 1 ?_
 refine X.at (X.loop (fun (s : List Int × Nat) => HeapUp s.1 s.1.length s.2 ∧ s.1.Perm l ∧ s.2 < s.1.length) (fun s => [(0, plI b), (1, .int .i64 (s.2 : Int))]) (fun s => (plB b s.1 :: F)) (fun s => s.2) (fun s hi_ ih => ?_) (l, j) ⟨h, List.Perm.refl _, hj⟩) subA leA
 try dsimp only at hi_ ih ⊢
 obtain ⟨hu, hp, hs⟩ := hi_
 obtain ⟨m, j⟩ := s; dsimp only at *; have hmL := hp.length_eq
 refine xo 6 ?_
 have hpl : par j ≤ j := by unfold par; omega
 refine XO.know 7 (.int .i64 (par j : Int)) rfl (congrArg (Value.int .i64) (by rw [par_cast j]; exact wrap64_of (by omega) (by omega))) ?_
 refine oo 9 ?_
 refine XO.part 11 rfl (fun h1 => ?_) (fun h1 => ?_)
 · skip
   replace h1 := sp h1
   have hj0 : j = 0 := by rcases Nat.eq_zero_or_pos j with e | e; exact e; have := par_lt e; omega
   refine ox 9 ?_
   refine X.fallL ([plB b m]) Tryd.func74 (res0 Tryd.results74) ⟨_, rfl, m, hu.done (.inl hj0), hp, rfl⟩
 · skip
   replace h1 := sp h1
   have hpj : par j < m.length := by unfold par; omega
   have hj0 : 0 < j := by rcases Nat.eq_zero_or_pos j with e | e; subst e; exact absurd rfl h1; exact e
   refine oo 3 ?_
   refine XO.cM (mLess (l := m) (i := j) (j := par j) hs hpj (by omega)) ?_
   rintro _ _ ⟨l9, ⟨rfl, e9⟩, rfl⟩ _ e_; simp only [ca, na] at e_; subst e_
   obtain rfl := e9.symm
   refine XO.pu (Pu.not rfl) ?_
   refine ox 2 ?_
   refine X.part 17 rfl (fun h2 => ?_) (fun h2 => ?_)
   · skip
     replace h2 := sp h2
     refine xx 2 ?_
     refine X.sb [] ?_
     refine X.fallL ([plB b m]) Tryd.func74 (res0 Tryd.results74) ⟨_, rfl, m, hu.done (.inr (by omega)), hp, rfl⟩
   · skip
     replace h2 := sp h2
     refine xo 7 ?_
     refine XO.cM (mSwap (l := m) (i := par j) (j := j) hpj hs (by omega)) ?_
     rintro _ _ ⟨_, rfl, rfl⟩ _ e_; simp only [ca, na] at e_; subst e_
     refine ox 6 ?_
     refine X.sb [1, 0] ?_
     refine X.at (ih (sw m (par j) j, par j) ⟨by rw [sw_len]; exact hu.step rfl hs hj0 (by omega), (sw_perm hpj hs).trans hp, by dsimp only; rw [sw_len]; exact hpj⟩ (par_lt hj0)) subA leA
set_option maxHeartbeats 2000000 in
theorem down_ok (h : HeapDn l n 0) (hn : n ≤ l.length) (hL : l.length ≤ 1000000) : CallF Tryd.prog G 72 [plI b, .int .i64 0, .int .i64 (n : Int)] ([plB b l]) (Ret fun v q' => ∃ l', HeapP l' n ∧ l'.Perm l ∧ (∀ k, n ≤ k → hAt l' k = hAt l k) ∧ q' = [plB b l']) := by
 refine CallF.of Tryd.func72 Tryd.ntmps72 rfl (fun F cs => ?_)
 refine xx 11 ?_
 refine X.at (X.loop (fun (s : List Int × Nat) => HeapDn s.1 n s.2 ∧ s.1.Perm l ∧ (s.2 < n ∨ s.2 = 0) ∧ ∀ k, n ≤ k → hAt s.1 k = hAt l k) (fun s => [(0, plI b), (1, .int .i64 0), (2, .int .i64 (n : Int)), (7, .int .i64 (s.2 : Int))]) (fun s => (plB b s.1 :: F)) (fun s => (n - s.2)) (fun s hi_ ih => ?_) (l, 0) ⟨h, List.Perm.refl _, .inr rfl, fun _ _ => rfl⟩) subA leA
 try dsimp only at hi_ ih ⊢
 obtain ⟨hu, hp, hs, hk⟩ := hi_
 obtain ⟨m, i⟩ := s; dsimp only at *; have hmL := hp.length_eq
 refine xo 15 ?_
 refine XO.part 18 rfl (fun g1 => ?_) (fun g1 => ?_)
 · skip
   replace g1 := sp g1
   refine ox 13 ?_
   refine X.retL ([plB b m]) Tryd.func72 (res1 Tryd.results72 rfl) ⟨_, rfl, m, hu.done (fun k k1 k2 k3 => absurd k3 (by unfold par; omega)), hp, hk, rfl⟩
 · skip
   replace g1 := sp g1
   refine ox 4 ?_
   refine X.part 21 rfl (fun h1 => ?_) (fun h1 => ?_)
   · skip
     replace h1 := sp h1
     refine xx 9 ?_
     refine X.sb [6] ?_
     refine X.retL ([plB b m]) Tryd.func72 (res1 Tryd.results72 rfl) ⟨_, rfl, m, hu.done (fun k k1 k2 k3 => absurd k3 (by unfold par; omega)), hp, hk, rfl⟩
   · skip
     replace h1 := sp h1
     refine xo 20 ?_
     refine XO.part 28 rfl (fun h2 => ?_) (fun h2 => ?_)
     · skip
       replace h2 := sp h2
       refine oo 3 ?_
       refine XO.know 30 (.int .i64 ((2 * i + 2 : Nat) : Int)) rfl (congrArg (Value.int .i64) (by omega)) ?_
       refine XO.know 31 (.int .i64 ((2 * i + 1 : Nat) : Int)) rfl (congrArg (Value.int .i64) (by omega)) ?_
       refine XO.know 10 (.int .i64 ((2 * i + 2 : Nat) : Int)) rfl (congrArg (Value.int .i64) (by omega)) ?_
       refine XO.know 9 (.int .i64 ((2 * i + 1 : Nat) : Int)) rfl (congrArg (Value.int .i64) (by omega)) ?_
       refine XO.know 8 (.int .i64 ((2 * i + 1 : Nat) : Int)) rfl (congrArg (Value.int .i64) (by omega)) ?_
       refine XO.cM (mLess (l := m) (i := 2 * i + 2) (j := 2 * i + 1) (by omega) (by omega) (by omega)) ?_
       rintro _ _ ⟨l9, ⟨rfl, e9⟩, rfl⟩ _ e_; simp only [ca, na] at e_; subst e_
       obtain rfl := e9.symm
       refine ox 2 ?_
       refine X.sb [33, 9, 10, 0, 1, 2, 7] ?_
       refine X.part 33 rfl (fun h3 => ?_) (fun h3 => ?_)
       · skip
         replace h3 := sp h3
         have hM := (show ∀ k, 0 < k → k < n → par k = i → hAt m (2 * i + 2) ≤ hAt m k from fun k k1 k2 k3 => by have : k = 2 * i + 1 ∨ k = 2 * i + 2 := (by unfold par at k3; omega); rcases this with rfl | rfl <;> omega)
         refine xo 11 ?_
         refine XO.cM (mLess (l := m) (i := 2 * i + 2) (j := i) (by omega) (by omega) (by omega)) ?_
         rintro _ _ ⟨l9, ⟨rfl, e9⟩, rfl⟩ _ e_; simp only [ca, na] at e_; subst e_
         obtain rfl := e9.symm
         refine XO.pu (Pu.not rfl) ?_
         refine ox 1 ?_
         refine X.part 39 rfl (fun h4 => ?_) (fun h4 => ?_)
         · skip
           replace h4 := sp h4
           refine xx 9 ?_
           refine X.retL ([plB b m]) Tryd.func72 (res1 Tryd.results72 rfl) ⟨_, rfl, m, hu.done (fun k k1 k2 k3 => by have := hM k k1 k2 k3; omega), hp, hk, rfl⟩
         · skip
           replace h4 := sp h4
           refine xo 7 ?_
           refine XO.cM (mSwap (l := m) (i := i) (j := 2 * i + 2) (by omega) (by omega) (by omega)) ?_
           rintro _ _ ⟨_, rfl, rfl⟩ _ e_; simp only [ca, na] at e_; subst e_
           refine ox 6 ?_
           refine X.at (ih (sw m i (2 * i + 2), 2 * i + 2) ⟨hu.step (by omega) (by omega) (by omega) (by unfold par; omega) (by omega) hM, (sw_perm (by omega) (by omega)).trans hp, .inl (by dsimp only; omega), fun k k1 => by dsimp only; rw [hAt_sw (by omega) (by omega), if_neg (by omega), if_neg (by omega)]; exact hk k k1⟩ (by dsimp only; omega)) subA leA
       · skip
         replace h3 := sp h3
         have hM := (show ∀ k, 0 < k → k < n → par k = i → hAt m (2 * i + 1) ≤ hAt m k from fun k k1 k2 k3 => by have : k = 2 * i + 1 ∨ k = 2 * i + 2 := (by unfold par at k3; omega); rcases this with rfl | rfl <;> omega)
         refine xo 8 ?_
         refine XO.cM (mLess (l := m) (i := 2 * i + 1) (j := i) (by omega) (by omega) (by omega)) ?_
         rintro _ _ ⟨l9, ⟨rfl, e9⟩, rfl⟩ _ e_; simp only [ca, na] at e_; subst e_
         obtain rfl := e9.symm
         refine XO.pu (Pu.not rfl) ?_
         refine ox 1 ?_
         refine X.part 39 rfl (fun h4 => ?_) (fun h4 => ?_)
         · skip
           replace h4 := sp h4
           refine xx 9 ?_
           refine X.retL ([plB b m]) Tryd.func72 (res1 Tryd.results72 rfl) ⟨_, rfl, m, hu.done (fun k k1 k2 k3 => by have := hM k k1 k2 k3; omega), hp, hk, rfl⟩
         · skip
           replace h4 := sp h4
           refine xo 7 ?_
           refine XO.cM (mSwap (l := m) (i := i) (j := 2 * i + 1) (by omega) (by omega) (by omega)) ?_
           rintro _ _ ⟨_, rfl, rfl⟩ _ e_; simp only [ca, na] at e_; subst e_
           refine ox 6 ?_
           refine X.at (ih (sw m i (2 * i + 1), 2 * i + 1) ⟨hu.step (by omega) (by omega) (by omega) (by unfold par; omega) (by omega) hM, (sw_perm (by omega) (by omega)).trans hp, .inl (by dsimp only; omega), fun k k1 => by dsimp only; rw [hAt_sw (by omega) (by omega), if_neg (by omega), if_neg (by omega)]; exact hk k k1⟩ (by dsimp only; omega)) subA leA
     · skip
       replace h2 := sp h2
       refine oo 14 ?_
       have hM := (show ∀ k, 0 < k → k < n → par k = i → hAt m (2 * i + 1) ≤ hAt m k from fun k k1 k2 k3 => by have : k = 2 * i + 1 := (by unfold par at k3; omega); subst this; omega)
       refine XO.cM (mLess (l := m) (i := 2 * i + 1) (j := i) (by omega) (by omega) (by omega)) ?_
       rintro _ _ ⟨l9, ⟨rfl, e9⟩, rfl⟩ _ e_; simp only [ca, na] at e_; subst e_
       obtain rfl := e9.symm
       refine XO.pu (Pu.not rfl) ?_
       refine ox 1 ?_
       refine X.sb [39, 9, 0, 1, 2, 7] ?_
       refine X.part 39 rfl (fun h4 => ?_) (fun h4 => ?_)
       · skip
         replace h4 := sp h4
         refine xx 9 ?_
         refine X.retL ([plB b m]) Tryd.func72 (res1 Tryd.results72 rfl) ⟨_, rfl, m, hu.done (fun k k1 k2 k3 => by have := hM k k1 k2 k3; omega), hp, hk, rfl⟩
       · skip
         replace h4 := sp h4
         refine xo 7 ?_
         refine XO.cM (mSwap (l := m) (i := i) (j := 2 * i + 1) (by omega) (by omega) (by omega)) ?_
         rintro _ _ ⟨_, rfl, rfl⟩ _ e_; simp only [ca, na] at e_; subst e_
         refine ox 6 ?_
         refine X.at (ih (sw m i (2 * i + 1), 2 * i + 1) ⟨hu.step (by omega) (by omega) (by omega) (by unfold par; omega) (by omega) hM, (sw_perm (by omega) (by omega)).trans hp, .inl (by dsimp only; omega), fun k k1 => by dsimp only; rw [hAt_sw (by omega) (by omega), if_neg (by omega), if_neg (by omega)]; exact hk k k1⟩ (by dsimp only; omega)) subA leA
theorem hPush_ok (h : HeapP l l.length) (hL : l.length < 1000000) : CallF Tryd.prog G 56 [plI b, .iface 3 (.int .i64 z)] ([plB b l]) (Ret fun v q' => ∃ l', HeapP l' l'.length ∧ l'.Perm (z :: l) ∧ q' = [plB b l']) := by
 refine CallF.of Tryd.func56 Tryd.ntmps56 rfl (fun F cs => ?_)
 refine xo 4 ?_
 refine XO.cM (mPush (l := l) (z := z) (by omega)) ?_
 rintro _ _ ⟨_, rfl, rfl⟩ _ e_; simp only [ca, na] at e_; subst e_
 refine oo 4 ?_
 refine XO.cM (mLen (l := l ++ [z])) ?_
 rintro _ _ ⟨l9, ⟨rfl, e9⟩, rfl⟩ _ e_; simp only [ca, na] at e_; subst e_
 subst e9
 have hll : (l ++ [z]).length = l.length + 1 := by simp
 refine oo 1 ?_
 refine XO.know 10 (.int .i64 (l.length : Int)) rfl (congrArg (Value.int .i64) (by rw [hll]; omega)) ?_
 refine XO.cF Tryd.call74 (up_ok (l := l ++ [z]) (j := l.length) h.app (by omega) (by omega)) ?_
 rintro _ _ ⟨l8, hh, hp, rfl⟩ _ e_; simp only [ca, na] at e_; subst e_
 refine ox 1 ?_
 refine X.fallL ([plB b l8]) Tryd.func56 (res0 Tryd.results56) ⟨_, rfl, l8, hh, hp.trans (List.perm_append_comm (l₁ := l) (l₂ := [z])), rfl⟩
theorem hPop_ok (h : HeapP l l.length) (h0 : 0 < l.length) (hL : l.length ≤ 1000000) : CallF Tryd.prog G 53 [plI b] ([plB b l]) (Ret fun v q' => ∃ x l', v = .iface 3 (.int .i64 x) ∧ (x :: l').Perm l ∧ (∀ y ∈ l', x ≤ y) ∧ HeapP l' l'.length ∧ q' = [plB b l']) := by
 refine CallF.of Tryd.func53 Tryd.ntmps53 rfl (fun F cs => ?_)
 refine xo 7 ?_
 refine XO.cM (mLen (l := l)) ?_
 rintro _ _ ⟨l9, ⟨rfl, e9⟩, rfl⟩ _ e_; simp only [ca, na] at e_; subst e_
 subst e9
 refine oo 7 ?_
 refine XO.know 8 (.int .i64 ((l9.length - 1 : Nat) : Int)) rfl (congrArg (Value.int .i64) (by omega)) ?_
 refine XO.know 3 (.int .i64 ((l9.length - 1 : Nat) : Int)) rfl (congrArg (Value.int .i64) (by omega)) ?_
 refine XO.cM (mSwap (l := l9) (i := 0) (j := l9.length - 1) (by omega) (by omega) (by omega)) ?_
 rintro _ _ ⟨_, rfl, rfl⟩ _ e_; simp only [ca, na] at e_; subst e_
 have h0n : HeapDn (sw l9 0 (l9.length - 1)) (l9.length - 1) 0 := HeapDn.init (n := l9.length - 1) (by rw [show l9.length - 1 + 1 = l9.length by omega]; exact h) (by omega)
 refine oo 5 ?_
 refine XO.cF Tryd.call72 (down_ok (l := sw l9 0 (l9.length - 1)) (n := l9.length - 1) h0n (by rw [sw_len]; omega) (by rw [sw_len]; omega)) ?_
 rintro _ _ ⟨m, hm, hp, hk, rfl⟩ _ e_; simp only [ca, na] at e_; subst e_
 have hml := hp.length_eq; rw [sw_len] at hml
 refine oo 4 ?_
 refine XO.cM (mPop (l := m) (by omega) (by omega)) ?_
 rintro _ _ ⟨_, ⟨x, rfl, hx, rfl⟩, rfl⟩ _ e_; simp only [ca, na] at e_; subst e_
 obtain ⟨k1, k2⟩ := pop_plain h h0 hp hk hx
 refine ox 2 ?_
 refine X.retL ([plB b (m.take (m.length - 1))]) Tryd.func53 (res1 Tryd.results53 rfl) ⟨_, rfl, x, _, rfl, k1, k2, HeapP.take (n := m.length - 1) (by rw [hml]; exact hm) (by omega), rfl⟩
end
end Go.Proofs.YtbeeplmgcdnadaaDoor

