/- What functions of package tight, of its references and of its laws do: contracts of calls, proved by walking their code. -/
import Derived.Test.YtbeeplmgcdnadaaDoorP
import Derived.KernelRfl
set_option maxRecDepth 100000
set_option linter.unusedVariables false
set_option linter.unusedSimpArgs false
namespace Go.Proofs.YtbeeplmgcdnadaaDoor
open Go Go.RowKit Wx
attribute [local irreducible] Wx.lsH Wx.rsH Wx.lsM Wx.rsM Wx.stars

/-! ### threads made tight: what is cut out, in plain words -/
def zIns : Ins := ⟨0, 0, 0, 0⟩
def jm (i : Ins) : Bool := decide (19 ≤ i.c ∧ i.c ≤ 21)
/-- Where a place leads, if that is found within so many steps. -/
def led (l : List Ins) : Nat → Nat → Option Nat
  | 0, _ => none
  | k + 1, a => if (l.getD a zIns).c = 19 then led l k (l.getD a zIns).a.toNat else some a
def leadS (l : List Ins) (a : Nat) : Nat := (led l (l.length + 1) a).getD a
def leadsS (l : List Ins) : List Int := (List.range l.length).map fun i => (leadS l i : Int)
/-- Jumps renumbered. -/
def Ins.mv (f : Nat → Nat) (i : Ins) : Ins := if jm i = true then { i with a := (f i.a.toNat : Int) } else i
def straS (l : List Ins) : List Ins := l.map (Ins.mv (leadS l))
/-- How many are kept ahead of a place. -/
def kb (R : Nat → Bool) : Nat → Nat
  | 0 => 0
  | k + 1 => kb R k + (if R k = true then 0 else 1)
def cutS {α : Type} (R : Nat → Bool) : Nat → List α → List α
  | _, [] => []
  | k, x :: r => if R k = true then cutS R (k + 1) r else x :: cutS R (k + 1) r
def takeI (R : Nat → Bool) (l : List Ins) : List Ins := (cutS R 0 l).map (Ins.mv (kb R))
/-- Two cuts, one behind the other. -/
def both2 (R S : Nat → Bool) : Nat → Bool := fun j => R j || S (kb R j)
theorem kb_succ_le (R : Nat → Bool) (k : Nat) : kb R k ≤ kb R (k + 1) := by simp only [kb]; omega
theorem kb_mono (R : Nat → Bool) {a b : Nat} (h : a ≤ b) : kb R a ≤ kb R b := by
  induction b with
  | zero => rw [show a = 0 by omega]; exact Nat.le_refl _
  | succ b ih =>
    rcases Nat.lt_or_ge a (b + 1) with h1 | h1
    · exact Nat.le_trans (ih (by omega)) (kb_succ_le R b)
    · rw [show a = b + 1 by omega]; exact Nat.le_refl _
theorem kb_le (R : Nat → Bool) (k : Nat) : kb R k ≤ k := by
  induction k with
  | zero => exact Nat.le_refl _
  | succ k ih => simp only [kb]; split <;> omega
theorem kb_kept {R : Nat → Bool} {k : Nat} (h : R k = false) : kb R (k + 1) = kb R k + 1 := by simp [kb, h]
theorem kb_gone {R : Nat → Bool} {k : Nat} (h : R k = true) : kb R (k + 1) = kb R k := by simp [kb, h]
theorem kb_lt {R : Nat → Bool} {a b : Nat} (h : R a = false) (hab : a < b) : kb R a < kb R b := by
  have := kb_kept h; have := kb_mono R (show a + 1 ≤ b by omega); omega
theorem kb_inj {R : Nat → Bool} {a b : Nat} (ha : R a = false) (hb : R b = false) (h : kb R a = kb R b) : a = b := by
  rcases Nat.lt_trichotomy a b with e | e | e
  · have := kb_lt ha e; omega
  · exact e
  · have := kb_lt hb e; omega
theorem kb_eq {R : Nat → Bool} {a b : Nat} (hab : a ≤ b) (h : kb R a = kb R b) : ∀ j, a ≤ j → j < b → R j = true := by
  intro j h1 h2
  cases hr : R j with
  | true => rfl
  | false => have := kb_lt hr h2; have := kb_mono R h1; omega
theorem kb_all {R : Nat → Bool} {a b : Nat} (hab : a ≤ b) (h : ∀ j, a ≤ j → j < b → R j = true) : kb R a = kb R b := by
  induction b with
  | zero => rw [show a = 0 by omega]
  | succ b ih =>
    rcases Nat.lt_or_ge a (b + 1) with h1 | h1
    · rw [kb_gone (h b (by omega) (by omega)), ih (by omega) fun j h2 h3 => h j h2 (by omega)]
    · rw [show a = b + 1 by omega]
theorem kb_two (R S : Nat → Bool) (k : Nat) : kb S (kb R k) = kb (both2 R S) k := by
  induction k with
  | zero => rfl
  | succ k ih =>
    cases hr : R k with
    | true => rw [kb_gone hr, ih, kb_gone (by simp [both2, hr])]
    | false =>
      rw [kb_kept hr]
      cases hs : S (kb R k) with
      | true => rw [kb_gone hs, ih, kb_gone (by simp [both2, hs])]
      | false => rw [kb_kept hs, ih, kb_kept (by simp [both2, hr, hs])]
theorem kb_congr {R S : Nat → Bool} {k : Nat} (h : ∀ j, j < k → R j = S j) : kb R k = kb S k := by
  induction k with
  | zero => rfl
  | succ k ih => simp only [kb, ih fun j hj => h j (by omega), h k (by omega)]
theorem cutS_congr {α : Type} {R S : Nat → Bool} : ∀ (l : List α) (k : Nat), (∀ j, k ≤ j → j < k + l.length → R j = S j) → cutS R k l = cutS S k l
  | [], _, _ => rfl
  | x :: r, k, h => by
    have h1 := h k (Nat.le_refl _) (by simp)
    have h2 := cutS_congr r (k + 1) fun j a b => h j (by omega) (by simp; omega)
    simp only [cutS, h1, h2]
theorem cutS_none {α : Type} {R : Nat → Bool} : ∀ (l : List α) (k : Nat), (∀ j, k ≤ j → j < k + l.length → R j = false) → cutS R k l = l
  | [], _, _ => rfl
  | x :: r, k, h => by
    have h1 := h k (Nat.le_refl _) (by simp)
    have h2 := cutS_none r (k + 1) fun j a b => h j (by omega) (by simp; omega)
    simp [cutS, h1, h2]
theorem cutS_map {α β : Type} (R : Nat → Bool) (f : α → β) : ∀ (l : List α) (k : Nat), (cutS R k l).map f = cutS R k (l.map f)
  | [], _ => rfl
  | x :: r, k => by simp only [cutS, List.map_cons]; split <;> simp [cutS_map R f r (k + 1)]
theorem cutS_two {α : Type} (R S : Nat → Bool) : ∀ (l : List α) (k : Nat), cutS S (kb R k) (cutS R k l) = cutS (both2 R S) k l
  | [], _ => rfl
  | x :: r, k => by
    have ih := cutS_two R S r (k + 1)
    cases hr : R k with
    | true => rw [kb_gone hr] at ih; simp [cutS, hr, both2]; exact ih
    | false =>
      rw [kb_kept hr] at ih
      cases hs : S (kb R k) with
      | true => simp [cutS, hr, hs, both2]; exact ih
      | false => simp [cutS, hr, hs, both2]; exact ih
theorem cutS_len {α : Type} (R : Nat → Bool) : ∀ (l : List α) (k : Nat), (cutS R k l).length + kb R k = kb R (k + l.length)
  | [], k => by simp [cutS]
  | x :: r, k => by
    have ih := cutS_len R r (k + 1)
    rw [List.length_cons, show k + (r.length + 1) = k + 1 + r.length by omega]
    cases hr : R k with
    | true => rw [kb_gone hr] at ih; simp only [cutS, hr, if_true]; exact ih
    | false => rw [kb_kept hr] at ih; simp only [cutS, hr, if_false, List.length_cons, Bool.false_eq_true]; omega
theorem cutS_len0 {α : Type} (R : Nat → Bool) (l : List α) : (cutS R 0 l).length = kb R l.length := by have := cutS_len R l 0; simpa [kb] using this
theorem cutS_app {α : Type} (R : Nat → Bool) : ∀ (l m : List α) (k : Nat), cutS R k (l ++ m) = cutS R k l ++ cutS R (k + l.length) m
  | [], m, k => by simp [cutS]
  | x :: r, m, k => by
    have ih := cutS_app R r m (k + 1)
    rw [List.length_cons, show k + (r.length + 1) = k + 1 + r.length by omega]
    simp only [cutS, List.cons_append]
    split <;> simp [ih]
/-- What stands where, behind a cut. -/
theorem cutS_at {α : Type} (R : Nat → Bool) : ∀ (l : List α) (k p : Nat), p < l.length → R (k + p) = false → (cutS R k l)[kb R (k + p) - kb R k]? = l[p]?
  | [], _, p, h, _ => by simp at h
  | x :: r, k, 0, _, hr => by simp at hr; simp [cutS, hr]
  | x :: r, k, p + 1, h, hr => by
    rw [show k + (p + 1) = k + 1 + p by omega] at hr ⊢
    have ih := cutS_at R r (k + 1) p (by simpa using h) hr
    have hm := kb_mono R (show k + 1 ≤ k + 1 + p by omega)
    cases hk : R k with
    | true => rw [kb_gone hk] at ih; simp [cutS, hk]; exact ih
    | false =>
      rw [kb_kept hk] at ih hm
      have e : kb R (k + 1 + p) - kb R k = (kb R (k + 1 + p) - (kb R k + 1)) + 1 := by omega
      simp only [cutS, hk, e, Bool.false_eq_true, if_false, List.getElem?_cons_succ]; exact ih
theorem cutS_at0 {α : Type} {R : Nat → Bool} {l : List α} {p : Nat} (h : p < l.length) (hr : R p = false) : (cutS R 0 l)[kb R p]? = l[p]? := by
  have := cutS_at R l 0 p h (by simpa using hr); simpa [kb] using this
/-- Each place behind a cut stood somewhere. -/
theorem kb_onto {R : Nat → Bool} {n k : Nat} (h : k < kb R n) : ∃ p, p < n ∧ R p = false ∧ kb R p = k := by
  induction n with
  | zero => simp [kb] at h
  | succ n ih =>
    rcases Nat.lt_or_ge k (kb R n) with h1 | h1
    · obtain ⟨p, a, b, c⟩ := ih h1; exact ⟨p, by omega, b, c⟩
    · cases hr : R n with
      | true => rw [kb_gone hr] at h; omega
      | false => rw [kb_kept hr] at h; exact ⟨n, by omega, hr, by omega⟩
theorem mv_jm (f : Nat → Nat) (i : Ins) : jm (i.mv f) = jm i := by unfold Ins.mv; split <;> rfl
theorem mv_c (f : Nat → Nat) (i : Ins) : (i.mv f).c = i.c := by unfold Ins.mv; split <;> rfl
theorem mv_two (f g : Nat → Nat) (i : Ins) : (i.mv f).mv g = i.mv fun a => g (f a) := by
  unfold Ins.mv
  by_cases h : jm i = true
  · have : jm { i with a := (f i.a.toNat : Int) } = true := h
    simp [h, this]
  · simp [h]
theorem mv_congr {f g : Nat → Nat} {i : Ins} (h : jm i = true → f i.a.toNat = g i.a.toNat) : i.mv f = i.mv g := by
  unfold Ins.mv
  split
  · rename_i e; rw [h e]
  · rfl
theorem takeI_two (R S : Nat → Bool) (l : List Ins) : takeI S (takeI R l) = takeI (both2 R S) l := by
  unfold takeI
  have h := cutS_two R S l 0
  rw [show kb R 0 = 0 from rfl] at h
  rw [← cutS_map, List.map_map, h]
  apply List.map_congr_left
  intro i _
  rw [Function.comp_apply, mv_two]
  exact mv_congr fun _ => kb_two R S _
theorem takeI_len (R : Nat → Bool) (l : List Ins) : (takeI R l).length = kb R l.length := by unfold takeI; rw [List.length_map, cutS_len0]
theorem takeI_at {R : Nat → Bool} {l : List Ins} {p : Nat} (h : p < l.length) (hr : R p = false) : (takeI R l).getD (kb R p) zIns = (l.getD p zIns).mv (kb R) := by
  unfold takeI
  rw [List.getD_eq_getElem?_getD, List.getElem?_map, cutS_at0 h hr, List.getD_eq_getElem?_getD]
  simp [h]
theorem takeI_congr {R S : Nat → Bool} {l : List Ins} (hb : ∀ i ∈ l, jm i = true → i.a.toNat ≤ l.length) (h : ∀ j, j < l.length → R j = S j) : takeI R l = takeI S l := by
  unfold takeI
  rw [cutS_congr l 0 fun j _ h2 => h j (by omega)]
  apply List.map_congr_left
  intro i hi
  refine mv_congr fun hj => kb_congr fun j h2 => h j ?_
  have hm : i ∈ l := by
    have : ∀ (l : List Ins) (k : Nat), i ∈ cutS S k l → i ∈ l := by
      intro l
      induction l with
      | nil => intro k h; simp [cutS] at h
      | cons x r ih =>
        intro k h
        simp only [cutS] at h
        split at h
        · exact List.mem_cons_of_mem _ (ih _ h)
        · rcases List.mem_cons.1 h with h | h
          · exact h ▸ List.mem_cons_self ..
          · exact List.mem_cons_of_mem _ (ih _ h)
    exact this l 0 hi
  have := hb i hm hj
  omega
theorem straS_len (l : List Ins) : (straS l).length = l.length := by simp [straS]
theorem getD_lt' {α : Type} {l : List α} {i : Nat} {z : α} (h : i < l.length) : l.getD i z = l[i] := by simp [List.getD_eq_getElem?_getD, h]
theorem straS_at (l : List Ins) {p : Nat} (h : p < l.length) : (straS l).getD p zIns = (l.getD p zIns).mv (leadS l) := by
  rw [getD_lt' (by simpa [straS] using h), getD_lt' h]; simp [straS]
/-! ### what leads where -/
theorem led_mono {l : List Ins} {j : Nat} : ∀ {k a m : Nat}, led l k a = some j → k ≤ m → led l m a = some j
  | 0, _, _, h, _ => by simp [led] at h
  | k + 1, a, m, h, hm => by
    obtain ⟨m, rfl⟩ : ∃ x, m = x + 1 := ⟨m - 1, by omega⟩
    simp only [led] at h ⊢
    split
    · rename_i e; rw [if_pos e] at h; exact led_mono h (by omega)
    · rename_i e; rw [if_neg e] at h; exact h
/-- Nothing is found from there on. -/
def lost (l : List Ins) (a : Nat) : Prop := ∀ k, led l k a = none
theorem led_jump {l : List Ins} {a : Nat} (h : (l.getD a zIns).c = 19) (k : Nat) : led l (k + 1) a = led l k (l.getD a zIns).a.toNat := if_pos h
theorem lost_loop {l : List Ins} {a k : Nat} (hk : 1 ≤ k) (h : ∀ m, led l (k + m) a = led l m a) : lost l a := by
  have h1 : ∀ t, led l (t * k) a = none := by
    intro t
    induction t with
    | zero => simp [led]
    | succ t ih => rw [Nat.add_mul, Nat.one_mul, Nat.add_comm, h]; exact ih
  intro n
  cases e : led l n a with
  | none => rfl
  | some j => have := led_mono e (Nat.le_mul_of_pos_right n hk); rw [h1] at this; cases this
theorem lost_jump {l : List Ins} {a : Nat} (h : (l.getD a zIns).c = 19) : lost l a ↔ lost l (l.getD a zIns).a.toNat := by
  constructor
  · intro h1 k; rw [← led_jump h]; exact h1 _
  · intro h1 k
    cases k with
    | zero => rfl
    | succ k => rw [led_jump h]; exact h1 k
theorem lost_c {l : List Ins} {a : Nat} (h : lost l a) : (l.getD a zIns).c = 19 := by
  have := h 1
  simp only [led] at this
  split at this
  · rename_i e; exact e
  · cases this
theorem led_end {l : List Ins} {j : Nat} : ∀ {k a : Nat}, led l k a = some j → (l.getD j zIns).c ≠ 19
  | 0, _, h => by simp [led] at h
  | k + 1, a, h => by
    simp only [led] at h
    split at h
    · exact led_end h
    · rename_i e; cases h; exact e
theorem led_lt {l : List Ins} (hb : ∀ i ∈ l, i.c = 19 → i.a.toNat < l.length) {j : Nat} : ∀ {k a : Nat}, a < l.length → led l k a = some j → j < l.length
  | 0, _, _, h => by simp [led] at h
  | k + 1, a, ha, h => by
    simp only [led] at h
    split at h
    · rename_i e
      rw [getD_lt' ha] at e h
      exact led_lt hb (hb _ (List.getElem_mem ha) e) h
    · cases h; exact ha
/-- What is written down of where places lead, while they are gone over: -2 not yet, -1 under way or lost. -/
def stl (so : List Int) : Nat := so.countP (fun x => decide (0 ≤ x))
structure LI (l : List Ins) (so : List Int) : Prop where
  len : so.length = l.length
  low : ∀ i, i < so.length → -2 ≤ so.getD i 0
  hi : ∀ i, i < so.length → 0 ≤ so.getD i 0 → led l (stl so) i = some (so.getD i 0).toNat
  neg : ∀ i, i < so.length → so.getD i 0 = -1 → (l.getD i zIns).c = 19
def wayTo (l : List Ins) (i a : Nat) : Prop := ∃ k, 1 ≤ k ∧ ∀ m, led l (k + m) i = led l m a
/-- What is told of one place. -/
def LD (l : List Ins) (so so' : List Int) (a : Nat) (r : Int) : Prop :=
  LI l so' ∧ (∀ i, i < so.length → so.getD i 0 ≠ -2 → so'.getD i 0 = so.getD i 0) ∧ (∀ i, i < so.length → so'.getD i 0 = -1 → so.getD i 0 = -1 ∨ lost l i) ∧ so'.getD a 0 = r ∧ -1 ≤ r ∧ (r = -1 → lost l a)
theorem getD_setI {so : List Int} {i j : Nat} {v : Int} (h : i < so.length) : (so.set i v).getD j 0 = if j = i then v else so.getD j 0 := by
  simp only [List.getD_eq_getElem?_getD, List.getElem?_set]
  by_cases e : j = i
  · subst e; simp [h]
  · have e' : ¬ i = j := fun x => e x.symm
    simp [e, e']
theorem stl_set {so : List Int} {i : Nat} {v : Int} (h : i < so.length) (h1 : so.getD i 0 < 0) : stl (so.set i v) = stl so + (if 0 ≤ v then 1 else 0) := by
  unfold stl
  induction so generalizing i with
  | nil => simp at h
  | cons x r ih =>
    cases i with
    | zero =>
      simp only [List.getD_cons_zero] at h1
      have hx : decide (0 ≤ x) = false := decide_eq_false (by omega)
      by_cases hv : 0 ≤ v
      · rw [List.set_cons_zero, List.countP_cons, List.countP_cons]; simp [hx, hv]
      · rw [List.set_cons_zero, List.countP_cons, List.countP_cons]; simp [hx, hv]
    | succ i =>
      simp only [List.getD_cons_succ] at h1
      have := ih (by simpa using h) h1
      rw [List.set_cons_succ, List.countP_cons, List.countP_cons, this]; omega
theorem stl_le (so : List Int) : stl so ≤ so.length := List.countP_le_length
/-- A place that is no jump. -/
theorem LD.plain {l : List Ins} {so : List Int} {a : Nat} (h : LI l so) (ha : a < so.length) (hc : (l.getD a zIns).c ≠ 19) : LD l so (so.set a (a : Int)) a a := by
  have hn : so.getD a 0 = -2 ∨ so.getD a 0 = (a : Int) := by
    have h1 := h.low a ha
    rcases Int.lt_or_le (so.getD a 0) 0 with h2 | h2
    · have h3 : so.getD a 0 ≠ -1 := fun e => hc (h.neg a ha e)
      left; omega
    · right
      have h3 := h.hi a ha h2
      cases hk : stl so with
      | zero => rw [hk] at h3; cases h3
      | succ k =>
        rw [hk] at h3
        have h4 : led l (k + 1) a = some a := if_neg hc
        rw [h4] at h3
        have := Option.some.inj h3; omega
  rcases hn with hn | hn
  · have e := fun j => getD_setI (so := so) (i := a) (j := j) (v := (a : Int)) ha
    have hs := stl_set (so := so) (i := a) (v := (a : Int)) ha (by omega)
    rw [if_pos (by omega)] at hs
    refine ⟨⟨by rw [List.length_set]; exact h.len, fun i hi => ?_, fun i hi h0 => ?_, fun i hi h0 => ?_⟩, fun i hi h1 => ?_, fun i hi h1 => ?_, by rw [e, if_pos rfl], by omega, by omega⟩
    · rw [List.length_set] at hi; rw [e]; split; omega; exact h.low i hi
    · rw [List.length_set] at hi
      rw [e] at h0 ⊢
      split
      · rename_i e1; subst e1; rw [hs, Int.toNat_natCast]; exact if_neg hc
      · rename_i e1; rw [if_neg e1] at h0; exact led_mono (h.hi i hi h0) (by omega)
    · rw [List.length_set] at hi; rw [e] at h0; split at h0; omega; exact h.neg i hi h0
    · rw [e, if_neg]; rintro rfl; exact h1 hn
    · rw [e] at h1; split at h1
      · omega
      · exact .inl h1
  · have e : so.set a (a : Int) = so := by
      rw [← hn, getD_lt' ha]; simp
    rw [e]
    exact ⟨h, fun _ _ _ => rfl, fun i _ h1 => .inl h1, hn, by omega, by omega⟩
/-- A place that is known. -/
theorem LD.known {l : List Ins} {so : List Int} {a : Nat} (h : LI l so) (hw : ∀ i, i < so.length → so.getD i 0 = -1 → lost l i ∨ wayTo l i a) (ha : a < so.length) (hn : so.getD a 0 ≠ -2) : LD l so so a (so.getD a 0) := by
  refine ⟨h, fun _ _ _ => rfl, fun i _ h1 => .inl h1, rfl, ?_, fun h1 => ?_⟩
  · have := h.low a ha; omega
  · rcases hw a ha h1 with h2 | ⟨k, hk, h2⟩
    · exact h2
    · exact lost_loop hk h2
/-- A jump that is gone over the first time: ahead of the call .. -/
theorem LD.start {l : List Ins} {so : List Int} {a : Nat} (h : LI l so) (hw : ∀ i, i < so.length → so.getD i 0 = -1 → lost l i ∨ wayTo l i a) (ha : a < so.length) (hc : (l.getD a zIns).c = 19) (hn : so.getD a 0 = -2) :
    LI l (so.set a (-1)) ∧ ∀ i, i < (so.set a (-1)).length → (so.set a (-1)).getD i 0 = -1 → lost l i ∨ wayTo l i (l.getD a zIns).a.toNat := by
  have e := fun j => getD_setI (so := so) (i := a) (j := j) (v := -1) ha
  have hs := stl_set (so := so) (i := a) (v := -1) ha (by omega)
  rw [if_neg (by omega)] at hs
  refine ⟨⟨by rw [List.length_set]; exact h.len, fun i hi => ?_, fun i hi h0 => ?_, fun i hi h0 => ?_⟩, fun i hi h1 => ?_⟩
  · rw [List.length_set] at hi; rw [e]; split; omega; exact h.low i hi
  · rw [List.length_set] at hi
    rw [e] at h0 ⊢
    split
    · rename_i e1; rw [if_pos e1] at h0; omega
    · rename_i e1; rw [if_neg e1] at h0; rw [hs]; exact h.hi i hi h0
  · rw [List.length_set] at hi
    rw [e] at h0
    split at h0
    · rename_i e1; rw [e1]; exact hc
    · exact h.neg i hi h0
  · rw [List.length_set] at hi
    rw [e] at h1
    split at h1
    · rename_i e1; subst e1; exact .inr ⟨1, Nat.le_refl _, fun m => by rw [Nat.add_comm]; exact led_jump hc m⟩
    · rcases hw i hi h1 with h2 | ⟨k, hk, h2⟩
      · exact .inl h2
      · exact .inr ⟨k + 1, by omega, fun m => by rw [Nat.add_assoc, h2, Nat.add_comm 1 m]; exact led_jump hc m⟩
/-- .. and behind it. -/
theorem LD.stop {l : List Ins} {so so2 : List Int} {a : Nat} {r : Int} (h0 : LI l so) (ha : a < so.length) (hc : (l.getD a zIns).c = 19) (hn : so.getD a 0 = -2)
    (h : LD l (so.set a (-1)) so2 (l.getD a zIns).a.toNat r) (hl : (l.getD a zIns).a.toNat < so.length) : LD l so (so2.set a r) a r := by
  obtain ⟨h1, h2, h3, h4, h5, h6⟩ := h
  have e := fun j => getD_setI (so := so) (i := a) (j := j) (v := -1) ha
  have hl2 : so2.length = so.length := by rw [h1.len, h0.len]
  have hal : a < so2.length := by omega
  have e2 := fun j => getD_setI (so := so2) (i := a) (j := j) (v := r) hal
  have ha2 : so2.getD a 0 = -1 := by rw [h2 a (by rw [List.length_set]; exact ha) (by rw [e, if_pos rfl]; omega), e, if_pos rfl]
  have hs := stl_set (so := so2) (i := a) (v := r) hal (by omega)
  refine ⟨⟨by rw [List.length_set]; exact h1.len, fun i hi => ?_, fun i hi hz => ?_, fun i hi hz => ?_⟩, fun i hi hz => ?_, fun i hi hz => ?_, by rw [e2, if_pos rfl], h5, fun hz => (lost_jump hc).2 (h6 hz)⟩
  · rw [List.length_set] at hi; rw [e2]; split; omega; exact h1.low i hi
  · rw [List.length_set] at hi
    rw [e2] at hz ⊢
    split
    · rename_i e1; rw [if_pos e1] at hz; subst e1
      rw [hs, if_pos hz, led_jump hc]
      have := h1.hi (l.getD i zIns).a.toNat (by omega) (by rw [h4]; exact hz)
      rw [h4] at this; exact this
    · rename_i e1; rw [if_neg e1] at hz; exact led_mono (h1.hi i hi hz) (by omega)
  · rw [List.length_set] at hi
    rw [e2] at hz
    split at hz
    · rename_i e1; rw [e1]; exact hc
    · exact h1.neg i hi hz
  · rw [e2]
    split
    · rename_i e1; subst e1; exact absurd hn hz
    · rename_i e1; rw [h2 i (by rw [List.length_set]; exact hi) (by rw [e, if_neg e1]; exact hz), e, if_neg e1]
  · rw [e2] at hz
    split at hz
    · rename_i e1; subst e1; exact .inr ((lost_jump hc).2 (h6 hz))
    · rename_i e1
      rcases h3 i (by rw [List.length_set]; exact hi) hz with h7 | h7
      · rw [e, if_neg e1] at h7; exact .inl h7
      · exact .inr h7
theorem LI.init (l : List Ins) : LI l (List.replicate l.length (-2)) := by
  have e : ∀ i, i < l.length → (List.replicate l.length (-2 : Int)).getD i 0 = -2 := fun i hi => by simp [List.getD_eq_getElem?_getD, hi]
  refine ⟨by simp, fun i hi => ?_, fun i hi h => ?_, fun i hi h => ?_⟩
  · rw [List.length_replicate] at hi; rw [e i hi]; omega
  · rw [List.length_replicate] at hi; rw [e i hi] at h; omega
  · rw [List.length_replicate] at hi; rw [e i hi] at h; omega
/-- What is left undone is lost. -/
theorem LI.done {l : List Ins} {so : List Int} (h : LI l so) (h1 : ∀ i, i < so.length → so.getD i 0 ≠ -2) (h2 : ∀ i, i < so.length → so.getD i 0 = -1 → lost l i) {i : Nat} (hi : i < so.length) :
    (if so.getD i 0 = -1 then (i : Int) else so.getD i 0) = leadS l i := by
  have hl := stl_le so
  rw [h.len] at hl
  split
  · rename_i e; unfold leadS; rw [h2 i hi e]; rfl
  · rename_i e
    have h3 := h.low i hi; have h4 := h1 i hi
    have h5 : 0 ≤ so.getD i 0 := by omega
    unfold leadS
    rw [led_mono (h.hi i hi h5) (show stl so ≤ l.length + 1 by omega), Option.getD_some, Int.toNat_of_nonneg h5]
/-- Jumps that go on for longer than there are places go on for ever. -/
theorem nodup_le : ∀ (n : Nat) (L : List Nat), L.Nodup → (∀ x ∈ L, x < n) → L.length ≤ n
  | 0, L, _, h => by
    cases L with
    | nil => simp
    | cons x r => exact absurd (h x (List.mem_cons_self ..)) (by omega)
  | n + 1, L, hn, h => by
    have h1 := nodup_le n (L.erase n) (hn.erase n) fun x hx => by
      have h2 := h x (List.mem_of_mem_erase hx)
      have h3 : x ≠ n := fun e => by subst e; exact (hn.not_mem_erase) hx
      omega
    by_cases hm : n ∈ L
    · have := List.length_erase_of_mem hm; omega
    · rw [List.erase_of_not_mem hm] at h1; omega
theorem lost_vis (l : List Ins) : ∀ (k a : Nat) (V : List Nat), V.Nodup → (∀ v ∈ V, v < l.length ∧ wayTo l v a) → l.length + 1 ≤ V.length + k → led l k a = none → lost l a
  | 0, a, V, h1, h2, h3, _ => by have := nodup_le l.length V h1 fun v hv => (h2 v hv).1; omega
  | k + 1, a, V, h1, h2, h3, h4 => by
    simp only [led] at h4
    split at h4
    · rename_i hc
      by_cases hm : a ∈ V
      · obtain ⟨_, t, ht, hw⟩ := h2 a hm; exact lost_loop ht hw
      · have ha : a < l.length := by
          rcases Nat.lt_or_ge a l.length with h | h
          · exact h
          · rw [List.getD_eq_getElem?_getD, List.getElem?_eq_none h] at hc; cases hc
        refine (lost_jump hc).2 (lost_vis l k _ (a :: V) (List.nodup_cons.2 ⟨hm, h1⟩) (fun v hv => ?_) (by rw [List.length_cons]; omega) h4)
        rcases List.mem_cons.1 hv with rfl | hv
        · exact ⟨ha, 1, Nat.le_refl _, fun m => by rw [Nat.add_comm]; exact led_jump hc m⟩
        · obtain ⟨h5, t, ht, hw⟩ := h2 v hv
          exact ⟨h5, t + 1, by omega, fun m => by rw [Nat.add_assoc, hw, Nat.add_comm 1 m]; exact led_jump hc m⟩
    · cases h4
theorem lost_of_len {l : List Ins} {a : Nat} (h : led l (l.length + 1) a = none) : lost l a :=
  lost_vis l (l.length + 1) a [] List.nodup_nil (fun v hv => by cases hv) (by simp) h

/-! ### what is come to -/
inductive Rch (l : List Ins) : Nat → Prop
  | zero : 0 < l.length → Rch l 0
  | step {i : Nat} {y : Int} : Rch l i → y ∈ nxt (l.getD i zIns) i → 0 ≤ y → y.toNat < l.length → Rch l y.toNat
theorem Rch.lt {l : List Ins} {i : Nat} (h : Rch l i) : i < l.length := by cases h <;> assumption
def markS (n : Nat) (o : List Bool) (ys : List Int) : List Bool := ys.foldl (fun o y => if y < (n : Int) then o.set y.toNat true else o) o
def pass1 (l : List Ins) (o : List Bool) (i : Nat) : List Bool := if o.getD i false = true then markS l.length o (nxt (l.getD i zIns) i) else o
def passS (l : List Ins) (o : List Bool) (is : List Nat) : List Bool := is.foldl (pass1 l) o
def turnsS (l : List Ins) : Nat → List Bool → List Bool
  | 0, o => o
  | k + 1, o => turnsS l k (passS l o (List.range l.length))
def comeS (l : List Ins) : List Bool := turnsS l l.length ((List.replicate l.length false).set 0 true)
def unr (l : List Ins) (j : Nat) : Bool := !(comeS l).getD j false
def SubB (o o' : List Bool) : Prop := o'.length = o.length ∧ ∀ i, o.getD i false = true → o'.getD i false = true
theorem SubB.refl (o : List Bool) : SubB o o := ⟨rfl, fun _ h => h⟩
theorem SubB.trans {a b c : List Bool} (h : SubB a b) (k : SubB b c) : SubB a c := ⟨by rw [k.1, h.1], fun i e => k.2 i (h.2 i e)⟩
theorem getD_setB {o : List Bool} {i j : Nat} {b : Bool} (h : i < o.length) : (o.set i b).getD j false = if j = i then b else o.getD j false := by
  simp only [List.getD_eq_getElem?_getD, List.getElem?_set]
  by_cases e : j = i
  · subst e; simp [h]
  · have e' : ¬ i = j := fun x => e x.symm
    simp [e, e']
theorem SubB.cnt : ∀ {o o' : List Bool}, SubB o o' → o.countP id ≤ o'.countP id ∧ (o.countP id = o'.countP id → o' = o)
  | [], [], _ => ⟨Nat.le_refl _, fun _ => rfl⟩
  | [], _ :: _, h => by cases h.1
  | _ :: _, [], h => by cases h.1
  | x :: r, y :: s, h => by
    have h1 : SubB r s := ⟨by simpa using h.1, fun i e => by simpa using h.2 (i + 1) (by simpa using e)⟩
    obtain ⟨k1, k2⟩ := SubB.cnt h1
    have h2 := h.2 0
    simp only [List.getD_cons_zero] at h2
    rw [List.countP_cons, List.countP_cons]
    cases x <;> cases y
    · exact ⟨by simpa using k1, fun e => by rw [k2 (by simpa using e)]⟩
    · exact ⟨by simp; omega, fun e => by simp at e; omega⟩
    · cases h2 rfl
    · exact ⟨by simpa using k1, fun e => by rw [k2 (by simpa using e)]⟩
theorem markS_ok {n : Nat} : ∀ {ys : List Int} {o : List Bool}, o.length = n → (∀ y ∈ ys, 0 ≤ y) → SubB o (markS n o ys) ∧ (∀ y ∈ ys, y < (n : Int) → (markS n o ys).getD y.toNat false = true) ∧ ∀ j, (markS n o ys).getD j false = true → o.getD j false = true ∨ ∃ y ∈ ys, y.toNat = j ∧ y < (n : Int)
  | [], o, _, _ => ⟨.refl o, by simp, fun j h => .inl h⟩
  | y :: r, o, ho, h0 => by
    have hy := h0 y (List.mem_cons_self ..)
    have hr := fun x hx => h0 x (List.mem_cons_of_mem _ hx)
    show SubB o (markS n (if y < (n : Int) then o.set y.toNat true else o) r) ∧ _
    by_cases e : y < (n : Int)
    · have hl : y.toNat < o.length := by omega
      have g := fun j => getD_setB (o := o) (i := y.toNat) (j := j) (b := true) hl
      have hs : SubB o (o.set y.toNat true) := ⟨by simp, fun i hi => by rw [g]; split <;> first | rfl | exact hi⟩
      obtain ⟨a, b, c⟩ := markS_ok (n := n) (ys := r) (o := o.set y.toNat true) (by simpa using ho) hr
      have em : markS n o (y :: r) = markS n (o.set y.toNat true) r := by simp [markS, e]
      rw [if_pos e, em]
      refine ⟨hs.trans a, fun x hx hxn => ?_, fun j hj => ?_⟩
      · rcases List.mem_cons.1 hx with rfl | hx
        · exact a.2 _ (by rw [g, if_pos rfl])
        · exact b x hx hxn
      · rcases c j hj with h1 | ⟨x, hx, h1⟩
        · rw [g] at h1
          split at h1
          · rename_i e1; exact .inr ⟨y, List.mem_cons_self .., e1.symm, e⟩
          · exact .inl h1
        · exact .inr ⟨x, List.mem_cons_of_mem _ hx, h1⟩
    · obtain ⟨a, b, c⟩ := markS_ok (n := n) (ys := r) (o := o) ho hr
      have em : markS n o (y :: r) = markS n o r := by simp [markS, e]
      rw [if_neg e, em]
      refine ⟨a, fun x hx hxn => ?_, fun j hj => ?_⟩
      · rcases List.mem_cons.1 hx with rfl | hx
        · exact absurd hxn e
        · exact b x hx hxn
      · rcases c j hj with h1 | ⟨x, hx, h1⟩
        · exact .inl h1
        · exact .inr ⟨x, List.mem_cons_of_mem _ hx, h1⟩
theorem nxt_nn {x : Ins} (h : 0 ≤ x.a) (a : Nat) : ∀ y ∈ nxt x (a : Int), 0 ≤ y := by
  intro y hy
  unfold nxt at hy
  split at hy
  · cases hy
  split at hy
  · rw [List.mem_singleton.1 hy]; exact h
  split at hy
  · split at hy
    · rw [List.mem_singleton.1 hy]; exact h
    · rcases List.mem_cons.1 hy with rfl | hy
      · exact h
      · rw [List.mem_singleton.1 hy]; omega
  · rw [List.mem_singleton.1 hy]; omega
theorem zIns_nn {l : List Ins} (hb : ∀ i ∈ l, 0 ≤ i.a) (p : Nat) : 0 ≤ (l.getD p zIns).a := by
  rcases Nat.lt_or_ge p l.length with h | h
  · rw [getD_lt' h]; exact hb _ (List.getElem_mem h)
  · rw [List.getD_eq_getElem?_getD, List.getElem?_eq_none h]; decide
section
variable {l : List Ins}
theorem pass1_ok (hb : ∀ i ∈ l, 0 ≤ i.a) {o : List Bool} (ho : o.length = l.length) (i : Nat) : SubB o (pass1 l o i) ∧ (o.getD i false = true → ∀ y ∈ nxt (l.getD i zIns) i, y < (l.length : Int) → (pass1 l o i).getD y.toNat false = true) ∧ ((∀ j, o.getD j false = true → Rch l j) → ∀ j, (pass1 l o i).getD j false = true → Rch l j) := by
  unfold pass1
  split
  · rename_i h
    have hn := nxt_nn (zIns_nn hb i) i
    obtain ⟨a, b, c⟩ := markS_ok (n := l.length) (o := o) ho hn
    refine ⟨a, fun _ => b, fun hR j hj => ?_⟩
    rcases c j hj with h1 | ⟨y, hy, h1, h2⟩
    · exact hR j h1
    · subst h1; exact .step (hR i h) hy (hn y hy) (by have := hn y hy; omega)
  · rename_i h
    exact ⟨.refl o, fun e => absurd e h, fun hR => hR⟩
theorem passS_ok (hb : ∀ i ∈ l, 0 ≤ i.a) : ∀ {is : List Nat} {o : List Bool}, o.length = l.length → SubB o (passS l o is) ∧ (∀ i ∈ is, o.getD i false = true → ∀ y ∈ nxt (l.getD i zIns) i, y < (l.length : Int) → (passS l o is).getD y.toNat false = true) ∧ ((∀ j, o.getD j false = true → Rch l j) → ∀ j, (passS l o is).getD j false = true → Rch l j)
  | [], o, _ => ⟨.refl o, by simp, fun hR => hR⟩
  | i :: r, o, ho => by
    obtain ⟨a, b, c⟩ := pass1_ok hb ho i
    obtain ⟨a2, b2, c2⟩ := passS_ok hb (is := r) (o := pass1 l o i) (by rw [a.1]; exact ho)
    have em : passS l o (i :: r) = passS l (pass1 l o i) r := rfl
    rw [em]
    refine ⟨a.trans a2, fun x hx hox y hy hyl => ?_, fun hR => c2 (c hR)⟩
    rcases List.mem_cons.1 hx with rfl | hx
    · exact a2.2 _ (b hox y hy hyl)
    · exact b2 x hx (a.2 _ hox) y hy hyl
theorem turnsS_fix {o : List Bool} (h : passS l o (List.range l.length) = o) : ∀ k, turnsS l k o = o
  | 0 => rfl
  | k + 1 => by rw [turnsS, h]; exact turnsS_fix h k
theorem turnsS_ok (hb : ∀ i ∈ l, 0 ≤ i.a) : ∀ (k : Nat) {o : List Bool}, o.length = l.length → SubB o (turnsS l k o) ∧ ((∀ j, o.getD j false = true → Rch l j) → ∀ j, (turnsS l k o).getD j false = true → Rch l j) ∧ (passS l (turnsS l k o) (List.range l.length) = turnsS l k o ∨ o.countP id + k ≤ (turnsS l k o).countP id)
  | 0, o, _ => ⟨.refl o, fun h => h, .inr (Nat.le_refl _)⟩
  | k + 1, o, ho => by
    obtain ⟨a, _, c⟩ := passS_ok hb (is := List.range l.length) ho
    obtain ⟨a2, b2, c2⟩ := turnsS_ok hb k (o := passS l o (List.range l.length)) (by rw [a.1]; exact ho)
    refine ⟨a.trans a2, fun hR => b2 (c hR), ?_⟩
    by_cases e : passS l o (List.range l.length) = o
    · left
      have : turnsS l (k + 1) o = o := turnsS_fix e (k + 1)
      rw [this]; exact e
    · rcases c2 with h | h
      · exact .inl h
      · right
        obtain ⟨k1, k2⟩ := a.cnt
        have : o.countP id ≠ (passS l o (List.range l.length)).countP id := fun h2 => e (k2 h2)
        show o.countP id + (k + 1) ≤ (turnsS l k (passS l o (List.range l.length))).countP id
        omega
theorem comeS_len (hb : ∀ i ∈ l, 0 ≤ i.a) : (comeS l).length = l.length := by
  have := (turnsS_ok hb l.length (o := (List.replicate l.length false).set 0 true) (by simp)).1.1
  simpa [comeS] using this
theorem comeS_iff (hb : ∀ i ∈ l, 0 ≤ i.a) (j : Nat) : (comeS l).getD j false = true ↔ Rch l j := by
  obtain ⟨a, b, c⟩ := turnsS_ok hb l.length (o := (List.replicate l.length false).set 0 true) (by simp)
  have ef : ∀ j, (List.replicate l.length false).getD j false = false := fun j => by rw [List.getD_eq_getElem?_getD, List.getElem?_replicate]; split <;> rfl
  rcases Nat.eq_zero_or_pos l.length with h0 | h0
  · constructor
    · intro h
      have : (comeS l).length = 0 := by rw [comeS_len hb, h0]
      rw [List.eq_nil_of_length_eq_zero this] at h; simp at h
    · intro h; have := h.lt; omega
  · have g := fun j => getD_setB (o := List.replicate l.length false) (i := 0) (j := j) (b := true) (by simpa using h0)
    have hc1 : 1 ≤ ((List.replicate l.length false).set 0 true).countP id := by
      rw [List.one_le_countP_iff]
      exact ⟨true, List.mem_iff_getElem.2 ⟨0, by simpa using h0, by simp⟩, rfl⟩
    constructor
    · refine b (fun j h => ?_) j
      rw [g] at h
      split at h
      · rename_i e; subst e; exact .zero h0
      · rw [ef] at h; cases h
    · intro h
      have hfix : passS l (comeS l) (List.range l.length) = comeS l := by
        rcases c with h1 | h1
        · exact h1
        · have := List.countP_le_length (p := id) (l := turnsS l l.length ((List.replicate l.length false).set 0 true))
          rw [a.1] at this; simp only [List.length_set, List.length_replicate] at this
          omega
      have hp := (passS_ok hb (is := List.range l.length) (comeS_len hb)).2.1
      rw [hfix] at hp
      induction h with
      | zero h => exact a.2 0 (by rw [g, if_pos rfl])
      | step hR hy h1 h2 ih => exact hp _ (by simpa using hR.lt) ih _ hy (by omega)
theorem unr_iff (hb : ∀ i ∈ l, 0 ≤ i.a) (j : Nat) : unr l j = false ↔ Rch l j := by
  rw [← comeS_iff hb, unr]; simp
/-! going over what is come to, with a list of what is to be looked at -/
structure PI (l : List Ins) (out : List Bool) (todo : List Int) : Prop where
  len : out.length = l.length
  rch : ∀ j, j < l.length → out.getD j false = false → Rch l j
  td : ∀ x ∈ todo, 0 ≤ x ∧ x.toNat < l.length ∧ Rch l x.toNat
  cls : ∀ j, j < l.length → out.getD j false = false → ∀ y ∈ nxt (l.getD j zIns) j, out.getD y.toNat false = false ∨ y ∈ todo
  zer : out.getD 0 false = false ∨ (0 : Int) ∈ todo
def pushS (i : Ins) (a : Nat) : List Int := (if jm i = true then [i.a] else []) ++ (if i.c ≠ 19 ∧ i.c ≠ 34 then [(a : Int) + 1] else [])
theorem pushS_mem (i : Ins) (a : Nat) (y : Int) : y ∈ pushS i a ↔ y ∈ nxt i a := by
  unfold pushS nxt jm
  by_cases h1 : i.c = 34
  · simp [h1]
  · by_cases h2 : i.c = 19
    · simp [h2]
    · by_cases h3 : i.c = 20 ∨ i.c = 21
      · have : 19 ≤ i.c ∧ i.c ≤ 21 := by omega
        simp [h1, h2, h3, this]
        by_cases h4 : i.a = a + 1
        · simp [h4]
        · simp [h4]
      · have : ¬ (19 ≤ i.c ∧ i.c ≤ 21) := by omega
        simp [h1, h2, h3, this]
theorem pushS_len (i : Ins) (a : Nat) : (pushS i a).length ≤ 2 := by unfold pushS; split <;> split <;> simp
theorem PI.init (h : 0 < l.length) : PI l (List.replicate l.length true) [0] := by
  have ef : ∀ j, j < l.length → (List.replicate l.length true).getD j false = true := fun j hj => by simp [List.getD_eq_getElem?_getD, hj]
  exact ⟨by simp, fun j hj e => (by rw [ef j hj] at e; cases e), fun x hx => (by rw [List.mem_singleton.1 hx]; exact ⟨Int.le_refl _, h, .zero h⟩), fun j hj e => (by rw [ef j hj] at e; cases e), .inr (List.mem_singleton_self _)⟩
theorem PI.skip {out : List Bool} {todo : List Int} {x : Int} (h : PI l out (todo ++ [x])) (hx : out.getD x.toNat false = false) : PI l out todo := by
  obtain ⟨x0, x1, x2⟩ := h.td x (by simp)
  refine ⟨h.len, h.rch, fun y hy => h.td y (by simp [hy]), fun j hj e y hy => ?_, ?_⟩
  · rcases h.cls j hj e y hy with k | k
    · exact .inl k
    · rcases List.mem_append.1 k with k | k
      · exact .inr k
      · rw [List.mem_singleton.1 k]; exact .inl hx
  · rcases h.zer with k | k
    · exact .inl k
    · rcases List.mem_append.1 k with k | k
      · exact .inr k
      · rw [← List.mem_singleton.1 k] at hx; exact .inl hx
theorem PI.mark (hb : ∀ i ∈ l, 0 ≤ i.a) (hV : ∀ j, Rch l j → ∀ y ∈ nxt (l.getD j zIns) j, y < (l.length : Int)) {out : List Bool} {todo : List Int} {x : Int} (h : PI l out (todo ++ [x])) :
    PI l (out.set x.toNat false) (todo ++ pushS (l.getD x.toNat zIns) x.toNat) := by
  obtain ⟨x0, x1, x2⟩ := h.td x (by simp)
  have hl := h.len
  have g := fun j => getD_setB (o := out) (i := x.toNat) (j := j) (b := false) (by omega)
  refine ⟨by rw [List.length_set]; exact h.len, fun j hj e => ?_, fun y hy => ?_, fun j hj e y hy => ?_, ?_⟩
  · rw [g] at e
    split at e
    · rename_i e1; rw [e1]; exact x2
    · exact h.rch j hj e
  · rcases List.mem_append.1 hy with k | k
    · exact h.td y (by simp [k])
    · rw [pushS_mem] at k
      have h1 := nxt_nn (zIns_nn hb x.toNat) x.toNat y k
      have h2 := hV _ x2 y k
      exact ⟨h1, by omega, .step x2 k h1 (by omega)⟩
  · rw [g]
    by_cases e1 : y.toNat = x.toNat
    · rw [if_pos e1]; exact .inl rfl
    · rw [if_neg e1]
      rw [g] at e
      by_cases e2 : j = x.toNat
      · subst e2; right; rw [List.mem_append, pushS_mem]; exact .inr hy
      · rw [if_neg e2] at e
        rcases h.cls j hj e y hy with k | k
        · exact .inl k
        · rcases List.mem_append.1 k with k | k
          · right; simp [k]
          · rw [List.mem_singleton.1 k] at e1; exact absurd rfl e1
  · rw [g]
    by_cases e1 : 0 = x.toNat
    · rw [if_pos e1]; exact .inl rfl
    · rw [if_neg e1]
      rcases h.zer with k | k
      · exact .inl k
      · rcases List.mem_append.1 k with k | k
        · right; simp [k]
        · rw [← List.mem_singleton.1 k] at e1; exact absurd rfl e1
theorem PI.over (hb : ∀ i ∈ l, 0 ≤ i.a) {out : List Bool} (h : PI l out []) (j : Nat) (hj : j < l.length) : out.getD j false = unr l j := by
  have h1 : out.getD j false = false ↔ Rch l j := by
    refine ⟨h.rch j hj, fun hR => ?_⟩
    clear hj
    induction hR with
    | zero _ => rcases h.zer with k | k; exact k; cases k
    | step hR hy h1 h2 ih =>
      rcases h.cls _ hR.lt ih _ hy with k | k
      · exact k
      · cases k
  rw [← unr_iff hb] at h1
  cases e1 : out.getD j false <;> cases e2 : unr l j <;> simp_all
end
/-! ### jumps to what stands behind them -/
def clo : Nat → List Ins → List Bool
  | _, [] => []
  | k, x :: r => (decide (x.c = 19) && decide ((k : Int) < x.a) && ((clo (k + 1) r).take (x.a.toNat - (k + 1))).all id) :: clo (k + 1) r
def cl (l : List Ins) (j : Nat) : Bool := (clo 0 l).getD j false
theorem clo_len : ∀ (l : List Ins) (k : Nat), (clo k l).length = l.length
  | [], _ => rfl
  | x :: r, k => by simp [clo, clo_len r (k + 1)]
theorem clo_drop : ∀ (l : List Ins) (k p : Nat), (clo k l).drop p = clo (k + p) (l.drop p)
  | l, k, 0 => by simp
  | [], k, p + 1 => by simp [clo]
  | x :: r, k, p + 1 => by simp only [clo, List.drop_succ_cons]; rw [clo_drop r (k + 1) p]; congr 1; omega
theorem clo_at {l : List Ins} {k : Nat} : ∀ j, (clo k (l.drop k)).getD j false = (clo 0 l).getD (k + j) false := by
  intro j
  have := clo_drop l 0 k
  rw [Nat.zero_add] at this
  rw [← this, List.getD_eq_getElem?_getD, List.getElem?_drop, List.getD_eq_getElem?_getD]
theorem cl_iff {l : List Ins} {p : Nat} (h : p < l.length) (hA : (l.getD p zIns).a.toNat ≤ l.length) :
    cl l p = true ↔ (l.getD p zIns).c = 19 ∧ (p : Int) < (l.getD p zIns).a ∧ ∀ j, p < j → j < (l.getD p zIns).a.toNat → cl l j = true := by
  have h1 : cl l p = (clo p (l.drop p)).getD 0 false := by rw [clo_at]; rfl
  rw [h1, List.drop_eq_getElem_cons h]
  rw [getD_lt' h] at hA ⊢
  simp only [clo, List.getD_cons_zero, Bool.and_eq_true, decide_eq_true_eq, List.all_eq_true, and_assoc]
  refine and_congr_right fun _ => and_congr_right fun h3 => ?_
  constructor
  · intro h4 j hj1 hj2
    have hm := h4 ((clo (p + 1) (l.drop (p + 1))).getD (j - (p + 1)) false) (by
      have hl : j - (p + 1) < (clo (p + 1) (l.drop (p + 1))).length := by rw [clo_len, List.length_drop]; omega
      rw [getD_lt' hl]
      refine List.mem_iff_getElem.2 ⟨j - (p + 1), by rw [List.length_take]; omega, by simp⟩)
    rw [clo_at] at hm
    rw [show p + 1 + (j - (p + 1)) = j by omega] at hm
    exact hm
  · intro h4 b hb
    obtain ⟨i, hi, rfl⟩ := List.getElem_of_mem hb
    rw [List.length_take, clo_len, List.length_drop] at hi
    have := h4 (p + 1 + i) (by omega) (by omega)
    unfold cl at this
    rw [← clo_at, List.getD_eq_getElem?_getD] at this
    simp only [List.getElem_take, id]
    have hl : i < (clo (p + 1) (l.drop (p + 1))).length := by rw [clo_len, List.length_drop]; omega
    rw [List.getElem?_eq_getElem hl] at this
    exact this
theorem cl_out {l : List Ins} {p : Nat} (h : l.length ≤ p) : cl l p = false := by
  unfold cl; rw [List.getD_eq_getElem?_getD, List.getElem?_eq_none (by rw [clo_len]; exact h)]; rfl
/-- Of each place the first one from it on that is left. -/
def LeftQ (l : List Ins) (s : Nat) (left : List Int) : Prop := left.length = l.length + 1 ∧ ∀ j, s ≤ j → j ≤ l.length → (j : Int) ≤ left.getD j 0 ∧ left.getD j 0 ≤ l.length ∧ (∀ i, j ≤ i → i < (left.getD j 0).toNat → cl l i = true) ∧ ((left.getD j 0).toNat < l.length → cl l (left.getD j 0).toNat = false)
theorem LeftQ.eq {l : List Ins} {s : Nat} {left : List Int} (h : LeftQ l s left) {a b : Nat} (ha : s ≤ a) (hab : a ≤ b) (hb : b ≤ l.length) : left.getD b 0 = left.getD a 0 ↔ ∀ j, a ≤ j → j < b → cl l j = true := by
  obtain ⟨a1, a2, a3, a4⟩ := h.2 a ha (by omega)
  obtain ⟨b1, b2, b3, b4⟩ := h.2 b (by omega) hb
  constructor
  · intro e j h1 h2; exact a3 j h1 (by omega)
  · intro hc
    have hge : (b : Int) ≤ left.getD a 0 := by
      rcases Int.lt_or_le (left.getD a 0) b with h1 | h1
      · exfalso
        have := hc (left.getD a 0).toNat (by omega) (by omega)
        rw [a4 (by omega)] at this; cases this
      · exact h1
    rcases Int.lt_trichotomy (left.getD a 0) (left.getD b 0) with h1 | h1 | h1
    · have := b3 (left.getD a 0).toNat (by omega) (by omega)
      rw [a4 (by omega)] at this; cases this
    · exact h1.symm
    · have := a3 (left.getD b 0).toNat (by omega) (by omega)
      rw [b4 (by omega)] at this; cases this
theorem LeftQ.init (l : List Ins) : LeftQ l l.length ((List.replicate (l.length + 1) 0).set l.length (l.length : Int)) := by
  have g := fun j => getD_setI (so := List.replicate (l.length + 1) 0) (i := l.length) (j := j) (v := (l.length : Int)) (by simp)
  refine ⟨by simp, fun j h1 h2 => ?_⟩
  obtain rfl : j = l.length := by omega
  rw [g, if_pos rfl]
  exact ⟨Int.le_refl _, Int.le_refl _, fun i h1 h2 => by omega, fun h => by omega⟩
theorem LeftQ.step {l : List Ins} {a : Nat} {left : List Int} (h : LeftQ l (a + 1) left) (ha : a < l.length) : LeftQ l a (left.set a (if cl l a = true then left.getD (a + 1) 0 else (a : Int))) := by
  have hl := h.1
  have g := fun j v => getD_setI (so := left) (i := a) (j := j) (v := v) (by omega)
  refine ⟨by rw [List.length_set]; exact h.1, fun j h1 h2 => ?_⟩
  rw [g]
  by_cases e : j = a
  · rw [if_pos e]; subst e
    obtain ⟨a1, a2, a3, a4⟩ := h.2 (j + 1) (Nat.le_refl _) (by omega)
    split
    · rename_i hc
      exact ⟨by omega, a2, fun i h3 h4 => by rcases Nat.lt_or_ge j i with h5 | h5; exact a3 i h5 h4; rw [show i = j by omega]; exact hc, a4⟩
    · rename_i hc
      refine ⟨Int.le_refl _, by omega, fun i h3 h4 => by omega, fun _ => ?_⟩
      rw [Int.toNat_natCast]; simpa using hc
  · rw [if_neg e]; exact h.2 j (by omega) h2
/-! ### rows: instructions with their lines, and where they stood -/
structure Rw where
  i : Ins
  ln : Int
  fr : Int
def Rw.mv (f : Nat → Nat) (r : Rw) : Rw := { r with i := r.i.mv f }
def takeR (R : Nat → Bool) (l : List Rw) : List Rw := (cutS R 0 l).map (Rw.mv (kb R))
theorem takeR_two (R S : Nat → Bool) (l : List Rw) : takeR S (takeR R l) = takeR (both2 R S) l := by
  unfold takeR
  have h := cutS_two R S l 0
  rw [show kb R 0 = 0 from rfl] at h
  rw [← cutS_map, List.map_map, h]
  apply List.map_congr_left
  intro i _
  rw [Function.comp_apply]
  unfold Rw.mv
  congr 1
  rw [mv_two]
  exact mv_congr fun _ => kb_two R S _
theorem takeR_i (R : Nat → Bool) (l : List Rw) : (takeR R l).map (·.i) = takeI R (l.map (·.i)) := by
  unfold takeR takeI; rw [List.map_map, ← cutS_map, List.map_map]; rfl
theorem takeR_ln (R : Nat → Bool) (l : List Rw) : (takeR R l).map (·.ln) = cutS R 0 (l.map (·.ln)) := by
  unfold takeR; rw [List.map_map, ← cutS_map]; rfl
theorem takeR_fr (R : Nat → Bool) (l : List Rw) : (takeR R l).map (·.fr) = cutS R 0 (l.map (·.fr)) := by
  unfold takeR; rw [List.map_map, ← cutS_map]; rfl
theorem takeR_len (R : Nat → Bool) (l : List Rw) : (takeR R l).length = kb R l.length := by unfold takeR; rw [List.length_map, cutS_len0]
theorem Rw.ext3 {a b : Rw} (h : a.i = b.i) (h2 : a.ln = b.ln) (h3 : a.fr = b.fr) : a = b := by cases a; cases b; simp_all
theorem rows_ext : ∀ {l m : List Rw}, l.map (·.i) = m.map (·.i) → l.map (·.ln) = m.map (·.ln) → l.map (·.fr) = m.map (·.fr) → l = m
  | [], [], _, _, _ => rfl
  | [], _ :: _, h, _, _ => by simp at h
  | _ :: _, [], h, _, _ => by simp at h
  | a :: r, b :: s, h1, h2, h3 => by
    simp only [List.map_cons, List.cons.injEq] at h1 h2 h3
    rw [Rw.ext3 h1.1 h2.1 h3.1, rows_ext h1.2 h2.2 h3.2]
theorem takeR_congr {R S : Nat → Bool} {l : List Rw} (hb : ∀ i ∈ l, jm i.i = true → i.i.a.toNat ≤ l.length) (h : ∀ j, j < l.length → R j = S j) : takeR R l = takeR S l := by
  apply rows_ext
  · rw [takeR_i, takeR_i]
    exact takeI_congr (fun i hi hj => by obtain ⟨r, hr, rfl⟩ := List.mem_map.1 hi; rw [List.length_map]; exact hb r hr hj) fun j hj => h j (by simpa using hj)
  · rw [takeR_ln, takeR_ln]; exact cutS_congr _ 0 fun j _ h2 => h j (by simpa using h2)
  · rw [takeR_fr, takeR_fr]; exact cutS_congr _ 0 fun j _ h2 => h j (by simpa using h2)
theorem takeR_none {R : Nat → Bool} {l : List Rw} (hn : ∀ i ∈ l, jm i.i = true → 0 ≤ i.i.a ∧ i.i.a.toNat ≤ l.length) (h : ∀ j, j < l.length → R j = false) : takeR R l = l := by
  unfold takeR
  rw [cutS_none l 0 fun j _ h2 => h j (by omega)]
  conv => rhs; rw [← List.map_id l]
  apply List.map_congr_left
  intro r hr
  unfold Rw.mv Ins.mv
  split
  · rename_i hj
    obtain ⟨h1, h2⟩ := hn r hr hj
    have : kb R r.i.a.toNat = r.i.a.toNat := by
      have e : ∀ k, k ≤ l.length → kb R k = k := by
        intro k
        induction k with
        | zero => intro _; rfl
        | succ k ih => intro hk; rw [kb_kept (h k (by omega)), ih (by omega)]
      exact e _ h2
    rw [this, Int.toNat_of_nonneg h1]; rfl
  · rfl
/-- One cut out. -/
theorem kb_one (a k : Nat) : kb (fun j => j == a) k = if a < k then k - 1 else k := by
  induction k with
  | zero => simp [kb]
  | succ k ih =>
    simp only [kb, ih, beq_iff_eq]
    by_cases h1 : a < k
    · rw [if_pos h1, if_neg (by omega), if_pos (by omega)]; omega
    · by_cases h2 : k = a
      · rw [if_neg h1, if_pos h2, if_pos (by omega)]; omega
      · rw [if_neg h1, if_neg h2, if_neg (by omega)]
/-- What is not come to is cut out one by one, from the last one on. -/
theorem down_step {U : Nat → Bool} {i : Nat} (hi : U i = true) : ∀ j, both2 (fun j => decide (i < j) && U j) (fun j => j == i) j = (decide (i ≤ j) && U j) := by
  have hk : ∀ k, k ≤ i + 1 → kb (fun j => decide (i < j) && U j) k = k := by
    intro k
    induction k with
    | zero => intro _; rfl
    | succ k ih => intro h; rw [kb_kept (by simp; omega), ih (by omega)]
  intro j
  unfold both2
  rcases Nat.lt_trichotomy j i with h | h | h
  · simp [hk j (by omega), show ¬ i < j by omega, show ¬ i ≤ j by omega]; omega
  · subst h; simp [hk j (by omega), hi]
  · have h1 := kb_mono (fun j => decide (i < j) && U j) (show i + 1 ≤ j by omega)
    rw [hk (i + 1) (Nat.le_refl _)] at h1
    have : (kb (fun j => decide (i < j) && U j) j == i) = false := by rw [beq_eq_false_iff_ne]; omega
    simp [this, h, Nat.le_of_lt h]
/-- A jump to what stands behind it, among what is left: it is one of those that are cut out. -/
theorem near_step {l : List Ins} {m : Nat → Bool} {i : Nat} (hA : ∀ x ∈ l, jm x = true → 0 ≤ x.a ∧ x.a.toNat < l.length) (hm : ∀ j, j < l.length → m j = true → cl l j = true) (hi : i < (takeI m l).length) (hc : ((takeI m l).getD i zIns).c = 19) (ha : ((takeI m l).getD i zIns).a = (i : Int) + 1) :
    ∀ j, j < l.length → both2 m (fun j => j == i) j = true → cl l j = true := by
  rw [takeI_len] at hi
  obtain ⟨p, hp, hmp, hk⟩ := kb_onto hi
  have hx := takeI_at (R := m) hp hmp
  rw [hk] at hx
  rw [hx] at hc ha
  rw [mv_c] at hc
  have hj : jm (l.getD p zIns) = true := by unfold jm; rw [hc]; decide
  have hmem : l.getD p zIns ∈ l := by rw [getD_lt' hp]; exact List.getElem_mem hp
  obtain ⟨a0, a1⟩ := hA _ hmem hj
  have ha' : kb m (l.getD p zIns).a.toNat = i + 1 := by
    unfold Ins.mv at ha; rw [if_pos hj] at ha; simp only at ha; omega
  have hpa : p < (l.getD p zIns).a.toNat := by
    rcases Nat.lt_or_ge p (l.getD p zIns).a.toNat with h | h
    · exact h
    · have := kb_mono m h; omega
  have hcl : cl l p = true := by
    rw [cl_iff hp (by omega)]
    refine ⟨hc, by omega, fun j h1 h2 => hm j (by omega) ?_⟩
    exact kb_eq (a := p + 1) (b := (l.getD p zIns).a.toNat) (by omega) (by rw [kb_kept hmp]; omega) j (by omega) h2
  intro j hj1 hj2
  unfold both2 at hj2
  cases hmj : m j with
  | true => exact hm j hj1 hmj
  | false =>
    rw [hmj, Bool.false_or, beq_iff_eq] at hj2
    rw [kb_inj hmj hmp (by omega)]; exact hcl
theorem near_stop {l : List Ins} {m : Nat → Bool} (hA : ∀ x ∈ l, jm x = true → 0 ≤ x.a ∧ x.a.toNat < l.length) (hm : ∀ j, j < l.length → m j = true → cl l j = true)
    (hn : ∀ i, i < (takeI m l).length → ¬ (((takeI m l).getD i zIns).c = 19 ∧ ((takeI m l).getD i zIns).a = (i : Int) + 1)) : ∀ j, j < l.length → m j = cl l j := by
  have key : ∀ d p, l.length - p ≤ d → p < l.length → cl l p = true → m p = true := by
    intro d
    induction d with
    | zero => intro p h1 h2; omega
    | succ d ih =>
      intro p h1 hp hcl
      cases hmp : m p with
      | true => rfl
      | false =>
        exfalso
        have hmem : l.getD p zIns ∈ l := by rw [getD_lt' hp]; exact List.getElem_mem hp
        have hcl2 := hcl
        have hj : jm (l.getD p zIns) = true := by
          unfold cl at hcl
          have h0 : (clo p (l.drop p)).getD 0 false = true := by rw [clo_at]; exact hcl
          rw [List.drop_eq_getElem_cons hp] at h0
          simp only [clo, List.getD_cons_zero, Bool.and_eq_true, decide_eq_true_eq] at h0
          unfold jm; rw [getD_lt' hp, h0.1.1]; decide
        obtain ⟨a0, a1⟩ := hA _ hmem hj
        obtain ⟨c1, c2, c3⟩ := (cl_iff hp (by omega)).1 hcl2
        have hall := kb_all (R := m) (a := p + 1) (b := (l.getD p zIns).a.toNat) (by omega) fun j h3 h4 => ih j (by omega) (by omega) (c3 j (by omega) h4)
        have hk := kb_kept hmp
        have hx := takeI_at (R := m) hp hmp
        refine hn (kb m p) (by rw [takeI_len]; exact kb_lt hmp hp) ⟨by rw [hx, mv_c]; exact c1, ?_⟩
        rw [hx]; unfold Ins.mv; rw [if_pos hj]; simp only; omega
  intro j hj
  cases h1 : m j <;> cases h2 : cl l j
  · rfl
  · have := key (l.length - j) j (Nat.le_refl _) hj h2; rw [h1] at this; cases this
  · have := hm j hj h1; rw [h2] at this; cases this
  · rfl

theorem ginfo3 : (Tryd.prog.info? 3).map (fun i => (i.zero, i.size, i.bytes)) = some (some (.int .i64 0), 1, 8) := by kernel_rfl
theorem ginfo2 : (Tryd.prog.info? 2).map (fun i => (i.zero, i.size, i.bytes)) = some (some (.int .i64 0), 1, 8) := by kernel_rfl
theorem ginfo53 : (Tryd.prog.info? 53).map (fun i => (i.zero, i.size, i.bytes)) = some (some (.agg #[.int .i64 0, .int .i64 0, .int .i64 0, .int .i64 0]), 4, 32) := by kernel_rfl
theorem ginfo4 : (Tryd.prog.info? 4).map (fun i => (i.zero, i.size, i.bytes)) = some (some (.bool false), 1, 1) := by kernel_rfl
theorem sees_none {q : List HP} {vs : List Value} {G w : World} (h : Sees q none vs) (s : St G w q) : vs = [] := by
  cases vs with
  | nil => rfl
  | cons x r => obtain ⟨b, o, e, _⟩ := h G w s 0 x rfl; cases e
theorem cutS_snoc {α : Type} {R : Nat → Bool} {l : List α} {s : Nat} (h : s < l.length) : cutS R 0 (l.take (s + 1)) = cutS R 0 (l.take s) ++ (if R s = true then [] else [l[s]]) := by
  rw [List.take_succ_eq_append_getElem h, cutS_app, List.length_take, Nat.min_eq_left (by omega), Nat.zero_add]; rfl
theorem cutS_le {α : Type} (R : Nat → Bool) (l : List α) : (cutS R 0 l).length ≤ l.length := by rw [cutS_len0]; exact kb_le _ _

section
variable {G : World} {q : List HP} {a b A : Option Addr} {c d : Nat} {cd : Int} {l : List Ins} {ln : List Int} {o : List Bool}
theorem isJump_ok  : CallF Tryd.prog G 77 [.int .i64 cd] (q) (Ret fun v q' => v = .bool (decide (19 ≤ cd ∧ cd ≤ 21)) ∧ q' = q) := by
 refine CallF.of Tryd.func77 Tryd.ntmps77 rfl (fun F cs => ?_)
 refine xo 9 ?_
 refine XO.sb [5, 2, 0] ?_
 apply XO.cutOr 3 8 5 rfl
 · skip
   intro g1 M1; have h1 := sp g1
   refine oo 3 ?_
   exact XO.fin M1 ⟨orF g1, subB⟩
 · skip
   intro g1 M1; have h1 := sp g1
   refine oo 3 ?_
   exact XO.fin M1 ⟨orT g1, subB⟩
 · skip
   refine oo 1 ?_
   refine XO.sb [9, 2, 0] ?_
   apply XO.cutOr 3 12 9 rfl
   · skip
     intro g1 M1; have h1 := sp g1
     refine oo 3 ?_
     exact XO.fin M1 ⟨orF g1, subB⟩
   · skip
     intro g1 M1; have h1 := sp g1
     refine oo 3 ?_
     exact XO.fin M1 ⟨orT g1, subB⟩
   · skip
     refine ox 2 ?_
     refine X.retL (q) Tryd.func77 (res1 Tryd.results77 rfl) ⟨_, rfl, congrArg Value.bool (by rw [Bool.eq_iff_iff]; simp; omega), rfl⟩
theorem cloneint64_ok {m : List Int} (hs : Sees q a (m.map I64)) (hL : m.length ≤ 1000000) : CallF Tryd.prog G 25 [.slice a m.length c] (q) (Ret fun v q' => ∃ a' c', v = .slice a' m.length c' ∧ q' = lsH I64 2 a' c' (m) :: q) := by
 refine CallF.of Tryd.func25 Tryd.ntmps25 rfl (fun F cs => ?_)
 rcases a with _ | ⟨a⟩
 · skip
   refine X.fact (fun w s => sees_none (hs.le leA) s) (fun hm => ?_)
   obtain rfl : m = [] := by cases m with
       | nil => rfl
       | cons x r => simp [insC] at hm
   refine xx 10 ?_
   refine X.kt 4 ?_
   refine X.le (q' := lsH I64 2 none 0 ([]) :: _) (Le.lsH_nil I64 2 _) ?_
   refine xx 5 ?_
   refine X.retL (lsH I64 2 none 0 ([]) :: q) Tryd.func25 (res1 Tryd.results25 rfl) ⟨_, rfl, none, 0, rfl, rfl⟩
 · skip
   refine xx 10 ?_
   refine X.kf 4 ?_
   refine xo 4 ?_
   refine XO.ef (Ef.lit0 I64 Tryd.underlying22 ginfo2) ?_
   rintro _ _ ⟨g0, rfl, rfl⟩
   refine oo 1 ?_
   refine XO.ef (Ef.appA (f := I64) (l := []) (m := m) Tryd.underlying22 ginfo2 rfl rfl rfl fndA (hs.le leA) (fun _ => rfl) (by simp; omega) (by simp; omega)) ?_
   rintro _ _ ⟨a2, c2, rfl, rfl⟩
   refine ox 2 ?_
   refine X.retL (lsH I64 2 a2 c2 (m) :: q) Tryd.func25 (res1 Tryd.results25 rfl) ⟨_, rfl, a2, c2, rfl, rfl⟩
theorem cloneint_ok {m : List Int} (hs : Sees q a (m.map I64)) (hL : m.length ≤ 1000000) : CallF Tryd.prog G 26 [.slice a m.length c] (q) (Ret fun v q' => ∃ a' c', v = .slice a' m.length c' ∧ q' = lsH I64 3 a' c' (m) :: q) := by
 refine CallF.of Tryd.func26 Tryd.ntmps26 rfl (fun F cs => ?_)
 rcases a with _ | ⟨a⟩
 · skip
   refine X.fact (fun w s => sees_none (hs.le leA) s) (fun hm => ?_)
   obtain rfl : m = [] := by cases m with
       | nil => rfl
       | cons x r => simp [insC] at hm
   refine xx 10 ?_
   refine X.kt 4 ?_
   refine X.le (q' := lsH I64 3 none 0 ([]) :: _) (Le.lsH_nil I64 3 _) ?_
   refine xx 5 ?_
   refine X.retL (lsH I64 3 none 0 ([]) :: q) Tryd.func26 (res1 Tryd.results26 rfl) ⟨_, rfl, none, 0, rfl, rfl⟩
 · skip
   refine xx 10 ?_
   refine X.kf 4 ?_
   refine xo 4 ?_
   refine XO.ef (Ef.lit0 I64 Tryd.underlying23 ginfo3) ?_
   rintro _ _ ⟨g0, rfl, rfl⟩
   refine oo 1 ?_
   refine XO.ef (Ef.appA (f := I64) (l := []) (m := m) Tryd.underlying23 ginfo3 rfl rfl rfl fndA (hs.le leA) (fun _ => rfl) (by simp; omega) (by simp; omega)) ?_
   rintro _ _ ⟨a2, c2, rfl, rfl⟩
   refine ox 2 ?_
   refine X.retL (lsH I64 3 a2 c2 (m) :: q) Tryd.func26 (res1 Tryd.results26 rfl) ⟨_, rfl, a2, c2, rfl, rfl⟩
theorem cloneIns_ok {m : List Ins} (hs : Sees q a (m.flatMap insC)) (hL : m.length ≤ 1000000) : CallF Tryd.prog G 39 [.slice a m.length c] (q) (Ret fun v q' => ∃ a' c', v = .slice a' m.length c' ∧ q' = rsH insC 4 53 a' c' (m) :: q) := by
 refine CallF.of Tryd.func39 Tryd.ntmps39 rfl (fun F cs => ?_)
 rcases a with _ | ⟨a⟩
 · skip
   refine X.fact (fun w s => sees_none (hs.le leA) s) (fun hm => ?_)
   obtain rfl : m = [] := by cases m with
       | nil => rfl
       | cons x r => simp [insC] at hm
   refine xx 10 ?_
   refine X.kt 4 ?_
   refine X.le (q' := rsH insC 4 53 none 0 ([]) :: _) (Le.rsH_nil insC 4 53 _) ?_
   refine xx 5 ?_
   refine X.retL (rsH insC 4 53 none 0 ([]) :: q) Tryd.func39 (res1 Tryd.results39 rfl) ⟨_, rfl, none, 0, rfl, rfl⟩
 · skip
   refine xx 10 ?_
   refine X.kf 4 ?_
   refine xo 4 ?_
   refine XO.ef (Ef.litR0 insC Tryd.underlying33 ginfo53) ?_
   rintro _ _ ⟨g0, rfl, rfl⟩
   refine oo 1 ?_
   refine XO.ef (Ef.appRA (f := insC) (l := []) (m := m) Tryd.underlying33 ginfo53 rfl rfl (fun _ => rfl) rfl rfl fndA (hs.le leA) (fun _ => rfl) (by simp; omega) (by simp; omega)) ?_
   rintro _ _ ⟨a2, c2, rfl, rfl⟩
   refine ox 2 ?_
   refine X.retL (rsH insC 4 53 a2 c2 (m) :: q) Tryd.func39 (res1 Tryd.results39 rfl) ⟨_, rfl, a2, c2, rfl, rfl⟩
set_option maxHeartbeats 1000000 in
theorem cutint_ok {m : List Int} (hs : Sees q a (m.map I64)) (ho : Sees q b (o.map Value.bool)) (hl : m.length ≤ o.length) (hL : m.length ≤ 1000000) : CallF Tryd.prog G 96 [.slice a m.length c, .slice b o.length d] (q) (Ret fun v q' => ∃ a' c', v = .slice a' (cutS (fun j => o.getD j false) 0 m).length c' ∧ q' = lsH I64 3 a' c' ((cutS (fun j => o.getD j false) 0 m)) :: q) := by
 refine CallF.of Tryd.func96 Tryd.ntmps96 rfl (fun F cs => ?_)
 refine xx 16 ?_
 refine X.at (X.loop (fun (s : Nat × Option Addr × Nat) => s.1 ≤ m.length) (fun s => [(8, .slice a m.length c), (9, .int .i64 (m.length : Int)), (10, .int .i64 (s.1 : Int)), (5, .slice s.2.1 (cutS (fun j => o.getD j false) 0 (m.take s.1)).length s.2.2), (1, .slice b o.length d), (4, .slice none 0 0)]) (fun s => lsH I64 3 s.2.1 s.2.2 ((cutS (fun j => o.getD j false) 0 (m.take s.1))) :: (q ++ F)) (fun s => m.length - s.1) (fun s hi_ ih => ?_) (0, none, 0) (Nat.zero_le _)) subA (Le.trans leA (Le.lsH_nil I64 3 _))
 try dsimp only at hi_ ih ⊢
 obtain hs0 := hi_
 obtain ⟨s, a1, c1⟩ := s; dsimp only at *
 refine xx 5 ?_
 refine X.part 11 rfl (fun h0 => ?_) (fun h0 => ?_)
 · skip
   replace h0 := sp h0
   have hlt : s < m.length := by omega
   have hso : s < o.length := by omega
   have hcl : (cutS (fun j => o.getD j false) 0 (m.take s)).length ≤ m.length := by have := cutS_le (fun j => o.getD j false) (m.take s); rw [List.length_take] at this; omega
   refine xo 7 ?_
   refine XO.adr hs (by simp; omega) (fun b1 o1 e1 => ?_)
   have hs1 := hs; rw [e1] at hs1
   refine XO.know 8 (.slice (some ⟨b1, o1, none⟩) m.length c) rfl (by rw [e1]) ?_
   refine oo 1 ?_
   refine ld ?_ (hc := (Cl.e1 hs1 leA hlt rfl))
   refine oo 7 ?_
   refine XO.adr ho (by simp; omega) (fun b2 o2 e2 => ?_)
   have hs2 := ho; rw [e2] at hs2
   refine XO.know 15 (.slice (some ⟨b2, o2, none⟩) o.length d) rfl (by rw [e2]) ?_
   refine oo 1 ?_
   refine ld ?_ (hc := (Cl.e1 hs2 leA hso rfl))
   refine XO.pu (Pu.not rfl) ?_
   refine ox 1 ?_
   refine X.part 19 rfl (fun h1 => ?_) (fun h1 => ?_)
   · skip
     replace h1 := sp h1
     refine xo 4 ?_
     refine XO.ef (Ef.lit1 I64 Tryd.underlying23 ginfo3 rfl rfl) ?_
     rintro _ _ ⟨g0, rfl, rfl⟩
     refine XO.ef (Ef.appA (f := I64) (l := (cutS (fun j => o.getD j false) 0 (m.take s))) (m := [m[s]]) Tryd.underlying23 ginfo3 rfl rfl rfl fndA ((Sees.lsH _).le fndA) (fun _ => rfl) (by simp only [List.length_cons, List.length_nil]; omega) (by simp only [List.length_cons, List.length_nil]; omega)) ?_
     rintro _ _ ⟨a2, c2, rfl, rfl⟩
     refine ox 7 ?_
     refine X.sb [10, 5, 8, 9, 1, 4] ?_
     have hk : o.getD s false = false := by rw [List.getD_eq_getElem?_getD, List.getElem?_eq_getElem hso]; simpa using h1
     have hS : (cutS (fun j => o.getD j false) 0 (m.take (s + 1))) = (cutS (fun j => o.getD j false) 0 (m.take s)) ++ [m[s]] := by rw [cutS_snoc hlt, if_neg (by rw [hk]; decide)]
     rw [← hS]; subst e1 e2
     refine X.at (ih (s + 1, a2, c2) (by dsimp only; omega) (by dsimp only; omega)) subA leA
   · skip
     replace h1 := sp h1
     refine xx 7 ?_
     refine X.sb [10, 8, 9, 5, 1, 4] ?_
     have hk : o.getD s false = true := by rw [List.getD_eq_getElem?_getD, List.getElem?_eq_getElem hso]; simpa using h1
     have hS : (cutS (fun j => o.getD j false) 0 (m.take (s + 1))) = (cutS (fun j => o.getD j false) 0 (m.take s)) := by rw [cutS_snoc hlt, if_pos hk, List.append_nil]
     rw [← hS]; subst e1 e2
     refine X.at (ih (s + 1, a1, c1) (by dsimp only; omega) (by dsimp only; omega)) subA leA
 · skip
   replace h0 := sp h0
   refine xx 7 ?_
   obtain rfl : s = m.length := by omega
   rw [List.take_length]
   refine X.retL (lsH I64 3 a1 c1 ((cutS (fun j => o.getD j false) 0 m)) :: q) Tryd.func96 (res1 Tryd.results96 rfl) ⟨_, rfl, a1, c1, rfl, rfl⟩
set_option maxHeartbeats 1000000 in
theorem cutIns_ok {m : List Ins} (hs : Sees q a (m.flatMap insC)) (ho : Sees q b (o.map Value.bool)) (hl : m.length ≤ o.length) (hL : m.length ≤ 1000000) : CallF Tryd.prog G 95 [.slice a m.length c, .slice b o.length d] (q) (Ret fun v q' => ∃ a' c', v = .slice a' (cutS (fun j => o.getD j false) 0 m).length c' ∧ q' = rsH insC 4 53 a' c' ((cutS (fun j => o.getD j false) 0 m)) :: q) := by
 refine CallF.of Tryd.func95 Tryd.ntmps95 rfl (fun F cs => ?_)
 refine xx 16 ?_
 have hlen := flatMap_len (f := insC) (sz := 4) (fun _ => rfl) m
 refine X.at (X.loop (fun (s : Nat × Option Addr × Nat) => s.1 ≤ m.length) (fun s => [(8, .slice a m.length c), (9, .int .i64 (m.length : Int)), (10, .int .i64 (s.1 : Int)), (5, .slice s.2.1 (cutS (fun j => o.getD j false) 0 (m.take s.1)).length s.2.2), (1, .slice b o.length d), (4, .slice none 0 0)]) (fun s => rsH insC 4 53 s.2.1 s.2.2 ((cutS (fun j => o.getD j false) 0 (m.take s.1))) :: (q ++ F)) (fun s => m.length - s.1) (fun s hi_ ih => ?_) (0, none, 0) (Nat.zero_le _)) subA (Le.trans leA (Le.rsH_nil insC 4 53 _))
 try dsimp only at hi_ ih ⊢
 obtain hs0 := hi_
 obtain ⟨s, a1, c1⟩ := s; dsimp only at *
 refine xx 5 ?_
 refine X.part 11 rfl (fun h0 => ?_) (fun h0 => ?_)
 · skip
   replace h0 := sp h0
   have hlt : s < m.length := by omega
   have hso : s < o.length := by omega
   have hcl : (cutS (fun j => o.getD j false) 0 (m.take s)).length ≤ m.length := by have := cutS_le (fun j => o.getD j false) (m.take s); rw [List.length_take] at this; omega
   refine xo 7 ?_
   refine XO.adr hs (by rw [hlen]; omega) (fun b1 o1 e1 => ?_)
   have hs1 := hs; rw [e1] at hs1
   refine XO.know 8 (.slice (some ⟨b1, o1, none⟩) m.length c) rfl (by rw [e1]) ?_
   refine oo 1 ?_
   refine XO.ldS (n := s) Tryd.isAgg53 Tryd.sizeOf53 hs1 hlt ?_
   refine XO.al Tryd.zeroValue53 fun n1 => ?_
   refine oo 1 ?_
   refine stA ?_
   refine oo 5 ?_
   refine XO.adr ho (by simp; omega) (fun b2 o2 e2 => ?_)
   have hs2 := ho; rw [e2] at hs2
   refine XO.know 15 (.slice (some ⟨b2, o2, none⟩) o.length d) rfl (by rw [e2]) ?_
   refine oo 1 ?_
   refine ld ?_ (hc := (Cl.e1 hs2 leA hso rfl))
   refine XO.pu (Pu.not rfl) ?_
   refine ox 1 ?_
   refine X.part 19 rfl (fun h1 => ?_) (fun h1 => ?_)
   · skip
     replace h1 := sp h1
     refine xo 3 ?_
     refine ldA ?_
     refine XO.ef (Ef.litR1 insC Tryd.underlying33 ginfo53 rfl rfl (fun _ => rfl) rfl) ?_
     rintro _ _ ⟨g0, rfl, rfl⟩
     refine XO.ef (Ef.appRA (f := insC) (l := (cutS (fun j => o.getD j false) 0 (m.take s))) (m := [m[s]]) Tryd.underlying33 ginfo53 rfl rfl (fun _ => rfl) rfl rfl fndA ((Sees.rsH _).le fndA) (fun _ => rfl) (by simp only [List.length_cons, List.length_nil]; omega) (by simp only [List.length_cons, List.length_nil]; omega)) ?_
     rintro _ _ ⟨a2, c2, rfl, rfl⟩
     refine ox 7 ?_
     refine X.sb [10, 5, 8, 9, 1, 4] ?_
     have hk : o.getD s false = false := by rw [List.getD_eq_getElem?_getD, List.getElem?_eq_getElem hso]; simpa using h1
     have hS : (cutS (fun j => o.getD j false) 0 (m.take (s + 1))) = (cutS (fun j => o.getD j false) 0 (m.take s)) ++ [m[s]] := by rw [cutS_snoc hlt, if_neg (by rw [hk]; decide)]
     rw [← hS]; subst e1 e2
     refine X.at (ih (s + 1, a2, c2) (by dsimp only; omega) (by dsimp only; omega)) subA leA
   · skip
     replace h1 := sp h1
     refine xx 7 ?_
     refine X.sb [10, 8, 9, 5, 1, 4] ?_
     have hk : o.getD s false = true := by rw [List.getD_eq_getElem?_getD, List.getElem?_eq_getElem hso]; simpa using h1
     have hS : (cutS (fun j => o.getD j false) 0 (m.take (s + 1))) = (cutS (fun j => o.getD j false) 0 (m.take s)) := by rw [cutS_snoc hlt, if_pos hk, List.append_nil]
     rw [← hS]; subst e1 e2
     refine X.at (ih (s + 1, a1, c1) (by dsimp only; omega) (by dsimp only; omega)) subA leA
 · skip
   replace h0 := sp h0
   refine xx 7 ?_
   obtain rfl : s = m.length := by omega
   rw [List.take_length]
   refine X.retL (rsH insC 4 53 a1 c1 ((cutS (fun j => o.getD j false) 0 m)) :: q) Tryd.func95 (res1 Tryd.results95 rfl) ⟨_, rfl, a1, c1, rfl, rfl⟩
end
end Go.Proofs.YtbeeplmgcdnadaaDoor

