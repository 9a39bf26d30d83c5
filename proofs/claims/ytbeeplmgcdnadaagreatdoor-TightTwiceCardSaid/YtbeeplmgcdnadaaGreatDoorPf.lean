/- Contracts of functions, proved by walking their code, and the logic that they need: what the last text reaches. -/
import Derived.Test.YtbeeplmgcdnadaaGreatDoorPe
import Derived.KernelRfl
set_option maxRecDepth 100000
set_option linter.unusedVariables false
set_option linter.unusedSimpArgs false
namespace Go.Proofs.YtbeeplmgcdnadaaGreatDoor
open Go Go.RowKit Wx
attribute [local irreducible] Wx.lsH Wx.rsH Wx.stars
def zInT : Ins := ⟨0, 0, 0, 0⟩
def jm (i : Ins) : Bool := decide (19 ≤ i.c ∧ i.c ≤ 21)
def led (l : List Ins) : Nat → Nat → Option Nat
 | 0, _ => none
 | k + 1, a => if (l.getD a zInT).c = 19 then led l k (l.getD a zInT).a.toNat else some a
def leadS (l : List Ins) (a : Nat) : Nat := (led l (l.length + 1) a).getD a
def leadsS (l : List Ins) : List Int := (List.range l.length).map fun i => (leadS l i : Int)
def Ins.mv (f : Nat → Nat) (i : Ins) : Ins := if jm i = true then { i with a := (f i.a.toNat : Int) } else i
def straS (l : List Ins) : List Ins := l.map (Ins.mv (leadS l))
def kb (R : Nat → Bool) : Nat → Nat
 | 0 => 0
 | k + 1 => kb R k + (if R k = true then 0 else 1)
def cutS {α : Type} (R : Nat → Bool) : Nat → List α → List α
 | _, [] => []
 | k, x :: r => if R k = true then cutS R (k + 1) r else x :: cutS R (k + 1) r
def takeI (R : Nat → Bool) (l : List Ins) : List Ins := (cutS R 0 l).map (Ins.mv (kb R))
def both2 (R S : Nat → Bool) : Nat → Bool := fun j => R j || S (kb R j)
theorem kb_succ_le (R : Nat → Bool) (k : Nat) : kb R k ≤ kb R (k + 1) := by simp only [kb]; omega
theorem kb_mono (R : Nat → Bool) {a b : Nat} (h : a ≤ b) : kb R a ≤ kb R b := by
 induction b with
 | zero => rw [show a = 0 by omega]; exact Nat.le_refl _
 | succ b ih =>
  rcases Nat.lt_or_ge a (b + 1) with h1 | h1
  · exact Nat.le_trans (ih (by omega)) (kb_succ_le R b)
  rw [show a = b + 1 by omega]; exact Nat.le_refl _
theorem kb_le (R : Nat → Bool) (k : Nat) : kb R k ≤ k := by
 induction k with
 | zero => exact Nat.le_refl _
 | succ k ih => simp only [kb]; split <;> omega
theorem kb_kept {R : Nat → Bool} {k : Nat} (h : R k = false) : kb R (k + 1) = kb R k + 1 := by simp [kb, h]
theorem kb_gone {R : Nat → Bool} {k : Nat} (h : R k = true) : kb R (k + 1) = kb R k := by simp [kb, h]
theorem kb_lt {R : Nat → Bool} {a b : Nat} (h : R a = false) (hab : a < b) : kb R a < kb R b := by
 have := kb_kept h; have := kb_mono R (show a + 1 ≤ b by omega); omega
theorem kb_eq {R : Nat → Bool} {a b : Nat} (hab : a ≤ b) (h : kb R a = kb R b) : ∀ j, a ≤ j → j < b → R j = true := by
 intro j h1 h2
 cases hr : R j with
 | true => rfl
 | false => have := kb_lt hr h2; have := kb_mono R h1; omega
theorem kb_all {R : Nat → Bool} {a b : Nat} (hab : a ≤ b) (h : ∀ j, a ≤ j → j < b → R j = true) : kb R a = kb R b := by
 induction b with
 | zero => rw [show a = 0 by omega]
 | succ b ih =>
  rcases Nat.lt_or_ge a (b + 1) with h1 | h1
  · rw [kb_gone (h b (by omega) (by omega)), ih (by omega) fun j h2 h3 => h j h2 (by omega)]
  rw [show a = b + 1 by omega]
theorem kb_two (R S : Nat → Bool) (k : Nat) : kb S (kb R k) = kb (both2 R S) k := by
 induction k with
 | zero => rfl
 | succ k ih =>
  cases hr : R k with
  | true => rw [kb_gone hr, ih, kb_gone (by simp [both2, hr])]
  | false =>
   rw [kb_kept hr]
   cases hs : S (kb R k) with
   | true => rw [kb_gone hs, ih, kb_gone (by simp [both2, hs])]
   | false => rw [kb_kept hs, ih, kb_kept (by simp [both2, hr, hs])]
theorem cutS_congr {α : Type} {R S : Nat → Bool} : ∀ (l : List α) (k : Nat), (∀ j, k ≤ j → j < k + l.length → R j = S j) → cutS R k l = cutS S k l
 | [], _, _ => rfl
 | x :: r, k, h => by
  have h1 := h k (Nat.le_refl _) (by simp)
  have h2 := cutS_congr r (k + 1) fun j a b => h j (by omega) (by simp; omega)
  simp only [cutS, h1, h2]
theorem cutS_none {α : Type} {R : Nat → Bool} : ∀ (l : List α) (k : Nat), (∀ j, k ≤ j → j < k + l.length → R j = false) → cutS R k l = l
 | [], _, _ => rfl
 | x :: r, k, h => by
  have h1 := h k (Nat.le_refl _) (by simp)
  have h2 := cutS_none r (k + 1) fun j a b => h j (by omega) (by simp; omega)
  simp [cutS, h1, h2]
theorem cutS_map {α β : Type} (R : Nat → Bool) (f : α → β) : ∀ (l : List α) (k : Nat), (cutS R k l).map f = cutS R k (l.map f)
 | [], _ => rfl
 | x :: r, k => by simp only [cutS, List.map_cons]; split <;> simp [cutS_map R f r (k + 1)]
theorem cutS_two {α : Type} (R S : Nat → Bool) : ∀ (l : List α) (k : Nat), cutS S (kb R k) (cutS R k l) = cutS (both2 R S) k l
 | [], _ => rfl
 | x :: r, k => by
  have ih := cutS_two R S r (k + 1)
  cases hr : R k with
  | true => rw [kb_gone hr] at ih; simp [cutS, hr, both2]; exact ih
  | false =>
   rw [kb_kept hr] at ih
   cases hs : S (kb R k) with
   | true => simp [cutS, hr, hs, both2]; exact ih
   | false => simp [cutS, hr, hs, both2]; exact ih
theorem cutS_len {α : Type} (R : Nat → Bool) : ∀ (l : List α) (k : Nat), (cutS R k l).length + kb R k = kb R (k + l.length)
 | [], k => by simp [cutS]
 | x :: r, k => by
  have ih := cutS_len R r (k + 1)
  rw [List.length_cons, show k + (r.length + 1) = k + 1 + r.length by omega]
  cases hr : R k with
  | true => rw [kb_gone hr] at ih; simp only [cutS, hr, if_true]; exact ih
  | false => rw [kb_kept hr] at ih; simp only [cutS, hr, if_false, List.length_cons, Bool.false_eq_true]; omega
theorem cutS_len0 {α : Type} (R : Nat → Bool) (l : List α) : (cutS R 0 l).length = kb R l.length := by have := cutS_len R l 0; simpa [kb] using this
theorem cutS_app {α : Type} (R : Nat → Bool) : ∀ (l m : List α) (k : Nat), cutS R k (l ++ m) = cutS R k l ++ cutS R (k + l.length) m
 | [], m, k => by simp [cutS]
 | x :: r, m, k => by
  have ih := cutS_app R r m (k + 1)
  rw [List.length_cons, show k + (r.length + 1) = k + 1 + r.length by omega]
  simp only [cutS, List.cons_append]
  split <;> simp [ih]
theorem cutS_at {α : Type} (R : Nat → Bool) : ∀ (l : List α) (k p : Nat), p < l.length → R (k + p) = false → (cutS R k l)[kb R (k + p) - kb R k]? = l[p]?
 | [], _, p, h, _ => by simp at h
 | x :: r, k, 0, _, hr => by simp at hr; simp [cutS, hr]
 | x :: r, k, p + 1, h, hr => by
  rw [show k + (p + 1) = k + 1 + p by omega] at hr ⊢
  have ih := cutS_at R r (k + 1) p (by simpa using h) hr
  have hm := kb_mono R (show k + 1 ≤ k + 1 + p by omega)
  cases hk : R k with
  | true => rw [kb_gone hk] at ih; simp [cutS, hk]; exact ih
  | false =>
   rw [kb_kept hk] at ih hm
   have e : kb R (k + 1 + p) - kb R k = (kb R (k + 1 + p) - (kb R k + 1)) + 1 := by omega
   simp only [cutS, hk, e, Bool.false_eq_true, if_false, List.getElem?_cons_succ]; exact ih
theorem cutS_at0 {α : Type} {R : Nat → Bool} {l : List α} {p : Nat} (h : p < l.length) (hr : R p = false) : (cutS R 0 l)[kb R p]? = l[p]? := by
 have := cutS_at R l 0 p h (by simpa using hr); simpa [kb] using this
theorem kb_onto {R : Nat → Bool} {n k : Nat} (h : k < kb R n) : ∃ p, p < n ∧ R p = false ∧ kb R p = k := by
 induction n with
 | zero => simp [kb] at h
 | succ n ih =>
  rcases Nat.lt_or_ge k (kb R n) with h1 | h1
  · obtain ⟨p, a, b, c⟩ := ih h1; exact ⟨p, by omega, b, c⟩
  cases hr : R n with
  | true => rw [kb_gone hr] at h; omega
  | false => rw [kb_kept hr] at h; exact ⟨n, by omega, hr, by omega⟩
theorem mv_jm (f : Nat → Nat) (i : Ins) : jm (i.mv f) = jm i := by unfold Ins.mv; split <;> rfl
theorem mv_c (f : Nat → Nat) (i : Ins) : (i.mv f).c = i.c := by unfold Ins.mv; split <;> rfl
theorem mv_two (f g : Nat → Nat) (i : Ins) : (i.mv f).mv g = i.mv fun a => g (f a) := by
 unfold Ins.mv
 by_cases h : jm i = true
 · have : jm { i with a := (f i.a.toNat : Int) } = true := h
   simp [h, this]
 simp [h]
theorem mv_congr {f g : Nat → Nat} {i : Ins} (h : jm i = true → f i.a.toNat = g i.a.toNat) : i.mv f = i.mv g := by
 unfold Ins.mv
 split
 · rename_i e; rw [h e]
 rfl
theorem takeI_two (R S : Nat → Bool) (l : List Ins) : takeI S (takeI R l) = takeI (both2 R S) l := by
 unfold takeI
 have h := cutS_two R S l 0
 rw [show kb R 0 = 0 from rfl] at h
 rw [← cutS_map, List.map_map, h]
 apply List.map_congr_left
 intro i _
 rw [Function.comp_apply, mv_two]
 exact mv_congr fun _ => kb_two R S _
theorem takeI_len (R : Nat → Bool) (l : List Ins) : (takeI R l).length = kb R l.length := by unfold takeI; rw [List.length_map, cutS_len0]
theorem takeI_at {R : Nat → Bool} {l : List Ins} {p : Nat} (h : p < l.length) (hr : R p = false) : (takeI R l).getD (kb R p) zInT = (l.getD p zInT).mv (kb R) := by
 unfold takeI
 rw [List.getD_eq_getElem?_getD, List.getElem?_map, cutS_at0 h hr, List.getD_eq_getElem?_getD]
 simp [h]
theorem straS_len (l : List Ins) : (straS l).length = l.length := by simp [straS]
theorem getD_lt' {α : Type} {l : List α} {i : Nat} {z : α} (h : i < l.length) : l.getD i z = l[i] := by simp [List.getD_eq_getElem?_getD, h]
theorem straS_at (l : List Ins) {p : Nat} (h : p < l.length) : (straS l).getD p zInT = (l.getD p zInT).mv (leadS l) := by
 rw [getD_lt' (by simpa [straS] using h), getD_lt' h]; simp [straS]
theorem led_mono {l : List Ins} {j : Nat} : ∀ {k a m : Nat}, led l k a = some j → k ≤ m → led l m a = some j
 | 0, _, _, h, _ => by simp [led] at h
 | k + 1, a, m, h, hm => by
  obtain ⟨m, rfl⟩ : ∃ x, m = x + 1 := ⟨m - 1, by omega⟩
  simp only [led] at h ⊢
  split
  · rename_i e; rw [if_pos e] at h; exact led_mono h (by omega)
  rename_i e; rw [if_neg e] at h; exact h
def lost (l : List Ins) (a : Nat) : Prop := ∀ k, led l k a = none
theorem led_jump {l : List Ins} {a : Nat} (h : (l.getD a zInT).c = 19) (k : Nat) : led l (k + 1) a = led l k (l.getD a zInT).a.toNat := if_pos h
theorem lost_loop {l : List Ins} {a k : Nat} (hk : 1 ≤ k) (h : ∀ m, led l (k + m) a = led l m a) : lost l a := by
 have h1 : ∀ t, led l (t * k) a = none := by
  intro t
  induction t with
  | zero => simp [led]
  | succ t ih => rw [Nat.add_mul, Nat.one_mul, Nat.add_comm, h]; exact ih
 intro n
 cases e : led l n a with
 | none => rfl
 | some j => have := led_mono e (Nat.le_mul_of_pos_right n hk); rw [h1] at this; cases this
theorem lost_jump {l : List Ins} {a : Nat} (h : (l.getD a zInT).c = 19) : lost l a ↔ lost l (l.getD a zInT).a.toNat := by
 constructor
 · intro h1 k; rw [← led_jump h]; exact h1 _
 intro h1 k
 cases k with
 | zero => rfl
 | succ k => rw [led_jump h]; exact h1 k
theorem lost_c {l : List Ins} {a : Nat} (h : lost l a) : (l.getD a zInT).c = 19 := by
 have := h 1
 simp only [led] at this
 split at this
 · rename_i e; exact e
 cases this
theorem led_end {l : List Ins} {j : Nat} : ∀ {k a : Nat}, led l k a = some j → (l.getD j zInT).c ≠ 19
 | 0, _, h => by simp [led] at h
 | k + 1, a, h => by
  simp only [led] at h
  split at h
  · exact led_end h
  rename_i e; cases h; exact e
theorem led_lt {l : List Ins} (hb : ∀ i ∈ l, i.c = 19 → i.a.toNat < l.length) {j : Nat} : ∀ {k a : Nat}, a < l.length → led l k a = some j → j < l.length
 | 0, _, _, h => by simp [led] at h
 | k + 1, a, ha, h => by
  simp only [led] at h
  split at h
  · rename_i e
    rw [getD_lt' ha] at e h
    exact led_lt hb (hb _ (List.getElem_mem ha) e) h
  cases h; exact ha
def stl (so : List Int) : Nat := so.countP (fun x => decide (0 ≤ x))
structure LI (l : List Ins) (so : List Int) : Prop where
 len : so.length = l.length
 low : ∀ i, i < so.length → -2 ≤ so.getD i 0
 hi : ∀ i, i < so.length → 0 ≤ so.getD i 0 → led l (stl so) i = some (so.getD i 0).toNat
 neg : ∀ i, i < so.length → so.getD i 0 = -1 → (l.getD i zInT).c = 19
def wayTo (l : List Ins) (i a : Nat) : Prop := ∃ k, 1 ≤ k ∧ ∀ m, led l (k + m) i = led l m a
def LD (l : List Ins) (so so' : List Int) (a : Nat) (r : Int) : Prop :=
 LI l so' ∧ (∀ i, i < so.length → so.getD i 0 ≠ -2 → so'.getD i 0 = so.getD i 0) ∧ (∀ i, i < so.length → so'.getD i 0 = -1 → so.getD i 0 = -1 ∨ lost l i) ∧ so'.getD a 0 = r ∧ -1 ≤ r ∧ (r = -1 → lost l a)
theorem getD_setI {so : List Int} {i j : Nat} {v : Int} (h : i < so.length) : (so.set i v).getD j 0 = if j = i then v else so.getD j 0 := by
 simp only [List.getD_eq_getElem?_getD, List.getElem?_set]
 by_cases e : j = i
 · subst e; simp [h]
 have e' : ¬ i = j := fun x => e x.symm
 simp [e, e']
theorem stl_set {so : List Int} {i : Nat} {v : Int} (h : i < so.length) (h1 : so.getD i 0 < 0) : stl (so.set i v) = stl so + (if 0 ≤ v then 1 else 0) := by
 unfold stl
 induction so generalizing i with
 | nil => simp at h
 | cons x r ih =>
  cases i with
  | zero =>
   simp only [List.getD_cons_zero] at h1
   have hx : decide (0 ≤ x) = false := decide_eq_false (by omega)
   by_cases hv : 0 ≤ v
   · rw [List.set_cons_zero, List.countP_cons, List.countP_cons]; simp [hx, hv]
   rw [List.set_cons_zero, List.countP_cons, List.countP_cons]; simp [hx, hv]
  | succ i =>
   simp only [List.getD_cons_succ] at h1
   have := ih (by simpa using h) h1
   rw [List.set_cons_succ, List.countP_cons, List.countP_cons, this]; omega
theorem stl_le (so : List Int) : stl so ≤ so.length := List.countP_le_length
theorem LD.plain {l : List Ins} {so : List Int} {a : Nat} (h : LI l so) (ha : a < so.length) (hc : (l.getD a zInT).c ≠ 19) : LD l so (so.set a (a : Int)) a a := by
 have hn : so.getD a 0 = -2 ∨ so.getD a 0 = (a : Int) := by
  have h1 := h.low a ha
  rcases Int.lt_or_le (so.getD a 0) 0 with h2 | h2
  · have h3 : so.getD a 0 ≠ -1 := fun e => hc (h.neg a ha e)
    left; omega
  right
  have h3 := h.hi a ha h2
  cases hk : stl so with
  | zero => rw [hk] at h3; cases h3
  | succ k =>
   rw [hk] at h3
   have h4 : led l (k + 1) a = some a := if_neg hc
   rw [h4] at h3
   have := Option.some.inj h3; omega
 rcases hn with hn | hn
 · have e := fun j => getD_setI (so := so) (i := a) (j := j) (v := (a : Int)) ha
   have hs := stl_set (so := so) (i := a) (v := (a : Int)) ha (by omega)
   rw [if_pos (by omega)] at hs
   refine ⟨⟨by rw [List.length_set]; exact h.len, fun i hi => ?_, fun i hi h0 => ?_, fun i hi h0 => ?_⟩, fun i hi h1 => ?_, fun i hi h1 => ?_, by rw [e, if_pos rfl], by omega, by omega⟩
   · rw [List.length_set] at hi; rw [e]; split; omega; exact h.low i hi
   · rw [List.length_set] at hi
     rw [e] at h0 ⊢
     split
     · rename_i e1; subst e1; rw [hs, Int.toNat_natCast]; exact if_neg hc
     rename_i e1; rw [if_neg e1] at h0; exact led_mono (h.hi i hi h0) (by omega)
   · rw [List.length_set] at hi; rw [e] at h0; split at h0; omega; exact h.neg i hi h0
   · rw [e, if_neg]; rintro rfl; exact h1 hn
   rw [e] at h1; split at h1
   · omega
   exact .inl h1
 have e : so.set a (a : Int) = so := by
  rw [← hn, getD_lt' ha]; simp
 rw [e]
 exact ⟨h, fun _ _ _ => rfl, fun i _ h1 => .inl h1, hn, by omega, by omega⟩
theorem LD.known {l : List Ins} {so : List Int} {a : Nat} (h : LI l so) (hw : ∀ i, i < so.length → so.getD i 0 = -1 → lost l i ∨ wayTo l i a) (ha : a < so.length) (hn : so.getD a 0 ≠ -2) : LD l so so a (so.getD a 0) := by
 refine ⟨h, fun _ _ _ => rfl, fun i _ h1 => .inl h1, rfl, ?_, fun h1 => ?_⟩
 · have := h.low a ha; omega
 rcases hw a ha h1 with h2 | ⟨k, hk, h2⟩
 · exact h2
 exact lost_loop hk h2
theorem LD.start {l : List Ins} {so : List Int} {a : Nat} (h : LI l so) (hw : ∀ i, i < so.length → so.getD i 0 = -1 → lost l i ∨ wayTo l i a) (ha : a < so.length) (hc : (l.getD a zInT).c = 19) (hn : so.getD a 0 = -2) :
 LI l (so.set a (-1)) ∧ ∀ i, i < (so.set a (-1)).length → (so.set a (-1)).getD i 0 = -1 → lost l i ∨ wayTo l i (l.getD a zInT).a.toNat := by
 have e := fun j => getD_setI (so := so) (i := a) (j := j) (v := -1) ha
 have hs := stl_set (so := so) (i := a) (v := -1) ha (by omega)
 rw [if_neg (by omega)] at hs
 refine ⟨⟨by rw [List.length_set]; exact h.len, fun i hi => ?_, fun i hi h0 => ?_, fun i hi h0 => ?_⟩, fun i hi h1 => ?_⟩
 · rw [List.length_set] at hi; rw [e]; split; omega; exact h.low i hi
 · rw [List.length_set] at hi
   rw [e] at h0 ⊢
   split
   · rename_i e1; rw [if_pos e1] at h0; omega
   rename_i e1; rw [if_neg e1] at h0; rw [hs]; exact h.hi i hi h0
 · rw [List.length_set] at hi
   rw [e] at h0
   split at h0
   · rename_i e1; rw [e1]; exact hc
   exact h.neg i hi h0
 rw [List.length_set] at hi
 rw [e] at h1
 split at h1
 · rename_i e1; subst e1; exact .inr ⟨1, Nat.le_refl _, fun m => by rw [Nat.add_comm]; exact led_jump hc m⟩
 rcases hw i hi h1 with h2 | ⟨k, hk, h2⟩
 · exact .inl h2
 exact .inr ⟨k + 1, by omega, fun m => by rw [Nat.add_assoc, h2, Nat.add_comm 1 m]; exact led_jump hc m⟩
theorem LD.stop {l : List Ins} {so so2 : List Int} {a : Nat} {r : Int} (h0 : LI l so) (ha : a < so.length) (hc : (l.getD a zInT).c = 19) (hn : so.getD a 0 = -2)
 (h : LD l (so.set a (-1)) so2 (l.getD a zInT).a.toNat r) (hl : (l.getD a zInT).a.toNat < so.length) : LD l so (so2.set a r) a r := by
 obtain ⟨h1, h2, h3, h4, h5, h6⟩ := h
 have e := fun j => getD_setI (so := so) (i := a) (j := j) (v := -1) ha
 have hl2 : so2.length = so.length := by rw [h1.len, h0.len]
 have hal : a < so2.length := by omega
 have e2 := fun j => getD_setI (so := so2) (i := a) (j := j) (v := r) hal
 have ha2 : so2.getD a 0 = -1 := by rw [h2 a (by rw [List.length_set]; exact ha) (by rw [e, if_pos rfl]; omega), e, if_pos rfl]
 have hs := stl_set (so := so2) (i := a) (v := r) hal (by omega)
 refine ⟨⟨by rw [List.length_set]; exact h1.len, fun i hi => ?_, fun i hi hz => ?_, fun i hi hz => ?_⟩, fun i hi hz => ?_, fun i hi hz => ?_, by rw [e2, if_pos rfl], h5, fun hz => (lost_jump hc).2 (h6 hz)⟩
 · rw [List.length_set] at hi; rw [e2]; split; omega; exact h1.low i hi
 · rw [List.length_set] at hi
   rw [e2] at hz ⊢
   split
   · rename_i e1; rw [if_pos e1] at hz; subst e1
     rw [hs, if_pos hz, led_jump hc]
     have := h1.hi (l.getD i zInT).a.toNat (by omega) (by rw [h4]; exact hz)
     rw [h4] at this; exact this
   rename_i e1; rw [if_neg e1] at hz; exact led_mono (h1.hi i hi hz) (by omega)
 · rw [List.length_set] at hi
   rw [e2] at hz
   split at hz
   · rename_i e1; rw [e1]; exact hc
   exact h1.neg i hi hz
 · rw [e2]
   split
   · rename_i e1; subst e1; exact absurd hn hz
   rename_i e1; rw [h2 i (by rw [List.length_set]; exact hi) (by rw [e, if_neg e1]; exact hz), e, if_neg e1]
 rw [e2] at hz
 split at hz
 · rename_i e1; subst e1; exact .inr ((lost_jump hc).2 (h6 hz))
 rename_i e1
 rcases h3 i (by rw [List.length_set]; exact hi) hz with h7 | h7
 · rw [e, if_neg e1] at h7; exact .inl h7
 exact .inr h7
theorem LI.init (l : List Ins) : LI l (List.replicate l.length (-2)) := by
 have e : ∀ i, i < l.length → (List.replicate l.length (-2 : Int)).getD i 0 = -2 := fun i hi => by simp [List.getD_eq_getElem?_getD, hi]
 refine ⟨by simp, fun i hi => ?_, fun i hi h => ?_, fun i hi h => ?_⟩
 · rw [List.length_replicate] at hi; rw [e i hi]; omega
 · rw [List.length_replicate] at hi; rw [e i hi] at h; omega
 rw [List.length_replicate] at hi; rw [e i hi] at h; omega
theorem LI.done {l : List Ins} {so : List Int} (h : LI l so) (h1 : ∀ i, i < so.length → so.getD i 0 ≠ -2) (h2 : ∀ i, i < so.length → so.getD i 0 = -1 → lost l i) {i : Nat} (hi : i < so.length) :
 (if so.getD i 0 = -1 then (i : Int) else so.getD i 0) = leadS l i := by
 have hl := stl_le so
 rw [h.len] at hl
 split
 · rename_i e; unfold leadS; rw [h2 i hi e]; rfl
 rename_i e
 have h3 := h.low i hi; have h4 := h1 i hi
 have h5 : 0 ≤ so.getD i 0 := by omega
 unfold leadS
 rw [led_mono (h.hi i hi h5) (show stl so ≤ l.length + 1 by omega), Option.getD_some, Int.toNat_of_nonneg h5]
theorem nodup_le : ∀ (n : Nat) (L : List Nat), L.Nodup → (∀ x ∈ L, x < n) → L.length ≤ n
 | 0, L, _, h => by
  cases L with
  | nil => simp
  | cons x r => exact absurd (h x (List.mem_cons_self ..)) (by omega)
 | n + 1, L, hn, h => by
  have h1 := nodup_le n (L.erase n) (hn.erase n) fun x hx => by
   have h2 := h x (List.mem_of_mem_erase hx)
   have h3 : x ≠ n := fun e => by subst e; exact (hn.not_mem_erase) hx
   omega
  by_cases hm : n ∈ L
  · have := List.length_erase_of_mem hm; omega
  rw [List.erase_of_not_mem hm] at h1; omega
theorem lost_vis (l : List Ins) : ∀ (k a : Nat) (V : List Nat), V.Nodup → (∀ v ∈ V, v < l.length ∧ wayTo l v a) → l.length + 1 ≤ V.length + k → led l k a = none → lost l a
 | 0, a, V, h1, h2, h3, _ => by have := nodup_le l.length V h1 fun v hv => (h2 v hv).1; omega
 | k + 1, a, V, h1, h2, h3, h4 => by
  simp only [led] at h4
  split at h4
  · rename_i hc
    by_cases hm : a ∈ V
    · obtain ⟨_, t, ht, hw⟩ := h2 a hm; exact lost_loop ht hw
    have ha : a < l.length := by
     rcases Nat.lt_or_ge a l.length with h | h
     · exact h
     rw [List.getD_eq_getElem?_getD, List.getElem?_eq_none h] at hc; cases hc
    refine (lost_jump hc).2 (lost_vis l k _ (a :: V) (List.nodup_cons.2 ⟨hm, h1⟩) (fun v hv => ?_) (by rw [List.length_cons]; omega) h4)
    rcases List.mem_cons.1 hv with rfl | hv
    · exact ⟨ha, 1, Nat.le_refl _, fun m => by rw [Nat.add_comm]; exact led_jump hc m⟩
    obtain ⟨h5, t, ht, hw⟩ := h2 v hv
    exact ⟨h5, t + 1, by omega, fun m => by rw [Nat.add_assoc, hw, Nat.add_comm 1 m]; exact led_jump hc m⟩
  cases h4
theorem lost_of_len {l : List Ins} {a : Nat} (h : led l (l.length + 1) a = none) : lost l a :=
 lost_vis l (l.length + 1) a [] List.nodup_nil (fun v hv => by cases hv) (by simp) h
inductive Rch (l : List Ins) : Nat → Prop
 | zero : 0 < l.length → Rch l 0
 | step {i : Nat} {y : Int} : Rch l i → y ∈ nxt (l.getD i zInT) i → 0 ≤ y → y.toNat < l.length → Rch l y.toNat
theorem Rch.lt {l : List Ins} {i : Nat} (h : Rch l i) : i < l.length := by cases h <;> assumption
def markS (n : Nat) (o : List Bool) (ys : List Int) : List Bool := ys.foldl (fun o y => if y < (n : Int) then o.set y.toNat true else o) o
def pass1 (l : List Ins) (o : List Bool) (i : Nat) : List Bool := if o.getD i false = true then markS l.length o (nxt (l.getD i zInT) i) else o
def passS (l : List Ins) (o : List Bool) (is : List Nat) : List Bool := is.foldl (pass1 l) o
def turnsS (l : List Ins) : Nat → List Bool → List Bool
 | 0, o => o
 | k + 1, o => turnsS l k (passS l o (List.range l.length))
def comeS (l : List Ins) : List Bool := turnsS l l.length ((List.replicate l.length false).set 0 true)
def unr (l : List Ins) (j : Nat) : Bool := !(comeS l).getD j false
def SubB (o o' : List Bool) : Prop := o'.length = o.length ∧ ∀ i, o.getD i false = true → o'.getD i false = true
theorem SubB.refl (o : List Bool) : SubB o o := ⟨rfl, fun _ h => h⟩
theorem SubB.trans {a b c : List Bool} (h : SubB a b) (k : SubB b c) : SubB a c := ⟨by rw [k.1, h.1], fun i e => k.2 i (h.2 i e)⟩
theorem getD_setB {o : List Bool} {i j : Nat} {b : Bool} (h : i < o.length) : (o.set i b).getD j false = if j = i then b else o.getD j false := by
 simp only [List.getD_eq_getElem?_getD, List.getElem?_set]
 by_cases e : j = i
 · subst e; simp [h]
 have e' : ¬ i = j := fun x => e x.symm
 simp [e, e']
theorem SubB.cnt : ∀ {o o' : List Bool}, SubB o o' → o.countP id ≤ o'.countP id ∧ (o.countP id = o'.countP id → o' = o)
 | [], [], _ => ⟨Nat.le_refl _, fun _ => rfl⟩
 | [], _ :: _, h => by cases h.1
 | _ :: _, [], h => by cases h.1
 | x :: r, y :: s, h => by
  have h1 : SubB r s := ⟨by simpa using h.1, fun i e => by simpa using h.2 (i + 1) (by simpa using e)⟩
  obtain ⟨k1, k2⟩ := SubB.cnt h1
  have h2 := h.2 0
  simp only [List.getD_cons_zero] at h2
  rw [List.countP_cons, List.countP_cons]
  cases x <;> cases y
  · exact ⟨by simpa using k1, fun e => by rw [k2 (by simpa using e)]⟩
  · exact ⟨by simp; omega, fun e => by simp at e; omega⟩
  · cases h2 rfl
  exact ⟨by simpa using k1, fun e => by rw [k2 (by simpa using e)]⟩
theorem markS_ok {n : Nat} : ∀ {ys : List Int} {o : List Bool}, o.length = n → (∀ y ∈ ys, 0 ≤ y) → SubB o (markS n o ys) ∧ (∀ y ∈ ys, y < (n : Int) → (markS n o ys).getD y.toNat false = true) ∧ ∀ j, (markS n o ys).getD j false = true → o.getD j false = true ∨ ∃ y ∈ ys, y.toNat = j ∧ y < (n : Int)
 | [], o, _, _ => ⟨.refl o, by simp, fun j h => .inl h⟩
 | y :: r, o, ho, h0 => by
  have hy := h0 y (List.mem_cons_self ..)
  have hr := fun x hx => h0 x (List.mem_cons_of_mem _ hx)
  show SubB o (markS n (if y < (n : Int) then o.set y.toNat true else o) r) ∧ _
  by_cases e : y < (n : Int)
  · have hl : y.toNat < o.length := by omega
    have g := fun j => getD_setB (o := o) (i := y.toNat) (j := j) (b := true) hl
    have hs : SubB o (o.set y.toNat true) := ⟨by simp, fun i hi => by rw [g]; split <;> first | rfl | exact hi⟩
    obtain ⟨a, b, c⟩ := markS_ok (n := n) (ys := r) (o := o.set y.toNat true) (by simpa using ho) hr
    have em : markS n o (y :: r) = markS n (o.set y.toNat true) r := by simp [markS, e]
    rw [if_pos e, em]
    refine ⟨hs.trans a, fun x hx hxn => ?_, fun j hj => ?_⟩
    · rcases List.mem_cons.1 hx with rfl | hx
      · exact a.2 _ (by rw [g, if_pos rfl])
      exact b x hx hxn
    rcases c j hj with h1 | ⟨x, hx, h1⟩
    · rw [g] at h1
      split at h1
      · rename_i e1; exact .inr ⟨y, List.mem_cons_self .., e1.symm, e⟩
      exact .inl h1
    exact .inr ⟨x, List.mem_cons_of_mem _ hx, h1⟩
  obtain ⟨a, b, c⟩ := markS_ok (n := n) (ys := r) (o := o) ho hr
  have em : markS n o (y :: r) = markS n o r := by simp [markS, e]
  rw [if_neg e, em]
  refine ⟨a, fun x hx hxn => ?_, fun j hj => ?_⟩
  · rcases List.mem_cons.1 hx with rfl | hx
    · exact absurd hxn e
    exact b x hx hxn
  rcases c j hj with h1 | ⟨x, hx, h1⟩
  · exact .inl h1
  exact .inr ⟨x, List.mem_cons_of_mem _ hx, h1⟩
theorem nxt_nn {x : Ins} (h : 0 ≤ x.a) (a : Nat) : ∀ y ∈ nxt x (a : Int), 0 ≤ y := by
 intro y hy
 unfold nxt at hy
 split at hy
 · cases hy
 split at hy
 · rw [List.mem_singleton.1 hy]; exact h
 split at hy
 · split at hy
   · rw [List.mem_singleton.1 hy]; exact h
   rcases List.mem_cons.1 hy with rfl | hy
   · exact h
   rw [List.mem_singleton.1 hy]; omega
 rw [List.mem_singleton.1 hy]; omega
theorem zIns_nn {l : List Ins} (hb : ∀ i ∈ l, 0 ≤ i.a) (p : Nat) : 0 ≤ (l.getD p zInT).a := by
 rcases Nat.lt_or_ge p l.length with h | h
 · rw [getD_lt' h]; exact hb _ (List.getElem_mem h)
 rw [List.getD_eq_getElem?_getD, List.getElem?_eq_none h]; decide
section
variable {l : List Ins}
theorem pass1_ok (hb : ∀ i ∈ l, 0 ≤ i.a) {o : List Bool} (ho : o.length = l.length) (i : Nat) : SubB o (pass1 l o i) ∧ (o.getD i false = true → ∀ y ∈ nxt (l.getD i zInT) i, y < (l.length : Int) → (pass1 l o i).getD y.toNat false = true) ∧ ((∀ j, o.getD j false = true → Rch l j) → ∀ j, (pass1 l o i).getD j false = true → Rch l j) := by
 unfold pass1
 split
 · rename_i h
   have hn := nxt_nn (zIns_nn hb i) i
   obtain ⟨a, b, c⟩ := markS_ok (n := l.length) (o := o) ho hn
   refine ⟨a, fun _ => b, fun hR j hj => ?_⟩
   rcases c j hj with h1 | ⟨y, hy, h1, h2⟩
   · exact hR j h1
   subst h1; exact .step (hR i h) hy (hn y hy) (by have := hn y hy; omega)
 rename_i h
 exact ⟨.refl o, fun e => absurd e h, fun hR => hR⟩
theorem passS_ok (hb : ∀ i ∈ l, 0 ≤ i.a) : ∀ {is : List Nat} {o : List Bool}, o.length = l.length → SubB o (passS l o is) ∧ (∀ i ∈ is, o.getD i false = true → ∀ y ∈ nxt (l.getD i zInT) i, y < (l.length : Int) → (passS l o is).getD y.toNat false = true) ∧ ((∀ j, o.getD j false = true → Rch l j) → ∀ j, (passS l o is).getD j false = true → Rch l j)
 | [], o, _ => ⟨.refl o, by simp, fun hR => hR⟩
 | i :: r, o, ho => by
  obtain ⟨a, b, c⟩ := pass1_ok hb ho i
  obtain ⟨a2, b2, c2⟩ := passS_ok hb (is := r) (o := pass1 l o i) (by rw [a.1]; exact ho)
  have em : passS l o (i :: r) = passS l (pass1 l o i) r := rfl
  rw [em]
  refine ⟨a.trans a2, fun x hx hox y hy hyl => ?_, fun hR => c2 (c hR)⟩
  rcases List.mem_cons.1 hx with rfl | hx
  · exact a2.2 _ (b hox y hy hyl)
  exact b2 x hx (a.2 _ hox) y hy hyl
theorem turnsS_fix {o : List Bool} (h : passS l o (List.range l.length) = o) : ∀ k, turnsS l k o = o
 | 0 => rfl
 | k + 1 => by rw [turnsS, h]; exact turnsS_fix h k
theorem turnsS_ok (hb : ∀ i ∈ l, 0 ≤ i.a) : ∀ (k : Nat) {o : List Bool}, o.length = l.length → SubB o (turnsS l k o) ∧ ((∀ j, o.getD j false = true → Rch l j) → ∀ j, (turnsS l k o).getD j false = true → Rch l j) ∧ (passS l (turnsS l k o) (List.range l.length) = turnsS l k o ∨ o.countP id + k ≤ (turnsS l k o).countP id)
 | 0, o, _ => ⟨.refl o, fun h => h, .inr (Nat.le_refl _)⟩
 | k + 1, o, ho => by
  obtain ⟨a, _, c⟩ := passS_ok hb (is := List.range l.length) ho
  obtain ⟨a2, b2, c2⟩ := turnsS_ok hb k (o := passS l o (List.range l.length)) (by rw [a.1]; exact ho)
  refine ⟨a.trans a2, fun hR => b2 (c hR), ?_⟩
  by_cases e : passS l o (List.range l.length) = o
  · left
    have : turnsS l (k + 1) o = o := turnsS_fix e (k + 1)
    rw [this]; exact e
  rcases c2 with h | h
  · exact .inl h
  right
  obtain ⟨k1, k2⟩ := a.cnt
  have : o.countP id ≠ (passS l o (List.range l.length)).countP id := fun h2 => e (k2 h2)
  show o.countP id + (k + 1) ≤ (turnsS l k (passS l o (List.range l.length))).countP id
  omega
theorem comeS_len (hb : ∀ i ∈ l, 0 ≤ i.a) : (comeS l).length = l.length := by
 have := (turnsS_ok hb l.length (o := (List.replicate l.length false).set 0 true) (by simp)).1.1
 simpa [comeS] using this
theorem comeS_iff (hb : ∀ i ∈ l, 0 ≤ i.a) (j : Nat) : (comeS l).getD j false = true ↔ Rch l j := by
 obtain ⟨a, b, c⟩ := turnsS_ok hb l.length (o := (List.replicate l.length false).set 0 true) (by simp)
 have ef : ∀ j, (List.replicate l.length false).getD j false = false := fun j => by rw [List.getD_eq_getElem?_getD, List.getElem?_replicate]; split <;> rfl
 rcases Nat.eq_zero_or_pos l.length with h0 | h0
 · constructor
   · intro h
     have : (comeS l).length = 0 := by rw [comeS_len hb, h0]
     rw [List.eq_nil_of_length_eq_zero this] at h; simp at h
   intro h; have := h.lt; omega
 have g := fun j => getD_setB (o := List.replicate l.length false) (i := 0) (j := j) (b := true) (by simpa using h0)
 have hc1 : 1 ≤ ((List.replicate l.length false).set 0 true).countP id := by
  rw [List.one_le_countP_iff]
  exact ⟨true, List.mem_iff_getElem.2 ⟨0, by simpa using h0, by simp⟩, rfl⟩
 constructor
 · refine b (fun j h => ?_) j
   rw [g] at h
   split at h
   · rename_i e; subst e; exact .zero h0
   rw [ef] at h; cases h
 intro h
 have hfix : passS l (comeS l) (List.range l.length) = comeS l := by
  rcases c with h1 | h1
  · exact h1
  have := List.countP_le_length (p := id) (l := turnsS l l.length ((List.replicate l.length false).set 0 true))
  rw [a.1] at this; simp only [List.length_set, List.length_replicate] at this
  omega
 have hp := (passS_ok hb (is := List.range l.length) (comeS_len hb)).2.1
 rw [hfix] at hp
 induction h with
 | zero h => exact a.2 0 (by rw [g, if_pos rfl])
 | step hR hy h1 h2 ih => exact hp _ (by simpa using hR.lt) ih _ hy (by omega)
theorem unr_iff (hb : ∀ i ∈ l, 0 ≤ i.a) (j : Nat) : unr l j = false ↔ Rch l j := by
 rw [← comeS_iff hb, unr]; simp
structure PI (l : List Ins) (out : List Bool) (todo : List Int) : Prop where
 len : out.length = l.length
 rch : ∀ j, j < l.length → out.getD j false = false → Rch l j
 td : ∀ x ∈ todo, 0 ≤ x ∧ x.toNat < l.length ∧ Rch l x.toNat
 cls : ∀ j, j < l.length → out.getD j false = false → ∀ y ∈ nxt (l.getD j zInT) j, out.getD y.toNat false = false ∨ y ∈ todo
 zer : out.getD 0 false = false ∨ (0 : Int) ∈ todo
def pushS (i : Ins) (a : Nat) : List Int := (if jm i = true then [i.a] else []) ++ (if i.c ≠ 19 ∧ i.c ≠ 34 then [(a : Int) + 1] else [])
theorem pushS_mem (i : Ins) (a : Nat) (y : Int) : y ∈ pushS i a ↔ y ∈ nxt i a := by
 unfold pushS nxt jm
 by_cases h1 : i.c = 34
 · simp [h1]
 by_cases h2 : i.c = 19
 · simp [h2]
 by_cases h3 : i.c = 20 ∨ i.c = 21
 · have : 19 ≤ i.c ∧ i.c ≤ 21 := by omega
   simp [h1, h2, h3, this]
   by_cases h4 : i.a = a + 1
   · simp [h4]
   simp [h4]
 have : ¬ (19 ≤ i.c ∧ i.c ≤ 21) := by omega
 simp [h1, h2, h3, this]
theorem PI.init (h : 0 < l.length) : PI l (List.replicate l.length true) [0] := by
 have ef : ∀ j, j < l.length → (List.replicate l.length true).getD j false = true := fun j hj => by simp [List.getD_eq_getElem?_getD, hj]
 exact ⟨by simp, fun j hj e => (by rw [ef j hj] at e; cases e), fun x hx => (by rw [List.mem_singleton.1 hx]; exact ⟨Int.le_refl _, h, .zero h⟩), fun j hj e => (by rw [ef j hj] at e; cases e), .inr (List.mem_singleton_self _)⟩
theorem PI.skip {out : List Bool} {todo : List Int} {x : Int} (h : PI l out (todo ++ [x])) (hx : out.getD x.toNat false = false) : PI l out todo := by
 obtain ⟨x0, x1, x2⟩ := h.td x (by simp)
 refine ⟨h.len, h.rch, fun y hy => h.td y (by simp [hy]), fun j hj e y hy => ?_, ?_⟩
 · rcases h.cls j hj e y hy with k | k
   · exact .inl k
   rcases List.mem_append.1 k with k | k
   · exact .inr k
   rw [List.mem_singleton.1 k]; exact .inl hx
 rcases h.zer with k | k
 · exact .inl k
 rcases List.mem_append.1 k with k | k
 · exact .inr k
 rw [← List.mem_singleton.1 k] at hx; exact .inl hx
theorem PI.mark (hb : ∀ i ∈ l, 0 ≤ i.a) (hV : ∀ j, Rch l j → ∀ y ∈ nxt (l.getD j zInT) j, y < (l.length : Int)) {out : List Bool} {todo : List Int} {x : Int} (h : PI l out (todo ++ [x])) :
 PI l (out.set x.toNat false) (todo ++ pushS (l.getD x.toNat zInT) x.toNat) := by
 obtain ⟨x0, x1, x2⟩ := h.td x (by simp)
 have hl := h.len
 have g := fun j => getD_setB (o := out) (i := x.toNat) (j := j) (b := false) (by omega)
 refine ⟨by rw [List.length_set]; exact h.len, fun j hj e => ?_, fun y hy => ?_, fun j hj e y hy => ?_, ?_⟩
 · rw [g] at e
   split at e
   · rename_i e1; rw [e1]; exact x2
   exact h.rch j hj e
 · rcases List.mem_append.1 hy with k | k
   · exact h.td y (by simp [k])
   rw [pushS_mem] at k
   have h1 := nxt_nn (zIns_nn hb x.toNat) x.toNat y k
   have h2 := hV _ x2 y k
   exact ⟨h1, by omega, .step x2 k h1 (by omega)⟩
 · rw [g]
   by_cases e1 : y.toNat = x.toNat
   · rw [if_pos e1]; exact .inl rfl
   rw [if_neg e1]
   rw [g] at e
   by_cases e2 : j = x.toNat
   · subst e2; right; rw [List.mem_append, pushS_mem]; exact .inr hy
   rw [if_neg e2] at e
   rcases h.cls j hj e y hy with k | k
   · exact .inl k
   rcases List.mem_append.1 k with k | k
   · right; simp [k]
   rw [List.mem_singleton.1 k] at e1; exact absurd rfl e1
 rw [g]
 by_cases e1 : 0 = x.toNat
 · rw [if_pos e1]; exact .inl rfl
 rw [if_neg e1]
 rcases h.zer with k | k
 · exact .inl k
 rcases List.mem_append.1 k with k | k
 · right; simp [k]
 rw [← List.mem_singleton.1 k] at e1; exact absurd rfl e1
theorem PI.over (hb : ∀ i ∈ l, 0 ≤ i.a) {out : List Bool} (h : PI l out []) (j : Nat) (hj : j < l.length) : out.getD j false = unr l j := by
 have h1 : out.getD j false = false ↔ Rch l j := by
  refine ⟨h.rch j hj, fun hR => ?_⟩
  clear hj
  induction hR with
  | zero _ => rcases h.zer with k | k; exact k; cases k
  | step hR hy h1 h2 ih =>
   rcases h.cls _ hR.lt ih _ hy with k | k
   · exact k
   cases k
 rw [← unr_iff hb] at h1
 cases e1 : out.getD j false <;> cases e2 : unr l j <;> simp_all
end
def clo : Nat → List Ins → List Bool
 | _, [] => []
 | k, x :: r => (decide (x.c = 19) && decide ((k : Int) < x.a) && ((clo (k + 1) r).take (x.a.toNat - (k + 1))).all id) :: clo (k + 1) r
def cl (l : List Ins) (j : Nat) : Bool := (clo 0 l).getD j false
theorem clo_len : ∀ (l : List Ins) (k : Nat), (clo k l).length = l.length
 | [], _ => rfl
 | x :: r, k => by simp [clo, clo_len r (k + 1)]
theorem clo_drop : ∀ (l : List Ins) (k p : Nat), (clo k l).drop p = clo (k + p) (l.drop p)
 | l, k, 0 => by simp
 | [], k, p + 1 => by simp [clo]
 | x :: r, k, p + 1 => by simp only [clo, List.drop_succ_cons]; rw [clo_drop r (k + 1) p]; congr 1; omega
theorem clo_at {l : List Ins} {k : Nat} : ∀ j, (clo k (l.drop k)).getD j false = (clo 0 l).getD (k + j) false := by
 intro j
 have := clo_drop l 0 k
 rw [Nat.zero_add] at this
 rw [← this, List.getD_eq_getElem?_getD, List.getElem?_drop, List.getD_eq_getElem?_getD]
theorem cl_iff {l : List Ins} {p : Nat} (h : p < l.length) (hA : (l.getD p zInT).a.toNat ≤ l.length) :
 cl l p = true ↔ (l.getD p zInT).c = 19 ∧ (p : Int) < (l.getD p zInT).a ∧ ∀ j, p < j → j < (l.getD p zInT).a.toNat → cl l j = true := by
 have h1 : cl l p = (clo p (l.drop p)).getD 0 false := by rw [clo_at]; rfl
 rw [h1, List.drop_eq_getElem_cons h]
 rw [getD_lt' h] at hA ⊢
 simp only [clo, List.getD_cons_zero, Bool.and_eq_true, decide_eq_true_eq, List.all_eq_true, and_assoc]
 refine and_congr_right fun _ => and_congr_right fun h3 => ?_
 constructor
 · intro h4 j hj1 hj2
   have hm := h4 ((clo (p + 1) (l.drop (p + 1))).getD (j - (p + 1)) false) (by
    have hl : j - (p + 1) < (clo (p + 1) (l.drop (p + 1))).length := by rw [clo_len, List.length_drop]; omega
    rw [getD_lt' hl]
    refine List.mem_iff_getElem.2 ⟨j - (p + 1), by rw [List.length_take]; omega, by simp⟩)
   rw [clo_at] at hm
   rw [show p + 1 + (j - (p + 1)) = j by omega] at hm
   exact hm
 intro h4 b hb
 obtain ⟨i, hi, rfl⟩ := List.getElem_of_mem hb
 rw [List.length_take, clo_len, List.length_drop] at hi
 have := h4 (p + 1 + i) (by omega) (by omega)
 unfold cl at this
 rw [← clo_at, List.getD_eq_getElem?_getD] at this
 simp only [List.getElem_take, id]
 have hl : i < (clo (p + 1) (l.drop (p + 1))).length := by rw [clo_len, List.length_drop]; omega
 rw [List.getElem?_eq_getElem hl] at this
 exact this
theorem cl_out {l : List Ins} {p : Nat} (h : l.length ≤ p) : cl l p = false := by
 unfold cl; rw [List.getD_eq_getElem?_getD, List.getElem?_eq_none (by rw [clo_len]; exact h)]; rfl
def LeftQ (l : List Ins) (s : Nat) (left : List Int) : Prop := left.length = l.length + 1 ∧ ∀ j, s ≤ j → j ≤ l.length → (j : Int) ≤ left.getD j 0 ∧ left.getD j 0 ≤ l.length ∧ (∀ i, j ≤ i → i < (left.getD j 0).toNat → cl l i = true) ∧ ((left.getD j 0).toNat < l.length → cl l (left.getD j 0).toNat = false)
theorem LeftQ.eq {l : List Ins} {s : Nat} {left : List Int} (h : LeftQ l s left) {a b : Nat} (ha : s ≤ a) (hab : a ≤ b) (hb : b ≤ l.length) : left.getD b 0 = left.getD a 0 ↔ ∀ j, a ≤ j → j < b → cl l j = true := by
 obtain ⟨a1, a2, a3, a4⟩ := h.2 a ha (by omega)
 obtain ⟨b1, b2, b3, b4⟩ := h.2 b (by omega) hb
 constructor
 · intro e j h1 h2; exact a3 j h1 (by omega)
 intro hc
 have hge : (b : Int) ≤ left.getD a 0 := by
  rcases Int.lt_or_le (left.getD a 0) b with h1 | h1
  · exfalso
    have := hc (left.getD a 0).toNat (by omega) (by omega)
    rw [a4 (by omega)] at this; cases this
  exact h1
 rcases Int.lt_trichotomy (left.getD a 0) (left.getD b 0) with h1 | h1 | h1
 · have := b3 (left.getD a 0).toNat (by omega) (by omega)
   rw [a4 (by omega)] at this; cases this
 · exact h1.symm
 have := a3 (left.getD b 0).toNat (by omega) (by omega)
 rw [b4 (by omega)] at this; cases this
theorem LeftQ.init (l : List Ins) : LeftQ l l.length ((List.replicate (l.length + 1) 0).set l.length (l.length : Int)) := by
 have g := fun j => getD_setI (so := List.replicate (l.length + 1) 0) (i := l.length) (j := j) (v := (l.length : Int)) (by simp)
 refine ⟨by simp, fun j h1 h2 => ?_⟩
 obtain rfl : j = l.length := by omega
 rw [g, if_pos rfl]
 exact ⟨Int.le_refl _, Int.le_refl _, fun i h1 h2 => by omega, fun h => by omega⟩
theorem LeftQ.step {l : List Ins} {a : Nat} {left : List Int} (h : LeftQ l (a + 1) left) (ha : a < l.length) : LeftQ l a (left.set a (if cl l a = true then left.getD (a + 1) 0 else (a : Int))) := by
 have hl := h.1
 have g := fun j v => getD_setI (so := left) (i := a) (j := j) (v := v) (by omega)
 refine ⟨by rw [List.length_set]; exact h.1, fun j h1 h2 => ?_⟩
 rw [g]
 by_cases e : j = a
 · rw [if_pos e]; subst e
   obtain ⟨a1, a2, a3, a4⟩ := h.2 (j + 1) (Nat.le_refl _) (by omega)
   split
   · rename_i hc
     exact ⟨by omega, a2, fun i h3 h4 => by rcases Nat.lt_or_ge j i with h5 | h5; exact a3 i h5 h4; rw [show i = j by omega]; exact hc, a4⟩
   rename_i hc
   refine ⟨Int.le_refl _, by omega, fun i h3 h4 => by omega, fun _ => ?_⟩
   rw [Int.toNat_natCast]; simpa using hc
 rw [if_neg e]; exact h.2 j (by omega) h2
theorem kb_one (a k : Nat) : kb (fun j => j == a) k = if a < k then k - 1 else k := by
 induction k with
 | zero => simp [kb]
 | succ k ih =>
  simp only [kb, ih, beq_iff_eq]
  by_cases h1 : a < k
  · rw [if_pos h1, if_neg (by omega), if_pos (by omega)]; omega
  by_cases h2 : k = a
  · rw [if_neg h1, if_pos h2, if_pos (by omega)]; omega
  rw [if_neg h1, if_neg h2, if_neg (by omega)]
theorem ginfo3 : (Tryz.prog.info? 3).map (fun i => (i.zero, i.size, i.bytes)) = some (some (.int .i64 0), 1, 8) := by kernel_rfl
theorem ginfo2 : (Tryz.prog.info? 2).map (fun i => (i.zero, i.size, i.bytes)) = some (some (.int .i64 0), 1, 8) := by kernel_rfl
theorem ginfo65 : (Tryz.prog.info? 65).map (fun i => (i.zero, i.size, i.bytes)) = some (some (.agg #[.int .i64 0, .int .i64 0, .int .i64 0, .int .i64 0]), 4, 32) := by kernel_rfl
theorem ginfo4 : (Tryz.prog.info? 4).map (fun i => (i.zero, i.size, i.bytes)) = some (some (.bool false), 1, 1) := by kernel_rfl
theorem sees_none {q : List HP} {vs : List Value} {G w : World} (h : Sees q none vs) (s : St G w q) : vs = [] := by
 cases vs with
 | nil => rfl
 | cons x r => obtain ⟨b, o, e, _⟩ := h G w s 0 x rfl; cases e
theorem cutS_snoc {α : Type} {R : Nat → Bool} {l : List α} {s : Nat} (h : s < l.length) : cutS R 0 (l.take (s + 1)) = cutS R 0 (l.take s) ++ (if R s = true then [] else [l[s]]) := by
 rw [List.take_succ_eq_append_getElem h, cutS_app, List.length_take, Nat.min_eq_left (by omega), Nat.zero_add]; rfl
theorem cutS_le {α : Type} (R : Nat → Bool) (l : List α) : (cutS R 0 l).length ≤ l.length := by rw [cutS_len0]; exact kb_le _ _
section
variable {G : World} {q : List HP} {a b A : Option Addr} {c d : Nat} {cd : Int} {l : List Ins} {ln : List Int} {o : List Bool}
theorem isJump_ok  : CallF Tryz.prog G 162 [.int .i64 cd] (q) (Ret fun v q' => v = .bool (decide (19 ≤ cd ∧ cd ≤ 21)) ∧ q' = q) := by
 refine CallF.of Tryz.func162 Tryz.ntmps162 rfl (fun F cs => ?_)
 refine xo 9 ?_; refine XO.sb [5, 2, 0] ?_
 apply XO.cutOr 3 8 5 rfl
 · intro g1 M1; have h1 := sp g1
   refine oo 3 ?_; exact XO.fin M1 ⟨orF g1, subB⟩
 · intro g1 M1; have h1 := sp g1
   refine oo 3 ?_; exact XO.fin M1 ⟨orT g1, subB⟩
 refine oo 1 ?_; refine XO.sb [9, 2, 0] ?_
 apply XO.cutOr 3 12 9 rfl
 · intro g1 M1; have h1 := sp g1
   refine oo 3 ?_; exact XO.fin M1 ⟨orF g1, subB⟩
 · intro g1 M1; have h1 := sp g1
   refine oo 3 ?_; exact XO.fin M1 ⟨orT g1, subB⟩
 refine ox 2 ?_; refine X.retL (q) Tryz.func162 (res1 Tryz.results162 rfl) ⟨_, rfl, congrArg Value.bool (by rw [Bool.eq_iff_iff]; simp; omega), rfl⟩
theorem cloneint64_ok {m : List Int} (hs : Sees q a (m.map I64)) (hL : m.length ≤ 1000000) : CallF Tryz.prog G 51 [.slice a m.length c] (q) (Ret fun v q' => ∃ a' c', v = .slice a' m.length c' ∧ q' = lsH I64 2 a' c' (m) :: q) := by
 refine CallF.of Tryz.func51 Tryz.ntmps51 rfl (fun F cs => ?_)
 rcases a with _ | ⟨a⟩
 · refine X.fact (fun w s => sees_none (hs.le leA) s) (fun hm => ?_)
   obtain rfl : m = [] := by cases m with
    | nil => rfl
    | cons x r => simp [insC] at hm
   refine xx 10 ?_; refine X.kt 4 ?_; refine X.le (q' := lsH I64 2 none 0 ([]) :: _) (Le.lsH_nil I64 2 _) ?_
   refine xx 5 ?_; refine X.retL (lsH I64 2 none 0 ([]) :: q) Tryz.func51 (res1 Tryz.results51 rfl) ⟨_, rfl, none, 0, rfl, rfl⟩
 refine xx 10 ?_; refine X.kf 4 ?_; refine xo 4 ?_; refine XO.ef (Ef.lit0 I64 Tryz.underlying22 ginfo2) ?_; rintro _ _ ⟨g0, rfl, rfl⟩
 refine oo 1 ?_; refine XO.ef (Ef.appA (f := I64) (l := []) (m := m) Tryz.underlying22 ginfo2 rfl rfl rfl fndA (hs.le leA) (fun _ => rfl) (by simp; omega) (by simp; omega)) ?_
 rintro _ _ ⟨a2, c2, rfl, rfl⟩
 refine ox 2 ?_; refine X.retL (lsH I64 2 a2 c2 (m) :: q) Tryz.func51 (res1 Tryz.results51 rfl) ⟨_, rfl, a2, c2, rfl, rfl⟩
theorem cloneint_ok {m : List Int} (hs : Sees q a (m.map I64)) (hL : m.length ≤ 1000000) : CallF Tryz.prog G 52 [.slice a m.length c] (q) (Ret fun v q' => ∃ a' c', v = .slice a' m.length c' ∧ q' = lsH I64 3 a' c' (m) :: q) := by
 refine CallF.of Tryz.func52 Tryz.ntmps52 rfl (fun F cs => ?_)
 rcases a with _ | ⟨a⟩
 · refine X.fact (fun w s => sees_none (hs.le leA) s) (fun hm => ?_)
   obtain rfl : m = [] := by cases m with
    | nil => rfl
    | cons x r => simp [insC] at hm
   refine xx 10 ?_; refine X.kt 4 ?_; refine X.le (q' := lsH I64 3 none 0 ([]) :: _) (Le.lsH_nil I64 3 _) ?_
   refine xx 5 ?_; refine X.retL (lsH I64 3 none 0 ([]) :: q) Tryz.func52 (res1 Tryz.results52 rfl) ⟨_, rfl, none, 0, rfl, rfl⟩
 refine xx 10 ?_; refine X.kf 4 ?_; refine xo 4 ?_; refine XO.ef (Ef.lit0 I64 Tryz.underlying23 ginfo3) ?_; rintro _ _ ⟨g0, rfl, rfl⟩
 refine oo 1 ?_; refine XO.ef (Ef.appA (f := I64) (l := []) (m := m) Tryz.underlying23 ginfo3 rfl rfl rfl fndA (hs.le leA) (fun _ => rfl) (by simp; omega) (by simp; omega)) ?_
 rintro _ _ ⟨a2, c2, rfl, rfl⟩
 refine ox 2 ?_; refine X.retL (lsH I64 3 a2 c2 (m) :: q) Tryz.func52 (res1 Tryz.results52 rfl) ⟨_, rfl, a2, c2, rfl, rfl⟩
theorem cloneIns_ok {m : List Ins} (hs : Sees q a (m.flatMap insC)) (hL : m.length ≤ 1000000) : CallF Tryz.prog G 80 [.slice a m.length c] (q) (Ret fun v q' => ∃ a' c', v = .slice a' m.length c' ∧ q' = rsH insC 4 65 a' c' (m) :: q) := by
 refine CallF.of Tryz.func80 Tryz.ntmps80 rfl (fun F cs => ?_)
 rcases a with _ | ⟨a⟩
 · refine X.fact (fun w s => sees_none (hs.le leA) s) (fun hm => ?_)
   obtain rfl : m = [] := by cases m with
    | nil => rfl
    | cons x r => simp [insC] at hm
   refine xx 10 ?_; refine X.kt 4 ?_; refine X.le (q' := rsH insC 4 65 none 0 ([]) :: _) (Le.rsH_nil insC 4 65 _) ?_
   refine xx 5 ?_; refine X.retL (rsH insC 4 65 none 0 ([]) :: q) Tryz.func80 (res1 Tryz.results80 rfl) ⟨_, rfl, none, 0, rfl, rfl⟩
 refine xx 10 ?_; refine X.kf 4 ?_; refine xo 4 ?_; refine XO.ef (Ef.litR0 insC Tryz.underlying45 ginfo65) ?_; rintro _ _ ⟨g0, rfl, rfl⟩
 refine oo 1 ?_; refine XO.ef (Ef.appRA (f := insC) (l := []) (m := m) Tryz.underlying45 ginfo65 rfl rfl (fun _ => rfl) rfl rfl fndA (hs.le leA) (fun _ => rfl) (by simp; omega) (by simp; omega)) ?_
 rintro _ _ ⟨a2, c2, rfl, rfl⟩
 refine ox 2 ?_; refine X.retL (rsH insC 4 65 a2 c2 (m) :: q) Tryz.func80 (res1 Tryz.results80 rfl) ⟨_, rfl, a2, c2, rfl, rfl⟩
set_option maxHeartbeats 1000000 in
theorem cutint_ok {m : List Int} (hs : Sees q a (m.map I64)) (ho : Sees q b (o.map Value.bool)) (hl : m.length ≤ o.length) (hL : m.length ≤ 1000000) : CallF Tryz.prog G 195 [.slice a m.length c, .slice b o.length d] (q) (Ret fun v q' => ∃ a' c', v = .slice a' (cutS (fun j => o.getD j false) 0 m).length c' ∧ q' = lsH I64 3 a' c' ((cutS (fun j => o.getD j false) 0 m)) :: q) := by
 refine CallF.of Tryz.func195 Tryz.ntmps195 rfl (fun F cs => ?_)
 refine xx 16 ?_; refine X.at (X.loop (fun (s : Nat × Option Addr × Nat) => s.1 ≤ m.length) (fun s => [(8, .slice a m.length c), (9, .int .i64 (m.length : Int)), (10, .int .i64 (s.1 : Int)), (5, .slice s.2.1 (cutS (fun j => o.getD j false) 0 (m.take s.1)).length s.2.2), (1, .slice b o.length d), (4, .slice none 0 0)]) (fun s => lsH I64 3 s.2.1 s.2.2 ((cutS (fun j => o.getD j false) 0 (m.take s.1))) :: (q ++ F)) (fun s => m.length - s.1) (fun s hi_ ih => ?_) (0, none, 0) (Nat.zero_le _)) subA (Le.trans leA (Le.lsH_nil I64 3 _))
 try dsimp only at hi_ ih ⊢
 obtain hs0 := hi_
 obtain ⟨s, a1, c1⟩ := s; dsimp only at *
 refine xx 5 ?_; refine X.part 11 rfl (fun h0 => ?_) (fun h0 => ?_)
 · replace h0 := sp h0
   have hlt : s < m.length := by omega
   have hso : s < o.length := by omega
   have hcl : (cutS (fun j => o.getD j false) 0 (m.take s)).length ≤ m.length := by have := cutS_le (fun j => o.getD j false) (m.take s); rw [List.length_take] at this; omega
   refine xo 7 ?_; refine XO.adr hs (by simp; omega) (fun b1 o1 e1 => ?_)
   have hs1 := hs; rw [e1] at hs1
   refine XO.know 8 (.slice (some ⟨b1, o1, none⟩) m.length c) rfl (by rw [e1]) ?_
   refine oo 1 ?_; refine ld ?_ (hc := (Cl.e1 hs1 leA hlt rfl))
   refine oo 7 ?_; refine XO.adr ho (by simp; omega) (fun b2 o2 e2 => ?_)
   have hs2 := ho; rw [e2] at hs2
   refine XO.know 15 (.slice (some ⟨b2, o2, none⟩) o.length d) rfl (by rw [e2]) ?_
   refine oo 1 ?_; refine ld ?_ (hc := (Cl.e1 hs2 leA hso rfl))
   refine XO.pu (Pu.not rfl) ?_; refine ox 1 ?_; refine X.part 19 rfl (fun h1 => ?_) (fun h1 => ?_)
   · replace h1 := sp h1
     refine xo 4 ?_; refine XO.ef (Ef.lit1 I64 Tryz.underlying23 ginfo3 rfl rfl) ?_; rintro _ _ ⟨g0, rfl, rfl⟩
     refine XO.ef (Ef.appA (f := I64) (l := (cutS (fun j => o.getD j false) 0 (m.take s))) (m := [m[s]]) Tryz.underlying23 ginfo3 rfl rfl rfl fndA ((Sees.lsH _).le fndA) (fun _ => rfl) (by simp only [List.length_cons, List.length_nil]; omega) (by simp only [List.length_cons, List.length_nil]; omega)) ?_
     rintro _ _ ⟨a2, c2, rfl, rfl⟩
     refine ox 7 ?_; refine X.sb [10, 5, 8, 9, 1, 4] ?_
     have hk : o.getD s false = false := by rw [List.getD_eq_getElem?_getD, List.getElem?_eq_getElem hso]; simpa using h1
     have hS : (cutS (fun j => o.getD j false) 0 (m.take (s + 1))) = (cutS (fun j => o.getD j false) 0 (m.take s)) ++ [m[s]] := by rw [cutS_snoc hlt, if_neg (by rw [hk]; decide)]
     rw [← hS]; subst e1 e2
     refine X.at (ih (s + 1, a2, c2) (by dsimp only; omega) (by dsimp only; omega)) subA leA
   replace h1 := sp h1
   refine xx 7 ?_; refine X.sb [10, 8, 9, 5, 1, 4] ?_
   have hk : o.getD s false = true := by rw [List.getD_eq_getElem?_getD, List.getElem?_eq_getElem hso]; simpa using h1
   have hS : (cutS (fun j => o.getD j false) 0 (m.take (s + 1))) = (cutS (fun j => o.getD j false) 0 (m.take s)) := by rw [cutS_snoc hlt, if_pos hk, List.append_nil]
   rw [← hS]; subst e1 e2
   refine X.at (ih (s + 1, a1, c1) (by dsimp only; omega) (by dsimp only; omega)) subA leA
 replace h0 := sp h0
 refine xx 7 ?_; obtain rfl : s = m.length := by omega
 rw [List.take_length]
 refine X.retL (lsH I64 3 a1 c1 ((cutS (fun j => o.getD j false) 0 m)) :: q) Tryz.func195 (res1 Tryz.results195 rfl) ⟨_, rfl, a1, c1, rfl, rfl⟩
set_option maxHeartbeats 1000000 in
theorem cutIns_ok {m : List Ins} (hs : Sees q a (m.flatMap insC)) (ho : Sees q b (o.map Value.bool)) (hl : m.length ≤ o.length) (hL : m.length ≤ 1000000) : CallF Tryz.prog G 194 [.slice a m.length c, .slice b o.length d] (q) (Ret fun v q' => ∃ a' c', v = .slice a' (cutS (fun j => o.getD j false) 0 m).length c' ∧ q' = rsH insC 4 65 a' c' ((cutS (fun j => o.getD j false) 0 m)) :: q) := by
 refine CallF.of Tryz.func194 Tryz.ntmps194 rfl (fun F cs => ?_)
 refine xx 16 ?_
 have hlen := flatMap_len (f := insC) (sz := 4) (fun _ => rfl) m
 refine X.at (X.loop (fun (s : Nat × Option Addr × Nat) => s.1 ≤ m.length) (fun s => [(8, .slice a m.length c), (9, .int .i64 (m.length : Int)), (10, .int .i64 (s.1 : Int)), (5, .slice s.2.1 (cutS (fun j => o.getD j false) 0 (m.take s.1)).length s.2.2), (1, .slice b o.length d), (4, .slice none 0 0)]) (fun s => rsH insC 4 65 s.2.1 s.2.2 ((cutS (fun j => o.getD j false) 0 (m.take s.1))) :: (q ++ F)) (fun s => m.length - s.1) (fun s hi_ ih => ?_) (0, none, 0) (Nat.zero_le _)) subA (Le.trans leA (Le.rsH_nil insC 4 65 _))
 try dsimp only at hi_ ih ⊢
 obtain hs0 := hi_
 obtain ⟨s, a1, c1⟩ := s; dsimp only at *
 refine xx 5 ?_; refine X.part 11 rfl (fun h0 => ?_) (fun h0 => ?_)
 · replace h0 := sp h0
   have hlt : s < m.length := by omega
   have hso : s < o.length := by omega
   have hcl : (cutS (fun j => o.getD j false) 0 (m.take s)).length ≤ m.length := by have := cutS_le (fun j => o.getD j false) (m.take s); rw [List.length_take] at this; omega
   refine xo 7 ?_; refine XO.adr hs (by rw [hlen]; omega) (fun b1 o1 e1 => ?_)
   have hs1 := hs; rw [e1] at hs1
   refine XO.know 8 (.slice (some ⟨b1, o1, none⟩) m.length c) rfl (by rw [e1]) ?_
   refine oo 1 ?_; refine XO.ldS (n := s) Tryz.isAgg65 Tryz.sizeOf65 hs1 hlt ?_
   refine XO.al Tryz.zeroValue65 fun n1 => ?_
   refine oo 1 ?_; refine stA ?_; refine oo 5 ?_; refine XO.adr ho (by simp; omega) (fun b2 o2 e2 => ?_)
   have hs2 := ho; rw [e2] at hs2
   refine XO.know 15 (.slice (some ⟨b2, o2, none⟩) o.length d) rfl (by rw [e2]) ?_
   refine oo 1 ?_; refine ld ?_ (hc := (Cl.e1 hs2 leA hso rfl))
   refine XO.pu (Pu.not rfl) ?_; refine ox 1 ?_; refine X.part 19 rfl (fun h1 => ?_) (fun h1 => ?_)
   · replace h1 := sp h1
     refine xo 3 ?_; refine ldA ?_; refine XO.ef (Ef.litR1 insC Tryz.underlying45 ginfo65 rfl rfl (fun _ => rfl) rfl) ?_
     rintro _ _ ⟨g0, rfl, rfl⟩
     refine XO.ef (Ef.appRA (f := insC) (l := (cutS (fun j => o.getD j false) 0 (m.take s))) (m := [m[s]]) Tryz.underlying45 ginfo65 rfl rfl (fun _ => rfl) rfl rfl fndA ((Sees.rsH _).le fndA) (fun _ => rfl) (by simp only [List.length_cons, List.length_nil]; omega) (by simp only [List.length_cons, List.length_nil]; omega)) ?_
     rintro _ _ ⟨a2, c2, rfl, rfl⟩
     refine ox 7 ?_; refine X.sb [10, 5, 8, 9, 1, 4] ?_
     have hk : o.getD s false = false := by rw [List.getD_eq_getElem?_getD, List.getElem?_eq_getElem hso]; simpa using h1
     have hS : (cutS (fun j => o.getD j false) 0 (m.take (s + 1))) = (cutS (fun j => o.getD j false) 0 (m.take s)) ++ [m[s]] := by rw [cutS_snoc hlt, if_neg (by rw [hk]; decide)]
     rw [← hS]; subst e1 e2
     refine X.at (ih (s + 1, a2, c2) (by dsimp only; omega) (by dsimp only; omega)) subA leA
   replace h1 := sp h1
   refine xx 7 ?_; refine X.sb [10, 8, 9, 5, 1, 4] ?_
   have hk : o.getD s false = true := by rw [List.getD_eq_getElem?_getD, List.getElem?_eq_getElem hso]; simpa using h1
   have hS : (cutS (fun j => o.getD j false) 0 (m.take (s + 1))) = (cutS (fun j => o.getD j false) 0 (m.take s)) := by rw [cutS_snoc hlt, if_pos hk, List.append_nil]
   rw [← hS]; subst e1 e2
   refine X.at (ih (s + 1, a1, c1) (by dsimp only; omega) (by dsimp only; omega)) subA leA
 replace h0 := sp h0
 refine xx 7 ?_; obtain rfl : s = m.length := by omega
 rw [List.take_length]
 refine X.retL (rsH insC 4 65 a1 c1 ((cutS (fun j => o.getD j false) 0 m)) :: q) Tryz.func194 (res1 Tryz.results194 rfl) ⟨_, rfl, a1, c1, rfl, rfl⟩
end
end Go.Proofs.YtbeeplmgcdnadaaGreatDoor
set_option linter.unusedVariables false
set_option linter.unusedSimpArgs false
namespace Wx
open Go Go.RowKit
set_option linter.unusedVariables false
abbrev Bs := List UInt8
def bs (s : ByteArray) : Bs := s.data.toList
def ba (l : Bs) : ByteArray := ⟨l.toArray⟩
def em : ByteArray := ⟨#[]⟩
theorem bs_ba (l : Bs) : bs (ba l) = l := rfl
theorem ba_bs (s : ByteArray) : ba (bs s) = s := by cases s; rfl
theorem bs_size (s : ByteArray) : (bs s).length = s.size := rfl
theorem sbeq (a b : ByteArray) : (a.toList == b.toList) = (bs a == bs b) := by rw [ByteArray.toList_eq, ByteArray.toList_eq]; rfl
def s8 (s : ByteArray) (n : Nat) : Int := (((bs s).getD n 0).toNat : Int)
section
variable {P : Program} {p : PE} {d : Option Tmp} {ty : TypeId} {pos : String} {af : Array Edge} {gd : Option (Nat × Bool)} {x y z : Operand} {t : TypeId} {kd kd' : IntKind} {s : ByteArray} {i j : Int}
theorem Pu.indexS (hx : evp p x = some (.string s)) (hy : evp p y = some (.int kd i)) (ht : P.underlying t = some .string) (h0 : 0 ≤ i) (h1 : i.toNat < s.size) : Pu P p ⟨d, .index t x y, ty, pos, af, gd⟩ (.int .u8 (s8 s i.toNat)) := fun tm w ag => by
 have e : s[i.toNat]? = some s[i.toNat] := getElem?_pos s i.toNat h1
 have e2 : s8 s i.toNat = (s[i.toNat].toNat : Int) := by
  have h1' : i.toNat < s.data.toList.length := h1
  unfold s8 bs
  have h3 : s.data.toList[i.toNat]? = some s.data.toList[i.toNat] := List.getElem?_eq_getElem h1'
  unfold List.getD
  rw [h3]; rfl
 rw [e2]
 simp [execOp, evA_of ag hx, evA_of ag hy, Instr.index, asIntOf, run_underlying ht, h0, e]
theorem Pu.sliceS (hx : evp p x = some (.string s)) (hy : evp p y = some (.int kd i)) (hz : evp p z = some (.int kd' j)) (ht : P.underlying t = some .string) (h0 : 0 ≤ i) (h1 : i ≤ j) (h2 : j.toNat ≤ s.size) : Pu P p ⟨d, .slice t x (some y) (some z) none, ty, pos, af, gd⟩ (.string (s.extract i.toNat j.toNat)) := fun tm w ag => by
 have h3 : 0 ≤ j ∧ j ≤ (s.size : Int) := ⟨by omega, by omega⟩
 have h4 : 0 ≤ i ∧ i ≤ (j.toNat : Int) := ⟨h0, by omega⟩
 simp [execOp, evA_of ag hx, evA_of ag hy, evA_of ag hz, Instr.sliceAt, Instr.slice, Instr.sliceBounds, Instr.sliceBound, asIntOf, run_underlying ht, h3, h4]
 intro h; omega
end
theorem bs_extract (s : ByteArray) (i j : Nat) : bs (s.extract i j) = ((bs s).drop i).take (j - i) := by
 simp [bs, ByteArray.data_extract, Array.toList_extract, List.extract_eq_take_drop]
def Kn (q : List HP) (φ : Hp → Prop) : Prop := ∀ M h, (stars q).p M h → φ M
def lst (φ : Hp → Prop) (mono : ∀ {M M' : Hp}, Hle M M' → φ M → φ M') : HP := ⟨fun M _ => φ M, fun e _ p => mono e p⟩
section
variable {P : Program} {G w : World} {f : Fc} {Q : Post} {ops : List Oper} {k : List Item} {l : List Oper} {p : PE} {ds : List Deferred} {cs : List Frame} {q q0 : List HP} {φ ψ : Hp → Prop} {mn : ∀ {M M' : Hp}, Hle M M' → φ M → φ M'} {A : HP}
theorem Kn.le (h : Kn q0 φ) (k : Le q q0 := by exact leA) : Kn q φ := fun M x p => h M x (k M x p)
theorem Kn.here : Kn (lst φ mn :: q) φ := fun _ _ ⟨_, _, _, _, _, p, _⟩ => p
theorem Kn.there (h : Kn q φ) : Kn (A :: q) φ := h.le (Le.drop A q)
theorem Kn.imp (h : Kn q φ) (k : ∀ M, φ M → ψ M) : Kn q ψ := fun M x p => k M (h M x p)
theorem Kn.and (h : Kn q φ) (k : Kn q ψ) : Kn q fun M => φ M ∧ ψ M := fun M x p => ⟨h M x p, k M x p⟩
theorem Kn.add (h : Kn q φ) : Le q (lst φ mn :: q) := fun M x p => ⟨fun _ => none, x, fun _ => .inl rfl, fun _ _ e => by simp at e, .refl _, h M x p, p⟩
theorem Kn.sees {a : Option Addr} {vs : List Value} (h : Kn q fun M => SeesM M a vs) : Sees q a vs := by
 rintro G w ⟨_, M, x, x1, _, _, _, _, p⟩ i u hu
 obtain ⟨b, o, cur, ty, z, e1, e2, e3⟩ := h M x p i u hu
 have e4 : w.heap[b]? = some (.cells cur ty z) := x1 _ _ e2
 exact ⟨b, o, e1, by simp [World.cell?, e4, e3]⟩
theorem Kn.fact {χ : Prop} (h : Kn q φ) (k : ∀ M, φ M → χ) (s : St G w q) : χ := let ⟨_, M, x, _, _, _, _, _, p⟩ := s; k M (h M x p)
theorem knA {m : ∀ {M M' : Hp}, Hle M M' → φ M → φ M'} (h : Le q (lst φ m :: q0) := by exact fndA) : Kn q φ := Kn.here.le h
def SlAt (M : Hp) (a : Option Addr) (c n : Nat) (vs : List Value) : Prop := n ≤ c ∧ c ≤ maxLen ∧ SeesM M a vs
theorem SlAt.mono {M M' : Hp} {a : Option Addr} {c n : Nat} {vs : List Value} (e : Hle M M') (h : SlAt M a c n vs) : SlAt M' a c n vs := ⟨h.1, h.2.1, h.2.2.mono e⟩
theorem slP.at {a : Option Addr} {c ty sz n : Nat} {vs : List Value} {M : Hp} (p : slP a c ty sz n vs M) : SlAt M a c n vs := by
 have hs := slP.seesM p
 refine ⟨?_, ?_, hs⟩
 · rcases p.2 with ⟨_, rfl, h⟩ | ⟨g, cur, q1, q2, q3, q4, q5, q6⟩
   · rw [h]; exact Nat.le_refl _
   exact q2
 rcases p.2 with ⟨_, rfl, h⟩ | ⟨g, cur, q1, q2, q3, q4, q5, q6⟩
 · simp [maxLen]
 exact q3
theorem SlAt.nil (M : Hp) : SlAt M none 0 0 [] := ⟨Nat.le_refl _, by simp [maxLen], fun i u h => by simp at h⟩
theorem Kn.slM {a : Option Addr} {c ty sz n : Nat} {vs : List Value} : Kn (slM a c ty sz n vs :: q) fun M => SlAt M a c n vs := fun _ _ ⟨_, _, _, _, _, p, _⟩ => slP.at p
theorem frz {a : Option Addr} {c ty sz n : Nat} {vs : List Value} (hq : Le q (slH a c ty sz n vs :: q0) := by exact fndA) (h : Kn (lst (fun M => SlAt M a c n vs) SlAt.mono :: q0) φ) (s : St G w q) : St G w (lst φ mn :: q0) := by
 have s1 := (s.le hq).slFreeze
 have s2 := s1.le (Kn.add (mn := SlAt.mono) Kn.slM)
 have s3 := s2.le (Le.trans (Le.swap _ _ _) (Le.drop _ _))
 exact (s3.le (Kn.add h)).le (Le.trans (Le.swap _ _ _) (Le.drop _ _))
theorem X.frz {todo : List Item} {a : Option Addr} {c ty sz n : Nat} {vs : List Value} (h : Kn (lst (fun M => SlAt M a c n vs) SlAt.mono :: q0) φ) (x : X P G f Q todo p ds cs (lst φ mn :: q0)) (hq : Le q (slH a c ty sz n vs :: q0) := by exact fndA) : X P G f Q todo p ds cs q := .turn (fun w => Wx.frz hq h) x
end
end Wx
namespace Wx
open Go Go.RowKit
set_option linter.unusedVariables false
section
variable {α : Type} {P : Program} {G : World} {fr : Fc} {Q : Post} {k : List Item} {p : PE} {ds : List Deferred} {cs : List Frame} {q q0 r : List HP} {ops lo : List Oper} {f : α → List Value} {sz ty : Nat} {a b : Option Addr} {c c' : Nat} {l m : List α}
section
variable {d : Option Tmp} {ty' : TypeId} {pos : String} {af : Array Edge} {gd : Option (Nat × Bool)} {x y : Operand} {t : TypeId} {z : Value} {bytes i : Nat}
theorem fill_row (off : Nat) : ∀ (us : List Value) (n : Nat) (pre post : List Value), pre.length = off + n → us.length ≤ post.length → (us.zipIdx n).foldl (fun cs (c, i) => cs.setIfInBounds (off + i) c) (pre ++ post).toArray = (pre ++ us ++ post.drop us.length).toArray := by
 intro us
 induction us with
 | nil => intro n pre post _ h; simp
 | cons u r ih =>
  intro n pre post hp h
  obtain ⟨x, post, rfl⟩ : ∃ x l, post = x :: l := by cases post with
   | nil => cases h
   | cons x l => exact ⟨x, l, rfl⟩
  rw [List.zipIdx_cons, List.foldl_cons]
  have := ih (n + 1) (pre ++ [u]) post (by simp; omega) (by simpa using h)
  simp only [List.append_assoc, List.singleton_append] at this
  simpa [← hp] using this
theorem Ef.litR2 {u v : α} (f : α → List Value) (ht : P.underlying t = some (.slice ty)) (hi : (P.info? ty).map (fun i => (i.zero, i.size, i.bytes)) = some (some z, sz, bytes)) (h0 : Nat.ble (2 * sz) 16777216 = true) (hn : Nat.blt 0 sz = true)
 (hf : ∀ x, (f x).length = sz) (hx : evp p x = some (.agg (f u).toArray)) (hy : evp p y = some (.agg (f v).toArray)) :
 Ef P G p q ⟨d, .buildSlice t 2 [(0, x), (1, y)].toArray, ty', pos, af, gd⟩ fun w q' => ∃ g, w = .slice (some ⟨g, 0, none⟩) 2 2 ∧ q' = Wx.rsH f sz ty (some ⟨g, 0, none⟩) 2 [u, v] :: q := by
 have hc : ∀ u, (Value.agg (f u).toArray).cells = (f u).toArray := fun _ => rfl
 have hfill : Instr.fill (fun i => some (i * sz, sz)) ((Array.range (2 * sz)).map (z.cells[· % z.cells.size]!)) (([(0, x), (1, y)].map (·.1)).zip [Value.agg (f u).toArray, Value.agg (f v).toArray]) = some (f u ++ f v).toArray := by
  obtain ⟨A, hA, hl⟩ : ∃ A : List Value, (Array.range (2 * sz)).map (z.cells[· % z.cells.size]!) = A.toArray ∧ A.length = 2 * sz := ⟨((Array.range (2 * sz)).map (z.cells[· % z.cells.size]!)).toList, Array.toArray_toList.symm, by rw [Array.length_toList, Array.size_map, Array.size_range]⟩
  have k1 := fill_row (0 * sz) (f u) 0 [] A (by simp) (by rw [hf]; omega)
  have k2 := fill_row (1 * sz) (f v) 0 (f u) (A.drop (f u).length) (by rw [hf]; omega) (by rw [List.length_drop, hf, hf]; omega)
  rw [List.nil_append, List.nil_append] at k1
  have e1 : ∀ (off : Nat) (us : List Value) (A : Array Value), (us.toArray.zipIdx).foldl (fun cs (c, i) => cs.setIfInBounds (off + i) c) A = (us.zipIdx 0).foldl (fun cs (c, i) => cs.setIfInBounds (off + i) c) A := by intro off us A; simp
  have h2 := (e1 (0 * sz) (f u) A.toArray).trans k1
  have h3 := (e1 (1 * sz) (f v) (f u ++ A.drop (f u).length).toArray).trans k2
  rw [hA]
  simp only [List.map_cons, List.map_nil, List.zip_cons_cons, List.zip_nil_left, List.zip_nil_right, Instr.fill, hc]
  rw [if_neg (by simp [hf]; omega), h2, if_neg (by simp [hf]; omega), h3]
  congr 2
  rw [List.drop_eq_nil_of_le (by rw [List.length_drop, hf, hf]; omega), List.append_nil]
 have := Ef.buildSlice (P := P) (G := G) (p := p) (q := q) (d := d) (ty := ty') (pos := pos) (af := af) (gd := gd) (ps := [(0, x), (1, y)]) (len := 2) ht hi (us := [.agg (f u).toArray, .agg (f v).toArray]) (by simp [evl, hx, hy]) (by simpa using h0) (by have h := hn; simp [Nat.blt_eq] at h ⊢; omega) hfill (by simp [hf]; omega)
 simpa [Wx.rsH] using this
end
variable {φ : Hp → Prop} {mn : ∀ {M M' : Hp}, Hle M M' → φ M → φ M'}
theorem X.frzR {todo : List Item} (h : Kn (lst (fun M => SlAt M a c l.length (l.flatMap f)) SlAt.mono :: q0) φ) (x : X P G fr Q todo p ds cs (lst φ mn :: q0)) (hq : Le q (rsH f sz ty a c l :: q0) := by exact fndA) : X P G fr Q todo p ds cs q := .frz h x hq
end
end Wx
set_option maxRecDepth 100000
set_option linter.unusedVariables false
set_option linter.unusedSimpArgs false
namespace Go.Proofs.YtbeeplmgcdnadaaGreatDoor
open Go Go.RowKit Wx
attribute [local irreducible] Wx.lsH Wx.rsH Wx.stars
theorem fill2 {D : List Int} {N : Nat} (h : D.length = N) (h2 : ∀ i, i < N → D.getD i 0 = -2) : D = List.replicate N (-2) := by
 refine List.ext_getElem (by simp [h]) (fun i h1 h3 => ?_)
 rw [List.getElem_replicate, ← getD_lt' (z := 0) h1]; exact h2 i (by omega)
theorem init_neg {l : List Ins} : ∀ i, i < (List.replicate l.length (-2 : Int)).length → (List.replicate l.length (-2 : Int)).getD i 0 = -1 → lost l i := by
 intro i hi h
 rw [List.length_replicate] at hi
 rw [List.getD_eq_getElem?_getD, List.getElem?_replicate, if_pos hi] at h
 cases h
theorem leads_eq {l : List Ins} {D : List Int} (h : D.length = l.length) (h2 : ∀ i, i < l.length → D.getD i 0 = (leadS l i : Int)) : D = leadsS l := by
 refine List.ext_getElem (by simp [h, leadsS]) (fun i h1 h3 => ?_)
 rw [← getD_lt' (z := 0) h1, h2 i (by omega)]; simp [leadsS]
section
variable {G : World} {q : List HP} {a b A : Option Addr} {c d : Nat} {cd : Int} {l : List Ins} {ln : List Int} {o : List Bool}
variable {g p1 p2 p3 : Nat} {so : List Int} {at_ : Nat}
set_option maxHeartbeats 4000000 in
theorem lead_step (hs : Sees q a (l.flatMap insC)) (h1 : Cl q ⟨p1, 0, none⟩ (.slice a l.length c)) (h2 : Cl q ⟨p2, 0, none⟩ (.slice (some ⟨g, 0, none⟩) l.length l.length)) (h3 : Cl q ⟨p3, 0, none⟩ (.func (.func 193) [].toArray [.pointer (some ⟨p1, 0, none⟩), .pointer (some ⟨p2, 0, none⟩), .pointer (some ⟨p3, 0, none⟩)].toArray)) (hA : ∀ i ∈ l, i.c = 19 → 0 ≤ i.a ∧ i.a.toNat < l.length) (hL : l.length ≤ 65536) (IH : ∀ (so1 : List Int) (at1 : Nat), so1.count (-2) < so.count (-2) → LI l so1 → (∀ i, i < so1.length → so1.getD i 0 = -1 → lost l i ∨ wayTo l i at1) → at1 < l.length → CallF Tryz.prog G 193 [.int .i64 (at1 : Int), .pointer (some ⟨p1, 0, none⟩), .pointer (some ⟨p2, 0, none⟩), .pointer (some ⟨p3, 0, none⟩)] (lsH I64 3 (some ⟨g, 0, none⟩) l.length (so1) :: q) (Ret fun v q' => ∃ (so' : List Int) (r : Int), v = .int .i64 r ∧ LD l so1 so' at1 r ∧ q' = lsH I64 3 (some ⟨g, 0, none⟩) l.length (so') :: q)) (hI : LI l so) (hw : ∀ i, i < so.length → so.getD i 0 = -1 → lost l i ∨ wayTo l i at_) (hat : at_ < l.length) : CallF Tryz.prog G 193 [.int .i64 (at_ : Int), .pointer (some ⟨p1, 0, none⟩), .pointer (some ⟨p2, 0, none⟩), .pointer (some ⟨p3, 0, none⟩)] (lsH I64 3 (some ⟨g, 0, none⟩) l.length (so) :: q) (Ret fun v q' => ∃ (so' : List Int) (r : Int), v = .int .i64 r ∧ LD l so so' at_ r ∧ q' = lsH I64 3 (some ⟨g, 0, none⟩) l.length (so') :: q) := by
 refine CallF.of Tryz.func193 Tryz.ntmps193 rfl (fun F cs => ?_)
 have hlen := flatMap_len (f := insC) (sz := 4) (fun _ => rfl) l; have hsl := hI.len; have hgd : l.getD at_ zInT = l[at_] := getD_lt' hat; have hat2 : at_ < so.length := by omega
 have hsg : so.getD at_ 0 = so[at_] := getD_lt' hat2
 refine xo 8 ?_; refine ld ?_ (hc := (h1.le leA))
 refine oo 1 ?_; refine XO.adr hs (by rw [hlen]; omega) (fun b1 o1 e1 => ?_)
 have hs1 := hs; rw [e1] at hs1
 refine XO.know 7 (.slice (some ⟨b1, o1, none⟩) l.length c) rfl (by rw [e1]) ?_
 refine oo 2 ?_; refine ld ?_ (hc := (Cl.row hs1 leA (fun _ => rfl) hat rfl 0 _ rfl))
 refine ox 3 ?_; refine X.part 6 rfl (fun h4 => ?_) (fun h4 => ?_)
 · replace h4 := sp h4
   refine xo 2 ?_; refine ld ?_ (hc := (h2.le leA))
   refine oo 3 ?_; refine XO.ef0 (Ef.setL (f := I64) (l := so) (n := at_) (u := (at_ : Int)) rfl rfl Tryz.sizeOf3 rfl hat2 rfl rfl fndA) ?_
   rintro _ _ ⟨rfl, rfl⟩
   refine oo 4 ?_; refine ld ?_ (hc := (h2.le leA))
   refine oo 2 ?_
   have hx9 : at_ < (so.set at_ (at_ : Int)).length := by rw [List.length_set]; omega
   refine ld ?_ (hc := (Cl.e1 (Sees.lsH _) fndA hx9 rfl))
   refine ox 2 ?_; refine X.sb [5] ?_
   skip
   have hc9 : (l.getD at_ zInT).c ≠ 19 := by rw [hgd]; omega
   have hP := LD.plain hI hat2 hc9
   refine X.retL (lsH I64 3 (some ⟨g, 0, none⟩) l.length (so.set at_ (at_ : Int)) :: q) Tryz.func193 (res1 Tryz.results193 rfl) ⟨_, rfl, so.set at_ (at_ : Int), (so.set at_ (at_ : Int))[at_], rfl, by rw [← getD_lt' (z := 0) hx9, hP.2.2.2.1]; exact hP, rfl⟩
 replace h4 := sp h4
 refine xo 3 ?_; refine ld ?_ (hc := (h2.le leA))
 refine oo 2 ?_; refine ld ?_ (hc := (Cl.e1 (Sees.lsH _) fndA hat2 rfl))
 refine ox 3 ?_; refine X.part 17 rfl (fun h5 => ?_) (fun h5 => ?_)
 · replace h5 := sp h5
   refine xo 3 ?_; refine ld ?_ (hc := (h2.le leA))
   refine oo 2 ?_; refine XO.ef0 (Ef.setL (f := I64) (l := so) (n := at_) (u := -1) rfl rfl Tryz.sizeOf3 rfl hat2 rfl rfl fndA) ?_
   rintro _ _ ⟨rfl, rfl⟩
   refine ox 1 ?_; refine X.sb [5, 0, 1, 2, 3] ?_; refine drw ?_; refine ldD 0 ?_ (hc := (h2.le leA))
   refine dd [1] ?_; refine ldD 2 ?_ (hc := (h3.le leA))
   refine ldD 3 ?_ (hc := (h1.le leA))
   refine dd [4] ?_; refine XD.know 29 (.slice (some ⟨b1, o1, none⟩) l.length c) rfl (by rw [e1]) ?_
   refine dd [5, 6] ?_; refine ldD 7 ?_ (hc := (Cl.row hs1 leA (fun _ => rfl) hat rfl 1 _ rfl))
   have hc19 : (l.getD at_ zInT).c = 19 := by rw [hgd]; omega
   have hm2 : so.getD at_ 0 = -2 := by rw [hsg]; omega
   obtain ⟨hA0, hA1⟩ := hA _ (List.getElem_mem hat) (by omega)
   obtain ⟨k1, k2⟩ := LD.start hI hw hat2 hc19 hm2
   have hcn : (so.set at_ (-1)).count (-2) < so.count (-2) := by
    have hc1 := List.count_set (a := (-1 : Int)) (b := (-2 : Int)) hat2
    have hc2 : 0 < so.count (-2) := List.count_pos_iff.2 (by rw [← hm2, hsg]; exact List.getElem_mem hat2)
    have e1 : (so[at_] == (-2 : Int)) = true := by rw [← hsg, hm2]; rfl
    rw [hc1, e1]; simp; omega
   obtain ⟨A, hAe⟩ : ∃ A : Nat, l[at_].a = (A : Int) := ⟨l[at_].a.toNat, by omega⟩
   refine XD.know 33 (.int .i64 (A : Int)) rfl (by rw [hAe]) ?_
   have hAn : (l.getD at_ zInT).a.toNat = A := by rw [hgd, hAe]; rfl
   refine XD.cV 8 (CallV.c13 Tryz.call193 (IH (so.set at_ (-1)) A hcn k1 (by rw [← hAn]; exact k2) (by omega))) ?_
   rintro _ _ ⟨so2, r, rfl, hD, rfl⟩ _ e_; simp only [ca, na] at e_; subst e_
   refine ⟨(hlA (h := by repeat first | exact trivial | refine ⟨h1.le leA, ?_⟩ | refine ⟨h2.le leA, ?_⟩ | refine ⟨h3.le leA, ?_⟩ | refine ⟨clA, ?_⟩ | refine ⟨Cl.row hs1 leA (fun _ => rfl) hat rfl 1 _ rfl, ?_⟩)), ?_⟩
   have hD2 := LD.stop hI hat2 hc19 hm2 (by rw [hAn]; exact hD) (by omega); have hl2 : so2.length = l.length := hD.1.len
   refine dd [9] ?_; refine XD.ef0 10 rfl (Ef.setL (f := I64) (l := so2) (n := at_) (u := r) rfl rfl Tryz.sizeOf3 rfl (by omega) rfl rfl fndA) ?_
   rintro _ _ ⟨rfl, rfl⟩
   refine ⟨trivial, ?_⟩
   refine XD.nil ?_; refine xo 3 ?_; refine ld ?_ (hc := (h2.le leA))
   refine oo 2 ?_
   have hx9 : at_ < (so2.set at_ r).length := by rw [List.length_set]; omega
   refine ld ?_ (hc := (Cl.e1 (Sees.lsH _) fndA hx9 rfl))
   refine ox 2 ?_; refine X.sb [5] ?_; refine X.retL (lsH I64 3 (some ⟨g, 0, none⟩) l.length (so2.set at_ r) :: q) Tryz.func193 (res1 Tryz.results193 rfl) ⟨_, rfl, so2.set at_ r, (so2.set at_ r)[at_], rfl, by rw [← getD_lt' (z := 0) hx9, hD2.2.2.2.1]; exact hD2, rfl⟩
 replace h5 := sp h5
 refine xo 5 ?_; refine ld ?_ (hc := (h2.le leA))
 refine oo 2 ?_
 have hx9 : at_ < so.length := hat2
 refine ld ?_ (hc := (Cl.e1 (Sees.lsH _) fndA hx9 rfl))
 refine ox 2 ?_; refine X.sb [5] ?_
 have hK := LD.known hI hw hat2 (by rw [hsg]; omega)
 rw [hsg] at hK
 refine X.retL (lsH I64 3 (some ⟨g, 0, none⟩) l.length (so) :: q) Tryz.func193 (res1 Tryz.results193 rfl) ⟨_, rfl, so, so[at_], rfl, hK, rfl⟩
theorem lead_ok (hs : Sees q a (l.flatMap insC)) (h1 : Cl q ⟨p1, 0, none⟩ (.slice a l.length c)) (h2 : Cl q ⟨p2, 0, none⟩ (.slice (some ⟨g, 0, none⟩) l.length l.length)) (h3 : Cl q ⟨p3, 0, none⟩ (.func (.func 193) [].toArray [.pointer (some ⟨p1, 0, none⟩), .pointer (some ⟨p2, 0, none⟩), .pointer (some ⟨p3, 0, none⟩)].toArray)) (hA : ∀ i ∈ l, i.c = 19 → 0 ≤ i.a ∧ i.a.toNat < l.length) (hL : l.length ≤ 65536) : ∀ (N : Nat) (so : List Int) (at_ : Nat), so.count (-2) ≤ N → LI l so → (∀ i, i < so.length → so.getD i 0 = -1 → lost l i ∨ wayTo l i at_) → at_ < l.length → CallF Tryz.prog G 193 [.int .i64 (at_ : Int), .pointer (some ⟨p1, 0, none⟩), .pointer (some ⟨p2, 0, none⟩), .pointer (some ⟨p3, 0, none⟩)] (lsH I64 3 (some ⟨g, 0, none⟩) l.length (so) :: q) (Ret fun v q' => ∃ (so' : List Int) (r : Int), v = .int .i64 r ∧ LD l so so' at_ r ∧ q' = lsH I64 3 (some ⟨g, 0, none⟩) l.length (so') :: q)
 | N, so, at_, hN, hI, hw, hat => lead_step hs h1 h2 h3 hA hL (fun so1 at1 hc hI1 hw1 hat1 => by
  cases N with
  | zero => omega
  | succ N => exact lead_ok hs h1 h2 h3 hA hL N so1 at1 (by omega) hI1 hw1 hat1) hI hw hat
set_option maxHeartbeats 4000000 in
theorem leads_ok (hs : Sees q a (l.flatMap insC)) (hA : ∀ i ∈ l, i.c = 19 → 0 ≤ i.a ∧ i.a.toNat < l.length) (hL : l.length ≤ 65536) : CallF Tryz.prog G 161 [.slice a l.length c] (q) (Ret fun v q' => ∃ g, v = .slice (some ⟨g, 0, none⟩) l.length l.length ∧ q' = lsH I64 3 (some ⟨g, 0, none⟩) l.length (leadsS l) :: q) := by
 refine CallF.of Tryz.func161 Tryz.ntmps161 rfl (fun F cs => ?_)
 refine xo 2 ?_; refine XO.bx fun n1 => ?_
 refine oo 4 ?_; refine ld ?_; refine oo 1 ?_; refine XO.ef (Ef.make (n := l.length) rfl rfl Tryz.underlying23 ginfo3 rfl rfl (by omega) (by omega)) ?_
 rintro _ _ ⟨g, rfl, rfl⟩
 refine XO.le (q' := lsH I64 3 (some ⟨g, 0, none⟩) l.length (List.replicate l.length 0) :: _) (Le.trans fndA (by rw [← ls_made (f := I64) (u := 0) rfl]; exact Le.refl _)) ?_
 refine XO.al Tryz.zeroValue23 fun n2 => ?_
 refine st ?_; refine oo 4 ?_; refine ld ?_; refine ox 4 ?_; refine X.at (X.loop (fun (s : List Int × Nat) => s.1.length = l.length ∧ s.2 ≤ l.length ∧ ∀ i, i < s.2 → s.1.getD i 0 = -2) (fun s => [(14, .int .i64 (s.2 : Int)), (13, .int .i64 (l.length : Int)), (1, .pointer (some ⟨n1, 0, none⟩)), (3, .pointer (some ⟨n2, 0, none⟩)), (2, .slice none 0 0)]) (fun s => lsH I64 3 (some ⟨g, 0, none⟩) l.length (s.1) :: pto n1 (.cells [.slice a l.length c].toArray 45 (0, 0)) :: pto n2 (.cells [.slice (some ⟨g, 0, none⟩) l.length l.length].toArray 23 (0, 0)) :: (q ++ F)) (fun s => l.length - s.2) (fun s hi_ ih => ?_) (List.replicate l.length 0, 0) ⟨by simp, Nat.zero_le _, fun i h => absurd h (Nat.not_lt_zero i)⟩) subA leA
 try dsimp only at hi_ ih ⊢
 obtain ⟨hl1, hl2, hl3⟩ := hi_
 obtain ⟨so, s⟩ := s; dsimp only at *
 refine xx 5 ?_; refine X.part 15 rfl (fun h0 => ?_) (fun h0 => ?_)
 · replace h0 := sp h0; have hlt : s < so.length := by omega
   refine xo 10 ?_; refine ld ?_; refine oo 2 ?_; refine XO.ef0 (Ef.setL (f := I64) (l := so) (n := s) (u := -2) rfl rfl Tryz.sizeOf3 rfl (by omega) rfl rfl fndA) ?_
   rintro _ _ ⟨rfl, rfl⟩
   refine ox 6 ?_; refine X.at (ih (so.set s (-2), s + 1) ⟨by rw [List.length_set]; exact hl1, by dsimp only; omega, fun i hi => by dsimp only at hi ⊢; rw [getD_setI hlt]; split; rfl; exact hl3 i (by omega)⟩ (by dsimp only; omega)) subA leA
 replace h0 := sp h0
 have hso : so = List.replicate l.length (-2) := fill2 hl1 (fun i h => hl3 i (by omega))
 subst hso; clear hl1 hl2 hl3 ih h0
 refine xo 4 ?_; refine XO.al Tryz.zeroValue299 fun n3 => ?_
 refine oo 4 ?_; refine st ?_; refine oo 4 ?_; refine ld ?_; refine ox 4 ?_; refine X.at (X.loop (fun (s : List Int × Nat) => s.2 ≤ l.length ∧ LI l s.1 ∧ (∀ i, i < s.1.length → s.1.getD i 0 = -1 → lost l i) ∧ ∀ i, i < s.2 → s.1.getD i 0 ≠ -2) (fun s => [(24, .int .i64 (s.2 : Int)), (23, .int .i64 (l.length : Int)), (3, .pointer (some ⟨n2, 0, none⟩)), (5, .pointer (some ⟨n3, 0, none⟩)), (2, .slice none 0 0)]) (fun s => lsH I64 3 (some ⟨g, 0, none⟩) l.length (s.1) :: pto n1 (.cells [.slice a l.length c].toArray 45 (0, 0)) :: pto n2 (.cells [.slice (some ⟨g, 0, none⟩) l.length l.length].toArray 23 (0, 0)) :: pto n3 (.cells [.func (.func 193) [].toArray [.pointer (some ⟨n1, 0, none⟩), .pointer (some ⟨n2, 0, none⟩), .pointer (some ⟨n3, 0, none⟩)].toArray].toArray 299 (0, 0)) :: (q ++ F)) (fun s => l.length - s.2) (fun s hi_ ih => ?_) (List.replicate l.length (-2), 0) ⟨Nat.zero_le _, LI.init l, init_neg, fun i h => absurd h (Nat.not_lt_zero i)⟩) subA leA
 try dsimp only at hi_ ih ⊢
 obtain ⟨hl2, hI, hl3, hl4⟩ := hi_
 obtain ⟨so, s⟩ := s; dsimp only at *; have hsl := hI.len
 refine xx 5 ?_; refine X.part 25 rfl (fun h0 => ?_) (fun h0 => ?_)
 · replace h0 := sp h0; have hlt : s < so.length := by omega
   refine xo 10 ?_; refine ld ?_; refine oo 1 ?_; refine XO.cVX leA (CallV.c13 Tryz.call193 (lead_ok (q := pto n1 (.cells [.slice a l.length c].toArray 45 (0, 0)) :: pto n2 (.cells [.slice (some ⟨g, 0, none⟩) l.length l.length].toArray 23 (0, 0)) :: pto n3 (.cells [.func (.func 193) [].toArray [.pointer (some ⟨n1, 0, none⟩), .pointer (some ⟨n2, 0, none⟩), .pointer (some ⟨n3, 0, none⟩)].toArray].toArray 299 (0, 0)) :: (q ++ F)) (c := c) (g := g) (p1 := n1) (p2 := n2) (p3 := n3) (hs.le leA) clA clA clA hA hL _ so s (Nat.le_refl _) hI (fun i hi h => .inl (hl3 i hi h)) (by omega))) ?_
   rintro _ _ ⟨so2, r, rfl, hD, rfl⟩
   refine ox 6 ?_; refine X.at (ih (so2, s + 1) ⟨by dsimp only; omega, hD.1, fun i hi h => by rcases hD.2.2.1 i (by have := hD.1.len; dsimp only at hi; omega) h with h | h; exact hl3 i (by have := hD.1.len; dsimp only at hi; omega) h; exact h, fun i hi => by dsimp only at hi ⊢; by_cases e : i = s; (subst e; rw [hD.2.2.2.1]; have := hD.2.2.2.2.1; omega); rw [hD.2.1 i (by omega) (hl4 i (by omega))]; exact hl4 i (by omega)⟩ (by dsimp only; omega)) subA leA
 replace h0 := sp h0; obtain rfl : s = l.length := by omega
 obtain ⟨so0, hso0⟩ : ∃ x, x = so := ⟨_, rfl⟩; have hdn : ∀ i, i < l.length → (if so0.getD i 0 = -1 then (i : Int) else so0.getD i 0) = leadS l i := (fun i hi => by subst hso0; exact hI.done (fun j hj => hl4 j (by omega)) hl3 (by omega)); clear ih h0 hl3 hl4 hl2
 refine xo 5 ?_; refine ld ?_; refine ox 4 ?_; refine X.at (X.loop (fun (s : List Int × Nat) => s.2 ≤ l.length ∧ s.1.length = l.length ∧ (∀ i, i < s.2 → s.1.getD i 0 = (leadS l i : Int)) ∧ ∀ i, s.2 ≤ i → s.1.getD i 0 = so0.getD i 0) (fun s => [(33, .int .i64 (s.2 : Int)), (32, .int .i64 (l.length : Int)), (31, .slice (some ⟨g, 0, none⟩) l.length l.length), (3, .pointer (some ⟨n2, 0, none⟩)), (2, .slice none 0 0)]) (fun s => lsH I64 3 (some ⟨g, 0, none⟩) l.length (s.1) :: pto n1 (.cells [.slice a l.length c].toArray 45 (0, 0)) :: pto n2 (.cells [.slice (some ⟨g, 0, none⟩) l.length l.length].toArray 23 (0, 0)) :: pto n3 (.cells [.func (.func 193) [].toArray [.pointer (some ⟨n1, 0, none⟩), .pointer (some ⟨n2, 0, none⟩), .pointer (some ⟨n3, 0, none⟩)].toArray].toArray 299 (0, 0)) :: (q ++ F)) (fun s => l.length - s.2) (fun s hi_ ih => ?_) (so, 0) ⟨Nat.zero_le _, hsl, fun i h => absurd h (Nat.not_lt_zero i), fun i _ => by rw [hso0]⟩) subA leA
 try dsimp only at hi_ ih ⊢
 obtain ⟨hl2, hl1, hl3, hl4⟩ := hi_
 clear hsl hI hso0 so; obtain ⟨so, s⟩ := s; dsimp only at *
 refine xx 5 ?_; refine X.part 34 rfl (fun h0 => ?_) (fun h0 => ?_)
 · replace h0 := sp h0; have hlt : s < so.length := (by omega); have hgs : so.getD s 0 = so[s] := getD_lt' hlt
   refine xo 8 ?_; refine ld ?_ (hc := (Cl.e1 (Sees.lsH _) fndA hlt rfl))
   refine ox 8 ?_; refine X.part 39 rfl (fun h1 => ?_) (fun h1 => ?_)
   · replace h1 := sp h1
     refine xo 2 ?_; refine ld ?_; refine oo 3 ?_; refine XO.ef0 (Ef.setL (f := I64) (l := so) (n := s) (u := (s : Int)) rfl rfl Tryz.sizeOf3 rfl (by omega) rfl rfl fndA) ?_
     rintro _ _ ⟨rfl, rfl⟩
     refine ox 6 ?_
     have hds := hdn s (by omega); rw [← hl4 s (Nat.le_refl _), hgs] at hds; rw [if_pos (by omega)] at hds
     refine X.at (ih (so.set s (s : Int), s + 1) ⟨by dsimp only; omega, by rw [List.length_set]; exact hl1, fun i hi => by dsimp only at hi ⊢; rw [getD_setI hlt]; split; (rename_i e; rw [e]; exact hds); exact hl3 i (by omega), fun i hi => by dsimp only at hi ⊢; rw [getD_setI hlt, if_neg (by omega)]; exact hl4 i (by omega)⟩ (by dsimp only; omega)) subA leA
   replace h1 := sp h1
   refine xx 7 ?_
   have hds := hdn s (by omega); rw [← hl4 s (Nat.le_refl _), hgs] at hds; rw [if_neg (by omega)] at hds
   refine X.at (ih (so, s + 1) ⟨by dsimp only; omega, hl1, fun i hi => by dsimp only at hi ⊢; by_cases e : i = s; (subst e; rw [hgs]; exact hds); exact hl3 i (by omega), fun i hi => by dsimp only at hi ⊢; exact hl4 i (by omega)⟩ (by dsimp only; omega)) subA leA
 replace h0 := sp h0
 have hfin : so = leadsS l := leads_eq hl1 (fun i hi => hl3 i (by omega)); subst hfin
 refine xo 4 ?_; refine ld ?_; refine ox 2 ?_; refine X.retL (lsH I64 3 (some ⟨g, 0, none⟩) l.length (leadsS l) :: q) Tryz.func161 (res1 Tryz.results161 rfl) ⟨_, rfl, g, rfl, rfl⟩
end
end Go.Proofs.YtbeeplmgcdnadaaGreatDoor
