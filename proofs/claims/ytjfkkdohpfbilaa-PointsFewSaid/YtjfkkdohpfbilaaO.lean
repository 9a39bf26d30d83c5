/- Plain facts for the law PointsFew. -/
import Derived.Test.YtjfkkdohpfbilaaN
set_option linter.unusedVariables false
set_option linter.unusedSimpArgs false
namespace Go.Proofs.Ytjfkkdohpfbilaa
open Go Go.RowKit Wx
theorem argm_le2 (k : List Int) (h : 3 ≤ k.length) : 1 ≤ argm k (k.length - 2) ∧ argm k (k.length - 2) ≤ k.length - 2 := by
  have := argm_le k (k.length - 2); omega
/-- What a point that comes does to the ends of what is kept. -/
theorem come_ends {p : Pt} (g : p.Good) (t : Int) : ((p.come t).2.1 = false → (p.come t).1.kept = p.kept) ∧
    ((p.come t).2.1 = true → (p.come t).1.kept.getLast? = some t ∧ (p.come t).1.kept.head? = some (p.kept.head?.getD t) ∧ 0 ≤ t) := by
  by_cases h : t < 0 ∨ 1099511627776 < t ∨ (p.came = true ∧ t ≤ p.last)
  · rw [come_1 h]; simp
  · have h0 : 0 ≤ t := by omega
    by_cases h2 : t.tmod p.every ≠ 0
    · rw [come_2 h h2]; simp
    · by_cases h3 : ((p.kept ++ [t]).length : Int) ≤ p.most
      · rw [come_3 h h2 h3]
        refine ⟨by simp, fun _ => ⟨by simp, ?_, h0⟩⟩
        cases p.kept <;> simp
      · rw [come_4 rfl h h2 h3]
        have hm := g.ok.m1
        have hlen : (p.kept ++ [t]).length = p.kept.length + 1 := by simp
        have hi := argm_le2 (p.kept ++ [t]) (by omega)
        generalize hk : p.kept ++ [t] = k at hi hlen h3 ⊢
        generalize argm k (k.length - 2) = i at hi ⊢
        have hkl : k[k.length - 1]? = some t := by rw [← hk]; simp
        have hkh : k.head? = some (p.kept.head?.getD t) := by rw [← hk]; cases p.kept <;> simp
        refine ⟨by simp, fun _ => ⟨?_, ?_, h0⟩⟩
        · show (k.take i ++ k.drop (i + 1)).getLast? = some t
          rw [List.getLast?_append, List.getLast?_drop, if_neg (by omega), List.getLast?_eq_getElem?, hkl]
          rfl
        · show (k.take i ++ k.drop (i + 1)).head? = _
          rw [List.head?_append, List.head?_take, if_neg (by omega), hkh]
          rfl
/-- The first point that was taken, so far. -/
def firsts (every most : Int) (l : List Int) : Nat → Int
  | 0 => -1
  | s + 1 => if ((plays every most (l.take s)).come (l.getD s 0)).2.1 = true ∧ firsts every most l s < 0 then l.getD s 0 else firsts every most l s
theorem firsts_inv {every most : Int} (h1 : 1 ≤ every) (h2 : every ≤ 1073741824) (h3 : 2 ≤ most) (h4 : most ≤ 4096) (l : List Int) : ∀ s, s ≤ l.length →
    (firsts every most l s = -1 ∧ (plays every most (l.take s)).kept = []) ∨ (0 ≤ firsts every most l s ∧ (plays every most (l.take s)).kept.head? = some (firsts every most l s)) := by
  intro s
  induction s with
  | zero => intro _; left; simp [firsts, plays]
  | succ s ih =>
    intro hs
    have ih := ih (by omega)
    have he := come_ends (plays_good h1 h2 h3 h4 (l.take s)) (l.getD s 0)
    have hp := plays_step every most (l := l) (s := s) (by omega)
    rw [show l[s] = l.getD s 0 from by simp [List.getD_eq_getElem?_getD, List.getElem?_eq_getElem (show s < l.length by omega)]] at hp
    rw [hp]
    unfold firsts
    generalize (plays every most (l.take s)) = p at ih he ⊢
    cases hc : (p.come (l.getD s 0)).2.1 with
    | false =>
      rw [(he.1 hc)]; simpa using ih
    | true =>
      obtain ⟨_, e2, e3⟩ := he.2 hc
      rcases ih with ⟨i1, i2⟩ | ⟨i1, i2⟩
      · right; rw [if_pos ⟨rfl, by omega⟩, e2, i2]; exact ⟨e3, rfl⟩
      · right; rw [if_neg (by omega), e2, i2]; exact ⟨i1, rfl⟩
/-- Rising multiples of e between two multiples are few. -/
theorem few_mult {e : Int} (he : 1 ≤ e) : ∀ (l : List Int) (lo hi : Int), l.Pairwise (· < ·) → (∀ x ∈ l, e ∣ x ∧ lo ≤ x ∧ x < hi) → e ∣ hi → lo ≤ hi → (l.length : Int) * e ≤ hi - lo := by
  intro l
  induction l with
  | nil => intro lo hi _ _ _ h; simp; omega
  | cons x r ih =>
    intro lo hi hp hx hd hle
    obtain ⟨p1, p2⟩ := List.pairwise_cons.1 hp
    obtain ⟨d, a, b⟩ := hx x List.mem_cons_self
    have step : ∀ y, e ∣ y → x < y → x + e ≤ y := by
      intro y hy hxy
      obtain ⟨m, rfl⟩ := d
      obtain ⟨n, rfl⟩ := hy
      have hmn : m < n := Int.lt_of_mul_lt_mul_left hxy (by omega)
      have : e * (m + 1) ≤ e * n := Int.mul_le_mul_of_nonneg_left (by omega) (by omega)
      rw [Int.mul_add, Int.mul_one] at this
      exact this
    have := ih (x + e) hi p2 (fun y hy => ⟨(hx y (List.mem_cons_of_mem _ hy)).1, step y (hx y (List.mem_cons_of_mem _ hy)).1 (p1 y hy), (hx y (List.mem_cons_of_mem _ hy)).2.2⟩) hd (step hi hd b)
    rw [List.length_cons, Int.natCast_add, Int.add_mul]
    simp only [Int.natCast_one, Int.one_mul] at *
    omega
/-- The count behind n plays at 0 .. n-1. -/
structure Cnt (e : Int) (p : Pt) (n : Nat) (C : Int) : Prop where
  ev : p.every = e
  c0 : 0 ≤ C
  lo : C * e - e < n
  hi : (n : Int) ≤ C * e
  num : p.kept.length + p.gone = C
  mul : ∀ x ∈ p.kept, e ∣ x ∧ 0 ≤ x ∧ x < n
  came : p.came = decide (0 < n)
  last : 0 < n → p.last = n - 1
  zero : 0 < n → p.kept.head? = some 0
theorem runs_cnt {every most : Int} (h1 : 1 ≤ every) (h2 : every ≤ 1073741824) (h3 : 2 ≤ most) (h4 : most ≤ 4096) : ∀ n : Nat, n ≤ 400 → ∃ C, Cnt every (runs every most n) n C := by
  intro n
  induction n with
  | zero => intro _; exact ⟨0, rfl, by omega, by omega, by omega, by simp [runs], by simp [runs], by simp [runs], by omega, by omega⟩
  | succ n ih =>
    intro hn
    obtain ⟨C, ev, c0, lo, hi, num, mul, came, last, zero⟩ := ih (by omega)
    have g := runs_good h1 h2 h3 h4 n
    have he := come_ends g (n : Int)
    show ∃ C, Cnt every ((runs every most n).come n).1 (n + 1) C
    generalize runs every most n = p at *
    have h : ¬ ((n : Int) < 0 ∨ 1099511627776 < (n : Int) ∨ (p.came = true ∧ (n : Int) ≤ p.last)) := by
      rintro (x | x | ⟨x, y⟩)
      · omega
      · omega
      · rw [came] at x; have := last (by simpa using x); omega
    have htm : (n : Int).tmod p.every = (n : Int) % every := by rw [ev]; exact Int.tmod_eq_emod_of_nonneg (by omega)
    by_cases hd : every ∣ (n : Int)
    · have hz : ¬ ((n : Int).tmod p.every ≠ 0) := by rw [htm, Int.emod_eq_zero_of_dvd hd]; simp
      have hC : (n : Int) = C * every := by
        obtain ⟨m, hm⟩ := hd
        rw [hm, Int.mul_comm every m] at lo hi ⊢
        have a1 : m ≤ C := Int.le_of_mul_le_mul_right hi (by omega)
        have a2 : C - 1 < m := by
          have : (C - 1) * every < m * every := by rw [Int.sub_mul]; omega
          exact Int.lt_of_mul_lt_mul_right this (by omega)
        rw [show m = C from by omega]
      have hok : (p.come n).2.1 = true ∧ (p.come n).1.kept.length + (p.come n).1.gone = C + 1 ∧ (p.come n).1.every = every ∧ (p.come n).1.came = true ∧ (p.come n).1.last = n ∧ ∀ x ∈ (p.come n).1.kept, x ∈ p.kept ∨ x = n := by
        by_cases h5 : ((p.kept ++ [(n : Int)]).length : Int) ≤ p.most
        · rw [come_3 h hz h5]
          exact ⟨rfl, by simp; omega, ev, rfl, rfl, fun x hx => by simpa using hx⟩
        · rw [come_4 rfl h hz h5]
          have hlen : (p.kept ++ [(n : Int)]).length = p.kept.length + 1 := by simp
          have hm1 := g.ok.m1
          have hi2 := argm_le2 (p.kept ++ [(n : Int)]) (by omega)
          have hmem : ∀ x ∈ p.kept ++ [(n : Int)], x ∈ p.kept ∨ x = n := fun x hx => by simpa using hx
          rw [← List.eraseIdx_eq_take_drop_succ]
          generalize p.kept ++ [(n : Int)] = k at hlen hi2 hmem ⊢
          generalize argm k (k.length - 2) = i at hi2 ⊢
          refine ⟨rfl, ?_, ev, rfl, rfl, fun x hx => hmem x ((List.eraseIdx_sublist k i).subset hx)⟩
          have hel : (k.eraseIdx i).length = k.length - 1 := List.length_eraseIdx_of_lt (by omega)
          dsimp only; rw [hel]; omega
      obtain ⟨o1, o2, o3, o4, o5, o6⟩ := hok
      obtain ⟨e1, e2, e3⟩ := he.2 o1
      refine ⟨C + 1, o3, by omega, by rw [Int.add_mul]; omega, by rw [Int.add_mul]; omega, o2, ?_, by rw [o4]; simp, fun _ => by rw [o5]; omega, fun _ => ?_⟩
      · intro x hx
        rcases o6 x hx with hx | rfl
        · obtain ⟨m1, m2, m3⟩ := mul x hx; exact ⟨m1, m2, by omega⟩
        · exact ⟨hd, by omega, by omega⟩
      · rw [e2]
        by_cases hn0 : 0 < n
        · rw [zero hn0]; rfl
        · have : p.kept = [] := (g.l2 (by rw [came]; simp; omega)).2
          rw [this]; simp; omega
    · have hz : (n : Int).tmod p.every ≠ 0 := by rw [htm]; exact fun e => hd (Int.dvd_of_emod_eq_zero e)
      have hn0 : 0 < n := by
        rcases Nat.eq_zero_or_pos n with e | e
        · subst e; exact absurd (Int.dvd_zero every) hd
        · exact e
      rw [come_2 h hz]
      refine ⟨C, ev, c0, by omega, ?_, num, fun x hx => ?_, by simp, fun _ => by dsimp only; omega, fun _ => zero hn0⟩
      · have : (n : Int) ≠ C * every := fun e => hd ⟨C, by rw [e, Int.mul_comm]⟩
        omega
      · obtain ⟨m1, m2, m3⟩ := mul x hx; exact ⟨m1, m2, by omega⟩
theorem bst_gap {l : List Int} {t : Int} : ∀ x ∈ l, x ≤ t → l.Pairwise (· < ·) → x ≤ bst l t := by
  intro x hx hxt ho
  unfold bst
  have hm : x ∈ l.filter fun x => decide (x ≤ t) := List.mem_filter.2 ⟨hx, by simpa using hxt⟩
  have hs : (l.filter fun x => decide (x ≤ t)).Pairwise (· < ·) := ho.sublist List.filter_sublist
  generalize l.filter (fun x => decide (x ≤ t)) = m at hm hs
  cases hlast : m.getLast? with
  | none => rw [List.getLast?_eq_none_iff.1 hlast] at hm; cases hm
  | some y =>
    obtain ⟨r, rfl⟩ := List.getLast?_eq_some_iff.1 hlast
    rcases List.mem_append.1 hm with h | h
    · exact Int.le_of_lt ((List.pairwise_append.1 hs).2.2 x h y (by simp))
    · rw [List.mem_singleton.1 h]; exact Int.le_refl _
theorem far_few {e C : Int} {p : Pt} {n : Nat} {t : Int} (he : 1 ≤ e) (g : p.Good) (c : Cnt e p n C) (t0 : 0 ≤ t) (tn : t < n) : 0 ≤ bst p.kept t ∧ bst p.kept t ≤ t ∧ (t - bst p.kept t) / e ≤ p.gone := by
  obtain ⟨ev, c0, lo, hi, num, mul, came, last, zero⟩ := c
  have hz := zero (by omega)
  have h0m : (0 : Int) ∈ p.kept := by cases hk : p.kept with
    | nil => rw [hk] at hz; simp at hz
    | cons x r => rw [hk] at hz; simp at hz; simp [hz]
  have hb0 := bst_gap 0 h0m t0 g.so
  have hb1 : bst p.kept t ∈ p.kept ∧ bst p.kept t ≤ t := by
    rcases bst_mem p.kept t with h | h
    · omega
    · exact h
  refine ⟨hb0, hb1.2, ?_⟩
  have hgap : ∀ x ∈ p.kept, x ≤ t → x ≤ bst p.kept t := fun x hx h => bst_gap x hx h g.so
  generalize bst p.kept t = b at *
  obtain ⟨bm, bn⟩ := hb1
  have hbd := (mul b bm).1
  have hdv := Int.mul_ediv_add_emod t e
  have hmod := Int.emod_nonneg t (b := e) (by omega)
  have hmod2 := Int.emod_lt_of_pos t (b := e) (by omega)
  have htC : t / e < C := by
    have : e * (t / e) < e * C := by rw [Int.mul_comm e C]; omega
    exact Int.lt_of_mul_lt_mul_left this (by omega)
  have f1 := few_mult he (p.kept.filter fun x => decide (x ≤ b)) 0 (b + e) (g.so.sublist List.filter_sublist) (fun x hx => by
    obtain ⟨a1, a2⟩ := List.mem_filter.1 hx
    obtain ⟨m1, m2, _⟩ := mul x a1
    exact ⟨m1, m2, by have := of_decide_eq_true a2; omega⟩) (Int.dvd_add hbd (Int.dvd_refl e)) (by omega)
  have hT : e * (t / e) + e ≤ C * e := by
    have : e * (t / e + 1) ≤ e * C := Int.mul_le_mul_of_nonneg_left (by omega) (by omega)
    rw [Int.mul_add, Int.mul_one, Int.mul_comm e C] at this; exact this
  have f2 := few_mult he (p.kept.filter fun x => !decide (x ≤ b)) (e * (t / e) + e) (C * e) (g.so.sublist List.filter_sublist) (fun x hx => by
    obtain ⟨a1, a2⟩ := List.mem_filter.1 hx
    obtain ⟨m1, m2, m3⟩ := mul x a1
    have hxb : ¬ x ≤ b := by simpa using a2
    have hxt : t < x := by
      by_cases h : x ≤ t
      · exact absurd (hgap x a1 h) hxb
      · omega
    obtain ⟨k, rfl⟩ := m1
    refine ⟨⟨k, rfl⟩, ?_, by omega⟩
    have : t / e < k := by
      have : e * (t / e) < e * k := by omega
      exact Int.lt_of_mul_lt_mul_left this (by omega)
    have : e * (t / e + 1) ≤ e * k := Int.mul_le_mul_of_nonneg_left (by omega) (by omega)
    rw [Int.mul_add, Int.mul_one] at this; exact this) ⟨C, Int.mul_comm _ _⟩ hT
  have hsum : (p.kept.filter fun x => decide (x ≤ b)).length + (p.kept.filter fun x => !decide (x ≤ b)).length = p.kept.length := by
    have := List.length_eq_countP_add_countP (p := fun x => decide (x ≤ b)) (l := p.kept)
    rw [List.countP_eq_length_filter, List.countP_eq_length_filter] at this
    rw [this]; congr 2; congr 1; funext x; by_cases hx : x ≤ b <;> simp [hx]
  obtain ⟨k, rfl⟩ := hbd
  have hq : (t - e * k) / e = t / e - k := by rw [show t - e * k = t + (-k) * e from by rw [Int.neg_mul, Int.mul_comm k e]; omega, Int.add_mul_ediv_right _ _ (by omega)]; omega
  rw [hq]
  have hall : (p.kept.length : Int) * e ≤ e * k + C * e - e * (t / e) := by
    rw [← hsum, Int.natCast_add, Int.add_mul]; omega
  rw [show (p.kept.length : Int) = C - p.gone from by omega, Int.sub_mul] at hall
  have : e * (t / e - k) ≤ e * p.gone := by rw [Int.mul_sub, Int.mul_comm e p.gone]; omega
  exact Int.le_of_mul_le_mul_left this (by omega)
end Go.Proofs.Ytjfkkdohpfbilaa
