/- What functions of package tape, of its references and of its laws do: contracts of calls, proved by walking their code. -/
import Derived.Test.YtjkkefgkhafmfaaC
import Derived.KernelRfl
set_option maxRecDepth 100000
set_option linter.unusedVariables false
set_option linter.unusedSimpArgs false
namespace Go.Proofs.Ytjkkefgkhafmfaa
open Go Go.RowKit Wx
attribute [local irreducible] Wx.lsH Wx.rsH Wx.lsM Wx.rsM Wx.stars

/-! ### joining, as plain data -/
def zT : Turn := (0, 0)
def bhd (l : List Turn) (x : Turn) : List Turn := if 0 < l.length ∧ (l.getD (l.length - 1) zT).1 = x.1 then l.set (l.length - 1) (x.1, (l.getD (l.length - 1) zT).2 + x.2) else l ++ [x]
def sumT (l : List Turn) : Int := (l.map (·.2)).sum
theorem sumT_cons (x : Turn) (l : List Turn) : sumT (x :: l) = x.2 + sumT l := by simp [sumT]
theorem sumT_app (l m : List Turn) : sumT (l ++ m) = sumT l + sumT m := by simp [sumT]
theorem sumT_set : ∀ (l : List Turn) (n : Nat) (x : Turn), n < l.length → sumT (l.set n x) = sumT l - (l.getD n zT).2 + x.2
  | [], n, x, h => by simp at h
  | y :: r, 0, x, _ => by simp [sumT_cons]; omega
  | y :: r, n + 1, x, h => by
    have := sumT_set r n x (by simpa using h)
    rw [List.set_cons_succ, sumT_cons, sumT_cons, this]
    simp [List.getD]; omega
theorem bhd_sum (l : List Turn) (x : Turn) : sumT (bhd l x) = sumT l + x.2 := by
  unfold bhd
  split
  · rw [sumT_set _ _ _ (by omega)]; dsimp only; omega
  · rw [sumT_app]; simp [sumT]
theorem bhd_len (l : List Turn) (x : Turn) : (bhd l x).length ≤ l.length + 1 ∧ l.length ≤ (bhd l x).length := by
  unfold bhd; split <;> simp
def jn (l m : List Turn) : List Turn := m.foldl bhd l
theorem jn_sum (l m : List Turn) : sumT (jn l m) = sumT l + sumT m := by
  unfold jn
  induction m generalizing l with
  | nil => simp [sumT]
  | cons x r ih => rw [List.foldl_cons, ih, bhd_sum, sumT_cons]; omega
theorem jn_len (l m : List Turn) : (jn l m).length ≤ l.length + m.length := by
  unfold jn
  induction m generalizing l with
  | nil => simp
  | cons x r ih => rw [List.foldl_cons]; have := ih (bhd l x); have := (bhd_len l x).1; simp; omega
theorem jn_succ (l : List Turn) {m : List Turn} {n : Nat} (h : n < m.length) : jn l (m.take (n + 1)) = bhd (jn l (m.take n)) m[n] := by
  unfold jn; rw [List.take_succ_eq_append_getElem h, List.foldl_append]; rfl
theorem goT_sum : ∀ {l : List Turn} {p : Option Int} {s : Int}, 0 ≤ s → s ≤ 2147483647 → goT p s l → s + sumT l ≤ 2147483647 ∧ 0 ≤ sumT l ∧ ∀ x ∈ l, 1 ≤ x.2 ∧ x.2 ≤ 2147483647
  | [], _, s, _, h, _ => ⟨by simp [sumT]; omega, by simp [sumT], by simp⟩
  | x :: r, p, s, h0, _, ⟨⟨_, _, h3, h4, _⟩, h⟩ => by
    obtain ⟨k1, k2, k3⟩ := goT_sum (l := r) (show 0 ≤ s + x.2 by omega) (by omega) h
    rw [sumT_cons]
    refine ⟨by omega, by omega, fun y hy => ?_⟩
    rcases List.mem_cons.1 hy with rfl | hy
    · exact ⟨h3, by omega⟩
    · exact k3 y hy
theorem okT_sum {t : Tkn} (h : okT t) : 0 ≤ sumT t.turns ∧ sumT t.turns ≤ 2147483647 ∧ ∀ x ∈ t.turns, 1 ≤ x.2 ∧ x.2 ≤ 2147483647 := by
  obtain ⟨_, _, h3⟩ := h
  obtain ⟨k1, k2, k3⟩ := goT_sum (by decide) (by decide) h3
  exact ⟨k2, by omega, k3⟩
def zTk : Tkn := ⟨0, [], (0, 0, 0, 0)⟩
def joinOk (ls : List Tkn) : Prop := 0 < ls.length ∧ ∀ i, i < ls.length → okT (ls.getD i zTk) ∧ (ls.getD i zTk).hash = (ls.getD 0 zTk).hash ∧ (i + 1 = ls.length ∨ (ls.getD i zTk).e.1 = 1)
def joinT (ls : List Tkn) : List Turn := jn [] (ls.flatMap (·.turns))
def joinW (ls : List Tkn) : Tkn := ⟨(ls.getD 0 zTk).hash, joinT ls, (ls.getD (ls.length - 1) zTk).e⟩
theorem sumT_nonneg : ∀ {l : List Turn}, (∀ x ∈ l, 1 ≤ x.2 ∧ x.2 ≤ 2147483647) → 0 ≤ sumT l
  | [], _ => by simp [sumT]
  | x :: r, h => by rw [sumT_cons]; have := sumT_nonneg (l := r) (fun y hy => h y (List.mem_cons_of_mem _ hy)); have := h x (List.mem_cons_self ..); omega
theorem sumT_succ {l : List Turn} {n : Nat} (h : n < l.length) : sumT (l.take (n + 1)) = sumT (l.take n) + l[n].2 := by
  rw [List.take_succ_eq_append_getElem h, sumT_app, sumT_cons]; simp [sumT]
theorem okT_take {t : Tkn} (h : okT t) (n : Nat) : 0 ≤ sumT (t.turns.take n) ∧ sumT (t.turns.take n) ≤ sumT t.turns ∧ sumT t.turns ≤ 2147483647 := by
  obtain ⟨_, h2, h3⟩ := okT_sum h
  have e : sumT t.turns = sumT (t.turns.take n) + sumT (t.turns.drop n) := by rw [← sumT_app, List.take_append_drop]
  have k1 := sumT_nonneg (l := t.turns.take n) (fun x hx => h3 x (List.mem_of_mem_take hx))
  have k2 := sumT_nonneg (l := t.turns.drop n) (fun x hx => h3 x (List.mem_of_mem_drop hx))
  omega

end Go.Proofs.Ytjkkefgkhafmfaa

