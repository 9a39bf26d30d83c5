/- What functions of package tape, of its references and of its laws do: contracts of calls, proved by walking their code. -/
import Derived.Test.YtjkkefgkhafmfaaH
import Derived.KernelRfl
set_option maxRecDepth 100000
set_option linter.unusedVariables false
set_option linter.unusedSimpArgs false
namespace Go.Proofs.Ytjkkefgkhafmfaa
open Go Go.RowKit Wx
attribute [local irreducible] Wx.lsH Wx.rsH Wx.lsM Wx.rsM Wx.stars

/-! ### cutting, as plain data -/
def rems (l : List Turn) (i : Nat) (u : Int) : List Turn := match l.drop i with
  | [] => []
  | x :: r => (x.1, x.2 - u) :: r
def tk : List Turn → Int → List Turn × List Turn
  | [], _ => ([], [])
  | x :: r, n => if n ≤ 0 then ([], x :: r) else if n < x.2 then ([(x.1, n)], (x.1, x.2 - n) :: r) else ((x.1, x.2) :: (tk r (n - x.2)).1, (tk r (n - x.2)).2)
theorem tk_zero : ∀ (l : List Turn) {n : Int}, n ≤ 0 → tk l n = ([], l)
  | [], _, _ => rfl
  | x :: r, n, h => by simp [tk, h]
def Pos (l : List Turn) (i : Nat) (u : Int) : Prop := 0 ≤ u ∧ i ≤ l.length ∧ ∀ h : i < l.length, u < l[i].2
theorem rems_lt {l : List Turn} {i : Nat} {u : Int} (h : i < l.length) : rems l i u = (l[i].1, l[i].2 - u) :: l.drop (i + 1) := by
  unfold rems; rw [List.drop_eq_getElem_cons h]
theorem rems_zero {l : List Turn} {i : Nat} : rems l i 0 = l.drop i := by
  unfold rems
  cases h : l.drop i with
  | nil => rfl
  | cons x r => simp
theorem rems_ge {l : List Turn} {i : Nat} {u : Int} (h : l.length ≤ i) : rems l i u = [] := by
  unfold rems; rw [List.drop_eq_nil_of_le h]
/-- Where the tape stands behind a step. -/
theorem tk_step {l : List Turn} {i : Nat} {u n k : Int} (h : i < l.length) (hn : 0 < n) (hk : k = min n (l[i].2 - u)) (hP : Pos l i u) (h1 : u + k = l[i].2) :
    tk (rems l i u) n = ((l[i].1, k) :: (tk (rems l (i + 1) 0) (n - k)).1, (tk (rems l (i + 1) 0) (n - k)).2) := by
  have hu := hP.2.2 h
  rw [rems_lt h, rems_zero, tk, if_neg (by omega), if_neg (by dsimp only; omega)]
  have : k = l[i].2 - u := by omega
  subst this; rfl
theorem tk_stop {l : List Turn} {i : Nat} {u n k : Int} (h : i < l.length) (hn : 0 < n) (hk : k = min n (l[i].2 - u)) (hP : Pos l i u) (h1 : u + k ≠ l[i].2) :
    tk (rems l i u) n = ((l[i].1, k) :: (tk (rems l i (u + k)) (n - k)).1, (tk (rems l i (u + k)) (n - k)).2) ∧ n - k = 0 ∧ Pos l i (u + k) := by
  have hu := hP.2.2 h
  have e : k = n := by omega
  subst e
  refine ⟨?_, by omega, ⟨by have := hP.1; omega, hP.2.1, fun _ => by omega⟩⟩
  rw [tk_zero _ (show k - k ≤ 0 by omega), rems_lt h, rems_lt h, tk, if_neg (by omega), if_pos (by dsimp only; omega)]
  dsimp only
  rw [show l[i].2 - (u + k) = l[i].2 - u - k by omega]
theorem Pos.succ {l : List Turn} {i : Nat} (h : i < l.length) (hl : ∀ x ∈ l, 1 ≤ x.2) : Pos l (i + 1) 0 :=
  ⟨by omega, by omega, fun k => by have := hl _ (List.getElem_mem k); omega⟩
theorem rems_sum {l : List Turn} {i : Nat} {u : Int} (h : i < l.length) : sumT (rems l i u) = l[i].2 - u + sumT (rems l (i + 1) 0) := by
  rw [rems_lt h, rems_zero, sumT_cons]
theorem rems_sum_le {l : List Turn} {i : Nat} {u : Int} (hP : Pos l i u) (hl : ∀ x ∈ l, 1 ≤ x.2 ∧ x.2 ≤ 2147483647) : 0 ≤ sumT (rems l i u) := by
  unfold rems
  cases hd : l.drop i with
  | nil => simp [sumT]
  | cons x r =>
    have hi : i < l.length := by
      rcases Nat.lt_or_ge i l.length with h | h
      · exact h
      · rw [List.drop_eq_nil_of_le h] at hd; cases hd
    have h2 := hP.2.2 hi
    rw [List.drop_eq_getElem_cons hi] at hd
    obtain ⟨rfl, rfl⟩ := List.cons.inj hd
    have := sumT_nonneg (l := l.drop (i + 1)) (fun x hx => hl x (List.mem_of_mem_drop hx))
    rw [sumT_cons]; dsimp only; omega
theorem tk_len (l : List Turn) (n : Int) : (tk l n).1.length ≤ l.length := by
  induction l generalizing n with
  | nil => simp [tk]
  | cons x r ih =>
    unfold tk
    split
    · simp
    · split
      · simp
      · have := ih (n - x.2); simp; omega
theorem rems_len (l : List Turn) (i : Nat) (u : Int) : (rems l i u).length ≤ l.length := by
  unfold rems
  cases hd : l.drop i with
  | nil => simp
  | cons x r => have : (l.drop i).length ≤ l.length := by simp
                rw [hd] at this; simpa using this
theorem tk_sum : ∀ (l : List Turn) (n : Int), 0 ≤ n → n ≤ sumT l → sumT (tk l n).2 = sumT l - n
  | [], n, h, k => by simp [sumT, tk] at *; omega
  | x :: r, n, h, k => by
    rw [sumT_cons] at k
    unfold tk
    split
    · dsimp only; rw [sumT_cons]; omega
    · split
      · dsimp only; rw [sumT_cons, sumT_cons]; dsimp only; omega
      · dsimp only; rw [tk_sum r (n - x.2) (by omega) (by omega), sumT_cons]; omega
def goesT (h : Int) (l : List Turn) : Tkn := ⟨h, l, (1, 0, 0, 0)⟩
/-- The pieces: of what is left, from so many steps on. -/
def cutsT (t : Tkn) (many : Int) : List Turn → Int → List Int → List Tkn
  | R, f, [] => [⟨t.hash, (tk R (many - f)).1, t.e⟩]
  | R, f, x :: r => goesT t.hash (tk R (x - f)).1 :: cutsT t many (tk R (x - f)).2 x r
def cutsAt (m : Int) (l : List Int) (i : Nat) (x : Int) : Prop := 0 ≤ x ∧ x ≤ m ∧ (i = 0 ∨ l.getD (i - 1) 0 < x)
def cutsOk (m : Int) (l : List Int) : Prop := ∀ i (h : i < l.length), cutsAt m l i l[i]
theorem Pos.zero {l : List Turn} (h : ∀ x ∈ l, 1 ≤ x.2 ∧ x.2 ≤ 2147483647) : Pos l 0 0 := ⟨by omega, by omega, fun k => by have := h _ (List.getElem_mem k); omega⟩

section
variable {G : World} {q : List HP} {l m : List Turn} {t u : Tkn} {a b A : Option Addr} {c d C p p0 p1 i : Nat} {v_ mn n : Int}
set_option maxHeartbeats 2000000 in
theorem next_ok (hs : Sees q a (t.turns.flatMap tcs)) (hl : ∀ x ∈ t.turns, 1 ≤ x.2 ∧ x.2 ≤ 2147483647) (hL : t.turns.length ≤ 65536) (hP : Pos t.turns i v_) (hn : 0 ≤ n) (hn2 : n ≤ sumT (rems t.turns i v_)) (hn3 : n ≤ 4294967296) : CallF Try.prog G 45 [.pointer (some ⟨p, 0, none⟩), .int .i64 n] (tapH p t a c mn i v_ :: q) (Ret fun v q' => ∃ (i' : Nat) (u' : Int) (a' : Option Addr) (c' : Nat), v = .slice a' (tk (rems t.turns i v_) n).1.length c' ∧ q' = rsH tcs 2 45 a' c' ((tk (rems t.turns i v_) n).1) :: tapH p t a c mn i' u' :: q ∧ rems t.turns i' u' = (tk (rems t.turns i v_) n).2 ∧ Pos t.turns i' u') := by
  refine CallF.of Try.func45 Try.ntmps45 rfl (fun F cs => ?_)
  have hlen := flatMap_len (f := tcs) (sz := 2) (fun _ => rfl) t.turns; have hTl := tk_len (rems t.turns i v_) n; have hRl := rems_len t.turns i v_
  have hz : ([] : List Turn) ++ (tk (rems t.turns i v_) n).1 = (tk (rems t.turns i v_) n).1 := rfl
  generalize hK : tk (rems t.turns i v_) n = K at *
  refine xx 10 ?_
  refine X.le (Le.rsH_nil tcs 2 45 _) ?_
  refine X.at (X.loop (fun (s : Int × Nat × Int × List Turn × Option Addr × Nat) => s.2.2.2.1 ++ (tk (rems t.turns s.2.1 s.2.2.1) s.1).1 = K.1 ∧ (tk (rems t.turns s.2.1 s.2.2.1) s.1).2 = K.2 ∧ Pos t.turns s.2.1 s.2.2.1 ∧ 0 ≤ s.1 ∧ s.1 ≤ sumT (rems t.turns s.2.1 s.2.2.1) ∧ s.1 ≤ n) (fun s => [(0, .pointer (some ⟨p, 0, none⟩)), (1, .int .i64 s.1), (5, .slice s.2.2.2.2.1 s.2.2.2.1.length s.2.2.2.2.2), (4, .slice none 0 0)]) (fun s => rsH tcs 2 45 s.2.2.2.2.1 s.2.2.2.2.2 (s.2.2.2.1) :: tapH p t a c mn s.2.1 s.2.2.1 :: (q ++ F)) (fun s => s.1.toNat) (fun s hi_ ih => ?_) (n, i, v_, [], none, 0) ⟨by simp only [hK, List.nil_append], by simp only [hK], hP, hn, hn2, Int.le_refl _⟩) subA leA
  try dsimp only at hi_ ih ⊢
  obtain ⟨k1, k2, k3, k4, k5, k6⟩ := hi_
  obtain ⟨r, j, u, out, a1, c1⟩ := s; dsimp only at *
  refine xx 6 ?_
  refine X.part 9 rfl (fun h0 => ?_) (fun h0 => ?_)
  · skip
    replace h0 := sp h0
    have hj : j < t.turns.length := by rcases Nat.lt_or_ge j t.turns.length with h | h; exact h; rw [rems_ge h] at k5; simp [sumT] at k5; omega
    have hju := k3.2.2 hj; have hj2 := hl _ (List.getElem_mem hj); have hu0 := k3.1; have hol : out.length ≤ K.1.length := by rw [← k1]; simp
    refine X.adr hs (by rw [hlen]; omega) (fun b1 o1 e_ => ?_); subst e_
    refine xx 4 ?_
    refine X.draw [] Try.mixed (by kernel_rfl) (by kernel_rfl) rfl ?_
    refine dd [0, 1, 2, 3] ?_
    refine XD.ld 4 Try.isAgg26 ?_
    refine dd [5, 6, 7] ?_
    refine XD.ld 8 Try.isAgg3 ?_
    refine dd [9] ?_
    refine XD.ldS 10 (m := j) Try.isAgg45 Try.sizeOf45 hs hj ?_
    refine XD.ef 11 rfl (Ef.alloc Try.zeroValue45) ?_
    rintro _ _ ⟨n1, rfl, rfl⟩
    refine ⟨(hlA (h := by repeat first | exact trivial | refine ⟨clA, ?_⟩ | refine ⟨Cl.row hs leA (fun _ => rfl) hj rfl 0 _ rfl, ?_⟩ | refine ⟨Cl.row hs leA (fun _ => rfl) hj rfl 1 _ rfl, ?_⟩)), ?_⟩
    refine XD.ef0 12 rfl (Ef.stA Try.sizeOf45) ?_
    rintro _ _ ⟨rfl, rfl⟩
    refine ⟨trivial, ?_⟩
    refine XD.nil ?_
    refine xx 1 ?_
    refine X.draw [] Try.mixed (by kernel_rfl) (by kernel_rfl) rfl ?_
    refine dd [0, 1] ?_
    refine XD.ld 2 Try.isAgg3 ?_
    refine dd [3, 4, 5] ?_
    refine XD.ld 6 Try.isAgg3 ?_
    refine dd [7, 8, 9] ?_
    refine XD.nil ?_
    refine xo 4 ?_
    refine XO.ld Try.isAgg3 ?_
    refine oo 2 ?_
    generalize hk : min r (t.turns[j].2 - u) = k
    refine XO.ef (Ef.litR1 (u := (t.turns[j].1, k)) tcs Try.underlying26 Try.info45 rfl rfl (fun _ => rfl) rfl) ?_
    rintro _ _ ⟨g2, rfl, rfl⟩
    refine XO.ef (Ef.appRA (l := out) (m := [(t.turns[j].1, k)]) Try.underlying26 Try.info45 rfl rfl (fun _ => rfl) rfl rfl fndA ((Sees.rsH _).le leA) (fun _ => rfl) (by simp; try omega) (by simp; try omega)) ?_
    rintro _ _ ⟨a2, c2, rfl, rfl⟩
    refine ox 3 ?_
    refine X.sb [5, 7, 6, 0, 1, 4] ?_
    refine X.draw [] Try.mixed (by kernel_rfl) (by kernel_rfl) rfl ?_
    refine dd [0, 1, 2, 3, 4, 5, 6] ?_
    refine XD.ld 7 Try.isAgg3 ?_
    refine dd [8, 9, 10, 11, 12] ?_
    refine XD.ef0 13 rfl (Ef.st Try.sizeOf3) ?_
    rintro _ _ ⟨rfl, rfl⟩
    refine ⟨trivial, ?_⟩
    refine XD.nil ?_
    refine xx 1 ?_
    refine X.draw [] Try.mixed (by kernel_rfl) (by kernel_rfl) rfl ?_
    refine dd [0, 1, 2] ?_
    refine XD.ld 3 Try.isAgg3 ?_
    refine dd [4] ?_
    refine XD.ld 5 Try.isAgg3 ?_
    refine dd [6] ?_
    refine XD.nil ?_
    refine X.part 55 rfl (fun h1 => ?_) (fun h1 => ?_)
    · skip
      replace h1 := sp h1
      refine xo 7 ?_
      refine XO.ld Try.isAgg3 ?_
      refine oo 3 ?_
      refine XO.ef0 (Ef.st Try.sizeOf3) ?_
      rintro _ _ ⟨rfl, rfl⟩
      refine oo 2 ?_
      refine XO.ef0 (Ef.st Try.sizeOf3) ?_
      rintro _ _ ⟨rfl, rfl⟩
      refine ox 2 ?_
      refine X.sb [1, 5, 0, 4] ?_
      have hst := tk_step hj h0 hk.symm k3 h1; rw [hst] at k1 k2; have hrs := rems_sum (u := u) hj
      refine X.at (ih (r - k, j + 1, 0, out ++ [(t.turns[j].1, k)], a2, c2) ⟨by simpa using k1, k2, .succ hj (fun x hx => (hl x hx).1), by dsimp only; omega, by dsimp only; omega, by dsimp only; omega⟩ (by dsimp only; omega)) subA leA
    · skip
      replace h1 := sp h1
      refine xx 3 ?_
      refine X.sb [1, 5, 0, 4] ?_
      obtain ⟨hst, hst2, hst3⟩ := tk_stop hj h0 hk.symm k3 h1; rw [hst] at k1 k2; have hrs := rems_sum_le hst3 hl
      refine X.at (ih (r - k, j, u + k, out ++ [(t.turns[j].1, k)], a2, c2) ⟨by simpa using k1, k2, hst3, by dsimp only; omega, by dsimp only; omega, by dsimp only; omega⟩ (by dsimp only; omega)) subA leA
  · skip
    replace h0 := sp h0
    refine xx 7 ?_
    rw [tk_zero _ (show r ≤ 0 by omega)] at k1 k2; rw [List.append_nil] at k1; subst k1
    refine X.retL (rsH tcs 2 45 a1 c1 (K.1) :: tapH p t a c mn j u :: q) Try.func45 (res1 Try.results45 rfl) ⟨_, rfl, j, u, a1, c1, rfl, rfl, k2, k3⟩
set_option maxHeartbeats 2000000 in
theorem piece_ok (hs : Sees q a (t.turns.flatMap tcs)) (hl : ∀ x ∈ t.turns, 1 ≤ x.2 ∧ x.2 ≤ 2147483647) (hL : t.turns.length ≤ 65536) (hP : Pos t.turns i v_) (hn : 0 ≤ n) (hn2 : n ≤ sumT (rems t.turns i v_)) (hn3 : n ≤ 4294967296) : CallF Try.prog G 40 [.pointer (some ⟨p, 0, none⟩), .int .i64 n] (tapH p t a c mn i v_ :: q) (Ret fun v q' => ∃ (i' : Nat) (u' : Int) (a' : Option Addr) (c' : Nat), v = (goesT t.hash (tk (rems t.turns i v_) n).1).v a' c' ∧ q' = rsH tcs 2 45 a' c' ((tk (rems t.turns i v_) n).1) :: tapH p t a c mn i' u' :: q ∧ rems t.turns i' u' = (tk (rems t.turns i v_) n).2 ∧ Pos t.turns i' u') := by
  refine CallF.of Try.func40 Try.ntmps40 rfl (fun F cs => ?_)
  refine xo 2 ?_
  refine XO.ef (Ef.alloc Try.zeroValue32) ?_
  rintro _ _ ⟨n1, rfl, rfl⟩
  refine ox 2 ?_
  refine X.draw [] Try.mixed (by kernel_rfl) (by kernel_rfl) rfl ?_
  refine dd [0, 1, 2, 3] ?_
  refine XD.ld 4 Try.isAgg25 ?_
  refine dd [5, 6, 8] ?_
  refine XD.cX 7 Try.call45 fndA (next_ok (hs.le leA) hl hL hP hn hn2 hn3) ?_
  rintro _ _ ⟨i2, u2, a2, c2, rfl, rfl, k1, k2⟩
  refine ⟨hlA, ?_⟩
  refine dd [9] ?_
  refine XD.ef0 10 rfl (Ef.stA Try.sizeOf32) ?_
  rintro _ _ ⟨rfl, rfl⟩
  refine ⟨trivial, ?_⟩
  refine XD.nil ?_
  refine X.retL (rsH tcs 2 45 a2 c2 ((tk (rems t.turns i v_) n).1) :: tapH p t a c mn i2 u2 :: q) Try.func40 (resC1 Try.results40 (ResOk.cell rfl (LV.agg Try.isAgg32 Try.sizeOf32 hasA rfl) ResOk.nil)) ⟨_, rfl, i2, u2, a2, c2, rfl, rfl, k1, k2⟩
set_option maxHeartbeats 1000000 in
theorem len1_ok (hs : Sees q a (t.turns.flatMap tcs)) : CallF Try.prog G 38 [.pointer (some ⟨p0, 0, none⟩), .pointer (some ⟨p1, 0, none⟩)] (pto p0 (.cells (t.cs a c).toArray 32 (0, 0)) :: pto p1 (.cells [.int .i64 0].toArray 3 (0, 0)) :: q) (RP (fun _ q' => okT t ∧ q' = pto p1 (.cells [.int .i64 (sumT t.turns)].toArray 3 (0, 0)) :: q) (fun ch q' => ∃ e, ch = [refE e] ∧ (¬ okT t ∧ e = 2) ∧ q' = pto p1 (.cells [.int .i64 0].toArray 3 (0, 0)) :: q)) := by
  refine CallF.of Try.func38 Try.ntmps38 rfl (fun F cs => ?_)
  refine xo 1 ?_
  refine XO.ldA Try.isAgg32 Try.sizeOf32 ?_
  refine XO.cP Try.call30 (Le.refl _) (open_ok (t := t) (a := a) (c := c) (hs.le leA)) ?_ ?_
  · rintro _ _ ⟨ok, rfl, rfl⟩
    exact FQ.panic Try.func38 (RP.thr ⟨2, rfl, ⟨ok, rfl⟩, rfl⟩)
  rintro _ _ ⟨ok, n2, rfl, rfl⟩
  refine oo 2 ?_
  refine XO.ld Try.isAgg3 ?_
  refine XO.ef0 (Ef.st Try.sizeOf3) ?_
  rintro _ _ ⟨rfl, rfl⟩
  refine ox 1 ?_
  refine X.fallL (pto p1 (.cells [.int .i64 (sumT t.turns)].toArray 3 (0, 0)) :: q) Try.func38 (res0 Try.results38) (RP.ret ⟨ok, rfl⟩)
set_option maxHeartbeats 1000000 in
theorem Len_ok (hs : Sees q a (t.turns.flatMap tcs)) : CallF Try.prog G 17 [t.v a c] (q) (Ret fun v q' => v = (if okT t then .tuple [.int .i64 (sumT t.turns), .int .i64 0].toArray else .tuple [.int .i64 0, .int .i64 2].toArray) ∧ q' = q) := by
  refine CallF.of Try.func17 Try.ntmps17 rfl (fun F cs => ?_)
  unfold Tkn.v Tkn.cs
  refine xo 2 ?_
  refine XO.ef (Ef.box rfl) ?_
  rintro _ _ ⟨n1, rfl, rfl⟩
  refine oo 5 ?_
  refine XO.ef (Ef.alloc Try.zeroValue3) ?_
  rintro _ _ ⟨n2, rfl, rfl⟩
  refine XO.ef0 (Ef.st Try.sizeOf3) ?_
  rintro _ _ ⟨rfl, rfl⟩
  refine oo 4 ?_
  have hJ := fun q1 (h : Le q1 q) => len1_ok (G := G) (q := q1) (t := t) (a := a) (c := c) (p0 := n1) (p1 := n2) (hs.le h)
  unfold Tkn.cs at hJ
  refine XO.cX Try.call19 (Le.pick fndA (Le.pick fndA (Le.refl _))) (try_ok (CallV.c02 Try.call38 (hJ _ leA))) ?_
  rintro _ _ (⟨rfl, ok, rfl⟩ | ⟨e, rfl, he, rfl⟩)
  · skip
    refine oo 4 ?_
    refine XO.ld Try.isAgg3 ?_
    refine ox 4 ?_
    refine X.retL (q) Try.func17 (res2 Try.results17 rfl rfl) ⟨_, rfl, by rw [if_pos ok], rfl⟩
  · skip
    obtain ⟨hno, rfl⟩ := he
    refine oo 4 ?_
    refine XO.ld Try.isAgg3 ?_
    refine ox 4 ?_
    refine X.retL (q) Try.func17 (res2 Try.results17 rfl rfl) ⟨_, rfl, by rw [if_neg hno], rfl⟩
end
end Go.Proofs.Ytjkkefgkhafmfaa

