/- What functions of package tape, of its references and of its laws do: contracts of calls, proved by walking their code. -/
import Derived.Test.YtjkkefgkhafmfaaE
import Derived.KernelRfl
set_option maxRecDepth 100000
set_option linter.unusedVariables false
set_option linter.unusedSimpArgs false
namespace Go.Proofs.Ytjkkefgkhafmfaa
open Go Go.RowKit Wx

/-! ### pieces, as plain data -/
theorem jn_nil (l : List Turn) : jn l [] = l := rfl
theorem jn_app (l m k : List Turn) : jn l (m ++ k) = jn (jn l m) k := by unfold jn; rw [List.foldl_append]
def nn (l : List Turn) : Prop := ∀ x ∈ l, 0 ≤ x.2
theorem nn_bhd {l : List Turn} {x : Turn} (h : nn l) (hx : 0 ≤ x.2) : nn (bhd l x) := by
  intro y hy
  unfold bhd at hy
  split at hy
  · rename_i hc
    rcases List.mem_or_eq_of_mem_set hy with h1 | h1
    · exact h y h1
    · subst h1
      have : 0 ≤ (l.getD (l.length - 1) zT).2 := by
        rw [List.getD_eq_getElem?_getD, List.getElem?_eq_getElem (show l.length - 1 < l.length by omega)]
        exact h _ (List.getElem_mem _)
      dsimp only; omega
  · rcases List.mem_append.1 hy with h1 | h1
    · exact h y h1
    · rw [List.mem_singleton.1 h1]; exact hx
theorem nn_jn {l m : List Turn} (h : nn l) (hm : nn m) : nn (jn l m) := by
  unfold jn
  induction m generalizing l with
  | nil => exact h
  | cons x r ih => rw [List.foldl_cons]; exact ih (nn_bhd h (hm x (List.mem_cons_self ..))) (fun y hy => hm y (List.mem_cons_of_mem _ hy))
theorem nn_le : ∀ {l : List Turn}, nn l → 0 ≤ sumT l ∧ ∀ x ∈ l, x.2 ≤ sumT l
  | [], _ => ⟨by simp [sumT], by simp⟩
  | x :: r, h => by
    obtain ⟨h1, h2⟩ := nn_le (l := r) (fun y hy => h y (List.mem_cons_of_mem _ hy))
    have h0 := h x (List.mem_cons_self ..)
    rw [sumT_cons]
    refine ⟨by omega, fun y hy => ?_⟩
    rcases List.mem_cons.1 hy with rfl | hy
    · omega
    · have := h2 y hy; omega
theorem nn_take {l : List Turn} (h : nn l) (n : Nat) : nn (l.take n) := fun x hx => h x (List.mem_of_mem_take hx)
/-- What is asked of two lists that are joined. -/
structure Jo (l m : List Turn) : Prop where
  n : l.length + m.length ≤ 100000000
  p : nn l
  r : nn m
  s : sumT l + sumT m ≤ 1152921504606846976
theorem Jo.at {l m : List Turn} (h : Jo l m) {s : Nat} (hs : s < m.length) : (jn l (m.take s)).length ≤ 100000000 ∧ (0 ≤ m[s].2 ∧ m[s].2 ≤ 2305843009213693952) ∧
    ∀ k : 0 < (jn l (m.take s)).length, 0 ≤ ((jn l (m.take s))[(jn l (m.take s)).length - 1]).2 ∧ ((jn l (m.take s))[(jn l (m.take s)).length - 1]).2 ≤ 2305843009213693952 := by
  obtain ⟨a, b, c, d⟩ := h
  have h1 := jn_len l (m.take s)
  have h2 : (m.take s).length ≤ m.length := by simp; omega
  have h3 := nn_le c
  have h4 := nn_le b
  have h5 := c m[s] (List.getElem_mem hs)
  have h6 := h3.2 m[s] (List.getElem_mem hs)
  refine ⟨by omega, ⟨h5, by omega⟩, fun k => ?_⟩
  have h7 := nn_jn b (nn_take c s)
  have h8 := nn_le h7
  have h9 := List.getElem_mem (show (jn l (m.take s)).length - 1 < (jn l (m.take s)).length by omega)
  have e1 := h7 _ h9
  have e2 := h8.2 _ h9
  have e3 := jn_sum l (m.take s)
  have e4 : sumT m = sumT (m.take s) + sumT (m.drop s) := by rw [← sumT_app, List.take_append_drop]
  have e5 := nn_le (l := m.drop s) (fun x hx => c x (List.mem_of_mem_drop hx))
  omega
structure Pc where
  t : Tkn
  a : Option Addr
  c : Nat
def pcs (x : Pc) : List Value := x.t.cs x.a x.c
def tks (l : List Pc) : List Tkn := l.map (·.t)
def trs (l : List Pc) : List Turn := l.flatMap (·.t.turns)
/-- What the pieces so far come to. -/
def whole (l : List Pc) : Tkn := match l.getLast? with
  | none => ⟨0, [], (0, 0, 0, 0)⟩
  | some x => ⟨x.t.hash, jn [] (trs l), x.t.e⟩
theorem whole_turns (l : List Pc) : (whole l).turns = jn [] (trs l) := by
  unfold whole
  split
  · rename_i h; rw [List.getLast?_eq_none_iff.1 h]; rfl
  · rfl
theorem trs_succ {l : List Pc} {s : Nat} (h : s < l.length) : trs (l.take (s + 1)) = trs (l.take s) ++ l[s].t.turns := by
  unfold trs; rw [List.take_succ_eq_append_getElem h, List.flatMap_append]; simp
theorem whole_succ {l : List Pc} {s : Nat} (h : s < l.length) : whole (l.take (s + 1)) = ⟨l[s].t.hash, jn (whole (l.take s)).turns l[s].t.turns, l[s].t.e⟩ := by
  rw [whole_turns, ← jn_app, ← trs_succ h]
  have e : (l.take (s + 1)).getLast? = some l[s] := by rw [List.take_succ_eq_append_getElem h, List.getLast?_append]; rfl
  unfold whole; rw [e]
/-- What is asked of pieces: few, of few turns. -/
def Few (l : List Pc) : Prop := l.length ≤ 5 ∧ ∀ x ∈ l, x.t.turns.length ≤ 40
def hash0 (l : List Pc) : Int := match l.head? with | some y => y.t.hash | none => 0
theorem hash0_eq {l : List Pc} (h : 0 < l.length) : hash0 l = l[0].t.hash := by
  cases l with
  | nil => exact absurd h (by simp)
  | cons x r => rfl
def pieceOk (l : List Pc) (i : Nat) (x : Pc) : Prop := okT x.t ∧ x.t.hash = hash0 l ∧ (i + 1 = l.length ∨ x.t.e.1 = 1)
theorem chk_iff {t : Tkn} : chk t = 0 ↔ okT t := by unfold chk; split <;> simp_all
def joinsOk (l : List Pc) : Prop := 0 < l.length ∧ ∀ i (h : i < l.length), pieceOk l i l[i]
theorem joinsOk.all {l : List Pc} (h : joinsOk l) : ∀ x ∈ l, okT x.t := by
  intro x hx
  obtain ⟨i, hi, rfl⟩ := List.getElem_of_mem hx
  exact (h.2 i hi).1
theorem joinsOk.whole {l : List Pc} (h : joinsOk l) : whole l = ⟨hash0 l, jn [] (trs l), (l[l.length - 1]'(by have := h.1; omega)).t.e⟩ := by
  have h0 := h.1
  have e : l.getLast? = some (l[l.length - 1]'(by omega)) := by rw [List.getLast?_eq_getElem?, List.getElem?_eq_getElem (by omega)]
  unfold Go.Proofs.Ytjkkefgkhafmfaa.whole; rw [e]
  have := (h.2 (l.length - 1) (by omega)).2.1
  simp only [this]
theorem trs_facts : ∀ {l : List Pc}, (∀ x ∈ l, okT x.t ∧ x.t.turns.length ≤ 40) → nn (trs l) ∧ sumT (trs l) ≤ l.length * 2147483647 ∧ (trs l).length ≤ l.length * 40
  | [], _ => ⟨by intro x hx; simp [trs] at hx, by simp [trs, sumT], by simp [trs]⟩
  | x :: r, h => by
    obtain ⟨h1, h2, h3⟩ := trs_facts (l := r) (fun y hy => h y (List.mem_cons_of_mem _ hy))
    obtain ⟨h4, h5⟩ := h x (List.mem_cons_self ..)
    obtain ⟨k1, k2, k3⟩ := okT_sum h4
    have e : trs (x :: r) = x.t.turns ++ trs r := by simp [trs]
    rw [e]
    refine ⟨fun y hy => ?_, ?_, ?_⟩
    · rcases List.mem_append.1 hy with hy | hy
      · have := k3 y hy; omega
      · exact h1 y hy
    · rw [sumT_app]; simp only [List.length_cons]; omega
    · simp only [List.length_append, List.length_cons]; omega
theorem Few.jo {l : List Pc} (hf : Few l) (ok : ∀ x ∈ l, okT x.t) {s : Nat} (h : s < l.length) : Jo (whole (l.take s)).turns l[s].t.turns := by
  have h1 := trs_facts (l := l.take s) (fun x hx => ⟨ok x (List.mem_of_mem_take hx), hf.2 x (List.mem_of_mem_take hx)⟩)
  have h2 := okT_sum (ok l[s] (List.getElem_mem h))
  have h3 := hf.2 l[s] (List.getElem_mem h)
  have h4 := hf.1
  have h5 : (l.take s).length ≤ 5 := by simp; omega
  rw [whole_turns]
  have e0 : nn [] := fun x hx => by simp at hx
  have e1 := jn_len [] (trs (l.take s))
  have e2 := jn_sum [] (trs (l.take s))
  have e3 : sumT [] = 0 := by simp [sumT]
  have e4 : ([] : List Turn).length = 0 := rfl
  refine ⟨by omega, nn_jn e0 h1.1, fun x hx => by have := h2.2.2 x hx; omega, ?_⟩
  omega
theorem whole_all {l : List Pc} {s : Nat} (h : l.length ≤ s) : whole (l.take s) = whole l := by rw [List.take_of_length_le h]

attribute [local irreducible] Wx.lsH Wx.rsH Wx.lsM Wx.rsM Wx.stars
section
variable {G : World} {q : List HP} {l m : List Turn} {ls : List Pc} {t u : Tkn} {a b A : Option Addr} {c d C p0 p1 : Nat}
set_option maxHeartbeats 1000000 in
theorem foldT_ok (hs : Sees q b (m.flatMap tcs)) (J : Jo l m) : CallF Try.prog G 25 [.slice b m.length d, .slice a l.length c, .func (.func 26) #[] #[]] (rsH tcs 2 45 a c (l) :: q) (Ret fun v q' => ∃ a' c', v = .slice a' (jn l m).length c' ∧ q' = rsH tcs 2 45 a' c' (jn l m) :: q) := by
  refine CallF.of Try.func25 Try.ntmps25 rfl (fun F cs => ?_)
  have hlen := flatMap_len (f := tcs) (sz := 2) (fun _ => rfl) m; have hJ := J.n
  refine xx 12 ?_
  refine X.at (X.loop (fun (s : Nat × Option Addr × Nat) => s.1 ≤ m.length) (fun s => [(11, .int .i64 (s.1 : Int)), (9, .slice b m.length d), (10, .int .i64 (m.length : Int)), (2, .func (.func 26) #[] #[]), (1, .slice s.2.1 (jn l (m.take s.1)).length s.2.2)]) (fun s => rsH tcs 2 45 s.2.1 s.2.2 (jn l (m.take s.1)) :: (q ++ F)) (fun s => m.length - s.1) (fun s hi_ ih => ?_) (0, a, c) (by omega)) subA leA
  try dsimp only at hi_ ih ⊢
  obtain hi := hi_
  obtain ⟨s, a1, c1⟩ := s; dsimp only at *
  refine xx 5 ?_
  refine X.part 12 rfl (fun h0 => ?_) (fun h0 => ?_)
  · skip
    replace h0 := sp h0
    have hi0 : s < m.length := by omega
    obtain ⟨J1, J2, J3⟩ := J.at hi0
    refine xo 6 ?_
    refine XO.adr hs (by rw [hlen]; omega) (fun b26 o26 e_ => ?_); subst e_
    refine oo 1 ?_
    refine XO.ldS (n := s) Try.isAgg45 Try.sizeOf45 hs (by omega) ?_
    refine XO.ef (Ef.alloc Try.zeroValue45) ?_
    rintro _ _ ⟨n1, rfl, rfl⟩
    refine XO.ef0 (Ef.stA Try.sizeOf45) ?_
    rintro _ _ ⟨rfl, rfl⟩
    refine oo 4 ?_
    refine XO.ldA Try.isAgg45 Try.sizeOf45 ?_
    refine XO.cV (CallV.c20 Try.call26 (behind_ok (q := []) (x := m[s]) J1 J2 J3)) ?_
    rintro _ _ ⟨a2, c2, rfl, rfl⟩ _ e_; simp only [ca, na] at e_; subst e_
    refine ox 7 ?_
    rw [← jn_succ l hi0]
    refine X.at (ih (s + 1, a2, c2) (by dsimp only; omega) (by dsimp only; omega)) subA leA
  · skip
    replace h0 := sp h0
    refine xx 7 ?_
    rw [List.take_of_length_le (show m.length ≤ s by omega)]
    refine X.retL (rsH tcs 2 45 a1 c1 (jn l m) :: q) Try.func25 (res1 Try.results25 rfl) ⟨_, rfl, a1, c1, rfl, rfl⟩
set_option maxHeartbeats 1000000 in
theorem join11_ok (hs : Sees q b (t.turns.flatMap tcs)) (J : Jo u.turns t.turns) : CallF Try.prog G 24 [u.v a c, t.v b d] (rsH tcs 2 45 a c (u.turns) :: q) (Ret fun v q' => ∃ a' c', v = (⟨t.hash, jn u.turns t.turns, t.e⟩ : Tkn).v a' c' ∧ q' = rsH tcs 2 45 a' c' (jn u.turns t.turns) :: q) := by
  refine CallF.of Try.func24 Try.ntmps24 rfl (fun F cs => ?_)
  unfold Tkn.v Tkn.cs
  refine xo 2 ?_
  refine XO.ef (Ef.box rfl) ?_
  rintro _ _ ⟨n1, rfl, rfl⟩
  refine XO.ef (Ef.box rfl) ?_
  rintro _ _ ⟨n2, rfl, rfl⟩
  refine XO.ef (Ef.alloc Try.zeroValue32) ?_
  rintro _ _ ⟨n3, rfl, rfl⟩
  refine ox 2 ?_
  refine X.draw [] Try.mixed (by kernel_rfl) (by kernel_rfl) rfl ?_
  refine dd [0] ?_
  refine XD.ld 1 Try.isAgg25 ?_
  refine dd [2] ?_
  refine XD.ld 3 Try.isAgg26 ?_
  refine dd [4] ?_
  refine XD.ld 5 Try.isAgg26 ?_
  refine dd [7] ?_
  refine XD.loadA 8 rfl rfl Try.isAgg30 Try.sizeOf30 hasA (by rfl) ?_
  refine XD.cX 6 Try.call25 fndA (foldT_ok (hs.le leA) J) ?_
  rintro _ _ ⟨a2, c2, rfl, rfl⟩
  refine ⟨hlA, ?_⟩
  refine dd [9] ?_
  refine XD.ef0 10 rfl (Ef.stA Try.sizeOf32) ?_
  rintro _ _ ⟨rfl, rfl⟩
  refine ⟨trivial, ?_⟩
  refine XD.nil ?_
  refine X.retL (rsH tcs 2 45 a2 c2 (jn u.turns t.turns) :: q) Try.func24 (resC1 Try.results24 (ResOk.cell rfl (LV.agg Try.isAgg32 Try.sizeOf32 hasA rfl) ResOk.nil)) ⟨_, rfl, a2, c2, rfl, rfl⟩
set_option maxHeartbeats 1000000 in
theorem foldP_ok (hs : Sees q A (ls.flatMap pcs)) (hp : ∀ x ∈ ls, Sees q x.a (x.t.turns.flatMap tcs)) (hf : Few ls) (ok : ∀ x ∈ ls, okT x.t) : CallF Try.prog G 23 [.slice A ls.length C, (⟨0, [], (0, 0, 0, 0)⟩ : Tkn).v none 0, .func (.func 24) #[] #[]] q (Ret fun v q' => ∃ a' c', v = (whole ls).v a' c' ∧ q' = rsH tcs 2 45 a' c' ((whole ls).turns) :: q) := by
  refine CallF.of Try.func23 Try.ntmps23 rfl (fun F cs => ?_)
  have hlen := flatMap_len (f := pcs) (sz := 6) (fun _ => rfl) ls; have hL := hf.1
  unfold Tkn.v Tkn.cs
  refine xo 2 ?_
  refine XO.ef (Ef.box rfl) ?_
  rintro _ _ ⟨n1, rfl, rfl⟩
  refine XO.ef (Ef.alloc Try.zeroValue32) ?_
  rintro _ _ ⟨n2, rfl, rfl⟩
  refine ox 9 ?_
  refine X.le (Le.rsH_nil tcs 2 45 _) ?_
  refine X.at (X.loop (fun (s : Nat × Option Addr × Nat) => s.1 ≤ ls.length) (fun s => [(11, .int .i64 (s.1 : Int)), (9, .slice A ls.length C), (10, .int .i64 (ls.length : Int)), (2, .func (.func 24) #[] #[]), (4, .pointer (some ⟨n1, 0, none⟩)), (6, .pointer (some ⟨n2, 0, none⟩))]) (fun s => rsH tcs 2 45 s.2.1 s.2.2 ((whole (ls.take s.1)).turns) :: pto n1 (.cells ((whole (ls.take s.1)).cs s.2.1 s.2.2).toArray 32 (0, 0)) :: pto n2 (.cells [.int .u32 0, .slice none 0 0, .int .i64 0, .int .i64 0, .int .i64 0, .int .i64 0].toArray 32 (0, 0)) :: (q ++ F)) (fun s => ls.length - s.1) (fun s hi_ ih => ?_) (0, none, 0) (by omega)) subA leA
  try dsimp only at hi_ ih ⊢
  obtain hi := hi_
  obtain ⟨s, a1, c1⟩ := s; dsimp only at *
  refine xx 5 ?_
  refine X.part 12 rfl (fun h0 => ?_) (fun h0 => ?_)
  · skip
    replace h0 := sp h0
    have hi0 : s < ls.length := by omega
    have J1 := hf.jo ok hi0
    refine xo 6 ?_
    refine XO.adr hs (by rw [hlen]; omega) (fun b22 o22 e_ => ?_); subst e_
    refine oo 1 ?_
    refine XO.ldS (n := s) Try.isAgg32 Try.sizeOf32 hs hi0 ?_
    refine XO.ef (Ef.alloc Try.zeroValue32) ?_
    rintro _ _ ⟨n3, rfl, rfl⟩
    refine XO.ef0 (Ef.stA Try.sizeOf32) ?_
    rintro _ _ ⟨rfl, rfl⟩
    refine oo 3 ?_
    refine XO.ldA Try.isAgg32 Try.sizeOf32 ?_
    refine XO.ldA Try.isAgg32 Try.sizeOf32 ?_
    refine XO.cVX fndA (CallV.c20 Try.call24 (join11_ok (u := whole (ls.take s)) (t := ls[s].t) ((hp _ (List.getElem_mem hi0)).le leA) J1)) ?_
    rintro _ _ ⟨a2, c2, rfl, rfl⟩
    refine XO.ef0 (Ef.stA Try.sizeOf32) ?_
    rintro _ _ ⟨rfl, rfl⟩
    refine ox 6 ?_
    have hW := whole_succ hi0
    refine X.at (ih (s + 1, a2, c2) (by dsimp only; omega) (by dsimp only; omega)) subA (by dsimp only; rw [hW]; exact leA)
  · skip
    replace h0 := sp h0
    refine xo 4 ?_
    refine XO.ldA Try.isAgg32 Try.sizeOf32 ?_
    refine XO.ef0 (Ef.stA Try.sizeOf32) ?_
    rintro _ _ ⟨rfl, rfl⟩
    refine ox 1 ?_
    rw [whole_all (show ls.length ≤ s by omega)]
    refine X.retL (rsH tcs 2 45 a1 c1 ((whole ls).turns) :: q) Try.func23 (resC1 Try.results23 (ResOk.cell rfl (LV.agg Try.isAgg32 Try.sizeOf32 hasA rfl) ResOk.nil)) ⟨_, rfl, a1, c1, rfl, rfl⟩
end
end Go.Proofs.Ytjkkefgkhafmfaa

