/- What functions of package tape, of its references and of its laws do: contracts of calls, proved by walking their code. -/
import Derived.Test.YtjkkefgkhafmfaaJ
import Derived.KernelRfl
set_option maxRecDepth 100000
set_option linter.unusedVariables false
set_option linter.unusedSimpArgs false
namespace Go.Proofs.Ytjkkefgkhafmfaa
open Go Go.RowKit Wx
attribute [local irreducible] Wx.lsH Wx.rsH Wx.lsM Wx.rsM Wx.stars

/-! ### a step's turn -/
def atT : List Turn → Int → Nat
  | [], _ => 0
  | x :: r, s => if s < x.2 then 0 else atT r (s - x.2) + 1
theorem atT_lt : ∀ {l : List Turn} {s : Int}, s < sumT l → 0 ≤ s → atT l s < l.length
  | [], s, h, k => by simp [sumT] at h; omega
  | x :: r, s, h, k => by
    rw [sumT_cons] at h; unfold atT
    split
    · simp
    · have := atT_lt (l := r) (s := s - x.2) (by omega) (by omega); simp; omega
theorem atT_drop {l : List Turn} {i : Nat} {s : Int} (h : i < l.length) : atT (l.drop i) s = if s < l[i].2 then 0 else atT (l.drop (i + 1)) (s - l[i].2) + 1 := by
  rw [List.drop_eq_getElem_cons h, atT]
def atV (t : Tkn) (s : Int) : Prop := okT t ∧ 0 ≤ s ∧ s < sumT t.turns
section
variable {G : World} {q : List HP} {l m : List Turn} {t u : Tkn} {a b A : Option Addr} {c d C p p0 p1 p2 p3 i : Nat} {v_ mn n st : Int}
set_option maxHeartbeats 2000000 in
theorem skip_ok (hs : Sees q a (t.turns.flatMap tcs)) (hl : ∀ x ∈ t.turns, 1 ≤ x.2 ∧ x.2 ≤ 2147483647) (hL : t.turns.length ≤ 65536) (hn : 0 ≤ n) (hn2 : n < sumT t.turns) (hn3 : n ≤ 4294967296) : CallF Try.prog G 31 [.pointer (some ⟨p, 0, none⟩), .int .i64 n] (tapH p t a c mn 0 0 :: q) (Ret fun v q' => ∃ u' : Int, q' = tapH p t a c mn (atT t.turns n) u' :: q) := by
  refine CallF.of Try.func31 Try.ntmps31 rfl (fun F cs => ?_)
  have hlen := flatMap_len (f := tcs) (sz := 2) (fun _ => rfl) t.turns
  refine xx 1 ?_
  refine X.at (X.loop (fun (s : Int × Nat) => 0 ≤ s.1 ∧ s.1 ≤ n ∧ s.1 < sumT (t.turns.drop s.2) ∧ s.2 + atT (t.turns.drop s.2) s.1 = atT t.turns n) (fun s => [(0, .pointer (some ⟨p, 0, none⟩)), (1, .int .i64 s.1)]) (fun s => tapH p t a c mn s.2 0 :: (q ++ F)) (fun s => s.1.toNat) (fun s hi_ ih => ?_) (n, 0) ⟨hn, Int.le_refl _, by simpa using hn2, by simp⟩) subA leA
  try dsimp only at hi_ ih ⊢
  obtain ⟨k1, k2, k3, k4⟩ := hi_
  obtain ⟨r, j⟩ := s; dsimp only at *
  have hj : j < t.turns.length := by rcases Nat.lt_or_ge j t.turns.length with h | h; exact h; rw [List.drop_eq_nil_of_le h] at k3; simp [sumT] at k3; omega
  have hj2 := hl _ (List.getElem_mem hj); rw [atT_drop hj] at k4; rw [List.drop_eq_getElem_cons hj, sumT_cons] at k3
  refine xx 6 ?_
  refine X.part 6 rfl (fun h0 => ?_) (fun h0 => ?_)
  · skip
    replace h0 := sp h0
    refine X.adr hs (by rw [hlen]; omega) (fun b1 o1 e_ => ?_); subst e_
    refine xx 4 ?_
    refine X.draw [] Try.mixed (by kernel_rfl) (by kernel_rfl) rfl ?_
    refine dd [0, 1, 2, 3, 4] ?_
    refine XD.ld 5 Try.isAgg26 ?_
    refine dd [6, 7, 8] ?_
    refine XD.ld 9 Try.isAgg3 ?_
    refine dd [10, 11] ?_
    refine XD.ld 12 Try.isAgg3 ?_ (hc := (Cl.row (f := tcs) (sz := 2) (n := j) hs leA (fun _ => rfl) hj rfl 1 _ rfl))
    refine dd [13, 14] ?_
    refine XD.nil ?_
    refine xx 9 ?_
    refine X.sb [1, 4, 0] ?_
    refine X.draw [] Try.mixed (by kernel_rfl) (by kernel_rfl) rfl ?_
    refine dd [0, 1, 2, 3, 4] ?_
    refine XD.ld 5 Try.isAgg26 ?_
    refine dd [6, 7, 8] ?_
    refine XD.ld 9 Try.isAgg3 ?_
    refine dd [10, 11] ?_
    refine XD.ld 12 Try.isAgg3 ?_ (hc := (Cl.row (f := tcs) (sz := 2) (n := j) hs leA (fun _ => rfl) hj rfl 1 _ rfl))
    refine dd [13] ?_
    refine XD.nil ?_
    refine X.part 37 rfl (fun h1 => ?_) (fun h1 => ?_)
    · skip
      replace h1 := sp h1
      refine xo 7 ?_
      refine XO.ef0 (Ef.st Try.sizeOf3) ?_
      rintro _ _ ⟨rfl, rfl⟩
      refine ox 1 ?_
      refine X.sb [1, 0] ?_
      rw [if_pos (by omega), Nat.add_zero] at k4; rw [← k4]
      refine X.retL (tapH p t (some ⟨b1, o1, none⟩) c mn j (min r t.turns[j].2) :: q) Try.func31 (res0 Try.results31) ⟨_, rfl, _, rfl⟩
    · skip
      replace h1 := sp h1
      refine xo 6 ?_
      refine XO.ld Try.isAgg3 ?_
      refine oo 3 ?_
      refine XO.ef0 (Ef.st Try.sizeOf3) ?_
      rintro _ _ ⟨rfl, rfl⟩
      refine ox 2 ?_
      refine X.sb [1, 0] ?_
      rw [if_neg (by omega)] at k4
      refine X.at (ih (r - min r t.turns[j].2, j + 1) ⟨by dsimp only; omega, by dsimp only; omega, by dsimp only; omega, by dsimp only; rw [show min r t.turns[j].2 = t.turns[j].2 by omega]; omega⟩ (by dsimp only; omega)) subA leA
  · skip
    replace h0 := sp h0; rw [if_pos (by omega), Nat.add_zero] at k4; rw [← k4]
    refine xx 2 ?_
    refine X.fallL (tapH p t a c mn j 0 :: q) Try.func31 (res0 Try.results31) ⟨_, rfl, _, rfl⟩
set_option maxHeartbeats 2000000 in
theorem at1_ok (hs : Sees q a (t.turns.flatMap tcs)) : CallF Try.prog G 29 [.pointer (some ⟨p0, 0, none⟩), .pointer (some ⟨p1, 0, none⟩), .pointer (some ⟨p2, 0, none⟩), .pointer (some ⟨p3, 0, none⟩)] (pto p0 (.cells (t.cs a c).toArray 32 (0, 0)) :: pto p1 (.cells [.int .i64 st].toArray 3 (0, 0)) :: pto p2 (.cells [.int .i64 0].toArray 3 (0, 0)) :: pto p3 (.cells [.int .i64 0].toArray 3 (0, 0)) :: q) (RP (fun _ q' => atV t st ∧ q' = pto p2 (.cells [.int .i64 (t.turns.getD (atT t.turns st) zT).1].toArray 3 (0, 0)) :: pto p3 (.cells [.int .i64 (atT t.turns st : Int)].toArray 3 (0, 0)) :: q) (fun ch q' => ∃ e, ch = [refE e] ∧ (e ≠ 0 ∧ ¬ atV t st) ∧ q' = pto p2 (.cells [.int .i64 0].toArray 3 (0, 0)) :: pto p3 (.cells [.int .i64 0].toArray 3 (0, 0)) :: q)) := by
  refine CallF.of Try.func29 Try.ntmps29 rfl (fun F cs => ?_)
  have hlen := flatMap_len (f := tcs) (sz := 2) (fun _ => rfl) t.turns
  refine xo 2 ?_
  refine XO.ldA Try.isAgg32 Try.sizeOf32 ?_
  refine XO.cP Try.call30 (Le.refl _) (open_ok (t := t) (a := a) (c := c) (hs.le leA)) ?_ ?_
  · rintro _ _ ⟨ok, rfl, rfl⟩
    exact FQ.panic Try.func29 (RP.thr ⟨2, rfl, ⟨by decide, fun k => ok k.1⟩, rfl⟩)
  rintro _ _ ⟨ok, n2, rfl, rfl⟩
  obtain ⟨hS1, hS2, hS3⟩ := okT_sum ok; have hL := ok.1
  refine ox 3 ?_
  refine X.draw [] Try.mixed (by kernel_rfl) (by kernel_rfl) rfl ?_
  refine XD.ld 0 Try.isAgg3 ?_
  refine dd [1, 2] ?_
  refine XD.part 9 rfl (fun h1 => ?_) (fun h1 => ?_)
  · skip
    replace h1 := sp h1
    refine XD.ld 3 Try.isAgg3 ?_
    refine dd [4, 5, 6] ?_
    refine XD.ld 7 Try.isAgg3 ?_
    refine dd [8, 9] ?_
    refine XD.cP 10 Try.call21 (Le.refl _) (need_if) ?_ ?_ trivial
    · rintro _ _ ⟨hb, rfl, rfl⟩
      try replace hb := sp hb
      exact FQ.panic Try.func29 (RP.thr ⟨4, rfl, ⟨by decide, fun k => by obtain ⟨_, k1, k2⟩ := k; omega⟩, rfl⟩)
    rintro _ _ ⟨hb, rfl⟩
    refine ⟨hlA, ?_⟩
    replace hb := sp hb
    refine XD.nil ?_
    refine xo 3 ?_
    refine XO.ld Try.isAgg3 ?_
    have hi0 := atT_lt hb h1; have hgd : t.turns.getD (atT t.turns st) zT = t.turns[atT t.turns st] := by simp [List.getD, List.getElem?_eq_getElem hi0]
    refine XO.cX Try.call31 fndA (skip_ok (t := t) (n := st) (hs.le leA) hS3 hL h1 hb (by omega)) ?_
    rintro _ _ ⟨u2, rfl⟩
    rw [hgd]
    refine XO.adr hs (by rw [hlen]; omega) (fun b1 o1 e_ => ?_); subst e_
    refine ox 1 ?_
    refine X.sb [4, 2, 3] ?_
    refine X.draw [] Try.mixed (by kernel_rfl) (by kernel_rfl) rfl ?_
    refine dd [0, 1, 2, 3] ?_
    refine XD.ld 4 Try.isAgg26 ?_
    refine dd [5, 6, 7] ?_
    refine XD.ld 8 Try.isAgg3 ?_
    refine dd [9, 10] ?_
    refine XD.ld 11 Try.isAgg3 ?_ (hc := (Cl.row (f := tcs) (sz := 2) (n := atT t.turns st) hs leA (fun _ => rfl) hi0 rfl 0 _ rfl))
    refine dd [12, 13, 14] ?_
    refine XD.ld 15 Try.isAgg3 ?_
    refine XD.ef0 16 rfl (Ef.st Try.sizeOf3) ?_
    rintro _ _ ⟨rfl, rfl⟩
    refine ⟨trivial, ?_⟩
    refine XD.ef0 17 rfl (Ef.st Try.sizeOf3) ?_
    rintro _ _ ⟨rfl, rfl⟩
    refine ⟨trivial, ?_⟩
    refine XD.nil ?_
    refine X.fallL (pto p2 (.cells [.int .i64 t.turns[atT t.turns st].1].toArray 3 (0, 0)) :: pto p3 (.cells [.int .i64 (atT t.turns st : Int)].toArray 3 (0, 0)) :: q) Try.func29 (res0 Try.results29) (RP.ret ⟨⟨ok, h1, hb⟩, rfl⟩)
  · skip
    replace h1 := sp h1
    refine dd [3, 4, 5, 6, 7, 8, 9] ?_
    refine XD.cP 10 Try.call21 (Le.refl _) (need_if) ?_ ?_ trivial
    · rintro _ _ ⟨hb, rfl, rfl⟩
      try replace hb := sp hb
      exact FQ.panic Try.func29 (RP.thr ⟨4, rfl, ⟨by decide, fun k => by obtain ⟨_, k1, k2⟩ := k; omega⟩, rfl⟩)
    rintro _ _ ⟨hb, rfl⟩
    refine ⟨hlA, ?_⟩
    cases hb
set_option maxHeartbeats 1000000 in
theorem At_ok (hs : Sees q a (t.turns.flatMap tcs)) : CallF Try.prog G 11 [t.v a c, .int .i64 st] (q) (Ret fun v q' => ((atV t st ∧ v = .tuple [.int .i64 (t.turns.getD (atT t.turns st) zT).1, .int .i64 (atT t.turns st : Int), .bool true].toArray) ∨ (¬ atV t st ∧ v = .tuple [.int .i64 0, .int .i64 0, .bool false].toArray)) ∧ q' = q) := by
  refine CallF.of Try.func11 Try.ntmps11 rfl (fun F cs => ?_)
  unfold Tkn.v
  refine xo 2 ?_
  refine XO.ef (Ef.box rfl) ?_
  rintro _ _ ⟨n1, rfl, rfl⟩
  refine XO.ef (Ef.box rfl) ?_
  rintro _ _ ⟨n2, rfl, rfl⟩
  refine XO.ef (Ef.alloc Try.zeroValue3) ?_
  rintro _ _ ⟨n3, rfl, rfl⟩
  refine XO.ef (Ef.alloc Try.zeroValue3) ?_
  rintro _ _ ⟨n4, rfl, rfl⟩
  refine oo 5 ?_
  have hJ := fun q1 (h : Le q1 q) => at1_ok (G := G) (q := q1) (t := t) (a := a) (c := c) (st := st) (p0 := n1) (p1 := n2) (p2 := n3) (p3 := n4) (hs.le h)
  refine XO.cX Try.call19 (Le.pick fndA (Le.pick fndA (Le.pick fndA (Le.pick fndA (Le.refl _))))) (try_ok (CallV.c04 Try.call29 (hJ _ leA))) ?_
  rintro _ _ (⟨rfl, ok, rfl⟩ | ⟨e, rfl, ⟨he, hno⟩, rfl⟩)
  · skip
    refine ox 3 ?_
    refine X.draw [] Try.mixed (by kernel_rfl) (by kernel_rfl) rfl ?_
    refine XD.ld 0 Try.isAgg3 ?_
    refine XD.ld 1 Try.isAgg3 ?_
    refine dd [2, 3] ?_
    refine XD.ef0 4 rfl (Ef.st Try.sizeOf3) ?_
    rintro _ _ ⟨rfl, rfl⟩
    refine ⟨hlA, ?_⟩
    refine XD.ef0 5 rfl (Ef.st Try.sizeOf3) ?_
    rintro _ _ ⟨rfl, rfl⟩
    refine ⟨trivial, ?_⟩
    refine dd [6] ?_
    refine XD.nil ?_
    refine X.retL (q) Try.func11 (resC Try.results11 (ResOk.cell rfl (LV.cell Try.isAgg3 clA) (ResOk.cell rfl (LV.cell Try.isAgg3 clA) (ResOk.tmp rfl ResOk.nil)))) ⟨_, rfl, .inl ⟨ok, rfl⟩, rfl⟩
  · skip
    refine ox 3 ?_
    refine X.draw [] Try.mixed (by kernel_rfl) (by kernel_rfl) rfl ?_
    refine XD.ld 0 Try.isAgg3 ?_
    refine XD.ld 1 Try.isAgg3 ?_
    refine dd [2, 3] ?_
    refine XD.ef0 4 rfl (Ef.st Try.sizeOf3) ?_
    rintro _ _ ⟨rfl, rfl⟩
    refine ⟨hlA, ?_⟩
    refine XD.ef0 5 rfl (Ef.st Try.sizeOf3) ?_
    rintro _ _ ⟨rfl, rfl⟩
    refine ⟨trivial, ?_⟩
    refine dd [6] ?_
    refine XD.nil ?_
    refine X.retL (q) Try.func11 (resC Try.results11 (ResOk.cell rfl (LV.cell Try.isAgg3 clA) (ResOk.cell rfl (LV.cell Try.isAgg3 clA) (ResOk.tmp rfl ResOk.nil)))) ⟨_, rfl, .inr ⟨hno, by rw [show (e == 0) = false from beq_eq_false_iff_ne.2 he]⟩, rfl⟩
end
end Go.Proofs.Ytjkkefgkhafmfaa

