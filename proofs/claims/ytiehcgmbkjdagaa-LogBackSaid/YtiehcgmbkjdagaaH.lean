/- What functions of package log, of its references and of its laws do: contracts of calls, proved by walking their code. -/
import Derived.Test.YtiehcgmbkjdagaaG
import Derived.Test.YtiehcgmbkjdagaaWx18
import Derived.KernelRfl
set_option maxRecDepth 100000
set_option linter.unusedVariables false
set_option linter.unusedSimpArgs false
namespace Go.Proofs.Ytiehcgmbkjdagaa
open Go Go.RowKit Wx

/-! ### decoding -/
theorem pn_drop {l : List Int} {i : Nat} (h : i < l.length) : l.drop i = l[i] :: l.drop (i + 1) := List.drop_eq_getElem_cons h
theorem pow7' (k : Nat) : (2 : Int) ^ (7 * k) * 128 = 2 ^ (7 * (k + 1)) := (pow7 k).symm
theorem pow7_le {k : Nat} (h : k < 5) : (1 : Int) ≤ 2 ^ (7 * k) ∧ (2 : Int) ^ (7 * k) ≤ 268435456 := by
  have : k = 0 ∨ k = 1 ∨ k = 2 ∨ k = 3 ∨ k = 4 := by omega
  rcases this with rfl | rfl | rfl | rfl | rfl <;> decide
theorem pnF_nil (j i : Nat) (n : Int) : pnF j i n [] = none := by cases j <;> rfl
section
variable {G : World} {q : List HP} {a b : Option Addr} {c d p n2 n3 i0 : Nat} {l : List Int}
set_option maxHeartbeats 1000000 in
theorem take_ok (hs : Sees q a (By l)) (hb : Bs l) (hL : l.length ≤ 1000000) (hi0 : i0 ≤ 1000000) : CallF Try.prog G 35 [.slice a l.length c, .int .i64 (i0 : Int)] q (Ret fun v q' => ((∃ n nx, pNum (l.drop i0) = some (n, l.drop nx) ∧ i0 < nx ∧ nx ≤ l.length ∧ v = .tuple [.int .i64 n, .int .i64 (nx : Int)].toArray) ∨ (pNum (l.drop i0) = none ∧ v = .tuple [.int .i64 0, .int .i64 0].toArray)) ∧ q' = q) := by
  refine CallF.of Try.func35 Try.ntmps35 rfl (fun F cs => ?_)
  refine X.sub (p' := [(0, _), (1, _)]) ⟨rfl, rfl, trivial⟩ ?_
  refine X.seq ?_
  refine X.region ?_
  refine XO.pu (Pu.assign rfl) ?_
  refine XO.pu (Pu.assign rfl) ?_
  refine XO.nil ?_
  refine X.sub (p' := [(5, _), (4, _), (0, _), (1, _)]) ⟨rfl, rfl, rfl, rfl, trivial⟩ ?_
  refine X.seq ?_
  refine X.region ?_
  refine XO.pu (Pu.assign rfl) ?_
  refine XO.pu (Pu.assign rfl) ?_
  refine XO.nil ?_
  refine X.sub (p' := [(7, _), (6, _), (5, _), (4, _), (0, _), (1, _)]) ⟨rfl, rfl, rfl, rfl, rfl, rfl, trivial⟩ ?_
  refine X.seq ?_
  refine X.seq ?_
  refine X.region ?_
  refine XO.pu (Pu.move rfl) ?_
  refine XO.pu (Pu.assign rfl) ?_
  refine XO.nil ?_
  refine X.sub (p' := [(8, _), (7, _), (6, _), (5, _), (4, _), (0, _), (1, _)]) ⟨rfl, rfl, rfl, rfl, rfl, rfl, rfl, trivial⟩ ?_
  refine X.block ?_
  refine X.at (X.loop (fun (s : Nat × Int) => s.1 ≤ 5 ∧ 0 ≤ s.2 ∧ s.2 < 2 ^ (7 * s.1) ∧ pNum (l.drop i0) = pnF (5 - s.1) (7 * s.1) s.2 (l.drop (i0 + s.1))) (fun s => [(0, .slice a l.length c), (1, .int .i64 (i0 : Int)), (6, .int .i64 s.2), (7, .int .i64 (2 ^ (7 * s.1))), (8, .int .i64 ((i0 + s.1 : Nat) : Int))]) (fun s => q ++ F) (fun s => 5 - s.1) (fun s hi_ ih => ?_) (0, 0) ⟨by dsimp only; omega, by dsimp only; omega, by dsimp only; omega, rfl⟩) ⟨(by first | rfl | exact congrArg some (congrArg (Value.int _) (by omega)) | (show some _ = some _; simp; done) | (show some _ = some _; simp; omega)), (by first | rfl | exact congrArg some (congrArg (Value.int _) (by omega)) | (show some _ = some _; simp; done) | (show some _ = some _; simp; omega)), (by first | rfl | exact congrArg some (congrArg (Value.int _) (by omega)) | (show some _ = some _; simp; done) | (show some _ = some _; simp; omega)), (by first | rfl | exact congrArg some (congrArg (Value.int _) (by omega)) | (show some _ = some _; simp; done) | (show some _ = some _; simp; omega)), (by first | rfl | exact congrArg some (congrArg (Value.int _) (by omega)) | (show some _ = some _; simp; done) | (show some _ = some _; simp; omega)), trivial⟩ leA
  try dsimp only at hi_ ih ⊢
  obtain ⟨h1, h2, h3, h4⟩ := hi_
  obtain ⟨k, n⟩ := s; dsimp only at *
  refine X.seq ?_
  refine X.seq ?_
  refine X.region ?_
  refine XO.pu (Pu.move rfl) ?_
  refine XO.pu (Pu.move rfl) ?_
  refine XO.pu (Pu.len rfl Try.underlying31) ?_
  refine XO.pu (Pu.lss rfl rfl) ?_
  refine XO.pu (Pu.move rfl) ?_
  refine XO.sub (p' := [(14, _), (0, _), (1, _), (6, _), (7, _), (8, _)]) ⟨rfl, rfl, rfl, rfl, rfl, rfl, trivial⟩ ?_
  apply XO.cutAnd 5 19 14 rfl
  · skip
    intro g1 M1; have h1 := g1; try simp only [decide_eq_true_eq, decide_eq_false_iff_not, bne_iff_ne, beq_iff_eq, ne_eq, bne_eq_false_iff_eq, beq_eq_false_iff_ne, Bool.not_eq_true', Bool.not_eq_false', Int.not_lt, Int.not_le, Bool.not_not, Bool.and_eq_true, Bool.and_eq_false_iff, Bool.true_and, Bool.and_true, beq_self_eq_true, Bool.or_eq_true, Bool.or_eq_false_iff] at h1
    refine XO.pu (Pu.move rfl) ?_
    refine XO.pu (Pu.move rfl) ?_
    refine XO.pu (Pu.add rfl rfl (by omega) (by omega)) ?_
    refine XO.pu (Pu.lss rfl rfl) ?_
    refine XO.pu (Pu.pickT rfl rfl) ?_
    exact XO.fin M1 ⟨andT g1, congrArg (fun x => some (Value.bool x)) g1.symm, rfl, rfl, rfl, rfl, rfl, trivial⟩
  · skip
    intro g1 M1; have h1 := g1; try simp only [decide_eq_true_eq, decide_eq_false_iff_not, bne_iff_ne, beq_iff_eq, ne_eq, bne_eq_false_iff_eq, beq_eq_false_iff_ne, Bool.not_eq_true', Bool.not_eq_false', Int.not_lt, Int.not_le, Bool.not_not, Bool.and_eq_true, Bool.and_eq_false_iff, Bool.true_and, Bool.and_true, beq_self_eq_true, Bool.or_eq_true, Bool.or_eq_false_iff] at h1
    refine XO.pass rfl ?_
    refine XO.pass rfl ?_
    refine XO.pass rfl ?_
    refine XO.pass rfl ?_
    refine XO.pu (Pu.pickF rfl rfl) ?_
    exact XO.fin M1 ⟨andF g1, congrArg (fun x => some (Value.bool x)) g1.symm, rfl, rfl, rfl, rfl, rfl, trivial⟩
  · skip
    refine XO.nil ?_
    refine X.sub (p' := [(19, _), (0, _), (1, _), (6, _), (7, _), (8, _)]) ⟨rfl, rfl, rfl, rfl, rfl, rfl, trivial⟩ ?_
    refine X.part 19 rfl (fun h0 => ?_) (fun h0 => ?_)
    · skip
      try simp only [decide_eq_true_eq, decide_eq_false_iff_not, bne_iff_ne, beq_iff_eq, ne_eq, bne_eq_false_iff_eq, beq_eq_false_iff_ne, Bool.not_eq_true', Bool.not_eq_false', Int.not_lt, Int.not_le, Bool.not_not, Bool.and_eq_true, Bool.and_eq_false_iff, Bool.true_and, Bool.and_true, beq_self_eq_true, Bool.or_eq_true, Bool.or_eq_false_iff] at h0
      have hk : k < 5 := (by omega); have hi1 : i0 + k < l.length := (by omega); have hp := pow7_le hk
      refine X.adr hs (by simp; omega) (fun b1 o1 e_ => ?_); subst e_
      have hx := hb _ (List.getElem_mem hi1); obtain ⟨j, hj⟩ : ∃ j, 5 - k = j + 1 := ⟨4 - k, by omega⟩
      rw [hj, pn_drop hi1] at h4
      have hy0 : 0 ≤ l[i0 + k] % 128 * 2 ^ (7 * k) := Int.mul_nonneg (by omega) (by omega)
      have hy1 : l[i0 + k] % 128 * 2 ^ (7 * k) ≤ 127 * 2 ^ (7 * k) := Int.mul_le_mul_of_nonneg_right (by omega) (by omega)
      refine X.condT rfl ?_
      refine X.skip ?_
      refine X.seq ?_
      refine X.block ?_
      refine X.seq ?_
      refine X.region ?_
      refine XO.pu (Pu.move rfl) ?_
      refine XO.pu (Pu.move rfl) ?_
      refine XO.pu (Pu.move rfl) ?_
      refine XO.pu (Pu.indexAddr rfl rfl Try.underlying31 Try.sizeOf5 (by omega) (by omega)) ?_
      refine XO.ld Try.isAgg5 ?_
      refine XO.pu (Pu.rem rfl rfl (by omega)) ?_
      refine XO.know 27 (.int .u8 (l[i0 + k] % 128)) rfl (congrArg (Value.int .u8) (by rw [Int.tmod_eq_emod_of_nonneg hx.1])) ?_
      refine XO.pu (Pu.conv rfl Try.underlying5 Try.underlying2 (wrap64_of (by omega) (by omega))) ?_
      refine XO.pu (Pu.move rfl) ?_
      refine XO.pu (Pu.mul rfl rfl (by omega) (by omega)) ?_
      refine XO.pu (Pu.add rfl rfl (by omega) (by omega)) ?_
      refine XO.pu (Pu.assign rfl) ?_
      refine XO.nil ?_
      refine X.sub (p' := [(6, _), (0, _), (1, _), (7, _), (8, _)]) ⟨rfl, rfl, rfl, rfl, rfl, trivial⟩ ?_
      refine X.seq ?_
      refine X.seq ?_
      refine X.region ?_
      refine XO.pu (Pu.move rfl) ?_
      refine XO.pu (Pu.move rfl) ?_
      refine XO.pu (Pu.indexAddr rfl rfl Try.underlying31 Try.sizeOf5 (by omega) (by omega)) ?_
      refine XO.ld Try.isAgg5 ?_
      refine XO.pu (Pu.lss rfl rfl) ?_
      refine XO.nil ?_
      refine X.sub (p' := [(36, _), (6, _), (0, _), (1, _), (7, _), (8, _)]) ⟨rfl, rfl, rfl, rfl, rfl, rfl, trivial⟩ ?_
      refine X.part 36 rfl (fun h8 => ?_) (fun h8 => ?_)
      · skip
        have h8 := of_decide_eq_true h8
        have h5 := h4.trans (pnF_low h8)
        refine X.condT rfl ?_
        refine X.seq ?_
        refine X.seq ?_
        refine X.region ?_
        refine XO.pu (Pu.move rfl) ?_
        refine XO.pu (Pu.move rfl) ?_
        refine XO.pu (Pu.gtr rfl rfl) ?_
        refine XO.pu (Pu.move rfl) ?_
        refine XO.sub (p' := [(40, _), (6, _), (0, _), (1, _), (7, _), (8, _)]) ⟨rfl, rfl, rfl, rfl, rfl, rfl, trivial⟩ ?_
        apply XO.cutAnd 6 46 40 rfl
        · skip
          intro g1 M1; have h1 := g1; try simp only [decide_eq_true_eq, decide_eq_false_iff_not, bne_iff_ne, beq_iff_eq, ne_eq, bne_eq_false_iff_eq, beq_eq_false_iff_ne, Bool.not_eq_true', Bool.not_eq_false', Int.not_lt, Int.not_le, Bool.not_not, Bool.and_eq_true, Bool.and_eq_false_iff, Bool.true_and, Bool.and_true, beq_self_eq_true, Bool.or_eq_true, Bool.or_eq_false_iff] at h1
          refine XO.pu (Pu.move rfl) ?_
          refine XO.pu (Pu.move rfl) ?_
          refine XO.pu (Pu.indexAddr rfl rfl Try.underlying31 Try.sizeOf5 (by omega) (by omega)) ?_
          refine XO.ld Try.isAgg5 ?_
          refine XO.pu (Pu.eql rfl rfl) ?_
          refine XO.pu (Pu.pickT rfl rfl) ?_
          exact XO.fin M1 ⟨andT g1, congrArg (fun x => some (Value.bool x)) g1.symm, rfl, rfl, rfl, rfl, rfl, trivial⟩
        · skip
          intro g1 M1; have h1 := g1; try simp only [decide_eq_true_eq, decide_eq_false_iff_not, bne_iff_ne, beq_iff_eq, ne_eq, bne_eq_false_iff_eq, beq_eq_false_iff_ne, Bool.not_eq_true', Bool.not_eq_false', Int.not_lt, Int.not_le, Bool.not_not, Bool.and_eq_true, Bool.and_eq_false_iff, Bool.true_and, Bool.and_true, beq_self_eq_true, Bool.or_eq_true, Bool.or_eq_false_iff] at h1
          refine XO.pass rfl ?_
          refine XO.pass rfl ?_
          refine XO.pass rfl ?_
          refine XO.pass rfl ?_
          refine XO.pass rfl ?_
          refine XO.pu (Pu.pickF rfl rfl) ?_
          exact XO.fin M1 ⟨andF g1, congrArg (fun x => some (Value.bool x)) g1.symm, rfl, rfl, rfl, rfl, rfl, trivial⟩
        · skip
          refine XO.nil ?_
          refine X.sub (p' := [(46, _), (6, _), (0, _), (1, _), (7, _), (8, _)]) ⟨rfl, rfl, rfl, rfl, rfl, rfl, trivial⟩ ?_
          refine X.part 46 rfl (fun h1 => ?_) (fun h1 => ?_)
          · skip
            try simp only [decide_eq_true_eq, decide_eq_false_iff_not, bne_iff_ne, beq_iff_eq, ne_eq, bne_eq_false_iff_eq, beq_eq_false_iff_ne, Bool.not_eq_true', Bool.not_eq_false', Int.not_lt, Int.not_le, Bool.not_not, Bool.and_eq_true, Bool.and_eq_false_iff, Bool.true_and, Bool.and_true, beq_self_eq_true, Bool.or_eq_true, Bool.or_eq_false_iff] at h1
            refine X.condT rfl ?_
            refine X.seq ?_
            refine X.region ?_
            refine XO.pu (Pu.assign rfl) ?_
            refine XO.pu (Pu.assign rfl) ?_
            refine XO.nil ?_
            refine X.sub (p' := [(5, _), (4, _), (6, _), (0, _), (1, _), (7, _), (8, _)]) ⟨rfl, rfl, rfl, rfl, rfl, rfl, rfl, trivial⟩ ?_
            have h9 : l[i0 + k] = 0 ∧ 0 < 7 * k := by omega
            refine X.retL (q) Try.func35 (res2 Try.results35 rfl rfl) ⟨_, rfl, .inr ⟨by rw [h5, if_pos h9], rfl⟩, rfl⟩
          · skip
            try simp only [decide_eq_true_eq, decide_eq_false_iff_not, bne_iff_ne, beq_iff_eq, ne_eq, bne_eq_false_iff_eq, beq_eq_false_iff_ne, Bool.not_eq_true', Bool.not_eq_false', Int.not_lt, Int.not_le, Bool.not_not, Bool.and_eq_true, Bool.and_eq_false_iff, Bool.true_and, Bool.and_true, beq_self_eq_true, Bool.or_eq_true, Bool.or_eq_false_iff] at h1
            refine X.condF rfl ?_
            refine X.skip ?_
            refine X.seq ?_
            refine X.region ?_
            refine XO.pu (Pu.move rfl) ?_
            refine XO.pu (Pu.move rfl) ?_
            refine XO.pu (Pu.add rfl rfl (by omega) (by omega)) ?_
            refine XO.pu (Pu.assign rfl) ?_
            refine XO.pu (Pu.assign rfl) ?_
            refine XO.nil ?_
            refine X.sub (p' := [(5, _), (4, _), (6, _), (0, _), (1, _), (7, _), (8, _)]) ⟨rfl, rfl, rfl, rfl, rfl, rfl, rfl, trivial⟩ ?_
            have h9 : ¬ (l[i0 + k] = 0 ∧ 0 < 7 * k) := by omega
            refine X.retL (q) Try.func35 (res2 Try.results35 rfl rfl) ⟨_, rfl, .inl ⟨n + l[i0 + k] * 2 ^ (7 * k), i0 + k + 1, by rw [h5, if_neg h9], by omega, by omega, by rw [show l[i0 + k] % 128 = l[i0 + k] by omega]; rfl⟩, rfl⟩
      · skip
        have h8 := of_decide_eq_false h8
        refine X.condF rfl ?_
        refine X.skip ?_
        refine X.region ?_
        refine XO.pu (Pu.move rfl) ?_
        refine XO.pu (Pu.mul rfl rfl (by omega) (by omega)) ?_
        refine XO.know 51 (.int .i64 (2 ^ (7 * (k + 1)))) rfl (congrArg (Value.int .i64) (pow7' k)) ?_
        refine XO.pu (Pu.assign rfl) ?_
        refine XO.nil ?_
        refine X.sub (p' := [(7, _), (6, _), (0, _), (1, _), (8, _)]) ⟨rfl, rfl, rfl, rfl, rfl, trivial⟩ ?_
        refine X.inBlock ?_
        refine X.region ?_
        refine XO.pu (Pu.move rfl) ?_
        refine XO.pu (Pu.add rfl rfl (by omega) (by omega)) ?_
        refine XO.pu (Pu.assign rfl) ?_
        refine XO.nil ?_
        refine X.sub (p' := [(8, _), (7, _), (6, _), (0, _), (1, _)]) ⟨rfl, rfl, rfl, rfl, rfl, trivial⟩ ?_
        refine X.at (ih (k + 1, n + l[i0 + k] % 128 * 2 ^ (7 * k)) ⟨by dsimp only; omega, by dsimp only; omega, by dsimp only; rw [pow7]; omega, by dsimp only; rw [h4, show 5 - (k + 1) = j by omega, show l[i0 + k] % 128 = l[i0 + k] - 128 by omega, pnF_high h8]; rfl⟩ (by dsimp only; omega)) ⟨(by first | rfl | exact congrArg some (congrArg (Value.int _) (by omega)) | (show some _ = some _; simp; done) | (show some _ = some _; simp; omega)), (by first | rfl | exact congrArg some (congrArg (Value.int _) (by omega)) | (show some _ = some _; simp; done) | (show some _ = some _; simp; omega)), (by first | rfl | exact congrArg some (congrArg (Value.int _) (by omega)) | (show some _ = some _; simp; done) | (show some _ = some _; simp; omega)), (by first | rfl | exact congrArg some (congrArg (Value.int _) (by omega)) | (show some _ = some _; simp; done) | (show some _ = some _; simp; omega)), (by first | rfl | exact congrArg some (congrArg (Value.int _) (by omega)) | (show some _ = some _; simp; done) | (show some _ = some _; simp; omega)), trivial⟩ leA
    · skip
      try simp only [decide_eq_true_eq, decide_eq_false_iff_not, bne_iff_ne, beq_iff_eq, ne_eq, bne_eq_false_iff_eq, beq_eq_false_iff_ne, Bool.not_eq_true', Bool.not_eq_false', Int.not_lt, Int.not_le, Bool.not_not, Bool.and_eq_true, Bool.and_eq_false_iff, Bool.true_and, Bool.and_true, beq_self_eq_true, Bool.or_eq_true, Bool.or_eq_false_iff] at h0
      refine X.condF rfl ?_
      refine X.exit rfl ?_
      refine X.seq ?_
      refine X.region ?_
      refine XO.pu (Pu.assign rfl) ?_
      refine XO.pu (Pu.assign rfl) ?_
      refine XO.nil ?_
      refine X.sub (p' := [(5, _), (4, _)]) ⟨rfl, rfl, trivial⟩ ?_
      have hz : pNum (l.drop i0) = none := by rw [h4]; rcases Nat.lt_or_ge (i0 + k) l.length with x | x; (rw [show 5 - k = 0 by omega]; rfl); (rw [List.drop_eq_nil_of_le x]; exact pnF_nil _ _ _)
      refine X.retL (q) Try.func35 (res2 Try.results35 rfl rfl) ⟨_, rfl, .inr ⟨hz, rfl⟩, rfl⟩
end
/-- What is taken of bytes, and the error. -/
def decP (l : List Int) : Option Tkn × Int := if l.length < 12 ∨ sealB (l.take (l.length - 4)) ≠ l then (none, 210) else match takenP (l.take (l.length - 4)) with
  | some t => (some t, 0)
  | none => (none, 211)
def noT : Tkn := ⟨0, [], 0, 0, 0, 0⟩
def decS (q : List HP) (l : List Int) (v : Value) (q' : List HP) : Prop := ∃ t a' c', t = (decP l).1.getD noT ∧ v = .tuple [t.v a' c', .int .i64 (decP l).2].toArray ∧ q' = rsH tcs 2 57 a' c' t.turns :: q
theorem decP_1 {l : List Int} (h : l.length < 12 ∨ sealB (l.take (l.length - 4)) ≠ l) : decP l = (none, 210) := if_pos h
theorem decP_2 {l : List Int} (h : ¬ (l.length < 12 ∨ sealB (l.take (l.length - 4)) ≠ l)) (h2 : takenP (l.take (l.length - 4)) = none) : decP l = (none, 211) := by unfold decP; rw [if_neg h, h2]
theorem decP_3 {l : List Int} {t : Tkn} (h : ¬ (l.length < 12 ∨ sealB (l.take (l.length - 4)) ≠ l)) (h2 : takenP (l.take (l.length - 4)) = some t) : decP l = (some t, 0) := by unfold decP; rw [if_neg h, h2]
theorem pTurns_len : ∀ {k : Nat} {m r : List Int} {ts : List Turn}, pTurns k m = some (ts, r) → (∀ m x r, pNum m = some (x, r) → r.length < m.length) → 2 * k ≤ m.length
  | 0, _, _, _, _, _ => by omega
  | k + 1, m, r, ts, h, hn => by
    unfold pTurns at h
    cases m with
    | nil => cases h
    | cons x m =>
      simp only [pByte] at h
      cases h1 : pNum m with
      | none => rw [h1] at h; cases h
      | some y =>
        obtain ⟨n, r1⟩ := y
        rw [h1] at h
        simp only at h
        have := hn _ _ _ h1
        cases h2 : pTurns k r1 with
        | none => rw [h2] at h; cases h
        | some z =>
          have := pTurns_len h2 hn
          simp; omega
theorem pnF_len : ∀ (j i : Nat) (n x : Int) (m r : List Int), pnF j i n m = some (x, r) → r.length < m.length
  | 0, _, _, _, _, _, h => by cases h
  | j + 1, i, n, x, [], r, h => by cases h
  | j + 1, i, n, x, y :: m, r, h => by
    unfold pnF at h
    split at h
    · split at h
      · cases h
      · cases h; simp
    · have := pnF_len _ _ _ _ _ _ h; simp; omega
theorem pNum_len {x : Int} {m r : List Int} (h : pNum m = some (x, r)) : r.length < m.length := pnF_len _ _ _ _ _ _ h
theorem pWord_some {m : List Int} (h : 4 ≤ m.length) : ¬ pWord m = none := by
  match m, h with
  | x0 :: x1 :: x2 :: x3 :: r, _ => simp [pWord, pwF]
theorem pWord_rest {m r : List Int} {x : Int} (h : pWord m = some (x, r)) (h4 : m.length = 4) : r = [] := by
  match m, h4 with
  | [x0, x1, x2, x3], _ => simp [pWord, pwF] at h; exact h.2
theorem seal_parts {l : List Int} (h4 : 4 ≤ l.length) (hb : Bs l) : sealB (l.take (l.length - 4)) = l ↔ pWord (l.drop (l.length - 4)) = some (sumB (l.take (l.length - 4)), []) := by
  obtain ⟨x0, x1, x2, x3, hd⟩ : ∃ x0 x1 x2 x3, l.drop (l.length - 4) = [x0, x1, x2, x3] := by
    have hl : (l.drop (l.length - 4)).length = 4 := by simp; omega
    match l.drop (l.length - 4), hl with
    | [x0, x1, x2, x3], _ => exact ⟨x0, x1, x2, x3, rfl⟩
  have hx : Bs [x0, x1, x2, x3] := by rw [← hd]; exact fun y hy => hb y (List.mem_of_mem_drop hy)
  have h0 := hx x0 (by simp)
  have h1 := hx x1 (by simp)
  have h2 := hx x2 (by simp)
  have h3 := hx x3 (by simp)
  have hr := sumB_rng (l.take (l.length - 4))
  have hl : l = l.take (l.length - 4) ++ [x0, x1, x2, x3] := by rw [← hd, List.take_append_drop]
  have key : sealB (l.take (l.length - 4)) = l ↔ le4 (sumB (l.take (l.length - 4))) = [x0, x1, x2, x3] := by
    constructor
    · intro h
      have : sealB (l.take (l.length - 4)) = l.take (l.length - 4) ++ [x0, x1, x2, x3] := h.trans hl
      exact List.append_cancel_left this
    · intro h
      unfold sealB
      rw [h]; exact hl.symm
  rw [key, hd]
  simp only [le4, List.cons.injEq, and_true, pWord, pwF, Option.some.injEq, Prod.mk.injEq]
  omega
section
variable {G : World} {q : List HP} {a b : Option Addr} {c d p n2 n3 i0 : Nat} {l : List Int}
set_option maxHeartbeats 1000000 in
theorem Decode_ok (hs : Sees q a (By l)) (hb : Bs l) (hL : l.length ≤ 1000000) (hc : l.length ≤ c) : CallF Try.prog G 17 [.slice a l.length c] q (Ret fun v q' => decS q l v q') := by
  refine CallF.of Try.func17 Try.ntmps17 rfl (fun F cs => ?_)
  refine X.sub (p' := [(0, _)]) ⟨rfl, trivial⟩ ?_
  refine X.seq ?_
  refine X.region ?_
  refine XO.ef (Ef.alloc Try.zeroValue29) ?_
  rintro _ _ ⟨n1, rfl, rfl⟩
  refine XO.pu (Pu.assign rfl) ?_
  refine XO.nil ?_
  refine X.sub (p' := [(3, _), (2, _), (0, _)]) ⟨rfl, rfl, rfl, trivial⟩ ?_
  refine X.seq ?_
  refine X.seq ?_
  refine X.region ?_
  refine XO.pu (Pu.move rfl) ?_
  refine XO.pu (Pu.len rfl Try.underlying31) ?_
  refine XO.pu (Pu.lss rfl rfl) ?_
  refine XO.nil ?_
  refine X.sub (p' := [(11, _), (3, _), (2, _), (0, _)]) ⟨rfl, rfl, rfl, rfl, trivial⟩ ?_
  refine X.part 11 rfl (fun h0 => ?_) (fun h0 => ?_)
  · skip
    have h0 := of_decide_eq_true h0
    refine X.condT rfl ?_
    refine X.seq ?_
    refine X.region ?_
    refine XO.pu (Pu.build (cells := [_, _, _, _, _, _]) [(0, 1), (1, 1), (2, 4)] Try.zeroValue29 Try.underlying29 (by kernel_rfl) rfl rfl) ?_
    refine XO.ef0 (Ef.stA Try.sizeOf29) ?_
    rintro _ _ ⟨rfl, rfl⟩
    refine XO.pu (Pu.assign rfl) ?_
    refine XO.nil ?_
    refine X.sub (p' := [(3, _), (2, _), (0, _)]) ⟨rfl, rfl, rfl, trivial⟩ ?_
    have hd : decP l = (none, 210) := decP_1 (.inl (by omega))
    refine X.retL (rsH tcs 2 57 none 0 [] :: q) Try.func17 (resC Try.results17 (ResOk.cell rfl (LV.agg Try.isAgg29 Try.sizeOf29 hasA rfl) (ResOk.tmp rfl ResOk.nil))) ⟨_, rfl, noT, none, 0, by rw [hd]; rfl, by rw [hd]; rfl, rfl⟩ (Le.trans leA (Le.rsH_nil tcs 2 _ _))
  · skip
    have h0 := of_decide_eq_false h0; have h12 : 12 ≤ l.length := (by omega)
    have htk : (l.take (l.length - 4)).length = l.length - 4 := (by simp)
    have hdr : (l.drop (l.length - 4)).length = 4 := (by simp; omega)
    have hsb : Sees q a (By (l.take (l.length - 4))) := by rw [By, List.map_take]; exact hs.take _
    have hbb : Bs (l.take (l.length - 4)) := fun x hx => hb x (List.mem_of_mem_take hx)
    have hbd : Bs (l.drop (l.length - 4)) := fun x hx => hb x (List.mem_of_mem_drop hx)
    have hsd : Sees q (sufA a c (l.length - 4) 1) (By (l.drop (l.length - 4))) := by have := hs.suf (c := c) (sz := 1) (l := l.length - 4) (by simpa using hc); rw [By, List.map_drop]; simpa using this
    refine X.condF rfl ?_
    refine X.skip ?_
    refine X.seq ?_
    refine X.region ?_
    refine XO.pu (Pu.move rfl) ?_
    refine XO.pu (Pu.move rfl) ?_
    refine XO.pu (Pu.len rfl Try.underlying31) ?_
    refine XO.pu (Pu.sub rfl rfl (by omega) (by omega)) ?_
    refine XO.pu (Pu.sliceHi rfl rfl Try.underlying31 Try.sizeOf5 (by omega) (by omega)) ?_
    refine XO.know 17 (.slice a (l.take (l.length - 4)).length c) rfl (congrArg (fun n => Value.slice a n c) (by rw [htk]; omega)) ?_
    refine XO.pu (Pu.assign rfl) ?_
    refine XO.nil ?_
    refine X.sub (p' := [(4, _), (3, _), (2, _), (0, _)]) ⟨rfl, rfl, rfl, rfl, trivial⟩ ?_
    refine X.seq ?_
    refine X.region ?_
    refine XO.pu (Pu.move rfl) ?_
    refine XO.pu (Pu.move rfl) ?_
    refine XO.pu (Pu.len rfl Try.underlying31) ?_
    refine XO.pu (Pu.sub rfl rfl (by omega) (by omega)) ?_
    refine XO.pu (Pu.sliceLo rfl rfl Try.underlying31 Try.sizeOf5 (by omega) (by omega)) ?_
    refine XO.know 22 (.slice (sufA a c (l.length - 4) 1) (l.drop (l.length - 4)).length (c - (l.length - 4))) rfl (by rw [hdr, show ((l.length : Int) - 4).toNat = l.length - 4 by omega, show l.length - (l.length - 4) = 4 by omega]) ?_
    refine XO.pu (Pu.build (cells := [_]) [(0, 1)] Try.zeroValue67 Try.underlying67 (by kernel_rfl) rfl rfl) ?_
    refine XO.pu (Pu.build (cells := [_]) [(0, 1)] Try.zeroValue76 Try.underlying76 (by kernel_rfl) rfl rfl) ?_
    refine XO.ef (Ef.box rfl) ?_
    rintro _ _ ⟨n2, rfl, rfl⟩
    refine XO.pu (Pu.assign rfl) ?_
    refine XO.nil ?_
    refine X.sub (p' := [(5, _), (4, _), (3, _), (2, _)]) ⟨rfl, rfl, rfl, rfl, trivial⟩ ?_
    refine X.seq ?_
    refine X.seq ?_
    refine X.region ?_
    refine XO.pu (Pu.move rfl) ?_
    refine XO.cP Try.call33 fndA (rword_ok (l := l.drop (l.length - 4)) ⟨hsd.le leA, by rw [hdr]; omega, hbd⟩) ?_ ?_
    · rintro _ _ ⟨hw, _⟩
      exact absurd hw (pWord_some (by omega))
    rintro _ _ ⟨x, r, a2, c2, hW, rfl, rfl, _⟩
    refine XO.pu (Pu.move rfl) ?_
    refine XO.cR Try.call21 (Sum_ok (l := l.take (l.length - 4)) (hsb.le leA) hbb (by omega)) ?_
    refine XO.pu (Pu.neq rfl rfl) ?_
    refine XO.nil ?_
    refine X.sub (p' := [(30, _), (4, _), (3, _), (2, _)]) ⟨rfl, rfl, rfl, rfl, trivial⟩ ?_
    have hsp := seal_parts (l := l) (by omega) hb
    have hr0 : r = [] := pWord_rest hW (by omega)
    subst hr0; rw [hW] at hsp
    refine X.part 30 rfl (fun h1 => ?_) (fun h1 => ?_)
    · skip
      have h1 : ¬ x = sumB (l.take (l.length - 4)) := by simpa using h1
      refine X.condT rfl ?_
      refine X.seq ?_
      refine X.region ?_
      refine XO.pu (Pu.build (cells := [_, _, _, _, _, _]) [(0, 1), (1, 1), (2, 4)] Try.zeroValue29 Try.underlying29 (by kernel_rfl) rfl rfl) ?_
      refine XO.ef0 (Ef.stA Try.sizeOf29) ?_
      rintro _ _ ⟨rfl, rfl⟩
      refine XO.pu (Pu.assign rfl) ?_
      refine XO.nil ?_
      refine X.sub (p' := [(3, _), (4, _), (2, _)]) ⟨rfl, rfl, rfl, trivial⟩ ?_
      have hd : decP l = (none, 210) := decP_1 (.inr (by rw [ne_eq, hsp]; simpa using h1))
      refine X.retL (rsH tcs 2 57 none 0 [] :: q) Try.func17 (resC Try.results17 (ResOk.cell rfl (LV.agg Try.isAgg29 Try.sizeOf29 hasA rfl) (ResOk.tmp rfl ResOk.nil))) ⟨_, rfl, noT, none, 0, by rw [hd]; rfl, by rw [hd]; rfl, rfl⟩ (Le.trans leA (Le.rsH_nil tcs 2 _ _))
    · skip
      have h1 : x = sumB (l.take (l.length - 4)) := by simpa using h1
      have hok : ¬ (l.length < 12 ∨ sealB (l.take (l.length - 4)) ≠ l) := by rintro (x | x); omega; exact x (hsp.2 (by rw [h1]))
      refine X.condF rfl ?_
      refine X.skip ?_
      refine X.seq ?_
      refine X.region ?_
      refine XO.pu (Pu.move rfl) ?_
      refine XO.pu (Pu.build (cells := [_]) [(0, 1)] Try.zeroValue67 Try.underlying67 (by kernel_rfl) rfl rfl) ?_
      refine XO.pu (Pu.build (cells := [_]) [(0, 1)] Try.zeroValue76 Try.underlying76 (by kernel_rfl) rfl rfl) ?_
      refine XO.ef (Ef.box rfl) ?_
      rintro _ _ ⟨n3, rfl, rfl⟩
      refine XO.pu (Pu.assign rfl) ?_
      refine XO.nil ?_
      refine X.sub (p' := [(6, _), (3, _), (2, _)]) ⟨rfl, rfl, rfl, trivial⟩ ?_
      refine X.seq ?_
      refine X.region ?_
      refine XO.pu (Pu.move rfl) ?_
      refine XO.cX Try.call34 fndA (taken_ok (l := l.take (l.length - 4)) ⟨hsb.le leA, by rw [htk]; omega, hbb⟩) ?_
      rintro _ _ hT
      rcases hT with ⟨t, a3, c3, hT, rfl, rfl⟩ | ⟨hT, rfl, rfl⟩
      · skip
        refine XO.pu (Pu.move rfl) ?_
        refine XO.pu (Pu.extract rfl rfl) ?_
        refine XO.pu (Pu.extract rfl rfl) ?_
        refine XO.ef (Ef.alloc Try.zeroValue29) ?_
        rintro _ _ ⟨n4, rfl, rfl⟩
        refine XO.ef0 (Ef.stA Try.sizeOf29) ?_
        rintro _ _ ⟨rfl, rfl⟩
        refine XO.pu (Pu.assign rfl) ?_
        refine XO.nil ?_
        refine X.sub (p' := [(8, _), (7, _), (3, _), (2, _)]) ⟨rfl, rfl, rfl, rfl, trivial⟩ ?_
        refine X.seq ?_
        refine X.seq ?_
        refine X.region ?_
        refine XO.pu (Pu.move rfl) ?_
        refine XO.pu (Pu.not rfl) ?_
        refine XO.nil ?_
        refine X.sub (p' := [(42, _), (7, _), (3, _), (2, _)]) ⟨rfl, rfl, rfl, rfl, trivial⟩ ?_
        refine X.know 42 (.bool false) rfl (congrArg Value.bool (rfl)) ?_
        refine X.condF rfl ?_
        refine X.skip ?_
        refine X.seq ?_
        refine X.region ?_
        refine XO.ldA Try.isAgg29 Try.sizeOf29 ?_
        refine XO.ef0 (Ef.stA Try.sizeOf29) ?_
        rintro _ _ ⟨rfl, rfl⟩
        refine XO.pu (Pu.assign rfl) ?_
        refine XO.nil ?_
        refine X.sub (p' := [(3, _), (2, _)]) ⟨rfl, rfl, trivial⟩ ?_
        have hd := decP_3 hok hT
        refine X.retL (rsH tcs 2 57 a3 c3 t.turns :: q) Try.func17 (resC Try.results17 (ResOk.cell rfl (LV.agg Try.isAgg29 Try.sizeOf29 hasA rfl) (ResOk.tmp rfl ResOk.nil))) ⟨_, rfl, t, a3, c3, by rw [hd]; rfl, by rw [hd]; rfl, rfl⟩
      · skip
        refine XO.pu (Pu.move rfl) ?_
        refine XO.pu (Pu.extract rfl rfl) ?_
        refine XO.pu (Pu.extract rfl rfl) ?_
        refine XO.ef (Ef.alloc Try.zeroValue29) ?_
        rintro _ _ ⟨n5, rfl, rfl⟩
        refine XO.ef0 (Ef.stA Try.sizeOf29) ?_
        rintro _ _ ⟨rfl, rfl⟩
        refine XO.pu (Pu.assign rfl) ?_
        refine XO.nil ?_
        refine X.sub (p' := [(8, _), (7, _), (3, _), (2, _)]) ⟨rfl, rfl, rfl, rfl, trivial⟩ ?_
        refine X.seq ?_
        refine X.seq ?_
        refine X.region ?_
        refine XO.pu (Pu.move rfl) ?_
        refine XO.pu (Pu.not rfl) ?_
        refine XO.nil ?_
        refine X.sub (p' := [(42, _), (7, _), (3, _), (2, _)]) ⟨rfl, rfl, rfl, rfl, trivial⟩ ?_
        refine X.know 42 (.bool true) rfl (congrArg Value.bool (rfl)) ?_
        refine X.condT rfl ?_
        refine X.seq ?_
        refine X.region ?_
        refine XO.pu (Pu.build (cells := [_, _, _, _, _, _]) [(0, 1), (1, 1), (2, 4)] Try.zeroValue29 Try.underlying29 (by kernel_rfl) rfl rfl) ?_
        refine XO.ef0 (Ef.stA Try.sizeOf29) ?_
        rintro _ _ ⟨rfl, rfl⟩
        refine XO.pu (Pu.assign rfl) ?_
        refine XO.nil ?_
        refine X.sub (p' := [(3, _), (7, _), (2, _)]) ⟨rfl, rfl, rfl, trivial⟩ ?_
        have hd : decP l = (none, 211) := decP_2 hok hT
        refine X.retL (rsH tcs 2 57 none 0 [] :: q) Try.func17 (resC Try.results17 (ResOk.cell rfl (LV.agg Try.isAgg29 Try.sizeOf29 hasA rfl) (ResOk.tmp rfl ResOk.nil))) ⟨_, rfl, noT, none, 0, by rw [hd]; rfl, by rw [hd]; rfl, rfl⟩ (Le.trans leA (Le.rsH_nil tcs 2 _ _))
end
end Go.Proofs.Ytiehcgmbkjdagaa

