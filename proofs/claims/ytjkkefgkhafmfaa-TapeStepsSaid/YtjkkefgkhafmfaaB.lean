/- What functions of package tape, of its references and of its laws do: contracts of calls, proved by walking their code. -/
import Derived.Test.YtjkkefgkhafmfaaA
import Derived.KernelRfl
set_option maxRecDepth 100000
set_option linter.unusedVariables false
set_option linter.unusedSimpArgs false
namespace Go.Proofs.Ytjkkefgkhafmfaa
open Go Go.RowKit Wx

section
variable {G : World} {q : List HP} {t u : Tkn} {a b : Option Addr} {c d : Nat} {l m : List Turn} {n : Nat}
theorem SameTurns_ok (hs : Sees q a (l.flatMap tcs)) (ht : Sees q b (m.flatMap tcs)) (hL : l.length ≤ 1000000000) : CallF Try.prog G 28 [.slice a l.length c, .slice b m.length d] q (Ret fun v q' => v = .bool (decide (l = m)) ∧ q' = q) := by
  refine CallF.of Try.func28 Try.ntmps28 rfl (fun F cs => ?_)
  have hlen := flatMap_len (f := tcs) (sz := 2) (fun _ => rfl) l; have hlen2 := flatMap_len (f := tcs) (sz := 2) (fun _ => rfl) m
  refine xx 13 ?_
  refine X.part 10 rfl (fun h1 => ?_) (fun h1 => ?_)
  · skip
    replace h1 := sp h1
    refine xx 5 ?_
    refine X.retL (q) Try.func28 (res1 Try.results28 rfl) ⟨_, rfl, congrArg Value.bool (by symm; simp only [decide_eq_false_iff_not]; rintro rfl; simp at h1), rfl⟩
  · skip
    replace h1 := sp h1
    refine xx 8 ?_
    have he : l.length = m.length := by omega
    refine X.at (X.loop (fun (s : Nat) => s ≤ l.length ∧ l.take s = m.take s) (fun s => [(0, .slice a l.length c), (1, .slice b m.length d), (5, .int .i64 (s : Int))]) (fun s => q ++ F) (fun s => l.length - s) (fun s hi_ ih => ?_) 0 ⟨by omega, by simp⟩) subA leA
    try dsimp only at hi_ ih ⊢
    obtain ⟨hi1, hi2⟩ := hi_
    refine xx 8 ?_
    refine X.part 14 rfl (fun h0 => ?_) (fun h0 => ?_)
    · skip
      try simp only [decide_eq_true_eq, decide_eq_false_iff_not, bne_iff_ne, beq_iff_eq, ne_eq, bne_eq_false_iff_eq, beq_eq_false_iff_ne, Bool.not_eq_true', Bool.not_eq_false', Int.not_lt, Int.not_le, Bool.not_not, Bool.and_eq_true, Bool.and_eq_false_iff, Bool.true_and, Bool.and_true, beq_self_eq_true, Bool.or_eq_true, Bool.or_eq_false_iff] at h0
      have hi0 : s < l.length := by omega
      have hi9 : s < m.length := by omega
      refine X.adr hs (by rw [hlen]; omega) (fun b1 o1 e_ => ?_); subst e_
      refine X.adr ht (by rw [hlen2]; omega) (fun b2 o2 e_ => ?_); subst e_
      refine xx 5 ?_
      refine X.draw [] Try.mixed (by kernel_rfl) (by kernel_rfl) rfl ?_
      refine dd [0, 1, 2] ?_
      refine XD.ldS 3 (m := s) Try.isAgg45 Try.sizeOf45 hs hi0 ?_
      refine dd [4, 5, 6] ?_
      refine XD.ldS 7 (m := s) Try.isAgg45 Try.sizeOf45 ht hi9 ?_
      refine XD.pu 8 rfl (Pu.neqA rfl rfl (by kernel_rfl) (EqV.struct Try.underlying45 (by kernel_rfl) (by kernel_rfl) ⟨_, _, _, _, rfl, rfl, Try.isAgg3, (EqV.int Try.underlying3 _ _), ⟨_, _, _, _, rfl, rfl, Try.isAgg3, (EqV.int Try.underlying3 _ _), rfl, rfl⟩, rfl⟩)) ?_
      refine XD.nil ?_
      refine X.part 25 rfl (fun h2 => ?_) (fun h2 => ?_)
      · skip
        have hx : ¬ l[s] = m[s] := by intro e; rw [e] at h2; simp at h2
        refine xx 5 ?_
        refine X.retL (q) Try.func28 (res1 Try.results28 rfl) ⟨_, rfl, congrArg Value.bool (by symm; simp only [decide_eq_false_iff_not]; intro e; apply hx; simp only [e]), rfl⟩
      · skip
        have hx : l[s] = m[s] := by simp at h2; exact Prod.ext h2.1 h2.2
        refine xx 8 ?_
        refine X.sb [5, 0, 1] ?_
        refine X.at (ih (s + 1) ⟨by omega, by rw [List.take_succ_eq_append_getElem hi0, List.take_succ_eq_append_getElem hi9, hi2, hx]⟩ (by omega)) subA leA
    · skip
      try simp only [decide_eq_true_eq, decide_eq_false_iff_not, bne_iff_ne, beq_iff_eq, ne_eq, bne_eq_false_iff_eq, beq_eq_false_iff_ne, Bool.not_eq_true', Bool.not_eq_false', Int.not_lt, Int.not_le, Bool.not_not, Bool.and_eq_true, Bool.and_eq_false_iff, Bool.true_and, Bool.and_true, beq_self_eq_true, Bool.or_eq_true, Bool.or_eq_false_iff] at h0
      refine xx 6 ?_
      refine X.retL (q) Try.func28 (res1 Try.results28 rfl) ⟨_, rfl, congrArg Value.bool (by symm; simp only [decide_eq_true_eq]; rw [List.take_of_length_le (by omega), List.take_of_length_le (by omega)] at hi2; exact hi2), rfl⟩
theorem RSame_ok (hs : Sees q a (t.turns.flatMap tcs)) (ht : Sees q b (u.turns.flatMap tcs)) (hL : t.turns.length ≤ 1000000000) : CallF Try.prog G 9 [t.v a c, u.v b d] q (Ret fun v q' => v = .bool (decide (t.hash = u.hash ∧ t.turns = u.turns ∧ t.e = u.e)) ∧ q' = q) := by
  refine CallF.of Try.func9 Try.ntmps9 rfl (fun F cs => ?_)
  unfold Tkn.v Tkn.cs
  refine xo 2 ?_
  refine XO.ef (Ef.box rfl) ?_
  rintro _ _ ⟨n1, rfl, rfl⟩
  refine XO.ef (Ef.box rfl) ?_
  rintro _ _ ⟨n2, rfl, rfl⟩
  refine oo 5 ?_
  refine XO.ld Try.isAgg25 ?_
  refine oo 1 ?_
  refine XO.ld Try.isAgg25 ?_
  refine oo 2 ?_
  refine XO.sb [10, 4, 3, 2] ?_
  apply XO.cutAnd 6 16 10 rfl
  · skip
    intro g1 M1; have h1 := sp g1
    refine oo 1 ?_
    refine XO.ld Try.isAgg26 ?_
    refine oo 1 ?_
    refine XO.ld Try.isAgg26 ?_
    refine XO.cR Try.call28 (SameTurns_ok (hs.le leA) (ht.le leA) hL) ?_
    refine oo 1 ?_
    exact XO.fin M1 ⟨andT g1, subB⟩
  · skip
    intro g1 M1; have h1 := sp g1
    refine oo 6 ?_
    exact XO.fin M1 ⟨andF g1, subB⟩
  · skip
    refine oo 1 ?_
    refine XO.sb [17, 4, 3, 2] ?_
    apply XO.cutAnd 6 23 17 rfl
    · skip
      intro g1 M1; have h1 := sp g1
      refine oo 1 ?_
      refine XO.ldA Try.isAgg30 Try.sizeOf30 ?_
      refine oo 1 ?_
      refine XO.ldA Try.isAgg30 Try.sizeOf30 ?_
      refine XO.pu (Pu.eqlA rfl rfl (by kernel_rfl) (EqV.struct Try.underlying30 (by kernel_rfl) (by kernel_rfl) ⟨_, _, _, _, rfl, rfl, Try.isAgg27, (EqV.int Try.underlying27 _ _), ⟨_, _, _, _, rfl, rfl, Try.isAgg28, (EqV.int Try.underlying28 _ _), ⟨_, _, _, _, rfl, rfl, Try.isAgg3, (EqV.int Try.underlying3 _ _), ⟨_, _, _, _, rfl, rfl, Try.isAgg3, (EqV.int Try.underlying3 _ _), rfl, rfl⟩, rfl⟩, rfl⟩, rfl⟩)) ?_
      refine oo 1 ?_
      exact XO.fin M1 ⟨andT g1, subB⟩
    · skip
      intro g1 M1; have h1 := sp g1
      refine oo 6 ?_
      exact XO.fin M1 ⟨andF g1, subB⟩
    · skip
      refine ox 2 ?_
      refine X.retL (q) Try.func9 (res1 Try.results9 rfl) ⟨_, rfl, congrArg Value.bool (by rw [Bool.eq_iff_iff]; simp only [Bool.and_eq_true, decide_eq_true_eq, beq_iff_eq, Prod.ext_iff, Bool.and_true]; constructor <;> (intro h; simp_all)), rfl⟩
theorem Clone_ok (hs : Sees q a (l.flatMap tcs)) (hL : l.length ≤ 1000000000) : CallF Try.prog G 35 [.slice a l.length c] q (Ret fun v q' => ∃ a' c', v = .slice a' l.length c' ∧ q' = rsH tcs 2 45 a' c' l :: q) := by
  refine CallF.of Try.func35 Try.ntmps35 rfl (fun F cs => ?_)
  have hlen := flatMap_len (f := tcs) (sz := 2) (fun _ => rfl) l
  rcases Nat.eq_zero_or_pos l.length with hl0 | hl0
  · skip
    obtain rfl := List.eq_nil_of_length_eq_zero hl0
    refine xx 10 ?_
    refine X.part 4 rfl (fun h1 => ?_) (fun h1 => ?_)
    · skip
      refine xx 5 ?_
      refine X.retL (rsH tcs 2 45 none 0 [] :: q) Try.func35 (res1 Try.results35 rfl) ⟨_, rfl, none, 0, rfl, rfl⟩ ((leA).trans (Le.rsH_nil _ _ _ _))
    · skip
      refine xo 4 ?_
      refine XO.ef (Ef.litR0 tcs Try.underlying26 Try.info45) ?_
      rintro _ _ ⟨g, rfl, rfl⟩
      refine oo 1 ?_
      refine XO.ef (Ef.appRA (l := []) (m := []) Try.underlying26 Try.info45 rfl rfl (fun _ => rfl) rfl rfl fndA (hs.le leA) (fun _ => rfl) (by simp; try omega) (by simp; try omega)) ?_
      rintro _ _ ⟨a2, c2, rfl, rfl⟩
      refine ox 2 ?_
      refine X.retL (rsH tcs 2 45 a2 c2 [] :: q) Try.func35 (res1 Try.results35 rfl) ⟨_, rfl, a2, c2, by simp, rfl⟩
  · skip
    refine X.adr hs (by rw [hlen]; omega) (fun b1 o1 e_ => ?_); subst e_
    refine xx 10 ?_
    refine X.know 4 (.bool false) rfl knw ?_
    refine xo 4 ?_
    refine XO.ef (Ef.litR0 tcs Try.underlying26 Try.info45) ?_
    rintro _ _ ⟨g, rfl, rfl⟩
    refine oo 1 ?_
    refine XO.ef (Ef.appRA (l := []) (m := l) Try.underlying26 Try.info45 rfl rfl (fun _ => rfl) rfl rfl fndA (hs.le leA) (fun _ => rfl) (by simp; try omega) (by simp; try omega)) ?_
    rintro _ _ ⟨a2, c2, rfl, rfl⟩
    refine ox 2 ?_
    refine X.retL (rsH tcs 2 45 a2 c2 l :: q) Try.func35 (res1 Try.results35 rfl) ⟨_, rfl, a2, c2, by simp, rfl⟩
end
end Go.Proofs.Ytjkkefgkhafmfaa

