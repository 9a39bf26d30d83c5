/- What functions of package sync, of its references and of its laws do: contracts of calls, proved by walking their code. -/
import Derived.Test.YtlgnnhpbomfdiaaA
import Derived.KernelRfl
set_option maxRecDepth 100000
set_option linter.unusedVariables false
set_option linter.unusedSimpArgs false
namespace Go.Proofs.Ytlgnnhpbomfdiaa
open Go Go.RowKit Wx

section
variable {G : World} {q : List HP} {a b : Option Addr} {c d : Nat} {l m : List Int}
theorem Clone_ok {l : List Int} (hs : Sees q a (l.map I64)) (hL : l.length ≤ 1000000000) : CallF Try.prog G 56 [.slice a l.length c] q (Ret fun v q' => ∃ a' c', v = .slice a' l.length c' ∧ q' = lsH I64 3 a' c' l :: q) := by
  refine CallF.of Try.func56 Try.ntmps56 rfl (fun F cs => ?_)
  refine X.sub (p' := [(0, _)]) ⟨rfl, trivial⟩ ?_
  rcases Nat.eq_zero_or_pos l.length with hl0 | hl0
  · skip
    obtain rfl := List.eq_nil_of_length_eq_zero hl0
    refine X.seq ?_
    refine X.region ?_
    refine XO.pu (Pu.assign rfl) ?_
    refine XO.nil ?_
    refine X.sub (p' := [(2, _), (0, _)]) ⟨rfl, rfl, trivial⟩ ?_
    refine X.seq ?_
    refine X.seq ?_
    refine X.region ?_
    refine XO.pu (Pu.move rfl) ?_
    refine XO.pu (Pu.eqlSNil rfl Try.underlying29) ?_
    refine XO.nil ?_
    refine X.sub (p' := [(4, _), (2, _), (0, _)]) ⟨rfl, rfl, rfl, trivial⟩ ?_
    refine X.part 4 rfl (fun h1 => ?_) (fun h1 => ?_)
    · skip
      refine X.condT rfl ?_
      refine X.seq ?_
      refine X.region ?_
      refine XO.pu (Pu.assign rfl) ?_
      refine XO.nil ?_
      refine X.sub (p' := [(2, _), (0, _)]) ⟨rfl, rfl, trivial⟩ ?_
      refine X.retL (lsH I64 3 none 0 [] :: q) Try.func56 (res1 Try.results56 rfl) ⟨_, rfl, none, 0, rfl, rfl⟩ ((leA).trans (Le.lsH_nil _ _ _))
    · skip
      refine X.condF rfl ?_
      refine X.skip ?_
      refine X.seq ?_
      refine X.region ?_
      refine XO.ef (Ef.lit0 I64 Try.underlying29 Try.info3) ?_
      rintro _ _ ⟨g, rfl, rfl⟩
      refine XO.pu (Pu.move rfl) ?_
      refine XO.ef (Ef.appA (f := I64) (l := []) (m := []) Try.underlying29 Try.info3 rfl rfl rfl fndA (hs.le leA) (fun _ => rfl) (by simp; try omega) (by simp; try omega)) ?_
      rintro _ _ ⟨a2, c2, rfl, rfl⟩
      refine XO.pu (Pu.assign rfl) ?_
      refine XO.nil ?_
      refine X.sub (p' := [(2, _)]) ⟨rfl, trivial⟩ ?_
      refine X.retL (lsH I64 3 a2 c2 [] :: q) Try.func56 (res1 Try.results56 rfl) ⟨_, rfl, a2, c2, by simp, rfl⟩
  · skip
    refine X.adr hs (by simp; omega) (fun b1 o1 e_ => ?_); subst e_
    refine X.seq ?_
    refine X.region ?_
    refine XO.pu (Pu.assign rfl) ?_
    refine XO.nil ?_
    refine X.sub (p' := [(2, _), (0, _)]) ⟨rfl, rfl, trivial⟩ ?_
    refine X.seq ?_
    refine X.seq ?_
    refine X.region ?_
    refine XO.pu (Pu.move rfl) ?_
    refine XO.pu (Pu.eqlSNil rfl Try.underlying29) ?_
    refine XO.nil ?_
    refine X.sub (p' := [(4, _), (2, _), (0, _)]) ⟨rfl, rfl, rfl, trivial⟩ ?_
    refine X.know 4 (.bool false) rfl (congrArg Value.bool (rfl)) ?_
    refine X.condF rfl ?_
    refine X.skip ?_
    refine X.seq ?_
    refine X.region ?_
    refine XO.ef (Ef.lit0 I64 Try.underlying29 Try.info3) ?_
    rintro _ _ ⟨g, rfl, rfl⟩
    refine XO.pu (Pu.move rfl) ?_
    refine XO.ef (Ef.appA (f := I64) (l := []) (m := l) Try.underlying29 Try.info3 rfl rfl rfl fndA (hs.le leA) (fun _ => rfl) (by simp; try omega) (by simp; try omega)) ?_
    rintro _ _ ⟨a2, c2, rfl, rfl⟩
    refine XO.pu (Pu.assign rfl) ?_
    refine XO.nil ?_
    refine X.sub (p' := [(2, _)]) ⟨rfl, trivial⟩ ?_
    refine X.retL (lsH I64 3 a2 c2 l :: q) Try.func56 (res1 Try.results56 rfl) ⟨_, rfl, a2, c2, by simp, rfl⟩
theorem Clone64_ok {l : List Int} (hs : Sees q a (l.map I64)) (hL : l.length ≤ 1000000000) : CallF Try.prog G 68 [.slice a l.length c] q (Ret fun v q' => ∃ a' c', v = .slice a' l.length c' ∧ q' = lsH I64 2 a' c' l :: q) := by
  refine CallF.of Try.func68 Try.ntmps68 rfl (fun F cs => ?_)
  refine X.sub (p' := [(0, _)]) ⟨rfl, trivial⟩ ?_
  rcases Nat.eq_zero_or_pos l.length with hl0 | hl0
  · skip
    obtain rfl := List.eq_nil_of_length_eq_zero hl0
    refine X.seq ?_
    refine X.region ?_
    refine XO.pu (Pu.assign rfl) ?_
    refine XO.nil ?_
    refine X.sub (p' := [(2, _), (0, _)]) ⟨rfl, rfl, trivial⟩ ?_
    refine X.seq ?_
    refine X.seq ?_
    refine X.region ?_
    refine XO.pu (Pu.move rfl) ?_
    refine XO.pu (Pu.eqlSNil rfl Try.underlying28) ?_
    refine XO.nil ?_
    refine X.sub (p' := [(4, _), (2, _), (0, _)]) ⟨rfl, rfl, rfl, trivial⟩ ?_
    refine X.part 4 rfl (fun h1 => ?_) (fun h1 => ?_)
    · skip
      refine X.condT rfl ?_
      refine X.seq ?_
      refine X.region ?_
      refine XO.pu (Pu.assign rfl) ?_
      refine XO.nil ?_
      refine X.sub (p' := [(2, _), (0, _)]) ⟨rfl, rfl, trivial⟩ ?_
      refine X.retL (lsH I64 2 none 0 [] :: q) Try.func68 (res1 Try.results68 rfl) ⟨_, rfl, none, 0, rfl, rfl⟩ ((leA).trans (Le.lsH_nil _ _ _))
    · skip
      refine X.condF rfl ?_
      refine X.skip ?_
      refine X.seq ?_
      refine X.region ?_
      refine XO.ef (Ef.lit0 I64 Try.underlying28 Try.info2) ?_
      rintro _ _ ⟨g, rfl, rfl⟩
      refine XO.pu (Pu.move rfl) ?_
      refine XO.ef (Ef.appA (f := I64) (l := []) (m := []) Try.underlying28 Try.info2 rfl rfl rfl fndA (hs.le leA) (fun _ => rfl) (by simp; try omega) (by simp; try omega)) ?_
      rintro _ _ ⟨a2, c2, rfl, rfl⟩
      refine XO.pu (Pu.assign rfl) ?_
      refine XO.nil ?_
      refine X.sub (p' := [(2, _)]) ⟨rfl, trivial⟩ ?_
      refine X.retL (lsH I64 2 a2 c2 [] :: q) Try.func68 (res1 Try.results68 rfl) ⟨_, rfl, a2, c2, by simp, rfl⟩
  · skip
    refine X.adr hs (by simp; omega) (fun b1 o1 e_ => ?_); subst e_
    refine X.seq ?_
    refine X.region ?_
    refine XO.pu (Pu.assign rfl) ?_
    refine XO.nil ?_
    refine X.sub (p' := [(2, _), (0, _)]) ⟨rfl, rfl, trivial⟩ ?_
    refine X.seq ?_
    refine X.seq ?_
    refine X.region ?_
    refine XO.pu (Pu.move rfl) ?_
    refine XO.pu (Pu.eqlSNil rfl Try.underlying28) ?_
    refine XO.nil ?_
    refine X.sub (p' := [(4, _), (2, _), (0, _)]) ⟨rfl, rfl, rfl, trivial⟩ ?_
    refine X.know 4 (.bool false) rfl (congrArg Value.bool (rfl)) ?_
    refine X.condF rfl ?_
    refine X.skip ?_
    refine X.seq ?_
    refine X.region ?_
    refine XO.ef (Ef.lit0 I64 Try.underlying28 Try.info2) ?_
    rintro _ _ ⟨g, rfl, rfl⟩
    refine XO.pu (Pu.move rfl) ?_
    refine XO.ef (Ef.appA (f := I64) (l := []) (m := l) Try.underlying28 Try.info2 rfl rfl rfl fndA (hs.le leA) (fun _ => rfl) (by simp; try omega) (by simp; try omega)) ?_
    rintro _ _ ⟨a2, c2, rfl, rfl⟩
    refine XO.pu (Pu.assign rfl) ?_
    refine XO.nil ?_
    refine X.sub (p' := [(2, _)]) ⟨rfl, trivial⟩ ?_
    refine X.retL (lsH I64 2 a2 c2 l :: q) Try.func68 (res1 Try.results68 rfl) ⟨_, rfl, a2, c2, by simp, rfl⟩
theorem CloneC_ok {l : List (SlV Int)} (hs : Sees q a (l.flatMap cqs)) (hL : l.length ≤ 1000000000) : CallF Try.prog G 57 [.slice a l.length c] q (Ret fun v q' => ∃ a' c', v = .slice a' l.length c' ∧ q' = rsH cqs 1 89 a' c' l :: q) := by
  refine CallF.of Try.func57 Try.ntmps57 rfl (fun F cs => ?_)
  refine X.sub (p' := [(0, _)]) ⟨rfl, trivial⟩ ?_
  rcases Nat.eq_zero_or_pos l.length with hl0 | hl0
  · skip
    obtain rfl := List.eq_nil_of_length_eq_zero hl0
    refine X.seq ?_
    refine X.region ?_
    refine XO.pu (Pu.assign rfl) ?_
    refine XO.nil ?_
    refine X.sub (p' := [(2, _), (0, _)]) ⟨rfl, rfl, trivial⟩ ?_
    refine X.seq ?_
    refine X.seq ?_
    refine X.region ?_
    refine XO.pu (Pu.move rfl) ?_
    refine XO.pu (Pu.eqlSNil rfl Try.underlying71) ?_
    refine XO.nil ?_
    refine X.sub (p' := [(4, _), (2, _), (0, _)]) ⟨rfl, rfl, rfl, trivial⟩ ?_
    refine X.part 4 rfl (fun h1 => ?_) (fun h1 => ?_)
    · skip
      refine X.condT rfl ?_
      refine X.seq ?_
      refine X.region ?_
      refine XO.pu (Pu.assign rfl) ?_
      refine XO.nil ?_
      refine X.sub (p' := [(2, _), (0, _)]) ⟨rfl, rfl, trivial⟩ ?_
      refine X.retL (rsH cqs 1 89 none 0 [] :: q) Try.func57 (res1 Try.results57 rfl) ⟨_, rfl, none, 0, rfl, rfl⟩ ((leA).trans (Le.rsH_nil _ _ _ _))
    · skip
      refine X.condF rfl ?_
      refine X.skip ?_
      refine X.seq ?_
      refine X.region ?_
      refine XO.ef (Ef.litR0 cqs Try.underlying71 Try.info89) ?_
      rintro _ _ ⟨g, rfl, rfl⟩
      refine XO.pu (Pu.move rfl) ?_
      refine XO.ef (Ef.appRA (l := []) (m := []) Try.underlying71 Try.info89 rfl rfl (fun _ => rfl) rfl rfl fndA (hs.le leA) (fun _ => rfl) (by simp; try omega) (by simp; try omega)) ?_
      rintro _ _ ⟨a2, c2, rfl, rfl⟩
      refine XO.pu (Pu.assign rfl) ?_
      refine XO.nil ?_
      refine X.sub (p' := [(2, _)]) ⟨rfl, trivial⟩ ?_
      refine X.retL (rsH cqs 1 89 a2 c2 [] :: q) Try.func57 (res1 Try.results57 rfl) ⟨_, rfl, a2, c2, by simp, rfl⟩
  · skip
    have hlen := flatMap_len (f := cqs) (sz := 1) (fun _ => rfl) l
    refine X.adr hs (by rw [hlen]; omega) (fun b1 o1 e_ => ?_); subst e_
    refine X.seq ?_
    refine X.region ?_
    refine XO.pu (Pu.assign rfl) ?_
    refine XO.nil ?_
    refine X.sub (p' := [(2, _), (0, _)]) ⟨rfl, rfl, trivial⟩ ?_
    refine X.seq ?_
    refine X.seq ?_
    refine X.region ?_
    refine XO.pu (Pu.move rfl) ?_
    refine XO.pu (Pu.eqlSNil rfl Try.underlying71) ?_
    refine XO.nil ?_
    refine X.sub (p' := [(4, _), (2, _), (0, _)]) ⟨rfl, rfl, rfl, trivial⟩ ?_
    refine X.know 4 (.bool false) rfl (congrArg Value.bool (rfl)) ?_
    refine X.condF rfl ?_
    refine X.skip ?_
    refine X.seq ?_
    refine X.region ?_
    refine XO.ef (Ef.litR0 cqs Try.underlying71 Try.info89) ?_
    rintro _ _ ⟨g, rfl, rfl⟩
    refine XO.pu (Pu.move rfl) ?_
    refine XO.ef (Ef.appRA (l := []) (m := l) Try.underlying71 Try.info89 rfl rfl (fun _ => rfl) rfl rfl fndA (hs.le leA) (fun _ => rfl) (by simp; try omega) (by simp; try omega)) ?_
    rintro _ _ ⟨a2, c2, rfl, rfl⟩
    refine XO.pu (Pu.assign rfl) ?_
    refine XO.nil ?_
    refine X.sub (p' := [(2, _)]) ⟨rfl, trivial⟩ ?_
    refine X.retL (rsH cqs 1 89 a2 c2 l :: q) Try.func57 (res1 Try.results57 rfl) ⟨_, rfl, a2, c2, by simp, rfl⟩
theorem CloneH_ok {l : List ChC} (hs : Sees q a (l.flatMap chs)) (hL : l.length ≤ 1000000000) : CallF Try.prog G 58 [.slice a l.length c] q (Ret fun v q' => ∃ a' c', v = .slice a' l.length c' ∧ q' = rsH chs 3 78 a' c' l :: q) := by
  refine CallF.of Try.func58 Try.ntmps58 rfl (fun F cs => ?_)
  refine X.sub (p' := [(0, _)]) ⟨rfl, trivial⟩ ?_
  rcases Nat.eq_zero_or_pos l.length with hl0 | hl0
  · skip
    obtain rfl := List.eq_nil_of_length_eq_zero hl0
    refine X.seq ?_
    refine X.region ?_
    refine XO.pu (Pu.assign rfl) ?_
    refine XO.nil ?_
    refine X.sub (p' := [(2, _), (0, _)]) ⟨rfl, rfl, trivial⟩ ?_
    refine X.seq ?_
    refine X.seq ?_
    refine X.region ?_
    refine XO.pu (Pu.move rfl) ?_
    refine XO.pu (Pu.eqlSNil rfl Try.underlying72) ?_
    refine XO.nil ?_
    refine X.sub (p' := [(4, _), (2, _), (0, _)]) ⟨rfl, rfl, rfl, trivial⟩ ?_
    refine X.part 4 rfl (fun h1 => ?_) (fun h1 => ?_)
    · skip
      refine X.condT rfl ?_
      refine X.seq ?_
      refine X.region ?_
      refine XO.pu (Pu.assign rfl) ?_
      refine XO.nil ?_
      refine X.sub (p' := [(2, _), (0, _)]) ⟨rfl, rfl, trivial⟩ ?_
      refine X.retL (rsH chs 3 78 none 0 [] :: q) Try.func58 (res1 Try.results58 rfl) ⟨_, rfl, none, 0, rfl, rfl⟩ ((leA).trans (Le.rsH_nil _ _ _ _))
    · skip
      refine X.condF rfl ?_
      refine X.skip ?_
      refine X.seq ?_
      refine X.region ?_
      refine XO.ef (Ef.litR0 chs Try.underlying72 Try.info78) ?_
      rintro _ _ ⟨g, rfl, rfl⟩
      refine XO.pu (Pu.move rfl) ?_
      refine XO.ef (Ef.appRA (l := []) (m := []) Try.underlying72 Try.info78 rfl rfl (fun _ => rfl) rfl rfl fndA (hs.le leA) (fun _ => rfl) (by simp; try omega) (by simp; try omega)) ?_
      rintro _ _ ⟨a2, c2, rfl, rfl⟩
      refine XO.pu (Pu.assign rfl) ?_
      refine XO.nil ?_
      refine X.sub (p' := [(2, _)]) ⟨rfl, trivial⟩ ?_
      refine X.retL (rsH chs 3 78 a2 c2 [] :: q) Try.func58 (res1 Try.results58 rfl) ⟨_, rfl, a2, c2, by simp, rfl⟩
  · skip
    have hlen := flatMap_len (f := chs) (sz := 3) (fun _ => rfl) l
    refine X.adr hs (by rw [hlen]; omega) (fun b1 o1 e_ => ?_); subst e_
    refine X.seq ?_
    refine X.region ?_
    refine XO.pu (Pu.assign rfl) ?_
    refine XO.nil ?_
    refine X.sub (p' := [(2, _), (0, _)]) ⟨rfl, rfl, trivial⟩ ?_
    refine X.seq ?_
    refine X.seq ?_
    refine X.region ?_
    refine XO.pu (Pu.move rfl) ?_
    refine XO.pu (Pu.eqlSNil rfl Try.underlying72) ?_
    refine XO.nil ?_
    refine X.sub (p' := [(4, _), (2, _), (0, _)]) ⟨rfl, rfl, rfl, trivial⟩ ?_
    refine X.know 4 (.bool false) rfl (congrArg Value.bool (rfl)) ?_
    refine X.condF rfl ?_
    refine X.skip ?_
    refine X.seq ?_
    refine X.region ?_
    refine XO.ef (Ef.litR0 chs Try.underlying72 Try.info78) ?_
    rintro _ _ ⟨g, rfl, rfl⟩
    refine XO.pu (Pu.move rfl) ?_
    refine XO.ef (Ef.appRA (l := []) (m := l) Try.underlying72 Try.info78 rfl rfl (fun _ => rfl) rfl rfl fndA (hs.le leA) (fun _ => rfl) (by simp; try omega) (by simp; try omega)) ?_
    rintro _ _ ⟨a2, c2, rfl, rfl⟩
    refine XO.pu (Pu.assign rfl) ?_
    refine XO.nil ?_
    refine X.sub (p' := [(2, _)]) ⟨rfl, trivial⟩ ?_
    refine X.retL (rsH chs 3 78 a2 c2 l :: q) Try.func58 (res1 Try.results58 rfl) ⟨_, rfl, a2, c2, by simp, rfl⟩
theorem Equal_ok (hs : Sees q a (l.map I64)) (ht : Sees q b (m.map I64)) (hL : l.length ≤ 1000000000) : CallF Try.prog G 59 [.slice a l.length c, .slice b m.length d] q (Ret fun v q' => v = .bool (decide (l = m)) ∧ q' = q) := by
  refine CallF.of Try.func59 Try.ntmps59 rfl (fun F cs => ?_)
  refine X.sub (p' := [(0, _), (1, _)]) ⟨rfl, rfl, trivial⟩ ?_
  refine X.seq ?_
  refine X.region ?_
  refine XO.pu (Pu.assign rfl) ?_
  refine XO.nil ?_
  refine X.sub (p' := [(4, _), (0, _), (1, _)]) ⟨rfl, rfl, rfl, trivial⟩ ?_
  refine X.seq ?_
  refine X.seq ?_
  refine X.region ?_
  refine XO.pu (Pu.move rfl) ?_
  refine XO.pu (Pu.len rfl Try.underlying29) ?_
  refine XO.pu (Pu.move rfl) ?_
  refine XO.pu (Pu.len rfl Try.underlying29) ?_
  refine XO.pu (Pu.neq rfl rfl) ?_
  refine XO.nil ?_
  refine X.sub (p' := [(10, _), (4, _), (0, _), (1, _)]) ⟨rfl, rfl, rfl, rfl, trivial⟩ ?_
  refine X.part 10 rfl (fun h1 => ?_) (fun h1 => ?_)
  · skip
    try simp only [decide_eq_true_eq, decide_eq_false_iff_not, bne_iff_ne, beq_iff_eq, ne_eq, bne_eq_false_iff_eq, beq_eq_false_iff_ne, Bool.not_eq_true', Bool.not_eq_false', Int.not_lt, Int.not_le, Bool.not_not, Bool.and_eq_true, Bool.and_eq_false_iff, Bool.true_and, Bool.and_true, beq_self_eq_true, Bool.or_eq_true, Bool.or_eq_false_iff] at h1
    refine X.condT rfl ?_
    refine X.seq ?_
    refine X.region ?_
    refine XO.pu (Pu.assign rfl) ?_
    refine XO.nil ?_
    refine X.sub (p' := [(4, _), (0, _), (1, _)]) ⟨rfl, rfl, rfl, trivial⟩ ?_
    refine X.retL (q) Try.func59 (res1 Try.results59 rfl) ⟨_, rfl, congrArg Value.bool (by symm; simp only [decide_eq_false_iff_not]; rintro rfl; simp at h1), rfl⟩
  · skip
    try simp only [decide_eq_true_eq, decide_eq_false_iff_not, bne_iff_ne, beq_iff_eq, ne_eq, bne_eq_false_iff_eq, beq_eq_false_iff_ne, Bool.not_eq_true', Bool.not_eq_false', Int.not_lt, Int.not_le, Bool.not_not, Bool.and_eq_true, Bool.and_eq_false_iff, Bool.true_and, Bool.and_true, beq_self_eq_true, Bool.or_eq_true, Bool.or_eq_false_iff] at h1
    refine X.condF rfl ?_
    refine X.skip ?_
    refine X.seq ?_
    refine X.seq ?_
    refine X.region ?_
    refine XO.pu (Pu.move rfl) ?_
    refine XO.pu (Pu.len rfl Try.underlying29) ?_
    refine XO.pu (Pu.move rfl) ?_
    refine XO.nil ?_
    refine X.sub (p' := [(13, _), (12, _), (4, _), (0, _), (1, _)]) ⟨rfl, rfl, rfl, rfl, rfl, trivial⟩ ?_
    refine X.block ?_
    have he : l.length = m.length := by omega
    refine X.at (X.loop (fun (s : Nat) => s ≤ l.length ∧ l.take s = m.take s) (fun s => [(0, .slice a l.length c), (1, .slice b m.length d), (12, .int .i64 (l.length : Int)), (13, .int .i64 (s : Int))]) (fun s => q ++ F) (fun s => l.length - s) (fun s hi_ ih => ?_) 0 ⟨by omega, by simp⟩) ⟨(by first | rfl | exact congrArg some (congrArg (Value.int _) (by omega)) | (show some _ = some _; simp; done) | (show some _ = some _; simp; omega)), (by first | rfl | exact congrArg some (congrArg (Value.int _) (by omega)) | (show some _ = some _; simp; done) | (show some _ = some _; simp; omega)), (by first | rfl | exact congrArg some (congrArg (Value.int _) (by omega)) | (show some _ = some _; simp; done) | (show some _ = some _; simp; omega)), (by first | rfl | exact congrArg some (congrArg (Value.int _) (by omega)) | (show some _ = some _; simp; done) | (show some _ = some _; simp; omega)), trivial⟩ leA
    try dsimp only at hi_ ih ⊢
    obtain ⟨hi1, hi2⟩ := hi_
    refine X.seq ?_
    refine X.region ?_
    refine XO.pu (Pu.lss rfl rfl) ?_
    refine XO.nil ?_
    refine X.sub (p' := [(14, _), (0, _), (1, _), (12, _), (13, _)]) ⟨rfl, rfl, rfl, rfl, rfl, trivial⟩ ?_
    refine X.seq ?_
    refine X.part 14 rfl (fun h0 => ?_) (fun h0 => ?_)
    · skip
      try simp only [decide_eq_true_eq, decide_eq_false_iff_not, bne_iff_ne, beq_iff_eq, ne_eq, bne_eq_false_iff_eq, beq_eq_false_iff_ne, Bool.not_eq_true', Bool.not_eq_false', Int.not_lt, Int.not_le, Bool.not_not, Bool.and_eq_true, Bool.and_eq_false_iff, Bool.true_and, Bool.and_true, beq_self_eq_true, Bool.or_eq_true, Bool.or_eq_false_iff] at h0
      have hi0 : s < l.length := by omega
      have hi9 : s < m.length := by omega
      refine X.adr hs (by simp; omega) (fun b1 o1 e_ => ?_); subst e_
      refine X.adr ht (by simp; omega) (fun b2 o2 e_ => ?_); subst e_
      refine X.condT rfl ?_
      refine X.skip ?_
      refine X.seq ?_
      refine X.block ?_
      refine X.seq ?_
      refine X.region ?_
      refine XO.pu (Pu.move rfl) ?_
      refine XO.pu (Pu.assign rfl) ?_
      refine XO.nil ?_
      refine X.sub (p' := [(5, _), (0, _), (1, _), (12, _), (13, _)]) ⟨rfl, rfl, rfl, rfl, rfl, trivial⟩ ?_
      refine X.seq ?_
      refine X.draw [] Try.mixed (by kernel_rfl) (by kernel_rfl) rfl ?_
      refine XD.pu 0 rfl (Pu.move rfl) ?_
      refine XD.pu 1 rfl (Pu.move rfl) ?_
      refine XD.pu 2 rfl (Pu.indexAddr rfl rfl Try.underlying29 Try.sizeOf3 (by omega) (by omega)) ?_
      refine XD.ld 3 Try.isAgg3 ?_
      refine XD.pu 4 rfl (Pu.move rfl) ?_
      refine XD.pu 5 rfl (Pu.move rfl) ?_
      refine XD.pu 6 rfl (Pu.indexAddr rfl rfl Try.underlying29 Try.sizeOf3 (by omega) (by omega)) ?_
      refine XD.ld 7 Try.isAgg3 ?_
      refine XD.pu 8 rfl (Pu.neq rfl rfl) ?_
      refine XD.nil ?_
      refine X.sub (p' := [(24, _), (0, _), (1, _), (12, _), (13, _)]) ⟨rfl, rfl, rfl, rfl, rfl, trivial⟩ ?_
      refine X.part 24 rfl (fun h2 => ?_) (fun h2 => ?_)
      · skip
        have hx : ¬ l[s] = m[s] := by intro e; rw [e] at h2; simp at h2
        refine X.condT rfl ?_
        refine X.seq ?_
        refine X.region ?_
        refine XO.pu (Pu.assign rfl) ?_
        refine XO.nil ?_
        refine X.sub (p' := [(4, _), (0, _), (1, _), (12, _), (13, _)]) ⟨rfl, rfl, rfl, rfl, rfl, trivial⟩ ?_
        refine X.retL (q) Try.func59 (res1 Try.results59 rfl) ⟨_, rfl, congrArg Value.bool (by symm; simp only [decide_eq_false_iff_not]; intro e; apply hx; simp only [e]), rfl⟩
      · skip
        have hx : l[s] = m[s] := by simpa using h2
        refine X.condF rfl ?_
        refine X.skip ?_
        refine X.inBlock ?_
        refine X.region ?_
        refine XO.pu (Pu.add rfl rfl (by omega) (by omega)) ?_
        refine XO.pu (Pu.move rfl) ?_
        refine XO.nil ?_
        refine X.sub (p' := [(13, _), (0, _), (1, _), (12, _)]) ⟨rfl, rfl, rfl, rfl, trivial⟩ ?_
        refine X.at (ih (s + 1) ⟨by omega, by rw [List.take_succ_eq_append_getElem hi0, List.take_succ_eq_append_getElem hi9, hi2, hx]⟩ (by omega)) ⟨(by first | rfl | exact congrArg some (congrArg (Value.int _) (by omega)) | (show some _ = some _; simp; done) | (show some _ = some _; simp; omega)), (by first | rfl | exact congrArg some (congrArg (Value.int _) (by omega)) | (show some _ = some _; simp; done) | (show some _ = some _; simp; omega)), (by first | rfl | exact congrArg some (congrArg (Value.int _) (by omega)) | (show some _ = some _; simp; done) | (show some _ = some _; simp; omega)), (by first | rfl | exact congrArg some (congrArg (Value.int _) (by omega)) | (show some _ = some _; simp; done) | (show some _ = some _; simp; omega)), trivial⟩ leA
    · skip
      try simp only [decide_eq_true_eq, decide_eq_false_iff_not, bne_iff_ne, beq_iff_eq, ne_eq, bne_eq_false_iff_eq, beq_eq_false_iff_ne, Bool.not_eq_true', Bool.not_eq_false', Int.not_lt, Int.not_le, Bool.not_not, Bool.and_eq_true, Bool.and_eq_false_iff, Bool.true_and, Bool.and_true, beq_self_eq_true, Bool.or_eq_true, Bool.or_eq_false_iff] at h0
      refine X.condF rfl ?_
      refine X.exit rfl ?_
      refine X.seq ?_
      refine X.region ?_
      refine XO.pu (Pu.assign rfl) ?_
      refine XO.nil ?_
      refine X.sub (p' := [(4, _)]) ⟨rfl, trivial⟩ ?_
      refine X.retL (q) Try.func59 (res1 Try.results59 rfl) ⟨_, rfl, congrArg Value.bool (by symm; simp only [decide_eq_true_eq]; rw [List.take_of_length_le (by omega), List.take_of_length_le (by omega)] at hi2; exact hi2), rfl⟩
theorem Equal64_ok (hs : Sees q a (l.map I64)) (ht : Sees q b (m.map I64)) (hL : l.length ≤ 1000000000) : CallF Try.prog G 64 [.slice a l.length c, .slice b m.length d] q (Ret fun v q' => v = .bool (decide (l = m)) ∧ q' = q) := by
  refine CallF.of Try.func64 Try.ntmps64 rfl (fun F cs => ?_)
  refine X.sub (p' := [(0, _), (1, _)]) ⟨rfl, rfl, trivial⟩ ?_
  refine X.seq ?_
  refine X.region ?_
  refine XO.pu (Pu.assign rfl) ?_
  refine XO.nil ?_
  refine X.sub (p' := [(4, _), (0, _), (1, _)]) ⟨rfl, rfl, rfl, trivial⟩ ?_
  refine X.seq ?_
  refine X.seq ?_
  refine X.region ?_
  refine XO.pu (Pu.move rfl) ?_
  refine XO.pu (Pu.len rfl Try.underlying28) ?_
  refine XO.pu (Pu.move rfl) ?_
  refine XO.pu (Pu.len rfl Try.underlying28) ?_
  refine XO.pu (Pu.neq rfl rfl) ?_
  refine XO.nil ?_
  refine X.sub (p' := [(10, _), (4, _), (0, _), (1, _)]) ⟨rfl, rfl, rfl, rfl, trivial⟩ ?_
  refine X.part 10 rfl (fun h1 => ?_) (fun h1 => ?_)
  · skip
    try simp only [decide_eq_true_eq, decide_eq_false_iff_not, bne_iff_ne, beq_iff_eq, ne_eq, bne_eq_false_iff_eq, beq_eq_false_iff_ne, Bool.not_eq_true', Bool.not_eq_false', Int.not_lt, Int.not_le, Bool.not_not, Bool.and_eq_true, Bool.and_eq_false_iff, Bool.true_and, Bool.and_true, beq_self_eq_true, Bool.or_eq_true, Bool.or_eq_false_iff] at h1
    refine X.condT rfl ?_
    refine X.seq ?_
    refine X.region ?_
    refine XO.pu (Pu.assign rfl) ?_
    refine XO.nil ?_
    refine X.sub (p' := [(4, _), (0, _), (1, _)]) ⟨rfl, rfl, rfl, trivial⟩ ?_
    refine X.retL (q) Try.func64 (res1 Try.results64 rfl) ⟨_, rfl, congrArg Value.bool (by symm; simp only [decide_eq_false_iff_not]; rintro rfl; simp at h1), rfl⟩
  · skip
    try simp only [decide_eq_true_eq, decide_eq_false_iff_not, bne_iff_ne, beq_iff_eq, ne_eq, bne_eq_false_iff_eq, beq_eq_false_iff_ne, Bool.not_eq_true', Bool.not_eq_false', Int.not_lt, Int.not_le, Bool.not_not, Bool.and_eq_true, Bool.and_eq_false_iff, Bool.true_and, Bool.and_true, beq_self_eq_true, Bool.or_eq_true, Bool.or_eq_false_iff] at h1
    refine X.condF rfl ?_
    refine X.skip ?_
    refine X.seq ?_
    refine X.seq ?_
    refine X.region ?_
    refine XO.pu (Pu.move rfl) ?_
    refine XO.pu (Pu.len rfl Try.underlying28) ?_
    refine XO.pu (Pu.move rfl) ?_
    refine XO.nil ?_
    refine X.sub (p' := [(13, _), (12, _), (4, _), (0, _), (1, _)]) ⟨rfl, rfl, rfl, rfl, rfl, trivial⟩ ?_
    refine X.block ?_
    have he : l.length = m.length := by omega
    refine X.at (X.loop (fun (s : Nat) => s ≤ l.length ∧ l.take s = m.take s) (fun s => [(0, .slice a l.length c), (1, .slice b m.length d), (12, .int .i64 (l.length : Int)), (13, .int .i64 (s : Int))]) (fun s => q ++ F) (fun s => l.length - s) (fun s hi_ ih => ?_) 0 ⟨by omega, by simp⟩) ⟨(by first | rfl | exact congrArg some (congrArg (Value.int _) (by omega)) | (show some _ = some _; simp; done) | (show some _ = some _; simp; omega)), (by first | rfl | exact congrArg some (congrArg (Value.int _) (by omega)) | (show some _ = some _; simp; done) | (show some _ = some _; simp; omega)), (by first | rfl | exact congrArg some (congrArg (Value.int _) (by omega)) | (show some _ = some _; simp; done) | (show some _ = some _; simp; omega)), (by first | rfl | exact congrArg some (congrArg (Value.int _) (by omega)) | (show some _ = some _; simp; done) | (show some _ = some _; simp; omega)), trivial⟩ leA
    try dsimp only at hi_ ih ⊢
    obtain ⟨hi1, hi2⟩ := hi_
    refine X.seq ?_
    refine X.region ?_
    refine XO.pu (Pu.lss rfl rfl) ?_
    refine XO.nil ?_
    refine X.sub (p' := [(14, _), (0, _), (1, _), (12, _), (13, _)]) ⟨rfl, rfl, rfl, rfl, rfl, trivial⟩ ?_
    refine X.seq ?_
    refine X.part 14 rfl (fun h0 => ?_) (fun h0 => ?_)
    · skip
      try simp only [decide_eq_true_eq, decide_eq_false_iff_not, bne_iff_ne, beq_iff_eq, ne_eq, bne_eq_false_iff_eq, beq_eq_false_iff_ne, Bool.not_eq_true', Bool.not_eq_false', Int.not_lt, Int.not_le, Bool.not_not, Bool.and_eq_true, Bool.and_eq_false_iff, Bool.true_and, Bool.and_true, beq_self_eq_true, Bool.or_eq_true, Bool.or_eq_false_iff] at h0
      have hi0 : s < l.length := by omega
      have hi9 : s < m.length := by omega
      refine X.adr hs (by simp; omega) (fun b1 o1 e_ => ?_); subst e_
      refine X.adr ht (by simp; omega) (fun b2 o2 e_ => ?_); subst e_
      refine X.condT rfl ?_
      refine X.skip ?_
      refine X.seq ?_
      refine X.block ?_
      refine X.seq ?_
      refine X.region ?_
      refine XO.pu (Pu.move rfl) ?_
      refine XO.pu (Pu.assign rfl) ?_
      refine XO.nil ?_
      refine X.sub (p' := [(5, _), (0, _), (1, _), (12, _), (13, _)]) ⟨rfl, rfl, rfl, rfl, rfl, trivial⟩ ?_
      refine X.seq ?_
      refine X.draw [] Try.mixed (by kernel_rfl) (by kernel_rfl) rfl ?_
      refine XD.pu 0 rfl (Pu.move rfl) ?_
      refine XD.pu 1 rfl (Pu.move rfl) ?_
      refine XD.pu 2 rfl (Pu.indexAddr rfl rfl Try.underlying28 Try.sizeOf2 (by omega) (by omega)) ?_
      refine XD.ld 3 Try.isAgg2 ?_
      refine XD.pu 4 rfl (Pu.move rfl) ?_
      refine XD.pu 5 rfl (Pu.move rfl) ?_
      refine XD.pu 6 rfl (Pu.indexAddr rfl rfl Try.underlying28 Try.sizeOf2 (by omega) (by omega)) ?_
      refine XD.ld 7 Try.isAgg2 ?_
      refine XD.pu 8 rfl (Pu.neq rfl rfl) ?_
      refine XD.nil ?_
      refine X.sub (p' := [(24, _), (0, _), (1, _), (12, _), (13, _)]) ⟨rfl, rfl, rfl, rfl, rfl, trivial⟩ ?_
      refine X.part 24 rfl (fun h2 => ?_) (fun h2 => ?_)
      · skip
        have hx : ¬ l[s] = m[s] := by intro e; rw [e] at h2; simp at h2
        refine X.condT rfl ?_
        refine X.seq ?_
        refine X.region ?_
        refine XO.pu (Pu.assign rfl) ?_
        refine XO.nil ?_
        refine X.sub (p' := [(4, _), (0, _), (1, _), (12, _), (13, _)]) ⟨rfl, rfl, rfl, rfl, rfl, trivial⟩ ?_
        refine X.retL (q) Try.func64 (res1 Try.results64 rfl) ⟨_, rfl, congrArg Value.bool (by symm; simp only [decide_eq_false_iff_not]; intro e; apply hx; simp only [e]), rfl⟩
      · skip
        have hx : l[s] = m[s] := by simpa using h2
        refine X.condF rfl ?_
        refine X.skip ?_
        refine X.inBlock ?_
        refine X.region ?_
        refine XO.pu (Pu.add rfl rfl (by omega) (by omega)) ?_
        refine XO.pu (Pu.move rfl) ?_
        refine XO.nil ?_
        refine X.sub (p' := [(13, _), (0, _), (1, _), (12, _)]) ⟨rfl, rfl, rfl, rfl, trivial⟩ ?_
        refine X.at (ih (s + 1) ⟨by omega, by rw [List.take_succ_eq_append_getElem hi0, List.take_succ_eq_append_getElem hi9, hi2, hx]⟩ (by omega)) ⟨(by first | rfl | exact congrArg some (congrArg (Value.int _) (by omega)) | (show some _ = some _; simp; done) | (show some _ = some _; simp; omega)), (by first | rfl | exact congrArg some (congrArg (Value.int _) (by omega)) | (show some _ = some _; simp; done) | (show some _ = some _; simp; omega)), (by first | rfl | exact congrArg some (congrArg (Value.int _) (by omega)) | (show some _ = some _; simp; done) | (show some _ = some _; simp; omega)), (by first | rfl | exact congrArg some (congrArg (Value.int _) (by omega)) | (show some _ = some _; simp; done) | (show some _ = some _; simp; omega)), trivial⟩ leA
    · skip
      try simp only [decide_eq_true_eq, decide_eq_false_iff_not, bne_iff_ne, beq_iff_eq, ne_eq, bne_eq_false_iff_eq, beq_eq_false_iff_ne, Bool.not_eq_true', Bool.not_eq_false', Int.not_lt, Int.not_le, Bool.not_not, Bool.and_eq_true, Bool.and_eq_false_iff, Bool.true_and, Bool.and_true, beq_self_eq_true, Bool.or_eq_true, Bool.or_eq_false_iff] at h0
      refine X.condF rfl ?_
      refine X.exit rfl ?_
      refine X.seq ?_
      refine X.region ?_
      refine XO.pu (Pu.assign rfl) ?_
      refine XO.nil ?_
      refine X.sub (p' := [(4, _)]) ⟨rfl, trivial⟩ ?_
      refine X.retL (q) Try.func64 (res1 Try.results64 rfl) ⟨_, rfl, congrArg Value.bool (by symm; simp only [decide_eq_true_eq]; rw [List.take_of_length_le (by omega), List.take_of_length_le (by omega)] at hi2; exact hi2), rfl⟩
theorem RInts_ok (hs : Sees q a (l.map I64)) (ht : Sees q b (m.map I64)) (hL : l.length ≤ 1000000000) : CallF Try.prog G 65 [.slice a l.length c, .slice b m.length d] q (Ret fun v q' => v = .bool (decide (l = m)) ∧ q' = q) := by
  refine CallF.of Try.func65 Try.ntmps65 rfl (fun F cs => ?_)
  refine X.sub (p' := [(0, _), (1, _)]) ⟨rfl, rfl, trivial⟩ ?_
  refine X.seq ?_
  refine X.region ?_
  refine XO.pu (Pu.assign rfl) ?_
  refine XO.nil ?_
  refine X.sub (p' := [(4, _), (0, _), (1, _)]) ⟨rfl, rfl, rfl, trivial⟩ ?_
  refine X.seq ?_
  refine X.seq ?_
  refine X.region ?_
  refine XO.pu (Pu.move rfl) ?_
  refine XO.pu (Pu.len rfl Try.underlying29) ?_
  refine XO.pu (Pu.move rfl) ?_
  refine XO.pu (Pu.len rfl Try.underlying29) ?_
  refine XO.pu (Pu.neq rfl rfl) ?_
  refine XO.nil ?_
  refine X.sub (p' := [(10, _), (4, _), (0, _), (1, _)]) ⟨rfl, rfl, rfl, rfl, trivial⟩ ?_
  refine X.part 10 rfl (fun h1 => ?_) (fun h1 => ?_)
  · skip
    try simp only [decide_eq_true_eq, decide_eq_false_iff_not, bne_iff_ne, beq_iff_eq, ne_eq, bne_eq_false_iff_eq, beq_eq_false_iff_ne, Bool.not_eq_true', Bool.not_eq_false', Int.not_lt, Int.not_le, Bool.not_not, Bool.and_eq_true, Bool.and_eq_false_iff, Bool.true_and, Bool.and_true, beq_self_eq_true, Bool.or_eq_true, Bool.or_eq_false_iff] at h1
    refine X.condT rfl ?_
    refine X.seq ?_
    refine X.region ?_
    refine XO.pu (Pu.assign rfl) ?_
    refine XO.nil ?_
    refine X.sub (p' := [(4, _), (0, _), (1, _)]) ⟨rfl, rfl, rfl, trivial⟩ ?_
    refine X.retL (q) Try.func65 (res1 Try.results65 rfl) ⟨_, rfl, congrArg Value.bool (by symm; simp only [decide_eq_false_iff_not]; rintro rfl; simp at h1), rfl⟩
  · skip
    try simp only [decide_eq_true_eq, decide_eq_false_iff_not, bne_iff_ne, beq_iff_eq, ne_eq, bne_eq_false_iff_eq, beq_eq_false_iff_ne, Bool.not_eq_true', Bool.not_eq_false', Int.not_lt, Int.not_le, Bool.not_not, Bool.and_eq_true, Bool.and_eq_false_iff, Bool.true_and, Bool.and_true, beq_self_eq_true, Bool.or_eq_true, Bool.or_eq_false_iff] at h1
    refine X.condF rfl ?_
    refine X.skip ?_
    refine X.seq ?_
    refine X.seq ?_
    refine X.region ?_
    refine XO.pu (Pu.assign rfl) ?_
    refine XO.nil ?_
    refine X.sub (p' := [(5, _), (4, _), (0, _), (1, _)]) ⟨rfl, rfl, rfl, rfl, trivial⟩ ?_
    refine X.block ?_
    have he : l.length = m.length := by omega
    refine X.at (X.loop (fun (s : Nat) => s ≤ l.length ∧ l.take s = m.take s) (fun s => [(0, .slice a l.length c), (1, .slice b m.length d), (5, .int .i64 (s : Int))]) (fun s => q ++ F) (fun s => l.length - s) (fun s hi_ ih => ?_) 0 ⟨by omega, by simp⟩) ⟨(by first | rfl | exact congrArg some (congrArg (Value.int _) (by omega)) | (show some _ = some _; simp; done) | (show some _ = some _; simp; omega)), (by first | rfl | exact congrArg some (congrArg (Value.int _) (by omega)) | (show some _ = some _; simp; done) | (show some _ = some _; simp; omega)), (by first | rfl | exact congrArg some (congrArg (Value.int _) (by omega)) | (show some _ = some _; simp; done) | (show some _ = some _; simp; omega)), trivial⟩ leA
    try dsimp only at hi_ ih ⊢
    obtain ⟨hi1, hi2⟩ := hi_
    refine X.seq ?_
    refine X.seq ?_
    refine X.region ?_
    refine XO.pu (Pu.move rfl) ?_
    refine XO.pu (Pu.move rfl) ?_
    refine XO.pu (Pu.len rfl Try.underlying29) ?_
    refine XO.pu (Pu.lss rfl rfl) ?_
    refine XO.nil ?_
    refine X.sub (p' := [(14, _), (0, _), (1, _), (5, _)]) ⟨rfl, rfl, rfl, rfl, trivial⟩ ?_
    refine X.part 14 rfl (fun h0 => ?_) (fun h0 => ?_)
    · skip
      try simp only [decide_eq_true_eq, decide_eq_false_iff_not, bne_iff_ne, beq_iff_eq, ne_eq, bne_eq_false_iff_eq, beq_eq_false_iff_ne, Bool.not_eq_true', Bool.not_eq_false', Int.not_lt, Int.not_le, Bool.not_not, Bool.and_eq_true, Bool.and_eq_false_iff, Bool.true_and, Bool.and_true, beq_self_eq_true, Bool.or_eq_true, Bool.or_eq_false_iff] at h0
      have hi0 : s < l.length := by omega
      have hi9 : s < m.length := by omega
      refine X.adr hs (by simp; omega) (fun b1 o1 e_ => ?_); subst e_
      refine X.adr ht (by simp; omega) (fun b2 o2 e_ => ?_); subst e_
      refine X.condT rfl ?_
      refine X.skip ?_
      refine X.seq ?_
      refine X.block ?_
      refine X.seq ?_
      refine X.draw [] Try.mixed (by kernel_rfl) (by kernel_rfl) rfl ?_
      refine XD.pu 0 rfl (Pu.move rfl) ?_
      refine XD.pu 1 rfl (Pu.move rfl) ?_
      refine XD.pu 2 rfl (Pu.indexAddr rfl rfl Try.underlying29 Try.sizeOf3 (by omega) (by omega)) ?_
      refine XD.ld 3 Try.isAgg3 ?_
      refine XD.pu 4 rfl (Pu.move rfl) ?_
      refine XD.pu 5 rfl (Pu.move rfl) ?_
      refine XD.pu 6 rfl (Pu.indexAddr rfl rfl Try.underlying29 Try.sizeOf3 (by omega) (by omega)) ?_
      refine XD.ld 7 Try.isAgg3 ?_
      refine XD.pu 8 rfl (Pu.neq rfl rfl) ?_
      refine XD.nil ?_
      refine X.sub (p' := [(25, _), (0, _), (1, _), (5, _)]) ⟨rfl, rfl, rfl, rfl, trivial⟩ ?_
      refine X.part 25 rfl (fun h2 => ?_) (fun h2 => ?_)
      · skip
        have hx : ¬ l[s] = m[s] := by intro e; rw [e] at h2; simp at h2
        refine X.condT rfl ?_
        refine X.seq ?_
        refine X.region ?_
        refine XO.pu (Pu.assign rfl) ?_
        refine XO.nil ?_
        refine X.sub (p' := [(4, _), (0, _), (1, _), (5, _)]) ⟨rfl, rfl, rfl, rfl, trivial⟩ ?_
        refine X.retL (q) Try.func65 (res1 Try.results65 rfl) ⟨_, rfl, congrArg Value.bool (by symm; simp only [decide_eq_false_iff_not]; intro e; apply hx; simp only [e]), rfl⟩
      · skip
        have hx : l[s] = m[s] := by simpa using h2
        refine X.condF rfl ?_
        refine X.skip ?_
        refine X.inBlock ?_
        refine X.region ?_
        refine XO.pu (Pu.move rfl) ?_
        refine XO.pu (Pu.add rfl rfl (by omega) (by omega)) ?_
        refine XO.pu (Pu.assign rfl) ?_
        refine XO.nil ?_
        refine X.sub (p' := [(5, _), (0, _), (1, _)]) ⟨rfl, rfl, rfl, trivial⟩ ?_
        refine X.at (ih (s + 1) ⟨by omega, by rw [List.take_succ_eq_append_getElem hi0, List.take_succ_eq_append_getElem hi9, hi2, hx]⟩ (by omega)) ⟨(by first | rfl | exact congrArg some (congrArg (Value.int _) (by omega)) | (show some _ = some _; simp; done) | (show some _ = some _; simp; omega)), (by first | rfl | exact congrArg some (congrArg (Value.int _) (by omega)) | (show some _ = some _; simp; done) | (show some _ = some _; simp; omega)), (by first | rfl | exact congrArg some (congrArg (Value.int _) (by omega)) | (show some _ = some _; simp; done) | (show some _ = some _; simp; omega)), trivial⟩ leA
    · skip
      try simp only [decide_eq_true_eq, decide_eq_false_iff_not, bne_iff_ne, beq_iff_eq, ne_eq, bne_eq_false_iff_eq, beq_eq_false_iff_ne, Bool.not_eq_true', Bool.not_eq_false', Int.not_lt, Int.not_le, Bool.not_not, Bool.and_eq_true, Bool.and_eq_false_iff, Bool.true_and, Bool.and_true, beq_self_eq_true, Bool.or_eq_true, Bool.or_eq_false_iff] at h0
      refine X.condF rfl ?_
      refine X.exit rfl ?_
      refine X.seq ?_
      refine X.region ?_
      refine XO.pu (Pu.assign rfl) ?_
      refine XO.nil ?_
      refine X.sub (p' := [(4, _)]) ⟨rfl, trivial⟩ ?_
      refine X.retL (q) Try.func65 (res1 Try.results65 rfl) ⟨_, rfl, congrArg Value.bool (by symm; simp only [decide_eq_true_eq]; rw [List.take_of_length_le (by omega), List.take_of_length_le (by omega)] at hi2; exact hi2), rfl⟩
theorem RValues_ok (hs : Sees q a (l.map I64)) (ht : Sees q b (m.map I64)) (hL : l.length ≤ 1000000000) : CallF Try.prog G 66 [.slice a l.length c, .slice b m.length d] q (Ret fun v q' => v = .bool (decide (l = m)) ∧ q' = q) := by
  refine CallF.of Try.func66 Try.ntmps66 rfl (fun F cs => ?_)
  refine X.sub (p' := [(0, _), (1, _)]) ⟨rfl, rfl, trivial⟩ ?_
  refine X.seq ?_
  refine X.region ?_
  refine XO.pu (Pu.assign rfl) ?_
  refine XO.nil ?_
  refine X.sub (p' := [(4, _), (0, _), (1, _)]) ⟨rfl, rfl, rfl, trivial⟩ ?_
  refine X.seq ?_
  refine X.seq ?_
  refine X.region ?_
  refine XO.pu (Pu.move rfl) ?_
  refine XO.pu (Pu.len rfl Try.underlying28) ?_
  refine XO.pu (Pu.move rfl) ?_
  refine XO.pu (Pu.len rfl Try.underlying28) ?_
  refine XO.pu (Pu.neq rfl rfl) ?_
  refine XO.nil ?_
  refine X.sub (p' := [(10, _), (4, _), (0, _), (1, _)]) ⟨rfl, rfl, rfl, rfl, trivial⟩ ?_
  refine X.part 10 rfl (fun h1 => ?_) (fun h1 => ?_)
  · skip
    try simp only [decide_eq_true_eq, decide_eq_false_iff_not, bne_iff_ne, beq_iff_eq, ne_eq, bne_eq_false_iff_eq, beq_eq_false_iff_ne, Bool.not_eq_true', Bool.not_eq_false', Int.not_lt, Int.not_le, Bool.not_not, Bool.and_eq_true, Bool.and_eq_false_iff, Bool.true_and, Bool.and_true, beq_self_eq_true, Bool.or_eq_true, Bool.or_eq_false_iff] at h1
    refine X.condT rfl ?_
    refine X.seq ?_
    refine X.region ?_
    refine XO.pu (Pu.assign rfl) ?_
    refine XO.nil ?_
    refine X.sub (p' := [(4, _), (0, _), (1, _)]) ⟨rfl, rfl, rfl, trivial⟩ ?_
    refine X.retL (q) Try.func66 (res1 Try.results66 rfl) ⟨_, rfl, congrArg Value.bool (by symm; simp only [decide_eq_false_iff_not]; rintro rfl; simp at h1), rfl⟩
  · skip
    try simp only [decide_eq_true_eq, decide_eq_false_iff_not, bne_iff_ne, beq_iff_eq, ne_eq, bne_eq_false_iff_eq, beq_eq_false_iff_ne, Bool.not_eq_true', Bool.not_eq_false', Int.not_lt, Int.not_le, Bool.not_not, Bool.and_eq_true, Bool.and_eq_false_iff, Bool.true_and, Bool.and_true, beq_self_eq_true, Bool.or_eq_true, Bool.or_eq_false_iff] at h1
    refine X.condF rfl ?_
    refine X.skip ?_
    refine X.seq ?_
    refine X.seq ?_
    refine X.region ?_
    refine XO.pu (Pu.assign rfl) ?_
    refine XO.nil ?_
    refine X.sub (p' := [(5, _), (4, _), (0, _), (1, _)]) ⟨rfl, rfl, rfl, rfl, trivial⟩ ?_
    refine X.block ?_
    have he : l.length = m.length := by omega
    refine X.at (X.loop (fun (s : Nat) => s ≤ l.length ∧ l.take s = m.take s) (fun s => [(0, .slice a l.length c), (1, .slice b m.length d), (5, .int .i64 (s : Int))]) (fun s => q ++ F) (fun s => l.length - s) (fun s hi_ ih => ?_) 0 ⟨by omega, by simp⟩) ⟨(by first | rfl | exact congrArg some (congrArg (Value.int _) (by omega)) | (show some _ = some _; simp; done) | (show some _ = some _; simp; omega)), (by first | rfl | exact congrArg some (congrArg (Value.int _) (by omega)) | (show some _ = some _; simp; done) | (show some _ = some _; simp; omega)), (by first | rfl | exact congrArg some (congrArg (Value.int _) (by omega)) | (show some _ = some _; simp; done) | (show some _ = some _; simp; omega)), trivial⟩ leA
    try dsimp only at hi_ ih ⊢
    obtain ⟨hi1, hi2⟩ := hi_
    refine X.seq ?_
    refine X.seq ?_
    refine X.region ?_
    refine XO.pu (Pu.move rfl) ?_
    refine XO.pu (Pu.move rfl) ?_
    refine XO.pu (Pu.len rfl Try.underlying28) ?_
    refine XO.pu (Pu.lss rfl rfl) ?_
    refine XO.nil ?_
    refine X.sub (p' := [(14, _), (0, _), (1, _), (5, _)]) ⟨rfl, rfl, rfl, rfl, trivial⟩ ?_
    refine X.part 14 rfl (fun h0 => ?_) (fun h0 => ?_)
    · skip
      try simp only [decide_eq_true_eq, decide_eq_false_iff_not, bne_iff_ne, beq_iff_eq, ne_eq, bne_eq_false_iff_eq, beq_eq_false_iff_ne, Bool.not_eq_true', Bool.not_eq_false', Int.not_lt, Int.not_le, Bool.not_not, Bool.and_eq_true, Bool.and_eq_false_iff, Bool.true_and, Bool.and_true, beq_self_eq_true, Bool.or_eq_true, Bool.or_eq_false_iff] at h0
      have hi0 : s < l.length := by omega
      have hi9 : s < m.length := by omega
      refine X.adr hs (by simp; omega) (fun b1 o1 e_ => ?_); subst e_
      refine X.adr ht (by simp; omega) (fun b2 o2 e_ => ?_); subst e_
      refine X.condT rfl ?_
      refine X.skip ?_
      refine X.seq ?_
      refine X.block ?_
      refine X.seq ?_
      refine X.draw [] Try.mixed (by kernel_rfl) (by kernel_rfl) rfl ?_
      refine XD.pu 0 rfl (Pu.move rfl) ?_
      refine XD.pu 1 rfl (Pu.move rfl) ?_
      refine XD.pu 2 rfl (Pu.indexAddr rfl rfl Try.underlying28 Try.sizeOf2 (by omega) (by omega)) ?_
      refine XD.ld 3 Try.isAgg2 ?_
      refine XD.pu 4 rfl (Pu.move rfl) ?_
      refine XD.pu 5 rfl (Pu.move rfl) ?_
      refine XD.pu 6 rfl (Pu.indexAddr rfl rfl Try.underlying28 Try.sizeOf2 (by omega) (by omega)) ?_
      refine XD.ld 7 Try.isAgg2 ?_
      refine XD.pu 8 rfl (Pu.neq rfl rfl) ?_
      refine XD.nil ?_
      refine X.sub (p' := [(25, _), (0, _), (1, _), (5, _)]) ⟨rfl, rfl, rfl, rfl, trivial⟩ ?_
      refine X.part 25 rfl (fun h2 => ?_) (fun h2 => ?_)
      · skip
        have hx : ¬ l[s] = m[s] := by intro e; rw [e] at h2; simp at h2
        refine X.condT rfl ?_
        refine X.seq ?_
        refine X.region ?_
        refine XO.pu (Pu.assign rfl) ?_
        refine XO.nil ?_
        refine X.sub (p' := [(4, _), (0, _), (1, _), (5, _)]) ⟨rfl, rfl, rfl, rfl, trivial⟩ ?_
        refine X.retL (q) Try.func66 (res1 Try.results66 rfl) ⟨_, rfl, congrArg Value.bool (by symm; simp only [decide_eq_false_iff_not]; intro e; apply hx; simp only [e]), rfl⟩
      · skip
        have hx : l[s] = m[s] := by simpa using h2
        refine X.condF rfl ?_
        refine X.skip ?_
        refine X.inBlock ?_
        refine X.region ?_
        refine XO.pu (Pu.move rfl) ?_
        refine XO.pu (Pu.add rfl rfl (by omega) (by omega)) ?_
        refine XO.pu (Pu.assign rfl) ?_
        refine XO.nil ?_
        refine X.sub (p' := [(5, _), (0, _), (1, _)]) ⟨rfl, rfl, rfl, trivial⟩ ?_
        refine X.at (ih (s + 1) ⟨by omega, by rw [List.take_succ_eq_append_getElem hi0, List.take_succ_eq_append_getElem hi9, hi2, hx]⟩ (by omega)) ⟨(by first | rfl | exact congrArg some (congrArg (Value.int _) (by omega)) | (show some _ = some _; simp; done) | (show some _ = some _; simp; omega)), (by first | rfl | exact congrArg some (congrArg (Value.int _) (by omega)) | (show some _ = some _; simp; done) | (show some _ = some _; simp; omega)), (by first | rfl | exact congrArg some (congrArg (Value.int _) (by omega)) | (show some _ = some _; simp; done) | (show some _ = some _; simp; omega)), trivial⟩ leA
    · skip
      try simp only [decide_eq_true_eq, decide_eq_false_iff_not, bne_iff_ne, beq_iff_eq, ne_eq, bne_eq_false_iff_eq, beq_eq_false_iff_ne, Bool.not_eq_true', Bool.not_eq_false', Int.not_lt, Int.not_le, Bool.not_not, Bool.and_eq_true, Bool.and_eq_false_iff, Bool.true_and, Bool.and_true, beq_self_eq_true, Bool.or_eq_true, Bool.or_eq_false_iff] at h0
      refine X.condF rfl ?_
      refine X.exit rfl ?_
      refine X.seq ?_
      refine X.region ?_
      refine XO.pu (Pu.assign rfl) ?_
      refine XO.nil ?_
      refine X.sub (p' := [(4, _)]) ⟨rfl, trivial⟩ ?_
      refine X.retL (q) Try.func66 (res1 Try.results66 rfl) ⟨_, rfl, congrArg Value.bool (by symm; simp only [decide_eq_true_eq]; rw [List.take_of_length_le (by omega), List.take_of_length_le (by omega)] at hi2; exact hi2), rfl⟩
theorem LInts_ok (hs : Sees q a (l.map I64)) (ht : Sees q b (m.map I64)) (hL : l.length ≤ 1000000000) : CallF Try.prog G 22 [.slice a l.length c, .slice b m.length d] q (Ret fun v q' => v = .bool (decide (l = m)) ∧ q' = q) := by
  refine CallF.of Try.func22 Try.ntmps22 rfl (fun F cs => ?_)
  refine X.sub (p' := [(0, _), (1, _)]) ⟨rfl, rfl, trivial⟩ ?_
  refine X.seq ?_
  refine X.region ?_
  refine XO.pu (Pu.assign rfl) ?_
  refine XO.nil ?_
  refine X.sub (p' := [(4, _), (0, _), (1, _)]) ⟨rfl, rfl, rfl, trivial⟩ ?_
  refine X.seq ?_
  refine X.seq ?_
  refine X.region ?_
  refine XO.pu (Pu.move rfl) ?_
  refine XO.pu (Pu.len rfl Try.underlying29) ?_
  refine XO.pu (Pu.move rfl) ?_
  refine XO.pu (Pu.len rfl Try.underlying29) ?_
  refine XO.pu (Pu.neq rfl rfl) ?_
  refine XO.nil ?_
  refine X.sub (p' := [(10, _), (4, _), (0, _), (1, _)]) ⟨rfl, rfl, rfl, rfl, trivial⟩ ?_
  refine X.part 10 rfl (fun h1 => ?_) (fun h1 => ?_)
  · skip
    try simp only [decide_eq_true_eq, decide_eq_false_iff_not, bne_iff_ne, beq_iff_eq, ne_eq, bne_eq_false_iff_eq, beq_eq_false_iff_ne, Bool.not_eq_true', Bool.not_eq_false', Int.not_lt, Int.not_le, Bool.not_not, Bool.and_eq_true, Bool.and_eq_false_iff, Bool.true_and, Bool.and_true, beq_self_eq_true, Bool.or_eq_true, Bool.or_eq_false_iff] at h1
    refine X.condT rfl ?_
    refine X.seq ?_
    refine X.region ?_
    refine XO.pu (Pu.assign rfl) ?_
    refine XO.nil ?_
    refine X.sub (p' := [(4, _), (0, _), (1, _)]) ⟨rfl, rfl, rfl, trivial⟩ ?_
    refine X.retL (q) Try.func22 (res1 Try.results22 rfl) ⟨_, rfl, congrArg Value.bool (by symm; simp only [decide_eq_false_iff_not]; rintro rfl; simp at h1), rfl⟩
  · skip
    try simp only [decide_eq_true_eq, decide_eq_false_iff_not, bne_iff_ne, beq_iff_eq, ne_eq, bne_eq_false_iff_eq, beq_eq_false_iff_ne, Bool.not_eq_true', Bool.not_eq_false', Int.not_lt, Int.not_le, Bool.not_not, Bool.and_eq_true, Bool.and_eq_false_iff, Bool.true_and, Bool.and_true, beq_self_eq_true, Bool.or_eq_true, Bool.or_eq_false_iff] at h1
    refine X.condF rfl ?_
    refine X.skip ?_
    refine X.seq ?_
    refine X.seq ?_
    refine X.region ?_
    refine XO.pu (Pu.assign rfl) ?_
    refine XO.nil ?_
    refine X.sub (p' := [(5, _), (4, _), (0, _), (1, _)]) ⟨rfl, rfl, rfl, rfl, trivial⟩ ?_
    refine X.block ?_
    have he : l.length = m.length := by omega
    refine X.at (X.loop (fun (s : Nat) => s ≤ l.length ∧ l.take s = m.take s) (fun s => [(0, .slice a l.length c), (1, .slice b m.length d), (5, .int .i64 (s : Int))]) (fun s => q ++ F) (fun s => l.length - s) (fun s hi_ ih => ?_) 0 ⟨by omega, by simp⟩) ⟨(by first | rfl | exact congrArg some (congrArg (Value.int _) (by omega)) | (show some _ = some _; simp; done) | (show some _ = some _; simp; omega)), (by first | rfl | exact congrArg some (congrArg (Value.int _) (by omega)) | (show some _ = some _; simp; done) | (show some _ = some _; simp; omega)), (by first | rfl | exact congrArg some (congrArg (Value.int _) (by omega)) | (show some _ = some _; simp; done) | (show some _ = some _; simp; omega)), trivial⟩ leA
    try dsimp only at hi_ ih ⊢
    obtain ⟨hi1, hi2⟩ := hi_
    refine X.seq ?_
    refine X.seq ?_
    refine X.region ?_
    refine XO.pu (Pu.move rfl) ?_
    refine XO.pu (Pu.move rfl) ?_
    refine XO.pu (Pu.len rfl Try.underlying29) ?_
    refine XO.pu (Pu.lss rfl rfl) ?_
    refine XO.nil ?_
    refine X.sub (p' := [(14, _), (0, _), (1, _), (5, _)]) ⟨rfl, rfl, rfl, rfl, trivial⟩ ?_
    refine X.part 14 rfl (fun h0 => ?_) (fun h0 => ?_)
    · skip
      try simp only [decide_eq_true_eq, decide_eq_false_iff_not, bne_iff_ne, beq_iff_eq, ne_eq, bne_eq_false_iff_eq, beq_eq_false_iff_ne, Bool.not_eq_true', Bool.not_eq_false', Int.not_lt, Int.not_le, Bool.not_not, Bool.and_eq_true, Bool.and_eq_false_iff, Bool.true_and, Bool.and_true, beq_self_eq_true, Bool.or_eq_true, Bool.or_eq_false_iff] at h0
      have hi0 : s < l.length := by omega
      have hi9 : s < m.length := by omega
      refine X.adr hs (by simp; omega) (fun b1 o1 e_ => ?_); subst e_
      refine X.adr ht (by simp; omega) (fun b2 o2 e_ => ?_); subst e_
      refine X.condT rfl ?_
      refine X.skip ?_
      refine X.seq ?_
      refine X.block ?_
      refine X.seq ?_
      refine X.draw [] Try.mixed (by kernel_rfl) (by kernel_rfl) rfl ?_
      refine XD.pu 0 rfl (Pu.move rfl) ?_
      refine XD.pu 1 rfl (Pu.move rfl) ?_
      refine XD.pu 2 rfl (Pu.indexAddr rfl rfl Try.underlying29 Try.sizeOf3 (by omega) (by omega)) ?_
      refine XD.ld 3 Try.isAgg3 ?_
      refine XD.pu 4 rfl (Pu.move rfl) ?_
      refine XD.pu 5 rfl (Pu.move rfl) ?_
      refine XD.pu 6 rfl (Pu.indexAddr rfl rfl Try.underlying29 Try.sizeOf3 (by omega) (by omega)) ?_
      refine XD.ld 7 Try.isAgg3 ?_
      refine XD.pu 8 rfl (Pu.neq rfl rfl) ?_
      refine XD.nil ?_
      refine X.sub (p' := [(25, _), (0, _), (1, _), (5, _)]) ⟨rfl, rfl, rfl, rfl, trivial⟩ ?_
      refine X.part 25 rfl (fun h2 => ?_) (fun h2 => ?_)
      · skip
        have hx : ¬ l[s] = m[s] := by intro e; rw [e] at h2; simp at h2
        refine X.condT rfl ?_
        refine X.seq ?_
        refine X.region ?_
        refine XO.pu (Pu.assign rfl) ?_
        refine XO.nil ?_
        refine X.sub (p' := [(4, _), (0, _), (1, _), (5, _)]) ⟨rfl, rfl, rfl, rfl, trivial⟩ ?_
        refine X.retL (q) Try.func22 (res1 Try.results22 rfl) ⟨_, rfl, congrArg Value.bool (by symm; simp only [decide_eq_false_iff_not]; intro e; apply hx; simp only [e]), rfl⟩
      · skip
        have hx : l[s] = m[s] := by simpa using h2
        refine X.condF rfl ?_
        refine X.skip ?_
        refine X.inBlock ?_
        refine X.region ?_
        refine XO.pu (Pu.move rfl) ?_
        refine XO.pu (Pu.add rfl rfl (by omega) (by omega)) ?_
        refine XO.pu (Pu.assign rfl) ?_
        refine XO.nil ?_
        refine X.sub (p' := [(5, _), (0, _), (1, _)]) ⟨rfl, rfl, rfl, trivial⟩ ?_
        refine X.at (ih (s + 1) ⟨by omega, by rw [List.take_succ_eq_append_getElem hi0, List.take_succ_eq_append_getElem hi9, hi2, hx]⟩ (by omega)) ⟨(by first | rfl | exact congrArg some (congrArg (Value.int _) (by omega)) | (show some _ = some _; simp; done) | (show some _ = some _; simp; omega)), (by first | rfl | exact congrArg some (congrArg (Value.int _) (by omega)) | (show some _ = some _; simp; done) | (show some _ = some _; simp; omega)), (by first | rfl | exact congrArg some (congrArg (Value.int _) (by omega)) | (show some _ = some _; simp; done) | (show some _ = some _; simp; omega)), trivial⟩ leA
    · skip
      try simp only [decide_eq_true_eq, decide_eq_false_iff_not, bne_iff_ne, beq_iff_eq, ne_eq, bne_eq_false_iff_eq, beq_eq_false_iff_ne, Bool.not_eq_true', Bool.not_eq_false', Int.not_lt, Int.not_le, Bool.not_not, Bool.and_eq_true, Bool.and_eq_false_iff, Bool.true_and, Bool.and_true, beq_self_eq_true, Bool.or_eq_true, Bool.or_eq_false_iff] at h0
      refine X.condF rfl ?_
      refine X.exit rfl ?_
      refine X.seq ?_
      refine X.region ?_
      refine XO.pu (Pu.assign rfl) ?_
      refine XO.nil ?_
      refine X.sub (p' := [(4, _)]) ⟨rfl, trivial⟩ ?_
      refine X.retL (q) Try.func22 (res1 Try.results22 rfl) ⟨_, rfl, congrArg Value.bool (by symm; simp only [decide_eq_true_eq]; rw [List.take_of_length_le (by omega), List.take_of_length_le (by omega)] at hi2; exact hi2), rfl⟩
theorem thread_ok {t : Int} : CallF Try.prog G 69 [.int .i64 t] q (Ret fun v q' => v = .bool (decide (thr t)) ∧ q' = q) := by
  refine CallF.of Try.func69 Try.ntmps69 rfl (fun F cs => ?_)
  refine X.sub (p' := [(0, _)]) ⟨rfl, trivial⟩ ?_
  rcases Decidable.em (0 ≤ t) with h1 | h1
  · skip
    refine X.seq ?_
    refine X.region ?_
    refine XO.pu (Pu.assign rfl) ?_
    refine XO.nil ?_
    refine X.sub (p' := [(2, _), (0, _)]) ⟨rfl, rfl, trivial⟩ ?_
    refine X.seq ?_
    refine X.region ?_
    refine XO.pu (Pu.move rfl) ?_
    refine XO.pu (Pu.geq rfl rfl) ?_
    refine XO.pu (Pu.move rfl) ?_
    refine XO.sub (p' := [(5, _), (2, _), (0, _)]) ⟨rfl, rfl, rfl, trivial⟩ ?_
    apply XO.cutAnd 3 8 5 rfl
    · skip
      intro g1 M1; have k1 := g1; try simp only [decide_eq_true_eq, decide_eq_false_iff_not, bne_iff_ne, beq_iff_eq, ne_eq, bne_eq_false_iff_eq, beq_eq_false_iff_ne, Bool.not_eq_true', Bool.not_eq_false', Int.not_lt, Int.not_le, Bool.not_not, Bool.and_eq_true, Bool.and_eq_false_iff, Bool.true_and, Bool.and_true, beq_self_eq_true, Bool.or_eq_true, Bool.or_eq_false_iff] at k1
      refine XO.pu (Pu.move rfl) ?_
      refine XO.pu (Pu.lss rfl rfl) ?_
      refine XO.pu (Pu.pickT rfl rfl) ?_
      exact XO.fin M1 ⟨andT g1, congrArg (fun x => some (Value.bool x)) g1.symm, rfl, rfl, trivial⟩
    · skip
      intro g1 M1; have k1 := g1; try simp only [decide_eq_true_eq, decide_eq_false_iff_not, bne_iff_ne, beq_iff_eq, ne_eq, bne_eq_false_iff_eq, beq_eq_false_iff_ne, Bool.not_eq_true', Bool.not_eq_false', Int.not_lt, Int.not_le, Bool.not_not, Bool.and_eq_true, Bool.and_eq_false_iff, Bool.true_and, Bool.and_true, beq_self_eq_true, Bool.or_eq_true, Bool.or_eq_false_iff] at k1
      refine XO.pass rfl ?_
      refine XO.pass rfl ?_
      refine XO.pu (Pu.pickF rfl rfl) ?_
      exact XO.fin M1 ⟨andF g1, congrArg (fun x => some (Value.bool x)) g1.symm, rfl, rfl, trivial⟩
    · skip
      refine XO.pu (Pu.assign rfl) ?_
      refine XO.nil ?_
      refine X.sub (p' := [(2, _)]) ⟨rfl, trivial⟩ ?_
      refine X.retL (q) Try.func69 (res1 Try.results69 rfl) ⟨_, rfl, congrArg Value.bool (by rw [Bool.eq_iff_iff]; simp only [decide_eq_true_eq, Bool.and_eq_true, thr] at *; omega), rfl⟩
  · skip
    refine X.seq ?_
    refine X.region ?_
    refine XO.pu (Pu.assign rfl) ?_
    refine XO.nil ?_
    refine X.sub (p' := [(2, _), (0, _)]) ⟨rfl, rfl, trivial⟩ ?_
    refine X.seq ?_
    refine X.region ?_
    refine XO.pu (Pu.move rfl) ?_
    refine XO.pu (Pu.geq rfl rfl) ?_
    refine XO.pu (Pu.move rfl) ?_
    refine XO.sub (p' := [(5, _), (2, _), (0, _)]) ⟨rfl, rfl, rfl, trivial⟩ ?_
    apply XO.cutAnd 3 8 5 rfl
    · skip
      intro g1 M1; have k1 := g1; try simp only [decide_eq_true_eq, decide_eq_false_iff_not, bne_iff_ne, beq_iff_eq, ne_eq, bne_eq_false_iff_eq, beq_eq_false_iff_ne, Bool.not_eq_true', Bool.not_eq_false', Int.not_lt, Int.not_le, Bool.not_not, Bool.and_eq_true, Bool.and_eq_false_iff, Bool.true_and, Bool.and_true, beq_self_eq_true, Bool.or_eq_true, Bool.or_eq_false_iff] at k1
      refine XO.pu (Pu.move rfl) ?_
      refine XO.pu (Pu.lss rfl rfl) ?_
      refine XO.pu (Pu.pickT rfl rfl) ?_
      exact XO.fin M1 ⟨andT g1, congrArg (fun x => some (Value.bool x)) g1.symm, rfl, rfl, trivial⟩
    · skip
      intro g1 M1; have k1 := g1; try simp only [decide_eq_true_eq, decide_eq_false_iff_not, bne_iff_ne, beq_iff_eq, ne_eq, bne_eq_false_iff_eq, beq_eq_false_iff_ne, Bool.not_eq_true', Bool.not_eq_false', Int.not_lt, Int.not_le, Bool.not_not, Bool.and_eq_true, Bool.and_eq_false_iff, Bool.true_and, Bool.and_true, beq_self_eq_true, Bool.or_eq_true, Bool.or_eq_false_iff] at k1
      refine XO.pass rfl ?_
      refine XO.pass rfl ?_
      refine XO.pu (Pu.pickF rfl rfl) ?_
      exact XO.fin M1 ⟨andF g1, congrArg (fun x => some (Value.bool x)) g1.symm, rfl, rfl, trivial⟩
    · skip
      refine XO.pu (Pu.assign rfl) ?_
      refine XO.nil ?_
      refine X.sub (p' := [(2, _)]) ⟨rfl, trivial⟩ ?_
      refine X.retL (q) Try.func69 (res1 Try.results69 rfl) ⟨_, rfl, congrArg Value.bool (by rw [Bool.eq_iff_iff]; simp only [decide_eq_true_eq, Bool.and_eq_true, thr] at *; omega), rfl⟩
theorem num_ok {t : Int} (h : -9223372036854775808 ≤ t ∧ t ≤ 9223372036854775807) : CallF Try.prog G 14 [.int .i64 t] q (Ret fun v q' => v = .int .i64 t ∧ q' = q) := by
  refine CallF.of Try.func14 Try.ntmps14 rfl (fun F cs => ?_)
  refine X.sub (p' := [(0, _)]) ⟨rfl, trivial⟩ ?_
  refine X.seq ?_
  refine X.region ?_
  refine XO.pu (Pu.assign rfl) ?_
  refine XO.nil ?_
  refine X.sub (p' := [(2, _), (0, _)]) ⟨rfl, rfl, trivial⟩ ?_
  refine X.seq ?_
  refine X.region ?_
  refine XO.pu (Pu.move rfl) ?_
  refine XO.pu (Pu.assign rfl) ?_
  refine XO.nil ?_
  refine X.sub (p' := [(2, _)]) ⟨rfl, trivial⟩ ?_
  refine X.retL (q) Try.func14 (res1 Try.results14 rfl) ⟨_, rfl, rfl, rfl⟩
end
section
variable {α : Type} {f : α → List Value} {sz ty : Nat} {G : World} {q : List HP} {a : Option Addr} {c c0 g i : Nat} {l : List α} {m : List Int} {t : Int} {u : Option Addr → Nat → α}
theorem Cl.at1 {q : List HP} {m : List Int} (hs : Sees q (some ⟨g, 0, none⟩) (m.map I64)) (hi : i < m.length) : Cl q ⟨g, i * 1, none⟩ (I64 m[i]) := by
  have := hs.cl (i := i) (u := I64 m[i]) (by simp [hi])
  simpa using this
theorem Cl.at {q : List HP} {o : Nat} {y : α} {k : Nat} {v : Value} (hs : Sees q (some ⟨g, 0, none⟩) (l.flatMap f)) (hf : ∀ x, (f x).length = sz) (hi : l[i]? = some y) (hk : k < sz) (hv : (f y)[k]? = some v) (ho : o = i * sz + k) : Cl q ⟨g, o, none⟩ v := by
  subst ho
  have := hs.cl (i := i * sz + k) (u := v) (by rw [get_flatMap hf l i k y hk hi]; exact hv)
  simpa using this
theorem put_ok (hi : i < l.length) (hf : ∀ x, (f x).length = sz) (hk : (f l[i])[0]? = some (.slice a m.length c)) (hz : Nat.blt 0 sz = true) (hm : m.length ≤ 1000000) (hu : ∀ a' c', (f l[i]).set 0 (.slice a' (m ++ [t]).length c') = f (u a' c')) : CallF Try.prog G 39 [.pointer (some ⟨g, i * sz, none⟩), .int .i64 t] [rsH f sz ty (some ⟨g, 0, none⟩) c0 l, lsH I64 3 a c m] (Ret fun v q' => ∃ a' c', q' = [rsH f sz ty (some ⟨g, 0, none⟩) c0 (l.set i (u a' c')), lsH I64 3 a' c' (m ++ [t])]) := by
  refine CallF.of Try.func39 Try.ntmps39 rfl (fun F cs => ?_)
  refine X.sub (p' := [(0, _), (1, _)]) ⟨rfl, rfl, trivial⟩ ?_
  have hz' : 0 < sz := by simpa [Nat.blt_eq] using hz
  have hs : Sees (rsH f sz ty (some ⟨g, 0, none⟩) c0 l :: lsH I64 3 a c m :: F) (some ⟨g, 0, none⟩) (l.flatMap f) := Sees.rsH _
  have hc : Cl (rsH f sz ty (some ⟨g, 0, none⟩) c0 l :: lsH I64 3 a c m :: F) ⟨g, i * sz, none⟩ (.slice a m.length c) := Cl.at hs hf (List.getElem?_eq_getElem hi) hz' hk (by omega)
  change X _ _ _ _ _ _ _ _ (rsH f sz ty (some ⟨g, 0, none⟩) c0 l :: lsH I64 3 a c m :: F)
  refine X.region ?_
  refine XO.pu (Pu.move rfl) ?_
  refine XO.pu (Pu.move rfl) ?_
  refine XO.pu (Pu.nilCheck rfl) ?_
  refine XO.pu (Pu.fieldAddr 29 0 0 rfl Try.underlying87 rfl Try.sizeOf29) ?_
  refine XO.ld Try.isAgg29 ?_ (hc := hc)
  refine XO.pu (Pu.move rfl) ?_
  refine XO.ef (Ef.lit1 (u := t) I64 Try.underlying29 Try.info3 rfl rfl) ?_
  rintro _ _ ⟨g2, rfl, rfl⟩
  refine XO.ef (Ef.appA (f := I64) (l := m) (m := [t]) Try.underlying29 Try.info3 rfl rfl rfl fndA ((Sees.lsH _).le leA) (fun _ => rfl) (by simp; omega) (by simp; omega)) ?_
  rintro _ _ ⟨a2, c2, rfl, rfl⟩
  refine XO.pu (Pu.nilCheck rfl) ?_
  refine XO.pu (Pu.fieldAddr 29 0 0 rfl Try.underlying87 rfl Try.sizeOf29) ?_
  refine XO.ef0 (Ef.setR (g := g) (f := f) (l := l) (u := (u a2 c2)) (n := i) (k := 0) (j := (i : Int)) (by simp [evp, lkp]) rfl Try.sizeOf29 hf rfl hi hz (hu _ _) rfl rfl fndA) ?_
  rintro _ _ ⟨rfl, rfl⟩
  refine XO.nil ?_
  refine X.sub (p' := []) trivial ?_
  refine X.fallL [rsH f sz ty (some ⟨g, 0, none⟩) c0 (l.set i (u a2 c2)), lsH I64 3 a2 c2 (m ++ [t])] Try.func39 (res0 Try.results39) ⟨_, rfl, a2, c2, rfl⟩
theorem all_ok (hi : i < l.length) (hf : ∀ x, (f x).length = sz) (hk : (f l[i])[0]? = some (.slice a m.length c)) (hz : Nat.blt 0 sz = true) (hm : m.length ≤ 1000000) : CallF Try.prog G 45 [.pointer (some ⟨g, i * sz, none⟩)] [rsH f sz ty (some ⟨g, 0, none⟩) c0 l, lsH I64 3 a c m] (Ret fun v q' => ∃ a' c', v = .slice a' m.length c' ∧ q' = [lsH I64 3 a' c' m, rsH f sz ty (some ⟨g, 0, none⟩) c0 l, lsH I64 3 a c m]) := by
  refine CallF.of Try.func45 Try.ntmps45 rfl (fun F cs => ?_)
  refine X.sub (p' := [(0, _)]) ⟨rfl, trivial⟩ ?_
  have hz' : 0 < sz := by simpa [Nat.blt_eq] using hz
  have hs : Sees (rsH f sz ty (some ⟨g, 0, none⟩) c0 l :: lsH I64 3 a c m :: F) (some ⟨g, 0, none⟩) (l.flatMap f) := Sees.rsH _
  have hc : Cl (rsH f sz ty (some ⟨g, 0, none⟩) c0 l :: lsH I64 3 a c m :: F) ⟨g, i * sz, none⟩ (.slice a m.length c) := Cl.at hs hf (List.getElem?_eq_getElem hi) hz' hk (by omega)
  change X _ _ _ _ _ _ _ _ (rsH f sz ty (some ⟨g, 0, none⟩) c0 l :: lsH I64 3 a c m :: F)
  refine X.seq ?_
  refine X.region ?_
  refine XO.pu (Pu.assign rfl) ?_
  refine XO.nil ?_
  refine X.sub (p' := [(2, _), (0, _)]) ⟨rfl, rfl, trivial⟩ ?_
  refine X.seq ?_
  refine X.region ?_
  refine XO.pu (Pu.move rfl) ?_
  refine XO.pu (Pu.nilCheck rfl) ?_
  refine XO.pu (Pu.fieldAddr 29 0 0 rfl Try.underlying87 rfl Try.sizeOf29) ?_
  refine XO.ld Try.isAgg29 ?_ (hc := hc)
  refine XO.cX Try.call56 (Le.refl _) (Clone_ok (a := a) (c := c) (l := m) ((Sees.lsH _).le leA) (by omega)) ?_
  rintro _ _ ⟨a2, c2, rfl, rfl⟩
  refine XO.pu (Pu.assign rfl) ?_
  refine XO.nil ?_
  refine X.sub (p' := [(2, _)]) ⟨rfl, trivial⟩ ?_
  refine X.retL [lsH I64 3 a2 c2 m, rsH f sz ty (some ⟨g, 0, none⟩) c0 l, lsH I64 3 a c m] Try.func45 (res1 Try.results45 rfl) ⟨_, rfl, a2, c2, rfl, rfl⟩
theorem take_no (hi : i < l.length) (hf : ∀ x, (f x).length = sz) (hk : (f l[i])[0]? = some (.slice a m.length c)) (hz : Nat.blt 0 sz = true) (hm : m.length ≤ 1000000) (he : m = []) : CallF Try.prog G 40 [.pointer (some ⟨g, i * sz, none⟩)] [rsH f sz ty (some ⟨g, 0, none⟩) c0 l, lsH I64 3 a c m] (Ret fun v q' => v = .tuple [.int .i64 0, .bool false].toArray ∧ q' = [rsH f sz ty (some ⟨g, 0, none⟩) c0 l, lsH I64 3 a c m]) := by
  refine CallF.of Try.func40 Try.ntmps40 rfl (fun F cs => ?_)
  refine X.sub (p' := [(0, _)]) ⟨rfl, trivial⟩ ?_
  have hz' : 0 < sz := by simpa [Nat.blt_eq] using hz
  have hs : Sees (rsH f sz ty (some ⟨g, 0, none⟩) c0 l :: lsH I64 3 a c m :: F) (some ⟨g, 0, none⟩) (l.flatMap f) := Sees.rsH _
  have hc : Cl (rsH f sz ty (some ⟨g, 0, none⟩) c0 l :: lsH I64 3 a c m :: F) ⟨g, i * sz, none⟩ (.slice a m.length c) := Cl.at hs hf (List.getElem?_eq_getElem hi) hz' hk (by omega)
  change X _ _ _ _ _ _ _ _ (rsH f sz ty (some ⟨g, 0, none⟩) c0 l :: lsH I64 3 a c m :: F)
  have h0 : m.length = 0 := by rw [he]; rfl
  refine X.seq ?_
  refine X.region ?_
  refine XO.pu (Pu.assign rfl) ?_
  refine XO.pu (Pu.assign rfl) ?_
  refine XO.nil ?_
  refine X.sub (p' := [(3, _), (2, _), (0, _)]) ⟨rfl, rfl, rfl, trivial⟩ ?_
  refine X.seq ?_
  refine X.region ?_
  refine XO.pu (Pu.assign rfl) ?_
  refine XO.nil ?_
  refine X.sub (p' := [(4, _), (3, _), (2, _), (0, _)]) ⟨rfl, rfl, rfl, rfl, trivial⟩ ?_
  refine X.seq ?_
  refine X.seq ?_
  refine X.region ?_
  refine XO.pu (Pu.move rfl) ?_
  refine XO.pu (Pu.nilCheck rfl) ?_
  refine XO.pu (Pu.fieldAddr 29 0 0 rfl Try.underlying87 rfl Try.sizeOf29) ?_
  refine XO.ld Try.isAgg29 ?_ (hc := hc)
  refine XO.pu (Pu.len rfl Try.underlying29) ?_
  refine XO.pu (Pu.eql rfl rfl) ?_
  refine XO.nil ?_
  refine X.sub (p' := [(11, _), (4, _), (3, _), (2, _), (0, _)]) ⟨rfl, rfl, rfl, rfl, rfl, trivial⟩ ?_
  refine X.know 11 (.bool true) rfl (congrArg Value.bool (by simp [h0])) ?_
  refine X.condT rfl ?_
  refine X.seq ?_
  refine X.region ?_
  refine XO.pu (Pu.move rfl) ?_
  refine XO.pu (Pu.assign rfl) ?_
  refine XO.pu (Pu.assign rfl) ?_
  refine XO.nil ?_
  refine X.sub (p' := [(3, _), (2, _), (0, _)]) ⟨rfl, rfl, rfl, trivial⟩ ?_
  refine X.retL [rsH f sz ty (some ⟨g, 0, none⟩) c0 l, lsH I64 3 a c m] Try.func40 (res2 Try.results40 rfl rfl) ⟨_, rfl, rfl, rfl⟩
theorem take_ok (hi : i < l.length) (hf : ∀ x, (f x).length = sz) (hk : (f l[i])[0]? = some (.slice a m.length c)) (hz : Nat.blt 0 sz = true) (hm : m.length ≤ 1000000) (he : m ≠ []) (hu : ∀ a' c', (f l[i]).set 0 (.slice a' (m.drop 1).length c') = f (u a' c')) : CallF Try.prog G 40 [.pointer (some ⟨g, i * sz, none⟩)] [rsH f sz ty (some ⟨g, 0, none⟩) c0 l, lsH I64 3 a c m] (Ret fun v q' => ∃ a' c', v = .tuple [.int .i64 (m.headD 0), .bool true].toArray ∧ q' = [rsH f sz ty (some ⟨g, 0, none⟩) c0 (l.set i (u a' c')), lsH I64 3 a' c' (m.drop 1)]) := by
  refine CallF.of Try.func40 Try.ntmps40 rfl (fun F cs => ?_)
  refine X.sub (p' := [(0, _)]) ⟨rfl, trivial⟩ ?_
  have hz' : 0 < sz := by simpa [Nat.blt_eq] using hz
  have hs : Sees (rsH f sz ty (some ⟨g, 0, none⟩) c0 l :: lsH I64 3 a c m :: F) (some ⟨g, 0, none⟩) (l.flatMap f) := Sees.rsH _
  have hc : Cl (rsH f sz ty (some ⟨g, 0, none⟩) c0 l :: lsH I64 3 a c m :: F) ⟨g, i * sz, none⟩ (.slice a m.length c) := Cl.at hs hf (List.getElem?_eq_getElem hi) hz' hk (by omega)
  change X _ _ _ _ _ _ _ _ (rsH f sz ty (some ⟨g, 0, none⟩) c0 l :: lsH I64 3 a c m :: F)
  obtain ⟨x0, r0, rfl⟩ : ∃ x r, m = x :: r := by cases m with | nil => exact absurd rfl he | cons x r => exact ⟨x, r, rfl⟩
  have hll : (x0 :: r0).length = r0.length + 1 := rfl
  refine X.seq ?_
  refine X.region ?_
  refine XO.pu (Pu.assign rfl) ?_
  refine XO.pu (Pu.assign rfl) ?_
  refine XO.nil ?_
  refine X.sub (p' := [(3, _), (2, _), (0, _)]) ⟨rfl, rfl, rfl, trivial⟩ ?_
  refine X.seq ?_
  refine X.region ?_
  refine XO.pu (Pu.assign rfl) ?_
  refine XO.nil ?_
  refine X.sub (p' := [(4, _), (3, _), (2, _), (0, _)]) ⟨rfl, rfl, rfl, rfl, trivial⟩ ?_
  refine X.seq ?_
  refine X.seq ?_
  refine X.region ?_
  refine XO.pu (Pu.move rfl) ?_
  refine XO.pu (Pu.nilCheck rfl) ?_
  refine XO.pu (Pu.fieldAddr 29 0 0 rfl Try.underlying87 rfl Try.sizeOf29) ?_
  refine XO.ld Try.isAgg29 ?_ (hc := hc)
  refine XO.pu (Pu.len rfl Try.underlying29) ?_
  refine XO.pu (Pu.eql rfl rfl) ?_
  refine XO.nil ?_
  refine X.sub (p' := [(11, _), (4, _), (3, _), (2, _), (0, _)]) ⟨rfl, rfl, rfl, rfl, rfl, trivial⟩ ?_
  refine X.know 11 (.bool false) rfl (congrArg Value.bool (by simp; omega)) ?_
  refine X.lsadr (l := x0 :: r0) (by simp) (fun g5 e_ => ?_); subst e_
  refine X.fact (fun w s => (s.le (show Le _ (lsH I64 3 (some ⟨g5, 0, none⟩) c (x0 :: r0) :: _) from fndA)).lsLen) (fun hcap => ?_)
  have hsm : Sees (rsH f sz ty (some ⟨g, 0, none⟩) c0 l :: lsH I64 3 (some ⟨g5, 0, none⟩) c (x0 :: r0) :: F) (some ⟨g5, 0, none⟩) ((x0 :: r0).map I64) := (Sees.lsH _).le leA
  refine X.condF rfl ?_
  refine X.skip ?_
  refine X.seq ?_
  refine X.region ?_
  refine XO.pu (Pu.move rfl) ?_
  refine XO.pu (Pu.nilCheck rfl) ?_
  refine XO.pu (Pu.fieldAddr 29 0 0 rfl Try.underlying87 rfl Try.sizeOf29) ?_
  refine XO.ld Try.isAgg29 ?_ (hc := (by first | exact hc | exact (Sees.at (j := 0) (n := 0) hsm rfl (by simp))))
  refine XO.pu (Pu.indexAddr rfl rfl Try.underlying29 Try.sizeOf3 (by omega) (by omega)) ?_
  refine XO.ld Try.isAgg3 ?_ (hc := (by first | exact hc | exact (Sees.at (j := 0) (n := 0) hsm rfl (by simp))))
  refine XO.pu (Pu.assign rfl) ?_
  refine XO.nil ?_
  refine X.sub (p' := [(5, _), (3, _), (2, _), (0, _)]) ⟨rfl, rfl, rfl, rfl, trivial⟩ ?_
  refine X.seq ?_
  refine X.region ?_
  refine XO.pu (Pu.move rfl) ?_
  refine XO.pu (Pu.move rfl) ?_
  refine XO.pu (Pu.nilCheck rfl) ?_
  refine XO.pu (Pu.fieldAddr 29 0 0 rfl Try.underlying87 rfl Try.sizeOf29) ?_
  refine XO.ld Try.isAgg29 ?_ (hc := (by first | exact hc | exact (Sees.at (j := 0) (n := 0) hsm rfl (by simp))))
  refine XO.pu (Pu.sliceLo rfl rfl Try.underlying29 Try.sizeOf3 (by omega) (by omega)) ?_
  refine XO.know 24 (.slice (sufA (some ⟨g5, 0, none⟩) c 1 1) r0.length (c - 1)) rfl (by simp) ?_
  refine XO.cX Try.call56 (Le.refl _) (Clone_ok (l := r0) (a := sufA (some ⟨g5, 0, none⟩) c 1 1) (c := c - 1) (by have := hsm.suf (l := 1) (c := c) (sz := 1) (by simp at hcap ⊢; omega); simpa using this) (by simp at hm; omega)) ?_
  rintro _ _ ⟨a2, c2, rfl, rfl⟩
  refine XO.pu (Pu.nilCheck rfl) ?_
  refine XO.pu (Pu.fieldAddr 29 0 0 rfl Try.underlying87 rfl Try.sizeOf29) ?_
  refine XO.ef0 (Ef.setR (g := g) (f := f) (l := l) (u := (u a2 c2)) (n := i) (k := 0) (j := (i : Int)) (by simp [evp, lkp]) rfl Try.sizeOf29 hf rfl hi hz (hu _ _) rfl rfl fndA) ?_
  rintro _ _ ⟨rfl, rfl⟩
  refine XO.nil ?_
  refine X.sub (p' := [(5, _), (3, _), (2, _)]) ⟨rfl, rfl, rfl, trivial⟩ ?_
  refine X.seq ?_
  refine X.region ?_
  refine XO.pu (Pu.move rfl) ?_
  refine XO.pu (Pu.assign rfl) ?_
  refine XO.pu (Pu.assign rfl) ?_
  refine XO.nil ?_
  refine X.sub (p' := [(3, _), (2, _)]) ⟨rfl, rfl, trivial⟩ ?_
  refine X.retL [rsH f sz ty (some ⟨g, 0, none⟩) c0 (l.set i (u a2 c2)), lsH I64 3 a2 c2 r0] Try.func40 (res2 Try.results40 rfl rfl) ⟨_, rfl, a2, c2, rfl, rfl⟩
theorem put64_ok (hi : i < l.length) (hf : ∀ x, (f x).length = sz) (hk : (f l[i])[0]? = some (.slice a m.length c)) (hz : Nat.blt 0 sz = true) (hm : m.length ≤ 1000000) (hu : ∀ a' c', (f l[i]).set 0 (.slice a' (m ++ [t]).length c') = f (u a' c')) : CallF Try.prog G 43 [.pointer (some ⟨g, i * sz, none⟩), .int .i64 t] [rsH f sz ty (some ⟨g, 0, none⟩) c0 l, lsH I64 2 a c m] (Ret fun v q' => ∃ a' c', q' = [rsH f sz ty (some ⟨g, 0, none⟩) c0 (l.set i (u a' c')), lsH I64 2 a' c' (m ++ [t])]) := by
  refine CallF.of Try.func43 Try.ntmps43 rfl (fun F cs => ?_)
  refine X.sub (p' := [(0, _), (1, _)]) ⟨rfl, rfl, trivial⟩ ?_
  have hz' : 0 < sz := by simpa [Nat.blt_eq] using hz
  have hs : Sees (rsH f sz ty (some ⟨g, 0, none⟩) c0 l :: lsH I64 2 a c m :: F) (some ⟨g, 0, none⟩) (l.flatMap f) := Sees.rsH _
  have hc : Cl (rsH f sz ty (some ⟨g, 0, none⟩) c0 l :: lsH I64 2 a c m :: F) ⟨g, i * sz, none⟩ (.slice a m.length c) := Cl.at hs hf (List.getElem?_eq_getElem hi) hz' hk (by omega)
  change X _ _ _ _ _ _ _ _ (rsH f sz ty (some ⟨g, 0, none⟩) c0 l :: lsH I64 2 a c m :: F)
  refine X.region ?_
  refine XO.pu (Pu.move rfl) ?_
  refine XO.pu (Pu.move rfl) ?_
  refine XO.pu (Pu.nilCheck rfl) ?_
  refine XO.pu (Pu.fieldAddr 28 0 0 rfl Try.underlying76 rfl Try.sizeOf28) ?_
  refine XO.ld Try.isAgg28 ?_ (hc := hc)
  refine XO.pu (Pu.move rfl) ?_
  refine XO.ef (Ef.lit1 (u := t) I64 Try.underlying28 Try.info2 rfl rfl) ?_
  rintro _ _ ⟨g2, rfl, rfl⟩
  refine XO.ef (Ef.appA (f := I64) (l := m) (m := [t]) Try.underlying28 Try.info2 rfl rfl rfl fndA ((Sees.lsH _).le leA) (fun _ => rfl) (by simp; omega) (by simp; omega)) ?_
  rintro _ _ ⟨a2, c2, rfl, rfl⟩
  refine XO.pu (Pu.nilCheck rfl) ?_
  refine XO.pu (Pu.fieldAddr 28 0 0 rfl Try.underlying76 rfl Try.sizeOf28) ?_
  refine XO.ef0 (Ef.setR (g := g) (f := f) (l := l) (u := (u a2 c2)) (n := i) (k := 0) (j := (i : Int)) (by simp [evp, lkp]) rfl Try.sizeOf28 hf rfl hi hz (hu _ _) rfl rfl fndA) ?_
  rintro _ _ ⟨rfl, rfl⟩
  refine XO.nil ?_
  refine X.sub (p' := []) trivial ?_
  refine X.fallL [rsH f sz ty (some ⟨g, 0, none⟩) c0 (l.set i (u a2 c2)), lsH I64 2 a2 c2 (m ++ [t])] Try.func43 (res0 Try.results43) ⟨_, rfl, a2, c2, rfl⟩
theorem all64_ok (hi : i < l.length) (hf : ∀ x, (f x).length = sz) (hk : (f l[i])[0]? = some (.slice a m.length c)) (hz : Nat.blt 0 sz = true) (hm : m.length ≤ 1000000) : CallF Try.prog G 54 [.pointer (some ⟨g, i * sz, none⟩)] [rsH f sz ty (some ⟨g, 0, none⟩) c0 l, lsH I64 2 a c m] (Ret fun v q' => ∃ a' c', v = .slice a' m.length c' ∧ q' = [lsH I64 2 a' c' m, rsH f sz ty (some ⟨g, 0, none⟩) c0 l, lsH I64 2 a c m]) := by
  refine CallF.of Try.func54 Try.ntmps54 rfl (fun F cs => ?_)
  refine X.sub (p' := [(0, _)]) ⟨rfl, trivial⟩ ?_
  have hz' : 0 < sz := by simpa [Nat.blt_eq] using hz
  have hs : Sees (rsH f sz ty (some ⟨g, 0, none⟩) c0 l :: lsH I64 2 a c m :: F) (some ⟨g, 0, none⟩) (l.flatMap f) := Sees.rsH _
  have hc : Cl (rsH f sz ty (some ⟨g, 0, none⟩) c0 l :: lsH I64 2 a c m :: F) ⟨g, i * sz, none⟩ (.slice a m.length c) := Cl.at hs hf (List.getElem?_eq_getElem hi) hz' hk (by omega)
  change X _ _ _ _ _ _ _ _ (rsH f sz ty (some ⟨g, 0, none⟩) c0 l :: lsH I64 2 a c m :: F)
  refine X.seq ?_
  refine X.region ?_
  refine XO.pu (Pu.assign rfl) ?_
  refine XO.nil ?_
  refine X.sub (p' := [(2, _), (0, _)]) ⟨rfl, rfl, trivial⟩ ?_
  refine X.seq ?_
  refine X.region ?_
  refine XO.pu (Pu.move rfl) ?_
  refine XO.pu (Pu.nilCheck rfl) ?_
  refine XO.pu (Pu.fieldAddr 28 0 0 rfl Try.underlying76 rfl Try.sizeOf28) ?_
  refine XO.ld Try.isAgg28 ?_ (hc := hc)
  refine XO.cX Try.call68 (Le.refl _) (Clone64_ok (a := a) (c := c) (l := m) ((Sees.lsH _).le leA) (by omega)) ?_
  rintro _ _ ⟨a2, c2, rfl, rfl⟩
  refine XO.pu (Pu.assign rfl) ?_
  refine XO.nil ?_
  refine X.sub (p' := [(2, _)]) ⟨rfl, trivial⟩ ?_
  refine X.retL [lsH I64 2 a2 c2 m, rsH f sz ty (some ⟨g, 0, none⟩) c0 l, lsH I64 2 a c m] Try.func54 (res1 Try.results54 rfl) ⟨_, rfl, a2, c2, rfl, rfl⟩
theorem take64_no (hi : i < l.length) (hf : ∀ x, (f x).length = sz) (hk : (f l[i])[0]? = some (.slice a m.length c)) (hz : Nat.blt 0 sz = true) (hm : m.length ≤ 1000000) (he : m = []) : CallF Try.prog G 44 [.pointer (some ⟨g, i * sz, none⟩)] [rsH f sz ty (some ⟨g, 0, none⟩) c0 l, lsH I64 2 a c m] (Ret fun v q' => v = .tuple [.int .i64 0, .bool false].toArray ∧ q' = [rsH f sz ty (some ⟨g, 0, none⟩) c0 l, lsH I64 2 a c m]) := by
  refine CallF.of Try.func44 Try.ntmps44 rfl (fun F cs => ?_)
  refine X.sub (p' := [(0, _)]) ⟨rfl, trivial⟩ ?_
  have hz' : 0 < sz := by simpa [Nat.blt_eq] using hz
  have hs : Sees (rsH f sz ty (some ⟨g, 0, none⟩) c0 l :: lsH I64 2 a c m :: F) (some ⟨g, 0, none⟩) (l.flatMap f) := Sees.rsH _
  have hc : Cl (rsH f sz ty (some ⟨g, 0, none⟩) c0 l :: lsH I64 2 a c m :: F) ⟨g, i * sz, none⟩ (.slice a m.length c) := Cl.at hs hf (List.getElem?_eq_getElem hi) hz' hk (by omega)
  change X _ _ _ _ _ _ _ _ (rsH f sz ty (some ⟨g, 0, none⟩) c0 l :: lsH I64 2 a c m :: F)
  have h0 : m.length = 0 := by rw [he]; rfl
  refine X.seq ?_
  refine X.region ?_
  refine XO.pu (Pu.assign rfl) ?_
  refine XO.pu (Pu.assign rfl) ?_
  refine XO.nil ?_
  refine X.sub (p' := [(3, _), (2, _), (0, _)]) ⟨rfl, rfl, rfl, trivial⟩ ?_
  refine X.seq ?_
  refine X.region ?_
  refine XO.pu (Pu.assign rfl) ?_
  refine XO.nil ?_
  refine X.sub (p' := [(4, _), (3, _), (2, _), (0, _)]) ⟨rfl, rfl, rfl, rfl, trivial⟩ ?_
  refine X.seq ?_
  refine X.seq ?_
  refine X.region ?_
  refine XO.pu (Pu.move rfl) ?_
  refine XO.pu (Pu.nilCheck rfl) ?_
  refine XO.pu (Pu.fieldAddr 28 0 0 rfl Try.underlying76 rfl Try.sizeOf28) ?_
  refine XO.ld Try.isAgg28 ?_ (hc := hc)
  refine XO.pu (Pu.len rfl Try.underlying28) ?_
  refine XO.pu (Pu.eql rfl rfl) ?_
  refine XO.nil ?_
  refine X.sub (p' := [(11, _), (4, _), (3, _), (2, _), (0, _)]) ⟨rfl, rfl, rfl, rfl, rfl, trivial⟩ ?_
  refine X.know 11 (.bool true) rfl (congrArg Value.bool (by simp [h0])) ?_
  refine X.condT rfl ?_
  refine X.seq ?_
  refine X.region ?_
  refine XO.pu (Pu.move rfl) ?_
  refine XO.pu (Pu.assign rfl) ?_
  refine XO.pu (Pu.assign rfl) ?_
  refine XO.nil ?_
  refine X.sub (p' := [(3, _), (2, _), (0, _)]) ⟨rfl, rfl, rfl, trivial⟩ ?_
  refine X.retL [rsH f sz ty (some ⟨g, 0, none⟩) c0 l, lsH I64 2 a c m] Try.func44 (res2 Try.results44 rfl rfl) ⟨_, rfl, rfl, rfl⟩
theorem take64_ok (hi : i < l.length) (hf : ∀ x, (f x).length = sz) (hk : (f l[i])[0]? = some (.slice a m.length c)) (hz : Nat.blt 0 sz = true) (hm : m.length ≤ 1000000) (he : m ≠ []) (hu : ∀ a' c', (f l[i]).set 0 (.slice a' (m.drop 1).length c') = f (u a' c')) : CallF Try.prog G 44 [.pointer (some ⟨g, i * sz, none⟩)] [rsH f sz ty (some ⟨g, 0, none⟩) c0 l, lsH I64 2 a c m] (Ret fun v q' => ∃ a' c', v = .tuple [.int .i64 (m.headD 0), .bool true].toArray ∧ q' = [rsH f sz ty (some ⟨g, 0, none⟩) c0 (l.set i (u a' c')), lsH I64 2 a' c' (m.drop 1)]) := by
  refine CallF.of Try.func44 Try.ntmps44 rfl (fun F cs => ?_)
  refine X.sub (p' := [(0, _)]) ⟨rfl, trivial⟩ ?_
  have hz' : 0 < sz := by simpa [Nat.blt_eq] using hz
  have hs : Sees (rsH f sz ty (some ⟨g, 0, none⟩) c0 l :: lsH I64 2 a c m :: F) (some ⟨g, 0, none⟩) (l.flatMap f) := Sees.rsH _
  have hc : Cl (rsH f sz ty (some ⟨g, 0, none⟩) c0 l :: lsH I64 2 a c m :: F) ⟨g, i * sz, none⟩ (.slice a m.length c) := Cl.at hs hf (List.getElem?_eq_getElem hi) hz' hk (by omega)
  change X _ _ _ _ _ _ _ _ (rsH f sz ty (some ⟨g, 0, none⟩) c0 l :: lsH I64 2 a c m :: F)
  obtain ⟨x0, r0, rfl⟩ : ∃ x r, m = x :: r := by cases m with | nil => exact absurd rfl he | cons x r => exact ⟨x, r, rfl⟩
  have hll : (x0 :: r0).length = r0.length + 1 := rfl
  refine X.seq ?_
  refine X.region ?_
  refine XO.pu (Pu.assign rfl) ?_
  refine XO.pu (Pu.assign rfl) ?_
  refine XO.nil ?_
  refine X.sub (p' := [(3, _), (2, _), (0, _)]) ⟨rfl, rfl, rfl, trivial⟩ ?_
  refine X.seq ?_
  refine X.region ?_
  refine XO.pu (Pu.assign rfl) ?_
  refine XO.nil ?_
  refine X.sub (p' := [(4, _), (3, _), (2, _), (0, _)]) ⟨rfl, rfl, rfl, rfl, trivial⟩ ?_
  refine X.seq ?_
  refine X.seq ?_
  refine X.region ?_
  refine XO.pu (Pu.move rfl) ?_
  refine XO.pu (Pu.nilCheck rfl) ?_
  refine XO.pu (Pu.fieldAddr 28 0 0 rfl Try.underlying76 rfl Try.sizeOf28) ?_
  refine XO.ld Try.isAgg28 ?_ (hc := hc)
  refine XO.pu (Pu.len rfl Try.underlying28) ?_
  refine XO.pu (Pu.eql rfl rfl) ?_
  refine XO.nil ?_
  refine X.sub (p' := [(11, _), (4, _), (3, _), (2, _), (0, _)]) ⟨rfl, rfl, rfl, rfl, rfl, trivial⟩ ?_
  refine X.know 11 (.bool false) rfl (congrArg Value.bool (by simp; omega)) ?_
  refine X.lsadr (l := x0 :: r0) (by simp) (fun g5 e_ => ?_); subst e_
  refine X.fact (fun w s => (s.le (show Le _ (lsH I64 2 (some ⟨g5, 0, none⟩) c (x0 :: r0) :: _) from fndA)).lsLen) (fun hcap => ?_)
  have hsm : Sees (rsH f sz ty (some ⟨g, 0, none⟩) c0 l :: lsH I64 2 (some ⟨g5, 0, none⟩) c (x0 :: r0) :: F) (some ⟨g5, 0, none⟩) ((x0 :: r0).map I64) := (Sees.lsH _).le leA
  refine X.condF rfl ?_
  refine X.skip ?_
  refine X.seq ?_
  refine X.region ?_
  refine XO.pu (Pu.move rfl) ?_
  refine XO.pu (Pu.nilCheck rfl) ?_
  refine XO.pu (Pu.fieldAddr 28 0 0 rfl Try.underlying76 rfl Try.sizeOf28) ?_
  refine XO.ld Try.isAgg28 ?_ (hc := (by first | exact hc | exact (Sees.at (j := 0) (n := 0) hsm rfl (by simp))))
  refine XO.pu (Pu.indexAddr rfl rfl Try.underlying28 Try.sizeOf2 (by omega) (by omega)) ?_
  refine XO.ld Try.isAgg2 ?_ (hc := (by first | exact hc | exact (Sees.at (j := 0) (n := 0) hsm rfl (by simp))))
  refine XO.pu (Pu.assign rfl) ?_
  refine XO.nil ?_
  refine X.sub (p' := [(5, _), (3, _), (2, _), (0, _)]) ⟨rfl, rfl, rfl, rfl, trivial⟩ ?_
  refine X.seq ?_
  refine X.region ?_
  refine XO.pu (Pu.move rfl) ?_
  refine XO.pu (Pu.move rfl) ?_
  refine XO.pu (Pu.nilCheck rfl) ?_
  refine XO.pu (Pu.fieldAddr 28 0 0 rfl Try.underlying76 rfl Try.sizeOf28) ?_
  refine XO.ld Try.isAgg28 ?_ (hc := (by first | exact hc | exact (Sees.at (j := 0) (n := 0) hsm rfl (by simp))))
  refine XO.pu (Pu.sliceLo rfl rfl Try.underlying28 Try.sizeOf2 (by omega) (by omega)) ?_
  refine XO.know 24 (.slice (sufA (some ⟨g5, 0, none⟩) c 1 1) r0.length (c - 1)) rfl (by simp) ?_
  refine XO.cX Try.call68 (Le.refl _) (Clone64_ok (l := r0) (a := sufA (some ⟨g5, 0, none⟩) c 1 1) (c := c - 1) (by have := hsm.suf (l := 1) (c := c) (sz := 1) (by simp at hcap ⊢; omega); simpa using this) (by simp at hm; omega)) ?_
  rintro _ _ ⟨a2, c2, rfl, rfl⟩
  refine XO.pu (Pu.nilCheck rfl) ?_
  refine XO.pu (Pu.fieldAddr 28 0 0 rfl Try.underlying76 rfl Try.sizeOf28) ?_
  refine XO.ef0 (Ef.setR (g := g) (f := f) (l := l) (u := (u a2 c2)) (n := i) (k := 0) (j := (i : Int)) (by simp [evp, lkp]) rfl Try.sizeOf28 hf rfl hi hz (hu _ _) rfl rfl fndA) ?_
  rintro _ _ ⟨rfl, rfl⟩
  refine XO.nil ?_
  refine X.sub (p' := [(5, _), (3, _), (2, _)]) ⟨rfl, rfl, rfl, trivial⟩ ?_
  refine X.seq ?_
  refine X.region ?_
  refine XO.pu (Pu.move rfl) ?_
  refine XO.pu (Pu.assign rfl) ?_
  refine XO.pu (Pu.assign rfl) ?_
  refine XO.nil ?_
  refine X.sub (p' := [(3, _), (2, _)]) ⟨rfl, rfl, trivial⟩ ?_
  refine X.retL [rsH f sz ty (some ⟨g, 0, none⟩) c0 (l.set i (u a2 c2)), lsH I64 2 a2 c2 r0] Try.func44 (res2 Try.results44 rfl rfl) ⟨_, rfl, a2, c2, rfl, rfl⟩
end
end Go.Proofs.Ytlgnnhpbomfdiaa

