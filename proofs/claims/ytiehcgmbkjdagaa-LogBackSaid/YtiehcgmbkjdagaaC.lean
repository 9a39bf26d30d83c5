/- What functions of package log, of its references and of its laws do: contracts of calls, proved by walking their code. -/
import Derived.Test.YtiehcgmbkjdagaaB
import Derived.KernelRfl
set_option maxRecDepth 100000
set_option linter.unusedVariables false
set_option linter.unusedSimpArgs false
namespace Go.Proofs.Ytiehcgmbkjdagaa
open Go Go.RowKit Wx

theorem or128 {x : Int} (h : 0 ≤ x) (h2 : x < 256) : IntKind.u8.wrap ((BitVec.ofInt IntKind.u8.bits x ||| BitVec.ofInt IntKind.u8.bits 128).toNat : Int) = x % 128 + 128 := by
  have key : ∀ k : Fin 256, IntKind.u8.wrap ((BitVec.ofInt IntKind.u8.bits (k.val : Int) ||| BitVec.ofInt IntKind.u8.bits 128).toNat : Int) = (k.val : Int) % 128 + 128 := by decide
  have := key ⟨x.toNat, by omega⟩
  simpa [Int.toNat_of_nonneg h] using this
theorem pow128 {k m : Nat} (h : m < 128 ^ k) (hm : ¬ m < 128) : ∃ j, k = j + 2 ∧ m / 128 < 128 ^ (j + 1) := by
  rcases k with _ | _ | k
  · simp at h; omega
  · simp at h; omega
  · exact ⟨k, rfl, by rw [Nat.pow_succ] at h; omega⟩
section
variable {G : World} {q : List HP} {a b : Option Addr} {c d p : Nat} {l m : List Int} {n : Nat} {φ : Prop} {s0 : Int} {t : Tkn}
theorem RNumber_ok (hn : n < 9223372036854775808) : CallF Try.prog G 32 [.int .i64 (n : Int)] [] (Ret fun v q' => ∃ a' c', v = .slice a' (vb n).length c' ∧ q' = [lsH (Value.int .u8) 5 a' c' (vb n)]) := by
  refine CallF.of Try.func32 Try.ntmps32 rfl (fun F cs => ?_)
  refine X.sub (p' := [(0, _)]) ⟨rfl, trivial⟩ ?_
  refine X.seq ?_
  refine X.region ?_
  refine XO.pu (Pu.assign rfl) ?_
  refine XO.nil ?_
  refine X.sub (p' := [(2, _), (0, _)]) ⟨rfl, rfl, trivial⟩ ?_
  refine X.seq ?_
  refine X.region ?_
  refine XO.pu (Pu.assign rfl) ?_
  refine XO.nil ?_
  refine X.sub (p' := [(3, _), (2, _), (0, _)]) ⟨rfl, rfl, rfl, trivial⟩ ?_
  refine X.seq ?_
  refine X.block ?_
  refine X.at (X.loop (fun (s : (Nat × Nat) × List Int × Option Addr × Nat) => s.1.2 < 128 ^ s.1.1 ∧ s.1.2 < 9223372036854775808 ∧ s.2.1 ++ vbF s.1.1 s.1.2 = vb n ∧ 1 ≤ s.1.1) (fun s => [(0, .int .i64 (s.1.2 : Int)), (3, .slice s.2.2.1 s.2.1.length s.2.2.2)]) (fun s => lsH (Value.int .u8) 5 s.2.2.1 s.2.2.2 s.2.1 :: F) (fun s => s.1.2) (fun s hi_ ih => ?_) ((10, n), [], none, 0) ⟨by dsimp only; omega, by dsimp only; omega, rfl, by dsimp only; omega⟩) ⟨(by first | rfl | exact congrArg some (congrArg (Value.int _) (by omega)) | (show some _ = some _; simp; done) | (show some _ = some _; simp; omega)), (by first | rfl | exact congrArg some (congrArg (Value.int _) (by omega)) | (show some _ = some _; simp; done) | (show some _ = some _; simp; omega)), trivial⟩ (Le.trans leA (Le.lsH_nil _ _ _))
  try dsimp only at hi_ ih ⊢
  obtain ⟨h1, h2, h3, h4⟩ := hi_
  obtain ⟨⟨k, m⟩, out, a, c⟩ := s; dsimp only at *
  have hvl := vb_len n; have hol : out.length ≤ 11 := by rw [← h3, List.length_append] at hvl; omega
  refine X.seq ?_
  refine X.seq ?_
  refine X.region ?_
  refine XO.pu (Pu.move rfl) ?_
  refine XO.pu (Pu.geq rfl rfl) ?_
  refine XO.nil ?_
  refine X.sub (p' := [(5, _), (0, _), (3, _)]) ⟨rfl, rfl, rfl, trivial⟩ ?_
  refine X.part 5 rfl (fun h0 => ?_) (fun h0 => ?_)
  · skip
    have h0 := of_decide_eq_true h0
    refine X.condT rfl ?_
    refine X.skip ?_
    refine X.block ?_
    refine X.seq ?_
    refine X.region ?_
    refine XO.pu (Pu.move rfl) ?_
    refine XO.pu (Pu.move rfl) ?_
    refine XO.pu (Pu.rem rfl rfl (by omega)) ?_
    refine XO.pu (Pu.convW rfl Try.underlying2 Try.underlying5) ?_
    refine XO.pu (Pu.addW rfl rfl) ?_
    obtain ⟨j, rfl, hj⟩ := pow128 h1 (by omega)
    refine XO.know 10 (.int .u8 ((m % 128 + 128 : Nat) : Int)) rfl (congrArg (Value.int .u8) (by rw [Int.tmod_eq_emod_of_nonneg (by omega), wu8, wu8]; omega)) ?_
    refine XO.ef (Ef.lit1 (u := ((m % 128 + 128 : Nat) : Int)) (Value.int .u8) Try.underlying31 Try.info5 rfl rfl) ?_
    rintro _ _ ⟨g, rfl, rfl⟩
    refine XO.ef (Ef.appA (f := Value.int .u8) (l := out) (m := [((m % 128 + 128 : Nat) : Int)]) Try.underlying31 Try.info5 rfl rfl rfl fndA ((Sees.lsH _).le leA) (fun _ => rfl) (by simp; omega) (by simp; omega)) ?_
    rintro _ _ ⟨a2, c2, rfl, rfl⟩
    refine XO.pu (Pu.assign rfl) ?_
    refine XO.nil ?_
    refine X.sub (p' := [(3, _), (0, _)]) ⟨rfl, rfl, trivial⟩ ?_
    refine X.region ?_
    refine XO.pu (Pu.move rfl) ?_
    refine XO.pu (Pu.quoW rfl rfl (by omega)) ?_
    refine XO.know 14 (.int .i64 ((m / 128 : Nat) : Int)) rfl (congrArg (Value.int .i64) (by rw [Int.tdiv_eq_ediv_of_nonneg (by omega), wrap64_of (by omega) (by omega)]; omega)) ?_
    refine XO.pu (Pu.assign rfl) ?_
    refine XO.nil ?_
    refine X.sub (p' := [(0, _), (3, _)]) ⟨rfl, rfl, trivial⟩ ?_
    refine X.inBlock ?_
    refine X.at (ih ((j + 1, m / 128), out ++ [((m % 128 + 128 : Nat) : Int)], a2, c2) ⟨hj, by dsimp only; omega, by rw [vbF_high (k := j + 1) (by omega)] at h3; dsimp only; rw [List.append_assoc]; exact h3, by dsimp only; omega⟩ (by dsimp only; omega)) ⟨(by first | rfl | exact congrArg some (congrArg (Value.int _) (by omega)) | (show some _ = some _; simp; done) | (show some _ = some _; simp; omega)), (by first | rfl | exact congrArg some (congrArg (Value.int _) (by omega)) | (show some _ = some _; simp; done) | (show some _ = some _; simp; omega)), trivial⟩ leA
  · skip
    have h0 := of_decide_eq_false h0
    refine X.condF rfl ?_
    refine X.exit rfl ?_
    refine X.seq ?_
    refine X.region ?_
    refine XO.pu (Pu.move rfl) ?_
    refine XO.pu (Pu.move rfl) ?_
    refine XO.pu (Pu.convW rfl Try.underlying2 Try.underlying5) ?_
    refine XO.know 17 (.int .u8 (m : Int)) rfl (congrArg (Value.int .u8) (by rw [wu8]; omega)) ?_
    rw [vbF_low (by omega) (by omega)] at h3
    refine XO.ef (Ef.lit1 (u := (m : Int)) (Value.int .u8) Try.underlying31 Try.info5 rfl rfl) ?_
    rintro _ _ ⟨g, rfl, rfl⟩
    refine XO.ef (Ef.appA (f := Value.int .u8) (l := out) (m := [(m : Int)]) Try.underlying31 Try.info5 rfl rfl rfl fndA ((Sees.lsH _).le leA) (fun _ => rfl) (by simp; omega) (by simp; omega)) ?_
    rintro _ _ ⟨a2, c2, rfl, rfl⟩
    rw [h3]
    refine XO.pu (Pu.assign rfl) ?_
    refine XO.nil ?_
    refine X.sub (p' := [(2, _)]) ⟨rfl, trivial⟩ ?_
    refine X.retL [lsH (Value.int .u8) 5 a2 c2 (vb n)] Try.func32 (res1 Try.results32 rfl) ⟨_, rfl, a2, c2, rfl, rfl⟩
theorem number_ok (hn : n < 9223372036854775808) (hL : l.length ≤ 100000000) : CallF Try.prog G 30 [.pointer (some ⟨p, 0, none⟩), .int .u64 (n : Int)] [pto p (.cells [.slice a (l).length c].toArray 69 (0, 0)), lsH (Value.int .u8) 5 a c l] (Ret fun v q' => ∃ a' c', v = .tuple #[] ∧ q' = [pto p (.cells [.slice a' (l ++ vb n).length c'].toArray 69 (0, 0)), lsH (Value.int .u8) 5 a' c' (l ++ vb n)]) := by
  refine CallF.of Try.func30 Try.ntmps30 rfl (fun F cs => ?_)
  refine X.sub (p' := [(0, _), (1, _)]) ⟨rfl, rfl, trivial⟩ ?_
  refine X.seq ?_
  refine X.block ?_
  refine X.at (X.loop (fun (s : (Nat × Nat) × List Int × Option Addr × Nat) => s.1.2 < 128 ^ s.1.1 ∧ s.1.2 < 9223372036854775808 ∧ s.2.1 ++ vbF s.1.1 s.1.2 = l ++ vb n ∧ 1 ≤ s.1.1) (fun s => [(0, .pointer (some ⟨p, 0, none⟩)), (1, .int .u64 (s.1.2 : Int))]) (fun s => pto p (.cells [.slice s.2.2.1 (s.2.1).length s.2.2.2].toArray 69 (0, 0)) :: lsH (Value.int .u8) 5 s.2.2.1 s.2.2.2 s.2.1 :: F) (fun s => s.1.2) (fun s hi_ ih => ?_) ((10, n), l, a, c) ⟨by dsimp only; omega, by dsimp only; omega, rfl, by dsimp only; omega⟩) ⟨(by first | rfl | exact congrArg some (congrArg (Value.int _) (by omega)) | (show some _ = some _; simp; done) | (show some _ = some _; simp; omega)), (by first | rfl | exact congrArg some (congrArg (Value.int _) (by omega)) | (show some _ = some _; simp; done) | (show some _ = some _; simp; omega)), trivial⟩ leA
  try dsimp only at hi_ ih ⊢
  obtain ⟨h1, h2, h3, h4⟩ := hi_
  obtain ⟨⟨k, m⟩, out, a, c⟩ := s; dsimp only at *
  have hvl := vb_len n; have hol : out.length ≤ 200000000 := by have := congrArg List.length h3; rw [List.length_append, List.length_append] at this; omega
  refine X.seq ?_
  refine X.seq ?_
  refine X.region ?_
  refine XO.pu (Pu.move rfl) ?_
  refine XO.pu (Pu.geq rfl rfl) ?_
  refine XO.nil ?_
  refine X.sub (p' := [(5, _), (0, _), (1, _)]) ⟨rfl, rfl, rfl, trivial⟩ ?_
  refine X.part 5 rfl (fun h0 => ?_) (fun h0 => ?_)
  · skip
    have h0 := of_decide_eq_true h0
    refine X.condT rfl ?_
    refine X.skip ?_
    refine X.block ?_
    refine X.seq ?_
    refine X.region ?_
    refine XO.pu (Pu.move rfl) ?_
    refine XO.pu (Pu.move rfl) ?_
    refine XO.pu (Pu.nilCheck rfl) ?_
    refine XO.pu (Pu.fieldAddr 67 0 0 rfl Try.underlying69 rfl Try.sizeOf67) ?_
    refine XO.pu (Pu.fieldAddr 31 0 0 rfl Try.underlying67 rfl Try.sizeOf31) ?_
    refine XO.ld Try.isAgg31 ?_
    refine XO.pu (Pu.move rfl) ?_
    refine XO.pu (Pu.convW rfl Try.underlying72 Try.underlying5) ?_
    refine XO.pu (Pu.or rfl rfl) ?_
    obtain ⟨j, rfl, hj⟩ := pow128 h1 (by omega)
    refine XO.know 14 (.int .u8 ((m % 128 + 128 : Nat) : Int)) rfl (congrArg (Value.int .u8) (by rw [or128 (by rw [wu8]; omega) (by rw [wu8]; omega), wu8]; omega)) ?_
    refine XO.ef (Ef.lit1 (u := ((m % 128 + 128 : Nat) : Int)) (Value.int .u8) Try.underlying31 Try.info5 rfl rfl) ?_
    rintro _ _ ⟨g, rfl, rfl⟩
    refine XO.ef (Ef.appA (f := Value.int .u8) (l := out) (m := [((m % 128 + 128 : Nat) : Int)]) Try.underlying31 Try.info5 rfl rfl rfl fndA ((Sees.lsH _).le leA) (fun _ => rfl) (by simp; omega) (by simp; omega)) ?_
    rintro _ _ ⟨a2, c2, rfl, rfl⟩
    refine XO.pu (Pu.nilCheck rfl) ?_
    refine XO.pu (Pu.fieldAddr 67 0 0 rfl Try.underlying69 rfl Try.sizeOf67) ?_
    refine XO.pu (Pu.fieldAddr 31 0 0 rfl Try.underlying67 rfl Try.sizeOf31) ?_
    refine XO.ef0 (Ef.st Try.sizeOf31) ?_
    rintro _ _ ⟨rfl, rfl⟩
    refine XO.nil ?_
    refine X.sub (p' := [(0, _), (1, _)]) ⟨rfl, rfl, trivial⟩ ?_
    refine X.region ?_
    refine XO.pu (Pu.move rfl) ?_
    refine XO.pu (Pu.shr rfl rfl (by omega)) ?_
    refine XO.know 21 (.int .u64 ((m / 128 : Nat) : Int)) rfl (congrArg (Value.int .u64) (by rw [show (2 : Int) ^ min (Int.toNat 7) IntKind.u64.bits = 128 from rfl, Int.fdiv_eq_ediv_of_nonneg _ (by omega)]; omega)) ?_
    refine XO.pu (Pu.assign rfl) ?_
    refine XO.nil ?_
    refine X.sub (p' := [(1, _), (0, _)]) ⟨rfl, rfl, trivial⟩ ?_
    refine X.inBlock ?_
    refine X.at (ih ((j + 1, m / 128), out ++ [((m % 128 + 128 : Nat) : Int)], a2, c2) ⟨hj, by dsimp only; omega, by rw [vbF_high (k := j + 1) (by omega)] at h3; dsimp only; rw [List.append_assoc]; exact h3, by dsimp only; omega⟩ (by dsimp only; omega)) ⟨(by first | rfl | exact congrArg some (congrArg (Value.int _) (by omega)) | (show some _ = some _; simp; done) | (show some _ = some _; simp; omega)), (by first | rfl | exact congrArg some (congrArg (Value.int _) (by omega)) | (show some _ = some _; simp; done) | (show some _ = some _; simp; omega)), trivial⟩ leA
  · skip
    have h0 := of_decide_eq_false h0
    refine X.condF rfl ?_
    refine X.exit rfl ?_
    refine X.region ?_
    refine XO.pu (Pu.move rfl) ?_
    refine XO.pu (Pu.move rfl) ?_
    refine XO.pu (Pu.nilCheck rfl) ?_
    refine XO.pu (Pu.fieldAddr 67 0 0 rfl Try.underlying69 rfl Try.sizeOf67) ?_
    refine XO.pu (Pu.fieldAddr 31 0 0 rfl Try.underlying67 rfl Try.sizeOf31) ?_
    refine XO.ld Try.isAgg31 ?_
    refine XO.pu (Pu.move rfl) ?_
    refine XO.pu (Pu.convW rfl Try.underlying72 Try.underlying5) ?_
    refine XO.know 29 (.int .u8 (m : Int)) rfl (congrArg (Value.int .u8) (by rw [wu8]; omega)) ?_
    rw [vbF_low (by omega) (by omega)] at h3
    refine XO.ef (Ef.lit1 (u := (m : Int)) (Value.int .u8) Try.underlying31 Try.info5 rfl rfl) ?_
    rintro _ _ ⟨g, rfl, rfl⟩
    refine XO.ef (Ef.appA (f := Value.int .u8) (l := out) (m := [(m : Int)]) Try.underlying31 Try.info5 rfl rfl rfl fndA ((Sees.lsH _).le leA) (fun _ => rfl) (by simp; omega) (by simp; omega)) ?_
    rintro _ _ ⟨a2, c2, rfl, rfl⟩
    rw [h3]
    refine XO.pu (Pu.nilCheck rfl) ?_
    refine XO.pu (Pu.fieldAddr 67 0 0 rfl Try.underlying69 rfl Try.sizeOf67) ?_
    refine XO.pu (Pu.fieldAddr 31 0 0 rfl Try.underlying67 rfl Try.sizeOf31) ?_
    refine XO.ef0 (Ef.st Try.sizeOf31) ?_
    rintro _ _ ⟨rfl, rfl⟩
    refine XO.nil ?_
    refine X.sub (p' := []) trivial ?_
    refine X.fallL [pto p (.cells [.slice a2 (l ++ vb n).length c2].toArray 69 (0, 0)), lsH (Value.int .u8) 5 a2 c2 (l ++ vb n)] Try.func30 (res0 Try.results30) ⟨_, rfl, a2, c2, rfl, rfl⟩
theorem word_ok (hs0 : 0 ≤ s0) (hs : s0 < 4294967296) (hL : l.length ≤ 1000000000 - 10) : CallF Try.prog G 29 [.pointer (some ⟨p, 0, none⟩), .int .u32 s0] [pto p (.cells [.slice a (l).length c].toArray 69 (0, 0)), bH φ a c l] (Ret fun v q' => ∃ a' c', v = .tuple #[] ∧ q' = [pto p (.cells [.slice a' (l ++ le4 s0).length c'].toArray 69 (0, 0)), lsH (Value.int .u8) 5 a' c' (l ++ le4 s0)]) := by
  refine CallF.of Try.func29 Try.ntmps29 rfl (fun F cs => ?_)
  refine X.sub (p' := [(0, _), (1, _)]) ⟨rfl, rfl, trivial⟩ ?_
  refine X.seq ?_
  refine X.region ?_
  refine XO.pu (Pu.move rfl) ?_
  refine XO.nil ?_
  refine X.sub (p' := [(4, _), (0, _), (1, _)]) ⟨rfl, rfl, rfl, trivial⟩ ?_
  refine X.block ?_
  refine X.at (X.loop (fun (s : Nat × Option Addr × Nat) => s.1 ≤ 4) (fun s => [(0, .pointer (some ⟨p, 0, none⟩)), (1, .int .u32 (s0 / 256 ^ s.1)), (4, .int .i64 (s.1 : Int))]) (fun s => pto p (.cells [.slice s.2.1 (l ++ (le4 s0).take s.1).length s.2.2].toArray 69 (0, 0)) :: bH (φ ∧ s.1 = 0) s.2.1 s.2.2 (l ++ (le4 s0).take s.1) :: F) (fun s => 4 - s.1) (fun s hi_ ih => ?_) (0, a, c) (by dsimp only; omega)) ⟨(by first | rfl | exact congrArg some (congrArg (Value.int _) (by omega)) | (show some _ = some _; simp; done) | (show some _ = some _; simp; omega)), (by first | rfl | exact congrArg some (congrArg (Value.int _) (by omega)) | (show some _ = some _; simp; done) | (show some _ = some _; simp; omega)), (by first | rfl | exact congrArg some (congrArg (Value.int _) (by omega)) | (show some _ = some _; simp; done) | (show some _ = some _; simp; omega)), trivial⟩ (by simp; exact leA)
  try dsimp only at hi_ ih ⊢
  obtain hi := hi_
  obtain ⟨i, a, c⟩ := s; dsimp only at *
  refine X.seq ?_
  refine X.region ?_
  refine XO.pu (Pu.lss rfl rfl) ?_
  refine XO.nil ?_
  refine X.sub (p' := [(5, _), (0, _), (1, _), (4, _)]) ⟨rfl, rfl, rfl, rfl, trivial⟩ ?_
  refine X.seq ?_
  refine X.part 5 rfl (fun h0 => ?_) (fun h0 => ?_)
  · skip
    have h0 := of_decide_eq_true h0; have hi0 : i < 4 := by omega
    have hp : 0 ≤ s0 / 256 ^ i := Int.ediv_nonneg hs0 (Int.pow_nonneg (by omega))
    have hp2 : s0 / 256 ^ i < 4294967296 := by have := Int.ediv_le_self (256 ^ i) hs0; omega
    refine X.condT rfl ?_
    refine X.skip ?_
    refine X.seq ?_
    refine X.block ?_
    refine X.seq ?_
    refine X.region ?_
    refine XO.pu (Pu.move rfl) ?_
    refine XO.pu (Pu.move rfl) ?_
    refine XO.pu (Pu.nilCheck rfl) ?_
    refine XO.pu (Pu.fieldAddr 67 0 0 rfl Try.underlying69 rfl Try.sizeOf67) ?_
    refine XO.pu (Pu.fieldAddr 31 0 0 rfl Try.underlying67 rfl Try.sizeOf31) ?_
    refine XO.ld Try.isAgg31 ?_
    refine XO.pu (Pu.move rfl) ?_
    refine XO.pu (Pu.convW rfl Try.underlying22 Try.underlying5) ?_
    refine XO.know 13 (.int .u8 ((s0 / 256 ^ i) % 256)) rfl (congrArg (Value.int .u8) (wu8 _)) ?_
    refine XO.ef (Ef.lit1 (u := (s0 / 256 ^ i) % 256) (Value.int .u8) Try.underlying31 Try.info5 rfl rfl) ?_
    rintro _ _ ⟨g, rfl, rfl⟩
    refine XO.ef (Ef.appB (l := l ++ (le4 s0).take i) (m := [(s0 / 256 ^ i) % 256]) Try.underlying31 Try.info5 rfl rfl fndA ((Sees.lsH _).le leA) (by simp) (by simp; omega)) ?_
    rintro _ _ ⟨a2, c2, rfl, rfl⟩
    refine XO.pu (Pu.nilCheck rfl) ?_
    refine XO.pu (Pu.fieldAddr 67 0 0 rfl Try.underlying69 rfl Try.sizeOf67) ?_
    refine XO.pu (Pu.fieldAddr 31 0 0 rfl Try.underlying67 rfl Try.sizeOf31) ?_
    refine XO.ef0 (Ef.st Try.sizeOf31) ?_
    rintro _ _ ⟨rfl, rfl⟩
    refine XO.nil ?_
    refine X.sub (p' := [(0, _), (1, _), (4, _)]) ⟨rfl, rfl, rfl, trivial⟩ ?_
    refine X.region ?_
    refine XO.pu (Pu.move rfl) ?_
    refine XO.pu (Pu.shr rfl rfl (by omega)) ?_
    refine XO.know 20 (.int .u32 (s0 / 256 ^ (i + 1))) rfl (congrArg (Value.int .u32) (by rw [pow_step, show (2 : Int) ^ min (Int.toNat 8) IntKind.u32.bits = 256 from rfl, Int.fdiv_eq_ediv_of_nonneg _ (by omega)])) ?_
    refine XO.pu (Pu.assign rfl) ?_
    refine XO.nil ?_
    refine X.sub (p' := [(1, _), (0, _), (4, _)]) ⟨rfl, rfl, rfl, trivial⟩ ?_
    refine X.inBlock ?_
    refine X.region ?_
    refine XO.pu (Pu.add rfl rfl (by omega) (by omega)) ?_
    refine XO.pu (Pu.move rfl) ?_
    refine XO.nil ?_
    refine X.sub (p' := [(4, _), (1, _), (0, _)]) ⟨rfl, rfl, rfl, trivial⟩ ?_
    rw [List.append_assoc, ← le4_take _ _ hi0 hs0]
    refine X.at (ih (i + 1, a2, c2) (by dsimp only; omega) (by dsimp only; omega)) ⟨(by first | rfl | exact congrArg some (congrArg (Value.int _) (by omega)) | (show some _ = some _; simp; done) | (show some _ = some _; simp; omega)), (by first | rfl | exact congrArg some (congrArg (Value.int _) (by omega)) | (show some _ = some _; simp; done) | (show some _ = some _; simp; omega)), (by first | rfl | exact congrArg some (congrArg (Value.int _) (by omega)) | (show some _ = some _; simp; done) | (show some _ = some _; simp; omega)), trivial⟩ (Le.trans (Le.cons _ (Le.bH_own _ _ _ _ _)) leA)
  · skip
    have h0 := of_decide_eq_false h0
    refine X.condF rfl ?_
    refine X.exit rfl ?_
    have he : l ++ (le4 s0).take i = l ++ le4 s0 := by rw [show i = 4 by omega]; rfl
    rw [he]
    refine X.fallL [pto p (.cells [.slice a (l ++ le4 s0).length c].toArray 69 (0, 0)), lsH (Value.int .u8) 5 a c (l ++ le4 s0)] Try.func29 (res0 Try.results29) ⟨_, rfl, a, c, rfl, rfl⟩ (Le.cons _ (Le.bH_out (by omega) _ _ _ _))
end
end Go.Proofs.Ytiehcgmbkjdagaa

