/- What functions of package sync, of its references and of its laws do: contracts of calls, proved by walking their code. -/
import Derived.Test.YtlgnnhpbomfdiaaI
import Derived.Test.YtlgnnhpbomfdiaaWx24
import Derived.KernelRfl
set_option maxRecDepth 100000
set_option linter.unusedVariables false
set_option linter.unusedSimpArgs false
namespace Go.Proofs.Ytlgnnhpbomfdiaa
open Go Go.RowKit Wx

theorem Le.mk_slV {g C ty : Nat} (q : List HP) : Le (slH (some ⟨g, 0, none⟩) C ty 1 C ((List.replicate C (Value.slice none 0 0).cells.toList).flatten) :: q) (lsH slV ty (some ⟨g, 0, none⟩) C (List.replicate C (⟨none, 0, []⟩ : SlV Int)) :: q) := by
  have e1 : (List.replicate C (⟨none, 0, []⟩ : SlV Int)).map slV = (List.replicate C (Value.slice none 0 0).cells.toList).flatten := by simp [slV, Value.cells]
  unfold lsH
  rw [e1, List.length_replicate]
  exact Le.refl _
theorem Le.mk_ints {g C ty : Nat} (q : List HP) : Le (slH (some ⟨g, 0, none⟩) C ty 1 C ((List.replicate C (Value.int .i64 0).cells.toList).flatten) :: q) (lsH I64 ty (some ⟨g, 0, none⟩) C (List.replicate C 0) :: q) := by
  have e1 : (List.replicate C (0 : Int)).map I64 = (List.replicate C (Value.int .i64 0).cells.toList).flatten := by simp [Value.cells]
  unfold lsH
  rw [e1, List.length_replicate]
  exact Le.refl _
section
variable {G : World} {q : List HP} {a b : Option Addr} {c d g p i n : Nat} {r : RS} {s : Sy} {k t v m mm cc : Int} {rooms : List Int}
set_option maxHeartbeats 1000000 in
theorem RNew_no (hs : Sees q a (rooms.map I64)) (ok : ¬ formOk mm cc rooms) : CallF Try.prog G 25 [.int .i64 mm, .int .i64 cc, .slice a rooms.length c] q (Ret fun v q' => v = .tuple [.agg [.slice none 0 0, .slice none 0 0, .slice none 0 0, .slice none 0 0, .slice none 0 0].toArray, .int .i64 2].toArray ∧ q' = q) := by
  refine CallF.of Try.func25 Try.ntmps25 rfl (fun F cs => ?_)
  refine X.sub (p' := [(0, _), (1, _), (2, _)]) ⟨rfl, rfl, rfl, trivial⟩ ?_
  refine X.seq ?_
  refine X.region ?_
  refine XO.ef (Ef.alloc Try.zeroValue53) ?_
  rintro _ _ ⟨n1, rfl, rfl⟩
  refine XO.pu (Pu.assign rfl) ?_
  refine XO.nil ?_
  refine X.sub (p' := [(7, _), (6, _), (0, _), (1, _), (2, _)]) ⟨rfl, rfl, rfl, rfl, rfl, trivial⟩ ?_
  refine X.seq ?_
  refine X.region ?_
  refine XO.pu (Pu.build (cells := [_, _, _, _, _]) [(0, 1), (1, 1), (2, 1), (3, 1), (4, 1)] Try.zeroValue53 Try.underlying53 (by kernel_rfl) rfl rfl) ?_
  refine XO.ef (Ef.alloc Try.zeroValue53) ?_
  rintro _ _ ⟨n2, rfl, rfl⟩
  refine XO.ef0 (Ef.stA Try.sizeOf53) ?_
  rintro _ _ ⟨rfl, rfl⟩
  refine XO.nil ?_
  refine X.sub (p' := [(8, _), (7, _), (6, _), (0, _), (1, _), (2, _)]) ⟨rfl, rfl, rfl, rfl, rfl, rfl, trivial⟩ ?_
  refine X.seq ?_
  refine X.seq ?_
  refine X.region ?_
  refine XO.pu (Pu.move rfl) ?_
  refine XO.pu (Pu.lss rfl rfl) ?_
  refine XO.pu (Pu.move rfl) ?_
  refine XO.sub (p' := [(14, _), (8, _), (7, _), (6, _), (0, _), (1, _), (2, _)]) ⟨rfl, rfl, rfl, rfl, rfl, rfl, rfl, trivial⟩ ?_
  apply XO.cutOr 3 17 14 rfl
  · skip
    intro g1 M1; have h1 := g1; try simp only [decide_eq_true_eq, decide_eq_false_iff_not, bne_iff_ne, beq_iff_eq, ne_eq, bne_eq_false_iff_eq, beq_eq_false_iff_ne, Bool.not_eq_true', Bool.not_eq_false', Int.not_lt, Int.not_le, Bool.not_not, Bool.and_eq_true, Bool.and_eq_false_iff, Bool.true_and, Bool.and_true, beq_self_eq_true, Bool.or_eq_true, Bool.or_eq_false_iff] at h1
    refine XO.pu (Pu.move rfl) ?_
    refine XO.pu (Pu.gtr rfl rfl) ?_
    refine XO.pu (Pu.pickF rfl rfl) ?_
    exact XO.fin M1 ⟨orF g1, congrArg (fun x => some (Value.bool x)) g1.symm, rfl, rfl, rfl, rfl, rfl, rfl, trivial⟩
  · skip
    intro g1 M1; have h1 := g1; try simp only [decide_eq_true_eq, decide_eq_false_iff_not, bne_iff_ne, beq_iff_eq, ne_eq, bne_eq_false_iff_eq, beq_eq_false_iff_ne, Bool.not_eq_true', Bool.not_eq_false', Int.not_lt, Int.not_le, Bool.not_not, Bool.and_eq_true, Bool.and_eq_false_iff, Bool.true_and, Bool.and_true, beq_self_eq_true, Bool.or_eq_true, Bool.or_eq_false_iff] at h1
    refine XO.pass rfl ?_
    refine XO.pass rfl ?_
    refine XO.pu (Pu.pickT rfl rfl) ?_
    exact XO.fin M1 ⟨orT g1, congrArg (fun x => some (Value.bool x)) g1.symm, rfl, rfl, rfl, rfl, rfl, rfl, trivial⟩
  · skip
    refine XO.pu (Pu.move rfl) ?_
    refine XO.sub (p' := [(18, _), (8, _), (7, _), (6, _), (0, _), (1, _), (2, _)]) ⟨rfl, rfl, rfl, rfl, rfl, rfl, rfl, trivial⟩ ?_
    apply XO.cutOr 3 21 18 rfl
    · skip
      intro g1 M1; have h1 := g1; try simp only [decide_eq_true_eq, decide_eq_false_iff_not, bne_iff_ne, beq_iff_eq, ne_eq, bne_eq_false_iff_eq, beq_eq_false_iff_ne, Bool.not_eq_true', Bool.not_eq_false', Int.not_lt, Int.not_le, Bool.not_not, Bool.and_eq_true, Bool.and_eq_false_iff, Bool.true_and, Bool.and_true, beq_self_eq_true, Bool.or_eq_true, Bool.or_eq_false_iff] at h1
      refine XO.pu (Pu.move rfl) ?_
      refine XO.pu (Pu.lss rfl rfl) ?_
      refine XO.pu (Pu.pickF rfl rfl) ?_
      exact XO.fin M1 ⟨orF g1, congrArg (fun x => some (Value.bool x)) g1.symm, rfl, rfl, rfl, rfl, rfl, rfl, trivial⟩
    · skip
      intro g1 M1; have h1 := g1; try simp only [decide_eq_true_eq, decide_eq_false_iff_not, bne_iff_ne, beq_iff_eq, ne_eq, bne_eq_false_iff_eq, beq_eq_false_iff_ne, Bool.not_eq_true', Bool.not_eq_false', Int.not_lt, Int.not_le, Bool.not_not, Bool.and_eq_true, Bool.and_eq_false_iff, Bool.true_and, Bool.and_true, beq_self_eq_true, Bool.or_eq_true, Bool.or_eq_false_iff] at h1
      refine XO.pass rfl ?_
      refine XO.pass rfl ?_
      refine XO.pu (Pu.pickT rfl rfl) ?_
      exact XO.fin M1 ⟨orT g1, congrArg (fun x => some (Value.bool x)) g1.symm, rfl, rfl, rfl, rfl, rfl, rfl, trivial⟩
    · skip
      refine XO.pu (Pu.move rfl) ?_
      refine XO.sub (p' := [(22, _), (8, _), (7, _), (6, _), (0, _), (1, _), (2, _)]) ⟨rfl, rfl, rfl, rfl, rfl, rfl, rfl, trivial⟩ ?_
      apply XO.cutOr 3 25 22 rfl
      · skip
        intro g1 M1; have h1 := g1; try simp only [decide_eq_true_eq, decide_eq_false_iff_not, bne_iff_ne, beq_iff_eq, ne_eq, bne_eq_false_iff_eq, beq_eq_false_iff_ne, Bool.not_eq_true', Bool.not_eq_false', Int.not_lt, Int.not_le, Bool.not_not, Bool.and_eq_true, Bool.and_eq_false_iff, Bool.true_and, Bool.and_true, beq_self_eq_true, Bool.or_eq_true, Bool.or_eq_false_iff] at h1
        refine XO.pu (Pu.move rfl) ?_
        refine XO.pu (Pu.gtr rfl rfl) ?_
        refine XO.pu (Pu.pickF rfl rfl) ?_
        exact XO.fin M1 ⟨orF g1, congrArg (fun x => some (Value.bool x)) g1.symm, rfl, rfl, rfl, rfl, rfl, rfl, trivial⟩
      · skip
        intro g1 M1; have h1 := g1; try simp only [decide_eq_true_eq, decide_eq_false_iff_not, bne_iff_ne, beq_iff_eq, ne_eq, bne_eq_false_iff_eq, beq_eq_false_iff_ne, Bool.not_eq_true', Bool.not_eq_false', Int.not_lt, Int.not_le, Bool.not_not, Bool.and_eq_true, Bool.and_eq_false_iff, Bool.true_and, Bool.and_true, beq_self_eq_true, Bool.or_eq_true, Bool.or_eq_false_iff] at h1
        refine XO.pass rfl ?_
        refine XO.pass rfl ?_
        refine XO.pu (Pu.pickT rfl rfl) ?_
        exact XO.fin M1 ⟨orT g1, congrArg (fun x => some (Value.bool x)) g1.symm, rfl, rfl, rfl, rfl, rfl, rfl, trivial⟩
      · skip
        refine XO.pu (Pu.move rfl) ?_
        refine XO.sub (p' := [(26, _), (8, _), (7, _), (6, _), (0, _), (1, _), (2, _)]) ⟨rfl, rfl, rfl, rfl, rfl, rfl, rfl, trivial⟩ ?_
        apply XO.cutOr 4 30 26 rfl
        · skip
          intro g1 M1; have h1 := g1; try simp only [decide_eq_true_eq, decide_eq_false_iff_not, bne_iff_ne, beq_iff_eq, ne_eq, bne_eq_false_iff_eq, beq_eq_false_iff_ne, Bool.not_eq_true', Bool.not_eq_false', Int.not_lt, Int.not_le, Bool.not_not, Bool.and_eq_true, Bool.and_eq_false_iff, Bool.true_and, Bool.and_true, beq_self_eq_true, Bool.or_eq_true, Bool.or_eq_false_iff] at h1
          refine XO.pu (Pu.move rfl) ?_
          refine XO.pu (Pu.len rfl Try.underlying29) ?_
          refine XO.pu (Pu.gtr rfl rfl) ?_
          refine XO.pu (Pu.pickF rfl rfl) ?_
          exact XO.fin M1 ⟨orF g1, congrArg (fun x => some (Value.bool x)) g1.symm, rfl, rfl, rfl, rfl, rfl, rfl, trivial⟩
        · skip
          intro g1 M1; have h1 := g1; try simp only [decide_eq_true_eq, decide_eq_false_iff_not, bne_iff_ne, beq_iff_eq, ne_eq, bne_eq_false_iff_eq, beq_eq_false_iff_ne, Bool.not_eq_true', Bool.not_eq_false', Int.not_lt, Int.not_le, Bool.not_not, Bool.and_eq_true, Bool.and_eq_false_iff, Bool.true_and, Bool.and_true, beq_self_eq_true, Bool.or_eq_true, Bool.or_eq_false_iff] at h1
          refine XO.pass rfl ?_
          refine XO.pass rfl ?_
          refine XO.pass rfl ?_
          refine XO.pu (Pu.pickT rfl rfl) ?_
          exact XO.fin M1 ⟨orT g1, congrArg (fun x => some (Value.bool x)) g1.symm, rfl, rfl, rfl, rfl, rfl, rfl, trivial⟩
        · skip
          refine XO.nil ?_
          refine X.sub (p' := [(30, _), (8, _), (7, _), (6, _), (0, _), (1, _), (2, _)]) ⟨rfl, rfl, rfl, rfl, rfl, rfl, rfl, trivial⟩ ?_
          rcases Decidable.em ((0 ≤ mm ∧ mm ≤ 64) ∧ (0 ≤ cc ∧ cc ≤ 64) ∧ rooms.length ≤ 64) with hf | hf
          · skip
            obtain ⟨⟨hm0, hm1⟩, ⟨hc0, hc1⟩, hl⟩ := hf
            refine X.know 30 (.bool false) rfl (congrArg Value.bool (by simp; omega)) ?_
            obtain ⟨M, rfl⟩ := Int.eq_ofNat_of_zero_le hm0; obtain ⟨C, rfl⟩ := Int.eq_ofNat_of_zero_le hc0
            refine X.condF rfl ?_
            refine X.skip ?_
            refine X.seq ?_
            refine X.seq ?_
            refine X.region ?_
            refine XO.pu (Pu.assign rfl) ?_
            refine XO.nil ?_
            refine X.sub (p' := [(9, _), (8, _), (7, _), (6, _), (0, _), (1, _), (2, _)]) ⟨rfl, rfl, rfl, rfl, rfl, rfl, rfl, trivial⟩ ?_
            refine X.block ?_
            simp only [show Wx.splice [Value.slice none 0 0, .slice none 0 0, .slice none 0 0, .slice none 0 0, .slice none 0 0] 0 [Value.slice none 0 0, .slice none 0 0, .slice none 0 0, .slice none 0 0, .slice none 0 0] = [Value.slice none 0 0, .slice none 0 0, .slice none 0 0, .slice none 0 0, .slice none 0 0] from rfl]
            refine X.at (X.loop (fun (s : Nat × Option Addr × Nat) => s.1 ≤ M) (fun s => [(0, .int .i64 (M : Int)), (1, .int .i64 (C : Int)), (2, .slice a rooms.length c), (6, .pointer (some ⟨n1, 0, none⟩)), (8, .pointer (some ⟨n2, 0, none⟩)), (9, .int .i64 (s.1 : Int))]) (fun s => pto n1 (.cells [.slice none 0 0, .slice none 0 0, .slice none 0 0, .slice none 0 0, .slice none 0 0].toArray 53 (0, 0)) :: pto n2 (.cells [.slice s.2.1 (List.replicate s.1 (-1 : Int)).length s.2.2, .slice none 0 0, .slice none 0 0, .slice none 0 0, .slice none 0 0].toArray 53 (0, 0)) :: lsH I64 3 s.2.1 s.2.2 (List.replicate s.1 (-1)) :: (q ++ F)) (fun s => M - s.1) (fun s hi_ ih => ?_) (0, none, 0) (by dsimp only; omega)) ⟨(by first | rfl | exact congrArg some (congrArg (Value.int _) (by omega)) | (show some _ = some _; simp; done) | (show some _ = some _; simp; omega)), (by first | rfl | exact congrArg some (congrArg (Value.int _) (by omega)) | (show some _ = some _; simp; done) | (show some _ = some _; simp; omega)), (by first | rfl | exact congrArg some (congrArg (Value.int _) (by omega)) | (show some _ = some _; simp; done) | (show some _ = some _; simp; omega)), (by first | rfl | exact congrArg some (congrArg (Value.int _) (by omega)) | (show some _ = some _; simp; done) | (show some _ = some _; simp; omega)), (by first | rfl | exact congrArg some (congrArg (Value.int _) (by omega)) | (show some _ = some _; simp; done) | (show some _ = some _; simp; omega)), (by first | rfl | exact congrArg some (congrArg (Value.int _) (by omega)) | (show some _ = some _; simp; done) | (show some _ = some _; simp; omega)), trivial⟩ (Le.trans leA (Le.trans (Le.lsH_nil I64 3 _) leA))
            try dsimp only at hi_ ih ⊢
            obtain hi := hi_
            obtain ⟨i, a1, c1⟩ := s; dsimp only at *
            refine X.seq ?_
            refine X.seq ?_
            refine X.region ?_
            refine XO.pu (Pu.move rfl) ?_
            refine XO.pu (Pu.move rfl) ?_
            refine XO.pu (Pu.lss rfl rfl) ?_
            refine XO.nil ?_
            refine X.sub (p' := [(34, _), (0, _), (1, _), (2, _), (6, _), (8, _), (9, _)]) ⟨rfl, rfl, rfl, rfl, rfl, rfl, rfl, trivial⟩ ?_
            refine X.part 34 rfl (fun h0 => ?_) (fun h0 => ?_)
            · skip
              have h0 := of_decide_eq_true h0; have hi0 : i < M := (by omega)
              refine X.condT rfl ?_
              refine X.skip ?_
              refine X.seq ?_
              refine X.block ?_
              refine X.region ?_
              refine XO.pu (Pu.fieldAddr 29 0 0 rfl Try.underlying53 rfl Try.sizeOf29) ?_
              refine XO.ld Try.isAgg29 ?_
              refine XO.ef (Ef.lit1 (u := -1) I64 Try.underlying29 Try.info3 rfl rfl) ?_
              rintro _ _ ⟨g2, rfl, rfl⟩
              refine XO.ef (Ef.appA (f := I64) (l := List.replicate i (-1)) (m := [-1]) Try.underlying29 Try.info3 rfl rfl rfl fndA ((Sees.lsH _).le leA) (fun _ => rfl) (by simp; omega) (by simp; omega)) ?_
              rintro _ _ ⟨a2, c2, rfl, rfl⟩
              rw [← List.replicate_succ' (n := i)]
              refine XO.pu (Pu.fieldAddr 29 0 0 rfl Try.underlying53 rfl Try.sizeOf29) ?_
              refine XO.ef0 (Ef.st Try.sizeOf29) ?_
              rintro _ _ ⟨rfl, rfl⟩
              refine XO.nil ?_
              refine X.sub (p' := [(0, _), (1, _), (2, _), (6, _), (8, _), (9, _)]) ⟨rfl, rfl, rfl, rfl, rfl, rfl, trivial⟩ ?_
              refine X.inBlock ?_
              refine X.region ?_
              refine XO.pu (Pu.move rfl) ?_
              refine XO.pu (Pu.add rfl rfl (by omega) (by omega)) ?_
              refine XO.pu (Pu.assign rfl) ?_
              refine XO.nil ?_
              refine X.sub (p' := [(9, _), (0, _), (1, _), (2, _), (6, _), (8, _)]) ⟨rfl, rfl, rfl, rfl, rfl, rfl, trivial⟩ ?_
              refine X.at (ih (i + 1, a2, c2) (by dsimp only; omega) (by dsimp only; omega)) ⟨(by first | rfl | exact congrArg some (congrArg (Value.int _) (by omega)) | (show some _ = some _; simp; done) | (show some _ = some _; simp; omega)), (by first | rfl | exact congrArg some (congrArg (Value.int _) (by omega)) | (show some _ = some _; simp; done) | (show some _ = some _; simp; omega)), (by first | rfl | exact congrArg some (congrArg (Value.int _) (by omega)) | (show some _ = some _; simp; done) | (show some _ = some _; simp; omega)), (by first | rfl | exact congrArg some (congrArg (Value.int _) (by omega)) | (show some _ = some _; simp; done) | (show some _ = some _; simp; omega)), (by first | rfl | exact congrArg some (congrArg (Value.int _) (by omega)) | (show some _ = some _; simp; done) | (show some _ = some _; simp; omega)), (by first | rfl | exact congrArg some (congrArg (Value.int _) (by omega)) | (show some _ = some _; simp; done) | (show some _ = some _; simp; omega)), trivial⟩ leA
            · skip
              have h0 := of_decide_eq_false h0; obtain rfl : i = M := by omega
              clear ih
              refine X.condF rfl ?_
              refine X.exit rfl ?_
              refine X.seq ?_
              refine X.region ?_
              refine XO.pu (Pu.move rfl) ?_
              refine XO.ef (Ef.make (n := C) rfl rfl Try.underlying50 Try.info29 rfl rfl (by omega) (by omega)) ?_
              rintro _ _ ⟨g, rfl, rfl⟩
              refine XO.le (q' := lsH slV 29 (some ⟨g, 0, none⟩) C (List.replicate C ⟨none, 0, []⟩) :: _) (Le.trans fndA (Le.mk_slV _)) ?_
              refine XO.pu (Pu.fieldAddr 50 1 0 rfl Try.underlying53 rfl Try.sizeOf50) ?_
              refine XO.ef0 (Ef.st Try.sizeOf50) ?_
              rintro _ _ ⟨rfl, rfl⟩
              refine XO.nil ?_
              refine X.sub (p' := [(2, _), (6, _), (8, _)]) ⟨rfl, rfl, rfl, trivial⟩ ?_
              refine X.seq ?_
              refine X.seq ?_
              refine X.region ?_
              refine XO.pu (Pu.assign rfl) ?_
              refine XO.nil ?_
              refine X.sub (p' := [(10, _), (2, _), (6, _), (8, _)]) ⟨rfl, rfl, rfl, rfl, trivial⟩ ?_
              refine X.block ?_
              refine X.at (X.loop (fun (s : Nat × Option Addr × Nat) => s.1 ≤ rooms.length ∧ ∀ r ∈ rooms.take s.1, roomOk r) (fun s => [(2, .slice a rooms.length c), (6, .pointer (some ⟨n1, 0, none⟩)), (8, .pointer (some ⟨n2, 0, none⟩)), (10, .int .i64 (s.1 : Int))]) (fun s => pto n1 (.cells [.slice none 0 0, .slice none 0 0, .slice none 0 0, .slice none 0 0, .slice none 0 0].toArray 53 (0, 0)) :: pto n2 (.cells [.slice a1 (List.replicate i (-1 : Int)).length c1, .slice (some ⟨g, 0, none⟩) C C, .slice s.2.1 (rooms.take s.1).length s.2.2, .slice none 0 0, .slice none 0 0].toArray 53 (0, 0)) :: lsH I64 3 a1 c1 (List.replicate i (-1)) :: lsH slV 29 (some ⟨g, 0, none⟩) C (List.replicate C ⟨none, 0, []⟩) :: lsH I64 3 s.2.1 s.2.2 (rooms.take s.1) :: (q ++ F)) (fun s => rooms.length - s.1) (fun s hi_ ih => ?_) (0, none, 0) ⟨by dsimp only; omega, by simp⟩) ⟨(by first | rfl | exact congrArg some (congrArg (Value.int _) (by omega)) | (show some _ = some _; simp; done) | (show some _ = some _; simp; omega)), (by first | rfl | exact congrArg some (congrArg (Value.int _) (by omega)) | (show some _ = some _; simp; done) | (show some _ = some _; simp; omega)), (by first | rfl | exact congrArg some (congrArg (Value.int _) (by omega)) | (show some _ = some _; simp; done) | (show some _ = some _; simp; omega)), (by first | rfl | exact congrArg some (congrArg (Value.int _) (by omega)) | (show some _ = some _; simp; done) | (show some _ = some _; simp; omega)), trivial⟩ (Le.trans leA (Le.trans (Le.lsH_nil I64 3 _) leA))
              try dsimp only at hi_ ih ⊢
              obtain ⟨hi1, hi2⟩ := hi_
              obtain ⟨j, a3, c3⟩ := s; dsimp only at *
              refine X.seq ?_
              refine X.seq ?_
              refine X.region ?_
              refine XO.pu (Pu.move rfl) ?_
              refine XO.pu (Pu.move rfl) ?_
              refine XO.pu (Pu.len rfl Try.underlying29) ?_
              refine XO.pu (Pu.lss rfl rfl) ?_
              refine XO.nil ?_
              refine X.sub (p' := [(48, _), (2, _), (6, _), (8, _), (10, _)]) ⟨rfl, rfl, rfl, rfl, rfl, trivial⟩ ?_
              refine X.part 48 rfl (fun h0 => ?_) (fun h0 => ?_)
              · skip
                have h0 := of_decide_eq_true h0; have hj0 : j < rooms.length := (by omega)
                refine X.adr (hs.le leA) (by simp; omega) (fun b1 o1 e_ => ?_); subst e_
                refine X.condT rfl ?_
                refine X.skip ?_
                refine X.seq ?_
                refine X.block ?_
                refine X.seq ?_
                refine X.seq ?_
                refine X.region ?_
                refine XO.pu (Pu.move rfl) ?_
                refine XO.pu (Pu.move rfl) ?_
                refine XO.pu (Pu.indexAddr rfl rfl Try.underlying29 Try.sizeOf3 (by omega) (by omega)) ?_
                refine XO.ld Try.isAgg3 ?_
                refine XO.pu (Pu.lss rfl rfl) ?_
                refine XO.pu (Pu.move rfl) ?_
                refine XO.sub (p' := [(56, _), (2, _), (6, _), (8, _), (10, _)]) ⟨rfl, rfl, rfl, rfl, rfl, trivial⟩ ?_
                apply XO.cutOr 6 62 56 rfl
                · skip
                  intro g1 M1; have h1 := g1; try simp only [decide_eq_true_eq, decide_eq_false_iff_not, bne_iff_ne, beq_iff_eq, ne_eq, bne_eq_false_iff_eq, beq_eq_false_iff_ne, Bool.not_eq_true', Bool.not_eq_false', Int.not_lt, Int.not_le, Bool.not_not, Bool.and_eq_true, Bool.and_eq_false_iff, Bool.true_and, Bool.and_true, beq_self_eq_true, Bool.or_eq_true, Bool.or_eq_false_iff] at h1
                  refine XO.pu (Pu.move rfl) ?_
                  refine XO.pu (Pu.move rfl) ?_
                  refine XO.pu (Pu.indexAddr rfl rfl Try.underlying29 Try.sizeOf3 (by omega) (by omega)) ?_
                  refine XO.ld Try.isAgg3 ?_
                  refine XO.pu (Pu.gtr rfl rfl) ?_
                  refine XO.pu (Pu.pickF rfl rfl) ?_
                  exact XO.fin M1 ⟨orF g1, congrArg (fun x => some (Value.bool x)) g1.symm, rfl, rfl, rfl, rfl, trivial⟩
                · skip
                  intro g1 M1; have h1 := g1; try simp only [decide_eq_true_eq, decide_eq_false_iff_not, bne_iff_ne, beq_iff_eq, ne_eq, bne_eq_false_iff_eq, beq_eq_false_iff_ne, Bool.not_eq_true', Bool.not_eq_false', Int.not_lt, Int.not_le, Bool.not_not, Bool.and_eq_true, Bool.and_eq_false_iff, Bool.true_and, Bool.and_true, beq_self_eq_true, Bool.or_eq_true, Bool.or_eq_false_iff] at h1
                  refine XO.pass rfl ?_
                  refine XO.pass rfl ?_
                  refine XO.pass rfl ?_
                  refine XO.pass rfl ?_
                  refine XO.pass rfl ?_
                  refine XO.pu (Pu.pickT rfl rfl) ?_
                  exact XO.fin M1 ⟨orT g1, congrArg (fun x => some (Value.bool x)) g1.symm, rfl, rfl, rfl, rfl, trivial⟩
                · skip
                  refine XO.nil ?_
                  refine X.sub (p' := [(62, _), (2, _), (6, _), (8, _), (10, _)]) ⟨rfl, rfl, rfl, rfl, rfl, trivial⟩ ?_
                  rcases Decidable.em (roomOk rooms[j]) with hk | hk
                  · skip
                    refine X.know 62 (.bool false) rfl (congrArg Value.bool (by simp; omega)) ?_
                    refine X.condF rfl ?_
                    refine X.skip ?_
                    refine X.draw [] Try.mixed (by kernel_rfl) (by kernel_rfl) rfl ?_
                    refine XD.pu 0 rfl (Pu.fieldAddr 29 2 0 rfl Try.underlying53 rfl Try.sizeOf29) ?_
                    refine XD.ld 1 Try.isAgg29 ?_
                    refine XD.pu 2 rfl (Pu.move rfl) ?_
                    refine XD.pu 3 rfl (Pu.move rfl) ?_
                    refine XD.pu 4 rfl (Pu.indexAddr rfl rfl Try.underlying29 Try.sizeOf3 (by omega) (by omega)) ?_
                    refine XD.ld 5 Try.isAgg3 ?_
                    refine XD.ef 6 rfl (Ef.lit1 (u := rooms[j]) I64 Try.underlying29 Try.info3 rfl rfl) ?_
                    rintro _ _ ⟨g2, rfl, rfl⟩
                    refine ⟨hlA, ?_⟩
                    refine XD.ef 7 rfl (Ef.appA (f := I64) (l := rooms.take j) (m := [rooms[j]]) Try.underlying29 Try.info3 rfl rfl rfl fndA ((Sees.lsH _).le leA) (fun _ => rfl) (by simp; omega) (by simp; omega)) ?_
                    rintro _ _ ⟨a4, c4, rfl, rfl⟩
                    refine ⟨trivial, ?_⟩
                    rw [← List.take_succ_eq_append_getElem hj0]
                    refine XD.pu 8 rfl (Pu.fieldAddr 29 2 0 rfl Try.underlying53 rfl Try.sizeOf29) ?_
                    refine XD.ef0 9 rfl (Ef.st Try.sizeOf29) ?_
                    rintro _ _ ⟨rfl, rfl⟩
                    refine ⟨trivial, ?_⟩
                    refine XD.nil ?_
                    refine X.sub (p' := [(2, _), (6, _), (8, _), (10, _)]) ⟨rfl, rfl, rfl, rfl, trivial⟩ ?_
                    refine X.inBlock ?_
                    refine X.region ?_
                    refine XO.pu (Pu.move rfl) ?_
                    refine XO.pu (Pu.add rfl rfl (by omega) (by omega)) ?_
                    refine XO.pu (Pu.assign rfl) ?_
                    refine XO.nil ?_
                    refine X.sub (p' := [(10, _), (2, _), (6, _), (8, _)]) ⟨rfl, rfl, rfl, rfl, trivial⟩ ?_
                    refine X.at (ih (j + 1, a4, c4) ⟨by dsimp only; omega, by dsimp only; rw [List.take_succ_eq_append_getElem hj0]; intro y hy; rcases List.mem_append.1 hy with hy | hy; exact hi2 y hy; rw [List.mem_singleton.1 hy]; exact hk⟩ (by dsimp only; omega)) ⟨(by first | rfl | exact congrArg some (congrArg (Value.int _) (by omega)) | (show some _ = some _; simp; done) | (show some _ = some _; simp; omega)), (by first | rfl | exact congrArg some (congrArg (Value.int _) (by omega)) | (show some _ = some _; simp; done) | (show some _ = some _; simp; omega)), (by first | rfl | exact congrArg some (congrArg (Value.int _) (by omega)) | (show some _ = some _; simp; done) | (show some _ = some _; simp; omega)), (by first | rfl | exact congrArg some (congrArg (Value.int _) (by omega)) | (show some _ = some _; simp; done) | (show some _ = some _; simp; omega)), trivial⟩ leA
                  · skip
                    refine X.know 62 (.bool true) rfl (congrArg Value.bool (by simp; omega)) ?_
                    refine X.condT rfl ?_
                    refine X.seq ?_
                    refine X.region ?_
                    refine XO.pu (Pu.build (cells := [_, _, _, _, _]) [(0, 1), (1, 1), (2, 1), (3, 1), (4, 1)] Try.zeroValue53 Try.underlying53 (by kernel_rfl) rfl rfl) ?_
                    refine XO.ef0 (Ef.stA Try.sizeOf53) ?_
                    rintro _ _ ⟨rfl, rfl⟩
                    refine XO.pu (Pu.assign rfl) ?_
                    refine XO.nil ?_
                    refine X.sub (p' := [(7, _), (2, _), (6, _), (8, _), (10, _)]) ⟨rfl, rfl, rfl, rfl, rfl, trivial⟩ ?_
                    refine X.retL (q) Try.func25 (resC Try.results25 (ResOk.cell rfl (LV.agg Try.isAgg53 Try.sizeOf53 hasA rfl) (ResOk.tmp rfl ResOk.nil))) ⟨_, rfl, rfl, rfl⟩
              · skip
                have h0 := of_decide_eq_false h0; obtain rfl : j = rooms.length := by omega
                rw [List.take_length] at *; clear ih
                exact absurd ⟨⟨by omega, by omega⟩, ⟨by omega, by omega⟩, hl, hi2⟩ ok
          · skip
            refine X.know 30 (.bool true) rfl (congrArg Value.bool (by simp; omega)) ?_
            refine X.condT rfl ?_
            refine X.seq ?_
            refine X.region ?_
            refine XO.ldA Try.isAgg53 Try.sizeOf53 ?_
            refine XO.ef0 (Ef.stA Try.sizeOf53) ?_
            rintro _ _ ⟨rfl, rfl⟩
            refine XO.pu (Pu.assign rfl) ?_
            refine XO.nil ?_
            refine X.sub (p' := [(7, _), (8, _), (6, _), (0, _), (1, _), (2, _)]) ⟨rfl, rfl, rfl, rfl, rfl, rfl, trivial⟩ ?_
            refine X.retL (q) Try.func25 (resC Try.results25 (ResOk.cell rfl (LV.agg Try.isAgg53 Try.sizeOf53 hasA rfl) (ResOk.tmp rfl ResOk.nil))) ⟨_, rfl, rfl, rfl⟩
set_option maxHeartbeats 1000000 in
theorem RNew_ok (hs : Sees q a (rooms.map I64)) (ok : formOk mm cc rooms) : CallF Try.prog G 25 [.int .i64 mm, .int .i64 cc, .slice a rooms.length c] q (Ret fun v q' => ∃ r', Ref r' (newS mm.toNat cc.toNat rooms) ∧ v = .tuple [.agg [.slice r'.ow.a r'.ow.l.length r'.ow.c, .slice r'.cs.a r'.cs.l.length r'.cs.c, .slice r'.rm.a r'.rm.l.length r'.rm.c, .slice r'.st.a r'.st.l.length r'.st.c, .slice r'.tk.a r'.tk.l.length r'.tk.c].toArray, .int .i64 0].toArray ∧ q' = refM r' :: q) := by
  refine CallF.of Try.func25 Try.ntmps25 rfl (fun F cs => ?_)
  refine X.sub (p' := [(0, _), (1, _), (2, _)]) ⟨rfl, rfl, rfl, trivial⟩ ?_
  refine X.seq ?_
  refine X.region ?_
  refine XO.ef (Ef.alloc Try.zeroValue53) ?_
  rintro _ _ ⟨n1, rfl, rfl⟩
  refine XO.pu (Pu.assign rfl) ?_
  refine XO.nil ?_
  refine X.sub (p' := [(7, _), (6, _), (0, _), (1, _), (2, _)]) ⟨rfl, rfl, rfl, rfl, rfl, trivial⟩ ?_
  refine X.seq ?_
  refine X.region ?_
  refine XO.pu (Pu.build (cells := [_, _, _, _, _]) [(0, 1), (1, 1), (2, 1), (3, 1), (4, 1)] Try.zeroValue53 Try.underlying53 (by kernel_rfl) rfl rfl) ?_
  refine XO.ef (Ef.alloc Try.zeroValue53) ?_
  rintro _ _ ⟨n2, rfl, rfl⟩
  refine XO.ef0 (Ef.stA Try.sizeOf53) ?_
  rintro _ _ ⟨rfl, rfl⟩
  refine XO.nil ?_
  refine X.sub (p' := [(8, _), (7, _), (6, _), (0, _), (1, _), (2, _)]) ⟨rfl, rfl, rfl, rfl, rfl, rfl, trivial⟩ ?_
  refine X.seq ?_
  refine X.seq ?_
  refine X.region ?_
  refine XO.pu (Pu.move rfl) ?_
  refine XO.pu (Pu.lss rfl rfl) ?_
  refine XO.pu (Pu.move rfl) ?_
  refine XO.sub (p' := [(14, _), (8, _), (7, _), (6, _), (0, _), (1, _), (2, _)]) ⟨rfl, rfl, rfl, rfl, rfl, rfl, rfl, trivial⟩ ?_
  apply XO.cutOr 3 17 14 rfl
  · skip
    intro g1 M1; have h1 := g1; try simp only [decide_eq_true_eq, decide_eq_false_iff_not, bne_iff_ne, beq_iff_eq, ne_eq, bne_eq_false_iff_eq, beq_eq_false_iff_ne, Bool.not_eq_true', Bool.not_eq_false', Int.not_lt, Int.not_le, Bool.not_not, Bool.and_eq_true, Bool.and_eq_false_iff, Bool.true_and, Bool.and_true, beq_self_eq_true, Bool.or_eq_true, Bool.or_eq_false_iff] at h1
    refine XO.pu (Pu.move rfl) ?_
    refine XO.pu (Pu.gtr rfl rfl) ?_
    refine XO.pu (Pu.pickF rfl rfl) ?_
    exact XO.fin M1 ⟨orF g1, congrArg (fun x => some (Value.bool x)) g1.symm, rfl, rfl, rfl, rfl, rfl, rfl, trivial⟩
  · skip
    intro g1 M1; have h1 := g1; try simp only [decide_eq_true_eq, decide_eq_false_iff_not, bne_iff_ne, beq_iff_eq, ne_eq, bne_eq_false_iff_eq, beq_eq_false_iff_ne, Bool.not_eq_true', Bool.not_eq_false', Int.not_lt, Int.not_le, Bool.not_not, Bool.and_eq_true, Bool.and_eq_false_iff, Bool.true_and, Bool.and_true, beq_self_eq_true, Bool.or_eq_true, Bool.or_eq_false_iff] at h1
    refine XO.pass rfl ?_
    refine XO.pass rfl ?_
    refine XO.pu (Pu.pickT rfl rfl) ?_
    exact XO.fin M1 ⟨orT g1, congrArg (fun x => some (Value.bool x)) g1.symm, rfl, rfl, rfl, rfl, rfl, rfl, trivial⟩
  · skip
    refine XO.pu (Pu.move rfl) ?_
    refine XO.sub (p' := [(18, _), (8, _), (7, _), (6, _), (0, _), (1, _), (2, _)]) ⟨rfl, rfl, rfl, rfl, rfl, rfl, rfl, trivial⟩ ?_
    apply XO.cutOr 3 21 18 rfl
    · skip
      intro g1 M1; have h1 := g1; try simp only [decide_eq_true_eq, decide_eq_false_iff_not, bne_iff_ne, beq_iff_eq, ne_eq, bne_eq_false_iff_eq, beq_eq_false_iff_ne, Bool.not_eq_true', Bool.not_eq_false', Int.not_lt, Int.not_le, Bool.not_not, Bool.and_eq_true, Bool.and_eq_false_iff, Bool.true_and, Bool.and_true, beq_self_eq_true, Bool.or_eq_true, Bool.or_eq_false_iff] at h1
      refine XO.pu (Pu.move rfl) ?_
      refine XO.pu (Pu.lss rfl rfl) ?_
      refine XO.pu (Pu.pickF rfl rfl) ?_
      exact XO.fin M1 ⟨orF g1, congrArg (fun x => some (Value.bool x)) g1.symm, rfl, rfl, rfl, rfl, rfl, rfl, trivial⟩
    · skip
      intro g1 M1; have h1 := g1; try simp only [decide_eq_true_eq, decide_eq_false_iff_not, bne_iff_ne, beq_iff_eq, ne_eq, bne_eq_false_iff_eq, beq_eq_false_iff_ne, Bool.not_eq_true', Bool.not_eq_false', Int.not_lt, Int.not_le, Bool.not_not, Bool.and_eq_true, Bool.and_eq_false_iff, Bool.true_and, Bool.and_true, beq_self_eq_true, Bool.or_eq_true, Bool.or_eq_false_iff] at h1
      refine XO.pass rfl ?_
      refine XO.pass rfl ?_
      refine XO.pu (Pu.pickT rfl rfl) ?_
      exact XO.fin M1 ⟨orT g1, congrArg (fun x => some (Value.bool x)) g1.symm, rfl, rfl, rfl, rfl, rfl, rfl, trivial⟩
    · skip
      refine XO.pu (Pu.move rfl) ?_
      refine XO.sub (p' := [(22, _), (8, _), (7, _), (6, _), (0, _), (1, _), (2, _)]) ⟨rfl, rfl, rfl, rfl, rfl, rfl, rfl, trivial⟩ ?_
      apply XO.cutOr 3 25 22 rfl
      · skip
        intro g1 M1; have h1 := g1; try simp only [decide_eq_true_eq, decide_eq_false_iff_not, bne_iff_ne, beq_iff_eq, ne_eq, bne_eq_false_iff_eq, beq_eq_false_iff_ne, Bool.not_eq_true', Bool.not_eq_false', Int.not_lt, Int.not_le, Bool.not_not, Bool.and_eq_true, Bool.and_eq_false_iff, Bool.true_and, Bool.and_true, beq_self_eq_true, Bool.or_eq_true, Bool.or_eq_false_iff] at h1
        refine XO.pu (Pu.move rfl) ?_
        refine XO.pu (Pu.gtr rfl rfl) ?_
        refine XO.pu (Pu.pickF rfl rfl) ?_
        exact XO.fin M1 ⟨orF g1, congrArg (fun x => some (Value.bool x)) g1.symm, rfl, rfl, rfl, rfl, rfl, rfl, trivial⟩
      · skip
        intro g1 M1; have h1 := g1; try simp only [decide_eq_true_eq, decide_eq_false_iff_not, bne_iff_ne, beq_iff_eq, ne_eq, bne_eq_false_iff_eq, beq_eq_false_iff_ne, Bool.not_eq_true', Bool.not_eq_false', Int.not_lt, Int.not_le, Bool.not_not, Bool.and_eq_true, Bool.and_eq_false_iff, Bool.true_and, Bool.and_true, beq_self_eq_true, Bool.or_eq_true, Bool.or_eq_false_iff] at h1
        refine XO.pass rfl ?_
        refine XO.pass rfl ?_
        refine XO.pu (Pu.pickT rfl rfl) ?_
        exact XO.fin M1 ⟨orT g1, congrArg (fun x => some (Value.bool x)) g1.symm, rfl, rfl, rfl, rfl, rfl, rfl, trivial⟩
      · skip
        refine XO.pu (Pu.move rfl) ?_
        refine XO.sub (p' := [(26, _), (8, _), (7, _), (6, _), (0, _), (1, _), (2, _)]) ⟨rfl, rfl, rfl, rfl, rfl, rfl, rfl, trivial⟩ ?_
        apply XO.cutOr 4 30 26 rfl
        · skip
          intro g1 M1; have h1 := g1; try simp only [decide_eq_true_eq, decide_eq_false_iff_not, bne_iff_ne, beq_iff_eq, ne_eq, bne_eq_false_iff_eq, beq_eq_false_iff_ne, Bool.not_eq_true', Bool.not_eq_false', Int.not_lt, Int.not_le, Bool.not_not, Bool.and_eq_true, Bool.and_eq_false_iff, Bool.true_and, Bool.and_true, beq_self_eq_true, Bool.or_eq_true, Bool.or_eq_false_iff] at h1
          refine XO.pu (Pu.move rfl) ?_
          refine XO.pu (Pu.len rfl Try.underlying29) ?_
          refine XO.pu (Pu.gtr rfl rfl) ?_
          refine XO.pu (Pu.pickF rfl rfl) ?_
          exact XO.fin M1 ⟨orF g1, congrArg (fun x => some (Value.bool x)) g1.symm, rfl, rfl, rfl, rfl, rfl, rfl, trivial⟩
        · skip
          intro g1 M1; have h1 := g1; try simp only [decide_eq_true_eq, decide_eq_false_iff_not, bne_iff_ne, beq_iff_eq, ne_eq, bne_eq_false_iff_eq, beq_eq_false_iff_ne, Bool.not_eq_true', Bool.not_eq_false', Int.not_lt, Int.not_le, Bool.not_not, Bool.and_eq_true, Bool.and_eq_false_iff, Bool.true_and, Bool.and_true, beq_self_eq_true, Bool.or_eq_true, Bool.or_eq_false_iff] at h1
          refine XO.pass rfl ?_
          refine XO.pass rfl ?_
          refine XO.pass rfl ?_
          refine XO.pu (Pu.pickT rfl rfl) ?_
          exact XO.fin M1 ⟨orT g1, congrArg (fun x => some (Value.bool x)) g1.symm, rfl, rfl, rfl, rfl, rfl, rfl, trivial⟩
        · skip
          refine XO.nil ?_
          refine X.sub (p' := [(30, _), (8, _), (7, _), (6, _), (0, _), (1, _), (2, _)]) ⟨rfl, rfl, rfl, rfl, rfl, rfl, rfl, trivial⟩ ?_
          rcases Decidable.em ((0 ≤ mm ∧ mm ≤ 64) ∧ (0 ≤ cc ∧ cc ≤ 64) ∧ rooms.length ≤ 64) with hf | hf
          · skip
            obtain ⟨⟨hm0, hm1⟩, ⟨hc0, hc1⟩, hl⟩ := hf
            refine X.know 30 (.bool false) rfl (congrArg Value.bool (by simp; omega)) ?_
            obtain ⟨M, rfl⟩ := Int.eq_ofNat_of_zero_le hm0; obtain ⟨C, rfl⟩ := Int.eq_ofNat_of_zero_le hc0
            refine X.condF rfl ?_
            refine X.skip ?_
            refine X.seq ?_
            refine X.seq ?_
            refine X.region ?_
            refine XO.pu (Pu.assign rfl) ?_
            refine XO.nil ?_
            refine X.sub (p' := [(9, _), (8, _), (7, _), (6, _), (0, _), (1, _), (2, _)]) ⟨rfl, rfl, rfl, rfl, rfl, rfl, rfl, trivial⟩ ?_
            refine X.block ?_
            simp only [show Wx.splice [Value.slice none 0 0, .slice none 0 0, .slice none 0 0, .slice none 0 0, .slice none 0 0] 0 [Value.slice none 0 0, .slice none 0 0, .slice none 0 0, .slice none 0 0, .slice none 0 0] = [Value.slice none 0 0, .slice none 0 0, .slice none 0 0, .slice none 0 0, .slice none 0 0] from rfl]
            refine X.at (X.loop (fun (s : Nat × Option Addr × Nat) => s.1 ≤ M) (fun s => [(0, .int .i64 (M : Int)), (1, .int .i64 (C : Int)), (2, .slice a rooms.length c), (6, .pointer (some ⟨n1, 0, none⟩)), (8, .pointer (some ⟨n2, 0, none⟩)), (9, .int .i64 (s.1 : Int))]) (fun s => pto n1 (.cells [.slice none 0 0, .slice none 0 0, .slice none 0 0, .slice none 0 0, .slice none 0 0].toArray 53 (0, 0)) :: pto n2 (.cells [.slice s.2.1 (List.replicate s.1 (-1 : Int)).length s.2.2, .slice none 0 0, .slice none 0 0, .slice none 0 0, .slice none 0 0].toArray 53 (0, 0)) :: lsH I64 3 s.2.1 s.2.2 (List.replicate s.1 (-1)) :: (q ++ F)) (fun s => M - s.1) (fun s hi_ ih => ?_) (0, none, 0) (by dsimp only; omega)) ⟨(by first | rfl | exact congrArg some (congrArg (Value.int _) (by omega)) | (show some _ = some _; simp; done) | (show some _ = some _; simp; omega)), (by first | rfl | exact congrArg some (congrArg (Value.int _) (by omega)) | (show some _ = some _; simp; done) | (show some _ = some _; simp; omega)), (by first | rfl | exact congrArg some (congrArg (Value.int _) (by omega)) | (show some _ = some _; simp; done) | (show some _ = some _; simp; omega)), (by first | rfl | exact congrArg some (congrArg (Value.int _) (by omega)) | (show some _ = some _; simp; done) | (show some _ = some _; simp; omega)), (by first | rfl | exact congrArg some (congrArg (Value.int _) (by omega)) | (show some _ = some _; simp; done) | (show some _ = some _; simp; omega)), (by first | rfl | exact congrArg some (congrArg (Value.int _) (by omega)) | (show some _ = some _; simp; done) | (show some _ = some _; simp; omega)), trivial⟩ (Le.trans leA (Le.trans (Le.lsH_nil I64 3 _) leA))
            try dsimp only at hi_ ih ⊢
            obtain hi := hi_
            obtain ⟨i, a1, c1⟩ := s; dsimp only at *
            refine X.seq ?_
            refine X.seq ?_
            refine X.region ?_
            refine XO.pu (Pu.move rfl) ?_
            refine XO.pu (Pu.move rfl) ?_
            refine XO.pu (Pu.lss rfl rfl) ?_
            refine XO.nil ?_
            refine X.sub (p' := [(34, _), (0, _), (1, _), (2, _), (6, _), (8, _), (9, _)]) ⟨rfl, rfl, rfl, rfl, rfl, rfl, rfl, trivial⟩ ?_
            refine X.part 34 rfl (fun h0 => ?_) (fun h0 => ?_)
            · skip
              have h0 := of_decide_eq_true h0; have hi0 : i < M := (by omega)
              refine X.condT rfl ?_
              refine X.skip ?_
              refine X.seq ?_
              refine X.block ?_
              refine X.region ?_
              refine XO.pu (Pu.fieldAddr 29 0 0 rfl Try.underlying53 rfl Try.sizeOf29) ?_
              refine XO.ld Try.isAgg29 ?_
              refine XO.ef (Ef.lit1 (u := -1) I64 Try.underlying29 Try.info3 rfl rfl) ?_
              rintro _ _ ⟨g2, rfl, rfl⟩
              refine XO.ef (Ef.appA (f := I64) (l := List.replicate i (-1)) (m := [-1]) Try.underlying29 Try.info3 rfl rfl rfl fndA ((Sees.lsH _).le leA) (fun _ => rfl) (by simp; omega) (by simp; omega)) ?_
              rintro _ _ ⟨a2, c2, rfl, rfl⟩
              rw [← List.replicate_succ' (n := i)]
              refine XO.pu (Pu.fieldAddr 29 0 0 rfl Try.underlying53 rfl Try.sizeOf29) ?_
              refine XO.ef0 (Ef.st Try.sizeOf29) ?_
              rintro _ _ ⟨rfl, rfl⟩
              refine XO.nil ?_
              refine X.sub (p' := [(0, _), (1, _), (2, _), (6, _), (8, _), (9, _)]) ⟨rfl, rfl, rfl, rfl, rfl, rfl, trivial⟩ ?_
              refine X.inBlock ?_
              refine X.region ?_
              refine XO.pu (Pu.move rfl) ?_
              refine XO.pu (Pu.add rfl rfl (by omega) (by omega)) ?_
              refine XO.pu (Pu.assign rfl) ?_
              refine XO.nil ?_
              refine X.sub (p' := [(9, _), (0, _), (1, _), (2, _), (6, _), (8, _)]) ⟨rfl, rfl, rfl, rfl, rfl, rfl, trivial⟩ ?_
              refine X.at (ih (i + 1, a2, c2) (by dsimp only; omega) (by dsimp only; omega)) ⟨(by first | rfl | exact congrArg some (congrArg (Value.int _) (by omega)) | (show some _ = some _; simp; done) | (show some _ = some _; simp; omega)), (by first | rfl | exact congrArg some (congrArg (Value.int _) (by omega)) | (show some _ = some _; simp; done) | (show some _ = some _; simp; omega)), (by first | rfl | exact congrArg some (congrArg (Value.int _) (by omega)) | (show some _ = some _; simp; done) | (show some _ = some _; simp; omega)), (by first | rfl | exact congrArg some (congrArg (Value.int _) (by omega)) | (show some _ = some _; simp; done) | (show some _ = some _; simp; omega)), (by first | rfl | exact congrArg some (congrArg (Value.int _) (by omega)) | (show some _ = some _; simp; done) | (show some _ = some _; simp; omega)), (by first | rfl | exact congrArg some (congrArg (Value.int _) (by omega)) | (show some _ = some _; simp; done) | (show some _ = some _; simp; omega)), trivial⟩ leA
            · skip
              have h0 := of_decide_eq_false h0; obtain rfl : i = M := by omega
              clear ih
              refine X.condF rfl ?_
              refine X.exit rfl ?_
              refine X.seq ?_
              refine X.region ?_
              refine XO.pu (Pu.move rfl) ?_
              refine XO.ef (Ef.make (n := C) rfl rfl Try.underlying50 Try.info29 rfl rfl (by omega) (by omega)) ?_
              rintro _ _ ⟨g, rfl, rfl⟩
              refine XO.le (q' := lsH slV 29 (some ⟨g, 0, none⟩) C (List.replicate C ⟨none, 0, []⟩) :: _) (Le.trans fndA (Le.mk_slV _)) ?_
              refine XO.pu (Pu.fieldAddr 50 1 0 rfl Try.underlying53 rfl Try.sizeOf50) ?_
              refine XO.ef0 (Ef.st Try.sizeOf50) ?_
              rintro _ _ ⟨rfl, rfl⟩
              refine XO.nil ?_
              refine X.sub (p' := [(2, _), (6, _), (8, _)]) ⟨rfl, rfl, rfl, trivial⟩ ?_
              refine X.seq ?_
              refine X.seq ?_
              refine X.region ?_
              refine XO.pu (Pu.assign rfl) ?_
              refine XO.nil ?_
              refine X.sub (p' := [(10, _), (2, _), (6, _), (8, _)]) ⟨rfl, rfl, rfl, rfl, trivial⟩ ?_
              refine X.block ?_
              refine X.at (X.loop (fun (s : Nat × Option Addr × Nat) => s.1 ≤ rooms.length ∧ ∀ r ∈ rooms.take s.1, roomOk r) (fun s => [(2, .slice a rooms.length c), (6, .pointer (some ⟨n1, 0, none⟩)), (8, .pointer (some ⟨n2, 0, none⟩)), (10, .int .i64 (s.1 : Int))]) (fun s => pto n1 (.cells [.slice none 0 0, .slice none 0 0, .slice none 0 0, .slice none 0 0, .slice none 0 0].toArray 53 (0, 0)) :: pto n2 (.cells [.slice a1 (List.replicate i (-1 : Int)).length c1, .slice (some ⟨g, 0, none⟩) C C, .slice s.2.1 (rooms.take s.1).length s.2.2, .slice none 0 0, .slice none 0 0].toArray 53 (0, 0)) :: lsH I64 3 a1 c1 (List.replicate i (-1)) :: lsH slV 29 (some ⟨g, 0, none⟩) C (List.replicate C ⟨none, 0, []⟩) :: lsH I64 3 s.2.1 s.2.2 (rooms.take s.1) :: (q ++ F)) (fun s => rooms.length - s.1) (fun s hi_ ih => ?_) (0, none, 0) ⟨by dsimp only; omega, by simp⟩) ⟨(by first | rfl | exact congrArg some (congrArg (Value.int _) (by omega)) | (show some _ = some _; simp; done) | (show some _ = some _; simp; omega)), (by first | rfl | exact congrArg some (congrArg (Value.int _) (by omega)) | (show some _ = some _; simp; done) | (show some _ = some _; simp; omega)), (by first | rfl | exact congrArg some (congrArg (Value.int _) (by omega)) | (show some _ = some _; simp; done) | (show some _ = some _; simp; omega)), (by first | rfl | exact congrArg some (congrArg (Value.int _) (by omega)) | (show some _ = some _; simp; done) | (show some _ = some _; simp; omega)), trivial⟩ (Le.trans leA (Le.trans (Le.lsH_nil I64 3 _) leA))
              try dsimp only at hi_ ih ⊢
              obtain ⟨hi1, hi2⟩ := hi_
              obtain ⟨j, a3, c3⟩ := s; dsimp only at *
              refine X.seq ?_
              refine X.seq ?_
              refine X.region ?_
              refine XO.pu (Pu.move rfl) ?_
              refine XO.pu (Pu.move rfl) ?_
              refine XO.pu (Pu.len rfl Try.underlying29) ?_
              refine XO.pu (Pu.lss rfl rfl) ?_
              refine XO.nil ?_
              refine X.sub (p' := [(48, _), (2, _), (6, _), (8, _), (10, _)]) ⟨rfl, rfl, rfl, rfl, rfl, trivial⟩ ?_
              refine X.part 48 rfl (fun h0 => ?_) (fun h0 => ?_)
              · skip
                have h0 := of_decide_eq_true h0; have hj0 : j < rooms.length := (by omega)
                refine X.adr (hs.le leA) (by simp; omega) (fun b1 o1 e_ => ?_); subst e_
                refine X.condT rfl ?_
                refine X.skip ?_
                refine X.seq ?_
                refine X.block ?_
                refine X.seq ?_
                refine X.seq ?_
                refine X.region ?_
                refine XO.pu (Pu.move rfl) ?_
                refine XO.pu (Pu.move rfl) ?_
                refine XO.pu (Pu.indexAddr rfl rfl Try.underlying29 Try.sizeOf3 (by omega) (by omega)) ?_
                refine XO.ld Try.isAgg3 ?_
                refine XO.pu (Pu.lss rfl rfl) ?_
                refine XO.pu (Pu.move rfl) ?_
                refine XO.sub (p' := [(56, _), (2, _), (6, _), (8, _), (10, _)]) ⟨rfl, rfl, rfl, rfl, rfl, trivial⟩ ?_
                apply XO.cutOr 6 62 56 rfl
                · skip
                  intro g1 M1; have h1 := g1; try simp only [decide_eq_true_eq, decide_eq_false_iff_not, bne_iff_ne, beq_iff_eq, ne_eq, bne_eq_false_iff_eq, beq_eq_false_iff_ne, Bool.not_eq_true', Bool.not_eq_false', Int.not_lt, Int.not_le, Bool.not_not, Bool.and_eq_true, Bool.and_eq_false_iff, Bool.true_and, Bool.and_true, beq_self_eq_true, Bool.or_eq_true, Bool.or_eq_false_iff] at h1
                  refine XO.pu (Pu.move rfl) ?_
                  refine XO.pu (Pu.move rfl) ?_
                  refine XO.pu (Pu.indexAddr rfl rfl Try.underlying29 Try.sizeOf3 (by omega) (by omega)) ?_
                  refine XO.ld Try.isAgg3 ?_
                  refine XO.pu (Pu.gtr rfl rfl) ?_
                  refine XO.pu (Pu.pickF rfl rfl) ?_
                  exact XO.fin M1 ⟨orF g1, congrArg (fun x => some (Value.bool x)) g1.symm, rfl, rfl, rfl, rfl, trivial⟩
                · skip
                  intro g1 M1; have h1 := g1; try simp only [decide_eq_true_eq, decide_eq_false_iff_not, bne_iff_ne, beq_iff_eq, ne_eq, bne_eq_false_iff_eq, beq_eq_false_iff_ne, Bool.not_eq_true', Bool.not_eq_false', Int.not_lt, Int.not_le, Bool.not_not, Bool.and_eq_true, Bool.and_eq_false_iff, Bool.true_and, Bool.and_true, beq_self_eq_true, Bool.or_eq_true, Bool.or_eq_false_iff] at h1
                  refine XO.pass rfl ?_
                  refine XO.pass rfl ?_
                  refine XO.pass rfl ?_
                  refine XO.pass rfl ?_
                  refine XO.pass rfl ?_
                  refine XO.pu (Pu.pickT rfl rfl) ?_
                  exact XO.fin M1 ⟨orT g1, congrArg (fun x => some (Value.bool x)) g1.symm, rfl, rfl, rfl, rfl, trivial⟩
                · skip
                  refine XO.nil ?_
                  refine X.sub (p' := [(62, _), (2, _), (6, _), (8, _), (10, _)]) ⟨rfl, rfl, rfl, rfl, rfl, trivial⟩ ?_
                  rcases Decidable.em (roomOk rooms[j]) with hk | hk
                  · skip
                    refine X.know 62 (.bool false) rfl (congrArg Value.bool (by simp; omega)) ?_
                    refine X.condF rfl ?_
                    refine X.skip ?_
                    refine X.draw [] Try.mixed (by kernel_rfl) (by kernel_rfl) rfl ?_
                    refine XD.pu 0 rfl (Pu.fieldAddr 29 2 0 rfl Try.underlying53 rfl Try.sizeOf29) ?_
                    refine XD.ld 1 Try.isAgg29 ?_
                    refine XD.pu 2 rfl (Pu.move rfl) ?_
                    refine XD.pu 3 rfl (Pu.move rfl) ?_
                    refine XD.pu 4 rfl (Pu.indexAddr rfl rfl Try.underlying29 Try.sizeOf3 (by omega) (by omega)) ?_
                    refine XD.ld 5 Try.isAgg3 ?_
                    refine XD.ef 6 rfl (Ef.lit1 (u := rooms[j]) I64 Try.underlying29 Try.info3 rfl rfl) ?_
                    rintro _ _ ⟨g2, rfl, rfl⟩
                    refine ⟨hlA, ?_⟩
                    refine XD.ef 7 rfl (Ef.appA (f := I64) (l := rooms.take j) (m := [rooms[j]]) Try.underlying29 Try.info3 rfl rfl rfl fndA ((Sees.lsH _).le leA) (fun _ => rfl) (by simp; omega) (by simp; omega)) ?_
                    rintro _ _ ⟨a4, c4, rfl, rfl⟩
                    refine ⟨trivial, ?_⟩
                    rw [← List.take_succ_eq_append_getElem hj0]
                    refine XD.pu 8 rfl (Pu.fieldAddr 29 2 0 rfl Try.underlying53 rfl Try.sizeOf29) ?_
                    refine XD.ef0 9 rfl (Ef.st Try.sizeOf29) ?_
                    rintro _ _ ⟨rfl, rfl⟩
                    refine ⟨trivial, ?_⟩
                    refine XD.nil ?_
                    refine X.sub (p' := [(2, _), (6, _), (8, _), (10, _)]) ⟨rfl, rfl, rfl, rfl, trivial⟩ ?_
                    refine X.inBlock ?_
                    refine X.region ?_
                    refine XO.pu (Pu.move rfl) ?_
                    refine XO.pu (Pu.add rfl rfl (by omega) (by omega)) ?_
                    refine XO.pu (Pu.assign rfl) ?_
                    refine XO.nil ?_
                    refine X.sub (p' := [(10, _), (2, _), (6, _), (8, _)]) ⟨rfl, rfl, rfl, rfl, trivial⟩ ?_
                    refine X.at (ih (j + 1, a4, c4) ⟨by dsimp only; omega, by dsimp only; rw [List.take_succ_eq_append_getElem hj0]; intro y hy; rcases List.mem_append.1 hy with hy | hy; exact hi2 y hy; rw [List.mem_singleton.1 hy]; exact hk⟩ (by dsimp only; omega)) ⟨(by first | rfl | exact congrArg some (congrArg (Value.int _) (by omega)) | (show some _ = some _; simp; done) | (show some _ = some _; simp; omega)), (by first | rfl | exact congrArg some (congrArg (Value.int _) (by omega)) | (show some _ = some _; simp; done) | (show some _ = some _; simp; omega)), (by first | rfl | exact congrArg some (congrArg (Value.int _) (by omega)) | (show some _ = some _; simp; done) | (show some _ = some _; simp; omega)), (by first | rfl | exact congrArg some (congrArg (Value.int _) (by omega)) | (show some _ = some _; simp; done) | (show some _ = some _; simp; omega)), trivial⟩ leA
                  · skip
                    exact absurd (ok.2.2.2 _ (List.getElem_mem hj0)) hk
              · skip
                have h0 := of_decide_eq_false h0; obtain rfl : j = rooms.length := by omega
                rw [List.take_length] at *; clear ih
                refine X.condF rfl ?_
                refine X.exit rfl ?_
                refine X.seq ?_
                refine X.draw [] Try.mixed (by kernel_rfl) (by kernel_rfl) rfl ?_
                refine XD.pu 0 rfl (Pu.move rfl) ?_
                refine XD.pu 1 rfl (Pu.len rfl Try.underlying29) ?_
                refine XD.pu 3 rfl (Pu.move rfl) ?_
                refine XD.pu 4 rfl (Pu.len rfl Try.underlying29) ?_
                refine XD.float (fl := [⟨2, 75, fun g => .slice (some ⟨g, 0, none⟩) rooms.length rooms.length, fun g => slH (some ⟨g, 0, none⟩) rooms.length 28 1 rooms.length ((List.replicate rooms.length (Value.slice none 0 0).cells.toList).flatten)⟩, ⟨5, 78, fun g => .slice (some ⟨g, 0, none⟩) rooms.length rooms.length, fun g => slH (some ⟨g, 0, none⟩) rooms.length 3 1 rooms.length ((List.replicate rooms.length (Value.int .i64 0).cells.toList).flatten)⟩]) ?_
                refine XF.abs (e0 := ⟨2, 75, fun g => .slice (some ⟨g, 0, none⟩) rooms.length rooms.length, fun g => slH (some ⟨g, 0, none⟩) rooms.length 28 1 rooms.length ((List.replicate rooms.length (Value.slice none 0 0).cells.toList).flatten)⟩) (hnd := by simp) 2 ⟨⟨_, rfl, rfl, rfl, rfl, rfl, rfl, fun q => Ef.make (n := rooms.length) rfl rfl Try.underlying51 Try.info28 rfl rfl (by omega) (by omega)⟩, ⟨_, rfl, rfl, rfl, rfl, rfl, rfl, fun q => Ef.make (n := rooms.length) rfl rfl Try.underlying29 Try.info3 rfl rfl (by omega) (by omega)⟩, trivial⟩ (fun g5 => ?_)
                change XF _ _ _ _ _ _ _ [⟨5, 78, fun g => .slice (some ⟨g, 0, none⟩) rooms.length rooms.length, fun g => slH (some ⟨g, 0, none⟩) rooms.length 3 1 rooms.length ((List.replicate rooms.length (Value.int .i64 0).cells.toList).flatten)⟩] _ _ _ ((75, .slice (some ⟨g5, 0, none⟩) rooms.length rooms.length) :: _) _ _ (slH (some ⟨g5, 0, none⟩) rooms.length 28 1 rooms.length ((List.replicate rooms.length (Value.slice none 0 0).cells.toList).flatten) :: _)
                refine XF.pu 6 ⟨⟨_, rfl, rfl, rfl, rfl, rfl, rfl, fun q => Ef.make (n := rooms.length) rfl rfl Try.underlying29 Try.info3 rfl rfl (by omega) (by omega)⟩, trivial⟩ (Pu.fieldAddr 51 3 0 rfl Try.underlying53 rfl Try.sizeOf51) ?_
                refine XF.ef0 7 ⟨⟨_, rfl, rfl, rfl, rfl, rfl, rfl, fun q => Ef.make (n := rooms.length) rfl rfl Try.underlying29 Try.info3 rfl rfl (by omega) (by omega)⟩, trivial⟩ (Ef.stE (b := n2) (o := 3) Try.sizeOf51 rfl rfl rfl rfl fndA rfl) ?_
                rintro _ _ ⟨rfl, rfl⟩
                refine ⟨trivial, ?_⟩
                refine XF.abs (e0 := ⟨5, 78, fun g => .slice (some ⟨g, 0, none⟩) rooms.length rooms.length, fun g => slH (some ⟨g, 0, none⟩) rooms.length 3 1 rooms.length ((List.replicate rooms.length (Value.int .i64 0).cells.toList).flatten)⟩) (hnd := by simp) 5 ⟨⟨_, rfl, rfl, rfl, rfl, rfl, rfl, fun q => Ef.make (n := rooms.length) rfl rfl Try.underlying29 Try.info3 rfl rfl (by omega) (by omega)⟩, trivial⟩ (fun g6 => ?_)
                change XF _ _ _ _ _ _ _ [] _ _ _ ((78, .slice (some ⟨g6, 0, none⟩) rooms.length rooms.length) :: _) _ _ (slH (some ⟨g6, 0, none⟩) rooms.length 3 1 rooms.length ((List.replicate rooms.length (Value.int .i64 0).cells.toList).flatten) :: _)
                refine XF.back ?_
                refine XD.pu 8 rfl (Pu.fieldAddr 29 4 0 rfl Try.underlying53 rfl Try.sizeOf29) ?_
                refine XD.ef0 9 rfl (Ef.st Try.sizeOf29) ?_
                rintro _ _ ⟨rfl, rfl⟩
                refine ⟨trivial, ?_⟩
                refine XD.nil ?_
                refine X.sub (p' := [(6, _), (8, _)]) ⟨rfl, rfl, trivial⟩ ?_
                refine X.seq ?_
                refine X.region ?_
                refine XO.ldA Try.isAgg53 Try.sizeOf53 ?_
                refine XO.ef0 (Ef.stA Try.sizeOf53) ?_
                rintro _ _ ⟨rfl, rfl⟩
                refine XO.pu (Pu.assign rfl) ?_
                refine XO.nil ?_
                refine X.sub (p' := [(7, _), (6, _)]) ⟨rfl, rfl, trivial⟩ ?_
                refine X.le (q' := lsH slV 28 (some ⟨g5, 0, none⟩) rooms.length (List.replicate rooms.length ⟨none, 0, []⟩) :: _) (Le.trans fndA (Le.mk_slV _)) ?_
                refine X.le (q' := lsH I64 3 (some ⟨g6, 0, none⟩) rooms.length (List.replicate rooms.length 0) :: _) (Le.trans fndA (Le.mk_ints _)) ?_
                refine X.le (Le.stars_rep (lsV 3) ⟨none, 0, []⟩ (fun q => Le.lsH_nil I64 3 q) C _) ?_
                refine X.le (Le.stars_rep (lsV 2) ⟨none, 0, []⟩ (fun q => Le.lsH_nil I64 2 q) rooms.length _) ?_
                have hrep : ∀ {α β : Type} (l : List α) (x : β), List.replicate l.length x = l.map (fun _ => x) := fun l x => by simp [List.map_const']
                have hR : Ref (⟨⟨a1, c1, List.replicate i (-1)⟩, ⟨some ⟨g, 0, none⟩, C, List.replicate C ⟨none, 0, []⟩⟩, ⟨a3, c3, rooms⟩, ⟨some ⟨g5, 0, none⟩, rooms.length, List.replicate rooms.length ⟨none, 0, []⟩⟩, ⟨some ⟨g6, 0, none⟩, rooms.length, List.replicate rooms.length 0⟩⟩ : RS) (newS i C rooms) := ⟨rfl, by simp [newS], by simp [newS, Function.comp_def], by simp [newS, Function.comp_def, List.map_const'], by simp [newS, Function.comp_def, List.map_const']⟩
                refine X.turn (q' := refM (⟨⟨a1, c1, List.replicate i (-1)⟩, ⟨some ⟨g, 0, none⟩, C, List.replicate C ⟨none, 0, []⟩⟩, ⟨a3, c3, rooms⟩, ⟨some ⟨g5, 0, none⟩, rooms.length, List.replicate rooms.length ⟨none, 0, []⟩⟩, ⟨some ⟨g6, 0, none⟩, rooms.length, List.replicate rooms.length 0⟩⟩ : RS) :: pto n1 _ :: (q ++ F)) (fun w s0 => St.refFz (newS_ok ok) (by omega) hR (s0.le (show Le _ (refO (⟨⟨a1, c1, List.replicate i (-1)⟩, ⟨some ⟨g, 0, none⟩, C, List.replicate C ⟨none, 0, []⟩⟩, ⟨a3, c3, rooms⟩, ⟨some ⟨g5, 0, none⟩, rooms.length, List.replicate rooms.length ⟨none, 0, []⟩⟩, ⟨some ⟨g6, 0, none⟩, rooms.length, List.replicate rooms.length 0⟩⟩ : RS) ++ (pto n1 _ :: (q ++ F))) from by unfold refO; simp only [ca, na]; exact leA))) ?_
                refine X.retL (refM (⟨⟨a1, c1, List.replicate i (-1)⟩, ⟨some ⟨g, 0, none⟩, C, List.replicate C ⟨none, 0, []⟩⟩, ⟨a3, c3, rooms⟩, ⟨some ⟨g5, 0, none⟩, rooms.length, List.replicate rooms.length ⟨none, 0, []⟩⟩, ⟨some ⟨g6, 0, none⟩, rooms.length, List.replicate rooms.length 0⟩⟩ : RS) :: q) Try.func25 (resC Try.results25 (ResOk.cell rfl (LV.agg Try.isAgg53 Try.sizeOf53 hasA rfl) (ResOk.tmp rfl ResOk.nil))) ⟨_, rfl, (⟨⟨a1, c1, List.replicate i (-1)⟩, ⟨some ⟨g, 0, none⟩, C, List.replicate C ⟨none, 0, []⟩⟩, ⟨a3, c3, rooms⟩, ⟨some ⟨g5, 0, none⟩, rooms.length, List.replicate rooms.length ⟨none, 0, []⟩⟩, ⟨some ⟨g6, 0, none⟩, rooms.length, List.replicate rooms.length 0⟩⟩ : RS), hR, by simp [Wx.sub, splice, setl], rfl⟩
          · skip
            exact absurd ⟨ok.1, ok.2.1, ok.2.2.1⟩ hf
end
end Go.Proofs.Ytlgnnhpbomfdiaa

