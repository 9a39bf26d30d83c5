/- What functions of package sync, of its references and of its laws do: contracts of calls, proved by walking their code. -/
import Derived.Test.YtlgnnhpbomfdiaaG
import Derived.KernelRfl
set_option maxRecDepth 100000
set_option linter.unusedVariables false
set_option linter.unusedSimpArgs false
namespace Go.Proofs.Ytlgnnhpbomfdiaa
open Go Go.RowKit Wx

def newS (m c : Nat) (rooms : List Int) : Sy := ⟨List.replicate m (-1), List.replicate c [], rooms.map fun r => ⟨r, [], 0⟩⟩
abbrev roomOk (r : Int) : Prop := 1 ≤ r ∧ r ≤ 16
def formOk (m c : Int) (rooms : List Int) : Prop := (0 ≤ m ∧ m ≤ 64) ∧ (0 ≤ c ∧ c ≤ 64) ∧ rooms.length ≤ 64 ∧ ∀ r ∈ rooms, roomOk r
instance (m c : Int) (rooms : List Int) : Decidable (formOk m c rooms) := by unfold formOk; exact inferInstance
theorem newS_ok {m c : Nat} {rooms : List Int} (h : formOk m c rooms) : (newS m c rooms).ok 0 := by
  obtain ⟨⟨_, h1⟩, ⟨_, h2⟩, h3, h4⟩ := h
  refine ⟨by simp [newS]; omega, by simp [newS]; omega, by simp [newS]; omega, fun o ho => ?_, fun l hl => ?_, fun x hx => ?_⟩
  · have := (List.mem_replicate.1 ho).2; omega
  · have := (List.mem_replicate.1 hl).2; subst this; simp
  · obtain ⟨r, hr, rfl⟩ := List.mem_map.1 hx
    obtain ⟨a, b⟩ := h4 r hr
    exact ⟨⟨a, b⟩, by simp, by simp, by simp [Ch.items]; omega, by simp⟩
def ch1 (r : Int) : ChC := ⟨⟨none, 0, []⟩, r, 0⟩
section
variable {G : World} {q : List HP} {a b : Option Addr} {c d g p p2 i n : Nat} {σ σ2 : SyC} {s s2 : Sy} {k t v m at_ number mm cc : Int} {rooms : List Int}
theorem New_no (hs : Sees q a (rooms.map I64)) (ok : ¬ formOk mm cc rooms) : CallF Try.prog G 12 [.int .i64 mm, .int .i64 cc, .slice a rooms.length c] q (Ret fun v q' => v = .tuple [.pointer none, .int .i64 2].toArray ∧ q' = q) := by
  refine CallF.of Try.func12 Try.ntmps12 rfl (fun F cs => ?_)
  refine X.sub (p' := [(0, _), (1, _), (2, _)]) ⟨rfl, rfl, rfl, trivial⟩ ?_
  refine X.seq ?_
  refine X.region ?_
  refine XO.pu (Pu.assign rfl) ?_
  refine XO.pu (Pu.assign rfl) ?_
  refine XO.nil ?_
  refine X.sub (p' := [(7, _), (6, _), (0, _), (1, _), (2, _)]) ⟨rfl, rfl, rfl, rfl, rfl, trivial⟩ ?_
  refine X.seq ?_
  refine X.seq ?_
  refine X.region ?_
  refine XO.pu (Pu.move rfl) ?_
  refine XO.pu (Pu.lss rfl rfl) ?_
  refine XO.pu (Pu.move rfl) ?_
  refine XO.sub (p' := [(13, _), (7, _), (6, _), (0, _), (1, _), (2, _)]) ⟨rfl, rfl, rfl, rfl, rfl, rfl, trivial⟩ ?_
  apply XO.cutOr 3 16 13 rfl
  · skip
    intro g1 M1; have h1 := g1; try simp only [decide_eq_true_eq, decide_eq_false_iff_not, bne_iff_ne, beq_iff_eq, ne_eq, bne_eq_false_iff_eq, beq_eq_false_iff_ne, Bool.not_eq_true', Bool.not_eq_false', Int.not_lt, Int.not_le, Bool.not_not, Bool.and_eq_true, Bool.and_eq_false_iff, Bool.true_and, Bool.and_true, beq_self_eq_true, Bool.or_eq_true, Bool.or_eq_false_iff] at h1
    refine XO.pu (Pu.move rfl) ?_
    refine XO.pu (Pu.gtr rfl rfl) ?_
    refine XO.pu (Pu.pickF rfl rfl) ?_
    exact XO.fin M1 ⟨orF g1, congrArg (fun x => some (Value.bool x)) g1.symm, rfl, rfl, rfl, rfl, rfl, trivial⟩
  · skip
    intro g1 M1; have h1 := g1; try simp only [decide_eq_true_eq, decide_eq_false_iff_not, bne_iff_ne, beq_iff_eq, ne_eq, bne_eq_false_iff_eq, beq_eq_false_iff_ne, Bool.not_eq_true', Bool.not_eq_false', Int.not_lt, Int.not_le, Bool.not_not, Bool.and_eq_true, Bool.and_eq_false_iff, Bool.true_and, Bool.and_true, beq_self_eq_true, Bool.or_eq_true, Bool.or_eq_false_iff] at h1
    refine XO.pass rfl ?_
    refine XO.pass rfl ?_
    refine XO.pu (Pu.pickT rfl rfl) ?_
    exact XO.fin M1 ⟨orT g1, congrArg (fun x => some (Value.bool x)) g1.symm, rfl, rfl, rfl, rfl, rfl, trivial⟩
  · skip
    refine XO.pu (Pu.move rfl) ?_
    refine XO.sub (p' := [(17, _), (7, _), (6, _), (0, _), (1, _), (2, _)]) ⟨rfl, rfl, rfl, rfl, rfl, rfl, trivial⟩ ?_
    apply XO.cutOr 3 20 17 rfl
    · skip
      intro g1 M1; have h1 := g1; try simp only [decide_eq_true_eq, decide_eq_false_iff_not, bne_iff_ne, beq_iff_eq, ne_eq, bne_eq_false_iff_eq, beq_eq_false_iff_ne, Bool.not_eq_true', Bool.not_eq_false', Int.not_lt, Int.not_le, Bool.not_not, Bool.and_eq_true, Bool.and_eq_false_iff, Bool.true_and, Bool.and_true, beq_self_eq_true, Bool.or_eq_true, Bool.or_eq_false_iff] at h1
      refine XO.pu (Pu.move rfl) ?_
      refine XO.pu (Pu.lss rfl rfl) ?_
      refine XO.pu (Pu.pickF rfl rfl) ?_
      exact XO.fin M1 ⟨orF g1, congrArg (fun x => some (Value.bool x)) g1.symm, rfl, rfl, rfl, rfl, rfl, trivial⟩
    · skip
      intro g1 M1; have h1 := g1; try simp only [decide_eq_true_eq, decide_eq_false_iff_not, bne_iff_ne, beq_iff_eq, ne_eq, bne_eq_false_iff_eq, beq_eq_false_iff_ne, Bool.not_eq_true', Bool.not_eq_false', Int.not_lt, Int.not_le, Bool.not_not, Bool.and_eq_true, Bool.and_eq_false_iff, Bool.true_and, Bool.and_true, beq_self_eq_true, Bool.or_eq_true, Bool.or_eq_false_iff] at h1
      refine XO.pass rfl ?_
      refine XO.pass rfl ?_
      refine XO.pu (Pu.pickT rfl rfl) ?_
      exact XO.fin M1 ⟨orT g1, congrArg (fun x => some (Value.bool x)) g1.symm, rfl, rfl, rfl, rfl, rfl, trivial⟩
    · skip
      refine XO.pu (Pu.move rfl) ?_
      refine XO.sub (p' := [(21, _), (7, _), (6, _), (0, _), (1, _), (2, _)]) ⟨rfl, rfl, rfl, rfl, rfl, rfl, trivial⟩ ?_
      apply XO.cutOr 3 24 21 rfl
      · skip
        intro g1 M1; have h1 := g1; try simp only [decide_eq_true_eq, decide_eq_false_iff_not, bne_iff_ne, beq_iff_eq, ne_eq, bne_eq_false_iff_eq, beq_eq_false_iff_ne, Bool.not_eq_true', Bool.not_eq_false', Int.not_lt, Int.not_le, Bool.not_not, Bool.and_eq_true, Bool.and_eq_false_iff, Bool.true_and, Bool.and_true, beq_self_eq_true, Bool.or_eq_true, Bool.or_eq_false_iff] at h1
        refine XO.pu (Pu.move rfl) ?_
        refine XO.pu (Pu.gtr rfl rfl) ?_
        refine XO.pu (Pu.pickF rfl rfl) ?_
        exact XO.fin M1 ⟨orF g1, congrArg (fun x => some (Value.bool x)) g1.symm, rfl, rfl, rfl, rfl, rfl, trivial⟩
      · skip
        intro g1 M1; have h1 := g1; try simp only [decide_eq_true_eq, decide_eq_false_iff_not, bne_iff_ne, beq_iff_eq, ne_eq, bne_eq_false_iff_eq, beq_eq_false_iff_ne, Bool.not_eq_true', Bool.not_eq_false', Int.not_lt, Int.not_le, Bool.not_not, Bool.and_eq_true, Bool.and_eq_false_iff, Bool.true_and, Bool.and_true, beq_self_eq_true, Bool.or_eq_true, Bool.or_eq_false_iff] at h1
        refine XO.pass rfl ?_
        refine XO.pass rfl ?_
        refine XO.pu (Pu.pickT rfl rfl) ?_
        exact XO.fin M1 ⟨orT g1, congrArg (fun x => some (Value.bool x)) g1.symm, rfl, rfl, rfl, rfl, rfl, trivial⟩
      · skip
        refine XO.pu (Pu.move rfl) ?_
        refine XO.sub (p' := [(25, _), (7, _), (6, _), (0, _), (1, _), (2, _)]) ⟨rfl, rfl, rfl, rfl, rfl, rfl, trivial⟩ ?_
        apply XO.cutOr 4 29 25 rfl
        · skip
          intro g1 M1; have h1 := g1; try simp only [decide_eq_true_eq, decide_eq_false_iff_not, bne_iff_ne, beq_iff_eq, ne_eq, bne_eq_false_iff_eq, beq_eq_false_iff_ne, Bool.not_eq_true', Bool.not_eq_false', Int.not_lt, Int.not_le, Bool.not_not, Bool.and_eq_true, Bool.and_eq_false_iff, Bool.true_and, Bool.and_true, beq_self_eq_true, Bool.or_eq_true, Bool.or_eq_false_iff] at h1
          refine XO.pu (Pu.move rfl) ?_
          refine XO.pu (Pu.len rfl Try.underlying29) ?_
          refine XO.pu (Pu.gtr rfl rfl) ?_
          refine XO.pu (Pu.pickF rfl rfl) ?_
          exact XO.fin M1 ⟨orF g1, congrArg (fun x => some (Value.bool x)) g1.symm, rfl, rfl, rfl, rfl, rfl, trivial⟩
        · skip
          intro g1 M1; have h1 := g1; try simp only [decide_eq_true_eq, decide_eq_false_iff_not, bne_iff_ne, beq_iff_eq, ne_eq, bne_eq_false_iff_eq, beq_eq_false_iff_ne, Bool.not_eq_true', Bool.not_eq_false', Int.not_lt, Int.not_le, Bool.not_not, Bool.and_eq_true, Bool.and_eq_false_iff, Bool.true_and, Bool.and_true, beq_self_eq_true, Bool.or_eq_true, Bool.or_eq_false_iff] at h1
          refine XO.pass rfl ?_
          refine XO.pass rfl ?_
          refine XO.pass rfl ?_
          refine XO.pu (Pu.pickT rfl rfl) ?_
          exact XO.fin M1 ⟨orT g1, congrArg (fun x => some (Value.bool x)) g1.symm, rfl, rfl, rfl, rfl, rfl, trivial⟩
        · skip
          refine XO.nil ?_
          refine X.sub (p' := [(29, _), (7, _), (6, _), (0, _), (1, _), (2, _)]) ⟨rfl, rfl, rfl, rfl, rfl, rfl, trivial⟩ ?_
          rcases Decidable.em ((0 ≤ mm ∧ mm ≤ 64) ∧ (0 ≤ cc ∧ cc ≤ 64) ∧ rooms.length ≤ 64) with hf | hf
          · skip
            obtain ⟨⟨hm0, hm1⟩, ⟨hc0, hc1⟩, hl⟩ := hf
            refine X.know 29 (.bool false) rfl (congrArg Value.bool (by simp; omega)) ?_
            obtain ⟨M, rfl⟩ := Int.eq_ofNat_of_zero_le hm0; obtain ⟨C, rfl⟩ := Int.eq_ofNat_of_zero_le hc0
            refine X.condF rfl ?_
            refine X.skip ?_
            refine X.seq ?_
            refine X.region ?_
            refine XO.pu (Pu.move rfl) ?_
            refine XO.ef (Ef.make (n := C) rfl rfl Try.underlying71 Try.info89 rfl rfl (by omega) (by omega)) ?_
            rintro _ _ ⟨g, rfl, rfl⟩
            refine XO.le (q' := rsH cqs 1 89 (some ⟨g, 0, none⟩) C (List.replicate C ⟨none, 0, []⟩) :: (q ++ F)) (by unfold rsH; rw [show (List.replicate C (⟨none, 0, []⟩ : SlV Int)).flatMap cqs = (List.replicate C (Value.slice none 0 0).cells.toList).flatten by simp [List.flatMap, cqs, Value.cells], List.length_replicate]; exact leA) ?_
            refine XO.pu (Pu.build (cells := [_, _, _, _]) [(0, 1), (1, 1), (2, 1), (3, 1)] Try.zeroValue74 Try.underlying74 (by kernel_rfl) rfl rfl) ?_
            refine XO.ef (Ef.box rfl) ?_
            rintro _ _ ⟨n1, rfl, rfl⟩
            refine XO.pu (Pu.assign rfl) ?_
            refine XO.nil ?_
            refine X.sub (p' := [(8, _), (7, _), (6, _), (0, _), (2, _)]) ⟨rfl, rfl, rfl, rfl, rfl, trivial⟩ ?_
            refine X.seq ?_
            refine X.seq ?_
            refine X.region ?_
            refine XO.pu (Pu.move rfl) ?_
            refine XO.pu (Pu.move rfl) ?_
            refine XO.nil ?_
            refine X.sub (p' := [(35, _), (34, _), (8, _), (7, _), (6, _), (2, _)]) ⟨rfl, rfl, rfl, rfl, rfl, rfl, trivial⟩ ?_
            refine X.block ?_
            refine X.at (X.loop (fun (s : Nat × Option Addr × Nat) => s.1 ≤ M) (fun s => [(2, .slice a rooms.length c), (8, .pointer (some ⟨n1, 0, none⟩)), (34, .int .i64 (M : Int)), (35, .int .i64 (s.1 : Int))]) (fun s => pto n1 (.cells [.bool true, .slice s.2.1 (List.replicate s.1 (-1 : Int)).length s.2.2, .slice (some ⟨g, 0, none⟩) C C, .slice none 0 0].toArray 74 (0, 0)) :: lsH I64 3 s.2.1 s.2.2 (List.replicate s.1 (-1)) :: rsH cqs 1 89 (some ⟨g, 0, none⟩) C (List.replicate C ⟨none, 0, []⟩) :: (q ++ F)) (fun s => M - s.1) (fun s hi_ ih => ?_) (0, none, 0) (by dsimp only; omega)) ⟨(by first | rfl | exact congrArg some (congrArg (Value.int _) (by omega)) | (show some _ = some _; simp; done) | (show some _ = some _; simp; omega)), (by first | rfl | exact congrArg some (congrArg (Value.int _) (by omega)) | (show some _ = some _; simp; done) | (show some _ = some _; simp; omega)), (by first | rfl | exact congrArg some (congrArg (Value.int _) (by omega)) | (show some _ = some _; simp; done) | (show some _ = some _; simp; omega)), (by first | rfl | exact congrArg some (congrArg (Value.int _) (by omega)) | (show some _ = some _; simp; done) | (show some _ = some _; simp; omega)), trivial⟩ (Le.trans leA (Le.trans (Le.lsH_nil I64 3 _) leA))
            try dsimp only at hi_ ih ⊢
            obtain hi := hi_
            obtain ⟨i, a1, c1⟩ := s; dsimp only at *
            refine X.seq ?_
            refine X.region ?_
            refine XO.pu (Pu.lss rfl rfl) ?_
            refine XO.nil ?_
            refine X.sub (p' := [(36, _), (2, _), (8, _), (34, _), (35, _)]) ⟨rfl, rfl, rfl, rfl, rfl, trivial⟩ ?_
            refine X.seq ?_
            refine X.part 36 rfl (fun h0 => ?_) (fun h0 => ?_)
            · skip
              have h0 := of_decide_eq_true h0; have hi0 : i < M := (by omega)
              refine X.condT rfl ?_
              refine X.skip ?_
              refine X.seq ?_
              refine X.block ?_
              refine X.region ?_
              refine XO.pu (Pu.move rfl) ?_
              refine XO.pu (Pu.move rfl) ?_
              refine XO.pu (Pu.nilCheck rfl) ?_
              refine XO.pu (Pu.fieldAddr 29 1 0 rfl Try.underlying74 rfl Try.sizeOf29) ?_
              refine XO.ld Try.isAgg29 ?_
              refine XO.ef (Ef.lit1 (u := -1) I64 Try.underlying29 Try.info3 rfl rfl) ?_
              rintro _ _ ⟨g2, rfl, rfl⟩
              refine XO.ef (Ef.appA (f := I64) (l := List.replicate i (-1)) (m := [-1]) Try.underlying29 Try.info3 rfl rfl rfl fndA ((Sees.lsH _).le leA) (fun _ => rfl) (by simp; omega) (by simp; omega)) ?_
              rintro _ _ ⟨a2, c2, rfl, rfl⟩
              rw [← List.replicate_succ' (n := i)]
              refine XO.pu (Pu.nilCheck rfl) ?_
              refine XO.pu (Pu.fieldAddr 29 1 0 rfl Try.underlying74 rfl Try.sizeOf29) ?_
              refine XO.ef0 (Ef.st Try.sizeOf29) ?_
              rintro _ _ ⟨rfl, rfl⟩
              refine XO.nil ?_
              refine X.sub (p' := [(2, _), (8, _), (34, _), (35, _)]) ⟨rfl, rfl, rfl, rfl, trivial⟩ ?_
              refine X.inBlock ?_
              refine X.region ?_
              refine XO.pu (Pu.add rfl rfl (by omega) (by omega)) ?_
              refine XO.pu (Pu.move rfl) ?_
              refine XO.nil ?_
              refine X.sub (p' := [(35, _), (2, _), (8, _), (34, _)]) ⟨rfl, rfl, rfl, rfl, trivial⟩ ?_
              refine X.at (ih (i + 1, a2, c2) (by dsimp only; omega) (by dsimp only; omega)) ⟨(by first | rfl | exact congrArg some (congrArg (Value.int _) (by omega)) | (show some _ = some _; simp; done) | (show some _ = some _; simp; omega)), (by first | rfl | exact congrArg some (congrArg (Value.int _) (by omega)) | (show some _ = some _; simp; done) | (show some _ = some _; simp; omega)), (by first | rfl | exact congrArg some (congrArg (Value.int _) (by omega)) | (show some _ = some _; simp; done) | (show some _ = some _; simp; omega)), (by first | rfl | exact congrArg some (congrArg (Value.int _) (by omega)) | (show some _ = some _; simp; done) | (show some _ = some _; simp; omega)), trivial⟩ leA
            · skip
              have h0 := of_decide_eq_false h0; obtain rfl : i = M := by omega
              clear ih
              refine X.condF rfl ?_
              refine X.exit rfl ?_
              refine X.seq ?_
              refine X.seq ?_
              refine X.region ?_
              refine XO.pu (Pu.move rfl) ?_
              refine XO.pu (Pu.len rfl Try.underlying29) ?_
              refine XO.pu (Pu.move rfl) ?_
              refine XO.nil ?_
              refine X.sub (p' := [(49, _), (48, _), (47, _), (8, _)]) ⟨rfl, rfl, rfl, rfl, trivial⟩ ?_
              refine X.block ?_
              refine X.at (X.loop (fun (s : Nat × Option Addr × Nat) => s.1 ≤ rooms.length ∧ ∀ r ∈ rooms.take s.1, roomOk r) (fun s => [(8, .pointer (some ⟨n1, 0, none⟩)), (47, .slice a rooms.length c), (48, .int .i64 (rooms.length : Int)), (49, .int .i64 (s.1 : Int))]) (fun s => pto n1 (.cells [.bool true, .slice a1 (List.replicate i (-1 : Int)).length c1, .slice (some ⟨g, 0, none⟩) C C, .slice s.2.1 ((rooms.take s.1).map ch1).length s.2.2].toArray 74 (0, 0)) :: lsH I64 3 a1 c1 (List.replicate i (-1)) :: rsH cqs 1 89 (some ⟨g, 0, none⟩) C (List.replicate C ⟨none, 0, []⟩) :: rsH chs 3 78 s.2.1 s.2.2 ((rooms.take s.1).map ch1) :: (q ++ F)) (fun s => rooms.length - s.1) (fun s hi_ ih => ?_) (0, none, 0) ⟨by dsimp only; omega, by simp⟩) ⟨(by first | rfl | exact congrArg some (congrArg (Value.int _) (by omega)) | (show some _ = some _; simp; done) | (show some _ = some _; simp; omega)), (by first | rfl | exact congrArg some (congrArg (Value.int _) (by omega)) | (show some _ = some _; simp; done) | (show some _ = some _; simp; omega)), (by first | rfl | exact congrArg some (congrArg (Value.int _) (by omega)) | (show some _ = some _; simp; done) | (show some _ = some _; simp; omega)), (by first | rfl | exact congrArg some (congrArg (Value.int _) (by omega)) | (show some _ = some _; simp; done) | (show some _ = some _; simp; omega)), trivial⟩ (Le.trans leA (Le.trans (Le.rsH_nil chs 3 78 _) leA))
              try dsimp only at hi_ ih ⊢
              obtain ⟨hi1, hi2⟩ := hi_
              obtain ⟨j, a3, c3⟩ := s; dsimp only at *
              refine X.seq ?_
              refine X.region ?_
              refine XO.pu (Pu.lss rfl rfl) ?_
              refine XO.nil ?_
              refine X.sub (p' := [(50, _), (8, _), (47, _), (48, _), (49, _)]) ⟨rfl, rfl, rfl, rfl, rfl, trivial⟩ ?_
              refine X.seq ?_
              refine X.part 50 rfl (fun h0 => ?_) (fun h0 => ?_)
              · skip
                have h0 := of_decide_eq_true h0; have hj0 : j < rooms.length := (by omega)
                refine X.adr (hs.le leA) (by simp; omega) (fun b1 o1 e_ => ?_); subst e_
                refine X.condT rfl ?_
                refine X.skip ?_
                refine X.seq ?_
                refine X.block ?_
                refine X.seq ?_
                refine X.region ?_
                refine XO.pu (Pu.indexAddr rfl rfl Try.underlying29 Try.sizeOf3 (by omega) (by omega)) ?_
                refine XO.ld Try.isAgg3 ?_
                refine XO.pu (Pu.assign rfl) ?_
                refine XO.nil ?_
                refine X.sub (p' := [(10, _), (8, _), (47, _), (48, _), (49, _)]) ⟨rfl, rfl, rfl, rfl, rfl, trivial⟩ ?_
                refine X.seq ?_
                refine X.seq ?_
                refine X.region ?_
                refine XO.pu (Pu.move rfl) ?_
                refine XO.pu (Pu.lss rfl rfl) ?_
                refine XO.pu (Pu.move rfl) ?_
                refine XO.sub (p' := [(55, _), (10, _), (8, _), (47, _), (48, _), (49, _)]) ⟨rfl, rfl, rfl, rfl, rfl, rfl, trivial⟩ ?_
                apply XO.cutOr 3 58 55 rfl
                · skip
                  intro g1 M1; have h1 := g1; try simp only [decide_eq_true_eq, decide_eq_false_iff_not, bne_iff_ne, beq_iff_eq, ne_eq, bne_eq_false_iff_eq, beq_eq_false_iff_ne, Bool.not_eq_true', Bool.not_eq_false', Int.not_lt, Int.not_le, Bool.not_not, Bool.and_eq_true, Bool.and_eq_false_iff, Bool.true_and, Bool.and_true, beq_self_eq_true, Bool.or_eq_true, Bool.or_eq_false_iff] at h1
                  refine XO.pu (Pu.move rfl) ?_
                  refine XO.pu (Pu.gtr rfl rfl) ?_
                  refine XO.pu (Pu.pickF rfl rfl) ?_
                  exact XO.fin M1 ⟨orF g1, congrArg (fun x => some (Value.bool x)) g1.symm, rfl, rfl, rfl, rfl, rfl, trivial⟩
                · skip
                  intro g1 M1; have h1 := g1; try simp only [decide_eq_true_eq, decide_eq_false_iff_not, bne_iff_ne, beq_iff_eq, ne_eq, bne_eq_false_iff_eq, beq_eq_false_iff_ne, Bool.not_eq_true', Bool.not_eq_false', Int.not_lt, Int.not_le, Bool.not_not, Bool.and_eq_true, Bool.and_eq_false_iff, Bool.true_and, Bool.and_true, beq_self_eq_true, Bool.or_eq_true, Bool.or_eq_false_iff] at h1
                  refine XO.pass rfl ?_
                  refine XO.pass rfl ?_
                  refine XO.pu (Pu.pickT rfl rfl) ?_
                  exact XO.fin M1 ⟨orT g1, congrArg (fun x => some (Value.bool x)) g1.symm, rfl, rfl, rfl, rfl, rfl, trivial⟩
                · skip
                  refine XO.nil ?_
                  refine X.sub (p' := [(58, _), (10, _), (8, _), (47, _), (48, _), (49, _)]) ⟨rfl, rfl, rfl, rfl, rfl, rfl, trivial⟩ ?_
                  rcases Decidable.em (roomOk rooms[j]) with hk | hk
                  · skip
                    refine X.know 58 (.bool false) rfl (congrArg Value.bool (by simp; omega)) ?_
                    refine X.condF rfl ?_
                    refine X.skip ?_
                    refine X.region ?_
                    refine XO.pu (Pu.move rfl) ?_
                    refine XO.pu (Pu.move rfl) ?_
                    refine XO.pu (Pu.nilCheck rfl) ?_
                    refine XO.pu (Pu.fieldAddr 72 3 0 rfl Try.underlying74 rfl Try.sizeOf72) ?_
                    refine XO.ld Try.isAgg72 ?_
                    refine XO.pu (Pu.move rfl) ?_
                    refine XO.pu (Pu.build (cells := [_, _, _]) [(0, 1), (1, 1), (2, 1)] Try.zeroValue78 Try.underlying78 (by kernel_rfl) rfl rfl) ?_
                    refine XO.ef (Ef.litR1 (u := ch1 rooms[j]) chs Try.underlying72 Try.info78 rfl rfl (fun _ => rfl) rfl) ?_
                    rintro _ _ ⟨g2, rfl, rfl⟩
                    have hlm : ((rooms.take j).map ch1).length = j := by simp; omega
                    refine XO.ef (Ef.appRA (l := (rooms.take j).map ch1) (m := [ch1 rooms[j]]) Try.underlying72 Try.info78 rfl rfl (fun _ => rfl) rfl rfl fndA ((Sees.rsH _).le leA) (fun _ => rfl) (by simp; omega) (by simp; omega)) ?_
                    rintro _ _ ⟨a4, c4, rfl, rfl⟩
                    rw [show (rooms.take j).map ch1 ++ [ch1 rooms[j]] = (rooms.take (j + 1)).map ch1 by rw [List.take_succ_eq_append_getElem hj0, List.map_append]; rfl]
                    refine XO.pu (Pu.nilCheck rfl) ?_
                    refine XO.pu (Pu.fieldAddr 72 3 0 rfl Try.underlying74 rfl Try.sizeOf72) ?_
                    refine XO.ef0 (Ef.st Try.sizeOf72) ?_
                    rintro _ _ ⟨rfl, rfl⟩
                    refine XO.nil ?_
                    refine X.sub (p' := [(8, _), (47, _), (48, _), (49, _)]) ⟨rfl, rfl, rfl, rfl, trivial⟩ ?_
                    refine X.inBlock ?_
                    refine X.region ?_
                    refine XO.pu (Pu.add rfl rfl (by omega) (by omega)) ?_
                    refine XO.pu (Pu.move rfl) ?_
                    refine XO.nil ?_
                    refine X.sub (p' := [(49, _), (8, _), (47, _), (48, _)]) ⟨rfl, rfl, rfl, rfl, trivial⟩ ?_
                    refine X.at (ih (j + 1, a4, c4) ⟨by dsimp only; omega, by dsimp only; rw [List.take_succ_eq_append_getElem hj0]; intro y hy; rcases List.mem_append.1 hy with hy | hy; exact hi2 y hy; rw [List.mem_singleton.1 hy]; exact hk⟩ (by dsimp only; omega)) ⟨(by first | rfl | exact congrArg some (congrArg (Value.int _) (by omega)) | (show some _ = some _; simp; done) | (show some _ = some _; simp; omega)), (by first | rfl | exact congrArg some (congrArg (Value.int _) (by omega)) | (show some _ = some _; simp; done) | (show some _ = some _; simp; omega)), (by first | rfl | exact congrArg some (congrArg (Value.int _) (by omega)) | (show some _ = some _; simp; done) | (show some _ = some _; simp; omega)), (by first | rfl | exact congrArg some (congrArg (Value.int _) (by omega)) | (show some _ = some _; simp; done) | (show some _ = some _; simp; omega)), trivial⟩ leA
                  · skip
                    refine X.know 58 (.bool true) rfl (congrArg Value.bool (by simp; omega)) ?_
                    refine X.condT rfl ?_
                    refine X.seq ?_
                    refine X.region ?_
                    refine XO.pu (Pu.assign rfl) ?_
                    refine XO.pu (Pu.assign rfl) ?_
                    refine XO.nil ?_
                    refine X.sub (p' := [(7, _), (6, _), (10, _), (8, _), (47, _), (48, _), (49, _)]) ⟨rfl, rfl, rfl, rfl, rfl, rfl, rfl, trivial⟩ ?_
                    refine X.retL (q) Try.func12 (res2 Try.results12 rfl rfl) ⟨_, rfl, rfl, rfl⟩
              · skip
                have h0 := of_decide_eq_false h0; obtain rfl : j = rooms.length := by omega
                rw [List.take_length] at *
                exact absurd ⟨⟨by omega, by omega⟩, ⟨by omega, by omega⟩, hl, hi2⟩ ok
          · skip
            refine X.know 29 (.bool true) rfl (congrArg Value.bool (by simp; omega)) ?_
            refine X.condT rfl ?_
            refine X.seq ?_
            refine X.region ?_
            refine XO.pu (Pu.assign rfl) ?_
            refine XO.pu (Pu.assign rfl) ?_
            refine XO.nil ?_
            refine X.sub (p' := [(7, _), (6, _), (0, _), (1, _), (2, _)]) ⟨rfl, rfl, rfl, rfl, rfl, trivial⟩ ?_
            refine X.retL (q) Try.func12 (res2 Try.results12 rfl rfl) ⟨_, rfl, rfl, rfl⟩
theorem New_ok (hs : Sees q a (rooms.map I64)) (ok : formOk mm cc rooms) : CallF Try.prog G 12 [.int .i64 mm, .int .i64 cc, .slice a rooms.length c] q (Ret fun v q' => ∃ p σ, Real σ (newS mm.toNat cc.toNat rooms) ∧ v = .tuple [.pointer (some ⟨p, 0, none⟩), .int .i64 0].toArray ∧ q' = syL p σ ++ q) := by
  refine CallF.of Try.func12 Try.ntmps12 rfl (fun F cs => ?_)
  refine X.sub (p' := [(0, _), (1, _), (2, _)]) ⟨rfl, rfl, rfl, trivial⟩ ?_
  refine X.seq ?_
  refine X.region ?_
  refine XO.pu (Pu.assign rfl) ?_
  refine XO.pu (Pu.assign rfl) ?_
  refine XO.nil ?_
  refine X.sub (p' := [(7, _), (6, _), (0, _), (1, _), (2, _)]) ⟨rfl, rfl, rfl, rfl, rfl, trivial⟩ ?_
  refine X.seq ?_
  refine X.seq ?_
  refine X.region ?_
  refine XO.pu (Pu.move rfl) ?_
  refine XO.pu (Pu.lss rfl rfl) ?_
  refine XO.pu (Pu.move rfl) ?_
  refine XO.sub (p' := [(13, _), (7, _), (6, _), (0, _), (1, _), (2, _)]) ⟨rfl, rfl, rfl, rfl, rfl, rfl, trivial⟩ ?_
  apply XO.cutOr 3 16 13 rfl
  · skip
    intro g1 M1; have h1 := g1; try simp only [decide_eq_true_eq, decide_eq_false_iff_not, bne_iff_ne, beq_iff_eq, ne_eq, bne_eq_false_iff_eq, beq_eq_false_iff_ne, Bool.not_eq_true', Bool.not_eq_false', Int.not_lt, Int.not_le, Bool.not_not, Bool.and_eq_true, Bool.and_eq_false_iff, Bool.true_and, Bool.and_true, beq_self_eq_true, Bool.or_eq_true, Bool.or_eq_false_iff] at h1
    refine XO.pu (Pu.move rfl) ?_
    refine XO.pu (Pu.gtr rfl rfl) ?_
    refine XO.pu (Pu.pickF rfl rfl) ?_
    exact XO.fin M1 ⟨orF g1, congrArg (fun x => some (Value.bool x)) g1.symm, rfl, rfl, rfl, rfl, rfl, trivial⟩
  · skip
    intro g1 M1; have h1 := g1; try simp only [decide_eq_true_eq, decide_eq_false_iff_not, bne_iff_ne, beq_iff_eq, ne_eq, bne_eq_false_iff_eq, beq_eq_false_iff_ne, Bool.not_eq_true', Bool.not_eq_false', Int.not_lt, Int.not_le, Bool.not_not, Bool.and_eq_true, Bool.and_eq_false_iff, Bool.true_and, Bool.and_true, beq_self_eq_true, Bool.or_eq_true, Bool.or_eq_false_iff] at h1
    refine XO.pass rfl ?_
    refine XO.pass rfl ?_
    refine XO.pu (Pu.pickT rfl rfl) ?_
    exact XO.fin M1 ⟨orT g1, congrArg (fun x => some (Value.bool x)) g1.symm, rfl, rfl, rfl, rfl, rfl, trivial⟩
  · skip
    refine XO.pu (Pu.move rfl) ?_
    refine XO.sub (p' := [(17, _), (7, _), (6, _), (0, _), (1, _), (2, _)]) ⟨rfl, rfl, rfl, rfl, rfl, rfl, trivial⟩ ?_
    apply XO.cutOr 3 20 17 rfl
    · skip
      intro g1 M1; have h1 := g1; try simp only [decide_eq_true_eq, decide_eq_false_iff_not, bne_iff_ne, beq_iff_eq, ne_eq, bne_eq_false_iff_eq, beq_eq_false_iff_ne, Bool.not_eq_true', Bool.not_eq_false', Int.not_lt, Int.not_le, Bool.not_not, Bool.and_eq_true, Bool.and_eq_false_iff, Bool.true_and, Bool.and_true, beq_self_eq_true, Bool.or_eq_true, Bool.or_eq_false_iff] at h1
      refine XO.pu (Pu.move rfl) ?_
      refine XO.pu (Pu.lss rfl rfl) ?_
      refine XO.pu (Pu.pickF rfl rfl) ?_
      exact XO.fin M1 ⟨orF g1, congrArg (fun x => some (Value.bool x)) g1.symm, rfl, rfl, rfl, rfl, rfl, trivial⟩
    · skip
      intro g1 M1; have h1 := g1; try simp only [decide_eq_true_eq, decide_eq_false_iff_not, bne_iff_ne, beq_iff_eq, ne_eq, bne_eq_false_iff_eq, beq_eq_false_iff_ne, Bool.not_eq_true', Bool.not_eq_false', Int.not_lt, Int.not_le, Bool.not_not, Bool.and_eq_true, Bool.and_eq_false_iff, Bool.true_and, Bool.and_true, beq_self_eq_true, Bool.or_eq_true, Bool.or_eq_false_iff] at h1
      refine XO.pass rfl ?_
      refine XO.pass rfl ?_
      refine XO.pu (Pu.pickT rfl rfl) ?_
      exact XO.fin M1 ⟨orT g1, congrArg (fun x => some (Value.bool x)) g1.symm, rfl, rfl, rfl, rfl, rfl, trivial⟩
    · skip
      refine XO.pu (Pu.move rfl) ?_
      refine XO.sub (p' := [(21, _), (7, _), (6, _), (0, _), (1, _), (2, _)]) ⟨rfl, rfl, rfl, rfl, rfl, rfl, trivial⟩ ?_
      apply XO.cutOr 3 24 21 rfl
      · skip
        intro g1 M1; have h1 := g1; try simp only [decide_eq_true_eq, decide_eq_false_iff_not, bne_iff_ne, beq_iff_eq, ne_eq, bne_eq_false_iff_eq, beq_eq_false_iff_ne, Bool.not_eq_true', Bool.not_eq_false', Int.not_lt, Int.not_le, Bool.not_not, Bool.and_eq_true, Bool.and_eq_false_iff, Bool.true_and, Bool.and_true, beq_self_eq_true, Bool.or_eq_true, Bool.or_eq_false_iff] at h1
        refine XO.pu (Pu.move rfl) ?_
        refine XO.pu (Pu.gtr rfl rfl) ?_
        refine XO.pu (Pu.pickF rfl rfl) ?_
        exact XO.fin M1 ⟨orF g1, congrArg (fun x => some (Value.bool x)) g1.symm, rfl, rfl, rfl, rfl, rfl, trivial⟩
      · skip
        intro g1 M1; have h1 := g1; try simp only [decide_eq_true_eq, decide_eq_false_iff_not, bne_iff_ne, beq_iff_eq, ne_eq, bne_eq_false_iff_eq, beq_eq_false_iff_ne, Bool.not_eq_true', Bool.not_eq_false', Int.not_lt, Int.not_le, Bool.not_not, Bool.and_eq_true, Bool.and_eq_false_iff, Bool.true_and, Bool.and_true, beq_self_eq_true, Bool.or_eq_true, Bool.or_eq_false_iff] at h1
        refine XO.pass rfl ?_
        refine XO.pass rfl ?_
        refine XO.pu (Pu.pickT rfl rfl) ?_
        exact XO.fin M1 ⟨orT g1, congrArg (fun x => some (Value.bool x)) g1.symm, rfl, rfl, rfl, rfl, rfl, trivial⟩
      · skip
        refine XO.pu (Pu.move rfl) ?_
        refine XO.sub (p' := [(25, _), (7, _), (6, _), (0, _), (1, _), (2, _)]) ⟨rfl, rfl, rfl, rfl, rfl, rfl, trivial⟩ ?_
        apply XO.cutOr 4 29 25 rfl
        · skip
          intro g1 M1; have h1 := g1; try simp only [decide_eq_true_eq, decide_eq_false_iff_not, bne_iff_ne, beq_iff_eq, ne_eq, bne_eq_false_iff_eq, beq_eq_false_iff_ne, Bool.not_eq_true', Bool.not_eq_false', Int.not_lt, Int.not_le, Bool.not_not, Bool.and_eq_true, Bool.and_eq_false_iff, Bool.true_and, Bool.and_true, beq_self_eq_true, Bool.or_eq_true, Bool.or_eq_false_iff] at h1
          refine XO.pu (Pu.move rfl) ?_
          refine XO.pu (Pu.len rfl Try.underlying29) ?_
          refine XO.pu (Pu.gtr rfl rfl) ?_
          refine XO.pu (Pu.pickF rfl rfl) ?_
          exact XO.fin M1 ⟨orF g1, congrArg (fun x => some (Value.bool x)) g1.symm, rfl, rfl, rfl, rfl, rfl, trivial⟩
        · skip
          intro g1 M1; have h1 := g1; try simp only [decide_eq_true_eq, decide_eq_false_iff_not, bne_iff_ne, beq_iff_eq, ne_eq, bne_eq_false_iff_eq, beq_eq_false_iff_ne, Bool.not_eq_true', Bool.not_eq_false', Int.not_lt, Int.not_le, Bool.not_not, Bool.and_eq_true, Bool.and_eq_false_iff, Bool.true_and, Bool.and_true, beq_self_eq_true, Bool.or_eq_true, Bool.or_eq_false_iff] at h1
          refine XO.pass rfl ?_
          refine XO.pass rfl ?_
          refine XO.pass rfl ?_
          refine XO.pu (Pu.pickT rfl rfl) ?_
          exact XO.fin M1 ⟨orT g1, congrArg (fun x => some (Value.bool x)) g1.symm, rfl, rfl, rfl, rfl, rfl, trivial⟩
        · skip
          refine XO.nil ?_
          refine X.sub (p' := [(29, _), (7, _), (6, _), (0, _), (1, _), (2, _)]) ⟨rfl, rfl, rfl, rfl, rfl, rfl, trivial⟩ ?_
          rcases Decidable.em ((0 ≤ mm ∧ mm ≤ 64) ∧ (0 ≤ cc ∧ cc ≤ 64) ∧ rooms.length ≤ 64) with hf | hf
          · skip
            obtain ⟨⟨hm0, hm1⟩, ⟨hc0, hc1⟩, hl⟩ := hf
            refine X.know 29 (.bool false) rfl (congrArg Value.bool (by simp; omega)) ?_
            obtain ⟨M, rfl⟩ := Int.eq_ofNat_of_zero_le hm0; obtain ⟨C, rfl⟩ := Int.eq_ofNat_of_zero_le hc0
            refine X.condF rfl ?_
            refine X.skip ?_
            refine X.seq ?_
            refine X.region ?_
            refine XO.pu (Pu.move rfl) ?_
            refine XO.ef (Ef.make (n := C) rfl rfl Try.underlying71 Try.info89 rfl rfl (by omega) (by omega)) ?_
            rintro _ _ ⟨g, rfl, rfl⟩
            refine XO.le (q' := rsH cqs 1 89 (some ⟨g, 0, none⟩) C (List.replicate C ⟨none, 0, []⟩) :: (q ++ F)) (by unfold rsH; rw [show (List.replicate C (⟨none, 0, []⟩ : SlV Int)).flatMap cqs = (List.replicate C (Value.slice none 0 0).cells.toList).flatten by simp [List.flatMap, cqs, Value.cells], List.length_replicate]; exact leA) ?_
            refine XO.pu (Pu.build (cells := [_, _, _, _]) [(0, 1), (1, 1), (2, 1), (3, 1)] Try.zeroValue74 Try.underlying74 (by kernel_rfl) rfl rfl) ?_
            refine XO.ef (Ef.box rfl) ?_
            rintro _ _ ⟨n1, rfl, rfl⟩
            refine XO.pu (Pu.assign rfl) ?_
            refine XO.nil ?_
            refine X.sub (p' := [(8, _), (7, _), (6, _), (0, _), (2, _)]) ⟨rfl, rfl, rfl, rfl, rfl, trivial⟩ ?_
            refine X.seq ?_
            refine X.seq ?_
            refine X.region ?_
            refine XO.pu (Pu.move rfl) ?_
            refine XO.pu (Pu.move rfl) ?_
            refine XO.nil ?_
            refine X.sub (p' := [(35, _), (34, _), (8, _), (7, _), (6, _), (2, _)]) ⟨rfl, rfl, rfl, rfl, rfl, rfl, trivial⟩ ?_
            refine X.block ?_
            refine X.at (X.loop (fun (s : Nat × Option Addr × Nat) => s.1 ≤ M) (fun s => [(2, .slice a rooms.length c), (8, .pointer (some ⟨n1, 0, none⟩)), (34, .int .i64 (M : Int)), (35, .int .i64 (s.1 : Int))]) (fun s => pto n1 (.cells [.bool true, .slice s.2.1 (List.replicate s.1 (-1 : Int)).length s.2.2, .slice (some ⟨g, 0, none⟩) C C, .slice none 0 0].toArray 74 (0, 0)) :: lsH I64 3 s.2.1 s.2.2 (List.replicate s.1 (-1)) :: rsH cqs 1 89 (some ⟨g, 0, none⟩) C (List.replicate C ⟨none, 0, []⟩) :: (q ++ F)) (fun s => M - s.1) (fun s hi_ ih => ?_) (0, none, 0) (by dsimp only; omega)) ⟨(by first | rfl | exact congrArg some (congrArg (Value.int _) (by omega)) | (show some _ = some _; simp; done) | (show some _ = some _; simp; omega)), (by first | rfl | exact congrArg some (congrArg (Value.int _) (by omega)) | (show some _ = some _; simp; done) | (show some _ = some _; simp; omega)), (by first | rfl | exact congrArg some (congrArg (Value.int _) (by omega)) | (show some _ = some _; simp; done) | (show some _ = some _; simp; omega)), (by first | rfl | exact congrArg some (congrArg (Value.int _) (by omega)) | (show some _ = some _; simp; done) | (show some _ = some _; simp; omega)), trivial⟩ (Le.trans leA (Le.trans (Le.lsH_nil I64 3 _) leA))
            try dsimp only at hi_ ih ⊢
            obtain hi := hi_
            obtain ⟨i, a1, c1⟩ := s; dsimp only at *
            refine X.seq ?_
            refine X.region ?_
            refine XO.pu (Pu.lss rfl rfl) ?_
            refine XO.nil ?_
            refine X.sub (p' := [(36, _), (2, _), (8, _), (34, _), (35, _)]) ⟨rfl, rfl, rfl, rfl, rfl, trivial⟩ ?_
            refine X.seq ?_
            refine X.part 36 rfl (fun h0 => ?_) (fun h0 => ?_)
            · skip
              have h0 := of_decide_eq_true h0; have hi0 : i < M := (by omega)
              refine X.condT rfl ?_
              refine X.skip ?_
              refine X.seq ?_
              refine X.block ?_
              refine X.region ?_
              refine XO.pu (Pu.move rfl) ?_
              refine XO.pu (Pu.move rfl) ?_
              refine XO.pu (Pu.nilCheck rfl) ?_
              refine XO.pu (Pu.fieldAddr 29 1 0 rfl Try.underlying74 rfl Try.sizeOf29) ?_
              refine XO.ld Try.isAgg29 ?_
              refine XO.ef (Ef.lit1 (u := -1) I64 Try.underlying29 Try.info3 rfl rfl) ?_
              rintro _ _ ⟨g2, rfl, rfl⟩
              refine XO.ef (Ef.appA (f := I64) (l := List.replicate i (-1)) (m := [-1]) Try.underlying29 Try.info3 rfl rfl rfl fndA ((Sees.lsH _).le leA) (fun _ => rfl) (by simp; omega) (by simp; omega)) ?_
              rintro _ _ ⟨a2, c2, rfl, rfl⟩
              rw [← List.replicate_succ' (n := i)]
              refine XO.pu (Pu.nilCheck rfl) ?_
              refine XO.pu (Pu.fieldAddr 29 1 0 rfl Try.underlying74 rfl Try.sizeOf29) ?_
              refine XO.ef0 (Ef.st Try.sizeOf29) ?_
              rintro _ _ ⟨rfl, rfl⟩
              refine XO.nil ?_
              refine X.sub (p' := [(2, _), (8, _), (34, _), (35, _)]) ⟨rfl, rfl, rfl, rfl, trivial⟩ ?_
              refine X.inBlock ?_
              refine X.region ?_
              refine XO.pu (Pu.add rfl rfl (by omega) (by omega)) ?_
              refine XO.pu (Pu.move rfl) ?_
              refine XO.nil ?_
              refine X.sub (p' := [(35, _), (2, _), (8, _), (34, _)]) ⟨rfl, rfl, rfl, rfl, trivial⟩ ?_
              refine X.at (ih (i + 1, a2, c2) (by dsimp only; omega) (by dsimp only; omega)) ⟨(by first | rfl | exact congrArg some (congrArg (Value.int _) (by omega)) | (show some _ = some _; simp; done) | (show some _ = some _; simp; omega)), (by first | rfl | exact congrArg some (congrArg (Value.int _) (by omega)) | (show some _ = some _; simp; done) | (show some _ = some _; simp; omega)), (by first | rfl | exact congrArg some (congrArg (Value.int _) (by omega)) | (show some _ = some _; simp; done) | (show some _ = some _; simp; omega)), (by first | rfl | exact congrArg some (congrArg (Value.int _) (by omega)) | (show some _ = some _; simp; done) | (show some _ = some _; simp; omega)), trivial⟩ leA
            · skip
              have h0 := of_decide_eq_false h0; obtain rfl : i = M := by omega
              clear ih
              refine X.condF rfl ?_
              refine X.exit rfl ?_
              refine X.seq ?_
              refine X.seq ?_
              refine X.region ?_
              refine XO.pu (Pu.move rfl) ?_
              refine XO.pu (Pu.len rfl Try.underlying29) ?_
              refine XO.pu (Pu.move rfl) ?_
              refine XO.nil ?_
              refine X.sub (p' := [(49, _), (48, _), (47, _), (8, _)]) ⟨rfl, rfl, rfl, rfl, trivial⟩ ?_
              refine X.block ?_
              refine X.at (X.loop (fun (s : Nat × Option Addr × Nat) => s.1 ≤ rooms.length ∧ ∀ r ∈ rooms.take s.1, roomOk r) (fun s => [(8, .pointer (some ⟨n1, 0, none⟩)), (47, .slice a rooms.length c), (48, .int .i64 (rooms.length : Int)), (49, .int .i64 (s.1 : Int))]) (fun s => pto n1 (.cells [.bool true, .slice a1 (List.replicate i (-1 : Int)).length c1, .slice (some ⟨g, 0, none⟩) C C, .slice s.2.1 ((rooms.take s.1).map ch1).length s.2.2].toArray 74 (0, 0)) :: lsH I64 3 a1 c1 (List.replicate i (-1)) :: rsH cqs 1 89 (some ⟨g, 0, none⟩) C (List.replicate C ⟨none, 0, []⟩) :: rsH chs 3 78 s.2.1 s.2.2 ((rooms.take s.1).map ch1) :: (q ++ F)) (fun s => rooms.length - s.1) (fun s hi_ ih => ?_) (0, none, 0) ⟨by dsimp only; omega, by simp⟩) ⟨(by first | rfl | exact congrArg some (congrArg (Value.int _) (by omega)) | (show some _ = some _; simp; done) | (show some _ = some _; simp; omega)), (by first | rfl | exact congrArg some (congrArg (Value.int _) (by omega)) | (show some _ = some _; simp; done) | (show some _ = some _; simp; omega)), (by first | rfl | exact congrArg some (congrArg (Value.int _) (by omega)) | (show some _ = some _; simp; done) | (show some _ = some _; simp; omega)), (by first | rfl | exact congrArg some (congrArg (Value.int _) (by omega)) | (show some _ = some _; simp; done) | (show some _ = some _; simp; omega)), trivial⟩ (Le.trans leA (Le.trans (Le.rsH_nil chs 3 78 _) leA))
              try dsimp only at hi_ ih ⊢
              obtain ⟨hi1, hi2⟩ := hi_
              obtain ⟨j, a3, c3⟩ := s; dsimp only at *
              refine X.seq ?_
              refine X.region ?_
              refine XO.pu (Pu.lss rfl rfl) ?_
              refine XO.nil ?_
              refine X.sub (p' := [(50, _), (8, _), (47, _), (48, _), (49, _)]) ⟨rfl, rfl, rfl, rfl, rfl, trivial⟩ ?_
              refine X.seq ?_
              refine X.part 50 rfl (fun h0 => ?_) (fun h0 => ?_)
              · skip
                have h0 := of_decide_eq_true h0; have hj0 : j < rooms.length := (by omega)
                refine X.adr (hs.le leA) (by simp; omega) (fun b1 o1 e_ => ?_); subst e_
                refine X.condT rfl ?_
                refine X.skip ?_
                refine X.seq ?_
                refine X.block ?_
                refine X.seq ?_
                refine X.region ?_
                refine XO.pu (Pu.indexAddr rfl rfl Try.underlying29 Try.sizeOf3 (by omega) (by omega)) ?_
                refine XO.ld Try.isAgg3 ?_
                refine XO.pu (Pu.assign rfl) ?_
                refine XO.nil ?_
                refine X.sub (p' := [(10, _), (8, _), (47, _), (48, _), (49, _)]) ⟨rfl, rfl, rfl, rfl, rfl, trivial⟩ ?_
                refine X.seq ?_
                refine X.seq ?_
                refine X.region ?_
                refine XO.pu (Pu.move rfl) ?_
                refine XO.pu (Pu.lss rfl rfl) ?_
                refine XO.pu (Pu.move rfl) ?_
                refine XO.sub (p' := [(55, _), (10, _), (8, _), (47, _), (48, _), (49, _)]) ⟨rfl, rfl, rfl, rfl, rfl, rfl, trivial⟩ ?_
                apply XO.cutOr 3 58 55 rfl
                · skip
                  intro g1 M1; have h1 := g1; try simp only [decide_eq_true_eq, decide_eq_false_iff_not, bne_iff_ne, beq_iff_eq, ne_eq, bne_eq_false_iff_eq, beq_eq_false_iff_ne, Bool.not_eq_true', Bool.not_eq_false', Int.not_lt, Int.not_le, Bool.not_not, Bool.and_eq_true, Bool.and_eq_false_iff, Bool.true_and, Bool.and_true, beq_self_eq_true, Bool.or_eq_true, Bool.or_eq_false_iff] at h1
                  refine XO.pu (Pu.move rfl) ?_
                  refine XO.pu (Pu.gtr rfl rfl) ?_
                  refine XO.pu (Pu.pickF rfl rfl) ?_
                  exact XO.fin M1 ⟨orF g1, congrArg (fun x => some (Value.bool x)) g1.symm, rfl, rfl, rfl, rfl, rfl, trivial⟩
                · skip
                  intro g1 M1; have h1 := g1; try simp only [decide_eq_true_eq, decide_eq_false_iff_not, bne_iff_ne, beq_iff_eq, ne_eq, bne_eq_false_iff_eq, beq_eq_false_iff_ne, Bool.not_eq_true', Bool.not_eq_false', Int.not_lt, Int.not_le, Bool.not_not, Bool.and_eq_true, Bool.and_eq_false_iff, Bool.true_and, Bool.and_true, beq_self_eq_true, Bool.or_eq_true, Bool.or_eq_false_iff] at h1
                  refine XO.pass rfl ?_
                  refine XO.pass rfl ?_
                  refine XO.pu (Pu.pickT rfl rfl) ?_
                  exact XO.fin M1 ⟨orT g1, congrArg (fun x => some (Value.bool x)) g1.symm, rfl, rfl, rfl, rfl, rfl, trivial⟩
                · skip
                  refine XO.nil ?_
                  refine X.sub (p' := [(58, _), (10, _), (8, _), (47, _), (48, _), (49, _)]) ⟨rfl, rfl, rfl, rfl, rfl, rfl, trivial⟩ ?_
                  rcases Decidable.em (roomOk rooms[j]) with hk | hk
                  · skip
                    refine X.know 58 (.bool false) rfl (congrArg Value.bool (by simp; omega)) ?_
                    refine X.condF rfl ?_
                    refine X.skip ?_
                    refine X.region ?_
                    refine XO.pu (Pu.move rfl) ?_
                    refine XO.pu (Pu.move rfl) ?_
                    refine XO.pu (Pu.nilCheck rfl) ?_
                    refine XO.pu (Pu.fieldAddr 72 3 0 rfl Try.underlying74 rfl Try.sizeOf72) ?_
                    refine XO.ld Try.isAgg72 ?_
                    refine XO.pu (Pu.move rfl) ?_
                    refine XO.pu (Pu.build (cells := [_, _, _]) [(0, 1), (1, 1), (2, 1)] Try.zeroValue78 Try.underlying78 (by kernel_rfl) rfl rfl) ?_
                    refine XO.ef (Ef.litR1 (u := ch1 rooms[j]) chs Try.underlying72 Try.info78 rfl rfl (fun _ => rfl) rfl) ?_
                    rintro _ _ ⟨g2, rfl, rfl⟩
                    have hlm : ((rooms.take j).map ch1).length = j := by simp; omega
                    refine XO.ef (Ef.appRA (l := (rooms.take j).map ch1) (m := [ch1 rooms[j]]) Try.underlying72 Try.info78 rfl rfl (fun _ => rfl) rfl rfl fndA ((Sees.rsH _).le leA) (fun _ => rfl) (by simp; omega) (by simp; omega)) ?_
                    rintro _ _ ⟨a4, c4, rfl, rfl⟩
                    rw [show (rooms.take j).map ch1 ++ [ch1 rooms[j]] = (rooms.take (j + 1)).map ch1 by rw [List.take_succ_eq_append_getElem hj0, List.map_append]; rfl]
                    refine XO.pu (Pu.nilCheck rfl) ?_
                    refine XO.pu (Pu.fieldAddr 72 3 0 rfl Try.underlying74 rfl Try.sizeOf72) ?_
                    refine XO.ef0 (Ef.st Try.sizeOf72) ?_
                    rintro _ _ ⟨rfl, rfl⟩
                    refine XO.nil ?_
                    refine X.sub (p' := [(8, _), (47, _), (48, _), (49, _)]) ⟨rfl, rfl, rfl, rfl, trivial⟩ ?_
                    refine X.inBlock ?_
                    refine X.region ?_
                    refine XO.pu (Pu.add rfl rfl (by omega) (by omega)) ?_
                    refine XO.pu (Pu.move rfl) ?_
                    refine XO.nil ?_
                    refine X.sub (p' := [(49, _), (8, _), (47, _), (48, _)]) ⟨rfl, rfl, rfl, rfl, trivial⟩ ?_
                    refine X.at (ih (j + 1, a4, c4) ⟨by dsimp only; omega, by dsimp only; rw [List.take_succ_eq_append_getElem hj0]; intro y hy; rcases List.mem_append.1 hy with hy | hy; exact hi2 y hy; rw [List.mem_singleton.1 hy]; exact hk⟩ (by dsimp only; omega)) ⟨(by first | rfl | exact congrArg some (congrArg (Value.int _) (by omega)) | (show some _ = some _; simp; done) | (show some _ = some _; simp; omega)), (by first | rfl | exact congrArg some (congrArg (Value.int _) (by omega)) | (show some _ = some _; simp; done) | (show some _ = some _; simp; omega)), (by first | rfl | exact congrArg some (congrArg (Value.int _) (by omega)) | (show some _ = some _; simp; done) | (show some _ = some _; simp; omega)), (by first | rfl | exact congrArg some (congrArg (Value.int _) (by omega)) | (show some _ = some _; simp; done) | (show some _ = some _; simp; omega)), trivial⟩ leA
                  · skip
                    exact absurd (ok.2.2.2 _ (List.getElem_mem hj0)) hk
              · skip
                have h0 := of_decide_eq_false h0; obtain rfl : j = rooms.length := by omega
                rw [List.take_length] at *
                refine X.condF rfl ?_
                refine X.exit rfl ?_
                refine X.seq ?_
                refine X.region ?_
                refine XO.pu (Pu.move rfl) ?_
                refine XO.pu (Pu.assign rfl) ?_
                refine XO.pu (Pu.assign rfl) ?_
                refine XO.nil ?_
                refine X.sub (p' := [(7, _), (6, _)]) ⟨rfl, rfl, trivial⟩ ?_
                refine X.le (Le.stars_rep (lsV 3) ⟨none, 0, []⟩ (fun q => Le.lsH_nil I64 3 q) C _) ?_
                refine X.le (Le.stars_triv (fun (x : ChC) => lsV 2 x.q) (rooms.map ch1) (fun x hx q => by obtain ⟨r, _, rfl⟩ := List.mem_map.1 hx; exact Le.lsH_nil I64 2 q) _) ?_
                refine X.retL ([pto n1 (.cells [.bool true, .slice a1 (List.replicate i (-1 : Int)).length c1, .slice (some ⟨g, 0, none⟩) C C, .slice a3 (rooms.map ch1).length c3].toArray 74 (0, 0)), lsH I64 3 a1 c1 (List.replicate i (-1 : Int)), rsH cqs 1 89 (some ⟨g, 0, none⟩) C (List.replicate C (⟨none, 0, []⟩ : SlV Int)), stars ((List.replicate C (⟨none, 0, []⟩ : SlV Int)).map (lsV 3)), rsH chs 3 78 a3 c3 (rooms.map ch1), stars ((rooms.map ch1).map fun x => lsV 2 x.q)] ++ q) Try.func12 (res2 Try.results12 rfl rfl) ⟨_, rfl, n1, ⟨a1, c1, List.replicate i (-1), some ⟨g, 0, none⟩, C, List.replicate C ⟨none, 0, []⟩, a3, c3, rooms.map ch1⟩, ⟨rfl, by simp [newS], by simp [newS, ch1, ChC.row, Ch.row, Ch.items, Function.comp_def]⟩, rfl, by unfold syL; simp⟩
          · skip
            exact absurd ⟨ok.1, ok.2.1, ok.2.2.1⟩ hf
set_option maxHeartbeats 1000000 in
theorem Copy_ok (hR : Real σ s) {N : Nat} (hs : s.ok N) (hN : N ≤ 1000) : CallF Try.prog G 31 [.pointer (some ⟨p, 0, none⟩)] (syL p σ) (Ret fun v q' => ∃ p2 σ2, Real σ2 s ∧ v = .pointer (some ⟨p2, 0, none⟩) ∧ q' = syL p2 σ2 ++ syL p σ) := by
  refine CallF.of Try.func31 Try.ntmps31 rfl (fun F cs => ?_)
  refine X.sub (p' := [(0, _)]) ⟨rfl, trivial⟩ ?_
  have ho := hR.lo; have hc := hR.lc; have hh := hR.lh; have hno := hs.no; have hnc := hs.nc; have hnh := hs.nh
  change X _ _ _ _ _ _ _ _ (pto p (.cells [.bool true, .slice σ.ao σ.owners.length σ.co, .slice σ.ac σ.conds.length σ.cc, .slice σ.ah σ.chans.length σ.ch].toArray 74 (0, 0)) :: lsH I64 3 σ.ao σ.co σ.owners :: rsH cqs 1 89 σ.ac σ.cc σ.conds :: stars (σ.conds.map (lsV 3)) :: rsH chs 3 78 σ.ah σ.ch σ.chans :: stars (σ.chans.map fun x => lsV 2 x.q) :: F)
  refine X.seq ?_
  refine X.region ?_
  refine XO.pu (Pu.assign rfl) ?_
  refine XO.nil ?_
  refine X.sub (p' := [(2, _), (0, _)]) ⟨rfl, rfl, trivial⟩ ?_
  refine X.seq ?_
  refine X.seq ?_
  refine X.region ?_
  refine XO.pu (Pu.move rfl) ?_
  refine XO.cR Try.call55 (there_ok (p := p) clA) ?_
  refine XO.pu (Pu.not rfl) ?_
  refine XO.nil ?_
  refine X.sub (p' := [(8, _), (2, _), (0, _)]) ⟨rfl, rfl, rfl, trivial⟩ ?_
  refine X.know 8 (.bool false) rfl (congrArg Value.bool (rfl)) ?_
  refine X.condF rfl ?_
  refine X.skip ?_
  refine X.seq ?_
  refine X.draw [] Try.mixed (by kernel_rfl) (by kernel_rfl) rfl ?_
  refine XD.pu 0 rfl (Pu.move rfl) ?_
  refine XD.pu 1 rfl (Pu.nilCheck rfl) ?_
  refine XD.pu 2 rfl (Pu.fieldAddr 29 1 0 rfl Try.underlying74 rfl Try.sizeOf29) ?_
  refine XD.ld 3 Try.isAgg29 ?_
  refine XD.pu 5 rfl (Pu.move rfl) ?_
  refine XD.pu 6 rfl (Pu.nilCheck rfl) ?_
  refine XD.pu 7 rfl (Pu.fieldAddr 71 2 0 rfl Try.underlying74 rfl Try.sizeOf71) ?_
  refine XD.ld 8 Try.isAgg71 ?_
  refine XD.pu 10 rfl (Pu.move rfl) ?_
  refine XD.pu 11 rfl (Pu.nilCheck rfl) ?_
  refine XD.pu 12 rfl (Pu.fieldAddr 72 3 0 rfl Try.underlying74 rfl Try.sizeOf72) ?_
  refine XD.ld 13 Try.isAgg72 ?_
  refine XD.cX 4 Try.call56 (Le.refl _) (Clone_ok (l := σ.owners) (a := σ.ao) (c := σ.co) ((Sees.lsH _).le leA) (by omega)) ?_
  rintro _ _ ⟨ao1, co1, rfl, rfl⟩
  refine ⟨hlA, ?_⟩
  refine XD.cX 9 Try.call57 (Le.refl _) (CloneC_ok (l := σ.conds) (a := σ.ac) (c := σ.cc) ((Sees.rsH _).le leA) (by omega)) ?_
  rintro _ _ ⟨ac1, cc1, rfl, rfl⟩
  refine ⟨hlA, ?_⟩
  refine XD.cX 14 Try.call58 (Le.refl _) (CloneH_ok (l := σ.chans) (a := σ.ah) (c := σ.ch) ((Sees.rsH _).le leA) (by omega)) ?_
  rintro _ _ ⟨ah1, ch1, rfl, rfl⟩
  refine ⟨trivial, ?_⟩
  refine XD.pu 15 rfl (Pu.build (cells := [_, _, _, _]) [(0, 1), (1, 1), (2, 1), (3, 1)] Try.zeroValue74 Try.underlying74 (by kernel_rfl) rfl rfl) ?_
  refine XD.ef 16 rfl (Ef.box rfl) ?_
  rintro _ _ ⟨n1, rfl, rfl⟩
  refine ⟨trivial, ?_⟩
  refine XD.pu 17 rfl (Pu.assign rfl) ?_
  refine XD.nil ?_
  refine X.sub (p' := [(3, _), (2, _), (0, _)]) ⟨rfl, rfl, rfl, trivial⟩ ?_
  refine X.seq ?_
  refine X.seq ?_
  refine X.region ?_
  refine XO.pu (Pu.move rfl) ?_
  refine XO.pu (Pu.nilCheck rfl) ?_
  refine XO.pu (Pu.fieldAddr 71 2 0 rfl Try.underlying74 rfl Try.sizeOf71) ?_
  refine XO.ld Try.isAgg71 ?_
  refine XO.pu (Pu.len rfl Try.underlying71) ?_
  refine XO.pu (Pu.move rfl) ?_
  refine XO.nil ?_
  refine X.sub (p' := [(31, _), (30, _), (3, _), (2, _), (0, _)]) ⟨rfl, rfl, rfl, rfl, rfl, trivial⟩ ?_
  refine X.block ?_
  refine X.at (X.loop (fun (zc : List (SlV Int)) => zc.length ≤ σ.conds.length ∧ zc.map (fun (x : SlV Int) => x.l) = (σ.conds.take zc.length).map (fun (x : SlV Int) => x.l)) (fun zc => [(0, .pointer (some ⟨p, 0, none⟩)), (3, .pointer (some ⟨n1, 0, none⟩)), (30, .int .i64 (σ.conds.length : Int)), (31, .int .i64 (zc.length : Int))]) (fun zc => rsH cqs 1 89 ac1 cc1 (zc ++ σ.conds.drop zc.length) :: stars (zc.map (lsV 3)) :: pto n1 (.cells [.bool true, .slice ao1 σ.owners.length co1, .slice ac1 σ.conds.length cc1, .slice ah1 σ.chans.length ch1].toArray 74 (0, 0)) :: lsH I64 3 ao1 co1 σ.owners :: rsH chs 3 78 ah1 ch1 σ.chans :: pto p (.cells [.bool true, .slice σ.ao σ.owners.length σ.co, .slice σ.ac σ.conds.length σ.cc, .slice σ.ah σ.chans.length σ.ch].toArray 74 (0, 0)) :: lsH I64 3 σ.ao σ.co σ.owners :: rsH cqs 1 89 σ.ac σ.cc σ.conds :: stars (σ.conds.map (lsV 3)) :: rsH chs 3 78 σ.ah σ.ch σ.chans :: stars (σ.chans.map fun x => lsV 2 x.q) :: F) (fun zc => σ.conds.length - zc.length) (fun zc hi_ ih => ?_) [] ⟨by simp, by simp⟩) ⟨(by first | rfl | exact congrArg some (congrArg (Value.int _) (by omega)) | (show some _ = some _; simp; done) | (show some _ = some _; simp; omega)), (by first | rfl | exact congrArg some (congrArg (Value.int _) (by omega)) | (show some _ = some _; simp; done) | (show some _ = some _; simp; omega)), (by first | rfl | exact congrArg some (congrArg (Value.int _) (by omega)) | (show some _ = some _; simp; done) | (show some _ = some _; simp; omega)), (by first | rfl | exact congrArg some (congrArg (Value.int _) (by omega)) | (show some _ = some _; simp; done) | (show some _ = some _; simp; omega)), trivial⟩ (by simp only [List.nil_append, List.drop_zero, List.length_nil]; exact Le.trans leA (Le.trans (Le.stars_nil _) leA))
  try dsimp only at hi_ ih ⊢
  obtain ⟨hi1, hzc⟩ := hi_
  have hlf : (zc ++ σ.conds.drop zc.length).length = σ.conds.length := by simp; omega
  refine X.seq ?_
  refine X.region ?_
  refine XO.pu (Pu.lss rfl rfl) ?_
  refine XO.nil ?_
  refine X.sub (p' := [(32, _), (0, _), (3, _), (30, _), (31, _)]) ⟨rfl, rfl, rfl, rfl, rfl, trivial⟩ ?_
  refine X.seq ?_
  refine X.part 32 rfl (fun h0 => ?_) (fun h0 => ?_)
  · skip
    have h0 := of_decide_eq_true h0; have hi0 : zc.length < σ.conds.length := (by omega)
    refine X.rsadr (l := zc ++ σ.conds.drop zc.length) (ty := 89) (fl := cqs) (a := ac1) (by omega) (fun g2 e2 => ?_); rw [e2]
    refine X.rsadr (l := σ.conds) (ty := 89) (fl := cqs) (a := σ.ac) (by omega) (fun g e_ => ?_); rw [e_]
    refine X.le (Le.focV hi0) ?_
    have hll : σ.conds[zc.length].l.length ≤ 1000 := hs.lenC hR hi0 hN
    refine X.condT rfl ?_
    refine X.skip ?_
    refine X.seq ?_
    refine X.block ?_
    refine X.seq ?_
    refine X.region ?_
    refine XO.pu (Pu.move rfl) ?_
    refine XO.pu (Pu.assign rfl) ?_
    refine XO.nil ?_
    refine X.sub (p' := [(4, _), (0, _), (3, _), (30, _), (31, _)]) ⟨rfl, rfl, rfl, rfl, rfl, trivial⟩ ?_
    refine X.draw [] Try.mixed (by kernel_rfl) (by kernel_rfl) rfl ?_
    refine XD.pu 0 rfl (Pu.move rfl) ?_
    refine XD.pu 1 rfl (Pu.nilCheck rfl) ?_
    refine XD.pu 2 rfl (Pu.fieldAddr 71 2 0 rfl Try.underlying74 rfl Try.sizeOf71) ?_
    refine XD.ld 3 Try.isAgg71 ?_
    refine XD.pu 4 rfl (Pu.move rfl) ?_
    refine XD.pu 5 rfl (Pu.move rfl) ?_
    refine XD.pu 6 rfl (Pu.nilCheck rfl) ?_
    refine XD.pu 7 rfl (Pu.fieldAddr 71 2 0 rfl Try.underlying74 rfl Try.sizeOf71) ?_
    refine XD.ld 8 Try.isAgg71 ?_
    refine XD.pu 9 rfl (Pu.move rfl) ?_
    refine XD.pu 10 rfl (Pu.indexAddr rfl rfl Try.underlying71 Try.sizeOf89 (by omega) (by omega)) ?_
    refine XD.pu 11 rfl (Pu.fieldAddr 87 0 0 rfl Try.underlying89 rfl Try.sizeOf87) ?_
    refine XD.know 45 (.pointer (some ⟨g, zc.length * 1, none⟩)) rfl (by simp) ?_
    refine XD.cF 12 Try.call45 (all_ok (f := cqs) (sz := 1) (ty := 89) (g := g) (l := σ.conds) (i := zc.length) (m := σ.conds[zc.length].l) (a := σ.conds[zc.length].a) (c := σ.conds[zc.length].c) hi0 (fun _ => rfl) rfl rfl (by omega)) ?_
    rintro _ _ ⟨a5, c5, rfl, rfl⟩ _ e_; simp only [ca, na] at e_; subst e_
    refine ⟨hlA, ?_⟩
    refine XD.pu 13 rfl (Pu.indexAddr rfl rfl Try.underlying71 Try.sizeOf89 (by omega) (by omega)) ?_
    refine XD.pu 14 rfl (Pu.fieldAddr 87 0 0 rfl Try.underlying89 rfl Try.sizeOf87) ?_
    refine XD.pu 15 rfl (Pu.fieldAddr 29 0 0 rfl Try.underlying87 rfl Try.sizeOf29) ?_
    have hgi : (zc ++ σ.conds.drop zc.length)[zc.length]'(by omega) = σ.conds[zc.length] := by rw [List.getElem_append_right (Nat.le_refl _)]; simp
    refine XD.ef0 16 rfl (Ef.setR (g := g2) (f := cqs) (sz := 1) (l := zc ++ σ.conds.drop zc.length) (u := (⟨a5, c5, σ.conds[zc.length].l⟩ : SlV Int)) (n := zc.length) (k := 0) (j := (zc.length : Int)) (by simp [evp, lkp]) rfl Try.sizeOf29 (fun _ => rfl) rfl (by omega) rfl (by rw [hgi]; rfl) rfl rfl fndA) ?_
    rintro _ _ ⟨rfl, rfl⟩
    refine ⟨trivial, ?_⟩
    refine XD.nil ?_
    refine X.sub (p' := [(0, _), (3, _), (30, _), (31, _)]) ⟨rfl, rfl, rfl, rfl, trivial⟩ ?_
    refine X.inBlock ?_
    refine X.region ?_
    refine XO.pu (Pu.add rfl rfl (by omega) (by omega)) ?_
    refine XO.pu (Pu.move rfl) ?_
    refine XO.nil ?_
    refine X.sub (p' := [(31, _), (0, _), (3, _), (30, _)]) ⟨rfl, rfl, rfl, rfl, trivial⟩ ?_
    rw [set_mid zc _ zc.length (⟨a5, c5, σ.conds[zc.length].l⟩ : SlV Int) rfl (by simp; omega), List.drop_drop]
    refine X.le (Le.unfV hi0 (a := σ.conds[zc.length].a) (c := σ.conds[zc.length].c) (m := σ.conds[zc.length].l)) ?_
    rw [show σ.conds.set zc.length ⟨σ.conds[zc.length].a, σ.conds[zc.length].c, σ.conds[zc.length].l⟩ = σ.conds from List.set_getElem_self hi0]
    refine X.le (q' := stars ((zc ++ [(⟨a5, c5, σ.conds[zc.length].l⟩ : SlV Int)]).map (lsV 3)) :: _) (Le.trans (show Le _ (stars (zc.map (lsV 3)) :: (lsV 3) (⟨a5, c5, σ.conds[zc.length].l⟩ : SlV Int) :: _) from Le.pick fndA fndA) (Le.stars_snoc (lsV 3) zc (⟨a5, c5, σ.conds[zc.length].l⟩ : SlV Int) _)) ?_
    rw [← e2, ← e_]
    rw [show zc.length + 1 = (zc ++ [(⟨a5, c5, σ.conds[zc.length].l⟩ : SlV Int)]).length by simp]
    refine X.at (ih (zc ++ [(⟨a5, c5, σ.conds[zc.length].l⟩ : SlV Int)]) ⟨by simp; omega, by rw [List.length_append, List.length_singleton, List.take_succ_eq_append_getElem hi0, List.map_append, List.map_append, hzc]; rfl⟩ (by simp; omega)) ⟨(by first | rfl | exact congrArg some (congrArg (Value.int _) (by omega)) | (show some _ = some _; simp; done) | (show some _ = some _; simp; omega)), (by first | rfl | exact congrArg some (congrArg (Value.int _) (by omega)) | (show some _ = some _; simp; done) | (show some _ = some _; simp; omega)), (by first | rfl | exact congrArg some (congrArg (Value.int _) (by omega)) | (show some _ = some _; simp; done) | (show some _ = some _; simp; omega)), (by first | rfl | exact congrArg some (congrArg (Value.int _) (by omega)) | (show some _ = some _; simp; done) | (show some _ = some _; simp; omega)), trivial⟩ leA
  · skip
    have h0 := of_decide_eq_false h0; have hlzc : zc.length = σ.conds.length := by omega
    rw [hlzc, List.take_length] at hzc; rw [hlzc, List.drop_length, List.append_nil]; clear ih hlf h0 hi1
    refine X.condF rfl ?_
    refine X.exit rfl ?_
    refine X.seq ?_
    refine X.seq ?_
    refine X.region ?_
    refine XO.pu (Pu.move rfl) ?_
    refine XO.pu (Pu.nilCheck rfl) ?_
    refine XO.pu (Pu.fieldAddr 72 3 0 rfl Try.underlying74 rfl Try.sizeOf72) ?_
    refine XO.ld Try.isAgg72 ?_
    refine XO.pu (Pu.len rfl Try.underlying72) ?_
    refine XO.pu (Pu.move rfl) ?_
    refine XO.nil ?_
    refine X.sub (p' := [(56, _), (55, _), (0, _), (3, _)]) ⟨rfl, rfl, rfl, rfl, trivial⟩ ?_
    refine X.block ?_
    refine X.at (X.loop (fun (zh : List ChC) => zh.length ≤ σ.chans.length ∧ zh.map (ChC.row) = (σ.chans.take zh.length).map (ChC.row)) (fun zh => [(0, .pointer (some ⟨p, 0, none⟩)), (3, .pointer (some ⟨n1, 0, none⟩)), (55, .int .i64 (σ.chans.length : Int)), (56, .int .i64 (zh.length : Int))]) (fun zh => rsH chs 3 78 ah1 ch1 (zh ++ σ.chans.drop zh.length) :: stars (zh.map fun x => lsV 2 x.q) :: pto n1 (.cells [.bool true, .slice ao1 σ.owners.length co1, .slice ac1 σ.conds.length cc1, .slice ah1 σ.chans.length ch1].toArray 74 (0, 0)) :: lsH I64 3 ao1 co1 σ.owners :: rsH cqs 1 89 ac1 cc1 zc :: stars (zc.map (lsV 3)) :: pto p (.cells [.bool true, .slice σ.ao σ.owners.length σ.co, .slice σ.ac σ.conds.length σ.cc, .slice σ.ah σ.chans.length σ.ch].toArray 74 (0, 0)) :: lsH I64 3 σ.ao σ.co σ.owners :: rsH cqs 1 89 σ.ac σ.cc σ.conds :: stars (σ.conds.map (lsV 3)) :: rsH chs 3 78 σ.ah σ.ch σ.chans :: stars (σ.chans.map fun x => lsV 2 x.q) :: F) (fun zh => σ.chans.length - zh.length) (fun zh hi_ ih => ?_) [] ⟨by simp, by simp⟩) ⟨(by first | rfl | exact congrArg some (congrArg (Value.int _) (by omega)) | (show some _ = some _; simp; done) | (show some _ = some _; simp; omega)), (by first | rfl | exact congrArg some (congrArg (Value.int _) (by omega)) | (show some _ = some _; simp; done) | (show some _ = some _; simp; omega)), (by first | rfl | exact congrArg some (congrArg (Value.int _) (by omega)) | (show some _ = some _; simp; done) | (show some _ = some _; simp; omega)), (by first | rfl | exact congrArg some (congrArg (Value.int _) (by omega)) | (show some _ = some _; simp; done) | (show some _ = some _; simp; omega)), trivial⟩ (by simp only [List.nil_append, List.drop_zero, List.length_nil]; exact Le.trans leA (Le.trans (Le.stars_nil _) leA))
    try dsimp only at hi_ ih ⊢
    obtain ⟨hi1, hzh⟩ := hi_
    have hlf : (zh ++ σ.chans.drop zh.length).length = σ.chans.length := by simp; omega
    refine X.seq ?_
    refine X.region ?_
    refine XO.pu (Pu.lss rfl rfl) ?_
    refine XO.nil ?_
    refine X.sub (p' := [(57, _), (0, _), (3, _), (55, _), (56, _)]) ⟨rfl, rfl, rfl, rfl, rfl, trivial⟩ ?_
    refine X.seq ?_
    refine X.part 57 rfl (fun h0 => ?_) (fun h0 => ?_)
    · skip
      have h0 := of_decide_eq_true h0; have hi0 : zh.length < σ.chans.length := (by omega)
      refine X.rsadr (l := zh ++ σ.chans.drop zh.length) (ty := 78) (fl := chs) (a := ah1) (by omega) (fun g2 e2 => ?_); rw [e2]
      refine X.rsadr (l := σ.chans) (ty := 78) (fl := chs) (a := σ.ah) (by omega) (fun g e_ => ?_); rw [e_]
      refine X.le (Le.focH hi0) ?_
      have hll : σ.chans[zh.length].q.l.length ≤ 1000 := hs.lenH hR hi0 hN
      refine X.condT rfl ?_
      refine X.skip ?_
      refine X.seq ?_
      refine X.block ?_
      refine X.seq ?_
      refine X.region ?_
      refine XO.pu (Pu.move rfl) ?_
      refine XO.pu (Pu.assign rfl) ?_
      refine XO.nil ?_
      refine X.sub (p' := [(5, _), (0, _), (3, _), (55, _), (56, _)]) ⟨rfl, rfl, rfl, rfl, rfl, trivial⟩ ?_
      refine X.draw [] Try.mixed (by kernel_rfl) (by kernel_rfl) rfl ?_
      refine XD.pu 0 rfl (Pu.move rfl) ?_
      refine XD.pu 1 rfl (Pu.nilCheck rfl) ?_
      refine XD.pu 2 rfl (Pu.fieldAddr 72 3 0 rfl Try.underlying74 rfl Try.sizeOf72) ?_
      refine XD.ld 3 Try.isAgg72 ?_
      refine XD.pu 4 rfl (Pu.move rfl) ?_
      refine XD.pu 5 rfl (Pu.move rfl) ?_
      refine XD.pu 6 rfl (Pu.nilCheck rfl) ?_
      refine XD.pu 7 rfl (Pu.fieldAddr 72 3 0 rfl Try.underlying74 rfl Try.sizeOf72) ?_
      refine XD.ld 8 Try.isAgg72 ?_
      refine XD.pu 9 rfl (Pu.move rfl) ?_
      refine XD.pu 10 rfl (Pu.indexAddr rfl rfl Try.underlying72 Try.sizeOf78 (by omega) (by omega)) ?_
      refine XD.pu 11 rfl (Pu.fieldAddr 76 0 0 rfl Try.underlying78 rfl Try.sizeOf76) ?_
      refine XD.know 70 (.pointer (some ⟨g, zh.length * 3, none⟩)) rfl (by simp) ?_
      refine XD.cF 12 Try.call54 (all64_ok (f := chs) (sz := 3) (ty := 78) (g := g) (l := σ.chans) (i := zh.length) (m := σ.chans[zh.length].q.l) (a := σ.chans[zh.length].q.a) (c := σ.chans[zh.length].q.c) hi0 (fun _ => rfl) rfl rfl (by omega)) ?_
      rintro _ _ ⟨a5, c5, rfl, rfl⟩ _ e_; simp only [ca, na] at e_; subst e_
      refine ⟨hlA, ?_⟩
      refine XD.pu 13 rfl (Pu.indexAddr rfl rfl Try.underlying72 Try.sizeOf78 (by omega) (by omega)) ?_
      refine XD.pu 14 rfl (Pu.fieldAddr 76 0 0 rfl Try.underlying78 rfl Try.sizeOf76) ?_
      refine XD.pu 15 rfl (Pu.fieldAddr 28 0 0 rfl Try.underlying76 rfl Try.sizeOf28) ?_
      have hgi : (zh ++ σ.chans.drop zh.length)[zh.length]'(by omega) = σ.chans[zh.length] := by rw [List.getElem_append_right (Nat.le_refl _)]; simp
      refine XD.ef0 16 rfl (Ef.setR (g := g2) (f := chs) (sz := 3) (l := zh ++ σ.chans.drop zh.length) (u := (⟨⟨a5, c5, σ.chans[zh.length].q.l⟩, σ.chans[zh.length].room, σ.chans[zh.length].sent⟩ : ChC)) (n := zh.length) (k := 0) (j := (zh.length : Int)) (by simp [evp, lkp]) rfl Try.sizeOf28 (fun _ => rfl) rfl (by omega) rfl (by rw [hgi]; rfl) rfl rfl fndA) ?_
      rintro _ _ ⟨rfl, rfl⟩
      refine ⟨trivial, ?_⟩
      refine XD.nil ?_
      refine X.sub (p' := [(0, _), (3, _), (55, _), (56, _)]) ⟨rfl, rfl, rfl, rfl, trivial⟩ ?_
      refine X.inBlock ?_
      refine X.region ?_
      refine XO.pu (Pu.add rfl rfl (by omega) (by omega)) ?_
      refine XO.pu (Pu.move rfl) ?_
      refine XO.nil ?_
      refine X.sub (p' := [(56, _), (0, _), (3, _), (55, _)]) ⟨rfl, rfl, rfl, rfl, trivial⟩ ?_
      rw [set_mid zh _ zh.length (⟨⟨a5, c5, σ.chans[zh.length].q.l⟩, σ.chans[zh.length].room, σ.chans[zh.length].sent⟩ : ChC) rfl (by simp; omega), List.drop_drop]
      refine X.le (Le.unfH hi0 σ.chans[zh.length]) ?_
      rw [show σ.chans.set zh.length σ.chans[zh.length] = σ.chans from List.set_getElem_self hi0]
      refine X.le (q' := stars ((zh ++ [(⟨⟨a5, c5, σ.chans[zh.length].q.l⟩, σ.chans[zh.length].room, σ.chans[zh.length].sent⟩ : ChC)]).map (fun (x : ChC) => lsV 2 x.q)) :: _) (Le.trans (show Le _ (stars (zh.map (fun (x : ChC) => lsV 2 x.q)) :: (fun (x : ChC) => lsV 2 x.q) (⟨⟨a5, c5, σ.chans[zh.length].q.l⟩, σ.chans[zh.length].room, σ.chans[zh.length].sent⟩ : ChC) :: _) from Le.pick fndA fndA) (Le.stars_snoc (fun (x : ChC) => lsV 2 x.q) zh (⟨⟨a5, c5, σ.chans[zh.length].q.l⟩, σ.chans[zh.length].room, σ.chans[zh.length].sent⟩ : ChC) _)) ?_
      rw [← e2, ← e_]
      rw [show zh.length + 1 = (zh ++ [(⟨⟨a5, c5, σ.chans[zh.length].q.l⟩, σ.chans[zh.length].room, σ.chans[zh.length].sent⟩ : ChC)]).length by simp]
      refine X.at (ih (zh ++ [(⟨⟨a5, c5, σ.chans[zh.length].q.l⟩, σ.chans[zh.length].room, σ.chans[zh.length].sent⟩ : ChC)]) ⟨by simp; omega, by rw [List.length_append, List.length_singleton, List.take_succ_eq_append_getElem hi0, List.map_append, List.map_append, hzh]; rfl⟩ (by simp; omega)) ⟨(by first | rfl | exact congrArg some (congrArg (Value.int _) (by omega)) | (show some _ = some _; simp; done) | (show some _ = some _; simp; omega)), (by first | rfl | exact congrArg some (congrArg (Value.int _) (by omega)) | (show some _ = some _; simp; done) | (show some _ = some _; simp; omega)), (by first | rfl | exact congrArg some (congrArg (Value.int _) (by omega)) | (show some _ = some _; simp; done) | (show some _ = some _; simp; omega)), (by first | rfl | exact congrArg some (congrArg (Value.int _) (by omega)) | (show some _ = some _; simp; done) | (show some _ = some _; simp; omega)), trivial⟩ leA
    · skip
      have h0 := of_decide_eq_false h0; have hlzh : zh.length = σ.chans.length := by omega
      rw [hlzh, List.take_length] at hzh; rw [hlzh, List.drop_length, List.append_nil]; clear ih hlf h0 hi1
      refine X.condF rfl ?_
      refine X.exit rfl ?_
      refine X.seq ?_
      refine X.region ?_
      refine XO.pu (Pu.move rfl) ?_
      refine XO.pu (Pu.assign rfl) ?_
      refine XO.nil ?_
      refine X.sub (p' := [(2, _)]) ⟨rfl, trivial⟩ ?_
      refine X.retL ([pto n1 (.cells [.bool true, .slice ao1 σ.owners.length co1, .slice ac1 σ.conds.length cc1, .slice ah1 σ.chans.length ch1].toArray 74 (0, 0)), lsH I64 3 ao1 co1 σ.owners, rsH cqs 1 89 ac1 cc1 zc, stars (zc.map (lsV 3)), rsH chs 3 78 ah1 ch1 zh, stars (zh.map fun x => lsV 2 x.q), pto p (.cells [.bool true, .slice σ.ao σ.owners.length σ.co, .slice σ.ac σ.conds.length σ.cc, .slice σ.ah σ.chans.length σ.ch].toArray 74 (0, 0)), lsH I64 3 σ.ao σ.co σ.owners, rsH cqs 1 89 σ.ac σ.cc σ.conds, stars (σ.conds.map (lsV 3)), rsH chs 3 78 σ.ah σ.ch σ.chans, stars (σ.chans.map fun x => lsV 2 x.q)]) Try.func31 (res1 Try.results31 rfl) ⟨_, rfl, n1, ⟨ao1, co1, σ.owners, ac1, cc1, zc, ah1, ch1, zh⟩, ⟨hR.o, hzc.trans hR.c, hzh.trans hR.h⟩, rfl, by unfold syL; simp [hlzc, hlzh]⟩
end
end Go.Proofs.Ytlgnnhpbomfdiaa

