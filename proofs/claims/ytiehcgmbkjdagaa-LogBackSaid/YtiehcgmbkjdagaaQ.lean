/- What functions of package log, of its references and of its laws do: contracts of calls, proved by walking their code. -/
import Derived.Test.YtiehcgmbkjdagaaP
import Derived.KernelRfl
set_option maxRecDepth 100000
set_option linter.unusedVariables false
set_option linter.unusedSimpArgs false
namespace Go.Proofs.Ytiehcgmbkjdagaa
open Go Go.RowKit Wx

/-! ### the law of the steps, one behind the other -/
theorem Le.swapL : ∀ a b c : List HP, Le (a ++ (b ++ c)) (b ++ (a ++ c))
  | [], _, _ => Le.refl _
  | A :: a, b, c => by
    refine Le.trans (Le.cons A (Le.swapL a b c)) ?_
    have go : ∀ (b d : List HP), Le (A :: (b ++ d)) (b ++ (A :: d)) := by
      intro b d
      induction b with
      | nil => exact Le.refl _
      | cons B b ih => exact Le.trans (Le.swap A B (b ++ d)) (Le.cons B ih)
    exact go b (a ++ c)
theorem Le.pushR (A : HP) (b d : List HP) : Le (A :: (b ++ d)) (b ++ (A :: d)) := Le.swapL [A] b d
theorem Le.pullD : ∀ q pre F : List HP, Le (q ++ (pre ++ F)) (q ++ F) := fun q pre F => Le.append_left q (by
  induction pre with
  | nil => exact Le.refl _
  | cons A r ih => exact Le.lose ih)
theorem Le.pullR (q pre F : List HP) (A : HP) : Le (q ++ (pre ++ (A :: F))) (A :: (q ++ F)) := (Le.pullD q pre (A :: F)).trans (Le.swapL q [A] F)
theorem Le.pullD2 (q F : List HP) (A B : HP) : Le (q ++ (A :: B :: F)) (q ++ F) := Le.pullD q [A, B] F
theorem Le.pullR2 (q F : List HP) (A B C : HP) : Le (q ++ (A :: B :: C :: F)) (C :: (q ++ F)) := Le.pullR q [A, B] F C
theorem leB {q q' : List HP} (h : Le q q' := by repeat (first | exact Le.refl _ | exact Le.pushR _ _ _ | exact Le.pullR2 _ _ _ _ _ | exact Le.pullD2 _ _ _ _ | refine Le.pick (by repeat first | exact Le.here _ _ | apply Le.there) ?_ | refine Le.lose ?_)) : Le q q' := h
def okS (l : List Turn) (k : Nat) (s : Nat × Nat) : Prop := cntL l s.1 + s.2 = k ∧ s.1 ≤ l.length ∧ (∀ h : s.1 < l.length, s.2 ≤ l[s.1].2.toNat) ∧ (s.1 = l.length → s.2 = 0)
def stI (l : List Turn) (k nt ns : Nat) : HP := ex fun s : Nat × Nat => stars [pure (okS l k s), pto nt (.cells [.int .i64 (s.1 : Int)].toArray 3 (0, 0)), pto ns (.cells [.int .i64 (s.2 : Int)].toArray 3 (0, 0))]
theorem stI_in {l : List Turn} {k nt ns : Nat} {q r : List HP} (s : Nat × Nat) (h : okS l k s) (hle : Le q (pto nt (.cells [.int .i64 (s.1 : Int)].toArray 3 (0, 0)) :: pto ns (.cells [.int .i64 (s.2 : Int)].toArray 3 (0, 0)) :: r)) : Le q (stI l k nt ns :: r) :=
  Le.to_ex s (hle.trans ((Le.add_pure h _).trans (by exact Le.stars_in [_, _, _] r)))
theorem X.stI {P : Program} {G : World} {f : Fc} {Q : Post} {todo : List Item} {p : PE} {ds : List Deferred} {cs : List Frame} {l : List Turn} {k nt ns : Nat} {q : List HP}
    (x : ∀ s, okS l k s → X P G f Q todo p ds cs (pto nt (.cells [.int .i64 ((Prod.fst s : Nat) : Int)].toArray 3 (0, 0)) :: pto ns (.cells [.int .i64 ((Prod.snd s : Nat) : Int)].toArray 3 (0, 0)) :: q)) : X P G f Q todo p ds cs (Go.Proofs.Ytiehcgmbkjdagaa.stI l k nt ns :: q) := by
  refine X.ex (fun s => X.le (Le.stars_out _ _) (X.pure (fun h => x s h)))
section
variable {G : World} {q : List HP} {a b : Option Addr} {c d p n2 n3 i0 : Nat} {l : List Turn} {many : Int}
set_option maxHeartbeats 1000000 in
theorem logSteps_ok (hs : Sees q a (l.flatMap tcs)) : CallF Try.prog G 10 [.slice a l.length c, .int .i64 many] q (Ret fun v q' => v = .bool true ∧ q' = q) := by
  refine CallF.of Try.func10 Try.ntmps10 rfl (fun F cs => ?_)
  refine X.sub (p' := [(0, _), (1, _)]) ⟨rfl, rfl, trivial⟩ ?_
  refine X.seq ?_
  refine X.region ?_
  refine XO.ef (Ef.box rfl) ?_
  rintro _ _ ⟨n1, rfl, rfl⟩
  refine XO.ef (Ef.box rfl) ?_
  rintro _ _ ⟨n2, rfl, rfl⟩
  refine XO.ef (Ef.alloc Try.zeroValue4) ?_
  rintro _ _ ⟨n3, rfl, rfl⟩
  refine XO.nil ?_
  refine X.sub (p' := [(4, _), (3, _), (2, _)]) ⟨rfl, rfl, rfl, trivial⟩ ?_
  refine X.seq ?_
  refine X.seq ?_
  refine X.region ?_
  refine XO.ld Try.isAgg23 ?_
  refine XO.pu (Pu.len rfl Try.underlying23) ?_
  refine XO.pu (Pu.gtr rfl rfl) ?_
  refine XO.nil ?_
  refine X.sub (p' := [(15, _), (4, _), (3, _), (2, _)]) ⟨rfl, rfl, rfl, rfl, trivial⟩ ?_
  refine X.part 15 rfl (fun h0 => ?_) (fun h0 => ?_)
  · skip
    refine X.condT rfl ?_
    refine X.seq ?_
    refine X.region ?_
    refine XO.cF Try.call12 (works_ok) ?_
    rintro _ _ ⟨rfl, rfl⟩ _ e_; simp only [ca, na] at e_; subst e_
    refine XO.ef0 (Ef.st Try.sizeOf4) ?_
    rintro _ _ ⟨rfl, rfl⟩
    refine XO.nil ?_
    refine X.sub (p' := [(4, _), (3, _), (2, _)]) ⟨rfl, rfl, rfl, trivial⟩ ?_
    refine X.retL (q) Try.func10 (resC1 Try.results10 (ResOk.cell rfl (LV.cell Try.isAgg4 clA) ResOk.nil)) ⟨_, rfl, rfl, rfl⟩
  · skip
    try simp only [decide_eq_true_eq, decide_eq_false_iff_not, bne_iff_ne, beq_iff_eq, ne_eq, bne_eq_false_iff_eq, beq_eq_false_iff_ne, Bool.not_eq_true', Bool.not_eq_false', Int.not_lt, Int.not_le, Bool.not_not, Bool.and_eq_true, Bool.and_eq_false_iff, Bool.true_and, Bool.and_true, beq_self_eq_true, Bool.or_eq_true, Bool.or_eq_false_iff] at h0
    have hL : l.length ≤ 100 := (by omega); have hlen := flatMap_len (f := tcs) (sz := 2) (fun _ => rfl) l
    refine X.condF rfl ?_
    refine X.skip ?_
    refine X.seq ?_
    refine X.region ?_
    refine XO.pu (Pu.assign rfl) ?_
    refine XO.nil ?_
    refine X.sub (p' := [(5, _), (4, _), (3, _), (2, _)]) ⟨rfl, rfl, rfl, rfl, trivial⟩ ?_
    refine X.seq ?_
    refine X.seq ?_
    refine X.region ?_
    refine XO.pu (Pu.assign rfl) ?_
    refine XO.nil ?_
    refine X.sub (p' := [(6, _), (5, _), (4, _), (3, _), (2, _)]) ⟨rfl, rfl, rfl, rfl, rfl, trivial⟩ ?_
    refine X.block ?_
    refine X.at (X.loop (fun (s : Nat) => s ≤ l.length ∧ (∀ x ∈ l.take s, x.2 ≤ 100) ∧ cntL l s ≤ s * 100) (fun s => [(5, .int .i64 (cntL l s : Int)), (6, .int .i64 (s : Int)), (2, .pointer (some ⟨n1, 0, none⟩)), (3, .pointer (some ⟨n2, 0, none⟩)), (4, .pointer (some ⟨n3, 0, none⟩))]) (fun s => pto n1 (.cells [.slice a l.length c].toArray 23 (0, 0)) :: pto n2 (.cells [.int .i64 many].toArray 3 (0, 0)) :: pto n3 (.cells [.bool false].toArray 4 (0, 0)) :: (q ++ F)) (fun s => l.length - s) (fun s hi_ ih => ?_) 0 ⟨by omega, by simp, by simp [cntL]⟩) ⟨(by first | rfl | exact congrArg some (congrArg (Value.int _) (by omega)) | (show some _ = some _; simp; done) | (show some _ = some _; simp; omega)), (by first | rfl | exact congrArg some (congrArg (Value.int _) (by omega)) | (show some _ = some _; simp; done) | (show some _ = some _; simp; omega)), (by first | rfl | exact congrArg some (congrArg (Value.int _) (by omega)) | (show some _ = some _; simp; done) | (show some _ = some _; simp; omega)), (by first | rfl | exact congrArg some (congrArg (Value.int _) (by omega)) | (show some _ = some _; simp; done) | (show some _ = some _; simp; omega)), (by first | rfl | exact congrArg some (congrArg (Value.int _) (by omega)) | (show some _ = some _; simp; done) | (show some _ = some _; simp; omega)), trivial⟩ leA
    try dsimp only at hi_ ih ⊢
    obtain ⟨hi1, hi2, hi3⟩ := hi_
    refine X.seq ?_
    refine X.seq ?_
    refine X.region ?_
    refine XO.pu (Pu.move rfl) ?_
    refine XO.ld Try.isAgg23 ?_
    refine XO.pu (Pu.len rfl Try.underlying23) ?_
    refine XO.pu (Pu.lss rfl rfl) ?_
    refine XO.nil ?_
    refine X.sub (p' := [(20, _), (5, _), (6, _), (2, _), (3, _), (4, _)]) ⟨rfl, rfl, rfl, rfl, rfl, rfl, trivial⟩ ?_
    refine X.part 20 rfl (fun h0 => ?_) (fun h0 => ?_)
    · skip
      have h0 := of_decide_eq_true h0; have hi0 : s < l.length := (by omega)
      refine X.condT rfl ?_
      refine X.skip ?_
      refine X.seq ?_
      refine X.block ?_
      refine X.seq ?_
      refine X.seq ?_
      refine X.region ?_
      refine XO.ld Try.isAgg23 ?_
      refine XO.pu (Pu.move rfl) ?_
      refine XO.adr hs (by rw [hlen]; omega) (fun b23 o23 e_ => ?_); subst e_
      refine XO.pu (Pu.indexAddr rfl rfl Try.underlying23 Try.sizeOf57 (by omega) (by omega)) ?_
      refine XO.pu (Pu.fieldAddr 3 1 0 rfl Try.underlying57 rfl Try.sizeOf3) ?_
      refine XO.ld Try.isAgg3 ?_
      refine XO.pu (Pu.gtr rfl rfl) ?_
      refine XO.nil ?_
      refine X.sub (p' := [(28, _), (5, _), (6, _), (2, _), (3, _), (4, _)]) ⟨rfl, rfl, rfl, rfl, rfl, rfl, trivial⟩ ?_
      refine X.part 28 rfl (fun h1 => ?_) (fun h1 => ?_)
      · skip
        refine X.condT rfl ?_
        refine X.seq ?_
        refine X.region ?_
        refine XO.cF Try.call12 (works_ok) ?_
        rintro _ _ ⟨rfl, rfl⟩ _ e_; simp only [ca, na] at e_; subst e_
        refine XO.ef0 (Ef.st Try.sizeOf4) ?_
        rintro _ _ ⟨rfl, rfl⟩
        refine XO.nil ?_
        refine X.sub (p' := [(5, _), (6, _), (2, _), (3, _), (4, _)]) ⟨rfl, rfl, rfl, rfl, rfl, trivial⟩ ?_
        refine X.retL (q) Try.func10 (resC1 Try.results10 (ResOk.cell rfl (LV.cell Try.isAgg4 clA) ResOk.nil)) ⟨_, rfl, rfl, rfl⟩
      · skip
        have h1 := of_decide_eq_false h1; have hsu := cntL_succ hi0
        refine X.condF rfl ?_
        refine X.skip ?_
        refine X.region ?_
        refine XO.pu (Pu.move rfl) ?_
        refine XO.ld Try.isAgg23 ?_
        refine XO.pu (Pu.move rfl) ?_
        refine XO.pu (Pu.indexAddr rfl rfl Try.underlying23 Try.sizeOf57 (by omega) (by omega)) ?_
        refine XO.pu (Pu.fieldAddr 3 1 0 rfl Try.underlying57 rfl Try.sizeOf3) ?_
        refine XO.ld Try.isAgg3 ?_
        refine XO.pu (Pu.max2 rfl rfl) ?_
        refine XO.pu (Pu.add rfl rfl (by omega) (by omega)) ?_
        refine XO.pu (Pu.assign rfl) ?_
        refine XO.nil ?_
        refine X.sub (p' := [(5, _), (6, _), (2, _), (3, _), (4, _)]) ⟨rfl, rfl, rfl, rfl, rfl, trivial⟩ ?_
        refine X.inBlock ?_
        refine X.region ?_
        refine XO.pu (Pu.move rfl) ?_
        refine XO.pu (Pu.add rfl rfl (by omega) (by omega)) ?_
        refine XO.pu (Pu.assign rfl) ?_
        refine XO.nil ?_
        refine X.sub (p' := [(6, _), (5, _), (2, _), (3, _), (4, _)]) ⟨rfl, rfl, rfl, rfl, rfl, trivial⟩ ?_
        refine X.at (ih (s + 1) ⟨by omega, by intro z hz; rw [List.take_succ_eq_append_getElem hi0, List.mem_append] at hz; rcases hz with hz | hz; exact hi2 z hz; rw [List.mem_singleton] at hz; subst hz; omega, by omega⟩ (by omega)) ⟨(by first | rfl | exact congrArg some (congrArg (Value.int _) (by omega)) | (show some _ = some _; simp; done) | (show some _ = some _; simp; omega)), (by first | rfl | exact congrArg some (congrArg (Value.int _) (by omega)) | (show some _ = some _; simp; done) | (show some _ = some _; simp; omega)), (by first | rfl | exact congrArg some (congrArg (Value.int _) (by omega)) | (show some _ = some _; simp; done) | (show some _ = some _; simp; omega)), (by first | rfl | exact congrArg some (congrArg (Value.int _) (by omega)) | (show some _ = some _; simp; done) | (show some _ = some _; simp; omega)), (by first | rfl | exact congrArg some (congrArg (Value.int _) (by omega)) | (show some _ = some _; simp; done) | (show some _ = some _; simp; omega)), trivial⟩ leA
    · skip
      have h0 := of_decide_eq_false h0; obtain rfl : s = l.length := by omega
      rw [List.take_length] at hi2; clear h0 hi1 ih
      refine X.condF rfl ?_
      refine X.exit rfl ?_
      refine X.seq ?_
      refine X.region ?_
      refine XO.ef (Ef.alloc Try.zeroValue3) ?_
      rintro _ _ ⟨n4, rfl, rfl⟩
      refine XO.ef (Ef.alloc Try.zeroValue3) ?_
      rintro _ _ ⟨n5, rfl, rfl⟩
      refine XO.ef (Ef.alloc Try.zeroValue3) ?_
      rintro _ _ ⟨n6, rfl, rfl⟩
      refine XO.ef0 (Ef.st Try.sizeOf3) ?_
      rintro _ _ ⟨rfl, rfl⟩
      refine XO.ef0 (Ef.st Try.sizeOf3) ?_
      rintro _ _ ⟨rfl, rfl⟩
      refine XO.ef0 (Ef.st Try.sizeOf3) ?_
      rintro _ _ ⟨rfl, rfl⟩
      refine XO.nil ?_
      refine X.sub (p' := [(9, _), (8, _), (7, _), (5, _), (2, _), (3, _), (4, _)]) ⟨rfl, rfl, rfl, rfl, rfl, rfl, rfl, trivial⟩ ?_
      refine X.seq ?_
      refine X.seq ?_
      refine X.region ?_
      refine XO.ld Try.isAgg23 ?_
      refine XO.cX Try.call28 (Le.refl _) (threads_ok (l := l) (a := a) (c := c) (hs.le leA) (by omega)) ?_
      rintro _ _ ⟨p1, a1, c1, rfl, rfl⟩
      refine XO.pu (Pu.eqlFNil rfl Try.underlying59) ?_
      refine XO.nil ?_
      refine X.sub (p' := [(40, _), (9, _), (8, _), (7, _), (5, _), (2, _), (3, _), (4, _)]) ⟨rfl, rfl, rfl, rfl, rfl, rfl, rfl, rfl, trivial⟩ ?_
      refine X.know 40 (.bool false) rfl (congrArg Value.bool (rfl)) ?_
      refine X.condF rfl ?_
      refine X.skip ?_
      refine X.seq ?_
      refine X.seq ?_
      refine X.region ?_
      refine XO.ld Try.isAgg23 ?_
      refine XO.cX Try.call28 (Le.refl _) (threads_ok (l := l) (a := a) (c := c) (hs.le leA) (by omega)) ?_
      rintro _ _ ⟨p2, a2, c2, rfl, rfl⟩
      refine XO.nil ?_
      refine X.sub (p' := [(42, _), (9, _), (8, _), (7, _), (5, _), (2, _), (3, _), (4, _)]) ⟨rfl, rfl, rfl, rfl, rfl, rfl, rfl, rfl, trivial⟩ ?_
      refine X.block ?_
      refine X.le (q' := pto p2 (.cells [.slice a2 l.length c2].toArray 23 (0, 0)) :: rsH tcs 2 57 a2 c2 l :: _) leA (X.freeze (X.le (q' := rsH tcs 2 57 a2 c2 l :: im p2 (.cells [.slice a2 l.length c2].toArray 23 (0, 0)) :: _) leA (X.rsFreeze ?_)))
      have hmax : ∀ x ∈ l, x.2 ≤ 9223372036854775807 := fun x hx => Int.le_trans (hi2 x hx) (by decide)
      have hms : ((stepsL l).map svs).length = cntL l l.length := by rw [List.length_map, stepsL_len]
      refine X.range [im p2 (.cells [.slice a2 l.length c2].toArray 23 (0, 0)), rsM tcs 2 57 a2 c2 l] (fun k : Nat => stI l k n4 n5 :: pto n6 (.cells [.int .i64 (k : Int)].toArray 3 (0, 0)) :: pto n1 (.cells [.slice a l.length c].toArray 23 (0, 0)) :: pto n2 (.cells [.int .i64 many].toArray 3 (0, 0)) :: pto n3 (.cells [.bool false].toArray 4 (0, 0)) :: q) (fun _ _ => False) (F := F) (threads_iter (by omega) hmax) rfl ?_ (by intro x hx; obtain ⟨y, _, rfl⟩ := List.mem_map.1 hx; rfl) rfl (by rw [Try.func10]; rfl) rfl (fun i hi l2 rec F0 cs0 => ?_) (fun r => ?_) (fun _ _ _ hJ => hJ.elim)
      · refine Le.trans (b := [im p2 (.cells [.slice a2 l.length c2].toArray 23 (0, 0)), rsM tcs 2 57 a2 c2 l] ++ ((stI l 0 n4 n5 :: pto n6 (.cells [.int .i64 ((0 : Nat) : Int)].toArray 3 (0, 0)) :: pto n1 (.cells [.slice a l.length c].toArray 23 (0, 0)) :: pto n2 (.cells [.int .i64 many].toArray 3 (0, 0)) :: pto n3 (.cells [.bool false].toArray 4 (0, 0)) :: q) ++ F)) ?_ (Le.swapL _ _ _)
        simp only [ca, na]
        refine Le.pick fndA (Le.pick fndA (stI_in (0, 0) ⟨by simp [cntL], by simp, fun _ => by simp, fun _ => rfl⟩ leA))
      · skip
        have hi' : i < (stepsL l).length := by simpa using hi
        rw [show ((stepsL l).map svs)[i]'hi = svs (stepsL l)[i] by rw [List.getElem_map]]
        have hg0 : (stepsL l)[i]? = some (stepsL l)[i] := List.getElem?_eq_getElem hi'
        generalize (stepsL l)[i] = y at hg0 ⊢; obtain ⟨y1, y2⟩ := y
        refine X.sub (p' := [(44, _), (43, _), (42, _), (9, _), (8, _), (7, _), (5, _), (2, _), (3, _), (4, _)]) ⟨rfl, rfl, rfl, rfl, rfl, rfl, rfl, rfl, rfl, rfl, trivial⟩ ?_
        simp only [ca, na]
        refine X.le (q' := stI l i n4 n5 :: lp rec l2 .ready none :: _) leA (X.stI (fun s hS => ?_))
        obtain ⟨hS1, hS2, hS3, hS4⟩ := hS
        refine X.le (q' := lp rec l2 .ready none :: _) fndA ?_
        refine X.seq ?_
        refine X.region ?_
        refine XO.pu (Pu.assign rfl) ?_
        refine XO.nil ?_
        refine X.sub (p' := [(10, _), (44, _), (9, _), (8, _), (7, _), (2, _), (4, _)]) ⟨rfl, rfl, rfl, rfl, rfl, rfl, rfl, trivial⟩ ?_
        refine X.region ?_
        refine XO.pu (Pu.assign rfl) ?_
        refine XO.nil ?_
        refine X.sub (p' := [(11, _), (10, _), (9, _), (8, _), (7, _), (2, _), (4, _)]) ⟨rfl, rfl, rfl, rfl, rfl, rfl, rfl, trivial⟩ ?_
        refine X.beginRound rfl leA ?_
        refine X.block ?_
        refine X.seq ?_
        refine X.block ?_
        rw [stepsL_len] at hi'
        refine X.at (X.loop (fun (s : Nat × Nat) => okS l i s) (fun s => [(11, .int .i64 y2), (10, .int .i64 y1), (9, .pointer (some ⟨n6, 0, none⟩)), (8, .pointer (some ⟨n5, 0, none⟩)), (7, .pointer (some ⟨n4, 0, none⟩)), (2, .pointer (some ⟨n1, 0, none⟩)), (4, .pointer (some ⟨n3, 0, none⟩))]) (fun s => pto n4 (.cells [.int .i64 (s.1 : Int)].toArray 3 (0, 0)) :: pto n5 (.cells [.int .i64 (s.2 : Int)].toArray 3 (0, 0)) :: lp rec l2 .busy none :: pto n6 (.cells [.int .i64 (i : Int)].toArray 3 (0, 0)) :: pto n1 (.cells [.slice a l.length c].toArray 23 (0, 0)) :: pto n2 (.cells [.int .i64 many].toArray 3 (0, 0)) :: pto n3 (.cells [.bool false].toArray 4 (0, 0)) :: (q ++ ([im p2 (.cells [.slice a2 l.length c2].toArray 23 (0, 0)), rsM tcs 2 57 a2 c2 l] ++ F0))) (fun s => l.length - s.1) (fun s hi_ ih => ?_) s ⟨hS1, hS2, hS3, hS4⟩) ⟨(by first | rfl | exact congrArg some (congrArg (Value.int _) (by omega)) | (show some _ = some _; simp; done) | (show some _ = some _; simp; omega)), (by first | rfl | exact congrArg some (congrArg (Value.int _) (by omega)) | (show some _ = some _; simp; done) | (show some _ = some _; simp; omega)), (by first | rfl | exact congrArg some (congrArg (Value.int _) (by omega)) | (show some _ = some _; simp; done) | (show some _ = some _; simp; omega)), (by first | rfl | exact congrArg some (congrArg (Value.int _) (by omega)) | (show some _ = some _; simp; done) | (show some _ = some _; simp; omega)), (by first | rfl | exact congrArg some (congrArg (Value.int _) (by omega)) | (show some _ = some _; simp; done) | (show some _ = some _; simp; omega)), (by first | rfl | exact congrArg some (congrArg (Value.int _) (by omega)) | (show some _ = some _; simp; done) | (show some _ = some _; simp; omega)), (by first | rfl | exact congrArg some (congrArg (Value.int _) (by omega)) | (show some _ = some _; simp; done) | (show some _ = some _; simp; omega)), trivial⟩ leA
        try dsimp only at hi_ ih ⊢
        obtain ⟨hS1, hS2, hS3, hS4⟩ := hi_
        obtain ⟨s1, s2⟩ := s; dsimp only at hS1 hS2 hS3 hS4 ⊢
        clear hlen; have hlen := flatMap_len (f := tcs) (sz := 2) (fun _ => rfl) l
        have hu : ∀ h : s1 < l.length, l[s1].2 ≤ 100 := fun h => hi2 _ (List.getElem_mem h)
        rcases Nat.lt_or_ge s1 l.length with hb | hb
        · skip
          have hS3 := hS3 hb; have hu := hu hb
          refine X.seq ?_
          refine X.seq ?_
          refine X.draw [] Try.mixed (by kernel_rfl) (by kernel_rfl) rfl ?_
          refine XD.ld 0 Try.isAgg3 ?_
          refine XD.ld 1 Try.isAgg23 ?_
          refine XD.pu 2 rfl (Pu.len rfl Try.underlying23) ?_
          refine XD.pu 3 rfl (Pu.lss rfl rfl) ?_
          refine XD.pu 4 rfl (Pu.move rfl) ?_
          refine XD.know 49 (.bool true) rfl (congrArg Value.bool (decide_eq_true (by omega))) ?_
          refine XD.ld 5 Try.isAgg3 ?_
          refine XD.ld 6 Try.isAgg23 ?_
          refine XD.ld 7 Try.isAgg3 ?_
          refine XD.adr hs (by rw [hlen]; omega) (fun b23 o23 e_ => ?_); subst e_
          refine XD.pu 8 rfl (Pu.indexAddr rfl rfl Try.underlying23 Try.sizeOf57 (by omega) (by omega)) ?_
          refine XD.pu 9 rfl (Pu.fieldAddr 3 1 0 rfl Try.underlying57 rfl Try.sizeOf3) ?_
          refine XD.ld 10 Try.isAgg3 ?_
          refine XD.pu 11 rfl (Pu.geq rfl rfl) ?_
          refine XD.pu 12 rfl (Pu.pickT rfl rfl) ?_
          refine XD.nil ?_
          refine X.sub (p' := [(57, _), (11, _), (10, _), (9, _), (8, _), (7, _), (2, _), (4, _)]) ⟨rfl, rfl, rfl, rfl, rfl, rfl, rfl, rfl, trivial⟩ ?_
          refine X.part 57 rfl (fun h1 => ?_) (fun h1 => ?_)
          · skip
            have h1 := of_decide_eq_true h1; have hsu := cntL_succ hb
            refine X.condT rfl ?_
            refine X.skip ?_
            refine X.block ?_
            refine X.region ?_
            refine XO.ld Try.isAgg3 ?_
            refine XO.pu (Pu.add rfl rfl (by omega) (by omega)) ?_
            refine XO.ef0 (Ef.st Try.sizeOf3) ?_
            rintro _ _ ⟨rfl, rfl⟩
            refine XO.ef0 (Ef.st Try.sizeOf3) ?_
            rintro _ _ ⟨rfl, rfl⟩
            refine XO.nil ?_
            refine X.sub (p' := [(11, _), (10, _), (9, _), (8, _), (7, _), (2, _), (4, _)]) ⟨rfl, rfl, rfl, rfl, rfl, rfl, rfl, trivial⟩ ?_
            refine X.inBlock ?_
            refine X.at (ih (s1 + 1, 0) ⟨by dsimp only; omega, by dsimp only; omega, fun h => by dsimp only; omega, fun h => rfl⟩ (by dsimp only; omega)) ⟨(by first | rfl | exact congrArg some (congrArg (Value.int _) (by omega)) | (show some _ = some _; simp; done) | (show some _ = some _; simp; omega)), (by first | rfl | exact congrArg some (congrArg (Value.int _) (by omega)) | (show some _ = some _; simp; done) | (show some _ = some _; simp; omega)), (by first | rfl | exact congrArg some (congrArg (Value.int _) (by omega)) | (show some _ = some _; simp; done) | (show some _ = some _; simp; omega)), (by first | rfl | exact congrArg some (congrArg (Value.int _) (by omega)) | (show some _ = some _; simp; done) | (show some _ = some _; simp; omega)), (by first | rfl | exact congrArg some (congrArg (Value.int _) (by omega)) | (show some _ = some _; simp; done) | (show some _ = some _; simp; omega)), (by first | rfl | exact congrArg some (congrArg (Value.int _) (by omega)) | (show some _ = some _; simp; done) | (show some _ = some _; simp; omega)), (by first | rfl | exact congrArg some (congrArg (Value.int _) (by omega)) | (show some _ = some _; simp; done) | (show some _ = some _; simp; omega)), trivial⟩ leA
          · skip
            have h1 := of_decide_eq_false h1; have hlt : s2 < l[s1].2.toNat := by omega
            obtain ⟨_, hg1⟩ := stepsL_get hb hlt; rw [hS1, hg0] at hg1; obtain ⟨rfl, rfl⟩ := Prod.mk.inj (Option.some.inj hg1)
            refine X.condF rfl ?_
            refine X.exit rfl ?_
            refine X.seq ?_
            refine X.seq ?_
            refine X.region ?_
            refine XO.ld Try.isAgg3 ?_
            refine XO.ld Try.isAgg23 ?_
            refine XO.pu (Pu.len rfl Try.underlying23) ?_
            refine XO.pu (Pu.geq rfl rfl) ?_
            refine XO.pu (Pu.move rfl) ?_
            refine XO.know 64 (.bool false) rfl (congrArg Value.bool (decide_eq_false (by omega))) ?_
            refine XO.pu (Pu.move rfl) ?_
            refine XO.ld Try.isAgg3 ?_
            refine XO.pu (Pu.neq rfl rfl) ?_
            refine XO.pu (Pu.pickF rfl rfl) ?_
            refine XO.pu (Pu.move rfl) ?_
            refine XO.know 69 (.bool false) rfl (congrArg Value.bool (by simp)) ?_
            refine XO.pu (Pu.move rfl) ?_
            refine XO.ld Try.isAgg23 ?_
            refine XO.ld Try.isAgg3 ?_
            refine XO.pu (Pu.indexAddr rfl rfl Try.underlying23 Try.sizeOf57 (by omega) (by omega)) ?_
            refine XO.pu (Pu.fieldAddr 3 0 0 rfl Try.underlying57 rfl Try.sizeOf3) ?_
            refine XO.ld Try.isAgg3 ?_
            refine XO.pu (Pu.neq rfl rfl) ?_
            refine XO.pu (Pu.pickF rfl rfl) ?_
            refine XO.nil ?_
            refine X.sub (p' := [(77, _), (9, _), (8, _), (4, _)]) ⟨rfl, rfl, rfl, rfl, trivial⟩ ?_
            refine X.know 77 (.bool false) rfl (congrArg Value.bool (by simp)) ?_
            refine X.condF rfl ?_
            refine X.skip ?_
            refine X.seq ?_
            refine X.region ?_
            refine XO.ld Try.isAgg3 ?_
            refine XO.pu (Pu.add rfl rfl (by omega) (by omega)) ?_
            refine XO.ef0 (Ef.st Try.sizeOf3) ?_
            rintro _ _ ⟨rfl, rfl⟩
            refine XO.nil ?_
            refine X.sub (p' := [(9, _)]) ⟨rfl, trivial⟩ ?_
            refine X.region ?_
            refine XO.ld Try.isAgg3 ?_
            refine XO.pu (Pu.add rfl rfl (by omega) (by omega)) ?_
            refine XO.ef0 (Ef.st Try.sizeOf3) ?_
            rintro _ _ ⟨rfl, rfl⟩
            refine XO.nil ?_
            refine X.sub (p' := []) trivial ?_
            refine X.inBlock ?_
            rw [show ((s2 : Nat) : Int) + 1 = ((s2 + 1 : Nat) : Int) from rfl, show ((i : Nat) : Int) + 1 = ((i + 1 : Nat) : Int) from rfl]
            refine X.fall ⟨rfl, rfl, ?_⟩
            simp only [ca, na]
            refine Le.pick fndA (stI_in (s1, s2 + 1) ⟨by dsimp only; omega, by dsimp only; omega, fun _ => by dsimp only; omega, fun h => by dsimp only at h; omega⟩ leA)
        · skip
          exfalso; obtain rfl : s1 = l.length := by omega
          have := hS4 rfl; omega
      · skip
        rw [hms]
        simp only [ca, na]
        refine X.le (q' := stI l (cntL l l.length) n4 n5 :: pto r (.deferred (some [])) :: pto n6 (.cells [.int .i64 (cntL l l.length : Int)].toArray 3 (0, 0)) :: pto n1 (.cells [.slice a l.length c].toArray 23 (0, 0)) :: pto n2 (.cells [.int .i64 many].toArray 3 (0, 0)) :: pto n3 (.cells [.bool false].toArray 4 (0, 0)) :: (q ++ F)) leB (X.stI (fun s hS => ?_))
        clear hS
        refine X.inBlock ?_
        refine X.seq ?_
        refine X.region ?_
        refine XO.ef (Ef.alloc Try.zeroValue3) ?_
        rintro _ _ ⟨n7, rfl, rfl⟩
        refine XO.ef0 (Ef.st Try.sizeOf3) ?_
        rintro _ _ ⟨rfl, rfl⟩
        refine XO.nil ?_
        refine X.sub (p' := [(12, _), (9, _), (5, _), (2, _), (3, _), (4, _)]) ⟨rfl, rfl, rfl, rfl, rfl, rfl, trivial⟩ ?_
        refine X.seq ?_
        refine X.seq ?_
        refine X.region ?_
        refine XO.ld Try.isAgg23 ?_
        refine XO.cX Try.call28 (Le.refl _) (threads_ok (l := l) (a := a) (c := c) (hs.le leA) (by omega)) ?_
        rintro _ _ ⟨p3, a3, c3, rfl, rfl⟩
        refine XO.nil ?_
        refine X.sub (p' := [(83, _), (12, _), (9, _), (5, _), (3, _), (4, _)]) ⟨rfl, rfl, rfl, rfl, rfl, rfl, trivial⟩ ?_
        refine X.block ?_
        refine X.le (q' := pto p3 (.cells [.slice a3 l.length c3].toArray 23 (0, 0)) :: rsH tcs 2 57 a3 c3 l :: _) leA (X.freeze (X.le (q' := rsH tcs 2 57 a3 c3 l :: im p3 (.cells [.slice a3 l.length c3].toArray 23 (0, 0)) :: _) leA (X.rsFreeze ?_)))
        refine X.range [im p3 (.cells [.slice a3 l.length c3].toArray 23 (0, 0)), rsM tcs 2 57 a3 c3 l] (fun k : Nat => Wx.pure (k = 0 ∨ ((k : Nat) : Int) ≤ many) :: pto n7 (.cells [.int .i64 (k : Int)].toArray 3 (0, 0)) :: pto n6 (.cells [.int .i64 (cntL l l.length : Int)].toArray 3 (0, 0)) :: pto n1 (.cells [.slice a l.length c].toArray 23 (0, 0)) :: pto n2 (.cells [.int .i64 many].toArray 3 (0, 0)) :: pto n3 (.cells [.bool false].toArray 4 (0, 0)) :: q) (fun e qs => e = .exit 6 ∧ ∃ k : Nat, k ≤ cntL l l.length ∧ (k = 0 ∨ ((k : Nat) : Int) ≤ many) ∧ many ≤ k ∧ qs = pto n7 (.cells [.int .i64 (k : Int)].toArray 3 (0, 0)) :: pto n6 (.cells [.int .i64 (cntL l l.length : Int)].toArray 3 (0, 0)) :: pto n1 (.cells [.slice a l.length c].toArray 23 (0, 0)) :: pto n2 (.cells [.int .i64 many].toArray 3 (0, 0)) :: pto n3 (.cells [.bool false].toArray 4 (0, 0)) :: q) (F := pto r (.deferred (some [])) :: F) (threads_iter (by omega) hmax) rfl ?_ (by intro x hx; obtain ⟨y, _, rfl⟩ := List.mem_map.1 hx; rfl) rfl (by rw [Try.func10]; rfl) rfl (fun i hi l2 rec F0 cs0 => ?_) (fun r2 => ?_) (fun r2 c2 qs2 hJ => ?_)
        · refine Le.trans (b := [im p3 (.cells [.slice a3 l.length c3].toArray 23 (0, 0)), rsM tcs 2 57 a3 c3 l] ++ ((Wx.pure (0 = 0 ∨ ((0 : Nat) : Int) ≤ many) :: pto n7 (.cells [.int .i64 ((0 : Nat) : Int)].toArray 3 (0, 0)) :: pto n6 (.cells [.int .i64 (cntL l l.length : Int)].toArray 3 (0, 0)) :: pto n1 (.cells [.slice a l.length c].toArray 23 (0, 0)) :: pto n2 (.cells [.int .i64 many].toArray 3 (0, 0)) :: pto n3 (.cells [.bool false].toArray 4 (0, 0)) :: q) ++ (pto r (.deferred (some [])) :: F))) ?_ (Le.swapL _ _ _)
          simp only [ca, na]
          refine Le.pick fndA (Le.pick fndA (Le.trans ?_ (Le.add_pure (by simp) _)))
          exact leB
        · skip
          rw [hms] at hi; have hi' : i < (stepsL l).length := by rw [stepsL_len]; exact hi
          rw [List.getElem_map]
          generalize (stepsL l)[i]'hi' = y; obtain ⟨y1, y2⟩ := y
          refine X.sub (p' := [(85, _), (84, _), (83, _), (12, _), (9, _), (5, _), (3, _), (4, _)]) ⟨rfl, rfl, rfl, rfl, rfl, rfl, rfl, rfl, trivial⟩ ?_
          simp only [ca, na]
          refine X.le (q' := Wx.pure (i = 0 ∨ ((i : Nat) : Int) ≤ many) :: lp rec l2 .ready none :: _) leA (X.pure (fun hP => ?_))
          refine X.skip ?_
          refine X.beginRound rfl leA ?_
          refine X.block ?_
          refine X.seq ?_
          refine X.seq ?_
          refine X.region ?_
          refine XO.ld Try.isAgg3 ?_
          refine XO.ld Try.isAgg3 ?_
          refine XO.pu (Pu.geq rfl rfl) ?_
          refine XO.nil ?_
          refine X.sub (p' := [(88, _), (12, _)]) ⟨rfl, rfl, trivial⟩ ?_
          refine X.part 88 rfl (fun h0 => ?_) (fun h0 => ?_)
          · skip
            have h0 := of_decide_eq_true h0
            refine X.condT rfl ?_
            refine X.out rfl ⟨rfl, rfl, _, ⟨rfl, i, by omega, hP, by omega, rfl⟩, ?_⟩
            simp only [ca, na]
            exact leA
          · skip
            have h0 := of_decide_eq_false h0
            refine X.condF rfl ?_
            refine X.skip ?_
            refine X.region ?_
            refine XO.ld Try.isAgg3 ?_
            refine XO.pu (Pu.add rfl rfl (by omega) (by omega)) ?_
            refine XO.ef0 (Ef.st Try.sizeOf3) ?_
            rintro _ _ ⟨rfl, rfl⟩
            refine XO.nil ?_
            refine X.sub (p' := []) trivial ?_
            refine X.inBlock ?_
            rw [show ((i : Nat) : Int) + 1 = ((i + 1 : Nat) : Int) from rfl]
            refine X.fall ⟨rfl, rfl, ?_⟩
            simp only [ca, na]
            refine Le.pick fndA (Le.trans ?_ (Le.add_pure (show ((i + 1) = 0 ∨ (((i + 1) : Nat) : Int) ≤ many) from .inr (by omega)) _))
            exact leA
        · skip
          rw [hms]
          simp only [ca, na]
          refine X.le (q' := Wx.pure (cntL l l.length = 0 ∨ ((cntL l l.length : Nat) : Int) ≤ many) :: pto r2 (.deferred (some [])) :: pto n7 (.cells [.int .i64 (cntL l l.length : Int)].toArray 3 (0, 0)) :: pto n6 (.cells [.int .i64 (cntL l l.length : Int)].toArray 3 (0, 0)) :: pto n1 (.cells [.slice a l.length c].toArray 23 (0, 0)) :: pto n2 (.cells [.int .i64 many].toArray 3 (0, 0)) :: pto n3 (.cells [.bool false].toArray 4 (0, 0)) :: pto r (.deferred (some [])) :: (q ++ F)) leB (X.pure (fun hP => ?_))
          have hk : ((cntL l l.length : Nat) : Int) = max 0 (min many ((cntL l l.length : Nat) : Int)) := by omega
          refine X.inBlock ?_
          refine X.seq ?_
          refine X.region ?_
          refine XO.ld Try.isAgg3 ?_
          refine XO.pu (Pu.move rfl) ?_
          refine XO.pu (Pu.eql rfl rfl) ?_
          refine XO.pu (Pu.move rfl) ?_
          refine XO.know 94 (.bool true) rfl (congrArg Value.bool (by simp)) ?_
          refine XO.ld Try.isAgg3 ?_
          refine XO.ld Try.isAgg3 ?_
          refine XO.pu (Pu.move rfl) ?_
          refine XO.pu (Pu.min2 rfl rfl) ?_
          refine XO.pu (Pu.max2 rfl rfl) ?_
          refine XO.pu (Pu.eql rfl rfl) ?_
          refine XO.pu (Pu.pickT rfl rfl) ?_
          refine XO.pu (Pu.move rfl) ?_
          refine XO.know 102 (.bool true) rfl (congrArg Value.bool (by rw [beq_iff_eq]; exact hk)) ?_
          refine XO.cF Try.call12 (works_ok) ?_
          rintro _ _ ⟨rfl, rfl⟩ _ e_; simp only [ca, na] at e_; subst e_
          refine XO.pu (Pu.pickT rfl rfl) ?_
          refine XO.ef0 (Ef.st Try.sizeOf4) ?_
          rintro _ _ ⟨rfl, rfl⟩
          refine XO.nil ?_
          refine X.sub (p' := [(4, _)]) ⟨rfl, trivial⟩ ?_
          refine X.ret ⟨rfl, Lv.marks ?_⟩
          refine Lv.marks ?_
          exact Lv.ret (q' := q) Try.func10 (resC1 Try.results10 (ResOk.cell rfl (LV.cell Try.isAgg4 clA) ResOk.nil)) ⟨_, rfl, rfl, rfl⟩ leA
        · skip
          obtain ⟨rfl, k, hk1, hk2, hk3, rfl⟩ := hJ
          simp only [ca, na]
          refine X.le (q' := pto r2 (.deferred (some [])) :: pto n7 (.cells [.int .i64 (k : Int)].toArray 3 (0, 0)) :: pto n6 (.cells [.int .i64 (cntL l l.length : Int)].toArray 3 (0, 0)) :: pto n1 (.cells [.slice a l.length c].toArray 23 (0, 0)) :: pto n2 (.cells [.int .i64 many].toArray 3 (0, 0)) :: pto n3 (.cells [.bool false].toArray 4 (0, 0)) :: pto r (.deferred (some [])) :: (q ++ F)) leB ?_
          have hk : (k : Int) = max 0 (min many ((cntL l l.length : Nat) : Int)) := by omega
          refine X.exit rfl ?_
          refine X.seq ?_
          refine X.region ?_
          refine XO.ld Try.isAgg3 ?_
          refine XO.pu (Pu.move rfl) ?_
          refine XO.pu (Pu.eql rfl rfl) ?_
          refine XO.pu (Pu.move rfl) ?_
          refine XO.know 94 (.bool true) rfl (congrArg Value.bool (by simp)) ?_
          refine XO.ld Try.isAgg3 ?_
          refine XO.ld Try.isAgg3 ?_
          refine XO.pu (Pu.move rfl) ?_
          refine XO.pu (Pu.min2 rfl rfl) ?_
          refine XO.pu (Pu.max2 rfl rfl) ?_
          refine XO.pu (Pu.eql rfl rfl) ?_
          refine XO.pu (Pu.pickT rfl rfl) ?_
          refine XO.pu (Pu.move rfl) ?_
          refine XO.know 102 (.bool true) rfl (congrArg Value.bool (by rw [beq_iff_eq]; exact hk)) ?_
          refine XO.cF Try.call12 (works_ok) ?_
          rintro _ _ ⟨rfl, rfl⟩ _ e_; simp only [ca, na] at e_; subst e_
          refine XO.pu (Pu.pickT rfl rfl) ?_
          refine XO.ef0 (Ef.st Try.sizeOf4) ?_
          rintro _ _ ⟨rfl, rfl⟩
          refine XO.nil ?_
          refine X.sub (p' := [(4, _)]) ⟨rfl, trivial⟩ ?_
          refine X.ret ⟨rfl, Lv.marks ?_⟩
          refine Lv.marks ?_
          exact Lv.ret (q' := q) Try.func10 (resC1 Try.results10 (ResOk.cell rfl (LV.cell Try.isAgg4 clA) ResOk.nil)) ⟨_, rfl, rfl, rfl⟩ leA
end
end Go.Proofs.Ytiehcgmbkjdagaa

