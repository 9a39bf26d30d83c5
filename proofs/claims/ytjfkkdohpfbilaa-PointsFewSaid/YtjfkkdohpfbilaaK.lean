/- What functions of package points, and of its laws, do: contracts of calls, proved by walking their code. -/
import Derived.Test.YtjfkkdohpfbilaaJ
import Derived.KernelRfl
set_option maxRecDepth 100000
set_option linter.unusedVariables false
set_option linter.unusedSimpArgs false
namespace Go.Proofs.Ytjfkkdohpfbilaa
open Go Go.RowKit Wx

section
variable {G : World} {p p2 : Pt} {b b2 : Nat} {t : Int} {q : List HP} {a a' : Option Addr} {c c' : Nat} {l m : List Int} {every most : Int}
abbrev wl : List Int := [0, 1, 2, 4, 6]
def wp (s : Nat) : Pt := plays 2 3 (wl.take s)
theorem wp_good (s : Nat) : (wp s).Good := plays_good (by omega) (by omega) (by omega) (by omega) _
theorem wp_fact : ∀ s (h : s < 5), ((wp s).come wl[s]).2.2.2 = 0 ∧ ((wp s).come wl[s]).2.1 = decide (wl[s].tmod 2 = 0) ∧ (((wp s).come wl[s]).2.2.1 = -1 ∨ (wl[s] = 6 ∧ ((wp s).come wl[s]).2.2.1 = 2)) := by
  intro s h
  have : s = 0 ∨ s = 1 ∨ s = 2 ∨ s = 3 ∨ s = 4 := by omega
  rcases this with rfl | rfl | rfl | rfl | rfl <;> (revert h; decide)
theorem wl_bd : ∀ s (h : s < 5), (-100 : Int) ≤ wl[s]'h ∧ wl[s]'h ≤ (100 : Int) := by
  intro s h
  have : s = 0 ∨ s = 1 ∨ s = 2 ∨ s = 3 ∨ s = 4 := by omega
  rcases this with rfl | rfl | rfl | rfl | rfl <;> (revert h; decide)
theorem wp_end : (wp 5).kept = [0, 4, 6] ∧ (wp 5).gone = 1 ∧ bst (wp 5).kept 5 = 4 := by decide
theorem wp_step (s : Nat) (h : s < 5) : wp (s + 1) = ((wp s).come wl[s]).1 := plays_step 2 3 h
theorem works_ok  : CallF Try.prog G 11 [] [] (Ret fun v q' => v = .bool true ∧ q' = []) := by
  refine CallF.of Try.func11 Try.ntmps11 rfl (fun F cs => ?_)
  refine X.sub (p' := []) trivial ?_
  refine X.seq ?_
  refine X.region ?_
  refine XO.pu (Pu.assign rfl) ?_
  refine XO.nil ?_
  refine X.sub (p' := [(0, _)]) ⟨rfl, trivial⟩ ?_
  refine X.seq ?_
  refine X.region ?_
  refine XO.callF Try.call16 (New_yes (by omega) (by omega) (by omega) (by omega)) rfl (by repeat (first | exact Le.refl _ | refine Le.pick (by repeat first | exact Le.here _ _ | apply Le.there) ?_ | refine Le.lose ?_)) ?_
  rintro _ _ ⟨b, rfl, rfl⟩ q_ hq_
  simp only [List.cons_append, List.nil_append] at hq_; subst hq_
  refine XO.pu (Pu.move rfl) ?_
  refine XO.pu (Pu.extract rfl rfl) ?_
  refine XO.pu (Pu.extract rfl rfl) ?_
  refine XO.pu (Pu.assign rfl) ?_
  refine XO.pu (Pu.assign rfl) ?_
  refine XO.nil ?_
  refine X.sub (p' := [(2, _), (1, _), (0, _)]) ⟨rfl, rfl, rfl, trivial⟩ ?_
  refine X.seq ?_
  refine X.region ?_
  refine XO.pu (Pu.assign rfl) ?_
  refine XO.nil ?_
  refine X.sub (p' := [(3, _), (2, _), (1, _), (0, _)]) ⟨rfl, rfl, rfl, rfl, trivial⟩ ?_
  refine X.seq ?_
  refine X.seq ?_
  refine X.region ?_
  refine XO.ef (Ef.litL I wl Try.underlying22 Try.info3 rfl rfl rfl rfl rfl rfl (fun _ => rfl)) ?_
  rintro _ _ ⟨g, rfl, rfl⟩
  refine XO.pu (Pu.len rfl Try.underlying22) ?_
  refine XO.pu (Pu.move rfl) ?_
  refine XO.nil ?_
  refine X.sub (p' := [(17, _), (16, _), (15, _), (3, _), (2, _), (1, _), (0, _)]) ⟨rfl, rfl, rfl, rfl, rfl, rfl, rfl, trivial⟩ ?_
  refine X.block ?_
  refine X.at (X.loop (fun (s : Nat) => s ≤ 5) (fun s => [(17, .int .i64 (s : Int)), (16, .int .i64 5), (15, .slice (some ⟨g, 0, none⟩) 5 5), (3, .int .i64 (s : Int)), (1, .pointer (some ⟨b, 0, none⟩)), (2, .int .i64 0)]) (fun s => PtH b (wp s) :: lsH I 3 (some ⟨g, 0, none⟩) 5 wl :: F) (fun s => 5 - s) (fun s hi_ ih => ?_) 0 (by omega)) ⟨(by first | rfl | exact congrArg some (congrArg (Value.int _) (by omega))), (by first | rfl | exact congrArg some (congrArg (Value.int _) (by omega))), (by first | rfl | exact congrArg some (congrArg (Value.int _) (by omega))), (by first | rfl | exact congrArg some (congrArg (Value.int _) (by omega))), (by first | rfl | exact congrArg some (congrArg (Value.int _) (by omega))), (by first | rfl | exact congrArg some (congrArg (Value.int _) (by omega))), trivial⟩ (by repeat (first | exact Le.refl _ | refine Le.pick (by repeat first | exact Le.here _ _ | apply Le.there) ?_ | refine Le.lose ?_))
  try dsimp only at hi_ ih ⊢
  obtain hi := hi_
  refine X.seq ?_
  refine X.region ?_
  refine XO.pu (Pu.lss rfl rfl) ?_
  refine XO.nil ?_
  refine X.sub (p' := [(18, _), (17, _), (16, _), (15, _), (3, _), (1, _), (2, _)]) ⟨rfl, rfl, rfl, rfl, rfl, rfl, rfl, trivial⟩ ?_
  refine X.seq ?_
  refine X.cond rfl (fun h1 => ?_) (fun h1 => ?_)
  · skip
    have hlt : s < 5 := by have := of_decide_eq_true h1; omega
    have hw := wp_fact s hlt
    have hlb := wl_bd s hlt
    have hs : Sees (PtH b (wp s) :: lsH I 3 (some ⟨g, 0, none⟩) 5 wl :: F) (some ⟨g, 0, none⟩) (wl.map I) := (Sees.lsH _).there
    refine X.skip ?_
    refine X.seq ?_
    refine X.block ?_
    refine X.seq ?_
    refine X.region ?_
    refine XO.pu (Pu.indexAddr rfl rfl Try.underlying22 Try.sizeOf3 (by omega) (by omega)) ?_
    refine XO.rd (Rd.load rfl Try.isAgg3 (hs.at (n := s) rfl hlt)) ?_
    refine XO.pu (Pu.assign rfl) ?_
    refine XO.nil ?_
    refine X.sub (p' := [(5, _), (17, _), (16, _), (15, _), (3, _), (1, _), (2, _)]) ⟨rfl, rfl, rfl, rfl, rfl, rfl, rfl, trivial⟩ ?_
    refine X.seq ?_
    refine X.region ?_
    refine XO.pu (Pu.move rfl) ?_
    refine XO.pu (Pu.move rfl) ?_
    refine XO.callF Try.call17 (Come_ok (p := wp s) (b := b) (t := wl[s]) (wp_good s).ok (wp_good s).gone_le (by omega)) rfl (by repeat (first | exact Le.refl _ | refine Le.pick (by repeat first | exact Le.here _ _ | apply Le.there) ?_ | refine Le.lose ?_)) ?_
    rintro _ _ ⟨rfl, rfl⟩ q_ hq_
    simp only [List.cons_append, List.nil_append] at hq_; subst hq_
    rw [← wp_step s hlt]
    generalize (wp s).come wl[s] = r at hw ⊢
    obtain ⟨hw1, hw2, hw3⟩ := hw
    refine XO.pu (Pu.move rfl) ?_
    refine XO.pu (Pu.extract rfl rfl) ?_
    refine XO.pu (Pu.extract rfl rfl) ?_
    refine XO.pu (Pu.extract rfl rfl) ?_
    refine XO.pu (Pu.assign rfl) ?_
    refine XO.pu (Pu.assign rfl) ?_
    refine XO.pu (Pu.assign rfl) ?_
    refine XO.nil ?_
    refine X.sub (p' := [(8, _), (7, _), (6, _), (5, _), (17, _), (16, _), (15, _), (3, _), (1, _), (2, _)]) ⟨rfl, rfl, rfl, rfl, rfl, rfl, rfl, rfl, rfl, rfl, trivial⟩ ?_
    refine X.seq ?_
    refine X.seq ?_
    refine X.region ?_
    refine XO.pu (Pu.move rfl) ?_
    refine XO.callF Try.call20 (num_ok _) rfl (by repeat (first | exact Le.refl _ | refine Le.pick (by repeat first | exact Le.here _ _ | apply Le.there) ?_ | refine Le.lose ?_)) ?_
    rintro _ _ ⟨rfl, rfl⟩ q_ hq_
    simp only [List.cons_append, List.nil_append] at hq_; subst hq_
    refine XO.pu (Pu.neq rfl rfl) ?_
    refine XO.pu (Pu.move rfl) ?_
    refine XO.know 31 (.bool false) rfl (congrArg Value.bool (by rw [hw1]; rfl)) ?_
    refine XO.pu (Pu.move rfl) ?_
    refine XO.pu (Pu.move rfl) ?_
    refine XO.pu (Pu.rem rfl rfl (by omega)) ?_
    refine XO.pu (Pu.eql rfl rfl) ?_
    refine XO.pu (Pu.neqB rfl rfl Try.underlying4) ?_
    refine XO.pu (Pu.pickF rfl rfl) ?_
    refine XO.pu (Pu.move rfl) ?_
    refine XO.know 38 (.bool false) rfl (congrArg Value.bool (by rw [hw2]; by_cases e : wl[s].tmod 2 = 0; simp [e]; simp [e])) ?_
    refine XO.pu (Pu.move rfl) ?_
    refine XO.pu (Pu.neq rfl rfl) ?_
    refine XO.pu (Pu.move rfl) ?_
    refine XO.part 41 rfl (fun h2 => ?_) (fun h2 => ?_)
    · skip
      have h3 : wl[s] = 6 ∧ r.2.2.1 = 2 := by rcases hw3 with h | h; simp [h] at h2; exact h
      refine XO.pu (Pu.move rfl) ?_
      refine XO.pu (Pu.neq rfl rfl) ?_
      refine XO.pu (Pu.move rfl) ?_
      refine XO.know 44 (.bool false) rfl (congrArg Value.bool (by rw [h3.1]; rfl)) ?_
      refine XO.pu (Pu.move rfl) ?_
      refine XO.pu (Pu.neq rfl rfl) ?_
      refine XO.pu (Pu.pickF rfl rfl) ?_
      refine XO.pu (Pu.pickT rfl rfl) ?_
      refine XO.pu (Pu.pickF rfl rfl) ?_
      refine XO.nil ?_
      refine X.sub (p' := [(49, _), (17, _), (16, _), (15, _), (3, _), (1, _), (2, _)]) ⟨rfl, rfl, rfl, rfl, rfl, rfl, rfl, trivial⟩ ?_
      refine X.know 49 (.bool false) rfl (congrArg Value.bool (by simp [h3.2])) ?_
      refine X.condF rfl ?_
      refine X.skip ?_
      refine X.region ?_
      refine XO.pu (Pu.move rfl) ?_
      refine XO.pu (Pu.add rfl rfl (by omega) (by omega)) ?_
      refine XO.pu (Pu.assign rfl) ?_
      refine XO.nil ?_
      refine X.sub (p' := [(3, _), (17, _), (16, _), (15, _), (1, _), (2, _)]) ⟨rfl, rfl, rfl, rfl, rfl, rfl, trivial⟩ ?_
      refine X.inBlock ?_
      refine X.region ?_
      refine XO.pu (Pu.add rfl rfl (by omega) (by omega)) ?_
      refine XO.pu (Pu.move rfl) ?_
      refine XO.nil ?_
      refine X.sub (p' := [(17, _), (3, _), (16, _), (15, _), (1, _), (2, _)]) ⟨rfl, rfl, rfl, rfl, rfl, rfl, trivial⟩ ?_
      refine X.at (ih (s + 1) (by omega) (by omega)) ⟨(by first | rfl | exact congrArg some (congrArg (Value.int _) (by omega))), (by first | rfl | exact congrArg some (congrArg (Value.int _) (by omega))), (by first | rfl | exact congrArg some (congrArg (Value.int _) (by omega))), (by first | rfl | exact congrArg some (congrArg (Value.int _) (by omega))), (by first | rfl | exact congrArg some (congrArg (Value.int _) (by omega))), (by first | rfl | exact congrArg some (congrArg (Value.int _) (by omega))), trivial⟩ (by repeat (first | exact Le.refl _ | refine Le.pick (by repeat first | exact Le.here _ _ | apply Le.there) ?_ | refine Le.lose ?_))
    · skip
      refine XO.pass rfl ?_
      refine XO.pass rfl ?_
      refine XO.pass rfl ?_
      refine XO.pass rfl ?_
      refine XO.pass rfl ?_
      refine XO.pass rfl ?_
      refine XO.pu (Pu.pickF rfl rfl) ?_
      refine XO.pu (Pu.pickF rfl rfl) ?_
      refine XO.nil ?_
      refine X.sub (p' := [(49, _), (17, _), (16, _), (15, _), (3, _), (1, _), (2, _)]) ⟨rfl, rfl, rfl, rfl, rfl, rfl, rfl, trivial⟩ ?_
      refine X.condF rfl ?_
      refine X.skip ?_
      refine X.region ?_
      refine XO.pu (Pu.move rfl) ?_
      refine XO.pu (Pu.add rfl rfl (by omega) (by omega)) ?_
      refine XO.pu (Pu.assign rfl) ?_
      refine XO.nil ?_
      refine X.sub (p' := [(3, _), (17, _), (16, _), (15, _), (1, _), (2, _)]) ⟨rfl, rfl, rfl, rfl, rfl, rfl, trivial⟩ ?_
      refine X.inBlock ?_
      refine X.region ?_
      refine XO.pu (Pu.add rfl rfl (by omega) (by omega)) ?_
      refine XO.pu (Pu.move rfl) ?_
      refine XO.nil ?_
      refine X.sub (p' := [(17, _), (3, _), (16, _), (15, _), (1, _), (2, _)]) ⟨rfl, rfl, rfl, rfl, rfl, rfl, trivial⟩ ?_
      refine X.at (ih (s + 1) (by omega) (by omega)) ⟨(by first | rfl | exact congrArg some (congrArg (Value.int _) (by omega))), (by first | rfl | exact congrArg some (congrArg (Value.int _) (by omega))), (by first | rfl | exact congrArg some (congrArg (Value.int _) (by omega))), (by first | rfl | exact congrArg some (congrArg (Value.int _) (by omega))), (by first | rfl | exact congrArg some (congrArg (Value.int _) (by omega))), (by first | rfl | exact congrArg some (congrArg (Value.int _) (by omega))), trivial⟩ (by repeat (first | exact Le.refl _ | refine Le.pick (by repeat first | exact Le.here _ _ | apply Le.there) ?_ | refine Le.lose ?_))
  · skip
    have h5 : s = 5 := by have := of_decide_eq_false h1; omega
    subst h5
    refine X.exit rfl ?_
    refine X.seq ?_
    refine X.region ?_
    refine XO.pu (Pu.move rfl) ?_
    have he := wp_end; obtain ⟨hk, hgn, hb⟩ := he
    refine XO.callF Try.call22 (Best_ok (p := wp 5) (b := b) (t := 5) (wp_good 5) (.inr trivial)) rfl (by repeat (first | exact Le.refl _ | refine Le.pick (by repeat first | exact Le.here _ _ | apply Le.there) ?_ | refine Le.lose ?_)) ?_
    rintro _ _ ⟨rfl, rfl⟩ q_ hq_
    simp only [List.cons_append, List.nil_append] at hq_; subst hq_
    rw [hb]
    refine XO.pu (Pu.move rfl) ?_
    refine XO.pu (Pu.extract rfl rfl) ?_
    refine XO.pu (Pu.extract rfl rfl) ?_
    refine XO.pu (Pu.assign rfl) ?_
    refine XO.pu (Pu.assign rfl) ?_
    refine XO.nil ?_
    refine X.sub (p' := [(10, _), (9, _), (3, _), (1, _), (2, _)]) ⟨rfl, rfl, rfl, rfl, rfl, trivial⟩ ?_
    refine X.seq ?_
    refine X.region ?_
    refine XO.pu (Pu.move rfl) ?_
    refine XO.callF Try.call20 (num_ok _) rfl (by repeat (first | exact Le.refl _ | refine Le.pick (by repeat first | exact Le.here _ _ | apply Le.there) ?_ | refine Le.lose ?_)) ?_
    rintro _ _ ⟨rfl, rfl⟩ q_ hq_
    simp only [List.cons_append, List.nil_append] at hq_; subst hq_
    refine XO.pu (Pu.eql rfl rfl) ?_
    refine XO.pu (Pu.move rfl) ?_
    refine XO.know 61 (.bool true) rfl (congrArg Value.bool (rfl)) ?_
    refine XO.pu (Pu.move rfl) ?_
    refine XO.pu (Pu.eql rfl rfl) ?_
    refine XO.pu (Pu.pickT rfl rfl) ?_
    refine XO.pu (Pu.move rfl) ?_
    refine XO.know 65 (.bool true) rfl (congrArg Value.bool (rfl)) ?_
    refine XO.pu (Pu.move rfl) ?_
    refine XO.callF Try.call18 (All_ok (p := wp 5) (b := b) (wp_good 5).ok) rfl (by repeat (first | exact Le.refl _ | refine Le.pick (by repeat first | exact Le.here _ _ | apply Le.there) ?_ | refine Le.lose ?_)) ?_
    rintro _ _ ⟨a2, c2, rfl, rfl⟩ q_ hq_
    simp only [List.cons_append, List.nil_append] at hq_; subst hq_
    refine XO.ef (Ef.litL I [0, 4, 6] Try.underlying22 Try.info3 rfl rfl rfl rfl rfl rfl (fun _ => rfl)) ?_
    rintro _ _ ⟨g2, rfl, rfl⟩
    refine XO.le (q' := lsH I 3 (some ⟨g2, 0, none⟩) 3 [0, 4, 6] :: lsH I 3 a2 c2 (wp 5).kept :: PtH b (wp 5) :: F) (by repeat (first | exact Le.refl _ | refine Le.pick (by repeat first | exact Le.here _ _ | apply Le.there) ?_ | refine Le.lose ?_)) ?_
    refine XO.callF Try.call28 (ints_ok (q := [lsH I 3 a2 c2 (wp 5).kept, lsH I 3 (some ⟨g2, 0, none⟩) 3 [0, 4, 6]]) (l := (wp 5).kept) (m := [0, 4, 6]) (a := a2) (b := some ⟨g2, 0, none⟩) (c := c2) (c' := 3) (Sees.lsH _) (Sees.lsH _).there (by rw [hk]; decide) (by decide)) rfl (by repeat (first | exact Le.refl _ | refine Le.pick (by repeat first | exact Le.here _ _ | apply Le.there) ?_ | refine Le.lose ?_)) ?_
    rintro _ _ ⟨rfl, rfl⟩ q_ hq_
    simp only [List.cons_append, List.nil_append] at hq_; subst hq_
    refine XO.pu (Pu.pickT rfl rfl) ?_
    refine XO.pu (Pu.move rfl) ?_
    refine XO.know 71 (.bool true) rfl (congrArg Value.bool (by rw [hk]; rfl)) ?_
    refine XO.pu (Pu.move rfl) ?_
    refine XO.callF Try.call21 (Gone_ok (p := wp 5) (b := b) (wp_good 5).ok) rfl (by repeat (first | exact Le.refl _ | refine Le.pick (by repeat first | exact Le.here _ _ | apply Le.there) ?_ | refine Le.lose ?_)) ?_
    rintro _ _ ⟨rfl, rfl⟩ q_ hq_
    simp only [List.cons_append, List.nil_append] at hq_; subst hq_
    refine XO.pu (Pu.eql rfl rfl) ?_
    refine XO.pu (Pu.pickT rfl rfl) ?_
    refine XO.pu (Pu.move rfl) ?_
    refine XO.know 76 (.bool true) rfl (congrArg Value.bool (by rw [hgn]; rfl)) ?_
    refine XO.pu (Pu.move rfl) ?_
    refine XO.pu (Pu.eql rfl rfl) ?_
    refine XO.pu (Pu.pickT rfl rfl) ?_
    refine XO.pu (Pu.move rfl) ?_
    refine XO.know 80 (.bool true) rfl (congrArg Value.bool (rfl)) ?_
    refine XO.pu (Pu.move rfl) ?_
    refine XO.pu (Pu.pickT rfl rfl) ?_
    refine XO.pu (Pu.assign rfl) ?_
    refine XO.nil ?_
    refine X.sub (p' := [(0, _)]) ⟨rfl, trivial⟩ ?_
    refine X.ret ⟨rfl, Lv.ret (q' := []) Try.func11 (res1 Try.results11 rfl) ⟨_, rfl, rfl, rfl⟩ (by repeat (first | exact Le.refl _ | refine Le.pick (by repeat first | exact Le.here _ _ | apply Le.there) ?_ | refine Le.lose ?_))⟩
theorem comes_ok (hs : Sees q a (l.map I)) (hr : ∀ x ∈ l, -9223372036854775808 ≤ x ∧ x ≤ 9223372036854775807) : CallF Try.prog G 3 [.int .i64 every, .int .i64 most, .slice a l.length c] q (Ret fun v q' => v = .bool true ∧ q' = q) := by
  refine CallF.of Try.func3 Try.ntmps3 rfl (fun F cs => ?_)
  refine X.sub (p' := [(0, _), (1, _), (2, _)]) ⟨rfl, rfl, rfl, trivial⟩ ?_
  refine X.seq ?_
  refine X.region ?_
  refine XO.pu (Pu.assign rfl) ?_
  refine XO.nil ?_
  refine X.sub (p' := [(6, _), (0, _), (1, _), (2, _)]) ⟨rfl, rfl, rfl, rfl, trivial⟩ ?_
  refine X.seq ?_
  refine X.seq ?_
  refine X.region ?_
  refine XO.pu (Pu.move rfl) ?_
  refine XO.pu (Pu.move rfl) ?_
  refine XO.pu (Pu.move rfl) ?_
  refine XO.callF Try.call10 (small_ok) rfl (by repeat (first | exact Le.refl _ | refine Le.pick (by repeat first | exact Le.here _ _ | apply Le.there) ?_ | refine Le.lose ?_)) ?_
  rintro _ _ ⟨rfl, rfl⟩ q_ hq_
  simp only [List.cons_append, List.nil_append] at hq_; subst hq_
  refine XO.pu (Pu.not rfl) ?_
  refine XO.nil ?_
  refine X.sub (p' := [(14, _), (6, _), (0, _), (1, _), (2, _)]) ⟨rfl, rfl, rfl, rfl, rfl, trivial⟩ ?_
  refine X.cond rfl (fun h => ?_) (fun h => ?_)
  · skip
    refine X.seq ?_
    refine X.region ?_
    refine XO.callF Try.call11 (works_ok) rfl (by repeat (first | exact Le.refl _ | refine Le.pick (by repeat first | exact Le.here _ _ | apply Le.there) ?_ | refine Le.lose ?_)) ?_
    rintro _ _ ⟨rfl, rfl⟩ q_ hq_
    simp only [List.cons_append, List.nil_append] at hq_; subst hq_
    refine XO.pu (Pu.assign rfl) ?_
    refine XO.nil ?_
    refine X.sub (p' := [(6, _), (0, _), (1, _), (2, _)]) ⟨rfl, rfl, rfl, rfl, trivial⟩ ?_
    refine X.ret ⟨rfl, Lv.ret (q' := q) Try.func3 (res1 Try.results3 rfl) ⟨_, rfl, rfl, rfl⟩ (by repeat (first | exact Le.refl _ | refine Le.pick (by repeat first | exact Le.here _ _ | apply Le.there) ?_ | refine Le.lose ?_))⟩
  · skip
    have h : 1 ≤ every ∧ every ≤ 1073741824 ∧ 2 ≤ most ∧ most ≤ 4096 ∧ l.length ≤ 200 := by simpa using h
    refine X.skip ?_
    refine X.seq ?_
    refine X.region ?_
    refine XO.pu (Pu.move rfl) ?_
    refine XO.pu (Pu.move rfl) ?_
    refine XO.pu (Pu.move rfl) ?_
    refine XO.callF Try.call12 (played_ok (q := q) (a := a) (c := c) h.1 h.2.1 h.2.2.1 h.2.2.2.1 hs (by omega) hr) rfl (by repeat (first | exact Le.refl _ | refine Le.pick (by repeat first | exact Le.here _ _ | apply Le.there) ?_ | refine Le.lose ?_)) ?_
    rintro _ _ ⟨b, a2, c2, rfl, rfl⟩ q_ hq_
    simp only [List.cons_append, List.nil_append] at hq_; subst hq_
    refine XO.pu (Pu.move rfl) ?_
    refine XO.pu (Pu.extract rfl rfl) ?_
    refine XO.pu (Pu.extract rfl rfl) ?_
    refine XO.pu (Pu.extract rfl rfl) ?_
    refine XO.ef (Ef.alloc Try.zeroValue27) ?_
    rintro _ _ ⟨n1, rfl, rfl⟩
    refine XO.pu (Pu.assign rfl) ?_
    refine XO.ef0 (Ef.storeA rfl rfl Try.sizeOf27 rfl rfl (by repeat first | exact Le.here _ _ | apply Le.there) rfl) ?_
    rintro _ _ ⟨rfl, rfl⟩
    refine XO.pu (Pu.assign rfl) ?_
    refine XO.nil ?_
    refine X.sub (p' := [(9, _), (6, _)]) ⟨rfl, rfl, trivial⟩ ?_
    refine X.seq ?_
    refine X.region ?_
    refine XO.pu (Pu.move rfl) ?_
    refine XO.pu (Pu.move rfl) ?_
    refine XO.know 25 (.bool true) rfl (congrArg Value.bool (rfl)) ?_
    refine XO.callF Try.call11 (works_ok) rfl (by repeat (first | exact Le.refl _ | refine Le.pick (by repeat first | exact Le.here _ _ | apply Le.there) ?_ | refine Le.lose ?_)) ?_
    rintro _ _ ⟨rfl, rfl⟩ q_ hq_
    simp only [List.cons_append, List.nil_append] at hq_; subst hq_
    refine XO.pu (Pu.pickT rfl rfl) ?_
    refine XO.pu (Pu.assign rfl) ?_
    refine XO.nil ?_
    refine X.sub (p' := [(6, _)]) ⟨rfl, trivial⟩ ?_
    refine X.ret ⟨rfl, Lv.ret (q' := q) Try.func3 (res1 Try.results3 rfl) ⟨_, rfl, rfl, rfl⟩ (by repeat (first | exact Le.refl _ | refine Le.pick (by repeat first | exact Le.here _ _ | apply Le.there) ?_ | refine Le.lose ?_))⟩
end
end Go.Proofs.Ytjfkkdohpfbilaa

