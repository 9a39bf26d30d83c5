/- What functions of package points, and of its laws, do: contracts of calls, proved by walking their code. -/
import Derived.Test.YtjfkkdohpfbilaaL
import Derived.KernelRfl
set_option maxRecDepth 100000
set_option linter.unusedVariables false
set_option linter.unusedSimpArgs false
namespace Go.Proofs.Ytjfkkdohpfbilaa
open Go Go.RowKit Wx

section
variable {G : World} {p p2 : Pt} {b b2 : Nat} {t : Int} {q : List HP} {a a' : Option Addr} {c c' : Nat} {l m : List Int} {every most : Int}
theorem come_rl (g : p.Good) (t : Int) : (p.come t).1 = p ↔ (p.come t).1.rl = p.rl := by
  by_cases h : t < 0 ∨ 1099511627776 < t ∨ (p.came = true ∧ t ≤ p.last)
  · rw [come_1 h]; simp
  · have hne : p.rl ≠ t := by
      unfold Pt.rl
      split
      · rename_i hc; intro e; exact h (.inr (.inr ⟨hc, by omega⟩))
      · omega
    have hl : (p.come t).1.rl = t := by
      by_cases h2 : t.tmod p.every ≠ 0
      · rw [come_2 h h2]; rfl
      · by_cases h3 : ((p.kept ++ [t]).length : Int) ≤ p.most
        · rw [come_3 h h2 h3]; rfl
        · rw [come_4 rfl h h2 h3]; rfl
    rw [hl]
    exact ⟨fun e => by rw [e] at hl; exact absurd hl hne, fun e => absurd e.symm hne⟩
theorem new_ne (e m e' m' : Int) (h : e ≠ e' ∨ m ≠ m') : (⟨e, m, [], 0, 0, false⟩ : Pt) ≠ ⟨e', m', [], 0, 0, false⟩ := by
  intro x; simp at x; omega
set_option maxHeartbeats 2000000 in
theorem copies_ok (hs : Sees q a (l.map I)) (hr : ∀ x ∈ l, -9223372036854775808 ≤ x ∧ x ≤ 9223372036854775807) (ht : -9223372036854775808 ≤ t ∧ t ≤ 9223372036854775807) : CallF Try.prog G 8 [.int .i64 every, .int .i64 most, .slice a l.length c, .int .i64 t] q (Ret fun v q' => v = .bool true ∧ q' = q) := by
  refine CallF.of Try.func8 Try.ntmps8 rfl (fun F cs => ?_)
  refine X.sub (p' := [(0, _), (1, _), (2, _), (3, _)]) ⟨rfl, rfl, rfl, rfl, trivial⟩ ?_
  refine X.seq ?_
  refine X.region ?_
  refine XO.pu (Pu.assign rfl) ?_
  refine XO.nil ?_
  refine X.sub (p' := [(8, _), (0, _), (1, _), (2, _), (3, _)]) ⟨rfl, rfl, rfl, rfl, rfl, trivial⟩ ?_
  refine X.seq ?_
  refine X.seq ?_
  refine X.region ?_
  refine XO.pu (Pu.move rfl) ?_
  refine XO.pu (Pu.move rfl) ?_
  refine XO.pu (Pu.move rfl) ?_
  refine XO.callF Try.call10 (small_ok) rfl (by repeat (first | exact Le.refl _ | refine Le.pick (by repeat first | exact Le.here _ _ | apply Le.there) ?_ | refine Le.lose ?_)) ?_
  rintro _ _ ⟨rfl, rfl⟩ q_ hq_
  simp only [List.cons_append, List.nil_append] at hq_; subst hq_
  refine XO.pu (Pu.not rfl) ?_
  refine XO.nil ?_
  refine X.sub (p' := [(28, _), (8, _), (0, _), (1, _), (2, _), (3, _)]) ⟨rfl, rfl, rfl, rfl, rfl, rfl, trivial⟩ ?_
  refine X.cond rfl (fun h => ?_) (fun h => ?_)
  · skip
    refine X.seq ?_
    refine X.region ?_
    refine XO.callF Try.call11 (works_ok) rfl (by repeat (first | exact Le.refl _ | refine Le.pick (by repeat first | exact Le.here _ _ | apply Le.there) ?_ | refine Le.lose ?_)) ?_
    rintro _ _ ⟨rfl, rfl⟩ q_ hq_
    simp only [List.cons_append, List.nil_append] at hq_; subst hq_
    refine XO.pu (Pu.assign rfl) ?_
    refine XO.nil ?_
    refine X.sub (p' := [(8, _), (0, _), (1, _), (2, _), (3, _)]) ⟨rfl, rfl, rfl, rfl, rfl, trivial⟩ ?_
    refine X.ret ⟨rfl, Lv.ret (q' := q) Try.func8 (res1 Try.results8 rfl) ⟨_, rfl, rfl, rfl⟩ (by repeat (first | exact Le.refl _ | refine Le.pick (by repeat first | exact Le.here _ _ | apply Le.there) ?_ | refine Le.lose ?_))⟩
  · skip
    have h : 1 ≤ every ∧ every ≤ 1073741824 ∧ 2 ≤ most ∧ most ≤ 4096 ∧ l.length ≤ 200 := by simpa using h
    obtain ⟨h1, h2, h3, h4, h5⟩ := h
    refine X.skip ?_
    refine X.seq ?_
    refine X.region ?_
    refine XO.pu (Pu.move rfl) ?_
    refine XO.pu (Pu.move rfl) ?_
    refine XO.pu (Pu.move rfl) ?_
    refine XO.callF Try.call12 (played_ok (q := q) (a := a) (c := c) h1 h2 h3 h4 hs (by omega) hr) rfl (by repeat (first | exact Le.refl _ | refine Le.pick (by repeat first | exact Le.here _ _ | apply Le.there) ?_ | refine Le.lose ?_)) ?_
    rintro _ _ ⟨b, a2, c2, rfl, rfl⟩ q_ hq_
    simp only [List.cons_append, List.nil_append] at hq_; subst hq_
    have hg := plays_good (every := every) (most := most) h1 h2 h3 h4 l
    refine XO.pu (Pu.move rfl) ?_
    refine XO.pu (Pu.extract rfl rfl) ?_
    refine XO.pu (Pu.extract rfl rfl) ?_
    refine XO.pu (Pu.extract rfl rfl) ?_
    refine XO.ef (Ef.alloc Try.zeroValue27) ?_
    rintro _ _ ⟨n5, rfl, rfl⟩
    refine XO.pu (Pu.assign rfl) ?_
    refine XO.ef0 (Ef.storeA rfl rfl Try.sizeOf27 rfl rfl (by repeat first | exact Le.here _ _ | apply Le.there) rfl) ?_
    rintro _ _ ⟨rfl, rfl⟩
    refine XO.pu (Pu.assign rfl) ?_
    refine XO.nil ?_
    refine X.sub (p' := [(11, _), (9, _), (10, _), (8, _), (3, _)]) ⟨rfl, rfl, rfl, rfl, rfl, trivial⟩ ?_
    refine X.seq ?_
    refine X.region ?_
    refine XO.pu (Pu.move rfl) ?_
    generalize plays every most l = p at hg ⊢
    refine XO.callF Try.call24 (Copy_ok (p := p) (b := b) hg.ok) rfl (by repeat (first | exact Le.refl _ | refine Le.pick (by repeat first | exact Le.here _ _ | apply Le.there) ?_ | refine Le.lose ?_)) ?_
    rintro _ _ ⟨b2, rfl, rfl⟩ q_ hq_
    simp only [List.cons_append, List.nil_append] at hq_; subst hq_
    refine XO.pu (Pu.assign rfl) ?_
    refine XO.nil ?_
    refine X.sub (p' := [(12, _), (11, _), (9, _), (10, _), (8, _), (3, _)]) ⟨rfl, rfl, rfl, rfl, rfl, rfl, trivial⟩ ?_
    refine X.seq ?_
    refine X.seq ?_
    refine X.region ?_
    refine XO.pu (Pu.move rfl) ?_
    refine XO.pu (Pu.not rfl) ?_
    refine XO.pu (Pu.move rfl) ?_
    refine XO.know 42 (.bool false) rfl (congrArg Value.bool (rfl)) ?_
    refine XO.pu (Pu.move rfl) ?_
    refine XO.pu (Pu.move rfl) ?_
    refine XO.callF Try.call25 (Same_ok (p := p) (p2 := p) (b := b) (b2 := b2) hg.ok hg.ok) rfl (by repeat (first | exact Le.refl _ | refine Le.pick (by repeat first | exact Le.here _ _ | apply Le.there) ?_ | refine Le.lose ?_)) ?_
    rintro _ _ ⟨r, rfl, hr1, rfl⟩ q_ hq_
    simp only [List.cons_append, List.nil_append] at hq_; subst hq_
    obtain rfl : r = true := hr1.2 rfl
    refine XO.pu (Pu.not rfl) ?_
    refine XO.pu (Pu.pickF rfl rfl) ?_
    refine XO.nil ?_
    refine X.sub (p' := [(47, _), (12, _), (9, _), (10, _), (8, _), (3, _)]) ⟨rfl, rfl, rfl, rfl, rfl, rfl, trivial⟩ ?_
    refine X.condF rfl ?_
    refine X.skip ?_
    refine X.seq ?_
    refine X.region ?_
    refine XO.pu (Pu.move rfl) ?_
    refine XO.rd (Rd.loadA rfl Try.isAgg27 Try.sizeOf27 (by repeat first | exact Has.pto _ _ _ | exact Has.im _ _ _ | refine Has.there ?_) (by rfl)) ?_
    refine XO.pu (Pu.move rfl) ?_
    refine XO.callF Try.call13 (come_ok (p := p) (b := b) (a := a2) (c := c2) (t := t) hg ht) rfl (by repeat (first | exact Le.refl _ | refine Le.pick (by repeat first | exact Le.here _ _ | apply Le.there) ?_ | refine Le.lose ?_)) ?_
    rintro _ _ ⟨a3, c3, rfl, rfl⟩ q_ hq_
    simp only [List.cons_append, List.nil_append] at hq_; subst hq_
    have hg2 := hg.step t
    have hrl := come_rl hg t
    generalize (p.come t).1 = p2 at hg2 hrl ⊢
    refine XO.pu (Pu.move rfl) ?_
    refine XO.pu (Pu.extract rfl rfl) ?_
    refine XO.pu (Pu.extract rfl rfl) ?_
    refine XO.ef (Ef.alloc Try.zeroValue27) ?_
    rintro _ _ ⟨n6, rfl, rfl⟩
    refine XO.ef0 (Ef.storeA rfl rfl Try.sizeOf27 rfl rfl (by repeat first | exact Le.here _ _ | apply Le.there) rfl) ?_
    rintro _ _ ⟨rfl, rfl⟩
    refine XO.pu (Pu.assign rfl) ?_
    refine XO.nil ?_
    refine X.sub (p' := [(14, _), (13, _), (12, _), (9, _), (10, _), (8, _)]) ⟨rfl, rfl, rfl, rfl, rfl, rfl, trivial⟩ ?_
    refine X.seq ?_
    refine X.region ?_
    refine XO.pu (Pu.move rfl) ?_
    refine XO.callF Try.call18 (All_ok (p := p) (b := b2) hg.ok) rfl (by repeat (first | exact Le.refl _ | refine Le.pick (by repeat first | exact Le.here _ _ | apply Le.there) ?_ | refine Le.lose ?_)) ?_
    rintro _ _ ⟨a4, c4, rfl, rfl⟩ q_ hq_
    simp only [List.cons_append, List.nil_append] at hq_; subst hq_
    refine XO.pu (Pu.assign rfl) ?_
    refine XO.nil ?_
    refine X.sub (p' := [(15, _), (14, _), (13, _), (12, _), (9, _), (10, _), (8, _)]) ⟨rfl, rfl, rfl, rfl, rfl, rfl, rfl, trivial⟩ ?_
    refine X.seq ?_
    refine X.seq ?_
    refine X.region ?_
    refine XO.pu (Pu.assign rfl) ?_
    refine XO.nil ?_
    refine X.sub (p' := [(16, _), (15, _), (14, _), (13, _), (12, _), (9, _), (10, _), (8, _)]) ⟨rfl, rfl, rfl, rfl, rfl, rfl, rfl, rfl, trivial⟩ ?_
    refine X.block ?_
    have hkl := hg.ok.k1; have hm2 := hg.ok.m2
    refine X.at (X.loop (fun (s : Nat × List Int) => s.1 ≤ p.kept.length ∧ s.2.length = p.kept.length) (fun s => [(16, .int .i64 (s.1 : Int)), (15, .slice a4 p.kept.length c4), (14, .bool true), (13, .pointer (some ⟨n6, 0, none⟩)), (12, .pointer (some ⟨b2, 0, none⟩)), (9, .pointer (some ⟨b, 0, none⟩)), (10, .pointer (some ⟨n5, 0, none⟩))]) (fun s => lsH I 3 a4 c4 s.2 :: PtH b p2 :: PtH b2 p :: pto n5 (.cells (refC p a2 c2).toArray 27 (0, 0)) :: pto n6 (.cells (refC p2 a3 c3).toArray 27 (0, 0)) :: lsM I 3 a2 c2 p.kept :: lsM I 3 a3 c3 p2.kept :: (q ++ F)) (fun s => p.kept.length - s.1) (fun s hi_ ih => ?_) (0, p.kept) ⟨by simp, by simp⟩) ⟨(by first | rfl | exact congrArg some (congrArg (Value.int _) (by omega))), (by first | rfl | exact congrArg some (congrArg (Value.int _) (by omega))), (by first | rfl | exact congrArg some (congrArg (Value.int _) (by omega))), (by first | rfl | exact congrArg some (congrArg (Value.int _) (by omega))), (by first | rfl | exact congrArg some (congrArg (Value.int _) (by omega))), (by first | rfl | exact congrArg some (congrArg (Value.int _) (by omega))), (by first | rfl | exact congrArg some (congrArg (Value.int _) (by omega))), trivial⟩ (by repeat (first | exact Le.refl _ | refine Le.pick (by repeat first | exact Le.here _ _ | apply Le.there) ?_ | refine Le.lose ?_))
    try dsimp only at hi_ ih ⊢
    obtain ⟨hi1, hi2⟩ := hi_
    obtain ⟨s, l2⟩ := s
    dsimp only at *
    refine X.seq ?_
    refine X.seq ?_
    refine X.region ?_
    refine XO.pu (Pu.move rfl) ?_
    refine XO.pu (Pu.move rfl) ?_
    refine XO.pu (Pu.len rfl Try.underlying22) ?_
    refine XO.pu (Pu.lss rfl rfl) ?_
    refine XO.nil ?_
    refine X.sub (p' := [(60, _), (16, _), (15, _), (14, _), (13, _), (12, _), (9, _), (10, _)]) ⟨rfl, rfl, rfl, rfl, rfl, rfl, rfl, rfl, trivial⟩ ?_
    refine X.cond rfl (fun h6 => ?_) (fun h6 => ?_)
    · skip
      have h6 : s < p.kept.length := by have := of_decide_eq_true h6; omega
      refine X.fact (fun w s => s.lsAddr (by omega)) (fun hadd => ?_)
      obtain ⟨g4, rfl⟩ := hadd
      refine X.skip ?_
      refine X.seq ?_
      refine X.block ?_
      refine X.region ?_
      refine XO.pu (Pu.move rfl) ?_
      refine XO.pu (Pu.move rfl) ?_
      refine XO.pu (Pu.indexAddr rfl rfl Try.underlying22 Try.sizeOf3 (by omega) (by omega)) ?_
      refine XO.ef0 (Ef.setL (f := I) (l := l2) (u := -9) (n := s) (j := (s : Int)) rfl rfl Try.sizeOf3 rfl (by omega) rfl rfl (by repeat first | exact Le.here _ _ | apply Le.there)) ?_
      rintro _ _ ⟨rfl, rfl⟩
      refine XO.nil ?_
      refine X.sub (p' := [(16, _), (15, _), (14, _), (13, _), (12, _), (9, _), (10, _)]) ⟨rfl, rfl, rfl, rfl, rfl, rfl, rfl, trivial⟩ ?_
      refine X.inBlock ?_
      refine X.region ?_
      refine XO.pu (Pu.move rfl) ?_
      refine XO.pu (Pu.add rfl rfl (by omega) (by omega)) ?_
      refine XO.pu (Pu.assign rfl) ?_
      refine XO.nil ?_
      refine X.sub (p' := [(16, _), (15, _), (14, _), (13, _), (12, _), (9, _), (10, _)]) ⟨rfl, rfl, rfl, rfl, rfl, rfl, rfl, trivial⟩ ?_
      refine X.at (ih (s + 1, l2.set s (-9)) ⟨by dsimp only; omega, by simp [hi2]⟩ (by dsimp only; omega)) ⟨(by first | rfl | exact congrArg some (congrArg (Value.int _) (by omega))), (by first | rfl | exact congrArg some (congrArg (Value.int _) (by omega))), (by first | rfl | exact congrArg some (congrArg (Value.int _) (by omega))), (by first | rfl | exact congrArg some (congrArg (Value.int _) (by omega))), (by first | rfl | exact congrArg some (congrArg (Value.int _) (by omega))), (by first | rfl | exact congrArg some (congrArg (Value.int _) (by omega))), (by first | rfl | exact congrArg some (congrArg (Value.int _) (by omega))), trivial⟩ (by repeat (first | exact Le.refl _ | refine Le.pick (by repeat first | exact Le.here _ _ | apply Le.there) ?_ | refine Le.lose ?_))
    · skip
      refine X.exit rfl ?_
      refine X.seq ?_
      refine X.region ?_
      refine XO.pu (Pu.fieldAddr 3 4 0 rfl Try.underlying27 rfl Try.sizeOf3) ?_
      refine XO.rd (Rd.load rfl Try.isAgg3 (Cl.of (by repeat first | exact Has.pto _ _ _ | exact Has.im _ _ _ | refine Has.there ?_) (by rfl))) ?_
      refine XO.pu (Pu.fieldAddr 3 4 0 rfl Try.underlying27 rfl Try.sizeOf3) ?_
      refine XO.rd (Rd.load rfl Try.isAgg3 (Cl.of (by repeat first | exact Has.pto _ _ _ | exact Has.im _ _ _ | refine Has.there ?_) (by rfl))) ?_
      refine XO.pu (Pu.eql rfl rfl) ?_
      refine XO.pu (Pu.assign rfl) ?_
      refine XO.nil ?_
      refine X.sub (p' := [(17, _), (14, _), (13, _), (12, _), (9, _), (10, _)]) ⟨rfl, rfl, rfl, rfl, rfl, rfl, trivial⟩ ?_
      refine X.seq ?_
      refine X.region ?_
      refine XO.callF Try.call16 (New_yes (every := 1) (most := 2) (by omega) (by omega) (by omega) (by omega)) rfl (by repeat (first | exact Le.refl _ | refine Le.pick (by repeat first | exact Le.here _ _ | apply Le.there) ?_ | refine Le.lose ?_)) ?_
      rintro _ _ ⟨x1, rfl, rfl⟩ q_ hq_
      simp only [List.cons_append, List.nil_append] at hq_; subst hq_
      refine XO.pu (Pu.move rfl) ?_
      refine XO.pu (Pu.extract rfl rfl) ?_
      refine XO.pu (Pu.extract rfl rfl) ?_
      refine XO.pu (Pu.assign rfl) ?_
      refine XO.pu (Pu.assign rfl) ?_
      refine XO.nil ?_
      refine X.sub (p' := [(18, _), (17, _), (14, _), (13, _), (12, _), (9, _), (10, _)]) ⟨rfl, rfl, rfl, rfl, rfl, rfl, rfl, trivial⟩ ?_
      refine X.seq ?_
      refine X.region ?_
      refine XO.callF Try.call16 (New_yes (every := 2) (most := 2) (by omega) (by omega) (by omega) (by omega)) rfl (by repeat (first | exact Le.refl _ | refine Le.pick (by repeat first | exact Le.here _ _ | apply Le.there) ?_ | refine Le.lose ?_)) ?_
      rintro _ _ ⟨x2, rfl, rfl⟩ q_ hq_
      simp only [List.cons_append, List.nil_append] at hq_; subst hq_
      refine XO.pu (Pu.move rfl) ?_
      refine XO.pu (Pu.extract rfl rfl) ?_
      refine XO.pu (Pu.extract rfl rfl) ?_
      refine XO.pu (Pu.assign rfl) ?_
      refine XO.pu (Pu.assign rfl) ?_
      refine XO.nil ?_
      refine X.sub (p' := [(20, _), (18, _), (17, _), (14, _), (13, _), (12, _), (9, _), (10, _)]) ⟨rfl, rfl, rfl, rfl, rfl, rfl, rfl, rfl, trivial⟩ ?_
      refine X.seq ?_
      refine X.region ?_
      refine XO.callF Try.call16 (New_yes (every := 1) (most := 3) (by omega) (by omega) (by omega) (by omega)) rfl (by repeat (first | exact Le.refl _ | refine Le.pick (by repeat first | exact Le.here _ _ | apply Le.there) ?_ | refine Le.lose ?_)) ?_
      rintro _ _ ⟨x3, rfl, rfl⟩ q_ hq_
      simp only [List.cons_append, List.nil_append] at hq_; subst hq_
      refine XO.pu (Pu.move rfl) ?_
      refine XO.pu (Pu.extract rfl rfl) ?_
      refine XO.pu (Pu.extract rfl rfl) ?_
      refine XO.pu (Pu.assign rfl) ?_
      refine XO.pu (Pu.assign rfl) ?_
      refine XO.nil ?_
      refine X.sub (p' := [(22, _), (20, _), (18, _), (17, _), (14, _), (13, _), (12, _), (9, _), (10, _)]) ⟨rfl, rfl, rfl, rfl, rfl, rfl, rfl, rfl, rfl, trivial⟩ ?_
      refine X.seq ?_
      refine X.region ?_
      refine XO.pu (Pu.move rfl) ?_
      refine XO.pu (Pu.move rfl) ?_
      refine XO.know 84 (.bool true) rfl (congrArg Value.bool (rfl)) ?_
      refine XO.pu (Pu.move rfl) ?_
      refine XO.rd (Rd.loadA rfl Try.isAgg27 Try.sizeOf27 (by repeat first | exact Has.pto _ _ _ | exact Has.im _ _ _ | refine Has.there ?_) (by rfl)) ?_
      refine XO.callF Try.call14 (is_ok (p := p) (b := b2) (a := a2) (c := c2) hg) rfl (by repeat (first | exact Le.refl _ | refine Le.pick (by repeat first | exact Le.here _ _ | apply Le.there) ?_ | refine Le.lose ?_)) ?_
      rintro _ _ ⟨rfl, rfl⟩ q_ hq_
      simp only [List.cons_append, List.nil_append] at hq_; subst hq_
      refine XO.pu (Pu.pickT rfl rfl) ?_
      refine XO.pu (Pu.move rfl) ?_
      refine XO.pu (Pu.move rfl) ?_
      refine XO.rd (Rd.loadA rfl Try.isAgg27 Try.sizeOf27 (by repeat first | exact Has.pto _ _ _ | exact Has.im _ _ _ | refine Has.there ?_) (by rfl)) ?_
      refine XO.callF Try.call14 (is_ok (p := p2) (b := b) (a := a3) (c := c3) hg2) rfl (by repeat (first | exact Le.refl _ | refine Le.pick (by repeat first | exact Le.here _ _ | apply Le.there) ?_ | refine Le.lose ?_)) ?_
      rintro _ _ ⟨rfl, rfl⟩ q_ hq_
      simp only [List.cons_append, List.nil_append] at hq_; subst hq_
      refine XO.pu (Pu.pickT rfl rfl) ?_
      refine XO.pu (Pu.move rfl) ?_
      refine XO.pu (Pu.move rfl) ?_
      refine XO.pu (Pu.move rfl) ?_
      refine XO.callF Try.call25 (Same_ok (p := p2) (p2 := p) (b := b) (b2 := b2) hg2.ok hg.ok) rfl (by repeat (first | exact Le.refl _ | refine Le.pick (by repeat first | exact Le.here _ _ | apply Le.there) ?_ | refine Le.lose ?_)) ?_
      rintro _ _ ⟨r1, rfl, hr1, rfl⟩ q_ hq_
      simp only [List.cons_append, List.nil_append] at hq_; subst hq_
      refine XO.pu (Pu.move rfl) ?_
      refine XO.pu (Pu.eqlB rfl rfl Try.underlying4) ?_
      refine XO.pu (Pu.pickT rfl rfl) ?_
      refine XO.pu (Pu.move rfl) ?_
      refine XO.know 101 (.bool true) rfl (congrArg Value.bool (by rw [hrl] at hr1; cases r1; simp at hr1 ⊢; exact hr1; simp at hr1 ⊢; exact hr1)) ?_
      refine XO.pu (Pu.move rfl) ?_
      refine XO.pu (Pu.move rfl) ?_
      refine XO.callF Try.call25 (Same_ok (p := p) (p2 := p2) (b := b2) (b2 := b) hg.ok hg2.ok) rfl (by repeat (first | exact Le.refl _ | refine Le.pick (by repeat first | exact Le.here _ _ | apply Le.there) ?_ | refine Le.lose ?_)) ?_
      rintro _ _ ⟨r2, rfl, hr2, rfl⟩ q_ hq_
      simp only [List.cons_append, List.nil_append] at hq_; subst hq_
      refine XO.pu (Pu.move rfl) ?_
      refine XO.pu (Pu.eqlB rfl rfl Try.underlying4) ?_
      refine XO.pu (Pu.pickT rfl rfl) ?_
      refine XO.pu (Pu.move rfl) ?_
      refine XO.know 108 (.bool true) rfl (congrArg Value.bool (by rw [@eq_comm _ p p2, hrl] at hr2; cases r2; simp at hr2 ⊢; exact hr2; simp at hr2 ⊢; exact hr2)) ?_
      refine XO.pu (Pu.move rfl) ?_
      refine XO.pu (Pu.move rfl) ?_
      refine XO.callF Try.call25 (Same_ok (p := ⟨1, 2, [], 0, 0, false⟩) (p2 := ⟨2, 2, [], 0, 0, false⟩) (b := x1) (b2 := x2) (Good.new (every := 1) (most := 2) (by omega) (by omega) (by omega) (by omega)).ok (Good.new (every := 2) (most := 2) (by omega) (by omega) (by omega) (by omega)).ok) rfl (by repeat (first | exact Le.refl _ | refine Le.pick (by repeat first | exact Le.here _ _ | apply Le.there) ?_ | refine Le.lose ?_)) ?_
      rintro _ _ ⟨r3, rfl, hr3, rfl⟩ q_ hq_
      simp only [List.cons_append, List.nil_append] at hq_; subst hq_
      obtain rfl : r3 = false := by cases r3; rfl; exact absurd (hr3.1 rfl) (new_ne _ _ _ _ (by omega))
      refine XO.pu (Pu.not rfl) ?_
      refine XO.pu (Pu.pickT rfl rfl) ?_
      refine XO.pu (Pu.move rfl) ?_
      refine XO.know 114 (.bool true) rfl (congrArg Value.bool (rfl)) ?_
      refine XO.pu (Pu.move rfl) ?_
      refine XO.pu (Pu.move rfl) ?_
      refine XO.callF Try.call25 (Same_ok (p := ⟨1, 2, [], 0, 0, false⟩) (p2 := ⟨1, 3, [], 0, 0, false⟩) (b := x1) (b2 := x3) (Good.new (every := 1) (most := 2) (by omega) (by omega) (by omega) (by omega)).ok (Good.new (every := 1) (most := 3) (by omega) (by omega) (by omega) (by omega)).ok) rfl (by repeat (first | exact Le.refl _ | refine Le.pick (by repeat first | exact Le.here _ _ | apply Le.there) ?_ | refine Le.lose ?_)) ?_
      rintro _ _ ⟨r4, rfl, hr4, rfl⟩ q_ hq_
      simp only [List.cons_append, List.nil_append] at hq_; subst hq_
      obtain rfl : r4 = false := by cases r4; rfl; exact absurd (hr4.1 rfl) (new_ne _ _ _ _ (by omega))
      refine XO.pu (Pu.not rfl) ?_
      refine XO.pu (Pu.pickT rfl rfl) ?_
      refine XO.pu (Pu.move rfl) ?_
      refine XO.know 120 (.bool true) rfl (congrArg Value.bool (rfl)) ?_
      refine XO.callF Try.call11 (works_ok) rfl (by repeat (first | exact Le.refl _ | refine Le.pick (by repeat first | exact Le.here _ _ | apply Le.there) ?_ | refine Le.lose ?_)) ?_
      rintro _ _ ⟨rfl, rfl⟩ q_ hq_
      simp only [List.cons_append, List.nil_append] at hq_; subst hq_
      refine XO.pu (Pu.pickT rfl rfl) ?_
      refine XO.pu (Pu.assign rfl) ?_
      refine XO.nil ?_
      refine X.sub (p' := [(8, _)]) ⟨rfl, trivial⟩ ?_
      refine X.ret ⟨rfl, Lv.ret (q' := q) Try.func8 (res1 Try.results8 rfl) ⟨_, rfl, rfl, rfl⟩ (by repeat (first | exact Le.refl _ | refine Le.pick (by repeat first | exact Le.here _ _ | apply Le.there) ?_ | refine Le.lose ?_))⟩
/-- Played at 0, 1, .. -/
def runs (every most : Int) : Nat → Pt
  | 0 => ⟨every, most, [], 0, 0, false⟩
  | n + 1 => ((runs every most n).come n).1
theorem runs_good {every most : Int} (h1 : 1 ≤ every) (h2 : every ≤ 1073741824) (h3 : 2 ≤ most) (h4 : most ≤ 4096) (n : Nat) : (runs every most n).Good := by
  induction n with
  | zero => exact Good.new h1 h2 h3 h4
  | succ n ih => exact ih.step n
theorem runs_ok  : CallF Try.prog G 4 [.int .i64 every, .int .i64 most, .int .i64 t] q (Ret fun v q' => v = .bool true ∧ q' = q) := by
  refine CallF.of Try.func4 Try.ntmps4 rfl (fun F cs => ?_)
  refine X.sub (p' := [(0, _), (1, _), (2, _)]) ⟨rfl, rfl, rfl, trivial⟩ ?_
  refine X.seq ?_
  refine X.region ?_
  refine XO.pu (Pu.assign rfl) ?_
  refine XO.nil ?_
  refine X.sub (p' := [(6, _), (0, _), (1, _), (2, _)]) ⟨rfl, rfl, rfl, rfl, trivial⟩ ?_
  refine X.seq ?_
  refine X.seq ?_
  refine X.region ?_
  refine XO.pu (Pu.move rfl) ?_
  refine XO.pu (Pu.move rfl) ?_
  refine XO.callF Try.call10 (small_ok (n := 0)) rfl (by repeat (first | exact Le.refl _ | refine Le.pick (by repeat first | exact Le.here _ _ | apply Le.there) ?_ | refine Le.lose ?_)) ?_
  rintro _ _ ⟨rfl, rfl⟩ q_ hq_
  simp only [List.cons_append, List.nil_append] at hq_; subst hq_
  refine XO.pu (Pu.not rfl) ?_
  refine XO.pu (Pu.move rfl) ?_
  refine XO.part 15 rfl (fun g0 => ?_) (fun g0 => ?_)
  · skip
    refine XO.pass rfl ?_
    refine XO.pass rfl ?_
    refine XO.pu (Pu.pickT rfl rfl) ?_
    refine XO.pu (Pu.move rfl) ?_
    refine XO.pass rfl ?_
    refine XO.pass rfl ?_
    refine XO.pu (Pu.pickT rfl rfl) ?_
    refine XO.nil ?_
    refine X.sub (p' := [(22, _), (6, _), (0, _), (1, _), (2, _)]) ⟨rfl, rfl, rfl, rfl, rfl, trivial⟩ ?_
    refine X.condT rfl ?_
    refine X.seq ?_
    refine X.region ?_
    refine XO.callF Try.call11 (works_ok) rfl (by repeat (first | exact Le.refl _ | refine Le.pick (by repeat first | exact Le.here _ _ | apply Le.there) ?_ | refine Le.lose ?_)) ?_
    rintro _ _ ⟨rfl, rfl⟩ q_ hq_
    simp only [List.cons_append, List.nil_append] at hq_; subst hq_
    refine XO.pu (Pu.assign rfl) ?_
    refine XO.nil ?_
    refine X.sub (p' := [(6, _), (0, _), (1, _), (2, _)]) ⟨rfl, rfl, rfl, rfl, trivial⟩ ?_
    refine X.ret ⟨rfl, Lv.ret (q' := q) Try.func4 (res1 Try.results4 rfl) ⟨_, rfl, rfl, rfl⟩ (by repeat (first | exact Le.refl _ | refine Le.pick (by repeat first | exact Le.here _ _ | apply Le.there) ?_ | refine Le.lose ?_))⟩
  · skip
    refine XO.pu (Pu.move rfl) ?_
    refine XO.pu (Pu.lss rfl rfl) ?_
    refine XO.pu (Pu.pickF rfl rfl) ?_
    refine XO.pu (Pu.move rfl) ?_
    refine XO.part 19 rfl (fun g1 => ?_) (fun g1 => ?_)
    · skip
      refine XO.pass rfl ?_
      refine XO.pass rfl ?_
      refine XO.pu (Pu.pickT rfl rfl) ?_
      refine XO.nil ?_
      refine X.sub (p' := [(22, _), (6, _), (0, _), (1, _), (2, _)]) ⟨rfl, rfl, rfl, rfl, rfl, trivial⟩ ?_
      refine X.condT rfl ?_
      refine X.seq ?_
      refine X.region ?_
      refine XO.callF Try.call11 (works_ok) rfl (by repeat (first | exact Le.refl _ | refine Le.pick (by repeat first | exact Le.here _ _ | apply Le.there) ?_ | refine Le.lose ?_)) ?_
      rintro _ _ ⟨rfl, rfl⟩ q_ hq_
      simp only [List.cons_append, List.nil_append] at hq_; subst hq_
      refine XO.pu (Pu.assign rfl) ?_
      refine XO.nil ?_
      refine X.sub (p' := [(6, _), (0, _), (1, _), (2, _)]) ⟨rfl, rfl, rfl, rfl, trivial⟩ ?_
      refine X.ret ⟨rfl, Lv.ret (q' := q) Try.func4 (res1 Try.results4 rfl) ⟨_, rfl, rfl, rfl⟩ (by repeat (first | exact Le.refl _ | refine Le.pick (by repeat first | exact Le.here _ _ | apply Le.there) ?_ | refine Le.lose ?_))⟩
    · skip
      refine XO.pu (Pu.move rfl) ?_
      refine XO.pu (Pu.gtr rfl rfl) ?_
      refine XO.pu (Pu.pickF rfl rfl) ?_
      refine XO.nil ?_
      refine X.sub (p' := [(22, _), (6, _), (0, _), (1, _), (2, _)]) ⟨rfl, rfl, rfl, rfl, rfl, trivial⟩ ?_
      refine X.cond rfl (fun gz => ?_) (fun gz => ?_)
      · skip
        refine X.seq ?_
        refine X.region ?_
        refine XO.callF Try.call11 (works_ok) rfl (by repeat (first | exact Le.refl _ | refine Le.pick (by repeat first | exact Le.here _ _ | apply Le.there) ?_ | refine Le.lose ?_)) ?_
        rintro _ _ ⟨rfl, rfl⟩ q_ hq_
        simp only [List.cons_append, List.nil_append] at hq_; subst hq_
        refine XO.pu (Pu.assign rfl) ?_
        refine XO.nil ?_
        refine X.sub (p' := [(6, _), (0, _), (1, _), (2, _)]) ⟨rfl, rfl, rfl, rfl, trivial⟩ ?_
        refine X.ret ⟨rfl, Lv.ret (q' := q) Try.func4 (res1 Try.results4 rfl) ⟨_, rfl, rfl, rfl⟩ (by repeat (first | exact Le.refl _ | refine Le.pick (by repeat first | exact Le.here _ _ | apply Le.there) ?_ | refine Le.lose ?_))⟩
      · skip
        have g0 : 1 ≤ every ∧ every ≤ 1073741824 ∧ 2 ≤ most ∧ most ≤ 4096 ∧ 0 ≤ 200 := by simpa using g0
        obtain ⟨h1, h2, h3, h4, _⟩ := g0
        have g1 := of_decide_eq_false g1
        have gz := of_decide_eq_false gz
        refine X.skip ?_
        refine X.seq ?_
        refine X.region ?_
        refine XO.pu (Pu.move rfl) ?_
        refine XO.pu (Pu.move rfl) ?_
        refine XO.callF Try.call12 (played_ok (q := []) (l := []) (a := none) (c := 0) h1 h2 h3 h4 (Sees.nil _ _) (by simp) (by simp)) rfl (by repeat (first | exact Le.refl _ | refine Le.pick (by repeat first | exact Le.here _ _ | apply Le.there) ?_ | refine Le.lose ?_)) ?_
        rintro _ _ ⟨b, a2, c2, rfl, rfl⟩ q_ hq_
        simp only [List.cons_append, List.nil_append] at hq_; subst hq_
        refine XO.pu (Pu.move rfl) ?_
        refine XO.pu (Pu.extract rfl rfl) ?_
        refine XO.pu (Pu.extract rfl rfl) ?_
        refine XO.pu (Pu.extract rfl rfl) ?_
        refine XO.ef (Ef.alloc Try.zeroValue27) ?_
        rintro _ _ ⟨n7, rfl, rfl⟩
        refine XO.pu (Pu.assign rfl) ?_
        refine XO.ef0 (Ef.storeA rfl rfl Try.sizeOf27 rfl rfl (by repeat first | exact Le.here _ _ | apply Le.there) rfl) ?_
        rintro _ _ ⟨rfl, rfl⟩
        refine XO.pu (Pu.assign rfl) ?_
        refine XO.nil ?_
        refine X.sub (p' := [(9, _), (7, _), (8, _), (6, _), (2, _)]) ⟨rfl, rfl, rfl, rfl, rfl, trivial⟩ ?_
        refine X.seq ?_
        refine X.seq ?_
        refine X.region ?_
        refine XO.pu (Pu.assign rfl) ?_
        refine XO.nil ?_
        refine X.sub (p' := [(10, _), (9, _), (7, _), (8, _), (6, _), (2, _)]) ⟨rfl, rfl, rfl, rfl, rfl, rfl, trivial⟩ ?_
        refine X.block ?_
        refine X.at (X.loop (fun (s : Nat × Option Addr × Nat) => (s.1 : Int) ≤ t) (fun s => [(10, .int .i64 (s.1 : Int)), (9, .bool true), (8, .pointer (some ⟨n7, 0, none⟩)), (7, .pointer (some ⟨b, 0, none⟩)), (2, .int .i64 t)]) (fun s => PtH b (runs every most s.1) :: pto n7 (.cells (refC (runs every most s.1) s.2.1 s.2.2).toArray 27 (0, 0)) :: lsM I 3 s.2.1 s.2.2 (runs every most s.1).kept :: (q ++ F)) (fun s => t.toNat - s.1) (fun s hi_ ih => ?_) (0, a2, c2) (by dsimp only; omega)) ⟨(by first | rfl | exact congrArg some (congrArg (Value.int _) (by omega))), (by first | rfl | exact congrArg some (congrArg (Value.int _) (by omega))), (by first | rfl | exact congrArg some (congrArg (Value.int _) (by omega))), (by first | rfl | exact congrArg some (congrArg (Value.int _) (by omega))), (by first | rfl | exact congrArg some (congrArg (Value.int _) (by omega))), trivial⟩ (by repeat (first | exact Le.refl _ | refine Le.pick (by repeat first | exact Le.here _ _ | apply Le.there) ?_ | refine Le.lose ?_))
        try dsimp only at hi_ ih ⊢
        obtain hi := hi_
        obtain ⟨s, a3, c3⟩ := s
        dsimp only at *
        refine X.seq ?_
        refine X.seq ?_
        refine X.region ?_
        refine XO.pu (Pu.move rfl) ?_
        refine XO.pu (Pu.move rfl) ?_
        refine XO.pu (Pu.lss rfl rfl) ?_
        refine XO.pu (Pu.move rfl) ?_
        refine XO.part 34 rfl (fun h6 => ?_) (fun h6 => ?_)
        · skip
          have h6 := of_decide_eq_true h6
          refine XO.pu (Pu.move rfl) ?_
          refine XO.pu (Pu.pickT rfl rfl) ?_
          refine XO.nil ?_
          refine X.sub (p' := [(36, _), (10, _), (9, _), (8, _), (7, _), (2, _)]) ⟨rfl, rfl, rfl, rfl, rfl, rfl, trivial⟩ ?_
          refine X.condT rfl ?_
          refine X.skip ?_
          refine X.seq ?_
          refine X.block ?_
          refine X.region ?_
          refine XO.pu (Pu.move rfl) ?_
          refine XO.rd (Rd.loadA rfl Try.isAgg27 Try.sizeOf27 (by repeat first | exact Has.pto _ _ _ | exact Has.im _ _ _ | refine Has.there ?_) (by rfl)) ?_
          refine XO.pu (Pu.move rfl) ?_
          refine XO.callF Try.call13 (come_ok (p := runs every most s) (b := b) (a := a3) (c := c3) (t := s) (runs_good h1 h2 h3 h4 _) (by omega)) rfl (by repeat (first | exact Le.refl _ | refine Le.pick (by repeat first | exact Le.here _ _ | apply Le.there) ?_ | refine Le.lose ?_)) ?_
          rintro _ _ ⟨a4, c4, rfl, rfl⟩ q_ hq_
          simp only [List.cons_append, List.nil_append] at hq_; subst hq_
          refine XO.pu (Pu.move rfl) ?_
          refine XO.pu (Pu.extract rfl rfl) ?_
          refine XO.pu (Pu.extract rfl rfl) ?_
          refine XO.ef0 (Ef.storeA rfl rfl Try.sizeOf27 rfl rfl (by repeat first | exact Le.here _ _ | apply Le.there) rfl) ?_
          rintro _ _ ⟨rfl, rfl⟩
          refine XO.pu (Pu.assign rfl) ?_
          refine XO.nil ?_
          refine X.sub (p' := [(9, _), (10, _), (8, _), (7, _), (2, _)]) ⟨rfl, rfl, rfl, rfl, rfl, trivial⟩ ?_
          refine X.inBlock ?_
          refine X.region ?_
          refine XO.pu (Pu.move rfl) ?_
          refine XO.pu (Pu.add rfl rfl (by omega) (by omega)) ?_
          refine XO.pu (Pu.assign rfl) ?_
          refine XO.nil ?_
          refine X.sub (p' := [(10, _), (9, _), (8, _), (7, _), (2, _)]) ⟨rfl, rfl, rfl, rfl, rfl, trivial⟩ ?_
          refine X.at (ih (s + 1, a4, c4) (by dsimp only; omega) (by dsimp only; omega)) ⟨(by first | rfl | exact congrArg some (congrArg (Value.int _) (by omega))), (by first | rfl | exact congrArg some (congrArg (Value.int _) (by omega))), (by first | rfl | exact congrArg some (congrArg (Value.int _) (by omega))), (by first | rfl | exact congrArg some (congrArg (Value.int _) (by omega))), (by first | rfl | exact congrArg some (congrArg (Value.int _) (by omega))), trivial⟩ (by repeat (first | exact Le.refl _ | refine Le.pick (by repeat first | exact Le.here _ _ | apply Le.there) ?_ | refine Le.lose ?_))
        · skip
          refine XO.pass rfl ?_
          refine XO.pu (Pu.pickF rfl rfl) ?_
          refine XO.nil ?_
          refine X.sub (p' := [(36, _), (10, _), (9, _), (8, _), (7, _), (2, _)]) ⟨rfl, rfl, rfl, rfl, rfl, rfl, trivial⟩ ?_
          refine X.condF rfl ?_
          refine X.exit rfl ?_
          refine X.seq ?_
          refine X.region ?_
          refine XO.pu (Pu.move rfl) ?_
          refine XO.pu (Pu.move rfl) ?_
          refine XO.pu (Pu.move rfl) ?_
          refine XO.rd (Rd.loadA rfl Try.isAgg27 Try.sizeOf27 (by repeat first | exact Has.pto _ _ _ | exact Has.im _ _ _ | refine Has.there ?_) (by rfl)) ?_
          refine XO.know 47 (.bool true) rfl (congrArg Value.bool (rfl)) ?_
          refine XO.callF Try.call14 (is_ok (p := runs every most s) (b := b) (a := a3) (c := c3) (runs_good h1 h2 h3 h4 _)) rfl (by repeat (first | exact Le.refl _ | refine Le.pick (by repeat first | exact Le.here _ _ | apply Le.there) ?_ | refine Le.lose ?_)) ?_
          rintro _ _ ⟨rfl, rfl⟩ q_ hq_
          simp only [List.cons_append, List.nil_append] at hq_; subst hq_
          refine XO.pu (Pu.pickT rfl rfl) ?_
          refine XO.pu (Pu.move rfl) ?_
          refine XO.callF Try.call11 (works_ok) rfl (by repeat (first | exact Le.refl _ | refine Le.pick (by repeat first | exact Le.here _ _ | apply Le.there) ?_ | refine Le.lose ?_)) ?_
          rintro _ _ ⟨rfl, rfl⟩ q_ hq_
          simp only [List.cons_append, List.nil_append] at hq_; subst hq_
          refine XO.pu (Pu.pickT rfl rfl) ?_
          refine XO.pu (Pu.assign rfl) ?_
          refine XO.nil ?_
          refine X.sub (p' := [(6, _)]) ⟨rfl, trivial⟩ ?_
          refine X.ret ⟨rfl, Lv.ret (q' := q) Try.func4 (res1 Try.results4 rfl) ⟨_, rfl, rfl, rfl⟩ (by repeat (first | exact Le.refl _ | refine Le.pick (by repeat first | exact Le.here _ _ | apply Le.there) ?_ | refine Le.lose ?_))⟩
end
end Go.Proofs.Ytjfkkdohpfbilaa

