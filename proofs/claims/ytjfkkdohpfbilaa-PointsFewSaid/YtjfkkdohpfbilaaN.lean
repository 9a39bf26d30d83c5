/- What functions of package points, and of its laws, do: contracts of calls, proved by walking their code. -/
import Derived.Test.YtjfkkdohpfbilaaM
import Derived.KernelRfl
set_option maxRecDepth 100000
set_option linter.unusedVariables false
set_option linter.unusedSimpArgs false
namespace Go.Proofs.Ytjfkkdohpfbilaa
open Go Go.RowKit Wx

section
variable {G : World} {p p2 : Pt} {b b2 : Nat} {t : Int} {q : List HP} {a a' : Option Addr} {c c' : Nat} {l m : List Int} {every most : Int}
theorem Cl_le {q q' : List HP} {A : Addr} {v : Value} (h : Cl q' A v) (l : Le q q') : Cl q A v := fun G w s => h G w (s.le l)
theorem come_neg (p : Pt) : p.come (-1) = (p, false, 0, 2) := come_1 (.inl (by omega))
/-- Played at steps that the list names. -/
def goes (every most : Int) : List Int → Pt × Int
  | l => l.foldl (fun x h => ((x.1.come x.2).1, x.2 + every * max 1 (min 1000 h))) (⟨every, most, [], 0, 0, false⟩, 0)
theorem goes_step (every most : Int) {l : List Int} {s : Nat} (h : s < l.length) : goes every most (l.take (s + 1)) = (((goes every most (l.take s)).1.come (goes every most (l.take s)).2).1, (goes every most (l.take s)).2 + every * max 1 (min 1000 l[s])) := by
  unfold goes; rw [List.take_succ_eq_append_getElem h, List.foldl_append]; rfl
theorem goes_good {every most : Int} (h1 : 1 ≤ every) (h2 : every ≤ 1000) (h3 : 2 ≤ most) (h4 : most ≤ 4096) (l : List Int) : ∀ s, s ≤ l.length → (goes every most (l.take s)).1.Good ∧ 0 ≤ (goes every most (l.take s)).2 ∧ (goes every most (l.take s)).2 ≤ s * 1000000 := by
  intro s
  induction s with
  | zero => intro _; exact ⟨Good.new h1 (by omega) h3 h4, by simp [goes], by simp [goes]⟩
  | succ n ih =>
    intro hn
    obtain ⟨g, a, b⟩ := ih (by omega)
    rw [goes_step every most (by omega)]
    have hm : 1 ≤ max 1 (min 1000 l[n]) ∧ max 1 (min 1000 l[n]) ≤ 1000 := by omega
    have hp : every * max 1 (min 1000 l[n]) ≤ 1000 * 1000 := Int.mul_le_mul h2 hm.2 (by omega) (by omega)
    have hq : 0 ≤ every * max 1 (min 1000 l[n]) := Int.mul_nonneg (by omega) (by omega)
    exact ⟨g.step _, by dsimp only; omega, by dsimp only; omega⟩
set_option maxHeartbeats 1000000 in
theorem goes_ok (hs : Sees q a (l.map I)) (hr : ∀ x ∈ l, -9223372036854775808 ≤ x ∧ x ≤ 9223372036854775807) (hlm : l.length ≤ maxLen) : CallF Try.prog G 5 [.int .i64 every, .int .i64 most, .slice a l.length c] q (Ret fun v q' => v = .bool true ∧ q' = q) := by
  refine CallF.of Try.func5 Try.ntmps5 rfl (fun F cs => ?_)
  refine X.sub (p' := [(0, _), (1, _), (2, _)]) ⟨rfl, rfl, rfl, trivial⟩ ?_
  have hs' : Sees (q ++ F) a (l.map I) := hs.le (Le.app_left q F)
  refine X.seq ?_
  refine X.region ?_
  refine XO.pu (Pu.assign rfl) ?_
  refine XO.nil ?_
  refine X.sub (p' := [(6, _), (0, _), (1, _), (2, _)]) ⟨rfl, rfl, rfl, rfl, trivial⟩ ?_
  refine X.seq ?_
  refine X.seq ?_
  refine X.region ?_
  refine XO.pu (Pu.move rfl) ?_
  refine XO.pu (Pu.move rfl) ?_
  refine XO.callF Try.call10 (small_ok (n := 0)) rfl (by repeat (first | exact Le.refl _ | refine Le.pick (by repeat first | exact Le.here _ _ | apply Le.there) ?_ | refine Le.lose ?_)) ?_
  rintro _ _ ⟨rfl, rfl⟩ q_ hq_
  simp only [List.cons_append, List.nil_append] at hq_; subst hq_
  refine XO.pu (Pu.not rfl) ?_
  refine XO.pu (Pu.move rfl) ?_
  refine XO.part 20 rfl (fun g0 => ?_) (fun g0 => ?_)
  · skip
    refine XO.pass rfl ?_
    refine XO.pass rfl ?_
    refine XO.pu (Pu.pickT rfl rfl) ?_
    refine XO.pu (Pu.move rfl) ?_
    refine XO.pass rfl ?_
    refine XO.pass rfl ?_
    refine XO.pass rfl ?_
    refine XO.pu (Pu.pickT rfl rfl) ?_
    refine XO.nil ?_
    refine X.sub (p' := [(28, _), (6, _), (0, _), (1, _), (2, _)]) ⟨rfl, rfl, rfl, rfl, rfl, trivial⟩ ?_
    refine X.condT rfl ?_
    refine X.seq ?_
    refine X.region ?_
    refine XO.callF Try.call11 (works_ok) rfl (by repeat (first | exact Le.refl _ | refine Le.pick (by repeat first | exact Le.here _ _ | apply Le.there) ?_ | refine Le.lose ?_)) ?_
    rintro _ _ ⟨rfl, rfl⟩ q_ hq_
    simp only [List.cons_append, List.nil_append] at hq_; subst hq_
    refine XO.pu (Pu.assign rfl) ?_
    refine XO.nil ?_
    refine X.sub (p' := [(6, _), (0, _), (1, _), (2, _)]) ⟨rfl, rfl, rfl, rfl, trivial⟩ ?_
    refine X.ret ⟨rfl, Lv.ret (q' := q) Try.func5 (res1 Try.results5 rfl) ⟨_, rfl, rfl, rfl⟩ (by repeat (first | exact Le.refl _ | refine Le.pick (by repeat first | exact Le.here _ _ | apply Le.there) ?_ | refine Le.lose ?_))⟩
  · skip
    refine XO.pu (Pu.move rfl) ?_
    refine XO.pu (Pu.gtr rfl rfl) ?_
    refine XO.pu (Pu.pickF rfl rfl) ?_
    refine XO.pu (Pu.move rfl) ?_
    refine XO.part 24 rfl (fun g1 => ?_) (fun g1 => ?_)
    · skip
      refine XO.pass rfl ?_
      refine XO.pass rfl ?_
      refine XO.pass rfl ?_
      refine XO.pu (Pu.pickT rfl rfl) ?_
      refine XO.nil ?_
      refine X.sub (p' := [(28, _), (6, _), (0, _), (1, _), (2, _)]) ⟨rfl, rfl, rfl, rfl, rfl, trivial⟩ ?_
      refine X.condT rfl ?_
      refine X.seq ?_
      refine X.region ?_
      refine XO.callF Try.call11 (works_ok) rfl (by repeat (first | exact Le.refl _ | refine Le.pick (by repeat first | exact Le.here _ _ | apply Le.there) ?_ | refine Le.lose ?_)) ?_
      rintro _ _ ⟨rfl, rfl⟩ q_ hq_
      simp only [List.cons_append, List.nil_append] at hq_; subst hq_
      refine XO.pu (Pu.assign rfl) ?_
      refine XO.nil ?_
      refine X.sub (p' := [(6, _), (0, _), (1, _), (2, _)]) ⟨rfl, rfl, rfl, rfl, trivial⟩ ?_
      refine X.ret ⟨rfl, Lv.ret (q' := q) Try.func5 (res1 Try.results5 rfl) ⟨_, rfl, rfl, rfl⟩ (by repeat (first | exact Le.refl _ | refine Le.pick (by repeat first | exact Le.here _ _ | apply Le.there) ?_ | refine Le.lose ?_))⟩
    · skip
      refine XO.pu (Pu.move rfl) ?_
      refine XO.pu (Pu.len rfl Try.underlying22) ?_
      refine XO.pu (Pu.gtr rfl rfl) ?_
      refine XO.pu (Pu.pickF rfl rfl) ?_
      refine XO.nil ?_
      refine X.sub (p' := [(28, _), (6, _), (0, _), (1, _), (2, _)]) ⟨rfl, rfl, rfl, rfl, rfl, trivial⟩ ?_
      refine X.cond rfl (fun gz => ?_) (fun gz => ?_)
      · skip
        refine X.seq ?_
        refine X.region ?_
        refine XO.callF Try.call11 (works_ok) rfl (by repeat (first | exact Le.refl _ | refine Le.pick (by repeat first | exact Le.here _ _ | apply Le.there) ?_ | refine Le.lose ?_)) ?_
        rintro _ _ ⟨rfl, rfl⟩ q_ hq_
        simp only [List.cons_append, List.nil_append] at hq_; subst hq_
        refine XO.pu (Pu.assign rfl) ?_
        refine XO.nil ?_
        refine X.sub (p' := [(6, _), (0, _), (1, _), (2, _)]) ⟨rfl, rfl, rfl, rfl, trivial⟩ ?_
        refine X.ret ⟨rfl, Lv.ret (q' := q) Try.func5 (res1 Try.results5 rfl) ⟨_, rfl, rfl, rfl⟩ (by repeat (first | exact Le.refl _ | refine Le.pick (by repeat first | exact Le.here _ _ | apply Le.there) ?_ | refine Le.lose ?_))⟩
      · skip
        have g0 : 1 ≤ every ∧ every ≤ 1073741824 ∧ 2 ≤ most ∧ most ≤ 4096 ∧ 0 ≤ 200 := by simpa using g0
        obtain ⟨h1, h2, h3, h4, _⟩ := g0
        have g1 := of_decide_eq_false g1
        have gz := of_decide_eq_false gz
        refine X.skip ?_
        refine X.seq ?_
        refine X.region ?_
        refine XO.pu (Pu.move rfl) ?_
        refine XO.pu (Pu.move rfl) ?_
        refine XO.callF Try.call12 (played_ok (q := []) (l := []) (a := none) (c := 0) h1 h2 h3 h4 (Sees.nil _ _) (by simp) (by simp)) rfl (by repeat (first | exact Le.refl _ | refine Le.pick (by repeat first | exact Le.here _ _ | apply Le.there) ?_ | refine Le.lose ?_)) ?_
        rintro _ _ ⟨b, a2, c2, rfl, rfl⟩ q_ hq_
        simp only [List.cons_append, List.nil_append] at hq_; subst hq_
        refine XO.pu (Pu.move rfl) ?_
        refine XO.pu (Pu.extract rfl rfl) ?_
        refine XO.pu (Pu.extract rfl rfl) ?_
        refine XO.pu (Pu.extract rfl rfl) ?_
        refine XO.ef (Ef.alloc Try.zeroValue27) ?_
        rintro _ _ ⟨n8, rfl, rfl⟩
        refine XO.pu (Pu.assign rfl) ?_
        refine XO.ef0 (Ef.storeA rfl rfl Try.sizeOf27 rfl rfl (by repeat first | exact Le.here _ _ | apply Le.there) rfl) ?_
        rintro _ _ ⟨rfl, rfl⟩
        refine XO.pu (Pu.assign rfl) ?_
        refine XO.nil ?_
        refine X.sub (p' := [(9, _), (7, _), (8, _), (6, _), (0, _), (2, _)]) ⟨rfl, rfl, rfl, rfl, rfl, rfl, trivial⟩ ?_
        refine X.seq ?_
        refine X.region ?_
        refine XO.pu (Pu.assign rfl) ?_
        refine XO.nil ?_
        refine X.sub (p' := [(10, _), (9, _), (7, _), (8, _), (6, _), (0, _), (2, _)]) ⟨rfl, rfl, rfl, rfl, rfl, rfl, rfl, trivial⟩ ?_
        refine X.seq ?_
        refine X.seq ?_
        refine X.region ?_
        refine XO.pu (Pu.assign rfl) ?_
        refine XO.nil ?_
        refine X.sub (p' := [(11, _), (10, _), (9, _), (7, _), (8, _), (6, _), (0, _), (2, _)]) ⟨rfl, rfl, rfl, rfl, rfl, rfl, rfl, rfl, trivial⟩ ?_
        refine X.block ?_
        refine X.at (X.loop (fun (s : Nat × Option Addr × Nat) => s.1 ≤ l.length) (fun s => [(11, .int .i64 (s.1 : Int)), (10, .int .i64 (goes every most (l.take s.1)).2), (9, .bool true), (8, .pointer (some ⟨n8, 0, none⟩)), (7, .pointer (some ⟨b, 0, none⟩)), (2, .slice a l.length c), (0, .int .i64 every)]) (fun s => PtH b (goes every most (l.take s.1)).1 :: pto n8 (.cells (refC (goes every most (l.take s.1)).1 s.2.1 s.2.2).toArray 27 (0, 0)) :: lsM I 3 s.2.1 s.2.2 (goes every most (l.take s.1)).1.kept :: (q ++ F)) (fun s => l.length - s.1) (fun s hi_ ih => ?_) (0, a2, c2) (by simp)) ⟨(by first | rfl | exact congrArg some (congrArg (Value.int _) (by omega))), (by first | rfl | exact congrArg some (congrArg (Value.int _) (by omega))), (by first | rfl | exact congrArg some (congrArg (Value.int _) (by omega))), (by first | rfl | exact congrArg some (congrArg (Value.int _) (by omega))), (by first | rfl | exact congrArg some (congrArg (Value.int _) (by omega))), (by first | rfl | exact congrArg some (congrArg (Value.int _) (by omega))), (by first | rfl | exact congrArg some (congrArg (Value.int _) (by omega))), trivial⟩ (by repeat (first | exact Le.refl _ | refine Le.pick (by repeat first | exact Le.here _ _ | apply Le.there) ?_ | refine Le.lose ?_))
        try dsimp only at hi_ ih ⊢
        obtain hi := hi_
        obtain ⟨s, a3, c3⟩ := s
        dsimp only at *
        obtain ⟨gg, ga, gb⟩ := goes_good h1 (by omega) h3 h4 l s (by omega)
        refine X.seq ?_
        refine X.seq ?_
        refine X.region ?_
        refine XO.pu (Pu.move rfl) ?_
        refine XO.pu (Pu.move rfl) ?_
        refine XO.pu (Pu.len rfl Try.underlying22) ?_
        refine XO.pu (Pu.lss rfl rfl) ?_
        refine XO.pu (Pu.move rfl) ?_
        refine XO.part 41 rfl (fun h6 => ?_) (fun h6 => ?_)
        · skip
          have h6 := of_decide_eq_true h6
          have hlt : s < l.length := by omega
          have hs3 : Sees (PtH b (goes every most (l.take s)).1 :: pto n8 (.cells (refC (goes every most (l.take s)).1 a3 c3).toArray 27 (0, 0)) :: lsM I 3 a3 c3 (goes every most (l.take s)).1.kept :: (q ++ F)) a (l.map I) := hs'.there.there.there
          refine XO.addr hs3 (by simp; omega) (fun ba oa ea => ?_); subst ea
          refine XO.pu (Pu.move rfl) ?_
          refine XO.pu (Pu.pickT rfl rfl) ?_
          refine XO.nil ?_
          refine X.sub (p' := [(43, _), (11, _), (10, _), (9, _), (8, _), (7, _), (2, _), (0, _)]) ⟨rfl, rfl, rfl, rfl, rfl, rfl, rfl, rfl, trivial⟩ ?_
          refine X.condT rfl ?_
          refine X.skip ?_
          refine X.seq ?_
          refine X.block ?_
          refine X.seq ?_
          refine X.region ?_
          refine XO.pu (Pu.move rfl) ?_
          refine XO.rd (Rd.loadA rfl Try.isAgg27 Try.sizeOf27 (by repeat first | exact Has.pto _ _ _ | exact Has.im _ _ _ | refine Has.there ?_) (by rfl)) ?_
          refine XO.pu (Pu.move rfl) ?_
          refine XO.callF Try.call13 (come_ok (p := (goes every most (l.take s)).1) (b := b) (a := a3) (c := c3) (t := (goes every most (l.take s)).2) gg (by omega)) rfl (by repeat (first | exact Le.refl _ | refine Le.pick (by repeat first | exact Le.here _ _ | apply Le.there) ?_ | refine Le.lose ?_)) ?_
          rintro _ _ ⟨a4, c4, rfl, rfl⟩ q_ hq_
          simp only [List.cons_append, List.nil_append] at hq_; subst hq_
          have hst := goes_step every most hlt
          have hst := goes_step every most hlt
          have hm : 1 ≤ max 1 (min 1000 l[s]) ∧ max 1 (min 1000 l[s]) ≤ 1000 := by omega
          have hp : every * max 1 (min 1000 l[s]) ≤ 1000 * 1000 := Int.mul_le_mul (by omega) hm.2 (by omega) (by omega)
          have hq2 : 0 ≤ every * max 1 (min 1000 l[s]) := Int.mul_nonneg (by omega) (by omega)
          refine XO.pu (Pu.move rfl) ?_
          refine XO.pu (Pu.extract rfl rfl) ?_
          refine XO.pu (Pu.extract rfl rfl) ?_
          refine XO.ef0 (Ef.storeA rfl rfl Try.sizeOf27 rfl rfl (by repeat first | exact Le.here _ _ | apply Le.there) rfl) ?_
          rintro _ _ ⟨rfl, rfl⟩
          refine XO.pu (Pu.assign rfl) ?_
          refine XO.nil ?_
          refine X.sub (p' := [(9, _), (11, _), (10, _), (8, _), (7, _), (2, _), (0, _)]) ⟨rfl, rfl, rfl, rfl, rfl, rfl, rfl, trivial⟩ ?_
          refine X.region ?_
          refine XO.pu (Pu.move rfl) ?_
          refine XO.pu (Pu.move rfl) ?_
          refine XO.pu (Pu.move rfl) ?_
          refine XO.pu (Pu.move rfl) ?_
          refine XO.pu (Pu.indexAddr rfl rfl Try.underlying22 Try.sizeOf3 (by omega) (by omega)) ?_
          refine XO.rd (Rd.load rfl Try.isAgg3 (by first | exact Cl.of (by repeat first | exact Has.pto _ _ _ | exact Has.im _ _ _ | refine Has.there ?_) (by rfl) | exact Cl_le (hs'.at (n := s) rfl hlt) (by repeat (first | exact Le.refl _ | refine Le.pick (by repeat first | exact Le.here _ _ | apply Le.there) ?_ | refine Le.lose ?_)))) ?_
          refine XO.pu (Pu.min2 rfl rfl) ?_
          refine XO.pu (Pu.max2 rfl rfl) ?_
          refine XO.pu (Pu.mul rfl rfl (by omega) (by omega)) ?_
          refine XO.pu (Pu.add rfl rfl (by omega) (by omega)) ?_
          refine XO.pu (Pu.assign rfl) ?_
          refine XO.nil ?_
          refine X.sub (p' := [(10, _), (9, _), (11, _), (8, _), (7, _), (2, _), (0, _)]) ⟨rfl, rfl, rfl, rfl, rfl, rfl, rfl, trivial⟩ ?_
          refine X.inBlock ?_
          refine X.region ?_
          refine XO.pu (Pu.move rfl) ?_
          refine XO.pu (Pu.add rfl rfl (by omega) (by omega)) ?_
          refine XO.pu (Pu.assign rfl) ?_
          refine XO.nil ?_
          refine X.sub (p' := [(11, _), (10, _), (9, _), (8, _), (7, _), (2, _), (0, _)]) ⟨rfl, rfl, rfl, rfl, rfl, rfl, rfl, trivial⟩ ?_
          rw [show ((goes every most (l.take s)).1.come (goes every most (l.take s)).2).1 = (goes every most (l.take (s + 1))).1 from by rw [hst]]
          refine X.know 10 (.int .i64 (goes every most (l.take (s + 1))).2) rfl (by rw [hst]) ?_
          refine X.at (ih (s + 1, a4, c4) (by dsimp only; omega) (by dsimp only; omega)) ⟨(by first | rfl | exact congrArg some (congrArg (Value.int _) (by omega))), (by first | rfl | exact congrArg some (congrArg (Value.int _) (by omega))), (by first | rfl | exact congrArg some (congrArg (Value.int _) (by omega))), (by first | rfl | exact congrArg some (congrArg (Value.int _) (by omega))), (by first | rfl | exact congrArg some (congrArg (Value.int _) (by omega))), (by first | rfl | exact congrArg some (congrArg (Value.int _) (by omega))), (by first | rfl | exact congrArg some (congrArg (Value.int _) (by omega))), trivial⟩ (by repeat (first | exact Le.refl _ | refine Le.pick (by repeat first | exact Le.here _ _ | apply Le.there) ?_ | refine Le.lose ?_))
        · skip
          have h6 : s = l.length := by have := of_decide_eq_false h6; omega
          subst h6
          rw [List.take_length] at gg ⊢
          generalize (goes every most l).1 = p at gg ⊢
          refine XO.pass rfl ?_
          refine XO.pu (Pu.pickF rfl rfl) ?_
          refine XO.nil ?_
          refine X.sub (p' := [(43, _), (11, _), (10, _), (9, _), (8, _), (7, _), (2, _), (0, _)]) ⟨rfl, rfl, rfl, rfl, rfl, rfl, rfl, rfl, trivial⟩ ?_
          refine X.condF rfl ?_
          refine X.exit rfl ?_
          refine X.seq ?_
          refine X.region ?_
          refine XO.rd (Rd.loadA rfl Try.isAgg27 Try.sizeOf27 (by repeat first | exact Has.pto _ _ _ | exact Has.im _ _ _ | refine Has.there ?_) (by rfl)) ?_
          refine XO.callF Try.call15 (RCome_ok (p := p) (a := a3) (c := c3) (t := -1) gg.ok (fun _ => gg.l0) gg.gone_le (by omega)) rfl (by repeat (first | exact Le.refl _ | refine Le.pick (by repeat first | exact Le.here _ _ | apply Le.there) ?_ | refine Le.lose ?_)) ?_
          rintro _ _ ⟨a5, c5, rfl, rfl⟩ q_ hq_
          simp only [List.cons_append, List.nil_append] at hq_; subst hq_
          rw [come_neg p]
          refine XO.pu (Pu.move rfl) ?_
          refine XO.pu (Pu.extract rfl rfl) ?_
          refine XO.pu (Pu.extract rfl rfl) ?_
          refine XO.pu (Pu.extract rfl rfl) ?_
          refine XO.pu (Pu.extract rfl rfl) ?_
          refine XO.ef (Ef.alloc Try.zeroValue27) ?_
          rintro _ _ ⟨n9, rfl, rfl⟩
          refine XO.ef0 (Ef.storeA rfl rfl Try.sizeOf27 rfl rfl (by repeat first | exact Le.here _ _ | apply Le.there) rfl) ?_
          rintro _ _ ⟨rfl, rfl⟩
          refine XO.pu (Pu.assign rfl) ?_
          refine XO.pu (Pu.assign rfl) ?_
          refine XO.pu (Pu.assign rfl) ?_
          refine XO.nil ?_
          refine X.sub (p' := [(12, _), (9, _), (8, _), (7, _)]) ⟨rfl, rfl, rfl, rfl, trivial⟩ ?_
          refine X.seq ?_
          refine X.region ?_
          refine XO.pu (Pu.move rfl) ?_
          refine XO.pu (Pu.move rfl) ?_
          refine XO.pu (Pu.move rfl) ?_
          refine XO.rd (Rd.loadA rfl Try.isAgg27 Try.sizeOf27 (by repeat first | exact Has.pto _ _ _ | exact Has.im _ _ _ | refine Has.there ?_) (by rfl)) ?_
          refine XO.know 71 (.bool true) rfl (congrArg Value.bool (rfl)) ?_
          refine XO.callF Try.call14 (is_ok (p := p) (b := b) (a := a3) (c := c3) gg) rfl (by repeat (first | exact Le.refl _ | refine Le.pick (by repeat first | exact Le.here _ _ | apply Le.there) ?_ | refine Le.lose ?_)) ?_
          rintro _ _ ⟨rfl, rfl⟩ q_ hq_
          simp only [List.cons_append, List.nil_append] at hq_; subst hq_
          refine XO.pu (Pu.pickT rfl rfl) ?_
          refine XO.pu (Pu.move rfl) ?_
          refine XO.pu (Pu.fieldAddr 3 4 0 rfl Try.underlying27 rfl Try.sizeOf3) ?_
          refine XO.rd (Rd.load rfl Try.isAgg3 (Cl.of (by repeat first | exact Has.pto _ _ _ | exact Has.im _ _ _ | refine Has.there ?_) (by rfl))) ?_
          refine XO.pu (Pu.fieldAddr 3 4 0 rfl Try.underlying27 rfl Try.sizeOf3) ?_
          refine XO.rd (Rd.load rfl Try.isAgg3 (Cl.of (by repeat first | exact Has.pto _ _ _ | exact Has.im _ _ _ | refine Has.there ?_) (by rfl))) ?_
          refine XO.pu (Pu.eql rfl rfl) ?_
          refine XO.pu (Pu.pickT rfl rfl) ?_
          refine XO.pu (Pu.move rfl) ?_
          refine XO.pu (Pu.pick rfl rfl rfl) ?_
          refine XO.pu (Pu.move rfl) ?_
          refine XO.know 85 (.bool true) rfl (congrArg Value.bool (by simp)) ?_
          refine XO.callF Try.call11 (works_ok) rfl (by repeat (first | exact Le.refl _ | refine Le.pick (by repeat first | exact Le.here _ _ | apply Le.there) ?_ | refine Le.lose ?_)) ?_
          rintro _ _ ⟨rfl, rfl⟩ q_ hq_
          simp only [List.cons_append, List.nil_append] at hq_; subst hq_
          refine XO.pu (Pu.pickT rfl rfl) ?_
          refine XO.pu (Pu.assign rfl) ?_
          refine XO.nil ?_
          refine X.sub (p' := [(6, _)]) ⟨rfl, trivial⟩ ?_
          refine X.ret ⟨rfl, Lv.ret (q' := q) Try.func5 (res1 Try.results5 rfl) ⟨_, rfl, rfl, rfl⟩ (by repeat (first | exact Le.refl _ | refine Le.pick (by repeat first | exact Le.here _ _ | apply Le.there) ?_ | refine Le.lose ?_))⟩
end
end Go.Proofs.Ytjfkkdohpfbilaa

