/- What functions of package points, and of its laws, do: contracts of calls, proved by walking their code. -/
import Derived.Test.YtjfkkdohpfbilaaO
import Derived.KernelRfl
set_option maxRecDepth 100000
set_option linter.unusedVariables false
set_option linter.unusedSimpArgs false
namespace Go.Proofs.Ytjfkkdohpfbilaa
open Go Go.RowKit Wx

section
variable {G : World} {p p2 : Pt} {b b2 : Nat} {t : Int} {q : List HP} {a a' : Option Addr} {c c' : Nat} {l m : List Int} {every most : Int}
theorem plays_em (every most : Int) (l : List Int) : (plays every most l).every = every ∧ (plays every most l).most = most := by
  suffices h : ∀ (l : List Int) (p : Pt), (l.foldl (fun p t => (p.come t).1) p).every = p.every ∧ (l.foldl (fun p t => (p.come t).1) p).most = p.most from h l _
  intro l; induction l with
  | nil => exact fun p => ⟨rfl, rfl⟩
  | cons x r ih => exact fun p => ⟨(ih _).1.trans (come_ev x).1, (ih _).2.trans (come_ev x).2⟩
theorem runs_em (every most : Int) (n : Nat) : (runs every most n).every = every ∧ (runs every most n).most = most := by
  induction n with
  | zero => exact ⟨rfl, rfl⟩
  | succ n ih => exact ⟨(come_ev _).1.trans ih.1, (come_ev _).2.trans ih.2⟩
theorem at_head {k : List Int} {f : Int} (h : k.head? = some f) : ∃ h : 0 < k.length, k[0] = f := by
  cases k with
  | nil => cases h
  | cons x r => exact ⟨by simp, by simpa using h⟩
theorem at_last {k : List Int} {f : Int} (h : k.getLast? = some f) : ∃ h : k.length - 1 < k.length, k[k.length - 1] = f := by
  rw [List.getLast?_eq_getElem?] at h
  exact List.getElem?_eq_some_iff.1 h
set_option maxHeartbeats 4000000 in
theorem few_ok (hs : Sees q a (l.map I)) (hr : ∀ x ∈ l, -9223372036854775808 ≤ x ∧ x ≤ 9223372036854775807) : CallF Try.prog G 6 [.int .i64 every, .int .i64 most, .slice a l.length c, .int .i64 t] q (Ret fun v q' => v = .bool true ∧ q' = q) := by
  refine CallF.of Try.func6 Try.ntmps6 rfl (fun F cs => ?_)
  refine X.sub (p' := [(0, _), (1, _), (2, _), (3, _)]) ⟨rfl, rfl, rfl, rfl, trivial⟩ ?_
  have hs' : Sees (q ++ F) a (l.map I) := hs.le (Le.app_left q F)
  refine X.seq ?_
  refine X.region ?_
  refine XO.pu (Pu.assign rfl) ?_
  refine XO.nil ?_
  refine X.sub (p' := [(8, _), (0, _), (1, _), (2, _), (3, _)]) ⟨rfl, rfl, rfl, rfl, rfl, trivial⟩ ?_
  refine X.seq ?_
  refine X.seq ?_
  refine X.region ?_
  refine XO.pu (Pu.move rfl) ?_
  refine XO.pu (Pu.move rfl) ?_
  refine XO.pu (Pu.move rfl) ?_
  refine XO.callF Try.call10 (small_ok) rfl (by repeat (first | exact Le.refl _ | refine Le.pick (by repeat first | exact Le.here _ _ | apply Le.there) ?_ | refine Le.lose ?_)) ?_
  rintro _ _ ⟨rfl, rfl⟩ q_ hq_
  simp only [List.cons_append, List.nil_append] at hq_; subst hq_
  refine XO.pu (Pu.not rfl) ?_
  refine XO.pu (Pu.move rfl) ?_
  refine XO.part 28 rfl (fun g0 => ?_) (fun g0 => ?_)
  · skip
    refine XO.pass rfl ?_
    refine XO.pass rfl ?_
    refine XO.pu (Pu.pickT rfl rfl) ?_
    refine XO.pu (Pu.move rfl) ?_
    refine XO.pass rfl ?_
    refine XO.pass rfl ?_
    refine XO.pu (Pu.pickT rfl rfl) ?_
    refine XO.nil ?_
    refine X.sub (p' := [(35, _), (8, _), (0, _), (1, _), (2, _), (3, _)]) ⟨rfl, rfl, rfl, rfl, rfl, rfl, trivial⟩ ?_
    refine X.condT rfl ?_
    refine X.seq ?_
    refine X.region ?_
    refine XO.callF Try.call11 (works_ok) rfl (by repeat (first | exact Le.refl _ | refine Le.pick (by repeat first | exact Le.here _ _ | apply Le.there) ?_ | refine Le.lose ?_)) ?_
    rintro _ _ ⟨rfl, rfl⟩ q_ hq_
    simp only [List.cons_append, List.nil_append] at hq_; subst hq_
    refine XO.pu (Pu.assign rfl) ?_
    refine XO.nil ?_
    refine X.sub (p' := [(8, _), (0, _), (1, _), (2, _), (3, _)]) ⟨rfl, rfl, rfl, rfl, rfl, trivial⟩ ?_
    refine X.ret ⟨rfl, Lv.ret (q' := q) Try.func6 (res1 Try.results6 rfl) ⟨_, rfl, rfl, rfl⟩ (by repeat (first | exact Le.refl _ | refine Le.pick (by repeat first | exact Le.here _ _ | apply Le.there) ?_ | refine Le.lose ?_))⟩
  · skip
    refine XO.pu (Pu.move rfl) ?_
    refine XO.pu (Pu.lss rfl rfl) ?_
    refine XO.pu (Pu.pickF rfl rfl) ?_
    refine XO.pu (Pu.move rfl) ?_
    refine XO.part 32 rfl (fun g1 => ?_) (fun g1 => ?_)
    · skip
      refine XO.pass rfl ?_
      refine XO.pass rfl ?_
      refine XO.pu (Pu.pickT rfl rfl) ?_
      refine XO.nil ?_
      refine X.sub (p' := [(35, _), (8, _), (0, _), (1, _), (2, _), (3, _)]) ⟨rfl, rfl, rfl, rfl, rfl, rfl, trivial⟩ ?_
      refine X.condT rfl ?_
      refine X.seq ?_
      refine X.region ?_
      refine XO.callF Try.call11 (works_ok) rfl (by repeat (first | exact Le.refl _ | refine Le.pick (by repeat first | exact Le.here _ _ | apply Le.there) ?_ | refine Le.lose ?_)) ?_
      rintro _ _ ⟨rfl, rfl⟩ q_ hq_
      simp only [List.cons_append, List.nil_append] at hq_; subst hq_
      refine XO.pu (Pu.assign rfl) ?_
      refine XO.nil ?_
      refine X.sub (p' := [(8, _), (0, _), (1, _), (2, _), (3, _)]) ⟨rfl, rfl, rfl, rfl, rfl, trivial⟩ ?_
      refine X.ret ⟨rfl, Lv.ret (q' := q) Try.func6 (res1 Try.results6 rfl) ⟨_, rfl, rfl, rfl⟩ (by repeat (first | exact Le.refl _ | refine Le.pick (by repeat first | exact Le.here _ _ | apply Le.there) ?_ | refine Le.lose ?_))⟩
    · skip
      refine XO.pu (Pu.move rfl) ?_
      refine XO.pu (Pu.gtr rfl rfl) ?_
      refine XO.pu (Pu.pickF rfl rfl) ?_
      refine XO.nil ?_
      refine X.sub (p' := [(35, _), (8, _), (0, _), (1, _), (2, _), (3, _)]) ⟨rfl, rfl, rfl, rfl, rfl, rfl, trivial⟩ ?_
      refine X.cond rfl (fun gz => ?_) (fun gz => ?_)
      · skip
        refine X.seq ?_
        refine X.region ?_
        refine XO.callF Try.call11 (works_ok) rfl (by repeat (first | exact Le.refl _ | refine Le.pick (by repeat first | exact Le.here _ _ | apply Le.there) ?_ | refine Le.lose ?_)) ?_
        rintro _ _ ⟨rfl, rfl⟩ q_ hq_
        simp only [List.cons_append, List.nil_append] at hq_; subst hq_
        refine XO.pu (Pu.assign rfl) ?_
        refine XO.nil ?_
        refine X.sub (p' := [(8, _), (0, _), (1, _), (2, _), (3, _)]) ⟨rfl, rfl, rfl, rfl, rfl, trivial⟩ ?_
        refine X.ret ⟨rfl, Lv.ret (q' := q) Try.func6 (res1 Try.results6 rfl) ⟨_, rfl, rfl, rfl⟩ (by repeat (first | exact Le.refl _ | refine Le.pick (by repeat first | exact Le.here _ _ | apply Le.there) ?_ | refine Le.lose ?_))⟩
      · skip
        have g0 : 1 ≤ every ∧ every ≤ 1073741824 ∧ 2 ≤ most ∧ most ≤ 4096 ∧ l.length ≤ 200 := by simpa using g0
        obtain ⟨h1, h2, h3, h4, h5⟩ := g0
        have g1 := of_decide_eq_false g1
        have gz := of_decide_eq_false gz
        refine X.skip ?_
        refine X.seq ?_
        refine X.region ?_
        refine XO.pu (Pu.move rfl) ?_
        refine XO.pu (Pu.move rfl) ?_
        refine XO.callF Try.call16 (New_yes h1 h2 h3 h4) rfl (by repeat (first | exact Le.refl _ | refine Le.pick (by repeat first | exact Le.here _ _ | apply Le.there) ?_ | refine Le.lose ?_)) ?_
        rintro _ _ ⟨b, rfl, rfl⟩ q_ hq_
        simp only [List.cons_append, List.nil_append] at hq_; subst hq_
        refine XO.pu (Pu.move rfl) ?_
        refine XO.pu (Pu.extract rfl rfl) ?_
        refine XO.pu (Pu.extract rfl rfl) ?_
        refine XO.pu (Pu.assign rfl) ?_
        refine XO.pu (Pu.assign rfl) ?_
        refine XO.nil ?_
        refine X.sub (p' := [(10, _), (9, _), (8, _), (0, _), (1, _), (2, _), (3, _)]) ⟨rfl, rfl, rfl, rfl, rfl, rfl, rfl, trivial⟩ ?_
        refine X.seq ?_
        refine X.region ?_
        refine XO.pu (Pu.assign rfl) ?_
        refine XO.nil ?_
        refine X.sub (p' := [(11, _), (10, _), (9, _), (8, _), (0, _), (1, _), (2, _), (3, _)]) ⟨rfl, rfl, rfl, rfl, rfl, rfl, rfl, rfl, trivial⟩ ?_
        refine X.seq ?_
        refine X.seq ?_
        refine X.region ?_
        refine XO.pu (Pu.assign rfl) ?_
        refine XO.nil ?_
        refine X.sub (p' := [(12, _), (11, _), (10, _), (9, _), (8, _), (0, _), (1, _), (2, _), (3, _)]) ⟨rfl, rfl, rfl, rfl, rfl, rfl, rfl, rfl, rfl, trivial⟩ ?_
        refine X.block ?_
        refine X.at (X.loop (fun (s : Nat) => s ≤ l.length) (fun s => [(12, .int .i64 (s : Int)), (11, .int .i64 (firsts every most l s)), (10, .int .i64 0), (9, .pointer (some ⟨b, 0, none⟩)), (0, .int .i64 every), (1, .int .i64 most), (2, .slice a l.length c), (3, .int .i64 t)]) (fun s => PtH b (plays every most (l.take s)) :: (q ++ F)) (fun s => l.length - s) (fun s hi_ ih => ?_) 0 (by omega)) ⟨(by first | rfl | exact congrArg some (congrArg (Value.int _) (by omega))), (by first | rfl | exact congrArg some (congrArg (Value.int _) (by omega))), (by first | rfl | exact congrArg some (congrArg (Value.int _) (by omega))), (by first | rfl | exact congrArg some (congrArg (Value.int _) (by omega))), (by first | rfl | exact congrArg some (congrArg (Value.int _) (by omega))), (by first | rfl | exact congrArg some (congrArg (Value.int _) (by omega))), (by first | rfl | exact congrArg some (congrArg (Value.int _) (by omega))), (by first | rfl | exact congrArg some (congrArg (Value.int _) (by omega))), trivial⟩ (by repeat (first | exact Le.refl _ | refine Le.pick (by repeat first | exact Le.here _ _ | apply Le.there) ?_ | refine Le.lose ?_))
        try dsimp only at hi_ ih ⊢
        obtain hi := hi_
        refine X.seq ?_
        refine X.seq ?_
        refine X.region ?_
        refine XO.pu (Pu.move rfl) ?_
        refine XO.pu (Pu.move rfl) ?_
        refine XO.pu (Pu.len rfl Try.underlying22) ?_
        refine XO.pu (Pu.lss rfl rfl) ?_
        refine XO.nil ?_
        refine X.sub (p' := [(46, _), (12, _), (11, _), (10, _), (9, _), (0, _), (1, _), (2, _), (3, _)]) ⟨rfl, rfl, rfl, rfl, rfl, rfl, rfl, rfl, rfl, trivial⟩ ?_
        refine X.cond rfl (fun h6 => ?_) (fun h6 => ?_)
        · skip
          have hlt : s < l.length := by have := of_decide_eq_true h6; omega
          have gg := plays_good h1 h2 h3 h4 (l.take s)
          have hr2 := hr _ (List.getElem_mem hlt)
          have hgd : l.getD s 0 = l[s] := by simp [List.getD_eq_getElem?_getD, List.getElem?_eq_getElem hlt]
          have he := come_ends gg l[s]
          have hfi := firsts_inv h1 h2 h3 h4 l (s + 1) (by omega)
          have hst := plays_step every most hlt
          have hfs : firsts every most l (s + 1) = if ((plays every most (l.take s)).come l[s]).2.1 = true ∧ firsts every most l s < 0 then l[s] else firsts every most l s := by rw [← hgd]; rfl
          have gg2 := plays_good h1 h2 h3 h4 (l.take (s + 1))
          have hs3 : Sees (PtH b (plays every most (l.take s)) :: (q ++ F)) a (l.map I) := hs'.there
          refine X.addr hs3 (by simp; omega) (fun ba oa ea => ?_); subst ea
          refine X.skip ?_
          refine X.seq ?_
          refine X.block ?_
          refine X.seq ?_
          refine X.region ?_
          refine XO.pu (Pu.move rfl) ?_
          refine XO.pu (Pu.move rfl) ?_
          refine XO.pu (Pu.move rfl) ?_
          refine XO.pu (Pu.indexAddr rfl rfl Try.underlying22 Try.sizeOf3 (by omega) (by omega)) ?_
          refine XO.rd (Rd.load rfl Try.isAgg3 (by first | exact Cl.of (by repeat first | exact Has.pto _ _ _ | exact Has.im _ _ _ | refine Has.there ?_) (by rfl) | exact Cl_le (hs'.at (n := s) rfl hlt) (by repeat (first | exact Le.refl _ | refine Le.pick (by repeat first | exact Le.here _ _ | apply Le.there) ?_ | refine Le.lose ?_)))) ?_
          refine XO.callF Try.call17 (Come_ok (p := plays every most (l.take s)) (b := b) (t := l[s]) gg.ok gg.gone_le hr2) rfl (by repeat (first | exact Le.refl _ | refine Le.pick (by repeat first | exact Le.here _ _ | apply Le.there) ?_ | refine Le.lose ?_)) ?_
          rintro _ _ ⟨rfl, rfl⟩ q_ hq_
          simp only [List.cons_append, List.nil_append] at hq_; subst hq_
          rw [hst] at hfi gg2
          generalize (plays every most (l.take s)).come l[s] = r at he hst hfs hfi gg2 ⊢
          obtain ⟨p2, okb, out, er⟩ := r
          dsimp only at he hst hfs hfi gg2 ⊢
          have hmo : p2.most = most := by have := (plays_em every most (l.take (s + 1))).2; rw [hst] at this; exact this
          cases okb with
          | false =>
            refine XO.pu (Pu.move rfl) ?_
            refine XO.pu (Pu.extract rfl rfl) ?_
            refine XO.pu (Pu.extract rfl rfl) ?_
            refine XO.pu (Pu.extract rfl rfl) ?_
            refine XO.pu (Pu.assign rfl) ?_
            refine XO.pu (Pu.assign rfl) ?_
            refine XO.pu (Pu.assign rfl) ?_
            refine XO.nil ?_
            refine X.sub (p' := [(13, _), (12, _), (11, _), (10, _), (9, _), (0, _), (1, _), (2, _), (3, _)]) ⟨rfl, rfl, rfl, rfl, rfl, rfl, rfl, rfl, rfl, trivial⟩ ?_
            refine X.seq ?_
            refine X.seq ?_
            refine X.region ?_
            refine XO.pu (Pu.move rfl) ?_
            refine XO.pu (Pu.move rfl) ?_
            refine XO.know 60 (.bool false) rfl (congrArg Value.bool (rfl)) ?_
            refine XO.pass rfl ?_
            refine XO.pass rfl ?_
            refine XO.pu (Pu.pickF rfl rfl) ?_
            refine XO.nil ?_
            refine X.sub (p' := [(63, _), (13, _), (12, _), (11, _), (10, _), (9, _), (0, _), (1, _), (2, _), (3, _)]) ⟨rfl, rfl, rfl, rfl, rfl, rfl, rfl, rfl, rfl, rfl, trivial⟩ ?_
            refine X.condF rfl ?_
            refine X.skip ?_
            refine X.seq ?_
            refine X.region ?_
            refine XO.pu (Pu.move rfl) ?_
            refine XO.know 11 (.int .i64 (firsts every most l (s + 1))) rfl (by rw [hfs, if_neg (by simp)]) ?_
            have kk1 := gg2.ok.k1; have kk3 := gg2.ok.m2
            refine XO.callF Try.call18 (All_ok (p := p2) (b := b) gg2.ok) rfl (by repeat (first | exact Le.refl _ | refine Le.pick (by repeat first | exact Le.here _ _ | apply Le.there) ?_ | refine Le.lose ?_)) ?_
            rintro _ _ ⟨a3, c3, rfl, rfl⟩ q_ hq_
            simp only [List.cons_append, List.nil_append] at hq_; subst hq_
            rcases hfi with ⟨f1, f2⟩ | ⟨f1, f2⟩
            · skip
              refine XO.pu (Pu.assign rfl) ?_
              refine XO.nil ?_
              refine X.sub (p' := [(16, _), (11, _), (13, _), (12, _), (10, _), (9, _), (0, _), (1, _), (2, _), (3, _)]) ⟨rfl, rfl, rfl, rfl, rfl, rfl, rfl, rfl, rfl, rfl, trivial⟩ ?_
              refine X.seq ?_
              refine X.draw [] Try.mixed (by kernel_rfl) (by kernel_rfl) rfl ?_
              refine XD.pu 0 rfl (Pu.move rfl) ?_
              refine XD.pu 1 rfl (Pu.len rfl Try.underlying22) ?_
              refine XD.pu 2 rfl (Pu.move rfl) ?_
              refine XD.pu 3 rfl (Pu.gtr rfl rfl) ?_
              refine XD.pu 4 rfl (Pu.move rfl) ?_
              refine XD.know 74 (.bool false) rfl (congrArg Value.bool (decide_eq_false (by omega))) ?_
              refine XD.pu 5 rfl (Pu.move rfl) ?_
              refine XD.pu 6 rfl (Pu.geq rfl rfl) ?_
              refine XD.pu 7 rfl (Pu.move rfl) ?_
              refine XD.know 77 (.bool false) rfl (congrArg Value.bool (decide_eq_false (by rw [f1]; omega))) ?_
              refine XD.pass 8 rfl ?_
              refine XD.pass 9 rfl ?_
              refine XD.pass 10 rfl ?_
              refine XD.pass 11 rfl ?_
              refine XD.pass 12 rfl ?_
              refine XD.pass 13 rfl ?_
              refine XD.pass 14 rfl ?_
              refine XD.pass 15 rfl ?_
              refine XD.pass 16 rfl ?_
              refine XD.pass 17 rfl ?_
              refine XD.pu 18 rfl (Pu.pickF rfl rfl) ?_
              refine XD.pu 19 rfl (Pu.pickF rfl rfl) ?_
              refine XD.pu 20 rfl (Pu.move rfl) ?_
              refine XD.pu 21 rfl (Pu.move rfl) ?_
              refine XD.pu 22 rfl (Pu.move rfl) ?_
              refine XD.know 92 (.bool false) rfl (congrArg Value.bool (rfl)) ?_
              refine XD.pass 23 rfl ?_
              refine XD.pass 24 rfl ?_
              refine XD.pass 25 rfl ?_
              refine XD.pass 26 rfl ?_
              refine XD.pass 27 rfl ?_
              refine XD.pass 28 rfl ?_
              refine XD.pass 29 rfl ?_
              refine XD.pass 30 rfl ?_
              refine XD.pass 31 rfl ?_
              refine XD.pass 32 rfl ?_
              refine XD.pass 33 rfl ?_
              refine XD.pu 34 rfl (Pu.pickF rfl rfl) ?_
              refine XD.pu 35 rfl (Pu.pickF rfl rfl) ?_
              refine XD.nil ?_
              refine X.sub (p' := [(105, _), (11, _), (12, _), (10, _), (9, _), (0, _), (1, _), (2, _), (3, _)]) ⟨rfl, rfl, rfl, rfl, rfl, rfl, rfl, rfl, rfl, trivial⟩ ?_
              refine X.condF rfl ?_
              refine X.skip ?_
              refine X.inBlock ?_
              refine X.region ?_
              refine XO.pu (Pu.move rfl) ?_
              refine XO.pu (Pu.add rfl rfl (by omega) (by omega)) ?_
              refine XO.pu (Pu.assign rfl) ?_
              refine XO.nil ?_
              refine X.sub (p' := [(12, _), (11, _), (10, _), (9, _), (0, _), (1, _), (2, _), (3, _)]) ⟨rfl, rfl, rfl, rfl, rfl, rfl, rfl, rfl, trivial⟩ ?_
              rw [← hst]
              refine X.at (ih (s + 1) (by omega) (by omega)) ⟨(by first | rfl | exact congrArg some (congrArg (Value.int _) (by omega))), (by first | rfl | exact congrArg some (congrArg (Value.int _) (by omega))), (by first | rfl | exact congrArg some (congrArg (Value.int _) (by omega))), (by first | rfl | exact congrArg some (congrArg (Value.int _) (by omega))), (by first | rfl | exact congrArg some (congrArg (Value.int _) (by omega))), (by first | rfl | exact congrArg some (congrArg (Value.int _) (by omega))), (by first | rfl | exact congrArg some (congrArg (Value.int _) (by omega))), (by first | rfl | exact congrArg some (congrArg (Value.int _) (by omega))), trivial⟩ (by repeat (first | exact Le.refl _ | refine Le.pick (by repeat first | exact Le.here _ _ | apply Le.there) ?_ | refine Le.lose ?_))
            · skip
              obtain ⟨z1, z2⟩ := at_head f2
              refine XO.addr (Sees.lsH _) (by simp; omega) (fun bk ok_ ek => ?_); subst ek
              have hs4 : Sees (lsH I 3 (some ⟨bk, ok_, none⟩) c3 p2.kept :: PtH b p2 :: (q ++ F)) (some ⟨bk, ok_, none⟩) (p2.kept.map I) := Sees.lsH _
              refine XO.pu (Pu.assign rfl) ?_
              refine XO.nil ?_
              refine X.sub (p' := [(16, _), (11, _), (13, _), (12, _), (10, _), (9, _), (0, _), (1, _), (2, _), (3, _)]) ⟨rfl, rfl, rfl, rfl, rfl, rfl, rfl, rfl, rfl, rfl, trivial⟩ ?_
              refine X.seq ?_
              refine X.draw [] Try.mixed (by kernel_rfl) (by kernel_rfl) rfl ?_
              refine XD.pu 0 rfl (Pu.move rfl) ?_
              refine XD.pu 1 rfl (Pu.len rfl Try.underlying22) ?_
              refine XD.pu 2 rfl (Pu.move rfl) ?_
              refine XD.pu 3 rfl (Pu.gtr rfl rfl) ?_
              refine XD.pu 4 rfl (Pu.move rfl) ?_
              refine XD.know 74 (.bool false) rfl (congrArg Value.bool (decide_eq_false (by omega))) ?_
              refine XD.pu 5 rfl (Pu.move rfl) ?_
              refine XD.pu 6 rfl (Pu.geq rfl rfl) ?_
              refine XD.pu 7 rfl (Pu.move rfl) ?_
              refine XD.know 77 (.bool true) rfl (congrArg Value.bool (decide_eq_true (by omega))) ?_
              refine XD.pu 8 rfl (Pu.move rfl) ?_
              refine XD.pu 9 rfl (Pu.len rfl Try.underlying22) ?_
              refine XD.pu 10 rfl (Pu.eql rfl rfl) ?_
              refine XD.pu 11 rfl (Pu.move rfl) ?_
              refine XD.know 81 (.bool false) rfl (congrArg Value.bool (by simp; intro e; rw [e] at z1; cases z1)) ?_
              refine XD.pu 12 rfl (Pu.move rfl) ?_
              refine XD.pu 13 rfl (Pu.indexAddr rfl rfl Try.underlying22 Try.sizeOf3 (by omega) (by omega)) ?_
              refine XD.load 14 rfl rfl Try.isAgg3 (by first | exact Cl.of (by repeat first | exact Has.pto _ _ _ | exact Has.im _ _ _ | refine Has.there ?_) (by rfl) | exact hs4.at (n := 0) rfl z1 | exact hs4.at (n := p2.kept.length - 1) (by omega) (by omega) | exact Cl_le (hs'.at (n := s) rfl hlt) (by repeat (first | exact Le.refl _ | refine Le.pick (by repeat first | exact Le.here _ _ | apply Le.there) ?_ | refine Le.lose ?_))) ?_
              refine XD.pu 15 rfl (Pu.move rfl) ?_
              refine XD.pu 16 rfl (Pu.neq rfl rfl) ?_
              refine XD.pu 17 rfl (Pu.pickF rfl rfl) ?_
              refine XD.pu 18 rfl (Pu.pickT rfl rfl) ?_
              refine XD.pu 19 rfl (Pu.pickF rfl rfl) ?_
              refine XD.pu 20 rfl (Pu.move rfl) ?_
              refine XD.know 90 (.bool false) rfl (congrArg Value.bool (by rw [z2]; simp)) ?_
              refine XD.pu 21 rfl (Pu.move rfl) ?_
              refine XD.pu 22 rfl (Pu.move rfl) ?_
              refine XD.know 92 (.bool false) rfl (congrArg Value.bool (rfl)) ?_
              refine XD.pass 23 rfl ?_
              refine XD.pass 24 rfl ?_
              refine XD.pass 25 rfl ?_
              refine XD.pass 26 rfl ?_
              refine XD.pass 27 rfl ?_
              refine XD.pass 28 rfl ?_
              refine XD.pass 29 rfl ?_
              refine XD.pass 30 rfl ?_
              refine XD.pass 31 rfl ?_
              refine XD.pass 32 rfl ?_
              refine XD.pass 33 rfl ?_
              refine XD.pu 34 rfl (Pu.pickF rfl rfl) ?_
              refine XD.pu 35 rfl (Pu.pickF rfl rfl) ?_
              refine XD.nil ?_
              refine X.sub (p' := [(105, _), (11, _), (12, _), (10, _), (9, _), (0, _), (1, _), (2, _), (3, _)]) ⟨rfl, rfl, rfl, rfl, rfl, rfl, rfl, rfl, rfl, trivial⟩ ?_
              refine X.condF rfl ?_
              refine X.skip ?_
              refine X.inBlock ?_
              refine X.region ?_
              refine XO.pu (Pu.move rfl) ?_
              refine XO.pu (Pu.add rfl rfl (by omega) (by omega)) ?_
              refine XO.pu (Pu.assign rfl) ?_
              refine XO.nil ?_
              refine X.sub (p' := [(12, _), (11, _), (10, _), (9, _), (0, _), (1, _), (2, _), (3, _)]) ⟨rfl, rfl, rfl, rfl, rfl, rfl, rfl, rfl, trivial⟩ ?_
              rw [← hst]
              refine X.at (ih (s + 1) (by omega) (by omega)) ⟨(by first | rfl | exact congrArg some (congrArg (Value.int _) (by omega))), (by first | rfl | exact congrArg some (congrArg (Value.int _) (by omega))), (by first | rfl | exact congrArg some (congrArg (Value.int _) (by omega))), (by first | rfl | exact congrArg some (congrArg (Value.int _) (by omega))), (by first | rfl | exact congrArg some (congrArg (Value.int _) (by omega))), (by first | rfl | exact congrArg some (congrArg (Value.int _) (by omega))), (by first | rfl | exact congrArg some (congrArg (Value.int _) (by omega))), (by first | rfl | exact congrArg some (congrArg (Value.int _) (by omega))), trivial⟩ (by repeat (first | exact Le.refl _ | refine Le.pick (by repeat first | exact Le.here _ _ | apply Le.there) ?_ | refine Le.lose ?_))
          | true =>
            refine XO.pu (Pu.move rfl) ?_
            refine XO.pu (Pu.extract rfl rfl) ?_
            refine XO.pu (Pu.extract rfl rfl) ?_
            refine XO.pu (Pu.extract rfl rfl) ?_
            refine XO.pu (Pu.assign rfl) ?_
            refine XO.pu (Pu.assign rfl) ?_
            refine XO.pu (Pu.assign rfl) ?_
            refine XO.nil ?_
            refine X.sub (p' := [(13, _), (12, _), (11, _), (10, _), (9, _), (0, _), (1, _), (2, _), (3, _)]) ⟨rfl, rfl, rfl, rfl, rfl, rfl, rfl, rfl, rfl, trivial⟩ ?_
            refine X.seq ?_
            refine X.seq ?_
            refine X.region ?_
            refine XO.pu (Pu.move rfl) ?_
            refine XO.pu (Pu.move rfl) ?_
            refine XO.know 60 (.bool true) rfl (congrArg Value.bool (rfl)) ?_
            refine XO.pu (Pu.move rfl) ?_
            refine XO.pu (Pu.lss rfl rfl) ?_
            refine XO.pu (Pu.pickT rfl rfl) ?_
            refine XO.nil ?_
            refine X.sub (p' := [(63, _), (13, _), (12, _), (11, _), (10, _), (9, _), (0, _), (1, _), (2, _), (3, _)]) ⟨rfl, rfl, rfl, rfl, rfl, rfl, rfl, rfl, rfl, rfl, trivial⟩ ?_
            refine X.cond rfl (fun h7 => ?_) (fun h7 => ?_)
            · skip
              have h7 := of_decide_eq_true h7
              refine X.region ?_
              refine XO.pu (Pu.move rfl) ?_
              refine XO.pu (Pu.move rfl) ?_
              refine XO.pu (Pu.indexAddr rfl rfl Try.underlying22 Try.sizeOf3 (by omega) (by omega)) ?_
              refine XO.rd (Rd.load rfl Try.isAgg3 (by first | exact Cl.of (by repeat first | exact Has.pto _ _ _ | exact Has.im _ _ _ | refine Has.there ?_) (by rfl) | exact Cl_le (hs'.at (n := s) rfl hlt) (by repeat (first | exact Le.refl _ | refine Le.pick (by repeat first | exact Le.here _ _ | apply Le.there) ?_ | refine Le.lose ?_)))) ?_
              refine XO.pu (Pu.assign rfl) ?_
              refine XO.nil ?_
              refine X.sub (p' := [(11, _), (13, _), (12, _), (10, _), (9, _), (0, _), (1, _), (2, _), (3, _)]) ⟨rfl, rfl, rfl, rfl, rfl, rfl, rfl, rfl, rfl, trivial⟩ ?_
              refine X.seq ?_
              refine X.region ?_
              refine XO.pu (Pu.move rfl) ?_
              refine XO.know 11 (.int .i64 (firsts every most l (s + 1))) rfl (by rw [hfs, if_pos ⟨rfl, h7⟩]) ?_
              have kk1 := gg2.ok.k1; have kk3 := gg2.ok.m2
              refine XO.callF Try.call18 (All_ok (p := p2) (b := b) gg2.ok) rfl (by repeat (first | exact Le.refl _ | refine Le.pick (by repeat first | exact Le.here _ _ | apply Le.there) ?_ | refine Le.lose ?_)) ?_
              rintro _ _ ⟨a3, c3, rfl, rfl⟩ q_ hq_
              simp only [List.cons_append, List.nil_append] at hq_; subst hq_
              rcases hfi with ⟨f1, f2⟩ | ⟨f1, f2⟩
              · skip
                exfalso; have := (he.2 rfl).2.1; rw [f2] at this; cases this
              · skip
                obtain ⟨z1, z2⟩ := at_head f2
                refine XO.addr (Sees.lsH _) (by simp; omega) (fun bk ok_ ek => ?_); subst ek
                obtain ⟨z3, z4⟩ := at_last (he.2 rfl).1
                have hs4 : Sees (lsH I 3 (some ⟨bk, ok_, none⟩) c3 p2.kept :: PtH b p2 :: (q ++ F)) (some ⟨bk, ok_, none⟩) (p2.kept.map I) := Sees.lsH _
                refine XO.pu (Pu.assign rfl) ?_
                refine XO.nil ?_
                refine X.sub (p' := [(16, _), (11, _), (13, _), (12, _), (10, _), (9, _), (0, _), (1, _), (2, _), (3, _)]) ⟨rfl, rfl, rfl, rfl, rfl, rfl, rfl, rfl, rfl, rfl, trivial⟩ ?_
                refine X.seq ?_
                refine X.draw [] Try.mixed (by kernel_rfl) (by kernel_rfl) rfl ?_
                refine XD.pu 0 rfl (Pu.move rfl) ?_
                refine XD.pu 1 rfl (Pu.len rfl Try.underlying22) ?_
                refine XD.pu 2 rfl (Pu.move rfl) ?_
                refine XD.pu 3 rfl (Pu.gtr rfl rfl) ?_
                refine XD.pu 4 rfl (Pu.move rfl) ?_
                refine XD.know 74 (.bool false) rfl (congrArg Value.bool (decide_eq_false (by omega))) ?_
                refine XD.pu 5 rfl (Pu.move rfl) ?_
                refine XD.pu 6 rfl (Pu.geq rfl rfl) ?_
                refine XD.pu 7 rfl (Pu.move rfl) ?_
                refine XD.know 77 (.bool true) rfl (congrArg Value.bool (decide_eq_true (by omega))) ?_
                refine XD.pu 8 rfl (Pu.move rfl) ?_
                refine XD.pu 9 rfl (Pu.len rfl Try.underlying22) ?_
                refine XD.pu 10 rfl (Pu.eql rfl rfl) ?_
                refine XD.pu 11 rfl (Pu.move rfl) ?_
                refine XD.know 81 (.bool false) rfl (congrArg Value.bool (by simp; intro e; rw [e] at z1; cases z1)) ?_
                refine XD.pu 12 rfl (Pu.move rfl) ?_
                refine XD.pu 13 rfl (Pu.indexAddr rfl rfl Try.underlying22 Try.sizeOf3 (by omega) (by omega)) ?_
                refine XD.load 14 rfl rfl Try.isAgg3 (by first | exact Cl.of (by repeat first | exact Has.pto _ _ _ | exact Has.im _ _ _ | refine Has.there ?_) (by rfl) | exact hs4.at (n := 0) rfl z1 | exact hs4.at (n := p2.kept.length - 1) (by omega) (by omega) | exact Cl_le (hs'.at (n := s) rfl hlt) (by repeat (first | exact Le.refl _ | refine Le.pick (by repeat first | exact Le.here _ _ | apply Le.there) ?_ | refine Le.lose ?_))) ?_
                refine XD.pu 15 rfl (Pu.move rfl) ?_
                refine XD.pu 16 rfl (Pu.neq rfl rfl) ?_
                refine XD.pu 17 rfl (Pu.pickF rfl rfl) ?_
                refine XD.pu 18 rfl (Pu.pickT rfl rfl) ?_
                refine XD.pu 19 rfl (Pu.pickF rfl rfl) ?_
                refine XD.pu 20 rfl (Pu.move rfl) ?_
                refine XD.know 90 (.bool false) rfl (congrArg Value.bool (by rw [z2]; simp)) ?_
                refine XD.pu 21 rfl (Pu.move rfl) ?_
                refine XD.pu 22 rfl (Pu.move rfl) ?_
                refine XD.know 92 (.bool true) rfl (congrArg Value.bool (rfl)) ?_
                refine XD.pu 23 rfl (Pu.move rfl) ?_
                refine XD.pu 24 rfl (Pu.move rfl) ?_
                refine XD.pu 25 rfl (Pu.len rfl Try.underlying22) ?_
                refine XD.pu 26 rfl (Pu.sub rfl rfl (by omega) (by omega)) ?_
                refine XD.pu 27 rfl (Pu.indexAddr rfl rfl Try.underlying22 Try.sizeOf3 (by omega) (by omega)) ?_
                refine XD.load 28 rfl rfl Try.isAgg3 (by first | exact Cl.of (by repeat first | exact Has.pto _ _ _ | exact Has.im _ _ _ | refine Has.there ?_) (by rfl) | exact hs4.at (n := 0) rfl z1 | exact hs4.at (n := p2.kept.length - 1) (by omega) (by omega) | exact Cl_le (hs'.at (n := s) rfl hlt) (by repeat (first | exact Le.refl _ | refine Le.pick (by repeat first | exact Le.here _ _ | apply Le.there) ?_ | refine Le.lose ?_))) ?_
                refine XD.pu 29 rfl (Pu.move rfl) ?_
                refine XD.pu 30 rfl (Pu.move rfl) ?_
                refine XD.pu 31 rfl (Pu.indexAddr rfl rfl Try.underlying22 Try.sizeOf3 (by omega) (by omega)) ?_
                refine XD.load 32 rfl rfl Try.isAgg3 (by first | exact Cl.of (by repeat first | exact Has.pto _ _ _ | exact Has.im _ _ _ | refine Has.there ?_) (by rfl) | exact hs4.at (n := 0) rfl z1 | exact hs4.at (n := p2.kept.length - 1) (by omega) (by omega) | exact Cl_le (hs'.at (n := s) rfl hlt) (by repeat (first | exact Le.refl _ | refine Le.pick (by repeat first | exact Le.here _ _ | apply Le.there) ?_ | refine Le.lose ?_))) ?_
                refine XD.pu 33 rfl (Pu.neq rfl rfl) ?_
                refine XD.pu 34 rfl (Pu.pickT rfl rfl) ?_
                refine XD.pu 35 rfl (Pu.pickF rfl rfl) ?_
                refine XD.nil ?_
                refine X.sub (p' := [(105, _), (11, _), (12, _), (10, _), (9, _), (0, _), (1, _), (2, _), (3, _)]) ⟨rfl, rfl, rfl, rfl, rfl, rfl, rfl, rfl, rfl, trivial⟩ ?_
                refine X.know 105 (.bool false) rfl (congrArg Value.bool (by rw [z4]; simp)) ?_
                refine X.condF rfl ?_
                refine X.skip ?_
                refine X.inBlock ?_
                refine X.region ?_
                refine XO.pu (Pu.move rfl) ?_
                refine XO.pu (Pu.add rfl rfl (by omega) (by omega)) ?_
                refine XO.pu (Pu.assign rfl) ?_
                refine XO.nil ?_
                refine X.sub (p' := [(12, _), (11, _), (10, _), (9, _), (0, _), (1, _), (2, _), (3, _)]) ⟨rfl, rfl, rfl, rfl, rfl, rfl, rfl, rfl, trivial⟩ ?_
                rw [← hst]
                refine X.at (ih (s + 1) (by omega) (by omega)) ⟨(by first | rfl | exact congrArg some (congrArg (Value.int _) (by omega))), (by first | rfl | exact congrArg some (congrArg (Value.int _) (by omega))), (by first | rfl | exact congrArg some (congrArg (Value.int _) (by omega))), (by first | rfl | exact congrArg some (congrArg (Value.int _) (by omega))), (by first | rfl | exact congrArg some (congrArg (Value.int _) (by omega))), (by first | rfl | exact congrArg some (congrArg (Value.int _) (by omega))), (by first | rfl | exact congrArg some (congrArg (Value.int _) (by omega))), (by first | rfl | exact congrArg some (congrArg (Value.int _) (by omega))), trivial⟩ (by repeat (first | exact Le.refl _ | refine Le.pick (by repeat first | exact Le.here _ _ | apply Le.there) ?_ | refine Le.lose ?_))
            · skip
              have h7 := of_decide_eq_false h7
              refine X.skip ?_
              refine X.seq ?_
              refine X.region ?_
              refine XO.pu (Pu.move rfl) ?_
              refine XO.know 11 (.int .i64 (firsts every most l (s + 1))) rfl (by rw [hfs, if_neg (fun e => h7 e.2)]) ?_
              have kk1 := gg2.ok.k1; have kk3 := gg2.ok.m2
              refine XO.callF Try.call18 (All_ok (p := p2) (b := b) gg2.ok) rfl (by repeat (first | exact Le.refl _ | refine Le.pick (by repeat first | exact Le.here _ _ | apply Le.there) ?_ | refine Le.lose ?_)) ?_
              rintro _ _ ⟨a3, c3, rfl, rfl⟩ q_ hq_
              simp only [List.cons_append, List.nil_append] at hq_; subst hq_
              rcases hfi with ⟨f1, f2⟩ | ⟨f1, f2⟩
              · skip
                exfalso; have := (he.2 rfl).2.1; rw [f2] at this; cases this
              · skip
                obtain ⟨z1, z2⟩ := at_head f2
                refine XO.addr (Sees.lsH _) (by simp; omega) (fun bk ok_ ek => ?_); subst ek
                obtain ⟨z3, z4⟩ := at_last (he.2 rfl).1
                have hs4 : Sees (lsH I 3 (some ⟨bk, ok_, none⟩) c3 p2.kept :: PtH b p2 :: (q ++ F)) (some ⟨bk, ok_, none⟩) (p2.kept.map I) := Sees.lsH _
                refine XO.pu (Pu.assign rfl) ?_
                refine XO.nil ?_
                refine X.sub (p' := [(16, _), (11, _), (13, _), (12, _), (10, _), (9, _), (0, _), (1, _), (2, _), (3, _)]) ⟨rfl, rfl, rfl, rfl, rfl, rfl, rfl, rfl, rfl, rfl, trivial⟩ ?_
                refine X.seq ?_
                refine X.draw [] Try.mixed (by kernel_rfl) (by kernel_rfl) rfl ?_
                refine XD.pu 0 rfl (Pu.move rfl) ?_
                refine XD.pu 1 rfl (Pu.len rfl Try.underlying22) ?_
                refine XD.pu 2 rfl (Pu.move rfl) ?_
                refine XD.pu 3 rfl (Pu.gtr rfl rfl) ?_
                refine XD.pu 4 rfl (Pu.move rfl) ?_
                refine XD.know 74 (.bool false) rfl (congrArg Value.bool (decide_eq_false (by omega))) ?_
                refine XD.pu 5 rfl (Pu.move rfl) ?_
                refine XD.pu 6 rfl (Pu.geq rfl rfl) ?_
                refine XD.pu 7 rfl (Pu.move rfl) ?_
                refine XD.know 77 (.bool true) rfl (congrArg Value.bool (decide_eq_true (by omega))) ?_
                refine XD.pu 8 rfl (Pu.move rfl) ?_
                refine XD.pu 9 rfl (Pu.len rfl Try.underlying22) ?_
                refine XD.pu 10 rfl (Pu.eql rfl rfl) ?_
                refine XD.pu 11 rfl (Pu.move rfl) ?_
                refine XD.know 81 (.bool false) rfl (congrArg Value.bool (by simp; intro e; rw [e] at z1; cases z1)) ?_
                refine XD.pu 12 rfl (Pu.move rfl) ?_
                refine XD.pu 13 rfl (Pu.indexAddr rfl rfl Try.underlying22 Try.sizeOf3 (by omega) (by omega)) ?_
                refine XD.load 14 rfl rfl Try.isAgg3 (by first | exact Cl.of (by repeat first | exact Has.pto _ _ _ | exact Has.im _ _ _ | refine Has.there ?_) (by rfl) | exact hs4.at (n := 0) rfl z1 | exact hs4.at (n := p2.kept.length - 1) (by omega) (by omega) | exact Cl_le (hs'.at (n := s) rfl hlt) (by repeat (first | exact Le.refl _ | refine Le.pick (by repeat first | exact Le.here _ _ | apply Le.there) ?_ | refine Le.lose ?_))) ?_
                refine XD.pu 15 rfl (Pu.move rfl) ?_
                refine XD.pu 16 rfl (Pu.neq rfl rfl) ?_
                refine XD.pu 17 rfl (Pu.pickF rfl rfl) ?_
                refine XD.pu 18 rfl (Pu.pickT rfl rfl) ?_
                refine XD.pu 19 rfl (Pu.pickF rfl rfl) ?_
                refine XD.pu 20 rfl (Pu.move rfl) ?_
                refine XD.know 90 (.bool false) rfl (congrArg Value.bool (by rw [z2]; simp)) ?_
                refine XD.pu 21 rfl (Pu.move rfl) ?_
                refine XD.pu 22 rfl (Pu.move rfl) ?_
                refine XD.know 92 (.bool true) rfl (congrArg Value.bool (rfl)) ?_
                refine XD.pu 23 rfl (Pu.move rfl) ?_
                refine XD.pu 24 rfl (Pu.move rfl) ?_
                refine XD.pu 25 rfl (Pu.len rfl Try.underlying22) ?_
                refine XD.pu 26 rfl (Pu.sub rfl rfl (by omega) (by omega)) ?_
                refine XD.pu 27 rfl (Pu.indexAddr rfl rfl Try.underlying22 Try.sizeOf3 (by omega) (by omega)) ?_
                refine XD.load 28 rfl rfl Try.isAgg3 (by first | exact Cl.of (by repeat first | exact Has.pto _ _ _ | exact Has.im _ _ _ | refine Has.there ?_) (by rfl) | exact hs4.at (n := 0) rfl z1 | exact hs4.at (n := p2.kept.length - 1) (by omega) (by omega) | exact Cl_le (hs'.at (n := s) rfl hlt) (by repeat (first | exact Le.refl _ | refine Le.pick (by repeat first | exact Le.here _ _ | apply Le.there) ?_ | refine Le.lose ?_))) ?_
                refine XD.pu 29 rfl (Pu.move rfl) ?_
                refine XD.pu 30 rfl (Pu.move rfl) ?_
                refine XD.pu 31 rfl (Pu.indexAddr rfl rfl Try.underlying22 Try.sizeOf3 (by omega) (by omega)) ?_
                refine XD.load 32 rfl rfl Try.isAgg3 (by first | exact Cl.of (by repeat first | exact Has.pto _ _ _ | exact Has.im _ _ _ | refine Has.there ?_) (by rfl) | exact hs4.at (n := 0) rfl z1 | exact hs4.at (n := p2.kept.length - 1) (by omega) (by omega) | exact Cl_le (hs'.at (n := s) rfl hlt) (by repeat (first | exact Le.refl _ | refine Le.pick (by repeat first | exact Le.here _ _ | apply Le.there) ?_ | refine Le.lose ?_))) ?_
                refine XD.pu 33 rfl (Pu.neq rfl rfl) ?_
                refine XD.pu 34 rfl (Pu.pickT rfl rfl) ?_
                refine XD.pu 35 rfl (Pu.pickF rfl rfl) ?_
                refine XD.nil ?_
                refine X.sub (p' := [(105, _), (11, _), (12, _), (10, _), (9, _), (0, _), (1, _), (2, _), (3, _)]) ⟨rfl, rfl, rfl, rfl, rfl, rfl, rfl, rfl, rfl, trivial⟩ ?_
                refine X.know 105 (.bool false) rfl (congrArg Value.bool (by rw [z4]; simp)) ?_
                refine X.condF rfl ?_
                refine X.skip ?_
                refine X.inBlock ?_
                refine X.region ?_
                refine XO.pu (Pu.move rfl) ?_
                refine XO.pu (Pu.add rfl rfl (by omega) (by omega)) ?_
                refine XO.pu (Pu.assign rfl) ?_
                refine XO.nil ?_
                refine X.sub (p' := [(12, _), (11, _), (10, _), (9, _), (0, _), (1, _), (2, _), (3, _)]) ⟨rfl, rfl, rfl, rfl, rfl, rfl, rfl, rfl, trivial⟩ ?_
                rw [← hst]
                refine X.at (ih (s + 1) (by omega) (by omega)) ⟨(by first | rfl | exact congrArg some (congrArg (Value.int _) (by omega))), (by first | rfl | exact congrArg some (congrArg (Value.int _) (by omega))), (by first | rfl | exact congrArg some (congrArg (Value.int _) (by omega))), (by first | rfl | exact congrArg some (congrArg (Value.int _) (by omega))), (by first | rfl | exact congrArg some (congrArg (Value.int _) (by omega))), (by first | rfl | exact congrArg some (congrArg (Value.int _) (by omega))), (by first | rfl | exact congrArg some (congrArg (Value.int _) (by omega))), (by first | rfl | exact congrArg some (congrArg (Value.int _) (by omega))), trivial⟩ (by repeat (first | exact Le.refl _ | refine Le.pick (by repeat first | exact Le.here _ _ | apply Le.there) ?_ | refine Le.lose ?_))
        · skip
          refine X.exit rfl ?_
          refine X.seq ?_
          refine X.region ?_
          refine XO.pu (Pu.move rfl) ?_
          refine XO.pu (Pu.move rfl) ?_
          refine XO.callF Try.call16 (New_yes h1 h2 h3 h4) rfl (by repeat (first | exact Le.refl _ | refine Le.pick (by repeat first | exact Le.here _ _ | apply Le.there) ?_ | refine Le.lose ?_)) ?_
          rintro _ _ ⟨b4, rfl, rfl⟩ q_ hq_
          simp only [List.cons_append, List.nil_append] at hq_; subst hq_
          refine XO.pu (Pu.move rfl) ?_
          refine XO.pu (Pu.extract rfl rfl) ?_
          refine XO.pu (Pu.extract rfl rfl) ?_
          refine XO.pu (Pu.assign rfl) ?_
          refine XO.pu (Pu.assign rfl) ?_
          refine XO.nil ?_
          refine X.sub (p' := [(18, _), (17, _), (10, _), (0, _), (1, _), (3, _)]) ⟨rfl, rfl, rfl, rfl, rfl, rfl, trivial⟩ ?_
          refine X.seq ?_
          refine X.seq ?_
          refine X.region ?_
          refine XO.pu (Pu.assign rfl) ?_
          refine XO.nil ?_
          refine X.sub (p' := [(19, _), (18, _), (17, _), (10, _), (0, _), (1, _), (3, _)]) ⟨rfl, rfl, rfl, rfl, rfl, rfl, rfl, trivial⟩ ?_
          refine X.block ?_
          refine X.at (X.loop (fun (s : Nat) => (s : Int) ≤ t) (fun s => [(19, .int .i64 (s : Int)), (18, .int .i64 0), (17, .pointer (some ⟨b4, 0, none⟩)), (10, .int .i64 0), (0, .int .i64 every), (1, .int .i64 most), (3, .int .i64 t)]) (fun s => PtH b4 (runs every most s) :: (q ++ F)) (fun s => t.toNat - s) (fun s hi_ ih => ?_) 0 (by omega)) ⟨(by first | rfl | exact congrArg some (congrArg (Value.int _) (by omega))), (by first | rfl | exact congrArg some (congrArg (Value.int _) (by omega))), (by first | rfl | exact congrArg some (congrArg (Value.int _) (by omega))), (by first | rfl | exact congrArg some (congrArg (Value.int _) (by omega))), (by first | rfl | exact congrArg some (congrArg (Value.int _) (by omega))), (by first | rfl | exact congrArg some (congrArg (Value.int _) (by omega))), (by first | rfl | exact congrArg some (congrArg (Value.int _) (by omega))), trivial⟩ (by repeat (first | exact Le.refl _ | refine Le.pick (by repeat first | exact Le.here _ _ | apply Le.there) ?_ | refine Le.lose ?_))
          try dsimp only at hi_ ih ⊢
          obtain hi := hi_
          refine X.seq ?_
          refine X.seq ?_
          refine X.region ?_
          refine XO.pu (Pu.move rfl) ?_
          refine XO.pu (Pu.move rfl) ?_
          refine XO.pu (Pu.lss rfl rfl) ?_
          refine XO.nil ?_
          refine X.sub (p' := [(114, _), (19, _), (18, _), (17, _), (10, _), (0, _), (1, _), (3, _)]) ⟨rfl, rfl, rfl, rfl, rfl, rfl, rfl, rfl, trivial⟩ ?_
          refine X.cond rfl (fun h7 => ?_) (fun h7 => ?_)
          · skip
            have h7 := of_decide_eq_true h7
            have rg := runs_good h1 h2 h3 h4 s
            have rg2 := runs_good h1 h2 h3 h4 (s + 1)
            have hmo := (runs_em every most (s + 1)).2
            have kk := rg2.ok.k1
            refine X.skip ?_
            refine X.seq ?_
            refine X.block ?_
            refine X.seq ?_
            refine X.region ?_
            refine XO.pu (Pu.move rfl) ?_
            refine XO.pu (Pu.move rfl) ?_
            refine XO.callF Try.call17 (Come_ok (p := runs every most s) (b := b4) (t := s) rg.ok rg.gone_le (by omega)) rfl (by repeat (first | exact Le.refl _ | refine Le.pick (by repeat first | exact Le.here _ _ | apply Le.there) ?_ | refine Le.lose ?_)) ?_
            rintro _ _ ⟨rfl, rfl⟩ q_ hq_
            simp only [List.cons_append, List.nil_append] at hq_; subst hq_
            rw [show ((runs every most s).come s).1 = runs every most (s + 1) from rfl]
            refine XO.nil ?_
            refine X.sub (p' := [(19, _), (18, _), (17, _), (10, _), (0, _), (1, _), (3, _)]) ⟨rfl, rfl, rfl, rfl, rfl, rfl, rfl, trivial⟩ ?_
            refine X.seq ?_
            refine X.region ?_
            refine XO.pu (Pu.move rfl) ?_
            refine XO.callF Try.call18 (All_ok (p := runs every most (s + 1)) (b := b4) rg2.ok) rfl (by repeat (first | exact Le.refl _ | refine Le.pick (by repeat first | exact Le.here _ _ | apply Le.there) ?_ | refine Le.lose ?_)) ?_
            rintro _ _ ⟨a5, c5, rfl, rfl⟩ q_ hq_
            simp only [List.cons_append, List.nil_append] at hq_; subst hq_
            refine XO.pu (Pu.len rfl Try.underlying22) ?_
            refine XO.pu (Pu.move rfl) ?_
            refine XO.pu (Pu.gtr rfl rfl) ?_
            refine XO.nil ?_
            refine X.sub (p' := [(124, _), (19, _), (18, _), (17, _), (10, _), (0, _), (1, _), (3, _)]) ⟨rfl, rfl, rfl, rfl, rfl, rfl, rfl, rfl, trivial⟩ ?_
            refine X.know 124 (.bool false) rfl (congrArg Value.bool (decide_eq_false (by omega))) ?_
            refine X.condF rfl ?_
            refine X.skip ?_
            refine X.inBlock ?_
            refine X.region ?_
            refine XO.pu (Pu.move rfl) ?_
            refine XO.pu (Pu.add rfl rfl (by omega) (by omega)) ?_
            refine XO.pu (Pu.assign rfl) ?_
            refine XO.nil ?_
            refine X.sub (p' := [(19, _), (18, _), (17, _), (10, _), (0, _), (1, _), (3, _)]) ⟨rfl, rfl, rfl, rfl, rfl, rfl, rfl, trivial⟩ ?_
            refine X.at (ih (s + 1) (by omega) (by omega)) ⟨(by first | rfl | exact congrArg some (congrArg (Value.int _) (by omega))), (by first | rfl | exact congrArg some (congrArg (Value.int _) (by omega))), (by first | rfl | exact congrArg some (congrArg (Value.int _) (by omega))), (by first | rfl | exact congrArg some (congrArg (Value.int _) (by omega))), (by first | rfl | exact congrArg some (congrArg (Value.int _) (by omega))), (by first | rfl | exact congrArg some (congrArg (Value.int _) (by omega))), (by first | rfl | exact congrArg some (congrArg (Value.int _) (by omega))), trivial⟩ (by repeat (first | exact Le.refl _ | refine Le.pick (by repeat first | exact Le.here _ _ | apply Le.there) ?_ | refine Le.lose ?_))
          · skip
            have h7 : (s : Int) = t := by have := of_decide_eq_false h7; omega
            have rg := runs_good h1 h2 h3 h4 s
            obtain ⟨C, cnt⟩ := runs_cnt h1 h2 h3 h4 s (by omega)
            refine X.exit rfl ?_
            refine X.seq ?_
            refine X.seq ?_
            refine X.region ?_
            refine XO.pu (Pu.assign rfl) ?_
            refine XO.nil ?_
            refine X.sub (p' := [(20, _), (18, _), (17, _), (10, _), (0, _), (3, _)]) ⟨rfl, rfl, rfl, rfl, rfl, rfl, trivial⟩ ?_
            refine X.block ?_
            refine X.at (X.loop (fun (j : Nat) => (j : Int) ≤ t) (fun j => [(20, .int .i64 (j : Int)), (18, .int .i64 0), (17, .pointer (some ⟨b4, 0, none⟩)), (10, .int .i64 0), (0, .int .i64 every), (3, .int .i64 t)]) (fun j => PtH b4 (runs every most s) :: (q ++ F)) (fun j => t.toNat - j) (fun j hi_ ih2 => ?_) 0 (by omega)) ⟨(by first | rfl | exact congrArg some (congrArg (Value.int _) (by omega))), (by first | rfl | exact congrArg some (congrArg (Value.int _) (by omega))), (by first | rfl | exact congrArg some (congrArg (Value.int _) (by omega))), (by first | rfl | exact congrArg some (congrArg (Value.int _) (by omega))), (by first | rfl | exact congrArg some (congrArg (Value.int _) (by omega))), (by first | rfl | exact congrArg some (congrArg (Value.int _) (by omega))), trivial⟩ (by repeat (first | exact Le.refl _ | refine Le.pick (by repeat first | exact Le.here _ _ | apply Le.there) ?_ | refine Le.lose ?_))
            try dsimp only at hi_ ih2 ⊢
            obtain hj := hi_
            refine X.seq ?_
            refine X.seq ?_
            refine X.region ?_
            refine XO.pu (Pu.move rfl) ?_
            refine XO.pu (Pu.move rfl) ?_
            refine XO.pu (Pu.lss rfl rfl) ?_
            refine XO.nil ?_
            refine X.sub (p' := [(127, _), (20, _), (18, _), (17, _), (10, _), (0, _), (3, _)]) ⟨rfl, rfl, rfl, rfl, rfl, rfl, rfl, trivial⟩ ?_
            refine X.cond rfl (fun h8 => ?_) (fun h8 => ?_)
            · skip
              have h8 := of_decide_eq_true h8
              obtain ⟨y1, y2, y3⟩ := far_few (t := (j : Int)) h1 rg cnt (by omega) (by omega)
              have y4 := rg.gone_le
              have y5 : 0 ≤ ((j : Int) - bst (runs every most s).kept j) / every := Int.ediv_nonneg (by omega) (by omega)
              refine X.skip ?_
              refine X.seq ?_
              refine X.block ?_
              refine X.seq ?_
              refine X.region ?_
              refine XO.pu (Pu.move rfl) ?_
              refine XO.pu (Pu.move rfl) ?_
              refine XO.callF Try.call19 (Far_ok (p := runs every most s) (b := b4) (t := (j : Int)) rg (by omega)) rfl (by repeat (first | exact Le.refl _ | refine Le.pick (by repeat first | exact Le.here _ _ | apply Le.there) ?_ | refine Le.lose ?_)) ?_
              rintro _ _ ⟨rfl, rfl⟩ q_ hq_
              simp only [List.cons_append, List.nil_append] at hq_; subst hq_
              rw [if_neg (by omega), if_neg (by omega)]
              refine XO.pu (Pu.move rfl) ?_
              refine XO.pu (Pu.extract rfl rfl) ?_
              refine XO.pu (Pu.extract rfl rfl) ?_
              refine XO.pu (Pu.assign rfl) ?_
              refine XO.pu (Pu.assign rfl) ?_
              refine XO.nil ?_
              refine X.sub (p' := [(22, _), (21, _), (20, _), (18, _), (17, _), (10, _), (0, _), (3, _)]) ⟨rfl, rfl, rfl, rfl, rfl, rfl, rfl, rfl, trivial⟩ ?_
              refine X.seq ?_
              refine X.draw [] Try.mixed (by kernel_rfl) (by kernel_rfl) rfl ?_
              refine XD.pu 0 rfl (Pu.move rfl) ?_
              refine XD.callF 1 Try.call20 (num_ok _) rfl rfl (by repeat (first | exact Le.refl _ | refine Le.pick (by repeat first | exact Le.here _ _ | apply Le.there) ?_ | refine Le.lose ?_)) ?_
              rintro _ _ ⟨rfl, rfl⟩ q_ hq_
              simp only [List.cons_append, List.nil_append] at hq_; subst hq_
              refine ⟨trivial, ?_⟩
              refine XD.pu 2 rfl (Pu.neq rfl rfl) ?_
              refine XD.pu 3 rfl (Pu.move rfl) ?_
              refine XD.know 139 (.bool false) rfl (congrArg Value.bool (rfl)) ?_
              refine XD.pu 4 rfl (Pu.move rfl) ?_
              refine XD.pu 5 rfl (Pu.lss rfl rfl) ?_
              refine XD.pu 6 rfl (Pu.pickF rfl rfl) ?_
              refine XD.pu 7 rfl (Pu.move rfl) ?_
              refine XD.know 143 (.bool false) rfl (congrArg Value.bool (decide_eq_false (by omega))) ?_
              refine XD.pu 8 rfl (Pu.move rfl) ?_
              refine XD.pu 9 rfl (Pu.move rfl) ?_
              refine XD.pu 10 rfl (Pu.quoW rfl rfl (by omega)) ?_
              refine XD.pu 11 rfl (Pu.move rfl) ?_
              refine XD.callF 12 Try.call21 (Gone_ok (p := runs every most s) (b := b4) rg.ok) rfl rfl (by repeat (first | exact Le.refl _ | refine Le.pick (by repeat first | exact Le.here _ _ | apply Le.there) ?_ | refine Le.lose ?_)) ?_
              rintro _ _ ⟨rfl, rfl⟩ q_ hq_
              simp only [List.cons_append, List.nil_append] at hq_; subst hq_
              refine ⟨trivial, ?_⟩
              refine XD.pu 13 rfl (Pu.add rfl rfl (by omega) (by omega)) ?_
              refine XD.pu 14 rfl (Pu.geq rfl rfl) ?_
              refine XD.pu 15 rfl (Pu.pickF rfl rfl) ?_
              refine XD.nil ?_
              refine X.sub (p' := [(151, _), (20, _), (18, _), (17, _), (10, _), (0, _), (3, _)]) ⟨rfl, rfl, rfl, rfl, rfl, rfl, rfl, trivial⟩ ?_
              refine X.know 151 (.bool false) rfl (congrArg Value.bool (decide_eq_false (by rw [Int.tdiv_eq_ediv_of_nonneg (by omega), IntKind.wrap_i64]; omega))) ?_
              refine X.condF rfl ?_
              refine X.skip ?_
              refine X.inBlock ?_
              refine X.region ?_
              refine XO.pu (Pu.move rfl) ?_
              refine XO.pu (Pu.add rfl rfl (by omega) (by omega)) ?_
              refine XO.pu (Pu.assign rfl) ?_
              refine XO.nil ?_
              refine X.sub (p' := [(20, _), (18, _), (17, _), (10, _), (0, _), (3, _)]) ⟨rfl, rfl, rfl, rfl, rfl, rfl, trivial⟩ ?_
              refine X.at (ih2 (j + 1) (by omega) (by omega)) ⟨(by first | rfl | exact congrArg some (congrArg (Value.int _) (by omega))), (by first | rfl | exact congrArg some (congrArg (Value.int _) (by omega))), (by first | rfl | exact congrArg some (congrArg (Value.int _) (by omega))), (by first | rfl | exact congrArg some (congrArg (Value.int _) (by omega))), (by first | rfl | exact congrArg some (congrArg (Value.int _) (by omega))), (by first | rfl | exact congrArg some (congrArg (Value.int _) (by omega))), trivial⟩ (by repeat (first | exact Le.refl _ | refine Le.pick (by repeat first | exact Le.here _ _ | apply Le.there) ?_ | refine Le.lose ?_))
            · skip
              refine X.exit rfl ?_
              refine X.seq ?_
              refine X.region ?_
              refine XO.pu (Pu.move rfl) ?_
              refine XO.callF Try.call20 (num_ok _) rfl (by repeat (first | exact Le.refl _ | refine Le.pick (by repeat first | exact Le.here _ _ | apply Le.there) ?_ | refine Le.lose ?_)) ?_
              rintro _ _ ⟨rfl, rfl⟩ q_ hq_
              simp only [List.cons_append, List.nil_append] at hq_; subst hq_
              refine XO.pu (Pu.move rfl) ?_
              refine XO.callF Try.call20 (num_ok _) rfl (by repeat (first | exact Le.refl _ | refine Le.pick (by repeat first | exact Le.here _ _ | apply Le.there) ?_ | refine Le.lose ?_)) ?_
              rintro _ _ ⟨rfl, rfl⟩ q_ hq_
              simp only [List.cons_append, List.nil_append] at hq_; subst hq_
              refine XO.pu (Pu.add rfl rfl (by omega) (by omega)) ?_
              refine XO.pu (Pu.eql rfl rfl) ?_
              refine XO.pu (Pu.move rfl) ?_
              refine XO.know 158 (.bool true) rfl (congrArg Value.bool (rfl)) ?_
              refine XO.callF Try.call11 (works_ok) rfl (by repeat (first | exact Le.refl _ | refine Le.pick (by repeat first | exact Le.here _ _ | apply Le.there) ?_ | refine Le.lose ?_)) ?_
              rintro _ _ ⟨rfl, rfl⟩ q_ hq_
              simp only [List.cons_append, List.nil_append] at hq_; subst hq_
              refine XO.pu (Pu.pickT rfl rfl) ?_
              refine XO.pu (Pu.assign rfl) ?_
              refine XO.nil ?_
              refine X.sub (p' := [(8, _)]) ⟨rfl, trivial⟩ ?_
              refine X.ret ⟨rfl, Lv.ret (q' := q) Try.func6 (res1 Try.results6 rfl) ⟨_, rfl, rfl, rfl⟩ (by repeat (first | exact Le.refl _ | refine Le.pick (by repeat first | exact Le.here _ _ | apply Le.there) ?_ | refine Le.lose ?_))⟩
end
end Go.Proofs.Ytjfkkdohpfbilaa

