/- What functions of package points, and of its laws, do: contracts of calls, proved by walking their code. -/
import Derived.Test.YtjfkkdohpfbilaaI
import Derived.KernelRfl
set_option maxRecDepth 100000
set_option linter.unusedVariables false
set_option linter.unusedSimpArgs false
namespace Go.Proofs.Ytjfkkdohpfbilaa
open Go Go.RowKit Wx

section
variable {G : World} {p p2 : Pt} {b b2 : Nat} {t : Int} {q : List HP} {a a' : Option Addr} {c c' : Nat} {l m : List Int} {every most : Int}
theorem Pt.Good.rl_max (g : p.Good) : ((if p.came = true then p.last else 0) == max 0 p.rl) = true := by
  have h0 := g.l0
  unfold Pt.rl
  by_cases hc : p.came = true
  · rw [if_pos hc, if_pos hc]; simp; omega
  · rw [if_neg hc, if_neg hc]; decide
theorem is_ok (g : p.Good) : CallF Try.prog G 14 [.pointer (some ⟨b, 0, none⟩), refV p a c] [PtH b p, lsM I 3 a c p.kept] (Ret fun v q' => v = .bool true ∧ q' = [PtH b p, lsM I 3 a c p.kept]) := by
  refine CallF.of Try.func14 Try.ntmps14 rfl (fun F cs => ?_)
  refine X.sub (p' := [(0, _), (1, _)]) ⟨rfl, rfl, trivial⟩ ?_
  have k1 := g.ok.k1; have m2 := g.ok.m2
  refine X.seq ?_
  refine X.region ?_
  refine XO.ef (Ef.box rfl) ?_
  rintro _ _ ⟨n1, rfl, rfl⟩
  refine XO.pu (Pu.assign rfl) ?_
  refine XO.nil ?_
  refine X.sub (p' := [(4, _), (3, _), (0, _)]) ⟨rfl, rfl, rfl, trivial⟩ ?_
  refine X.seq ?_
  refine X.region ?_
  refine XO.pu (Pu.move rfl) ?_
  refine XO.callF Try.call27 (Last_ok (p := p) (b := b) g.ok) rfl (by repeat (first | exact Le.refl _ | refine Le.pick (by repeat first | exact Le.here _ _ | apply Le.there) ?_ | refine Le.lose ?_)) ?_
  rintro _ _ ⟨rfl, rfl⟩ q_ hq_
  simp only [List.cons_append, List.nil_append] at hq_; subst hq_
  refine XO.pu (Pu.move rfl) ?_
  refine XO.pu (Pu.extract rfl rfl) ?_
  refine XO.pu (Pu.extract rfl rfl) ?_
  refine XO.pu (Pu.assign rfl) ?_
  refine XO.pu (Pu.assign rfl) ?_
  refine XO.nil ?_
  refine X.sub (p' := [(6, _), (5, _), (4, _), (3, _), (0, _)]) ⟨rfl, rfl, rfl, rfl, rfl, trivial⟩ ?_
  refine X.seq ?_
  refine X.draw [] Try.mixed (by kernel_rfl) (by kernel_rfl) rfl ?_
  refine XD.pu 0 rfl (Pu.move rfl) ?_
  refine XD.pu 2 rfl (Pu.fieldAddr 22 2 0 rfl Try.underlying27 rfl Try.sizeOf22) ?_
  refine XD.load 3 rfl rfl Try.isAgg22 (Cl.of (by repeat first | exact Has.pto _ _ _ | exact Has.im _ _ _ | refine Has.there ?_) (by rfl)) ?_
  refine XD.callF 1 Try.call18 (All_ok (p := p) (b := b) g.ok) rfl rfl (by repeat (first | exact Le.refl _ | refine Le.pick (by repeat first | exact Le.here _ _ | apply Le.there) ?_ | refine Le.lose ?_)) ?_
  rintro _ _ ⟨a2, c2, rfl, rfl⟩ q_ hq_
  simp only [List.cons_append, List.nil_append] at hq_; subst hq_
  refine ⟨⟨(Cl.of (by repeat first | exact Has.pto _ _ _ | exact Has.im _ _ _ | refine Has.there ?_) (by rfl)), trivial⟩, ?_⟩
  refine XD.callF 4 Try.call28 (ints_ok (q := [lsH I 3 a2 c2 p.kept, lsM I 3 a c p.kept]) (l := p.kept) (m := p.kept) (a := a2) (b := a) (c := c2) (c' := c) (Sees.lsH _) (Sees.lsM _).there (by omega) (by omega)) rfl rfl (by repeat (first | exact Le.refl _ | refine Le.pick (by repeat first | exact Le.here _ _ | apply Le.there) ?_ | refine Le.lose ?_)) ?_
  rintro _ _ ⟨rfl, rfl⟩ q_ hq_
  simp only [List.cons_append, List.nil_append] at hq_; subst hq_
  refine ⟨trivial, ?_⟩
  refine XD.pu 5 rfl (Pu.move rfl) ?_
  refine XD.know 17 (.bool true) rfl (congrArg Value.bool (by simp)) ?_
  refine XD.pu 6 rfl (Pu.move rfl) ?_
  refine XD.pu 8 rfl (Pu.fieldAddr 3 3 0 rfl Try.underlying27 rfl Try.sizeOf3) ?_
  refine XD.load 9 rfl rfl Try.isAgg3 (Cl.of (by repeat first | exact Has.pto _ _ _ | exact Has.im _ _ _ | refine Has.there ?_) (by rfl)) ?_
  refine XD.callF 7 Try.call21 (Gone_ok (p := p) (b := b) g.ok) rfl rfl (by repeat (first | exact Le.refl _ | refine Le.pick (by repeat first | exact Le.here _ _ | apply Le.there) ?_ | refine Le.lose ?_)) ?_
  rintro _ _ ⟨rfl, rfl⟩ q_ hq_
  simp only [List.cons_append, List.nil_append] at hq_; subst hq_
  refine ⟨⟨(Cl.of (by repeat first | exact Has.pto _ _ _ | exact Has.im _ _ _ | refine Has.there ?_) (by rfl)), trivial⟩, ?_⟩
  refine XD.pu 10 rfl (Pu.eql rfl rfl) ?_
  refine XD.pu 11 rfl (Pu.pickT rfl rfl) ?_
  refine XD.pu 12 rfl (Pu.move rfl) ?_
  refine XD.know 24 (.bool true) rfl (congrArg Value.bool (by simp)) ?_
  refine XD.pu 13 rfl (Pu.move rfl) ?_
  refine XD.pu 14 rfl (Pu.fieldAddr 3 4 0 rfl Try.underlying27 rfl Try.sizeOf3) ?_
  refine XD.load 15 rfl rfl Try.isAgg3 (Cl.of (by repeat first | exact Has.pto _ _ _ | exact Has.im _ _ _ | refine Has.there ?_) (by rfl)) ?_
  refine XD.pu 16 rfl (Pu.geq rfl rfl) ?_
  refine XD.pu 17 rfl (Pu.eqlB rfl rfl Try.underlying4) ?_
  refine XD.pu 18 rfl (Pu.pickT rfl rfl) ?_
  refine XD.pu 19 rfl (Pu.move rfl) ?_
  refine XD.know 31 (.bool true) rfl (congrArg Value.bool (by unfold Pt.rl; cases hc : p.came; rfl; have := g.l0; simp; omega)) ?_
  refine XD.pu 20 rfl (Pu.move rfl) ?_
  refine XD.pu 21 rfl (Pu.fieldAddr 3 4 0 rfl Try.underlying27 rfl Try.sizeOf3) ?_
  refine XD.load 22 rfl rfl Try.isAgg3 (Cl.of (by repeat first | exact Has.pto _ _ _ | exact Has.im _ _ _ | refine Has.there ?_) (by rfl)) ?_
  refine XD.pu 23 rfl (Pu.max2 rfl rfl) ?_
  refine XD.pu 24 rfl (Pu.eql rfl rfl) ?_
  refine XD.pu 25 rfl (Pu.pickT rfl rfl) ?_
  refine XD.pu 26 rfl (Pu.assign rfl) ?_
  refine XD.nil ?_
  refine X.sub (p' := [(4, _)]) ⟨rfl, trivial⟩ ?_
  refine X.ret ⟨rfl, Lv.ret (q' := [PtH b p, lsM I 3 a c p.kept]) Try.func14 (res1 Try.results14 rfl) ⟨_, rfl, congrArg Value.bool g.rl_max, rfl⟩ (by repeat (first | exact Le.refl _ | refine Le.pick (by repeat first | exact Le.here _ _ | apply Le.there) ?_ | refine Le.lose ?_))⟩
theorem small_ok {n : Nat} : CallF Try.prog G 10 [.int .i64 every, .int .i64 most, .slice a n c] [] (Ret fun v q' => v = .bool (decide (1 ≤ every ∧ every ≤ 1073741824 ∧ 2 ≤ most ∧ most ≤ 4096 ∧ n ≤ 200)) ∧ q' = []) := by
  refine CallF.of Try.func10 Try.ntmps10 rfl (fun F cs => ?_)
  refine X.sub (p' := [(0, _), (1, _), (2, _)]) ⟨rfl, rfl, rfl, trivial⟩ ?_
  by_cases h : 1 ≤ every ∧ every ≤ 1073741824 ∧ 2 ≤ most ∧ most ≤ 4096
  · skip
    obtain ⟨h1, h2, h3, h4⟩ := h
    refine X.seq ?_
    refine X.region ?_
    refine XO.pu (Pu.assign rfl) ?_
    refine XO.nil ?_
    refine X.sub (p' := [(6, _), (0, _), (1, _), (2, _)]) ⟨rfl, rfl, rfl, rfl, trivial⟩ ?_
    refine X.seq ?_
    refine X.region ?_
    refine XO.pu (Pu.move rfl) ?_
    refine XO.pu (Pu.move rfl) ?_
    refine XO.callF Try.call26 (RNew_yes h1 h2 h3 h4) rfl (by repeat (first | exact Le.refl _ | refine Le.pick (by repeat first | exact Le.here _ _ | apply Le.there) ?_ | refine Le.lose ?_)) ?_
    rintro _ _ ⟨rfl, rfl⟩ q_ hq_
    simp only [List.cons_append, List.nil_append] at hq_; subst hq_
    refine XO.pu (Pu.move rfl) ?_
    refine XO.pu (Pu.extract rfl rfl) ?_
    refine XO.pu (Pu.extract rfl rfl) ?_
    refine XO.ef (Ef.alloc Try.zeroValue27) ?_
    rintro _ _ ⟨n2, rfl, rfl⟩
    refine XO.ef0 (Ef.storeA rfl rfl Try.sizeOf27 rfl rfl (by repeat first | exact Le.here _ _ | apply Le.there) rfl) ?_
    rintro _ _ ⟨rfl, rfl⟩
    refine XO.pu (Pu.assign rfl) ?_
    refine XO.nil ?_
    refine X.sub (p' := [(8, _), (6, _), (2, _)]) ⟨rfl, rfl, rfl, trivial⟩ ?_
    refine X.seq ?_
    refine X.region ?_
    refine XO.pu (Pu.move rfl) ?_
    refine XO.pu (Pu.eql rfl rfl) ?_
    refine XO.pu (Pu.move rfl) ?_
    refine XO.know 17 (.bool true) rfl (congrArg Value.bool (rfl)) ?_
    refine XO.pu (Pu.move rfl) ?_
    refine XO.pu (Pu.len rfl Try.underlying22) ?_
    refine XO.pu (Pu.leq rfl rfl) ?_
    refine XO.pu (Pu.pickT rfl rfl) ?_
    refine XO.pu (Pu.assign rfl) ?_
    refine XO.nil ?_
    refine X.sub (p' := [(6, _)]) ⟨rfl, trivial⟩ ?_
    refine X.ret ⟨rfl, Lv.ret (q' := []) Try.func10 (res1 Try.results10 rfl) ⟨_, rfl, congrArg Value.bool (by simp [h1, h2, h3, h4]; omega), rfl⟩ (by repeat (first | exact Le.refl _ | refine Le.pick (by repeat first | exact Le.here _ _ | apply Le.there) ?_ | refine Le.lose ?_))⟩
  · skip
    refine X.seq ?_
    refine X.region ?_
    refine XO.pu (Pu.assign rfl) ?_
    refine XO.nil ?_
    refine X.sub (p' := [(6, _), (0, _), (1, _), (2, _)]) ⟨rfl, rfl, rfl, rfl, trivial⟩ ?_
    refine X.seq ?_
    refine X.region ?_
    refine XO.pu (Pu.move rfl) ?_
    refine XO.pu (Pu.move rfl) ?_
    refine XO.callF Try.call26 (RNew_no h) rfl (by repeat (first | exact Le.refl _ | refine Le.pick (by repeat first | exact Le.here _ _ | apply Le.there) ?_ | refine Le.lose ?_)) ?_
    rintro _ _ ⟨rfl, rfl⟩ q_ hq_
    simp only [List.cons_append, List.nil_append] at hq_; subst hq_
    refine XO.pu (Pu.move rfl) ?_
    refine XO.pu (Pu.extract rfl rfl) ?_
    refine XO.pu (Pu.extract rfl rfl) ?_
    refine XO.ef (Ef.alloc Try.zeroValue27) ?_
    rintro _ _ ⟨n3, rfl, rfl⟩
    refine XO.ef0 (Ef.storeA rfl rfl Try.sizeOf27 rfl rfl (by repeat first | exact Le.here _ _ | apply Le.there) rfl) ?_
    rintro _ _ ⟨rfl, rfl⟩
    refine XO.pu (Pu.assign rfl) ?_
    refine XO.nil ?_
    refine X.sub (p' := [(8, _), (6, _), (2, _)]) ⟨rfl, rfl, rfl, trivial⟩ ?_
    refine X.seq ?_
    refine X.region ?_
    refine XO.pu (Pu.move rfl) ?_
    refine XO.pu (Pu.eql rfl rfl) ?_
    refine XO.pu (Pu.move rfl) ?_
    refine XO.know 17 (.bool false) rfl (congrArg Value.bool (rfl)) ?_
    refine XO.pass rfl ?_
    refine XO.pass rfl ?_
    refine XO.pass rfl ?_
    refine XO.pu (Pu.pickF rfl rfl) ?_
    refine XO.pu (Pu.assign rfl) ?_
    refine XO.nil ?_
    refine X.sub (p' := [(6, _)]) ⟨rfl, trivial⟩ ?_
    refine X.ret ⟨rfl, Lv.ret (q' := []) Try.func10 (res1 Try.results10 rfl) ⟨_, rfl, congrArg Value.bool (decide_eq_false (fun e => h ⟨e.1, e.2.1, e.2.2.1, e.2.2.2.1⟩)).symm, rfl⟩ (by repeat (first | exact Le.refl _ | refine Le.pick (by repeat first | exact Le.here _ _ | apply Le.there) ?_ | refine Le.lose ?_))⟩
theorem played_ok (h1 : 1 ≤ every) (h2 : every ≤ 1073741824) (h3 : 2 ≤ most) (h4 : most ≤ 4096) (hs : Sees q a (l.map I)) (hl : l.length ≤ 100000) (hr : ∀ x ∈ l, -9223372036854775808 ≤ x ∧ x ≤ 9223372036854775807) : CallF Try.prog G 12 [.int .i64 every, .int .i64 most, .slice a l.length c] q (Ret fun v q' => ∃ b a' c', v = .tuple [.pointer (some ⟨b, 0, none⟩), refV (plays every most l) a' c', .bool true].toArray ∧ q' = PtH b (plays every most l) :: lsM I 3 a' c' (plays every most l).kept :: q) := by
  refine CallF.of Try.func12 Try.ntmps12 rfl (fun F cs => ?_)
  refine X.sub (p' := [(0, _), (1, _), (2, _)]) ⟨rfl, rfl, rfl, trivial⟩ ?_
  have hs' : Sees (q ++ F) a (l.map I) := hs.le (Le.app_left q F)
  refine X.seq ?_
  refine X.region ?_
  refine XO.pu (Pu.assign rfl) ?_
  refine XO.ef (Ef.alloc Try.zeroValue27) ?_
  rintro _ _ ⟨n4, rfl, rfl⟩
  refine XO.pu (Pu.assign rfl) ?_
  refine XO.nil ?_
  refine X.sub (p' := [(8, _), (7, _), (6, _), (0, _), (1, _), (2, _)]) ⟨rfl, rfl, rfl, rfl, rfl, rfl, trivial⟩ ?_
  refine X.seq ?_
  refine X.region ?_
  refine XO.pu (Pu.move rfl) ?_
  refine XO.pu (Pu.move rfl) ?_
  refine XO.callF Try.call16 (New_yes h1 h2 h3 h4) rfl (by repeat (first | exact Le.refl _ | refine Le.pick (by repeat first | exact Le.here _ _ | apply Le.there) ?_ | refine Le.lose ?_)) ?_
  rintro _ _ ⟨b, rfl, rfl⟩ q_ hq_
  simp only [List.cons_append, List.nil_append] at hq_; subst hq_
  refine XO.pu (Pu.move rfl) ?_
  refine XO.pu (Pu.extract rfl rfl) ?_
  refine XO.pu (Pu.extract rfl rfl) ?_
  refine XO.pu (Pu.assign rfl) ?_
  refine XO.pu (Pu.assign rfl) ?_
  refine XO.nil ?_
  refine X.sub (p' := [(10, _), (9, _), (8, _), (7, _), (6, _), (0, _), (1, _), (2, _)]) ⟨rfl, rfl, rfl, rfl, rfl, rfl, rfl, rfl, trivial⟩ ?_
  refine X.seq ?_
  refine X.region ?_
  refine XO.pu (Pu.move rfl) ?_
  refine XO.pu (Pu.move rfl) ?_
  refine XO.callF Try.call26 (RNew_yes h1 h2 h3 h4) rfl (by repeat (first | exact Le.refl _ | refine Le.pick (by repeat first | exact Le.here _ _ | apply Le.there) ?_ | refine Le.lose ?_)) ?_
  rintro _ _ ⟨rfl, rfl⟩ q_ hq_
  simp only [List.cons_append, List.nil_append] at hq_; subst hq_
  refine XO.pu (Pu.move rfl) ?_
  refine XO.pu (Pu.extract rfl rfl) ?_
  refine XO.pu (Pu.extract rfl rfl) ?_
  refine XO.ef (Ef.alloc Try.zeroValue27) ?_
  rintro _ _ ⟨n5, rfl, rfl⟩
  refine XO.ef0 (Ef.storeA rfl rfl Try.sizeOf27 rfl rfl (by repeat first | exact Le.here _ _ | apply Le.there) rfl) ?_
  rintro _ _ ⟨rfl, rfl⟩
  refine XO.pu (Pu.assign rfl) ?_
  refine XO.nil ?_
  refine X.sub (p' := [(12, _), (11, _), (10, _), (9, _), (8, _), (7, _), (6, _), (2, _)]) ⟨rfl, rfl, rfl, rfl, rfl, rfl, rfl, rfl, trivial⟩ ?_
  refine X.seq ?_
  refine X.region ?_
  refine XO.pu (Pu.move rfl) ?_
  refine XO.callF Try.call20 (num_ok _) rfl (by repeat (first | exact Le.refl _ | refine Le.pick (by repeat first | exact Le.here _ _ | apply Le.there) ?_ | refine Le.lose ?_)) ?_
  rintro _ _ ⟨rfl, rfl⟩ q_ hq_
  simp only [List.cons_append, List.nil_append] at hq_; subst hq_
  refine XO.pu (Pu.eql rfl rfl) ?_
  refine XO.pu (Pu.move rfl) ?_
  refine XO.know 30 (.bool true) rfl (congrArg Value.bool (rfl)) ?_
  refine XO.pu (Pu.move rfl) ?_
  refine XO.pu (Pu.eql rfl rfl) ?_
  refine XO.pu (Pu.pickT rfl rfl) ?_
  refine XO.pu (Pu.assign rfl) ?_
  refine XO.nil ?_
  refine X.sub (p' := [(13, _), (11, _), (9, _), (8, _), (7, _), (6, _), (2, _)]) ⟨rfl, rfl, rfl, rfl, rfl, rfl, rfl, trivial⟩ ?_
  refine X.seq ?_
  refine X.seq ?_
  refine X.region ?_
  refine XO.pu (Pu.assign rfl) ?_
  refine XO.nil ?_
  refine X.sub (p' := [(14, _), (13, _), (11, _), (9, _), (8, _), (7, _), (6, _), (2, _)]) ⟨rfl, rfl, rfl, rfl, rfl, rfl, rfl, rfl, trivial⟩ ?_
  refine X.block ?_
  refine X.at (X.loop (fun (s : Nat × Option Addr × Nat) => s.1 ≤ l.length) (fun s => [(14, .int .i64 (s.1 : Int)), (13, .bool true), (9, .pointer (some ⟨b, 0, none⟩)), (11, .pointer (some ⟨n5, 0, none⟩)), (7, .pointer (some ⟨n4, 0, none⟩)), (2, .slice a l.length c)]) (fun s => PtH b (plays every most (l.take s.1)) :: pto n5 (.cells (refC (plays every most (l.take s.1)) s.2.1 s.2.2).toArray 27 (0, 0)) :: lsM I 3 s.2.1 s.2.2 (plays every most (l.take s.1)).kept :: pto n4 (.cells [.int .i64 0, .int .i64 0, .slice none 0 0, .int .i64 0, .int .i64 0].toArray 27 (0, 0)) :: (q ++ F)) (fun s => l.length - s.1) (fun s hi_ ih => ?_) (0, none, 0) (by simp)) ⟨(by first | rfl | exact congrArg some (congrArg (Value.int _) (by omega))), (by first | rfl | exact congrArg some (congrArg (Value.int _) (by omega))), (by first | rfl | exact congrArg some (congrArg (Value.int _) (by omega))), (by first | rfl | exact congrArg some (congrArg (Value.int _) (by omega))), (by first | rfl | exact congrArg some (congrArg (Value.int _) (by omega))), (by first | rfl | exact congrArg some (congrArg (Value.int _) (by omega))), trivial⟩ (Le.pick (by repeat first | exact Le.here _ _ | apply Le.there) (Le.pick (by repeat first | exact Le.here _ _ | apply Le.there) (Le.trans (by repeat (first | exact Le.refl _ | refine Le.pick (by repeat first | exact Le.here _ _ | apply Le.there) ?_ | refine Le.lose ?_)) (Le.lsM_nil I 3 _))))
  try dsimp only at hi_ ih ⊢
  obtain hi := hi_
  obtain ⟨s, a3, c3⟩ := s
  dsimp only at *
  refine X.seq ?_
  refine X.seq ?_
  refine X.region ?_
  refine XO.pu (Pu.move rfl) ?_
  refine XO.pu (Pu.move rfl) ?_
  refine XO.pu (Pu.len rfl Try.underlying22) ?_
  refine XO.pu (Pu.lss rfl rfl) ?_
  refine XO.pu (Pu.move rfl) ?_
  refine XO.part 38 rfl (fun h5 => ?_) (fun h5 => ?_)
  · skip
    have h5 := of_decide_eq_true h5
    have hlt : s < l.length := by omega
    have hr2 := hr _ (List.getElem_mem hlt)
    have hs3 : Sees (PtH b (plays every most (l.take s)) :: pto n5 (.cells (refC (plays every most (l.take s)) a3 c3).toArray 27 (0, 0)) :: lsM I 3 a3 c3 (plays every most (l.take s)).kept :: pto n4 (.cells [.int .i64 0, .int .i64 0, .slice none 0 0, .int .i64 0, .int .i64 0].toArray 27 (0, 0)) :: (q ++ F)) a (l.map I) := hs'.there.there.there.there
    refine XO.addr hs3 (by simp; omega) (fun ba oa ea => ?_); subst ea
    refine XO.pu (Pu.move rfl) ?_
    refine XO.pu (Pu.pickT rfl rfl) ?_
    refine XO.nil ?_
    refine X.sub (p' := [(40, _), (14, _), (13, _), (9, _), (11, _), (7, _), (2, _)]) ⟨rfl, rfl, rfl, rfl, rfl, rfl, rfl, trivial⟩ ?_
    refine X.condT rfl ?_
    refine X.skip ?_
    refine X.seq ?_
    refine X.block ?_
    refine X.draw [] Try.mixed (by kernel_rfl) (by kernel_rfl) rfl ?_
    refine XD.pu 0 rfl (Pu.move rfl) ?_
    refine XD.loadA 1 rfl rfl Try.isAgg27 Try.sizeOf27 (by repeat first | exact Has.pto _ _ _ | exact Has.im _ _ _ | refine Has.there ?_) (by rfl) ?_
    refine XD.pu 2 rfl (Pu.move rfl) ?_
    refine XD.pu 3 rfl (Pu.move rfl) ?_
    refine XD.pu 4 rfl (Pu.indexAddr rfl rfl Try.underlying22 Try.sizeOf3 (by omega) (by omega)) ?_
    refine XD.load 5 rfl rfl Try.isAgg3 (by first | exact Cl.of (by repeat first | exact Has.pto _ _ _ | exact Has.im _ _ _ | refine Has.there ?_) (by rfl) | exact hs3.at (n := s) rfl hlt) ?_
    refine XD.callF 6 Try.call13 (come_ok (p := plays every most (l.take s)) (b := b) (a := a3) (c := c3) (t := l[s]) (plays_good h1 h2 h3 h4 _) hr2) rfl rfl (by repeat (first | exact Le.refl _ | refine Le.pick (by repeat first | exact Le.here _ _ | apply Le.there) ?_ | refine Le.lose ?_)) ?_
    rintro _ _ ⟨a4, c4, rfl, rfl⟩ q_ hq_
    simp only [List.cons_append, List.nil_append] at hq_; subst hq_
    refine ⟨trivial, ?_⟩
    rw [← plays_step every most hlt]
    refine XD.pu 7 rfl (Pu.move rfl) ?_
    refine XD.pu 8 rfl (Pu.extract rfl rfl) ?_
    refine XD.pu 9 rfl (Pu.extract rfl rfl) ?_
    refine XD.ef0 10 rfl (Ef.storeA rfl rfl Try.sizeOf27 rfl rfl (by repeat first | exact Le.here _ _ | apply Le.there) rfl) ?_
    rintro _ _ ⟨rfl, rfl⟩
    refine ⟨trivial, ?_⟩
    refine XD.pu 11 rfl (Pu.assign rfl) ?_
    refine XD.nil ?_
    refine X.sub (p' := [(13, _), (14, _), (9, _), (11, _), (7, _), (2, _)]) ⟨rfl, rfl, rfl, rfl, rfl, rfl, trivial⟩ ?_
    refine X.inBlock ?_
    refine X.region ?_
    refine XO.pu (Pu.move rfl) ?_
    refine XO.pu (Pu.add rfl rfl (by omega) (by omega)) ?_
    refine XO.pu (Pu.assign rfl) ?_
    refine XO.nil ?_
    refine X.sub (p' := [(14, _), (13, _), (9, _), (11, _), (7, _), (2, _)]) ⟨rfl, rfl, rfl, rfl, rfl, rfl, trivial⟩ ?_
    refine X.at (ih (s + 1, a4, c4) (by dsimp only; omega) (by dsimp only; omega)) ⟨(by first | rfl | exact congrArg some (congrArg (Value.int _) (by omega))), (by first | rfl | exact congrArg some (congrArg (Value.int _) (by omega))), (by first | rfl | exact congrArg some (congrArg (Value.int _) (by omega))), (by first | rfl | exact congrArg some (congrArg (Value.int _) (by omega))), (by first | rfl | exact congrArg some (congrArg (Value.int _) (by omega))), (by first | rfl | exact congrArg some (congrArg (Value.int _) (by omega))), trivial⟩ (by repeat (first | exact Le.refl _ | refine Le.pick (by repeat first | exact Le.here _ _ | apply Le.there) ?_ | refine Le.lose ?_))
  · skip
    have h5 : s = l.length := by have := of_decide_eq_false h5; omega
    subst h5
    rw [List.take_length]
    refine XO.pass rfl ?_
    refine XO.pu (Pu.pickF rfl rfl) ?_
    refine XO.nil ?_
    refine X.sub (p' := [(40, _), (14, _), (13, _), (9, _), (11, _), (7, _), (2, _)]) ⟨rfl, rfl, rfl, rfl, rfl, rfl, rfl, trivial⟩ ?_
    refine X.condF rfl ?_
    refine X.exit rfl ?_
    refine X.seq ?_
    refine X.draw [] Try.mixed (by kernel_rfl) (by kernel_rfl) rfl ?_
    refine XD.pu 0 rfl (Pu.move rfl) ?_
    refine XD.loadA 1 rfl rfl Try.isAgg27 Try.sizeOf27 (by repeat first | exact Has.pto _ _ _ | exact Has.im _ _ _ | refine Has.there ?_) (by rfl) ?_
    refine XD.pu 2 rfl (Pu.move rfl) ?_
    refine XD.pu 3 rfl (Pu.move rfl) ?_
    refine XD.pu 4 rfl (Pu.move rfl) ?_
    refine XD.loadA 5 rfl rfl Try.isAgg27 Try.sizeOf27 (by repeat first | exact Has.pto _ _ _ | exact Has.im _ _ _ | refine Has.there ?_) (by rfl) ?_
    refine XD.know 56 (.bool true) rfl (congrArg Value.bool (rfl)) ?_
    refine XD.callF 6 Try.call14 (is_ok (p := plays every most l) (b := b) (a := a3) (c := c3) (plays_good h1 h2 h3 h4 _)) rfl rfl (by repeat (first | exact Le.refl _ | refine Le.pick (by repeat first | exact Le.here _ _ | apply Le.there) ?_ | refine Le.lose ?_)) ?_
    rintro _ _ ⟨rfl, rfl⟩ q_ hq_
    simp only [List.cons_append, List.nil_append] at hq_; subst hq_
    refine ⟨⟨(Cl.of (by repeat first | exact Has.pto _ _ _ | exact Has.im _ _ _ | refine Has.there ?_) (by rfl)), (Cl.of (by repeat first | exact Has.pto _ _ _ | exact Has.im _ _ _ | refine Has.there ?_) (by rfl)), (Cl.of (by repeat first | exact Has.pto _ _ _ | exact Has.im _ _ _ | refine Has.there ?_) (by rfl)), (Cl.of (by repeat first | exact Has.pto _ _ _ | exact Has.im _ _ _ | refine Has.there ?_) (by rfl)), (Cl.of (by repeat first | exact Has.pto _ _ _ | exact Has.im _ _ _ | refine Has.there ?_) (by rfl)), trivial⟩, ?_⟩
    refine XD.pu 7 rfl (Pu.pickT rfl rfl) ?_
    refine XD.pu 8 rfl (Pu.assign rfl) ?_
    refine XD.ef0 9 rfl (Ef.storeA rfl rfl Try.sizeOf27 rfl rfl (by repeat first | exact Le.here _ _ | apply Le.there) rfl) ?_
    rintro _ _ ⟨rfl, rfl⟩
    refine ⟨trivial, ?_⟩
    refine XD.pu 10 rfl (Pu.assign rfl) ?_
    refine XD.nil ?_
    refine X.sub (p' := [(8, _), (6, _), (7, _)]) ⟨rfl, rfl, rfl, trivial⟩ ?_
    refine X.ret ⟨rfl, Lv.ret (q' := PtH b (plays every most l) :: lsM I 3 a3 c3 (plays every most l).kept :: q) Try.func12 (resC Try.results12 (ResOk.tmp rfl (ResOk.cell rfl (LV.agg Try.isAgg27 Try.sizeOf27 (by repeat first | exact Has.pto _ _ _ | exact Has.im _ _ _ | refine Has.there ?_) rfl) (ResOk.tmp rfl ResOk.nil)))) ⟨_, rfl, b, a3, c3, rfl, rfl⟩ (by repeat (first | exact Le.refl _ | refine Le.pick (by repeat first | exact Le.here _ _ | apply Le.there) ?_ | refine Le.lose ?_))⟩
end
end Go.Proofs.Ytjfkkdohpfbilaa

