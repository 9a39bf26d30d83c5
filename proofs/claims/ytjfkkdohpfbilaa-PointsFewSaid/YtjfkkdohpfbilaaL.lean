/- What functions of package points, and of its laws, do: contracts of calls, proved by walking their code. -/
import Derived.Test.YtjfkkdohpfbilaaK
import Derived.KernelRfl
set_option maxRecDepth 100000
set_option linter.unusedVariables false
set_option linter.unusedSimpArgs false
namespace Go.Proofs.Ytjfkkdohpfbilaa
open Go Go.RowKit Wx

section
variable {G : World} {p p2 : Pt} {b b2 : Nat} {t : Int} {q : List HP} {a a' : Option Addr} {c c' : Nat} {l m : List Int} {every most : Int}
theorem Come_nil  : CallF Try.prog G 17 [.pointer none, .int .i64 t] [] (Ret fun v q' => v = .tuple [.bool false, .int .i64 0, .int .i64 1].toArray ∧ q' = []) := by
  refine CallF.of Try.func17 Try.ntmps17 rfl (fun F cs => ?_)
  refine X.sub (p' := [(0, _), (1, _)]) ⟨rfl, rfl, trivial⟩ ?_
  refine X.seq ?_
  refine X.region ?_
  refine XO.ef (Ef.box rfl) ?_
  rintro _ _ ⟨n1, rfl, rfl⟩
  refine XO.pu (Pu.assign rfl) ?_
  refine XO.pu (Pu.assign rfl) ?_
  refine XO.pu (Pu.assign rfl) ?_
  refine XO.nil ?_
  refine X.sub (p' := [(6, _), (5, _), (4, _), (2, _), (1, _)]) ⟨rfl, rfl, rfl, rfl, rfl, trivial⟩ ?_
  refine X.seq ?_
  refine X.seq ?_
  refine X.region ?_
  refine XO.rd (Rd.load rfl Try.isAgg25 (Cl.of (by repeat first | exact Has.pto _ _ _ | exact Has.im _ _ _ | refine Has.there ?_) (by rfl))) ?_
  refine XO.callF Try.call29 (there_nil) rfl (by repeat (first | exact Le.refl _ | refine Le.pick (by repeat first | exact Le.here _ _ | apply Le.there) ?_ | refine Le.lose ?_)) ?_
  rintro _ _ ⟨rfl, rfl⟩ q_ hq_
  simp only [List.cons_append, List.nil_append] at hq_; subst hq_
  refine XO.pu (Pu.not rfl) ?_
  refine XO.nil ?_
  refine X.sub (p' := [(10, _), (6, _), (5, _), (4, _), (2, _), (1, _)]) ⟨rfl, rfl, rfl, rfl, rfl, rfl, trivial⟩ ?_
  refine X.condT rfl ?_
  refine X.seq ?_
  refine X.region ?_
  refine XO.pu (Pu.assign rfl) ?_
  refine XO.pu (Pu.assign rfl) ?_
  refine XO.pu (Pu.assign rfl) ?_
  refine XO.nil ?_
  refine X.sub (p' := [(6, _), (5, _), (4, _), (2, _), (1, _)]) ⟨rfl, rfl, rfl, rfl, rfl, trivial⟩ ?_
  refine X.ret ⟨rfl, Lv.ret (q' := []) Try.func17 (res3 Try.results17 rfl rfl rfl) ⟨_, rfl, rfl, rfl⟩ (by repeat (first | exact Le.refl _ | refine Le.pick (by repeat first | exact Le.here _ _ | apply Le.there) ?_ | refine Le.lose ?_))⟩
theorem Same_nn  : CallF Try.prog G 25 [.pointer none, .pointer none] [] (Ret fun v q' => v = .bool true ∧ q' = []) := by
  refine CallF.of Try.func25 Try.ntmps25 rfl (fun F cs => ?_)
  refine X.sub (p' := [(0, _), (1, _)]) ⟨rfl, rfl, trivial⟩ ?_
  refine X.seq ?_
  refine X.region ?_
  refine XO.pu (Pu.assign rfl) ?_
  refine XO.nil ?_
  refine X.sub (p' := [(4, _), (0, _), (1, _)]) ⟨rfl, rfl, rfl, trivial⟩ ?_
  refine X.seq ?_
  refine X.seq ?_
  refine X.region ?_
  refine XO.pu (Pu.move rfl) ?_
  refine XO.callF Try.call29 (there_nil) rfl (by repeat (first | exact Le.refl _ | refine Le.pick (by repeat first | exact Le.here _ _ | apply Le.there) ?_ | refine Le.lose ?_)) ?_
  rintro _ _ ⟨rfl, rfl⟩ q_ hq_
  simp only [List.cons_append, List.nil_append] at hq_; subst hq_
  refine XO.pu (Pu.not rfl) ?_
  refine XO.pu (Pu.move rfl) ?_
  refine XO.pass rfl ?_
  refine XO.pass rfl ?_
  refine XO.pass rfl ?_
  refine XO.pu (Pu.pickT rfl rfl) ?_
  refine XO.nil ?_
  refine X.sub (p' := [(12, _), (4, _), (0, _), (1, _)]) ⟨rfl, rfl, rfl, rfl, trivial⟩ ?_
  refine X.condT rfl ?_
  refine X.seq ?_
  refine X.region ?_
  refine XO.pu (Pu.move rfl) ?_
  refine XO.callF Try.call29 (there_nil) rfl (by repeat (first | exact Le.refl _ | refine Le.pick (by repeat first | exact Le.here _ _ | apply Le.there) ?_ | refine Le.lose ?_)) ?_
  rintro _ _ ⟨rfl, rfl⟩ q_ hq_
  simp only [List.cons_append, List.nil_append] at hq_; subst hq_
  refine XO.pu (Pu.move rfl) ?_
  refine XO.callF Try.call29 (there_nil) rfl (by repeat (first | exact Le.refl _ | refine Le.pick (by repeat first | exact Le.here _ _ | apply Le.there) ?_ | refine Le.lose ?_)) ?_
  rintro _ _ ⟨rfl, rfl⟩ q_ hq_
  simp only [List.cons_append, List.nil_append] at hq_; subst hq_
  refine XO.pu (Pu.eqlB rfl rfl Try.underlying4) ?_
  refine XO.pu (Pu.assign rfl) ?_
  refine XO.nil ?_
  refine X.sub (p' := [(4, _), (0, _), (1, _)]) ⟨rfl, rfl, rfl, trivial⟩ ?_
  refine X.ret ⟨rfl, Lv.ret (q' := []) Try.func25 (res1 Try.results25 rfl) ⟨_, rfl, rfl, rfl⟩ (by repeat (first | exact Le.refl _ | refine Le.pick (by repeat first | exact Le.here _ _ | apply Le.there) ?_ | refine Le.lose ?_))⟩
theorem Same_pn (ok : p.Ok) : CallF Try.prog G 25 [.pointer (some ⟨b, 0, none⟩), .pointer none] [PtH b p] (Ret fun v q' => v = .bool false ∧ q' = [PtH b p]) := by
  refine CallF.of Try.func25 Try.ntmps25 rfl (fun F cs => ?_)
  refine X.sub (p' := [(0, _), (1, _)]) ⟨rfl, rfl, trivial⟩ ?_
  refine X.open (fun a c => ?_)
  refine X.seq ?_
  refine X.region ?_
  refine XO.pu (Pu.assign rfl) ?_
  refine XO.nil ?_
  refine X.sub (p' := [(4, _), (0, _), (1, _)]) ⟨rfl, rfl, rfl, trivial⟩ ?_
  refine X.seq ?_
  refine X.seq ?_
  refine X.region ?_
  refine XO.pu (Pu.move rfl) ?_
  refine XO.callF Try.call29 (there_some (every := p.every) ok.e1) rfl (by repeat (first | exact Le.refl _ | refine Le.pick (by repeat first | exact Le.here _ _ | apply Le.there) ?_ | refine Le.lose ?_)) ?_
  rintro _ _ ⟨rfl, rfl⟩ q_ hq_
  simp only [List.cons_append, List.nil_append] at hq_; subst hq_
  refine XO.pu (Pu.not rfl) ?_
  refine XO.pu (Pu.move rfl) ?_
  refine XO.pu (Pu.move rfl) ?_
  refine XO.callF Try.call29 (there_nil) rfl (by repeat (first | exact Le.refl _ | refine Le.pick (by repeat first | exact Le.here _ _ | apply Le.there) ?_ | refine Le.lose ?_)) ?_
  rintro _ _ ⟨rfl, rfl⟩ q_ hq_
  simp only [List.cons_append, List.nil_append] at hq_; subst hq_
  refine XO.pu (Pu.not rfl) ?_
  refine XO.pu (Pu.pickF rfl rfl) ?_
  refine XO.nil ?_
  refine X.sub (p' := [(12, _), (4, _), (0, _), (1, _)]) ⟨rfl, rfl, rfl, rfl, trivial⟩ ?_
  refine X.condT rfl ?_
  refine X.seq ?_
  refine X.region ?_
  refine XO.pu (Pu.move rfl) ?_
  refine XO.callF Try.call29 (there_some (every := p.every) ok.e1) rfl (by repeat (first | exact Le.refl _ | refine Le.pick (by repeat first | exact Le.here _ _ | apply Le.there) ?_ | refine Le.lose ?_)) ?_
  rintro _ _ ⟨rfl, rfl⟩ q_ hq_
  simp only [List.cons_append, List.nil_append] at hq_; subst hq_
  refine XO.pu (Pu.move rfl) ?_
  refine XO.callF Try.call29 (there_nil) rfl (by repeat (first | exact Le.refl _ | refine Le.pick (by repeat first | exact Le.here _ _ | apply Le.there) ?_ | refine Le.lose ?_)) ?_
  rintro _ _ ⟨rfl, rfl⟩ q_ hq_
  simp only [List.cons_append, List.nil_append] at hq_; subst hq_
  refine XO.pu (Pu.eqlB rfl rfl Try.underlying4) ?_
  refine XO.pu (Pu.assign rfl) ?_
  refine XO.nil ?_
  refine X.sub (p' := [(4, _), (0, _), (1, _)]) ⟨rfl, rfl, rfl, trivial⟩ ?_
  refine X.ret ⟨rfl, Lv.ret (q' := [PtH b p]) Try.func25 (res1 Try.results25 rfl) ⟨_, rfl, rfl, rfl⟩ (PtH.close (a := a) (c := c) (by repeat (first | exact Le.refl _ | refine Le.pick (by repeat first | exact Le.here _ _ | apply Le.there) ?_ | refine Le.lose ?_)))⟩
theorem Same_np (ok : p.Ok) : CallF Try.prog G 25 [.pointer none, .pointer (some ⟨b, 0, none⟩)] [PtH b p] (Ret fun v q' => v = .bool false ∧ q' = [PtH b p]) := by
  refine CallF.of Try.func25 Try.ntmps25 rfl (fun F cs => ?_)
  refine X.sub (p' := [(0, _), (1, _)]) ⟨rfl, rfl, trivial⟩ ?_
  refine X.open (fun a c => ?_)
  refine X.seq ?_
  refine X.region ?_
  refine XO.pu (Pu.assign rfl) ?_
  refine XO.nil ?_
  refine X.sub (p' := [(4, _), (0, _), (1, _)]) ⟨rfl, rfl, rfl, trivial⟩ ?_
  refine X.seq ?_
  refine X.seq ?_
  refine X.region ?_
  refine XO.pu (Pu.move rfl) ?_
  refine XO.callF Try.call29 (there_nil) rfl (by repeat (first | exact Le.refl _ | refine Le.pick (by repeat first | exact Le.here _ _ | apply Le.there) ?_ | refine Le.lose ?_)) ?_
  rintro _ _ ⟨rfl, rfl⟩ q_ hq_
  simp only [List.cons_append, List.nil_append] at hq_; subst hq_
  refine XO.pu (Pu.not rfl) ?_
  refine XO.pu (Pu.move rfl) ?_
  refine XO.pass rfl ?_
  refine XO.pass rfl ?_
  refine XO.pass rfl ?_
  refine XO.pu (Pu.pickT rfl rfl) ?_
  refine XO.nil ?_
  refine X.sub (p' := [(12, _), (4, _), (0, _), (1, _)]) ⟨rfl, rfl, rfl, rfl, trivial⟩ ?_
  refine X.condT rfl ?_
  refine X.seq ?_
  refine X.region ?_
  refine XO.pu (Pu.move rfl) ?_
  refine XO.callF Try.call29 (there_nil) rfl (by repeat (first | exact Le.refl _ | refine Le.pick (by repeat first | exact Le.here _ _ | apply Le.there) ?_ | refine Le.lose ?_)) ?_
  rintro _ _ ⟨rfl, rfl⟩ q_ hq_
  simp only [List.cons_append, List.nil_append] at hq_; subst hq_
  refine XO.pu (Pu.move rfl) ?_
  refine XO.callF Try.call29 (there_some (every := p.every) ok.e1) rfl (by repeat (first | exact Le.refl _ | refine Le.pick (by repeat first | exact Le.here _ _ | apply Le.there) ?_ | refine Le.lose ?_)) ?_
  rintro _ _ ⟨rfl, rfl⟩ q_ hq_
  simp only [List.cons_append, List.nil_append] at hq_; subst hq_
  refine XO.pu (Pu.eqlB rfl rfl Try.underlying4) ?_
  refine XO.pu (Pu.assign rfl) ?_
  refine XO.nil ?_
  refine X.sub (p' := [(4, _), (0, _), (1, _)]) ⟨rfl, rfl, rfl, trivial⟩ ?_
  refine X.ret ⟨rfl, Lv.ret (q' := [PtH b p]) Try.func25 (res1 Try.results25 rfl) ⟨_, rfl, rfl, rfl⟩ (PtH.close (a := a) (c := c) (by repeat (first | exact Le.refl _ | refine Le.pick (by repeat first | exact Le.here _ _ | apply Le.there) ?_ | refine Le.lose ?_)))⟩
theorem bests_ok (hs : Sees q a (l.map I)) (hr : ∀ x ∈ l, -9223372036854775808 ≤ x ∧ x ≤ 9223372036854775807) (ht : -9223372036854775808 ≤ t ∧ t ≤ 9223372036854775807) : CallF Try.prog G 7 [.int .i64 every, .int .i64 most, .slice a l.length c, .int .i64 t] q (Ret fun v q' => v = .bool true ∧ q' = q) := by
  refine CallF.of Try.func7 Try.ntmps7 rfl (fun F cs => ?_)
  refine X.sub (p' := [(0, _), (1, _), (2, _), (3, _)]) ⟨rfl, rfl, rfl, rfl, trivial⟩ ?_
  refine X.seq ?_
  refine X.region ?_
  refine XO.pu (Pu.assign rfl) ?_
  refine XO.nil ?_
  refine X.sub (p' := [(8, _), (0, _), (1, _), (2, _), (3, _)]) ⟨rfl, rfl, rfl, rfl, rfl, trivial⟩ ?_
  refine X.seq ?_
  refine X.seq ?_
  refine X.region ?_
  refine XO.pu (Pu.move rfl) ?_
  refine XO.pu (Pu.move rfl) ?_
  refine XO.pu (Pu.move rfl) ?_
  refine XO.callF Try.call10 (small_ok) rfl (by repeat (first | exact Le.refl _ | refine Le.pick (by repeat first | exact Le.here _ _ | apply Le.there) ?_ | refine Le.lose ?_)) ?_
  rintro _ _ ⟨rfl, rfl⟩ q_ hq_
  simp only [List.cons_append, List.nil_append] at hq_; subst hq_
  refine XO.pu (Pu.not rfl) ?_
  refine XO.nil ?_
  refine X.sub (p' := [(21, _), (8, _), (0, _), (1, _), (2, _), (3, _)]) ⟨rfl, rfl, rfl, rfl, rfl, rfl, trivial⟩ ?_
  refine X.cond rfl (fun h => ?_) (fun h => ?_)
  · skip
    refine X.seq ?_
    refine X.region ?_
    refine XO.callF Try.call11 (works_ok) rfl (by repeat (first | exact Le.refl _ | refine Le.pick (by repeat first | exact Le.here _ _ | apply Le.there) ?_ | refine Le.lose ?_)) ?_
    rintro _ _ ⟨rfl, rfl⟩ q_ hq_
    simp only [List.cons_append, List.nil_append] at hq_; subst hq_
    refine XO.pu (Pu.assign rfl) ?_
    refine XO.nil ?_
    refine X.sub (p' := [(8, _), (0, _), (1, _), (2, _), (3, _)]) ⟨rfl, rfl, rfl, rfl, rfl, trivial⟩ ?_
    refine X.ret ⟨rfl, Lv.ret (q' := q) Try.func7 (res1 Try.results7 rfl) ⟨_, rfl, rfl, rfl⟩ (by repeat (first | exact Le.refl _ | refine Le.pick (by repeat first | exact Le.here _ _ | apply Le.there) ?_ | refine Le.lose ?_))⟩
  · skip
    have h : 1 ≤ every ∧ every ≤ 1073741824 ∧ 2 ≤ most ∧ most ≤ 4096 ∧ l.length ≤ 200 := by simpa using h
    obtain ⟨h1, h2, h3, h4, h5⟩ := h
    refine X.skip ?_
    refine X.seq ?_
    refine X.region ?_
    refine XO.pu (Pu.move rfl) ?_
    refine XO.pu (Pu.move rfl) ?_
    refine XO.pu (Pu.move rfl) ?_
    refine XO.callF Try.call12 (played_ok (q := q) (a := a) (c := c) h1 h2 h3 h4 hs (by omega) hr) rfl (by repeat (first | exact Le.refl _ | refine Le.pick (by repeat first | exact Le.here _ _ | apply Le.there) ?_ | refine Le.lose ?_)) ?_
    rintro _ _ ⟨b, a2, c2, rfl, rfl⟩ q_ hq_
    simp only [List.cons_append, List.nil_append] at hq_; subst hq_
    have hg := plays_good (every := every) (most := most) h1 h2 h3 h4 l
    refine XO.pu (Pu.move rfl) ?_
    refine XO.pu (Pu.extract rfl rfl) ?_
    refine XO.pu (Pu.extract rfl rfl) ?_
    refine XO.pu (Pu.extract rfl rfl) ?_
    refine XO.ef (Ef.alloc Try.zeroValue27) ?_
    rintro _ _ ⟨n2, rfl, rfl⟩
    refine XO.pu (Pu.assign rfl) ?_
    refine XO.ef0 (Ef.storeA rfl rfl Try.sizeOf27 rfl rfl (by repeat first | exact Le.here _ _ | apply Le.there) rfl) ?_
    rintro _ _ ⟨rfl, rfl⟩
    refine XO.pu (Pu.assign rfl) ?_
    refine XO.nil ?_
    refine X.sub (p' := [(11, _), (9, _), (10, _), (8, _), (3, _)]) ⟨rfl, rfl, rfl, rfl, rfl, trivial⟩ ?_
    refine X.seq ?_
    refine X.region ?_
    refine XO.pu (Pu.move rfl) ?_
    refine XO.pu (Pu.move rfl) ?_
    generalize plays every most l = p at hg ⊢
    have hb := bst_mem p.kept t
    have hk2 := hg.ok.k2
    refine XO.callF Try.call22 (Best_ok (p := p) (b := b) (t := t) hg (.inr trivial)) rfl (by repeat (first | exact Le.refl _ | refine Le.pick (by repeat first | exact Le.here _ _ | apply Le.there) ?_ | refine Le.lose ?_)) ?_
    rintro _ _ ⟨rfl, rfl⟩ q_ hq_
    simp only [List.cons_append, List.nil_append] at hq_; subst hq_
    refine XO.pu (Pu.move rfl) ?_
    refine XO.pu (Pu.extract rfl rfl) ?_
    refine XO.pu (Pu.extract rfl rfl) ?_
    refine XO.pu (Pu.assign rfl) ?_
    refine XO.pu (Pu.assign rfl) ?_
    refine XO.nil ?_
    refine X.sub (p' := [(13, _), (12, _), (11, _), (9, _), (10, _), (8, _), (3, _)]) ⟨rfl, rfl, rfl, rfl, rfl, rfl, rfl, trivial⟩ ?_
    refine X.seq ?_
    refine X.region ?_
    refine XO.pu (Pu.move rfl) ?_
    refine XO.pu (Pu.move rfl) ?_
    refine XO.callF Try.call19 (Far_ok (p := p) (b := b) (t := t) hg ht) rfl (by repeat (first | exact Le.refl _ | refine Le.pick (by repeat first | exact Le.here _ _ | apply Le.there) ?_ | refine Le.lose ?_)) ?_
    rintro _ _ ⟨rfl, rfl⟩ q_ hq_
    simp only [List.cons_append, List.nil_append] at hq_; subst hq_
    refine XO.pu (Pu.move rfl) ?_
    refine XO.pu (Pu.extract rfl rfl) ?_
    refine XO.pu (Pu.extract rfl rfl) ?_
    refine XO.pu (Pu.assign rfl) ?_
    refine XO.pu (Pu.assign rfl) ?_
    refine XO.nil ?_
    refine X.sub (p' := [(15, _), (14, _), (13, _), (12, _), (11, _), (10, _), (8, _), (3, _)]) ⟨rfl, rfl, rfl, rfl, rfl, rfl, rfl, rfl, trivial⟩ ?_
    refine X.seq ?_
    refine X.region ?_
    refine XO.rd (Rd.loadA rfl Try.isAgg27 Try.sizeOf27 (by repeat first | exact Has.pto _ _ _ | exact Has.im _ _ _ | refine Has.there ?_) (by rfl)) ?_
    refine XO.pu (Pu.move rfl) ?_
    refine XO.callF Try.call23 (RBest_ok (p := p) (a := a2) (c := c2) (t := t) hg) rfl (by repeat (first | exact Le.refl _ | refine Le.pick (by repeat first | exact Le.here _ _ | apply Le.there) ?_ | refine Le.lose ?_)) ?_
    rintro _ _ ⟨rfl, rfl⟩ q_ hq_
    simp only [List.cons_append, List.nil_append] at hq_; subst hq_
    refine XO.pu (Pu.assign rfl) ?_
    refine XO.nil ?_
    refine X.sub (p' := [(16, _), (15, _), (14, _), (13, _), (12, _), (11, _), (8, _), (3, _)]) ⟨rfl, rfl, rfl, rfl, rfl, rfl, rfl, rfl, trivial⟩ ?_
    refine X.seq ?_
    refine X.seq ?_
    refine X.region ?_
    refine XO.pu (Pu.move rfl) ?_
    refine XO.pu (Pu.lss rfl rfl) ?_
    refine XO.nil ?_
    refine X.sub (p' := [(47, _), (16, _), (15, _), (14, _), (13, _), (12, _), (11, _), (8, _), (3, _)]) ⟨rfl, rfl, rfl, rfl, rfl, rfl, rfl, rfl, rfl, trivial⟩ ?_
    refine X.cond rfl (fun h6 => ?_) (fun h6 => ?_)
    · skip
      have h6 := of_decide_eq_true h6
      refine X.seq ?_
      refine X.region ?_
      refine XO.pu (Pu.move rfl) ?_
      refine XO.pu (Pu.move rfl) ?_
      refine XO.know 49 (.bool true) rfl (congrArg Value.bool (rfl)) ?_
      refine XO.pu (Pu.move rfl) ?_
      refine XO.pu (Pu.eql rfl rfl) ?_
      refine XO.pu (Pu.pickT rfl rfl) ?_
      refine XO.pu (Pu.move rfl) ?_
      refine XO.know 53 (.bool true) rfl (congrArg Value.bool (by rw [if_pos h6]; rfl)) ?_
      refine XO.pu (Pu.move rfl) ?_
      refine XO.pu (Pu.not rfl) ?_
      refine XO.pu (Pu.pickT rfl rfl) ?_
      refine XO.pu (Pu.move rfl) ?_
      refine XO.know 57 (.bool true) rfl (congrArg Value.bool (by simp; omega)) ?_
      refine XO.pu (Pu.move rfl) ?_
      refine XO.pu (Pu.eql rfl rfl) ?_
      refine XO.pu (Pu.pickT rfl rfl) ?_
      refine XO.pu (Pu.move rfl) ?_
      refine XO.know 61 (.bool true) rfl (congrArg Value.bool (by rw [if_pos h6]; rfl)) ?_
      refine XO.pu (Pu.move rfl) ?_
      refine XO.callF Try.call20 (num_ok _) rfl (by repeat (first | exact Le.refl _ | refine Le.pick (by repeat first | exact Le.here _ _ | apply Le.there) ?_ | refine Le.lose ?_)) ?_
      rintro _ _ ⟨rfl, rfl⟩ q_ hq_
      simp only [List.cons_append, List.nil_append] at hq_; subst hq_
      refine XO.pu (Pu.eql rfl rfl) ?_
      refine XO.pu (Pu.pickT rfl rfl) ?_
      refine XO.pu (Pu.move rfl) ?_
      refine XO.know 66 (.bool true) rfl (congrArg Value.bool (by rw [if_pos h6]; rfl)) ?_
      refine XO.callF Try.call11 (works_ok) rfl (by repeat (first | exact Le.refl _ | refine Le.pick (by repeat first | exact Le.here _ _ | apply Le.there) ?_ | refine Le.lose ?_)) ?_
      rintro _ _ ⟨rfl, rfl⟩ q_ hq_
      simp only [List.cons_append, List.nil_append] at hq_; subst hq_
      refine XO.pu (Pu.pickT rfl rfl) ?_
      refine XO.pu (Pu.assign rfl) ?_
      refine XO.nil ?_
      refine X.sub (p' := [(8, _), (16, _), (15, _), (14, _), (13, _), (12, _), (11, _), (3, _)]) ⟨rfl, rfl, rfl, rfl, rfl, rfl, rfl, rfl, trivial⟩ ?_
      refine X.ret ⟨rfl, Lv.ret (q' := q) Try.func7 (res1 Try.results7 rfl) ⟨_, rfl, rfl, rfl⟩ (by repeat (first | exact Le.refl _ | refine Le.pick (by repeat first | exact Le.here _ _ | apply Le.there) ?_ | refine Le.lose ?_))⟩
    · skip
      have h6 := of_decide_eq_false h6
      have h7 := hk2 _ (by rcases hb with h | h; omega; exact h.1 : bst p.kept t ∈ p.kept)
      refine X.skip ?_
      refine X.seq ?_
      refine X.region ?_
      refine XO.pu (Pu.move rfl) ?_
      refine XO.pu (Pu.move rfl) ?_
      refine XO.know 70 (.bool true) rfl (congrArg Value.bool (rfl)) ?_
      refine XO.pu (Pu.move rfl) ?_
      refine XO.pu (Pu.move rfl) ?_
      refine XO.pu (Pu.eql rfl rfl) ?_
      refine XO.pu (Pu.pickT rfl rfl) ?_
      refine XO.pu (Pu.move rfl) ?_
      refine XO.know 75 (.bool true) rfl (congrArg Value.bool (by rw [if_neg h6]; simp)) ?_
      refine XO.pu (Pu.move rfl) ?_
      refine XO.pu (Pu.pickT rfl rfl) ?_
      refine XO.pu (Pu.move rfl) ?_
      refine XO.know 78 (.bool true) rfl (congrArg Value.bool (by simp; omega)) ?_
      refine XO.pu (Pu.move rfl) ?_
      refine XO.pu (Pu.move rfl) ?_
      refine XO.pu (Pu.move rfl) ?_
      refine XO.pu (Pu.sub rfl rfl (by omega) (by omega)) ?_
      refine XO.pu (Pu.eql rfl rfl) ?_
      refine XO.pu (Pu.pickT rfl rfl) ?_
      refine XO.pu (Pu.move rfl) ?_
      refine XO.know 85 (.bool true) rfl (congrArg Value.bool (by rw [if_neg h6]; simp)) ?_
      refine XO.pu (Pu.move rfl) ?_
      refine XO.callF Try.call20 (num_ok _) rfl (by repeat (first | exact Le.refl _ | refine Le.pick (by repeat first | exact Le.here _ _ | apply Le.there) ?_ | refine Le.lose ?_)) ?_
      rintro _ _ ⟨rfl, rfl⟩ q_ hq_
      simp only [List.cons_append, List.nil_append] at hq_; subst hq_
      refine XO.pu (Pu.eql rfl rfl) ?_
      refine XO.pu (Pu.pickT rfl rfl) ?_
      refine XO.pu (Pu.move rfl) ?_
      refine XO.know 90 (.bool true) rfl (congrArg Value.bool (by rw [if_neg h6]; rfl)) ?_
      refine XO.callF Try.call11 (works_ok) rfl (by repeat (first | exact Le.refl _ | refine Le.pick (by repeat first | exact Le.here _ _ | apply Le.there) ?_ | refine Le.lose ?_)) ?_
      rintro _ _ ⟨rfl, rfl⟩ q_ hq_
      simp only [List.cons_append, List.nil_append] at hq_; subst hq_
      refine XO.pu (Pu.pickT rfl rfl) ?_
      refine XO.pu (Pu.assign rfl) ?_
      refine XO.nil ?_
      refine X.sub (p' := [(8, _)]) ⟨rfl, trivial⟩ ?_
      refine X.ret ⟨rfl, Lv.ret (q' := q) Try.func7 (res1 Try.results7 rfl) ⟨_, rfl, rfl, rfl⟩ (by repeat (first | exact Le.refl _ | refine Le.pick (by repeat first | exact Le.here _ _ | apply Le.there) ?_ | refine Le.lose ?_))⟩
theorem makes_ok  : CallF Try.prog G 9 [.int .i64 every, .int .i64 most] [] (Ret fun v q' => v = .bool true ∧ q' = []) := by
  refine CallF.of Try.func9 Try.ntmps9 rfl (fun F cs => ?_)
  refine X.sub (p' := [(0, _), (1, _)]) ⟨rfl, rfl, trivial⟩ ?_
  by_cases h : 1 ≤ every ∧ every ≤ 1073741824 ∧ 2 ≤ most ∧ most ≤ 4096
  · skip
    obtain ⟨h1, h2, h3, h4⟩ := h
    have hg := Good.new h1 h2 h3 h4
    refine X.seq ?_
    refine X.region ?_
    refine XO.pu (Pu.assign rfl) ?_
    refine XO.nil ?_
    refine X.sub (p' := [(4, _), (0, _), (1, _)]) ⟨rfl, rfl, rfl, trivial⟩ ?_
    refine X.seq ?_
    refine X.region ?_
    refine XO.pu (Pu.move rfl) ?_
    refine XO.pu (Pu.move rfl) ?_
    refine XO.callF Try.call16 (New_yes h1 h2 h3 h4) rfl (by repeat (first | exact Le.refl _ | refine Le.pick (by repeat first | exact Le.here _ _ | apply Le.there) ?_ | refine Le.lose ?_)) ?_
    rintro _ _ ⟨b, rfl, rfl⟩ q_ hq_
    simp only [List.cons_append, List.nil_append] at hq_; subst hq_
    refine XO.pu (Pu.move rfl) ?_
    refine XO.pu (Pu.extract rfl rfl) ?_
    refine XO.pu (Pu.extract rfl rfl) ?_
    refine XO.pu (Pu.assign rfl) ?_
    refine XO.pu (Pu.assign rfl) ?_
    refine XO.nil ?_
    refine X.sub (p' := [(6, _), (5, _), (4, _), (0, _), (1, _)]) ⟨rfl, rfl, rfl, rfl, rfl, trivial⟩ ?_
    refine X.seq ?_
    refine X.region ?_
    refine XO.pu (Pu.move rfl) ?_
    refine XO.pu (Pu.move rfl) ?_
    refine XO.callF Try.call26 (RNew_yes h1 h2 h3 h4) rfl (by repeat (first | exact Le.refl _ | refine Le.pick (by repeat first | exact Le.here _ _ | apply Le.there) ?_ | refine Le.lose ?_)) ?_
    rintro _ _ ⟨rfl, rfl⟩ q_ hq_
    simp only [List.cons_append, List.nil_append] at hq_; subst hq_
    refine XO.pu (Pu.move rfl) ?_
    refine XO.pu (Pu.extract rfl rfl) ?_
    refine XO.pu (Pu.extract rfl rfl) ?_
    refine XO.ef (Ef.alloc Try.zeroValue27) ?_
    rintro _ _ ⟨n3, rfl, rfl⟩
    refine XO.ef0 (Ef.storeA rfl rfl Try.sizeOf27 rfl rfl (by repeat first | exact Le.here _ _ | apply Le.there) rfl) ?_
    rintro _ _ ⟨rfl, rfl⟩
    refine XO.pu (Pu.assign rfl) ?_
    refine XO.nil ?_
    refine X.sub (p' := [(8, _), (7, _), (6, _), (5, _), (4, _)]) ⟨rfl, rfl, rfl, rfl, rfl, trivial⟩ ?_
    refine X.seq ?_
    refine X.region ?_
    refine XO.pu (Pu.assign rfl) ?_
    refine XO.nil ?_
    refine X.sub (p' := [(9, _), (8, _), (7, _), (6, _), (5, _), (4, _)]) ⟨rfl, rfl, rfl, rfl, rfl, rfl, trivial⟩ ?_
    refine X.seq ?_
    refine X.region ?_
    refine XO.pu (Pu.move rfl) ?_
    refine XO.callF Try.call17 (Come_nil) rfl (by repeat (first | exact Le.refl _ | refine Le.pick (by repeat first | exact Le.here _ _ | apply Le.there) ?_ | refine Le.lose ?_)) ?_
    rintro _ _ ⟨rfl, rfl⟩ q_ hq_
    simp only [List.cons_append, List.nil_append] at hq_; subst hq_
    refine XO.pu (Pu.move rfl) ?_
    refine XO.pu (Pu.extract rfl rfl) ?_
    refine XO.pu (Pu.extract rfl rfl) ?_
    refine XO.pu (Pu.extract rfl rfl) ?_
    refine XO.pu (Pu.assign rfl) ?_
    refine XO.pu (Pu.assign rfl) ?_
    refine XO.pu (Pu.assign rfl) ?_
    refine XO.nil ?_
    refine X.sub (p' := [(12, _), (9, _), (8, _), (7, _), (6, _), (5, _), (4, _)]) ⟨rfl, rfl, rfl, rfl, rfl, rfl, rfl, trivial⟩ ?_
    refine X.seq ?_
    refine X.region ?_
    refine XO.pu (Pu.move rfl) ?_
    refine XO.callF Try.call19 (Far_nil) rfl (by repeat (first | exact Le.refl _ | refine Le.pick (by repeat first | exact Le.here _ _ | apply Le.there) ?_ | refine Le.lose ?_)) ?_
    rintro _ _ ⟨rfl, rfl⟩ q_ hq_
    simp only [List.cons_append, List.nil_append] at hq_; subst hq_
    refine XO.pu (Pu.move rfl) ?_
    refine XO.pu (Pu.extract rfl rfl) ?_
    refine XO.pu (Pu.extract rfl rfl) ?_
    refine XO.pu (Pu.assign rfl) ?_
    refine XO.pu (Pu.assign rfl) ?_
    refine XO.nil ?_
    refine X.sub (p' := [(14, _), (12, _), (9, _), (8, _), (7, _), (6, _), (5, _), (4, _)]) ⟨rfl, rfl, rfl, rfl, rfl, rfl, rfl, rfl, trivial⟩ ?_
    refine X.seq ?_
    refine X.region ?_
    refine XO.pu (Pu.move rfl) ?_
    refine XO.callF Try.call22 (Best_nil) rfl (by repeat (first | exact Le.refl _ | refine Le.pick (by repeat first | exact Le.here _ _ | apply Le.there) ?_ | refine Le.lose ?_)) ?_
    rintro _ _ ⟨rfl, rfl⟩ q_ hq_
    simp only [List.cons_append, List.nil_append] at hq_; subst hq_
    refine XO.pu (Pu.move rfl) ?_
    refine XO.pu (Pu.extract rfl rfl) ?_
    refine XO.pu (Pu.extract rfl rfl) ?_
    refine XO.pu (Pu.assign rfl) ?_
    refine XO.pu (Pu.assign rfl) ?_
    refine XO.nil ?_
    refine X.sub (p' := [(16, _), (14, _), (12, _), (9, _), (8, _), (7, _), (6, _), (5, _), (4, _)]) ⟨rfl, rfl, rfl, rfl, rfl, rfl, rfl, rfl, rfl, trivial⟩ ?_
    refine X.seq ?_
    refine X.region ?_
    refine XO.pu (Pu.move rfl) ?_
    refine XO.callF Try.call27 (Last_nil) rfl (by repeat (first | exact Le.refl _ | refine Le.pick (by repeat first | exact Le.here _ _ | apply Le.there) ?_ | refine Le.lose ?_)) ?_
    rintro _ _ ⟨rfl, rfl⟩ q_ hq_
    simp only [List.cons_append, List.nil_append] at hq_; subst hq_
    refine XO.pu (Pu.move rfl) ?_
    refine XO.pu (Pu.extract rfl rfl) ?_
    refine XO.pu (Pu.extract rfl rfl) ?_
    refine XO.pu (Pu.assign rfl) ?_
    refine XO.pu (Pu.assign rfl) ?_
    refine XO.nil ?_
    refine X.sub (p' := [(18, _), (16, _), (14, _), (12, _), (9, _), (8, _), (7, _), (6, _), (5, _), (4, _)]) ⟨rfl, rfl, rfl, rfl, rfl, rfl, rfl, rfl, rfl, rfl, trivial⟩ ?_
    refine X.seq ?_
    refine X.seq ?_
    refine X.region ?_
    refine XO.pu (Pu.move rfl) ?_
    refine XO.callF Try.call20 (num_ok _) rfl (by repeat (first | exact Le.refl _ | refine Le.pick (by repeat first | exact Le.here _ _ | apply Le.there) ?_ | refine Le.lose ?_)) ?_
    rintro _ _ ⟨rfl, rfl⟩ q_ hq_
    simp only [List.cons_append, List.nil_append] at hq_; subst hq_
    refine XO.pu (Pu.move rfl) ?_
    refine XO.callF Try.call20 (num_ok _) rfl (by repeat (first | exact Le.refl _ | refine Le.pick (by repeat first | exact Le.here _ _ | apply Le.there) ?_ | refine Le.lose ?_)) ?_
    rintro _ _ ⟨rfl, rfl⟩ q_ hq_
    simp only [List.cons_append, List.nil_append] at hq_; subst hq_
    refine XO.pu (Pu.add rfl rfl (by omega) (by omega)) ?_
    refine XO.pu (Pu.neq rfl rfl) ?_
    refine XO.pu (Pu.move rfl) ?_
    refine XO.know 58 (.bool false) rfl (congrArg Value.bool (rfl)) ?_
    refine XO.pu (Pu.move rfl) ?_
    refine XO.pu (Pu.pickF rfl rfl) ?_
    refine XO.pu (Pu.move rfl) ?_
    refine XO.know 61 (.bool false) rfl (congrArg Value.bool (rfl)) ?_
    refine XO.pu (Pu.move rfl) ?_
    refine XO.pu (Pu.pickF rfl rfl) ?_
    refine XO.pu (Pu.move rfl) ?_
    refine XO.know 64 (.bool false) rfl (congrArg Value.bool (rfl)) ?_
    refine XO.pu (Pu.move rfl) ?_
    refine XO.callF Try.call18 (All_nil) rfl (by repeat (first | exact Le.refl _ | refine Le.pick (by repeat first | exact Le.here _ _ | apply Le.there) ?_ | refine Le.lose ?_)) ?_
    rintro _ _ ⟨rfl, rfl⟩ q_ hq_
    simp only [List.cons_append, List.nil_append] at hq_; subst hq_
    refine XO.pu (Pu.len rfl Try.underlying22) ?_
    refine XO.pu (Pu.move rfl) ?_
    refine XO.callF Try.call21 (Gone_nil) rfl (by repeat (first | exact Le.refl _ | refine Le.pick (by repeat first | exact Le.here _ _ | apply Le.there) ?_ | refine Le.lose ?_)) ?_
    rintro _ _ ⟨rfl, rfl⟩ q_ hq_
    simp only [List.cons_append, List.nil_append] at hq_; subst hq_
    refine XO.pu (Pu.add rfl rfl (by omega) (by omega)) ?_
    refine XO.pu (Pu.neq rfl rfl) ?_
    refine XO.pu (Pu.pickF rfl rfl) ?_
    refine XO.pu (Pu.move rfl) ?_
    refine XO.know 73 (.bool false) rfl (congrArg Value.bool (rfl)) ?_
    refine XO.pu (Pu.move rfl) ?_
    refine XO.callF Try.call24 (Copy_nil) rfl (by repeat (first | exact Le.refl _ | refine Le.pick (by repeat first | exact Le.here _ _ | apply Le.there) ?_ | refine Le.lose ?_)) ?_
    rintro _ _ ⟨rfl, rfl⟩ q_ hq_
    simp only [List.cons_append, List.nil_append] at hq_; subst hq_
    refine XO.pu (Pu.neqNil rfl Try.underlying25) ?_
    refine XO.pu (Pu.pickF rfl rfl) ?_
    refine XO.pu (Pu.move rfl) ?_
    refine XO.know 78 (.bool false) rfl (congrArg Value.bool (rfl)) ?_
    refine XO.pu (Pu.move rfl) ?_
    refine XO.callF Try.call25 (Same_nn) rfl (by repeat (first | exact Le.refl _ | refine Le.pick (by repeat first | exact Le.here _ _ | apply Le.there) ?_ | refine Le.lose ?_)) ?_
    rintro _ _ ⟨rfl, rfl⟩ q_ hq_
    simp only [List.cons_append, List.nil_append] at hq_; subst hq_
    refine XO.pu (Pu.not rfl) ?_
    refine XO.pu (Pu.pickF rfl rfl) ?_
    refine XO.nil ?_
    refine X.sub (p' := [(82, _), (9, _), (8, _), (7, _), (6, _), (5, _), (4, _)]) ⟨rfl, rfl, rfl, rfl, rfl, rfl, rfl, trivial⟩ ?_
    refine X.condF rfl ?_
    refine X.skip ?_
    refine X.seq ?_
    refine X.seq ?_
    refine X.region ?_
    refine XO.pu (Pu.move rfl) ?_
    refine XO.pu (Pu.neq rfl rfl) ?_
    refine XO.nil ?_
    refine X.sub (p' := [(84, _), (9, _), (8, _), (7, _), (6, _), (5, _), (4, _)]) ⟨rfl, rfl, rfl, rfl, rfl, rfl, rfl, trivial⟩ ?_
    refine X.know 84 (.bool false) rfl (congrArg Value.bool (rfl)) ?_
    refine X.condF rfl ?_
    refine X.skip ?_
    refine X.seq ?_
    refine X.region ?_
    refine XO.pu (Pu.move rfl) ?_
    refine XO.callF Try.call20 (num_ok _) rfl (by repeat (first | exact Le.refl _ | refine Le.pick (by repeat first | exact Le.here _ _ | apply Le.there) ?_ | refine Le.lose ?_)) ?_
    rintro _ _ ⟨rfl, rfl⟩ q_ hq_
    simp only [List.cons_append, List.nil_append] at hq_; subst hq_
    refine XO.pu (Pu.eql rfl rfl) ?_
    refine XO.pu (Pu.move rfl) ?_
    refine XO.know 99 (.bool true) rfl (congrArg Value.bool (rfl)) ?_
    refine XO.pu (Pu.move rfl) ?_
    refine XO.rd (Rd.loadA rfl Try.isAgg27 Try.sizeOf27 (by repeat first | exact Has.pto _ _ _ | exact Has.im _ _ _ | refine Has.there ?_) (by rfl)) ?_
    refine XO.le (Le.lsM_nil I 3 _) ?_
    refine XO.callF Try.call14 (is_ok (p := ⟨every, most, [], 0, 0, false⟩) (b := b) (a := none) (c := 0) hg) rfl (by repeat (first | exact Le.refl _ | refine Le.pick (by repeat first | exact Le.here _ _ | apply Le.there) ?_ | refine Le.lose ?_)) ?_
    rintro _ _ ⟨rfl, rfl⟩ q_ hq_
    simp only [List.cons_append, List.nil_append] at hq_; subst hq_
    refine XO.pu (Pu.pickT rfl rfl) ?_
    refine XO.pu (Pu.move rfl) ?_
    refine XO.pu (Pu.move rfl) ?_
    refine XO.pu (Pu.move rfl) ?_
    refine XO.callF Try.call25 (Same_pn (p := ⟨every, most, [], 0, 0, false⟩) (b := b) hg.ok) rfl (by repeat (first | exact Le.refl _ | refine Le.pick (by repeat first | exact Le.here _ _ | apply Le.there) ?_ | refine Le.lose ?_)) ?_
    rintro _ _ ⟨rfl, rfl⟩ q_ hq_
    simp only [List.cons_append, List.nil_append] at hq_; subst hq_
    refine XO.pu (Pu.not rfl) ?_
    refine XO.pu (Pu.pickT rfl rfl) ?_
    refine XO.pu (Pu.move rfl) ?_
    refine XO.pu (Pu.move rfl) ?_
    refine XO.pu (Pu.move rfl) ?_
    refine XO.callF Try.call25 (Same_np (p := ⟨every, most, [], 0, 0, false⟩) (b := b) hg.ok) rfl (by repeat (first | exact Le.refl _ | refine Le.pick (by repeat first | exact Le.here _ _ | apply Le.there) ?_ | refine Le.lose ?_)) ?_
    rintro _ _ ⟨rfl, rfl⟩ q_ hq_
    simp only [List.cons_append, List.nil_append] at hq_; subst hq_
    refine XO.pu (Pu.not rfl) ?_
    refine XO.pu (Pu.pickT rfl rfl) ?_
    refine XO.pu (Pu.move rfl) ?_
    refine XO.callF Try.call11 (works_ok) rfl (by repeat (first | exact Le.refl _ | refine Le.pick (by repeat first | exact Le.here _ _ | apply Le.there) ?_ | refine Le.lose ?_)) ?_
    rintro _ _ ⟨rfl, rfl⟩ q_ hq_
    simp only [List.cons_append, List.nil_append] at hq_; subst hq_
    refine XO.pu (Pu.pickT rfl rfl) ?_
    refine XO.pu (Pu.assign rfl) ?_
    refine XO.nil ?_
    refine X.sub (p' := [(4, _)]) ⟨rfl, trivial⟩ ?_
    refine X.ret ⟨rfl, Lv.ret (q' := []) Try.func9 (res1 Try.results9 rfl) ⟨_, rfl, rfl, rfl⟩ (by repeat (first | exact Le.refl _ | refine Le.pick (by repeat first | exact Le.here _ _ | apply Le.there) ?_ | refine Le.lose ?_))⟩
  · skip
    refine X.seq ?_
    refine X.region ?_
    refine XO.pu (Pu.assign rfl) ?_
    refine XO.nil ?_
    refine X.sub (p' := [(4, _), (0, _), (1, _)]) ⟨rfl, rfl, rfl, trivial⟩ ?_
    refine X.seq ?_
    refine X.region ?_
    refine XO.pu (Pu.move rfl) ?_
    refine XO.pu (Pu.move rfl) ?_
    refine XO.callF Try.call16 (New_no h) rfl (by repeat (first | exact Le.refl _ | refine Le.pick (by repeat first | exact Le.here _ _ | apply Le.there) ?_ | refine Le.lose ?_)) ?_
    rintro _ _ ⟨rfl, rfl⟩ q_ hq_
    simp only [List.cons_append, List.nil_append] at hq_; subst hq_
    refine XO.pu (Pu.move rfl) ?_
    refine XO.pu (Pu.extract rfl rfl) ?_
    refine XO.pu (Pu.extract rfl rfl) ?_
    refine XO.pu (Pu.assign rfl) ?_
    refine XO.pu (Pu.assign rfl) ?_
    refine XO.nil ?_
    refine X.sub (p' := [(6, _), (5, _), (4, _), (0, _), (1, _)]) ⟨rfl, rfl, rfl, rfl, rfl, trivial⟩ ?_
    refine X.seq ?_
    refine X.region ?_
    refine XO.pu (Pu.move rfl) ?_
    refine XO.pu (Pu.move rfl) ?_
    refine XO.callF Try.call26 (RNew_no h) rfl (by repeat (first | exact Le.refl _ | refine Le.pick (by repeat first | exact Le.here _ _ | apply Le.there) ?_ | refine Le.lose ?_)) ?_
    rintro _ _ ⟨rfl, rfl⟩ q_ hq_
    simp only [List.cons_append, List.nil_append] at hq_; subst hq_
    refine XO.pu (Pu.move rfl) ?_
    refine XO.pu (Pu.extract rfl rfl) ?_
    refine XO.pu (Pu.extract rfl rfl) ?_
    refine XO.ef (Ef.alloc Try.zeroValue27) ?_
    rintro _ _ ⟨n4, rfl, rfl⟩
    refine XO.ef0 (Ef.storeA rfl rfl Try.sizeOf27 rfl rfl (by repeat first | exact Le.here _ _ | apply Le.there) rfl) ?_
    rintro _ _ ⟨rfl, rfl⟩
    refine XO.pu (Pu.assign rfl) ?_
    refine XO.nil ?_
    refine X.sub (p' := [(8, _), (7, _), (6, _), (5, _), (4, _)]) ⟨rfl, rfl, rfl, rfl, rfl, trivial⟩ ?_
    refine X.seq ?_
    refine X.region ?_
    refine XO.pu (Pu.assign rfl) ?_
    refine XO.nil ?_
    refine X.sub (p' := [(9, _), (8, _), (7, _), (6, _), (5, _), (4, _)]) ⟨rfl, rfl, rfl, rfl, rfl, rfl, trivial⟩ ?_
    refine X.seq ?_
    refine X.region ?_
    refine XO.pu (Pu.move rfl) ?_
    refine XO.callF Try.call17 (Come_nil) rfl (by repeat (first | exact Le.refl _ | refine Le.pick (by repeat first | exact Le.here _ _ | apply Le.there) ?_ | refine Le.lose ?_)) ?_
    rintro _ _ ⟨rfl, rfl⟩ q_ hq_
    simp only [List.cons_append, List.nil_append] at hq_; subst hq_
    refine XO.pu (Pu.move rfl) ?_
    refine XO.pu (Pu.extract rfl rfl) ?_
    refine XO.pu (Pu.extract rfl rfl) ?_
    refine XO.pu (Pu.extract rfl rfl) ?_
    refine XO.pu (Pu.assign rfl) ?_
    refine XO.pu (Pu.assign rfl) ?_
    refine XO.pu (Pu.assign rfl) ?_
    refine XO.nil ?_
    refine X.sub (p' := [(12, _), (9, _), (8, _), (7, _), (6, _), (5, _), (4, _)]) ⟨rfl, rfl, rfl, rfl, rfl, rfl, rfl, trivial⟩ ?_
    refine X.seq ?_
    refine X.region ?_
    refine XO.pu (Pu.move rfl) ?_
    refine XO.callF Try.call19 (Far_nil) rfl (by repeat (first | exact Le.refl _ | refine Le.pick (by repeat first | exact Le.here _ _ | apply Le.there) ?_ | refine Le.lose ?_)) ?_
    rintro _ _ ⟨rfl, rfl⟩ q_ hq_
    simp only [List.cons_append, List.nil_append] at hq_; subst hq_
    refine XO.pu (Pu.move rfl) ?_
    refine XO.pu (Pu.extract rfl rfl) ?_
    refine XO.pu (Pu.extract rfl rfl) ?_
    refine XO.pu (Pu.assign rfl) ?_
    refine XO.pu (Pu.assign rfl) ?_
    refine XO.nil ?_
    refine X.sub (p' := [(14, _), (12, _), (9, _), (8, _), (7, _), (6, _), (5, _), (4, _)]) ⟨rfl, rfl, rfl, rfl, rfl, rfl, rfl, rfl, trivial⟩ ?_
    refine X.seq ?_
    refine X.region ?_
    refine XO.pu (Pu.move rfl) ?_
    refine XO.callF Try.call22 (Best_nil) rfl (by repeat (first | exact Le.refl _ | refine Le.pick (by repeat first | exact Le.here _ _ | apply Le.there) ?_ | refine Le.lose ?_)) ?_
    rintro _ _ ⟨rfl, rfl⟩ q_ hq_
    simp only [List.cons_append, List.nil_append] at hq_; subst hq_
    refine XO.pu (Pu.move rfl) ?_
    refine XO.pu (Pu.extract rfl rfl) ?_
    refine XO.pu (Pu.extract rfl rfl) ?_
    refine XO.pu (Pu.assign rfl) ?_
    refine XO.pu (Pu.assign rfl) ?_
    refine XO.nil ?_
    refine X.sub (p' := [(16, _), (14, _), (12, _), (9, _), (8, _), (7, _), (6, _), (5, _), (4, _)]) ⟨rfl, rfl, rfl, rfl, rfl, rfl, rfl, rfl, rfl, trivial⟩ ?_
    refine X.seq ?_
    refine X.region ?_
    refine XO.pu (Pu.move rfl) ?_
    refine XO.callF Try.call27 (Last_nil) rfl (by repeat (first | exact Le.refl _ | refine Le.pick (by repeat first | exact Le.here _ _ | apply Le.there) ?_ | refine Le.lose ?_)) ?_
    rintro _ _ ⟨rfl, rfl⟩ q_ hq_
    simp only [List.cons_append, List.nil_append] at hq_; subst hq_
    refine XO.pu (Pu.move rfl) ?_
    refine XO.pu (Pu.extract rfl rfl) ?_
    refine XO.pu (Pu.extract rfl rfl) ?_
    refine XO.pu (Pu.assign rfl) ?_
    refine XO.pu (Pu.assign rfl) ?_
    refine XO.nil ?_
    refine X.sub (p' := [(18, _), (16, _), (14, _), (12, _), (9, _), (8, _), (7, _), (6, _), (5, _), (4, _)]) ⟨rfl, rfl, rfl, rfl, rfl, rfl, rfl, rfl, rfl, rfl, trivial⟩ ?_
    refine X.seq ?_
    refine X.seq ?_
    refine X.region ?_
    refine XO.pu (Pu.move rfl) ?_
    refine XO.callF Try.call20 (num_ok _) rfl (by repeat (first | exact Le.refl _ | refine Le.pick (by repeat first | exact Le.here _ _ | apply Le.there) ?_ | refine Le.lose ?_)) ?_
    rintro _ _ ⟨rfl, rfl⟩ q_ hq_
    simp only [List.cons_append, List.nil_append] at hq_; subst hq_
    refine XO.pu (Pu.move rfl) ?_
    refine XO.callF Try.call20 (num_ok _) rfl (by repeat (first | exact Le.refl _ | refine Le.pick (by repeat first | exact Le.here _ _ | apply Le.there) ?_ | refine Le.lose ?_)) ?_
    rintro _ _ ⟨rfl, rfl⟩ q_ hq_
    simp only [List.cons_append, List.nil_append] at hq_; subst hq_
    refine XO.pu (Pu.add rfl rfl (by omega) (by omega)) ?_
    refine XO.pu (Pu.neq rfl rfl) ?_
    refine XO.pu (Pu.move rfl) ?_
    refine XO.know 58 (.bool false) rfl (congrArg Value.bool (rfl)) ?_
    refine XO.pu (Pu.move rfl) ?_
    refine XO.pu (Pu.pickF rfl rfl) ?_
    refine XO.pu (Pu.move rfl) ?_
    refine XO.know 61 (.bool false) rfl (congrArg Value.bool (rfl)) ?_
    refine XO.pu (Pu.move rfl) ?_
    refine XO.pu (Pu.pickF rfl rfl) ?_
    refine XO.pu (Pu.move rfl) ?_
    refine XO.know 64 (.bool false) rfl (congrArg Value.bool (rfl)) ?_
    refine XO.pu (Pu.move rfl) ?_
    refine XO.callF Try.call18 (All_nil) rfl (by repeat (first | exact Le.refl _ | refine Le.pick (by repeat first | exact Le.here _ _ | apply Le.there) ?_ | refine Le.lose ?_)) ?_
    rintro _ _ ⟨rfl, rfl⟩ q_ hq_
    simp only [List.cons_append, List.nil_append] at hq_; subst hq_
    refine XO.pu (Pu.len rfl Try.underlying22) ?_
    refine XO.pu (Pu.move rfl) ?_
    refine XO.callF Try.call21 (Gone_nil) rfl (by repeat (first | exact Le.refl _ | refine Le.pick (by repeat first | exact Le.here _ _ | apply Le.there) ?_ | refine Le.lose ?_)) ?_
    rintro _ _ ⟨rfl, rfl⟩ q_ hq_
    simp only [List.cons_append, List.nil_append] at hq_; subst hq_
    refine XO.pu (Pu.add rfl rfl (by omega) (by omega)) ?_
    refine XO.pu (Pu.neq rfl rfl) ?_
    refine XO.pu (Pu.pickF rfl rfl) ?_
    refine XO.pu (Pu.move rfl) ?_
    refine XO.know 73 (.bool false) rfl (congrArg Value.bool (rfl)) ?_
    refine XO.pu (Pu.move rfl) ?_
    refine XO.callF Try.call24 (Copy_nil) rfl (by repeat (first | exact Le.refl _ | refine Le.pick (by repeat first | exact Le.here _ _ | apply Le.there) ?_ | refine Le.lose ?_)) ?_
    rintro _ _ ⟨rfl, rfl⟩ q_ hq_
    simp only [List.cons_append, List.nil_append] at hq_; subst hq_
    refine XO.pu (Pu.neqNil rfl Try.underlying25) ?_
    refine XO.pu (Pu.pickF rfl rfl) ?_
    refine XO.pu (Pu.move rfl) ?_
    refine XO.know 78 (.bool false) rfl (congrArg Value.bool (rfl)) ?_
    refine XO.pu (Pu.move rfl) ?_
    refine XO.callF Try.call25 (Same_nn) rfl (by repeat (first | exact Le.refl _ | refine Le.pick (by repeat first | exact Le.here _ _ | apply Le.there) ?_ | refine Le.lose ?_)) ?_
    rintro _ _ ⟨rfl, rfl⟩ q_ hq_
    simp only [List.cons_append, List.nil_append] at hq_; subst hq_
    refine XO.pu (Pu.not rfl) ?_
    refine XO.pu (Pu.pickF rfl rfl) ?_
    refine XO.nil ?_
    refine X.sub (p' := [(82, _), (9, _), (8, _), (7, _), (6, _), (5, _), (4, _)]) ⟨rfl, rfl, rfl, rfl, rfl, rfl, rfl, trivial⟩ ?_
    refine X.condF rfl ?_
    refine X.skip ?_
    refine X.seq ?_
    refine X.seq ?_
    refine X.region ?_
    refine XO.pu (Pu.move rfl) ?_
    refine XO.pu (Pu.neq rfl rfl) ?_
    refine XO.nil ?_
    refine X.sub (p' := [(84, _), (9, _), (8, _), (7, _), (6, _), (5, _), (4, _)]) ⟨rfl, rfl, rfl, rfl, rfl, rfl, rfl, trivial⟩ ?_
    refine X.know 84 (.bool true) rfl (congrArg Value.bool (rfl)) ?_
    refine X.condT rfl ?_
    refine X.seq ?_
    refine X.region ?_
    refine XO.pu (Pu.move rfl) ?_
    refine XO.pu (Pu.eqlNil rfl Try.underlying25) ?_
    refine XO.pu (Pu.move rfl) ?_
    refine XO.know 87 (.bool true) rfl (congrArg Value.bool (rfl)) ?_
    refine XO.pu (Pu.move rfl) ?_
    refine XO.callF Try.call20 (num_ok _) rfl (by repeat (first | exact Le.refl _ | refine Le.pick (by repeat first | exact Le.here _ _ | apply Le.there) ?_ | refine Le.lose ?_)) ?_
    rintro _ _ ⟨rfl, rfl⟩ q_ hq_
    simp only [List.cons_append, List.nil_append] at hq_; subst hq_
    refine XO.pu (Pu.move rfl) ?_
    refine XO.pu (Pu.eql rfl rfl) ?_
    refine XO.pu (Pu.pickT rfl rfl) ?_
    refine XO.pu (Pu.move rfl) ?_
    refine XO.know 93 (.bool true) rfl (congrArg Value.bool (rfl)) ?_
    refine XO.callF Try.call11 (works_ok) rfl (by repeat (first | exact Le.refl _ | refine Le.pick (by repeat first | exact Le.here _ _ | apply Le.there) ?_ | refine Le.lose ?_)) ?_
    rintro _ _ ⟨rfl, rfl⟩ q_ hq_
    simp only [List.cons_append, List.nil_append] at hq_; subst hq_
    refine XO.pu (Pu.pickT rfl rfl) ?_
    refine XO.pu (Pu.assign rfl) ?_
    refine XO.nil ?_
    refine X.sub (p' := [(4, _), (9, _), (7, _), (6, _), (5, _)]) ⟨rfl, rfl, rfl, rfl, rfl, trivial⟩ ?_
    refine X.ret ⟨rfl, Lv.ret (q' := []) Try.func9 (res1 Try.results9 rfl) ⟨_, rfl, rfl, rfl⟩ (by repeat (first | exact Le.refl _ | refine Le.pick (by repeat first | exact Le.here _ _ | apply Le.there) ?_ | refine Le.lose ?_))⟩
end
end Go.Proofs.Ytjfkkdohpfbilaa

