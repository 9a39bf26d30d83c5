/- What functions of package points, and of its laws, do: contracts of calls, proved by walking their code. -/
import Derived.Test.YtjfkkdohpfbilaaE
import Derived.Test.YtjfkkdohpfbilaaWx8
import Derived.KernelRfl
set_option maxRecDepth 100000
set_option linter.unusedVariables false
set_option linter.unusedSimpArgs false
namespace Go.Proofs.Ytjfkkdohpfbilaa
open Go Go.RowKit Wx

section
variable {G : World} {p : Pt} {b : Nat} {t : Int} {q : List HP} {a a' : Option Addr} {c c' : Nat} {l m : List Int}
theorem Sees.none_nil (h : Sees q none (l.map I)) (w : World) (s : St G w q) : l = [] := by
  cases l with
  | nil => rfl
  | cons x r => obtain ⟨_, _, e, _⟩ := h G w s 0 (I x) rfl; cases e
theorem Clone_ok (hs : Sees q a (l.map I)) (hl : l.length ≤ 1000000) : CallF Try.prog G 33 [.slice a l.length c] q (Ret fun v q' => ∃ a' c', v = .slice a' l.length c' ∧ q' = lsH I 3 a' c' l :: q) := by
  refine CallF.of Try.func33 Try.ntmps33 rfl (fun F cs => ?_)
  refine X.sub (p' := [(0, _)]) ⟨rfl, trivial⟩ ?_
  have hs' : Sees (q ++ F) a (l.map I) := hs.le (Le.app_left q F)
  cases a with
  | none =>
    refine X.fact (fun w s => Sees.none_nil hs' w s) (fun el => ?_)
    subst el
    refine X.seq ?_
    refine X.region ?_
    refine XO.pu (Pu.assign rfl) ?_
    refine XO.nil ?_
    refine X.sub (p' := [(2, _), (0, _)]) ⟨rfl, rfl, trivial⟩ ?_
    refine X.seq ?_
    refine X.seq ?_
    refine X.region ?_
    refine XO.pu (Pu.move rfl) ?_
    refine XO.pu (Pu.eqlSNil rfl Try.underlying22) ?_
    refine XO.nil ?_
    refine X.sub (p' := [(4, _), (2, _), (0, _)]) ⟨rfl, rfl, rfl, trivial⟩ ?_
    refine X.know 4 (.bool true) rfl (congrArg Value.bool (rfl)) ?_
    refine X.condT rfl ?_
    refine X.seq ?_
    refine X.region ?_
    refine XO.pu (Pu.assign rfl) ?_
    refine XO.nil ?_
    refine X.sub (p' := [(2, _), (0, _)]) ⟨rfl, rfl, trivial⟩ ?_
    refine X.ret ⟨rfl, Lv.ret (q' := lsH I 3 none 0 [] :: q) Try.func33 (res1 Try.results33 rfl) ⟨_, rfl, none, 0, rfl, rfl⟩ (Le.lsH_nil I 3 _)⟩
  | some A =>
    refine X.seq ?_
    refine X.region ?_
    refine XO.pu (Pu.assign rfl) ?_
    refine XO.nil ?_
    refine X.sub (p' := [(2, _), (0, _)]) ⟨rfl, rfl, trivial⟩ ?_
    refine X.seq ?_
    refine X.seq ?_
    refine X.region ?_
    refine XO.pu (Pu.move rfl) ?_
    refine XO.pu (Pu.eqlSNil rfl Try.underlying22) ?_
    refine XO.nil ?_
    refine X.sub (p' := [(4, _), (2, _), (0, _)]) ⟨rfl, rfl, rfl, trivial⟩ ?_
    refine X.know 4 (.bool false) rfl (congrArg Value.bool (rfl)) ?_
    refine X.condF rfl ?_
    refine X.skip ?_
    refine X.seq ?_
    refine X.region ?_
    refine XO.ef (Ef.lit0 I Try.underlying22 Try.info3) ?_
    rintro _ _ ⟨g, rfl, rfl⟩
    refine XO.pu (Pu.move rfl) ?_
    refine XO.ef (Ef.appA (f := I) (l := []) (m := l) Try.underlying22 Try.info3 rfl rfl rfl (by repeat first | exact Le.here _ _ | apply Le.there) hs'.there (fun _ => rfl) (by simp; omega) (by simp; omega)) ?_
    rintro _ _ ⟨a2, c2, rfl, rfl⟩
    refine XO.pu (Pu.assign rfl) ?_
    refine XO.nil ?_
    refine X.sub (p' := [(2, _)]) ⟨rfl, trivial⟩ ?_
    refine X.ret ⟨rfl, Lv.ret (q' := lsH I 3 a2 c2 l :: q) Try.func33 (res1 Try.results33 rfl) ⟨_, rfl, a2, c2, rfl, rfl⟩ (Le.refl _)⟩
theorem All_ok (ok : p.Ok) : CallF Try.prog G 18 [.pointer (some ⟨b, 0, none⟩)] [PtH b p] (Ret fun v q => ∃ a c, v = .slice a p.kept.length c ∧ q = [lsH I 3 a c p.kept, PtH b p]) := by
  refine CallF.of Try.func18 Try.ntmps18 rfl (fun F cs => ?_)
  refine X.sub (p' := [(0, _)]) ⟨rfl, trivial⟩ ?_
  have k1 := ok.k1; have m2 := ok.m2
  refine X.open (fun a c => ?_)
  refine X.seq ?_
  refine X.region ?_
  refine XO.pu (Pu.assign rfl) ?_
  refine XO.nil ?_
  refine X.sub (p' := [(2, _), (0, _)]) ⟨rfl, rfl, trivial⟩ ?_
  refine X.seq ?_
  refine X.seq ?_
  refine X.region ?_
  refine XO.pu (Pu.move rfl) ?_
  refine XO.callF Try.call29 (there_some (every := p.every) ok.e1) rfl (by repeat (first | exact Le.refl _ | refine Le.pick (by repeat first | exact Le.here _ _ | apply Le.there) ?_ | refine Le.lose ?_)) ?_
  rintro _ _ ⟨rfl, rfl⟩ q_ hq_
  simp only [List.cons_append, List.nil_append] at hq_; subst hq_
  refine XO.pu (Pu.not rfl) ?_
  refine XO.nil ?_
  refine X.sub (p' := [(5, _), (2, _), (0, _)]) ⟨rfl, rfl, rfl, trivial⟩ ?_
  refine X.condF rfl ?_
  refine X.skip ?_
  refine X.seq ?_
  refine X.region ?_
  refine XO.pu (Pu.move rfl) ?_
  refine XO.pu (Pu.nilCheck rfl) ?_
  refine XO.pu (Pu.fieldAddr 22 2 0 rfl Try.underlying60 rfl Try.sizeOf22) ?_
  refine XO.rd (Rd.load rfl Try.isAgg22 (Cl.of (by repeat first | exact Has.pto _ _ _ | exact Has.im _ _ _ | refine Has.there ?_) (by rfl))) ?_
  refine XO.callF Try.call33 (Clone_ok (q := [pto b (ptsO p.every p.most (.slice a p.kept.length c) p.gone p.last p.came), lsH I 3 a c p.kept]) (l := p.kept) (a := a) (c := c) (Sees.lsH _).there (by omega)) rfl (by repeat (first | exact Le.refl _ | refine Le.pick (by repeat first | exact Le.here _ _ | apply Le.there) ?_ | refine Le.lose ?_)) ?_
  rintro _ _ ⟨a2, c2, rfl, rfl⟩ q_ hq_
  simp only [List.cons_append, List.nil_append] at hq_; subst hq_
  refine XO.pu (Pu.assign rfl) ?_
  refine XO.nil ?_
  refine X.sub (p' := [(2, _)]) ⟨rfl, trivial⟩ ?_
  refine X.ret ⟨rfl, Lv.ret (q' := [lsH I 3 a2 c2 p.kept, PtH b p]) Try.func18 (res1 Try.results18 rfl) ⟨_, rfl, a2, c2, rfl, rfl⟩ (Le.pick (by repeat first | exact Le.here _ _ | apply Le.there) (PtH.close (a := a) (c := c) (by repeat (first | exact Le.refl _ | refine Le.pick (by repeat first | exact Le.here _ _ | apply Le.there) ?_ | refine Le.lose ?_))))⟩
theorem All_nil  : CallF Try.prog G 18 [.pointer none] [] (Ret fun v q => v = .slice none 0 0 ∧ q = []) := by
  refine CallF.of Try.func18 Try.ntmps18 rfl (fun F cs => ?_)
  refine X.sub (p' := [(0, _)]) ⟨rfl, trivial⟩ ?_
  refine X.seq ?_
  refine X.region ?_
  refine XO.pu (Pu.assign rfl) ?_
  refine XO.nil ?_
  refine X.sub (p' := [(2, _), (0, _)]) ⟨rfl, rfl, trivial⟩ ?_
  refine X.seq ?_
  refine X.seq ?_
  refine X.region ?_
  refine XO.pu (Pu.move rfl) ?_
  refine XO.callF Try.call29 (there_nil) rfl (by repeat (first | exact Le.refl _ | refine Le.pick (by repeat first | exact Le.here _ _ | apply Le.there) ?_ | refine Le.lose ?_)) ?_
  rintro _ _ ⟨rfl, rfl⟩ q_ hq_
  simp only [List.cons_append, List.nil_append] at hq_; subst hq_
  refine XO.pu (Pu.not rfl) ?_
  refine XO.nil ?_
  refine X.sub (p' := [(5, _), (2, _), (0, _)]) ⟨rfl, rfl, rfl, trivial⟩ ?_
  refine X.condT rfl ?_
  refine X.seq ?_
  refine X.region ?_
  refine XO.pu (Pu.assign rfl) ?_
  refine XO.nil ?_
  refine X.sub (p' := [(2, _), (0, _)]) ⟨rfl, rfl, trivial⟩ ?_
  refine X.ret ⟨rfl, Lv.ret (q' := []) Try.func18 (res1 Try.results18 rfl) ⟨_, rfl, rfl, rfl⟩ (by repeat (first | exact Le.refl _ | refine Le.pick (by repeat first | exact Le.here _ _ | apply Le.there) ?_ | refine Le.lose ?_))⟩
theorem Gone_ok (ok : p.Ok) : CallF Try.prog G 21 [.pointer (some ⟨b, 0, none⟩)] [PtH b p] (Ret fun v q => v = .int .i64 p.gone ∧ q = [PtH b p]) := by
  refine CallF.of Try.func21 Try.ntmps21 rfl (fun F cs => ?_)
  refine X.sub (p' := [(0, _)]) ⟨rfl, trivial⟩ ?_
  refine X.open (fun a c => ?_)
  refine X.seq ?_
  refine X.region ?_
  refine XO.pu (Pu.assign rfl) ?_
  refine XO.nil ?_
  refine X.sub (p' := [(2, _), (0, _)]) ⟨rfl, rfl, trivial⟩ ?_
  refine X.seq ?_
  refine X.seq ?_
  refine X.region ?_
  refine XO.pu (Pu.move rfl) ?_
  refine XO.callF Try.call29 (there_some (every := p.every) ok.e1) rfl (by repeat (first | exact Le.refl _ | refine Le.pick (by repeat first | exact Le.here _ _ | apply Le.there) ?_ | refine Le.lose ?_)) ?_
  rintro _ _ ⟨rfl, rfl⟩ q_ hq_
  simp only [List.cons_append, List.nil_append] at hq_; subst hq_
  refine XO.pu (Pu.not rfl) ?_
  refine XO.nil ?_
  refine X.sub (p' := [(5, _), (2, _), (0, _)]) ⟨rfl, rfl, rfl, trivial⟩ ?_
  refine X.condF rfl ?_
  refine X.skip ?_
  refine X.seq ?_
  refine X.region ?_
  refine XO.pu (Pu.move rfl) ?_
  refine XO.pu (Pu.nilCheck rfl) ?_
  refine XO.pu (Pu.fieldAddr 3 3 0 rfl Try.underlying60 rfl Try.sizeOf3) ?_
  refine XO.rd (Rd.load rfl Try.isAgg3 (Cl.of (by repeat first | exact Has.pto _ _ _ | exact Has.im _ _ _ | refine Has.there ?_) (by rfl))) ?_
  refine XO.pu (Pu.assign rfl) ?_
  refine XO.nil ?_
  refine X.sub (p' := [(2, _)]) ⟨rfl, trivial⟩ ?_
  refine X.ret ⟨rfl, Lv.ret (q' := [PtH b p]) Try.func21 (res1 Try.results21 rfl) ⟨_, rfl, rfl, rfl⟩ (PtH.close (a := a) (c := c) (by repeat (first | exact Le.refl _ | refine Le.pick (by repeat first | exact Le.here _ _ | apply Le.there) ?_ | refine Le.lose ?_)))⟩
theorem Gone_nil  : CallF Try.prog G 21 [.pointer none] [] (Ret fun v q => v = .int .i64 0 ∧ q = []) := by
  refine CallF.of Try.func21 Try.ntmps21 rfl (fun F cs => ?_)
  refine X.sub (p' := [(0, _)]) ⟨rfl, trivial⟩ ?_
  refine X.seq ?_
  refine X.region ?_
  refine XO.pu (Pu.assign rfl) ?_
  refine XO.nil ?_
  refine X.sub (p' := [(2, _), (0, _)]) ⟨rfl, rfl, trivial⟩ ?_
  refine X.seq ?_
  refine X.seq ?_
  refine X.region ?_
  refine XO.pu (Pu.move rfl) ?_
  refine XO.callF Try.call29 (there_nil) rfl (by repeat (first | exact Le.refl _ | refine Le.pick (by repeat first | exact Le.here _ _ | apply Le.there) ?_ | refine Le.lose ?_)) ?_
  rintro _ _ ⟨rfl, rfl⟩ q_ hq_
  simp only [List.cons_append, List.nil_append] at hq_; subst hq_
  refine XO.pu (Pu.not rfl) ?_
  refine XO.nil ?_
  refine X.sub (p' := [(5, _), (2, _), (0, _)]) ⟨rfl, rfl, rfl, trivial⟩ ?_
  refine X.condT rfl ?_
  refine X.seq ?_
  refine X.region ?_
  refine XO.pu (Pu.assign rfl) ?_
  refine XO.nil ?_
  refine X.sub (p' := [(2, _), (0, _)]) ⟨rfl, rfl, trivial⟩ ?_
  refine X.ret ⟨rfl, Lv.ret (q' := []) Try.func21 (res1 Try.results21 rfl) ⟨_, rfl, rfl, rfl⟩ (by repeat (first | exact Le.refl _ | refine Le.pick (by repeat first | exact Le.here _ _ | apply Le.there) ?_ | refine Le.lose ?_))⟩
theorem Last_ok (ok : p.Ok) : CallF Try.prog G 27 [.pointer (some ⟨b, 0, none⟩)] [PtH b p] (Ret fun v q => v = .tuple [.int .i64 (if p.came then p.last else 0), .bool p.came].toArray ∧ q = [PtH b p]) := by
  refine CallF.of Try.func27 Try.ntmps27 rfl (fun F cs => ?_)
  refine X.sub (p' := [(0, _)]) ⟨rfl, trivial⟩ ?_
  refine X.open (fun a c => ?_)
  obtain ⟨every, most, kept, gone, last, came⟩ := p
  dsimp only at *
  refine X.seq ?_
  refine X.region ?_
  refine XO.pu (Pu.assign rfl) ?_
  refine XO.pu (Pu.assign rfl) ?_
  refine XO.nil ?_
  refine X.sub (p' := [(3, _), (2, _), (0, _)]) ⟨rfl, rfl, rfl, trivial⟩ ?_
  refine X.seq ?_
  refine X.seq ?_
  refine X.region ?_
  refine XO.pu (Pu.move rfl) ?_
  refine XO.callF Try.call29 (there_some (every := every) ok.e1) rfl (by repeat (first | exact Le.refl _ | refine Le.pick (by repeat first | exact Le.here _ _ | apply Le.there) ?_ | refine Le.lose ?_)) ?_
  rintro _ _ ⟨rfl, rfl⟩ q_ hq_
  simp only [List.cons_append, List.nil_append] at hq_; subst hq_
  refine XO.pu (Pu.not rfl) ?_
  refine XO.pu (Pu.move rfl) ?_
  refine XO.pu (Pu.move rfl) ?_
  refine XO.pu (Pu.nilCheck rfl) ?_
  refine XO.pu (Pu.fieldAddr 4 5 0 rfl Try.underlying60 rfl Try.sizeOf4) ?_
  refine XO.rd (Rd.load rfl Try.isAgg4 (Cl.of (by repeat first | exact Has.pto _ _ _ | exact Has.im _ _ _ | refine Has.there ?_) (by rfl))) ?_
  refine XO.pu (Pu.not rfl) ?_
  refine XO.pu (Pu.pickF rfl rfl) ?_
  refine XO.nil ?_
  refine X.sub (p' := [(13, _), (3, _), (2, _), (0, _)]) ⟨rfl, rfl, rfl, rfl, trivial⟩ ?_
  cases came with
  | true =>
    refine X.know 13 (.bool false) rfl (congrArg Value.bool (rfl)) ?_
    refine X.condF rfl ?_
    refine X.skip ?_
    refine X.seq ?_
    refine X.region ?_
    refine XO.pu (Pu.move rfl) ?_
    refine XO.pu (Pu.nilCheck rfl) ?_
    refine XO.pu (Pu.fieldAddr 3 4 0 rfl Try.underlying60 rfl Try.sizeOf3) ?_
    refine XO.rd (Rd.load rfl Try.isAgg3 (Cl.of (by repeat first | exact Has.pto _ _ _ | exact Has.im _ _ _ | refine Has.there ?_) (by rfl))) ?_
    refine XO.pu (Pu.assign rfl) ?_
    refine XO.pu (Pu.assign rfl) ?_
    refine XO.nil ?_
    refine X.sub (p' := [(3, _), (2, _)]) ⟨rfl, rfl, trivial⟩ ?_
    refine X.ret ⟨rfl, Lv.ret (q' := [PtH b ⟨every, most, kept, gone, last, true⟩]) Try.func27 (res2 Try.results27 rfl rfl) ⟨_, rfl, rfl, rfl⟩ (PtH.close (a := a) (c := c) (by repeat (first | exact Le.refl _ | refine Le.pick (by repeat first | exact Le.here _ _ | apply Le.there) ?_ | refine Le.lose ?_)))⟩
  | false =>
    refine X.know 13 (.bool true) rfl (congrArg Value.bool (rfl)) ?_
    refine X.condT rfl ?_
    refine X.seq ?_
    refine X.region ?_
    refine XO.pu (Pu.assign rfl) ?_
    refine XO.pu (Pu.assign rfl) ?_
    refine XO.nil ?_
    refine X.sub (p' := [(3, _), (2, _), (0, _)]) ⟨rfl, rfl, rfl, trivial⟩ ?_
    refine X.ret ⟨rfl, Lv.ret (q' := [PtH b ⟨every, most, kept, gone, last, false⟩]) Try.func27 (res2 Try.results27 rfl rfl) ⟨_, rfl, rfl, rfl⟩ (PtH.close (a := a) (c := c) (by repeat (first | exact Le.refl _ | refine Le.pick (by repeat first | exact Le.here _ _ | apply Le.there) ?_ | refine Le.lose ?_)))⟩
theorem Last_nil  : CallF Try.prog G 27 [.pointer none] [] (Ret fun v q => v = .tuple [.int .i64 0, .bool false].toArray ∧ q = []) := by
  refine CallF.of Try.func27 Try.ntmps27 rfl (fun F cs => ?_)
  refine X.sub (p' := [(0, _)]) ⟨rfl, trivial⟩ ?_
  refine X.seq ?_
  refine X.region ?_
  refine XO.pu (Pu.assign rfl) ?_
  refine XO.pu (Pu.assign rfl) ?_
  refine XO.nil ?_
  refine X.sub (p' := [(3, _), (2, _), (0, _)]) ⟨rfl, rfl, rfl, trivial⟩ ?_
  refine X.seq ?_
  refine X.seq ?_
  refine X.region ?_
  refine XO.pu (Pu.move rfl) ?_
  refine XO.callF Try.call29 (there_nil) rfl (by repeat (first | exact Le.refl _ | refine Le.pick (by repeat first | exact Le.here _ _ | apply Le.there) ?_ | refine Le.lose ?_)) ?_
  rintro _ _ ⟨rfl, rfl⟩ q_ hq_
  simp only [List.cons_append, List.nil_append] at hq_; subst hq_
  refine XO.pu (Pu.not rfl) ?_
  refine XO.pu (Pu.move rfl) ?_
  refine XO.pass rfl ?_
  refine XO.pass rfl ?_
  refine XO.pass rfl ?_
  refine XO.pass rfl ?_
  refine XO.pass rfl ?_
  refine XO.pu (Pu.pickT rfl rfl) ?_
  refine XO.nil ?_
  refine X.sub (p' := [(13, _), (3, _), (2, _), (0, _)]) ⟨rfl, rfl, rfl, rfl, trivial⟩ ?_
  refine X.condT rfl ?_
  refine X.seq ?_
  refine X.region ?_
  refine XO.pu (Pu.assign rfl) ?_
  refine XO.pu (Pu.assign rfl) ?_
  refine XO.nil ?_
  refine X.sub (p' := [(3, _), (2, _), (0, _)]) ⟨rfl, rfl, rfl, trivial⟩ ?_
  refine X.ret ⟨rfl, Lv.ret (q' := []) Try.func27 (res2 Try.results27 rfl rfl) ⟨_, rfl, rfl, rfl⟩ (by repeat (first | exact Le.refl _ | refine Le.pick (by repeat first | exact Le.here _ _ | apply Le.there) ?_ | refine Le.lose ?_))⟩
theorem nan1  : CallF Try.prog G 39 [.int .i64 t] [] (Ret fun v q => v = .bool false ∧ q = []) := by
  refine CallF.of Try.func39 Try.ntmps39 rfl (fun F cs => ?_)
  refine X.sub (p' := [(0, _)]) ⟨rfl, trivial⟩ ?_
  refine X.seq ?_
  refine X.region ?_
  refine XO.pu (Pu.assign rfl) ?_
  refine XO.nil ?_
  refine X.sub (p' := [(2, _), (0, _)]) ⟨rfl, rfl, trivial⟩ ?_
  refine X.seq ?_
  refine X.region ?_
  refine XO.pu (Pu.move rfl) ?_
  refine XO.pu (Pu.move rfl) ?_
  refine XO.pu (Pu.neq rfl rfl) ?_
  refine XO.pu (Pu.assign rfl) ?_
  refine XO.nil ?_
  refine X.sub (p' := [(2, _)]) ⟨rfl, trivial⟩ ?_
  refine X.ret ⟨rfl, Lv.ret (q' := []) Try.func39 (res1 Try.results39 rfl) ⟨_, rfl, congrArg Value.bool (by simp), rfl⟩ (by repeat (first | exact Le.refl _ | refine Le.pick (by repeat first | exact Le.here _ _ | apply Le.there) ?_ | refine Le.lose ?_))⟩
theorem nan2  : CallF Try.prog G 38 [.int .i64 t] [] (Ret fun v q => v = .bool false ∧ q = []) := by
  refine CallF.of Try.func38 Try.ntmps38 rfl (fun F cs => ?_)
  refine X.sub (p' := [(0, _)]) ⟨rfl, trivial⟩ ?_
  refine X.seq ?_
  refine X.region ?_
  refine XO.pu (Pu.assign rfl) ?_
  refine XO.nil ?_
  refine X.sub (p' := [(2, _), (0, _)]) ⟨rfl, rfl, trivial⟩ ?_
  refine X.seq ?_
  refine X.region ?_
  refine XO.pu (Pu.move rfl) ?_
  refine XO.pu (Pu.move rfl) ?_
  refine XO.pu (Pu.neq rfl rfl) ?_
  refine XO.pu (Pu.assign rfl) ?_
  refine XO.nil ?_
  refine X.sub (p' := [(2, _)]) ⟨rfl, trivial⟩ ?_
  refine X.ret ⟨rfl, Lv.ret (q' := []) Try.func38 (res1 Try.results38 rfl) ⟨_, rfl, congrArg Value.bool (by simp), rfl⟩ (by repeat (first | exact Le.refl _ | refine Le.pick (by repeat first | exact Le.here _ _ | apply Le.there) ?_ | refine Le.lose ?_))⟩
theorem less_ok {u : Int} : CallF Try.prog G 37 [.int .i64 t, .int .i64 u] [] (Ret fun v q => v = .bool (decide (t < u)) ∧ q = []) := by
  refine CallF.of Try.func37 Try.ntmps37 rfl (fun F cs => ?_)
  refine X.sub (p' := [(0, _), (1, _)]) ⟨rfl, rfl, trivial⟩ ?_
  refine X.seq ?_
  refine X.region ?_
  refine XO.pu (Pu.assign rfl) ?_
  refine XO.nil ?_
  refine X.sub (p' := [(4, _), (0, _), (1, _)]) ⟨rfl, rfl, rfl, trivial⟩ ?_
  refine X.seq ?_
  refine X.region ?_
  refine XO.pu (Pu.move rfl) ?_
  refine XO.callF Try.call39 (nan1) rfl (by repeat (first | exact Le.refl _ | refine Le.pick (by repeat first | exact Le.here _ _ | apply Le.there) ?_ | refine Le.lose ?_)) ?_
  rintro _ _ ⟨rfl, rfl⟩ q_ hq_
  simp only [List.cons_append, List.nil_append] at hq_; subst hq_
  refine XO.pu (Pu.move rfl) ?_
  refine XO.pass rfl ?_
  refine XO.pass rfl ?_
  refine XO.pass rfl ?_
  refine XO.pu (Pu.pickF rfl rfl) ?_
  refine XO.pu (Pu.move rfl) ?_
  refine XO.pu (Pu.move rfl) ?_
  refine XO.pu (Pu.move rfl) ?_
  refine XO.pu (Pu.lss rfl rfl) ?_
  refine XO.pu (Pu.pickF rfl rfl) ?_
  refine XO.pu (Pu.assign rfl) ?_
  refine XO.nil ?_
  refine X.sub (p' := [(4, _)]) ⟨rfl, trivial⟩ ?_
  refine X.ret ⟨rfl, Lv.ret (q' := []) Try.func37 (res1 Try.results37 rfl) ⟨_, rfl, rfl, rfl⟩ (by repeat (first | exact Le.refl _ | refine Le.pick (by repeat first | exact Le.here _ _ | apply Le.there) ?_ | refine Le.lose ?_))⟩
/-- What the search in a row finds. -/
def srch (l : List Int) (t : Int) : Nat := (l.filter fun x => decide (x < t)).length
theorem srch_le (l : List Int) (t : Int) : srch l t ≤ l.length := List.length_filter_le _ _
theorem srch_uniq {l : List Int} {t : Int} {n : Nat} (hn : n ≤ l.length) (h1 : ∀ i (h : i < l.length), i < n → l[i] < t) (h2 : ∀ i (h : i < l.length), n ≤ i → t ≤ l[i]) : srch l t = n := by
  unfold srch
  conv => lhs; rw [← List.take_append_drop n l]
  rw [List.filter_append, List.length_append, List.filter_eq_self.2, List.filter_eq_nil_iff.2]
  · simp; omega
  · intro x hx
    obtain ⟨i, hi, rfl⟩ := List.mem_iff_getElem.1 hx
    have := h2 (n + i) (by simp at hi; omega) (by omega)
    simp at hi ⊢; exact this
  · intro x hx
    obtain ⟨i, hi, rfl⟩ := List.mem_iff_getElem.1 hx
    have := h1 i (by simp at hi; omega) (by simp at hi; omega)
    simp at hi ⊢; exact this
def found (l : List Int) (t : Int) : Bool := decide (l[srch l t]? = some t)
theorem Search_ok (hs : Sees q a (l.map I)) (hl : l.length ≤ 1000000) (ho : l.Pairwise (· < ·)) : CallF Try.prog G 34 [.slice a l.length c, .int .i64 t] q (Ret fun v q' => v = .tuple [.int .i64 (srch l t), .bool (found l t)].toArray ∧ q' = q) := by
  refine CallF.of Try.func34 Try.ntmps34 rfl (fun F cs => ?_)
  refine X.sub (p' := [(0, _), (1, _)]) ⟨rfl, rfl, trivial⟩ ?_
  have hs' : Sees (q ++ F) a (l.map I) := hs.le (Le.app_left q F)
  have hmono : ∀ i j (hj : j < l.length) (hij : i < j), l[i]'(by omega) < l[j] := fun i j hj hij => List.pairwise_iff_getElem.1 ho i j (by omega) hj hij
  refine X.seq ?_
  refine X.region ?_
  refine XO.pu (Pu.assign rfl) ?_
  refine XO.pu (Pu.assign rfl) ?_
  refine XO.nil ?_
  refine X.sub (p' := [(5, _), (4, _), (0, _), (1, _)]) ⟨rfl, rfl, rfl, rfl, trivial⟩ ?_
  refine X.seq ?_
  refine X.region ?_
  refine XO.pu (Pu.move rfl) ?_
  refine XO.pu (Pu.len rfl Try.underlying22) ?_
  refine XO.pu (Pu.assign rfl) ?_
  refine XO.nil ?_
  refine X.sub (p' := [(6, _), (5, _), (4, _), (0, _), (1, _)]) ⟨rfl, rfl, rfl, rfl, rfl, trivial⟩ ?_
  refine X.seq ?_
  refine X.region ?_
  refine XO.pu (Pu.move rfl) ?_
  refine XO.pu (Pu.assign rfl) ?_
  refine XO.pu (Pu.assign rfl) ?_
  refine XO.nil ?_
  refine X.sub (p' := [(8, _), (7, _), (6, _), (5, _), (4, _), (0, _), (1, _)]) ⟨rfl, rfl, rfl, rfl, rfl, rfl, rfl, trivial⟩ ?_
  refine X.seq ?_
  refine X.block ?_
  refine X.at (X.loop (fun (s : Nat × Nat) => s.1 ≤ s.2 ∧ s.2 ≤ l.length ∧ (∀ i (h : i < l.length), i < s.1 → l[i] < t) ∧ (∀ i (h : i < l.length), s.2 ≤ i → t ≤ l[i])) (fun s => [(7, .int .i64 (s.1 : Int)), (8, .int .i64 (s.2 : Int)), (0, .slice a l.length c), (1, .int .i64 t), (6, .int .i64 l.length)]) (fun s => q ++ F) (fun s => s.2 - s.1) (fun s hi_ ih => ?_) (0, l.length) ⟨by simp, by simp, by intro i h h2; simp at h2, by intro i h h2; simp at h2; omega⟩) ⟨(by first | rfl | exact congrArg some (congrArg (Value.int _) (by omega))), (by first | rfl | exact congrArg some (congrArg (Value.int _) (by omega))), (by first | rfl | exact congrArg some (congrArg (Value.int _) (by omega))), (by first | rfl | exact congrArg some (congrArg (Value.int _) (by omega))), (by first | rfl | exact congrArg some (congrArg (Value.int _) (by omega))), trivial⟩ (Le.refl _)
  try dsimp only at hi_ ih ⊢
  obtain ⟨h1, h2, h3, h4⟩ := hi_
  obtain ⟨i, j⟩ := s
  dsimp only at *
  refine X.seq ?_
  refine X.seq ?_
  refine X.region ?_
  refine XO.pu (Pu.move rfl) ?_
  refine XO.pu (Pu.move rfl) ?_
  refine XO.pu (Pu.lss rfl rfl) ?_
  refine XO.nil ?_
  refine X.sub (p' := [(15, _), (7, _), (8, _), (0, _), (1, _), (6, _)]) ⟨rfl, rfl, rfl, rfl, rfl, rfl, trivial⟩ ?_
  refine X.cond rfl (fun h5 => ?_) (fun h5 => ?_)
  · skip
    have h5 := of_decide_eq_true h5
    have hm : (i + j) / 2 < l.length := by omega
    refine X.addr hs' (by simp; omega) (fun ba oa ea => ?_); subst ea
    refine X.skip ?_
    refine X.block ?_
    refine X.seq ?_
    refine X.region ?_
    refine XO.pu (Pu.move rfl) ?_
    refine XO.pu (Pu.move rfl) ?_
    refine XO.pu (Pu.add rfl rfl (by omega) (by omega)) ?_
    refine XO.pu (Pu.convW rfl Try.underlying3 Try.underlying68) ?_
    refine XO.know 19 (.int .u64 ((i + j : Nat) : Int)) rfl (congrArg (Value.int .u64) (by rw [IntKind.wrap_u64]; omega)) ?_
    refine XO.pu (Pu.shr rfl rfl (by omega)) ?_
    refine XO.know 20 (.int .u64 (((i + j) / 2 : Nat) : Int)) rfl (congrArg (Value.int .u64) (by rw [show min (1 : Int).toNat IntKind.u64.bits = 1 from rfl, Int.fdiv_eq_ediv_of_nonneg _ (by omega)]; omega)) ?_
    refine XO.pu (Pu.conv rfl Try.underlying68 Try.underlying3 (wrap64_of (by omega) (by omega))) ?_
    refine XO.pu (Pu.assign rfl) ?_
    refine XO.nil ?_
    refine X.sub (p' := [(9, _), (7, _), (8, _), (0, _), (1, _), (6, _)]) ⟨rfl, rfl, rfl, rfl, rfl, rfl, trivial⟩ ?_
    refine X.seq ?_
    refine X.region ?_
    refine XO.pu (Pu.move rfl) ?_
    refine XO.pu (Pu.move rfl) ?_
    refine XO.pu (Pu.indexAddr rfl rfl Try.underlying22 Try.sizeOf3 (by omega) (by omega)) ?_
    refine XO.rd (Rd.load rfl Try.isAgg3 (hs'.at (n := (i + j) / 2) (by omega) hm)) ?_
    refine XO.pu (Pu.move rfl) ?_
    refine XO.callF Try.call37 (less_ok) rfl (by repeat (first | exact Le.refl _ | refine Le.pick (by repeat first | exact Le.here _ _ | apply Le.there) ?_ | refine Le.lose ?_)) ?_
    rintro _ _ ⟨rfl, rfl⟩ q_ hq_
    simp only [List.cons_append, List.nil_append] at hq_; subst hq_
    refine XO.nil ?_
    refine X.sub (p' := [(27, _), (9, _), (7, _), (8, _), (0, _), (1, _), (6, _)]) ⟨rfl, rfl, rfl, rfl, rfl, rfl, rfl, trivial⟩ ?_
    refine X.cond rfl (fun h6 => ?_) (fun h6 => ?_)
    · skip
      have h6 := of_decide_eq_true h6
      refine X.region ?_
      refine XO.pu (Pu.move rfl) ?_
      refine XO.pu (Pu.add rfl rfl (by omega) (by omega)) ?_
      refine XO.pu (Pu.assign rfl) ?_
      refine XO.nil ?_
      refine X.sub (p' := [(7, _), (8, _), (0, _), (1, _), (6, _)]) ⟨rfl, rfl, rfl, rfl, rfl, trivial⟩ ?_
      refine X.inBlock ?_
      refine X.at (ih ((i + j) / 2 + 1, j) ⟨by dsimp only; omega, h2, fun k hk hk2 => by by_cases e : k = (i + j) / 2; subst e; exact h6; exact Int.lt_trans (hmono k ((i + j) / 2) hm (by dsimp only at hk2; omega)) h6, h4⟩ (by dsimp only; omega)) ⟨(by first | rfl | exact congrArg some (congrArg (Value.int _) (by omega))), (by first | rfl | exact congrArg some (congrArg (Value.int _) (by omega))), (by first | rfl | exact congrArg some (congrArg (Value.int _) (by omega))), (by first | rfl | exact congrArg some (congrArg (Value.int _) (by omega))), (by first | rfl | exact congrArg some (congrArg (Value.int _) (by omega))), trivial⟩ (Le.refl _)
    · skip
      have h6 := of_decide_eq_false h6
      refine X.region ?_
      refine XO.pu (Pu.move rfl) ?_
      refine XO.pu (Pu.assign rfl) ?_
      refine XO.nil ?_
      refine X.sub (p' := [(8, _), (7, _), (0, _), (1, _), (6, _)]) ⟨rfl, rfl, rfl, rfl, rfl, trivial⟩ ?_
      refine X.inBlock ?_
      refine X.at (ih (i, (i + j) / 2) ⟨by dsimp only; omega, by dsimp only; omega, h3, fun k hk hk2 => by by_cases e : k = (i + j) / 2; subst e; omega; have := hmono ((i + j) / 2) k hk (by dsimp only at hk2; omega); omega⟩ (by dsimp only; omega)) ⟨(by first | rfl | exact congrArg some (congrArg (Value.int _) (by omega))), (by first | rfl | exact congrArg some (congrArg (Value.int _) (by omega))), (by first | rfl | exact congrArg some (congrArg (Value.int _) (by omega))), (by first | rfl | exact congrArg some (congrArg (Value.int _) (by omega))), (by first | rfl | exact congrArg some (congrArg (Value.int _) (by omega))), trivial⟩ (Le.refl _)
  · skip
    have h5 := of_decide_eq_false h5
    have he : i = j := by omega
    subst he
    have hsr := srch_uniq h2 h3 h4
    have hfd : found l t = decide (l[i]? = some t) := by unfold found; rw [hsr]
    refine X.exit rfl ?_
    refine X.seq ?_
    refine X.region ?_
    refine XO.pu (Pu.move rfl) ?_
    refine XO.pu (Pu.move rfl) ?_
    refine XO.pu (Pu.move rfl) ?_
    refine XO.pu (Pu.lss rfl rfl) ?_
    refine XO.pu (Pu.move rfl) ?_
    refine XO.part 35 rfl (fun h7 => ?_) (fun h7 => ?_)
    · skip
      have h7 := of_decide_eq_true h7
      have h8 : i < l.length := by omega
      refine XO.addr hs' (by simp; omega) (fun ba oa ea => ?_); subst ea
      refine XO.pu (Pu.move rfl) ?_
      refine XO.pu (Pu.move rfl) ?_
      refine XO.pu (Pu.indexAddr rfl rfl Try.underlying22 Try.sizeOf3 (by omega) (by omega)) ?_
      refine XO.rd (Rd.load rfl Try.isAgg3 (hs'.at (n := i) (by omega) h8)) ?_
      refine XO.pu (Pu.move rfl) ?_
      refine XO.pu (Pu.eql rfl rfl) ?_
      refine XO.pu (Pu.move rfl) ?_
      refine XO.part 42 rfl (fun h9 => ?_) (fun h9 => ?_)
      · skip
        refine XO.pass rfl ?_
        refine XO.pass rfl ?_
        refine XO.pass rfl ?_
        refine XO.pass rfl ?_
        refine XO.pass rfl ?_
        refine XO.pass rfl ?_
        refine XO.pass rfl ?_
        refine XO.pass rfl ?_
        refine XO.pass rfl ?_
        refine XO.pu (Pu.pickT rfl rfl) ?_
        refine XO.pu (Pu.pickT rfl rfl) ?_
        refine XO.pu (Pu.assign rfl) ?_
        refine XO.pu (Pu.assign rfl) ?_
        refine XO.nil ?_
        refine X.sub (p' := [(5, _), (4, _)]) ⟨rfl, rfl, trivial⟩ ?_
        refine X.ret ⟨rfl, Lv.ret (q' := q) Try.func34 (res2 Try.results34 rfl rfl) ⟨_, rfl, by rw [hsr, hfd, decide_eq_true (by rw [List.getElem?_eq_getElem h8]; simpa using h9)], rfl⟩ (Le.refl _)⟩
      · skip
        refine XO.pu (Pu.move rfl) ?_
        refine XO.pu (Pu.move rfl) ?_
        refine XO.pu (Pu.indexAddr rfl rfl Try.underlying22 Try.sizeOf3 (by omega) (by omega)) ?_
        refine XO.rd (Rd.load rfl Try.isAgg3 (hs'.at (n := i) (by omega) h8)) ?_
        refine XO.callF Try.call38 (nan2) rfl (by repeat (first | exact Le.refl _ | refine Le.pick (by repeat first | exact Le.here _ _ | apply Le.there) ?_ | refine Le.lose ?_)) ?_
        rintro _ _ ⟨rfl, rfl⟩ q_ hq_
        simp only [List.cons_append, List.nil_append] at hq_; subst hq_
        refine XO.pu (Pu.move rfl) ?_
        refine XO.pass rfl ?_
        refine XO.pass rfl ?_
        refine XO.pu (Pu.pickF rfl rfl) ?_
        refine XO.pu (Pu.pickF rfl rfl) ?_
        refine XO.pu (Pu.pickT rfl rfl) ?_
        refine XO.pu (Pu.assign rfl) ?_
        refine XO.pu (Pu.assign rfl) ?_
        refine XO.nil ?_
        refine X.sub (p' := [(5, _), (4, _)]) ⟨rfl, rfl, trivial⟩ ?_
        refine X.ret ⟨rfl, Lv.ret (q' := q) Try.func34 (res2 Try.results34 rfl rfl) ⟨_, rfl, by rw [hsr, hfd, decide_eq_false (by rw [List.getElem?_eq_getElem h8]; simpa using h9)], rfl⟩ (Le.refl _)⟩
    · skip
      have h7 := of_decide_eq_false h7
      refine XO.pass rfl ?_
      refine XO.pass rfl ?_
      refine XO.pass rfl ?_
      refine XO.pass rfl ?_
      refine XO.pass rfl ?_
      refine XO.pass rfl ?_
      refine XO.pass rfl ?_
      refine XO.pass rfl ?_
      refine XO.pass rfl ?_
      refine XO.pass rfl ?_
      refine XO.pass rfl ?_
      refine XO.pass rfl ?_
      refine XO.pass rfl ?_
      refine XO.pass rfl ?_
      refine XO.pass rfl ?_
      refine XO.pass rfl ?_
      refine XO.pass rfl ?_
      refine XO.pu (Pu.pickF rfl rfl) ?_
      refine XO.pu (Pu.assign rfl) ?_
      refine XO.pu (Pu.assign rfl) ?_
      refine XO.nil ?_
      refine X.sub (p' := [(5, _), (4, _)]) ⟨rfl, rfl, trivial⟩ ?_
      refine X.ret ⟨rfl, Lv.ret (q' := q) Try.func34 (res2 Try.results34 rfl rfl) ⟨_, rfl, by rw [hsr, hfd, decide_eq_false (by rw [List.getElem?_eq_none (by omega)]; simp)], rfl⟩ (Le.refl _)⟩
end
end Go.Proofs.Ytjfkkdohpfbilaa

