/- What functions of package sync, of its references and of its laws do: contracts of calls, proved by walking their code. -/
import Derived.Test.YtlgnnhpbomfdiaaR
import Derived.KernelRfl
set_option maxRecDepth 100000
set_option linter.unusedVariables false
set_option linter.unusedSimpArgs false
namespace Go.Proofs.Ytlgnnhpbomfdiaa
open Go Go.RowKit Wx
attribute [local irreducible] Wx.lsH Wx.rsH Wx.lsM Wx.rsM Wx.stars

section
variable {G : World} {q : List HP} {a b : Option Addr} {c d g p i n : Nat} {σ : SyC} {r : RS} {s : Sy} {k t v mm cc : Int} {rooms : List Int} {l : List ActT}
theorem syCl {q r : List HP} {p : Nat} {σ : SyC} (h : Le q (syH p σ :: r)) : Cl q ⟨p, 0, none⟩ (.bool true) := clLe (SySee.of p σ r).h0 (h.trans (Le.syOutQ p σ r))
theorem there_nil  : CallF Try.prog G 55 [.pointer none] q (Ret fun v q' => v = .bool false ∧ q' = q) := by
  refine CallF.of Try.func55 Try.ntmps55 rfl (fun F cs => ?_)
  refine X.sub (p' := [(0, _)]) ⟨rfl, trivial⟩ ?_
  refine X.seq ?_
  refine X.region ?_
  refine XO.pu (Pu.assign rfl) ?_
  refine XO.nil ?_
  refine X.sub (p' := [(2, _), (0, _)]) ⟨rfl, rfl, trivial⟩ ?_
  refine X.seq ?_
  refine X.region ?_
  refine XO.pu (Pu.move rfl) ?_
  refine XO.pu (Pu.neqNil rfl Try.underlying24) ?_
  refine XO.pu (Pu.move rfl) ?_
  refine XO.know 5 (.bool false) rfl (congrArg Value.bool ((by first | rfl | (simp; done) | (simp; omega) | decide))) ?_
  refine XO.pass rfl ?_
  refine XO.pass rfl ?_
  refine XO.pass rfl ?_
  refine XO.pass rfl ?_
  refine XO.pu (Pu.pickF rfl rfl) ?_
  refine XO.pu (Pu.assign rfl) ?_
  refine XO.nil ?_
  refine X.sub (p' := [(2, _)]) ⟨rfl, trivial⟩ ?_
  refine X.retL (q) Try.func55 (res1 Try.results55 rfl) ⟨_, rfl, rfl, rfl⟩
theorem mutexList_nil  : CallF Try.prog G 35 [.pointer none] q (Ret fun v q' => v = .slice none 0 0 ∧ q' = q) := by
  refine CallF.of Try.func35 Try.ntmps35 rfl (fun F cs => ?_)
  refine X.sub (p' := [(0, _)]) ⟨rfl, trivial⟩ ?_
  refine X.seq ?_
  refine X.region ?_
  refine XO.pu (Pu.assign rfl) ?_
  refine XO.nil ?_
  refine X.sub (p' := [(2, _), (0, _)]) ⟨rfl, rfl, trivial⟩ ?_
  refine X.seq ?_
  refine X.seq ?_
  refine X.region ?_
  refine XO.pu (Pu.move rfl) ?_
  refine XO.cR Try.call55 (there_nil) ?_
  refine XO.pu (Pu.not rfl) ?_
  refine XO.nil ?_
  refine X.sub (p' := [(5, _), (2, _), (0, _)]) ⟨rfl, rfl, rfl, trivial⟩ ?_
  refine X.know 5 (.bool true) rfl (congrArg Value.bool ((by first | rfl | (simp; done) | (simp; omega) | decide))) ?_
  refine X.condT rfl ?_
  refine X.seq ?_
  refine X.region ?_
  refine XO.pu (Pu.assign rfl) ?_
  refine XO.nil ?_
  refine X.sub (p' := [(2, _), (0, _)]) ⟨rfl, rfl, trivial⟩ ?_
  refine X.retL (q) Try.func35 (res1 Try.results35 rfl) ⟨_, rfl, rfl, rfl⟩
theorem condList_nil  : CallF Try.prog G 37 [.pointer none] q (Ret fun v q' => v = .slice none 0 0 ∧ q' = q) := by
  refine CallF.of Try.func37 Try.ntmps37 rfl (fun F cs => ?_)
  refine X.sub (p' := [(0, _)]) ⟨rfl, trivial⟩ ?_
  refine X.seq ?_
  refine X.region ?_
  refine XO.pu (Pu.assign rfl) ?_
  refine XO.nil ?_
  refine X.sub (p' := [(2, _), (0, _)]) ⟨rfl, rfl, trivial⟩ ?_
  refine X.seq ?_
  refine X.seq ?_
  refine X.region ?_
  refine XO.pu (Pu.move rfl) ?_
  refine XO.cR Try.call55 (there_nil) ?_
  refine XO.pu (Pu.not rfl) ?_
  refine XO.nil ?_
  refine X.sub (p' := [(5, _), (2, _), (0, _)]) ⟨rfl, rfl, rfl, trivial⟩ ?_
  refine X.know 5 (.bool true) rfl (congrArg Value.bool ((by first | rfl | (simp; done) | (simp; omega) | decide))) ?_
  refine X.condT rfl ?_
  refine X.seq ?_
  refine X.region ?_
  refine XO.pu (Pu.assign rfl) ?_
  refine XO.nil ?_
  refine X.sub (p' := [(2, _), (0, _)]) ⟨rfl, rfl, trivial⟩ ?_
  refine X.retL (q) Try.func37 (res1 Try.results37 rfl) ⟨_, rfl, rfl, rfl⟩
theorem channelList_nil  : CallF Try.prog G 42 [.pointer none] q (Ret fun v q' => v = .slice none 0 0 ∧ q' = q) := by
  refine CallF.of Try.func42 Try.ntmps42 rfl (fun F cs => ?_)
  refine X.sub (p' := [(0, _)]) ⟨rfl, trivial⟩ ?_
  refine X.seq ?_
  refine X.region ?_
  refine XO.pu (Pu.assign rfl) ?_
  refine XO.nil ?_
  refine X.sub (p' := [(2, _), (0, _)]) ⟨rfl, rfl, trivial⟩ ?_
  refine X.seq ?_
  refine X.seq ?_
  refine X.region ?_
  refine XO.pu (Pu.move rfl) ?_
  refine XO.cR Try.call55 (there_nil) ?_
  refine XO.pu (Pu.not rfl) ?_
  refine XO.nil ?_
  refine X.sub (p' := [(5, _), (2, _), (0, _)]) ⟨rfl, rfl, rfl, trivial⟩ ?_
  refine X.know 5 (.bool true) rfl (congrArg Value.bool ((by first | rfl | (simp; done) | (simp; omega) | decide))) ?_
  refine X.condT rfl ?_
  refine X.seq ?_
  refine X.region ?_
  refine XO.pu (Pu.assign rfl) ?_
  refine XO.nil ?_
  refine X.sub (p' := [(2, _), (0, _)]) ⟨rfl, rfl, trivial⟩ ?_
  refine X.retL (q) Try.func42 (res1 Try.results42 rfl) ⟨_, rfl, rfl, rfl⟩
theorem findI0_nil  : CallF Try.prog G 34 [.pointer none, .slice none 0 0, .int .i64 0, .int .i64 0, .int .i64 0] q (Ret fun v q' => v = .tuple [.pointer none, .int .i64 1].toArray ∧ q' = q) := by
  refine CallF.of Try.func34 Try.ntmps34 rfl (fun F cs => ?_)
  refine X.sub (p' := [(0, _), (1, _), (2, _), (3, _), (4, _)]) ⟨rfl, rfl, rfl, rfl, rfl, trivial⟩ ?_
  refine X.seq ?_
  refine X.region ?_
  refine XO.pu (Pu.assign rfl) ?_
  refine XO.pu (Pu.assign rfl) ?_
  refine XO.nil ?_
  refine X.sub (p' := [(11, _), (10, _), (0, _), (1, _), (2, _), (3, _), (4, _)]) ⟨rfl, rfl, rfl, rfl, rfl, rfl, rfl, trivial⟩ ?_
  refine X.seq ?_
  refine X.region ?_
  refine XO.pu (Pu.assign rfl) ?_
  refine XO.nil ?_
  refine X.sub (p' := [(12, _), (11, _), (10, _), (0, _), (1, _), (2, _), (3, _), (4, _)]) ⟨rfl, rfl, rfl, rfl, rfl, rfl, rfl, rfl, trivial⟩ ?_
  refine X.seq ?_
  refine X.region ?_
  refine XO.pu (Pu.assign rfl) ?_
  refine XO.pu (Pu.assign rfl) ?_
  refine XO.nil ?_
  refine X.sub (p' := [(14, _), (13, _), (12, _), (11, _), (10, _), (0, _), (1, _), (2, _), (3, _), (4, _)]) ⟨rfl, rfl, rfl, rfl, rfl, rfl, rfl, rfl, rfl, rfl, trivial⟩ ?_
  refine X.seq ?_
  refine X.seq ?_
  refine X.region ?_
  refine XO.pu (Pu.move rfl) ?_
  refine XO.nil ?_
  refine X.sub (p' := [(15, _), (14, _), (13, _), (12, _), (11, _), (10, _), (0, _), (1, _), (2, _), (4, _)]) ⟨rfl, rfl, rfl, rfl, rfl, rfl, rfl, rfl, rfl, rfl, trivial⟩ ?_
  refine X.block ?_
  refine X.seq ?_
  refine X.block ?_
  refine X.seq ?_
  refine X.block ?_
  refine X.seq ?_
  refine X.block ?_
  refine X.seq ?_
  refine X.seq ?_
  refine X.seq ?_
  refine X.region ?_
  refine XO.pu (Pu.eql rfl rfl) ?_
  refine XO.pu (Pu.assign rfl) ?_
  refine XO.nil ?_
  refine X.sub (p' := [(16, _), (15, _), (14, _), (13, _), (12, _), (11, _), (10, _), (0, _), (1, _), (2, _), (4, _)]) ⟨rfl, rfl, rfl, rfl, rfl, rfl, rfl, rfl, rfl, rfl, rfl, trivial⟩ ?_
  refine X.know 16 (.bool false) rfl (congrArg Value.bool ((by first | rfl | (simp; done) | (simp; omega) | decide))) ?_
  refine X.condF rfl ?_
  refine X.skip ?_
  refine X.seq ?_
  refine X.region ?_
  refine XO.pu (Pu.eql rfl rfl) ?_
  refine XO.pu (Pu.assign rfl) ?_
  refine XO.nil ?_
  refine X.sub (p' := [(18, _), (14, _), (13, _), (12, _), (11, _), (10, _), (0, _), (1, _), (2, _), (4, _)]) ⟨rfl, rfl, rfl, rfl, rfl, rfl, rfl, rfl, rfl, rfl, trivial⟩ ?_
  refine X.know 18 (.bool false) rfl (congrArg Value.bool ((by first | rfl | (simp; done) | (simp; omega) | decide))) ?_
  refine X.condF rfl ?_
  refine X.skip ?_
  refine X.exit rfl ?_
  refine X.seq ?_
  refine X.seq ?_
  refine X.seq ?_
  refine X.region ?_
  refine XO.pu (Pu.move rfl) ?_
  refine XO.pu (Pu.lss rfl rfl) ?_
  refine XO.pu (Pu.move rfl) ?_
  refine XO.know 30 (.bool false) rfl (congrArg Value.bool ((by first | rfl | (simp; done) | (simp; omega) | decide))) ?_
  refine XO.pu (Pu.move rfl) ?_
  refine XO.pu (Pu.move rfl) ?_
  refine XO.pu (Pu.len rfl Try.underlying29) ?_
  refine XO.pu (Pu.geq rfl rfl) ?_
  refine XO.pu (Pu.pickF rfl rfl) ?_
  refine XO.nil ?_
  refine X.sub (p' := [(35, _), (12, _), (11, _), (10, _), (0, _), (1, _), (2, _)]) ⟨rfl, rfl, rfl, rfl, rfl, rfl, rfl, trivial⟩ ?_
  refine X.know 35 (.bool true) rfl (congrArg Value.bool ((by first | rfl | (simp; done) | (simp; omega) | decide))) ?_
  refine X.condT rfl ?_
  refine X.region ?_
  refine XO.pu (Pu.assign rfl) ?_
  refine XO.nil ?_
  refine X.sub (p' := [(12, _), (11, _), (10, _), (0, _), (1, _), (2, _)]) ⟨rfl, rfl, rfl, rfl, rfl, rfl, trivial⟩ ?_
  refine X.seq ?_
  refine X.region ?_
  refine XO.pu (Pu.move rfl) ?_
  refine XO.cR Try.call55 (there_nil) ?_
  refine XO.pu (Pu.not rfl) ?_
  refine XO.nil ?_
  refine X.sub (p' := [(38, _), (12, _), (11, _), (10, _), (1, _), (2, _)]) ⟨rfl, rfl, rfl, rfl, rfl, rfl, trivial⟩ ?_
  refine X.know 38 (.bool true) rfl (congrArg Value.bool ((by first | rfl | (simp; done) | (simp; omega) | decide))) ?_
  refine X.condT rfl ?_
  refine X.region ?_
  refine XO.pu (Pu.assign rfl) ?_
  refine XO.nil ?_
  refine X.sub (p' := [(12, _), (11, _), (10, _), (1, _), (2, _)]) ⟨rfl, rfl, rfl, rfl, rfl, trivial⟩ ?_
  refine X.exit rfl ?_
  refine X.seq ?_
  refine X.seq ?_
  refine X.region ?_
  refine XO.pu (Pu.move rfl) ?_
  refine XO.pu (Pu.neq rfl rfl) ?_
  refine XO.nil ?_
  refine X.sub (p' := [(40, _), (12, _), (11, _), (10, _), (1, _), (2, _)]) ⟨rfl, rfl, rfl, rfl, rfl, rfl, trivial⟩ ?_
  refine X.know 40 (.bool true) rfl (congrArg Value.bool ((by first | rfl | (simp; done) | (simp; omega) | decide))) ?_
  refine X.condT rfl ?_
  refine X.seq ?_
  refine X.region ?_
  refine XO.pu (Pu.move rfl) ?_
  refine XO.pu (Pu.assign rfl) ?_
  refine XO.pu (Pu.assign rfl) ?_
  refine XO.nil ?_
  refine X.sub (p' := [(11, _), (10, _), (1, _), (2, _)]) ⟨rfl, rfl, rfl, rfl, trivial⟩ ?_
  refine X.retL (q) Try.func34 (res2 Try.results34 rfl rfl) ⟨_, rfl, rfl, rfl⟩
theorem findI1_nil  : CallF Try.prog G 34 [.pointer none, .slice none 0 0, .int .i64 0, .int .i64 1, .int .i64 0] q (Ret fun v q' => v = .tuple [.pointer none, .int .i64 1].toArray ∧ q' = q) := by
  refine CallF.of Try.func34 Try.ntmps34 rfl (fun F cs => ?_)
  refine X.sub (p' := [(0, _), (1, _), (2, _), (3, _), (4, _)]) ⟨rfl, rfl, rfl, rfl, rfl, trivial⟩ ?_
  refine X.seq ?_
  refine X.region ?_
  refine XO.pu (Pu.assign rfl) ?_
  refine XO.pu (Pu.assign rfl) ?_
  refine XO.nil ?_
  refine X.sub (p' := [(11, _), (10, _), (0, _), (1, _), (2, _), (3, _), (4, _)]) ⟨rfl, rfl, rfl, rfl, rfl, rfl, rfl, trivial⟩ ?_
  refine X.seq ?_
  refine X.region ?_
  refine XO.pu (Pu.assign rfl) ?_
  refine XO.nil ?_
  refine X.sub (p' := [(12, _), (11, _), (10, _), (0, _), (1, _), (2, _), (3, _), (4, _)]) ⟨rfl, rfl, rfl, rfl, rfl, rfl, rfl, rfl, trivial⟩ ?_
  refine X.seq ?_
  refine X.region ?_
  refine XO.pu (Pu.assign rfl) ?_
  refine XO.pu (Pu.assign rfl) ?_
  refine XO.nil ?_
  refine X.sub (p' := [(14, _), (13, _), (12, _), (11, _), (10, _), (0, _), (1, _), (2, _), (3, _), (4, _)]) ⟨rfl, rfl, rfl, rfl, rfl, rfl, rfl, rfl, rfl, rfl, trivial⟩ ?_
  refine X.seq ?_
  refine X.seq ?_
  refine X.region ?_
  refine XO.pu (Pu.move rfl) ?_
  refine XO.nil ?_
  refine X.sub (p' := [(15, _), (14, _), (13, _), (12, _), (11, _), (10, _), (0, _), (1, _), (2, _), (4, _)]) ⟨rfl, rfl, rfl, rfl, rfl, rfl, rfl, rfl, rfl, rfl, trivial⟩ ?_
  refine X.block ?_
  refine X.seq ?_
  refine X.block ?_
  refine X.seq ?_
  refine X.block ?_
  refine X.seq ?_
  refine X.block ?_
  refine X.seq ?_
  refine X.seq ?_
  refine X.seq ?_
  refine X.region ?_
  refine XO.pu (Pu.eql rfl rfl) ?_
  refine XO.pu (Pu.assign rfl) ?_
  refine XO.nil ?_
  refine X.sub (p' := [(16, _), (15, _), (14, _), (13, _), (12, _), (11, _), (10, _), (0, _), (1, _), (2, _), (4, _)]) ⟨rfl, rfl, rfl, rfl, rfl, rfl, rfl, rfl, rfl, rfl, rfl, trivial⟩ ?_
  refine X.know 16 (.bool true) rfl (congrArg Value.bool ((by first | rfl | (simp; done) | (simp; omega) | decide))) ?_
  refine X.condT rfl ?_
  refine X.exit rfl ?_
  refine X.region ?_
  refine XO.pu (Pu.assign rfl) ?_
  refine XO.pu (Pu.assign rfl) ?_
  refine XO.nil ?_
  refine X.sub (p' := [(14, _), (13, _), (12, _), (11, _), (10, _), (0, _), (1, _), (2, _), (4, _)]) ⟨rfl, rfl, rfl, rfl, rfl, rfl, rfl, rfl, rfl, trivial⟩ ?_
  refine X.inBlock ?_
  refine X.seq ?_
  refine X.region ?_
  refine XO.pu (Pu.move rfl) ?_
  refine XO.pu (Pu.move rfl) ?_
  refine XO.pu (Pu.lss rfl rfl) ?_
  refine XO.pu (Pu.move rfl) ?_
  refine XO.know 23 (.bool false) rfl (congrArg Value.bool ((by first | rfl | (simp; done) | (simp; omega) | decide))) ?_
  refine XO.pu (Pu.move rfl) ?_
  refine XO.pu (Pu.move rfl) ?_
  refine XO.pu (Pu.gtr rfl rfl) ?_
  refine XO.pu (Pu.pickF rfl rfl) ?_
  refine XO.nil ?_
  refine X.sub (p' := [(27, _), (12, _), (11, _), (10, _), (0, _), (1, _), (2, _)]) ⟨rfl, rfl, rfl, rfl, rfl, rfl, rfl, trivial⟩ ?_
  refine X.know 27 (.bool false) rfl (congrArg Value.bool ((by first | rfl | (simp; done) | (simp; omega) | decide))) ?_
  refine X.condF rfl ?_
  refine X.skip ?_
  refine X.inBlock ?_
  refine X.seq ?_
  refine X.seq ?_
  refine X.seq ?_
  refine X.region ?_
  refine XO.pu (Pu.move rfl) ?_
  refine XO.pu (Pu.lss rfl rfl) ?_
  refine XO.pu (Pu.move rfl) ?_
  refine XO.know 30 (.bool false) rfl (congrArg Value.bool ((by first | rfl | (simp; done) | (simp; omega) | decide))) ?_
  refine XO.pu (Pu.move rfl) ?_
  refine XO.pu (Pu.move rfl) ?_
  refine XO.pu (Pu.len rfl Try.underlying29) ?_
  refine XO.pu (Pu.geq rfl rfl) ?_
  refine XO.pu (Pu.pickF rfl rfl) ?_
  refine XO.nil ?_
  refine X.sub (p' := [(35, _), (12, _), (11, _), (10, _), (0, _), (1, _), (2, _)]) ⟨rfl, rfl, rfl, rfl, rfl, rfl, rfl, trivial⟩ ?_
  refine X.know 35 (.bool true) rfl (congrArg Value.bool ((by first | rfl | (simp; done) | (simp; omega) | decide))) ?_
  refine X.condT rfl ?_
  refine X.region ?_
  refine XO.pu (Pu.assign rfl) ?_
  refine XO.nil ?_
  refine X.sub (p' := [(12, _), (11, _), (10, _), (0, _), (1, _), (2, _)]) ⟨rfl, rfl, rfl, rfl, rfl, rfl, trivial⟩ ?_
  refine X.seq ?_
  refine X.region ?_
  refine XO.pu (Pu.move rfl) ?_
  refine XO.cR Try.call55 (there_nil) ?_
  refine XO.pu (Pu.not rfl) ?_
  refine XO.nil ?_
  refine X.sub (p' := [(38, _), (12, _), (11, _), (10, _), (1, _), (2, _)]) ⟨rfl, rfl, rfl, rfl, rfl, rfl, trivial⟩ ?_
  refine X.know 38 (.bool true) rfl (congrArg Value.bool ((by first | rfl | (simp; done) | (simp; omega) | decide))) ?_
  refine X.condT rfl ?_
  refine X.region ?_
  refine XO.pu (Pu.assign rfl) ?_
  refine XO.nil ?_
  refine X.sub (p' := [(12, _), (11, _), (10, _), (1, _), (2, _)]) ⟨rfl, rfl, rfl, rfl, rfl, trivial⟩ ?_
  refine X.exit rfl ?_
  refine X.seq ?_
  refine X.seq ?_
  refine X.region ?_
  refine XO.pu (Pu.move rfl) ?_
  refine XO.pu (Pu.neq rfl rfl) ?_
  refine XO.nil ?_
  refine X.sub (p' := [(40, _), (12, _), (11, _), (10, _), (1, _), (2, _)]) ⟨rfl, rfl, rfl, rfl, rfl, rfl, trivial⟩ ?_
  refine X.know 40 (.bool true) rfl (congrArg Value.bool ((by first | rfl | (simp; done) | (simp; omega) | decide))) ?_
  refine X.condT rfl ?_
  refine X.seq ?_
  refine X.region ?_
  refine XO.pu (Pu.move rfl) ?_
  refine XO.pu (Pu.assign rfl) ?_
  refine XO.pu (Pu.assign rfl) ?_
  refine XO.nil ?_
  refine X.sub (p' := [(11, _), (10, _), (1, _), (2, _)]) ⟨rfl, rfl, rfl, rfl, trivial⟩ ?_
  refine X.retL (q) Try.func34 (res2 Try.results34 rfl rfl) ⟨_, rfl, rfl, rfl⟩
theorem findC0_nil  : CallF Try.prog G 36 [.pointer none, .slice none 0 0, .int .i64 0, .int .i64 0, .int .i64 0] q (Ret fun v q' => v = .tuple [.pointer none, .int .i64 1].toArray ∧ q' = q) := by
  refine CallF.of Try.func36 Try.ntmps36 rfl (fun F cs => ?_)
  refine X.sub (p' := [(0, _), (1, _), (2, _), (3, _), (4, _)]) ⟨rfl, rfl, rfl, rfl, rfl, trivial⟩ ?_
  refine X.seq ?_
  refine X.region ?_
  refine XO.pu (Pu.assign rfl) ?_
  refine XO.pu (Pu.assign rfl) ?_
  refine XO.nil ?_
  refine X.sub (p' := [(11, _), (10, _), (0, _), (1, _), (2, _), (3, _), (4, _)]) ⟨rfl, rfl, rfl, rfl, rfl, rfl, rfl, trivial⟩ ?_
  refine X.seq ?_
  refine X.region ?_
  refine XO.pu (Pu.assign rfl) ?_
  refine XO.nil ?_
  refine X.sub (p' := [(12, _), (11, _), (10, _), (0, _), (1, _), (2, _), (3, _), (4, _)]) ⟨rfl, rfl, rfl, rfl, rfl, rfl, rfl, rfl, trivial⟩ ?_
  refine X.seq ?_
  refine X.region ?_
  refine XO.pu (Pu.assign rfl) ?_
  refine XO.pu (Pu.assign rfl) ?_
  refine XO.nil ?_
  refine X.sub (p' := [(14, _), (13, _), (12, _), (11, _), (10, _), (0, _), (1, _), (2, _), (3, _), (4, _)]) ⟨rfl, rfl, rfl, rfl, rfl, rfl, rfl, rfl, rfl, rfl, trivial⟩ ?_
  refine X.seq ?_
  refine X.seq ?_
  refine X.region ?_
  refine XO.pu (Pu.move rfl) ?_
  refine XO.nil ?_
  refine X.sub (p' := [(15, _), (14, _), (13, _), (12, _), (11, _), (10, _), (0, _), (1, _), (2, _), (4, _)]) ⟨rfl, rfl, rfl, rfl, rfl, rfl, rfl, rfl, rfl, rfl, trivial⟩ ?_
  refine X.block ?_
  refine X.seq ?_
  refine X.block ?_
  refine X.seq ?_
  refine X.block ?_
  refine X.seq ?_
  refine X.block ?_
  refine X.seq ?_
  refine X.seq ?_
  refine X.seq ?_
  refine X.region ?_
  refine XO.pu (Pu.eql rfl rfl) ?_
  refine XO.pu (Pu.assign rfl) ?_
  refine XO.nil ?_
  refine X.sub (p' := [(16, _), (15, _), (14, _), (13, _), (12, _), (11, _), (10, _), (0, _), (1, _), (2, _), (4, _)]) ⟨rfl, rfl, rfl, rfl, rfl, rfl, rfl, rfl, rfl, rfl, rfl, trivial⟩ ?_
  refine X.know 16 (.bool false) rfl (congrArg Value.bool ((by first | rfl | (simp; done) | (simp; omega) | decide))) ?_
  refine X.condF rfl ?_
  refine X.skip ?_
  refine X.seq ?_
  refine X.region ?_
  refine XO.pu (Pu.eql rfl rfl) ?_
  refine XO.pu (Pu.assign rfl) ?_
  refine XO.nil ?_
  refine X.sub (p' := [(18, _), (14, _), (13, _), (12, _), (11, _), (10, _), (0, _), (1, _), (2, _), (4, _)]) ⟨rfl, rfl, rfl, rfl, rfl, rfl, rfl, rfl, rfl, rfl, trivial⟩ ?_
  refine X.know 18 (.bool false) rfl (congrArg Value.bool ((by first | rfl | (simp; done) | (simp; omega) | decide))) ?_
  refine X.condF rfl ?_
  refine X.skip ?_
  refine X.exit rfl ?_
  refine X.seq ?_
  refine X.seq ?_
  refine X.seq ?_
  refine X.region ?_
  refine XO.pu (Pu.move rfl) ?_
  refine XO.pu (Pu.lss rfl rfl) ?_
  refine XO.pu (Pu.move rfl) ?_
  refine XO.know 30 (.bool false) rfl (congrArg Value.bool ((by first | rfl | (simp; done) | (simp; omega) | decide))) ?_
  refine XO.pu (Pu.move rfl) ?_
  refine XO.pu (Pu.move rfl) ?_
  refine XO.pu (Pu.len rfl Try.underlying71) ?_
  refine XO.pu (Pu.geq rfl rfl) ?_
  refine XO.pu (Pu.pickF rfl rfl) ?_
  refine XO.nil ?_
  refine X.sub (p' := [(35, _), (12, _), (11, _), (10, _), (0, _), (1, _), (2, _)]) ⟨rfl, rfl, rfl, rfl, rfl, rfl, rfl, trivial⟩ ?_
  refine X.know 35 (.bool true) rfl (congrArg Value.bool ((by first | rfl | (simp; done) | (simp; omega) | decide))) ?_
  refine X.condT rfl ?_
  refine X.region ?_
  refine XO.pu (Pu.assign rfl) ?_
  refine XO.nil ?_
  refine X.sub (p' := [(12, _), (11, _), (10, _), (0, _), (1, _), (2, _)]) ⟨rfl, rfl, rfl, rfl, rfl, rfl, trivial⟩ ?_
  refine X.seq ?_
  refine X.region ?_
  refine XO.pu (Pu.move rfl) ?_
  refine XO.cR Try.call55 (there_nil) ?_
  refine XO.pu (Pu.not rfl) ?_
  refine XO.nil ?_
  refine X.sub (p' := [(38, _), (12, _), (11, _), (10, _), (1, _), (2, _)]) ⟨rfl, rfl, rfl, rfl, rfl, rfl, trivial⟩ ?_
  refine X.know 38 (.bool true) rfl (congrArg Value.bool ((by first | rfl | (simp; done) | (simp; omega) | decide))) ?_
  refine X.condT rfl ?_
  refine X.region ?_
  refine XO.pu (Pu.assign rfl) ?_
  refine XO.nil ?_
  refine X.sub (p' := [(12, _), (11, _), (10, _), (1, _), (2, _)]) ⟨rfl, rfl, rfl, rfl, rfl, trivial⟩ ?_
  refine X.exit rfl ?_
  refine X.seq ?_
  refine X.seq ?_
  refine X.region ?_
  refine XO.pu (Pu.move rfl) ?_
  refine XO.pu (Pu.neq rfl rfl) ?_
  refine XO.nil ?_
  refine X.sub (p' := [(40, _), (12, _), (11, _), (10, _), (1, _), (2, _)]) ⟨rfl, rfl, rfl, rfl, rfl, rfl, trivial⟩ ?_
  refine X.know 40 (.bool true) rfl (congrArg Value.bool ((by first | rfl | (simp; done) | (simp; omega) | decide))) ?_
  refine X.condT rfl ?_
  refine X.seq ?_
  refine X.region ?_
  refine XO.pu (Pu.move rfl) ?_
  refine XO.pu (Pu.assign rfl) ?_
  refine XO.pu (Pu.assign rfl) ?_
  refine XO.nil ?_
  refine X.sub (p' := [(11, _), (10, _), (1, _), (2, _)]) ⟨rfl, rfl, rfl, rfl, trivial⟩ ?_
  refine X.retL (q) Try.func36 (res2 Try.results36 rfl rfl) ⟨_, rfl, rfl, rfl⟩
theorem findC1_nil  : CallF Try.prog G 36 [.pointer none, .slice none 0 0, .int .i64 0, .int .i64 1, .int .i64 0] q (Ret fun v q' => v = .tuple [.pointer none, .int .i64 1].toArray ∧ q' = q) := by
  refine CallF.of Try.func36 Try.ntmps36 rfl (fun F cs => ?_)
  refine X.sub (p' := [(0, _), (1, _), (2, _), (3, _), (4, _)]) ⟨rfl, rfl, rfl, rfl, rfl, trivial⟩ ?_
  refine X.seq ?_
  refine X.region ?_
  refine XO.pu (Pu.assign rfl) ?_
  refine XO.pu (Pu.assign rfl) ?_
  refine XO.nil ?_
  refine X.sub (p' := [(11, _), (10, _), (0, _), (1, _), (2, _), (3, _), (4, _)]) ⟨rfl, rfl, rfl, rfl, rfl, rfl, rfl, trivial⟩ ?_
  refine X.seq ?_
  refine X.region ?_
  refine XO.pu (Pu.assign rfl) ?_
  refine XO.nil ?_
  refine X.sub (p' := [(12, _), (11, _), (10, _), (0, _), (1, _), (2, _), (3, _), (4, _)]) ⟨rfl, rfl, rfl, rfl, rfl, rfl, rfl, rfl, trivial⟩ ?_
  refine X.seq ?_
  refine X.region ?_
  refine XO.pu (Pu.assign rfl) ?_
  refine XO.pu (Pu.assign rfl) ?_
  refine XO.nil ?_
  refine X.sub (p' := [(14, _), (13, _), (12, _), (11, _), (10, _), (0, _), (1, _), (2, _), (3, _), (4, _)]) ⟨rfl, rfl, rfl, rfl, rfl, rfl, rfl, rfl, rfl, rfl, trivial⟩ ?_
  refine X.seq ?_
  refine X.seq ?_
  refine X.region ?_
  refine XO.pu (Pu.move rfl) ?_
  refine XO.nil ?_
  refine X.sub (p' := [(15, _), (14, _), (13, _), (12, _), (11, _), (10, _), (0, _), (1, _), (2, _), (4, _)]) ⟨rfl, rfl, rfl, rfl, rfl, rfl, rfl, rfl, rfl, rfl, trivial⟩ ?_
  refine X.block ?_
  refine X.seq ?_
  refine X.block ?_
  refine X.seq ?_
  refine X.block ?_
  refine X.seq ?_
  refine X.block ?_
  refine X.seq ?_
  refine X.seq ?_
  refine X.seq ?_
  refine X.region ?_
  refine XO.pu (Pu.eql rfl rfl) ?_
  refine XO.pu (Pu.assign rfl) ?_
  refine XO.nil ?_
  refine X.sub (p' := [(16, _), (15, _), (14, _), (13, _), (12, _), (11, _), (10, _), (0, _), (1, _), (2, _), (4, _)]) ⟨rfl, rfl, rfl, rfl, rfl, rfl, rfl, rfl, rfl, rfl, rfl, trivial⟩ ?_
  refine X.know 16 (.bool true) rfl (congrArg Value.bool ((by first | rfl | (simp; done) | (simp; omega) | decide))) ?_
  refine X.condT rfl ?_
  refine X.exit rfl ?_
  refine X.region ?_
  refine XO.pu (Pu.assign rfl) ?_
  refine XO.pu (Pu.assign rfl) ?_
  refine XO.nil ?_
  refine X.sub (p' := [(14, _), (13, _), (12, _), (11, _), (10, _), (0, _), (1, _), (2, _), (4, _)]) ⟨rfl, rfl, rfl, rfl, rfl, rfl, rfl, rfl, rfl, trivial⟩ ?_
  refine X.inBlock ?_
  refine X.seq ?_
  refine X.region ?_
  refine XO.pu (Pu.move rfl) ?_
  refine XO.pu (Pu.move rfl) ?_
  refine XO.pu (Pu.lss rfl rfl) ?_
  refine XO.pu (Pu.move rfl) ?_
  refine XO.know 23 (.bool false) rfl (congrArg Value.bool ((by first | rfl | (simp; done) | (simp; omega) | decide))) ?_
  refine XO.pu (Pu.move rfl) ?_
  refine XO.pu (Pu.move rfl) ?_
  refine XO.pu (Pu.gtr rfl rfl) ?_
  refine XO.pu (Pu.pickF rfl rfl) ?_
  refine XO.nil ?_
  refine X.sub (p' := [(27, _), (12, _), (11, _), (10, _), (0, _), (1, _), (2, _)]) ⟨rfl, rfl, rfl, rfl, rfl, rfl, rfl, trivial⟩ ?_
  refine X.know 27 (.bool false) rfl (congrArg Value.bool ((by first | rfl | (simp; done) | (simp; omega) | decide))) ?_
  refine X.condF rfl ?_
  refine X.skip ?_
  refine X.inBlock ?_
  refine X.seq ?_
  refine X.seq ?_
  refine X.seq ?_
  refine X.region ?_
  refine XO.pu (Pu.move rfl) ?_
  refine XO.pu (Pu.lss rfl rfl) ?_
  refine XO.pu (Pu.move rfl) ?_
  refine XO.know 30 (.bool false) rfl (congrArg Value.bool ((by first | rfl | (simp; done) | (simp; omega) | decide))) ?_
  refine XO.pu (Pu.move rfl) ?_
  refine XO.pu (Pu.move rfl) ?_
  refine XO.pu (Pu.len rfl Try.underlying71) ?_
  refine XO.pu (Pu.geq rfl rfl) ?_
  refine XO.pu (Pu.pickF rfl rfl) ?_
  refine XO.nil ?_
  refine X.sub (p' := [(35, _), (12, _), (11, _), (10, _), (0, _), (1, _), (2, _)]) ⟨rfl, rfl, rfl, rfl, rfl, rfl, rfl, trivial⟩ ?_
  refine X.know 35 (.bool true) rfl (congrArg Value.bool ((by first | rfl | (simp; done) | (simp; omega) | decide))) ?_
  refine X.condT rfl ?_
  refine X.region ?_
  refine XO.pu (Pu.assign rfl) ?_
  refine XO.nil ?_
  refine X.sub (p' := [(12, _), (11, _), (10, _), (0, _), (1, _), (2, _)]) ⟨rfl, rfl, rfl, rfl, rfl, rfl, trivial⟩ ?_
  refine X.seq ?_
  refine X.region ?_
  refine XO.pu (Pu.move rfl) ?_
  refine XO.cR Try.call55 (there_nil) ?_
  refine XO.pu (Pu.not rfl) ?_
  refine XO.nil ?_
  refine X.sub (p' := [(38, _), (12, _), (11, _), (10, _), (1, _), (2, _)]) ⟨rfl, rfl, rfl, rfl, rfl, rfl, trivial⟩ ?_
  refine X.know 38 (.bool true) rfl (congrArg Value.bool ((by first | rfl | (simp; done) | (simp; omega) | decide))) ?_
  refine X.condT rfl ?_
  refine X.region ?_
  refine XO.pu (Pu.assign rfl) ?_
  refine XO.nil ?_
  refine X.sub (p' := [(12, _), (11, _), (10, _), (1, _), (2, _)]) ⟨rfl, rfl, rfl, rfl, rfl, trivial⟩ ?_
  refine X.exit rfl ?_
  refine X.seq ?_
  refine X.seq ?_
  refine X.region ?_
  refine XO.pu (Pu.move rfl) ?_
  refine XO.pu (Pu.neq rfl rfl) ?_
  refine XO.nil ?_
  refine X.sub (p' := [(40, _), (12, _), (11, _), (10, _), (1, _), (2, _)]) ⟨rfl, rfl, rfl, rfl, rfl, rfl, trivial⟩ ?_
  refine X.know 40 (.bool true) rfl (congrArg Value.bool ((by first | rfl | (simp; done) | (simp; omega) | decide))) ?_
  refine X.condT rfl ?_
  refine X.seq ?_
  refine X.region ?_
  refine XO.pu (Pu.move rfl) ?_
  refine XO.pu (Pu.assign rfl) ?_
  refine XO.pu (Pu.assign rfl) ?_
  refine XO.nil ?_
  refine X.sub (p' := [(11, _), (10, _), (1, _), (2, _)]) ⟨rfl, rfl, rfl, rfl, trivial⟩ ?_
  refine X.retL (q) Try.func36 (res2 Try.results36 rfl rfl) ⟨_, rfl, rfl, rfl⟩
theorem findH0_nil  : CallF Try.prog G 41 [.pointer none, .slice none 0 0, .int .i64 0, .int .i64 0, .int .i64 0] q (Ret fun v q' => v = .tuple [.pointer none, .int .i64 1].toArray ∧ q' = q) := by
  refine CallF.of Try.func41 Try.ntmps41 rfl (fun F cs => ?_)
  refine X.sub (p' := [(0, _), (1, _), (2, _), (3, _), (4, _)]) ⟨rfl, rfl, rfl, rfl, rfl, trivial⟩ ?_
  refine X.seq ?_
  refine X.region ?_
  refine XO.pu (Pu.assign rfl) ?_
  refine XO.pu (Pu.assign rfl) ?_
  refine XO.nil ?_
  refine X.sub (p' := [(11, _), (10, _), (0, _), (1, _), (2, _), (3, _), (4, _)]) ⟨rfl, rfl, rfl, rfl, rfl, rfl, rfl, trivial⟩ ?_
  refine X.seq ?_
  refine X.region ?_
  refine XO.pu (Pu.assign rfl) ?_
  refine XO.nil ?_
  refine X.sub (p' := [(12, _), (11, _), (10, _), (0, _), (1, _), (2, _), (3, _), (4, _)]) ⟨rfl, rfl, rfl, rfl, rfl, rfl, rfl, rfl, trivial⟩ ?_
  refine X.seq ?_
  refine X.region ?_
  refine XO.pu (Pu.assign rfl) ?_
  refine XO.pu (Pu.assign rfl) ?_
  refine XO.nil ?_
  refine X.sub (p' := [(14, _), (13, _), (12, _), (11, _), (10, _), (0, _), (1, _), (2, _), (3, _), (4, _)]) ⟨rfl, rfl, rfl, rfl, rfl, rfl, rfl, rfl, rfl, rfl, trivial⟩ ?_
  refine X.seq ?_
  refine X.seq ?_
  refine X.region ?_
  refine XO.pu (Pu.move rfl) ?_
  refine XO.nil ?_
  refine X.sub (p' := [(15, _), (14, _), (13, _), (12, _), (11, _), (10, _), (0, _), (1, _), (2, _), (4, _)]) ⟨rfl, rfl, rfl, rfl, rfl, rfl, rfl, rfl, rfl, rfl, trivial⟩ ?_
  refine X.block ?_
  refine X.seq ?_
  refine X.block ?_
  refine X.seq ?_
  refine X.block ?_
  refine X.seq ?_
  refine X.block ?_
  refine X.seq ?_
  refine X.seq ?_
  refine X.seq ?_
  refine X.region ?_
  refine XO.pu (Pu.eql rfl rfl) ?_
  refine XO.pu (Pu.assign rfl) ?_
  refine XO.nil ?_
  refine X.sub (p' := [(16, _), (15, _), (14, _), (13, _), (12, _), (11, _), (10, _), (0, _), (1, _), (2, _), (4, _)]) ⟨rfl, rfl, rfl, rfl, rfl, rfl, rfl, rfl, rfl, rfl, rfl, trivial⟩ ?_
  refine X.know 16 (.bool false) rfl (congrArg Value.bool ((by first | rfl | (simp; done) | (simp; omega) | decide))) ?_
  refine X.condF rfl ?_
  refine X.skip ?_
  refine X.seq ?_
  refine X.region ?_
  refine XO.pu (Pu.eql rfl rfl) ?_
  refine XO.pu (Pu.assign rfl) ?_
  refine XO.nil ?_
  refine X.sub (p' := [(18, _), (14, _), (13, _), (12, _), (11, _), (10, _), (0, _), (1, _), (2, _), (4, _)]) ⟨rfl, rfl, rfl, rfl, rfl, rfl, rfl, rfl, rfl, rfl, trivial⟩ ?_
  refine X.know 18 (.bool false) rfl (congrArg Value.bool ((by first | rfl | (simp; done) | (simp; omega) | decide))) ?_
  refine X.condF rfl ?_
  refine X.skip ?_
  refine X.exit rfl ?_
  refine X.seq ?_
  refine X.seq ?_
  refine X.seq ?_
  refine X.region ?_
  refine XO.pu (Pu.move rfl) ?_
  refine XO.pu (Pu.lss rfl rfl) ?_
  refine XO.pu (Pu.move rfl) ?_
  refine XO.know 30 (.bool false) rfl (congrArg Value.bool ((by first | rfl | (simp; done) | (simp; omega) | decide))) ?_
  refine XO.pu (Pu.move rfl) ?_
  refine XO.pu (Pu.move rfl) ?_
  refine XO.pu (Pu.len rfl Try.underlying72) ?_
  refine XO.pu (Pu.geq rfl rfl) ?_
  refine XO.pu (Pu.pickF rfl rfl) ?_
  refine XO.nil ?_
  refine X.sub (p' := [(35, _), (12, _), (11, _), (10, _), (0, _), (1, _), (2, _)]) ⟨rfl, rfl, rfl, rfl, rfl, rfl, rfl, trivial⟩ ?_
  refine X.know 35 (.bool true) rfl (congrArg Value.bool ((by first | rfl | (simp; done) | (simp; omega) | decide))) ?_
  refine X.condT rfl ?_
  refine X.region ?_
  refine XO.pu (Pu.assign rfl) ?_
  refine XO.nil ?_
  refine X.sub (p' := [(12, _), (11, _), (10, _), (0, _), (1, _), (2, _)]) ⟨rfl, rfl, rfl, rfl, rfl, rfl, trivial⟩ ?_
  refine X.seq ?_
  refine X.region ?_
  refine XO.pu (Pu.move rfl) ?_
  refine XO.cR Try.call55 (there_nil) ?_
  refine XO.pu (Pu.not rfl) ?_
  refine XO.nil ?_
  refine X.sub (p' := [(38, _), (12, _), (11, _), (10, _), (1, _), (2, _)]) ⟨rfl, rfl, rfl, rfl, rfl, rfl, trivial⟩ ?_
  refine X.know 38 (.bool true) rfl (congrArg Value.bool ((by first | rfl | (simp; done) | (simp; omega) | decide))) ?_
  refine X.condT rfl ?_
  refine X.region ?_
  refine XO.pu (Pu.assign rfl) ?_
  refine XO.nil ?_
  refine X.sub (p' := [(12, _), (11, _), (10, _), (1, _), (2, _)]) ⟨rfl, rfl, rfl, rfl, rfl, trivial⟩ ?_
  refine X.exit rfl ?_
  refine X.seq ?_
  refine X.seq ?_
  refine X.region ?_
  refine XO.pu (Pu.move rfl) ?_
  refine XO.pu (Pu.neq rfl rfl) ?_
  refine XO.nil ?_
  refine X.sub (p' := [(40, _), (12, _), (11, _), (10, _), (1, _), (2, _)]) ⟨rfl, rfl, rfl, rfl, rfl, rfl, trivial⟩ ?_
  refine X.know 40 (.bool true) rfl (congrArg Value.bool ((by first | rfl | (simp; done) | (simp; omega) | decide))) ?_
  refine X.condT rfl ?_
  refine X.seq ?_
  refine X.region ?_
  refine XO.pu (Pu.move rfl) ?_
  refine XO.pu (Pu.assign rfl) ?_
  refine XO.pu (Pu.assign rfl) ?_
  refine XO.nil ?_
  refine X.sub (p' := [(11, _), (10, _), (1, _), (2, _)]) ⟨rfl, rfl, rfl, rfl, trivial⟩ ?_
  refine X.retL (q) Try.func41 (res2 Try.results41 rfl rfl) ⟨_, rfl, rfl, rfl⟩
theorem findH2_nil  : CallF Try.prog G 41 [.pointer none, .slice none 0 0, .int .i64 0, .int .i64 2, .int .i64 0] q (Ret fun v q' => v = .tuple [.pointer none, .int .i64 1].toArray ∧ q' = q) := by
  refine CallF.of Try.func41 Try.ntmps41 rfl (fun F cs => ?_)
  refine X.sub (p' := [(0, _), (1, _), (2, _), (3, _), (4, _)]) ⟨rfl, rfl, rfl, rfl, rfl, trivial⟩ ?_
  refine X.seq ?_
  refine X.region ?_
  refine XO.pu (Pu.assign rfl) ?_
  refine XO.pu (Pu.assign rfl) ?_
  refine XO.nil ?_
  refine X.sub (p' := [(11, _), (10, _), (0, _), (1, _), (2, _), (3, _), (4, _)]) ⟨rfl, rfl, rfl, rfl, rfl, rfl, rfl, trivial⟩ ?_
  refine X.seq ?_
  refine X.region ?_
  refine XO.pu (Pu.assign rfl) ?_
  refine XO.nil ?_
  refine X.sub (p' := [(12, _), (11, _), (10, _), (0, _), (1, _), (2, _), (3, _), (4, _)]) ⟨rfl, rfl, rfl, rfl, rfl, rfl, rfl, rfl, trivial⟩ ?_
  refine X.seq ?_
  refine X.region ?_
  refine XO.pu (Pu.assign rfl) ?_
  refine XO.pu (Pu.assign rfl) ?_
  refine XO.nil ?_
  refine X.sub (p' := [(14, _), (13, _), (12, _), (11, _), (10, _), (0, _), (1, _), (2, _), (3, _), (4, _)]) ⟨rfl, rfl, rfl, rfl, rfl, rfl, rfl, rfl, rfl, rfl, trivial⟩ ?_
  refine X.seq ?_
  refine X.seq ?_
  refine X.region ?_
  refine XO.pu (Pu.move rfl) ?_
  refine XO.nil ?_
  refine X.sub (p' := [(15, _), (14, _), (13, _), (12, _), (11, _), (10, _), (0, _), (1, _), (2, _), (4, _)]) ⟨rfl, rfl, rfl, rfl, rfl, rfl, rfl, rfl, rfl, rfl, trivial⟩ ?_
  refine X.block ?_
  refine X.seq ?_
  refine X.block ?_
  refine X.seq ?_
  refine X.block ?_
  refine X.seq ?_
  refine X.block ?_
  refine X.seq ?_
  refine X.seq ?_
  refine X.seq ?_
  refine X.region ?_
  refine XO.pu (Pu.eql rfl rfl) ?_
  refine XO.pu (Pu.assign rfl) ?_
  refine XO.nil ?_
  refine X.sub (p' := [(16, _), (15, _), (14, _), (13, _), (12, _), (11, _), (10, _), (0, _), (1, _), (2, _), (4, _)]) ⟨rfl, rfl, rfl, rfl, rfl, rfl, rfl, rfl, rfl, rfl, rfl, trivial⟩ ?_
  refine X.know 16 (.bool false) rfl (congrArg Value.bool ((by first | rfl | (simp; done) | (simp; omega) | decide))) ?_
  refine X.condF rfl ?_
  refine X.skip ?_
  refine X.seq ?_
  refine X.region ?_
  refine XO.pu (Pu.eql rfl rfl) ?_
  refine XO.pu (Pu.assign rfl) ?_
  refine XO.nil ?_
  refine X.sub (p' := [(18, _), (14, _), (13, _), (12, _), (11, _), (10, _), (0, _), (1, _), (2, _), (4, _)]) ⟨rfl, rfl, rfl, rfl, rfl, rfl, rfl, rfl, rfl, rfl, trivial⟩ ?_
  refine X.know 18 (.bool true) rfl (congrArg Value.bool ((by first | rfl | (simp; done) | (simp; omega) | decide))) ?_
  refine X.condT rfl ?_
  refine X.exit rfl ?_
  refine X.seq ?_
  refine X.region ?_
  refine XO.pu (Pu.move rfl) ?_
  refine XO.pu (Pu.move rfl) ?_
  refine XO.pu (Pu.lss rfl rfl) ?_
  refine XO.pu (Pu.move rfl) ?_
  refine XO.know 23 (.bool false) rfl (congrArg Value.bool ((by first | rfl | (simp; done) | (simp; omega) | decide))) ?_
  refine XO.pu (Pu.move rfl) ?_
  refine XO.pu (Pu.move rfl) ?_
  refine XO.pu (Pu.gtr rfl rfl) ?_
  refine XO.pu (Pu.pickF rfl rfl) ?_
  refine XO.nil ?_
  refine X.sub (p' := [(27, _), (12, _), (11, _), (10, _), (0, _), (1, _), (2, _)]) ⟨rfl, rfl, rfl, rfl, rfl, rfl, rfl, trivial⟩ ?_
  refine X.know 27 (.bool false) rfl (congrArg Value.bool ((by first | rfl | (simp; done) | (simp; omega) | decide))) ?_
  refine X.condF rfl ?_
  refine X.skip ?_
  refine X.inBlock ?_
  refine X.seq ?_
  refine X.seq ?_
  refine X.seq ?_
  refine X.region ?_
  refine XO.pu (Pu.move rfl) ?_
  refine XO.pu (Pu.lss rfl rfl) ?_
  refine XO.pu (Pu.move rfl) ?_
  refine XO.know 30 (.bool false) rfl (congrArg Value.bool ((by first | rfl | (simp; done) | (simp; omega) | decide))) ?_
  refine XO.pu (Pu.move rfl) ?_
  refine XO.pu (Pu.move rfl) ?_
  refine XO.pu (Pu.len rfl Try.underlying72) ?_
  refine XO.pu (Pu.geq rfl rfl) ?_
  refine XO.pu (Pu.pickF rfl rfl) ?_
  refine XO.nil ?_
  refine X.sub (p' := [(35, _), (12, _), (11, _), (10, _), (0, _), (1, _), (2, _)]) ⟨rfl, rfl, rfl, rfl, rfl, rfl, rfl, trivial⟩ ?_
  refine X.know 35 (.bool true) rfl (congrArg Value.bool ((by first | rfl | (simp; done) | (simp; omega) | decide))) ?_
  refine X.condT rfl ?_
  refine X.region ?_
  refine XO.pu (Pu.assign rfl) ?_
  refine XO.nil ?_
  refine X.sub (p' := [(12, _), (11, _), (10, _), (0, _), (1, _), (2, _)]) ⟨rfl, rfl, rfl, rfl, rfl, rfl, trivial⟩ ?_
  refine X.seq ?_
  refine X.region ?_
  refine XO.pu (Pu.move rfl) ?_
  refine XO.cR Try.call55 (there_nil) ?_
  refine XO.pu (Pu.not rfl) ?_
  refine XO.nil ?_
  refine X.sub (p' := [(38, _), (12, _), (11, _), (10, _), (1, _), (2, _)]) ⟨rfl, rfl, rfl, rfl, rfl, rfl, trivial⟩ ?_
  refine X.know 38 (.bool true) rfl (congrArg Value.bool ((by first | rfl | (simp; done) | (simp; omega) | decide))) ?_
  refine X.condT rfl ?_
  refine X.region ?_
  refine XO.pu (Pu.assign rfl) ?_
  refine XO.nil ?_
  refine X.sub (p' := [(12, _), (11, _), (10, _), (1, _), (2, _)]) ⟨rfl, rfl, rfl, rfl, rfl, trivial⟩ ?_
  refine X.exit rfl ?_
  refine X.seq ?_
  refine X.seq ?_
  refine X.region ?_
  refine XO.pu (Pu.move rfl) ?_
  refine XO.pu (Pu.neq rfl rfl) ?_
  refine XO.nil ?_
  refine X.sub (p' := [(40, _), (12, _), (11, _), (10, _), (1, _), (2, _)]) ⟨rfl, rfl, rfl, rfl, rfl, rfl, trivial⟩ ?_
  refine X.know 40 (.bool true) rfl (congrArg Value.bool ((by first | rfl | (simp; done) | (simp; omega) | decide))) ?_
  refine X.condT rfl ?_
  refine X.seq ?_
  refine X.region ?_
  refine XO.pu (Pu.move rfl) ?_
  refine XO.pu (Pu.assign rfl) ?_
  refine XO.pu (Pu.assign rfl) ?_
  refine XO.nil ?_
  refine X.sub (p' := [(11, _), (10, _), (1, _), (2, _)]) ⟨rfl, rfl, rfl, rfl, trivial⟩ ?_
  refine X.retL (q) Try.func41 (res2 Try.results41 rfl rfl) ⟨_, rfl, rfl, rfl⟩
theorem Owner_nil  : CallF Try.prog G 20 [.pointer none, .int .i64 0] q (Ret fun v q' => v = .tuple [.int .i64 0, .int .i64 1].toArray ∧ q' = q) := by
  refine CallF.of Try.func20 Try.ntmps20 rfl (fun F cs => ?_)
  refine X.sub (p' := [(0, _), (1, _)]) ⟨rfl, rfl, trivial⟩ ?_
  refine X.seq ?_
  refine X.region ?_
  refine XO.pu (Pu.assign rfl) ?_
  refine XO.pu (Pu.assign rfl) ?_
  refine XO.nil ?_
  refine X.sub (p' := [(5, _), (4, _), (0, _), (1, _)]) ⟨rfl, rfl, rfl, rfl, trivial⟩ ?_
  refine X.seq ?_
  refine X.region ?_
  refine XO.pu (Pu.move rfl) ?_
  refine XO.pu (Pu.move rfl) ?_
  refine XO.cR Try.call35 (mutexList_nil) ?_
  refine XO.pu (Pu.move rfl) ?_
  refine XO.cR Try.call34 (findI0_nil) ?_
  refine XO.pu (Pu.move rfl) ?_
  refine XO.pu (Pu.extract rfl rfl) ?_
  refine XO.pu (Pu.extract rfl rfl) ?_
  refine XO.pu (Pu.assign rfl) ?_
  refine XO.pu (Pu.assign rfl) ?_
  refine XO.nil ?_
  refine X.sub (p' := [(7, _), (6, _), (5, _), (4, _)]) ⟨rfl, rfl, rfl, rfl, trivial⟩ ?_
  refine X.seq ?_
  refine X.seq ?_
  refine X.region ?_
  refine XO.pu (Pu.move rfl) ?_
  refine XO.pu (Pu.neq rfl rfl) ?_
  refine XO.nil ?_
  refine X.sub (p' := [(17, _), (7, _), (6, _), (5, _), (4, _)]) ⟨rfl, rfl, rfl, rfl, rfl, trivial⟩ ?_
  refine X.know 17 (.bool true) rfl (congrArg Value.bool ((by first | rfl | (simp; done) | (simp; omega) | decide))) ?_
  refine X.condT rfl ?_
  refine X.seq ?_
  refine X.region ?_
  refine XO.pu (Pu.move rfl) ?_
  refine XO.pu (Pu.assign rfl) ?_
  refine XO.pu (Pu.assign rfl) ?_
  refine XO.nil ?_
  refine X.sub (p' := [(5, _), (4, _), (6, _)]) ⟨rfl, rfl, rfl, trivial⟩ ?_
  refine X.retL (q) Try.func20 (res2 Try.results20 rfl rfl) ⟨_, rfl, rfl, rfl⟩
theorem Lock_nil  : CallF Try.prog G 13 [.pointer none, .int .i64 0, .int .i64 0] q (Ret fun v q' => v = .tuple [.bool false, .int .i64 1].toArray ∧ q' = q) := by
  refine CallF.of Try.func13 Try.ntmps13 rfl (fun F cs => ?_)
  refine X.sub (p' := [(0, _), (1, _), (2, _)]) ⟨rfl, rfl, rfl, trivial⟩ ?_
  refine X.seq ?_
  refine X.region ?_
  refine XO.pu (Pu.assign rfl) ?_
  refine XO.pu (Pu.assign rfl) ?_
  refine XO.nil ?_
  refine X.sub (p' := [(7, _), (6, _), (0, _), (1, _), (2, _)]) ⟨rfl, rfl, rfl, rfl, rfl, trivial⟩ ?_
  refine X.seq ?_
  refine X.region ?_
  refine XO.pu (Pu.move rfl) ?_
  refine XO.pu (Pu.move rfl) ?_
  refine XO.cR Try.call35 (mutexList_nil) ?_
  refine XO.pu (Pu.move rfl) ?_
  refine XO.pu (Pu.move rfl) ?_
  refine XO.cR Try.call34 (findI1_nil) ?_
  refine XO.pu (Pu.move rfl) ?_
  refine XO.pu (Pu.extract rfl rfl) ?_
  refine XO.pu (Pu.extract rfl rfl) ?_
  refine XO.pu (Pu.assign rfl) ?_
  refine XO.pu (Pu.assign rfl) ?_
  refine XO.nil ?_
  refine X.sub (p' := [(9, _), (8, _), (7, _), (6, _), (2, _)]) ⟨rfl, rfl, rfl, rfl, rfl, trivial⟩ ?_
  refine X.seq ?_
  refine X.seq ?_
  refine X.region ?_
  refine XO.pu (Pu.move rfl) ?_
  refine XO.pu (Pu.neq rfl rfl) ?_
  refine XO.pu (Pu.move rfl) ?_
  refine XO.know 21 (.bool true) rfl (congrArg Value.bool ((by first | rfl | (simp; done) | (simp; omega) | decide))) ?_
  refine XO.pass rfl ?_
  refine XO.pass rfl ?_
  refine XO.pass rfl ?_
  refine XO.pass rfl ?_
  refine XO.pu (Pu.pickT rfl rfl) ?_
  refine XO.nil ?_
  refine X.sub (p' := [(26, _), (9, _), (8, _), (7, _), (6, _), (2, _)]) ⟨rfl, rfl, rfl, rfl, rfl, rfl, trivial⟩ ?_
  refine X.condT rfl ?_
  refine X.seq ?_
  refine X.region ?_
  refine XO.pu (Pu.move rfl) ?_
  refine XO.pu (Pu.assign rfl) ?_
  refine XO.pu (Pu.assign rfl) ?_
  refine XO.nil ?_
  refine X.sub (p' := [(7, _), (6, _), (8, _), (2, _)]) ⟨rfl, rfl, rfl, rfl, trivial⟩ ?_
  refine X.retL (q) Try.func13 (res2 Try.results13 rfl rfl) ⟨_, rfl, rfl, rfl⟩
theorem Waits_nil  : CallF Try.prog G 21 [.pointer none, .int .i64 0] q (Ret fun v q' => v = .tuple [.slice none 0 0, .int .i64 1].toArray ∧ q' = q) := by
  refine CallF.of Try.func21 Try.ntmps21 rfl (fun F cs => ?_)
  refine X.sub (p' := [(0, _), (1, _)]) ⟨rfl, rfl, trivial⟩ ?_
  refine X.seq ?_
  refine X.region ?_
  refine XO.pu (Pu.assign rfl) ?_
  refine XO.pu (Pu.assign rfl) ?_
  refine XO.nil ?_
  refine X.sub (p' := [(5, _), (4, _), (0, _), (1, _)]) ⟨rfl, rfl, rfl, rfl, trivial⟩ ?_
  refine X.seq ?_
  refine X.region ?_
  refine XO.pu (Pu.move rfl) ?_
  refine XO.pu (Pu.move rfl) ?_
  refine XO.cR Try.call37 (condList_nil) ?_
  refine XO.pu (Pu.move rfl) ?_
  refine XO.cR Try.call36 (findC0_nil) ?_
  refine XO.pu (Pu.move rfl) ?_
  refine XO.pu (Pu.extract rfl rfl) ?_
  refine XO.pu (Pu.extract rfl rfl) ?_
  refine XO.pu (Pu.assign rfl) ?_
  refine XO.pu (Pu.assign rfl) ?_
  refine XO.nil ?_
  refine X.sub (p' := [(7, _), (6, _), (5, _), (4, _)]) ⟨rfl, rfl, rfl, rfl, trivial⟩ ?_
  refine X.seq ?_
  refine X.seq ?_
  refine X.region ?_
  refine XO.pu (Pu.move rfl) ?_
  refine XO.pu (Pu.neq rfl rfl) ?_
  refine XO.nil ?_
  refine X.sub (p' := [(17, _), (7, _), (6, _), (5, _), (4, _)]) ⟨rfl, rfl, rfl, rfl, rfl, trivial⟩ ?_
  refine X.know 17 (.bool true) rfl (congrArg Value.bool ((by first | rfl | (simp; done) | (simp; omega) | decide))) ?_
  refine X.condT rfl ?_
  refine X.seq ?_
  refine X.region ?_
  refine XO.pu (Pu.move rfl) ?_
  refine XO.pu (Pu.assign rfl) ?_
  refine XO.pu (Pu.assign rfl) ?_
  refine XO.nil ?_
  refine X.sub (p' := [(5, _), (4, _), (6, _)]) ⟨rfl, rfl, rfl, trivial⟩ ?_
  refine X.retL (q) Try.func21 (res2 Try.results21 rfl rfl) ⟨_, rfl, rfl, rfl⟩
theorem Signal_nil  : CallF Try.prog G 17 [.pointer none, .int .i64 0] q (Ret fun v q' => v = .tuple [.int .i64 0, .bool false, .int .i64 1].toArray ∧ q' = q) := by
  refine CallF.of Try.func17 Try.ntmps17 rfl (fun F cs => ?_)
  refine X.sub (p' := [(0, _), (1, _)]) ⟨rfl, rfl, trivial⟩ ?_
  refine X.seq ?_
  refine X.region ?_
  refine XO.pu (Pu.assign rfl) ?_
  refine XO.pu (Pu.assign rfl) ?_
  refine XO.pu (Pu.assign rfl) ?_
  refine XO.nil ?_
  refine X.sub (p' := [(6, _), (5, _), (4, _), (0, _), (1, _)]) ⟨rfl, rfl, rfl, rfl, rfl, trivial⟩ ?_
  refine X.seq ?_
  refine X.region ?_
  refine XO.pu (Pu.move rfl) ?_
  refine XO.pu (Pu.move rfl) ?_
  refine XO.cR Try.call37 (condList_nil) ?_
  refine XO.pu (Pu.move rfl) ?_
  refine XO.cR Try.call36 (findC0_nil) ?_
  refine XO.pu (Pu.move rfl) ?_
  refine XO.pu (Pu.extract rfl rfl) ?_
  refine XO.pu (Pu.extract rfl rfl) ?_
  refine XO.pu (Pu.assign rfl) ?_
  refine XO.pu (Pu.assign rfl) ?_
  refine XO.nil ?_
  refine X.sub (p' := [(8, _), (7, _), (6, _), (5, _), (4, _)]) ⟨rfl, rfl, rfl, rfl, rfl, trivial⟩ ?_
  refine X.seq ?_
  refine X.seq ?_
  refine X.region ?_
  refine XO.pu (Pu.move rfl) ?_
  refine XO.pu (Pu.neq rfl rfl) ?_
  refine XO.nil ?_
  refine X.sub (p' := [(20, _), (8, _), (7, _), (6, _), (5, _), (4, _)]) ⟨rfl, rfl, rfl, rfl, rfl, rfl, trivial⟩ ?_
  refine X.know 20 (.bool true) rfl (congrArg Value.bool ((by first | rfl | (simp; done) | (simp; omega) | decide))) ?_
  refine X.condT rfl ?_
  refine X.seq ?_
  refine X.region ?_
  refine XO.pu (Pu.move rfl) ?_
  refine XO.pu (Pu.assign rfl) ?_
  refine XO.pu (Pu.assign rfl) ?_
  refine XO.pu (Pu.assign rfl) ?_
  refine XO.nil ?_
  refine X.sub (p' := [(6, _), (5, _), (4, _), (7, _)]) ⟨rfl, rfl, rfl, rfl, trivial⟩ ?_
  refine X.retL (q) Try.func17 (res3 Try.results17 rfl rfl rfl) ⟨_, rfl, rfl, rfl⟩
theorem All_nil  : CallF Try.prog G 30 [.pointer none, .int .i64 0] q (Ret fun v q' => v = .tuple [.slice none 0 0, .int .i64 1].toArray ∧ q' = q) := by
  refine CallF.of Try.func30 Try.ntmps30 rfl (fun F cs => ?_)
  refine X.sub (p' := [(0, _), (1, _)]) ⟨rfl, rfl, trivial⟩ ?_
  refine X.seq ?_
  refine X.region ?_
  refine XO.pu (Pu.assign rfl) ?_
  refine XO.pu (Pu.assign rfl) ?_
  refine XO.nil ?_
  refine X.sub (p' := [(5, _), (4, _), (0, _), (1, _)]) ⟨rfl, rfl, rfl, rfl, trivial⟩ ?_
  refine X.seq ?_
  refine X.region ?_
  refine XO.pu (Pu.move rfl) ?_
  refine XO.pu (Pu.move rfl) ?_
  refine XO.cR Try.call37 (condList_nil) ?_
  refine XO.pu (Pu.move rfl) ?_
  refine XO.cR Try.call36 (findC0_nil) ?_
  refine XO.pu (Pu.move rfl) ?_
  refine XO.pu (Pu.extract rfl rfl) ?_
  refine XO.pu (Pu.extract rfl rfl) ?_
  refine XO.pu (Pu.assign rfl) ?_
  refine XO.pu (Pu.assign rfl) ?_
  refine XO.nil ?_
  refine X.sub (p' := [(7, _), (6, _), (5, _), (4, _)]) ⟨rfl, rfl, rfl, rfl, trivial⟩ ?_
  refine X.seq ?_
  refine X.seq ?_
  refine X.region ?_
  refine XO.pu (Pu.move rfl) ?_
  refine XO.pu (Pu.neq rfl rfl) ?_
  refine XO.nil ?_
  refine X.sub (p' := [(18, _), (7, _), (6, _), (5, _), (4, _)]) ⟨rfl, rfl, rfl, rfl, rfl, trivial⟩ ?_
  refine X.know 18 (.bool true) rfl (congrArg Value.bool ((by first | rfl | (simp; done) | (simp; omega) | decide))) ?_
  refine X.condT rfl ?_
  refine X.seq ?_
  refine X.region ?_
  refine XO.pu (Pu.move rfl) ?_
  refine XO.pu (Pu.assign rfl) ?_
  refine XO.pu (Pu.assign rfl) ?_
  refine XO.nil ?_
  refine X.sub (p' := [(5, _), (4, _), (6, _)]) ⟨rfl, rfl, rfl, trivial⟩ ?_
  refine X.retL (q) Try.func30 (res2 Try.results30 rfl rfl) ⟨_, rfl, rfl, rfl⟩
theorem Send_nil  : CallF Try.prog G 18 [.pointer none, .int .i64 0, .int .i64 0] q (Ret fun v q' => v = .tuple [.int .i64 0, .bool false, .int .i64 1].toArray ∧ q' = q) := by
  refine CallF.of Try.func18 Try.ntmps18 rfl (fun F cs => ?_)
  refine X.sub (p' := [(0, _), (1, _), (2, _)]) ⟨rfl, rfl, rfl, trivial⟩ ?_
  refine X.seq ?_
  refine X.region ?_
  refine XO.pu (Pu.assign rfl) ?_
  refine XO.pu (Pu.assign rfl) ?_
  refine XO.pu (Pu.assign rfl) ?_
  refine XO.nil ?_
  refine X.sub (p' := [(8, _), (7, _), (6, _), (0, _), (1, _), (2, _)]) ⟨rfl, rfl, rfl, rfl, rfl, rfl, trivial⟩ ?_
  refine X.seq ?_
  refine X.region ?_
  refine XO.pu (Pu.move rfl) ?_
  refine XO.pu (Pu.move rfl) ?_
  refine XO.cR Try.call42 (channelList_nil) ?_
  refine XO.pu (Pu.move rfl) ?_
  refine XO.pu (Pu.move rfl) ?_
  refine XO.cR Try.call41 (findH2_nil) ?_
  refine XO.pu (Pu.move rfl) ?_
  refine XO.pu (Pu.extract rfl rfl) ?_
  refine XO.pu (Pu.extract rfl rfl) ?_
  refine XO.pu (Pu.assign rfl) ?_
  refine XO.pu (Pu.assign rfl) ?_
  refine XO.nil ?_
  refine X.sub (p' := [(10, _), (9, _), (8, _), (7, _), (6, _), (2, _)]) ⟨rfl, rfl, rfl, rfl, rfl, rfl, trivial⟩ ?_
  refine X.seq ?_
  refine X.seq ?_
  refine X.draw [] Try.mixed (by kernel_rfl) (by kernel_rfl) rfl ?_
  refine XD.pu 0 rfl (Pu.move rfl) ?_
  refine XD.pu 1 rfl (Pu.neq rfl rfl) ?_
  refine XD.pu 2 rfl (Pu.move rfl) ?_
  refine XD.know 22 (.bool true) rfl (congrArg Value.bool ((by first | rfl | (simp; done) | (simp; omega) | decide))) ?_
  refine XD.pass 3 rfl ?_
  refine XD.pass 4 rfl ?_
  refine XD.pass 5 rfl ?_
  refine XD.pass 6 rfl ?_
  refine XD.pass 7 rfl ?_
  refine XD.pass 8 rfl ?_
  refine XD.pass 9 rfl ?_
  refine XD.pass 10 rfl ?_
  refine XD.pass 11 rfl ?_
  refine XD.pass 12 rfl ?_
  refine XD.pass 13 rfl ?_
  refine XD.pu 14 rfl (Pu.pickT rfl rfl) ?_
  refine XD.nil ?_
  refine X.sub (p' := [(34, _), (10, _), (9, _), (8, _), (7, _), (6, _), (2, _)]) ⟨rfl, rfl, rfl, rfl, rfl, rfl, rfl, trivial⟩ ?_
  refine X.condT rfl ?_
  refine X.seq ?_
  refine X.region ?_
  refine XO.pu (Pu.move rfl) ?_
  refine XO.pu (Pu.assign rfl) ?_
  refine XO.pu (Pu.assign rfl) ?_
  refine XO.pu (Pu.assign rfl) ?_
  refine XO.nil ?_
  refine X.sub (p' := [(8, _), (7, _), (6, _), (9, _), (2, _)]) ⟨rfl, rfl, rfl, rfl, rfl, trivial⟩ ?_
  refine X.retL (q) Try.func18 (res3 Try.results18 rfl rfl rfl) ⟨_, rfl, rfl, rfl⟩
theorem Recv_nil  : CallF Try.prog G 19 [.pointer none, .int .i64 0] q (Ret fun v q' => v = .tuple [.int .i64 0, .int .i64 0, .bool false, .int .i64 1].toArray ∧ q' = q) := by
  refine CallF.of Try.func19 Try.ntmps19 rfl (fun F cs => ?_)
  refine X.sub (p' := [(0, _), (1, _)]) ⟨rfl, rfl, trivial⟩ ?_
  refine X.seq ?_
  refine X.region ?_
  refine XO.pu (Pu.assign rfl) ?_
  refine XO.pu (Pu.assign rfl) ?_
  refine XO.pu (Pu.assign rfl) ?_
  refine XO.pu (Pu.assign rfl) ?_
  refine XO.nil ?_
  refine X.sub (p' := [(7, _), (6, _), (5, _), (4, _), (0, _), (1, _)]) ⟨rfl, rfl, rfl, rfl, rfl, rfl, trivial⟩ ?_
  refine X.seq ?_
  refine X.region ?_
  refine XO.pu (Pu.move rfl) ?_
  refine XO.pu (Pu.move rfl) ?_
  refine XO.cR Try.call42 (channelList_nil) ?_
  refine XO.pu (Pu.move rfl) ?_
  refine XO.cR Try.call41 (findH0_nil) ?_
  refine XO.pu (Pu.move rfl) ?_
  refine XO.pu (Pu.extract rfl rfl) ?_
  refine XO.pu (Pu.extract rfl rfl) ?_
  refine XO.pu (Pu.assign rfl) ?_
  refine XO.pu (Pu.assign rfl) ?_
  refine XO.nil ?_
  refine X.sub (p' := [(9, _), (8, _), (7, _), (6, _), (5, _), (4, _)]) ⟨rfl, rfl, rfl, rfl, rfl, rfl, trivial⟩ ?_
  refine X.seq ?_
  refine X.seq ?_
  refine X.region ?_
  refine XO.pu (Pu.move rfl) ?_
  refine XO.pu (Pu.neq rfl rfl) ?_
  refine XO.nil ?_
  refine X.sub (p' := [(22, _), (9, _), (8, _), (7, _), (6, _), (5, _), (4, _)]) ⟨rfl, rfl, rfl, rfl, rfl, rfl, rfl, trivial⟩ ?_
  refine X.know 22 (.bool true) rfl (congrArg Value.bool ((by first | rfl | (simp; done) | (simp; omega) | decide))) ?_
  refine X.condT rfl ?_
  refine X.seq ?_
  refine X.region ?_
  refine XO.pu (Pu.move rfl) ?_
  refine XO.pu (Pu.assign rfl) ?_
  refine XO.pu (Pu.assign rfl) ?_
  refine XO.pu (Pu.assign rfl) ?_
  refine XO.pu (Pu.assign rfl) ?_
  refine XO.nil ?_
  refine X.sub (p' := [(7, _), (6, _), (5, _), (4, _), (8, _)]) ⟨rfl, rfl, rfl, rfl, rfl, trivial⟩ ?_
  refine X.retL (q) Try.func19 (resC Try.results19 (ResOk.tmp rfl (ResOk.tmp rfl (ResOk.tmp rfl (ResOk.tmp rfl ResOk.nil))))) ⟨_, rfl, rfl, rfl⟩
theorem Values_nil  : CallF Try.prog G 28 [.pointer none, .int .i64 0] q (Ret fun v q' => v = .tuple [.slice none 0 0, .int .i64 1].toArray ∧ q' = q) := by
  refine CallF.of Try.func28 Try.ntmps28 rfl (fun F cs => ?_)
  refine X.sub (p' := [(0, _), (1, _)]) ⟨rfl, rfl, trivial⟩ ?_
  refine X.seq ?_
  refine X.region ?_
  refine XO.pu (Pu.assign rfl) ?_
  refine XO.pu (Pu.assign rfl) ?_
  refine XO.nil ?_
  refine X.sub (p' := [(5, _), (4, _), (0, _), (1, _)]) ⟨rfl, rfl, rfl, rfl, trivial⟩ ?_
  refine X.seq ?_
  refine X.region ?_
  refine XO.pu (Pu.move rfl) ?_
  refine XO.pu (Pu.move rfl) ?_
  refine XO.cR Try.call42 (channelList_nil) ?_
  refine XO.pu (Pu.move rfl) ?_
  refine XO.cR Try.call41 (findH0_nil) ?_
  refine XO.pu (Pu.move rfl) ?_
  refine XO.pu (Pu.extract rfl rfl) ?_
  refine XO.pu (Pu.extract rfl rfl) ?_
  refine XO.pu (Pu.assign rfl) ?_
  refine XO.pu (Pu.assign rfl) ?_
  refine XO.nil ?_
  refine X.sub (p' := [(7, _), (6, _), (5, _), (4, _)]) ⟨rfl, rfl, rfl, rfl, trivial⟩ ?_
  refine X.seq ?_
  refine X.seq ?_
  refine X.region ?_
  refine XO.pu (Pu.move rfl) ?_
  refine XO.pu (Pu.neq rfl rfl) ?_
  refine XO.nil ?_
  refine X.sub (p' := [(17, _), (7, _), (6, _), (5, _), (4, _)]) ⟨rfl, rfl, rfl, rfl, rfl, trivial⟩ ?_
  refine X.know 17 (.bool true) rfl (congrArg Value.bool ((by first | rfl | (simp; done) | (simp; omega) | decide))) ?_
  refine X.condT rfl ?_
  refine X.seq ?_
  refine X.region ?_
  refine XO.pu (Pu.move rfl) ?_
  refine XO.pu (Pu.assign rfl) ?_
  refine XO.pu (Pu.assign rfl) ?_
  refine XO.nil ?_
  refine X.sub (p' := [(5, _), (4, _), (6, _)]) ⟨rfl, rfl, rfl, trivial⟩ ?_
  refine X.retL (q) Try.func28 (res2 Try.results28 rfl rfl) ⟨_, rfl, rfl, rfl⟩
theorem Room_nil  : CallF Try.prog G 29 [.pointer none, .int .i64 0] q (Ret fun v q' => v = .tuple [.int .i64 0, .int .i64 1].toArray ∧ q' = q) := by
  refine CallF.of Try.func29 Try.ntmps29 rfl (fun F cs => ?_)
  refine X.sub (p' := [(0, _), (1, _)]) ⟨rfl, rfl, trivial⟩ ?_
  refine X.seq ?_
  refine X.region ?_
  refine XO.pu (Pu.assign rfl) ?_
  refine XO.pu (Pu.assign rfl) ?_
  refine XO.nil ?_
  refine X.sub (p' := [(5, _), (4, _), (0, _), (1, _)]) ⟨rfl, rfl, rfl, rfl, trivial⟩ ?_
  refine X.seq ?_
  refine X.region ?_
  refine XO.pu (Pu.move rfl) ?_
  refine XO.pu (Pu.move rfl) ?_
  refine XO.cR Try.call42 (channelList_nil) ?_
  refine XO.pu (Pu.move rfl) ?_
  refine XO.cR Try.call41 (findH0_nil) ?_
  refine XO.pu (Pu.move rfl) ?_
  refine XO.pu (Pu.extract rfl rfl) ?_
  refine XO.pu (Pu.extract rfl rfl) ?_
  refine XO.pu (Pu.assign rfl) ?_
  refine XO.pu (Pu.assign rfl) ?_
  refine XO.nil ?_
  refine X.sub (p' := [(7, _), (6, _), (5, _), (4, _)]) ⟨rfl, rfl, rfl, rfl, trivial⟩ ?_
  refine X.seq ?_
  refine X.seq ?_
  refine X.region ?_
  refine XO.pu (Pu.move rfl) ?_
  refine XO.pu (Pu.neq rfl rfl) ?_
  refine XO.nil ?_
  refine X.sub (p' := [(17, _), (7, _), (6, _), (5, _), (4, _)]) ⟨rfl, rfl, rfl, rfl, rfl, trivial⟩ ?_
  refine X.know 17 (.bool true) rfl (congrArg Value.bool ((by first | rfl | (simp; done) | (simp; omega) | decide))) ?_
  refine X.condT rfl ?_
  refine X.seq ?_
  refine X.region ?_
  refine XO.pu (Pu.move rfl) ?_
  refine XO.pu (Pu.assign rfl) ?_
  refine XO.pu (Pu.assign rfl) ?_
  refine XO.nil ?_
  refine X.sub (p' := [(5, _), (4, _), (6, _)]) ⟨rfl, rfl, rfl, trivial⟩ ?_
  refine X.retL (q) Try.func29 (res2 Try.results29 rfl rfl) ⟨_, rfl, rfl, rfl⟩
theorem Unlock_nil  : CallF Try.prog G 15 [.pointer none, .int .i64 0, .int .i64 0] q (Ret fun v q' => v = .int .i64 1 ∧ q' = q) := by
  refine CallF.of Try.func15 Try.ntmps15 rfl (fun F cs => ?_)
  refine X.sub (p' := [(0, _), (1, _), (2, _)]) ⟨rfl, rfl, rfl, trivial⟩ ?_
  refine X.seq ?_
  refine X.region ?_
  refine XO.pu (Pu.assign rfl) ?_
  refine XO.nil ?_
  refine X.sub (p' := [(6, _), (0, _), (1, _), (2, _)]) ⟨rfl, rfl, rfl, rfl, trivial⟩ ?_
  refine X.seq ?_
  refine X.region ?_
  refine XO.pu (Pu.move rfl) ?_
  refine XO.pu (Pu.move rfl) ?_
  refine XO.cR Try.call35 (mutexList_nil) ?_
  refine XO.pu (Pu.move rfl) ?_
  refine XO.pu (Pu.move rfl) ?_
  refine XO.cR Try.call34 (findI1_nil) ?_
  refine XO.pu (Pu.move rfl) ?_
  refine XO.pu (Pu.extract rfl rfl) ?_
  refine XO.pu (Pu.extract rfl rfl) ?_
  refine XO.pu (Pu.assign rfl) ?_
  refine XO.pu (Pu.assign rfl) ?_
  refine XO.nil ?_
  refine X.sub (p' := [(8, _), (7, _), (6, _), (2, _)]) ⟨rfl, rfl, rfl, rfl, trivial⟩ ?_
  refine X.seq ?_
  refine X.seq ?_
  refine X.region ?_
  refine XO.pu (Pu.move rfl) ?_
  refine XO.pu (Pu.neq rfl rfl) ?_
  refine XO.nil ?_
  refine X.sub (p' := [(19, _), (8, _), (7, _), (6, _), (2, _)]) ⟨rfl, rfl, rfl, rfl, rfl, trivial⟩ ?_
  refine X.know 19 (.bool true) rfl (congrArg Value.bool ((by first | rfl | (simp; done) | (simp; omega) | decide))) ?_
  refine X.condT rfl ?_
  refine X.seq ?_
  refine X.region ?_
  refine XO.pu (Pu.move rfl) ?_
  refine XO.pu (Pu.assign rfl) ?_
  refine XO.nil ?_
  refine X.sub (p' := [(6, _), (7, _), (2, _)]) ⟨rfl, rfl, rfl, trivial⟩ ?_
  refine X.retL (q) Try.func15 (res1 Try.results15 rfl) ⟨_, rfl, rfl, rfl⟩
theorem Wait_nil  : CallF Try.prog G 16 [.pointer none, .int .i64 0, .int .i64 0] q (Ret fun v q' => v = .int .i64 1 ∧ q' = q) := by
  refine CallF.of Try.func16 Try.ntmps16 rfl (fun F cs => ?_)
  refine X.sub (p' := [(0, _), (1, _), (2, _)]) ⟨rfl, rfl, rfl, trivial⟩ ?_
  refine X.seq ?_
  refine X.region ?_
  refine XO.ef (Ef.box rfl) ?_
  rintro _ _ ⟨n1, rfl, rfl⟩
  refine XO.ef (Ef.alloc Try.zeroValue25) ?_
  rintro _ _ ⟨n2, rfl, rfl⟩
  refine XO.nil ?_
  refine X.sub (p' := [(6, _), (5, _), (0, _), (1, _)]) ⟨rfl, rfl, rfl, rfl, trivial⟩ ?_
  refine X.seq ?_
  refine X.draw [] Try.mixed (by kernel_rfl) (by kernel_rfl) rfl ?_
  refine XD.pu 0 rfl (Pu.move rfl) ?_
  refine XD.pu 1 rfl (Pu.move rfl) ?_
  refine XD.pu 3 rfl (Pu.move rfl) ?_
  refine XD.ld 4 Try.isAgg3 ?_
  refine XD.cRL 2 Try.call37 (condList_nil) ?_
  refine XD.cRL 5 Try.call36 (findC1_nil) ?_
  refine XD.pu 6 rfl (Pu.move rfl) ?_
  refine XD.pu 7 rfl (Pu.extract rfl rfl) ?_
  refine XD.pu 8 rfl (Pu.extract rfl rfl) ?_
  refine XD.pu 9 rfl (Pu.assign rfl) ?_
  refine XD.pu 10 rfl (Pu.assign rfl) ?_
  refine XD.nil ?_
  refine X.sub (p' := [(8, _), (7, _), (6, _), (5, _), (0, _)]) ⟨rfl, rfl, rfl, rfl, rfl, trivial⟩ ?_
  refine X.seq ?_
  refine X.seq ?_
  refine X.region ?_
  refine XO.pu (Pu.move rfl) ?_
  refine XO.pu (Pu.neq rfl rfl) ?_
  refine XO.nil ?_
  refine X.sub (p' := [(20, _), (8, _), (7, _), (6, _), (5, _), (0, _)]) ⟨rfl, rfl, rfl, rfl, rfl, rfl, trivial⟩ ?_
  refine X.know 20 (.bool true) rfl (congrArg Value.bool ((by first | rfl | (simp; done) | (simp; omega) | decide))) ?_
  refine X.condT rfl ?_
  refine X.seq ?_
  refine X.region ?_
  refine XO.pu (Pu.move rfl) ?_
  refine XO.ef0 (Ef.st Try.sizeOf25) ?_
  rintro _ _ ⟨rfl, rfl⟩
  refine XO.nil ?_
  refine X.sub (p' := [(7, _), (6, _), (5, _), (0, _)]) ⟨rfl, rfl, rfl, rfl, trivial⟩ ?_
  refine X.retL (q) Try.func16 (resC1 Try.results16 (ResOk.cell rfl (LV.cell Try.isAgg25 clA) ResOk.nil)) ⟨_, rfl, rfl, rfl⟩
theorem Copy_nil  : CallF Try.prog G 31 [.pointer none] q (Ret fun v q' => v = .pointer none ∧ q' = q) := by
  refine CallF.of Try.func31 Try.ntmps31 rfl (fun F cs => ?_)
  refine X.sub (p' := [(0, _)]) ⟨rfl, trivial⟩ ?_
  refine X.seq ?_
  refine X.region ?_
  refine XO.pu (Pu.assign rfl) ?_
  refine XO.nil ?_
  refine X.sub (p' := [(2, _), (0, _)]) ⟨rfl, rfl, trivial⟩ ?_
  refine X.seq ?_
  refine X.seq ?_
  refine X.region ?_
  refine XO.pu (Pu.move rfl) ?_
  refine XO.cR Try.call55 (there_nil) ?_
  refine XO.pu (Pu.not rfl) ?_
  refine XO.nil ?_
  refine X.sub (p' := [(8, _), (2, _), (0, _)]) ⟨rfl, rfl, rfl, trivial⟩ ?_
  refine X.know 8 (.bool true) rfl (congrArg Value.bool ((by first | rfl | (simp; done) | (simp; omega) | decide))) ?_
  refine X.condT rfl ?_
  refine X.seq ?_
  refine X.region ?_
  refine XO.pu (Pu.assign rfl) ?_
  refine XO.nil ?_
  refine X.sub (p' := [(2, _), (0, _)]) ⟨rfl, rfl, trivial⟩ ?_
  refine X.retL (q) Try.func31 (res1 Try.results31 rfl) ⟨_, rfl, rfl, rfl⟩
theorem Same_nn  : CallF Try.prog G 32 [.pointer none, .pointer none] q (Ret fun v q' => v = .bool true ∧ q' = q) := by
  refine CallF.of Try.func32 Try.ntmps32 rfl (fun F cs => ?_)
  refine X.sub (p' := [(0, _), (1, _)]) ⟨rfl, rfl, trivial⟩ ?_
  refine X.seq ?_
  refine X.region ?_
  refine XO.pu (Pu.assign rfl) ?_
  refine XO.nil ?_
  refine X.sub (p' := [(4, _), (0, _), (1, _)]) ⟨rfl, rfl, rfl, trivial⟩ ?_
  refine X.seq ?_
  refine X.seq ?_
  refine X.region ?_
  refine XO.pu (Pu.move rfl) ?_
  refine XO.cR Try.call55 (there_nil) ?_
  refine XO.pu (Pu.not rfl) ?_
  refine XO.pu (Pu.move rfl) ?_
  refine XO.know 8 (.bool true) rfl (congrArg Value.bool ((by first | rfl | (simp; done) | (simp; omega) | decide))) ?_
  refine XO.pass rfl ?_
  refine XO.pass rfl ?_
  refine XO.pass rfl ?_
  refine XO.pu (Pu.pickT rfl rfl) ?_
  refine XO.nil ?_
  refine X.sub (p' := [(12, _), (4, _), (0, _), (1, _)]) ⟨rfl, rfl, rfl, rfl, trivial⟩ ?_
  refine X.condT rfl ?_
  refine X.seq ?_
  refine X.region ?_
  refine XO.pu (Pu.move rfl) ?_
  refine XO.cR Try.call55 (there_nil) ?_
  refine XO.pu (Pu.not rfl) ?_
  refine XO.pu (Pu.move rfl) ?_
  refine XO.know 16 (.bool true) rfl (congrArg Value.bool ((by first | rfl | (simp; done) | (simp; omega) | decide))) ?_
  refine XO.pu (Pu.move rfl) ?_
  refine XO.cR Try.call55 (there_nil) ?_
  refine XO.pu (Pu.not rfl) ?_
  refine XO.pu (Pu.pickT rfl rfl) ?_
  refine XO.pu (Pu.assign rfl) ?_
  refine XO.nil ?_
  refine X.sub (p' := [(4, _), (0, _), (1, _)]) ⟨rfl, rfl, rfl, trivial⟩ ?_
  refine X.retL (q) Try.func32 (res1 Try.results32 rfl) ⟨_, rfl, rfl, rfl⟩
theorem Same_pn (h : Cl q ⟨p, 0, none⟩ (.bool true)) : CallF Try.prog G 32 [.pointer (some ⟨p, 0, none⟩), .pointer none] q (Ret fun v q' => v = .bool false ∧ q' = q) := by
  refine CallF.of Try.func32 Try.ntmps32 rfl (fun F cs => ?_)
  refine X.sub (p' := [(0, _), (1, _)]) ⟨rfl, rfl, trivial⟩ ?_
  refine X.seq ?_
  refine X.region ?_
  refine XO.pu (Pu.assign rfl) ?_
  refine XO.nil ?_
  refine X.sub (p' := [(4, _), (0, _), (1, _)]) ⟨rfl, rfl, rfl, trivial⟩ ?_
  refine X.seq ?_
  refine X.seq ?_
  refine X.region ?_
  refine XO.pu (Pu.move rfl) ?_
  refine XO.cR Try.call55 (there_ok (clLe h leA)) ?_
  refine XO.pu (Pu.not rfl) ?_
  refine XO.pu (Pu.move rfl) ?_
  refine XO.know 8 (.bool false) rfl (congrArg Value.bool (rfl)) ?_
  refine XO.pu (Pu.move rfl) ?_
  refine XO.cR Try.call55 (there_nil) ?_
  refine XO.pu (Pu.not rfl) ?_
  refine XO.pu (Pu.pickF rfl rfl) ?_
  refine XO.nil ?_
  refine X.sub (p' := [(12, _), (4, _), (0, _), (1, _)]) ⟨rfl, rfl, rfl, rfl, trivial⟩ ?_
  refine X.know 12 (.bool true) rfl (congrArg Value.bool (rfl)) ?_
  refine X.condT rfl ?_
  refine X.seq ?_
  refine X.region ?_
  refine XO.pu (Pu.move rfl) ?_
  refine XO.cR Try.call55 (there_ok (clLe h leA)) ?_
  refine XO.pu (Pu.not rfl) ?_
  refine XO.pu (Pu.move rfl) ?_
  refine XO.know 16 (.bool false) rfl (congrArg Value.bool (rfl)) ?_
  refine XO.pass rfl ?_
  refine XO.pass rfl ?_
  refine XO.pass rfl ?_
  refine XO.pu (Pu.pickF rfl rfl) ?_
  refine XO.pu (Pu.assign rfl) ?_
  refine XO.nil ?_
  refine X.sub (p' := [(4, _), (0, _), (1, _)]) ⟨rfl, rfl, rfl, trivial⟩ ?_
  refine X.retL (q) Try.func32 (res1 Try.results32 rfl) ⟨_, rfl, rfl, rfl⟩
theorem Same_np (h : Cl q ⟨p, 0, none⟩ (.bool true)) : CallF Try.prog G 32 [.pointer none, .pointer (some ⟨p, 0, none⟩)] q (Ret fun v q' => v = .bool false ∧ q' = q) := by
  refine CallF.of Try.func32 Try.ntmps32 rfl (fun F cs => ?_)
  refine X.sub (p' := [(0, _), (1, _)]) ⟨rfl, rfl, trivial⟩ ?_
  refine X.seq ?_
  refine X.region ?_
  refine XO.pu (Pu.assign rfl) ?_
  refine XO.nil ?_
  refine X.sub (p' := [(4, _), (0, _), (1, _)]) ⟨rfl, rfl, rfl, trivial⟩ ?_
  refine X.seq ?_
  refine X.seq ?_
  refine X.region ?_
  refine XO.pu (Pu.move rfl) ?_
  refine XO.cR Try.call55 (there_nil) ?_
  refine XO.pu (Pu.not rfl) ?_
  refine XO.pu (Pu.move rfl) ?_
  refine XO.know 8 (.bool true) rfl (congrArg Value.bool (rfl)) ?_
  refine XO.pass rfl ?_
  refine XO.pass rfl ?_
  refine XO.pass rfl ?_
  refine XO.pu (Pu.pickT rfl rfl) ?_
  refine XO.nil ?_
  refine X.sub (p' := [(12, _), (4, _), (0, _), (1, _)]) ⟨rfl, rfl, rfl, rfl, trivial⟩ ?_
  refine X.condT rfl ?_
  refine X.seq ?_
  refine X.region ?_
  refine XO.pu (Pu.move rfl) ?_
  refine XO.cR Try.call55 (there_nil) ?_
  refine XO.pu (Pu.not rfl) ?_
  refine XO.pu (Pu.move rfl) ?_
  refine XO.know 16 (.bool true) rfl (congrArg Value.bool (rfl)) ?_
  refine XO.pu (Pu.move rfl) ?_
  refine XO.cR Try.call55 (there_ok (clLe h leA)) ?_
  refine XO.pu (Pu.not rfl) ?_
  refine XO.pu (Pu.pickT rfl rfl) ?_
  refine XO.pu (Pu.assign rfl) ?_
  refine XO.nil ?_
  refine X.sub (p' := [(4, _), (0, _), (1, _)]) ⟨rfl, rfl, rfl, trivial⟩ ?_
  refine X.retL (q) Try.func32 (res1 Try.results32 rfl) ⟨_, rfl, rfl, rfl⟩
set_option maxHeartbeats 1000000 in
theorem makes_ok (hrm : Sees q b (rooms.map I64)) : CallF Try.prog G 9 [.agg [.int .i64 mm, .int .i64 cc, .slice b rooms.length d].toArray] q (Ret fun v q' => v = .bool true ∧ ∃ A, q' = A) := by
  refine CallF.of Try.func9 Try.ntmps9 rfl (fun F cs => ?_)
  refine X.sub (p' := [(0, _)]) ⟨rfl, trivial⟩ ?_
  refine X.seq ?_
  refine X.region ?_
  refine XO.ef (Ef.box rfl) ?_
  rintro _ _ ⟨n1, rfl, rfl⟩
  refine XO.pu (Pu.assign rfl) ?_
  refine XO.nil ?_
  refine X.sub (p' := [(2, _), (1, _)]) ⟨rfl, rfl, trivial⟩ ?_
  refine X.seq ?_
  refine X.seq ?_
  refine X.region ?_
  refine XO.pu (Pu.fieldAddr 29 2 0 rfl Try.underlying48 rfl Try.sizeOf29) ?_
  refine XO.ld Try.isAgg29 ?_
  refine XO.pu (Pu.len rfl Try.underlying29) ?_
  refine XO.pu (Pu.gtr rfl rfl) ?_
  refine XO.nil ?_
  refine X.sub (p' := [(34, _), (2, _), (1, _)]) ⟨rfl, rfl, rfl, trivial⟩ ?_
  rcases Decidable.em (rooms.length ≤ 200) with hl | hl
  · skip
    refine X.know 34 (.bool false) rfl (congrArg Value.bool (by simp; omega)) ?_
    refine X.condF rfl ?_
    refine X.skip ?_
    refine X.seq ?_
    refine X.draw [] Try.mixed (by kernel_rfl) (by kernel_rfl) rfl ?_
    refine XD.pu 1 rfl (Pu.fieldAddr 29 2 0 rfl Try.underlying48 rfl Try.sizeOf29) ?_
    refine XD.ld 2 Try.isAgg29 ?_
    refine XD.pu 6 rfl (Pu.fieldAddr 29 2 0 rfl Try.underlying48 rfl Try.sizeOf29) ?_
    refine XD.ld 7 Try.isAgg29 ?_
    refine XD.pu 8 rfl (Pu.len rfl Try.underlying29) ?_
    refine XD.float (fl := [⟨0, 36, fun g => .slice (some ⟨g, 0, none⟩) 0 0, fun g => lsH I64 3 (some ⟨g, 0, none⟩) 0 []⟩, ⟨4, 40, fun g => .slice (some ⟨g, 0, none⟩) 1 1, fun g => lsH I64 3 (some ⟨g, 0, none⟩) 1 [77]⟩]) ?_
    refine XF.abs (e0 := ⟨0, 36, fun g => .slice (some ⟨g, 0, none⟩) 0 0, fun g => lsH I64 3 (some ⟨g, 0, none⟩) 0 []⟩) (hnd := by simp) 0 ⟨⟨_, rfl, rfl, rfl, rfl, rfl, rfl, fun q => Ef.lit0 I64 Try.underlying29 Try.info3⟩, ⟨_, rfl, rfl, rfl, rfl, rfl, rfl, fun q => Ef.lit1 (u := 77) I64 Try.underlying29 Try.info3 rfl rfl⟩, trivial⟩ (fun g5 => ?_)
    change XF _ _ _ _ _ _ _ [⟨4, 40, fun g => .slice (some ⟨g, 0, none⟩) 1 1, fun g => lsH I64 3 (some ⟨g, 0, none⟩) 1 [77]⟩] _ _ _ ((36, .slice (some ⟨g5, 0, none⟩) 0 0) :: _) _ _ (lsH I64 3 (some ⟨g5, 0, none⟩) 0 [] :: _)
    refine XF.ef 3 ⟨⟨_, rfl, rfl, rfl, rfl, rfl, rfl, fun q => Ef.lit1 (u := 77) I64 Try.underlying29 Try.info3 rfl rfl⟩, trivial⟩ (Ef.appE (fe := I64) (l := []) (m := rooms) Try.underlying29 Try.info3 rfl rfl rfl fndA (hrm.le leA) (fun _ => rfl) (by simp; omega) (by simp; omega)) ?_
    rintro _ _ ⟨a1, c1, rfl, rfl⟩
    refine ⟨hlA, ?_⟩
    refine XF.abs (e0 := ⟨4, 40, fun g => .slice (some ⟨g, 0, none⟩) 1 1, fun g => lsH I64 3 (some ⟨g, 0, none⟩) 1 [77]⟩) (hnd := by simp) 4 ⟨⟨_, rfl, rfl, rfl, rfl, rfl, rfl, fun q => Ef.lit1 (u := 77) I64 Try.underlying29 Try.info3 rfl rfl⟩, trivial⟩ (fun g6 => ?_)
    change XF _ _ _ _ _ _ _ [] _ _ _ ((40, .slice (some ⟨g6, 0, none⟩) 1 1) :: _) _ _ (lsH I64 3 (some ⟨g6, 0, none⟩) 1 [77] :: _)
    refine XF.back ?_
    rw [List.nil_append]
    refine XD.ef 5 rfl (Ef.appA (f := I64) (l := rooms) (m := [77]) Try.underlying29 Try.info3 rfl rfl rfl fndA ((Sees.lsH _).le leA) (fun _ => rfl) (by simp; omega) (by simp; omega)) ?_
    rintro _ _ ⟨a2, c2, rfl, rfl⟩
    refine ⟨hlA, ?_⟩
    refine XD.fact (fun w s0 => (s0.le (show Le _ (lsH I64 3 a2 c2 (rooms ++ [77]) :: _) from fndA)).lsLen) (fun hcap => ?_)
    simp only [List.length_append, List.length_singleton] at hcap
    have hsm : Sees (lsH I64 3 a2 c2 (rooms ++ [77]) :: []) a2 (rooms.map I64) := by have := (Sees.lsH (f := I64) (ty := 3) (a := a2) (c := c2) (l := rooms ++ [77]) []).take rooms.length; rwa [List.map_append, List.take_left' (by simp)] at this
    refine XD.pu 9 rfl (Pu.sliceHi rfl rfl Try.underlying29 Try.sizeOf3 (by omega) (by omega)) ?_
    refine XD.pu 10 rfl (Pu.assign rfl) ?_
    refine XD.nil ?_
    refine X.sub (p' := [(3, _), (2, _), (1, _)]) ⟨rfl, rfl, rfl, trivial⟩ ?_
    refine X.seq ?_
    refine X.region ?_
    refine XO.pu (Pu.fieldAddr 3 0 0 rfl Try.underlying48 rfl Try.sizeOf3) ?_
    refine XO.ld Try.isAgg3 ?_
    refine XO.pu (Pu.fieldAddr 3 1 0 rfl Try.underlying48 rfl Try.sizeOf3) ?_
    refine XO.ld Try.isAgg3 ?_
    refine XO.pu (Pu.move rfl) ?_
    refine XO.know 51 (.slice a2 rooms.length c2) rfl (by simp) ?_
    rcases Decidable.em (formOk mm cc rooms) with ok | ok
    · skip
      refine XO.cX Try.call12 (Le.refl _) (New_ok (hsm.le leA) ok) ?_
      rintro _ _ ⟨p, σ, hR0, rfl, rfl⟩
      refine XO.le (Le.syInQ p σ _) ?_
      refine XO.pu (Pu.move rfl) ?_
      refine XO.pu (Pu.extract rfl rfl) ?_
      refine XO.pu (Pu.extract rfl rfl) ?_
      refine XO.pu (Pu.assign rfl) ?_
      refine XO.pu (Pu.assign rfl) ?_
      refine XO.nil ?_
      refine X.sub (p' := [(5, _), (4, _), (3, _), (2, _), (1, _)]) ⟨rfl, rfl, rfl, rfl, rfl, trivial⟩ ?_
      refine X.seq ?_
      refine X.region ?_
      refine XO.pu (Pu.fieldAddr 3 0 0 rfl Try.underlying48 rfl Try.sizeOf3) ?_
      refine XO.ld Try.isAgg3 ?_
      refine XO.pu (Pu.fieldAddr 3 1 0 rfl Try.underlying48 rfl Try.sizeOf3) ?_
      refine XO.ld Try.isAgg3 ?_
      refine XO.pu (Pu.fieldAddr 29 2 0 rfl Try.underlying48 rfl Try.sizeOf29) ?_
      refine XO.ld Try.isAgg29 ?_
      refine XO.cX Try.call25 (Le.refl _) (RNew_ok (hrm.le leA) ok) ?_
      rintro _ _ ⟨r, h0, rfl, rfl⟩
      refine XO.pu (Pu.move rfl) ?_
      refine XO.pu (Pu.extract rfl rfl) ?_
      refine XO.pu (Pu.extract rfl rfl) ?_
      refine XO.ef (Ef.alloc Try.zeroValue53) ?_
      rintro _ _ ⟨n2, rfl, rfl⟩
      refine XO.ef0 (Ef.stA Try.sizeOf53) ?_
      rintro _ _ ⟨rfl, rfl⟩
      refine XO.pu (Pu.assign rfl) ?_
      refine XO.nil ?_
      refine X.sub (p' := [(7, _), (6, _), (5, _), (4, _), (3, _), (2, _), (1, _)]) ⟨rfl, rfl, rfl, rfl, rfl, rfl, rfl, trivial⟩ ?_
      refine X.seq ?_
      refine X.region ?_
      refine XO.pu (Pu.assign rfl) ?_
      refine XO.nil ?_
      refine X.sub (p' := [(8, _), (7, _), (6, _), (5, _), (4, _), (3, _), (2, _), (1, _)]) ⟨rfl, rfl, rfl, rfl, rfl, rfl, rfl, rfl, trivial⟩ ?_
      refine X.seq ?_
      refine X.region ?_
      refine XO.pu (Pu.move rfl) ?_
      refine XO.cR Try.call20 (Owner_nil) ?_
      refine XO.pu (Pu.move rfl) ?_
      refine XO.pu (Pu.extract rfl rfl) ?_
      refine XO.pu (Pu.extract rfl rfl) ?_
      refine XO.pu (Pu.assign rfl) ?_
      refine XO.pu (Pu.assign rfl) ?_
      refine XO.nil ?_
      refine X.sub (p' := [(10, _), (8, _), (7, _), (6, _), (5, _), (4, _), (3, _), (2, _), (1, _)]) ⟨rfl, rfl, rfl, rfl, rfl, rfl, rfl, rfl, rfl, trivial⟩ ?_
      refine X.seq ?_
      refine X.region ?_
      refine XO.pu (Pu.move rfl) ?_
      refine XO.cR Try.call13 (Lock_nil) ?_
      refine XO.pu (Pu.move rfl) ?_
      refine XO.pu (Pu.extract rfl rfl) ?_
      refine XO.pu (Pu.extract rfl rfl) ?_
      refine XO.pu (Pu.assign rfl) ?_
      refine XO.pu (Pu.assign rfl) ?_
      refine XO.nil ?_
      refine X.sub (p' := [(12, _), (10, _), (8, _), (7, _), (6, _), (5, _), (4, _), (3, _), (2, _), (1, _)]) ⟨rfl, rfl, rfl, rfl, rfl, rfl, rfl, rfl, rfl, rfl, trivial⟩ ?_
      refine X.seq ?_
      refine X.region ?_
      refine XO.pu (Pu.move rfl) ?_
      refine XO.cR Try.call21 (Waits_nil) ?_
      refine XO.pu (Pu.move rfl) ?_
      refine XO.pu (Pu.extract rfl rfl) ?_
      refine XO.pu (Pu.extract rfl rfl) ?_
      refine XO.pu (Pu.assign rfl) ?_
      refine XO.pu (Pu.assign rfl) ?_
      refine XO.nil ?_
      refine X.sub (p' := [(14, _), (12, _), (10, _), (8, _), (7, _), (6, _), (5, _), (4, _), (3, _), (2, _), (1, _)]) ⟨rfl, rfl, rfl, rfl, rfl, rfl, rfl, rfl, rfl, rfl, rfl, trivial⟩ ?_
      refine X.seq ?_
      refine X.region ?_
      refine XO.pu (Pu.move rfl) ?_
      refine XO.cR Try.call17 (Signal_nil) ?_
      refine XO.pu (Pu.move rfl) ?_
      refine XO.pu (Pu.extract rfl rfl) ?_
      refine XO.pu (Pu.extract rfl rfl) ?_
      refine XO.pu (Pu.extract rfl rfl) ?_
      refine XO.pu (Pu.assign rfl) ?_
      refine XO.pu (Pu.assign rfl) ?_
      refine XO.pu (Pu.assign rfl) ?_
      refine XO.nil ?_
      refine X.sub (p' := [(17, _), (14, _), (12, _), (10, _), (8, _), (7, _), (6, _), (5, _), (4, _), (3, _), (2, _), (1, _)]) ⟨rfl, rfl, rfl, rfl, rfl, rfl, rfl, rfl, rfl, rfl, rfl, rfl, trivial⟩ ?_
      refine X.seq ?_
      refine X.region ?_
      refine XO.pu (Pu.move rfl) ?_
      refine XO.cR Try.call30 (All_nil) ?_
      refine XO.pu (Pu.move rfl) ?_
      refine XO.pu (Pu.extract rfl rfl) ?_
      refine XO.pu (Pu.extract rfl rfl) ?_
      refine XO.pu (Pu.assign rfl) ?_
      refine XO.pu (Pu.assign rfl) ?_
      refine XO.nil ?_
      refine X.sub (p' := [(19, _), (17, _), (14, _), (12, _), (10, _), (8, _), (7, _), (6, _), (5, _), (4, _), (3, _), (2, _), (1, _)]) ⟨rfl, rfl, rfl, rfl, rfl, rfl, rfl, rfl, rfl, rfl, rfl, rfl, rfl, trivial⟩ ?_
      refine X.seq ?_
      refine X.region ?_
      refine XO.pu (Pu.move rfl) ?_
      refine XO.cR Try.call18 (Send_nil) ?_
      refine XO.pu (Pu.move rfl) ?_
      refine XO.pu (Pu.extract rfl rfl) ?_
      refine XO.pu (Pu.extract rfl rfl) ?_
      refine XO.pu (Pu.extract rfl rfl) ?_
      refine XO.pu (Pu.assign rfl) ?_
      refine XO.pu (Pu.assign rfl) ?_
      refine XO.pu (Pu.assign rfl) ?_
      refine XO.nil ?_
      refine X.sub (p' := [(22, _), (19, _), (17, _), (14, _), (12, _), (10, _), (8, _), (7, _), (6, _), (5, _), (4, _), (3, _), (2, _), (1, _)]) ⟨rfl, rfl, rfl, rfl, rfl, rfl, rfl, rfl, rfl, rfl, rfl, rfl, rfl, rfl, trivial⟩ ?_
      refine X.seq ?_
      refine X.region ?_
      refine XO.pu (Pu.move rfl) ?_
      refine XO.cR Try.call19 (Recv_nil) ?_
      refine XO.pu (Pu.move rfl) ?_
      refine XO.pu (Pu.extract rfl rfl) ?_
      refine XO.pu (Pu.extract rfl rfl) ?_
      refine XO.pu (Pu.extract rfl rfl) ?_
      refine XO.pu (Pu.extract rfl rfl) ?_
      refine XO.pu (Pu.assign rfl) ?_
      refine XO.pu (Pu.assign rfl) ?_
      refine XO.pu (Pu.assign rfl) ?_
      refine XO.pu (Pu.assign rfl) ?_
      refine XO.nil ?_
      refine X.sub (p' := [(26, _), (22, _), (19, _), (17, _), (14, _), (12, _), (10, _), (8, _), (7, _), (6, _), (5, _), (4, _), (3, _), (2, _), (1, _)]) ⟨rfl, rfl, rfl, rfl, rfl, rfl, rfl, rfl, rfl, rfl, rfl, rfl, rfl, rfl, rfl, trivial⟩ ?_
      refine X.seq ?_
      refine X.region ?_
      refine XO.pu (Pu.move rfl) ?_
      refine XO.cR Try.call28 (Values_nil) ?_
      refine XO.pu (Pu.move rfl) ?_
      refine XO.pu (Pu.extract rfl rfl) ?_
      refine XO.pu (Pu.extract rfl rfl) ?_
      refine XO.pu (Pu.assign rfl) ?_
      refine XO.pu (Pu.assign rfl) ?_
      refine XO.nil ?_
      refine X.sub (p' := [(28, _), (26, _), (22, _), (19, _), (17, _), (14, _), (12, _), (10, _), (8, _), (7, _), (6, _), (5, _), (4, _), (3, _), (2, _), (1, _)]) ⟨rfl, rfl, rfl, rfl, rfl, rfl, rfl, rfl, rfl, rfl, rfl, rfl, rfl, rfl, rfl, rfl, trivial⟩ ?_
      refine X.seq ?_
      refine X.region ?_
      refine XO.pu (Pu.move rfl) ?_
      refine XO.cR Try.call29 (Room_nil) ?_
      refine XO.pu (Pu.move rfl) ?_
      refine XO.pu (Pu.extract rfl rfl) ?_
      refine XO.pu (Pu.extract rfl rfl) ?_
      refine XO.pu (Pu.assign rfl) ?_
      refine XO.pu (Pu.assign rfl) ?_
      refine XO.nil ?_
      refine X.sub (p' := [(30, _), (28, _), (26, _), (22, _), (19, _), (17, _), (14, _), (12, _), (10, _), (8, _), (7, _), (6, _), (5, _), (4, _), (3, _), (2, _), (1, _)]) ⟨rfl, rfl, rfl, rfl, rfl, rfl, rfl, rfl, rfl, rfl, rfl, rfl, rfl, rfl, rfl, rfl, rfl, trivial⟩ ?_
      refine X.seq ?_
      refine X.seq ?_
      refine X.region ?_
      refine XO.pu (Pu.move rfl) ?_
      refine XO.cR Try.call14 (lnum_ok) ?_
      refine XO.pu (Pu.move rfl) ?_
      refine XO.cR Try.call14 (lnum_ok) ?_
      refine XO.pu (Pu.add rfl rfl (by omega) (by omega)) ?_
      refine XO.pu (Pu.move rfl) ?_
      refine XO.cR Try.call14 (lnum_ok) ?_
      refine XO.pu (Pu.add rfl rfl (by omega) (by omega)) ?_
      refine XO.pu (Pu.move rfl) ?_
      refine XO.cR Try.call14 (lnum_ok) ?_
      refine XO.pu (Pu.add rfl rfl (by omega) (by omega)) ?_
      refine XO.pu (Pu.move rfl) ?_
      refine XO.cR Try.call14 (lnum_ok) ?_
      refine XO.pu (Pu.add rfl rfl (by omega) (by omega)) ?_
      refine XO.pu (Pu.move rfl) ?_
      refine XO.cR Try.call14 (lnum_ok) ?_
      refine XO.pu (Pu.add rfl rfl (by omega) (by omega)) ?_
      refine XO.pu (Pu.move rfl) ?_
      refine XO.cR Try.call14 (lnum_ok) ?_
      refine XO.pu (Pu.add rfl rfl (by omega) (by omega)) ?_
      refine XO.pu (Pu.move rfl) ?_
      refine XO.cR Try.call14 (lnum_ok) ?_
      refine XO.pu (Pu.add rfl rfl (by omega) (by omega)) ?_
      refine XO.pu (Pu.move rfl) ?_
      refine XO.cR Try.call14 (lnum_ok) ?_
      refine XO.pu (Pu.add rfl rfl (by omega) (by omega)) ?_
      refine XO.pu (Pu.neq rfl rfl) ?_
      refine XO.pu (Pu.move rfl) ?_
      refine XO.know 141 (.bool false) rfl (congrArg Value.bool ((by first | rfl | (simp; done) | (simp; omega) | decide))) ?_
      refine XO.pu (Pu.move rfl) ?_
      refine XO.cR Try.call15 (Unlock_nil) ?_
      refine XO.cR Try.call14 (lnum_ok) ?_
      refine XO.pu (Pu.neq rfl rfl) ?_
      refine XO.pu (Pu.pickF rfl rfl) ?_
      refine XO.pu (Pu.move rfl) ?_
      refine XO.know 147 (.bool false) rfl (congrArg Value.bool ((by first | rfl | (simp; done) | (simp; omega) | decide))) ?_
      refine XO.pu (Pu.move rfl) ?_
      refine XO.cR Try.call16 (Wait_nil) ?_
      refine XO.cR Try.call14 (lnum_ok) ?_
      refine XO.pu (Pu.neq rfl rfl) ?_
      refine XO.pu (Pu.pickF rfl rfl) ?_
      refine XO.pu (Pu.move rfl) ?_
      refine XO.know 153 (.bool false) rfl (congrArg Value.bool ((by first | rfl | (simp; done) | (simp; omega) | decide))) ?_
      refine XO.pu (Pu.move rfl) ?_
      refine XO.cR Try.call31 (Copy_nil) ?_
      refine XO.pu (Pu.neqNil rfl Try.underlying24) ?_
      refine XO.pu (Pu.pickF rfl rfl) ?_
      refine XO.pu (Pu.move rfl) ?_
      refine XO.know 158 (.bool false) rfl (congrArg Value.bool ((by first | rfl | (simp; done) | (simp; omega) | decide))) ?_
      refine XO.pu (Pu.move rfl) ?_
      refine XO.cR Try.call32 (Same_nn) ?_
      refine XO.pu (Pu.not rfl) ?_
      refine XO.pu (Pu.pickF rfl rfl) ?_
      refine XO.pu (Pu.move rfl) ?_
      refine XO.know 163 (.bool false) rfl (congrArg Value.bool ((by first | rfl | (simp; done) | (simp; omega) | decide))) ?_
      refine XO.pu (Pu.move rfl) ?_
      refine XO.pu (Pu.fieldAddr 29 2 0 rfl Try.underlying48 rfl Try.sizeOf29) ?_
      refine XO.ld Try.isAgg29 ?_
      refine XO.cR Try.call22 (LInts_ok (l := rooms) (m := rooms) (hsm.le leA) (hrm.le leA) (by omega)) ?_
      refine XO.pu (Pu.not rfl) ?_
      refine XO.pu (Pu.pickF rfl rfl) ?_
      refine XO.nil ?_
      refine X.sub (p' := [(169, _), (8, _), (7, _), (6, _), (5, _), (4, _), (2, _)]) ⟨rfl, rfl, rfl, rfl, rfl, rfl, rfl, trivial⟩ ?_
      refine X.know 169 (.bool false) rfl (congrArg Value.bool ((by first | rfl | (simp; done) | (simp; omega) | decide))) ?_
      refine X.condF rfl ?_
      refine X.skip ?_
      refine X.seq ?_
      refine X.seq ?_
      refine X.region ?_
      refine XO.pu (Pu.move rfl) ?_
      refine XO.pu (Pu.neq rfl rfl) ?_
      refine XO.nil ?_
      refine X.sub (p' := [(171, _), (8, _), (7, _), (6, _), (5, _), (4, _), (2, _)]) ⟨rfl, rfl, rfl, rfl, rfl, rfl, rfl, trivial⟩ ?_
      refine X.know 171 (.bool false) rfl (congrArg Value.bool ((by first | rfl | (simp; done) | (simp; omega) | decide))) ?_
      refine X.condF rfl ?_
      refine X.skip ?_
      refine X.seq ?_
      refine X.region ?_
      refine XO.pu (Pu.move rfl) ?_
      refine XO.cR Try.call14 (lnum_ok) ?_
      refine XO.pu (Pu.eql rfl rfl) ?_
      refine XO.pu (Pu.move rfl) ?_
      refine XO.know 186 (.bool true) rfl (congrArg Value.bool ((by first | rfl | (simp; done) | (simp; omega) | decide))) ?_
      refine XO.pu (Pu.move rfl) ?_
      refine XO.ldA Try.isAgg53 Try.sizeOf53 ?_
      refine XO.cF Try.call27 (is_ok h0 hR0 (newS_ok (by rw [Int.toNat_of_nonneg ok.1.1, Int.toNat_of_nonneg ok.2.1.1]; exact ok)) (by omega)) ?_
      rintro _ _ ⟨rfl, rfl⟩ _ e_; simp only [ca, na] at e_; subst e_
      refine XO.pu (Pu.pickT rfl rfl) ?_
      refine XO.pu (Pu.move rfl) ?_
      refine XO.know 191 (.bool true) rfl (congrArg Value.bool ((by first | rfl | (simp; done) | (simp; omega) | decide))) ?_
      refine XO.pu (Pu.move rfl) ?_
      refine XO.pu (Pu.move rfl) ?_
      refine XO.cR Try.call32 (Same_pn (p := p) (syCl leA)) ?_
      refine XO.pu (Pu.not rfl) ?_
      refine XO.pu (Pu.pickT rfl rfl) ?_
      refine XO.pu (Pu.move rfl) ?_
      refine XO.know 197 (.bool true) rfl (congrArg Value.bool ((by first | rfl | (simp; done) | (simp; omega) | decide))) ?_
      refine XO.pu (Pu.move rfl) ?_
      refine XO.pu (Pu.move rfl) ?_
      refine XO.cR Try.call32 (Same_np (p := p) (syCl leA)) ?_
      refine XO.pu (Pu.not rfl) ?_
      refine XO.pu (Pu.pickT rfl rfl) ?_
      refine XO.pu (Pu.move rfl) ?_
      refine XO.know 203 (.bool true) rfl (congrArg Value.bool ((by first | rfl | (simp; done) | (simp; omega) | decide))) ?_
      refine XO.cR Try.call11 (works_ok) ?_
      refine XO.pu (Pu.pickT rfl rfl) ?_
      refine XO.pu (Pu.assign rfl) ?_
      refine XO.nil ?_
      refine X.sub (p' := [(2, _)]) ⟨rfl, trivial⟩ ?_
      refine X.retL (q) Try.func9 (res1 Try.results9 rfl) ⟨_, rfl, rfl, _, rfl⟩
    · skip
      refine XO.cR Try.call12 (New_no (hsm.le leA) ok) ?_
      refine XO.pu (Pu.move rfl) ?_
      refine XO.pu (Pu.extract rfl rfl) ?_
      refine XO.pu (Pu.extract rfl rfl) ?_
      refine XO.pu (Pu.assign rfl) ?_
      refine XO.pu (Pu.assign rfl) ?_
      refine XO.nil ?_
      refine X.sub (p' := [(5, _), (4, _), (3, _), (2, _), (1, _)]) ⟨rfl, rfl, rfl, rfl, rfl, trivial⟩ ?_
      refine X.seq ?_
      refine X.region ?_
      refine XO.pu (Pu.fieldAddr 3 0 0 rfl Try.underlying48 rfl Try.sizeOf3) ?_
      refine XO.ld Try.isAgg3 ?_
      refine XO.pu (Pu.fieldAddr 3 1 0 rfl Try.underlying48 rfl Try.sizeOf3) ?_
      refine XO.ld Try.isAgg3 ?_
      refine XO.pu (Pu.fieldAddr 29 2 0 rfl Try.underlying48 rfl Try.sizeOf29) ?_
      refine XO.ld Try.isAgg29 ?_
      refine XO.cR Try.call25 (RNew_no (hrm.le leA) ok) ?_
      refine XO.pu (Pu.move rfl) ?_
      refine XO.pu (Pu.extract rfl rfl) ?_
      refine XO.pu (Pu.extract rfl rfl) ?_
      refine XO.ef (Ef.alloc Try.zeroValue53) ?_
      rintro _ _ ⟨n3, rfl, rfl⟩
      refine XO.ef0 (Ef.stA Try.sizeOf53) ?_
      rintro _ _ ⟨rfl, rfl⟩
      refine XO.pu (Pu.assign rfl) ?_
      refine XO.nil ?_
      refine X.sub (p' := [(7, _), (6, _), (5, _), (4, _), (3, _), (2, _), (1, _)]) ⟨rfl, rfl, rfl, rfl, rfl, rfl, rfl, trivial⟩ ?_
      refine X.seq ?_
      refine X.region ?_
      refine XO.pu (Pu.assign rfl) ?_
      refine XO.nil ?_
      refine X.sub (p' := [(8, _), (7, _), (6, _), (5, _), (4, _), (3, _), (2, _), (1, _)]) ⟨rfl, rfl, rfl, rfl, rfl, rfl, rfl, rfl, trivial⟩ ?_
      refine X.seq ?_
      refine X.region ?_
      refine XO.pu (Pu.move rfl) ?_
      refine XO.cR Try.call20 (Owner_nil) ?_
      refine XO.pu (Pu.move rfl) ?_
      refine XO.pu (Pu.extract rfl rfl) ?_
      refine XO.pu (Pu.extract rfl rfl) ?_
      refine XO.pu (Pu.assign rfl) ?_
      refine XO.pu (Pu.assign rfl) ?_
      refine XO.nil ?_
      refine X.sub (p' := [(10, _), (8, _), (7, _), (6, _), (5, _), (4, _), (3, _), (2, _), (1, _)]) ⟨rfl, rfl, rfl, rfl, rfl, rfl, rfl, rfl, rfl, trivial⟩ ?_
      refine X.seq ?_
      refine X.region ?_
      refine XO.pu (Pu.move rfl) ?_
      refine XO.cR Try.call13 (Lock_nil) ?_
      refine XO.pu (Pu.move rfl) ?_
      refine XO.pu (Pu.extract rfl rfl) ?_
      refine XO.pu (Pu.extract rfl rfl) ?_
      refine XO.pu (Pu.assign rfl) ?_
      refine XO.pu (Pu.assign rfl) ?_
      refine XO.nil ?_
      refine X.sub (p' := [(12, _), (10, _), (8, _), (7, _), (6, _), (5, _), (4, _), (3, _), (2, _), (1, _)]) ⟨rfl, rfl, rfl, rfl, rfl, rfl, rfl, rfl, rfl, rfl, trivial⟩ ?_
      refine X.seq ?_
      refine X.region ?_
      refine XO.pu (Pu.move rfl) ?_
      refine XO.cR Try.call21 (Waits_nil) ?_
      refine XO.pu (Pu.move rfl) ?_
      refine XO.pu (Pu.extract rfl rfl) ?_
      refine XO.pu (Pu.extract rfl rfl) ?_
      refine XO.pu (Pu.assign rfl) ?_
      refine XO.pu (Pu.assign rfl) ?_
      refine XO.nil ?_
      refine X.sub (p' := [(14, _), (12, _), (10, _), (8, _), (7, _), (6, _), (5, _), (4, _), (3, _), (2, _), (1, _)]) ⟨rfl, rfl, rfl, rfl, rfl, rfl, rfl, rfl, rfl, rfl, rfl, trivial⟩ ?_
      refine X.seq ?_
      refine X.region ?_
      refine XO.pu (Pu.move rfl) ?_
      refine XO.cR Try.call17 (Signal_nil) ?_
      refine XO.pu (Pu.move rfl) ?_
      refine XO.pu (Pu.extract rfl rfl) ?_
      refine XO.pu (Pu.extract rfl rfl) ?_
      refine XO.pu (Pu.extract rfl rfl) ?_
      refine XO.pu (Pu.assign rfl) ?_
      refine XO.pu (Pu.assign rfl) ?_
      refine XO.pu (Pu.assign rfl) ?_
      refine XO.nil ?_
      refine X.sub (p' := [(17, _), (14, _), (12, _), (10, _), (8, _), (7, _), (6, _), (5, _), (4, _), (3, _), (2, _), (1, _)]) ⟨rfl, rfl, rfl, rfl, rfl, rfl, rfl, rfl, rfl, rfl, rfl, rfl, trivial⟩ ?_
      refine X.seq ?_
      refine X.region ?_
      refine XO.pu (Pu.move rfl) ?_
      refine XO.cR Try.call30 (All_nil) ?_
      refine XO.pu (Pu.move rfl) ?_
      refine XO.pu (Pu.extract rfl rfl) ?_
      refine XO.pu (Pu.extract rfl rfl) ?_
      refine XO.pu (Pu.assign rfl) ?_
      refine XO.pu (Pu.assign rfl) ?_
      refine XO.nil ?_
      refine X.sub (p' := [(19, _), (17, _), (14, _), (12, _), (10, _), (8, _), (7, _), (6, _), (5, _), (4, _), (3, _), (2, _), (1, _)]) ⟨rfl, rfl, rfl, rfl, rfl, rfl, rfl, rfl, rfl, rfl, rfl, rfl, rfl, trivial⟩ ?_
      refine X.seq ?_
      refine X.region ?_
      refine XO.pu (Pu.move rfl) ?_
      refine XO.cR Try.call18 (Send_nil) ?_
      refine XO.pu (Pu.move rfl) ?_
      refine XO.pu (Pu.extract rfl rfl) ?_
      refine XO.pu (Pu.extract rfl rfl) ?_
      refine XO.pu (Pu.extract rfl rfl) ?_
      refine XO.pu (Pu.assign rfl) ?_
      refine XO.pu (Pu.assign rfl) ?_
      refine XO.pu (Pu.assign rfl) ?_
      refine XO.nil ?_
      refine X.sub (p' := [(22, _), (19, _), (17, _), (14, _), (12, _), (10, _), (8, _), (7, _), (6, _), (5, _), (4, _), (3, _), (2, _), (1, _)]) ⟨rfl, rfl, rfl, rfl, rfl, rfl, rfl, rfl, rfl, rfl, rfl, rfl, rfl, rfl, trivial⟩ ?_
      refine X.seq ?_
      refine X.region ?_
      refine XO.pu (Pu.move rfl) ?_
      refine XO.cR Try.call19 (Recv_nil) ?_
      refine XO.pu (Pu.move rfl) ?_
      refine XO.pu (Pu.extract rfl rfl) ?_
      refine XO.pu (Pu.extract rfl rfl) ?_
      refine XO.pu (Pu.extract rfl rfl) ?_
      refine XO.pu (Pu.extract rfl rfl) ?_
      refine XO.pu (Pu.assign rfl) ?_
      refine XO.pu (Pu.assign rfl) ?_
      refine XO.pu (Pu.assign rfl) ?_
      refine XO.pu (Pu.assign rfl) ?_
      refine XO.nil ?_
      refine X.sub (p' := [(26, _), (22, _), (19, _), (17, _), (14, _), (12, _), (10, _), (8, _), (7, _), (6, _), (5, _), (4, _), (3, _), (2, _), (1, _)]) ⟨rfl, rfl, rfl, rfl, rfl, rfl, rfl, rfl, rfl, rfl, rfl, rfl, rfl, rfl, rfl, trivial⟩ ?_
      refine X.seq ?_
      refine X.region ?_
      refine XO.pu (Pu.move rfl) ?_
      refine XO.cR Try.call28 (Values_nil) ?_
      refine XO.pu (Pu.move rfl) ?_
      refine XO.pu (Pu.extract rfl rfl) ?_
      refine XO.pu (Pu.extract rfl rfl) ?_
      refine XO.pu (Pu.assign rfl) ?_
      refine XO.pu (Pu.assign rfl) ?_
      refine XO.nil ?_
      refine X.sub (p' := [(28, _), (26, _), (22, _), (19, _), (17, _), (14, _), (12, _), (10, _), (8, _), (7, _), (6, _), (5, _), (4, _), (3, _), (2, _), (1, _)]) ⟨rfl, rfl, rfl, rfl, rfl, rfl, rfl, rfl, rfl, rfl, rfl, rfl, rfl, rfl, rfl, rfl, trivial⟩ ?_
      refine X.seq ?_
      refine X.region ?_
      refine XO.pu (Pu.move rfl) ?_
      refine XO.cR Try.call29 (Room_nil) ?_
      refine XO.pu (Pu.move rfl) ?_
      refine XO.pu (Pu.extract rfl rfl) ?_
      refine XO.pu (Pu.extract rfl rfl) ?_
      refine XO.pu (Pu.assign rfl) ?_
      refine XO.pu (Pu.assign rfl) ?_
      refine XO.nil ?_
      refine X.sub (p' := [(30, _), (28, _), (26, _), (22, _), (19, _), (17, _), (14, _), (12, _), (10, _), (8, _), (7, _), (6, _), (5, _), (4, _), (3, _), (2, _), (1, _)]) ⟨rfl, rfl, rfl, rfl, rfl, rfl, rfl, rfl, rfl, rfl, rfl, rfl, rfl, rfl, rfl, rfl, rfl, trivial⟩ ?_
      refine X.seq ?_
      refine X.seq ?_
      refine X.region ?_
      refine XO.pu (Pu.move rfl) ?_
      refine XO.cR Try.call14 (lnum_ok) ?_
      refine XO.pu (Pu.move rfl) ?_
      refine XO.cR Try.call14 (lnum_ok) ?_
      refine XO.pu (Pu.add rfl rfl (by omega) (by omega)) ?_
      refine XO.pu (Pu.move rfl) ?_
      refine XO.cR Try.call14 (lnum_ok) ?_
      refine XO.pu (Pu.add rfl rfl (by omega) (by omega)) ?_
      refine XO.pu (Pu.move rfl) ?_
      refine XO.cR Try.call14 (lnum_ok) ?_
      refine XO.pu (Pu.add rfl rfl (by omega) (by omega)) ?_
      refine XO.pu (Pu.move rfl) ?_
      refine XO.cR Try.call14 (lnum_ok) ?_
      refine XO.pu (Pu.add rfl rfl (by omega) (by omega)) ?_
      refine XO.pu (Pu.move rfl) ?_
      refine XO.cR Try.call14 (lnum_ok) ?_
      refine XO.pu (Pu.add rfl rfl (by omega) (by omega)) ?_
      refine XO.pu (Pu.move rfl) ?_
      refine XO.cR Try.call14 (lnum_ok) ?_
      refine XO.pu (Pu.add rfl rfl (by omega) (by omega)) ?_
      refine XO.pu (Pu.move rfl) ?_
      refine XO.cR Try.call14 (lnum_ok) ?_
      refine XO.pu (Pu.add rfl rfl (by omega) (by omega)) ?_
      refine XO.pu (Pu.move rfl) ?_
      refine XO.cR Try.call14 (lnum_ok) ?_
      refine XO.pu (Pu.add rfl rfl (by omega) (by omega)) ?_
      refine XO.pu (Pu.neq rfl rfl) ?_
      refine XO.pu (Pu.move rfl) ?_
      refine XO.know 141 (.bool false) rfl (congrArg Value.bool ((by first | rfl | (simp; done) | (simp; omega) | decide))) ?_
      refine XO.pu (Pu.move rfl) ?_
      refine XO.cR Try.call15 (Unlock_nil) ?_
      refine XO.cR Try.call14 (lnum_ok) ?_
      refine XO.pu (Pu.neq rfl rfl) ?_
      refine XO.pu (Pu.pickF rfl rfl) ?_
      refine XO.pu (Pu.move rfl) ?_
      refine XO.know 147 (.bool false) rfl (congrArg Value.bool ((by first | rfl | (simp; done) | (simp; omega) | decide))) ?_
      refine XO.pu (Pu.move rfl) ?_
      refine XO.cR Try.call16 (Wait_nil) ?_
      refine XO.cR Try.call14 (lnum_ok) ?_
      refine XO.pu (Pu.neq rfl rfl) ?_
      refine XO.pu (Pu.pickF rfl rfl) ?_
      refine XO.pu (Pu.move rfl) ?_
      refine XO.know 153 (.bool false) rfl (congrArg Value.bool ((by first | rfl | (simp; done) | (simp; omega) | decide))) ?_
      refine XO.pu (Pu.move rfl) ?_
      refine XO.cR Try.call31 (Copy_nil) ?_
      refine XO.pu (Pu.neqNil rfl Try.underlying24) ?_
      refine XO.pu (Pu.pickF rfl rfl) ?_
      refine XO.pu (Pu.move rfl) ?_
      refine XO.know 158 (.bool false) rfl (congrArg Value.bool ((by first | rfl | (simp; done) | (simp; omega) | decide))) ?_
      refine XO.pu (Pu.move rfl) ?_
      refine XO.cR Try.call32 (Same_nn) ?_
      refine XO.pu (Pu.not rfl) ?_
      refine XO.pu (Pu.pickF rfl rfl) ?_
      refine XO.pu (Pu.move rfl) ?_
      refine XO.know 163 (.bool false) rfl (congrArg Value.bool ((by first | rfl | (simp; done) | (simp; omega) | decide))) ?_
      refine XO.pu (Pu.move rfl) ?_
      refine XO.pu (Pu.fieldAddr 29 2 0 rfl Try.underlying48 rfl Try.sizeOf29) ?_
      refine XO.ld Try.isAgg29 ?_
      refine XO.cR Try.call22 (LInts_ok (l := rooms) (m := rooms) (hsm.le leA) (hrm.le leA) (by omega)) ?_
      refine XO.pu (Pu.not rfl) ?_
      refine XO.pu (Pu.pickF rfl rfl) ?_
      refine XO.nil ?_
      refine X.sub (p' := [(169, _), (8, _), (7, _), (6, _), (5, _), (4, _), (2, _)]) ⟨rfl, rfl, rfl, rfl, rfl, rfl, rfl, trivial⟩ ?_
      refine X.know 169 (.bool false) rfl (congrArg Value.bool ((by first | rfl | (simp; done) | (simp; omega) | decide))) ?_
      refine X.condF rfl ?_
      refine X.skip ?_
      refine X.seq ?_
      refine X.seq ?_
      refine X.region ?_
      refine XO.pu (Pu.move rfl) ?_
      refine XO.pu (Pu.neq rfl rfl) ?_
      refine XO.nil ?_
      refine X.sub (p' := [(171, _), (8, _), (7, _), (6, _), (5, _), (4, _), (2, _)]) ⟨rfl, rfl, rfl, rfl, rfl, rfl, rfl, trivial⟩ ?_
      refine X.know 171 (.bool true) rfl (congrArg Value.bool ((by first | rfl | (simp; done) | (simp; omega) | decide))) ?_
      refine X.condT rfl ?_
      refine X.seq ?_
      refine X.region ?_
      refine XO.pu (Pu.move rfl) ?_
      refine XO.pu (Pu.eqlNil rfl Try.underlying24) ?_
      refine XO.pu (Pu.move rfl) ?_
      refine XO.know 174 (.bool true) rfl (congrArg Value.bool ((by first | rfl | (simp; done) | (simp; omega) | decide))) ?_
      refine XO.pu (Pu.move rfl) ?_
      refine XO.cR Try.call14 (lnum_ok) ?_
      refine XO.pu (Pu.move rfl) ?_
      refine XO.pu (Pu.eql rfl rfl) ?_
      refine XO.pu (Pu.pickT rfl rfl) ?_
      refine XO.pu (Pu.move rfl) ?_
      refine XO.know 180 (.bool true) rfl (congrArg Value.bool ((by first | rfl | (simp; done) | (simp; omega) | decide))) ?_
      refine XO.cR Try.call11 (works_ok) ?_
      refine XO.pu (Pu.pickT rfl rfl) ?_
      refine XO.pu (Pu.assign rfl) ?_
      refine XO.nil ?_
      refine X.sub (p' := [(2, _), (8, _), (6, _), (5, _), (4, _)]) ⟨rfl, rfl, rfl, rfl, rfl, trivial⟩ ?_
      refine X.retL (q) Try.func9 (res1 Try.results9 rfl) ⟨_, rfl, rfl, _, rfl⟩
  · skip
    refine X.know 34 (.bool true) rfl (congrArg Value.bool (by simp; omega)) ?_
    refine X.condT rfl ?_
    refine X.seq ?_
    refine X.region ?_
    refine XO.cR Try.call11 (works_ok) ?_
    refine XO.pu (Pu.assign rfl) ?_
    refine XO.nil ?_
    refine X.sub (p' := [(2, _), (1, _)]) ⟨rfl, rfl, trivial⟩ ?_
    refine X.retL (q) Try.func9 (res1 Try.results9 rfl) ⟨_, rfl, rfl, _, rfl⟩
end
end Go.Proofs.Ytlgnnhpbomfdiaa

