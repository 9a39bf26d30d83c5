/- What functions of package tape, of its references and of its laws do: contracts of calls, proved by walking their code. -/
import Derived.Test.YtjkkefgkhafmfaaB
import Derived.Test.YtjkkefgkhafmfaaWx25
import Derived.KernelRfl
set_option maxRecDepth 100000
set_option linter.unusedVariables false
set_option linter.unusedSimpArgs false
namespace Go.Proofs.Ytjkkefgkhafmfaa
open Go Go.RowKit Wx
attribute [local irreducible] Wx.lsH Wx.rsH Wx.lsM Wx.rsM Wx.stars

theorem Try.info79 : (Try.prog.info? 79).map (fun i => (i.zero, i.size, i.bytes)) = some (some (.agg #[.int .i64 0]), 1, 8) := by kernel_rfl
theorem Try.info33 : (Try.prog.info? 33).map (fun i => (i.zero, i.size, i.bytes)) = some (some (.int .i64 0), 1, 8) := by kernel_rfl
/-- What is thrown: refused, with its error. -/
def refE (e : Int) : PanicEntry := { v := .iface 79 (.agg [.int .i64 e].toArray), recovered := false }
section
variable {G : World} {q : List HP} {n2 : Nat} {x e : Int} {fv : Value} {pre : List HP} {R : List HP → Prop} {Rp : Int → List HP → Prop}
theorem need_ok  : CallF Try.prog G 21 [.bool true, .int .i64 e] [] (Ret fun v q' => q' = []) := by
  refine CallF.of Try.func21 Try.ntmps21 rfl (fun F cs => ?_)
  refine xx 7 ?_
  refine X.fallL [] Try.func21 (res0 Try.results21) ⟨_, rfl, rfl⟩
theorem need_if {b : Bool} : CallF Try.prog G 21 [.bool b, .int .i64 e] (q) (RP (fun _ q' => b = true ∧ q' = q) (fun ch q' => b = false ∧ ch = [refE e] ∧ q' = q)) := by
  refine CallF.of Try.func21 Try.ntmps21 rfl (fun F cs => ?_)
  refine xo 3 ?_
  refine XO.pu (Pu.not rfl) ?_
  refine ox 1 ?_
  refine X.part 5 rfl (fun h0 => ?_) (fun h0 => ?_)
  · skip
    refine xo 5 ?_
    exact XO.pn (Pn.panic rfl) (FQ.panic Try.func21 (RP.thr ⟨by simpa using h0, rfl, rfl⟩))
  · skip
    refine xx 2 ?_
    refine X.fallL (q) Try.func21 (res0 Try.results21) (RP.ret ⟨by simpa using h0, rfl⟩)
theorem try1_quiet : Quiet Try.prog G 41 [.pointer (some ⟨n2, 0, none⟩)] := by
  refine Quiet.of Try.func41 Try.ntmps41 rfl (fun F c₀ cs₀ hr => ?_)
  refine xo 2 ?_
  refine XO.rcv hr ?_
  refine oo 5 ?_
  refine XO.pu (Pu.neqINil rfl Try.underlying20) ?_
  refine ox 1 ?_
  refine X.know 6 (.bool false) rfl rfl ?_
  refine xx 2 ?_
  exact X.fall ⟨rfl, rfl, .inl rfl, ⟨_, res0 Try.results41⟩, leA⟩
theorem try1_catches : Catches Try.prog G 41 [.pointer (some ⟨n2, 0, none⟩)] (refE e) [pto n2 (.cells [.int .i64 x].toArray 33 (0, 0))] [pto n2 (.cells [.int .i64 e].toArray 33 (0, 0))] := by
  refine Catches.of Try.func41 Try.ntmps41 rfl rfl (fun F c₀ cs₀ hr => ?_)
  refine xo 2 ?_
  refine XO.rcv hr ?_
  refine oo 5 ?_
  refine XO.pu (Pu.neqIVal rfl Try.underlying20) ?_
  refine ox 1 ?_
  refine X.know 6 (.bool true) rfl rfl ?_
  refine xo 4 ?_
  refine XO.pu (Pu.assertT rfl Try.underlying79 rfl) ?_
  refine oo 3 ?_
  refine XO.ef (Ef.alloc Try.zeroValue79) ?_
  rintro _ _ ⟨n11, rfl, rfl⟩
  refine XO.ef0 (Ef.stA Try.sizeOf79) ?_
  rintro _ _ ⟨rfl, rfl⟩
  refine oo 6 ?_
  refine XO.pu (Pu.not rfl) ?_
  refine ox 1 ?_
  refine X.know 13 (.bool false) rfl rfl ?_
  refine xo 4 ?_
  refine XO.ld Try.isAgg33 ?_
  refine XO.ef0 (Ef.st Try.sizeOf33) ?_
  rintro _ _ ⟨rfl, rfl⟩
  refine ox 1 ?_
  exact X.fall ⟨rfl, rfl, .inl rfl, ⟨_, res0 Try.results41⟩, leA⟩
theorem try_ok (hc : CallV Try.prog G fv [] pre (RP (fun _ q' => R q') (fun ch q' => ∃ e, ch = [refE e] ∧ Rp e q'))) : CallF Try.prog G 19 [fv] (pre) (Ret fun v q' => (v = .int .i64 0 ∧ R q') ∨ ∃ e, v = .int .i64 e ∧ Rp e q') := by
  refine CallF.of Try.func19 Try.ntmps19 rfl (fun F cs => ?_)
  refine xo 2 ?_
  refine XO.ef (Ef.alloc Try.zeroValue33) ?_
  rintro _ _ ⟨n1, rfl, rfl⟩
  refine oo 4 ?_
  refine XO.dfr ?_
  refine oo 4 ?_
  refine XO.cVP (F := pto n1 (.cells [.int .i64 0].toArray 33 (0, 0)) :: F) hc (Le.mid _ _ _) ?_ ?_
  · rintro _ q' ⟨e, rfl, hr⟩
    exact ⟨rfl, Lv.catches Try.call41 Try.func19 (try1_catches (n2 := n1) (x := 0) (e := e)) (F₀ := q' ++ F) (Le.unmid _ _ _) rfl (Lv.ret (q' := q') Try.func19 (resC1 Try.results19 (ResOk.cell rfl (LV.cell Try.isAgg33 clA) ResOk.nil)) ⟨_, rfl, .inr ⟨e, rfl, hr⟩⟩ leA)⟩
  rintro _ q' hr
  refine XO.le (Le.unmid _ _ _) ?_
  refine oo 3 ?_
  refine XO.ef0 (Ef.st Try.sizeOf33) ?_
  rintro _ _ ⟨rfl, rfl⟩
  refine ox 1 ?_
  exact X.ret ⟨rfl, Lv.quiet Try.call41 Try.func19 (try1_quiet (n2 := n1)) (Lv.ret (q' := q') Try.func19 (resC1 Try.results19 (ResOk.cell rfl (LV.cell Try.isAgg33 clA) ResOk.nil)) ⟨_, rfl, .inl ⟨rfl, hr⟩⟩ leA)⟩
end
end Go.Proofs.Ytjkkefgkhafmfaa

