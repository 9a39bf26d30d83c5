/- What functions of package sync, of its references and of its laws do: contracts of calls, proved by walking their code. -/
import Derived.Test.YtlgnnhpbomfdiaaR
import Derived.Test.YtlgnnhpbomfdiaaWx20
import Derived.KernelRfl
set_option maxRecDepth 100000
set_option linter.unusedVariables false
set_option linter.unusedSimpArgs false
namespace Go.Proofs.Ytlgnnhpbomfdiaa
open Go Go.RowKit Wx
attribute [local irreducible] Wx.lsH Wx.rsH Wx.lsM Wx.rsM Wx.stars

/-! ### arguments -/
abbrev ActS : Sh := .cons (.int .i64) (.cons (.int .i64) (.cons (.int .i64) (.cons (.int .i64) .nil)))
abbrev FormS : Sh := .cons (.int .i64) (.cons (.int .i64) (.cons (.slice (.int .i64)) .nil))
def mkAct (x : Sh.T ActS) : ActT := (x.1, x.2.1, x.2.2.1, x.2.2.2.1)
theorem acts_sees {q : List HP} {x : SlV (Sh.T ActS)} (h : (Sh.slice ActS).okQ q x) : Sees q x.a ((x.l.map mkAct).flatMap acs) := by
  have e : (x.l.map mkAct).flatMap acs = x.l.flatMap (Sh.cells ActS) := by
    rw [List.flatMap_map]
    congr 1
  rw [e]; exact h.2.2.2.1

end Go.Proofs.Ytlgnnhpbomfdiaa

