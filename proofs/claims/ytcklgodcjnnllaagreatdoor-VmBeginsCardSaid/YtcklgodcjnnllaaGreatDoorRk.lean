/- What functions of package vm, of its references and of its laws do: contracts of calls, proved by walking their code. -/
import Derived.Test.YtcklgodcjnnllaaGreatDoorUa
import Derived.Test.YtcklgodcjnnllaaGreatDoorRj
import Derived.KernelRfl
set_option maxRecDepth 100000
set_option linter.unusedVariables false
set_option linter.unusedSimpArgs false
namespace Go.Proofs.YtcklgodcjnnllaaGreatDoor
open Go Go.RowKit Wx

/-! ### arguments -/
abbrev FrmS : Sh := .cons (.int .i64) (.cons (.int .i64) (.cons (.slice (.int .i64)) (.cons (.slice (.int .i64)) .nil)))
def mkFrm (x : Sh.T FrmS) : Frm := ⟨x.1, x.2.1, x.2.2.1.l, x.2.2.2.1.l, x.2.2.1.a, x.2.2.1.c, x.2.2.2.1.a, x.2.2.2.1.c⟩
theorem frm_cells (x : Sh.T FrmS) : Sh.cells FrmS x = frmC (mkFrm x) := by simp [Sh.cells, frmC, mkFrm]
theorem frm_okQ {q : List HP} {x : Sh.T FrmS} (h : FrmS.okQ q x) : FrmQ q (mkFrm x) ∧ (mkFrm x).stk.length ≤ (mkFrm x).sc := by
  obtain ⟨_, _, h3, h4, _⟩ := h
  exact ⟨⟨(ints_okQ h3).1, (ints_okQ h4).1, (ints_okQ h3).2, (ints_okQ h4).2⟩, h4.1⟩

abbrev GivS : Sh := .cons FrmS (.cons (.int .i64) .nil)
theorem giv_cells (x : Sh.T GivS) : Sh.cells GivS x = frmC (mkFrm x.1) ++ [Value.int .i64 x.2.1] := by simp [Sh.cells, frmC, mkFrm]

end Go.Proofs.YtcklgodcjnnllaaGreatDoor

