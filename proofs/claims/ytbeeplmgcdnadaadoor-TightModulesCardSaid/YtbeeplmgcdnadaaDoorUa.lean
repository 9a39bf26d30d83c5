/- What functions of package verify, of its references and of its laws do: contracts of calls, proved by walking their code. -/
import Derived.Test.YtbeeplmgcdnadaaDoorLa
import Derived.Test.YtbeeplmgcdnadaaDoorWb
import Derived.KernelRfl
set_option maxRecDepth 100000
set_option linter.unusedVariables false
set_option linter.unusedSimpArgs false
namespace Go.Proofs.YtbeeplmgcdnadaaDoor
open Go Go.RowKit Wx

/-! ### arguments -/
abbrev InsS : Sh := .cons (.int .i64) (.cons (.int .i64) (.cons (.int .i64) (.cons (.int .i64) .nil)))
abbrev CodS : Sh := .cons .str (.cons (.int .i64) (.cons (.slice InsS) (.cons (.slice (.int .i64)) .nil)))
abbrev MdlS : Sh := .cons (.slice (.int .i64)) (.cons (.slice (.int .i64)) (.cons (.slice (.int .i64)) (.cons (.int .i64) (.cons (.int .i64) (.cons (.slice CodS) .nil)))))
def mkIns (x : Sh.T InsS) : Ins := ⟨x.1, x.2.1, x.2.2.1, x.2.2.2.1⟩
def mkCod (x : Sh.T CodS) : Cod := ⟨x.1, x.2.1, x.2.2.1.l.map mkIns, x.2.2.2.1.l, x.2.2.1.a, x.2.2.1.c, x.2.2.2.1.a, x.2.2.2.1.c⟩
def mkMdl (x : Sh.T MdlS) : Mdl := ⟨x.1.l, x.2.1.l, x.2.2.1.l, x.2.2.2.1, x.2.2.2.2.1, x.2.2.2.2.2.1.l.map mkCod, x.1.a, x.1.c, x.2.1.a, x.2.1.c, x.2.2.1.a, x.2.2.1.c, x.2.2.2.2.2.1.a, x.2.2.2.2.2.1.c⟩
theorem mdl_cells (x : Sh.T MdlS) : Sh.cells MdlS x = mdlC (mkMdl x) := by simp [Sh.cells, mdlC, mkMdl]
theorem cod_cells (x : Sh.T CodS) : Sh.cells CodS x = codC (mkCod x) := by simp [Sh.cells, codC, mkCod]
theorem ints_okQ {q : List HP} {x : SlV (Sh.T (.int .i64))} (h : (Sh.slice (.int .i64)).okQ q x) : Sees q x.a (x.l.map I64) ∧ x.l.length ≤ 9223372036854775807 := by
  have e : x.l.map I64 = x.l.flatMap (Sh.cells (.int .i64)) := (ints_cells .i64 x.l).symm
  exact ⟨by rw [e]; exact h.2.2.2.1, Nat.le_trans h.1 (Nat.le_trans h.2.1 (by decide))⟩
theorem ins_sees {q : List HP} {x : SlV (Sh.T InsS)} (h : (Sh.slice InsS).okQ q x) : Sees q x.a ((x.l.map mkIns).flatMap insC) := by
  have e : (x.l.map mkIns).flatMap insC = x.l.flatMap (Sh.cells InsS) := by
    rw [List.flatMap_map]; congr 1
  rw [e]; exact h.2.2.2.1
theorem cod_okQ {q : List HP} {x : Sh.T CodS} (h : CodS.okQ q x) : CodQ q (mkCod x) :=
  ⟨ins_sees h.2.2.1, (ints_okQ h.2.2.2.1).1, Nat.le_trans h.1 (by decide), by show (x.2.2.1.l.map mkIns).length ≤ _; rw [List.length_map]; exact Nat.le_trans h.2.2.1.1 (Nat.le_trans h.2.2.1.2.1 (by decide)), (ints_okQ h.2.2.2.1).2⟩
theorem mdl_okQ {q : List HP} {x : Sh.T MdlS} (h : MdlS.okQ q x) : MdlQ q (mkMdl x) := by
  obtain ⟨h1, h2, h3, _, _, h6, _⟩ := h
  refine ⟨(ints_okQ h1).1, (ints_okQ h2).1, (ints_okQ h3).1, ?_, fun y hy => ?_, (ints_okQ h1).2, (ints_okQ h2).2, (ints_okQ h3).2, ?_, h2.1⟩
  · have e : (mkMdl x).threads.flatMap codC = x.2.2.2.2.2.1.l.flatMap (Sh.cells CodS) := by
      show (List.map mkCod _).flatMap codC = _
      rw [List.flatMap_map]; congr 1; funext z; exact (cod_cells z).symm
    rw [e]; exact h6.2.2.2.1
  · obtain ⟨z, hz, rfl⟩ := List.mem_map.1 hy
    exact cod_okQ (h6.2.2.2.2 z hz)
  · show (List.map mkCod _).length ≤ _
    rw [List.length_map]; exact Nat.le_trans h6.1 (Nat.le_trans h6.2.1 (by decide))

end Go.Proofs.YtbeeplmgcdnadaaDoor

