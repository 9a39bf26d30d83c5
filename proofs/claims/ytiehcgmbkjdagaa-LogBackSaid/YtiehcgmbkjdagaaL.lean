/- What functions of package log, of its references and of its laws do: contracts of calls, proved by walking their code. -/
import Derived.Test.YtiehcgmbkjdagaaA
import Derived.Test.YtiehcgmbkjdagaaWx20
import Derived.KernelRfl
set_option maxRecDepth 100000
set_option linter.unusedVariables false
set_option linter.unusedSimpArgs false
namespace Go.Proofs.Ytiehcgmbkjdagaa
open Go Go.RowKit Wx

/-! ### arguments -/
abbrev TurnS : Sh := .cons (.int .i64) (.cons (.int .i64) .nil)
abbrev OutcS : Sh := .cons (.int .i64) (.cons (.int .i64) (.cons (.int .i64) (.cons (.int .i64) .nil)))
abbrev TakenS : Sh := .cons (.int .u32) (.cons (.slice TurnS) (.cons OutcS .nil))
def mkTurn (x : Sh.T TurnS) : Turn := (x.1, x.2.1)
def mkOutc (x : Sh.T OutcS) : Outc := (x.1, x.2.1, x.2.2.1, x.2.2.2.1)
def mkTaken (x : Sh.T TakenS) : Tkn := ⟨x.1, x.2.1.l.map mkTurn, mkOutc x.2.2.1⟩
theorem taken_v (x : Sh.T TakenS) : Value.agg (Sh.cells TakenS x).toArray = (mkTaken x).v x.2.1.a x.2.1.c := by
  simp [Sh.cells, Tkn.v, Tkn.cs, mkTaken, mkOutc]
theorem outc_v (x : Sh.T OutcS) : Value.agg (Sh.cells OutcS x).toArray = .agg (ocs (mkOutc x)).toArray := by
  simp [Sh.cells, ocs, mkOutc]
theorem turns_sees {q : List HP} {x : SlV (Sh.T TurnS)} (h : (Sh.slice TurnS).okQ q x) : Sees q x.a ((x.l.map mkTurn).flatMap tcs) := by
  have e : (x.l.map mkTurn).flatMap tcs = x.l.flatMap (Sh.cells TurnS) := by
    rw [List.flatMap_map]
    congr 1
  rw [e]; exact h.2.2.2.1
theorem turns_rng {q : List HP} {x : SlV (Sh.T TurnS)} (h : (Sh.slice TurnS).okQ q x) : ∀ y ∈ x.l.map mkTurn, (-9223372036854775808 ≤ y.1 ∧ y.1 ≤ 9223372036854775807) ∧ -9223372036854775808 ≤ y.2 ∧ y.2 ≤ 9223372036854775807 := by
  intro y hy
  obtain ⟨z, hz, rfl⟩ := List.mem_map.1 hy
  obtain ⟨h1, h2, _⟩ := h.2.2.2.2 z hz
  exact ⟨wfi64 h1, wfi64 h2⟩
theorem taken_sees {q : List HP} {x : Sh.T TakenS} (h : TakenS.okQ q x) : Sees q x.2.1.a ((mkTaken x).turns.flatMap tcs) ∧ 0 ≤ (mkTaken x).hash ∧ (mkTaken x).hash < 4294967296 := ⟨turns_sees h.2.1, wf32 h.1⟩

end Go.Proofs.Ytiehcgmbkjdagaa

