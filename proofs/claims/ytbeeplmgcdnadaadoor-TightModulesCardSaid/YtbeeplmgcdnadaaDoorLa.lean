/- What functions of package verify, of its references and of its laws do: contracts of calls, proved by walking their code. -/
import Derived.Test.YtbeeplmgcdnadaaDoorRows
import Derived.Test.YtbeeplmgcdnadaaDoorP
import Derived.Test.YtbeeplmgcdnadaaDoorWc
import Derived.KernelRfl
import Derived.OpenShut
import Derived.LaidMore
import Derived.ProofKit
set_option maxRecDepth 100000
set_option linter.unusedVariables false
set_option linter.unusedSimpArgs false
namespace Go.Proofs.YtbeeplmgcdnadaaDoor
open Go Go.RowKit Wx

open Go.ChangeShapes Go.WideShapes Go.ChangeAt
theorem gEff : Tryd.prog.globalNamed "warp/verify.effects" = some 0 := by kernel_rfl
theorem gCod : Tryd.prog.globalNamed "warp/ops.codes" = some 1 := by kernel_rfl
theorem tEff : (Tryd.prog.globals[0]?).map (·.type) = some 124 := by kernel_rfl
theorem tCod : (Tryd.prog.globals[1]?).map (·.type) = some 152 := by kernel_rfl
section
variable {H : Type} {enc : TypeId × Value → H} {W : World} {base fuel : Nat} {sp : Nat → Bool} {hd : Bool} {cs : List Value} {pl : List MemPlace}
def FD : DataW H → List Value
  | .agg [.lit (.int .i64 a), .lit (.int .i64 b)] => [.int .i64 a, .int .i64 b]
  | .agg [.lit (.string s), .lit (.int .i64 b)] => [.string ⟨s.toArray⟩, .int .i64 b]
  | _ => []
theorem tab_ef (h : DataW.trod enc Tryd.prog W base sp hd fuel 124 cs = some (Rows.laid_warp_verify_effects, pl)) : cs = effL.flatMap efC := by
  obtain ⟨xs, m, rfl, hx, hl, hn, hel⟩ := DataW.trod_array Tryd.underlying124 h
  have c1 : Tryd.prog.cellsOf 123 = 2 := by kernel_rfl
  have c2 : Tryd.prog.cellsOf 124 = 70 := by kernel_rfl
  have c3 : Tryd.prog.cellsOf 3 = 1 := by kernel_rfl
  have hcs := chunks_eq (fun y : DataW H × List MemPlace => FD y.1) 2 xs cs (by rw [hl, hn, c2]) (fun i hi => by
    have h1 := hel i (by omega)
    rw [c1, List.getElem?_eq_getElem hi] at h1
    obtain ⟨y0, y1, n, e, hl2, k0, k1⟩ := trod_struct2 Tryd.underlying123 h1
    dsimp only at k0 k1
    rw [c3] at k0 k1
    obtain ⟨n0, e0, rfl, _⟩ := DataW.trod_int Tryd.underlying3 k0
    obtain ⟨n1, e1, rfl, _⟩ := DataW.trod_int Tryd.underlying3 k1
    rw [e]
    generalize (cs.drop (i * 2)).take 2 = c at hl2 e0 e1 ⊢
    rw [c1] at hl2
    match c, hl2, e0, e1 with
    | [u, v], _, e0, e1 => simp at e0 e1; subst e0; subst e1; rfl)
  rw [hcs]
  have hx1 : xs.map (·.1) = match (Rows.laid_warp_verify_effects : DataW H) with | .agg l => l | _ => [] := by
    have := congrArg Prod.fst hx
    simp only at this
    rw [this]
  have : xs.flatMap (fun y => FD y.1) = (xs.map (·.1)).flatMap FD := by rw [List.flatMap_map]
  rw [this, hx1]
  rfl
def toP : DataW H → ByteArray × Int
  | .agg [.lit (.string s), .lit (.int .i64 b)] => (⟨s.toArray⟩, b)
  | _ => (⟨#[]⟩, 0)
def codL : List (ByteArray × Int) := match (Rows.laid_warp_ops_codes : DataW Unit) with | .agg l => l.map toP | _ => []
theorem codL_what : codL.map (·.2) = whatL := by rfl
theorem tab_cd (h : DataW.trod enc Tryd.prog W base sp hd fuel 152 cs = some (Rows.laid_warp_ops_codes, pl)) : cs = codL.flatMap cdC := by
  obtain ⟨xs, m, rfl, hx, hl, hn, hel⟩ := DataW.trod_array Tryd.underlying152 h
  have c1 : Tryd.prog.cellsOf 151 = 2 := by kernel_rfl
  have c2 : Tryd.prog.cellsOf 152 = 70 := by kernel_rfl
  have c3 : Tryd.prog.cellsOf 9 = 1 := by kernel_rfl
  have c4 : Tryd.prog.cellsOf 3 = 1 := by kernel_rfl
  have hcs := chunks_eq (fun y : DataW H × List MemPlace => FD y.1) 2 xs cs (by rw [hl, hn, c2]) (fun i hi => by
    have h1 := hel i (by omega)
    rw [c1, List.getElem?_eq_getElem hi] at h1
    obtain ⟨y0, y1, n, e, hl2, k0, k1⟩ := trod_struct2 Tryd.underlying151 h1
    dsimp only at k0 k1
    rw [c3] at k0; rw [c4] at k1
    obtain ⟨n0, e0, rfl, _⟩ := DataW.trod_string Tryd.underlying9 k0
    obtain ⟨n1, e1, rfl, _⟩ := DataW.trod_int Tryd.underlying3 k1
    rw [e]
    generalize (cs.drop (i * 2)).take 2 = c at hl2 e0 e1 ⊢
    rw [c1] at hl2
    match c, hl2, e0, e1 with
    | [u, v], _, e0, e1 => simp at e0 e1; subst e0; subst e1; rfl)
  rw [hcs]
  have hx1 : xs.map (·.1) = match (Rows.laid_warp_ops_codes : DataW H) with | .agg l => l | _ => [] := by
    have := congrArg Prod.fst hx
    simp only at this
    rw [this]
  have : xs.flatMap (fun y => FD y.1) = (xs.map (·.1)).flatMap FD := by rw [List.flatMap_map]
  rw [this, hx1]
  rfl
end
def laidL : List (String × DataW Unit) := [("warp/ops.codes", Rows.laid_warp_ops_codes), ("warp/verify.effects", Rows.laid_warp_verify_effects)]
theorem of_laid {W : World} (h : laidMetH Tryd.prog laidL W) : GC [old W] ∧ GE [old W] := by
  rw [MakeChecks.laidMetH_plain _ _ _ (by kernel_rfl)] at h
  obtain ⟨ps, ⟨g0, t0, cs0, f0, p0, q0, hg0, ht0, hv0, hd0, ⟨g1, t1, cs1, f1, p1, q1, hg1, ht1, hv1, hd1, _, _⟩, _⟩, _, _⟩ := h
  obtain rfl := Option.some.inj (gCod.symm.trans hg0)
  obtain rfl := Option.some.inj (gEff.symm.trans hg1)
  obtain rfl := Option.some.inj (tCod.symm.trans ht0)
  obtain rfl := Option.some.inj (tEff.symm.trans ht1)
  have e0 := tab_cd hd0
  have e1 := tab_ef hd1
  refine ⟨⟨codL, codL_what, SeesW.sees (fun i u hu => ⟨_, _, rfl, ?_⟩) []⟩, SeesW.sees (fun i u hu => ⟨_, _, rfl, ?_⟩) []⟩
  · rw [Nat.zero_add, World.var?_cell hg0 hv0 i, ← hu, ← e0]; simp
  · rw [Nat.zero_add, World.var?_cell hg1 hv1 i, ← hu, ← e1]; simp
theorem door_met (os : Os) (args : Array Value) : laidMetH Tryd.prog laidL ((World.doorLaid Tryd.prog 400 os).forCall (fun _ _ => 0) ⟨#[], args, []⟩).memory :=
  laidMetH_of_parts3 (fuel := 8) (laidMet_of_run' 8 (by kernel_rfl) (by kernel_rfl)) (by kernel_rfl) (by kernel_rfl)

end Go.Proofs.YtbeeplmgcdnadaaDoor

