/-
  No cell of these rows narrows 'for every input' (looked for: loops, veiled, ifaces, maps, wideKeys, modest, calm, conditions, laid).
  DERIVED. THE GIVEN ROWS OF THIS SEAT. 7 by the template 'for every input the law returns true; each argument reads behind the call as it read before'; 0 by the template 'total and deterministic' (their statements: YtjfkkdohpfbilaaTotals.lean).
  GIVEN WITH THE SEED: the statements are not yours to turn. If you find one false, say at which input.
  Laid BY PROGRAM, IN A SANDBOX (cutbox-rows.mjs): the forced cells as the released guide's own fill.sh prints them over the translation 97faee4b4df1e813… (all of the seat's roots in one cut). By AI agents, Wed Nov 11 2026. No macro, syntax, notation, axiom, sorry.
-/
import Derived.Test.YtjfkkdohpfbilaaChecked
import GoSem.Claim
import GoSem.ClaimJoined
import GoSem.ClaimMapViews
import Derived.JoinedTies
import Derived.KernelRfl
namespace Go.Proofs.Ytjfkkdohpfbilaa
/- THE CELL 'sum', in the pinned program and in every row, IS THE sha256 OF THE DUMP (.gsa) THAT YtjfkkdohpfbilaaProg.lean LOADS. Nothing in Lean hashes anything: it is a label: what it is worth is what the hold of that sum in a sandbox is worth. -/
noncomputable def Try.pinned : Pinned := { name := "ytjfkkdohpfbilaa", sum := "97faee4b4df1e813ec98d7907d50bae783f5f2737cb5cf4bbad43b7f5c940d82", checked := Try.checked }
namespace Rows
def none {H : Type} : Left H := { results := [], args := [] }

/-- 'warplaw15.PointsComes': WHATEVER THE INPUT: true; the input reads as it did. -/
def pointsComesSpec : ChangeSpec := { name := "pointsComes", fn := fun _ => fun
  | [d1, d2, d3] => { results := [.lit (.bool true)], args := [d1, d2, d3] }
  | _ => none }
def pointsComesRow : OpenClaim := { program := "ytjfkkdohpfbilaa", sum := "97faee4b4df1e813ec98d7907d50bae783f5f2737cb5cf4bbad43b7f5c940d82", func := "warp/warplaw15.PointsComes", spec := "pointsComes", unfollowed := true, recurses := true, apart := false }
def PointsComesSaid : Prop := pointsComesRow.holds Try.pinned (OpenSpec.ofChange pointsComesSpec)

/-- ITS FALSE NEIGHBOUR: 'it returns false'. Refute it at one input. -/
def pointsComesWrong : ChangeSpec := { name := "pointsComes", fn := fun _ => fun
  | [d1, d2, d3] => { results := [.lit (.bool false)], args := [d1, d2, d3] }
  | _ => none }
def PointsComesWrongFalsely : Prop := pointsComesRow.holds Try.pinned (OpenSpec.ofChange pointsComesWrong)

/-- 'warplaw15.PointsRuns': WHATEVER THE INPUT: true; the input reads as it did. -/
def pointsRunsSpec : ChangeSpec := { name := "pointsRuns", fn := fun _ => fun
  | [d1, d2, d3] => { results := [.lit (.bool true)], args := [d1, d2, d3] }
  | _ => none }
def pointsRunsRow : OpenClaim := { program := "ytjfkkdohpfbilaa", sum := "97faee4b4df1e813ec98d7907d50bae783f5f2737cb5cf4bbad43b7f5c940d82", func := "warp/warplaw15.PointsRuns", spec := "pointsRuns", unfollowed := true, recurses := true, apart := false }
def PointsRunsSaid : Prop := pointsRunsRow.holds Try.pinned (OpenSpec.ofChange pointsRunsSpec)

/-- ITS FALSE NEIGHBOUR: 'it returns false'. Refute it at one input. -/
def pointsRunsWrong : ChangeSpec := { name := "pointsRuns", fn := fun _ => fun
  | [d1, d2, d3] => { results := [.lit (.bool false)], args := [d1, d2, d3] }
  | _ => none }
def PointsRunsWrongFalsely : Prop := pointsRunsRow.holds Try.pinned (OpenSpec.ofChange pointsRunsWrong)

/-- 'warplaw15.PointsGoes': WHATEVER THE INPUT: true; the input reads as it did. -/
def pointsGoesSpec : ChangeSpec := { name := "pointsGoes", fn := fun _ => fun
  | [d1, d2, d3] => { results := [.lit (.bool true)], args := [d1, d2, d3] }
  | _ => none }
def pointsGoesRow : OpenClaim := { program := "ytjfkkdohpfbilaa", sum := "97faee4b4df1e813ec98d7907d50bae783f5f2737cb5cf4bbad43b7f5c940d82", func := "warp/warplaw15.PointsGoes", spec := "pointsGoes", unfollowed := true, recurses := true, apart := false }
def PointsGoesSaid : Prop := pointsGoesRow.holds Try.pinned (OpenSpec.ofChange pointsGoesSpec)

/-- ITS FALSE NEIGHBOUR: 'it returns false'. Refute it at one input. -/
def pointsGoesWrong : ChangeSpec := { name := "pointsGoes", fn := fun _ => fun
  | [d1, d2, d3] => { results := [.lit (.bool false)], args := [d1, d2, d3] }
  | _ => none }
def PointsGoesWrongFalsely : Prop := pointsGoesRow.holds Try.pinned (OpenSpec.ofChange pointsGoesWrong)

/-- 'warplaw15.PointsFew': WHATEVER THE INPUT: true; the input reads as it did. -/
def pointsFewSpec : ChangeSpec := { name := "pointsFew", fn := fun _ => fun
  | [d1, d2, d3, d4] => { results := [.lit (.bool true)], args := [d1, d2, d3, d4] }
  | _ => none }
def pointsFewRow : OpenClaim := { program := "ytjfkkdohpfbilaa", sum := "97faee4b4df1e813ec98d7907d50bae783f5f2737cb5cf4bbad43b7f5c940d82", func := "warp/warplaw15.PointsFew", spec := "pointsFew", unfollowed := true, recurses := true, apart := false }
def PointsFewSaid : Prop := pointsFewRow.holds Try.pinned (OpenSpec.ofChange pointsFewSpec)

/-- ITS FALSE NEIGHBOUR: 'it returns false'. Refute it at one input. -/
def pointsFewWrong : ChangeSpec := { name := "pointsFew", fn := fun _ => fun
  | [d1, d2, d3, d4] => { results := [.lit (.bool false)], args := [d1, d2, d3, d4] }
  | _ => none }
def PointsFewWrongFalsely : Prop := pointsFewRow.holds Try.pinned (OpenSpec.ofChange pointsFewWrong)

/-- 'warplaw15.PointsBests': WHATEVER THE INPUT: true; the input reads as it did. -/
def pointsBestsSpec : ChangeSpec := { name := "pointsBests", fn := fun _ => fun
  | [d1, d2, d3, d4] => { results := [.lit (.bool true)], args := [d1, d2, d3, d4] }
  | _ => none }
def pointsBestsRow : OpenClaim := { program := "ytjfkkdohpfbilaa", sum := "97faee4b4df1e813ec98d7907d50bae783f5f2737cb5cf4bbad43b7f5c940d82", func := "warp/warplaw15.PointsBests", spec := "pointsBests", unfollowed := true, recurses := true, apart := false }
def PointsBestsSaid : Prop := pointsBestsRow.holds Try.pinned (OpenSpec.ofChange pointsBestsSpec)

/-- ITS FALSE NEIGHBOUR: 'it returns false'. Refute it at one input. -/
def pointsBestsWrong : ChangeSpec := { name := "pointsBests", fn := fun _ => fun
  | [d1, d2, d3, d4] => { results := [.lit (.bool false)], args := [d1, d2, d3, d4] }
  | _ => none }
def PointsBestsWrongFalsely : Prop := pointsBestsRow.holds Try.pinned (OpenSpec.ofChange pointsBestsWrong)

/-- 'warplaw15.PointsCopies': WHATEVER THE INPUT: true; the input reads as it did. -/
def pointsCopiesSpec : ChangeSpec := { name := "pointsCopies", fn := fun _ => fun
  | [d1, d2, d3, d4] => { results := [.lit (.bool true)], args := [d1, d2, d3, d4] }
  | _ => none }
def pointsCopiesRow : OpenClaim := { program := "ytjfkkdohpfbilaa", sum := "97faee4b4df1e813ec98d7907d50bae783f5f2737cb5cf4bbad43b7f5c940d82", func := "warp/warplaw15.PointsCopies", spec := "pointsCopies", unfollowed := true, recurses := true, apart := false }
def PointsCopiesSaid : Prop := pointsCopiesRow.holds Try.pinned (OpenSpec.ofChange pointsCopiesSpec)

/-- ITS FALSE NEIGHBOUR: 'it returns false'. Refute it at one input. -/
def pointsCopiesWrong : ChangeSpec := { name := "pointsCopies", fn := fun _ => fun
  | [d1, d2, d3, d4] => { results := [.lit (.bool false)], args := [d1, d2, d3, d4] }
  | _ => none }
def PointsCopiesWrongFalsely : Prop := pointsCopiesRow.holds Try.pinned (OpenSpec.ofChange pointsCopiesWrong)

/-- 'warplaw15.PointsMakes': WHATEVER THE INPUT: true; the input reads as it did. -/
def pointsMakesSpec : ChangeSpec := { name := "pointsMakes", fn := fun _ => fun
  | [d1, d2] => { results := [.lit (.bool true)], args := [d1, d2] }
  | _ => none }
def pointsMakesRow : OpenClaim := { program := "ytjfkkdohpfbilaa", sum := "97faee4b4df1e813ec98d7907d50bae783f5f2737cb5cf4bbad43b7f5c940d82", func := "warp/warplaw15.PointsMakes", spec := "pointsMakes", unfollowed := true, recurses := true, apart := false }
def PointsMakesSaid : Prop := pointsMakesRow.holds Try.pinned (OpenSpec.ofChange pointsMakesSpec)

/-- ITS FALSE NEIGHBOUR: 'it returns false'. Refute it at one input. -/
def pointsMakesWrong : ChangeSpec := { name := "pointsMakes", fn := fun _ => fun
  | [d1, d2] => { results := [.lit (.bool false)], args := [d1, d2] }
  | _ => none }
def PointsMakesWrongFalsely : Prop := pointsMakesRow.holds Try.pinned (OpenSpec.ofChange pointsMakesWrong)

/- THE SECOND FORM. 'bulk': how many values and letters a reading holds, each counted each time it is reached (what is shared counts as often as it is met; a slice's spare places count too). A statement '..UptoSaid' is the law's where the arguments, and the package variables that the reading takes, are together of bulk at most 1048576: NARROWER than '..Said'. Prove '..Said' where nothing that the law and all that it calls make is longer than what came in: it says more and counts as full. Else prove '..UptoSaid'. A law counts once. -/
mutual
def uptoBulk {H : Type} : DataW H → Nat
  | .lit (.string bytes) => bytes.length + 1
  | .lit _ => 1
  | .nil => 1
  | .ptr d => uptoBulk d + 1
  | .slice elems spare => uptoBulkAll elems + uptoBulkAll spare + 1
  | .agg parts => uptoBulkAll parts + 1
  | .iface _ d => uptoBulk d + 1
  | .map entries => uptoBulkEntries entries + 1
  | .held _ => 1
def uptoBulkAll {H : Type} : List (DataW H) → Nat
  | [] => 0
  | d :: r => uptoBulk d + uptoBulkAll r
def uptoBulkEntries {H : Type} : List (Lit × DataW H) → Nat
  | [] => 0
  | x :: r => uptoBulkEntry x + uptoBulkEntries r
def uptoBulkEntry {H : Type} : Lit × DataW H → Nat
  | (.string bytes, d) => bytes.length + uptoBulk d + 1
  | (_, d) => uptoBulk d + 1
 end
def uptoSmall : (H : Type) → List (DataW H) → Bool := fun _ ds => decide (uptoBulkAll ds ≤ 1048576)
def OpenSpec.upto (s : _root_.Go.ChangeSpec) : _root_.Go.OpenSpec := { _root_.Go.OpenSpec.ofChange s with cond := some uptoSmall }

/-- 'warplaw15.PointsComes', WHERE WHAT IT READS IS OF BULK AT MOST 1048576: true; the input reads as it did. -/
def pointsComesUptoRow : OpenClaim := { program := "ytjfkkdohpfbilaa", sum := "97faee4b4df1e813ec98d7907d50bae783f5f2737cb5cf4bbad43b7f5c940d82", func := "warp/warplaw15.PointsComes", spec := "pointsComes", unfollowed := true, recurses := true, apart := false, narrowed := true }
def PointsComesUptoSaid : Prop := pointsComesUptoRow.holds Try.pinned (OpenSpec.upto pointsComesSpec)

/-- 'warplaw15.PointsRuns', WHERE WHAT IT READS IS OF BULK AT MOST 1048576: true; the input reads as it did. -/
def pointsRunsUptoRow : OpenClaim := { program := "ytjfkkdohpfbilaa", sum := "97faee4b4df1e813ec98d7907d50bae783f5f2737cb5cf4bbad43b7f5c940d82", func := "warp/warplaw15.PointsRuns", spec := "pointsRuns", unfollowed := true, recurses := true, apart := false, narrowed := true }
def PointsRunsUptoSaid : Prop := pointsRunsUptoRow.holds Try.pinned (OpenSpec.upto pointsRunsSpec)

/-- 'warplaw15.PointsGoes', WHERE WHAT IT READS IS OF BULK AT MOST 1048576: true; the input reads as it did. -/
def pointsGoesUptoRow : OpenClaim := { program := "ytjfkkdohpfbilaa", sum := "97faee4b4df1e813ec98d7907d50bae783f5f2737cb5cf4bbad43b7f5c940d82", func := "warp/warplaw15.PointsGoes", spec := "pointsGoes", unfollowed := true, recurses := true, apart := false, narrowed := true }
def PointsGoesUptoSaid : Prop := pointsGoesUptoRow.holds Try.pinned (OpenSpec.upto pointsGoesSpec)

/-- 'warplaw15.PointsFew', WHERE WHAT IT READS IS OF BULK AT MOST 1048576: true; the input reads as it did. -/
def pointsFewUptoRow : OpenClaim := { program := "ytjfkkdohpfbilaa", sum := "97faee4b4df1e813ec98d7907d50bae783f5f2737cb5cf4bbad43b7f5c940d82", func := "warp/warplaw15.PointsFew", spec := "pointsFew", unfollowed := true, recurses := true, apart := false, narrowed := true }
def PointsFewUptoSaid : Prop := pointsFewUptoRow.holds Try.pinned (OpenSpec.upto pointsFewSpec)

/-- 'warplaw15.PointsBests', WHERE WHAT IT READS IS OF BULK AT MOST 1048576: true; the input reads as it did. -/
def pointsBestsUptoRow : OpenClaim := { program := "ytjfkkdohpfbilaa", sum := "97faee4b4df1e813ec98d7907d50bae783f5f2737cb5cf4bbad43b7f5c940d82", func := "warp/warplaw15.PointsBests", spec := "pointsBests", unfollowed := true, recurses := true, apart := false, narrowed := true }
def PointsBestsUptoSaid : Prop := pointsBestsUptoRow.holds Try.pinned (OpenSpec.upto pointsBestsSpec)

/-- 'warplaw15.PointsCopies', WHERE WHAT IT READS IS OF BULK AT MOST 1048576: true; the input reads as it did. -/
def pointsCopiesUptoRow : OpenClaim := { program := "ytjfkkdohpfbilaa", sum := "97faee4b4df1e813ec98d7907d50bae783f5f2737cb5cf4bbad43b7f5c940d82", func := "warp/warplaw15.PointsCopies", spec := "pointsCopies", unfollowed := true, recurses := true, apart := false, narrowed := true }
def PointsCopiesUptoSaid : Prop := pointsCopiesUptoRow.holds Try.pinned (OpenSpec.upto pointsCopiesSpec)

/-- 'warplaw15.PointsMakes', WHERE WHAT IT READS IS OF BULK AT MOST 1048576: true; the input reads as it did. -/
def pointsMakesUptoRow : OpenClaim := { program := "ytjfkkdohpfbilaa", sum := "97faee4b4df1e813ec98d7907d50bae783f5f2737cb5cf4bbad43b7f5c940d82", func := "warp/warplaw15.PointsMakes", spec := "pointsMakes", unfollowed := true, recurses := true, apart := false, narrowed := true }
def PointsMakesUptoSaid : Prop := pointsMakesUptoRow.holds Try.pinned (OpenSpec.upto pointsMakesSpec)

end Rows
end Go.Proofs.Ytjfkkdohpfbilaa
