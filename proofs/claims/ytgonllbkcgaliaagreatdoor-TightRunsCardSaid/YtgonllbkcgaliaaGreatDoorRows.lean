/-
  NARROWER THAN 'FOR EVERY INPUT', by the rows' own cells (each row's printed sentence says how): TightTwice: laid · TightRuns: laid · VmProg: laid · VmRuns: laid.
  DERIVED. THE GIVEN ROWS OF THIS SEAT. 4 by the template 'for every input the law returns true; each argument reads behind the call as it read before'; 0 by the template 'total and deterministic' (their statements: YtgonllbkcgaliaaGreatDoorTotals.lean).
  GIVEN WITH THE SEED: the statements are not yours to turn. If you find one false, say at which input.
  Laid BY PROGRAM, IN A SANDBOX (cutbox-rows.mjs): the forced cells as the released guide's own fill.sh prints them over the translation 9433eb291bac5beb… (all of the seat's roots in one cut). By AI agents, Wed Nov 11 2026. No macro, syntax, notation, axiom, sorry.
-/
import Derived.Test.YtgonllbkcgaliaaGreatDoorChecked
import GoSem.Claim
import GoSem.ClaimJoined
import GoSem.ClaimMapViews
import Derived.JoinedTies
import Derived.KernelRfl
namespace Go.Proofs.YtgonllbkcgaliaaGreatDoor
/- THE CELL 'sum', in the pinned program and in every row, IS THE sha256 OF THE DUMP (.gsa) THAT YtgonllbkcgaliaaGreatDoorProg.lean LOADS. Nothing in Lean hashes anything: it is a label: what it is worth is what the hold of that sum in a sandbox is worth. -/
noncomputable def Tryz.pinned : Pinned := { name := "ytgonllbkcgaliaagreatdoor", sum := "9433eb291bac5bebc12b67f0488139340181fa04ed7c8caaadd8808f873facb8", checked := Tryz.checked }
namespace Rows
def none {H : Type} : Left H := { results := [], args := [] }

/- WHAT THE LISTED PACKAGE-LEVEL VARIABLES READ AS WHEN THE CALL BEGINS. Each datum BY PROGRAM (the guide's laid-datum.mjs) off the statement by which the dump's own 'gosem.cut.vars' lays the variable. In a bare row this is a premise. The card (YtgonllbkcgaliaaGreatDoorCards.lean) ties it to the program's text. -/
def laid_warp_ops_codes {H : Type} : DataW H := .agg [.agg [.lit (.string []), .lit (.int .i64 0)], .agg [.lit (.string [112, 117, 115, 104]), .lit (.int .i64 3)], .agg [.lit (.string [118, 97, 114]), .lit (.int .i64 1)], .agg [.lit (.string [108, 111, 99, 97, 108]), .lit (.int .i64 1)], .agg [.lit (.string [99, 101, 108, 108]), .lit (.int .i64 1)], .agg [.lit (.string [115, 101, 116, 118, 97, 114]), .lit (.int .i64 1)], .agg [.lit (.string [115, 101, 116, 108, 111, 99, 97, 108]), .lit (.int .i64 1)], .agg [.lit (.string [115, 101, 116, 99, 101, 108, 108]), .lit (.int .i64 1)], .agg [.lit (.string [110, 101, 103]), .lit (.int .i64 0)], .agg [.lit (.string [110, 111, 116]), .lit (.int .i64 0)], .agg [.lit (.string [101, 113]), .lit (.int .i64 0)], .agg [.lit (.string [110, 101]), .lit (.int .i64 0)], .agg [.lit (.string [108, 116]), .lit (.int .i64 0)], .agg [.lit (.string [108, 101]), .lit (.int .i64 0)], .agg [.lit (.string [97, 100, 100]), .lit (.int .i64 0)], .agg [.lit (.string [115, 117, 98]), .lit (.int .i64 0)], .agg [.lit (.string [109, 117, 108]), .lit (.int .i64 0)], .agg [.lit (.string [100, 105, 118]), .lit (.int .i64 0)], .agg [.lit (.string [109, 111, 100]), .lit (.int .i64 0)], .agg [.lit (.string [106, 117, 109, 112]), .lit (.int .i64 1)], .agg [.lit (.string [106, 117, 109, 112, 122]), .lit (.int .i64 1)], .agg [.lit (.string [106, 117, 109, 112, 110, 122]), .lit (.int .i64 1)], .agg [.lit (.string [98, 111, 111, 108]), .lit (.int .i64 0)], .agg [.lit (.string [109, 97, 114, 107]), .lit (.int .i64 1)], .agg [.lit (.string [108, 111, 99, 107]), .lit (.int .i64 1)], .agg [.lit (.string [117, 110, 108, 111, 99, 107]), .lit (.int .i64 1)], .agg [.lit (.string [119, 97, 105, 116]), .lit (.int .i64 2)], .agg [.lit (.string [115, 105, 103, 110, 97, 108]), .lit (.int .i64 1)], .agg [.lit (.string [97, 108, 108]), .lit (.int .i64 1)], .agg [.lit (.string [115, 101, 110, 100]), .lit (.int .i64 1)], .agg [.lit (.string [114, 101, 99, 118]), .lit (.int .i64 1)], .agg [.lit (.string [115, 112, 97, 119, 110]), .lit (.int .i64 1)], .agg [.lit (.string [106, 111, 105, 110]), .lit (.int .i64 0)], .agg [.lit (.string [112, 114, 105, 110, 116]), .lit (.int .i64 0)], .agg [.lit (.string [101, 110, 100]), .lit (.int .i64 0)]]
def laid_warp_verify_effects {H : Type} : DataW H := .agg [.agg [.lit (.int .i64 0), .lit (.int .i64 0)], .agg [.lit (.int .i64 0), .lit (.int .i64 1)], .agg [.lit (.int .i64 0), .lit (.int .i64 1)], .agg [.lit (.int .i64 0), .lit (.int .i64 1)], .agg [.lit (.int .i64 1), .lit (.int .i64 1)], .agg [.lit (.int .i64 1), .lit (.int .i64 0)], .agg [.lit (.int .i64 1), .lit (.int .i64 0)], .agg [.lit (.int .i64 2), .lit (.int .i64 0)], .agg [.lit (.int .i64 1), .lit (.int .i64 1)], .agg [.lit (.int .i64 1), .lit (.int .i64 1)], .agg [.lit (.int .i64 2), .lit (.int .i64 1)], .agg [.lit (.int .i64 2), .lit (.int .i64 1)], .agg [.lit (.int .i64 2), .lit (.int .i64 1)], .agg [.lit (.int .i64 2), .lit (.int .i64 1)], .agg [.lit (.int .i64 2), .lit (.int .i64 1)], .agg [.lit (.int .i64 2), .lit (.int .i64 1)], .agg [.lit (.int .i64 2), .lit (.int .i64 1)], .agg [.lit (.int .i64 2), .lit (.int .i64 1)], .agg [.lit (.int .i64 2), .lit (.int .i64 1)], .agg [.lit (.int .i64 0), .lit (.int .i64 0)], .agg [.lit (.int .i64 1), .lit (.int .i64 0)], .agg [.lit (.int .i64 1), .lit (.int .i64 0)], .agg [.lit (.int .i64 1), .lit (.int .i64 1)], .agg [.lit (.int .i64 0), .lit (.int .i64 0)], .agg [.lit (.int .i64 0), .lit (.int .i64 0)], .agg [.lit (.int .i64 0), .lit (.int .i64 0)], .agg [.lit (.int .i64 0), .lit (.int .i64 0)], .agg [.lit (.int .i64 0), .lit (.int .i64 0)], .agg [.lit (.int .i64 0), .lit (.int .i64 0)], .agg [.lit (.int .i64 1), .lit (.int .i64 0)], .agg [.lit (.int .i64 0), .lit (.int .i64 1)], .agg [.lit (.int .i64 0), .lit (.int .i64 0)], .agg [.lit (.int .i64 0), .lit (.int .i64 0)], .agg [.lit (.int .i64 1), .lit (.int .i64 0)], .agg [.lit (.int .i64 0), .lit (.int .i64 0)]]

/-- 'warplaw19.TightTwice': WHATEVER THE INPUT: true; the input reads as it did. -/
def tightTwiceSpec : ChangeSpec := { name := "tightTwice", fn := fun _ => fun
  | [d1, d2] => { results := [.lit (.bool true)], args := [d1, d2] }
  | _ => none }
def tightTwiceRow : OpenClaim := { program := "ytgonllbkcgaliaagreatdoor", sum := "9433eb291bac5bebc12b67f0488139340181fa04ed7c8caaadd8808f873facb8", func := "warp/warplaw19.TightTwice", spec := "tightTwice", unfollowed := true, recurses := true, named := ["warp/ops.codes", "warp/verify.effects"], apart := false, laid := [("warp/ops.codes", laid_warp_ops_codes), ("warp/verify.effects", laid_warp_verify_effects)] }
def TightTwiceSaid : Prop := tightTwiceRow.holds Tryz.pinned (OpenSpec.ofChange tightTwiceSpec)

/-- ITS FALSE NEIGHBOUR: 'it returns false'. Refute it at one input. -/
def tightTwiceWrong : ChangeSpec := { name := "tightTwice", fn := fun _ => fun
  | [d1, d2] => { results := [.lit (.bool false)], args := [d1, d2] }
  | _ => none }
def TightTwiceWrongFalsely : Prop := tightTwiceRow.holds Tryz.pinned (OpenSpec.ofChange tightTwiceWrong)

/-- 'warplaw19.TightRuns': WHATEVER THE INPUT: true; the input reads as it did. -/
def tightRunsSpec : ChangeSpec := { name := "tightRuns", fn := fun _ => fun
  | [d1, d2, d3] => { results := [.lit (.bool true)], args := [d1, d2, d3] }
  | _ => none }
def tightRunsRow : OpenClaim := { program := "ytgonllbkcgaliaagreatdoor", sum := "9433eb291bac5bebc12b67f0488139340181fa04ed7c8caaadd8808f873facb8", func := "warp/warplaw19.TightRuns", spec := "tightRuns", unfollowed := true, recurses := true, named := ["warp/ops.codes", "warp/verify.effects"], apart := false, laid := [("warp/ops.codes", laid_warp_ops_codes), ("warp/verify.effects", laid_warp_verify_effects)] }
def TightRunsSaid : Prop := tightRunsRow.holds Tryz.pinned (OpenSpec.ofChange tightRunsSpec)

/-- ITS FALSE NEIGHBOUR: 'it returns false'. Refute it at one input. -/
def tightRunsWrong : ChangeSpec := { name := "tightRuns", fn := fun _ => fun
  | [d1, d2, d3] => { results := [.lit (.bool false)], args := [d1, d2, d3] }
  | _ => none }
def TightRunsWrongFalsely : Prop := tightRunsRow.holds Tryz.pinned (OpenSpec.ofChange tightRunsWrong)

/-- 'warplaw09.VmProg': WHATEVER THE INPUT: true; the input reads as it did. -/
def vmProgSpec : ChangeSpec := { name := "vmProg", fn := fun _ => fun
  | [d1, d2, d3] => { results := [.lit (.bool true)], args := [d1, d2, d3] }
  | _ => none }
def vmProgRow : OpenClaim := { program := "ytgonllbkcgaliaagreatdoor", sum := "9433eb291bac5bebc12b67f0488139340181fa04ed7c8caaadd8808f873facb8", func := "warp/warplaw09.VmProg", spec := "vmProg", unfollowed := true, recurses := true, named := ["warp/ops.codes", "warp/verify.effects"], apart := false, laid := [("warp/ops.codes", laid_warp_ops_codes), ("warp/verify.effects", laid_warp_verify_effects)] }
def VmProgSaid : Prop := vmProgRow.holds Tryz.pinned (OpenSpec.ofChange vmProgSpec)

/-- ITS FALSE NEIGHBOUR: 'it returns false'. Refute it at one input. -/
def vmProgWrong : ChangeSpec := { name := "vmProg", fn := fun _ => fun
  | [d1, d2, d3] => { results := [.lit (.bool false)], args := [d1, d2, d3] }
  | _ => none }
def VmProgWrongFalsely : Prop := vmProgRow.holds Tryz.pinned (OpenSpec.ofChange vmProgWrong)

/-- 'warplaw09.VmRuns': WHATEVER THE INPUT: true; the input reads as it did. -/
def vmRunsSpec : ChangeSpec := { name := "vmRuns", fn := fun _ => fun
  | [d1, d2] => { results := [.lit (.bool true)], args := [d1, d2] }
  | _ => none }
def vmRunsRow : OpenClaim := { program := "ytgonllbkcgaliaagreatdoor", sum := "9433eb291bac5bebc12b67f0488139340181fa04ed7c8caaadd8808f873facb8", func := "warp/warplaw09.VmRuns", spec := "vmRuns", unfollowed := true, recurses := true, named := ["warp/ops.codes", "warp/verify.effects"], apart := false, laid := [("warp/ops.codes", laid_warp_ops_codes), ("warp/verify.effects", laid_warp_verify_effects)] }
def VmRunsSaid : Prop := vmRunsRow.holds Tryz.pinned (OpenSpec.ofChange vmRunsSpec)

/-- ITS FALSE NEIGHBOUR: 'it returns false'. Refute it at one input. -/
def vmRunsWrong : ChangeSpec := { name := "vmRuns", fn := fun _ => fun
  | [d1, d2] => { results := [.lit (.bool false)], args := [d1, d2] }
  | _ => none }
def VmRunsWrongFalsely : Prop := vmRunsRow.holds Tryz.pinned (OpenSpec.ofChange vmRunsWrong)

/- THE SECOND FORM. 'bulk': how many values and letters a reading holds, each counted each time it is reached (what is shared counts as often as it is met; a slice's spare places count too). A statement '..UptoSaid' is the law's where the arguments, and the package variables that the reading takes, are together of bulk at most 1048576: NARROWER than '..Said'. Prove '..Said' where nothing that the law and all that it calls make is longer than what came in: it says more and counts as full. Else prove '..UptoSaid'. A law counts once. -/
mutual
def uptoBulk {H : Type} : DataW H → Nat
  | .lit (.string bytes) => bytes.length + 1
  | .lit _ => 1
  | .nil => 1
  | .ptr d => uptoBulk d + 1
  | .slice elems spare => uptoBulkAll elems + uptoBulkAll spare + 1
  | .agg parts => uptoBulkAll parts + 1
  | .iface _ d => uptoBulk d + 1
  | .map entries => uptoBulkEntries entries + 1
  | .held _ => 1
def uptoBulkAll {H : Type} : List (DataW H) → Nat
  | [] => 0
  | d :: r => uptoBulk d + uptoBulkAll r
def uptoBulkEntries {H : Type} : List (Lit × DataW H) → Nat
  | [] => 0
  | x :: r => uptoBulkEntry x + uptoBulkEntries r
def uptoBulkEntry {H : Type} : Lit × DataW H → Nat
  | (.string bytes, d) => bytes.length + uptoBulk d + 1
  | (_, d) => uptoBulk d + 1
 end
def uptoSmall : (H : Type) → List (DataW H) → Bool := fun _ ds => decide (uptoBulkAll ds ≤ 1048576)
def OpenSpec.upto (s : _root_.Go.ChangeSpec) : _root_.Go.OpenSpec := { _root_.Go.OpenSpec.ofChange s with cond := some uptoSmall }

/-- 'warplaw19.TightTwice', WHERE WHAT IT READS IS OF BULK AT MOST 1048576: true; the input reads as it did. -/
def tightTwiceUptoRow : OpenClaim := { program := "ytgonllbkcgaliaagreatdoor", sum := "9433eb291bac5bebc12b67f0488139340181fa04ed7c8caaadd8808f873facb8", func := "warp/warplaw19.TightTwice", spec := "tightTwice", unfollowed := true, recurses := true, named := ["warp/ops.codes", "warp/verify.effects"], apart := false, laid := [("warp/ops.codes", laid_warp_ops_codes), ("warp/verify.effects", laid_warp_verify_effects)], narrowed := true }
def TightTwiceUptoSaid : Prop := tightTwiceUptoRow.holds Tryz.pinned (OpenSpec.upto tightTwiceSpec)

/-- 'warplaw19.TightRuns', WHERE WHAT IT READS IS OF BULK AT MOST 1048576: true; the input reads as it did. -/
def tightRunsUptoRow : OpenClaim := { program := "ytgonllbkcgaliaagreatdoor", sum := "9433eb291bac5bebc12b67f0488139340181fa04ed7c8caaadd8808f873facb8", func := "warp/warplaw19.TightRuns", spec := "tightRuns", unfollowed := true, recurses := true, named := ["warp/ops.codes", "warp/verify.effects"], apart := false, laid := [("warp/ops.codes", laid_warp_ops_codes), ("warp/verify.effects", laid_warp_verify_effects)], narrowed := true }
def TightRunsUptoSaid : Prop := tightRunsUptoRow.holds Tryz.pinned (OpenSpec.upto tightRunsSpec)

/-- 'warplaw09.VmProg', WHERE WHAT IT READS IS OF BULK AT MOST 1048576: true; the input reads as it did. -/
def vmProgUptoRow : OpenClaim := { program := "ytgonllbkcgaliaagreatdoor", sum := "9433eb291bac5bebc12b67f0488139340181fa04ed7c8caaadd8808f873facb8", func := "warp/warplaw09.VmProg", spec := "vmProg", unfollowed := true, recurses := true, named := ["warp/ops.codes", "warp/verify.effects"], apart := false, laid := [("warp/ops.codes", laid_warp_ops_codes), ("warp/verify.effects", laid_warp_verify_effects)], narrowed := true }
def VmProgUptoSaid : Prop := vmProgUptoRow.holds Tryz.pinned (OpenSpec.upto vmProgSpec)

/-- 'warplaw09.VmRuns', WHERE WHAT IT READS IS OF BULK AT MOST 1048576: true; the input reads as it did. -/
def vmRunsUptoRow : OpenClaim := { program := "ytgonllbkcgaliaagreatdoor", sum := "9433eb291bac5bebc12b67f0488139340181fa04ed7c8caaadd8808f873facb8", func := "warp/warplaw09.VmRuns", spec := "vmRuns", unfollowed := true, recurses := true, named := ["warp/ops.codes", "warp/verify.effects"], apart := false, laid := [("warp/ops.codes", laid_warp_ops_codes), ("warp/verify.effects", laid_warp_verify_effects)], narrowed := true }
def VmRunsUptoSaid : Prop := vmRunsUptoRow.holds Tryz.pinned (OpenSpec.upto vmRunsSpec)

end Rows
end Go.Proofs.YtgonllbkcgaliaaGreatDoor
