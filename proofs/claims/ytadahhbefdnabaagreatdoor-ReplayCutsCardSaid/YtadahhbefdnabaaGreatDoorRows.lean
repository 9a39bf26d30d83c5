/-
  NARROWER THAN 'FOR EVERY INPUT', by the rows' own cells (each row's printed sentence says how): ReplayHashes: laid · ReplayAll: laid · ReplayCuts: laid · ReplayRecords: laid · ReplayPlays: laid · ReplayBytes: laid · ReplayAgain: laid · TapePlays: laid.
  DERIVED. THE GIVEN ROWS OF THIS SEAT. 8 by the template 'for every input the law returns true; each argument reads behind the call as it read before'; 0 by the template 'total and deterministic' (their statements: YtadahhbefdnabaaGreatDoorTotals.lean).
  GIVEN WITH THE SEED: the statements are not yours to turn. If you find one false, say at which input.
  Laid BY PROGRAM, IN A SANDBOX (cutbox-rows.mjs): the forced cells as the released guide's own fill.sh prints them over the translation 863fe83b6e6f51fb… (all of the seat's roots in one cut). By AI agents, Wed Nov 11 2026. No macro, syntax, notation, axiom, sorry.
-/
import Derived.Test.YtadahhbefdnabaaGreatDoorChecked
import GoSem.Claim
import GoSem.ClaimJoined
import GoSem.ClaimMapViews
import Derived.JoinedTies
import Derived.KernelRfl
namespace Go.Proofs.YtadahhbefdnabaaGreatDoor
/- THE CELL 'sum', in the pinned program and in every row, IS THE sha256 OF THE DUMP (.gsa) THAT YtadahhbefdnabaaGreatDoorProg.lean LOADS. Nothing in Lean hashes anything: it is a label: what it is worth is what the hold of that sum in a sandbox is worth. -/
noncomputable def Tryz.pinned : Pinned := { name := "ytadahhbefdnabaagreatdoor", sum := "863fe83b6e6f51fb3c45fbd0aff197e5e09c1ea197d070cc15a4b877bac0ec91", checked := Tryz.checked }
namespace Rows
def none {H : Type} : Left H := { results := [], args := [] }

/- WHAT THE LISTED PACKAGE-LEVEL VARIABLES READ AS WHEN THE CALL BEGINS. Each datum BY PROGRAM (the guide's laid-datum.mjs) off the statement by which the dump's own 'gosem.cut.vars' lays the variable. In a bare row this is a premise. The card (YtadahhbefdnabaaGreatDoorCards.lean) ties it to the program's text. -/
def laid_warp_ops_codes {H : Type} : DataW H := .agg [.agg [.lit (.string []), .lit (.int .i64 0)], .agg [.lit (.string [112, 117, 115, 104]), .lit (.int .i64 3)], .agg [.lit (.string [118, 97, 114]), .lit (.int .i64 1)], .agg [.lit (.string [108, 111, 99, 97, 108]), .lit (.int .i64 1)], .agg [.lit (.string [99, 101, 108, 108]), .lit (.int .i64 1)], .agg [.lit (.string [115, 101, 116, 118, 97, 114]), .lit (.int .i64 1)], .agg [.lit (.string [115, 101, 116, 108, 111, 99, 97, 108]), .lit (.int .i64 1)], .agg [.lit (.string [115, 101, 116, 99, 101, 108, 108]), .lit (.int .i64 1)], .agg [.lit (.string [110, 101, 103]), .lit (.int .i64 0)], .agg [.lit (.string [110, 111, 116]), .lit (.int .i64 0)], .agg [.lit (.string [101, 113]), .lit (.int .i64 0)], .agg [.lit (.string [110, 101]), .lit (.int .i64 0)], .agg [.lit (.string [108, 116]), .lit (.int .i64 0)], .agg [.lit (.string [108, 101]), .lit (.int .i64 0)], .agg [.lit (.string [97, 100, 100]), .lit (.int .i64 0)], .agg [.lit (.string [115, 117, 98]), .lit (.int .i64 0)], .agg [.lit (.string [109, 117, 108]), .lit (.int .i64 0)], .agg [.lit (.string [100, 105, 118]), .lit (.int .i64 0)], .agg [.lit (.string [109, 111, 100]), .lit (.int .i64 0)], .agg [.lit (.string [106, 117, 109, 112]), .lit (.int .i64 1)], .agg [.lit (.string [106, 117, 109, 112, 122]), .lit (.int .i64 1)], .agg [.lit (.string [106, 117, 109, 112, 110, 122]), .lit (.int .i64 1)], .agg [.lit (.string [98, 111, 111, 108]), .lit (.int .i64 0)], .agg [.lit (.string [109, 97, 114, 107]), .lit (.int .i64 1)], .agg [.lit (.string [108, 111, 99, 107]), .lit (.int .i64 1)], .agg [.lit (.string [117, 110, 108, 111, 99, 107]), .lit (.int .i64 1)], .agg [.lit (.string [119, 97, 105, 116]), .lit (.int .i64 2)], .agg [.lit (.string [115, 105, 103, 110, 97, 108]), .lit (.int .i64 1)], .agg [.lit (.string [97, 108, 108]), .lit (.int .i64 1)], .agg [.lit (.string [115, 101, 110, 100]), .lit (.int .i64 1)], .agg [.lit (.string [114, 101, 99, 118]), .lit (.int .i64 1)], .agg [.lit (.string [115, 112, 97, 119, 110]), .lit (.int .i64 1)], .agg [.lit (.string [106, 111, 105, 110]), .lit (.int .i64 0)], .agg [.lit (.string [112, 114, 105, 110, 116]), .lit (.int .i64 0)], .agg [.lit (.string [101, 110, 100]), .lit (.int .i64 0)]]
def laid_warp_compile_opCodes {H : Type} : DataW H := .agg [.lit (.int .i64 0), .lit (.int .i64 0), .lit (.int .i64 0), .lit (.int .i64 10), .lit (.int .i64 11), .lit (.int .i64 12), .lit (.int .i64 13), .lit (.int .i64 14), .lit (.int .i64 15), .lit (.int .i64 16), .lit (.int .i64 17), .lit (.int .i64 18)]
def laid_warp_verify_effects {H : Type} : DataW H := .agg [.agg [.lit (.int .i64 0), .lit (.int .i64 0)], .agg [.lit (.int .i64 0), .lit (.int .i64 1)], .agg [.lit (.int .i64 0), .lit (.int .i64 1)], .agg [.lit (.int .i64 0), .lit (.int .i64 1)], .agg [.lit (.int .i64 1), .lit (.int .i64 1)], .agg [.lit (.int .i64 1), .lit (.int .i64 0)], .agg [.lit (.int .i64 1), .lit (.int .i64 0)], .agg [.lit (.int .i64 2), .lit (.int .i64 0)], .agg [.lit (.int .i64 1), .lit (.int .i64 1)], .agg [.lit (.int .i64 1), .lit (.int .i64 1)], .agg [.lit (.int .i64 2), .lit (.int .i64 1)], .agg [.lit (.int .i64 2), .lit (.int .i64 1)], .agg [.lit (.int .i64 2), .lit (.int .i64 1)], .agg [.lit (.int .i64 2), .lit (.int .i64 1)], .agg [.lit (.int .i64 2), .lit (.int .i64 1)], .agg [.lit (.int .i64 2), .lit (.int .i64 1)], .agg [.lit (.int .i64 2), .lit (.int .i64 1)], .agg [.lit (.int .i64 2), .lit (.int .i64 1)], .agg [.lit (.int .i64 2), .lit (.int .i64 1)], .agg [.lit (.int .i64 0), .lit (.int .i64 0)], .agg [.lit (.int .i64 1), .lit (.int .i64 0)], .agg [.lit (.int .i64 1), .lit (.int .i64 0)], .agg [.lit (.int .i64 1), .lit (.int .i64 1)], .agg [.lit (.int .i64 0), .lit (.int .i64 0)], .agg [.lit (.int .i64 0), .lit (.int .i64 0)], .agg [.lit (.int .i64 0), .lit (.int .i64 0)], .agg [.lit (.int .i64 0), .lit (.int .i64 0)], .agg [.lit (.int .i64 0), .lit (.int .i64 0)], .agg [.lit (.int .i64 0), .lit (.int .i64 0)], .agg [.lit (.int .i64 1), .lit (.int .i64 0)], .agg [.lit (.int .i64 0), .lit (.int .i64 1)], .agg [.lit (.int .i64 0), .lit (.int .i64 0)], .agg [.lit (.int .i64 0), .lit (.int .i64 0)], .agg [.lit (.int .i64 1), .lit (.int .i64 0)], .agg [.lit (.int .i64 0), .lit (.int .i64 0)]]

/-- 'warplaw12.ReplayHashes': WHATEVER THE INPUT: true; the input reads as it did. -/
def replayHashesSpec : ChangeSpec := { name := "replayHashes", fn := fun _ => fun
  | [d] => { results := [.lit (.bool true)], args := [d] }
  | _ => none }
def replayHashesRow : OpenClaim := { program := "ytadahhbefdnabaagreatdoor", sum := "863fe83b6e6f51fb3c45fbd0aff197e5e09c1ea197d070cc15a4b877bac0ec91", func := "warp/warplaw12.ReplayHashes", spec := "replayHashes", unfollowed := true, recurses := true, named := ["warp/compile.opCodes", "warp/ops.codes", "warp/verify.effects"], apart := false, laid := [("warp/ops.codes", laid_warp_ops_codes), ("warp/compile.opCodes", laid_warp_compile_opCodes), ("warp/verify.effects", laid_warp_verify_effects)] }
def ReplayHashesSaid : Prop := replayHashesRow.holds Tryz.pinned (OpenSpec.ofChange replayHashesSpec)

/-- ITS FALSE NEIGHBOUR: 'it returns false'. Refute it at one input. -/
def replayHashesWrong : ChangeSpec := { name := "replayHashes", fn := fun _ => fun
  | [d] => { results := [.lit (.bool false)], args := [d] }
  | _ => none }
def ReplayHashesWrongFalsely : Prop := replayHashesRow.holds Tryz.pinned (OpenSpec.ofChange replayHashesWrong)

/-- 'warplaw12.ReplayAll': WHATEVER THE INPUT: true; the input reads as it did. -/
def replayAllSpec : ChangeSpec := { name := "replayAll", fn := fun _ => fun
  | [d1, d2, d3] => { results := [.lit (.bool true)], args := [d1, d2, d3] }
  | _ => none }
def replayAllRow : OpenClaim := { program := "ytadahhbefdnabaagreatdoor", sum := "863fe83b6e6f51fb3c45fbd0aff197e5e09c1ea197d070cc15a4b877bac0ec91", func := "warp/warplaw12.ReplayAll", spec := "replayAll", unfollowed := true, recurses := true, named := ["warp/compile.opCodes", "warp/ops.codes", "warp/verify.effects"], apart := false, laid := [("warp/ops.codes", laid_warp_ops_codes), ("warp/compile.opCodes", laid_warp_compile_opCodes), ("warp/verify.effects", laid_warp_verify_effects)] }
def ReplayAllSaid : Prop := replayAllRow.holds Tryz.pinned (OpenSpec.ofChange replayAllSpec)

/-- ITS FALSE NEIGHBOUR: 'it returns false'. Refute it at one input. -/
def replayAllWrong : ChangeSpec := { name := "replayAll", fn := fun _ => fun
  | [d1, d2, d3] => { results := [.lit (.bool false)], args := [d1, d2, d3] }
  | _ => none }
def ReplayAllWrongFalsely : Prop := replayAllRow.holds Tryz.pinned (OpenSpec.ofChange replayAllWrong)

/-- 'warplaw12.ReplayCuts': WHATEVER THE INPUT: true; the input reads as it did. -/
def replayCutsSpec : ChangeSpec := { name := "replayCuts", fn := fun _ => fun
  | [d1, d2, d3] => { results := [.lit (.bool true)], args := [d1, d2, d3] }
  | _ => none }
def replayCutsRow : OpenClaim := { program := "ytadahhbefdnabaagreatdoor", sum := "863fe83b6e6f51fb3c45fbd0aff197e5e09c1ea197d070cc15a4b877bac0ec91", func := "warp/warplaw12.ReplayCuts", spec := "replayCuts", unfollowed := true, recurses := true, named := ["warp/compile.opCodes", "warp/ops.codes", "warp/verify.effects"], apart := false, laid := [("warp/ops.codes", laid_warp_ops_codes), ("warp/compile.opCodes", laid_warp_compile_opCodes), ("warp/verify.effects", laid_warp_verify_effects)] }
def ReplayCutsSaid : Prop := replayCutsRow.holds Tryz.pinned (OpenSpec.ofChange replayCutsSpec)

/-- ITS FALSE NEIGHBOUR: 'it returns false'. Refute it at one input. -/
def replayCutsWrong : ChangeSpec := { name := "replayCuts", fn := fun _ => fun
  | [d1, d2, d3] => { results := [.lit (.bool false)], args := [d1, d2, d3] }
  | _ => none }
def ReplayCutsWrongFalsely : Prop := replayCutsRow.holds Tryz.pinned (OpenSpec.ofChange replayCutsWrong)

/-- 'warplaw12.ReplayRecords': WHATEVER THE INPUT: true; the input reads as it did. -/
def replayRecordsSpec : ChangeSpec := { name := "replayRecords", fn := fun _ => fun
  | [d1, d2] => { results := [.lit (.bool true)], args := [d1, d2] }
  | _ => none }
def replayRecordsRow : OpenClaim := { program := "ytadahhbefdnabaagreatdoor", sum := "863fe83b6e6f51fb3c45fbd0aff197e5e09c1ea197d070cc15a4b877bac0ec91", func := "warp/warplaw12.ReplayRecords", spec := "replayRecords", unfollowed := true, recurses := true, named := ["warp/compile.opCodes", "warp/ops.codes", "warp/verify.effects"], apart := false, laid := [("warp/ops.codes", laid_warp_ops_codes), ("warp/compile.opCodes", laid_warp_compile_opCodes), ("warp/verify.effects", laid_warp_verify_effects)] }
def ReplayRecordsSaid : Prop := replayRecordsRow.holds Tryz.pinned (OpenSpec.ofChange replayRecordsSpec)

/-- ITS FALSE NEIGHBOUR: 'it returns false'. Refute it at one input. -/
def replayRecordsWrong : ChangeSpec := { name := "replayRecords", fn := fun _ => fun
  | [d1, d2] => { results := [.lit (.bool false)], args := [d1, d2] }
  | _ => none }
def ReplayRecordsWrongFalsely : Prop := replayRecordsRow.holds Tryz.pinned (OpenSpec.ofChange replayRecordsWrong)

/-- 'warplaw12.ReplayPlays': WHATEVER THE INPUT: true; the input reads as it did. -/
def replayPlaysSpec : ChangeSpec := { name := "replayPlays", fn := fun _ => fun
  | [d1, d2, d3, d4] => { results := [.lit (.bool true)], args := [d1, d2, d3, d4] }
  | _ => none }
def replayPlaysRow : OpenClaim := { program := "ytadahhbefdnabaagreatdoor", sum := "863fe83b6e6f51fb3c45fbd0aff197e5e09c1ea197d070cc15a4b877bac0ec91", func := "warp/warplaw12.ReplayPlays", spec := "replayPlays", unfollowed := true, recurses := true, named := ["warp/compile.opCodes", "warp/ops.codes", "warp/verify.effects"], apart := false, laid := [("warp/ops.codes", laid_warp_ops_codes), ("warp/compile.opCodes", laid_warp_compile_opCodes), ("warp/verify.effects", laid_warp_verify_effects)] }
def ReplayPlaysSaid : Prop := replayPlaysRow.holds Tryz.pinned (OpenSpec.ofChange replayPlaysSpec)

/-- ITS FALSE NEIGHBOUR: 'it returns false'. Refute it at one input. -/
def replayPlaysWrong : ChangeSpec := { name := "replayPlays", fn := fun _ => fun
  | [d1, d2, d3, d4] => { results := [.lit (.bool false)], args := [d1, d2, d3, d4] }
  | _ => none }
def ReplayPlaysWrongFalsely : Prop := replayPlaysRow.holds Tryz.pinned (OpenSpec.ofChange replayPlaysWrong)

/-- 'warplaw12.ReplayBytes': WHATEVER THE INPUT: true; the input reads as it did. -/
def replayBytesSpec : ChangeSpec := { name := "replayBytes", fn := fun _ => fun
  | [d1, d2] => { results := [.lit (.bool true)], args := [d1, d2] }
  | _ => none }
def replayBytesRow : OpenClaim := { program := "ytadahhbefdnabaagreatdoor", sum := "863fe83b6e6f51fb3c45fbd0aff197e5e09c1ea197d070cc15a4b877bac0ec91", func := "warp/warplaw12.ReplayBytes", spec := "replayBytes", unfollowed := true, recurses := true, named := ["warp/compile.opCodes", "warp/ops.codes", "warp/verify.effects"], apart := false, laid := [("warp/ops.codes", laid_warp_ops_codes), ("warp/compile.opCodes", laid_warp_compile_opCodes), ("warp/verify.effects", laid_warp_verify_effects)] }
def ReplayBytesSaid : Prop := replayBytesRow.holds Tryz.pinned (OpenSpec.ofChange replayBytesSpec)

/-- ITS FALSE NEIGHBOUR: 'it returns false'. Refute it at one input. -/
def replayBytesWrong : ChangeSpec := { name := "replayBytes", fn := fun _ => fun
  | [d1, d2] => { results := [.lit (.bool false)], args := [d1, d2] }
  | _ => none }
def ReplayBytesWrongFalsely : Prop := replayBytesRow.holds Tryz.pinned (OpenSpec.ofChange replayBytesWrong)

/-- 'warplaw12.ReplayAgain': WHATEVER THE INPUT: true; the input reads as it did. -/
def replayAgainSpec : ChangeSpec := { name := "replayAgain", fn := fun _ => fun
  | [d1, d2] => { results := [.lit (.bool true)], args := [d1, d2] }
  | _ => none }
def replayAgainRow : OpenClaim := { program := "ytadahhbefdnabaagreatdoor", sum := "863fe83b6e6f51fb3c45fbd0aff197e5e09c1ea197d070cc15a4b877bac0ec91", func := "warp/warplaw12.ReplayAgain", spec := "replayAgain", unfollowed := true, recurses := true, named := ["warp/compile.opCodes", "warp/ops.codes", "warp/verify.effects"], apart := false, laid := [("warp/ops.codes", laid_warp_ops_codes), ("warp/compile.opCodes", laid_warp_compile_opCodes), ("warp/verify.effects", laid_warp_verify_effects)] }
def ReplayAgainSaid : Prop := replayAgainRow.holds Tryz.pinned (OpenSpec.ofChange replayAgainSpec)

/-- ITS FALSE NEIGHBOUR: 'it returns false'. Refute it at one input. -/
def replayAgainWrong : ChangeSpec := { name := "replayAgain", fn := fun _ => fun
  | [d1, d2] => { results := [.lit (.bool false)], args := [d1, d2] }
  | _ => none }
def ReplayAgainWrongFalsely : Prop := replayAgainRow.holds Tryz.pinned (OpenSpec.ofChange replayAgainWrong)

/-- 'warplaw25.TapePlays': WHATEVER THE INPUT: true; the input reads as it did. -/
def tapePlaysSpec : ChangeSpec := { name := "tapePlays", fn := fun _ => fun
  | [d1, d2, d3] => { results := [.lit (.bool true)], args := [d1, d2, d3] }
  | _ => none }
def tapePlaysRow : OpenClaim := { program := "ytadahhbefdnabaagreatdoor", sum := "863fe83b6e6f51fb3c45fbd0aff197e5e09c1ea197d070cc15a4b877bac0ec91", func := "warp/warplaw25.TapePlays", spec := "tapePlays", unfollowed := true, recurses := true, named := ["warp/compile.opCodes", "warp/ops.codes", "warp/verify.effects"], apart := false, laid := [("warp/ops.codes", laid_warp_ops_codes), ("warp/compile.opCodes", laid_warp_compile_opCodes), ("warp/verify.effects", laid_warp_verify_effects)] }
def TapePlaysSaid : Prop := tapePlaysRow.holds Tryz.pinned (OpenSpec.ofChange tapePlaysSpec)

/-- ITS FALSE NEIGHBOUR: 'it returns false'. Refute it at one input. -/
def tapePlaysWrong : ChangeSpec := { name := "tapePlays", fn := fun _ => fun
  | [d1, d2, d3] => { results := [.lit (.bool false)], args := [d1, d2, d3] }
  | _ => none }
def TapePlaysWrongFalsely : Prop := tapePlaysRow.holds Tryz.pinned (OpenSpec.ofChange tapePlaysWrong)

/- THE SECOND FORM. 'bulk': how many values and letters a reading holds, each counted each time it is reached (what is shared counts as often as it is met; a slice's spare places count too). A statement '..UptoSaid' is the law's where the arguments, and the package variables that the reading takes, are together of bulk at most 1048576: NARROWER than '..Said'. Prove '..Said' where nothing that the law and all that it calls make is longer than what came in: it says more and counts as full. Else prove '..UptoSaid'. A law counts once. -/
mutual
def uptoBulk {H : Type} : DataW H → Nat
  | .lit (.string bytes) => bytes.length + 1
  | .lit _ => 1
  | .nil => 1
  | .ptr d => uptoBulk d + 1
  | .slice elems spare => uptoBulkAll elems + uptoBulkAll spare + 1
  | .agg parts => uptoBulkAll parts + 1
  | .iface _ d => uptoBulk d + 1
  | .map entries => uptoBulkEntries entries + 1
  | .held _ => 1
def uptoBulkAll {H : Type} : List (DataW H) → Nat
  | [] => 0
  | d :: r => uptoBulk d + uptoBulkAll r
def uptoBulkEntries {H : Type} : List (Lit × DataW H) → Nat
  | [] => 0
  | x :: r => uptoBulkEntry x + uptoBulkEntries r
def uptoBulkEntry {H : Type} : Lit × DataW H → Nat
  | (.string bytes, d) => bytes.length + uptoBulk d + 1
  | (_, d) => uptoBulk d + 1
 end
def uptoSmall : (H : Type) → List (DataW H) → Bool := fun _ ds => decide (uptoBulkAll ds ≤ 1048576)
def OpenSpec.upto (s : _root_.Go.ChangeSpec) : _root_.Go.OpenSpec := { _root_.Go.OpenSpec.ofChange s with cond := some uptoSmall }

/-- 'warplaw12.ReplayHashes', WHERE WHAT IT READS IS OF BULK AT MOST 1048576: true; the input reads as it did. -/
def replayHashesUptoRow : OpenClaim := { program := "ytadahhbefdnabaagreatdoor", sum := "863fe83b6e6f51fb3c45fbd0aff197e5e09c1ea197d070cc15a4b877bac0ec91", func := "warp/warplaw12.ReplayHashes", spec := "replayHashes", unfollowed := true, recurses := true, named := ["warp/compile.opCodes", "warp/ops.codes", "warp/verify.effects"], apart := false, laid := [("warp/ops.codes", laid_warp_ops_codes), ("warp/compile.opCodes", laid_warp_compile_opCodes), ("warp/verify.effects", laid_warp_verify_effects)], narrowed := true }
def ReplayHashesUptoSaid : Prop := replayHashesUptoRow.holds Tryz.pinned (OpenSpec.upto replayHashesSpec)

/-- 'warplaw12.ReplayAll', WHERE WHAT IT READS IS OF BULK AT MOST 1048576: true; the input reads as it did. -/
def replayAllUptoRow : OpenClaim := { program := "ytadahhbefdnabaagreatdoor", sum := "863fe83b6e6f51fb3c45fbd0aff197e5e09c1ea197d070cc15a4b877bac0ec91", func := "warp/warplaw12.ReplayAll", spec := "replayAll", unfollowed := true, recurses := true, named := ["warp/compile.opCodes", "warp/ops.codes", "warp/verify.effects"], apart := false, laid := [("warp/ops.codes", laid_warp_ops_codes), ("warp/compile.opCodes", laid_warp_compile_opCodes), ("warp/verify.effects", laid_warp_verify_effects)], narrowed := true }
def ReplayAllUptoSaid : Prop := replayAllUptoRow.holds Tryz.pinned (OpenSpec.upto replayAllSpec)

/-- 'warplaw12.ReplayCuts', WHERE WHAT IT READS IS OF BULK AT MOST 1048576: true; the input reads as it did. -/
def replayCutsUptoRow : OpenClaim := { program := "ytadahhbefdnabaagreatdoor", sum := "863fe83b6e6f51fb3c45fbd0aff197e5e09c1ea197d070cc15a4b877bac0ec91", func := "warp/warplaw12.ReplayCuts", spec := "replayCuts", unfollowed := true, recurses := true, named := ["warp/compile.opCodes", "warp/ops.codes", "warp/verify.effects"], apart := false, laid := [("warp/ops.codes", laid_warp_ops_codes), ("warp/compile.opCodes", laid_warp_compile_opCodes), ("warp/verify.effects", laid_warp_verify_effects)], narrowed := true }
def ReplayCutsUptoSaid : Prop := replayCutsUptoRow.holds Tryz.pinned (OpenSpec.upto replayCutsSpec)

/-- 'warplaw12.ReplayRecords', WHERE WHAT IT READS IS OF BULK AT MOST 1048576: true; the input reads as it did. -/
def replayRecordsUptoRow : OpenClaim := { program := "ytadahhbefdnabaagreatdoor", sum := "863fe83b6e6f51fb3c45fbd0aff197e5e09c1ea197d070cc15a4b877bac0ec91", func := "warp/warplaw12.ReplayRecords", spec := "replayRecords", unfollowed := true, recurses := true, named := ["warp/compile.opCodes", "warp/ops.codes", "warp/verify.effects"], apart := false, laid := [("warp/ops.codes", laid_warp_ops_codes), ("warp/compile.opCodes", laid_warp_compile_opCodes), ("warp/verify.effects", laid_warp_verify_effects)], narrowed := true }
def ReplayRecordsUptoSaid : Prop := replayRecordsUptoRow.holds Tryz.pinned (OpenSpec.upto replayRecordsSpec)

/-- 'warplaw12.ReplayPlays', WHERE WHAT IT READS IS OF BULK AT MOST 1048576: true; the input reads as it did. -/
def replayPlaysUptoRow : OpenClaim := { program := "ytadahhbefdnabaagreatdoor", sum := "863fe83b6e6f51fb3c45fbd0aff197e5e09c1ea197d070cc15a4b877bac0ec91", func := "warp/warplaw12.ReplayPlays", spec := "replayPlays", unfollowed := true, recurses := true, named := ["warp/compile.opCodes", "warp/ops.codes", "warp/verify.effects"], apart := false, laid := [("warp/ops.codes", laid_warp_ops_codes), ("warp/compile.opCodes", laid_warp_compile_opCodes), ("warp/verify.effects", laid_warp_verify_effects)], narrowed := true }
def ReplayPlaysUptoSaid : Prop := replayPlaysUptoRow.holds Tryz.pinned (OpenSpec.upto replayPlaysSpec)

/-- 'warplaw12.ReplayBytes', WHERE WHAT IT READS IS OF BULK AT MOST 1048576: true; the input reads as it did. -/
def replayBytesUptoRow : OpenClaim := { program := "ytadahhbefdnabaagreatdoor", sum := "863fe83b6e6f51fb3c45fbd0aff197e5e09c1ea197d070cc15a4b877bac0ec91", func := "warp/warplaw12.ReplayBytes", spec := "replayBytes", unfollowed := true, recurses := true, named := ["warp/compile.opCodes", "warp/ops.codes", "warp/verify.effects"], apart := false, laid := [("warp/ops.codes", laid_warp_ops_codes), ("warp/compile.opCodes", laid_warp_compile_opCodes), ("warp/verify.effects", laid_warp_verify_effects)], narrowed := true }
def ReplayBytesUptoSaid : Prop := replayBytesUptoRow.holds Tryz.pinned (OpenSpec.upto replayBytesSpec)

/-- 'warplaw12.ReplayAgain', WHERE WHAT IT READS IS OF BULK AT MOST 1048576: true; the input reads as it did. -/
def replayAgainUptoRow : OpenClaim := { program := "ytadahhbefdnabaagreatdoor", sum := "863fe83b6e6f51fb3c45fbd0aff197e5e09c1ea197d070cc15a4b877bac0ec91", func := "warp/warplaw12.ReplayAgain", spec := "replayAgain", unfollowed := true, recurses := true, named := ["warp/compile.opCodes", "warp/ops.codes", "warp/verify.effects"], apart := false, laid := [("warp/ops.codes", laid_warp_ops_codes), ("warp/compile.opCodes", laid_warp_compile_opCodes), ("warp/verify.effects", laid_warp_verify_effects)], narrowed := true }
def ReplayAgainUptoSaid : Prop := replayAgainUptoRow.holds Tryz.pinned (OpenSpec.upto replayAgainSpec)

/-- 'warplaw25.TapePlays', WHERE WHAT IT READS IS OF BULK AT MOST 1048576: true; the input reads as it did. -/
def tapePlaysUptoRow : OpenClaim := { program := "ytadahhbefdnabaagreatdoor", sum := "863fe83b6e6f51fb3c45fbd0aff197e5e09c1ea197d070cc15a4b877bac0ec91", func := "warp/warplaw25.TapePlays", spec := "tapePlays", unfollowed := true, recurses := true, named := ["warp/compile.opCodes", "warp/ops.codes", "warp/verify.effects"], apart := false, laid := [("warp/ops.codes", laid_warp_ops_codes), ("warp/compile.opCodes", laid_warp_compile_opCodes), ("warp/verify.effects", laid_warp_verify_effects)], narrowed := true }
def TapePlaysUptoSaid : Prop := tapePlaysUptoRow.holds Tryz.pinned (OpenSpec.upto tapePlaysSpec)

end Rows
end Go.Proofs.YtadahhbefdnabaaGreatDoor
