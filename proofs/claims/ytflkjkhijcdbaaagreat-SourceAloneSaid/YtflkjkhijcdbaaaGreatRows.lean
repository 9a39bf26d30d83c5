/-
  NARROWER THAN 'FOR EVERY INPUT', by the rows' own cells (each row's printed sentence says how): SourceAny: loops.
  DERIVED. THE GIVEN ROWS OF THIS SEAT. 10 by the template 'for every input the law returns true; each argument reads behind the call as it read before'; 0 by the template 'total and deterministic' (their statements: YtflkjkhijcdbaaaGreatTotals.lean).
  GIVEN WITH THE SEED: the statements are not yours to turn. If you find one false, say at which input.
  Laid BY PROGRAM, IN A SANDBOX (cutbox-rows.mjs): the forced cells as the released guide's own fill.sh prints them over the translation 45159ba9b0d519ef… (all of the seat's roots in one cut). By AI agents, Wed Nov 11 2026. No macro, syntax, notation, axiom, sorry.
-/
import Derived.Test.YtflkjkhijcdbaaaGreatChecked
import GoSem.Claim
import GoSem.ClaimJoined
import GoSem.ClaimMapViews
import Derived.JoinedTies
import Derived.KernelRfl
namespace Go.Proofs.YtflkjkhijcdbaaaGreat
/- THE CELL 'sum', in the pinned program and in every row, IS THE sha256 OF THE DUMP (.gsa) THAT YtflkjkhijcdbaaaGreatProg.lean LOADS. Nothing in Lean hashes anything: it is a label: what it is worth is what the hold of that sum in a sandbox is worth. -/
noncomputable def Tryz.pinned : Pinned := { name := "ytflkjkhijcdbaaagreat", sum := "45159ba9b0d519ef1977d5788624c01043e6e959589c44035471bbacb592c0d5", checked := Tryz.checked }
namespace Rows
def none {H : Type} : Left H := { results := [], args := [] }

/-- 'warplaw05.SourceMutex': WHATEVER THE INPUT: true; the input reads as it did. -/
def sourceMutexSpec : ChangeSpec := { name := "sourceMutex", fn := fun _ => fun
  | [d1, d2] => { results := [.lit (.bool true)], args := [d1, d2] }
  | _ => none }
def sourceMutexRow : OpenClaim := { program := "ytflkjkhijcdbaaagreat", sum := "45159ba9b0d519ef1977d5788624c01043e6e959589c44035471bbacb592c0d5", func := "warp/warplaw05.SourceMutex", spec := "sourceMutex", unfollowed := true, recurses := true, apart := false }
def SourceMutexSaid : Prop := sourceMutexRow.holds Tryz.pinned (OpenSpec.ofChange sourceMutexSpec)

/-- ITS FALSE NEIGHBOUR: 'it returns false'. Refute it at one input. -/
def sourceMutexWrong : ChangeSpec := { name := "sourceMutex", fn := fun _ => fun
  | [d1, d2] => { results := [.lit (.bool false)], args := [d1, d2] }
  | _ => none }
def SourceMutexWrongFalsely : Prop := sourceMutexRow.holds Tryz.pinned (OpenSpec.ofChange sourceMutexWrong)

/-- 'warplaw05.SourceAny': WHATEVER THE INPUT: true; the input reads as it did. -/
def sourceAnySpec : ChangeSpec := { name := "sourceAny", fn := fun _ => fun
  | [d1, d2] => { results := [.lit (.bool true)], args := [d1, d2] }
  | _ => none }
def sourceAnyRow : OpenClaim := { program := "ytflkjkhijcdbaaagreat", sum := "45159ba9b0d519ef1977d5788624c01043e6e959589c44035471bbacb592c0d5", func := "warp/warplaw05.SourceAny", spec := "sourceAny", unfollowed := true, recurses := true, loops := true, apart := false }
def SourceAnySaid : Prop := sourceAnyRow.holds Tryz.pinned (OpenSpec.ofChange sourceAnySpec)

/-- ITS FALSE NEIGHBOUR: 'it returns false'. Refute it at one input. -/
def sourceAnyWrong : ChangeSpec := { name := "sourceAny", fn := fun _ => fun
  | [d1, d2] => { results := [.lit (.bool false)], args := [d1, d2] }
  | _ => none }
def SourceAnyWrongFalsely : Prop := sourceAnyRow.holds Tryz.pinned (OpenSpec.ofChange sourceAnyWrong)

/-- 'warplaw05.SourceAlone': WHATEVER THE INPUT: true; the input reads as it did. -/
def sourceAloneSpec : ChangeSpec := { name := "sourceAlone", fn := fun _ => fun
  | [d1, d2, d3] => { results := [.lit (.bool true)], args := [d1, d2, d3] }
  | _ => none }
def sourceAloneRow : OpenClaim := { program := "ytflkjkhijcdbaaagreat", sum := "45159ba9b0d519ef1977d5788624c01043e6e959589c44035471bbacb592c0d5", func := "warp/warplaw05.SourceAlone", spec := "sourceAlone", unfollowed := true, recurses := true, apart := false }
def SourceAloneSaid : Prop := sourceAloneRow.holds Tryz.pinned (OpenSpec.ofChange sourceAloneSpec)

/-- ITS FALSE NEIGHBOUR: 'it returns false'. Refute it at one input. -/
def sourceAloneWrong : ChangeSpec := { name := "sourceAlone", fn := fun _ => fun
  | [d1, d2, d3] => { results := [.lit (.bool false)], args := [d1, d2, d3] }
  | _ => none }
def SourceAloneWrongFalsely : Prop := sourceAloneRow.holds Tryz.pinned (OpenSpec.ofChange sourceAloneWrong)

/-- 'warplaw05.SourcePlay': WHATEVER THE INPUT: true; the input reads as it did. -/
def sourcePlaySpec : ChangeSpec := { name := "sourcePlay", fn := fun _ => fun
  | [d1, d2] => { results := [.lit (.bool true)], args := [d1, d2] }
  | _ => none }
def sourcePlayRow : OpenClaim := { program := "ytflkjkhijcdbaaagreat", sum := "45159ba9b0d519ef1977d5788624c01043e6e959589c44035471bbacb592c0d5", func := "warp/warplaw05.SourcePlay", spec := "sourcePlay", unfollowed := true, recurses := true, apart := false }
def SourcePlaySaid : Prop := sourcePlayRow.holds Tryz.pinned (OpenSpec.ofChange sourcePlaySpec)

/-- ITS FALSE NEIGHBOUR: 'it returns false'. Refute it at one input. -/
def sourcePlayWrong : ChangeSpec := { name := "sourcePlay", fn := fun _ => fun
  | [d1, d2] => { results := [.lit (.bool false)], args := [d1, d2] }
  | _ => none }
def SourcePlayWrongFalsely : Prop := sourcePlayRow.holds Tryz.pinned (OpenSpec.ofChange sourcePlayWrong)

/-- 'warplaw05.SourceDo': WHATEVER THE INPUT: true; the input reads as it did. -/
def sourceDoSpec : ChangeSpec := { name := "sourceDo", fn := fun _ => fun
  | [d1, d2] => { results := [.lit (.bool true)], args := [d1, d2] }
  | _ => none }
def sourceDoRow : OpenClaim := { program := "ytflkjkhijcdbaaagreat", sum := "45159ba9b0d519ef1977d5788624c01043e6e959589c44035471bbacb592c0d5", func := "warp/warplaw05.SourceDo", spec := "sourceDo", unfollowed := true, recurses := true, apart := false }
def SourceDoSaid : Prop := sourceDoRow.holds Tryz.pinned (OpenSpec.ofChange sourceDoSpec)

/-- ITS FALSE NEIGHBOUR: 'it returns false'. Refute it at one input. -/
def sourceDoWrong : ChangeSpec := { name := "sourceDo", fn := fun _ => fun
  | [d1, d2] => { results := [.lit (.bool false)], args := [d1, d2] }
  | _ => none }
def SourceDoWrongFalsely : Prop := sourceDoRow.holds Tryz.pinned (OpenSpec.ofChange sourceDoWrong)

/-- 'warplaw05.SourceRun': WHATEVER THE INPUT: true; the input reads as it did. -/
def sourceRunSpec : ChangeSpec := { name := "sourceRun", fn := fun _ => fun
  | [d1, d2] => { results := [.lit (.bool true)], args := [d1, d2] }
  | _ => none }
def sourceRunRow : OpenClaim := { program := "ytflkjkhijcdbaaagreat", sum := "45159ba9b0d519ef1977d5788624c01043e6e959589c44035471bbacb592c0d5", func := "warp/warplaw05.SourceRun", spec := "sourceRun", unfollowed := true, recurses := true, apart := false }
def SourceRunSaid : Prop := sourceRunRow.holds Tryz.pinned (OpenSpec.ofChange sourceRunSpec)

/-- ITS FALSE NEIGHBOUR: 'it returns false'. Refute it at one input. -/
def sourceRunWrong : ChangeSpec := { name := "sourceRun", fn := fun _ => fun
  | [d1, d2] => { results := [.lit (.bool false)], args := [d1, d2] }
  | _ => none }
def SourceRunWrongFalsely : Prop := sourceRunRow.holds Tryz.pinned (OpenSpec.ofChange sourceRunWrong)

/-- 'warplaw05.SourceExpr': WHATEVER THE INPUT: true; the input reads as it did. -/
def sourceExprSpec : ChangeSpec := { name := "sourceExpr", fn := fun _ => fun
  | [d1, d2] => { results := [.lit (.bool true)], args := [d1, d2] }
  | _ => none }
def sourceExprRow : OpenClaim := { program := "ytflkjkhijcdbaaagreat", sum := "45159ba9b0d519ef1977d5788624c01043e6e959589c44035471bbacb592c0d5", func := "warp/warplaw05.SourceExpr", spec := "sourceExpr", unfollowed := true, recurses := true, apart := false }
def SourceExprSaid : Prop := sourceExprRow.holds Tryz.pinned (OpenSpec.ofChange sourceExprSpec)

/-- ITS FALSE NEIGHBOUR: 'it returns false'. Refute it at one input. -/
def sourceExprWrong : ChangeSpec := { name := "sourceExpr", fn := fun _ => fun
  | [d1, d2] => { results := [.lit (.bool false)], args := [d1, d2] }
  | _ => none }
def SourceExprWrongFalsely : Prop := sourceExprRow.holds Tryz.pinned (OpenSpec.ofChange sourceExprWrong)

/-- 'warplaw05.SourceWaits': WHATEVER THE INPUT: true; the input reads as it did. -/
def sourceWaitsSpec : ChangeSpec := { name := "sourceWaits", fn := fun _ => fun
  | [d1, d2, d3] => { results := [.lit (.bool true)], args := [d1, d2, d3] }
  | _ => none }
def sourceWaitsRow : OpenClaim := { program := "ytflkjkhijcdbaaagreat", sum := "45159ba9b0d519ef1977d5788624c01043e6e959589c44035471bbacb592c0d5", func := "warp/warplaw05.SourceWaits", spec := "sourceWaits", unfollowed := true, recurses := true, apart := false }
def SourceWaitsSaid : Prop := sourceWaitsRow.holds Tryz.pinned (OpenSpec.ofChange sourceWaitsSpec)

/-- ITS FALSE NEIGHBOUR: 'it returns false'. Refute it at one input. -/
def sourceWaitsWrong : ChangeSpec := { name := "sourceWaits", fn := fun _ => fun
  | [d1, d2, d3] => { results := [.lit (.bool false)], args := [d1, d2, d3] }
  | _ => none }
def SourceWaitsWrongFalsely : Prop := sourceWaitsRow.holds Tryz.pinned (OpenSpec.ofChange sourceWaitsWrong)

/-- 'warplaw05.SourceCopies': WHATEVER THE INPUT: true; the input reads as it did. -/
def sourceCopiesSpec : ChangeSpec := { name := "sourceCopies", fn := fun _ => fun
  | [d1, d2, d3] => { results := [.lit (.bool true)], args := [d1, d2, d3] }
  | _ => none }
def sourceCopiesRow : OpenClaim := { program := "ytflkjkhijcdbaaagreat", sum := "45159ba9b0d519ef1977d5788624c01043e6e959589c44035471bbacb592c0d5", func := "warp/warplaw05.SourceCopies", spec := "sourceCopies", unfollowed := true, recurses := true, apart := false }
def SourceCopiesSaid : Prop := sourceCopiesRow.holds Tryz.pinned (OpenSpec.ofChange sourceCopiesSpec)

/-- ITS FALSE NEIGHBOUR: 'it returns false'. Refute it at one input. -/
def sourceCopiesWrong : ChangeSpec := { name := "sourceCopies", fn := fun _ => fun
  | [d1, d2, d3] => { results := [.lit (.bool false)], args := [d1, d2, d3] }
  | _ => none }
def SourceCopiesWrongFalsely : Prop := sourceCopiesRow.holds Tryz.pinned (OpenSpec.ofChange sourceCopiesWrong)

/-- 'warplaw05.SourceNil': WHATEVER THE INPUT: true; the input reads as it did. -/
def sourceNilSpec : ChangeSpec := { name := "sourceNil", fn := fun _ => fun
  | [d] => { results := [.lit (.bool true)], args := [d] }
  | _ => none }
def sourceNilRow : OpenClaim := { program := "ytflkjkhijcdbaaagreat", sum := "45159ba9b0d519ef1977d5788624c01043e6e959589c44035471bbacb592c0d5", func := "warp/warplaw05.SourceNil", spec := "sourceNil", unfollowed := true, recurses := true, apart := false }
def SourceNilSaid : Prop := sourceNilRow.holds Tryz.pinned (OpenSpec.ofChange sourceNilSpec)

/-- ITS FALSE NEIGHBOUR: 'it returns false'. Refute it at one input. -/
def sourceNilWrong : ChangeSpec := { name := "sourceNil", fn := fun _ => fun
  | [d] => { results := [.lit (.bool false)], args := [d] }
  | _ => none }
def SourceNilWrongFalsely : Prop := sourceNilRow.holds Tryz.pinned (OpenSpec.ofChange sourceNilWrong)

/- THE SECOND FORM. 'bulk': how many values and letters a reading holds, each counted each time it is reached (what is shared counts as often as it is met; a slice's spare places count too). A statement '..UptoSaid' is the law's where the arguments, and the package variables that the reading takes, are together of bulk at most 1048576: NARROWER than '..Said'. Prove '..Said' where nothing that the law and all that it calls make is longer than what came in: it says more and counts as full. Else prove '..UptoSaid'. A law counts once. -/
mutual
def uptoBulk {H : Type} : DataW H → Nat
  | .lit (.string bytes) => bytes.length + 1
  | .lit _ => 1
  | .nil => 1
  | .ptr d => uptoBulk d + 1
  | .slice elems spare => uptoBulkAll elems + uptoBulkAll spare + 1
  | .agg parts => uptoBulkAll parts + 1
  | .iface _ d => uptoBulk d + 1
  | .map entries => uptoBulkEntries entries + 1
  | .held _ => 1
def uptoBulkAll {H : Type} : List (DataW H) → Nat
  | [] => 0
  | d :: r => uptoBulk d + uptoBulkAll r
def uptoBulkEntries {H : Type} : List (Lit × DataW H) → Nat
  | [] => 0
  | x :: r => uptoBulkEntry x + uptoBulkEntries r
def uptoBulkEntry {H : Type} : Lit × DataW H → Nat
  | (.string bytes, d) => bytes.length + uptoBulk d + 1
  | (_, d) => uptoBulk d + 1
 end
def uptoSmall : (H : Type) → List (DataW H) → Bool := fun _ ds => decide (uptoBulkAll ds ≤ 1048576)
def OpenSpec.upto (s : _root_.Go.ChangeSpec) : _root_.Go.OpenSpec := { _root_.Go.OpenSpec.ofChange s with cond := some uptoSmall }

/-- 'warplaw05.SourceMutex', WHERE WHAT IT READS IS OF BULK AT MOST 1048576: true; the input reads as it did. -/
def sourceMutexUptoRow : OpenClaim := { program := "ytflkjkhijcdbaaagreat", sum := "45159ba9b0d519ef1977d5788624c01043e6e959589c44035471bbacb592c0d5", func := "warp/warplaw05.SourceMutex", spec := "sourceMutex", unfollowed := true, recurses := true, apart := false, narrowed := true }
def SourceMutexUptoSaid : Prop := sourceMutexUptoRow.holds Tryz.pinned (OpenSpec.upto sourceMutexSpec)

/-- 'warplaw05.SourceAny', WHERE WHAT IT READS IS OF BULK AT MOST 1048576: true; the input reads as it did. -/
def sourceAnyUptoRow : OpenClaim := { program := "ytflkjkhijcdbaaagreat", sum := "45159ba9b0d519ef1977d5788624c01043e6e959589c44035471bbacb592c0d5", func := "warp/warplaw05.SourceAny", spec := "sourceAny", unfollowed := true, recurses := true, loops := true, apart := false, narrowed := true }
def SourceAnyUptoSaid : Prop := sourceAnyUptoRow.holds Tryz.pinned (OpenSpec.upto sourceAnySpec)

/-- 'warplaw05.SourceAlone', WHERE WHAT IT READS IS OF BULK AT MOST 1048576: true; the input reads as it did. -/
def sourceAloneUptoRow : OpenClaim := { program := "ytflkjkhijcdbaaagreat", sum := "45159ba9b0d519ef1977d5788624c01043e6e959589c44035471bbacb592c0d5", func := "warp/warplaw05.SourceAlone", spec := "sourceAlone", unfollowed := true, recurses := true, apart := false, narrowed := true }
def SourceAloneUptoSaid : Prop := sourceAloneUptoRow.holds Tryz.pinned (OpenSpec.upto sourceAloneSpec)

/-- 'warplaw05.SourcePlay', WHERE WHAT IT READS IS OF BULK AT MOST 1048576: true; the input reads as it did. -/
def sourcePlayUptoRow : OpenClaim := { program := "ytflkjkhijcdbaaagreat", sum := "45159ba9b0d519ef1977d5788624c01043e6e959589c44035471bbacb592c0d5", func := "warp/warplaw05.SourcePlay", spec := "sourcePlay", unfollowed := true, recurses := true, apart := false, narrowed := true }
def SourcePlayUptoSaid : Prop := sourcePlayUptoRow.holds Tryz.pinned (OpenSpec.upto sourcePlaySpec)

/-- 'warplaw05.SourceDo', WHERE WHAT IT READS IS OF BULK AT MOST 1048576: true; the input reads as it did. -/
def sourceDoUptoRow : OpenClaim := { program := "ytflkjkhijcdbaaagreat", sum := "45159ba9b0d519ef1977d5788624c01043e6e959589c44035471bbacb592c0d5", func := "warp/warplaw05.SourceDo", spec := "sourceDo", unfollowed := true, recurses := true, apart := false, narrowed := true }
def SourceDoUptoSaid : Prop := sourceDoUptoRow.holds Tryz.pinned (OpenSpec.upto sourceDoSpec)

/-- 'warplaw05.SourceRun', WHERE WHAT IT READS IS OF BULK AT MOST 1048576: true; the input reads as it did. -/
def sourceRunUptoRow : OpenClaim := { program := "ytflkjkhijcdbaaagreat", sum := "45159ba9b0d519ef1977d5788624c01043e6e959589c44035471bbacb592c0d5", func := "warp/warplaw05.SourceRun", spec := "sourceRun", unfollowed := true, recurses := true, apart := false, narrowed := true }
def SourceRunUptoSaid : Prop := sourceRunUptoRow.holds Tryz.pinned (OpenSpec.upto sourceRunSpec)

/-- 'warplaw05.SourceExpr', WHERE WHAT IT READS IS OF BULK AT MOST 1048576: true; the input reads as it did. -/
def sourceExprUptoRow : OpenClaim := { program := "ytflkjkhijcdbaaagreat", sum := "45159ba9b0d519ef1977d5788624c01043e6e959589c44035471bbacb592c0d5", func := "warp/warplaw05.SourceExpr", spec := "sourceExpr", unfollowed := true, recurses := true, apart := false, narrowed := true }
def SourceExprUptoSaid : Prop := sourceExprUptoRow.holds Tryz.pinned (OpenSpec.upto sourceExprSpec)

/-- 'warplaw05.SourceWaits', WHERE WHAT IT READS IS OF BULK AT MOST 1048576: true; the input reads as it did. -/
def sourceWaitsUptoRow : OpenClaim := { program := "ytflkjkhijcdbaaagreat", sum := "45159ba9b0d519ef1977d5788624c01043e6e959589c44035471bbacb592c0d5", func := "warp/warplaw05.SourceWaits", spec := "sourceWaits", unfollowed := true, recurses := true, apart := false, narrowed := true }
def SourceWaitsUptoSaid : Prop := sourceWaitsUptoRow.holds Tryz.pinned (OpenSpec.upto sourceWaitsSpec)

/-- 'warplaw05.SourceCopies', WHERE WHAT IT READS IS OF BULK AT MOST 1048576: true; the input reads as it did. -/
def sourceCopiesUptoRow : OpenClaim := { program := "ytflkjkhijcdbaaagreat", sum := "45159ba9b0d519ef1977d5788624c01043e6e959589c44035471bbacb592c0d5", func := "warp/warplaw05.SourceCopies", spec := "sourceCopies", unfollowed := true, recurses := true, apart := false, narrowed := true }
def SourceCopiesUptoSaid : Prop := sourceCopiesUptoRow.holds Tryz.pinned (OpenSpec.upto sourceCopiesSpec)

/-- 'warplaw05.SourceNil', WHERE WHAT IT READS IS OF BULK AT MOST 1048576: true; the input reads as it did. -/
def sourceNilUptoRow : OpenClaim := { program := "ytflkjkhijcdbaaagreat", sum := "45159ba9b0d519ef1977d5788624c01043e6e959589c44035471bbacb592c0d5", func := "warp/warplaw05.SourceNil", spec := "sourceNil", unfollowed := true, recurses := true, apart := false, narrowed := true }
def SourceNilUptoSaid : Prop := sourceNilUptoRow.holds Tryz.pinned (OpenSpec.upto sourceNilSpec)

end Rows
end Go.Proofs.YtflkjkhijcdbaaaGreat
