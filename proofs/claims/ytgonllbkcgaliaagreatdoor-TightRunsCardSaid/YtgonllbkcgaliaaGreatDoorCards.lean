/-
  DERIVED. GIVEN WITH THE SEED: THE CARDS: each row of YtgonllbkcgaliaaGreatDoorRows.lean that lists a variable, with what it lists TIED to the program's text (the seventh form; the later family's looks); each row that meets fmt, with fmt's text TOLD by the authors' own Lean function (tested against real Go, not proved from fmt's source: count such statements apart). THE CARD IS WHAT COUNTS. Prove the row's statement (the work); the ties are given (YtgonllbkcgaliaaGreatDoorTie.lean); close each card by the builder's one call (the guide's Derived/Test/ToyasCard.lean, 'card_holds'). Laid BY PROGRAM, IN A SANDBOX (cutbox-door.mjs). By AI agents, Wed Nov 11 2026. No macro, syntax, notation, axiom, sorry.
-/
import Derived.Test.YtgonllbkcgaliaaGreatDoorRows
import GoSem.ClaimSeven
namespace Go.Proofs.YtgonllbkcgaliaaGreatDoor
namespace Rows

/-- THE TIED CARD OF 'warplaw19.TightTwice'. -/
def tightTwiceCard : Claim7 := { stood := { row := tightTwiceRow, standIns := [], harness := (true, "34cab81b7162b459e245bb4212be3b1dcd0602627ba52bfee5f196cf2c76bfcb"), looks := true }, kinds := [], alts := [], laidByText := true, laidKinds := [.data, .data], laidTests := true, laidLooks := .later }
def TightTwiceCardSaid : Prop := Claim7.holds Tryz.pinned (.plain (OpenSpec.ofChange tightTwiceSpec)) tightTwiceCard

/-- THE TIED CARD OF 'warplaw19.TightRuns'. -/
def tightRunsCard : Claim7 := { stood := { row := tightRunsRow, standIns := [], harness := (true, "34cab81b7162b459e245bb4212be3b1dcd0602627ba52bfee5f196cf2c76bfcb"), looks := true }, kinds := [], alts := [], laidByText := true, laidKinds := [.data, .data], laidTests := true, laidLooks := .later }
def TightRunsCardSaid : Prop := Claim7.holds Tryz.pinned (.plain (OpenSpec.ofChange tightRunsSpec)) tightRunsCard

/-- THE TIED CARD OF 'warplaw09.VmProg'. -/
def vmProgCard : Claim7 := { stood := { row := vmProgRow, standIns := [], harness := (true, "34cab81b7162b459e245bb4212be3b1dcd0602627ba52bfee5f196cf2c76bfcb"), looks := true }, kinds := [], alts := [], laidByText := true, laidKinds := [.data, .data], laidTests := true, laidLooks := .later }
def VmProgCardSaid : Prop := Claim7.holds Tryz.pinned (.plain (OpenSpec.ofChange vmProgSpec)) vmProgCard

/-- THE TIED CARD OF 'warplaw09.VmRuns'. -/
def vmRunsCard : Claim7 := { stood := { row := vmRunsRow, standIns := [], harness := (true, "34cab81b7162b459e245bb4212be3b1dcd0602627ba52bfee5f196cf2c76bfcb"), looks := true }, kinds := [], alts := [], laidByText := true, laidKinds := [.data, .data], laidTests := true, laidLooks := .later }
def VmRunsCardSaid : Prop := Claim7.holds Tryz.pinned (.plain (OpenSpec.ofChange vmRunsSpec)) vmRunsCard

/-- THE SECOND FORM's CARD OF 'warplaw19.TightTwice'. -/
def tightTwiceUptoCard : Claim7 := { stood := { row := tightTwiceUptoRow, standIns := [], harness := (true, "34cab81b7162b459e245bb4212be3b1dcd0602627ba52bfee5f196cf2c76bfcb"), looks := true }, kinds := [], alts := [], laidByText := true, laidKinds := [.data, .data], laidTests := true, laidLooks := .later }
def TightTwiceUptoCardSaid : Prop := Claim7.holds Tryz.pinned (.plain (OpenSpec.upto tightTwiceSpec)) tightTwiceUptoCard

/-- THE SECOND FORM's CARD OF 'warplaw19.TightRuns'. -/
def tightRunsUptoCard : Claim7 := { stood := { row := tightRunsUptoRow, standIns := [], harness := (true, "34cab81b7162b459e245bb4212be3b1dcd0602627ba52bfee5f196cf2c76bfcb"), looks := true }, kinds := [], alts := [], laidByText := true, laidKinds := [.data, .data], laidTests := true, laidLooks := .later }
def TightRunsUptoCardSaid : Prop := Claim7.holds Tryz.pinned (.plain (OpenSpec.upto tightRunsSpec)) tightRunsUptoCard

/-- THE SECOND FORM's CARD OF 'warplaw09.VmProg'. -/
def vmProgUptoCard : Claim7 := { stood := { row := vmProgUptoRow, standIns := [], harness := (true, "34cab81b7162b459e245bb4212be3b1dcd0602627ba52bfee5f196cf2c76bfcb"), looks := true }, kinds := [], alts := [], laidByText := true, laidKinds := [.data, .data], laidTests := true, laidLooks := .later }
def VmProgUptoCardSaid : Prop := Claim7.holds Tryz.pinned (.plain (OpenSpec.upto vmProgSpec)) vmProgUptoCard

/-- THE SECOND FORM's CARD OF 'warplaw09.VmRuns'. -/
def vmRunsUptoCard : Claim7 := { stood := { row := vmRunsUptoRow, standIns := [], harness := (true, "34cab81b7162b459e245bb4212be3b1dcd0602627ba52bfee5f196cf2c76bfcb"), looks := true }, kinds := [], alts := [], laidByText := true, laidKinds := [.data, .data], laidTests := true, laidLooks := .later }
def VmRunsUptoCardSaid : Prop := Claim7.holds Tryz.pinned (.plain (OpenSpec.upto vmRunsSpec)) vmRunsUptoCard
end Rows
end Go.Proofs.YtgonllbkcgaliaaGreatDoor
