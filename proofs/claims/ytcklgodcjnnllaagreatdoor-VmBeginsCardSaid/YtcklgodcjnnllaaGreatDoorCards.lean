/-
  DERIVED. GIVEN WITH THE SEED: THE CARDS: each row of YtcklgodcjnnllaaGreatDoorRows.lean that lists a variable, with what it lists TIED to the program's text (the seventh form; the later family's looks); each row that meets fmt, with fmt's text TOLD by the authors' own Lean function (tested against real Go, not proved from fmt's source: count such statements apart). THE CARD IS WHAT COUNTS. Prove the row's statement (the work); the ties are given (YtcklgodcjnnllaaGreatDoorTie.lean); close each card by the builder's one call (the guide's Derived/Test/ToyasCard.lean, 'card_holds'). Laid BY PROGRAM, IN A SANDBOX (cutbox-door.mjs). By AI agents, Wed Nov 11 2026. No macro, syntax, notation, axiom, sorry.
-/
import Derived.Test.YtcklgodcjnnllaaGreatDoorRows
import GoSem.ClaimSeven
namespace Go.Proofs.YtcklgodcjnnllaaGreatDoor
namespace Rows

/-- THE TIED CARD OF 'warplaw09.VmDo'. -/
def vmDoCard : Claim7 := { stood := { row := vmDoRow, standIns := [], harness := (true, "4274ae46927b7988a892c9c428a2cf8c8027dbe3cd5a6a3477320c6199fb266f"), looks := true }, kinds := [], alts := [], laidByText := true, laidKinds := [.data, .data], laidTests := true, laidLooks := .later }
def VmDoCardSaid : Prop := Claim7.holds Tryz.pinned (.plain (OpenSpec.ofChange vmDoSpec)) vmDoCard

/-- THE TIED CARD OF 'warplaw09.VmProg'. -/
def vmProgCard : Claim7 := { stood := { row := vmProgRow, standIns := [], harness := (true, "4274ae46927b7988a892c9c428a2cf8c8027dbe3cd5a6a3477320c6199fb266f"), looks := true }, kinds := [], alts := [], laidByText := true, laidKinds := [.data, .data], laidTests := true, laidLooks := .later }
def VmProgCardSaid : Prop := Claim7.holds Tryz.pinned (.plain (OpenSpec.ofChange vmProgSpec)) vmProgCard

/-- THE TIED CARD OF 'warplaw09.VmSums'. -/
def vmSumsCard : Claim7 := { stood := { row := vmSumsRow, standIns := [], harness := (true, "4274ae46927b7988a892c9c428a2cf8c8027dbe3cd5a6a3477320c6199fb266f"), looks := true }, kinds := [], alts := [], laidByText := true, laidKinds := [.data, .data], laidTests := true, laidLooks := .later }
def VmSumsCardSaid : Prop := Claim7.holds Tryz.pinned (.plain (OpenSpec.ofChange vmSumsSpec)) vmSumsCard

/-- THE TIED CARD OF 'warplaw09.VmJumps'. -/
def vmJumpsCard : Claim7 := { stood := { row := vmJumpsRow, standIns := [], harness := (true, "4274ae46927b7988a892c9c428a2cf8c8027dbe3cd5a6a3477320c6199fb266f"), looks := true }, kinds := [], alts := [], laidByText := true, laidKinds := [.data, .data], laidTests := true, laidLooks := .later }
def VmJumpsCardSaid : Prop := Claim7.holds Tryz.pinned (.plain (OpenSpec.ofChange vmJumpsSpec)) vmJumpsCard

/-- THE TIED CARD OF 'warplaw09.VmBegins'. -/
def vmBeginsCard : Claim7 := { stood := { row := vmBeginsRow, standIns := [], harness := (true, "4274ae46927b7988a892c9c428a2cf8c8027dbe3cd5a6a3477320c6199fb266f"), looks := true }, kinds := [], alts := [], laidByText := true, laidKinds := [.data, .data], laidTests := true, laidLooks := .later }
def VmBeginsCardSaid : Prop := Claim7.holds Tryz.pinned (.plain (OpenSpec.ofChange vmBeginsSpec)) vmBeginsCard

/-- THE TIED CARD OF 'warplaw09.VmRuns'. -/
def vmRunsCard : Claim7 := { stood := { row := vmRunsRow, standIns := [], harness := (true, "4274ae46927b7988a892c9c428a2cf8c8027dbe3cd5a6a3477320c6199fb266f"), looks := true }, kinds := [], alts := [], laidByText := true, laidKinds := [.data, .data], laidTests := true, laidLooks := .later }
def VmRunsCardSaid : Prop := Claim7.holds Tryz.pinned (.plain (OpenSpec.ofChange vmRunsSpec)) vmRunsCard

/-- THE SECOND FORM's CARD OF 'warplaw09.VmDo'. -/
def vmDoUptoCard : Claim7 := { stood := { row := vmDoUptoRow, standIns := [], harness := (true, "4274ae46927b7988a892c9c428a2cf8c8027dbe3cd5a6a3477320c6199fb266f"), looks := true }, kinds := [], alts := [], laidByText := true, laidKinds := [.data, .data], laidTests := true, laidLooks := .later }
def VmDoUptoCardSaid : Prop := Claim7.holds Tryz.pinned (.plain (OpenSpec.upto vmDoSpec)) vmDoUptoCard

/-- THE SECOND FORM's CARD OF 'warplaw09.VmProg'. -/
def vmProgUptoCard : Claim7 := { stood := { row := vmProgUptoRow, standIns := [], harness := (true, "4274ae46927b7988a892c9c428a2cf8c8027dbe3cd5a6a3477320c6199fb266f"), looks := true }, kinds := [], alts := [], laidByText := true, laidKinds := [.data, .data], laidTests := true, laidLooks := .later }
def VmProgUptoCardSaid : Prop := Claim7.holds Tryz.pinned (.plain (OpenSpec.upto vmProgSpec)) vmProgUptoCard

/-- THE SECOND FORM's CARD OF 'warplaw09.VmSums'. -/
def vmSumsUptoCard : Claim7 := { stood := { row := vmSumsUptoRow, standIns := [], harness := (true, "4274ae46927b7988a892c9c428a2cf8c8027dbe3cd5a6a3477320c6199fb266f"), looks := true }, kinds := [], alts := [], laidByText := true, laidKinds := [.data, .data], laidTests := true, laidLooks := .later }
def VmSumsUptoCardSaid : Prop := Claim7.holds Tryz.pinned (.plain (OpenSpec.upto vmSumsSpec)) vmSumsUptoCard

/-- THE SECOND FORM's CARD OF 'warplaw09.VmJumps'. -/
def vmJumpsUptoCard : Claim7 := { stood := { row := vmJumpsUptoRow, standIns := [], harness := (true, "4274ae46927b7988a892c9c428a2cf8c8027dbe3cd5a6a3477320c6199fb266f"), looks := true }, kinds := [], alts := [], laidByText := true, laidKinds := [.data, .data], laidTests := true, laidLooks := .later }
def VmJumpsUptoCardSaid : Prop := Claim7.holds Tryz.pinned (.plain (OpenSpec.upto vmJumpsSpec)) vmJumpsUptoCard

/-- THE SECOND FORM's CARD OF 'warplaw09.VmBegins'. -/
def vmBeginsUptoCard : Claim7 := { stood := { row := vmBeginsUptoRow, standIns := [], harness := (true, "4274ae46927b7988a892c9c428a2cf8c8027dbe3cd5a6a3477320c6199fb266f"), looks := true }, kinds := [], alts := [], laidByText := true, laidKinds := [.data, .data], laidTests := true, laidLooks := .later }
def VmBeginsUptoCardSaid : Prop := Claim7.holds Tryz.pinned (.plain (OpenSpec.upto vmBeginsSpec)) vmBeginsUptoCard

/-- THE SECOND FORM's CARD OF 'warplaw09.VmRuns'. -/
def vmRunsUptoCard : Claim7 := { stood := { row := vmRunsUptoRow, standIns := [], harness := (true, "4274ae46927b7988a892c9c428a2cf8c8027dbe3cd5a6a3477320c6199fb266f"), looks := true }, kinds := [], alts := [], laidByText := true, laidKinds := [.data, .data], laidTests := true, laidLooks := .later }
def VmRunsUptoCardSaid : Prop := Claim7.holds Tryz.pinned (.plain (OpenSpec.upto vmRunsSpec)) vmRunsUptoCard
end Rows
end Go.Proofs.YtcklgodcjnnllaaGreatDoor
