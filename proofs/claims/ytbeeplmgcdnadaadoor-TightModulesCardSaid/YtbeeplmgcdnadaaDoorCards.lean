/-
  DERIVED. GIVEN WITH THE SEED: THE CARDS: each row of YtbeeplmgcdnadaaDoorRows.lean that lists a variable, with what it lists TIED to the program's text (the seventh form; the later family's looks); each row that meets fmt, with fmt's text TOLD by the authors' own Lean function (tested against real Go, not proved from fmt's source: count such statements apart). THE CARD IS WHAT COUNTS. Prove the row's statement (the work); the ties are given (YtbeeplmgcdnadaaDoorTie.lean); close each card by the builder's one call (the guide's Derived/Test/ToyasCard.lean, 'card_holds'). Laid BY PROGRAM, IN A SANDBOX (cutbox-door.mjs). By AI agents, Wed Nov 11 2026. No macro, syntax, notation, axiom, sorry.
-/
import Derived.Test.YtbeeplmgcdnadaaDoorRows
import GoSem.ClaimSeven
namespace Go.Proofs.YtbeeplmgcdnadaaDoor
namespace Rows

/-- THE TIED CARD OF 'warplaw19.TightLeads'. -/
def tightLeadsCard : Claim7 := { stood := { row := tightLeadsRow, standIns := [], harness := (true, "40104009c51677979dc382a8faa1b9dcdb58a7322ced6a09cb9bee877669abef"), looks := true }, kinds := [], alts := [], laidByText := true, laidKinds := [.data, .data], laidTests := true, laidLooks := .later }
def TightLeadsCardSaid : Prop := Claim7.holds Tryd.pinned (.plain (OpenSpec.ofChange tightLeadsSpec)) tightLeadsCard

/-- THE TIED CARD OF 'warplaw19.TightModules'. -/
def tightModulesCard : Claim7 := { stood := { row := tightModulesRow, standIns := [], harness := (true, "40104009c51677979dc382a8faa1b9dcdb58a7322ced6a09cb9bee877669abef"), looks := true }, kinds := [], alts := [], laidByText := true, laidKinds := [.data, .data], laidTests := true, laidLooks := .later }
def TightModulesCardSaid : Prop := Claim7.holds Tryd.pinned (.plain (OpenSpec.ofChange tightModulesSpec)) tightModulesCard

/-- THE SECOND FORM's CARD OF 'warplaw19.TightLeads'. -/
def tightLeadsUptoCard : Claim7 := { stood := { row := tightLeadsUptoRow, standIns := [], harness := (true, "40104009c51677979dc382a8faa1b9dcdb58a7322ced6a09cb9bee877669abef"), looks := true }, kinds := [], alts := [], laidByText := true, laidKinds := [.data, .data], laidTests := true, laidLooks := .later }
def TightLeadsUptoCardSaid : Prop := Claim7.holds Tryd.pinned (.plain (OpenSpec.upto tightLeadsSpec)) tightLeadsUptoCard

/-- THE SECOND FORM's CARD OF 'warplaw19.TightModules'. -/
def tightModulesUptoCard : Claim7 := { stood := { row := tightModulesUptoRow, standIns := [], harness := (true, "40104009c51677979dc382a8faa1b9dcdb58a7322ced6a09cb9bee877669abef"), looks := true }, kinds := [], alts := [], laidByText := true, laidKinds := [.data, .data], laidTests := true, laidLooks := .later }
def TightModulesUptoCardSaid : Prop := Claim7.holds Tryd.pinned (.plain (OpenSpec.upto tightModulesSpec)) tightModulesUptoCard
end Rows
end Go.Proofs.YtbeeplmgcdnadaaDoor
