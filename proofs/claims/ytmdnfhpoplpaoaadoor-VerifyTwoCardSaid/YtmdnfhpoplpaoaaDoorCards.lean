/-
  DERIVED. GIVEN WITH THE SEED: THE CARDS: each row of YtmdnfhpoplpaoaaDoorRows.lean that lists a variable, with what it lists TIED to the program's text (the seventh form; the later family's looks); each row that meets fmt, with fmt's text TOLD by the authors' own Lean function (tested against real Go, not proved from fmt's source: count such statements apart). THE CARD IS WHAT COUNTS. Prove the row's statement (the work); the ties are given (YtmdnfhpoplpaoaaDoorTie.lean); close each card by the builder's one call (the guide's Derived/Test/ToyasCard.lean, 'card_holds'). Laid BY PROGRAM, IN A SANDBOX (cutbox-door.mjs). By AI agents, Wed Nov 11 2026. No macro, syntax, notation, axiom, sorry.
-/
import Derived.Test.YtmdnfhpoplpaoaaDoorRows
import GoSem.ClaimSeven
namespace Go.Proofs.YtmdnfhpoplpaoaaDoor
namespace Rows

/-- THE TIED CARD OF 'warplaw07.VerifyChecks'. -/
def verifyChecksCard : Claim7 := { stood := { row := verifyChecksRow, standIns := [], harness := (true, "f3c6b9db85a2e3477242aef878fe613fc8e6f48f3cf05f95444850c6c3f0d8f8"), looks := true }, kinds := [], alts := [], laidByText := true, laidKinds := [.data, .data], laidTests := true, laidLooks := .later }
def VerifyChecksCardSaid : Prop := Claim7.holds Tryd.pinned (.plain (OpenSpec.ofChange verifyChecksSpec)) verifyChecksCard

/-- THE TIED CARD OF 'warplaw07.VerifyDepths'. -/
def verifyDepthsCard : Claim7 := { stood := { row := verifyDepthsRow, standIns := [], harness := (true, "f3c6b9db85a2e3477242aef878fe613fc8e6f48f3cf05f95444850c6c3f0d8f8"), looks := true }, kinds := [], alts := [], laidByText := true, laidKinds := [.data, .data], laidTests := true, laidLooks := .later }
def VerifyDepthsCardSaid : Prop := Claim7.holds Tryd.pinned (.plain (OpenSpec.ofChange verifyDepthsSpec)) verifyDepthsCard

/-- THE TIED CARD OF 'warplaw07.VerifyCodes'. -/
def verifyCodesCard : Claim7 := { stood := { row := verifyCodesRow, standIns := [], harness := (true, "f3c6b9db85a2e3477242aef878fe613fc8e6f48f3cf05f95444850c6c3f0d8f8"), looks := true }, kinds := [], alts := [], laidByText := true, laidKinds := [.data, .data], laidTests := true, laidLooks := .later }
def VerifyCodesCardSaid : Prop := Claim7.holds Tryd.pinned (.plain (OpenSpec.ofChange verifyCodesSpec)) verifyCodesCard

/-- THE TIED CARD OF 'warplaw07.VerifyTwo'. -/
def verifyTwoCard : Claim7 := { stood := { row := verifyTwoRow, standIns := [], harness := (true, "f3c6b9db85a2e3477242aef878fe613fc8e6f48f3cf05f95444850c6c3f0d8f8"), looks := true }, kinds := [], alts := [], laidByText := true, laidKinds := [.data, .data], laidTests := true, laidLooks := .later }
def VerifyTwoCardSaid : Prop := Claim7.holds Tryd.pinned (.plain (OpenSpec.ofChange verifyTwoSpec)) verifyTwoCard

/-- THE TIED CARD OF 'warplaw07.VerifyEffects'. -/
def verifyEffectsCard : Claim7 := { stood := { row := verifyEffectsRow, standIns := [], harness := (true, "f3c6b9db85a2e3477242aef878fe613fc8e6f48f3cf05f95444850c6c3f0d8f8"), looks := true }, kinds := [], alts := [], laidByText := true, laidKinds := [.data, .data], laidTests := true, laidLooks := .later }
def VerifyEffectsCardSaid : Prop := Claim7.holds Tryd.pinned (.plain (OpenSpec.ofChange verifyEffectsSpec)) verifyEffectsCard

/-- THE TIED CARD OF 'warplaw07.VerifyGoes'. -/
def verifyGoesCard : Claim7 := { stood := { row := verifyGoesRow, standIns := [], harness := (true, "f3c6b9db85a2e3477242aef878fe613fc8e6f48f3cf05f95444850c6c3f0d8f8"), looks := true }, kinds := [], alts := [], laidByText := true, laidKinds := [.data, .data], laidTests := true, laidLooks := .later }
def VerifyGoesCardSaid : Prop := Claim7.holds Tryd.pinned (.plain (OpenSpec.ofChange verifyGoesSpec)) verifyGoesCard

/-- THE SECOND FORM's CARD OF 'warplaw07.VerifyChecks'. -/
def verifyChecksUptoCard : Claim7 := { stood := { row := verifyChecksUptoRow, standIns := [], harness := (true, "f3c6b9db85a2e3477242aef878fe613fc8e6f48f3cf05f95444850c6c3f0d8f8"), looks := true }, kinds := [], alts := [], laidByText := true, laidKinds := [.data, .data], laidTests := true, laidLooks := .later }
def VerifyChecksUptoCardSaid : Prop := Claim7.holds Tryd.pinned (.plain (OpenSpec.upto verifyChecksSpec)) verifyChecksUptoCard

/-- THE SECOND FORM's CARD OF 'warplaw07.VerifyDepths'. -/
def verifyDepthsUptoCard : Claim7 := { stood := { row := verifyDepthsUptoRow, standIns := [], harness := (true, "f3c6b9db85a2e3477242aef878fe613fc8e6f48f3cf05f95444850c6c3f0d8f8"), looks := true }, kinds := [], alts := [], laidByText := true, laidKinds := [.data, .data], laidTests := true, laidLooks := .later }
def VerifyDepthsUptoCardSaid : Prop := Claim7.holds Tryd.pinned (.plain (OpenSpec.upto verifyDepthsSpec)) verifyDepthsUptoCard

/-- THE SECOND FORM's CARD OF 'warplaw07.VerifyCodes'. -/
def verifyCodesUptoCard : Claim7 := { stood := { row := verifyCodesUptoRow, standIns := [], harness := (true, "f3c6b9db85a2e3477242aef878fe613fc8e6f48f3cf05f95444850c6c3f0d8f8"), looks := true }, kinds := [], alts := [], laidByText := true, laidKinds := [.data, .data], laidTests := true, laidLooks := .later }
def VerifyCodesUptoCardSaid : Prop := Claim7.holds Tryd.pinned (.plain (OpenSpec.upto verifyCodesSpec)) verifyCodesUptoCard

/-- THE SECOND FORM's CARD OF 'warplaw07.VerifyTwo'. -/
def verifyTwoUptoCard : Claim7 := { stood := { row := verifyTwoUptoRow, standIns := [], harness := (true, "f3c6b9db85a2e3477242aef878fe613fc8e6f48f3cf05f95444850c6c3f0d8f8"), looks := true }, kinds := [], alts := [], laidByText := true, laidKinds := [.data, .data], laidTests := true, laidLooks := .later }
def VerifyTwoUptoCardSaid : Prop := Claim7.holds Tryd.pinned (.plain (OpenSpec.upto verifyTwoSpec)) verifyTwoUptoCard

/-- THE SECOND FORM's CARD OF 'warplaw07.VerifyEffects'. -/
def verifyEffectsUptoCard : Claim7 := { stood := { row := verifyEffectsUptoRow, standIns := [], harness := (true, "f3c6b9db85a2e3477242aef878fe613fc8e6f48f3cf05f95444850c6c3f0d8f8"), looks := true }, kinds := [], alts := [], laidByText := true, laidKinds := [.data, .data], laidTests := true, laidLooks := .later }
def VerifyEffectsUptoCardSaid : Prop := Claim7.holds Tryd.pinned (.plain (OpenSpec.upto verifyEffectsSpec)) verifyEffectsUptoCard

/-- THE SECOND FORM's CARD OF 'warplaw07.VerifyGoes'. -/
def verifyGoesUptoCard : Claim7 := { stood := { row := verifyGoesUptoRow, standIns := [], harness := (true, "f3c6b9db85a2e3477242aef878fe613fc8e6f48f3cf05f95444850c6c3f0d8f8"), looks := true }, kinds := [], alts := [], laidByText := true, laidKinds := [.data, .data], laidTests := true, laidLooks := .later }
def VerifyGoesUptoCardSaid : Prop := Claim7.holds Tryd.pinned (.plain (OpenSpec.upto verifyGoesSpec)) verifyGoesUptoCard
end Rows
end Go.Proofs.YtmdnfhpoplpaoaaDoor
