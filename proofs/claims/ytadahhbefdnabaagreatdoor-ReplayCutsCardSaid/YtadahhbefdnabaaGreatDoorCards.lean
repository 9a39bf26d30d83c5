/-
  DERIVED. GIVEN WITH THE SEED: THE CARDS: each row of YtadahhbefdnabaaGreatDoorRows.lean that lists a variable, with what it lists TIED to the program's text (the seventh form; the later family's looks); each row that meets fmt, with fmt's text TOLD by the authors' own Lean function (tested against real Go, not proved from fmt's source: count such statements apart). THE CARD IS WHAT COUNTS. Prove the row's statement (the work); the ties are given (YtadahhbefdnabaaGreatDoorTie.lean); close each card by the builder's one call (the guide's Derived/Test/ToyasCard.lean, 'card_holds'). Laid BY PROGRAM, IN A SANDBOX (cutbox-door.mjs). By AI agents, Wed Nov 11 2026. No macro, syntax, notation, axiom, sorry.
-/
import Derived.Test.YtadahhbefdnabaaGreatDoorRows
import GoSem.ClaimSeven
namespace Go.Proofs.YtadahhbefdnabaaGreatDoor
namespace Rows

/-- THE TIED CARD OF 'warplaw12.ReplayHashes'. -/
def replayHashesCard : Claim7 := { stood := { row := replayHashesRow, standIns := [], harness := (true, "85e7481fbbaea671b91e530932a56239334544f32d19c35abbe1fa3215205325"), looks := true }, kinds := [], alts := [], laidByText := true, laidKinds := [.data, .data, .data], laidTests := true, laidLooks := .later }
def ReplayHashesCardSaid : Prop := Claim7.holds Tryz.pinned (.plain (OpenSpec.ofChange replayHashesSpec)) replayHashesCard

/-- THE TIED CARD OF 'warplaw12.ReplayAll'. -/
def replayAllCard : Claim7 := { stood := { row := replayAllRow, standIns := [], harness := (true, "85e7481fbbaea671b91e530932a56239334544f32d19c35abbe1fa3215205325"), looks := true }, kinds := [], alts := [], laidByText := true, laidKinds := [.data, .data, .data], laidTests := true, laidLooks := .later }
def ReplayAllCardSaid : Prop := Claim7.holds Tryz.pinned (.plain (OpenSpec.ofChange replayAllSpec)) replayAllCard

/-- THE TIED CARD OF 'warplaw12.ReplayCuts'. -/
def replayCutsCard : Claim7 := { stood := { row := replayCutsRow, standIns := [], harness := (true, "85e7481fbbaea671b91e530932a56239334544f32d19c35abbe1fa3215205325"), looks := true }, kinds := [], alts := [], laidByText := true, laidKinds := [.data, .data, .data], laidTests := true, laidLooks := .later }
def ReplayCutsCardSaid : Prop := Claim7.holds Tryz.pinned (.plain (OpenSpec.ofChange replayCutsSpec)) replayCutsCard

/-- THE TIED CARD OF 'warplaw12.ReplayRecords'. -/
def replayRecordsCard : Claim7 := { stood := { row := replayRecordsRow, standIns := [], harness := (true, "85e7481fbbaea671b91e530932a56239334544f32d19c35abbe1fa3215205325"), looks := true }, kinds := [], alts := [], laidByText := true, laidKinds := [.data, .data, .data], laidTests := true, laidLooks := .later }
def ReplayRecordsCardSaid : Prop := Claim7.holds Tryz.pinned (.plain (OpenSpec.ofChange replayRecordsSpec)) replayRecordsCard

/-- THE TIED CARD OF 'warplaw12.ReplayPlays'. -/
def replayPlaysCard : Claim7 := { stood := { row := replayPlaysRow, standIns := [], harness := (true, "85e7481fbbaea671b91e530932a56239334544f32d19c35abbe1fa3215205325"), looks := true }, kinds := [], alts := [], laidByText := true, laidKinds := [.data, .data, .data], laidTests := true, laidLooks := .later }
def ReplayPlaysCardSaid : Prop := Claim7.holds Tryz.pinned (.plain (OpenSpec.ofChange replayPlaysSpec)) replayPlaysCard

/-- THE TIED CARD OF 'warplaw12.ReplayBytes'. -/
def replayBytesCard : Claim7 := { stood := { row := replayBytesRow, standIns := [], harness := (true, "85e7481fbbaea671b91e530932a56239334544f32d19c35abbe1fa3215205325"), looks := true }, kinds := [], alts := [], laidByText := true, laidKinds := [.data, .data, .data], laidTests := true, laidLooks := .later }
def ReplayBytesCardSaid : Prop := Claim7.holds Tryz.pinned (.plain (OpenSpec.ofChange replayBytesSpec)) replayBytesCard

/-- THE TIED CARD OF 'warplaw12.ReplayAgain'. -/
def replayAgainCard : Claim7 := { stood := { row := replayAgainRow, standIns := [], harness := (true, "85e7481fbbaea671b91e530932a56239334544f32d19c35abbe1fa3215205325"), looks := true }, kinds := [], alts := [], laidByText := true, laidKinds := [.data, .data, .data], laidTests := true, laidLooks := .later }
def ReplayAgainCardSaid : Prop := Claim7.holds Tryz.pinned (.plain (OpenSpec.ofChange replayAgainSpec)) replayAgainCard

/-- THE TIED CARD OF 'warplaw25.TapePlays'. -/
def tapePlaysCard : Claim7 := { stood := { row := tapePlaysRow, standIns := [], harness := (true, "85e7481fbbaea671b91e530932a56239334544f32d19c35abbe1fa3215205325"), looks := true }, kinds := [], alts := [], laidByText := true, laidKinds := [.data, .data, .data], laidTests := true, laidLooks := .later }
def TapePlaysCardSaid : Prop := Claim7.holds Tryz.pinned (.plain (OpenSpec.ofChange tapePlaysSpec)) tapePlaysCard

/-- THE SECOND FORM's CARD OF 'warplaw12.ReplayHashes'. -/
def replayHashesUptoCard : Claim7 := { stood := { row := replayHashesUptoRow, standIns := [], harness := (true, "85e7481fbbaea671b91e530932a56239334544f32d19c35abbe1fa3215205325"), looks := true }, kinds := [], alts := [], laidByText := true, laidKinds := [.data, .data, .data], laidTests := true, laidLooks := .later }
def ReplayHashesUptoCardSaid : Prop := Claim7.holds Tryz.pinned (.plain (OpenSpec.upto replayHashesSpec)) replayHashesUptoCard

/-- THE SECOND FORM's CARD OF 'warplaw12.ReplayAll'. -/
def replayAllUptoCard : Claim7 := { stood := { row := replayAllUptoRow, standIns := [], harness := (true, "85e7481fbbaea671b91e530932a56239334544f32d19c35abbe1fa3215205325"), looks := true }, kinds := [], alts := [], laidByText := true, laidKinds := [.data, .data, .data], laidTests := true, laidLooks := .later }
def ReplayAllUptoCardSaid : Prop := Claim7.holds Tryz.pinned (.plain (OpenSpec.upto replayAllSpec)) replayAllUptoCard

/-- THE SECOND FORM's CARD OF 'warplaw12.ReplayCuts'. -/
def replayCutsUptoCard : Claim7 := { stood := { row := replayCutsUptoRow, standIns := [], harness := (true, "85e7481fbbaea671b91e530932a56239334544f32d19c35abbe1fa3215205325"), looks := true }, kinds := [], alts := [], laidByText := true, laidKinds := [.data, .data, .data], laidTests := true, laidLooks := .later }
def ReplayCutsUptoCardSaid : Prop := Claim7.holds Tryz.pinned (.plain (OpenSpec.upto replayCutsSpec)) replayCutsUptoCard

/-- THE SECOND FORM's CARD OF 'warplaw12.ReplayRecords'. -/
def replayRecordsUptoCard : Claim7 := { stood := { row := replayRecordsUptoRow, standIns := [], harness := (true, "85e7481fbbaea671b91e530932a56239334544f32d19c35abbe1fa3215205325"), looks := true }, kinds := [], alts := [], laidByText := true, laidKinds := [.data, .data, .data], laidTests := true, laidLooks := .later }
def ReplayRecordsUptoCardSaid : Prop := Claim7.holds Tryz.pinned (.plain (OpenSpec.upto replayRecordsSpec)) replayRecordsUptoCard

/-- THE SECOND FORM's CARD OF 'warplaw12.ReplayPlays'. -/
def replayPlaysUptoCard : Claim7 := { stood := { row := replayPlaysUptoRow, standIns := [], harness := (true, "85e7481fbbaea671b91e530932a56239334544f32d19c35abbe1fa3215205325"), looks := true }, kinds := [], alts := [], laidByText := true, laidKinds := [.data, .data, .data], laidTests := true, laidLooks := .later }
def ReplayPlaysUptoCardSaid : Prop := Claim7.holds Tryz.pinned (.plain (OpenSpec.upto replayPlaysSpec)) replayPlaysUptoCard

/-- THE SECOND FORM's CARD OF 'warplaw12.ReplayBytes'. -/
def replayBytesUptoCard : Claim7 := { stood := { row := replayBytesUptoRow, standIns := [], harness := (true, "85e7481fbbaea671b91e530932a56239334544f32d19c35abbe1fa3215205325"), looks := true }, kinds := [], alts := [], laidByText := true, laidKinds := [.data, .data, .data], laidTests := true, laidLooks := .later }
def ReplayBytesUptoCardSaid : Prop := Claim7.holds Tryz.pinned (.plain (OpenSpec.upto replayBytesSpec)) replayBytesUptoCard

/-- THE SECOND FORM's CARD OF 'warplaw12.ReplayAgain'. -/
def replayAgainUptoCard : Claim7 := { stood := { row := replayAgainUptoRow, standIns := [], harness := (true, "85e7481fbbaea671b91e530932a56239334544f32d19c35abbe1fa3215205325"), looks := true }, kinds := [], alts := [], laidByText := true, laidKinds := [.data, .data, .data], laidTests := true, laidLooks := .later }
def ReplayAgainUptoCardSaid : Prop := Claim7.holds Tryz.pinned (.plain (OpenSpec.upto replayAgainSpec)) replayAgainUptoCard

/-- THE SECOND FORM's CARD OF 'warplaw25.TapePlays'. -/
def tapePlaysUptoCard : Claim7 := { stood := { row := tapePlaysUptoRow, standIns := [], harness := (true, "85e7481fbbaea671b91e530932a56239334544f32d19c35abbe1fa3215205325"), looks := true }, kinds := [], alts := [], laidByText := true, laidKinds := [.data, .data, .data], laidTests := true, laidLooks := .later }
def TapePlaysUptoCardSaid : Prop := Claim7.holds Tryz.pinned (.plain (OpenSpec.upto tapePlaysSpec)) tapePlaysUptoCard
end Rows
end Go.Proofs.YtadahhbefdnabaaGreatDoor
