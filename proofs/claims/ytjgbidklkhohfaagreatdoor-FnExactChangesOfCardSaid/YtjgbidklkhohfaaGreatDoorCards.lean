/-
  DERIVED. GIVEN WITH THE SEED: THE CARDS: each row of YtjgbidklkhohfaaGreatDoorRows.lean that lists a variable, with what it lists TIED to the program's text (the seventh form; the later family's looks); each row that meets fmt, with fmt's text TOLD by the authors' own Lean function (tested against real Go, not proved from fmt's source: count such statements apart). THE CARD IS WHAT COUNTS. Prove the row's statement (the work); the ties are given (YtjgbidklkhohfaaGreatDoorTie.lean); close each card by the builder's one call (the guide's Derived/Test/ToyasCard.lean, 'card_holds'). Laid BY PROGRAM, IN A SANDBOX (cutbox-door.mjs). By AI agents, Wed Nov 11 2026. No macro, syntax, notation, axiom, sorry.
-/
import Derived.Test.YtjgbidklkhohfaaGreatDoorRows
import GoSem.ClaimSeven
namespace Go.Proofs.YtjgbidklkhohfaaGreatDoor
namespace Rows

/-- THE TIED CARD OF 'laws.FnExactFilesNamed'. -/
def fnExactFilesNamedCard : Claim7 := { stood := { row := fnExactFilesNamedRow, standIns := [], harness := (true, "6bafa674d9bbaf66390e378ed8ad8154300254183b165777504914f0dab43849"), looks := false }, kinds := [], alts := [], laidByText := true, laidKinds := [.data, .data, .data, .data, .pinned], laidTests := true, laidLooks := .later }
def FnExactFilesNamedCardSaid : Prop := Claim7.holds Tryz.pinned (.plain (OpenSpec.ofChange fnExactFilesNamedSpec)) fnExactFilesNamedCard

/-- THE TIED CARD OF 'laws.FnExactAbsenceProof'. -/
def fnExactAbsenceProofCard : Claim7 := { stood := { row := fnExactAbsenceProofRow, standIns := [], harness := (true, "6bafa674d9bbaf66390e378ed8ad8154300254183b165777504914f0dab43849"), looks := false }, kinds := [], alts := [], laidByText := true, laidKinds := [.data, .data, .data, .data, .pinned], laidTests := true, laidLooks := .later }
def FnExactAbsenceProofCardSaid : Prop := Claim7.holds Tryz.pinned (.plain (OpenSpec.ofChange fnExactAbsenceProofSpec)) fnExactAbsenceProofCard

/-- THE TIED CARD OF 'laws.FnExactTotalSize'. -/
def fnExactTotalSizeCard : Claim7 := { stood := { row := fnExactTotalSizeRow, standIns := [], harness := (true, "6bafa674d9bbaf66390e378ed8ad8154300254183b165777504914f0dab43849"), looks := false }, kinds := [], alts := [], laidByText := true, laidKinds := [.data, .data, .data, .data, .pinned], laidTests := true, laidLooks := .later }
def FnExactTotalSizeCardSaid : Prop := Claim7.holds Tryz.pinned (.plain (OpenSpec.ofChange fnExactTotalSizeSpec)) fnExactTotalSizeCard

/-- THE TIED CARD OF 'laws.FnExactSameFiles'. -/
def fnExactSameFilesCard : Claim7 := { stood := { row := fnExactSameFilesRow, standIns := [], harness := (true, "6bafa674d9bbaf66390e378ed8ad8154300254183b165777504914f0dab43849"), looks := false }, kinds := [], alts := [], laidByText := true, laidKinds := [.data, .data, .data, .data, .pinned], laidTests := true, laidLooks := .later }
def FnExactSameFilesCardSaid : Prop := Claim7.holds Tryz.pinned (.plain (OpenSpec.ofChange fnExactSameFilesSpec)) fnExactSameFilesCard

/-- THE TIED CARD OF 'laws.FnExactChangesOf'. -/
def fnExactChangesOfCard : Claim7 := { stood := { row := fnExactChangesOfRow, standIns := [], harness := (true, "6bafa674d9bbaf66390e378ed8ad8154300254183b165777504914f0dab43849"), looks := false }, kinds := [], alts := [], laidByText := true, laidKinds := [.data, .data, .data, .data, .pinned], laidTests := true, laidLooks := .later }
def FnExactChangesOfCardSaid : Prop := Claim7.holds Tryz.pinned (.plain (OpenSpec.ofChange fnExactChangesOfSpec)) fnExactChangesOfCard

/-- THE SECOND FORM's CARD OF 'laws.FnExactFilesNamed'. -/
def fnExactFilesNamedUptoCard : Claim7 := { stood := { row := fnExactFilesNamedUptoRow, standIns := [], harness := (true, "6bafa674d9bbaf66390e378ed8ad8154300254183b165777504914f0dab43849"), looks := false }, kinds := [], alts := [], laidByText := true, laidKinds := [.data, .data, .data, .data, .pinned], laidTests := true, laidLooks := .later }
def FnExactFilesNamedUptoCardSaid : Prop := Claim7.holds Tryz.pinned (.plain (OpenSpec.upto fnExactFilesNamedSpec)) fnExactFilesNamedUptoCard

/-- THE SECOND FORM's CARD OF 'laws.FnExactAbsenceProof'. -/
def fnExactAbsenceProofUptoCard : Claim7 := { stood := { row := fnExactAbsenceProofUptoRow, standIns := [], harness := (true, "6bafa674d9bbaf66390e378ed8ad8154300254183b165777504914f0dab43849"), looks := false }, kinds := [], alts := [], laidByText := true, laidKinds := [.data, .data, .data, .data, .pinned], laidTests := true, laidLooks := .later }
def FnExactAbsenceProofUptoCardSaid : Prop := Claim7.holds Tryz.pinned (.plain (OpenSpec.upto fnExactAbsenceProofSpec)) fnExactAbsenceProofUptoCard

/-- THE SECOND FORM's CARD OF 'laws.FnExactTotalSize'. -/
def fnExactTotalSizeUptoCard : Claim7 := { stood := { row := fnExactTotalSizeUptoRow, standIns := [], harness := (true, "6bafa674d9bbaf66390e378ed8ad8154300254183b165777504914f0dab43849"), looks := false }, kinds := [], alts := [], laidByText := true, laidKinds := [.data, .data, .data, .data, .pinned], laidTests := true, laidLooks := .later }
def FnExactTotalSizeUptoCardSaid : Prop := Claim7.holds Tryz.pinned (.plain (OpenSpec.upto fnExactTotalSizeSpec)) fnExactTotalSizeUptoCard

/-- THE SECOND FORM's CARD OF 'laws.FnExactSameFiles'. -/
def fnExactSameFilesUptoCard : Claim7 := { stood := { row := fnExactSameFilesUptoRow, standIns := [], harness := (true, "6bafa674d9bbaf66390e378ed8ad8154300254183b165777504914f0dab43849"), looks := false }, kinds := [], alts := [], laidByText := true, laidKinds := [.data, .data, .data, .data, .pinned], laidTests := true, laidLooks := .later }
def FnExactSameFilesUptoCardSaid : Prop := Claim7.holds Tryz.pinned (.plain (OpenSpec.upto fnExactSameFilesSpec)) fnExactSameFilesUptoCard

/-- THE SECOND FORM's CARD OF 'laws.FnExactChangesOf'. -/
def fnExactChangesOfUptoCard : Claim7 := { stood := { row := fnExactChangesOfUptoRow, standIns := [], harness := (true, "6bafa674d9bbaf66390e378ed8ad8154300254183b165777504914f0dab43849"), looks := false }, kinds := [], alts := [], laidByText := true, laidKinds := [.data, .data, .data, .data, .pinned], laidTests := true, laidLooks := .later }
def FnExactChangesOfUptoCardSaid : Prop := Claim7.holds Tryz.pinned (.plain (OpenSpec.upto fnExactChangesOfSpec)) fnExactChangesOfUptoCard
end Rows
end Go.Proofs.YtjgbidklkhohfaaGreatDoor
