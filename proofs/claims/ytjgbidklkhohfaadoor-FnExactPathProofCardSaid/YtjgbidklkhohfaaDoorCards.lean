/-
  DERIVED. GIVEN WITH THE SEED: THE CARDS: each row of YtjgbidklkhohfaaDoorRows.lean that lists a variable, with what it lists TIED to the program's text (the seventh form; the later family's looks); each row that meets fmt, with fmt's text TOLD by the authors' own Lean function (tested against real Go, not proved from fmt's source: count such statements apart). THE CARD IS WHAT COUNTS. Prove the row's statement (the work); the ties are given (YtjgbidklkhohfaaDoorTie.lean); close each card by the builder's one call (the guide's Derived/Test/ToyasCard.lean, 'card_holds'). Laid BY PROGRAM, IN A SANDBOX (cutbox-door.mjs). By AI agents, Wed Nov 11 2026. No macro, syntax, notation, axiom, sorry.
-/
import Derived.Test.YtjgbidklkhohfaaDoorRows
import GoSem.ClaimSeven
namespace Go.Proofs.YtjgbidklkhohfaaDoor
namespace Rows

/-- THE TIED CARD OF 'laws.FnExactReachOf'. -/
def fnExactReachOfCard : Claim7 := { stood := { row := fnExactReachOfRow, standIns := [], harness := (true, "cdd28524c3e377a6d8e356bf5676f45fb6231ca8914c3f360425bd490427e067"), looks := false }, kinds := [], alts := [], laidByText := true, laidKinds := [.data, .data, .data], laidTests := true, laidLooks := .later }
def FnExactReachOfCardSaid : Prop := Claim7.holds Tryd.pinned (.plain (OpenSpec.ofChange fnExactReachOfSpec)) fnExactReachOfCard

/-- THE TIED CARD OF 'laws.FnExactLostPrints'. -/
def fnExactLostPrintsCard : Claim7 := { stood := { row := fnExactLostPrintsRow, standIns := [], harness := (true, "cdd28524c3e377a6d8e356bf5676f45fb6231ca8914c3f360425bd490427e067"), looks := false }, kinds := [], alts := [], laidByText := true, laidKinds := [.data, .data, .data], laidTests := true, laidLooks := .later }
def FnExactLostPrintsCardSaid : Prop := Claim7.holds Tryd.pinned (.plain (OpenSpec.ofChange fnExactLostPrintsSpec)) fnExactLostPrintsCard

/-- THE TIED CARD OF 'laws.FnExactSweepStore'. -/
def fnExactSweepStoreCard : Claim7 := { stood := { row := fnExactSweepStoreRow, standIns := [], harness := (true, "cdd28524c3e377a6d8e356bf5676f45fb6231ca8914c3f360425bd490427e067"), looks := false }, kinds := [], alts := [], laidByText := true, laidKinds := [.data, .data, .data], laidTests := true, laidLooks := .later }
def FnExactSweepStoreCardSaid : Prop := Claim7.holds Tryd.pinned (.plain (OpenSpec.ofChange fnExactSweepStoreSpec)) fnExactSweepStoreCard

/-- THE TIED CARD OF 'laws.FnReachOf'. -/
def fnReachOfCard : Claim7 := { stood := { row := fnReachOfRow, standIns := [], harness := (true, "cdd28524c3e377a6d8e356bf5676f45fb6231ca8914c3f360425bd490427e067"), looks := false }, kinds := [], alts := [], laidByText := true, laidKinds := [.data, .data, .data], laidTests := true, laidLooks := .later }
def FnReachOfCardSaid : Prop := Claim7.holds Tryd.pinned (.plain (OpenSpec.ofChange fnReachOfSpec)) fnReachOfCard

/-- THE TIED CARD OF 'laws.FnExactAllFiles'. -/
def fnExactAllFilesCard : Claim7 := { stood := { row := fnExactAllFilesRow, standIns := [], harness := (true, "cdd28524c3e377a6d8e356bf5676f45fb6231ca8914c3f360425bd490427e067"), looks := false }, kinds := [], alts := [], laidByText := true, laidKinds := [.data, .data, .data], laidTests := true, laidLooks := .later }
def FnExactAllFilesCardSaid : Prop := Claim7.holds Tryd.pinned (.plain (OpenSpec.ofChange fnExactAllFilesSpec)) fnExactAllFilesCard

/-- THE TIED CARD OF 'laws.FnExactProofRight'. -/
def fnExactProofRightCard : Claim7 := { stood := { row := fnExactProofRightRow, standIns := [], harness := (true, "cdd28524c3e377a6d8e356bf5676f45fb6231ca8914c3f360425bd490427e067"), looks := false }, kinds := [], alts := [], laidByText := true, laidKinds := [.data, .data, .data, .data, .pinned], laidTests := true, laidLooks := .later }
def FnExactProofRightCardSaid : Prop := Claim7.holds Tryd.pinned (.plain (OpenSpec.ofChange fnExactProofRightSpec)) fnExactProofRightCard

/-- THE TIED CARD OF 'laws.FnExactAbsenceRight'. -/
def fnExactAbsenceRightCard : Claim7 := { stood := { row := fnExactAbsenceRightRow, standIns := [], harness := (true, "cdd28524c3e377a6d8e356bf5676f45fb6231ca8914c3f360425bd490427e067"), looks := false }, kinds := [], alts := [], laidByText := true, laidKinds := [.data, .data, .data, .data, .pinned], laidTests := true, laidLooks := .later }
def FnExactAbsenceRightCardSaid : Prop := Claim7.holds Tryd.pinned (.plain (OpenSpec.ofChange fnExactAbsenceRightSpec)) fnExactAbsenceRightCard

/-- THE TIED CARD OF 'laws.FnExactProofContent'. -/
def fnExactProofContentCard : Claim7 := { stood := { row := fnExactProofContentRow, standIns := [], harness := (true, "cdd28524c3e377a6d8e356bf5676f45fb6231ca8914c3f360425bd490427e067"), looks := false }, kinds := [], alts := [], laidByText := true, laidKinds := [.data, .data, .data, .data, .pinned], laidTests := true, laidLooks := .later }
def FnExactProofContentCardSaid : Prop := Claim7.holds Tryd.pinned (.plain (OpenSpec.ofChange fnExactProofContentSpec)) fnExactProofContentCard

/-- THE TIED CARD OF 'laws.FnExactPathProof'. -/
def fnExactPathProofCard : Claim7 := { stood := { row := fnExactPathProofRow, standIns := [], harness := (true, "cdd28524c3e377a6d8e356bf5676f45fb6231ca8914c3f360425bd490427e067"), looks := false }, kinds := [], alts := [], laidByText := true, laidKinds := [.data, .data, .data, .data, .pinned], laidTests := true, laidLooks := .later }
def FnExactPathProofCardSaid : Prop := Claim7.holds Tryd.pinned (.plain (OpenSpec.ofChange fnExactPathProofSpec)) fnExactPathProofCard

/-- THE SECOND FORM's CARD OF 'laws.FnExactReachOf'. -/
def fnExactReachOfUptoCard : Claim7 := { stood := { row := fnExactReachOfUptoRow, standIns := [], harness := (true, "cdd28524c3e377a6d8e356bf5676f45fb6231ca8914c3f360425bd490427e067"), looks := false }, kinds := [], alts := [], laidByText := true, laidKinds := [.data, .data, .data], laidTests := true, laidLooks := .later }
def FnExactReachOfUptoCardSaid : Prop := Claim7.holds Tryd.pinned (.plain (OpenSpec.upto fnExactReachOfSpec)) fnExactReachOfUptoCard

/-- THE SECOND FORM's CARD OF 'laws.FnExactLostPrints'. -/
def fnExactLostPrintsUptoCard : Claim7 := { stood := { row := fnExactLostPrintsUptoRow, standIns := [], harness := (true, "cdd28524c3e377a6d8e356bf5676f45fb6231ca8914c3f360425bd490427e067"), looks := false }, kinds := [], alts := [], laidByText := true, laidKinds := [.data, .data, .data], laidTests := true, laidLooks := .later }
def FnExactLostPrintsUptoCardSaid : Prop := Claim7.holds Tryd.pinned (.plain (OpenSpec.upto fnExactLostPrintsSpec)) fnExactLostPrintsUptoCard

/-- THE SECOND FORM's CARD OF 'laws.FnExactSweepStore'. -/
def fnExactSweepStoreUptoCard : Claim7 := { stood := { row := fnExactSweepStoreUptoRow, standIns := [], harness := (true, "cdd28524c3e377a6d8e356bf5676f45fb6231ca8914c3f360425bd490427e067"), looks := false }, kinds := [], alts := [], laidByText := true, laidKinds := [.data, .data, .data], laidTests := true, laidLooks := .later }
def FnExactSweepStoreUptoCardSaid : Prop := Claim7.holds Tryd.pinned (.plain (OpenSpec.upto fnExactSweepStoreSpec)) fnExactSweepStoreUptoCard

/-- THE SECOND FORM's CARD OF 'laws.FnReachOf'. -/
def fnReachOfUptoCard : Claim7 := { stood := { row := fnReachOfUptoRow, standIns := [], harness := (true, "cdd28524c3e377a6d8e356bf5676f45fb6231ca8914c3f360425bd490427e067"), looks := false }, kinds := [], alts := [], laidByText := true, laidKinds := [.data, .data, .data], laidTests := true, laidLooks := .later }
def FnReachOfUptoCardSaid : Prop := Claim7.holds Tryd.pinned (.plain (OpenSpec.upto fnReachOfSpec)) fnReachOfUptoCard

/-- THE SECOND FORM's CARD OF 'laws.FnExactAllFiles'. -/
def fnExactAllFilesUptoCard : Claim7 := { stood := { row := fnExactAllFilesUptoRow, standIns := [], harness := (true, "cdd28524c3e377a6d8e356bf5676f45fb6231ca8914c3f360425bd490427e067"), looks := false }, kinds := [], alts := [], laidByText := true, laidKinds := [.data, .data, .data], laidTests := true, laidLooks := .later }
def FnExactAllFilesUptoCardSaid : Prop := Claim7.holds Tryd.pinned (.plain (OpenSpec.upto fnExactAllFilesSpec)) fnExactAllFilesUptoCard

/-- THE SECOND FORM's CARD OF 'laws.FnExactProofRight'. -/
def fnExactProofRightUptoCard : Claim7 := { stood := { row := fnExactProofRightUptoRow, standIns := [], harness := (true, "cdd28524c3e377a6d8e356bf5676f45fb6231ca8914c3f360425bd490427e067"), looks := false }, kinds := [], alts := [], laidByText := true, laidKinds := [.data, .data, .data, .data, .pinned], laidTests := true, laidLooks := .later }
def FnExactProofRightUptoCardSaid : Prop := Claim7.holds Tryd.pinned (.plain (OpenSpec.upto fnExactProofRightSpec)) fnExactProofRightUptoCard

/-- THE SECOND FORM's CARD OF 'laws.FnExactAbsenceRight'. -/
def fnExactAbsenceRightUptoCard : Claim7 := { stood := { row := fnExactAbsenceRightUptoRow, standIns := [], harness := (true, "cdd28524c3e377a6d8e356bf5676f45fb6231ca8914c3f360425bd490427e067"), looks := false }, kinds := [], alts := [], laidByText := true, laidKinds := [.data, .data, .data, .data, .pinned], laidTests := true, laidLooks := .later }
def FnExactAbsenceRightUptoCardSaid : Prop := Claim7.holds Tryd.pinned (.plain (OpenSpec.upto fnExactAbsenceRightSpec)) fnExactAbsenceRightUptoCard

/-- THE SECOND FORM's CARD OF 'laws.FnExactProofContent'. -/
def fnExactProofContentUptoCard : Claim7 := { stood := { row := fnExactProofContentUptoRow, standIns := [], harness := (true, "cdd28524c3e377a6d8e356bf5676f45fb6231ca8914c3f360425bd490427e067"), looks := false }, kinds := [], alts := [], laidByText := true, laidKinds := [.data, .data, .data, .data, .pinned], laidTests := true, laidLooks := .later }
def FnExactProofContentUptoCardSaid : Prop := Claim7.holds Tryd.pinned (.plain (OpenSpec.upto fnExactProofContentSpec)) fnExactProofContentUptoCard

/-- THE SECOND FORM's CARD OF 'laws.FnExactPathProof'. -/
def fnExactPathProofUptoCard : Claim7 := { stood := { row := fnExactPathProofUptoRow, standIns := [], harness := (true, "cdd28524c3e377a6d8e356bf5676f45fb6231ca8914c3f360425bd490427e067"), looks := false }, kinds := [], alts := [], laidByText := true, laidKinds := [.data, .data, .data, .data, .pinned], laidTests := true, laidLooks := .later }
def FnExactPathProofUptoCardSaid : Prop := Claim7.holds Tryd.pinned (.plain (OpenSpec.upto fnExactPathProofSpec)) fnExactPathProofUptoCard
end Rows
end Go.Proofs.YtjgbidklkhohfaaDoor
