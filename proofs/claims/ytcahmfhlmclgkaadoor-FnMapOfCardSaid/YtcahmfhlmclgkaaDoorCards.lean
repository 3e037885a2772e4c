/-
  DERIVED. GIVEN WITH THE SEED: THE CARDS: each row of YtcahmfhlmclgkaaDoorRows.lean that lists a variable, with what it lists TIED to the program's text (the seventh form; the later family's looks); each row that meets fmt, with fmt's text TOLD by the authors' own Lean function (tested against real Go, not proved from fmt's source: count such statements apart). THE CARD IS WHAT COUNTS. Prove the row's statement (the work); the ties are given (YtcahmfhlmclgkaaDoorTie.lean); close each card by the builder's one call (the guide's Derived/Test/ToyasCard.lean, 'card_holds'). Laid BY PROGRAM, IN A SANDBOX (cutbox-door.mjs). By AI agents, Wed Nov 11 2026. No macro, syntax, notation, axiom, sorry.
-/
import Derived.Test.YtcahmfhlmclgkaaDoorRows
import GoSem.ClaimSeven
namespace Go.Proofs.YtcahmfhlmclgkaaDoor
namespace Rows

/-- THE TIED CARD OF 'laws.FnExactSameOk'. -/
def fnExactSameOkCard : Claim7 := { stood := { row := fnExactSameOkRow, standIns := [], harness := (true, "bb83c54e4de272cbe15269c9af77707692b3c75ad9d07eb3d90a797057cc0082"), looks := false }, kinds := [], alts := [], laidByText := true, laidKinds := [.data, .pinned], laidTests := true, laidLooks := .later }
def FnExactSameOkCardSaid : Prop := Claim7.holds Tryd.pinned (.plain (OpenSpec.ofChange fnExactSameOkSpec)) fnExactSameOkCard

/-- THE TIED CARD OF 'laws.FnExactDancedFrom'. -/
def fnExactDancedFromCard : Claim7 := { stood := { row := fnExactDancedFromRow, standIns := [], harness := (true, "bb83c54e4de272cbe15269c9af77707692b3c75ad9d07eb3d90a797057cc0082"), looks := false }, kinds := [], alts := [], laidByText := true, laidKinds := [.data, .pinned], laidTests := true, laidLooks := .later }
def FnExactDancedFromCardSaid : Prop := Claim7.holds Tryd.pinned (.plain (OpenSpec.ofChange fnExactDancedFromSpec)) fnExactDancedFromCard

/-- THE TIED CARD OF 'laws.FnExactLongFrom'. -/
def fnExactLongFromCard : Claim7 := { stood := { row := fnExactLongFromRow, standIns := [], harness := (true, "bb83c54e4de272cbe15269c9af77707692b3c75ad9d07eb3d90a797057cc0082"), looks := false }, kinds := [], alts := [], laidByText := true, laidKinds := [.data, .pinned], laidTests := true, laidLooks := .later }
def FnExactLongFromCardSaid : Prop := Claim7.holds Tryd.pinned (.plain (OpenSpec.ofChange fnExactLongFromSpec)) fnExactLongFromCard

/-- THE TIED CARD OF 'laws.FnShortenedOf'. -/
def fnShortenedOfCard : Claim7 := { stood := { row := fnShortenedOfRow, standIns := [], harness := (true, "bb83c54e4de272cbe15269c9af77707692b3c75ad9d07eb3d90a797057cc0082"), looks := false }, kinds := [], alts := [], laidByText := true, laidKinds := [.data, .pinned], laidTests := true, laidLooks := .later }
def FnShortenedOfCardSaid : Prop := Claim7.holds Tryd.pinned (.plain (OpenSpec.ofChange fnShortenedOfSpec)) fnShortenedOfCard

/-- THE TIED CARD OF 'laws.FnDancedOf'. -/
def fnDancedOfCard : Claim7 := { stood := { row := fnDancedOfRow, standIns := [], harness := (true, "bb83c54e4de272cbe15269c9af77707692b3c75ad9d07eb3d90a797057cc0082"), looks := false }, kinds := [], alts := [], laidByText := true, laidKinds := [.data, .pinned], laidTests := true, laidLooks := .later }
def FnDancedOfCardSaid : Prop := Claim7.holds Tryd.pinned (.plain (OpenSpec.ofChange fnDancedOfSpec)) fnDancedOfCard

/-- THE TIED CARD OF 'laws.FnEndsAfter'. -/
def fnEndsAfterCard : Claim7 := { stood := { row := fnEndsAfterRow, standIns := [], harness := (true, "bb83c54e4de272cbe15269c9af77707692b3c75ad9d07eb3d90a797057cc0082"), looks := false }, kinds := [], alts := [], laidByText := true, laidKinds := [.data, .pinned], laidTests := true, laidLooks := .later }
def FnEndsAfterCardSaid : Prop := Claim7.holds Tryd.pinned (.plain (OpenSpec.ofChange fnEndsAfterSpec)) fnEndsAfterCard

/-- THE TIED CARD OF 'laws.FnUntiedOf'. -/
def fnUntiedOfCard : Claim7 := { stood := { row := fnUntiedOfRow, standIns := [], harness := (true, "bb83c54e4de272cbe15269c9af77707692b3c75ad9d07eb3d90a797057cc0082"), looks := false }, kinds := [], alts := [], laidByText := true, laidKinds := [.data, .pinned], laidTests := true, laidLooks := .later }
def FnUntiedOfCardSaid : Prop := Claim7.holds Tryd.pinned (.plain (OpenSpec.ofChange fnUntiedOfSpec)) fnUntiedOfCard

/-- THE TIED CARD OF 'laws.FnStepsOf'. -/
def fnStepsOfCard : Claim7 := { stood := { row := fnStepsOfRow, standIns := [], harness := (true, "bb83c54e4de272cbe15269c9af77707692b3c75ad9d07eb3d90a797057cc0082"), looks := false }, kinds := [], alts := [], laidByText := true, laidKinds := [.data, .pinned], laidTests := true, laidLooks := .later }
def FnStepsOfCardSaid : Prop := Claim7.holds Tryd.pinned (.plain (OpenSpec.ofChange fnStepsOfSpec)) fnStepsOfCard

/-- THE TIED CARD OF 'laws.FnDancedFrom'. -/
def fnDancedFromCard : Claim7 := { stood := { row := fnDancedFromRow, standIns := [], harness := (true, "bb83c54e4de272cbe15269c9af77707692b3c75ad9d07eb3d90a797057cc0082"), looks := false }, kinds := [], alts := [], laidByText := true, laidKinds := [.data, .pinned], laidTests := true, laidLooks := .later }
def FnDancedFromCardSaid : Prop := Claim7.holds Tryd.pinned (.plain (OpenSpec.ofChange fnDancedFromSpec)) fnDancedFromCard

/-- THE TIED CARD OF 'laws.FnLongFrom'. -/
def fnLongFromCard : Claim7 := { stood := { row := fnLongFromRow, standIns := [], harness := (true, "bb83c54e4de272cbe15269c9af77707692b3c75ad9d07eb3d90a797057cc0082"), looks := false }, kinds := [], alts := [], laidByText := true, laidKinds := [.data, .pinned], laidTests := true, laidLooks := .later }
def FnLongFromCardSaid : Prop := Claim7.holds Tryd.pinned (.plain (OpenSpec.ofChange fnLongFromSpec)) fnLongFromCard

/-- THE TIED CARD OF 'laws.FnMapOf'. -/
def fnMapOfCard : Claim7 := { stood := { row := fnMapOfRow, standIns := [], harness := (true, "bb83c54e4de272cbe15269c9af77707692b3c75ad9d07eb3d90a797057cc0082"), looks := false }, kinds := [], alts := [], laidByText := true, laidKinds := [.data, .pinned], laidTests := true, laidLooks := .later }
def FnMapOfCardSaid : Prop := Claim7.holds Tryd.pinned (.plain (OpenSpec.ofChange fnMapOfSpec)) fnMapOfCard

/-- THE TIED CARD OF 'laws.FnSameOk'. -/
def fnSameOkCard : Claim7 := { stood := { row := fnSameOkRow, standIns := [], harness := (true, "bb83c54e4de272cbe15269c9af77707692b3c75ad9d07eb3d90a797057cc0082"), looks := false }, kinds := [], alts := [], laidByText := true, laidKinds := [.data, .pinned], laidTests := true, laidLooks := .later }
def FnSameOkCardSaid : Prop := Claim7.holds Tryd.pinned (.plain (OpenSpec.ofChange fnSameOkSpec)) fnSameOkCard

/-- THE SECOND FORM's CARD OF 'laws.FnExactSameOk'. -/
def fnExactSameOkUptoCard : Claim7 := { stood := { row := fnExactSameOkUptoRow, standIns := [], harness := (true, "bb83c54e4de272cbe15269c9af77707692b3c75ad9d07eb3d90a797057cc0082"), looks := false }, kinds := [], alts := [], laidByText := true, laidKinds := [.data, .pinned], laidTests := true, laidLooks := .later }
def FnExactSameOkUptoCardSaid : Prop := Claim7.holds Tryd.pinned (.plain (OpenSpec.upto fnExactSameOkSpec)) fnExactSameOkUptoCard

/-- THE SECOND FORM's CARD OF 'laws.FnExactDancedFrom'. -/
def fnExactDancedFromUptoCard : Claim7 := { stood := { row := fnExactDancedFromUptoRow, standIns := [], harness := (true, "bb83c54e4de272cbe15269c9af77707692b3c75ad9d07eb3d90a797057cc0082"), looks := false }, kinds := [], alts := [], laidByText := true, laidKinds := [.data, .pinned], laidTests := true, laidLooks := .later }
def FnExactDancedFromUptoCardSaid : Prop := Claim7.holds Tryd.pinned (.plain (OpenSpec.upto fnExactDancedFromSpec)) fnExactDancedFromUptoCard

/-- THE SECOND FORM's CARD OF 'laws.FnExactLongFrom'. -/
def fnExactLongFromUptoCard : Claim7 := { stood := { row := fnExactLongFromUptoRow, standIns := [], harness := (true, "bb83c54e4de272cbe15269c9af77707692b3c75ad9d07eb3d90a797057cc0082"), looks := false }, kinds := [], alts := [], laidByText := true, laidKinds := [.data, .pinned], laidTests := true, laidLooks := .later }
def FnExactLongFromUptoCardSaid : Prop := Claim7.holds Tryd.pinned (.plain (OpenSpec.upto fnExactLongFromSpec)) fnExactLongFromUptoCard

/-- THE SECOND FORM's CARD OF 'laws.FnShortenedOf'. -/
def fnShortenedOfUptoCard : Claim7 := { stood := { row := fnShortenedOfUptoRow, standIns := [], harness := (true, "bb83c54e4de272cbe15269c9af77707692b3c75ad9d07eb3d90a797057cc0082"), looks := false }, kinds := [], alts := [], laidByText := true, laidKinds := [.data, .pinned], laidTests := true, laidLooks := .later }
def FnShortenedOfUptoCardSaid : Prop := Claim7.holds Tryd.pinned (.plain (OpenSpec.upto fnShortenedOfSpec)) fnShortenedOfUptoCard

/-- THE SECOND FORM's CARD OF 'laws.FnDancedOf'. -/
def fnDancedOfUptoCard : Claim7 := { stood := { row := fnDancedOfUptoRow, standIns := [], harness := (true, "bb83c54e4de272cbe15269c9af77707692b3c75ad9d07eb3d90a797057cc0082"), looks := false }, kinds := [], alts := [], laidByText := true, laidKinds := [.data, .pinned], laidTests := true, laidLooks := .later }
def FnDancedOfUptoCardSaid : Prop := Claim7.holds Tryd.pinned (.plain (OpenSpec.upto fnDancedOfSpec)) fnDancedOfUptoCard

/-- THE SECOND FORM's CARD OF 'laws.FnEndsAfter'. -/
def fnEndsAfterUptoCard : Claim7 := { stood := { row := fnEndsAfterUptoRow, standIns := [], harness := (true, "bb83c54e4de272cbe15269c9af77707692b3c75ad9d07eb3d90a797057cc0082"), looks := false }, kinds := [], alts := [], laidByText := true, laidKinds := [.data, .pinned], laidTests := true, laidLooks := .later }
def FnEndsAfterUptoCardSaid : Prop := Claim7.holds Tryd.pinned (.plain (OpenSpec.upto fnEndsAfterSpec)) fnEndsAfterUptoCard

/-- THE SECOND FORM's CARD OF 'laws.FnUntiedOf'. -/
def fnUntiedOfUptoCard : Claim7 := { stood := { row := fnUntiedOfUptoRow, standIns := [], harness := (true, "bb83c54e4de272cbe15269c9af77707692b3c75ad9d07eb3d90a797057cc0082"), looks := false }, kinds := [], alts := [], laidByText := true, laidKinds := [.data, .pinned], laidTests := true, laidLooks := .later }
def FnUntiedOfUptoCardSaid : Prop := Claim7.holds Tryd.pinned (.plain (OpenSpec.upto fnUntiedOfSpec)) fnUntiedOfUptoCard

/-- THE SECOND FORM's CARD OF 'laws.FnStepsOf'. -/
def fnStepsOfUptoCard : Claim7 := { stood := { row := fnStepsOfUptoRow, standIns := [], harness := (true, "bb83c54e4de272cbe15269c9af77707692b3c75ad9d07eb3d90a797057cc0082"), looks := false }, kinds := [], alts := [], laidByText := true, laidKinds := [.data, .pinned], laidTests := true, laidLooks := .later }
def FnStepsOfUptoCardSaid : Prop := Claim7.holds Tryd.pinned (.plain (OpenSpec.upto fnStepsOfSpec)) fnStepsOfUptoCard

/-- THE SECOND FORM's CARD OF 'laws.FnDancedFrom'. -/
def fnDancedFromUptoCard : Claim7 := { stood := { row := fnDancedFromUptoRow, standIns := [], harness := (true, "bb83c54e4de272cbe15269c9af77707692b3c75ad9d07eb3d90a797057cc0082"), looks := false }, kinds := [], alts := [], laidByText := true, laidKinds := [.data, .pinned], laidTests := true, laidLooks := .later }
def FnDancedFromUptoCardSaid : Prop := Claim7.holds Tryd.pinned (.plain (OpenSpec.upto fnDancedFromSpec)) fnDancedFromUptoCard

/-- THE SECOND FORM's CARD OF 'laws.FnLongFrom'. -/
def fnLongFromUptoCard : Claim7 := { stood := { row := fnLongFromUptoRow, standIns := [], harness := (true, "bb83c54e4de272cbe15269c9af77707692b3c75ad9d07eb3d90a797057cc0082"), looks := false }, kinds := [], alts := [], laidByText := true, laidKinds := [.data, .pinned], laidTests := true, laidLooks := .later }
def FnLongFromUptoCardSaid : Prop := Claim7.holds Tryd.pinned (.plain (OpenSpec.upto fnLongFromSpec)) fnLongFromUptoCard

/-- THE SECOND FORM's CARD OF 'laws.FnMapOf'. -/
def fnMapOfUptoCard : Claim7 := { stood := { row := fnMapOfUptoRow, standIns := [], harness := (true, "bb83c54e4de272cbe15269c9af77707692b3c75ad9d07eb3d90a797057cc0082"), looks := false }, kinds := [], alts := [], laidByText := true, laidKinds := [.data, .pinned], laidTests := true, laidLooks := .later }
def FnMapOfUptoCardSaid : Prop := Claim7.holds Tryd.pinned (.plain (OpenSpec.upto fnMapOfSpec)) fnMapOfUptoCard

/-- THE SECOND FORM's CARD OF 'laws.FnSameOk'. -/
def fnSameOkUptoCard : Claim7 := { stood := { row := fnSameOkUptoRow, standIns := [], harness := (true, "bb83c54e4de272cbe15269c9af77707692b3c75ad9d07eb3d90a797057cc0082"), looks := false }, kinds := [], alts := [], laidByText := true, laidKinds := [.data, .pinned], laidTests := true, laidLooks := .later }
def FnSameOkUptoCardSaid : Prop := Claim7.holds Tryd.pinned (.plain (OpenSpec.upto fnSameOkSpec)) fnSameOkUptoCard
end Rows
end Go.Proofs.YtcahmfhlmclgkaaDoor
