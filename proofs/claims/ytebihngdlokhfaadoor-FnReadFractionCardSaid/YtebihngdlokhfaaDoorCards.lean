/-
  DERIVED. GIVEN WITH THE SEED: THE CARDS: each row of YtebihngdlokhfaaDoorRows.lean that lists a variable, with what it lists TIED to the program's text (the seventh form; the later family's looks); each row that meets fmt, with fmt's text TOLD by the authors' own Lean function (tested against real Go, not proved from fmt's source: count such statements apart). THE CARD IS WHAT COUNTS. Prove the row's statement (the work); the ties are given (YtebihngdlokhfaaDoorTie.lean); close each card by the builder's one call (the guide's Derived/Test/ToyasCard.lean, 'card_holds'). Laid BY PROGRAM, IN A SANDBOX (cutbox-door.mjs). By AI agents, Wed Nov 11 2026. No macro, syntax, notation, axiom, sorry.
-/
import Derived.Test.YtebihngdlokhfaaDoorRows
import GoSem.ClaimSeven
namespace Go.Proofs.YtebihngdlokhfaaDoor
namespace Rows

/-- THE TIED CARD OF 'laws.FnFractionText'. -/
def fnFractionTextCard : Claim7 := { stood := { row := fnFractionTextRow, standIns := [], harness := (true, "7fd4123800ed2ec4fcc209d940ec1d662eed1781a26742dbbafd22e332cb18ba"), looks := true }, kinds := [], alts := [], laidByText := true, laidKinds := [.data, .data, .data, .sentinel, .sentinel], laidTests := true, laidLooks := .later }
def FnFractionTextCardSaid : Prop := Claim7.holds Tryd.pinned (.plain (OpenSpec.ofChange fnFractionTextSpec)) fnFractionTextCard

/-- THE TIED CARD OF 'laws.FnReadFraction'. -/
def fnReadFractionCard : Claim7 := { stood := { row := fnReadFractionRow, standIns := [], harness := (true, "7fd4123800ed2ec4fcc209d940ec1d662eed1781a26742dbbafd22e332cb18ba"), looks := true }, kinds := [], alts := [], laidByText := true, laidKinds := [.data, .data, .data, .sentinel, .sentinel], laidTests := true, laidLooks := .later }
def FnReadFractionCardSaid : Prop := Claim7.holds Tryd.pinned (.plain (OpenSpec.ofChange fnReadFractionSpec)) fnReadFractionCard

/-- THE TIED CARD OF 'laws.FnNormalOf'. -/
def fnNormalOfCard : Claim7 := { stood := { row := fnNormalOfRow, standIns := [], harness := (true, "7fd4123800ed2ec4fcc209d940ec1d662eed1781a26742dbbafd22e332cb18ba"), looks := true }, kinds := [], alts := [], laidByText := true, laidKinds := [.data, .pinned], laidTests := true, laidLooks := .later }
def FnNormalOfCardSaid : Prop := Claim7.holds Tryd.pinned (.plain (OpenSpec.ofChange fnNormalOfSpec)) fnNormalOfCard

/-- THE SECOND FORM's CARD OF 'laws.FnFractionText'. -/
def fnFractionTextUptoCard : Claim7 := { stood := { row := fnFractionTextUptoRow, standIns := [], harness := (true, "7fd4123800ed2ec4fcc209d940ec1d662eed1781a26742dbbafd22e332cb18ba"), looks := true }, kinds := [], alts := [], laidByText := true, laidKinds := [.data, .data, .data, .sentinel, .sentinel], laidTests := true, laidLooks := .later }
def FnFractionTextUptoCardSaid : Prop := Claim7.holds Tryd.pinned (.plain (OpenSpec.upto fnFractionTextSpec)) fnFractionTextUptoCard

/-- THE SECOND FORM's CARD OF 'laws.FnReadFraction'. -/
def fnReadFractionUptoCard : Claim7 := { stood := { row := fnReadFractionUptoRow, standIns := [], harness := (true, "7fd4123800ed2ec4fcc209d940ec1d662eed1781a26742dbbafd22e332cb18ba"), looks := true }, kinds := [], alts := [], laidByText := true, laidKinds := [.data, .data, .data, .sentinel, .sentinel], laidTests := true, laidLooks := .later }
def FnReadFractionUptoCardSaid : Prop := Claim7.holds Tryd.pinned (.plain (OpenSpec.upto fnReadFractionSpec)) fnReadFractionUptoCard

/-- THE SECOND FORM's CARD OF 'laws.FnNormalOf'. -/
def fnNormalOfUptoCard : Claim7 := { stood := { row := fnNormalOfUptoRow, standIns := [], harness := (true, "7fd4123800ed2ec4fcc209d940ec1d662eed1781a26742dbbafd22e332cb18ba"), looks := true }, kinds := [], alts := [], laidByText := true, laidKinds := [.data, .pinned], laidTests := true, laidLooks := .later }
def FnNormalOfUptoCardSaid : Prop := Claim7.holds Tryd.pinned (.plain (OpenSpec.upto fnNormalOfSpec)) fnNormalOfUptoCard
end Rows
end Go.Proofs.YtebihngdlokhfaaDoor
