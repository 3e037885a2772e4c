/-
  DERIVED. GIVEN WITH THE SEED: THE CARDS: each row of YtpjiimlcdifneaaDoorRows.lean that lists a variable, with what it lists TIED to the program's text (the seventh form; the later family's looks); each row that meets fmt, with fmt's text TOLD by the authors' own Lean function (tested against real Go, not proved from fmt's source: count such statements apart). THE CARD IS WHAT COUNTS. Prove the row's statement (the work); the ties are given (YtpjiimlcdifneaaDoorTie.lean); close each card by the builder's one call (the guide's Derived/Test/ToyasCard.lean, 'card_holds'). Laid BY PROGRAM, IN A SANDBOX (cutbox-door.mjs). By AI agents, Wed Nov 11 2026. No macro, syntax, notation, axiom, sorry.
-/
import Derived.Test.YtpjiimlcdifneaaDoorRows
import GoSem.ClaimSeven
namespace Go.Proofs.YtpjiimlcdifneaaDoor
namespace Rows

/-- THE TIED CARD OF 'laws.FnExactFractionText'. -/
def fnExactFractionTextCard : Claim7 := { stood := { row := fnExactFractionTextRow, standIns := [], harness := (true, "a3e2260257119fe30c5826dad8ed25cb9dd0f7ccee989671034a85716ec6391e"), looks := false }, kinds := [], alts := [], laidByText := true, laidKinds := [.data, .data, .data], laidTests := true, laidLooks := .later }
def FnExactFractionTextCardSaid : Prop := Claim7.holds Tryd.pinned (.plain (OpenSpec.ofChange fnExactFractionTextSpec)) fnExactFractionTextCard

/-- THE TIED CARD OF 'laws.FnExactDanceOk'. -/
def fnExactDanceOkCard : Claim7 := { stood := { row := fnExactDanceOkRow, standIns := [], harness := (true, "a3e2260257119fe30c5826dad8ed25cb9dd0f7ccee989671034a85716ec6391e"), looks := false }, kinds := [], alts := [], laidByText := true, laidKinds := [.data, .pinned], laidTests := true, laidLooks := .later }
def FnExactDanceOkCardSaid : Prop := Claim7.holds Tryd.pinned (.plain (OpenSpec.ofChange fnExactDanceOkSpec)) fnExactDanceOkCard

/-- THE TIED CARD OF 'laws.FnExactBackOf'. -/
def fnExactBackOfCard : Claim7 := { stood := { row := fnExactBackOfRow, standIns := [], harness := (true, "a3e2260257119fe30c5826dad8ed25cb9dd0f7ccee989671034a85716ec6391e"), looks := false }, kinds := [], alts := [], laidByText := true, laidKinds := [.data, .pinned], laidTests := true, laidLooks := .later }
def FnExactBackOfCardSaid : Prop := Claim7.holds Tryd.pinned (.plain (OpenSpec.ofChange fnExactBackOfSpec)) fnExactBackOfCard

/-- THE TIED CARD OF 'laws.FnExactShortenedOf'. -/
def fnExactShortenedOfCard : Claim7 := { stood := { row := fnExactShortenedOfRow, standIns := [], harness := (true, "a3e2260257119fe30c5826dad8ed25cb9dd0f7ccee989671034a85716ec6391e"), looks := false }, kinds := [], alts := [], laidByText := true, laidKinds := [.data, .pinned], laidTests := true, laidLooks := .later }
def FnExactShortenedOfCardSaid : Prop := Claim7.holds Tryd.pinned (.plain (OpenSpec.ofChange fnExactShortenedOfSpec)) fnExactShortenedOfCard

/-- THE TIED CARD OF 'laws.FnDanceOk'. -/
def fnDanceOkCard : Claim7 := { stood := { row := fnDanceOkRow, standIns := [], harness := (true, "a3e2260257119fe30c5826dad8ed25cb9dd0f7ccee989671034a85716ec6391e"), looks := false }, kinds := [], alts := [], laidByText := true, laidKinds := [.data, .pinned], laidTests := true, laidLooks := .later }
def FnDanceOkCardSaid : Prop := Claim7.holds Tryd.pinned (.plain (OpenSpec.ofChange fnDanceOkSpec)) fnDanceOkCard

/-- THE TIED CARD OF 'laws.FnExactEndsAfter'. -/
def fnExactEndsAfterCard : Claim7 := { stood := { row := fnExactEndsAfterRow, standIns := [], harness := (true, "a3e2260257119fe30c5826dad8ed25cb9dd0f7ccee989671034a85716ec6391e"), looks := false }, kinds := [], alts := [], laidByText := true, laidKinds := [.data, .pinned], laidTests := true, laidLooks := .later }
def FnExactEndsAfterCardSaid : Prop := Claim7.holds Tryd.pinned (.plain (OpenSpec.ofChange fnExactEndsAfterSpec)) fnExactEndsAfterCard

/-- THE TIED CARD OF 'laws.FnExactMapOf'. -/
def fnExactMapOfCard : Claim7 := { stood := { row := fnExactMapOfRow, standIns := [], harness := (true, "a3e2260257119fe30c5826dad8ed25cb9dd0f7ccee989671034a85716ec6391e"), looks := false }, kinds := [], alts := [], laidByText := true, laidKinds := [.data, .pinned], laidTests := true, laidLooks := .later }
def FnExactMapOfCardSaid : Prop := Claim7.holds Tryd.pinned (.plain (OpenSpec.ofChange fnExactMapOfSpec)) fnExactMapOfCard

/-- THE TIED CARD OF 'laws.FnBackOf'. -/
def fnBackOfCard : Claim7 := { stood := { row := fnBackOfRow, standIns := [], harness := (true, "a3e2260257119fe30c5826dad8ed25cb9dd0f7ccee989671034a85716ec6391e"), looks := false }, kinds := [], alts := [], laidByText := true, laidKinds := [.data, .pinned], laidTests := true, laidLooks := .later }
def FnBackOfCardSaid : Prop := Claim7.holds Tryd.pinned (.plain (OpenSpec.ofChange fnBackOfSpec)) fnBackOfCard

/-- THE TIED CARD OF 'laws.FnExactDancedOf'. -/
def fnExactDancedOfCard : Claim7 := { stood := { row := fnExactDancedOfRow, standIns := [], harness := (true, "a3e2260257119fe30c5826dad8ed25cb9dd0f7ccee989671034a85716ec6391e"), looks := false }, kinds := [], alts := [], laidByText := true, laidKinds := [.data, .pinned], laidTests := true, laidLooks := .later }
def FnExactDancedOfCardSaid : Prop := Claim7.holds Tryd.pinned (.plain (OpenSpec.ofChange fnExactDancedOfSpec)) fnExactDancedOfCard

/-- THE SECOND FORM's CARD OF 'laws.FnExactFractionText'. -/
def fnExactFractionTextUptoCard : Claim7 := { stood := { row := fnExactFractionTextUptoRow, standIns := [], harness := (true, "a3e2260257119fe30c5826dad8ed25cb9dd0f7ccee989671034a85716ec6391e"), looks := false }, kinds := [], alts := [], laidByText := true, laidKinds := [.data, .data, .data], laidTests := true, laidLooks := .later }
def FnExactFractionTextUptoCardSaid : Prop := Claim7.holds Tryd.pinned (.plain (OpenSpec.upto fnExactFractionTextSpec)) fnExactFractionTextUptoCard

/-- THE SECOND FORM's CARD OF 'laws.FnExactDanceOk'. -/
def fnExactDanceOkUptoCard : Claim7 := { stood := { row := fnExactDanceOkUptoRow, standIns := [], harness := (true, "a3e2260257119fe30c5826dad8ed25cb9dd0f7ccee989671034a85716ec6391e"), looks := false }, kinds := [], alts := [], laidByText := true, laidKinds := [.data, .pinned], laidTests := true, laidLooks := .later }
def FnExactDanceOkUptoCardSaid : Prop := Claim7.holds Tryd.pinned (.plain (OpenSpec.upto fnExactDanceOkSpec)) fnExactDanceOkUptoCard

/-- THE SECOND FORM's CARD OF 'laws.FnExactBackOf'. -/
def fnExactBackOfUptoCard : Claim7 := { stood := { row := fnExactBackOfUptoRow, standIns := [], harness := (true, "a3e2260257119fe30c5826dad8ed25cb9dd0f7ccee989671034a85716ec6391e"), looks := false }, kinds := [], alts := [], laidByText := true, laidKinds := [.data, .pinned], laidTests := true, laidLooks := .later }
def FnExactBackOfUptoCardSaid : Prop := Claim7.holds Tryd.pinned (.plain (OpenSpec.upto fnExactBackOfSpec)) fnExactBackOfUptoCard

/-- THE SECOND FORM's CARD OF 'laws.FnExactShortenedOf'. -/
def fnExactShortenedOfUptoCard : Claim7 := { stood := { row := fnExactShortenedOfUptoRow, standIns := [], harness := (true, "a3e2260257119fe30c5826dad8ed25cb9dd0f7ccee989671034a85716ec6391e"), looks := false }, kinds := [], alts := [], laidByText := true, laidKinds := [.data, .pinned], laidTests := true, laidLooks := .later }
def FnExactShortenedOfUptoCardSaid : Prop := Claim7.holds Tryd.pinned (.plain (OpenSpec.upto fnExactShortenedOfSpec)) fnExactShortenedOfUptoCard

/-- THE SECOND FORM's CARD OF 'laws.FnDanceOk'. -/
def fnDanceOkUptoCard : Claim7 := { stood := { row := fnDanceOkUptoRow, standIns := [], harness := (true, "a3e2260257119fe30c5826dad8ed25cb9dd0f7ccee989671034a85716ec6391e"), looks := false }, kinds := [], alts := [], laidByText := true, laidKinds := [.data, .pinned], laidTests := true, laidLooks := .later }
def FnDanceOkUptoCardSaid : Prop := Claim7.holds Tryd.pinned (.plain (OpenSpec.upto fnDanceOkSpec)) fnDanceOkUptoCard

/-- THE SECOND FORM's CARD OF 'laws.FnExactEndsAfter'. -/
def fnExactEndsAfterUptoCard : Claim7 := { stood := { row := fnExactEndsAfterUptoRow, standIns := [], harness := (true, "a3e2260257119fe30c5826dad8ed25cb9dd0f7ccee989671034a85716ec6391e"), looks := false }, kinds := [], alts := [], laidByText := true, laidKinds := [.data, .pinned], laidTests := true, laidLooks := .later }
def FnExactEndsAfterUptoCardSaid : Prop := Claim7.holds Tryd.pinned (.plain (OpenSpec.upto fnExactEndsAfterSpec)) fnExactEndsAfterUptoCard

/-- THE SECOND FORM's CARD OF 'laws.FnExactMapOf'. -/
def fnExactMapOfUptoCard : Claim7 := { stood := { row := fnExactMapOfUptoRow, standIns := [], harness := (true, "a3e2260257119fe30c5826dad8ed25cb9dd0f7ccee989671034a85716ec6391e"), looks := false }, kinds := [], alts := [], laidByText := true, laidKinds := [.data, .pinned], laidTests := true, laidLooks := .later }
def FnExactMapOfUptoCardSaid : Prop := Claim7.holds Tryd.pinned (.plain (OpenSpec.upto fnExactMapOfSpec)) fnExactMapOfUptoCard

/-- THE SECOND FORM's CARD OF 'laws.FnBackOf'. -/
def fnBackOfUptoCard : Claim7 := { stood := { row := fnBackOfUptoRow, standIns := [], harness := (true, "a3e2260257119fe30c5826dad8ed25cb9dd0f7ccee989671034a85716ec6391e"), looks := false }, kinds := [], alts := [], laidByText := true, laidKinds := [.data, .pinned], laidTests := true, laidLooks := .later }
def FnBackOfUptoCardSaid : Prop := Claim7.holds Tryd.pinned (.plain (OpenSpec.upto fnBackOfSpec)) fnBackOfUptoCard

/-- THE SECOND FORM's CARD OF 'laws.FnExactDancedOf'. -/
def fnExactDancedOfUptoCard : Claim7 := { stood := { row := fnExactDancedOfUptoRow, standIns := [], harness := (true, "a3e2260257119fe30c5826dad8ed25cb9dd0f7ccee989671034a85716ec6391e"), looks := false }, kinds := [], alts := [], laidByText := true, laidKinds := [.data, .pinned], laidTests := true, laidLooks := .later }
def FnExactDancedOfUptoCardSaid : Prop := Claim7.holds Tryd.pinned (.plain (OpenSpec.upto fnExactDancedOfSpec)) fnExactDancedOfUptoCard
end Rows
end Go.Proofs.YtpjiimlcdifneaaDoor
