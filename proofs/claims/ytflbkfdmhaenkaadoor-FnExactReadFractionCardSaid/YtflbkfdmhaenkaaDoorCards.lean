/-
  DERIVED. GIVEN WITH THE SEED: THE CARDS: each row of YtflbkfdmhaenkaaDoorRows.lean that lists a variable, with what it lists TIED to the program's text (the seventh form; the later family's looks); each row that meets fmt, with fmt's text TOLD by the authors' own Lean function (tested against real Go, not proved from fmt's source: count such statements apart). THE CARD IS WHAT COUNTS. Prove the row's statement (the work); the ties are given (YtflbkfdmhaenkaaDoorTie.lean); close each card by the builder's one call (the guide's Derived/Test/ToyasCard.lean, 'card_holds'). Laid BY PROGRAM, IN A SANDBOX (cutbox-door.mjs). By AI agents, Wed Nov 11 2026. No macro, syntax, notation, axiom, sorry.
-/
import Derived.Test.YtflbkfdmhaenkaaDoorRows
import GoSem.ClaimSeven
namespace Go.Proofs.YtflbkfdmhaenkaaDoor
namespace Rows

/-- THE TIED CARD OF 'laws.FnFasterOf'. -/
def fnFasterOfCard : Claim7 := { stood := { row := fnFasterOfRow, standIns := [], harness := (true, "917f940969b5aa80a9146dca7754eb506300219d693fd6be9cb8d1d469830586"), looks := true }, kinds := [], alts := [], laidByText := true, laidKinds := [.data, .pinned], laidTests := true, laidLooks := .later }
def FnFasterOfCardSaid : Prop := Claim7.holds Tryd.pinned (.plain (OpenSpec.ofChange fnFasterOfSpec)) fnFasterOfCard

/-- THE TIED CARD OF 'laws.FnDanceFor'. -/
def fnDanceForCard : Claim7 := { stood := { row := fnDanceForRow, standIns := [], harness := (true, "917f940969b5aa80a9146dca7754eb506300219d693fd6be9cb8d1d469830586"), looks := true }, kinds := [], alts := [], laidByText := true, laidKinds := [.data, .pinned], laidTests := true, laidLooks := .later }
def FnDanceForCardSaid : Prop := Claim7.holds Tryd.pinned (.plain (OpenSpec.ofChange fnDanceForSpec)) fnDanceForCard

/-- THE TIED CARD OF 'laws.FnExactReadFraction'. -/
def fnExactReadFractionCard : Claim7 := { stood := { row := fnExactReadFractionRow, standIns := [], harness := (true, "917f940969b5aa80a9146dca7754eb506300219d693fd6be9cb8d1d469830586"), looks := true }, kinds := [], alts := [], laidByText := true, laidKinds := [.data, .data, .data, .sentinel, .sentinel], laidTests := true, laidLooks := .later }
def FnExactReadFractionCardSaid : Prop := Claim7.holds Tryd.pinned (.plain (OpenSpec.ofChange fnExactReadFractionSpec)) fnExactReadFractionCard

/-- THE SECOND FORM's CARD OF 'laws.FnFasterOf'. -/
def fnFasterOfUptoCard : Claim7 := { stood := { row := fnFasterOfUptoRow, standIns := [], harness := (true, "917f940969b5aa80a9146dca7754eb506300219d693fd6be9cb8d1d469830586"), looks := true }, kinds := [], alts := [], laidByText := true, laidKinds := [.data, .pinned], laidTests := true, laidLooks := .later }
def FnFasterOfUptoCardSaid : Prop := Claim7.holds Tryd.pinned (.plain (OpenSpec.upto fnFasterOfSpec)) fnFasterOfUptoCard

/-- THE SECOND FORM's CARD OF 'laws.FnDanceFor'. -/
def fnDanceForUptoCard : Claim7 := { stood := { row := fnDanceForUptoRow, standIns := [], harness := (true, "917f940969b5aa80a9146dca7754eb506300219d693fd6be9cb8d1d469830586"), looks := true }, kinds := [], alts := [], laidByText := true, laidKinds := [.data, .pinned], laidTests := true, laidLooks := .later }
def FnDanceForUptoCardSaid : Prop := Claim7.holds Tryd.pinned (.plain (OpenSpec.upto fnDanceForSpec)) fnDanceForUptoCard

/-- THE SECOND FORM's CARD OF 'laws.FnExactReadFraction'. -/
def fnExactReadFractionUptoCard : Claim7 := { stood := { row := fnExactReadFractionUptoRow, standIns := [], harness := (true, "917f940969b5aa80a9146dca7754eb506300219d693fd6be9cb8d1d469830586"), looks := true }, kinds := [], alts := [], laidByText := true, laidKinds := [.data, .data, .data, .sentinel, .sentinel], laidTests := true, laidLooks := .later }
def FnExactReadFractionUptoCardSaid : Prop := Claim7.holds Tryd.pinned (.plain (OpenSpec.upto fnExactReadFractionSpec)) fnExactReadFractionUptoCard
end Rows
end Go.Proofs.YtflbkfdmhaenkaaDoor
