/-
  DERIVED. GIVEN WITH THE SEED: THE CARDS: each row of YtjlecokclcpciaaDoorRows.lean that lists a variable, with what it lists TIED to the program's text (the seventh form; the later family's looks); each row that meets fmt, with fmt's text TOLD by the authors' own Lean function (tested against real Go, not proved from fmt's source: count such statements apart). THE CARD IS WHAT COUNTS. Prove the row's statement (the work); the ties are given (YtjlecokclcpciaaDoorTie.lean); close each card by the builder's one call (the guide's Derived/Test/ToyasCard.lean, 'card_holds'). Laid BY PROGRAM, IN A SANDBOX (cutbox-door.mjs). By AI agents, Wed Nov 11 2026. No macro, syntax, notation, axiom, sorry.
-/
import Derived.Test.YtjlecokclcpciaaDoorRows
import GoSem.ClaimSeven
namespace Go.Proofs.YtjlecokclcpciaaDoor
namespace Rows

/-- THE TIED CARD OF 'laws.FnExactCountStatus'. -/
def fnExactCountStatusCard : Claim7 := { stood := { row := fnExactCountStatusRow, standIns := [], harness := (true, "bd068d6055ff78b5cf51e8e288bc4c0eb7c3380ac8db0290a6a2b636119b27a6"), looks := true }, kinds := [], alts := [], laidByText := true, laidKinds := [.data, .data, .data], laidTests := true, laidLooks := .later }
def FnExactCountStatusCardSaid : Prop := Claim7.holds Tryd.pinned (.plain (OpenSpec.ofChange fnExactCountStatusSpec)) fnExactCountStatusCard

/-- THE TIED CARD OF 'laws.FnExactReadLine'. -/
def fnExactReadLineCard : Claim7 := { stood := { row := fnExactReadLineRow, standIns := [], harness := (true, "bd068d6055ff78b5cf51e8e288bc4c0eb7c3380ac8db0290a6a2b636119b27a6"), looks := true }, kinds := [], alts := [], laidByText := true, laidKinds := [.data, .data, .data, .sentinel, .sentinel], laidTests := true, laidLooks := .later }
def FnExactReadLineCardSaid : Prop := Claim7.holds Tryd.pinned (.plain (OpenSpec.ofChange fnExactReadLineSpec)) fnExactReadLineCard

/-- THE SECOND FORM's CARD OF 'laws.FnExactCountStatus'. -/
def fnExactCountStatusUptoCard : Claim7 := { stood := { row := fnExactCountStatusUptoRow, standIns := [], harness := (true, "bd068d6055ff78b5cf51e8e288bc4c0eb7c3380ac8db0290a6a2b636119b27a6"), looks := true }, kinds := [], alts := [], laidByText := true, laidKinds := [.data, .data, .data], laidTests := true, laidLooks := .later }
def FnExactCountStatusUptoCardSaid : Prop := Claim7.holds Tryd.pinned (.plain (OpenSpec.upto fnExactCountStatusSpec)) fnExactCountStatusUptoCard

/-- THE SECOND FORM's CARD OF 'laws.FnExactReadLine'. -/
def fnExactReadLineUptoCard : Claim7 := { stood := { row := fnExactReadLineUptoRow, standIns := [], harness := (true, "bd068d6055ff78b5cf51e8e288bc4c0eb7c3380ac8db0290a6a2b636119b27a6"), looks := true }, kinds := [], alts := [], laidByText := true, laidKinds := [.data, .data, .data, .sentinel, .sentinel], laidTests := true, laidLooks := .later }
def FnExactReadLineUptoCardSaid : Prop := Claim7.holds Tryd.pinned (.plain (OpenSpec.upto fnExactReadLineSpec)) fnExactReadLineUptoCard
end Rows
end Go.Proofs.YtjlecokclcpciaaDoor
