/-
  DERIVED. GIVEN WITH THE SEED: THE CARDS: each row of YtggoiofammbchaaGreatDoorRows.lean that lists a variable, with what it lists TIED to the program's text (the seventh form; the later family's looks); each row that meets fmt, with fmt's text TOLD by the authors' own Lean function (tested against real Go, not proved from fmt's source: count such statements apart). THE CARD IS WHAT COUNTS. Prove the row's statement (the work); the ties are given (YtggoiofammbchaaGreatDoorTie.lean); close each card by the builder's one call (the guide's Derived/Test/ToyasCard.lean, 'card_holds'). Laid BY PROGRAM, IN A SANDBOX (cutbox-door.mjs). By AI agents, Wed Nov 11 2026. No macro, syntax, notation, axiom, sorry.
-/
import Derived.Test.YtggoiofammbchaaGreatDoorRows
import GoSem.ClaimSeven
namespace Go.Proofs.YtggoiofammbchaaGreatDoor
namespace Rows

/-- THE TIED CARD OF 'laws.FnExactCostOf'. -/
def fnExactCostOfCard : Claim7 := { stood := { row := fnExactCostOfRow, standIns := [], harness := (true, "9f526b0afcea9f6f6f5399081bc8a1ce9c66197a540853f9ec4053e40f0fdfb7"), looks := true }, kinds := [], alts := [], laidByText := true, laidKinds := [.data, .data, .data, .sentinel, .sentinel], laidTests := true, laidLooks := .later }
def FnExactCostOfCardSaid : Prop := Claim7.holds Tryz.pinned (.plain (OpenSpec.ofChange fnExactCostOfSpec)) fnExactCostOfCard

/-- THE TIED CARD OF 'laws.FnExactAnswerOf'. -/
def fnExactAnswerOfCard : Claim7 := { stood := { row := fnExactAnswerOfRow, standIns := [], harness := (true, "9f526b0afcea9f6f6f5399081bc8a1ce9c66197a540853f9ec4053e40f0fdfb7"), looks := true }, kinds := [], alts := [], laidByText := true, laidKinds := [.data, .data, .data, .sentinel, .sentinel], laidTests := true, laidLooks := .later }
def FnExactAnswerOfCardSaid : Prop := Claim7.holds Tryz.pinned (.plain (OpenSpec.ofChange fnExactAnswerOfSpec)) fnExactAnswerOfCard

/-- THE TIED CARD OF 'laws.FnExactRightReply'. -/
def fnExactRightReplyCard : Claim7 := { stood := { row := fnExactRightReplyRow, standIns := [], harness := (true, "9f526b0afcea9f6f6f5399081bc8a1ce9c66197a540853f9ec4053e40f0fdfb7"), looks := true }, kinds := [], alts := [], laidByText := true, laidKinds := [.data, .data, .data, .sentinel, .sentinel], laidTests := true, laidLooks := .later }
def FnExactRightReplyCardSaid : Prop := Claim7.holds Tryz.pinned (.plain (OpenSpec.ofChange fnExactRightReplySpec)) fnExactRightReplyCard

/-- THE TIED CARD OF 'laws.FnExactPlainHost'. -/
def fnExactPlainHostCard : Claim7 := { stood := { row := fnExactPlainHostRow, standIns := [], harness := (true, "9f526b0afcea9f6f6f5399081bc8a1ce9c66197a540853f9ec4053e40f0fdfb7"), looks := true }, kinds := [], alts := [], laidByText := true, laidKinds := [.data, .data, .data, .sentinel, .sentinel], laidTests := true, laidLooks := .later }
def FnExactPlainHostCardSaid : Prop := Claim7.holds Tryz.pinned (.plain (OpenSpec.ofChange fnExactPlainHostSpec)) fnExactPlainHostCard

/-- THE TIED CARD OF 'laws.FnExactNewHost'. -/
def fnExactNewHostCard : Claim7 := { stood := { row := fnExactNewHostRow, standIns := [], harness := (true, "9f526b0afcea9f6f6f5399081bc8a1ce9c66197a540853f9ec4053e40f0fdfb7"), looks := true }, kinds := [], alts := [], laidByText := true, laidKinds := [.data, .data, .data, .sentinel, .sentinel], laidTests := true, laidLooks := .later }
def FnExactNewHostCardSaid : Prop := Claim7.holds Tryz.pinned (.plain (OpenSpec.ofChange fnExactNewHostSpec)) fnExactNewHostCard

/-- THE SECOND FORM's CARD OF 'laws.FnExactCostOf'. -/
def fnExactCostOfUptoCard : Claim7 := { stood := { row := fnExactCostOfUptoRow, standIns := [], harness := (true, "9f526b0afcea9f6f6f5399081bc8a1ce9c66197a540853f9ec4053e40f0fdfb7"), looks := true }, kinds := [], alts := [], laidByText := true, laidKinds := [.data, .data, .data, .sentinel, .sentinel], laidTests := true, laidLooks := .later }
def FnExactCostOfUptoCardSaid : Prop := Claim7.holds Tryz.pinned (.plain (OpenSpec.upto fnExactCostOfSpec)) fnExactCostOfUptoCard

/-- THE SECOND FORM's CARD OF 'laws.FnExactAnswerOf'. -/
def fnExactAnswerOfUptoCard : Claim7 := { stood := { row := fnExactAnswerOfUptoRow, standIns := [], harness := (true, "9f526b0afcea9f6f6f5399081bc8a1ce9c66197a540853f9ec4053e40f0fdfb7"), looks := true }, kinds := [], alts := [], laidByText := true, laidKinds := [.data, .data, .data, .sentinel, .sentinel], laidTests := true, laidLooks := .later }
def FnExactAnswerOfUptoCardSaid : Prop := Claim7.holds Tryz.pinned (.plain (OpenSpec.upto fnExactAnswerOfSpec)) fnExactAnswerOfUptoCard

/-- THE SECOND FORM's CARD OF 'laws.FnExactRightReply'. -/
def fnExactRightReplyUptoCard : Claim7 := { stood := { row := fnExactRightReplyUptoRow, standIns := [], harness := (true, "9f526b0afcea9f6f6f5399081bc8a1ce9c66197a540853f9ec4053e40f0fdfb7"), looks := true }, kinds := [], alts := [], laidByText := true, laidKinds := [.data, .data, .data, .sentinel, .sentinel], laidTests := true, laidLooks := .later }
def FnExactRightReplyUptoCardSaid : Prop := Claim7.holds Tryz.pinned (.plain (OpenSpec.upto fnExactRightReplySpec)) fnExactRightReplyUptoCard

/-- THE SECOND FORM's CARD OF 'laws.FnExactPlainHost'. -/
def fnExactPlainHostUptoCard : Claim7 := { stood := { row := fnExactPlainHostUptoRow, standIns := [], harness := (true, "9f526b0afcea9f6f6f5399081bc8a1ce9c66197a540853f9ec4053e40f0fdfb7"), looks := true }, kinds := [], alts := [], laidByText := true, laidKinds := [.data, .data, .data, .sentinel, .sentinel], laidTests := true, laidLooks := .later }
def FnExactPlainHostUptoCardSaid : Prop := Claim7.holds Tryz.pinned (.plain (OpenSpec.upto fnExactPlainHostSpec)) fnExactPlainHostUptoCard

/-- THE SECOND FORM's CARD OF 'laws.FnExactNewHost'. -/
def fnExactNewHostUptoCard : Claim7 := { stood := { row := fnExactNewHostUptoRow, standIns := [], harness := (true, "9f526b0afcea9f6f6f5399081bc8a1ce9c66197a540853f9ec4053e40f0fdfb7"), looks := true }, kinds := [], alts := [], laidByText := true, laidKinds := [.data, .data, .data, .sentinel, .sentinel], laidTests := true, laidLooks := .later }
def FnExactNewHostUptoCardSaid : Prop := Claim7.holds Tryz.pinned (.plain (OpenSpec.upto fnExactNewHostSpec)) fnExactNewHostUptoCard
end Rows
end Go.Proofs.YtggoiofammbchaaGreatDoor
