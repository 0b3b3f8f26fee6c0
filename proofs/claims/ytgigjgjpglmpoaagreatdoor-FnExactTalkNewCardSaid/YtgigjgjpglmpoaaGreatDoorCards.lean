/-
  DERIVED. GIVEN WITH THE SEED: THE CARDS: each row of YtgigjgjpglmpoaaGreatDoorRows.lean that lists a variable, with what it lists TIED to the program's text (the seventh form; the later family's looks); each row that meets fmt, with fmt's text TOLD by the authors' own Lean function (tested against real Go, not proved from fmt's source: count such statements apart). THE CARD IS WHAT COUNTS. Prove the row's statement (the work); the ties are given (YtgigjgjpglmpoaaGreatDoorTie.lean); close each card by the builder's one call (the guide's Derived/Test/ToyasCard.lean, 'card_holds'). Laid BY PROGRAM, IN A SANDBOX (cutbox-door.mjs). By AI agents, Wed Nov 11 2026. No macro, syntax, notation, axiom, sorry.
-/
import Derived.Test.YtgigjgjpglmpoaaGreatDoorRows
import GoSem.ClaimSeven
namespace Go.Proofs.YtgigjgjpglmpoaaGreatDoor
namespace Rows

/-- THE TIED CARD OF 'laws.FnExactTalkNew'. -/
def fnExactTalkNewCard : Claim7 := { stood := { row := fnExactTalkNewRow, standIns := [], harness := (true, "9346b4d9ef8b0b1835c1d32aba35a88db76712f7cbdd245bbe974b0102c0c5bb"), looks := true }, kinds := [], alts := [], laidByText := true, laidKinds := [.data, .data, .data, .data, .sentinel, .sentinel, .pinned], laidTests := true, laidLooks := .later }
def FnExactTalkNewCardSaid : Prop := Claim7.holds Tryz.pinned (.plain (OpenSpec.ofChange fnExactTalkNewSpec)) fnExactTalkNewCard

/-- THE SECOND FORM's CARD OF 'laws.FnExactTalkNew'. -/
def fnExactTalkNewUptoCard : Claim7 := { stood := { row := fnExactTalkNewUptoRow, standIns := [], harness := (true, "9346b4d9ef8b0b1835c1d32aba35a88db76712f7cbdd245bbe974b0102c0c5bb"), looks := true }, kinds := [], alts := [], laidByText := true, laidKinds := [.data, .data, .data, .data, .sentinel, .sentinel, .pinned], laidTests := true, laidLooks := .later }
def FnExactTalkNewUptoCardSaid : Prop := Claim7.holds Tryz.pinned (.plain (OpenSpec.upto fnExactTalkNewSpec)) fnExactTalkNewUptoCard
end Rows
end Go.Proofs.YtgigjgjpglmpoaaGreatDoor
