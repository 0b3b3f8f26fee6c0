/-
  DERIVED. GIVEN WITH THE SEED: THE CARDS: each row of YtfambpdhnicghaaGreatDoorRows.lean that lists a variable, with what it lists TIED to the program's text (the seventh form; the later family's looks); each row that meets fmt, with fmt's text TOLD by the authors' own Lean function (tested against real Go, not proved from fmt's source: count such statements apart). THE CARD IS WHAT COUNTS. Prove the row's statement (the work); the ties are given (YtfambpdhnicghaaGreatDoorTie.lean); close each card by the builder's one call (the guide's Derived/Test/ToyasCard.lean, 'card_holds'). Laid BY PROGRAM, IN A SANDBOX (cutbox-door.mjs). By AI agents, Wed Nov 11 2026. No macro, syntax, notation, axiom, sorry.
-/
import Derived.Test.YtfambpdhnicghaaGreatDoorRows
import GoSem.ClaimSeven
namespace Go.Proofs.YtfambpdhnicghaaGreatDoor
namespace Rows

/-- THE TIED CARD OF 'laws.FnLineCut'. -/
def fnLineCutCard : Claim7 := { stood := { row := fnLineCutRow, standIns := [], harness := (true, "16c5a31eff9864d1b36dc3a1e81498cc23a93082fe5bf42a64612033bf188678"), looks := true }, kinds := [], alts := [], laidByText := true, laidKinds := [.data, .data, .data, .data, .sentinel, .sentinel, .pinned], laidTests := true, laidLooks := .later }
def FnLineCutCardSaid : Prop := Claim7.holds Tryz.pinned (.plain (OpenSpec.ofChange fnLineCutSpec)) fnLineCutCard

/-- THE TIED CARD OF 'laws.FnLine'. -/
def fnLineCard : Claim7 := { stood := { row := fnLineRow, standIns := [], harness := (true, "16c5a31eff9864d1b36dc3a1e81498cc23a93082fe5bf42a64612033bf188678"), looks := true }, kinds := [], alts := [], laidByText := true, laidKinds := [.data, .data, .data, .data, .sentinel, .sentinel, .pinned], laidTests := true, laidLooks := .later }
def FnLineCardSaid : Prop := Claim7.holds Tryz.pinned (.plain (OpenSpec.ofChange fnLineSpec)) fnLineCard

/-- THE TIED CARD OF 'laws.FnExactLineFrom'. -/
def fnExactLineFromCard : Claim7 := { stood := { row := fnExactLineFromRow, standIns := [], harness := (true, "16c5a31eff9864d1b36dc3a1e81498cc23a93082fe5bf42a64612033bf188678"), looks := true }, kinds := [], alts := [], laidByText := true, laidKinds := [.data, .data, .data, .data, .sentinel, .sentinel, .pinned], laidTests := true, laidLooks := .later }
def FnExactLineFromCardSaid : Prop := Claim7.holds Tryz.pinned (.plain (OpenSpec.ofChange fnExactLineFromSpec)) fnExactLineFromCard

/-- THE TIED CARD OF 'laws.FnLineFrom'. -/
def fnLineFromCard : Claim7 := { stood := { row := fnLineFromRow, standIns := [], harness := (true, "16c5a31eff9864d1b36dc3a1e81498cc23a93082fe5bf42a64612033bf188678"), looks := true }, kinds := [], alts := [], laidByText := true, laidKinds := [.data, .data, .data, .data, .sentinel, .sentinel, .pinned], laidTests := true, laidLooks := .later }
def FnLineFromCardSaid : Prop := Claim7.holds Tryz.pinned (.plain (OpenSpec.ofChange fnLineFromSpec)) fnLineFromCard

/-- THE TIED CARD OF 'laws.FnExactTalkNew'. -/
def fnExactTalkNewCard : Claim7 := { stood := { row := fnExactTalkNewRow, standIns := [], harness := (true, "16c5a31eff9864d1b36dc3a1e81498cc23a93082fe5bf42a64612033bf188678"), looks := true }, kinds := [], alts := [], laidByText := true, laidKinds := [.data, .data, .data, .data, .sentinel, .sentinel, .pinned], laidTests := true, laidLooks := .later }
def FnExactTalkNewCardSaid : Prop := Claim7.holds Tryz.pinned (.plain (OpenSpec.ofChange fnExactTalkNewSpec)) fnExactTalkNewCard

/-- THE TIED CARD OF 'laws.FnExactTalkValid'. -/
def fnExactTalkValidCard : Claim7 := { stood := { row := fnExactTalkValidRow, standIns := [], harness := (true, "16c5a31eff9864d1b36dc3a1e81498cc23a93082fe5bf42a64612033bf188678"), looks := true }, kinds := [], alts := [], laidByText := true, laidKinds := [.data, .data, .data, .data, .sentinel, .sentinel, .pinned], laidTests := true, laidLooks := .later }
def FnExactTalkValidCardSaid : Prop := Claim7.holds Tryz.pinned (.plain (OpenSpec.ofChange fnExactTalkValidSpec)) fnExactTalkValidCard

/-- THE SECOND FORM's CARD OF 'laws.FnLineCut'. -/
def fnLineCutUptoCard : Claim7 := { stood := { row := fnLineCutUptoRow, standIns := [], harness := (true, "16c5a31eff9864d1b36dc3a1e81498cc23a93082fe5bf42a64612033bf188678"), looks := true }, kinds := [], alts := [], laidByText := true, laidKinds := [.data, .data, .data, .data, .sentinel, .sentinel, .pinned], laidTests := true, laidLooks := .later }
def FnLineCutUptoCardSaid : Prop := Claim7.holds Tryz.pinned (.plain (OpenSpec.upto fnLineCutSpec)) fnLineCutUptoCard

/-- THE SECOND FORM's CARD OF 'laws.FnLine'. -/
def fnLineUptoCard : Claim7 := { stood := { row := fnLineUptoRow, standIns := [], harness := (true, "16c5a31eff9864d1b36dc3a1e81498cc23a93082fe5bf42a64612033bf188678"), looks := true }, kinds := [], alts := [], laidByText := true, laidKinds := [.data, .data, .data, .data, .sentinel, .sentinel, .pinned], laidTests := true, laidLooks := .later }
def FnLineUptoCardSaid : Prop := Claim7.holds Tryz.pinned (.plain (OpenSpec.upto fnLineSpec)) fnLineUptoCard

/-- THE SECOND FORM's CARD OF 'laws.FnExactLineFrom'. -/
def fnExactLineFromUptoCard : Claim7 := { stood := { row := fnExactLineFromUptoRow, standIns := [], harness := (true, "16c5a31eff9864d1b36dc3a1e81498cc23a93082fe5bf42a64612033bf188678"), looks := true }, kinds := [], alts := [], laidByText := true, laidKinds := [.data, .data, .data, .data, .sentinel, .sentinel, .pinned], laidTests := true, laidLooks := .later }
def FnExactLineFromUptoCardSaid : Prop := Claim7.holds Tryz.pinned (.plain (OpenSpec.upto fnExactLineFromSpec)) fnExactLineFromUptoCard

/-- THE SECOND FORM's CARD OF 'laws.FnLineFrom'. -/
def fnLineFromUptoCard : Claim7 := { stood := { row := fnLineFromUptoRow, standIns := [], harness := (true, "16c5a31eff9864d1b36dc3a1e81498cc23a93082fe5bf42a64612033bf188678"), looks := true }, kinds := [], alts := [], laidByText := true, laidKinds := [.data, .data, .data, .data, .sentinel, .sentinel, .pinned], laidTests := true, laidLooks := .later }
def FnLineFromUptoCardSaid : Prop := Claim7.holds Tryz.pinned (.plain (OpenSpec.upto fnLineFromSpec)) fnLineFromUptoCard

/-- THE SECOND FORM's CARD OF 'laws.FnExactTalkNew'. -/
def fnExactTalkNewUptoCard : Claim7 := { stood := { row := fnExactTalkNewUptoRow, standIns := [], harness := (true, "16c5a31eff9864d1b36dc3a1e81498cc23a93082fe5bf42a64612033bf188678"), looks := true }, kinds := [], alts := [], laidByText := true, laidKinds := [.data, .data, .data, .data, .sentinel, .sentinel, .pinned], laidTests := true, laidLooks := .later }
def FnExactTalkNewUptoCardSaid : Prop := Claim7.holds Tryz.pinned (.plain (OpenSpec.upto fnExactTalkNewSpec)) fnExactTalkNewUptoCard

/-- THE SECOND FORM's CARD OF 'laws.FnExactTalkValid'. -/
def fnExactTalkValidUptoCard : Claim7 := { stood := { row := fnExactTalkValidUptoRow, standIns := [], harness := (true, "16c5a31eff9864d1b36dc3a1e81498cc23a93082fe5bf42a64612033bf188678"), looks := true }, kinds := [], alts := [], laidByText := true, laidKinds := [.data, .data, .data, .data, .sentinel, .sentinel, .pinned], laidTests := true, laidLooks := .later }
def FnExactTalkValidUptoCardSaid : Prop := Claim7.holds Tryz.pinned (.plain (OpenSpec.upto fnExactTalkValidSpec)) fnExactTalkValidUptoCard
end Rows
end Go.Proofs.YtfambpdhnicghaaGreatDoor
