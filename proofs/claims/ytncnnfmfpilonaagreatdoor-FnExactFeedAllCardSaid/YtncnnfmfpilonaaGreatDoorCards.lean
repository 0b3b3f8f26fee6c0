/-
  DERIVED. GIVEN WITH THE SEED: THE CARDS: each row of YtncnnfmfpilonaaGreatDoorRows.lean that lists a variable, with what it lists TIED to the program's text (the seventh form; the later family's looks); each row that meets fmt, with fmt's text TOLD by the authors' own Lean function (tested against real Go, not proved from fmt's source: count such statements apart). THE CARD IS WHAT COUNTS. Prove the row's statement (the work); the ties are given (YtncnnfmfpilonaaGreatDoorTie.lean); close each card by the builder's one call (the guide's Derived/Test/ToyasCard.lean, 'card_holds'). Laid BY PROGRAM, IN A SANDBOX (cutbox-door.mjs). By AI agents, Wed Nov 11 2026. No macro, syntax, notation, axiom, sorry.
-/
import Derived.Test.YtncnnfmfpilonaaGreatDoorRows
import GoSem.ClaimSeven
namespace Go.Proofs.YtncnnfmfpilonaaGreatDoor
namespace Rows

/-- THE TIED CARD OF 'laws.FnExactLineFrom'. -/
def fnExactLineFromCard : Claim7 := { stood := { row := fnExactLineFromRow, standIns := [], harness := (true, "58455db0c2bf2f2074161a6a140a917b4301d43a1a4e6429330fc131e560f4d4"), looks := true }, kinds := [], alts := [], laidByText := true, laidKinds := [.data, .data, .data, .data, .sentinel, .sentinel, .pinned], laidTests := true, laidLooks := .later }
def FnExactLineFromCardSaid : Prop := Claim7.holds Tryz.pinned (.plain (OpenSpec.ofChange fnExactLineFromSpec)) fnExactLineFromCard

/-- THE TIED CARD OF 'laws.FnLineFrom'. -/
def fnLineFromCard : Claim7 := { stood := { row := fnLineFromRow, standIns := [], harness := (true, "58455db0c2bf2f2074161a6a140a917b4301d43a1a4e6429330fc131e560f4d4"), looks := true }, kinds := [], alts := [], laidByText := true, laidKinds := [.data, .data, .data, .data, .sentinel, .sentinel, .pinned], laidTests := true, laidLooks := .later }
def FnLineFromCardSaid : Prop := Claim7.holds Tryz.pinned (.plain (OpenSpec.ofChange fnLineFromSpec)) fnLineFromCard

/-- THE TIED CARD OF 'laws.FnExactSniffSize'. -/
def fnExactSniffSizeCard : Claim7 := { stood := { row := fnExactSniffSizeRow, standIns := [], harness := (true, "58455db0c2bf2f2074161a6a140a917b4301d43a1a4e6429330fc131e560f4d4"), looks := true }, kinds := [], alts := [], laidByText := true, laidKinds := [.data, .data, .data, .data, .sentinel, .sentinel, .pinned], laidTests := true, laidLooks := .later }
def FnExactSniffSizeCardSaid : Prop := Claim7.holds Tryz.pinned (.plain (OpenSpec.ofChange fnExactSniffSizeSpec)) fnExactSniffSizeCard

/-- THE TIED CARD OF 'laws.FnExactFeedTake'. -/
def fnExactFeedTakeCard : Claim7 := { stood := { row := fnExactFeedTakeRow, standIns := [], harness := (true, "58455db0c2bf2f2074161a6a140a917b4301d43a1a4e6429330fc131e560f4d4"), looks := true }, kinds := [], alts := [], laidByText := true, laidKinds := [.data, .data, .data, .data, .sentinel, .sentinel, .pinned], laidTests := true, laidLooks := .later }
def FnExactFeedTakeCardSaid : Prop := Claim7.holds Tryz.pinned (.plain (OpenSpec.ofChange fnExactFeedTakeSpec)) fnExactFeedTakeCard

/-- THE TIED CARD OF 'laws.FnExactFeedAll'. -/
def fnExactFeedAllCard : Claim7 := { stood := { row := fnExactFeedAllRow, standIns := [], harness := (true, "58455db0c2bf2f2074161a6a140a917b4301d43a1a4e6429330fc131e560f4d4"), looks := true }, kinds := [], alts := [], laidByText := true, laidKinds := [.data, .data, .data, .data, .sentinel, .sentinel, .pinned], laidTests := true, laidLooks := .later }
def FnExactFeedAllCardSaid : Prop := Claim7.holds Tryz.pinned (.plain (OpenSpec.ofChange fnExactFeedAllSpec)) fnExactFeedAllCard

/-- THE TIED CARD OF 'laws.FnSniffSize'. -/
def fnSniffSizeCard : Claim7 := { stood := { row := fnSniffSizeRow, standIns := [], harness := (true, "58455db0c2bf2f2074161a6a140a917b4301d43a1a4e6429330fc131e560f4d4"), looks := true }, kinds := [], alts := [], laidByText := true, laidKinds := [.data, .data, .data, .data, .sentinel, .sentinel, .pinned], laidTests := true, laidLooks := .later }
def FnSniffSizeCardSaid : Prop := Claim7.holds Tryz.pinned (.plain (OpenSpec.ofChange fnSniffSizeSpec)) fnSniffSizeCard

/-- THE TIED CARD OF 'laws.FnFeedTake'. -/
def fnFeedTakeCard : Claim7 := { stood := { row := fnFeedTakeRow, standIns := [], harness := (true, "58455db0c2bf2f2074161a6a140a917b4301d43a1a4e6429330fc131e560f4d4"), looks := true }, kinds := [], alts := [], laidByText := true, laidKinds := [.data, .data, .data, .data, .sentinel, .sentinel, .pinned], laidTests := true, laidLooks := .later }
def FnFeedTakeCardSaid : Prop := Claim7.holds Tryz.pinned (.plain (OpenSpec.ofChange fnFeedTakeSpec)) fnFeedTakeCard

/-- THE TIED CARD OF 'laws.FnFeedTakeAgain'. -/
def fnFeedTakeAgainCard : Claim7 := { stood := { row := fnFeedTakeAgainRow, standIns := [], harness := (true, "58455db0c2bf2f2074161a6a140a917b4301d43a1a4e6429330fc131e560f4d4"), looks := true }, kinds := [], alts := [], laidByText := true, laidKinds := [.data, .data, .data, .data, .sentinel, .sentinel, .pinned], laidTests := true, laidLooks := .later }
def FnFeedTakeAgainCardSaid : Prop := Claim7.holds Tryz.pinned (.plain (OpenSpec.ofChange fnFeedTakeAgainSpec)) fnFeedTakeAgainCard

/-- THE TIED CARD OF 'laws.FnFeedTakePart'. -/
def fnFeedTakePartCard : Claim7 := { stood := { row := fnFeedTakePartRow, standIns := [], harness := (true, "58455db0c2bf2f2074161a6a140a917b4301d43a1a4e6429330fc131e560f4d4"), looks := true }, kinds := [], alts := [], laidByText := true, laidKinds := [.data, .data, .data, .data, .sentinel, .sentinel, .pinned], laidTests := true, laidLooks := .later }
def FnFeedTakePartCardSaid : Prop := Claim7.holds Tryz.pinned (.plain (OpenSpec.ofChange fnFeedTakePartSpec)) fnFeedTakePartCard

/-- THE TIED CARD OF 'laws.FnFeedAll'. -/
def fnFeedAllCard : Claim7 := { stood := { row := fnFeedAllRow, standIns := [], harness := (true, "58455db0c2bf2f2074161a6a140a917b4301d43a1a4e6429330fc131e560f4d4"), looks := true }, kinds := [], alts := [], laidByText := true, laidKinds := [.data, .data, .data, .data, .sentinel, .sentinel, .pinned], laidTests := true, laidLooks := .later }
def FnFeedAllCardSaid : Prop := Claim7.holds Tryz.pinned (.plain (OpenSpec.ofChange fnFeedAllSpec)) fnFeedAllCard

/-- THE TIED CARD OF 'laws.FnFeedAllOne'. -/
def fnFeedAllOneCard : Claim7 := { stood := { row := fnFeedAllOneRow, standIns := [], harness := (true, "58455db0c2bf2f2074161a6a140a917b4301d43a1a4e6429330fc131e560f4d4"), looks := true }, kinds := [], alts := [], laidByText := true, laidKinds := [.data, .data, .data, .data, .sentinel, .sentinel, .pinned], laidTests := true, laidLooks := .later }
def FnFeedAllOneCardSaid : Prop := Claim7.holds Tryz.pinned (.plain (OpenSpec.ofChange fnFeedAllOneSpec)) fnFeedAllOneCard

/-- THE TIED CARD OF 'laws.FnFeedAllRest'. -/
def fnFeedAllRestCard : Claim7 := { stood := { row := fnFeedAllRestRow, standIns := [], harness := (true, "58455db0c2bf2f2074161a6a140a917b4301d43a1a4e6429330fc131e560f4d4"), looks := true }, kinds := [], alts := [], laidByText := true, laidKinds := [.data, .data, .data, .data, .sentinel, .sentinel, .pinned], laidTests := true, laidLooks := .later }
def FnFeedAllRestCardSaid : Prop := Claim7.holds Tryz.pinned (.plain (OpenSpec.ofChange fnFeedAllRestSpec)) fnFeedAllRestCard

/-- THE TIED CARD OF 'laws.FnFeedAllPut'. -/
def fnFeedAllPutCard : Claim7 := { stood := { row := fnFeedAllPutRow, standIns := [], harness := (true, "58455db0c2bf2f2074161a6a140a917b4301d43a1a4e6429330fc131e560f4d4"), looks := true }, kinds := [], alts := [], laidByText := true, laidKinds := [.data, .data, .data, .data, .sentinel, .sentinel, .pinned], laidTests := true, laidLooks := .later }
def FnFeedAllPutCardSaid : Prop := Claim7.holds Tryz.pinned (.plain (OpenSpec.ofChange fnFeedAllPutSpec)) fnFeedAllPutCard

/-- THE SECOND FORM's CARD OF 'laws.FnExactLineFrom'. -/
def fnExactLineFromUptoCard : Claim7 := { stood := { row := fnExactLineFromUptoRow, standIns := [], harness := (true, "58455db0c2bf2f2074161a6a140a917b4301d43a1a4e6429330fc131e560f4d4"), looks := true }, kinds := [], alts := [], laidByText := true, laidKinds := [.data, .data, .data, .data, .sentinel, .sentinel, .pinned], laidTests := true, laidLooks := .later }
def FnExactLineFromUptoCardSaid : Prop := Claim7.holds Tryz.pinned (.plain (OpenSpec.upto fnExactLineFromSpec)) fnExactLineFromUptoCard

/-- THE SECOND FORM's CARD OF 'laws.FnLineFrom'. -/
def fnLineFromUptoCard : Claim7 := { stood := { row := fnLineFromUptoRow, standIns := [], harness := (true, "58455db0c2bf2f2074161a6a140a917b4301d43a1a4e6429330fc131e560f4d4"), looks := true }, kinds := [], alts := [], laidByText := true, laidKinds := [.data, .data, .data, .data, .sentinel, .sentinel, .pinned], laidTests := true, laidLooks := .later }
def FnLineFromUptoCardSaid : Prop := Claim7.holds Tryz.pinned (.plain (OpenSpec.upto fnLineFromSpec)) fnLineFromUptoCard

/-- THE SECOND FORM's CARD OF 'laws.FnExactSniffSize'. -/
def fnExactSniffSizeUptoCard : Claim7 := { stood := { row := fnExactSniffSizeUptoRow, standIns := [], harness := (true, "58455db0c2bf2f2074161a6a140a917b4301d43a1a4e6429330fc131e560f4d4"), looks := true }, kinds := [], alts := [], laidByText := true, laidKinds := [.data, .data, .data, .data, .sentinel, .sentinel, .pinned], laidTests := true, laidLooks := .later }
def FnExactSniffSizeUptoCardSaid : Prop := Claim7.holds Tryz.pinned (.plain (OpenSpec.upto fnExactSniffSizeSpec)) fnExactSniffSizeUptoCard

/-- THE SECOND FORM's CARD OF 'laws.FnExactFeedTake'. -/
def fnExactFeedTakeUptoCard : Claim7 := { stood := { row := fnExactFeedTakeUptoRow, standIns := [], harness := (true, "58455db0c2bf2f2074161a6a140a917b4301d43a1a4e6429330fc131e560f4d4"), looks := true }, kinds := [], alts := [], laidByText := true, laidKinds := [.data, .data, .data, .data, .sentinel, .sentinel, .pinned], laidTests := true, laidLooks := .later }
def FnExactFeedTakeUptoCardSaid : Prop := Claim7.holds Tryz.pinned (.plain (OpenSpec.upto fnExactFeedTakeSpec)) fnExactFeedTakeUptoCard

/-- THE SECOND FORM's CARD OF 'laws.FnExactFeedAll'. -/
def fnExactFeedAllUptoCard : Claim7 := { stood := { row := fnExactFeedAllUptoRow, standIns := [], harness := (true, "58455db0c2bf2f2074161a6a140a917b4301d43a1a4e6429330fc131e560f4d4"), looks := true }, kinds := [], alts := [], laidByText := true, laidKinds := [.data, .data, .data, .data, .sentinel, .sentinel, .pinned], laidTests := true, laidLooks := .later }
def FnExactFeedAllUptoCardSaid : Prop := Claim7.holds Tryz.pinned (.plain (OpenSpec.upto fnExactFeedAllSpec)) fnExactFeedAllUptoCard

/-- THE SECOND FORM's CARD OF 'laws.FnSniffSize'. -/
def fnSniffSizeUptoCard : Claim7 := { stood := { row := fnSniffSizeUptoRow, standIns := [], harness := (true, "58455db0c2bf2f2074161a6a140a917b4301d43a1a4e6429330fc131e560f4d4"), looks := true }, kinds := [], alts := [], laidByText := true, laidKinds := [.data, .data, .data, .data, .sentinel, .sentinel, .pinned], laidTests := true, laidLooks := .later }
def FnSniffSizeUptoCardSaid : Prop := Claim7.holds Tryz.pinned (.plain (OpenSpec.upto fnSniffSizeSpec)) fnSniffSizeUptoCard

/-- THE SECOND FORM's CARD OF 'laws.FnFeedTake'. -/
def fnFeedTakeUptoCard : Claim7 := { stood := { row := fnFeedTakeUptoRow, standIns := [], harness := (true, "58455db0c2bf2f2074161a6a140a917b4301d43a1a4e6429330fc131e560f4d4"), looks := true }, kinds := [], alts := [], laidByText := true, laidKinds := [.data, .data, .data, .data, .sentinel, .sentinel, .pinned], laidTests := true, laidLooks := .later }
def FnFeedTakeUptoCardSaid : Prop := Claim7.holds Tryz.pinned (.plain (OpenSpec.upto fnFeedTakeSpec)) fnFeedTakeUptoCard

/-- THE SECOND FORM's CARD OF 'laws.FnFeedTakeAgain'. -/
def fnFeedTakeAgainUptoCard : Claim7 := { stood := { row := fnFeedTakeAgainUptoRow, standIns := [], harness := (true, "58455db0c2bf2f2074161a6a140a917b4301d43a1a4e6429330fc131e560f4d4"), looks := true }, kinds := [], alts := [], laidByText := true, laidKinds := [.data, .data, .data, .data, .sentinel, .sentinel, .pinned], laidTests := true, laidLooks := .later }
def FnFeedTakeAgainUptoCardSaid : Prop := Claim7.holds Tryz.pinned (.plain (OpenSpec.upto fnFeedTakeAgainSpec)) fnFeedTakeAgainUptoCard

/-- THE SECOND FORM's CARD OF 'laws.FnFeedTakePart'. -/
def fnFeedTakePartUptoCard : Claim7 := { stood := { row := fnFeedTakePartUptoRow, standIns := [], harness := (true, "58455db0c2bf2f2074161a6a140a917b4301d43a1a4e6429330fc131e560f4d4"), looks := true }, kinds := [], alts := [], laidByText := true, laidKinds := [.data, .data, .data, .data, .sentinel, .sentinel, .pinned], laidTests := true, laidLooks := .later }
def FnFeedTakePartUptoCardSaid : Prop := Claim7.holds Tryz.pinned (.plain (OpenSpec.upto fnFeedTakePartSpec)) fnFeedTakePartUptoCard

/-- THE SECOND FORM's CARD OF 'laws.FnFeedAll'. -/
def fnFeedAllUptoCard : Claim7 := { stood := { row := fnFeedAllUptoRow, standIns := [], harness := (true, "58455db0c2bf2f2074161a6a140a917b4301d43a1a4e6429330fc131e560f4d4"), looks := true }, kinds := [], alts := [], laidByText := true, laidKinds := [.data, .data, .data, .data, .sentinel, .sentinel, .pinned], laidTests := true, laidLooks := .later }
def FnFeedAllUptoCardSaid : Prop := Claim7.holds Tryz.pinned (.plain (OpenSpec.upto fnFeedAllSpec)) fnFeedAllUptoCard

/-- THE SECOND FORM's CARD OF 'laws.FnFeedAllOne'. -/
def fnFeedAllOneUptoCard : Claim7 := { stood := { row := fnFeedAllOneUptoRow, standIns := [], harness := (true, "58455db0c2bf2f2074161a6a140a917b4301d43a1a4e6429330fc131e560f4d4"), looks := true }, kinds := [], alts := [], laidByText := true, laidKinds := [.data, .data, .data, .data, .sentinel, .sentinel, .pinned], laidTests := true, laidLooks := .later }
def FnFeedAllOneUptoCardSaid : Prop := Claim7.holds Tryz.pinned (.plain (OpenSpec.upto fnFeedAllOneSpec)) fnFeedAllOneUptoCard

/-- THE SECOND FORM's CARD OF 'laws.FnFeedAllRest'. -/
def fnFeedAllRestUptoCard : Claim7 := { stood := { row := fnFeedAllRestUptoRow, standIns := [], harness := (true, "58455db0c2bf2f2074161a6a140a917b4301d43a1a4e6429330fc131e560f4d4"), looks := true }, kinds := [], alts := [], laidByText := true, laidKinds := [.data, .data, .data, .data, .sentinel, .sentinel, .pinned], laidTests := true, laidLooks := .later }
def FnFeedAllRestUptoCardSaid : Prop := Claim7.holds Tryz.pinned (.plain (OpenSpec.upto fnFeedAllRestSpec)) fnFeedAllRestUptoCard

/-- THE SECOND FORM's CARD OF 'laws.FnFeedAllPut'. -/
def fnFeedAllPutUptoCard : Claim7 := { stood := { row := fnFeedAllPutUptoRow, standIns := [], harness := (true, "58455db0c2bf2f2074161a6a140a917b4301d43a1a4e6429330fc131e560f4d4"), looks := true }, kinds := [], alts := [], laidByText := true, laidKinds := [.data, .data, .data, .data, .sentinel, .sentinel, .pinned], laidTests := true, laidLooks := .later }
def FnFeedAllPutUptoCardSaid : Prop := Claim7.holds Tryz.pinned (.plain (OpenSpec.upto fnFeedAllPutSpec)) fnFeedAllPutUptoCard
end Rows
end Go.Proofs.YtncnnfmfpilonaaGreatDoor
