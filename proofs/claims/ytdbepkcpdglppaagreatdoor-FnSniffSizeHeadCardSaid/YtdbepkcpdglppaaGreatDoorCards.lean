/-
  DERIVED. GIVEN WITH THE SEED: THE CARDS: each row of YtdbepkcpdglppaaGreatDoorRows.lean that lists a variable, with what it lists TIED to the program's text (the seventh form; the later family's looks); each row that meets fmt, with fmt's text TOLD by the authors' own Lean function (tested against real Go, not proved from fmt's source: count such statements apart). THE CARD IS WHAT COUNTS. Prove the row's statement (the work); the ties are given (YtdbepkcpdglppaaGreatDoorTie.lean); close each card by the builder's one call (the guide's Derived/Test/ToyasCard.lean, 'card_holds'). Laid BY PROGRAM, IN A SANDBOX (cutbox-door.mjs). By AI agents, Wed Nov 11 2026. No macro, syntax, notation, axiom, sorry.
-/
import Derived.Test.YtdbepkcpdglppaaGreatDoorRows
import GoSem.ClaimSeven
namespace Go.Proofs.YtdbepkcpdglppaaGreatDoor
namespace Rows

/-- THE TIED CARD OF 'laws.FnSniffSizeLine'. -/
def fnSniffSizeLineCard : Claim7 := { stood := { row := fnSniffSizeLineRow, standIns := [], harness := (true, "f0fc54d5e0a2b3fc5d20e9de5a157be59999b7000b4ed99fe733e29ef7caaa18"), looks := true }, kinds := [], alts := [], laidByText := true, laidKinds := [.data, .data, .data, .data, .sentinel, .sentinel, .pinned], laidTests := true, laidLooks := .later }
def FnSniffSizeLineCardSaid : Prop := Claim7.holds Tryz.pinned (.plain (OpenSpec.ofChange fnSniffSizeLineSpec)) fnSniffSizeLineCard

/-- THE TIED CARD OF 'laws.FnSniffSizeTexts'. -/
def fnSniffSizeTextsCard : Claim7 := { stood := { row := fnSniffSizeTextsRow, standIns := [], harness := (true, "f0fc54d5e0a2b3fc5d20e9de5a157be59999b7000b4ed99fe733e29ef7caaa18"), looks := true }, kinds := [], alts := [], laidByText := true, laidKinds := [.data, .data, .data, .data, .sentinel, .sentinel, .pinned], laidTests := true, laidLooks := .later }
def FnSniffSizeTextsCardSaid : Prop := Claim7.holds Tryz.pinned (.plain (OpenSpec.ofChange fnSniffSizeTextsSpec)) fnSniffSizeTextsCard

/-- THE TIED CARD OF 'laws.FnSniffSizeOld'. -/
def fnSniffSizeOldCard : Claim7 := { stood := { row := fnSniffSizeOldRow, standIns := [], harness := (true, "f0fc54d5e0a2b3fc5d20e9de5a157be59999b7000b4ed99fe733e29ef7caaa18"), looks := true }, kinds := [], alts := [], laidByText := true, laidKinds := [.data, .data, .data, .data, .sentinel, .sentinel, .pinned], laidTests := true, laidLooks := .later }
def FnSniffSizeOldCardSaid : Prop := Claim7.holds Tryz.pinned (.plain (OpenSpec.ofChange fnSniffSizeOldSpec)) fnSniffSizeOldCard

/-- THE TIED CARD OF 'laws.FnSniffSizeHead'. -/
def fnSniffSizeHeadCard : Claim7 := { stood := { row := fnSniffSizeHeadRow, standIns := [], harness := (true, "f0fc54d5e0a2b3fc5d20e9de5a157be59999b7000b4ed99fe733e29ef7caaa18"), looks := true }, kinds := [], alts := [], laidByText := true, laidKinds := [.data, .data, .data, .data, .sentinel, .sentinel, .pinned], laidTests := true, laidLooks := .later }
def FnSniffSizeHeadCardSaid : Prop := Claim7.holds Tryz.pinned (.plain (OpenSpec.ofChange fnSniffSizeHeadSpec)) fnSniffSizeHeadCard

/-- THE TIED CARD OF 'laws.FnSniffNone'. -/
def fnSniffNoneCard : Claim7 := { stood := { row := fnSniffNoneRow, standIns := [], harness := (true, "f0fc54d5e0a2b3fc5d20e9de5a157be59999b7000b4ed99fe733e29ef7caaa18"), looks := true }, kinds := [], alts := [], laidByText := true, laidKinds := [.data, .data, .data, .data, .sentinel, .sentinel, .pinned], laidTests := true, laidLooks := .later }
def FnSniffNoneCardSaid : Prop := Claim7.holds Tryz.pinned (.plain (OpenSpec.ofChange fnSniffNoneSpec)) fnSniffNoneCard

/-- THE TIED CARD OF 'laws.FnLine'. -/
def fnLineCard : Claim7 := { stood := { row := fnLineRow, standIns := [], harness := (true, "f0fc54d5e0a2b3fc5d20e9de5a157be59999b7000b4ed99fe733e29ef7caaa18"), looks := true }, kinds := [], alts := [], laidByText := true, laidKinds := [.data, .data, .data, .data, .sentinel, .sentinel, .pinned], laidTests := true, laidLooks := .later }
def FnLineCardSaid : Prop := Claim7.holds Tryz.pinned (.plain (OpenSpec.ofChange fnLineSpec)) fnLineCard

/-- THE TIED CARD OF 'laws.FnLineCut'. -/
def fnLineCutCard : Claim7 := { stood := { row := fnLineCutRow, standIns := [], harness := (true, "f0fc54d5e0a2b3fc5d20e9de5a157be59999b7000b4ed99fe733e29ef7caaa18"), looks := true }, kinds := [], alts := [], laidByText := true, laidKinds := [.data, .data, .data, .data, .sentinel, .sentinel, .pinned], laidTests := true, laidLooks := .later }
def FnLineCutCardSaid : Prop := Claim7.holds Tryz.pinned (.plain (OpenSpec.ofChange fnLineCutSpec)) fnLineCutCard

/-- THE SECOND FORM's CARD OF 'laws.FnSniffSizeLine'. -/
def fnSniffSizeLineUptoCard : Claim7 := { stood := { row := fnSniffSizeLineUptoRow, standIns := [], harness := (true, "f0fc54d5e0a2b3fc5d20e9de5a157be59999b7000b4ed99fe733e29ef7caaa18"), looks := true }, kinds := [], alts := [], laidByText := true, laidKinds := [.data, .data, .data, .data, .sentinel, .sentinel, .pinned], laidTests := true, laidLooks := .later }
def FnSniffSizeLineUptoCardSaid : Prop := Claim7.holds Tryz.pinned (.plain (OpenSpec.upto fnSniffSizeLineSpec)) fnSniffSizeLineUptoCard

/-- THE SECOND FORM's CARD OF 'laws.FnSniffSizeTexts'. -/
def fnSniffSizeTextsUptoCard : Claim7 := { stood := { row := fnSniffSizeTextsUptoRow, standIns := [], harness := (true, "f0fc54d5e0a2b3fc5d20e9de5a157be59999b7000b4ed99fe733e29ef7caaa18"), looks := true }, kinds := [], alts := [], laidByText := true, laidKinds := [.data, .data, .data, .data, .sentinel, .sentinel, .pinned], laidTests := true, laidLooks := .later }
def FnSniffSizeTextsUptoCardSaid : Prop := Claim7.holds Tryz.pinned (.plain (OpenSpec.upto fnSniffSizeTextsSpec)) fnSniffSizeTextsUptoCard

/-- THE SECOND FORM's CARD OF 'laws.FnSniffSizeOld'. -/
def fnSniffSizeOldUptoCard : Claim7 := { stood := { row := fnSniffSizeOldUptoRow, standIns := [], harness := (true, "f0fc54d5e0a2b3fc5d20e9de5a157be59999b7000b4ed99fe733e29ef7caaa18"), looks := true }, kinds := [], alts := [], laidByText := true, laidKinds := [.data, .data, .data, .data, .sentinel, .sentinel, .pinned], laidTests := true, laidLooks := .later }
def FnSniffSizeOldUptoCardSaid : Prop := Claim7.holds Tryz.pinned (.plain (OpenSpec.upto fnSniffSizeOldSpec)) fnSniffSizeOldUptoCard

/-- THE SECOND FORM's CARD OF 'laws.FnSniffSizeHead'. -/
def fnSniffSizeHeadUptoCard : Claim7 := { stood := { row := fnSniffSizeHeadUptoRow, standIns := [], harness := (true, "f0fc54d5e0a2b3fc5d20e9de5a157be59999b7000b4ed99fe733e29ef7caaa18"), looks := true }, kinds := [], alts := [], laidByText := true, laidKinds := [.data, .data, .data, .data, .sentinel, .sentinel, .pinned], laidTests := true, laidLooks := .later }
def FnSniffSizeHeadUptoCardSaid : Prop := Claim7.holds Tryz.pinned (.plain (OpenSpec.upto fnSniffSizeHeadSpec)) fnSniffSizeHeadUptoCard

/-- THE SECOND FORM's CARD OF 'laws.FnSniffNone'. -/
def fnSniffNoneUptoCard : Claim7 := { stood := { row := fnSniffNoneUptoRow, standIns := [], harness := (true, "f0fc54d5e0a2b3fc5d20e9de5a157be59999b7000b4ed99fe733e29ef7caaa18"), looks := true }, kinds := [], alts := [], laidByText := true, laidKinds := [.data, .data, .data, .data, .sentinel, .sentinel, .pinned], laidTests := true, laidLooks := .later }
def FnSniffNoneUptoCardSaid : Prop := Claim7.holds Tryz.pinned (.plain (OpenSpec.upto fnSniffNoneSpec)) fnSniffNoneUptoCard

/-- THE SECOND FORM's CARD OF 'laws.FnLine'. -/
def fnLineUptoCard : Claim7 := { stood := { row := fnLineUptoRow, standIns := [], harness := (true, "f0fc54d5e0a2b3fc5d20e9de5a157be59999b7000b4ed99fe733e29ef7caaa18"), looks := true }, kinds := [], alts := [], laidByText := true, laidKinds := [.data, .data, .data, .data, .sentinel, .sentinel, .pinned], laidTests := true, laidLooks := .later }
def FnLineUptoCardSaid : Prop := Claim7.holds Tryz.pinned (.plain (OpenSpec.upto fnLineSpec)) fnLineUptoCard

/-- THE SECOND FORM's CARD OF 'laws.FnLineCut'. -/
def fnLineCutUptoCard : Claim7 := { stood := { row := fnLineCutUptoRow, standIns := [], harness := (true, "f0fc54d5e0a2b3fc5d20e9de5a157be59999b7000b4ed99fe733e29ef7caaa18"), looks := true }, kinds := [], alts := [], laidByText := true, laidKinds := [.data, .data, .data, .data, .sentinel, .sentinel, .pinned], laidTests := true, laidLooks := .later }
def FnLineCutUptoCardSaid : Prop := Claim7.holds Tryz.pinned (.plain (OpenSpec.upto fnLineCutSpec)) fnLineCutUptoCard
end Rows
end Go.Proofs.YtdbepkcpdglppaaGreatDoor
