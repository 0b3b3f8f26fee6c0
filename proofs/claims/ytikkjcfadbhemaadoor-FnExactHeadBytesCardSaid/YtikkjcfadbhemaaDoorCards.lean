/-
  DERIVED. GIVEN WITH THE SEED: THE CARDS: each row of YtikkjcfadbhemaaDoorRows.lean that lists a variable, with what it lists TIED to the program's text (the seventh form; the later family's looks); each row that meets fmt, with fmt's text TOLD by the authors' own Lean function (tested against real Go, not proved from fmt's source: count such statements apart). THE CARD IS WHAT COUNTS. Prove the row's statement (the work); the ties are given (YtikkjcfadbhemaaDoorTie.lean); close each card by the builder's one call (the guide's Derived/Test/ToyasCard.lean, 'card_holds'). Laid BY PROGRAM, IN A SANDBOX (cutbox-door.mjs). By AI agents, Wed Nov 11 2026. No macro, syntax, notation, axiom, sorry.
-/
import Derived.Test.YtikkjcfadbhemaaDoorRows
import GoSem.ClaimSeven
namespace Go.Proofs.YtikkjcfadbhemaaDoor
namespace Rows

/-- THE TIED CARD OF 'laws.FnPairTurn'. -/
def fnPairTurnCard : Claim7 := { stood := { row := fnPairTurnRow, standIns := [], harness := (true, "dde0626f854f3c0f53a41c7d6f3ae29c198edb23fc66e59923415456f4e42735"), looks := false }, kinds := [], alts := [], laidByText := true, laidKinds := [.data, .pinned], laidTests := true, laidLooks := .later }
def FnPairTurnCardSaid : Prop := Claim7.holds Tryd.pinned (.plain (OpenSpec.ofChange fnPairTurnSpec)) fnPairTurnCard

/-- THE TIED CARD OF 'laws.FnExactPairValid'. -/
def fnExactPairValidCard : Claim7 := { stood := { row := fnExactPairValidRow, standIns := [], harness := (true, "dde0626f854f3c0f53a41c7d6f3ae29c198edb23fc66e59923415456f4e42735"), looks := false }, kinds := [], alts := [], laidByText := true, laidKinds := [.data, .pinned], laidTests := true, laidLooks := .later }
def FnExactPairValidCardSaid : Prop := Claim7.holds Tryd.pinned (.plain (OpenSpec.ofChange fnExactPairValidSpec)) fnExactPairValidCard

/-- THE TIED CARD OF 'laws.FnHeadPorts'. -/
def fnHeadPortsCard : Claim7 := { stood := { row := fnHeadPortsRow, standIns := [], harness := (true, "dde0626f854f3c0f53a41c7d6f3ae29c198edb23fc66e59923415456f4e42735"), looks := false }, kinds := [], alts := [], laidByText := true, laidKinds := [.data, .pinned], laidTests := true, laidLooks := .later }
def FnHeadPortsCardSaid : Prop := Claim7.holds Tryd.pinned (.plain (OpenSpec.ofChange fnHeadPortsSpec)) fnHeadPortsCard

/-- THE TIED CARD OF 'laws.FnHeadSize'. -/
def fnHeadSizeCard : Claim7 := { stood := { row := fnHeadSizeRow, standIns := [], harness := (true, "dde0626f854f3c0f53a41c7d6f3ae29c198edb23fc66e59923415456f4e42735"), looks := false }, kinds := [], alts := [], laidByText := true, laidKinds := [.data, .pinned], laidTests := true, laidLooks := .later }
def FnHeadSizeCardSaid : Prop := Claim7.holds Tryd.pinned (.plain (OpenSpec.ofChange fnHeadSizeSpec)) fnHeadSizeCard

/-- THE TIED CARD OF 'laws.FnHeadBegin'. -/
def fnHeadBeginCard : Claim7 := { stood := { row := fnHeadBeginRow, standIns := [], harness := (true, "dde0626f854f3c0f53a41c7d6f3ae29c198edb23fc66e59923415456f4e42735"), looks := false }, kinds := [], alts := [], laidByText := true, laidKinds := [.data, .pinned], laidTests := true, laidLooks := .later }
def FnHeadBeginCardSaid : Prop := Claim7.holds Tryd.pinned (.plain (OpenSpec.ofChange fnHeadBeginSpec)) fnHeadBeginCard

/-- THE TIED CARD OF 'laws.FnExactHeadBytes'. -/
def fnExactHeadBytesCard : Claim7 := { stood := { row := fnExactHeadBytesRow, standIns := [], harness := (true, "dde0626f854f3c0f53a41c7d6f3ae29c198edb23fc66e59923415456f4e42735"), looks := false }, kinds := [], alts := [], laidByText := true, laidKinds := [.data, .pinned], laidTests := true, laidLooks := .later }
def FnExactHeadBytesCardSaid : Prop := Claim7.holds Tryd.pinned (.plain (OpenSpec.ofChange fnExactHeadBytesSpec)) fnExactHeadBytesCard

/-- THE TIED CARD OF 'laws.FnHeadCut'. -/
def fnHeadCutCard : Claim7 := { stood := { row := fnHeadCutRow, standIns := [], harness := (true, "dde0626f854f3c0f53a41c7d6f3ae29c198edb23fc66e59923415456f4e42735"), looks := false }, kinds := [], alts := [], laidByText := true, laidKinds := [.data, .pinned], laidTests := true, laidLooks := .later }
def FnHeadCutCardSaid : Prop := Claim7.holds Tryd.pinned (.plain (OpenSpec.ofChange fnHeadCutSpec)) fnHeadCutCard

/-- THE TIED CARD OF 'laws.FnHead'. -/
def fnHeadCard : Claim7 := { stood := { row := fnHeadRow, standIns := [], harness := (true, "dde0626f854f3c0f53a41c7d6f3ae29c198edb23fc66e59923415456f4e42735"), looks := false }, kinds := [], alts := [], laidByText := true, laidKinds := [.data, .pinned], laidTests := true, laidLooks := .later }
def FnHeadCardSaid : Prop := Claim7.holds Tryd.pinned (.plain (OpenSpec.ofChange fnHeadSpec)) fnHeadCard

/-- THE TIED CARD OF 'laws.FnHeadBehind'. -/
def fnHeadBehindCard : Claim7 := { stood := { row := fnHeadBehindRow, standIns := [], harness := (true, "dde0626f854f3c0f53a41c7d6f3ae29c198edb23fc66e59923415456f4e42735"), looks := false }, kinds := [], alts := [], laidByText := true, laidKinds := [.data, .pinned], laidTests := true, laidLooks := .later }
def FnHeadBehindCardSaid : Prop := Claim7.holds Tryd.pinned (.plain (OpenSpec.ofChange fnHeadBehindSpec)) fnHeadBehindCard

/-- THE TIED CARD OF 'laws.FnHeadFrom'. -/
def fnHeadFromCard : Claim7 := { stood := { row := fnHeadFromRow, standIns := [], harness := (true, "dde0626f854f3c0f53a41c7d6f3ae29c198edb23fc66e59923415456f4e42735"), looks := false }, kinds := [], alts := [], laidByText := true, laidKinds := [.data, .pinned], laidTests := true, laidLooks := .later }
def FnHeadFromCardSaid : Prop := Claim7.holds Tryd.pinned (.plain (OpenSpec.ofChange fnHeadFromSpec)) fnHeadFromCard

/-- THE TIED CARD OF 'laws.FnLineTurn'. -/
def fnLineTurnCard : Claim7 := { stood := { row := fnLineTurnRow, standIns := [], harness := (true, "dde0626f854f3c0f53a41c7d6f3ae29c198edb23fc66e59923415456f4e42735"), looks := false }, kinds := [], alts := [], laidByText := true, laidKinds := [.data, .data, .data, .data, .pinned], laidTests := true, laidLooks := .later }
def FnLineTurnCardSaid : Prop := Claim7.holds Tryd.pinned (.plain (OpenSpec.ofChange fnLineTurnSpec)) fnLineTurnCard

/-- THE TIED CARD OF 'laws.FnLineBegin'. -/
def fnLineBeginCard : Claim7 := { stood := { row := fnLineBeginRow, standIns := [], harness := (true, "dde0626f854f3c0f53a41c7d6f3ae29c198edb23fc66e59923415456f4e42735"), looks := false }, kinds := [], alts := [], laidByText := true, laidKinds := [.data, .data, .data, .data, .pinned], laidTests := true, laidLooks := .later }
def FnLineBeginCardSaid : Prop := Claim7.holds Tryd.pinned (.plain (OpenSpec.ofChange fnLineBeginSpec)) fnLineBeginCard

/-- THE TIED CARD OF 'laws.FnExactLineText'. -/
def fnExactLineTextCard : Claim7 := { stood := { row := fnExactLineTextRow, standIns := [], harness := (true, "dde0626f854f3c0f53a41c7d6f3ae29c198edb23fc66e59923415456f4e42735"), looks := false }, kinds := [], alts := [], laidByText := true, laidKinds := [.data, .data, .data, .data, .pinned], laidTests := true, laidLooks := .later }
def FnExactLineTextCardSaid : Prop := Claim7.holds Tryd.pinned (.plain (OpenSpec.ofChange fnExactLineTextSpec)) fnExactLineTextCard

/-- THE SECOND FORM's CARD OF 'laws.FnPairTurn'. -/
def fnPairTurnUptoCard : Claim7 := { stood := { row := fnPairTurnUptoRow, standIns := [], harness := (true, "dde0626f854f3c0f53a41c7d6f3ae29c198edb23fc66e59923415456f4e42735"), looks := false }, kinds := [], alts := [], laidByText := true, laidKinds := [.data, .pinned], laidTests := true, laidLooks := .later }
def FnPairTurnUptoCardSaid : Prop := Claim7.holds Tryd.pinned (.plain (OpenSpec.upto fnPairTurnSpec)) fnPairTurnUptoCard

/-- THE SECOND FORM's CARD OF 'laws.FnExactPairValid'. -/
def fnExactPairValidUptoCard : Claim7 := { stood := { row := fnExactPairValidUptoRow, standIns := [], harness := (true, "dde0626f854f3c0f53a41c7d6f3ae29c198edb23fc66e59923415456f4e42735"), looks := false }, kinds := [], alts := [], laidByText := true, laidKinds := [.data, .pinned], laidTests := true, laidLooks := .later }
def FnExactPairValidUptoCardSaid : Prop := Claim7.holds Tryd.pinned (.plain (OpenSpec.upto fnExactPairValidSpec)) fnExactPairValidUptoCard

/-- THE SECOND FORM's CARD OF 'laws.FnHeadPorts'. -/
def fnHeadPortsUptoCard : Claim7 := { stood := { row := fnHeadPortsUptoRow, standIns := [], harness := (true, "dde0626f854f3c0f53a41c7d6f3ae29c198edb23fc66e59923415456f4e42735"), looks := false }, kinds := [], alts := [], laidByText := true, laidKinds := [.data, .pinned], laidTests := true, laidLooks := .later }
def FnHeadPortsUptoCardSaid : Prop := Claim7.holds Tryd.pinned (.plain (OpenSpec.upto fnHeadPortsSpec)) fnHeadPortsUptoCard

/-- THE SECOND FORM's CARD OF 'laws.FnHeadSize'. -/
def fnHeadSizeUptoCard : Claim7 := { stood := { row := fnHeadSizeUptoRow, standIns := [], harness := (true, "dde0626f854f3c0f53a41c7d6f3ae29c198edb23fc66e59923415456f4e42735"), looks := false }, kinds := [], alts := [], laidByText := true, laidKinds := [.data, .pinned], laidTests := true, laidLooks := .later }
def FnHeadSizeUptoCardSaid : Prop := Claim7.holds Tryd.pinned (.plain (OpenSpec.upto fnHeadSizeSpec)) fnHeadSizeUptoCard

/-- THE SECOND FORM's CARD OF 'laws.FnHeadBegin'. -/
def fnHeadBeginUptoCard : Claim7 := { stood := { row := fnHeadBeginUptoRow, standIns := [], harness := (true, "dde0626f854f3c0f53a41c7d6f3ae29c198edb23fc66e59923415456f4e42735"), looks := false }, kinds := [], alts := [], laidByText := true, laidKinds := [.data, .pinned], laidTests := true, laidLooks := .later }
def FnHeadBeginUptoCardSaid : Prop := Claim7.holds Tryd.pinned (.plain (OpenSpec.upto fnHeadBeginSpec)) fnHeadBeginUptoCard

/-- THE SECOND FORM's CARD OF 'laws.FnExactHeadBytes'. -/
def fnExactHeadBytesUptoCard : Claim7 := { stood := { row := fnExactHeadBytesUptoRow, standIns := [], harness := (true, "dde0626f854f3c0f53a41c7d6f3ae29c198edb23fc66e59923415456f4e42735"), looks := false }, kinds := [], alts := [], laidByText := true, laidKinds := [.data, .pinned], laidTests := true, laidLooks := .later }
def FnExactHeadBytesUptoCardSaid : Prop := Claim7.holds Tryd.pinned (.plain (OpenSpec.upto fnExactHeadBytesSpec)) fnExactHeadBytesUptoCard

/-- THE SECOND FORM's CARD OF 'laws.FnHeadCut'. -/
def fnHeadCutUptoCard : Claim7 := { stood := { row := fnHeadCutUptoRow, standIns := [], harness := (true, "dde0626f854f3c0f53a41c7d6f3ae29c198edb23fc66e59923415456f4e42735"), looks := false }, kinds := [], alts := [], laidByText := true, laidKinds := [.data, .pinned], laidTests := true, laidLooks := .later }
def FnHeadCutUptoCardSaid : Prop := Claim7.holds Tryd.pinned (.plain (OpenSpec.upto fnHeadCutSpec)) fnHeadCutUptoCard

/-- THE SECOND FORM's CARD OF 'laws.FnHead'. -/
def fnHeadUptoCard : Claim7 := { stood := { row := fnHeadUptoRow, standIns := [], harness := (true, "dde0626f854f3c0f53a41c7d6f3ae29c198edb23fc66e59923415456f4e42735"), looks := false }, kinds := [], alts := [], laidByText := true, laidKinds := [.data, .pinned], laidTests := true, laidLooks := .later }
def FnHeadUptoCardSaid : Prop := Claim7.holds Tryd.pinned (.plain (OpenSpec.upto fnHeadSpec)) fnHeadUptoCard

/-- THE SECOND FORM's CARD OF 'laws.FnHeadBehind'. -/
def fnHeadBehindUptoCard : Claim7 := { stood := { row := fnHeadBehindUptoRow, standIns := [], harness := (true, "dde0626f854f3c0f53a41c7d6f3ae29c198edb23fc66e59923415456f4e42735"), looks := false }, kinds := [], alts := [], laidByText := true, laidKinds := [.data, .pinned], laidTests := true, laidLooks := .later }
def FnHeadBehindUptoCardSaid : Prop := Claim7.holds Tryd.pinned (.plain (OpenSpec.upto fnHeadBehindSpec)) fnHeadBehindUptoCard

/-- THE SECOND FORM's CARD OF 'laws.FnHeadFrom'. -/
def fnHeadFromUptoCard : Claim7 := { stood := { row := fnHeadFromUptoRow, standIns := [], harness := (true, "dde0626f854f3c0f53a41c7d6f3ae29c198edb23fc66e59923415456f4e42735"), looks := false }, kinds := [], alts := [], laidByText := true, laidKinds := [.data, .pinned], laidTests := true, laidLooks := .later }
def FnHeadFromUptoCardSaid : Prop := Claim7.holds Tryd.pinned (.plain (OpenSpec.upto fnHeadFromSpec)) fnHeadFromUptoCard

/-- THE SECOND FORM's CARD OF 'laws.FnLineTurn'. -/
def fnLineTurnUptoCard : Claim7 := { stood := { row := fnLineTurnUptoRow, standIns := [], harness := (true, "dde0626f854f3c0f53a41c7d6f3ae29c198edb23fc66e59923415456f4e42735"), looks := false }, kinds := [], alts := [], laidByText := true, laidKinds := [.data, .data, .data, .data, .pinned], laidTests := true, laidLooks := .later }
def FnLineTurnUptoCardSaid : Prop := Claim7.holds Tryd.pinned (.plain (OpenSpec.upto fnLineTurnSpec)) fnLineTurnUptoCard

/-- THE SECOND FORM's CARD OF 'laws.FnLineBegin'. -/
def fnLineBeginUptoCard : Claim7 := { stood := { row := fnLineBeginUptoRow, standIns := [], harness := (true, "dde0626f854f3c0f53a41c7d6f3ae29c198edb23fc66e59923415456f4e42735"), looks := false }, kinds := [], alts := [], laidByText := true, laidKinds := [.data, .data, .data, .data, .pinned], laidTests := true, laidLooks := .later }
def FnLineBeginUptoCardSaid : Prop := Claim7.holds Tryd.pinned (.plain (OpenSpec.upto fnLineBeginSpec)) fnLineBeginUptoCard

/-- THE SECOND FORM's CARD OF 'laws.FnExactLineText'. -/
def fnExactLineTextUptoCard : Claim7 := { stood := { row := fnExactLineTextUptoRow, standIns := [], harness := (true, "dde0626f854f3c0f53a41c7d6f3ae29c198edb23fc66e59923415456f4e42735"), looks := false }, kinds := [], alts := [], laidByText := true, laidKinds := [.data, .data, .data, .data, .pinned], laidTests := true, laidLooks := .later }
def FnExactLineTextUptoCardSaid : Prop := Claim7.holds Tryd.pinned (.plain (OpenSpec.upto fnExactLineTextSpec)) fnExactLineTextUptoCard
end Rows
end Go.Proofs.YtikkjcfadbhemaaDoor
