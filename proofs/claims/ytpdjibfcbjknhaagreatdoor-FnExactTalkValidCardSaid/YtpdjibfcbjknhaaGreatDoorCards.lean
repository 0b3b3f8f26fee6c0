/-
  DERIVED. GIVEN WITH THE SEED: THE CARDS: each row of YtpdjibfcbjknhaaGreatDoorRows.lean that lists a variable, with what it lists TIED to the program's text (the seventh form; the later family's looks); each row that meets fmt, with fmt's text TOLD by the authors' own Lean function (tested against real Go, not proved from fmt's source: count such statements apart). THE CARD IS WHAT COUNTS. Prove the row's statement (the work); the ties are given (YtpdjibfcbjknhaaGreatDoorTie.lean); close each card by the builder's one call (the guide's Derived/Test/ToyasCard.lean, 'card_holds'). Laid BY PROGRAM, IN A SANDBOX (cutbox-door.mjs). By AI agents, Wed Nov 11 2026. No macro, syntax, notation, axiom, sorry.
-/
import Derived.Test.YtpdjibfcbjknhaaGreatDoorRows
import GoSem.ClaimSeven
namespace Go.Proofs.YtpdjibfcbjknhaaGreatDoor
namespace Rows

/-- THE TIED CARD OF 'laws.FnTalkPart'. -/
def fnTalkPartCard : Claim7 := { stood := { row := fnTalkPartRow, standIns := [], harness := (true, "181fb9e608cf0d8b9689fa455608d7bbf8d9570349726a8aba23fac1e7cef60c"), looks := true }, kinds := [], alts := [], laidByText := true, laidKinds := [.data, .data, .data, .data, .sentinel, .sentinel, .pinned], laidTests := true, laidLooks := .later }
def FnTalkPartCardSaid : Prop := Claim7.holds Tryz.pinned (.plain (OpenSpec.ofChange fnTalkPartSpec)) fnTalkPartCard

/-- THE TIED CARD OF 'laws.FnExactTalkNew'. -/
def fnExactTalkNewCard : Claim7 := { stood := { row := fnExactTalkNewRow, standIns := [], harness := (true, "181fb9e608cf0d8b9689fa455608d7bbf8d9570349726a8aba23fac1e7cef60c"), looks := true }, kinds := [], alts := [], laidByText := true, laidKinds := [.data, .data, .data, .data, .sentinel, .sentinel, .pinned], laidTests := true, laidLooks := .later }
def FnExactTalkNewCardSaid : Prop := Claim7.holds Tryz.pinned (.plain (OpenSpec.ofChange fnExactTalkNewSpec)) fnExactTalkNewCard

/-- THE TIED CARD OF 'laws.FnExactTalkValid'. -/
def fnExactTalkValidCard : Claim7 := { stood := { row := fnExactTalkValidRow, standIns := [], harness := (true, "181fb9e608cf0d8b9689fa455608d7bbf8d9570349726a8aba23fac1e7cef60c"), looks := true }, kinds := [], alts := [], laidByText := true, laidKinds := [.data, .data, .data, .data, .sentinel, .sentinel, .pinned], laidTests := true, laidLooks := .later }
def FnExactTalkValidCardSaid : Prop := Claim7.holds Tryz.pinned (.plain (OpenSpec.ofChange fnExactTalkValidSpec)) fnExactTalkValidCard

/-- THE TIED CARD OF 'laws.FnSay'. -/
def fnSayCard : Claim7 := { stood := { row := fnSayRow, standIns := [], harness := (true, "181fb9e608cf0d8b9689fa455608d7bbf8d9570349726a8aba23fac1e7cef60c"), looks := true }, kinds := [], alts := [], laidByText := true, laidKinds := [.data, .data, .data, .data, .sentinel, .sentinel, .pinned], laidTests := true, laidLooks := .later }
def FnSayCardSaid : Prop := Claim7.holds Tryz.pinned (.plain (OpenSpec.ofChange fnSaySpec)) fnSayCard

/-- THE TIED CARD OF 'laws.FnSayBehind'. -/
def fnSayBehindCard : Claim7 := { stood := { row := fnSayBehindRow, standIns := [], harness := (true, "181fb9e608cf0d8b9689fa455608d7bbf8d9570349726a8aba23fac1e7cef60c"), looks := true }, kinds := [], alts := [], laidByText := true, laidKinds := [.data, .data, .data, .data, .sentinel, .sentinel, .pinned], laidTests := true, laidLooks := .later }
def FnSayBehindCardSaid : Prop := Claim7.holds Tryz.pinned (.plain (OpenSpec.ofChange fnSayBehindSpec)) fnSayBehindCard

/-- THE TIED CARD OF 'laws.FnSayEmpty'. -/
def fnSayEmptyCard : Claim7 := { stood := { row := fnSayEmptyRow, standIns := [], harness := (true, "181fb9e608cf0d8b9689fa455608d7bbf8d9570349726a8aba23fac1e7cef60c"), looks := true }, kinds := [], alts := [], laidByText := true, laidKinds := [.data, .data, .data, .data, .sentinel, .sentinel, .pinned], laidTests := true, laidLooks := .later }
def FnSayEmptyCardSaid : Prop := Claim7.holds Tryz.pinned (.plain (OpenSpec.ofChange fnSayEmptySpec)) fnSayEmptyCard

/-- THE TIED CARD OF 'laws.FnSayEnd'. -/
def fnSayEndCard : Claim7 := { stood := { row := fnSayEndRow, standIns := [], harness := (true, "181fb9e608cf0d8b9689fa455608d7bbf8d9570349726a8aba23fac1e7cef60c"), looks := true }, kinds := [], alts := [], laidByText := true, laidKinds := [.data, .data, .data, .data, .sentinel, .sentinel, .pinned], laidTests := true, laidLooks := .later }
def FnSayEndCardSaid : Prop := Claim7.holds Tryz.pinned (.plain (OpenSpec.ofChange fnSayEndSpec)) fnSayEndCard

/-- THE TIED CARD OF 'laws.FnSayHello'. -/
def fnSayHelloCard : Claim7 := { stood := { row := fnSayHelloRow, standIns := [], harness := (true, "181fb9e608cf0d8b9689fa455608d7bbf8d9570349726a8aba23fac1e7cef60c"), looks := true }, kinds := [], alts := [], laidByText := true, laidKinds := [.data, .data, .data, .data, .sentinel, .sentinel, .pinned], laidTests := true, laidLooks := .later }
def FnSayHelloCardSaid : Prop := Claim7.holds Tryz.pinned (.plain (OpenSpec.ofChange fnSayHelloSpec)) fnSayHelloCard

/-- THE TIED CARD OF 'laws.FnSayHelloState'. -/
def fnSayHelloStateCard : Claim7 := { stood := { row := fnSayHelloStateRow, standIns := [], harness := (true, "181fb9e608cf0d8b9689fa455608d7bbf8d9570349726a8aba23fac1e7cef60c"), looks := true }, kinds := [], alts := [], laidByText := true, laidKinds := [.data, .data, .data, .data, .sentinel, .sentinel, .pinned], laidTests := true, laidLooks := .later }
def FnSayHelloStateCardSaid : Prop := Claim7.holds Tryz.pinned (.plain (OpenSpec.ofChange fnSayHelloStateSpec)) fnSayHelloStateCard

/-- THE TIED CARD OF 'laws.FnSayLogin'. -/
def fnSayLoginCard : Claim7 := { stood := { row := fnSayLoginRow, standIns := [], harness := (true, "181fb9e608cf0d8b9689fa455608d7bbf8d9570349726a8aba23fac1e7cef60c"), looks := true }, kinds := [], alts := [], laidByText := true, laidKinds := [.data, .data, .data, .data, .sentinel, .sentinel, .pinned], laidTests := true, laidLooks := .later }
def FnSayLoginCardSaid : Prop := Claim7.holds Tryz.pinned (.plain (OpenSpec.ofChange fnSayLoginSpec)) fnSayLoginCard

/-- THE TIED CARD OF 'laws.FnSayNoLogins'. -/
def fnSayNoLoginsCard : Claim7 := { stood := { row := fnSayNoLoginsRow, standIns := [], harness := (true, "181fb9e608cf0d8b9689fa455608d7bbf8d9570349726a8aba23fac1e7cef60c"), looks := true }, kinds := [], alts := [], laidByText := true, laidKinds := [.data, .data, .data, .data, .sentinel, .sentinel, .pinned], laidTests := true, laidLooks := .later }
def FnSayNoLoginsCardSaid : Prop := Claim7.holds Tryz.pinned (.plain (OpenSpec.ofChange fnSayNoLoginsSpec)) fnSayNoLoginsCard

/-- THE TIED CARD OF 'laws.FnSayOther'. -/
def fnSayOtherCard : Claim7 := { stood := { row := fnSayOtherRow, standIns := [], harness := (true, "181fb9e608cf0d8b9689fa455608d7bbf8d9570349726a8aba23fac1e7cef60c"), looks := true }, kinds := [], alts := [], laidByText := true, laidKinds := [.data, .data, .data, .data, .sentinel, .sentinel, .pinned], laidTests := true, laidLooks := .later }
def FnSayOtherCardSaid : Prop := Claim7.holds Tryz.pinned (.plain (OpenSpec.ofChange fnSayOtherSpec)) fnSayOtherCard

/-- THE TIED CARD OF 'laws.FnSayReply'. -/
def fnSayReplyCard : Claim7 := { stood := { row := fnSayReplyRow, standIns := [], harness := (true, "181fb9e608cf0d8b9689fa455608d7bbf8d9570349726a8aba23fac1e7cef60c"), looks := true }, kinds := [], alts := [], laidByText := true, laidKinds := [.data, .data, .data, .data, .sentinel, .sentinel, .pinned], laidTests := true, laidLooks := .later }
def FnSayReplyCardSaid : Prop := Claim7.holds Tryz.pinned (.plain (OpenSpec.ofChange fnSayReplySpec)) fnSayReplyCard

/-- THE SECOND FORM's CARD OF 'laws.FnTalkPart'. -/
def fnTalkPartUptoCard : Claim7 := { stood := { row := fnTalkPartUptoRow, standIns := [], harness := (true, "181fb9e608cf0d8b9689fa455608d7bbf8d9570349726a8aba23fac1e7cef60c"), looks := true }, kinds := [], alts := [], laidByText := true, laidKinds := [.data, .data, .data, .data, .sentinel, .sentinel, .pinned], laidTests := true, laidLooks := .later }
def FnTalkPartUptoCardSaid : Prop := Claim7.holds Tryz.pinned (.plain (OpenSpec.upto fnTalkPartSpec)) fnTalkPartUptoCard

/-- THE SECOND FORM's CARD OF 'laws.FnExactTalkNew'. -/
def fnExactTalkNewUptoCard : Claim7 := { stood := { row := fnExactTalkNewUptoRow, standIns := [], harness := (true, "181fb9e608cf0d8b9689fa455608d7bbf8d9570349726a8aba23fac1e7cef60c"), looks := true }, kinds := [], alts := [], laidByText := true, laidKinds := [.data, .data, .data, .data, .sentinel, .sentinel, .pinned], laidTests := true, laidLooks := .later }
def FnExactTalkNewUptoCardSaid : Prop := Claim7.holds Tryz.pinned (.plain (OpenSpec.upto fnExactTalkNewSpec)) fnExactTalkNewUptoCard

/-- THE SECOND FORM's CARD OF 'laws.FnExactTalkValid'. -/
def fnExactTalkValidUptoCard : Claim7 := { stood := { row := fnExactTalkValidUptoRow, standIns := [], harness := (true, "181fb9e608cf0d8b9689fa455608d7bbf8d9570349726a8aba23fac1e7cef60c"), looks := true }, kinds := [], alts := [], laidByText := true, laidKinds := [.data, .data, .data, .data, .sentinel, .sentinel, .pinned], laidTests := true, laidLooks := .later }
def FnExactTalkValidUptoCardSaid : Prop := Claim7.holds Tryz.pinned (.plain (OpenSpec.upto fnExactTalkValidSpec)) fnExactTalkValidUptoCard

/-- THE SECOND FORM's CARD OF 'laws.FnSay'. -/
def fnSayUptoCard : Claim7 := { stood := { row := fnSayUptoRow, standIns := [], harness := (true, "181fb9e608cf0d8b9689fa455608d7bbf8d9570349726a8aba23fac1e7cef60c"), looks := true }, kinds := [], alts := [], laidByText := true, laidKinds := [.data, .data, .data, .data, .sentinel, .sentinel, .pinned], laidTests := true, laidLooks := .later }
def FnSayUptoCardSaid : Prop := Claim7.holds Tryz.pinned (.plain (OpenSpec.upto fnSaySpec)) fnSayUptoCard

/-- THE SECOND FORM's CARD OF 'laws.FnSayBehind'. -/
def fnSayBehindUptoCard : Claim7 := { stood := { row := fnSayBehindUptoRow, standIns := [], harness := (true, "181fb9e608cf0d8b9689fa455608d7bbf8d9570349726a8aba23fac1e7cef60c"), looks := true }, kinds := [], alts := [], laidByText := true, laidKinds := [.data, .data, .data, .data, .sentinel, .sentinel, .pinned], laidTests := true, laidLooks := .later }
def FnSayBehindUptoCardSaid : Prop := Claim7.holds Tryz.pinned (.plain (OpenSpec.upto fnSayBehindSpec)) fnSayBehindUptoCard

/-- THE SECOND FORM's CARD OF 'laws.FnSayEmpty'. -/
def fnSayEmptyUptoCard : Claim7 := { stood := { row := fnSayEmptyUptoRow, standIns := [], harness := (true, "181fb9e608cf0d8b9689fa455608d7bbf8d9570349726a8aba23fac1e7cef60c"), looks := true }, kinds := [], alts := [], laidByText := true, laidKinds := [.data, .data, .data, .data, .sentinel, .sentinel, .pinned], laidTests := true, laidLooks := .later }
def FnSayEmptyUptoCardSaid : Prop := Claim7.holds Tryz.pinned (.plain (OpenSpec.upto fnSayEmptySpec)) fnSayEmptyUptoCard

/-- THE SECOND FORM's CARD OF 'laws.FnSayEnd'. -/
def fnSayEndUptoCard : Claim7 := { stood := { row := fnSayEndUptoRow, standIns := [], harness := (true, "181fb9e608cf0d8b9689fa455608d7bbf8d9570349726a8aba23fac1e7cef60c"), looks := true }, kinds := [], alts := [], laidByText := true, laidKinds := [.data, .data, .data, .data, .sentinel, .sentinel, .pinned], laidTests := true, laidLooks := .later }
def FnSayEndUptoCardSaid : Prop := Claim7.holds Tryz.pinned (.plain (OpenSpec.upto fnSayEndSpec)) fnSayEndUptoCard

/-- THE SECOND FORM's CARD OF 'laws.FnSayHello'. -/
def fnSayHelloUptoCard : Claim7 := { stood := { row := fnSayHelloUptoRow, standIns := [], harness := (true, "181fb9e608cf0d8b9689fa455608d7bbf8d9570349726a8aba23fac1e7cef60c"), looks := true }, kinds := [], alts := [], laidByText := true, laidKinds := [.data, .data, .data, .data, .sentinel, .sentinel, .pinned], laidTests := true, laidLooks := .later }
def FnSayHelloUptoCardSaid : Prop := Claim7.holds Tryz.pinned (.plain (OpenSpec.upto fnSayHelloSpec)) fnSayHelloUptoCard

/-- THE SECOND FORM's CARD OF 'laws.FnSayHelloState'. -/
def fnSayHelloStateUptoCard : Claim7 := { stood := { row := fnSayHelloStateUptoRow, standIns := [], harness := (true, "181fb9e608cf0d8b9689fa455608d7bbf8d9570349726a8aba23fac1e7cef60c"), looks := true }, kinds := [], alts := [], laidByText := true, laidKinds := [.data, .data, .data, .data, .sentinel, .sentinel, .pinned], laidTests := true, laidLooks := .later }
def FnSayHelloStateUptoCardSaid : Prop := Claim7.holds Tryz.pinned (.plain (OpenSpec.upto fnSayHelloStateSpec)) fnSayHelloStateUptoCard

/-- THE SECOND FORM's CARD OF 'laws.FnSayLogin'. -/
def fnSayLoginUptoCard : Claim7 := { stood := { row := fnSayLoginUptoRow, standIns := [], harness := (true, "181fb9e608cf0d8b9689fa455608d7bbf8d9570349726a8aba23fac1e7cef60c"), looks := true }, kinds := [], alts := [], laidByText := true, laidKinds := [.data, .data, .data, .data, .sentinel, .sentinel, .pinned], laidTests := true, laidLooks := .later }
def FnSayLoginUptoCardSaid : Prop := Claim7.holds Tryz.pinned (.plain (OpenSpec.upto fnSayLoginSpec)) fnSayLoginUptoCard

/-- THE SECOND FORM's CARD OF 'laws.FnSayNoLogins'. -/
def fnSayNoLoginsUptoCard : Claim7 := { stood := { row := fnSayNoLoginsUptoRow, standIns := [], harness := (true, "181fb9e608cf0d8b9689fa455608d7bbf8d9570349726a8aba23fac1e7cef60c"), looks := true }, kinds := [], alts := [], laidByText := true, laidKinds := [.data, .data, .data, .data, .sentinel, .sentinel, .pinned], laidTests := true, laidLooks := .later }
def FnSayNoLoginsUptoCardSaid : Prop := Claim7.holds Tryz.pinned (.plain (OpenSpec.upto fnSayNoLoginsSpec)) fnSayNoLoginsUptoCard

/-- THE SECOND FORM's CARD OF 'laws.FnSayOther'. -/
def fnSayOtherUptoCard : Claim7 := { stood := { row := fnSayOtherUptoRow, standIns := [], harness := (true, "181fb9e608cf0d8b9689fa455608d7bbf8d9570349726a8aba23fac1e7cef60c"), looks := true }, kinds := [], alts := [], laidByText := true, laidKinds := [.data, .data, .data, .data, .sentinel, .sentinel, .pinned], laidTests := true, laidLooks := .later }
def FnSayOtherUptoCardSaid : Prop := Claim7.holds Tryz.pinned (.plain (OpenSpec.upto fnSayOtherSpec)) fnSayOtherUptoCard

/-- THE SECOND FORM's CARD OF 'laws.FnSayReply'. -/
def fnSayReplyUptoCard : Claim7 := { stood := { row := fnSayReplyUptoRow, standIns := [], harness := (true, "181fb9e608cf0d8b9689fa455608d7bbf8d9570349726a8aba23fac1e7cef60c"), looks := true }, kinds := [], alts := [], laidByText := true, laidKinds := [.data, .data, .data, .data, .sentinel, .sentinel, .pinned], laidTests := true, laidLooks := .later }
def FnSayReplyUptoCardSaid : Prop := Claim7.holds Tryz.pinned (.plain (OpenSpec.upto fnSayReplySpec)) fnSayReplyUptoCard
end Rows
end Go.Proofs.YtpdjibfcbjknhaaGreatDoor
