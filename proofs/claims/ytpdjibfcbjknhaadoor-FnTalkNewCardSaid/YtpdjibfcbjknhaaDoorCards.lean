/-
  DERIVED. GIVEN WITH THE SEED: THE CARDS: each row of YtpdjibfcbjknhaaDoorRows.lean that lists a variable, with what it lists TIED to the program's text (the seventh form; the later family's looks); each row that meets fmt, with fmt's text TOLD by the authors' own Lean function (tested against real Go, not proved from fmt's source: count such statements apart). THE CARD IS WHAT COUNTS. Prove the row's statement (the work); the ties are given (YtpdjibfcbjknhaaDoorTie.lean); close each card by the builder's one call (the guide's Derived/Test/ToyasCard.lean, 'card_holds'). Laid BY PROGRAM, IN A SANDBOX (cutbox-door.mjs). By AI agents, Wed Nov 11 2026. No macro, syntax, notation, axiom, sorry.
-/
import Derived.Test.YtpdjibfcbjknhaaDoorRows
import GoSem.ClaimSeven
namespace Go.Proofs.YtpdjibfcbjknhaaDoor
namespace Rows

/-- THE TIED CARD OF 'laws.FnTalkNew'. -/
def fnTalkNewCard : Claim7 := { stood := { row := fnTalkNewRow, standIns := [], harness := (true, "e7c975a7a302f036bd5997004a37d2e84d2bb4e0b3e170558a7d05fcbbea054b"), looks := true }, kinds := [], alts := [], laidByText := true, laidKinds := [.data, .data, .data, .data, .sentinel, .sentinel, .pinned], laidTests := true, laidLooks := .later }
def FnTalkNewCardSaid : Prop := Claim7.holds Tryd.pinned (.plain (OpenSpec.ofChange fnTalkNewSpec)) fnTalkNewCard

/-- THE SECOND FORM's CARD OF 'laws.FnTalkNew'. -/
def fnTalkNewUptoCard : Claim7 := { stood := { row := fnTalkNewUptoRow, standIns := [], harness := (true, "e7c975a7a302f036bd5997004a37d2e84d2bb4e0b3e170558a7d05fcbbea054b"), looks := true }, kinds := [], alts := [], laidByText := true, laidKinds := [.data, .data, .data, .data, .sentinel, .sentinel, .pinned], laidTests := true, laidLooks := .later }
def FnTalkNewUptoCardSaid : Prop := Claim7.holds Tryd.pinned (.plain (OpenSpec.upto fnTalkNewSpec)) fnTalkNewUptoCard
end Rows
end Go.Proofs.YtpdjibfcbjknhaaDoor
