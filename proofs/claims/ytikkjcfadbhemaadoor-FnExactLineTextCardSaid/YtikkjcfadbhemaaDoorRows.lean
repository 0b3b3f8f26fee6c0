/-
  NARROWER THAN 'FOR EVERY INPUT', by the rows' own cells (each row's printed sentence says how): FnPairTurn: laid · FnExactPairValid: laid · FnHeadPorts: laid · FnHeadSize: laid · FnHeadBegin: laid · FnExactHeadBytes: laid · FnHeadCut: laid · FnHead: laid · FnHeadBehind: laid · FnHeadFrom: laid · FnLineTurn: laid · FnLineBegin: laid · FnExactLineText: laid.
  DERIVED. THE GIVEN ROWS OF THIS SEAT. 13 by the template 'for every input the law returns true; each argument reads behind the call as it read before'; 0 by the template 'total and deterministic' (their statements: YtikkjcfadbhemaaDoorTotals.lean).
  GIVEN WITH THE SEED: the statements are not yours to turn. If you find one false, say at which input.
  Laid BY PROGRAM, IN A SANDBOX (cutbox-rows.mjs): the forced cells as the released guide's own fill.sh prints them over the translation b26b195f43f8d8f5… (all of the seat's roots in one cut). By AI agents, Wed Nov 11 2026. No macro, syntax, notation, axiom, sorry.
-/
import Derived.Test.YtikkjcfadbhemaaDoorChecked
import GoSem.PinnedTables
import GoSem.Claim
import GoSem.ClaimJoined
import GoSem.ClaimMapViews
import Derived.JoinedTies
import Derived.KernelRfl
namespace Go.Proofs.YtikkjcfadbhemaaDoor
/- THE CELL 'sum', in the pinned program and in every row, IS THE sha256 OF THE DUMP (.gsa) THAT YtikkjcfadbhemaaDoorProg.lean LOADS. Nothing in Lean hashes anything: it is a label: what it is worth is what the hold of that sum in a sandbox is worth. -/
noncomputable def Tryd.pinned : Pinned := { name := "ytikkjcfadbhemaadoor", sum := "b26b195f43f8d8f5bfa811831c124d558eaa318a63402a3eeff87d3070515b43", checked := Tryd.checked }
namespace Rows
def none {H : Type} : Left H := { results := [], args := [] }

/- WHAT THE LISTED PACKAGE-LEVEL VARIABLES READ AS WHEN THE CALL BEGINS. Each datum BY PROGRAM (the guide's laid-datum.mjs) off the statement by which the dump's own 'gosem.cut.vars' lays the variable. In a bare row this is a premise. The card (YtikkjcfadbhemaaDoorCards.lean) ties it to the program's text. -/
def laid_unicode_utf8_acceptRanges {H : Type} : DataW H := .agg [.agg [.lit (.int .u8 128), .lit (.int .u8 191)], .agg [.lit (.int .u8 160), .lit (.int .u8 191)], .agg [.lit (.int .u8 128), .lit (.int .u8 159)], .agg [.lit (.int .u8 144), .lit (.int .u8 191)], .agg [.lit (.int .u8 128), .lit (.int .u8 143)], .agg [.lit (.int .u8 0), .lit (.int .u8 0)], .agg [.lit (.int .u8 0), .lit (.int .u8 0)], .agg [.lit (.int .u8 0), .lit (.int .u8 0)], .agg [.lit (.int .u8 0), .lit (.int .u8 0)], .agg [.lit (.int .u8 0), .lit (.int .u8 0)], .agg [.lit (.int .u8 0), .lit (.int .u8 0)], .agg [.lit (.int .u8 0), .lit (.int .u8 0)], .agg [.lit (.int .u8 0), .lit (.int .u8 0)], .agg [.lit (.int .u8 0), .lit (.int .u8 0)], .agg [.lit (.int .u8 0), .lit (.int .u8 0)], .agg [.lit (.int .u8 0), .lit (.int .u8 0)]]
/-- One of Go's own tables, pinned by name: the form's constant. -/
def laid_unicode_utf8_first : DataW Unit := Go.Pinned.utf8First
def laid_math_bits_deBruijn32tab {H : Type} : DataW H := .agg [.lit (.int .u8 0), .lit (.int .u8 1), .lit (.int .u8 28), .lit (.int .u8 2), .lit (.int .u8 29), .lit (.int .u8 14), .lit (.int .u8 24), .lit (.int .u8 3), .lit (.int .u8 30), .lit (.int .u8 22), .lit (.int .u8 20), .lit (.int .u8 15), .lit (.int .u8 25), .lit (.int .u8 17), .lit (.int .u8 4), .lit (.int .u8 8), .lit (.int .u8 31), .lit (.int .u8 27), .lit (.int .u8 13), .lit (.int .u8 23), .lit (.int .u8 21), .lit (.int .u8 19), .lit (.int .u8 16), .lit (.int .u8 7), .lit (.int .u8 26), .lit (.int .u8 12), .lit (.int .u8 18), .lit (.int .u8 6), .lit (.int .u8 11), .lit (.int .u8 5), .lit (.int .u8 10), .lit (.int .u8 9)]
def laid_math_bits_deBruijn64tab {H : Type} : DataW H := .agg [.lit (.int .u8 0), .lit (.int .u8 1), .lit (.int .u8 56), .lit (.int .u8 2), .lit (.int .u8 57), .lit (.int .u8 49), .lit (.int .u8 28), .lit (.int .u8 3), .lit (.int .u8 61), .lit (.int .u8 58), .lit (.int .u8 42), .lit (.int .u8 50), .lit (.int .u8 38), .lit (.int .u8 29), .lit (.int .u8 17), .lit (.int .u8 4), .lit (.int .u8 62), .lit (.int .u8 47), .lit (.int .u8 59), .lit (.int .u8 36), .lit (.int .u8 45), .lit (.int .u8 43), .lit (.int .u8 51), .lit (.int .u8 22), .lit (.int .u8 53), .lit (.int .u8 39), .lit (.int .u8 33), .lit (.int .u8 30), .lit (.int .u8 24), .lit (.int .u8 18), .lit (.int .u8 12), .lit (.int .u8 5), .lit (.int .u8 63), .lit (.int .u8 55), .lit (.int .u8 48), .lit (.int .u8 27), .lit (.int .u8 60), .lit (.int .u8 41), .lit (.int .u8 37), .lit (.int .u8 16), .lit (.int .u8 46), .lit (.int .u8 35), .lit (.int .u8 44), .lit (.int .u8 21), .lit (.int .u8 52), .lit (.int .u8 32), .lit (.int .u8 23), .lit (.int .u8 11), .lit (.int .u8 54), .lit (.int .u8 26), .lit (.int .u8 40), .lit (.int .u8 15), .lit (.int .u8 34), .lit (.int .u8 20), .lit (.int .u8 31), .lit (.int .u8 10), .lit (.int .u8 25), .lit (.int .u8 14), .lit (.int .u8 19), .lit (.int .u8 9), .lit (.int .u8 13), .lit (.int .u8 8), .lit (.int .u8 7), .lit (.int .u8 6)]
def laid_internal_strconv_uint64pow10 {H : Type} : DataW H := .agg [.lit (.int .u64 1), .lit (.int .u64 10), .lit (.int .u64 100), .lit (.int .u64 1000), .lit (.int .u64 10000), .lit (.int .u64 100000), .lit (.int .u64 1000000), .lit (.int .u64 10000000), .lit (.int .u64 100000000), .lit (.int .u64 1000000000), .lit (.int .u64 10000000000), .lit (.int .u64 100000000000), .lit (.int .u64 1000000000000), .lit (.int .u64 10000000000000), .lit (.int .u64 100000000000000), .lit (.int .u64 1000000000000000), .lit (.int .u64 10000000000000000), .lit (.int .u64 100000000000000000), .lit (.int .u64 1000000000000000000), .lit (.int .u64 10000000000000000000)]

/-- 'laws.FnPairTurn': WHATEVER THE INPUT: true; the input reads as it did. -/
def fnPairTurnSpec : ChangeSpec := { name := "fnPairTurn", fn := fun _ => fun
  | [d] => { results := [.lit (.bool true)], args := [d] }
  | _ => none }
def fnPairTurnRow : OpenClaim := { program := "ytikkjcfadbhemaadoor", sum := "b26b195f43f8d8f5bfa811831c124d558eaa318a63402a3eeff87d3070515b43", func := "loop.example/proxyframes/laws.FnPairTurn", spec := "fnPairTurn", inPlace := ["internal/bytealg.CountString", "internal/bytealg.IndexByteString", "internal/bytealg.IndexString"], unfollowed := true, recurses := true, named := ["unicode/utf8.first", "unicode/utf8.acceptRanges", "internal/bytealg.MaxLen"], apart := false, laid := [("unicode/utf8.acceptRanges", laid_unicode_utf8_acceptRanges), ("unicode/utf8.first", laid_unicode_utf8_first)] }
def FnPairTurnSaid : Prop := fnPairTurnRow.holds Tryd.pinned (OpenSpec.ofChange fnPairTurnSpec)

/-- ITS FALSE NEIGHBOUR: 'it returns false'. Refute it at one input. -/
def fnPairTurnWrong : ChangeSpec := { name := "fnPairTurn", fn := fun _ => fun
  | [d] => { results := [.lit (.bool false)], args := [d] }
  | _ => none }
def FnPairTurnWrongFalsely : Prop := fnPairTurnRow.holds Tryd.pinned (OpenSpec.ofChange fnPairTurnWrong)

/-- 'laws.FnExactPairValid': WHATEVER THE INPUT: true; the input reads as it did. -/
def fnExactPairValidSpec : ChangeSpec := { name := "fnExactPairValid", fn := fun _ => fun
  | [d] => { results := [.lit (.bool true)], args := [d] }
  | _ => none }
def fnExactPairValidRow : OpenClaim := { program := "ytikkjcfadbhemaadoor", sum := "b26b195f43f8d8f5bfa811831c124d558eaa318a63402a3eeff87d3070515b43", func := "loop.example/proxyframes/laws.FnExactPairValid", spec := "fnExactPairValid", inPlace := ["internal/bytealg.CountString", "internal/bytealg.IndexByteString", "internal/bytealg.IndexString"], unfollowed := true, recurses := true, named := ["unicode/utf8.first", "unicode/utf8.acceptRanges", "internal/bytealg.MaxLen"], apart := false, laid := [("unicode/utf8.acceptRanges", laid_unicode_utf8_acceptRanges), ("unicode/utf8.first", laid_unicode_utf8_first)] }
def FnExactPairValidSaid : Prop := fnExactPairValidRow.holds Tryd.pinned (OpenSpec.ofChange fnExactPairValidSpec)

/-- ITS FALSE NEIGHBOUR: 'it returns false'. Refute it at one input. -/
def fnExactPairValidWrong : ChangeSpec := { name := "fnExactPairValid", fn := fun _ => fun
  | [d] => { results := [.lit (.bool false)], args := [d] }
  | _ => none }
def FnExactPairValidWrongFalsely : Prop := fnExactPairValidRow.holds Tryd.pinned (OpenSpec.ofChange fnExactPairValidWrong)

/-- 'laws.FnHeadPorts': WHATEVER THE INPUT: true; the input reads as it did. -/
def fnHeadPortsSpec : ChangeSpec := { name := "fnHeadPorts", fn := fun _ => fun
  | [d] => { results := [.lit (.bool true)], args := [d] }
  | _ => none }
def fnHeadPortsRow : OpenClaim := { program := "ytikkjcfadbhemaadoor", sum := "b26b195f43f8d8f5bfa811831c124d558eaa318a63402a3eeff87d3070515b43", func := "loop.example/proxyframes/laws.FnHeadPorts", spec := "fnHeadPorts", inPlace := ["internal/bytealg.CountString", "internal/bytealg.IndexByteString", "internal/bytealg.IndexString"], unfollowed := true, recurses := true, named := ["unicode/utf8.first", "unicode/utf8.acceptRanges", "internal/bytealg.MaxLen"], apart := false, laid := [("unicode/utf8.acceptRanges", laid_unicode_utf8_acceptRanges), ("unicode/utf8.first", laid_unicode_utf8_first)] }
def FnHeadPortsSaid : Prop := fnHeadPortsRow.holds Tryd.pinned (OpenSpec.ofChange fnHeadPortsSpec)

/-- ITS FALSE NEIGHBOUR: 'it returns false'. Refute it at one input. -/
def fnHeadPortsWrong : ChangeSpec := { name := "fnHeadPorts", fn := fun _ => fun
  | [d] => { results := [.lit (.bool false)], args := [d] }
  | _ => none }
def FnHeadPortsWrongFalsely : Prop := fnHeadPortsRow.holds Tryd.pinned (OpenSpec.ofChange fnHeadPortsWrong)

/-- 'laws.FnHeadSize': WHATEVER THE INPUT: true; the input reads as it did. -/
def fnHeadSizeSpec : ChangeSpec := { name := "fnHeadSize", fn := fun _ => fun
  | [d] => { results := [.lit (.bool true)], args := [d] }
  | _ => none }
def fnHeadSizeRow : OpenClaim := { program := "ytikkjcfadbhemaadoor", sum := "b26b195f43f8d8f5bfa811831c124d558eaa318a63402a3eeff87d3070515b43", func := "loop.example/proxyframes/laws.FnHeadSize", spec := "fnHeadSize", inPlace := ["internal/bytealg.CountString", "internal/bytealg.IndexByteString", "internal/bytealg.IndexString"], unfollowed := true, recurses := true, named := ["unicode/utf8.first", "unicode/utf8.acceptRanges", "internal/bytealg.MaxLen"], apart := false, laid := [("unicode/utf8.acceptRanges", laid_unicode_utf8_acceptRanges), ("unicode/utf8.first", laid_unicode_utf8_first)] }
def FnHeadSizeSaid : Prop := fnHeadSizeRow.holds Tryd.pinned (OpenSpec.ofChange fnHeadSizeSpec)

/-- ITS FALSE NEIGHBOUR: 'it returns false'. Refute it at one input. -/
def fnHeadSizeWrong : ChangeSpec := { name := "fnHeadSize", fn := fun _ => fun
  | [d] => { results := [.lit (.bool false)], args := [d] }
  | _ => none }
def FnHeadSizeWrongFalsely : Prop := fnHeadSizeRow.holds Tryd.pinned (OpenSpec.ofChange fnHeadSizeWrong)

/-- 'laws.FnHeadBegin': WHATEVER THE INPUT: true; the input reads as it did. -/
def fnHeadBeginSpec : ChangeSpec := { name := "fnHeadBegin", fn := fun _ => fun
  | [d] => { results := [.lit (.bool true)], args := [d] }
  | _ => none }
def fnHeadBeginRow : OpenClaim := { program := "ytikkjcfadbhemaadoor", sum := "b26b195f43f8d8f5bfa811831c124d558eaa318a63402a3eeff87d3070515b43", func := "loop.example/proxyframes/laws.FnHeadBegin", spec := "fnHeadBegin", inPlace := ["internal/bytealg.CountString", "internal/bytealg.IndexByteString", "internal/bytealg.IndexString"], unfollowed := true, recurses := true, named := ["unicode/utf8.first", "unicode/utf8.acceptRanges", "internal/bytealg.MaxLen"], apart := false, laid := [("unicode/utf8.acceptRanges", laid_unicode_utf8_acceptRanges), ("unicode/utf8.first", laid_unicode_utf8_first)] }
def FnHeadBeginSaid : Prop := fnHeadBeginRow.holds Tryd.pinned (OpenSpec.ofChange fnHeadBeginSpec)

/-- ITS FALSE NEIGHBOUR: 'it returns false'. Refute it at one input. -/
def fnHeadBeginWrong : ChangeSpec := { name := "fnHeadBegin", fn := fun _ => fun
  | [d] => { results := [.lit (.bool false)], args := [d] }
  | _ => none }
def FnHeadBeginWrongFalsely : Prop := fnHeadBeginRow.holds Tryd.pinned (OpenSpec.ofChange fnHeadBeginWrong)

/-- 'laws.FnExactHeadBytes': WHATEVER THE INPUT: true; the input reads as it did. -/
def fnExactHeadBytesSpec : ChangeSpec := { name := "fnExactHeadBytes", fn := fun _ => fun
  | [d1, d2] => { results := [.lit (.bool true)], args := [d1, d2] }
  | _ => none }
def fnExactHeadBytesRow : OpenClaim := { program := "ytikkjcfadbhemaadoor", sum := "b26b195f43f8d8f5bfa811831c124d558eaa318a63402a3eeff87d3070515b43", func := "loop.example/proxyframes/laws.FnExactHeadBytes", spec := "fnExactHeadBytes", inPlace := ["internal/bytealg.CountString", "internal/bytealg.IndexByteString", "internal/bytealg.IndexString"], unfollowed := true, recurses := true, named := ["unicode/utf8.first", "unicode/utf8.acceptRanges", "internal/bytealg.MaxLen"], apart := false, laid := [("unicode/utf8.acceptRanges", laid_unicode_utf8_acceptRanges), ("unicode/utf8.first", laid_unicode_utf8_first)] }
def FnExactHeadBytesSaid : Prop := fnExactHeadBytesRow.holds Tryd.pinned (OpenSpec.ofChange fnExactHeadBytesSpec)

/-- ITS FALSE NEIGHBOUR: 'it returns false'. Refute it at one input. -/
def fnExactHeadBytesWrong : ChangeSpec := { name := "fnExactHeadBytes", fn := fun _ => fun
  | [d1, d2] => { results := [.lit (.bool false)], args := [d1, d2] }
  | _ => none }
def FnExactHeadBytesWrongFalsely : Prop := fnExactHeadBytesRow.holds Tryd.pinned (OpenSpec.ofChange fnExactHeadBytesWrong)

/-- 'laws.FnHeadCut': WHATEVER THE INPUT: true; the input reads as it did. -/
def fnHeadCutSpec : ChangeSpec := { name := "fnHeadCut", fn := fun _ => fun
  | [d1, d2] => { results := [.lit (.bool true)], args := [d1, d2] }
  | _ => none }
def fnHeadCutRow : OpenClaim := { program := "ytikkjcfadbhemaadoor", sum := "b26b195f43f8d8f5bfa811831c124d558eaa318a63402a3eeff87d3070515b43", func := "loop.example/proxyframes/laws.FnHeadCut", spec := "fnHeadCut", inPlace := ["internal/bytealg.CountString", "internal/bytealg.IndexByteString", "internal/bytealg.IndexString"], unfollowed := true, recurses := true, named := ["unicode/utf8.first", "unicode/utf8.acceptRanges", "internal/bytealg.MaxLen"], apart := false, laid := [("unicode/utf8.acceptRanges", laid_unicode_utf8_acceptRanges), ("unicode/utf8.first", laid_unicode_utf8_first)] }
def FnHeadCutSaid : Prop := fnHeadCutRow.holds Tryd.pinned (OpenSpec.ofChange fnHeadCutSpec)

/-- ITS FALSE NEIGHBOUR: 'it returns false'. Refute it at one input. -/
def fnHeadCutWrong : ChangeSpec := { name := "fnHeadCut", fn := fun _ => fun
  | [d1, d2] => { results := [.lit (.bool false)], args := [d1, d2] }
  | _ => none }
def FnHeadCutWrongFalsely : Prop := fnHeadCutRow.holds Tryd.pinned (OpenSpec.ofChange fnHeadCutWrong)

/-- 'laws.FnHead': WHATEVER THE INPUT: true; the input reads as it did. -/
def fnHeadSpec : ChangeSpec := { name := "fnHead", fn := fun _ => fun
  | [d] => { results := [.lit (.bool true)], args := [d] }
  | _ => none }
def fnHeadRow : OpenClaim := { program := "ytikkjcfadbhemaadoor", sum := "b26b195f43f8d8f5bfa811831c124d558eaa318a63402a3eeff87d3070515b43", func := "loop.example/proxyframes/laws.FnHead", spec := "fnHead", inPlace := ["internal/bytealg.CountString", "internal/bytealg.IndexByteString", "internal/bytealg.IndexString"], unfollowed := true, recurses := true, named := ["unicode/utf8.first", "unicode/utf8.acceptRanges", "internal/bytealg.MaxLen"], apart := false, laid := [("unicode/utf8.acceptRanges", laid_unicode_utf8_acceptRanges), ("unicode/utf8.first", laid_unicode_utf8_first)] }
def FnHeadSaid : Prop := fnHeadRow.holds Tryd.pinned (OpenSpec.ofChange fnHeadSpec)

/-- ITS FALSE NEIGHBOUR: 'it returns false'. Refute it at one input. -/
def fnHeadWrong : ChangeSpec := { name := "fnHead", fn := fun _ => fun
  | [d] => { results := [.lit (.bool false)], args := [d] }
  | _ => none }
def FnHeadWrongFalsely : Prop := fnHeadRow.holds Tryd.pinned (OpenSpec.ofChange fnHeadWrong)

/-- 'laws.FnHeadBehind': WHATEVER THE INPUT: true; the input reads as it did. -/
def fnHeadBehindSpec : ChangeSpec := { name := "fnHeadBehind", fn := fun _ => fun
  | [d1, d2] => { results := [.lit (.bool true)], args := [d1, d2] }
  | _ => none }
def fnHeadBehindRow : OpenClaim := { program := "ytikkjcfadbhemaadoor", sum := "b26b195f43f8d8f5bfa811831c124d558eaa318a63402a3eeff87d3070515b43", func := "loop.example/proxyframes/laws.FnHeadBehind", spec := "fnHeadBehind", inPlace := ["internal/bytealg.CountString", "internal/bytealg.IndexByteString", "internal/bytealg.IndexString"], unfollowed := true, recurses := true, named := ["unicode/utf8.first", "unicode/utf8.acceptRanges", "internal/bytealg.MaxLen"], apart := false, laid := [("unicode/utf8.acceptRanges", laid_unicode_utf8_acceptRanges), ("unicode/utf8.first", laid_unicode_utf8_first)] }
def FnHeadBehindSaid : Prop := fnHeadBehindRow.holds Tryd.pinned (OpenSpec.ofChange fnHeadBehindSpec)

/-- ITS FALSE NEIGHBOUR: 'it returns false'. Refute it at one input. -/
def fnHeadBehindWrong : ChangeSpec := { name := "fnHeadBehind", fn := fun _ => fun
  | [d1, d2] => { results := [.lit (.bool false)], args := [d1, d2] }
  | _ => none }
def FnHeadBehindWrongFalsely : Prop := fnHeadBehindRow.holds Tryd.pinned (OpenSpec.ofChange fnHeadBehindWrong)

/-- 'laws.FnHeadFrom': WHATEVER THE INPUT: true; the input reads as it did. -/
def fnHeadFromSpec : ChangeSpec := { name := "fnHeadFrom", fn := fun _ => fun
  | [d] => { results := [.lit (.bool true)], args := [d] }
  | _ => none }
def fnHeadFromRow : OpenClaim := { program := "ytikkjcfadbhemaadoor", sum := "b26b195f43f8d8f5bfa811831c124d558eaa318a63402a3eeff87d3070515b43", func := "loop.example/proxyframes/laws.FnHeadFrom", spec := "fnHeadFrom", inPlace := ["internal/bytealg.CountString", "internal/bytealg.IndexByteString", "internal/bytealg.IndexString"], unfollowed := true, recurses := true, named := ["unicode/utf8.first", "unicode/utf8.acceptRanges", "internal/bytealg.MaxLen"], apart := false, laid := [("unicode/utf8.acceptRanges", laid_unicode_utf8_acceptRanges), ("unicode/utf8.first", laid_unicode_utf8_first)] }
def FnHeadFromSaid : Prop := fnHeadFromRow.holds Tryd.pinned (OpenSpec.ofChange fnHeadFromSpec)

/-- ITS FALSE NEIGHBOUR: 'it returns false'. Refute it at one input. -/
def fnHeadFromWrong : ChangeSpec := { name := "fnHeadFrom", fn := fun _ => fun
  | [d] => { results := [.lit (.bool false)], args := [d] }
  | _ => none }
def FnHeadFromWrongFalsely : Prop := fnHeadFromRow.holds Tryd.pinned (OpenSpec.ofChange fnHeadFromWrong)

/-- 'laws.FnLineTurn': WHATEVER THE INPUT: true; the input reads as it did. -/
def fnLineTurnSpec : ChangeSpec := { name := "fnLineTurn", fn := fun _ => fun
  | [d] => { results := [.lit (.bool true)], args := [d] }
  | _ => none }
def fnLineTurnRow : OpenClaim := { program := "ytikkjcfadbhemaadoor", sum := "b26b195f43f8d8f5bfa811831c124d558eaa318a63402a3eeff87d3070515b43", func := "loop.example/proxyframes/laws.FnLineTurn", spec := "fnLineTurn", inPlace := ["internal/bytealg.CountString", "internal/bytealg.IndexByteString", "internal/bytealg.IndexString", "internal/abi.NoEscape", "internal/bytealg.MakeNoZero"], unfollowed := true, recurses := true, named := ["unicode/utf8.first", "unicode/utf8.acceptRanges", "internal/bytealg.MaxLen", "internal/strconv.uint64pow10", "math/bits.deBruijn32tab", "math/bits.deBruijn64tab"], apart := false, laid := [("math/bits.deBruijn32tab", laid_math_bits_deBruijn32tab), ("math/bits.deBruijn64tab", laid_math_bits_deBruijn64tab), ("internal/strconv.uint64pow10", laid_internal_strconv_uint64pow10), ("unicode/utf8.acceptRanges", laid_unicode_utf8_acceptRanges), ("unicode/utf8.first", laid_unicode_utf8_first)] }
def FnLineTurnSaid : Prop := fnLineTurnRow.holds Tryd.pinned (OpenSpec.ofChange fnLineTurnSpec)

/-- ITS FALSE NEIGHBOUR: 'it returns false'. Refute it at one input. -/
def fnLineTurnWrong : ChangeSpec := { name := "fnLineTurn", fn := fun _ => fun
  | [d] => { results := [.lit (.bool false)], args := [d] }
  | _ => none }
def FnLineTurnWrongFalsely : Prop := fnLineTurnRow.holds Tryd.pinned (OpenSpec.ofChange fnLineTurnWrong)

/-- 'laws.FnLineBegin': WHATEVER THE INPUT: true; the input reads as it did. -/
def fnLineBeginSpec : ChangeSpec := { name := "fnLineBegin", fn := fun _ => fun
  | [d] => { results := [.lit (.bool true)], args := [d] }
  | _ => none }
def fnLineBeginRow : OpenClaim := { program := "ytikkjcfadbhemaadoor", sum := "b26b195f43f8d8f5bfa811831c124d558eaa318a63402a3eeff87d3070515b43", func := "loop.example/proxyframes/laws.FnLineBegin", spec := "fnLineBegin", inPlace := ["internal/bytealg.CountString", "internal/bytealg.IndexByteString", "internal/bytealg.IndexString", "internal/abi.NoEscape", "internal/bytealg.MakeNoZero"], unfollowed := true, recurses := true, named := ["unicode/utf8.first", "unicode/utf8.acceptRanges", "internal/bytealg.MaxLen", "internal/strconv.uint64pow10", "math/bits.deBruijn32tab", "math/bits.deBruijn64tab"], apart := false, laid := [("math/bits.deBruijn32tab", laid_math_bits_deBruijn32tab), ("math/bits.deBruijn64tab", laid_math_bits_deBruijn64tab), ("internal/strconv.uint64pow10", laid_internal_strconv_uint64pow10), ("unicode/utf8.acceptRanges", laid_unicode_utf8_acceptRanges), ("unicode/utf8.first", laid_unicode_utf8_first)] }
def FnLineBeginSaid : Prop := fnLineBeginRow.holds Tryd.pinned (OpenSpec.ofChange fnLineBeginSpec)

/-- ITS FALSE NEIGHBOUR: 'it returns false'. Refute it at one input. -/
def fnLineBeginWrong : ChangeSpec := { name := "fnLineBegin", fn := fun _ => fun
  | [d] => { results := [.lit (.bool false)], args := [d] }
  | _ => none }
def FnLineBeginWrongFalsely : Prop := fnLineBeginRow.holds Tryd.pinned (OpenSpec.ofChange fnLineBeginWrong)

/-- 'laws.FnExactLineText': WHATEVER THE INPUT: true; the input reads as it did. -/
def fnExactLineTextSpec : ChangeSpec := { name := "fnExactLineText", fn := fun _ => fun
  | [d] => { results := [.lit (.bool true)], args := [d] }
  | _ => none }
def fnExactLineTextRow : OpenClaim := { program := "ytikkjcfadbhemaadoor", sum := "b26b195f43f8d8f5bfa811831c124d558eaa318a63402a3eeff87d3070515b43", func := "loop.example/proxyframes/laws.FnExactLineText", spec := "fnExactLineText", inPlace := ["internal/bytealg.CountString", "internal/bytealg.IndexByteString", "internal/bytealg.IndexString", "internal/abi.NoEscape", "internal/bytealg.MakeNoZero"], unfollowed := true, recurses := true, named := ["unicode/utf8.first", "unicode/utf8.acceptRanges", "internal/bytealg.MaxLen", "internal/strconv.uint64pow10", "math/bits.deBruijn32tab", "math/bits.deBruijn64tab"], apart := false, laid := [("math/bits.deBruijn32tab", laid_math_bits_deBruijn32tab), ("math/bits.deBruijn64tab", laid_math_bits_deBruijn64tab), ("internal/strconv.uint64pow10", laid_internal_strconv_uint64pow10), ("unicode/utf8.acceptRanges", laid_unicode_utf8_acceptRanges), ("unicode/utf8.first", laid_unicode_utf8_first)] }
def FnExactLineTextSaid : Prop := fnExactLineTextRow.holds Tryd.pinned (OpenSpec.ofChange fnExactLineTextSpec)

/-- ITS FALSE NEIGHBOUR: 'it returns false'. Refute it at one input. -/
def fnExactLineTextWrong : ChangeSpec := { name := "fnExactLineText", fn := fun _ => fun
  | [d] => { results := [.lit (.bool false)], args := [d] }
  | _ => none }
def FnExactLineTextWrongFalsely : Prop := fnExactLineTextRow.holds Tryd.pinned (OpenSpec.ofChange fnExactLineTextWrong)

/- THE SECOND FORM. 'bulk': how many values and letters a reading holds, each counted each time it is reached (what is shared counts as often as it is met; a slice's spare places count too). A statement '..UptoSaid' is the law's where the arguments, and the package variables that the reading takes, are together of bulk at most 1048576: NARROWER than '..Said'. Prove '..Said' where nothing that the law and all that it calls make is longer than what came in: it says more and counts as full. Else prove '..UptoSaid'. A law counts once. -/
mutual
def uptoBulk {H : Type} : DataW H → Nat
  | .lit (.string bytes) => bytes.length + 1
  | .lit _ => 1
  | .nil => 1
  | .ptr d => uptoBulk d + 1
  | .slice elems spare => uptoBulkAll elems + uptoBulkAll spare + 1
  | .agg parts => uptoBulkAll parts + 1
  | .iface _ d => uptoBulk d + 1
  | .map entries => uptoBulkEntries entries + 1
  | .held _ => 1
def uptoBulkAll {H : Type} : List (DataW H) → Nat
  | [] => 0
  | d :: r => uptoBulk d + uptoBulkAll r
def uptoBulkEntries {H : Type} : List (Lit × DataW H) → Nat
  | [] => 0
  | x :: r => uptoBulkEntry x + uptoBulkEntries r
def uptoBulkEntry {H : Type} : Lit × DataW H → Nat
  | (.string bytes, d) => bytes.length + uptoBulk d + 1
  | (_, d) => uptoBulk d + 1
 end
def uptoSmall : (H : Type) → List (DataW H) → Bool := fun _ ds => decide (uptoBulkAll ds ≤ 1048576)
def OpenSpec.upto (s : _root_.Go.ChangeSpec) : _root_.Go.OpenSpec := { _root_.Go.OpenSpec.ofChange s with cond := some uptoSmall }

/-- 'laws.FnPairTurn', WHERE WHAT IT READS IS OF BULK AT MOST 1048576: true; the input reads as it did. -/
def fnPairTurnUptoRow : OpenClaim := { program := "ytikkjcfadbhemaadoor", sum := "b26b195f43f8d8f5bfa811831c124d558eaa318a63402a3eeff87d3070515b43", func := "loop.example/proxyframes/laws.FnPairTurn", spec := "fnPairTurn", inPlace := ["internal/bytealg.CountString", "internal/bytealg.IndexByteString", "internal/bytealg.IndexString"], unfollowed := true, recurses := true, named := ["unicode/utf8.first", "unicode/utf8.acceptRanges", "internal/bytealg.MaxLen"], apart := false, laid := [("unicode/utf8.acceptRanges", laid_unicode_utf8_acceptRanges), ("unicode/utf8.first", laid_unicode_utf8_first)], narrowed := true }
def FnPairTurnUptoSaid : Prop := fnPairTurnUptoRow.holds Tryd.pinned (OpenSpec.upto fnPairTurnSpec)

/-- 'laws.FnExactPairValid', WHERE WHAT IT READS IS OF BULK AT MOST 1048576: true; the input reads as it did. -/
def fnExactPairValidUptoRow : OpenClaim := { program := "ytikkjcfadbhemaadoor", sum := "b26b195f43f8d8f5bfa811831c124d558eaa318a63402a3eeff87d3070515b43", func := "loop.example/proxyframes/laws.FnExactPairValid", spec := "fnExactPairValid", inPlace := ["internal/bytealg.CountString", "internal/bytealg.IndexByteString", "internal/bytealg.IndexString"], unfollowed := true, recurses := true, named := ["unicode/utf8.first", "unicode/utf8.acceptRanges", "internal/bytealg.MaxLen"], apart := false, laid := [("unicode/utf8.acceptRanges", laid_unicode_utf8_acceptRanges), ("unicode/utf8.first", laid_unicode_utf8_first)], narrowed := true }
def FnExactPairValidUptoSaid : Prop := fnExactPairValidUptoRow.holds Tryd.pinned (OpenSpec.upto fnExactPairValidSpec)

/-- 'laws.FnHeadPorts', WHERE WHAT IT READS IS OF BULK AT MOST 1048576: true; the input reads as it did. -/
def fnHeadPortsUptoRow : OpenClaim := { program := "ytikkjcfadbhemaadoor", sum := "b26b195f43f8d8f5bfa811831c124d558eaa318a63402a3eeff87d3070515b43", func := "loop.example/proxyframes/laws.FnHeadPorts", spec := "fnHeadPorts", inPlace := ["internal/bytealg.CountString", "internal/bytealg.IndexByteString", "internal/bytealg.IndexString"], unfollowed := true, recurses := true, named := ["unicode/utf8.first", "unicode/utf8.acceptRanges", "internal/bytealg.MaxLen"], apart := false, laid := [("unicode/utf8.acceptRanges", laid_unicode_utf8_acceptRanges), ("unicode/utf8.first", laid_unicode_utf8_first)], narrowed := true }
def FnHeadPortsUptoSaid : Prop := fnHeadPortsUptoRow.holds Tryd.pinned (OpenSpec.upto fnHeadPortsSpec)

/-- 'laws.FnHeadSize', WHERE WHAT IT READS IS OF BULK AT MOST 1048576: true; the input reads as it did. -/
def fnHeadSizeUptoRow : OpenClaim := { program := "ytikkjcfadbhemaadoor", sum := "b26b195f43f8d8f5bfa811831c124d558eaa318a63402a3eeff87d3070515b43", func := "loop.example/proxyframes/laws.FnHeadSize", spec := "fnHeadSize", inPlace := ["internal/bytealg.CountString", "internal/bytealg.IndexByteString", "internal/bytealg.IndexString"], unfollowed := true, recurses := true, named := ["unicode/utf8.first", "unicode/utf8.acceptRanges", "internal/bytealg.MaxLen"], apart := false, laid := [("unicode/utf8.acceptRanges", laid_unicode_utf8_acceptRanges), ("unicode/utf8.first", laid_unicode_utf8_first)], narrowed := true }
def FnHeadSizeUptoSaid : Prop := fnHeadSizeUptoRow.holds Tryd.pinned (OpenSpec.upto fnHeadSizeSpec)

/-- 'laws.FnHeadBegin', WHERE WHAT IT READS IS OF BULK AT MOST 1048576: true; the input reads as it did. -/
def fnHeadBeginUptoRow : OpenClaim := { program := "ytikkjcfadbhemaadoor", sum := "b26b195f43f8d8f5bfa811831c124d558eaa318a63402a3eeff87d3070515b43", func := "loop.example/proxyframes/laws.FnHeadBegin", spec := "fnHeadBegin", inPlace := ["internal/bytealg.CountString", "internal/bytealg.IndexByteString", "internal/bytealg.IndexString"], unfollowed := true, recurses := true, named := ["unicode/utf8.first", "unicode/utf8.acceptRanges", "internal/bytealg.MaxLen"], apart := false, laid := [("unicode/utf8.acceptRanges", laid_unicode_utf8_acceptRanges), ("unicode/utf8.first", laid_unicode_utf8_first)], narrowed := true }
def FnHeadBeginUptoSaid : Prop := fnHeadBeginUptoRow.holds Tryd.pinned (OpenSpec.upto fnHeadBeginSpec)

/-- 'laws.FnExactHeadBytes', WHERE WHAT IT READS IS OF BULK AT MOST 1048576: true; the input reads as it did. -/
def fnExactHeadBytesUptoRow : OpenClaim := { program := "ytikkjcfadbhemaadoor", sum := "b26b195f43f8d8f5bfa811831c124d558eaa318a63402a3eeff87d3070515b43", func := "loop.example/proxyframes/laws.FnExactHeadBytes", spec := "fnExactHeadBytes", inPlace := ["internal/bytealg.CountString", "internal/bytealg.IndexByteString", "internal/bytealg.IndexString"], unfollowed := true, recurses := true, named := ["unicode/utf8.first", "unicode/utf8.acceptRanges", "internal/bytealg.MaxLen"], apart := false, laid := [("unicode/utf8.acceptRanges", laid_unicode_utf8_acceptRanges), ("unicode/utf8.first", laid_unicode_utf8_first)], narrowed := true }
def FnExactHeadBytesUptoSaid : Prop := fnExactHeadBytesUptoRow.holds Tryd.pinned (OpenSpec.upto fnExactHeadBytesSpec)

/-- 'laws.FnHeadCut', WHERE WHAT IT READS IS OF BULK AT MOST 1048576: true; the input reads as it did. -/
def fnHeadCutUptoRow : OpenClaim := { program := "ytikkjcfadbhemaadoor", sum := "b26b195f43f8d8f5bfa811831c124d558eaa318a63402a3eeff87d3070515b43", func := "loop.example/proxyframes/laws.FnHeadCut", spec := "fnHeadCut", inPlace := ["internal/bytealg.CountString", "internal/bytealg.IndexByteString", "internal/bytealg.IndexString"], unfollowed := true, recurses := true, named := ["unicode/utf8.first", "unicode/utf8.acceptRanges", "internal/bytealg.MaxLen"], apart := false, laid := [("unicode/utf8.acceptRanges", laid_unicode_utf8_acceptRanges), ("unicode/utf8.first", laid_unicode_utf8_first)], narrowed := true }
def FnHeadCutUptoSaid : Prop := fnHeadCutUptoRow.holds Tryd.pinned (OpenSpec.upto fnHeadCutSpec)

/-- 'laws.FnHead', WHERE WHAT IT READS IS OF BULK AT MOST 1048576: true; the input reads as it did. -/
def fnHeadUptoRow : OpenClaim := { program := "ytikkjcfadbhemaadoor", sum := "b26b195f43f8d8f5bfa811831c124d558eaa318a63402a3eeff87d3070515b43", func := "loop.example/proxyframes/laws.FnHead", spec := "fnHead", inPlace := ["internal/bytealg.CountString", "internal/bytealg.IndexByteString", "internal/bytealg.IndexString"], unfollowed := true, recurses := true, named := ["unicode/utf8.first", "unicode/utf8.acceptRanges", "internal/bytealg.MaxLen"], apart := false, laid := [("unicode/utf8.acceptRanges", laid_unicode_utf8_acceptRanges), ("unicode/utf8.first", laid_unicode_utf8_first)], narrowed := true }
def FnHeadUptoSaid : Prop := fnHeadUptoRow.holds Tryd.pinned (OpenSpec.upto fnHeadSpec)

/-- 'laws.FnHeadBehind', WHERE WHAT IT READS IS OF BULK AT MOST 1048576: true; the input reads as it did. -/
def fnHeadBehindUptoRow : OpenClaim := { program := "ytikkjcfadbhemaadoor", sum := "b26b195f43f8d8f5bfa811831c124d558eaa318a63402a3eeff87d3070515b43", func := "loop.example/proxyframes/laws.FnHeadBehind", spec := "fnHeadBehind", inPlace := ["internal/bytealg.CountString", "internal/bytealg.IndexByteString", "internal/bytealg.IndexString"], unfollowed := true, recurses := true, named := ["unicode/utf8.first", "unicode/utf8.acceptRanges", "internal/bytealg.MaxLen"], apart := false, laid := [("unicode/utf8.acceptRanges", laid_unicode_utf8_acceptRanges), ("unicode/utf8.first", laid_unicode_utf8_first)], narrowed := true }
def FnHeadBehindUptoSaid : Prop := fnHeadBehindUptoRow.holds Tryd.pinned (OpenSpec.upto fnHeadBehindSpec)

/-- 'laws.FnHeadFrom', WHERE WHAT IT READS IS OF BULK AT MOST 1048576: true; the input reads as it did. -/
def fnHeadFromUptoRow : OpenClaim := { program := "ytikkjcfadbhemaadoor", sum := "b26b195f43f8d8f5bfa811831c124d558eaa318a63402a3eeff87d3070515b43", func := "loop.example/proxyframes/laws.FnHeadFrom", spec := "fnHeadFrom", inPlace := ["internal/bytealg.CountString", "internal/bytealg.IndexByteString", "internal/bytealg.IndexString"], unfollowed := true, recurses := true, named := ["unicode/utf8.first", "unicode/utf8.acceptRanges", "internal/bytealg.MaxLen"], apart := false, laid := [("unicode/utf8.acceptRanges", laid_unicode_utf8_acceptRanges), ("unicode/utf8.first", laid_unicode_utf8_first)], narrowed := true }
def FnHeadFromUptoSaid : Prop := fnHeadFromUptoRow.holds Tryd.pinned (OpenSpec.upto fnHeadFromSpec)

/-- 'laws.FnLineTurn', WHERE WHAT IT READS IS OF BULK AT MOST 1048576: true; the input reads as it did. -/
def fnLineTurnUptoRow : OpenClaim := { program := "ytikkjcfadbhemaadoor", sum := "b26b195f43f8d8f5bfa811831c124d558eaa318a63402a3eeff87d3070515b43", func := "loop.example/proxyframes/laws.FnLineTurn", spec := "fnLineTurn", inPlace := ["internal/bytealg.CountString", "internal/bytealg.IndexByteString", "internal/bytealg.IndexString", "internal/abi.NoEscape", "internal/bytealg.MakeNoZero"], unfollowed := true, recurses := true, named := ["unicode/utf8.first", "unicode/utf8.acceptRanges", "internal/bytealg.MaxLen", "internal/strconv.uint64pow10", "math/bits.deBruijn32tab", "math/bits.deBruijn64tab"], apart := false, laid := [("math/bits.deBruijn32tab", laid_math_bits_deBruijn32tab), ("math/bits.deBruijn64tab", laid_math_bits_deBruijn64tab), ("internal/strconv.uint64pow10", laid_internal_strconv_uint64pow10), ("unicode/utf8.acceptRanges", laid_unicode_utf8_acceptRanges), ("unicode/utf8.first", laid_unicode_utf8_first)], narrowed := true }
def FnLineTurnUptoSaid : Prop := fnLineTurnUptoRow.holds Tryd.pinned (OpenSpec.upto fnLineTurnSpec)

/-- 'laws.FnLineBegin', WHERE WHAT IT READS IS OF BULK AT MOST 1048576: true; the input reads as it did. -/
def fnLineBeginUptoRow : OpenClaim := { program := "ytikkjcfadbhemaadoor", sum := "b26b195f43f8d8f5bfa811831c124d558eaa318a63402a3eeff87d3070515b43", func := "loop.example/proxyframes/laws.FnLineBegin", spec := "fnLineBegin", inPlace := ["internal/bytealg.CountString", "internal/bytealg.IndexByteString", "internal/bytealg.IndexString", "internal/abi.NoEscape", "internal/bytealg.MakeNoZero"], unfollowed := true, recurses := true, named := ["unicode/utf8.first", "unicode/utf8.acceptRanges", "internal/bytealg.MaxLen", "internal/strconv.uint64pow10", "math/bits.deBruijn32tab", "math/bits.deBruijn64tab"], apart := false, laid := [("math/bits.deBruijn32tab", laid_math_bits_deBruijn32tab), ("math/bits.deBruijn64tab", laid_math_bits_deBruijn64tab), ("internal/strconv.uint64pow10", laid_internal_strconv_uint64pow10), ("unicode/utf8.acceptRanges", laid_unicode_utf8_acceptRanges), ("unicode/utf8.first", laid_unicode_utf8_first)], narrowed := true }
def FnLineBeginUptoSaid : Prop := fnLineBeginUptoRow.holds Tryd.pinned (OpenSpec.upto fnLineBeginSpec)

/-- 'laws.FnExactLineText', WHERE WHAT IT READS IS OF BULK AT MOST 1048576: true; the input reads as it did. -/
def fnExactLineTextUptoRow : OpenClaim := { program := "ytikkjcfadbhemaadoor", sum := "b26b195f43f8d8f5bfa811831c124d558eaa318a63402a3eeff87d3070515b43", func := "loop.example/proxyframes/laws.FnExactLineText", spec := "fnExactLineText", inPlace := ["internal/bytealg.CountString", "internal/bytealg.IndexByteString", "internal/bytealg.IndexString", "internal/abi.NoEscape", "internal/bytealg.MakeNoZero"], unfollowed := true, recurses := true, named := ["unicode/utf8.first", "unicode/utf8.acceptRanges", "internal/bytealg.MaxLen", "internal/strconv.uint64pow10", "math/bits.deBruijn32tab", "math/bits.deBruijn64tab"], apart := false, laid := [("math/bits.deBruijn32tab", laid_math_bits_deBruijn32tab), ("math/bits.deBruijn64tab", laid_math_bits_deBruijn64tab), ("internal/strconv.uint64pow10", laid_internal_strconv_uint64pow10), ("unicode/utf8.acceptRanges", laid_unicode_utf8_acceptRanges), ("unicode/utf8.first", laid_unicode_utf8_first)], narrowed := true }
def FnExactLineTextUptoSaid : Prop := fnExactLineTextUptoRow.holds Tryd.pinned (OpenSpec.upto fnExactLineTextSpec)

end Rows
end Go.Proofs.YtikkjcfadbhemaaDoor
