/-
  No cell of these rows narrows 'for every input' (looked for: loops, veiled, ifaces, maps, wideKeys, modest, calm, conditions, laid).
  DERIVED. THE GIVEN ROWS OF THIS SEAT. 7 by the template 'for every input the law returns true; each argument reads behind the call as it read before'; 0 by the template 'total and deterministic' (their statements: YtjfijmfmomeikaaTotals.lean).
  GIVEN WITH THE SEED: the statements are not yours to turn. If you find one false, say at which input.
  Laid BY PROGRAM, IN A SANDBOX (cutbox-rows.mjs): the forced cells as the released guide's own fill.sh prints them over the translation 2af524ff1cb38761… (all of the seat's roots in one cut). By AI agents, Wed Nov 11 2026. No macro, syntax, notation, axiom, sorry.
-/
import Derived.Test.YtjfijmfmomeikaaChecked
import GoSem.Claim
import GoSem.ClaimJoined
import GoSem.ClaimMapViews
import Derived.JoinedTies
import Derived.KernelRfl
namespace Go.Proofs.Ytjfijmfmomeikaa
/- THE CELL 'sum', in the pinned program and in every row, IS THE sha256 OF THE DUMP (.gsa) THAT YtjfijmfmomeikaaProg.lean LOADS. Nothing in Lean hashes anything: it is a label: what it is worth is what the hold of that sum in a sandbox is worth. -/
noncomputable def Try.pinned : Pinned := { name := "ytjfijmfmomeikaa", sum := "2af524ff1cb38761e625c61a2a068dae3d03714065198413ec1ae8dd7e43fbb9", checked := Try.checked }
namespace Rows
def none {H : Type} : Left H := { results := [], args := [] }

/-- 'laws.FnExactFeedPut': WHATEVER THE INPUT: true; the input reads as it did. -/
def fnExactFeedPutSpec : ChangeSpec := { name := "fnExactFeedPut", fn := fun _ => fun
  | [d1, d2] => { results := [.lit (.bool true)], args := [d1, d2] }
  | _ => none }
def fnExactFeedPutRow : OpenClaim := { program := "ytjfijmfmomeikaa", sum := "2af524ff1cb38761e625c61a2a068dae3d03714065198413ec1ae8dd7e43fbb9", func := "loop.example/proxyframes/laws.FnExactFeedPut", spec := "fnExactFeedPut", unfollowed := true, recurses := true, apart := false }
def FnExactFeedPutSaid : Prop := fnExactFeedPutRow.holds Try.pinned (OpenSpec.ofChange fnExactFeedPutSpec)

/-- ITS FALSE NEIGHBOUR: 'it returns false'. Refute it at one input. -/
def fnExactFeedPutWrong : ChangeSpec := { name := "fnExactFeedPut", fn := fun _ => fun
  | [d1, d2] => { results := [.lit (.bool false)], args := [d1, d2] }
  | _ => none }
def FnExactFeedPutWrongFalsely : Prop := fnExactFeedPutRow.holds Try.pinned (OpenSpec.ofChange fnExactFeedPutWrong)

/-- 'laws.FnExactSniffKind': WHATEVER THE INPUT: true; the input reads as it did. -/
def fnExactSniffKindSpec : ChangeSpec := { name := "fnExactSniffKind", fn := fun _ => fun
  | [d] => { results := [.lit (.bool true)], args := [d] }
  | _ => none }
def fnExactSniffKindRow : OpenClaim := { program := "ytjfijmfmomeikaa", sum := "2af524ff1cb38761e625c61a2a068dae3d03714065198413ec1ae8dd7e43fbb9", func := "loop.example/proxyframes/laws.FnExactSniffKind", spec := "fnExactSniffKind", unfollowed := true, recurses := true, apart := false }
def FnExactSniffKindSaid : Prop := fnExactSniffKindRow.holds Try.pinned (OpenSpec.ofChange fnExactSniffKindSpec)

/-- ITS FALSE NEIGHBOUR: 'it returns false'. Refute it at one input. -/
def fnExactSniffKindWrong : ChangeSpec := { name := "fnExactSniffKind", fn := fun _ => fun
  | [d] => { results := [.lit (.bool false)], args := [d] }
  | _ => none }
def FnExactSniffKindWrongFalsely : Prop := fnExactSniffKindRow.holds Try.pinned (OpenSpec.ofChange fnExactSniffKindWrong)

/-- 'laws.FnTagsMore': WHATEVER THE INPUT: true; the input reads as it did. -/
def fnTagsMoreSpec : ChangeSpec := { name := "fnTagsMore", fn := fun _ => fun
  | [d] => { results := [.lit (.bool true)], args := [d] }
  | _ => none }
def fnTagsMoreRow : OpenClaim := { program := "ytjfijmfmomeikaa", sum := "2af524ff1cb38761e625c61a2a068dae3d03714065198413ec1ae8dd7e43fbb9", func := "loop.example/proxyframes/laws.FnTagsMore", spec := "fnTagsMore", unfollowed := true, recurses := true, apart := false }
def FnTagsMoreSaid : Prop := fnTagsMoreRow.holds Try.pinned (OpenSpec.ofChange fnTagsMoreSpec)

/-- ITS FALSE NEIGHBOUR: 'it returns false'. Refute it at one input. -/
def fnTagsMoreWrong : ChangeSpec := { name := "fnTagsMore", fn := fun _ => fun
  | [d] => { results := [.lit (.bool false)], args := [d] }
  | _ => none }
def FnTagsMoreWrongFalsely : Prop := fnTagsMoreRow.holds Try.pinned (OpenSpec.ofChange fnTagsMoreWrong)

/-- 'laws.FnTagsPart': WHATEVER THE INPUT: true; the input reads as it did. -/
def fnTagsPartSpec : ChangeSpec := { name := "fnTagsPart", fn := fun _ => fun
  | [d1, d2] => { results := [.lit (.bool true)], args := [d1, d2] }
  | _ => none }
def fnTagsPartRow : OpenClaim := { program := "ytjfijmfmomeikaa", sum := "2af524ff1cb38761e625c61a2a068dae3d03714065198413ec1ae8dd7e43fbb9", func := "loop.example/proxyframes/laws.FnTagsPart", spec := "fnTagsPart", unfollowed := true, recurses := true, apart := false }
def FnTagsPartSaid : Prop := fnTagsPartRow.holds Try.pinned (OpenSpec.ofChange fnTagsPartSpec)

/-- ITS FALSE NEIGHBOUR: 'it returns false'. Refute it at one input. -/
def fnTagsPartWrong : ChangeSpec := { name := "fnTagsPart", fn := fun _ => fun
  | [d1, d2] => { results := [.lit (.bool false)], args := [d1, d2] }
  | _ => none }
def FnTagsPartWrongFalsely : Prop := fnTagsPartRow.holds Try.pinned (OpenSpec.ofChange fnTagsPartWrong)

/-- 'laws.FnTagsSize': WHATEVER THE INPUT: true; the input reads as it did. -/
def fnTagsSizeSpec : ChangeSpec := { name := "fnTagsSize", fn := fun _ => fun
  | [d] => { results := [.lit (.bool true)], args := [d] }
  | _ => none }
def fnTagsSizeRow : OpenClaim := { program := "ytjfijmfmomeikaa", sum := "2af524ff1cb38761e625c61a2a068dae3d03714065198413ec1ae8dd7e43fbb9", func := "loop.example/proxyframes/laws.FnTagsSize", spec := "fnTagsSize", unfollowed := true, recurses := true, apart := false }
def FnTagsSizeSaid : Prop := fnTagsSizeRow.holds Try.pinned (OpenSpec.ofChange fnTagsSizeSpec)

/-- ITS FALSE NEIGHBOUR: 'it returns false'. Refute it at one input. -/
def fnTagsSizeWrong : ChangeSpec := { name := "fnTagsSize", fn := fun _ => fun
  | [d] => { results := [.lit (.bool false)], args := [d] }
  | _ => none }
def FnTagsSizeWrongFalsely : Prop := fnTagsSizeRow.holds Try.pinned (OpenSpec.ofChange fnTagsSizeWrong)

/-- 'laws.FnExactTagsFrom': WHATEVER THE INPUT: true; the input reads as it did. -/
def fnExactTagsFromSpec : ChangeSpec := { name := "fnExactTagsFrom", fn := fun _ => fun
  | [d] => { results := [.lit (.bool true)], args := [d] }
  | _ => none }
def fnExactTagsFromRow : OpenClaim := { program := "ytjfijmfmomeikaa", sum := "2af524ff1cb38761e625c61a2a068dae3d03714065198413ec1ae8dd7e43fbb9", func := "loop.example/proxyframes/laws.FnExactTagsFrom", spec := "fnExactTagsFrom", unfollowed := true, recurses := true, apart := false }
def FnExactTagsFromSaid : Prop := fnExactTagsFromRow.holds Try.pinned (OpenSpec.ofChange fnExactTagsFromSpec)

/-- ITS FALSE NEIGHBOUR: 'it returns false'. Refute it at one input. -/
def fnExactTagsFromWrong : ChangeSpec := { name := "fnExactTagsFrom", fn := fun _ => fun
  | [d] => { results := [.lit (.bool false)], args := [d] }
  | _ => none }
def FnExactTagsFromWrongFalsely : Prop := fnExactTagsFromRow.holds Try.pinned (OpenSpec.ofChange fnExactTagsFromWrong)

/-- 'laws.FnExactTagsBytes': WHATEVER THE INPUT: true; the input reads as it did. -/
def fnExactTagsBytesSpec : ChangeSpec := { name := "fnExactTagsBytes", fn := fun _ => fun
  | [d] => { results := [.lit (.bool true)], args := [d] }
  | _ => none }
def fnExactTagsBytesRow : OpenClaim := { program := "ytjfijmfmomeikaa", sum := "2af524ff1cb38761e625c61a2a068dae3d03714065198413ec1ae8dd7e43fbb9", func := "loop.example/proxyframes/laws.FnExactTagsBytes", spec := "fnExactTagsBytes", unfollowed := true, recurses := true, apart := false }
def FnExactTagsBytesSaid : Prop := fnExactTagsBytesRow.holds Try.pinned (OpenSpec.ofChange fnExactTagsBytesSpec)

/-- ITS FALSE NEIGHBOUR: 'it returns false'. Refute it at one input. -/
def fnExactTagsBytesWrong : ChangeSpec := { name := "fnExactTagsBytes", fn := fun _ => fun
  | [d] => { results := [.lit (.bool false)], args := [d] }
  | _ => none }
def FnExactTagsBytesWrongFalsely : Prop := fnExactTagsBytesRow.holds Try.pinned (OpenSpec.ofChange fnExactTagsBytesWrong)

/- THE SECOND FORM. 'bulk': how many values and letters a reading holds, each counted each time it is reached (what is shared counts as often as it is met; a slice's spare places count too). A statement '..UptoSaid' is the law's where the arguments, and the package variables that the reading takes, are together of bulk at most 1048576: NARROWER than '..Said'. Prove '..Said' where nothing that the law and all that it calls make is longer than what came in: it says more and counts as full. Else prove '..UptoSaid'. A law counts once. -/
mutual
def uptoBulk {H : Type} : DataW H → Nat
  | .lit (.string bytes) => bytes.length + 1
  | .lit _ => 1
  | .nil => 1
  | .ptr d => uptoBulk d + 1
  | .slice elems spare => uptoBulkAll elems + uptoBulkAll spare + 1
  | .agg parts => uptoBulkAll parts + 1
  | .iface _ d => uptoBulk d + 1
  | .map entries => uptoBulkEntries entries + 1
  | .held _ => 1
def uptoBulkAll {H : Type} : List (DataW H) → Nat
  | [] => 0
  | d :: r => uptoBulk d + uptoBulkAll r
def uptoBulkEntries {H : Type} : List (Lit × DataW H) → Nat
  | [] => 0
  | x :: r => uptoBulkEntry x + uptoBulkEntries r
def uptoBulkEntry {H : Type} : Lit × DataW H → Nat
  | (.string bytes, d) => bytes.length + uptoBulk d + 1
  | (_, d) => uptoBulk d + 1
 end
def uptoSmall : (H : Type) → List (DataW H) → Bool := fun _ ds => decide (uptoBulkAll ds ≤ 1048576)
def OpenSpec.upto (s : _root_.Go.ChangeSpec) : _root_.Go.OpenSpec := { _root_.Go.OpenSpec.ofChange s with cond := some uptoSmall }

/-- 'laws.FnExactFeedPut', WHERE WHAT IT READS IS OF BULK AT MOST 1048576: true; the input reads as it did. -/
def fnExactFeedPutUptoRow : OpenClaim := { program := "ytjfijmfmomeikaa", sum := "2af524ff1cb38761e625c61a2a068dae3d03714065198413ec1ae8dd7e43fbb9", func := "loop.example/proxyframes/laws.FnExactFeedPut", spec := "fnExactFeedPut", unfollowed := true, recurses := true, apart := false, narrowed := true }
def FnExactFeedPutUptoSaid : Prop := fnExactFeedPutUptoRow.holds Try.pinned (OpenSpec.upto fnExactFeedPutSpec)

/-- 'laws.FnExactSniffKind', WHERE WHAT IT READS IS OF BULK AT MOST 1048576: true; the input reads as it did. -/
def fnExactSniffKindUptoRow : OpenClaim := { program := "ytjfijmfmomeikaa", sum := "2af524ff1cb38761e625c61a2a068dae3d03714065198413ec1ae8dd7e43fbb9", func := "loop.example/proxyframes/laws.FnExactSniffKind", spec := "fnExactSniffKind", unfollowed := true, recurses := true, apart := false, narrowed := true }
def FnExactSniffKindUptoSaid : Prop := fnExactSniffKindUptoRow.holds Try.pinned (OpenSpec.upto fnExactSniffKindSpec)

/-- 'laws.FnTagsMore', WHERE WHAT IT READS IS OF BULK AT MOST 1048576: true; the input reads as it did. -/
def fnTagsMoreUptoRow : OpenClaim := { program := "ytjfijmfmomeikaa", sum := "2af524ff1cb38761e625c61a2a068dae3d03714065198413ec1ae8dd7e43fbb9", func := "loop.example/proxyframes/laws.FnTagsMore", spec := "fnTagsMore", unfollowed := true, recurses := true, apart := false, narrowed := true }
def FnTagsMoreUptoSaid : Prop := fnTagsMoreUptoRow.holds Try.pinned (OpenSpec.upto fnTagsMoreSpec)

/-- 'laws.FnTagsPart', WHERE WHAT IT READS IS OF BULK AT MOST 1048576: true; the input reads as it did. -/
def fnTagsPartUptoRow : OpenClaim := { program := "ytjfijmfmomeikaa", sum := "2af524ff1cb38761e625c61a2a068dae3d03714065198413ec1ae8dd7e43fbb9", func := "loop.example/proxyframes/laws.FnTagsPart", spec := "fnTagsPart", unfollowed := true, recurses := true, apart := false, narrowed := true }
def FnTagsPartUptoSaid : Prop := fnTagsPartUptoRow.holds Try.pinned (OpenSpec.upto fnTagsPartSpec)

/-- 'laws.FnTagsSize', WHERE WHAT IT READS IS OF BULK AT MOST 1048576: true; the input reads as it did. -/
def fnTagsSizeUptoRow : OpenClaim := { program := "ytjfijmfmomeikaa", sum := "2af524ff1cb38761e625c61a2a068dae3d03714065198413ec1ae8dd7e43fbb9", func := "loop.example/proxyframes/laws.FnTagsSize", spec := "fnTagsSize", unfollowed := true, recurses := true, apart := false, narrowed := true }
def FnTagsSizeUptoSaid : Prop := fnTagsSizeUptoRow.holds Try.pinned (OpenSpec.upto fnTagsSizeSpec)

/-- 'laws.FnExactTagsFrom', WHERE WHAT IT READS IS OF BULK AT MOST 1048576: true; the input reads as it did. -/
def fnExactTagsFromUptoRow : OpenClaim := { program := "ytjfijmfmomeikaa", sum := "2af524ff1cb38761e625c61a2a068dae3d03714065198413ec1ae8dd7e43fbb9", func := "loop.example/proxyframes/laws.FnExactTagsFrom", spec := "fnExactTagsFrom", unfollowed := true, recurses := true, apart := false, narrowed := true }
def FnExactTagsFromUptoSaid : Prop := fnExactTagsFromUptoRow.holds Try.pinned (OpenSpec.upto fnExactTagsFromSpec)

/-- 'laws.FnExactTagsBytes', WHERE WHAT IT READS IS OF BULK AT MOST 1048576: true; the input reads as it did. -/
def fnExactTagsBytesUptoRow : OpenClaim := { program := "ytjfijmfmomeikaa", sum := "2af524ff1cb38761e625c61a2a068dae3d03714065198413ec1ae8dd7e43fbb9", func := "loop.example/proxyframes/laws.FnExactTagsBytes", spec := "fnExactTagsBytes", unfollowed := true, recurses := true, apart := false, narrowed := true }
def FnExactTagsBytesUptoSaid : Prop := fnExactTagsBytesUptoRow.holds Try.pinned (OpenSpec.upto fnExactTagsBytesSpec)

end Rows
end Go.Proofs.Ytjfijmfmomeikaa
