/-
  No cell of these rows narrows 'for every input' (looked for: loops, veiled, ifaces, maps, wideKeys, modest, calm, conditions, laid).
  DERIVED. THE GIVEN ROWS OF THIS SEAT. 7 by the template 'for every input the law returns true; each argument reads behind the call as it read before'; 0 by the template 'total and deterministic' (their statements: YtknhfogblfogaaaTotals.lean).
  GIVEN WITH THE SEED: the statements are not yours to turn. If you find one false, say at which input.
  Laid BY PROGRAM, IN A SANDBOX (cutbox-rows.mjs): the forced cells as the released guide's own fill.sh prints them over the translation 5018924e5367b246… (all of the seat's roots in one cut). By AI agents, Wed Nov 11 2026. No macro, syntax, notation, axiom, sorry.
-/
import Derived.Test.YtknhfogblfogaaaChecked
import GoSem.Claim
import GoSem.ClaimJoined
import GoSem.ClaimMapViews
import Derived.JoinedTies
import Derived.KernelRfl
namespace Go.Proofs.Ytknhfogblfogaaa
/- THE CELL 'sum', in the pinned program and in every row, IS THE sha256 OF THE DUMP (.gsa) THAT YtknhfogblfogaaaProg.lean LOADS. Nothing in Lean hashes anything: it is a label: what it is worth is what the hold of that sum in a sandbox is worth. -/
noncomputable def Try.pinned : Pinned := { name := "ytknhfogblfogaaa", sum := "5018924e5367b246dd5984c173f76ba5825aee398a130be29488e28dcc7cb996", checked := Try.checked }
namespace Rows
def none {H : Type} : Left H := { results := [], args := [] }

/-- 'laws.FnExactHeadFrom': WHATEVER THE INPUT: true; the input reads as it did. -/
def fnExactHeadFromSpec : ChangeSpec := { name := "fnExactHeadFrom", fn := fun _ => fun
  | [d] => { results := [.lit (.bool true)], args := [d] }
  | _ => none }
def fnExactHeadFromRow : OpenClaim := { program := "ytknhfogblfogaaa", sum := "5018924e5367b246dd5984c173f76ba5825aee398a130be29488e28dcc7cb996", func := "loop.example/proxyframes/laws.FnExactHeadFrom", spec := "fnExactHeadFrom", unfollowed := true, recurses := true, apart := false }
def FnExactHeadFromSaid : Prop := fnExactHeadFromRow.holds Try.pinned (OpenSpec.ofChange fnExactHeadFromSpec)

/-- ITS FALSE NEIGHBOUR: 'it returns false'. Refute it at one input. -/
def fnExactHeadFromWrong : ChangeSpec := { name := "fnExactHeadFrom", fn := fun _ => fun
  | [d] => { results := [.lit (.bool false)], args := [d] }
  | _ => none }
def FnExactHeadFromWrongFalsely : Prop := fnExactHeadFromRow.holds Try.pinned (OpenSpec.ofChange fnExactHeadFromWrong)

/-- 'laws.FnFeedPutTwice': WHATEVER THE INPUT: true; the input reads as it did. -/
def fnFeedPutTwiceSpec : ChangeSpec := { name := "fnFeedPutTwice", fn := fun _ => fun
  | [d1, d2] => { results := [.lit (.bool true)], args := [d1, d2] }
  | _ => none }
def fnFeedPutTwiceRow : OpenClaim := { program := "ytknhfogblfogaaa", sum := "5018924e5367b246dd5984c173f76ba5825aee398a130be29488e28dcc7cb996", func := "loop.example/proxyframes/laws.FnFeedPutTwice", spec := "fnFeedPutTwice", unfollowed := true, recurses := true, apart := false }
def FnFeedPutTwiceSaid : Prop := fnFeedPutTwiceRow.holds Try.pinned (OpenSpec.ofChange fnFeedPutTwiceSpec)

/-- ITS FALSE NEIGHBOUR: 'it returns false'. Refute it at one input. -/
def fnFeedPutTwiceWrong : ChangeSpec := { name := "fnFeedPutTwice", fn := fun _ => fun
  | [d1, d2] => { results := [.lit (.bool false)], args := [d1, d2] }
  | _ => none }
def FnFeedPutTwiceWrongFalsely : Prop := fnFeedPutTwiceRow.holds Try.pinned (OpenSpec.ofChange fnFeedPutTwiceWrong)

/-- 'laws.FnFeedPut': WHATEVER THE INPUT: true; the input reads as it did. -/
def fnFeedPutSpec : ChangeSpec := { name := "fnFeedPut", fn := fun _ => fun
  | [d] => { results := [.lit (.bool true)], args := [d] }
  | _ => none }
def fnFeedPutRow : OpenClaim := { program := "ytknhfogblfogaaa", sum := "5018924e5367b246dd5984c173f76ba5825aee398a130be29488e28dcc7cb996", func := "loop.example/proxyframes/laws.FnFeedPut", spec := "fnFeedPut", unfollowed := true, recurses := true, apart := false }
def FnFeedPutSaid : Prop := fnFeedPutRow.holds Try.pinned (OpenSpec.ofChange fnFeedPutSpec)

/-- ITS FALSE NEIGHBOUR: 'it returns false'. Refute it at one input. -/
def fnFeedPutWrong : ChangeSpec := { name := "fnFeedPut", fn := fun _ => fun
  | [d] => { results := [.lit (.bool false)], args := [d] }
  | _ => none }
def FnFeedPutWrongFalsely : Prop := fnFeedPutRow.holds Try.pinned (OpenSpec.ofChange fnFeedPutWrong)

/-- 'laws.FnSniff': WHATEVER THE INPUT: true; the input reads as it did. -/
def fnSniffSpec : ChangeSpec := { name := "fnSniff", fn := fun _ => fun
  | [d] => { results := [.lit (.bool true)], args := [d] }
  | _ => none }
def fnSniffRow : OpenClaim := { program := "ytknhfogblfogaaa", sum := "5018924e5367b246dd5984c173f76ba5825aee398a130be29488e28dcc7cb996", func := "loop.example/proxyframes/laws.FnSniff", spec := "fnSniff", unfollowed := true, recurses := true, apart := false }
def FnSniffSaid : Prop := fnSniffRow.holds Try.pinned (OpenSpec.ofChange fnSniffSpec)

/-- ITS FALSE NEIGHBOUR: 'it returns false'. Refute it at one input. -/
def fnSniffWrong : ChangeSpec := { name := "fnSniff", fn := fun _ => fun
  | [d] => { results := [.lit (.bool false)], args := [d] }
  | _ => none }
def FnSniffWrongFalsely : Prop := fnSniffRow.holds Try.pinned (OpenSpec.ofChange fnSniffWrong)

/-- 'laws.FnSniffBegin': WHATEVER THE INPUT: true; the input reads as it did. -/
def fnSniffBeginSpec : ChangeSpec := { name := "fnSniffBegin", fn := fun _ => fun
  | [d1, d2] => { results := [.lit (.bool true)], args := [d1, d2] }
  | _ => none }
def fnSniffBeginRow : OpenClaim := { program := "ytknhfogblfogaaa", sum := "5018924e5367b246dd5984c173f76ba5825aee398a130be29488e28dcc7cb996", func := "loop.example/proxyframes/laws.FnSniffBegin", spec := "fnSniffBegin", unfollowed := true, recurses := true, apart := false }
def FnSniffBeginSaid : Prop := fnSniffBeginRow.holds Try.pinned (OpenSpec.ofChange fnSniffBeginSpec)

/-- ITS FALSE NEIGHBOUR: 'it returns false'. Refute it at one input. -/
def fnSniffBeginWrong : ChangeSpec := { name := "fnSniffBegin", fn := fun _ => fun
  | [d1, d2] => { results := [.lit (.bool false)], args := [d1, d2] }
  | _ => none }
def FnSniffBeginWrongFalsely : Prop := fnSniffBeginRow.holds Try.pinned (OpenSpec.ofChange fnSniffBeginWrong)

/-- 'laws.FnSniffFirst': WHATEVER THE INPUT: true; the input reads as it did. -/
def fnSniffFirstSpec : ChangeSpec := { name := "fnSniffFirst", fn := fun _ => fun
  | [d] => { results := [.lit (.bool true)], args := [d] }
  | _ => none }
def fnSniffFirstRow : OpenClaim := { program := "ytknhfogblfogaaa", sum := "5018924e5367b246dd5984c173f76ba5825aee398a130be29488e28dcc7cb996", func := "loop.example/proxyframes/laws.FnSniffFirst", spec := "fnSniffFirst", unfollowed := true, recurses := true, apart := false }
def FnSniffFirstSaid : Prop := fnSniffFirstRow.holds Try.pinned (OpenSpec.ofChange fnSniffFirstSpec)

/-- ITS FALSE NEIGHBOUR: 'it returns false'. Refute it at one input. -/
def fnSniffFirstWrong : ChangeSpec := { name := "fnSniffFirst", fn := fun _ => fun
  | [d] => { results := [.lit (.bool false)], args := [d] }
  | _ => none }
def FnSniffFirstWrongFalsely : Prop := fnSniffFirstRow.holds Try.pinned (OpenSpec.ofChange fnSniffFirstWrong)

/-- 'laws.FnSniffOn': WHATEVER THE INPUT: true; the input reads as it did. -/
def fnSniffOnSpec : ChangeSpec := { name := "fnSniffOn", fn := fun _ => fun
  | [d1, d2] => { results := [.lit (.bool true)], args := [d1, d2] }
  | _ => none }
def fnSniffOnRow : OpenClaim := { program := "ytknhfogblfogaaa", sum := "5018924e5367b246dd5984c173f76ba5825aee398a130be29488e28dcc7cb996", func := "loop.example/proxyframes/laws.FnSniffOn", spec := "fnSniffOn", unfollowed := true, recurses := true, apart := false }
def FnSniffOnSaid : Prop := fnSniffOnRow.holds Try.pinned (OpenSpec.ofChange fnSniffOnSpec)

/-- ITS FALSE NEIGHBOUR: 'it returns false'. Refute it at one input. -/
def fnSniffOnWrong : ChangeSpec := { name := "fnSniffOn", fn := fun _ => fun
  | [d1, d2] => { results := [.lit (.bool false)], args := [d1, d2] }
  | _ => none }
def FnSniffOnWrongFalsely : Prop := fnSniffOnRow.holds Try.pinned (OpenSpec.ofChange fnSniffOnWrong)

/- THE SECOND FORM. 'bulk': how many values and letters a reading holds, each counted each time it is reached (what is shared counts as often as it is met; a slice's spare places count too). A statement '..UptoSaid' is the law's where the arguments, and the package variables that the reading takes, are together of bulk at most 1048576: NARROWER than '..Said'. Prove '..Said' where nothing that the law and all that it calls make is longer than what came in: it says more and counts as full. Else prove '..UptoSaid'. A law counts once. -/
mutual
def uptoBulk {H : Type} : DataW H → Nat
  | .lit (.string bytes) => bytes.length + 1
  | .lit _ => 1
  | .nil => 1
  | .ptr d => uptoBulk d + 1
  | .slice elems spare => uptoBulkAll elems + uptoBulkAll spare + 1
  | .agg parts => uptoBulkAll parts + 1
  | .iface _ d => uptoBulk d + 1
  | .map entries => uptoBulkEntries entries + 1
  | .held _ => 1
def uptoBulkAll {H : Type} : List (DataW H) → Nat
  | [] => 0
  | d :: r => uptoBulk d + uptoBulkAll r
def uptoBulkEntries {H : Type} : List (Lit × DataW H) → Nat
  | [] => 0
  | x :: r => uptoBulkEntry x + uptoBulkEntries r
def uptoBulkEntry {H : Type} : Lit × DataW H → Nat
  | (.string bytes, d) => bytes.length + uptoBulk d + 1
  | (_, d) => uptoBulk d + 1
 end
def uptoSmall : (H : Type) → List (DataW H) → Bool := fun _ ds => decide (uptoBulkAll ds ≤ 1048576)
def OpenSpec.upto (s : _root_.Go.ChangeSpec) : _root_.Go.OpenSpec := { _root_.Go.OpenSpec.ofChange s with cond := some uptoSmall }

/-- 'laws.FnExactHeadFrom', WHERE WHAT IT READS IS OF BULK AT MOST 1048576: true; the input reads as it did. -/
def fnExactHeadFromUptoRow : OpenClaim := { program := "ytknhfogblfogaaa", sum := "5018924e5367b246dd5984c173f76ba5825aee398a130be29488e28dcc7cb996", func := "loop.example/proxyframes/laws.FnExactHeadFrom", spec := "fnExactHeadFrom", unfollowed := true, recurses := true, apart := false, narrowed := true }
def FnExactHeadFromUptoSaid : Prop := fnExactHeadFromUptoRow.holds Try.pinned (OpenSpec.upto fnExactHeadFromSpec)

/-- 'laws.FnFeedPutTwice', WHERE WHAT IT READS IS OF BULK AT MOST 1048576: true; the input reads as it did. -/
def fnFeedPutTwiceUptoRow : OpenClaim := { program := "ytknhfogblfogaaa", sum := "5018924e5367b246dd5984c173f76ba5825aee398a130be29488e28dcc7cb996", func := "loop.example/proxyframes/laws.FnFeedPutTwice", spec := "fnFeedPutTwice", unfollowed := true, recurses := true, apart := false, narrowed := true }
def FnFeedPutTwiceUptoSaid : Prop := fnFeedPutTwiceUptoRow.holds Try.pinned (OpenSpec.upto fnFeedPutTwiceSpec)

/-- 'laws.FnFeedPut', WHERE WHAT IT READS IS OF BULK AT MOST 1048576: true; the input reads as it did. -/
def fnFeedPutUptoRow : OpenClaim := { program := "ytknhfogblfogaaa", sum := "5018924e5367b246dd5984c173f76ba5825aee398a130be29488e28dcc7cb996", func := "loop.example/proxyframes/laws.FnFeedPut", spec := "fnFeedPut", unfollowed := true, recurses := true, apart := false, narrowed := true }
def FnFeedPutUptoSaid : Prop := fnFeedPutUptoRow.holds Try.pinned (OpenSpec.upto fnFeedPutSpec)

/-- 'laws.FnSniff', WHERE WHAT IT READS IS OF BULK AT MOST 1048576: true; the input reads as it did. -/
def fnSniffUptoRow : OpenClaim := { program := "ytknhfogblfogaaa", sum := "5018924e5367b246dd5984c173f76ba5825aee398a130be29488e28dcc7cb996", func := "loop.example/proxyframes/laws.FnSniff", spec := "fnSniff", unfollowed := true, recurses := true, apart := false, narrowed := true }
def FnSniffUptoSaid : Prop := fnSniffUptoRow.holds Try.pinned (OpenSpec.upto fnSniffSpec)

/-- 'laws.FnSniffBegin', WHERE WHAT IT READS IS OF BULK AT MOST 1048576: true; the input reads as it did. -/
def fnSniffBeginUptoRow : OpenClaim := { program := "ytknhfogblfogaaa", sum := "5018924e5367b246dd5984c173f76ba5825aee398a130be29488e28dcc7cb996", func := "loop.example/proxyframes/laws.FnSniffBegin", spec := "fnSniffBegin", unfollowed := true, recurses := true, apart := false, narrowed := true }
def FnSniffBeginUptoSaid : Prop := fnSniffBeginUptoRow.holds Try.pinned (OpenSpec.upto fnSniffBeginSpec)

/-- 'laws.FnSniffFirst', WHERE WHAT IT READS IS OF BULK AT MOST 1048576: true; the input reads as it did. -/
def fnSniffFirstUptoRow : OpenClaim := { program := "ytknhfogblfogaaa", sum := "5018924e5367b246dd5984c173f76ba5825aee398a130be29488e28dcc7cb996", func := "loop.example/proxyframes/laws.FnSniffFirst", spec := "fnSniffFirst", unfollowed := true, recurses := true, apart := false, narrowed := true }
def FnSniffFirstUptoSaid : Prop := fnSniffFirstUptoRow.holds Try.pinned (OpenSpec.upto fnSniffFirstSpec)

/-- 'laws.FnSniffOn', WHERE WHAT IT READS IS OF BULK AT MOST 1048576: true; the input reads as it did. -/
def fnSniffOnUptoRow : OpenClaim := { program := "ytknhfogblfogaaa", sum := "5018924e5367b246dd5984c173f76ba5825aee398a130be29488e28dcc7cb996", func := "loop.example/proxyframes/laws.FnSniffOn", spec := "fnSniffOn", unfollowed := true, recurses := true, apart := false, narrowed := true }
def FnSniffOnUptoSaid : Prop := fnSniffOnUptoRow.holds Try.pinned (OpenSpec.upto fnSniffOnSpec)

end Rows
end Go.Proofs.Ytknhfogblfogaaa
