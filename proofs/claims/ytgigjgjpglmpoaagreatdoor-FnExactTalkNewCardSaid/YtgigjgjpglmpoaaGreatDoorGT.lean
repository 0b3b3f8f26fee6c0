/- Draws of pairs and heads.
Draws of pairs and heads: two more.
Draws of lines.
laws.sameAddress, samePair: equal addresses, equal pairs. -/
import Derived.Test.YtgigjgjpglmpoaaGreatDoorGG
import Derived.Test.YtgigjgjpglmpoaaGreatDoorGI
import Derived.Test.YtgigjgjpglmpoaaGreatDoorGJ
import Derived.Test.YtgigjgjpglmpoaaGreatDoorGD
import Derived.Test.YtgigjgjpglmpoaaGreatDoorGB
import Derived.Test.YtgigjgjpglmpoaaGreatDoorGN
import Derived.Test.YtgigjgjpglmpoaaGreatDoorGH
namespace Go.Proofs.YtgigjgjpglmpoaaGreatDoor
open Go.RowKit
/-- A drawn pair, behind the whole draw. -/
def PairOut (w : World) (e : Ending) (w' : World) : Prop := ∃ (pq : Option Addr) (cq : Nat) (pq' : Option Addr) (cq' : Nat) (k p k' p' : Int) (s s' : ByteArray) (xs ys : List Int), e = .returned (.agg #[.int .i64 k, .slice pq xs.length cq, .string s, .int .i64 p, .int .i64 k', .slice pq' ys.length cq', .string s', .int .i64 p']) ∧ xs.length ≤ 4 ∧ ys.length ≤ 4 ∧ s.size ≤ 30 ∧ s'.size ≤ 30 ∧ IntS w' (.slice pq xs.length cq) xs ∧ IntS w' (.slice pq' ys.length cq') ys ∧ Gr w w'
/-- A drawn pair with drawn tags. -/
def HeadDraw (w : World) (e : Ending) (w' : World) : Prop := ∃ (pq : Option Addr) (cq : Nat) (pq' : Option Addr) (cq' : Nat) (k p k' p' : Int) (s s' : ByteArray) (xs ys : List Int) (v : Value) (ts : List Tag), e = .returned (.tuple #[.agg #[.int .i64 k, .slice pq xs.length cq, .string s, .int .i64 p, .int .i64 k', .slice pq' ys.length cq', .string s', .int .i64 p'], v]) ∧ xs.length ≤ 4 ∧ ys.length ≤ 4 ∧ s.size ≤ 30 ∧ s'.size ≤ 30 ∧ ts.length ≤ 5 ∧ (∀ t ∈ ts, t.2.length ≤ 17) ∧ IntS w' (.slice pq xs.length cq) xs ∧ IntS w' (.slice pq' ys.length cq') ys ∧ TagS w' v ts ∧ Gr w w'
end Go.Proofs.YtgigjgjpglmpoaaGreatDoor
namespace Go.Proofs.YtgigjgjpglmpoaaGreatDoor
open Go.RowKit
end Go.Proofs.YtgigjgjpglmpoaaGreatDoor
namespace Go.Proofs.YtgigjgjpglmpoaaGreatDoor
open Go.RowKit
end Go.Proofs.YtgigjgjpglmpoaaGreatDoor
namespace Go.Proofs.YtgigjgjpglmpoaaGreatDoor
open Go.RowKit
end Go.Proofs.YtgigjgjpglmpoaaGreatDoor
