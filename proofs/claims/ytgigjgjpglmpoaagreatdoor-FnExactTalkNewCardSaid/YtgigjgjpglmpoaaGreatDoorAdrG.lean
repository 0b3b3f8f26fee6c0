/- spec.AddressFrom. -/
import Derived.Test.YtgigjgjpglmpoaaGreatDoorLineV
import Derived.Test.YtgigjgjpglmpoaaGreatDoorGQ
namespace Go.Proofs.YtgigjgjpglmpoaaGreatDoor
open Go.RowKit
theorem two_of {ls : List Tx} (h : ls.length = 2) : ∃ a b, ls = [a, b] := by
  match ls, h with
  | [a, b], _ => exact ⟨a, b, rfl⟩
end Go.Proofs.YtgigjgjpglmpoaaGreatDoor
