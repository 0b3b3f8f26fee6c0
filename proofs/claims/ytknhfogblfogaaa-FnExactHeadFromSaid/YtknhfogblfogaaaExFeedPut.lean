/- The walk of laws.FnExactFeedPut. -/
import Derived.Test.YtknhfogblfogaaaFeed
namespace Go.Proofs.Ytknhfogblfogaaa
open Go.RowKit
theorem eqI_same {w : World} {v u : Value} {xs : List Int} (h : IntS w v xs) (hu : IntS w u xs) :
    Calls Try.prog 15 #[v, u] w fun e w' => e = .returned (.bool true) ∧ Gr w w' := by
  refine (eqIntS_c h hu).mono ?_
  rintro e w' ⟨rfl, hg⟩
  exact ⟨by simp, hg⟩
theorem feedPut_len (xs ys : List Int) : (feedPut xs ys).1.length ≤ 120 := by
  unfold feedPut; split
  · rename_i h; simp only [bv, Bool.and_eq_true, decide_eq_true_eq] at h; exact h.2
  · simp
end Go.Proofs.Ytknhfogblfogaaa
