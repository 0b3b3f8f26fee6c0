/- The walk of laws.FnExactTagsFrom. -/
import Derived.Test.YtknhfogblfogaaaMarkB
namespace Go.Proofs.Ytknhfogblfogaaa
open Go.RowKit
def FromIs (xs : List Int) (ok : Bool) (ts : List Tag) : Prop := (tagsFrom xs).isSome = ok ∧ (tagsFrom xs).getD [] = ts
theorem specTF {w : World} {v : Value} {xs : List Int} {ok : Bool} {ts : List Tag} (hR : Hid (FromIs xs ok ts)) (h : IntS w v xs) (hlen : xs.length ≤ 1048576) :
    Calls Try.prog 33 #[v] w fun e w' => ∃ v' T, e = .returned (.tuple #[v', .bool ok]) ∧ TagO w.heap.size T w' v' ts ∧ T ≤ w'.heap.size ∧ Gr w w' := by
  have := specTagsFrom_c h hlen
  unfold FromR at this
  rw [hR.out.1, hR.out.2] at this
  exact this
theorem implTF {w : World} {v : Value} {xs : List Int} {ok : Bool} {ts : List Tag} (hR : Hid (FromIs xs ok ts)) (h : IntS w v xs) (hlen : xs.length ≤ 1048576) :
    Calls Try.prog 39 #[v] w fun e w' => ∃ v' T, e = .returned (.tuple #[v', .bool ok]) ∧ TagO w.heap.size T w' v' ts ∧ T ≤ w'.heap.size ∧ Gr w w' := by
  have := implTagsFrom_c h hlen
  unfold FromR at this
  rw [hR.out.1, hR.out.2] at this
  exact this
theorem cnt_small {ts : List Tag} (h : ts.all tagOk = true) : cnt ts ≤ 17 * ts.length := by
  induction ts with
  | nil => simp [cnt]
  | cons t ts ih =>
    simp only [List.all_cons, Bool.and_eq_true] at h
    have h1 := ih h.2
    have h2 := h.1
    simp only [tagOk, Bool.and_eq_true, decide_eq_true_eq] at h2
    simp only [cnt, List.length_cons]
    omega
theorem fromIs_cnt {xs : List Int} {ok : Bool} {ts : List Tag} (h : FromIs xs ok ts) : cnt ts ≤ 68 := by
  obtain ⟨_, rfl⟩ := h
  cases hc : tagsFrom xs with
  | none => simp [cnt]
  | some us =>
    have hok : tagsOk us = true := by
      unfold tagsFrom at hc
      split at hc
      · split at hc
        · split at hc
          · rename_i h; cases hc; exact h
          · cases hc
        · cases hc
      · cases hc
    simp only [tagsOk, Bool.and_eq_true, decide_eq_true_eq] at hok
    have := cnt_small hok.2
    simp only [Option.getD_some]
    omega
end Go.Proofs.Ytknhfogblfogaaa
