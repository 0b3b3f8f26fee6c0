/- Contracts: both FeedPut. -/
import Derived.Test.YtknhfogblfogaaaLeafF
namespace Go.Proofs.Ytknhfogblfogaaa
open Go.RowKit
theorem bv_append (xs ys : List Int) : bv (xs ++ ys) = (bv xs && (bv ys && decide (xs.length + ys.length ≤ 120))) := by
  simp only [bv, List.all_append, List.length_append]
  cases xs.all isB <;> cases ys.all isB <;> simp
  rw [Bool.eq_iff_iff]; simp; omega
def feedPut (xs ys : List Int) : List Int × Bool := if bv (xs ++ ys) then (xs ++ ys, true) else ([], false)
theorem IntSS.lit2 {w : World} {a b : Value} {xs ys : List Int} (ha : IntS w a xs) (hb : IntS w b ys) :
    IntSS (w.alloc (.cells #[a, b] 22)) (.slice (some ⟨w.heap.size, 0, none⟩) 2 2) [xs, ys] := by
  refine ⟨[a, b], (Own.lit (B := w.heap.size) w #[a, b] 2 (Nat.le_refl _) (by decide) rfl).row, fun k hk => ?_⟩
  have hg : Gr w (w.alloc (.cells #[a, b] 22)) := (Gr.refl w).alloc _
  match k, hk with
  | 0, _ => exact ha.kept hg
  | 1, _ => exact hb.kept hg
theorem specFeedPut_c {w : World} {v u : Value} {xs ys : List Int} (h : IntS w v xs) (hu : IntS w u ys) (hx : xs.length ≤ 10000000) (hy : ys.length ≤ 10000000) :
    Calls Try.prog 23 #[v, u] w fun e w' => ∃ v', e = .returned (.tuple #[v', .bool (feedPut xs ys).2]) ∧ IntO w.heap.size 3 w' v' (feedPut xs ys).1 ∧ Gr w w' := by
  have hg0 : Gr w (w.alloc (.cells #[] 3)) := gr_alloc w _
  cases hb : bv (xs ++ ys)
  · have e1 : feedPut xs ys = ([], false) := by simp [feedPut, hb]
    rw [e1]; clear e1
    go_enter Try.func23, Try.ntmps23
    go_wp2_with (first | (at_builtin; refine wpl_appI rfl (.tmp 7) (.tmp 8) rfl rfl (IntO.mt w) rfl (h.kept hg0) (by simp; omega) (by simp) ?_; intro v1 w1 ho1 hg1) | (at_builtin; refine wpl_appI rfl (.tmp 9) (.tmp 10) rfl rfl ho1 rfl (hu.kept (Below.trans hg0 hg1)) (by simp; omega) (by have := hg1.size; simp at this; omega) ?_; intro v2 w2 ho2 hg2) | (go_at_call 30; (with_reducible refine (specBytesValid_c ho2.s).mono ?_); rintro e w' ⟨rfl, rfl⟩))
    go_ret2
    exact ⟨_, rfl, (IntO.mt w2).mono ((hg0.thenBB hg1 hg2).sz), (hg0.thenBB hg1 hg2).alloc _⟩
  · have e1 : feedPut xs ys = (xs ++ ys, true) := by simp [feedPut, hb]
    rw [e1]; clear e1
    go_enter Try.func23, Try.ntmps23
    go_wp2_with (first | (at_builtin; refine wpl_appI rfl (.tmp 7) (.tmp 8) rfl rfl (IntO.mt w) rfl (h.kept hg0) (by simp; omega) (by simp) ?_; intro v1 w1 ho1 hg1) | (at_builtin; refine wpl_appI rfl (.tmp 9) (.tmp 10) rfl rfl ho1 rfl (hu.kept (Below.trans hg0 hg1)) (by simp; omega) (by have := hg1.size; simp at this; omega) ?_; intro v2 w2 ho2 hg2) | (go_at_call 30; (with_reducible refine (specBytesValid_c ho2.s).mono ?_); rintro e w' ⟨rfl, rfl⟩))
    go_ret2
    exact ⟨_, rfl, by simpa using ho2, hg0.thenBB hg1 hg2⟩

theorem implFeedPut_c {w : World} {v u : Value} {xs ys : List Int} (h : IntS w v xs) (hu : IntS w u ys) (hx : xs.length ≤ 10000000) (hy : ys.length ≤ 10000000) :
    Calls Try.prog 22 #[v, u] w fun e w' => ∃ v', e = .returned (.tuple #[v', .bool (feedPut xs ys).2]) ∧ IntO w.heap.size 3 w' v' (feedPut xs ys).1 ∧ Gr w w' := by
  have hbv := bv_append xs ys
  cases hb : bv xs
  · have e1 : feedPut xs ys = ([], false) := by simp [feedPut, hbv, hb]
    rw [e1]; clear e1 hbv
    go_enter Try.func22, Try.ntmps22
    go_wp2_with (go_at_call 25; (with_reducible refine (implBytesValid_c h).mono ?_); rintro e w' ⟨rfl, rfl⟩)
    go_ret2
    exact ⟨_, rfl, IntO.nil _ _ _, Gr.refl _⟩
  · cases hc : bv ys
    · have e1 : feedPut xs ys = ([], false) := by simp [feedPut, hbv, hc]
      rw [e1]; clear e1 hbv
      go_enter Try.func22, Try.ntmps22
      go_wp2_with (first | (go_at_call 25; (with_reducible refine (implBytesValid_c h).mono ?_); rintro e w' ⟨rfl, rfl⟩) | (go_at_call 25; (with_reducible refine (implBytesValid_c hu).mono ?_); rintro e w' ⟨rfl, rfl⟩))
      go_ret2
      exact ⟨_, rfl, IntO.nil _ _ _, Gr.refl _⟩
    · obtain ⟨p, cap, rfl, _, _⟩ := h.form
      obtain ⟨q, caq, rfl, _, _⟩ := hu.form
      by_cases hn : xs.length + ys.length ≤ 120
      · have e1 : feedPut xs ys = (xs ++ ys, true) := by simp [feedPut, hbv, hb, hc, hn]
        rw [e1]; clear e1 hbv
        have hn1 : ((xs.length : Int) + ys.length ≤ 120) := by omega
        go_enter Try.func22, Try.ntmps22
        go_wp2_with (first | (go_at_call 25; (with_reducible refine (implBytesValid_c h).mono ?_); rintro e w' ⟨rfl, rfl⟩) | (go_at_call 25; (with_reducible refine (implBytesValid_c hu).mono ?_); rintro e w' ⟨rfl, rfl⟩) | (go_at_call 49; (with_reducible refine (Concat_c (IntSS.lit2 h hu) (by simp [total]; omega)).mono ?_); rintro e w1 ⟨v1, rfl, ho1, hg1⟩))
        go_ret2
        exact ⟨_, rfl, by simpa using ho1.mono (by simp), (gr_alloc w _).trans hg1⟩
      · have e1 : feedPut xs ys = ([], false) := by simp [feedPut, hbv, hn]
        rw [e1]; clear e1 hbv
        have hn1 : ¬ ((xs.length : Int) + ys.length ≤ 120) := by omega
        go_enter Try.func22, Try.ntmps22
        go_wp2_with (first | (go_at_call 25; (with_reducible refine (implBytesValid_c h).mono ?_); rintro e w' ⟨rfl, rfl⟩) | (go_at_call 25; (with_reducible refine (implBytesValid_c hu).mono ?_); rintro e w' ⟨rfl, rfl⟩))
        go_ret2
        exact ⟨_, rfl, IntO.nil _ _ _, Gr.refl _⟩
theorem specFeedPut_r {w : World} {v u : Value} {xs ys zs : List Int} {ok : Bool} (hr : Hid (feedPut xs ys = (zs, ok))) (h : IntS w v xs) (hu : IntS w u ys) (hx : xs.length ≤ 10000000) (hy : ys.length ≤ 10000000) :
    Calls Try.prog 23 #[v, u] w fun e w' => ∃ v', e = .returned (.tuple #[v', .bool ok]) ∧ IntO w.heap.size 3 w' v' zs ∧ Gr w w' := by
  have := specFeedPut_c h hu hx hy; rwa [hr.out] at this
theorem implFeedPut_r {w : World} {v u : Value} {xs ys zs : List Int} {ok : Bool} (hr : Hid (feedPut xs ys = (zs, ok))) (h : IntS w v xs) (hu : IntS w u ys) (hx : xs.length ≤ 10000000) (hy : ys.length ≤ 10000000) :
    Calls Try.prog 22 #[v, u] w fun e w' => ∃ v', e = .returned (.tuple #[v', .bool ok]) ∧ IntO w.heap.size 3 w' v' zs ∧ Gr w w' := by
  have := implFeedPut_c h hu hx hy; rwa [hr.out] at this
end Go.Proofs.Ytknhfogblfogaaa
