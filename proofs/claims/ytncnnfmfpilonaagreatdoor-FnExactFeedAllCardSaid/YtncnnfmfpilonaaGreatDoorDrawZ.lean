/- Draws of bytes with frames. -/
import Derived.Test.YtncnnfmfpilonaaGreatDoorGJ
namespace Go.Proofs.YtncnnfmfpilonaaGreatDoor
open Go.RowKit
set_option maxHeartbeats 1000000 in
theorem DrawSniffSize_c {w : World} {v : Value} {bs : List Int} (h : ByteS w v bs) :
    Calls Tryz.prog 38 #[v] w fun e w' => ∃ (u : Value) (xs : List Int), e = .returned u ∧ xs.length ≤ 1000 ∧ IntO w.heap.size 3 w' u xs ∧ Gr w w' := by
  obtain ⟨p, cap, rfl, _, _⟩ := h.form
  go_enter Tryz.func38, Tryz.ntmps38
  go_wp2_with fail
  (with_reducible refine (l6Open_c h).mono ?_); rintro e w1 ⟨rfl, hr1, g1⟩
  have hz1 := g1.sz
  have hlt := hr1.lt
  go_wp2_with fail
  (with_reducible refine (l92Frame_c hr1 (by omega)).mono ?_); rintro e w2 ⟨v2, xs, rfl, hxl, ho2, hr2, hd2⟩
  go_wp2_with fail
  (with_reducible refine (l91Changed_c hr2 (by omega) hd2 ho2 hlt (by omega)).mono ?_); rintro e w4 ⟨v4, ys, rfl, hyl, ho4, hr4, hd4⟩
  go_wp2
  go_ret
  exact ⟨_, _, rfl, by omega, ho4.mono hz1, hd4.gr g1 (Nat.le_refl _)⟩
theorem DrawFeedTake_c {w : World} {v : Value} {bs : List Int} (h : ByteS w v bs) :
    Calls Tryz.prog 40 #[v] w fun e w' => ∃ (u : Value) (xs : List Int), e = .returned u ∧ xs.length ≤ 1000 ∧ IntO w.heap.size 3 w' u xs ∧ Gr w w' := by
  obtain ⟨p, cap, rfl, _, _⟩ := h.form
  go_enter Tryz.func40, Tryz.ntmps40
  go_wp2_with fail
  (with_reducible refine (DrawSniffSize_c h).mono ?_); rintro e w1 ⟨u, xs, rfl, hx, ho, hg⟩
  go_wp2
  go_ret
  exact ⟨_, _, rfl, hx, ho, hg⟩
set_option maxHeartbeats 2000000 in
theorem DrawFeedAll_c {w : World} {v : Value} {bs : List Int} (h : ByteS w v bs) :
    Calls Tryz.prog 42 #[v] w fun e w' => ∃ (u : Value) (xs : List Int), e = .returned u ∧ xs.length ≤ 1000 ∧ IntO w.heap.size 3 w' u xs ∧ Gr w w' := by
  obtain ⟨p, cap, rfl, _, _⟩ := h.form
  go_enter Tryz.func42, Tryz.ntmps42
  go_wp2_with fail
  (with_reducible refine (l6Open_c h).mono ?_); rintro e w1 ⟨rfl, hr1, g1⟩
  have hz1 := g1.sz
  have hlt := hr1.lt
  have hmt := IntO.mt w1
  have hd0 : D w.heap.size w1 (w1.alloc (.cells #[] 3)) := D.ofGr (gr_alloc w1 _)
  go_wp2_with fail
  (with_reducible refine (pick_c (hr1.kept (gr_alloc w1 _)) (by omega) _ (by omega) (by omega)).mono ?_); rintro e w2 ⟨c, rfl, hc0, hc1, hr2, hd2⟩
  have hmt2 := IntO.keptD hmt hd2 hlt
  have hD2 := hd0.trans hd2
  clear hmt hd0 hd2 hr1
  go_wp2_with fail
  go_loopw [4, 6] (fun v i wr => ∃ (k m : Nat) (ys : List Int), i = .int .i64 k ∧ k ≤ 4 ∧ m ≤ 10 + 90 * k ∧ ys.length ≤ 130 * k ∧ RdAt wr w.heap.size m ∧ IntO w1.heap.size 3 wr v ys ∧ D w.heap.size w1 wr) (fun _ i _ => 4 - (intOf i).toNat)
  case atStart => exact ⟨0, 1, [], rfl, by omega, by omega, by simp, hr2, hmt2, hD2⟩
  case round =>
    obtain ⟨k, m, ys, rfl, hk, hm, hyl, hr, ho, hd⟩ := hrel
    clear hr2 hmt2 hD2
    by_cases hlc : (k : Int) < c
    · go_wp2_with fail
      (with_reducible refine (l92Frame_c hr (by omega)).mono ?_); rintro e w3 ⟨v3, zs, rfl, hzl, ho3, hr3, hd3⟩
      have hoA := IntO.keptD ho hd3 hlt
      have hD3 := hd.trans hd3
      have hz3 := hD3.sz
      go_wp2_with (at_builtin; refine wpl_appI rfl (.tmp 17) (.tmp 19) rfl rfl hoA rfl ho3.s (by omega) hz3 ?_; intro v5 w5 o5 h5)
      have hR5 := hr3.keptB h5 hlt
      have hD5 := D.thenB hD3 h5
      go_roundw
      case measure => simp [intOf]; omega
      case rel => exact ⟨k + 1, m + 80, ys ++ zs, by simp, by omega, by omega, by rw [List.length_append]; omega, hR5, o5, hD5⟩
    · go_wp2_with fail
      (with_reducible refine (l91Changed_c hr (by omega) hd ho hlt (by omega)).mono ?_); rintro e w4 ⟨v4, us, rfl, hul, ho4, hr4, hd4⟩
      go_wp2
      go_ret
      exact ⟨_, _, rfl, by omega, ho4.mono hz1, hd4.gr g1 (Nat.le_refl _)⟩
end Go.Proofs.YtncnnfmfpilonaaGreatDoor
