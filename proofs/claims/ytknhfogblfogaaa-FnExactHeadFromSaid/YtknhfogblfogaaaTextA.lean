/- spec.l1Text: the bytes of a text. -/
import Derived.Test.YtknhfogblfogaaaTagsH
namespace Go.Proofs.Ytknhfogblfogaaa
open Go.RowKit
theorem l1Text_c (w : World) (s : ByteArray) (hb : s.size ≤ 1000000000000) :
    Calls Try.prog 70 #[.string s] w fun e w' => ∃ v', e = .returned v' ∧ IntO w.heap.size 3 w' v' (sb s) ∧ Gr w w' := by
  have hmt := IntO.mt w
  have hg0 := gr_alloc w (.cells #[] 3)
  go_enter Try.func70, Try.ntmps70
  go_wp2_with fail
  go_loopw [3, 4] (fun v i wr => ∃ (k : Nat) (ys : List Int), k ≤ s.size ∧ i = .int .i64 k ∧ Hid (ys = (sb s).take k) ∧ Gr w wr ∧ IntO w.heap.size 3 wr v ys) (fun _ i _ => s.size - (intOf i).toNat)
  case atStart => exact ⟨0, [], Nat.zero_le _, rfl, by simp [Hid], hg0, hmt⟩
  case round =>
    obtain ⟨k, ys, hk, rfl, hys, hgr, ho⟩ := hrel
    clear hmt hg0
    by_cases hlt : k < s.size
    · have hyl : ys.length ≤ 1000000000000 - 1 := by rw [hys.out, List.length_take]; omega
      have hz := hgr.size
      go_wp2_with (at_builtin; refine wpl_appI rfl (.tmp 12) (.tmp 17) rfl rfl (ho.kept (gr_alloc _ _)) rfl (IntO.one _).s (by simp; omega) (by simp; omega) ?_; intro v5 w5 ho5 hg5; have hG5 : Gr w w5 := (hgr.alloc _).thenB hg5)
      go_roundw
      case rel => exact ⟨k+1, _, by omega, by go_num, by rw [wrap_sb hlt, hys.out]; exact (take_snoc' (by rw [sb_length]; exact hlt)).symm, hG5, ho5⟩
      case measure => simp [intOf]; omega
    · go_wp2
      go_ret
      have e : ys = sb s := by rw [hys.out, List.take_of_length_le (by rw [sb_length]; omega)]
      exact ⟨_, rfl, e ▸ ho, hgr⟩
end Go.Proofs.Ytknhfogblfogaaa
