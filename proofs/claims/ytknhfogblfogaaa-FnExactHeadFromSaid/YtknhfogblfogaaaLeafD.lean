/- Contracts: slices.Equal, Clone, Grow, Concat over ints. -/
import Derived.Test.YtknhfogblfogaaaLeafC
namespace Go.Proofs.Ytknhfogblfogaaa
open Go.RowKit
theorem Equal_c {w : World} {v u : Value} {xs ys : List Int} (h : IntS w v xs) (hu : IntS w u ys) :
    Calls Try.prog 61 #[v, u] w fun e w' => e = .returned (.bool (xs == ys)) ∧ Gr w w' := by
  obtain ⟨p, cap, rfl, hl1, hl2⟩ := h.form
  obtain ⟨q, caq, rfl, hm1, hm2⟩ := hu.form
  by_cases hlen : xs.length = ys.length
  · have HL := Lib.hid hlen
    have ht : ((xs.length : Int) != (ys.length : Int)) = false := by simp [hlen]
    clear hlen
    go_enter Try.func61, Try.ntmps61
    go_wp2_with fail
    go_loopw [13] (fun i wr => ∃ k : Nat, k ≤ xs.length ∧ i = .int .i64 k ∧ Hid (xs.take k = ys.take k) ∧ Gr w wr) (fun i _ => xs.length - (intOf i).toNat)
    case atStart => exact ⟨0, Nat.zero_le _, rfl, by simp [Hid], Gr.refl w⟩
    case round =>
      obtain ⟨k, hk, rfl, hall, hgr⟩ := hrel
      by_cases hlt : k < xs.length
      · obtain ⟨a, hix, hca⟩ := (h.kept hgr).ix hlt
        obtain ⟨b, hjx, hcb⟩ := (hu.kept hgr).ix (show k < ys.length by have := HL.out; omega)
        cases hb : (nth xs k != nth ys k)
        · go_wp2_with fail
          go_quiet (fail)
          go_wp2
          go_roundw
          case rel => exact ⟨k+1, by omega, by go_num, take_step hlt (by have := HL.out; omega) hall.out (by simpa using hb), hgr.drewN _⟩
          case measure => simp [intOf]; omega
        · go_wp2_with fail
          go_quiet (fail)
          go_wp2
          go_ret
          exact ⟨ret_bool (beq_false_nth (by simpa using hb)).symm, hgr.drewN _⟩
      · go_wp2
        go_ret
        exact ⟨ret_bool (beq_of_take HL.out (by have := hall.out; rwa [show k = xs.length by omega] at this)).symm, hgr⟩
  · have ht : ((xs.length : Int) != (ys.length : Int)) = true := by simp; omega
    have HL := Lib.hid hlen; clear hlen
    go_enter Try.func61, Try.ntmps61
    go_wp2
    go_ret
    exact ⟨ret_bool (by rw [eq_comm, beq_eq_false_iff_ne]; rintro rfl; exact HL.out rfl), Gr.refl w⟩

theorem clone_nil {w : World} {xs : List Int} (h : IntS w (.slice none 0 0) xs) : xs = [] := by
  obtain ⟨p, cap, hv, _⟩ := h.form
  simp only [Value.slice.injEq] at hv
  exact List.eq_nil_of_length_eq_zero hv.2.1.symm
theorem Clone_c {w : World} {v : Value} {xs : List Int} (h : IntS w v xs) (hb : xs.length ≤ 1000000000000) :
    Calls Try.prog 62 #[v] w fun e w' => ∃ v', e = .returned v' ∧ IntO w.heap.size 3 w' v' xs ∧ Gr w w' := by
  obtain ⟨i0, hi, hz, hs, hby⟩ := infoI
  obtain ⟨hl0, p, cap, rfl, hl1, hl2, hl3, hl4⟩ := id h
  cases p with
  | none =>
    obtain rfl := hl3 rfl
    obtain rfl : xs = [] := List.eq_nil_of_length_eq_zero (by omega)
    clear hl0 hl1 hl2 hl3 hl4
    have he : ∀ w1, (binOp .eql 22 (.slice none 0 0) (.slice none 0 0)).run Try.prog w1 = .ok (.bool true) w1 := fun w1 => by kernel_rfl
    go_enter Try.func62, Try.ntmps62
    go_wp2
    go_ret
    exact ⟨_, rfl, IntO.nil _ _ _, Gr.refl _⟩
  | some a =>
    clear hl0 hl1 hl2 hl3 hl4
    have he : ∀ w1, (binOp .eql 22 (.slice (some a) xs.length cap) (.slice none 0 0)).run Try.prog w1 = .ok (.bool false) w1 := fun w1 => Lib.run_eql_slice_nil w1 22 3 (some a) xs.length cap 0 0 uI
    go_enter Try.func62, Try.ntmps62
    go_wp2_with (at_builtin; refine wpl_append _ rfl _ _ _ rfl uI hi hz hs hby rfl (by decide) (by decide) rfl (Own.lit w #[] 0 (Nat.le_refl _) (by decide) rfl) rfl (Row.kept h ((Gr.refl w).alloc _)) (ints_one _) (by omega) (by simp) ?_; intro v' w1 ho hg1)
    go_ret
    refine ⟨v', rfl, ?_, ?_⟩
    · unfold IntO; simpa using ho
    · exact Below.trans ((Gr.refl w).alloc _) hg1
end Go.Proofs.Ytknhfogblfogaaa
