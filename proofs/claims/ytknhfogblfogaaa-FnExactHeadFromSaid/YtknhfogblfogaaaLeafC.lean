/- Contracts: slices.IndexFunc, ContainsFunc, Equal, Clone, Grow, Concat over ints; impl.BytesValid; both FeedPut. -/
import Derived.Test.YtknhfogblfogaaaLeafB
namespace Go.Proofs.Ytknhfogblfogaaa
open Go.RowKit
theorem take_any (p : Int → Bool) {xs : List Int} {k : Nat} (h : k < xs.length) : (xs.take (k+1)).any p = ((xs.take k).any p || p (nth xs k)) := by
  rw [List.take_succ_eq_append_getElem h, nth_eq h, List.any_append]; simp
theorem any_true (p : Int → Bool) {xs : List Int} {k : Nat} (h : k < xs.length) (hp : p (nth xs k) = true) : xs.any p = true := by
  rw [List.any_eq_true]; exact ⟨xs[k], List.getElem_mem h, by rw [nth_eq h] at hp; exact hp⟩

/-- A function value without captures that tells something of an int. -/
def Tells (g : Nat) (p : Int → Bool) : Prop := (∀ args w, (callFunc g args).run Try.prog w = .ok (.enter g args) w) ∧ ∀ (x : Int) (w : World), Calls Try.prog g #[.int .i64 x] w fun e w' => e = .returned (.bool (p x)) ∧ w = w'

theorem IndexFuncI_c {w : World} {v : Value} {xs : List Int} (h : IntS w v xs) (g : Nat) (p : Int → Bool) (hg : Tells g p) :
    Calls Try.prog 77 #[v, .func (.func g) #[] #[]] w fun e w' => (∃ r : Int, decide (0 ≤ r) = xs.any p ∧ e = .returned (.int .i64 r)) ∧ w = w' := by
  obtain ⟨q, cap, rfl, hl1, hl2⟩ := h.form
  obtain ⟨hcf, hg⟩ := hg
  have HG := Lib.hid hg; clear hg
  go_enter Try.func77, Try.ntmps77
  go_wp2_with fail
  go_loop [8] (fun i => ∃ k : Nat, k ≤ xs.length ∧ i = .int .i64 k ∧ Hid ((xs.take k).any p = false)) (fun i => xs.length - (intOf i).toNat)
  case atStart => exact ⟨0, Nat.zero_le _, rfl, by simp [Hid]⟩
  case round =>
    obtain ⟨k, hk, rfl, hall⟩ := hrel
    by_cases hlt : k < xs.length
    · obtain ⟨a, hix, hca⟩ := h.ix hlt
      cases hb : p (nth xs k)
      · have HB := Lib.hid hb; clear hb
        go_wp2_with fail
        refine (HG.out _ _).mono ?_
        rintro e w' ⟨rfl, rfl⟩
        rw [HB.out]
        go_wp2
        go_round
        case rel => exact ⟨k+1, by omega, by go_num, by rw [Hid, take_any p hlt, hall.out, HB.out]; rfl⟩
        case measure => simp [intOf]; omega
      · have HB := Lib.hid hb; clear hb
        go_wp2_with fail
        refine (HG.out _ _).mono ?_
        rintro e w' ⟨rfl, rfl⟩
        rw [HB.out]
        go_wp2
        go_ret
        exact ⟨⟨k, by rw [any_true p hlt HB.out]; simp, rfl⟩, rfl⟩
    · go_wp2
      go_ret
      exact ⟨⟨-1, by have := hall.out; rw [List.take_of_length_le (by omega)] at this; rw [this]; rfl, rfl⟩, rfl⟩

theorem ContainsFuncI_c {w : World} {v : Value} {xs : List Int} (h : IntS w v xs) (g : Nat) (p : Int → Bool) (hg : Tells g p) :
    Calls Try.prog 50 #[v, .func (.func g) #[] #[]] w fun e w' => e = .returned (.bool (xs.any p)) ∧ w = w' := by
  go_enter Try.func50, Try.ntmps50
  go_wp2_with fail
  refine (IndexFuncI_c h g p hg).mono ?_
  rintro e w' ⟨⟨r, hr, rfl⟩, rfl⟩
  have HR := Lib.hid hr; clear hr
  go_wp2
  go_ret
  exact ⟨ret_bool HR.out, rfl⟩

theorem notByte_c : Tells 51 (fun x => !isB x) := by
  refine ⟨fun args w => by kernel_rfl, fun x w => ?_⟩
  go_enter Try.func51, Try.ntmps51
  go_wp2_with (go_at_call 52; refine (within_c _ _ _ _).mono ?_; rintro e w' ⟨rfl, rfl⟩)
  go_ret
  exact ⟨rfl, rfl⟩
theorem any_not_all (xs : List Int) : xs.any (fun x => !isB x) = !xs.all isB := by
  rw [Bool.eq_iff_iff]; simp
theorem implBytesValid_c {w : World} {v : Value} {xs : List Int} (h : IntS w v xs) :
    Calls Try.prog 25 #[v] w fun e w' => e = .returned (.bool (bv xs)) ∧ w = w' := by
  have hf := h.form
  obtain ⟨p, cap, hv, hl1, hl2⟩ := hf
  by_cases hn : xs.length ≤ 120
  · subst hv
    go_enter Try.func25, Try.ntmps25
    go_wp2_with (go_at_call 50; refine (ContainsFuncI_c h _ _ notByte_c).mono ?_; rintro e w' ⟨rfl, rfl⟩)
    go_ret
    exact ⟨ret_bool (by rw [bv, any_not_all]; simp; intro _; omega), rfl⟩
  · have hd : decide ((xs.length : Int) ≤ 120) = false := by simp; omega
    subst hv
    go_enter Try.func25, Try.ntmps25
    go_wp2
    go_ret
    exact ⟨ret_bool (by rw [bv, Bool.eq_iff_iff]; simp; omega), rfl⟩
end Go.Proofs.Ytknhfogblfogaaa
