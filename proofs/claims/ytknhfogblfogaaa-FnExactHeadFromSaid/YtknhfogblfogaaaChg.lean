/- Bytes, changed by a draw. -/
import Derived.Test.YtknhfogblfogaaaDrawB
namespace Go.Proofs.Ytknhfogblfogaaa
open Go.RowKit
theorem IntO.preO {B : Nat} {w : World} {v : Value} {xs : List Int} (h : IntO B 3 w v xs) {k : Nat} (hk : k ≤ xs.length) :
    ∃ v' : Value, (∀ w1, (Instr.slice 22 v none (some (.int .i64 (k : Int))) none).run Try.prog w1 = .ok v' w1) ∧ IntO B 3 w v' (xs.take k) := by
  obtain ⟨i0, hi, _, hs, _⟩ := infoI
  obtain ⟨v', h1, h2⟩ := Own.pre h uI hi hs hk
  refine ⟨v', h1, ?_⟩
  unfold IntO
  rw [← ints_take, List.length_take, Nat.min_eq_left hk]
  simpa using h2
/-- Changed bytes. -/
def DrewC (B g m n : Nat) (w0 : World) (e : Ending) (w' : World) : Prop := ∃ v ys, e = .returned v ∧ ys.length ≤ n + 3 ∧ IntO B 3 w' v ys ∧ RdAt w' g (m + 20) ∧ D g w0 w'
set_option maxHeartbeats 1000000 in
theorem l91Changed_c {w0 w : World} {g m : Nat} {v : Value} {xs : List Int} (h : RdAt w g m) (hm : m ≤ 50000) (hD : D g w0 w) (ho : IntO w0.heap.size 3 w v xs) (hlt : g < w0.heap.size) (hl : xs.length ≤ 100000) :
    Calls Try.prog 53 #[.pointer (some ⟨g, 0, none⟩), v] w (DrewC w0.heap.size g m xs.length w0) := by
  obtain ⟨p, cap, rfl⟩ := ho.len
  by_cases hz : xs.length = 0
  · have hxs : xs = [] := List.eq_nil_of_length_eq_zero hz
    subst hxs
    clear hz
    have h3 : IntO w0.heap.size 3 (w.alloc (.cells #[.int .i64 5, .int .i64 1, .int .i64 0] 3)) (.slice (some ⟨w.heap.size, 0, none⟩) 3 3) [5, 1, 0] :=
      (Own.lit (B := w.heap.size) w #[.int .i64 5, .int .i64 1, .int .i64 0] 3 (Nat.le_refl _) (by decide) rfl : IntO w.heap.size 3 _ _ [5, 1, 0]).mono hD.sz
    have hr := h.alloc (.cells #[.int .i64 5, .int .i64 1, .int .i64 0] 3)
    have hd := hD.alloc (.cells #[.int .i64 5, .int .i64 1, .int .i64 0] 3)
    go_enter Try.func53, Try.ntmps53
    go_wp2
    go_ret
    exact ⟨_, _, rfl, by simp, h3, hr.more (by omega), hd⟩
  · have hz' : (((xs.length : Int) == 0) = false) := beq_eq_false_iff_ne.2 (by omega)
    have hpos : 0 < xs.length := by omega
    clear hz
    go_enter Try.func53, Try.ntmps53
    go_wp2_with fail
    (with_reducible refine (pick_c h (by omega) _ (by omega) (by omega)).mono ?_); rintro e w1 ⟨k, rfl, hk0, hk1, hr1, hd1⟩
    obtain ⟨k, rfl⟩ := Int.eq_ofNat_of_zero_le hk0
    go_wp2_with fail
    (with_reducible refine (pick_c hr1 (by omega) _ (by omega) (by omega)).mono ?_); rintro e w2 ⟨c, rfl, hc0, hc1, hr2, hd2⟩
    have ho2 := (ho.keptD hd1 hlt).keptD hd2 hlt
    have hD2 := (hD.trans hd1).trans hd2
    have hs2 := hD2.sz
    clear ho hD hd1 hd2 h hr1
    have h7 : c = 0 ∨ c = 1 ∨ c = 2 ∨ c = 3 ∨ c = 4 ∨ c = 5 ∨ c = 6 := by omega
    rcases h7 with rfl | rfl | rfl | rfl | rfl | rfl | rfl
    · go_wp2_with fail
      (with_reducible refine (pick_c hr2 (by omega) _ (by omega) (by omega)).mono ?_); rintro e w3 ⟨x, rfl, hx0, hx1, hr3, hd3⟩
      have ho3 := ho2.keptD hd3 hlt
      have hD3 := hD2.trans hd3
      obtain ⟨b, hjx, hb1, hb2, hcb, hfb, hob, hset⟩ := ho3.ix (show k < xs.length by omega)
      have HOB := Lib.hid hob
      clear hob hd3 hD2 ho2 hr2
      go_wp2
      go_ret
      exact ⟨_, _, rfl, by rw [List.length_set]; omega, hset _, (hr3.keptB (Below.setCell (Below.refl _ _) hb1 _) hlt).more (by omega), hD3.thenB (Below.setCell (Below.refl _ _) hb1 _)⟩
    · obtain ⟨v', hsl, ho3⟩ := ho2.preO (show k ≤ xs.length by omega)
      go_wp2
      go_ret
      exact ⟨_, _, rfl, by rw [List.length_take]; omega, ho3, hr2.more (by omega), hD2⟩
    · go_wp2_with fail
      (with_reducible refine (l91Bytes_c hr2 (by omega) 3 3 rfl (by omega)).mono ?_); rintro e w3 ⟨d, ys, rfl, hyl, hod, hr3, hd3⟩
      have ho3 := ho2.keptD hd3 hlt
      have hD3 := hD2.trans hd3
      have hs3 := hD3.sz
      obtain ⟨pd, cd, rfl⟩ := hod.len
      clear hd3 hD2 ho2 hr2
      go_wp2_with (at_builtin; refine wpl_appI rfl (.tmp 31) (.tmp 33) rfl rfl ho3 rfl hod.s (by omega) hs3 ?_; intro v5 w5 ho5 hg5; have hD5 : D g w0 w5 := hD3.thenB hg5; have hr5 := hr3.keptB hg5 hlt)
      go_ret
      exact ⟨_, _, rfl, by rw [List.length_append]; omega, ho5, hr5.more (by omega), hD5⟩
    · go_wp2_with fail
      (with_reducible refine (l91Bytes_c hr2 (by omega) 3 3 rfl (by omega)).mono ?_); rintro e w3 ⟨d, ys, rfl, hyl, hod, hr3, hd3⟩
      have ho3 := ho2.keptD hd3 hlt
      have hD3 := hD2.trans hd3
      have hs3 := hD3.sz
      obtain ⟨pd, cd, rfl⟩ := hod.len
      clear hd3 hD2 ho2 hr2
      go_wp2_with (at_builtin; refine wpl_appI rfl (.tmp 31) (.tmp 33) rfl rfl ho3 rfl hod.s (by omega) hs3 ?_; intro v5 w5 ho5 hg5; have hD5 : D g w0 w5 := hD3.thenB hg5; have hr5 := hr3.keptB hg5 hlt)
      go_ret
      exact ⟨_, _, rfl, by rw [List.length_append]; omega, ho5, hr5.more (by omega), hD5⟩
    all_goals
      go_wp2
      go_ret
      exact ⟨_, _, rfl, by omega, ho2, hr2.more (by omega), hD2⟩
end Go.Proofs.Ytknhfogblfogaaa
