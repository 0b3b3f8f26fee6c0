/- Methods: spec's check and bytes. -/
import Derived.Test.YtknhfogblfogaaaOld
namespace Go.Proofs.Ytknhfogblfogaaa
open Go.RowKit
/-- A list has a number. -/
def hasI (xs : List Int) (n : Int) : Bool := xs.any fun x => x == n
theorem l5Has_c {w : World} {v : Value} {xs : List Int} (n : Int) (h : IntS w v xs) :
    Calls Try.prog 97 #[v, .int .i64 n] w fun e w' => e = .returned (.bool (hasI xs n)) ∧ w = w' := by
  obtain ⟨p, cap, rfl, _, _⟩ := h.form
  go_enter Try.func97, Try.ntmps97
  go_wp2_with fail
  go_loop [5] (fun i => ∃ k : Nat, k ≤ xs.length ∧ i = .int .i64 k ∧ Hid (hasI (xs.take k) n = false)) (fun i => xs.length - (intOf i).toNat)
  case atStart => exact ⟨0, Nat.zero_le _, rfl, by simp [Hid, hasI]⟩
  case round =>
    obtain ⟨k, hk, rfl, hall⟩ := hrel
    by_cases hlt : k < xs.length
    · obtain ⟨a, hix, hca⟩ := h.ix hlt
      cases hb : (nth xs k == n)
      · have HN : Hid (hasI (xs.take (k+1)) n = false) := by
          have := hall.out
          unfold hasI at this
          rw [Hid, hasI, take_any _ hlt, this]; simpa using hb
        go_wp2
        go_round
        case rel => exact ⟨k+1, by omega, by go_num, HN.out⟩
        case measure => simp [intOf]; omega
      · have HN : Hid (hasI xs n = true) := by rw [Hid, hasI]; exact any_true _ hlt hb
        go_wp2
        go_ret
        exact ⟨ret_bool HN.out.symm, rfl⟩
    · have h1 := hall.out
      rw [List.take_of_length_le (by omega)] at h1
      have H1 := Lib.hid h1
      clear h1
      go_wp2
      go_ret
      exact ⟨ret_bool H1.out.symm, rfl⟩
def methAt (xs : List Int) (k : Nat) : Bool := inB 0 254 (nth xs k) && !hasI (xs.take k) (nth xs k)
/-- Valid methods. -/
def methOk (xs : List Int) : Bool := (List.range xs.length).all (methAt xs) && inB 1 8 xs.length
theorem methOk_no {xs : List Int} {k : Nat} (hk : k < xs.length) (h : methAt xs k = false) : methOk xs = false := by
  unfold methOk
  rw [show (List.range xs.length).all (methAt xs) = false from by rw [List.all_eq_false]; exact ⟨k, by simpa using hk, by simp [h]⟩]
  rfl
theorem methOk_all {xs : List Int} (h : ∀ j, j < xs.length → methAt xs j = true) : methOk xs = inB 1 8 xs.length := by
  unfold methOk
  rw [show (List.range xs.length).all (methAt xs) = true from by rw [List.all_eq_true]; exact fun j hj => h j (by simpa using hj)]
  rfl
theorem methOk_len {xs : List Int} (h : methOk xs = true) : 1 ≤ xs.length ∧ xs.length ≤ 8 := by
  simp only [methOk, Bool.and_eq_true] at h
  have := inB_iff.1 h.2
  omega
set_option maxHeartbeats 1000000 in
theorem l5Ok_c {w : World} {v : Value} {xs : List Int} (h : IntS w v xs) :
    Calls Try.prog 83 #[v] w fun e w' => e = .returned (.bool (methOk xs)) ∧ Gr w w' := by
  obtain ⟨p, cap, rfl, _, _⟩ := h.form
  go_enter Try.func83, Try.ntmps83
  go_wp2_with fail
  go_loopw [3] (fun i wr => ∃ k : Nat, k ≤ xs.length ∧ i = .int .i64 k ∧ Hid (∀ j, j < k → methAt xs j = true) ∧ Gr w wr) (fun i _ => xs.length - (intOf i).toNat)
  case atStart => exact ⟨0, Nat.zero_le _, rfl, fun j hj => by omega, Gr.refl _⟩
  case round =>
    obtain ⟨k, hk, rfl, hall, hgr⟩ := hrel
    by_cases hlt : k < xs.length
    · obtain ⟨a, hix, hca0⟩ := h.ix hlt
      have hca := hgr.cell hca0
      obtain ⟨v1, hsl, hr1⟩ := h.pre hk
      have HM : Hid (methAt xs k = (inB 0 254 (nth xs k) && !hasI (xs.take k) (nth xs k))) := rfl
      have HNO := Lib.hid (fun h0 => methOk_no hlt h0)
      have hr1' := hr1.kept hgr
      generalize nth xs k = y at *
      generalize xs.take k = zs at *
      cases hb : inB 0 254 y
      · have HF : Hid (methOk xs = false) := Lib.hid (HNO.out (by rw [HM.out, hb]; rfl))
        go_wp2_with fail
        go_quiet (first | (go_at_call 58; exact Calls.quiet_of_same ((l6In_c _ _ _ _).mono (fun e w' h => ⟨h.1, h.2.symm⟩))) | (go_at_call 97; exact Calls.quiet_of_same ((l5Has_c _ (hr1'.kept (gr_drewN _ _))).mono (fun e w' h => ⟨h.1, h.2.symm⟩))))
        go_wp2
        go_ret
        exact ⟨ret_bool HF.out.symm, hgr.drewN _⟩
      · cases hh : hasI zs y
        · have HN : Hid (methAt xs k = true) := by rw [Hid, HM.out, hb, hh]; rfl
          go_wp2_with fail
          go_quiet (first | (go_at_call 58; exact Calls.quiet_of_same ((l6In_c _ _ _ _).mono (fun e w' h => ⟨h.1, h.2.symm⟩))) | (go_at_call 97; exact Calls.quiet_of_same ((l5Has_c _ (hr1'.kept (gr_drewN _ _))).mono (fun e w' h => ⟨h.1, h.2.symm⟩))))
          go_wp2
          go_roundw
          case rel =>
            refine ⟨k+1, by omega, by go_num, fun j hj => ?_, hgr.drewN _⟩
            by_cases e : j = k
            · rw [e]; exact HN.out
            · exact hall.out j (by omega)
          case measure => simp [intOf]; omega
        · have HF : Hid (methOk xs = false) := Lib.hid (HNO.out (by rw [HM.out, hb, hh]; rfl))
          go_wp2_with fail
          go_quiet (first | (go_at_call 58; exact Calls.quiet_of_same ((l6In_c _ _ _ _).mono (fun e w' h => ⟨h.1, h.2.symm⟩))) | (go_at_call 97; exact Calls.quiet_of_same ((l5Has_c _ (hr1'.kept (gr_drewN _ _))).mono (fun e w' h => ⟨h.1, h.2.symm⟩))))
          go_wp2
          go_ret
          exact ⟨ret_bool HF.out.symm, hgr.drewN _⟩
    · have HF := Lib.hid (methOk_all (fun j hj => hall.out j (by omega)))
      go_wp2_with fail
      (with_reducible refine (l6In_c _ _ _ _).mono ?_); rintro e w1 ⟨rfl, rfl⟩
      go_wp2
      go_ret
      exact ⟨ret_bool HF.out.symm, hgr⟩
def helloBytes (xs : List Int) : List Int := 5 :: (xs.length : Int) :: xs
theorem IntO.two {w : World} {x y : Int} {m : Nat} (hm : m = w.heap.size) : IntO w.heap.size 3 (w.alloc (.cells #[.int .i64 x, .int .i64 y] 3)) (.slice (some ⟨m, 0, none⟩) 2 2) [x, y] := by
  subst hm; exact Own.lit w #[.int .i64 x, .int .i64 y] 2 (Nat.le_refl _) (by decide) rfl
set_option maxHeartbeats 1000000 in
theorem HelloBytes_c {w : World} {v : Value} {xs : List Int} (h : IntS w v xs) :
    Calls Try.prog 68 #[v] w fun e w' => ∃ v', e = .returned (.tuple #[v', .bool (methOk xs)]) ∧ IntO w.heap.size 3 w' v' (if methOk xs = true then helloBytes xs else []) ∧ Gr w w' := by
  obtain ⟨p, cap, rfl, _, _⟩ := h.form
  cases hok : methOk xs
  · have HOK := Lib.hid hok
    clear hok
    go_enter Try.func68, Try.ntmps68
    go_wp2_with fail
    (with_reducible refine (l5Ok_c h).mono ?_); rintro e w1 ⟨rfl, g1⟩
    rw [HOK.out]
    go_wp2
    go_ret2
    exact ⟨_, rfl, (IntO.mt w1).mono g1.sz, g1.alloc _⟩
  · have HOK := Lib.hid hok
    have hl := methOk_len hok
    clear hok
    go_enter Try.func68, Try.ntmps68
    go_wp2_with fail
    (with_reducible refine (l5Ok_c h).mono ?_); rintro e w1 ⟨rfl, g1⟩
    rw [HOK.out]
    have hz := g1.sz
    go_wp2_with (at_builtin; refine wpl_appI rfl (.tmp 10) (.tmp 11) rfl rfl (IntO.two (w := w1) rfl) rfl ((h.kept g1).kept (gr_alloc _ _)) (by simp; omega) (by simp) ?_; intro v3 w3 o3 g3)
    go_ret2
    exact ⟨_, rfl, (IntO.mono o3 hz), (g1.alloc _).thenB (g3.mono hz)⟩
end Go.Proofs.Ytknhfogblfogaaa
