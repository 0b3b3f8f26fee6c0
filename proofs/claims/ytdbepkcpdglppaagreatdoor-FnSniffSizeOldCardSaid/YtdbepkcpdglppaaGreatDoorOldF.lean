/- Requests of the fourth version out of bytes: texts up to a zero, the check. -/
import Derived.Test.YtdbepkcpdglppaaGreatDoorByt
import Derived.Test.YtdbepkcpdglppaaGreatDoorGV
import Derived.Test.YtdbepkcpdglppaaGreatDoorHelloF
namespace Go.Proofs.YtdbepkcpdglppaaGreatDoor
open Go.RowKit
theorem Rs.until_go {f p : Nat} {xs : List Int} (h : p < xs.length) (hn : nth xs p ≠ 0) : Rs.until (f + 1) ⟨xs, p, false⟩ = (nth xs p :: (Rs.until f ⟨xs, p + 1, false⟩).1, (Rs.until f ⟨xs, p + 1, false⟩).2) := by
  have e := byte_at h
  rw [Rs.until, if_neg (by simp), e, if_neg hn]
theorem Rs.until_zero {f p : Nat} {xs : List Int} (h : p < xs.length) (hn : nth xs p = 0) : Rs.until (f + 1) ⟨xs, p, false⟩ = ([], ⟨xs, p + 1, false⟩) := by
  have e := byte_at h
  rw [Rs.until, if_neg (by simp), e, if_pos hn]
theorem Rs.until_end {f p : Nat} {xs : List Int} (h : xs.length ≤ p) : Rs.until (f + 1) ⟨xs, p, false⟩ = ([], ⟨xs, p, true⟩) := by
  have e := byte_end h
  rw [Rs.until, if_neg (by simp), e, if_pos rfl]
theorem Rs.take_xs (s : Rs) (n : Nat) : (s.take n).2.xs = s.xs := by unfold Rs.take; split <;> rfl
theorem Rs.byte_xs (s : Rs) : s.byte.2.xs = s.xs := Rs.take_xs s 1
theorem Rs.number_xs (s : Rs) (n : Nat) : (s.number n).2.xs = s.xs := Rs.take_xs s n
theorem Rs.expect_xs (s : Rs) (ys : List Int) : (s.expect ys).xs = s.xs := by
  unfold Rs.expect
  split
  · exact Rs.take_xs s _
  · exact Rs.take_xs s _
theorem Rs.until_xs : ∀ (f : Nat) (s : Rs), (Rs.until f s).2.xs = s.xs
  | 0, s => rfl
  | f + 1, s => by
    unfold Rs.until
    split
    · rfl
    · split
      · exact Rs.byte_xs s
      · rw [Rs.until_xs f, Rs.byte_xs]
theorem oS4_xs (xs : List Int) : (oS4 xs).xs = xs := by
  unfold oS4 oS3 oS2 oS1
  rw [Rs.take_xs, Rs.number_xs, Rs.byte_xs, Rs.expect_xs]
theorem oS5_xs (xs : List Int) : (oS5 xs).xs = xs := by unfold oS5; rw [Rs.until_xs, oS4_xs]
theorem bytes_snoc {xs : List Int} {c : Int} (h : bytesOnly xs) (h0 : 0 ≤ c ∧ c ≤ 255) : bytesOnly (xs ++ [c]) := by
  intro x hx
  simp only [List.mem_append, List.mem_singleton] at hx
  rcases hx with hx | rfl
  · exact h x hx
  · exact h0
/-- What until hands back. -/
def UntP (ys : List Int) (s1 : Rs) (g n : Nat) (w : World) (e : Ending) (w' : World) : Prop := e = .returned (.string (S (bt ys))) ∧ RdrAt w' g s1 ∧ D g w w' ∧ ys.length ≤ n
set_option maxHeartbeats 2000000 in
theorem until_c {w : World} {g F : Nat} {s s1 : Rs} (h : RdrAt w g s) (hF : s.xs.length < F) {ys : List Int} (E : Hid (Rs.until F s = (ys, s1))) :
    Calls Tryz.prog 91 #[.pointer (some ⟨g, 0, none⟩)] w (UntP ys s1 g s.xs.length w) := by
  obtain ⟨xs, pos, bad⟩ := s
  have hlt := h.lt
  obtain ⟨ok1, ok2, ok3⟩ := h.1
  simp only [] at ok1 ok2 hF
  go_enter Tryz.func91, Tryz.ntmps91
  go_wp2_with fail
  go_loopw [3] (fun v wr => ∃ zs : List Int, Hid (Rs.until F ⟨xs, pos, bad⟩ = (zs ++ (Rs.until (F - zs.length) ⟨xs, pos + zs.length, bad⟩).1, (Rs.until (F - zs.length) ⟨xs, pos + zs.length, bad⟩).2)) ∧ RdrAt wr g ⟨xs, pos + zs.length, bad⟩ ∧ D g w wr ∧ IntO w.heap.size 3 wr v zs ∧ Hid (bytesOnly zs)) (fun v _ => xs.length - vlen v)
  case atStart => exact ⟨[], by rw [Hid]; simp, h, D.refl _ _, IntO.nil _ _ _, by rw [Hid]; intro x hx; cases hx⟩
  case round =>
    obtain ⟨zs, hu, hR, hDD, HO, hz⟩ := hrel
    have hp := hR.1.1
    simp only [] at hp
    obtain ⟨q, cq, rfl⟩ := HO.len
    have k2 := hR.c2
    have hzl : zs.length ≤ xs.length := by omega
    obtain ⟨f, hf⟩ : ∃ f, F - zs.length = f + 1 := ⟨F - zs.length - 1, by omega⟩
    have hf1 : F - (zs.length + 1) = f := by omega
    have HF1 := Lib.hid hf1
    have HU : Hid (Rs.until F ⟨xs, pos, bad⟩ = (zs ++ (Rs.until (f + 1) ⟨xs, pos + zs.length, bad⟩).1, (Rs.until (f + 1) ⟨xs, pos + zs.length, bad⟩).2)) := Lib.hid (by rw [← hf]; exact hu.out)
    clear hu hf hf1
    cases bad
    · by_cases hlp : pos + zs.length < xs.length
      · have hb := byte_at hlp
        have hr255 : 0 ≤ nth xs (pos + zs.length) ∧ nth xs (pos + zs.length) ≤ 255 := bytes_nth (ok3 rfl) hlp
        have EB := Lib.hid hb
        clear hb
        by_cases h0 : nth xs (pos + zs.length) = 0
        · have HY : Hid (ys = zs ∧ s1 = ⟨xs, pos + zs.length + 1, false⟩) := Lib.hid (by
            have e := HU.out
            rw [Rs.until_zero hlp h0, E.out] at e
            injection e with e1 e2
            exact ⟨by simpa using e1, e2⟩)
          have h0' : (nth xs (pos + zs.length) == 0) = true := by rw [h0]; rfl
          clear h0
          generalize nth xs (pos + zs.length) = c at *
          go_wp2_with fail
          (with_reducible refine (byteE hR EB).mono ?_); rintro e w3 ⟨rfl, hR3, hd3⟩
          replace HO := IntO.keptD HO hd3 hlt
          replace hDD := hDD.trans hd3
          replace hR := hR3
          go_wp2_with fail
          (with_reducible refine (bytesText_c (IntO.s HO) hz.out (by omega)).mono ?_); rintro e w5 ⟨rfl, g5⟩
          go_wp2
          go_ret
          exact ⟨ret_str (by rw [HY.out.1]), by rw [HY.out.2]; exact hR.kept g5, hDD.trans (D.ofGr g5), by rw [HY.out.1]; omega⟩
        · have HN : Hid (Rs.until F ⟨xs, pos, false⟩ = ((zs ++ [nth xs (pos + zs.length)]) ++ (Rs.until f ⟨xs, pos + zs.length + 1, false⟩).1, (Rs.until f ⟨xs, pos + zs.length + 1, false⟩).2)) := Lib.hid (by
            rw [HU.out, Rs.until_go hlp h0]; simp)
          have h0' : (nth xs (pos + zs.length) == 0) = false := by simpa using h0
          have HB2 := Lib.hid (bytes_snoc hz.out hr255)
          clear h0 HU
          generalize nth xs (pos + zs.length) = c at *
          go_wp2_with fail
          (with_reducible refine (byteE hR EB).mono ?_); rintro e w3 ⟨rfl, hR3, hd3⟩
          have HO3 := IntO.keptD HO hd3 hlt
          have hDD3 := hDD.trans hd3
          have hz3 := hDD3.sz
          go_wp2_with (at_builtin; refine wpl_appI rfl (.tmp 14) (.tmp 16) rfl rfl (IntO.kept HO3 (gr_alloc _ _)) rfl (IntO.one _).s (by simp; omega) (by simp; omega) ?_; intro v5 w5 o5 h5)
          have hD5 : D g w w5 := D.thenB (hDD3.trans (D.ofGr (gr_alloc _ _))) h5
          have hR5 := (hR3.kept (gr_alloc _ _)).keptB h5 hlt
          have o5' : IntO w.heap.size 3 w5 v5 (zs ++ [c]) := o5
          obtain ⟨q5, c5, rfl⟩ := o5'.len
          clear h5 o5 hd3 hR3 HO3 hDD3
          go_roundw
          case rel => exact ⟨zs ++ [c], by
            have e := HN.out
            rw [Hid, List.length_append, List.length_singleton, HF1.out]
            exact e, by rw [List.length_append, List.length_singleton]; exact hR5, hD5, o5', HB2.out⟩
          case measure => simp [vlen]; omega
      · have hb := byte_end (show xs.length ≤ pos + zs.length by omega)
        have EB := Lib.hid hb
        have HY : Hid (ys = zs ∧ s1 = ⟨xs, pos + zs.length, true⟩) := Lib.hid (by
          have e := HU.out
          rw [Rs.until_end (by omega), E.out] at e
          injection e with e1 e2
          exact ⟨by simpa using e1, e2⟩)
        clear hb
        go_wp2_with fail
        (with_reducible refine (byteE hR EB).mono ?_); rintro e w3 ⟨rfl, hR3, hd3⟩
        replace HO := IntO.keptD HO hd3 hlt
        replace hDD := hDD.trans hd3
        replace hR := hR3
        go_wp2_with fail
        (with_reducible refine (bytesText_c (IntO.s HO) hz.out (by omega)).mono ?_); rintro e w5 ⟨rfl, g5⟩
        go_wp2
        go_ret
        exact ⟨ret_str (by rw [HY.out.1]), by rw [HY.out.2]; exact hR.kept g5, hDD.trans (D.ofGr g5), by rw [HY.out.1]; omega⟩
    · have HY : Hid (ys = zs ∧ s1 = ⟨xs, pos + zs.length, true⟩) := Lib.hid (by
        have e := HU.out
        rw [E.out, Rs.until_bad rfl] at e
        injection e with e1 e2
        exact ⟨by simpa using e1, e2⟩)
      go_wp2_with fail
      (with_reducible refine (bytesText_c (IntO.s HO) hz.out (by omega)).mono ?_); rintro e w5 ⟨rfl, g5⟩
      go_wp2
      go_ret
      exact ⟨ret_str (by rw [HY.out.1]), by rw [HY.out.2]; exact hR.kept g5, hDD.trans (D.ofGr g5), by rw [HY.out.1]; omega⟩
/-- The place of the next 0, or -1. -/
def endI (o : Option Nat) : Int := match o with | some z => (z : Int) | none => -1
end Go.Proofs.YtdbepkcpdglppaaGreatDoor
