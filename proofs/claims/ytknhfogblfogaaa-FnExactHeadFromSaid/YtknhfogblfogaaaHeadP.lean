/- Heads out of bytes: the plain law. -/
import Derived.Test.YtknhfogblfogaaaSniffP
namespace Go.Proofs.Ytknhfogblfogaaa
open Go.RowKit
/-- The bytes that are told are read. -/
def Rs.expect (s : Rs) (ys : List Int) : Rs := if (s.take ys.length).1 == ys then (s.take ys.length).2 else { (s.take ys.length).2 with bad := true }
theorem Rs.take_good {s : Rs} {n : Nat} (h : (s.take n).2.bad = false) : s.bad = false ∧ n ≤ s.xs.length - s.pos ∧ s.take n = ((s.xs.drop s.pos).take n, { s with pos := s.pos + n }) := by
  unfold Rs.take at h ⊢
  split at h
  · cases h
  · rename_i hc
    refine ⟨by simpa using h, by omega, ?_⟩
    rw [if_neg hc]
theorem Rs.take_fine {s : Rs} {n : Nat} (h : s.bad = false) (hn : n ≤ s.xs.length - s.pos) : s.take n = ((s.xs.drop s.pos).take n, { s with pos := s.pos + n }) := by
  unfold Rs.take
  rw [if_neg (by rw [h]; simp; omega)]
theorem Rs.expect_good {s : Rs} {ys : List Int} (h : (s.expect ys).bad = false) : (s.take ys.length).1 = ys ∧ s.expect ys = (s.take ys.length).2 := by
  unfold Rs.expect at h ⊢
  split at h
  · rename_i hc
    exact ⟨by simpa using hc, by rw [if_pos hc]⟩
  · cases h
theorem Rs.expect_ok {s : Rs} (h : s.ok) (ys : List Int) : (s.expect ys).ok := by
  have h1 := Rs.take_ok h ys.length
  unfold Rs.expect
  split
  · exact h1
  · exact ⟨h1.1, h1.2.1, by simp⟩
def hS1 (xs : List Int) : Rs := (Rs.mk xs 0 (!(bv xs))).expect headStart
def hL (xs : List Int) : Nat := ((hS1 xs).number 2).1.toNat
def hS2 (xs : List Int) : Rs := ((hS1 xs).number 2).2
def hY (xs : List Int) : List Int := ((hS2 xs).take (hL xs)).1
def hS3 (xs : List Int) : Rs := ((hS2 xs).take (hL xs)).2
def hT0 (xs : List Int) : Rs := ⟨hY xs, 0, !(bv (hY xs))⟩
def hQ1 (xs : List Int) : List Int := ((hT0 xs).take 4).1
def hT1 (xs : List Int) : Rs := ((hT0 xs).take 4).2
def hQ2 (xs : List Int) : List Int := ((hT1 xs).take 4).1
def hT2 (xs : List Int) : Rs := ((hT1 xs).take 4).2
def hP1 (xs : List Int) : Int := ((hT2 xs).number 2).1
def hT3 (xs : List Int) : Rs := ((hT2 xs).number 2).2
def hP2 (xs : List Int) : Int := ((hT3 xs).number 2).1
def hT4 (xs : List Int) : Rs := ((hT3 xs).number 2).2
def hSize (xs : List Int) : Nat := (numOf ((xs.drop 14).take 2)).toNat
def hPar (xs : List Int) : Par := ⟨⟨1, (xs.drop 16).take 4, [], numOf ((xs.drop 24).take 2)⟩, ⟨1, (xs.drop 20).take 4, [], numOf ((xs.drop 26).take 2)⟩⟩
/-- The head that bytes begin with. -/
def headFrom (xs : List Int) : Option (Par × List Tag × Nat) :=
  if bv xs = true ∧ 28 ≤ xs.length ∧ alike xs headStart = true ∧ 12 ≤ hSize xs ∧ hSize xs ≤ xs.length - 16 then
    (tagsFrom ((xs.drop 28).take (hSize xs - 12))).map fun ts => (hPar xs, ts, 16 + hSize xs)
  else none
theorem bytes_bv {xs : List Int} (h : bytesOnly xs) (hl : xs.length ≤ 120) : bv xs = true := by
  simp only [bv, Bool.and_eq_true, List.all_eq_true, decide_eq_true_eq]
  exact ⟨fun x hx => inB_iff.2 (h x hx), hl⟩
theorem head_go {xs : List Int} (h3 : (hS3 xs).bad = false) (h4 : (hT4 xs).bad = false) :
    hQ1 xs = (hPar xs).src.quad ∧ hQ2 xs = (hPar xs).dst.quad ∧ hP1 xs = (hPar xs).src.port ∧ hP2 xs = (hPar xs).dst.port ∧ hS3 xs = ⟨xs, 16 + hSize xs, false⟩ ∧ hT4 xs = ⟨hY xs, 12, false⟩ ∧
    (hY xs).drop 12 = (xs.drop 28).take (hSize xs - 12) ∧ bv xs = true ∧ 28 ≤ xs.length ∧ alike xs headStart = true ∧ 12 ≤ hSize xs ∧ hSize xs ≤ xs.length - 16 := by
  obtain ⟨b2, l2, e3⟩ := Rs.take_good (s := hS2 xs) (n := hL xs) h3
  obtain ⟨b1, l1, e2⟩ := Rs.take_good (s := hS1 xs) (n := 2) b2
  have e2' : hS2 xs = { hS1 xs with pos := (hS1 xs).pos + 2 } := by unfold hS2 Rs.number; rw [e2]
  obtain ⟨hh, e1⟩ := Rs.expect_good (s := Rs.mk xs 0 (!(bv xs))) (ys := headStart) b1
  have e1b : ((Rs.mk xs 0 (!(bv xs))).take headStart.length).2.bad = false := by rw [← e1]; exact b1
  obtain ⟨b0, l0, e0⟩ := Rs.take_good e1b
  have hb : bv xs = true := by simpa using b0
  rw [headStart_len] at l0 e0 hh e1
  simp only [Nat.sub_zero] at l0
  have s1 : hS1 xs = ⟨xs, 14, false⟩ := by unfold hS1; rw [e1, e0]; simp [hb]
  rw [s1] at l1 e2 e2'
  simp only [] at l1
  have hLe : hL xs = hSize xs := by unfold hL hSize Rs.number; rw [s1, e2]
  rw [e2'] at l2 e3
  simp only [] at l2 e3
  rw [hLe] at l2 e3
  have hy : hY xs = (xs.drop 16).take (hSize xs) := by unfold hY; rw [e2', hLe, e3]
  have s3 : hS3 xs = ⟨xs, 16 + hSize xs, false⟩ := by unfold hS3; rw [e2', hLe, e3]
  have hyl : (hY xs).length = hSize xs := by rw [hy, List.length_take, List.length_drop]; omega
  have hal : alike xs headStart = true := by
    rw [e0] at hh
    simp only [List.drop_zero] at hh
    rw [alike_iff, headStart_len, Nat.min_eq_right (by omega), hh, List.take_of_length_le (by rw [headStart_len]; exact Nat.le_refl _)]
  obtain ⟨c3, k3, f4⟩ := Rs.take_good (s := hT3 xs) (n := 2) h4
  obtain ⟨c2, k2, f3⟩ := Rs.take_good (s := hT2 xs) (n := 2) c3
  obtain ⟨c1, k1, f2⟩ := Rs.take_good (s := hT1 xs) (n := 4) c2
  obtain ⟨c0, k0, f1⟩ := Rs.take_good (s := hT0 xs) (n := 4) c1
  have t1 : hT1 xs = ⟨hY xs, 4, false⟩ := by
    have := c0
    unfold hT1; rw [f1]; unfold hT0 at this ⊢; simp only [] at this ⊢; rw [this]
  rw [t1] at f2 k1
  have t2 : hT2 xs = ⟨hY xs, 8, false⟩ := by unfold hT2; rw [t1, f2]
  rw [t2] at f3 k2
  have t3 : hT3 xs = ⟨hY xs, 10, false⟩ := by unfold hT3 Rs.number; rw [t2, f3]
  rw [t3] at f4 k3
  have t4 : hT4 xs = ⟨hY xs, 12, false⟩ := by unfold hT4 Rs.number; rw [t3, f4]
  simp only [] at k3
  have h12 : 12 ≤ hSize xs := by omega
  have sub : ∀ a n, a + n ≤ hSize xs → ((hY xs).drop a).take n = (xs.drop (16 + a)).take n := by
    intro a n ha
    rw [hy, List.drop_take, List.take_take, List.drop_drop, Nat.min_eq_left (by omega)]
  refine ⟨?_, ?_, ?_, ?_, s3, t4, ?_, hb, by omega, hal, h12, by omega⟩
  · unfold hQ1; rw [f1]; exact sub 0 4 (by omega)
  · unfold hQ2; rw [t1, f2]; exact sub 4 4 (by omega)
  · unfold hP1 Rs.number; rw [t2, f3]; show numOf (((hY xs).drop 8).take 2) = _; rw [sub 8 2 (by omega)]; rfl
  · unfold hP2 Rs.number; rw [t3, f4]; show numOf (((hY xs).drop 10).take 2) = _; rw [sub 10 2 (by omega)]; rfl
  · rw [hy, List.drop_take, List.drop_drop]
theorem head_ok {xs : List Int} (hb : bv xs = true) (hl : 28 ≤ xs.length) (ha : alike xs headStart = true) (h12 : 12 ≤ hSize xs) (hs : hSize xs ≤ xs.length - 16) : (hS3 xs).bad = false ∧ (hT4 xs).bad = false := by
  have hh : xs.take 14 = headStart := by
    have := alike_iff.1 ha
    rw [headStart_len, Nat.min_eq_right (by omega)] at this
    rw [this, List.take_of_length_le (by rw [headStart_len]; exact Nat.le_refl _)]
  have e0 := Rs.take_fine (s := Rs.mk xs 0 (!(bv xs))) (n := 14) (by simp [hb]) (by simp; omega)
  have s1 : hS1 xs = ⟨xs, 14, false⟩ := by
    unfold hS1 Rs.expect
    rw [headStart_len, e0]
    simp only [List.drop_zero]
    rw [hh]; simp [hb]
  have e2 := Rs.take_fine (s := Rs.mk xs 14 false) (n := 2) rfl (by simp; omega)
  have s2 : hS2 xs = ⟨xs, 16, false⟩ := by unfold hS2 Rs.number; rw [s1, e2]
  have hLe : hL xs = hSize xs := by unfold hL hSize Rs.number; rw [s1, e2]
  have e3 := Rs.take_fine (s := Rs.mk xs 16 false) (n := hSize xs) rfl (by simp; omega)
  have s3 : hS3 xs = ⟨xs, 16 + hSize xs, false⟩ := by unfold hS3; rw [s2, hLe, e3]
  have hy : hY xs = (xs.drop 16).take (hSize xs) := by unfold hY; rw [s2, hLe, e3]
  have hyl : (hY xs).length = hSize xs := by rw [hy, List.length_take, List.length_drop]; omega
  have hby : bv (hY xs) = true := by
    have h120 : xs.length ≤ 120 := by simp only [bv, Bool.and_eq_true, decide_eq_true_eq] at hb; exact hb.2
    refine bytes_bv ?_ (by omega)
    rw [hy]; exact bytes_take (bytes_drop (bv_bytes hb) _) _
  have f1 := Rs.take_fine (s := hT0 xs) (n := 4) (by simp [hT0, hby]) (by simp [hT0]; omega)
  have t1 : hT1 xs = ⟨hY xs, 4, false⟩ := by unfold hT1; rw [f1]; simp [hT0, hby]
  have f2 := Rs.take_fine (s := Rs.mk (hY xs) 4 false) (n := 4) rfl (by simp; omega)
  have t2 : hT2 xs = ⟨hY xs, 8, false⟩ := by unfold hT2; rw [t1, f2]
  have f3 := Rs.take_fine (s := Rs.mk (hY xs) 8 false) (n := 2) rfl (by simp; omega)
  have t3 : hT3 xs = ⟨hY xs, 10, false⟩ := by unfold hT3 Rs.number; rw [t2, f3]
  have f4 := Rs.take_fine (s := Rs.mk (hY xs) 10 false) (n := 2) rfl (by simp; omega)
  have t4 : hT4 xs = ⟨hY xs, 12, false⟩ := by unfold hT4 Rs.number; rw [t3, f4]
  exact ⟨by rw [s3], by rw [t4]⟩
theorem headFrom_fail {xs : List Int} (h : (hS3 xs).bad = true ∨ (hT4 xs).bad = true) : headFrom xs = none := by
  unfold headFrom
  split
  · rename_i hc
    have := head_ok hc.1 hc.2.1 hc.2.2.1 hc.2.2.2.1 hc.2.2.2.2
    rw [this.1, this.2] at h
    simp at h
  · rfl
theorem headFrom_go {xs : List Int} (h3 : (hS3 xs).bad = false) (h4 : (hT4 xs).bad = false) : headFrom xs = (tagsFrom ((hY xs).drop 12)).map fun ts => (hPar xs, ts, 16 + hSize xs) := by
  obtain ⟨_, _, _, _, _, _, e, a, b, c, d, f⟩ := head_go h3 h4
  unfold headFrom
  rw [if_pos ⟨a, b, c, d, f⟩, e]
end Go.Proofs.Ytknhfogblfogaaa
