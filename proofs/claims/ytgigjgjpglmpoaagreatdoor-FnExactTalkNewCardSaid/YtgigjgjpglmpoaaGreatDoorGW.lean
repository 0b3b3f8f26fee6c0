/- Readers of bytes: one byte, bytes told, a text, an address (plain laws).
Logins and requests out of bytes; what is said to them (plain laws).
What a talk says to bytes (plain laws). -/
import Derived.Test.YtgigjgjpglmpoaaGreatDoorGP
import Derived.Test.YtgigjgjpglmpoaaGreatDoorGV
namespace Go.Proofs.YtgigjgjpglmpoaaGreatDoor
open Go.RowKit
theorem nth_app {a b : List Int} {k : Nat} (h : k < a.length) : nth (a ++ b) k = nth a k := by simp [nth, List.getElem?_append_left h]
theorem seg_app {a b : List Int} {i j : Nat} (h : i + j ≤ a.length) : ((a ++ b).drop i).take j = (a.drop i).take j := by
  rw [List.drop_append_of_le_length (by omega), List.take_append_of_le_length (by rw [List.length_drop]; omega)]
/-- A byte for a number of letters, and these. -/
def Rs.text (s : Rs) : Tx × Rs := (bt (s.byte.2.take s.byte.1.toNat).1, (s.byte.2.take s.byte.1.toNat).2)
theorem Rs.byte_good {xs : List Int} {p : Nat} {b : Bool} (h : (Rs.mk xs p b).byte.2.bad = false) : b = false ∧ p < xs.length ∧ (Rs.mk xs p b).byte = (nth xs p, ⟨xs, p + 1, false⟩) := by
  obtain ⟨h1, h2, h3⟩ := Rs.take_good (s := Rs.mk xs p b) (n := 1) h
  simp only [] at h1 h2
  subst h1
  refine ⟨rfl, by omega, ?_⟩
  unfold Rs.byte
  rw [h3]
  simp only []
  rw [take1_nth (by omega)]; rfl
theorem Rs.byte_fine {xs : List Int} {p : Nat} (h : p < xs.length) : (Rs.mk xs p false).byte = (nth xs p, ⟨xs, p + 1, false⟩) := by
  have e := Rs.take_fine (s := Rs.mk xs p false) (n := 1) rfl (by simp; omega)
  unfold Rs.byte
  rw [e]
  simp only []
  rw [take1_nth h]; rfl
theorem Rs.expect1_good {xs : List Int} {p : Nat} {b : Bool} {c : Int} (h : ((Rs.mk xs p b).expect [c]).bad = false) : b = false ∧ p < xs.length ∧ nth xs p = c ∧ (Rs.mk xs p b).expect [c] = ⟨xs, p + 1, false⟩ := by
  obtain ⟨h1, h2⟩ := Rs.expect_good h
  rw [h2] at h
  obtain ⟨h3, h4, h5⟩ := Rs.take_good (s := Rs.mk xs p b) (n := 1) h
  simp only [] at h3 h4
  subst h3
  rw [h2]
  simp only [List.length_cons, List.length_nil, Nat.zero_add] at h1 h2 ⊢
  rw [h5] at h1 ⊢
  simp only [] at h1
  rw [take1_nth (by omega)] at h1
  exact ⟨trivial, by omega, (by injection h1), rfl⟩
theorem Rs.expect1_fine {xs : List Int} {p : Nat} {c : Int} (h : p < xs.length) (hc : nth xs p = c) : (Rs.mk xs p false).expect [c] = ⟨xs, p + 1, false⟩ := by
  have e := Rs.take_fine (s := Rs.mk xs p false) (n := 1) rfl (by simp; omega)
  unfold Rs.expect
  simp only [List.length_cons, List.length_nil, Nat.zero_add]
  rw [e]
  simp only []
  rw [take1_nth h, hc, if_pos (by simp)]
theorem Rs.text_good {xs : List Int} {p : Nat} {b : Bool} (h : (Rs.mk xs p b).text.2.bad = false) : b = false ∧ p < xs.length ∧ (nth xs p).toNat ≤ xs.length - (p + 1) ∧ (Rs.mk xs p b).text = (bt ((xs.drop (p + 1)).take (nth xs p).toNat), ⟨xs, p + 1 + (nth xs p).toNat, false⟩) := by
  obtain ⟨h1, h2, h3⟩ := Rs.take_good (s := (Rs.mk xs p b).byte.2) h
  obtain ⟨h4, h5, h6⟩ := Rs.byte_good h1
  unfold Rs.text
  rw [h6] at h2 h3 ⊢
  simp only [] at h2 h3 ⊢
  rw [h3]
  exact ⟨h4, h5, h2, rfl⟩
theorem Rs.text_fine {xs : List Int} {p : Nat} (h : p < xs.length) (h2 : (nth xs p).toNat ≤ xs.length - (p + 1)) : (Rs.mk xs p false).text = (bt ((xs.drop (p + 1)).take (nth xs p).toNat), ⟨xs, p + 1 + (nth xs p).toNat, false⟩) := by
  unfold Rs.text
  rw [Rs.byte_fine h]
  simp only []
  rw [Rs.take_fine (s := Rs.mk xs (p + 1) false) rfl (by simp only []; omega)]
/-- An address, valid or the reader fails. -/
def adrFin (a : Adr) (s : Rs) : Adr × Rs := (a, if adrOk a = true then s else { s with bad := true })
theorem adrFin_good {a : Adr} {s : Rs} (h : (adrFin a s).2.bad = false) : adrOk a = true ∧ s.bad = false ∧ adrFin a s = (a, s) := by
  unfold adrFin at h ⊢
  split at h
  · rename_i hc
    exact ⟨hc, h, by rw [if_pos hc]⟩
  · cases h
/-- An address is read: its kind, four bytes or a name, two bytes of the port. -/
def Rs.adr (s : Rs) : Adr × Rs :=
  if s.byte.1 = 1 then adrFin ⟨1, (s.byte.2.take 4).1, [], ((s.byte.2.take 4).2.number 2).1⟩ ((s.byte.2.take 4).2.number 2).2
  else if s.byte.1 = 3 then adrFin ⟨3, [], s.byte.2.text.1, (s.byte.2.text.2.number 2).1⟩ (s.byte.2.text.2.number 2).2
  else adrFin ⟨s.byte.1, [], [], (s.byte.2.number 2).1⟩ (s.byte.2.number 2).2
theorem Rs.number_good {xs : List Int} {p n : Nat} {b : Bool} (h : ((Rs.mk xs p b).number n).2.bad = false) : b = false ∧ n ≤ xs.length - p ∧ (Rs.mk xs p b).number n = (numOf ((xs.drop p).take n), ⟨xs, p + n, false⟩) := by
  obtain ⟨h1, h2, h3⟩ := Rs.take_good (s := Rs.mk xs p b) (n := n) h
  simp only [] at h1 h2
  subst h1
  refine ⟨rfl, h2, ?_⟩
  unfold Rs.number
  rw [h3]
theorem Rs.number_fine {xs : List Int} {p n : Nat} (h : n ≤ xs.length - p) : (Rs.mk xs p false).number n = (numOf ((xs.drop p).take n), ⟨xs, p + n, false⟩) := by
  unfold Rs.number
  rw [Rs.take_fine (s := Rs.mk xs p false) rfl h]
/-- How many bytes an address has by its first bytes, or -1. -/
def aSize (xs : List Int) : Int := if 0 < xs.length ∧ nth xs 0 = 1 then 7 else if 1 < xs.length ∧ nth xs 0 = 3 then 4 + nth xs 1 else -1
def aAdr (xs : List Int) (n : Nat) : Adr := if nth xs 0 = 1 then ⟨1, (xs.drop 1).take 4, [], numOf ((xs.drop (n - 2)).take 2)⟩ else ⟨3, [], bt ((xs.drop 2).take (n - 4)), numOf ((xs.drop (n - 2)).take 2)⟩
/-- The address that bytes begin with: the reference. -/
def adrOfB (xs : List Int) : Option (Adr × Nat) :=
  if bv xs = true ∧ 0 ≤ aSize xs ∧ aSize xs ≤ xs.length ∧ adrOk (aAdr xs (aSize xs).toNat) = true then some (aAdr xs (aSize xs).toNat, (aSize xs).toNat) else none
theorem adr_not {k : Int} (h1 : k ≠ 1) (h3 : k ≠ 3) (q : List Int) (nm : Tx) (p : Int) : adrOk ⟨k, q, nm, p⟩ = false := by
  cases h : adrOk ⟨k, q, nm, p⟩ with
  | false => rfl
  | true => rcases adr_kind h with ⟨e, _⟩ | ⟨e, _⟩ <;> simp only [] at e <;> omega
theorem aSize_app {xs r : List Int} {n : Nat} (h : aSize xs = (n : Int)) : aSize (xs ++ r) = (n : Int) := by
  unfold aSize at h ⊢
  split at h
  · rename_i hc
    rw [if_pos ⟨by rw [List.length_append]; omega, by rw [nth_app hc.1]; exact hc.2⟩]; exact h
  · rename_i hc
    split at h
    · rename_i hd
      rw [if_neg (by rw [nth_app (show 0 < xs.length by omega)]; omega), if_pos ⟨by rw [List.length_append]; omega, by rw [nth_app (by omega)]; exact hd.2⟩, nth_app hd.1]; exact h
    · omega
theorem aSize_some {xs : List Int} (hb : bv xs = true) (h : 0 ≤ aSize xs) : (0 < xs.length ∧ nth xs 0 = 1 ∧ aSize xs = 7) ∨ (1 < xs.length ∧ nth xs 0 = 3 ∧ 0 ≤ nth xs 1 ∧ nth xs 1 ≤ 255 ∧ aSize xs = 4 + nth xs 1) := by
  unfold aSize at h ⊢
  split at h
  · rename_i hc
    exact .inl ⟨hc.1, hc.2, by rw [if_pos hc]⟩
  · rename_i hc
    split at h
    · rename_i hd
      have := bytes_nth (bv_bytes hb) hd.1
      exact .inr ⟨hd.1, hd.2, this.1, this.2, by rw [if_neg hc, if_pos hd]⟩
    · omega
theorem adrOfB_app {xs r : List Int} {a : Adr} {n : Nat} (h : adrOfB xs = some (a, n)) (hb : bv (xs ++ r) = true) : adrOfB (xs ++ r) = some (a, n) := by
  unfold adrOfB at h
  split at h
  · rename_i hc
    obtain ⟨c1, c2, c3, c4⟩ := hc
    injection h with h
    injection h with e1 e2
    have en : aSize xs = (n : Int) := by omega
    rw [e2] at c4 e1
    have e : aAdr (xs ++ r) n = aAdr xs n := by
      unfold aAdr
      rcases aSize_some c1 c2 with ⟨h1, h2, h3⟩ | ⟨h1, h2, h3, h4, h5⟩
      · rw [nth_app h1, if_pos h2, if_pos h2, seg_app (by omega), seg_app (by omega)]
      · rw [nth_app (by omega), if_neg (by omega), if_neg (by omega), seg_app (by omega), seg_app (by omega)]
    unfold adrOfB
    rw [aSize_app en, Int.toNat_natCast, e, if_pos ⟨hb, by omega, by rw [List.length_append]; omega, c4⟩, e1]
  · cases h
/-- The reader's way, of bytes behind p others. -/
theorem adr_go {xs : List Int} {p : Nat} {b : Bool} (hb : bytesOnly xs) (h : (Rs.mk xs p b).adr.2.bad = false) (hl : xs.length - p ≤ 120) :
    b = false ∧ ∃ n : Nat, adrOfB (xs.drop p) = some ((Rs.mk xs p b).adr.1, n) ∧ (Rs.mk xs p b).adr.2 = ⟨xs, p + n, false⟩ ∧ p + n ≤ xs.length := by
  have hbd : bv (xs.drop p) = true := bytes_bv (bytes_drop hb p) (by rw [List.length_drop]; omega)
  unfold Rs.adr at h ⊢
  split at h
  · rename_i h1
    obtain ⟨o1, o2, o3⟩ := adrFin_good h
    obtain ⟨t1, t2, t3⟩ := Rs.take_good (s := ((Rs.mk xs p b).byte.2.take 4).2) (n := 2) o2
    obtain ⟨u1, u2, u3⟩ := Rs.take_good (s := (Rs.mk xs p b).byte.2) (n := 4) t1
    obtain ⟨v1, v2, v3⟩ := Rs.byte_good u1
    rw [if_pos h1, o3]
    rw [v3] at u2 u3 t2 t3 h1 o1 ⊢
    simp only [] at u2 u3 h1 o1 ⊢
    rw [u3] at t2 t3 o1 ⊢
    simp only [] at t2 t3 o1 ⊢
    rw [Rs.number_fine (by omega)] at o1 ⊢
    refine ⟨v1, 7, ?_, rfl, by omega⟩
    have z0 : nth (xs.drop p) 0 = 1 := by rw [nth_drop]; exact h1
    have es : aSize (xs.drop p) = 7 := by unfold aSize; rw [if_pos ⟨by rw [List.length_drop]; omega, z0⟩]
    have ea : aAdr (xs.drop p) 7 = ⟨1, (xs.drop (p + 1)).take 4, [], numOf ((xs.drop (p + 1 + 4)).take 2)⟩ := by
      unfold aAdr
      rw [if_pos z0, List.drop_drop, List.drop_drop]
    unfold adrOfB
    rw [es, show (7 : Int).toNat = 7 from rfl, ea, if_pos ⟨hbd, by omega, by rw [List.length_drop]; omega, o1⟩]
  · rename_i h1
    split at h
    · rename_i h3
      obtain ⟨o1, o2, o3⟩ := adrFin_good h
      obtain ⟨t1, t2, t3⟩ := Rs.take_good (s := (Rs.mk xs p b).byte.2.text.2) (n := 2) o2
      have w1 : (Rs.mk xs p b).byte.2.bad = false := by
        unfold Rs.text at t1
        obtain ⟨a1, _, _⟩ := Rs.take_good t1
        obtain ⟨a2, _, _⟩ := Rs.take_good (s := (Rs.mk xs p b).byte.2) (n := 1) a1
        exact a2
      obtain ⟨v1, v2, v3⟩ := Rs.byte_good w1
      rw [if_neg h1, if_pos h3, o3]
      rw [v3] at t1 t2 t3 h1 h3 o1 ⊢
      simp only [] at t1 t2 t3 h1 h3 o1 ⊢
      obtain ⟨u1, u2, u3, u4⟩ := Rs.text_good t1
      rw [u4] at t2 t3 o1 ⊢
      simp only [] at t2 t3 o1 ⊢
      rw [Rs.number_fine (by omega)] at o1 ⊢
      have hx := bytes_nth hb u2
      obtain ⟨m, hm⟩ := Int.eq_ofNat_of_zero_le hx.1
      have hm' : (nth xs (p + 1)).toNat = m := by omega
      rw [hm'] at o1 t2 u3 ⊢
      refine ⟨v1, 4 + m, ?_, (by rw [show p + 1 + 1 + m + 2 = p + (4 + m) by omega]), by omega⟩
      have z0 : nth (xs.drop p) 0 = 3 := by rw [nth_drop]; exact h3
      have z1 : nth (xs.drop p) 1 = (m : Int) := by rw [nth_drop, ← hm]
      have es : aSize (xs.drop p) = ((4 + m : Nat) : Int) := by
        unfold aSize
        rw [if_neg (by rw [z0]; omega), if_pos ⟨by rw [List.length_drop]; omega, z0⟩, z1]; omega
      have ea : aAdr (xs.drop p) (4 + m) = ⟨3, [], bt ((xs.drop (p + 1 + 1)).take m), numOf ((xs.drop (p + 1 + 1 + m)).take 2)⟩ := by
        unfold aAdr
        rw [if_neg (by rw [z0]; omega), List.drop_drop, List.drop_drop]
        have e1 : 4 + m - 4 = m := by omega
        have e2 : p + (4 + m - 2) = p + 1 + 1 + m := by omega
        rw [e1, e2]
      unfold adrOfB
      rw [es, Int.toNat_natCast, ea, if_pos ⟨hbd, by omega, by rw [List.length_drop]; omega, o1⟩]
    · rename_i h3
      obtain ⟨o1, _, _⟩ := adrFin_good h
      rw [adr_not h1 h3] at o1
      cases o1
theorem adr_fine {xs : List Int} {p n : Nat} {a : Adr} (h : adrOfB (xs.drop p) = some (a, n)) : (Rs.mk xs p false).adr = (a, ⟨xs, p + n, false⟩) := by
  unfold adrOfB at h
  split at h
  · rename_i hc
    obtain ⟨c1, c2, c3, c4⟩ := hc
    injection h with h
    injection h with e1 e2
    rw [e2] at e1 c4
    have en : aSize (xs.drop p) = (n : Int) := by omega
    rw [List.length_drop] at c3
    rw [e1] at c4
    unfold Rs.adr
    rcases aSize_some c1 c2 with ⟨h1, h2, h3⟩ | ⟨h1, h2, h3, h4, h5⟩
    · rw [List.length_drop] at h1
      have hn : n = 7 := by omega
      subst hn
      rw [nth_drop, Nat.add_zero] at h2
      have ea : aAdr (xs.drop p) 7 = ⟨1, (xs.drop (p + 1)).take 4, [], numOf ((xs.drop (p + 1 + 4)).take 2)⟩ := by
        unfold aAdr
        rw [if_pos (by rw [nth_drop]; exact h2), List.drop_drop, List.drop_drop]
      rw [ea] at e1
      rw [Rs.byte_fine (by omega)]
      simp only []
      rw [if_pos h2, Rs.take_fine (s := Rs.mk xs (p + 1) false) rfl (by simp only []; omega)]
      simp only []
      rw [Rs.number_fine (by omega), e1]
      unfold adrFin
      rw [if_pos c4]
    · rw [List.length_drop] at h1
      rw [nth_drop, Nat.add_zero] at h2
      rw [nth_drop] at h3 h4 h5
      obtain ⟨m, hm⟩ := Int.eq_ofNat_of_zero_le h3
      have hn : n = 4 + m := by omega
      subst hn
      have hm' : (nth xs (p + 1)).toNat = m := by omega
      have ea : aAdr (xs.drop p) (4 + m) = ⟨3, [], bt ((xs.drop (p + 1 + 1)).take m), numOf ((xs.drop (p + 1 + 1 + m)).take 2)⟩ := by
        unfold aAdr
        rw [if_neg (by rw [nth_drop, Nat.add_zero, h2]; omega), List.drop_drop, List.drop_drop]
        have e1 : 4 + m - 4 = m := by omega
        have e2 : p + (4 + m - 2) = p + 1 + 1 + m := by omega
        rw [e1, e2]
      rw [ea] at e1
      rw [Rs.byte_fine (by omega)]
      simp only []
      rw [if_neg (by omega), if_pos h2, Rs.text_fine (by omega) (by omega), hm']
      simp only []
      rw [Rs.number_fine (by omega), e1]
      unfold adrFin
      rw [if_pos c4, show p + 1 + 1 + m + 2 = p + (4 + m) by omega]
  · cases h
end Go.Proofs.YtgigjgjpglmpoaaGreatDoor
namespace Go.Proofs.YtgigjgjpglmpoaaGreatDoor
open Go.RowKit
def loginBytes (l : Lg) : List Int := 1 :: (l.1.length : Int) :: (tb l.1 ++ ((l.2.length : Int) :: tb l.2))
def lgAt (xs : List Int) : Nat := 2 + (nth xs 1).toNat
def lgX (xs : List Int) : Lg := (bt ((xs.drop 2).take (nth xs 1).toNat), bt ((xs.drop (lgAt xs + 1)).take (nth xs (lgAt xs)).toNat))
def lgEnd (xs : List Int) : Nat := lgAt xs + 1 + (nth xs (lgAt xs)).toNat
/-- The login that bytes begin with. -/
def loginFrom (xs : List Int) : Option (Lg × Nat) :=
  if bv xs = true ∧ 5 ≤ xs.length ∧ nth xs 0 = 1 ∧ nth xs 1 ≤ (xs.length : Int) - 3 ∧ nth xs (lgAt xs) ≤ (xs.length : Int) - (lgAt xs : Int) - 1 ∧ lgOk (lgX xs) = true then some (lgX xs, lgEnd xs) else none
def lgS1 (xs : List Int) : Rs := (Rs.mk xs 0 (!(bv xs))).expect [1]
def lgS2 (xs : List Int) : Tx × Rs := (lgS1 xs).text
def lgS3 (xs : List Int) : Tx × Rs := (lgS2 xs).2.text
theorem lgOk_parts {a b : Tx} (h : lgOk (a, b) = true) : userOk a = true ∧ userOk b = true ∧ 1 ≤ a.length ∧ 1 ≤ b.length ∧ a.length ≤ 8 ∧ b.length ≤ 8 := by
  unfold lgOk at h
  simp only [Bool.and_eq_true] at h
  obtain ⟨h1, h2, h3, h4⟩ := h
  have k : ∀ l : Tx, (!l.isEmpty) = true → 1 ≤ l.length := by
    intro l hl
    cases l with
    | nil => simp at hl
    | cons x r => simp
  exact ⟨h1, h2, k _ h3, k _ h4, userOk_len h1, userOk_len h2⟩
theorem text_bad {s : Rs} (h : s.text.2.bad = false) : s.bad = false := by
  obtain ⟨h1, _, _⟩ := Rs.take_good (s := s.byte.2) h
  obtain ⟨h2, _, _⟩ := Rs.take_good (s := s) (n := 1) h1
  exact h2
theorem byte_bad {s : Rs} (h : s.byte.2.bad = false) : s.bad = false := by
  obtain ⟨h2, _, _⟩ := Rs.take_good (s := s) (n := 1) h
  exact h2
theorem expect_bad {s : Rs} {ys : List Int} (h : (s.expect ys).bad = false) : s.bad = false := by
  obtain ⟨_, h2⟩ := Rs.expect_good h
  rw [h2] at h
  obtain ⟨h2, _, _⟩ := Rs.take_good (s := s) h
  exact h2
theorem number_bad {s : Rs} {n : Nat} (h : (s.number n).2.bad = false) : s.bad = false := by
  obtain ⟨h2, _, _⟩ := Rs.take_good (s := s) h
  exact h2
theorem adr_bad {s : Rs} (h : s.adr.2.bad = false) : s.bad = false := by
  unfold Rs.adr at h
  split at h
  · obtain ⟨_, o2, _⟩ := adrFin_good h
    have := number_bad o2
    obtain ⟨h2, _, _⟩ := Rs.take_good (s := s.byte.2) this
    exact byte_bad h2
  · split at h
    · obtain ⟨_, o2, _⟩ := adrFin_good h
      exact byte_bad (text_bad (number_bad o2))
    · obtain ⟨_, o2, _⟩ := adrFin_good h
      exact byte_bad (number_bad o2)
theorem login_go {xs : List Int} (h : (lgS3 xs).2.bad = false) (hk : lgOk ((lgS2 xs).1, (lgS3 xs).1) = true) : loginFrom xs = some (((lgS2 xs).1, (lgS3 xs).1), (lgS3 xs).2.pos) := by
  have b2 : (lgS2 xs).2.bad = false := text_bad h
  have b1 : (lgS1 xs).bad = false := text_bad b2
  obtain ⟨e0, e1, e2, e3⟩ := Rs.expect1_good b1
  have hb : bv xs = true := by simpa using e0
  have s1 : lgS1 xs = ⟨xs, 1, false⟩ := e3
  unfold lgS2 at b2
  rw [s1] at b2
  obtain ⟨_, f1, f2, f3⟩ := Rs.text_good b2
  have s2 : lgS2 xs = (bt ((xs.drop 2).take (nth xs 1).toNat), ⟨xs, lgAt xs, false⟩) := by unfold lgS2; rw [s1, f3]; rfl
  unfold lgS3 at h
  rw [s2] at h
  obtain ⟨_, k1, k2, k3⟩ := Rs.text_good h
  have s3 : lgS3 xs = (bt ((xs.drop (lgAt xs + 1)).take (nth xs (lgAt xs)).toNat), ⟨xs, lgEnd xs, false⟩) := by unfold lgS3; rw [s2, k3]; rfl
  rw [s2, s3] at hk ⊢
  have n1 := bytes_nth (bv_bytes hb) f1
  have n2 := bytes_nth (bv_bytes hb) k1
  obtain ⟨_, _, l1, l2, _, _⟩ := lgOk_parts hk
  rw [bt_len, List.length_take, List.length_drop] at l1 l2
  have ha : lgAt xs = 2 + (nth xs 1).toNat := rfl
  unfold loginFrom
  rw [if_pos ⟨hb, by omega, e2, by omega, by omega, hk⟩]
  rfl
/-- What the program hands back. -/
theorem loginFrom_prog (xs : List Int) : loginFrom xs = if (lgS3 xs).2.bad = false ∧ lgOk ((lgS2 xs).1, (lgS3 xs).1) = true then some (((lgS2 xs).1, (lgS3 xs).1), (lgS3 xs).2.pos) else none := by
  split
  · rename_i h
    exact login_go h.1 h.2
  · rename_i hn
    unfold loginFrom
    split
    · rename_i hc
      obtain ⟨hb, c1, c2, c3, c4, c5⟩ := hc
      exfalso
      apply hn
      have n1 := bytes_nth (bv_bytes hb) (show 1 < xs.length by omega)
      have ha : lgAt xs = 2 + (nth xs 1).toNat := rfl
      have n2 := bytes_nth (bv_bytes hb) (show lgAt xs < xs.length by omega)
      have s1 : lgS1 xs = ⟨xs, 1, false⟩ := by
        unfold lgS1; rw [hb]; exact Rs.expect1_fine (by omega) c2
      have s2 : lgS2 xs = (bt ((xs.drop 2).take (nth xs 1).toNat), ⟨xs, lgAt xs, false⟩) := by
        unfold lgS2; rw [s1, Rs.text_fine (by omega) (by omega)]; rfl
      have s3 : lgS3 xs = (bt ((xs.drop (lgAt xs + 1)).take (nth xs (lgAt xs)).toNat), ⟨xs, lgEnd xs, false⟩) := by
        unfold lgS3; rw [s2]; simp only []; rw [Rs.text_fine (by omega) (by omega)]; rfl
      rw [s2, s3]
      exact ⟨rfl, c5⟩
    · rfl
theorem loginFrom_sound {xs : List Int} {l : Lg} {n : Nat} (h : loginFrom xs = some (l, n)) : bv xs = true ∧ lgOk l = true ∧ n ≤ xs.length := by
  unfold loginFrom at h
  split at h
  · rename_i hc
    obtain ⟨hb, c1, c2, c3, c4, c5⟩ := hc
    injection h with h
    injection h with e1 e2
    have n1 := bytes_nth (bv_bytes hb) (show 1 < xs.length by omega)
    have ha : lgAt xs = 2 + (nth xs 1).toNat := rfl
    have n2 := bytes_nth (bv_bytes hb) (show lgAt xs < xs.length by omega)
    have he : lgEnd xs = lgAt xs + 1 + (nth xs (lgAt xs)).toNat := rfl
    exact ⟨hb, by rw [← e1]; exact c5, by omega⟩
  · cases h
theorem loginFrom_app {xs r : List Int} {l : Lg} {n : Nat} (h : loginFrom xs = some (l, n)) (hbr : bv (xs ++ r) = true) : loginFrom (xs ++ r) = some (l, n) := by
  have h0 := h
  unfold loginFrom at h
  split at h
  · rename_i hc
    obtain ⟨hb, c1, c2, c3, c4, c5⟩ := hc
    have n1 := bytes_nth (bv_bytes hb) (show 1 < xs.length by omega)
    have ha : lgAt xs = 2 + (nth xs 1).toNat := rfl
    have n2 := bytes_nth (bv_bytes hb) (show lgAt xs < xs.length by omega)
    have e1 : nth (xs ++ r) 1 = nth xs 1 := nth_app (by omega)
    have ea : lgAt (xs ++ r) = lgAt xs := by unfold lgAt; rw [e1]
    have e2 : nth (xs ++ r) (lgAt xs) = nth xs (lgAt xs) := nth_app (by omega)
    have ex : lgX (xs ++ r) = lgX xs := by
      unfold lgX
      rw [ea, e1, e2, seg_app (by omega), seg_app (by omega)]
    have ee : lgEnd (xs ++ r) = lgEnd xs := by unfold lgEnd; rw [ea, e2]
    unfold loginFrom
    rw [ex, ee, ea, e1, e2, if_pos ⟨hbr, by rw [List.length_append]; omega, by rw [nth_app (by omega)]; exact c2, by rw [List.length_append]; omega, by rw [List.length_append]; omega, c5⟩]
    exact h
  · cases h
theorem loginFrom_nil : loginFrom [] = none := rfl
def loginFits (ls : List Lg) (l : Lg) : Bool := lgOk l && ls.any fun x => x == l
def loginReply (b : Bool) : List Int := if b = true then [1, 0] else [1, 1]
/-- An address as bytes. -/
def adrBytes (a : Adr) : List Int := a.kind :: ((if a.kind = 1 then a.quad else ((a.name.length : Int) :: tb a.name)) ++ num2 a.port)
def reqBytes (c : Int) (a : Adr) : List Int := 5 :: c :: 0 :: adrBytes a
/-- A number and the address behind 5, it and 0. -/
def codeFrom (xs : List Int) : Option (Int × Adr × Nat) :=
  if bv xs = true ∧ 3 ≤ xs.length ∧ nth xs 0 = 5 ∧ nth xs 2 = 0 then (adrOfB (xs.drop 3)).map fun r => (nth xs 1, r.1, r.2 + 3) else none
/-- The request that bytes begin with. -/
def reqFrom (xs : List Int) : Option (Int × Adr × Nat) := match codeFrom xs with | some r => if inB 1 3 r.1 = true then some r else none | none => none
def cdS1 (xs : List Int) : Rs := (Rs.mk xs 0 (!(bv xs))).expect [5]
def cdS2 (xs : List Int) : Int × Rs := (cdS1 xs).byte
def cdS3 (xs : List Int) : Rs := (cdS2 xs).2.expect [0]
def cdS4 (xs : List Int) : Adr × Rs := (cdS3 xs).adr
theorem bv_len {xs : List Int} (h : bv xs = true) : xs.length ≤ 120 := by
  unfold bv at h
  simp only [Bool.and_eq_true, decide_eq_true_eq] at h
  exact h.2
theorem codeFrom_prog (xs : List Int) : codeFrom xs = if (cdS4 xs).2.bad = false then some ((cdS2 xs).1, (cdS4 xs).1, (cdS4 xs).2.pos) else none := by
  split
  · rename_i h
    have b3 : (cdS3 xs).bad = false := adr_bad h
    have b2 : (cdS2 xs).2.bad = false := expect_bad b3
    have b1 : (cdS1 xs).bad = false := byte_bad b2
    obtain ⟨e0, e1, e2, s1⟩ := Rs.expect1_good b1
    have hb : bv xs = true := by simpa using e0
    have s1 : cdS1 xs = ⟨xs, 1, false⟩ := s1
    unfold cdS2 at b2
    rw [s1] at b2
    obtain ⟨_, f1, f2⟩ := Rs.byte_good b2
    have s2 : cdS2 xs = (nth xs 1, ⟨xs, 2, false⟩) := by unfold cdS2; rw [s1, f2]
    unfold cdS3 at b3
    rw [s2] at b3
    obtain ⟨_, g1, g2, g3⟩ := Rs.expect1_good b3
    have s3 : cdS3 xs = ⟨xs, 3, false⟩ := by unfold cdS3; rw [s2, g3]
    unfold cdS4 at h
    rw [s3] at h
    have hl := bv_len hb
    obtain ⟨_, n, k1, k2, k3⟩ := adr_go (bv_bytes hb) h (by omega)
    unfold codeFrom
    rw [if_pos ⟨hb, by omega, e2, g2⟩, k1, s2]
    unfold cdS4
    rw [s3, k2, Option.map_some]
    simp only [Nat.add_comm]
  · rename_i hn
    unfold codeFrom
    split
    · rename_i hc
      obtain ⟨hb, c1, c2, c3⟩ := hc
      cases ha : adrOfB (xs.drop 3) with
      | none => rfl
      | some r =>
        obtain ⟨a, n⟩ := r
        exfalso
        apply hn
        have s1 : cdS1 xs = ⟨xs, 1, false⟩ := by unfold cdS1; rw [hb]; exact Rs.expect1_fine (by omega) c2
        have s2 : cdS2 xs = (nth xs 1, ⟨xs, 2, false⟩) := by unfold cdS2; rw [s1, Rs.byte_fine (by omega)]
        have s3 : cdS3 xs = ⟨xs, 3, false⟩ := by unfold cdS3; rw [s2]; exact Rs.expect1_fine (by omega) c3
        unfold cdS4
        rw [s3, adr_fine ha]
    · rfl
theorem adrOfB_sound {xs : List Int} {a : Adr} {n : Nat} (h : adrOfB xs = some (a, n)) : adrOk a = true ∧ n ≤ xs.length := by
  unfold adrOfB at h
  split at h
  · rename_i hc
    obtain ⟨c1, c2, c3, c4⟩ := hc
    injection h with h
    injection h with e1 e2
    exact ⟨by rw [← e1]; exact c4, by omega⟩
  · cases h
theorem reqFrom_sound {xs : List Int} {c : Int} {a : Adr} {n : Nat} (h : reqFrom xs = some (c, a, n)) : inB 1 3 c = true ∧ adrOk a = true ∧ n ≤ xs.length := by
  unfold reqFrom at h
  split at h
  · rename_i r hr
    split at h
    · rename_i hi
      injection h with h
      subst h
      refine ⟨hi, ?_⟩
      unfold codeFrom at hr
      split at hr
      · rename_i hc
        cases ha : adrOfB (xs.drop 3) with
        | none => rw [ha] at hr; cases hr
        | some s =>
          obtain ⟨a', n'⟩ := s
          rw [ha, Option.map_some] at hr
          injection hr with hr
          injection hr with _ hr
          injection hr with e1 e2
          obtain ⟨k1, k2⟩ := adrOfB_sound ha
          rw [List.length_drop] at k2
          simp only [] at e1 e2
          exact ⟨by rw [← e1]; exact k1, by omega⟩
      · cases hr
    · cases h
  · cases h
theorem codeFrom_app {xs r : List Int} {x : Int × Adr × Nat} (h : codeFrom xs = some x) (hbr : bv (xs ++ r) = true) : codeFrom (xs ++ r) = some x := by
  unfold codeFrom at h
  split at h
  · rename_i hc
    obtain ⟨hb, c1, c2, c3⟩ := hc
    cases ha : adrOfB (xs.drop 3) with
    | none => rw [ha] at h; cases h
    | some s =>
      obtain ⟨a, n⟩ := s
      rw [ha] at h
      have hd : (xs ++ r).drop 3 = xs.drop 3 ++ r := List.drop_append_of_le_length (by omega)
      have hbd : bv (xs.drop 3 ++ r) = true := by
        rw [← hd]
        have hl := bv_len hbr
        exact bytes_bv (bytes_drop (bv_bytes hbr) 3) (by rw [List.length_drop]; omega)
      unfold codeFrom
      rw [nth_app (by omega), nth_app (by omega), nth_app (by omega), if_pos ⟨hbr, by rw [List.length_append]; omega, c2, c3⟩, hd, adrOfB_app ha hbd]
      exact h
  · cases h
theorem reqFrom_app {xs r : List Int} {x : Int × Adr × Nat} (h : reqFrom xs = some x) (hbr : bv (xs ++ r) = true) : reqFrom (xs ++ r) = some x := by
  unfold reqFrom at h ⊢
  split at h
  · rename_i y hy
    rw [codeFrom_app hy hbr]
    exact h
  · cases h
theorem reqFrom_nil : reqFrom [] = none := rfl
theorem helloFrom_nil : helloFrom [] = none := rfl
theorem helloFrom_app {xs r ms : List Int} {n : Nat} (h : helloFrom xs = some (ms, n)) (hbr : bv (xs ++ r) = true) : helloFrom (xs ++ r) = some (ms, n) := by
  unfold helloFrom at h
  split at h
  · rename_i hc
    obtain ⟨hb, hl, h0, h1, hm⟩ := hc
    have n1 := bytes_nth (bv_bytes hb) (show 1 < xs.length by omega)
    unfold helloFrom
    rw [nth_app (by omega), nth_app (by omega), seg_app (by omega), if_pos ⟨hbr, by rw [List.length_append]; omega, h0, by rw [List.length_append]; omega, hm⟩]
    exact h
  · cases h
/-- The first method of a server that a client has. -/
def helloPick (ws ms : List Int) : Int := if methOk ws = true ∧ methOk ms = true then (match ws.find? fun m => hasI ms m with | some m => m | none => 255) else 255
end Go.Proofs.YtgigjgjpglmpoaaGreatDoor
namespace Go.Proofs.YtgigjgjpglmpoaaGreatDoor
open Go.RowKit
def pickState (m : Int) : Int := if m = 0 then 2 else if m = 2 then 1 else 4
/-- A state, a reply, an address: what a hello leads to. -/
def sayHello (ws xs : List Int) : Int × List Int × Tx :=
  match helloFrom xs with
  | some r => if r.2 = xs.length then (pickState (helloPick ws r.1), [5, helloPick ws r.1], []) else (4, [], [])
  | none => (4, [], [])
/-- .. a login. -/
def sayLogin (ls : List Lg) (xs : List Int) : Int × List Int × Tx :=
  match loginFrom xs with
  | some r => if r.2 = xs.length then (if loginFits ls r.1 = true then 2 else 4, loginReply (loginFits ls r.1), []) else (4, [], [])
  | none => (4, [], [])
/-- .. a request. -/
def sayReq (xs : List Int) : Int × List Int × Tx :=
  match reqFrom xs with
  | some r => if r.2.2 = xs.length then (if r.1 = 1 then 3 else 4, reqBytes (if r.1 = 1 then 0 else 7) r.2.1, if r.1 = 1 then addrText r.2.1 else []) else (4, [], [])
  | none => (4, [], [])
def say (t : Tlk) (xs : List Int) : Int × List Int × Tx := if t.st = 0 then sayHello t.wanted xs else if t.st = 1 then sayLogin t.logins xs else sayReq xs
def sayOk (t : Tlk) (xs : List Int) : Bool := talkOk t && (bv xs && decide (t.st < 3))
def sayT (t : Tlk) (xs : List Int) : Tlk := ⟨(say t xs).1, t.wanted, t.logins, (say t xs).2.2⟩
theorem talk_parts {t : Tlk} (h : talkOk t = true) : setOk t.wanted t.logins = true ∧ 0 ≤ t.st ∧ t.st ≤ 4 ∧ (t.st = 1 → hasI t.wanted 2 = true) ∧ (if t.st = 3 then (addrFrom t.dst).isSome else t.dst.isEmpty) = true := by
  unfold talkOk at h
  simp only [Bool.and_eq_true] at h
  obtain ⟨h1, h2, h3, h4⟩ := h
  have := inB_iff.1 h2
  refine ⟨h1, this.1, this.2, fun e => ?_, h4⟩
  rw [decide_eq_true e] at h3
  simpa using h3
theorem talk_of {t : Tlk} (h1 : setOk t.wanted t.logins = true) (h2 : 0 ≤ t.st) (h3 : t.st ≤ 4) (h4 : t.st = 1 → hasI t.wanted 2 = true) (h5 : (if t.st = 3 then (addrFrom t.dst).isSome else t.dst.isEmpty) = true) : talkOk t = true := by
  unfold talkOk
  simp only [Bool.and_eq_true]
  refine ⟨h1, inB_iff.2 ⟨h2, h3⟩, ?_, h5⟩
  by_cases e : t.st = 1
  · rw [h4 e]; simp
  · rw [decide_eq_false e]; simp
theorem sayOk_parts {t : Tlk} {xs : List Int} (h : sayOk t xs = true) : talkOk t = true ∧ bv xs = true ∧ t.st < 3 := by
  unfold sayOk at h
  simp only [Bool.and_eq_true, decide_eq_true_eq] at h
  exact h
theorem sayOk_of {t : Tlk} {xs : List Int} (h1 : talkOk t = true) (h2 : bv xs = true) (h3 : t.st < 3) : sayOk t xs = true := by
  unfold sayOk
  simp only [Bool.and_eq_true, decide_eq_true_eq]
  exact ⟨h1, h2, h3⟩
theorem pick_is (ws ms : List Int) : helloPick ws ms = 255 ∨ (helloPick ws ms ∈ ws ∧ hasI ms (helloPick ws ms) = true) := by
  unfold helloPick
  split
  · cases h : ws.find? (fun m => hasI ms m) with
    | none => exact .inl rfl
    | some m => exact .inr ⟨List.mem_of_find?_eq_some h, by simpa using List.find?_some h⟩
  · exact .inl rfl
theorem set_m02 {ws : List Int} {ls : List Lg} (h : setOk ws ls = true) : ∀ m ∈ ws, m = 0 ∨ m = 2 := by
  unfold setOk at h
  simp only [Bool.and_eq_true] at h
  intro m hm
  have := List.all_eq_true.1 h.1 m hm
  unfold m02 at this
  simpa using this
theorem pick_02 {ws : List Int} {ls : List Lg} (h : setOk ws ls = true) (ms : List Int) : helloPick ws ms = 255 ∨ helloPick ws ms = 0 ∨ (helloPick ws ms = 2 ∧ hasI ws 2 = true) := by
  rcases pick_is ws ms with e | ⟨e, _⟩
  · exact .inl e
  · rcases set_m02 h _ e with k | k
    · exact .inr (.inl k)
    · rw [k] at e
      exact .inr (.inr ⟨k, by unfold hasI; rw [List.any_eq_true]; exact ⟨2, e, by simp⟩⟩)
theorem pick_no {ms : List Int} {ls : List Lg} {ws : List Int} (h : setOk ws ls = true) (h0 : hasI ms 0 = false) (h2 : hasI ms 2 = false) : helloPick ws ms = 255 := by
  rcases pick_is ws ms with e | ⟨e, f⟩
  · exact e
  · rcases set_m02 h _ e with k | k
    · rw [k, h0] at f; cases f
    · rw [k, h2] at f; cases f
/-- What is said is one of these. -/
theorem hello_cases (ws xs : List Int) : (sayHello ws xs = (4, [], []) ∧ ∀ ms, helloFrom xs ≠ some (ms, xs.length)) ∨ ∃ ms, helloFrom xs = some (ms, xs.length) ∧ sayHello ws xs = (pickState (helloPick ws ms), [5, helloPick ws ms], []) := by
  unfold sayHello
  cases h : helloFrom xs with
  | none => exact .inl ⟨rfl, fun ms e => by cases e⟩
  | some r =>
    obtain ⟨ms, n⟩ := r
    by_cases hn : n = xs.length
    · subst hn; exact .inr ⟨ms, rfl, by simp⟩
    · exact .inl ⟨by simp [hn], fun ms' e => by injection e with e; injection e with _ e; exact hn e⟩
theorem login_cases (ls : List Lg) (xs : List Int) : (sayLogin ls xs = (4, [], []) ∧ ∀ l, loginFrom xs ≠ some (l, xs.length)) ∨ ∃ l, loginFrom xs = some (l, xs.length) ∧ sayLogin ls xs = (if loginFits ls l = true then 2 else 4, loginReply (loginFits ls l), []) := by
  unfold sayLogin
  cases h : loginFrom xs with
  | none => exact .inl ⟨rfl, fun ms e => by cases e⟩
  | some r =>
    obtain ⟨ms, n⟩ := r
    by_cases hn : n = xs.length
    · subst hn; exact .inr ⟨ms, rfl, by simp⟩
    · exact .inl ⟨by simp [hn], fun ms' e => by injection e with e; injection e with _ e; exact hn e⟩
theorem req_cases (xs : List Int) : (sayReq xs = (4, [], []) ∧ ∀ c a, reqFrom xs ≠ some (c, a, xs.length)) ∨ ∃ c a, reqFrom xs = some (c, a, xs.length) ∧ adrOk a = true ∧ sayReq xs = (if c = 1 then 3 else 4, reqBytes (if c = 1 then 0 else 7) a, if c = 1 then addrText a else []) := by
  unfold sayReq
  cases h : reqFrom xs with
  | none => exact .inl ⟨rfl, fun _ _ e => by cases e⟩
  | some r =>
    obtain ⟨c, a, n⟩ := r
    by_cases hn : n = xs.length
    · subst hn; exact .inr ⟨c, a, rfl, (reqFrom_sound h).2.1, by simp⟩
    · exact .inl ⟨by simp [hn], fun _ _ e => by injection e with e; injection e with _ e; injection e with _ e; exact hn e⟩
/-- A talk goes on. -/
theorem say_on {t : Tlk} {xs : List Int} (h : sayOk t xs = true) : talkOk (sayT t xs) = true ∧ t.st < (sayT t xs).st := by
  obtain ⟨h1, h2, h3⟩ := sayOk_parts h
  obtain ⟨p1, p2, p3, p4, p5⟩ := talk_parts h1
  have key : ∀ s : Int × List Int × Tx, say t xs = s → t.st < s.1 → s.1 ≤ 4 → (s.1 = 1 → hasI t.wanted 2 = true) → (if s.1 = 3 then (addrFrom s.2.2).isSome else s.2.2.isEmpty) = true → talkOk (sayT t xs) = true ∧ t.st < (sayT t xs).st := by
    intro s e q1 q2 q3 q4
    unfold sayT
    rw [e]
    exact ⟨talk_of p1 (by simp only []; omega) q2 q3 q4, q1⟩
  by_cases s0 : t.st = 0
  · have e : say t xs = sayHello t.wanted xs := by unfold say; rw [if_pos s0]
    rcases hello_cases t.wanted xs with ⟨k, _⟩ | ⟨ms, _, k⟩
    · exact key _ (e.trans k) (by simp only []; omega) (by simp) (by simp) (by simp)
    · rcases pick_02 p1 ms with m | m | ⟨m, hm⟩
      · rw [m] at k; exact key _ (e.trans k) (by simp [pickState]; omega) (by simp [pickState]) (by simp [pickState]) (by simp [pickState])
      · rw [m] at k; exact key _ (e.trans k) (by simp [pickState]; omega) (by simp [pickState]) (by simp [pickState]) (by simp [pickState])
      · rw [m] at k; exact key _ (e.trans k) (by simp [pickState]; omega) (by simp [pickState]) (fun _ => hm) (by simp [pickState])
  · by_cases s1 : t.st = 1
    · have e : say t xs = sayLogin t.logins xs := by unfold say; rw [if_neg s0, if_pos s1]
      rcases login_cases t.logins xs with ⟨k, _⟩ | ⟨l, _, k⟩
      · exact key _ (e.trans k) (by simp only []; omega) (by simp) (by simp) (by simp)
      · cases hf : loginFits t.logins l
        · rw [hf] at k; exact key _ (e.trans k) (by simp; omega) (by simp) (by simp) (by simp)
        · rw [hf] at k; exact key _ (e.trans k) (by simp; omega) (by simp) (by simp) (by simp)
    · have e : say t xs = sayReq xs := by unfold say; rw [if_neg s0, if_neg s1]
      rcases req_cases xs with ⟨k, _⟩ | ⟨c, a, _, ha, k⟩
      · exact key _ (e.trans k) (by simp only []; omega) (by simp) (by simp) (by simp)
      · by_cases hc : c = 1
        · rw [if_pos hc, if_pos hc, if_pos hc] at k
          exact key _ (e.trans k) (by simp only []; omega) (by simp) (by simp) (by simp [addrFrom_text ha])
        · rw [if_neg hc, if_neg hc, if_neg hc] at k
          exact key _ (e.trans k) (by simp only []; omega) (by simp) (by simp) (by simp)
theorem say_end {t : Tlk} {xs ys : List Int} (h : 3 ≤ (sayT t xs).st) : sayOk (sayT t xs) ys = false := by
  cases hs : sayOk (sayT t xs) ys with
  | false => rfl
  | true => have := (sayOk_parts hs).2.2; omega
theorem say_empty {t : Tlk} {xs : List Int} (h : sayOk t xs = true) : sayOk t [] = true ∧ say t [] = (4, [], []) := by
  obtain ⟨h1, h2, h3⟩ := sayOk_parts h
  refine ⟨sayOk_of h1 rfl h3, ?_⟩
  unfold say
  split
  · rfl
  · split <;> rfl
theorem say_hello {t : Tlk} {xs : List Int} (h0 : t.st = 0) : say t xs = sayHello t.wanted xs := by unfold say; rw [if_pos h0]
theorem say_login {t : Tlk} {xs : List Int} (h0 : t.st = 1) : say t xs = sayLogin t.logins xs := by unfold say; rw [if_neg (by omega), if_pos h0]
theorem say_req {t : Tlk} {xs : List Int} (h0 : t.st ≠ 0) (h1 : t.st ≠ 1) : say t xs = sayReq xs := by unfold say; rw [if_neg h0, if_neg h1]
theorem hello_state {ws xs : List Int} {ls : List Lg} (h : setOk ws ls = true) : ((sayHello ws xs).1 = 1 ∧ (sayHello ws xs).2.1 = [5, 2]) ∨ ((sayHello ws xs).1 = 2 ∧ (sayHello ws xs).2.1 = [5, 0]) ∨ ((sayHello ws xs).1 = 4 ∧ ((sayHello ws xs).2.1 = [] ∨ (sayHello ws xs).2.1 = [5, 255])) := by
  rcases hello_cases ws xs with ⟨k, _⟩ | ⟨ms, _, k⟩
  · rw [k]; simp
  · rcases pick_02 h ms with m | m | ⟨m, hm⟩
    · rw [m] at k; rw [k]; simp [pickState]
    · rw [m] at k; rw [k]; simp [pickState]
    · rw [m] at k; rw [k]; simp [pickState]
theorem say_open {t : Tlk} {xs : List Int} (h : (say t xs).1 = 3) : ∃ a, adrOk a = true ∧ (say t xs).2.2 = addrText a ∧ (say t xs).2.1 = reqBytes 0 a := by
  by_cases s0 : t.st = 0
  · rw [say_hello s0] at h
    rcases hello_cases t.wanted xs with ⟨k, _⟩ | ⟨ms, _, k⟩
    · rw [k] at h; simp at h
    · rw [k] at h
      simp only [pickState] at h
      split at h
      · cases h
      · split at h <;> cases h
  · by_cases s1 : t.st = 1
    · rw [say_login s1] at h
      rcases login_cases t.logins xs with ⟨k, _⟩ | ⟨l, _, k⟩
      · rw [k] at h; simp at h
      · rw [k] at h
        simp only at h
        split at h <;> cases h
    · rw [say_req s0 s1] at h ⊢
      rcases req_cases xs with ⟨k, _⟩ | ⟨c, a, _, ha, k⟩
      · rw [k] at h; simp at h
      · rw [k] at h ⊢
        simp only at h
        split at h
        · rename_i hc
          exact ⟨a, ha, by simp [hc], by simp [hc]⟩
        · cases h
theorem no_logins {t : Tlk} {xs : List Int} (h : sayOk t xs = true) (h1 : t.st = 1) : sayOk ⟨t.st, t.wanted, [], t.dst⟩ xs = true ∧ (say ⟨t.st, t.wanted, [], t.dst⟩ xs).1 = 4 := by
  obtain ⟨k1, k2, k3⟩ := sayOk_parts h
  obtain ⟨p1, p2, p3, p4, p5⟩ := talk_parts k1
  have hs : setOk t.wanted [] = true := by
    unfold setOk at p1 ⊢
    simp only [Bool.and_eq_true] at p1 ⊢
    exact ⟨p1.1, by simp, p1.2.2.1, by simp⟩
  refine ⟨sayOk_of (talk_of hs p2 p3 p4 p5) k2 k3, ?_⟩
  rw [say_login (show (Tlk.mk t.st t.wanted [] t.dst).st = 1 from h1)]
  rcases login_cases [] xs with ⟨k, _⟩ | ⟨l, _, k⟩
  · rw [k]
  · rw [k]; simp [loginFits]
theorem hello_other {ws : List Int} {ls : List Lg} (h : setOk ws ls = true) : sayHello ws [5, 1, 128] = (4, [5, 255], []) := by
  have e : helloFrom [5, 1, 128] = some ([128], 3) := by decide
  unfold sayHello
  rw [e]
  simp only []
  rw [pick_no h rfl rfl]
  rfl
theorem say_behind {t : Tlk} {xs : List Int} {c : Int} (h : sayOk t xs = true) (h4 : (say t xs).1 ≠ 4) (hl : xs.length < 120) (hc : 0 ≤ c ∧ c ≤ 255) : sayOk t (xs ++ [c]) = true ∧ say t (xs ++ [c]) = (4, [], []) := by
  obtain ⟨k1, k2, k3⟩ := sayOk_parts h
  have hb : bv (xs ++ [c]) = true := by
    refine bytes_bv ?_ (by rw [List.length_append]; simp; omega)
    intro x hx
    rcases List.mem_append.1 hx with hx | hx
    · exact bv_bytes k2 x hx
    · have : x = c := by simpa using hx
      omega
  have hn : (xs ++ [c]).length = xs.length + 1 := by simp
  refine ⟨sayOk_of k1 hb k3, ?_⟩
  by_cases s0 : t.st = 0
  · rw [say_hello s0] at h4 ⊢
    rcases hello_cases t.wanted xs with ⟨k, _⟩ | ⟨ms, e, _⟩
    · rw [k] at h4; exact absurd rfl h4
    · unfold sayHello
      rw [helloFrom_app e hb]
      simp only []
      rw [if_neg (by omega)]
  · by_cases s1 : t.st = 1
    · rw [say_login s1] at h4 ⊢
      rcases login_cases t.logins xs with ⟨k, _⟩ | ⟨ms, e, _⟩
      · rw [k] at h4; exact absurd rfl h4
      · unfold sayLogin
        rw [loginFrom_app e hb]
        simp only []
        rw [if_neg (by omega)]
    · rw [say_req s0 s1] at h4 ⊢
      rcases req_cases xs with ⟨k, _⟩ | ⟨_, _, e, _, _⟩
      · rw [k] at h4; exact absurd rfl h4
      · unfold sayReq
        rw [reqFrom_app e hb]
        simp only []
        rw [if_neg (by omega)]
theorem talk_to {t : Tlk} (h : talkOk t = true) : talkOk ⟨t.st, t.wanted, t.logins, [120, 58, 49]⟩ = decide (t.st = 3) := by
  obtain ⟨p1, p2, p3, p4, p5⟩ := talk_parts h
  have ha : (addrFrom [120, 58, 49]).isSome = true := by
    have e : addrFrom (addrText ⟨3, [], [120], 1⟩) = some ⟨3, [], [120], 1⟩ := addrFrom_text (by decide)
    have e2 : addrText ⟨3, [], [120], 1⟩ = [120, 58, 49] := by simp [addrText, hostText, dec]
    rw [← e2, e]; rfl
  by_cases e : t.st = 3
  · rw [decide_eq_true e]
    exact talk_of p1 p2 p3 p4 (by simp only []; rw [if_pos e]; exact ha)
  · rw [decide_eq_false e]
    cases hk : talkOk ⟨t.st, t.wanted, t.logins, [120, 58, 49]⟩ with
    | false => rfl
    | true =>
      have := (talk_parts hk).2.2.2.2
      simp only [] at this
      rw [if_neg e] at this
      cases this
theorem talk_none (t : Tlk) : talkOk ⟨t.st, [], t.logins, t.dst⟩ = false := by
  cases hk : talkOk ⟨t.st, [], t.logins, t.dst⟩ with
  | false => rfl
  | true =>
    have := (talk_parts hk).1
    unfold setOk at this
    simp only [Bool.and_eq_true] at this
    have h2 := methOk_len this.2.2.1
    simp at h2
end Go.Proofs.YtgigjgjpglmpoaaGreatDoor
