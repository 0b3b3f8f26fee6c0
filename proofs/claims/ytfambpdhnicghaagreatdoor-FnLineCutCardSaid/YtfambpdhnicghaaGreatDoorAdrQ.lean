/- Addresses out of texts: plain laws. -/
import Derived.Test.YtfambpdhnicghaaGreatDoorGE
import Derived.Test.YtfambpdhnicghaaGreatDoorCutL
import Derived.Lib.AtoiAll
namespace Go.Proofs.YtfambpdhnicghaaGreatDoor
open Go.RowKit
def allDig (l : Tx) : Bool := l.all fun c => isDig (c.toNat : Int)
theorem dig_of (d : Nat) (h : d < 10) : isDig ((UInt8.ofNat (48 + d)).toNat : Int) = true ∧ (UInt8.ofNat (48 + d)).toNat = 48 + d := by
  have e : (UInt8.ofNat (48 + d)).toNat = 48 + d := by rw [UInt8.toNat_ofNat']; omega
  rw [e]
  refine ⟨?_, rfl⟩
  simp [isDig]; omega
theorem allDig_app (a b : Tx) : allDig (a ++ b) = (allDig a && allDig b) := by simp [allDig]
theorem dec_dig (n : Nat) : allDig (dec n) = true := by
  induction n using Nat.strongRecOn with
  | ind n ih =>
    by_cases h : n < 10
    · rw [dec_small h]; show (isDig _ && true) = true; rw [(dig_of n h).1]; rfl
    · rw [dec_big h, allDig_app, ih _ (by omega)]; show (true && (isDig _ && true)) = true; rw [(dig_of (n % 10) (by omega)).1]; rfl
theorem dec_pos (n : Nat) : 1 ≤ (dec n).length := by
  by_cases h : n < 10
  · rw [dec_small h]; simp
  · rw [dec_big h]; simp
theorem dec_not {n : Nat} {c : UInt8} (h : isDig (c.toNat : Int) = false) : c ∉ dec n := by
  intro hc
  have := dec_dig n
  rw [allDig, List.all_eq_true] at this
  rw [this c hc] at h; cases h
def valD (l : Tx) : Nat := l.foldl (fun n c => 10 * n + (c.toNat - 48)) 0
theorem valD_snoc (l : Tx) (c : UInt8) : valD (l ++ [c]) = 10 * valD l + (c.toNat - 48) := by simp [valD]
theorem valD_dec (n : Nat) : valD (dec n) = n := by
  induction n using Nat.strongRecOn with
  | ind n ih =>
    by_cases h : n < 10
    · rw [dec_small h]; simp only [valD, List.foldl_cons, List.foldl_nil]; rw [(dig_of n h).2]; omega
    · rw [dec_big h, valD_snoc, ih _ (by omega), (dig_of (n % 10) (by omega)).2]; omega
theorem dec_len_le : ∀ (k n : Nat), n < 10 ^ (k + 1) → (dec n).length ≤ k + 1 := by
  intro k
  induction k with
  | zero => intro n hn; rw [dec_small (by omega)]; simp
  | succ k ih =>
    intro n hn
    by_cases h10 : n < 10
    · rw [dec_small h10]; simp
    · rw [dec_big h10]
      have := ih (n / 10) (by rw [Nat.pow_succ] at hn; omega)
      simp; omega
/-- The number of one to five digits, or -1. -/
def num5 (l : Tx) : Int := if 1 ≤ l.length ∧ l.length ≤ 5 ∧ allDig l = true then (valD l : Int) else -1
theorem num5_dec {n : Nat} (h : n < 100000) : num5 (dec n) = (n : Int) := by
  unfold num5
  rw [if_pos ⟨dec_pos n, dec_len_le 4 n (by omega), dec_dig n⟩, valD_dec]
theorem valD_lt (l : Tx) (h : allDig l = true) : valD l < 10 ^ l.length := by
  have key : ∀ (l : Tx) (a : Nat), allDig l = true → l.foldl (fun n c => 10 * n + (c.toNat - 48)) a < (a + 1) * 10 ^ l.length := by
    intro l
    induction l with
    | nil => intro a _; simp
    | cons c l ih =>
      intro a ha
      simp only [allDig, List.all_cons, Bool.and_eq_true] at ha
      have h1 := ha.1
      simp only [isDig, Bool.and_eq_true, decide_eq_true_eq] at h1
      have := ih (10 * a + (c.toNat - 48)) ha.2
      simp only [List.foldl_cons, List.length_cons]
      refine Nat.lt_of_lt_of_le this ?_
      rw [Nat.pow_succ, Nat.mul_comm (10 ^ l.length) 10, ← Nat.mul_assoc]
      exact Nat.mul_le_mul_right _ (by omega)
  have := key l 0 h
  simpa [valD] using this
theorem num5_range (l : Tx) : -1 ≤ num5 l ∧ num5 l ≤ 99999 := by
  unfold num5
  split
  · rename_i h
    have h1 := valD_lt l h.2.2
    have h2 : (10 : Nat) ^ l.length ≤ 10 ^ 5 := Nat.pow_le_pow_right (by omega) h.2.1
    omega
  · omega
/-- Four bytes out of a text: the reference. -/
def quadFrom (l : Tx) : Option (List Int) := if quadOk ((cutB 46 l).map num5) = true ∧ quadText ((cutB 46 l).map num5) = l then some ((cutB 46 l).map num5) else none
theorem quadText_parts (a b c d : Int) : quadText [a, b, c, d] = dec a.toNat ++ 46 :: (dec b.toNat ++ 46 :: (dec c.toNat ++ 46 :: dec d.toNat)) := by
  simp [quadText, nth]
theorem no46 (n : Nat) : (46 : UInt8) ∉ dec n := dec_not (by decide)
theorem cut_quad (a b c d : Int) : cutB 46 (quadText [a, b, c, d]) = [dec a.toNat, dec b.toNat, dec c.toNat, dec d.toNat] := by
  rw [quadText_parts, cutB_hit (no46 _), cutB_hit (no46 _), cutB_hit (no46 _), cutB_miss (no46 _)]
theorem quad_four {q : List Int} (h : quadOk q = true) : ∃ a b c d : Int, q = [a, b, c, d] ∧ 0 ≤ a ∧ a ≤ 255 ∧ 0 ≤ b ∧ b ≤ 255 ∧ 0 ≤ c ∧ c ≤ 255 ∧ 0 ≤ d ∧ d ≤ 255 := by
  obtain ⟨h4, hb⟩ := quad_bytes h
  match q, h4 with
  | [a, b, c, d], _ =>
    have b0 := hb 0 (by omega)
    have b1 := hb 1 (by omega)
    have b2 := hb 2 (by omega)
    have b3 := hb 3 (by omega)
    simp [nth] at b0 b1 b2 b3
    exact ⟨a, b, c, d, rfl, b0.1, b0.2, b1.1, b1.2, b2.1, b2.2, b3.1, b3.2⟩
theorem quadFrom_text {q : List Int} (h : quadOk q = true) : quadFrom (quadText q) = some q := by
  obtain ⟨a, b, c, d, rfl, h0, h1, h2, h3, h4, h5, h6, h7⟩ := quad_four h
  have e : (cutB 46 (quadText [a, b, c, d])).map num5 = [a, b, c, d] := by
    rw [cut_quad]
    simp only [List.map_cons, List.map_nil]
    rw [num5_dec (by omega), num5_dec (by omega), num5_dec (by omega), num5_dec (by omega), Int.toNat_of_nonneg h0, Int.toNat_of_nonneg h2, Int.toNat_of_nonneg h4, Int.toNat_of_nonneg h6]
  unfold quadFrom
  rw [e, if_pos ⟨h, rfl⟩]
theorem quadFrom_sound {l : Tx} {q : List Int} (h : quadFrom l = some q) : quadOk q = true ∧ quadText q = l := by
  unfold quadFrom at h
  split at h
  · rename_i hc
    injection h with h
    subst h
    exact hc
  · cases h
/-- A number without leading zeros: the program. -/
def decim (l : Tx) : Option Int := match Lib.atoiAll l with | .ok n => if Lib.itoa n = l then some n else none | _ => none
theorem decim_sound {l : Tx} {n : Int} (h : decim l = some n) : Lib.itoa n = l := by
  unfold decim at h
  split at h
  · split at h
    · injection h with h; subst h; assumption
    · cases h
  · cases h
theorem decim_nil : decim [] = none := rfl
theorem parse_dig : ∀ (l : Tx) (a : Nat), allDig l = true → l.foldl (fun n c => 10 * n + (c.toNat - 48)) a < 1000000000000000000 → Lib.parseUint10 a l = .ok (l.foldl (fun n c => 10 * n + (c.toNat - 48)) a)
  | [], a, _, _ => rfl
  | c :: l, a, ha, hv => by
    simp only [allDig, List.all_cons, Bool.and_eq_true] at ha
    have h1 := ha.1
    simp only [isDig, Bool.and_eq_true, decide_eq_true_eq] at h1
    have hmono : ∀ (l : Tx) (b : Nat), b ≤ l.foldl (fun n c => 10 * n + (c.toNat - 48)) b := by
      intro l
      induction l with
      | nil => intro b; exact Nat.le_refl _
      | cons d l ih => intro b; simp only [List.foldl_cons]; exact Nat.le_trans (by omega) (ih _)
    simp only [List.foldl_cons] at hv ⊢
    have hb := hmono l (10 * a + (c.toNat - 48))
    have e : a * 10 + (c.toNat - 48) = 10 * a + (c.toNat - 48) := by omega
    rw [Lib.parseUint10, if_pos (by omega), if_neg (by omega), if_neg (by omega), e]
    exact parse_dig l _ ha.2 hv
theorem decim_dec {n : Nat} (h : n < 1000000000000000000) : decim (dec n) = some (n : Int) := by
  have hd := dec_dig n
  have hv := valD_dec n
  have hi : Lib.itoa (n : Int) = dec n := by rw [itoa_dec (by omega)]; simp
  cases hl : dec n with
  | nil => have := dec_pos n; rw [hl] at this; simp at this
  | cons c r =>
    have hc : isDig (c.toNat : Int) = true := by rw [hl, allDig, List.all_cons, Bool.and_eq_true] at hd; exact hd.1
    simp only [isDig, Bool.and_eq_true, decide_eq_true_eq] at hc
    have hp : Lib.parseMag (c :: r) = .ok n := by
      unfold Lib.parseMag
      rw [if_neg (by simp), ← hl]
      have := parse_dig (dec n) 0 hd (by show valD (dec n) < _; rw [hv]; exact h)
      rw [this]
      show Lib.NumEnd.ok (valD (dec n)) = _
      rw [hv]
    have ha : Lib.atoiAll (c :: r) = .ok (n : Int) := by
      unfold Lib.atoiAll
      simp only
      rw [if_neg (by omega), hp]
      simp only
      rw [if_neg (by omega), if_neg (by omega), if_neg (by omega)]
    unfold decim
    rw [ha]
    simp only
    rw [if_pos (by rw [hi, hl])]
def quadFromI (l : Tx) : Option (List Int) := match (cutB 46 l).mapM decim with | some q => if quadOk q = true then some q else none | none => none
theorem mapM_decim : ∀ {ls : List Tx} {q : List Int}, ls.mapM decim = some q → ls = q.map Lib.itoa
  | [], q, h => by simp at h; subst h; rfl
  | l :: ls, q, h => by
    simp only [List.mapM_cons, Option.bind_eq_bind, Option.bind_eq_some_iff, Option.pure_def, Option.some.injEq] at h
    obtain ⟨n, hn, r, hr, rfl⟩ := h
    rw [List.map_cons, ← mapM_decim hr, decim_sound hn]
theorem cutB_join (c : UInt8) (l : Tx) : Lib.join (cutB c l) [c] = l := by
  induction l with
  | nil => rfl
  | cons x xs ih =>
    cases hc : cutB c xs with
    | nil => exact absurd hc (cutB_ne c xs)
    | cons y ys =>
      rw [hc] at ih
      rw [cutB]
      by_cases h : x = c
      · rw [if_pos h, hc, Lib.join_cons]
        rw [Lib.join_cons] at ih
        rw [h, ← ih]
        simp [Lib.joinTail]
      · rw [if_neg h, hc]
        show Lib.join (([x] ++ y) :: ys) [c] = _
        rw [Lib.join_cons] at ih ⊢
        rw [List.append_assoc, ih]; rfl
theorem quadFromI_sound {l : Tx} {q : List Int} (h : quadFromI l = some q) : quadOk q = true ∧ quadText q = l := by
  unfold quadFromI at h
  split at h
  · rename_i q' hm
    split at h
    · rename_i hq
      injection h with h
      subst h
      refine ⟨hq, ?_⟩
      obtain ⟨a, b, c, d, rfl, h0, h1, h2, h3, h4, h5, h6, h7⟩ := quad_four hq
      have e := cutB_join 46 l
      rw [mapM_decim hm] at e
      simp only [List.map_cons, List.map_nil] at e
      rw [itoa_dec h0, itoa_dec h2, itoa_dec h4, itoa_dec h6, join4] at e
      rw [← e]
      simp [quadText, nth]
    · cases h
  · cases h
theorem quadFromI_text {q : List Int} (h : quadOk q = true) : quadFromI (quadText q) = some q := by
  obtain ⟨a, b, c, d, rfl, h0, h1, h2, h3, h4, h5, h6, h7⟩ := quad_four h
  have e : (cutB 46 (quadText [a, b, c, d])).mapM decim = some [a, b, c, d] := by
    rw [cut_quad]
    simp only [List.mapM_cons, List.mapM_nil]
    rw [decim_dec (by omega), decim_dec (by omega), decim_dec (by omega), decim_dec (by omega), Int.toNat_of_nonneg h0, Int.toNat_of_nonneg h2, Int.toNat_of_nonneg h4, Int.toNat_of_nonneg h6]
    rfl
  unfold quadFromI
  rw [e]
  simp only
  rw [if_pos h]
theorem quadFromI_eq (l : Tx) : quadFromI l = quadFrom l := by
  cases h : quadFromI l with
  | some q =>
    obtain ⟨h1, h2⟩ := quadFromI_sound h
    rw [← h2, quadFrom_text h1]
  | none =>
    cases k : quadFrom l with
    | none => rfl
    | some q =>
      obtain ⟨h1, h2⟩ := quadFrom_sound k
      rw [← h2, quadFromI_text h1] at h
      cases h
/-- No name is the text of four bytes. -/
theorem name_not_quad {l : Tx} (h : nameOk l = true) : quadFrom l = none := by
  cases k : quadFrom l with
  | none => rfl
  | some q =>
    obtain ⟨h1, h2⟩ := quadFrom_sound k
    obtain ⟨a, b, c, d, rfl, _⟩ := quad_four h1
    rw [← h2] at h
    unfold nameOk at h
    rw [cut_quad] at h
    simp only [Bool.and_eq_true] at h
    have h3 := h.2.2
    unfold lastLow nthS at h3
    simp only [List.length_cons, List.length_nil] at h3
    have hd := dec_dig d.toNat
    cases hl : dec d.toNat with
    | nil => have := dec_pos d.toNat; rw [hl] at this; simp at this
    | cons x y =>
      simp [hl] at h3
      rw [hl, allDig, List.all_cons, Bool.and_eq_true] at hd
      have h4 := hd.1
      simp only [isDig, isLow, Bool.and_eq_true, decide_eq_true_eq] at h3 h4
      omega
end Go.Proofs.YtfambpdhnicghaaGreatDoor
