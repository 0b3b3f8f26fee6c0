/- Plain words for the library: cutting at a letter, joining, decimals.
Addresses out of texts: plain laws.
Addresses out of texts: the reference's way and the program's way are one.
Lines: both directions have lines; how a line begins (plain laws).
Lines of pairs out of texts: plain laws.
Tunnels out of texts: plain laws. -/
import Derived.Test.YtgigjgjpglmpoaaGreatDoorGD
import Derived.Test.YtgigjgjpglmpoaaGreatDoorGE
import Derived.Lib.Split
import Derived.Lib.Join
import Derived.Lib.ItoaNum
import Derived.Lib.AtoiAll
import Derived.Lib.IndexMore
import Derived.Lib.IndexLaws
import Derived.Lib.Strings
namespace Go.Proofs.YtgigjgjpglmpoaaGreatDoor
open Go.RowKit
theorem idx_nil (c : UInt8) : Lib.index [] [c] = -1 := rfl
theorem idx_cons (x c : UInt8) (l : Tx) : Lib.index (x :: l) [c] = if c = x then 0 else if Lib.index l [c] = -1 then -1 else Lib.index l [c] + 1 := by
  rw [Lib.index]
  simp [List.isPrefixOf]
theorem idx_cases (c : UInt8) (l : Tx) : (Lib.index l [c] = -1 ∧ c ∉ l) ∨ ∃ a b, l = a ++ c :: b ∧ c ∉ a ∧ Lib.index l [c] = ((a.length : Nat) : Int) := by
  induction l with
  | nil => exact .inl ⟨rfl, by simp⟩
  | cons x xs ih =>
    rw [idx_cons]
    by_cases h : c = x
    · exact .inr ⟨[], xs, by rw [h]; rfl, by simp, by rw [if_pos h]; rfl⟩
    · rw [if_neg h]
      rcases ih with ⟨h1, h2⟩ | ⟨a, b, h1, h2, h3⟩
      · exact .inl ⟨by rw [if_pos h1], by simp [h, h2]⟩
      · exact .inr ⟨x :: a, b, by rw [h1]; rfl, by simp [h, h2], by rw [h3, if_neg (by omega)]; simp⟩
theorem cutB_miss {c : UInt8} {l : Tx} (h : c ∉ l) : cutB c l = [l] := by
  induction l with
  | nil => rfl
  | cons x xs ih =>
    simp only [List.mem_cons, not_or] at h
    rw [cutB, if_neg (fun e => h.1 e.symm), ih h.2]; rfl
theorem cutB_hit {c : UInt8} {a b : Tx} (h : c ∉ a) : cutB c (a ++ c :: b) = a :: cutB c b := by
  induction a with
  | nil => simp [cutB]
  | cons x xs ih =>
    simp only [List.mem_cons, not_or] at h
    rw [List.cons_append, cutB, if_neg (fun e => h.1 e.symm), ih h.2]; rfl
theorem splitK_cut (c : UInt8) : ∀ (n : Nat) (l : Tx), l.length < n → Lib.splitK [c] 0 (Lib.count l [c]) l = cutB c l := by
  intro n
  induction n with
  | zero => intro l h; omega
  | succ n ih =>
    intro l hl
    rcases idx_cases c l with ⟨h1, h2⟩ | ⟨a, b, h1, h2, h3⟩
    · rw [Lib.count_miss h1, cutB_miss h2]; rfl
    · have e : l.drop (a.length + [c].length) = b := by rw [h1]; simp
      have hc := Lib.count_hit (s := l) (sub := [c]) (by simp) h3
      rw [e] at hc
      rw [hc, Nat.add_comm, Lib.splitK, if_neg (by rw [h3]; simp <;> omega), h3, Int.toNat_natCast, e, ih b (by rw [h1] at hl; simp at hl; omega)]
      rw [h1, cutB_hit h2]
      simp
theorem split_tx (s : ByteArray) (c : UInt8) : (Lib.splitB ⟨#[c]⟩ 0 (Lib.countB s ⟨#[c]⟩) s).map tx = cutB c (tx s) :=
  (Lib.splitB_data ⟨#[c]⟩ 0 _ s).trans (splitK_cut c _ _ (Nat.lt_succ_self _))
theorem dec_lib (n : Nat) : Lib.decDigits n = dec n := by
  induction n using Nat.strongRecOn with
  | ind n ih =>
    by_cases h : n < 10
    · rw [dec_small h, Lib.decDigits, dif_pos h]
    · rw [dec_big h, Lib.decDigits, dif_neg h, ih _ (by omega)]
theorem itoa_dec {n : Int} (h : 0 ≤ n) : Lib.itoa n = dec n.toNat := by
  rw [Lib.itoa, if_neg (by omega), dec_lib]
theorem join4 (a b c d : Tx) (p : UInt8) : Lib.join [a, b, c, d] [p] = a ++ [p] ++ b ++ [p] ++ c ++ [p] ++ d := by
  simp [Lib.join, List.intercalate]
theorem join6 (a b c d e f : Tx) (p : UInt8) : Lib.join [a, b, c, d, e, f] [p] = a ++ [p] ++ b ++ [p] ++ c ++ [p] ++ d ++ [p] ++ e ++ [p] ++ f := by
  simp [Lib.join, List.intercalate]
/-- Where a letter stands in "-" or in nothing. -/
theorem idxByte_one (x c : UInt8) : Lib.indexByte [x] c = if x = c then 0 else -1 := by
  simp [Lib.indexByte]
theorem idxByte_nil (c : UInt8) : Lib.indexByte [] c = -1 := rfl
end Go.Proofs.YtgigjgjpglmpoaaGreatDoor
namespace Go.Proofs.YtgigjgjpglmpoaaGreatDoor
open Go.RowKit
def allDig (l : Tx) : Bool := l.all fun c => isDig (c.toNat : Int)
theorem dig_of (d : Nat) (h : d < 10) : isDig ((UInt8.ofNat (48 + d)).toNat : Int) = true ∧ (UInt8.ofNat (48 + d)).toNat = 48 + d := by
  have e : (UInt8.ofNat (48 + d)).toNat = 48 + d := by rw [UInt8.toNat_ofNat']; omega
  rw [e]
  refine ⟨?_, rfl⟩
  simp [isDig]; omega
theorem allDig_app (a b : Tx) : allDig (a ++ b) = (allDig a && allDig b) := by simp [allDig]
theorem dec_dig (n : Nat) : allDig (dec n) = true := by
  induction n using Nat.strongRecOn with
  | ind n ih =>
    by_cases h : n < 10
    · rw [dec_small h]; show (isDig _ && true) = true; rw [(dig_of n h).1]; rfl
    · rw [dec_big h, allDig_app, ih _ (by omega)]; show (true && (isDig _ && true)) = true; rw [(dig_of (n % 10) (by omega)).1]; rfl
theorem dec_pos (n : Nat) : 1 ≤ (dec n).length := by
  by_cases h : n < 10
  · rw [dec_small h]; simp
  · rw [dec_big h]; simp
theorem dec_not {n : Nat} {c : UInt8} (h : isDig (c.toNat : Int) = false) : c ∉ dec n := by
  intro hc
  have := dec_dig n
  rw [allDig, List.all_eq_true] at this
  rw [this c hc] at h; cases h
def valD (l : Tx) : Nat := l.foldl (fun n c => 10 * n + (c.toNat - 48)) 0
theorem valD_snoc (l : Tx) (c : UInt8) : valD (l ++ [c]) = 10 * valD l + (c.toNat - 48) := by simp [valD]
theorem valD_dec (n : Nat) : valD (dec n) = n := by
  induction n using Nat.strongRecOn with
  | ind n ih =>
    by_cases h : n < 10
    · rw [dec_small h]; simp only [valD, List.foldl_cons, List.foldl_nil]; rw [(dig_of n h).2]; omega
    · rw [dec_big h, valD_snoc, ih _ (by omega), (dig_of (n % 10) (by omega)).2]; omega
theorem dec_len_le : ∀ (k n : Nat), n < 10 ^ (k + 1) → (dec n).length ≤ k + 1 := by
  intro k
  induction k with
  | zero => intro n hn; rw [dec_small (by omega)]; simp
  | succ k ih =>
    intro n hn
    by_cases h10 : n < 10
    · rw [dec_small h10]; simp
    · rw [dec_big h10]
      have := ih (n / 10) (by rw [Nat.pow_succ] at hn; omega)
      simp; omega
/-- The number of one to five digits, or -1. -/
def num5 (l : Tx) : Int := if 1 ≤ l.length ∧ l.length ≤ 5 ∧ allDig l = true then (valD l : Int) else -1
theorem num5_dec {n : Nat} (h : n < 100000) : num5 (dec n) = (n : Int) := by
  unfold num5
  rw [if_pos ⟨dec_pos n, dec_len_le 4 n (by omega), dec_dig n⟩, valD_dec]
theorem valD_lt (l : Tx) (h : allDig l = true) : valD l < 10 ^ l.length := by
  have key : ∀ (l : Tx) (a : Nat), allDig l = true → l.foldl (fun n c => 10 * n + (c.toNat - 48)) a < (a + 1) * 10 ^ l.length := by
    intro l
    induction l with
    | nil => intro a _; simp
    | cons c l ih =>
      intro a ha
      simp only [allDig, List.all_cons, Bool.and_eq_true] at ha
      have h1 := ha.1
      simp only [isDig, Bool.and_eq_true, decide_eq_true_eq] at h1
      have := ih (10 * a + (c.toNat - 48)) ha.2
      simp only [List.foldl_cons, List.length_cons]
      refine Nat.lt_of_lt_of_le this ?_
      rw [Nat.pow_succ, Nat.mul_comm (10 ^ l.length) 10, ← Nat.mul_assoc]
      exact Nat.mul_le_mul_right _ (by omega)
  have := key l 0 h
  simpa [valD] using this
theorem num5_range (l : Tx) : -1 ≤ num5 l ∧ num5 l ≤ 99999 := by
  unfold num5
  split
  · rename_i h
    have h1 := valD_lt l h.2.2
    have h2 : (10 : Nat) ^ l.length ≤ 10 ^ 5 := Nat.pow_le_pow_right (by omega) h.2.1
    omega
  · omega
/-- Four bytes out of a text: the reference. -/
def quadFrom (l : Tx) : Option (List Int) := if quadOk ((cutB 46 l).map num5) = true ∧ quadText ((cutB 46 l).map num5) = l then some ((cutB 46 l).map num5) else none
theorem quadText_parts (a b c d : Int) : quadText [a, b, c, d] = dec a.toNat ++ 46 :: (dec b.toNat ++ 46 :: (dec c.toNat ++ 46 :: dec d.toNat)) := by
  simp [quadText, nth]
theorem no46 (n : Nat) : (46 : UInt8) ∉ dec n := dec_not (by decide)
theorem cut_quad (a b c d : Int) : cutB 46 (quadText [a, b, c, d]) = [dec a.toNat, dec b.toNat, dec c.toNat, dec d.toNat] := by
  rw [quadText_parts, cutB_hit (no46 _), cutB_hit (no46 _), cutB_hit (no46 _), cutB_miss (no46 _)]
theorem quad_four {q : List Int} (h : quadOk q = true) : ∃ a b c d : Int, q = [a, b, c, d] ∧ 0 ≤ a ∧ a ≤ 255 ∧ 0 ≤ b ∧ b ≤ 255 ∧ 0 ≤ c ∧ c ≤ 255 ∧ 0 ≤ d ∧ d ≤ 255 := by
  obtain ⟨h4, hb⟩ := quad_bytes h
  match q, h4 with
  | [a, b, c, d], _ =>
    have b0 := hb 0 (by omega)
    have b1 := hb 1 (by omega)
    have b2 := hb 2 (by omega)
    have b3 := hb 3 (by omega)
    simp [nth] at b0 b1 b2 b3
    exact ⟨a, b, c, d, rfl, b0.1, b0.2, b1.1, b1.2, b2.1, b2.2, b3.1, b3.2⟩
theorem quadFrom_text {q : List Int} (h : quadOk q = true) : quadFrom (quadText q) = some q := by
  obtain ⟨a, b, c, d, rfl, h0, h1, h2, h3, h4, h5, h6, h7⟩ := quad_four h
  have e : (cutB 46 (quadText [a, b, c, d])).map num5 = [a, b, c, d] := by
    rw [cut_quad]
    simp only [List.map_cons, List.map_nil]
    rw [num5_dec (by omega), num5_dec (by omega), num5_dec (by omega), num5_dec (by omega), Int.toNat_of_nonneg h0, Int.toNat_of_nonneg h2, Int.toNat_of_nonneg h4, Int.toNat_of_nonneg h6]
  unfold quadFrom
  rw [e, if_pos ⟨h, rfl⟩]
theorem quadFrom_sound {l : Tx} {q : List Int} (h : quadFrom l = some q) : quadOk q = true ∧ quadText q = l := by
  unfold quadFrom at h
  split at h
  · rename_i hc
    injection h with h
    subst h
    exact hc
  · cases h
/-- A number without leading zeros: the program. -/
def decim (l : Tx) : Option Int := match Lib.atoiAll l with | .ok n => if Lib.itoa n = l then some n else none | _ => none
theorem decim_sound {l : Tx} {n : Int} (h : decim l = some n) : Lib.itoa n = l := by
  unfold decim at h
  split at h
  · split at h
    · injection h with h; subst h; assumption
    · cases h
  · cases h
theorem decim_nil : decim [] = none := rfl
theorem parse_dig : ∀ (l : Tx) (a : Nat), allDig l = true → l.foldl (fun n c => 10 * n + (c.toNat - 48)) a < 1000000000000000000 → Lib.parseUint10 a l = .ok (l.foldl (fun n c => 10 * n + (c.toNat - 48)) a)
  | [], a, _, _ => rfl
  | c :: l, a, ha, hv => by
    simp only [allDig, List.all_cons, Bool.and_eq_true] at ha
    have h1 := ha.1
    simp only [isDig, Bool.and_eq_true, decide_eq_true_eq] at h1
    have hmono : ∀ (l : Tx) (b : Nat), b ≤ l.foldl (fun n c => 10 * n + (c.toNat - 48)) b := by
      intro l
      induction l with
      | nil => intro b; exact Nat.le_refl _
      | cons d l ih => intro b; simp only [List.foldl_cons]; exact Nat.le_trans (by omega) (ih _)
    simp only [List.foldl_cons] at hv ⊢
    have hb := hmono l (10 * a + (c.toNat - 48))
    have e : a * 10 + (c.toNat - 48) = 10 * a + (c.toNat - 48) := by omega
    rw [Lib.parseUint10, if_pos (by omega), if_neg (by omega), if_neg (by omega), e]
    exact parse_dig l _ ha.2 hv
theorem decim_dec {n : Nat} (h : n < 1000000000000000000) : decim (dec n) = some (n : Int) := by
  have hd := dec_dig n
  have hv := valD_dec n
  have hi : Lib.itoa (n : Int) = dec n := by rw [itoa_dec (by omega)]; simp
  cases hl : dec n with
  | nil => have := dec_pos n; rw [hl] at this; simp at this
  | cons c r =>
    have hc : isDig (c.toNat : Int) = true := by rw [hl, allDig, List.all_cons, Bool.and_eq_true] at hd; exact hd.1
    simp only [isDig, Bool.and_eq_true, decide_eq_true_eq] at hc
    have hp : Lib.parseMag (c :: r) = .ok n := by
      unfold Lib.parseMag
      rw [if_neg (by simp), ← hl]
      have := parse_dig (dec n) 0 hd (by show valD (dec n) < _; rw [hv]; exact h)
      rw [this]
      show Lib.NumEnd.ok (valD (dec n)) = _
      rw [hv]
    have ha : Lib.atoiAll (c :: r) = .ok (n : Int) := by
      unfold Lib.atoiAll
      simp only
      rw [if_neg (by omega), hp]
      simp only
      rw [if_neg (by omega), if_neg (by omega), if_neg (by omega)]
    unfold decim
    rw [ha]
    simp only
    rw [if_pos (by rw [hi, hl])]
def quadFromI (l : Tx) : Option (List Int) := match (cutB 46 l).mapM decim with | some q => if quadOk q = true then some q else none | none => none
theorem mapM_decim : ∀ {ls : List Tx} {q : List Int}, ls.mapM decim = some q → ls = q.map Lib.itoa
  | [], q, h => by simp at h; subst h; rfl
  | l :: ls, q, h => by
    simp only [List.mapM_cons, Option.bind_eq_bind, Option.bind_eq_some_iff, Option.pure_def, Option.some.injEq] at h
    obtain ⟨n, hn, r, hr, rfl⟩ := h
    rw [List.map_cons, ← mapM_decim hr, decim_sound hn]
theorem cutB_join (c : UInt8) (l : Tx) : Lib.join (cutB c l) [c] = l := by
  induction l with
  | nil => rfl
  | cons x xs ih =>
    cases hc : cutB c xs with
    | nil => exact absurd hc (cutB_ne c xs)
    | cons y ys =>
      rw [hc] at ih
      rw [cutB]
      by_cases h : x = c
      · rw [if_pos h, hc, Lib.join_cons]
        rw [Lib.join_cons] at ih
        rw [h, ← ih]
        simp [Lib.joinTail]
      · rw [if_neg h, hc]
        show Lib.join (([x] ++ y) :: ys) [c] = _
        rw [Lib.join_cons] at ih ⊢
        rw [List.append_assoc, ih]; rfl
theorem quadFromI_sound {l : Tx} {q : List Int} (h : quadFromI l = some q) : quadOk q = true ∧ quadText q = l := by
  unfold quadFromI at h
  split at h
  · rename_i q' hm
    split at h
    · rename_i hq
      injection h with h
      subst h
      refine ⟨hq, ?_⟩
      obtain ⟨a, b, c, d, rfl, h0, h1, h2, h3, h4, h5, h6, h7⟩ := quad_four hq
      have e := cutB_join 46 l
      rw [mapM_decim hm] at e
      simp only [List.map_cons, List.map_nil] at e
      rw [itoa_dec h0, itoa_dec h2, itoa_dec h4, itoa_dec h6, join4] at e
      rw [← e]
      simp [quadText, nth]
    · cases h
  · cases h
theorem quadFromI_text {q : List Int} (h : quadOk q = true) : quadFromI (quadText q) = some q := by
  obtain ⟨a, b, c, d, rfl, h0, h1, h2, h3, h4, h5, h6, h7⟩ := quad_four h
  have e : (cutB 46 (quadText [a, b, c, d])).mapM decim = some [a, b, c, d] := by
    rw [cut_quad]
    simp only [List.mapM_cons, List.mapM_nil]
    rw [decim_dec (by omega), decim_dec (by omega), decim_dec (by omega), decim_dec (by omega), Int.toNat_of_nonneg h0, Int.toNat_of_nonneg h2, Int.toNat_of_nonneg h4, Int.toNat_of_nonneg h6]
    rfl
  unfold quadFromI
  rw [e]
  simp only
  rw [if_pos h]
theorem quadFromI_eq (l : Tx) : quadFromI l = quadFrom l := by
  cases h : quadFromI l with
  | some q =>
    obtain ⟨h1, h2⟩ := quadFromI_sound h
    rw [← h2, quadFrom_text h1]
  | none =>
    cases k : quadFrom l with
    | none => rfl
    | some q =>
      obtain ⟨h1, h2⟩ := quadFrom_sound k
      rw [← h2, quadFromI_text h1] at h
      cases h
/-- No name is the text of four bytes. -/
theorem name_not_quad {l : Tx} (h : nameOk l = true) : quadFrom l = none := by
  cases k : quadFrom l with
  | none => rfl
  | some q =>
    obtain ⟨h1, h2⟩ := quadFrom_sound k
    obtain ⟨a, b, c, d, rfl, _⟩ := quad_four h1
    rw [← h2] at h
    unfold nameOk at h
    rw [cut_quad] at h
    simp only [Bool.and_eq_true] at h
    have h3 := h.2.2
    unfold lastLow nthS at h3
    simp only [List.length_cons, List.length_nil] at h3
    have hd := dec_dig d.toNat
    cases hl : dec d.toNat with
    | nil => have := dec_pos d.toNat; rw [hl] at this; simp at this
    | cons x y =>
      simp [hl] at h3
      rw [hl, allDig, List.all_cons, Bool.and_eq_true] at hd
      have h4 := hd.1
      simp only [isDig, isLow, Bool.and_eq_true, decide_eq_true_eq] at h3 h4
      omega
end Go.Proofs.YtgigjgjpglmpoaaGreatDoor
namespace Go.Proofs.YtgigjgjpglmpoaaGreatDoor
open Go.RowKit
/-- The address of a host and a port. -/
def adrOf (h : Tx) (p : Int) : Adr := match quadFrom h with | some q => ⟨1, q, [], p⟩ | none => ⟨3, [], h, p⟩
/-- The address of a text: the reference. -/
def addrFrom (l : Tx) : Option Adr := match cutB 58 l with | [h, p] => if adrOk (adrOf h (num5 p)) = true ∧ addrText (adrOf h (num5 p)) = l then some (adrOf h (num5 p)) else none | _ => none
/-- .. the program. -/
def addrFromI (l : Tx) : Option Adr := match decim (Lib.cut l [58]).2.1 with | some n => if adrOk (adrOf (Lib.cut l [58]).1 n) = true then some (adrOf (Lib.cut l [58]).1 n) else none | none => none
theorem no58 (n : Nat) : (58 : UInt8) ∉ dec n := dec_not (by decide)
theorem name_letters {l : Tx} (h : nameOk l = true) : ∀ c ∈ l, isLet (c.toNat : Int) = true ∨ c = 46 := by
  unfold nameOk at h
  simp only [Bool.and_eq_true] at h
  have key : ∀ l : Tx, (cutB 46 l).all pieceOk = true → ∀ c ∈ l, isLet (c.toNat : Int) = true ∨ c = 46 := by
    intro l hl c hc
    have hj := cutB_join 46 l
    have hp : ∀ p ∈ cutB 46 l, allLet p = true := fun p hp => (pieceOk_iff.1 (List.all_eq_true.1 hl p hp)).2
    have hm : ∀ (L : List Tx), (∀ p ∈ L, allLet p = true) → ∀ c ∈ Lib.join L [46], isLet (c.toNat : Int) = true ∨ c = 46 := by
      intro L hL c hc
      cases L with
      | nil => simp [Lib.join_nil] at hc
      | cons x r =>
        rw [Lib.join_cons, List.mem_append] at hc
        rcases hc with hc | hc
        · have := hL x (by simp)
          rw [allLet, List.all_eq_true] at this
          exact .inl (this c hc)
        · unfold Lib.joinTail at hc
          rw [List.mem_flatten] at hc
          obtain ⟨y, hy, hcy⟩ := hc
          rw [List.mem_map] at hy
          obtain ⟨z, hz, rfl⟩ := hy
          rw [List.mem_append] at hcy
          rcases hcy with hcy | hcy
          · exact .inr (by simpa using hcy)
          · have := hL z (by simp [hz])
            rw [allLet, List.all_eq_true] at this
            exact .inl (this c hcy)
    exact hm _ hp c (by rw [hj]; exact hc)
  exact key l h.1
theorem host_no {a : Adr} (h : adrOk a = true) {c : UInt8} (h1 : isLet (c.toNat : Int) = false) (h2 : c ≠ 46) : c ∉ hostText a := by
  have hd : isDig (c.toNat : Int) = false := by
    cases hx : isDig (c.toNat : Int) with
    | false => rfl
    | true => rw [isLet, hx] at h1; simp at h1
  rcases adr_kind h with ⟨k, q, _⟩ | ⟨k, nm, _⟩
  · rw [hostText, if_pos k]
    obtain ⟨w, x, y, z, e, _⟩ := quad_four q
    rw [e, quadText_parts]
    simp only [List.mem_append, List.mem_cons, not_or]
    exact ⟨dec_not hd, h2, dec_not hd, h2, dec_not hd, h2, dec_not hd⟩
  · rw [hostText, if_neg (by omega)]
    intro hc
    rcases name_letters nm c hc with e | e
    · rw [e] at h1; cases h1
    · exact h2 e
theorem host58 {a : Adr} (h : adrOk a = true) : (58 : UInt8) ∉ hostText a := host_no h (by decide) (by decide)
theorem adrOf_text {a : Adr} (h : adrOk a = true) : adrOf (hostText a) a.port = a := by
  obtain ⟨k, q, nm, p⟩ := a
  rcases adr_kind h with ⟨e1, e2, e3⟩ | ⟨e1, e2, e3⟩
  · simp only at e1 e2 e3
    subst e1 e3
    unfold adrOf
    rw [hostText, if_pos rfl, quadFrom_text e2]
  · simp only at e1 e2 e3
    subst e1 e3
    unfold adrOf
    rw [hostText, if_neg (by simp), name_not_quad e2]
theorem adrOf_host {h : Tx} {n : Int} : hostText (adrOf h n) = h ∧ (adrOf h n).port = n := by
  unfold adrOf
  split
  · rename_i q hq
    exact ⟨by rw [hostText, if_pos rfl]; exact (quadFrom_sound hq).2, rfl⟩
  · exact ⟨by rw [hostText, if_neg (by simp)], rfl⟩
theorem addrText_eq {a : Adr} : addrText a = hostText a ++ 58 :: dec a.port.toNat := by simp [addrText]
theorem addrFrom_text {a : Adr} (h : adrOk a = true) : addrFrom (addrText a) = some a := by
  have hp := adr_port h
  have hc : cutB 58 (addrText a) = [hostText a, dec a.port.toNat] := by rw [addrText_eq, cutB_hit (host58 h), cutB_miss (no58 _)]
  have hn : num5 (dec a.port.toNat) = a.port := by rw [num5_dec (by omega)]; omega
  unfold addrFrom
  rw [hc]
  simp only
  rw [hn, adrOf_text h, if_pos ⟨h, rfl⟩]
theorem addrFrom_sound {l : Tx} {a : Adr} (h : addrFrom l = some a) : adrOk a = true ∧ addrText a = l := by
  unfold addrFrom at h
  split at h
  · split at h
    · rename_i hc
      injection h with h
      subst h
      exact hc
    · cases h
  · cases h
theorem cut_hit {c : UInt8} {a b : Tx} (h : c ∉ a) : Lib.cut (a ++ c :: b) [c] = (a, b, true) := by
  have hi : Lib.index (a ++ c :: b) [c] = (a.length : Int) := by
    rcases idx_cases c (a ++ c :: b) with ⟨_, h2⟩ | ⟨a', b', h1, h2, h3⟩
    · simp at h2
    · rw [h3]
      have e : cutB c (a ++ c :: b) = cutB c (a' ++ c :: b') := by rw [h1]
      rw [cutB_hit h, cutB_hit h2] at e
      injection e with e1 e2
      rw [e1]
  unfold Lib.cut
  rw [hi, if_pos (by omega)]
  simp
theorem cut_miss {c : UInt8} {l : Tx} (h : c ∉ l) : Lib.cut l [c] = (l, [], false) := by
  unfold Lib.cut
  rcases idx_cases c l with ⟨h1, _⟩ | ⟨a, b, h1, _, _⟩
  · rw [h1, if_neg (by decide)]
  · rw [h1] at h; simp at h
theorem addrFromI_text {a : Adr} (h : adrOk a = true) : addrFromI (addrText a) = some a := by
  have hp := adr_port h
  have hn : decim (dec a.port.toNat) = some a.port := by rw [decim_dec (by omega)]; congr 1; omega
  unfold addrFromI
  rw [addrText_eq, cut_hit (host58 h)]
  simp only
  rw [hn]
  simp only
  rw [adrOf_text h, if_pos h]
theorem addrFromI_sound {l : Tx} {a : Adr} (h : addrFromI l = some a) : adrOk a = true ∧ addrText a = l := by
  unfold addrFromI at h
  split at h
  · rename_i n hd
    split at h
    · rename_i hok
      injection h with h
      subst h
      refine ⟨hok, ?_⟩
      by_cases hm : (58 : UInt8) ∈ l
      · obtain ⟨x, y, rfl, hx⟩ : ∃ x y, l = x ++ 58 :: y ∧ (58 : UInt8) ∉ x := by
          rcases idx_cases 58 l with ⟨_, h2⟩ | ⟨x, y, h1, h2, _⟩
          · exact absurd hm h2
          · exact ⟨x, y, h1, h2⟩
        rw [cut_hit hx] at hd hok ⊢
        simp only at hd hok ⊢
        have hp := adr_port hok
        rw [adrOf_host.2] at hp
        have hy := decim_sound hd
        rw [itoa_dec hp.1] at hy
        rw [addrText_eq, adrOf_host.1, adrOf_host.2, hy]
      · rw [cut_miss hm] at hd
        cases hd
    · cases h
  · cases h
theorem addrFromI_eq (l : Tx) : addrFromI l = addrFrom l := by
  cases h : addrFromI l with
  | some a =>
    obtain ⟨h1, h2⟩ := addrFromI_sound h
    rw [← h2, addrFrom_text h1]
  | none =>
    cases k : addrFrom l with
    | none => rfl
    | some a =>
      obtain ⟨h1, h2⟩ := addrFrom_sound k
      rw [← h2, addrFromI_text h1] at h
      cases h
end Go.Proofs.YtgigjgjpglmpoaaGreatDoor
namespace Go.Proofs.YtgigjgjpglmpoaaGreatDoor
open Go.RowKit
theorem parOk_turn (p : Par) : parOk ⟨p.dst, p.src⟩ = parOk p := by
  simp only [parOk]
  cases adrOk p.src <;> cases adrOk p.dst <;> cases decide (p.src.kind = 1) <;> cases decide (p.dst.kind = 1) <;> rfl
theorem parOk_same {p : Par} (h : parOk p = true) : parOk ⟨p.dst, p.dst⟩ = true := by
  simp only [parOk, Bool.and_eq_true] at h ⊢
  exact ⟨h.2.1, h.2.1, h.2.2.2, h.2.2.2⟩
theorem lineText_turn (p : Par) : (lineText ⟨p.dst, p.src⟩).length = (lineText p).length := by
  simp [lineText]; omega
theorem lineText_begin (p : Par) : (lineText p).take 11 = lineT := by
  have h : lineT.length = 11 := rfl
  unfold lineText
  simp only [List.append_assoc]
  rw [List.take_append_of_le_length (by omega), List.take_of_length_le (by omega)]
theorem lineText_sum {p : Par} (h : parOk p = true) : (lineText p).length = (addrText p.src).length + (addrText p.dst).length + 14 := by
  obtain ⟨_, _, k1, k2, _⟩ := par_parts h
  have hl : lineT.length = 11 := rfl
  simp [lineText, addrText, hostText, k1, k2, hl]; omega
end Go.Proofs.YtgigjgjpglmpoaaGreatDoor
namespace Go.Proofs.YtgigjgjpglmpoaaGreatDoor
open Go.RowKit
/-- A line without its end. -/
def lineBody (p : Par) : Tx := [80, 82, 79, 88, 89] ++ 32 :: ([84, 67, 80, 52] ++ 32 :: (quadText p.src.quad ++ 32 :: (quadText p.dst.quad ++ 32 :: (dec p.src.port.toNat ++ 32 :: dec p.dst.port.toNat))))
theorem lineText_body (p : Par) : lineText p = lineBody p ++ [13, 10] := by simp [lineText, lineBody, lineT]
theorem quadText_no {q : List Int} (h : quadOk q = true) {c : UInt8} (hd : isDig (c.toNat : Int) = false) (h2 : c ≠ 46) : c ∉ quadText q := by
  obtain ⟨w, x, y, z, e, _⟩ := quad_four h
  rw [e, quadText_parts]
  simp only [List.mem_append, List.mem_cons, not_or]
  exact ⟨dec_not hd, h2, dec_not hd, h2, dec_not hd, h2, dec_not hd⟩
theorem body_no13 {p : Par} (h : parOk p = true) : (13 : UInt8) ∉ lineBody p := by
  obtain ⟨_, _, _, _, q1, q2, _⟩ := par_parts h
  unfold lineBody
  simp only [List.mem_append, List.mem_cons, not_or]
  refine ⟨by decide, by decide, by decide, by decide, quadText_no q1 (by decide) (by decide), by decide, quadText_no q2 (by decide) (by decide), by decide, dec_not (by decide), by decide, dec_not (by decide)⟩
theorem body_cut {p : Par} (h : parOk p = true) : cutB 32 (lineBody p) = [[80, 82, 79, 88, 89], [84, 67, 80, 52], quadText p.src.quad, quadText p.dst.quad, dec p.src.port.toNat, dec p.dst.port.toNat] := by
  obtain ⟨_, _, _, _, q1, q2, _⟩ := par_parts h
  unfold lineBody
  rw [cutB_hit (by decide), cutB_hit (by decide), cutB_hit (quadText_no q1 (by decide) (by decide)), cutB_hit (quadText_no q2 (by decide) (by decide)), cutB_hit (dec_not (by decide)), cutB_miss (dec_not (by decide))]
theorem idx_crlf {b r : Tx} (h : (13 : UInt8) ∉ b) : Lib.index (b ++ 13 :: 10 :: r) [13, 10] = (b.length : Int) := by
  refine Lib.index_hit (fun j hj => ?_) (by simp) ?_
  · unfold Lib.occAt
    have hj2 : j < (b ++ 13 :: 10 :: r).length := by simp; omega
    rw [List.drop_eq_getElem_cons hj2]
    have e : (b ++ 13 :: 10 :: r)[j] = b[j] := List.getElem_append_left hj
    have hne : ¬ (13 : UInt8) = b[j] := fun e => h (by rw [e]; exact List.getElem_mem hj)
    rw [e]
    simp [List.isPrefixOf, hne]
  · unfold Lib.occAt
    simp [List.isPrefixOf]
/-- The pair of the line that a text begins with: the reference. -/
def lineFrom (l : Tx) : Option (Par × Nat) :=
  if 0 ≤ Lib.index l [13, 10] then
    match cutB 32 (l.take (Lib.index l [13, 10]).toNat) with
    | [_, _, a, b, c, d] => if parOk ⟨adrOf a (num5 c), adrOf b (num5 d)⟩ = true ∧ lineText ⟨adrOf a (num5 c), adrOf b (num5 d)⟩ = l.take ((Lib.index l [13, 10]).toNat + 2) then some (⟨adrOf a (num5 c), adrOf b (num5 d)⟩, (Lib.index l [13, 10]).toNat + 2) else none
    | _ => none
  else none
/-- .. the program. -/
def lineFromI (l : Tx) : Option (Par × Nat) :=
  match cutB 32 (Lib.cut l [13, 10]).1 with
  | [_, _, a, b, c, d] => match addrFrom (a ++ [58] ++ c), addrFrom (b ++ [58] ++ d) with
    | some x, some y => if parOk ⟨x, y⟩ = true ∧ Lib.hasPrefix l (lineText ⟨x, y⟩) = true then some (⟨x, y⟩, (lineText ⟨x, y⟩).length) else none
    | _, _ => none
  | _ => none
theorem lineFrom_sound {l : Tx} {p : Par} {n : Nat} (h : lineFrom l = some (p, n)) : parOk p = true ∧ n = (lineText p).length ∧ lineText p = l.take n := by
  unfold lineFrom at h
  split at h
  · rename_i hi
    split at h
    · split at h
      · rename_i hc
        injection h with h
        injection h with h1 h2
        subst h1 h2
        have hr := Lib.index_room l [13, 10] hi
        refine ⟨hc.1, ?_, hc.2⟩
        rw [hc.2, List.length_take]
        simp at hr
        omega
      · cases h
    · cases h
  · cases h
theorem par_eta {p : Par} (h : parOk p = true) : adrOf (quadText p.src.quad) p.src.port = p.src ∧ adrOf (quadText p.dst.quad) p.dst.port = p.dst := by
  obtain ⟨h1, h2, k1, k2, _⟩ := par_parts h
  have e1 := adrOf_text h1
  have e2 := adrOf_text h2
  rw [hostText, if_pos k1] at e1
  rw [hostText, if_pos k2] at e2
  exact ⟨e1, e2⟩
theorem lineFrom_text {p : Par} (h : parOk p = true) (r : Tx) : lineFrom (lineText p ++ r) = some (p, (lineText p).length) := by
  obtain ⟨h1, h2, _⟩ := par_parts h
  have p1 := adr_port h1
  have p2 := adr_port h2
  have el : lineText p ++ r = lineBody p ++ 13 :: 10 :: r := by rw [lineText_body]; simp
  have hi := idx_crlf (b := lineBody p) (r := r) (body_no13 h)
  rw [← el] at hi
  have hl : (lineText p).length = (lineBody p).length + 2 := by rw [lineText_body]; simp
  have ht : (lineText p ++ r).take (lineBody p).length = lineBody p := by rw [el]; simp
  have ht2 : (lineText p ++ r).take ((lineBody p).length + 2) = lineText p := by rw [← hl]; simp
  have n1 : num5 (dec p.src.port.toNat) = p.src.port := by rw [num5_dec (by omega)]; omega
  have n2 : num5 (dec p.dst.port.toNat) = p.dst.port := by rw [num5_dec (by omega)]; omega
  unfold lineFrom
  rw [hi, if_pos (by omega), Int.toNat_natCast, ht, body_cut h]
  simp only
  rw [n1, n2, (par_eta h).1, (par_eta h).2, ht2, hl]
  rw [if_pos ⟨h, rfl⟩]
theorem take_prefix {t l : Tx} (h : Lib.hasPrefix l t = true) : t = l.take t.length := by
  unfold Lib.hasPrefix at h
  rw [List.isPrefixOf_iff_prefix] at h
  exact (List.prefix_iff_eq_take.1 h)
theorem lineFromI_sound {l : Tx} {p : Par} {n : Nat} (h : lineFromI l = some (p, n)) : parOk p = true ∧ n = (lineText p).length ∧ lineText p = l.take n := by
  unfold lineFromI at h
  split at h
  · split at h
    · split at h
      · rename_i hc
        injection h with h
        injection h with h1 h2
        subst h1 h2
        exact ⟨hc.1, rfl, take_prefix hc.2⟩
      · cases h
    · cases h
  · cases h
theorem cut_crlf {b r : Tx} (h : (13 : UInt8) ∉ b) : (Lib.cut (b ++ 13 :: 10 :: r) [13, 10]).1 = b := by
  unfold Lib.cut
  rw [idx_crlf h, if_pos (by omega)]
  simp
theorem lineFromI_text {p : Par} (h : parOk p = true) (r : Tx) : lineFromI (lineText p ++ r) = some (p, (lineText p).length) := by
  obtain ⟨h1, h2, k1, k2, _⟩ := par_parts h
  have el : lineText p ++ r = lineBody p ++ 13 :: 10 :: r := by rw [lineText_body]; simp
  have a1 : quadText p.src.quad ++ [58] ++ dec p.src.port.toNat = addrText p.src := by rw [addrText, hostText, if_pos k1]
  have a2 : quadText p.dst.quad ++ [58] ++ dec p.dst.port.toNat = addrText p.dst := by rw [addrText, hostText, if_pos k2]
  have hp : Lib.hasPrefix (lineText p ++ r) (lineText p) = true := by unfold Lib.hasPrefix; rw [List.isPrefixOf_iff_prefix]; exact List.prefix_append _ _
  have hc : (Lib.cut (lineText p ++ r) [13, 10]).1 = lineBody p := by rw [el]; exact cut_crlf (body_no13 h)
  unfold lineFromI
  rw [hc, body_cut h]
  simp only
  rw [a1, a2, addrFrom_text h1, addrFrom_text h2]
  simp only
  rw [if_pos ⟨h, hp⟩]
theorem take_append_rest {t l : Tx} {n : Nat} (h : t = l.take n) : l = t ++ l.drop n := by rw [h, List.take_append_drop]
theorem lineFromI_eq (l : Tx) : lineFromI l = lineFrom l := by
  cases h : lineFromI l with
  | some r =>
    obtain ⟨p, n⟩ := r
    obtain ⟨h1, h2, h3⟩ := lineFromI_sound h
    have := lineFrom_text h1 (l.drop n)
    rw [← take_append_rest h3] at this
    rw [this, h2]
  | none =>
    cases k : lineFrom l with
    | none => rfl
    | some r =>
      obtain ⟨p, n⟩ := r
      obtain ⟨h1, h2, h3⟩ := lineFrom_sound k
      have := lineFromI_text h1 (l.drop n)
      rw [← take_append_rest h3, h] at this
      cases this
theorem tl_eq (a b : ByteArray) : (a.toList == b.toList) = decide (tx a = tx b) := by
  rw [ByteArray.toList_eq, ByteArray.toList_eq, Bool.eq_iff_iff, beq_iff_eq, decide_eq_true_iff]; rfl
theorem lineFrom_cut {p : Par} (h : parOk p = true) {k : Nat} (hk : k < (lineText p).length) : lineFrom ((lineText p).take k) = none := by
  cases hq : lineFrom ((lineText p).take k) with
  | none => rfl
  | some r =>
    obtain ⟨q, n⟩ := r
    obtain ⟨h1, h2, h3⟩ := lineFrom_sound hq
    have hn := congrArg List.length h3
    rw [← h2, List.length_take, List.length_take] at hn
    have hl : (lineText p).length = (lineBody p).length + 2 := by rw [lineText_body]; simp
    have hl2 : (lineText q).length = (lineBody q).length + 2 := by rw [lineText_body]; simp
    have e : (lineText q).take (n-1) = (lineBody p).take (n-1) := by
      rw [h3, List.take_take, List.take_take, lineText_body p, List.take_append_of_le_length (by omega)]
      congr 1; omega
    have e2 : (lineText q).take (n-1) = lineBody q ++ [13] := by
      rw [lineText_body q, show lineBody q ++ [13, 10] = (lineBody q ++ [13]) ++ [10] by simp, List.take_append_of_le_length (by simp; omega), List.take_of_length_le (by simp; omega)]
    have h13 : (13 : UInt8) ∈ (lineBody p).take (n-1) := by rw [← e, e2]; simp
    exact absurd (List.mem_of_mem_take h13) (body_no13 h)
theorem six_len {l a b x y z u : Tx} (h : cutB 32 l = [a, b, x, y, z, u]) : a.length + b.length + x.length + y.length + z.length + u.length + 5 = l.length := by
  have := congrArg List.length (cutB_join 32 l)
  rw [h, join6] at this
  simp at this
  omega
theorem addL {P : Program} (x y : ByteArray) (l : Tx) (h : tx x ++ tx y = l) (hl : l.length ≤ 8000000) : ∀ w, (Op.stringOp .add x y).run P w = .ok (.string (S l)) w := by
  intro w
  have hx := tx_len x
  have hy := tx_len y
  have hh : (tx x).length + (tx y).length = l.length := by rw [← h, List.length_append]
  rw [run_string_add (P := P) w x y (by omega) (by omega)]
  rw [show x ++ y = S l from S_eq (by rw [tx_app]; exact h)]
end Go.Proofs.YtgigjgjpglmpoaaGreatDoor
namespace Go.Proofs.YtgigjgjpglmpoaaGreatDoor
open Go.RowKit
/-- What asks for a tunnel to an address. -/
def connOf (a : Adr) : Tx := connText (addrText a)
theorem addrText_no32 {a : Adr} (h : adrOk a = true) : (32 : UInt8) ∉ addrText a := by
  rw [addrText_eq]
  simp only [List.mem_append, List.mem_cons, not_or]
  exact ⟨host_no h (by decide) (by decide), by decide, dec_not (by decide)⟩
/-- The letters up to the next blank, or none. -/
def wordOf (l : Tx) : Tx := if (32 : UInt8) ∈ l then (cutB 32 l).headD [] else []
/-- The address to which a text asks for a tunnel: the reference. -/
def connFrom (l : Tx) : Option (Adr × Nat) :=
  if Lib.hasPrefix l tunnelT = true then
    match addrFrom (wordOf (l.drop 8)) with
    | some a => if Lib.hasPrefix l (connOf a) = true then some (a, (connOf a).length) else none
    | none => none
  else none
/-- .. the program. -/
def connFromI (l : Tx) : Option (Adr × Nat) :=
  match addrFrom (Lib.cut (if Lib.hasPrefix l tunnelT = true then l.drop 8 else l) [32]).1 with
  | some a => if Lib.hasPrefix l (connOf a) = true then some (a, (connOf a).length) else none
  | none => none
theorem conn_parts (a : Adr) (r : Tx) : connOf a ++ r = tunnelT ++ (addrText a ++ 32 :: ([72, 84, 84, 80, 47, 49, 46, 49, 13, 10, 72, 111, 115, 116, 58, 32] ++ (addrText a ++ ([13, 10, 13, 10] ++ r)))) := by
  simp [connOf, connText, httpT]
theorem prefix_app (a b : Tx) : Lib.hasPrefix (a ++ b) a = true := by unfold Lib.hasPrefix; rw [List.isPrefixOf_iff_prefix]; exact List.prefix_append _ _
theorem conn_tunnel (a : Adr) (r : Tx) : Lib.hasPrefix (connOf a ++ r) tunnelT = true := by rw [conn_parts]; exact prefix_app _ _
theorem conn_drop (a : Adr) (r : Tx) : (connOf a ++ r).drop 8 = addrText a ++ 32 :: ([72, 84, 84, 80, 47, 49, 46, 49, 13, 10, 72, 111, 115, 116, 58, 32] ++ (addrText a ++ ([13, 10, 13, 10] ++ r))) := by
  rw [conn_parts]; rfl
theorem connFrom_text {a : Adr} (h : adrOk a = true) (r : Tx) : connFrom (connOf a ++ r) = some (a, (connOf a).length) := by
  unfold connFrom
  rw [if_pos (conn_tunnel a r), conn_drop]
  unfold wordOf
  rw [if_pos (by simp), cutB_hit (addrText_no32 h)]
  simp only [List.headD_cons]
  rw [addrFrom_text h]
  simp only
  rw [if_pos (prefix_app _ _)]
theorem connFrom_sound {l : Tx} {a : Adr} {n : Nat} (h : connFrom l = some (a, n)) : adrOk a = true ∧ n = (connOf a).length ∧ connOf a = l.take n := by
  unfold connFrom at h
  split at h
  · split at h
    · rename_i b hb
      split at h
      · rename_i hc
        injection h with h
        injection h with h1 h2
        subst h1 h2
        exact ⟨(addrFrom_sound hb).1, rfl, take_prefix hc⟩
      · cases h
    · cases h
  · cases h
theorem connFromI_text {a : Adr} (h : adrOk a = true) (r : Tx) : connFromI (connOf a ++ r) = some (a, (connOf a).length) := by
  unfold connFromI
  rw [if_pos (conn_tunnel a r), conn_drop, cut_hit (addrText_no32 h)]
  simp only
  rw [addrFrom_text h]
  simp only
  rw [if_pos (prefix_app _ _)]
theorem connFromI_sound {l : Tx} {a : Adr} {n : Nat} (h : connFromI l = some (a, n)) : adrOk a = true ∧ n = (connOf a).length ∧ connOf a = l.take n := by
  unfold connFromI at h
  split at h
  · rename_i b hb
    split at h
    · rename_i hc
      injection h with h
      injection h with h1 h2
      subst h1 h2
      exact ⟨(addrFrom_sound hb).1, rfl, take_prefix hc⟩
    · cases h
  · cases h
theorem connFromI_eq (l : Tx) : connFromI l = connFrom l := by
  cases h : connFromI l with
  | some r =>
    obtain ⟨a, n⟩ := r
    obtain ⟨h1, h2, h3⟩ := connFromI_sound h
    have := connFrom_text h1 (l.drop n)
    rw [← take_append_rest h3] at this
    rw [this, h2]
  | none =>
    cases k : connFrom l with
    | none => rfl
    | some r =>
      obtain ⟨a, n⟩ := r
      obtain ⟨h1, h2, h3⟩ := connFrom_sound k
      have := connFromI_text h1 (l.drop n)
      rw [← take_append_rest h3, h] at this
      cases this
end Go.Proofs.YtgigjgjpglmpoaaGreatDoor
