/- Plain words for the library: cutting at a letter, joining, decimals. -/
import Derived.Test.YtfambpdhnicghaaGreatDoorGD
import Derived.Test.YtfambpdhnicghaaGreatDoorGE
import Derived.Lib.Split
import Derived.Lib.Join
import Derived.Lib.ItoaNum
namespace Go.Proofs.YtfambpdhnicghaaGreatDoor
open Go.RowKit
theorem idx_nil (c : UInt8) : Lib.index [] [c] = -1 := rfl
theorem idx_cons (x c : UInt8) (l : Tx) : Lib.index (x :: l) [c] = if c = x then 0 else if Lib.index l [c] = -1 then -1 else Lib.index l [c] + 1 := by
  rw [Lib.index]
  simp [List.isPrefixOf]
theorem idx_cases (c : UInt8) (l : Tx) : (Lib.index l [c] = -1 ∧ c ∉ l) ∨ ∃ a b, l = a ++ c :: b ∧ c ∉ a ∧ Lib.index l [c] = ((a.length : Nat) : Int) := by
  induction l with
  | nil => exact .inl ⟨rfl, by simp⟩
  | cons x xs ih =>
    rw [idx_cons]
    by_cases h : c = x
    · exact .inr ⟨[], xs, by rw [h]; rfl, by simp, by rw [if_pos h]; rfl⟩
    · rw [if_neg h]
      rcases ih with ⟨h1, h2⟩ | ⟨a, b, h1, h2, h3⟩
      · exact .inl ⟨by rw [if_pos h1], by simp [h, h2]⟩
      · exact .inr ⟨x :: a, b, by rw [h1]; rfl, by simp [h, h2], by rw [h3, if_neg (by omega)]; simp⟩
theorem cutB_miss {c : UInt8} {l : Tx} (h : c ∉ l) : cutB c l = [l] := by
  induction l with
  | nil => rfl
  | cons x xs ih =>
    simp only [List.mem_cons, not_or] at h
    rw [cutB, if_neg (fun e => h.1 e.symm), ih h.2]; rfl
theorem cutB_hit {c : UInt8} {a b : Tx} (h : c ∉ a) : cutB c (a ++ c :: b) = a :: cutB c b := by
  induction a with
  | nil => simp [cutB]
  | cons x xs ih =>
    simp only [List.mem_cons, not_or] at h
    rw [List.cons_append, cutB, if_neg (fun e => h.1 e.symm), ih h.2]; rfl
theorem splitK_cut (c : UInt8) : ∀ (n : Nat) (l : Tx), l.length < n → Lib.splitK [c] 0 (Lib.count l [c]) l = cutB c l := by
  intro n
  induction n with
  | zero => intro l h; omega
  | succ n ih =>
    intro l hl
    rcases idx_cases c l with ⟨h1, h2⟩ | ⟨a, b, h1, h2, h3⟩
    · rw [Lib.count_miss h1, cutB_miss h2]; rfl
    · have e : l.drop (a.length + [c].length) = b := by rw [h1]; simp
      have hc := Lib.count_hit (s := l) (sub := [c]) (by simp) h3
      rw [e] at hc
      rw [hc, Nat.add_comm, Lib.splitK, if_neg (by rw [h3]; simp <;> omega), h3, Int.toNat_natCast, e, ih b (by rw [h1] at hl; simp at hl; omega)]
      rw [h1, cutB_hit h2]
      simp
theorem split_tx (s : ByteArray) (c : UInt8) : (Lib.splitB ⟨#[c]⟩ 0 (Lib.countB s ⟨#[c]⟩) s).map tx = cutB c (tx s) :=
  (Lib.splitB_data ⟨#[c]⟩ 0 _ s).trans (splitK_cut c _ _ (Nat.lt_succ_self _))
theorem dec_lib (n : Nat) : Lib.decDigits n = dec n := by
  induction n using Nat.strongRecOn with
  | ind n ih =>
    by_cases h : n < 10
    · rw [dec_small h, Lib.decDigits, dif_pos h]
    · rw [dec_big h, Lib.decDigits, dif_neg h, ih _ (by omega)]
theorem itoa_dec {n : Int} (h : 0 ≤ n) : Lib.itoa n = dec n.toNat := by
  rw [Lib.itoa, if_neg (by omega), dec_lib]
theorem join4 (a b c d : Tx) (p : UInt8) : Lib.join [a, b, c, d] [p] = a ++ [p] ++ b ++ [p] ++ c ++ [p] ++ d := by
  simp [Lib.join, List.intercalate]
theorem join6 (a b c d e f : Tx) (p : UInt8) : Lib.join [a, b, c, d, e, f] [p] = a ++ [p] ++ b ++ [p] ++ c ++ [p] ++ d ++ [p] ++ e ++ [p] ++ f := by
  simp [Lib.join, List.intercalate]
/-- Where a letter stands in "-" or in nothing. -/
theorem idxByte_one (x c : UInt8) : Lib.indexByte [x] c = if x = c then 0 else -1 := by
  simp [Lib.indexByte]
theorem idxByte_nil (c : UInt8) : Lib.indexByte [] c = -1 := rfl
end Go.Proofs.YtfambpdhnicghaaGreatDoor
