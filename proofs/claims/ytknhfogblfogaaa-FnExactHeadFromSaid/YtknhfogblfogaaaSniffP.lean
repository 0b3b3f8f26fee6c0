/- What bytes begin with: the plain law. -/
import Derived.Test.YtknhfogblfogaaaFrame
import Derived.Test.YtknhfogblfogaaaLTags
namespace Go.Proofs.Ytknhfogblfogaaa
open Go.RowKit
theorem nth0_take {xs : List Int} {k : Nat} (h : 0 < k) : nth (xs.take k) 0 = nth xs 0 := nth_take h
theorem alike_iff {xs ys : List Int} : alike xs ys = true ↔ xs.take (min xs.length ys.length) = ys.take (min xs.length ys.length) := by unfold alike; rw [beq_iff_eq]
theorem alike_head {xs ys : List Int} (h : alike xs ys = true) (hx : 0 < xs.length) (hy : 0 < ys.length) : nth xs 0 = nth ys 0 := by
  have h1 := alike_iff.1 h
  have h2 : nth (xs.take (min xs.length ys.length)) 0 = nth (ys.take (min xs.length ys.length)) 0 := by rw [h1]
  rwa [nth_take (by omega), nth_take (by omega)] at h2
theorem alike_not {xs ys : List Int} (hx : 0 < xs.length) (hy : 0 < ys.length) (h : nth xs 0 ≠ nth ys 0) : alike xs ys = false := by
  cases ha : alike xs ys
  · rfl
  · exact absurd (alike_head ha hx hy) h
theorem alike_take {xs ys : List Int} (h : alike xs ys = true) (k : Nat) : alike (xs.take k) ys = true := by
  have h1 := alike_iff.1 h
  rw [alike_iff, List.take_take, List.length_take]
  have e : min (min (min k xs.length) ys.length) k = min k (min xs.length ys.length) := by omega
  have e2 : min (min k xs.length) ys.length = min k (min xs.length ys.length) := by omega
  rw [e2, show min (min k (min xs.length ys.length)) k = min k (min xs.length ys.length) by omega]
  calc xs.take (min k (min xs.length ys.length)) = (xs.take (min xs.length ys.length)).take k := by rw [List.take_take]
    _ = (ys.take (min xs.length ys.length)).take k := by rw [h1]
    _ = ys.take (min k (min xs.length ys.length)) := by rw [List.take_take]
theorem alike_app {xs ys zs : List Int} (hl : ys.length ≤ xs.length) : alike (xs ++ zs) ys = alike xs ys := by
  unfold alike
  rw [List.length_append, Nat.min_eq_right (show ys.length ≤ xs.length + zs.length by omega), Nat.min_eq_right hl, List.take_append_of_le_length hl]
theorem bv_take {xs : List Int} (h : bv xs = true) (k : Nat) : bv (xs.take k) = true := by
  simp only [bv, Bool.and_eq_true, List.all_eq_true, decide_eq_true_eq] at h ⊢
  exact ⟨fun x hx => h.1 x (List.mem_of_mem_take hx), by rw [List.length_take]; omega⟩
theorem tunnelB_len : tunnelB.length = 8 := rfl
theorem lineB_len : lineB.length = 6 := rfl
theorem sniff_bad {xs : List Int} (h : bv xs = false) : sniffKind xs = 6 := by unfold sniffKind; rw [if_pos h]
theorem sniff_mt {xs : List Int} (h : bv xs = true) (hl : xs.length = 0) : sniffKind xs = 0 := by unfold sniffKind; rw [if_neg (by rw [h]; decide), if_pos hl]
section
variable {xs : List Int} (h : bv xs = true) (hl : 0 < xs.length)
include h hl
theorem sniff_4 (e : nth xs 0 = 4) : sniffKind xs = 1 := by unfold sniffKind; rw [if_neg (by rw [h]; decide), if_neg (by omega), if_pos e]
theorem sniff_5 (e : nth xs 0 = 5) : sniffKind xs = 2 := by unfold sniffKind; rw [if_neg (by rw [h]; decide), if_neg (by omega), if_neg (by omega), if_pos e]
theorem sniff_T (e : nth xs 0 = 67) : sniffKind xs = if alike xs tunnelB = true then (if 8 ≤ xs.length then 3 else 0) else 6 := by
  have n1 := alike_not hl (show 0 < lineB.length by decide) (by rw [e]; decide)
  have n2 := alike_not hl (show 0 < headStart.length by decide) (by rw [e]; decide)
  unfold sniffKind
  rw [if_neg (by rw [h]; decide), if_neg (by omega), if_neg (by omega), if_neg (by omega), if_neg (show ¬ alike xs lineB = true by rw [n1]; decide), if_neg (show ¬ alike xs headStart = true by rw [n2]; decide)]
theorem sniff_L (e : nth xs 0 = 80) : sniffKind xs = if alike xs lineB = true then (if 6 ≤ xs.length then 4 else 0) else 6 := by
  have n1 := alike_not hl (show 0 < tunnelB.length by decide) (by rw [e]; decide)
  have n2 := alike_not hl (show 0 < headStart.length by decide) (by rw [e]; decide)
  unfold sniffKind
  rw [if_neg (by rw [h]; decide), if_neg (by omega), if_neg (by omega), if_neg (by omega), if_neg (show ¬ alike xs tunnelB = true by rw [n1]; decide), if_neg (show ¬ alike xs headStart = true by rw [n2]; decide)]
theorem sniff_H (e : nth xs 0 = 13) : sniffKind xs = if alike xs headStart = true then (if 14 ≤ xs.length then 5 else 0) else 6 := by
  have n1 := alike_not hl (show 0 < tunnelB.length by decide) (by rw [e]; decide)
  have n2 := alike_not hl (show 0 < lineB.length by decide) (by rw [e]; decide)
  unfold sniffKind
  rw [if_neg (by rw [h]; decide), if_neg (by omega), if_neg (by omega), if_neg (by omega), if_neg (show ¬ alike xs tunnelB = true by rw [n1]; decide), if_neg (show ¬ alike xs lineB = true by rw [n2]; decide)]
theorem sniff_O (e4 : nth xs 0 ≠ 4) (e5 : nth xs 0 ≠ 5) (e67 : nth xs 0 ≠ 67) (e80 : nth xs 0 ≠ 80) (e13 : nth xs 0 ≠ 13) : sniffKind xs = 6 := by
  have n0 := alike_not hl (show 0 < tunnelB.length by decide) e67
  have n1 := alike_not hl (show 0 < lineB.length by decide) e80
  have n2 := alike_not hl (show 0 < headStart.length by decide) e13
  unfold sniffKind
  rw [if_neg (by rw [h]; decide), if_neg (by omega), if_neg e4, if_neg e5, if_neg (show ¬ alike xs tunnelB = true by rw [n0]; decide), if_neg (show ¬ alike xs lineB = true by rw [n1]; decide), if_neg (show ¬ alike xs headStart = true by rw [n2]; decide)]
end
theorem sniff_range (xs : List Int) : 0 ≤ sniffKind xs ∧ sniffKind xs ≤ 6 := by
  unfold sniffKind
  repeat' split
  all_goals omega
theorem sniff_first {xs : List Int} (h : bv xs = true) (hl : 0 < xs.length) : (sniffKind xs = 1 ↔ nth xs 0 = 4) ∧ (sniffKind xs = 2 ↔ nth xs 0 = 5) := by
  by_cases e4 : nth xs 0 = 4
  · rw [sniff_4 h hl e4]; omega
  by_cases e5 : nth xs 0 = 5
  · rw [sniff_5 h hl e5]; omega
  by_cases e67 : nth xs 0 = 67
  · rw [sniff_T h hl e67]; repeat' split
    all_goals omega
  by_cases e80 : nth xs 0 = 80
  · rw [sniff_L h hl e80]; repeat' split
    all_goals omega
  by_cases e13 : nth xs 0 = 13
  · rw [sniff_H h hl e13]; repeat' split
    all_goals omega
  rw [sniff_O h hl e4 e5 e67 e80 e13]; omega
theorem sniff_begin {xs : List Int} (h6 : sniffKind xs ≠ 6) (k : Nat) : sniffKind (xs.take k) = sniffKind xs ∨ sniffKind (xs.take k) = 0 := by
  have h : bv xs = true := by
    cases hb : bv xs
    · exact absurd (sniff_bad hb) h6
    · rfl
  have ht := bv_take h k
  by_cases hl0 : (xs.take k).length = 0
  · exact .inr (sniff_mt ht hl0)
  have hl1 : 0 < (xs.take k).length := by omega
  have hlt := hl1
  rw [List.length_take] at hlt
  have hl : 0 < xs.length := by omega
  have e0 : nth (xs.take k) 0 = nth xs 0 := nth0_take (by omega)
  have hle : (xs.take k).length ≤ xs.length := by rw [List.length_take]; omega
  by_cases e4 : nth xs 0 = 4
  · rw [sniff_4 h hl e4, sniff_4 ht hl1 (by omega)]; exact .inl rfl
  by_cases e5 : nth xs 0 = 5
  · rw [sniff_5 h hl e5, sniff_5 ht hl1 (by omega)]; exact .inl rfl
  by_cases e67 : nth xs 0 = 67
  · rw [sniff_T h hl e67] at h6 ⊢
    rw [sniff_T ht hl1 (by omega)]
    split at h6
    · rename_i ha
      rw [if_pos ha, if_pos (alike_take ha k)]
      repeat' split
      all_goals omega
    · exact absurd rfl h6
  by_cases e80 : nth xs 0 = 80
  · rw [sniff_L h hl e80] at h6 ⊢
    rw [sniff_L ht hl1 (by omega)]
    split at h6
    · rename_i ha
      rw [if_pos ha, if_pos (alike_take ha k)]
      repeat' split
      all_goals omega
    · exact absurd rfl h6
  by_cases e13 : nth xs 0 = 13
  · rw [sniff_H h hl e13] at h6 ⊢
    rw [sniff_H ht hl1 (by omega)]
    split at h6
    · rename_i ha
      rw [if_pos ha, if_pos (alike_take ha k)]
      repeat' split
      all_goals omega
    · exact absurd rfl h6
  exact absurd (sniff_O h hl e4 e5 e67 e80 e13) h6
theorem nth0_app {xs zs : List Int} (h : 0 < xs.length) : nth (xs ++ zs) 0 = nth xs 0 := by simp [nth, List.getElem?_append_left h]
theorem sniff_on {xs zs : List Int} (h6 : sniffKind xs ≠ 6) (h0 : sniffKind xs ≠ 0) (hz : bv (xs ++ zs) = true) : sniffKind (xs ++ zs) = sniffKind xs := by
  have h : bv xs = true := by
    cases hb : bv xs
    · exact absurd (sniff_bad hb) h6
    · rfl
  have hl : 0 < xs.length := by
    by_cases hl : xs.length = 0
    · exact absurd (sniff_mt h hl) h0
    · omega
  have hl1 : 0 < (xs ++ zs).length := by rw [List.length_append]; omega
  have hla : (xs ++ zs).length = xs.length + zs.length := List.length_append
  have e0 : nth (xs ++ zs) 0 = nth xs 0 := nth0_app hl
  by_cases e4 : nth xs 0 = 4
  · rw [sniff_4 h hl e4, sniff_4 hz hl1 (by omega)]
  by_cases e5 : nth xs 0 = 5
  · rw [sniff_5 h hl e5, sniff_5 hz hl1 (by omega)]
  by_cases e67 : nth xs 0 = 67
  · rw [sniff_T h hl e67] at h6 h0 ⊢
    rw [sniff_T hz hl1 (by omega)]
    split at h6
    · rename_i ha
      rw [if_pos ha] at h0 ⊢
      split at h0
      · rename_i h8
        rw [if_pos h8, if_pos (by rw [alike_app (by rw [tunnelB_len]; exact h8)]; exact ha), if_pos (by omega)]
      · exact absurd rfl h0
    · exact absurd rfl h6
  by_cases e80 : nth xs 0 = 80
  · rw [sniff_L h hl e80] at h6 h0 ⊢
    rw [sniff_L hz hl1 (by omega)]
    split at h6
    · rename_i ha
      rw [if_pos ha] at h0 ⊢
      split at h0
      · rename_i h8
        rw [if_pos h8, if_pos (by rw [alike_app (by rw [lineB_len]; exact h8)]; exact ha), if_pos (by omega)]
      · exact absurd rfl h0
    · exact absurd rfl h6
  by_cases e13 : nth xs 0 = 13
  · rw [sniff_H h hl e13] at h6 h0 ⊢
    rw [sniff_H hz hl1 (by omega)]
    split at h6
    · rename_i ha
      rw [if_pos ha] at h0 ⊢
      split at h0
      · rename_i h8
        rw [if_pos h8, if_pos (by rw [alike_app (by rw [headStart_len]; exact h8)]; exact ha), if_pos (by omega)]
      · exact absurd rfl h0
    · exact absurd rfl h6
  exact absurd (sniff_O h hl e4 e5 e67 e80 e13) h6
theorem sniff_nil : sniffKind [] = 0 := by decide
/-- What is behind the first elements of a slice. -/
theorem IntS.suf {w : World} {v : Value} {xs : List Int} (h : IntS w v xs) {k : Nat} (hk : k ≤ xs.length) :
    ∃ v' : Value, (∀ w1, (Instr.slice 22 v (some (.int .i64 (k : Int))) none none).run Try.prog w1 = .ok v' w1) ∧ IntS w v' (xs.drop k) := by
  obtain ⟨i0, hi, hz, hs, hby⟩ := infoI
  obtain ⟨v', h1, h2⟩ := Row.cut h uI hi hs hk (Nat.le_refl _)
  refine ⟨v', fun w1 => ?_, ?_⟩
  · rw [← h1 w1]
    obtain ⟨p, cap, rfl, hl1, hl2⟩ := h.form
    simp [Instr.slice, run_underlying uI, Instr.sliceBounds, Instr.sliceBound, asIntOf, sizeOf, typeInfo, hi, hl1, hk]
  · unfold IntS
    rw [← ints_drop, List.length_drop]
    rw [List.take_of_length_le (by rw [List.length_drop, ints_length]; omega)] at h2
    simpa using h2
end Go.Proofs.Ytknhfogblfogaaa
