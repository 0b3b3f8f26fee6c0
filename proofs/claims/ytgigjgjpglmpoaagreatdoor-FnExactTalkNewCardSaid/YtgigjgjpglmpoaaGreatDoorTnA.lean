/- The text of a mark. -/
import Derived.Test.YtgigjgjpglmpoaaGreatDoorTvC
import Derived.Test.YtgigjgjpglmpoaaGreatDoorGE
namespace Go.Proofs.YtgigjgjpglmpoaaGreatDoor
open Go.RowKit
/-- A number's digits. -/
def decN (m : Nat) : Tx := if _h : m = 0 then [] else decN (m / 10) ++ [UInt8.ofNat (48 + m % 10)]
termination_by m
decreasing_by omega
def markN (n : Nat) : Tx := if n = 0 then [109, 48] else 109 :: decN n
theorem decN_pos {m : Nat} (h : 0 < m) : decN m = decN (m / 10) ++ [UInt8.ofNat (48 + m % 10)] := by rw [decN, dif_neg (by omega)]
theorem decN_len {n : Nat} (h : n ≤ 100000000) : (decN n).length ≤ 9 := by
  have key : ∀ k n : Nat, n < 10 ^ k → (decN n).length ≤ k := by
    intro k
    induction k with
    | zero => intro n hn; rw [decN, dif_pos (by simpa using hn)]; simp
    | succ k ih =>
      intro n hn
      by_cases h0 : n = 0
      · rw [decN, dif_pos h0]; simp
      · rw [decN_pos (by omega)]
        have := ih (n / 10) (by rw [Nat.pow_succ] at hn; omega)
        simp; omega
  exact key 9 n (by omega)
set_option maxRecDepth 20000 in
set_option maxHeartbeats 1000000 in
theorem markText_c (w : World) (n : Nat) (hn : n ≤ 100000000) :
    Calls Tryz.prog 22 #[.int .i64 (n : Int)] w fun e w' => e = .returned (.string (S (markN n))) ∧ Gr w w' := by
  by_cases h0 : n = 0
  · subst h0
    go_enter Tryz.func22, Tryz.ntmps22
    go_wp2
    go_ret
    exact ⟨rfl, Gr.refl _⟩
  · have h1 : ¬ ((n : Int) ≤ 0) := by omega
    have HL := Lib.hid (decN_len hn)
    have hcv := conv1
    have hs1 : ∀ x, (S [x]).size = 1 := fun x => rfl
    go_enter Tryz.func22, Tryz.ntmps22
    go_wp2_with fail
    go_loopw [0, 3] (fun m s wr => ∃ (k : Nat) (acc : Tx), m = .int .i64 k ∧ s = .string (S acc) ∧ k ≤ 100000000 ∧ Hid (decN k ++ acc = decN n) ∧ Gr w wr) (fun m _ _ => (intOf m).toNat)
    case atStart => exact ⟨n, [], rfl, rfl, hn, by simp [Hid], Gr.refl _⟩
    case round =>
      obtain ⟨k, acc, rfl, rfl, hk, HD, hgr⟩ := hrel
      have hsz : (S acc).size ≤ 9 := by
        rw [S_len]
        have e1 := congrArg List.length HD.out
        have e2 := HL.out
        rw [List.length_append] at e1
        omega
      by_cases hlt : 0 < k
      · have hlt' : (0 : Int) < (k : Int) := by omega
        obtain ⟨q, hq⟩ : ∃ q, q = k / 10 := ⟨_, rfl⟩
        obtain ⟨r, hr⟩ : ∃ r, r = k % 10 := ⟨_, rfl⟩
        have hd : decN k = decN q ++ [UInt8.ofNat (48 + r)] := by rw [hq, hr]; exact decN_pos hlt
        have HN := Lib.hid (show decN q ++ ([UInt8.ofNat (48 + r)] ++ acc) = decN n by rw [← HD.out, hd, List.append_assoc])
        have hr9 : r ≤ 9 := by omega
        have hq9 : q < k := by omega
        have e1 : (k : Int).tdiv 10 = (q : Int) := by rw [Int.tdiv_eq_ediv_of_nonneg (by omega), hq]; omega
        have e2 : (k : Int).tmod 10 = (r : Int) := by rw [Int.tmod_eq_emod_of_nonneg (by omega), hr]; omega
        have e3 : IntKind.i64.wrap (q : Int) = (q : Int) := by rw [IntKind.wrap_i64]; omega
        have e4 : IntKind.i64.wrap (48 + (r : Int)) = 48 + (r : Int) := by rw [IntKind.wrap_i64]; omega
        have e5 : IntKind.u8.wrap (48 + (r : Int)) = 48 + (r : Int) := by rw [IntKind.wrap_u8]; omega
        have e6 : (48 + (r : Int)).toNat = 48 + r := by omega
        have e7 : (k : Int) % 10 = (r : Int) := by omega
        have e8 : (k : Int) / 10 = (q : Int) := by omega
        clear hd hq hr HD
        go_wp2
        go_roundw
        case measure => simp [intOf]; omega
        case rel => exact ⟨q, _, rfl, by rw [S_app]; simp, by omega, HN, hgr.alloc _⟩
      · have ek : k = 0 := by omega
        subst ek
        have ea : acc = decN n := by have := HD.out; rw [decN, dif_pos rfl] at this; exact this
        subst ea
        go_wp2
        go_ret
        exact ⟨ret_str (by unfold markN; rw [if_neg h0]; exact S_app [109] (decN n)), hgr⟩
end Go.Proofs.YtgigjgjpglmpoaaGreatDoor
