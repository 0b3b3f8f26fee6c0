/- Names, users, quads: spec's checks. -/
import Derived.Test.YtknhfogblfogaaaStrB
namespace Go.Proofs.Ytknhfogblfogaaa
open Go.RowKit
theorem cutB_pos (c : UInt8) (l : Tx) : 1 ≤ (cutB c l).length := by
  have := cutB_ne c l
  cases h : cutB c l with
  | nil => exact absurd h this
  | cons y ys => simp
theorem allS_at {p : Tx → Bool} {xs : List Tx} (h : xs.all p = true) {k : Nat} (hk : k < xs.length) : p (nthS xs k) = true := by
  rw [nthS_eq hk]; exact List.all_eq_true.1 h _ (List.getElem_mem hk)
theorem tx_cons {s : ByteArray} (h : 0 < s.size) : tx s = s[0] :: (tx s).drop 1 := by
  have := tx_drop h
  rwa [List.drop_zero] at this
theorem pieceOk_iff {l : Tx} : pieceOk l = true ↔ 0 < l.length ∧ allLet l = true := by
  unfold pieceOk
  cases l <;> simp
set_option maxHeartbeats 1000000 in
theorem NameValid_c (w : World) (s : ByteArray) (hs : s.size ≤ 1000000) :
    Calls Try.prog 99 #[.string s] w fun e w' => e = .returned (.bool (nameOk (tx s))) ∧ Gr w w' := by
  go_enter Try.func99, Try.ntmps99
  go_wp2_with fail
  (with_reducible refine (l2Cut_c w s 46 46 rfl hs).mono ?_); rintro e w1 ⟨v1, rfl, ho, hg⟩
  have hss := ho.s
  have hlen := cutB_pos 46 (tx s)
  have HDEF : Hid (nameOk (tx s) = ((cutB 46 (tx s)).all pieceOk && (decide ((tx s).length ≤ 20) && lastLow (cutB 46 (tx s))))) := rfl
  have HPC : Hid (∀ k, k < (cutB 46 (tx s)).length → (nthS (cutB 46 (tx s)) k).length ≤ s.size) := fun k hk => by
    rw [← tx_len s, nthS_eq hk]; exact cutB_piece 46 (tx s) _ (List.getElem_mem hk)
  generalize cutB 46 (tx s) = ls at *
  obtain ⟨p, cap, rfl, hc1, hc2⟩ := hss.form
  clear ho
  go_wp2_with fail
  go_loop [4] (fun i => ∃ k : Nat, k ≤ ls.length ∧ i = .int .i64 k ∧ Hid ((ls.take k).all pieceOk = true)) (fun i => ls.length - (intOf i).toNat)
  case atStart => exact ⟨0, Nat.zero_le _, rfl, by simp [Hid]⟩
  case round =>
    obtain ⟨k, hk, rfl, hall⟩ := hrel
    by_cases hlt : k < ls.length
    · obtain ⟨a, hix, hca⟩ := hss.ix hlt
      obtain ⟨q, hq⟩ : ∃ q, q = S (nthS ls k) := ⟨_, rfl⟩
      rw [← hq] at hca
      have HQ : Hid (tx q = nthS ls k) := by rw [Hid, hq, tx_S]
      have hqs : q.size ≤ 1000000 := by have := HPC.out k hlt; rw [hq, S_len]; omega
      clear hq
      by_cases hz : q.size = 0
      · have hz' : ((q.size : Int) == 0) = true := by simp [hz]
        have HF : Hid (nameOk (tx s) = false) := by
          rw [Hid, HDEF.out, allS_false pieceOk hlt]; · rfl
          rw [← HQ.out]; cases h : tx q with
          | nil => rfl
          | cons x y => have := tx_len q; rw [h] at this; simp at this; omega
        clear hz
        go_wp2
        go_ret
        exact ⟨ret_bool HF.out.symm, hg⟩
      · have hz' : ((q.size : Int) == 0) = false := beq_eq_false_iff_ne.2 (by omega)
        have hz2 : 0 < q.size := by omega
        clear hz
        go_wp2_with fail
        go_loop [6] (fun j => ∃ m : Nat, m ≤ q.size ∧ j = .int .i64 m ∧ Hid (allLet ((tx q).take m) = true)) (fun j => q.size - (intOf j).toNat)
        case atStart => exact ⟨0, Nat.zero_le _, rfl, by simp [Hid, allLet]⟩
        case round =>
          obtain ⟨m, hm, rfl, hal⟩ := hrel
          by_cases hmt : m < q.size
          · cases hb : isLet (q[m].toNat : Int)
            · have HF : Hid (nameOk (tx s) = false) := by
                rw [Hid, HDEF.out, allS_false pieceOk hlt]; · rfl
                rw [← HQ.out, pieceOk, allLet, allU_false _ hmt hb]; simp
              have HB := Lib.hid hb
              clear hb
              go_wp2_with fail
              (with_reducible refine (l2Letter_c _ _).mono ?_); rintro e w2 ⟨rfl, rfl⟩
              rw [HB.out]
              go_wp2
              go_ret
              exact ⟨ret_bool HF.out.symm, hg⟩
            · have HN : Hid (allLet ((tx q).take (m+1)) = true) := by
                have := hal.out
                unfold allLet at this
                rw [Hid, allLet, allU_step _ hmt, this, hb]; rfl
              have HB := Lib.hid hb
              clear hb
              go_wp2_with fail
              (with_reducible refine (l2Letter_c _ _).mono ?_); rintro e w2 ⟨rfl, rfl⟩
              rw [HB.out]
              go_wp2
              go_round
              case rel => exact ⟨m+1, by omega, by go_num, HN.out⟩
              case measure => simp [intOf]; omega
          · have HN : Hid ((ls.take (k+1)).all pieceOk = true) := by
              have h1 := hal.out
              rw [List.take_of_length_le (by rw [tx_len]; omega)] at h1
              rw [Hid, take_allS pieceOk hlt, hall.out, ← HQ.out, pieceOk_iff.2 ⟨by rw [tx_len]; exact hz2, h1⟩]; rfl
            go_wp2
            go_round
            case rel => exact ⟨k+1, by omega, by go_num, HN.out⟩
            case measure => simp [intOf]; omega
    · have h1 := hall.out
      rw [List.take_of_length_le (by omega)] at h1
      have hk' : ls.length - 1 < ls.length := by omega
      obtain ⟨a, hix, hca⟩ := hss.ix hk'
      have ek : ((ls.length - 1 : Nat) : Int) = (ls.length : Int) - 1 := by omega
      rw [ek] at hix
      obtain ⟨q, hq⟩ : ∃ q, q = S (nthS ls (ls.length - 1)) := ⟨_, rfl⟩
      rw [← hq] at hca
      have hq2 : tx q = nthS ls (ls.length - 1) := by rw [hq, tx_S]
      have hz := (pieceOk_iff.1 (allS_at h1 hk')).1
      rw [← hq2, tx_len] at hz
      have hd : nameOk (tx s) = (decide (s.size ≤ 20) && isLow (q[0].toNat : Int)) := by
        rw [HDEF.out, h1, tx_len, lastLow, ← hq2, tx_cons hz]; rfl
      have HD := Lib.hid hd
      clear hd hq hq2 h1 hk' ek hall
      by_cases h20 : s.size ≤ 20
      · have d20 : decide ((s.size : Int) ≤ 20) = true := by simp; omega
        by_cases h97 : (97 : Int) ≤ (q[0].toNat : Int)
        · have d97 : decide ((97 : Int) ≤ (q[0].toNat : Int)) = true := by simpa using h97
          go_wp2
          go_ret
          exact ⟨ret_bool (by rw [HD.out, isLow, d97]; simp [h20]), hg⟩
        · have d97 : decide ((97 : Int) ≤ (q[0].toNat : Int)) = false := by simpa using h97
          go_wp2
          go_ret
          exact ⟨ret_bool (by rw [HD.out, isLow, d97]; simp [h20]), hg⟩
      · have d20 : decide ((s.size : Int) ≤ 20) = false := by simp; omega
        go_wp2
        go_ret
        exact ⟨ret_bool (by rw [HD.out]; simp [h20]), hg⟩
/-- A letter of a user. -/
def isUsr (c : Int) : Bool := isLow c || isDig c
def userOk (l : Tx) : Bool := (l.all fun c => isUsr (c.toNat : Int)) && decide (l.length ≤ 8)
theorem isUsr_iff (c : Int) : isUsr c = (isLet c && !(c == 45)) := by
  rw [Bool.eq_iff_iff]
  simp [isUsr, isLet, isLow, isDig]
  omega
set_option maxHeartbeats 1000000 in
theorem UserValid_c (w : World) (s : ByteArray) (hs : s.size ≤ 1000000) :
    Calls Try.prog 95 #[.string s] w fun e w' => e = .returned (.bool (userOk (tx s))) ∧ w = w' := by
  go_enter Try.func95, Try.ntmps95
  go_wp2_with fail
  go_loop [3] (fun i => ∃ k : Nat, k ≤ s.size ∧ i = .int .i64 k ∧ Hid (((tx s).take k).all (fun c => isUsr (c.toNat : Int)) = true)) (fun i => s.size - (intOf i).toNat)
  case atStart => exact ⟨0, Nat.zero_le _, rfl, by simp [Hid]⟩
  case round =>
    obtain ⟨k, hk, rfl, hall⟩ := hrel
    by_cases hlt : k < s.size
    · have hu := isUsr_iff (s[k].toNat : Int)
      cases hb : isLet (s[k].toNat : Int)
      · have HF : Hid (userOk (tx s) = false) := by
          rw [Hid, userOk, allU_false _ hlt (by rw [hu, hb]; rfl)]; rfl
        have HB := Lib.hid hb
        clear hb hu
        go_wp2_with fail
        (with_reducible refine (l2Letter_c _ _).mono ?_); rintro e w2 ⟨rfl, rfl⟩
        rw [HB.out]
        go_wp2
        go_ret
        exact ⟨ret_bool HF.out.symm, rfl⟩
      · cases hm : ((s[k].toNat : Int) == 45)
        · have HN : Hid (((tx s).take (k+1)).all (fun c => isUsr (c.toNat : Int)) = true) := by
            rw [Hid, allU_step _ hlt, hall.out, hu, hb, hm]; rfl
          have HB := Lib.hid hb
          clear hb hu
          go_wp2_with fail
          (with_reducible refine (l2Letter_c _ _).mono ?_); rintro e w2 ⟨rfl, rfl⟩
          rw [HB.out]
          go_wp2
          go_round
          case rel => exact ⟨k+1, by omega, by go_num, HN.out⟩
          case measure => simp [intOf]; omega
        · have HF : Hid (userOk (tx s) = false) := by
            rw [Hid, userOk, allU_false _ hlt (by rw [hu, hb, hm]; rfl)]; rfl
          have HB := Lib.hid hb
          clear hb hu
          go_wp2_with fail
          (with_reducible refine (l2Letter_c _ _).mono ?_); rintro e w2 ⟨rfl, rfl⟩
          rw [HB.out]
          go_wp2
          go_ret
          exact ⟨ret_bool HF.out.symm, rfl⟩
    · have h1 := hall.out
      rw [List.take_of_length_le (by rw [tx_len]; omega)] at h1
      have HD : Hid (userOk (tx s) = decide (s.size ≤ 8)) := by rw [Hid, userOk, h1, tx_len]; rfl
      clear h1
      go_wp2
      go_ret
      exact ⟨ret_bool (by rw [HD.out, Bool.eq_iff_iff]; simp; omega), rfl⟩
/-- Four bytes. -/
def quadOk (q : List Int) : Bool := bv q && decide (q.length = 4)
theorem QuadValid_c {w : World} {v : Value} {xs : List Int} (h : IntS w v xs) :
    Calls Try.prog 98 #[v] w fun e w' => e = .returned (.bool (quadOk xs)) ∧ w = w' := by
  obtain ⟨p, cap, rfl, hl1, hl2⟩ := h.form
  have HD : Hid (quadOk xs = (bv xs && decide (xs.length = 4))) := rfl
  cases hb : bv xs
  · have HB := Lib.hid hb; clear hb
    go_enter Try.func98, Try.ntmps98
    go_wp2_with fail
    (with_reducible refine (specBytesValid_c h).mono ?_); rintro e w1 ⟨rfl, rfl⟩
    rw [HB.out]
    go_wp2
    go_ret
    exact ⟨ret_bool (by rw [HD.out, HB.out]; rfl), rfl⟩
  · have HB := Lib.hid hb; clear hb
    go_enter Try.func98, Try.ntmps98
    go_wp2_with fail
    (with_reducible refine (specBytesValid_c h).mono ?_); rintro e w1 ⟨rfl, rfl⟩
    rw [HB.out]
    go_wp2
    go_ret
    exact ⟨ret_bool (by rw [HD.out, HB.out, Bool.eq_iff_iff]; simp; omega), rfl⟩
end Go.Proofs.Ytknhfogblfogaaa
