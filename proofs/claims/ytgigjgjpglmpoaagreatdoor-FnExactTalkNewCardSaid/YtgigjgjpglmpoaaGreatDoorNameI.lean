/- impl: letters, names, quads, ports, addresses, pairs: the checks. -/
import Derived.Test.YtgigjgjpglmpoaaGreatDoorGR
import Derived.Test.YtgigjgjpglmpoaaGreatDoorGE
namespace Go.Proofs.YtgigjgjpglmpoaaGreatDoor
open Go.RowKit
theorem isLetter_c (c : Int) (w : World) : Calls Tryz.prog 58 #[.int .u8 c] w fun e w' => e = .returned (.bool (isLow c)) ∧ w = w' := by
  by_cases h1 : 97 ≤ c
  · have e1 : decide (97 ≤ c) = true := by simpa using h1
    go_enter Tryz.func58, Tryz.ntmps58
    go_wp2
    go_ret
    exact ⟨ret_bool (by simp [isLow, h1]), rfl⟩
  · have e1 : decide (97 ≤ c) = false := by simpa using h1
    go_enter Tryz.func58, Tryz.ntmps58
    go_wp2
    go_ret
    exact ⟨ret_bool (by rw [isLow, e1]; rfl), rfl⟩
theorem isDigit_c (c : Int) (w : World) : Calls Tryz.prog 59 #[.int .u8 c] w fun e w' => e = .returned (.bool (isDig c)) ∧ w = w' := by
  by_cases h1 : 48 ≤ c
  · have e1 : decide (48 ≤ c) = true := by simpa using h1
    go_enter Tryz.func59, Tryz.ntmps59
    go_wp2
    go_ret
    exact ⟨ret_bool (by simp [isDig, h1]), rfl⟩
  · have e1 : decide (48 ≤ c) = false := by simpa using h1
    go_enter Tryz.func59, Tryz.ntmps59
    go_wp2
    go_ret
    exact ⟨ret_bool (by rw [isDig, e1]; rfl), rfl⟩
/-- A small letter, a digit or a further letter. -/
def inCons (f : Tx) (c : UInt8) : Bool := isLow (c.toNat : Int) || (isDig (c.toNat : Int) || !decide (Lib.indexByte f c < 0))
set_option maxHeartbeats 1000000 in
theorem consists_c (w : World) (s f : ByteArray) (hs : s.size ≤ 2000000) :
    Calls Tryz.prog 50 #[.string s, .string f] w fun e w' => e = .returned (.bool ((tx s).all (inCons (tx f)))) ∧ w = w' := by
  go_enter Tryz.func50, Tryz.ntmps50
  go_wp2_with fail
  go_loop [8] (fun i => ∃ k : Nat, k ≤ s.size ∧ i = .int .i64 k ∧ Hid (((tx s).take k).all (inCons (tx f)) = true)) (fun i => s.size - (intOf i).toNat)
  case atStart => exact ⟨0, Nat.zero_le _, rfl, by simp [Hid]⟩
  case round =>
    obtain ⟨k, hk, rfl, hall⟩ := hrel
    by_cases hlt : k < s.size
    · cases hL : isLow (s[k].toNat : Int)
      · cases hD : isDig (s[k].toNat : Int)
        · obtain ⟨n, hn⟩ : ∃ n, n = Lib.indexByte (tx f) s[k] := ⟨_, rfl⟩
          by_cases hi : n < 0
          · have HF : Hid ((tx s).all (inCons (tx f)) = false) := by rw [Hid]; exact allU_false _ hlt (by rw [inCons, hL, hD, ← hn]; simp [hi])
            have HL := Lib.hid hL
            have HD := Lib.hid hD
            have HN := Lib.hid hn
            clear hL hD hn
            go_wp2_with fail
            (with_reducible refine (isLetter_c _ _).mono ?_); rintro e w2 ⟨rfl, rfl⟩
            rw [HL.out]
            go_wp2_with fail
            (with_reducible refine (isDigit_c _ _).mono ?_); rintro e w3 ⟨rfl, rfl⟩
            rw [HD.out]
            go_wp2_with fail
            (with_reducible refine (indexByte_c f s[k] _ rfl _).mono ?_); rintro e w4 ⟨rfl, rfl⟩
            rw [← HN.out]
            go_wp2
            go_ret
            exact ⟨ret_bool HF.out.symm, rfl⟩
          · have HX : Hid (((tx s).take (k+1)).all (inCons (tx f)) = true) := by
              rw [Hid, allU_step _ hlt, hall.out, inCons, hL, hD, ← hn]; simp [hi]
            have HL := Lib.hid hL
            have HD := Lib.hid hD
            have HN := Lib.hid hn
            clear hL hD hn
            go_wp2_with fail
            (with_reducible refine (isLetter_c _ _).mono ?_); rintro e w2 ⟨rfl, rfl⟩
            rw [HL.out]
            go_wp2_with fail
            (with_reducible refine (isDigit_c _ _).mono ?_); rintro e w3 ⟨rfl, rfl⟩
            rw [HD.out]
            go_wp2_with fail
            (with_reducible refine (indexByte_c f s[k] _ rfl _).mono ?_); rintro e w4 ⟨rfl, rfl⟩
            rw [← HN.out]
            go_wp2
            go_round
            case rel => exact ⟨k+1, by omega, by go_num, HX.out⟩
            case measure => simp [intOf]; omega
        · have HX : Hid (((tx s).take (k+1)).all (inCons (tx f)) = true) := by
            rw [Hid, allU_step _ hlt, hall.out, inCons, hL, hD]; rfl
          have HL := Lib.hid hL
          have HD := Lib.hid hD
          clear hL hD
          go_wp2_with fail
          (with_reducible refine (isLetter_c _ _).mono ?_); rintro e w2 ⟨rfl, rfl⟩
          rw [HL.out]
          go_wp2_with fail
          (with_reducible refine (isDigit_c _ _).mono ?_); rintro e w3 ⟨rfl, rfl⟩
          rw [HD.out]
          go_wp2
          go_round
          case rel => exact ⟨k+1, by omega, by go_num, HX.out⟩
          case measure => simp [intOf]; omega
      · have HX : Hid (((tx s).take (k+1)).all (inCons (tx f)) = true) := by
          rw [Hid, allU_step _ hlt, hall.out, inCons, hL]; rfl
        have HL := Lib.hid hL
        clear hL
        go_wp2_with fail
        (with_reducible refine (isLetter_c _ _).mono ?_); rintro e w2 ⟨rfl, rfl⟩
        rw [HL.out]
        go_wp2
        go_round
        case rel => exact ⟨k+1, by omega, by go_num, HX.out⟩
        case measure => simp [intOf]; omega
    · have h1 := hall.out
      rw [List.take_of_length_le (by rw [tx_len]; omega)] at h1
      have H1 := Lib.hid h1
      clear h1
      go_wp2
      go_ret
      exact ⟨ret_bool H1.out.symm, rfl⟩
theorem u8_eq45 (c : UInt8) : ((c.toNat : Int) == 45) = (45 == c) := by
  rw [Bool.eq_iff_iff, beq_iff_eq, beq_iff_eq]
  constructor
  · intro h; exact (UInt8.toNat_inj.1 (by simp; omega)).symm
  · rintro rfl; rfl
theorem inCons_dash (c : UInt8) : inCons [45] c = isLet (c.toNat : Int) := by
  unfold inCons isLet
  rw [idxByte_one, u8_eq45, Bool.or_assoc]
  by_cases h : 45 = c
  · rw [if_pos h, ← h]; rfl
  · rw [if_neg h]
    have : (45 == c) = false := beq_eq_false_iff_ne.2 h
    rw [this]; rfl
theorem consists_dash (w : World) (s : ByteArray) (hs : s.size ≤ 2000000) :
    Calls Tryz.prog 50 #[.string s, .string ⟨#[45]⟩] w fun e w' => e = .returned (.bool (allLet (tx s))) ∧ w = w' := by
  have := consists_c w s ⟨#[45]⟩ hs
  have e : (tx s).all (inCons (tx ⟨#[45]⟩)) = allLet (tx s) := by
    unfold allLet
    congr 1
    funext c
    exact inCons_dash c
  rw [e] at this
  exact this
set_option maxHeartbeats 1000000 in
theorem implNameValid_c {w : World} (hm : ML w) (s : ByteArray) (hs : s.size ≤ 2000000) :
    Calls Tryz.prog 57 #[.string s] w fun e w' => e = .returned (.bool (nameOk (tx s))) ∧ Gr w w' := by
  go_enter Tryz.func57, Tryz.ntmps57
  go_wp2_with fail
  (with_reducible refine (split_c hm s 46 hs).mono ?_); rintro e w1 ⟨v1, rfl, ho, hg⟩
  have hss := ho.s
  have hlen := cutB_pos 46 (tx s)
  have HDEF : Hid (nameOk (tx s) = ((cutB 46 (tx s)).all pieceOk && (decide ((tx s).length ≤ 20) && lastLow (cutB 46 (tx s))))) := rfl
  have HPC : Hid (∀ k, k < (cutB 46 (tx s)).length → (nthS (cutB 46 (tx s)) k).length ≤ s.size) := fun k hk => by
    rw [← tx_len s, nthS_eq hk]; exact cutB_piece 46 (tx s) _ (List.getElem_mem hk)
  generalize cutB 46 (tx s) = ls at *
  obtain ⟨p, cap, rfl, hc1, hc2⟩ := hss.form
  clear ho
  go_wp2_with fail
  go_loop [10] (fun i => ∃ k : Nat, k ≤ ls.length ∧ i = .int .i64 k ∧ Hid ((ls.take k).all pieceOk = true)) (fun i => ls.length - (intOf i).toNat)
  case atStart => exact ⟨0, Nat.zero_le _, rfl, by simp [Hid]⟩
  case round =>
    obtain ⟨k, hk, rfl, hall⟩ := hrel
    by_cases hlt : k < ls.length
    · obtain ⟨a, hix, hca⟩ := hss.ix hlt
      obtain ⟨q, hq⟩ : ∃ q, q = S (nthS ls k) := ⟨_, rfl⟩
      rw [← hq] at hca
      have HQ : Hid (tx q = nthS ls k) := by rw [Hid, hq, tx_S]
      have hqs : q.size ≤ 2000000 := by have := HPC.out k hlt; rw [hq, S_len]; omega
      have he := emp_tx q
      clear hq
      by_cases hz : q.size = 0
      · have htq : tx q = [] := List.eq_nil_of_length_eq_zero (by rw [tx_len]; exact hz)
        have HF : Hid (nameOk (tx s) = false) := by
          rw [Hid, HDEF.out, allS_false pieceOk hlt]; · rfl
          rw [← HQ.out, htq]; rfl
        have he2 : q.toList.isEmpty = true := by rw [he, htq]; rfl
        clear hz he htq
        go_wp2
        go_ret
        exact ⟨ret_bool HF.out.symm, hg⟩
      · have htq : (tx q).isEmpty = false := by
          cases h : tx q with
          | nil => have := tx_len q; rw [h] at this; simp at this; omega
          | cons x y => rfl
        have he2 : q.toList.isEmpty = false := by rw [he, htq]
        have hzp : 0 < q.size := by omega
        clear hz he
        cases hb : allLet (tx q)
        · have HF : Hid (nameOk (tx s) = false) := by
            rw [Hid, HDEF.out, allS_false pieceOk hlt]; · rfl
            rw [← HQ.out, pieceOk, hb]; simp
          have HB := Lib.hid hb
          clear hb htq
          go_wp2_with fail
          (with_reducible refine (consists_dash _ q hqs).mono ?_); rintro e w2 ⟨rfl, rfl⟩
          rw [HB.out]
          go_wp2
          go_ret
          exact ⟨ret_bool HF.out.symm, hg⟩
        · have HN : Hid ((ls.take (k+1)).all pieceOk = true) := by
            rw [Hid, take_allS pieceOk hlt, hall.out, ← HQ.out, pieceOk_iff.2 ⟨by rw [tx_len]; exact hzp, hb⟩]; rfl
          have HB := Lib.hid hb
          clear hb htq
          go_wp2_with fail
          (with_reducible refine (consists_dash _ q hqs).mono ?_); rintro e w2 ⟨rfl, rfl⟩
          rw [HB.out]
          go_wp2
          go_round
          case rel => exact ⟨k+1, by omega, by go_num, HN.out⟩
          case measure => simp [intOf]; omega
    · have h1 := hall.out
      rw [List.take_of_length_le (by omega)] at h1
      have hk' : ls.length - 1 < ls.length := by omega
      obtain ⟨a, hix, hca⟩ := hss.ix hk'
      have ek : ((ls.length - 1 : Nat) : Int) = (ls.length : Int) - 1 := by omega
      rw [ek] at hix
      obtain ⟨q, hq⟩ : ∃ q, q = S (nthS ls (ls.length - 1)) := ⟨_, rfl⟩
      rw [← hq] at hca
      have hq2 : tx q = nthS ls (ls.length - 1) := by rw [hq, tx_S]
      have hz := (pieceOk_iff.1 (allS_at h1 hk')).1
      rw [← hq2, tx_len] at hz
      have hd : nameOk (tx s) = (decide (s.size ≤ 20) && isLow (q[0].toNat : Int)) := by
        rw [HDEF.out, h1, tx_len, lastLow, ← hq2, tx_cons hz]; rfl
      have HD := Lib.hid hd
      clear hd hq hq2 h1 hk' ek hall
      by_cases h20 : s.size ≤ 20
      · have d20 : decide ((s.size : Int) ≤ 20) = true := by simp; omega
        go_wp2_with fail
        (with_reducible refine (isLetter_c _ _).mono ?_); rintro e w2 ⟨rfl, rfl⟩
        go_wp2
        go_ret
        exact ⟨ret_bool (by rw [HD.out]; simp [h20]), hg⟩
      · have d20 : decide ((s.size : Int) ≤ 20) = false := by simp; omega
        go_wp2
        go_ret
        exact ⟨ret_bool (by rw [HD.out]; simp [h20]), hg⟩
theorem isPort_c (n : Int) (w : World) : Calls Tryz.prog 56 #[.int .i64 n] w fun e w' => e = .returned (.bool (inB 0 65535 n)) ∧ w = w' := by
  go_enter Tryz.func56, Tryz.ntmps56
  go_wp2_with fail
  (with_reducible refine (within_c _ _ _ _).mono ?_); rintro e w1 ⟨rfl, rfl⟩
  go_wp2
  go_ret
  exact ⟨rfl, rfl⟩
theorem implQuadValid_c {w : World} {v : Value} {xs : List Int} (h : IntS w v xs) :
    Calls Tryz.prog 55 #[v] w fun e w' => e = .returned (.bool (quadOk xs)) ∧ w = w' := by
  obtain ⟨p, cap, rfl, hl1, hl2⟩ := h.form
  have HD : Hid (quadOk xs = (bv xs && decide (xs.length = 4))) := rfl
  by_cases h4 : xs.length = 4
  · have h4' : ((xs.length : Int) == 4) = true := by rw [h4]; rfl
    have H4 := Lib.hid h4
    clear h4
    go_enter Tryz.func55, Tryz.ntmps55
    go_wp2_with fail
    (with_reducible refine (implBytesValid_c h).mono ?_); rintro e w1 ⟨rfl, rfl⟩
    go_wp2
    go_ret
    exact ⟨ret_bool (by rw [HD.out, H4.out]; simp), rfl⟩
  · have h4' : ((xs.length : Int) == 4) = false := beq_eq_false_iff_ne.2 (by omega)
    have HN : Hid (quadOk xs = false) := by rw [Hid, HD.out]; simp [h4]
    clear h4
    go_enter Tryz.func55, Tryz.ntmps55
    go_wp2
    go_ret
    exact ⟨ret_bool HN.out.symm, rfl⟩
set_option maxHeartbeats 1000000 in
theorem implAddressValid_c {w : World} {q : Value} {xs : List Int} (hm : ML w) (k port : Int) (s : ByteArray) (hq : IntS w q xs) (hs : s.size ≤ 2000000) :
    Calls Tryz.prog 48 #[.agg #[.int .i64 k, q, .string s, .int .i64 port]] w fun e w' => e = .returned (.bool (adrOk ⟨k, xs, tx s, port⟩)) ∧ Gr w w' := by
  obtain ⟨p, cap, rfl, _, _⟩ := hq.form
  have hg := gr_alloc w (.cells #[.int .i64 k, .slice p xs.length cap, .string s, .int .i64 port] 58)
  have HC : Hid (∀ w2 : World, Gr (w.alloc (.cells #[.int .i64 k, .slice p xs.length cap, .string s, .int .i64 port] 58)) w2 → w2.cell? ⟨w.heap.size, 1, none⟩ = some (.slice p xs.length cap) ∧ w2.cell? ⟨w.heap.size, 3, none⟩ = some (.int .i64 port)) := Lib.hid fun w2 g2 => ⟨boxN g2 1 rfl, boxN g2 3 rfl⟩
  have HD : Hid (adrOk ⟨k, xs, tx s, port⟩ = (inB 0 65535 port && (if k = 1 then quadOk xs && (tx s).isEmpty else if k = 3 then nameOk (tx s) && xs.isEmpty else false))) := rfl
  generalize adrOk ⟨k, xs, tx s, port⟩ = r at *
  by_cases k1 : k = 1
  · subst k1
    cases hb : quadOk xs
    · have HB := Lib.hid hb; clear hb
      go_enter Tryz.func48, Tryz.ntmps48
      go_wp2_with fail
      (with_reducible refine (implQuadValid_c (hq.kept hg)).mono ?_); rintro e w2 ⟨rfl, rfl⟩
      rw [HB.out]
      go_wp2
      go_ret
      exact ⟨ret_bool (by rw [HD.out, HB.out]; simp), hg⟩
    · have HB := Lib.hid hb; clear hb
      have he := emp_tx s
      cases hn : (tx s).isEmpty
      · have HN := Lib.hid hn
        rw [hn] at he
        clear hn
        go_enter Tryz.func48, Tryz.ntmps48
        go_wp2_with fail
        (with_reducible refine (implQuadValid_c (hq.kept hg)).mono ?_); rintro e w2 ⟨rfl, rfl⟩
        rw [HB.out]
        go_wp2
        go_ret
        exact ⟨ret_bool (by rw [HD.out, HB.out, HN.out]; simp), hg⟩
      · have HN := Lib.hid hn
        rw [hn] at he
        clear hn
        go_enter Tryz.func48, Tryz.ntmps48
        go_wp2_with fail
        (with_reducible refine (implQuadValid_c (hq.kept hg)).mono ?_); rintro e w2 ⟨rfl, rfl⟩
        rw [HB.out]
        go_wp2_with fail
        (with_reducible refine (isPort_c _ _).mono ?_); rintro e w3 ⟨rfl, rfl⟩
        go_wp2
        go_ret
        exact ⟨ret_bool (by rw [HD.out, HB.out, HN.out]; simp), hg⟩
  · have k1' : (k == 1) = false := beq_eq_false_iff_ne.2 k1
    by_cases k3 : k = 3
    · subst k3
      cases hb : nameOk (tx s)
      · have HB := Lib.hid hb; clear hb
        go_enter Tryz.func48, Tryz.ntmps48
        go_wp2_with fail
        (with_reducible refine (implNameValid_c (hm.kept hg) s hs).mono ?_); rintro e w2 ⟨rfl, g2⟩
        rw [HB.out]
        go_wp2
        go_ret
        exact ⟨ret_bool (by rw [HD.out, HB.out]; simp), hg.trans g2⟩
      · have HB := Lib.hid hb; clear hb
        by_cases hz : xs.length = 0
        · have hz' : ((xs.length : Int) == 0) = true := by rw [hz]; rfl
          have HE : Hid (xs.isEmpty = true) := by rw [Hid, List.eq_nil_of_length_eq_zero hz]; rfl
          have HZ := Lib.hid hz
          clear hz
          go_enter Tryz.func48, Tryz.ntmps48
          go_wp2_with fail
          (with_reducible refine (implNameValid_c (hm.kept hg) s hs).mono ?_); rintro e w2 ⟨rfl, g2⟩
          rw [HB.out]
          obtain ⟨c1, c3⟩ := HC.out _ g2
          go_wp2_with fail
          (with_reducible refine (isPort_c _ _).mono ?_); rintro e w3 ⟨rfl, rfl⟩
          go_wp2
          go_ret
          exact ⟨ret_bool (by rw [HD.out, HB.out, HE.out]; simp), hg.trans g2⟩
        · have hz' : ((xs.length : Int) == 0) = false := beq_eq_false_iff_ne.2 (by omega)
          have HE : Hid (xs.isEmpty = false) := by
            rw [Hid]; cases xs with
            | nil => simp at hz
            | cons x y => rfl
          clear hz
          go_enter Tryz.func48, Tryz.ntmps48
          go_wp2_with fail
          (with_reducible refine (implNameValid_c (hm.kept hg) s hs).mono ?_); rintro e w2 ⟨rfl, g2⟩
          rw [HB.out]
          obtain ⟨c1, c3⟩ := HC.out _ g2
          go_wp2
          go_ret
          exact ⟨ret_bool (by rw [HD.out, HB.out, HE.out]; simp), hg.trans g2⟩
    · have k3' : (k == 3) = false := beq_eq_false_iff_ne.2 k3
      have HD2 : Hid (r = false) := by rw [Hid, HD.out, if_neg k1, if_neg k3]; simp
      clear k1 k3
      go_enter Tryz.func48, Tryz.ntmps48
      go_wp2
      go_ret
      exact ⟨ret_bool HD2.out.symm, hg⟩
end Go.Proofs.YtgigjgjpglmpoaaGreatDoor
