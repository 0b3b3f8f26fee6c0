/- Names, users, quads: spec's checks.
Addresses: spec's check.
Decimals; the texts of quads.
The texts of addresses, tunnels and lines.
The lines of pairs: spec.
Requests of the fourth version: spec's check.
Methods: spec's check and bytes. -/
import Derived.Test.YtpdjibfcbjknhaaGreatDoorGD
import Derived.Deep.RegionHeld3
import Derived.Deep.RegionWith
import Derived.Laws.BytesArg
namespace Go.Proofs.YtpdjibfcbjknhaaGreatDoor
open Go.RowKit
theorem cutB_pos (c : UInt8) (l : Tx) : 1 ≤ (cutB c l).length := by
  have := cutB_ne c l
  cases h : cutB c l with
  | nil => exact absurd h this
  | cons y ys => simp
theorem allS_at {p : Tx → Bool} {xs : List Tx} (h : xs.all p = true) {k : Nat} (hk : k < xs.length) : p (nthS xs k) = true := by
  rw [nthS_eq hk]; exact List.all_eq_true.1 h _ (List.getElem_mem hk)
theorem tx_cons {s : ByteArray} (h : 0 < s.size) : tx s = s[0] :: (tx s).drop 1 := by
  have := tx_drop h
  rwa [List.drop_zero] at this
theorem pieceOk_iff {l : Tx} : pieceOk l = true ↔ 0 < l.length ∧ allLet l = true := by
  unfold pieceOk
  cases l <;> simp
set_option maxHeartbeats 1000000 in
theorem NameValid_c (w : World) (s : ByteArray) (hs : s.size ≤ 2000000) :
    Calls Tryz.prog 136 #[.string s] w fun e w' => e = .returned (.bool (nameOk (tx s))) ∧ Gr w w' := by
  go_enter Tryz.func136, Tryz.ntmps136
  go_wp2_with fail
  (with_reducible refine (l2Cut_c w s 46 46 rfl hs).mono ?_); rintro e w1 ⟨v1, rfl, ho, hg⟩
  have hss := ho.s
  have hlen := cutB_pos 46 (tx s)
  have HDEF : Hid (nameOk (tx s) = ((cutB 46 (tx s)).all pieceOk && (decide ((tx s).length ≤ 20) && lastLow (cutB 46 (tx s))))) := rfl
  have HPC : Hid (∀ k, k < (cutB 46 (tx s)).length → (nthS (cutB 46 (tx s)) k).length ≤ s.size) := fun k hk => by
    rw [← tx_len s, nthS_eq hk]; exact cutB_piece 46 (tx s) _ (List.getElem_mem hk)
  generalize cutB 46 (tx s) = ls at *
  obtain ⟨p, cap, rfl, hc1, hc2⟩ := hss.form
  clear ho
  go_wp2_with fail
  go_loop [4] (fun i => ∃ k : Nat, k ≤ ls.length ∧ i = .int .i64 k ∧ Hid ((ls.take k).all pieceOk = true)) (fun i => ls.length - (intOf i).toNat)
  case atStart => exact ⟨0, Nat.zero_le _, rfl, by simp [Hid]⟩
  case round =>
    obtain ⟨k, hk, rfl, hall⟩ := hrel
    by_cases hlt : k < ls.length
    · obtain ⟨a, hix, hca⟩ := hss.ix hlt
      obtain ⟨q, hq⟩ : ∃ q, q = S (nthS ls k) := ⟨_, rfl⟩
      rw [← hq] at hca
      have HQ : Hid (tx q = nthS ls k) := by rw [Hid, hq, tx_S]
      have hqs : q.size ≤ 2000000 := by have := HPC.out k hlt; rw [hq, S_len]; omega
      clear hq
      by_cases hz : q.size = 0
      · have hz' : ((q.size : Int) == 0) = true := by simp [hz]
        have HF : Hid (nameOk (tx s) = false) := by
          rw [Hid, HDEF.out, allS_false pieceOk hlt]; · rfl
          rw [← HQ.out]; cases h : tx q with
          | nil => rfl
          | cons x y => have := tx_len q; rw [h] at this; simp at this; omega
        clear hz
        go_wp2
        go_ret
        exact ⟨ret_bool HF.out.symm, hg⟩
      · have hz' : ((q.size : Int) == 0) = false := beq_eq_false_iff_ne.2 (by omega)
        have hz2 : 0 < q.size := by omega
        clear hz
        go_wp2_with fail
        go_loop [6] (fun j => ∃ m : Nat, m ≤ q.size ∧ j = .int .i64 m ∧ Hid (allLet ((tx q).take m) = true)) (fun j => q.size - (intOf j).toNat)
        case atStart => exact ⟨0, Nat.zero_le _, rfl, by simp [Hid, allLet]⟩
        case round =>
          obtain ⟨m, hm, rfl, hal⟩ := hrel
          by_cases hmt : m < q.size
          · cases hb : isLet (q[m].toNat : Int)
            · have HF : Hid (nameOk (tx s) = false) := by
                rw [Hid, HDEF.out, allS_false pieceOk hlt]; · rfl
                rw [← HQ.out, pieceOk, allLet, allU_false _ hmt hb]; simp
              have HB := Lib.hid hb
              clear hb
              go_wp2_with fail
              (with_reducible refine (l2Letter_c _ _).mono ?_); rintro e w2 ⟨rfl, rfl⟩
              rw [HB.out]
              go_wp2
              go_ret
              exact ⟨ret_bool HF.out.symm, hg⟩
            · have HN : Hid (allLet ((tx q).take (m+1)) = true) := by
                have := hal.out
                unfold allLet at this
                rw [Hid, allLet, allU_step _ hmt, this, hb]; rfl
              have HB := Lib.hid hb
              clear hb
              go_wp2_with fail
              (with_reducible refine (l2Letter_c _ _).mono ?_); rintro e w2 ⟨rfl, rfl⟩
              rw [HB.out]
              go_wp2
              go_round
              case rel => exact ⟨m+1, by omega, by go_num, HN.out⟩
              case measure => simp [intOf]; omega
          · have HN : Hid ((ls.take (k+1)).all pieceOk = true) := by
              have h1 := hal.out
              rw [List.take_of_length_le (by rw [tx_len]; omega)] at h1
              rw [Hid, take_allS pieceOk hlt, hall.out, ← HQ.out, pieceOk_iff.2 ⟨by rw [tx_len]; exact hz2, h1⟩]; rfl
            go_wp2
            go_round
            case rel => exact ⟨k+1, by omega, by go_num, HN.out⟩
            case measure => simp [intOf]; omega
    · have h1 := hall.out
      rw [List.take_of_length_le (by omega)] at h1
      have hk' : ls.length - 1 < ls.length := by omega
      obtain ⟨a, hix, hca⟩ := hss.ix hk'
      have ek : ((ls.length - 1 : Nat) : Int) = (ls.length : Int) - 1 := by omega
      rw [ek] at hix
      obtain ⟨q, hq⟩ : ∃ q, q = S (nthS ls (ls.length - 1)) := ⟨_, rfl⟩
      rw [← hq] at hca
      have hq2 : tx q = nthS ls (ls.length - 1) := by rw [hq, tx_S]
      have hz := (pieceOk_iff.1 (allS_at h1 hk')).1
      rw [← hq2, tx_len] at hz
      have hd : nameOk (tx s) = (decide (s.size ≤ 20) && isLow (q[0].toNat : Int)) := by
        rw [HDEF.out, h1, tx_len, lastLow, ← hq2, tx_cons hz]; rfl
      have HD := Lib.hid hd
      clear hd hq hq2 h1 hk' ek hall
      by_cases h20 : s.size ≤ 20
      · have d20 : decide ((s.size : Int) ≤ 20) = true := by simp; omega
        by_cases h97 : (97 : Int) ≤ (q[0].toNat : Int)
        · have d97 : decide ((97 : Int) ≤ (q[0].toNat : Int)) = true := by simpa using h97
          go_wp2
          go_ret
          exact ⟨ret_bool (by rw [HD.out, isLow, d97]; simp [h20]), hg⟩
        · have d97 : decide ((97 : Int) ≤ (q[0].toNat : Int)) = false := by simpa using h97
          go_wp2
          go_ret
          exact ⟨ret_bool (by rw [HD.out, isLow, d97]; simp [h20]), hg⟩
      · have d20 : decide ((s.size : Int) ≤ 20) = false := by simp; omega
        go_wp2
        go_ret
        exact ⟨ret_bool (by rw [HD.out]; simp [h20]), hg⟩
/-- A letter of a user. -/
def isUsr (c : Int) : Bool := isLow c || isDig c
def userOk (l : Tx) : Bool := (l.all fun c => isUsr (c.toNat : Int)) && decide (l.length ≤ 8)
theorem isUsr_iff (c : Int) : isUsr c = (isLet c && !(c == 45)) := by
  rw [Bool.eq_iff_iff]
  simp [isUsr, isLet, isLow, isDig]
  omega
set_option maxHeartbeats 1000000 in
theorem UserValid_c (w : World) (s : ByteArray) (hs : s.size ≤ 2000000) :
    Calls Tryz.prog 139 #[.string s] w fun e w' => e = .returned (.bool (userOk (tx s))) ∧ w = w' := by
  go_enter Tryz.func139, Tryz.ntmps139
  go_wp2_with fail
  go_loop [3] (fun i => ∃ k : Nat, k ≤ s.size ∧ i = .int .i64 k ∧ Hid (((tx s).take k).all (fun c => isUsr (c.toNat : Int)) = true)) (fun i => s.size - (intOf i).toNat)
  case atStart => exact ⟨0, Nat.zero_le _, rfl, by simp [Hid]⟩
  case round =>
    obtain ⟨k, hk, rfl, hall⟩ := hrel
    by_cases hlt : k < s.size
    · have hu := isUsr_iff (s[k].toNat : Int)
      cases hb : isLet (s[k].toNat : Int)
      · have HF : Hid (userOk (tx s) = false) := by
          rw [Hid, userOk, allU_false _ hlt (by rw [hu, hb]; rfl)]; rfl
        have HB := Lib.hid hb
        clear hb hu
        go_wp2_with fail
        (with_reducible refine (l2Letter_c _ _).mono ?_); rintro e w2 ⟨rfl, rfl⟩
        rw [HB.out]
        go_wp2
        go_ret
        exact ⟨ret_bool HF.out.symm, rfl⟩
      · cases hm : ((s[k].toNat : Int) == 45)
        · have HN : Hid (((tx s).take (k+1)).all (fun c => isUsr (c.toNat : Int)) = true) := by
            rw [Hid, allU_step _ hlt, hall.out, hu, hb, hm]; rfl
          have HB := Lib.hid hb
          clear hb hu
          go_wp2_with fail
          (with_reducible refine (l2Letter_c _ _).mono ?_); rintro e w2 ⟨rfl, rfl⟩
          rw [HB.out]
          go_wp2
          go_round
          case rel => exact ⟨k+1, by omega, by go_num, HN.out⟩
          case measure => simp [intOf]; omega
        · have HF : Hid (userOk (tx s) = false) := by
            rw [Hid, userOk, allU_false _ hlt (by rw [hu, hb, hm]; rfl)]; rfl
          have HB := Lib.hid hb
          clear hb hu
          go_wp2_with fail
          (with_reducible refine (l2Letter_c _ _).mono ?_); rintro e w2 ⟨rfl, rfl⟩
          rw [HB.out]
          go_wp2
          go_ret
          exact ⟨ret_bool HF.out.symm, rfl⟩
    · have h1 := hall.out
      rw [List.take_of_length_le (by rw [tx_len]; omega)] at h1
      have HD : Hid (userOk (tx s) = decide (s.size ≤ 8)) := by rw [Hid, userOk, h1, tx_len]; rfl
      clear h1
      go_wp2
      go_ret
      exact ⟨ret_bool (by rw [HD.out, Bool.eq_iff_iff]; simp; omega), rfl⟩
/-- Four bytes. -/
def quadOk (q : List Int) : Bool := bv q && decide (q.length = 4)
theorem QuadValid_c {w : World} {v : Value} {xs : List Int} (h : IntS w v xs) :
    Calls Tryz.prog 135 #[v] w fun e w' => e = .returned (.bool (quadOk xs)) ∧ w = w' := by
  obtain ⟨p, cap, rfl, hl1, hl2⟩ := h.form
  have HD : Hid (quadOk xs = (bv xs && decide (xs.length = 4))) := rfl
  cases hb : bv xs
  · have HB := Lib.hid hb; clear hb
    go_enter Tryz.func135, Tryz.ntmps135
    go_wp2_with fail
    (with_reducible refine (specBytesValid_c h).mono ?_); rintro e w1 ⟨rfl, rfl⟩
    rw [HB.out]
    go_wp2
    go_ret
    exact ⟨ret_bool (by rw [HD.out, HB.out]; rfl), rfl⟩
  · have HB := Lib.hid hb; clear hb
    go_enter Tryz.func135, Tryz.ntmps135
    go_wp2_with fail
    (with_reducible refine (specBytesValid_c h).mono ?_); rintro e w1 ⟨rfl, rfl⟩
    rw [HB.out]
    go_wp2
    go_ret
    exact ⟨ret_bool (by rw [HD.out, HB.out, Bool.eq_iff_iff]; simp; omega), rfl⟩
end Go.Proofs.YtpdjibfcbjknhaaGreatDoor
namespace Go.Proofs.YtpdjibfcbjknhaaGreatDoor
open Go.RowKit
/-- An address. -/
structure Adr where
  kind : Int
  quad : List Int
  name : Tx
  port : Int
def adrOk (a : Adr) : Bool := inB 0 65535 a.port && (if a.kind = 1 then quadOk a.quad && a.name.isEmpty else if a.kind = 3 then nameOk a.name && a.quad.isEmpty else false)
theorem emp_tx (s : ByteArray) : s.toList.isEmpty = (tx s).isEmpty := by rw [ByteArray.toList_eq]; rfl
set_option maxHeartbeats 1000000 in
theorem AddressValid_c {w : World} {q : Value} {xs : List Int} (k port : Int) (s : ByteArray) (hq : IntS w q xs) (hs : s.size ≤ 2000000) :
    Calls Tryz.prog 98 #[.agg #[.int .i64 k, q, .string s, .int .i64 port]] w fun e w' => e = .returned (.bool (adrOk ⟨k, xs, tx s, port⟩)) ∧ Gr w w' := by
  obtain ⟨p, cap, rfl, _, _⟩ := hq.form
  have hg := gr_alloc w (.cells #[.int .i64 k, .slice p xs.length cap, .string s, .int .i64 port] 65)
  have HD : Hid (adrOk ⟨k, xs, tx s, port⟩ = (inB 0 65535 port && (if k = 1 then quadOk xs && (tx s).isEmpty else if k = 3 then nameOk (tx s) && xs.isEmpty else false))) := rfl
  generalize adrOk ⟨k, xs, tx s, port⟩ = r at *
  cases hp : inB 0 65535 port
  · have HP := Lib.hid hp; clear hp
    go_enter Tryz.func98, Tryz.ntmps98
    go_wp2_with fail
    (with_reducible refine (l6In_c _ _ _ _).mono ?_); rintro e w1 ⟨rfl, rfl⟩
    rw [HP.out]
    go_wp2
    go_ret
    exact ⟨ret_bool (by rw [HD.out, HP.out]; rfl), hg⟩
  · have HP := Lib.hid hp; clear hp
    by_cases k1 : k = 1
    · subst k1
      cases hb : quadOk xs
      · have HB := Lib.hid hb; clear hb
        go_enter Tryz.func98, Tryz.ntmps98
        go_wp2_with fail
        (with_reducible refine (l6In_c _ _ _ _).mono ?_); rintro e w1 ⟨rfl, rfl⟩
        rw [HP.out]
        go_wp2_with fail
        (with_reducible refine (QuadValid_c (hq.kept hg)).mono ?_); rintro e w2 ⟨rfl, rfl⟩
        rw [HB.out]
        go_wp2
        go_ret
        exact ⟨ret_bool (by rw [HD.out, HP.out, HB.out]; rfl), hg⟩
      · have HB := Lib.hid hb; clear hb
        have he := emp_tx s
        go_enter Tryz.func98, Tryz.ntmps98
        go_wp2_with fail
        (with_reducible refine (l6In_c _ _ _ _).mono ?_); rintro e w1 ⟨rfl, rfl⟩
        rw [HP.out]
        go_wp2_with fail
        (with_reducible refine (QuadValid_c (hq.kept hg)).mono ?_); rintro e w2 ⟨rfl, rfl⟩
        rw [HB.out]
        go_wp2
        go_ret
        exact ⟨ret_bool (by rw [HD.out, HP.out, HB.out]; simp), hg⟩
    · have k1' : (k == 1) = false := beq_eq_false_iff_ne.2 k1
      by_cases k3 : k = 3
      · subst k3
        cases hb : nameOk (tx s)
        · have HB := Lib.hid hb; clear hb
          go_enter Tryz.func98, Tryz.ntmps98
          go_wp2_with fail
          (with_reducible refine (l6In_c _ _ _ _).mono ?_); rintro e w1 ⟨rfl, rfl⟩
          rw [HP.out]
          go_wp2_with fail
          (with_reducible refine (NameValid_c _ s hs).mono ?_); rintro e w2 ⟨rfl, g2⟩
          rw [HB.out]
          go_wp2
          go_ret
          exact ⟨ret_bool (by rw [HD.out, HP.out, HB.out]; rfl), hg.trans g2⟩
        · have HB := Lib.hid hb; clear hb
          have hc := fun {w2 : World} (g2 : Gr (w.alloc (.cells #[.int .i64 3, .slice p xs.length cap, .string s, .int .i64 port] 65)) w2) => g2.cell (p := ⟨w.heap.size, 1, none⟩) (v := .slice p xs.length cap) (by simp)
          go_enter Tryz.func98, Tryz.ntmps98
          go_wp2_with fail
          (with_reducible refine (l6In_c _ _ _ _).mono ?_); rintro e w1 ⟨rfl, rfl⟩
          rw [HP.out]
          go_wp2_with fail
          (with_reducible refine (NameValid_c _ s hs).mono ?_); rintro e w2 ⟨rfl, g2⟩
          rw [HB.out]
          have hc2 := hc g2
          clear hc
          go_wp2
          go_ret
          exact ⟨ret_bool (by rw [HD.out, HP.out, HB.out, Bool.eq_iff_iff]; simp), hg.trans g2⟩
      · have k3' : (k == 3) = false := beq_eq_false_iff_ne.2 k3
        have HD2 : Hid (r = false) := by rw [Hid, HD.out, if_neg k1, if_neg k3]; simp
        clear k1 k3
        go_enter Tryz.func98, Tryz.ntmps98
        go_wp2_with fail
        (with_reducible refine (l6In_c _ _ _ _).mono ?_); rintro e w1 ⟨rfl, rfl⟩
        rw [HP.out]
        go_wp2
        go_ret
        exact ⟨ret_bool HD2.out.symm, hg⟩
end Go.Proofs.YtpdjibfcbjknhaaGreatDoor
namespace Go.Proofs.YtpdjibfcbjknhaaGreatDoor
open Go.RowKit
/-- A number in decimals. -/
def dec (n : Nat) : Tx := if n < 10 then [UInt8.ofNat (48 + n)] else dec (n / 10) ++ [UInt8.ofNat (48 + n % 10)]
  termination_by n
  decreasing_by omega
theorem dec_small {n : Nat} (h : n < 10) : dec n = [UInt8.ofNat (48 + n)] := by rw [dec, if_pos h]
theorem dec_big {n : Nat} (h : ¬ n < 10) : dec n = dec (n / 10) ++ [UInt8.ofNat (48 + n % 10)] := by rw [dec, if_neg h]
theorem dec_len {n : Nat} (h : n ≤ 100000000) : (dec n).length ≤ 9 ∧ 1 ≤ (dec n).length := by
  have key : ∀ k n : Nat, n < 10 ^ (k + 1) → (dec n).length ≤ k + 1 ∧ 1 ≤ (dec n).length := by
    intro k
    induction k with
    | zero => intro n hn; rw [dec_small (by omega)]; simp
    | succ k ih =>
      intro n hn
      by_cases h10 : n < 10
      · rw [dec_small h10]; simp
      · rw [dec_big h10]
        have := ih (n / 10) (by rw [Nat.pow_succ] at hn; omega)
        simp; omega
  exact key 8 n (by omega)
theorem uStr : Tryz.prog.underlying 9 = some .string := by kernel_rfl
theorem uU8 : Tryz.prog.underlying 5 = some (.int .u8) := by kernel_rfl
theorem conv1 (w : World) (b : Nat) (x : Int) (hc : w.cell? ⟨b, 0, none⟩ = some (.int .u8 x)) : (convert 22 9 (.slice (some ⟨b, 0, none⟩) 1 1)).run Tryz.prog w = .ok (.string (S [UInt8.ofNat x.toNat])) w := by
  have := run_convert_bytes_arg (P := Tryz.prog) w 22 5 uB uU8 b 0 1 1 [x] rfl (fun i hi => by
    obtain rfl : i = 0 := by omega
    exact hc) 9 uStr
  rw [this]; rfl
theorem Gr.cellEq {a b : World} (h : Gr a b) : ∀ k o, k < a.heap.size → b.cell? ⟨k, o, none⟩ = a.cell? ⟨k, o, none⟩ := by
  intro k o hk
  simp only [World.cell?]
  rw [Below.block h k hk]
set_option maxHeartbeats 1000000 in
theorem l6Dec_c (n : Nat) : n ≤ 100000 → ∀ (w : World) (ni : Int), ni = (n : Int) →
    Calls Tryz.prog 138 #[.int .i64 ni] w fun e w' => e = .returned (.string (S (dec n))) ∧ Gr w w' := by
  induction n using Nat.strongRecOn with
  | ind n ih =>
    intro hn w ni hni
    subst hni
    by_cases h10 : n < 10
    · have HD := Lib.hid (dec_small h10)
      have h10' : (n : Int) < 10 := by omega
      have hcv := conv1
      go_enter Tryz.func138, Tryz.ntmps138
      go_wp2
      go_ret
      exact ⟨ret_str (by rw [HD.out]), gr_alloc _ _⟩
    · obtain ⟨q, hq⟩ : ∃ q, q = n / 10 := ⟨_, rfl⟩
      obtain ⟨r, hr⟩ : ∃ r, r = n % 10 := ⟨_, rfl⟩
      have hd : dec n = dec q ++ [UInt8.ofNat (48 + r)] := by rw [hq, hr]; exact dec_big h10
      have HD := Lib.hid hd
      have IH := Lib.hid (ih q (by omega) (by omega))
      have h10' : ¬ ((n : Int) < 10) := by omega
      have hr9 : r ≤ 9 := by omega
      have e1 : (n : Int).tdiv 10 = (q : Int) := by rw [Int.tdiv_eq_ediv_of_nonneg (by omega), hq]; omega
      have e2 : (n : Int).tmod 10 = (r : Int) := by rw [Int.tmod_eq_emod_of_nonneg (by omega), hr]; omega
      have e3 : IntKind.i64.wrap (q : Int) = (q : Int) := by rw [IntKind.wrap_i64]; omega
      have e4 : IntKind.i64.wrap (48 + (r : Int)) = 48 + (r : Int) := by rw [IntKind.wrap_i64]; omega
      have e5 : IntKind.u8.wrap (48 + (r : Int)) = 48 + (r : Int) := by rw [IntKind.wrap_u8]; omega
      have e6 : (48 + (r : Int)).toNat = 48 + r := by omega
      have hcv := conv1
      have hsz : (S (dec q)).size ≤ 9 := by rw [S_len]; exact (dec_len (by omega)).1
      have hs1 : ∀ x, (S [x]).size = 1 := fun x => rfl
      clear ih hd hq hr h10
      go_enter Tryz.func138, Tryz.ntmps138
      go_wp2_with fail
      go_region_with (first
        | (go_at_call 138; (with_reducible refine (IH.out _ _ rfl).mono ?_); rintro e w1 ⟨rfl, g1⟩; have hc1 := g1.cellEq; have hg1 : Gr w w1 := ((Gr.refl w).drew.trans g1))
        | (go_at_call 138; (with_reducible refine (IH.out _ _ rfl).mono ?_); rintro e w1 ⟨rfl, g1⟩; have hc1 := g1.cellEq; have hg1 : Gr w w1 := (((Gr.refl w).drew.alloc _).trans g1)))
      all_goals
        go_wp2
        go_ret
        first
          | exact ⟨ret_str (by rw [HD.out, ← S_app]; simp), hg1.alloc _⟩
          | exact ⟨ret_str (by rw [HD.out, ← S_app]; simp), hg1⟩
/-- The text of four bytes. -/
def quadText (q : List Int) : Tx := dec (nth q 0).toNat ++ [46] ++ dec (nth q 1).toNat ++ [46] ++ dec (nth q 2).toNat ++ [46] ++ dec (nth q 3).toNat
/-- Texts joined. -/
theorem add_eq {P : Program} (x y : ByteArray) (l : Tx) (h : tx x ++ tx y = l) (hl : l.length ≤ 1000000) : ∀ w, (Op.stringOp .add x y).run P w = .ok (.string (S l)) w := by
  intro w
  have hx := tx_len x
  have hy := tx_len y
  have hh : (tx x).length + (tx y).length = l.length := by rw [← h, List.length_append]
  rw [run_string_add (P := P) w x y (by omega) (by omega)]
  rw [show x ++ y = S l from S_eq (by rw [tx_app]; exact h)]
theorem IntS.ixN {w : World} {p : Option Addr} {cap n : Nat} {xs : List Int} (h : IntS w (.slice p n cap) xs) (hn : xs.length = n) (k : Nat) (ki : Int) (hki : ki = (k : Int)) (hk : k < n) :
    ∃ a : Addr, (∀ w1, (Instr.indexAt 23 (.slice p n cap) (.int .i64 ki)).run Tryz.prog w1 = .ok (.pointer (some a)) w1) ∧ w.cell? a = some (.int .i64 (nth xs k)) := by
  subst hn hki
  exact h.ix hk
theorem quad_bytes {xs : List Int} (h : quadOk xs = true) : xs.length = 4 ∧ ∀ k, k < 4 → 0 ≤ nth xs k ∧ nth xs k ≤ 255 := by
  simp only [quadOk, Bool.and_eq_true, decide_eq_true_eq] at h
  exact ⟨h.2, fun k hk => (by have hq := h.1; simp only [bv, Bool.and_eq_true, List.all_eq_true] at hq; rw [nth_eq (by omega)]; exact inB_iff.1 (hq.1 _ (List.getElem_mem (by omega))))⟩
set_option maxHeartbeats 2000000 in
theorem l2Quad_c {w : World} {v : Value} {xs : List Int} (h : IntS w v xs) (hok : quadOk xs = true) :
    Calls Tryz.prog 158 #[v] w fun e w' => e = .returned (.string (S (quadText xs))) ∧ Gr w w' := by
  obtain ⟨p, cap, rfl, _, _⟩ := h.form
  obtain ⟨h4, hb⟩ := quad_bytes hok
  obtain ⟨a0, x0, c0⟩ := h.ixN rfl 0 0 rfl (by omega)
  obtain ⟨a1, x1, c1⟩ := h.ixN rfl 1 1 rfl (by omega)
  obtain ⟨a2, x2, c2⟩ := h.ixN rfl 2 2 rfl (by omega)
  obtain ⟨a3, x3, c3⟩ := h.ixN rfl 3 3 rfl (by omega)
  have b0 := hb 0 (by omega)
  have b1 := hb 1 (by omega)
  have b2 := hb 2 (by omega)
  have b3 := hb 3 (by omega)
  have HQ : Hid (quadText xs = dec (nth xs 0).toNat ++ [46] ++ dec (nth xs 1).toNat ++ [46] ++ dec (nth xs 2).toNat ++ [46] ++ dec (nth xs 3).toNat) := rfl
  generalize nth xs 0 = y0 at *
  generalize nth xs 1 = y1 at *
  generalize nth xs 2 = y2 at *
  generalize nth xs 3 = y3 at *
  have z0 := (dec_len (show y0.toNat ≤ 100000000 by omega)).1
  have z1 := (dec_len (show y1.toNat ≤ 100000000 by omega)).1
  have z2 := (dec_len (show y2.toNat ≤ 100000000 by omega)).1
  have z3 := (dec_len (show y3.toNat ≤ 100000000 by omega)).1
  have L0 := Lib.hid (l6Dec_c y0.toNat (by omega))
  have L1 := Lib.hid (l6Dec_c y1.toNat (by omega))
  have L2 := Lib.hid (l6Dec_c y2.toNat (by omega))
  have L3 := Lib.hid (l6Dec_c y3.toNat (by omega))
  have N0 : Hid (y0 = (y0.toNat : Int)) := Lib.hid (by omega)
  have N1 : Hid (y1 = (y1.toNat : Int)) := Lib.hid (by omega)
  have N2 : Hid (y2 = (y2.toNat : Int)) := Lib.hid (by omega)
  have N3 : Hid (y3 = (y3.toNat : Int)) := Lib.hid (by omega)
  clear hb hok
  generalize dec y0.toNat = d0 at *
  generalize dec y1.toNat = d1 at *
  generalize dec y2.toNat = d2 at *
  generalize dec y3.toNat = d3 at *
  have A1 := add_eq (P := Tryz.prog) (S d0) ⟨#[46]⟩ (d0 ++ [46]) (by rw [tx_S]; rfl) (by simp; omega)
  have A2 := add_eq (P := Tryz.prog) (S (d0 ++ [46])) (S d1) (d0 ++ [46] ++ d1) (by rw [tx_S, tx_S]) (by simp; omega)
  have A3 := add_eq (P := Tryz.prog) (S (d0 ++ [46] ++ d1)) ⟨#[46]⟩ (d0 ++ [46] ++ d1 ++ [46]) (by rw [tx_S]; rfl) (by simp; omega)
  have A4 := add_eq (P := Tryz.prog) (S (d0 ++ [46] ++ d1 ++ [46])) (S d2) (d0 ++ [46] ++ d1 ++ [46] ++ d2) (by rw [tx_S, tx_S]) (by simp; omega)
  have A5 := add_eq (P := Tryz.prog) (S (d0 ++ [46] ++ d1 ++ [46] ++ d2)) ⟨#[46]⟩ (d0 ++ [46] ++ d1 ++ [46] ++ d2 ++ [46]) (by rw [tx_S]; rfl) (by simp; omega)
  have A6 := add_eq (P := Tryz.prog) (S (d0 ++ [46] ++ d1 ++ [46] ++ d2 ++ [46])) (S d3) (d0 ++ [46] ++ d1 ++ [46] ++ d2 ++ [46] ++ d3) (by rw [tx_S, tx_S]) (by simp; omega)
  generalize d0 ++ [46] = u1 at *
  generalize u1 ++ d1 = u2 at *
  generalize u2 ++ [46] = u3 at *
  generalize u3 ++ d2 = u4 at *
  generalize u4 ++ [46] = u5 at *
  generalize u5 ++ d3 = u6 at *
  have H4 := Lib.hid h4
  clear h4 z0 z1 z2 z3
  go_enter Tryz.func158, Tryz.ntmps158
  go_wp2_with fail
  go_region_held3 (fun w' => w'.cell? a0 = some (.int .i64 y0) ∧ w'.cell? a1 = some (.int .i64 y1) ∧ w'.cell? a2 = some (.int .i64 y2) ∧ w'.cell? a3 = some (.int .i64 y3)) (first | (exact ⟨g4.cell c0, g4.cell c1, g4.cell c2, g4.cell c3⟩) | (exact ⟨g3.cell c0, g3.cell c1, g3.cell c2, g3.cell c3⟩) | (exact ⟨g2.cell c0, g2.cell c1, g2.cell c2, g2.cell c3⟩) | (exact ⟨g1.cell c0, g1.cell c1, g1.cell c2, g1.cell c3⟩) | go_keep) (first
    | (go_at_call 138; (with_reducible refine (L0.out _ y0 N0.out).mono ?_); rintro e w1 ⟨rfl, g1'⟩; have g1 : Gr w w1 := g1'.undrew)
    | (go_at_call 138; (with_reducible refine (L1.out _ y1 N1.out).mono ?_); rintro e w2 ⟨rfl, g2'⟩; have g2 : Gr w w2 := g1.trans g2')
    | (go_at_call 138; (with_reducible refine (L2.out _ y2 N2.out).mono ?_); rintro e w3 ⟨rfl, g3'⟩; have g3 : Gr w w3 := g2.trans g3')
    | (go_at_call 138; (with_reducible refine (L3.out _ y3 N3.out).mono ?_); rintro e w4 ⟨rfl, g4'⟩; have g4 : Gr w w4 := g3.trans g4'))
  go_wp2
  go_ret
  exact ⟨ret_str (by rw [HQ.out]), g4⟩
end Go.Proofs.YtpdjibfcbjknhaaGreatDoor
namespace Go.Proofs.YtpdjibfcbjknhaaGreatDoor
open Go.RowKit
theorem boxN {w w1 : World} {cs : Array Value} {t : TypeId} (h : Gr (w.alloc (.cells cs t)) w1) (j : Nat) {v : Value} (hj : cs[j]? = some v) : w1.cell? ⟨w.heap.size, j, none⟩ = some v :=
  h.cell (by have e := heap_alloc_new w (.cells cs t); simp only [World.cell?, e]; exact hj)
theorem quadText_len {xs : List Int} (h : quadOk xs = true) : (quadText xs).length ≤ 39 := by
  have hb := (quad_bytes h).2
  have b0 := hb 0 (by omega)
  have b1 := hb 1 (by omega)
  have b2 := hb 2 (by omega)
  have b3 := hb 3 (by omega)
  have z0 := (dec_len (show (nth xs 0).toNat ≤ 100000000 by omega)).1
  have z1 := (dec_len (show (nth xs 1).toNat ≤ 100000000 by omega)).1
  have z2 := (dec_len (show (nth xs 2).toNat ≤ 100000000 by omega)).1
  have z3 := (dec_len (show (nth xs 3).toNat ≤ 100000000 by omega)).1
  simp [quadText]; omega
def hostText (a : Adr) : Tx := if a.kind = 1 then quadText a.quad else a.name
def addrText (a : Adr) : Tx := hostText a ++ [58] ++ dec a.port.toNat
theorem adr_port {a : Adr} (h : adrOk a = true) : 0 ≤ a.port ∧ a.port ≤ 65535 := by
  simp only [adrOk, Bool.and_eq_true] at h
  exact inB_iff.1 h.1
theorem adr_kind {a : Adr} (h : adrOk a = true) : (a.kind = 1 ∧ quadOk a.quad = true ∧ a.name = []) ∨ (a.kind = 3 ∧ nameOk a.name = true ∧ a.quad = []) := by
  simp only [adrOk, Bool.and_eq_true] at h
  have h2 := h.2
  split at h2
  · simp at h2; exact .inl ⟨by assumption, h2.1, h2.2⟩
  · split at h2
    · simp at h2; exact .inr ⟨by assumption, h2.1, h2.2⟩
    · cases h2
theorem nameOk_len {l : Tx} (h : nameOk l = true) : l.length ≤ 20 := by
  simp only [nameOk, Bool.and_eq_true, decide_eq_true_eq] at h
  exact h.2.1
theorem hostText_len {a : Adr} (h : adrOk a = true) : (hostText a).length ≤ 39 := by
  rcases adr_kind h with ⟨h1, h2, _⟩ | ⟨h1, h2, _⟩
  · rw [hostText, if_pos h1]; exact quadText_len h2
  · rw [hostText, if_neg (by omega)]; have := nameOk_len h2; omega
theorem addrText_len {a : Adr} (h : adrOk a = true) : (addrText a).length ≤ 49 := by
  have h1 := hostText_len h
  have h2 := adr_port h
  have h3 := (dec_len (show a.port.toNat ≤ 100000000 by omega)).1
  simp [addrText]; omega
set_option maxHeartbeats 1000000 in
theorem l3Host_c {w : World} {q : Value} {xs : List Int} (k port : Int) (s : ByteArray) (hq : IntS w q xs) (hok : adrOk ⟨k, xs, tx s, port⟩ = true) :
    Calls Tryz.prog 137 #[.agg #[.int .i64 k, q, .string s, .int .i64 port]] w fun e w' => e = .returned (.string (S (hostText ⟨k, xs, tx s, port⟩))) ∧ Gr w w' := by
  obtain ⟨p, cap, rfl, _, _⟩ := hq.form
  have hg := gr_alloc w (.cells #[.int .i64 k, .slice p xs.length cap, .string s, .int .i64 port] 65)
  have hk := adr_kind hok
  have HT : Hid (hostText ⟨k, xs, tx s, port⟩ = if k = 1 then quadText xs else tx s) := rfl
  generalize hostText ⟨k, xs, tx s, port⟩ = r at *
  by_cases k1 : k = 1
  · subst k1
    have hqo : quadOk xs = true := by
      rcases hk with ⟨_, h, _⟩ | ⟨h, _⟩
      · exact h
      · cases h
    have HQ := Lib.hid hqo
    clear hk hok hqo
    go_enter Tryz.func137, Tryz.ntmps137
    go_wp2_with fail
    (with_reducible refine (l2Quad_c (hq.kept hg) HQ.out).mono ?_); rintro e w1 ⟨rfl, g1⟩
    go_wp2
    go_ret
    exact ⟨ret_str (by rw [HT.out]; simp), hg.trans g1⟩
  · have k1' : (k == 1) = false := beq_eq_false_iff_ne.2 k1
    have HR : Hid (r = tx s) := by rw [Hid, HT.out, if_neg k1]
    clear hk hok k1
    go_enter Tryz.func137, Tryz.ntmps137
    go_wp2
    go_ret
    exact ⟨ret_str (by rw [HR.out, S_tx]), hg⟩
set_option maxHeartbeats 2000000 in
theorem AddressText_c {w : World} {q : Value} {xs : List Int} (k port : Int) (s : ByteArray) (hq : IntS w q xs) (hs : s.size ≤ 2000000) :
    Calls Tryz.prog 99 #[.agg #[.int .i64 k, q, .string s, .int .i64 port]] w fun e w' => e = .returned (.string (S (if adrOk ⟨k, xs, tx s, port⟩ = true then addrText ⟨k, xs, tx s, port⟩ else []))) ∧ Gr w w' := by
  obtain ⟨p, cap, rfl, _, _⟩ := hq.form
  have hg := gr_alloc w (.cells #[.int .i64 k, .slice p xs.length cap, .string s, .int .i64 port] 65)
  cases hok : adrOk ⟨k, xs, tx s, port⟩
  · have HOK := Lib.hid hok
    clear hok
    go_enter Tryz.func99, Tryz.ntmps99
    go_wp2_with fail
    (with_reducible refine (AddressValid_c k port s (hq.kept hg) hs).mono ?_); rintro e w1 ⟨rfl, g1⟩
    rw [HOK.out]
    go_wp2
    go_ret
    exact ⟨rfl, hg.trans g1⟩
  · have HOK := Lib.hid hok
    have hp := adr_port hok
    have hl := hostText_len hok
    simp only [] at hp
    have z := (dec_len (show port.toNat ≤ 100000000 by omega)).1
    have HT : Hid (addrText ⟨k, xs, tx s, port⟩ = hostText ⟨k, xs, tx s, port⟩ ++ [58] ++ dec port.toNat) := rfl
    have LH := Lib.hid (fun (W : World) (hW : IntS W (.slice p xs.length cap) xs) => l3Host_c k port s hW hok)
    have LD := Lib.hid (l6Dec_c port.toNat (by omega))
    have NP : Hid (port = (port.toNat : Int)) := Lib.hid (by omega)
    generalize hostText ⟨k, xs, tx s, port⟩ = ht at *
    generalize dec port.toNat = dp at *
    generalize addrText ⟨k, xs, tx s, port⟩ = r at *
    have A1 := add_eq (P := Tryz.prog) (S ht) ⟨#[58]⟩ (ht ++ [58]) (by rw [tx_S]; rfl) (by simp; omega)
    have A2 := add_eq (P := Tryz.prog) (S (ht ++ [58])) (S dp) (ht ++ [58] ++ dp) (by rw [tx_S, tx_S]) (by simp; omega)
    generalize ht ++ [58] = u1 at *
    generalize u1 ++ dp = u2 at *
    clear hok hl z
    go_enter Tryz.func99, Tryz.ntmps99
    go_wp2_with fail
    (with_reducible refine (AddressValid_c k port s (hq.kept hg) hs).mono ?_); rintro e w1 ⟨rfl, g1⟩
    rw [HOK.out]
    have hG1 := hg.trans g1
    have c0 := boxN g1 0 rfl
    have c1 := boxN g1 1 rfl
    have c2 := boxN g1 2 rfl
    have c3 := boxN g1 3 rfl
    go_wp2_with fail
    go_region_held3 (fun w' => w'.cell? ⟨w.heap.size, 0, none⟩ = some (.int .i64 k) ∧ w'.cell? ⟨w.heap.size, 1, none⟩ = some (.slice p xs.length cap) ∧ w'.cell? ⟨w.heap.size, 2, none⟩ = some (.string s) ∧ w'.cell? ⟨w.heap.size, 3, none⟩ = some (.int .i64 port)) (first | (exact ⟨g3.cell c0, g3.cell c1, g3.cell c2, g3.cell c3⟩) | (exact ⟨g2.cell c0, g2.cell c1, g2.cell c2, g2.cell c3⟩) | go_keep) (first
      | (go_at_call 137; (with_reducible refine (LH.out _ ((hq.kept hG1).kept ((Gr.refl _).drew))).mono ?_); rintro e w2 ⟨rfl, g2'⟩; have g2 : Gr w1 w2 := g2'.undrew)
      | (go_at_call 138; (with_reducible refine (LD.out _ port NP.out).mono ?_); rintro e w3 ⟨rfl, g3'⟩; have g3 : Gr w1 w3 := g2.trans g3'))
    go_wp2
    go_ret
    exact ⟨ret_str (by rw [HT.out]), hG1.trans g3⟩
def tunnelT : Tx := [67, 79, 78, 78, 69, 67, 84, 32]
def httpT : Tx := [32, 72, 84, 84, 80, 47, 49, 46, 49, 13, 10, 72, 111, 115, 116, 58, 32]
/-- What asks for a tunnel. -/
def connText (t : Tx) : Tx := tunnelT ++ t ++ httpT ++ t ++ [13, 10, 13, 10]
theorem connText_len (t : Tx) : (connText t).length = 2 * t.length + 29 := by simp [connText, tunnelT, httpT]; omega
/-- A pair of addresses. -/
structure Par where
  src : Adr
  dst : Adr
def parOk (p : Par) : Bool := adrOk p.src && (adrOk p.dst && (decide (p.src.kind = 1) && decide (p.dst.kind = 1)))
end Go.Proofs.YtpdjibfcbjknhaaGreatDoor
namespace Go.Proofs.YtpdjibfcbjknhaaGreatDoor
open Go.RowKit
def lineT : Tx := [80, 82, 79, 88, 89, 32, 84, 67, 80, 52, 32]
/-- The line of a pair. -/
def lineText (p : Par) : Tx := lineT ++ quadText p.src.quad ++ [32] ++ quadText p.dst.quad ++ [32] ++ dec p.src.port.toNat ++ [32] ++ dec p.dst.port.toNat ++ [13, 10]
theorem par_parts {p : Par} (h : parOk p = true) : adrOk p.src = true ∧ adrOk p.dst = true ∧ p.src.kind = 1 ∧ p.dst.kind = 1 ∧ quadOk p.src.quad = true ∧ quadOk p.dst.quad = true ∧ p.src.name = [] ∧ p.dst.name = [] := by
  simp only [parOk, Bool.and_eq_true, decide_eq_true_eq] at h
  obtain ⟨h1, h2, h3, h4⟩ := h
  rcases adr_kind h1 with ⟨_, q1, m1⟩ | ⟨k1, _⟩
  · rcases adr_kind h2 with ⟨_, q2, m2⟩ | ⟨k2, _⟩
    · exact ⟨h1, h2, h3, h4, q1, q2, m1, m2⟩
    · omega
  · omega
theorem lineText_len {p : Par} (h : parOk p = true) : (lineText p).length ≤ 120 ∧ 1 ≤ (lineText p).length := by
  obtain ⟨h1, h2, _, _, q1, q2, _⟩ := par_parts h
  have a1 := quadText_len q1
  have a2 := quadText_len q2
  have p1 := adr_port h1
  have p2 := adr_port h2
  have z1 := (dec_len (show p.src.port.toNat ≤ 100000000 by omega)).1
  have z2 := (dec_len (show p.dst.port.toNat ≤ 100000000 by omega)).1
  have l : lineT.length = 11 := rfl
  simp [lineText]; omega
end Go.Proofs.YtpdjibfcbjknhaaGreatDoor
namespace Go.Proofs.YtpdjibfcbjknhaaGreatDoor
open Go.RowKit
/-- A request of the fourth version. -/
structure Oldq where
  cmd : Int
  dst : Adr
  user : Tx
def oldOk (x : Oldq) : Bool := inB 1 2 x.cmd && (adrOk x.dst && (userOk x.user && (decide (x.dst.kind = 3) || decide (0 < nth x.dst.quad 0 + nth x.dst.quad 1 + nth x.dst.quad 2))))
theorem userOk_len {l : Tx} (h : userOk l = true) : l.length ≤ 8 := by
  simp only [userOk, Bool.and_eq_true, decide_eq_true_eq] at h
  exact h.2
end Go.Proofs.YtpdjibfcbjknhaaGreatDoor
namespace Go.Proofs.YtpdjibfcbjknhaaGreatDoor
open Go.RowKit
/-- A list has a number. -/
def hasI (xs : List Int) (n : Int) : Bool := xs.any fun x => x == n
theorem l5Has_c {w : World} {v : Value} {xs : List Int} (n : Int) (h : IntS w v xs) :
    Calls Tryz.prog 61 #[v, .int .i64 n] w fun e w' => e = .returned (.bool (hasI xs n)) ∧ w = w' := by
  obtain ⟨p, cap, rfl, _, _⟩ := h.form
  go_enter Tryz.func61, Tryz.ntmps61
  go_wp2_with fail
  go_loop [5] (fun i => ∃ k : Nat, k ≤ xs.length ∧ i = .int .i64 k ∧ Hid (hasI (xs.take k) n = false)) (fun i => xs.length - (intOf i).toNat)
  case atStart => exact ⟨0, Nat.zero_le _, rfl, by simp [Hid, hasI]⟩
  case round =>
    obtain ⟨k, hk, rfl, hall⟩ := hrel
    by_cases hlt : k < xs.length
    · obtain ⟨a, hix, hca⟩ := h.ix hlt
      cases hb : (nth xs k == n)
      · have HN : Hid (hasI (xs.take (k+1)) n = false) := by
          have := hall.out
          unfold hasI at this
          rw [Hid, hasI, take_any _ hlt, this]; simpa using hb
        go_wp2
        go_round
        case rel => exact ⟨k+1, by omega, by go_num, HN.out⟩
        case measure => simp [intOf]; omega
      · have HN : Hid (hasI xs n = true) := by rw [Hid, hasI]; exact any_true _ hlt hb
        go_wp2
        go_ret
        exact ⟨ret_bool HN.out.symm, rfl⟩
    · have h1 := hall.out
      rw [List.take_of_length_le (by omega)] at h1
      have H1 := Lib.hid h1
      clear h1
      go_wp2
      go_ret
      exact ⟨ret_bool H1.out.symm, rfl⟩
def methAt (xs : List Int) (k : Nat) : Bool := inB 0 254 (nth xs k) && !hasI (xs.take k) (nth xs k)
/-- Valid methods. -/
def methOk (xs : List Int) : Bool := (List.range xs.length).all (methAt xs) && inB 1 8 xs.length
theorem methOk_no {xs : List Int} {k : Nat} (hk : k < xs.length) (h : methAt xs k = false) : methOk xs = false := by
  unfold methOk
  rw [show (List.range xs.length).all (methAt xs) = false from by rw [List.all_eq_false]; exact ⟨k, by simpa using hk, by simp [h]⟩]
  rfl
theorem methOk_all {xs : List Int} (h : ∀ j, j < xs.length → methAt xs j = true) : methOk xs = inB 1 8 xs.length := by
  unfold methOk
  rw [show (List.range xs.length).all (methAt xs) = true from by rw [List.all_eq_true]; exact fun j hj => h j (by simpa using hj)]
  rfl
theorem methOk_len {xs : List Int} (h : methOk xs = true) : 1 ≤ xs.length ∧ xs.length ≤ 8 := by
  simp only [methOk, Bool.and_eq_true] at h
  have := inB_iff.1 h.2
  omega
set_option maxHeartbeats 1000000 in
theorem l5Ok_c {w : World} {v : Value} {xs : List Int} (h : IntS w v xs) :
    Calls Tryz.prog 101 #[v] w fun e w' => e = .returned (.bool (methOk xs)) ∧ Gr w w' := by
  obtain ⟨p, cap, rfl, _, _⟩ := h.form
  go_enter Tryz.func101, Tryz.ntmps101
  go_wp2_with fail
  go_loopw [3] (fun i wr => ∃ k : Nat, k ≤ xs.length ∧ i = .int .i64 k ∧ Hid (∀ j, j < k → methAt xs j = true) ∧ Gr w wr) (fun i _ => xs.length - (intOf i).toNat)
  case atStart => exact ⟨0, Nat.zero_le _, rfl, fun j hj => by omega, Gr.refl _⟩
  case round =>
    obtain ⟨k, hk, rfl, hall, hgr⟩ := hrel
    by_cases hlt : k < xs.length
    · obtain ⟨a, hix, hca0⟩ := h.ix hlt
      have hca := hgr.cell hca0
      obtain ⟨v1, hsl, hr1⟩ := h.pre hk
      have HM : Hid (methAt xs k = (inB 0 254 (nth xs k) && !hasI (xs.take k) (nth xs k))) := rfl
      have HNO := Lib.hid (fun h0 => methOk_no hlt h0)
      have hr1' := hr1.kept hgr
      generalize nth xs k = y at *
      generalize xs.take k = zs at *
      cases hb : inB 0 254 y
      · have HF : Hid (methOk xs = false) := Lib.hid (HNO.out (by rw [HM.out, hb]; rfl))
        go_wp2_with fail
        go_quiet (first | (go_at_call 60; exact Calls.quiet_of_same ((l6In_c _ _ _ _).mono (fun e w' h => ⟨h.1, h.2.symm⟩))) | (go_at_call 61; exact Calls.quiet_of_same ((l5Has_c _ (hr1'.kept (gr_drewN _ _))).mono (fun e w' h => ⟨h.1, h.2.symm⟩))))
        go_wp2
        go_ret
        exact ⟨ret_bool HF.out.symm, hgr.drewN _⟩
      · cases hh : hasI zs y
        · have HN : Hid (methAt xs k = true) := by rw [Hid, HM.out, hb, hh]; rfl
          go_wp2_with fail
          go_quiet (first | (go_at_call 60; exact Calls.quiet_of_same ((l6In_c _ _ _ _).mono (fun e w' h => ⟨h.1, h.2.symm⟩))) | (go_at_call 61; exact Calls.quiet_of_same ((l5Has_c _ (hr1'.kept (gr_drewN _ _))).mono (fun e w' h => ⟨h.1, h.2.symm⟩))))
          go_wp2
          go_roundw
          case rel =>
            refine ⟨k+1, by omega, by go_num, fun j hj => ?_, hgr.drewN _⟩
            by_cases e : j = k
            · rw [e]; exact HN.out
            · exact hall.out j (by omega)
          case measure => simp [intOf]; omega
        · have HF : Hid (methOk xs = false) := Lib.hid (HNO.out (by rw [HM.out, hb, hh]; rfl))
          go_wp2_with fail
          go_quiet (first | (go_at_call 60; exact Calls.quiet_of_same ((l6In_c _ _ _ _).mono (fun e w' h => ⟨h.1, h.2.symm⟩))) | (go_at_call 61; exact Calls.quiet_of_same ((l5Has_c _ (hr1'.kept (gr_drewN _ _))).mono (fun e w' h => ⟨h.1, h.2.symm⟩))))
          go_wp2
          go_ret
          exact ⟨ret_bool HF.out.symm, hgr.drewN _⟩
    · have HF := Lib.hid (methOk_all (fun j hj => hall.out j (by omega)))
      go_wp2_with fail
      (with_reducible refine (l6In_c _ _ _ _).mono ?_); rintro e w1 ⟨rfl, rfl⟩
      go_wp2
      go_ret
      exact ⟨ret_bool HF.out.symm, hgr⟩
def helloBytes (xs : List Int) : List Int := 5 :: (xs.length : Int) :: xs
theorem IntO.two {w : World} {x y : Int} {m : Nat} (hm : m = w.heap.size) : IntO w.heap.size 3 (w.alloc (.cells #[.int .i64 x, .int .i64 y] 3)) (.slice (some ⟨m, 0, none⟩) 2 2) [x, y] := by
  subst hm; exact Own.lit w #[.int .i64 x, .int .i64 y] 2 (Nat.le_refl _) (by decide) rfl
set_option maxHeartbeats 1000000 in
theorem HelloBytes_c {w : World} {v : Value} {xs : List Int} (h : IntS w v xs) :
    Calls Tryz.prog 104 #[v] w fun e w' => ∃ v', e = .returned (.tuple #[v', .bool (methOk xs)]) ∧ IntO w.heap.size 3 w' v' (if methOk xs = true then helloBytes xs else []) ∧ Gr w w' := by
  obtain ⟨p, cap, rfl, _, _⟩ := h.form
  cases hok : methOk xs
  · have HOK := Lib.hid hok
    clear hok
    go_enter Tryz.func104, Tryz.ntmps104
    go_wp2_with fail
    (with_reducible refine (l5Ok_c h).mono ?_); rintro e w1 ⟨rfl, g1⟩
    rw [HOK.out]
    go_wp2
    go_ret2
    exact ⟨_, rfl, (IntO.mt w1).mono g1.sz, g1.alloc _⟩
  · have HOK := Lib.hid hok
    have hl := methOk_len hok
    clear hok
    go_enter Tryz.func104, Tryz.ntmps104
    go_wp2_with fail
    (with_reducible refine (l5Ok_c h).mono ?_); rintro e w1 ⟨rfl, g1⟩
    rw [HOK.out]
    have hz := g1.sz
    go_wp2_with (at_builtin; refine wpl_appI rfl (.tmp 10) (.tmp 11) rfl rfl (IntO.two (w := w1) rfl) rfl ((h.kept g1).kept (gr_alloc _ _)) (by simp; omega) (by simp) ?_; intro v3 w3 o3 g3)
    go_ret2
    exact ⟨_, rfl, (IntO.mono o3 hz), (g1.alloc _).thenB (g3.mono hz)⟩
end Go.Proofs.YtpdjibfcbjknhaaGreatDoor
