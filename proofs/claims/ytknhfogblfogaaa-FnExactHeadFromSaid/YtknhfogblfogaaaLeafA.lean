/- Contracts of the plain readers of int slices. -/
import Derived.Test.YtknhfogblfogaaaCore
namespace Go.Proofs.Ytknhfogblfogaaa
open Go.RowKit
theorem uI : Try.prog.underlying 22 = some (.slice 3) := by kernel_rfl
theorem infoI : ∃ i, Try.prog.info? 3 = some i ∧ i.zero = some (.int .i64 0) ∧ i.size = 1 ∧ i.bytes = 8 := info_parts (by kernel_rfl)
theorem IntS.ix {w : World} {p : Option Addr} {cap : Nat} {xs : List Int} (h : IntS w (.slice p xs.length cap) xs) {k : Nat} (hk : k < xs.length) :
    ∃ a : Addr, (∀ w1, (Instr.indexAt 22 (.slice p xs.length cap) (.int .i64 (k : Int))).run Try.prog w1 = .ok (.pointer (some a)) w1) ∧ w.cell? a = some (.int .i64 (nth xs k)) := by
  obtain ⟨i, h1, _, h3, _⟩ := infoI
  exact h.at uI h1 h3 hk
def inB (lo hi n : Int) : Bool := decide (lo ≤ n) && decide (n ≤ hi)
theorem inB_iff {lo hi n : Int} : inB lo hi n = true ↔ lo ≤ n ∧ n ≤ hi := by simp [inB]
theorem l6In_c (n lo hi : Int) (w : World) :
    Calls Try.prog 58 #[.int .i64 n, .int .i64 lo, .int .i64 hi] w fun e w' => e = .returned (.bool (inB lo hi n)) ∧ w = w' := by
  by_cases h : lo ≤ n
  · go_enter Try.func58, Try.ntmps58
    go_wp2
    go_ret
    exact ⟨by simp [h, inB], rfl⟩
  · have h' : (decide (lo ≤ n)) = false := by simp [h]
    go_enter Try.func58, Try.ntmps58
    go_wp2
    go_ret
    exact ⟨by simp [inB]; omega, rfl⟩
theorem within_c (n lo hi : Int) (w : World) :
    Calls Try.prog 52 #[.int .i64 n, .int .i64 lo, .int .i64 hi] w fun e w' => e = .returned (.bool (inB lo hi n)) ∧ w = w' := by
  by_cases h : lo ≤ n
  · go_enter Try.func52, Try.ntmps52
    go_wp2
    go_ret
    exact ⟨by simp [h, inB], rfl⟩
  · have h' : (decide (lo ≤ n)) = false := by simp [h]
    go_enter Try.func52, Try.ntmps52
    go_wp2
    go_ret
    exact ⟨by simp [inB]; omega, rfl⟩
def isB (n : Int) : Bool := inB 0 255 n
/-- Valid bytes. -/
def bv (xs : List Int) : Bool := xs.all isB && decide (xs.length ≤ 120)
theorem nth_eq {xs : List Int} {k : Nat} (h : k < xs.length) : nth xs k = xs[k] := by simp [nth, h]
theorem take_all (p : Int → Bool) {xs : List Int} {k : Nat} (h : k < xs.length) : (xs.take (k+1)).all p = ((xs.take k).all p && p (nth xs k)) := by
  rw [List.take_succ_eq_append_getElem h, nth_eq h, List.all_append]; simp
theorem all_false (p : Int → Bool) {xs : List Int} {k : Nat} (h : k < xs.length) (hp : p (nth xs k) = false) : xs.all p = false := by
  rw [List.all_eq_false]; exact ⟨xs[k], List.getElem_mem h, by rw [nth_eq h] at hp; simp [hp]⟩
theorem ret_bool {a b : Bool} (h : a = b) : Ending.returned (.bool a) = .returned (.bool b) := by rw [h]
theorem ret_int {a b : Int} (h : a = b) : Ending.returned (.int .i64 a) = .returned (.int .i64 b) := by rw [h]
theorem specBytesValid_c {w : World} {v : Value} {xs : List Int} (h : IntS w v xs) :
    Calls Try.prog 30 #[v] w fun e w' => e = .returned (.bool (bv xs)) ∧ w = w' := by
  obtain ⟨p, cap, rfl, hl1, hl2⟩ := h.form
  go_enter Try.func30, Try.ntmps30
  go_wp2_with fail
  go_loop [3] (fun i => ∃ k : Nat, k ≤ xs.length ∧ i = .int .i64 k ∧ Hid ((xs.take k).all isB = true)) (fun i => xs.length - (intOf i).toNat)
  case atStart => exact ⟨0, Nat.zero_le _, rfl, by simp [Hid]⟩
  case round =>
    obtain ⟨k, hk, rfl, hall⟩ := hrel
    by_cases hlt : k < xs.length
    · obtain ⟨a, hix, hca⟩ := h.ix hlt
      cases hb : isB (nth xs k)
      · have HB := Lib.hid hb; clear hb
        have hb' : inB 0 255 (nth xs k) = false := HB.out
        go_wp2_with (go_at_call 58; refine (l6In_c _ _ _ _).mono ?_; rintro e w' ⟨rfl, rfl⟩)
        go_ret
        exact ⟨ret_bool (by rw [bv, all_false isB hlt HB.out]; rfl), rfl⟩
      · have HB := Lib.hid hb; clear hb
        have hb' : inB 0 255 (nth xs k) = true := HB.out
        go_wp2_with (go_at_call 58; refine (l6In_c _ _ _ _).mono ?_; rintro e w' ⟨rfl, rfl⟩)
        go_round
        case rel => exact ⟨k+1, by omega, by go_num, by rw [Hid, take_all isB hlt, hall.out, HB.out]; rfl⟩
        case measure => simp [intOf]; omega
    · go_wp2
      go_ret
      exact ⟨ret_bool (by have := hall.out; rw [List.take_of_length_le (by omega)] at this; rw [bv, this, Bool.eq_iff_iff]; simp; omega), rfl⟩

/-- What 'len(a) == len(b) and all alike' says of two lists. -/
theorem beq_false_nth {xs ys : List Int} {k : Nat} (h : nth xs k ≠ nth ys k) : (xs == ys) = false := by
  rw [beq_eq_false_iff_ne]; rintro rfl; exact h rfl
theorem beq_of_take {xs ys : List Int} (hl : xs.length = ys.length) (h : xs.take xs.length = ys.take xs.length) : (xs == ys) = true := by
  rw [beq_iff_eq]; rw [List.take_length, hl, List.take_length] at h; exact h
theorem take_step {xs ys : List Int} {k : Nat} (hx : k < xs.length) (hy : k < ys.length) (h : xs.take k = ys.take k) (he : nth xs k = nth ys k) : xs.take (k+1) = ys.take (k+1) := by
  rw [List.take_succ_eq_append_getElem hx, List.take_succ_eq_append_getElem hy, h, ← nth_eq hx, ← nth_eq hy, he]

theorem gr_drewN (w : World) (n : Nat) : Gr w (w.drewN n) := (Gr.refl w).drewN n
theorem eqIntS_c {w : World} {v u : Value} {xs ys : List Int} (h : IntS w v xs) (hu : IntS w u ys) :
    Calls Try.prog 15 #[v, u] w fun e w' => e = .returned (.bool (xs == ys)) ∧ Gr w w' := by
  obtain ⟨p, cap, rfl, hl1, hl2⟩ := h.form
  obtain ⟨q, caq, rfl, hm1, hm2⟩ := hu.form
  by_cases hlen : xs.length = ys.length
  · have HL := Lib.hid hlen
    have ht : ((xs.length : Int) != (ys.length : Int)) = false := by simp [hlen]
    clear hlen
    go_enter Try.func15, Try.ntmps15
    go_wp2_with fail
    go_loopw [5] (fun i wr => ∃ k : Nat, k ≤ xs.length ∧ i = .int .i64 k ∧ Hid (xs.take k = ys.take k) ∧ Gr w wr) (fun i _ => xs.length - (intOf i).toNat)
    case atStart => exact ⟨0, Nat.zero_le _, rfl, by simp [Hid], Gr.refl w⟩
    case round =>
      obtain ⟨k, hk, rfl, hall, hgr⟩ := hrel
      by_cases hlt : k < xs.length
      · obtain ⟨a, hix, hca⟩ := (h.kept hgr).ix hlt
        obtain ⟨b, hjx, hcb⟩ := (hu.kept hgr).ix (show k < ys.length by have := HL.out; omega)
        cases hb : (nth xs k != nth ys k)
        · go_wp2_with fail
          go_quiet (fail)
          go_wp2
          go_roundw
          case rel => exact ⟨k+1, by omega, by go_num, take_step hlt (by have := HL.out; omega) hall.out (by simpa using hb), hgr.drewN _⟩
          case measure => simp [intOf]; omega
        · go_wp2_with fail
          go_quiet (fail)
          go_wp2
          go_ret
          exact ⟨ret_bool (beq_false_nth (by simpa using hb)).symm, hgr.drewN _⟩
      · go_wp2
        go_ret
        exact ⟨ret_bool (beq_of_take HL.out (by have := hall.out; rwa [show k = xs.length by omega] at this)).symm, hgr⟩
  · have ht : ((xs.length : Int) != (ys.length : Int)) = true := by simp; omega
    have HL := Lib.hid hlen; clear hlen
    go_enter Try.func15, Try.ntmps15
    go_wp2
    go_ret
    exact ⟨ret_bool (by rw [eq_comm, beq_eq_false_iff_ne]; rintro rfl; exact HL.out rfl), Gr.refl w⟩
theorem sameBytes_c {w : World} {v u : Value} {xs ys : List Int} (h : IntS w v xs) (hu : IntS w u ys) :
    Calls Try.prog 24 #[v, u] w fun e w' => e = .returned (.bool (xs == ys)) ∧ Gr w w' := by
  obtain ⟨p, cap, rfl, hl1, hl2⟩ := h.form
  obtain ⟨q, caq, rfl, hm1, hm2⟩ := hu.form
  by_cases hlen : xs.length = ys.length
  · have HL := Lib.hid hlen
    have ht : ((xs.length : Int) != (ys.length : Int)) = false := by simp [hlen]
    clear hlen
    go_enter Try.func24, Try.ntmps24
    go_wp2_with fail
    go_loopw [5] (fun i wr => ∃ k : Nat, k ≤ xs.length ∧ i = .int .i64 k ∧ Hid (xs.take k = ys.take k) ∧ Gr w wr) (fun i _ => xs.length - (intOf i).toNat)
    case atStart => exact ⟨0, Nat.zero_le _, rfl, by simp [Hid], Gr.refl w⟩
    case round =>
      obtain ⟨k, hk, rfl, hall, hgr⟩ := hrel
      by_cases hlt : k < xs.length
      · obtain ⟨a, hix, hca⟩ := (h.kept hgr).ix hlt
        obtain ⟨b, hjx, hcb⟩ := (hu.kept hgr).ix (show k < ys.length by have := HL.out; omega)
        cases hb : (nth xs k != nth ys k)
        · go_wp2_with fail
          go_quiet (fail)
          go_wp2
          go_roundw
          case rel => exact ⟨k+1, by omega, by go_num, take_step hlt (by have := HL.out; omega) hall.out (by simpa using hb), hgr.drewN _⟩
          case measure => simp [intOf]; omega
        · go_wp2_with fail
          go_quiet (fail)
          go_wp2
          go_ret
          exact ⟨ret_bool (beq_false_nth (by simpa using hb)).symm, hgr.drewN _⟩
      · go_wp2
        go_ret
        exact ⟨ret_bool (beq_of_take HL.out (by have := hall.out; rwa [show k = xs.length by omega] at this)).symm, hgr⟩
  · have ht : ((xs.length : Int) != (ys.length : Int)) = true := by simp; omega
    have HL := Lib.hid hlen; clear hlen
    go_enter Try.func24, Try.ntmps24
    go_wp2
    go_ret
    exact ⟨ret_bool (by rw [eq_comm, beq_eq_false_iff_ne]; rintro rfl; exact HL.out rfl), Gr.refl w⟩
end Go.Proofs.Ytknhfogblfogaaa
