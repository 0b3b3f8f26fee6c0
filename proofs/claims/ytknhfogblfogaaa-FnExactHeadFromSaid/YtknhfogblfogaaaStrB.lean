/- Texts: cutting, names, users. -/
import Derived.Test.YtknhfogblfogaaaStr
namespace Go.Proofs.Ytknhfogblfogaaa
open Go.RowKit
theorem u8_beq {a b : UInt8} : (((a.toNat : Int) == (b.toNat : Int)) = true) ↔ a = b := by
  rw [beq_iff_eq]
  constructor
  · intro h; exact UInt8.toNat_inj.1 (by omega)
  · rintro rfl; rfl
theorem u8_bne {a b : UInt8} (h : a ≠ b) : ((a.toNat : Int) == (b.toNat : Int)) = false := by
  rw [beq_eq_false_iff_ne]; intro e; exact h (UInt8.toNat_inj.1 (by omega))
set_option maxHeartbeats 1000000 in
theorem l2Cut_c (w : World) (s : ByteArray) (c : UInt8) (ci : Int) (hci : ci = (c.toNat : Int)) (hs : s.size ≤ 1000000) :
    Calls Try.prog 104 #[.string s, .int .u8 ci] w fun e w' => ∃ v', e = .returned v' ∧ StrO w.heap.size w' v' (cutB c (tx s)) ∧ Gr w w' := by
  subst hci
  have hmt := StrO.mt w
  have hg0 := gr_alloc w (.cells #[] 9)
  go_enter Try.func104, Try.ntmps104
  go_wp2_with fail
  go_loopw [5, 6, 7] (fun v f i wr => ∃ (k m : Nat) (out : List Tx), k ≤ s.size ∧ m ≤ k ∧ out.length ≤ m ∧ i = .int .i64 k ∧ f = .int .i64 m ∧ Hid (CutSt c (tx s) out m k) ∧ Gr w wr ∧ StrO w.heap.size wr v out) (fun _ _ i _ => s.size - (intOf i).toNat)
  case atStart => exact ⟨0, 0, [], Nat.zero_le _, Nat.le_refl _, Nat.le_refl _, rfl, rfl, CutSt.start c (tx s), hg0, hmt⟩
  case round =>
    obtain ⟨k, m, out, hk, hm, hol, rfl, rfl, hst, hgr, ho⟩ := hrel
    clear hmt hg0
    have hz := hgr.size
    by_cases hlt : k < s.size
    · by_cases hc : s[k] = c
      · have hc' := u8_beq.2 hc
        have hn := hst.out.hit (by rw [tx_len]; exact hlt) (by rw [tx_get hlt]; exact hc)
        rw [← tx_ext_slice] at hn
        have HN := Lib.hid hn
        clear hn hc hst
        go_wp2_with (at_builtin; refine wpl_appS rfl (.tmp 20) (.tmp 25) rfl rfl (ho.kept (gr_alloc _ _)) rfl (StrO.one _).s (by simp; omega) (by simp; omega) ?_; intro v5 w5 ho5 hg5; have hG5 : Gr w w5 := (hgr.alloc _).thenB hg5)
        go_roundw
        case rel => exact ⟨k+1, k+1, _, by omega, by omega, by simp; omega, by go_num, by go_num, HN.out, hG5, ho5⟩
        case measure => simp [intOf]; omega
      · have hc' := u8_bne hc
        have HN := Lib.hid (hst.out.miss (by rw [tx_len]; exact hlt) (by rw [tx_get hlt]; exact hc))
        clear hc hst
        go_wp2
        go_roundw
        case rel => exact ⟨k+1, m, out, by omega, by omega, hol, by go_num, rfl, HN.out, hgr, ho⟩
        case measure => simp [intOf]; omega
    · obtain rfl : k = s.size := by omega
      have hd : cutB c (tx s) = out ++ [(tx s).drop m] := CutSt.done (by rw [tx_len]; exact hst.out)
      have he : (tx s).drop m = tx (s.extract m s.size) := by rw [tx_ext_slice, List.take_of_length_le (by rw [List.length_drop, tx_len]; omega)]
      rw [he] at hd
      have HD := Lib.hid hd
      clear hd he hst
      go_wp2_with (at_builtin; refine wpl_appS rfl (.tmp 29) (.tmp 33) rfl rfl (ho.kept (gr_alloc _ _)) rfl (StrO.one _).s (by simp; omega) (by simp; omega) ?_; intro v5 w5 ho5 hg5; have hG5 : Gr w w5 := (hgr.alloc _).thenB hg5)
      go_ret
      exact ⟨_, rfl, by rw [HD.out]; exact ho5, hG5⟩
/-- A text of letters of names. -/
def allLet (l : Tx) : Bool := l.all fun c => isLet (c.toNat : Int)
def pieceOk (l : Tx) : Bool := !l.isEmpty && allLet l
def lastLow (ls : List Tx) : Bool := match (nthS ls (ls.length - 1)) with | [] => false | c :: _ => isLow (c.toNat : Int)
/-- A name. -/
def nameOk (l : Tx) : Bool := (cutB 46 l).all pieceOk && (decide (l.length ≤ 20) && lastLow (cutB 46 l))
theorem take_allS (p : Tx → Bool) {xs : List Tx} {k : Nat} (h : k < xs.length) : (xs.take (k+1)).all p = ((xs.take k).all p && p (nthS xs k)) := by
  rw [List.take_succ_eq_append_getElem h, nthS_eq h, List.all_append]; simp
theorem allS_false (p : Tx → Bool) {xs : List Tx} {k : Nat} (h : k < xs.length) (hp : p (nthS xs k) = false) : xs.all p = false := by
  rw [List.all_eq_false]; exact ⟨xs[k], List.getElem_mem h, by rw [nthS_eq h] at hp; simp [hp]⟩
theorem allU_step (p : UInt8 → Bool) {s : ByteArray} {k : Nat} (h : k < s.size) : ((tx s).take (k+1)).all p = (((tx s).take k).all p && p s[k]) := by
  rw [tx_take h, List.all_append]; simp
theorem allU_false (p : UInt8 → Bool) {s : ByteArray} {k : Nat} (h : k < s.size) (hp : p s[k] = false) : (tx s).all p = false := by
  rw [List.all_eq_false]; exact ⟨s[k], List.getElem_mem (by rw [tx_len]; exact h), by simp [hp]⟩
end Go.Proofs.Ytknhfogblfogaaa
