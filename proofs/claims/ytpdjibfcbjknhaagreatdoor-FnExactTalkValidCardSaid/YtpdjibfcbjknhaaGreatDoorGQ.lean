/- laws.szIntS, szTag, szTagS: the size of an argument.
laws.szAddress, szPair, toAddress, toPair: pairs of plain data.
spec: numbers, quads, addresses and lines out of texts.
spec.l3Of: the address of a host and a port. -/
import Derived.Test.YtpdjibfcbjknhaaGreatDoorGH
import Derived.Test.YtpdjibfcbjknhaaGreatDoorGL
import Derived.Test.YtpdjibfcbjknhaaGreatDoorGN
import Derived.Test.YtpdjibfcbjknhaaGreatDoorGE
namespace Go.Proofs.YtpdjibfcbjknhaaGreatDoor
open Go.RowKit
/-- What is left of a size. -/
def left (c : Int) (n : Nat) : Int := if c - n < 0 then -1 else c - n
theorem szIntS_c (w : World) (p : Option Addr) (n cap : Nat) (c : Int) (h0 : 0 ≤ c) (h1 : c ≤ 1048576) (hn : n ≤ 9223372036854775807) :
    Calls Tryz.prog 69 #[.slice p n cap, .int .i64 c] w fun e w' => e = .returned (.int .i64 (left c n)) ∧ w = w' := by
  unfold left
  by_cases h : c - (n : Int) < 0
  · rw [if_pos h]
    go_enter Tryz.func69, Tryz.ntmps69
    go_wp2
    go_ret
    exact ⟨rfl, rfl⟩
  · rw [if_neg h]
    go_enter Tryz.func69, Tryz.ntmps69
    go_wp2
    go_ret
    exact ⟨rfl, rfl⟩
def SzIs (c : Int) (ts : List Tag) (r : Int) : Prop := r = -1 ∨ (0 ≤ r ∧ r + cnt ts = c)
end Go.Proofs.YtpdjibfcbjknhaaGreatDoor
namespace Go.Proofs.YtpdjibfcbjknhaaGreatDoor
open Go.RowKit
def SzA (c : Int) (n : Nat) (r : Int) : Prop := r = -1 ∨ (0 ≤ r ∧ r + n = c)
def put3 (w : World) (b : Nat) (a1 a2 a3 : Value) : World := ((w.setCell ⟨b, 1, none⟩ a1).setCell ⟨b, 2, none⟩ a2).setCell ⟨b, 3, none⟩ a3
theorem put3_chg (w : World) (b : Nat) (a1 a2 a3 : Value) : Chg b (b + 1) w (put3 w b a1 a2 a3) :=
  Chg.set (p := ⟨b, 3, none⟩) (Chg.set (p := ⟨b, 2, none⟩) (Chg.set (p := ⟨b, 1, none⟩) (Chg.refl b (b + 1) w) (Nat.le_refl _) (Nat.lt_succ_self _) a1) (Nat.le_refl _) (Nat.lt_succ_self _) a2) (Nat.le_refl _) (Nat.lt_succ_self _) a3
theorem put4_chg (w : World) (b : Nat) (a0 a1 a2 a3 : Value) : Chg b (b + 1) w (put4 w b a0 a1 a2 a3) :=
  Chg.set (p := ⟨b, 3, none⟩) (Chg.set (p := ⟨b, 2, none⟩) (Chg.set (p := ⟨b, 1, none⟩) (Chg.set (p := ⟨b, 0, none⟩) (Chg.refl b (b + 1) w) (Nat.le_refl _) (Nat.lt_succ_self _) a0) (Nat.le_refl _) (Nat.lt_succ_self _) a1) (Nat.le_refl _) (Nat.lt_succ_self _) a2) (Nat.le_refl _) (Nat.lt_succ_self _) a3
theorem put4_blk8 {w : World} {b : Nat} {c0 c1 c2 c3 c4 c5 c6 c7 : Value} {t : TypeId} (h : w.heap[b]? = some (.cells #[c0, c1, c2, c3, c4, c5, c6, c7] t (0, 0))) (a0 a1 a2 a3 : Value) :
    (put4 w b a0 a1 a2 a3).heap[b]? = some (.cells #[a0, a1, a2, a3, c4, c5, c6, c7] t (0, 0)) := by
  have h0 := heap_set (j := 0) (x := a0) h
  have h1 := heap_set (j := 1) (x := a1) h0
  have h2 := heap_set (j := 2) (x := a2) h1
  exact heap_set (j := 3) (x := a3) h2
theorem alloc3 (w : World) (x y z : Obj) : (((w.alloc x).alloc y).alloc z).heap.size = w.heap.size + 3 ∧ (((w.alloc x).alloc y).alloc z).heap[w.heap.size]? = some x ∧ (((w.alloc x).alloc y).alloc z).heap[w.heap.size + 1]? = some y ∧ (((w.alloc x).alloc y).alloc z).heap[w.heap.size + 1 + 1]? = some z := by
  have e1 : (w.alloc x).heap.size = w.heap.size + 1 := by simp
  have e2 : ((w.alloc x).alloc y).heap.size = w.heap.size + 1 + 1 := by simp
  refine ⟨by simp, ?_, ?_, ?_⟩
  · exact (gr_alloc ((w.alloc x).alloc y) z).blk ((gr_alloc (w.alloc x) y).blk (heap_alloc_new w x))
  · have := (gr_alloc ((w.alloc x).alloc y) z).blk (heap_alloc_new (w.alloc x) y)
    rwa [e1] at this
  · have := heap_alloc_new ((w.alloc x).alloc y) z
    rwa [e2] at this
end Go.Proofs.YtpdjibfcbjknhaaGreatDoor
namespace Go.Proofs.YtpdjibfcbjknhaaGreatDoor
open Go.RowKit
theorem allDig_step {s : ByteArray} {k : Nat} (h : k < s.size) : allDig ((tx s).take (k+1)) = (allDig ((tx s).take k) && isDig (s[k].toNat : Int)) := allU_step (fun c => isDig (c.toNat : Int)) h
theorem valD_step {s : ByteArray} {k : Nat} (h : k < s.size) : valD ((tx s).take (k+1)) = 10 * valD ((tx s).take k) + (s[k].toNat - 48) := by
  rw [tx_take h, valD_snoc]
set_option maxHeartbeats 1000000 in
theorem l2Number_c (w : World) (s : ByteArray) :
    Calls Tryz.prog 97 #[.string s] w fun e w' => e = .returned (.int .i64 (num5 (tx s))) ∧ w = w' := by
  cases hin : inB 1 5 (s.size : Int)
  · have HI := Lib.hid hin
    have HN : Hid (num5 (tx s) = -1) := by
      rw [Hid]; unfold num5; rw [if_neg]
      rintro ⟨a, b, _⟩
      rw [tx_len] at a b
      rw [inB_iff.2 ⟨by omega, by omega⟩] at hin
      cases hin
    clear hin
    go_enter Tryz.func97, Tryz.ntmps97
    go_wp2_with fail
    (with_reducible refine (l6In_c _ _ _ _).mono ?_); rintro e w1 ⟨rfl, rfl⟩
    rw [HI.out]
    go_wp2
    go_ret
    exact ⟨ret_int HN.out.symm, rfl⟩
  · have HI := Lib.hid hin
    have hb := inB_iff.1 hin
    have h5 : s.size ≤ 5 := by omega
    have h1 : Hid (1 ≤ s.size) := Lib.hid (by omega)
    clear hin hb
    go_enter Tryz.func97, Tryz.ntmps97
    go_wp2_with fail
    (with_reducible refine (l6In_c _ _ _ _).mono ?_); rintro e w1 ⟨rfl, rfl⟩
    rw [HI.out]
    go_wp2_with fail
    go_loop [3, 4] (fun n i => ∃ k : Nat, k ≤ s.size ∧ i = .int .i64 k ∧ n = .int .i64 (valD ((tx s).take k) : Nat) ∧ Hid (allDig ((tx s).take k) = true)) (fun _ i => s.size - (intOf i).toNat)
    case atStart => exact ⟨0, Nat.zero_le _, rfl, rfl, by simp [Hid, allDig]⟩
    case round =>
      obtain ⟨k, hk, rfl, rfl, hall⟩ := hrel
      by_cases hlt : k < s.size
      · have hfail : Hid (isDig (s[k].toNat : Int) = false → num5 (tx s) = -1) := Lib.hid fun hd => by
          unfold num5
          rw [if_neg]
          rintro ⟨_, _, c⟩
          rw [allDig, allU_false _ hlt hd] at c
          cases c
        by_cases h48 : (48 : Int) ≤ (s[k].toNat : Int)
        · by_cases h57 : (s[k].toNat : Int) ≤ 57
          · have hv := valD_lt _ hall.out
            have hp : (10 : Nat) ^ ((tx s).take k).length ≤ 10 ^ 5 := Nat.pow_le_pow_right (by omega) (by rw [List.length_take]; omega)
            have hN : Hid (allDig ((tx s).take (k+1)) = true) := by rw [Hid, allDig_step hlt, hall.out]; simp [isDig, h48, h57]
            have hS := Lib.hid (valD_step hlt)
            have d1 : decide ((s[k].toNat : Int) < 48) = false := by simp; omega
            have d2 : decide ((57 : Int) < (s[k].toNat : Int)) = false := by simp; omega
            have e8 : IntKind.u8.wrap ((s[k].toNat : Int) - 48) = (s[k].toNat : Int) - 48 := by rw [IntKind.wrap_u8]; omega
            have hv2 : valD ((tx s).take k) < 100000 := by omega
            clear hv hp hfail
            generalize valD ((tx s).take k) = v at *
            go_wp2
            go_round
            case rel => exact ⟨k+1, by omega, by go_num, by rw [hS.out]; congr 1; omega, hN.out⟩
            case measure => simp [intOf]; omega
          · have HF : Hid (num5 (tx s) = -1) := Lib.hid (hfail.out (by simp [isDig]; omega))
            have d1 : decide ((s[k].toNat : Int) < 48) = false := by simp; omega
            have d2 : decide ((57 : Int) < (s[k].toNat : Int)) = true := by simp; omega
            clear hfail
            go_wp2
            go_ret
            exact ⟨ret_int HF.out.symm, rfl⟩
        · have HF : Hid (num5 (tx s) = -1) := Lib.hid (hfail.out (by simp [isDig]; omega))
          have d1 : decide ((s[k].toNat : Int) < 48) = true := by simp; omega
          clear hfail
          go_wp2
          go_ret
          exact ⟨ret_int HF.out.symm, rfl⟩
      · have HN : Hid (num5 (tx s) = ((valD ((tx s).take k) : Nat) : Int)) := by
          have := hall.out
          have e : (tx s).take k = tx s := List.take_of_length_le (by rw [tx_len]; omega)
          rw [e] at this ⊢
          rw [Hid]
          unfold num5
          rw [if_pos ⟨by rw [tx_len]; exact h1.out, by rw [tx_len]; exact h5, this⟩]
        go_wp2
        go_ret
        exact ⟨ret_int HN.out.symm, rfl⟩
theorem QuadText_c {w : World} {v : Value} {xs : List Int} (h : IntS w v xs) :
    Calls Tryz.prog 156 #[v] w fun e w' => e = .returned (.string (S (if quadOk xs = true then quadText xs else []))) ∧ Gr w w' := by
  cases hb : quadOk xs
  · have HB := Lib.hid hb
    clear hb
    go_enter Tryz.func156, Tryz.ntmps156
    go_wp2_with fail
    (with_reducible refine (QuadValid_c h).mono ?_); rintro e w1 ⟨rfl, rfl⟩
    rw [HB.out]
    go_wp2
    go_ret
    exact ⟨rfl, Gr.refl _⟩
  · have HB := Lib.hid hb
    clear hb
    go_enter Tryz.func156, Tryz.ntmps156
    go_wp2_with fail
    (with_reducible refine (QuadValid_c h).mono ?_); rintro e w1 ⟨rfl, rfl⟩
    rw [HB.out]
    go_wp2_with fail
    (with_reducible refine (l2Quad_c h HB.out).mono ?_); rintro e w2 ⟨rfl, g2⟩
    go_wp2
    go_ret
    exact ⟨rfl, g2⟩
theorem quadText_ne {q : List Int} (h : quadOk q = true) : quadText q ≠ [] := by
  obtain ⟨a, b, c, d, rfl, _⟩ := quad_four h
  rw [quadText_parts]; simp
set_option maxHeartbeats 2000000 in
theorem QuadFrom_c (w : World) (s : ByteArray) (hs : s.size ≤ 2000000) :
    Calls Tryz.prog 134 #[.string s] w fun e w' => ∃ v, e = .returned (.tuple #[v, .bool (quadFrom (tx s)).isSome]) ∧ IntO w.heap.size 3 w' v ((quadFrom (tx s)).getD []) ∧ Gr w w' := by
  go_enter Tryz.func134, Tryz.ntmps134
  go_wp2_with fail
  (with_reducible refine (l2Cut_c _ s 46 46 rfl hs).mono ?_); rintro e w1 ⟨v1, rfl, ho, hg⟩
  have hss := ho.s
  have hlen := cutB_len 46 (tx s)
  rw [tx_len] at hlen
  have HQ : Hid (quadFrom (tx s) = if quadOk ((cutB 46 (tx s)).map num5) = true ∧ quadText ((cutB 46 (tx s)).map num5) = tx s then some ((cutB 46 (tx s)).map num5) else none) := rfl
  generalize cutB 46 (tx s) = ls at *
  obtain ⟨p, cap, rfl, hc1, hc2⟩ := hss.form
  clear ho
  have hmt := IntO.mt w1
  have hg0 := gr_alloc w1 (.cells #[] 3)
  go_wp2_with fail
  go_loopw [5, 6] (fun v i wr => ∃ (k : Nat) (ys : List Int), k ≤ ls.length ∧ i = .int .i64 k ∧ Hid (ys = (ls.map num5).take k) ∧ Hid (ys.length = k) ∧ Gr w1 wr ∧ IntO w1.heap.size 3 wr v ys) (fun _ i _ => ls.length - (intOf i).toNat)
  case atStart => exact ⟨0, [], Nat.zero_le _, rfl, by simp [Hid], rfl, hg0, hmt⟩
  case round =>
    obtain ⟨k, ys, hk, rfl, hys, hyl, hgr, ho⟩ := hrel
    clear hmt hg0
    by_cases hlt : k < ls.length
    · obtain ⟨a, hix, hca⟩ := (hss.kept hgr).ix hlt
      have hyl' : ys.length ≤ 2000001 := by rw [hyl.out]; omega
      have hz := hgr.size
      have HN : Hid (ys ++ [num5 (nthS ls k)] = (ls.map num5).take (k + 1)) := by
        rw [Hid, hys.out, List.take_succ_eq_append_getElem (by simpa using hlt), List.getElem_map, nthS_eq hlt]
      have HL : Hid ((ys ++ [num5 (nthS ls k)]).length = k + 1) := by rw [Hid, List.length_append, hyl.out]; rfl
      have hn := num5_range (nthS ls k)
      have HC := Lib.hid (l2Number_c wr (S (nthS ls k)))
      rw [tx_S] at HC
      generalize num5 (nthS ls k) = x at *
      go_wp2_with fail
      (with_reducible refine (HC.out).mono ?_); rintro e w2 ⟨rfl, rfl⟩
      go_wp2_with (at_builtin; refine wpl_appI rfl (.tmp 16) (.tmp 22) rfl rfl (ho.kept (gr_alloc _ _)) rfl (IntO.one _).s (by simp; omega) (by simp; omega) ?_; intro v5 w5 ho5 hg5; have hG5 : Gr w1 w5 := (hgr.alloc _).thenB hg5)
      go_roundw
      case rel => exact ⟨k+1, _, by omega, by go_num, HN.out, HL.out, hG5, ho5⟩
      case measure => simp [intOf]; omega
    · have e : ys = ls.map num5 := by rw [hys.out, List.take_of_length_le (by simp; omega)]
      rw [← e] at HQ
      clear hys hyl e
      have hG := hg.trans hgr
      have ho' := ho.mono (Nat.le_trans (Nat.le_refl _) hg.sz)
      cases hb : quadOk ys
      · have HN : Hid (quadFrom (tx s) = none) := by
          rw [Hid, HQ.out, if_neg]; rintro ⟨h, _⟩; rw [hb] at h; cases h
        have HT := QuadText_c ho.s
        rw [hb, if_neg (by decide)] at HT
        have HT := Lib.hid HT
        have htl := tl_eq (S []) s
        rw [tx_S] at htl
        have hem := emp_tx s
        clear hb
        by_cases hz : tx s = []
        · rw [decide_eq_true hz.symm] at htl
          rw [hz] at hem
          clear hz
          go_wp2_with fail
          (with_reducible refine (HT.out).mono ?_); rintro e w2 ⟨rfl, g2⟩
          have hG2 := hG.trans g2
          go_wp2
          go_ret2
          exact ⟨_, by rw [HN.out]; rfl, by rw [HN.out]; exact (IntO.mt w2).mono hG2.sz, hG2.alloc _⟩
        · rw [decide_eq_false (fun e => hz e.symm)] at htl
          clear hz hem
          go_wp2_with fail
          (with_reducible refine (HT.out).mono ?_); rintro e w2 ⟨rfl, g2⟩
          have hG2 := hG.trans g2
          go_wp2
          go_ret2
          exact ⟨_, by rw [HN.out]; rfl, by rw [HN.out]; exact (IntO.mt w2).mono hG2.sz, hG2.alloc _⟩
      · have HT := QuadText_c ho.s
        rw [hb, if_pos rfl] at HT
        have HT := Lib.hid HT
        have htl := tl_eq (S (quadText ys)) s
        rw [tx_S] at htl
        have hem := emp_tx s
        have hne := quadText_ne hb
        have HQ2 : Hid (quadFrom (tx s) = if quadText ys = tx s then some ys else none) := by
          rw [Hid, HQ.out]; simp [hb]
        generalize quadText ys = t at *
        clear hb HQ
        by_cases ht : t = tx s
        · rw [decide_eq_true ht] at htl
          have hem2 : s.toList.isEmpty = false := by rw [hem, ← ht]; cases t <;> simp_all
          have HN : Hid (quadFrom (tx s) = some ys) := by rw [Hid, HQ2.out, if_pos ht]
          clear ht hem hne HQ2
          go_wp2_with fail
          (with_reducible refine (HT.out).mono ?_); rintro e w2 ⟨rfl, g2⟩
          have hG2 := hG.trans g2
          have ho2 := ho'.kept g2
          go_wp2
          go_ret2
          exact ⟨_, by rw [HN.out]; rfl, by rw [HN.out]; exact ho2, hG2⟩
        · rw [decide_eq_false ht] at htl
          have HN : Hid (quadFrom (tx s) = none) := by rw [Hid, HQ2.out, if_neg ht]
          clear ht hem hne HQ2
          go_wp2_with fail
          (with_reducible refine (HT.out).mono ?_); rintro e w2 ⟨rfl, g2⟩
          have hG2 := hG.trans g2
          go_wp2
          go_ret2
          exact ⟨_, by rw [HN.out]; rfl, by rw [HN.out]; exact (IntO.mt w2).mono hG2.sz, hG2.alloc _⟩
/-- The place behind the first end of a line, or -1. -/
def endOf (l : Tx) : Int := if 0 ≤ Lib.index l [13, 10] then Lib.index l [13, 10] + 2 else -1
theorem occ_at {s : ByteArray} {k : Nat} (h : k + 1 < s.size) : Lib.occAt (tx s) [13, 10] k = (((s[k].toNat : Int) == 13) && ((s[k+1].toNat : Int) == 10)) := by
  have e1 : ((s[k].toNat : Int) == 13) = (13 == s[k]) := by
    rw [Bool.eq_iff_iff, beq_iff_eq, beq_iff_eq]
    constructor
    · intro h; exact (UInt8.toNat_inj.1 (by simp; omega)).symm
    · intro h; rw [← h]; rfl
  have e2 : ((s[k+1].toNat : Int) == 10) = (10 == s[k+1]) := by
    rw [Bool.eq_iff_iff, beq_iff_eq, beq_iff_eq]
    constructor
    · intro h; exact (UInt8.toNat_inj.1 (by simp; omega)).symm
    · intro h; rw [← h]; rfl
  rw [e1, e2]
  unfold Lib.occAt
  rw [tx_drop (show k < s.size by omega), tx_drop h]
  simp [List.isPrefixOf]
end Go.Proofs.YtpdjibfcbjknhaaGreatDoor
namespace Go.Proofs.YtpdjibfcbjknhaaGreatDoor
open Go.RowKit
set_option maxHeartbeats 2000000 in
theorem l3Of_c (w : World) (s : ByteArray) (p : Int) (hs : s.size ≤ 2000000) {k : Int} {xs : List Int} {nm : ByteArray} (hL : Hid (adrOf (tx s) p = ⟨k, xs, tx nm, p⟩)) :
    Calls Tryz.prog 96 #[.string s, .int .i64 p] w fun e w' => ∃ q c, e = .returned (.agg #[.int .i64 k, .slice q xs.length c, .string nm, .int .i64 p]) ∧ IntO w.heap.size 3 w' (.slice q xs.length c) xs ∧ Gr w w' := by
  have gA := gr_alloc w (.cells #[.int .i64 0, .slice none 0 0, .string ⟨#[]⟩, .int .i64 0] 65)
  have hA := heap_alloc_new w (.cells #[.int .i64 0, .slice none 0 0, .string ⟨#[]⟩, .int .i64 0] 65)
  have zA : (w.alloc (.cells #[.int .i64 0, .slice none 0 0, .string ⟨#[]⟩, .int .i64 0] 65)).heap.size = w.heap.size + 1 := by simp
  have C := QuadFrom_c (w.alloc (.cells #[.int .i64 0, .slice none 0 0, .string ⟨#[]⟩, .int .i64 0] 65)) s hs
  rw [zA] at C
  cases hq : quadFrom (tx s) with
  | some q =>
    have e := hL.out
    unfold adrOf at e
    rw [hq] at e
    injection e with e1 e2 e3 e4
    have e5 : nm = ⟨#[]⟩ := tx_ext (by rw [← e3]; rfl)
    subst e1 e2 e5
    have C2 : Calls Tryz.prog 134 #[.string s] (w.alloc (.cells #[.int .i64 0, .slice none 0 0, .string ⟨#[]⟩, .int .i64 0] 65)) fun e w' => ∃ v, e = .returned (.tuple #[v, .bool true]) ∧ IntO (w.heap.size + 1) 3 w' v q ∧ Gr (w.alloc (.cells #[.int .i64 0, .slice none 0 0, .string ⟨#[]⟩, .int .i64 0] 65)) w' := by
      rw [hq] at C; exact C
    have HC := Lib.hid C2
    clear C C2 hq e3 e4 hL
    go_enter Tryz.func96, Tryz.ntmps96
    go_wp2_with fail
    (with_reducible refine (HC.out).mono ?_); rintro e w1 ⟨v1, rfl, o1, g1⟩
    obtain ⟨pq, cq, rfl⟩ := o1.len
    have HB1 := Lib.hid (g1.blk hA)
    have HG1 := Lib.hid (gA.trans g1)
    have o1' := o1.b
    clear gA hA zA o1 g1 HC
    have x0 := blk_cell HB1.out (j := 0) rfl
    have x1 := blk_cell HB1.out (j := 1) rfl
    have x2 := blk_cell HB1.out (j := 2) rfl
    have x3 := blk_cell HB1.out (j := 3) rfl
    have f0 := blk_frozen HB1.out 0
    have f1 := blk_frozen HB1.out 1
    have f2 := blk_frozen HB1.out 2
    have f3 := blk_frozen HB1.out 3
    go_wp2
    change bodyPost _ _ _ _ _ (put4 w1 w.heap.size (.int .i64 1) (.slice pq q.length cq) (.string ⟨#[]⟩) (.int .i64 p))
    have hW := put4_blk HB1.out (.int .i64 1) (.slice pq q.length cq) (.string ⟨#[]⟩) (.int .i64 p)
    have cW := put4_chg w1 w.heap.size (.int .i64 1) (.slice pq q.length cq) (.string ⟨#[]⟩) (.int .i64 p)
    generalize put4 w1 w.heap.size (.int .i64 1) (.slice pq q.length cq) (.string ⟨#[]⟩) (.int .i64 p) = wz at *
    have y0 := blk_cell hW (j := 0) rfl
    have y1 := blk_cell hW (j := 1) rfl
    have y2 := blk_cell hW (j := 2) rfl
    have y3 := blk_cell hW (j := 3) rfl
    exact bodyPost_ret (v := .agg #[.int .i64 1, .slice pq q.length cq, .string ⟨#[]⟩, .int .i64 p]) (by simp [results, Tryz.results96, go_sem, y0, y1, y2, y3]) rfl ⟨pq, cq, rfl, IntO.mono (IntB.o (IntB.chg o1' cW (.inr (by omega)))) (by omega), cW.gr HG1.out (Nat.le_refl _)⟩
  | none =>
    have e := hL.out
    unfold adrOf at e
    rw [hq] at e
    injection e with e1 e2 e3 e4
    have e5 : nm = s := tx_ext e3.symm
    subst e1 e2 e5
    have C2 : Calls Tryz.prog 134 #[.string nm] (w.alloc (.cells #[.int .i64 0, .slice none 0 0, .string ⟨#[]⟩, .int .i64 0] 65)) fun e w' => ∃ v, e = .returned (.tuple #[v, .bool false]) ∧ IntO (w.heap.size + 1) 3 w' v [] ∧ Gr (w.alloc (.cells #[.int .i64 0, .slice none 0 0, .string ⟨#[]⟩, .int .i64 0] 65)) w' := by
      rw [hq] at C; exact C
    have HC := Lib.hid C2
    clear C C2 hq e3 e4 hL
    go_enter Tryz.func96, Tryz.ntmps96
    go_wp2_with fail
    (with_reducible refine (HC.out).mono ?_); rintro e w1 ⟨v1, rfl, o1, g1⟩
    obtain ⟨pq, cq, rfl⟩ := o1.len
    have gE := gr_alloc w1 (.cells #[] 3)
    have HB1 := Lib.hid (gE.blk (g1.blk hA))
    have HG1 := Lib.hid ((gA.trans g1).trans gE)
    have hz1 := g1.sz
    rw [zA] at hz1
    have o2 := (IntO.mt w1).b
    clear gA hA zA o1 g1 HC gE
    have x0 := blk_cell HB1.out (j := 0) rfl
    have x1 := blk_cell HB1.out (j := 1) rfl
    have x2 := blk_cell HB1.out (j := 2) rfl
    have x3 := blk_cell HB1.out (j := 3) rfl
    have f0 := blk_frozen HB1.out 0
    have f1 := blk_frozen HB1.out 1
    have f2 := blk_frozen HB1.out 2
    have f3 := blk_frozen HB1.out 3
    go_wp2
    change bodyPost _ _ _ _ _ (put4 (w1.alloc (.cells #[] 3)) w.heap.size (.int .i64 3) (.slice (some ⟨w1.heap.size, 0, none⟩) 0 0) (.string nm) (.int .i64 p))
    have hW := put4_blk HB1.out (.int .i64 3) (.slice (some ⟨w1.heap.size, 0, none⟩) 0 0) (.string nm) (.int .i64 p)
    have cW := put4_chg (w1.alloc (.cells #[] 3)) w.heap.size (.int .i64 3) (.slice (some ⟨w1.heap.size, 0, none⟩) 0 0) (.string nm) (.int .i64 p)
    generalize put4 (w1.alloc (.cells #[] 3)) w.heap.size (.int .i64 3) (.slice (some ⟨w1.heap.size, 0, none⟩) 0 0) (.string nm) (.int .i64 p) = wz at *
    have y0 := blk_cell hW (j := 0) rfl
    have y1 := blk_cell hW (j := 1) rfl
    have y2 := blk_cell hW (j := 2) rfl
    have y3 := blk_cell hW (j := 3) rfl
    exact bodyPost_ret (v := .agg #[.int .i64 3, .slice (some ⟨w1.heap.size, 0, none⟩) 0 0, .string nm, .int .i64 p]) (by simp [results, Tryz.results96, go_sem, y0, y1, y2, y3]) rfl ⟨_, _, rfl, IntO.mono (IntB.o (IntB.chg o2 cW (.inr (by omega)))) (by omega), cW.gr HG1.out (Nat.le_refl _)⟩
theorem adr_parts (h : Tx) (p : Int) : ∃ k q nm, adrOf h p = ⟨k, q, tx nm, p⟩ ∧ nm.size ≤ h.length := by
  unfold adrOf
  split
  · exact ⟨1, _, ⟨#[]⟩, rfl, by simp [ByteArray.size]⟩
  · exact ⟨3, [], S h, by rw [tx_S], by rw [S_len]; exact Nat.le_refl _⟩
theorem six_of {ls : List Tx} (h : ls.length = 6) : ∃ a0 a1 a b c d, ls = [a0, a1, a, b, c, d] := by
  match ls, h with
  | [a0, a1, a, b, c, d], _ => exact ⟨a0, a1, a, b, c, d, rfl⟩
theorem StrS.ixM {w : World} {p : Option Addr} {cap n : Nat} {ls : List Tx} (h : StrS w (.slice p n cap) ls) (hn : ls.length = n) (k : Nat) (ki : Int) (hki : ki = (k : Int)) (hk : k < n) {t : Tx} (ht : nthS ls k = t) :
    ∃ a : Addr, (∀ w1, (Instr.indexAt 111 (.slice p n cap) (.int .i64 ki)).run Tryz.prog w1 = .ok (.pointer (some a)) w1) ∧ w.cell? a = some (.string (S t)) := by
  subst hn hki ht
  exact h.ix hk
end Go.Proofs.YtpdjibfcbjknhaaGreatDoor
