/- laws.eqAddress, eqPair, markAddress, markPair, heldAddress, heldPair. -/
import Derived.Test.YtncnnfmfpilonaaGreatDoorGG
import Derived.Test.YtncnnfmfpilonaaGreatDoorGH
namespace Go.Proofs.YtncnnfmfpilonaaGreatDoor
open Go.RowKit
theorem eqAddress_c {w : World} {v u : Value} {xs : List Int} (k p : Int) (s : ByteArray) (hv : IntS w v xs) (hu : IntS w u xs) :
    Calls Tryz.prog 54 #[.agg #[.int .i64 k, v, .string s, .int .i64 p], .agg #[.int .i64 k, u, .string s, .int .i64 p]] w fun e w' => e = .returned (.bool true) ∧ Gr w w' := by
  obtain ⟨p1, c, rfl, _, _⟩ := hv.form
  obtain ⟨q, d, rfl, _, _⟩ := hu.form
  have hg := (gr_alloc w (.cells #[.int .i64 k, .slice p1 xs.length c, .string s, .int .i64 p] 24)).alloc (.cells #[.int .i64 k, .slice q xs.length d, .string s, .int .i64 p] 24)
  have hA := (gr_alloc (w.alloc (.cells #[.int .i64 k, .slice p1 xs.length c, .string s, .int .i64 p] 24)) (.cells #[.int .i64 k, .slice q xs.length d, .string s, .int .i64 p] 24)).blk (heap_alloc_new w (.cells #[.int .i64 k, .slice p1 xs.length c, .string s, .int .i64 p] 24))
  have hB := heap_alloc_new (w.alloc (.cells #[.int .i64 k, .slice p1 xs.length c, .string s, .int .i64 p] 24)) (.cells #[.int .i64 k, .slice q xs.length d, .string s, .int .i64 p] 24)
  rw [show (w.alloc (.cells #[.int .i64 k, .slice p1 xs.length c, .string s, .int .i64 p] 24)).heap.size = w.heap.size + 1 by simp] at hB
  have HA := Lib.hid hA
  have HB := Lib.hid hB
  clear hA hB
  go_enter Tryz.func54, Tryz.ntmps54
  go_wp2_with fail
  (with_reducible refine (eqI_same (hv.kept hg) (hu.kept hg)).mono ?_); rintro e w1 ⟨rfl, g1⟩
  have HA1 := g1.blk HA.out
  have HB1 := g1.blk HB.out
  have x2 := blk_cell HA1 (j := 2) rfl
  have x3 := blk_cell HA1 (j := 3) rfl
  have y2 := blk_cell HB1 (j := 2) rfl
  have y3 := blk_cell HB1 (j := 3) rfl
  clear HA1 HB1
  go_wp2
  go_ret
  exact ⟨rfl, hg.trans g1⟩
set_option maxHeartbeats 1000000 in
theorem eqPair_c {w : World} {v v' u u' : Value} {xs ys : List Int} (k p k' p' : Int) (s s' : ByteArray) (hv : IntS w v xs) (hu : IntS w u xs) (hv' : IntS w v' ys) (hu' : IntS w u' ys) :
    Calls Tryz.prog 18 #[.agg #[.int .i64 k, v, .string s, .int .i64 p, .int .i64 k', v', .string s', .int .i64 p'], .agg #[.int .i64 k, u, .string s, .int .i64 p, .int .i64 k', u', .string s', .int .i64 p']] w fun e w' => e = .returned (.bool true) ∧ Gr w w' := by
  obtain ⟨p1, c, rfl, _, _⟩ := hv.form
  obtain ⟨q, d, rfl, _, _⟩ := hu.form
  obtain ⟨p1', c', rfl, _, _⟩ := hv'.form
  obtain ⟨q', d', rfl, _, _⟩ := hu'.form
  obtain ⟨oa, ha⟩ : ∃ o : Obj, o = .cells #[.int .i64 k, .slice p1 xs.length c, .string s, .int .i64 p, .int .i64 k', .slice p1' ys.length c', .string s', .int .i64 p'] 26 := ⟨_, rfl⟩
  obtain ⟨ob, hb⟩ : ∃ o : Obj, o = .cells #[.int .i64 k, .slice q xs.length d, .string s, .int .i64 p, .int .i64 k', .slice q' ys.length d', .string s', .int .i64 p'] 26 := ⟨_, rfl⟩
  have hg := (gr_alloc w oa).alloc ob
  have hA := (gr_alloc (w.alloc oa) ob).blk (heap_alloc_new w oa)
  have hB := heap_alloc_new (w.alloc oa) ob
  rw [show (w.alloc oa).heap.size = w.heap.size + 1 by simp] at hB
  subst ha hb
  have HA := Lib.hid hA
  have HB := Lib.hid hB
  clear hA hB
  go_enter Tryz.func18, Tryz.ntmps18
  go_wp2_with fail
  (with_reducible refine (eqAddress_c k p s (hv.kept hg) (hu.kept hg)).mono ?_); rintro e w1 ⟨rfl, g1⟩
  have HA1 := g1.blk HA.out
  have HB1 := g1.blk HB.out
  have x4 := blk_cell HA1 (j := 4) rfl
  have x5 := blk_cell HA1 (j := 5) rfl
  have x6 := blk_cell HA1 (j := 6) rfl
  have x7 := blk_cell HA1 (j := 7) rfl
  have y4 := blk_cell HB1 (j := 4) rfl
  have y5 := blk_cell HB1 (j := 5) rfl
  have y6 := blk_cell HB1 (j := 6) rfl
  have y7 := blk_cell HB1 (j := 7) rfl
  clear HA1 HB1
  have hG := hg.trans g1
  go_wp2_with fail
  (with_reducible refine (eqAddress_c k' p' s' (hv'.kept hG) (hu'.kept hG)).mono ?_); rintro e w2 ⟨rfl, g2⟩
  go_wp2
  go_ret
  exact ⟨rfl, hG.trans g2⟩
theorem markAddress_c {B T : Nat} {w : World} {v : Value} {xs : List Int} (k p : Int) (s : ByteArray) (h : IntB B T 3 w v xs) (k0 : Int) (h0 : 0 ≤ k0) (h1 : k0 ≤ 4000000000000000000) (hb : xs.length ≤ 1000000000000) :
    Calls Tryz.prog 55 #[.agg #[.int .i64 k, v, .string s, .int .i64 p], .int .i64 k0] w fun e w' => e = .returned (.int .i64 (k0 + xs.length)) ∧ IntB B T 3 w' v (upFrom k0 xs.length) ∧ ∃ wm, Gr w wm ∧ Chg B T wm w' := by
  obtain ⟨p1, c, rfl⟩ := h.o.len
  have hg := gr_alloc w (.cells #[.int .i64 k, .slice p1 xs.length c, .string s, .int .i64 p] 24)
  go_enter Tryz.func55, Tryz.ntmps55
  go_wp2_with fail
  (with_reducible refine (markIntS_c (h.kept hg) k0 h0 h1 hb).mono ?_); rintro e w1 ⟨rfl, b1, f1⟩
  go_wp2
  go_ret
  exact ⟨rfl, b1, _, hg, f1⟩
set_option maxHeartbeats 1000000 in
theorem markPair_c {B T B' T' : Nat} {w : World} {v v' : Value} {xs ys : List Int} (k p k' p' : Int) (s s' : ByteArray) (h : IntB B T 3 w v xs) (h' : IntB B' T' 3 w v' ys) (hd : T ≤ B') (hT : T ≤ w.heap.size) (k0 : Int) (h0 : 0 ≤ k0) (h1 : k0 ≤ 1000000000000000000) (hb : xs.length ≤ 2000000) (hb' : ys.length ≤ 2000000) :
    Calls Tryz.prog 19 #[.agg #[.int .i64 k, v, .string s, .int .i64 p, .int .i64 k', v', .string s', .int .i64 p'], .int .i64 k0] w fun e w' => e = .returned (.int .i64 (k0 + xs.length + ys.length)) ∧ IntB B T 3 w' v (upFrom k0 xs.length) ∧ IntB B' T' 3 w' v' (upFrom (k0 + xs.length) ys.length) ∧ ∃ wa wb wc, Gr w wa ∧ Chg B T wa wb ∧ Gr wb wc ∧ Chg B' T' wc w' := by
  obtain ⟨p1, c, rfl⟩ := h.o.len
  obtain ⟨p2, c2, rfl⟩ := h'.o.len
  have hg := gr_alloc w (.cells #[.int .i64 k, .slice p1 xs.length c, .string s, .int .i64 p, .int .i64 k', .slice p2 ys.length c2, .string s', .int .i64 p'] 26)
  have hA := Lib.hid (heap_alloc_new w (.cells #[.int .i64 k, .slice p1 xs.length c, .string s, .int .i64 p, .int .i64 k', .slice p2 ys.length c2, .string s', .int .i64 p'] 26))
  go_enter Tryz.func19, Tryz.ntmps19
  go_wp2_with fail
  (with_reducible refine (markAddress_c k p s (h.kept hg) k0 h0 (by omega) (by omega)).mono ?_); rintro e w1 ⟨rfl, b1, wm, gm, f1⟩
  have hA1 := (f1.block w.heap.size (.inr (by omega))).trans (gm.blk hA.out)
  have x4 := blk_cell hA1 (j := 4) rfl
  have x5 := blk_cell hA1 (j := 5) rfl
  have x6 := blk_cell hA1 (j := 6) rfl
  have x7 := blk_cell hA1 (j := 7) rfl
  clear hA1
  have b2 := ((h'.kept hg).kept gm).chg f1 (.inr hd)
  have hk1 : 0 ≤ k0 + (xs.length : Int) := by omega
  have hk2 : k0 + (xs.length : Int) ≤ 4000000000000000000 := by omega
  go_wp2_with fail
  (with_reducible refine (markAddress_c k' p' s' b2 (k0 + (xs.length : Int)) hk1 hk2 (by omega)).mono ?_); rintro e w2 ⟨rfl, b3, wn, gn, f2⟩
  have hk3 : k0 + (xs.length : Int) + (ys.length : Int) ≤ 4000000000000000000 := by omega
  go_wp2
  go_ret
  exact ⟨rfl, (b1.kept gn).chg f2 (.inl hd), b3, wm, w1, wn, hg.trans gm, f1, gn, f2⟩
theorem heldAddress_c {w : World} {v : Value} (k p : Int) (s : ByteArray) (k0 : Int) (n : Nat) (h : IntS w v (upFrom k0 n)) (h0 : 0 ≤ k0) (h1 : k0 ≤ 4000000000000000000) (hb : n ≤ 1000000000000) :
    Calls Tryz.prog 56 #[.agg #[.int .i64 k, v, .string s, .int .i64 p], .int .i64 k0] w fun e w' => e = .returned (.int .i64 (k0 + n)) ∧ Gr w w' := by
  obtain ⟨p1, c, rfl, _, _⟩ := h.form
  have hg := gr_alloc w (.cells #[.int .i64 k, .slice p1 (upFrom k0 n).length c, .string s, .int .i64 p] 24)
  have hn : ¬ k0 + (n : Int) < 0 := by omega
  go_enter Tryz.func56, Tryz.ntmps56
  go_wp2_with fail
  (with_reducible refine (heldIntS_c k0 n (h.kept hg) h0 h1 hb).mono ?_); rintro e w1 ⟨rfl, rfl⟩
  go_wp2
  go_ret
  exact ⟨rfl, hg⟩
set_option maxHeartbeats 1000000 in
theorem heldPair_c {w : World} {v v' : Value} (k p k' p' : Int) (s s' : ByteArray) (k0 k1 : Int) (n n' : Nat) (h : IntS w v (upFrom k0 n)) (h' : IntS w v' (upFrom k1 n')) (hk : k1 = k0 + n) (h0 : 0 ≤ k0) (h1 : k0 ≤ 1000000000000000000) (hb : n ≤ 1000000) (hb' : n' ≤ 1000000) :
    Calls Tryz.prog 20 #[.agg #[.int .i64 k, v, .string s, .int .i64 p, .int .i64 k', v', .string s', .int .i64 p'], .int .i64 k0] w fun e w' => e = .returned (.int .i64 (k0 + n + n')) ∧ Gr w w' := by
  subst hk
  obtain ⟨p1, c, rfl, _, _⟩ := h.form
  obtain ⟨p2, c2, rfl, _, _⟩ := h'.form
  have hg := gr_alloc w (.cells #[.int .i64 k, .slice p1 (upFrom k0 n).length c, .string s, .int .i64 p, .int .i64 k', .slice p2 (upFrom (k0 + n) n').length c2, .string s', .int .i64 p'] 26)
  have hA := Lib.hid (heap_alloc_new w (.cells #[.int .i64 k, .slice p1 (upFrom k0 n).length c, .string s, .int .i64 p, .int .i64 k', .slice p2 (upFrom (k0 + n) n').length c2, .string s', .int .i64 p'] 26))
  have hn : ¬ k0 + (n : Int) < 0 := by omega
  have hn1 : 0 ≤ k0 + (n : Int) := by omega
  have hn2 : k0 + (n : Int) ≤ 4000000000000000000 := by omega
  have hn' : ¬ k0 + (n : Int) + (n' : Int) < 0 := by omega
  go_enter Tryz.func20, Tryz.ntmps20
  go_wp2_with fail
  (with_reducible refine (heldAddress_c k p s k0 n (h.kept hg) h0 (by omega) (by omega)).mono ?_); rintro e w1 ⟨rfl, g1⟩
  have hA1 := g1.blk hA.out
  have x4 := blk_cell hA1 (j := 4) rfl
  have x5 := blk_cell hA1 (j := 5) rfl
  have x6 := blk_cell hA1 (j := 6) rfl
  have x7 := blk_cell hA1 (j := 7) rfl
  clear hA1
  go_wp2_with fail
  (with_reducible refine (heldAddress_c k' p' s' (k0 + n) n' ((h'.kept hg).kept g1) hn1 hn2 (by omega)).mono ?_); rintro e w2 ⟨rfl, g2⟩
  go_wp2
  go_ret
  exact ⟨rfl, (hg.trans g1).trans g2⟩
end Go.Proofs.YtncnnfmfpilonaaGreatDoor
