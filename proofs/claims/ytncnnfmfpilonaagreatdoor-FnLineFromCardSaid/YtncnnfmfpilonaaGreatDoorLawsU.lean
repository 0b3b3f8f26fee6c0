/- The walk of laws.FnLineFrom. -/
import Derived.Test.YtncnnfmfpilonaaGreatDoorLawsT
import Derived.Test.YtncnnfmfpilonaaGreatDoorGT
import Derived.Test.YtncnnfmfpilonaaGreatDoorLineW
namespace Go.Proofs.YtncnnfmfpilonaaGreatDoor
open Go.RowKit
set_option maxHeartbeats 4000000 in
theorem FnLineFrom_w {w : World} {v : Value} {bs : List Int} (hm : ML w) (he : ErrV w) (ht : Tab w) (h : ByteS w v bs) :
    Calls Tryz.prog 4 #[v] w fun e w' => e = .returned (.bool true) ∧ Gr w w' := by
  obtain ⟨p, cap, rfl, _, _⟩ := h.form
  by_cases hx : bs.length ≤ 1048576
  · have hx' : ((bs.length : Int) ≤ 1048576) := by omega
    go_enter Tryz.func4, Tryz.ntmps4
    go_wp2_with fail
    (with_reducible refine (DrawLineFrom_c h).mono ?_); rintro e w1 ⟨r, rfl, hrl, g1⟩
    have hr1 : r.size ≤ 1048576 := by omega
    obtain ⟨k1, q1, t1, n1, k2, q2, t2, n2, n, ok, hR⟩ := lineIs_some (tx r)
    have HR := Lib.hid hR
    go_wp2_with fail
    (with_reducible refine (implLF HR (hm.kept g1) (he.kept g1) (ht.kept g1) hr1).mono ?_); rintro e w4 ⟨pa, ca, pb, cb, T4, rfl, i1, i2, j1, j2, g4⟩
    have o1 := i1.o.s
    have o2 := i2.o.s
    clear i1 i2 j1 j2
    have gX := gr_alloc w4 (.cells #[.int .i64 k1, .slice pa q1.length ca, .string t1, .int .i64 n1, .int .i64 k2, .slice pb q2.length cb, .string t2, .int .i64 n2] 26)
    have HX := Lib.hid (heap_alloc_new w4 (.cells #[.int .i64 k1, .slice pa q1.length ca, .string t1, .int .i64 n1, .int .i64 k2, .slice pb q2.length cb, .string t2, .int .i64 n2] 26))
    have GX := g4.trans gX
    go_wp2_with fail
    (with_reducible refine (specLF HR hr1).mono ?_); rintro e w5 ⟨pa', ca', pb', cb', rfl, i1, i2, g5⟩
    have o3 := i1.s
    have o4 := i2.s
    clear i1 i2
    have gY := gr_alloc w5 (.cells #[.int .i64 k1, .slice pa' q1.length ca', .string t1, .int .i64 n1, .int .i64 k2, .slice pb' q2.length cb', .string t2, .int .i64 n2] 26)
    have HY := Lib.hid (heap_alloc_new w5 (.cells #[.int .i64 k1, .slice pa' q1.length ca', .string t1, .int .i64 n1, .int .i64 k2, .slice pb' q2.length cb', .string t2, .int .i64 n2] 26))
    have GY := g5.trans gY
    have HX5 := Lib.hid (GY.blk HX.out)
    have o1y := (o1.kept gX).kept GY
    have o2y := (o2.kept gX).kept GY
    have o3y := o3.kept gY
    have o4y := o4.kept gY
    have K5 := (g1.trans GX).trans GY
    clear HX o1 o2 o3 o4 g4 gX g5 gY GX GY
    have x0 := blk_cell HX5.out (j := 0) rfl
    have x1 := blk_cell HX5.out (j := 1) rfl
    have x2 := blk_cell HX5.out (j := 2) rfl
    have x3 := blk_cell HX5.out (j := 3) rfl
    have x4 := blk_cell HX5.out (j := 4) rfl
    have x5 := blk_cell HX5.out (j := 5) rfl
    have x6 := blk_cell HX5.out (j := 6) rfl
    have x7 := blk_cell HX5.out (j := 7) rfl
    have s0 := blk_cell HY.out (j := 0) rfl
    have s1 := blk_cell HY.out (j := 1) rfl
    have s2 := blk_cell HY.out (j := 2) rfl
    have s3 := blk_cell HY.out (j := 3) rfl
    have s4 := blk_cell HY.out (j := 4) rfl
    have s5 := blk_cell HY.out (j := 5) rfl
    have s6 := blk_cell HY.out (j := 6) rfl
    have s7 := blk_cell HY.out (j := 7) rfl
    rcases hR with ⟨m, hl, hn, hok⟩ | ⟨hl, e1, e2, e3, e4, e5, e6, e7, e8, e9, hok⟩
    rotate_left
    · subst hok
      clear hl e1 e2 e3 e4 e5 e6 e7 e8 e9
      go_wp2_with fail
      (with_reducible refine (samePair_c k1 n1 k2 n2 t1 t2 o1y o3y o2y o4y).mono ?_); rintro e w6 ⟨rfl, g6⟩
      clear s0 s1 s2 s3 s4 s5 s6 s7 x0 x1 x2 x3 x4 x5 x6 x7
      have HXz := Lib.hid (g6.blk HX5.out)
      have HYz := Lib.hid (g6.blk HY.out)
      have x0 := blk_cell HXz.out (j := 0) rfl
      have x1 := blk_cell HXz.out (j := 1) rfl
      have x2 := blk_cell HXz.out (j := 2) rfl
      have x3 := blk_cell HXz.out (j := 3) rfl
      have x4 := blk_cell HXz.out (j := 4) rfl
      have x5 := blk_cell HXz.out (j := 5) rfl
      have x6 := blk_cell HXz.out (j := 6) rfl
      have x7 := blk_cell HXz.out (j := 7) rfl
      have s0 := blk_cell HYz.out (j := 0) rfl
      have s1 := blk_cell HYz.out (j := 1) rfl
      have s2 := blk_cell HYz.out (j := 2) rfl
      have s3 := blk_cell HYz.out (j := 3) rfl
      have s4 := blk_cell HYz.out (j := 4) rfl
      have s5 := blk_cell HYz.out (j := 5) rfl
      have s6 := blk_cell HYz.out (j := 6) rfl
      have s7 := blk_cell HYz.out (j := 7) rfl
      go_wp2_with fail
      (with_reducible refine (samePair_c k1 n1 k2 n2 t1 t2 (o1y.kept g6) (o3y.kept g6) (o2y.kept g6) (o4y.kept g6)).mono ?_); rintro e w7 ⟨rfl, g7⟩
      clear s0 s1 s2 s3 s4 s5 s6 s7 x0 x1 x2 x3 x4 x5 x6 x7
      go_wp2
      go_ret
      exact ⟨rfl, (K5.trans g6).trans g7⟩
    · subst hok
      obtain ⟨p1, p2, p3⟩ := lineFrom_sound hl
      have hll := lineText_len p1
      obtain ⟨t, e1⟩ : ∃ t, lineText ⟨⟨k1, q1, tx t1, n1⟩, ⟨k2, q2, tx t2, n2⟩⟩ = t := ⟨_, rfl⟩
      rw [e1] at p2 p3 hll
      obtain ⟨y1, y2, y3, y4, y5, y6, z1, z2⟩ := par_parts p1
      clear y1 y2 y3 y4 y5 y6
      simp only [] at z1 z2
      have HR1 := Lib.hid p1
      have E1 := Lib.hid e1
      have hs1 : t1.size ≤ 2000000 := by rw [← tx_len, z1]; simp
      have hs2 : t2.size ≤ 2000000 := by rw [← tx_len, z2]; simp
      have hnt : n = ((S t).size : Int) := by rw [hn, p2, S_len]
      have hrs : (S t).size ≤ r.size := by
        have := congrArg List.length p3
        rw [List.length_take, tx_len] at this
        rw [S_len]; omega
      have htl := tl_eq (r.extract 0 (S t).size) (S t)
      rw [tx_ext_slice, tx_S, decide_eq_true (by rw [S_len, ← p2, p3]; simp)] at htl
      have hri : ((S t).size : Int) ≤ (r.size : Int) := by omega
      have hcmp := Lib.hid htl
      subst hnt
      clear hl hn p1 p2 p3 e1 z1 z2 hll HR
      go_wp2_with fail
      (with_reducible refine (samePair_c k1 n1 k2 n2 t1 t2 o1y o3y o2y o4y).mono ?_); rintro e w6 ⟨rfl, g6⟩
      clear s0 s1 s2 s3 s4 s5 s6 s7 x0 x1 x2 x3 x4 x5 x6 x7
      have HX6 := Lib.hid (g6.blk HX5.out)
      have K6 := K5.trans g6
      have x0 := blk_cell HX6.out (j := 0) rfl
      have x1 := blk_cell HX6.out (j := 1) rfl
      have x2 := blk_cell HX6.out (j := 2) rfl
      have x3 := blk_cell HX6.out (j := 3) rfl
      have x4 := blk_cell HX6.out (j := 4) rfl
      have x5 := blk_cell HX6.out (j := 5) rfl
      have x6 := blk_cell HX6.out (j := 6) rfl
      have x7 := blk_cell HX6.out (j := 7) rfl
      go_wp2_with fail
      (with_reducible refine (implLine_t (hm.kept K6) (ht.kept K6) k1 n1 k2 n2 t1 t2 (o1y.kept g6) (o2y.kept g6) hs1 hs2 HR1 E1).mono ?_); rintro e w7 ⟨rfl, g7⟩
      clear x0 x1 x2 x3 x4 x5 x6 x7
      have HX7 := Lib.hid (g7.blk HX6.out)
      have K7 := K6.trans g7
      have g67 := g6.trans g7
      have x0 := blk_cell HX7.out (j := 0) rfl
      have x1 := blk_cell HX7.out (j := 1) rfl
      have x2 := blk_cell HX7.out (j := 2) rfl
      have x3 := blk_cell HX7.out (j := 3) rfl
      have x4 := blk_cell HX7.out (j := 4) rfl
      have x5 := blk_cell HX7.out (j := 5) rfl
      have x6 := blk_cell HX7.out (j := 6) rfl
      have x7 := blk_cell HX7.out (j := 7) rfl
      go_wp2_with fail
      (with_reducible refine (implPairValid_c (hm.kept K7) k1 n1 k2 n2 t1 t2 (o1y.kept g67) (o2y.kept g67) hs1 hs2).mono ?_); rintro e w8 ⟨rfl, g8⟩
      rw [HR1.out]
      have hcm := hcmp.out
      go_wp2
      go_ret
      exact ⟨rfl, K7.trans g8⟩
  · have hx' : ¬ ((bs.length : Int) ≤ 1048576) := by omega
    go_enter Tryz.func4, Tryz.ntmps4
    go_wp2_with fail
    go_ret
    exact ⟨rfl, Gr.refl _⟩
end Go.Proofs.YtncnnfmfpilonaaGreatDoor
