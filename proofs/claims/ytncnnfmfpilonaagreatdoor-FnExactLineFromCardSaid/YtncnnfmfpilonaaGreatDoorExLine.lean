/- The walk of laws.FnExactLineFrom. -/
import Derived.Test.YtncnnfmfpilonaaGreatDoorLineW
import Derived.Test.YtncnnfmfpilonaaGreatDoorLineV
namespace Go.Proofs.YtncnnfmfpilonaaGreatDoor
open Go.RowKit
set_option maxRecDepth 20000 in
set_option maxHeartbeats 4000000 in
theorem FnExactLineFrom_w {w : World} (hm : ML w) (he : ErrV w) (ht : Tab w) (s : ByteArray) :
    Calls Tryz.prog 3 #[.string s] w fun e w' => e = .returned (.bool true) ∧ Gr w w' := by
  by_cases hx : s.size ≤ 1048576
  · obtain ⟨k1, q1, t1, n1, k2, q2, t2, n2, n, ok, hR⟩ := lineIs_some (tx s)
    obtain ⟨hq1, hq2⟩ := hR.small
    have HR := Lib.hid hR; clear hR
    have hx' : ((s.size : Int) ≤ 1048576) := by omega
    have hc1 : ¬ ((1 : Int) + (q1.length : Int) + (q2.length : Int) < 0) := by omega
    go_enter Tryz.func3, Tryz.ntmps3
    go_wp2_with fail
    (with_reducible refine (specLF HR hx).mono ?_); rintro e w2 ⟨p2, c2, p2', c2', rfl, i1, i2, g2⟩
    have a1 := i1.b
    have a2 := i2.b
    clear i1 i2
    have gS := gr_alloc w2 (.cells #[.int .i64 k1, .slice p2 q1.length c2, .string t1, .int .i64 n1, .int .i64 k2, .slice p2' q2.length c2', .string t2, .int .i64 n2] 26)
    have HS := Lib.hid (heap_alloc_new w2 (.cells #[.int .i64 k1, .slice p2 q1.length c2, .string t1, .int .i64 n1, .int .i64 k2, .slice p2' q2.length c2', .string t2, .int .i64 n2] 26))
    have G2 := g2.trans gS
    have zS : w2.heap.size + 1 = (w2.alloc (.cells #[.int .i64 k1, .slice p2 q1.length c2, .string t1, .int .i64 n1, .int .i64 k2, .slice p2' q2.length c2', .string t2, .int .i64 n2] 26)).heap.size := by simp
    have ZS := Lib.hid zS
    clear zS
    go_wp2_with fail
    (with_reducible refine (implLF HR (hm.kept G2) (he.kept G2) (ht.kept G2) hx).mono ?_); rintro e w4 ⟨p4, c4, p4', c4', T4, rfl, b1, b2, j1, j2, g4⟩
    have gX := gr_alloc w4 (.cells #[.int .i64 k1, .slice p4 q1.length c4, .string t1, .int .i64 n1, .int .i64 k2, .slice p4' q2.length c4', .string t2, .int .i64 n2] 26)
    have HX := Lib.hid (heap_alloc_new w4 (.cells #[.int .i64 k1, .slice p4 q1.length c4, .string t1, .int .i64 n1, .int .i64 k2, .slice p4' q2.length c4', .string t2, .int .i64 n2] 26))
    have z2 := g2.sz; have z4 := g4.sz
    have zS := ZS.out
    rw [← zS] at z4 j1 b1
    replace a1 := ((a1.kept gS).kept g4).kept gX
    replace a2 := ((a2.kept gS).kept g4).kept gX
    replace HS := Lib.hid (gX.blk (g4.blk HS.out))
    replace b1 := b1.kept gX
    replace b2 := b2.kept gX
    have G4 := (G2.trans g4).trans gX
    clear gS g2 g4 gX G2
    have x0 := blk_cell HX.out (j := 0) rfl
    have x1 := blk_cell HX.out (j := 1) rfl
    have x2 := blk_cell HX.out (j := 2) rfl
    have x3 := blk_cell HX.out (j := 3) rfl
    have x4 := blk_cell HX.out (j := 4) rfl
    have x5 := blk_cell HX.out (j := 5) rfl
    have x6 := blk_cell HX.out (j := 6) rfl
    have x7 := blk_cell HX.out (j := 7) rfl
    have s0 := blk_cell HS.out (j := 0) rfl
    have s1 := blk_cell HS.out (j := 1) rfl
    have s2 := blk_cell HS.out (j := 2) rfl
    have s3 := blk_cell HS.out (j := 3) rfl
    have s4 := blk_cell HS.out (j := 4) rfl
    have s5 := blk_cell HS.out (j := 5) rfl
    have s6 := blk_cell HS.out (j := 6) rfl
    have s7 := blk_cell HS.out (j := 7) rfl
    go_wp2_with fail
    (with_reducible refine (eqPair_c k1 n1 k2 n2 t1 t2 b1.o.s a1.o.s b2.o.s a2.o.s).mono ?_); rintro e w5 ⟨rfl, g5⟩
    clear s0 s1 s2 s3 s4 s5 s6 s7 x0 x1 x2 x3 x4 x5 x6 x7
    replace a1 := a1.kept g5
    replace a2 := a2.kept g5
    replace b1 := b1.kept g5
    replace b2 := b2.kept g5
    replace HS := Lib.hid (g5.blk HS.out)
    replace HX := Lib.hid (g5.blk HX.out)
    have G5 := G4.trans g5
    clear g5 G4
    have z11 := (Array.getElem?_eq_some_iff.1 HX.out).1
    have x0 := blk_cell HX.out (j := 0) rfl
    have x1 := blk_cell HX.out (j := 1) rfl
    have x2 := blk_cell HX.out (j := 2) rfl
    have x3 := blk_cell HX.out (j := 3) rfl
    have x4 := blk_cell HX.out (j := 4) rfl
    have x5 := blk_cell HX.out (j := 5) rfl
    have x6 := blk_cell HX.out (j := 6) rfl
    have x7 := blk_cell HX.out (j := 7) rfl
    go_wp2_with fail
    (with_reducible refine (markPair_c k1 n1 k2 n2 t1 t2 b1 b2 (by omega) (by omega) 1 (by decide) (by decide) (by omega) (by omega)).mono ?_); rintro e w12 ⟨rfl, b1', b2', wa, wb, wc, ga, fa, gb, fb⟩
    clear x0 x1 x2 x3 x4 x5 x6 x7
    have HX0 := Lib.hid ((fb.block w4.heap.size (by omega)).trans (gb.blk ((fa.block w4.heap.size (by omega)).trans (ga.blk HX.out))))
    have HS0 := Lib.hid ((fb.block w2.heap.size (by omega)).trans (gb.blk ((fa.block w2.heap.size (by omega)).trans (ga.blk HS.out))))
    replace a1 := (((a1.kept ga).chg fa (by omega)).kept gb).chg fb (by omega)
    replace a2 := (((a2.kept ga).chg fa (by omega)).kept gb).chg fb (by omega)
    have G12 := fb.gr ((fa.gr (G5.trans ga) (by omega)).trans gb) (by omega)
    replace HX := HX0
    replace HS := HS0
    clear HX0 HS0 ga fa gb fb G5 b1 b2 z11
    have x0 := blk_cell HX.out (j := 0) rfl
    have x1 := blk_cell HX.out (j := 1) rfl
    have x2 := blk_cell HX.out (j := 2) rfl
    have x3 := blk_cell HX.out (j := 3) rfl
    have x4 := blk_cell HX.out (j := 4) rfl
    have x5 := blk_cell HX.out (j := 5) rfl
    have x6 := blk_cell HX.out (j := 6) rfl
    have x7 := blk_cell HX.out (j := 7) rfl
    go_wp2_with fail
    (with_reducible refine (heldPair_c k1 n1 k2 n2 t1 t2 1 (1 + (q1.length : Int)) q1.length q2.length b1'.o.s b2'.o.s rfl (by decide) (by decide) (by omega) (by omega)).mono ?_); rintro e w14 ⟨rfl, g14⟩
    clear x0 x1 x2 x3 x4 x5 x6 x7
    replace a1 := a1.kept g14
    replace a2 := a2.kept g14
    replace b1' := b1'.kept g14
    replace b2' := b2'.kept g14
    replace HS := Lib.hid (g14.blk HS.out)
    replace HX := Lib.hid (g14.blk HX.out)
    have G14 := G12.trans g14
    clear g14 G12
    go_wp2_with fail
    (with_reducible refine (implLF HR (hm.kept G14) (he.kept G14) (ht.kept G14) hx).mono ?_); rintro e w17 ⟨p17, c17, p17', c17', T17, rfl, d1, d2, l1, l2, g17⟩
    have gZ := gr_alloc w17 (.cells #[.int .i64 k1, .slice p17 q1.length c17, .string t1, .int .i64 n1, .int .i64 k2, .slice p17' q2.length c17', .string t2, .int .i64 n2] 26)
    have HZ := Lib.hid (heap_alloc_new w17 (.cells #[.int .i64 k1, .slice p17 q1.length c17, .string t1, .int .i64 n1, .int .i64 k2, .slice p17' q2.length c17', .string t2, .int .i64 n2] 26))
    replace d1 := d1.kept gZ
    replace d2 := d2.kept gZ
    have gg := g17.trans gZ
    replace a1 := a1.kept gg
    replace a2 := a2.kept gg
    replace b1' := b1'.kept gg
    replace b2' := b2'.kept gg
    replace HS := Lib.hid (gg.blk HS.out)
    replace HX := Lib.hid (gg.blk HX.out)
    have G17 := G14.trans gg
    clear g17 gZ gg G14
    have x0 := blk_cell HZ.out (j := 0) rfl
    have x1 := blk_cell HZ.out (j := 1) rfl
    have x2 := blk_cell HZ.out (j := 2) rfl
    have x3 := blk_cell HZ.out (j := 3) rfl
    have x4 := blk_cell HZ.out (j := 4) rfl
    have x5 := blk_cell HZ.out (j := 5) rfl
    have x6 := blk_cell HZ.out (j := 6) rfl
    have x7 := blk_cell HZ.out (j := 7) rfl
    have s0 := blk_cell HS.out (j := 0) rfl
    have s1 := blk_cell HS.out (j := 1) rfl
    have s2 := blk_cell HS.out (j := 2) rfl
    have s3 := blk_cell HS.out (j := 3) rfl
    have s4 := blk_cell HS.out (j := 4) rfl
    have s5 := blk_cell HS.out (j := 5) rfl
    have s6 := blk_cell HS.out (j := 6) rfl
    have s7 := blk_cell HS.out (j := 7) rfl
    go_wp2_with fail
    (with_reducible refine (eqPair_c k1 n1 k2 n2 t1 t2 d1.o.s a1.o.s d2.o.s a2.o.s).mono ?_); rintro e w18 ⟨rfl, g18⟩
    clear s0 s1 s2 s3 s4 s5 s6 s7 x0 x1 x2 x3 x4 x5 x6 x7
    replace b1' := b1'.kept g18
    replace b2' := b2'.kept g18
    replace HX := Lib.hid (g18.blk HX.out)
    have G19 := G17.trans g18
    clear g18 G17
    have x0 := blk_cell HX.out (j := 0) rfl
    have x1 := blk_cell HX.out (j := 1) rfl
    have x2 := blk_cell HX.out (j := 2) rfl
    have x3 := blk_cell HX.out (j := 3) rfl
    have x4 := blk_cell HX.out (j := 4) rfl
    have x5 := blk_cell HX.out (j := 5) rfl
    have x6 := blk_cell HX.out (j := 6) rfl
    have x7 := blk_cell HX.out (j := 7) rfl
    go_wp2_with fail
    (with_reducible refine (heldPair_c k1 n1 k2 n2 t1 t2 1 (1 + (q1.length : Int)) q1.length q2.length b1'.o.s b2'.o.s rfl (by decide) (by decide) (by omega) (by omega)).mono ?_); rintro e w20 ⟨rfl, g20⟩
    clear x0 x1 x2 x3 x4 x5 x6 x7
    go_wp2
    go_ret
    exact ⟨rfl, G19.trans g20⟩
  · have hx' : ¬ ((s.size : Int) ≤ 1048576) := by omega
    go_enter Tryz.func3, Tryz.ntmps3
    go_wp2_with fail
    go_ret
    exact ⟨rfl, Gr.refl _⟩
end Go.Proofs.YtncnnfmfpilonaaGreatDoor
