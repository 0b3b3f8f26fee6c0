/- The walks of laws.FnLine, FnLineCut. -/
import Derived.Test.YtdbepkcpdglppaaGreatDoorGU
import Derived.Test.YtdbepkcpdglppaaGreatDoorGT
import Derived.Test.YtdbepkcpdglppaaGreatDoorLineV
namespace Go.Proofs.YtdbepkcpdglppaaGreatDoor
open Go.RowKit
theorem lineIs_text {k port k' port' : Int} {s s' : ByteArray} {xs ys : List Int} {t : Tx} (hok : parOk ⟨⟨k, xs, tx s, port⟩, ⟨k', ys, tx s', port'⟩⟩ = true) (he : lineText ⟨⟨k, xs, tx s, port⟩, ⟨k', ys, tx s', port'⟩⟩ = t) (r : Tx) {u : ByteArray} (hu : tx u = t ++ r) :
    LineIs (tx u) k xs s port k' ys s' port' ((S t).size : Int) true := by
  refine .inl ⟨t.length, ?_, by rw [S_len], rfl⟩
  have := lineFrom_text hok r
  rw [he, ← hu] at this
  exact this
set_option maxHeartbeats 4000000 in
theorem FnLine_w {w : World} {v : Value} {bs : List Int} (hm : ML w) (he : ErrV w) (ht : Tab w) (h : ByteS w v bs) :
    Calls Tryz.prog 8 #[v] w fun e w' => e = .returned (.bool true) ∧ Gr w w' := by
  obtain ⟨p, cap, rfl, _, _⟩ := h.form
  by_cases hx : bs.length ≤ 1048576
  · have hx' : ((bs.length : Int) ≤ 1048576) := by omega
    go_enter Tryz.func8, Tryz.ntmps8
    go_wp2_with fail
    (with_reducible refine (DrawLineText_c h).mono ?_); rintro e w1 ⟨pq, cq, pq', cq', k, p, k', p', s, s', xs, ys, rfl, hxl, hyl, hsl, hsl', q1, q1', g1⟩
    have gS := gr_alloc w1 (.cells #[.int .i64 k, .slice pq xs.length cq, .string s, .int .i64 p, .int .i64 k', .slice pq' ys.length cq', .string s', .int .i64 p'] 27)
    have HP0 := Lib.hid (heap_alloc_new w1 (.cells #[.int .i64 k, .slice pq xs.length cq, .string s, .int .i64 p, .int .i64 k', .slice pq' ys.length cq', .string s', .int .i64 p'] 27))
    have hS := g1.trans gS
    have hs : s.size ≤ 2000000 := by omega
    have hs' : s'.size ≤ 2000000 := by omega
    clear hsl hsl' hxl hyl
    cases hr : parOk ⟨⟨k, xs, tx s, p⟩, ⟨k', ys, tx s', p'⟩⟩
    · have HR := Lib.hid hr
      clear hr
      go_wp2_with fail
      (with_reducible refine (implLine_f (hm.kept hS) (ht.kept hS) k p k' p' s s' (q1.kept gS) (q1'.kept gS) hs hs' HR).mono ?_); rintro e w2 ⟨rfl, g2⟩
      have c0 := boxN g2 0 rfl
      have c1 := boxN g2 1 rfl
      have c2 := boxN g2 2 rfl
      have c3 := boxN g2 3 rfl
      have c4 := boxN g2 4 rfl
      have c5 := boxN g2 5 rfl
      have c6 := boxN g2 6 rfl
      have c7 := boxN g2 7 rfl
      have G2 := gS.trans g2
      go_wp2_with fail
      (with_reducible refine (specLine_f k p k' p' s s' (q1.kept G2) (q1'.kept G2) hs hs' HR).mono ?_); rintro e w3 ⟨rfl, g3⟩
      go_wp2
      go_ret
      exact ⟨rfl, (g1.trans G2).trans g3⟩
    · have HR := Lib.hid hr
      have hl1 := lineText_len hr
      obtain ⟨t, e1⟩ : ∃ t, lineText ⟨⟨k, xs, tx s, p⟩, ⟨k', ys, tx s', p'⟩⟩ = t := ⟨_, rfl⟩
      rw [e1] at hl1
      have E1 := Lib.hid e1
      have n1 := S_notEmpty hl1.2
      have hts : (S t).size ≤ 120 := by rw [S_len]; exact hl1.1
      have A1 := addL (P := Tryz.prog) (S t) ⟨#[120, 121, 122, 13, 10]⟩ (t ++ [120, 121, 122, 13, 10]) (by rw [tx_S]; rfl) (by simp; omega)
      have hus : (S (t ++ [120, 121, 122, 13, 10])).size ≤ 1048576 := by rw [S_len]; simp; omega
      have R1 := Lib.hid (lineIs_text hr e1 [] (u := S t) (by rw [tx_S, List.append_nil]))
      have R2 := Lib.hid (lineIs_text hr e1 [120, 121, 122, 13, 10] (u := S (t ++ [120, 121, 122, 13, 10])) (tx_S _))
      have hts2 : (S t).size ≤ 1048576 := by omega
      generalize S (t ++ [120, 121, 122, 13, 10]) = u at *
      clear hr e1 hl1
      go_wp2_with fail
      (with_reducible refine (implLine_t (hm.kept hS) (ht.kept hS) k p k' p' s s' (q1.kept gS) (q1'.kept gS) hs hs' HR E1).mono ?_); rintro e w2 ⟨rfl, g2⟩
      have c0 := boxN g2 0 rfl
      have c1 := boxN g2 1 rfl
      have c2 := boxN g2 2 rfl
      have c3 := boxN g2 3 rfl
      have c4 := boxN g2 4 rfl
      have c5 := boxN g2 5 rfl
      have c6 := boxN g2 6 rfl
      have c7 := boxN g2 7 rfl
      have G2 := gS.trans g2
      go_wp2_with fail
      (with_reducible refine (specLine_t k p k' p' s s' (q1.kept G2) (q1'.kept G2) hs hs' HR E1).mono ?_); rintro e w3 ⟨rfl, g3⟩
      have d3 := g2.trans g3
      clear c0 c1 c2 c3 c4 c5 c6 c7
      have G3 := gS.trans d3
      have K3 := g1.trans G3
      go_wp2_with fail
      (with_reducible refine (implLF R1 (hm.kept K3) (he.kept K3) (ht.kept K3) hts2).mono ?_); rintro e w4 ⟨pa, ca, pb, cb, T4, rfl, i1, i2, j1, j2, g4⟩
      have o1 := i1.o.s
      have o2 := i2.o.s
      clear i1 i2 j1 j2
      have gX := gr_alloc w4 (.cells #[.int .i64 k, .slice pa xs.length ca, .string s, .int .i64 p, .int .i64 k', .slice pb ys.length cb, .string s', .int .i64 p'] 27)
      have HX := Lib.hid (heap_alloc_new w4 (.cells #[.int .i64 k, .slice pa xs.length ca, .string s, .int .i64 p, .int .i64 k', .slice pb ys.length cb, .string s', .int .i64 p'] 27))
      have GX := g4.trans gX
      have K4 := K3.trans GX
      go_wp2_with fail
      (with_reducible refine (implLF R2 (hm.kept K4) (he.kept K4) (ht.kept K4) hus).mono ?_); rintro e w5 ⟨pa', ca', pb', cb', T5, rfl, i1, i2, j1, j2, g5⟩
      have o3 := i1.o.s
      have o4 := i2.o.s
      clear i1 i2 j1 j2
      have gY := gr_alloc w5 (.cells #[.int .i64 k, .slice pa' xs.length ca', .string s, .int .i64 p, .int .i64 k', .slice pb' ys.length cb', .string s', .int .i64 p'] 27)
      have HY := Lib.hid (heap_alloc_new w5 (.cells #[.int .i64 k, .slice pa' xs.length ca', .string s, .int .i64 p, .int .i64 k', .slice pb' ys.length cb', .string s', .int .i64 p'] 27))
      have GY := g5.trans gY
      have HXy := Lib.hid (GY.blk HX.out)
      have HPy := Lib.hid (GY.blk (GX.blk (d3.blk HP0.out)))
      have hv1 := (q1.kept (G3.trans GX)).kept GY
      have hv2 := (q1'.kept (G3.trans GX)).kept GY
      have o1y := (o1.kept gX).kept GY
      have o2y := (o2.kept gX).kept GY
      have o3y := o3.kept gY
      have o4y := o4.kept gY
      have K5 := K4.trans GY
      clear HX o1 o2 o3 o4 g4 gX g5 gY GX GY K4
      have x0 := blk_cell HXy.out (j := 0) rfl
      have x1 := blk_cell HXy.out (j := 1) rfl
      have x2 := blk_cell HXy.out (j := 2) rfl
      have x3 := blk_cell HXy.out (j := 3) rfl
      have x4 := blk_cell HXy.out (j := 4) rfl
      have x5 := blk_cell HXy.out (j := 5) rfl
      have x6 := blk_cell HXy.out (j := 6) rfl
      have x7 := blk_cell HXy.out (j := 7) rfl
      have s0 := blk_cell HPy.out (j := 0) rfl
      have s1 := blk_cell HPy.out (j := 1) rfl
      have s2 := blk_cell HPy.out (j := 2) rfl
      have s3 := blk_cell HPy.out (j := 3) rfl
      have s4 := blk_cell HPy.out (j := 4) rfl
      have s5 := blk_cell HPy.out (j := 5) rfl
      have s6 := blk_cell HPy.out (j := 6) rfl
      have s7 := blk_cell HPy.out (j := 7) rfl
      go_wp2_with fail
      (with_reducible refine (samePair_c k p k' p' s s' o1y hv1 o2y hv2).mono ?_); rintro e w6 ⟨rfl, g6⟩
      clear s0 s1 s2 s3 s4 s5 s6 s7 x0 x1 x2 x3 x4 x5 x6 x7
      have HYz := Lib.hid (g6.blk HY.out)
      have HPz := Lib.hid (g6.blk HPy.out)
      have x0 := blk_cell HYz.out (j := 0) rfl
      have x1 := blk_cell HYz.out (j := 1) rfl
      have x2 := blk_cell HYz.out (j := 2) rfl
      have x3 := blk_cell HYz.out (j := 3) rfl
      have x4 := blk_cell HYz.out (j := 4) rfl
      have x5 := blk_cell HYz.out (j := 5) rfl
      have x6 := blk_cell HYz.out (j := 6) rfl
      have x7 := blk_cell HYz.out (j := 7) rfl
      have s0 := blk_cell HPz.out (j := 0) rfl
      have s1 := blk_cell HPz.out (j := 1) rfl
      have s2 := blk_cell HPz.out (j := 2) rfl
      have s3 := blk_cell HPz.out (j := 3) rfl
      have s4 := blk_cell HPz.out (j := 4) rfl
      have s5 := blk_cell HPz.out (j := 5) rfl
      have s6 := blk_cell HPz.out (j := 6) rfl
      have s7 := blk_cell HPz.out (j := 7) rfl
      go_wp2_with fail
      (with_reducible refine (samePair_c k p k' p' s s' (o3y.kept g6) (hv1.kept g6) (o4y.kept g6) (hv2.kept g6)).mono ?_); rintro e w7 ⟨rfl, g7⟩
      clear s0 s1 s2 s3 s4 s5 s6 s7 x0 x1 x2 x3 x4 x5 x6 x7
      go_wp2
      go_ret
      exact ⟨rfl, (K5.trans g6).trans g7⟩
  · have hx' : ¬ ((bs.length : Int) ≤ 1048576) := by omega
    go_enter Tryz.func8, Tryz.ntmps8
    go_wp2_with fail
    go_ret
    exact ⟨rfl, Gr.refl _⟩
theorem lineIs_cut {k port k' port' : Int} {s s' : ByteArray} {xs ys : List Int} {t : Tx} (hok : parOk ⟨⟨k, xs, tx s, port⟩, ⟨k', ys, tx s', port'⟩⟩ = true) (he : lineText ⟨⟨k, xs, tx s, port⟩, ⟨k', ys, tx s', port'⟩⟩ = t) {j : Nat} (hj : j < (S t).size) :
    LineIs (tx ((S t).extract 0 j)) 0 [] ⟨#[]⟩ 0 0 [] ⟨#[]⟩ 0 0 false := by
  refine .inr ⟨?_, rfl, rfl, rfl, rfl, rfl, rfl, rfl, rfl, rfl, rfl⟩
  have := lineFrom_cut hok (k := j) (by rw [he, ← S_len]; exact hj)
  rw [he] at this
  rw [tx_ext_slice, tx_S]
  exact this
set_option maxHeartbeats 4000000 in
theorem FnLineCut_w {w : World} {v u : Value} {bs ms : List Int} (hm : ML w) (he : ErrV w) (ht : Tab w) (h : ByteS w v bs) (hu : ByteS w u ms) :
    Calls Tryz.prog 9 #[v, u] w fun e w' => e = .returned (.bool true) ∧ Gr w w' := by
  obtain ⟨p, cap, rfl, _, _⟩ := h.form
  obtain ⟨pm, capm, rfl, _, _⟩ := hu.form
  by_cases hx : bs.length ≤ 1048576
  · have hx' : ((bs.length : Int) ≤ 1048576) := by omega
    by_cases hy : ms.length ≤ 1048576
    · have hy' : ((ms.length : Int) ≤ 1048576) := by omega
      go_enter Tryz.func9, Tryz.ntmps9
      go_wp2_with fail
      (with_reducible refine (DrawLineText_c h).mono ?_); rintro e w1 ⟨pq, cq, pq', cq', k, p, k', p', s, s', xs, ys, rfl, hxl, hyl, hsl, hsl', q1, q1', g1⟩
      have gS := gr_alloc w1 (.cells #[.int .i64 k, .slice pq xs.length cq, .string s, .int .i64 p, .int .i64 k', .slice pq' ys.length cq', .string s', .int .i64 p'] 27)
      have hS := g1.trans gS
      have hs : s.size ≤ 2000000 := by omega
      have hs' : s'.size ≤ 2000000 := by omega
      clear hsl hsl' hxl hyl
      cases hr : parOk ⟨⟨k, xs, tx s, p⟩, ⟨k', ys, tx s', p'⟩⟩
      · have HR := Lib.hid hr
        clear hr
        go_wp2_with fail
        (with_reducible refine (implLine_f (hm.kept hS) (ht.kept hS) k p k' p' s s' (q1.kept gS) (q1'.kept gS) hs hs' HR).mono ?_); rintro e w2 ⟨rfl, g2⟩
        have c0 := boxN g2 0 rfl
        have c1 := boxN g2 1 rfl
        have c2 := boxN g2 2 rfl
        have c3 := boxN g2 3 rfl
        have c4 := boxN g2 4 rfl
        have c5 := boxN g2 5 rfl
        have c6 := boxN g2 6 rfl
        have c7 := boxN g2 7 rfl
        have G2 := gS.trans g2
        go_wp2_with fail
        (with_reducible refine (specLine_f k p k' p' s s' (q1.kept G2) (q1'.kept G2) hs hs' HR).mono ?_); rintro e w3 ⟨rfl, g3⟩
        go_wp2
        go_ret
        exact ⟨rfl, (g1.trans G2).trans g3⟩
      · have HR := Lib.hid hr
        have hl1 := lineText_len hr
        obtain ⟨t, e1⟩ : ∃ t, lineText ⟨⟨k, xs, tx s, p⟩, ⟨k', ys, tx s', p'⟩⟩ = t := ⟨_, rfl⟩
        rw [e1] at hl1
        have E1 := Lib.hid e1
        have n1 := S_notEmpty hl1.2
        have hts : (S t).size ≤ 120 := by rw [S_len]; exact hl1.1
        have htp : 0 < (S t).size := by rw [S_len]; exact hl1.2
        obtain ⟨j, hj⟩ : ∃ j, j = ms.length % (S t).size := ⟨_, rfl⟩
        have hjl : j < (S t).size := by rw [hj]; exact Nat.mod_lt _ htp
        have hmod : (ms.length : Int).tmod ((S t).size : Int) = (j : Int) := by
          rw [Int.tmod_eq_emod_of_nonneg (by omega), hj]; exact (Int.natCast_emod _ _).symm
        have hz : (((S t).size : Int) == 0) = false := beq_eq_false_iff_ne.2 (by omega)
        have hz2 : ¬ ((S t).size = 0) := by omega
        have hwj : IntKind.i64.wrap (j : Int) = (j : Int) := by rw [IntKind.wrap_i64]; omega
        have hjs : (j : Int) ≤ ((S t).size : Int) := by omega
        have R1 := Lib.hid (lineIs_cut hr e1 hjl)
        have hul : ((S t).extract 0 j).size ≤ 1048576 := by simp; omega
        have HJ := Lib.hid hj
        clear hr e1 hl1 hj
        go_wp2_with fail
        (with_reducible refine (implLine_t (hm.kept hS) (ht.kept hS) k p k' p' s s' (q1.kept gS) (q1'.kept gS) hs hs' HR E1).mono ?_); rintro e w2 ⟨rfl, g2⟩
        have c0 := boxN g2 0 rfl
        have c1 := boxN g2 1 rfl
        have c2 := boxN g2 2 rfl
        have c3 := boxN g2 3 rfl
        have c4 := boxN g2 4 rfl
        have c5 := boxN g2 5 rfl
        have c6 := boxN g2 6 rfl
        have c7 := boxN g2 7 rfl
        have G2 := gS.trans g2
        go_wp2_with fail
        (with_reducible refine (specLine_t k p k' p' s s' (q1.kept G2) (q1'.kept G2) hs hs' HR E1).mono ?_); rintro e w3 ⟨rfl, g3⟩
        have G3 := gS.trans (g2.trans g3)
        have K3 := g1.trans G3
        clear c0 c1 c2 c3 c4 c5 c6 c7
        go_wp2_with fail
        (with_reducible refine (implLF R1 (hm.kept K3) (he.kept K3) (ht.kept K3) hul).mono ?_); rintro e w4 ⟨pa, ca, pb, cb, T4, rfl, i1, i2, j1, j2, g4⟩
        go_wp2
        go_ret
        exact ⟨rfl, (K3.trans g4).alloc _⟩
    · have hy' : ¬ ((ms.length : Int) ≤ 1048576) := by omega
      go_enter Tryz.func9, Tryz.ntmps9
      go_wp2_with fail
      go_ret
      exact ⟨rfl, Gr.refl _⟩
  · have hx' : ¬ ((bs.length : Int) ≤ 1048576) := by omega
    go_enter Tryz.func9, Tryz.ntmps9
    go_wp2_with fail
    go_ret
    exact ⟨rfl, Gr.refl _⟩
end Go.Proofs.YtdbepkcpdglppaaGreatDoor
