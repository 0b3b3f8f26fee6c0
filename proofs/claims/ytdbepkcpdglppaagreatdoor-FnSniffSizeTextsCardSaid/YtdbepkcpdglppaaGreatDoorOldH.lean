/- impl.OldFrom. -/
import Derived.Test.YtdbepkcpdglppaaGreatDoorOldG
import Derived.Deep.RegionWith
import Derived.Deep.DeepCutAuto
namespace Go.Proofs.YtdbepkcpdglppaaGreatDoor
open Go.RowKit
/-- How OldFrom ends: a reader at its end, and a request to be checked. -/
theorem oldI_name {xs : List Int} (h : oQ xs = [0, 0, 0, 1]) :
    (((oS6 xs).bad = true ∨ oldOk ⟨oC xs, ⟨3, [], bt (oM xs), oP xs⟩, bt (oU xs)⟩ = false) → sizeOld xs = none) ∧
    ((oS6 xs).bad = false → oldOk ⟨oC xs, ⟨3, [], bt (oM xs), oP xs⟩, bt (oU xs)⟩ = true → sizeOld xs = some (oS6 xs).pos) := by
  unfold sizeOld
  rw [← oldI_eq]
  unfold oldI
  rw [if_pos h]
  refine ⟨fun hc => ?_, fun h1 h2 => by rw [if_pos ⟨h1, h2⟩]; rfl⟩
  rw [if_neg]; · rfl
  rintro ⟨h1, h2⟩
  rcases hc with hc | hc
  · rw [hc] at h1; cases h1
  · rw [hc] at h2; cases h2
theorem oldI_quad {xs : List Int} (h : ¬ oQ xs = [0, 0, 0, 1]) :
    (((oS5 xs).bad = true ∨ oldOk ⟨oC xs, ⟨1, oQ xs, [], oP xs⟩, bt (oU xs)⟩ = false) → sizeOld xs = none) ∧
    ((oS5 xs).bad = false → oldOk ⟨oC xs, ⟨1, oQ xs, [], oP xs⟩, bt (oU xs)⟩ = true → sizeOld xs = some (oS5 xs).pos) := by
  unfold sizeOld
  rw [← oldI_eq]
  unfold oldI
  rw [if_neg h]
  refine ⟨fun hc => ?_, fun h1 h2 => by rw [if_pos ⟨h1, h2⟩]; rfl⟩
  rw [if_neg]; · rfl
  rintro ⟨h1, h2⟩
  rcases hc with hc | hc
  · rw [hc] at h1; cases h1
  · rw [hc] at h2; cases h2
theorem S_nil : S [] = ⟨#[]⟩ := rfl
set_option maxRecDepth 20000 in
set_option maxHeartbeats 8000000 in
theorem implOldFrom_c {w : World} {v : Value} {xs : List Int} (hm : ML w) (h : IntS w v xs) (hlen : xs.length ≤ 1048576) :
    Calls Tryz.prog 39 #[v] w (OldPost (sizeOld xs) w) := by
  obtain ⟨pp, cap, rfl, _, _⟩ := h.form
  have hg0 := gr_alloc w (.cells #[.int .i64 0, .int .i64 0, .slice none 0 0, .string ⟨#[]⟩, .int .i64 0, .string ⟨#[]⟩] 39)
  have hB0 := heap_alloc_new w (.cells #[.int .i64 0, .int .i64 0, .slice none 0 0, .string ⟨#[]⟩, .int .i64 0, .string ⟨#[]⟩] 39)
  have hz0 : (w.alloc (.cells #[.int .i64 0, .int .i64 0, .slice none 0 0, .string ⟨#[]⟩, .int .i64 0, .string ⟨#[]⟩] 39)).heap.size = w.heap.size + 1 := by simp
  have E1 : Hid ((oS1 xs).byte = (oC xs, oS2 xs)) := rfl
  have E2 : Hid ((oS2 xs).number 2 = (oP xs, oS3 xs)) := rfl
  have E3 : Hid ((oS3 xs).take 4 = (oQ xs, oS4 xs)) := rfl
  have E4 : Hid (Rs.until (xs.length + 1) (oS4 xs) = (oU xs, oS5 xs)) := rfl
  have E5 : Hid (Rs.until (xs.length + 1) (oS5 xs) = (oM xs, oS6 xs)) := rfl
  have x4 := oS4_xs xs
  have x5 := oS5_xs xs
  have HN5 := Lib.hid (@oldI_name xs)
  have HQ5 := Lib.hid (@oldI_quad xs)
  have hql : (oQ xs).length = 4 := Rs.take_len 4
  have HQL := Lib.hid hql
  have X4 := Lib.hid x4
  have X5 := Lib.hid x5
  clear hql x4 x5
  go_enter Tryz.func39, Tryz.ntmps39
  go_wp2_with fail
  (with_reducible refine (newReader_c (h.kept hg0) (by omega)).mono ?_); rintro e w1 ⟨g, rfl, hge, hr1, gr1⟩
  rw [hz0] at hge
  have HB1 := Lib.hid (gr1.blk hB0)
  have hG1 := hg0.trans gr1
  have hlt1 := hr1.lt
  have hBg : w.heap.size ≠ g := by omega
  clear hB0 hz0
  go_wp2_with fail
  (with_reducible refine (expect_c (hr1.kept (gr_alloc _ _)) (IntO.one _) hlt1 (by decide)).mono ?_); rintro e w2 ⟨rfl, hr2, hd2⟩
  replace hr2 : RdrAt w2 g (oS1 xs) := hr2
  have HB2 := Lib.hid (hd2.blk ((gr_alloc _ _).blk HB1.out) hBg)
  have hG2 : Gr w w2 := hd2.gr (hG1.alloc _) (by omega)
  clear hr1 gr1 hd2
  go_wp2_with fail
  (with_reducible refine (byteE hr2 E1).mono ?_); rintro e w3 ⟨rfl, hr3, hd3⟩
  have HB3 := Lib.hid (hd3.blk HB2.out hBg)
  have hG3 : Gr w w3 := hd3.gr hG2 (by omega)
  have hlt3 := hr3.lt
  clear hr2 hd3 E1
  generalize oC xs = c at *
  have gA := gr_alloc w3 (.cells #[.int .i64 c, .int .i64 0, .slice none 0 0, .string ⟨#[]⟩, .int .i64 0, .string ⟨#[]⟩] 39)
  have hA := heap_alloc_new w3 (.cells #[.int .i64 c, .int .i64 0, .slice none 0 0, .string ⟨#[]⟩, .int .i64 0, .string ⟨#[]⟩] 39)
  have hnum := numberR_c (hr3.kept gA) 2 2 rfl (by omega)
  rw [E2.out] at hnum
  have hbg : w3.heap.size ≠ g := by omega
  go_wp2_with fail
  (with_reducible refine hnum.mono ?_); rintro e w5 ⟨rfl, hr5, hd5⟩
  have HB5 := Lib.hid (hd5.blk (gA.blk HB3.out) hBg)
  have HC5 := Lib.hid (hd5.blk hA hbg)
  have hG5 : Gr w w5 := hd5.gr (hG3.trans gA) (by omega)
  have hz5 : w3.heap.size + 1 ≤ w5.heap.size := by have := hd5.sz; simp at this; omega
  clear hnum hr3 hd5 gA hA E2
  generalize oP xs = p at *
  go_wp2_with fail
  (with_reducible refine (takeN hr5 E3 4 rfl (by omega)).mono ?_); rintro e w6 ⟨q, cq, rfl, o6, hr6, hd6⟩
  have HB6 := Lib.hid (hd6.blk HB5.out hBg)
  have HC6 := Lib.hid (hd6.blk HC5.out hbg)
  have hG6 : Gr w w6 := hd6.gr hG5 (by omega)
  have hlt6 := hr6.lt
  have hz6 := hd6.sz
  have o6b := o6.b
  clear hr5 hd6 E3 o6
  have U := until_c hr6 (by rw [X4.out]; omega) E4
  rw [X4.out] at U
  go_wp2_with fail
  (with_reducible refine U.mono ?_); rintro e w7 ⟨rfl, hr7, hd7, hul⟩
  have HB7 := Lib.hid (hd7.blk HB6.out hBg)
  have HC7 := Lib.hid (hd7.blk HC6.out hbg)
  have hG7 : Gr w w7 := hd7.gr hG6 (by omega)
  have hgz : g < w5.heap.size := by omega
  have o7b := o6b.keptD hd7 hgz
  have hz7 := hd7.sz
  clear hr6 hd7 E4 U o6b
  have hus : (bt (oU xs)).length ≤ 1048576 := by rw [bt_len]; omega
  have x0 := blk_cell HC7.out (j := 0) rfl
  have x1 := blk_cell HC7.out (j := 1) rfl
  have x2 := blk_cell HC7.out (j := 2) rfl
  have x3 := blk_cell HC7.out (j := 3) rfl
  have x4 := blk_cell HC7.out (j := 4) rfl
  have x5 := blk_cell HC7.out (j := 5) rfl
  have f0 := blk_frozen HC7.out 0
  have f1 := blk_frozen HC7.out 1
  have f2 := blk_frozen HC7.out 2
  have f3 := blk_frozen HC7.out 3
  have f4 := blk_frozen HC7.out 4
  have f5 := blk_frozen HC7.out 5
  go_upto_region 7 with fail
  have HC8 := Lib.hid (put6_blk' HC7.out (.int .i64 1) (.slice q (oQ xs).length cq) (.string ⟨#[]⟩) (.int .i64 p) (.string (S (bt (oU xs)))))
  have ch := put5_chg w7 w3.heap.size (.int .i64 1) (.slice q (oQ xs).length cq) (.string ⟨#[]⟩) (.int .i64 p) (.string (S (bt (oU xs))))
  have HB8 := Lib.hid ((ch.block w.heap.size (.inl (by have := hG3.sz; have := hr7.lt; omega))).trans HB7.out)
  have hG8 : Gr w _ := ch.gr hG7 (by have := hG3.sz; omega)
  have hr8 := hr7.keptB ch.below hlt3
  have o8b := o7b.chg ch (.inr hz5)
  generalize ((((w7.setCell ⟨w3.heap.size, 5, none⟩ (.string (S (bt (oU xs))))).setCell ⟨w3.heap.size, 1, none⟩ (.int .i64 1)).setCell ⟨w3.heap.size, 2, none⟩ (.slice q (oQ xs).length cq)).setCell ⟨w3.heap.size, 3, none⟩ (.string ⟨#[]⟩)).setCell ⟨w3.heap.size, 4, none⟩ (.int .i64 p) = w8 at *
  have hz8 : w7.heap.size ≤ w8.heap.size := by rw [ch.size]; exact Nat.le_refl _
  have EQ := Equal_c (w := w8.alloc (.cells #[.int .i64 0, .int .i64 0, .int .i64 0, .int .i64 1] 3)) (o8b.s.kept (gr_alloc _ _)) (IntO.l4 rfl).s
  clear x0 x1 x2 x3 x4 x5 f0 f1 f2 f3 f4 f5 ch o7b hr7
  by_cases hq : oQ xs = [0, 0, 0, 1]
  · have hq' : (oQ xs == [0, 0, 0, 1]) = true := by rw [hq]; rfl
    obtain ⟨HF', HY'⟩ := HN5.out hq
    have HF := Lib.hid HF'
    have HY := Lib.hid HY'
    rw [hq'] at EQ
    have EQH := Lib.hid EQ
    have U := fun (W : World) (hr : RdrAt W g (oS5 xs)) => until_c hr (by rw [X5.out]; omega) E5
    rw [X5.out] at U
    have UH := Lib.hid U
    clear hq hq' EQ HF' HY' U HN5 HQ5
    (go_wp2_with fail); (with_reducible refine EQH.out.mono ?_); rintro e w9 ⟨rfl, g9'⟩
    have g9 := (gr_alloc w8 (.cells #[.int .i64 0, .int .i64 0, .int .i64 0, .int .i64 1] 3)).trans g9'
    have HB9 := Lib.hid (g9.blk HB8.out)
    have HC9 := Lib.hid (g9.blk HC8.out)
    have hG9 := hG8.trans g9
    have hr9 := hr8.kept g9
    (go_wp2_with fail); (with_reducible refine (UH.out _ hr9).mono ?_); rintro e w10 ⟨rfl, hr10, hd10, hml⟩
    have hms : (bt (oM xs)).length ≤ 1048576 := by rw [bt_len]; omega
    have HB10 := Lib.hid (hd10.blk HB9.out hBg)
    have HC10 := Lib.hid (hd10.blk HC9.out hbg)
    have hG10 : Gr w w10 := hd10.gr hG9 (by omega)
    clear hr8 hr9 hd10 HB9 HC9 hG9 g9 g9' EQH UH HB8 HC8 hG8 o8b
    have x0 := blk_cell HC10.out (j := 0) rfl
    have x1 := blk_cell HC10.out (j := 1) rfl
    have x2 := blk_cell HC10.out (j := 2) rfl
    have x3 := blk_cell HC10.out (j := 3) rfl
    have x4 := blk_cell HC10.out (j := 4) rfl
    have x5 := blk_cell HC10.out (j := 5) rfl
    have f0 := blk_frozen HC10.out 0
    have f1 := blk_frozen HC10.out 1
    have f2 := blk_frozen HC10.out 2
    have f3 := blk_frozen HC10.out 3
    have f4 := blk_frozen HC10.out 4
    have f5 := blk_frozen HC10.out 5
    go_upto_region 9 with fail
    have HC11 := Lib.hid (put4o_blk HC10.out (.int .i64 3) (.slice none 0 0) (.string (S (bt (oM xs)))) (.int .i64 p))
    have ch := put4o_chg w10 w3.heap.size (.int .i64 3) (.slice none 0 0) (.string (S (bt (oM xs)))) (.int .i64 p)
    have HB11 := Lib.hid ((ch.block w.heap.size (.inl (by have := hG3.sz; omega))).trans HB10.out)
    have hG11 : Gr w _ := ch.gr hG10 (by have := hG3.sz; omega)
    have hr11 := hr10.keptB ch.below hlt3
    generalize (((w10.setCell ⟨w3.heap.size, 1, none⟩ (.int .i64 3)).setCell ⟨w3.heap.size, 2, none⟩ (.slice none 0 0)).setCell ⟨w3.heap.size, 3, none⟩ (.string (S (bt (oM xs))))).setCell ⟨w3.heap.size, 4, none⟩ (.int .i64 p) = w11 at *
    clear x0 x1 x2 x3 x4 x5 f0 f1 f2 f3 f4 f5 ch hr10 HB10 HC10 hG10 E5
    have hqs : IntS w11 (.slice none 0 0) [] := (IntO.nil w11.heap.size 3 w11).s
    generalize oS6 xs = st at *
    have k1 := RdrAt.c1 hr11
    have k2 := RdrAt.c2 hr11
    cases hbad : st.bad
    rotate_left
    · have HN := Lib.hid (HF.out (.inl hbad))
      rw [hbad] at k2
      clear hbad HF HY
      have x0 := blk_cell HB11.out (j := 0) rfl
      have x1 := blk_cell HB11.out (j := 1) rfl
      have x2 := blk_cell HB11.out (j := 2) rfl
      have x3 := blk_cell HB11.out (j := 3) rfl
      have x4 := blk_cell HB11.out (j := 4) rfl
      have x5 := blk_cell HB11.out (j := 5) rfl
      have f0 := blk_frozen HB11.out 0
      have f1 := blk_frozen HB11.out 1
      have f2 := blk_frozen HB11.out 2
      have f3 := blk_frozen HB11.out 3
      have f4 := blk_frozen HB11.out 4
      have f5 := blk_frozen HB11.out 5
      go_wp2
      change bodyPost _ _ _ _ _ (put6 w11 w.heap.size (.int .i64 0) (.int .i64 0) (.slice none 0 0) (.string ⟨#[]⟩) (.int .i64 0) (.string ⟨#[]⟩))
      have hW := put6_blk HB11.out (.int .i64 0) (.int .i64 0) (.slice none 0 0) (.string ⟨#[]⟩) (.int .i64 0) (.string ⟨#[]⟩)
      have cW := put6_chg w11 w.heap.size (.int .i64 0) (.int .i64 0) (.slice none 0 0) (.string ⟨#[]⟩) (.int .i64 0) (.string ⟨#[]⟩)
      generalize put6 w11 w.heap.size (.int .i64 0) (.int .i64 0) (.slice none 0 0) (.string ⟨#[]⟩) (.int .i64 0) (.string ⟨#[]⟩) = wz at *
      have y0 := blk_cell hW (j := 0) rfl
      have y1 := blk_cell hW (j := 1) rfl
      have y2 := blk_cell hW (j := 2) rfl
      have y3 := blk_cell hW (j := 3) rfl
      have y4 := blk_cell hW (j := 4) rfl
      have y5 := blk_cell hW (j := 5) rfl
      exact bodyPost_ret (v := .tuple #[.agg #[.int .i64 0, .int .i64 0, .slice none 0 0, .string ⟨#[]⟩, .int .i64 0, .string ⟨#[]⟩], .int .i64 0, .bool false]) (by simp [results, Tryz.results39, go_sem, y0, y1, y2, y3, y4, y5]) rfl (OldPost.no HN.out (cW.gr hG11 (Nat.le_refl _)))
    cases hok : oldOk ⟨c, ⟨3, [], (bt (oM xs)), p⟩, (bt (oU xs))⟩
    · have HN := Lib.hid (HF.out (.inr hok))
      have hIsO := isOld_c (w := w11) (hm.kept hG11) c 3 p (S (bt (oM xs))) (S (bt (oU xs))) (q := (.slice none 0 0)) (xs := []) hqs (by rw [S_len]; first | omega | simp) (by rw [S_len]; omega)
      rw [tx_S, tx_S, hok] at hIsO
      have IOH := Lib.hid hIsO
      rw [hbad] at k2
      clear hbad HF HY hok hIsO
      have s0 := blk_cell HC11.out (j := 0) rfl
      have s1 := blk_cell HC11.out (j := 1) rfl
      have s2 := blk_cell HC11.out (j := 2) rfl
      have s3 := blk_cell HC11.out (j := 3) rfl
      have s4 := blk_cell HC11.out (j := 4) rfl
      have s5 := blk_cell HC11.out (j := 5) rfl
      go_wp2_with fail
      (with_reducible refine IOH.out.mono ?_); rintro e w9 ⟨rfl, g9⟩
      have HB9 := Lib.hid (g9.blk HB11.out)
      have G9 := Gr.trans hG11 g9
      clear s0 s1 s2 s3 s4 s5 k1 k2
      have x0 := blk_cell HB9.out (j := 0) rfl
      have x1 := blk_cell HB9.out (j := 1) rfl
      have x2 := blk_cell HB9.out (j := 2) rfl
      have x3 := blk_cell HB9.out (j := 3) rfl
      have x4 := blk_cell HB9.out (j := 4) rfl
      have x5 := blk_cell HB9.out (j := 5) rfl
      have f0 := blk_frozen HB9.out 0
      have f1 := blk_frozen HB9.out 1
      have f2 := blk_frozen HB9.out 2
      have f3 := blk_frozen HB9.out 3
      have f4 := blk_frozen HB9.out 4
      have f5 := blk_frozen HB9.out 5
      go_wp2
      change bodyPost _ _ _ _ _ (put6 w9 w.heap.size (.int .i64 0) (.int .i64 0) (.slice none 0 0) (.string ⟨#[]⟩) (.int .i64 0) (.string ⟨#[]⟩))
      have hW := put6_blk HB9.out (.int .i64 0) (.int .i64 0) (.slice none 0 0) (.string ⟨#[]⟩) (.int .i64 0) (.string ⟨#[]⟩)
      have cW := put6_chg w9 w.heap.size (.int .i64 0) (.int .i64 0) (.slice none 0 0) (.string ⟨#[]⟩) (.int .i64 0) (.string ⟨#[]⟩)
      generalize put6 w9 w.heap.size (.int .i64 0) (.int .i64 0) (.slice none 0 0) (.string ⟨#[]⟩) (.int .i64 0) (.string ⟨#[]⟩) = wz at *
      have y0 := blk_cell hW (j := 0) rfl
      have y1 := blk_cell hW (j := 1) rfl
      have y2 := blk_cell hW (j := 2) rfl
      have y3 := blk_cell hW (j := 3) rfl
      have y4 := blk_cell hW (j := 4) rfl
      have y5 := blk_cell hW (j := 5) rfl
      exact bodyPost_ret (v := .tuple #[.agg #[.int .i64 0, .int .i64 0, .slice none 0 0, .string ⟨#[]⟩, .int .i64 0, .string ⟨#[]⟩], .int .i64 0, .bool false]) (by simp [results, Tryz.results39, go_sem, y0, y1, y2, y3, y4, y5]) rfl (OldPost.no HN.out (cW.gr G9 (Nat.le_refl _)))
    · have HS := Lib.hid (HY.out hbad hok)
      have hIsO := isOld_c (w := w11) (hm.kept hG11) c 3 p (S (bt (oM xs))) (S (bt (oU xs))) (q := (.slice none 0 0)) (xs := []) hqs (by rw [S_len]; first | omega | simp) (by rw [S_len]; omega)
      rw [tx_S, tx_S, hok] at hIsO
      have IOH := Lib.hid hIsO
      rw [hbad] at k2
      clear hbad HF HY hok hIsO
      have s0 := blk_cell HC11.out (j := 0) rfl
      have s1 := blk_cell HC11.out (j := 1) rfl
      have s2 := blk_cell HC11.out (j := 2) rfl
      have s3 := blk_cell HC11.out (j := 3) rfl
      have s4 := blk_cell HC11.out (j := 4) rfl
      have s5 := blk_cell HC11.out (j := 5) rfl
      go_wp2_with fail
      (with_reducible refine IOH.out.mono ?_); rintro e w9 ⟨rfl, g9⟩
      have HB9 := Lib.hid (g9.blk HB11.out)
      have HC9 := Lib.hid (g9.blk HC11.out)
      have G9 := Gr.trans hG11 g9
      have k1' := g9.cell k1
      generalize st.pos = m at *
      clear s0 s1 s2 s3 s4 s5 k1 k2
      have s0 := blk_cell HC9.out (j := 0) rfl
      have s1 := blk_cell HC9.out (j := 1) rfl
      have s2 := blk_cell HC9.out (j := 2) rfl
      have s3 := blk_cell HC9.out (j := 3) rfl
      have s4 := blk_cell HC9.out (j := 4) rfl
      have s5 := blk_cell HC9.out (j := 5) rfl
      have x0 := blk_cell HB9.out (j := 0) rfl
      have x1 := blk_cell HB9.out (j := 1) rfl
      have x2 := blk_cell HB9.out (j := 2) rfl
      have x3 := blk_cell HB9.out (j := 3) rfl
      have x4 := blk_cell HB9.out (j := 4) rfl
      have x5 := blk_cell HB9.out (j := 5) rfl
      have f0 := blk_frozen HB9.out 0
      have f1 := blk_frozen HB9.out 1
      have f2 := blk_frozen HB9.out 2
      have f3 := blk_frozen HB9.out 3
      have f4 := blk_frozen HB9.out 4
      have f5 := blk_frozen HB9.out 5
      go_upto_region 11 with fail
      go_cut [3, 4] (fun b c' wx => b = .int .i64 (m : Int) ∧ c' = .bool true ∧ wx = World.drew (put6 w9 w.heap.size (.int .i64 c) (.int .i64 3) (.slice none 0 0) (.string (S (bt (oM xs)))) (.int .i64 p) (.string (S (bt (oU xs))))))
      case first =>
        go_region_with (fail)
        all_goals
          go_wp2_with fail
          go_meet
          exact ⟨rfl, rfl, rfl⟩
      case rest =>
        obtain ⟨rfl, rfl, rfl⟩ := hcut
        clear x0 x1 x2 x3 x4 x5 f0 f1 f2 f3 f4 f5 s0 s1 s2 s3 s4 s5 k1'
        go_wp2
        have hW := put6_blk HB9.out (.int .i64 c) (.int .i64 3) (.slice none 0 0) (.string (S (bt (oM xs)))) (.int .i64 p) (.string (S (bt (oU xs))))
        have cW := put6_chg w9 w.heap.size (.int .i64 c) (.int .i64 3) (.slice none 0 0) (.string (S (bt (oM xs)))) (.int .i64 p) (.string (S (bt (oU xs))))
        generalize put6 w9 w.heap.size (.int .i64 c) (.int .i64 3) (.slice none 0 0) (.string (S (bt (oM xs)))) (.int .i64 p) (.string (S (bt (oU xs)))) = wz at *
        have y0 := blk_cell hW (j := 0) rfl
        have y1 := blk_cell hW (j := 1) rfl
        have y2 := blk_cell hW (j := 2) rfl
        have y3 := blk_cell hW (j := 3) rfl
        have y4 := blk_cell hW (j := 4) rfl
        have y5 := blk_cell hW (j := 5) rfl
        exact bodyPost_ret (v := .tuple #[.agg #[.int .i64 c, .int .i64 3, (.slice none 0 0), .string (S (bt (oM xs))), .int .i64 p, .string (S (bt (oU xs)))], .int .i64 (m : Int), .bool true]) (by simp [results, Tryz.results39, go_sem, y0, y1, y2, y3, y4, y5]) rfl (OldPost.yes HS.out rfl ((cW.gr G9 (Nat.le_refl _)).drew))
  · have hq' : (oQ xs == [0, 0, 0, 1]) = false := beq_eq_false_iff_ne.2 hq
    obtain ⟨HF', HY'⟩ := HQ5.out hq
    have HF := Lib.hid HF'
    have HY := Lib.hid HY'
    rw [hq'] at EQ
    have EQH := Lib.hid EQ
    clear hq hq' EQ HF' HY' HN5 HQ5 E5 X5
    (go_wp2_with fail); (with_reducible refine EQH.out.mono ?_); rintro e w9 ⟨rfl, g9'⟩
    have g9 := (gr_alloc w8 (.cells #[.int .i64 0, .int .i64 0, .int .i64 0, .int .i64 1] 3)).trans g9'
    have HB9 := Lib.hid (g9.blk HB8.out)
    have hC9 : w9.heap[w3.heap.size]? = some (.cells #[.int .i64 c, .int .i64 1, .slice q (oQ xs).length cq, .string (S []), .int .i64 p, .string (S (bt (oU xs)))] 39 (0, 0)) := g9.blk HC8.out
    have HC9 := Lib.hid hC9
    have hG9 := hG8.trans g9
    have hr9 := hr8.kept g9
    have hqs := (o8b.kept g9).s
    clear hr8 g9 g9' EQH HB8 HC8 hG8 o8b hC9
    generalize oQ xs = qs at *
    generalize oS5 xs = st at *
    have k1 := RdrAt.c1 hr9
    have k2 := RdrAt.c2 hr9
    cases hbad : st.bad
    rotate_left
    · have HN := Lib.hid (HF.out (.inl hbad))
      rw [hbad] at k2
      clear hbad HF HY
      have x0 := blk_cell HB9.out (j := 0) rfl
      have x1 := blk_cell HB9.out (j := 1) rfl
      have x2 := blk_cell HB9.out (j := 2) rfl
      have x3 := blk_cell HB9.out (j := 3) rfl
      have x4 := blk_cell HB9.out (j := 4) rfl
      have x5 := blk_cell HB9.out (j := 5) rfl
      have f0 := blk_frozen HB9.out 0
      have f1 := blk_frozen HB9.out 1
      have f2 := blk_frozen HB9.out 2
      have f3 := blk_frozen HB9.out 3
      have f4 := blk_frozen HB9.out 4
      have f5 := blk_frozen HB9.out 5
      go_wp2
      change bodyPost _ _ _ _ _ (put6 w9 w.heap.size (.int .i64 0) (.int .i64 0) (.slice none 0 0) (.string ⟨#[]⟩) (.int .i64 0) (.string ⟨#[]⟩))
      have hW := put6_blk HB9.out (.int .i64 0) (.int .i64 0) (.slice none 0 0) (.string ⟨#[]⟩) (.int .i64 0) (.string ⟨#[]⟩)
      have cW := put6_chg w9 w.heap.size (.int .i64 0) (.int .i64 0) (.slice none 0 0) (.string ⟨#[]⟩) (.int .i64 0) (.string ⟨#[]⟩)
      generalize put6 w9 w.heap.size (.int .i64 0) (.int .i64 0) (.slice none 0 0) (.string ⟨#[]⟩) (.int .i64 0) (.string ⟨#[]⟩) = wz at *
      have y0 := blk_cell hW (j := 0) rfl
      have y1 := blk_cell hW (j := 1) rfl
      have y2 := blk_cell hW (j := 2) rfl
      have y3 := blk_cell hW (j := 3) rfl
      have y4 := blk_cell hW (j := 4) rfl
      have y5 := blk_cell hW (j := 5) rfl
      exact bodyPost_ret (v := .tuple #[.agg #[.int .i64 0, .int .i64 0, .slice none 0 0, .string ⟨#[]⟩, .int .i64 0, .string ⟨#[]⟩], .int .i64 0, .bool false]) (by simp [results, Tryz.results39, go_sem, y0, y1, y2, y3, y4, y5]) rfl (OldPost.no HN.out (cW.gr hG9 (Nat.le_refl _)))
    cases hok : oldOk ⟨c, ⟨1, qs, [], p⟩, (bt (oU xs))⟩
    · have HN := Lib.hid (HF.out (.inr hok))
      have hIsO := isOld_c (w := w9) (hm.kept hG9) c 1 p (S []) (S (bt (oU xs))) (q := (.slice q qs.length cq)) (xs := qs) hqs (by rw [S_len]; first | omega | simp) (by rw [S_len]; omega)
      rw [tx_S, tx_S, hok] at hIsO
      have IOH := Lib.hid hIsO
      rw [hbad] at k2
      clear hbad HF HY hok hIsO
      have s0 := blk_cell HC9.out (j := 0) rfl
      have s1 := blk_cell HC9.out (j := 1) rfl
      have s2 := blk_cell HC9.out (j := 2) rfl
      have s3 := blk_cell HC9.out (j := 3) rfl
      have s4 := blk_cell HC9.out (j := 4) rfl
      have s5 := blk_cell HC9.out (j := 5) rfl
      go_wp2_with fail
      (with_reducible refine IOH.out.mono ?_); rintro e w9 ⟨rfl, g9⟩
      have HB9 := Lib.hid (g9.blk HB9.out)
      have G9 := Gr.trans hG9 g9
      clear s0 s1 s2 s3 s4 s5 k1 k2
      have x0 := blk_cell HB9.out (j := 0) rfl
      have x1 := blk_cell HB9.out (j := 1) rfl
      have x2 := blk_cell HB9.out (j := 2) rfl
      have x3 := blk_cell HB9.out (j := 3) rfl
      have x4 := blk_cell HB9.out (j := 4) rfl
      have x5 := blk_cell HB9.out (j := 5) rfl
      have f0 := blk_frozen HB9.out 0
      have f1 := blk_frozen HB9.out 1
      have f2 := blk_frozen HB9.out 2
      have f3 := blk_frozen HB9.out 3
      have f4 := blk_frozen HB9.out 4
      have f5 := blk_frozen HB9.out 5
      go_wp2
      change bodyPost _ _ _ _ _ (put6 w9 w.heap.size (.int .i64 0) (.int .i64 0) (.slice none 0 0) (.string ⟨#[]⟩) (.int .i64 0) (.string ⟨#[]⟩))
      have hW := put6_blk HB9.out (.int .i64 0) (.int .i64 0) (.slice none 0 0) (.string ⟨#[]⟩) (.int .i64 0) (.string ⟨#[]⟩)
      have cW := put6_chg w9 w.heap.size (.int .i64 0) (.int .i64 0) (.slice none 0 0) (.string ⟨#[]⟩) (.int .i64 0) (.string ⟨#[]⟩)
      generalize put6 w9 w.heap.size (.int .i64 0) (.int .i64 0) (.slice none 0 0) (.string ⟨#[]⟩) (.int .i64 0) (.string ⟨#[]⟩) = wz at *
      have y0 := blk_cell hW (j := 0) rfl
      have y1 := blk_cell hW (j := 1) rfl
      have y2 := blk_cell hW (j := 2) rfl
      have y3 := blk_cell hW (j := 3) rfl
      have y4 := blk_cell hW (j := 4) rfl
      have y5 := blk_cell hW (j := 5) rfl
      exact bodyPost_ret (v := .tuple #[.agg #[.int .i64 0, .int .i64 0, .slice none 0 0, .string ⟨#[]⟩, .int .i64 0, .string ⟨#[]⟩], .int .i64 0, .bool false]) (by simp [results, Tryz.results39, go_sem, y0, y1, y2, y3, y4, y5]) rfl (OldPost.no HN.out (cW.gr G9 (Nat.le_refl _)))
    · have HS := Lib.hid (HY.out hbad hok)
      have hIsO := isOld_c (w := w9) (hm.kept hG9) c 1 p (S []) (S (bt (oU xs))) (q := (.slice q qs.length cq)) (xs := qs) hqs (by rw [S_len]; first | omega | simp) (by rw [S_len]; omega)
      rw [tx_S, tx_S, hok] at hIsO
      have IOH := Lib.hid hIsO
      rw [hbad] at k2
      clear hbad HF HY hok hIsO
      have s0 := blk_cell HC9.out (j := 0) rfl
      have s1 := blk_cell HC9.out (j := 1) rfl
      have s2 := blk_cell HC9.out (j := 2) rfl
      have s3 := blk_cell HC9.out (j := 3) rfl
      have s4 := blk_cell HC9.out (j := 4) rfl
      have s5 := blk_cell HC9.out (j := 5) rfl
      go_wp2_with fail
      (with_reducible refine IOH.out.mono ?_); rintro e w9 ⟨rfl, g9⟩
      have HB9 := Lib.hid (g9.blk HB9.out)
      have HC9 := Lib.hid (g9.blk HC9.out)
      have G9 := Gr.trans hG9 g9
      have k1' := g9.cell k1
      generalize st.pos = m at *
      clear s0 s1 s2 s3 s4 s5 k1 k2
      have s0 := blk_cell HC9.out (j := 0) rfl
      have s1 := blk_cell HC9.out (j := 1) rfl
      have s2 := blk_cell HC9.out (j := 2) rfl
      have s3 := blk_cell HC9.out (j := 3) rfl
      have s4 := blk_cell HC9.out (j := 4) rfl
      have s5 := blk_cell HC9.out (j := 5) rfl
      have x0 := blk_cell HB9.out (j := 0) rfl
      have x1 := blk_cell HB9.out (j := 1) rfl
      have x2 := blk_cell HB9.out (j := 2) rfl
      have x3 := blk_cell HB9.out (j := 3) rfl
      have x4 := blk_cell HB9.out (j := 4) rfl
      have x5 := blk_cell HB9.out (j := 5) rfl
      have f0 := blk_frozen HB9.out 0
      have f1 := blk_frozen HB9.out 1
      have f2 := blk_frozen HB9.out 2
      have f3 := blk_frozen HB9.out 3
      have f4 := blk_frozen HB9.out 4
      have f5 := blk_frozen HB9.out 5
      go_upto_region 11 with fail
      go_cut [3, 4] (fun b c' wx => b = .int .i64 (m : Int) ∧ c' = .bool true ∧ wx = World.drew (put6 w9 w.heap.size (.int .i64 c) (.int .i64 1) (.slice q qs.length cq) (.string (S [])) (.int .i64 p) (.string (S (bt (oU xs))))))
      case first =>
        go_region_with (fail)
        all_goals
          go_wp2_with fail
          go_meet
          exact ⟨rfl, rfl, rfl⟩
      case rest =>
        obtain ⟨rfl, rfl, rfl⟩ := hcut
        clear x0 x1 x2 x3 x4 x5 f0 f1 f2 f3 f4 f5 s0 s1 s2 s3 s4 s5 k1'
        go_wp2
        have hW := put6_blk HB9.out (.int .i64 c) (.int .i64 1) (.slice q qs.length cq) (.string (S [])) (.int .i64 p) (.string (S (bt (oU xs))))
        have cW := put6_chg w9 w.heap.size (.int .i64 c) (.int .i64 1) (.slice q qs.length cq) (.string (S [])) (.int .i64 p) (.string (S (bt (oU xs))))
        generalize put6 w9 w.heap.size (.int .i64 c) (.int .i64 1) (.slice q qs.length cq) (.string (S [])) (.int .i64 p) (.string (S (bt (oU xs)))) = wz at *
        have y0 := blk_cell hW (j := 0) rfl
        have y1 := blk_cell hW (j := 1) rfl
        have y2 := blk_cell hW (j := 2) rfl
        have y3 := blk_cell hW (j := 3) rfl
        have y4 := blk_cell hW (j := 4) rfl
        have y5 := blk_cell hW (j := 5) rfl
        exact bodyPost_ret (v := .tuple #[.agg #[.int .i64 c, .int .i64 1, (.slice q qs.length cq), .string (S []), .int .i64 p, .string (S (bt (oU xs)))], .int .i64 (m : Int), .bool true]) (by simp [results, Tryz.results39, go_sem, y0, y1, y2, y3, y4, y5]) rfl (OldPost.yes HS.out rfl ((cW.gr G9 (Nat.le_refl _)).drew))
end Go.Proofs.YtdbepkcpdglppaaGreatDoor
