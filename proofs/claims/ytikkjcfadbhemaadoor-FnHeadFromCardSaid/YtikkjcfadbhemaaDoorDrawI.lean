/- Draws of pairs and heads: two more. -/
import Derived.Test.YtikkjcfadbhemaaDoorDrawH
namespace Go.Proofs.YtikkjcfadbhemaaDoor
open Go.RowKit
set_option maxRecDepth 20000 in
set_option maxHeartbeats 4000000 in
theorem DrawPairValid_c {w : World} {v : Value} {bs : List Int} (h : ByteS w v bs) :
    Calls Tryd.prog 16 #[v] w (PairOut w) := by
  obtain ⟨p, cap, rfl, _, _⟩ := h.form
  have gA := gr_alloc w (.cells #[.int .i64 0, .slice none 0 0, .string ⟨#[]⟩, .int .i64 0, .int .i64 0, .slice none 0 0, .string ⟨#[]⟩, .int .i64 0] 27)
  have hA := heap_alloc_new w (.cells #[.int .i64 0, .slice none 0 0, .string ⟨#[]⟩, .int .i64 0, .int .i64 0, .slice none 0 0, .string ⟨#[]⟩, .int .i64 0] 27)
  have zA : (w.alloc (.cells #[.int .i64 0, .slice none 0 0, .string ⟨#[]⟩, .int .i64 0, .int .i64 0, .slice none 0 0, .string ⟨#[]⟩, .int .i64 0] 27)).heap.size = w.heap.size + 1 := by simp
  have O := l6Open_c (h.kept gA)
  rw [zA] at O
  have HO := Lib.hid O
  clear O
  go_enter Tryd.func16, Tryd.ntmps16
  go_wp2_with fail
  (with_reducible refine (HO.out).mono ?_); rintro e w1 ⟨rfl, hr1, g1⟩
  have hz1 := g1.sz
  rw [zA] at hz1
  have hlt1 := hr1.lt
  have HG1 := Lib.hid (gA.trans g1)
  have HB1 := Lib.hid (g1.blk hA)
  clear g1 hA zA gA HO
  go_wp2_with fail
  (with_reducible refine (pick_c hr1 (by omega) _ (by omega) (by omega)).mono ?_); rintro e w0 ⟨c, rfl, hc0, hc1, hr0, hd0⟩
  have hz0 := hd0.sz
  have HB0 := Lib.hid (hd0.blk HB1.out (by omega))
  have HG0 := Lib.hid (hd0.gr HG1.out (by omega))
  clear hd0 HB1 HG1 hr1
  by_cases c0 : c = 0
  · subst c0
    go_wp2_with fail
    (with_reducible refine (l91Address_c hr0 (by omega)).mono ?_); rintro e w2 ⟨q, k, p, s, xs, rfl, hxl, hsl, _, _, ho2, hr2, hd2⟩
    obtain ⟨pq, cq, rfl⟩ := ho2.len
    have hz2 := hd2.sz
    have HB2 := Lib.hid (hd2.blk HB0.out (by omega))
    have HG2 := Lib.hid (hd2.gr HG0.out (by omega))
    have b2 := IntO.b ho2
    clear ho2 hd2 HB0 HG0 hr0
    go_wp2_with fail
    have gS := gr_alloc w2 (.cells #[.int .i64 k, .slice pq xs.length cq, .string s, .int .i64 p] 25)
    have hS := heap_alloc_new w2 (.cells #[.int .i64 k, .slice pq xs.length cq, .string s, .int .i64 p] 25)
    have zS : (w2.alloc (.cells #[.int .i64 k, .slice pq xs.length cq, .string s, .int .i64 p] 25)).heap.size = w2.heap.size + 1 := by simp
    generalize w2.alloc (.cells #[.int .i64 k, .slice pq xs.length cq, .string s, .int .i64 p] 25) = w3 at *
    have hr3 := hr2.kept gS
    have HB3 := Lib.hid (gS.blk HB2.out)
    have HS3 := Lib.hid hS
    have HG3 := Lib.hid (HG2.out.trans gS)
    have b3 := b2.kept gS
    have s0 := blk_cell HS3.out (j := 0) rfl
    have s1 := blk_cell HS3.out (j := 1) rfl
    have s2 := blk_cell HS3.out (j := 2) rfl
    have s3 := blk_cell HS3.out (j := 3) rfl
    clear hr2 HB2 HG2 b2 hS gS
    go_region_with (first
      | (go_at_call 49; (with_reducible refine (l91Address_c hr3.drew (by omega)).mono ?_); rintro e w4 ⟨q', k', p', s', ys, rfl, hyl, hsl', _, _, ho4, hr4, hd4'⟩; have hd4 : D (w.heap.size + 1) w3 w4 := (D.ofGr ((Gr.refl w3).drew)).trans hd4'; have ho4' : IntO w3.heap.size 3 w4 q' ys := ho4; obtain ⟨pq', cq', rfl⟩ := ho4'.len; have HB4 := Lib.hid (hd4.blk HB3.out (by omega)); have HS4 := Lib.hid (hd4.blk HS3.out (by omega)); have u0 := blk_cell HS4.out (j := 0) rfl; have u1 := blk_cell HS4.out (j := 1) rfl; have u2 := blk_cell HS4.out (j := 2) rfl; have u3 := blk_cell HS4.out (j := 3) rfl; have x0 := blk_cell HB4.out (j := 0) rfl; have x1 := blk_cell HB4.out (j := 1) rfl; have x2 := blk_cell HB4.out (j := 2) rfl; have x3 := blk_cell HB4.out (j := 3) rfl; have x4 := blk_cell HB4.out (j := 4) rfl; have x5 := blk_cell HB4.out (j := 5) rfl; have x6 := blk_cell HB4.out (j := 6) rfl; have x7 := blk_cell HB4.out (j := 7) rfl; have f0 := blk_frozen HB4.out 0; have f1 := blk_frozen HB4.out 1; have f2 := blk_frozen HB4.out 2; have f3 := blk_frozen HB4.out 3; have f4 := blk_frozen HB4.out 4; have f5 := blk_frozen HB4.out 5; have f6 := blk_frozen HB4.out 6; have f7 := blk_frozen HB4.out 7))
    all_goals
      have hz4 := hd4.sz
      have HG4 := Lib.hid (hd4.gr HG3.out (by omega))
      have b4 := b3.keptD hd4 (by omega)
      have b4' := IntO.b ho4'
      go_wp2
      change bodyPost _ _ _ _ _ (put8 w4 w.heap.size (.int .i64 k) (.slice pq xs.length cq) (.string s) (.int .i64 p) (.int .i64 k') (.slice pq' ys.length cq') (.string s') (.int .i64 p'))
      have hW := put8_blk HB4.out (.int .i64 k) (.slice pq xs.length cq) (.string s) (.int .i64 p) (.int .i64 k') (.slice pq' ys.length cq') (.string s') (.int .i64 p')
      have cW := put8_chg w4 w.heap.size (.int .i64 k) (.slice pq xs.length cq) (.string s) (.int .i64 p) (.int .i64 k') (.slice pq' ys.length cq') (.string s') (.int .i64 p')
      generalize put8 w4 w.heap.size (.int .i64 k) (.slice pq xs.length cq) (.string s) (.int .i64 p) (.int .i64 k') (.slice pq' ys.length cq') (.string s') (.int .i64 p') = wz at *
      have y0 := blk_cell hW (j := 0) rfl
      have y1 := blk_cell hW (j := 1) rfl
      have y2 := blk_cell hW (j := 2) rfl
      have y3 := blk_cell hW (j := 3) rfl
      have y4 := blk_cell hW (j := 4) rfl
      have y5 := blk_cell hW (j := 5) rfl
      have y6 := blk_cell hW (j := 6) rfl
      have y7 := blk_cell hW (j := 7) rfl
      exact bodyPost_ret (v := .agg #[.int .i64 k, .slice pq xs.length cq, .string s, .int .i64 p, .int .i64 k', .slice pq' ys.length cq', .string s', .int .i64 p']) (by simp [results, Tryd.results16, go_sem, y0, y1, y2, y3, y4, y5, y6, y7]) rfl ⟨pq, cq, pq', cq', k, p, k', p', s, s', xs, ys, rfl, hxl, hyl, hsl, hsl', (b4.chg cW (.inr (by omega))).s, (b4'.chg cW (.inr (by omega))).s, cW.gr HG4.out (Nat.le_refl _)⟩
  · have c0' : (c == 0) = false := beq_eq_false_iff_ne.2 c0
    clear c0
    go_wp2_with fail
    (with_reducible refine (l92Pair_c hr0 (by omega)).mono ?_); rintro e w2 ⟨q, q', k, p, k', p', s, s', xs, ys, rfl, hxl, hyl, hsl, hsl', ho2, ho2', hr2, hd2⟩
    obtain ⟨pq, cq, rfl⟩ := ho2.len
    obtain ⟨pq', cq', rfl⟩ := ho2'.len
    have HB2 := Lib.hid (hd2.blk HB0.out (by omega))
    have HG2 := Lib.hid (hd2.gr HG0.out (by omega))
    have b2 := IntO.b ho2
    have b2' := IntO.b ho2'
    clear ho2 ho2' hd2 HB0 HG0 hr2
    have x0 := blk_cell HB2.out (j := 0) rfl
    have x1 := blk_cell HB2.out (j := 1) rfl
    have x2 := blk_cell HB2.out (j := 2) rfl
    have x3 := blk_cell HB2.out (j := 3) rfl
    have x4 := blk_cell HB2.out (j := 4) rfl
    have x5 := blk_cell HB2.out (j := 5) rfl
    have x6 := blk_cell HB2.out (j := 6) rfl
    have x7 := blk_cell HB2.out (j := 7) rfl
    have f0 := blk_frozen HB2.out 0
    have f1 := blk_frozen HB2.out 1
    have f2 := blk_frozen HB2.out 2
    have f3 := blk_frozen HB2.out 3
    have f4 := blk_frozen HB2.out 4
    have f5 := blk_frozen HB2.out 5
    have f6 := blk_frozen HB2.out 6
    have f7 := blk_frozen HB2.out 7
    go_wp2
    change bodyPost _ _ _ _ _ (put8 w2 w.heap.size (.int .i64 k) (.slice pq xs.length cq) (.string s) (.int .i64 p) (.int .i64 k') (.slice pq' ys.length cq') (.string s') (.int .i64 p'))
    have hW := put8_blk HB2.out (.int .i64 k) (.slice pq xs.length cq) (.string s) (.int .i64 p) (.int .i64 k') (.slice pq' ys.length cq') (.string s') (.int .i64 p')
    have cW := put8_chg w2 w.heap.size (.int .i64 k) (.slice pq xs.length cq) (.string s) (.int .i64 p) (.int .i64 k') (.slice pq' ys.length cq') (.string s') (.int .i64 p')
    generalize put8 w2 w.heap.size (.int .i64 k) (.slice pq xs.length cq) (.string s) (.int .i64 p) (.int .i64 k') (.slice pq' ys.length cq') (.string s') (.int .i64 p') = wz at *
    have y0 := blk_cell hW (j := 0) rfl
    have y1 := blk_cell hW (j := 1) rfl
    have y2 := blk_cell hW (j := 2) rfl
    have y3 := blk_cell hW (j := 3) rfl
    have y4 := blk_cell hW (j := 4) rfl
    have y5 := blk_cell hW (j := 5) rfl
    have y6 := blk_cell hW (j := 6) rfl
    have y7 := blk_cell hW (j := 7) rfl
    exact bodyPost_ret (v := .agg #[.int .i64 k, .slice pq xs.length cq, .string s, .int .i64 p, .int .i64 k', .slice pq' ys.length cq', .string s', .int .i64 p']) (by simp [results, Tryd.results16, go_sem, y0, y1, y2, y3, y4, y5, y6, y7]) rfl ⟨pq, cq, pq', cq', k, p, k', p', s, s', xs, ys, rfl, hxl, hyl, hsl, hsl', (b2.chg cW (.inr (by omega))).s, (b2'.chg cW (.inr (by omega))).s, cW.gr HG2.out (Nat.le_refl _)⟩
set_option maxRecDepth 20000 in
set_option maxHeartbeats 4000000 in
theorem DrawHeadFrom_c {w : World} {v : Value} {bs : List Int} (h : ByteS w v bs) :
    Calls Tryd.prog 40 #[v] w fun e w' => ∃ (u : Value) (zs : List Int), e = .returned u ∧ zs.length ≤ 120 ∧ IntO w.heap.size 3 w' u zs ∧ Gr w w' := by
  obtain ⟨p, cap, rfl, _, _⟩ := h.form
  go_enter Tryd.func40, Tryd.ntmps40
  go_wp2_with fail
  (with_reducible refine (l6Open_c h).mono ?_); rintro e w1 ⟨rfl, hr1, g1⟩
  have hz1 := g1.sz
  have hlt1 := hr1.lt
  go_wp2_with fail
  (with_reducible refine (l92Pair_c hr1 (by omega)).mono ?_); rintro e w2 ⟨q, q', k, p, k', p', s, s', xs, ys, rfl, hxl, hyl, hsl, hsl', ho2, ho2', hr2, hd2⟩
  obtain ⟨pq, cq, rfl⟩ := ho2.len
  obtain ⟨pq', cq', rfl⟩ := ho2'.len
  have hz2 := hd2.sz
  have b2 := IntO.b ho2
  have b2' := IntO.b ho2'
  clear ho2 ho2'
  go_wp2_with fail
  have gS := gr_alloc w2 (.cells #[.int .i64 k, .slice pq xs.length cq, .string s, .int .i64 p, .int .i64 k', .slice pq' ys.length cq', .string s', .int .i64 p'] 27)
  have hS := heap_alloc_new w2 (.cells #[.int .i64 k, .slice pq xs.length cq, .string s, .int .i64 p, .int .i64 k', .slice pq' ys.length cq', .string s', .int .i64 p'] 27)
  have zS : (w2.alloc (.cells #[.int .i64 k, .slice pq xs.length cq, .string s, .int .i64 p, .int .i64 k', .slice pq' ys.length cq', .string s', .int .i64 p'] 27)).heap.size = w2.heap.size + 1 := by simp
  generalize w2.alloc (.cells #[.int .i64 k, .slice pq xs.length cq, .string s, .int .i64 p, .int .i64 k', .slice pq' ys.length cq', .string s', .int .i64 p'] 27) = w3 at *
  have hr3 := hr2.kept gS
  have hd3 := hd2.trans (D.ofGr gS)
  have HS3 := Lib.hid hS
  have b3 := b2.kept gS
  have b3' := b2'.kept gS
  have s0 := blk_cell HS3.out (j := 0) rfl
  have s1 := blk_cell HS3.out (j := 1) rfl
  have s2 := blk_cell HS3.out (j := 2) rfl
  have s3 := blk_cell HS3.out (j := 3) rfl
  have s4 := blk_cell HS3.out (j := 4) rfl
  have s5 := blk_cell HS3.out (j := 5) rfl
  have s6 := blk_cell HS3.out (j := 6) rfl
  have s7 := blk_cell HS3.out (j := 7) rfl
  clear hr2 b2 b2' hS gS hd2
  go_region_with (first
    | (go_at_call 56; (with_reducible refine (l92Tags_c hr3.drew (by omega)).mono ?_); rintro e w4 ⟨v4, ts, T, rfl, ht1, ht2, hto, hT, hr4, hd4'⟩; have hd4 : D w.heap.size w3 w4 := (D.ofGr ((Gr.refl w3).drew)).trans hd4'; have HS4 := Lib.hid (hd4.blk HS3.out (by omega)); have u0 := blk_cell HS4.out (j := 0) rfl; have u1 := blk_cell HS4.out (j := 1) rfl; have u2 := blk_cell HS4.out (j := 2) rfl; have u3 := blk_cell HS4.out (j := 3) rfl; have u4 := blk_cell HS4.out (j := 4) rfl; have u5 := blk_cell HS4.out (j := 5) rfl; have u6 := blk_cell HS4.out (j := 6) rfl; have u7 := blk_cell HS4.out (j := 7) rfl; have b4 := b3.keptD hd4 (by omega); have b4' := b3'.keptD hd4 (by omega))
    | (go_at_call 24; (with_reducible refine (specHeadBytes_c k p k' p' s s' b4.s b4'.s (by omega) (by omega) hto.s).mono ?_); rintro e w5 ⟨v5, rfl, o5, g5⟩))
  all_goals
    have hl5 := len_ite (c := headOk ⟨⟨k, xs, tx s, p⟩, ⟨k', ys, tx s', p'⟩⟩ ts) (xs := headBytes ⟨⟨k, xs, tx s, p⟩, ⟨k', ys, tx s', p'⟩⟩ ts) (n := 104) (fun hc => by rw [headBytes_len hc]; have := (headBody_len hc).2; omega)
    generalize (if headOk ⟨⟨k, xs, tx s, p⟩, ⟨k', ys, tx s', p'⟩⟩ ts = true then headBytes ⟨⟨k, xs, tx s, p⟩, ⟨k', ys, tx s', p'⟩⟩ ts else []) = hb at *
    have hz4 := hd4.sz
    have hD5 := (hd3.trans hd4).trans (D.ofGr g5)
    have hr5 := hr4.kept g5
    have o5' : IntO w1.heap.size 3 w5 v5 hb := IntO.mono o5 (by omega)
    go_wp2_with fail
    (with_reducible refine (l91Changed_c hr5 (by omega) hD5 o5' (by omega) (by omega)).mono ?_); rintro e w6 ⟨v6, zs, rfl, hzl, ho6, hr6, hd6⟩
    go_wp2
    go_ret
    exact ⟨_, zs, rfl, by omega, ho6.mono hz1, hd6.gr g1 (Nat.le_refl _)⟩
end Go.Proofs.YtikkjcfadbhemaaDoor
