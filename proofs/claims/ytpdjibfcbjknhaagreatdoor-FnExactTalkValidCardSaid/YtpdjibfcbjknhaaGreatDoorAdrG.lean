/- spec.AddressFrom. -/
import Derived.Test.YtpdjibfcbjknhaaGreatDoorLineV
import Derived.Test.YtpdjibfcbjknhaaGreatDoorGQ
namespace Go.Proofs.YtpdjibfcbjknhaaGreatDoor
open Go.RowKit
theorem two_of {ls : List Tx} (h : ls.length = 2) : ∃ a b, ls = [a, b] := by
  match ls, h with
  | [a, b], _ => exact ⟨a, b, rfl⟩
set_option maxRecDepth 20000 in
set_option maxHeartbeats 4000000 in
theorem specAddressFrom_c (w : World) (s : ByteArray) (hs : s.size ≤ 2000000) {k p : Int} {xs : List Int} {nm : ByteArray} {ok : Bool} (hA : Hid (AdrIs (tx s) k xs nm p ok)) :
    Calls Tryz.prog 58 #[.string s] w (AdrPost k xs nm p ok w) := by
  have gA := gr_alloc w (.cells #[.int .i64 0, .slice none 0 0, .string ⟨#[]⟩, .int .i64 0] 65)
  have hB0 := heap_alloc_new w (.cells #[.int .i64 0, .slice none 0 0, .string ⟨#[]⟩, .int .i64 0] 65)
  have hz0 : (w.alloc (.cells #[.int .i64 0, .slice none 0 0, .string ⟨#[]⟩, .int .i64 0] 65)).heap.size = w.heap.size + 1 := by simp
  have HI : Hid (addrFrom (tx s) = addrFrom (tx s)) := rfl
  unfold Hid at HI
  conv at HI => rhs; unfold addrFrom
  have HIh := Lib.hid HI
  clear HI
  have hpc := cutB_piece 58 (tx s)
  go_enter Tryz.func58, Tryz.ntmps58
  (go_wp2_with fail); (with_reducible refine (l2Cut_c _ s 58 58 rfl hs).mono ?_); rintro e w1 ⟨v1, rfl, ho, g1⟩
  have HB1 := Lib.hid (g1.blk hB0)
  have G1 := gA.trans g1
  have z1 := g1.sz
  rw [hz0] at z1
  have hss := ho.s
  clear ho hB0 hz0 gA g1
  generalize cutB 58 (tx s) = ls at *
  by_cases h2 : ls.length = 2
  rotate_left
  · have HN : Hid (addrFrom (tx s) = none) := by
      rw [Hid, HIh.out]
      rcases ls with _ | ⟨_, _ | ⟨_, _ | ⟨_, _⟩⟩⟩ <;> first | rfl | exact absurd rfl h2
    obtain ⟨pw, cw, rfl, _, _⟩ := hss.form
    have h2' : ((ls.length : Int) == 2) = false := beq_eq_false_iff_ne.2 (by omega)
    clear h2 HIh hpc hss
    have x0 := blk_cell HB1.out (j := 0) rfl
    have x1 := blk_cell HB1.out (j := 1) rfl
    have x2 := blk_cell HB1.out (j := 2) rfl
    have x3 := blk_cell HB1.out (j := 3) rfl
    have f0 := blk_frozen HB1.out 0
    have f1 := blk_frozen HB1.out 1
    have f2 := blk_frozen HB1.out 2
    have f3 := blk_frozen HB1.out 3
    go_wp2
    change bodyPost _ _ _ _ _ (put4 w1 w.heap.size (.int .i64 0) (.slice none 0 0) (.string ⟨#[]⟩) (.int .i64 0))
    have hW := put4_blk HB1.out (.int .i64 0) (.slice none 0 0) (.string ⟨#[]⟩) (.int .i64 0)
    have cW := put4_chg w1 w.heap.size (.int .i64 0) (.slice none 0 0) (.string ⟨#[]⟩) (.int .i64 0)
    generalize put4 w1 w.heap.size (.int .i64 0) (.slice none 0 0) (.string ⟨#[]⟩) (.int .i64 0) = wz at *
    have y0 := blk_cell hW (j := 0) rfl
    have y1 := blk_cell hW (j := 1) rfl
    have y2 := blk_cell hW (j := 2) rfl
    have y3 := blk_cell hW (j := 3) rfl
    exact bodyPost_ret (v := .tuple #[.agg #[.int .i64 0, .slice none 0 0, .string ⟨#[]⟩, .int .i64 0], .bool false]) (by simp [results, Tryz.results58, go_sem, y0, y1, y2, y3]) rfl (AdrPost.no hA.out HN.out (cW.gr G1 (Nat.le_refl _)))
  obtain ⟨xa, xc, rfl⟩ := two_of h2
  have hla := hpc xa (by simp)
  rw [tx_len] at hla
  clear h2 hpc
  simp only [] at HIh
  obtain ⟨pw, cw, rfl, _, _⟩ := hss.form
  obtain ⟨d2, ix2, c2⟩ := hss.ixM rfl 0 0 rfl (by simp) (t := xa) rfl
  obtain ⟨d4, ix4, c4⟩ := hss.ixM rfl 1 1 rfl (by simp) (t := xc) rfl
  simp only [List.length_cons, List.length_nil] at ix2 ix4
  obtain ⟨ka, qa, na, hX, hAn⟩ := adr_parts xa (num5 xc)
  rw [hX] at HIh
  have LN1 : Hid (∀ W : World, Calls Tryz.prog 97 #[.string (S xc)] W fun e w' => e = .returned (.int .i64 (num5 xc)) ∧ W = w') := Lib.hid fun W => by
    have := l2Number_c W (S xc); rw [tx_S] at this; exact this
  have L3 := Lib.hid (fun W : World => l3Of_c W (S xa) (num5 xc) (by rw [S_len]; omega) (k := ka) (xs := qa) (nm := na) (Lib.hid (by rw [tx_S]; exact hX)))
  have hna : na.size ≤ 2000000 := by omega
  clear hX hAn hla
  generalize num5 xc = n at *
  go_upto_region 4 with fail
  go_cut [5] (fun u wx => AdrCell w1 ka qa na n true u (.bool true) wx)
  case first =>
    have ne2 : ∀ o, (w1.alloc o).cell? d2 = some (.string (S xa)) := fun o => (gr_alloc w1 o).cell c2
    have ne4 : ∀ o, (w1.alloc o).cell? d4 = some (.string (S xc)) := fun o => (gr_alloc w1 o).cell c4
    go_region_with (first
      | (go_at_call 97; (with_reducible refine (LN1.out _).mono ?_); rintro e w4 ⟨rfl, rfl⟩)
      | (go_at_call 96; (with_reducible refine (L3.out _).mono ?_); rintro e w9 ⟨q9, c9, rfl, o9', g9'⟩; have g9 : Gr w1 w9 := Gr.trans (by repeat (first | exact Gr.refl w1 | refine Gr.alloc ?_ _ | refine Gr.drew ?_)) g9'; have hQ9 : w9.heap[w1.heap.size]? = some (.cells #[.int .i64 0, .slice none 0 0, .string ⟨#[]⟩, .int .i64 0] 65 (0, 0)) := g9'.blk (heap_alloc_new w1 (.cells #[.int .i64 0, .slice none 0 0, .string ⟨#[]⟩, .int .i64 0] 65)); have HQ9 := Lib.hid hQ9; have o9 : IntO (w1.heap.size + 1) 3 w9 _ _ := IntO.mono o9' (by simp); have x0 := blk_cell hQ9 (j := 0) rfl; have x1 := blk_cell hQ9 (j := 1) rfl; have x2 := blk_cell hQ9 (j := 2) rfl; have x3 := blk_cell hQ9 (j := 3) rfl; have f0 := blk_frozen hQ9 0; have f1 := blk_frozen hQ9 1; have f2 := blk_frozen hQ9 2; have f3 := blk_frozen hQ9 3; clear hQ9)
      | (go_at_call 96; (with_reducible refine (L3.out _).mono ?_); rintro e w9 ⟨q9, c9, rfl, o9', g9'⟩; have g9 : Gr w1 w9 := Gr.trans (by repeat (first | exact Gr.refl w1 | refine Gr.alloc ?_ _ | refine Gr.drew ?_)) g9'; have o9 : IntO w1.heap.size 3 w9 _ _ := IntO.mono o9' (Nat.le_refl _)))
    all_goals
      go_wp2_with fail
      go_meet
      first
        | (with_reducible exact AdrCell.late rfl o9 g9)
        | exact AdrCell.early o9 g9 HQ9.out
  case rest =>
    obtain ⟨b9, Ba, Ta, q9, c9, rfl, _, hb9, iA, ia1, ia2, ia3, ia4, g9⟩ := hcut
    have HC := Lib.hid hb9
    have HB2 := Lib.hid (g9.blk HB1.out)
    have G2 := G1.trans g9
    clear hb9 HB1 c2 c4 ix2 ix4 LN1 L3 g9 hss
    have s0 := blk_cell HC.out (j := 0) rfl
    have s1 := blk_cell HC.out (j := 1) rfl
    have s2 := blk_cell HC.out (j := 2) rfl
    have s3 := blk_cell HC.out (j := 3) rfl
    cases hok : adrOk ⟨ka, qa, tx na, n⟩
    · have HN : Hid (addrFrom (tx s) = none) := by
        rw [Hid, HIh.out, if_neg]; rintro ⟨h1, _⟩; rw [hok] at h1; cases h1
      have HOK := Lib.hid hok
      clear hok
      go_wp2_with fail
      (with_reducible refine (AddressValid_c ka n na iA.o.s hna).mono ?_); rintro e w5 ⟨rfl, g5⟩
      rw [HOK.out]
      have HB5 := Lib.hid (g5.blk HB2.out)
      have G5 := G2.trans g5
      clear s0 s1 s2 s3
      have x0 := blk_cell HB5.out (j := 0) rfl
      have x1 := blk_cell HB5.out (j := 1) rfl
      have x2 := blk_cell HB5.out (j := 2) rfl
      have x3 := blk_cell HB5.out (j := 3) rfl
      have f0 := blk_frozen HB5.out 0
      have f1 := blk_frozen HB5.out 1
      have f2 := blk_frozen HB5.out 2
      have f3 := blk_frozen HB5.out 3
      go_wp2
      change bodyPost _ _ _ _ _ (put4 w5 w.heap.size (.int .i64 0) (.slice none 0 0) (.string ⟨#[]⟩) (.int .i64 0))
      have hW := put4_blk HB5.out (.int .i64 0) (.slice none 0 0) (.string ⟨#[]⟩) (.int .i64 0)
      have cW := put4_chg w5 w.heap.size (.int .i64 0) (.slice none 0 0) (.string ⟨#[]⟩) (.int .i64 0)
      generalize put4 w5 w.heap.size (.int .i64 0) (.slice none 0 0) (.string ⟨#[]⟩) (.int .i64 0) = wz at *
      have y0 := blk_cell hW (j := 0) rfl
      have y1 := blk_cell hW (j := 1) rfl
      have y2 := blk_cell hW (j := 2) rfl
      have y3 := blk_cell hW (j := 3) rfl
      exact bodyPost_ret (v := .tuple #[.agg #[.int .i64 0, .slice none 0 0, .string ⟨#[]⟩, .int .i64 0], .bool false]) (by simp [results, Tryz.results58, go_sem, y0, y1, y2, y3]) rfl (AdrPost.no hA.out HN.out (cW.gr G5 (Nat.le_refl _)))
    · have HOK := Lib.hid hok
      have htl := tl_eq (S (addrText ⟨ka, qa, tx na, n⟩)) s
      rw [tx_S] at htl
      have AT := Lib.hid (fun (W : World) (hW : IntS W (.slice q9 qa.length c9) qa) => AddressText_c ka n na hW hna)
      rw [hok, if_pos rfl] at AT
      by_cases hq : addrText ⟨ka, qa, tx na, n⟩ = tx s
      · have HN : Hid (addrFrom (tx s) = some ⟨ka, qa, tx na, n⟩) := by rw [Hid, HIh.out, if_pos ⟨hok, hq⟩]
        rw [decide_eq_true hq] at htl
        clear hok hq
        generalize addrText ⟨ka, qa, tx na, n⟩ = t at *
        go_wp2_with fail
        (with_reducible refine (AddressValid_c ka n na iA.o.s hna).mono ?_); rintro e w5 ⟨rfl, g5⟩
        rw [HOK.out]
        have HC5 := Lib.hid (g5.blk HC.out)
        clear s0 s1 s2 s3
        have s0 := blk_cell HC5.out (j := 0) rfl
        have s1 := blk_cell HC5.out (j := 1) rfl
        have s2 := blk_cell HC5.out (j := 2) rfl
        have s3 := blk_cell HC5.out (j := 3) rfl
        go_wp2_with fail
        (with_reducible refine (AT.out _ (iA.kept g5).o.s).mono ?_); rintro e w6 ⟨rfl, g6⟩
        have g56 := g5.trans g6
        have HB6 := Lib.hid (g56.blk HB2.out)
        have HC6 := Lib.hid (g6.blk HC5.out)
        have G6 := G2.trans g56
        have O6 := iA.kept g56
        clear s0 s1 s2 s3
        have s0 := blk_cell HC6.out (j := 0) rfl
        have s1 := blk_cell HC6.out (j := 1) rfl
        have s2 := blk_cell HC6.out (j := 2) rfl
        have s3 := blk_cell HC6.out (j := 3) rfl
        have x0 := blk_cell HB6.out (j := 0) rfl
        have x1 := blk_cell HB6.out (j := 1) rfl
        have x2 := blk_cell HB6.out (j := 2) rfl
        have x3 := blk_cell HB6.out (j := 3) rfl
        have f0 := blk_frozen HB6.out 0
        have f1 := blk_frozen HB6.out 1
        have f2 := blk_frozen HB6.out 2
        have f3 := blk_frozen HB6.out 3
        go_wp2
        change bodyPost _ _ _ _ _ (put4 w6 w.heap.size (.int .i64 ka) (.slice q9 qa.length c9) (.string na) (.int .i64 n))
        have hW := put4_blk HB6.out (.int .i64 ka) (.slice q9 qa.length c9) (.string na) (.int .i64 n)
        have cW := put4_chg w6 w.heap.size (.int .i64 ka) (.slice q9 qa.length c9) (.string na) (.int .i64 n)
        generalize put4 w6 w.heap.size (.int .i64 ka) (.slice q9 qa.length c9) (.string na) (.int .i64 n) = wz at *
        have y0 := blk_cell hW (j := 0) rfl
        have y1 := blk_cell hW (j := 1) rfl
        have y2 := blk_cell hW (j := 2) rfl
        have y3 := blk_cell hW (j := 3) rfl
        exact bodyPost_ret (v := .tuple #[.agg #[.int .i64 ka, .slice q9 qa.length c9, .string na, .int .i64 n], .bool true]) (by simp [results, Tryz.results58, go_sem, y0, y1, y2, y3]) rfl (AdrPost.yes (q := q9) (c := c9) hA.out HN.out (IntO.mono (IntB.o (IntB.chg O6 cW (.inr (by omega)))) (by omega)) (cW.gr G6 (Nat.le_refl _)))
      · have HN : Hid (addrFrom (tx s) = none) := by
          rw [Hid, HIh.out, if_neg]; rintro ⟨_, h2⟩; exact hq h2
        rw [decide_eq_false hq] at htl
        clear hok hq
        generalize addrText ⟨ka, qa, tx na, n⟩ = t at *
        go_wp2_with fail
        (with_reducible refine (AddressValid_c ka n na iA.o.s hna).mono ?_); rintro e w5 ⟨rfl, g5⟩
        rw [HOK.out]
        have HC5 := Lib.hid (g5.blk HC.out)
        clear s0 s1 s2 s3
        have s0 := blk_cell HC5.out (j := 0) rfl
        have s1 := blk_cell HC5.out (j := 1) rfl
        have s2 := blk_cell HC5.out (j := 2) rfl
        have s3 := blk_cell HC5.out (j := 3) rfl
        go_wp2_with fail
        (with_reducible refine (AT.out _ (iA.kept g5).o.s).mono ?_); rintro e w6 ⟨rfl, g6⟩
        have g56 := g5.trans g6
        have HB6 := Lib.hid (g56.blk HB2.out)
        have G6 := G2.trans g56
        clear s0 s1 s2 s3
        have x0 := blk_cell HB6.out (j := 0) rfl
        have x1 := blk_cell HB6.out (j := 1) rfl
        have x2 := blk_cell HB6.out (j := 2) rfl
        have x3 := blk_cell HB6.out (j := 3) rfl
        have f0 := blk_frozen HB6.out 0
        have f1 := blk_frozen HB6.out 1
        have f2 := blk_frozen HB6.out 2
        have f3 := blk_frozen HB6.out 3
        go_wp2
        change bodyPost _ _ _ _ _ (put4 w6 w.heap.size (.int .i64 0) (.slice none 0 0) (.string ⟨#[]⟩) (.int .i64 0))
        have hW := put4_blk HB6.out (.int .i64 0) (.slice none 0 0) (.string ⟨#[]⟩) (.int .i64 0)
        have cW := put4_chg w6 w.heap.size (.int .i64 0) (.slice none 0 0) (.string ⟨#[]⟩) (.int .i64 0)
        generalize put4 w6 w.heap.size (.int .i64 0) (.slice none 0 0) (.string ⟨#[]⟩) (.int .i64 0) = wz at *
        have y0 := blk_cell hW (j := 0) rfl
        have y1 := blk_cell hW (j := 1) rfl
        have y2 := blk_cell hW (j := 2) rfl
        have y3 := blk_cell hW (j := 3) rfl
        exact bodyPost_ret (v := .tuple #[.agg #[.int .i64 0, .slice none 0 0, .string ⟨#[]⟩, .int .i64 0], .bool false]) (by simp [results, Tryz.results58, go_sem, y0, y1, y2, y3]) rfl (AdrPost.no hA.out HN.out (cW.gr G6 (Nat.le_refl _)))
end Go.Proofs.YtpdjibfcbjknhaaGreatDoor
