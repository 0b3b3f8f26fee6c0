/- Draws of talks with bytes. -/
import Derived.Test.YtpdjibfcbjknhaaGreatDoorDrawM
import Derived.Test.YtpdjibfcbjknhaaGreatDoorGD
namespace Go.Proofs.YtpdjibfcbjknhaaGreatDoor
open Go.RowKit
/-- A talk, and bytes. -/
def DrTS (w : World) (e : Ending) (w' : World) : Prop :=
  ∃ (p q x : Option Addr) (c f k : Nat) (st : Int) (ws : List Int) (ls : List Lg) (d : ByteArray) (b : List Int), e = .returned (.tuple #[.agg #[.int .i64 st, .slice p ws.length c, .slice q ls.length f, .string d], .slice x b.length k]) ∧ TSm ws ls d ∧ b.length ≤ 200 ∧ IntS w' (.slice p ws.length c) ws ∧ LgS w' (.slice q ls.length f) ls ∧ IntS w' (.slice x b.length k) b ∧ Gr w w'
set_option maxRecDepth 20000 in
set_option maxHeartbeats 4000000 in
theorem DrawTalkSay_c {w : World} {v : Value} {bs : List Int} (h : ByteS w v bs) :
    Calls Tryz.prog 33 #[v] w (DrTS w) := by
  obtain ⟨p0, cap, rfl, _, _⟩ := h.form
  have gA := gr_alloc w (.cells #[.int .i64 0, .slice none 0 0, .slice none 0 0, .string ⟨#[]⟩] 26)
  have hA := heap_alloc_new w (.cells #[.int .i64 0, .slice none 0 0, .slice none 0 0, .string ⟨#[]⟩] 26)
  have zA : (w.alloc (.cells #[.int .i64 0, .slice none 0 0, .slice none 0 0, .string ⟨#[]⟩] 26)).heap.size = w.heap.size + 1 := by simp
  have O := l6Open_c (h.kept gA)
  rw [zA] at O
  have HO := Lib.hid O
  have HA := Lib.hid hA
  clear O hA
  go_enter Tryz.func33, Tryz.ntmps33
  go_wp2_with fail
  (with_reducible refine (HO.out).mono ?_); rintro e w1 ⟨rfl, hr1, g1⟩
  have z1 := hr1.lt
  have HA1 := Lib.hid (g1.blk HA.out)
  have G1 := gA.trans g1
  clear g1 gA HO HA zA
  go_wp2_with fail
  (with_reducible refine (l92Talk_c hr1 (by omega)).mono ?_); rintro e w2 ⟨p, q, c, f, st, ws, ls, d, rfl, hsm, o2, l2, hr2, hd2⟩
  have z2 := hd2.sz
  have HA2 := Lib.hid (hd2.blk HA1.out (by omega))
  have G2 : Gr w w2 := hd2.gr G1 (by omega)
  have gT := gr_alloc w2 (.cells #[.int .i64 st, .slice p ws.length c, .slice q ls.length f, .string d] 26)
  have hT := heap_alloc_new w2 (.cells #[.int .i64 st, .slice p ws.length c, .slice q ls.length f, .string d] 26)
  have HT3 := Lib.hid hT
  have HA3 := Lib.hid (gT.blk HA2.out)
  have G3 := G2.trans gT
  have hr3 := hr2.kept gT
  have o3 := o2.kept gT
  have l3 := l2.kept gT
  have zT : w2.heap.size + 1 ≤ (w2.alloc (.cells #[.int .i64 st, .slice p ws.length c, .slice q ls.length f, .string d] 26)).heap.size := by simp
  clear hT HA1 HA2 hr1 hr2 hd2 o2 l2 gT G1
  go_upto_region 3 with fail
  generalize w2.alloc (.cells #[.int .i64 st, .slice p ws.length c, .slice q ls.length f, .string d] 26) = w3 at *
  have s0 := blk_cell HT3.out (j := 0) rfl
  have s1 := blk_cell HT3.out (j := 1) rfl
  have s2 := blk_cell HT3.out (j := 2) rfl
  have s3 := blk_cell HT3.out (j := 3) rfl
  go_wp2_with fail
  (with_reducible refine (l92Next_c hr3 (by omega) st d p q ws.length c ls.length f).mono ?_); rintro e w4 ⟨x, k, ys, rfl, hyl, o4, hr4, hd4⟩
  have z4 := hd4.sz
  have HA4 := Lib.hid (hd4.blk HA3.out (by omega))
  have HT4 := Lib.hid (hd4.blk HT3.out (by omega))
  have o4' := o3.keptD hd4 (by omega)
  have l4 := l3.keptD hd4 (by omega)
  clear s0 s1 s2 s3
  go_wp2_with fail
  (with_reducible refine (pick_c hr4 (by omega) _ (by omega) (by omega)).mono ?_); rintro e w5 ⟨c5, rfl, h50, h51, hr5, hd5⟩
  have z5 := hd5.sz
  have HA5 := Lib.hid (hd5.blk HA4.out (by omega))
  have HT5 := Lib.hid (hd5.blk HT4.out (by omega))
  have o5 := o4'.keptD hd5 (by omega)
  have l5 := l4.keptD hd5 (by omega)
  have y5 := o4.keptD hd5 (by omega)
  have hd35 := hd4.trans hd5
  have G5 : Gr w w5 := hd35.gr G3 (by omega)
  clear HA4 HT4 o4' l4 o4 hr3 hr4 hd4 hd5 G2
  by_cases k0 : c5 = 0
  · subst k0
    go_upto_region 5 with fail
    have s0 : w5.cell? ⟨w2.heap.size, 0, none⟩ = some (.int .i64 st) := blk_cell HT5.out (j := 0) rfl
    have s1 : w5.cell? ⟨w2.heap.size, 1, none⟩ = some (.slice p ws.length c) := blk_cell HT5.out (j := 1) rfl
    have s2 : w5.cell? ⟨w2.heap.size, 2, none⟩ = some (.slice q ls.length f) := blk_cell HT5.out (j := 2) rfl
    have s3 : w5.cell? ⟨w2.heap.size, 3, none⟩ = some (.string d) := blk_cell HT5.out (j := 3) rfl
    have LC := Lib.hid (l91Changed_c hr5.drew (by omega) (hd35.trans (D.ofGr ((Gr.refl w5).drew))) (y5.kept ((Gr.refl w5).drew)) (by omega) (by omega))
    go_cut [3] (fun z wx => ∃ (x : Option Addr) (k : Nat) (b : List Int), z = .slice x b.length k ∧ b.length ≤ 200 ∧ wx.heap[w.heap.size]? = some (.cells #[.int .i64 st, .slice p ws.length c, .slice q ls.length f, .string d] 26 (0, 0)) ∧ IntS wx (.slice p ws.length c) ws ∧ LgS wx (.slice q ls.length f) ls ∧ IntS wx (.slice x b.length k) b ∧ Gr w wx)
    case first =>
      go_region_with (go_at_call 71; (with_reducible refine LC.out.mono ?_); rintro e w6 ⟨v6, us, rfl, hul, o6, hr6, hd6⟩; obtain ⟨x6, k6, rfl⟩ := o6.len; have HT6 := Lib.hid (hd6.blk HT3.out (by omega)); have HA6 := Lib.hid (hd6.blk HA3.out (by omega)); have o6r := o3.keptD hd6 (by omega); have l6r := l3.keptD hd6 (by omega); have G6 : Gr w w6 := hd6.gr G3 (by omega); have t0 := blk_cell HT6.out (j := 0) rfl; have t1 := blk_cell HT6.out (j := 1) rfl; have t2 := blk_cell HT6.out (j := 2) rfl; have t3 := blk_cell HT6.out (j := 3) rfl; have x0 := blk_cell HA6.out (j := 0) rfl; have x1 := blk_cell HA6.out (j := 1) rfl; have x2 := blk_cell HA6.out (j := 2) rfl; have x3 := blk_cell HA6.out (j := 3) rfl; have f0 := blk_frozen HA6.out 0; have f1 := blk_frozen HA6.out 1; have f2 := blk_frozen HA6.out 2; have f3 := blk_frozen HA6.out 3)
      all_goals
        go_wp2_with fail
        go_meet
        have cW := put4_chg w6 w.heap.size (.int .i64 st) (.slice p ws.length c) (.slice q ls.length f) (.string d)
        have hW := put4_blk HA6.out (.int .i64 st) (.slice p ws.length c) (.slice q ls.length f) (.string d)
        have i1 := (IntO.keptC o6r cW (by omega)).s
        have i2 := (LgO.keptC l6r cW (by omega)).s
        have i3 := (IntO.keptC o6 cW (by omega)).s
        exact ⟨x6, k6, us, rfl, by omega, hW, i1, i2, i3, cW.gr G6 (Nat.le_refl _)⟩
    case rest =>
      obtain ⟨x7, k7, us, rfl, hul, hW, i1, i2, i3, G7⟩ := hcut
      have y0 := blk_cell hW (j := 0) rfl
      have y1 := blk_cell hW (j := 1) rfl
      have y2 := blk_cell hW (j := 2) rfl
      have y3 := blk_cell hW (j := 3) rfl
      clear s0 s1 s2 s3
      go_wp2
      exact bodyPost_ret (v := .tuple #[.agg #[.int .i64 st, .slice p ws.length c, .slice q ls.length f, .string d], .slice x7 us.length k7]) (by simp [results, Tryz.results33, go_sem, y0, y1, y2, y3]) rfl ⟨p, q, x7, c, f, k7, st, ws, ls, d, us, rfl, hsm, hul, i1, i2, i3, G7⟩
  · have k0' : (c5 == 0) = false := beq_eq_false_iff_ne.2 k0
    clear k0
    have s0 := blk_cell HT5.out (j := 0) rfl
    have s1 := blk_cell HT5.out (j := 1) rfl
    have s2 := blk_cell HT5.out (j := 2) rfl
    have s3 := blk_cell HT5.out (j := 3) rfl
    have x0 := blk_cell HA5.out (j := 0) rfl
    have x1 := blk_cell HA5.out (j := 1) rfl
    have x2 := blk_cell HA5.out (j := 2) rfl
    have x3 := blk_cell HA5.out (j := 3) rfl
    have f0 := blk_frozen HA5.out 0
    have f1 := blk_frozen HA5.out 1
    have f2 := blk_frozen HA5.out 2
    have f3 := blk_frozen HA5.out 3
    go_wp2
    change bodyPost _ _ _ _ _ (put4 w5 w.heap.size (.int .i64 st) (.slice p ws.length c) (.slice q ls.length f) (.string d))
    have hW := put4_blk HA5.out (.int .i64 st) (.slice p ws.length c) (.slice q ls.length f) (.string d)
    have cW := put4_chg w5 w.heap.size (.int .i64 st) (.slice p ws.length c) (.slice q ls.length f) (.string d)
    generalize put4 w5 w.heap.size (.int .i64 st) (.slice p ws.length c) (.slice q ls.length f) (.string d) = wz at *
    have y0 := blk_cell hW (j := 0) rfl
    have y1 := blk_cell hW (j := 1) rfl
    have y2 := blk_cell hW (j := 2) rfl
    have y3 := blk_cell hW (j := 3) rfl
    exact bodyPost_ret (v := .tuple #[.agg #[.int .i64 st, .slice p ws.length c, .slice q ls.length f, .string d], .slice x ys.length k]) (by simp [results, Tryz.results33, go_sem, y0, y1, y2, y3]) rfl ⟨p, q, x, c, f, k, st, ws, ls, d, ys, rfl, hsm, by omega, (IntO.keptC o5 cW (by omega)).s, (LgO.keptC l5 cW (by omega)).s, (IntO.keptC y5 cW (by omega)).s, cW.gr G5 (Nat.le_refl _)⟩
/-- A talk. -/
def DrTV (w : World) (e : Ending) (w' : World) : Prop :=
  ∃ (p q : Option Addr) (c f : Nat) (st : Int) (ws : List Int) (ls : List Lg) (d : ByteArray), e = .returned (.agg #[.int .i64 st, .slice p ws.length c, .slice q ls.length f, .string d]) ∧ TSm ws ls d ∧ IntS w' (.slice p ws.length c) ws ∧ LgS w' (.slice q ls.length f) ls ∧ Gr w w'
set_option maxRecDepth 20000 in
set_option maxHeartbeats 4000000 in
theorem DrawTalkValid_c {w : World} {v : Value} {bs : List Int} (h : ByteS w v bs) :
    Calls Tryz.prog 16 #[v] w (DrTV w) := by
  obtain ⟨p0, cap, rfl, _, _⟩ := h.form
  have gA := gr_alloc w (.cells #[.int .i64 0, .slice none 0 0, .slice none 0 0, .string ⟨#[]⟩] 26)
  have hA := heap_alloc_new w (.cells #[.int .i64 0, .slice none 0 0, .slice none 0 0, .string ⟨#[]⟩] 26)
  have zA : (w.alloc (.cells #[.int .i64 0, .slice none 0 0, .slice none 0 0, .string ⟨#[]⟩] 26)).heap.size = w.heap.size + 1 := by simp
  have O := l6Open_c (h.kept gA)
  rw [zA] at O
  have HO := Lib.hid O
  have HA := Lib.hid hA
  clear O hA
  go_enter Tryz.func16, Tryz.ntmps16
  go_wp2_with fail
  (with_reducible refine (HO.out).mono ?_); rintro e w1 ⟨rfl, hr1, g1⟩
  have z1 := hr1.lt
  have HA1 := Lib.hid (g1.blk HA.out)
  have G1 := gA.trans g1
  clear g1 gA HO HA zA
  go_wp2_with fail
  (with_reducible refine (l92Talk_c hr1 (by omega)).mono ?_); rintro e w2 ⟨p, q, c, f, st, ws, ls, d, rfl, hsm, o2, l2, hr2, hd2⟩
  have z2 := hd2.sz
  have HA2 := Lib.hid (hd2.blk HA1.out (by omega))
  have G2 : Gr w w2 := hd2.gr G1 (by omega)
  have gT := gr_alloc w2 (.cells #[.int .i64 st, .slice p ws.length c, .slice q ls.length f, .string d] 26)
  have hT := heap_alloc_new w2 (.cells #[.int .i64 st, .slice p ws.length c, .slice q ls.length f, .string d] 26)
  have HT3 := Lib.hid hT
  have HA3 := Lib.hid (gT.blk HA2.out)
  have G3 := G2.trans gT
  have hr3 := hr2.kept gT
  have o3 := (IntO.b o2).kept gT
  have l3 := (Own.b l2).kept gT
  have zT : w2.heap.size + 1 ≤ (w2.alloc (.cells #[.int .i64 st, .slice p ws.length c, .slice q ls.length f, .string d] 26)).heap.size := by simp
  clear hT HA1 HA2 hr1 hr2 hd2 o2 l2 gT G1
  go_upto_region 3 with fail
  generalize w2.alloc (.cells #[.int .i64 st, .slice p ws.length c, .slice q ls.length f, .string d] 26) = w3 at *
  go_wp2_with fail
  (with_reducible refine (pick_c hr3 (by omega) _ (by omega) (by omega)).mono ?_); rintro e w5 ⟨c5, rfl, h50, h51, hr5, hd5⟩
  have z5 := hd5.sz
  have HA5 := Lib.hid (hd5.blk HA3.out (by omega))
  have HT5 := Lib.hid (hd5.blk HT3.out (by omega))
  have o5 := o3.keptD hd5 (by omega)
  have l5 := OwnB.keptD l3 hd5 (by omega)
  have G5 : Gr w w5 := hd5.gr G3 (by omega)
  clear HA3 HT3 o3 l3 hr3 hd5 G3 G2
  by_cases k0 : c5 = 0
  · subst k0
    go_wp2_with fail
    (with_reducible refine (pick_c hr5 (by omega) _ (by omega) (by omega)).mono ?_); rintro e w6 ⟨c6, rfl, h60, h61, hr6, hd6⟩
    have z6 := hd6.sz
    have HA6 := Lib.hid (hd6.blk HA5.out (by omega))
    have HT6 := Lib.hid (hd6.blk HT5.out (by omega))
    have o6 := o5.keptD hd6 (by omega)
    have l6 := OwnB.keptD l5 hd6 (by omega)
    have G6 : Gr w w6 := hd6.gr G5 (by omega)
    clear HA5 HT5 o5 l5 hr5 hd6 G5
    have x0 := blk_cell HT6.out (j := 0) rfl
    have f0 := blk_frozen HT6.out 0
    go_upto_region 5 with fail
    have cS : Chg w2.heap.size (w2.heap.size + 1) w6 (w6.setCell ⟨w2.heap.size, 0, none⟩ (.int .i64 c6)) := (Chg.refl _ _ w6).set (p := ⟨w2.heap.size, 0, none⟩) (Nat.le_refl _) (Nat.lt_succ_self _) _
    have hS8 := heap_set (j := 0) (x := .int .i64 c6) HT6.out
    generalize w6.setCell ⟨w2.heap.size, 0, none⟩ (.int .i64 c6) = wf at *
    have HT : Hid (wf.heap[w2.heap.size]? = some (.cells #[.int .i64 c6, .slice p ws.length c, .slice q ls.length f, .string d] 26 (0, 0))) := hS8
    have HA := Lib.hid ((cS.block w.heap.size (.inl (by omega))).trans HA6.out)
    have of : IntO w1.heap.size 3 wf (.slice p ws.length c) ws := (IntB.chg o6 cS (.inl (Nat.le_refl _))).o
    have lf : LgO w1.heap.size wf (.slice q ls.length f) ls := (OwnB.chg l6 cS (.inl (Nat.le_refl _))).1
    have G : Gr w wf := cS.gr G6 (by omega)
    clear x0 f0 hS8 cS HT6 HA6 hr6 o6 l6 G6
    have s0 := blk_cell HT.out (j := 0) rfl
    have s1 := blk_cell HT.out (j := 1) rfl
    have s2 := blk_cell HT.out (j := 2) rfl
    have s3 := blk_cell HT.out (j := 3) rfl
    have x0 := blk_cell HA.out (j := 0) rfl
    have x1 := blk_cell HA.out (j := 1) rfl
    have x2 := blk_cell HA.out (j := 2) rfl
    have x3 := blk_cell HA.out (j := 3) rfl
    have f0 := blk_frozen HA.out 0
    have f1 := blk_frozen HA.out 1
    have f2 := blk_frozen HA.out 2
    have f3 := blk_frozen HA.out 3
    go_wp2
    change bodyPost _ _ _ _ _ (put4 wf w.heap.size (.int .i64 c6) (.slice p ws.length c) (.slice q ls.length f) (.string d))
    have hW := put4_blk HA.out (.int .i64 c6) (.slice p ws.length c) (.slice q ls.length f) (.string d)
    have cW := put4_chg wf w.heap.size (.int .i64 c6) (.slice p ws.length c) (.slice q ls.length f) (.string d)
    generalize put4 wf w.heap.size (.int .i64 c6) (.slice p ws.length c) (.slice q ls.length f) (.string d) = wz at *
    have y0 := blk_cell hW (j := 0) rfl
    have y1 := blk_cell hW (j := 1) rfl
    have y2 := blk_cell hW (j := 2) rfl
    have y3 := blk_cell hW (j := 3) rfl
    exact bodyPost_ret (v := .agg #[.int .i64 c6, .slice p ws.length c, .slice q ls.length f, .string d]) (by simp [results, Tryz.results16, go_sem, y0, y1, y2, y3]) rfl ⟨p, q, c, f, c6, ws, ls, d, rfl, hsm, (IntO.keptC of cW (by omega)).s, (LgO.keptC lf cW (by omega)).s, cW.gr G (Nat.le_refl _)⟩
  · have k0' : (c5 == 0) = false := beq_eq_false_iff_ne.2 k0
    clear k0
    generalize w5 = wf at *
    have HT := HT5
    have HA := HA5
    have of : IntO w1.heap.size 3 wf (.slice p ws.length c) ws := o5.o
    have lf : LgO w1.heap.size wf (.slice q ls.length f) ls := l5.1
    have G := G5
    clear HT5 HA5 o5 l5 hr5 G5
    have s0 := blk_cell HT.out (j := 0) rfl
    have s1 := blk_cell HT.out (j := 1) rfl
    have s2 := blk_cell HT.out (j := 2) rfl
    have s3 := blk_cell HT.out (j := 3) rfl
    have x0 := blk_cell HA.out (j := 0) rfl
    have x1 := blk_cell HA.out (j := 1) rfl
    have x2 := blk_cell HA.out (j := 2) rfl
    have x3 := blk_cell HA.out (j := 3) rfl
    have f0 := blk_frozen HA.out 0
    have f1 := blk_frozen HA.out 1
    have f2 := blk_frozen HA.out 2
    have f3 := blk_frozen HA.out 3
    go_wp2
    change bodyPost _ _ _ _ _ (put4 wf w.heap.size (.int .i64 st) (.slice p ws.length c) (.slice q ls.length f) (.string d))
    have hW := put4_blk HA.out (.int .i64 st) (.slice p ws.length c) (.slice q ls.length f) (.string d)
    have cW := put4_chg wf w.heap.size (.int .i64 st) (.slice p ws.length c) (.slice q ls.length f) (.string d)
    generalize put4 wf w.heap.size (.int .i64 st) (.slice p ws.length c) (.slice q ls.length f) (.string d) = wz at *
    have y0 := blk_cell hW (j := 0) rfl
    have y1 := blk_cell hW (j := 1) rfl
    have y2 := blk_cell hW (j := 2) rfl
    have y3 := blk_cell hW (j := 3) rfl
    exact bodyPost_ret (v := .agg #[.int .i64 st, .slice p ws.length c, .slice q ls.length f, .string d]) (by simp [results, Tryz.results16, go_sem, y0, y1, y2, y3]) rfl ⟨p, q, c, f, st, ws, ls, d, rfl, hsm, (IntO.keptC of cW (by omega)).s, (LgO.keptC lf cW (by omega)).s, cW.gr G (Nat.le_refl _)⟩
end Go.Proofs.YtpdjibfcbjknhaaGreatDoor
