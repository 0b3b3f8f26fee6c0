/- Logins out of bytes: the reference's walk. -/
import Derived.Test.YtpdjibfcbjknhaaGreatDoorRdrR
namespace Go.Proofs.YtpdjibfcbjknhaaGreatDoor
open Go.RowKit
/-- The variable with a login. -/
def LgCell (w0 : World) (su sv : ByteArray) (u : Value) (wx : World) : Prop :=
  ∃ b : Nat, u = .pointer (some ⟨b, 0, none⟩) ∧ w0.heap.size ≤ b ∧ wx.heap[b]? = some (.cells #[.string su, .string sv] 59 (0, 0)) ∧ Gr w0 wx
theorem LgCell.late {w0 W : World} {su sv : ByteArray} {b : Nat} (hb : b = W.heap.size) (g : Gr w0 W) : LgCell w0 su sv (.pointer (some ⟨b, 0, none⟩)) (W.alloc (.cells #[.string su, .string sv] 59)) := by
  subst hb
  exact ⟨_, rfl, g.sz, heap_alloc_new _ _, g.alloc _⟩
theorem LgCell.early {w0 W : World} {su sv : ByteArray} {b : Nat} {c0 c1 : Value} (hb : W.heap[b]? = some (.cells #[c0, c1] 59 (0, 0))) (h1 : w0.heap.size ≤ b) (g : Gr w0 W) : LgCell w0 su sv (.pointer (some ⟨b, 0, none⟩)) (put2 W b (.string su) (.string sv)) :=
  ⟨b, rfl, h1, put2_blk hb _ _, (put2_chg W b _ _).gr g h1⟩
set_option maxRecDepth 20000 in
set_option maxHeartbeats 4000000 in
theorem specLoginFrom_c {w : World} {v : Value} {xs : List Int} (h : IntS w v xs) (hlen : xs.length ≤ 1048576) :
    Calls Tryz.prog 116 #[v] w (LgiO xs w) := by
  obtain ⟨p, cap, rfl, hl1, hl2⟩ := h.form
  have gA := gr_alloc w (.cells #[.string ⟨#[]⟩, .string ⟨#[]⟩] 59)
  have hA := heap_alloc_new w (.cells #[.string ⟨#[]⟩, .string ⟨#[]⟩] 59)
  have zA : w.heap.size + 1 ≤ (w.alloc (.cells #[.string ⟨#[]⟩, .string ⟨#[]⟩] 59)).heap.size := by simp
  have h0 := h.kept gA
  have HX : Hid (¬ (bv xs = true ∧ 5 ≤ xs.length ∧ nth xs 0 = 1 ∧ nth xs 1 ≤ (xs.length : Int) - 3 ∧ nth xs (lgAt xs) ≤ (xs.length : Int) - (lgAt xs : Int) - 1 ∧ lgOk (lgX xs) = true) → loginFrom xs = none) := Lib.hid fun hc => by unfold loginFrom; rw [if_neg hc]
  cases hb : bv xs
  · have HN : Hid (loginFrom xs = none) := Lib.hid (HX.out (by rintro ⟨h1, _⟩; rw [hb] at h1; cases h1))
    have HB := Lib.hid hb
    clear hb HX
    go_enter Tryz.func116, Tryz.ntmps116
    go_wp2_with fail
    (with_reducible refine (specBytesValid_c h0).mono ?_); rintro e w1 ⟨rfl, rfl⟩
    rw [HB.out]
    generalize w.alloc (.cells #[.string ⟨#[]⟩, .string ⟨#[]⟩] 59) = w0 at *
    have x0 := blk_cell hA (j := 0) rfl
    have x1 := blk_cell hA (j := 1) rfl
    have f0 := blk_frozen hA 0
    have f1 := blk_frozen hA 1
    go_wp2
    change bodyPost _ _ _ _ _ (put2 w0 w.heap.size (.string ⟨#[]⟩) (.string ⟨#[]⟩))
    have hW := put2_blk hA (.string ⟨#[]⟩) (.string ⟨#[]⟩)
    have cW := put2_chg w0 w.heap.size (.string ⟨#[]⟩) (.string ⟨#[]⟩)
    generalize put2 w0 w.heap.size (.string ⟨#[]⟩) (.string ⟨#[]⟩) = wz at *
    have y0 := blk_cell hW (j := 0) rfl
    have y1 := blk_cell hW (j := 1) rfl
    exact bodyPost_ret (v := .tuple #[.agg #[.string ⟨#[]⟩, .string ⟨#[]⟩], .int .i64 0, .bool false]) (by simp [results, Tryz.results116, go_sem, y0, y1]) rfl (LgiO.no HN.out (cW.gr gA (Nat.le_refl _)))
  have hby := bv_bytes hb
  have HB := Lib.hid hb
  by_cases h5 : xs.length < 5
  · have HN : Hid (loginFrom xs = none) := Lib.hid (HX.out (by rintro ⟨_, h1, _⟩; omega))
    have h5' : (xs.length : Int) < 5 := by omega
    clear hb HX hby
    go_enter Tryz.func116, Tryz.ntmps116
    go_wp2_with fail
    (with_reducible refine (specBytesValid_c h0).mono ?_); rintro e w1 ⟨rfl, rfl⟩
    rw [HB.out]
    generalize w.alloc (.cells #[.string ⟨#[]⟩, .string ⟨#[]⟩] 59) = w0 at *
    have x0 := blk_cell hA (j := 0) rfl
    have x1 := blk_cell hA (j := 1) rfl
    have f0 := blk_frozen hA 0
    have f1 := blk_frozen hA 1
    go_wp2
    change bodyPost _ _ _ _ _ (put2 w0 w.heap.size (.string ⟨#[]⟩) (.string ⟨#[]⟩))
    have hW := put2_blk hA (.string ⟨#[]⟩) (.string ⟨#[]⟩)
    have cW := put2_chg w0 w.heap.size (.string ⟨#[]⟩) (.string ⟨#[]⟩)
    generalize put2 w0 w.heap.size (.string ⟨#[]⟩) (.string ⟨#[]⟩) = wz at *
    have y0 := blk_cell hW (j := 0) rfl
    have y1 := blk_cell hW (j := 1) rfl
    exact bodyPost_ret (v := .tuple #[.agg #[.string ⟨#[]⟩, .string ⟨#[]⟩], .int .i64 0, .bool false]) (by simp [results, Tryz.results116, go_sem, y0, y1]) rfl (LgiO.no HN.out (cW.gr gA (Nat.le_refl _)))
  have h5' : ¬ (xs.length : Int) < 5 := by omega
  obtain ⟨a0, x0, d0⟩ := h0.ixN rfl 0 0 rfl (by omega)
  obtain ⟨a1, i1, d1⟩ := h0.ixN rfl 1 1 rfl (by omega)
  by_cases e1 : nth xs 0 = 1
  rotate_left
  · have HN : Hid (loginFrom xs = none) := Lib.hid (HX.out (by rintro ⟨_, _, h1, _⟩; exact e1 h1))
    have e1' : (nth xs 0 != 1) = true := by simpa using e1
    clear hb HX hby e1
    generalize nth xs 0 = m0 at *
    generalize nth xs 1 = m1 at *
    go_enter Tryz.func116, Tryz.ntmps116
    go_wp2_with fail
    (with_reducible refine (specBytesValid_c h0).mono ?_); rintro e w1 ⟨rfl, rfl⟩
    rw [HB.out]
    generalize w.alloc (.cells #[.string ⟨#[]⟩, .string ⟨#[]⟩] 59) = w0 at *
    have x0 := blk_cell hA (j := 0) rfl
    have x1 := blk_cell hA (j := 1) rfl
    have f0 := blk_frozen hA 0
    have f1 := blk_frozen hA 1
    go_wp2
    change bodyPost _ _ _ _ _ (put2 w0 w.heap.size (.string ⟨#[]⟩) (.string ⟨#[]⟩))
    have hW := put2_blk hA (.string ⟨#[]⟩) (.string ⟨#[]⟩)
    have cW := put2_chg w0 w.heap.size (.string ⟨#[]⟩) (.string ⟨#[]⟩)
    generalize put2 w0 w.heap.size (.string ⟨#[]⟩) (.string ⟨#[]⟩) = wz at *
    have y0 := blk_cell hW (j := 0) rfl
    have y1 := blk_cell hW (j := 1) rfl
    exact bodyPost_ret (v := .tuple #[.agg #[.string ⟨#[]⟩, .string ⟨#[]⟩], .int .i64 0, .bool false]) (by simp [results, Tryz.results116, go_sem, y0, y1]) rfl (LgiO.no HN.out (cW.gr gA (Nat.le_refl _)))
  have e1' : (nth xs 0 != 1) = false := by simpa using e1
  obtain ⟨b1, b2⟩ := bytes_nth hby (show 1 < xs.length by omega)
  by_cases h3 : nth xs 1 ≤ (xs.length : Int) - 3
  rotate_left
  · have HN : Hid (loginFrom xs = none) := Lib.hid (HX.out (by rintro ⟨_, _, _, h1, _⟩; exact h3 h1))
    have h3' : (xs.length : Int) - 3 < nth xs 1 := by omega
    clear hb HX hby e1 h3
    generalize nth xs 0 = m0 at *
    generalize nth xs 1 = m1 at *
    go_enter Tryz.func116, Tryz.ntmps116
    go_wp2_with fail
    (with_reducible refine (specBytesValid_c h0).mono ?_); rintro e w1 ⟨rfl, rfl⟩
    rw [HB.out]
    generalize w.alloc (.cells #[.string ⟨#[]⟩, .string ⟨#[]⟩] 59) = w0 at *
    have x0 := blk_cell hA (j := 0) rfl
    have x1 := blk_cell hA (j := 1) rfl
    have f0 := blk_frozen hA 0
    have f1 := blk_frozen hA 1
    go_wp2
    change bodyPost _ _ _ _ _ (put2 w0 w.heap.size (.string ⟨#[]⟩) (.string ⟨#[]⟩))
    have hW := put2_blk hA (.string ⟨#[]⟩) (.string ⟨#[]⟩)
    have cW := put2_chg w0 w.heap.size (.string ⟨#[]⟩) (.string ⟨#[]⟩)
    generalize put2 w0 w.heap.size (.string ⟨#[]⟩) (.string ⟨#[]⟩) = wz at *
    have y0 := blk_cell hW (j := 0) rfl
    have y1 := blk_cell hW (j := 1) rfl
    exact bodyPost_ret (v := .tuple #[.agg #[.string ⟨#[]⟩, .string ⟨#[]⟩], .int .i64 0, .bool false]) (by simp [results, Tryz.results116, go_sem, y0, y1]) rfl (LgiO.no HN.out (cW.gr gA (Nat.le_refl _)))
  have h3' : ¬ ((xs.length : Int) - 3 < nth xs 1) := by omega
  have hat : lgAt xs = 2 + (nth xs 1).toNat := rfl
  have hatI : (2 + nth xs 1 : Int) = (lgAt xs : Int) := by omega
  have hat2 : lgAt xs < xs.length := by omega
  obtain ⟨a2, i2, d2⟩ := h0.ixN rfl (lgAt xs) (2 + nth xs 1) hatI hat2
  obtain ⟨b3, b4⟩ := bytes_nth hby hat2
  by_cases h4 : nth xs (lgAt xs) ≤ (xs.length : Int) - (lgAt xs : Int) - 1
  rotate_left
  · have HN : Hid (loginFrom xs = none) := Lib.hid (HX.out (by rintro ⟨_, _, _, _, h1, _⟩; exact h4 h1))
    have h4' : (xs.length : Int) - (2 + nth xs 1) - 1 < nth xs (lgAt xs) := by omega
    have q0 : (2 + nth xs 1 : Int) ≤ (xs.length : Int) := by omega
    clear hb HX hby e1 h3 hat hat2 hatI h4
    generalize nth xs (lgAt xs) = m2 at *
    generalize nth xs 0 = m0 at *
    generalize nth xs 1 = m1 at *
    go_enter Tryz.func116, Tryz.ntmps116
    go_wp2_with fail
    (with_reducible refine (specBytesValid_c h0).mono ?_); rintro e w1 ⟨rfl, rfl⟩
    rw [HB.out]
    go_upto_region 3 with fail
    generalize w.alloc (.cells #[.string ⟨#[]⟩, .string ⟨#[]⟩] 59) = w0 at *
    have x0 := blk_cell hA (j := 0) rfl
    have x1 := blk_cell hA (j := 1) rfl
    have f0 := blk_frozen hA 0
    have f1 := blk_frozen hA 1
    go_wp2
    change bodyPost _ _ _ _ _ (put2 w0 w.heap.size (.string ⟨#[]⟩) (.string ⟨#[]⟩))
    have hW := put2_blk hA (.string ⟨#[]⟩) (.string ⟨#[]⟩)
    have cW := put2_chg w0 w.heap.size (.string ⟨#[]⟩) (.string ⟨#[]⟩)
    generalize put2 w0 w.heap.size (.string ⟨#[]⟩) (.string ⟨#[]⟩) = wz at *
    have y0 := blk_cell hW (j := 0) rfl
    have y1 := blk_cell hW (j := 1) rfl
    exact bodyPost_ret (v := .tuple #[.agg #[.string ⟨#[]⟩, .string ⟨#[]⟩], .int .i64 0, .bool false]) (by simp [results, Tryz.results116, go_sem, y0, y1]) rfl (LgiO.no HN.out (cW.gr gA (Nat.le_refl _)))
  have h4' : ¬ ((xs.length : Int) - (2 + nth xs 1) - 1 < nth xs (lgAt xs)) := by omega
  obtain ⟨v1, hsl1, hr1⟩ := IntS.cutI h0 (lo := 2) (n := (nth xs 1).toNat) (by omega) (a := 2) (b := 2 + nth xs 1) rfl (by omega)
  obtain ⟨v2, hsl2, hr2⟩ := IntS.cutI h0 (lo := lgAt xs + 1) (n := (nth xs (lgAt xs)).toNat) (by omega) (a := 2 + nth xs 1 + 1) (b := 2 + nth xs 1 + 1 + nth xs (lgAt xs)) (by omega) (by omega)
  have LB1 := Lib.hid (fun (W : World) (hW : IntS W v1 ((xs.drop 2).take (nth xs 1).toNat)) => l1Bytes_c hW (bytes_take (bytes_drop hby _) _) (by rw [List.length_take]; omega))
  have LB2 := Lib.hid (fun (W : World) (hW : IntS W v2 ((xs.drop (lgAt xs + 1)).take (nth xs (lgAt xs)).toNat)) => l1Bytes_c hW (bytes_take (bytes_drop hby _) _) (by rw [List.length_take]; omega))
  have hx : lgX xs = (bt ((xs.drop 2).take (nth xs 1).toNat), bt ((xs.drop (lgAt xs + 1)).take (nth xs (lgAt xs)).toNat)) := rfl
  have HY : Hid (lgOk (lgX xs) = true → loginFrom xs = some (lgX xs, lgEnd xs)) := Lib.hid fun hk => by
    unfold loginFrom
    rw [if_pos ⟨hb, by omega, e1, h3, h4, hk⟩]
  have HM : Hid (lgOk (lgX xs) = false → loginFrom xs = none) := Lib.hid fun hk => HX.out (by rintro ⟨_, _, _, _, _, h2⟩; rw [hk] at h2; cases h2)
  have HE : Hid (2 + nth xs 1 + 1 + nth xs (lgAt xs) = (lgEnd xs : Int)) := Lib.hid (by have : lgEnd xs = lgAt xs + 1 + (nth xs (lgAt xs)).toNat := rfl; omega)
  have hn1 : (bt ((xs.drop 2).take (nth xs 1).toNat)).length ≤ 2000000 := by rw [bt_len, List.length_take, List.length_drop]; omega
  have hn2 : (bt ((xs.drop (lgAt xs + 1)).take (nth xs (lgAt xs)).toNat)).length ≤ 2000000 := by rw [bt_len, List.length_take, List.length_drop]; omega
  have q0 : (2 + nth xs 1 : Int) ≤ (xs.length : Int) := by omega
  have q1 : 2 + nth xs 1 + 1 + nth xs (lgAt xs) ≤ (xs.length : Int) := by omega
  rw [hx] at HY HM
  generalize bt ((xs.drop 2).take (nth xs 1).toNat) = t1 at *
  generalize bt ((xs.drop (lgAt xs + 1)).take (nth xs (lgAt xs)).toNat) = t2 at *
  rw [← S_len] at hn1 hn2
  rw [← tx_S t1, ← tx_S t2] at HY HM
  generalize S t1 = su at *
  generalize S t2 = sv at *
  clear HX hb hby e1 h3 h4 hx hat hat2 hatI
  generalize (xs.drop 2).take (nth xs 1).toNat = l1 at *
  generalize (xs.drop (lgAt xs + 1)).take (nth xs (lgAt xs)).toNat = l2 at *
  generalize nth xs (lgAt xs) = m2 at *
  generalize nth xs 0 = m0 at *
  generalize nth xs 1 = m1 at *
  go_enter Tryz.func116, Tryz.ntmps116
  go_wp2_with fail
  (with_reducible refine (specBytesValid_c h0).mono ?_); rintro e w1 ⟨rfl, rfl⟩
  rw [HB.out]
  go_upto_region 7 with fail
  generalize w.alloc (.cells #[.string ⟨#[]⟩, .string ⟨#[]⟩] 59) = w0 at *
  have HA := Lib.hid hA
  have hw1 : IntKind.i64.wrap (2 + m1 + 1) = 2 + m1 + 1 := by rw [IntKind.wrap_i64]; omega
  have hw2 : IntKind.i64.wrap (2 + m1 + 1 + m2) = 2 + m1 + 1 + m2 := by rw [IntKind.wrap_i64]; omega
  have hw0 : IntKind.i64.wrap (2 + m1) = 2 + m1 := by rw [IntKind.wrap_i64]; omega
  clear hA d0 d1 d2 x0 i1 i2
  go_cut [7] (fun u wx => LgCell w0 su sv u wx)
  case first =>
    go_region_with (first
      | (go_at_call 146; (with_reducible refine (LB1.out _ (hr1.kept (by repeat (first | assumption | exact Gr.refl _ | refine Gr.drew ?_ | refine Gr.alloc ?_ _)))).mono ?_); rintro e w4 ⟨rfl, g4'⟩; have hQ4 : w4.heap[w0.heap.size]? = some (.cells #[.string ⟨#[]⟩, .string ⟨#[]⟩] 59 (0, 0)) := g4'.blk (heap_alloc_new w0 _); have HQ4 := Lib.hid hQ4; have g4 : Gr w0 w4 := Gr.trans (by repeat (first | assumption | exact Gr.refl _ | refine Gr.drew ?_ | refine Gr.alloc ?_ _)) g4'; clear hQ4)
      | (go_at_call 146; (with_reducible refine (LB1.out _ (hr1.kept (by repeat (first | assumption | exact Gr.refl _ | refine Gr.drew ?_ | refine Gr.alloc ?_ _)))).mono ?_); rintro e w4 ⟨rfl, g4'⟩; have g4 : Gr w0 w4 := Gr.trans (by repeat (first | assumption | exact Gr.refl _ | refine Gr.drew ?_ | refine Gr.alloc ?_ _)) g4')
      | (go_at_call 146; (with_reducible refine (LB2.out _ (hr2.kept (by repeat (first | assumption | exact Gr.refl _ | refine Gr.drew ?_ | refine Gr.alloc ?_ _)))).mono ?_); rintro e w5 ⟨rfl, g5'⟩; have HQ5 := Lib.hid (g5'.blk HQ4.out); have x0 := blk_cell HQ5.out (j := 0) rfl; have x1 := blk_cell HQ5.out (j := 1) rfl; have f0 := blk_frozen HQ5.out 0; have f1 := blk_frozen HQ5.out 1; have g5 : Gr w0 w5 := Gr.trans (by repeat (first | assumption | exact Gr.refl _ | refine Gr.drew ?_ | refine Gr.alloc ?_ _)) g5')
      | (go_at_call 146; (with_reducible refine (LB2.out _ (hr2.kept (by repeat (first | assumption | exact Gr.refl _ | refine Gr.drew ?_ | refine Gr.alloc ?_ _)))).mono ?_); rintro e w5 ⟨rfl, g5'⟩; have hQ5 : w5.heap[w4.heap.size]? = some (.cells #[.string ⟨#[]⟩, .string ⟨#[]⟩] 59 (0, 0)) := g5'.blk (heap_alloc_new w4 _); have HQ5 := Lib.hid hQ5; have x0 := blk_cell HQ5.out (j := 0) rfl; have x1 := blk_cell HQ5.out (j := 1) rfl; have f0 := blk_frozen HQ5.out 0; have f1 := blk_frozen HQ5.out 1; have g5 : Gr w0 w5 := Gr.trans (by repeat (first | assumption | exact Gr.refl _ | refine Gr.drew ?_ | refine Gr.alloc ?_ _)) g5'; clear hQ5)
      | (go_at_call 146; (with_reducible refine (LB2.out _ (hr2.kept (by repeat (first | assumption | exact Gr.refl _ | refine Gr.drew ?_ | refine Gr.alloc ?_ _)))).mono ?_); rintro e w5 ⟨rfl, g5'⟩; have g5 : Gr w0 w5 := Gr.trans (by repeat (first | assumption | exact Gr.refl _ | refine Gr.drew ?_ | refine Gr.alloc ?_ _)) g5'))
    all_goals
      go_wp2_with fail
      go_meet
      first
        | (with_reducible exact LgCell.late rfl g5)
        | exact LgCell.early HQ5.out (Nat.le_refl _) g5
        | exact LgCell.early HQ5.out g4.sz g5
  case rest =>
    obtain ⟨b, rfl, hb1, hC, g6⟩ := hcut
    have HC := Lib.hid hC
    have HB6 := Lib.hid (g6.blk HA.out)
    have G6 := gA.trans g6
    clear hC g6 LB1 LB2 hr1 hr2 hsl1 hsl2 HA
    have s0 := blk_cell HC.out (j := 0) rfl
    have s1 := blk_cell HC.out (j := 1) rfl
    cases hok : lgOk (tx su, tx sv)
    · have HN := Lib.hid (HM.out hok)
      have HOK := Lib.hid hok
      clear HM HY hok
      go_wp2_with fail
      (with_reducible refine (l11Ok_c _ su sv hn1 hn2).mono ?_); rintro e w7 ⟨rfl, g7⟩
      rw [HOK.out]
      have HB7 := Lib.hid (g7.blk HB6.out)
      have G7 := G6.trans g7
      clear s0 s1
      have x0 := blk_cell HB7.out (j := 0) rfl
      have x1 := blk_cell HB7.out (j := 1) rfl
      have f0 := blk_frozen HB7.out 0
      have f1 := blk_frozen HB7.out 1
      go_wp2
      change bodyPost _ _ _ _ _ (put2 w7 w.heap.size (.string ⟨#[]⟩) (.string ⟨#[]⟩))
      have hW := put2_blk HB7.out (.string ⟨#[]⟩) (.string ⟨#[]⟩)
      have cW := put2_chg w7 w.heap.size (.string ⟨#[]⟩) (.string ⟨#[]⟩)
      generalize put2 w7 w.heap.size (.string ⟨#[]⟩) (.string ⟨#[]⟩) = wz at *
      have y0 := blk_cell hW (j := 0) rfl
      have y1 := blk_cell hW (j := 1) rfl
      exact bodyPost_ret (v := .tuple #[.agg #[.string ⟨#[]⟩, .string ⟨#[]⟩], .int .i64 0, .bool false]) (by simp [results, Tryz.results116, go_sem, y0, y1]) rfl (LgiO.no HN.out (cW.gr G7 (Nat.le_refl _)))
    · have HN := Lib.hid (HY.out hok)
      have HOK := Lib.hid hok
      clear HM HY hok
      go_wp2_with fail
      (with_reducible refine (l11Ok_c _ su sv hn1 hn2).mono ?_); rintro e w7 ⟨rfl, g7⟩
      rw [HOK.out]
      have HB7 := Lib.hid (g7.blk HB6.out)
      have HC7 := Lib.hid (g7.blk HC.out)
      have G7 := G6.trans g7
      clear s0 s1
      have s0 := blk_cell HC7.out (j := 0) rfl
      have s1 := blk_cell HC7.out (j := 1) rfl
      have x0 := blk_cell HB7.out (j := 0) rfl
      have x1 := blk_cell HB7.out (j := 1) rfl
      have f0 := blk_frozen HB7.out 0
      have f1 := blk_frozen HB7.out 1
      go_wp2
      change bodyPost _ _ _ _ _ (put2 w7 w.heap.size (.string su) (.string sv))
      have hW := put2_blk HB7.out (.string su) (.string sv)
      have cW := put2_chg w7 w.heap.size (.string su) (.string sv)
      generalize put2 w7 w.heap.size (.string su) (.string sv) = wz at *
      have y0 := blk_cell hW (j := 0) rfl
      have y1 := blk_cell hW (j := 1) rfl
      exact bodyPost_ret (v := .tuple #[.agg #[.string su, .string sv], .int .i64 (2 + m1 + 1 + m2), .bool true]) (by simp [results, Tryz.results116, go_sem, y0, y1]) rfl (by rw [HE.out]; exact LgiO.yes HN.out (cW.gr G7 (Nat.le_refl _)))
end Go.Proofs.YtpdjibfcbjknhaaGreatDoor
