/- spec.OldFrom. -/
import Derived.Test.YtncnnfmfpilonaaGreatDoorOldH
import Derived.Deep.RegionHeld3
namespace Go.Proofs.YtncnnfmfpilonaaGreatDoor
open Go.RowKit
theorem old_no1 {xs : List Int} (h : ¬ (bv xs = true ∧ 9 ≤ xs.length ∧ nth xs 0 = 4)) : sizeOld xs = none := by unfold sizeOld oldFrom; rw [if_neg h]; rfl
theorem old_no2 {xs : List Int} (h : bv xs = true ∧ 9 ≤ xs.length ∧ nth xs 0 = 4) (h2 : zeroAt xs 8 = none) : sizeOld xs = none := by unfold sizeOld oldFrom; rw [if_pos h, h2]; rfl
theorem old_aNo {xs : List Int} (h : bv xs = true ∧ 9 ≤ xs.length ∧ nth xs 0 = 4) {e : Nat} (h2 : zeroAt xs 8 = some e) (h3 : ¬ (nth xs 4 = 0 ∧ nth xs 5 = 0 ∧ nth xs 6 = 0)) (h4 : oldOk (oldA xs e) = false) : sizeOld xs = none := by
  unfold sizeOld oldFrom; rw [if_pos h, h2]; simp only []; rw [if_neg h3, if_neg (by rw [h4]; simp)]; rfl
theorem old_aYes {xs : List Int} (h : bv xs = true ∧ 9 ≤ xs.length ∧ nth xs 0 = 4) {e : Nat} (h2 : zeroAt xs 8 = some e) (h3 : ¬ (nth xs 4 = 0 ∧ nth xs 5 = 0 ∧ nth xs 6 = 0)) (h4 : oldOk (oldA xs e) = true) : sizeOld xs = some (e + 1) := by
  unfold sizeOld oldFrom; rw [if_pos h, h2]; simp only []; rw [if_neg h3, if_pos h4]; rfl
theorem old_no3 {xs : List Int} (h : bv xs = true ∧ 9 ≤ xs.length ∧ nth xs 0 = 4) {e : Nat} (h2 : zeroAt xs 8 = some e) (h3 : nth xs 4 = 0 ∧ nth xs 5 = 0 ∧ nth xs 6 = 0) (h4 : zeroAt xs (e + 1) = none) : sizeOld xs = none := by
  unfold sizeOld oldFrom; rw [if_pos h, h2]; simp only []; rw [if_pos h3, h4]; rfl
theorem old_nNo {xs : List Int} (h : bv xs = true ∧ 9 ≤ xs.length ∧ nth xs 0 = 4) {e l : Nat} (h2 : zeroAt xs 8 = some e) (h3 : nth xs 4 = 0 ∧ nth xs 5 = 0 ∧ nth xs 6 = 0) (h4 : zeroAt xs (e + 1) = some l) (h5 : ¬ (nth xs 7 = 1 ∧ oldOk (oldN xs e l) = true)) : sizeOld xs = none := by
  unfold sizeOld oldFrom; rw [if_pos h, h2]; simp only []; rw [if_pos h3, h4]; simp only []; rw [if_neg h5]; rfl
theorem old_nYes {xs : List Int} (h : bv xs = true ∧ 9 ≤ xs.length ∧ nth xs 0 = 4) {e l : Nat} (h2 : zeroAt xs 8 = some e) (h3 : nth xs 4 = 0 ∧ nth xs 5 = 0 ∧ nth xs 6 = 0) (h4 : zeroAt xs (e + 1) = some l) (h5 : nth xs 7 = 1) (h6 : oldOk (oldN xs e l) = true) : sizeOld xs = some (l + 1) := by
  unfold sizeOld oldFrom; rw [if_pos h, h2]; simp only []; rw [if_pos h3, h4]; simp only []; rw [if_pos ⟨h5, h6⟩]; rfl
/-- A request in a variable. -/
def OldCell (w0 : World) (cs : Array Value) (u : Value) (wx : World) : Prop := ∃ b6, u = .pointer (some ⟨b6, 0, none⟩) ∧ wx.heap[b6]? = some (.cells cs 76 (0, 0)) ∧ w0.heap.size ≤ b6 ∧ Gr w0 wx
theorem OldCell.late {w0 w5 : World} {cs : Array Value} {m : Nat} (hm : m = w5.heap.size) (g : Gr w0 w5) : OldCell w0 cs (.pointer (some ⟨m, 0, none⟩)) (w5.alloc (.cells cs 76)) := by
  subst hm; exact ⟨_, rfl, heap_alloc_new _ _, g.sz, g.alloc _⟩
theorem OldCell.dr {w0 wx : World} {cs : Array Value} {u : Value} (h : OldCell w0 cs u wx) : OldCell w0 cs u wx.drew := by
  obtain ⟨b6, h1, h2, h3, h4⟩ := h
  exact ⟨b6, h1, (Gr.refl wx).drew.blk h2, h3, h4.drew⟩
theorem OldCell.put {w0 w5 : World} {b6 : Nat} {c0 c1 c2 c3 c4 c5 : Value} (h : w5.heap[b6]? = some (.cells #[c0, c1, c2, c3, c4, c5] 76 (0, 0))) (hb : w0.heap.size ≤ b6) (g : Gr w0 w5) (a0 a1 a2 a3 a4 a5 : Value) :
    OldCell w0 #[a0, a1, a2, a3, a4, a5] (.pointer (some ⟨b6, 0, none⟩)) (((((w5.setCell ⟨b6, 0, none⟩ a0).setCell ⟨b6, 1, none⟩ a1).setCell ⟨b6, 2, none⟩ a2).setCell ⟨b6, 3, none⟩ a3).setCell ⟨b6, 4, none⟩ a4 |>.setCell ⟨b6, 5, none⟩ a5) :=
  ⟨b6, rfl, put6_blk h _ _ _ _ _ _, hb, (put6_chg w5 b6 a0 a1 a2 a3 a4 a5).gr g hb⟩
theorem IntS.emp (w : World) (a : Addr) : IntS w (.slice (some a) 0 0) [] := ⟨rfl, some a, 0, rfl, Nat.le_refl _, by decide, by simp, fun b _ j u hu => by simp [ints] at hu⟩
/-- An address put into a request. -/
def AdrIn (w0 : World) (b6 : Nat) (c5 c0 k : Value) (qs : List Int) (nm p : Value) (wx : World) : Prop :=
  ∃ (q : Option Addr) (c : Nat), wx.heap[b6]? = some (.cells #[c0, k, .slice q qs.length c, nm, p, c5] 76 (0, 0)) ∧ IntS wx (.slice q qs.length c) qs ∧ Gr w0 wx
theorem AdrIn.mk {w0 w5 : World} {b6 : Nat} {c0 c1 c2 c3 c4 c5 : Value} (h : w5.heap[b6]? = some (.cells #[c0, c1, c2, c3, c4, c5] 76 (0, 0))) (hb : w0.heap.size ≤ b6) (g : Gr w0 w5) {q : Option Addr} {c : Nat} {qs : List Int}
    (hq : IntB (b6 + 1) w5.heap.size 3 w5 (.slice q qs.length c) qs) (k nm p : Value) :
    AdrIn w0 b6 c5 c0 k qs nm p ((((w5.setCell ⟨b6, 1, none⟩ k).setCell ⟨b6, 2, none⟩ (.slice q qs.length c)).setCell ⟨b6, 3, none⟩ nm).setCell ⟨b6, 4, none⟩ p) :=
  ⟨q, c, put4o_blk h _ _ _ _, (hq.chg (put4o_chg w5 b6 k _ nm p) (.inr (Nat.le_refl _))).s, (put4o_chg w5 b6 k _ nm p).gr g hb⟩
theorem AdrIn.dr {w0 wx : World} {b6 : Nat} {c5 c0 k nm p : Value} {qs : List Int} (h : AdrIn w0 b6 c5 c0 k qs nm p wx) : AdrIn w0 b6 c5 c0 k qs nm p wx.drew := by
  obtain ⟨q, c, h1, h2, h3⟩ := h
  exact ⟨q, c, (Gr.refl wx).drew.blk h1, h2.kept (Gr.refl wx).drew, h3.drew⟩
theorem l1OfG {w : World} {v : Value} {xs : List Int} (h : IntS w v xs) (hb : bytesOnly xs) (h4 : xs.length ≤ 4) : Hid (∀ W, Gr w W → Calls Tryz.prog 110 #[v] W fun e w' => e = .returned (.int .i64 (numOf xs)) ∧ W = w') :=
  Lib.hid fun _ g => l1Of_c (h.kept g) hb h4
theorem l1BytesG {w : World} {v : Value} {xs : List Int} (h : IntS w v xs) (hb : bytesOnly xs) (hl : xs.length ≤ 1000000000) : Hid (∀ W, Gr w W → Calls Tryz.prog 69 #[v] W fun e w' => e = .returned (.string (S (bt xs))) ∧ Gr W w') :=
  Lib.hid fun _ g => l1Bytes_c (h.kept g) hb hl
theorem AdrIn.mkE {w0 w5 : World} {b6 : Nat} {c0 c1 c2 c3 c4 c5 : Value} (h : w5.heap[b6]? = some (.cells #[c0, c1, c2, c3, c4, c5] 76 (0, 0))) (hb : w0.heap.size ≤ b6) (g : Gr w0 w5) (a : Addr) (k nm p : Value) :
    AdrIn w0 b6 c5 c0 k [] nm p ((((w5.setCell ⟨b6, 1, none⟩ k).setCell ⟨b6, 2, none⟩ (.slice (some a) 0 0)).setCell ⟨b6, 3, none⟩ nm).setCell ⟨b6, 4, none⟩ p) :=
  ⟨some a, 0, put4o_blk h _ _ _ _, IntS.emp _ a, (put4o_chg w5 b6 k _ nm p).gr g hb⟩
set_option maxRecDepth 20000 in
set_option maxHeartbeats 80000000 in
theorem specOldFrom_c {w : World} {v : Value} {xs : List Int} (h : IntS w v xs) (hlen : xs.length ≤ 1048576) :
    Calls Tryz.prog 66 #[v] w (OldPost (sizeOld xs) w) := by
  obtain ⟨pp, cap, rfl, hcp1, hcp2⟩ := h.form
  have gA := gr_alloc w (.cells #[.int .i64 0, .int .i64 0, .slice none 0 0, .string ⟨#[]⟩, .int .i64 0, .string ⟨#[]⟩] 76)
  have hB0 := heap_alloc_new w (.cells #[.int .i64 0, .int .i64 0, .slice none 0 0, .string ⟨#[]⟩, .int .i64 0, .string ⟨#[]⟩] 76)
  have hz0 : w.heap.size < (w.alloc (.cells #[.int .i64 0, .int .i64 0, .slice none 0 0, .string ⟨#[]⟩, .int .i64 0, .string ⟨#[]⟩] 76)).heap.size := by simp
  have h0 := h.kept gA
  have F1 := @old_no1 xs
  cases hb : bv xs
  · have HN := Lib.hid (F1 (by rintro ⟨h1, _⟩; rw [hb] at h1; cases h1))
    have HB := Lib.hid hb
    clear hb F1
    go_enter Tryz.func66, Tryz.ntmps66
    go_wp2_with fail
    (with_reducible refine (specBytesValid_c h0).mono ?_); rintro e w1 ⟨rfl, rfl⟩
    rw [HB.out]
    generalize w.alloc (.cells #[.int .i64 0, .int .i64 0, .slice none 0 0, .string ⟨#[]⟩, .int .i64 0, .string ⟨#[]⟩] 76) = w0 at *
    have x0 := blk_cell hB0 (j := 0) rfl
    have x1 := blk_cell hB0 (j := 1) rfl
    have x2 := blk_cell hB0 (j := 2) rfl
    have x3 := blk_cell hB0 (j := 3) rfl
    have x4 := blk_cell hB0 (j := 4) rfl
    have x5 := blk_cell hB0 (j := 5) rfl
    have f0 := blk_frozen hB0 0
    have f1 := blk_frozen hB0 1
    have f2 := blk_frozen hB0 2
    have f3 := blk_frozen hB0 3
    have f4 := blk_frozen hB0 4
    have f5 := blk_frozen hB0 5
    go_wp2
    change bodyPost _ _ _ _ _ (put6 w0 w.heap.size (.int .i64 0) (.int .i64 0) (.slice none 0 0) (.string ⟨#[]⟩) (.int .i64 0) (.string ⟨#[]⟩))
    have hW := put6_blk hB0 (.int .i64 0) (.int .i64 0) (.slice none 0 0) (.string ⟨#[]⟩) (.int .i64 0) (.string ⟨#[]⟩)
    have cW := put6_chg w0 w.heap.size (.int .i64 0) (.int .i64 0) (.slice none 0 0) (.string ⟨#[]⟩) (.int .i64 0) (.string ⟨#[]⟩)
    generalize put6 w0 w.heap.size (.int .i64 0) (.int .i64 0) (.slice none 0 0) (.string ⟨#[]⟩) (.int .i64 0) (.string ⟨#[]⟩) = wz at *
    have y0 := blk_cell hW (j := 0) rfl
    have y1 := blk_cell hW (j := 1) rfl
    have y2 := blk_cell hW (j := 2) rfl
    have y3 := blk_cell hW (j := 3) rfl
    have y4 := blk_cell hW (j := 4) rfl
    have y5 := blk_cell hW (j := 5) rfl
    exact bodyPost_ret (v := .tuple #[.agg #[.int .i64 0, .int .i64 0, .slice none 0 0, .string ⟨#[]⟩, .int .i64 0, .string ⟨#[]⟩], .int .i64 0, .bool false]) (by simp [results, Tryz.results66, go_sem, y0, y1, y2, y3, y4, y5]) rfl (OldPost.no HN.out (cW.gr gA (Nat.le_refl _)))
  have hby := bv_bytes hb
  have HB := Lib.hid hb
  by_cases h9 : xs.length < 9
  · have HN := Lib.hid (F1 (by rintro ⟨_, h1, _⟩; omega))
    have h9' : (xs.length : Int) < 9 := by omega
    clear hb F1 hby
    go_enter Tryz.func66, Tryz.ntmps66
    go_wp2_with fail
    (with_reducible refine (specBytesValid_c h0).mono ?_); rintro e w1 ⟨rfl, rfl⟩
    rw [HB.out]
    generalize w.alloc (.cells #[.int .i64 0, .int .i64 0, .slice none 0 0, .string ⟨#[]⟩, .int .i64 0, .string ⟨#[]⟩] 76) = w0 at *
    have x0 := blk_cell hB0 (j := 0) rfl
    have x1 := blk_cell hB0 (j := 1) rfl
    have x2 := blk_cell hB0 (j := 2) rfl
    have x3 := blk_cell hB0 (j := 3) rfl
    have x4 := blk_cell hB0 (j := 4) rfl
    have x5 := blk_cell hB0 (j := 5) rfl
    have f0 := blk_frozen hB0 0
    have f1 := blk_frozen hB0 1
    have f2 := blk_frozen hB0 2
    have f3 := blk_frozen hB0 3
    have f4 := blk_frozen hB0 4
    have f5 := blk_frozen hB0 5
    go_wp2
    change bodyPost _ _ _ _ _ (put6 w0 w.heap.size (.int .i64 0) (.int .i64 0) (.slice none 0 0) (.string ⟨#[]⟩) (.int .i64 0) (.string ⟨#[]⟩))
    have hW := put6_blk hB0 (.int .i64 0) (.int .i64 0) (.slice none 0 0) (.string ⟨#[]⟩) (.int .i64 0) (.string ⟨#[]⟩)
    have cW := put6_chg w0 w.heap.size (.int .i64 0) (.int .i64 0) (.slice none 0 0) (.string ⟨#[]⟩) (.int .i64 0) (.string ⟨#[]⟩)
    generalize put6 w0 w.heap.size (.int .i64 0) (.int .i64 0) (.slice none 0 0) (.string ⟨#[]⟩) (.int .i64 0) (.string ⟨#[]⟩) = wz at *
    have y0 := blk_cell hW (j := 0) rfl
    have y1 := blk_cell hW (j := 1) rfl
    have y2 := blk_cell hW (j := 2) rfl
    have y3 := blk_cell hW (j := 3) rfl
    have y4 := blk_cell hW (j := 4) rfl
    have y5 := blk_cell hW (j := 5) rfl
    exact bodyPost_ret (v := .tuple #[.agg #[.int .i64 0, .int .i64 0, .slice none 0 0, .string ⟨#[]⟩, .int .i64 0, .string ⟨#[]⟩], .int .i64 0, .bool false]) (by simp [results, Tryz.results66, go_sem, y0, y1, y2, y3, y4, y5]) rfl (OldPost.no HN.out (cW.gr gA (Nat.le_refl _)))
  have h9' : ¬ (xs.length : Int) < 9 := by omega
  obtain ⟨a0, x0, d0⟩ := h0.ixN rfl 0 0 rfl (by omega)
  by_cases h4 : nth xs 0 = 4
  rotate_left
  · have HN := Lib.hid (F1 (by rintro ⟨_, _, h1⟩; exact h4 h1))
    have h4' : (nth xs 0 != 4) = true := by simpa using h4
    clear hb F1 hby h4
    generalize nth xs 0 = y0 at *
    go_enter Tryz.func66, Tryz.ntmps66
    go_wp2_with fail
    (with_reducible refine (specBytesValid_c h0).mono ?_); rintro e w1 ⟨rfl, rfl⟩
    rw [HB.out]
    generalize w.alloc (.cells #[.int .i64 0, .int .i64 0, .slice none 0 0, .string ⟨#[]⟩, .int .i64 0, .string ⟨#[]⟩] 76) = w0 at *
    have x0 := blk_cell hB0 (j := 0) rfl
    have x1 := blk_cell hB0 (j := 1) rfl
    have x2 := blk_cell hB0 (j := 2) rfl
    have x3 := blk_cell hB0 (j := 3) rfl
    have x4 := blk_cell hB0 (j := 4) rfl
    have x5 := blk_cell hB0 (j := 5) rfl
    have f0 := blk_frozen hB0 0
    have f1 := blk_frozen hB0 1
    have f2 := blk_frozen hB0 2
    have f3 := blk_frozen hB0 3
    have f4 := blk_frozen hB0 4
    have f5 := blk_frozen hB0 5
    go_wp2
    change bodyPost _ _ _ _ _ (put6 w0 w.heap.size (.int .i64 0) (.int .i64 0) (.slice none 0 0) (.string ⟨#[]⟩) (.int .i64 0) (.string ⟨#[]⟩))
    have hW := put6_blk hB0 (.int .i64 0) (.int .i64 0) (.slice none 0 0) (.string ⟨#[]⟩) (.int .i64 0) (.string ⟨#[]⟩)
    have cW := put6_chg w0 w.heap.size (.int .i64 0) (.int .i64 0) (.slice none 0 0) (.string ⟨#[]⟩) (.int .i64 0) (.string ⟨#[]⟩)
    generalize put6 w0 w.heap.size (.int .i64 0) (.int .i64 0) (.slice none 0 0) (.string ⟨#[]⟩) (.int .i64 0) (.string ⟨#[]⟩) = wz at *
    have y0 := blk_cell hW (j := 0) rfl
    have y1 := blk_cell hW (j := 1) rfl
    have y2 := blk_cell hW (j := 2) rfl
    have y3 := blk_cell hW (j := 3) rfl
    have y4 := blk_cell hW (j := 4) rfl
    have y5 := blk_cell hW (j := 5) rfl
    exact bodyPost_ret (v := .tuple #[.agg #[.int .i64 0, .int .i64 0, .slice none 0 0, .string ⟨#[]⟩, .int .i64 0, .string ⟨#[]⟩], .int .i64 0, .bool false]) (by simp [results, Tryz.results66, go_sem, y0, y1, y2, y3, y4, y5]) rfl (OldPost.no HN.out (cW.gr gA (Nat.le_refl _)))
  have h4' : (nth xs 0 != 4) = false := by simpa using h4
  have C1 : Hid (bv xs = true ∧ 9 ≤ xs.length ∧ nth xs 0 = 4) := Lib.hid ⟨hb, by omega, h4⟩
  have LE := l4End_c h0 8 8 rfl (by omega)
  clear hb F1 h4
  cases hz : zeroAt xs 8 with
  | none =>
    have HN := Lib.hid (old_no2 C1.out hz)
    rw [hz] at LE
    have LEH := Lib.hid LE
    clear hz LE hby
    generalize nth xs 0 = y0 at *
    go_enter Tryz.func66, Tryz.ntmps66
    go_wp2_with fail
    (with_reducible refine (specBytesValid_c h0).mono ?_); rintro e w1 ⟨rfl, rfl⟩
    rw [HB.out]
    go_wp2_with fail
    (with_reducible refine (LEH.out).mono ?_); rintro e w1 ⟨rfl, rfl⟩
    generalize w.alloc (.cells #[.int .i64 0, .int .i64 0, .slice none 0 0, .string ⟨#[]⟩, .int .i64 0, .string ⟨#[]⟩] 76) = w0 at *
    have e1 : endI none = -1 := rfl
    rw [e1]
    clear e1
    have x0 := blk_cell hB0 (j := 0) rfl
    have x1 := blk_cell hB0 (j := 1) rfl
    have x2 := blk_cell hB0 (j := 2) rfl
    have x3 := blk_cell hB0 (j := 3) rfl
    have x4 := blk_cell hB0 (j := 4) rfl
    have x5 := blk_cell hB0 (j := 5) rfl
    have f0 := blk_frozen hB0 0
    have f1 := blk_frozen hB0 1
    have f2 := blk_frozen hB0 2
    have f3 := blk_frozen hB0 3
    have f4 := blk_frozen hB0 4
    have f5 := blk_frozen hB0 5
    go_wp2
    change bodyPost _ _ _ _ _ (put6 w0 w.heap.size (.int .i64 0) (.int .i64 0) (.slice none 0 0) (.string ⟨#[]⟩) (.int .i64 0) (.string ⟨#[]⟩))
    have hW := put6_blk hB0 (.int .i64 0) (.int .i64 0) (.slice none 0 0) (.string ⟨#[]⟩) (.int .i64 0) (.string ⟨#[]⟩)
    have cW := put6_chg w0 w.heap.size (.int .i64 0) (.int .i64 0) (.slice none 0 0) (.string ⟨#[]⟩) (.int .i64 0) (.string ⟨#[]⟩)
    generalize put6 w0 w.heap.size (.int .i64 0) (.int .i64 0) (.slice none 0 0) (.string ⟨#[]⟩) (.int .i64 0) (.string ⟨#[]⟩) = wz at *
    have y0 := blk_cell hW (j := 0) rfl
    have y1 := blk_cell hW (j := 1) rfl
    have y2 := blk_cell hW (j := 2) rfl
    have y3 := blk_cell hW (j := 3) rfl
    have y4 := blk_cell hW (j := 4) rfl
    have y5 := blk_cell hW (j := 5) rfl
    exact bodyPost_ret (v := .tuple #[.agg #[.int .i64 0, .int .i64 0, .slice none 0 0, .string ⟨#[]⟩, .int .i64 0, .string ⟨#[]⟩], .int .i64 0, .bool false]) (by simp [results, Tryz.results66, go_sem, y0, y1, y2, y3, y4, y5]) rfl (OldPost.no HN.out (cW.gr gA (Nat.le_refl _)))
  | some e =>
    obtain ⟨ze1, ze2, _, _⟩ := zeroAt_some hz
    rw [hz] at LE
    have LE' : Calls Tryz.prog 109 #[.slice pp xs.length cap, .int .i64 8] (w.alloc (.cells #[.int .i64 0, .int .i64 0, .slice none 0 0, .string ⟨#[]⟩, .int .i64 0, .string ⟨#[]⟩] 76)) fun e' w' => e' = .returned (.int .i64 (e : Int)) ∧ (w.alloc (.cells #[.int .i64 0, .int .i64 0, .slice none 0 0, .string ⟨#[]⟩, .int .i64 0, .string ⟨#[]⟩] 76)) = w' := LE
    have LEH := Lib.hid LE'
    have HZ := Lib.hid hz
    have hlt0 : ¬ ((e : Int) < 0) := by omega
    clear LE LE' hz
    obtain ⟨a1, x1, d1⟩ := h0.ixN rfl 1 1 rfl (by omega)
    obtain ⟨a4, x4, d4⟩ := h0.ixN rfl 4 4 rfl (by omega)
    obtain ⟨a5, x5, d5⟩ := h0.ixN rfl 5 5 rfl (by omega)
    obtain ⟨a6, x6, d6⟩ := h0.ixN rfl 6 6 rfl (by omega)
    obtain ⟨a7, x7, d7⟩ := h0.ixN rfl 7 7 rfl (by omega)
    obtain ⟨vu, hslu, hru⟩ := IntS.cutI h0 (lo := 8) (n := e - 8) (by omega) (a := 8) (b := (e : Int)) rfl (by omega)
    obtain ⟨vq, hslq, hrq⟩ := IntS.cutI h0 (lo := 4) (n := 4) (by omega) (a := 4) (b := 8) rfl rfl
    obtain ⟨vp, hslp, hrp⟩ := IntS.cutI h0 (lo := 2) (n := 2) (by omega) (a := 2) (b := 4) rfl rfl
    have LBU := l1BytesG hru (bytes_take (bytes_drop hby 8) _) (by rw [List.length_take, List.length_drop]; omega)
    have LOP := l1OfG hrp (bytes_take (bytes_drop hby 2) _) (by rw [List.length_take, List.length_drop]; omega)
    have hql : ((xs.drop 4).take 4).length = 4 := by rw [List.length_take, List.length_drop]; omega
    have HQL := Lib.hid hql
    have hul : (bt ((xs.drop 8).take (e - 8))).length ≤ 1048576 := by rw [bt_len, List.length_take, List.length_drop]; omega
    have i8 : (8 : Int) ≤ (e : Int) := by omega
    have ilt : (e : Int) ≤ (xs.length : Int) := by omega
    have BYH := Lib.hid hby
    have HOA : Hid (oldA xs e = ⟨nth xs 1, ⟨1, (xs.drop 4).take 4, [], numOf ((xs.drop 2).take 2)⟩, bt ((xs.drop 8).take (e - 8))⟩) := rfl
    have HON : Hid (∀ l, oldN xs e l = ⟨nth xs 1, ⟨3, [], bt ((xs.drop (e + 1)).take (l - (e + 1))), numOf ((xs.drop 2).take 2)⟩, bt ((xs.drop 8).take (e - 8))⟩) := Lib.hid fun l => rfl
    clear hql hby hru hrp
    generalize hP : numOf ((xs.drop 2).take 2) = P at *
    have HPP := Lib.hid hP
    generalize hUU : bt ((xs.drop 8).take (e - 8)) = U at *
    have HUU := Lib.hid hUU
    generalize hQ : (xs.drop 4).take 4 = Q at *
    have HQQ := Lib.hid hQ
    clear hP hUU hQ
    generalize nth xs 0 = y0 at d0 h4'
    have HY1 : Hid (nth xs 1 = nth xs 1) := rfl
    go_enter Tryz.func66, Tryz.ntmps66
    go_wp2_with fail
    (with_reducible refine (specBytesValid_c h0).mono ?_); rintro e w1 ⟨rfl, rfl⟩
    rw [HB.out]
    go_wp2_with fail
    (with_reducible refine (LEH.out).mono ?_); rintro e w1 ⟨rfl, rfl⟩
    go_upto_region 6 with fail
    generalize w.alloc (.cells #[.int .i64 0, .int .i64 0, .slice none 0 0, .string ⟨#[]⟩, .int .i64 0, .string ⟨#[]⟩] 76) = w0 at *
    have HB0 := Lib.hid hB0
    clear hB0
    go_cut [6] (fun u wx => OldCell w0 #[.int .i64 (nth xs 1), .int .i64 0, .slice none 0 0, .string ⟨#[]⟩, .int .i64 0, .string (S U)] u wx)
    case first =>
      clear h h0 hcp1 hcp2 HB h9 h9' x0 d0 h4' C1 LEH HZ hlt0 x4 x5 x6 x7 d4 d5 d6 d7 hslq hslp LOP HQL hul BYH HOA HON HPP HUU HQQ HY1 HB0 gA hz0 ze1 ze2 hlen
      generalize nth xs 1 = y1 at *
      have ne1 : ∀ o, (w0.alloc o).cell? a1 = some (.int .i64 y1) := fun o => (gr_alloc w0 o).cell d1
      go_region_with (first
        | (go_at_call 69; (with_reducible refine (LBU.out _ (by repeat (first | assumption | exact Gr.refl _ | refine Gr.alloc ?_ _ | refine Gr.drew ?_))).mono ?_); rintro e' w5 ⟨rfl, g5'⟩; have g5 : Gr w0 w5 := Gr.trans (by repeat (first | exact Gr.refl w0 | refine Gr.alloc ?_ _ | refine Gr.drew ?_)) g5'; have d1' := g5.cell d1; have ne1' : ∀ o, (w5.alloc o).cell? a1 = some (.int .i64 y1) := fun o => (gr_alloc w5 o).cell d1'; have hQ5 : w5.heap[w0.heap.size]? = some (.cells #[.int .i64 0, .int .i64 0, .slice none 0 0, .string ⟨#[]⟩, .int .i64 0, .string ⟨#[]⟩] 76 (0, 0)) := g5'.blk (heap_alloc_new w0 _); have q0 := blk_cell hQ5 (j := 0) rfl; have q1 := blk_cell hQ5 (j := 1) rfl; have q2 := blk_cell hQ5 (j := 2) rfl; have q3 := blk_cell hQ5 (j := 3) rfl; have q4 := blk_cell hQ5 (j := 4) rfl; have q5 := blk_cell hQ5 (j := 5) rfl; have f0 := blk_frozen hQ5 0; have f1 := blk_frozen hQ5 1; have f2 := blk_frozen hQ5 2; have f3 := blk_frozen hQ5 3; have f4 := blk_frozen hQ5 4; have f5 := blk_frozen hQ5 5; have HQ5 := Lib.hid hQ5; clear hQ5)
        | (go_at_call 69; (with_reducible refine (LBU.out _ (by repeat (first | assumption | exact Gr.refl _ | refine Gr.alloc ?_ _ | refine Gr.drew ?_))).mono ?_); rintro e' w5 ⟨rfl, g5'⟩; have g5 : Gr w0 w5 := Gr.trans (by repeat (first | exact Gr.refl w0 | refine Gr.alloc ?_ _ | refine Gr.drew ?_)) g5'; have d1' := g5.cell d1; have ne1' : ∀ o, (w5.alloc o).cell? a1 = some (.int .i64 y1) := fun o => (gr_alloc w5 o).cell d1'))
      all_goals
        go_wp2_with fail
        go_meet
        first
          | (with_reducible exact OldCell.late rfl g5)
          | (with_reducible exact (OldCell.late rfl g5).dr)
          | (with_reducible exact OldCell.put HQ5.out (Nat.le_refl _) g5 _ _ _ _ _ _)
          | (with_reducible exact (OldCell.put HQ5.out (Nat.le_refl _) g5 _ _ _ _ _ _).dr)
    case rest =>
      obtain ⟨b6, rfl, hC1, hb6, g1⟩ := hcut
      obtain ⟨w1, rfl⟩ : ∃ w1, w1 = wc := ⟨_, rfl⟩
      have HC1 := Lib.hid hC1
      have HB1 := Lib.hid (g1.blk HB0.out)
      have hb6l : b6 < w1.heap.size := (Array.getElem?_eq_some_iff.1 hC1).1
      have hrq1 := hrq.kept g1
      have hql1 : Q.length ≤ 1000000000 := by have := HQL.out; omega
      generalize nth xs 1 = y1 at *
      clear hC1 LBU hslu hrq x1 d1
      go_upto_region 7 with fail
      go_cut [6] (fun u wx => u = .pointer (some ⟨b6, 0, none⟩) ∧ AdrIn w0 b6 (.string (S U)) (.int .i64 y1) (.int .i64 1) Q (.string ⟨#[]⟩) (.int .i64 P) wx)
      case first =>
        clear h h0 hcp1 hcp2 HB h9 h9' x0 d0 h4' C1 LEH HZ hlt0 x4 x5 x6 x7 d4 d5 d6 d7 HQL hul BYH HOA HON HPP HUU HQQ HY1 gA hz0 ze1 ze2 hlen HB1 HB0
        go_region_held3 (fun _ => True) (trivial) (first
          | (go_at_call 110; (with_reducible refine (LOP.out _ (by repeat (first | assumption | exact Gr.refl _ | refine Gr.alloc ?_ _ | refine Gr.drew ?_))).mono ?_); rintro e' w5 ⟨rfl, rfl⟩)
          | (refine step_copyI (by rfl) (.tmp 36) (.tmp 38) (by rfl) (by rfl) (by rfl) hrq1 hql1 ?_; intro p5 c5 w5 o5 g5; have hQ5 := g5.blk HC1.out; have OB : IntB (b6 + 1) w5.heap.size 3 w5 _ _ := (IntO.b o5).wide hb6l (Nat.le_refl _); have G5 : Gr w0 w5 := g1.trans g5; have q1 := blk_cell hQ5 (j := 1) rfl; have q2 := blk_cell hQ5 (j := 2) rfl; have q3 := blk_cell hQ5 (j := 3) rfl; have q4 := blk_cell hQ5 (j := 4) rfl; have p1 := blk_frozen hQ5 1; have p2 := blk_frozen hQ5 2; have p3 := blk_frozen hQ5 3; have p4 := blk_frozen hQ5 4; have HQ5 := Lib.hid hQ5; clear hQ5))
        all_goals
          go_wp2_with fail
          go_meet
          first
            | (with_reducible exact ⟨rfl, AdrIn.mk HQ5.out hb6 G5 OB _ _ _⟩)
            | (with_reducible exact ⟨rfl, (AdrIn.mk HQ5.out hb6 G5 OB _ _ _).dr⟩)
      case rest =>
        obtain ⟨rfl, q, cq, hC2, hq2, g2⟩ := hcut
        obtain ⟨w2, rfl⟩ : ∃ w2, w2 = wc := ⟨_, rfl⟩
        have G2 := gA.trans g2
        have HB2 := Lib.hid (g2.blk HB0.out)
        have HC2 : Hid (w2.heap[b6]? = some (.cells #[.int .i64 y1, .int .i64 1, .slice q Q.length cq, .string (S []), .int .i64 P, .string (S U)] 76 (0, 0))) := Lib.hid hC2
        replace d4 := g2.cell d4
        replace d5 := g2.cell d5
        replace d6 := g2.cell d6
        replace d7 := g2.cell d7
        have LE2 := l4End_c (h0.kept g2) (e + 1) ((e : Int) + 1) (by omega) (by omega)
        have HBW := HB0
        clear hC2 HB1 HC1 HB0 h hrq1 hql1 g1 d0 x0 HB LEH
        by_cases hz3 : nth xs 4 = 0 ∧ nth xs 5 = 0 ∧ nth xs 6 = 0
        rotate_left
        · have HF : Hid (oldOk ⟨y1, ⟨1, Q, [], P⟩, U⟩ = false → sizeOld xs = none) := Lib.hid fun hk => old_aNo C1.out HZ.out hz3 (by rw [HOA.out]; exact hk)
          have HY : Hid (oldOk ⟨y1, ⟨1, Q, [], P⟩, U⟩ = true → sizeOld xs = some (e + 1)) := Lib.hid fun hk => old_aYes C1.out HZ.out hz3 (by rw [HOA.out]; exact hk)
          have hqs := hq2
          have ie : IntKind.i64.wrap ((e : Int) + 1) = (e : Int) + 1 := by rw [IntKind.wrap_i64]; omega
          clear LE2 LOP hslq hslp HOA HON hq2 C1 HZ HQL BYH HPP HUU HQQ HY1 h0 h4' ze1 ze2 hlt0 i8 h9 h9' x7 d7 HBW hb6 hb6l g2 gA hz0
          generalize nth xs 4 = y4 at *
          generalize nth xs 5 = y5 at *
          generalize nth xs 6 = y6 at *
          by_cases e4 : y4 = 0
          · have e4' : (y4 == 0) = true := by rw [e4]; rfl
            by_cases e5 : y5 = 0
            · have e5' : (y5 == 0) = true := by rw [e5]; rfl
              have e6' : (y6 == 0) = false := beq_eq_false_iff_ne.2 fun h6 => hz3 ⟨e4, e5, h6⟩
              clear hz3 e4 e5
              cases hok : oldOk ⟨y1, ⟨1, Q, [], P⟩, U⟩
              · have HN := Lib.hid (HF.out hok)
                have LO := l4Ok_c (w := w2) y1 1 P (S []) (S U) (q := (.slice q Q.length cq)) (xs := Q) hqs (by rw [S_len]; first | omega | simp) (by rw [S_len]; omega)
                rw [tx_S, tx_S, hok] at LO
                have LOH := Lib.hid LO
                clear HF HY hok LO hqs
                have s0 := blk_cell HC2.out (j := 0) rfl
                have s1 := blk_cell HC2.out (j := 1) rfl
                have s2 := blk_cell HC2.out (j := 2) rfl
                have s3 := blk_cell HC2.out (j := 3) rfl
                have s4 := blk_cell HC2.out (j := 4) rfl
                have s5 := blk_cell HC2.out (j := 5) rfl
                go_wp2_with fail
                (with_reducible refine (LOH.out).mono ?_); rintro e w9 ⟨rfl, g9⟩
                have HB9 := Lib.hid (g9.blk HB2.out)
                have G9 := Gr.trans G2 g9
                clear s0 s1 s2 s3 s4 s5
                have x0 := blk_cell HB9.out (j := 0) rfl
                have x1 := blk_cell HB9.out (j := 1) rfl
                have x2 := blk_cell HB9.out (j := 2) rfl
                have x3 := blk_cell HB9.out (j := 3) rfl
                have x4 := blk_cell HB9.out (j := 4) rfl
                have x5 := blk_cell HB9.out (j := 5) rfl
                have f0 := blk_frozen HB9.out 0
                have f1 := blk_frozen HB9.out 1
                have f2 := blk_frozen HB9.out 2
                have f3 := blk_frozen HB9.out 3
                have f4 := blk_frozen HB9.out 4
                have f5 := blk_frozen HB9.out 5
                go_wp2
                change bodyPost _ _ _ _ _ (put6 w9 w.heap.size (.int .i64 0) (.int .i64 0) (.slice none 0 0) (.string ⟨#[]⟩) (.int .i64 0) (.string ⟨#[]⟩))
                have hW := put6_blk HB9.out (.int .i64 0) (.int .i64 0) (.slice none 0 0) (.string ⟨#[]⟩) (.int .i64 0) (.string ⟨#[]⟩)
                have cW := put6_chg w9 w.heap.size (.int .i64 0) (.int .i64 0) (.slice none 0 0) (.string ⟨#[]⟩) (.int .i64 0) (.string ⟨#[]⟩)
                generalize put6 w9 w.heap.size (.int .i64 0) (.int .i64 0) (.slice none 0 0) (.string ⟨#[]⟩) (.int .i64 0) (.string ⟨#[]⟩) = wz at *
                have y0 := blk_cell hW (j := 0) rfl
                have y1 := blk_cell hW (j := 1) rfl
                have y2 := blk_cell hW (j := 2) rfl
                have y3 := blk_cell hW (j := 3) rfl
                have y4 := blk_cell hW (j := 4) rfl
                have y5 := blk_cell hW (j := 5) rfl
                exact bodyPost_ret (v := .tuple #[.agg #[.int .i64 0, .int .i64 0, .slice none 0 0, .string ⟨#[]⟩, .int .i64 0, .string ⟨#[]⟩], .int .i64 0, .bool false]) (by simp [results, Tryz.results66, go_sem, y0, y1, y2, y3, y4, y5]) rfl (OldPost.no HN.out (cW.gr G9 (Nat.le_refl _)))
              · have HS := Lib.hid (HY.out hok)
                have LO := l4Ok_c (w := w2) y1 1 P (S []) (S U) (q := (.slice q Q.length cq)) (xs := Q) hqs (by rw [S_len]; first | omega | simp) (by rw [S_len]; omega)
                rw [tx_S, tx_S, hok] at LO
                have LOH := Lib.hid LO
                clear HF HY hok LO hqs
                have s0 := blk_cell HC2.out (j := 0) rfl
                have s1 := blk_cell HC2.out (j := 1) rfl
                have s2 := blk_cell HC2.out (j := 2) rfl
                have s3 := blk_cell HC2.out (j := 3) rfl
                have s4 := blk_cell HC2.out (j := 4) rfl
                have s5 := blk_cell HC2.out (j := 5) rfl
                go_wp2_with fail
                (with_reducible refine (LOH.out).mono ?_); rintro e w9 ⟨rfl, g9⟩
                have HB9 := Lib.hid (g9.blk HB2.out)
                have HC9 := Lib.hid (g9.blk HC2.out)
                have G9 := Gr.trans G2 g9
                clear s0 s1 s2 s3 s4 s5
                have s0 := blk_cell HC9.out (j := 0) rfl
                have s1 := blk_cell HC9.out (j := 1) rfl
                have s2 := blk_cell HC9.out (j := 2) rfl
                have s3 := blk_cell HC9.out (j := 3) rfl
                have s4 := blk_cell HC9.out (j := 4) rfl
                have s5 := blk_cell HC9.out (j := 5) rfl
                have x0 := blk_cell HB9.out (j := 0) rfl
                have x1 := blk_cell HB9.out (j := 1) rfl
                have x2 := blk_cell HB9.out (j := 2) rfl
                have x3 := blk_cell HB9.out (j := 3) rfl
                have x4 := blk_cell HB9.out (j := 4) rfl
                have x5 := blk_cell HB9.out (j := 5) rfl
                have f0 := blk_frozen HB9.out 0
                have f1 := blk_frozen HB9.out 1
                have f2 := blk_frozen HB9.out 2
                have f3 := blk_frozen HB9.out 3
                have f4 := blk_frozen HB9.out 4
                have f5 := blk_frozen HB9.out 5
                go_wp2
                change bodyPost _ _ _ _ _ (put6 w9 w.heap.size (.int .i64 y1) (.int .i64 1) ((.slice q Q.length cq)) (.string (S [])) (.int .i64 P) (.string (S U)))
                have hW := put6_blk HB9.out (.int .i64 y1) (.int .i64 1) ((.slice q Q.length cq)) (.string (S [])) (.int .i64 P) (.string (S U))
                have cW := put6_chg w9 w.heap.size (.int .i64 y1) (.int .i64 1) ((.slice q Q.length cq)) (.string (S [])) (.int .i64 P) (.string (S U))
                generalize put6 w9 w.heap.size (.int .i64 y1) (.int .i64 1) ((.slice q Q.length cq)) (.string (S [])) (.int .i64 P) (.string (S U)) = wz at *
                have y0' := blk_cell hW (j := 0) rfl
                have y1' := blk_cell hW (j := 1) rfl
                have y2' := blk_cell hW (j := 2) rfl
                have y3' := blk_cell hW (j := 3) rfl
                have y4' := blk_cell hW (j := 4) rfl
                have y5' := blk_cell hW (j := 5) rfl
                exact bodyPost_ret (v := .tuple #[.agg #[.int .i64 y1, .int .i64 1, (.slice q Q.length cq), .string (S []), .int .i64 P, .string (S U)], .int .i64 (((e : Int) : Int) + 1), .bool true]) (by simp [results, Tryz.results66, go_sem, y0', y1', y2', y3', y4', y5']) rfl (OldPost.yes HS.out (by omega) (cW.gr G9 (Nat.le_refl _)))
            · have e5' : (y5 == 0) = false := beq_eq_false_iff_ne.2 e5
              clear hz3 e4 e5
              cases hok : oldOk ⟨y1, ⟨1, Q, [], P⟩, U⟩
              · have HN := Lib.hid (HF.out hok)
                have LO := l4Ok_c (w := w2) y1 1 P (S []) (S U) (q := (.slice q Q.length cq)) (xs := Q) hqs (by rw [S_len]; first | omega | simp) (by rw [S_len]; omega)
                rw [tx_S, tx_S, hok] at LO
                have LOH := Lib.hid LO
                clear HF HY hok LO hqs
                have s0 := blk_cell HC2.out (j := 0) rfl
                have s1 := blk_cell HC2.out (j := 1) rfl
                have s2 := blk_cell HC2.out (j := 2) rfl
                have s3 := blk_cell HC2.out (j := 3) rfl
                have s4 := blk_cell HC2.out (j := 4) rfl
                have s5 := blk_cell HC2.out (j := 5) rfl
                go_wp2_with fail
                (with_reducible refine (LOH.out).mono ?_); rintro e w9 ⟨rfl, g9⟩
                have HB9 := Lib.hid (g9.blk HB2.out)
                have G9 := Gr.trans G2 g9
                clear s0 s1 s2 s3 s4 s5
                have x0 := blk_cell HB9.out (j := 0) rfl
                have x1 := blk_cell HB9.out (j := 1) rfl
                have x2 := blk_cell HB9.out (j := 2) rfl
                have x3 := blk_cell HB9.out (j := 3) rfl
                have x4 := blk_cell HB9.out (j := 4) rfl
                have x5 := blk_cell HB9.out (j := 5) rfl
                have f0 := blk_frozen HB9.out 0
                have f1 := blk_frozen HB9.out 1
                have f2 := blk_frozen HB9.out 2
                have f3 := blk_frozen HB9.out 3
                have f4 := blk_frozen HB9.out 4
                have f5 := blk_frozen HB9.out 5
                go_wp2
                change bodyPost _ _ _ _ _ (put6 w9 w.heap.size (.int .i64 0) (.int .i64 0) (.slice none 0 0) (.string ⟨#[]⟩) (.int .i64 0) (.string ⟨#[]⟩))
                have hW := put6_blk HB9.out (.int .i64 0) (.int .i64 0) (.slice none 0 0) (.string ⟨#[]⟩) (.int .i64 0) (.string ⟨#[]⟩)
                have cW := put6_chg w9 w.heap.size (.int .i64 0) (.int .i64 0) (.slice none 0 0) (.string ⟨#[]⟩) (.int .i64 0) (.string ⟨#[]⟩)
                generalize put6 w9 w.heap.size (.int .i64 0) (.int .i64 0) (.slice none 0 0) (.string ⟨#[]⟩) (.int .i64 0) (.string ⟨#[]⟩) = wz at *
                have y0 := blk_cell hW (j := 0) rfl
                have y1 := blk_cell hW (j := 1) rfl
                have y2 := blk_cell hW (j := 2) rfl
                have y3 := blk_cell hW (j := 3) rfl
                have y4 := blk_cell hW (j := 4) rfl
                have y5 := blk_cell hW (j := 5) rfl
                exact bodyPost_ret (v := .tuple #[.agg #[.int .i64 0, .int .i64 0, .slice none 0 0, .string ⟨#[]⟩, .int .i64 0, .string ⟨#[]⟩], .int .i64 0, .bool false]) (by simp [results, Tryz.results66, go_sem, y0, y1, y2, y3, y4, y5]) rfl (OldPost.no HN.out (cW.gr G9 (Nat.le_refl _)))
              · have HS := Lib.hid (HY.out hok)
                have LO := l4Ok_c (w := w2) y1 1 P (S []) (S U) (q := (.slice q Q.length cq)) (xs := Q) hqs (by rw [S_len]; first | omega | simp) (by rw [S_len]; omega)
                rw [tx_S, tx_S, hok] at LO
                have LOH := Lib.hid LO
                clear HF HY hok LO hqs
                have s0 := blk_cell HC2.out (j := 0) rfl
                have s1 := blk_cell HC2.out (j := 1) rfl
                have s2 := blk_cell HC2.out (j := 2) rfl
                have s3 := blk_cell HC2.out (j := 3) rfl
                have s4 := blk_cell HC2.out (j := 4) rfl
                have s5 := blk_cell HC2.out (j := 5) rfl
                go_wp2_with fail
                (with_reducible refine (LOH.out).mono ?_); rintro e w9 ⟨rfl, g9⟩
                have HB9 := Lib.hid (g9.blk HB2.out)
                have HC9 := Lib.hid (g9.blk HC2.out)
                have G9 := Gr.trans G2 g9
                clear s0 s1 s2 s3 s4 s5
                have s0 := blk_cell HC9.out (j := 0) rfl
                have s1 := blk_cell HC9.out (j := 1) rfl
                have s2 := blk_cell HC9.out (j := 2) rfl
                have s3 := blk_cell HC9.out (j := 3) rfl
                have s4 := blk_cell HC9.out (j := 4) rfl
                have s5 := blk_cell HC9.out (j := 5) rfl
                have x0 := blk_cell HB9.out (j := 0) rfl
                have x1 := blk_cell HB9.out (j := 1) rfl
                have x2 := blk_cell HB9.out (j := 2) rfl
                have x3 := blk_cell HB9.out (j := 3) rfl
                have x4 := blk_cell HB9.out (j := 4) rfl
                have x5 := blk_cell HB9.out (j := 5) rfl
                have f0 := blk_frozen HB9.out 0
                have f1 := blk_frozen HB9.out 1
                have f2 := blk_frozen HB9.out 2
                have f3 := blk_frozen HB9.out 3
                have f4 := blk_frozen HB9.out 4
                have f5 := blk_frozen HB9.out 5
                go_wp2
                change bodyPost _ _ _ _ _ (put6 w9 w.heap.size (.int .i64 y1) (.int .i64 1) ((.slice q Q.length cq)) (.string (S [])) (.int .i64 P) (.string (S U)))
                have hW := put6_blk HB9.out (.int .i64 y1) (.int .i64 1) ((.slice q Q.length cq)) (.string (S [])) (.int .i64 P) (.string (S U))
                have cW := put6_chg w9 w.heap.size (.int .i64 y1) (.int .i64 1) ((.slice q Q.length cq)) (.string (S [])) (.int .i64 P) (.string (S U))
                generalize put6 w9 w.heap.size (.int .i64 y1) (.int .i64 1) ((.slice q Q.length cq)) (.string (S [])) (.int .i64 P) (.string (S U)) = wz at *
                have y0' := blk_cell hW (j := 0) rfl
                have y1' := blk_cell hW (j := 1) rfl
                have y2' := blk_cell hW (j := 2) rfl
                have y3' := blk_cell hW (j := 3) rfl
                have y4' := blk_cell hW (j := 4) rfl
                have y5' := blk_cell hW (j := 5) rfl
                exact bodyPost_ret (v := .tuple #[.agg #[.int .i64 y1, .int .i64 1, (.slice q Q.length cq), .string (S []), .int .i64 P, .string (S U)], .int .i64 (((e : Int) : Int) + 1), .bool true]) (by simp [results, Tryz.results66, go_sem, y0', y1', y2', y3', y4', y5']) rfl (OldPost.yes HS.out (by omega) (cW.gr G9 (Nat.le_refl _)))
          · have e4' : (y4 == 0) = false := beq_eq_false_iff_ne.2 e4
            clear hz3 e4
            cases hok : oldOk ⟨y1, ⟨1, Q, [], P⟩, U⟩
            · have HN := Lib.hid (HF.out hok)
              have LO := l4Ok_c (w := w2) y1 1 P (S []) (S U) (q := (.slice q Q.length cq)) (xs := Q) hqs (by rw [S_len]; first | omega | simp) (by rw [S_len]; omega)
              rw [tx_S, tx_S, hok] at LO
              have LOH := Lib.hid LO
              clear HF HY hok LO hqs
              have s0 := blk_cell HC2.out (j := 0) rfl
              have s1 := blk_cell HC2.out (j := 1) rfl
              have s2 := blk_cell HC2.out (j := 2) rfl
              have s3 := blk_cell HC2.out (j := 3) rfl
              have s4 := blk_cell HC2.out (j := 4) rfl
              have s5 := blk_cell HC2.out (j := 5) rfl
              go_wp2_with fail
              (with_reducible refine (LOH.out).mono ?_); rintro e w9 ⟨rfl, g9⟩
              have HB9 := Lib.hid (g9.blk HB2.out)
              have G9 := Gr.trans G2 g9
              clear s0 s1 s2 s3 s4 s5
              have x0 := blk_cell HB9.out (j := 0) rfl
              have x1 := blk_cell HB9.out (j := 1) rfl
              have x2 := blk_cell HB9.out (j := 2) rfl
              have x3 := blk_cell HB9.out (j := 3) rfl
              have x4 := blk_cell HB9.out (j := 4) rfl
              have x5 := blk_cell HB9.out (j := 5) rfl
              have f0 := blk_frozen HB9.out 0
              have f1 := blk_frozen HB9.out 1
              have f2 := blk_frozen HB9.out 2
              have f3 := blk_frozen HB9.out 3
              have f4 := blk_frozen HB9.out 4
              have f5 := blk_frozen HB9.out 5
              go_wp2
              change bodyPost _ _ _ _ _ (put6 w9 w.heap.size (.int .i64 0) (.int .i64 0) (.slice none 0 0) (.string ⟨#[]⟩) (.int .i64 0) (.string ⟨#[]⟩))
              have hW := put6_blk HB9.out (.int .i64 0) (.int .i64 0) (.slice none 0 0) (.string ⟨#[]⟩) (.int .i64 0) (.string ⟨#[]⟩)
              have cW := put6_chg w9 w.heap.size (.int .i64 0) (.int .i64 0) (.slice none 0 0) (.string ⟨#[]⟩) (.int .i64 0) (.string ⟨#[]⟩)
              generalize put6 w9 w.heap.size (.int .i64 0) (.int .i64 0) (.slice none 0 0) (.string ⟨#[]⟩) (.int .i64 0) (.string ⟨#[]⟩) = wz at *
              have y0 := blk_cell hW (j := 0) rfl
              have y1 := blk_cell hW (j := 1) rfl
              have y2 := blk_cell hW (j := 2) rfl
              have y3 := blk_cell hW (j := 3) rfl
              have y4 := blk_cell hW (j := 4) rfl
              have y5 := blk_cell hW (j := 5) rfl
              exact bodyPost_ret (v := .tuple #[.agg #[.int .i64 0, .int .i64 0, .slice none 0 0, .string ⟨#[]⟩, .int .i64 0, .string ⟨#[]⟩], .int .i64 0, .bool false]) (by simp [results, Tryz.results66, go_sem, y0, y1, y2, y3, y4, y5]) rfl (OldPost.no HN.out (cW.gr G9 (Nat.le_refl _)))
            · have HS := Lib.hid (HY.out hok)
              have LO := l4Ok_c (w := w2) y1 1 P (S []) (S U) (q := (.slice q Q.length cq)) (xs := Q) hqs (by rw [S_len]; first | omega | simp) (by rw [S_len]; omega)
              rw [tx_S, tx_S, hok] at LO
              have LOH := Lib.hid LO
              clear HF HY hok LO hqs
              have s0 := blk_cell HC2.out (j := 0) rfl
              have s1 := blk_cell HC2.out (j := 1) rfl
              have s2 := blk_cell HC2.out (j := 2) rfl
              have s3 := blk_cell HC2.out (j := 3) rfl
              have s4 := blk_cell HC2.out (j := 4) rfl
              have s5 := blk_cell HC2.out (j := 5) rfl
              go_wp2_with fail
              (with_reducible refine (LOH.out).mono ?_); rintro e w9 ⟨rfl, g9⟩
              have HB9 := Lib.hid (g9.blk HB2.out)
              have HC9 := Lib.hid (g9.blk HC2.out)
              have G9 := Gr.trans G2 g9
              clear s0 s1 s2 s3 s4 s5
              have s0 := blk_cell HC9.out (j := 0) rfl
              have s1 := blk_cell HC9.out (j := 1) rfl
              have s2 := blk_cell HC9.out (j := 2) rfl
              have s3 := blk_cell HC9.out (j := 3) rfl
              have s4 := blk_cell HC9.out (j := 4) rfl
              have s5 := blk_cell HC9.out (j := 5) rfl
              have x0 := blk_cell HB9.out (j := 0) rfl
              have x1 := blk_cell HB9.out (j := 1) rfl
              have x2 := blk_cell HB9.out (j := 2) rfl
              have x3 := blk_cell HB9.out (j := 3) rfl
              have x4 := blk_cell HB9.out (j := 4) rfl
              have x5 := blk_cell HB9.out (j := 5) rfl
              have f0 := blk_frozen HB9.out 0
              have f1 := blk_frozen HB9.out 1
              have f2 := blk_frozen HB9.out 2
              have f3 := blk_frozen HB9.out 3
              have f4 := blk_frozen HB9.out 4
              have f5 := blk_frozen HB9.out 5
              go_wp2
              change bodyPost _ _ _ _ _ (put6 w9 w.heap.size (.int .i64 y1) (.int .i64 1) ((.slice q Q.length cq)) (.string (S [])) (.int .i64 P) (.string (S U)))
              have hW := put6_blk HB9.out (.int .i64 y1) (.int .i64 1) ((.slice q Q.length cq)) (.string (S [])) (.int .i64 P) (.string (S U))
              have cW := put6_chg w9 w.heap.size (.int .i64 y1) (.int .i64 1) ((.slice q Q.length cq)) (.string (S [])) (.int .i64 P) (.string (S U))
              generalize put6 w9 w.heap.size (.int .i64 y1) (.int .i64 1) ((.slice q Q.length cq)) (.string (S [])) (.int .i64 P) (.string (S U)) = wz at *
              have y0' := blk_cell hW (j := 0) rfl
              have y1' := blk_cell hW (j := 1) rfl
              have y2' := blk_cell hW (j := 2) rfl
              have y3' := blk_cell hW (j := 3) rfl
              have y4' := blk_cell hW (j := 4) rfl
              have y5' := blk_cell hW (j := 5) rfl
              exact bodyPost_ret (v := .tuple #[.agg #[.int .i64 y1, .int .i64 1, (.slice q Q.length cq), .string (S []), .int .i64 P, .string (S U)], .int .i64 (((e : Int) : Int) + 1), .bool true]) (by simp [results, Tryz.results66, go_sem, y0', y1', y2', y3', y4', y5']) rfl (OldPost.yes HS.out (by omega) (cW.gr G9 (Nat.le_refl _)))
        have e4' : (nth xs 4 == 0) = true := by rw [hz3.1]; rfl
        have e5' : (nth xs 5 == 0) = true := by rw [hz3.2.1]; rfl
        have e6' : (nth xs 6 == 0) = true := by rw [hz3.2.2]; rfl
        cases hl : zeroAt xs (e + 1) with
        | none =>
          have HN := Lib.hid (old_no3 C1.out HZ.out hz3 hl)
          rw [hl] at LE2
          have LEH2 := Lib.hid LE2
          clear LE2 hl hz3 LOP hslq hslp HOA HON hq2
          generalize nth xs 4 = y4 at *
          generalize nth xs 5 = y5 at *
          generalize nth xs 6 = y6 at *
          generalize nth xs 7 = y7 at *
          go_wp2_with fail
          (with_reducible refine (LEH2.out).mono ?_); rintro e w3 ⟨rfl, rfl⟩
          have en : endI none = -1 := rfl
          rw [en]
          clear en
          have x0 := blk_cell HB2.out (j := 0) rfl
          have x1 := blk_cell HB2.out (j := 1) rfl
          have x2 := blk_cell HB2.out (j := 2) rfl
          have x3 := blk_cell HB2.out (j := 3) rfl
          have x4 := blk_cell HB2.out (j := 4) rfl
          have x5 := blk_cell HB2.out (j := 5) rfl
          have f0 := blk_frozen HB2.out 0
          have f1 := blk_frozen HB2.out 1
          have f2 := blk_frozen HB2.out 2
          have f3 := blk_frozen HB2.out 3
          have f4 := blk_frozen HB2.out 4
          have f5 := blk_frozen HB2.out 5
          go_wp2
          change bodyPost _ _ _ _ _ (put6 w2 w.heap.size (.int .i64 0) (.int .i64 0) (.slice none 0 0) (.string ⟨#[]⟩) (.int .i64 0) (.string ⟨#[]⟩))
          have hW := put6_blk HB2.out (.int .i64 0) (.int .i64 0) (.slice none 0 0) (.string ⟨#[]⟩) (.int .i64 0) (.string ⟨#[]⟩)
          have cW := put6_chg w2 w.heap.size (.int .i64 0) (.int .i64 0) (.slice none 0 0) (.string ⟨#[]⟩) (.int .i64 0) (.string ⟨#[]⟩)
          generalize put6 w2 w.heap.size (.int .i64 0) (.int .i64 0) (.slice none 0 0) (.string ⟨#[]⟩) (.int .i64 0) (.string ⟨#[]⟩) = wz at *
          have y0 := blk_cell hW (j := 0) rfl
          have y1 := blk_cell hW (j := 1) rfl
          have y2 := blk_cell hW (j := 2) rfl
          have y3 := blk_cell hW (j := 3) rfl
          have y4 := blk_cell hW (j := 4) rfl
          have y5 := blk_cell hW (j := 5) rfl
          exact bodyPost_ret (v := .tuple #[.agg #[.int .i64 0, .int .i64 0, .slice none 0 0, .string ⟨#[]⟩, .int .i64 0, .string ⟨#[]⟩], .int .i64 0, .bool false]) (by simp [results, Tryz.results66, go_sem, y0, y1, y2, y3, y4, y5]) rfl (OldPost.no HN.out (cW.gr G2 (Nat.le_refl _)))
        | some l =>
          obtain ⟨zl1, zl2, _, _⟩ := zeroAt_some hl
          rw [hl] at LE2
          have LE2' : Calls Tryz.prog 109 #[.slice pp xs.length cap, .int .i64 ((e : Int) + 1)] w2 fun e' w' => e' = .returned (.int .i64 (l : Int)) ∧ w2 = w' := LE2
          have LEH2 := Lib.hid LE2'
          have l0 : ¬ ((l : Int) < 0) := by omega
          by_cases h7 : nth xs 7 = 1
          rotate_left
          · have HN := Lib.hid (old_nNo C1.out HZ.out hz3 hl (by rintro ⟨hh, _⟩; exact h7 hh))
            have h7' : (nth xs 7 != 1) = true := by simpa using h7
            clear LE2 LE2' hl hz3 LOP hslq hslp HOA HON hq2 h7
            generalize nth xs 4 = y4 at *
            generalize nth xs 5 = y5 at *
            generalize nth xs 6 = y6 at *
            generalize nth xs 7 = y7 at *
            go_wp2_with fail
            (with_reducible refine (LEH2.out).mono ?_); rintro e w3 ⟨rfl, rfl⟩
            have x0 := blk_cell HB2.out (j := 0) rfl
            have x1 := blk_cell HB2.out (j := 1) rfl
            have x2 := blk_cell HB2.out (j := 2) rfl
            have x3 := blk_cell HB2.out (j := 3) rfl
            have x4 := blk_cell HB2.out (j := 4) rfl
            have x5 := blk_cell HB2.out (j := 5) rfl
            have f0 := blk_frozen HB2.out 0
            have f1 := blk_frozen HB2.out 1
            have f2 := blk_frozen HB2.out 2
            have f3 := blk_frozen HB2.out 3
            have f4 := blk_frozen HB2.out 4
            have f5 := blk_frozen HB2.out 5
            go_wp2
            change bodyPost _ _ _ _ _ (put6 w2 w.heap.size (.int .i64 0) (.int .i64 0) (.slice none 0 0) (.string ⟨#[]⟩) (.int .i64 0) (.string ⟨#[]⟩))
            have hW := put6_blk HB2.out (.int .i64 0) (.int .i64 0) (.slice none 0 0) (.string ⟨#[]⟩) (.int .i64 0) (.string ⟨#[]⟩)
            have cW := put6_chg w2 w.heap.size (.int .i64 0) (.int .i64 0) (.slice none 0 0) (.string ⟨#[]⟩) (.int .i64 0) (.string ⟨#[]⟩)
            generalize put6 w2 w.heap.size (.int .i64 0) (.int .i64 0) (.slice none 0 0) (.string ⟨#[]⟩) (.int .i64 0) (.string ⟨#[]⟩) = wz at *
            have y0 := blk_cell hW (j := 0) rfl
            have y1 := blk_cell hW (j := 1) rfl
            have y2 := blk_cell hW (j := 2) rfl
            have y3 := blk_cell hW (j := 3) rfl
            have y4 := blk_cell hW (j := 4) rfl
            have y5 := blk_cell hW (j := 5) rfl
            exact bodyPost_ret (v := .tuple #[.agg #[.int .i64 0, .int .i64 0, .slice none 0 0, .string ⟨#[]⟩, .int .i64 0, .string ⟨#[]⟩], .int .i64 0, .bool false]) (by simp [results, Tryz.results66, go_sem, y0, y1, y2, y3, y4, y5]) rfl (OldPost.no HN.out (cW.gr G2 (Nat.le_refl _)))
          have h7' : (nth xs 7 != 1) = false := by simpa using h7
          obtain ⟨vm, hslm, hrm⟩ := IntS.cutI h0 (lo := e + 1) (n := l - (e + 1)) (by omega) (a := (e : Int) + 1) (b := (l : Int)) (by omega) (by omega)
          have LBM := l1BytesG hrm (bytes_take (bytes_drop BYH.out _) _) (by rw [List.length_take, List.length_drop]; omega)
          have hml : (bt ((xs.drop (e + 1)).take (l - (e + 1)))).length ≤ 1048576 := by rw [bt_len, List.length_take, List.length_drop]; omega
          have HF' := fun (hk : oldOk ⟨y1, ⟨3, [], bt ((xs.drop (e + 1)).take (l - (e + 1))), P⟩, U⟩ = false) => old_nNo C1.out HZ.out hz3 hl (fun hh => by have := hh.2; rw [HON.out, hk] at this; cases this)
          have HY' := fun (hk : oldOk ⟨y1, ⟨3, [], bt ((xs.drop (e + 1)).take (l - (e + 1))), P⟩, U⟩ = true) => old_nYes C1.out HZ.out hz3 hl h7 (by rw [HON.out]; exact hk)
          have HF := Lib.hid HF'
          have HY := Lib.hid HY'
          have il1 : (e : Int) + 1 ≤ (l : Int) := by omega
          have il2 : (l : Int) ≤ (xs.length : Int) := by omega
          have ie : IntKind.i64.wrap ((e : Int) + 1) = (e : Int) + 1 := by rw [IntKind.wrap_i64]; omega
          have hb6w : b6 < w2.heap.size := (Array.getElem?_eq_some_iff.1 HC2.out).1
          clear LE2 LE2' hl hz3 HOA HON hq2 h7 HF' HY' hrm hslq
          generalize bt ((xs.drop (e + 1)).take (l - (e + 1))) = M at *
          generalize nth xs 4 = y4 at *
          generalize nth xs 5 = y5 at *
          generalize nth xs 6 = y6 at *
          generalize nth xs 7 = y7 at *
          go_wp2_with fail
          (with_reducible refine (LEH2.out).mono ?_); rintro e w3 ⟨rfl, rfl⟩
          go_upto_region 12 with fail
          go_cut [6] (fun u wx => u = .pointer (some ⟨b6, 0, none⟩) ∧ AdrIn w0 b6 (.string (S U)) (.int .i64 y1) (.int .i64 3) [] (.string (S M)) (.int .i64 P) wx)
          case first =>
            clear h0 hcp1 hcp2 h9 h9' h4' C1 HZ hlt0 x4 x5 x6 x7 d4 d5 d6 d7 HQL hul BYH HPP HUU HQQ HY1 gA hz0 ze1 ze2 hlen HB2 HF HY hml zl1 zl2 l0 LEH2
            go_region_held3 (fun _ => True) (trivial) (first
              | (go_at_call 110; (with_reducible refine (LOP.out _ (by repeat (first | assumption | exact Gr.refl _ | refine Gr.alloc ?_ _ | refine Gr.drew ?_))).mono ?_); rintro e' w5 ⟨rfl, rfl⟩)
              | (go_at_call 69; (with_reducible refine (LBM.out _ (by repeat (first | assumption | exact Gr.refl _ | refine Gr.alloc ?_ _ | refine Gr.drew ?_))).mono ?_); rintro e' w5 ⟨rfl, g5'⟩; have g5 : Gr w2 w5 := Gr.trans (by repeat (first | exact Gr.refl w2 | refine Gr.alloc ?_ _ | refine Gr.drew ?_)) g5'; have hQ5 := g5.blk HC2.out; have G5 : Gr w0 w5 := g2.trans g5; have hQ6 : ∀ o, (w5.alloc o).heap[b6]? = _ := fun o => (gr_alloc w5 o).blk hQ5; have q1 := blk_cell hQ5 (j := 1) rfl; have q2 := blk_cell hQ5 (j := 2) rfl; have q3 := blk_cell hQ5 (j := 3) rfl; have q4 := blk_cell hQ5 (j := 4) rfl; have p1 := blk_frozen hQ5 1; have p2 := blk_frozen hQ5 2; have p3 := blk_frozen hQ5 3; have p4 := blk_frozen hQ5 4; have r1 := fun o => blk_cell (hQ6 o) (j := 1) rfl; have r2 := fun o => blk_cell (hQ6 o) (j := 2) rfl; have r3 := fun o => blk_cell (hQ6 o) (j := 3) rfl; have r4 := fun o => blk_cell (hQ6 o) (j := 4) rfl; have t1 := fun o => blk_frozen (hQ6 o) 1; have t2 := fun o => blk_frozen (hQ6 o) 2; have t3 := fun o => blk_frozen (hQ6 o) 3; have t4 := fun o => blk_frozen (hQ6 o) 4; have HQ6 := Lib.hid hQ6; have HQ5 := Lib.hid hQ5; clear hQ5 hQ6))
            all_goals
              go_wp2_with fail
              go_meet
              refine And.intro rfl ?_
              first
                | with_reducible exact AdrIn.mkE HQ5.out hb6 G5 _ _ _ _
                | with_reducible exact AdrIn.mkE (HQ6.out _) hb6 (G5.alloc _) _ _ _ _
          case rest =>
            obtain ⟨rfl, q', cq', hC4, hq4, g4⟩ := hcut
            obtain ⟨w4, rfl⟩ : ∃ w4, w4 = wc := ⟨_, rfl⟩
            have G4 := gA.trans g4
            have HB4 := Lib.hid (g4.blk HBW.out)
            simp only [List.length_nil] at hC4 hq4
            have HC4 := Lib.hid hC4
            have hqs := hq4
            have il : IntKind.i64.wrap ((l : Int) + 1) = (l : Int) + 1 := by rw [IntKind.wrap_i64]; omega
            clear hC4 hq4 HC2 HB2 g2 G2 hslp LOP LBM hslm d4 d5 d6 d7 x4 x5 x6 x7 C1 HZ HQL BYH HPP HUU HQQ HY1 h0 h4' ze1 ze2 hlt0 i8 h9 h9' HBW hb6 hb6l g4 gA hz0 LEH2 l0 h7' e4' e5' e6' il1 ie hb6w zl1 zl2
            cases hok : oldOk ⟨y1, ⟨3, [], M, P⟩, U⟩
            · have HN := Lib.hid (HF.out hok)
              have LO := l4Ok_c (w := w4) y1 3 P (S M) (S U) (q := (.slice q' 0 cq')) (xs := []) hqs (by rw [S_len]; first | omega | simp) (by rw [S_len]; omega)
              rw [tx_S, tx_S, hok] at LO
              have LOH := Lib.hid LO
              clear HF HY hok LO hqs
              have s0 := blk_cell HC4.out (j := 0) rfl
              have s1 := blk_cell HC4.out (j := 1) rfl
              have s2 := blk_cell HC4.out (j := 2) rfl
              have s3 := blk_cell HC4.out (j := 3) rfl
              have s4 := blk_cell HC4.out (j := 4) rfl
              have s5 := blk_cell HC4.out (j := 5) rfl
              go_wp2_with fail
              (with_reducible refine (LOH.out).mono ?_); rintro e w9 ⟨rfl, g9⟩
              have HB9 := Lib.hid (g9.blk HB4.out)
              have G9 := Gr.trans G4 g9
              clear s0 s1 s2 s3 s4 s5
              have x0 := blk_cell HB9.out (j := 0) rfl
              have x1 := blk_cell HB9.out (j := 1) rfl
              have x2 := blk_cell HB9.out (j := 2) rfl
              have x3 := blk_cell HB9.out (j := 3) rfl
              have x4 := blk_cell HB9.out (j := 4) rfl
              have x5 := blk_cell HB9.out (j := 5) rfl
              have f0 := blk_frozen HB9.out 0
              have f1 := blk_frozen HB9.out 1
              have f2 := blk_frozen HB9.out 2
              have f3 := blk_frozen HB9.out 3
              have f4 := blk_frozen HB9.out 4
              have f5 := blk_frozen HB9.out 5
              go_wp2
              change bodyPost _ _ _ _ _ (put6 w9 w.heap.size (.int .i64 0) (.int .i64 0) (.slice none 0 0) (.string ⟨#[]⟩) (.int .i64 0) (.string ⟨#[]⟩))
              have hW := put6_blk HB9.out (.int .i64 0) (.int .i64 0) (.slice none 0 0) (.string ⟨#[]⟩) (.int .i64 0) (.string ⟨#[]⟩)
              have cW := put6_chg w9 w.heap.size (.int .i64 0) (.int .i64 0) (.slice none 0 0) (.string ⟨#[]⟩) (.int .i64 0) (.string ⟨#[]⟩)
              generalize put6 w9 w.heap.size (.int .i64 0) (.int .i64 0) (.slice none 0 0) (.string ⟨#[]⟩) (.int .i64 0) (.string ⟨#[]⟩) = wz at *
              have y0 := blk_cell hW (j := 0) rfl
              have y1 := blk_cell hW (j := 1) rfl
              have y2 := blk_cell hW (j := 2) rfl
              have y3 := blk_cell hW (j := 3) rfl
              have y4 := blk_cell hW (j := 4) rfl
              have y5 := blk_cell hW (j := 5) rfl
              exact bodyPost_ret (v := .tuple #[.agg #[.int .i64 0, .int .i64 0, .slice none 0 0, .string ⟨#[]⟩, .int .i64 0, .string ⟨#[]⟩], .int .i64 0, .bool false]) (by simp [results, Tryz.results66, go_sem, y0, y1, y2, y3, y4, y5]) rfl (OldPost.no HN.out (cW.gr G9 (Nat.le_refl _)))
            · have HS := Lib.hid (HY.out hok)
              have LO := l4Ok_c (w := w4) y1 3 P (S M) (S U) (q := (.slice q' 0 cq')) (xs := []) hqs (by rw [S_len]; first | omega | simp) (by rw [S_len]; omega)
              rw [tx_S, tx_S, hok] at LO
              have LOH := Lib.hid LO
              clear HF HY hok LO hqs
              have s0 := blk_cell HC4.out (j := 0) rfl
              have s1 := blk_cell HC4.out (j := 1) rfl
              have s2 := blk_cell HC4.out (j := 2) rfl
              have s3 := blk_cell HC4.out (j := 3) rfl
              have s4 := blk_cell HC4.out (j := 4) rfl
              have s5 := blk_cell HC4.out (j := 5) rfl
              go_wp2_with fail
              (with_reducible refine (LOH.out).mono ?_); rintro e w9 ⟨rfl, g9⟩
              have HB9 := Lib.hid (g9.blk HB4.out)
              have HC9 := Lib.hid (g9.blk HC4.out)
              have G9 := Gr.trans G4 g9
              clear s0 s1 s2 s3 s4 s5
              have s0 := blk_cell HC9.out (j := 0) rfl
              have s1 := blk_cell HC9.out (j := 1) rfl
              have s2 := blk_cell HC9.out (j := 2) rfl
              have s3 := blk_cell HC9.out (j := 3) rfl
              have s4 := blk_cell HC9.out (j := 4) rfl
              have s5 := blk_cell HC9.out (j := 5) rfl
              have x0 := blk_cell HB9.out (j := 0) rfl
              have x1 := blk_cell HB9.out (j := 1) rfl
              have x2 := blk_cell HB9.out (j := 2) rfl
              have x3 := blk_cell HB9.out (j := 3) rfl
              have x4 := blk_cell HB9.out (j := 4) rfl
              have x5 := blk_cell HB9.out (j := 5) rfl
              have f0 := blk_frozen HB9.out 0
              have f1 := blk_frozen HB9.out 1
              have f2 := blk_frozen HB9.out 2
              have f3 := blk_frozen HB9.out 3
              have f4 := blk_frozen HB9.out 4
              have f5 := blk_frozen HB9.out 5
              go_wp2
              change bodyPost _ _ _ _ _ (put6 w9 w.heap.size (.int .i64 y1) (.int .i64 3) ((.slice q' 0 cq')) (.string (S M)) (.int .i64 P) (.string (S U)))
              have hW := put6_blk HB9.out (.int .i64 y1) (.int .i64 3) ((.slice q' 0 cq')) (.string (S M)) (.int .i64 P) (.string (S U))
              have cW := put6_chg w9 w.heap.size (.int .i64 y1) (.int .i64 3) ((.slice q' 0 cq')) (.string (S M)) (.int .i64 P) (.string (S U))
              generalize put6 w9 w.heap.size (.int .i64 y1) (.int .i64 3) ((.slice q' 0 cq')) (.string (S M)) (.int .i64 P) (.string (S U)) = wz at *
              have y0' := blk_cell hW (j := 0) rfl
              have y1' := blk_cell hW (j := 1) rfl
              have y2' := blk_cell hW (j := 2) rfl
              have y3' := blk_cell hW (j := 3) rfl
              have y4' := blk_cell hW (j := 4) rfl
              have y5' := blk_cell hW (j := 5) rfl
              exact bodyPost_ret (v := .tuple #[.agg #[.int .i64 y1, .int .i64 3, (.slice q' 0 cq'), .string (S M), .int .i64 P, .string (S U)], .int .i64 (((l : Int) : Int) + 1), .bool true]) (by simp [results, Tryz.results66, go_sem, y0', y1', y2', y3', y4', y5']) rfl (OldPost.yes HS.out (by omega) (cW.gr G9 (Nat.le_refl _)))
end Go.Proofs.YtncnnfmfpilonaaGreatDoor
