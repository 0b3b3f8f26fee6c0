/- Draws of requests of the fifth version, of what fits a talk. -/
import Derived.Test.YtpdjibfcbjknhaaGreatDoorRdrV
import Derived.Test.YtpdjibfcbjknhaaGreatDoorGG
namespace Go.Proofs.YtpdjibfcbjknhaaGreatDoor
open Go.RowKit
theorem twoS {w : World} {b : Nat} {x y : Int} (h : w.heap[b]? = some (.cells #[.int .i64 x, .int .i64 y] 3)) : IntS w (.slice (some ⟨b, 0, none⟩) 2 2) [x, y] :=
  IntO.s (B := 0) (e := 3) ⟨rfl, .inr ⟨b, 2, _, rfl, Nat.zero_le _, h, by simp, by decide, rfl, rfl⟩⟩
theorem oneS' {w : World} {b : Nat} {n : Int} (h : w.heap[b]? = some (.cells #[.int .i64 n] 3)) : IntS w (.slice (some ⟨b, 0, none⟩) 1 1) [n] :=
  IntO.s (B := 0) (e := 3) ⟨rfl, .inr ⟨b, 1, _, rfl, Nat.zero_le _, h, by simp, by decide, rfl, rfl⟩⟩
/-- A drawn request. -/
def DrewQ (n g m : Nat) (w : World) (e : Ending) (w' : World) : Prop := ∃ (q : Option Addr) (cq : Nat) (c k p : Int) (s : ByteArray) (xs : List Int), e = .returned (.agg #[.int .i64 c, .int .i64 k, .slice q xs.length cq, .string s, .int .i64 p]) ∧ s.size ≤ 30 ∧ IntO w.heap.size 3 w' (.slice q xs.length cq) xs ∧ RdAt w' g (m + n) ∧ D g w w'
theorem put5_below (w : World) (b : Nat) (a0 a1 a2 a3 a4 : Value) : Below b w (put5 w b a0 a1 a2 a3 a4) := (put5_chg w b a0 a1 a2 a3 a4).below
set_option maxRecDepth 20000 in
set_option maxHeartbeats 4000000 in
theorem l92Request_c {w : World} {g m : Nat} (h : RdAt w g m) (hm : m ≤ 30000) :
    Calls Tryz.prog 107 #[.pointer (some ⟨g, 0, none⟩)] w (DrewQ 40 g m w) := by
  have hlt := h.lt
  have gA := gr_alloc w (.cells #[.int .i64 0, .int .i64 0, .slice none 0 0, .string ⟨#[]⟩, .int .i64 0] 121)
  have hA := heap_alloc_new w (.cells #[.int .i64 0, .int .i64 0, .slice none 0 0, .string ⟨#[]⟩, .int .i64 0] 121)
  have zA : w.heap.size + 1 ≤ (w.alloc (.cells #[.int .i64 0, .int .i64 0, .slice none 0 0, .string ⟨#[]⟩, .int .i64 0] 121)).heap.size := by simp
  go_enter Tryz.func107, Tryz.ntmps107
  go_wp2_with fail
  (with_reducible refine (pick_c (h.kept gA) (by omega) _ (by omega) (by omega)).mono ?_); rintro e w1 ⟨c, rfl, hc0, hc1, hr1, hd1⟩
  have HB1 := Lib.hid (hd1.blk hA (by omega))
  have hD1 : D g w w1 := (D.ofGr gA).trans hd1
  have z1 := hd1.sz
  clear hd1 hA gA
  go_wp2_with fail
  (with_reducible refine (l91Address_c hr1 (by omega)).mono ?_); rintro e w2 ⟨q, k, p, s, xs, rfl, hxl, hsl, _, _, ho2, hr2, hd2⟩
  obtain ⟨pq, cq, rfl⟩ := ho2.len
  have HB2 := Lib.hid (hd2.blk HB1.out (by omega))
  have hD2 := hD1.trans hd2
  have z2 := hd2.sz
  have b2 := IntO.b ho2
  have gS := gr_alloc w2 (.cells #[.int .i64 (1 + c), .int .i64 k, .slice pq xs.length cq, .string s, .int .i64 p] 121)
  have hS := heap_alloc_new w2 (.cells #[.int .i64 (1 + c), .int .i64 k, .slice pq xs.length cq, .string s, .int .i64 p] 121)
  have zS : w2.heap.size + 1 ≤ (w2.alloc (.cells #[.int .i64 (1 + c), .int .i64 k, .slice pq xs.length cq, .string s, .int .i64 p] 121)).heap.size := by simp
  go_upto_region 2 with fail
  generalize w2.alloc (.cells #[.int .i64 (1 + c), .int .i64 k, .slice pq xs.length cq, .string s, .int .i64 p] 121) = w3 at *
  have HB3 := Lib.hid (gS.blk HB2.out)
  have HS3 := Lib.hid hS
  have hr3 := hr2.kept gS
  have hD3 := hD2.trans (D.ofGr gS)
  have b3 := b2.kept gS
  clear hS gS HB1 HB2 hr1 hr2 hD1 hD2 hd2 ho2 b2
  generalize 1 + c = c1 at *
  go_wp2_with fail
  (with_reducible refine (pick_c hr3 (by omega) _ (by omega) (by omega)).mono ?_); rintro e w4 ⟨c4, rfl, h40, h41, hr4, hd4⟩
  have z4 := hd4.sz
  have HB4 := Lib.hid (hd4.blk HB3.out (by omega))
  have HS4 := Lib.hid (hd4.blk HS3.out (by omega))
  have hD4 := hD3.trans hd4
  have b4 := b3.keptD hd4 (by omega)
  clear HB3 HS3 hr3 hD3 b3 hd4
  by_cases k4 : c4 = 0
  · subst k4
    have x0 := blk_cell HS4.out (j := 0) rfl
    have f0 := blk_frozen HS4.out 0
    go_upto_region 4 with fail
    have bS : Below w.heap.size w4 (w4.setCell ⟨w2.heap.size, 0, none⟩ (.int .i64 1)) := Below.setCell (Below.refl _ _) (by simp; omega) _
    have cS : Chg w2.heap.size (w2.heap.size + 1) w4 (w4.setCell ⟨w2.heap.size, 0, none⟩ (.int .i64 1)) := (Chg.refl _ _ w4).set (p := ⟨w2.heap.size, 0, none⟩) (Nat.le_refl _) (Nat.lt_succ_self _) _
    have dS := D.set (D.refl w2.heap.size w4) 0 (.int .i64 1)
    have hS8 := heap_set (j := 0) (x := .int .i64 1) HS4.out
    have zS5 : (w4.setCell ⟨w2.heap.size, 0, none⟩ (.int .i64 1)).heap.size = w4.heap.size := by simp
    generalize w4.setCell ⟨w2.heap.size, 0, none⟩ (.int .i64 1) = w5 at *
    have HS : Hid (w5.heap[w2.heap.size]? = some (.cells #[.int .i64 1, .int .i64 k, .slice pq xs.length cq, .string s, .int .i64 p] 121 (0, 0))) := hS8
    have HB := Lib.hid (dS.blk HB4.out (by omega))
    have hr := hr4.keptB bS hlt
    have hD := hD4.thenB bS
    have bq := IntB.chg b4 cS (.inl (Nat.le_refl _))
    have z5 : w4.heap.size ≤ w5.heap.size := by omega
    clear x0 f0 hS8 dS cS bS HB4 HS4 hr4 hD4 b4 zS5
    go_wp2_with fail
    (with_reducible refine (pick_c hr (by omega) _ (by omega) (by omega)).mono ?_); rintro e w6 ⟨c6, rfl, h60, h61, hr6, hd6⟩
    have z6 := hd6.sz
    have HB6 := Lib.hid (hd6.blk HB.out (by omega))
    have HS6 := Lib.hid (hd6.blk HS.out (by omega))
    have hD6 := hD.trans hd6
    have b6 := bq.keptD hd6 (by omega)
    clear HB HS hD hr bq hd6
    by_cases k6 : c6 = 0
    · subst k6
      have gL := gr_alloc w6 (.cells #[.int .i64 0, .int .i64 4] 3)
      have hL := heap_alloc_new w6 (.cells #[.int .i64 0, .int .i64 4] 3)
      have zL := gL.sz
      go_wp2_with fail
      (with_reducible refine (pick_c (hr6.kept gL) (by omega) _ (by omega) (by omega)).mono ?_); rintro e w7 ⟨c7, rfl, h70, h71, hr7, hd7⟩
      have z7 := hd7.sz
      have HB7 := Lib.hid (hd7.blk (gL.blk HB6.out) (by omega))
      have HS7 := Lib.hid (hd7.blk (gL.blk HS6.out) (by omega))
      have rL := twoS (hd7.blk hL (by omega))
      have hD7 := (hD6.trans (D.ofGr gL)).trans hd7
      have b7 := (b6.kept gL).keptD hd7 (by omega)
      obtain ⟨n7, hn7⟩ := Int.eq_ofNat_of_zero_le h70
      obtain ⟨a7, i7, d7⟩ := IntS.ixN rL rfl n7 c7 hn7 (by omega)
      generalize nth [0, 4] n7 = cw at *
      have x0 := blk_cell HS7.out (j := 0) rfl
      have f0 := blk_frozen HS7.out 0
      clear hL rL HB6 HS6 hD6 b6 hr6 hd7 gL hn7
      go_upto_region 6 with fail
      have bS : Below w.heap.size w7 (w7.setCell ⟨w2.heap.size, 0, none⟩ (.int .i64 cw)) := Below.setCell (Below.refl _ _) (by simp; omega) _
      have cS : Chg w2.heap.size (w2.heap.size + 1) w7 (w7.setCell ⟨w2.heap.size, 0, none⟩ (.int .i64 cw)) := (Chg.refl _ _ w7).set (p := ⟨w2.heap.size, 0, none⟩) (Nat.le_refl _) (Nat.lt_succ_self _) _
      have dS := D.set (D.refl w2.heap.size w7) 0 (.int .i64 cw)
      have hS8 := heap_set (j := 0) (x := .int .i64 cw) HS7.out
      generalize w7.setCell ⟨w2.heap.size, 0, none⟩ (.int .i64 cw) = wf at *
      have HS : Hid (wf.heap[w2.heap.size]? = some (.cells #[.int .i64 cw, .int .i64 k, .slice pq xs.length cq, .string s, .int .i64 p] 121 (0, 0))) := hS8
      have HB := Lib.hid (dS.blk HB7.out (by omega))
      have hr := hr7.keptB bS hlt
      have hD := hD7.thenB bS
      have bq := IntB.chg b7 cS (.inl (Nat.le_refl _))
      clear x0 f0 hS8 dS cS bS HB7 HS7 hr7 hD7 b7 i7 d7
      have s0 := blk_cell HS.out (j := 0) rfl
      have s1 := blk_cell HS.out (j := 1) rfl
      have s2 := blk_cell HS.out (j := 2) rfl
      have s3 := blk_cell HS.out (j := 3) rfl
      have s4 := blk_cell HS.out (j := 4) rfl
      have x0 := blk_cell HB.out (j := 0) rfl
      have x1 := blk_cell HB.out (j := 1) rfl
      have x2 := blk_cell HB.out (j := 2) rfl
      have x3 := blk_cell HB.out (j := 3) rfl
      have f0 := blk_frozen HB.out 0
      have f1 := blk_frozen HB.out 1
      have f2 := blk_frozen HB.out 2
      have f3 := blk_frozen HB.out 3
      have x4 := blk_cell HB.out (j := 4) rfl
      have f4 := blk_frozen HB.out 4
      go_wp2
      change bodyPost _ _ _ _ _ (put5 wf w.heap.size (.int .i64 cw) (.int .i64 k) (.slice pq xs.length cq) (.string s) (.int .i64 p))
      have hW := put5_blk HB.out (.int .i64 cw) (.int .i64 k) (.slice pq xs.length cq) (.string s) (.int .i64 p)
      have cW := put5_chg wf w.heap.size (.int .i64 cw) (.int .i64 k) (.slice pq xs.length cq) (.string s) (.int .i64 p)
      generalize put5 wf w.heap.size (.int .i64 cw) (.int .i64 k) (.slice pq xs.length cq) (.string s) (.int .i64 p) = wz at *
      have y0 := blk_cell hW (j := 0) rfl
      have y1 := blk_cell hW (j := 1) rfl
      have y2 := blk_cell hW (j := 2) rfl
      have y3 := blk_cell hW (j := 3) rfl
      have y4 := blk_cell hW (j := 4) rfl
      exact bodyPost_ret (v := .agg #[.int .i64 cw, .int .i64 k, .slice pq xs.length cq, .string s, .int .i64 p]) (by simp [results, Tryz.results107, go_sem, y0, y1, y2, y3, y4]) rfl ⟨pq, cq, _, k, p, s, xs, rfl, hsl, IntO.mono (IntB.chg bq cW (.inr (by omega))).o (by omega), (hr.keptB cW.below hlt).more (by omega), hD.thenB cW.below⟩
    · have k6' : (c6 == 0) = false := beq_eq_false_iff_ne.2 k6
      clear k6
      generalize w6 = wf at *
      have HS := HS6
      have HB := HB6
      have hr := hr6
      have hD := hD6
      have bq := b6
      clear HS6 HB6 hr6 hD6 b6
      have s0 := blk_cell HS.out (j := 0) rfl
      have s1 := blk_cell HS.out (j := 1) rfl
      have s2 := blk_cell HS.out (j := 2) rfl
      have s3 := blk_cell HS.out (j := 3) rfl
      have s4 := blk_cell HS.out (j := 4) rfl
      have x0 := blk_cell HB.out (j := 0) rfl
      have x1 := blk_cell HB.out (j := 1) rfl
      have x2 := blk_cell HB.out (j := 2) rfl
      have x3 := blk_cell HB.out (j := 3) rfl
      have f0 := blk_frozen HB.out 0
      have f1 := blk_frozen HB.out 1
      have f2 := blk_frozen HB.out 2
      have f3 := blk_frozen HB.out 3
      have x4 := blk_cell HB.out (j := 4) rfl
      have f4 := blk_frozen HB.out 4
      go_wp2
      change bodyPost _ _ _ _ _ (put5 wf w.heap.size (.int .i64 1) (.int .i64 k) (.slice pq xs.length cq) (.string s) (.int .i64 p))
      have hW := put5_blk HB.out (.int .i64 1) (.int .i64 k) (.slice pq xs.length cq) (.string s) (.int .i64 p)
      have cW := put5_chg wf w.heap.size (.int .i64 1) (.int .i64 k) (.slice pq xs.length cq) (.string s) (.int .i64 p)
      generalize put5 wf w.heap.size (.int .i64 1) (.int .i64 k) (.slice pq xs.length cq) (.string s) (.int .i64 p) = wz at *
      have y0 := blk_cell hW (j := 0) rfl
      have y1 := blk_cell hW (j := 1) rfl
      have y2 := blk_cell hW (j := 2) rfl
      have y3 := blk_cell hW (j := 3) rfl
      have y4 := blk_cell hW (j := 4) rfl
      exact bodyPost_ret (v := .agg #[.int .i64 1, .int .i64 k, .slice pq xs.length cq, .string s, .int .i64 p]) (by simp [results, Tryz.results107, go_sem, y0, y1, y2, y3, y4]) rfl ⟨pq, cq, _, k, p, s, xs, rfl, hsl, IntO.mono (IntB.chg bq cW (.inr (by omega))).o (by omega), (hr.keptB cW.below hlt).more (by omega), hD.thenB cW.below⟩
  · have k4' : (c4 == 0) = false := beq_eq_false_iff_ne.2 k4
    clear k4
    generalize w4 = w5 at *
    have HS := HS4
    have HB := HB4
    have hr := hr4
    have hD := hD4
    have bq := b4
    have z5 := z4
    clear HS4 HB4 hr4 hD4 b4
    go_wp2_with fail
    (with_reducible refine (pick_c hr (by omega) _ (by omega) (by omega)).mono ?_); rintro e w6 ⟨c6, rfl, h60, h61, hr6, hd6⟩
    have z6 := hd6.sz
    have HB6 := Lib.hid (hd6.blk HB.out (by omega))
    have HS6 := Lib.hid (hd6.blk HS.out (by omega))
    have hD6 := hD.trans hd6
    have b6 := bq.keptD hd6 (by omega)
    clear HB HS hD hr bq hd6
    by_cases k6 : c6 = 0
    · subst k6
      have gL := gr_alloc w6 (.cells #[.int .i64 0, .int .i64 4] 3)
      have hL := heap_alloc_new w6 (.cells #[.int .i64 0, .int .i64 4] 3)
      have zL := gL.sz
      go_wp2_with fail
      (with_reducible refine (pick_c (hr6.kept gL) (by omega) _ (by omega) (by omega)).mono ?_); rintro e w7 ⟨c7, rfl, h70, h71, hr7, hd7⟩
      have z7 := hd7.sz
      have HB7 := Lib.hid (hd7.blk (gL.blk HB6.out) (by omega))
      have HS7 := Lib.hid (hd7.blk (gL.blk HS6.out) (by omega))
      have rL := twoS (hd7.blk hL (by omega))
      have hD7 := (hD6.trans (D.ofGr gL)).trans hd7
      have b7 := (b6.kept gL).keptD hd7 (by omega)
      obtain ⟨n7, hn7⟩ := Int.eq_ofNat_of_zero_le h70
      obtain ⟨a7, i7, d7⟩ := IntS.ixN rL rfl n7 c7 hn7 (by omega)
      generalize nth [0, 4] n7 = cw at *
      have x0 := blk_cell HS7.out (j := 0) rfl
      have f0 := blk_frozen HS7.out 0
      clear hL rL HB6 HS6 hD6 b6 hr6 hd7 gL hn7
      go_upto_region 6 with fail
      have bS : Below w.heap.size w7 (w7.setCell ⟨w2.heap.size, 0, none⟩ (.int .i64 cw)) := Below.setCell (Below.refl _ _) (by simp; omega) _
      have cS : Chg w2.heap.size (w2.heap.size + 1) w7 (w7.setCell ⟨w2.heap.size, 0, none⟩ (.int .i64 cw)) := (Chg.refl _ _ w7).set (p := ⟨w2.heap.size, 0, none⟩) (Nat.le_refl _) (Nat.lt_succ_self _) _
      have dS := D.set (D.refl w2.heap.size w7) 0 (.int .i64 cw)
      have hS8 := heap_set (j := 0) (x := .int .i64 cw) HS7.out
      generalize w7.setCell ⟨w2.heap.size, 0, none⟩ (.int .i64 cw) = wf at *
      have HS : Hid (wf.heap[w2.heap.size]? = some (.cells #[.int .i64 cw, .int .i64 k, .slice pq xs.length cq, .string s, .int .i64 p] 121 (0, 0))) := hS8
      have HB := Lib.hid (dS.blk HB7.out (by omega))
      have hr := hr7.keptB bS hlt
      have hD := hD7.thenB bS
      have bq := IntB.chg b7 cS (.inl (Nat.le_refl _))
      clear x0 f0 hS8 dS cS bS HB7 HS7 hr7 hD7 b7 i7 d7
      have s0 := blk_cell HS.out (j := 0) rfl
      have s1 := blk_cell HS.out (j := 1) rfl
      have s2 := blk_cell HS.out (j := 2) rfl
      have s3 := blk_cell HS.out (j := 3) rfl
      have s4 := blk_cell HS.out (j := 4) rfl
      have x0 := blk_cell HB.out (j := 0) rfl
      have x1 := blk_cell HB.out (j := 1) rfl
      have x2 := blk_cell HB.out (j := 2) rfl
      have x3 := blk_cell HB.out (j := 3) rfl
      have f0 := blk_frozen HB.out 0
      have f1 := blk_frozen HB.out 1
      have f2 := blk_frozen HB.out 2
      have f3 := blk_frozen HB.out 3
      have x4 := blk_cell HB.out (j := 4) rfl
      have f4 := blk_frozen HB.out 4
      go_wp2
      change bodyPost _ _ _ _ _ (put5 wf w.heap.size (.int .i64 cw) (.int .i64 k) (.slice pq xs.length cq) (.string s) (.int .i64 p))
      have hW := put5_blk HB.out (.int .i64 cw) (.int .i64 k) (.slice pq xs.length cq) (.string s) (.int .i64 p)
      have cW := put5_chg wf w.heap.size (.int .i64 cw) (.int .i64 k) (.slice pq xs.length cq) (.string s) (.int .i64 p)
      generalize put5 wf w.heap.size (.int .i64 cw) (.int .i64 k) (.slice pq xs.length cq) (.string s) (.int .i64 p) = wz at *
      have y0 := blk_cell hW (j := 0) rfl
      have y1 := blk_cell hW (j := 1) rfl
      have y2 := blk_cell hW (j := 2) rfl
      have y3 := blk_cell hW (j := 3) rfl
      have y4 := blk_cell hW (j := 4) rfl
      exact bodyPost_ret (v := .agg #[.int .i64 cw, .int .i64 k, .slice pq xs.length cq, .string s, .int .i64 p]) (by simp [results, Tryz.results107, go_sem, y0, y1, y2, y3, y4]) rfl ⟨pq, cq, _, k, p, s, xs, rfl, hsl, IntO.mono (IntB.chg bq cW (.inr (by omega))).o (by omega), (hr.keptB cW.below hlt).more (by omega), hD.thenB cW.below⟩
    · have k6' : (c6 == 0) = false := beq_eq_false_iff_ne.2 k6
      clear k6
      generalize w6 = wf at *
      have HS := HS6
      have HB := HB6
      have hr := hr6
      have hD := hD6
      have bq := b6
      clear HS6 HB6 hr6 hD6 b6
      have s0 := blk_cell HS.out (j := 0) rfl
      have s1 := blk_cell HS.out (j := 1) rfl
      have s2 := blk_cell HS.out (j := 2) rfl
      have s3 := blk_cell HS.out (j := 3) rfl
      have s4 := blk_cell HS.out (j := 4) rfl
      have x0 := blk_cell HB.out (j := 0) rfl
      have x1 := blk_cell HB.out (j := 1) rfl
      have x2 := blk_cell HB.out (j := 2) rfl
      have x3 := blk_cell HB.out (j := 3) rfl
      have f0 := blk_frozen HB.out 0
      have f1 := blk_frozen HB.out 1
      have f2 := blk_frozen HB.out 2
      have f3 := blk_frozen HB.out 3
      have x4 := blk_cell HB.out (j := 4) rfl
      have f4 := blk_frozen HB.out 4
      go_wp2
      change bodyPost _ _ _ _ _ (put5 wf w.heap.size (.int .i64 c1) (.int .i64 k) (.slice pq xs.length cq) (.string s) (.int .i64 p))
      have hW := put5_blk HB.out (.int .i64 c1) (.int .i64 k) (.slice pq xs.length cq) (.string s) (.int .i64 p)
      have cW := put5_chg wf w.heap.size (.int .i64 c1) (.int .i64 k) (.slice pq xs.length cq) (.string s) (.int .i64 p)
      generalize put5 wf w.heap.size (.int .i64 c1) (.int .i64 k) (.slice pq xs.length cq) (.string s) (.int .i64 p) = wz at *
      have y0 := blk_cell hW (j := 0) rfl
      have y1 := blk_cell hW (j := 1) rfl
      have y2 := blk_cell hW (j := 2) rfl
      have y3 := blk_cell hW (j := 3) rfl
      have y4 := blk_cell hW (j := 4) rfl
      exact bodyPost_ret (v := .agg #[.int .i64 c1, .int .i64 k, .slice pq xs.length cq, .string s, .int .i64 p]) (by simp [results, Tryz.results107, go_sem, y0, y1, y2, y3, y4]) rfl ⟨pq, cq, _, k, p, s, xs, rfl, hsl, IntO.mono (IntB.chg bq cW (.inr (by omega))).o (by omega), (hr.keptB cW.below hlt).more (by omega), hD.thenB cW.below⟩
end Go.Proofs.YtpdjibfcbjknhaaGreatDoor
