/- Draws of requests and pairs.
Draws of pairs. -/
import Derived.Test.YtdbepkcpdglppaaGreatDoorGF
namespace Go.Proofs.YtdbepkcpdglppaaGreatDoor
open Go.RowKit
/-- Cells of a block, written one by one. -/
def put6 (w : World) (b : Nat) (a0 a1 a2 a3 a4 a5 : Value) : World := (((((w.setCell ⟨b, 0, none⟩ a0).setCell ⟨b, 1, none⟩ a1).setCell ⟨b, 2, none⟩ a2).setCell ⟨b, 3, none⟩ a3).setCell ⟨b, 4, none⟩ a4).setCell ⟨b, 5, none⟩ a5
theorem put6_blk {w : World} {b : Nat} {c0 c1 c2 c3 c4 c5 : Value} {t : TypeId} (h : w.heap[b]? = some (.cells #[c0, c1, c2, c3, c4, c5] t (0, 0))) (a0 a1 a2 a3 a4 a5 : Value) : (put6 w b a0 a1 a2 a3 a4 a5).heap[b]? = some (.cells #[a0, a1, a2, a3, a4, a5] t (0, 0)) :=
  heap_set (j := 5) (x := a5) (heap_set (j := 4) (x := a4) (heap_set (j := 3) (x := a3) (heap_set (j := 2) (x := a2) (heap_set (j := 1) (x := a1) (heap_set (j := 0) (x := a0) h)))))
theorem put6_chg (w : World) (b : Nat) (a0 a1 a2 a3 a4 a5 : Value) : Chg b (b + 1) w (put6 w b a0 a1 a2 a3 a4 a5) :=
  Chg.set (p := ⟨b, 5, none⟩) (Chg.set (p := ⟨b, 4, none⟩) (Chg.set (p := ⟨b, 3, none⟩) (Chg.set (p := ⟨b, 2, none⟩) (Chg.set (p := ⟨b, 1, none⟩) (Chg.set (p := ⟨b, 0, none⟩) (Chg.refl b (b + 1) w) (Nat.le_refl b) (Nat.lt_succ_self b) a0) (Nat.le_refl b) (Nat.lt_succ_self b) a1) (Nat.le_refl b) (Nat.lt_succ_self b) a2) (Nat.le_refl b) (Nat.lt_succ_self b) a3) (Nat.le_refl b) (Nat.lt_succ_self b) a4) (Nat.le_refl b) (Nat.lt_succ_self b) a5
def put8 (w : World) (b : Nat) (a0 a1 a2 a3 a4 a5 a6 a7 : Value) : World := (((((((w.setCell ⟨b, 0, none⟩ a0).setCell ⟨b, 1, none⟩ a1).setCell ⟨b, 2, none⟩ a2).setCell ⟨b, 3, none⟩ a3).setCell ⟨b, 4, none⟩ a4).setCell ⟨b, 5, none⟩ a5).setCell ⟨b, 6, none⟩ a6).setCell ⟨b, 7, none⟩ a7
theorem put8_blk {w : World} {b : Nat} {c0 c1 c2 c3 c4 c5 c6 c7 : Value} {t : TypeId} (h : w.heap[b]? = some (.cells #[c0, c1, c2, c3, c4, c5, c6, c7] t (0, 0))) (a0 a1 a2 a3 a4 a5 a6 a7 : Value) : (put8 w b a0 a1 a2 a3 a4 a5 a6 a7).heap[b]? = some (.cells #[a0, a1, a2, a3, a4, a5, a6, a7] t (0, 0)) := by
  have h0 : (w.setCell ⟨b, 0, none⟩ a0).heap[b]? = some (.cells #[a0, c1, c2, c3, c4, c5, c6, c7] t (0, 0)) := heap_set (j := 0) (x := a0) h
  have h1 : ((w.setCell ⟨b, 0, none⟩ a0).setCell ⟨b, 1, none⟩ a1).heap[b]? = some (.cells #[a0, a1, c2, c3, c4, c5, c6, c7] t (0, 0)) := heap_set (j := 1) (x := a1) h0
  have h2 : (((w.setCell ⟨b, 0, none⟩ a0).setCell ⟨b, 1, none⟩ a1).setCell ⟨b, 2, none⟩ a2).heap[b]? = some (.cells #[a0, a1, a2, c3, c4, c5, c6, c7] t (0, 0)) := heap_set (j := 2) (x := a2) h1
  have h3 : ((((w.setCell ⟨b, 0, none⟩ a0).setCell ⟨b, 1, none⟩ a1).setCell ⟨b, 2, none⟩ a2).setCell ⟨b, 3, none⟩ a3).heap[b]? = some (.cells #[a0, a1, a2, a3, c4, c5, c6, c7] t (0, 0)) := heap_set (j := 3) (x := a3) h2
  have h4 : (((((w.setCell ⟨b, 0, none⟩ a0).setCell ⟨b, 1, none⟩ a1).setCell ⟨b, 2, none⟩ a2).setCell ⟨b, 3, none⟩ a3).setCell ⟨b, 4, none⟩ a4).heap[b]? = some (.cells #[a0, a1, a2, a3, a4, c5, c6, c7] t (0, 0)) := heap_set (j := 4) (x := a4) h3
  have h5 : ((((((w.setCell ⟨b, 0, none⟩ a0).setCell ⟨b, 1, none⟩ a1).setCell ⟨b, 2, none⟩ a2).setCell ⟨b, 3, none⟩ a3).setCell ⟨b, 4, none⟩ a4).setCell ⟨b, 5, none⟩ a5).heap[b]? = some (.cells #[a0, a1, a2, a3, a4, a5, c6, c7] t (0, 0)) := heap_set (j := 5) (x := a5) h4
  have h6 : (((((((w.setCell ⟨b, 0, none⟩ a0).setCell ⟨b, 1, none⟩ a1).setCell ⟨b, 2, none⟩ a2).setCell ⟨b, 3, none⟩ a3).setCell ⟨b, 4, none⟩ a4).setCell ⟨b, 5, none⟩ a5).setCell ⟨b, 6, none⟩ a6).heap[b]? = some (.cells #[a0, a1, a2, a3, a4, a5, a6, c7] t (0, 0)) := heap_set (j := 6) (x := a6) h5
  have h7 : ((((((((w.setCell ⟨b, 0, none⟩ a0).setCell ⟨b, 1, none⟩ a1).setCell ⟨b, 2, none⟩ a2).setCell ⟨b, 3, none⟩ a3).setCell ⟨b, 4, none⟩ a4).setCell ⟨b, 5, none⟩ a5).setCell ⟨b, 6, none⟩ a6).setCell ⟨b, 7, none⟩ a7).heap[b]? = some (.cells #[a0, a1, a2, a3, a4, a5, a6, a7] t (0, 0)) := heap_set (j := 7) (x := a7) h6
  exact h7
theorem put8_chg (w : World) (b : Nat) (a0 a1 a2 a3 a4 a5 a6 a7 : Value) : Chg b (b + 1) w (put8 w b a0 a1 a2 a3 a4 a5 a6 a7) :=
  Chg.set (p := ⟨b, 7, none⟩) (Chg.set (p := ⟨b, 6, none⟩) (Chg.set (p := ⟨b, 5, none⟩) (Chg.set (p := ⟨b, 4, none⟩) (Chg.set (p := ⟨b, 3, none⟩) (Chg.set (p := ⟨b, 2, none⟩) (Chg.set (p := ⟨b, 1, none⟩) (Chg.set (p := ⟨b, 0, none⟩) (Chg.refl b (b + 1) w) (Nat.le_refl b) (Nat.lt_succ_self b) a0) (Nat.le_refl b) (Nat.lt_succ_self b) a1) (Nat.le_refl b) (Nat.lt_succ_self b) a2) (Nat.le_refl b) (Nat.lt_succ_self b) a3) (Nat.le_refl b) (Nat.lt_succ_self b) a4) (Nat.le_refl b) (Nat.lt_succ_self b) a5) (Nat.le_refl b) (Nat.lt_succ_self b) a6) (Nat.le_refl b) (Nat.lt_succ_self b) a7
theorem IntB.keptD {B T e g : Nat} {w w' : World} {v : Value} {xs : List Int} (h : IntB B T e w v xs) (hd : D g w w') (hB : g < B) : IntB B T e w' v xs := OwnB.keptD h hd hB
/-- A drawn request. -/
def DrewO (n g m : Nat) (w : World) (e : Ending) (w' : World) : Prop := ∃ (q : Value) (c k p : Int) (s u : ByteArray) (xs : List Int), e = .returned (.agg #[.int .i64 c, .int .i64 k, q, .string s, .int .i64 p, .string u]) ∧ xs.length ≤ 4 ∧ s.size ≤ 30 ∧ u.size ≤ 30 ∧ IntO w.heap.size 3 w' q xs ∧ RdAt w' g (m + n) ∧ D g w w'
set_option maxRecDepth 20000 in
set_option maxHeartbeats 4000000 in
theorem l91Old_c {w : World} {g m : Nat} (h : RdAt w g m) (hm : m ≤ 30000) :
    Calls Tryz.prog 52 #[.pointer (some ⟨g, 0, none⟩)] w (DrewO 40 g m w) := by
  have hlt := h.lt
  have hne : ¬ w.heap.size = g := by omega
  go_enter Tryz.func52, Tryz.ntmps52
  go_wp2_with fail
  (with_reducible refine (pick_c (h.alloc _) (by omega) _ (by omega) (by omega)).mono ?_); rintro e w1 ⟨c, rfl, hc0, hc1, hr1, hd1⟩
  have hB1 := hd1.blk (heap_alloc_new w _) hne
  have hD1 := (D.ofGr (gr_alloc w (.cells #[.int .i64 0, .int .i64 0, .slice none 0 0, .string ⟨#[]⟩, .int .i64 0, .string ⟨#[]⟩] 39))).trans hd1
  have hs1 : w.heap.size < w1.heap.size := by have := hd1.sz; simp at this; omega
  have HB1 := Lib.hid hB1
  clear hB1 hd1
  go_wp2_with fail
  (with_reducible refine (l91Address_c hr1 (by omega)).mono ?_); rintro e w2 ⟨q, k, p, s, xs, rfl, hxl, hsl, hp0, hp1, ho2, hr2, hd2⟩
  obtain ⟨pq, cq, rfl⟩ := ho2.len
  have hb2 := ho2.b
  have HB2 := Lib.hid (hd2.blk HB1.out hne)
  have hD2 := hD1.trans hd2
  have hs2 := hd2.sz
  have hg1 := hr1.lt
  clear hd2 ho2
  go_wp2_with fail
  (with_reducible refine (l91User_c hr2 (by omega)).mono ?_); rintro e w3 ⟨u, rfl, hul, hr3, hd3⟩
  have hb3 := hb2.keptD hd3 hg1
  have HB3 := Lib.hid (hd3.blk HB2.out hne)
  have hD3 := hD2.trans hd3
  have hs3 := hd3.sz
  clear hd3 hb2
  go_wp2_with fail
  (with_reducible refine (pick_c (hr3.alloc _) (by omega) _ (by omega) (by omega)).mono ?_); rintro e w4 ⟨d, rfl, hd0, hd1, hr4, hd4⟩
  have hne3 : ¬ w3.heap.size = g := by omega
  have hb4 := (hb3.kept (gr_alloc w3 (.cells #[.int .i64 (1 + c), .int .i64 k, .slice pq xs.length cq, .string s, .int .i64 p, .string u] 39))).keptD hd4 hg1
  have HB4 := Lib.hid (hd4.blk ((gr_alloc w3 (.cells #[.int .i64 (1 + c), .int .i64 k, .slice pq xs.length cq, .string s, .int .i64 p, .string u] 39)).blk HB3.out) hne)
  have HT4 := Lib.hid (hd4.blk (heap_alloc_new w3 (.cells #[.int .i64 (1 + c), .int .i64 k, .slice pq xs.length cq, .string s, .int .i64 p, .string u] 39)) hne3)
  have hD4 := (hD3.alloc (.cells #[.int .i64 (1 + c), .int .i64 k, .slice pq xs.length cq, .string s, .int .i64 p, .string u] 39)).trans hd4
  have hs4 : w3.heap.size < w4.heap.size := by have := hd4.sz; simp at this; omega
  clear hd4 hb3
  by_cases d0 : d = 0
  · subst d0
    go_wp2_with fail
    (with_reducible refine (pick_c (hr4.alloc _) (by omega) _ (by omega) (by omega)).mono ?_); rintro e w5 ⟨z, rfl, hz0, hz1, hr5, hd5⟩
    have hx0 : w5.cell? ⟨w4.heap.size, 0, none⟩ = some (.int .i64 0) := hd5.cell (by simp) (by simp; omega)
    have hx1 : w5.cell? ⟨w4.heap.size, 1, none⟩ = some (.int .i64 3) := hd5.cell (by simp) (by simp; omega)
    have hB5 := hd5.blk ((gr_alloc w4 (.cells #[.int .i64 0, .int .i64 3] 3)).blk HB4.out) hne
    have hT5 := hd5.blk ((gr_alloc w4 (.cells #[.int .i64 0, .int .i64 3] 3)).blk HT4.out) hne3
    have hb5 := (hb4.kept (gr_alloc w4 (.cells #[.int .i64 0, .int .i64 3] 3))).keptD hd5 hg1
    have hD5 := (hD4.alloc (.cells #[.int .i64 0, .int .i64 3] 3)).trans hd5
    have x0 := blk_cell hB5 (j := 0) rfl
    have x1 := blk_cell hB5 (j := 1) rfl
    have x2 := blk_cell hB5 (j := 2) rfl
    have x3 := blk_cell hB5 (j := 3) rfl
    have x4 := blk_cell hB5 (j := 4) rfl
    have x5 := blk_cell hB5 (j := 5) rfl
    have f0 := blk_frozen hB5 0
    have f1 := blk_frozen hB5 1
    have f2 := blk_frozen hB5 2
    have f3 := blk_frozen hB5 3
    have f4 := blk_frozen hB5 4
    have f5 := blk_frozen hB5 5
    have t0 := blk_cell hT5 (j := 0) rfl
    have t1 := blk_cell hT5 (j := 1) rfl
    have t2 := blk_cell hT5 (j := 2) rfl
    have t3 := blk_cell hT5 (j := 3) rfl
    have t4 := blk_cell hT5 (j := 4) rfl
    have t5 := blk_cell hT5 (j := 5) rfl
    have e0 := blk_frozen hT5 0
    have n3 : ¬ w.heap.size = w3.heap.size := by omega
    have n3' : ¬ w3.heap.size = w.heap.size := by omega
    have HB5 := Lib.hid hB5
    clear hB5 hT5 hd5 hb4
    obtain ⟨y, hy⟩ : ∃ y : Int, w5.cell? ⟨w4.heap.size, z.toNat, none⟩ = some (.int .i64 y) := by
      obtain rfl | rfl : z = 0 ∨ z = 1 := by omega
      · exact ⟨_, hx0⟩
      · exact ⟨_, hx1⟩
    clear hx0 hx1
    have hch : Chg w3.heap.size (w3.heap.size + 1) w5 (w5.setCell ⟨w3.heap.size, 0, none⟩ (.int .i64 y)) := Chg.set (p := ⟨w3.heap.size, 0, none⟩) (Chg.refl _ _ _) (Nat.le_refl _) (Nat.lt_succ_self _) _
    have hB6 := (hch.block w.heap.size (.inl (by omega))).trans HB5.out
    have hb6 := hb5.chg hch (.inl (by omega))
    have hr6 := hr5.keptB hch.below (by omega)
    have hD6 := hD5.thenB (hch.below.mono (by omega))
    have HB6 := Lib.hid hB6
    clear hB6 hb5 hr5 hD5 hch
    go_wp2
    change bodyPost _ _ _ _ _ (put6 (w5.setCell ⟨w3.heap.size, 0, none⟩ (.int .i64 y)) w.heap.size (.int .i64 y) (.int .i64 k) (.slice pq xs.length cq) (.string s) (.int .i64 p) (.string u))
    have hW := put6_blk HB6.out (.int .i64 y) (.int .i64 k) (.slice pq xs.length cq) (.string s) (.int .i64 p) (.string u)
    have cW := put6_chg (w5.setCell ⟨w3.heap.size, 0, none⟩ (.int .i64 y)) w.heap.size (.int .i64 y) (.int .i64 k) (.slice pq xs.length cq) (.string s) (.int .i64 p) (.string u)
    generalize put6 (w5.setCell ⟨w3.heap.size, 0, none⟩ (.int .i64 y)) w.heap.size (.int .i64 y) (.int .i64 k) (.slice pq xs.length cq) (.string s) (.int .i64 p) (.string u) = W at *
    have y0 := blk_cell hW (j := 0) rfl
    have y1 := blk_cell hW (j := 1) rfl
    have y2 := blk_cell hW (j := 2) rfl
    have y3 := blk_cell hW (j := 3) rfl
    have y4 := blk_cell hW (j := 4) rfl
    have y5 := blk_cell hW (j := 5) rfl
    exact bodyPost_ret (v := .agg #[.int .i64 y, .int .i64 k, .slice pq xs.length cq, .string s, .int .i64 p, .string u]) (by simp [results, Tryz.results52, go_sem, y0, y1, y2, y3, y4, y5]) rfl ⟨_, _, _, _, _, _, _, rfl, hxl, hsl, hul, (hb6.chg cW (.inr hs1)).o.mono (by omega), (hr6.keptB cW.below hlt).more (by omega), hD6.thenB cW.below⟩
  · have d0' : (d == 0) = false := beq_eq_false_iff_ne.2 d0
    clear d0
    have x0 := blk_cell HB4.out (j := 0) rfl
    have x1 := blk_cell HB4.out (j := 1) rfl
    have x2 := blk_cell HB4.out (j := 2) rfl
    have x3 := blk_cell HB4.out (j := 3) rfl
    have x4 := blk_cell HB4.out (j := 4) rfl
    have x5 := blk_cell HB4.out (j := 5) rfl
    have f0 := blk_frozen HB4.out 0
    have f1 := blk_frozen HB4.out 1
    have f2 := blk_frozen HB4.out 2
    have f3 := blk_frozen HB4.out 3
    have f4 := blk_frozen HB4.out 4
    have f5 := blk_frozen HB4.out 5
    have t0 := blk_cell HT4.out (j := 0) rfl
    have t1 := blk_cell HT4.out (j := 1) rfl
    have t2 := blk_cell HT4.out (j := 2) rfl
    have t3 := blk_cell HT4.out (j := 3) rfl
    have t4 := blk_cell HT4.out (j := 4) rfl
    have t5 := blk_cell HT4.out (j := 5) rfl
    go_wp2
    change bodyPost _ _ _ _ _ (put6 w4 w.heap.size (.int .i64 (1 + c)) (.int .i64 k) (.slice pq xs.length cq) (.string s) (.int .i64 p) (.string u))
    have hW := put6_blk HB4.out (.int .i64 (1 + c)) (.int .i64 k) (.slice pq xs.length cq) (.string s) (.int .i64 p) (.string u)
    have cW := put6_chg w4 w.heap.size (.int .i64 (1 + c)) (.int .i64 k) (.slice pq xs.length cq) (.string s) (.int .i64 p) (.string u)
    generalize put6 w4 w.heap.size (.int .i64 (1 + c)) (.int .i64 k) (.slice pq xs.length cq) (.string s) (.int .i64 p) (.string u) = W at *
    have y0 := blk_cell hW (j := 0) rfl
    have y1 := blk_cell hW (j := 1) rfl
    have y2 := blk_cell hW (j := 2) rfl
    have y3 := blk_cell hW (j := 3) rfl
    have y4 := blk_cell hW (j := 4) rfl
    have y5 := blk_cell hW (j := 5) rfl
    exact bodyPost_ret (v := .agg #[.int .i64 (1 + c), .int .i64 k, .slice pq xs.length cq, .string s, .int .i64 p, .string u]) (by simp [results, Tryz.results52, go_sem, y0, y1, y2, y3, y4, y5]) rfl ⟨_, _, _, _, _, _, _, rfl, hxl, hsl, hul, (hb4.chg cW (.inr hs1)).o.mono (by omega), (hr4.keptB cW.below hlt).more (by omega), hD4.thenB cW.below⟩
end Go.Proofs.YtdbepkcpdglppaaGreatDoor
namespace Go.Proofs.YtdbepkcpdglppaaGreatDoor
open Go.RowKit
/-- A drawn pair. -/
def DrewP (n g m : Nat) (w : World) (e : Ending) (w' : World) : Prop := ∃ (q q' : Value) (k p k' p' : Int) (s s' : ByteArray) (xs ys : List Int), e = .returned (.agg #[.int .i64 k, q, .string s, .int .i64 p, .int .i64 k', q', .string s', .int .i64 p']) ∧ xs.length ≤ 4 ∧ ys.length ≤ 4 ∧ s.size ≤ 30 ∧ s'.size ≤ 30 ∧ IntO w.heap.size 3 w' q xs ∧ IntO w.heap.size 3 w' q' ys ∧ RdAt w' g (m + n) ∧ D g w w'
set_option maxRecDepth 20000 in
set_option maxHeartbeats 4000000 in
theorem l92Pair_c {w : World} {g m : Nat} (h : RdAt w g m) (hm : m ≤ 20000) :
    Calls Tryz.prog 30 #[.pointer (some ⟨g, 0, none⟩)] w (DrewP 70 g m w) := by
  have hlt := h.lt
  have hne : ¬ w.heap.size = g := by omega
  go_enter Tryz.func30, Tryz.ntmps30
  go_wp2_with fail
  (with_reducible refine (l91Quad_c (h.alloc _) (by omega)).mono ?_); rintro e w1 ⟨q, xs, rfl, hxl, ho1, hr1, hd1⟩
  obtain ⟨pq, cq, rfl⟩ := ho1.len
  have hB1 := hd1.blk (heap_alloc_new w _) hne
  have hD1 := (D.ofGr (gr_alloc w (.cells #[.int .i64 0, .slice none 0 0, .string ⟨#[]⟩, .int .i64 0, .int .i64 0, .slice none 0 0, .string ⟨#[]⟩, .int .i64 0] 27))).trans hd1
  have hbq1 : IntB (w.heap.size + 1) w1.heap.size 3 w1 (.slice pq xs.length cq) xs := (IntO.b ho1).wide (by simp) (Nat.le_refl _)
  have HB1 := Lib.hid hB1
  have hz1 : w.heap.size + 1 ≤ w1.heap.size := by have := hd1.sz; simp at this; omega
  clear hB1 hd1 ho1
  go_wp2_with fail
  (with_reducible refine (l91Port_c hr1 (by omega)).mono ?_); rintro e w2 ⟨p, rfl, hp0, hp1, hr2, hd2⟩
  have HB2 := Lib.hid (hd2.blk HB1.out hne)
  have hbq2 := hbq1.keptD hd2 (by omega)
  have hD2 := hD1.trans hd2
  have hz2 := hd2.sz
  clear hd2 hbq1
  have gA := gr_alloc w2 (.cells #[.int .i64 1, .slice pq xs.length cq, .string ⟨#[]⟩, .int .i64 p] 25)
  have hA := heap_alloc_new w2 (.cells #[.int .i64 1, .slice pq xs.length cq, .string ⟨#[]⟩, .int .i64 p] 25)
  go_wp2_with fail
  (with_reducible refine (l91Quad_c (hr2.alloc _) (by omega)).mono ?_); rintro e w3 ⟨q', ys, rfl, hyl, ho3, hr3, hd3⟩
  obtain ⟨pq', cq', rfl⟩ := ho3.len
  have hne2 : ¬ w2.heap.size = g := by have := hr2.lt; omega
  have HB3 := Lib.hid (hd3.blk (gA.blk HB2.out) hne)
  have HA3 := Lib.hid (hd3.blk hA hne2)
  have hbq3 := (hbq2.kept gA).keptD hd3 (by omega)
  have hby3 : IntB (w2.heap.size + 1) w3.heap.size 3 w3 (.slice pq' ys.length cq') ys := (IntO.b ho3).wide (by simp) (Nat.le_refl _)
  have hD3 := (hD2.alloc _).trans hd3
  have hz3 : w2.heap.size + 1 ≤ w3.heap.size := by have := hd3.sz; simp at this; omega
  clear hd3 hbq2 gA hA ho3
  go_wp2_with fail
  (with_reducible refine (l91Port_c hr3 (by omega)).mono ?_); rintro e w4 ⟨p', rfl, hp0', hp1', hr4, hd4⟩
  have HB4 := Lib.hid (hd4.blk HB3.out hne)
  have HA4 := Lib.hid (hd4.blk HA3.out hne2)
  have hbq4 := hbq3.keptD hd4 (by omega)
  have hby4 := hby3.keptD hd4 (by omega)
  have hD4 := hD3.trans hd4
  have hz4 := hd4.sz
  clear hd4 hbq3 hby3
  have gC := gr_alloc w4 (.cells #[.int .i64 1, .slice pq' ys.length cq', .string ⟨#[]⟩, .int .i64 p'] 25)
  have hC := heap_alloc_new w4 (.cells #[.int .i64 1, .slice pq' ys.length cq', .string ⟨#[]⟩, .int .i64 p'] 25)
  go_wp2_with fail
  (with_reducible refine (pick_c (hr4.alloc _) (by omega) _ (by omega) (by omega)).mono ?_); rintro e w5 ⟨d, rfl, hd0, hd1, hr5, hd5⟩
  have hne4 : ¬ w4.heap.size = g := by have := hr4.lt; omega
  have HB5 := Lib.hid (hd5.blk (gC.blk HB4.out) hne)
  have HA5 := Lib.hid (hd5.blk (gC.blk HA4.out) hne2)
  have HC5 := Lib.hid (hd5.blk hC hne4)
  have hbq5 := (hbq4.kept gC).keptD hd5 (by omega)
  have hby5 := (hby4.kept gC).keptD hd5 (by omega)
  have hD5 := (hD4.alloc _).trans hd5
  have hz5 : w4.heap.size + 1 ≤ w5.heap.size := by have := hd5.sz; simp at this; omega
  have hzw : w.heap.size ≤ w5.heap.size := hD5.sz
  clear hd5 hbq4 hby4 gC hC
  have s0 := blk_cell HA5.out (j := 0) rfl
  have s1 := blk_cell HA5.out (j := 1) rfl
  have s2 := blk_cell HA5.out (j := 2) rfl
  have s3 := blk_cell HA5.out (j := 3) rfl
  by_cases d0 : d = 0
  · subst d0
    go_wp2_with fail
    go_region_with (first
      | (go_at_call 47; (with_reducible refine (l91Address_c hr5.drew (by omega)).mono ?_); rintro e w6 ⟨q6, k6, p6, s6, zs, rfl, hzl, hsl, _, _, ho6, hr6, hd6'⟩; have hd6 : D g w5 w6 := (D.ofGr ((Gr.refl w5).drew)).trans hd6'; obtain ⟨pq6, cq6, rfl⟩ := ho6.len; have s0' := hd6.cell s0 hne2; have s1' := hd6.cell s1 hne2; have s2' := hd6.cell s2 hne2; have s3' := hd6.cell s3 hne2; have hB6 := hd6.blk HB5.out hne; have x0 := blk_cell hB6 (j := 0) rfl; have x1 := blk_cell hB6 (j := 1) rfl; have x2 := blk_cell hB6 (j := 2) rfl; have x3 := blk_cell hB6 (j := 3) rfl; have x4 := blk_cell hB6 (j := 4) rfl; have x5 := blk_cell hB6 (j := 5) rfl; have x6 := blk_cell hB6 (j := 6) rfl; have x7 := blk_cell hB6 (j := 7) rfl; have f0 := blk_frozen hB6 0; have f1 := blk_frozen hB6 1; have f2 := blk_frozen hB6 2; have f3 := blk_frozen hB6 3; have f4 := blk_frozen hB6 4; have f5 := blk_frozen hB6 5; have f6 := blk_frozen hB6 6; have f7 := blk_frozen hB6 7; have HB6 := Lib.hid hB6; clear hB6))
    all_goals
      have hbq6 := hbq5.keptD hd6 (by omega)
      have ho6' : IntO w5.heap.size 3 w6 (.slice pq6 zs.length cq6) zs := ho6
      have hby6 := (IntO.b ho6')
      go_wp2
      change bodyPost _ _ _ _ _ (put8 w6 w.heap.size (.int .i64 1) (.slice pq xs.length cq) (.string ⟨#[]⟩) (.int .i64 p) (.int .i64 k6) (.slice pq6 zs.length cq6) (.string s6) (.int .i64 p6))
      have hW := put8_blk HB6.out (.int .i64 1) (.slice pq xs.length cq) (.string ⟨#[]⟩) (.int .i64 p) (.int .i64 k6) (.slice pq6 zs.length cq6) (.string s6) (.int .i64 p6)
      have cW := put8_chg w6 w.heap.size (.int .i64 1) (.slice pq xs.length cq) (.string ⟨#[]⟩) (.int .i64 p) (.int .i64 k6) (.slice pq6 zs.length cq6) (.string s6) (.int .i64 p6)
      generalize put8 w6 w.heap.size (.int .i64 1) (.slice pq xs.length cq) (.string ⟨#[]⟩) (.int .i64 p) (.int .i64 k6) (.slice pq6 zs.length cq6) (.string s6) (.int .i64 p6) = W at *
      have y0 := blk_cell hW (j := 0) rfl
      have y1 := blk_cell hW (j := 1) rfl
      have y2 := blk_cell hW (j := 2) rfl
      have y3 := blk_cell hW (j := 3) rfl
      have y4 := blk_cell hW (j := 4) rfl
      have y5 := blk_cell hW (j := 5) rfl
      have y6 := blk_cell hW (j := 6) rfl
      have y7 := blk_cell hW (j := 7) rfl
      exact bodyPost_ret (v := .agg #[.int .i64 1, .slice pq xs.length cq, .string ⟨#[]⟩, .int .i64 p, .int .i64 k6, .slice pq6 zs.length cq6, .string s6, .int .i64 p6]) (by simp [results, Tryz.results30, go_sem, y0, y1, y2, y3, y4, y5, y6, y7]) rfl ⟨_, _, _, _, _, _, _, _, _, _, rfl, hxl, hzl, by decide, hsl, (hbq6.chg cW (.inr (Nat.le_refl _))).o.mono (by omega), (hby6.chg cW (.inr (by omega))).o.mono (by omega), (hr6.keptB cW.below hlt).more (by omega), (hD5.trans hd6).thenB cW.below⟩
  · have d0' : (d == 0) = false := beq_eq_false_iff_ne.2 d0
    clear d0
    have t0 := blk_cell HC5.out (j := 0) rfl
    have t1 := blk_cell HC5.out (j := 1) rfl
    have t2 := blk_cell HC5.out (j := 2) rfl
    have t3 := blk_cell HC5.out (j := 3) rfl
    have x0 := blk_cell HB5.out (j := 0) rfl
    have x1 := blk_cell HB5.out (j := 1) rfl
    have x2 := blk_cell HB5.out (j := 2) rfl
    have x3 := blk_cell HB5.out (j := 3) rfl
    have x4 := blk_cell HB5.out (j := 4) rfl
    have x5 := blk_cell HB5.out (j := 5) rfl
    have x6 := blk_cell HB5.out (j := 6) rfl
    have x7 := blk_cell HB5.out (j := 7) rfl
    have f0 := blk_frozen HB5.out 0
    have f1 := blk_frozen HB5.out 1
    have f2 := blk_frozen HB5.out 2
    have f3 := blk_frozen HB5.out 3
    have f4 := blk_frozen HB5.out 4
    have f5 := blk_frozen HB5.out 5
    have f6 := blk_frozen HB5.out 6
    have f7 := blk_frozen HB5.out 7
    go_wp2
    change bodyPost _ _ _ _ _ (put8 w5 w.heap.size (.int .i64 1) (.slice pq xs.length cq) (.string ⟨#[]⟩) (.int .i64 p) (.int .i64 1) (.slice pq' ys.length cq') (.string ⟨#[]⟩) (.int .i64 p'))
    have hW := put8_blk HB5.out (.int .i64 1) (.slice pq xs.length cq) (.string ⟨#[]⟩) (.int .i64 p) (.int .i64 1) (.slice pq' ys.length cq') (.string ⟨#[]⟩) (.int .i64 p')
    have cW := put8_chg w5 w.heap.size (.int .i64 1) (.slice pq xs.length cq) (.string ⟨#[]⟩) (.int .i64 p) (.int .i64 1) (.slice pq' ys.length cq') (.string ⟨#[]⟩) (.int .i64 p')
    generalize put8 w5 w.heap.size (.int .i64 1) (.slice pq xs.length cq) (.string ⟨#[]⟩) (.int .i64 p) (.int .i64 1) (.slice pq' ys.length cq') (.string ⟨#[]⟩) (.int .i64 p') = W at *
    have y0 := blk_cell hW (j := 0) rfl
    have y1 := blk_cell hW (j := 1) rfl
    have y2 := blk_cell hW (j := 2) rfl
    have y3 := blk_cell hW (j := 3) rfl
    have y4 := blk_cell hW (j := 4) rfl
    have y5 := blk_cell hW (j := 5) rfl
    have y6 := blk_cell hW (j := 6) rfl
    have y7 := blk_cell hW (j := 7) rfl
    exact bodyPost_ret (v := .agg #[.int .i64 1, .slice pq xs.length cq, .string ⟨#[]⟩, .int .i64 p, .int .i64 1, .slice pq' ys.length cq', .string ⟨#[]⟩, .int .i64 p']) (by simp [results, Tryz.results30, go_sem, y0, y1, y2, y3, y4, y5, y6, y7]) rfl ⟨_, _, _, _, _, _, _, _, _, _, rfl, hxl, hyl, by decide, by decide, (hbq5.chg cW (.inr (Nat.le_refl _))).o.mono (by omega), (hby5.chg cW (.inr (by omega))).o.mono (by omega), (hr5.keptB cW.below hlt).more (by omega), hD5.thenB cW.below⟩
end Go.Proofs.YtdbepkcpdglppaaGreatDoor
