/- Draws of addresses. -/
import Derived.Test.YtknhfogblfogaaaDrawD
import Derived.Test.YtknhfogblfogaaaTagO
namespace Go.Proofs.Ytknhfogblfogaaa
open Go.RowKit
/-- A drawn address. -/
def DrewA (n g m : Nat) (w : World) (e : Ending) (w' : World) : Prop := ∃ (q : Value) (k p : Int) (s : ByteArray) (xs : List Int), e = .returned (.agg #[.int .i64 k, q, .string s, .int .i64 p]) ∧ xs.length ≤ 4 ∧ s.size ≤ 30 ∧ -1 ≤ p ∧ p ≤ 65536 ∧ IntO w.heap.size 3 w' q xs ∧ RdAt w' g (m + n) ∧ D g w w'
/-- Four cells of a block, written. -/
def put4 (w : World) (b : Nat) (a0 a1 a2 a3 : Value) : World := (((w.setCell ⟨b, 0, none⟩ a0).setCell ⟨b, 1, none⟩ a1).setCell ⟨b, 2, none⟩ a2).setCell ⟨b, 3, none⟩ a3
theorem put4_blk {w : World} {b : Nat} {c0 c1 c2 c3 : Value} {t : TypeId} (h : w.heap[b]? = some (.cells #[c0, c1, c2, c3] t (0, 0))) (a0 a1 a2 a3 : Value) : (put4 w b a0 a1 a2 a3).heap[b]? = some (.cells #[a0, a1, a2, a3] t (0, 0)) :=
  heap_set (j := 3) (x := a3) (heap_set (j := 2) (x := a2) (heap_set (j := 1) (x := a1) (heap_set (j := 0) (x := a0) h)))
theorem put4_D (w : World) (b : Nat) (a0 a1 a2 a3 : Value) : D b w (put4 w b a0 a1 a2 a3) := D.set (D.set (D.set (D.set (D.refl b w) 0 a0) 1 a1) 2 a2) 3 a3
theorem put4_below (w : World) (b : Nat) (a0 a1 a2 a3 : Value) : Below b w (put4 w b a0 a1 a2 a3) :=
  have h := put4_D w b a0 a1 a2 a3
  ⟨h.os, h.tape, h.output, h.size, fun k hk => by unfold put4; rw [Below.heap_setCell _ _ _ _ (by simp; omega), Below.heap_setCell _ _ _ _ (by simp; omega), Below.heap_setCell _ _ _ _ (by simp; omega), Below.heap_setCell _ _ _ _ (by simp; omega)]⟩
set_option maxHeartbeats 4000000 in
theorem l91Address_c {w : World} {g m : Nat} (h : RdAt w g m) (hm : m ≤ 40000) :
    Calls Try.prog 72 #[.pointer (some ⟨g, 0, none⟩)] w (DrewA 25 g m w) := by
  have hlt := h.lt
  have hne : ¬ w.heap.size = g := by omega
  go_enter Try.func72, Try.ntmps72
  go_wp2_with fail
  (with_reducible refine (pick_c (h.alloc _) (by omega) _ (by omega) (by omega)).mono ?_); rintro e w1 ⟨c, rfl, hc0, hc1, hr1, hd1⟩
  have hB1 := hd1.blk (heap_alloc_new w _) hne
  have hD1 := (D.ofGr (gr_alloc w (.cells #[.int .i64 0, .slice none 0 0, .string ⟨#[]⟩, .int .i64 0] 24))).trans hd1
  have hs1 : w.heap.size < w1.heap.size := by have := hd1.sz; simp at this; omega
  have HB1 := Lib.hid hB1
  clear hB1 hd1
  by_cases c0 : c = 0
  · subst c0
    go_wp2_with fail
    (with_reducible refine (l91Quad_c hr1 (by omega)).mono ?_); rintro e w2 ⟨q, xs, rfl, hx4, ho2, hr2, hd2⟩
    go_wp2_with fail
    (with_reducible refine (l91Port_c hr2 (by omega)).mono ?_); rintro e w3 ⟨p, rfl, hp0, hp1, hr3, hd3⟩
    obtain ⟨pq, cq, rfl⟩ := ho2.len
    have hB3 := hd3.blk (hd2.blk HB1.out hne) hne
    have ho3 := ho2.keptD hd3 hr1.lt
    have hD3 := (hD1.trans hd2).trans hd3
    have x0 := blk_cell hB3 (j := 0) rfl
    have x1 := blk_cell hB3 (j := 1) rfl
    have x2 := blk_cell hB3 (j := 2) rfl
    have x3 := blk_cell hB3 (j := 3) rfl
    have f0 := blk_frozen hB3 0
    have f1 := blk_frozen hB3 1
    have f2 := blk_frozen hB3 2
    have f3 := blk_frozen hB3 3
    have HB3 := Lib.hid hB3
    clear hB3 hd2 hd3 ho2
    go_wp2
    change bodyPost _ _ _ _ _ (put4 w3 w.heap.size (.int .i64 1) (.slice pq xs.length cq) (.string ⟨#[]⟩) (.int .i64 p))
    have hW := put4_blk HB3.out (.int .i64 1) (.slice pq xs.length cq) (.string ⟨#[]⟩) (.int .i64 p)
    have gW := put4_below w3 w.heap.size (.int .i64 1) (.slice pq xs.length cq) (.string ⟨#[]⟩) (.int .i64 p)
    have dW := put4_D w3 w.heap.size (.int .i64 1) (.slice pq xs.length cq) (.string ⟨#[]⟩) (.int .i64 p)
    generalize put4 w3 w.heap.size (.int .i64 1) (.slice pq xs.length cq) (.string ⟨#[]⟩) (.int .i64 p) = W at *
    have y0 := blk_cell hW (j := 0) rfl
    have y1 := blk_cell hW (j := 1) rfl
    have y2 := blk_cell hW (j := 2) rfl
    have y3 := blk_cell hW (j := 3) rfl
    exact bodyPost_ret (v := .agg #[.int .i64 1, .slice pq xs.length cq, .string ⟨#[]⟩, .int .i64 p]) (by simp [results, Try.results72, go_sem, y0, y1, y2, y3]) rfl ⟨_, _, _, _, _, rfl, hx4, by decide, hp0, hp1, (ho3.keptD dW hs1).mono (by omega), (hr3.keptB gW hlt).more (by omega), hD3.thenB gW⟩
  · have c0' : (c == 0) = false := beq_eq_false_iff_ne.2 c0
    clear c0
    go_wp2_with fail
    (with_reducible refine (l91Name_c (hr1.alloc (.cells #[] 3)) (by omega)).mono ?_); rintro e w2 ⟨s, rfl, hsz, hr2, hd2⟩
    go_wp2_with fail
    (with_reducible refine (l91Port_c hr2 (by omega)).mono ?_); rintro e w3 ⟨p, rfl, hp0, hp1, hr3, hd3⟩
    have hB3 := hd3.blk (hd2.blk ((gr_alloc w1 (.cells #[] 3)).blk HB1.out) hne) hne
    have ho3 : IntO w1.heap.size 3 w3 (.slice (some ⟨w1.heap.size, 0, none⟩) 0 0) [] := ((IntO.mt w1).keptD hd2 hr1.lt).keptD hd3 hr1.lt
    have hD3 := ((hD1.alloc (.cells #[] 3)).trans hd2).trans hd3
    have hs3 := hD3.sz
    have HB3 := Lib.hid hB3
    clear hB3 hd2 hd3
    go_wp2_with fail
    (with_reducible refine (pick_c (hr3.alloc _) (by omega) _ (by omega) (by omega)).mono ?_); rintro e w4 ⟨d, rfl, hd0, hd1, hr4, hd4⟩
    have hB4 := hd4.blk ((gr_alloc w3 (.cells #[.int .i64 3, .slice (some ⟨w1.heap.size, 0, none⟩) 0 0, .string s, .int .i64 p] 24)).blk HB3.out) hne
    have hT4 := hd4.blk (heap_alloc_new w3 (.cells #[.int .i64 3, .slice (some ⟨w1.heap.size, 0, none⟩) 0 0, .string s, .int .i64 p] 24)) (by have := hr3.lt; omega)
    have ho4 := (ho3.kept (gr_alloc w3 (.cells #[.int .i64 3, .slice (some ⟨w1.heap.size, 0, none⟩) 0 0, .string s, .int .i64 p] 24))).keptD hd4 hr1.lt
    have hD4 := (hD3.alloc (.cells #[.int .i64 3, .slice (some ⟨w1.heap.size, 0, none⟩) 0 0, .string s, .int .i64 p] 24)).trans hd4
    have hb4 : IntB w1.heap.size w3.heap.size 3 w4 (.slice (some ⟨w1.heap.size, 0, none⟩) 0 0) [] := OwnB.keptD (IntB.kept ho3.b (gr_alloc w3 (.cells #[.int .i64 3, .slice (some ⟨w1.heap.size, 0, none⟩) 0 0, .string s, .int .i64 p] 24))) hd4 hr1.lt
    have HB4 := Lib.hid hB4
    have HT4 := Lib.hid hT4
    have hs4 : w.heap.size < w3.heap.size := by have := hD3.sz; have := hr3.lt; have h2 := ho3.blk w1.heap.size rfl; omega
    clear hB4 hT4 hd4 ho3
    by_cases d0 : d = 0
    · subst d0
      go_wp2_with fail
      (with_reducible refine (pick_c hr4 (by omega) _ (by omega) (by omega)).mono ?_); rintro e w5 ⟨k, rfl, hk0, hk1, hr5, hd5⟩
      have hB5 := hd5.blk HB4.out hne
      have hT5 := hd5.blk HT4.out (by have := hr3.lt; omega)
      have ho5 := ho4.keptD hd5 hr1.lt
      have hD5 := hD4.trans hd5
      have x0 := blk_cell hB5 (j := 0) rfl
      have x1 := blk_cell hB5 (j := 1) rfl
      have x2 := blk_cell hB5 (j := 2) rfl
      have x3 := blk_cell hB5 (j := 3) rfl
      have f0 := blk_frozen hB5 0
      have f1 := blk_frozen hB5 1
      have f2 := blk_frozen hB5 2
      have f3 := blk_frozen hB5 3
      have t0 := blk_cell hT5 (j := 0) rfl
      have t1 := blk_cell hT5 (j := 1) rfl
      have t2 := blk_cell hT5 (j := 2) rfl
      have t3 := blk_cell hT5 (j := 3) rfl
      have e0 := blk_frozen hT5 0
      have n3 : ¬ w.heap.size = w3.heap.size := by omega
      have n3' : ¬ w3.heap.size = w.heap.size := by omega
      have hB6 : (w5.setCell ⟨w3.heap.size, 0, none⟩ (.int .i64 k)).heap[w.heap.size]? = _ := (Below.heap_setCell _ _ _ _ n3).trans hB5
      have HB6 := Lib.hid hB6
      have d6 : D w3.heap.size w5 (w5.setCell ⟨w3.heap.size, 0, none⟩ (.int .i64 k)) := D.set (D.refl _ _) 0 _
      have g6 : Below w3.heap.size w5 (w5.setCell ⟨w3.heap.size, 0, none⟩ (.int .i64 k)) := Below.setCell (p := ⟨w3.heap.size, 0, none⟩) (Below.refl w3.heap.size w5) (Nat.le_refl _) _
      have ho6 : IntO w1.heap.size 3 (w5.setCell ⟨w3.heap.size, 0, none⟩ (.int .i64 k)) (.slice (some ⟨w1.heap.size, 0, none⟩) 0 0) [] := IntB.o (IntB.chg (OwnB.keptD hb4 hd5 hr1.lt) (Chg.set (Chg.refl w3.heap.size (w3.heap.size + 1) w5) (by simp) (by simp) _) (.inl (Nat.le_refl _)))
      have hr6 := hr5.keptB g6 (by have := hr3.lt; omega)
      have hD6 : D g w _ := hD5.thenB (g6.mono (by omega))
      clear hB5 hT5 hB6 hd5 ho5 hD5 hr5 d6 g6
      go_wp2
      change bodyPost _ _ _ _ _ (put4 (w5.setCell ⟨w3.heap.size, 0, none⟩ (.int .i64 k)) w.heap.size (.int .i64 k) (.slice (some ⟨w1.heap.size, 0, none⟩) 0 0) (.string s) (.int .i64 p))
      have hW := put4_blk HB6.out (.int .i64 k) (.slice (some ⟨w1.heap.size, 0, none⟩) 0 0) (.string s) (.int .i64 p)
      have gW := put4_below (w5.setCell ⟨w3.heap.size, 0, none⟩ (.int .i64 k)) w.heap.size (.int .i64 k) (.slice (some ⟨w1.heap.size, 0, none⟩) 0 0) (.string s) (.int .i64 p)
      have dW := put4_D (w5.setCell ⟨w3.heap.size, 0, none⟩ (.int .i64 k)) w.heap.size (.int .i64 k) (.slice (some ⟨w1.heap.size, 0, none⟩) 0 0) (.string s) (.int .i64 p)
      generalize put4 (w5.setCell ⟨w3.heap.size, 0, none⟩ (.int .i64 k)) w.heap.size (.int .i64 k) (.slice (some ⟨w1.heap.size, 0, none⟩) 0 0) (.string s) (.int .i64 p) = W at *
      have y0 := blk_cell hW (j := 0) rfl
      have y1 := blk_cell hW (j := 1) rfl
      have y2 := blk_cell hW (j := 2) rfl
      have y3 := blk_cell hW (j := 3) rfl
      exact bodyPost_ret (v := .agg #[.int .i64 k, .slice (some ⟨w1.heap.size, 0, none⟩) 0 0, .string s, .int .i64 p]) (by simp [results, Try.results72, go_sem, y0, y1, y2, y3]) rfl ⟨_, _, _, _, _, rfl, by simp, hsz, hp0, hp1, (ho6.keptD dW hs1).mono (by omega), (hr6.keptB gW hlt).more (by omega), hD6.thenB gW⟩
    · have d0' : (d == 0) = false := beq_eq_false_iff_ne.2 d0
      clear d0
      have x0 := blk_cell HB4.out (j := 0) rfl
      have x1 := blk_cell HB4.out (j := 1) rfl
      have x2 := blk_cell HB4.out (j := 2) rfl
      have x3 := blk_cell HB4.out (j := 3) rfl
      have f0 := blk_frozen HB4.out 0
      have f1 := blk_frozen HB4.out 1
      have f2 := blk_frozen HB4.out 2
      have f3 := blk_frozen HB4.out 3
      have t0 := blk_cell HT4.out (j := 0) rfl
      have t1 := blk_cell HT4.out (j := 1) rfl
      have t2 := blk_cell HT4.out (j := 2) rfl
      have t3 := blk_cell HT4.out (j := 3) rfl
      go_wp2
      change bodyPost _ _ _ _ _ (put4 w4 w.heap.size (.int .i64 3) (.slice (some ⟨w1.heap.size, 0, none⟩) 0 0) (.string s) (.int .i64 p))
      have hW := put4_blk HB4.out (.int .i64 3) (.slice (some ⟨w1.heap.size, 0, none⟩) 0 0) (.string s) (.int .i64 p)
      have gW := put4_below w4 w.heap.size (.int .i64 3) (.slice (some ⟨w1.heap.size, 0, none⟩) 0 0) (.string s) (.int .i64 p)
      have dW := put4_D w4 w.heap.size (.int .i64 3) (.slice (some ⟨w1.heap.size, 0, none⟩) 0 0) (.string s) (.int .i64 p)
      generalize put4 w4 w.heap.size (.int .i64 3) (.slice (some ⟨w1.heap.size, 0, none⟩) 0 0) (.string s) (.int .i64 p) = W at *
      have y0 := blk_cell hW (j := 0) rfl
      have y1 := blk_cell hW (j := 1) rfl
      have y2 := blk_cell hW (j := 2) rfl
      have y3 := blk_cell hW (j := 3) rfl
      exact bodyPost_ret (v := .agg #[.int .i64 3, .slice (some ⟨w1.heap.size, 0, none⟩) 0 0, .string s, .int .i64 p]) (by simp [results, Try.results72, go_sem, y0, y1, y2, y3]) rfl ⟨_, _, _, _, _, rfl, by simp, hsz, hp0, hp1, (ho4.keptD dW hs1).mono (by omega), (hr4.keptB gW hlt).more (by omega), hD4.thenB gW⟩
end Go.Proofs.Ytknhfogblfogaaa
