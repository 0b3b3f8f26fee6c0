/- Draws of bytes. -/
import Derived.Test.YtknhfogblfogaaaDrawA
namespace Go.Proofs.Ytknhfogblfogaaa
open Go.RowKit
theorem RdAt.alloc {w : World} {g m : Nat} (h : RdAt w g m) (o : Obj) : RdAt (w.alloc o) g m := h.kept (gr_alloc w o)
theorem D.alloc {g : Nat} {a b : World} (h : D g a b) (o : Obj) : D g a (b.alloc o) := h.trans (D.ofGr (gr_alloc b o))
theorem D.thenB {g : Nat} {a b c : World} (h : D g a b) (k : Below a.heap.size b c) : D g a c :=
  ⟨k.os.trans h.os, k.tape.trans h.tape, k.output.trans h.output, Nat.le_trans h.size k.size, fun i hi hne => (k.block i hi).trans (h.block i hi hne)⟩
theorem D.cell {g : Nat} {a b : World} (h : D g a b) {p : Addr} {v : Value} (hc : a.cell? p = some v) (hp : p.block ≠ g) : b.cell? p = some v := World.grownBy.cell h hc (by simpa using hp)
theorem RdAt.keptB {w w' : World} {g m B : Nat} (h : RdAt w g m) (hb : Below B w w') (hg : g < B) : RdAt w' g m := by
  obtain ⟨w0, v, bs, p, h1, h2, h3, h4, h5, h6⟩ := h
  exact ⟨w0, v, bs, p, Below.trans h1 (hb.mono (by omega)), h2, h3, h4, h5, by rw [hb.block g hg]; exact h6⟩
/-- Drawn bytes: some ints in new memory. -/
def DrewI (most g m : Nat) (w : World) (e : Ending) (w' : World) : Prop := ∃ v xs, e = .returned v ∧ xs.length ≤ most ∧ IntO w.heap.size 3 w' v xs ∧ RdAt w' g (m + 3 * most + 4) ∧ D g w w'
set_option maxHeartbeats 1000000 in
theorem l91Bytes_c {w : World} {g m : Nat} (h : RdAt w g m) (hm : m ≤ 100000) (most : Nat) (mi : Int) (he : mi = (most : Int)) (hn : most ≤ 1000) :
    Calls Try.prog 47 #[.pointer (some ⟨g, 0, none⟩), .int .i64 mi] w (DrewI most g m w) := by
  subst he
  have hlt := h.lt
  have hmt := IntO.mt w
  have hd0 : D g w (w.alloc (.cells #[] 3)) := D.ofGr (gr_alloc w _)
  go_enter Try.func47, Try.ntmps47
  go_wp2_with fail
  (with_reducible refine (pick_c (h.alloc _) (by omega) _ (by omega) (by omega)).mono ?_); rintro e w1 ⟨n, rfl, hn0, hn1, hr1, hd1⟩
  have hmt1 := hmt.keptD hd1 hlt
  have hD1 := hd0.trans hd1
  clear hmt hd0 hd1 h
  obtain ⟨n, rfl⟩ := Int.eq_ofNat_of_zero_le hn0
  go_wp2_with fail
  go_loopw [5, 7] (fun s i wr => ∃ (k : Nat) (ys : List Int), k ≤ n ∧ i = .int .i64 k ∧ ys.length = k ∧ D g w wr ∧ RdAt wr g (m + 1 + 3 * k) ∧ IntO w.heap.size 3 wr s ys) (fun _ i _ => n - (intOf i).toNat)
  case atStart => exact ⟨0, [], by omega, rfl, rfl, hD1, hr1, hmt1⟩
  case round =>
    obtain ⟨k, ys, hk, rfl, hyl, hD, hr, ho⟩ := hrel
    have HYL := Lib.hid hyl; clear hyl
    by_cases hlt' : k < n
    · go_wp2_with fail
      (with_reducible refine (pick_c hr (by omega) _ (by omega) (by omega)).mono ?_); rintro e w2 ⟨a, rfl, ha0, ha1, hr2, hd2⟩
      go_wp2_with fail
      (with_reducible refine (pick_c hr2 (by omega) _ (by omega) (by omega)).mono ?_); rintro e w3 ⟨b, rfl, hb0, hb1, hr3, hd3⟩
      go_wp2_with fail
      (with_reducible refine (pick_c (hr3.alloc _) (by omega) _ (by omega) (by omega)).mono ?_); rintro e w4 ⟨c, rfl, hc0, hc1, hr4, hd4⟩
      have hs3 : g < w3.heap.size := hr3.lt
      have hx0 : w4.cell? ⟨w3.heap.size, 0, none⟩ = some (.int .i64 a) := hd4.cell (by simp) (by simp; omega)
      have hx1 : w4.cell? ⟨w3.heap.size, 1, none⟩ = some (.int .i64 b) := hd4.cell (by simp) (by simp; omega)
      have hD4 := ((hD.trans hd2).trans hd3).trans ((D.ofGr (gr_alloc _ _)).trans hd4)
      have ho4 := (((ho.keptD hd2 hlt).keptD hd3 hlt).kept (gr_alloc _ (.cells #[.int .i64 a, .int .i64 b] 3))).keptD hd4 hlt
      have hs4 := hD4.sz
      have hyl : ys.length ≤ 1000 := by have := HYL.out; omega
      clear hD hd2 hd3 hd4 ho hr hr2 hr3
      obtain rfl | rfl : c = 0 ∨ c = 1 := by omega
      all_goals
        go_wp2_with (at_builtin; refine wpl_appI rfl (.tmp 18) (.tmp 28) rfl rfl (ho4.kept (gr_alloc _ _)) rfl (IntO.one _).s (by simp; omega) (by simp; omega) ?_; intro v5 w5 ho5 hg5; have hD5 : D g w w5 := (hD4.alloc _).thenB hg5; have hr5 := (hr4.alloc _).keptB hg5 hlt)
        go_roundw
        case measure => simp [intOf]; omega
        case rel => exact ⟨k+1, _, by omega, by go_num, by have := HYL.out; simp; omega, hD5, hr5.more (by omega), ho5⟩
    · obtain rfl : k = n := by omega
      by_cases hz : k = 0
      · subst hz
        go_wp2
        go_ret
        exact ⟨_, ys, rfl, by have := HYL.out; omega, ho, hr.more (by omega), hD⟩
      · have hz' : (0 : Int) < (k : Int) := by omega
        go_wp2_with fail
        (with_reducible refine (pick_c hr (by omega) _ (by omega) (by omega)).mono ?_); rintro e w2 ⟨a, rfl, ha0, ha1, hr2, hd2⟩
        have hD2 := hD.trans hd2
        have ho2 := ho.keptD hd2 hlt
        clear ho hD hr hd2
        by_cases hx : a = 0
        · subst hx
          go_wp2_with fail
          (with_reducible refine (pick_c hr2 (by omega) _ (by omega) (by omega)).mono ?_); rintro e w3 ⟨j, rfl, hj0, hj1, hr3, hd3⟩
          obtain ⟨j, rfl⟩ := Int.eq_ofNat_of_zero_le hj0
          go_wp2_with fail
          (with_reducible refine (pick_c (hr3.alloc _) (by omega) _ (by omega) (by omega)).mono ?_); rintro e w4 ⟨c, rfl, hc0, hc1, hr4, hd4⟩
          have hs3 : g < w3.heap.size := hr3.lt
          have hx0 : w4.cell? ⟨w3.heap.size, 0, none⟩ = some (.int .i64 (-1)) := hd4.cell (by simp) (by simp; omega)
          have hx1 : w4.cell? ⟨w3.heap.size, 1, none⟩ = some (.int .i64 256) := hd4.cell (by simp) (by simp; omega)
          have ho4 := ((ho2.keptD hd3 hlt).kept (gr_alloc _ (.cells #[.int .i64 (-1), .int .i64 256] 3))).keptD hd4 hlt
          have hD4 := (hD2.trans hd3).trans ((D.ofGr (gr_alloc _ _)).trans hd4)
          obtain ⟨b, hjx, hb1, hb2, hcb, hfb, hob, hset⟩ := ho4.ix (show j < ys.length by have := HYL.out; omega)
          have HOB := Lib.hid hob
          clear hob hd3 hd4 hD2 ho2 hr2 hr3
          obtain rfl | rfl : c = 0 ∨ c = 1 := by omega
          all_goals
            go_wp2
            go_ret
            exact ⟨_, _, rfl, by rw [List.length_set]; have := HYL.out; omega, hset _, (hr4.keptB (Below.setCell (Below.refl _ _) hb1 _) hlt).more (by omega), hD4.thenB (Below.setCell (Below.refl _ _) hb1 _)⟩
        · have hx' : (a == 0) = false := by simpa using hx
          clear hx
          go_wp2
          go_ret
          exact ⟨_, ys, rfl, by have := HYL.out; omega, ho2, hr2.more (by omega), hD2⟩
end Go.Proofs.Ytknhfogblfogaaa
