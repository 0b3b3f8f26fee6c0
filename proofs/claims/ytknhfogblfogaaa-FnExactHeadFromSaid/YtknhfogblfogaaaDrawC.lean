/- Draws of texts and ports. -/
import Derived.Test.YtknhfogblfogaaaStrB
namespace Go.Proofs.Ytknhfogblfogaaa
open Go.RowKit
theorem StrO.keptD {B g : Nat} {w w' : World} {v : Value} {ls : List Tx} (h : StrO B w v ls) (hd : D g w w') (hB : g < B) : StrO B w' v ls := Own.keptD h hd hB
/-- A drawn text. -/
def DrewS (most g m : Nat) (w : World) (e : Ending) (w' : World) : Prop := ∃ s : ByteArray, e = .returned (.string s) ∧ s.size ≤ most ∧ RdAt w' g (m + 2) ∧ D g w w'
theorem of_c {w : World} {g m B most : Nat} {v : Value} {ls : List Tx} (h : RdAt w g m) (hm : m ≤ 100000) (ho : StrO B w v ls) (hB : g < B) (hn : 1 ≤ ls.length) (hn2 : ls.length ≤ 1000) (hl : ∀ l ∈ ls, l.length ≤ most) :
    Calls Try.prog 96 #[.pointer (some ⟨g, 0, none⟩), v] w fun e w' => ∃ s : ByteArray, e = .returned (.string s) ∧ s.size ≤ most ∧ RdAt w' g (m + 1) ∧ D g w w' := by
  obtain ⟨p, cap, rfl, _, _⟩ := ho.s.form
  have HL := Lib.hid hl; clear hl
  go_enter Try.func96, Try.ntmps96
  go_wp2_with fail
  (with_reducible refine (pick_c h (by omega) _ (by omega) (by omega)).mono ?_); rintro e w1 ⟨k, rfl, hk0, hk1, hr1, hd1⟩
  obtain ⟨k, rfl⟩ := Int.eq_ofNat_of_zero_le hk0
  have hk : k < ls.length := by omega
  obtain ⟨a, hix, hca⟩ := (ho.keptD hd1 hB).s.ix hk
  have HS : Hid ((S (nthS ls k)).size ≤ most) := by rw [Hid, S_len, nthS_eq hk]; exact HL.out _ (List.getElem_mem hk)
  generalize S (nthS ls k) = q at *
  go_wp2
  go_ret
  exact ⟨_, rfl, HS.out, hr1, hd1⟩
theorem strLit (w : World) (cs : Array Value) (ls : List Tx) (n : Nat) (hn : n ≤ 1000) (hl : ls.length = n) (hc : cs.toList = txs ls) : StrO w.heap.size (w.alloc (.cells cs 9)) (.slice (some ⟨w.heap.size, 0, none⟩) n n) ls := by
  subst hl
  have hs : cs.size = ls.length * 1 := by rw [← Array.length_toList, hc]; simp [txs]
  have := Own.lit (B := w.heap.size) (e := 9) (sz := 1) w cs ls.length (Nat.le_refl _) (by omega) hs
  rw [hc] at this
  exact this
set_option maxHeartbeats 1000000 in
theorem l91Name_c {w : World} {g m : Nat} (h : RdAt w g m) (hm : m ≤ 50000) :
    Calls Try.prog 89 #[.pointer (some ⟨g, 0, none⟩)] w (DrewS 30 g m w) := by
  have hlt := h.lt
  go_enter Try.func89, Try.ntmps89
  go_wp2_with fail
  (with_reducible refine (pick_c h (by omega) _ (by omega) (by omega)).mono ?_); rintro e w1 ⟨k, rfl, hk0, hk1, hr1, hd1⟩
  have hs1 := hd1.sz
  by_cases hk : k = 0
  · subst hk
    go_wp2_with fail
    refine (of_c (most := 30) (hr1.alloc _) (by omega) (strLit w1 _ [[], [97, 46, 46, 98], [46, 97], [97, 46], [65], [97, 95, 98], [97, 98, 99, 100, 101, 102, 103, 104, 105, 106, 107, 108, 109, 110, 111, 112, 113, 114, 115, 116], [97, 98, 99, 100, 101, 102, 103, 104, 105, 106, 107, 108, 109, 110, 111, 112, 113, 114, 115, 116, 117], [97, 46, 57]] 9 (by omega) rfl rfl) (by omega) (by decide) (by decide) (by decide)).mono ?_; rintro e w2 ⟨s, rfl, hs, hr2, hd2⟩
    go_wp2
    go_ret
    exact ⟨_, rfl, hs, hr2.more (by omega), (hd1.alloc _).trans hd2⟩
  · have hk' : (k == 0) = false := beq_eq_false_iff_ne.2 hk
    clear hk
    go_wp2_with fail
    refine (of_c (most := 30) (hr1.alloc _) (by omega) (strLit w1 _ [[120, 46, 111, 114, 103], [119, 119, 119, 46, 120, 46, 111, 114, 103], [97], [98, 45, 99, 46, 110, 101, 116], [57, 97, 46, 98], [121]] 6 (by omega) rfl rfl) (by omega) (by decide) (by decide) (by decide)).mono ?_; rintro e w2 ⟨s, rfl, hs, hr2, hd2⟩
    go_wp2
    go_ret
    exact ⟨_, rfl, hs, hr2.more (by omega), (hd1.alloc _).trans hd2⟩
set_option maxHeartbeats 1000000 in
theorem l91User_c {w : World} {g m : Nat} (h : RdAt w g m) (hm : m ≤ 50000) :
    Calls Try.prog 82 #[.pointer (some ⟨g, 0, none⟩)] w (DrewS 30 g m w) := by
  have hlt := h.lt
  go_enter Try.func82, Try.ntmps82
  go_wp2_with fail
  (with_reducible refine (pick_c h (by omega) _ (by omega) (by omega)).mono ?_); rintro e w1 ⟨k, rfl, hk0, hk1, hr1, hd1⟩
  have hs1 := hd1.sz
  by_cases hk : k = 0
  · subst hk
    go_wp2_with fail
    refine (of_c (most := 30) (hr1.alloc _) (by omega) (strLit w1 _ [[65], [97, 32, 98], [97, 98, 99, 100, 101, 102, 103, 104, 105], [97, 45, 98]] 4 (by omega) rfl rfl) (by omega) (by decide) (by decide) (by decide)).mono ?_; rintro e w2 ⟨s, rfl, hs, hr2, hd2⟩
    go_wp2
    go_ret
    exact ⟨_, rfl, hs, hr2.more (by omega), (hd1.alloc _).trans hd2⟩
  · have hk' : (k == 0) = false := beq_eq_false_iff_ne.2 hk
    clear hk
    go_wp2_with fail
    refine (of_c (most := 30) (hr1.alloc _) (by omega) (strLit w1 _ [[97, 110, 110], [98, 111, 98], [], [120, 57], [97, 98, 99, 100, 101, 102, 103, 104]] 5 (by omega) rfl rfl) (by omega) (by decide) (by decide) (by decide)).mono ?_; rintro e w2 ⟨s, rfl, hs, hr2, hd2⟩
    go_wp2
    go_ret
    exact ⟨_, rfl, hs, hr2.more (by omega), (hd1.alloc _).trans hd2⟩
/-- A drawn number. -/
def DrewN (lo hi : Int) (n g m : Nat) (w : World) (e : Ending) (w' : World) : Prop := ∃ p : Int, e = .returned (.int .i64 p) ∧ lo ≤ p ∧ p ≤ hi ∧ RdAt w' g (m + n) ∧ D g w w'
set_option maxHeartbeats 1000000 in
theorem l91Port_c {w : World} {g m : Nat} (h : RdAt w g m) (hm : m ≤ 50000) :
    Calls Try.prog 88 #[.pointer (some ⟨g, 0, none⟩)] w (DrewN (-1) 65536 3 g m w) := by
  have hlt := h.lt
  go_enter Try.func88, Try.ntmps88
  go_wp2_with fail
  (with_reducible refine (pick_c h (by omega) _ (by omega) (by omega)).mono ?_); rintro e w1 ⟨k, rfl, hk0, hk1, hr1, hd1⟩
  have hs1 := hr1.lt
  by_cases hk : k = 0
  · subst hk
    go_wp2_with fail
    (with_reducible refine (pick_c (hr1.alloc _) (by omega) _ (by omega) (by omega)).mono ?_); rintro e w2 ⟨c, rfl, hc0, hc1, hr2, hd2⟩
    have hx0 : w2.cell? ⟨w1.heap.size, 0, none⟩ = some (.int .i64 (-1)) := hd2.cell (by simp) (by simp; omega)
    have hx1 : w2.cell? ⟨w1.heap.size, 1, none⟩ = some (.int .i64 65536) := hd2.cell (by simp) (by simp; omega)
    have hD := (hd1.alloc (.cells #[.int .i64 (-1), .int .i64 65536] 3)).trans hd2
    clear hd1 hd2
    obtain rfl | rfl : c = 0 ∨ c = 1 := by omega
    all_goals
      go_wp2
      go_ret
      exact ⟨_, rfl, by omega, by omega, hr2.more (by omega), hD⟩
  · have hk' : (k == 0) = false := beq_eq_false_iff_ne.2 hk
    clear hk
    go_wp2_with fail
    (with_reducible refine (pick_c hr1 (by omega) _ (by omega) (by omega)).mono ?_); rintro e w2 ⟨d, rfl, hd0, hd1', hr2, hd2⟩
    have hs2 := hr2.lt
    go_wp2_with fail
    (with_reducible refine (pick_c (hr2.alloc _) (by omega) _ (by omega) (by omega)).mono ?_); rintro e w3 ⟨c, rfl, hc0, hc1, hr3, hd3⟩
    have hx0 : w3.cell? ⟨w2.heap.size, 0, none⟩ = some (.int .i64 0) := hd3.cell (by simp) (by simp; omega)
    have hx1 : w3.cell? ⟨w2.heap.size, 1, none⟩ = some (.int .i64 80) := hd3.cell (by simp) (by simp; omega)
    have hx2 : w3.cell? ⟨w2.heap.size, 2, none⟩ = some (.int .i64 443) := hd3.cell (by simp) (by simp; omega)
    have hx3 : w3.cell? ⟨w2.heap.size, 3, none⟩ = some (.int .i64 65535) := hd3.cell (by simp) (by simp; omega)
    have hx4 : w3.cell? ⟨w2.heap.size, 4, none⟩ = some (.int .i64 d) := hd3.cell (by simp) (by simp; omega)
    have hD := ((hd1.trans hd2).alloc (.cells #[.int .i64 0, .int .i64 80, .int .i64 443, .int .i64 65535, .int .i64 d] 3)).trans hd3
    clear hd1 hd2 hd3
    obtain rfl | rfl | rfl | rfl | rfl : c = 0 ∨ c = 1 ∨ c = 2 ∨ c = 3 ∨ c = 4 := by omega
    all_goals
      go_wp2
      go_ret
      exact ⟨_, rfl, by omega, by omega, hr3.more (by omega), hD⟩
end Go.Proofs.Ytknhfogblfogaaa
