/- Draws of pairs and heads. -/
import Derived.Test.YtfambpdhnicghaaGreatDoorGG
import Derived.Test.YtfambpdhnicghaaGreatDoorGI
import Derived.Test.YtfambpdhnicghaaGreatDoorGJ
import Derived.Test.YtfambpdhnicghaaGreatDoorGD
import Derived.Test.YtfambpdhnicghaaGreatDoorGB
namespace Go.Proofs.YtfambpdhnicghaaGreatDoor
open Go.RowKit
/-- A drawn pair, behind the whole draw. -/
def PairOut (w : World) (e : Ending) (w' : World) : Prop := ∃ (pq : Option Addr) (cq : Nat) (pq' : Option Addr) (cq' : Nat) (k p k' p' : Int) (s s' : ByteArray) (xs ys : List Int), e = .returned (.agg #[.int .i64 k, .slice pq xs.length cq, .string s, .int .i64 p, .int .i64 k', .slice pq' ys.length cq', .string s', .int .i64 p']) ∧ xs.length ≤ 4 ∧ ys.length ≤ 4 ∧ s.size ≤ 30 ∧ s'.size ≤ 30 ∧ IntS w' (.slice pq xs.length cq) xs ∧ IntS w' (.slice pq' ys.length cq') ys ∧ Gr w w'
set_option maxRecDepth 20000 in
set_option maxHeartbeats 2000000 in
theorem DrawLineText_c {w : World} {v : Value} {bs : List Int} (h : ByteS w v bs) :
    Calls Tryz.prog 9 #[v] w (PairOut w) := by
  obtain ⟨p, cap, rfl, _, _⟩ := h.form
  have gA := gr_alloc w (.cells #[.int .i64 0, .slice none 0 0, .string ⟨#[]⟩, .int .i64 0, .int .i64 0, .slice none 0 0, .string ⟨#[]⟩, .int .i64 0] 27)
  have hA := heap_alloc_new w (.cells #[.int .i64 0, .slice none 0 0, .string ⟨#[]⟩, .int .i64 0, .int .i64 0, .slice none 0 0, .string ⟨#[]⟩, .int .i64 0] 27)
  have zA : (w.alloc (.cells #[.int .i64 0, .slice none 0 0, .string ⟨#[]⟩, .int .i64 0, .int .i64 0, .slice none 0 0, .string ⟨#[]⟩, .int .i64 0] 27)).heap.size = w.heap.size + 1 := by simp
  have O := l6Open_c (h.kept gA)
  rw [zA] at O
  have HO := Lib.hid O
  clear O
  go_enter Tryz.func9, Tryz.ntmps9
  go_wp2_with fail
  (with_reducible refine (HO.out).mono ?_); rintro e w1 ⟨rfl, hr1, g1⟩
  have hz1 := g1.sz
  rw [zA] at hz1
  have HG1 := Lib.hid (gA.trans g1)
  have HB1 := Lib.hid (g1.blk hA)
  clear g1 hA zA gA HO
  go_wp2_with fail
  (with_reducible refine (l92Pair_c hr1 (by omega)).mono ?_); rintro e w2 ⟨q, q', k, p, k', p', s, s', xs, ys, rfl, hxl, hyl, hsl, hsl', ho2, ho2', hr2, hd2⟩
  obtain ⟨pq, cq, rfl⟩ := ho2.len
  obtain ⟨pq', cq', rfl⟩ := ho2'.len
  have HB2 := Lib.hid (hd2.blk HB1.out (by omega))
  have HG2 := Lib.hid (hd2.gr HG1.out (by omega))
  have b2 := IntO.b ho2
  have b2' := IntO.b ho2'
  clear ho2 ho2' hd2 HB1 HG1 hr2
  have x0 := blk_cell HB2.out (j := 0) rfl
  have x1 := blk_cell HB2.out (j := 1) rfl
  have x2 := blk_cell HB2.out (j := 2) rfl
  have x3 := blk_cell HB2.out (j := 3) rfl
  have x4 := blk_cell HB2.out (j := 4) rfl
  have x5 := blk_cell HB2.out (j := 5) rfl
  have x6 := blk_cell HB2.out (j := 6) rfl
  have x7 := blk_cell HB2.out (j := 7) rfl
  have f0 := blk_frozen HB2.out 0
  have f1 := blk_frozen HB2.out 1
  have f2 := blk_frozen HB2.out 2
  have f3 := blk_frozen HB2.out 3
  have f4 := blk_frozen HB2.out 4
  have f5 := blk_frozen HB2.out 5
  have f6 := blk_frozen HB2.out 6
  have f7 := blk_frozen HB2.out 7
  go_wp2
  change bodyPost _ _ _ _ _ (put8 w2 w.heap.size (.int .i64 k) (.slice pq xs.length cq) (.string s) (.int .i64 p) (.int .i64 k') (.slice pq' ys.length cq') (.string s') (.int .i64 p'))
  have hW := put8_blk HB2.out (.int .i64 k) (.slice pq xs.length cq) (.string s) (.int .i64 p) (.int .i64 k') (.slice pq' ys.length cq') (.string s') (.int .i64 p')
  have cW := put8_chg w2 w.heap.size (.int .i64 k) (.slice pq xs.length cq) (.string s) (.int .i64 p) (.int .i64 k') (.slice pq' ys.length cq') (.string s') (.int .i64 p')
  generalize put8 w2 w.heap.size (.int .i64 k) (.slice pq xs.length cq) (.string s) (.int .i64 p) (.int .i64 k') (.slice pq' ys.length cq') (.string s') (.int .i64 p') = wz at *
  have y0 := blk_cell hW (j := 0) rfl
  have y1 := blk_cell hW (j := 1) rfl
  have y2 := blk_cell hW (j := 2) rfl
  have y3 := blk_cell hW (j := 3) rfl
  have y4 := blk_cell hW (j := 4) rfl
  have y5 := blk_cell hW (j := 5) rfl
  have y6 := blk_cell hW (j := 6) rfl
  have y7 := blk_cell hW (j := 7) rfl
  exact bodyPost_ret (v := .agg #[.int .i64 k, .slice pq xs.length cq, .string s, .int .i64 p, .int .i64 k', .slice pq' ys.length cq', .string s', .int .i64 p']) (by simp [results, Tryz.results9, go_sem, y0, y1, y2, y3, y4, y5, y6, y7]) rfl ⟨pq, cq, pq', cq', k, p, k', p', s, s', xs, ys, rfl, hxl, hyl, hsl, hsl', (b2.chg cW (.inr (by omega))).s, (b2'.chg cW (.inr (by omega))).s, cW.gr HG2.out (Nat.le_refl _)⟩
/-- A drawn pair with drawn tags. -/
def HeadDraw (w : World) (e : Ending) (w' : World) : Prop := ∃ (pq : Option Addr) (cq : Nat) (pq' : Option Addr) (cq' : Nat) (k p k' p' : Int) (s s' : ByteArray) (xs ys : List Int) (v : Value) (ts : List Tag), e = .returned (.tuple #[.agg #[.int .i64 k, .slice pq xs.length cq, .string s, .int .i64 p, .int .i64 k', .slice pq' ys.length cq', .string s', .int .i64 p'], v]) ∧ xs.length ≤ 4 ∧ ys.length ≤ 4 ∧ s.size ≤ 30 ∧ s'.size ≤ 30 ∧ ts.length ≤ 5 ∧ (∀ t ∈ ts, t.2.length ≤ 17) ∧ IntS w' (.slice pq xs.length cq) xs ∧ IntS w' (.slice pq' ys.length cq') ys ∧ TagS w' v ts ∧ Gr w w'
end Go.Proofs.YtfambpdhnicghaaGreatDoor
