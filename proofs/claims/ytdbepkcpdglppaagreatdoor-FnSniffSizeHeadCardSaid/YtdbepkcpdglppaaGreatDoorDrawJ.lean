/- Draws of addresses and old requests, behind the whole draw. -/
import Derived.Test.YtdbepkcpdglppaaGreatDoorGT
import Derived.Test.YtdbepkcpdglppaaGreatDoorGQ
namespace Go.Proofs.YtdbepkcpdglppaaGreatDoor
open Go.RowKit
/-- A drawn address. -/
def AdrOut (w : World) (e : Ending) (w' : World) : Prop := ∃ (pq : Option Addr) (cq : Nat) (k p : Int) (s : ByteArray) (xs : List Int), e = .returned (.agg #[.int .i64 k, .slice pq xs.length cq, .string s, .int .i64 p]) ∧ xs.length ≤ 4 ∧ s.size ≤ 30 ∧ IntS w' (.slice pq xs.length cq) xs ∧ Gr w w'
set_option maxRecDepth 20000 in
set_option maxHeartbeats 2000000 in
theorem DrawConnectText_c {w : World} {v : Value} {bs : List Int} (h : ByteS w v bs) :
    Calls Tryz.prog 16 #[v] w (AdrOut w) := by
  obtain ⟨p, cap, rfl, _, _⟩ := h.form
  have gA := gr_alloc w (.cells #[.int .i64 0, .slice none 0 0, .string ⟨#[]⟩, .int .i64 0] 25)
  have hA := heap_alloc_new w (.cells #[.int .i64 0, .slice none 0 0, .string ⟨#[]⟩, .int .i64 0] 25)
  have zA : (w.alloc (.cells #[.int .i64 0, .slice none 0 0, .string ⟨#[]⟩, .int .i64 0] 25)).heap.size = w.heap.size + 1 := by simp
  have O := l6Open_c (h.kept gA)
  rw [zA] at O
  have HO := Lib.hid O
  clear O
  go_enter Tryz.func16, Tryz.ntmps16
  go_wp2_with fail
  (with_reducible refine (HO.out).mono ?_); rintro e w1 ⟨rfl, hr1, g1⟩
  have hz1 := g1.sz
  rw [zA] at hz1
  have HG1 := Lib.hid (gA.trans g1)
  have HB1 := Lib.hid (g1.blk hA)
  clear g1 hA zA gA HO
  go_wp2_with fail
  (with_reducible refine (l91Address_c hr1 (by omega)).mono ?_); rintro e w2 ⟨q, k, p, s, xs, rfl, hxl, hsl, _, _, ho2, hr2, hd2⟩
  obtain ⟨pq, cq, rfl⟩ := ho2.len
  have HB2 := Lib.hid (hd2.blk HB1.out (by omega))
  have HG2 := Lib.hid (hd2.gr HG1.out (by omega))
  have b2 := IntO.b ho2
  clear ho2 hd2 HB1 HG1 hr2
  have x0 := blk_cell HB2.out (j := 0) rfl
  have x1 := blk_cell HB2.out (j := 1) rfl
  have x2 := blk_cell HB2.out (j := 2) rfl
  have x3 := blk_cell HB2.out (j := 3) rfl
  have f0 := blk_frozen HB2.out 0
  have f1 := blk_frozen HB2.out 1
  have f2 := blk_frozen HB2.out 2
  have f3 := blk_frozen HB2.out 3
  go_wp2
  change bodyPost _ _ _ _ _ (put4 w2 w.heap.size (.int .i64 k) (.slice pq xs.length cq) (.string s) (.int .i64 p))
  have hW := put4_blk HB2.out (.int .i64 k) (.slice pq xs.length cq) (.string s) (.int .i64 p)
  have cW := put4_chg w2 w.heap.size (.int .i64 k) (.slice pq xs.length cq) (.string s) (.int .i64 p)
  generalize put4 w2 w.heap.size (.int .i64 k) (.slice pq xs.length cq) (.string s) (.int .i64 p) = wz at *
  have y0 := blk_cell hW (j := 0) rfl
  have y1 := blk_cell hW (j := 1) rfl
  have y2 := blk_cell hW (j := 2) rfl
  have y3 := blk_cell hW (j := 3) rfl
  exact bodyPost_ret (v := .agg #[.int .i64 k, .slice pq xs.length cq, .string s, .int .i64 p]) (by simp [results, Tryz.results16, go_sem, y0, y1, y2, y3]) rfl ⟨pq, cq, k, p, s, xs, rfl, hxl, hsl, (b2.chg cW (.inr (by omega))).s, cW.gr HG2.out (Nat.le_refl _)⟩
/-- A drawn old request. -/
def OldOut (w : World) (e : Ending) (w' : World) : Prop := ∃ (pq : Option Addr) (cq : Nat) (c k p : Int) (s u : ByteArray) (xs : List Int), e = .returned (.agg #[.int .i64 c, .int .i64 k, .slice pq xs.length cq, .string s, .int .i64 p, .string u]) ∧ xs.length ≤ 4 ∧ s.size ≤ 30 ∧ u.size ≤ 30 ∧ IntS w' (.slice pq xs.length cq) xs ∧ Gr w w'
set_option maxRecDepth 20000 in
set_option maxHeartbeats 2000000 in
theorem DrawOldBytes_c {w : World} {v : Value} {bs : List Int} (h : ByteS w v bs) :
    Calls Tryz.prog 19 #[v] w (OldOut w) := by
  obtain ⟨p, cap, rfl, _, _⟩ := h.form
  have gA := gr_alloc w (.cells #[.int .i64 0, .int .i64 0, .slice none 0 0, .string ⟨#[]⟩, .int .i64 0, .string ⟨#[]⟩] 39)
  have hA := heap_alloc_new w (.cells #[.int .i64 0, .int .i64 0, .slice none 0 0, .string ⟨#[]⟩, .int .i64 0, .string ⟨#[]⟩] 39)
  have zA : (w.alloc (.cells #[.int .i64 0, .int .i64 0, .slice none 0 0, .string ⟨#[]⟩, .int .i64 0, .string ⟨#[]⟩] 39)).heap.size = w.heap.size + 1 := by simp
  have O := l6Open_c (h.kept gA)
  rw [zA] at O
  have HO := Lib.hid O
  clear O
  go_enter Tryz.func19, Tryz.ntmps19
  go_wp2_with fail
  (with_reducible refine (HO.out).mono ?_); rintro e w1 ⟨rfl, hr1, g1⟩
  have hz1 := g1.sz
  rw [zA] at hz1
  have HG1 := Lib.hid (gA.trans g1)
  have HB1 := Lib.hid (g1.blk hA)
  clear g1 hA zA gA HO
  go_wp2_with fail
  (with_reducible refine (l91Old_c hr1 (by omega)).mono ?_); rintro e w2 ⟨q, c, k, p, s, u, xs, rfl, hxl, hsl, hul, ho2, hr2, hd2⟩
  obtain ⟨pq, cq, rfl⟩ := ho2.len
  have HB2 := Lib.hid (hd2.blk HB1.out (by omega))
  have HG2 := Lib.hid (hd2.gr HG1.out (by omega))
  have b2 := IntO.b ho2
  clear ho2 hd2 HB1 HG1 hr2
  have x0 := blk_cell HB2.out (j := 0) rfl
  have x1 := blk_cell HB2.out (j := 1) rfl
  have x2 := blk_cell HB2.out (j := 2) rfl
  have x3 := blk_cell HB2.out (j := 3) rfl
  have x4 := blk_cell HB2.out (j := 4) rfl
  have x5 := blk_cell HB2.out (j := 5) rfl
  have f0 := blk_frozen HB2.out 0
  have f1 := blk_frozen HB2.out 1
  have f2 := blk_frozen HB2.out 2
  have f3 := blk_frozen HB2.out 3
  have f4 := blk_frozen HB2.out 4
  have f5 := blk_frozen HB2.out 5
  go_wp2
  change bodyPost _ _ _ _ _ (put6 w2 w.heap.size (.int .i64 c) (.int .i64 k) (.slice pq xs.length cq) (.string s) (.int .i64 p) (.string u))
  have hW := put6_blk HB2.out (.int .i64 c) (.int .i64 k) (.slice pq xs.length cq) (.string s) (.int .i64 p) (.string u)
  have cW := put6_chg w2 w.heap.size (.int .i64 c) (.int .i64 k) (.slice pq xs.length cq) (.string s) (.int .i64 p) (.string u)
  generalize put6 w2 w.heap.size (.int .i64 c) (.int .i64 k) (.slice pq xs.length cq) (.string s) (.int .i64 p) (.string u) = wz at *
  have y0 := blk_cell hW (j := 0) rfl
  have y1 := blk_cell hW (j := 1) rfl
  have y2 := blk_cell hW (j := 2) rfl
  have y3 := blk_cell hW (j := 3) rfl
  have y4 := blk_cell hW (j := 4) rfl
  have y5 := blk_cell hW (j := 5) rfl
  exact bodyPost_ret (v := .agg #[.int .i64 c, .int .i64 k, .slice pq xs.length cq, .string s, .int .i64 p, .string u]) (by simp [results, Tryz.results19, go_sem, y0, y1, y2, y3, y4, y5]) rfl ⟨pq, cq, c, k, p, s, u, xs, rfl, hxl, hsl, hul, (b2.chg cW (.inr (by omega))).s, cW.gr HG2.out (Nat.le_refl _)⟩
end Go.Proofs.YtdbepkcpdglppaaGreatDoor
