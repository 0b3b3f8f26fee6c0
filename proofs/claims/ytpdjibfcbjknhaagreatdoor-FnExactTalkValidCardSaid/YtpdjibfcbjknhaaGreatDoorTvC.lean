/- Talks that are alike; a talk, copied. -/
import Derived.Test.YtpdjibfcbjknhaaGreatDoorTvB
namespace Go.Proofs.YtpdjibfcbjknhaaGreatDoor
open Go.RowKit
set_option maxHeartbeats 1000000 in
theorem eqTalk_c {w : World} {p q p' q' : Option Addr} {c f c' f' : Nat} {ws : List Int} {ls : List Lg} (st : Int) (d : ByteArray) (h : IntS w (.slice p ws.length c) ws) (hl : LgS w (.slice q ls.length f) ls) (h' : IntS w (.slice p' ws.length c') ws) (hl' : LgS w (.slice q' ls.length f') ls) :
    Calls Tryz.prog 24 #[.agg #[.int .i64 st, .slice p ws.length c, .slice q ls.length f, .string d], .agg #[.int .i64 st, .slice p' ws.length c', .slice q' ls.length f', .string d]] w fun e w' => e = .returned (.bool true) ∧ Gr w w' := by
  have hg := (gr_alloc w (.cells #[.int .i64 st, .slice p ws.length c, .slice q ls.length f, .string d] 26)).alloc (.cells #[.int .i64 st, .slice p' ws.length c', .slice q' ls.length f', .string d] 26)
  have hA := (gr_alloc _ (.cells #[.int .i64 st, .slice p' ws.length c', .slice q' ls.length f', .string d] 26)).blk (heap_alloc_new w (.cells #[.int .i64 st, .slice p ws.length c, .slice q ls.length f, .string d] 26))
  have hB := heap_alloc_new (w.alloc (.cells #[.int .i64 st, .slice p ws.length c, .slice q ls.length f, .string d] 26)) (.cells #[.int .i64 st, .slice p' ws.length c', .slice q' ls.length f', .string d] 26)
  have e1 : (w.alloc (.cells #[.int .i64 st, .slice p ws.length c, .slice q ls.length f, .string d] 26)).heap.size = w.heap.size + 1 := by simp
  rw [e1] at hB
  clear e1
  have HA := Lib.hid hA
  have HB := Lib.hid hB
  clear hA hB
  go_enter Tryz.func24, Tryz.ntmps24
  go_wp2_with fail
  (with_reducible refine (eqI_same (h.kept hg) (h'.kept hg)).mono ?_); rintro e w1 ⟨rfl, g1⟩
  have HA1 := Lib.hid (g1.blk HA.out)
  have HB1 := Lib.hid (g1.blk HB.out)
  have G1 := hg.trans g1
  clear HA HB hg g1
  have a2 := blk_cell HA1.out (j := 2) rfl
  have b2 := blk_cell HB1.out (j := 2) rfl
  go_wp2_with fail
  (with_reducible refine (eqLoginS_c (hl.kept G1) (hl'.kept G1)).mono ?_); rintro e w2 ⟨rfl, g2⟩
  have a3 := blk_cell (g2.blk HA1.out) (j := 3) rfl
  have b3 := blk_cell (g2.blk HB1.out) (j := 3) rfl
  go_wp2
  go_ret
  exact ⟨rfl, G1.trans g2⟩
set_option maxRecDepth 20000 in
set_option maxHeartbeats 4000000 in
theorem toTalk_c {w : World} {a a' : Option Addr} {cap cap' : Nat} {ws : List Int} {ls : List Lg} (st : Int) (d : ByteArray) (h : IntS w (.slice a ws.length cap) ws) (hl : LgS w (.slice a' ls.length cap') ls) (hb : ws.length ≤ 1000000000000) (hb' : ls.length ≤ 1048576) :
    Calls Tryz.prog 32 #[.agg #[.int .i64 st, .slice a ws.length cap, .slice a' ls.length cap', .string d]] w fun e w' => ∃ q c q' c', e = .returned (.agg #[.int .i64 st, .slice q ws.length c, .slice q' ls.length c', .string d]) ∧ IntS w' (.slice q ws.length c) ws ∧ LgS w' (.slice q' ls.length c') ls ∧ Gr w w' := by
  obtain ⟨zW, hb0, hb1, hb2⟩ := alloc3 w (.cells #[.int .i64 st, .slice a ws.length cap, .slice a' ls.length cap', .string d] 44) (.cells #[.int .i64 0, .slice none 0 0, .slice none 0 0, .string ⟨#[]⟩] 26) (.cells #[.int .i64 st, .slice none 0 0, .slice none 0 0, .string ⟨#[]⟩] 26)
  have hW : Gr w (((w.alloc (.cells #[.int .i64 st, .slice a ws.length cap, .slice a' ls.length cap', .string d] 44)).alloc (.cells #[.int .i64 0, .slice none 0 0, .slice none 0 0, .string ⟨#[]⟩] 26)).alloc (.cells #[.int .i64 st, .slice none 0 0, .slice none 0 0, .string ⟨#[]⟩] 26)) := ((gr_alloc w _).alloc _).alloc _
  go_enter Tryz.func32, Tryz.ntmps32
  go_wp2_with fail
  generalize (((w.alloc (.cells #[.int .i64 st, .slice a ws.length cap, .slice a' ls.length cap', .string d] 44)).alloc (.cells #[.int .i64 0, .slice none 0 0, .slice none 0 0, .string ⟨#[]⟩] 26)).alloc (.cells #[.int .i64 st, .slice none 0 0, .slice none 0 0, .string ⟨#[]⟩] 26)) = W at *
  (with_reducible refine (toIntS_c (h.kept hW) hb).mono ?_); rintro e w1 ⟨v1, rfl, o1, g1⟩
  obtain ⟨q, c, rfl⟩ := o1.len
  have HB0 := Lib.hid (g1.blk hb0)
  have HB1 := Lib.hid (g1.blk hb1)
  have HB2 := Lib.hid (g1.blk hb2)
  have HG1 := Lib.hid (hW.trans g1)
  have z1 := g1.sz
  have o1' := o1.b
  rw [zW] at o1' z1
  clear hb0 hb1 hb2 hW o1 g1
  have a2 := blk_cell HB0.out (j := 2) rfl
  have s1 := blk_cell HB2.out (j := 1) rfl
  have e1 := blk_frozen HB2.out 1
  go_wp2_with fail
  have c2 : Chg (w.heap.size + 1 + 1) (w.heap.size + 1 + 1 + 1) w1 (w1.setCell ⟨w.heap.size + 1 + 1, 1, none⟩ (.slice q ws.length c)) := Chg.set (p := ⟨w.heap.size + 1 + 1, 1, none⟩) (Chg.refl _ _ w1) (Nat.le_refl _) (Nat.lt_succ_self _) _
  have hB2 := heap_set (j := 1) (x := .slice q ws.length c) HB2.out
  generalize w1.setCell ⟨w.heap.size + 1 + 1, 1, none⟩ (.slice q ws.length c) = w2 at *
  have z2 := c2.size
  have HG2 := Lib.hid (c2.gr HG1.out (by omega))
  have o2 := IntB.chg o1' c2 (.inr (by omega))
  have hB1 := (c2.block (w.heap.size + 1) (by omega)).trans HB1.out
  have hB0 := (c2.block w.heap.size (by omega)).trans HB0.out
  clear c2 o1'
  (with_reducible refine (toLoginS_c (hl.kept HG2.out) hb').mono ?_); rintro e w3 ⟨v3, rfl, o3, g3⟩
  obtain ⟨q', c', rfl⟩ := o3.len
  have HC0 := Lib.hid (g3.blk hB0)
  have HC1 := Lib.hid (g3.blk hB1)
  have HC2 := Lib.hid (g3.blk hB2)
  have HG3 := Lib.hid (HG2.out.trans g3)
  have z3 := g3.sz
  have o2' := o2.kept g3
  clear hB0 hB1 hB2 o2 g3 a2 s1 e1
  have a3 := blk_cell HC0.out (j := 3) rfl
  have x0 := blk_cell HC1.out (j := 0) rfl
  have x1 := blk_cell HC1.out (j := 1) rfl
  have x2 := blk_cell HC1.out (j := 2) rfl
  have x3 := blk_cell HC1.out (j := 3) rfl
  have f0 := blk_frozen HC1.out 0
  have f1 := blk_frozen HC1.out 1
  have f2 := blk_frozen HC1.out 2
  have f3 := blk_frozen HC1.out 3
  have s0 : w3.cell? ⟨w.heap.size + 1 + 1, 0, none⟩ = some (.int .i64 st) := blk_cell HC2.out (j := 0) rfl
  have s1 : w3.cell? ⟨w.heap.size + 1 + 1, 1, none⟩ = some (.slice q ws.length c) := blk_cell HC2.out (j := 1) rfl
  have s2 : w3.cell? ⟨w.heap.size + 1 + 1, 2, none⟩ = some (.slice none 0 0) := blk_cell HC2.out (j := 2) rfl
  have s3 : w3.cell? ⟨w.heap.size + 1 + 1, 3, none⟩ = some (.string ⟨#[]⟩) := blk_cell HC2.out (j := 3) rfl
  have e0 := blk_frozen HC2.out 0
  have e1 := blk_frozen HC2.out 1
  have e2 := blk_frozen HC2.out 2
  have e3 := blk_frozen HC2.out 3
  go_wp2
  change bodyPost _ _ _ _ _ (put4 ((w3.setCell ⟨w.heap.size + 1 + 1, 2, none⟩ (.slice q' ls.length c')).setCell ⟨w.heap.size + 1 + 1, 3, none⟩ (.string d)) (w.heap.size + 1) (.int .i64 st) (.slice q ws.length c) (.slice q' ls.length c') (.string d))
  have c4 : Chg (w.heap.size + 1 + 1) (w.heap.size + 1 + 1 + 1) w3 ((w3.setCell ⟨w.heap.size + 1 + 1, 2, none⟩ (.slice q' ls.length c')).setCell ⟨w.heap.size + 1 + 1, 3, none⟩ (.string d)) :=
    Chg.set (p := ⟨w.heap.size + 1 + 1, 3, none⟩) (Chg.set (p := ⟨w.heap.size + 1 + 1, 2, none⟩) (Chg.refl _ _ w3) (Nat.le_refl _) (Nat.lt_succ_self _) _) (Nat.le_refl _) (Nat.lt_succ_self _) _
  generalize ((w3.setCell ⟨w.heap.size + 1 + 1, 2, none⟩ (.slice q' ls.length c')).setCell ⟨w.heap.size + 1 + 1, 3, none⟩ (.string d)) = w4 at *
  have hB1 := (c4.block (w.heap.size + 1) (by omega)).trans HC1.out
  have hW := put4_blk hB1 (.int .i64 st) (.slice q ws.length c) (.slice q' ls.length c') (.string d)
  have cW := put4_chg w4 (w.heap.size + 1) (.int .i64 st) (.slice q ws.length c) (.slice q' ls.length c') (.string d)
  generalize put4 w4 (w.heap.size + 1) (.int .i64 st) (.slice q ws.length c) (.slice q' ls.length c') (.string d) = w5 at *
  have y0 := blk_cell hW (j := 0) rfl
  have y1 := blk_cell hW (j := 1) rfl
  have y2 := blk_cell hW (j := 2) rfl
  have y3 := blk_cell hW (j := 3) rfl
  have o3' : LgO w2.heap.size w5 (.slice q' ls.length c') ls := Own.keptOf o3 fun k hk _ => (cW.block k (by omega)).trans (c4.block k (by omega))
  exact bodyPost_ret (v := .agg #[.int .i64 st, .slice q ws.length c, .slice q' ls.length c', .string d]) (by simp [results, Tryz.results32, go_sem, y0, y1, y2, y3]) rfl ⟨q, c, q', c', rfl, (IntB.o (IntB.chg (IntB.chg o2' c4 (.inr (by omega))) cW (.inr (by omega)))).s, o3'.s, cW.gr (c4.gr HG3.out (by omega)) (by omega)⟩
end Go.Proofs.YtpdjibfcbjknhaaGreatDoor
