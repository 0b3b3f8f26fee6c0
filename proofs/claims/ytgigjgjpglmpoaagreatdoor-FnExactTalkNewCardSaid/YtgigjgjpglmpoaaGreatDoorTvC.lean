/- Talks that are alike; a talk, copied. -/
import Derived.Test.YtgigjgjpglmpoaaGreatDoorTvB
namespace Go.Proofs.YtgigjgjpglmpoaaGreatDoor
open Go.RowKit
set_option maxHeartbeats 1000000 in
theorem eqTalk_c {w : World} {p q p' q' : Option Addr} {c f c' f' : Nat} {ws : List Int} {ls : List Lg} (st : Int) (d : ByteArray) (h : IntS w (.slice p ws.length c) ws) (hl : LgS w (.slice q ls.length f) ls) (h' : IntS w (.slice p' ws.length c') ws) (hl' : LgS w (.slice q' ls.length f') ls) :
    Calls Tryz.prog 9 #[.agg #[.int .i64 st, .slice p ws.length c, .slice q ls.length f, .string d], .agg #[.int .i64 st, .slice p' ws.length c', .slice q' ls.length f', .string d]] w fun e w' => e = .returned (.bool true) ∧ Gr w w' := by
  have hg := (gr_alloc w (.cells #[.int .i64 st, .slice p ws.length c, .slice q ls.length f, .string d] 27)).alloc (.cells #[.int .i64 st, .slice p' ws.length c', .slice q' ls.length f', .string d] 27)
  have hA := (gr_alloc _ (.cells #[.int .i64 st, .slice p' ws.length c', .slice q' ls.length f', .string d] 27)).blk (heap_alloc_new w (.cells #[.int .i64 st, .slice p ws.length c, .slice q ls.length f, .string d] 27))
  have hB := heap_alloc_new (w.alloc (.cells #[.int .i64 st, .slice p ws.length c, .slice q ls.length f, .string d] 27)) (.cells #[.int .i64 st, .slice p' ws.length c', .slice q' ls.length f', .string d] 27)
  have e1 : (w.alloc (.cells #[.int .i64 st, .slice p ws.length c, .slice q ls.length f, .string d] 27)).heap.size = w.heap.size + 1 := by simp
  rw [e1] at hB
  clear e1
  have HA := Lib.hid hA
  have HB := Lib.hid hB
  clear hA hB
  go_enter Tryz.func9, Tryz.ntmps9
  go_wp2_with fail
  (with_reducible refine (eqI_same (h.kept hg) (h'.kept hg)).mono ?_); rintro e w1 ⟨rfl, g1⟩
  have HA1 := Lib.hid (g1.blk HA.out)
  have HB1 := Lib.hid (g1.blk HB.out)
  have G1 := hg.trans g1
  clear HA HB hg g1
  have a2 := blk_cell HA1.out (j := 2) rfl
  have b2 := blk_cell HB1.out (j := 2) rfl
  go_wp2_with fail
  (with_reducible refine (eqLoginS_c (hl.kept G1) (hl'.kept G1)).mono ?_); rintro e w2 ⟨rfl, g2⟩
  have a3 := blk_cell (g2.blk HA1.out) (j := 3) rfl
  have b3 := blk_cell (g2.blk HB1.out) (j := 3) rfl
  go_wp2
  go_ret
  exact ⟨rfl, G1.trans g2⟩
end Go.Proofs.YtgigjgjpglmpoaaGreatDoor
