/- laws.toTag, laws.toTagS. -/
import Derived.Test.YtikkjcfadbhemaaDoorSz
namespace Go.Proofs.YtikkjcfadbhemaaDoor
open Go.RowKit
set_option maxHeartbeats 1000000 in
theorem toTag_c {w : World} {p : Option Addr} {cap : Nat} {xs : List Int} (x : Int) (h : IntS w (.slice p xs.length cap) xs) (hb : xs.length ≤ 1000000000000) :
    Calls Tryd.prog 70 #[.agg #[.int .i64 x, .slice p xs.length cap]] w fun e w' => ∃ q c, e = .returned (.agg #[.int .i64 x, .slice q xs.length c]) ∧ IntO w.heap.size 3 w' (.slice q xs.length c) xs ∧ Gr w w' := by
  have hW : Gr w (((w.alloc (.cells #[.int .i64 x, .slice p xs.length cap] 82)).alloc (.cells #[.int .i64 0, .slice none 0 0] 83)).alloc (.cells #[.int .i64 x, .slice none 0 0] 83)) := ((gr_alloc w _).alloc _).alloc _
  have hb1 : (((w.alloc (.cells #[.int .i64 x, .slice p xs.length cap] 82)).alloc (.cells #[.int .i64 0, .slice none 0 0] 83)).alloc (.cells #[.int .i64 x, .slice none 0 0] 83)).heap[w.heap.size + 1]? = some (.cells #[.int .i64 0, .slice none 0 0] 83) := by
    have e := heap_alloc_new (w.alloc (.cells #[.int .i64 x, .slice p xs.length cap] 82)) (.cells #[.int .i64 0, .slice none 0 0] 83)
    have hs : (w.alloc (.cells #[.int .i64 x, .slice p xs.length cap] 82)).heap.size = w.heap.size + 1 := by simp
    rw [hs] at e
    rw [Below.block (gr_alloc _ _) _ (by simp)]; exact e
  have hb2 : (((w.alloc (.cells #[.int .i64 x, .slice p xs.length cap] 82)).alloc (.cells #[.int .i64 0, .slice none 0 0] 83)).alloc (.cells #[.int .i64 x, .slice none 0 0] 83)).heap[w.heap.size + 1 + 1]? = some (.cells #[.int .i64 x, .slice none 0 0] 83) := by
    have e := heap_alloc_new ((w.alloc (.cells #[.int .i64 x, .slice p xs.length cap] 82)).alloc (.cells #[.int .i64 0, .slice none 0 0] 83)) (.cells #[.int .i64 x, .slice none 0 0] 83)
    have hs : ((w.alloc (.cells #[.int .i64 x, .slice p xs.length cap] 82)).alloc (.cells #[.int .i64 0, .slice none 0 0] 83)).heap.size = w.heap.size + 1 + 1 := by simp
    rw [hs] at e; exact e
  have hsz : (((w.alloc (.cells #[.int .i64 x, .slice p xs.length cap] 82)).alloc (.cells #[.int .i64 0, .slice none 0 0] 83)).alloc (.cells #[.int .i64 x, .slice none 0 0] 83)).heap.size = w.heap.size + 3 := by simp
  go_enter Tryd.func70, Tryd.ntmps70
  go_wp2_with fail
  generalize (((w.alloc (.cells #[.int .i64 x, .slice p xs.length cap] 82)).alloc (.cells #[.int .i64 0, .slice none 0 0] 83)).alloc (.cells #[.int .i64 x, .slice none 0 0] 83)) = W at *
  (with_reducible refine (toIntS_c (h.kept hW) hb).mono ?_); rintro e w1 ⟨v1, rfl, o1, g1⟩
  obtain ⟨q, c, rfl⟩ := o1.len
  have hB1 : w1.heap[w.heap.size + 1]? = some (.cells #[.int .i64 0, .slice none 0 0] 83) := by rw [Below.block g1 _ (by omega)]; exact hb1
  have hB2 : w1.heap[w.heap.size + 1 + 1]? = some (.cells #[.int .i64 x, .slice none 0 0] 83) := by rw [Below.block g1 _ (by omega)]; exact hb2
  have hG := hW.trans g1
  have o1' := o1.mono (B' := w.heap.size + 3) (by omega)
  have c10 : w1.cell? ⟨w.heap.size + 1, 0, none⟩ = some (.int .i64 0) := by simp [World.cell?, hB1]
  have c11 : w1.cell? ⟨w.heap.size + 1, 1, none⟩ = some (.slice none 0 0) := by simp [World.cell?, hB1]
  have f10 : w1.frozen? ⟨w.heap.size + 1, 0, none⟩ = false := by simp [World.frozen?, hB1]
  have f11 : w1.frozen? ⟨w.heap.size + 1, 1, none⟩ = false := by simp [World.frozen?, hB1]
  have c20 : w1.cell? ⟨w.heap.size + 1 + 1, 0, none⟩ = some (.int .i64 x) := by simp [World.cell?, hB2]
  have c21 : w1.cell? ⟨w.heap.size + 1 + 1, 1, none⟩ = some (.slice none 0 0) := by simp [World.cell?, hB2]
  have f20 : w1.frozen? ⟨w.heap.size + 1 + 1, 0, none⟩ = false := by simp [World.frozen?, hB2]
  have f21 : w1.frozen? ⟨w.heap.size + 1 + 1, 1, none⟩ = false := by simp [World.frozen?, hB2]
  clear hb1 hb2 hB1 hB2 hW g1 o1
  go_wp2
  have hB : Below w.heap.size w1 (((w1.setCell ⟨w.heap.size + 1 + 1, 1, none⟩ (.slice q xs.length c)).setCell ⟨w.heap.size + 1, 0, none⟩ (.int .i64 x)).setCell ⟨w.heap.size + 1, 1, none⟩ (.slice q xs.length c)) :=
    Below.setCell (Below.setCell (Below.setCell (Below.refl _ _) (by simp only []; omega) _) (by simp only []; omega) _) (by simp only []; omega) _
  have hO : IntO (w.heap.size + 3) 3 (((w1.setCell ⟨w.heap.size + 1 + 1, 1, none⟩ (.slice q xs.length c)).setCell ⟨w.heap.size + 1, 0, none⟩ (.int .i64 x)).setCell ⟨w.heap.size + 1, 1, none⟩ (.slice q xs.length c)) (.slice q xs.length c) xs := by
    refine Own.keptOf o1' fun k hk _ => ?_
    rw [Below.heap_setCell _ _ _ _ (by simp only []; omega), Below.heap_setCell _ _ _ _ (by simp only []; omega), Below.heap_setCell _ _ _ _ (by simp only []; omega)]
  refine bodyPost_ret (v := .agg #[.int .i64 x, .slice q xs.length c]) (by simp [results, Tryd.results70, go_sem, *]) rfl ⟨q, c, rfl, hO.mono (by omega), Below.trans hG hB⟩
end Go.Proofs.YtikkjcfadbhemaaDoor
