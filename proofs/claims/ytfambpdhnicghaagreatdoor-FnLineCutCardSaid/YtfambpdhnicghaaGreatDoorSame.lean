/- laws.sameAddress, samePair: equal addresses, equal pairs. -/
import Derived.Test.YtfambpdhnicghaaGreatDoorGH
import Derived.Test.YtfambpdhnicghaaGreatDoorDrawH
namespace Go.Proofs.YtfambpdhnicghaaGreatDoor
open Go.RowKit
theorem sameAddress_c {w : World} {v u : Value} {xs : List Int} (k p : Int) (s : ByteArray) (hv : IntS w v xs) (hu : IntS w u xs) :
    Calls Tryz.prog 47 #[.agg #[.int .i64 k, v, .string s, .int .i64 p], .agg #[.int .i64 k, u, .string s, .int .i64 p]] w fun e w' => e = .returned (.bool true) ∧ Gr w w' := by
  obtain ⟨p1, c, rfl, _, _⟩ := hv.form
  obtain ⟨q, d, rfl, _, _⟩ := hu.form
  have hg := (gr_alloc w (.cells #[.int .i64 k, .slice p1 xs.length c, .string s, .int .i64 p] 25)).alloc (.cells #[.int .i64 k, .slice q xs.length d, .string s, .int .i64 p] 25)
  go_enter Tryz.func47, Tryz.ntmps47
  go_wp2_with fail
  (with_reducible refine (same_c (hv.kept hg) (hu.kept hg)).mono ?_); rintro e w1 ⟨rfl, g1⟩
  go_wp2
  go_ret
  exact ⟨rfl, hg.trans g1⟩
set_option maxHeartbeats 1000000 in
theorem samePair_c {w : World} {v v' u u' : Value} {xs ys : List Int} (k p k' p' : Int) (s s' : ByteArray) (hv : IntS w v xs) (hu : IntS w u xs) (hv' : IntS w v' ys) (hu' : IntS w u' ys) :
    Calls Tryz.prog 13 #[.agg #[.int .i64 k, v, .string s, .int .i64 p, .int .i64 k', v', .string s', .int .i64 p'], .agg #[.int .i64 k, u, .string s, .int .i64 p, .int .i64 k', u', .string s', .int .i64 p']] w fun e w' => e = .returned (.bool true) ∧ Gr w w' := by
  obtain ⟨p1, c, rfl, _, _⟩ := hv.form
  obtain ⟨q, d, rfl, _, _⟩ := hu.form
  obtain ⟨p1', c', rfl, _, _⟩ := hv'.form
  obtain ⟨q', d', rfl, _, _⟩ := hu'.form
  obtain ⟨oa, ha⟩ : ∃ o : Obj, o = .cells #[.int .i64 k, .slice p1 xs.length c, .string s, .int .i64 p, .int .i64 k', .slice p1' ys.length c', .string s', .int .i64 p'] 27 := ⟨_, rfl⟩
  obtain ⟨ob, hb⟩ : ∃ o : Obj, o = .cells #[.int .i64 k, .slice q xs.length d, .string s, .int .i64 p, .int .i64 k', .slice q' ys.length d', .string s', .int .i64 p'] 27 := ⟨_, rfl⟩
  have hg := (gr_alloc w oa).alloc ob
  have hA := (gr_alloc (w.alloc oa) ob).blk (heap_alloc_new w oa)
  have hB := heap_alloc_new (w.alloc oa) ob
  rw [show (w.alloc oa).heap.size = w.heap.size + 1 by simp] at hB
  subst ha hb
  have HA := Lib.hid hA
  have HB := Lib.hid hB
  clear hA hB
  go_enter Tryz.func13, Tryz.ntmps13
  go_wp2_with fail
  (with_reducible refine (sameAddress_c k p s (hv.kept hg) (hu.kept hg)).mono ?_); rintro e w1 ⟨rfl, g1⟩
  have HA1 := g1.blk HA.out
  have HB1 := g1.blk HB.out
  have x4 := blk_cell HA1 (j := 4) rfl
  have x5 := blk_cell HA1 (j := 5) rfl
  have x6 := blk_cell HA1 (j := 6) rfl
  have x7 := blk_cell HA1 (j := 7) rfl
  have y4 := blk_cell HB1 (j := 4) rfl
  have y5 := blk_cell HB1 (j := 5) rfl
  have y6 := blk_cell HB1 (j := 6) rfl
  have y7 := blk_cell HB1 (j := 7) rfl
  clear HA1 HB1
  have hG := hg.trans g1
  go_wp2_with fail
  (with_reducible refine (sameAddress_c k' p' s' (hv'.kept hG) (hu'.kept hG)).mono ?_); rintro e w2 ⟨rfl, g2⟩
  go_wp2
  go_ret
  exact ⟨rfl, hG.trans g2⟩
end Go.Proofs.YtfambpdhnicghaaGreatDoor
