/- Draws of requests and pairs.
Draws of pairs. -/
import Derived.Test.YtgigjgjpglmpoaaGreatDoorGF
namespace Go.Proofs.YtgigjgjpglmpoaaGreatDoor
open Go.RowKit
/-- Cells of a block, written one by one. -/
def put6 (w : World) (b : Nat) (a0 a1 a2 a3 a4 a5 : Value) : World := (((((w.setCell ⟨b, 0, none⟩ a0).setCell ⟨b, 1, none⟩ a1).setCell ⟨b, 2, none⟩ a2).setCell ⟨b, 3, none⟩ a3).setCell ⟨b, 4, none⟩ a4).setCell ⟨b, 5, none⟩ a5
theorem put6_blk {w : World} {b : Nat} {c0 c1 c2 c3 c4 c5 : Value} {t : TypeId} (h : w.heap[b]? = some (.cells #[c0, c1, c2, c3, c4, c5] t (0, 0))) (a0 a1 a2 a3 a4 a5 : Value) : (put6 w b a0 a1 a2 a3 a4 a5).heap[b]? = some (.cells #[a0, a1, a2, a3, a4, a5] t (0, 0)) :=
  heap_set (j := 5) (x := a5) (heap_set (j := 4) (x := a4) (heap_set (j := 3) (x := a3) (heap_set (j := 2) (x := a2) (heap_set (j := 1) (x := a1) (heap_set (j := 0) (x := a0) h)))))
theorem put6_chg (w : World) (b : Nat) (a0 a1 a2 a3 a4 a5 : Value) : Chg b (b + 1) w (put6 w b a0 a1 a2 a3 a4 a5) :=
  Chg.set (p := ⟨b, 5, none⟩) (Chg.set (p := ⟨b, 4, none⟩) (Chg.set (p := ⟨b, 3, none⟩) (Chg.set (p := ⟨b, 2, none⟩) (Chg.set (p := ⟨b, 1, none⟩) (Chg.set (p := ⟨b, 0, none⟩) (Chg.refl b (b + 1) w) (Nat.le_refl b) (Nat.lt_succ_self b) a0) (Nat.le_refl b) (Nat.lt_succ_self b) a1) (Nat.le_refl b) (Nat.lt_succ_self b) a2) (Nat.le_refl b) (Nat.lt_succ_self b) a3) (Nat.le_refl b) (Nat.lt_succ_self b) a4) (Nat.le_refl b) (Nat.lt_succ_self b) a5
def put8 (w : World) (b : Nat) (a0 a1 a2 a3 a4 a5 a6 a7 : Value) : World := (((((((w.setCell ⟨b, 0, none⟩ a0).setCell ⟨b, 1, none⟩ a1).setCell ⟨b, 2, none⟩ a2).setCell ⟨b, 3, none⟩ a3).setCell ⟨b, 4, none⟩ a4).setCell ⟨b, 5, none⟩ a5).setCell ⟨b, 6, none⟩ a6).setCell ⟨b, 7, none⟩ a7
theorem put8_blk {w : World} {b : Nat} {c0 c1 c2 c3 c4 c5 c6 c7 : Value} {t : TypeId} (h : w.heap[b]? = some (.cells #[c0, c1, c2, c3, c4, c5, c6, c7] t (0, 0))) (a0 a1 a2 a3 a4 a5 a6 a7 : Value) : (put8 w b a0 a1 a2 a3 a4 a5 a6 a7).heap[b]? = some (.cells #[a0, a1, a2, a3, a4, a5, a6, a7] t (0, 0)) := by
  have h0 : (w.setCell ⟨b, 0, none⟩ a0).heap[b]? = some (.cells #[a0, c1, c2, c3, c4, c5, c6, c7] t (0, 0)) := heap_set (j := 0) (x := a0) h
  have h1 : ((w.setCell ⟨b, 0, none⟩ a0).setCell ⟨b, 1, none⟩ a1).heap[b]? = some (.cells #[a0, a1, c2, c3, c4, c5, c6, c7] t (0, 0)) := heap_set (j := 1) (x := a1) h0
  have h2 : (((w.setCell ⟨b, 0, none⟩ a0).setCell ⟨b, 1, none⟩ a1).setCell ⟨b, 2, none⟩ a2).heap[b]? = some (.cells #[a0, a1, a2, c3, c4, c5, c6, c7] t (0, 0)) := heap_set (j := 2) (x := a2) h1
  have h3 : ((((w.setCell ⟨b, 0, none⟩ a0).setCell ⟨b, 1, none⟩ a1).setCell ⟨b, 2, none⟩ a2).setCell ⟨b, 3, none⟩ a3).heap[b]? = some (.cells #[a0, a1, a2, a3, c4, c5, c6, c7] t (0, 0)) := heap_set (j := 3) (x := a3) h2
  have h4 : (((((w.setCell ⟨b, 0, none⟩ a0).setCell ⟨b, 1, none⟩ a1).setCell ⟨b, 2, none⟩ a2).setCell ⟨b, 3, none⟩ a3).setCell ⟨b, 4, none⟩ a4).heap[b]? = some (.cells #[a0, a1, a2, a3, a4, c5, c6, c7] t (0, 0)) := heap_set (j := 4) (x := a4) h3
  have h5 : ((((((w.setCell ⟨b, 0, none⟩ a0).setCell ⟨b, 1, none⟩ a1).setCell ⟨b, 2, none⟩ a2).setCell ⟨b, 3, none⟩ a3).setCell ⟨b, 4, none⟩ a4).setCell ⟨b, 5, none⟩ a5).heap[b]? = some (.cells #[a0, a1, a2, a3, a4, a5, c6, c7] t (0, 0)) := heap_set (j := 5) (x := a5) h4
  have h6 : (((((((w.setCell ⟨b, 0, none⟩ a0).setCell ⟨b, 1, none⟩ a1).setCell ⟨b, 2, none⟩ a2).setCell ⟨b, 3, none⟩ a3).setCell ⟨b, 4, none⟩ a4).setCell ⟨b, 5, none⟩ a5).setCell ⟨b, 6, none⟩ a6).heap[b]? = some (.cells #[a0, a1, a2, a3, a4, a5, a6, c7] t (0, 0)) := heap_set (j := 6) (x := a6) h5
  have h7 : ((((((((w.setCell ⟨b, 0, none⟩ a0).setCell ⟨b, 1, none⟩ a1).setCell ⟨b, 2, none⟩ a2).setCell ⟨b, 3, none⟩ a3).setCell ⟨b, 4, none⟩ a4).setCell ⟨b, 5, none⟩ a5).setCell ⟨b, 6, none⟩ a6).setCell ⟨b, 7, none⟩ a7).heap[b]? = some (.cells #[a0, a1, a2, a3, a4, a5, a6, a7] t (0, 0)) := heap_set (j := 7) (x := a7) h6
  exact h7
theorem put8_chg (w : World) (b : Nat) (a0 a1 a2 a3 a4 a5 a6 a7 : Value) : Chg b (b + 1) w (put8 w b a0 a1 a2 a3 a4 a5 a6 a7) :=
  Chg.set (p := ⟨b, 7, none⟩) (Chg.set (p := ⟨b, 6, none⟩) (Chg.set (p := ⟨b, 5, none⟩) (Chg.set (p := ⟨b, 4, none⟩) (Chg.set (p := ⟨b, 3, none⟩) (Chg.set (p := ⟨b, 2, none⟩) (Chg.set (p := ⟨b, 1, none⟩) (Chg.set (p := ⟨b, 0, none⟩) (Chg.refl b (b + 1) w) (Nat.le_refl b) (Nat.lt_succ_self b) a0) (Nat.le_refl b) (Nat.lt_succ_self b) a1) (Nat.le_refl b) (Nat.lt_succ_self b) a2) (Nat.le_refl b) (Nat.lt_succ_self b) a3) (Nat.le_refl b) (Nat.lt_succ_self b) a4) (Nat.le_refl b) (Nat.lt_succ_self b) a5) (Nat.le_refl b) (Nat.lt_succ_self b) a6) (Nat.le_refl b) (Nat.lt_succ_self b) a7
theorem IntB.keptD {B T e g : Nat} {w w' : World} {v : Value} {xs : List Int} (h : IntB B T e w v xs) (hd : D g w w') (hB : g < B) : IntB B T e w' v xs := OwnB.keptD h hd hB
end Go.Proofs.YtgigjgjpglmpoaaGreatDoor
namespace Go.Proofs.YtgigjgjpglmpoaaGreatDoor
open Go.RowKit
end Go.Proofs.YtgigjgjpglmpoaaGreatDoor
