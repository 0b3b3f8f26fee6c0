/- laws.szAddress, szPair, toAddress, toPair: pairs of plain data. -/
import Derived.Test.YtfambpdhnicghaaGreatDoorSz
import Derived.Test.YtfambpdhnicghaaGreatDoorGL
namespace Go.Proofs.YtfambpdhnicghaaGreatDoor
open Go.RowKit
def SzA (c : Int) (n : Nat) (r : Int) : Prop := r = -1 ∨ (0 ≤ r ∧ r + n = c)
def put3 (w : World) (b : Nat) (a1 a2 a3 : Value) : World := ((w.setCell ⟨b, 1, none⟩ a1).setCell ⟨b, 2, none⟩ a2).setCell ⟨b, 3, none⟩ a3
theorem put3_chg (w : World) (b : Nat) (a1 a2 a3 : Value) : Chg b (b + 1) w (put3 w b a1 a2 a3) :=
  Chg.set (p := ⟨b, 3, none⟩) (Chg.set (p := ⟨b, 2, none⟩) (Chg.set (p := ⟨b, 1, none⟩) (Chg.refl b (b + 1) w) (Nat.le_refl _) (Nat.lt_succ_self _) a1) (Nat.le_refl _) (Nat.lt_succ_self _) a2) (Nat.le_refl _) (Nat.lt_succ_self _) a3
theorem put4_chg (w : World) (b : Nat) (a0 a1 a2 a3 : Value) : Chg b (b + 1) w (put4 w b a0 a1 a2 a3) :=
  Chg.set (p := ⟨b, 3, none⟩) (Chg.set (p := ⟨b, 2, none⟩) (Chg.set (p := ⟨b, 1, none⟩) (Chg.set (p := ⟨b, 0, none⟩) (Chg.refl b (b + 1) w) (Nat.le_refl _) (Nat.lt_succ_self _) a0) (Nat.le_refl _) (Nat.lt_succ_self _) a1) (Nat.le_refl _) (Nat.lt_succ_self _) a2) (Nat.le_refl _) (Nat.lt_succ_self _) a3
theorem put4_blk8 {w : World} {b : Nat} {c0 c1 c2 c3 c4 c5 c6 c7 : Value} {t : TypeId} (h : w.heap[b]? = some (.cells #[c0, c1, c2, c3, c4, c5, c6, c7] t (0, 0))) (a0 a1 a2 a3 : Value) :
    (put4 w b a0 a1 a2 a3).heap[b]? = some (.cells #[a0, a1, a2, a3, c4, c5, c6, c7] t (0, 0)) := by
  have h0 := heap_set (j := 0) (x := a0) h
  have h1 := heap_set (j := 1) (x := a1) h0
  have h2 := heap_set (j := 2) (x := a2) h1
  exact heap_set (j := 3) (x := a3) h2
theorem alloc3 (w : World) (x y z : Obj) : (((w.alloc x).alloc y).alloc z).heap.size = w.heap.size + 3 ∧ (((w.alloc x).alloc y).alloc z).heap[w.heap.size]? = some x ∧ (((w.alloc x).alloc y).alloc z).heap[w.heap.size + 1]? = some y ∧ (((w.alloc x).alloc y).alloc z).heap[w.heap.size + 1 + 1]? = some z := by
  have e1 : (w.alloc x).heap.size = w.heap.size + 1 := by simp
  have e2 : ((w.alloc x).alloc y).heap.size = w.heap.size + 1 + 1 := by simp
  refine ⟨by simp, ?_, ?_, ?_⟩
  · exact (gr_alloc ((w.alloc x).alloc y) z).blk ((gr_alloc (w.alloc x) y).blk (heap_alloc_new w x))
  · have := (gr_alloc ((w.alloc x).alloc y) z).blk (heap_alloc_new (w.alloc x) y)
    rwa [e1] at this
  · have := heap_alloc_new ((w.alloc x).alloc y) z
    rwa [e2] at this
end Go.Proofs.YtfambpdhnicghaaGreatDoor
