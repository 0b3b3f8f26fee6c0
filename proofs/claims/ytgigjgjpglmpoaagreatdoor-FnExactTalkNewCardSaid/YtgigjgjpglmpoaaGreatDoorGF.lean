/- Draws of texts and ports.
Draws of quads and addresses.
Draws of addresses. -/
import Derived.Test.YtgigjgjpglmpoaaGreatDoorGD
import Derived.Test.YtgigjgjpglmpoaaGreatDoorGE
import Derived.Deep.RegionHeld3
import Derived.Deep.RegionWith
import Derived.Deep.DeepCutAuto
import Derived.Test.YtgigjgjpglmpoaaGreatDoorGB
namespace Go.Proofs.YtgigjgjpglmpoaaGreatDoor
open Go.RowKit
theorem StrO.keptD {B g : Nat} {w w' : World} {v : Value} {ls : List Tx} (h : StrO B w v ls) (hd : D g w w') (hB : g < B) : StrO B w' v ls := Own.keptD h hd hB
theorem strLit (w : World) (cs : Array Value) (ls : List Tx) (n : Nat) (hn : n ≤ 1000) (hl : ls.length = n) (hc : cs.toList = txs ls) : StrO w.heap.size (w.alloc (.cells cs 9)) (.slice (some ⟨w.heap.size, 0, none⟩) n n) ls := by
  subst hl
  have hs : cs.size = ls.length * 1 := by rw [← Array.length_toList, hc]; simp [txs]
  have := Own.lit (B := w.heap.size) (e := 9) (sz := 1) w cs ls.length (Nat.le_refl _) (by omega) hs
  rw [hc] at this
  exact this
end Go.Proofs.YtgigjgjpglmpoaaGreatDoor
namespace Go.Proofs.YtgigjgjpglmpoaaGreatDoor
open Go.RowKit
/-- A block that is known whole. -/
theorem blk_cell {w : World} {b : Nat} {cs : Array Value} {t : TypeId} (h : w.heap[b]? = some (.cells cs t (0, 0))) {j : Nat} {v : Value} (hj : cs[j]? = some v) : w.cell? ⟨b, j, none⟩ = some v := by
  simp [World.cell?, h, hj]
theorem blk_frozen {w : World} {b : Nat} {cs : Array Value} {t : TypeId} (h : w.heap[b]? = some (.cells cs t (0, 0))) (j : Nat) : w.frozen? ⟨b, j, none⟩ = false := by
  simp [World.frozen?, h]
theorem D.blk {g : Nat} {a b : World} (h : D g a b) {k : Nat} {o : Obj} (hk : a.heap[k]? = some o) (hne : k ≠ g) : b.heap[k]? = some o := by
  rw [h.ofBelow k (Array.getElem?_eq_some_iff.1 hk).1 hne]; exact hk
theorem Gr.blk {a b : World} (h : Gr a b) {k : Nat} {o : Obj} (hk : a.heap[k]? = some o) : b.heap[k]? = some o := by
  rw [Below.block h k (Array.getElem?_eq_some_iff.1 hk).1]; exact hk
theorem D.cellEq {g : Nat} {a b : World} (h : D g a b) : ∀ k o, k < a.heap.size → ¬ k = g → b.cell? ⟨k, o, none⟩ = a.cell? ⟨k, o, none⟩ := by
  intro k o hk hne
  simp only [World.cell?]
  rw [h.ofBelow k hk hne]
/-- One of five numbers. -/
def five (x k : Int) : Int := nth [0, 1, 10, 255, x] k.toNat
theorem five_cell (w : World) (x k : Int) (h0 : 0 ≤ k) (h1 : k < 5) : (w.alloc (.cells #[.int .i64 0, .int .i64 1, .int .i64 10, .int .i64 255, .int .i64 x] 3)).cell? ⟨w.heap.size, k.toNat, none⟩ = some (.int .i64 (five x k)) := by
  have h5 : k = 0 ∨ k = 1 ∨ k = 2 ∨ k = 3 ∨ k = 4 := by omega
  rcases h5 with rfl | rfl | rfl | rfl | rfl <;> simp [five, nth]
theorem IntO.four {w : World} {x y z u : Int} {n : Nat} (hn : n = w.heap.size) : IntO w.heap.size 3 (w.alloc (.cells #[.int .i64 x, .int .i64 y, .int .i64 z, .int .i64 u] 3)) (.slice (some ⟨n, 0, none⟩) 4 4) [x, y, z, u] := by
  subst hn; exact Own.lit w #[.int .i64 x, .int .i64 y, .int .i64 z, .int .i64 u] 4 (Nat.le_refl _) (by decide) rfl
end Go.Proofs.YtgigjgjpglmpoaaGreatDoor
namespace Go.Proofs.YtgigjgjpglmpoaaGreatDoor
open Go.RowKit
/-- Four cells of a block, written. -/
def put4 (w : World) (b : Nat) (a0 a1 a2 a3 : Value) : World := (((w.setCell ⟨b, 0, none⟩ a0).setCell ⟨b, 1, none⟩ a1).setCell ⟨b, 2, none⟩ a2).setCell ⟨b, 3, none⟩ a3
theorem put4_blk {w : World} {b : Nat} {c0 c1 c2 c3 : Value} {t : TypeId} (h : w.heap[b]? = some (.cells #[c0, c1, c2, c3] t (0, 0))) (a0 a1 a2 a3 : Value) : (put4 w b a0 a1 a2 a3).heap[b]? = some (.cells #[a0, a1, a2, a3] t (0, 0)) :=
  heap_set (j := 3) (x := a3) (heap_set (j := 2) (x := a2) (heap_set (j := 1) (x := a1) (heap_set (j := 0) (x := a0) h)))
theorem put4_D (w : World) (b : Nat) (a0 a1 a2 a3 : Value) : D b w (put4 w b a0 a1 a2 a3) := D.set (D.set (D.set (D.set (D.refl b w) 0 a0) 1 a1) 2 a2) 3 a3
theorem put4_below (w : World) (b : Nat) (a0 a1 a2 a3 : Value) : Below b w (put4 w b a0 a1 a2 a3) :=
  have h := put4_D w b a0 a1 a2 a3
  ⟨h.os, h.tape, h.output, h.size, fun k hk => by unfold put4; rw [Below.heap_setCell _ _ _ _ (by simp; omega), Below.heap_setCell _ _ _ _ (by simp; omega), Below.heap_setCell _ _ _ _ (by simp; omega), Below.heap_setCell _ _ _ _ (by simp; omega)]⟩
end Go.Proofs.YtgigjgjpglmpoaaGreatDoor
