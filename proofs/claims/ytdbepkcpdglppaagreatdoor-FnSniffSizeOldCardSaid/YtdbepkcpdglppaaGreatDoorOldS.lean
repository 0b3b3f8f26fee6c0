/- spec.OldFrom. -/
import Derived.Test.YtdbepkcpdglppaaGreatDoorOldH
import Derived.Deep.RegionHeld3
namespace Go.Proofs.YtdbepkcpdglppaaGreatDoor
open Go.RowKit
theorem old_no1 {xs : List Int} (h : ¬ (bv xs = true ∧ 9 ≤ xs.length ∧ nth xs 0 = 4)) : sizeOld xs = none := by unfold sizeOld oldFrom; rw [if_neg h]; rfl
theorem old_no2 {xs : List Int} (h : bv xs = true ∧ 9 ≤ xs.length ∧ nth xs 0 = 4) (h2 : zeroAt xs 8 = none) : sizeOld xs = none := by unfold sizeOld oldFrom; rw [if_pos h, h2]; rfl
theorem old_aNo {xs : List Int} (h : bv xs = true ∧ 9 ≤ xs.length ∧ nth xs 0 = 4) {e : Nat} (h2 : zeroAt xs 8 = some e) (h3 : ¬ (nth xs 4 = 0 ∧ nth xs 5 = 0 ∧ nth xs 6 = 0)) (h4 : oldOk (oldA xs e) = false) : sizeOld xs = none := by
  unfold sizeOld oldFrom; rw [if_pos h, h2]; simp only []; rw [if_neg h3, if_neg (by rw [h4]; simp)]; rfl
theorem old_aYes {xs : List Int} (h : bv xs = true ∧ 9 ≤ xs.length ∧ nth xs 0 = 4) {e : Nat} (h2 : zeroAt xs 8 = some e) (h3 : ¬ (nth xs 4 = 0 ∧ nth xs 5 = 0 ∧ nth xs 6 = 0)) (h4 : oldOk (oldA xs e) = true) : sizeOld xs = some (e + 1) := by
  unfold sizeOld oldFrom; rw [if_pos h, h2]; simp only []; rw [if_neg h3, if_pos h4]; rfl
theorem old_no3 {xs : List Int} (h : bv xs = true ∧ 9 ≤ xs.length ∧ nth xs 0 = 4) {e : Nat} (h2 : zeroAt xs 8 = some e) (h3 : nth xs 4 = 0 ∧ nth xs 5 = 0 ∧ nth xs 6 = 0) (h4 : zeroAt xs (e + 1) = none) : sizeOld xs = none := by
  unfold sizeOld oldFrom; rw [if_pos h, h2]; simp only []; rw [if_pos h3, h4]; rfl
theorem old_nNo {xs : List Int} (h : bv xs = true ∧ 9 ≤ xs.length ∧ nth xs 0 = 4) {e l : Nat} (h2 : zeroAt xs 8 = some e) (h3 : nth xs 4 = 0 ∧ nth xs 5 = 0 ∧ nth xs 6 = 0) (h4 : zeroAt xs (e + 1) = some l) (h5 : ¬ (nth xs 7 = 1 ∧ oldOk (oldN xs e l) = true)) : sizeOld xs = none := by
  unfold sizeOld oldFrom; rw [if_pos h, h2]; simp only []; rw [if_pos h3, h4]; simp only []; rw [if_neg h5]; rfl
theorem old_nYes {xs : List Int} (h : bv xs = true ∧ 9 ≤ xs.length ∧ nth xs 0 = 4) {e l : Nat} (h2 : zeroAt xs 8 = some e) (h3 : nth xs 4 = 0 ∧ nth xs 5 = 0 ∧ nth xs 6 = 0) (h4 : zeroAt xs (e + 1) = some l) (h5 : nth xs 7 = 1) (h6 : oldOk (oldN xs e l) = true) : sizeOld xs = some (l + 1) := by
  unfold sizeOld oldFrom; rw [if_pos h, h2]; simp only []; rw [if_pos h3, h4]; simp only []; rw [if_pos ⟨h5, h6⟩]; rfl
/-- A request in a variable. -/
def OldCell (w0 : World) (cs : Array Value) (u : Value) (wx : World) : Prop := ∃ b6, u = .pointer (some ⟨b6, 0, none⟩) ∧ wx.heap[b6]? = some (.cells cs 39 (0, 0)) ∧ w0.heap.size ≤ b6 ∧ Gr w0 wx
theorem OldCell.late {w0 w5 : World} {cs : Array Value} {m : Nat} (hm : m = w5.heap.size) (g : Gr w0 w5) : OldCell w0 cs (.pointer (some ⟨m, 0, none⟩)) (w5.alloc (.cells cs 39)) := by
  subst hm; exact ⟨_, rfl, heap_alloc_new _ _, g.sz, g.alloc _⟩
theorem OldCell.dr {w0 wx : World} {cs : Array Value} {u : Value} (h : OldCell w0 cs u wx) : OldCell w0 cs u wx.drew := by
  obtain ⟨b6, h1, h2, h3, h4⟩ := h
  exact ⟨b6, h1, (Gr.refl wx).drew.blk h2, h3, h4.drew⟩
theorem OldCell.put {w0 w5 : World} {b6 : Nat} {c0 c1 c2 c3 c4 c5 : Value} (h : w5.heap[b6]? = some (.cells #[c0, c1, c2, c3, c4, c5] 39 (0, 0))) (hb : w0.heap.size ≤ b6) (g : Gr w0 w5) (a0 a1 a2 a3 a4 a5 : Value) :
    OldCell w0 #[a0, a1, a2, a3, a4, a5] (.pointer (some ⟨b6, 0, none⟩)) (((((w5.setCell ⟨b6, 0, none⟩ a0).setCell ⟨b6, 1, none⟩ a1).setCell ⟨b6, 2, none⟩ a2).setCell ⟨b6, 3, none⟩ a3).setCell ⟨b6, 4, none⟩ a4 |>.setCell ⟨b6, 5, none⟩ a5) :=
  ⟨b6, rfl, put6_blk h _ _ _ _ _ _, hb, (put6_chg w5 b6 a0 a1 a2 a3 a4 a5).gr g hb⟩
theorem IntS.emp (w : World) (a : Addr) : IntS w (.slice (some a) 0 0) [] := ⟨rfl, some a, 0, rfl, Nat.le_refl _, by decide, by simp, fun b _ j u hu => by simp [ints] at hu⟩
/-- An address put into a request. -/
def AdrIn (w0 : World) (b6 : Nat) (c5 c0 k : Value) (qs : List Int) (nm p : Value) (wx : World) : Prop :=
  ∃ (q : Option Addr) (c : Nat), wx.heap[b6]? = some (.cells #[c0, k, .slice q qs.length c, nm, p, c5] 39 (0, 0)) ∧ IntS wx (.slice q qs.length c) qs ∧ Gr w0 wx
theorem AdrIn.mk {w0 w5 : World} {b6 : Nat} {c0 c1 c2 c3 c4 c5 : Value} (h : w5.heap[b6]? = some (.cells #[c0, c1, c2, c3, c4, c5] 39 (0, 0))) (hb : w0.heap.size ≤ b6) (g : Gr w0 w5) {q : Option Addr} {c : Nat} {qs : List Int}
    (hq : IntB (b6 + 1) w5.heap.size 3 w5 (.slice q qs.length c) qs) (k nm p : Value) :
    AdrIn w0 b6 c5 c0 k qs nm p ((((w5.setCell ⟨b6, 1, none⟩ k).setCell ⟨b6, 2, none⟩ (.slice q qs.length c)).setCell ⟨b6, 3, none⟩ nm).setCell ⟨b6, 4, none⟩ p) :=
  ⟨q, c, put4o_blk h _ _ _ _, (hq.chg (put4o_chg w5 b6 k _ nm p) (.inr (Nat.le_refl _))).s, (put4o_chg w5 b6 k _ nm p).gr g hb⟩
theorem AdrIn.dr {w0 wx : World} {b6 : Nat} {c5 c0 k nm p : Value} {qs : List Int} (h : AdrIn w0 b6 c5 c0 k qs nm p wx) : AdrIn w0 b6 c5 c0 k qs nm p wx.drew := by
  obtain ⟨q, c, h1, h2, h3⟩ := h
  exact ⟨q, c, (Gr.refl wx).drew.blk h1, h2.kept (Gr.refl wx).drew, h3.drew⟩
theorem AdrIn.mkE {w0 w5 : World} {b6 : Nat} {c0 c1 c2 c3 c4 c5 : Value} (h : w5.heap[b6]? = some (.cells #[c0, c1, c2, c3, c4, c5] 39 (0, 0))) (hb : w0.heap.size ≤ b6) (g : Gr w0 w5) (a : Addr) (k nm p : Value) :
    AdrIn w0 b6 c5 c0 k [] nm p ((((w5.setCell ⟨b6, 1, none⟩ k).setCell ⟨b6, 2, none⟩ (.slice (some a) 0 0)).setCell ⟨b6, 3, none⟩ nm).setCell ⟨b6, 4, none⟩ p) :=
  ⟨some a, 0, put4o_blk h _ _ _ _, IntS.emp _ a, (put4o_chg w5 b6 k _ nm p).gr g hb⟩
end Go.Proofs.YtdbepkcpdglppaaGreatDoor
