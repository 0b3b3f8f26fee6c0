/- impl.LineFrom. -/
import Derived.Test.YtgigjgjpglmpoaaGreatDoorAdrI
import Derived.Test.YtgigjgjpglmpoaaGreatDoorGU
import Derived.Deep.RegionWith
import Derived.Deep.DeepCutAuto
namespace Go.Proofs.YtgigjgjpglmpoaaGreatDoor
open Go.RowKit
/-- An address in a variable, and whether there is one. -/
def AdrCell (w0 : World) (k : Int) (xs : List Int) (nm : ByteArray) (p : Int) (ok : Bool) (u b : Value) (wx : World) : Prop :=
  ∃ (b9 B T : Nat) (q : Option Addr) (c : Nat), u = .pointer (some ⟨b9, 0, none⟩) ∧ b = .bool ok ∧ wx.heap[b9]? = some (.cells #[.int .i64 k, .slice q xs.length c, .string nm, .int .i64 p] 58 (0, 0)) ∧ IntB B T 3 wx (.slice q xs.length c) xs ∧ w0.heap.size ≤ B ∧ B ≤ T ∧ T ≤ wx.heap.size ∧ w0.heap.size ≤ b9 ∧ Gr w0 wx
theorem AdrCell.late {w0 w9 : World} {k : Int} {xs : List Int} {nm : ByteArray} {p : Int} {ok : Bool} {q : Option Addr} {c m : Nat} (hm : m = w9.heap.size) (o : IntO w0.heap.size 3 w9 (.slice q xs.length c) xs) (g : Gr w0 w9) :
    AdrCell w0 k xs nm p ok (.pointer (some ⟨m, 0, none⟩)) (.bool ok) (w9.alloc (.cells #[.int .i64 k, .slice q xs.length c, .string nm, .int .i64 p] 58)) := by
  subst hm
  exact ⟨_, w0.heap.size, w9.heap.size, q, c, rfl, rfl, heap_alloc_new _ _, (IntO.b o).kept (gr_alloc _ _), Nat.le_refl _, g.sz, by simp, g.sz, g.alloc _⟩
theorem AdrCell.early {w0 w9 : World} {k : Int} {xs : List Int} {nm : ByteArray} {p : Int} {ok : Bool} {q : Option Addr} {c : Nat} {c0 c1 c2 c3 : Value} (o : IntO (w0.heap.size + 1) 3 w9 (.slice q xs.length c) xs) (g : Gr w0 w9) (hq : w9.heap[w0.heap.size]? = some (.cells #[c0, c1, c2, c3] 58 (0, 0))) :
    AdrCell w0 k xs nm p ok (.pointer (some ⟨w0.heap.size, 0, none⟩)) (.bool ok) (put4 w9 w0.heap.size (.int .i64 k) (.slice q xs.length c) (.string nm) (.int .i64 p)) := by
  have hlt := (Array.getElem?_eq_some_iff.1 hq).1
  have cW := put4_chg w9 w0.heap.size (.int .i64 k) (.slice q xs.length c) (.string nm) (.int .i64 p)
  exact ⟨w0.heap.size, w0.heap.size + 1, w9.heap.size, q, c, rfl, rfl, put4_blk hq _ _ _ _, IntB.chg (IntO.b o) cW (.inr (Nat.le_refl _)), by omega, hlt, by rw [cW.size]; exact Nat.le_refl _, Nat.le_refl _, cW.gr g (Nat.le_refl _)⟩
theorem cut1_len (l sep : Tx) : (Lib.cut l sep).1.length ≤ l.length := by
  unfold Lib.cut
  split
  · simp; omega
  · simp
theorem StrS.ixN {w : World} {p : Option Addr} {cap n : Nat} {ls : List Tx} (h : StrS w (.slice p n cap) ls) (hn : ls.length = n) (k : Nat) (ki : Int) (hki : ki = (k : Int)) (hk : k < n) {t : Tx} (ht : nthS ls k = t) :
    ∃ a : Addr, (∀ w1, (Instr.indexAt 78 (.slice p n cap) (.int .i64 ki)).run Tryz.prog w1 = .ok (.pointer (some a)) w1) ∧ w.cell? a = some (.string (S t)) := by
  subst hn hki ht
  exact h.ix hk
theorem list6 {ls : List Tx} (h : ls.length = 6) : ∃ a0 a1 a b c d, ls = [a0, a1, a, b, c, d] := by
  match ls, h with
  | [a0, a1, a, b, c, d], _ => exact ⟨a0, a1, a, b, c, d, rfl⟩
theorem grAny {a b c : World} (h : Gr a b) (g : Gr b c) : Gr a c := h.trans g
theorem AdrIs.small {l : Tx} {k : Int} {xs : List Int} {nm : ByteArray} {p : Int} {ok : Bool} (h : AdrIs l k xs nm p ok) : nm.size ≤ 20 := by
  rcases h with ⟨h, _⟩ | ⟨_, _, _, rfl, _⟩
  · obtain ⟨h1, _⟩ := addrFrom_sound h
    rcases adr_kind h1 with ⟨_, _, e⟩ | ⟨_, e, _⟩
    · simp only at e; rw [← tx_len, e]; simp
    · have := nameOk_len e; simp only at this; rw [tx_len] at this; exact this
  · simp [ByteArray.size]
/-- The last step of LineFrom. -/
def lineOf (l : Tx) (x y : Option Adr) : Option (Par × Nat) :=
  match x, y with
  | some x, some y => if parOk ⟨x, y⟩ = true ∧ Lib.hasPrefix l (lineText ⟨x, y⟩) = true then some (⟨x, y⟩, (lineText ⟨x, y⟩).length) else none
  | _, _ => none
theorem line_no {l tA tB : Tx} {ka pa kb pb : Int} {qa qb : List Int} {na nb : ByteArray} {oa ob : Bool} (hA : AdrIs tA ka qa na pa oa) (hB : AdrIs tB kb qb nb pb ob) (hI : lineFrom l = lineOf l (addrFrom tA) (addrFrom tB))
    (h : oa = false ∨ ob = false ∨ parOk ⟨⟨ka, qa, tx na, pa⟩, ⟨kb, qb, tx nb, pb⟩⟩ = false ∨ Lib.hasPrefix l (lineText ⟨⟨ka, qa, tx na, pa⟩, ⟨kb, qb, tx nb, pb⟩⟩) = false) : lineFrom l = none := by
  rw [hI]
  rcases hA with ⟨eA, rfl⟩ | ⟨eA, _⟩
  · rcases hB with ⟨eB, rfl⟩ | ⟨eB, _⟩
    · rw [eA, eB]
      show (if _ then _ else none) = none
      rw [if_neg]
      rintro ⟨h1, h2⟩
      rcases h with h | h | h | h
      · cases h
      · cases h
      · rw [h] at h1; cases h1
      · rw [h] at h2; cases h2
    · rw [eA, eB]; rfl
  · rw [eA]; rfl
theorem line_yes {l tA tB : Tx} {ka pa kb pb : Int} {qa qb : List Int} {na nb : ByteArray} {oa ob : Bool} (hA : AdrIs tA ka qa na pa oa) (hB : AdrIs tB kb qb nb pb ob) (hI : lineFrom l = lineOf l (addrFrom tA) (addrFrom tB))
    (h1 : oa = true) (h2 : ob = true) (h3 : parOk ⟨⟨ka, qa, tx na, pa⟩, ⟨kb, qb, tx nb, pb⟩⟩ = true) (h4 : Lib.hasPrefix l (lineText ⟨⟨ka, qa, tx na, pa⟩, ⟨kb, qb, tx nb, pb⟩⟩) = true) :
    lineFrom l = some (⟨⟨ka, qa, tx na, pa⟩, ⟨kb, qb, tx nb, pb⟩⟩, (S (lineText ⟨⟨ka, qa, tx na, pa⟩, ⟨kb, qb, tx nb, pb⟩⟩)).size) := by
  rw [hI]
  rcases hA with ⟨eA, _⟩ | ⟨_, _, _, _, _, e⟩
  · rcases hB with ⟨eB, _⟩ | ⟨_, _, _, _, _, e⟩
    · rw [eA, eB, S_len]
      show (if _ then _ else none) = _
      rw [if_pos ⟨h3, h4⟩]
    · rw [h2] at e; cases e
  · rw [h1] at e; cases e
end Go.Proofs.YtgigjgjpglmpoaaGreatDoor
