/- laws.szIntS, szTag, szTagS: the size of an argument.
laws.szAddress, szPair, toAddress, toPair: pairs of plain data.
spec: numbers, quads, addresses and lines out of texts.
spec.l3Of: the address of a host and a port. -/
import Derived.Test.YtgigjgjpglmpoaaGreatDoorGH
import Derived.Test.YtgigjgjpglmpoaaGreatDoorGL
import Derived.Test.YtgigjgjpglmpoaaGreatDoorGN
import Derived.Test.YtgigjgjpglmpoaaGreatDoorGE
namespace Go.Proofs.YtgigjgjpglmpoaaGreatDoor
open Go.RowKit
/-- What is left of a size. -/
def left (c : Int) (n : Nat) : Int := if c - n < 0 then -1 else c - n
def SzIs (c : Int) (ts : List Tag) (r : Int) : Prop := r = -1 ∨ (0 ≤ r ∧ r + cnt ts = c)
end Go.Proofs.YtgigjgjpglmpoaaGreatDoor
namespace Go.Proofs.YtgigjgjpglmpoaaGreatDoor
open Go.RowKit
def SzA (c : Int) (n : Nat) (r : Int) : Prop := r = -1 ∨ (0 ≤ r ∧ r + n = c)
def put3 (w : World) (b : Nat) (a1 a2 a3 : Value) : World := ((w.setCell ⟨b, 1, none⟩ a1).setCell ⟨b, 2, none⟩ a2).setCell ⟨b, 3, none⟩ a3
theorem put3_chg (w : World) (b : Nat) (a1 a2 a3 : Value) : Chg b (b + 1) w (put3 w b a1 a2 a3) :=
  Chg.set (p := ⟨b, 3, none⟩) (Chg.set (p := ⟨b, 2, none⟩) (Chg.set (p := ⟨b, 1, none⟩) (Chg.refl b (b + 1) w) (Nat.le_refl _) (Nat.lt_succ_self _) a1) (Nat.le_refl _) (Nat.lt_succ_self _) a2) (Nat.le_refl _) (Nat.lt_succ_self _) a3
theorem put4_chg (w : World) (b : Nat) (a0 a1 a2 a3 : Value) : Chg b (b + 1) w (put4 w b a0 a1 a2 a3) :=
  Chg.set (p := ⟨b, 3, none⟩) (Chg.set (p := ⟨b, 2, none⟩) (Chg.set (p := ⟨b, 1, none⟩) (Chg.set (p := ⟨b, 0, none⟩) (Chg.refl b (b + 1) w) (Nat.le_refl _) (Nat.lt_succ_self _) a0) (Nat.le_refl _) (Nat.lt_succ_self _) a1) (Nat.le_refl _) (Nat.lt_succ_self _) a2) (Nat.le_refl _) (Nat.lt_succ_self _) a3
theorem put4_blk8 {w : World} {b : Nat} {c0 c1 c2 c3 c4 c5 c6 c7 : Value} {t : TypeId} (h : w.heap[b]? = some (.cells #[c0, c1, c2, c3, c4, c5, c6, c7] t (0, 0))) (a0 a1 a2 a3 : Value) :
    (put4 w b a0 a1 a2 a3).heap[b]? = some (.cells #[a0, a1, a2, a3, c4, c5, c6, c7] t (0, 0)) := by
  have h0 := heap_set (j := 0) (x := a0) h
  have h1 := heap_set (j := 1) (x := a1) h0
  have h2 := heap_set (j := 2) (x := a2) h1
  exact heap_set (j := 3) (x := a3) h2
theorem alloc3 (w : World) (x y z : Obj) : (((w.alloc x).alloc y).alloc z).heap.size = w.heap.size + 3 ∧ (((w.alloc x).alloc y).alloc z).heap[w.heap.size]? = some x ∧ (((w.alloc x).alloc y).alloc z).heap[w.heap.size + 1]? = some y ∧ (((w.alloc x).alloc y).alloc z).heap[w.heap.size + 1 + 1]? = some z := by
  have e1 : (w.alloc x).heap.size = w.heap.size + 1 := by simp
  have e2 : ((w.alloc x).alloc y).heap.size = w.heap.size + 1 + 1 := by simp
  refine ⟨by simp, ?_, ?_, ?_⟩
  · exact (gr_alloc ((w.alloc x).alloc y) z).blk ((gr_alloc (w.alloc x) y).blk (heap_alloc_new w x))
  · have := (gr_alloc ((w.alloc x).alloc y) z).blk (heap_alloc_new (w.alloc x) y)
    rwa [e1] at this
  · have := heap_alloc_new ((w.alloc x).alloc y) z
    rwa [e2] at this
end Go.Proofs.YtgigjgjpglmpoaaGreatDoor
namespace Go.Proofs.YtgigjgjpglmpoaaGreatDoor
open Go.RowKit
theorem allDig_step {s : ByteArray} {k : Nat} (h : k < s.size) : allDig ((tx s).take (k+1)) = (allDig ((tx s).take k) && isDig (s[k].toNat : Int)) := allU_step (fun c => isDig (c.toNat : Int)) h
theorem valD_step {s : ByteArray} {k : Nat} (h : k < s.size) : valD ((tx s).take (k+1)) = 10 * valD ((tx s).take k) + (s[k].toNat - 48) := by
  rw [tx_take h, valD_snoc]
theorem quadText_ne {q : List Int} (h : quadOk q = true) : quadText q ≠ [] := by
  obtain ⟨a, b, c, d, rfl, _⟩ := quad_four h
  rw [quadText_parts]; simp
/-- The place behind the first end of a line, or -1. -/
def endOf (l : Tx) : Int := if 0 ≤ Lib.index l [13, 10] then Lib.index l [13, 10] + 2 else -1
theorem occ_at {s : ByteArray} {k : Nat} (h : k + 1 < s.size) : Lib.occAt (tx s) [13, 10] k = (((s[k].toNat : Int) == 13) && ((s[k+1].toNat : Int) == 10)) := by
  have e1 : ((s[k].toNat : Int) == 13) = (13 == s[k]) := by
    rw [Bool.eq_iff_iff, beq_iff_eq, beq_iff_eq]
    constructor
    · intro h; exact (UInt8.toNat_inj.1 (by simp; omega)).symm
    · intro h; rw [← h]; rfl
  have e2 : ((s[k+1].toNat : Int) == 10) = (10 == s[k+1]) := by
    rw [Bool.eq_iff_iff, beq_iff_eq, beq_iff_eq]
    constructor
    · intro h; exact (UInt8.toNat_inj.1 (by simp; omega)).symm
    · intro h; rw [← h]; rfl
  rw [e1, e2]
  unfold Lib.occAt
  rw [tx_drop (show k < s.size by omega), tx_drop h]
  simp [List.isPrefixOf]
end Go.Proofs.YtgigjgjpglmpoaaGreatDoor
namespace Go.Proofs.YtgigjgjpglmpoaaGreatDoor
open Go.RowKit
theorem adr_parts (h : Tx) (p : Int) : ∃ k q nm, adrOf h p = ⟨k, q, tx nm, p⟩ ∧ nm.size ≤ h.length := by
  unfold adrOf
  split
  · exact ⟨1, _, ⟨#[]⟩, rfl, by simp [ByteArray.size]⟩
  · exact ⟨3, [], S h, by rw [tx_S], by rw [S_len]; exact Nat.le_refl _⟩
theorem six_of {ls : List Tx} (h : ls.length = 6) : ∃ a0 a1 a b c d, ls = [a0, a1, a, b, c, d] := by
  match ls, h with
  | [a0, a1, a, b, c, d], _ => exact ⟨a0, a1, a, b, c, d, rfl⟩
theorem StrS.ixM {w : World} {p : Option Addr} {cap n : Nat} {ls : List Tx} (h : StrS w (.slice p n cap) ls) (hn : ls.length = n) (k : Nat) (ki : Int) (hki : ki = (k : Int)) (hk : k < n) {t : Tx} (ht : nthS ls k = t) :
    ∃ a : Addr, (∀ w1, (Instr.indexAt 78 (.slice p n cap) (.int .i64 ki)).run Tryz.prog w1 = .ok (.pointer (some a)) w1) ∧ w.cell? a = some (.string (S t)) := by
  subst hn hki ht
  exact h.ix hk
end Go.Proofs.YtgigjgjpglmpoaaGreatDoor
