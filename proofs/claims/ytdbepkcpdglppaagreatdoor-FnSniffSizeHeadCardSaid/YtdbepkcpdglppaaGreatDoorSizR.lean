/- Whole frames: their kind and size (plain laws). -/
import Derived.Test.YtdbepkcpdglppaaGreatDoorGP
namespace Go.Proofs.YtdbepkcpdglppaaGreatDoor
open Go.RowKit
theorem frm_whole {k : Int} {size : List Int → Option Nat} (F : Frm k size) {xs : List Int} {n : Nat} (hb : bv xs = true) (hs : size xs = some n) (hn : n = xs.length) : sniffKind xs = k := by
  subst hn
  have := (F xs xs.length hb hs).2.2 [] (by rw [List.take_length, List.append_nil]; exact hb)
  rw [List.take_length, List.append_nil] at this; exact this.1
theorem sniff_line {p : Par} (h : parOk p = true) (hl : (lineText p).length ≤ 120) : bv (tb (lineText p)) = true ∧ sniffKind (tb (lineText p)) = 4 ∧ sniffSize (tb (lineText p)) = some (lineText p).length := by
  have hlen : (tb (lineText p)).length = (lineText p).length := by simp [tb]
  have hb := bytes_bv (tb_bytes (lineText p)) (by omega)
  have hs : sizeLine (tb (lineText p)) = some (lineText p).length := by
    unfold sizeLine; rw [bt_tb]; have := lineFrom_text h []; rw [List.append_nil] at this; rw [this]; rfl
  have hk := frm_whole frm_line hb hs hlen.symm
  exact ⟨hb, hk, by unfold sniffSize; rw [hk]; simpa using hs⟩
theorem sniff_conn {a : Adr} (h : adrOk a = true) (hl : (connOf a).length ≤ 120) : bv (tb (connOf a)) = true ∧ sniffKind (tb (connOf a)) = 3 ∧ sniffSize (tb (connOf a)) = some (connOf a).length := by
  have hlen : (tb (connOf a)).length = (connOf a).length := by simp [tb]
  have hb := bytes_bv (tb_bytes (connOf a)) (by omega)
  have hs : sizeConn (tb (connOf a)) = some (connOf a).length := by
    unfold sizeConn; rw [bt_tb]; have := connFrom_text h []; rw [List.append_nil] at this; rw [this]; rfl
  have hk := frm_whole frm_conn hb hs hlen.symm
  exact ⟨hb, hk, by unfold sniffSize; rw [hk]; simpa using hs⟩
theorem sniff_old {x : Oldq} (h : oldOk x = true) (hb : bv (oldBytes x) = true) : sniffKind (oldBytes x) = 1 ∧ sniffSize (oldBytes x) = some (oldBytes x).length := by
  have hs : sizeOld (oldBytes x) = some (oldBytes x).length := by
    unfold sizeOld; have := oldFrom_text h [] (by rw [List.append_nil]; exact hb); rw [List.append_nil] at this; rw [this]; rfl
  have hk := frm_whole frm_old hb hs rfl
  exact ⟨hk, by unfold sniffSize; rw [hk]; simpa using hs⟩
theorem sniff_head {p : Par} {ts : List Tag} (h : headOk p ts = true) (hb : bv (headBytes p ts) = true) : sniffKind (headBytes p ts) = 5 ∧ sniffSize (headBytes p ts) = some (headBytes p ts).length := by
  have hs : sizeHead (headBytes p ts) = some (headBytes p ts).length := by
    unfold sizeHead; have := headFrom_bytes h [] (by rw [List.append_nil]; exact hb); rw [List.append_nil] at this; rw [this]; rfl
  have hk := frm_whole frm_head hb hs rfl
  exact ⟨hk, by unfold sniffSize; rw [hk]; simpa using hs⟩
end Go.Proofs.YtdbepkcpdglppaaGreatDoor
