/- Lines: both directions have lines; how a line begins (plain laws). -/
import Derived.Test.YtfambpdhnicghaaGreatDoorGE
namespace Go.Proofs.YtfambpdhnicghaaGreatDoor
open Go.RowKit
theorem parOk_turn (p : Par) : parOk ⟨p.dst, p.src⟩ = parOk p := by
  simp only [parOk]
  cases adrOk p.src <;> cases adrOk p.dst <;> cases decide (p.src.kind = 1) <;> cases decide (p.dst.kind = 1) <;> rfl
theorem parOk_same {p : Par} (h : parOk p = true) : parOk ⟨p.dst, p.dst⟩ = true := by
  simp only [parOk, Bool.and_eq_true] at h ⊢
  exact ⟨h.2.1, h.2.1, h.2.2.2, h.2.2.2⟩
theorem lineText_turn (p : Par) : (lineText ⟨p.dst, p.src⟩).length = (lineText p).length := by
  simp [lineText]; omega
theorem lineText_begin (p : Par) : (lineText p).take 11 = lineT := by
  have h : lineT.length = 11 := rfl
  unfold lineText
  simp only [List.append_assoc]
  rw [List.take_append_of_le_length (by omega), List.take_of_length_le (by omega)]
theorem lineText_sum {p : Par} (h : parOk p = true) : (lineText p).length = (addrText p.src).length + (addrText p.dst).length + 14 := by
  obtain ⟨_, _, k1, k2, _⟩ := par_parts h
  have hl : lineT.length = 11 := rfl
  simp [lineText, addrText, hostText, k1, k2, hl]; omega
end Go.Proofs.YtfambpdhnicghaaGreatDoor
