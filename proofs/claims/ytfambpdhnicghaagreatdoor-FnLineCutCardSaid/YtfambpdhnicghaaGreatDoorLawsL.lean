/- The walks of laws.FnLineTurn, FnLineBegin. -/
import Derived.Test.YtfambpdhnicghaaGreatDoorLawsP
namespace Go.Proofs.YtfambpdhnicghaaGreatDoor
open Go.RowKit
theorem specLine_t {w : World} {q q' : Value} {xs ys : List Int} (k port k' port' : Int) (s s' : ByteArray) (hq : IntS w q xs) (hq' : IntS w q' ys) (hs : s.size ≤ 2000000) (hs' : s'.size ≤ 2000000) {t : Tx} (hok : Hid (parOk ⟨⟨k, xs, tx s, port⟩, ⟨k', ys, tx s', port'⟩⟩ = true)) (he : Hid (lineText ⟨⟨k, xs, tx s, port⟩, ⟨k', ys, tx s', port'⟩⟩ = t)) :
    Calls Tryz.prog 11 #[.agg #[.int .i64 k, q, .string s, .int .i64 port, .int .i64 k', q', .string s', .int .i64 port']] w fun e w' => e = .returned (.string (S t)) ∧ Gr w w' := by
  have := LineText_c k port k' port' s s' hq hq' hs hs'
  rw [hok.out, if_pos rfl, he.out] at this
  exact this
theorem specLine_f {w : World} {q q' : Value} {xs ys : List Int} (k port k' port' : Int) (s s' : ByteArray) (hq : IntS w q xs) (hq' : IntS w q' ys) (hs : s.size ≤ 2000000) (hs' : s'.size ≤ 2000000) (hok : Hid (parOk ⟨⟨k, xs, tx s, port⟩, ⟨k', ys, tx s', port'⟩⟩ = false)) :
    Calls Tryz.prog 11 #[.agg #[.int .i64 k, q, .string s, .int .i64 port, .int .i64 k', q', .string s', .int .i64 port']] w fun e w' => e = .returned (.string ⟨#[]⟩) ∧ Gr w w' := by
  have := LineText_c k port k' port' s s' hq hq' hs hs'
  rw [hok.out, if_neg (by decide)] at this
  exact this
theorem implLine_t {w : World} {q q' : Value} {xs ys : List Int} (hm : ML w) (ht : Tab w) (k port k' port' : Int) (s s' : ByteArray) (hq : IntS w q xs) (hq' : IntS w q' ys) (hs : s.size ≤ 2000000) (hs' : s'.size ≤ 2000000) {t : Tx} (hok : Hid (parOk ⟨⟨k, xs, tx s, port⟩, ⟨k', ys, tx s', port'⟩⟩ = true)) (he : Hid (lineText ⟨⟨k, xs, tx s, port⟩, ⟨k', ys, tx s', port'⟩⟩ = t)) :
    Calls Tryz.prog 10 #[.agg #[.int .i64 k, q, .string s, .int .i64 port, .int .i64 k', q', .string s', .int .i64 port']] w fun e w' => e = .returned (.string (S t)) ∧ Gr w w' := by
  have := implLineText_c hm ht k port k' port' s s' hq hq' hs hs'
  rw [hok.out, if_pos rfl, he.out] at this
  exact this
theorem implLine_f {w : World} {q q' : Value} {xs ys : List Int} (hm : ML w) (ht : Tab w) (k port k' port' : Int) (s s' : ByteArray) (hq : IntS w q xs) (hq' : IntS w q' ys) (hs : s.size ≤ 2000000) (hs' : s'.size ≤ 2000000) (hok : Hid (parOk ⟨⟨k, xs, tx s, port⟩, ⟨k', ys, tx s', port'⟩⟩ = false)) :
    Calls Tryz.prog 10 #[.agg #[.int .i64 k, q, .string s, .int .i64 port, .int .i64 k', q', .string s', .int .i64 port']] w fun e w' => e = .returned (.string ⟨#[]⟩) ∧ Gr w w' := by
  have := implLineText_c hm ht k port k' port' s s' hq hq' hs hs'
  rw [hok.out, if_neg (by decide)] at this
  exact this
theorem S_notEmpty {t : Tx} (h : 1 ≤ t.length) : (S t).toList.isEmpty = false := by
  rw [emp_tx, tx_S]
  cases t with
  | nil => simp at h
  | cons x y => rfl
end Go.Proofs.YtfambpdhnicghaaGreatDoor
