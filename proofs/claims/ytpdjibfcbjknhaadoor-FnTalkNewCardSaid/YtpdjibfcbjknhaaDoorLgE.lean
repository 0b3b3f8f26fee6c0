/- Methods picked, logins that fit, and what is said to them: both ways. -/
import Derived.Test.YtpdjibfcbjknhaaDoorGV
import Derived.Test.YtpdjibfcbjknhaaDoorGW
import Derived.Laws.StructEq
import Derived.Deep.RegionHeld3
namespace Go.Proofs.YtpdjibfcbjknhaaDoor
open Go.RowKit
theorem ret_i {a b : Int} (h : a = b) : Ending.returned (.int .i64 a) = .returned (.int .i64 b) := by rw [h]
theorem pick_bad {ws ms : List Int} (h : methOk ws = false ∨ methOk ms = false) : helloPick ws ms = 255 := by
  unfold helloPick
  rw [if_neg (by rintro ⟨h1, h2⟩; rcases h with h | h <;> simp_all)]
theorem pick_hit {ws ms : List Int} {k : Nat} (h1 : methOk ws = true) (h2 : methOk ms = true) (hk : k < ws.length) (hall : ∀ j, j < k → hasI ms (nth ws j) = false) (hh : hasI ms (nth ws k) = true) : helloPick ws ms = nth ws k := by
  have e : ws.find? (fun m => hasI ms m) = some (nth ws k) := by
    rw [List.find?_eq_some_iff_append]
    refine ⟨hh, ws.take k, ws.drop (k+1), ?_, fun a ha => ?_⟩
    · rw [nth_eq hk, ← List.drop_eq_getElem_cons hk, List.take_append_drop]
    · obtain ⟨j, hj, rfl⟩ := List.getElem_of_mem ha
      rw [List.length_take] at hj
      have := hall j (by omega)
      rw [nth_eq (by omega)] at this
      rw [List.getElem_take, this]; rfl
  unfold helloPick
  rw [if_pos ⟨h1, h2⟩, e]
theorem pick_miss {ws ms : List Int} (hall : ∀ j, j < ws.length → hasI ms (nth ws j) = false) : helloPick ws ms = 255 := by
  have e : ws.find? (fun m => hasI ms m) = none := by
    rw [List.find?_eq_none]
    intro a ha
    obtain ⟨j, hj, rfl⟩ := List.getElem_of_mem ha
    have := hall j hj
    rw [nth_eq hj] at this
    simp [this]
  unfold helloPick
  rw [e]
  split <;> rfl
theorem tlS (a : Tx) (u : ByteArray) : ((S a).toList == u.toList) = (a == tx u) := by
  rw [ByteArray.toList_eq, ByteArray.toList_eq]; rfl
theorem tlS' (a : Tx) (u : ByteArray) : (u.toList == (S a).toList) = (a == tx u) := by
  rw [← tlS, Bool.eq_iff_iff, beq_iff_eq, beq_iff_eq]
  exact eq_comm
theorem lg_eq (l : Lg) (x : Lg) : (l == x) = ((l.1 == x.1) && (l.2 == x.2)) := rfl
end Go.Proofs.YtpdjibfcbjknhaaDoor
