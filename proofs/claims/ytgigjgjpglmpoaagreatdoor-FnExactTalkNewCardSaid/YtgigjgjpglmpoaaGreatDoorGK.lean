/- Heads out of bytes: the program's walk. -/
import Derived.Test.YtgigjgjpglmpoaaGreatDoorGJ
import Derived.Test.YtgigjgjpglmpoaaGreatDoorGH
import Derived.Deep.RegionWith
import Derived.Deep.DeepCutAuto
namespace Go.Proofs.YtgigjgjpglmpoaaGreatDoor
open Go.RowKit
def parZ : Par := ⟨⟨0, [], [], 0⟩, ⟨0, [], [], 0⟩⟩
/-- What is handed back. -/
def HeadIs (xs : List Int) (p : Par) (ts : List Tag) (n : Nat) (ok : Bool) : Prop :=
  (headFrom xs = some (p, ts, n) ∧ ok = true) ∨ (headFrom xs = none ∧ p = parZ ∧ ts = [] ∧ n = 0 ∧ ok = false)
theorem HeadIs.no {xs : List Int} (h : headFrom xs = none) : HeadIs xs parZ [] 0 false := .inr ⟨h, rfl, rfl, rfl, rfl⟩
theorem IntB.nil (B T e : Nat) (w : World) : IntB B T e w (.slice none 0 0) [] := ⟨World.ownsRow_nil w B e 1, by simp [Value.ownBlock]⟩
theorem hS1_ok (xs : List Int) (h : xs.length ≤ 1048576) : (hS1 xs).ok := Rs.expect_ok ⟨Nat.zero_le _, by simp only []; omega, fun hh => bv_bytes (by simpa using hh)⟩ _
theorem hL_eq (xs : List Int) (h : xs.length ≤ 1048576) : (hS1 xs).number 2 = ((hL xs : Int), hS2 xs) ∧ hL xs ≤ 65535 := by
  have hb := numOf_small2 (Rs.take_bytes (hS1_ok xs h) 2) (by rw [Rs.take_len]; omega)
  have e : ((hS1 xs).number 2).1 = (hL xs : Int) := by unfold hL Rs.number; simp only []; omega
  refine ⟨by rw [← e]; rfl, ?_⟩
  have : (hL xs : Int) ≤ 65535 := by rw [← e]; exact hb.2
  omega
theorem hY_len (xs : List Int) : (hY xs).length = hL xs := Rs.take_len _
end Go.Proofs.YtgigjgjpglmpoaaGreatDoor
