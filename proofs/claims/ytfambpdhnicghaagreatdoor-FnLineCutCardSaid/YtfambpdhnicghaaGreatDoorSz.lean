/- laws.szIntS, szTag, szTagS: the size of an argument. -/
import Derived.Test.YtfambpdhnicghaaGreatDoorGH
namespace Go.Proofs.YtfambpdhnicghaaGreatDoor
open Go.RowKit
/-- What is left of a size. -/
def left (c : Int) (n : Nat) : Int := if c - n < 0 then -1 else c - n
theorem szIntS_c (w : World) (p : Option Addr) (n cap : Nat) (c : Int) (h0 : 0 ≤ c) (h1 : c ≤ 1048576) (hn : n ≤ 9223372036854775807) :
    Calls Tryz.prog 65 #[.slice p n cap, .int .i64 c] w fun e w' => e = .returned (.int .i64 (left c n)) ∧ w = w' := by
  unfold left
  by_cases h : c - (n : Int) < 0
  · rw [if_pos h]
    go_enter Tryz.func65, Tryz.ntmps65
    go_wp2
    go_ret
    exact ⟨rfl, rfl⟩
  · rw [if_neg h]
    go_enter Tryz.func65, Tryz.ntmps65
    go_wp2
    go_ret
    exact ⟨rfl, rfl⟩
def SzIs (c : Int) (ts : List Tag) (r : Int) : Prop := r = -1 ∨ (0 ≤ r ∧ r + cnt ts = c)
end Go.Proofs.YtfambpdhnicghaaGreatDoor
