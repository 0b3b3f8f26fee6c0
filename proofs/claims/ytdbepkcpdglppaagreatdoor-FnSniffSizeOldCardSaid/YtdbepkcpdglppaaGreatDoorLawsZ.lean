/- The walks of laws.FnSniffSize, FnFeedTake, FnFeedTakeAgain, FnFeedTakePart. -/
import Derived.Test.YtdbepkcpdglppaaGreatDoorFeedT
import Derived.Test.YtdbepkcpdglppaaGreatDoorDrawZ
namespace Go.Proofs.YtdbepkcpdglppaaGreatDoor
open Go.RowKit
theorem implSize_n {w : World} {v : Value} {xs : List Int} (hm : ML w) (he : ErrV w) (ht : Tab w) (h : IntS w v xs) (hlen : xs.length ≤ 1048576) (hz : Hid (sniffSize xs = none)) :
    Calls Tryz.prog 14 #[v] w fun e w' => e = .returned (.tuple #[.int .i64 0, .bool false]) ∧ Gr w w' := by
  have := implSniffSize_c hm he ht h hlen
  rw [hz.out] at this
  exact this
theorem implSize_s {w : World} {v : Value} {xs : List Int} {n : Nat} (hm : ML w) (he : ErrV w) (ht : Tab w) (h : IntS w v xs) (hlen : xs.length ≤ 1048576) (hz : Hid (sniffSize xs = some n)) :
    Calls Tryz.prog 14 #[v] w fun e w' => e = .returned (.tuple #[.int .i64 (n : Int), .bool true]) ∧ Gr w w' := by
  have := implSniffSize_c hm he ht h hlen
  rw [hz.out] at this
  exact this
/-- A frame taken, and what is behind it, by letters. -/
def TkP (us vs : List Int) (ok : Bool) (w : World) (e : Ending) (w' : World) : Prop :=
  ∃ (p : Option Addr) (c : Nat) (q : Option Addr) (d : Nat), e = .returned (.tuple #[.slice p us.length c, .slice q vs.length d, .bool ok]) ∧ IntS w' (.slice p us.length c) us ∧ IntS w' (.slice q vs.length d) vs ∧ Gr w w'
theorem TkP.ofI {us vs : List Int} {ok : Bool} {w w' : World} {e : Ending} (h : FtI us vs ok w e w') : TkP us vs ok w e w' := by
  obtain ⟨p, c, q, d, _, _, _, _, rfl, h1, h2, _, _, _, _, _, g⟩ := h
  exact ⟨p, c, q, d, rfl, h1.s, h2.s, g⟩
theorem TkP.ofS {us vs : List Int} {ok : Bool} {w w' : World} {e : Ending} (h : FtS us vs ok w e w') : TkP us vs ok w e w' := by
  obtain ⟨p, c, q, d, rfl, h1, h2, g⟩ := h
  exact ⟨p, c, q, d, rfl, h1.s, h2.s, g⟩
theorem take_n {xs : List Int} (h : sniffSize xs = none) : Hid (fsA xs = [] ∧ fsB xs = [] ∧ (sniffSize xs).isSome = false) := Lib.hid ⟨(fsA_none h).1, (fsA_none h).2, by rw [h]; rfl⟩
theorem take_s {xs us vs : List Int} {n : Nat} (h : sniffSize xs = some n) (h1 : xs.take n = us) (h2 : xs.drop n = vs) : Hid (fsA xs = us ∧ fsB xs = vs ∧ (sniffSize xs).isSome = true) := Lib.hid ⟨by rw [(fsA_some h).1, h1], by rw [(fsA_some h).2, h2], by rw [h]; rfl⟩
theorem implKind {w : World} {v : Value} {xs : List Int} {k : Int} (h : IntS w v xs) (hk : Hid (sniffKind xs = k)) : Calls Tryz.prog 15 #[v] w fun e w' => e = .returned (.int .i64 k) ∧ Gr w w' := by
  have := implSniffKind_c h; rwa [hk.out] at this
end Go.Proofs.YtdbepkcpdglppaaGreatDoor
