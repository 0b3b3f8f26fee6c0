/- Heads out of bytes: the program's walk. -/
import Derived.Test.YtpdjibfcbjknhaaGreatDoorGJ
import Derived.Test.YtpdjibfcbjknhaaGreatDoorGH
import Derived.Deep.RegionWith
import Derived.Deep.DeepCutAuto
namespace Go.Proofs.YtpdjibfcbjknhaaGreatDoor
open Go.RowKit
theorem RdrAt.fail {w : World} {g : Nat} {s : Rs} (h : RdrAt w g s) : RdrAt (w.setCell ⟨g, 2, none⟩ (.bool true)) g { s with bad := true } ∧ D g w (w.setCell ⟨g, 2, none⟩ (.bool true)) := by
  have hd : D g w (w.setCell ⟨g, 2, none⟩ (.bool true)) := D.set (D.refl g w) 2 _
  obtain ⟨⟨k1, k2, k3⟩, w0, v, h1, h2, h3, h4⟩ := h
  exact ⟨⟨⟨k1, k2, by simp⟩, w0, v, hd.gr h1 h2, h2, h3, heap_set h4⟩, hd⟩
theorem RdrAt.f2 {w : World} {g : Nat} {s : Rs} (h : RdrAt w g s) : w.frozen? ⟨g, 2, none⟩ = false := by
  obtain ⟨_, _, _, _, _, _, h6⟩ := h
  exact blk_frozen h6 2
theorem RdrAt.c0 {w : World} {g : Nat} {s : Rs} (h : RdrAt w g s) : ∃ p cap, w.cell? ⟨g, 0, none⟩ = some (.slice p s.xs.length cap) ∧ IntS w (.slice p s.xs.length cap) s.xs := by
  obtain ⟨_, w0, v, h1, _, h3, h6⟩ := h
  obtain ⟨p, cap, rfl, _, _⟩ := h3.form
  exact ⟨p, cap, blk_cell h6 (j := 0) rfl, h3.kept h1⟩
set_option maxHeartbeats 1000000 in
theorem expect_c {w : World} {g B : Nat} {s : Rs} {v : Value} {ys : List Int} (h : RdrAt w g s) (ho : IntO B 3 w v ys) (hB : g < B) (hl : ys.length ≤ 1000) :
    Calls Tryz.prog 81 #[.pointer (some ⟨g, 0, none⟩), v] w fun e w' => e = .returned (.tuple #[]) ∧ RdrAt w' g (s.expect ys) ∧ D g w w' := by
  obtain ⟨p, cap, rfl⟩ := ho.len
  have HE : Hid (s.expect ys = if (s.take ys.length).1 == ys then (s.take ys.length).2 else { (s.take ys.length).2 with bad := true }) := rfl
  generalize s.expect ys = r at *
  go_enter Tryz.func81, Tryz.ntmps81
  go_wp2_with fail
  (with_reducible refine (take_c h ys.length (ys.length : Int) rfl (by omega)).mono ?_); rintro e w1 ⟨v1, rfl, ho1, hr1, hd1⟩
  generalize (s.take ys.length).1 = zs at *
  generalize (s.take ys.length).2 = s1 at *
  have ho2 := ho.keptD hd1 hB
  cases hq : (zs == ys)
  · have HQ := Lib.hid hq
    clear hq
    go_wp2_with fail
    (with_reducible refine (Equal_c ho1.s ho2.s).mono ?_); rintro e w2 ⟨rfl, g2⟩
    rw [HQ.out]
    have hr2 := hr1.kept g2
    have c2 := hr2.c2
    have f2 := hr2.f2
    have hf := hr2.fail
    go_wp2
    go_end0
    exact ⟨rfl, by rw [HE.out, HQ.out]; exact hf.1, (hd1.trans (D.ofGr g2)).trans hf.2⟩
  · have HQ := Lib.hid hq
    clear hq
    go_wp2_with fail
    (with_reducible refine (Equal_c ho1.s ho2.s).mono ?_); rintro e w2 ⟨rfl, g2⟩
    rw [HQ.out]
    go_wp2
    go_end0
    exact ⟨rfl, by rw [HE.out, HQ.out]; exact hr1.kept g2, hd1.trans (D.ofGr g2)⟩
theorem takeN {w : World} {g : Nat} {s s1 : Rs} {L : Nat} {ys : List Int} (h : RdrAt w g s) (he : Hid (s.take L = (ys, s1))) (ni : Int) (hni : ni = (L : Int)) (hL : L ≤ 65535) :
    Calls Tryz.prog 82 #[.pointer (some ⟨g, 0, none⟩), .int .i64 ni] w fun e w' => ∃ p c, e = .returned (.slice p ys.length c) ∧ IntO w.heap.size 3 w' (.slice p ys.length c) ys ∧ RdrAt w' g s1 ∧ D g w w' := by
  subst hni; exact takeE h he hL
def parZ : Par := ⟨⟨0, [], [], 0⟩, ⟨0, [], [], 0⟩⟩
/-- What is handed back. -/
def HeadIs (xs : List Int) (p : Par) (ts : List Tag) (n : Nat) (ok : Bool) : Prop :=
  (headFrom xs = some (p, ts, n) ∧ ok = true) ∨ (headFrom xs = none ∧ p = parZ ∧ ts = [] ∧ n = 0 ∧ ok = false)
theorem HeadIs.no {xs : List Int} (h : headFrom xs = none) : HeadIs xs parZ [] 0 false := .inr ⟨h, rfl, rfl, rfl, rfl⟩
theorem IntB.nil (B T e : Nat) (w : World) : IntB B T e w (.slice none 0 0) [] := ⟨World.ownsRow_nil w B e 1, by simp [Value.ownBlock]⟩
theorem hS1_ok (xs : List Int) (h : xs.length ≤ 1048576) : (hS1 xs).ok := Rs.expect_ok ⟨Nat.zero_le _, by simp only []; omega, fun hh => bv_bytes (by simpa using hh)⟩ _
theorem hL_eq (xs : List Int) (h : xs.length ≤ 1048576) : (hS1 xs).number 2 = ((hL xs : Int), hS2 xs) ∧ hL xs ≤ 65535 := by
  have hb := numOf_small2 (Rs.take_bytes (hS1_ok xs h) 2) (by rw [Rs.take_len]; omega)
  have e : ((hS1 xs).number 2).1 = (hL xs : Int) := by unfold hL Rs.number; simp only []; omega
  refine ⟨by rw [← e]; rfl, ?_⟩
  have : (hL xs : Int) ≤ 65535 := by rw [← e]; exact hb.2
  omega
theorem hY_len (xs : List Int) : (hY xs).length = hL xs := Rs.take_len _
end Go.Proofs.YtpdjibfcbjknhaaGreatDoor
