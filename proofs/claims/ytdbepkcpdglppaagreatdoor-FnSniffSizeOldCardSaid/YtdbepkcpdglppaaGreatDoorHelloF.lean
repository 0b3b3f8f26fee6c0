/- Hellos out of bytes: the walks. -/
import Derived.Test.YtdbepkcpdglppaaGreatDoorGP
import Derived.Test.YtdbepkcpdglppaaGreatDoorGV
import Derived.Test.YtdbepkcpdglppaaGreatDoorGK
namespace Go.Proofs.YtdbepkcpdglppaaGreatDoor
open Go.RowKit
/-- What HelloFrom hands back. -/
def HelOut (xs : List Int) (w : World) (e : Ending) (w' : World) : Prop :=
  ∃ (p : Option Addr) (c : Nat) (ys : List Int) (n : Int) (ok : Bool), e = .returned (.tuple #[.slice p ys.length c, .int .i64 n, .bool ok]) ∧ ((∃ m : Nat, helloFrom xs = some (ys, m) ∧ n = (m : Int) ∧ ok = true) ∨ (helloFrom xs = none ∧ ys = [] ∧ n = 0 ∧ ok = false)) ∧ IntO w.heap.size 3 w' (.slice p ys.length c) ys ∧ Gr w w'
theorem HelOut.no {xs : List Int} {w w' : World} {p : Option Addr} {c : Nat} (hn : helloFrom xs = none) (ho : IntO w.heap.size 3 w' (.slice p 0 c) []) (hg : Gr w w') :
    HelOut xs w (.returned (.tuple #[.slice p 0 c, .int .i64 0, .bool false])) w' := ⟨p, c, [], 0, false, rfl, .inr ⟨hn, rfl, rfl, rfl⟩, ho, hg⟩
theorem HelOut.yes {xs ys : List Int} {m : Nat} {w w' : World} {p : Option Addr} {c : Nat} (hn : helloFrom xs = some (ys, m)) {n : Int} (hm : n = (m : Int)) (ho : IntO w.heap.size 3 w' (.slice p ys.length c) ys) (hg : Gr w w') :
    HelOut xs w (.returned (.tuple #[.slice p ys.length c, .int .i64 n, .bool true])) w' := ⟨p, c, ys, n, true, rfl, .inl ⟨m, hn, hm, rfl⟩, ho, hg⟩
theorem RdrAt.byteR {w : World} {g : Nat} {s : Rs} (h : RdrAt w g s) : 0 ≤ s.byte.1 ∧ s.byte.1 ≤ 255 := by
  have hb := Rs.take_bytes h.1 1
  have hl : (s.take 1).1.length = 1 := Rs.take_len 1
  exact bytes_nth hb (k := 0) (by omega)
set_option maxHeartbeats 2000000 in
theorem implHelloFrom_c {w : World} {v : Value} {xs : List Int} (h : IntS w v xs) (hlen : xs.length ≤ 1048576) :
    Calls Tryz.prog 40 #[v] w (HelOut xs w) := by
  obtain ⟨p, cap, rfl, hl1, hl2⟩ := h.form
  have HP := Lib.hid (helloFrom_prog xs)
  have E1 : Hid ((heS1 xs).byte = (heC xs, heS2 xs)) := rfl
  have E2 : Hid ((heS2 xs).take (heC xs).toNat = (heM xs, heS3 xs)) := rfl
  go_enter Tryz.func40, Tryz.ntmps40
  go_wp2_with fail
  (with_reducible refine (newReader_c h (by omega)).mono ?_); rintro e w1 ⟨g, rfl, hge, hr1, gr1⟩
  have hlt1 := hr1.lt
  go_wp2_with fail
  (with_reducible refine (expect_c (hr1.kept (gr_alloc _ _)) (IntO.one _) hlt1 (by decide)).mono ?_); rintro e w2 ⟨rfl, hr2, hd2⟩
  replace hr2 : RdrAt w2 g (heS1 xs) := hr2
  have hG2 : Gr w w2 := hd2.gr (gr1.alloc _) hge
  have hlt2 := hr2.lt
  have hcr : 0 ≤ heC xs ∧ heC xs ≤ 255 := hr2.byteR
  go_wp2_with fail
  (with_reducible refine (byteE hr2 E1).mono ?_); rintro e w3 ⟨rfl, hr3, hd3⟩
  have hG3 : Gr w w3 := hd3.gr hG2 hge
  have hlt3 := hr3.lt
  obtain ⟨c, hc⟩ := Int.eq_ofNat_of_zero_le hcr.1
  have hc2 : c ≤ 255 := by omega
  have E3 : Hid ((heS2 xs).take c = (heM xs, heS3 xs)) := Lib.hid (by rw [← E2.out, hc]; rfl)
  have T := takeN hr3 E3 (heC xs) hc (by omega)
  clear hc hcr E2 E1 hr1 hr2 hd2 hd3 gr1
  generalize heC xs = ci at *
  go_wp2_with fail
  (with_reducible refine T.mono ?_); rintro e w4 ⟨q, cq, rfl, o4, hr4, hd4⟩
  clear T
  have hG4 : Gr w w4 := hd4.gr hG3 hge
  have k1 := hr4.c1
  have k2 := hr4.c2
  have hz3 := hG3.sz
  have o4' : IntO w.heap.size 3 w4 (.slice q (heM xs).length cq) (heM xs) := o4.mono hz3
  clear hr4 hd4 hr3 E3 o4
  cases hbad : (heS3 xs).bad
  rotate_left
  · have HN : Hid (helloFrom xs = none) := Lib.hid (by rw [HP.out, if_neg (by rintro ⟨h1, _⟩; rw [hbad] at h1; cases h1)])
    rw [hbad] at k2
    clear hbad HP
    generalize heM xs = ys at *
    go_wp2
    go_ret3
    exact HelOut.no HN.out (IntO.nil _ _ _) hG4
  cases hm : methOk (heM xs)
  · have HN : Hid (helloFrom xs = none) := Lib.hid (by rw [HP.out, if_neg (by rintro ⟨_, h1⟩; rw [hm] at h1; cases h1)])
    have HMO := Lib.hid hm
    rw [hbad] at k2
    clear hbad HP hm
    generalize heM xs = ys at *
    go_wp2_with fail
    (with_reducible refine (areMethods_c o4'.s).mono ?_); rintro e w5 ⟨rfl, rfl⟩
    rw [HMO.out]
    go_wp2
    go_ret3
    exact HelOut.no HN.out (IntO.nil _ _ _) hG4
  · have HS : Hid (helloFrom xs = some (heM xs, (heS3 xs).pos)) := Lib.hid (by rw [HP.out, if_pos ⟨hbad, hm⟩])
    have HMO := Lib.hid hm
    rw [hbad] at k2
    clear hbad HP hm
    generalize heM xs = ys at *
    generalize (heS3 xs).pos = m at *
    go_wp2_with fail
    (with_reducible refine (areMethods_c o4'.s).mono ?_); rintro e w5 ⟨rfl, rfl⟩
    rw [HMO.out]
    go_wp2_with fail
    go_quiet (fail)
    go_wp2
    go_ret3
    exact HelOut.yes HS.out rfl (IntO.kept o4' ((Gr.refl _).drewN _)) (hG4.drewN _)
end Go.Proofs.YtdbepkcpdglppaaGreatDoor
