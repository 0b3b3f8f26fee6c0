/- Hellos out of bytes: the walks. -/
import Derived.Test.YtpdjibfcbjknhaaGreatDoorGP
import Derived.Test.YtpdjibfcbjknhaaGreatDoorGV
import Derived.Test.YtpdjibfcbjknhaaGreatDoorGK
namespace Go.Proofs.YtpdjibfcbjknhaaGreatDoor
open Go.RowKit
/-- What HelloFrom hands back. -/
def HelOut (xs : List Int) (w : World) (e : Ending) (w' : World) : Prop :=
  ∃ (p : Option Addr) (c : Nat) (ys : List Int) (n : Int) (ok : Bool), e = .returned (.tuple #[.slice p ys.length c, .int .i64 n, .bool ok]) ∧ ((∃ m : Nat, helloFrom xs = some (ys, m) ∧ n = (m : Int) ∧ ok = true) ∨ (helloFrom xs = none ∧ ys = [] ∧ n = 0 ∧ ok = false)) ∧ IntO w.heap.size 3 w' (.slice p ys.length c) ys ∧ Gr w w'
theorem HelOut.no {xs : List Int} {w w' : World} {p : Option Addr} {c : Nat} (hn : helloFrom xs = none) (ho : IntO w.heap.size 3 w' (.slice p 0 c) []) (hg : Gr w w') :
    HelOut xs w (.returned (.tuple #[.slice p 0 c, .int .i64 0, .bool false])) w' := ⟨p, c, [], 0, false, rfl, .inr ⟨hn, rfl, rfl, rfl⟩, ho, hg⟩
theorem HelOut.yes {xs ys : List Int} {m : Nat} {w w' : World} {p : Option Addr} {c : Nat} (hn : helloFrom xs = some (ys, m)) {n : Int} (hm : n = (m : Int)) (ho : IntO w.heap.size 3 w' (.slice p ys.length c) ys) (hg : Gr w w') :
    HelOut xs w (.returned (.tuple #[.slice p ys.length c, .int .i64 n, .bool true])) w' := ⟨p, c, ys, n, true, rfl, .inl ⟨m, hn, hm, rfl⟩, ho, hg⟩
set_option maxHeartbeats 2000000 in
theorem specHelloFrom_c {w : World} {v : Value} {xs : List Int} (h : IntS w v xs) (hlen : xs.length ≤ 1048576) :
    Calls Tryz.prog 112 #[v] w (HelOut xs w) := by
  obtain ⟨p, cap, rfl, hl1, hl2⟩ := h.form
  have g0 := Gr.refl w
  have HE : Hid (¬ (bv xs = true ∧ 3 ≤ xs.length ∧ nth xs 0 = 5 ∧ nth xs 1 ≤ (xs.length : Int) - 2 ∧ methOk ((xs.drop 2).take (nth xs 1).toNat) = true) → helloFrom xs = none) := Lib.hid fun hc => by unfold helloFrom; rw [if_neg hc]
  cases hb : bv xs
  · have HN : Hid (helloFrom xs = none) := Lib.hid (HE.out (by rintro ⟨h1, _⟩; rw [hb] at h1; cases h1))
    have HB := Lib.hid hb
    clear hb HE
    go_enter Tryz.func112, Tryz.ntmps112
    go_wp2_with fail
    (with_reducible refine (specBytesValid_c h).mono ?_); rintro e w1 ⟨rfl, rfl⟩
    rw [HB.out]
    go_wp2
    go_ret3
    exact HelOut.no HN.out (IntO.mono (IntO.mt _) (Gr.sz g0)) (Gr.alloc g0 _)
  have hby := bv_bytes hb
  have HB := Lib.hid hb
  by_cases h3 : xs.length < 3
  · have HN : Hid (helloFrom xs = none) := Lib.hid (HE.out (by rintro ⟨_, h1, _⟩; omega))
    have h3' : (xs.length : Int) < 3 := by omega
    clear hb HE hby
    go_enter Tryz.func112, Tryz.ntmps112
    go_wp2_with fail
    (with_reducible refine (specBytesValid_c h).mono ?_); rintro e w1 ⟨rfl, rfl⟩
    rw [HB.out]
    go_wp2
    go_ret3
    exact HelOut.no HN.out (IntO.mono (IntO.mt _) (Gr.sz g0)) (Gr.alloc g0 _)
  have h3' : ¬ (xs.length : Int) < 3 := by omega
  obtain ⟨a0, x0, d0⟩ := h.ixN rfl 0 0 rfl (by omega)
  obtain ⟨a1, x1, d1⟩ := h.ixN rfl 1 1 rfl (by omega)
  by_cases h5 : nth xs 0 = 5
  rotate_left
  · have HN : Hid (helloFrom xs = none) := Lib.hid (HE.out (by rintro ⟨_, _, h1, _⟩; exact h5 h1))
    have h5' : (nth xs 0 != 5) = true := by simpa using h5
    clear hb HE hby h5
    generalize nth xs 0 = y0 at *
    generalize nth xs 1 = y1 at *
    go_enter Tryz.func112, Tryz.ntmps112
    go_wp2_with fail
    (with_reducible refine (specBytesValid_c h).mono ?_); rintro e w1 ⟨rfl, rfl⟩
    rw [HB.out]
    go_wp2
    go_ret3
    exact HelOut.no HN.out (IntO.mono (IntO.mt _) (Gr.sz g0)) (Gr.alloc g0 _)
  have h5' : (nth xs 0 != 5) = false := by simpa using h5
  have b1 := bytes_nth hby (show 1 < xs.length by omega)
  by_cases h1 : nth xs 1 ≤ (xs.length : Int) - 2
  rotate_left
  · have HN : Hid (helloFrom xs = none) := Lib.hid (HE.out (by rintro ⟨_, _, _, h1', _⟩; exact h1 h1'))
    have h1' : (xs.length : Int) - 2 < nth xs 1 := by omega
    clear hb HE hby h5 h1
    generalize nth xs 0 = y0 at *
    generalize nth xs 1 = y1 at *
    go_enter Tryz.func112, Tryz.ntmps112
    go_wp2_with fail
    (with_reducible refine (specBytesValid_c h).mono ?_); rintro e w1 ⟨rfl, rfl⟩
    rw [HB.out]
    go_wp2
    go_ret3
    exact HelOut.no HN.out (IntO.mono (IntO.mt _) (Gr.sz g0)) (Gr.alloc g0 _)
  have h1' : ¬ ((xs.length : Int) - 2 < nth xs 1) := by omega
  obtain ⟨n, hn⟩ := Int.eq_ofNat_of_zero_le b1.1
  obtain ⟨v1, hsl, hr1⟩ := IntS.cutI h (lo := 2) (n := n) (by omega) (a := 2) (b := 2 + nth xs 1) rfl (by omega)
  have hyl : ((xs.drop 2).take n).length = n := by rw [List.length_take, List.length_drop]; omega
  have HY : Hid (methOk ((xs.drop 2).take n) = true → helloFrom xs = some ((xs.drop 2).take n, 2 + ((xs.drop 2).take n).length)) := Lib.hid fun hm => by
    unfold helloFrom
    have e : (nth xs 1).toNat = n := by omega
    rw [e, if_pos ⟨hb, by omega, h5, h1, hm⟩, hyl]
  have HM : Hid (methOk ((xs.drop 2).take n) = false → helloFrom xs = none) := Lib.hid fun hm => HE.out (by
    rintro ⟨_, _, _, _, h2⟩
    have e : (nth xs 1).toNat = n := by omega
    rw [e, hm] at h2; cases h2)
  have hyl' : ((xs.drop 2).take n).length ≤ 1048576 := by rw [hyl]; omega
  have q0 : (0 : Int) ≤ nth xs 1 := b1.1
  have q1 : nth xs 1 ≤ 255 := b1.2
  clear hb HE hby h5 h1 hn hyl b1
  generalize (xs.drop 2).take n = ys at *
  generalize nth xs 0 = y0 at *
  generalize nth xs 1 = y1 at *
  have hr1' := hr1.kept (gr_alloc w (.cells #[] 3))
  have hmt := IntO.mt w
  have d1' := (gr_alloc w (.cells #[] 3)).cell d1
  go_enter Tryz.func112, Tryz.ntmps112
  go_wp2_with fail
  (with_reducible refine (specBytesValid_c h).mono ?_); rintro e w1 ⟨rfl, rfl⟩
  rw [HB.out]
  go_wp2_with (at_builtin; refine wpl_appI rfl (.tmp 30) (.tmp 36) rfl rfl hmt rfl hr1' (by simp; omega) (by simp) ?_; intro v3 w3 o3 h3b)
  have o3' : IntO w.heap.size 3 w3 v3 ys := o3
  have g3 : Gr w w3 := (gr_alloc w _).thenB h3b
  clear o3 h3b hmt hr1 hr1' hsl
  obtain ⟨q, cq, rfl⟩ := o3'.len
  cases hm : methOk ys
  · have HN := Lib.hid (HM.out hm)
    have HMO := Lib.hid hm
    clear hm HM HY
    (with_reducible refine (l5Ok_c o3'.s).mono ?_); rintro e w4 ⟨rfl, g4⟩
    have g4' := g3.trans g4
    rw [HMO.out]
    go_wp2
    go_ret3
    exact HelOut.no HN.out (IntO.mono (IntO.mt _) (Gr.sz g4')) (Gr.alloc g4' _)
  · have HS := Lib.hid (HY.out hm)
    have HMO := Lib.hid hm
    clear hm HM HY
    (with_reducible refine (l5Ok_c o3'.s).mono ?_); rintro e w4 ⟨rfl, g4⟩
    have g4' := g3.trans g4
    rw [HMO.out]
    go_wp2
    go_ret3
    exact HelOut.yes HS.out (by omega) (IntO.kept o3' g4) g4'
theorem RdrAt.byteR {w : World} {g : Nat} {s : Rs} (h : RdrAt w g s) : 0 ≤ s.byte.1 ∧ s.byte.1 ≤ 255 := by
  have hb := Rs.take_bytes h.1 1
  have hl : (s.take 1).1.length = 1 := Rs.take_len 1
  exact bytes_nth hb (k := 0) (by omega)
set_option maxHeartbeats 2000000 in
theorem implHelloFrom_c {w : World} {v : Value} {xs : List Int} (h : IntS w v xs) (hlen : xs.length ≤ 1048576) :
    Calls Tryz.prog 39 #[v] w (HelOut xs w) := by
  obtain ⟨p, cap, rfl, hl1, hl2⟩ := h.form
  have HP := Lib.hid (helloFrom_prog xs)
  have E1 : Hid ((heS1 xs).byte = (heC xs, heS2 xs)) := rfl
  have E2 : Hid ((heS2 xs).take (heC xs).toNat = (heM xs, heS3 xs)) := rfl
  go_enter Tryz.func39, Tryz.ntmps39
  go_wp2_with fail
  (with_reducible refine (newReader_c h (by omega)).mono ?_); rintro e w1 ⟨g, rfl, hge, hr1, gr1⟩
  have hlt1 := hr1.lt
  go_wp2_with fail
  (with_reducible refine (expect_c (hr1.kept (gr_alloc _ _)) (IntO.one _) hlt1 (by decide)).mono ?_); rintro e w2 ⟨rfl, hr2, hd2⟩
  replace hr2 : RdrAt w2 g (heS1 xs) := hr2
  have hG2 : Gr w w2 := hd2.gr (gr1.alloc _) hge
  have hlt2 := hr2.lt
  have hcr : 0 ≤ heC xs ∧ heC xs ≤ 255 := hr2.byteR
  go_wp2_with fail
  (with_reducible refine (byteE hr2 E1).mono ?_); rintro e w3 ⟨rfl, hr3, hd3⟩
  have hG3 : Gr w w3 := hd3.gr hG2 hge
  have hlt3 := hr3.lt
  obtain ⟨c, hc⟩ := Int.eq_ofNat_of_zero_le hcr.1
  have hc2 : c ≤ 255 := by omega
  have E3 : Hid ((heS2 xs).take c = (heM xs, heS3 xs)) := Lib.hid (by rw [← E2.out, hc]; rfl)
  have T := takeN hr3 E3 (heC xs) hc (by omega)
  clear hc hcr E2 E1 hr1 hr2 hd2 hd3 gr1
  generalize heC xs = ci at *
  go_wp2_with fail
  (with_reducible refine T.mono ?_); rintro e w4 ⟨q, cq, rfl, o4, hr4, hd4⟩
  clear T
  have hG4 : Gr w w4 := hd4.gr hG3 hge
  have k1 := hr4.c1
  have k2 := hr4.c2
  have hz3 := hG3.sz
  have o4' : IntO w.heap.size 3 w4 (.slice q (heM xs).length cq) (heM xs) := o4.mono hz3
  clear hr4 hd4 hr3 E3 o4
  cases hbad : (heS3 xs).bad
  rotate_left
  · have HN : Hid (helloFrom xs = none) := Lib.hid (by rw [HP.out, if_neg (by rintro ⟨h1, _⟩; rw [hbad] at h1; cases h1)])
    rw [hbad] at k2
    clear hbad HP
    generalize heM xs = ys at *
    go_wp2
    go_ret3
    exact HelOut.no HN.out (IntO.nil _ _ _) hG4
  cases hm : methOk (heM xs)
  · have HN : Hid (helloFrom xs = none) := Lib.hid (by rw [HP.out, if_neg (by rintro ⟨_, h1⟩; rw [hm] at h1; cases h1)])
    have HMO := Lib.hid hm
    rw [hbad] at k2
    clear hbad HP hm
    generalize heM xs = ys at *
    go_wp2_with fail
    (with_reducible refine (areMethods_c o4'.s).mono ?_); rintro e w5 ⟨rfl, rfl⟩
    rw [HMO.out]
    go_wp2
    go_ret3
    exact HelOut.no HN.out (IntO.nil _ _ _) hG4
  · have HS : Hid (helloFrom xs = some (heM xs, (heS3 xs).pos)) := Lib.hid (by rw [HP.out, if_pos ⟨hbad, hm⟩])
    have HMO := Lib.hid hm
    rw [hbad] at k2
    clear hbad HP hm
    generalize heM xs = ys at *
    generalize (heS3 xs).pos = m at *
    go_wp2_with fail
    (with_reducible refine (areMethods_c o4'.s).mono ?_); rintro e w5 ⟨rfl, rfl⟩
    rw [HMO.out]
    go_wp2_with fail
    go_quiet (fail)
    go_wp2
    go_ret3
    exact HelOut.yes HS.out rfl (IntO.kept o4' ((Gr.refl _).drewN _)) (hG4.drewN _)
end Go.Proofs.YtpdjibfcbjknhaaGreatDoor
