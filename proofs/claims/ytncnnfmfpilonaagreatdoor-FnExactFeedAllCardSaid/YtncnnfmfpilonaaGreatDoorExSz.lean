/- The walks of laws.FnExactSniffSize and laws.FnExactFeedTake. -/
import Derived.Test.YtncnnfmfpilonaaGreatDoorLawsZ
import Derived.Test.YtncnnfmfpilonaaGreatDoorGH
namespace Go.Proofs.YtncnnfmfpilonaaGreatDoor
open Go.RowKit
set_option maxHeartbeats 2000000 in
theorem FnExactSniffSize_w {w : World} {v : Value} {xs : List Int} (hm : ML w) (he : ErrV w) (ht : Tab w) (h : IntS w v xs) :
    Calls Tryz.prog 5 #[v] w fun e w' => e = .returned (.bool true) ∧ Gr w w' := by
  obtain ⟨p, cap, rfl, _, _⟩ := h.form
  by_cases hx : xs.length ≤ 1048576
  rotate_left
  · have hx' : ¬ ((xs.length : Int) ≤ 1048576) := by omega
    go_enter Tryz.func5, Tryz.ntmps5
    go_wp2_with fail
    go_ret
    exact ⟨rfl, Gr.refl _⟩
  have hx' : ((xs.length : Int) ≤ 1048576) := by omega
  have hl8 : xs.length ≤ 1000000000000 := by omega
  cases hz : sniffSize xs with
  | none =>
    have HZ := Lib.hid hz
    clear hz
    go_enter Tryz.func5, Tryz.ntmps5
    go_wp2_with fail
    (with_reducible refine (toIntS_c h hl8).mono ?_); rintro e w1 ⟨v1, rfl, o1, g1⟩
    go_wp2_with fail
    (with_reducible refine (specSize_n o1.s hx HZ).mono ?_); rintro e w2 ⟨rfl, g2⟩
    have G2 := g1.trans g2
    go_wp2_with fail
    (with_reducible refine (toIntS_c (h.kept G2) hl8).mono ?_); rintro e w3 ⟨v3, rfl, o3, g3⟩
    have G3 := G2.trans g3
    go_wp2_with fail
    (with_reducible refine (implSize_n (hm.kept G3) (he.kept G3) (ht.kept G3) o3.s hx HZ).mono ?_); rintro e w4 ⟨rfl, g4⟩
    have G4 := G3.trans g4
    go_wp2_with fail
    (with_reducible refine (toIntS_c (h.kept G4) hl8).mono ?_); rintro e w5 ⟨v5, rfl, o5, g5⟩
    go_wp2_with fail
    (with_reducible refine (eqI_same (o3.s.kept (g4.trans g5)) o5.s).mono ?_); rintro e w6 ⟨rfl, g6⟩
    go_wp2
    go_ret
    exact ⟨rfl, (G4.trans g5).trans g6⟩
  | some n =>
    have HZ := Lib.hid hz
    clear hz
    go_enter Tryz.func5, Tryz.ntmps5
    go_wp2_with fail
    (with_reducible refine (toIntS_c h hl8).mono ?_); rintro e w1 ⟨v1, rfl, o1, g1⟩
    go_wp2_with fail
    (with_reducible refine (specSize_s o1.s hx HZ).mono ?_); rintro e w2 ⟨rfl, g2⟩
    have G2 := g1.trans g2
    go_wp2_with fail
    (with_reducible refine (toIntS_c (h.kept G2) hl8).mono ?_); rintro e w3 ⟨v3, rfl, o3, g3⟩
    have G3 := G2.trans g3
    go_wp2_with fail
    (with_reducible refine (implSize_s (hm.kept G3) (he.kept G3) (ht.kept G3) o3.s hx HZ).mono ?_); rintro e w4 ⟨rfl, g4⟩
    have G4 := G3.trans g4
    go_wp2_with fail
    (with_reducible refine (toIntS_c (h.kept G4) hl8).mono ?_); rintro e w5 ⟨v5, rfl, o5, g5⟩
    go_wp2_with fail
    (with_reducible refine (eqI_same (o3.s.kept (g4.trans g5)) o5.s).mono ?_); rintro e w6 ⟨rfl, g6⟩
    go_wp2
    go_ret
    exact ⟨rfl, (G4.trans g5).trans g6⟩
/-- Marks do not reach what lies elsewhere. -/
theorem FtI.lens {us vs : List Int} {ok : Bool} {xs : List Int} (h : Hid (fsA xs = us ∧ fsB xs = vs ∧ (sniffSize xs).isSome = ok)) : us.length ≤ xs.length ∧ vs.length ≤ xs.length := by
  obtain ⟨h1, h2, _⟩ := h.out
  rw [← h1, ← h2]
  unfold fsA fsB
  split
  · rw [List.length_take, List.length_drop]; omega
  · simp
set_option maxHeartbeats 4000000 in
theorem FnExactFeedTake_w {w : World} {v : Value} {xs : List Int} (hm : ML w) (he : ErrV w) (ht : Tab w) (h : IntS w v xs) :
    Calls Tryz.prog 6 #[v] w fun e w' => e = .returned (.bool true) ∧ Gr w w' := by
  obtain ⟨p, cap, rfl, _, _⟩ := h.form
  by_cases hx : xs.length ≤ 1048576
  rotate_left
  · have hx' : ¬ ((xs.length : Int) ≤ 1048576) := by omega
    go_enter Tryz.func6, Tryz.ntmps6
    go_wp2_with fail
    go_ret
    exact ⟨rfl, Gr.refl _⟩
  have hx' : ((xs.length : Int) ≤ 1048576) := by omega
  have hl8 : xs.length ≤ 1000000000000 := by omega
  obtain ⟨us, vs, ok, hA⟩ : ∃ us vs ok, fsA xs = us ∧ fsB xs = vs ∧ (sniffSize xs).isSome = ok := ⟨_, _, _, rfl, rfl, rfl⟩
  have HA := Lib.hid hA
  obtain ⟨lu, lv⟩ := FtI.lens HA
  have lu8 : us.length ≤ 1000000000000 := by omega
  have lv8 : vs.length ≤ 1000000000000 := by omega
  clear hA
  go_enter Tryz.func6, Tryz.ntmps6
  go_wp2_with fail
  (with_reducible refine (toIntS_c h hl8).mono ?_); rintro e w1 ⟨v1, rfl, o1, g1⟩
  go_wp2_with fail
  (with_reducible refine (specFeedTake_c o1.s hx HA).mono ?_); rintro e w2 ⟨p2, c2, q2, d2, rfl, a2, b2, g2⟩
  have G2 := g1.trans g2
  have sA := a2.b
  have sB := b2.b
  clear a2 b2 o1
  go_wp2_with fail
  (with_reducible refine (toIntS_c (h.kept G2) hl8).mono ?_); rintro e w3 ⟨v3, rfl, o3, g3⟩
  have x3 := o3.b
  have G3 := G2.trans g3
  go_wp2_with fail
  (with_reducible refine (implFeedTake_c (hm.kept G3) (he.kept G3) (ht.kept G3) o3.s hx HA).mono ?_); rintro e w4 ⟨p4, c4, q4, d4, B1, T1, B2, T2, rfl, iA, iB, hB1, hB2, hTB, hT1, hT2, g4⟩
  have G4 := G3.trans g4
  have z1 := g1.sz; have z2 := g2.sz; have z3 := g3.sz; have z4 := g4.sz
  have zw := G2.sz
  replace sA := (sA.kept g3).kept g4; replace sB := (sB.kept g3).kept g4; replace x3 := x3.kept g4
  clear g1 g2 g3 g4 G2 G3 o3
  go_wp2_with fail
  (with_reducible refine (eqI_same iA.s sA.s).mono ?_); rintro e w5 ⟨rfl, g5⟩
  go_wp2_with fail
  (with_reducible refine (eqI_same (iB.kept g5).s (sB.kept g5).s).mono ?_); rintro e w6 ⟨rfl, g6⟩
  have g56 := g5.trans g6
  have G6 := G4.trans g56
  go_wp2_with fail
  (with_reducible refine (toIntS_c (h.kept G6) hl8).mono ?_); rintro e w7 ⟨v7, rfl, o7, g7⟩
  go_wp2_with fail
  (with_reducible refine (eqI_same (x3.kept (g56.trans g7)).s o7.s).mono ?_); rintro e w8 ⟨rfl, g8⟩
  have g58 := (g56.trans g7).trans g8
  have G8 := G4.trans g58
  replace iA := iA.kept g58; replace iB := iB.kept g58; replace sA := sA.kept g58; replace sB := sB.kept g58; replace x3 := x3.kept g58
  clear g5 g6 g56 G6 g7 g8 g58 G4 o7
  go_wp2_with fail
  (with_reducible refine (markIntS_c x3 1 (by decide) (by decide) hl8).mono ?_); rintro e w9 ⟨rfl, x9, f9⟩
  replace iA := iA.chg f9 (by omega); replace iB := iB.chg f9 (by omega); replace sA := sA.chg f9 (by omega); replace sB := sB.chg f9 (by omega)
  have G9 := f9.gr G8 (by omega)
  clear x3 x9 f9 G8
  go_wp2_with fail
  (with_reducible refine (eqI_same iA.s sA.s).mono ?_); rintro e w10 ⟨rfl, g10⟩
  go_wp2_with fail
  (with_reducible refine (eqI_same (iB.kept g10).s (sB.kept g10).s).mono ?_); rintro e w11 ⟨rfl, g11⟩
  have g1011 := g10.trans g11
  have G11 := G9.trans g1011
  replace iA := iA.kept g1011; replace iB := iB.kept g1011; replace sA := sA.kept g1011; replace sB := sB.kept g1011
  clear g10 g11 g1011 G9
  go_wp2_with fail
  (with_reducible refine (markIntS_c iA 1 (by decide) (by decide) lu8).mono ?_); rintro e w12 ⟨rfl, jA, f12⟩
  replace iB := iB.chg f12 (by omega); replace sA := sA.chg f12 (by omega); replace sB := sB.chg f12 (by omega)
  have G12 := f12.gr G11 (by omega)
  clear iA f12 G11
  go_wp2_with fail
  (with_reducible refine (markIntS_c iB _ (by omega) (by omega) lv8).mono ?_); rintro e w13 ⟨rfl, jB, f13⟩
  replace jA := jA.chg f13 (by omega); replace sA := sA.chg f13 (by omega); replace sB := sB.chg f13 (by omega)
  have G13 := f13.gr G12 (by omega)
  clear iB f13 G12
  go_wp2_with fail
  (with_reducible refine (heldIntS_c 1 us.length jA.s (by decide) (by decide) lu8).mono ?_); rintro e w14 ⟨rfl, rfl⟩
  go_wp2_with fail
  (with_reducible refine (heldIntS_c _ vs.length jB.s (by omega) (by omega) lv8).mono ?_); rintro e w15 ⟨rfl, rfl⟩
  go_wp2_with fail
  (with_reducible refine (toIntS_c (h.kept G13) hl8).mono ?_); rintro e w16 ⟨v16, rfl, o16, g16⟩
  have G16 := G13.trans g16
  go_wp2_with fail
  (with_reducible refine (implFeedTake_c (hm.kept G16) (he.kept G16) (ht.kept G16) o16.s hx HA).mono ?_); rintro e w17 ⟨p17, c17, q17, d17, _, _, _, _, rfl, kA, kB, _, _, _, _, _, g17⟩
  have g1617 := g16.trans g17
  go_wp2_with fail
  (with_reducible refine (eqI_same kA.s (sA.kept g1617).s).mono ?_); rintro e w18 ⟨rfl, g18⟩
  go_wp2_with fail
  (with_reducible refine (eqI_same (kB.kept g18).s (sB.kept (g1617.trans g18)).s).mono ?_); rintro e w19 ⟨rfl, g19⟩
  have g1619 := (g1617.trans g18).trans g19
  go_wp2_with fail
  (with_reducible refine (heldIntS_c 1 us.length (jA.kept g1619).s (by decide) (by decide) lu8).mono ?_); rintro e w20 ⟨rfl, rfl⟩
  go_wp2_with fail
  (with_reducible refine (heldIntS_c _ vs.length (jB.kept g1619).s (by omega) (by omega) lv8).mono ?_); rintro e w21 ⟨rfl, rfl⟩
  go_wp2
  go_ret
  exact ⟨rfl, G13.trans g1619⟩
end Go.Proofs.YtncnnfmfpilonaaGreatDoor
