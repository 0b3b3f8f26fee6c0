/- The walk of laws.FnExactFeedPut. -/
import Derived.Test.YtjfijmfmomeikaaFeed
namespace Go.Proofs.Ytjfijmfmomeikaa
open Go.RowKit
theorem eqI_same {w : World} {v u : Value} {xs : List Int} (h : IntS w v xs) (hu : IntS w u xs) :
    Calls Try.prog 13 #[v, u] w fun e w' => e = .returned (.bool true) ∧ Gr w w' := by
  refine (eqIntS_c h hu).mono ?_
  rintro e w' ⟨rfl, hg⟩
  exact ⟨by simp, hg⟩
theorem feedPut_len (xs ys : List Int) : (feedPut xs ys).1.length ≤ 120 := by
  unfold feedPut; split
  · rename_i h; simp only [bv, Bool.and_eq_true, decide_eq_true_eq] at h; exact h.2
  · simp
set_option maxHeartbeats 1000000 in
theorem FnExactFeedPut_w {w : World} {a b : Value} {xs ys : List Int} (ha : IntS w a xs) (hb : IntS w b ys) :
    Calls Try.prog 3 #[a, b] w fun e w' => e = .returned (.bool true) ∧ Gr w w' := by
  obtain ⟨p, cap, rfl, _, _⟩ := ha.form
  obtain ⟨q, caq, rfl, _, _⟩ := hb.form
  by_cases hx : xs.length ≤ 1048576
  · by_cases hy : ys.length ≤ 1048576
    · have hlen := feedPut_len xs ys
      obtain ⟨zs, ok, hfp⟩ : ∃ zs ok, feedPut xs ys = (zs, ok) := ⟨_, _, rfl⟩
      rw [hfp] at hlen
      have HFP := Lib.hid hfp; clear hfp
      have hx' : ((xs.length : Int) ≤ 1048576) := by omega
      have hy' : ((ys.length : Int) ≤ 1048576) := by omega
      have hlx : xs.length ≤ 1000000000000 := by omega
      have hly : ys.length ≤ 1000000000000 := by omega
      have hlz : zs.length ≤ 1000000000000 := by simp at hlen; omega
      have hx8 : xs.length ≤ 10000000 := by omega
      have hy8 : ys.length ≤ 10000000 := by omega
      clear hlen
      go_enter Try.func3, Try.ntmps3
      go_wp2_with fail
      (with_reducible refine (toIntS_c ha hlx).mono ?_); rintro e w1 ⟨v1, rfl, o1, g1⟩
      go_wp2_with fail
      (with_reducible refine (toIntS_c (hb.kept g1) hly).mono ?_); rintro e w2 ⟨v2, rfl, o2, g2⟩
      go_wp2_with fail
      (with_reducible refine (specFeedPut_r HFP (o1.s.kept g2) o2.s hx8 hy8).mono ?_); rintro e w3 ⟨v3, rfl, o3, g3⟩
      have G3 := (g1.trans g2).trans g3
      clear g1 g2 g3 o1 o2
      go_wp2_with fail
      (with_reducible refine (toIntS_c (ha.kept G3) hlx).mono ?_); rintro e w4 ⟨x0, rfl, o4, g4⟩
      go_wp2_with fail
      (with_reducible refine (toIntS_c (hb.kept (G3.trans g4)) hly).mono ?_); rintro e w5 ⟨x1, rfl, o5, g5⟩
      go_wp2_with fail
      (with_reducible refine (implFeedPut_r HFP (o4.s.kept g5) o5.s hx8 hy8).mono ?_); rintro e w6 ⟨g0, rfl, o6, g6⟩
      have b3 := o3.b.kept ((g4.trans g5).trans g6)
      have b4 := o4.b.kept (g5.trans g6)
      have b5 := o5.b.kept g6
      have b6 := o6.b
      have z4 := g4.sz; have z5 := g5.sz; have z6 := g6.sz; have z3 := G3.sz
      clear o3 o4 o5 o6
      go_wp2_with fail
      (with_reducible refine (eqI_same b6.s b3.s).mono ?_); rintro e w7 ⟨rfl, g7⟩
      have G7 := (((G3.trans g4).trans g5).trans g6).trans g7
      clear g4 g5 g6 G3
      go_wp2_with fail
      (with_reducible refine (toIntS_c (ha.kept G7) hlx).mono ?_); rintro e w8 ⟨v8, rfl, o8, g8⟩
      go_wp2_with fail
      (with_reducible refine (eqI_same (b4.kept (g7.trans g8)).s o8.s).mono ?_); rintro e w9 ⟨rfl, g9⟩
      have G9 := (G7.trans g8).trans g9
      go_wp2_with fail
      (with_reducible refine (toIntS_c (hb.kept G9) hly).mono ?_); rintro e w10 ⟨v10, rfl, o10, g10⟩
      have g710 := ((g7.trans g8).trans g9).trans g10
      go_wp2_with fail
      (with_reducible refine (eqI_same (b5.kept g710).s o10.s).mono ?_); rintro e w11 ⟨rfl, g11⟩
      have G11 := (G9.trans g10).trans g11
      replace g710 := g710.trans g11
      replace b3 := b3.kept g710; replace b4 := b4.kept g710; replace b5 := b5.kept g710; replace b6 := b6.kept g710
      clear o8 o10 G7 G9 g7 g8 g9 g10 g11 g710
      go_wp2_with fail
      (with_reducible refine (markIntS_c b4 1 (by decide) (by decide) hlx).mono ?_); rintro e w12 ⟨rfl, b4', f12⟩
      replace b3 := b3.chg f12 (by omega); replace b5 := b5.chg f12 (by omega); replace b6 := b6.chg f12 (by omega)
      replace G11 := f12.gr G11 (by omega)
      clear b4 b4' f12
      go_wp2_with fail
      (with_reducible refine (markIntS_c b5 _ (by omega) (by omega) hly).mono ?_); rintro e w13 ⟨rfl, b5', f13⟩
      replace b3 := b3.chg f13 (by omega); replace b6 := b6.chg f13 (by omega)
      replace G11 := f13.gr G11 (by omega)
      clear b5 b5' f13
      go_wp2_with fail
      (with_reducible refine (eqI_same b6.s b3.s).mono ?_); rintro e w14 ⟨rfl, g14⟩
      replace G11 := G11.trans g14; replace b3 := b3.kept g14; replace b6 := b6.kept g14
      clear g14
      go_wp2_with fail
      (with_reducible refine (markIntS_c b6 1 (by decide) (by decide) hlz).mono ?_); rintro e w15 ⟨rfl, b6', f15⟩
      replace b3 := b3.chg f15 (by omega)
      replace G11 := f15.gr G11 (by omega)
      clear b6 f15
      go_wp2_with fail
      (with_reducible refine (heldIntS_c 1 zs.length b6'.s (by decide) (by decide) hlz).mono ?_); rintro e w16 ⟨rfl, rfl⟩
      go_wp2_with fail
      (with_reducible refine (toIntS_c (ha.kept G11) hlx).mono ?_); rintro e w17 ⟨v17, rfl, o17, g17⟩
      go_wp2_with fail
      (with_reducible refine (toIntS_c (hb.kept (G11.trans g17)) hly).mono ?_); rintro e w18 ⟨v18, rfl, o18, g18⟩
      go_wp2_with fail
      (with_reducible refine (implFeedPut_r HFP (o17.s.kept g18) o18.s hx8 hy8).mono ?_); rintro e w19 ⟨h0, rfl, o19, g19⟩
      have g1719 := (g17.trans g18).trans g19
      go_wp2_with fail
      (with_reducible refine (eqI_same o19.s (b3.kept g1719).s).mono ?_); rintro e w20 ⟨rfl, g20⟩
      replace g1719 := g1719.trans g20
      go_wp2_with fail
      (with_reducible refine (heldIntS_c 1 zs.length (b6'.kept g1719).s (by decide) (by decide) hlz).mono ?_); rintro e w21 ⟨rfl, rfl⟩
      go_wp2
      go_ret
      exact ⟨rfl, G11.trans g1719⟩
    · have hx' : ((xs.length : Int) ≤ 1048576) := by omega
      have hy' : ¬ ((ys.length : Int) ≤ 1048576) := by omega
      go_enter Try.func3, Try.ntmps3
      go_wp2_with fail
      go_ret
      exact ⟨rfl, Gr.refl _⟩
  · have hx' : ¬ ((xs.length : Int) ≤ 1048576) := by omega
    go_enter Try.func3, Try.ntmps3
    go_wp2_with fail
    go_ret
    exact ⟨rfl, Gr.refl _⟩
end Go.Proofs.Ytjfijmfmomeikaa
