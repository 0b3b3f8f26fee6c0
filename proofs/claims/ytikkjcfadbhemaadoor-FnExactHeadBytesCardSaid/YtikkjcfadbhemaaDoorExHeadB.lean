/- The walk of laws.FnExactHeadBytes. -/
import Derived.Test.YtikkjcfadbhemaaDoorPairL
import Derived.Test.YtikkjcfadbhemaaDoorHeadI
import Derived.Test.YtikkjcfadbhemaaDoorGM
import Derived.Test.YtikkjcfadbhemaaDoorToTS
import Derived.Test.YtikkjcfadbhemaaDoorGJ
namespace Go.Proofs.YtikkjcfadbhemaaDoor
open Go.RowKit
set_option maxRecDepth 20000 in
set_option maxHeartbeats 16000000 in
theorem FnExactHeadBytes_w {w : World} {a a' : Option Addr} {cap cap' : Nat} {xs ys : List Int} {v : Value} {ts : List Tag} (hm : ML w) (k p k' p' : Int) (s s' : ByteArray) (h : IntS w (.slice a xs.length cap) xs) (h' : IntS w (.slice a' ys.length cap') ys) (hs : s.size ≤ 9223372036854775807) (hs' : s'.size ≤ 9223372036854775807) (hx : xs.length ≤ 9223372036854775807) (hy : ys.length ≤ 9223372036854775807) (ha : TagS w v ts) :
    Calls Tryd.prog 8 #[.agg #[.int .i64 k, .slice a xs.length cap, .string s, .int .i64 p, .int .i64 k', .slice a' ys.length cap', .string s', .int .i64 p'], v] w fun e w' => e = .returned (.bool true) ∧ Gr w w' := by
  obtain ⟨pv, cv, rfl, hv1, hv2⟩ := ha.form
  clear hv1 hv2
  have gB := gr_alloc w (.cells #[.int .i64 k, .slice a xs.length cap, .string s, .int .i64 p, .int .i64 k', .slice a' ys.length cap', .string s', .int .i64 p'] 33)
  have HA := Lib.hid (heap_alloc_new w (.cells #[.int .i64 k, .slice a xs.length cap, .string s, .int .i64 p, .int .i64 k', .slice a' ys.length cap', .string s', .int .i64 p'] 33))
  go_enter Tryd.func8, Tryd.ntmps8
  go_wp2_with fail
  (with_reducible refine (szPair_c _ k p k' p' s s' a a' xs.length ys.length cap cap' 1048576 (by decide) (by decide) hx hs hy hs').mono ?_); rintro e w1 ⟨r, rfl, hr, g1⟩
  have G1 := gB.trans g1
  replace HA := Lib.hid (g1.blk HA.out)
  have z0 : w.heap.size + 1 ≤ w1.heap.size := by have hz := g1.sz; simp at hz; omega
  rcases hr with hr | ⟨hr0, hr1⟩
  · subst hr
    go_wp2
    go_ret
    exact ⟨rfl, G1⟩
  · have hr2 : ¬ (r < 0) := by omega
    go_wp2_with fail
    (with_reducible refine (szTagSc_c (ha.kept G1) r hr0 (by omega)).mono ?_); rintro e w2 ⟨t, rfl, ht, g2⟩
    have G2 := G1.trans g2
    replace HA := Lib.hid (g2.blk HA.out)
    rcases ht with ht | ⟨ht0, ht1⟩
    · subst ht
      go_wp2
      go_ret
      exact ⟨rfl, G2⟩
    · have ht2 : ¬ (t < 0) := by omega
      have hsa : s.size ≤ 2000000 := by omega
      have hsb : s'.size ≤ 2000000 := by omega
      have hxa : xs.length ≤ 1000000000000 := by omega
      have hya : ys.length ≤ 1000000000000 := by omega
      have hxb : xs.length ≤ 2000000 := by omega
      have hyb : ys.length ≤ 2000000 := by omega
      have hct : cnt ts ≤ 1048576 := by omega
      have hk0 : ¬ ((1 : Int) + (xs.length : Int) + (ys.length : Int) + (cnt ts : Int) < 0) := by omega
      clear hr1 hr0 ht0 ht1 hs hs' hx hy
      have hbl : (if headOk ⟨⟨k, xs, tx s, p⟩, ⟨k', ys, tx s', p'⟩⟩ ts = true then headBytes ⟨⟨k, xs, tx s, p⟩, ⟨k', ys, tx s', p'⟩⟩ ts else []).length ≤ 104 := len_ite (fun hc => by rw [headBytes_len hc]; have := (headBody_len hc).2; omega)
      have SC := Lib.hid (fun (W : World) (v v' v'' : Value) (h1 : IntS W v xs) (h2 : IntS W v' ys) (h3 : TagS W v'' ts) => specHeadBytes_c k p k' p' s s' h1 h2 hsa hsb h3)
      have IC := Lib.hid (fun (W : World) (hM : ML W) (v v' v'' : Value) (h1 : IntS W v xs) (h2 : IntS W v' ys) (h3 : TagS W v'' ts) => implHeadBytes_c hM k p k' p' s s' h1 h2 hsa hsb h3)
      obtain ⟨ok, hok⟩ : ∃ ok, headOk ⟨⟨k, xs, tx s, p⟩, ⟨k', ys, tx s', p'⟩⟩ ts = ok := ⟨_, rfl⟩
      obtain ⟨zs, hzs⟩ : ∃ zs, (if ok = true then headBytes ⟨⟨k, xs, tx s, p⟩, ⟨k', ys, tx s', p'⟩⟩ ts else []) = zs := ⟨_, rfl⟩
      simp only [hok, hzs] at SC IC hbl
      clear hok hzs
      have hlz : zs.length ≤ 1000000000000 := by omega
      have a0 := blk_cell HA.out (j := 0) rfl
      have a1 := blk_cell HA.out (j := 1) rfl
      have a2 := blk_cell HA.out (j := 2) rfl
      have a3 := blk_cell HA.out (j := 3) rfl
      have a4 := blk_cell HA.out (j := 4) rfl
      have a5 := blk_cell HA.out (j := 5) rfl
      have a6 := blk_cell HA.out (j := 6) rfl
      have a7 := blk_cell HA.out (j := 7) rfl
      go_wp2_with fail
      (with_reducible refine (toPair_c k p k' p' s s' (h.kept G2) (h'.kept G2) hxa hya).mono ?_); rintro e w3 ⟨q, c, q', c', T3, rfl, o3, o3', i3, j3, g3⟩
      go_wp2_with fail
      (with_reducible refine (toTagS_c (ha.kept (G2.trans g3)) hct).mono ?_); rintro e w4 ⟨v4, T4, rfl, o4, hT4, g4⟩
      go_wp2_with fail
      (with_reducible refine (SC.out _ _ _ _ (o3.s.kept g4) (o3'.s.kept g4) o4.s).mono ?_); rintro e w5 ⟨v5, rfl, o5, g5⟩
      have g25 := (g3.trans g4).trans g5
      have G5 := G2.trans g25
      replace HA := Lib.hid (g25.blk HA.out)
      clear a0 a1 a2 a3 a4 a5 a6 a7
      have z4 := g4.sz; have z3 := g3.sz; have z2 := g2.sz; have z5 := g5.sz
      have b5 := o5.b
      clear o3 o3' o4 hT4 i3 o5 g3 g4 g5 g25
      have a0 := blk_cell HA.out (j := 0) rfl
      have a1 := blk_cell HA.out (j := 1) rfl
      have a2 := blk_cell HA.out (j := 2) rfl
      have a3 := blk_cell HA.out (j := 3) rfl
      have a4 := blk_cell HA.out (j := 4) rfl
      have a5 := blk_cell HA.out (j := 5) rfl
      have a6 := blk_cell HA.out (j := 6) rfl
      have a7 := blk_cell HA.out (j := 7) rfl
      go_wp2_with fail
      (with_reducible refine (toPair_c k p k' p' s s' (h.kept G5) (h'.kept G5) hxa hya).mono ?_); rintro e w6 ⟨y, d, y', d', T6, rfl, x1, x2, i6, j6, g6⟩
      clear a0 a1 a2 a3 a4 a5 a6 a7
      have gS := gr_alloc w6 (.cells #[.int .i64 k, .slice y xs.length d, .string s, .int .i64 p, .int .i64 k', .slice y' ys.length d', .string s', .int .i64 p'] 27)
      have HX := Lib.hid (heap_alloc_new w6 (.cells #[.int .i64 k, .slice y xs.length d, .string s, .int .i64 p, .int .i64 k', .slice y' ys.length d', .string s', .int .i64 p'] 27))
      have ZS : Hid ((w6.alloc (.cells #[.int .i64 k, .slice y xs.length d, .string s, .int .i64 p, .int .i64 k', .slice y' ys.length d', .string s', .int .i64 p'] 27)).heap.size = w6.heap.size + 1) := Lib.hid (by simp)
      have G6 := (G5.trans g6).trans gS
      go_wp2_with fail
      (with_reducible refine (toTagS_c (ha.kept G6) hct).mono ?_); rintro e w7 ⟨v7, T7, rfl, o7, hT7, g7⟩
      have gS7 := gS.trans g7
      have z6 := g6.sz
      have z7 := g7.sz
      rw [ZS.out] at z7 o7
      replace HA := Lib.hid (g7.blk (gS.blk (g6.blk HA.out)))
      replace HX := Lib.hid (g7.blk HX.out)
      replace b5 := (b5.kept g6).kept gS7
      replace x1 := x1.kept gS7
      replace x2 := x2.kept gS7
      have G7 := G6.trans g7
      obtain ⟨pu, cu, hvu, hu1, hu2⟩ := o7.s.form
      subst hvu
      clear hu1 hu2 gS gS7 g6 g7 G6 G5
      have e0 := blk_cell HX.out (j := 0) rfl
      have e1 := blk_cell HX.out (j := 1) rfl
      have e2 := blk_cell HX.out (j := 2) rfl
      have e3 := blk_cell HX.out (j := 3) rfl
      have e4 := blk_cell HX.out (j := 4) rfl
      have e5 := blk_cell HX.out (j := 5) rfl
      have e6 := blk_cell HX.out (j := 6) rfl
      have e7 := blk_cell HX.out (j := 7) rfl
      go_wp2_with fail
      (with_reducible refine (IC.out _ (hm.kept G7) _ _ _ x1.s x2.s o7.s).mono ?_); rintro e w8 ⟨v8, rfl, o8', g8⟩
      clear e0 e1 e2 e3 e4 e5 e6 e7
      have z8 := g8.sz
      have o8 := o8'.b
      have G8 := G7.trans g8
      replace b5 := b5.kept g8
      replace x1 := x1.kept g8
      replace x2 := x2.kept g8
      replace o7 := o7.kept g8
      replace HX := Lib.hid (g8.blk HX.out)
      replace HA := Lib.hid (g8.blk HA.out)
      clear o8' g8 G7
      go_wp2_with fail
      (with_reducible refine (eqI_same o8.s b5.s).mono ?_); rintro e w9 ⟨rfl, g9⟩
      replace b5 := b5.kept g9
      replace x1 := x1.kept g9
      replace x2 := x2.kept g9
      replace o7 := o7.kept g9
      replace o8 := o8.kept g9
      replace HX := Lib.hid (g9.blk HX.out)
      replace HA := Lib.hid (g9.blk HA.out)
      have G9 := G8.trans g9
      clear g9 G8
      have h5 := h.kept G9
      have h5' := h'.kept G9
      have a0 := blk_cell HA.out (j := 0) rfl
      have a1 := blk_cell HA.out (j := 1) rfl
      have a2 := blk_cell HA.out (j := 2) rfl
      have a3 := blk_cell HA.out (j := 3) rfl
      have a4 := blk_cell HA.out (j := 4) rfl
      have a5 := blk_cell HA.out (j := 5) rfl
      have a6 := blk_cell HA.out (j := 6) rfl
      have a7 := blk_cell HA.out (j := 7) rfl
      have e0 := blk_cell HX.out (j := 0) rfl
      have e1 := blk_cell HX.out (j := 1) rfl
      have e2 := blk_cell HX.out (j := 2) rfl
      have e3 := blk_cell HX.out (j := 3) rfl
      have e4 := blk_cell HX.out (j := 4) rfl
      have e5 := blk_cell HX.out (j := 5) rfl
      have e6 := blk_cell HX.out (j := 6) rfl
      have e7 := blk_cell HX.out (j := 7) rfl
      have q5 := x1.s
      have q5' := x2.s
      go_wp2_with fail
      go_region_held3 (fun w' => w'.cell? ⟨w.heap.size, 0, none⟩ = some (.int .i64 k) ∧ w'.cell? ⟨w.heap.size, 1, none⟩ = some (.slice a xs.length cap) ∧ w'.cell? ⟨w.heap.size, 2, none⟩ = some (.string s) ∧ w'.cell? ⟨w.heap.size, 3, none⟩ = some (.int .i64 p) ∧ w'.cell? ⟨w.heap.size, 4, none⟩ = some (.int .i64 k') ∧ w'.cell? ⟨w.heap.size, 5, none⟩ = some (.slice a' ys.length cap') ∧ w'.cell? ⟨w.heap.size, 6, none⟩ = some (.string s') ∧ w'.cell? ⟨w.heap.size, 7, none⟩ = some (.int .i64 p') ∧ w'.cell? ⟨w6.heap.size, 0, none⟩ = some (.int .i64 k) ∧ w'.cell? ⟨w6.heap.size, 1, none⟩ = some (.slice y xs.length d) ∧ w'.cell? ⟨w6.heap.size, 2, none⟩ = some (.string s) ∧ w'.cell? ⟨w6.heap.size, 3, none⟩ = some (.int .i64 p) ∧ w'.cell? ⟨w6.heap.size, 4, none⟩ = some (.int .i64 k') ∧ w'.cell? ⟨w6.heap.size, 5, none⟩ = some (.slice y' ys.length d') ∧ w'.cell? ⟨w6.heap.size, 6, none⟩ = some (.string s') ∧ w'.cell? ⟨w6.heap.size, 7, none⟩ = some (.int .i64 p')) (first | (exact ⟨g11.cell a0, g11.cell a1, g11.cell a2, g11.cell a3, g11.cell a4, g11.cell a5, g11.cell a6, g11.cell a7, g11.cell e0, g11.cell e1, g11.cell e2, g11.cell e3, g11.cell e4, g11.cell e5, g11.cell e6, g11.cell e7⟩) | (exact ⟨g10.cell a0, g10.cell a1, g10.cell a2, g10.cell a3, g10.cell a4, g10.cell a5, g10.cell a6, g10.cell a7, g10.cell e0, g10.cell e1, g10.cell e2, g10.cell e3, g10.cell e4, g10.cell e5, g10.cell e6, g10.cell e7⟩) | go_keep) (first
        | (go_at_call 20; (with_reducible refine (toPair_c k p k' p' s s' (h5.kept ((Gr.refl _).drew)) (h5'.kept ((Gr.refl _).drew)) hxa hya).mono ?_); rintro e w10 ⟨z, f, z', f', T10, rfl, o10, o10', i10, j10, g10'⟩; have g10 : Gr w9 w10 := g10'.undrew)
        | (go_at_call 21; (with_reducible refine (eqPair_c k p k' p' s s' (q5.kept g10) o10.s (q5'.kept g10) o10'.s).mono ?_); rintro e w11 ⟨rfl, g11'⟩; have g11 : Gr w9 w11 := g10.trans g11'))
      clear a0 a1 a2 a3 a4 a5 a6 a7
      clear e0 e1 e2 e3 e4 e5 e6 e7
      replace b5 := b5.kept g11
      replace x1 := x1.kept g11
      replace x2 := x2.kept g11
      replace o7 := o7.kept g11
      replace o8 := o8.kept g11
      replace HX := Lib.hid (g11.blk HX.out)
      replace HA := Lib.hid (g11.blk HA.out)
      have G11 := G9.trans g11
      clear h5 h5' q5 q5' g11 g10 g10' g11' o10 o10' i10 G9
      go_wp2_with fail
      (with_reducible refine (toTagS_c (ha.kept G11) hct).mono ?_); rintro e w12 ⟨v12, T12, rfl, o12, hT12, g12⟩
      replace b5 := b5.kept g12
      replace x1 := x1.kept g12
      replace x2 := x2.kept g12
      replace o7 := o7.kept g12
      replace o8 := o8.kept g12
      replace HX := Lib.hid (g12.blk HX.out)
      replace HA := Lib.hid (g12.blk HA.out)
      go_wp2_with fail
      (with_reducible refine (eqTagS_c o7.s o12.s).mono ?_); rintro e w13 ⟨rfl, g13⟩
      replace b5 := b5.kept g13
      replace x1 := x1.kept g13
      replace x2 := x2.kept g13
      replace o7 := o7.kept g13
      replace o8 := o8.kept g13
      replace HX := Lib.hid (g13.blk HX.out)
      replace HA := Lib.hid (g13.blk HA.out)
      have G13 := (G11.trans g12).trans g13
      have z13 := (G13.sz)
      have zX := (Array.getElem?_eq_some_iff.1 HX.out).1
      clear o12 hT12 g12 g13 G11
      have zo8 : w7.heap.size ≤ w8.heap.size := z8
      have e0 := blk_cell HX.out (j := 0) rfl
      have e1 := blk_cell HX.out (j := 1) rfl
      have e2 := blk_cell HX.out (j := 2) rfl
      have e3 := blk_cell HX.out (j := 3) rfl
      have e4 := blk_cell HX.out (j := 4) rfl
      have e5 := blk_cell HX.out (j := 5) rfl
      have e6 := blk_cell HX.out (j := 6) rfl
      have e7 := blk_cell HX.out (j := 7) rfl
      go_wp2_with fail
      (with_reducible refine (markPair_c k p k' p' s s' x1 x2 (Nat.le_refl _) (by omega) 1 (by decide) (by decide) hxb hyb).mono ?_); rintro e w14 ⟨rfl, x1', x2', wa, wb, wc, ga, fa, gb, fb⟩
      clear e0 e1 e2 e3 e4 e5 e6 e7
      replace b5 := (((b5.kept ga).chg fa (by omega)).kept gb).chg fb (by omega)
      replace o7 := (((o7.kept ga).chg fa (by omega)).kept gb).chg fb (by omega)
      replace o8 := (((o8.kept ga).chg fa (by omega)).kept gb).chg fb (by omega)
      replace HA := Lib.hid ((fb.block w.heap.size (by omega)).trans (gb.blk ((fa.block w.heap.size (by omega)).trans (ga.blk HA.out))))
      have G14 := fb.gr ((fa.gr (G13.trans ga) (by omega)).trans gb) (by omega)
      clear HX x1 x2 x1' x2' ga fa gb fb G13
      go_wp2_with fail
      (with_reducible refine (markTagS_c o7 (1 + xs.length + ys.length) (1 + (xs.length : Int) + (ys.length : Int)) (by omega) (by omega)).mono ?_); rintro e w15 ⟨rfl, o7', f15⟩
      replace b5 := b5.chg f15 (by omega)
      replace o8 := o8.chg f15 (by omega)
      replace HA := Lib.hid ((f15.block w.heap.size (by omega)).trans HA.out)
      have G15 := f15.gr G14 (by omega)
      clear o7 o7' f15 G14
      have hk1 : ¬ (((1 + xs.length + ys.length + cnt ts : Nat) : Int) < 0) := by omega
      go_wp2_with fail
      (with_reducible refine (eqI_same o8.s b5.s).mono ?_); rintro e w16 ⟨rfl, g16⟩
      replace b5 := b5.kept g16
      replace o8 := o8.kept g16
      replace HA := Lib.hid (g16.blk HA.out)
      have G16 := G15.trans g16
      clear g16 G15
      go_wp2_with fail
      (with_reducible refine (markIntS_c o8 1 (by decide) (by decide) hlz).mono ?_); rintro e w17 ⟨rfl, o8', f17⟩
      replace b5 := b5.chg f17 (by omega)
      replace HA := Lib.hid ((f17.block w.heap.size (by omega)).trans HA.out)
      have G17 := f17.gr G16 (by omega)
      clear o8 f17 G16
      go_wp2_with fail
      (with_reducible refine (heldIntS_c 1 zs.length o8'.s (by decide) (by decide) hlz).mono ?_); rintro e w18 ⟨rfl, rfl⟩
      have hzn : ¬ ((1 : Int) + (zs.length : Int) < 0) := by omega
      have a0 := blk_cell HA.out (j := 0) rfl
      have a1 := blk_cell HA.out (j := 1) rfl
      have a2 := blk_cell HA.out (j := 2) rfl
      have a3 := blk_cell HA.out (j := 3) rfl
      have a4 := blk_cell HA.out (j := 4) rfl
      have a5 := blk_cell HA.out (j := 5) rfl
      have a6 := blk_cell HA.out (j := 6) rfl
      have a7 := blk_cell HA.out (j := 7) rfl
      go_wp2_with fail
      (with_reducible refine (toPair_c k p k' p' s s' (h.kept G17) (h'.kept G17) hxa hya).mono ?_); rintro e w19 ⟨q, c, q', c', T19, rfl, o19, o19', i19, j19, g19⟩
      go_wp2_with fail
      (with_reducible refine (toTagS_c (ha.kept (G17.trans g19)) hct).mono ?_); rintro e w20 ⟨v20, T20, rfl, o20, hT20, g20⟩
      go_wp2_with fail
      (with_reducible refine (IC.out _ (hm.kept ((G17.trans g19).trans g20)) _ _ _ (o19.s.kept g20) (o19'.s.kept g20) o20.s).mono ?_); rintro e w21 ⟨v21, rfl, o21, g21⟩
      clear a0 a1 a2 a3 a4 a5 a6 a7
      have g1921 := (g19.trans g20).trans g21
      go_wp2_with fail
      (with_reducible refine (eqI_same o21.s (b5.kept g1921).s).mono ?_); rintro e w22 ⟨rfl, g22⟩
      have g1922 := g1921.trans g22
      go_wp2_with fail
      (with_reducible refine (heldIntS_c 1 zs.length (o8'.kept g1922).s (by decide) (by decide) hlz).mono ?_); rintro e w23 ⟨rfl, rfl⟩
      go_wp2
      go_ret
      exact ⟨rfl, G17.trans g1922⟩
end Go.Proofs.YtikkjcfadbhemaaDoor
