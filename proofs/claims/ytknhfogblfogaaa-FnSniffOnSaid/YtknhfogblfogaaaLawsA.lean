/- The walks of laws.FnFeedPut, FnFeedPutTwice, FnSniff, FnSniffBegin, FnSniffFirst, FnSniffOn. -/
import Derived.Test.YtknhfogblfogaaaSniffP
namespace Go.Proofs.Ytknhfogblfogaaa
open Go.RowKit
theorem isBegin_t {w : World} {v u : Value} {xs ys zs : List Int} (h : IntS w v zs) (hu : IntS w u xs) (hz : Hid (zs = xs ++ ys)) :
    Calls Try.prog 26 #[v, u] w fun e w' => e = .returned (.bool true) ∧ Gr w w' := by
  have hl : xs.length ≤ zs.length := by rw [hz.out, List.length_append]; omega
  obtain ⟨v', hsl, hv'⟩ := h.pre hl
  have e : zs.take xs.length = xs := by rw [hz.out]; simp
  rw [e] at hv'
  obtain ⟨p, cap, rfl, hl1, hl2⟩ := h.form
  obtain ⟨q, caq, rfl, hm1, hm2⟩ := hu.form
  have hle' : (xs.length : Int) ≤ zs.length := by omega
  clear e hz
  go_enter Try.func26, Try.ntmps26
  go_wp2_with fail
  (with_reducible refine (same_c hv' hu).mono ?_); rintro e w1 ⟨rfl, g1⟩
  go_wp2
  go_ret
  exact ⟨rfl, g1⟩
theorem feedPut_ok {xs ys zs : List Int} (h : feedPut xs ys = (zs, true)) : zs = xs ++ ys ∧ bv (xs ++ ys) = true := by
  unfold feedPut at h
  cases hb : bv (xs ++ ys)
  · rw [hb] at h; simp at h
  · rw [hb] at h; simp at h; exact ⟨h.symm, rfl⟩
theorem feedPut_mk {xs ys : List Int} (h : bv (xs ++ ys) = true) : feedPut xs ys = (xs ++ ys, true) := by unfold feedPut; rw [h]; rfl
theorem implBV_t {w : World} {v : Value} {xs : List Int} (h : IntS w v xs) (hb : Hid (bv xs = true)) :
    Calls Try.prog 25 #[v] w fun e w' => e = .returned (.bool true) ∧ w = w' := by
  have := implBytesValid_c h; rwa [hb.out] at this
set_option maxHeartbeats 1000000 in
theorem FnFeedPut_w {w : World} {v : Value} {bs : List Int} (h : ByteS w v bs) :
    Calls Try.prog 5 #[v] w fun e w' => e = .returned (.bool true) ∧ Gr w w' := by
  obtain ⟨p, cap, rfl, _, _⟩ := h.form
  by_cases hx : bs.length ≤ 1048576
  · have hx' : ((bs.length : Int) ≤ 1048576) := by omega
    go_enter Try.func5, Try.ntmps5
    go_wp2_with fail
    (with_reducible refine (DrawFeedPut_c h).mono ?_); rintro e w1 ⟨v1, u1, xs, ys, rfl, hxl, hyl, o1, p1, g1⟩
    have hs := o1.s
    have hu := p1.s
    obtain ⟨q, cq, rfl, _, _⟩ := hs.form
    obtain ⟨zs, ok, hR⟩ : ∃ zs ok, feedPut xs ys = (zs, ok) := ⟨_, _, rfl⟩
    have HR := Lib.hid hR
    clear o1 p1
    cases ok
    · clear hR
      go_wp2_with fail
      (with_reducible refine (implFeedPut_r HR hs hu (by omega) (by omega)).mono ?_); rintro e w2 ⟨v2, rfl, o2, g2⟩
      go_wp2_with fail
      (with_reducible refine (specFeedPut_r HR (hs.kept g2) (hu.kept g2) (by omega) (by omega)).mono ?_); rintro e w3 ⟨v3, rfl, o3, g3⟩
      go_wp2_with fail
      (with_reducible refine (same_c (o2.s.kept g3) o3.s).mono ?_); rintro e w4 ⟨rfl, g4⟩
      go_wp2_with fail
      (with_reducible refine (same_c (o2.s.kept (g3.trans g4)) (o3.s.kept g4)).mono ?_); rintro e w5 ⟨rfl, g5⟩
      go_wp2
      go_ret
      exact ⟨rfl, ((((g1.trans g2).trans g3).trans g4).trans g5)⟩
    · obtain ⟨hz, hb⟩ := feedPut_ok hR
      have HZ := Lib.hid hz
      have HB : Hid (bv zs = true) := Lib.hid (by rw [hz]; exact hb)
      clear hR hb
      go_wp2_with fail
      (with_reducible refine (implFeedPut_r HR hs hu (by omega) (by omega)).mono ?_); rintro e w2 ⟨v2, rfl, o2, g2⟩
      go_wp2_with fail
      (with_reducible refine (specFeedPut_r HR (hs.kept g2) (hu.kept g2) (by omega) (by omega)).mono ?_); rintro e w3 ⟨v3, rfl, o3, g3⟩
      go_wp2_with fail
      (with_reducible refine (same_c (o2.s.kept g3) o3.s).mono ?_); rintro e w4 ⟨rfl, g4⟩
      have g24 := (g2.trans g3).trans g4
      have o4 := o2.s.kept (g3.trans g4)
      have hs4 := hs.kept g24
      have hu4 := hu.kept g24
      obtain ⟨vs, hsl, hsv⟩ := o4.suf (show xs.length ≤ zs.length by rw [hz, List.length_append]; omega)
      have ez : zs.drop xs.length = ys := by rw [hz]; simp
      rw [ez] at hsv
      clear hz ez o2 o3 hs hu
      go_wp2_with fail
      (with_reducible refine (implBV_t o4 HB).mono ?_); rintro e w5 ⟨rfl, rfl⟩
      go_wp2_with fail
      (with_reducible refine (isBegin_t o4 hs4 HZ).mono ?_); rintro e w6 ⟨rfl, g6⟩
      go_wp2_with fail
      (with_reducible refine (same_c (hsv.kept g6) (hu4.kept g6)).mono ?_); rintro e w7 ⟨rfl, g7⟩
      go_wp2
      go_ret
      exact ⟨rfl, ((g1.trans g24).trans g6).trans g7⟩
  · have hx' : ¬ ((bs.length : Int) ≤ 1048576) := by omega
    go_enter Try.func5, Try.ntmps5
    go_wp2_with fail
    go_ret
    exact ⟨rfl, Gr.refl _⟩
set_option maxHeartbeats 1000000 in
theorem FnFeedPutTwice_w {w : World} {v u : Value} {bs cs : List Int} (h : ByteS w v bs) (hu : ByteS w u cs) :
    Calls Try.prog 4 #[v, u] w fun e w' => e = .returned (.bool true) ∧ Gr w w' := by
  obtain ⟨p, cap, rfl, _, _⟩ := h.form
  obtain ⟨p', cap', rfl, _, _⟩ := hu.form
  by_cases hx : bs.length ≤ 1048576
  · by_cases hy : cs.length ≤ 1048576
    · have hx' : (decide (1048576 < (bs.length : Int))) = false := by simp; omega
      have hy' : (decide (1048576 < (cs.length : Int))) = false := by simp; omega
      go_enter Try.func4, Try.ntmps4
      go_wp2_with fail
      (with_reducible refine (DrawFeedPut_c h).mono ?_); rintro e w1 ⟨v1, u1, xs, ys, rfl, hxl, hyl, o1, p1, g1⟩
      have hs := o1.s
      have hu1 := p1.s
      obtain ⟨q, cq, rfl, _, _⟩ := hu1.form
      obtain ⟨zs, ok, hR⟩ : ∃ zs ok, feedPut xs ys = (zs, ok) := ⟨_, _, rfl⟩
      have HR := Lib.hid hR
      clear o1 p1
      cases ok
      · clear hR
        go_wp2_with fail
        (with_reducible refine (implFeedPut_r HR hs hu1 (by omega) (by omega)).mono ?_); rintro e w2 ⟨v2, rfl, o2, g2⟩
        go_wp2_with fail
        (with_reducible refine (specFeedPut_r HR (hs.kept g2) (hu1.kept g2) (by omega) (by omega)).mono ?_); rintro e w3 ⟨v3, rfl, o3, g3⟩
        go_wp2_with fail
        (with_reducible refine (same_c (o2.s.kept g3) o3.s).mono ?_); rintro e w4 ⟨rfl, g4⟩
        go_wp2_with fail
        (with_reducible refine (same_c (o2.s.kept (g3.trans g4)) (o3.s.kept g4)).mono ?_); rintro e w5 ⟨rfl, g5⟩
        go_wp2
        go_ret
        exact ⟨rfl, ((((g1.trans g2).trans g3).trans g4).trans g5)⟩
      · obtain ⟨hz, hb⟩ := feedPut_ok hR
        have hk0 : (0 : Int) ≤ (cs.length : Int) % ((ys.length : Int) + 1) := Int.emod_nonneg _ (by omega)
        have hk1 : (cs.length : Int) % ((ys.length : Int) + 1) < (ys.length : Int) + 1 := Int.emod_lt_of_pos _ (by omega)
        obtain ⟨k, hk⟩ := Int.eq_ofNat_of_zero_le hk0
        have hkl : k ≤ ys.length := by omega
        have e1 : xs ++ ys.take k ++ ys.drop k = xs ++ ys := by rw [List.append_assoc, List.take_append_drop]
        have hb1 : bv (xs ++ ys.take k) = true := by
          have := bv_append (xs ++ ys.take k) (ys.drop k)
          rw [e1, hb] at this
          simp only [Bool.true_eq, Bool.and_eq_true] at this
          exact this.1
        have R1 := Lib.hid (feedPut_mk hb1)
        have R2 : Hid (feedPut (xs ++ ys.take k) (ys.drop k) = (zs, true)) := Lib.hid (by rw [feedPut_mk (by rw [e1]; exact hb), e1, hz])
        have hlt : (ys.take k).length ≤ 110 := by rw [List.length_take]; omega
        have hld : (ys.drop k).length ≤ 110 := by rw [List.length_drop]; omega
        clear hR hz hb hb1 e1 hk0 hk1
        go_wp2_with fail
        (with_reducible refine (implFeedPut_r HR hs hu1 (by omega) (by omega)).mono ?_); rintro e w2 ⟨v2, rfl, o2, g2⟩
        go_wp2_with fail
        (with_reducible refine (specFeedPut_r HR (hs.kept g2) (hu1.kept g2) (by omega) (by omega)).mono ?_); rintro e w3 ⟨v3, rfl, o3, g3⟩
        go_wp2_with fail
        (with_reducible refine (same_c (o2.s.kept g3) o3.s).mono ?_); rintro e w4 ⟨rfl, g4⟩
        have g24 := (g2.trans g3).trans g4
        have o4 := o2.s.kept (g3.trans g4)
        have hs4 := hs.kept g24
        have hu4 := hu1.kept g24
        obtain ⟨va, hsa, hva⟩ := hu4.pre hkl
        obtain ⟨vb, hsb, hvb⟩ := hu4.suf hkl
        clear o2 o3 hs hu1
        have hxk : (xs ++ ys.take k).length ≤ 300 := by rw [List.length_append]; omega
        go_wp2_with fail
        (with_reducible refine (implFeedPut_r R1 hs4 hva (by omega) (by omega)).mono ?_); rintro e w5 ⟨v5, rfl, o5, g5⟩
        go_wp2_with fail
        (with_reducible refine (implFeedPut_r R2 o5.s (hvb.kept g5) (by omega) (by omega)).mono ?_); rintro e w6 ⟨v6, rfl, o6, g6⟩
        go_wp2_with fail
        (with_reducible refine (same_c o6.s (o4.kept (g5.trans g6))).mono ?_); rintro e w7 ⟨rfl, g7⟩
        go_wp2
        go_ret
        exact ⟨rfl, (((g1.trans g24).trans g5).trans g6).trans g7⟩
    · have hx' : (decide (1048576 < (bs.length : Int))) = false := by simp; omega
      have hy' : (decide (1048576 < (cs.length : Int))) = true := by simp; omega
      go_enter Try.func4, Try.ntmps4
      go_wp2_with fail
      go_ret
      exact ⟨rfl, Gr.refl _⟩
  · have hx' : (decide (1048576 < (bs.length : Int))) = true := by simp; omega
    go_enter Try.func4, Try.ntmps4
    go_wp2_with fail
    go_ret
    exact ⟨rfl, Gr.refl _⟩
theorem implSniff_r {w : World} {v : Value} {xs : List Int} {n : Int} (h : IntS w v xs) (hn : Hid (sniffKind xs = n)) :
    Calls Try.prog 28 #[v] w fun e w' => e = .returned (.int .i64 n) ∧ Gr w w' := by
  have := implSniffKind_c h; rwa [hn.out] at this
theorem specSniff_r {w : World} {v : Value} {xs : List Int} {n : Int} (h : IntS w v xs) (hn : Hid (sniffKind xs = n)) :
    Calls Try.prog 29 #[v] w fun e w' => e = .returned (.int .i64 n) ∧ Gr w w' := by
  have := specSniffKind_c h; rwa [hn.out] at this
set_option maxHeartbeats 1000000 in
theorem FnSniff_w {w : World} {v : Value} {bs : List Int} (h : ByteS w v bs) :
    Calls Try.prog 6 #[v] w fun e w' => e = .returned (.bool true) ∧ Gr w w' := by
  obtain ⟨p, cap, rfl, _, _⟩ := h.form
  by_cases hx : bs.length ≤ 1048576
  · have hx' : ((bs.length : Int) ≤ 1048576) := by omega
    go_enter Try.func6, Try.ntmps6
    go_wp2_with fail
    (with_reducible refine (DrawSniffKind_c h).mono ?_); rintro e w1 ⟨v1, xs, rfl, hxl, o1, g1⟩
    obtain ⟨n, hn⟩ : ∃ n, sniffKind xs = n := ⟨_, rfl⟩
    have hr := sniff_range xs
    rw [hn] at hr
    have HN := Lib.hid hn
    have n0 : (0 : Int) ≤ n := hr.1
    have n6 : n ≤ (6 : Int) := hr.2
    clear hn hr
    go_wp2_with fail
    (with_reducible refine (implSniff_r o1.s HN).mono ?_); rintro e w2 ⟨rfl, g2⟩
    go_wp2_with fail
    (with_reducible refine (specSniff_r (o1.s.kept g2) HN).mono ?_); rintro e w3 ⟨rfl, g3⟩
    go_wp2_with fail
    (with_reducible refine (implSniff_r (IntO.mt w3).s (Lib.hid sniff_nil)).mono ?_); rintro e w4 ⟨rfl, g4⟩
    go_wp2
    go_ret
    exact ⟨rfl, ((g1.trans g2).trans g3).trans ((gr_alloc _ _).trans g4)⟩
  · have hx' : ¬ ((bs.length : Int) ≤ 1048576) := by omega
    go_enter Try.func6, Try.ntmps6
    go_wp2_with fail
    go_ret
    exact ⟨rfl, Gr.refl _⟩
set_option maxHeartbeats 1000000 in
theorem FnSniffFirst_w {w : World} {v : Value} {bs : List Int} (h : ByteS w v bs) :
    Calls Try.prog 8 #[v] w fun e w' => e = .returned (.bool true) ∧ Gr w w' := by
  obtain ⟨p, cap, rfl, _, _⟩ := h.form
  by_cases hx : bs.length ≤ 1048576
  · have hx' : ((bs.length : Int) ≤ 1048576) := by omega
    go_enter Try.func8, Try.ntmps8
    go_wp2_with fail
    (with_reducible refine (DrawSniffKind_c h).mono ?_); rintro e w1 ⟨v1, xs, rfl, hxl, o1, g1⟩
    have hs := o1.s
    obtain ⟨q, cq, rfl, _, _⟩ := hs.form
    obtain ⟨n, hn⟩ : ∃ n, sniffKind xs = n := ⟨_, rfl⟩
    have HN := Lib.hid hn
    clear o1
    cases hb : bv xs
    · have HB := Lib.hid hb
      clear hb hn
      go_wp2_with fail
      (with_reducible refine (implSniff_r hs HN).mono ?_); rintro e w2 ⟨rfl, g2⟩
      go_wp2_with fail
      (with_reducible refine (specSniff_r (hs.kept g2) HN).mono ?_); rintro e w3 ⟨rfl, g3⟩
      go_wp2_with fail
      (with_reducible refine (specBytesValid_c ((hs.kept g2).kept g3)).mono ?_); rintro e w4 ⟨rfl, rfl⟩
      rw [HB.out]
      go_wp2
      go_ret
      exact ⟨rfl, (g1.trans g2).trans g3⟩
    · by_cases hl : 0 < xs.length
      · have hf := sniff_first hb hl
        rw [hn] at hf
        have HB := Lib.hid hb
        have hl' : (((xs.length : Int) == 0) = false) := beq_eq_false_iff_ne.2 (by omega)
        obtain ⟨a, hix, hca⟩ := (hs).ix0 hl
        have e1 : (n == 1) = (nth xs 0 == 4) := by rw [Bool.eq_iff_iff, beq_iff_eq, beq_iff_eq]; exact hf.1
        have e2 : (n == 2) = (nth xs 0 == 5) := by rw [Bool.eq_iff_iff, beq_iff_eq, beq_iff_eq]; exact hf.2
        generalize nth xs 0 = y at *
        have E1 := Lib.hid e1
        have E2 := Lib.hid e2
        clear hb hn hf e1 e2
        go_wp2_with fail
        (with_reducible refine (implSniff_r hs HN).mono ?_); rintro e w2 ⟨rfl, g2⟩
        go_wp2_with fail
        (with_reducible refine (specSniff_r (hs.kept g2) HN).mono ?_); rintro e w3 ⟨rfl, g3⟩
        go_wp2_with fail
        (with_reducible refine (specBytesValid_c ((hs.kept g2).kept g3)).mono ?_); rintro e w4 ⟨rfl, rfl⟩
        rw [HB.out]
        have hcb := (g2.trans g3).cell hca
        have t1 : ((n == 1) == (y == 4)) = true := by rw [E1.out]; simp
        have t2 : ((n == 2) == (y == 5)) = true := by rw [E2.out]; simp
        go_wp2
        go_ret
        exact ⟨rfl, (g1.trans g2).trans g3⟩
      · have HB := Lib.hid hb
        have hl' : (((xs.length : Int) == 0) = true) := by rw [beq_iff_eq]; omega
        have HL := Lib.hid hl
        clear hb hn hl
        go_wp2_with fail
        (with_reducible refine (implSniff_r hs HN).mono ?_); rintro e w2 ⟨rfl, g2⟩
        go_wp2_with fail
        (with_reducible refine (specSniff_r (hs.kept g2) HN).mono ?_); rintro e w3 ⟨rfl, g3⟩
        go_wp2_with fail
        (with_reducible refine (specBytesValid_c ((hs.kept g2).kept g3)).mono ?_); rintro e w4 ⟨rfl, rfl⟩
        rw [HB.out]
        go_wp2
        go_ret
        exact ⟨rfl, (g1.trans g2).trans g3⟩
  · have hx' : ¬ ((bs.length : Int) ≤ 1048576) := by omega
    go_enter Try.func8, Try.ntmps8
    go_wp2_with fail
    go_ret
    exact ⟨rfl, Gr.refl _⟩
set_option maxHeartbeats 1000000 in
theorem FnSniffBegin_w {w : World} {v u : Value} {bs cs : List Int} (h : ByteS w v bs) (hu : ByteS w u cs) :
    Calls Try.prog 7 #[v, u] w fun e w' => e = .returned (.bool true) ∧ Gr w w' := by
  obtain ⟨p, cap, rfl, _, _⟩ := h.form
  obtain ⟨p', cap', rfl, _, _⟩ := hu.form
  by_cases hx : bs.length ≤ 1048576
  · by_cases hy : cs.length ≤ 1048576
    · have hx' : (decide (1048576 < (bs.length : Int))) = false := by simp; omega
      have hy' : (decide (1048576 < (cs.length : Int))) = false := by simp; omega
      go_enter Try.func7, Try.ntmps7
      go_wp2_with fail
      (with_reducible refine (DrawSniffKind_c h).mono ?_); rintro e w1 ⟨v1, xs, rfl, hxl, o1, g1⟩
      have hs := o1.s
      obtain ⟨q, cq, rfl, _, _⟩ := hs.form
      obtain ⟨n, hn⟩ : ∃ n, sniffKind xs = n := ⟨_, rfl⟩
      have HN := Lib.hid hn
      clear o1
      by_cases h6 : n = 6
      · subst h6
        clear hn
        go_wp2_with fail
        (with_reducible refine (implSniff_r hs HN).mono ?_); rintro e w2 ⟨rfl, g2⟩
        go_wp2_with fail
        (with_reducible refine (specSniff_r (hs.kept g2) HN).mono ?_); rintro e w3 ⟨rfl, g3⟩
        go_wp2
        go_ret
        exact ⟨rfl, (g1.trans g2).trans g3⟩
      · have h6' : (n == 6) = false := beq_eq_false_iff_ne.2 h6
        have hk0 : (0 : Int) ≤ (cs.length : Int) % ((xs.length : Int) + 1) := Int.emod_nonneg _ (by omega)
        have hk1 : (cs.length : Int) % ((xs.length : Int) + 1) < (xs.length : Int) + 1 := Int.emod_lt_of_pos _ (by omega)
        obtain ⟨k, hk⟩ := Int.eq_ofNat_of_zero_le hk0
        have hkl : k ≤ xs.length := by omega
        have hb := sniff_begin (xs := xs) (by rw [hn]; exact h6) k
        rw [hn] at hb
        obtain ⟨m, hm⟩ : ∃ m, sniffKind (xs.take k) = m := ⟨_, rfl⟩
        rw [hm] at hb
        have HM := Lib.hid hm
        have HB := Lib.hid hb
        clear hn h6 hk0 hk1 hb hm
        go_wp2_with fail
        (with_reducible refine (implSniff_r hs HN).mono ?_); rintro e w2 ⟨rfl, g2⟩
        go_wp2_with fail
        (with_reducible refine (specSniff_r (hs.kept g2) HN).mono ?_); rintro e w3 ⟨rfl, g3⟩
        obtain ⟨va, hsa, hva⟩ := (hs.kept (g2.trans g3)).pre hkl
        go_wp2_with fail
        (with_reducible refine (implSniff_r hva HM).mono ?_); rintro e w4 ⟨rfl, g4⟩
        by_cases hmn : m = n
        · subst hmn
          go_wp2
          go_ret
          exact ⟨rfl, ((g1.trans g2).trans g3).trans g4⟩
        · have hmn' : (m == n) = false := beq_eq_false_iff_ne.2 hmn
          have hm0 : m = 0 := by
            rcases HB.out with e | e
            · exact absurd e hmn
            · exact e
          subst hm0
          clear hmn
          go_wp2
          go_ret
          exact ⟨rfl, ((g1.trans g2).trans g3).trans g4⟩
    · have hx' : (decide (1048576 < (bs.length : Int))) = false := by simp; omega
      have hy' : (decide (1048576 < (cs.length : Int))) = true := by simp; omega
      go_enter Try.func7, Try.ntmps7
      go_wp2_with fail
      go_ret
      exact ⟨rfl, Gr.refl _⟩
  · have hx' : (decide (1048576 < (bs.length : Int))) = true := by simp; omega
    go_enter Try.func7, Try.ntmps7
    go_wp2_with fail
    go_ret
    exact ⟨rfl, Gr.refl _⟩
set_option maxHeartbeats 1000000 in
theorem FnSniffOn_w {w : World} {v u : Value} {bs cs : List Int} (h : ByteS w v bs) (hu : ByteS w u cs) :
    Calls Try.prog 9 #[v, u] w fun e w' => e = .returned (.bool true) ∧ Gr w w' := by
  obtain ⟨p, cap, rfl, _, _⟩ := h.form
  obtain ⟨p', cap', rfl, _, _⟩ := hu.form
  by_cases hx : bs.length ≤ 1048576
  · by_cases hy : cs.length ≤ 1048576
    · have hx' : (decide (1048576 < (bs.length : Int))) = false := by simp; omega
      have hy' : (decide (1048576 < (cs.length : Int))) = false := by simp; omega
      go_enter Try.func9, Try.ntmps9
      go_wp2_with fail
      (with_reducible refine (DrawSniffKind_c h).mono ?_); rintro e w1 ⟨v1, xs, rfl, hxl, o1, g1⟩
      have hs := o1.s
      obtain ⟨q, cq, rfl, _, _⟩ := hs.form
      obtain ⟨n, hn⟩ : ∃ n, sniffKind xs = n := ⟨_, rfl⟩
      have HN := Lib.hid hn
      clear o1
      by_cases h0 : n = 0
      · subst h0
        clear hn
        go_wp2_with fail
        (with_reducible refine (implSniff_r hs HN).mono ?_); rintro e w2 ⟨rfl, g2⟩
        go_wp2_with fail
        (with_reducible refine (specSniff_r (hs.kept g2) HN).mono ?_); rintro e w3 ⟨rfl, g3⟩
        go_wp2
        go_ret
        exact ⟨rfl, (g1.trans g2).trans g3⟩
      have h0' : (n == 0) = false := beq_eq_false_iff_ne.2 h0
      by_cases h6 : n = 6
      · subst h6
        clear hn h0
        go_wp2_with fail
        (with_reducible refine (implSniff_r hs HN).mono ?_); rintro e w2 ⟨rfl, g2⟩
        go_wp2_with fail
        (with_reducible refine (specSniff_r (hs.kept g2) HN).mono ?_); rintro e w3 ⟨rfl, g3⟩
        go_wp2
        go_ret
        exact ⟨rfl, (g1.trans g2).trans g3⟩
      have h6' : (n == 6) = false := beq_eq_false_iff_ne.2 h6
      by_cases hl : xs.length = 120
      · have hl' : (((xs.length : Int) == 120) = true) := by rw [beq_iff_eq]; omega
        clear hn h0 h6 hl
        go_wp2_with fail
        (with_reducible refine (implSniff_r hs HN).mono ?_); rintro e w2 ⟨rfl, g2⟩
        go_wp2_with fail
        (with_reducible refine (specSniff_r (hs.kept g2) HN).mono ?_); rintro e w3 ⟨rfl, g3⟩
        go_wp2
        go_ret
        exact ⟨rfl, (g1.trans g2).trans g3⟩
      · have hl' : (((xs.length : Int) == 120) = false) := beq_eq_false_iff_ne.2 (by omega)
        have hbv : bv xs = true := by
          cases hb : bv xs
          · exact absurd (sniff_bad hb) (by rw [hn]; exact h6)
          · rfl
        have hc0 : (0 : Int) ≤ (cs.length : Int) % 256 := Int.emod_nonneg _ (by omega)
        have hc1 : (cs.length : Int) % 256 < 256 := Int.emod_lt_of_pos _ (by omega)
        obtain ⟨c, hc⟩ : ∃ c, c = (cs.length : Int) % 256 := ⟨_, rfl⟩
        have hz : bv (xs ++ [c]) = true := by
          rw [bv_append, hbv]
          have h120 : xs.length ≤ 120 := by simp only [bv, Bool.and_eq_true, decide_eq_true_eq] at hbv; exact hbv.2
          have e1 : bv [c] = true := by simp [bv, isB, inB_iff]; omega
          rw [e1]; simp; omega
        have hon := sniff_on (zs := [c]) (by rw [hn]; exact h6) (by rw [hn]; exact h0) hz
        rw [hn, hc] at hon
        have HO := Lib.hid hon
        clear hn h0 h6 hl hbv hz hon hc hc0 hc1
        go_wp2_with fail
        (with_reducible refine (implSniff_r hs HN).mono ?_); rintro e w2 ⟨rfl, g2⟩
        go_wp2_with fail
        (with_reducible refine (specSniff_r (hs.kept g2) HN).mono ?_); rintro e w3 ⟨rfl, g3⟩
        have hs3 := (hs.kept (g2.trans g3)).kept (gr_alloc w3 (.cells #[] 3))
        go_wp2_with (first | (at_builtin; refine wpl_appI rfl (.tmp 41) (.tmp 42) rfl rfl (IntO.mt w3) rfl hs3 (by simp; omega) (by simp) ?_; intro v4 w4 o4 g4'; have g4 : Gr w3 w4 := (gr_alloc w3 (.cells #[] 3)).thenB g4') | (at_builtin; refine wpl_appI rfl (.tmp 43) (.tmp 47) rfl rfl (IntO.kept o4 (gr_alloc _ _)) rfl (IntO.one _).s (by simp; omega) (by have := g4.sz; simp; omega) ?_; intro v5 w5 o5 g5'; have g5 : Gr w3 w5 := (g4.alloc _).thenB g5'))
        rw [List.nil_append] at o5
        (with_reducible refine (implSniff_r (IntO.s o5) HO).mono ?_); rintro e w6 ⟨rfl, g6⟩
        go_wp2
        go_ret
        exact ⟨rfl, (((g1.trans g2).trans g3).trans g5).trans g6⟩
    · have hx' : (decide (1048576 < (bs.length : Int))) = false := by simp; omega
      have hy' : (decide (1048576 < (cs.length : Int))) = true := by simp; omega
      go_enter Try.func9, Try.ntmps9
      go_wp2_with fail
      go_ret
      exact ⟨rfl, Gr.refl _⟩
  · have hx' : (decide (1048576 < (bs.length : Int))) = true := by simp; omega
    go_enter Try.func9, Try.ntmps9
    go_wp2_with fail
    go_ret
    exact ⟨rfl, Gr.refl _⟩
end Go.Proofs.Ytknhfogblfogaaa
