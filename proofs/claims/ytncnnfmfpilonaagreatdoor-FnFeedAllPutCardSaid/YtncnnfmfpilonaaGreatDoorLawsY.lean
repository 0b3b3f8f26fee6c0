/- The walks of laws.FnFeedAll, FnFeedAllOne, FnFeedAllRest, FnFeedAllPut. -/
import Derived.Test.YtncnnfmfpilonaaGreatDoorLawsZ
import Derived.Test.YtncnnfmfpilonaaGreatDoorFeedL
namespace Go.Proofs.YtncnnfmfpilonaaGreatDoor
open Go.RowKit
theorem fed_empty {xs : List Int} (h : (feedAll xs).2 = []) : bv xs = true := by
  cases hz : sniffSize xs with
  | none => rw [feedAll_none hz] at h; simp only [] at h; subst h; rfl
  | some n => exact sniff_bv hz
theorem bv_put {xs : List Int} (h : bv xs = true) (hl : xs.length ≤ 117) : bv (xs ++ [5, 1, 0]) = true := by
  simp only [bv, Bool.and_eq_true, List.all_eq_true, decide_eq_true_eq] at h ⊢
  refine ⟨fun x hx => ?_, by simp; omega⟩
  simp only [List.mem_append, List.mem_cons, List.not_mem_nil, or_false] at hx
  rcases hx with hx | rfl | rfl | rfl
  · exact h.1 x hx
  · decide
  · decide
  · decide
theorem fed_put {xs : List Int} (h : bv (xs ++ [5, 1, 0]) = true) : feedPut xs [5, 1, 0] = (xs ++ [5, 1, 0], true) := by unfold feedPut; rw [h]; rfl
set_option maxHeartbeats 2000000 in
theorem FnFeedAll_w {w : World} {v : Value} {bs : List Int} (hm : ML w) (he : ErrV w) (ht : Tab w) (h : ByteS w v bs) :
    Calls Tryz.prog 12 #[v] w fun e w' => e = .returned (.bool true) ∧ Gr w w' := by
  obtain ⟨p, cap, rfl, _, _⟩ := h.form
  by_cases hx : bs.length ≤ 1048576
  rotate_left
  · have hx' : ¬ ((bs.length : Int) ≤ 1048576) := by omega
    go_enter Tryz.func12, Tryz.ntmps12
    go_wp2_with fail
    go_ret
    exact ⟨rfl, Gr.refl _⟩
  have hx' : ((bs.length : Int) ≤ 1048576) := by omega
  go_enter Tryz.func12, Tryz.ntmps12
  go_wp2_with fail
  (with_reducible refine (DrawFeedAll_c h).mono ?_); rintro e w1 ⟨v1, xs, rfl, hxl, o1, g1⟩
  have hs := o1.s
  obtain ⟨q, cq, rfl, _, _⟩ := hs.form
  have hl : xs.length ≤ 1048576 := by omega
  clear o1
  obtain ⟨fs, r, hR⟩ : ∃ fs r, feedAll xs = (fs, r) := ⟨_, _, rfl⟩
  have HR := Lib.hid hR
  have hfl := feedAll_len xs
  rw [hR] at hfl
  obtain ⟨hf1, hf2, hf3⟩ := hfl
  simp only [] at hf1 hf2 hf3
  have hcat := feedAll_concat xs
  rw [hR] at hcat
  have HC := Lib.hid hcat
  clear hR hcat
  go_wp2_with fail
  (with_reducible refine (implFeedAll_c (hm.kept g1) (he.kept g1) (ht.kept g1) hs hl HR).mono ?_); rintro e w2 ⟨p2, c2, q2, d2, rfl, a2, b2, g2⟩
  go_wp2_with fail
  (with_reducible refine (specFeedAll_c (hs.kept g2) hl HR).mono ?_); rintro e w3 ⟨p3, c3, q3, d3, rfl, a3, b3, g3⟩
  go_wp2_with fail
  (with_reducible refine (same_c (b2.kept g3) b3).mono ?_); rintro e w4 ⟨rfl, g4⟩
  go_wp2_with fail
  (with_reducible refine (sameFrames_c (a2.kept (g3.trans g4)) (a3.kept g4)).mono ?_); rintro e w5 ⟨rfl, g5⟩
  have G15 := ((g2.trans g3).trans g4).trans g5
  have G5 := g1.trans G15
  have A5 := a2.kept ((g3.trans g4).trans g5)
  have B5 := b2.kept ((g3.trans g4).trans g5)
  have S5 := hs.kept G15
  clear a2 b2 a3 b3 g2 g3 g4 g5 hs
  have hmt := IntO.mt w5
  have gm := gr_alloc w5 (.cells #[] 3)
  go_wp2_with fail
  go_loopw [8, 9] (fun v i wr => ∃ (k : Nat) (ys : List Int), k ≤ fs.length ∧ i = .int .i64 k ∧ Hid (ys = (fs.take k).flatten) ∧ Gr w5 wr ∧ IntO w5.heap.size 3 wr v ys) (fun _ i _ => fs.length - (intOf i).toNat)
  case atStart => exact ⟨0, [], Nat.zero_le _, rfl, by simp [Hid], gm, hmt⟩
  case round =>
    obtain ⟨k, ys, hk, rfl, hys, hgr, ho⟩ := hrel
    clear hmt gm
    have hyl : ys.length ≤ xs.length := by
      have h1 := total_le fs k
      have h2 := congrArg List.length HC.out
      simp only [List.length_append] at h2
      unfold total at h1
      rw [hys.out]
      omega
    by_cases hlt : k < fs.length
    · obtain ⟨a, qa, ca, hix, hca, hra⟩ := (A5.kept hgr).ix hlt
      have hnl : (nthL fs k).length ≤ xs.length := by rw [nthL_eq hlt]; exact hf2 _ (List.getElem_mem hlt)
      have HN : Hid ((fs.take (k+1)).flatten = ys ++ nthL fs k) := Lib.hid (by rw [flat_step hlt, hys.out])
      generalize nthL fs k = zs at *
      have hz := hgr.sz
      go_wp2_with (at_builtin; refine wpl_appI rfl (.tmp 50) (.tmp 54) rfl rfl ho rfl hra (by omega) hz ?_; intro v6 w6 o6 g6; have G6 : Gr w5 w6 := hgr.thenB g6)
      go_roundw
      case rel => exact ⟨k + 1, ys ++ zs, by omega, by go_num, by rw [Hid, HN.out], G6, o6⟩
      case measure => simp [intOf]; omega
    · have e : ys ++ r = xs := by rw [hys.out, List.take_of_length_le (by omega)]; exact HC.out
      have HE := Lib.hid e
      have hrl : r.length ≤ xs.length := hf3
      have hz := hgr.sz
      clear e hys
      have B6 := B5.kept hgr
      go_wp2_with (at_builtin; refine wpl_appI rfl (.tmp 56) (.tmp 57) rfl rfl ho rfl B6 (by omega) hz ?_; intro v7 w7 o7 g7; have G7 : Gr w5 w7 := hgr.thenB g7)
      rw [HE.out] at o7
      (with_reducible refine (same_c o7.s (S5.kept G7)).mono ?_); rintro e w8 ⟨rfl, g8⟩
      go_wp2
      go_ret
      exact ⟨rfl, (G5.trans G7).trans g8⟩
set_option maxHeartbeats 2000000 in
theorem FnFeedAllOne_w {w : World} {v : Value} {bs : List Int} (hm : ML w) (he : ErrV w) (ht : Tab w) (h : ByteS w v bs) :
    Calls Tryz.prog 13 #[v] w fun e w' => e = .returned (.bool true) ∧ Gr w w' := by
  obtain ⟨p, cap, rfl, _, _⟩ := h.form
  by_cases hx : bs.length ≤ 1048576
  rotate_left
  · have hx' : ¬ ((bs.length : Int) ≤ 1048576) := by omega
    go_enter Tryz.func13, Tryz.ntmps13
    go_wp2_with fail
    go_ret
    exact ⟨rfl, Gr.refl _⟩
  have hx' : ((bs.length : Int) ≤ 1048576) := by omega
  go_enter Tryz.func13, Tryz.ntmps13
  go_wp2_with fail
  (with_reducible refine (DrawFeedAll_c h).mono ?_); rintro e w1 ⟨v1, xs, rfl, hxl, o1, g1⟩
  have hs := o1.s
  obtain ⟨q, cq, rfl, _, _⟩ := hs.form
  have hl : xs.length ≤ 1048576 := by omega
  clear o1
  obtain ⟨fs, r, hR⟩ : ∃ fs r, feedAll xs = (fs, r) := ⟨_, _, rfl⟩
  have HR := Lib.hid hR
  have hfl := feedAll_len xs
  rw [hR] at hfl
  obtain ⟨hf1, hf2, hf3⟩ := hfl
  simp only [] at hf1 hf2 hf3
  cases hz : sniffSize xs with
  | none =>
    have h1 := feedAll_none hz
    rw [hR] at h1
    injection h1 with e1 e2
    subst e1 e2
    clear hR hz
    go_wp2_with fail
    (with_reducible refine (implFeedAll_c (hm.kept g1) (he.kept g1) (ht.kept g1) hs hl HR).mono ?_); rintro e w2 ⟨p2, c2, q2, d2, rfl, a2, b2, g2⟩
    go_wp2_with fail
    (with_reducible refine (specFeedAll_c (hs.kept g2) hl HR).mono ?_); rintro e w3 ⟨p3, c3, q3, d3, rfl, a3, b3, g3⟩
    simp only [List.length_nil] at a2 a3
    go_wp2_with fail
    (with_reducible refine (same_c (b2.kept g3) b3).mono ?_); rintro e w4 ⟨rfl, g4⟩
    go_wp2_with fail
    (with_reducible refine (sameFrames_c (a2.kept (g3.trans g4)) (a3.kept g4)).mono ?_); rintro e w5 ⟨rfl, g5⟩
    have G35 := (g3.trans g4).trans g5
    go_wp2_with fail
    (with_reducible refine (same_c (b2.kept G35) (b3.kept (g4.trans g5))).mono ?_); rintro e w6 ⟨rfl, g6⟩
    go_wp2_with fail
    (with_reducible refine (sameFrames_c (a2.kept (G35.trans g6)) (a3.kept ((g4.trans g5).trans g6))).mono ?_); rintro e w7 ⟨rfl, g7⟩
    go_wp2
    go_ret
    exact ⟨rfl, (((g1.trans g2).trans G35).trans g6).trans g7⟩
  | some n =>
    have h1 := feedAll_some hz
    rw [hR] at h1
    injection h1 with e1 e2
    have HA := take_s hz rfl rfl
    obtain ⟨n0, nl, _⟩ := sniffSize_is hz
    have HR2 : Hid (feedAll (xs.drop n) = (fs.drop 1, r)) := Lib.hid (by rw [e1, e2]; rfl)
    have H0 : Hid (nthL fs 0 = xs.take n) := Lib.hid (by rw [e1]; rfl)
    have hpos : 0 < fs.length := by rw [e1]; simp
    have hne : ((fs.length : Int) == 0) = false := beq_eq_false_iff_ne.2 (by omega)
    have hl1 : (xs.take n).length ≤ 1048576 := by rw [List.length_take]; omega
    have hl2 : (xs.drop n).length ≤ 1048576 := by rw [List.length_drop]; omega
    clear hR hz e1 e2
    generalize xs.take n = us at *
    generalize xs.drop n = vs at *
    go_wp2_with fail
    (with_reducible refine (implFeedAll_c (hm.kept g1) (he.kept g1) (ht.kept g1) hs hl HR).mono ?_); rintro e w2 ⟨p2, c2, q2, d2, rfl, a2, b2, g2⟩
    go_wp2_with fail
    (with_reducible refine (specFeedAll_c (hs.kept g2) hl HR).mono ?_); rintro e w3 ⟨p3, c3, q3, d3, rfl, a3, b3, g3⟩
    go_wp2_with fail
    (with_reducible refine (same_c (b2.kept g3) b3).mono ?_); rintro e w4 ⟨rfl, g4⟩
    go_wp2_with fail
    (with_reducible refine (sameFrames_c (a2.kept (g3.trans g4)) (a3.kept g4)).mono ?_); rintro e w5 ⟨rfl, g5⟩
    have G15 := ((g2.trans g3).trans g4).trans g5
    have G5 := g1.trans G15
    have A5 := a2.kept ((g3.trans g4).trans g5)
    have B5 := b2.kept ((g3.trans g4).trans g5)
    have S5 := hs.kept G15
    clear a2 b2 a3 b3 g2 g3 g4 g5 hs
    go_wp2_with fail
    (with_reducible refine (implTake (hm.kept G5) (he.kept G5) (ht.kept G5) S5 hl HA).mono ?_); rintro e w6 ⟨p6, c6, q6, d6, rfl, a6, b6, g6⟩
    have G6 := G5.trans g6
    go_wp2_with fail
    (with_reducible refine (implFeedAll_c (hm.kept G6) (he.kept G6) (ht.kept G6) b6 hl2 HR2).mono ?_); rintro e w7 ⟨p7, c7, q7, d7, rfl, a7, b7, g7⟩
    have g67 := g6.trans g7
    obtain ⟨a, qa, ca, hix, hca, hra⟩ := (A5.kept g67).ix hpos
    rw [H0.out] at hca hra
    have hix0 : ∀ w1, (Instr.indexAt 45 (.slice p2 fs.length c2) (.int .i64 0)).run Tryz.prog w1 = .ok (.pointer (some a)) w1 := hix
    obtain ⟨vt, hst, hvt⟩ := (A5.kept g67).suf (k := 1) (by omega)
    have hst1 : ∀ w1, (Instr.slice 45 (.slice p2 fs.length c2) (some (.int .i64 1)) none none).run Tryz.prog w1 = .ok vt w1 := hst
    have A7 := a6.kept g7
    have B7 := B5.kept g67
    clear hix hst A5 B5 S5
    generalize hT : fs.drop 1 = ts at *
    have HT := Lib.hid hT
    clear hT
    go_wp2_with fail
    (with_reducible refine (same_c A7 hra).mono ?_); rintro e w8 ⟨rfl, g8⟩
    go_wp2_with fail
    (with_reducible refine (sameFrames_c (a7.kept g8) (hvt.kept g8)).mono ?_); rintro e w9 ⟨rfl, g9⟩
    go_wp2_with fail
    (with_reducible refine (same_c (b7.kept (g8.trans g9)) (B7.kept (g8.trans g9))).mono ?_); rintro e w10 ⟨rfl, g10⟩
    go_wp2
    go_ret
    exact ⟨rfl, (((G6.trans g7).trans g8).trans g9).trans g10⟩
set_option maxHeartbeats 2000000 in
theorem FnFeedAllRest_w {w : World} {v : Value} {bs : List Int} (hm : ML w) (he : ErrV w) (ht : Tab w) (h : ByteS w v bs) :
    Calls Tryz.prog 14 #[v] w fun e w' => e = .returned (.bool true) ∧ Gr w w' := by
  obtain ⟨p, cap, rfl, _, _⟩ := h.form
  by_cases hx : bs.length ≤ 1048576
  rotate_left
  · have hx' : ¬ ((bs.length : Int) ≤ 1048576) := by omega
    go_enter Tryz.func14, Tryz.ntmps14
    go_wp2_with fail
    go_ret
    exact ⟨rfl, Gr.refl _⟩
  have hx' : ((bs.length : Int) ≤ 1048576) := by omega
  go_enter Tryz.func14, Tryz.ntmps14
  go_wp2_with fail
  (with_reducible refine (DrawFeedAll_c h).mono ?_); rintro e w1 ⟨v1, xs, rfl, hxl, o1, g1⟩
  have hs := o1.s
  obtain ⟨q, cq, rfl, _, _⟩ := hs.form
  have hl : xs.length ≤ 1048576 := by omega
  clear o1
  obtain ⟨fs, r, hR⟩ : ∃ fs r, feedAll xs = (fs, r) := ⟨_, _, rfl⟩
  have HR := Lib.hid hR
  have hfl := feedAll_len xs
  rw [hR] at hfl
  obtain ⟨hf1, hf2, hf3⟩ := hfl
  simp only [] at hf1 hf2 hf3
  have hr := feedAll_rest xs
  have hea := feedAll_each xs
  rw [hR] at hr hea
  simp only [] at hr hea
  have HA := take_n hr
  have HE := Lib.hid hea
  clear hR hr hea
  go_wp2_with fail
  (with_reducible refine (implFeedAll_c (hm.kept g1) (he.kept g1) (ht.kept g1) hs hl HR).mono ?_); rintro e w2 ⟨p2, c2, q2, d2, rfl, a2, b2, g2⟩
  go_wp2_with fail
  (with_reducible refine (specFeedAll_c (hs.kept g2) hl HR).mono ?_); rintro e w3 ⟨p3, c3, q3, d3, rfl, a3, b3, g3⟩
  go_wp2_with fail
  (with_reducible refine (same_c (b2.kept g3) b3).mono ?_); rintro e w4 ⟨rfl, g4⟩
  go_wp2_with fail
  (with_reducible refine (sameFrames_c (a2.kept (g3.trans g4)) (a3.kept g4)).mono ?_); rintro e w5 ⟨rfl, g5⟩
  have G15 := ((g2.trans g3).trans g4).trans g5
  have G5 := g1.trans G15
  have A5 := a2.kept ((g3.trans g4).trans g5)
  have B5 := b2.kept ((g3.trans g4).trans g5)
  have S5 := hs.kept G15
  clear a2 b2 a3 b3 g2 g3 g4 g5 hs
  have hrl : r.length ≤ 1048576 := by omega
  go_wp2_with fail
  (with_reducible refine (implTake (hm.kept G5) (he.kept G5) (ht.kept G5) B5 hrl HA).mono ?_); rintro e w6 ⟨p6, c6, q6, d6, rfl, a6, b6, g6⟩
  have G6 := G5.trans g6
  have A6 := A5.kept g6
  go_wp2_with fail
  go_loopw [11] (fun i wr => ∃ k : Nat, k ≤ fs.length ∧ i = .int .i64 k ∧ Gr w6 wr) (fun i _ => fs.length - (intOf i).toNat)
  case atStart => exact ⟨0, Nat.zero_le _, rfl, Gr.refl _⟩
  case round =>
    obtain ⟨k, hk, rfl, hgr⟩ := hrel
    by_cases hlt : k < fs.length
    · obtain ⟨a, qa, ca, hix, hca, hra⟩ := (A6.kept hgr).ix hlt
      have hmem : nthL fs k ∈ fs := by rw [nthL_eq hlt]; exact List.getElem_mem hlt
      have hnl : (nthL fs k).length ≤ 1048576 := by have := hf2 _ hmem; omega
      have HK : Hid (fsA (nthL fs k) = nthL fs k ∧ fsB (nthL fs k) = [] ∧ (sniffSize (nthL fs k)).isSome = true) := take_s (HE.out _ hmem) (List.take_length) (by simp)
      have GW := G6.trans hgr
      clear hmem
      generalize nthL fs k = zs at *
      go_wp2_with fail
      (with_reducible refine (implTake (hm.kept GW) (he.kept GW) (ht.kept GW) hra hnl HK).mono ?_); rintro e w7 ⟨p7, c7, q7, d7, rfl, a7, b7, g7⟩
      go_wp2
      go_roundw
      case rel => exact ⟨k + 1, by omega, by go_num, hgr.trans g7⟩
      case measure => simp [intOf]; omega
    · go_wp2
      go_ret
      exact ⟨rfl, G6.trans hgr⟩
set_option maxHeartbeats 2000000 in
theorem FnFeedAllPut_w {w : World} {v : Value} {bs : List Int} (hm : ML w) (he : ErrV w) (ht : Tab w) (h : ByteS w v bs) :
    Calls Tryz.prog 15 #[v] w fun e w' => e = .returned (.bool true) ∧ Gr w w' := by
  obtain ⟨p, cap, rfl, _, _⟩ := h.form
  by_cases hx : bs.length ≤ 1048576
  rotate_left
  · have hx' : ¬ ((bs.length : Int) ≤ 1048576) := by omega
    go_enter Tryz.func15, Tryz.ntmps15
    go_wp2_with fail
    go_ret
    exact ⟨rfl, Gr.refl _⟩
  have hx' : ((bs.length : Int) ≤ 1048576) := by omega
  go_enter Tryz.func15, Tryz.ntmps15
  go_wp2_with fail
  (with_reducible refine (DrawFeedAll_c h).mono ?_); rintro e w1 ⟨v1, xs, rfl, hxl, o1, g1⟩
  have hs := o1.s
  obtain ⟨q, cq, rfl, _, _⟩ := hs.form
  have hl : xs.length ≤ 1048576 := by omega
  clear o1
  obtain ⟨fs, r, hR⟩ : ∃ fs r, feedAll xs = (fs, r) := ⟨_, _, rfl⟩
  have HR := Lib.hid hR
  have hfl := feedAll_len xs
  rw [hR] at hfl
  obtain ⟨hf1, hf2, hf3⟩ := hfl
  simp only [] at hf1 hf2 hf3
  by_cases hc : r.length = 0 ∧ xs.length ≤ 117
  rotate_left
  · have hcc : (0 < (r.length : Int)) ∨ (¬ (0 < (r.length : Int)) ∧ 117 < (xs.length : Int)) := by omega
    clear hR hc
    rcases hcc with hcc | ⟨hcc, hcd⟩
    · have hcc' : 0 < r.length := by omega
      have hcd : ¬ (r.length = 0) := by omega
      go_wp2_with fail
      (with_reducible refine (implFeedAll_c (hm.kept g1) (he.kept g1) (ht.kept g1) hs hl HR).mono ?_); rintro e w2 ⟨p2, c2, q2, d2, rfl, a2, b2, g2⟩
      go_wp2_with fail
      (with_reducible refine (specFeedAll_c (hs.kept g2) hl HR).mono ?_); rintro e w3 ⟨p3, c3, q3, d3, rfl, a3, b3, g3⟩
      go_wp2_with fail
      (with_reducible refine (same_c (b2.kept g3) b3).mono ?_); rintro e w4 ⟨rfl, g4⟩
      go_wp2_with fail
      (with_reducible refine (sameFrames_c (a2.kept (g3.trans g4)) (a3.kept g4)).mono ?_); rintro e w5 ⟨rfl, g5⟩
      have G15 := ((g2.trans g3).trans g4).trans g5
      have G5 := g1.trans G15
      have A5 := a2.kept ((g3.trans g4).trans g5)
      have B5 := b2.kept ((g3.trans g4).trans g5)
      have S5 := hs.kept G15
      go_wp2_with fail
      (with_reducible refine (same_c B5 (b3.kept (g4.trans g5))).mono ?_); rintro e w6 ⟨rfl, g6⟩
      go_wp2_with fail
      (with_reducible refine (sameFrames_c (A5.kept g6) (a3.kept ((g4.trans g5).trans g6))).mono ?_); rintro e w7 ⟨rfl, g7⟩
      go_wp2
      go_ret
      exact ⟨rfl, (G5.trans g6).trans g7⟩
    · obtain rfl : r = [] := List.eq_nil_of_length_eq_zero (by omega)
      clear hcc hf3
      go_wp2_with fail
      (with_reducible refine (implFeedAll_c (hm.kept g1) (he.kept g1) (ht.kept g1) hs hl HR).mono ?_); rintro e w2 ⟨p2, c2, q2, d2, rfl, a2, b2, g2⟩
      go_wp2_with fail
      (with_reducible refine (specFeedAll_c (hs.kept g2) hl HR).mono ?_); rintro e w3 ⟨p3, c3, q3, d3, rfl, a3, b3, g3⟩
      simp only [List.length_nil] at b2 b3
      go_wp2_with fail
      (with_reducible refine (same_c (b2.kept g3) b3).mono ?_); rintro e w4 ⟨rfl, g4⟩
      go_wp2_with fail
      (with_reducible refine (sameFrames_c (a2.kept (g3.trans g4)) (a3.kept g4)).mono ?_); rintro e w5 ⟨rfl, g5⟩
      have G35 := (g3.trans g4).trans g5
      go_wp2_with fail
      (with_reducible refine (same_c (b2.kept G35) (b3.kept (g4.trans g5))).mono ?_); rintro e w6 ⟨rfl, g6⟩
      go_wp2_with fail
      (with_reducible refine (sameFrames_c (a2.kept (G35.trans g6)) (a3.kept ((g4.trans g5).trans g6))).mono ?_); rintro e w7 ⟨rfl, g7⟩
      go_wp2
      go_ret
      exact ⟨rfl, (((g1.trans g2).trans G35).trans g6).trans g7⟩
  obtain ⟨hr0, h117⟩ := hc
  have hnil : r = [] := List.eq_nil_of_length_eq_zero hr0
  subst hnil
  have hbv := bv_put (fed_empty (by rw [hR])) h117
  have HP := Lib.hid (fed_put hbv)
  have hput := feedAll_put xs (by rw [hR]) hbv
  rw [hR] at hput
  have HR2 := Lib.hid hput
  have hzl : (xs ++ [5, 1, 0]).length ≤ 1048576 := by simp; omega
  have h117' : ¬ (117 < (xs.length : Int)) := by omega
  have HTK : Hid ((fs ++ [[5, 1, 0]]).take fs.length = fs) := Lib.hid (by simp)
  have hlen2 : (fs ++ [[5, 1, 0]]).length = fs.length + 1 := by simp
  have HL2 := Lib.hid hlen2
  have hle2 : fs.length ≤ (fs ++ [[5, 1, 0]]).length := by omega
  clear hR hput hbv hlen2 hr0 hf3
  generalize xs ++ [5, 1, 0] = zs at *
  generalize fs ++ [[5, 1, 0]] = ts at *
  go_wp2_with fail
  (with_reducible refine (implFeedAll_c (hm.kept g1) (he.kept g1) (ht.kept g1) hs hl HR).mono ?_); rintro e w2 ⟨p2, c2, q2, d2, rfl, a2, b2, g2⟩
  go_wp2_with fail
  (with_reducible refine (specFeedAll_c (hs.kept g2) hl HR).mono ?_); rintro e w3 ⟨p3, c3, q3, d3, rfl, a3, b3, g3⟩
  simp only [List.length_nil] at b2 b3
  go_wp2_with fail
  (with_reducible refine (same_c (b2.kept g3) b3).mono ?_); rintro e w4 ⟨rfl, g4⟩
  go_wp2_with fail
  (with_reducible refine (sameFrames_c (a2.kept (g3.trans g4)) (a3.kept g4)).mono ?_); rintro e w5 ⟨rfl, g5⟩
  have G15 := ((g2.trans g3).trans g4).trans g5
  have G5 := g1.trans G15
  have A5 := a2.kept ((g3.trans g4).trans g5)
  have S5 := hs.kept G15
  clear a2 b2 a3 b3 g2 g3 g4 g5 hs
  go_wp2_with fail
  (with_reducible refine (implFeedPut_r HP (S5.kept (gr_alloc w5 _)) (IntO.three rfl).s (by omega) (by simp)).mono ?_); rintro e w6 ⟨v6, rfl, o6, g6⟩
  have g56 : Gr w5 w6 := (gr_alloc w5 _).trans g6
  have G6 := G5.trans g56
  obtain ⟨p6, c6, rfl⟩ := o6.len
  go_wp2_with fail
  (with_reducible refine (implFeedAll_c (hm.kept G6) (he.kept G6) (ht.kept G6) o6.s hzl HR2).mono ?_); rintro e w7 ⟨p7, c7, q7, d7, rfl, a7, b7, g7⟩
  have A7 := A5.kept (g56.trans g7)
  obtain ⟨vt, hst, hvt⟩ := a7.pre hle2
  rw [HTK.out] at hvt
  have hl8 : ((ts.length : Int) == (fs.length : Int) + 1) = true := by rw [HL2.out]; simp
  have hlw : IntKind.i64.wrap ((fs.length : Int) + 1) = (fs.length : Int) + 1 := by rw [IntKind.wrap_i64]; omega
  clear hle2 o6
  go_wp2_with fail
  (with_reducible refine (sameFrames_c hvt A7).mono ?_); rintro e w8 ⟨rfl, g8⟩
  go_wp2
  go_ret
  exact ⟨rfl, (G6.trans g7).trans g8⟩
end Go.Proofs.YtncnnfmfpilonaaGreatDoor
