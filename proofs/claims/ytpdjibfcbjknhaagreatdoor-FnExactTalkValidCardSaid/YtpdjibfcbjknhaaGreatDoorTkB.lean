/- Talks: the reference's test of a talk; new talks, both ways. -/
import Derived.Test.YtpdjibfcbjknhaaGreatDoorTkA
import Derived.Test.YtpdjibfcbjknhaaGreatDoorLgD
namespace Go.Proofs.YtpdjibfcbjknhaaGreatDoor
open Go.RowKit
theorem cloneE {w : World} {v u : Value} {ws : List Int} {ls : List Lg} (st : Int) (d : ByteArray) (h : IntS w v ws) (hl : LgS w u ls) (hw : ws.length ≤ 1000000) (hn : ls.length ≤ 1000000) :
    Calls Tryz.prog 64 #[.agg #[.int .i64 st, v, u, .string d]] w fun e w' => ∃ (p : Option Addr) (c : Nat) (q : Option Addr) (f : Nat), e = .returned (.agg #[.int .i64 st, .slice p ws.length c, .slice q ls.length f, .string d]) ∧ IntO w.heap.size 3 w' (.slice p ws.length c) ws ∧ LgO w.heap.size w' (.slice q ls.length f) ls ∧ Gr w w' :=
  (cloneTalk_c st d h hl hw hn).mono fun _ _ ⟨p, c, q, f, he, o, l, g⟩ => ⟨p, c, q, f, by rw [he]; simp only [S_tx], o, l, g⟩
theorem l23NextE {w : World} {v u : Value} {ws : List Int} {ls : List Lg} (st n : Int) (d : ByteArray) (h : IntS w v ws) (hl : LgS w u ls) (hw : ws.length ≤ 1000000) (hn : ls.length ≤ 1000000) :
    Calls Tryz.prog 113 #[.agg #[.int .i64 st, v, u, .string d], .int .i64 n] w fun e w' => ∃ (p : Option Addr) (c : Nat) (q : Option Addr) (f : Nat), e = .returned (.agg #[.int .i64 n, .slice p ws.length c, .slice q ls.length f, .string ⟨#[]⟩]) ∧ IntO w.heap.size 3 w' (.slice p ws.length c) ws ∧ LgO w.heap.size w' (.slice q ls.length f) ls ∧ Gr w w' :=
  (l23Next_c st n d h hl hw hn).mono fun _ _ ⟨p, c, q, f, he, o, l, g⟩ => ⟨p, c, q, f, he, o, l, g⟩
set_option maxRecDepth 20000 in
set_option maxHeartbeats 4000000 in
theorem specTalkValid_c {w : World} {v u : Value} {ws : List Int} {ls : List Lg} (st : Int) (d : ByteArray) (h : IntS w v ws) (hl : LgS w u ls) (hs : LgSm ls) (hd : d.size ≤ 2000000) :
    Calls Tryz.prog 18 #[.agg #[.int .i64 st, v, u, .string d]] w fun e w' => e = .returned (.bool (talkOk ⟨st, ws, ls, tx d⟩)) ∧ Gr w w' := by
  obtain ⟨p, cap, rfl, _, _⟩ := h.form
  obtain ⟨q, caq, rfl, hq1, hq2⟩ := hl.form
  have gB := gr_alloc w (.cells #[.int .i64 st, .slice p ws.length cap, .slice q ls.length caq, .string d] 26)
  have hB := heap_alloc_new w (.cells #[.int .i64 st, .slice p ws.length cap, .slice q ls.length caq, .string d] 26)
  obtain ⟨ka, qa, na, pa, oa, hA⟩ := adrIs_some (tx d)
  have hoa : (addrFrom (tx d)).isSome = oa := by
    rcases hA with ⟨e, rfl⟩ | ⟨e, _, _, _, _, rfl⟩
    · rw [e]; rfl
    · rw [e]; rfl
  have AF := Lib.hid (fun W : World => specAddressFrom_c W d hd (Lib.hid hA))
  have hP : talkOk ⟨st, ws, ls, tx d⟩ = (setOk ws ls && (inB 0 4 st && ((!decide (st = 1) || hasI ws 2) && ((decide (st = 3) == oa) && (oa || (tx d).isEmpty))))) := by
    have := talk_last (decide (st = 3)) (tx d)
    rw [hoa] at this
    rw [this]
    unfold talkOk
    simp only [hoa, decide_eq_true_eq]
  have HP := Lib.hid hP
  have hem := emp_tx d
  clear hA hoa hP
  generalize talkOk ⟨st, ws, ls, tx d⟩ = r at *
  cases h1 : setOk ws ls
  · have HF : Hid (r = false) := by rw [Hid, HP.out, h1]; rfl
    have H1 := Lib.hid h1
    clear h1
    go_enter Tryz.func18, Tryz.ntmps18
    go_wp2_with fail
    (with_reducible refine (AF.out _).mono ?_); rintro e w1 ⟨q1, c1, rfl, o1, g1⟩
    have gC := gr_alloc w1 (.cells #[.int .i64 ka, .slice q1 qa.length c1, .string na, .int .i64 pa] 65)
    have HB2 := Lib.hid (gC.blk (g1.blk hB))
    have G2 := (gB.trans g1).trans gC
    go_upto_region 2 with fail
    generalize w1.alloc (.cells #[.int .i64 ka, .slice q1 qa.length c1, .string na, .int .i64 pa] 65) = w2 at *
    have h2 := h.kept G2
    have hl2 := hl.kept G2
    clear gC o1
    have s0 := blk_cell HB2.out (j := 0) rfl
    have s1 := blk_cell HB2.out (j := 1) rfl
    have s2 := blk_cell HB2.out (j := 2) rfl
    have s3 := blk_cell HB2.out (j := 3) rfl
    go_wp2_with fail
    (with_reducible refine (l23Ok_c h2 hl2 hs).mono ?_); rintro e w3 ⟨rfl, g3⟩
    rw [H1.out]
    have G3 := G2.trans g3
    go_wp2
    go_ret
    exact ⟨ret_bool HF.out.symm, G3⟩
  have H1 := Lib.hid h1
  cases h2 : inB 0 4 st
  · have HF : Hid (r = false) := by rw [Hid, HP.out, h1, h2]; rfl
    have H2 := Lib.hid h2
    clear h1 h2
    go_enter Tryz.func18, Tryz.ntmps18
    go_wp2_with fail
    (with_reducible refine (AF.out _).mono ?_); rintro e w1 ⟨q1, c1, rfl, o1, g1⟩
    have gC := gr_alloc w1 (.cells #[.int .i64 ka, .slice q1 qa.length c1, .string na, .int .i64 pa] 65)
    have HB2 := Lib.hid (gC.blk (g1.blk hB))
    have G2 := (gB.trans g1).trans gC
    go_upto_region 2 with fail
    generalize w1.alloc (.cells #[.int .i64 ka, .slice q1 qa.length c1, .string na, .int .i64 pa] 65) = w2 at *
    have h2 := h.kept G2
    have hl2 := hl.kept G2
    clear gC o1
    have s0 := blk_cell HB2.out (j := 0) rfl
    have s1 := blk_cell HB2.out (j := 1) rfl
    have s2 := blk_cell HB2.out (j := 2) rfl
    have s3 := blk_cell HB2.out (j := 3) rfl
    go_wp2_with fail
    (with_reducible refine (l23Ok_c h2 hl2 hs).mono ?_); rintro e w3 ⟨rfl, g3⟩
    rw [H1.out]
    have G3 := G2.trans g3
    have HB3 := Lib.hid (g3.blk HB2.out)
    clear s0 s1 s2 s3
    have s0 := blk_cell HB3.out (j := 0) rfl
    have s1 := blk_cell HB3.out (j := 1) rfl
    have s2 := blk_cell HB3.out (j := 2) rfl
    have s3 := blk_cell HB3.out (j := 3) rfl
    go_wp2_with fail
    (with_reducible refine (l6In_c _ _ _ _).mono ?_); rintro e w4 ⟨rfl, rfl⟩
    rw [H2.out]
    go_wp2
    go_ret
    exact ⟨ret_bool HF.out.symm, G3⟩
  have H2 := Lib.hid h2
  have HQ : Hid (r = ((!decide (st = 1) || hasI ws 2) && ((decide (st = 3) == oa) && (oa || (tx d).isEmpty)))) := by rw [Hid, HP.out, h1, h2]; rfl
  clear h1 h2 HP
  by_cases k1 : st = 1
  · subst k1
    cases h3 : hasI ws 2
    · have HF : Hid (r = false) := by rw [Hid, HQ.out, h3]; rfl
      have H3 := Lib.hid h3
      clear h3
      go_enter Tryz.func18, Tryz.ntmps18
      go_wp2_with fail
      (with_reducible refine (AF.out _).mono ?_); rintro e w1 ⟨q1, c1, rfl, o1, g1⟩
      have gC := gr_alloc w1 (.cells #[.int .i64 ka, .slice q1 qa.length c1, .string na, .int .i64 pa] 65)
      have HB2 := Lib.hid (gC.blk (g1.blk hB))
      have G2 := (gB.trans g1).trans gC
      go_upto_region 2 with fail
      generalize w1.alloc (.cells #[.int .i64 ka, .slice q1 qa.length c1, .string na, .int .i64 pa] 65) = w2 at *
      have h2 := h.kept G2
      have hl2 := hl.kept G2
      clear gC o1
      have s0 := blk_cell HB2.out (j := 0) rfl
      have s1 := blk_cell HB2.out (j := 1) rfl
      have s2 := blk_cell HB2.out (j := 2) rfl
      have s3 := blk_cell HB2.out (j := 3) rfl
      go_wp2_with fail
      (with_reducible refine (l23Ok_c h2 hl2 hs).mono ?_); rintro e w3 ⟨rfl, g3⟩
      rw [H1.out]
      have G3 := G2.trans g3
      have HB3 := Lib.hid (g3.blk HB2.out)
      clear s0 s1 s2 s3
      have s0 := blk_cell HB3.out (j := 0) rfl
      have s1 := blk_cell HB3.out (j := 1) rfl
      have s2 := blk_cell HB3.out (j := 2) rfl
      have s3 := blk_cell HB3.out (j := 3) rfl
      go_wp2_with fail
      (with_reducible refine (l6In_c _ _ _ _).mono ?_); rintro e w4 ⟨rfl, rfl⟩
      rw [H2.out]
      go_wp2_with fail
      (with_reducible refine (l5Has_c 2 (h2.kept g3)).mono ?_); rintro e w5 ⟨rfl, rfl⟩
      rw [H3.out]
      go_wp2
      go_ret
      exact ⟨ret_bool HF.out.symm, G3⟩
    · have H3 := Lib.hid h3
      cases oa
      · have HF : Hid (r = (tx d).isEmpty) := by rw [Hid, HQ.out, h3]; rfl
        clear h3
        go_enter Tryz.func18, Tryz.ntmps18
        go_wp2_with fail
        (with_reducible refine (AF.out _).mono ?_); rintro e w1 ⟨q1, c1, rfl, o1, g1⟩
        have gC := gr_alloc w1 (.cells #[.int .i64 ka, .slice q1 qa.length c1, .string na, .int .i64 pa] 65)
        have HB2 := Lib.hid (gC.blk (g1.blk hB))
        have G2 := (gB.trans g1).trans gC
        go_upto_region 2 with fail
        generalize w1.alloc (.cells #[.int .i64 ka, .slice q1 qa.length c1, .string na, .int .i64 pa] 65) = w2 at *
        have h2 := h.kept G2
        have hl2 := hl.kept G2
        clear gC o1
        have s0 := blk_cell HB2.out (j := 0) rfl
        have s1 := blk_cell HB2.out (j := 1) rfl
        have s2 := blk_cell HB2.out (j := 2) rfl
        have s3 := blk_cell HB2.out (j := 3) rfl
        go_wp2_with fail
        (with_reducible refine (l23Ok_c h2 hl2 hs).mono ?_); rintro e w3 ⟨rfl, g3⟩
        rw [H1.out]
        have G3 := G2.trans g3
        have HB3 := Lib.hid (g3.blk HB2.out)
        clear s0 s1 s2 s3
        have s0 := blk_cell HB3.out (j := 0) rfl
        have s1 := blk_cell HB3.out (j := 1) rfl
        have s2 := blk_cell HB3.out (j := 2) rfl
        have s3 := blk_cell HB3.out (j := 3) rfl
        go_wp2_with fail
        (with_reducible refine (l6In_c _ _ _ _).mono ?_); rintro e w4 ⟨rfl, rfl⟩
        rw [H2.out]
        go_wp2_with fail
        (with_reducible refine (l5Has_c 2 (h2.kept g3)).mono ?_); rintro e w5 ⟨rfl, rfl⟩
        rw [H3.out]
        go_wp2
        go_ret
        exact ⟨ret_bool HF.out.symm, G3⟩
      · have HF : Hid (r = false) := by rw [Hid, HQ.out, h3]; rfl
        clear h3
        go_enter Tryz.func18, Tryz.ntmps18
        go_wp2_with fail
        (with_reducible refine (AF.out _).mono ?_); rintro e w1 ⟨q1, c1, rfl, o1, g1⟩
        have gC := gr_alloc w1 (.cells #[.int .i64 ka, .slice q1 qa.length c1, .string na, .int .i64 pa] 65)
        have HB2 := Lib.hid (gC.blk (g1.blk hB))
        have G2 := (gB.trans g1).trans gC
        go_upto_region 2 with fail
        generalize w1.alloc (.cells #[.int .i64 ka, .slice q1 qa.length c1, .string na, .int .i64 pa] 65) = w2 at *
        have h2 := h.kept G2
        have hl2 := hl.kept G2
        clear gC o1
        have s0 := blk_cell HB2.out (j := 0) rfl
        have s1 := blk_cell HB2.out (j := 1) rfl
        have s2 := blk_cell HB2.out (j := 2) rfl
        have s3 := blk_cell HB2.out (j := 3) rfl
        go_wp2_with fail
        (with_reducible refine (l23Ok_c h2 hl2 hs).mono ?_); rintro e w3 ⟨rfl, g3⟩
        rw [H1.out]
        have G3 := G2.trans g3
        have HB3 := Lib.hid (g3.blk HB2.out)
        clear s0 s1 s2 s3
        have s0 := blk_cell HB3.out (j := 0) rfl
        have s1 := blk_cell HB3.out (j := 1) rfl
        have s2 := blk_cell HB3.out (j := 2) rfl
        have s3 := blk_cell HB3.out (j := 3) rfl
        go_wp2_with fail
        (with_reducible refine (l6In_c _ _ _ _).mono ?_); rintro e w4 ⟨rfl, rfl⟩
        rw [H2.out]
        go_wp2_with fail
        (with_reducible refine (l5Has_c 2 (h2.kept g3)).mono ?_); rintro e w5 ⟨rfl, rfl⟩
        rw [H3.out]
        go_wp2
        go_ret
        exact ⟨ret_bool HF.out.symm, G3⟩
  · have k1' : (st == 1) = false := beq_eq_false_iff_ne.2 k1
    have HQ2 : Hid (r = ((decide (st = 3) == oa) && (oa || (tx d).isEmpty))) := by rw [Hid, HQ.out, decide_eq_false k1]; rfl
    by_cases k3 : st = 3
    · subst k3
      cases oa
      · have HF : Hid (r = false) := by rw [Hid, HQ2.out]; rfl
        clear k1
        go_enter Tryz.func18, Tryz.ntmps18
        go_wp2_with fail
        (with_reducible refine (AF.out _).mono ?_); rintro e w1 ⟨q1, c1, rfl, o1, g1⟩
        have gC := gr_alloc w1 (.cells #[.int .i64 ka, .slice q1 qa.length c1, .string na, .int .i64 pa] 65)
        have HB2 := Lib.hid (gC.blk (g1.blk hB))
        have G2 := (gB.trans g1).trans gC
        go_upto_region 2 with fail
        generalize w1.alloc (.cells #[.int .i64 ka, .slice q1 qa.length c1, .string na, .int .i64 pa] 65) = w2 at *
        have h2 := h.kept G2
        have hl2 := hl.kept G2
        clear gC o1
        have s0 := blk_cell HB2.out (j := 0) rfl
        have s1 := blk_cell HB2.out (j := 1) rfl
        have s2 := blk_cell HB2.out (j := 2) rfl
        have s3 := blk_cell HB2.out (j := 3) rfl
        go_wp2_with fail
        (with_reducible refine (l23Ok_c h2 hl2 hs).mono ?_); rintro e w3 ⟨rfl, g3⟩
        rw [H1.out]
        have G3 := G2.trans g3
        have HB3 := Lib.hid (g3.blk HB2.out)
        clear s0 s1 s2 s3
        have s0 := blk_cell HB3.out (j := 0) rfl
        have s1 := blk_cell HB3.out (j := 1) rfl
        have s2 := blk_cell HB3.out (j := 2) rfl
        have s3 := blk_cell HB3.out (j := 3) rfl
        go_wp2_with fail
        (with_reducible refine (l6In_c _ _ _ _).mono ?_); rintro e w4 ⟨rfl, rfl⟩
        rw [H2.out]
        go_wp2
        go_ret
        exact ⟨ret_bool HF.out.symm, G3⟩
      · have HF : Hid (r = true) := by rw [Hid, HQ2.out]; rfl
        clear k1
        go_enter Tryz.func18, Tryz.ntmps18
        go_wp2_with fail
        (with_reducible refine (AF.out _).mono ?_); rintro e w1 ⟨q1, c1, rfl, o1, g1⟩
        have gC := gr_alloc w1 (.cells #[.int .i64 ka, .slice q1 qa.length c1, .string na, .int .i64 pa] 65)
        have HB2 := Lib.hid (gC.blk (g1.blk hB))
        have G2 := (gB.trans g1).trans gC
        go_upto_region 2 with fail
        generalize w1.alloc (.cells #[.int .i64 ka, .slice q1 qa.length c1, .string na, .int .i64 pa] 65) = w2 at *
        have h2 := h.kept G2
        have hl2 := hl.kept G2
        clear gC o1
        have s0 := blk_cell HB2.out (j := 0) rfl
        have s1 := blk_cell HB2.out (j := 1) rfl
        have s2 := blk_cell HB2.out (j := 2) rfl
        have s3 := blk_cell HB2.out (j := 3) rfl
        go_wp2_with fail
        (with_reducible refine (l23Ok_c h2 hl2 hs).mono ?_); rintro e w3 ⟨rfl, g3⟩
        rw [H1.out]
        have G3 := G2.trans g3
        have HB3 := Lib.hid (g3.blk HB2.out)
        clear s0 s1 s2 s3
        have s0 := blk_cell HB3.out (j := 0) rfl
        have s1 := blk_cell HB3.out (j := 1) rfl
        have s2 := blk_cell HB3.out (j := 2) rfl
        have s3 := blk_cell HB3.out (j := 3) rfl
        go_wp2_with fail
        (with_reducible refine (l6In_c _ _ _ _).mono ?_); rintro e w4 ⟨rfl, rfl⟩
        rw [H2.out]
        go_wp2
        go_ret
        exact ⟨ret_bool HF.out.symm, G3⟩
    · have k3' : (st == 3) = false := beq_eq_false_iff_ne.2 k3
      rw [decide_eq_false k3] at HQ2
      clear k1 k3
      cases oa
      · have HF : Hid (r = (tx d).isEmpty) := by rw [Hid, HQ2.out]; rfl
        go_enter Tryz.func18, Tryz.ntmps18
        go_wp2_with fail
        (with_reducible refine (AF.out _).mono ?_); rintro e w1 ⟨q1, c1, rfl, o1, g1⟩
        have gC := gr_alloc w1 (.cells #[.int .i64 ka, .slice q1 qa.length c1, .string na, .int .i64 pa] 65)
        have HB2 := Lib.hid (gC.blk (g1.blk hB))
        have G2 := (gB.trans g1).trans gC
        go_upto_region 2 with fail
        generalize w1.alloc (.cells #[.int .i64 ka, .slice q1 qa.length c1, .string na, .int .i64 pa] 65) = w2 at *
        have h2 := h.kept G2
        have hl2 := hl.kept G2
        clear gC o1
        have s0 := blk_cell HB2.out (j := 0) rfl
        have s1 := blk_cell HB2.out (j := 1) rfl
        have s2 := blk_cell HB2.out (j := 2) rfl
        have s3 := blk_cell HB2.out (j := 3) rfl
        go_wp2_with fail
        (with_reducible refine (l23Ok_c h2 hl2 hs).mono ?_); rintro e w3 ⟨rfl, g3⟩
        rw [H1.out]
        have G3 := G2.trans g3
        have HB3 := Lib.hid (g3.blk HB2.out)
        clear s0 s1 s2 s3
        have s0 := blk_cell HB3.out (j := 0) rfl
        have s1 := blk_cell HB3.out (j := 1) rfl
        have s2 := blk_cell HB3.out (j := 2) rfl
        have s3 := blk_cell HB3.out (j := 3) rfl
        go_wp2_with fail
        (with_reducible refine (l6In_c _ _ _ _).mono ?_); rintro e w4 ⟨rfl, rfl⟩
        rw [H2.out]
        go_wp2
        go_ret
        exact ⟨ret_bool HF.out.symm, G3⟩
      · have HF : Hid (r = false) := by rw [Hid, HQ2.out]; rfl
        go_enter Tryz.func18, Tryz.ntmps18
        go_wp2_with fail
        (with_reducible refine (AF.out _).mono ?_); rintro e w1 ⟨q1, c1, rfl, o1, g1⟩
        have gC := gr_alloc w1 (.cells #[.int .i64 ka, .slice q1 qa.length c1, .string na, .int .i64 pa] 65)
        have HB2 := Lib.hid (gC.blk (g1.blk hB))
        have G2 := (gB.trans g1).trans gC
        go_upto_region 2 with fail
        generalize w1.alloc (.cells #[.int .i64 ka, .slice q1 qa.length c1, .string na, .int .i64 pa] 65) = w2 at *
        have h2 := h.kept G2
        have hl2 := hl.kept G2
        clear gC o1
        have s0 := blk_cell HB2.out (j := 0) rfl
        have s1 := blk_cell HB2.out (j := 1) rfl
        have s2 := blk_cell HB2.out (j := 2) rfl
        have s3 := blk_cell HB2.out (j := 3) rfl
        go_wp2_with fail
        (with_reducible refine (l23Ok_c h2 hl2 hs).mono ?_); rintro e w3 ⟨rfl, g3⟩
        rw [H1.out]
        have G3 := G2.trans g3
        have HB3 := Lib.hid (g3.blk HB2.out)
        clear s0 s1 s2 s3
        have s0 := blk_cell HB3.out (j := 0) rfl
        have s1 := blk_cell HB3.out (j := 1) rfl
        have s2 := blk_cell HB3.out (j := 2) rfl
        have s3 := blk_cell HB3.out (j := 3) rfl
        go_wp2_with fail
        (with_reducible refine (l6In_c _ _ _ _).mono ?_); rintro e w4 ⟨rfl, rfl⟩
        rw [H2.out]
        go_wp2
        go_ret
        exact ⟨ret_bool HF.out.symm, G3⟩
/-- What TalkNew hands back. -/
def TnO (ws : List Int) (ls : List Lg) (w : World) (e : Ending) (w' : World) : Prop :=
  ∃ (p q : Option Addr) (c d : Nat) (us : List Int) (ms : List Lg) (ok : Bool), e = .returned (.tuple #[.agg #[.int .i64 0, .slice p us.length c, .slice q ms.length d, .string ⟨#[]⟩], .bool ok]) ∧ ((setOk ws ls = true ∧ us = ws ∧ ms = ls ∧ ok = true) ∨ (setOk ws ls = false ∧ us = [] ∧ ms = [] ∧ ok = false)) ∧
    IntO w.heap.size 3 w' (.slice p us.length c) us ∧ LgO w.heap.size w' (.slice q ms.length d) ms ∧ Gr w w'
theorem TnO.no {ws : List Int} {ls : List Lg} {w w' : World} (hn : setOk ws ls = false) (hg : Gr w w') : TnO ws ls w (.returned (.tuple #[.agg #[.int .i64 0, .slice none 0 0, .slice none 0 0, .string ⟨#[]⟩], .bool false])) w' :=
  ⟨none, none, 0, 0, [], [], false, rfl, .inr ⟨hn, rfl, rfl, rfl⟩, IntO.nil _ _ _, LgO.nil _ _, hg⟩
theorem TnO.yes {ws : List Int} {ls : List Lg} {w w' : World} {p q : Option Addr} {c d : Nat} (hn : setOk ws ls = true) (o : IntO w.heap.size 3 w' (.slice p ws.length c) ws) (l : LgO w.heap.size w' (.slice q ls.length d) ls) (hg : Gr w w') :
    TnO ws ls w (.returned (.tuple #[.agg #[.int .i64 0, .slice p ws.length c, .slice q ls.length d, .string ⟨#[]⟩], .bool true])) w' :=
  ⟨p, q, c, d, ws, ls, true, rfl, .inl ⟨hn, rfl, rfl, rfl⟩, o, l, hg⟩
theorem LgO.keptC {B b : Nat} {w w' : World} {v : Value} {ls : List Lg} (h : LgO B w v ls) (hc : Chg b (b + 1) w w') (hB : b < B) : LgO B w' v ls := (OwnB.chg (Own.b h) hc (.inr hB)).1
theorem IntO.keptC {B b : Nat} {w w' : World} {v : Value} {xs : List Int} (h : IntO B 3 w v xs) (hc : Chg b (b + 1) w w') (hB : b < B) : IntO B 3 w' v xs := (IntB.chg h.b hc (.inr hB)).o
set_option maxRecDepth 20000 in
set_option maxHeartbeats 4000000 in
theorem specTalkNew_c {w : World} {v u : Value} {ws : List Int} {ls : List Lg} (h : IntS w v ws) (hl : LgS w u ls) (hs : LgSm ls) (hw : ws.length ≤ 1000000) (hn : ls.length ≤ 1000000) :
    Calls Tryz.prog 20 #[v, u] w (TnO ws ls w) := by
  obtain ⟨p, cap, rfl, _, _⟩ := h.form
  obtain ⟨q, caq, rfl, _, _⟩ := hl.form
  have gA := gr_alloc w (.cells #[.int .i64 0, .slice none 0 0, .slice none 0 0, .string ⟨#[]⟩] 26)
  have hA := heap_alloc_new w (.cells #[.int .i64 0, .slice none 0 0, .slice none 0 0, .string ⟨#[]⟩] 26)
  have zA : w.heap.size + 1 ≤ (w.alloc (.cells #[.int .i64 0, .slice none 0 0, .slice none 0 0, .string ⟨#[]⟩] 26)).heap.size := by simp
  cases hk : setOk ws ls
  · have HN := Lib.hid hk
    clear hk
    go_enter Tryz.func20, Tryz.ntmps20
    go_wp2_with fail
    (with_reducible refine (l23Ok_c (h.kept gA) (hl.kept gA) hs).mono ?_); rintro e w1 ⟨rfl, g1⟩
    rw [HN.out]
    have HB1 := Lib.hid (g1.blk hA)
    have G1 := gA.trans g1
    have x0 := blk_cell HB1.out (j := 0) rfl
    have x1 := blk_cell HB1.out (j := 1) rfl
    have x2 := blk_cell HB1.out (j := 2) rfl
    have x3 := blk_cell HB1.out (j := 3) rfl
    have f0 := blk_frozen HB1.out 0
    have f1 := blk_frozen HB1.out 1
    have f2 := blk_frozen HB1.out 2
    have f3 := blk_frozen HB1.out 3
    go_wp2
    change bodyPost _ _ _ _ _ (put4 w1 w.heap.size (.int .i64 0) (.slice none 0 0) (.slice none 0 0) (.string ⟨#[]⟩))
    have hW := put4_blk HB1.out (.int .i64 0) (.slice none 0 0) (.slice none 0 0) (.string ⟨#[]⟩)
    have cW := put4_chg w1 w.heap.size (.int .i64 0) (.slice none 0 0) (.slice none 0 0) (.string ⟨#[]⟩)
    generalize put4 w1 w.heap.size (.int .i64 0) (.slice none 0 0) (.slice none 0 0) (.string ⟨#[]⟩) = wz at *
    have y0 := blk_cell hW (j := 0) rfl
    have y1 := blk_cell hW (j := 1) rfl
    have y2 := blk_cell hW (j := 2) rfl
    have y3 := blk_cell hW (j := 3) rfl
    exact bodyPost_ret (v := .tuple #[.agg #[.int .i64 0, .slice none 0 0, .slice none 0 0, .string ⟨#[]⟩], .bool false]) (by simp [results, Tryz.results20, go_sem, y0, y1, y2, y3]) rfl (TnO.no HN.out (cW.gr G1 (Nat.le_refl _)))
  · have HN := Lib.hid hk
    clear hk
    go_enter Tryz.func20, Tryz.ntmps20
    go_wp2_with fail
    (with_reducible refine (l23Ok_c (h.kept gA) (hl.kept gA) hs).mono ?_); rintro e w1 ⟨rfl, g1⟩
    rw [HN.out]
    have HB1 := Lib.hid (g1.blk hA)
    have G1 := gA.trans g1
    have h1 := h.kept G1
    have hl1 := hl.kept G1
    have z1 := g1.sz
    clear hA
    go_wp2_with (first
      | (at_builtin; refine wpl_appE rfl (.tmp 11) (.tmp 12) rfl rfl rfl (heap_alloc_new w1 _) (h1.kept (gr_alloc _ _)) (by omega) ?_; intro p2 c2 w2 o2 g2a; have g2 : Gr w1 w2 := (gr_alloc _ _).trans g2a)
      | (at_builtin; refine wpl_appEL rfl (.tmp 14) (.tmp 15) rfl rfl rfl (heap_alloc_new w2 _) (hl1.kept (g2.alloc _)) hn ?_; intro p3 c3 w3 o3 g3a; have g3 : Gr w1 w3 := (g2.alloc _).trans g3a; have HB3 := Lib.hid (g3.blk HB1.out); have o2' := IntO.kept o2 ((gr_alloc w2 (.cells #[] 59)).trans g3a); have x0 := blk_cell HB3.out (j := 0) rfl; have x1 := blk_cell HB3.out (j := 1) rfl; have x2 := blk_cell HB3.out (j := 2) rfl; have x3 := blk_cell HB3.out (j := 3) rfl; have f0 := blk_frozen HB3.out 0; have f1 := blk_frozen HB3.out 1; have f2 := blk_frozen HB3.out 2; have f3 := blk_frozen HB3.out 3))
    have z2 := g2.sz
    change bodyPost _ _ _ _ _ (put4 w3 w.heap.size (.int .i64 0) (.slice p2 ws.length c2) (.slice p3 ls.length c3) (.string ⟨#[]⟩))
    have hW := put4_blk HB3.out (.int .i64 0) (.slice p2 ws.length c2) (.slice p3 ls.length c3) (.string ⟨#[]⟩)
    have cW := put4_chg w3 w.heap.size (.int .i64 0) (.slice p2 ws.length c2) (.slice p3 ls.length c3) (.string ⟨#[]⟩)
    generalize put4 w3 w.heap.size (.int .i64 0) (.slice p2 ws.length c2) (.slice p3 ls.length c3) (.string ⟨#[]⟩) = wz at *
    have y0 := blk_cell hW (j := 0) rfl
    have y1 := blk_cell hW (j := 1) rfl
    have y2 := blk_cell hW (j := 2) rfl
    have y3 := blk_cell hW (j := 3) rfl
    exact bodyPost_ret (v := .tuple #[.agg #[.int .i64 0, .slice p2 ws.length c2, .slice p3 ls.length c3, .string ⟨#[]⟩], .bool true]) (by simp [results, Tryz.results20, go_sem, y0, y1, y2, y3]) rfl (TnO.yes HN.out ((IntO.keptC o2' cW (by omega)).mono (by omega)) ((LgO.keptC o3 cW (by omega)).mono (by omega)) (cW.gr (G1.trans g3) (Nat.le_refl _)))
set_option maxRecDepth 20000 in
set_option maxHeartbeats 4000000 in
theorem implTalkNew_c {w : World} {v u : Value} {ws : List Int} {ls : List Lg} (hm : ML w) (he : ErrV w) (ht : Tab w) (h : IntS w v ws) (hl : LgS w u ls) (hs : LgSm ls) (hw : ws.length ≤ 1000000) (hn : ls.length ≤ 1000000) :
    Calls Tryz.prog 23 #[v, u] w (TnO ws ls w) := by
  obtain ⟨p, cap, rfl, _, _⟩ := h.form
  obtain ⟨q, caq, rfl, _, _⟩ := hl.form
  have gA := gr_alloc w (.cells #[.int .i64 0, .slice none 0 0, .slice none 0 0, .string ⟨#[]⟩] 26)
  have hA := heap_alloc_new w (.cells #[.int .i64 0, .slice none 0 0, .slice none 0 0, .string ⟨#[]⟩] 26)
  have zA : w.heap.size + 1 ≤ (w.alloc (.cells #[.int .i64 0, .slice none 0 0, .slice none 0 0, .string ⟨#[]⟩] 26)).heap.size := by simp
  have hz : (⟨#[]⟩ : ByteArray).size ≤ 2000000 := by decide
  have HK : Hid (talkOk ⟨0, ws, ls, tx ⟨#[]⟩⟩ = setOk ws ls) := Lib.hid (talkOk_new ws ls)
  go_enter Tryz.func23, Tryz.ntmps23
  go_wp2_with fail
  (with_reducible refine (cloneE 0 ⟨#[]⟩ (h.kept gA) (hl.kept gA) hw hn).mono ?_); rintro e w1 ⟨p1, c1, q1, d1, rfl, o1, l1, g1⟩
  have G1 := gA.trans g1
  have HB1 := Lib.hid (g1.blk hA)
  have z1 := g1.sz
  have gC := gr_alloc w1 (.cells #[.int .i64 0, .slice p1 ws.length c1, .slice q1 ls.length d1, .string ⟨#[]⟩] 26)
  have hC := heap_alloc_new w1 (.cells #[.int .i64 0, .slice p1 ws.length c1, .slice q1 ls.length d1, .string ⟨#[]⟩] 26)
  have HC := Lib.hid hC
  have HB2 := Lib.hid (gC.blk HB1.out)
  have G2 := G1.trans gC
  have o2 := IntO.mono (B' := w.heap.size + 1) (o1.kept gC) (by omega)
  have l2 := LgO.mono (B' := w.heap.size + 1) (l1.kept gC) (by omega)
  clear hC hA gA g1 HB1 o1 l1
  go_upto_region 2 with fail
  generalize w1.alloc (.cells #[.int .i64 0, .slice p1 ws.length c1, .slice q1 ls.length d1, .string ⟨#[]⟩] 26) = w2 at *
  have s0 := blk_cell HC.out (j := 0) rfl
  have s1 := blk_cell HC.out (j := 1) rfl
  have s2 := blk_cell HC.out (j := 2) rfl
  have s3 := blk_cell HC.out (j := 3) rfl
  cases hk : setOk ws ls
  · have HN := Lib.hid hk
    rw [hk] at HK
    clear hk
    go_wp2_with fail
    (with_reducible refine (implTalkValid_c (hm.kept G2) (he.kept G2) (ht.kept G2) 0 ⟨#[]⟩ o2.s l2.s hs hz).mono ?_); rintro e w3 ⟨rfl, g3⟩
    rw [HK.out]
    have HB3 := Lib.hid (g3.blk HB2.out)
    have G3 := G2.trans g3
    clear s0 s1 s2 s3
    have x0 := blk_cell HB3.out (j := 0) rfl
    have x1 := blk_cell HB3.out (j := 1) rfl
    have x2 := blk_cell HB3.out (j := 2) rfl
    have x3 := blk_cell HB3.out (j := 3) rfl
    have f0 := blk_frozen HB3.out 0
    have f1 := blk_frozen HB3.out 1
    have f2 := blk_frozen HB3.out 2
    have f3 := blk_frozen HB3.out 3
    go_wp2
    change bodyPost _ _ _ _ _ (put4 w3 w.heap.size (.int .i64 0) (.slice none 0 0) (.slice none 0 0) (.string ⟨#[]⟩))
    have hW := put4_blk HB3.out (.int .i64 0) (.slice none 0 0) (.slice none 0 0) (.string ⟨#[]⟩)
    have cW := put4_chg w3 w.heap.size (.int .i64 0) (.slice none 0 0) (.slice none 0 0) (.string ⟨#[]⟩)
    generalize put4 w3 w.heap.size (.int .i64 0) (.slice none 0 0) (.slice none 0 0) (.string ⟨#[]⟩) = wz at *
    have y0 := blk_cell hW (j := 0) rfl
    have y1 := blk_cell hW (j := 1) rfl
    have y2 := blk_cell hW (j := 2) rfl
    have y3 := blk_cell hW (j := 3) rfl
    exact bodyPost_ret (v := .tuple #[.agg #[.int .i64 0, .slice none 0 0, .slice none 0 0, .string ⟨#[]⟩], .bool false]) (by simp [results, Tryz.results23, go_sem, y0, y1, y2, y3]) rfl (TnO.no HN.out (cW.gr G3 (Nat.le_refl _)))
  · have HN := Lib.hid hk
    rw [hk] at HK
    clear hk
    go_wp2_with fail
    (with_reducible refine (implTalkValid_c (hm.kept G2) (he.kept G2) (ht.kept G2) 0 ⟨#[]⟩ o2.s l2.s hs hz).mono ?_); rintro e w3 ⟨rfl, g3⟩
    rw [HK.out]
    have HB3 := Lib.hid (g3.blk HB2.out)
    have HC3 := Lib.hid (g3.blk HC.out)
    have G3 := G2.trans g3
    clear s0 s1 s2 s3
    have s0 := blk_cell HC3.out (j := 0) rfl
    have s1 := blk_cell HC3.out (j := 1) rfl
    have s2 := blk_cell HC3.out (j := 2) rfl
    have s3 := blk_cell HC3.out (j := 3) rfl
    have x0 := blk_cell HB3.out (j := 0) rfl
    have x1 := blk_cell HB3.out (j := 1) rfl
    have x2 := blk_cell HB3.out (j := 2) rfl
    have x3 := blk_cell HB3.out (j := 3) rfl
    have f0 := blk_frozen HB3.out 0
    have f1 := blk_frozen HB3.out 1
    have f2 := blk_frozen HB3.out 2
    have f3 := blk_frozen HB3.out 3
    go_wp2
    change bodyPost _ _ _ _ _ (put4 w3 w.heap.size (.int .i64 0) (.slice p1 ws.length c1) (.slice q1 ls.length d1) (.string ⟨#[]⟩))
    have hW := put4_blk HB3.out (.int .i64 0) (.slice p1 ws.length c1) (.slice q1 ls.length d1) (.string ⟨#[]⟩)
    have cW := put4_chg w3 w.heap.size (.int .i64 0) (.slice p1 ws.length c1) (.slice q1 ls.length d1) (.string ⟨#[]⟩)
    generalize put4 w3 w.heap.size (.int .i64 0) (.slice p1 ws.length c1) (.slice q1 ls.length d1) (.string ⟨#[]⟩) = wz at *
    have y0 := blk_cell hW (j := 0) rfl
    have y1 := blk_cell hW (j := 1) rfl
    have y2 := blk_cell hW (j := 2) rfl
    have y3 := blk_cell hW (j := 3) rfl
    exact bodyPost_ret (v := .tuple #[.agg #[.int .i64 0, .slice p1 ws.length c1, .slice q1 ls.length d1, .string ⟨#[]⟩], .bool true]) (by simp [results, Tryz.results23, go_sem, y0, y1, y2, y3]) rfl (TnO.yes HN.out ((IntO.keptC (o2.kept g3) cW (by omega)).mono (by omega)) ((LgO.keptC (l2.kept g3) cW (by omega)).mono (by omega)) (cW.gr G3 (Nat.le_refl _)))
end Go.Proofs.YtpdjibfcbjknhaaGreatDoor
