/- impl.TalkValid. -/
import Derived.Test.YtgigjgjpglmpoaaGreatDoorGV
import Derived.Test.YtgigjgjpglmpoaaGreatDoorAdrI
namespace Go.Proofs.YtgigjgjpglmpoaaGreatDoor
open Go.RowKit
theorem talkOk_parts (st : Int) (ws : List Int) (ls : List Lg) (d : Tx) : talkOk ⟨st, ws, ls, d⟩ = (inB 0 4 st && (methOk ws && (decide (ls.length ≤ 4) && (!(ws.any fun x => !m02 x) && (!(ls.any fun l => !lgOk l) && ((!decide (st = 1) || hasI ws 2) && (if st = 3 then (addrFrom d).isSome else d.isEmpty))))))) := by
  unfold talkOk
  simp only
  rw [← setOk_prog]
  generalize (if st = 3 then (addrFrom d).isSome else d.isEmpty) = z
  generalize (!decide (st = 1) || hasI ws 2) = y
  generalize (ws.any fun x => !m02 x) = a
  generalize (ls.any fun l => !lgOk l) = b
  cases inB 0 4 st <;> cases methOk ws <;> cases decide (ls.length ≤ 4) <;> cases a <;> cases b <;> cases y <;> cases z <;> rfl
def TalkP (st : Int) (ws : List Int) (ls : List Lg) (d : Tx) (r : Bool) : Prop := r = talkOk ⟨st, ws, ls, d⟩
set_option maxHeartbeats 4000000 in
theorem implTalkValid_c {w : World} {v u : Value} {ws : List Int} {ls : List Lg} (hm : ML w) (he : ErrV w) (ht : Tab w) (st : Int) (d : ByteArray) (h : IntS w v ws) (hl : LgS w u ls) (hs : LgSm ls) (hd : d.size ≤ 2000000) :
    Calls Tryz.prog 20 #[.agg #[.int .i64 st, v, u, .string d]] w fun e w' => e = .returned (.bool (talkOk ⟨st, ws, ls, tx d⟩)) ∧ Gr w w' := by
  obtain ⟨p, cap, rfl, _, _⟩ := h.form
  obtain ⟨q, caq, rfl, hq1, hq2⟩ := hl.form
  have gB := gr_alloc w (.cells #[.int .i64 st, .slice p ws.length cap, .slice q ls.length caq, .string d] 27)
  have HP := Lib.hid (talkOk_parts st ws ls (tx d))
  have hB := h.kept gB
  have hLB := hl.kept gB
  generalize talkOk ⟨st, ws, ls, tx d⟩ = r at *
  cases h1 : inB 0 4 st
  · have HF : Hid (r = false) := by rw [Hid, HP.out, h1]; rfl
    have H1 := Lib.hid h1
    clear h1
    go_enter Tryz.func20, Tryz.ntmps20
    go_wp2_with fail
    (with_reducible refine (within_c _ _ _ _).mono ?_); rintro e w1 ⟨rfl, rfl⟩
    rw [H1.out]
    go_wp2
    go_ret
    exact ⟨ret_bool HF.out.symm, by first | exact gB | exact gB.trans g4⟩
  have H1 := Lib.hid h1
  cases h2 : methOk ws
  · have HF : Hid (r = false) := by rw [Hid, HP.out, h1, h2]; rfl
    have H2 := Lib.hid h2
    clear h1 h2
    go_enter Tryz.func20, Tryz.ntmps20
    go_wp2_with fail
    (with_reducible refine (within_c _ _ _ _).mono ?_); rintro e w1 ⟨rfl, rfl⟩
    rw [H1.out]
    go_wp2_with fail
    (with_reducible refine (areMethods_c hB).mono ?_); rintro e w1 ⟨rfl, rfl⟩
    rw [H2.out]
    go_wp2
    go_ret
    exact ⟨ret_bool HF.out.symm, by first | exact gB | exact gB.trans g4⟩
  have H2 := Lib.hid h2
  by_cases h3 : ls.length ≤ 4
  rotate_left
  · have HF : Hid (r = false) := by rw [Hid, HP.out, h1, h2, decide_eq_false h3]; rfl
    have h3' : ((4 : Int) < (ls.length : Int)) := by omega
    clear h1 h2 h3
    go_enter Tryz.func20, Tryz.ntmps20
    go_wp2_with fail
    (with_reducible refine (within_c _ _ _ _).mono ?_); rintro e w1 ⟨rfl, rfl⟩
    rw [H1.out]
    go_wp2_with fail
    (with_reducible refine (areMethods_c hB).mono ?_); rintro e w1 ⟨rfl, rfl⟩
    rw [H2.out]
    go_wp2
    go_ret
    exact ⟨ret_bool HF.out.symm, by first | exact gB | exact gB.trans g4⟩
  have h3' : ¬ ((4 : Int) < (ls.length : Int)) := by omega
  have H3 := Lib.hid (decide_eq_true h3)
  cases h4 : ws.any fun x => !m02 x
  rotate_left
  · have HF : Hid (r = false) := by rw [Hid, HP.out, h1, h2, H3.out, h4]; rfl
    have H4 := Lib.hid h4
    clear h1 h2 h3 h4
    go_enter Tryz.func20, Tryz.ntmps20
    go_wp2_with fail
    (with_reducible refine (within_c _ _ _ _).mono ?_); rintro e w1 ⟨rfl, rfl⟩
    rw [H1.out]
    go_wp2_with fail
    (with_reducible refine (areMethods_c hB).mono ?_); rintro e w1 ⟨rfl, rfl⟩
    rw [H2.out]
    go_wp2_with fail
    (with_reducible refine (ContainsFuncI_c hB _ _ notM02_c).mono ?_); rintro e w1 ⟨rfl, rfl⟩
    rw [H4.out]
    go_wp2
    go_ret
    exact ⟨ret_bool HF.out.symm, by first | exact gB | exact gB.trans g4⟩
  have H4 := Lib.hid h4
  cases h5 : ls.any fun l => !lgOk l
  rotate_left
  · have HF : Hid (r = false) := by rw [Hid, HP.out, h1, h2, H3.out, h4, h5]; rfl
    have H5 := Lib.hid h5
    clear h1 h2 h3 h4 h5
    go_enter Tryz.func20, Tryz.ntmps20
    go_wp2_with fail
    (with_reducible refine (within_c _ _ _ _).mono ?_); rintro e w1 ⟨rfl, rfl⟩
    rw [H1.out]
    go_wp2_with fail
    (with_reducible refine (areMethods_c hB).mono ?_); rintro e w1 ⟨rfl, rfl⟩
    rw [H2.out]
    go_wp2_with fail
    (with_reducible refine (ContainsFuncI_c hB _ _ notM02_c).mono ?_); rintro e w1 ⟨rfl, rfl⟩
    rw [H4.out]
    go_wp2_with fail
    (with_reducible refine (ContainsFuncL_c hLB hs _ _ notLogin_c).mono ?_); rintro e w4 ⟨rfl, g4⟩
    rw [H5.out]
    go_wp2
    go_ret
    exact ⟨ret_bool HF.out.symm, by first | exact gB | exact gB.trans g4⟩
  have H5 := Lib.hid h5
  have HR : Hid (r = ((!decide (st = 1) || hasI ws 2) && (if st = 3 then (addrFrom (tx d)).isSome else (tx d).isEmpty))) := by
    rw [Hid, HP.out, h1, h2, H3.out, h4, h5]; rfl
  have hem := emp_tx d
  clear h1 h2 h3 h4 h5 HP
  by_cases k1 : st = 1
  · subst k1
    have HR1 : Hid (r = (hasI ws 2 && (tx d).isEmpty)) := by rw [Hid, HR.out]; simp
    cases h6 : hasI ws 2
    · have HF : Hid (r = false) := by rw [Hid, HR1.out, h6]; rfl
      have H6 := Lib.hid h6
      clear h6
      go_enter Tryz.func20, Tryz.ntmps20
      go_wp2_with fail
      (with_reducible refine (within_c _ _ _ _).mono ?_); rintro e w1 ⟨rfl, rfl⟩
      rw [H1.out]
      go_wp2_with fail
      (with_reducible refine (areMethods_c hB).mono ?_); rintro e w1 ⟨rfl, rfl⟩
      rw [H2.out]
      go_wp2_with fail
      (with_reducible refine (ContainsFuncI_c hB _ _ notM02_c).mono ?_); rintro e w1 ⟨rfl, rfl⟩
      rw [H4.out]
      go_wp2_with fail
      (with_reducible refine (ContainsFuncL_c hLB hs _ _ notLogin_c).mono ?_); rintro e w4 ⟨rfl, g4⟩
      rw [H5.out]
      have b0 := boxN g4 0 rfl
      have b1 := boxN g4 1 rfl
      go_wp2_with fail
      (with_reducible refine (ContainsI_c 2 (hB.kept g4)).mono ?_); rintro e w5 ⟨rfl, rfl⟩
      rw [H6.out]
      go_wp2
      go_ret
      exact ⟨ret_bool HF.out.symm, by first | exact gB | exact gB.trans g4⟩
    · have HF : Hid (r = (tx d).isEmpty) := by rw [Hid, HR1.out, h6]; rfl
      have H6 := Lib.hid h6
      clear h6
      go_enter Tryz.func20, Tryz.ntmps20
      go_wp2_with fail
      (with_reducible refine (within_c _ _ _ _).mono ?_); rintro e w1 ⟨rfl, rfl⟩
      rw [H1.out]
      go_wp2_with fail
      (with_reducible refine (areMethods_c hB).mono ?_); rintro e w1 ⟨rfl, rfl⟩
      rw [H2.out]
      go_wp2_with fail
      (with_reducible refine (ContainsFuncI_c hB _ _ notM02_c).mono ?_); rintro e w1 ⟨rfl, rfl⟩
      rw [H4.out]
      go_wp2_with fail
      (with_reducible refine (ContainsFuncL_c hLB hs _ _ notLogin_c).mono ?_); rintro e w4 ⟨rfl, g4⟩
      rw [H5.out]
      have b0 := boxN g4 0 rfl
      have b1 := boxN g4 1 rfl
      have b3 := boxN g4 3 rfl
      go_wp2_with fail
      (with_reducible refine (ContainsI_c 2 (hB.kept g4)).mono ?_); rintro e w5 ⟨rfl, rfl⟩
      rw [H6.out]
      go_wp2
      go_ret
      exact ⟨ret_bool (by rw [HF.out, ← emp_tx]), gB.trans g4⟩
  · have k1' : (st == 1) = false := beq_eq_false_iff_ne.2 k1
    by_cases k3 : st = 3
    · subst k3
      have HF : Hid (r = (addrFrom (tx d)).isSome) := by rw [Hid, HR.out]; simp
      obtain ⟨ka, qa, na, pa, oa, hA⟩ := adrIs_some (tx d)
      have HF2 : Hid (r = oa) := by
        rw [Hid, HF.out]
        rcases hA with ⟨e, rfl⟩ | ⟨e, _, _, _, _, rfl⟩
        · rw [e]; rfl
        · rw [e]; rfl
      have HA := Lib.hid hA
      clear hA k1 hem
      go_enter Tryz.func20, Tryz.ntmps20
      go_wp2_with fail
      (with_reducible refine (within_c _ _ _ _).mono ?_); rintro e w1 ⟨rfl, rfl⟩
      rw [H1.out]
      go_wp2_with fail
      (with_reducible refine (areMethods_c hB).mono ?_); rintro e w1 ⟨rfl, rfl⟩
      rw [H2.out]
      go_wp2_with fail
      (with_reducible refine (ContainsFuncI_c hB _ _ notM02_c).mono ?_); rintro e w1 ⟨rfl, rfl⟩
      rw [H4.out]
      go_wp2_with fail
      (with_reducible refine (ContainsFuncL_c hLB hs _ _ notLogin_c).mono ?_); rintro e w4 ⟨rfl, g4⟩
      rw [H5.out]
      have b0 := boxN g4 0 rfl
      have b3 := boxN g4 3 rfl
      have G4 := gB.trans g4
      go_wp2_with fail
      (with_reducible refine (implAddressFrom_c (hm.kept G4) (he.kept G4) (ht.kept G4) d hd HA).mono ?_); rintro e w5 ⟨qx, cx, rfl, ox, g5⟩
      go_wp2
      go_ret
      exact ⟨ret_bool HF2.out.symm, (G4.trans g5).alloc _⟩
    · have k3' : (st == 3) = false := beq_eq_false_iff_ne.2 k3
      have HF : Hid (r = (tx d).isEmpty) := by rw [Hid, HR.out, if_neg k3, decide_eq_false k1]; simp
      clear k1 k3
      go_enter Tryz.func20, Tryz.ntmps20
      go_wp2_with fail
      (with_reducible refine (within_c _ _ _ _).mono ?_); rintro e w1 ⟨rfl, rfl⟩
      rw [H1.out]
      go_wp2_with fail
      (with_reducible refine (areMethods_c hB).mono ?_); rintro e w1 ⟨rfl, rfl⟩
      rw [H2.out]
      go_wp2_with fail
      (with_reducible refine (ContainsFuncI_c hB _ _ notM02_c).mono ?_); rintro e w1 ⟨rfl, rfl⟩
      rw [H4.out]
      go_wp2_with fail
      (with_reducible refine (ContainsFuncL_c hLB hs _ _ notLogin_c).mono ?_); rintro e w4 ⟨rfl, g4⟩
      rw [H5.out]
      have b0 := boxN g4 0 rfl
      have b3 := boxN g4 3 rfl
      go_wp2
      go_ret
      exact ⟨ret_bool (by rw [HF.out, ← emp_tx]), gB.trans g4⟩
end Go.Proofs.YtgigjgjpglmpoaaGreatDoor
