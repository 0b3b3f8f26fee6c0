/- The laws of what a talk says: what they share; five of them. -/
import Derived.Test.YtpdjibfcbjknhaaGreatDoorDrawN
import Derived.Test.YtpdjibfcbjknhaaGreatDoorTkF
namespace Go.Proofs.YtpdjibfcbjknhaaGreatDoor
open Go.RowKit
theorem SyO.x {t : Tlk} {xs : List Int} {w w' : World} {e : Ending} {rs : Int} {rws : List Int} {rls : List Lg} {rd : ByteArray} {rep : List Int} {ok : Bool} (hR : sayR t xs = (⟨rs, rws, rls, tx rd⟩, rep, ok)) (h : SyO (sayR t xs) w e w') :
    ∃ (p q x : Option Addr) (c f k : Nat), e = .returned (.tuple #[.agg #[.int .i64 rs, .slice p rws.length c, .slice q rls.length f, .string rd], .slice x rep.length k, .bool ok]) ∧ IntS w' (.slice p rws.length c) rws ∧ LgS w' (.slice q rls.length f) rls ∧ IntS w' (.slice x rep.length k) rep ∧ Gr w w' := by
  rw [hR] at h
  obtain ⟨p, q, x, c, d, f, dst, rfl, hd, o, l, r, g⟩ := h
  have e : rd = dst := tx_ext hd.out
  subst e
  exact ⟨p, q, x, c, d, f, rfl, o.s, l.s, r.s, g⟩
theorem implSay_x {w : World} {v u x : Value} {ws xs : List Int} {ls : List Lg} (hm : ML w) (he : ErrV w) (ht : Tab w) (st : Int) (d : ByteArray) (h : IntS w v ws) (hl : LgS w u ls) (hs : LgSm ls) (hd : d.size ≤ 2000000) (hw : ws.length ≤ 1000000) (hn : ls.length ≤ 1000000) (hx : IntS w x xs) (hlen : xs.length ≤ 1048576)
    {rs : Int} {rws : List Int} {rls : List Lg} {rd : ByteArray} {rep : List Int} {ok : Bool} (hR : Hid (sayR ⟨st, ws, ls, tx d⟩ xs = (⟨rs, rws, rls, tx rd⟩, rep, ok))) :
    Calls Tryz.prog 34 #[.agg #[.int .i64 st, v, u, .string d], x] w fun e w' => ∃ (p q x : Option Addr) (c f k : Nat), e = .returned (.tuple #[.agg #[.int .i64 rs, .slice p rws.length c, .slice q rls.length f, .string rd], .slice x rep.length k, .bool ok]) ∧ IntS w' (.slice p rws.length c) rws ∧ LgS w' (.slice q rls.length f) rls ∧ IntS w' (.slice x rep.length k) rep ∧ Gr w w' :=
  (implTalkSay_c hm he ht st d h hl hs hd hw hn hx hlen).mono fun _ _ hh => SyO.x hR.out hh
theorem specSay_x {w : World} {v u x : Value} {ws xs : List Int} {ls : List Lg} (st : Int) (d : ByteArray) (h : IntS w v ws) (hl : LgS w u ls) (hs : LgSm ls) (hd : d.size ≤ 2000000) (hw : ws.length ≤ 1000000) (hn : ls.length ≤ 1000000) (hx : IntS w x xs) (hlen : xs.length ≤ 1048576)
    {rs : Int} {rws : List Int} {rls : List Lg} {rd : ByteArray} {rep : List Int} {ok : Bool} (hR : Hid (sayR ⟨st, ws, ls, tx d⟩ xs = (⟨rs, rws, rls, tx rd⟩, rep, ok))) :
    Calls Tryz.prog 35 #[.agg #[.int .i64 st, v, u, .string d], x] w fun e w' => ∃ (p q x : Option Addr) (c f k : Nat), e = .returned (.tuple #[.agg #[.int .i64 rs, .slice p rws.length c, .slice q rls.length f, .string rd], .slice x rep.length k, .bool ok]) ∧ IntS w' (.slice p rws.length c) rws ∧ LgS w' (.slice q rls.length f) rls ∧ IntS w' (.slice x rep.length k) rep ∧ Gr w w' :=
  (specTalkSay_c st d h hl hs hd hw hn hx hlen).mono fun _ _ hh => SyO.x hR.out hh
theorem sayR_yes {t : Tlk} {xs : List Int} {rs : Int} {rws : List Int} {rls : List Lg} {rd : Tx} {rep : List Int} (h : sayR t xs = (⟨rs, rws, rls, rd⟩, rep, true)) : sayOk t xs = true ∧ rws = t.wanted ∧ rls = t.logins ∧ say t xs = (rs, rep, rd) := by
  unfold sayR at h
  cases hk : sayOk t xs
  · rw [hk] at h; cases h
  · rw [hk, if_pos rfl] at h
    unfold sayT at h
    injection h with h1 h2
    injection h1 with a1 a2 a3 a4
    injection h2 with b1 b2
    exact ⟨rfl, a2.symm, a3.symm, by rw [← a1, ← b1, ← a4]⟩
theorem sayR_no {t : Tlk} {xs : List Int} (h : sayOk t xs = false) : sayR t xs = (⟨0, [], [], tx ⟨#[]⟩⟩, [], false) := by unfold sayR; rw [h]; rfl
theorem sayR_of {t : Tlk} {xs : List Int} {s : Int × List Int × Tx} {rd : ByteArray} (h : sayOk t xs = true) (hs : say t xs = s) (hd : s.2.2 = tx rd) : sayR t xs = (⟨s.1, t.wanted, t.logins, tx rd⟩, s.2.1, true) := by unfold sayR sayT; rw [h, hs, if_pos rfl, hd]
theorem sayT_is {t : Tlk} {xs : List Int} {rs : Int} {rep : List Int} {rd : Tx} (h : say t xs = (rs, rep, rd)) : sayT t xs = ⟨rs, t.wanted, t.logins, rd⟩ := by unfold sayT; rw [h]
set_option maxRecDepth 20000 in
set_option maxHeartbeats 4000000 in
theorem FnSay_w {w : World} {v : Value} {bs : List Int} (hm : ML w) (he : ErrV w) (ht : Tab w) (h : ByteS w v bs) :
    Calls Tryz.prog 6 #[v] w fun e w' => e = .returned (.bool true) ∧ Gr w w' := by
  obtain ⟨p0, cap, rfl, _, _⟩ := h.form
  by_cases hx : bs.length ≤ 1048576
  rotate_left
  · have hx' : ¬ ((bs.length : Int) ≤ 1048576) := by omega
    go_enter Tryz.func6, Tryz.ntmps6
    go_wp2_with fail
    go_ret
    exact ⟨rfl, Gr.refl _⟩
  have hx' : ((bs.length : Int) ≤ 1048576) := by omega
  go_enter Tryz.func6, Tryz.ntmps6
  go_wp2_with fail
  (with_reducible refine (DrawTalkSay_c h).mono ?_); rintro e w1 ⟨p, q, x, c, f, k, st, ws, ls, d, b, rfl, hsm, hbl, iW, iL, iB, g1⟩
  obtain ⟨R, hR⟩ : ∃ R, sayR ⟨st, ws, ls, tx d⟩ b = R := ⟨_, rfl⟩
  obtain ⟨⟨rs, rws, rls, rdt⟩, rep, ok⟩ := R
  obtain ⟨rd, rfl⟩ : ∃ rd, rdt = tx rd := ⟨S rdt, (tx_S _).symm⟩
  obtain ⟨q1, q2, q3, q4⟩ := hsm
  have HR := Lib.hid hR
  have HLS := Lib.hid q3
  have gT := gr_alloc w1 (.cells #[.int .i64 st, .slice p ws.length c, .slice q ls.length f, .string d] 26)
  have hT := heap_alloc_new w1 (.cells #[.int .i64 st, .slice p ws.length c, .slice q ls.length f, .string d] 26)
  have HT := Lib.hid hT
  have G2 := g1.trans gT
  have jW := iW.kept gT
  have jL := iL.kept gT
  have jB := iB.kept gT
  clear hT iW iL iB hR q3 g1 gT
  go_upto_region 4 with fail
  generalize w1.alloc (.cells #[.int .i64 st, .slice p ws.length c, .slice q ls.length f, .string d] 26) = w2 at *
  have s0 := blk_cell HT.out (j := 0) rfl
  have s1 := blk_cell HT.out (j := 1) rfl
  have s2 := blk_cell HT.out (j := 2) rfl
  have s3 := blk_cell HT.out (j := 3) rfl
  go_wp2_with fail
  (with_reducible refine (implSay_x (hm.kept G2) (he.kept G2) (ht.kept G2) st d jW jL HLS.out (by omega) (by omega) (by omega) jB (by omega) HR).mono ?_); rintro e w3 ⟨p3, q3, x3, c3, f3, k3, rfl, oW, oL, oR, g3⟩
  have gI := gr_alloc w3 (.cells #[.int .i64 rs, .slice p3 rws.length c3, .slice q3 rls.length f3, .string rd] 26)
  have hI := heap_alloc_new w3 (.cells #[.int .i64 rs, .slice p3 rws.length c3, .slice q3 rls.length f3, .string rd] 26)
  have HI := Lib.hid hI
  have g34 := g3.trans gI
  have HT4 := Lib.hid (g34.blk HT.out)
  have G4 := G2.trans g34
  have kW := jW.kept g34
  have kL := jL.kept g34
  have kB := jB.kept g34
  have oW4 := oW.kept gI
  have oL4 := oL.kept gI
  have oR4 := oR.kept gI
  clear hI jW jL jB oW oL oR g3 gI g34 G2 HT s0 s1 s2 s3
  go_upto_region 5 with fail
  generalize w3.alloc (.cells #[.int .i64 rs, .slice p3 rws.length c3, .slice q3 rls.length f3, .string rd] 26) = w4 at *
  have s0 := blk_cell HT4.out (j := 0) rfl
  have s1 := blk_cell HT4.out (j := 1) rfl
  have s2 := blk_cell HT4.out (j := 2) rfl
  have s3 := blk_cell HT4.out (j := 3) rfl
  go_wp2_with fail
  (with_reducible refine (specSay_x st d kW kL HLS.out (by omega) (by omega) (by omega) kB (by omega) HR).mono ?_); rintro e w5 ⟨p5, q5, x5, c5, f5, k5, rfl, pW, pL, pR, g5⟩
  have gS := gr_alloc w5 (.cells #[.int .i64 rs, .slice p5 rws.length c5, .slice q5 rls.length f5, .string rd] 26)
  have hS := heap_alloc_new w5 (.cells #[.int .i64 rs, .slice p5 rws.length c5, .slice q5 rls.length f5, .string rd] 26)
  have HS6 := Lib.hid hS
  have g56 := g5.trans gS
  have HT6 := Lib.hid (g56.blk HT4.out)
  have HI6 := Lib.hid (g56.blk HI.out)
  have G6 := G4.trans g56
  have tW := kW.kept g56
  have tL := kL.kept g56
  have tB := kB.kept g56
  have uW := oW4.kept g56
  have uL := oL4.kept g56
  have uR := oR4.kept g56
  have vW := pW.kept gS
  have vL := pL.kept gS
  have vR := pR.kept gS
  clear hS kW kL kB oW4 oL4 oR4 pW pL pR g5 gS g56 G4 HT4 HI s0 s1 s2 s3
  go_upto_region 6 with fail
  generalize w5.alloc (.cells #[.int .i64 rs, .slice p5 rws.length c5, .slice q5 rls.length f5, .string rd] 26) = w6 at *
  cases ok
  · go_wp2_with fail
    (with_reducible refine (same_c uR vR).mono ?_); rintro e w7 ⟨rfl, g7⟩
    have HI7 := Lib.hid (g7.blk HI6.out)
    have HS7 := Lib.hid (g7.blk HS6.out)
    have s0 := blk_cell HI7.out (j := 0) rfl
    have s1 := blk_cell HI7.out (j := 1) rfl
    have s2 := blk_cell HI7.out (j := 2) rfl
    have s3 := blk_cell HI7.out (j := 3) rfl
    have u0 := blk_cell HS7.out (j := 0) rfl
    have u1 := blk_cell HS7.out (j := 1) rfl
    have u2 := blk_cell HS7.out (j := 2) rfl
    have u3 := blk_cell HS7.out (j := 3) rfl
    go_wp2_with fail
    (with_reducible refine (sameTalk_t rs rd (uW.kept g7) (uL.kept g7) (vW.kept g7) (vL.kept g7)).mono ?_); rintro e w8 ⟨rfl, g8⟩
    have g68 := g7.trans g8
    have HT8 := Lib.hid (g68.blk HT6.out)
    have HI8 := Lib.hid (g68.blk HI6.out)
    have HS8 := Lib.hid (g68.blk HS6.out)
    have G8 := G6.trans g68
    have tW8 := tW.kept g68
    have tL8 := tL.kept g68
    have tB8 := tB.kept g68
    have uW8 := uW.kept g68
    have uL8 := uL.kept g68
    have uR8 := uR.kept g68
    have vW8 := vW.kept g68
    have vL8 := vL.kept g68
    have vR8 := vR.kept g68
    clear s0 s1 s2 s3 u0 u1 u2 u3
    clear tW tL tB uW uL uR vW vL vR g7 g8 g68 HI7 HS7 HT6 HI6 HS6 G6
    go_wp2_with fail
    (with_reducible refine (same_c uR8 vR8).mono ?_); rintro e w9 ⟨rfl, g9⟩
    have HI9 := Lib.hid (g9.blk HI8.out)
    have HS9 := Lib.hid (g9.blk HS8.out)
    have s0 := blk_cell HI9.out (j := 0) rfl
    have s1 := blk_cell HI9.out (j := 1) rfl
    have s2 := blk_cell HI9.out (j := 2) rfl
    have s3 := blk_cell HI9.out (j := 3) rfl
    have u0 := blk_cell HS9.out (j := 0) rfl
    have u1 := blk_cell HS9.out (j := 1) rfl
    have u2 := blk_cell HS9.out (j := 2) rfl
    have u3 := blk_cell HS9.out (j := 3) rfl
    go_wp2_with fail
    (with_reducible refine (sameTalk_t rs rd (uW8.kept g9) (uL8.kept g9) (vW8.kept g9) (vL8.kept g9)).mono ?_); rintro e w10 ⟨rfl, g10⟩
    go_wp2
    go_ret
    exact ⟨rfl, (G8.trans g9).trans g10⟩
  obtain ⟨hk, hrw, hrl, hs⟩ := sayR_yes HR.out
  simp only [] at hrw hrl
  subst hrw hrl
  obtain ⟨on1, on2⟩ := say_on hk
  rw [sayT_is hs] at on1 on2
  have HOK := Lib.hid on1
  have hgt : st < rs := on2
  have hdz : rd.size ≤ 26 := by
    have := say_dst ⟨st, rws, rls, tx d⟩ b
    rw [hs] at this
    simpa [tx_len] using this
  clear on1 on2 hs hk HR
  go_wp2_with fail
  (with_reducible refine (same_c uR vR).mono ?_); rintro e w7 ⟨rfl, g7⟩
  have HI7 := Lib.hid (g7.blk HI6.out)
  have HS7 := Lib.hid (g7.blk HS6.out)
  have s0 := blk_cell HI7.out (j := 0) rfl
  have s1 := blk_cell HI7.out (j := 1) rfl
  have s2 := blk_cell HI7.out (j := 2) rfl
  have s3 := blk_cell HI7.out (j := 3) rfl
  have u0 := blk_cell HS7.out (j := 0) rfl
  have u1 := blk_cell HS7.out (j := 1) rfl
  have u2 := blk_cell HS7.out (j := 2) rfl
  have u3 := blk_cell HS7.out (j := 3) rfl
  go_wp2_with fail
  (with_reducible refine (sameTalk_t rs rd (uW.kept g7) (uL.kept g7) (vW.kept g7) (vL.kept g7)).mono ?_); rintro e w8 ⟨rfl, g8⟩
  have g68 := g7.trans g8
  have HT8 := Lib.hid (g68.blk HT6.out)
  have HI8 := Lib.hid (g68.blk HI6.out)
  have HS8 := Lib.hid (g68.blk HS6.out)
  have G8 := G6.trans g68
  have tW8 := tW.kept g68
  have tL8 := tL.kept g68
  have tB8 := tB.kept g68
  have uW8 := uW.kept g68
  have uL8 := uL.kept g68
  have uR8 := uR.kept g68
  have vW8 := vW.kept g68
  have vL8 := vL.kept g68
  have vR8 := vR.kept g68
  clear s0 s1 s2 s3 u0 u1 u2 u3
  clear tW tL tB uW uL uR vW vL vR g7 g8 g68 HI7 HS7 HT6 HI6 HS6 G6
  have s0 := blk_cell HI8.out (j := 0) rfl
  have s1 := blk_cell HI8.out (j := 1) rfl
  have s2 := blk_cell HI8.out (j := 2) rfl
  have s3 := blk_cell HI8.out (j := 3) rfl
  go_wp2_with fail
  (with_reducible refine (implTalkValid_c (hm.kept G8) (he.kept G8) (ht.kept G8) rs rd uW8 uL8 HLS.out (by omega)).mono ?_); rintro e w9 ⟨rfl, g9⟩
  rw [HOK.out]
  have HI9 := Lib.hid (g9.blk HI8.out)
  have HT9 := Lib.hid (g9.blk HT8.out)
  clear s0 s1 s2 s3
  have s0 := blk_cell HI9.out (j := 0) rfl
  have s1 := blk_cell HI9.out (j := 1) rfl
  have s2 := blk_cell HI9.out (j := 2) rfl
  have s3 := blk_cell HI9.out (j := 3) rfl
  have u0 := blk_cell HT9.out (j := 0) rfl
  have u1 := blk_cell HT9.out (j := 1) rfl
  have u2 := blk_cell HT9.out (j := 2) rfl
  have u3 := blk_cell HT9.out (j := 3) rfl
  go_wp2_with fail
  (with_reducible refine (same_c (uW8.kept g9) (tW8.kept g9)).mono ?_); rintro e w10 ⟨rfl, g10⟩
  have HI10 := Lib.hid (g10.blk HI9.out)
  have HT10 := Lib.hid (g10.blk HT9.out)
  clear s0 s1 s2 s3 u0 u1 u2 u3
  have s0 := blk_cell HI10.out (j := 0) rfl
  have s1 := blk_cell HI10.out (j := 1) rfl
  have s2 := blk_cell HI10.out (j := 2) rfl
  have s3 := blk_cell HI10.out (j := 3) rfl
  have u0 := blk_cell HT10.out (j := 0) rfl
  have u1 := blk_cell HT10.out (j := 1) rfl
  have u2 := blk_cell HT10.out (j := 2) rfl
  have u3 := blk_cell HT10.out (j := 3) rfl
  have g910 := g9.trans g10
  go_wp2_with fail
  (with_reducible refine (sameLogins_t (uL8.kept g910) (tL8.kept g910)).mono ?_); rintro e w11 ⟨rfl, g11⟩
  go_wp2
  go_ret
  exact ⟨rfl, (G8.trans g910).trans g11⟩
set_option maxRecDepth 20000 in
set_option maxHeartbeats 4000000 in
theorem FnSayEmpty_w {w : World} {v : Value} {bs : List Int} (hm : ML w) (he : ErrV w) (ht : Tab w) (h : ByteS w v bs) :
    Calls Tryz.prog 8 #[v] w fun e w' => e = .returned (.bool true) ∧ Gr w w' := by
  obtain ⟨p0, cap, rfl, _, _⟩ := h.form
  by_cases hx : bs.length ≤ 1048576
  rotate_left
  · have hx' : ¬ ((bs.length : Int) ≤ 1048576) := by omega
    go_enter Tryz.func8, Tryz.ntmps8
    go_wp2_with fail
    go_ret
    exact ⟨rfl, Gr.refl _⟩
  have hx' : ((bs.length : Int) ≤ 1048576) := by omega
  go_enter Tryz.func8, Tryz.ntmps8
  go_wp2_with fail
  (with_reducible refine (DrawTalkSay_c h).mono ?_); rintro e w1 ⟨p, q, x, c, f, k, st, ws, ls, d, b, rfl, hsm, hbl, iW, iL, iB, g1⟩
  obtain ⟨R, hR⟩ : ∃ R, sayR ⟨st, ws, ls, tx d⟩ b = R := ⟨_, rfl⟩
  obtain ⟨⟨rs, rws, rls, rdt⟩, rep, ok⟩ := R
  obtain ⟨rd, rfl⟩ : ∃ rd, rdt = tx rd := ⟨S rdt, (tx_S _).symm⟩
  obtain ⟨q1, q2, q3, q4⟩ := hsm
  have HR := Lib.hid hR
  have HLS := Lib.hid q3
  have gT := gr_alloc w1 (.cells #[.int .i64 st, .slice p ws.length c, .slice q ls.length f, .string d] 26)
  have hT := heap_alloc_new w1 (.cells #[.int .i64 st, .slice p ws.length c, .slice q ls.length f, .string d] 26)
  have HT := Lib.hid hT
  have G2 := g1.trans gT
  have jW := iW.kept gT
  have jL := iL.kept gT
  have jB := iB.kept gT
  clear hT iW iL iB hR q3 g1 gT
  go_upto_region 4 with fail
  generalize w1.alloc (.cells #[.int .i64 st, .slice p ws.length c, .slice q ls.length f, .string d] 26) = w2 at *
  have s0 := blk_cell HT.out (j := 0) rfl
  have s1 := blk_cell HT.out (j := 1) rfl
  have s2 := blk_cell HT.out (j := 2) rfl
  have s3 := blk_cell HT.out (j := 3) rfl
  go_wp2_with fail
  (with_reducible refine (implSay_x (hm.kept G2) (he.kept G2) (ht.kept G2) st d jW jL HLS.out (by omega) (by omega) (by omega) jB (by omega) HR).mono ?_); rintro e w3 ⟨p3, q3, x3, c3, f3, k3, rfl, oW, oL, oR, g3⟩
  have gI := gr_alloc w3 (.cells #[.int .i64 rs, .slice p3 rws.length c3, .slice q3 rls.length f3, .string rd] 26)
  have hI := heap_alloc_new w3 (.cells #[.int .i64 rs, .slice p3 rws.length c3, .slice q3 rls.length f3, .string rd] 26)
  have HI := Lib.hid hI
  have g34 := g3.trans gI
  have HT4 := Lib.hid (g34.blk HT.out)
  have G4 := G2.trans g34
  have kW := jW.kept g34
  have kL := jL.kept g34
  have kB := jB.kept g34
  have oW4 := oW.kept gI
  have oL4 := oL.kept gI
  have oR4 := oR.kept gI
  clear hI jW jL jB oW oL oR g3 gI g34 G2 HT s0 s1 s2 s3
  go_upto_region 5 with fail
  generalize w3.alloc (.cells #[.int .i64 rs, .slice p3 rws.length c3, .slice q3 rls.length f3, .string rd] 26) = w4 at *
  have s0 := blk_cell HT4.out (j := 0) rfl
  have s1 := blk_cell HT4.out (j := 1) rfl
  have s2 := blk_cell HT4.out (j := 2) rfl
  have s3 := blk_cell HT4.out (j := 3) rfl
  go_wp2_with fail
  (with_reducible refine (specSay_x st d kW kL HLS.out (by omega) (by omega) (by omega) kB (by omega) HR).mono ?_); rintro e w5 ⟨p5, q5, x5, c5, f5, k5, rfl, pW, pL, pR, g5⟩
  have gS := gr_alloc w5 (.cells #[.int .i64 rs, .slice p5 rws.length c5, .slice q5 rls.length f5, .string rd] 26)
  have hS := heap_alloc_new w5 (.cells #[.int .i64 rs, .slice p5 rws.length c5, .slice q5 rls.length f5, .string rd] 26)
  have HS6 := Lib.hid hS
  have g56 := g5.trans gS
  have HT6 := Lib.hid (g56.blk HT4.out)
  have HI6 := Lib.hid (g56.blk HI.out)
  have G6 := G4.trans g56
  have tW := kW.kept g56
  have tL := kL.kept g56
  have tB := kB.kept g56
  have uW := oW4.kept g56
  have uL := oL4.kept g56
  have uR := oR4.kept g56
  have vW := pW.kept gS
  have vL := pL.kept gS
  have vR := pR.kept gS
  clear hS kW kL kB oW4 oL4 oR4 pW pL pR g5 gS g56 G4 HT4 HI s0 s1 s2 s3
  go_upto_region 6 with fail
  generalize w5.alloc (.cells #[.int .i64 rs, .slice p5 rws.length c5, .slice q5 rls.length f5, .string rd] 26) = w6 at *
  cases ok
  · go_wp2_with fail
    (with_reducible refine (same_c uR vR).mono ?_); rintro e w7 ⟨rfl, g7⟩
    have HI7 := Lib.hid (g7.blk HI6.out)
    have HS7 := Lib.hid (g7.blk HS6.out)
    have s0 := blk_cell HI7.out (j := 0) rfl
    have s1 := blk_cell HI7.out (j := 1) rfl
    have s2 := blk_cell HI7.out (j := 2) rfl
    have s3 := blk_cell HI7.out (j := 3) rfl
    have u0 := blk_cell HS7.out (j := 0) rfl
    have u1 := blk_cell HS7.out (j := 1) rfl
    have u2 := blk_cell HS7.out (j := 2) rfl
    have u3 := blk_cell HS7.out (j := 3) rfl
    go_wp2_with fail
    (with_reducible refine (sameTalk_t rs rd (uW.kept g7) (uL.kept g7) (vW.kept g7) (vL.kept g7)).mono ?_); rintro e w8 ⟨rfl, g8⟩
    have g68 := g7.trans g8
    have HT8 := Lib.hid (g68.blk HT6.out)
    have HI8 := Lib.hid (g68.blk HI6.out)
    have HS8 := Lib.hid (g68.blk HS6.out)
    have G8 := G6.trans g68
    have tW8 := tW.kept g68
    have tL8 := tL.kept g68
    have tB8 := tB.kept g68
    have uW8 := uW.kept g68
    have uL8 := uL.kept g68
    have uR8 := uR.kept g68
    have vW8 := vW.kept g68
    have vL8 := vL.kept g68
    have vR8 := vR.kept g68
    clear s0 s1 s2 s3 u0 u1 u2 u3
    clear tW tL tB uW uL uR vW vL vR g7 g8 g68 HI7 HS7 HT6 HI6 HS6 G6
    go_wp2_with fail
    (with_reducible refine (same_c uR8 vR8).mono ?_); rintro e w9 ⟨rfl, g9⟩
    have HI9 := Lib.hid (g9.blk HI8.out)
    have HS9 := Lib.hid (g9.blk HS8.out)
    have s0 := blk_cell HI9.out (j := 0) rfl
    have s1 := blk_cell HI9.out (j := 1) rfl
    have s2 := blk_cell HI9.out (j := 2) rfl
    have s3 := blk_cell HI9.out (j := 3) rfl
    have u0 := blk_cell HS9.out (j := 0) rfl
    have u1 := blk_cell HS9.out (j := 1) rfl
    have u2 := blk_cell HS9.out (j := 2) rfl
    have u3 := blk_cell HS9.out (j := 3) rfl
    go_wp2_with fail
    (with_reducible refine (sameTalk_t rs rd (uW8.kept g9) (uL8.kept g9) (vW8.kept g9) (vL8.kept g9)).mono ?_); rintro e w10 ⟨rfl, g10⟩
    go_wp2
    go_ret
    exact ⟨rfl, (G8.trans g9).trans g10⟩
  obtain ⟨hk, hrw, hrl, hs⟩ := sayR_yes HR.out
  simp only [] at hrw hrl
  subst hrw hrl
  obtain ⟨em1, em2⟩ := say_empty hk
  have HE : Hid (sayR ⟨st, rws, rls, tx d⟩ [] = (⟨4, rws, rls, tx ⟨#[]⟩⟩, [], true)) := Lib.hid (sayR_of em1 em2 rfl)
  clear em1 em2 hs hk HR
  go_wp2_with fail
  (with_reducible refine (same_c uR vR).mono ?_); rintro e w7 ⟨rfl, g7⟩
  have HI7 := Lib.hid (g7.blk HI6.out)
  have HS7 := Lib.hid (g7.blk HS6.out)
  have s0 := blk_cell HI7.out (j := 0) rfl
  have s1 := blk_cell HI7.out (j := 1) rfl
  have s2 := blk_cell HI7.out (j := 2) rfl
  have s3 := blk_cell HI7.out (j := 3) rfl
  have u0 := blk_cell HS7.out (j := 0) rfl
  have u1 := blk_cell HS7.out (j := 1) rfl
  have u2 := blk_cell HS7.out (j := 2) rfl
  have u3 := blk_cell HS7.out (j := 3) rfl
  go_wp2_with fail
  (with_reducible refine (sameTalk_t rs rd (uW.kept g7) (uL.kept g7) (vW.kept g7) (vL.kept g7)).mono ?_); rintro e w8 ⟨rfl, g8⟩
  have g68 := g7.trans g8
  have HT8 := Lib.hid (g68.blk HT6.out)
  have HI8 := Lib.hid (g68.blk HI6.out)
  have HS8 := Lib.hid (g68.blk HS6.out)
  have G8 := G6.trans g68
  have tW8 := tW.kept g68
  have tL8 := tL.kept g68
  have tB8 := tB.kept g68
  have uW8 := uW.kept g68
  have uL8 := uL.kept g68
  have uR8 := uR.kept g68
  have vW8 := vW.kept g68
  have vL8 := vL.kept g68
  have vR8 := vR.kept g68
  clear s0 s1 s2 s3 u0 u1 u2 u3
  clear tW tL tB uW uL uR vW vL vR g7 g8 g68 HI7 HS7 HT6 HI6 HS6 G6
  have s0 := blk_cell HT8.out (j := 0) rfl
  have s1 := blk_cell HT8.out (j := 1) rfl
  have s2 := blk_cell HT8.out (j := 2) rfl
  have s3 := blk_cell HT8.out (j := 3) rfl
  have gE := gr_alloc w8 (.cells #[] 3)
  have GE := G8.trans gE
  have oE := (IntO.mt w8).s
  go_wp2_with fail
  (with_reducible refine (implSay_x (hm.kept GE) (he.kept GE) (ht.kept GE) st d (tW8.kept gE) (tL8.kept gE) HLS.out (by omega) (by omega) (by omega) oE (by simp) HE).mono ?_); rintro e w9 ⟨p9, q9, x9, c9, f9, k9, rfl, _, _, _, g9⟩
  go_wp2
  go_ret
  exact ⟨rfl, (GE.trans g9).alloc _⟩
set_option maxRecDepth 20000 in
set_option maxHeartbeats 4000000 in
theorem FnSayEnd_w {w : World} {v : Value} {bs : List Int} (hm : ML w) (he : ErrV w) (ht : Tab w) (h : ByteS w v bs) :
    Calls Tryz.prog 9 #[v] w fun e w' => e = .returned (.bool true) ∧ Gr w w' := by
  obtain ⟨p0, cap, rfl, _, _⟩ := h.form
  by_cases hx : bs.length ≤ 1048576
  rotate_left
  · have hx' : ¬ ((bs.length : Int) ≤ 1048576) := by omega
    go_enter Tryz.func9, Tryz.ntmps9
    go_wp2_with fail
    go_ret
    exact ⟨rfl, Gr.refl _⟩
  have hx' : ((bs.length : Int) ≤ 1048576) := by omega
  go_enter Tryz.func9, Tryz.ntmps9
  go_wp2_with fail
  (with_reducible refine (DrawTalkSay_c h).mono ?_); rintro e w1 ⟨p, q, x, c, f, k, st, ws, ls, d, b, rfl, hsm, hbl, iW, iL, iB, g1⟩
  obtain ⟨R, hR⟩ : ∃ R, sayR ⟨st, ws, ls, tx d⟩ b = R := ⟨_, rfl⟩
  obtain ⟨⟨rs, rws, rls, rdt⟩, rep, ok⟩ := R
  obtain ⟨rd, rfl⟩ : ∃ rd, rdt = tx rd := ⟨S rdt, (tx_S _).symm⟩
  obtain ⟨q1, q2, q3, q4⟩ := hsm
  have HR := Lib.hid hR
  have HLS := Lib.hid q3
  have gT := gr_alloc w1 (.cells #[.int .i64 st, .slice p ws.length c, .slice q ls.length f, .string d] 26)
  have hT := heap_alloc_new w1 (.cells #[.int .i64 st, .slice p ws.length c, .slice q ls.length f, .string d] 26)
  have HT := Lib.hid hT
  have G2 := g1.trans gT
  have jW := iW.kept gT
  have jL := iL.kept gT
  have jB := iB.kept gT
  clear hT iW iL iB hR q3 g1 gT
  go_upto_region 4 with fail
  generalize w1.alloc (.cells #[.int .i64 st, .slice p ws.length c, .slice q ls.length f, .string d] 26) = w2 at *
  have s0 := blk_cell HT.out (j := 0) rfl
  have s1 := blk_cell HT.out (j := 1) rfl
  have s2 := blk_cell HT.out (j := 2) rfl
  have s3 := blk_cell HT.out (j := 3) rfl
  go_wp2_with fail
  (with_reducible refine (implSay_x (hm.kept G2) (he.kept G2) (ht.kept G2) st d jW jL HLS.out (by omega) (by omega) (by omega) jB (by omega) HR).mono ?_); rintro e w3 ⟨p3, q3, x3, c3, f3, k3, rfl, oW, oL, oR, g3⟩
  have gI := gr_alloc w3 (.cells #[.int .i64 rs, .slice p3 rws.length c3, .slice q3 rls.length f3, .string rd] 26)
  have hI := heap_alloc_new w3 (.cells #[.int .i64 rs, .slice p3 rws.length c3, .slice q3 rls.length f3, .string rd] 26)
  have HI := Lib.hid hI
  have g34 := g3.trans gI
  have HT4 := Lib.hid (g34.blk HT.out)
  have G4 := G2.trans g34
  have kW := jW.kept g34
  have kL := jL.kept g34
  have kB := jB.kept g34
  have oW4 := oW.kept gI
  have oL4 := oL.kept gI
  have oR4 := oR.kept gI
  clear hI jW jL jB oW oL oR g3 gI g34 G2 HT s0 s1 s2 s3
  go_upto_region 5 with fail
  generalize w3.alloc (.cells #[.int .i64 rs, .slice p3 rws.length c3, .slice q3 rls.length f3, .string rd] 26) = w4 at *
  have s0 := blk_cell HT4.out (j := 0) rfl
  have s1 := blk_cell HT4.out (j := 1) rfl
  have s2 := blk_cell HT4.out (j := 2) rfl
  have s3 := blk_cell HT4.out (j := 3) rfl
  go_wp2_with fail
  (with_reducible refine (specSay_x st d kW kL HLS.out (by omega) (by omega) (by omega) kB (by omega) HR).mono ?_); rintro e w5 ⟨p5, q5, x5, c5, f5, k5, rfl, pW, pL, pR, g5⟩
  have gS := gr_alloc w5 (.cells #[.int .i64 rs, .slice p5 rws.length c5, .slice q5 rls.length f5, .string rd] 26)
  have hS := heap_alloc_new w5 (.cells #[.int .i64 rs, .slice p5 rws.length c5, .slice q5 rls.length f5, .string rd] 26)
  have HS6 := Lib.hid hS
  have g56 := g5.trans gS
  have HT6 := Lib.hid (g56.blk HT4.out)
  have HI6 := Lib.hid (g56.blk HI.out)
  have G6 := G4.trans g56
  have tW := kW.kept g56
  have tL := kL.kept g56
  have tB := kB.kept g56
  have uW := oW4.kept g56
  have uL := oL4.kept g56
  have uR := oR4.kept g56
  have vW := pW.kept gS
  have vL := pL.kept gS
  have vR := pR.kept gS
  clear hS kW kL kB oW4 oL4 oR4 pW pL pR g5 gS g56 G4 HT4 HI s0 s1 s2 s3
  go_upto_region 6 with fail
  generalize w5.alloc (.cells #[.int .i64 rs, .slice p5 rws.length c5, .slice q5 rls.length f5, .string rd] 26) = w6 at *
  cases ok
  · go_wp2_with fail
    (with_reducible refine (same_c uR vR).mono ?_); rintro e w7 ⟨rfl, g7⟩
    have HI7 := Lib.hid (g7.blk HI6.out)
    have HS7 := Lib.hid (g7.blk HS6.out)
    have s0 := blk_cell HI7.out (j := 0) rfl
    have s1 := blk_cell HI7.out (j := 1) rfl
    have s2 := blk_cell HI7.out (j := 2) rfl
    have s3 := blk_cell HI7.out (j := 3) rfl
    have u0 := blk_cell HS7.out (j := 0) rfl
    have u1 := blk_cell HS7.out (j := 1) rfl
    have u2 := blk_cell HS7.out (j := 2) rfl
    have u3 := blk_cell HS7.out (j := 3) rfl
    go_wp2_with fail
    (with_reducible refine (sameTalk_t rs rd (uW.kept g7) (uL.kept g7) (vW.kept g7) (vL.kept g7)).mono ?_); rintro e w8 ⟨rfl, g8⟩
    have g68 := g7.trans g8
    have HT8 := Lib.hid (g68.blk HT6.out)
    have HI8 := Lib.hid (g68.blk HI6.out)
    have HS8 := Lib.hid (g68.blk HS6.out)
    have G8 := G6.trans g68
    have tW8 := tW.kept g68
    have tL8 := tL.kept g68
    have tB8 := tB.kept g68
    have uW8 := uW.kept g68
    have uL8 := uL.kept g68
    have uR8 := uR.kept g68
    have vW8 := vW.kept g68
    have vL8 := vL.kept g68
    have vR8 := vR.kept g68
    clear s0 s1 s2 s3 u0 u1 u2 u3
    clear tW tL tB uW uL uR vW vL vR g7 g8 g68 HI7 HS7 HT6 HI6 HS6 G6
    go_wp2_with fail
    (with_reducible refine (same_c uR8 vR8).mono ?_); rintro e w9 ⟨rfl, g9⟩
    have HI9 := Lib.hid (g9.blk HI8.out)
    have HS9 := Lib.hid (g9.blk HS8.out)
    have s0 := blk_cell HI9.out (j := 0) rfl
    have s1 := blk_cell HI9.out (j := 1) rfl
    have s2 := blk_cell HI9.out (j := 2) rfl
    have s3 := blk_cell HI9.out (j := 3) rfl
    have u0 := blk_cell HS9.out (j := 0) rfl
    have u1 := blk_cell HS9.out (j := 1) rfl
    have u2 := blk_cell HS9.out (j := 2) rfl
    have u3 := blk_cell HS9.out (j := 3) rfl
    go_wp2_with fail
    (with_reducible refine (sameTalk_t rs rd (uW8.kept g9) (uL8.kept g9) (vW8.kept g9) (vL8.kept g9)).mono ?_); rintro e w10 ⟨rfl, g10⟩
    go_wp2
    go_ret
    exact ⟨rfl, (G8.trans g9).trans g10⟩
  obtain ⟨hk, hrw, hrl, hs⟩ := sayR_yes HR.out
  simp only [] at hrw hrl
  subst hrw hrl
  by_cases h3 : rs < 3
  · clear hs hk HR
    go_wp2_with fail
    (with_reducible refine (same_c uR vR).mono ?_); rintro e w7 ⟨rfl, g7⟩
    have HI7 := Lib.hid (g7.blk HI6.out)
    have HS7 := Lib.hid (g7.blk HS6.out)
    have s0 := blk_cell HI7.out (j := 0) rfl
    have s1 := blk_cell HI7.out (j := 1) rfl
    have s2 := blk_cell HI7.out (j := 2) rfl
    have s3 := blk_cell HI7.out (j := 3) rfl
    have u0 := blk_cell HS7.out (j := 0) rfl
    have u1 := blk_cell HS7.out (j := 1) rfl
    have u2 := blk_cell HS7.out (j := 2) rfl
    have u3 := blk_cell HS7.out (j := 3) rfl
    go_wp2_with fail
    (with_reducible refine (sameTalk_t rs rd (uW.kept g7) (uL.kept g7) (vW.kept g7) (vL.kept g7)).mono ?_); rintro e w8 ⟨rfl, g8⟩
    have g68 := g7.trans g8
    have HT8 := Lib.hid (g68.blk HT6.out)
    have HI8 := Lib.hid (g68.blk HI6.out)
    have HS8 := Lib.hid (g68.blk HS6.out)
    have G8 := G6.trans g68
    have tW8 := tW.kept g68
    have tL8 := tL.kept g68
    have tB8 := tB.kept g68
    have uW8 := uW.kept g68
    have uL8 := uL.kept g68
    have uR8 := uR.kept g68
    have vW8 := vW.kept g68
    have vL8 := vL.kept g68
    have vR8 := vR.kept g68
    clear s0 s1 s2 s3 u0 u1 u2 u3
    clear tW tL tB uW uL uR vW vL vR g7 g8 g68 HI7 HS7 HT6 HI6 HS6 G6
    have s0 := blk_cell HS8.out (j := 0) rfl
    go_wp2_with fail
    (with_reducible refine (same_c uR8 vR8).mono ?_); rintro e w9 ⟨rfl, g9⟩
    have HI9 := Lib.hid (g9.blk HI8.out)
    have HS9 := Lib.hid (g9.blk HS8.out)
    have s0 := blk_cell HI9.out (j := 0) rfl
    have s1 := blk_cell HI9.out (j := 1) rfl
    have s2 := blk_cell HI9.out (j := 2) rfl
    have s3 := blk_cell HI9.out (j := 3) rfl
    have u0 := blk_cell HS9.out (j := 0) rfl
    have u1 := blk_cell HS9.out (j := 1) rfl
    have u2 := blk_cell HS9.out (j := 2) rfl
    have u3 := blk_cell HS9.out (j := 3) rfl
    go_wp2_with fail
    (with_reducible refine (sameTalk_t rs rd (uW8.kept g9) (uL8.kept g9) (vW8.kept g9) (vL8.kept g9)).mono ?_); rintro e w10 ⟨rfl, g10⟩
    go_wp2
    go_ret
    exact ⟨rfl, (G8.trans g9).trans g10⟩
  have hdz : rd.size ≤ 26 := by
    have := say_dst ⟨st, rws, rls, tx d⟩ b
    rw [hs] at this
    simpa [tx_len] using this
  have E1 : ∀ ys, sayOk ⟨rs, rws, rls, tx rd⟩ ys = false := fun ys => by
    have := say_end (t := ⟨st, rws, rls, tx d⟩) (xs := b) (ys := ys) (by rw [sayT_is hs]; simp only []; omega)
    rw [sayT_is hs] at this
    exact this
  have HE1 : Hid (sayR ⟨rs, rws, rls, tx rd⟩ b = (⟨0, [], [], tx ⟨#[]⟩⟩, [], false)) := Lib.hid (sayR_no (E1 b))
  have HE2 : Hid (sayR ⟨rs, rws, rls, tx rd⟩ [] = (⟨0, [], [], tx ⟨#[]⟩⟩, [], false)) := Lib.hid (sayR_no (E1 []))
  have h3' : 3 ≤ rs := by omega
  clear hs hk HR E1 h3
  go_wp2_with fail
  (with_reducible refine (same_c uR vR).mono ?_); rintro e w7 ⟨rfl, g7⟩
  have HI7 := Lib.hid (g7.blk HI6.out)
  have HS7 := Lib.hid (g7.blk HS6.out)
  have s0 := blk_cell HI7.out (j := 0) rfl
  have s1 := blk_cell HI7.out (j := 1) rfl
  have s2 := blk_cell HI7.out (j := 2) rfl
  have s3 := blk_cell HI7.out (j := 3) rfl
  have u0 := blk_cell HS7.out (j := 0) rfl
  have u1 := blk_cell HS7.out (j := 1) rfl
  have u2 := blk_cell HS7.out (j := 2) rfl
  have u3 := blk_cell HS7.out (j := 3) rfl
  go_wp2_with fail
  (with_reducible refine (sameTalk_t rs rd (uW.kept g7) (uL.kept g7) (vW.kept g7) (vL.kept g7)).mono ?_); rintro e w8 ⟨rfl, g8⟩
  have g68 := g7.trans g8
  have HT8 := Lib.hid (g68.blk HT6.out)
  have HI8 := Lib.hid (g68.blk HI6.out)
  have HS8 := Lib.hid (g68.blk HS6.out)
  have G8 := G6.trans g68
  have tW8 := tW.kept g68
  have tL8 := tL.kept g68
  have tB8 := tB.kept g68
  have uW8 := uW.kept g68
  have uL8 := uL.kept g68
  have uR8 := uR.kept g68
  have vW8 := vW.kept g68
  have vL8 := vL.kept g68
  have vR8 := vR.kept g68
  clear s0 s1 s2 s3 u0 u1 u2 u3
  clear tW tL tB uW uL uR vW vL vR g7 g8 g68 HI7 HS7 HT6 HI6 HS6 G6
  have u0 := blk_cell HS8.out (j := 0) rfl
  have s0 := blk_cell HI8.out (j := 0) rfl
  have s1 := blk_cell HI8.out (j := 1) rfl
  have s2 := blk_cell HI8.out (j := 2) rfl
  have s3 := blk_cell HI8.out (j := 3) rfl
  go_wp2_with fail
  (with_reducible refine (implSay_x (hm.kept G8) (he.kept G8) (ht.kept G8) rs rd uW8 uL8 HLS.out (by omega) (by omega) (by omega) tB8 (by omega) HE1).mono ?_); rintro e w9 ⟨p9, q9, x9, c9, f9, k9, rfl, _, _, _, g9⟩
  have gF := gr_alloc w9 (.cells #[.int .i64 0, .slice p9 0 c9, .slice q9 0 f9, .string ⟨#[]⟩] 26)
  have g9F := g9.trans gF
  have HI9 := Lib.hid (g9F.blk HI8.out)
  clear s0 s1 s2 s3 u0
  go_upto_region 9 with fail
  generalize w9.alloc (.cells #[.int .i64 0, .slice p9 0 c9, .slice q9 0 f9, .string ⟨#[]⟩] 26) = w10 at *
  have s0 := blk_cell HI9.out (j := 0) rfl
  have s1 := blk_cell HI9.out (j := 1) rfl
  have s2 := blk_cell HI9.out (j := 2) rfl
  have s3 := blk_cell HI9.out (j := 3) rfl
  have gE := gr_alloc w10 (.cells #[] 3)
  have GE := (G8.trans g9F).trans gE
  have g8E := g9F.trans gE
  have oE := (IntO.mt w10).s
  go_wp2_with fail
  (with_reducible refine (implSay_x (hm.kept GE) (he.kept GE) (ht.kept GE) rs rd (uW8.kept g8E) (uL8.kept g8E) HLS.out (by omega) (by omega) (by omega) oE (by simp) HE2).mono ?_); rintro e w11 ⟨p11, q11, x11, c11, f11, k11, rfl, _, _, _, g11⟩
  go_wp2
  go_ret
  exact ⟨rfl, (GE.trans g11).alloc _⟩
set_option maxRecDepth 20000 in
set_option maxHeartbeats 4000000 in
theorem FnSayOther_w {w : World} {v : Value} {bs : List Int} (hm : ML w) (he : ErrV w) (ht : Tab w) (h : ByteS w v bs) :
    Calls Tryz.prog 14 #[v] w fun e w' => e = .returned (.bool true) ∧ Gr w w' := by
  obtain ⟨p0, cap, rfl, _, _⟩ := h.form
  by_cases hx : bs.length ≤ 1048576
  rotate_left
  · have hx' : ¬ ((bs.length : Int) ≤ 1048576) := by omega
    go_enter Tryz.func14, Tryz.ntmps14
    go_wp2_with fail
    go_ret
    exact ⟨rfl, Gr.refl _⟩
  have hx' : ((bs.length : Int) ≤ 1048576) := by omega
  go_enter Tryz.func14, Tryz.ntmps14
  go_wp2_with fail
  (with_reducible refine (DrawTalkSay_c h).mono ?_); rintro e w1 ⟨p, q, x, c, f, k, st, ws, ls, d, b, rfl, hsm, hbl, iW, iL, iB, g1⟩
  obtain ⟨R, hR⟩ : ∃ R, sayR ⟨st, ws, ls, tx d⟩ b = R := ⟨_, rfl⟩
  obtain ⟨⟨rs, rws, rls, rdt⟩, rep, ok⟩ := R
  obtain ⟨rd, rfl⟩ : ∃ rd, rdt = tx rd := ⟨S rdt, (tx_S _).symm⟩
  obtain ⟨q1, q2, q3, q4⟩ := hsm
  have HR := Lib.hid hR
  have HLS := Lib.hid q3
  have gT := gr_alloc w1 (.cells #[.int .i64 st, .slice p ws.length c, .slice q ls.length f, .string d] 26)
  have hT := heap_alloc_new w1 (.cells #[.int .i64 st, .slice p ws.length c, .slice q ls.length f, .string d] 26)
  have HT := Lib.hid hT
  have G2 := g1.trans gT
  have jW := iW.kept gT
  have jL := iL.kept gT
  have jB := iB.kept gT
  clear hT iW iL iB hR q3 g1 gT
  go_upto_region 4 with fail
  generalize w1.alloc (.cells #[.int .i64 st, .slice p ws.length c, .slice q ls.length f, .string d] 26) = w2 at *
  have s0 := blk_cell HT.out (j := 0) rfl
  have s1 := blk_cell HT.out (j := 1) rfl
  have s2 := blk_cell HT.out (j := 2) rfl
  have s3 := blk_cell HT.out (j := 3) rfl
  go_wp2_with fail
  (with_reducible refine (implSay_x (hm.kept G2) (he.kept G2) (ht.kept G2) st d jW jL HLS.out (by omega) (by omega) (by omega) jB (by omega) HR).mono ?_); rintro e w3 ⟨p3, q3, x3, c3, f3, k3, rfl, oW, oL, oR, g3⟩
  have gI := gr_alloc w3 (.cells #[.int .i64 rs, .slice p3 rws.length c3, .slice q3 rls.length f3, .string rd] 26)
  have hI := heap_alloc_new w3 (.cells #[.int .i64 rs, .slice p3 rws.length c3, .slice q3 rls.length f3, .string rd] 26)
  have HI := Lib.hid hI
  have g34 := g3.trans gI
  have HT4 := Lib.hid (g34.blk HT.out)
  have G4 := G2.trans g34
  have kW := jW.kept g34
  have kL := jL.kept g34
  have kB := jB.kept g34
  have oW4 := oW.kept gI
  have oL4 := oL.kept gI
  have oR4 := oR.kept gI
  clear hI jW jL jB oW oL oR g3 gI g34 G2 HT s0 s1 s2 s3
  go_upto_region 5 with fail
  generalize w3.alloc (.cells #[.int .i64 rs, .slice p3 rws.length c3, .slice q3 rls.length f3, .string rd] 26) = w4 at *
  have s0 := blk_cell HT4.out (j := 0) rfl
  have s1 := blk_cell HT4.out (j := 1) rfl
  have s2 := blk_cell HT4.out (j := 2) rfl
  have s3 := blk_cell HT4.out (j := 3) rfl
  go_wp2_with fail
  (with_reducible refine (specSay_x st d kW kL HLS.out (by omega) (by omega) (by omega) kB (by omega) HR).mono ?_); rintro e w5 ⟨p5, q5, x5, c5, f5, k5, rfl, pW, pL, pR, g5⟩
  have gS := gr_alloc w5 (.cells #[.int .i64 rs, .slice p5 rws.length c5, .slice q5 rls.length f5, .string rd] 26)
  have hS := heap_alloc_new w5 (.cells #[.int .i64 rs, .slice p5 rws.length c5, .slice q5 rls.length f5, .string rd] 26)
  have HS6 := Lib.hid hS
  have g56 := g5.trans gS
  have HT6 := Lib.hid (g56.blk HT4.out)
  have HI6 := Lib.hid (g56.blk HI.out)
  have G6 := G4.trans g56
  have tW := kW.kept g56
  have tL := kL.kept g56
  have tB := kB.kept g56
  have uW := oW4.kept g56
  have uL := oL4.kept g56
  have uR := oR4.kept g56
  have vW := pW.kept gS
  have vL := pL.kept gS
  have vR := pR.kept gS
  clear hS kW kL kB oW4 oL4 oR4 pW pL pR g5 gS g56 G4 HT4 HI s0 s1 s2 s3
  go_upto_region 6 with fail
  generalize w5.alloc (.cells #[.int .i64 rs, .slice p5 rws.length c5, .slice q5 rls.length f5, .string rd] 26) = w6 at *
  cases ok
  · go_wp2_with fail
    (with_reducible refine (same_c uR vR).mono ?_); rintro e w7 ⟨rfl, g7⟩
    have HI7 := Lib.hid (g7.blk HI6.out)
    have HS7 := Lib.hid (g7.blk HS6.out)
    have s0 := blk_cell HI7.out (j := 0) rfl
    have s1 := blk_cell HI7.out (j := 1) rfl
    have s2 := blk_cell HI7.out (j := 2) rfl
    have s3 := blk_cell HI7.out (j := 3) rfl
    have u0 := blk_cell HS7.out (j := 0) rfl
    have u1 := blk_cell HS7.out (j := 1) rfl
    have u2 := blk_cell HS7.out (j := 2) rfl
    have u3 := blk_cell HS7.out (j := 3) rfl
    go_wp2_with fail
    (with_reducible refine (sameTalk_t rs rd (uW.kept g7) (uL.kept g7) (vW.kept g7) (vL.kept g7)).mono ?_); rintro e w8 ⟨rfl, g8⟩
    have g68 := g7.trans g8
    have HT8 := Lib.hid (g68.blk HT6.out)
    have HI8 := Lib.hid (g68.blk HI6.out)
    have HS8 := Lib.hid (g68.blk HS6.out)
    have G8 := G6.trans g68
    have tW8 := tW.kept g68
    have tL8 := tL.kept g68
    have tB8 := tB.kept g68
    have uW8 := uW.kept g68
    have uL8 := uL.kept g68
    have uR8 := uR.kept g68
    have vW8 := vW.kept g68
    have vL8 := vL.kept g68
    have vR8 := vR.kept g68
    clear s0 s1 s2 s3 u0 u1 u2 u3
    clear tW tL tB uW uL uR vW vL vR g7 g8 g68 HI7 HS7 HT6 HI6 HS6 G6
    go_wp2_with fail
    (with_reducible refine (same_c uR8 vR8).mono ?_); rintro e w9 ⟨rfl, g9⟩
    have HI9 := Lib.hid (g9.blk HI8.out)
    have HS9 := Lib.hid (g9.blk HS8.out)
    have s0 := blk_cell HI9.out (j := 0) rfl
    have s1 := blk_cell HI9.out (j := 1) rfl
    have s2 := blk_cell HI9.out (j := 2) rfl
    have s3 := blk_cell HI9.out (j := 3) rfl
    have u0 := blk_cell HS9.out (j := 0) rfl
    have u1 := blk_cell HS9.out (j := 1) rfl
    have u2 := blk_cell HS9.out (j := 2) rfl
    have u3 := blk_cell HS9.out (j := 3) rfl
    go_wp2_with fail
    (with_reducible refine (sameTalk_t rs rd (uW8.kept g9) (uL8.kept g9) (vW8.kept g9) (vL8.kept g9)).mono ?_); rintro e w10 ⟨rfl, g10⟩
    go_wp2
    go_ret
    exact ⟨rfl, (G8.trans g9).trans g10⟩
  obtain ⟨hk, hrw, hrl, hs⟩ := sayR_yes HR.out
  simp only [] at hrw hrl
  subst hrw hrl
  by_cases h0 : st = 0
  rotate_left
  · have h0' : (st != 0) = true := by simpa using h0
    clear hs hk HR h0
    go_wp2_with fail
    (with_reducible refine (same_c uR vR).mono ?_); rintro e w7 ⟨rfl, g7⟩
    have HI7 := Lib.hid (g7.blk HI6.out)
    have HS7 := Lib.hid (g7.blk HS6.out)
    have s0 := blk_cell HI7.out (j := 0) rfl
    have s1 := blk_cell HI7.out (j := 1) rfl
    have s2 := blk_cell HI7.out (j := 2) rfl
    have s3 := blk_cell HI7.out (j := 3) rfl
    have u0 := blk_cell HS7.out (j := 0) rfl
    have u1 := blk_cell HS7.out (j := 1) rfl
    have u2 := blk_cell HS7.out (j := 2) rfl
    have u3 := blk_cell HS7.out (j := 3) rfl
    go_wp2_with fail
    (with_reducible refine (sameTalk_t rs rd (uW.kept g7) (uL.kept g7) (vW.kept g7) (vL.kept g7)).mono ?_); rintro e w8 ⟨rfl, g8⟩
    have g68 := g7.trans g8
    have HT8 := Lib.hid (g68.blk HT6.out)
    have HI8 := Lib.hid (g68.blk HI6.out)
    have HS8 := Lib.hid (g68.blk HS6.out)
    have G8 := G6.trans g68
    have tW8 := tW.kept g68
    have tL8 := tL.kept g68
    have tB8 := tB.kept g68
    have uW8 := uW.kept g68
    have uL8 := uL.kept g68
    have uR8 := uR.kept g68
    have vW8 := vW.kept g68
    have vL8 := vL.kept g68
    have vR8 := vR.kept g68
    clear s0 s1 s2 s3 u0 u1 u2 u3
    clear tW tL tB uW uL uR vW vL vR g7 g8 g68 HI7 HS7 HT6 HI6 HS6 G6
    have s0 := blk_cell HT8.out (j := 0) rfl
    go_wp2_with fail
    (with_reducible refine (same_c uR8 vR8).mono ?_); rintro e w9 ⟨rfl, g9⟩
    have HI9 := Lib.hid (g9.blk HI8.out)
    have HS9 := Lib.hid (g9.blk HS8.out)
    have s0 := blk_cell HI9.out (j := 0) rfl
    have s1 := blk_cell HI9.out (j := 1) rfl
    have s2 := blk_cell HI9.out (j := 2) rfl
    have s3 := blk_cell HI9.out (j := 3) rfl
    have u0 := blk_cell HS9.out (j := 0) rfl
    have u1 := blk_cell HS9.out (j := 1) rfl
    have u2 := blk_cell HS9.out (j := 2) rfl
    have u3 := blk_cell HS9.out (j := 3) rfl
    go_wp2_with fail
    (with_reducible refine (sameTalk_t rs rd (uW8.kept g9) (uL8.kept g9) (vW8.kept g9) (vL8.kept g9)).mono ?_); rintro e w10 ⟨rfl, g10⟩
    go_wp2
    go_ret
    exact ⟨rfl, (G8.trans g9).trans g10⟩
  obtain ⟨k1, k2, k3⟩ := sayOk_parts hk
  have hse := (talk_parts k1).1
  have HE : Hid (sayR ⟨st, rws, rls, tx d⟩ [5, 1, 128] = (⟨4, rws, rls, tx ⟨#[]⟩⟩, [5, 255], true)) := Lib.hid (sayR_of (sayOk_of k1 rfl k3) ((say_hello h0).trans (hello_other hse)) rfl)
  have h0' : (st != 0) = false := by simpa using h0
  clear hs hk HR h0 k1 k2 k3 hse
  go_wp2_with fail
  (with_reducible refine (same_c uR vR).mono ?_); rintro e w7 ⟨rfl, g7⟩
  have HI7 := Lib.hid (g7.blk HI6.out)
  have HS7 := Lib.hid (g7.blk HS6.out)
  have s0 := blk_cell HI7.out (j := 0) rfl
  have s1 := blk_cell HI7.out (j := 1) rfl
  have s2 := blk_cell HI7.out (j := 2) rfl
  have s3 := blk_cell HI7.out (j := 3) rfl
  have u0 := blk_cell HS7.out (j := 0) rfl
  have u1 := blk_cell HS7.out (j := 1) rfl
  have u2 := blk_cell HS7.out (j := 2) rfl
  have u3 := blk_cell HS7.out (j := 3) rfl
  go_wp2_with fail
  (with_reducible refine (sameTalk_t rs rd (uW.kept g7) (uL.kept g7) (vW.kept g7) (vL.kept g7)).mono ?_); rintro e w8 ⟨rfl, g8⟩
  have g68 := g7.trans g8
  have HT8 := Lib.hid (g68.blk HT6.out)
  have HI8 := Lib.hid (g68.blk HI6.out)
  have HS8 := Lib.hid (g68.blk HS6.out)
  have G8 := G6.trans g68
  have tW8 := tW.kept g68
  have tL8 := tL.kept g68
  have tB8 := tB.kept g68
  have uW8 := uW.kept g68
  have uL8 := uL.kept g68
  have uR8 := uR.kept g68
  have vW8 := vW.kept g68
  have vL8 := vL.kept g68
  have vR8 := vR.kept g68
  clear s0 s1 s2 s3 u0 u1 u2 u3
  clear tW tL tB uW uL uR vW vL vR g7 g8 g68 HI7 HS7 HT6 HI6 HS6 G6
  have s0 := blk_cell HT8.out (j := 0) rfl
  have s1 := blk_cell HT8.out (j := 1) rfl
  have s2 := blk_cell HT8.out (j := 2) rfl
  have s3 := blk_cell HT8.out (j := 3) rfl
  have gE := gr_alloc w8 (.cells #[.int .i64 5, .int .i64 1, .int .i64 128] 3)
  have GE := G8.trans gE
  have oE := (IntO.tri (w := w8) (x := 5) (y := 1) (z := 128) rfl).s
  go_wp2_with fail
  (with_reducible refine (implSay_x (hm.kept GE) (he.kept GE) (ht.kept GE) st d (tW8.kept gE) (tL8.kept gE) HLS.out (by omega) (by omega) (by omega) oE (by simp) HE).mono ?_); rintro e w9 ⟨p9, q9, x9, c9, f9, k9, rfl, _, _, o9, g9⟩
  have gF := gr_alloc w9 (.cells #[.int .i64 4, .slice p9 rws.length c9, .slice q9 rls.length f9, .string ⟨#[]⟩] 26)
  have oL := (IntO.two (w := w9.alloc (.cells #[.int .i64 4, .slice p9 rws.length c9, .slice q9 rls.length f9, .string ⟨#[]⟩] 26)) (x := 5) (y := 255) (m := w9.heap.size + 1) (by simp)).s
  have o11' := (o9.kept gF).kept (gr_alloc (w9.alloc (.cells #[.int .i64 4, .slice p9 rws.length c9, .slice q9 rls.length f9, .string ⟨#[]⟩] 26)) (.cells #[.int .i64 5, .int .i64 255] 3))
  have o11 : IntS _ (.slice x9 2 k9) [5, 255] := o11'
  clear o11'
  go_wp2_with fail
  (with_reducible refine (same_c o11 oL).mono ?_); rintro e w12 ⟨rfl, g12⟩
  go_wp2
  go_ret
  exact ⟨rfl, (((GE.trans g9).alloc _).alloc _).trans g12⟩
set_option maxRecDepth 20000 in
set_option maxHeartbeats 4000000 in
theorem FnSayNoLogins_w {w : World} {v : Value} {bs : List Int} (hm : ML w) (he : ErrV w) (ht : Tab w) (h : ByteS w v bs) :
    Calls Tryz.prog 13 #[v] w fun e w' => e = .returned (.bool true) ∧ Gr w w' := by
  obtain ⟨p0, cap, rfl, _, _⟩ := h.form
  by_cases hx : bs.length ≤ 1048576
  rotate_left
  · have hx' : ¬ ((bs.length : Int) ≤ 1048576) := by omega
    go_enter Tryz.func13, Tryz.ntmps13
    go_wp2_with fail
    go_ret
    exact ⟨rfl, Gr.refl _⟩
  have hx' : ((bs.length : Int) ≤ 1048576) := by omega
  go_enter Tryz.func13, Tryz.ntmps13
  go_wp2_with fail
  (with_reducible refine (DrawTalkSay_c h).mono ?_); rintro e w1 ⟨p, q, x, c, f, k, st, ws, ls, d, b, rfl, hsm, hbl, iW, iL, iB, g1⟩
  obtain ⟨R, hR⟩ : ∃ R, sayR ⟨st, ws, ls, tx d⟩ b = R := ⟨_, rfl⟩
  obtain ⟨⟨rs, rws, rls, rdt⟩, rep, ok⟩ := R
  obtain ⟨rd, rfl⟩ : ∃ rd, rdt = tx rd := ⟨S rdt, (tx_S _).symm⟩
  obtain ⟨q1, q2, q3, q4⟩ := hsm
  have HR := Lib.hid hR
  have HLS := Lib.hid q3
  have gT := gr_alloc w1 (.cells #[.int .i64 st, .slice p ws.length c, .slice q ls.length f, .string d] 26)
  have hT := heap_alloc_new w1 (.cells #[.int .i64 st, .slice p ws.length c, .slice q ls.length f, .string d] 26)
  have HT := Lib.hid hT
  have G2 := g1.trans gT
  have jW := iW.kept gT
  have jL := iL.kept gT
  have jB := iB.kept gT
  clear hT iW iL iB hR q3 g1 gT
  go_upto_region 4 with fail
  generalize w1.alloc (.cells #[.int .i64 st, .slice p ws.length c, .slice q ls.length f, .string d] 26) = w2 at *
  have s0 := blk_cell HT.out (j := 0) rfl
  have s1 := blk_cell HT.out (j := 1) rfl
  have s2 := blk_cell HT.out (j := 2) rfl
  have s3 := blk_cell HT.out (j := 3) rfl
  go_wp2_with fail
  (with_reducible refine (implSay_x (hm.kept G2) (he.kept G2) (ht.kept G2) st d jW jL HLS.out (by omega) (by omega) (by omega) jB (by omega) HR).mono ?_); rintro e w3 ⟨p3, q3, x3, c3, f3, k3, rfl, oW, oL, oR, g3⟩
  have gI := gr_alloc w3 (.cells #[.int .i64 rs, .slice p3 rws.length c3, .slice q3 rls.length f3, .string rd] 26)
  have hI := heap_alloc_new w3 (.cells #[.int .i64 rs, .slice p3 rws.length c3, .slice q3 rls.length f3, .string rd] 26)
  have HI := Lib.hid hI
  have g34 := g3.trans gI
  have HT4 := Lib.hid (g34.blk HT.out)
  have G4 := G2.trans g34
  have kW := jW.kept g34
  have kL := jL.kept g34
  have kB := jB.kept g34
  have oW4 := oW.kept gI
  have oL4 := oL.kept gI
  have oR4 := oR.kept gI
  clear hI jW jL jB oW oL oR g3 gI g34 G2 HT s0 s1 s2 s3
  go_upto_region 5 with fail
  generalize w3.alloc (.cells #[.int .i64 rs, .slice p3 rws.length c3, .slice q3 rls.length f3, .string rd] 26) = w4 at *
  have s0 := blk_cell HT4.out (j := 0) rfl
  have s1 := blk_cell HT4.out (j := 1) rfl
  have s2 := blk_cell HT4.out (j := 2) rfl
  have s3 := blk_cell HT4.out (j := 3) rfl
  go_wp2_with fail
  (with_reducible refine (specSay_x st d kW kL HLS.out (by omega) (by omega) (by omega) kB (by omega) HR).mono ?_); rintro e w5 ⟨p5, q5, x5, c5, f5, k5, rfl, pW, pL, pR, g5⟩
  have gS := gr_alloc w5 (.cells #[.int .i64 rs, .slice p5 rws.length c5, .slice q5 rls.length f5, .string rd] 26)
  have hS := heap_alloc_new w5 (.cells #[.int .i64 rs, .slice p5 rws.length c5, .slice q5 rls.length f5, .string rd] 26)
  have HS6 := Lib.hid hS
  have g56 := g5.trans gS
  have HT6 := Lib.hid (g56.blk HT4.out)
  have HI6 := Lib.hid (g56.blk HI.out)
  have G6 := G4.trans g56
  have tW := kW.kept g56
  have tL := kL.kept g56
  have tB := kB.kept g56
  have uW := oW4.kept g56
  have uL := oL4.kept g56
  have uR := oR4.kept g56
  have vW := pW.kept gS
  have vL := pL.kept gS
  have vR := pR.kept gS
  clear hS kW kL kB oW4 oL4 oR4 pW pL pR g5 gS g56 G4 HT4 HI s0 s1 s2 s3
  go_upto_region 6 with fail
  generalize w5.alloc (.cells #[.int .i64 rs, .slice p5 rws.length c5, .slice q5 rls.length f5, .string rd] 26) = w6 at *
  cases ok
  · go_wp2_with fail
    (with_reducible refine (same_c uR vR).mono ?_); rintro e w7 ⟨rfl, g7⟩
    have HI7 := Lib.hid (g7.blk HI6.out)
    have HS7 := Lib.hid (g7.blk HS6.out)
    have s0 := blk_cell HI7.out (j := 0) rfl
    have s1 := blk_cell HI7.out (j := 1) rfl
    have s2 := blk_cell HI7.out (j := 2) rfl
    have s3 := blk_cell HI7.out (j := 3) rfl
    have u0 := blk_cell HS7.out (j := 0) rfl
    have u1 := blk_cell HS7.out (j := 1) rfl
    have u2 := blk_cell HS7.out (j := 2) rfl
    have u3 := blk_cell HS7.out (j := 3) rfl
    go_wp2_with fail
    (with_reducible refine (sameTalk_t rs rd (uW.kept g7) (uL.kept g7) (vW.kept g7) (vL.kept g7)).mono ?_); rintro e w8 ⟨rfl, g8⟩
    have g68 := g7.trans g8
    have HT8 := Lib.hid (g68.blk HT6.out)
    have HI8 := Lib.hid (g68.blk HI6.out)
    have HS8 := Lib.hid (g68.blk HS6.out)
    have G8 := G6.trans g68
    have tW8 := tW.kept g68
    have tL8 := tL.kept g68
    have tB8 := tB.kept g68
    have uW8 := uW.kept g68
    have uL8 := uL.kept g68
    have uR8 := uR.kept g68
    have vW8 := vW.kept g68
    have vL8 := vL.kept g68
    have vR8 := vR.kept g68
    clear s0 s1 s2 s3 u0 u1 u2 u3
    clear tW tL tB uW uL uR vW vL vR g7 g8 g68 HI7 HS7 HT6 HI6 HS6 G6
    go_wp2_with fail
    (with_reducible refine (same_c uR8 vR8).mono ?_); rintro e w9 ⟨rfl, g9⟩
    have HI9 := Lib.hid (g9.blk HI8.out)
    have HS9 := Lib.hid (g9.blk HS8.out)
    have s0 := blk_cell HI9.out (j := 0) rfl
    have s1 := blk_cell HI9.out (j := 1) rfl
    have s2 := blk_cell HI9.out (j := 2) rfl
    have s3 := blk_cell HI9.out (j := 3) rfl
    have u0 := blk_cell HS9.out (j := 0) rfl
    have u1 := blk_cell HS9.out (j := 1) rfl
    have u2 := blk_cell HS9.out (j := 2) rfl
    have u3 := blk_cell HS9.out (j := 3) rfl
    go_wp2_with fail
    (with_reducible refine (sameTalk_t rs rd (uW8.kept g9) (uL8.kept g9) (vW8.kept g9) (vL8.kept g9)).mono ?_); rintro e w10 ⟨rfl, g10⟩
    go_wp2
    go_ret
    exact ⟨rfl, (G8.trans g9).trans g10⟩
  obtain ⟨hk, hrw, hrl, hs⟩ := sayR_yes HR.out
  simp only [] at hrw hrl
  subst hrw hrl
  by_cases h0 : st = 1
  rotate_left
  · have h0' : (st != 1) = true := by simpa using h0
    clear hs hk HR h0
    go_wp2_with fail
    (with_reducible refine (same_c uR vR).mono ?_); rintro e w7 ⟨rfl, g7⟩
    have HI7 := Lib.hid (g7.blk HI6.out)
    have HS7 := Lib.hid (g7.blk HS6.out)
    have s0 := blk_cell HI7.out (j := 0) rfl
    have s1 := blk_cell HI7.out (j := 1) rfl
    have s2 := blk_cell HI7.out (j := 2) rfl
    have s3 := blk_cell HI7.out (j := 3) rfl
    have u0 := blk_cell HS7.out (j := 0) rfl
    have u1 := blk_cell HS7.out (j := 1) rfl
    have u2 := blk_cell HS7.out (j := 2) rfl
    have u3 := blk_cell HS7.out (j := 3) rfl
    go_wp2_with fail
    (with_reducible refine (sameTalk_t rs rd (uW.kept g7) (uL.kept g7) (vW.kept g7) (vL.kept g7)).mono ?_); rintro e w8 ⟨rfl, g8⟩
    have g68 := g7.trans g8
    have HT8 := Lib.hid (g68.blk HT6.out)
    have HI8 := Lib.hid (g68.blk HI6.out)
    have HS8 := Lib.hid (g68.blk HS6.out)
    have G8 := G6.trans g68
    have tW8 := tW.kept g68
    have tL8 := tL.kept g68
    have tB8 := tB.kept g68
    have uW8 := uW.kept g68
    have uL8 := uL.kept g68
    have uR8 := uR.kept g68
    have vW8 := vW.kept g68
    have vL8 := vL.kept g68
    have vR8 := vR.kept g68
    clear s0 s1 s2 s3 u0 u1 u2 u3
    clear tW tL tB uW uL uR vW vL vR g7 g8 g68 HI7 HS7 HT6 HI6 HS6 G6
    have s0 := blk_cell HT8.out (j := 0) rfl
    go_wp2_with fail
    (with_reducible refine (same_c uR8 vR8).mono ?_); rintro e w9 ⟨rfl, g9⟩
    have HI9 := Lib.hid (g9.blk HI8.out)
    have HS9 := Lib.hid (g9.blk HS8.out)
    have s0 := blk_cell HI9.out (j := 0) rfl
    have s1 := blk_cell HI9.out (j := 1) rfl
    have s2 := blk_cell HI9.out (j := 2) rfl
    have s3 := blk_cell HI9.out (j := 3) rfl
    have u0 := blk_cell HS9.out (j := 0) rfl
    have u1 := blk_cell HS9.out (j := 1) rfl
    have u2 := blk_cell HS9.out (j := 2) rfl
    have u3 := blk_cell HS9.out (j := 3) rfl
    go_wp2_with fail
    (with_reducible refine (sameTalk_t rs rd (uW8.kept g9) (uL8.kept g9) (vW8.kept g9) (vL8.kept g9)).mono ?_); rintro e w10 ⟨rfl, g10⟩
    go_wp2
    go_ret
    exact ⟨rfl, (G8.trans g9).trans g10⟩
  obtain ⟨nl1, nl2⟩ := no_logins hk h0
  simp only [] at nl1 nl2
  obtain ⟨s', hs'⟩ : ∃ s', say ⟨st, rws, [], tx d⟩ b = s' := ⟨_, rfl⟩
  rw [hs'] at nl2
  have HE : Hid (sayR ⟨st, rws, [], tx d⟩ b = (⟨4, rws, [], tx (S s'.2.2)⟩, s'.2.1, true)) := Lib.hid (by rw [sayR_of nl1 hs' (tx_S _).symm, nl2])
  have h0' : (st != 1) = false := by simpa using h0
  clear hs hk HR h0 nl1 nl2 hs'
  generalize s'.2.1 = rep' at *
  generalize S s'.2.2 = rd' at *
  go_wp2_with fail
  (with_reducible refine (same_c uR vR).mono ?_); rintro e w7 ⟨rfl, g7⟩
  have HI7 := Lib.hid (g7.blk HI6.out)
  have HS7 := Lib.hid (g7.blk HS6.out)
  have s0 := blk_cell HI7.out (j := 0) rfl
  have s1 := blk_cell HI7.out (j := 1) rfl
  have s2 := blk_cell HI7.out (j := 2) rfl
  have s3 := blk_cell HI7.out (j := 3) rfl
  have u0 := blk_cell HS7.out (j := 0) rfl
  have u1 := blk_cell HS7.out (j := 1) rfl
  have u2 := blk_cell HS7.out (j := 2) rfl
  have u3 := blk_cell HS7.out (j := 3) rfl
  go_wp2_with fail
  (with_reducible refine (sameTalk_t rs rd (uW.kept g7) (uL.kept g7) (vW.kept g7) (vL.kept g7)).mono ?_); rintro e w8 ⟨rfl, g8⟩
  have g68 := g7.trans g8
  have HT8 := Lib.hid (g68.blk HT6.out)
  have HI8 := Lib.hid (g68.blk HI6.out)
  have HS8 := Lib.hid (g68.blk HS6.out)
  have G8 := G6.trans g68
  have tW8 := tW.kept g68
  have tL8 := tL.kept g68
  have tB8 := tB.kept g68
  have uW8 := uW.kept g68
  have uL8 := uL.kept g68
  have uR8 := uR.kept g68
  have vW8 := vW.kept g68
  have vL8 := vL.kept g68
  have vR8 := vR.kept g68
  clear s0 s1 s2 s3 u0 u1 u2 u3
  clear tW tL tB uW uL uR vW vL vR g7 g8 g68 HI7 HS7 HT6 HI6 HS6 G6
  have s0 := blk_cell HT8.out (j := 0) rfl
  have s1 := blk_cell HT8.out (j := 1) rfl
  have s2 := blk_cell HT8.out (j := 2) rfl
  have s3 := blk_cell HT8.out (j := 3) rfl
  have gC := gr_alloc w8 (.cells #[.int .i64 st, .slice p rws.length c, .slice q rls.length f, .string d] 26)
  have hC := heap_alloc_new w8 (.cells #[.int .i64 st, .slice p rws.length c, .slice q rls.length f, .string d] 26)
  have HC := Lib.hid hC
  have GC := G8.trans gC
  clear hC
  go_upto_region 9 with fail
  generalize w8.alloc (.cells #[.int .i64 st, .slice p rws.length c, .slice q rls.length f, .string d] 26) = w9 at *
  have gE := gr_alloc w9 (.cells #[] 59)
  have HC10 := Lib.hid (gE.blk HC.out)
  have lE := (LgO.mt (w := w9) (m := w9.heap.size) rfl)
  have x2 := blk_cell HC10.out (j := 2) rfl
  have f2 := blk_frozen HC10.out 2
  have HLT := Lib.hid (Array.getElem?_eq_some_iff.1 HC.out).1
  have g810 := gC.trans gE
  clear s0 s1 s2 s3 gE gC
  go_upto_region 10 with fail
  generalize w9.alloc (.cells #[] 59) = w10 at *
  have cS : Chg w8.heap.size (w8.heap.size + 1) w10 (w10.setCell ⟨w8.heap.size, 2, none⟩ (.slice (some ⟨w9.heap.size, 0, none⟩) 0 0)) := (Chg.refl _ _ w10).set (p := ⟨w8.heap.size, 2, none⟩) (Nat.le_refl _) (Nat.lt_succ_self _) _
  have hS11 := heap_set (j := 2) (x := .slice (some ⟨w9.heap.size, 0, none⟩) 0 0) HC10.out
  generalize w10.setCell ⟨w8.heap.size, 2, none⟩ (.slice (some ⟨w9.heap.size, 0, none⟩) 0 0) = w11 at *
  have HC11 : Hid (w11.heap[w8.heap.size]? = some (.cells #[.int .i64 st, .slice p rws.length c, .slice (some ⟨w9.heap.size, 0, none⟩) 0 0, .string d] 26 (0, 0))) := hS11
  have g811 : Gr w8 w11 := cS.gr g810 (Nat.le_refl _)
  have lE11 := (LgO.keptC lE cS HLT.out).s
  have GE := G8.trans g811
  clear x2 f2 hS11 cS lE HC10 HC g810
  have s0 := blk_cell HC11.out (j := 0) rfl
  have s1 := blk_cell HC11.out (j := 1) rfl
  have s2 := blk_cell HC11.out (j := 2) rfl
  have s3 := blk_cell HC11.out (j := 3) rfl
  go_wp2_with fail
  (with_reducible refine (implSay_x (ls := []) (hm.kept GE) (he.kept GE) (ht.kept GE) st d (tW8.kept g811) lE11 nil_sm (by omega) (by omega) (by simp) (tB8.kept g811) (by omega) HE).mono ?_); rintro e w12 ⟨p12, q12, x12, c12, f12, k12, rfl, _, _, _, g12⟩
  go_wp2
  go_ret
  exact ⟨rfl, (GE.trans g12).alloc _⟩
end Go.Proofs.YtpdjibfcbjknhaaGreatDoor
