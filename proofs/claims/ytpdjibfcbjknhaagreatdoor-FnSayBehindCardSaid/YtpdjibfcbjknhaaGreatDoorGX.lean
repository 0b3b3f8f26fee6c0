/- Talks that are alike.
The laws of what a talk says: what they share; five of them.
The laws of what a talk says: five more; the law of a talk's parts. -/
import Derived.Test.YtpdjibfcbjknhaaGreatDoorLgE
import Derived.Test.YtpdjibfcbjknhaaGreatDoorLgF
import Derived.Test.YtpdjibfcbjknhaaGreatDoorGH
import Derived.Laws.StructEq
import Derived.Test.YtpdjibfcbjknhaaGreatDoorDrawN
namespace Go.Proofs.YtpdjibfcbjknhaaGreatDoor
open Go.RowKit
set_option maxHeartbeats 1000000 in
theorem sameLogins_t {w : World} {v u : Value} {ls : List Lg} (h : LgS w v ls) (h2 : LgS w u ls) :
    Calls Tryz.prog 38 #[v, u] w fun e w' => e = .returned (.bool true) ∧ Gr w w' := by
  obtain ⟨p, c, rfl, hl1, hl2⟩ := h.form
  obtain ⟨q, d, rfl, _, _⟩ := h2.form
  go_enter Tryz.func38, Tryz.ntmps38
  go_wp2_with fail
  go_loopw [5] (fun i wr => ∃ k : Nat, k ≤ ls.length ∧ i = .int .i64 k ∧ Gr w wr) (fun i _ => ls.length - (intOf i).toNat)
  case atStart => exact ⟨0, Nat.zero_le _, rfl, Gr.refl _⟩
  case round =>
    obtain ⟨k, hk, rfl, hgr⟩ := hrel
    by_cases hlt : k < ls.length
    · obtain ⟨a, hix, hca, hcb⟩ := (h.kept hgr).ix hlt
      obtain ⟨b, hjx, hda, hdb⟩ := (h2.kept hgr).ix hlt
      generalize S (nthLg ls k).1 = s1 at *
      generalize S (nthLg ls k).2 = s2 at *
      go_wp2_with fail
      go_quiet (fail)
      go_wp2
      go_roundw
      case rel => exact ⟨k+1, by omega, by go_num, hgr.drewN _⟩
      case measure => simp [intOf]; omega
    · go_wp2
      go_ret
      exact ⟨rfl, hgr⟩
set_option maxRecDepth 20000 in
set_option maxHeartbeats 2000000 in
theorem sameTalk_t {w : World} {v u v' u' : Value} {ws : List Int} {ls : List Lg} (st : Int) (d : ByteArray) (h : IntS w v ws) (hl : LgS w u ls) (h2 : IntS w v' ws) (hl2 : LgS w u' ls) :
    Calls Tryz.prog 37 #[.agg #[.int .i64 st, v, u, .string d], .agg #[.int .i64 st, v', u', .string d]] w fun e w' => e = .returned (.bool true) ∧ Gr w w' := by
  obtain ⟨p, c, rfl, _, _⟩ := h.form
  obtain ⟨q, e, rfl, _, _⟩ := hl.form
  obtain ⟨p2, c2, rfl, _, _⟩ := h2.form
  obtain ⟨q2, e2, rfl, _, _⟩ := hl2.form
  have gA := (gr_alloc w (.cells #[.int .i64 st, .slice p ws.length c, .slice q ls.length e, .string d] 26)).alloc (.cells #[.int .i64 st, .slice p2 ws.length c2, .slice q2 ls.length e2, .string d] 26)
  have hA1 := (gr_alloc (w.alloc (.cells #[.int .i64 st, .slice p ws.length c, .slice q ls.length e, .string d] 26)) (.cells #[.int .i64 st, .slice p2 ws.length c2, .slice q2 ls.length e2, .string d] 26)).blk (heap_alloc_new w (.cells #[.int .i64 st, .slice p ws.length c, .slice q ls.length e, .string d] 26))
  have hA2 := heap_alloc_new (w.alloc (.cells #[.int .i64 st, .slice p ws.length c, .slice q ls.length e, .string d] 26)) (.cells #[.int .i64 st, .slice p2 ws.length c2, .slice q2 ls.length e2, .string d] 26)
  have eA : (w.alloc (.cells #[.int .i64 st, .slice p ws.length c, .slice q ls.length e, .string d] 26)).heap.size = w.heap.size + 1 := by simp
  rw [eA] at hA2
  have HA1 := Lib.hid hA1
  have HA2 := Lib.hid hA2
  have i1 := h.kept gA
  have i2 := h2.kept gA
  have j1 := hl.kept gA
  have j2 := hl2.kept gA
  clear hA1 hA2 eA
  go_enter Tryz.func37, Tryz.ntmps37
  go_upto_region 1 with fail
  generalize (w.alloc (.cells #[.int .i64 st, .slice p ws.length c, .slice q ls.length e, .string d] 26)).alloc (.cells #[.int .i64 st, .slice p2 ws.length c2, .slice q2 ls.length e2, .string d] 26) = w0 at *
  have s0 := blk_cell HA1.out (j := 0) rfl
  have s1 := blk_cell HA1.out (j := 1) rfl
  have s2 := blk_cell HA1.out (j := 2) rfl
  have s3 := blk_cell HA1.out (j := 3) rfl
  have u0 := blk_cell HA2.out (j := 0) rfl
  have u1 := blk_cell HA2.out (j := 1) rfl
  have u2 := blk_cell HA2.out (j := 2) rfl
  have u3 := blk_cell HA2.out (j := 3) rfl
  go_wp2_with fail
  (with_reducible refine (same_c i1 i2).mono ?_); rintro e w1 ⟨rfl, g1⟩
  have HB1 := Lib.hid (g1.blk HA1.out)
  have HB2 := Lib.hid (g1.blk HA2.out)
  clear s0 s1 s2 s3 u0 u1 u2 u3 HA1 HA2
  have s2 := blk_cell HB1.out (j := 2) rfl
  have u2 := blk_cell HB2.out (j := 2) rfl
  go_wp2_with fail
  (with_reducible refine (sameLogins_t (j1.kept g1) (j2.kept g1)).mono ?_); rintro e w2 ⟨rfl, g2⟩
  go_wp2
  go_ret
  exact ⟨rfl, (gA.trans g1).trans g2⟩
end Go.Proofs.YtpdjibfcbjknhaaGreatDoor
namespace Go.Proofs.YtpdjibfcbjknhaaGreatDoor
open Go.RowKit
theorem SyO.x {t : Tlk} {xs : List Int} {w w' : World} {e : Ending} {rs : Int} {rws : List Int} {rls : List Lg} {rd : ByteArray} {rep : List Int} {ok : Bool} (hR : sayR t xs = (⟨rs, rws, rls, tx rd⟩, rep, ok)) (h : SyO (sayR t xs) w e w') :
    ∃ (p q x : Option Addr) (c f k : Nat), e = .returned (.tuple #[.agg #[.int .i64 rs, .slice p rws.length c, .slice q rls.length f, .string rd], .slice x rep.length k, .bool ok]) ∧ IntS w' (.slice p rws.length c) rws ∧ LgS w' (.slice q rls.length f) rls ∧ IntS w' (.slice x rep.length k) rep ∧ Gr w w' := by
  rw [hR] at h
  obtain ⟨p, q, x, c, d, f, dst, rfl, hd, o, l, r, g⟩ := h
  have e : rd = dst := tx_ext hd.out
  subst e
  exact ⟨p, q, x, c, d, f, rfl, o.s, l.s, r.s, g⟩
theorem implSay_x {w : World} {v u x : Value} {ws xs : List Int} {ls : List Lg} (hm : ML w) (he : ErrV w) (ht : Tab w) (st : Int) (d : ByteArray) (h : IntS w v ws) (hl : LgS w u ls) (hs : LgSm ls) (hd : d.size ≤ 2000000) (hw : ws.length ≤ 1000000) (hn : ls.length ≤ 1000000) (hx : IntS w x xs) (hlen : xs.length ≤ 1048576)
    {rs : Int} {rws : List Int} {rls : List Lg} {rd : ByteArray} {rep : List Int} {ok : Bool} (hR : Hid (sayR ⟨st, ws, ls, tx d⟩ xs = (⟨rs, rws, rls, tx rd⟩, rep, ok))) :
    Calls Tryz.prog 34 #[.agg #[.int .i64 st, v, u, .string d], x] w fun e w' => ∃ (p q x : Option Addr) (c f k : Nat), e = .returned (.tuple #[.agg #[.int .i64 rs, .slice p rws.length c, .slice q rls.length f, .string rd], .slice x rep.length k, .bool ok]) ∧ IntS w' (.slice p rws.length c) rws ∧ LgS w' (.slice q rls.length f) rls ∧ IntS w' (.slice x rep.length k) rep ∧ Gr w w' :=
  (implTalkSay_c hm he ht st d h hl hs hd hw hn hx hlen).mono fun _ _ hh => SyO.x hR.out hh
theorem specSay_x {w : World} {v u x : Value} {ws xs : List Int} {ls : List Lg} (st : Int) (d : ByteArray) (h : IntS w v ws) (hl : LgS w u ls) (hs : LgSm ls) (hd : d.size ≤ 2000000) (hw : ws.length ≤ 1000000) (hn : ls.length ≤ 1000000) (hx : IntS w x xs) (hlen : xs.length ≤ 1048576)
    {rs : Int} {rws : List Int} {rls : List Lg} {rd : ByteArray} {rep : List Int} {ok : Bool} (hR : Hid (sayR ⟨st, ws, ls, tx d⟩ xs = (⟨rs, rws, rls, tx rd⟩, rep, ok))) :
    Calls Tryz.prog 35 #[.agg #[.int .i64 st, v, u, .string d], x] w fun e w' => ∃ (p q x : Option Addr) (c f k : Nat), e = .returned (.tuple #[.agg #[.int .i64 rs, .slice p rws.length c, .slice q rls.length f, .string rd], .slice x rep.length k, .bool ok]) ∧ IntS w' (.slice p rws.length c) rws ∧ LgS w' (.slice q rls.length f) rls ∧ IntS w' (.slice x rep.length k) rep ∧ Gr w w' :=
  (specTalkSay_c st d h hl hs hd hw hn hx hlen).mono fun _ _ hh => SyO.x hR.out hh
theorem sayR_yes {t : Tlk} {xs : List Int} {rs : Int} {rws : List Int} {rls : List Lg} {rd : Tx} {rep : List Int} (h : sayR t xs = (⟨rs, rws, rls, rd⟩, rep, true)) : sayOk t xs = true ∧ rws = t.wanted ∧ rls = t.logins ∧ say t xs = (rs, rep, rd) := by
  unfold sayR at h
  cases hk : sayOk t xs
  · rw [hk] at h; cases h
  · rw [hk, if_pos rfl] at h
    unfold sayT at h
    injection h with h1 h2
    injection h1 with a1 a2 a3 a4
    injection h2 with b1 b2
    exact ⟨rfl, a2.symm, a3.symm, by rw [← a1, ← b1, ← a4]⟩
theorem sayR_no {t : Tlk} {xs : List Int} (h : sayOk t xs = false) : sayR t xs = (⟨0, [], [], tx ⟨#[]⟩⟩, [], false) := by unfold sayR; rw [h]; rfl
theorem sayR_of {t : Tlk} {xs : List Int} {s : Int × List Int × Tx} {rd : ByteArray} (h : sayOk t xs = true) (hs : say t xs = s) (hd : s.2.2 = tx rd) : sayR t xs = (⟨s.1, t.wanted, t.logins, tx rd⟩, s.2.1, true) := by unfold sayR sayT; rw [h, hs, if_pos rfl, hd]
theorem sayT_is {t : Tlk} {xs : List Int} {rs : Int} {rep : List Int} {rd : Tx} (h : say t xs = (rs, rep, rd)) : sayT t xs = ⟨rs, t.wanted, t.logins, rd⟩ := by unfold sayT; rw [h]
set_option maxRecDepth 20000 in
set_option maxHeartbeats 4000000 in
theorem FnSay_w {w : World} {v : Value} {bs : List Int} (hm : ML w) (he : ErrV w) (ht : Tab w) (h : ByteS w v bs) :
    Calls Tryz.prog 6 #[v] w fun e w' => e = .returned (.bool true) ∧ Gr w w' := by
  obtain ⟨p0, cap, rfl, _, _⟩ := h.form
  by_cases hx : bs.length ≤ 1048576
  rotate_left
  · have hx' : ¬ ((bs.length : Int) ≤ 1048576) := by omega
    go_enter Tryz.func6, Tryz.ntmps6
    go_wp2_with fail
    go_ret
    exact ⟨rfl, Gr.refl _⟩
  have hx' : ((bs.length : Int) ≤ 1048576) := by omega
  go_enter Tryz.func6, Tryz.ntmps6
  go_wp2_with fail
  (with_reducible refine (DrawTalkSay_c h).mono ?_); rintro e w1 ⟨p, q, x, c, f, k, st, ws, ls, d, b, rfl, hsm, hbl, iW, iL, iB, g1⟩
  obtain ⟨R, hR⟩ : ∃ R, sayR ⟨st, ws, ls, tx d⟩ b = R := ⟨_, rfl⟩
  obtain ⟨⟨rs, rws, rls, rdt⟩, rep, ok⟩ := R
  obtain ⟨rd, rfl⟩ : ∃ rd, rdt = tx rd := ⟨S rdt, (tx_S _).symm⟩
  obtain ⟨q1, q2, q3, q4⟩ := hsm
  have HR := Lib.hid hR
  have HLS := Lib.hid q3
  have gT := gr_alloc w1 (.cells #[.int .i64 st, .slice p ws.length c, .slice q ls.length f, .string d] 26)
  have hT := heap_alloc_new w1 (.cells #[.int .i64 st, .slice p ws.length c, .slice q ls.length f, .string d] 26)
  have HT := Lib.hid hT
  have G2 := g1.trans gT
  have jW := iW.kept gT
  have jL := iL.kept gT
  have jB := iB.kept gT
  clear hT iW iL iB hR q3 g1 gT
  go_upto_region 4 with fail
  generalize w1.alloc (.cells #[.int .i64 st, .slice p ws.length c, .slice q ls.length f, .string d] 26) = w2 at *
  have s0 := blk_cell HT.out (j := 0) rfl
  have s1 := blk_cell HT.out (j := 1) rfl
  have s2 := blk_cell HT.out (j := 2) rfl
  have s3 := blk_cell HT.out (j := 3) rfl
  go_wp2_with fail
  (with_reducible refine (implSay_x (hm.kept G2) (he.kept G2) (ht.kept G2) st d jW jL HLS.out (by omega) (by omega) (by omega) jB (by omega) HR).mono ?_); rintro e w3 ⟨p3, q3, x3, c3, f3, k3, rfl, oW, oL, oR, g3⟩
  have gI := gr_alloc w3 (.cells #[.int .i64 rs, .slice p3 rws.length c3, .slice q3 rls.length f3, .string rd] 26)
  have hI := heap_alloc_new w3 (.cells #[.int .i64 rs, .slice p3 rws.length c3, .slice q3 rls.length f3, .string rd] 26)
  have HI := Lib.hid hI
  have g34 := g3.trans gI
  have HT4 := Lib.hid (g34.blk HT.out)
  have G4 := G2.trans g34
  have kW := jW.kept g34
  have kL := jL.kept g34
  have kB := jB.kept g34
  have oW4 := oW.kept gI
  have oL4 := oL.kept gI
  have oR4 := oR.kept gI
  clear hI jW jL jB oW oL oR g3 gI g34 G2 HT s0 s1 s2 s3
  go_upto_region 5 with fail
  generalize w3.alloc (.cells #[.int .i64 rs, .slice p3 rws.length c3, .slice q3 rls.length f3, .string rd] 26) = w4 at *
  have s0 := blk_cell HT4.out (j := 0) rfl
  have s1 := blk_cell HT4.out (j := 1) rfl
  have s2 := blk_cell HT4.out (j := 2) rfl
  have s3 := blk_cell HT4.out (j := 3) rfl
  go_wp2_with fail
  (with_reducible refine (specSay_x st d kW kL HLS.out (by omega) (by omega) (by omega) kB (by omega) HR).mono ?_); rintro e w5 ⟨p5, q5, x5, c5, f5, k5, rfl, pW, pL, pR, g5⟩
  have gS := gr_alloc w5 (.cells #[.int .i64 rs, .slice p5 rws.length c5, .slice q5 rls.length f5, .string rd] 26)
  have hS := heap_alloc_new w5 (.cells #[.int .i64 rs, .slice p5 rws.length c5, .slice q5 rls.length f5, .string rd] 26)
  have HS6 := Lib.hid hS
  have g56 := g5.trans gS
  have HT6 := Lib.hid (g56.blk HT4.out)
  have HI6 := Lib.hid (g56.blk HI.out)
  have G6 := G4.trans g56
  have tW := kW.kept g56
  have tL := kL.kept g56
  have tB := kB.kept g56
  have uW := oW4.kept g56
  have uL := oL4.kept g56
  have uR := oR4.kept g56
  have vW := pW.kept gS
  have vL := pL.kept gS
  have vR := pR.kept gS
  clear hS kW kL kB oW4 oL4 oR4 pW pL pR g5 gS g56 G4 HT4 HI s0 s1 s2 s3
  go_upto_region 6 with fail
  generalize w5.alloc (.cells #[.int .i64 rs, .slice p5 rws.length c5, .slice q5 rls.length f5, .string rd] 26) = w6 at *
  cases ok
  · go_wp2_with fail
    (with_reducible refine (same_c uR vR).mono ?_); rintro e w7 ⟨rfl, g7⟩
    have HI7 := Lib.hid (g7.blk HI6.out)
    have HS7 := Lib.hid (g7.blk HS6.out)
    have s0 := blk_cell HI7.out (j := 0) rfl
    have s1 := blk_cell HI7.out (j := 1) rfl
    have s2 := blk_cell HI7.out (j := 2) rfl
    have s3 := blk_cell HI7.out (j := 3) rfl
    have u0 := blk_cell HS7.out (j := 0) rfl
    have u1 := blk_cell HS7.out (j := 1) rfl
    have u2 := blk_cell HS7.out (j := 2) rfl
    have u3 := blk_cell HS7.out (j := 3) rfl
    go_wp2_with fail
    (with_reducible refine (sameTalk_t rs rd (uW.kept g7) (uL.kept g7) (vW.kept g7) (vL.kept g7)).mono ?_); rintro e w8 ⟨rfl, g8⟩
    have g68 := g7.trans g8
    have HT8 := Lib.hid (g68.blk HT6.out)
    have HI8 := Lib.hid (g68.blk HI6.out)
    have HS8 := Lib.hid (g68.blk HS6.out)
    have G8 := G6.trans g68
    have tW8 := tW.kept g68
    have tL8 := tL.kept g68
    have tB8 := tB.kept g68
    have uW8 := uW.kept g68
    have uL8 := uL.kept g68
    have uR8 := uR.kept g68
    have vW8 := vW.kept g68
    have vL8 := vL.kept g68
    have vR8 := vR.kept g68
    clear s0 s1 s2 s3 u0 u1 u2 u3
    clear tW tL tB uW uL uR vW vL vR g7 g8 g68 HI7 HS7 HT6 HI6 HS6 G6
    go_wp2_with fail
    (with_reducible refine (same_c uR8 vR8).mono ?_); rintro e w9 ⟨rfl, g9⟩
    have HI9 := Lib.hid (g9.blk HI8.out)
    have HS9 := Lib.hid (g9.blk HS8.out)
    have s0 := blk_cell HI9.out (j := 0) rfl
    have s1 := blk_cell HI9.out (j := 1) rfl
    have s2 := blk_cell HI9.out (j := 2) rfl
    have s3 := blk_cell HI9.out (j := 3) rfl
    have u0 := blk_cell HS9.out (j := 0) rfl
    have u1 := blk_cell HS9.out (j := 1) rfl
    have u2 := blk_cell HS9.out (j := 2) rfl
    have u3 := blk_cell HS9.out (j := 3) rfl
    go_wp2_with fail
    (with_reducible refine (sameTalk_t rs rd (uW8.kept g9) (uL8.kept g9) (vW8.kept g9) (vL8.kept g9)).mono ?_); rintro e w10 ⟨rfl, g10⟩
    go_wp2
    go_ret
    exact ⟨rfl, (G8.trans g9).trans g10⟩
  obtain ⟨hk, hrw, hrl, hs⟩ := sayR_yes HR.out
  simp only [] at hrw hrl
  subst hrw hrl
  obtain ⟨on1, on2⟩ := say_on hk
  rw [sayT_is hs] at on1 on2
  have HOK := Lib.hid on1
  have hgt : st < rs := on2
  have hdz : rd.size ≤ 26 := by
    have := say_dst ⟨st, rws, rls, tx d⟩ b
    rw [hs] at this
    simpa [tx_len] using this
  clear on1 on2 hs hk HR
  go_wp2_with fail
  (with_reducible refine (same_c uR vR).mono ?_); rintro e w7 ⟨rfl, g7⟩
  have HI7 := Lib.hid (g7.blk HI6.out)
  have HS7 := Lib.hid (g7.blk HS6.out)
  have s0 := blk_cell HI7.out (j := 0) rfl
  have s1 := blk_cell HI7.out (j := 1) rfl
  have s2 := blk_cell HI7.out (j := 2) rfl
  have s3 := blk_cell HI7.out (j := 3) rfl
  have u0 := blk_cell HS7.out (j := 0) rfl
  have u1 := blk_cell HS7.out (j := 1) rfl
  have u2 := blk_cell HS7.out (j := 2) rfl
  have u3 := blk_cell HS7.out (j := 3) rfl
  go_wp2_with fail
  (with_reducible refine (sameTalk_t rs rd (uW.kept g7) (uL.kept g7) (vW.kept g7) (vL.kept g7)).mono ?_); rintro e w8 ⟨rfl, g8⟩
  have g68 := g7.trans g8
  have HT8 := Lib.hid (g68.blk HT6.out)
  have HI8 := Lib.hid (g68.blk HI6.out)
  have HS8 := Lib.hid (g68.blk HS6.out)
  have G8 := G6.trans g68
  have tW8 := tW.kept g68
  have tL8 := tL.kept g68
  have tB8 := tB.kept g68
  have uW8 := uW.kept g68
  have uL8 := uL.kept g68
  have uR8 := uR.kept g68
  have vW8 := vW.kept g68
  have vL8 := vL.kept g68
  have vR8 := vR.kept g68
  clear s0 s1 s2 s3 u0 u1 u2 u3
  clear tW tL tB uW uL uR vW vL vR g7 g8 g68 HI7 HS7 HT6 HI6 HS6 G6
  have s0 := blk_cell HI8.out (j := 0) rfl
  have s1 := blk_cell HI8.out (j := 1) rfl
  have s2 := blk_cell HI8.out (j := 2) rfl
  have s3 := blk_cell HI8.out (j := 3) rfl
  go_wp2_with fail
  (with_reducible refine (implTalkValid_c (hm.kept G8) (he.kept G8) (ht.kept G8) rs rd uW8 uL8 HLS.out (by omega)).mono ?_); rintro e w9 ⟨rfl, g9⟩
  rw [HOK.out]
  have HI9 := Lib.hid (g9.blk HI8.out)
  have HT9 := Lib.hid (g9.blk HT8.out)
  clear s0 s1 s2 s3
  have s0 := blk_cell HI9.out (j := 0) rfl
  have s1 := blk_cell HI9.out (j := 1) rfl
  have s2 := blk_cell HI9.out (j := 2) rfl
  have s3 := blk_cell HI9.out (j := 3) rfl
  have u0 := blk_cell HT9.out (j := 0) rfl
  have u1 := blk_cell HT9.out (j := 1) rfl
  have u2 := blk_cell HT9.out (j := 2) rfl
  have u3 := blk_cell HT9.out (j := 3) rfl
  go_wp2_with fail
  (with_reducible refine (same_c (uW8.kept g9) (tW8.kept g9)).mono ?_); rintro e w10 ⟨rfl, g10⟩
  have HI10 := Lib.hid (g10.blk HI9.out)
  have HT10 := Lib.hid (g10.blk HT9.out)
  clear s0 s1 s2 s3 u0 u1 u2 u3
  have s0 := blk_cell HI10.out (j := 0) rfl
  have s1 := blk_cell HI10.out (j := 1) rfl
  have s2 := blk_cell HI10.out (j := 2) rfl
  have s3 := blk_cell HI10.out (j := 3) rfl
  have u0 := blk_cell HT10.out (j := 0) rfl
  have u1 := blk_cell HT10.out (j := 1) rfl
  have u2 := blk_cell HT10.out (j := 2) rfl
  have u3 := blk_cell HT10.out (j := 3) rfl
  have g910 := g9.trans g10
  go_wp2_with fail
  (with_reducible refine (sameLogins_t (uL8.kept g910) (tL8.kept g910)).mono ?_); rintro e w11 ⟨rfl, g11⟩
  go_wp2
  go_ret
  exact ⟨rfl, (G8.trans g910).trans g11⟩
set_option maxRecDepth 20000 in
set_option maxHeartbeats 4000000 in
theorem FnSayEmpty_w {w : World} {v : Value} {bs : List Int} (hm : ML w) (he : ErrV w) (ht : Tab w) (h : ByteS w v bs) :
    Calls Tryz.prog 8 #[v] w fun e w' => e = .returned (.bool true) ∧ Gr w w' := by
  obtain ⟨p0, cap, rfl, _, _⟩ := h.form
  by_cases hx : bs.length ≤ 1048576
  rotate_left
  · have hx' : ¬ ((bs.length : Int) ≤ 1048576) := by omega
    go_enter Tryz.func8, Tryz.ntmps8
    go_wp2_with fail
    go_ret
    exact ⟨rfl, Gr.refl _⟩
  have hx' : ((bs.length : Int) ≤ 1048576) := by omega
  go_enter Tryz.func8, Tryz.ntmps8
  go_wp2_with fail
  (with_reducible refine (DrawTalkSay_c h).mono ?_); rintro e w1 ⟨p, q, x, c, f, k, st, ws, ls, d, b, rfl, hsm, hbl, iW, iL, iB, g1⟩
  obtain ⟨R, hR⟩ : ∃ R, sayR ⟨st, ws, ls, tx d⟩ b = R := ⟨_, rfl⟩
  obtain ⟨⟨rs, rws, rls, rdt⟩, rep, ok⟩ := R
  obtain ⟨rd, rfl⟩ : ∃ rd, rdt = tx rd := ⟨S rdt, (tx_S _).symm⟩
  obtain ⟨q1, q2, q3, q4⟩ := hsm
  have HR := Lib.hid hR
  have HLS := Lib.hid q3
  have gT := gr_alloc w1 (.cells #[.int .i64 st, .slice p ws.length c, .slice q ls.length f, .string d] 26)
  have hT := heap_alloc_new w1 (.cells #[.int .i64 st, .slice p ws.length c, .slice q ls.length f, .string d] 26)
  have HT := Lib.hid hT
  have G2 := g1.trans gT
  have jW := iW.kept gT
  have jL := iL.kept gT
  have jB := iB.kept gT
  clear hT iW iL iB hR q3 g1 gT
  go_upto_region 4 with fail
  generalize w1.alloc (.cells #[.int .i64 st, .slice p ws.length c, .slice q ls.length f, .string d] 26) = w2 at *
  have s0 := blk_cell HT.out (j := 0) rfl
  have s1 := blk_cell HT.out (j := 1) rfl
  have s2 := blk_cell HT.out (j := 2) rfl
  have s3 := blk_cell HT.out (j := 3) rfl
  go_wp2_with fail
  (with_reducible refine (implSay_x (hm.kept G2) (he.kept G2) (ht.kept G2) st d jW jL HLS.out (by omega) (by omega) (by omega) jB (by omega) HR).mono ?_); rintro e w3 ⟨p3, q3, x3, c3, f3, k3, rfl, oW, oL, oR, g3⟩
  have gI := gr_alloc w3 (.cells #[.int .i64 rs, .slice p3 rws.length c3, .slice q3 rls.length f3, .string rd] 26)
  have hI := heap_alloc_new w3 (.cells #[.int .i64 rs, .slice p3 rws.length c3, .slice q3 rls.length f3, .string rd] 26)
  have HI := Lib.hid hI
  have g34 := g3.trans gI
  have HT4 := Lib.hid (g34.blk HT.out)
  have G4 := G2.trans g34
  have kW := jW.kept g34
  have kL := jL.kept g34
  have kB := jB.kept g34
  have oW4 := oW.kept gI
  have oL4 := oL.kept gI
  have oR4 := oR.kept gI
  clear hI jW jL jB oW oL oR g3 gI g34 G2 HT s0 s1 s2 s3
  go_upto_region 5 with fail
  generalize w3.alloc (.cells #[.int .i64 rs, .slice p3 rws.length c3, .slice q3 rls.length f3, .string rd] 26) = w4 at *
  have s0 := blk_cell HT4.out (j := 0) rfl
  have s1 := blk_cell HT4.out (j := 1) rfl
  have s2 := blk_cell HT4.out (j := 2) rfl
  have s3 := blk_cell HT4.out (j := 3) rfl
  go_wp2_with fail
  (with_reducible refine (specSay_x st d kW kL HLS.out (by omega) (by omega) (by omega) kB (by omega) HR).mono ?_); rintro e w5 ⟨p5, q5, x5, c5, f5, k5, rfl, pW, pL, pR, g5⟩
  have gS := gr_alloc w5 (.cells #[.int .i64 rs, .slice p5 rws.length c5, .slice q5 rls.length f5, .string rd] 26)
  have hS := heap_alloc_new w5 (.cells #[.int .i64 rs, .slice p5 rws.length c5, .slice q5 rls.length f5, .string rd] 26)
  have HS6 := Lib.hid hS
  have g56 := g5.trans gS
  have HT6 := Lib.hid (g56.blk HT4.out)
  have HI6 := Lib.hid (g56.blk HI.out)
  have G6 := G4.trans g56
  have tW := kW.kept g56
  have tL := kL.kept g56
  have tB := kB.kept g56
  have uW := oW4.kept g56
  have uL := oL4.kept g56
  have uR := oR4.kept g56
  have vW := pW.kept gS
  have vL := pL.kept gS
  have vR := pR.kept gS
  clear hS kW kL kB oW4 oL4 oR4 pW pL pR g5 gS g56 G4 HT4 HI s0 s1 s2 s3
  go_upto_region 6 with fail
  generalize w5.alloc (.cells #[.int .i64 rs, .slice p5 rws.length c5, .slice q5 rls.length f5, .string rd] 26) = w6 at *
  cases ok
  · go_wp2_with fail
    (with_reducible refine (same_c uR vR).mono ?_); rintro e w7 ⟨rfl, g7⟩
    have HI7 := Lib.hid (g7.blk HI6.out)
    have HS7 := Lib.hid (g7.blk HS6.out)
    have s0 := blk_cell HI7.out (j := 0) rfl
    have s1 := blk_cell HI7.out (j := 1) rfl
    have s2 := blk_cell HI7.out (j := 2) rfl
    have s3 := blk_cell HI7.out (j := 3) rfl
    have u0 := blk_cell HS7.out (j := 0) rfl
    have u1 := blk_cell HS7.out (j := 1) rfl
    have u2 := blk_cell HS7.out (j := 2) rfl
    have u3 := blk_cell HS7.out (j := 3) rfl
    go_wp2_with fail
    (with_reducible refine (sameTalk_t rs rd (uW.kept g7) (uL.kept g7) (vW.kept g7) (vL.kept g7)).mono ?_); rintro e w8 ⟨rfl, g8⟩
    have g68 := g7.trans g8
    have HT8 := Lib.hid (g68.blk HT6.out)
    have HI8 := Lib.hid (g68.blk HI6.out)
    have HS8 := Lib.hid (g68.blk HS6.out)
    have G8 := G6.trans g68
    have tW8 := tW.kept g68
    have tL8 := tL.kept g68
    have tB8 := tB.kept g68
    have uW8 := uW.kept g68
    have uL8 := uL.kept g68
    have uR8 := uR.kept g68
    have vW8 := vW.kept g68
    have vL8 := vL.kept g68
    have vR8 := vR.kept g68
    clear s0 s1 s2 s3 u0 u1 u2 u3
    clear tW tL tB uW uL uR vW vL vR g7 g8 g68 HI7 HS7 HT6 HI6 HS6 G6
    go_wp2_with fail
    (with_reducible refine (same_c uR8 vR8).mono ?_); rintro e w9 ⟨rfl, g9⟩
    have HI9 := Lib.hid (g9.blk HI8.out)
    have HS9 := Lib.hid (g9.blk HS8.out)
    have s0 := blk_cell HI9.out (j := 0) rfl
    have s1 := blk_cell HI9.out (j := 1) rfl
    have s2 := blk_cell HI9.out (j := 2) rfl
    have s3 := blk_cell HI9.out (j := 3) rfl
    have u0 := blk_cell HS9.out (j := 0) rfl
    have u1 := blk_cell HS9.out (j := 1) rfl
    have u2 := blk_cell HS9.out (j := 2) rfl
    have u3 := blk_cell HS9.out (j := 3) rfl
    go_wp2_with fail
    (with_reducible refine (sameTalk_t rs rd (uW8.kept g9) (uL8.kept g9) (vW8.kept g9) (vL8.kept g9)).mono ?_); rintro e w10 ⟨rfl, g10⟩
    go_wp2
    go_ret
    exact ⟨rfl, (G8.trans g9).trans g10⟩
  obtain ⟨hk, hrw, hrl, hs⟩ := sayR_yes HR.out
  simp only [] at hrw hrl
  subst hrw hrl
  obtain ⟨em1, em2⟩ := say_empty hk
  have HE : Hid (sayR ⟨st, rws, rls, tx d⟩ [] = (⟨4, rws, rls, tx ⟨#[]⟩⟩, [], true)) := Lib.hid (sayR_of em1 em2 rfl)
  clear em1 em2 hs hk HR
  go_wp2_with fail
  (with_reducible refine (same_c uR vR).mono ?_); rintro e w7 ⟨rfl, g7⟩
  have HI7 := Lib.hid (g7.blk HI6.out)
  have HS7 := Lib.hid (g7.blk HS6.out)
  have s0 := blk_cell HI7.out (j := 0) rfl
  have s1 := blk_cell HI7.out (j := 1) rfl
  have s2 := blk_cell HI7.out (j := 2) rfl
  have s3 := blk_cell HI7.out (j := 3) rfl
  have u0 := blk_cell HS7.out (j := 0) rfl
  have u1 := blk_cell HS7.out (j := 1) rfl
  have u2 := blk_cell HS7.out (j := 2) rfl
  have u3 := blk_cell HS7.out (j := 3) rfl
  go_wp2_with fail
  (with_reducible refine (sameTalk_t rs rd (uW.kept g7) (uL.kept g7) (vW.kept g7) (vL.kept g7)).mono ?_); rintro e w8 ⟨rfl, g8⟩
  have g68 := g7.trans g8
  have HT8 := Lib.hid (g68.blk HT6.out)
  have HI8 := Lib.hid (g68.blk HI6.out)
  have HS8 := Lib.hid (g68.blk HS6.out)
  have G8 := G6.trans g68
  have tW8 := tW.kept g68
  have tL8 := tL.kept g68
  have tB8 := tB.kept g68
  have uW8 := uW.kept g68
  have uL8 := uL.kept g68
  have uR8 := uR.kept g68
  have vW8 := vW.kept g68
  have vL8 := vL.kept g68
  have vR8 := vR.kept g68
  clear s0 s1 s2 s3 u0 u1 u2 u3
  clear tW tL tB uW uL uR vW vL vR g7 g8 g68 HI7 HS7 HT6 HI6 HS6 G6
  have s0 := blk_cell HT8.out (j := 0) rfl
  have s1 := blk_cell HT8.out (j := 1) rfl
  have s2 := blk_cell HT8.out (j := 2) rfl
  have s3 := blk_cell HT8.out (j := 3) rfl
  have gE := gr_alloc w8 (.cells #[] 3)
  have GE := G8.trans gE
  have oE := (IntO.mt w8).s
  go_wp2_with fail
  (with_reducible refine (implSay_x (hm.kept GE) (he.kept GE) (ht.kept GE) st d (tW8.kept gE) (tL8.kept gE) HLS.out (by omega) (by omega) (by omega) oE (by simp) HE).mono ?_); rintro e w9 ⟨p9, q9, x9, c9, f9, k9, rfl, _, _, _, g9⟩
  go_wp2
  go_ret
  exact ⟨rfl, (GE.trans g9).alloc _⟩
set_option maxRecDepth 20000 in
set_option maxHeartbeats 4000000 in
theorem FnSayEnd_w {w : World} {v : Value} {bs : List Int} (hm : ML w) (he : ErrV w) (ht : Tab w) (h : ByteS w v bs) :
    Calls Tryz.prog 9 #[v] w fun e w' => e = .returned (.bool true) ∧ Gr w w' := by
  obtain ⟨p0, cap, rfl, _, _⟩ := h.form
  by_cases hx : bs.length ≤ 1048576
  rotate_left
  · have hx' : ¬ ((bs.length : Int) ≤ 1048576) := by omega
    go_enter Tryz.func9, Tryz.ntmps9
    go_wp2_with fail
    go_ret
    exact ⟨rfl, Gr.refl _⟩
  have hx' : ((bs.length : Int) ≤ 1048576) := by omega
  go_enter Tryz.func9, Tryz.ntmps9
  go_wp2_with fail
  (with_reducible refine (DrawTalkSay_c h).mono ?_); rintro e w1 ⟨p, q, x, c, f, k, st, ws, ls, d, b, rfl, hsm, hbl, iW, iL, iB, g1⟩
  obtain ⟨R, hR⟩ : ∃ R, sayR ⟨st, ws, ls, tx d⟩ b = R := ⟨_, rfl⟩
  obtain ⟨⟨rs, rws, rls, rdt⟩, rep, ok⟩ := R
  obtain ⟨rd, rfl⟩ : ∃ rd, rdt = tx rd := ⟨S rdt, (tx_S _).symm⟩
  obtain ⟨q1, q2, q3, q4⟩ := hsm
  have HR := Lib.hid hR
  have HLS := Lib.hid q3
  have gT := gr_alloc w1 (.cells #[.int .i64 st, .slice p ws.length c, .slice q ls.length f, .string d] 26)
  have hT := heap_alloc_new w1 (.cells #[.int .i64 st, .slice p ws.length c, .slice q ls.length f, .string d] 26)
  have HT := Lib.hid hT
  have G2 := g1.trans gT
  have jW := iW.kept gT
  have jL := iL.kept gT
  have jB := iB.kept gT
  clear hT iW iL iB hR q3 g1 gT
  go_upto_region 4 with fail
  generalize w1.alloc (.cells #[.int .i64 st, .slice p ws.length c, .slice q ls.length f, .string d] 26) = w2 at *
  have s0 := blk_cell HT.out (j := 0) rfl
  have s1 := blk_cell HT.out (j := 1) rfl
  have s2 := blk_cell HT.out (j := 2) rfl
  have s3 := blk_cell HT.out (j := 3) rfl
  go_wp2_with fail
  (with_reducible refine (implSay_x (hm.kept G2) (he.kept G2) (ht.kept G2) st d jW jL HLS.out (by omega) (by omega) (by omega) jB (by omega) HR).mono ?_); rintro e w3 ⟨p3, q3, x3, c3, f3, k3, rfl, oW, oL, oR, g3⟩
  have gI := gr_alloc w3 (.cells #[.int .i64 rs, .slice p3 rws.length c3, .slice q3 rls.length f3, .string rd] 26)
  have hI := heap_alloc_new w3 (.cells #[.int .i64 rs, .slice p3 rws.length c3, .slice q3 rls.length f3, .string rd] 26)
  have HI := Lib.hid hI
  have g34 := g3.trans gI
  have HT4 := Lib.hid (g34.blk HT.out)
  have G4 := G2.trans g34
  have kW := jW.kept g34
  have kL := jL.kept g34
  have kB := jB.kept g34
  have oW4 := oW.kept gI
  have oL4 := oL.kept gI
  have oR4 := oR.kept gI
  clear hI jW jL jB oW oL oR g3 gI g34 G2 HT s0 s1 s2 s3
  go_upto_region 5 with fail
  generalize w3.alloc (.cells #[.int .i64 rs, .slice p3 rws.length c3, .slice q3 rls.length f3, .string rd] 26) = w4 at *
  have s0 := blk_cell HT4.out (j := 0) rfl
  have s1 := blk_cell HT4.out (j := 1) rfl
  have s2 := blk_cell HT4.out (j := 2) rfl
  have s3 := blk_cell HT4.out (j := 3) rfl
  go_wp2_with fail
  (with_reducible refine (specSay_x st d kW kL HLS.out (by omega) (by omega) (by omega) kB (by omega) HR).mono ?_); rintro e w5 ⟨p5, q5, x5, c5, f5, k5, rfl, pW, pL, pR, g5⟩
  have gS := gr_alloc w5 (.cells #[.int .i64 rs, .slice p5 rws.length c5, .slice q5 rls.length f5, .string rd] 26)
  have hS := heap_alloc_new w5 (.cells #[.int .i64 rs, .slice p5 rws.length c5, .slice q5 rls.length f5, .string rd] 26)
  have HS6 := Lib.hid hS
  have g56 := g5.trans gS
  have HT6 := Lib.hid (g56.blk HT4.out)
  have HI6 := Lib.hid (g56.blk HI.out)
  have G6 := G4.trans g56
  have tW := kW.kept g56
  have tL := kL.kept g56
  have tB := kB.kept g56
  have uW := oW4.kept g56
  have uL := oL4.kept g56
  have uR := oR4.kept g56
  have vW := pW.kept gS
  have vL := pL.kept gS
  have vR := pR.kept gS
  clear hS kW kL kB oW4 oL4 oR4 pW pL pR g5 gS g56 G4 HT4 HI s0 s1 s2 s3
  go_upto_region 6 with fail
  generalize w5.alloc (.cells #[.int .i64 rs, .slice p5 rws.length c5, .slice q5 rls.length f5, .string rd] 26) = w6 at *
  cases ok
  · go_wp2_with fail
    (with_reducible refine (same_c uR vR).mono ?_); rintro e w7 ⟨rfl, g7⟩
    have HI7 := Lib.hid (g7.blk HI6.out)
    have HS7 := Lib.hid (g7.blk HS6.out)
    have s0 := blk_cell HI7.out (j := 0) rfl
    have s1 := blk_cell HI7.out (j := 1) rfl
    have s2 := blk_cell HI7.out (j := 2) rfl
    have s3 := blk_cell HI7.out (j := 3) rfl
    have u0 := blk_cell HS7.out (j := 0) rfl
    have u1 := blk_cell HS7.out (j := 1) rfl
    have u2 := blk_cell HS7.out (j := 2) rfl
    have u3 := blk_cell HS7.out (j := 3) rfl
    go_wp2_with fail
    (with_reducible refine (sameTalk_t rs rd (uW.kept g7) (uL.kept g7) (vW.kept g7) (vL.kept g7)).mono ?_); rintro e w8 ⟨rfl, g8⟩
    have g68 := g7.trans g8
    have HT8 := Lib.hid (g68.blk HT6.out)
    have HI8 := Lib.hid (g68.blk HI6.out)
    have HS8 := Lib.hid (g68.blk HS6.out)
    have G8 := G6.trans g68
    have tW8 := tW.kept g68
    have tL8 := tL.kept g68
    have tB8 := tB.kept g68
    have uW8 := uW.kept g68
    have uL8 := uL.kept g68
    have uR8 := uR.kept g68
    have vW8 := vW.kept g68
    have vL8 := vL.kept g68
    have vR8 := vR.kept g68
    clear s0 s1 s2 s3 u0 u1 u2 u3
    clear tW tL tB uW uL uR vW vL vR g7 g8 g68 HI7 HS7 HT6 HI6 HS6 G6
    go_wp2_with fail
    (with_reducible refine (same_c uR8 vR8).mono ?_); rintro e w9 ⟨rfl, g9⟩
    have HI9 := Lib.hid (g9.blk HI8.out)
    have HS9 := Lib.hid (g9.blk HS8.out)
    have s0 := blk_cell HI9.out (j := 0) rfl
    have s1 := blk_cell HI9.out (j := 1) rfl
    have s2 := blk_cell HI9.out (j := 2) rfl
    have s3 := blk_cell HI9.out (j := 3) rfl
    have u0 := blk_cell HS9.out (j := 0) rfl
    have u1 := blk_cell HS9.out (j := 1) rfl
    have u2 := blk_cell HS9.out (j := 2) rfl
    have u3 := blk_cell HS9.out (j := 3) rfl
    go_wp2_with fail
    (with_reducible refine (sameTalk_t rs rd (uW8.kept g9) (uL8.kept g9) (vW8.kept g9) (vL8.kept g9)).mono ?_); rintro e w10 ⟨rfl, g10⟩
    go_wp2
    go_ret
    exact ⟨rfl, (G8.trans g9).trans g10⟩
  obtain ⟨hk, hrw, hrl, hs⟩ := sayR_yes HR.out
  simp only [] at hrw hrl
  subst hrw hrl
  by_cases h3 : rs < 3
  · clear hs hk HR
    go_wp2_with fail
    (with_reducible refine (same_c uR vR).mono ?_); rintro e w7 ⟨rfl, g7⟩
    have HI7 := Lib.hid (g7.blk HI6.out)
    have HS7 := Lib.hid (g7.blk HS6.out)
    have s0 := blk_cell HI7.out (j := 0) rfl
    have s1 := blk_cell HI7.out (j := 1) rfl
    have s2 := blk_cell HI7.out (j := 2) rfl
    have s3 := blk_cell HI7.out (j := 3) rfl
    have u0 := blk_cell HS7.out (j := 0) rfl
    have u1 := blk_cell HS7.out (j := 1) rfl
    have u2 := blk_cell HS7.out (j := 2) rfl
    have u3 := blk_cell HS7.out (j := 3) rfl
    go_wp2_with fail
    (with_reducible refine (sameTalk_t rs rd (uW.kept g7) (uL.kept g7) (vW.kept g7) (vL.kept g7)).mono ?_); rintro e w8 ⟨rfl, g8⟩
    have g68 := g7.trans g8
    have HT8 := Lib.hid (g68.blk HT6.out)
    have HI8 := Lib.hid (g68.blk HI6.out)
    have HS8 := Lib.hid (g68.blk HS6.out)
    have G8 := G6.trans g68
    have tW8 := tW.kept g68
    have tL8 := tL.kept g68
    have tB8 := tB.kept g68
    have uW8 := uW.kept g68
    have uL8 := uL.kept g68
    have uR8 := uR.kept g68
    have vW8 := vW.kept g68
    have vL8 := vL.kept g68
    have vR8 := vR.kept g68
    clear s0 s1 s2 s3 u0 u1 u2 u3
    clear tW tL tB uW uL uR vW vL vR g7 g8 g68 HI7 HS7 HT6 HI6 HS6 G6
    have s0 := blk_cell HS8.out (j := 0) rfl
    go_wp2_with fail
    (with_reducible refine (same_c uR8 vR8).mono ?_); rintro e w9 ⟨rfl, g9⟩
    have HI9 := Lib.hid (g9.blk HI8.out)
    have HS9 := Lib.hid (g9.blk HS8.out)
    have s0 := blk_cell HI9.out (j := 0) rfl
    have s1 := blk_cell HI9.out (j := 1) rfl
    have s2 := blk_cell HI9.out (j := 2) rfl
    have s3 := blk_cell HI9.out (j := 3) rfl
    have u0 := blk_cell HS9.out (j := 0) rfl
    have u1 := blk_cell HS9.out (j := 1) rfl
    have u2 := blk_cell HS9.out (j := 2) rfl
    have u3 := blk_cell HS9.out (j := 3) rfl
    go_wp2_with fail
    (with_reducible refine (sameTalk_t rs rd (uW8.kept g9) (uL8.kept g9) (vW8.kept g9) (vL8.kept g9)).mono ?_); rintro e w10 ⟨rfl, g10⟩
    go_wp2
    go_ret
    exact ⟨rfl, (G8.trans g9).trans g10⟩
  have hdz : rd.size ≤ 26 := by
    have := say_dst ⟨st, rws, rls, tx d⟩ b
    rw [hs] at this
    simpa [tx_len] using this
  have E1 : ∀ ys, sayOk ⟨rs, rws, rls, tx rd⟩ ys = false := fun ys => by
    have := say_end (t := ⟨st, rws, rls, tx d⟩) (xs := b) (ys := ys) (by rw [sayT_is hs]; simp only []; omega)
    rw [sayT_is hs] at this
    exact this
  have HE1 : Hid (sayR ⟨rs, rws, rls, tx rd⟩ b = (⟨0, [], [], tx ⟨#[]⟩⟩, [], false)) := Lib.hid (sayR_no (E1 b))
  have HE2 : Hid (sayR ⟨rs, rws, rls, tx rd⟩ [] = (⟨0, [], [], tx ⟨#[]⟩⟩, [], false)) := Lib.hid (sayR_no (E1 []))
  have h3' : 3 ≤ rs := by omega
  clear hs hk HR E1 h3
  go_wp2_with fail
  (with_reducible refine (same_c uR vR).mono ?_); rintro e w7 ⟨rfl, g7⟩
  have HI7 := Lib.hid (g7.blk HI6.out)
  have HS7 := Lib.hid (g7.blk HS6.out)
  have s0 := blk_cell HI7.out (j := 0) rfl
  have s1 := blk_cell HI7.out (j := 1) rfl
  have s2 := blk_cell HI7.out (j := 2) rfl
  have s3 := blk_cell HI7.out (j := 3) rfl
  have u0 := blk_cell HS7.out (j := 0) rfl
  have u1 := blk_cell HS7.out (j := 1) rfl
  have u2 := blk_cell HS7.out (j := 2) rfl
  have u3 := blk_cell HS7.out (j := 3) rfl
  go_wp2_with fail
  (with_reducible refine (sameTalk_t rs rd (uW.kept g7) (uL.kept g7) (vW.kept g7) (vL.kept g7)).mono ?_); rintro e w8 ⟨rfl, g8⟩
  have g68 := g7.trans g8
  have HT8 := Lib.hid (g68.blk HT6.out)
  have HI8 := Lib.hid (g68.blk HI6.out)
  have HS8 := Lib.hid (g68.blk HS6.out)
  have G8 := G6.trans g68
  have tW8 := tW.kept g68
  have tL8 := tL.kept g68
  have tB8 := tB.kept g68
  have uW8 := uW.kept g68
  have uL8 := uL.kept g68
  have uR8 := uR.kept g68
  have vW8 := vW.kept g68
  have vL8 := vL.kept g68
  have vR8 := vR.kept g68
  clear s0 s1 s2 s3 u0 u1 u2 u3
  clear tW tL tB uW uL uR vW vL vR g7 g8 g68 HI7 HS7 HT6 HI6 HS6 G6
  have u0 := blk_cell HS8.out (j := 0) rfl
  have s0 := blk_cell HI8.out (j := 0) rfl
  have s1 := blk_cell HI8.out (j := 1) rfl
  have s2 := blk_cell HI8.out (j := 2) rfl
  have s3 := blk_cell HI8.out (j := 3) rfl
  go_wp2_with fail
  (with_reducible refine (implSay_x (hm.kept G8) (he.kept G8) (ht.kept G8) rs rd uW8 uL8 HLS.out (by omega) (by omega) (by omega) tB8 (by omega) HE1).mono ?_); rintro e w9 ⟨p9, q9, x9, c9, f9, k9, rfl, _, _, _, g9⟩
  have gF := gr_alloc w9 (.cells #[.int .i64 0, .slice p9 0 c9, .slice q9 0 f9, .string ⟨#[]⟩] 26)
  have g9F := g9.trans gF
  have HI9 := Lib.hid (g9F.blk HI8.out)
  clear s0 s1 s2 s3 u0
  go_upto_region 9 with fail
  generalize w9.alloc (.cells #[.int .i64 0, .slice p9 0 c9, .slice q9 0 f9, .string ⟨#[]⟩] 26) = w10 at *
  have s0 := blk_cell HI9.out (j := 0) rfl
  have s1 := blk_cell HI9.out (j := 1) rfl
  have s2 := blk_cell HI9.out (j := 2) rfl
  have s3 := blk_cell HI9.out (j := 3) rfl
  have gE := gr_alloc w10 (.cells #[] 3)
  have GE := (G8.trans g9F).trans gE
  have g8E := g9F.trans gE
  have oE := (IntO.mt w10).s
  go_wp2_with fail
  (with_reducible refine (implSay_x (hm.kept GE) (he.kept GE) (ht.kept GE) rs rd (uW8.kept g8E) (uL8.kept g8E) HLS.out (by omega) (by omega) (by omega) oE (by simp) HE2).mono ?_); rintro e w11 ⟨p11, q11, x11, c11, f11, k11, rfl, _, _, _, g11⟩
  go_wp2
  go_ret
  exact ⟨rfl, (GE.trans g11).alloc _⟩
set_option maxRecDepth 20000 in
set_option maxHeartbeats 4000000 in
theorem FnSayOther_w {w : World} {v : Value} {bs : List Int} (hm : ML w) (he : ErrV w) (ht : Tab w) (h : ByteS w v bs) :
    Calls Tryz.prog 14 #[v] w fun e w' => e = .returned (.bool true) ∧ Gr w w' := by
  obtain ⟨p0, cap, rfl, _, _⟩ := h.form
  by_cases hx : bs.length ≤ 1048576
  rotate_left
  · have hx' : ¬ ((bs.length : Int) ≤ 1048576) := by omega
    go_enter Tryz.func14, Tryz.ntmps14
    go_wp2_with fail
    go_ret
    exact ⟨rfl, Gr.refl _⟩
  have hx' : ((bs.length : Int) ≤ 1048576) := by omega
  go_enter Tryz.func14, Tryz.ntmps14
  go_wp2_with fail
  (with_reducible refine (DrawTalkSay_c h).mono ?_); rintro e w1 ⟨p, q, x, c, f, k, st, ws, ls, d, b, rfl, hsm, hbl, iW, iL, iB, g1⟩
  obtain ⟨R, hR⟩ : ∃ R, sayR ⟨st, ws, ls, tx d⟩ b = R := ⟨_, rfl⟩
  obtain ⟨⟨rs, rws, rls, rdt⟩, rep, ok⟩ := R
  obtain ⟨rd, rfl⟩ : ∃ rd, rdt = tx rd := ⟨S rdt, (tx_S _).symm⟩
  obtain ⟨q1, q2, q3, q4⟩ := hsm
  have HR := Lib.hid hR
  have HLS := Lib.hid q3
  have gT := gr_alloc w1 (.cells #[.int .i64 st, .slice p ws.length c, .slice q ls.length f, .string d] 26)
  have hT := heap_alloc_new w1 (.cells #[.int .i64 st, .slice p ws.length c, .slice q ls.length f, .string d] 26)
  have HT := Lib.hid hT
  have G2 := g1.trans gT
  have jW := iW.kept gT
  have jL := iL.kept gT
  have jB := iB.kept gT
  clear hT iW iL iB hR q3 g1 gT
  go_upto_region 4 with fail
  generalize w1.alloc (.cells #[.int .i64 st, .slice p ws.length c, .slice q ls.length f, .string d] 26) = w2 at *
  have s0 := blk_cell HT.out (j := 0) rfl
  have s1 := blk_cell HT.out (j := 1) rfl
  have s2 := blk_cell HT.out (j := 2) rfl
  have s3 := blk_cell HT.out (j := 3) rfl
  go_wp2_with fail
  (with_reducible refine (implSay_x (hm.kept G2) (he.kept G2) (ht.kept G2) st d jW jL HLS.out (by omega) (by omega) (by omega) jB (by omega) HR).mono ?_); rintro e w3 ⟨p3, q3, x3, c3, f3, k3, rfl, oW, oL, oR, g3⟩
  have gI := gr_alloc w3 (.cells #[.int .i64 rs, .slice p3 rws.length c3, .slice q3 rls.length f3, .string rd] 26)
  have hI := heap_alloc_new w3 (.cells #[.int .i64 rs, .slice p3 rws.length c3, .slice q3 rls.length f3, .string rd] 26)
  have HI := Lib.hid hI
  have g34 := g3.trans gI
  have HT4 := Lib.hid (g34.blk HT.out)
  have G4 := G2.trans g34
  have kW := jW.kept g34
  have kL := jL.kept g34
  have kB := jB.kept g34
  have oW4 := oW.kept gI
  have oL4 := oL.kept gI
  have oR4 := oR.kept gI
  clear hI jW jL jB oW oL oR g3 gI g34 G2 HT s0 s1 s2 s3
  go_upto_region 5 with fail
  generalize w3.alloc (.cells #[.int .i64 rs, .slice p3 rws.length c3, .slice q3 rls.length f3, .string rd] 26) = w4 at *
  have s0 := blk_cell HT4.out (j := 0) rfl
  have s1 := blk_cell HT4.out (j := 1) rfl
  have s2 := blk_cell HT4.out (j := 2) rfl
  have s3 := blk_cell HT4.out (j := 3) rfl
  go_wp2_with fail
  (with_reducible refine (specSay_x st d kW kL HLS.out (by omega) (by omega) (by omega) kB (by omega) HR).mono ?_); rintro e w5 ⟨p5, q5, x5, c5, f5, k5, rfl, pW, pL, pR, g5⟩
  have gS := gr_alloc w5 (.cells #[.int .i64 rs, .slice p5 rws.length c5, .slice q5 rls.length f5, .string rd] 26)
  have hS := heap_alloc_new w5 (.cells #[.int .i64 rs, .slice p5 rws.length c5, .slice q5 rls.length f5, .string rd] 26)
  have HS6 := Lib.hid hS
  have g56 := g5.trans gS
  have HT6 := Lib.hid (g56.blk HT4.out)
  have HI6 := Lib.hid (g56.blk HI.out)
  have G6 := G4.trans g56
  have tW := kW.kept g56
  have tL := kL.kept g56
  have tB := kB.kept g56
  have uW := oW4.kept g56
  have uL := oL4.kept g56
  have uR := oR4.kept g56
  have vW := pW.kept gS
  have vL := pL.kept gS
  have vR := pR.kept gS
  clear hS kW kL kB oW4 oL4 oR4 pW pL pR g5 gS g56 G4 HT4 HI s0 s1 s2 s3
  go_upto_region 6 with fail
  generalize w5.alloc (.cells #[.int .i64 rs, .slice p5 rws.length c5, .slice q5 rls.length f5, .string rd] 26) = w6 at *
  cases ok
  · go_wp2_with fail
    (with_reducible refine (same_c uR vR).mono ?_); rintro e w7 ⟨rfl, g7⟩
    have HI7 := Lib.hid (g7.blk HI6.out)
    have HS7 := Lib.hid (g7.blk HS6.out)
    have s0 := blk_cell HI7.out (j := 0) rfl
    have s1 := blk_cell HI7.out (j := 1) rfl
    have s2 := blk_cell HI7.out (j := 2) rfl
    have s3 := blk_cell HI7.out (j := 3) rfl
    have u0 := blk_cell HS7.out (j := 0) rfl
    have u1 := blk_cell HS7.out (j := 1) rfl
    have u2 := blk_cell HS7.out (j := 2) rfl
    have u3 := blk_cell HS7.out (j := 3) rfl
    go_wp2_with fail
    (with_reducible refine (sameTalk_t rs rd (uW.kept g7) (uL.kept g7) (vW.kept g7) (vL.kept g7)).mono ?_); rintro e w8 ⟨rfl, g8⟩
    have g68 := g7.trans g8
    have HT8 := Lib.hid (g68.blk HT6.out)
    have HI8 := Lib.hid (g68.blk HI6.out)
    have HS8 := Lib.hid (g68.blk HS6.out)
    have G8 := G6.trans g68
    have tW8 := tW.kept g68
    have tL8 := tL.kept g68
    have tB8 := tB.kept g68
    have uW8 := uW.kept g68
    have uL8 := uL.kept g68
    have uR8 := uR.kept g68
    have vW8 := vW.kept g68
    have vL8 := vL.kept g68
    have vR8 := vR.kept g68
    clear s0 s1 s2 s3 u0 u1 u2 u3
    clear tW tL tB uW uL uR vW vL vR g7 g8 g68 HI7 HS7 HT6 HI6 HS6 G6
    go_wp2_with fail
    (with_reducible refine (same_c uR8 vR8).mono ?_); rintro e w9 ⟨rfl, g9⟩
    have HI9 := Lib.hid (g9.blk HI8.out)
    have HS9 := Lib.hid (g9.blk HS8.out)
    have s0 := blk_cell HI9.out (j := 0) rfl
    have s1 := blk_cell HI9.out (j := 1) rfl
    have s2 := blk_cell HI9.out (j := 2) rfl
    have s3 := blk_cell HI9.out (j := 3) rfl
    have u0 := blk_cell HS9.out (j := 0) rfl
    have u1 := blk_cell HS9.out (j := 1) rfl
    have u2 := blk_cell HS9.out (j := 2) rfl
    have u3 := blk_cell HS9.out (j := 3) rfl
    go_wp2_with fail
    (with_reducible refine (sameTalk_t rs rd (uW8.kept g9) (uL8.kept g9) (vW8.kept g9) (vL8.kept g9)).mono ?_); rintro e w10 ⟨rfl, g10⟩
    go_wp2
    go_ret
    exact ⟨rfl, (G8.trans g9).trans g10⟩
  obtain ⟨hk, hrw, hrl, hs⟩ := sayR_yes HR.out
  simp only [] at hrw hrl
  subst hrw hrl
  by_cases h0 : st = 0
  rotate_left
  · have h0' : (st != 0) = true := by simpa using h0
    clear hs hk HR h0
    go_wp2_with fail
    (with_reducible refine (same_c uR vR).mono ?_); rintro e w7 ⟨rfl, g7⟩
    have HI7 := Lib.hid (g7.blk HI6.out)
    have HS7 := Lib.hid (g7.blk HS6.out)
    have s0 := blk_cell HI7.out (j := 0) rfl
    have s1 := blk_cell HI7.out (j := 1) rfl
    have s2 := blk_cell HI7.out (j := 2) rfl
    have s3 := blk_cell HI7.out (j := 3) rfl
    have u0 := blk_cell HS7.out (j := 0) rfl
    have u1 := blk_cell HS7.out (j := 1) rfl
    have u2 := blk_cell HS7.out (j := 2) rfl
    have u3 := blk_cell HS7.out (j := 3) rfl
    go_wp2_with fail
    (with_reducible refine (sameTalk_t rs rd (uW.kept g7) (uL.kept g7) (vW.kept g7) (vL.kept g7)).mono ?_); rintro e w8 ⟨rfl, g8⟩
    have g68 := g7.trans g8
    have HT8 := Lib.hid (g68.blk HT6.out)
    have HI8 := Lib.hid (g68.blk HI6.out)
    have HS8 := Lib.hid (g68.blk HS6.out)
    have G8 := G6.trans g68
    have tW8 := tW.kept g68
    have tL8 := tL.kept g68
    have tB8 := tB.kept g68
    have uW8 := uW.kept g68
    have uL8 := uL.kept g68
    have uR8 := uR.kept g68
    have vW8 := vW.kept g68
    have vL8 := vL.kept g68
    have vR8 := vR.kept g68
    clear s0 s1 s2 s3 u0 u1 u2 u3
    clear tW tL tB uW uL uR vW vL vR g7 g8 g68 HI7 HS7 HT6 HI6 HS6 G6
    have s0 := blk_cell HT8.out (j := 0) rfl
    go_wp2_with fail
    (with_reducible refine (same_c uR8 vR8).mono ?_); rintro e w9 ⟨rfl, g9⟩
    have HI9 := Lib.hid (g9.blk HI8.out)
    have HS9 := Lib.hid (g9.blk HS8.out)
    have s0 := blk_cell HI9.out (j := 0) rfl
    have s1 := blk_cell HI9.out (j := 1) rfl
    have s2 := blk_cell HI9.out (j := 2) rfl
    have s3 := blk_cell HI9.out (j := 3) rfl
    have u0 := blk_cell HS9.out (j := 0) rfl
    have u1 := blk_cell HS9.out (j := 1) rfl
    have u2 := blk_cell HS9.out (j := 2) rfl
    have u3 := blk_cell HS9.out (j := 3) rfl
    go_wp2_with fail
    (with_reducible refine (sameTalk_t rs rd (uW8.kept g9) (uL8.kept g9) (vW8.kept g9) (vL8.kept g9)).mono ?_); rintro e w10 ⟨rfl, g10⟩
    go_wp2
    go_ret
    exact ⟨rfl, (G8.trans g9).trans g10⟩
  obtain ⟨k1, k2, k3⟩ := sayOk_parts hk
  have hse := (talk_parts k1).1
  have HE : Hid (sayR ⟨st, rws, rls, tx d⟩ [5, 1, 128] = (⟨4, rws, rls, tx ⟨#[]⟩⟩, [5, 255], true)) := Lib.hid (sayR_of (sayOk_of k1 rfl k3) ((say_hello h0).trans (hello_other hse)) rfl)
  have h0' : (st != 0) = false := by simpa using h0
  clear hs hk HR h0 k1 k2 k3 hse
  go_wp2_with fail
  (with_reducible refine (same_c uR vR).mono ?_); rintro e w7 ⟨rfl, g7⟩
  have HI7 := Lib.hid (g7.blk HI6.out)
  have HS7 := Lib.hid (g7.blk HS6.out)
  have s0 := blk_cell HI7.out (j := 0) rfl
  have s1 := blk_cell HI7.out (j := 1) rfl
  have s2 := blk_cell HI7.out (j := 2) rfl
  have s3 := blk_cell HI7.out (j := 3) rfl
  have u0 := blk_cell HS7.out (j := 0) rfl
  have u1 := blk_cell HS7.out (j := 1) rfl
  have u2 := blk_cell HS7.out (j := 2) rfl
  have u3 := blk_cell HS7.out (j := 3) rfl
  go_wp2_with fail
  (with_reducible refine (sameTalk_t rs rd (uW.kept g7) (uL.kept g7) (vW.kept g7) (vL.kept g7)).mono ?_); rintro e w8 ⟨rfl, g8⟩
  have g68 := g7.trans g8
  have HT8 := Lib.hid (g68.blk HT6.out)
  have HI8 := Lib.hid (g68.blk HI6.out)
  have HS8 := Lib.hid (g68.blk HS6.out)
  have G8 := G6.trans g68
  have tW8 := tW.kept g68
  have tL8 := tL.kept g68
  have tB8 := tB.kept g68
  have uW8 := uW.kept g68
  have uL8 := uL.kept g68
  have uR8 := uR.kept g68
  have vW8 := vW.kept g68
  have vL8 := vL.kept g68
  have vR8 := vR.kept g68
  clear s0 s1 s2 s3 u0 u1 u2 u3
  clear tW tL tB uW uL uR vW vL vR g7 g8 g68 HI7 HS7 HT6 HI6 HS6 G6
  have s0 := blk_cell HT8.out (j := 0) rfl
  have s1 := blk_cell HT8.out (j := 1) rfl
  have s2 := blk_cell HT8.out (j := 2) rfl
  have s3 := blk_cell HT8.out (j := 3) rfl
  have gE := gr_alloc w8 (.cells #[.int .i64 5, .int .i64 1, .int .i64 128] 3)
  have GE := G8.trans gE
  have oE := (IntO.tri (w := w8) (x := 5) (y := 1) (z := 128) rfl).s
  go_wp2_with fail
  (with_reducible refine (implSay_x (hm.kept GE) (he.kept GE) (ht.kept GE) st d (tW8.kept gE) (tL8.kept gE) HLS.out (by omega) (by omega) (by omega) oE (by simp) HE).mono ?_); rintro e w9 ⟨p9, q9, x9, c9, f9, k9, rfl, _, _, o9, g9⟩
  have gF := gr_alloc w9 (.cells #[.int .i64 4, .slice p9 rws.length c9, .slice q9 rls.length f9, .string ⟨#[]⟩] 26)
  have oL := (IntO.two (w := w9.alloc (.cells #[.int .i64 4, .slice p9 rws.length c9, .slice q9 rls.length f9, .string ⟨#[]⟩] 26)) (x := 5) (y := 255) (m := w9.heap.size + 1) (by simp)).s
  have o11' := (o9.kept gF).kept (gr_alloc (w9.alloc (.cells #[.int .i64 4, .slice p9 rws.length c9, .slice q9 rls.length f9, .string ⟨#[]⟩] 26)) (.cells #[.int .i64 5, .int .i64 255] 3))
  have o11 : IntS _ (.slice x9 2 k9) [5, 255] := o11'
  clear o11'
  go_wp2_with fail
  (with_reducible refine (same_c o11 oL).mono ?_); rintro e w12 ⟨rfl, g12⟩
  go_wp2
  go_ret
  exact ⟨rfl, (((GE.trans g9).alloc _).alloc _).trans g12⟩
set_option maxRecDepth 20000 in
set_option maxHeartbeats 4000000 in
theorem FnSayNoLogins_w {w : World} {v : Value} {bs : List Int} (hm : ML w) (he : ErrV w) (ht : Tab w) (h : ByteS w v bs) :
    Calls Tryz.prog 13 #[v] w fun e w' => e = .returned (.bool true) ∧ Gr w w' := by
  obtain ⟨p0, cap, rfl, _, _⟩ := h.form
  by_cases hx : bs.length ≤ 1048576
  rotate_left
  · have hx' : ¬ ((bs.length : Int) ≤ 1048576) := by omega
    go_enter Tryz.func13, Tryz.ntmps13
    go_wp2_with fail
    go_ret
    exact ⟨rfl, Gr.refl _⟩
  have hx' : ((bs.length : Int) ≤ 1048576) := by omega
  go_enter Tryz.func13, Tryz.ntmps13
  go_wp2_with fail
  (with_reducible refine (DrawTalkSay_c h).mono ?_); rintro e w1 ⟨p, q, x, c, f, k, st, ws, ls, d, b, rfl, hsm, hbl, iW, iL, iB, g1⟩
  obtain ⟨R, hR⟩ : ∃ R, sayR ⟨st, ws, ls, tx d⟩ b = R := ⟨_, rfl⟩
  obtain ⟨⟨rs, rws, rls, rdt⟩, rep, ok⟩ := R
  obtain ⟨rd, rfl⟩ : ∃ rd, rdt = tx rd := ⟨S rdt, (tx_S _).symm⟩
  obtain ⟨q1, q2, q3, q4⟩ := hsm
  have HR := Lib.hid hR
  have HLS := Lib.hid q3
  have gT := gr_alloc w1 (.cells #[.int .i64 st, .slice p ws.length c, .slice q ls.length f, .string d] 26)
  have hT := heap_alloc_new w1 (.cells #[.int .i64 st, .slice p ws.length c, .slice q ls.length f, .string d] 26)
  have HT := Lib.hid hT
  have G2 := g1.trans gT
  have jW := iW.kept gT
  have jL := iL.kept gT
  have jB := iB.kept gT
  clear hT iW iL iB hR q3 g1 gT
  go_upto_region 4 with fail
  generalize w1.alloc (.cells #[.int .i64 st, .slice p ws.length c, .slice q ls.length f, .string d] 26) = w2 at *
  have s0 := blk_cell HT.out (j := 0) rfl
  have s1 := blk_cell HT.out (j := 1) rfl
  have s2 := blk_cell HT.out (j := 2) rfl
  have s3 := blk_cell HT.out (j := 3) rfl
  go_wp2_with fail
  (with_reducible refine (implSay_x (hm.kept G2) (he.kept G2) (ht.kept G2) st d jW jL HLS.out (by omega) (by omega) (by omega) jB (by omega) HR).mono ?_); rintro e w3 ⟨p3, q3, x3, c3, f3, k3, rfl, oW, oL, oR, g3⟩
  have gI := gr_alloc w3 (.cells #[.int .i64 rs, .slice p3 rws.length c3, .slice q3 rls.length f3, .string rd] 26)
  have hI := heap_alloc_new w3 (.cells #[.int .i64 rs, .slice p3 rws.length c3, .slice q3 rls.length f3, .string rd] 26)
  have HI := Lib.hid hI
  have g34 := g3.trans gI
  have HT4 := Lib.hid (g34.blk HT.out)
  have G4 := G2.trans g34
  have kW := jW.kept g34
  have kL := jL.kept g34
  have kB := jB.kept g34
  have oW4 := oW.kept gI
  have oL4 := oL.kept gI
  have oR4 := oR.kept gI
  clear hI jW jL jB oW oL oR g3 gI g34 G2 HT s0 s1 s2 s3
  go_upto_region 5 with fail
  generalize w3.alloc (.cells #[.int .i64 rs, .slice p3 rws.length c3, .slice q3 rls.length f3, .string rd] 26) = w4 at *
  have s0 := blk_cell HT4.out (j := 0) rfl
  have s1 := blk_cell HT4.out (j := 1) rfl
  have s2 := blk_cell HT4.out (j := 2) rfl
  have s3 := blk_cell HT4.out (j := 3) rfl
  go_wp2_with fail
  (with_reducible refine (specSay_x st d kW kL HLS.out (by omega) (by omega) (by omega) kB (by omega) HR).mono ?_); rintro e w5 ⟨p5, q5, x5, c5, f5, k5, rfl, pW, pL, pR, g5⟩
  have gS := gr_alloc w5 (.cells #[.int .i64 rs, .slice p5 rws.length c5, .slice q5 rls.length f5, .string rd] 26)
  have hS := heap_alloc_new w5 (.cells #[.int .i64 rs, .slice p5 rws.length c5, .slice q5 rls.length f5, .string rd] 26)
  have HS6 := Lib.hid hS
  have g56 := g5.trans gS
  have HT6 := Lib.hid (g56.blk HT4.out)
  have HI6 := Lib.hid (g56.blk HI.out)
  have G6 := G4.trans g56
  have tW := kW.kept g56
  have tL := kL.kept g56
  have tB := kB.kept g56
  have uW := oW4.kept g56
  have uL := oL4.kept g56
  have uR := oR4.kept g56
  have vW := pW.kept gS
  have vL := pL.kept gS
  have vR := pR.kept gS
  clear hS kW kL kB oW4 oL4 oR4 pW pL pR g5 gS g56 G4 HT4 HI s0 s1 s2 s3
  go_upto_region 6 with fail
  generalize w5.alloc (.cells #[.int .i64 rs, .slice p5 rws.length c5, .slice q5 rls.length f5, .string rd] 26) = w6 at *
  cases ok
  · go_wp2_with fail
    (with_reducible refine (same_c uR vR).mono ?_); rintro e w7 ⟨rfl, g7⟩
    have HI7 := Lib.hid (g7.blk HI6.out)
    have HS7 := Lib.hid (g7.blk HS6.out)
    have s0 := blk_cell HI7.out (j := 0) rfl
    have s1 := blk_cell HI7.out (j := 1) rfl
    have s2 := blk_cell HI7.out (j := 2) rfl
    have s3 := blk_cell HI7.out (j := 3) rfl
    have u0 := blk_cell HS7.out (j := 0) rfl
    have u1 := blk_cell HS7.out (j := 1) rfl
    have u2 := blk_cell HS7.out (j := 2) rfl
    have u3 := blk_cell HS7.out (j := 3) rfl
    go_wp2_with fail
    (with_reducible refine (sameTalk_t rs rd (uW.kept g7) (uL.kept g7) (vW.kept g7) (vL.kept g7)).mono ?_); rintro e w8 ⟨rfl, g8⟩
    have g68 := g7.trans g8
    have HT8 := Lib.hid (g68.blk HT6.out)
    have HI8 := Lib.hid (g68.blk HI6.out)
    have HS8 := Lib.hid (g68.blk HS6.out)
    have G8 := G6.trans g68
    have tW8 := tW.kept g68
    have tL8 := tL.kept g68
    have tB8 := tB.kept g68
    have uW8 := uW.kept g68
    have uL8 := uL.kept g68
    have uR8 := uR.kept g68
    have vW8 := vW.kept g68
    have vL8 := vL.kept g68
    have vR8 := vR.kept g68
    clear s0 s1 s2 s3 u0 u1 u2 u3
    clear tW tL tB uW uL uR vW vL vR g7 g8 g68 HI7 HS7 HT6 HI6 HS6 G6
    go_wp2_with fail
    (with_reducible refine (same_c uR8 vR8).mono ?_); rintro e w9 ⟨rfl, g9⟩
    have HI9 := Lib.hid (g9.blk HI8.out)
    have HS9 := Lib.hid (g9.blk HS8.out)
    have s0 := blk_cell HI9.out (j := 0) rfl
    have s1 := blk_cell HI9.out (j := 1) rfl
    have s2 := blk_cell HI9.out (j := 2) rfl
    have s3 := blk_cell HI9.out (j := 3) rfl
    have u0 := blk_cell HS9.out (j := 0) rfl
    have u1 := blk_cell HS9.out (j := 1) rfl
    have u2 := blk_cell HS9.out (j := 2) rfl
    have u3 := blk_cell HS9.out (j := 3) rfl
    go_wp2_with fail
    (with_reducible refine (sameTalk_t rs rd (uW8.kept g9) (uL8.kept g9) (vW8.kept g9) (vL8.kept g9)).mono ?_); rintro e w10 ⟨rfl, g10⟩
    go_wp2
    go_ret
    exact ⟨rfl, (G8.trans g9).trans g10⟩
  obtain ⟨hk, hrw, hrl, hs⟩ := sayR_yes HR.out
  simp only [] at hrw hrl
  subst hrw hrl
  by_cases h0 : st = 1
  rotate_left
  · have h0' : (st != 1) = true := by simpa using h0
    clear hs hk HR h0
    go_wp2_with fail
    (with_reducible refine (same_c uR vR).mono ?_); rintro e w7 ⟨rfl, g7⟩
    have HI7 := Lib.hid (g7.blk HI6.out)
    have HS7 := Lib.hid (g7.blk HS6.out)
    have s0 := blk_cell HI7.out (j := 0) rfl
    have s1 := blk_cell HI7.out (j := 1) rfl
    have s2 := blk_cell HI7.out (j := 2) rfl
    have s3 := blk_cell HI7.out (j := 3) rfl
    have u0 := blk_cell HS7.out (j := 0) rfl
    have u1 := blk_cell HS7.out (j := 1) rfl
    have u2 := blk_cell HS7.out (j := 2) rfl
    have u3 := blk_cell HS7.out (j := 3) rfl
    go_wp2_with fail
    (with_reducible refine (sameTalk_t rs rd (uW.kept g7) (uL.kept g7) (vW.kept g7) (vL.kept g7)).mono ?_); rintro e w8 ⟨rfl, g8⟩
    have g68 := g7.trans g8
    have HT8 := Lib.hid (g68.blk HT6.out)
    have HI8 := Lib.hid (g68.blk HI6.out)
    have HS8 := Lib.hid (g68.blk HS6.out)
    have G8 := G6.trans g68
    have tW8 := tW.kept g68
    have tL8 := tL.kept g68
    have tB8 := tB.kept g68
    have uW8 := uW.kept g68
    have uL8 := uL.kept g68
    have uR8 := uR.kept g68
    have vW8 := vW.kept g68
    have vL8 := vL.kept g68
    have vR8 := vR.kept g68
    clear s0 s1 s2 s3 u0 u1 u2 u3
    clear tW tL tB uW uL uR vW vL vR g7 g8 g68 HI7 HS7 HT6 HI6 HS6 G6
    have s0 := blk_cell HT8.out (j := 0) rfl
    go_wp2_with fail
    (with_reducible refine (same_c uR8 vR8).mono ?_); rintro e w9 ⟨rfl, g9⟩
    have HI9 := Lib.hid (g9.blk HI8.out)
    have HS9 := Lib.hid (g9.blk HS8.out)
    have s0 := blk_cell HI9.out (j := 0) rfl
    have s1 := blk_cell HI9.out (j := 1) rfl
    have s2 := blk_cell HI9.out (j := 2) rfl
    have s3 := blk_cell HI9.out (j := 3) rfl
    have u0 := blk_cell HS9.out (j := 0) rfl
    have u1 := blk_cell HS9.out (j := 1) rfl
    have u2 := blk_cell HS9.out (j := 2) rfl
    have u3 := blk_cell HS9.out (j := 3) rfl
    go_wp2_with fail
    (with_reducible refine (sameTalk_t rs rd (uW8.kept g9) (uL8.kept g9) (vW8.kept g9) (vL8.kept g9)).mono ?_); rintro e w10 ⟨rfl, g10⟩
    go_wp2
    go_ret
    exact ⟨rfl, (G8.trans g9).trans g10⟩
  obtain ⟨nl1, nl2⟩ := no_logins hk h0
  simp only [] at nl1 nl2
  obtain ⟨s', hs'⟩ : ∃ s', say ⟨st, rws, [], tx d⟩ b = s' := ⟨_, rfl⟩
  rw [hs'] at nl2
  have HE : Hid (sayR ⟨st, rws, [], tx d⟩ b = (⟨4, rws, [], tx (S s'.2.2)⟩, s'.2.1, true)) := Lib.hid (by rw [sayR_of nl1 hs' (tx_S _).symm, nl2])
  have h0' : (st != 1) = false := by simpa using h0
  clear hs hk HR h0 nl1 nl2 hs'
  generalize s'.2.1 = rep' at *
  generalize S s'.2.2 = rd' at *
  go_wp2_with fail
  (with_reducible refine (same_c uR vR).mono ?_); rintro e w7 ⟨rfl, g7⟩
  have HI7 := Lib.hid (g7.blk HI6.out)
  have HS7 := Lib.hid (g7.blk HS6.out)
  have s0 := blk_cell HI7.out (j := 0) rfl
  have s1 := blk_cell HI7.out (j := 1) rfl
  have s2 := blk_cell HI7.out (j := 2) rfl
  have s3 := blk_cell HI7.out (j := 3) rfl
  have u0 := blk_cell HS7.out (j := 0) rfl
  have u1 := blk_cell HS7.out (j := 1) rfl
  have u2 := blk_cell HS7.out (j := 2) rfl
  have u3 := blk_cell HS7.out (j := 3) rfl
  go_wp2_with fail
  (with_reducible refine (sameTalk_t rs rd (uW.kept g7) (uL.kept g7) (vW.kept g7) (vL.kept g7)).mono ?_); rintro e w8 ⟨rfl, g8⟩
  have g68 := g7.trans g8
  have HT8 := Lib.hid (g68.blk HT6.out)
  have HI8 := Lib.hid (g68.blk HI6.out)
  have HS8 := Lib.hid (g68.blk HS6.out)
  have G8 := G6.trans g68
  have tW8 := tW.kept g68
  have tL8 := tL.kept g68
  have tB8 := tB.kept g68
  have uW8 := uW.kept g68
  have uL8 := uL.kept g68
  have uR8 := uR.kept g68
  have vW8 := vW.kept g68
  have vL8 := vL.kept g68
  have vR8 := vR.kept g68
  clear s0 s1 s2 s3 u0 u1 u2 u3
  clear tW tL tB uW uL uR vW vL vR g7 g8 g68 HI7 HS7 HT6 HI6 HS6 G6
  have s0 := blk_cell HT8.out (j := 0) rfl
  have s1 := blk_cell HT8.out (j := 1) rfl
  have s2 := blk_cell HT8.out (j := 2) rfl
  have s3 := blk_cell HT8.out (j := 3) rfl
  have gC := gr_alloc w8 (.cells #[.int .i64 st, .slice p rws.length c, .slice q rls.length f, .string d] 26)
  have hC := heap_alloc_new w8 (.cells #[.int .i64 st, .slice p rws.length c, .slice q rls.length f, .string d] 26)
  have HC := Lib.hid hC
  have GC := G8.trans gC
  clear hC
  go_upto_region 9 with fail
  generalize w8.alloc (.cells #[.int .i64 st, .slice p rws.length c, .slice q rls.length f, .string d] 26) = w9 at *
  have gE := gr_alloc w9 (.cells #[] 59)
  have HC10 := Lib.hid (gE.blk HC.out)
  have lE := (LgO.mt (w := w9) (m := w9.heap.size) rfl)
  have x2 := blk_cell HC10.out (j := 2) rfl
  have f2 := blk_frozen HC10.out 2
  have HLT := Lib.hid (Array.getElem?_eq_some_iff.1 HC.out).1
  have g810 := gC.trans gE
  clear s0 s1 s2 s3 gE gC
  go_upto_region 10 with fail
  generalize w9.alloc (.cells #[] 59) = w10 at *
  have cS : Chg w8.heap.size (w8.heap.size + 1) w10 (w10.setCell ⟨w8.heap.size, 2, none⟩ (.slice (some ⟨w9.heap.size, 0, none⟩) 0 0)) := (Chg.refl _ _ w10).set (p := ⟨w8.heap.size, 2, none⟩) (Nat.le_refl _) (Nat.lt_succ_self _) _
  have hS11 := heap_set (j := 2) (x := .slice (some ⟨w9.heap.size, 0, none⟩) 0 0) HC10.out
  generalize w10.setCell ⟨w8.heap.size, 2, none⟩ (.slice (some ⟨w9.heap.size, 0, none⟩) 0 0) = w11 at *
  have HC11 : Hid (w11.heap[w8.heap.size]? = some (.cells #[.int .i64 st, .slice p rws.length c, .slice (some ⟨w9.heap.size, 0, none⟩) 0 0, .string d] 26 (0, 0))) := hS11
  have g811 : Gr w8 w11 := cS.gr g810 (Nat.le_refl _)
  have lE11 := (LgO.keptC lE cS HLT.out).s
  have GE := G8.trans g811
  clear x2 f2 hS11 cS lE HC10 HC g810
  have s0 := blk_cell HC11.out (j := 0) rfl
  have s1 := blk_cell HC11.out (j := 1) rfl
  have s2 := blk_cell HC11.out (j := 2) rfl
  have s3 := blk_cell HC11.out (j := 3) rfl
  go_wp2_with fail
  (with_reducible refine (implSay_x (ls := []) (hm.kept GE) (he.kept GE) (ht.kept GE) st d (tW8.kept g811) lE11 nil_sm (by omega) (by omega) (by simp) (tB8.kept g811) (by omega) HE).mono ?_); rintro e w12 ⟨p12, q12, x12, c12, f12, k12, rfl, _, _, _, g12⟩
  go_wp2
  go_ret
  exact ⟨rfl, (GE.trans g12).alloc _⟩
end Go.Proofs.YtpdjibfcbjknhaaGreatDoor
namespace Go.Proofs.YtpdjibfcbjknhaaGreatDoor
open Go.RowKit
theorem hello_what {ws xs : List Int} {rs : Int} {rep : List Int} {rd : Tx} (h : sayHello ws xs = (rs, rep, rd)) : (∀ ms n, helloFrom xs = some (ms, n) → n ≠ xs.length → rs = 4 ∧ rep = []) ∧ (helloFrom xs = none → rs = 4 ∧ rep = []) ∧ (∀ ms, helloFrom xs = some (ms, xs.length) → rep = [5, helloPick ws ms]) := by
  refine ⟨fun ms n e hn => ?_, fun e => ?_, fun ms e => ?_⟩
  · unfold sayHello at h
    rw [e] at h
    simp only [] at h
    rw [if_neg hn] at h
    injection h with h1 h2
    injection h2 with h2 _
    exact ⟨h1.symm, h2.symm⟩
  · unfold sayHello at h
    rw [e] at h
    injection h with h1 h2
    injection h2 with h2 _
    exact ⟨h1.symm, h2.symm⟩
  · unfold sayHello at h
    rw [e] at h
    simp only [] at h
    first | rw [if_pos rfl] at h | skip
    injection h with h1 h2
    injection h2 with h2 _
    exact h2.symm
set_option maxRecDepth 20000 in
set_option maxHeartbeats 4000000 in
theorem FnSayHello_w {w : World} {v : Value} {bs : List Int} (hm : ML w) (he : ErrV w) (ht : Tab w) (h : ByteS w v bs) :
    Calls Tryz.prog 10 #[v] w fun e w' => e = .returned (.bool true) ∧ Gr w w' := by
  obtain ⟨p0, cap, rfl, _, _⟩ := h.form
  by_cases hx : bs.length ≤ 1048576
  rotate_left
  · have hx' : ¬ ((bs.length : Int) ≤ 1048576) := by omega
    go_enter Tryz.func10, Tryz.ntmps10
    go_wp2_with fail
    go_ret
    exact ⟨rfl, Gr.refl _⟩
  have hx' : ((bs.length : Int) ≤ 1048576) := by omega
  go_enter Tryz.func10, Tryz.ntmps10
  go_wp2_with fail
  (with_reducible refine (DrawTalkSay_c h).mono ?_); rintro e w1 ⟨p, q, x, c, f, k, st, ws, ls, d, b, rfl, hsm, hbl, iW, iL, iB, g1⟩
  obtain ⟨R, hR⟩ : ∃ R, sayR ⟨st, ws, ls, tx d⟩ b = R := ⟨_, rfl⟩
  obtain ⟨⟨rs, rws, rls, rdt⟩, rep, ok⟩ := R
  obtain ⟨rd, rfl⟩ : ∃ rd, rdt = tx rd := ⟨S rdt, (tx_S _).symm⟩
  obtain ⟨q1, q2, q3, q4⟩ := hsm
  have HR := Lib.hid hR
  have HLS := Lib.hid q3
  have gT := gr_alloc w1 (.cells #[.int .i64 st, .slice p ws.length c, .slice q ls.length f, .string d] 26)
  have hT := heap_alloc_new w1 (.cells #[.int .i64 st, .slice p ws.length c, .slice q ls.length f, .string d] 26)
  have HT := Lib.hid hT
  have G2 := g1.trans gT
  have jW := iW.kept gT
  have jL := iL.kept gT
  have jB := iB.kept gT
  clear hT iW iL iB hR q3 g1 gT
  go_upto_region 4 with fail
  generalize w1.alloc (.cells #[.int .i64 st, .slice p ws.length c, .slice q ls.length f, .string d] 26) = w2 at *
  have s0 := blk_cell HT.out (j := 0) rfl
  have s1 := blk_cell HT.out (j := 1) rfl
  have s2 := blk_cell HT.out (j := 2) rfl
  have s3 := blk_cell HT.out (j := 3) rfl
  go_wp2_with fail
  (with_reducible refine (implSay_x (hm.kept G2) (he.kept G2) (ht.kept G2) st d jW jL HLS.out (by omega) (by omega) (by omega) jB (by omega) HR).mono ?_); rintro e w3 ⟨p3, q3, x3, c3, f3, k3, rfl, oW, oL, oR, g3⟩
  have gI := gr_alloc w3 (.cells #[.int .i64 rs, .slice p3 rws.length c3, .slice q3 rls.length f3, .string rd] 26)
  have hI := heap_alloc_new w3 (.cells #[.int .i64 rs, .slice p3 rws.length c3, .slice q3 rls.length f3, .string rd] 26)
  have HI := Lib.hid hI
  have g34 := g3.trans gI
  have HT4 := Lib.hid (g34.blk HT.out)
  have G4 := G2.trans g34
  have kW := jW.kept g34
  have kL := jL.kept g34
  have kB := jB.kept g34
  have oW4 := oW.kept gI
  have oL4 := oL.kept gI
  have oR4 := oR.kept gI
  clear hI jW jL jB oW oL oR g3 gI g34 G2 HT s0 s1 s2 s3
  go_upto_region 5 with fail
  generalize w3.alloc (.cells #[.int .i64 rs, .slice p3 rws.length c3, .slice q3 rls.length f3, .string rd] 26) = w4 at *
  have s0 := blk_cell HT4.out (j := 0) rfl
  have s1 := blk_cell HT4.out (j := 1) rfl
  have s2 := blk_cell HT4.out (j := 2) rfl
  have s3 := blk_cell HT4.out (j := 3) rfl
  go_wp2_with fail
  (with_reducible refine (specSay_x st d kW kL HLS.out (by omega) (by omega) (by omega) kB (by omega) HR).mono ?_); rintro e w5 ⟨p5, q5, x5, c5, f5, k5, rfl, pW, pL, pR, g5⟩
  have gS := gr_alloc w5 (.cells #[.int .i64 rs, .slice p5 rws.length c5, .slice q5 rls.length f5, .string rd] 26)
  have hS := heap_alloc_new w5 (.cells #[.int .i64 rs, .slice p5 rws.length c5, .slice q5 rls.length f5, .string rd] 26)
  have HS6 := Lib.hid hS
  have g56 := g5.trans gS
  have HT6 := Lib.hid (g56.blk HT4.out)
  have HI6 := Lib.hid (g56.blk HI.out)
  have G6 := G4.trans g56
  have tW := kW.kept g56
  have tL := kL.kept g56
  have tB := kB.kept g56
  have uW := oW4.kept g56
  have uL := oL4.kept g56
  have uR := oR4.kept g56
  have vW := pW.kept gS
  have vL := pL.kept gS
  have vR := pR.kept gS
  clear hS kW kL kB oW4 oL4 oR4 pW pL pR g5 gS g56 G4 HT4 HI s0 s1 s2 s3
  go_upto_region 6 with fail
  generalize w5.alloc (.cells #[.int .i64 rs, .slice p5 rws.length c5, .slice q5 rls.length f5, .string rd] 26) = w6 at *
  cases ok
  · go_wp2_with fail
    (with_reducible refine (same_c uR vR).mono ?_); rintro e w7 ⟨rfl, g7⟩
    have HI7 := Lib.hid (g7.blk HI6.out)
    have HS7 := Lib.hid (g7.blk HS6.out)
    have s0 := blk_cell HI7.out (j := 0) rfl
    have s1 := blk_cell HI7.out (j := 1) rfl
    have s2 := blk_cell HI7.out (j := 2) rfl
    have s3 := blk_cell HI7.out (j := 3) rfl
    have u0 := blk_cell HS7.out (j := 0) rfl
    have u1 := blk_cell HS7.out (j := 1) rfl
    have u2 := blk_cell HS7.out (j := 2) rfl
    have u3 := blk_cell HS7.out (j := 3) rfl
    go_wp2_with fail
    (with_reducible refine (sameTalk_t rs rd (uW.kept g7) (uL.kept g7) (vW.kept g7) (vL.kept g7)).mono ?_); rintro e w8 ⟨rfl, g8⟩
    have g68 := g7.trans g8
    have HT8 := Lib.hid (g68.blk HT6.out)
    have HI8 := Lib.hid (g68.blk HI6.out)
    have HS8 := Lib.hid (g68.blk HS6.out)
    have G8 := G6.trans g68
    have tW8 := tW.kept g68
    have tL8 := tL.kept g68
    have tB8 := tB.kept g68
    have uW8 := uW.kept g68
    have uL8 := uL.kept g68
    have uR8 := uR.kept g68
    have vW8 := vW.kept g68
    have vL8 := vL.kept g68
    have vR8 := vR.kept g68
    clear s0 s1 s2 s3 u0 u1 u2 u3
    clear tW tL tB uW uL uR vW vL vR g7 g8 g68 HI7 HS7 HT6 HI6 HS6 G6
    go_wp2_with fail
    (with_reducible refine (same_c uR8 vR8).mono ?_); rintro e w9 ⟨rfl, g9⟩
    have HI9 := Lib.hid (g9.blk HI8.out)
    have HS9 := Lib.hid (g9.blk HS8.out)
    have s0 := blk_cell HI9.out (j := 0) rfl
    have s1 := blk_cell HI9.out (j := 1) rfl
    have s2 := blk_cell HI9.out (j := 2) rfl
    have s3 := blk_cell HI9.out (j := 3) rfl
    have u0 := blk_cell HS9.out (j := 0) rfl
    have u1 := blk_cell HS9.out (j := 1) rfl
    have u2 := blk_cell HS9.out (j := 2) rfl
    have u3 := blk_cell HS9.out (j := 3) rfl
    go_wp2_with fail
    (with_reducible refine (sameTalk_t rs rd (uW8.kept g9) (uL8.kept g9) (vW8.kept g9) (vL8.kept g9)).mono ?_); rintro e w10 ⟨rfl, g10⟩
    go_wp2
    go_ret
    exact ⟨rfl, (G8.trans g9).trans g10⟩
  obtain ⟨hk, hrw, hrl, hs⟩ := sayR_yes HR.out
  simp only [] at hrw hrl
  subst hrw hrl
  by_cases h0 : st = 0
  rotate_left
  · have h0' : (st != 0) = true := by simpa using h0
    clear hs hk HR h0
    go_wp2_with fail
    (with_reducible refine (same_c uR vR).mono ?_); rintro e w7 ⟨rfl, g7⟩
    have HI7 := Lib.hid (g7.blk HI6.out)
    have HS7 := Lib.hid (g7.blk HS6.out)
    have s0 := blk_cell HI7.out (j := 0) rfl
    have s1 := blk_cell HI7.out (j := 1) rfl
    have s2 := blk_cell HI7.out (j := 2) rfl
    have s3 := blk_cell HI7.out (j := 3) rfl
    have u0 := blk_cell HS7.out (j := 0) rfl
    have u1 := blk_cell HS7.out (j := 1) rfl
    have u2 := blk_cell HS7.out (j := 2) rfl
    have u3 := blk_cell HS7.out (j := 3) rfl
    go_wp2_with fail
    (with_reducible refine (sameTalk_t rs rd (uW.kept g7) (uL.kept g7) (vW.kept g7) (vL.kept g7)).mono ?_); rintro e w8 ⟨rfl, g8⟩
    have g68 := g7.trans g8
    have HT8 := Lib.hid (g68.blk HT6.out)
    have HI8 := Lib.hid (g68.blk HI6.out)
    have HS8 := Lib.hid (g68.blk HS6.out)
    have G8 := G6.trans g68
    have tW8 := tW.kept g68
    have tL8 := tL.kept g68
    have tB8 := tB.kept g68
    have uW8 := uW.kept g68
    have uL8 := uL.kept g68
    have uR8 := uR.kept g68
    have vW8 := vW.kept g68
    have vL8 := vL.kept g68
    have vR8 := vR.kept g68
    clear s0 s1 s2 s3 u0 u1 u2 u3
    clear tW tL tB uW uL uR vW vL vR g7 g8 g68 HI7 HS7 HT6 HI6 HS6 G6
    have s0 := blk_cell HT8.out (j := 0) rfl
    go_wp2_with fail
    (with_reducible refine (same_c uR8 vR8).mono ?_); rintro e w9 ⟨rfl, g9⟩
    have HI9 := Lib.hid (g9.blk HI8.out)
    have HS9 := Lib.hid (g9.blk HS8.out)
    have s0 := blk_cell HI9.out (j := 0) rfl
    have s1 := blk_cell HI9.out (j := 1) rfl
    have s2 := blk_cell HI9.out (j := 2) rfl
    have s3 := blk_cell HI9.out (j := 3) rfl
    have u0 := blk_cell HS9.out (j := 0) rfl
    have u1 := blk_cell HS9.out (j := 1) rfl
    have u2 := blk_cell HS9.out (j := 2) rfl
    have u3 := blk_cell HS9.out (j := 3) rfl
    go_wp2_with fail
    (with_reducible refine (sameTalk_t rs rd (uW8.kept g9) (uL8.kept g9) (vW8.kept g9) (vL8.kept g9)).mono ?_); rintro e w10 ⟨rfl, g10⟩
    go_wp2
    go_ret
    exact ⟨rfl, (G8.trans g9).trans g10⟩
  obtain ⟨W1, W2, W3⟩ := hello_what ((say_hello h0).symm.trans hs)
  have HW1 := Lib.hid W1
  have HW2 := Lib.hid W2
  have HW3 := Lib.hid W3
  have h0' : (st != 0) = false := by simpa using h0
  clear hs hk HR h0 W1 W2 W3
  go_wp2_with fail
  (with_reducible refine (same_c uR vR).mono ?_); rintro e w7 ⟨rfl, g7⟩
  have HI7 := Lib.hid (g7.blk HI6.out)
  have HS7 := Lib.hid (g7.blk HS6.out)
  have s0 := blk_cell HI7.out (j := 0) rfl
  have s1 := blk_cell HI7.out (j := 1) rfl
  have s2 := blk_cell HI7.out (j := 2) rfl
  have s3 := blk_cell HI7.out (j := 3) rfl
  have u0 := blk_cell HS7.out (j := 0) rfl
  have u1 := blk_cell HS7.out (j := 1) rfl
  have u2 := blk_cell HS7.out (j := 2) rfl
  have u3 := blk_cell HS7.out (j := 3) rfl
  go_wp2_with fail
  (with_reducible refine (sameTalk_t rs rd (uW.kept g7) (uL.kept g7) (vW.kept g7) (vL.kept g7)).mono ?_); rintro e w8 ⟨rfl, g8⟩
  have g68 := g7.trans g8
  have HT8 := Lib.hid (g68.blk HT6.out)
  have HI8 := Lib.hid (g68.blk HI6.out)
  have HS8 := Lib.hid (g68.blk HS6.out)
  have G8 := G6.trans g68
  have tW8 := tW.kept g68
  have tL8 := tL.kept g68
  have tB8 := tB.kept g68
  have uW8 := uW.kept g68
  have uL8 := uL.kept g68
  have uR8 := uR.kept g68
  have vW8 := vW.kept g68
  have vL8 := vL.kept g68
  have vR8 := vR.kept g68
  clear s0 s1 s2 s3 u0 u1 u2 u3
  clear tW tL tB uW uL uR vW vL vR g7 g8 g68 HI7 HS7 HT6 HI6 HS6 G6
  have t0 := blk_cell HT8.out (j := 0) rfl
  go_wp2_with fail
  (with_reducible refine (implHelloFrom_c tB8 (by omega)).mono ?_); rintro e w9 ⟨p9, c9, ys, n, okh, rfl, hcase, o9, g9⟩
  have HI9 := Lib.hid (g9.blk HI8.out)
  have HT9 := Lib.hid (g9.blk HT8.out)
  clear t0
  rcases hcase with ⟨m, hm', rfl, rfl⟩ | ⟨hno, rfl, rfl, rfl⟩
  rotate_left
  · have hrs := HW2.out hno
    clear hno
    have e1 : (rs == 4) = true := by rw [hrs.1]; rfl
    have e2 : ((rep.length : Int) == 0) = true := by rw [hrs.2]; rfl
    have s0 := blk_cell HI9.out (j := 0) rfl
    clear hrs
    go_wp2
    go_ret
    exact ⟨rfl, G8.trans g9⟩
  by_cases hlt : m = b.length
  rotate_left
  · have hlt' : ((m : Int) != (b.length : Int)) = true := by simp; omega
    have hrs := HW1.out _ _ hm' hlt
    clear hm' hlt
    have e1 : (rs == 4) = true := by rw [hrs.1]; rfl
    have e2 : ((rep.length : Int) == 0) = true := by rw [hrs.2]; rfl
    have s0 := blk_cell HI9.out (j := 0) rfl
    clear hrs
    go_wp2
    go_ret
    exact ⟨rfl, G8.trans g9⟩
  have hlt' : ((m : Int) != (b.length : Int)) = false := by simp; omega
  subst hlt
  have hrep := HW3.out _ hm'
  have HPB := Lib.hid (pick_byte rws ys)
  have HREP := Lib.hid hrep
  clear hm' hrep
  have s1 := blk_cell HT9.out (j := 1) rfl
  go_wp2_with fail
  (with_reducible refine (implHelloPick_c (tW8.kept g9) o9.s).mono ?_); rintro e w10 ⟨rfl, rfl⟩
  generalize helloPick rws ys = pm at *
  go_wp2_with fail
  (with_reducible refine (implPickBytes_c _ _ HPB).mono ?_); rintro e w11 ⟨v11, rfl, o11, g11⟩
  obtain ⟨p11, c11, rfl⟩ := o11.len
  have oR := uR8.kept (g9.trans g11)
  have o11' : IntS w11 (.slice p11 2 c11) rep := by rw [HREP.out]; exact o11.s
  go_wp2_with fail
  (with_reducible refine (same_c oR o11').mono ?_); rintro e w12 ⟨rfl, g12⟩
  go_wp2
  go_ret
  exact ⟨rfl, ((G8.trans g9).trans g11).trans g12⟩
set_option maxRecDepth 20000 in
set_option maxHeartbeats 4000000 in
theorem FnSayHelloState_w {w : World} {v : Value} {bs : List Int} (hm : ML w) (he : ErrV w) (ht : Tab w) (h : ByteS w v bs) :
    Calls Tryz.prog 11 #[v] w fun e w' => e = .returned (.bool true) ∧ Gr w w' := by
  obtain ⟨p0, cap, rfl, _, _⟩ := h.form
  by_cases hx : bs.length ≤ 1048576
  rotate_left
  · have hx' : ¬ ((bs.length : Int) ≤ 1048576) := by omega
    go_enter Tryz.func11, Tryz.ntmps11
    go_wp2_with fail
    go_ret
    exact ⟨rfl, Gr.refl _⟩
  have hx' : ((bs.length : Int) ≤ 1048576) := by omega
  go_enter Tryz.func11, Tryz.ntmps11
  go_wp2_with fail
  (with_reducible refine (DrawTalkSay_c h).mono ?_); rintro e w1 ⟨p, q, x, c, f, k, st, ws, ls, d, b, rfl, hsm, hbl, iW, iL, iB, g1⟩
  obtain ⟨R, hR⟩ : ∃ R, sayR ⟨st, ws, ls, tx d⟩ b = R := ⟨_, rfl⟩
  obtain ⟨⟨rs, rws, rls, rdt⟩, rep, ok⟩ := R
  obtain ⟨rd, rfl⟩ : ∃ rd, rdt = tx rd := ⟨S rdt, (tx_S _).symm⟩
  obtain ⟨q1, q2, q3, q4⟩ := hsm
  have HR := Lib.hid hR
  have HLS := Lib.hid q3
  have gT := gr_alloc w1 (.cells #[.int .i64 st, .slice p ws.length c, .slice q ls.length f, .string d] 26)
  have hT := heap_alloc_new w1 (.cells #[.int .i64 st, .slice p ws.length c, .slice q ls.length f, .string d] 26)
  have HT := Lib.hid hT
  have G2 := g1.trans gT
  have jW := iW.kept gT
  have jL := iL.kept gT
  have jB := iB.kept gT
  clear hT iW iL iB hR q3 g1 gT
  go_upto_region 4 with fail
  generalize w1.alloc (.cells #[.int .i64 st, .slice p ws.length c, .slice q ls.length f, .string d] 26) = w2 at *
  have s0 := blk_cell HT.out (j := 0) rfl
  have s1 := blk_cell HT.out (j := 1) rfl
  have s2 := blk_cell HT.out (j := 2) rfl
  have s3 := blk_cell HT.out (j := 3) rfl
  go_wp2_with fail
  (with_reducible refine (implSay_x (hm.kept G2) (he.kept G2) (ht.kept G2) st d jW jL HLS.out (by omega) (by omega) (by omega) jB (by omega) HR).mono ?_); rintro e w3 ⟨p3, q3, x3, c3, f3, k3, rfl, oW, oL, oR, g3⟩
  have gI := gr_alloc w3 (.cells #[.int .i64 rs, .slice p3 rws.length c3, .slice q3 rls.length f3, .string rd] 26)
  have hI := heap_alloc_new w3 (.cells #[.int .i64 rs, .slice p3 rws.length c3, .slice q3 rls.length f3, .string rd] 26)
  have HI := Lib.hid hI
  have g34 := g3.trans gI
  have HT4 := Lib.hid (g34.blk HT.out)
  have G4 := G2.trans g34
  have kW := jW.kept g34
  have kL := jL.kept g34
  have kB := jB.kept g34
  have oW4 := oW.kept gI
  have oL4 := oL.kept gI
  have oR4 := oR.kept gI
  clear hI jW jL jB oW oL oR g3 gI g34 G2 HT s0 s1 s2 s3
  go_upto_region 5 with fail
  generalize w3.alloc (.cells #[.int .i64 rs, .slice p3 rws.length c3, .slice q3 rls.length f3, .string rd] 26) = w4 at *
  have s0 := blk_cell HT4.out (j := 0) rfl
  have s1 := blk_cell HT4.out (j := 1) rfl
  have s2 := blk_cell HT4.out (j := 2) rfl
  have s3 := blk_cell HT4.out (j := 3) rfl
  go_wp2_with fail
  (with_reducible refine (specSay_x st d kW kL HLS.out (by omega) (by omega) (by omega) kB (by omega) HR).mono ?_); rintro e w5 ⟨p5, q5, x5, c5, f5, k5, rfl, pW, pL, pR, g5⟩
  have gS := gr_alloc w5 (.cells #[.int .i64 rs, .slice p5 rws.length c5, .slice q5 rls.length f5, .string rd] 26)
  have hS := heap_alloc_new w5 (.cells #[.int .i64 rs, .slice p5 rws.length c5, .slice q5 rls.length f5, .string rd] 26)
  have HS6 := Lib.hid hS
  have g56 := g5.trans gS
  have HT6 := Lib.hid (g56.blk HT4.out)
  have HI6 := Lib.hid (g56.blk HI.out)
  have G6 := G4.trans g56
  have tW := kW.kept g56
  have tL := kL.kept g56
  have tB := kB.kept g56
  have uW := oW4.kept g56
  have uL := oL4.kept g56
  have uR := oR4.kept g56
  have vW := pW.kept gS
  have vL := pL.kept gS
  have vR := pR.kept gS
  clear hS kW kL kB oW4 oL4 oR4 pW pL pR g5 gS g56 G4 HT4 HI s0 s1 s2 s3
  go_upto_region 6 with fail
  generalize w5.alloc (.cells #[.int .i64 rs, .slice p5 rws.length c5, .slice q5 rls.length f5, .string rd] 26) = w6 at *
  cases ok
  · go_wp2_with fail
    (with_reducible refine (same_c uR vR).mono ?_); rintro e w7 ⟨rfl, g7⟩
    have HI7 := Lib.hid (g7.blk HI6.out)
    have HS7 := Lib.hid (g7.blk HS6.out)
    have s0 := blk_cell HI7.out (j := 0) rfl
    have s1 := blk_cell HI7.out (j := 1) rfl
    have s2 := blk_cell HI7.out (j := 2) rfl
    have s3 := blk_cell HI7.out (j := 3) rfl
    have u0 := blk_cell HS7.out (j := 0) rfl
    have u1 := blk_cell HS7.out (j := 1) rfl
    have u2 := blk_cell HS7.out (j := 2) rfl
    have u3 := blk_cell HS7.out (j := 3) rfl
    go_wp2_with fail
    (with_reducible refine (sameTalk_t rs rd (uW.kept g7) (uL.kept g7) (vW.kept g7) (vL.kept g7)).mono ?_); rintro e w8 ⟨rfl, g8⟩
    have g68 := g7.trans g8
    have HT8 := Lib.hid (g68.blk HT6.out)
    have HI8 := Lib.hid (g68.blk HI6.out)
    have HS8 := Lib.hid (g68.blk HS6.out)
    have G8 := G6.trans g68
    have tW8 := tW.kept g68
    have tL8 := tL.kept g68
    have tB8 := tB.kept g68
    have uW8 := uW.kept g68
    have uL8 := uL.kept g68
    have uR8 := uR.kept g68
    have vW8 := vW.kept g68
    have vL8 := vL.kept g68
    have vR8 := vR.kept g68
    clear s0 s1 s2 s3 u0 u1 u2 u3
    clear tW tL tB uW uL uR vW vL vR g7 g8 g68 HI7 HS7 HT6 HI6 HS6 G6
    go_wp2_with fail
    (with_reducible refine (same_c uR8 vR8).mono ?_); rintro e w9 ⟨rfl, g9⟩
    have HI9 := Lib.hid (g9.blk HI8.out)
    have HS9 := Lib.hid (g9.blk HS8.out)
    have s0 := blk_cell HI9.out (j := 0) rfl
    have s1 := blk_cell HI9.out (j := 1) rfl
    have s2 := blk_cell HI9.out (j := 2) rfl
    have s3 := blk_cell HI9.out (j := 3) rfl
    have u0 := blk_cell HS9.out (j := 0) rfl
    have u1 := blk_cell HS9.out (j := 1) rfl
    have u2 := blk_cell HS9.out (j := 2) rfl
    have u3 := blk_cell HS9.out (j := 3) rfl
    go_wp2_with fail
    (with_reducible refine (sameTalk_t rs rd (uW8.kept g9) (uL8.kept g9) (vW8.kept g9) (vL8.kept g9)).mono ?_); rintro e w10 ⟨rfl, g10⟩
    go_wp2
    go_ret
    exact ⟨rfl, (G8.trans g9).trans g10⟩
  obtain ⟨hk, hrw, hrl, hs⟩ := sayR_yes HR.out
  simp only [] at hrw hrl
  subst hrw hrl
  by_cases h0 : st = 0
  rotate_left
  · have h0' : (st != 0) = true := by simpa using h0
    clear hs hk HR h0
    go_wp2_with fail
    (with_reducible refine (same_c uR vR).mono ?_); rintro e w7 ⟨rfl, g7⟩
    have HI7 := Lib.hid (g7.blk HI6.out)
    have HS7 := Lib.hid (g7.blk HS6.out)
    have s0 := blk_cell HI7.out (j := 0) rfl
    have s1 := blk_cell HI7.out (j := 1) rfl
    have s2 := blk_cell HI7.out (j := 2) rfl
    have s3 := blk_cell HI7.out (j := 3) rfl
    have u0 := blk_cell HS7.out (j := 0) rfl
    have u1 := blk_cell HS7.out (j := 1) rfl
    have u2 := blk_cell HS7.out (j := 2) rfl
    have u3 := blk_cell HS7.out (j := 3) rfl
    go_wp2_with fail
    (with_reducible refine (sameTalk_t rs rd (uW.kept g7) (uL.kept g7) (vW.kept g7) (vL.kept g7)).mono ?_); rintro e w8 ⟨rfl, g8⟩
    have g68 := g7.trans g8
    have HT8 := Lib.hid (g68.blk HT6.out)
    have HI8 := Lib.hid (g68.blk HI6.out)
    have HS8 := Lib.hid (g68.blk HS6.out)
    have G8 := G6.trans g68
    have tW8 := tW.kept g68
    have tL8 := tL.kept g68
    have tB8 := tB.kept g68
    have uW8 := uW.kept g68
    have uL8 := uL.kept g68
    have uR8 := uR.kept g68
    have vW8 := vW.kept g68
    have vL8 := vL.kept g68
    have vR8 := vR.kept g68
    clear s0 s1 s2 s3 u0 u1 u2 u3
    clear tW tL tB uW uL uR vW vL vR g7 g8 g68 HI7 HS7 HT6 HI6 HS6 G6
    have s0 := blk_cell HT8.out (j := 0) rfl
    go_wp2_with fail
    (with_reducible refine (same_c uR8 vR8).mono ?_); rintro e w9 ⟨rfl, g9⟩
    have HI9 := Lib.hid (g9.blk HI8.out)
    have HS9 := Lib.hid (g9.blk HS8.out)
    have s0 := blk_cell HI9.out (j := 0) rfl
    have s1 := blk_cell HI9.out (j := 1) rfl
    have s2 := blk_cell HI9.out (j := 2) rfl
    have s3 := blk_cell HI9.out (j := 3) rfl
    have u0 := blk_cell HS9.out (j := 0) rfl
    have u1 := blk_cell HS9.out (j := 1) rfl
    have u2 := blk_cell HS9.out (j := 2) rfl
    have u3 := blk_cell HS9.out (j := 3) rfl
    go_wp2_with fail
    (with_reducible refine (sameTalk_t rs rd (uW8.kept g9) (uL8.kept g9) (vW8.kept g9) (vL8.kept g9)).mono ?_); rintro e w10 ⟨rfl, g10⟩
    go_wp2
    go_ret
    exact ⟨rfl, (G8.trans g9).trans g10⟩
  obtain ⟨k1, k2, k3⟩ := sayOk_parts hk
  have hse := (talk_parts k1).1
  have hst := hello_state (xs := b) hse
  have hs2 := (say_hello h0).symm.trans hs
  simp only [] at hst hs2
  rw [hs2] at hst
  simp only [] at hst
  have h0' : (st != 0) = false := by simpa using h0
  clear hs hk HR h0 k1 k2 k3 hse hs2
  rcases hst with ⟨a1, a2⟩ | ⟨a1, a2⟩ | ⟨a1, a2 | a2⟩
  · have r1 : (rs == 1) = true := by rw [a1]; rfl
    have HREP := Lib.hid a2
    clear a1 a2
    go_wp2_with fail
    (with_reducible refine (same_c uR vR).mono ?_); rintro e w7 ⟨rfl, g7⟩
    have HI7 := Lib.hid (g7.blk HI6.out)
    have HS7 := Lib.hid (g7.blk HS6.out)
    have s0 := blk_cell HI7.out (j := 0) rfl
    have s1 := blk_cell HI7.out (j := 1) rfl
    have s2 := blk_cell HI7.out (j := 2) rfl
    have s3 := blk_cell HI7.out (j := 3) rfl
    have u0 := blk_cell HS7.out (j := 0) rfl
    have u1 := blk_cell HS7.out (j := 1) rfl
    have u2 := blk_cell HS7.out (j := 2) rfl
    have u3 := blk_cell HS7.out (j := 3) rfl
    go_wp2_with fail
    (with_reducible refine (sameTalk_t rs rd (uW.kept g7) (uL.kept g7) (vW.kept g7) (vL.kept g7)).mono ?_); rintro e w8 ⟨rfl, g8⟩
    have g68 := g7.trans g8
    have HT8 := Lib.hid (g68.blk HT6.out)
    have HI8 := Lib.hid (g68.blk HI6.out)
    have HS8 := Lib.hid (g68.blk HS6.out)
    have G8 := G6.trans g68
    have tW8 := tW.kept g68
    have tL8 := tL.kept g68
    have tB8 := tB.kept g68
    have uW8 := uW.kept g68
    have uL8 := uL.kept g68
    have uR8 := uR.kept g68
    have vW8 := vW.kept g68
    have vL8 := vL.kept g68
    have vR8 := vR.kept g68
    clear s0 s1 s2 s3 u0 u1 u2 u3
    clear tW tL tB uW uL uR vW vL vR g7 g8 g68 HI7 HS7 HT6 HI6 HS6 G6
    have t0 := blk_cell HT8.out (j := 0) rfl
    have s0 := blk_cell HI8.out (j := 0) rfl
    have gE := gr_alloc w8 (.cells #[.int .i64 5, .int .i64 2] 3)
    have oE : IntS (w8.alloc (.cells #[.int .i64 5, .int .i64 2] 3)) (.slice (some ⟨w8.heap.size, 0, none⟩) 2 2) rep := by rw [HREP.out]; exact (IntO.two (w := w8) (x := 5) (y := 2) rfl).s
    go_wp2_with fail
    (with_reducible refine (same_c (uR8.kept gE) oE).mono ?_); rintro e w9 ⟨rfl, g9⟩
    go_wp2
    go_ret
    exact ⟨rfl, (G8.trans gE).trans g9⟩
  · have r1 : (rs == 1) = false := by rw [a1]; rfl
    have r2 : (rs == 2) = true := by rw [a1]; rfl
    have HREP := Lib.hid a2
    clear a1 a2
    go_wp2_with fail
    (with_reducible refine (same_c uR vR).mono ?_); rintro e w7 ⟨rfl, g7⟩
    have HI7 := Lib.hid (g7.blk HI6.out)
    have HS7 := Lib.hid (g7.blk HS6.out)
    have s0 := blk_cell HI7.out (j := 0) rfl
    have s1 := blk_cell HI7.out (j := 1) rfl
    have s2 := blk_cell HI7.out (j := 2) rfl
    have s3 := blk_cell HI7.out (j := 3) rfl
    have u0 := blk_cell HS7.out (j := 0) rfl
    have u1 := blk_cell HS7.out (j := 1) rfl
    have u2 := blk_cell HS7.out (j := 2) rfl
    have u3 := blk_cell HS7.out (j := 3) rfl
    go_wp2_with fail
    (with_reducible refine (sameTalk_t rs rd (uW.kept g7) (uL.kept g7) (vW.kept g7) (vL.kept g7)).mono ?_); rintro e w8 ⟨rfl, g8⟩
    have g68 := g7.trans g8
    have HT8 := Lib.hid (g68.blk HT6.out)
    have HI8 := Lib.hid (g68.blk HI6.out)
    have HS8 := Lib.hid (g68.blk HS6.out)
    have G8 := G6.trans g68
    have tW8 := tW.kept g68
    have tL8 := tL.kept g68
    have tB8 := tB.kept g68
    have uW8 := uW.kept g68
    have uL8 := uL.kept g68
    have uR8 := uR.kept g68
    have vW8 := vW.kept g68
    have vL8 := vL.kept g68
    have vR8 := vR.kept g68
    clear s0 s1 s2 s3 u0 u1 u2 u3
    clear tW tL tB uW uL uR vW vL vR g7 g8 g68 HI7 HS7 HT6 HI6 HS6 G6
    have t0 := blk_cell HT8.out (j := 0) rfl
    have s0 := blk_cell HI8.out (j := 0) rfl
    have gE := gr_alloc w8 (.cells #[.int .i64 5, .int .i64 0] 3)
    have oE : IntS (w8.alloc (.cells #[.int .i64 5, .int .i64 0] 3)) (.slice (some ⟨w8.heap.size, 0, none⟩) 2 2) rep := by rw [HREP.out]; exact (IntO.two (w := w8) (x := 5) (y := 0) rfl).s
    go_wp2_with fail
    (with_reducible refine (same_c (uR8.kept gE) oE).mono ?_); rintro e w9 ⟨rfl, g9⟩
    go_wp2
    go_ret
    exact ⟨rfl, (G8.trans gE).trans g9⟩
  · have r1 : (rs == 1) = false := by rw [a1]; rfl
    have r2 : (rs == 2) = false := by rw [a1]; rfl
    have r4 : (rs == 4) = true := by rw [a1]; rfl
    have rl : ((rep.length : Int) == 0) = true := by rw [a2]; rfl
    clear a1 a2
    go_wp2_with fail
    (with_reducible refine (same_c uR vR).mono ?_); rintro e w7 ⟨rfl, g7⟩
    have HI7 := Lib.hid (g7.blk HI6.out)
    have HS7 := Lib.hid (g7.blk HS6.out)
    have s0 := blk_cell HI7.out (j := 0) rfl
    have s1 := blk_cell HI7.out (j := 1) rfl
    have s2 := blk_cell HI7.out (j := 2) rfl
    have s3 := blk_cell HI7.out (j := 3) rfl
    have u0 := blk_cell HS7.out (j := 0) rfl
    have u1 := blk_cell HS7.out (j := 1) rfl
    have u2 := blk_cell HS7.out (j := 2) rfl
    have u3 := blk_cell HS7.out (j := 3) rfl
    go_wp2_with fail
    (with_reducible refine (sameTalk_t rs rd (uW.kept g7) (uL.kept g7) (vW.kept g7) (vL.kept g7)).mono ?_); rintro e w8 ⟨rfl, g8⟩
    have g68 := g7.trans g8
    have HT8 := Lib.hid (g68.blk HT6.out)
    have HI8 := Lib.hid (g68.blk HI6.out)
    have HS8 := Lib.hid (g68.blk HS6.out)
    have G8 := G6.trans g68
    have tW8 := tW.kept g68
    have tL8 := tL.kept g68
    have tB8 := tB.kept g68
    have uW8 := uW.kept g68
    have uL8 := uL.kept g68
    have uR8 := uR.kept g68
    have vW8 := vW.kept g68
    have vL8 := vL.kept g68
    have vR8 := vR.kept g68
    clear s0 s1 s2 s3 u0 u1 u2 u3
    clear tW tL tB uW uL uR vW vL vR g7 g8 g68 HI7 HS7 HT6 HI6 HS6 G6
    have t0 := blk_cell HT8.out (j := 0) rfl
    have s0 := blk_cell HI8.out (j := 0) rfl
    go_wp2
    go_ret
    exact ⟨rfl, G8⟩
  · have r1 : (rs == 1) = false := by rw [a1]; rfl
    have r2 : (rs == 2) = false := by rw [a1]; rfl
    have r4 : (rs == 4) = true := by rw [a1]; rfl
    have rl : ((rep.length : Int) == 0) = false := by rw [a2]; rfl
    have hl2 : 1 < rep.length := by rw [a2]; decide
    have hn2 : nth rep 1 = 255 := by rw [a2]; rfl
    have HL2 := Lib.hid hl2
    have HN2 := Lib.hid hn2
    clear a1 a2 hl2 hn2
    go_wp2_with fail
    (with_reducible refine (same_c uR vR).mono ?_); rintro e w7 ⟨rfl, g7⟩
    have HI7 := Lib.hid (g7.blk HI6.out)
    have HS7 := Lib.hid (g7.blk HS6.out)
    have s0 := blk_cell HI7.out (j := 0) rfl
    have s1 := blk_cell HI7.out (j := 1) rfl
    have s2 := blk_cell HI7.out (j := 2) rfl
    have s3 := blk_cell HI7.out (j := 3) rfl
    have u0 := blk_cell HS7.out (j := 0) rfl
    have u1 := blk_cell HS7.out (j := 1) rfl
    have u2 := blk_cell HS7.out (j := 2) rfl
    have u3 := blk_cell HS7.out (j := 3) rfl
    go_wp2_with fail
    (with_reducible refine (sameTalk_t rs rd (uW.kept g7) (uL.kept g7) (vW.kept g7) (vL.kept g7)).mono ?_); rintro e w8 ⟨rfl, g8⟩
    have g68 := g7.trans g8
    have HT8 := Lib.hid (g68.blk HT6.out)
    have HI8 := Lib.hid (g68.blk HI6.out)
    have HS8 := Lib.hid (g68.blk HS6.out)
    have G8 := G6.trans g68
    have tW8 := tW.kept g68
    have tL8 := tL.kept g68
    have tB8 := tB.kept g68
    have uW8 := uW.kept g68
    have uL8 := uL.kept g68
    have uR8 := uR.kept g68
    have vW8 := vW.kept g68
    have vL8 := vL.kept g68
    have vR8 := vR.kept g68
    clear s0 s1 s2 s3 u0 u1 u2 u3
    clear tW tL tB uW uL uR vW vL vR g7 g8 g68 HI7 HS7 HT6 HI6 HS6 G6
    have t0 := blk_cell HT8.out (j := 0) rfl
    have s0 := blk_cell HI8.out (j := 0) rfl
    obtain ⟨a1, i1, d1⟩ := IntS.ixN uR8 rfl 1 1 rfl HL2.out
    rw [HN2.out] at d1
    go_wp2
    go_ret
    exact ⟨rfl, G8⟩
theorem login_what {ls : List Lg} {xs : List Int} {rs : Int} {rep : List Int} {rd : Tx} (h : sayLogin ls xs = (rs, rep, rd)) : (∀ l n, loginFrom xs = some (l, n) → n ≠ xs.length → rs = 4 ∧ rep = []) ∧ (loginFrom xs = none → rs = 4 ∧ rep = []) ∧ (∀ l, loginFrom xs = some (l, xs.length) → rep = loginReply (loginFits ls l) ∧ rs = if loginFits ls l = true then 2 else 4) := by
  refine ⟨fun ms n e hn => ?_, fun e => ?_, fun ms e => ?_⟩
  · unfold sayLogin at h
    rw [e] at h
    simp only [] at h
    rw [if_neg hn] at h
    injection h with h1 h2
    injection h2 with h2 _
    exact ⟨h1.symm, h2.symm⟩
  · unfold sayLogin at h
    rw [e] at h
    injection h with h1 h2
    injection h2 with h2 _
    exact ⟨h1.symm, h2.symm⟩
  · unfold sayLogin at h
    rw [e] at h
    simp only [] at h
    first | rw [if_pos rfl] at h | skip
    injection h with h1 h2
    injection h2 with h2 _
    exact ⟨h2.symm, h1.symm⟩
set_option maxRecDepth 20000 in
set_option maxHeartbeats 4000000 in
theorem FnSayLogin_w {w : World} {v : Value} {bs : List Int} (hm : ML w) (he : ErrV w) (ht : Tab w) (h : ByteS w v bs) :
    Calls Tryz.prog 12 #[v] w fun e w' => e = .returned (.bool true) ∧ Gr w w' := by
  obtain ⟨p0, cap, rfl, _, _⟩ := h.form
  by_cases hx : bs.length ≤ 1048576
  rotate_left
  · have hx' : ¬ ((bs.length : Int) ≤ 1048576) := by omega
    go_enter Tryz.func12, Tryz.ntmps12
    go_wp2_with fail
    go_ret
    exact ⟨rfl, Gr.refl _⟩
  have hx' : ((bs.length : Int) ≤ 1048576) := by omega
  go_enter Tryz.func12, Tryz.ntmps12
  go_wp2_with fail
  (with_reducible refine (DrawTalkSay_c h).mono ?_); rintro e w1 ⟨p, q, x, c, f, k, st, ws, ls, d, b, rfl, hsm, hbl, iW, iL, iB, g1⟩
  obtain ⟨R, hR⟩ : ∃ R, sayR ⟨st, ws, ls, tx d⟩ b = R := ⟨_, rfl⟩
  obtain ⟨⟨rs, rws, rls, rdt⟩, rep, ok⟩ := R
  obtain ⟨rd, rfl⟩ : ∃ rd, rdt = tx rd := ⟨S rdt, (tx_S _).symm⟩
  obtain ⟨q1, q2, q3, q4⟩ := hsm
  have HR := Lib.hid hR
  have HLS := Lib.hid q3
  have gT := gr_alloc w1 (.cells #[.int .i64 st, .slice p ws.length c, .slice q ls.length f, .string d] 26)
  have hT := heap_alloc_new w1 (.cells #[.int .i64 st, .slice p ws.length c, .slice q ls.length f, .string d] 26)
  have HT := Lib.hid hT
  have G2 := g1.trans gT
  have jW := iW.kept gT
  have jL := iL.kept gT
  have jB := iB.kept gT
  clear hT iW iL iB hR q3 g1 gT
  go_upto_region 4 with fail
  generalize w1.alloc (.cells #[.int .i64 st, .slice p ws.length c, .slice q ls.length f, .string d] 26) = w2 at *
  have s0 := blk_cell HT.out (j := 0) rfl
  have s1 := blk_cell HT.out (j := 1) rfl
  have s2 := blk_cell HT.out (j := 2) rfl
  have s3 := blk_cell HT.out (j := 3) rfl
  go_wp2_with fail
  (with_reducible refine (implSay_x (hm.kept G2) (he.kept G2) (ht.kept G2) st d jW jL HLS.out (by omega) (by omega) (by omega) jB (by omega) HR).mono ?_); rintro e w3 ⟨p3, q3, x3, c3, f3, k3, rfl, oW, oL, oR, g3⟩
  have gI := gr_alloc w3 (.cells #[.int .i64 rs, .slice p3 rws.length c3, .slice q3 rls.length f3, .string rd] 26)
  have hI := heap_alloc_new w3 (.cells #[.int .i64 rs, .slice p3 rws.length c3, .slice q3 rls.length f3, .string rd] 26)
  have HI := Lib.hid hI
  have g34 := g3.trans gI
  have HT4 := Lib.hid (g34.blk HT.out)
  have G4 := G2.trans g34
  have kW := jW.kept g34
  have kL := jL.kept g34
  have kB := jB.kept g34
  have oW4 := oW.kept gI
  have oL4 := oL.kept gI
  have oR4 := oR.kept gI
  clear hI jW jL jB oW oL oR g3 gI g34 G2 HT s0 s1 s2 s3
  go_upto_region 5 with fail
  generalize w3.alloc (.cells #[.int .i64 rs, .slice p3 rws.length c3, .slice q3 rls.length f3, .string rd] 26) = w4 at *
  have s0 := blk_cell HT4.out (j := 0) rfl
  have s1 := blk_cell HT4.out (j := 1) rfl
  have s2 := blk_cell HT4.out (j := 2) rfl
  have s3 := blk_cell HT4.out (j := 3) rfl
  go_wp2_with fail
  (with_reducible refine (specSay_x st d kW kL HLS.out (by omega) (by omega) (by omega) kB (by omega) HR).mono ?_); rintro e w5 ⟨p5, q5, x5, c5, f5, k5, rfl, pW, pL, pR, g5⟩
  have gS := gr_alloc w5 (.cells #[.int .i64 rs, .slice p5 rws.length c5, .slice q5 rls.length f5, .string rd] 26)
  have hS := heap_alloc_new w5 (.cells #[.int .i64 rs, .slice p5 rws.length c5, .slice q5 rls.length f5, .string rd] 26)
  have HS6 := Lib.hid hS
  have g56 := g5.trans gS
  have HT6 := Lib.hid (g56.blk HT4.out)
  have HI6 := Lib.hid (g56.blk HI.out)
  have G6 := G4.trans g56
  have tW := kW.kept g56
  have tL := kL.kept g56
  have tB := kB.kept g56
  have uW := oW4.kept g56
  have uL := oL4.kept g56
  have uR := oR4.kept g56
  have vW := pW.kept gS
  have vL := pL.kept gS
  have vR := pR.kept gS
  clear hS kW kL kB oW4 oL4 oR4 pW pL pR g5 gS g56 G4 HT4 HI s0 s1 s2 s3
  go_upto_region 6 with fail
  generalize w5.alloc (.cells #[.int .i64 rs, .slice p5 rws.length c5, .slice q5 rls.length f5, .string rd] 26) = w6 at *
  cases ok
  · go_wp2_with fail
    (with_reducible refine (same_c uR vR).mono ?_); rintro e w7 ⟨rfl, g7⟩
    have HI7 := Lib.hid (g7.blk HI6.out)
    have HS7 := Lib.hid (g7.blk HS6.out)
    have s0 := blk_cell HI7.out (j := 0) rfl
    have s1 := blk_cell HI7.out (j := 1) rfl
    have s2 := blk_cell HI7.out (j := 2) rfl
    have s3 := blk_cell HI7.out (j := 3) rfl
    have u0 := blk_cell HS7.out (j := 0) rfl
    have u1 := blk_cell HS7.out (j := 1) rfl
    have u2 := blk_cell HS7.out (j := 2) rfl
    have u3 := blk_cell HS7.out (j := 3) rfl
    go_wp2_with fail
    (with_reducible refine (sameTalk_t rs rd (uW.kept g7) (uL.kept g7) (vW.kept g7) (vL.kept g7)).mono ?_); rintro e w8 ⟨rfl, g8⟩
    have g68 := g7.trans g8
    have HT8 := Lib.hid (g68.blk HT6.out)
    have HI8 := Lib.hid (g68.blk HI6.out)
    have HS8 := Lib.hid (g68.blk HS6.out)
    have G8 := G6.trans g68
    have tW8 := tW.kept g68
    have tL8 := tL.kept g68
    have tB8 := tB.kept g68
    have uW8 := uW.kept g68
    have uL8 := uL.kept g68
    have uR8 := uR.kept g68
    have vW8 := vW.kept g68
    have vL8 := vL.kept g68
    have vR8 := vR.kept g68
    clear s0 s1 s2 s3 u0 u1 u2 u3
    clear tW tL tB uW uL uR vW vL vR g7 g8 g68 HI7 HS7 HT6 HI6 HS6 G6
    go_wp2_with fail
    (with_reducible refine (same_c uR8 vR8).mono ?_); rintro e w9 ⟨rfl, g9⟩
    have HI9 := Lib.hid (g9.blk HI8.out)
    have HS9 := Lib.hid (g9.blk HS8.out)
    have s0 := blk_cell HI9.out (j := 0) rfl
    have s1 := blk_cell HI9.out (j := 1) rfl
    have s2 := blk_cell HI9.out (j := 2) rfl
    have s3 := blk_cell HI9.out (j := 3) rfl
    have u0 := blk_cell HS9.out (j := 0) rfl
    have u1 := blk_cell HS9.out (j := 1) rfl
    have u2 := blk_cell HS9.out (j := 2) rfl
    have u3 := blk_cell HS9.out (j := 3) rfl
    go_wp2_with fail
    (with_reducible refine (sameTalk_t rs rd (uW8.kept g9) (uL8.kept g9) (vW8.kept g9) (vL8.kept g9)).mono ?_); rintro e w10 ⟨rfl, g10⟩
    go_wp2
    go_ret
    exact ⟨rfl, (G8.trans g9).trans g10⟩
  obtain ⟨hk, hrw, hrl, hs⟩ := sayR_yes HR.out
  simp only [] at hrw hrl
  subst hrw hrl
  by_cases h0 : st = 1
  rotate_left
  · have h0' : (st != 1) = true := by simpa using h0
    clear hs hk HR h0
    go_wp2_with fail
    (with_reducible refine (same_c uR vR).mono ?_); rintro e w7 ⟨rfl, g7⟩
    have HI7 := Lib.hid (g7.blk HI6.out)
    have HS7 := Lib.hid (g7.blk HS6.out)
    have s0 := blk_cell HI7.out (j := 0) rfl
    have s1 := blk_cell HI7.out (j := 1) rfl
    have s2 := blk_cell HI7.out (j := 2) rfl
    have s3 := blk_cell HI7.out (j := 3) rfl
    have u0 := blk_cell HS7.out (j := 0) rfl
    have u1 := blk_cell HS7.out (j := 1) rfl
    have u2 := blk_cell HS7.out (j := 2) rfl
    have u3 := blk_cell HS7.out (j := 3) rfl
    go_wp2_with fail
    (with_reducible refine (sameTalk_t rs rd (uW.kept g7) (uL.kept g7) (vW.kept g7) (vL.kept g7)).mono ?_); rintro e w8 ⟨rfl, g8⟩
    have g68 := g7.trans g8
    have HT8 := Lib.hid (g68.blk HT6.out)
    have HI8 := Lib.hid (g68.blk HI6.out)
    have HS8 := Lib.hid (g68.blk HS6.out)
    have G8 := G6.trans g68
    have tW8 := tW.kept g68
    have tL8 := tL.kept g68
    have tB8 := tB.kept g68
    have uW8 := uW.kept g68
    have uL8 := uL.kept g68
    have uR8 := uR.kept g68
    have vW8 := vW.kept g68
    have vL8 := vL.kept g68
    have vR8 := vR.kept g68
    clear s0 s1 s2 s3 u0 u1 u2 u3
    clear tW tL tB uW uL uR vW vL vR g7 g8 g68 HI7 HS7 HT6 HI6 HS6 G6
    have s0 := blk_cell HT8.out (j := 0) rfl
    go_wp2_with fail
    (with_reducible refine (same_c uR8 vR8).mono ?_); rintro e w9 ⟨rfl, g9⟩
    have HI9 := Lib.hid (g9.blk HI8.out)
    have HS9 := Lib.hid (g9.blk HS8.out)
    have s0 := blk_cell HI9.out (j := 0) rfl
    have s1 := blk_cell HI9.out (j := 1) rfl
    have s2 := blk_cell HI9.out (j := 2) rfl
    have s3 := blk_cell HI9.out (j := 3) rfl
    have u0 := blk_cell HS9.out (j := 0) rfl
    have u1 := blk_cell HS9.out (j := 1) rfl
    have u2 := blk_cell HS9.out (j := 2) rfl
    have u3 := blk_cell HS9.out (j := 3) rfl
    go_wp2_with fail
    (with_reducible refine (sameTalk_t rs rd (uW8.kept g9) (uL8.kept g9) (vW8.kept g9) (vL8.kept g9)).mono ?_); rintro e w10 ⟨rfl, g10⟩
    go_wp2
    go_ret
    exact ⟨rfl, (G8.trans g9).trans g10⟩
  obtain ⟨W1, W2, W3⟩ := login_what ((say_login h0).symm.trans hs)
  have HW1 := Lib.hid W1
  have HW2 := Lib.hid W2
  have HW3 := Lib.hid W3
  have h0' : (st != 1) = false := by simpa using h0
  clear hs hk HR h0 W1 W2 W3
  go_wp2_with fail
  (with_reducible refine (same_c uR vR).mono ?_); rintro e w7 ⟨rfl, g7⟩
  have HI7 := Lib.hid (g7.blk HI6.out)
  have HS7 := Lib.hid (g7.blk HS6.out)
  have s0 := blk_cell HI7.out (j := 0) rfl
  have s1 := blk_cell HI7.out (j := 1) rfl
  have s2 := blk_cell HI7.out (j := 2) rfl
  have s3 := blk_cell HI7.out (j := 3) rfl
  have u0 := blk_cell HS7.out (j := 0) rfl
  have u1 := blk_cell HS7.out (j := 1) rfl
  have u2 := blk_cell HS7.out (j := 2) rfl
  have u3 := blk_cell HS7.out (j := 3) rfl
  go_wp2_with fail
  (with_reducible refine (sameTalk_t rs rd (uW.kept g7) (uL.kept g7) (vW.kept g7) (vL.kept g7)).mono ?_); rintro e w8 ⟨rfl, g8⟩
  have g68 := g7.trans g8
  have HT8 := Lib.hid (g68.blk HT6.out)
  have HI8 := Lib.hid (g68.blk HI6.out)
  have HS8 := Lib.hid (g68.blk HS6.out)
  have G8 := G6.trans g68
  have tW8 := tW.kept g68
  have tL8 := tL.kept g68
  have tB8 := tB.kept g68
  have uW8 := uW.kept g68
  have uL8 := uL.kept g68
  have uR8 := uR.kept g68
  have vW8 := vW.kept g68
  have vL8 := vL.kept g68
  have vR8 := vR.kept g68
  clear s0 s1 s2 s3 u0 u1 u2 u3
  clear tW tL tB uW uL uR vW vL vR g7 g8 g68 HI7 HS7 HT6 HI6 HS6 G6
  have t0 := blk_cell HT8.out (j := 0) rfl
  go_wp2_with fail
  (with_reducible refine (implLoginFrom_c tB8 (by omega)).mono ?_); rintro e w9' ⟨su, sv, n, okh, rfl, hcase, g9⟩
  have gC := gr_alloc w9' (.cells #[.string su, .string sv] 59)
  have hC := heap_alloc_new w9' (.cells #[.string su, .string sv] 59)
  have HC := Lib.hid hC
  have g9C := g9.trans gC
  have HI9 := Lib.hid (g9C.blk HI8.out)
  have HT9 := Lib.hid (g9C.blk HT8.out)
  clear t0 hC g9 gC
  go_upto_region 9 with fail
  generalize w9'.alloc (.cells #[.string su, .string sv] 59) = w9 at *
  rcases hcase with ⟨m, hm', rfl, rfl⟩ | ⟨hno, rfl⟩
  rotate_left
  · have hrs := HW2.out hno
    clear hno
    have e1 : (rs == 4) = true := by rw [hrs.1]; rfl
    have e2 : ((rep.length : Int) == 0) = true := by rw [hrs.2]; rfl
    have s0 := blk_cell HI9.out (j := 0) rfl
    clear hrs
    go_wp2
    go_ret
    exact ⟨rfl, G8.trans g9C⟩
  by_cases hlt : m = b.length
  rotate_left
  · have hlt' : ((m : Int) != (b.length : Int)) = true := by simp; omega
    have hrs := HW1.out _ _ hm' hlt
    clear hm' hlt
    have e1 : (rs == 4) = true := by rw [hrs.1]; rfl
    have e2 : ((rep.length : Int) == 0) = true := by rw [hrs.2]; rfl
    have s0 := blk_cell HI9.out (j := 0) rfl
    clear hrs
    go_wp2
    go_ret
    exact ⟨rfl, G8.trans g9C⟩
  have hlt' : ((m : Int) != (b.length : Int)) = false := by simp; omega
  subst hlt
  obtain ⟨hrep, hrs⟩ := HW3.out _ hm'
  obtain ⟨zu, zv⟩ := lgSz (loginFrom_sound hm').2.1
  have LF := Lib.hid (fun (W : World) (a : LgS W (.slice q rls.length f) rls) => implLoginFits_c a su sv zu zv)
  clear hm'
  generalize loginFits rls (tx su, tx sv) = ft at *
  have HREP := Lib.hid hrep
  have hfs : ((rs == 2) == ft) = true := by rw [hrs]; cases ft <;> rfl
  clear hrep hrs
  have s2 := blk_cell HT9.out (j := 2) rfl
  have u0 := blk_cell HC.out (j := 0) rfl
  have u1 := blk_cell HC.out (j := 1) rfl
  go_wp2_with fail
  (with_reducible refine (LF.out _ (tL8.kept g9C)).mono ?_); rintro e w10 ⟨rfl, g10⟩
  have HI10 := Lib.hid (g10.blk HI9.out)
  clear s2 u0 u1
  go_wp2_with fail
  (with_reducible refine (implLoginReply_c _ _).mono ?_); rintro e w11 ⟨v11, rfl, o11, g11⟩
  have o11' : IntS w11 v11 rep := by rw [HREP.out]; exact o11.s
  obtain ⟨p11, c11, rfl, _, _⟩ := o11'.form
  have g8b := (g9C.trans g10).trans g11
  go_wp2_with fail
  (with_reducible refine (same_c (uR8.kept g8b) o11').mono ?_); rintro e w12 ⟨rfl, g12⟩
  have HI12 := Lib.hid ((g11.trans g12).blk HI10.out)
  have s0 := blk_cell HI12.out (j := 0) rfl
  go_wp2
  go_ret
  exact ⟨rfl, (G8.trans g8b).trans g12⟩
set_option maxRecDepth 20000 in
set_option maxHeartbeats 4000000 in
theorem FnSayReply_w {w : World} {v : Value} {bs : List Int} (hm : ML w) (he : ErrV w) (ht : Tab w) (h : ByteS w v bs) :
    Calls Tryz.prog 15 #[v] w fun e w' => e = .returned (.bool true) ∧ Gr w w' := by
  obtain ⟨p0, cap, rfl, _, _⟩ := h.form
  by_cases hx : bs.length ≤ 1048576
  rotate_left
  · have hx' : ¬ ((bs.length : Int) ≤ 1048576) := by omega
    go_enter Tryz.func15, Tryz.ntmps15
    go_wp2_with fail
    go_ret
    exact ⟨rfl, Gr.refl _⟩
  have hx' : ((bs.length : Int) ≤ 1048576) := by omega
  go_enter Tryz.func15, Tryz.ntmps15
  go_wp2_with fail
  (with_reducible refine (DrawTalkSay_c h).mono ?_); rintro e w1 ⟨p, q, x, c, f, k, st, ws, ls, d, b, rfl, hsm, hbl, iW, iL, iB, g1⟩
  obtain ⟨R, hR⟩ : ∃ R, sayR ⟨st, ws, ls, tx d⟩ b = R := ⟨_, rfl⟩
  obtain ⟨⟨rs, rws, rls, rdt⟩, rep, ok⟩ := R
  obtain ⟨rd, rfl⟩ : ∃ rd, rdt = tx rd := ⟨S rdt, (tx_S _).symm⟩
  obtain ⟨q1, q2, q3, q4⟩ := hsm
  have HR := Lib.hid hR
  have HLS := Lib.hid q3
  have gT := gr_alloc w1 (.cells #[.int .i64 st, .slice p ws.length c, .slice q ls.length f, .string d] 26)
  have hT := heap_alloc_new w1 (.cells #[.int .i64 st, .slice p ws.length c, .slice q ls.length f, .string d] 26)
  have HT := Lib.hid hT
  have G2 := g1.trans gT
  have jW := iW.kept gT
  have jL := iL.kept gT
  have jB := iB.kept gT
  clear hT iW iL iB hR q3 g1 gT
  go_upto_region 4 with fail
  generalize w1.alloc (.cells #[.int .i64 st, .slice p ws.length c, .slice q ls.length f, .string d] 26) = w2 at *
  have s0 := blk_cell HT.out (j := 0) rfl
  have s1 := blk_cell HT.out (j := 1) rfl
  have s2 := blk_cell HT.out (j := 2) rfl
  have s3 := blk_cell HT.out (j := 3) rfl
  go_wp2_with fail
  (with_reducible refine (implSay_x (hm.kept G2) (he.kept G2) (ht.kept G2) st d jW jL HLS.out (by omega) (by omega) (by omega) jB (by omega) HR).mono ?_); rintro e w3 ⟨p3, q3, x3, c3, f3, k3, rfl, oW, oL, oR, g3⟩
  have gI := gr_alloc w3 (.cells #[.int .i64 rs, .slice p3 rws.length c3, .slice q3 rls.length f3, .string rd] 26)
  have hI := heap_alloc_new w3 (.cells #[.int .i64 rs, .slice p3 rws.length c3, .slice q3 rls.length f3, .string rd] 26)
  have HI := Lib.hid hI
  have g34 := g3.trans gI
  have HT4 := Lib.hid (g34.blk HT.out)
  have G4 := G2.trans g34
  have kW := jW.kept g34
  have kL := jL.kept g34
  have kB := jB.kept g34
  have oW4 := oW.kept gI
  have oL4 := oL.kept gI
  have oR4 := oR.kept gI
  clear hI jW jL jB oW oL oR g3 gI g34 G2 HT s0 s1 s2 s3
  go_upto_region 5 with fail
  generalize w3.alloc (.cells #[.int .i64 rs, .slice p3 rws.length c3, .slice q3 rls.length f3, .string rd] 26) = w4 at *
  have s0 := blk_cell HT4.out (j := 0) rfl
  have s1 := blk_cell HT4.out (j := 1) rfl
  have s2 := blk_cell HT4.out (j := 2) rfl
  have s3 := blk_cell HT4.out (j := 3) rfl
  go_wp2_with fail
  (with_reducible refine (specSay_x st d kW kL HLS.out (by omega) (by omega) (by omega) kB (by omega) HR).mono ?_); rintro e w5 ⟨p5, q5, x5, c5, f5, k5, rfl, pW, pL, pR, g5⟩
  have gS := gr_alloc w5 (.cells #[.int .i64 rs, .slice p5 rws.length c5, .slice q5 rls.length f5, .string rd] 26)
  have hS := heap_alloc_new w5 (.cells #[.int .i64 rs, .slice p5 rws.length c5, .slice q5 rls.length f5, .string rd] 26)
  have HS6 := Lib.hid hS
  have g56 := g5.trans gS
  have HT6 := Lib.hid (g56.blk HT4.out)
  have HI6 := Lib.hid (g56.blk HI.out)
  have G6 := G4.trans g56
  have tW := kW.kept g56
  have tL := kL.kept g56
  have tB := kB.kept g56
  have uW := oW4.kept g56
  have uL := oL4.kept g56
  have uR := oR4.kept g56
  have vW := pW.kept gS
  have vL := pL.kept gS
  have vR := pR.kept gS
  clear hS kW kL kB oW4 oL4 oR4 pW pL pR g5 gS g56 G4 HT4 HI s0 s1 s2 s3
  go_upto_region 6 with fail
  generalize w5.alloc (.cells #[.int .i64 rs, .slice p5 rws.length c5, .slice q5 rls.length f5, .string rd] 26) = w6 at *
  cases ok
  · go_wp2_with fail
    (with_reducible refine (same_c uR vR).mono ?_); rintro e w7 ⟨rfl, g7⟩
    have HI7 := Lib.hid (g7.blk HI6.out)
    have HS7 := Lib.hid (g7.blk HS6.out)
    have s0 := blk_cell HI7.out (j := 0) rfl
    have s1 := blk_cell HI7.out (j := 1) rfl
    have s2 := blk_cell HI7.out (j := 2) rfl
    have s3 := blk_cell HI7.out (j := 3) rfl
    have u0 := blk_cell HS7.out (j := 0) rfl
    have u1 := blk_cell HS7.out (j := 1) rfl
    have u2 := blk_cell HS7.out (j := 2) rfl
    have u3 := blk_cell HS7.out (j := 3) rfl
    go_wp2_with fail
    (with_reducible refine (sameTalk_t rs rd (uW.kept g7) (uL.kept g7) (vW.kept g7) (vL.kept g7)).mono ?_); rintro e w8 ⟨rfl, g8⟩
    have g68 := g7.trans g8
    have HT8 := Lib.hid (g68.blk HT6.out)
    have HI8 := Lib.hid (g68.blk HI6.out)
    have HS8 := Lib.hid (g68.blk HS6.out)
    have G8 := G6.trans g68
    have tW8 := tW.kept g68
    have tL8 := tL.kept g68
    have tB8 := tB.kept g68
    have uW8 := uW.kept g68
    have uL8 := uL.kept g68
    have uR8 := uR.kept g68
    have vW8 := vW.kept g68
    have vL8 := vL.kept g68
    have vR8 := vR.kept g68
    clear s0 s1 s2 s3 u0 u1 u2 u3
    clear tW tL tB uW uL uR vW vL vR g7 g8 g68 HI7 HS7 HT6 HI6 HS6 G6
    go_wp2_with fail
    (with_reducible refine (same_c uR8 vR8).mono ?_); rintro e w9 ⟨rfl, g9⟩
    have HI9 := Lib.hid (g9.blk HI8.out)
    have HS9 := Lib.hid (g9.blk HS8.out)
    have s0 := blk_cell HI9.out (j := 0) rfl
    have s1 := blk_cell HI9.out (j := 1) rfl
    have s2 := blk_cell HI9.out (j := 2) rfl
    have s3 := blk_cell HI9.out (j := 3) rfl
    have u0 := blk_cell HS9.out (j := 0) rfl
    have u1 := blk_cell HS9.out (j := 1) rfl
    have u2 := blk_cell HS9.out (j := 2) rfl
    have u3 := blk_cell HS9.out (j := 3) rfl
    go_wp2_with fail
    (with_reducible refine (sameTalk_t rs rd (uW8.kept g9) (uL8.kept g9) (vW8.kept g9) (vL8.kept g9)).mono ?_); rintro e w10 ⟨rfl, g10⟩
    go_wp2
    go_ret
    exact ⟨rfl, (G8.trans g9).trans g10⟩
  obtain ⟨hk, hrw, hrl, hs⟩ := sayR_yes HR.out
  simp only [] at hrw hrl
  subst hrw hrl
  by_cases h3 : rs = 3
  rotate_left
  · have h3' : (rs != 3) = true := by simpa using h3
    clear hs hk HR h3
    go_wp2_with fail
    (with_reducible refine (same_c uR vR).mono ?_); rintro e w7 ⟨rfl, g7⟩
    have HI7 := Lib.hid (g7.blk HI6.out)
    have HS7 := Lib.hid (g7.blk HS6.out)
    have s0 := blk_cell HI7.out (j := 0) rfl
    have s1 := blk_cell HI7.out (j := 1) rfl
    have s2 := blk_cell HI7.out (j := 2) rfl
    have s3 := blk_cell HI7.out (j := 3) rfl
    have u0 := blk_cell HS7.out (j := 0) rfl
    have u1 := blk_cell HS7.out (j := 1) rfl
    have u2 := blk_cell HS7.out (j := 2) rfl
    have u3 := blk_cell HS7.out (j := 3) rfl
    go_wp2_with fail
    (with_reducible refine (sameTalk_t rs rd (uW.kept g7) (uL.kept g7) (vW.kept g7) (vL.kept g7)).mono ?_); rintro e w8 ⟨rfl, g8⟩
    have g68 := g7.trans g8
    have HT8 := Lib.hid (g68.blk HT6.out)
    have HI8 := Lib.hid (g68.blk HI6.out)
    have HS8 := Lib.hid (g68.blk HS6.out)
    have G8 := G6.trans g68
    have tW8 := tW.kept g68
    have tL8 := tL.kept g68
    have tB8 := tB.kept g68
    have uW8 := uW.kept g68
    have uL8 := uL.kept g68
    have uR8 := uR.kept g68
    have vW8 := vW.kept g68
    have vL8 := vL.kept g68
    have vR8 := vR.kept g68
    clear s0 s1 s2 s3 u0 u1 u2 u3
    clear tW tL tB uW uL uR vW vL vR g7 g8 g68 HI7 HS7 HT6 HI6 HS6 G6
    have s0 := blk_cell HS8.out (j := 0) rfl
    go_wp2_with fail
    (with_reducible refine (same_c uR8 vR8).mono ?_); rintro e w9 ⟨rfl, g9⟩
    have HI9 := Lib.hid (g9.blk HI8.out)
    have HS9 := Lib.hid (g9.blk HS8.out)
    have s0 := blk_cell HI9.out (j := 0) rfl
    have s1 := blk_cell HI9.out (j := 1) rfl
    have s2 := blk_cell HI9.out (j := 2) rfl
    have s3 := blk_cell HI9.out (j := 3) rfl
    have u0 := blk_cell HS9.out (j := 0) rfl
    have u1 := blk_cell HS9.out (j := 1) rfl
    have u2 := blk_cell HS9.out (j := 2) rfl
    have u3 := blk_cell HS9.out (j := 3) rfl
    go_wp2_with fail
    (with_reducible refine (sameTalk_t rs rd (uW8.kept g9) (uL8.kept g9) (vW8.kept g9) (vL8.kept g9)).mono ?_); rintro e w10 ⟨rfl, g10⟩
    go_wp2
    go_ret
    exact ⟨rfl, (G8.trans g9).trans g10⟩
  obtain ⟨a, ha, e1, e2⟩ := say_open (t := ⟨st, rws, rls, tx d⟩) (xs := b) (by rw [hs]; exact h3)
  rw [hs] at e1 e2
  simp only [] at e1 e2
  obtain ⟨ka, qa, na', pa⟩ := a
  obtain ⟨na, rfl⟩ : ∃ na, na' = tx na := ⟨S na', (tx_S _).symm⟩
  have hA : AdrIs (tx rd) ka qa na pa true := .inl ⟨by rw [e1]; exact addrFrom_text ha, rfl⟩
  have HA := Lib.hid hA
  have hnl := adr_name_len ha
  simp only [tx_len] at hnl
  have HOK := Lib.hid ha
  have HREP := Lib.hid e2
  have h08 : Hid (inB 0 8 0 = true) := rfl
  have hdz : rd.size ≤ 26 := by
    have := addrText_len26 ha
    rw [← e1, tx_len] at this
    exact this
  have h3' : (rs != 3) = false := by simpa using h3
  clear hs hk HR h3 e1 e2 hA ha
  go_wp2_with fail
  (with_reducible refine (same_c uR vR).mono ?_); rintro e w7 ⟨rfl, g7⟩
  have HI7 := Lib.hid (g7.blk HI6.out)
  have HS7 := Lib.hid (g7.blk HS6.out)
  have s0 := blk_cell HI7.out (j := 0) rfl
  have s1 := blk_cell HI7.out (j := 1) rfl
  have s2 := blk_cell HI7.out (j := 2) rfl
  have s3 := blk_cell HI7.out (j := 3) rfl
  have u0 := blk_cell HS7.out (j := 0) rfl
  have u1 := blk_cell HS7.out (j := 1) rfl
  have u2 := blk_cell HS7.out (j := 2) rfl
  have u3 := blk_cell HS7.out (j := 3) rfl
  go_wp2_with fail
  (with_reducible refine (sameTalk_t rs rd (uW.kept g7) (uL.kept g7) (vW.kept g7) (vL.kept g7)).mono ?_); rintro e w8 ⟨rfl, g8⟩
  have g68 := g7.trans g8
  have HT8 := Lib.hid (g68.blk HT6.out)
  have HI8 := Lib.hid (g68.blk HI6.out)
  have HS8 := Lib.hid (g68.blk HS6.out)
  have G8 := G6.trans g68
  have tW8 := tW.kept g68
  have tL8 := tL.kept g68
  have tB8 := tB.kept g68
  have uW8 := uW.kept g68
  have uL8 := uL.kept g68
  have uR8 := uR.kept g68
  have vW8 := vW.kept g68
  have vL8 := vL.kept g68
  have vR8 := vR.kept g68
  clear s0 s1 s2 s3 u0 u1 u2 u3
  clear tW tL tB uW uL uR vW vL vR g7 g8 g68 HI7 HS7 HT6 HI6 HS6 G6
  have u0 := blk_cell HS8.out (j := 0) rfl
  have s3 := blk_cell HI8.out (j := 3) rfl
  go_wp2_with fail
  (with_reducible refine (implAddressFrom_c (hm.kept G8) (he.kept G8) (ht.kept G8) rd (by omega) HA).mono ?_); rintro e w9' ⟨qx, cx, rfl, ox, g9⟩
  have gC := gr_alloc w9' (.cells #[.int .i64 ka, .slice qx qa.length cx, .string na, .int .i64 pa] 65)
  have hC := heap_alloc_new w9' (.cells #[.int .i64 ka, .slice qx qa.length cx, .string na, .int .i64 pa] 65)
  have HC := Lib.hid hC
  have g9C := g9.trans gC
  have ox9 := ox.s.kept gC
  clear u0 s3 hC
  go_upto_region 9 with fail
  generalize w9'.alloc (.cells #[.int .i64 ka, .slice qx qa.length cx, .string na, .int .i64 pa] 65) = w9 at *
  have s0 := blk_cell HC.out (j := 0) rfl
  have s1 := blk_cell HC.out (j := 1) rfl
  have s2 := blk_cell HC.out (j := 2) rfl
  have s3 := blk_cell HC.out (j := 3) rfl
  go_wp2_with fail
  (with_reducible refine (implReply_t (hm.kept (G8.trans g9C)) 0 ka pa na ox9 (by omega) h08 HOK).mono ?_); rintro e w11 ⟨v11, rfl, o11, g11⟩
  have o11' : IntS w11 v11 rep := by rw [HREP.out]; exact o11.s
  obtain ⟨p11, c11, rfl, _, _⟩ := o11'.form
  go_wp2_with fail
  (with_reducible refine (same_c (uR8.kept (g9C.trans g11)) o11').mono ?_); rintro e w12 ⟨rfl, g12⟩
  go_wp2
  go_ret
  exact ⟨rfl, ((G8.trans g9C).trans g11).trans g12⟩
set_option maxRecDepth 20000 in
set_option maxHeartbeats 4000000 in
theorem FnTalkPart_w {w : World} {v : Value} {bs : List Int} (hm : ML w) (he : ErrV w) (ht : Tab w) (h : ByteS w v bs) :
    Calls Tryz.prog 3 #[v] w fun e w' => e = .returned (.bool true) ∧ Gr w w' := by
  obtain ⟨p0, cap, rfl, _, _⟩ := h.form
  by_cases hx : bs.length ≤ 1048576
  rotate_left
  · have hx' : ¬ ((bs.length : Int) ≤ 1048576) := by omega
    go_enter Tryz.func3, Tryz.ntmps3
    go_wp2_with fail
    go_ret
    exact ⟨rfl, Gr.refl _⟩
  have hx' : ((bs.length : Int) ≤ 1048576) := by omega
  go_enter Tryz.func3, Tryz.ntmps3
  go_wp2_with fail
  (with_reducible refine (DrawTalkValid_c h).mono ?_); rintro e w1 ⟨p, q, c, f, st, ws, ls, d, rfl, hsm, iW, iL, g1⟩
  obtain ⟨q1, q2, q3, q4⟩ := hsm
  have HLS := Lib.hid q3
  have gT := gr_alloc w1 (.cells #[.int .i64 st, .slice p ws.length c, .slice q ls.length f, .string d] 26)
  have hT := heap_alloc_new w1 (.cells #[.int .i64 st, .slice p ws.length c, .slice q ls.length f, .string d] 26)
  have HT := Lib.hid hT
  have G2 := g1.trans gT
  have jW := iW.kept gT
  have jL := iL.kept gT
  clear hT iW iL q3 g1 gT
  go_upto_region 4 with fail
  generalize w1.alloc (.cells #[.int .i64 st, .slice p ws.length c, .slice q ls.length f, .string d] 26) = w2 at *
  cases hk : talkOk ⟨st, ws, ls, tx d⟩
  · have HK := Lib.hid hk
    clear hk
    have s0 := blk_cell HT.out (j := 0) rfl
    have s1 := blk_cell HT.out (j := 1) rfl
    have s2 := blk_cell HT.out (j := 2) rfl
    have s3 := blk_cell HT.out (j := 3) rfl
    go_wp2_with fail
    (with_reducible refine (implTalkValid_c (hm.kept G2) (he.kept G2) (ht.kept G2) st d jW jL HLS.out (by omega)).mono ?_); rintro e w3 ⟨rfl, g3⟩
    rw [HK.out]
    have HT3 := Lib.hid (g3.blk HT.out)
    clear s0 s1 s2 s3
    have s0 := blk_cell HT3.out (j := 0) rfl
    have s1 := blk_cell HT3.out (j := 1) rfl
    have s2 := blk_cell HT3.out (j := 2) rfl
    have s3 := blk_cell HT3.out (j := 3) rfl
    go_wp2_with fail
    (with_reducible refine (specTalkValid_c st d (jW.kept g3) (jL.kept g3) HLS.out (by omega)).mono ?_); rintro e w4 ⟨rfl, g4⟩
    rw [HK.out]
    go_wp2
    go_ret
    exact ⟨rfl, (G2.trans g3).trans g4⟩
  have HK := Lib.hid hk
  have hto := talk_to hk
  have hno := talk_none ⟨st, ws, ls, tx d⟩
  simp only [] at hto hno
  have HTO : Hid (talkOk ⟨st, ws, ls, tx ⟨#[120, 58, 49]⟩⟩ = decide (st = 3)) := Lib.hid hto
  have HNO : Hid (talkOk ⟨st, [], ls, tx d⟩ = false) := Lib.hid hno
  have hs3 : decide (st = 3) = (st == 3) := by rw [Bool.eq_iff_iff]; simp
  rw [hs3] at HTO
  clear hk hto hno hs3
  have s0 := blk_cell HT.out (j := 0) rfl
  have s1 := blk_cell HT.out (j := 1) rfl
  have s2 := blk_cell HT.out (j := 2) rfl
  have s3 := blk_cell HT.out (j := 3) rfl
  go_wp2_with fail
  (with_reducible refine (implTalkValid_c (hm.kept G2) (he.kept G2) (ht.kept G2) st d jW jL HLS.out (by omega)).mono ?_); rintro e w3 ⟨rfl, g3⟩
  rw [HK.out]
  have HT3 := Lib.hid (g3.blk HT.out)
  clear s0 s1 s2 s3
  have s0 := blk_cell HT3.out (j := 0) rfl
  have s1 := blk_cell HT3.out (j := 1) rfl
  have s2 := blk_cell HT3.out (j := 2) rfl
  have s3 := blk_cell HT3.out (j := 3) rfl
  go_wp2_with fail
  (with_reducible refine (specTalkValid_c st d (jW.kept g3) (jL.kept g3) HLS.out (by omega)).mono ?_); rintro e w4 ⟨rfl, g4⟩
  rw [HK.out]
  have g24 := g3.trans g4
  have HT4 := Lib.hid (g4.blk HT3.out)
  clear s0 s1 s2 s3 HT3
  have s0 := blk_cell HT4.out (j := 0) rfl
  have s1 := blk_cell HT4.out (j := 1) rfl
  have s2 := blk_cell HT4.out (j := 2) rfl
  have s3 := blk_cell HT4.out (j := 3) rfl
  have gX := gr_alloc w4 (.cells #[.int .i64 st, .slice p ws.length c, .slice q ls.length f, .string d] 26)
  have hX := heap_alloc_new w4 (.cells #[.int .i64 st, .slice p ws.length c, .slice q ls.length f, .string d] 26)
  have HX5 := Lib.hid hX
  have HT5 := Lib.hid (gX.blk HT4.out)
  have hlt4 := (Array.getElem?_eq_some_iff.1 HT4.out).1
  have HLT4 := Lib.hid hlt4
  clear hX hlt4
  go_upto_region 9 with fail
  generalize w4.alloc (.cells #[.int .i64 st, .slice p ws.length c, .slice q ls.length f, .string d] 26) = w5 at *
  have x3 := blk_cell HX5.out (j := 3) rfl
  have f3 := blk_frozen HX5.out 3
  clear s0 s1 s2 s3
  go_upto_region 10 with fail
  have cS : Chg w4.heap.size (w4.heap.size + 1) w5 (w5.setCell ⟨w4.heap.size, 3, none⟩ (.string ⟨#[120, 58, 49]⟩)) := (Chg.refl _ _ w5).set (p := ⟨w4.heap.size, 3, none⟩) (Nat.le_refl _) (Nat.lt_succ_self _) _
  have hS6 := heap_set (j := 3) (x := .string ⟨#[120, 58, 49]⟩) HX5.out
  generalize w5.setCell ⟨w4.heap.size, 3, none⟩ (.string ⟨#[120, 58, 49]⟩) = w6 at *
  have HX6 : Hid (w6.heap[w4.heap.size]? = some (.cells #[.int .i64 st, .slice p ws.length c, .slice q ls.length f, .string ⟨#[120, 58, 49]⟩] 26 (0, 0))) := hS6
  have g46 : Gr w4 w6 := cS.gr gX (Nat.le_refl _)
  have HT6 := Lib.hid (g46.blk HT4.out)
  clear x3 f3 hS6 cS gX HX5 HT5
  have s0 := blk_cell HT6.out (j := 0) rfl
  have s1 := blk_cell HT6.out (j := 1) rfl
  have s2 := blk_cell HT6.out (j := 2) rfl
  have s3 := blk_cell HT6.out (j := 3) rfl
  have gY := gr_alloc w6 (.cells #[.int .i64 st, .slice p ws.length c, .slice q ls.length f, .string d] 26)
  have hY := heap_alloc_new w6 (.cells #[.int .i64 st, .slice p ws.length c, .slice q ls.length f, .string d] 26)
  have HY7 := Lib.hid hY
  clear hY
  go_upto_region 11 with fail
  generalize w6.alloc (.cells #[.int .i64 st, .slice p ws.length c, .slice q ls.length f, .string d] 26) = w7 at *
  have gE := gr_alloc w7 (.cells #[] 3)
  have oE := IntO.mt w7
  have HY8 := Lib.hid (gE.blk HY7.out)
  have hlt7 := (Array.getElem?_eq_some_iff.1 HY7.out).1
  have HLT7 := Lib.hid hlt7
  have g68 := gY.trans gE
  have x1 := blk_cell HY8.out (j := 1) rfl
  have f1 := blk_frozen HY8.out 1
  clear s0 s1 s2 s3 hlt7
  go_upto_region 12 with fail
  generalize w7.alloc (.cells #[] 3) = w8 at *
  have cS : Chg w6.heap.size (w6.heap.size + 1) w8 (w8.setCell ⟨w6.heap.size, 1, none⟩ (.slice (some ⟨w7.heap.size, 0, none⟩) 0 0)) := (Chg.refl _ _ w8).set (p := ⟨w6.heap.size, 1, none⟩) (Nat.le_refl _) (Nat.lt_succ_self _) _
  have hS9 := heap_set (j := 1) (x := .slice (some ⟨w7.heap.size, 0, none⟩) 0 0) HY8.out
  generalize w8.setCell ⟨w6.heap.size, 1, none⟩ (.slice (some ⟨w7.heap.size, 0, none⟩) 0 0) = w9 at *
  have HY9 : Hid (w9.heap[w6.heap.size]? = some (.cells #[.int .i64 st, .slice (some ⟨w7.heap.size, 0, none⟩) 0 0, .slice q ls.length f, .string d] 26 (0, 0))) := hS9
  have g69 : Gr w6 w9 := cS.gr g68 (Nat.le_refl _)
  have oE9 := (IntO.keptC oE cS HLT7.out).s
  have HX9 := Lib.hid (g69.blk HX6.out)
  have HT9 := Lib.hid (g69.blk HT6.out)
  have g29 := (g24.trans g46).trans g69
  have G9 := G2.trans g29
  have kW := jW.kept g29
  have kL := jL.kept g29
  clear x1 f1 hS9 cS oE HY8 HY7 g68 gY gE HX6 HT6
  have G9d := G9.drew
  have kWd := kW.kept ((Gr.refl w9).drew)
  have kLd := kL.kept ((Gr.refl w9).drew)
  have VX := Lib.hid (fun (W : World) (gg : Gr w9 W) => implTalkValid_c (hm.kept (G9.trans gg)) (he.kept (G9.trans gg)) (ht.kept (G9.trans gg)) st ⟨#[120, 58, 49]⟩ (kW.kept gg) (kL.kept gg) HLS.out (by decide))
  have VY := Lib.hid (fun (W : World) (gg : Gr w9 W) => implTalkValid_c (hm.kept (G9.trans gg)) (he.kept (G9.trans gg)) (ht.kept (G9.trans gg)) st d (oE9.kept gg) (kL.kept gg) HLS.out (by omega))
  rw [HTO.out] at VX
  rw [HNO.out] at VY
  generalize hb3 : (st == 3) = b3 at *
  have s0 : w9.cell? ⟨w4.heap.size, 0, none⟩ = some (.int .i64 st) := blk_cell HX9.out (j := 0) rfl
  have s1 : w9.cell? ⟨w4.heap.size, 1, none⟩ = some (.slice p ws.length c) := blk_cell HX9.out (j := 1) rfl
  have s2 : w9.cell? ⟨w4.heap.size, 2, none⟩ = some (.slice q ls.length f) := blk_cell HX9.out (j := 2) rfl
  have s3 : w9.cell? ⟨w4.heap.size, 3, none⟩ = some (.string ⟨#[120, 58, 49]⟩) := blk_cell HX9.out (j := 3) rfl
  have y0 : w9.cell? ⟨w6.heap.size, 0, none⟩ = some (.int .i64 st) := blk_cell HY9.out (j := 0) rfl
  have y1 : w9.cell? ⟨w6.heap.size, 1, none⟩ = some (.slice (some ⟨w7.heap.size, 0, none⟩) 0 0) := blk_cell HY9.out (j := 1) rfl
  have y2 : w9.cell? ⟨w6.heap.size, 2, none⟩ = some (.slice q ls.length f) := blk_cell HY9.out (j := 2) rfl
  have y3 : w9.cell? ⟨w6.heap.size, 3, none⟩ = some (.string d) := blk_cell HY9.out (j := 3) rfl
  have z0 : w9.cell? ⟨w1.heap.size, 0, none⟩ = some (.int .i64 st) := blk_cell HT9.out (j := 0) rfl
  go_cut [2] (fun u wx => u = .bool true ∧ Gr w9 wx)
  case first =>
    go_region_with (first
      | (go_at_call 17; (with_reducible refine (VX.out _ (by repeat (first | exact Gr.refl _ | refine Gr.drew ?_))).mono ?_); rintro e w10 ⟨rfl, g10'⟩; have g10 : Gr w9 w10 := Gr.trans (by repeat (first | exact Gr.refl _ | refine Gr.drew ?_)) g10'; have z0 := g10.cell z0; have y0 := g10.cell y0; have y1 := g10.cell y1; have y2 := g10.cell y2; have y3 := g10.cell y3)
      | (go_at_call 17; (with_reducible refine (VY.out _ g10).mono ?_); rintro e w11 ⟨rfl, g11'⟩; have g11 : Gr w9 w11 := g10.trans g11'))
    all_goals
      go_wp2_with fail
      go_meet
      exact ⟨rfl, g11⟩
  case rest =>
    obtain ⟨rfl, g11⟩ := hcut
    go_wp2
    go_ret
    exact ⟨rfl, G9.trans g11⟩
end Go.Proofs.YtpdjibfcbjknhaaGreatDoor
