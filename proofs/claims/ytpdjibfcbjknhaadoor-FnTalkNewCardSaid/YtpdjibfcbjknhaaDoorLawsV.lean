/- A new talk waits for methods. -/
import Derived.Test.YtpdjibfcbjknhaaDoorDrawV
import Derived.Test.YtpdjibfcbjknhaaDoorTkF
namespace Go.Proofs.YtpdjibfcbjknhaaDoor
open Go.RowKit
set_option maxRecDepth 20000 in
set_option maxHeartbeats 4000000 in
theorem FnTalkNew_w {w : World} {v : Value} {bs : List Int} (hm : ML w) (he : ErrV w) (ht : Tab w) (h : ByteS w v bs) :
    Calls Tryd.prog 3 #[v] w fun e w' => e = .returned (.bool true) ∧ Gr w w' := by
  obtain ⟨p0, cap, rfl, _, _⟩ := h.form
  by_cases hx : bs.length ≤ 1048576
  rotate_left
  · have hx' : ¬ ((bs.length : Int) ≤ 1048576) := by omega
    go_enter Tryd.func3, Tryd.ntmps3
    go_wp2_with fail
    go_ret
    exact ⟨rfl, Gr.refl _⟩
  have hx' : ((bs.length : Int) ≤ 1048576) := by omega
  go_enter Tryd.func3, Tryd.ntmps3
  go_wp2_with fail
  (with_reducible refine (DrawTalkNew_c h).mono ?_); rintro e w1 ⟨p, q, c, d, ws, ls, rfl, hwl, hll, hsm, iW, iL, g1⟩
  have HLS := Lib.hid hsm
  clear hsm
  go_wp2_with fail
  (with_reducible refine (implTalkNew_c (hm.kept g1) (he.kept g1) (ht.kept g1) iW iL HLS.out (by omega) (by omega)).mono ?_); rintro e w2 ⟨p2, q2, c2, d2, us, ms, ok, rfl, hcase, o2, l2, g2⟩
  have gI := gr_alloc w2 (.cells #[.int .i64 0, .slice p2 us.length c2, .slice q2 ms.length d2, .string ⟨#[]⟩] 28)
  have hI := heap_alloc_new w2 (.cells #[.int .i64 0, .slice p2 us.length c2, .slice q2 ms.length d2, .string ⟨#[]⟩] 28)
  have HI := Lib.hid hI
  have g23 := g2.trans gI
  have jW := iW.kept g23
  have jL := iL.kept g23
  have uW := o2.s.kept gI
  have uL := l2.s.kept gI
  have G3 := g1.trans g23
  clear hI g2 gI o2 l2 iW iL
  go_upto_region 5 with fail
  generalize w2.alloc (.cells #[.int .i64 0, .slice p2 us.length c2, .slice q2 ms.length d2, .string ⟨#[]⟩] 28) = w3 at *
  go_wp2_with fail
  (with_reducible refine (specTalkNew_c jW jL HLS.out (by omega) (by omega)).mono ?_); rintro e w4 ⟨p4, q4, c4, d4, us', ms', ok', rfl, hcase', o4, l4, g4⟩
  have e3 : us' = us ∧ ms' = ms ∧ ok' = ok := by
    rcases hcase with ⟨k1, rfl, rfl, rfl⟩ | ⟨k1, rfl, rfl, rfl⟩ <;> rcases hcase' with ⟨k2, rfl, rfl, rfl⟩ | ⟨k2, rfl, rfl, rfl⟩
    · exact ⟨rfl, rfl, rfl⟩
    · rw [k1] at k2; cases k2
    · rw [k1] at k2; cases k2
    · exact ⟨rfl, rfl, rfl⟩
  obtain ⟨rfl, rfl, rfl⟩ := e3
  have gS := gr_alloc w4 (.cells #[.int .i64 0, .slice p4 us'.length c4, .slice q4 ms'.length d4, .string ⟨#[]⟩] 28)
  have hS := heap_alloc_new w4 (.cells #[.int .i64 0, .slice p4 us'.length c4, .slice q4 ms'.length d4, .string ⟨#[]⟩] 28)
  have HS := Lib.hid hS
  have g35 := g4.trans gS
  have HI5 := Lib.hid (g35.blk HI.out)
  have kW := jW.kept g35
  have kL := jL.kept g35
  have uW5 := uW.kept g35
  have uL5 := uL.kept g35
  have vW5 := o4.s.kept gS
  have vL5 := l4.s.kept gS
  have G5 := G3.trans g35
  clear hS g4 gS o4 l4 jW jL uW uL HI hcase'
  go_upto_region 6 with fail
  generalize w4.alloc (.cells #[.int .i64 0, .slice p4 us'.length c4, .slice q4 ms'.length d4, .string ⟨#[]⟩] 28) = w5 at *
  have u0 := blk_cell HS.out (j := 0) rfl
  have u1 := blk_cell HS.out (j := 1) rfl
  have u2 := blk_cell HS.out (j := 2) rfl
  have u3 := blk_cell HS.out (j := 3) rfl
  have s0 := blk_cell HI5.out (j := 0) rfl
  have s1 := blk_cell HI5.out (j := 1) rfl
  have s2 := blk_cell HI5.out (j := 2) rfl
  have s3 := blk_cell HI5.out (j := 3) rfl
  rcases hcase with ⟨k1, rfl, rfl, rfl⟩ | ⟨k1, rfl, rfl, rfl⟩
  rotate_left
  · clear k1
    have a1 : IntS w5 (.slice p2 0 c2) [] := uW5
    have a2 : LgS w5 (.slice q2 0 d2) [] := uL5
    have a3 : IntS w5 (.slice p4 0 c4) [] := vW5
    have a4 : LgS w5 (.slice q4 0 d4) [] := vL5
    go_wp2_with fail
    (with_reducible refine (sameTalk_t 0 ⟨#[]⟩ a1 a2 a3 a4).mono ?_); rintro e w6 ⟨rfl, g6⟩
    have HS6 := Lib.hid (g6.blk HS.out)
    have HI6 := Lib.hid (g6.blk HI5.out)
    clear s0 s1 s2 s3 u0 u1 u2 u3
    have u0 := blk_cell HS6.out (j := 0) rfl
    have u1 := blk_cell HS6.out (j := 1) rfl
    have u2 := blk_cell HS6.out (j := 2) rfl
    have u3 := blk_cell HS6.out (j := 3) rfl
    have s0 := blk_cell HI6.out (j := 0) rfl
    have s1 := blk_cell HI6.out (j := 1) rfl
    have s2 := blk_cell HI6.out (j := 2) rfl
    have s3 := blk_cell HI6.out (j := 3) rfl
    go_wp2_with fail
    (with_reducible refine (sameTalk_t 0 ⟨#[]⟩ (a1.kept g6) (a2.kept g6) (a3.kept g6) (a4.kept g6)).mono ?_); rintro e w7 ⟨rfl, g7⟩
    go_wp2
    go_ret
    exact ⟨rfl, (G5.trans g6).trans g7⟩
  have HK : Hid (talkOk ⟨0, us', ms', tx ⟨#[]⟩⟩ = true) := Lib.hid ((talkOk_new us' ms').trans k1)
  clear k1
  go_wp2_with fail
  (with_reducible refine (sameTalk_t 0 ⟨#[]⟩ uW5 uL5 vW5 vL5).mono ?_); rintro e w6 ⟨rfl, g6⟩
  have HI6 := Lib.hid (g6.blk HI5.out)
  have G6 := G5.trans g6
  clear s0 s1 s2 s3 u0 u1 u2 u3
  have s0 := blk_cell HI6.out (j := 0) rfl
  have s1 := blk_cell HI6.out (j := 1) rfl
  have s2 := blk_cell HI6.out (j := 2) rfl
  have s3 := blk_cell HI6.out (j := 3) rfl
  go_wp2_with fail
  (with_reducible refine (implTalkValid_c (hm.kept G6) (he.kept G6) (ht.kept G6) 0 ⟨#[]⟩ (uW5.kept g6) (uL5.kept g6) HLS.out (by decide)).mono ?_); rintro e w7 ⟨rfl, g7⟩
  rw [HK.out]
  have HI7 := Lib.hid (g7.blk HI6.out)
  have g57 := g6.trans g7
  clear s0 s1 s2 s3
  have s0 := blk_cell HI7.out (j := 0) rfl
  have s1 := blk_cell HI7.out (j := 1) rfl
  have s2 := blk_cell HI7.out (j := 2) rfl
  have s3 := blk_cell HI7.out (j := 3) rfl
  go_wp2_with fail
  (with_reducible refine (same_c (uW5.kept g57) (kW.kept g57)).mono ?_); rintro e w8 ⟨rfl, g8⟩
  have HI8 := Lib.hid (g8.blk HI7.out)
  have g58 := g57.trans g8
  clear s0 s1 s2 s3
  have s0 := blk_cell HI8.out (j := 0) rfl
  have s1 := blk_cell HI8.out (j := 1) rfl
  have s2 := blk_cell HI8.out (j := 2) rfl
  have s3 := blk_cell HI8.out (j := 3) rfl
  go_wp2_with fail
  (with_reducible refine (sameLogins_t (uL5.kept g58) (kL.kept g58)).mono ?_); rintro e w9 ⟨rfl, g9⟩
  have HI9 := Lib.hid (g9.blk HI8.out)
  clear s0 s1 s2 s3
  have s3 := blk_cell HI9.out (j := 3) rfl
  go_wp2
  go_ret
  exact ⟨rfl, (G5.trans g58).trans g9⟩
end Go.Proofs.YtpdjibfcbjknhaaDoor
