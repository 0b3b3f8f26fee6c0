/- The walk of laws.FnExactTalkValid. -/
import Derived.Test.YtpdjibfcbjknhaaGreatDoorTvC
import Derived.Test.YtpdjibfcbjknhaaGreatDoorLgD
import Derived.Test.YtpdjibfcbjknhaaGreatDoorTkB
import Derived.Deep.RegionHeld3
namespace Go.Proofs.YtpdjibfcbjknhaaGreatDoor
open Go.RowKit
theorem LgSm.of {ls : List Lg} (h : cntL ls ≤ 1048576) : LgSm ls := by
  intro k hk
  have h1 := cntL_step hk
  have h2 := cntL_app (ls.take (k+1)) (ls.drop (k+1))
  rw [List.take_append_drop] at h2
  omega
set_option maxRecDepth 20000 in
set_option maxHeartbeats 8000000 in
theorem FnExactTalkValid_w {w : World} {p q : Option Addr} {c f : Nat} {ws : List Int} {ls : List Lg} (st : Int) (d : ByteArray) (hm : ML w) (he : ErrV w) (ht : Tab w) (h : IntS w (.slice p ws.length c) ws) (hl : LgS w (.slice q ls.length f) ls) (hs : LgBig ls) (hn : ws.length ≤ 9223372036854775807) (hd : d.size ≤ 9223372036854775807) :
    Calls Tryz.prog 5 #[.agg #[.int .i64 st, .slice p ws.length c, .slice q ls.length f, .string d]] w fun e w' => e = .returned (.bool true) ∧ Gr w w' := by
  have g0 := gr_alloc w (.cells #[.int .i64 st, .slice p ws.length c, .slice q ls.length f, .string d] 44)
  have HA0 := Lib.hid (heap_alloc_new w (.cells #[.int .i64 st, .slice p ws.length c, .slice q ls.length f, .string d] 44))
  go_enter Tryz.func5, Tryz.ntmps5
  go_wp2_with fail
  (with_reducible refine (szTalk_c st d (hl.kept g0) hs hn hd).mono ?_); rintro e w1 ⟨r, rfl, hr, g1⟩
  have G1 := g0.trans g1
  rcases hr with rfl | ⟨hr0, hr1⟩
  · go_wp2
    go_ret
    exact ⟨rfl, G1⟩
  have hb : ws.length ≤ 1000000000000 := by omega
  have hb' : ls.length ≤ 1048576 := by omega
  have hsm : LgSm ls := LgSm.of (by omega)
  have hd' : d.size ≤ 2000000 := by omega
  clear hr1 hs hn hd
  have HA1 := Lib.hid (g1.blk HA0.out)
  clear g0 g1 HA0
  have a0 := blk_cell HA1.out (j := 0) rfl
  have a1 := blk_cell HA1.out (j := 1) rfl
  have a2 := blk_cell HA1.out (j := 2) rfl
  have a3 := blk_cell HA1.out (j := 3) rfl
  go_wp2_with fail
  (with_reducible refine (toTalk_c st d (h.kept G1) (hl.kept G1) hb hb').mono ?_); rintro e w2 ⟨q2, c2, r2, f2, rfl, i2, l2, g2⟩
  go_wp2_with fail
  (with_reducible refine (specTalkValid_c st d i2 l2 hsm hd').mono ?_); rintro e w3 ⟨rfl, g3⟩
  have G3 := (G1.trans g2).trans g3
  have HA3 := Lib.hid ((g2.trans g3).blk HA1.out)
  clear a0 a1 a2 a3 g2 g3 i2 l2 G1 HA1
  have a0 := blk_cell HA3.out (j := 0) rfl
  have a1 := blk_cell HA3.out (j := 1) rfl
  have a2 := blk_cell HA3.out (j := 2) rfl
  have a3 := blk_cell HA3.out (j := 3) rfl
  go_wp2_with fail
  (with_reducible refine (toTalk_c st d (h.kept G3) (hl.kept G3) hb hb').mono ?_); rintro e w4 ⟨q4, c4, r4, f4, rfl, i4, l4, g4⟩
  have gal := gr_alloc w4 (.cells #[.int .i64 st, .slice q4 ws.length c4, .slice r4 ls.length f4, .string d] 26)
  have HN := Lib.hid (heap_alloc_new w4 (.cells #[.int .i64 st, .slice q4 ws.length c4, .slice r4 ls.length f4, .string d] 26))
  have G4 := G3.trans (g4.trans gal)
  have HA4 := Lib.hid ((g4.trans gal).blk HA3.out)
  clear a0 a1 a2 a3 G3 HA3
  go_wp2_with fail
  (with_reducible refine (implTalkValid_c (hm.kept G4) (he.kept G4) (ht.kept G4) st d (i4.kept gal) (l4.kept gal) hsm hd').mono ?_); rintro e w5 ⟨rfl, g5⟩
  have G5 := G4.trans g5
  have HA5 := Lib.hid (g5.blk HA4.out)
  have HN5 := Lib.hid (g5.blk HN.out)
  have i5 := i4.kept (gal.trans g5)
  have l5 := l4.kept (gal.trans g5)
  have h5 := h.kept G5
  have hl5 := hl.kept G5
  clear hm he ht h hl g4 gal HN G4 HA4 g5 i4 l4
  generalize talkOk ⟨st, ws, ls, tx d⟩ = b at *
  go_upto_region 10 with fail
  have a0 : w5.cell? ⟨w.heap.size, 0, none⟩ = some (.int .i64 st) := blk_cell HA5.out (j := 0) rfl
  have a1 : w5.cell? ⟨w.heap.size, 1, none⟩ = some (.slice p ws.length c) := blk_cell HA5.out (j := 1) rfl
  have a2 : w5.cell? ⟨w.heap.size, 2, none⟩ = some (.slice q ls.length f) := blk_cell HA5.out (j := 2) rfl
  have a3 : w5.cell? ⟨w.heap.size, 3, none⟩ = some (.string d) := blk_cell HA5.out (j := 3) rfl
  have x0 : w5.cell? ⟨w4.heap.size, 0, none⟩ = some (.int .i64 st) := blk_cell HN5.out (j := 0) rfl
  have x1 : w5.cell? ⟨w4.heap.size, 1, none⟩ = some (.slice q4 ws.length c4) := blk_cell HN5.out (j := 1) rfl
  have x2 : w5.cell? ⟨w4.heap.size, 2, none⟩ = some (.slice r4 ls.length f4) := blk_cell HN5.out (j := 2) rfl
  have x3 : w5.cell? ⟨w4.heap.size, 3, none⟩ = some (.string d) := blk_cell HN5.out (j := 3) rfl
  have KS := Lib.hid (fun (W : World) (g : Gr w5 W) => And.intro (g.cell a0) (And.intro (g.cell a1) (And.intro (g.cell a2) (And.intro (g.cell a3) (And.intro (g.cell x0) (And.intro (g.cell x1) (And.intro (g.cell x2) (g.cell x3))))))))
  go_region_held3 (fun w' => w'.cell? ⟨w.heap.size, 0, none⟩ = some (.int .i64 st) ∧ w'.cell? ⟨w.heap.size, 1, none⟩ = some (.slice p ws.length c) ∧ w'.cell? ⟨w.heap.size, 2, none⟩ = some (.slice q ls.length f) ∧ w'.cell? ⟨w.heap.size, 3, none⟩ = some (.string d) ∧ w'.cell? ⟨w4.heap.size, 0, none⟩ = some (.int .i64 st) ∧ w'.cell? ⟨w4.heap.size, 1, none⟩ = some (.slice q4 ws.length c4) ∧ w'.cell? ⟨w4.heap.size, 2, none⟩ = some (.slice r4 ls.length f4) ∧ w'.cell? ⟨w4.heap.size, 3, none⟩ = some (.string d)) (first
    | (with_reducible exact KS.out _ g7)
    | (with_reducible exact KS.out _ g6)
    | (with_reducible exact KS.out _ ((Gr.refl _).drew))
    | go_keep) (first
    | (go_at_call 32; (with_reducible refine (toTalk_c st d (h5.kept ((Gr.refl _).drew)) (hl5.kept ((Gr.refl _).drew)) hb hb').mono ?_); rintro e w6 ⟨q6, c6, r6, f6, rfl, i6, l6, g6'⟩; have g6 : Gr w5 w6 := g6'.undrew)
    | (go_at_call 24; (with_reducible refine (eqTalk_c st d (i5.kept g6) (l5.kept g6) i6 l6).mono ?_); rintro e w7 ⟨rfl, g7'⟩; have g7 : Gr w5 w7 := g6.trans g7')
    | fail)
  go_wp2
  go_ret
  exact ⟨rfl, G5.trans g7⟩
end Go.Proofs.YtpdjibfcbjknhaaGreatDoor
