/- The walk of laws.FnExactTalkNew. -/
import Derived.Test.YtgigjgjpglmpoaaGreatDoorTnD
import Derived.Deep.RegionHeld3
namespace Go.Proofs.YtgigjgjpglmpoaaGreatDoor
open Go.RowKit
/-- What TalkNew hands back is fixed by its arguments. -/
theorem tn_same {ws us us' : List Int} {ls ms ms' : List Lg} {ok ok' : Bool} (h : (setOk ws ls = true ∧ us = ws ∧ ms = ls ∧ ok = true) ∨ (setOk ws ls = false ∧ us = [] ∧ ms = [] ∧ ok = false))
    (h' : (setOk ws ls = true ∧ us' = ws ∧ ms' = ls ∧ ok' = true) ∨ (setOk ws ls = false ∧ us' = [] ∧ ms' = [] ∧ ok' = false)) : us = us' ∧ ms = ms' ∧ ok = ok' := by
  rcases h with ⟨a, rfl, rfl, rfl⟩ | ⟨a, rfl, rfl, rfl⟩ <;> rcases h' with ⟨b, rfl, rfl, rfl⟩ | ⟨b, rfl, rfl, rfl⟩
  · exact ⟨rfl, rfl, rfl⟩
  · rw [a] at b; cases b
  · rw [a] at b; cases b
  · exact ⟨rfl, rfl, rfl⟩
theorem tn_len {ws us : List Int} {ls ms : List Lg} {ok : Bool} (h : (setOk ws ls = true ∧ us = ws ∧ ms = ls ∧ ok = true) ∨ (setOk ws ls = false ∧ us = [] ∧ ms = [] ∧ ok = false)) : us.length ≤ ws.length ∧ ms.length ≤ ls.length := by
  rcases h with ⟨_, rfl, rfl, _⟩ | ⟨_, rfl, rfl, _⟩
  · exact ⟨Nat.le_refl _, Nat.le_refl _⟩
  · exact ⟨Nat.zero_le _, Nat.zero_le _⟩
set_option maxRecDepth 20000 in
set_option maxHeartbeats 8000000 in
theorem FnExactTalkNew_w {w : World} {p q : Option Addr} {c f : Nat} {ws : List Int} {ls : List Lg} (hm : ML w) (he : ErrV w) (ht : Tab w) (h : IntS w (.slice p ws.length c) ws) (hl : LgS w (.slice q ls.length f) ls) (hs : LgBig ls) :
    Calls Tryz.prog 3 #[.slice p ws.length c, .slice q ls.length f] w fun e w' => e = .returned (.bool true) ∧ Gr w w' := by
  by_cases hx : ws.length ≤ 1048576
  rotate_left
  · have hx' : ¬ ((ws.length : Int) ≤ 1048576) := by omega
    go_enter Tryz.func3, Tryz.ntmps3
    go_wp2_with fail
    go_ret
    exact ⟨rfl, Gr.refl _⟩
  have hx' : ((ws.length : Int) ≤ 1048576) := by omega
  have hx8 : ws.length ≤ 1000000000000 := by omega
  have hx2 : ws.length ≤ 2000000 := by omega
  go_enter Tryz.func3, Tryz.ntmps3
  go_wp2_with fail
  (with_reducible refine (szLoginS_c hl hs 1048576 (by omega) (by omega)).mono ?_); rintro e w1 ⟨r, rfl, hr, g1⟩
  rcases hr with rfl | ⟨hr0, hr1⟩
  · go_wp2
    go_ret
    exact ⟨rfl, g1⟩
  have hsm : LgSm ls := LgSm.of (by omega)
  have hl8 : ls.length ≤ 1048576 := by omega
  have hl2 : ls.length ≤ 2000000 := by omega
  clear hr1 hs
  have h1 := h.kept g1
  have hl1 := hl.kept g1
  go_wp2_with fail
  (with_reducible refine (toIntS_c h1 hx8).mono ?_); rintro e w2 ⟨v2, rfl, o2, g2⟩
  obtain ⟨p2, c2, rfl⟩ := o2.len
  go_wp2_with fail
  (with_reducible refine (toLoginS_c (hl1.kept g2) hl8).mono ?_); rintro e w3 ⟨v3, rfl, o3, g3⟩
  obtain ⟨p3, c3, rfl⟩ := o3.len
  go_wp2_with fail
  (with_reducible refine (specTalkNew_c (o2.s.kept g3) o3.s hsm hx2 hl2).mono ?_); rintro e w3a ⟨p4, q4, c4, d4, us, ms, ok, rfl, hok, a4, b4, g4⟩
  have gal := gr_alloc w3a (.cells #[.int .i64 0, .slice p4 us.length c4, .slice q4 ms.length d4, .string ⟨#[]⟩] 27)
  have HA4 := Lib.hid (heap_alloc_new w3a (.cells #[.int .i64 0, .slice p4 us.length c4, .slice q4 ms.length d4, .string ⟨#[]⟩] 27))
  have G4 := (((g1.trans g2).trans g3).trans g4).trans gal
  have A4 := a4.s.kept gal
  have B4 := b4.s.kept gal
  have HOK := Lib.hid hok
  obtain ⟨hu, hmm⟩ := tn_len hok
  replace hu : us.length ≤ 1048576 := by omega
  replace hmm : ms.length ≤ 1048576 := by omega
  clear hok o2 o3 a4 b4 g1 g2 g3 g4 h1 hl1 gal
  go_upto_region 8 with fail
  generalize w3a.alloc (.cells #[.int .i64 0, .slice p4 us.length c4, .slice q4 ms.length d4, .string ⟨#[]⟩] 27) = w4 at *
  have h4 := h.kept G4
  have hl4 := hl.kept G4
  go_wp2_with fail
  (with_reducible refine (toIntS_c h4 hx8).mono ?_); rintro e w5 ⟨v5, rfl, o5, g5⟩
  obtain ⟨p5, c5, rfl⟩ := o5.len
  go_wp2_with fail
  (with_reducible refine (toLoginS_c (hl4.kept g5) hl8).mono ?_); rintro e w6 ⟨v6, rfl, o6, g6⟩
  obtain ⟨p6, c6, rfl⟩ := o6.len
  have K6 := g5.trans g6
  have G6 := G4.trans K6
  have x5 := o5.b.kept g6
  have HB6 := Lib.hid (Own.blk o6)
  go_wp2_with fail
  (with_reducible refine (implTalkNew_c (hm.kept G6) (he.kept G6) (ht.kept G6) x5.s o6.s hsm hx2 hl2).mono ?_); rintro e w6a ⟨p7, q7, c7, d7, us', ms', ok', rfl, hok', a7, b7, g7⟩
  obtain ⟨rfl, rfl, rfl⟩ := tn_same HOK.out hok'
  have gal := gr_alloc w6a (.cells #[.int .i64 0, .slice p7 us.length c7, .slice q7 ms.length d7, .string ⟨#[]⟩] 27)
  have HX7 := Lib.hid (heap_alloc_new w6a (.cells #[.int .i64 0, .slice p7 us.length c7, .slice q7 ms.length d7, .string ⟨#[]⟩] 27))
  have HU := Lib.hid (Own.blk a7)
  have HV := Lib.hid (Own.blk b7)
  have z5 := g5.sz
  have z6 := g6.sz
  have z7 := g7.sz
  have zx : w6a.heap.size < (w6a.alloc (.cells #[.int .i64 0, .slice p7 us.length c7, .slice q7 ms.length d7, .string ⟨#[]⟩] 27)).heap.size := by simp
  replace g7 := g7.trans gal
  have K7 := K6.trans g7
  replace x5 := x5.kept g7
  replace o6 := LgO.kept o6 g7
  replace a7 := IntO.kept a7 gal
  replace b7 := LgO.kept b7 gal
  have HA7 := Lib.hid (K7.blk HA4.out)
  clear hok' o5 g5 g6 g7 K6 G6 gal
  go_upto_region 11 with fail
  generalize w6a.alloc (.cells #[.int .i64 0, .slice p7 us.length c7, .slice q7 ms.length d7, .string ⟨#[]⟩] 27) = w7 at *
  have s0 := blk_cell HA7.out (j := 0) rfl
  have s1 := blk_cell HA7.out (j := 1) rfl
  have s2 := blk_cell HA7.out (j := 2) rfl
  have s3 := blk_cell HA7.out (j := 3) rfl
  have t0 := blk_cell HX7.out (j := 0) rfl
  have t1 := blk_cell HX7.out (j := 1) rfl
  have t2 := blk_cell HX7.out (j := 2) rfl
  have t3 := blk_cell HX7.out (j := 3) rfl
  go_wp2_with fail
  (with_reducible refine (eqTalk_c 0 ⟨#[]⟩ a7.s b7.s (A4.kept K7) (B4.kept K7)).mono ?_); rintro e w8 ⟨rfl, g8⟩
  clear s0 s1 s2 s3 t0 t1 t2 t3
  have K8 := K7.trans g8
  go_wp2_with fail
  (with_reducible refine (toIntS_c (h4.kept K8) hx8).mono ?_); rintro e w9 ⟨v9, rfl, o9, g9⟩
  go_wp2_with fail
  (with_reducible refine (eqI_same (x5.kept (g8.trans g9)).s o9.s).mono ?_); rintro e w10 ⟨rfl, g10⟩
  have K10 := (K8.trans g9).trans g10
  have g810 := (g8.trans g9).trans g10
  go_wp2_with fail
  (with_reducible refine (toLoginS_c (hl4.kept K10) hl8).mono ?_); rintro e w11 ⟨v11, rfl, o11, g11⟩
  go_wp2_with fail
  (with_reducible refine (eqLoginS_c (LgO.kept o6 (g810.trans g11)).s o11.s).mono ?_); rintro e w12 ⟨rfl, g12⟩
  have g812 := (g810.trans g11).trans g12
  have K12 := (K10.trans g11).trans g12
  replace x5 := x5.kept g812
  replace o6 := LgO.kept o6 g812
  replace a7 := IntO.kept a7 g812
  replace b7 := LgO.kept b7 g812
  have HX12 := Lib.hid (g812.blk HX7.out)
  have z12 := g812.sz
  clear K7 K8 K10 g8 g9 g10 g11 g12 g810 g812 o9 o11 HX7 HA7
  go_wp2_with fail
  (with_reducible refine (markIntS_c x5 1 (by decide) (by decide) hx8).mono ?_); rintro e w13 ⟨rfl, _, f13⟩
  have z13 := f13.size
  have K13 := f13.gr K12 (Nat.le_refl _)
  replace o6 : Own w5.heap.size 43 2 w13 (.slice p6 ls.length c6) ls.length (lgs ls) := Own.keptOf o6 fun k hk _ => f13.block k (.inr hk)
  replace a7 : IntO w6.heap.size 3 w13 (.slice p7 us.length c7) us := Own.keptOf a7 fun k hk _ => f13.block k (.inr (by omega))
  replace b7 : LgO w6.heap.size w13 (.slice q7 ms.length d7) ms := Own.keptOf b7 fun k hk _ => f13.block k (.inr (by omega))
  have HX13 := Lib.hid ((f13.block w6a.heap.size (.inr (by omega))).trans HX12.out)
  clear x5 f13 K12 HX12
  go_wp2_with fail
  (with_reducible refine (markLoginsA_c o6 (Lg_len o6) (ws.length + 1) _ (by omega) (by omega)).mono ?_); rintro e w14 ⟨⟨r14, rfl, hr14⟩, _, f14⟩
  have hp14 : (0 : Int) ≤ r14 := by omega
  have z14 := f14.size
  have K14 : Gr w4 w14 := Gr.thenB K13 (below_grown f14 K13.sz fun k hk => by have := HB6.out k hk; omega)
  replace a7 : IntO w6.heap.size 3 w14 (.slice p7 us.length c7) us := Own.grownN a7 f14 fun k hk hk' => by have := HB6.out k hk; have := Own.blk a7 k hk'; omega
  replace b7 : LgO w6.heap.size w14 (.slice q7 ms.length d7) ms := Own.grownN b7 f14 fun k hk hk' => by have := HB6.out k hk; have := Own.blk b7 k hk'; omega
  have HX14 := Lib.hid ((f14.block w6a.heap.size (by omega) (fun e => by have := HB6.out _ e.symm; omega)).trans HX13.out)
  have HA14 := Lib.hid (K14.blk HA4.out)
  clear hr14 f14 o6 K13 HB6 HX13
  have s0 := blk_cell HA14.out (j := 0) rfl
  have s1 := blk_cell HA14.out (j := 1) rfl
  have s2 := blk_cell HA14.out (j := 2) rfl
  have s3 := blk_cell HA14.out (j := 3) rfl
  have t0 := blk_cell HX14.out (j := 0) rfl
  have t1 := blk_cell HX14.out (j := 1) rfl
  have t2 := blk_cell HX14.out (j := 2) rfl
  have t3 := blk_cell HX14.out (j := 3) rfl
  go_wp2_with fail
  (with_reducible refine (eqTalk_c 0 ⟨#[]⟩ a7.s b7.s (A4.kept K14) (B4.kept K14)).mono ?_); rintro e w15 ⟨rfl, g15⟩
  clear s0 s1 s2 s3 t0 t1 t2 t3
  have K15 := K14.trans g15
  have z15 := g15.sz
  have HX15 := Lib.hid (g15.blk HX14.out)
  have t0 := blk_cell HX15.out (j := 0) rfl
  have t1 := blk_cell HX15.out (j := 1) rfl
  have t2 := blk_cell HX15.out (j := 2) rfl
  have t3 := blk_cell HX15.out (j := 3) rfl
  go_wp2_with fail
  (with_reducible refine (markTalkO_c 0 ⟨#[]⟩ (IntO.kept a7 g15) (LgO.kept b7 g15) (by omega) hu hmm).mono ?_); rintro e w16 ⟨⟨r16, rfl, hr16⟩, a16, b16, f16, k16⟩
  clear t0 t1 t2 t3
  have K16 : Gr w4 w16 := K15.belowN f16 (by omega)
  have HX16 := Lib.hid ((k16 w6a.heap.size (by omega) (fun e => by have := HU.out _ e; omega) (fun e => by have := HV.out _ e; omega)).trans HX15.out)
  have HR := Lib.hid hr16
  have hp16 : (0 : Int) ≤ r16 := by omega
  clear hr16 a7 b7 K14 K15 g15 f16 k16 HX14 HX15 HA14
  have t0 := blk_cell HX16.out (j := 0) rfl
  have t1 := blk_cell HX16.out (j := 1) rfl
  have t2 := blk_cell HX16.out (j := 2) rfl
  have t3 := blk_cell HX16.out (j := 3) rfl
  go_wp2_with fail
  (with_reducible refine (heldTalk_c 0 ⟨#[]⟩ a16 b16 hu hmm).mono ?_); rintro e w17 ⟨⟨r17, rfl, hr17⟩, g17⟩
  clear t0 t1 t2 t3
  obtain rfl : r16 = r17 := HR.out.trans hr17.symm
  clear hr17
  have K17 := K16.trans g17
  go_wp2_with fail
  (with_reducible refine (toIntS_c (h4.kept K17) hx8).mono ?_); rintro e w18 ⟨v18, rfl, o18, g18⟩
  obtain ⟨p18, c18, rfl⟩ := o18.len
  have K18 := K17.trans g18
  go_wp2_with fail
  (with_reducible refine (toLoginS_c (hl4.kept K18) hl8).mono ?_); rintro e w19 ⟨v19, rfl, o19, g19⟩
  obtain ⟨p19, c19, rfl⟩ := o19.len
  have G19 := G4.trans (K18.trans g19)
  go_wp2_with fail
  (with_reducible refine (implTalkNew_c (hm.kept G19) (he.kept G19) (ht.kept G19) (o18.s.kept g19) o19.s hsm hx2 hl2).mono ?_); rintro e w19a ⟨p20, q20, c20, d20, us', ms', ok', rfl, hok', a20, b20, g20⟩
  obtain ⟨rfl, rfl, rfl⟩ := tn_same HOK.out hok'
  have gal := gr_alloc w19a (.cells #[.int .i64 0, .slice p20 us.length c20, .slice q20 ms.length d20, .string ⟨#[]⟩] 27)
  have HN := Lib.hid (heap_alloc_new w19a (.cells #[.int .i64 0, .slice p20 us.length c20, .slice q20 ms.length d20, .string ⟨#[]⟩] 27))
  have g1720 := (((g17.trans g18).trans g19).trans g20).trans gal
  have K20 := K16.trans g1720
  have A20 := a20.s.kept gal
  have B20 := b20.s.kept gal
  have HA20 := Lib.hid (K20.blk HA4.out)
  clear hok' g17 g18 g19 g20 gal K17 K18 G19 o18 o19 a20 b20
  go_upto_region 31 with fail
  generalize w19a.alloc (.cells #[.int .i64 0, .slice p20 us.length c20, .slice q20 ms.length d20, .string ⟨#[]⟩] 27) = w20 at *
  have s0 := blk_cell HA20.out (j := 0) rfl
  have s1 := blk_cell HA20.out (j := 1) rfl
  have s2 := blk_cell HA20.out (j := 2) rfl
  have s3 := blk_cell HA20.out (j := 3) rfl
  have t0 := blk_cell HN.out (j := 0) rfl
  have t1 := blk_cell HN.out (j := 1) rfl
  have t2 := blk_cell HN.out (j := 2) rfl
  have t3 := blk_cell HN.out (j := 3) rfl
  go_wp2_with fail
  (with_reducible refine (eqTalk_c 0 ⟨#[]⟩ A20 B20 (A4.kept K20) (B4.kept K20)).mono ?_); rintro e w21 ⟨rfl, g21⟩
  clear s0 s1 s2 s3 t0 t1 t2 t3
  have g1721 := g1720.trans g21
  have HX21 := Lib.hid (g1721.blk HX16.out)
  have t0 := blk_cell HX21.out (j := 0) rfl
  have t1 := blk_cell HX21.out (j := 1) rfl
  have t2 := blk_cell HX21.out (j := 2) rfl
  have t3 := blk_cell HX21.out (j := 3) rfl
  go_wp2_with fail
  (with_reducible refine (heldTalk_c 0 ⟨#[]⟩ (a16.kept g1721) (b16.kept g1721) hu hmm).mono ?_); rintro e w22 ⟨⟨r22, rfl, hr22⟩, g22⟩
  clear t0 t1 t2 t3
  obtain rfl : r16 = r22 := HR.out.trans hr22.symm
  clear hr22
  go_wp2
  go_ret
  exact ⟨rfl, G4.trans ((K16.trans g1721).trans g22)⟩
end Go.Proofs.YtgigjgjpglmpoaaGreatDoor
