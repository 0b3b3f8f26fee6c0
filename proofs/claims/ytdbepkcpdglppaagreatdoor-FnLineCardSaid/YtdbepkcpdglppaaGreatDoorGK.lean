/- Heads out of bytes: the program's walk. -/
import Derived.Test.YtdbepkcpdglppaaGreatDoorGJ
import Derived.Test.YtdbepkcpdglppaaGreatDoorGH
import Derived.Deep.RegionWith
import Derived.Deep.DeepCutAuto
namespace Go.Proofs.YtdbepkcpdglppaaGreatDoor
open Go.RowKit
theorem RdrAt.fail {w : World} {g : Nat} {s : Rs} (h : RdrAt w g s) : RdrAt (w.setCell ⟨g, 2, none⟩ (.bool true)) g { s with bad := true } ∧ D g w (w.setCell ⟨g, 2, none⟩ (.bool true)) := by
  have hd : D g w (w.setCell ⟨g, 2, none⟩ (.bool true)) := D.set (D.refl g w) 2 _
  obtain ⟨⟨k1, k2, k3⟩, w0, v, h1, h2, h3, h4⟩ := h
  exact ⟨⟨⟨k1, k2, by simp⟩, w0, v, hd.gr h1 h2, h2, h3, heap_set h4⟩, hd⟩
theorem RdrAt.f2 {w : World} {g : Nat} {s : Rs} (h : RdrAt w g s) : w.frozen? ⟨g, 2, none⟩ = false := by
  obtain ⟨_, _, _, _, _, _, h6⟩ := h
  exact blk_frozen h6 2
theorem RdrAt.c0 {w : World} {g : Nat} {s : Rs} (h : RdrAt w g s) : ∃ p cap, w.cell? ⟨g, 0, none⟩ = some (.slice p s.xs.length cap) ∧ IntS w (.slice p s.xs.length cap) s.xs := by
  obtain ⟨_, w0, v, h1, _, h3, h6⟩ := h
  obtain ⟨p, cap, rfl, _, _⟩ := h3.form
  exact ⟨p, cap, blk_cell h6 (j := 0) rfl, h3.kept h1⟩
set_option maxHeartbeats 1000000 in
theorem expect_c {w : World} {g B : Nat} {s : Rs} {v : Value} {ys : List Int} (h : RdrAt w g s) (ho : IntO B 3 w v ys) (hB : g < B) (hl : ys.length ≤ 1000) :
    Calls Tryz.prog 87 #[.pointer (some ⟨g, 0, none⟩), v] w fun e w' => e = .returned (.tuple #[]) ∧ RdrAt w' g (s.expect ys) ∧ D g w w' := by
  obtain ⟨p, cap, rfl⟩ := ho.len
  have HE : Hid (s.expect ys = if (s.take ys.length).1 == ys then (s.take ys.length).2 else { (s.take ys.length).2 with bad := true }) := rfl
  generalize s.expect ys = r at *
  go_enter Tryz.func87, Tryz.ntmps87
  go_wp2_with fail
  (with_reducible refine (take_c h ys.length (ys.length : Int) rfl (by omega)).mono ?_); rintro e w1 ⟨v1, rfl, ho1, hr1, hd1⟩
  generalize (s.take ys.length).1 = zs at *
  generalize (s.take ys.length).2 = s1 at *
  have ho2 := ho.keptD hd1 hB
  cases hq : (zs == ys)
  · have HQ := Lib.hid hq
    clear hq
    go_wp2_with fail
    (with_reducible refine (Equal_c ho1.s ho2.s).mono ?_); rintro e w2 ⟨rfl, g2⟩
    rw [HQ.out]
    have hr2 := hr1.kept g2
    have c2 := hr2.c2
    have f2 := hr2.f2
    have hf := hr2.fail
    go_wp2
    go_end0
    exact ⟨rfl, by rw [HE.out, HQ.out]; exact hf.1, (hd1.trans (D.ofGr g2)).trans hf.2⟩
  · have HQ := Lib.hid hq
    clear hq
    go_wp2_with fail
    (with_reducible refine (Equal_c ho1.s ho2.s).mono ?_); rintro e w2 ⟨rfl, g2⟩
    rw [HQ.out]
    go_wp2
    go_end0
    exact ⟨rfl, by rw [HE.out, HQ.out]; exact hr1.kept g2, hd1.trans (D.ofGr g2)⟩
theorem takeN {w : World} {g : Nat} {s s1 : Rs} {L : Nat} {ys : List Int} (h : RdrAt w g s) (he : Hid (s.take L = (ys, s1))) (ni : Int) (hni : ni = (L : Int)) (hL : L ≤ 65535) :
    Calls Tryz.prog 90 #[.pointer (some ⟨g, 0, none⟩), .int .i64 ni] w fun e w' => ∃ p c, e = .returned (.slice p ys.length c) ∧ IntO w.heap.size 3 w' (.slice p ys.length c) ys ∧ RdrAt w' g s1 ∧ D g w w' := by
  subst hni; exact takeE h he hL
def parZ : Par := ⟨⟨0, [], [], 0⟩, ⟨0, [], [], 0⟩⟩
/-- What is handed back. -/
def HeadIs (xs : List Int) (p : Par) (ts : List Tag) (n : Nat) (ok : Bool) : Prop :=
  (headFrom xs = some (p, ts, n) ∧ ok = true) ∨ (headFrom xs = none ∧ p = parZ ∧ ts = [] ∧ n = 0 ∧ ok = false)
theorem HeadIs.no {xs : List Int} (h : headFrom xs = none) : HeadIs xs parZ [] 0 false := .inr ⟨h, rfl, rfl, rfl, rfl⟩
def HeadOut (xs : List Int) (w : World) (e : Ending) (w' : World) : Prop :=
  ∃ (p : Par) (ts : List Tag) (n : Nat) (ok : Bool) (q q' v : Value) (B1 T1 B2 T2 B3 T3 : Nat), HeadIs xs p ts n ok ∧
    e = .returned (.tuple #[.agg #[.int .i64 p.src.kind, q, .string (S p.src.name), .int .i64 p.src.port, .int .i64 p.dst.kind, q', .string (S p.dst.name), .int .i64 p.dst.port], v, .int .i64 (n : Int), .bool ok]) ∧
    IntB B1 T1 3 w' q p.src.quad ∧ IntB B2 T2 3 w' q' p.dst.quad ∧ TagO B3 T3 w' v ts ∧ w.heap.size ≤ B1 ∧ w.heap.size ≤ B2 ∧ w.heap.size ≤ B3 ∧ T1 ≤ B2 ∧ ((T1 ≤ B3 ∧ T2 ≤ B3) ∨ (T3 ≤ B1 ∧ T3 ≤ B2)) ∧ T1 ≤ w'.heap.size ∧ T2 ≤ w'.heap.size ∧ T3 ≤ w'.heap.size ∧ Gr w w'
theorem IntB.nil (B T e : Nat) (w : World) : IntB B T e w (.slice none 0 0) [] := ⟨World.ownsRow_nil w B e 1, by simp [Value.ownBlock]⟩
theorem HeadOut.no {xs : List Int} {w w' : World} (h : headFrom xs = none) (hg : Gr w w') {v : Value} (ht : TagO w.heap.size w'.heap.size w' v []) :
    HeadOut xs w (.returned (.tuple #[.agg #[.int .i64 0, .slice none 0 0, .string ⟨#[]⟩, .int .i64 0, .int .i64 0, .slice none 0 0, .string ⟨#[]⟩, .int .i64 0], v, .int .i64 0, .bool false])) w' :=
  ⟨parZ, [], 0, false, .slice none 0 0, .slice none 0 0, v, w'.heap.size, w'.heap.size, w'.heap.size, w'.heap.size, w.heap.size, w'.heap.size, HeadIs.no h, rfl, IntB.nil _ _ _ _, IntB.nil _ _ _ _, ht, hg.sz, hg.sz, Nat.le_refl _, Nat.le_refl _, .inr ⟨Nat.le_refl _, Nat.le_refl _⟩, Nat.le_refl _, Nat.le_refl _, Nat.le_refl _, hg⟩
theorem hS1_ok (xs : List Int) (h : xs.length ≤ 1048576) : (hS1 xs).ok := Rs.expect_ok ⟨Nat.zero_le _, by simp only []; omega, fun hh => bv_bytes (by simpa using hh)⟩ _
theorem hL_eq (xs : List Int) (h : xs.length ≤ 1048576) : (hS1 xs).number 2 = ((hL xs : Int), hS2 xs) ∧ hL xs ≤ 65535 := by
  have hb := numOf_small2 (Rs.take_bytes (hS1_ok xs h) 2) (by rw [Rs.take_len]; omega)
  have e : ((hS1 xs).number 2).1 = (hL xs : Int) := by unfold hL Rs.number; simp only []; omega
  refine ⟨by rw [← e]; rfl, ?_⟩
  have : (hL xs : Int) ≤ 65535 := by rw [← e]; exact hb.2
  omega
theorem hY_len (xs : List Int) : (hY xs).length = hL xs := Rs.take_len _
set_option maxRecDepth 20000 in
set_option maxHeartbeats 4000000 in
theorem implHeadFrom_c {w : World} {v : Value} {xs : List Int} (h : IntS w v xs) (hlen : xs.length ≤ 1048576) :
    Calls Tryz.prog 43 #[v] w (HeadOut xs w) := by
  obtain ⟨p, cap, rfl, _, _⟩ := h.form
  have hg0 := gr_alloc w (.cells #[.int .i64 0, .slice none 0 0, .string ⟨#[]⟩, .int .i64 0, .int .i64 0, .slice none 0 0, .string ⟨#[]⟩, .int .i64 0] 27)
  have hB0 := heap_alloc_new w (.cells #[.int .i64 0, .slice none 0 0, .string ⟨#[]⟩, .int .i64 0, .int .i64 0, .slice none 0 0, .string ⟨#[]⟩, .int .i64 0] 27)
  have hz0 : (w.alloc (.cells #[.int .i64 0, .slice none 0 0, .string ⟨#[]⟩, .int .i64 0, .int .i64 0, .slice none 0 0, .string ⟨#[]⟩, .int .i64 0] 27)).heap.size = w.heap.size + 1 := by simp
  obtain ⟨hn1, hn2⟩ := hL_eq xs hlen
  have E1 := Lib.hid hn1
  have E2 : Hid ((hS2 xs).take (hL xs) = (hY xs, hS3 xs)) := rfl
  have E3 : Hid ((hT0 xs).take 4 = (hQ1 xs, hT1 xs)) := rfl
  have E4 : Hid ((hT1 xs).take 4 = (hQ2 xs, hT2 xs)) := rfl
  have eQ1 : (hQ1 xs).length = 4 := Rs.take_len 4
  have eQ2 : (hQ2 xs).length = 4 := Rs.take_len 4
  have EQ1 := Lib.hid eQ1
  have EQ2 := Lib.hid eQ2
  have hyl : (hY xs).length ≤ 65535 := by rw [hY_len]; exact hn2
  clear hn1 eQ1 eQ2
  go_enter Tryz.func43, Tryz.ntmps43
  go_wp2_with fail
  (with_reducible refine (newReader_c (h.kept hg0) (by omega)).mono ?_); rintro e w1 ⟨g1, rfl, hge1, hr1, gr1⟩
  have HB1 := Lib.hid (gr1.blk hB0)
  rw [hz0] at hge1
  have hG1 := hg0.trans gr1
  clear hB0 hz0
  go_wp2_with fail
  (with_reducible refine (headStart_c _).mono ?_); rintro e w2 ⟨v2, rfl, o2, gr2⟩
  have hl1 := hr1.lt
  go_wp2_with fail
  (with_reducible refine (expect_c (hr1.kept gr2) o2 hl1 (by decide)).mono ?_); rintro e w3 ⟨rfl, hr3, hd3⟩
  replace hr3 : RdrAt w3 g1 (hS1 xs) := hr3
  have HB3 := Lib.hid (hd3.blk (gr2.blk HB1.out) (show w.heap.size ≠ g1 by omega))
  have hD3 : D g1 w1 w3 := (D.ofGr gr2).trans hd3
  clear o2 hd3 gr2 hr1
  go_wp2_with fail
  (with_reducible refine (numberE hr3 E1).mono ?_); rintro e w4 ⟨rfl, hr4, hd4⟩
  go_wp2_with fail
  (with_reducible refine (takeE hr4 E2 hn2).mono ?_); rintro e w5 ⟨p5, c5, rfl, o5, hr5, hd5⟩
  have HB5 := Lib.hid (hd5.blk (hd4.blk HB3.out (show w.heap.size ≠ g1 by omega)) (show w.heap.size ≠ g1 by omega))
  have hG5 : Gr w w5 := ((hD3.trans hd4).trans hd5).gr hG1 (by omega)
  clear hr3 hr4 hd4 hd5 hD3
  go_wp2_with fail
  (with_reducible refine (newReader_c o5.s (by omega)).mono ?_); rintro e w6 ⟨g2, rfl, hge2, hr6, gr6⟩
  replace hr6 : RdrAt w6 g2 (hT0 xs) := hr6
  have hr6' := hr5.kept gr6
  have hl5 := hr5.lt
  have hg12 : g1 < g2 := by omega
  have hl6 := hr6.lt
  have HB6 := Lib.hid (gr6.blk HB5.out)
  have hG6 := hG5.trans gr6
  clear o5 gr6 hr5
  go_wp2_with fail
  (with_reducible refine (takeN hr6 E3 4 rfl (by omega)).mono ?_); rintro e w7 ⟨p7, c7, rfl, o7, hr7, hd7⟩
  have hr7' := hr6'.keptD hd7 hg12
  have HB7 := Lib.hid (hd7.blk HB6.out (show w.heap.size ≠ g2 by omega))
  have b7 : IntB w6.heap.size w7.heap.size 3 w7 (.slice p7 (hQ1 xs).length c7) (hQ1 xs) := IntO.b o7
  have hG7 : Gr w w7 := hd7.gr hG6 (by omega)
  have hz7 := hd7.sz
  clear o7 hd7 hr6 hr6'
  generalize hq1 : hQ1 xs = q1 at *
  have HQ1 := Lib.hid hq1
  clear hq1
  have gA := gr_alloc w7 (.cells #[.int .i64 1, .slice p7 q1.length c7, .string ⟨#[]⟩, .int .i64 0] 25)
  have hA := heap_alloc_new w7 (.cells #[.int .i64 1, .slice p7 q1.length c7, .string ⟨#[]⟩, .int .i64 0] 25)
  go_wp2_with fail
  (with_reducible refine (takeN (hr7.kept gA) E4 4 rfl (by omega)).mono ?_); rintro e w8 ⟨p8, c8, rfl, o8, hr8, hd8⟩
  have hr8' := (hr7'.kept gA).keptD hd8 hg12
  have HB8 := Lib.hid (hd8.blk (gA.blk HB7.out) (show w.heap.size ≠ g2 by omega))
  have HA8 := Lib.hid (hd8.blk hA (show w7.heap.size ≠ g2 by omega))
  have b78 := (b7.kept gA).keptD hd8 hl6
  have hz8 : w7.heap.size + 1 ≤ w8.heap.size := by have := hd8.sz; simp at this; omega
  have b8 : IntB (w7.heap.size + 1) w8.heap.size 3 w8 (.slice p8 (hQ2 xs).length c8) (hQ2 xs) := (IntO.b o8).wide (by simp) (Nat.le_refl _)
  have hG8 : Gr w w8 := hd8.gr (hG7.trans gA) (by omega)
  clear o8 hd8 hr7 hr7' hA gA b7
  generalize hq2 : hQ2 xs = q2 at *
  have HQ2 := Lib.hid hq2
  clear hq2
  have gC := gr_alloc w8 (.cells #[.int .i64 1, .slice p8 q2.length c8, .string ⟨#[]⟩, .int .i64 0] 25)
  have hC := heap_alloc_new w8 (.cells #[.int .i64 1, .slice p8 q2.length c8, .string ⟨#[]⟩, .int .i64 0] 25)
  have E5 : Hid ((hT2 xs).number 2 = (hP1 xs, hT3 xs)) := rfl
  have E6 : Hid ((hT3 xs).number 2 = (hP2 xs, hT4 xs)) := rfl
  go_wp2_with fail
  have hnum := numberR_c (hr8.kept gC) 2 2 rfl (by omega)
  rw [E5.out] at hnum
  (with_reducible refine hnum.mono ?_); rintro e w9 ⟨rfl, hr9, hd9⟩
  clear hnum
  have hr9' := (hr8'.kept gC).keptD hd9 hg12
  have HB9 := Lib.hid (hd9.blk (gC.blk HB8.out) (show w.heap.size ≠ g2 by omega))
  have HA9 := Lib.hid (hd9.blk (gC.blk HA8.out) (show w7.heap.size ≠ g2 by omega))
  have HC9 := Lib.hid (hd9.blk hC (show w8.heap.size ≠ g2 by omega))
  have b79 := (b78.kept gC).keptD hd9 hl6
  have b89 := (b8.kept gC).keptD hd9 (by omega)
  have hz9 : w8.heap.size + 1 ≤ w9.heap.size := by have := hd9.sz; simp at this; omega
  have hG9 : Gr w w9 := hd9.gr (hG8.trans gC) (by omega)
  clear hd9 hr8 hr8' hC gC b78 b8
  have m3 := blk_cell HA9.out (j := 3) rfl
  have n3 := blk_frozen HA9.out 3
  go_wp2_with fail
  have ch := Chg.set (p := ⟨w7.heap.size, 3, none⟩) (Chg.refl w7.heap.size (w7.heap.size + 1) w9) (Nat.le_refl _) (Nat.lt_succ_self _) (.int .i64 (hP1 xs))
  have HA10 := Lib.hid (heap_set (j := 3) (x := .int .i64 (hP1 xs)) HA9.out)
  have HB10 := Lib.hid ((ch.block w.heap.size (.inl (by omega))).trans HB9.out)
  have HC10 := Lib.hid ((ch.block w8.heap.size (.inr (by omega))).trans HC9.out)
  have b710 := b79.chg ch (.inl (Nat.le_refl _))
  have b810 := b89.chg ch (.inr (Nat.le_refl _))
  have hr10 := hr9.keptB ch.below (by omega)
  have hr10' := hr9'.keptB ch.below (by omega)
  have hG10 : Gr w _ := ch.gr hG9 (by omega)
  have hz10 := ch.size
  clear m3 n3 ch hr9 hr9' b79 b89
  generalize hW10 : w9.setCell ⟨w7.heap.size, 3, none⟩ (.int .i64 (hP1 xs)) = w10 at *
  have HW10 := Lib.hid hW10
  clear hW10
  have hnum := numberR_c hr10 2 2 rfl (by omega)
  rw [E6.out] at hnum
  (with_reducible refine hnum.mono ?_); rintro e w11 ⟨rfl, hr11, hd11⟩
  clear hnum
  have hr11' := hr10'.keptD hd11 hg12
  have HB11 := Lib.hid (hd11.blk HB10.out (show w.heap.size ≠ g2 by omega))
  have HA11 := Lib.hid (hd11.blk HA10.out (show w7.heap.size ≠ g2 by omega))
  have HC11 := Lib.hid (hd11.blk HC10.out (show w8.heap.size ≠ g2 by omega))
  have b711 := b710.keptD hd11 hl6
  have b811 := b810.keptD hd11 (by omega)
  have hz11 := hd11.sz
  have hG11 : Gr w w11 := hd11.gr hG10 (by omega)
  clear hd11 hr10 hr10' b710 b810
  have m3 := blk_cell HC11.out (j := 3) rfl
  have n3 := blk_frozen HC11.out 3
  go_upto_region 8 with fail
  have ch := Chg.set (p := ⟨w8.heap.size, 3, none⟩) (Chg.refl w8.heap.size (w8.heap.size + 1) w11) (Nat.le_refl _) (Nat.lt_succ_self _) (.int .i64 (hP2 xs))
  have HC12 := Lib.hid (heap_set (j := 3) (x := .int .i64 (hP2 xs)) HC11.out)
  have HB12 := Lib.hid ((ch.block w.heap.size (.inl (by omega))).trans HB11.out)
  have HA12 := Lib.hid ((ch.block w7.heap.size (.inl (by omega))).trans HA11.out)
  have b712 := b711.chg ch (.inl (by omega))
  have b812 := b811.chg ch (.inl (Nat.le_refl _))
  have hr12 := hr11.keptB ch.below (by omega)
  have hr12' := hr11'.keptB ch.below (by omega)
  have hG12 : Gr w _ := ch.gr hG11 (by omega)
  have hz12 := ch.size
  clear m3 n3 ch hr11 hr11' b711 b811
  generalize hW12 : w11.setCell ⟨w8.heap.size, 3, none⟩ (.int .i64 (hP2 xs)) = w12 at *
  have HW12 := Lib.hid hW12
  clear hW12
  have k1 := hr12'.c2
  have k2 := hr12.c2
  cases h3 : (hS3 xs).bad
  rotate_left
  · have HN := Lib.hid (headFrom_fail (xs := xs) (.inl h3))
    rw [h3] at k1
    clear h3
    have x0 := blk_cell HB12.out (j := 0) rfl
    have x1 := blk_cell HB12.out (j := 1) rfl
    have x2 := blk_cell HB12.out (j := 2) rfl
    have x3 := blk_cell HB12.out (j := 3) rfl
    have x4 := blk_cell HB12.out (j := 4) rfl
    have x5 := blk_cell HB12.out (j := 5) rfl
    have x6 := blk_cell HB12.out (j := 6) rfl
    have x7 := blk_cell HB12.out (j := 7) rfl
    have f0 := blk_frozen HB12.out 0
    have f1 := blk_frozen HB12.out 1
    have f2 := blk_frozen HB12.out 2
    have f3 := blk_frozen HB12.out 3
    have f4 := blk_frozen HB12.out 4
    have f5 := blk_frozen HB12.out 5
    have f6 := blk_frozen HB12.out 6
    have f7 := blk_frozen HB12.out 7
    go_wp2
    change bodyPost _ _ _ _ _ (put8 w12 w.heap.size (.int .i64 0) (.slice none 0 0) (.string ⟨#[]⟩) (.int .i64 0) (.int .i64 0) (.slice none 0 0) (.string ⟨#[]⟩) (.int .i64 0))
    have hW := put8_blk HB12.out (.int .i64 0) (.slice none 0 0) (.string ⟨#[]⟩) (.int .i64 0) (.int .i64 0) (.slice none 0 0) (.string ⟨#[]⟩) (.int .i64 0)
    have cW := put8_chg w12 w.heap.size (.int .i64 0) (.slice none 0 0) (.string ⟨#[]⟩) (.int .i64 0) (.int .i64 0) (.slice none 0 0) (.string ⟨#[]⟩) (.int .i64 0)
    generalize put8 w12 w.heap.size (.int .i64 0) (.slice none 0 0) (.string ⟨#[]⟩) (.int .i64 0) (.int .i64 0) (.slice none 0 0) (.string ⟨#[]⟩) (.int .i64 0) = wz at *
    have y0 := blk_cell hW (j := 0) rfl
    have y1 := blk_cell hW (j := 1) rfl
    have y2 := blk_cell hW (j := 2) rfl
    have y3 := blk_cell hW (j := 3) rfl
    have y4 := blk_cell hW (j := 4) rfl
    have y5 := blk_cell hW (j := 5) rfl
    have y6 := blk_cell hW (j := 6) rfl
    have y7 := blk_cell hW (j := 7) rfl
    exact bodyPost_ret (v := .tuple #[.agg #[.int .i64 0, .slice none 0 0, .string ⟨#[]⟩, .int .i64 0, .int .i64 0, .slice none 0 0, .string ⟨#[]⟩, .int .i64 0], .slice none 0 0, .int .i64 0, .bool false]) (by simp [results, Tryz.results43, go_sem, y0, y1, y2, y3, y4, y5, y6, y7]) rfl (HeadOut.no HN.out (cW.gr hG12 (Nat.le_refl _)) (TagO.nil _ _ _))
  cases h4 : (hT4 xs).bad
  rotate_left
  · have HN := Lib.hid (headFrom_fail (xs := xs) (.inr h4))
    rw [h3] at k1
    rw [h4] at k2
    clear h3 h4
    have x0 := blk_cell HB12.out (j := 0) rfl
    have x1 := blk_cell HB12.out (j := 1) rfl
    have x2 := blk_cell HB12.out (j := 2) rfl
    have x3 := blk_cell HB12.out (j := 3) rfl
    have x4 := blk_cell HB12.out (j := 4) rfl
    have x5 := blk_cell HB12.out (j := 5) rfl
    have x6 := blk_cell HB12.out (j := 6) rfl
    have x7 := blk_cell HB12.out (j := 7) rfl
    have f0 := blk_frozen HB12.out 0
    have f1 := blk_frozen HB12.out 1
    have f2 := blk_frozen HB12.out 2
    have f3 := blk_frozen HB12.out 3
    have f4 := blk_frozen HB12.out 4
    have f5 := blk_frozen HB12.out 5
    have f6 := blk_frozen HB12.out 6
    have f7 := blk_frozen HB12.out 7
    go_wp2
    change bodyPost _ _ _ _ _ (put8 w12 w.heap.size (.int .i64 0) (.slice none 0 0) (.string ⟨#[]⟩) (.int .i64 0) (.int .i64 0) (.slice none 0 0) (.string ⟨#[]⟩) (.int .i64 0))
    have hW := put8_blk HB12.out (.int .i64 0) (.slice none 0 0) (.string ⟨#[]⟩) (.int .i64 0) (.int .i64 0) (.slice none 0 0) (.string ⟨#[]⟩) (.int .i64 0)
    have cW := put8_chg w12 w.heap.size (.int .i64 0) (.slice none 0 0) (.string ⟨#[]⟩) (.int .i64 0) (.int .i64 0) (.slice none 0 0) (.string ⟨#[]⟩) (.int .i64 0)
    generalize put8 w12 w.heap.size (.int .i64 0) (.slice none 0 0) (.string ⟨#[]⟩) (.int .i64 0) (.int .i64 0) (.slice none 0 0) (.string ⟨#[]⟩) (.int .i64 0) = wz at *
    have y0 := blk_cell hW (j := 0) rfl
    have y1 := blk_cell hW (j := 1) rfl
    have y2 := blk_cell hW (j := 2) rfl
    have y3 := blk_cell hW (j := 3) rfl
    have y4 := blk_cell hW (j := 4) rfl
    have y5 := blk_cell hW (j := 5) rfl
    have y6 := blk_cell hW (j := 6) rfl
    have y7 := blk_cell hW (j := 7) rfl
    exact bodyPost_ret (v := .tuple #[.agg #[.int .i64 0, .slice none 0 0, .string ⟨#[]⟩, .int .i64 0, .int .i64 0, .slice none 0 0, .string ⟨#[]⟩, .int .i64 0], .slice none 0 0, .int .i64 0, .bool false]) (by simp [results, Tryz.results43, go_sem, y0, y1, y2, y3, y4, y5, y6, y7]) rfl (HeadOut.no HN.out (cW.gr hG12 (Nat.le_refl _)) (TagO.nil _ _ _))
  obtain ⟨a1, a2, a3, a4, a5, a6, a7, _, _, _, a8, _⟩ := head_go h3 h4
  have HGO := Lib.hid (headFrom_go h3 h4)
  rw [a5] at hr12' k1
  rw [a6] at hr12 k2
  have hyL : (hY xs).length = hSize xs := by
    have e := congrArg List.length a7
    have : (hS3 xs).pos = 16 + hSize xs := by rw [a5]
    have h2 := hY_len xs
    obtain ⟨_, _, e3⟩ := Rs.take_good (s := hS2 xs) (n := hL xs) h3
    obtain ⟨_, _, e2⟩ := Rs.take_good (s := hS1 xs) (n := 2) (Rs.take_good (s := hS2 xs) (n := hL xs) h3).1
    have hb := Rs.expect_good (s := Rs.mk xs 0 (!(bv xs))) (ys := headStart) (Rs.take_good (s := hS1 xs) (n := 2) (Rs.take_good (s := hS2 xs) (n := hL xs) h3).1).1
    have e1b : ((Rs.mk xs 0 (!(bv xs))).take headStart.length).2.bad = false := by
      rw [← hb.2]; exact (Rs.take_good (s := hS1 xs) (n := 2) (Rs.take_good (s := hS2 xs) (n := hL xs) h3).1).1
    obtain ⟨_, _, e0⟩ := Rs.take_good e1b
    have s1 : (hS1 xs).pos = 14 := by unfold hS1; rw [hb.2, e0]; rfl
    have p2 : (hS2 xs).pos = 16 := by unfold hS2 Rs.number; rw [e2]; simp only []; omega
    have p3 : (hS3 xs).pos = 16 + hL xs := by unfold hS3; rw [e3]; simp only []; omega
    omega
  have HPar := Lib.hid (⟨a1, a2, a3, a4⟩ : hQ1 xs = _ ∧ hQ2 xs = _ ∧ hP1 xs = _ ∧ hP2 xs = _)
  clear a1 a2 a3 a4 a5 a6 a7
  obtain ⟨p0, cp0, kc0, hys⟩ := hr12.c0
  have kc1 := hr12.c1
  simp only [] at kc0 kc1 hys k1 k2
  obtain ⟨vs, hsl, hvs⟩ := hys.suf (k := 12) (by omega)
  have hvl : ((hY xs).drop 12).length ≤ 1048576 := by rw [List.length_drop]; omega
  obtain ⟨ok, ts, hR⟩ : ∃ ok ts, FromIs ((hY xs).drop 12) ok ts := ⟨_, _, rfl, rfl⟩
  have HR := Lib.hid hR
  clear h3 h4 hR
  generalize (hY xs).drop 12 = zs at *
  have hq12 : (12 : Int) ≤ ((hY xs).length : Int) := by omega
  have HYL := Lib.hid hyL
  clear hyL
  have hqc : ((hY xs).length : Int) ≤ (cp0 : Int) := by
    obtain ⟨_, _, hf, hc, _⟩ := hys.form
    injection hf with e1 e2 e3
    omega
  have kc1' : w12.cell? ⟨g2, 1, none⟩ = some (.int .i64 12) := kc1
  have hvsd := hvs.kept ((Gr.refl w12).drew)
  have hsl' : ∀ w1, (Instr.slice 23 (.slice p0 (hY xs).length cp0) (some (.int .i64 12)) none none).run Tryz.prog w1 = .ok vs w1 := hsl
  obtain ⟨pvs, cvs, rfl, _, _⟩ := hvs.form
  clear kc1 hys
  go_wp2_with fail
  go_region_held3 (fun w' => w'.cell? ⟨g2, 0, none⟩ = some (.slice p0 (hY xs).length cp0) ∧ w'.cell? ⟨g2, 1, none⟩ = some (.int .i64 12)) (first | (exact ⟨g13.cell kc0, g13.cell kc1'⟩) | go_keep) (first | (go_at_call 95; (with_reducible refine (implTF HR hvsd hvl).mono ?_); rintro e w13 ⟨v13, T3, rfl, o13, hT13, g13'⟩; have g13 : Gr w12 w13 := g13'.undrew))
  replace o13 : TagO w12.heap.size T3 w13 v13 ts := o13
  have hr13' := hr12'.kept g13
  have HB13 := Lib.hid (g13.blk HB12.out)
  have HA13 := Lib.hid (g13.blk HA12.out)
  have HC13 := Lib.hid (g13.blk HC12.out)
  have b713 := b712.kept g13
  have b813 := b812.kept g13
  have hG13 := hG12.trans g13
  have hz13 := g13.sz
  clear kc0 kc1' hsl hsl' hvs hvsd hr12 hr12' k1 k2 g13 g13' b712 b812
  cases ok
  · have HN : Hid (headFrom xs = none) := by
      have h1 := HR.out.1
      have h2 := HGO.out
      cases htf : tagsFrom zs with
      | none => rw [htf] at h2; exact h2
      | some us => rw [htf] at h1; cases h1
    have x0 := blk_cell HB13.out (j := 0) rfl
    have x1 := blk_cell HB13.out (j := 1) rfl
    have x2 := blk_cell HB13.out (j := 2) rfl
    have x3 := blk_cell HB13.out (j := 3) rfl
    have x4 := blk_cell HB13.out (j := 4) rfl
    have x5 := blk_cell HB13.out (j := 5) rfl
    have x6 := blk_cell HB13.out (j := 6) rfl
    have x7 := blk_cell HB13.out (j := 7) rfl
    have f0 := blk_frozen HB13.out 0
    have f1 := blk_frozen HB13.out 1
    have f2 := blk_frozen HB13.out 2
    have f3 := blk_frozen HB13.out 3
    have f4 := blk_frozen HB13.out 4
    have f5 := blk_frozen HB13.out 5
    have f6 := blk_frozen HB13.out 6
    have f7 := blk_frozen HB13.out 7
    go_wp2
    change bodyPost _ _ _ _ _ (put8 w13 w.heap.size (.int .i64 0) (.slice none 0 0) (.string ⟨#[]⟩) (.int .i64 0) (.int .i64 0) (.slice none 0 0) (.string ⟨#[]⟩) (.int .i64 0))
    have hW := put8_blk HB13.out (.int .i64 0) (.slice none 0 0) (.string ⟨#[]⟩) (.int .i64 0) (.int .i64 0) (.slice none 0 0) (.string ⟨#[]⟩) (.int .i64 0)
    have cW := put8_chg w13 w.heap.size (.int .i64 0) (.slice none 0 0) (.string ⟨#[]⟩) (.int .i64 0) (.int .i64 0) (.slice none 0 0) (.string ⟨#[]⟩) (.int .i64 0)
    generalize put8 w13 w.heap.size (.int .i64 0) (.slice none 0 0) (.string ⟨#[]⟩) (.int .i64 0) (.int .i64 0) (.slice none 0 0) (.string ⟨#[]⟩) (.int .i64 0) = wz at *
    have y0 := blk_cell hW (j := 0) rfl
    have y1 := blk_cell hW (j := 1) rfl
    have y2 := blk_cell hW (j := 2) rfl
    have y3 := blk_cell hW (j := 3) rfl
    have y4 := blk_cell hW (j := 4) rfl
    have y5 := blk_cell hW (j := 5) rfl
    have y6 := blk_cell hW (j := 6) rfl
    have y7 := blk_cell hW (j := 7) rfl
    exact bodyPost_ret (v := .tuple #[.agg #[.int .i64 0, .slice none 0 0, .string ⟨#[]⟩, .int .i64 0, .int .i64 0, .slice none 0 0, .string ⟨#[]⟩, .int .i64 0], .slice none 0 0, .int .i64 0, .bool false]) (by simp [results, Tryz.results43, go_sem, y0, y1, y2, y3, y4, y5, y6, y7]) rfl (HeadOut.no HN.out (cW.gr hG13 (Nat.le_refl _)) (TagO.nil _ _ _))
  · have HS : Hid (headFrom xs = some (hPar xs, ts, 16 + hSize xs)) := by
      have h1 := HR.out
      have h2 := HGO.out
      cases htf : tagsFrom zs with
      | none => rw [FromIs, htf] at h1; cases h1.1
      | some us =>
        rw [FromIs, htf] at h1
        rw [htf] at h2
        have : us = ts := h1.2
        subst this
        exact h2
    have s0 := blk_cell HA13.out (j := 0) rfl
    have s1 := blk_cell HA13.out (j := 1) rfl
    have s2 := blk_cell HA13.out (j := 2) rfl
    have s3 := blk_cell HA13.out (j := 3) rfl
    have t0 := blk_cell HC13.out (j := 0) rfl
    have t1 := blk_cell HC13.out (j := 1) rfl
    have t2 := blk_cell HC13.out (j := 2) rfl
    have t3 := blk_cell HC13.out (j := 3) rfl
    have r1 := hr13'.c1
    simp only [] at r1
    have x0 := blk_cell HB13.out (j := 0) rfl
    have x1 := blk_cell HB13.out (j := 1) rfl
    have x2 := blk_cell HB13.out (j := 2) rfl
    have x3 := blk_cell HB13.out (j := 3) rfl
    have x4 := blk_cell HB13.out (j := 4) rfl
    have x5 := blk_cell HB13.out (j := 5) rfl
    have x6 := blk_cell HB13.out (j := 6) rfl
    have x7 := blk_cell HB13.out (j := 7) rfl
    have f0 := blk_frozen HB13.out 0
    have f1 := blk_frozen HB13.out 1
    have f2 := blk_frozen HB13.out 2
    have f3 := blk_frozen HB13.out 3
    have f4 := blk_frozen HB13.out 4
    have f5 := blk_frozen HB13.out 5
    have f6 := blk_frozen HB13.out 6
    have f7 := blk_frozen HB13.out 7
    go_upto_region 13 with fail
    go_cut [3, 4, 5] (fun a b c wx => v13 = a ∧ b = .int .i64 ((16 + hSize xs : Nat) : Int) ∧ c = .bool true ∧ wx = World.drew (put8 w13 w.heap.size (.int .i64 1) (.slice p7 q1.length c7) (.string ⟨#[]⟩) (.int .i64 (hP1 xs)) (.int .i64 1) (.slice p8 q2.length c8) (.string ⟨#[]⟩) (.int .i64 (hP2 xs))))
    case first =>
      go_region_with (fail)
      all_goals
        go_wp2_with fail
        go_meet
        exact ⟨rfl, rfl, rfl, rfl⟩
    case rest =>
      obtain ⟨rfl, rfl, rfl, rfl⟩ := hcut
      clear x0 x1 x2 x3 x4 x5 x6 x7 f0 f1 f2 f3 f4 f5 f6 f7 s0 s1 s2 s3 t0 t1 t2 t3 r1
      go_wp2
      have hW := put8_blk HB13.out (.int .i64 1) (.slice p7 q1.length c7) (.string ⟨#[]⟩) (.int .i64 (hP1 xs)) (.int .i64 1) (.slice p8 q2.length c8) (.string ⟨#[]⟩) (.int .i64 (hP2 xs))
      have cW := put8_chg w13 w.heap.size (.int .i64 1) (.slice p7 q1.length c7) (.string ⟨#[]⟩) (.int .i64 (hP1 xs)) (.int .i64 1) (.slice p8 q2.length c8) (.string ⟨#[]⟩) (.int .i64 (hP2 xs))
      generalize put8 w13 w.heap.size (.int .i64 1) (.slice p7 q1.length c7) (.string ⟨#[]⟩) (.int .i64 (hP1 xs)) (.int .i64 1) (.slice p8 q2.length c8) (.string ⟨#[]⟩) (.int .i64 (hP2 xs)) = wz at *
      have y0 := blk_cell hW (j := 0) rfl
      have y1 := blk_cell hW (j := 1) rfl
      have y2 := blk_cell hW (j := 2) rfl
      have y3 := blk_cell hW (j := 3) rfl
      have y4 := blk_cell hW (j := 4) rfl
      have y5 := blk_cell hW (j := 5) rfl
      have y6 := blk_cell hW (j := 6) rfl
      have y7 := blk_cell hW (j := 7) rfl
      have gd : Gr wz wz.drew := (Gr.refl wz).drew
      have zz := cW.size
      refine bodyPost_ret (v := .tuple #[.agg #[.int .i64 1, .slice p7 q1.length c7, .string ⟨#[]⟩, .int .i64 (hP1 xs), .int .i64 1, .slice p8 q2.length c8, .string ⟨#[]⟩, .int .i64 (hP2 xs)], v13, .int .i64 ((16 + hSize xs : Nat) : Int), .bool true]) (by simp [results, Tryz.results43, go_sem, y0, y1, y2, y3, y4, y5, y6, y7]) rfl ?_
      refine ⟨hPar xs, ts, 16 + hSize xs, true, .slice p7 q1.length c7, .slice p8 q2.length c8, v13, w6.heap.size, w7.heap.size, w7.heap.size + 1, w8.heap.size, w12.heap.size, T3, .inl ⟨HS.out, rfl⟩, ?_, ?_, ?_, (o13.chg cW (.inr (by omega))).kept gd, by omega, by omega, by omega, by omega, .inl ⟨by omega, by omega⟩, ?_, ?_, ?_, (cW.gr hG13 (Nat.le_refl _)).drew⟩
      · rw [← HPar.out.2.2.1, ← HPar.out.2.2.2]; rfl
      · rw [← HPar.out.1, HQ1.out]; exact (b713.chg cW (.inr (by omega))).kept gd
      · rw [← HPar.out.2.1, HQ2.out]; exact (b813.chg cW (.inr (by omega))).kept gd
      · show w7.heap.size ≤ wz.heap.size; omega
      · show w8.heap.size ≤ wz.heap.size; omega
      · show T3 ≤ wz.heap.size; omega
end Go.Proofs.YtdbepkcpdglppaaGreatDoor
