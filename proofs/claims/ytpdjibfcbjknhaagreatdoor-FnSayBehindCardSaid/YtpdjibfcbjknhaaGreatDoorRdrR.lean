/- Requests and logins out of bytes: the reference's walks. -/
import Derived.Test.YtpdjibfcbjknhaaGreatDoorRdrS
namespace Go.Proofs.YtpdjibfcbjknhaaGreatDoor
open Go.RowKit
theorem IntS.sufR {w : World} {v : Value} {xs : List Int} (h : IntS w v xs) {k : Nat} (hk : k ≤ xs.length) {ki : Int} (hki : ki = (k : Int)) :
    ∃ v' : Value, (∀ w1, (Instr.slice 23 v (some (.int .i64 ki)) none none).run Tryz.prog w1 = .ok v' w1) ∧ IntS w v' (xs.drop k) := by subst hki; exact h.suf hk
/-- What l12From hands back. -/
def CoO (xs : List Int) (w : World) (e : Ending) (w' : World) : Prop :=
  ∃ (cc k p n : Int) (qd : List Int) (nm : ByteArray) (ok : Bool) (q : Option Addr) (cq : Nat), e = .returned (.tuple #[.int .i64 cc, .agg #[.int .i64 k, .slice q qd.length cq, .string nm, .int .i64 p], .int .i64 n, .bool ok]) ∧ ((∃ m : Nat, codeFrom xs = some (cc, ⟨k, qd, tx nm, p⟩, m) ∧ n = (m : Int) ∧ ok = true) ∨ (codeFrom xs = none ∧ ok = false)) ∧ IntO w.heap.size 3 w' (.slice q qd.length cq) qd ∧ Gr w w'
theorem CoO.no {xs : List Int} {w w' : World} (hn : codeFrom xs = none) (hg : Gr w w') : CoO xs w (.returned (.tuple #[.int .i64 0, .agg #[.int .i64 0, .slice none 0 0, .string ⟨#[]⟩, .int .i64 0], .int .i64 0, .bool false])) w' :=
  ⟨0, 0, 0, 0, [], ⟨#[]⟩, false, none, 0, rfl, .inr ⟨hn, rfl⟩, IntO.nil _ _ _, hg⟩
theorem CoO.yes {xs : List Int} {w w' : World} {cc k p n : Int} {qd : List Int} {nm : ByteArray} {q : Option Addr} {cq m : Nat} (hn : codeFrom xs = some (cc, ⟨k, qd, tx nm, p⟩, m)) (he : n = (m : Int)) (ho : IntO w.heap.size 3 w' (.slice q qd.length cq) qd) (hg : Gr w w') :
    CoO xs w (.returned (.tuple #[.int .i64 cc, .agg #[.int .i64 k, .slice q qd.length cq, .string nm, .int .i64 p], .int .i64 n, .bool true])) w' :=
  ⟨cc, k, p, n, qd, nm, true, q, cq, rfl, .inl ⟨m, hn, he, rfl⟩, ho, hg⟩
set_option maxRecDepth 20000 in
set_option maxHeartbeats 4000000 in
theorem l12From_c {w : World} {v : Value} {xs : List Int} (h : IntS w v xs) (hlen : xs.length ≤ 1048576) :
    Calls Tryz.prog 147 #[v] w (CoO xs w) := by
  obtain ⟨p, cap, rfl, hl1, hl2⟩ := h.form
  have gA := gr_alloc w (.cells #[.int .i64 0, .slice none 0 0, .string ⟨#[]⟩, .int .i64 0] 65)
  have hA := heap_alloc_new w (.cells #[.int .i64 0, .slice none 0 0, .string ⟨#[]⟩, .int .i64 0] 65)
  have zA : w.heap.size + 1 ≤ (w.alloc (.cells #[.int .i64 0, .slice none 0 0, .string ⟨#[]⟩, .int .i64 0] 65)).heap.size := by simp
  have h0 := h.kept gA
  have HX : Hid (¬ (bv xs = true ∧ 3 ≤ xs.length ∧ nth xs 0 = 5 ∧ nth xs 2 = 0) → codeFrom xs = none) := Lib.hid fun hc => by unfold codeFrom; rw [if_neg hc]
  cases hb : bv xs
  · have HN : Hid (codeFrom xs = none) := Lib.hid (HX.out (by rintro ⟨h1, _⟩; rw [hb] at h1; cases h1))
    have HB := Lib.hid hb
    clear hb HX
    go_enter Tryz.func147, Tryz.ntmps147
    go_wp2_with fail
    (with_reducible refine (specBytesValid_c h0).mono ?_); rintro e w1 ⟨rfl, rfl⟩
    rw [HB.out]
    generalize w.alloc (.cells #[.int .i64 0, .slice none 0 0, .string ⟨#[]⟩, .int .i64 0] 65) = w0 at *
    have x0 := blk_cell hA (j := 0) rfl
    have x1 := blk_cell hA (j := 1) rfl
    have x2 := blk_cell hA (j := 2) rfl
    have x3 := blk_cell hA (j := 3) rfl
    have f0 := blk_frozen hA 0
    have f1 := blk_frozen hA 1
    have f2 := blk_frozen hA 2
    have f3 := blk_frozen hA 3
    go_wp2
    change bodyPost _ _ _ _ _ (put4 w0 w.heap.size (.int .i64 0) (.slice none 0 0) (.string ⟨#[]⟩) (.int .i64 0))
    have hW := put4_blk hA (.int .i64 0) (.slice none 0 0) (.string ⟨#[]⟩) (.int .i64 0)
    have cW := put4_chg w0 w.heap.size (.int .i64 0) (.slice none 0 0) (.string ⟨#[]⟩) (.int .i64 0)
    generalize put4 w0 w.heap.size (.int .i64 0) (.slice none 0 0) (.string ⟨#[]⟩) (.int .i64 0) = wz at *
    have y0 := blk_cell hW (j := 0) rfl
    have y1 := blk_cell hW (j := 1) rfl
    have y2 := blk_cell hW (j := 2) rfl
    have y3 := blk_cell hW (j := 3) rfl
    exact bodyPost_ret (v := .tuple #[.int .i64 0, .agg #[.int .i64 0, .slice none 0 0, .string ⟨#[]⟩, .int .i64 0], .int .i64 0, .bool false]) (by simp [results, Tryz.results147, go_sem, y0, y1, y2, y3]) rfl (CoO.no HN.out (cW.gr gA (Nat.le_refl _)))
  have HB := Lib.hid hb
  by_cases h3 : xs.length < 3
  · have HN : Hid (codeFrom xs = none) := Lib.hid (HX.out (by rintro ⟨_, h1, _⟩; omega))
    have h3' : (xs.length : Int) < 3 := by omega
    clear hb HX
    go_enter Tryz.func147, Tryz.ntmps147
    go_wp2_with fail
    (with_reducible refine (specBytesValid_c h0).mono ?_); rintro e w1 ⟨rfl, rfl⟩
    rw [HB.out]
    generalize w.alloc (.cells #[.int .i64 0, .slice none 0 0, .string ⟨#[]⟩, .int .i64 0] 65) = w0 at *
    have x0 := blk_cell hA (j := 0) rfl
    have x1 := blk_cell hA (j := 1) rfl
    have x2 := blk_cell hA (j := 2) rfl
    have x3 := blk_cell hA (j := 3) rfl
    have f0 := blk_frozen hA 0
    have f1 := blk_frozen hA 1
    have f2 := blk_frozen hA 2
    have f3 := blk_frozen hA 3
    go_wp2
    change bodyPost _ _ _ _ _ (put4 w0 w.heap.size (.int .i64 0) (.slice none 0 0) (.string ⟨#[]⟩) (.int .i64 0))
    have hW := put4_blk hA (.int .i64 0) (.slice none 0 0) (.string ⟨#[]⟩) (.int .i64 0)
    have cW := put4_chg w0 w.heap.size (.int .i64 0) (.slice none 0 0) (.string ⟨#[]⟩) (.int .i64 0)
    generalize put4 w0 w.heap.size (.int .i64 0) (.slice none 0 0) (.string ⟨#[]⟩) (.int .i64 0) = wz at *
    have y0 := blk_cell hW (j := 0) rfl
    have y1 := blk_cell hW (j := 1) rfl
    have y2 := blk_cell hW (j := 2) rfl
    have y3 := blk_cell hW (j := 3) rfl
    exact bodyPost_ret (v := .tuple #[.int .i64 0, .agg #[.int .i64 0, .slice none 0 0, .string ⟨#[]⟩, .int .i64 0], .int .i64 0, .bool false]) (by simp [results, Tryz.results147, go_sem, y0, y1, y2, y3]) rfl (CoO.no HN.out (cW.gr gA (Nat.le_refl _)))
  have h3' : ¬ (xs.length : Int) < 3 := by omega
  obtain ⟨a0, x0, d0⟩ := h0.ixN rfl 0 0 rfl (by omega)
  obtain ⟨a1, i1, d1⟩ := h0.ixN rfl 1 1 rfl (by omega)
  obtain ⟨a2, i2, d2⟩ := h0.ixN rfl 2 2 rfl (by omega)
  by_cases h5 : nth xs 0 = 5
  rotate_left
  · have HN : Hid (codeFrom xs = none) := Lib.hid (HX.out (by rintro ⟨_, _, h1, _⟩; exact h5 h1))
    have h5' : (nth xs 0 != 5) = true := by simpa using h5
    clear hb HX h5
    generalize nth xs 0 = y0 at *
    generalize nth xs 1 = y1 at *
    generalize nth xs 2 = y2 at *
    go_enter Tryz.func147, Tryz.ntmps147
    go_wp2_with fail
    (with_reducible refine (specBytesValid_c h0).mono ?_); rintro e w1 ⟨rfl, rfl⟩
    rw [HB.out]
    generalize w.alloc (.cells #[.int .i64 0, .slice none 0 0, .string ⟨#[]⟩, .int .i64 0] 65) = w0 at *
    have x0 := blk_cell hA (j := 0) rfl
    have x1 := blk_cell hA (j := 1) rfl
    have x2 := blk_cell hA (j := 2) rfl
    have x3 := blk_cell hA (j := 3) rfl
    have f0 := blk_frozen hA 0
    have f1 := blk_frozen hA 1
    have f2 := blk_frozen hA 2
    have f3 := blk_frozen hA 3
    go_wp2
    change bodyPost _ _ _ _ _ (put4 w0 w.heap.size (.int .i64 0) (.slice none 0 0) (.string ⟨#[]⟩) (.int .i64 0))
    have hW := put4_blk hA (.int .i64 0) (.slice none 0 0) (.string ⟨#[]⟩) (.int .i64 0)
    have cW := put4_chg w0 w.heap.size (.int .i64 0) (.slice none 0 0) (.string ⟨#[]⟩) (.int .i64 0)
    generalize put4 w0 w.heap.size (.int .i64 0) (.slice none 0 0) (.string ⟨#[]⟩) (.int .i64 0) = wz at *
    have y0 := blk_cell hW (j := 0) rfl
    have y1 := blk_cell hW (j := 1) rfl
    have y2 := blk_cell hW (j := 2) rfl
    have y3 := blk_cell hW (j := 3) rfl
    exact bodyPost_ret (v := .tuple #[.int .i64 0, .agg #[.int .i64 0, .slice none 0 0, .string ⟨#[]⟩, .int .i64 0], .int .i64 0, .bool false]) (by simp [results, Tryz.results147, go_sem, y0, y1, y2, y3]) rfl (CoO.no HN.out (cW.gr gA (Nat.le_refl _)))
  have h5' : (nth xs 0 != 5) = false := by simpa using h5
  by_cases h6 : nth xs 2 = 0
  rotate_left
  · have HN : Hid (codeFrom xs = none) := Lib.hid (HX.out (by rintro ⟨_, _, _, h1⟩; exact h6 h1))
    have h6' : (nth xs 2 != 0) = true := by simpa using h6
    clear hb HX h5 h6
    generalize nth xs 0 = y0 at *
    generalize nth xs 1 = y1 at *
    generalize nth xs 2 = y2 at *
    go_enter Tryz.func147, Tryz.ntmps147
    go_wp2_with fail
    (with_reducible refine (specBytesValid_c h0).mono ?_); rintro e w1 ⟨rfl, rfl⟩
    rw [HB.out]
    generalize w.alloc (.cells #[.int .i64 0, .slice none 0 0, .string ⟨#[]⟩, .int .i64 0] 65) = w0 at *
    have x0 := blk_cell hA (j := 0) rfl
    have x1 := blk_cell hA (j := 1) rfl
    have x2 := blk_cell hA (j := 2) rfl
    have x3 := blk_cell hA (j := 3) rfl
    have f0 := blk_frozen hA 0
    have f1 := blk_frozen hA 1
    have f2 := blk_frozen hA 2
    have f3 := blk_frozen hA 3
    go_wp2
    change bodyPost _ _ _ _ _ (put4 w0 w.heap.size (.int .i64 0) (.slice none 0 0) (.string ⟨#[]⟩) (.int .i64 0))
    have hW := put4_blk hA (.int .i64 0) (.slice none 0 0) (.string ⟨#[]⟩) (.int .i64 0)
    have cW := put4_chg w0 w.heap.size (.int .i64 0) (.slice none 0 0) (.string ⟨#[]⟩) (.int .i64 0)
    generalize put4 w0 w.heap.size (.int .i64 0) (.slice none 0 0) (.string ⟨#[]⟩) (.int .i64 0) = wz at *
    have y0 := blk_cell hW (j := 0) rfl
    have y1 := blk_cell hW (j := 1) rfl
    have y2 := blk_cell hW (j := 2) rfl
    have y3 := blk_cell hW (j := 3) rfl
    exact bodyPost_ret (v := .tuple #[.int .i64 0, .agg #[.int .i64 0, .slice none 0 0, .string ⟨#[]⟩, .int .i64 0], .int .i64 0, .bool false]) (by simp [results, Tryz.results147, go_sem, y0, y1, y2, y3]) rfl (CoO.no HN.out (cW.gr gA (Nat.le_refl _)))
  have h6' : (nth xs 2 != 0) = false := by simpa using h6
  obtain ⟨v3, hsl3, hr3⟩ := h0.sufR (k := 3) (by omega) (ki := 3) rfl
  have HS : Hid (codeFrom xs = (adrOfB (xs.drop 3)).map fun r => (nth xs 1, r.1, r.2 + 3)) := Lib.hid (by unfold codeFrom; rw [if_pos ⟨hb, by omega, h5, h6⟩])
  have hdl : (xs.drop 3).length ≤ 1048576 := by rw [List.length_drop]; omega
  have hbl := bv_len hb
  have hddl : (xs.drop 3).length ≤ 120 := by rw [List.length_drop]; omega
  clear hb HX h5 h6 hbl
  generalize nth xs 0 = y0 at *
  generalize nth xs 1 = y1 at *
  generalize nth xs 2 = y2 at *
  generalize xs.drop 3 = zs at *
  go_enter Tryz.func147, Tryz.ntmps147
  go_wp2_with fail
  (with_reducible refine (specBytesValid_c h0).mono ?_); rintro e w1 ⟨rfl, rfl⟩
  rw [HB.out]
  go_wp2_with fail
  generalize w.alloc (.cells #[.int .i64 0, .slice none 0 0, .string ⟨#[]⟩, .int .i64 0] 65) = w0 at *
  have HA := Lib.hid hA
  clear hA
  (with_reducible refine (specAddressOf_c hr3 hdl).mono ?_); rintro e w1 ⟨ka, po, na, qd, nm, ok, q, cq, rfl, hcase, o1, g1⟩
  have HA1 := Lib.hid (g1.blk HA.out)
  have G1 := gA.trans g1
  have z1 := g1.sz
  have d1' := g1.cell d1
  have gB := gr_alloc w1 (.cells #[.int .i64 ka, .slice q qd.length cq, .string nm, .int .i64 po] 65)
  have hC := heap_alloc_new w1 (.cells #[.int .i64 ka, .slice q qd.length cq, .string nm, .int .i64 po] 65)
  have HC := Lib.hid hC
  have HB2 := Lib.hid (gB.blk HA1.out)
  have G2 := G1.trans gB
  have d1'' := gB.cell d1'
  have o2 := (o1.mono (B' := w.heap.size + 1) (by omega)).kept gB
  clear hC gA g1 HA1 o1 HA d0 d1 d2 d1' hr3 hsl3
  rcases hcase with ⟨m, hm, rfl, rfl⟩ | ⟨hno, rfl⟩
  rotate_left
  · have HN : Hid (codeFrom xs = none) := Lib.hid (by rw [HS.out, hno]; rfl)
    clear HS hno
    go_upto_region 4 with fail
    generalize w1.alloc (.cells #[.int .i64 ka, .slice q qd.length cq, .string nm, .int .i64 po] 65) = w2 at *
    have x0 := blk_cell HB2.out (j := 0) rfl
    have x1 := blk_cell HB2.out (j := 1) rfl
    have x2 := blk_cell HB2.out (j := 2) rfl
    have x3 := blk_cell HB2.out (j := 3) rfl
    have f0 := blk_frozen HB2.out 0
    have f1 := blk_frozen HB2.out 1
    have f2 := blk_frozen HB2.out 2
    have f3 := blk_frozen HB2.out 3
    go_wp2
    change bodyPost _ _ _ _ _ (put4 w2 w.heap.size (.int .i64 0) (.slice none 0 0) (.string ⟨#[]⟩) (.int .i64 0))
    have hW := put4_blk HB2.out (.int .i64 0) (.slice none 0 0) (.string ⟨#[]⟩) (.int .i64 0)
    have cW := put4_chg w2 w.heap.size (.int .i64 0) (.slice none 0 0) (.string ⟨#[]⟩) (.int .i64 0)
    generalize put4 w2 w.heap.size (.int .i64 0) (.slice none 0 0) (.string ⟨#[]⟩) (.int .i64 0) = wz at *
    have y0 := blk_cell hW (j := 0) rfl
    have y1 := blk_cell hW (j := 1) rfl
    have y2 := blk_cell hW (j := 2) rfl
    have y3 := blk_cell hW (j := 3) rfl
    exact bodyPost_ret (v := .tuple #[.int .i64 0, .agg #[.int .i64 0, .slice none 0 0, .string ⟨#[]⟩, .int .i64 0], .int .i64 0, .bool false]) (by simp [results, Tryz.results147, go_sem, y0, y1, y2, y3]) rfl (CoO.no HN.out (cW.gr G2 (Nat.le_refl _)))
  have HN : Hid (codeFrom xs = some (y1, ⟨ka, qd, tx nm, po⟩, m + 3)) := Lib.hid (by rw [HS.out, hm]; rfl)
  have hmz : m ≤ 120 := by have := (adrOfB_sound hm).2; omega
  clear HS hm
  go_upto_region 6 with fail
  generalize w1.alloc (.cells #[.int .i64 ka, .slice q qd.length cq, .string nm, .int .i64 po] 65) = w2 at *
  have s0 := blk_cell HC.out (j := 0) rfl
  have s1 := blk_cell HC.out (j := 1) rfl
  have s2 := blk_cell HC.out (j := 2) rfl
  have s3 := blk_cell HC.out (j := 3) rfl
  have x0 := blk_cell HB2.out (j := 0) rfl
  have x1 := blk_cell HB2.out (j := 1) rfl
  have x2 := blk_cell HB2.out (j := 2) rfl
  have x3 := blk_cell HB2.out (j := 3) rfl
  have f0 := blk_frozen HB2.out 0
  have f1 := blk_frozen HB2.out 1
  have f2 := blk_frozen HB2.out 2
  have f3 := blk_frozen HB2.out 3
  have hwm : IntKind.i64.wrap ((m : Int) + 3) = (m : Int) + 3 := by rw [IntKind.wrap_i64]; omega
  go_cut [2, 4, 5] (fun x y z wx => x = .int .i64 y1 ∧ y = .int .i64 ((m : Int) + 3) ∧ z = .bool true ∧ wx = World.drew (put4 w2 w.heap.size (.int .i64 ka) (.slice q qd.length cq) (.string nm) (.int .i64 po)))
  case first =>
    go_region_with (fail)
    all_goals
      go_wp2_with fail
      go_meet
      exact ⟨rfl, by first | rfl | rw [hwm], rfl, rfl⟩
  case rest =>
    obtain ⟨rfl, rfl, rfl, rfl⟩ := hcut
    clear x0 x1 x2 x3 f0 f1 f2 f3 s0 s1 s2 s3 d1''
    go_wp2
    have hW := put4_blk HB2.out (.int .i64 ka) (.slice q qd.length cq) (.string nm) (.int .i64 po)
    have cW := put4_chg w2 w.heap.size (.int .i64 ka) (.slice q qd.length cq) (.string nm) (.int .i64 po)
    generalize put4 w2 w.heap.size (.int .i64 ka) (.slice q qd.length cq) (.string nm) (.int .i64 po) = wz at *
    have y0' := blk_cell hW (j := 0) rfl
    have y1' := blk_cell hW (j := 1) rfl
    have y2' := blk_cell hW (j := 2) rfl
    have y3' := blk_cell hW (j := 3) rfl
    exact bodyPost_ret (v := .tuple #[.int .i64 y1, .agg #[.int .i64 ka, .slice q qd.length cq, .string nm, .int .i64 po], .int .i64 ((m : Int) + 3), .bool true]) (by simp [results, Tryz.results147, go_sem, y0', y1', y2', y3']) rfl (CoO.yes HN.out (by omega) (IntO.kept (IntO.mono (IntB.chg o2.b cW (.inr (Nat.le_refl _))).o (by omega)) ((Gr.refl _).drew)) ((cW.gr G2 (Nat.le_refl _)).drew))
set_option maxRecDepth 20000 in
set_option maxHeartbeats 2000000 in
theorem specRequestFrom_c {w : World} {v : Value} {xs : List Int} (h : IntS w v xs) (hlen : xs.length ≤ 1048576) :
    Calls Tryz.prog 119 #[v] w (ReqO xs w) := by
  obtain ⟨p0, cap, rfl, _, _⟩ := h.form
  have gA := gr_alloc w (.cells #[.int .i64 0, .int .i64 0, .slice none 0 0, .string ⟨#[]⟩, .int .i64 0] 121)
  have hA := heap_alloc_new w (.cells #[.int .i64 0, .int .i64 0, .slice none 0 0, .string ⟨#[]⟩, .int .i64 0] 121)
  have zA : w.heap.size + 1 ≤ (w.alloc (.cells #[.int .i64 0, .int .i64 0, .slice none 0 0, .string ⟨#[]⟩, .int .i64 0] 121)).heap.size := by simp
  go_enter Tryz.func119, Tryz.ntmps119
  go_wp2_with fail
  (with_reducible refine (l12From_c (h.kept gA) hlen).mono ?_); rintro e w1 ⟨cc, k, p, n, qd, nm, ok, q, cq, rfl, hcase, o1, g1⟩
  have G1 := gA.trans g1
  have HA1 := Lib.hid (g1.blk hA)
  have z1 := g1.sz
  have gB := gr_alloc w1 (.cells #[.int .i64 k, .slice q qd.length cq, .string nm, .int .i64 p] 65)
  have hR := heap_alloc_new w1 (.cells #[.int .i64 k, .slice q qd.length cq, .string nm, .int .i64 p] 65)
  have HR := Lib.hid hR
  have HB2 := Lib.hid (gB.blk HA1.out)
  have G2 := G1.trans gB
  have o2 := (o1.mono (B' := w.heap.size + 1) (by omega)).kept gB
  clear hR gA hA g1 HA1 o1
  rcases hcase with ⟨m, hm, rfl, rfl⟩ | ⟨hno, rfl⟩
  rotate_left
  · have HN : Hid (reqFrom xs = none) := Lib.hid (reqFrom_none hno)
    clear hno
    go_upto_region 2 with fail
    generalize w1.alloc (.cells #[.int .i64 k, .slice q qd.length cq, .string nm, .int .i64 p] 65) = w2 at *
    have x0 := blk_cell HB2.out (j := 0) rfl
    have x1 := blk_cell HB2.out (j := 1) rfl
    have x2 := blk_cell HB2.out (j := 2) rfl
    have x3 := blk_cell HB2.out (j := 3) rfl
    have f0 := blk_frozen HB2.out 0
    have f1 := blk_frozen HB2.out 1
    have f2 := blk_frozen HB2.out 2
    have f3 := blk_frozen HB2.out 3
    have x4 := blk_cell HB2.out (j := 4) rfl
    have f4 := blk_frozen HB2.out 4
    go_wp2
    change bodyPost _ _ _ _ _ (put5 w2 w.heap.size (.int .i64 0) (.int .i64 0) (.slice none 0 0) (.string ⟨#[]⟩) (.int .i64 0))
    have hW := put5_blk HB2.out (.int .i64 0) (.int .i64 0) (.slice none 0 0) (.string ⟨#[]⟩) (.int .i64 0)
    have cW := put5_chg w2 w.heap.size (.int .i64 0) (.int .i64 0) (.slice none 0 0) (.string ⟨#[]⟩) (.int .i64 0)
    generalize put5 w2 w.heap.size (.int .i64 0) (.int .i64 0) (.slice none 0 0) (.string ⟨#[]⟩) (.int .i64 0) = wz at *
    have y0 := blk_cell hW (j := 0) rfl
    have y1 := blk_cell hW (j := 1) rfl
    have y2 := blk_cell hW (j := 2) rfl
    have y3 := blk_cell hW (j := 3) rfl
    have y4 := blk_cell hW (j := 4) rfl
    exact bodyPost_ret (v := .tuple #[.agg #[.int .i64 0, .int .i64 0, .slice none 0 0, .string ⟨#[]⟩, .int .i64 0], .int .i64 0, .bool false]) (by simp [results, Tryz.results119, go_sem, y0, y1, y2, y3, y4]) rfl (ReqO.no HN.out (cW.gr G2 (Nat.le_refl _)))
  have hrf := reqFrom_some hm
  simp only [] at hrf
  have HRF := Lib.hid hrf
  clear hm hrf
  go_upto_region 2 with fail
  generalize w1.alloc (.cells #[.int .i64 k, .slice q qd.length cq, .string nm, .int .i64 p] 65) = w2 at *
  cases hin : inB 1 3 cc
  · have HN : Hid (reqFrom xs = none) := Lib.hid (by rw [HRF.out, hin]; rfl)
    have HI := Lib.hid hin
    clear hin HRF
    go_wp2_with fail
    (with_reducible refine (l6In_c _ _ _ _).mono ?_); rintro e w3 ⟨rfl, rfl⟩
    rw [HI.out]
    have x0 := blk_cell HB2.out (j := 0) rfl
    have x1 := blk_cell HB2.out (j := 1) rfl
    have x2 := blk_cell HB2.out (j := 2) rfl
    have x3 := blk_cell HB2.out (j := 3) rfl
    have f0 := blk_frozen HB2.out 0
    have f1 := blk_frozen HB2.out 1
    have f2 := blk_frozen HB2.out 2
    have f3 := blk_frozen HB2.out 3
    have x4 := blk_cell HB2.out (j := 4) rfl
    have f4 := blk_frozen HB2.out 4
    go_wp2
    change bodyPost _ _ _ _ _ (put5 w2 w.heap.size (.int .i64 0) (.int .i64 0) (.slice none 0 0) (.string ⟨#[]⟩) (.int .i64 0))
    have hW := put5_blk HB2.out (.int .i64 0) (.int .i64 0) (.slice none 0 0) (.string ⟨#[]⟩) (.int .i64 0)
    have cW := put5_chg w2 w.heap.size (.int .i64 0) (.int .i64 0) (.slice none 0 0) (.string ⟨#[]⟩) (.int .i64 0)
    generalize put5 w2 w.heap.size (.int .i64 0) (.int .i64 0) (.slice none 0 0) (.string ⟨#[]⟩) (.int .i64 0) = wz at *
    have y0 := blk_cell hW (j := 0) rfl
    have y1 := blk_cell hW (j := 1) rfl
    have y2 := blk_cell hW (j := 2) rfl
    have y3 := blk_cell hW (j := 3) rfl
    have y4 := blk_cell hW (j := 4) rfl
    exact bodyPost_ret (v := .tuple #[.agg #[.int .i64 0, .int .i64 0, .slice none 0 0, .string ⟨#[]⟩, .int .i64 0], .int .i64 0, .bool false]) (by simp [results, Tryz.results119, go_sem, y0, y1, y2, y3, y4]) rfl (ReqO.no HN.out (cW.gr G2 (Nat.le_refl _)))
  · have HN : Hid (reqFrom xs = some (cc, ⟨k, qd, tx nm, p⟩, m)) := Lib.hid (by rw [HRF.out, hin]; rfl)
    have HI := Lib.hid hin
    clear hin HRF
    go_wp2_with fail
    (with_reducible refine (l6In_c _ _ _ _).mono ?_); rintro e w3 ⟨rfl, rfl⟩
    rw [HI.out]
    have s0 := blk_cell HR.out (j := 0) rfl
    have s1 := blk_cell HR.out (j := 1) rfl
    have s2 := blk_cell HR.out (j := 2) rfl
    have s3 := blk_cell HR.out (j := 3) rfl
    have x0 := blk_cell HB2.out (j := 0) rfl
    have x1 := blk_cell HB2.out (j := 1) rfl
    have x2 := blk_cell HB2.out (j := 2) rfl
    have x3 := blk_cell HB2.out (j := 3) rfl
    have f0 := blk_frozen HB2.out 0
    have f1 := blk_frozen HB2.out 1
    have f2 := blk_frozen HB2.out 2
    have f3 := blk_frozen HB2.out 3
    have x4 := blk_cell HB2.out (j := 4) rfl
    have f4 := blk_frozen HB2.out 4
    go_wp2
    change bodyPost _ _ _ _ _ (put5 w2 w.heap.size (.int .i64 cc) (.int .i64 k) (.slice q qd.length cq) (.string nm) (.int .i64 p))
    have hW := put5_blk HB2.out (.int .i64 cc) (.int .i64 k) (.slice q qd.length cq) (.string nm) (.int .i64 p)
    have cW := put5_chg w2 w.heap.size (.int .i64 cc) (.int .i64 k) (.slice q qd.length cq) (.string nm) (.int .i64 p)
    generalize put5 w2 w.heap.size (.int .i64 cc) (.int .i64 k) (.slice q qd.length cq) (.string nm) (.int .i64 p) = wz at *
    have y0 := blk_cell hW (j := 0) rfl
    have y1 := blk_cell hW (j := 1) rfl
    have y2 := blk_cell hW (j := 2) rfl
    have y3 := blk_cell hW (j := 3) rfl
    have y4 := blk_cell hW (j := 4) rfl
    exact bodyPost_ret (v := .tuple #[.agg #[.int .i64 cc, .int .i64 k, .slice q qd.length cq, .string nm, .int .i64 p], .int .i64 (m : Int), .bool true]) (by simp [results, Tryz.results119, go_sem, y0, y1, y2, y3, y4]) rfl (ReqO.yes HN.out (IntO.mono (IntB.chg o2.b cW (.inr (Nat.le_refl _))).o (by omega)) (cW.gr G2 (Nat.le_refl _)))
end Go.Proofs.YtpdjibfcbjknhaaGreatDoor
