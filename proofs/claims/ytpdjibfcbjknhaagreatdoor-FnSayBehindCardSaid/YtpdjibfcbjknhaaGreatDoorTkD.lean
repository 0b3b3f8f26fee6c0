/- Talks: what the reference says to bytes. -/
import Derived.Test.YtpdjibfcbjknhaaGreatDoorTkC
import Derived.Test.YtpdjibfcbjknhaaGreatDoorRdrL
import Derived.Test.YtpdjibfcbjknhaaGreatDoorTkE
namespace Go.Proofs.YtpdjibfcbjknhaaGreatDoor
open Go.RowKit
/-- What the parts of TalkSay hand back. -/
def SpP (ws : List Int) (ls : List Lg) (s : Int × List Int × Tx) (w : World) (e : Ending) (w' : World) : Prop :=
  ∃ (p q x : Option Addr) (c d f : Nat) (dst : ByteArray), e = .returned (.tuple #[.agg #[.int .i64 s.1, .slice p ws.length c, .slice q ls.length d, .string dst], .slice x s.2.1.length f]) ∧ Hid (s.2.2 = tx dst) ∧ IntO w.heap.size 3 w' (.slice p ws.length c) ws ∧ LgO w.heap.size w' (.slice q ls.length d) ls ∧ IntO w.heap.size 3 w' (.slice x s.2.1.length f) s.2.1 ∧ Gr w w'
theorem SpP.of {ws : List Int} {ls : List Lg} {s : Int × List Int × Tx} {w w' : World} {p q x : Option Addr} {c d f : Nat} {st : Int} {rep : List Int} {dst : ByteArray} (hs : s = (st, rep, tx dst)) (o : IntO w.heap.size 3 w' (.slice p ws.length c) ws) (l : LgO w.heap.size w' (.slice q ls.length d) ls) (ho : IntO w.heap.size 3 w' (.slice x rep.length f) rep) (hg : Gr w w') :
    SpP ws ls s w (.returned (.tuple #[.agg #[.int .i64 st, .slice p ws.length c, .slice q ls.length d, .string dst], .slice x rep.length f])) w' := by
  subst hs
  exact ⟨p, q, x, c, d, f, dst, rfl, rfl, o, l, ho, hg⟩
set_option maxRecDepth 20000 in
set_option maxHeartbeats 8000000 in
theorem l23Hello_c {w : World} {v u x : Value} {ws xs : List Int} {ls : List Lg} (st : Int) (d : ByteArray) (h : IntS w v ws) (hl : LgS w u ls) (hw : ws.length ≤ 1000000) (hn : ls.length ≤ 1000000) (hx : IntS w x xs) (hlen : xs.length ≤ 1048576) :
    Calls Tryz.prog 77 #[.agg #[.int .i64 st, v, u, .string d], x] w (SpP ws ls (sayHello ws xs) w) := by
  obtain ⟨p, cap, rfl, _, _⟩ := h.form
  obtain ⟨q, caq, rfl, _, _⟩ := hl.form
  obtain ⟨px, cx, rfl, _, _⟩ := hx.form
  have gA := (gr_alloc w (.cells #[.int .i64 st, .slice p ws.length cap, .slice q ls.length caq, .string d] 26)).alloc (.cells #[.int .i64 0, .slice none 0 0, .slice none 0 0, .string ⟨#[]⟩] 26)
  have hA1 := (gr_alloc (w.alloc (.cells #[.int .i64 st, .slice p ws.length cap, .slice q ls.length caq, .string d] 26)) (.cells #[.int .i64 0, .slice none 0 0, .slice none 0 0, .string ⟨#[]⟩] 26)).blk (heap_alloc_new w (.cells #[.int .i64 st, .slice p ws.length cap, .slice q ls.length caq, .string d] 26))
  have hA2 := heap_alloc_new (w.alloc (.cells #[.int .i64 st, .slice p ws.length cap, .slice q ls.length caq, .string d] 26)) (.cells #[.int .i64 0, .slice none 0 0, .slice none 0 0, .string ⟨#[]⟩] 26)
  have eA : (w.alloc (.cells #[.int .i64 st, .slice p ws.length cap, .slice q ls.length caq, .string d] 26)).heap.size = w.heap.size + 1 := by simp
  rw [eA] at hA2
  have zA : w.heap.size + 2 ≤ ((w.alloc (.cells #[.int .i64 st, .slice p ws.length cap, .slice q ls.length caq, .string d] 26)).alloc (.cells #[.int .i64 0, .slice none 0 0, .slice none 0 0, .string ⟨#[]⟩] 26)).heap.size := by simp
  have HA1 := Lib.hid hA1
  have HA2 := Lib.hid hA2
  have h0 := h.kept gA
  have hl0 := hl.kept gA
  have hx0 := hx.kept gA
  clear eA hA1 hA2
  have HS : Hid (sayHello ws xs = match helloFrom xs with | some r => if r.2 = xs.length then (pickState (helloPick ws r.1), [5, helloPick ws r.1], []) else (4, [], []) | none => (4, [], [])) := rfl
  generalize sayHello ws xs = s at *
  go_enter Tryz.func77, Tryz.ntmps77
  go_upto_region 1 with fail
  generalize (w.alloc (.cells #[.int .i64 st, .slice p ws.length cap, .slice q ls.length caq, .string d] 26)).alloc (.cells #[.int .i64 0, .slice none 0 0, .slice none 0 0, .string ⟨#[]⟩] 26) = w0 at *
  go_wp2_with fail
  (with_reducible refine (specHelloFrom_c hx0 hlen).mono ?_); rintro e w1 ⟨p1, c1, ys, n, ok, rfl, hcase, o1, g1⟩
  have HX1 := Lib.hid (g1.blk HA1.out)
  have HB1 := Lib.hid (g1.blk HA2.out)
  have G1 := gA.trans g1
  have z1 := g1.sz
  rcases hcase with ⟨m, hm, rfl, rfl⟩ | ⟨hno, rfl, rfl, rfl⟩
  rotate_left
  · have HN := Lib.hid (show s = (4, [], tx ⟨#[]⟩) by rw [HS.out, hno]; rfl)
    have HX5 := HX1
    have HB5 := HB1
    have G5 := G1
    clear HS hno HX1 HB1 G1 HA1 HA2
    have s0 := blk_cell HX5.out (j := 0) rfl
    have s1 := blk_cell HX5.out (j := 1) rfl
    have s2 := blk_cell HX5.out (j := 2) rfl
    have s3 := blk_cell HX5.out (j := 3) rfl
    go_wp2_with fail
    (with_reducible refine (l23NextE st 4 d (h.kept G5) (hl.kept G5) hw hn).mono ?_); rintro e w6 ⟨p6, c6, q6, d6, rfl, o6, l6, g6⟩
    have z6 := g6.sz
    have gE := gr_alloc w6 (.cells #[] 3)
    have o7 := IntO.mtM (w := w6) (m := w6.heap.size) rfl
    have g7 := g6.trans gE
    have HB7 := Lib.hid (g7.blk HB5.out)
    have G7 := G5.trans g7
    have o6m := IntO.mono (B' := w.heap.size + 2) (o6.kept gE) (by omega)
    have l6m := LgO.mono (B' := w.heap.size + 2) (l6.kept gE) (by omega)
    have o7m := IntO.mono (B' := w.heap.size + 2) o7 (by omega)
    have zE : w6.heap.size + 1 = (w6.alloc (.cells #[] 3)).heap.size := by simp
    clear s0 s1 s2 s3 o6 l6 o7
    have x0 := blk_cell HB7.out (j := 0) rfl
    have x1 := blk_cell HB7.out (j := 1) rfl
    have x2 := blk_cell HB7.out (j := 2) rfl
    have x3 := blk_cell HB7.out (j := 3) rfl
    have f0 := blk_frozen HB7.out 0
    have f1 := blk_frozen HB7.out 1
    have f2 := blk_frozen HB7.out 2
    have f3 := blk_frozen HB7.out 3
    go_wp2
    change bodyPost _ _ _ _ _ (put4 (w6.alloc (.cells #[] 3)) (w.heap.size + 1) (.int .i64 4) (.slice p6 ws.length c6) (.slice q6 ls.length d6) (.string ⟨#[]⟩))
    have hW := put4_blk HB7.out (.int .i64 4) (.slice p6 ws.length c6) (.slice q6 ls.length d6) (.string ⟨#[]⟩)
    have cW := put4_chg (w6.alloc (.cells #[] 3)) (w.heap.size + 1) (.int .i64 4) (.slice p6 ws.length c6) (.slice q6 ls.length d6) (.string ⟨#[]⟩)
    generalize put4 (w6.alloc (.cells #[] 3)) (w.heap.size + 1) (.int .i64 4) (.slice p6 ws.length c6) (.slice q6 ls.length d6) (.string ⟨#[]⟩) = wz at *
    have y0 := blk_cell hW (j := 0) rfl
    have y1 := blk_cell hW (j := 1) rfl
    have y2 := blk_cell hW (j := 2) rfl
    have y3 := blk_cell hW (j := 3) rfl
    exact bodyPost_ret (v := .tuple #[.agg #[.int .i64 4, .slice p6 ws.length c6, .slice q6 ls.length d6, .string ⟨#[]⟩], .slice (some ⟨w6.heap.size, 0, none⟩) 0 0]) (by simp [results, Tryz.results77, go_sem, y0, y1, y2, y3]) rfl (SpP.of (rep := []) HN.out ((IntO.keptC o6m cW (Nat.lt_succ_self _)).mono (by omega)) ((LgO.keptC l6m cW (Nat.lt_succ_self _)).mono (by omega)) ((IntO.keptC o7m cW (Nat.lt_succ_self _)).mono (by omega)) (cW.gr G7 (Nat.le_succ _)))
  by_cases hlt : m = xs.length
  rotate_left
  · have HN := Lib.hid (show s = (4, [], tx ⟨#[]⟩) by rw [HS.out, hm]; simp only []; rw [if_neg hlt]; rfl)
    have hlt' : ((m : Int) != (xs.length : Int)) = true := by simp; omega
    have HX5 := HX1
    have HB5 := HB1
    have G5 := G1
    clear HS hm hlt HX1 HB1 G1 HA1 HA2
    have s0 := blk_cell HX5.out (j := 0) rfl
    have s1 := blk_cell HX5.out (j := 1) rfl
    have s2 := blk_cell HX5.out (j := 2) rfl
    have s3 := blk_cell HX5.out (j := 3) rfl
    go_wp2_with fail
    (with_reducible refine (l23NextE st 4 d (h.kept G5) (hl.kept G5) hw hn).mono ?_); rintro e w6 ⟨p6, c6, q6, d6, rfl, o6, l6, g6⟩
    have z6 := g6.sz
    have gE := gr_alloc w6 (.cells #[] 3)
    have o7 := IntO.mtM (w := w6) (m := w6.heap.size) rfl
    have g7 := g6.trans gE
    have HB7 := Lib.hid (g7.blk HB5.out)
    have G7 := G5.trans g7
    have o6m := IntO.mono (B' := w.heap.size + 2) (o6.kept gE) (by omega)
    have l6m := LgO.mono (B' := w.heap.size + 2) (l6.kept gE) (by omega)
    have o7m := IntO.mono (B' := w.heap.size + 2) o7 (by omega)
    have zE : w6.heap.size + 1 = (w6.alloc (.cells #[] 3)).heap.size := by simp
    clear s0 s1 s2 s3 o6 l6 o7
    have x0 := blk_cell HB7.out (j := 0) rfl
    have x1 := blk_cell HB7.out (j := 1) rfl
    have x2 := blk_cell HB7.out (j := 2) rfl
    have x3 := blk_cell HB7.out (j := 3) rfl
    have f0 := blk_frozen HB7.out 0
    have f1 := blk_frozen HB7.out 1
    have f2 := blk_frozen HB7.out 2
    have f3 := blk_frozen HB7.out 3
    go_wp2
    change bodyPost _ _ _ _ _ (put4 (w6.alloc (.cells #[] 3)) (w.heap.size + 1) (.int .i64 4) (.slice p6 ws.length c6) (.slice q6 ls.length d6) (.string ⟨#[]⟩))
    have hW := put4_blk HB7.out (.int .i64 4) (.slice p6 ws.length c6) (.slice q6 ls.length d6) (.string ⟨#[]⟩)
    have cW := put4_chg (w6.alloc (.cells #[] 3)) (w.heap.size + 1) (.int .i64 4) (.slice p6 ws.length c6) (.slice q6 ls.length d6) (.string ⟨#[]⟩)
    generalize put4 (w6.alloc (.cells #[] 3)) (w.heap.size + 1) (.int .i64 4) (.slice p6 ws.length c6) (.slice q6 ls.length d6) (.string ⟨#[]⟩) = wz at *
    have y0 := blk_cell hW (j := 0) rfl
    have y1 := blk_cell hW (j := 1) rfl
    have y2 := blk_cell hW (j := 2) rfl
    have y3 := blk_cell hW (j := 3) rfl
    exact bodyPost_ret (v := .tuple #[.agg #[.int .i64 4, .slice p6 ws.length c6, .slice q6 ls.length d6, .string ⟨#[]⟩], .slice (some ⟨w6.heap.size, 0, none⟩) 0 0]) (by simp [results, Tryz.results77, go_sem, y0, y1, y2, y3]) rfl (SpP.of (rep := []) HN.out ((IntO.keptC o6m cW (Nat.lt_succ_self _)).mono (by omega)) ((LgO.keptC l6m cW (Nat.lt_succ_self _)).mono (by omega)) ((IntO.keptC o7m cW (Nat.lt_succ_self _)).mono (by omega)) (cW.gr G7 (Nat.le_succ _)))
  have hlt' : ((m : Int) != (xs.length : Int)) = false := by simp; omega
  have hs1 : s = (pickState (helloPick ws ys), [5, helloPick ws ys], tx ⟨#[]⟩) := by rw [HS.out, hm]; simp only []; rw [if_pos hlt]; rfl
  have hpb := pick_byte ws ys
  have HP := Lib.hid (fun (W : World) (a : IntS W (.slice p ws.length cap) ws) (b : IntS W (.slice p1 ys.length c1) ys) => specHelloPick_c a b)
  have h1 := h0.kept g1
  clear HS hm hlt
  generalize helloPick ws ys = m0 at *
  have x1 := blk_cell HX1.out (j := 1) rfl
  have HPB := Lib.hid hpb
  clear hpb
  by_cases k0 : m0 = 0
  · subst k0
    have HN : Hid (s = (2, [5, 0], tx ⟨#[]⟩)) := Lib.hid hs1
    clear hs1
    go_wp2_with fail
    (with_reducible refine (HP.out _ h1 o1.s).mono ?_); rintro e w2 ⟨rfl, g2⟩
    go_wp2_with fail
    (with_reducible refine (specPickBytes_c _ _ HPB).mono ?_); rintro e w5 ⟨v5, rfl, o5', g5⟩
    obtain ⟨x5, f5, rfl⟩ := o5'.len
    have g25 := g2.trans g5
    have HX5 := Lib.hid (g25.blk HX1.out)
    have HB5 := Lib.hid (g25.blk HB1.out)
    have G5 := G1.trans g25
    have z2 := g2.sz
    have z5 := g5.sz
    have o5 := IntO.mono (B' := w.heap.size + 2) o5' (by omega)
    clear HX1 HB1 G1 HA1 HA2 HP x1 o5'
    have s0 := blk_cell HX5.out (j := 0) rfl
    have s1 := blk_cell HX5.out (j := 1) rfl
    have s2 := blk_cell HX5.out (j := 2) rfl
    have s3 := blk_cell HX5.out (j := 3) rfl
    go_wp2_with fail
    (with_reducible refine (l23NextE st 2 d (h.kept G5) (hl.kept G5) hw hn).mono ?_); rintro e w6 ⟨p6, c6, q6, d6, rfl, o6, l6, g6⟩
    have HB6 := Lib.hid (g6.blk HB5.out)
    have G6 := G5.trans g6
    have o5' := IntO.kept o5 g6
    have o6m := IntO.mono (B' := w.heap.size + 2) o6 (by omega)
    have l6m := LgO.mono (B' := w.heap.size + 2) l6 (by omega)
    clear s0 s1 s2 s3 o6 l6
    have x0 := blk_cell HB6.out (j := 0) rfl
    have x1 := blk_cell HB6.out (j := 1) rfl
    have x2 := blk_cell HB6.out (j := 2) rfl
    have x3 := blk_cell HB6.out (j := 3) rfl
    have f0 := blk_frozen HB6.out 0
    have f1 := blk_frozen HB6.out 1
    have f2 := blk_frozen HB6.out 2
    have f3 := blk_frozen HB6.out 3
    go_wp2
    change bodyPost _ _ _ _ _ (put4 w6 (w.heap.size + 1) (.int .i64 2) (.slice p6 ws.length c6) (.slice q6 ls.length d6) (.string ⟨#[]⟩))
    have hW := put4_blk HB6.out (.int .i64 2) (.slice p6 ws.length c6) (.slice q6 ls.length d6) (.string ⟨#[]⟩)
    have cW := put4_chg w6 (w.heap.size + 1) (.int .i64 2) (.slice p6 ws.length c6) (.slice q6 ls.length d6) (.string ⟨#[]⟩)
    generalize put4 w6 (w.heap.size + 1) (.int .i64 2) (.slice p6 ws.length c6) (.slice q6 ls.length d6) (.string ⟨#[]⟩) = wz at *
    have y0 := blk_cell hW (j := 0) rfl
    have y1 := blk_cell hW (j := 1) rfl
    have y2 := blk_cell hW (j := 2) rfl
    have y3 := blk_cell hW (j := 3) rfl
    exact bodyPost_ret (v := .tuple #[.agg #[.int .i64 2, .slice p6 ws.length c6, .slice q6 ls.length d6, .string ⟨#[]⟩], .slice x5 (([5, 0] : List Int)).length f5]) (by simp [results, Tryz.results77, go_sem, y0, y1, y2, y3]) rfl (SpP.of HN.out ((IntO.keptC o6m cW (Nat.lt_succ_self _)).mono (by omega)) ((LgO.keptC l6m cW (Nat.lt_succ_self _)).mono (by omega)) ((IntO.keptC o5' cW (Nat.lt_succ_self _)).mono (by omega)) (cW.gr G6 (Nat.le_succ _)))
  · have k0' : (m0 == 0) = false := beq_eq_false_iff_ne.2 k0
    by_cases k2 : m0 = 2
    · subst k2
      have HN : Hid (s = (1, [5, 2], tx ⟨#[]⟩)) := Lib.hid hs1
      clear hs1 k0
      go_wp2_with fail
      (with_reducible refine (HP.out _ h1 o1.s).mono ?_); rintro e w2 ⟨rfl, g2⟩
      go_wp2_with fail
      (with_reducible refine (specPickBytes_c _ _ HPB).mono ?_); rintro e w5 ⟨v5, rfl, o5', g5⟩
      obtain ⟨x5, f5, rfl⟩ := o5'.len
      have g25 := g2.trans g5
      have HX5 := Lib.hid (g25.blk HX1.out)
      have HB5 := Lib.hid (g25.blk HB1.out)
      have G5 := G1.trans g25
      have z2 := g2.sz
      have z5 := g5.sz
      have o5 := IntO.mono (B' := w.heap.size + 2) o5' (by omega)
      clear HX1 HB1 G1 HA1 HA2 HP x1 o5'
      have s0 := blk_cell HX5.out (j := 0) rfl
      have s1 := blk_cell HX5.out (j := 1) rfl
      have s2 := blk_cell HX5.out (j := 2) rfl
      have s3 := blk_cell HX5.out (j := 3) rfl
      go_wp2_with fail
      (with_reducible refine (l23NextE st 1 d (h.kept G5) (hl.kept G5) hw hn).mono ?_); rintro e w6 ⟨p6, c6, q6, d6, rfl, o6, l6, g6⟩
      have HB6 := Lib.hid (g6.blk HB5.out)
      have G6 := G5.trans g6
      have o5' := IntO.kept o5 g6
      have o6m := IntO.mono (B' := w.heap.size + 2) o6 (by omega)
      have l6m := LgO.mono (B' := w.heap.size + 2) l6 (by omega)
      clear s0 s1 s2 s3 o6 l6
      have x0 := blk_cell HB6.out (j := 0) rfl
      have x1 := blk_cell HB6.out (j := 1) rfl
      have x2 := blk_cell HB6.out (j := 2) rfl
      have x3 := blk_cell HB6.out (j := 3) rfl
      have f0 := blk_frozen HB6.out 0
      have f1 := blk_frozen HB6.out 1
      have f2 := blk_frozen HB6.out 2
      have f3 := blk_frozen HB6.out 3
      go_wp2
      change bodyPost _ _ _ _ _ (put4 w6 (w.heap.size + 1) (.int .i64 1) (.slice p6 ws.length c6) (.slice q6 ls.length d6) (.string ⟨#[]⟩))
      have hW := put4_blk HB6.out (.int .i64 1) (.slice p6 ws.length c6) (.slice q6 ls.length d6) (.string ⟨#[]⟩)
      have cW := put4_chg w6 (w.heap.size + 1) (.int .i64 1) (.slice p6 ws.length c6) (.slice q6 ls.length d6) (.string ⟨#[]⟩)
      generalize put4 w6 (w.heap.size + 1) (.int .i64 1) (.slice p6 ws.length c6) (.slice q6 ls.length d6) (.string ⟨#[]⟩) = wz at *
      have y0 := blk_cell hW (j := 0) rfl
      have y1 := blk_cell hW (j := 1) rfl
      have y2 := blk_cell hW (j := 2) rfl
      have y3 := blk_cell hW (j := 3) rfl
      exact bodyPost_ret (v := .tuple #[.agg #[.int .i64 1, .slice p6 ws.length c6, .slice q6 ls.length d6, .string ⟨#[]⟩], .slice x5 (([5, 2] : List Int)).length f5]) (by simp [results, Tryz.results77, go_sem, y0, y1, y2, y3]) rfl (SpP.of HN.out ((IntO.keptC o6m cW (Nat.lt_succ_self _)).mono (by omega)) ((LgO.keptC l6m cW (Nat.lt_succ_self _)).mono (by omega)) ((IntO.keptC o5' cW (Nat.lt_succ_self _)).mono (by omega)) (cW.gr G6 (Nat.le_succ _)))
    · have k2' : (m0 == 2) = false := beq_eq_false_iff_ne.2 k2
      have hps : pickState m0 = 4 := by unfold pickState; rw [if_neg k0, if_neg k2]
      rw [hps] at hs1
      have HN := Lib.hid hs1
      clear hs1 k0 k2 hps
      go_wp2_with fail
      (with_reducible refine (HP.out _ h1 o1.s).mono ?_); rintro e w2 ⟨rfl, g2⟩
      go_wp2_with fail
      (with_reducible refine (specPickBytes_c _ _ HPB).mono ?_); rintro e w5 ⟨v5, rfl, o5', g5⟩
      obtain ⟨x5, f5, rfl⟩ := o5'.len
      have g25 := g2.trans g5
      have HX5 := Lib.hid (g25.blk HX1.out)
      have HB5 := Lib.hid (g25.blk HB1.out)
      have G5 := G1.trans g25
      have z2 := g2.sz
      have z5 := g5.sz
      have o5 := IntO.mono (B' := w.heap.size + 2) o5' (by omega)
      clear HX1 HB1 G1 HA1 HA2 HP x1 o5'
      have s0 := blk_cell HX5.out (j := 0) rfl
      have s1 := blk_cell HX5.out (j := 1) rfl
      have s2 := blk_cell HX5.out (j := 2) rfl
      have s3 := blk_cell HX5.out (j := 3) rfl
      go_wp2_with fail
      (with_reducible refine (l23NextE st 4 d (h.kept G5) (hl.kept G5) hw hn).mono ?_); rintro e w6 ⟨p6, c6, q6, d6, rfl, o6, l6, g6⟩
      have HB6 := Lib.hid (g6.blk HB5.out)
      have G6 := G5.trans g6
      have o5' := IntO.kept o5 g6
      have o6m := IntO.mono (B' := w.heap.size + 2) o6 (by omega)
      have l6m := LgO.mono (B' := w.heap.size + 2) l6 (by omega)
      clear s0 s1 s2 s3 o6 l6
      have x0 := blk_cell HB6.out (j := 0) rfl
      have x1 := blk_cell HB6.out (j := 1) rfl
      have x2 := blk_cell HB6.out (j := 2) rfl
      have x3 := blk_cell HB6.out (j := 3) rfl
      have f0 := blk_frozen HB6.out 0
      have f1 := blk_frozen HB6.out 1
      have f2 := blk_frozen HB6.out 2
      have f3 := blk_frozen HB6.out 3
      go_wp2
      change bodyPost _ _ _ _ _ (put4 w6 (w.heap.size + 1) (.int .i64 4) (.slice p6 ws.length c6) (.slice q6 ls.length d6) (.string ⟨#[]⟩))
      have hW := put4_blk HB6.out (.int .i64 4) (.slice p6 ws.length c6) (.slice q6 ls.length d6) (.string ⟨#[]⟩)
      have cW := put4_chg w6 (w.heap.size + 1) (.int .i64 4) (.slice p6 ws.length c6) (.slice q6 ls.length d6) (.string ⟨#[]⟩)
      generalize put4 w6 (w.heap.size + 1) (.int .i64 4) (.slice p6 ws.length c6) (.slice q6 ls.length d6) (.string ⟨#[]⟩) = wz at *
      have y0 := blk_cell hW (j := 0) rfl
      have y1 := blk_cell hW (j := 1) rfl
      have y2 := blk_cell hW (j := 2) rfl
      have y3 := blk_cell hW (j := 3) rfl
      exact bodyPost_ret (v := .tuple #[.agg #[.int .i64 4, .slice p6 ws.length c6, .slice q6 ls.length d6, .string ⟨#[]⟩], .slice x5 (([5, m0] : List Int)).length f5]) (by simp [results, Tryz.results77, go_sem, y0, y1, y2, y3]) rfl (SpP.of HN.out ((IntO.keptC o6m cW (Nat.lt_succ_self _)).mono (by omega)) ((LgO.keptC l6m cW (Nat.lt_succ_self _)).mono (by omega)) ((IntO.keptC o5' cW (Nat.lt_succ_self _)).mono (by omega)) (cW.gr G6 (Nat.le_succ _)))
set_option maxRecDepth 20000 in
set_option maxHeartbeats 8000000 in
theorem l23Login_c {w : World} {v u x : Value} {ws xs : List Int} {ls : List Lg} (st : Int) (d : ByteArray) (h : IntS w v ws) (hl : LgS w u ls) (hw : ws.length ≤ 1000000) (hn : ls.length ≤ 1000000) (hx : IntS w x xs) (hlen : xs.length ≤ 1048576) :
    Calls Tryz.prog 78 #[.agg #[.int .i64 st, v, u, .string d], x] w (SpP ws ls (sayLogin ls xs) w) := by
  obtain ⟨p, cap, rfl, _, _⟩ := h.form
  obtain ⟨q, caq, rfl, _, _⟩ := hl.form
  obtain ⟨px, cx, rfl, _, _⟩ := hx.form
  have gA := (gr_alloc w (.cells #[.int .i64 st, .slice p ws.length cap, .slice q ls.length caq, .string d] 26)).alloc (.cells #[.int .i64 0, .slice none 0 0, .slice none 0 0, .string ⟨#[]⟩] 26)
  have hA1 := (gr_alloc (w.alloc (.cells #[.int .i64 st, .slice p ws.length cap, .slice q ls.length caq, .string d] 26)) (.cells #[.int .i64 0, .slice none 0 0, .slice none 0 0, .string ⟨#[]⟩] 26)).blk (heap_alloc_new w (.cells #[.int .i64 st, .slice p ws.length cap, .slice q ls.length caq, .string d] 26))
  have hA2 := heap_alloc_new (w.alloc (.cells #[.int .i64 st, .slice p ws.length cap, .slice q ls.length caq, .string d] 26)) (.cells #[.int .i64 0, .slice none 0 0, .slice none 0 0, .string ⟨#[]⟩] 26)
  have eA : (w.alloc (.cells #[.int .i64 st, .slice p ws.length cap, .slice q ls.length caq, .string d] 26)).heap.size = w.heap.size + 1 := by simp
  rw [eA] at hA2
  have zA : w.heap.size + 2 ≤ ((w.alloc (.cells #[.int .i64 st, .slice p ws.length cap, .slice q ls.length caq, .string d] 26)).alloc (.cells #[.int .i64 0, .slice none 0 0, .slice none 0 0, .string ⟨#[]⟩] 26)).heap.size := by simp
  have HA1 := Lib.hid hA1
  have HA2 := Lib.hid hA2
  have h0 := h.kept gA
  have hl0 := hl.kept gA
  have hx0 := hx.kept gA
  clear eA hA1 hA2
  have HS : Hid (sayLogin ls xs = match loginFrom xs with | some r => if r.2 = xs.length then (if loginFits ls r.1 = true then 2 else 4, loginReply (loginFits ls r.1), []) else (4, [], []) | none => (4, [], [])) := rfl
  generalize sayLogin ls xs = s at *
  go_enter Tryz.func78, Tryz.ntmps78
  go_upto_region 1 with fail
  generalize (w.alloc (.cells #[.int .i64 st, .slice p ws.length cap, .slice q ls.length caq, .string d] 26)).alloc (.cells #[.int .i64 0, .slice none 0 0, .slice none 0 0, .string ⟨#[]⟩] 26) = w0 at *
  go_wp2_with fail
  (with_reducible refine (specLoginFrom_c hx0 hlen).mono ?_); rintro e w1 ⟨su, sv, n, ok, rfl, hcase, g1⟩
  have gC := gr_alloc w1 (.cells #[.string su, .string sv] 59)
  have hC := heap_alloc_new w1 (.cells #[.string su, .string sv] 59)
  have HC := Lib.hid hC
  have g12 := g1.trans gC
  have HX2 := Lib.hid (g12.blk HA1.out)
  have HB2 := Lib.hid (g12.blk HA2.out)
  have G2 := gA.trans g12
  have z1 := g1.sz
  have z2 := gC.sz
  clear hC
  go_upto_region 2 with fail
  generalize w1.alloc (.cells #[.string su, .string sv] 59) = w2 at *
  rcases hcase with ⟨m, hm, rfl, rfl⟩ | ⟨hno, rfl⟩
  rotate_left
  · have HN := Lib.hid (show s = (4, [], tx ⟨#[]⟩) by rw [HS.out, hno]; rfl)
    have HX5 := HX2
    have HB5 := HB2
    have G5 := G2
    clear HS hno HX2 HB2 G2 HA1 HA2 HC
    have s0 := blk_cell HX5.out (j := 0) rfl
    have s1 := blk_cell HX5.out (j := 1) rfl
    have s2 := blk_cell HX5.out (j := 2) rfl
    have s3 := blk_cell HX5.out (j := 3) rfl
    go_wp2_with fail
    (with_reducible refine (l23NextE st 4 d (h.kept G5) (hl.kept G5) hw hn).mono ?_); rintro e w6 ⟨p6, c6, q6, d6, rfl, o6, l6, g6⟩
    have z6 := g6.sz
    have gE := gr_alloc w6 (.cells #[] 3)
    have o7 := IntO.mtM (w := w6) (m := w6.heap.size) rfl
    have g7 := g6.trans gE
    have HB7 := Lib.hid (g7.blk HB5.out)
    have G7 := G5.trans g7
    have o6m := IntO.mono (B' := w.heap.size + 2) (o6.kept gE) (by omega)
    have l6m := LgO.mono (B' := w.heap.size + 2) (l6.kept gE) (by omega)
    have o7m := IntO.mono (B' := w.heap.size + 2) o7 (by omega)
    have zE : w6.heap.size + 1 = (w6.alloc (.cells #[] 3)).heap.size := by simp
    clear s0 s1 s2 s3 o6 l6 o7
    have x0 := blk_cell HB7.out (j := 0) rfl
    have x1 := blk_cell HB7.out (j := 1) rfl
    have x2 := blk_cell HB7.out (j := 2) rfl
    have x3 := blk_cell HB7.out (j := 3) rfl
    have f0 := blk_frozen HB7.out 0
    have f1 := blk_frozen HB7.out 1
    have f2 := blk_frozen HB7.out 2
    have f3 := blk_frozen HB7.out 3
    go_wp2
    change bodyPost _ _ _ _ _ (put4 (w6.alloc (.cells #[] 3)) (w.heap.size + 1) (.int .i64 4) (.slice p6 ws.length c6) (.slice q6 ls.length d6) (.string ⟨#[]⟩))
    have hW := put4_blk HB7.out (.int .i64 4) (.slice p6 ws.length c6) (.slice q6 ls.length d6) (.string ⟨#[]⟩)
    have cW := put4_chg (w6.alloc (.cells #[] 3)) (w.heap.size + 1) (.int .i64 4) (.slice p6 ws.length c6) (.slice q6 ls.length d6) (.string ⟨#[]⟩)
    generalize put4 (w6.alloc (.cells #[] 3)) (w.heap.size + 1) (.int .i64 4) (.slice p6 ws.length c6) (.slice q6 ls.length d6) (.string ⟨#[]⟩) = wz at *
    have y0 := blk_cell hW (j := 0) rfl
    have y1 := blk_cell hW (j := 1) rfl
    have y2 := blk_cell hW (j := 2) rfl
    have y3 := blk_cell hW (j := 3) rfl
    exact bodyPost_ret (v := .tuple #[.agg #[.int .i64 4, .slice p6 ws.length c6, .slice q6 ls.length d6, .string ⟨#[]⟩], .slice (some ⟨w6.heap.size, 0, none⟩) 0 0]) (by simp [results, Tryz.results78, go_sem, y0, y1, y2, y3]) rfl (SpP.of (rep := []) HN.out ((IntO.keptC o6m cW (Nat.lt_succ_self _)).mono (by omega)) ((LgO.keptC l6m cW (Nat.lt_succ_self _)).mono (by omega)) ((IntO.keptC o7m cW (Nat.lt_succ_self _)).mono (by omega)) (cW.gr G7 (Nat.le_succ _)))
  by_cases hlt : m = xs.length
  rotate_left
  · have HN := Lib.hid (show s = (4, [], tx ⟨#[]⟩) by rw [HS.out, hm]; simp only []; rw [if_neg hlt]; rfl)
    have hlt' : ((m : Int) != (xs.length : Int)) = true := by simp; omega
    have HX5 := HX2
    have HB5 := HB2
    have G5 := G2
    clear HS hm hlt HX2 HB2 G2 HA1 HA2 HC
    have s0 := blk_cell HX5.out (j := 0) rfl
    have s1 := blk_cell HX5.out (j := 1) rfl
    have s2 := blk_cell HX5.out (j := 2) rfl
    have s3 := blk_cell HX5.out (j := 3) rfl
    go_wp2_with fail
    (with_reducible refine (l23NextE st 4 d (h.kept G5) (hl.kept G5) hw hn).mono ?_); rintro e w6 ⟨p6, c6, q6, d6, rfl, o6, l6, g6⟩
    have z6 := g6.sz
    have gE := gr_alloc w6 (.cells #[] 3)
    have o7 := IntO.mtM (w := w6) (m := w6.heap.size) rfl
    have g7 := g6.trans gE
    have HB7 := Lib.hid (g7.blk HB5.out)
    have G7 := G5.trans g7
    have o6m := IntO.mono (B' := w.heap.size + 2) (o6.kept gE) (by omega)
    have l6m := LgO.mono (B' := w.heap.size + 2) (l6.kept gE) (by omega)
    have o7m := IntO.mono (B' := w.heap.size + 2) o7 (by omega)
    have zE : w6.heap.size + 1 = (w6.alloc (.cells #[] 3)).heap.size := by simp
    clear s0 s1 s2 s3 o6 l6 o7
    have x0 := blk_cell HB7.out (j := 0) rfl
    have x1 := blk_cell HB7.out (j := 1) rfl
    have x2 := blk_cell HB7.out (j := 2) rfl
    have x3 := blk_cell HB7.out (j := 3) rfl
    have f0 := blk_frozen HB7.out 0
    have f1 := blk_frozen HB7.out 1
    have f2 := blk_frozen HB7.out 2
    have f3 := blk_frozen HB7.out 3
    go_wp2
    change bodyPost _ _ _ _ _ (put4 (w6.alloc (.cells #[] 3)) (w.heap.size + 1) (.int .i64 4) (.slice p6 ws.length c6) (.slice q6 ls.length d6) (.string ⟨#[]⟩))
    have hW := put4_blk HB7.out (.int .i64 4) (.slice p6 ws.length c6) (.slice q6 ls.length d6) (.string ⟨#[]⟩)
    have cW := put4_chg (w6.alloc (.cells #[] 3)) (w.heap.size + 1) (.int .i64 4) (.slice p6 ws.length c6) (.slice q6 ls.length d6) (.string ⟨#[]⟩)
    generalize put4 (w6.alloc (.cells #[] 3)) (w.heap.size + 1) (.int .i64 4) (.slice p6 ws.length c6) (.slice q6 ls.length d6) (.string ⟨#[]⟩) = wz at *
    have y0 := blk_cell hW (j := 0) rfl
    have y1 := blk_cell hW (j := 1) rfl
    have y2 := blk_cell hW (j := 2) rfl
    have y3 := blk_cell hW (j := 3) rfl
    exact bodyPost_ret (v := .tuple #[.agg #[.int .i64 4, .slice p6 ws.length c6, .slice q6 ls.length d6, .string ⟨#[]⟩], .slice (some ⟨w6.heap.size, 0, none⟩) 0 0]) (by simp [results, Tryz.results78, go_sem, y0, y1, y2, y3]) rfl (SpP.of (rep := []) HN.out ((IntO.keptC o6m cW (Nat.lt_succ_self _)).mono (by omega)) ((LgO.keptC l6m cW (Nat.lt_succ_self _)).mono (by omega)) ((IntO.keptC o7m cW (Nat.lt_succ_self _)).mono (by omega)) (cW.gr G7 (Nat.le_succ _)))
  have hlt' : ((m : Int) != (xs.length : Int)) = false := by simp; omega
  have hs1 : s = (if loginFits ls (tx su, tx sv) = true then 2 else 4, loginReply (loginFits ls (tx su, tx sv)), tx ⟨#[]⟩) := by rw [HS.out, hm]; simp only []; rw [if_pos hlt]; rfl
  obtain ⟨zu, zv⟩ := lgSz (loginFrom_sound hm).2.1
  have LF := Lib.hid (fun (W : World) (a : LgS W (.slice q ls.length caq) ls) => specLoginFits_c a su sv zu zv)
  have hl2 := hl0.kept g12
  clear HS hm hlt
  generalize loginFits ls (tx su, tx sv) = ft at *
  have x2 := blk_cell HX2.out (j := 2) rfl
  have s0 := blk_cell HC.out (j := 0) rfl
  have s1 := blk_cell HC.out (j := 1) rfl
  cases ft
  · have HN : Hid (s = (4, loginReply false, tx ⟨#[]⟩)) := Lib.hid hs1
    clear hs1
    go_wp2_with fail
    (with_reducible refine (LF.out _ hl2).mono ?_); rintro e w4 ⟨rfl, g4⟩
    clear x2
    have HX5 := Lib.hid (g4.blk HX2.out)
    have HB5 := Lib.hid (g4.blk HB2.out)
    have G5 := G2.trans g4
    have z4 := g4.sz
    clear HX2 HB2 G2 s0 s1
    have s0 := blk_cell HX5.out (j := 0) rfl
    have s1 := blk_cell HX5.out (j := 1) rfl
    have s2 := blk_cell HX5.out (j := 2) rfl
    have s3 := blk_cell HX5.out (j := 3) rfl
    go_wp2_with fail
    (with_reducible refine (l23NextE st 4 d (h.kept G5) (hl.kept G5) hw hn).mono ?_); rintro e w6 ⟨p6, c6, q6, d6, rfl, o6, l6, g6⟩
    have z6 := g6.sz
    go_wp2_with fail
    (with_reducible refine (specLoginReply_c _ _).mono ?_); rintro e w7 ⟨v7, rfl, o7, g7⟩
    obtain ⟨x7, f7, rfl⟩ := o7.len
    have g67 := g6.trans g7
    have HB7 := Lib.hid (g67.blk HB5.out)
    have G7 := G5.trans g67
    have o6m := IntO.mono (B' := w.heap.size + 2) (o6.kept g7) (by omega)
    have l6m := LgO.mono (B' := w.heap.size + 2) (l6.kept g7) (by omega)
    have o7m := IntO.mono (B' := w.heap.size + 2) o7 (by omega)
    clear s0 s1 s2 s3 o6 l6 o7
    have x0 := blk_cell HB7.out (j := 0) rfl
    have x1 := blk_cell HB7.out (j := 1) rfl
    have x2 := blk_cell HB7.out (j := 2) rfl
    have x3 := blk_cell HB7.out (j := 3) rfl
    have f0 := blk_frozen HB7.out 0
    have f1 := blk_frozen HB7.out 1
    have f2 := blk_frozen HB7.out 2
    have f3 := blk_frozen HB7.out 3
    go_wp2
    change bodyPost _ _ _ _ _ (put4 w7 (w.heap.size + 1) (.int .i64 4) (.slice p6 ws.length c6) (.slice q6 ls.length d6) (.string ⟨#[]⟩))
    have hW := put4_blk HB7.out (.int .i64 4) (.slice p6 ws.length c6) (.slice q6 ls.length d6) (.string ⟨#[]⟩)
    have cW := put4_chg w7 (w.heap.size + 1) (.int .i64 4) (.slice p6 ws.length c6) (.slice q6 ls.length d6) (.string ⟨#[]⟩)
    generalize put4 w7 (w.heap.size + 1) (.int .i64 4) (.slice p6 ws.length c6) (.slice q6 ls.length d6) (.string ⟨#[]⟩) = wz at *
    have y0 := blk_cell hW (j := 0) rfl
    have y1 := blk_cell hW (j := 1) rfl
    have y2 := blk_cell hW (j := 2) rfl
    have y3 := blk_cell hW (j := 3) rfl
    exact bodyPost_ret (v := .tuple #[.agg #[.int .i64 4, .slice p6 ws.length c6, .slice q6 ls.length d6, .string ⟨#[]⟩], .slice x7 (loginReply false).length f7]) (by simp [results, Tryz.results78, go_sem, y0, y1, y2, y3]) rfl (SpP.of HN.out ((IntO.keptC o6m cW (Nat.lt_succ_self _)).mono (by omega)) ((LgO.keptC l6m cW (Nat.lt_succ_self _)).mono (by omega)) ((IntO.keptC o7m cW (Nat.lt_succ_self _)).mono (by omega)) (cW.gr G7 (Nat.le_succ _)))
  · have HN : Hid (s = (2, loginReply true, tx ⟨#[]⟩)) := Lib.hid hs1
    clear hs1
    go_wp2_with fail
    (with_reducible refine (LF.out _ hl2).mono ?_); rintro e w4 ⟨rfl, g4⟩
    clear x2
    have HX5 := Lib.hid (g4.blk HX2.out)
    have HB5 := Lib.hid (g4.blk HB2.out)
    have G5 := G2.trans g4
    have z4 := g4.sz
    clear HX2 HB2 G2 s0 s1
    have s0 := blk_cell HX5.out (j := 0) rfl
    have s1 := blk_cell HX5.out (j := 1) rfl
    have s2 := blk_cell HX5.out (j := 2) rfl
    have s3 := blk_cell HX5.out (j := 3) rfl
    go_wp2_with fail
    (with_reducible refine (l23NextE st 2 d (h.kept G5) (hl.kept G5) hw hn).mono ?_); rintro e w6 ⟨p6, c6, q6, d6, rfl, o6, l6, g6⟩
    have z6 := g6.sz
    go_wp2_with fail
    (with_reducible refine (specLoginReply_c _ _).mono ?_); rintro e w7 ⟨v7, rfl, o7, g7⟩
    obtain ⟨x7, f7, rfl⟩ := o7.len
    have g67 := g6.trans g7
    have HB7 := Lib.hid (g67.blk HB5.out)
    have G7 := G5.trans g67
    have o6m := IntO.mono (B' := w.heap.size + 2) (o6.kept g7) (by omega)
    have l6m := LgO.mono (B' := w.heap.size + 2) (l6.kept g7) (by omega)
    have o7m := IntO.mono (B' := w.heap.size + 2) o7 (by omega)
    clear s0 s1 s2 s3 o6 l6 o7
    have x0 := blk_cell HB7.out (j := 0) rfl
    have x1 := blk_cell HB7.out (j := 1) rfl
    have x2 := blk_cell HB7.out (j := 2) rfl
    have x3 := blk_cell HB7.out (j := 3) rfl
    have f0 := blk_frozen HB7.out 0
    have f1 := blk_frozen HB7.out 1
    have f2 := blk_frozen HB7.out 2
    have f3 := blk_frozen HB7.out 3
    go_wp2
    change bodyPost _ _ _ _ _ (put4 w7 (w.heap.size + 1) (.int .i64 2) (.slice p6 ws.length c6) (.slice q6 ls.length d6) (.string ⟨#[]⟩))
    have hW := put4_blk HB7.out (.int .i64 2) (.slice p6 ws.length c6) (.slice q6 ls.length d6) (.string ⟨#[]⟩)
    have cW := put4_chg w7 (w.heap.size + 1) (.int .i64 2) (.slice p6 ws.length c6) (.slice q6 ls.length d6) (.string ⟨#[]⟩)
    generalize put4 w7 (w.heap.size + 1) (.int .i64 2) (.slice p6 ws.length c6) (.slice q6 ls.length d6) (.string ⟨#[]⟩) = wz at *
    have y0 := blk_cell hW (j := 0) rfl
    have y1 := blk_cell hW (j := 1) rfl
    have y2 := blk_cell hW (j := 2) rfl
    have y3 := blk_cell hW (j := 3) rfl
    exact bodyPost_ret (v := .tuple #[.agg #[.int .i64 2, .slice p6 ws.length c6, .slice q6 ls.length d6, .string ⟨#[]⟩], .slice x7 (loginReply true).length f7]) (by simp [results, Tryz.results78, go_sem, y0, y1, y2, y3]) rfl (SpP.of HN.out ((IntO.keptC o6m cW (Nat.lt_succ_self _)).mono (by omega)) ((LgO.keptC l6m cW (Nat.lt_succ_self _)).mono (by omega)) ((IntO.keptC o7m cW (Nat.lt_succ_self _)).mono (by omega)) (cW.gr G7 (Nat.le_succ _)))
set_option maxRecDepth 20000 in
set_option maxHeartbeats 8000000 in
theorem l23Request_c {w : World} {v u x : Value} {ws xs : List Int} {ls : List Lg} (st : Int) (d : ByteArray) (h : IntS w v ws) (hl : LgS w u ls) (hw : ws.length ≤ 1000000) (hn : ls.length ≤ 1000000) (hx : IntS w x xs) (hlen : xs.length ≤ 1048576) :
    Calls Tryz.prog 79 #[.agg #[.int .i64 st, v, u, .string d], x] w (SpP ws ls (sayReq xs) w) := by
  obtain ⟨p, cap, rfl, _, _⟩ := h.form
  obtain ⟨q, caq, rfl, _, _⟩ := hl.form
  obtain ⟨px, cx, rfl, _, _⟩ := hx.form
  have gA := (gr_alloc w (.cells #[.int .i64 st, .slice p ws.length cap, .slice q ls.length caq, .string d] 26)).alloc (.cells #[.int .i64 0, .slice none 0 0, .slice none 0 0, .string ⟨#[]⟩] 26)
  have hA1 := (gr_alloc (w.alloc (.cells #[.int .i64 st, .slice p ws.length cap, .slice q ls.length caq, .string d] 26)) (.cells #[.int .i64 0, .slice none 0 0, .slice none 0 0, .string ⟨#[]⟩] 26)).blk (heap_alloc_new w (.cells #[.int .i64 st, .slice p ws.length cap, .slice q ls.length caq, .string d] 26))
  have hA2 := heap_alloc_new (w.alloc (.cells #[.int .i64 st, .slice p ws.length cap, .slice q ls.length caq, .string d] 26)) (.cells #[.int .i64 0, .slice none 0 0, .slice none 0 0, .string ⟨#[]⟩] 26)
  have eA : (w.alloc (.cells #[.int .i64 st, .slice p ws.length cap, .slice q ls.length caq, .string d] 26)).heap.size = w.heap.size + 1 := by simp
  rw [eA] at hA2
  have zA : w.heap.size + 2 ≤ ((w.alloc (.cells #[.int .i64 st, .slice p ws.length cap, .slice q ls.length caq, .string d] 26)).alloc (.cells #[.int .i64 0, .slice none 0 0, .slice none 0 0, .string ⟨#[]⟩] 26)).heap.size := by simp
  have HA1 := Lib.hid hA1
  have HA2 := Lib.hid hA2
  have h0 := h.kept gA
  have hl0 := hl.kept gA
  have hx0 := hx.kept gA
  clear eA hA1 hA2
  have HS : Hid (sayReq xs = match reqFrom xs with | some r => if r.2.2 = xs.length then (if r.1 = 1 then 3 else 4, reqBytes (if r.1 = 1 then 0 else 7) r.2.1, if r.1 = 1 then addrText r.2.1 else []) else (4, [], []) | none => (4, [], [])) := rfl
  generalize sayReq xs = s at *
  go_enter Tryz.func79, Tryz.ntmps79
  go_upto_region 1 with fail
  generalize (w.alloc (.cells #[.int .i64 st, .slice p ws.length cap, .slice q ls.length caq, .string d] 26)).alloc (.cells #[.int .i64 0, .slice none 0 0, .slice none 0 0, .string ⟨#[]⟩] 26) = w0 at *
  go_wp2_with fail
  (with_reducible refine (specRequestFrom_c hx0 hlen).mono ?_); rintro e w1 ⟨cc, k, po, n, qd, nm, ok, q1, c1, rfl, hcase, o1, g1⟩
  have gC := gr_alloc w1 (.cells #[.int .i64 cc, .int .i64 k, .slice q1 qd.length c1, .string nm, .int .i64 po] 121)
  have hC := heap_alloc_new w1 (.cells #[.int .i64 cc, .int .i64 k, .slice q1 qd.length c1, .string nm, .int .i64 po] 121)
  have HC := Lib.hid hC
  have g12 := g1.trans gC
  have HX2 := Lib.hid (g12.blk HA1.out)
  have HB2 := Lib.hid (g12.blk HA2.out)
  have G2 := gA.trans g12
  have z1 := g1.sz
  have z2 := gC.sz
  have o2 := o1.kept gC
  clear hC o1
  go_upto_region 2 with fail
  generalize w1.alloc (.cells #[.int .i64 cc, .int .i64 k, .slice q1 qd.length c1, .string nm, .int .i64 po] 121) = w2 at *
  rcases hcase with ⟨m, hm, rfl, rfl⟩ | ⟨hno, rfl⟩
  rotate_left
  · have HN := Lib.hid (show s = (4, [], tx ⟨#[]⟩) by rw [HS.out, hno]; rfl)
    have HX5 := HX2
    have HB5 := HB2
    have G5 := G2
    clear HS hno HX2 HB2 G2 HA1 HA2 HC
    have s0 := blk_cell HX5.out (j := 0) rfl
    have s1 := blk_cell HX5.out (j := 1) rfl
    have s2 := blk_cell HX5.out (j := 2) rfl
    have s3 := blk_cell HX5.out (j := 3) rfl
    go_wp2_with fail
    (with_reducible refine (l23NextE st 4 d (h.kept G5) (hl.kept G5) hw hn).mono ?_); rintro e w6 ⟨p6, c6, q6, d6, rfl, o6, l6, g6⟩
    have z6 := g6.sz
    have gE := gr_alloc w6 (.cells #[] 3)
    have o7 := IntO.mtM (w := w6) (m := w6.heap.size) rfl
    have g7 := g6.trans gE
    have HB7 := Lib.hid (g7.blk HB5.out)
    have G7 := G5.trans g7
    have o6m := IntO.mono (B' := w.heap.size + 2) (o6.kept gE) (by omega)
    have l6m := LgO.mono (B' := w.heap.size + 2) (l6.kept gE) (by omega)
    have o7m := IntO.mono (B' := w.heap.size + 2) o7 (by omega)
    have zE : w6.heap.size + 1 = (w6.alloc (.cells #[] 3)).heap.size := by simp
    clear s0 s1 s2 s3 o6 l6 o7
    have x0 := blk_cell HB7.out (j := 0) rfl
    have x1 := blk_cell HB7.out (j := 1) rfl
    have x2 := blk_cell HB7.out (j := 2) rfl
    have x3 := blk_cell HB7.out (j := 3) rfl
    have f0 := blk_frozen HB7.out 0
    have f1 := blk_frozen HB7.out 1
    have f2 := blk_frozen HB7.out 2
    have f3 := blk_frozen HB7.out 3
    go_wp2
    change bodyPost _ _ _ _ _ (put4 (w6.alloc (.cells #[] 3)) (w.heap.size + 1) (.int .i64 4) (.slice p6 ws.length c6) (.slice q6 ls.length d6) (.string ⟨#[]⟩))
    have hW := put4_blk HB7.out (.int .i64 4) (.slice p6 ws.length c6) (.slice q6 ls.length d6) (.string ⟨#[]⟩)
    have cW := put4_chg (w6.alloc (.cells #[] 3)) (w.heap.size + 1) (.int .i64 4) (.slice p6 ws.length c6) (.slice q6 ls.length d6) (.string ⟨#[]⟩)
    generalize put4 (w6.alloc (.cells #[] 3)) (w.heap.size + 1) (.int .i64 4) (.slice p6 ws.length c6) (.slice q6 ls.length d6) (.string ⟨#[]⟩) = wz at *
    have y0 := blk_cell hW (j := 0) rfl
    have y1 := blk_cell hW (j := 1) rfl
    have y2 := blk_cell hW (j := 2) rfl
    have y3 := blk_cell hW (j := 3) rfl
    exact bodyPost_ret (v := .tuple #[.agg #[.int .i64 4, .slice p6 ws.length c6, .slice q6 ls.length d6, .string ⟨#[]⟩], .slice (some ⟨w6.heap.size, 0, none⟩) 0 0]) (by simp [results, Tryz.results79, go_sem, y0, y1, y2, y3]) rfl (SpP.of (rep := []) HN.out ((IntO.keptC o6m cW (Nat.lt_succ_self _)).mono (by omega)) ((LgO.keptC l6m cW (Nat.lt_succ_self _)).mono (by omega)) ((IntO.keptC o7m cW (Nat.lt_succ_self _)).mono (by omega)) (cW.gr G7 (Nat.le_succ _)))
  obtain ⟨_, hok, _⟩ := reqFrom_sound hm
  by_cases hlt : m = xs.length
  rotate_left
  · have HN := Lib.hid (show s = (4, [], tx ⟨#[]⟩) by rw [HS.out, hm]; simp only []; rw [if_neg hlt]; rfl)
    have hlt' : ((m : Int) != (xs.length : Int)) = true := by simp; omega
    have HX5 := HX2
    have HB5 := HB2
    have G5 := G2
    clear HS hm hlt hok HX2 HB2 G2 HA1 HA2 HC
    have s0 := blk_cell HX5.out (j := 0) rfl
    have s1 := blk_cell HX5.out (j := 1) rfl
    have s2 := blk_cell HX5.out (j := 2) rfl
    have s3 := blk_cell HX5.out (j := 3) rfl
    go_wp2_with fail
    (with_reducible refine (l23NextE st 4 d (h.kept G5) (hl.kept G5) hw hn).mono ?_); rintro e w6 ⟨p6, c6, q6, d6, rfl, o6, l6, g6⟩
    have z6 := g6.sz
    have gE := gr_alloc w6 (.cells #[] 3)
    have o7 := IntO.mtM (w := w6) (m := w6.heap.size) rfl
    have g7 := g6.trans gE
    have HB7 := Lib.hid (g7.blk HB5.out)
    have G7 := G5.trans g7
    have o6m := IntO.mono (B' := w.heap.size + 2) (o6.kept gE) (by omega)
    have l6m := LgO.mono (B' := w.heap.size + 2) (l6.kept gE) (by omega)
    have o7m := IntO.mono (B' := w.heap.size + 2) o7 (by omega)
    have zE : w6.heap.size + 1 = (w6.alloc (.cells #[] 3)).heap.size := by simp
    clear s0 s1 s2 s3 o6 l6 o7
    have x0 := blk_cell HB7.out (j := 0) rfl
    have x1 := blk_cell HB7.out (j := 1) rfl
    have x2 := blk_cell HB7.out (j := 2) rfl
    have x3 := blk_cell HB7.out (j := 3) rfl
    have f0 := blk_frozen HB7.out 0
    have f1 := blk_frozen HB7.out 1
    have f2 := blk_frozen HB7.out 2
    have f3 := blk_frozen HB7.out 3
    go_wp2
    change bodyPost _ _ _ _ _ (put4 (w6.alloc (.cells #[] 3)) (w.heap.size + 1) (.int .i64 4) (.slice p6 ws.length c6) (.slice q6 ls.length d6) (.string ⟨#[]⟩))
    have hW := put4_blk HB7.out (.int .i64 4) (.slice p6 ws.length c6) (.slice q6 ls.length d6) (.string ⟨#[]⟩)
    have cW := put4_chg (w6.alloc (.cells #[] 3)) (w.heap.size + 1) (.int .i64 4) (.slice p6 ws.length c6) (.slice q6 ls.length d6) (.string ⟨#[]⟩)
    generalize put4 (w6.alloc (.cells #[] 3)) (w.heap.size + 1) (.int .i64 4) (.slice p6 ws.length c6) (.slice q6 ls.length d6) (.string ⟨#[]⟩) = wz at *
    have y0 := blk_cell hW (j := 0) rfl
    have y1 := blk_cell hW (j := 1) rfl
    have y2 := blk_cell hW (j := 2) rfl
    have y3 := blk_cell hW (j := 3) rfl
    exact bodyPost_ret (v := .tuple #[.agg #[.int .i64 4, .slice p6 ws.length c6, .slice q6 ls.length d6, .string ⟨#[]⟩], .slice (some ⟨w6.heap.size, 0, none⟩) 0 0]) (by simp [results, Tryz.results79, go_sem, y0, y1, y2, y3]) rfl (SpP.of (rep := []) HN.out ((IntO.keptC o6m cW (Nat.lt_succ_self _)).mono (by omega)) ((LgO.keptC l6m cW (Nat.lt_succ_self _)).mono (by omega)) ((IntO.keptC o7m cW (Nat.lt_succ_self _)).mono (by omega)) (cW.gr G7 (Nat.le_succ _)))
  have hlt' : ((m : Int) != (xs.length : Int)) = false := by simp; omega
  have hs1 : s = (if cc = 1 then 3 else 4, reqBytes (if cc = 1 then 0 else 7) ⟨k, qd, tx nm, po⟩, if cc = 1 then addrText ⟨k, qd, tx nm, po⟩ else []) := by rw [HS.out, hm]; simp only []; rw [if_pos hlt]
  have hnl := adr_name_len hok
  simp only [tx_len] at hnl
  have hnm : nm.size ≤ 2000000 := by omega
  have HOK := Lib.hid hok
  clear HS hm hlt hnl
  by_cases k1 : cc = 1
  · have k1' : (cc != 1) = false := by simpa using k1
    rw [if_pos k1, if_pos k1, if_pos k1] at hs1
    have h08 : Hid (inB 0 8 0 = true) := rfl
    have AT := Lib.hid (fun (W : World) (hW : IntS W (.slice q1 qd.length c1) qd) => AddressText_c k po nm hW hnm)
    rw [hok, if_pos rfl] at AT
    generalize addrText ⟨k, qd, tx nm, po⟩ = tt at *
    obtain ⟨st', hst⟩ : ∃ st', S tt = st' := ⟨_, rfl⟩
    have htx : tt = tx st' := by rw [← hst, tx_S]
    rw [hst] at AT
    rw [htx] at hs1
    have HN := Lib.hid hs1
    clear hs1 hok htx hst
    have RP := Lib.hid (fun (W : World) (hW : IntS W (.slice q1 qd.length c1) qd) => specReply_t 0 k po nm hW hnm h08 HOK)
    generalize reqBytes 0 ⟨k, qd, tx nm, po⟩ = rep at *
    have s0 := blk_cell HC.out (j := 0) rfl
    have s1 := blk_cell HC.out (j := 1) rfl
    have s2 := blk_cell HC.out (j := 2) rfl
    have s3 := blk_cell HC.out (j := 3) rfl
    have s4 := blk_cell HC.out (j := 4) rfl
    go_wp2_with fail
    (with_reducible refine (RP.out _ o2.s).mono ?_); rintro e w5 ⟨v5, rfl, o5', g5⟩
    obtain ⟨x5, f5, rfl⟩ := o5'.len
    have HX5 := Lib.hid (g5.blk HX2.out)
    have HB5 := Lib.hid (g5.blk HB2.out)
    have HC5 := Lib.hid (g5.blk HC.out)
    have G5 := G2.trans g5
    have z5 := g5.sz
    have b5 := Own.b o5'
    have o2b := o2.kept g5
    clear HX2 HB2 G2 HA1 HA2 s0 s1 s2 s3 s4 HC o2 RP
    have s0 := blk_cell HX5.out (j := 0) rfl
    have s1 := blk_cell HX5.out (j := 1) rfl
    have s2 := blk_cell HX5.out (j := 2) rfl
    have s3 := blk_cell HX5.out (j := 3) rfl
    go_wp2_with fail
    (with_reducible refine (l23NextE st 3 d (h.kept G5) (hl.kept G5) hw hn).mono ?_); rintro e w6 ⟨p6, c6, q6, d6, rfl, o6, l6, g6⟩
    have z6 := g6.sz
    have gD := gr_alloc w6 (.cells #[.int .i64 3, .slice p6 ws.length c6, .slice q6 ls.length d6, .string ⟨#[]⟩] 26)
    have hD := heap_alloc_new w6 (.cells #[.int .i64 3, .slice p6 ws.length c6, .slice q6 ls.length d6, .string ⟨#[]⟩] 26)
    have HD := Lib.hid hD
    have g7 := g6.trans gD
    have HB7 := Lib.hid (g7.blk HB5.out)
    have HC7 := Lib.hid (g7.blk HC5.out)
    have G7 := G5.trans g7
    have b6 := (Own.b o6).kept gD
    have m6 := (Own.b l6).kept gD
    have b57 := b5.kept g7
    have o2c := o2b.kept g7
    clear hD s0 s1 s2 s3 HX5 HB5 HC5 o6 l6 b5 o2b
    go_upto_region 9 with fail
    generalize w6.alloc (.cells #[.int .i64 3, .slice p6 ws.length c6, .slice q6 ls.length d6, .string ⟨#[]⟩] 26) = w7 at *
    have s0 := blk_cell HC7.out (j := 0) rfl
    have s1 := blk_cell HC7.out (j := 1) rfl
    have s2 := blk_cell HC7.out (j := 2) rfl
    have s3 := blk_cell HC7.out (j := 3) rfl
    have s4 := blk_cell HC7.out (j := 4) rfl
    go_wp2_with fail
    (with_reducible refine (AT.out _ o2c.s).mono ?_); rintro e w8 ⟨rfl, g8⟩
    have HD8 := Lib.hid (g8.blk HD.out)
    have HB8 := Lib.hid (g8.blk HB7.out)
    have G8 := G7.trans g8
    have b6' := b6.kept g8
    have m6' := m6.kept g8
    have b58 := b57.kept g8
    clear s0 s1 s2 s3 s4 HD HB7 HC7 b6 m6 b57
    have x3 := blk_cell HD8.out (j := 3) rfl
    have f3 := blk_frozen HD8.out 3
    go_upto_region 10 with fail
    have dS := D.set (D.refl w6.heap.size w8) 3 (.string st')
    have hD9 := heap_set (j := 3) (x := .string st') HD8.out
    generalize w8.setCell ⟨w6.heap.size, 3, none⟩ (.string st') = w9 at *
    have HD9 : Hid (w9.heap[w6.heap.size]? = some (.cells #[.int .i64 3, .slice p6 ws.length c6, .slice q6 ls.length d6, .string st'] 26 (0, 0))) := hD9
    have HB9 := Lib.hid (dS.blk HB8.out (by omega))
    have G9 : Gr w w9 := dS.gr G8 (by omega)
    have b69 : IntO (w.heap.size + 2) 3 w9 (.slice p6 ws.length c6) ws := Own.mono (OwnB.beforeD b6' dS (Nat.le_refl _)).1 (by omega)
    have m69 : LgO (w.heap.size + 2) w9 (.slice q6 ls.length d6) ls := Own.mono (OwnB.beforeD m6' dS (Nat.le_refl _)).1 (by omega)
    have b59 : IntO (w.heap.size + 2) 3 w9 (.slice x5 rep.length f5) rep := Own.mono (OwnB.beforeD b58 dS z6).1 (by omega)
    clear hD9 x3 f3 HB8 HD8 b6' m6' b58
    have s0 := blk_cell HD9.out (j := 0) rfl
    have s1 := blk_cell HD9.out (j := 1) rfl
    have s2 := blk_cell HD9.out (j := 2) rfl
    have s3 := blk_cell HD9.out (j := 3) rfl
    have x0 := blk_cell HB9.out (j := 0) rfl
    have x1 := blk_cell HB9.out (j := 1) rfl
    have x2 := blk_cell HB9.out (j := 2) rfl
    have x3 := blk_cell HB9.out (j := 3) rfl
    have f0 := blk_frozen HB9.out 0
    have f1 := blk_frozen HB9.out 1
    have f2 := blk_frozen HB9.out 2
    have f3 := blk_frozen HB9.out 3
    go_wp2
    change bodyPost _ _ _ _ _ (put4 w9 (w.heap.size + 1) (.int .i64 3) (.slice p6 ws.length c6) (.slice q6 ls.length d6) (.string st'))
    have hW := put4_blk HB9.out (.int .i64 3) (.slice p6 ws.length c6) (.slice q6 ls.length d6) (.string st')
    have cW := put4_chg w9 (w.heap.size + 1) (.int .i64 3) (.slice p6 ws.length c6) (.slice q6 ls.length d6) (.string st')
    generalize put4 w9 (w.heap.size + 1) (.int .i64 3) (.slice p6 ws.length c6) (.slice q6 ls.length d6) (.string st') = wz at *
    have y0 := blk_cell hW (j := 0) rfl
    have y1 := blk_cell hW (j := 1) rfl
    have y2 := blk_cell hW (j := 2) rfl
    have y3 := blk_cell hW (j := 3) rfl
    exact bodyPost_ret (v := .tuple #[.agg #[.int .i64 3, .slice p6 ws.length c6, .slice q6 ls.length d6, .string st'], .slice x5 rep.length f5]) (by simp [results, Tryz.results79, go_sem, y0, y1, y2, y3]) rfl (SpP.of HN.out ((IntO.keptC b69 cW (Nat.lt_succ_self _)).mono (by omega)) ((LgO.keptC m69 cW (Nat.lt_succ_self _)).mono (by omega)) ((IntO.keptC b59 cW (Nat.lt_succ_self _)).mono (by omega)) (cW.gr G9 (Nat.le_succ _)))
  · have k1' : (cc != 1) = true := by simpa using k1
    rw [if_neg k1, if_neg k1, if_neg k1] at hs1
    have HN : Hid (s = (4, reqBytes 7 ⟨k, qd, tx nm, po⟩, tx ⟨#[]⟩)) := Lib.hid hs1
    have h78 : Hid (inB 0 8 7 = true) := rfl
    have RP := Lib.hid (fun (W : World) (hW : IntS W (.slice q1 qd.length c1) qd) => specReply_t 7 k po nm hW hnm h78 HOK)
    clear hs1 hok k1
    generalize reqBytes 7 ⟨k, qd, tx nm, po⟩ = rep at *
    have s0 := blk_cell HC.out (j := 0) rfl
    have s1 := blk_cell HC.out (j := 1) rfl
    have s2 := blk_cell HC.out (j := 2) rfl
    have s3 := blk_cell HC.out (j := 3) rfl
    have s4 := blk_cell HC.out (j := 4) rfl
    go_wp2_with fail
    (with_reducible refine (RP.out _ o2.s).mono ?_); rintro e w5 ⟨v5, rfl, o5', g5⟩
    obtain ⟨x5, f5, rfl⟩ := o5'.len
    have HX5 := Lib.hid (g5.blk HX2.out)
    have HB5 := Lib.hid (g5.blk HB2.out)
    have G5 := G2.trans g5
    have z5 := g5.sz
    have o5 := IntO.mono (B' := w.heap.size + 2) o5' (by omega)
    clear HX2 HB2 G2 HA1 HA2 o5' s0 s1 s2 s3 s4 HC
    have s0 := blk_cell HX5.out (j := 0) rfl
    have s1 := blk_cell HX5.out (j := 1) rfl
    have s2 := blk_cell HX5.out (j := 2) rfl
    have s3 := blk_cell HX5.out (j := 3) rfl
    go_wp2_with fail
    (with_reducible refine (l23NextE st 4 d (h.kept G5) (hl.kept G5) hw hn).mono ?_); rintro e w6 ⟨p6, c6, q6, d6, rfl, o6, l6, g6⟩
    have HB6 := Lib.hid (g6.blk HB5.out)
    have G6 := G5.trans g6
    have o5' := IntO.kept o5 g6
    have o6m := IntO.mono (B' := w.heap.size + 2) o6 (by omega)
    have l6m := LgO.mono (B' := w.heap.size + 2) l6 (by omega)
    clear s0 s1 s2 s3 o6 l6
    have x0 := blk_cell HB6.out (j := 0) rfl
    have x1 := blk_cell HB6.out (j := 1) rfl
    have x2 := blk_cell HB6.out (j := 2) rfl
    have x3 := blk_cell HB6.out (j := 3) rfl
    have f0 := blk_frozen HB6.out 0
    have f1 := blk_frozen HB6.out 1
    have f2 := blk_frozen HB6.out 2
    have f3 := blk_frozen HB6.out 3
    go_wp2
    change bodyPost _ _ _ _ _ (put4 w6 (w.heap.size + 1) (.int .i64 4) (.slice p6 ws.length c6) (.slice q6 ls.length d6) (.string ⟨#[]⟩))
    have hW := put4_blk HB6.out (.int .i64 4) (.slice p6 ws.length c6) (.slice q6 ls.length d6) (.string ⟨#[]⟩)
    have cW := put4_chg w6 (w.heap.size + 1) (.int .i64 4) (.slice p6 ws.length c6) (.slice q6 ls.length d6) (.string ⟨#[]⟩)
    generalize put4 w6 (w.heap.size + 1) (.int .i64 4) (.slice p6 ws.length c6) (.slice q6 ls.length d6) (.string ⟨#[]⟩) = wz at *
    have y0 := blk_cell hW (j := 0) rfl
    have y1 := blk_cell hW (j := 1) rfl
    have y2 := blk_cell hW (j := 2) rfl
    have y3 := blk_cell hW (j := 3) rfl
    exact bodyPost_ret (v := .tuple #[.agg #[.int .i64 4, .slice p6 ws.length c6, .slice q6 ls.length d6, .string ⟨#[]⟩], .slice x5 (rep).length f5]) (by simp [results, Tryz.results79, go_sem, y0, y1, y2, y3]) rfl (SpP.of HN.out ((IntO.keptC o6m cW (Nat.lt_succ_self _)).mono (by omega)) ((LgO.keptC l6m cW (Nat.lt_succ_self _)).mono (by omega)) ((IntO.keptC o5' cW (Nat.lt_succ_self _)).mono (by omega)) (cW.gr G6 (Nat.le_succ _)))
theorem say_tx0 {t : Tlk} {xs : List Int} {s : Int × List Int × Tx} (h : say t xs = s) : say t xs = (s.1, s.2.1, s.2.2) := h
set_option maxRecDepth 20000 in
set_option maxHeartbeats 8000000 in
theorem specTalkSay_c {w : World} {v u x : Value} {ws xs : List Int} {ls : List Lg} (st : Int) (d : ByteArray) (h : IntS w v ws) (hl : LgS w u ls) (hs : LgSm ls) (hd : d.size ≤ 2000000) (hw : ws.length ≤ 1000000) (hn : ls.length ≤ 1000000) (hx : IntS w x xs) (hlen : xs.length ≤ 1048576) :
    Calls Tryz.prog 35 #[.agg #[.int .i64 st, v, u, .string d], x] w (SyO (sayR ⟨st, ws, ls, tx d⟩ xs) w) := by
  obtain ⟨p, cap, rfl, _, _⟩ := h.form
  obtain ⟨q, caq, rfl, _, _⟩ := hl.form
  obtain ⟨px, cx, rfl, _, _⟩ := hx.form
  have gA := (gr_alloc w (.cells #[.int .i64 st, .slice p ws.length cap, .slice q ls.length caq, .string d] 26)).alloc (.cells #[.int .i64 0, .slice none 0 0, .slice none 0 0, .string ⟨#[]⟩] 26)
  have hA1 := (gr_alloc (w.alloc (.cells #[.int .i64 st, .slice p ws.length cap, .slice q ls.length caq, .string d] 26)) (.cells #[.int .i64 0, .slice none 0 0, .slice none 0 0, .string ⟨#[]⟩] 26)).blk (heap_alloc_new w (.cells #[.int .i64 st, .slice p ws.length cap, .slice q ls.length caq, .string d] 26))
  have hA2 := heap_alloc_new (w.alloc (.cells #[.int .i64 st, .slice p ws.length cap, .slice q ls.length caq, .string d] 26)) (.cells #[.int .i64 0, .slice none 0 0, .slice none 0 0, .string ⟨#[]⟩] 26)
  have eA : (w.alloc (.cells #[.int .i64 st, .slice p ws.length cap, .slice q ls.length caq, .string d] 26)).heap.size = w.heap.size + 1 := by simp
  rw [eA] at hA2
  have zA : w.heap.size + 2 ≤ ((w.alloc (.cells #[.int .i64 st, .slice p ws.length cap, .slice q ls.length caq, .string d] 26)).alloc (.cells #[.int .i64 0, .slice none 0 0, .slice none 0 0, .string ⟨#[]⟩] 26)).heap.size := by simp
  have HA1 := Lib.hid hA1
  have HA2 := Lib.hid hA2
  have h0 := h.kept gA
  have hl0 := hl.kept gA
  have hx0 := hx.kept gA
  clear eA hA1 hA2
  have HK : Hid (sayOk ⟨st, ws, ls, tx d⟩ xs = (talkOk ⟨st, ws, ls, tx d⟩ && (bv xs && decide (st < 3)))) := rfl
  cases h1 : talkOk ⟨st, ws, ls, tx d⟩
  · have HN : Hid (sayOk ⟨st, ws, ls, tx d⟩ xs = false) := Lib.hid (by rw [HK.out, h1]; rfl)
    have H1 := Lib.hid h1
    clear h1 HK
    go_enter Tryz.func35, Tryz.ntmps35
    go_upto_region 1 with fail
    generalize (w.alloc (.cells #[.int .i64 st, .slice p ws.length cap, .slice q ls.length caq, .string d] 26)).alloc (.cells #[.int .i64 0, .slice none 0 0, .slice none 0 0, .string ⟨#[]⟩] 26) = w0 at *
    have s0 := blk_cell HA1.out (j := 0) rfl
    have s1 := blk_cell HA1.out (j := 1) rfl
    have s2 := blk_cell HA1.out (j := 2) rfl
    have s3 := blk_cell HA1.out (j := 3) rfl
    go_wp2_with fail
    (with_reducible refine (specTalkValid_c st d h0 hl0 hs hd).mono ?_); rintro e w1 ⟨rfl, g1⟩
    rw [H1.out]
    have HX5 := Lib.hid (g1.blk HA1.out)
    have HB5 := Lib.hid (g1.blk HA2.out)
    have G5 := gA.trans g1
    have z1 := g1.sz
    clear s0 s1 s2 s3
    generalize w1 = w5 at *
    have gE := gr_alloc w5 (.cells #[] 3)
    have o7 := IntO.mtM (w := w5) (m := w5.heap.size) rfl
    have HB7 := Lib.hid (gE.blk HB5.out)
    have G7 := G5.trans gE
    have z5 := G5.sz
    have o7m := IntO.mono (B' := w.heap.size + 2) o7 (by omega)
    have x0 := blk_cell HB7.out (j := 0) rfl
    have x1 := blk_cell HB7.out (j := 1) rfl
    have x2 := blk_cell HB7.out (j := 2) rfl
    have x3 := blk_cell HB7.out (j := 3) rfl
    have f0 := blk_frozen HB7.out 0
    have f1 := blk_frozen HB7.out 1
    have f2 := blk_frozen HB7.out 2
    have f3 := blk_frozen HB7.out 3
    go_wp2
    change bodyPost _ _ _ _ _ (put4 (w5.alloc (.cells #[] 3)) (w.heap.size + 1) (.int .i64 0) (.slice none 0 0) (.slice none 0 0) (.string ⟨#[]⟩))
    have hW := put4_blk HB7.out (.int .i64 0) (.slice none 0 0) (.slice none 0 0) (.string ⟨#[]⟩)
    have cW := put4_chg (w5.alloc (.cells #[] 3)) (w.heap.size + 1) (.int .i64 0) (.slice none 0 0) (.slice none 0 0) (.string ⟨#[]⟩)
    generalize put4 (w5.alloc (.cells #[] 3)) (w.heap.size + 1) (.int .i64 0) (.slice none 0 0) (.slice none 0 0) (.string ⟨#[]⟩) = wz at *
    have y0 := blk_cell hW (j := 0) rfl
    have y1 := blk_cell hW (j := 1) rfl
    have y2 := blk_cell hW (j := 2) rfl
    have y3 := blk_cell hW (j := 3) rfl
    exact bodyPost_ret (v := .tuple #[.agg #[.int .i64 0, .slice none 0 0, .slice none 0 0, .string ⟨#[]⟩], .slice (some ⟨w5.heap.size, 0, none⟩) 0 0, .bool false]) (by simp [results, Tryz.results35, go_sem, y0, y1, y2, y3]) rfl (SyO.no HN.out ((IntO.keptC o7m cW (Nat.lt_succ_self _)).mono (by omega)) (cW.gr G7 (Nat.le_succ _)))
  have H1 := Lib.hid h1
  cases h2 : bv xs
  · have HN : Hid (sayOk ⟨st, ws, ls, tx d⟩ xs = false) := Lib.hid (by rw [HK.out, h1, h2]; rfl)
    have H2 := Lib.hid h2
    clear h1 h2 HK
    go_enter Tryz.func35, Tryz.ntmps35
    go_upto_region 1 with fail
    generalize (w.alloc (.cells #[.int .i64 st, .slice p ws.length cap, .slice q ls.length caq, .string d] 26)).alloc (.cells #[.int .i64 0, .slice none 0 0, .slice none 0 0, .string ⟨#[]⟩] 26) = w0 at *
    have s0 := blk_cell HA1.out (j := 0) rfl
    have s1 := blk_cell HA1.out (j := 1) rfl
    have s2 := blk_cell HA1.out (j := 2) rfl
    have s3 := blk_cell HA1.out (j := 3) rfl
    go_wp2_with fail
    (with_reducible refine (specTalkValid_c st d h0 hl0 hs hd).mono ?_); rintro e w1 ⟨rfl, g1⟩
    rw [H1.out]
    have HX5 := Lib.hid (g1.blk HA1.out)
    have HB5 := Lib.hid (g1.blk HA2.out)
    have G5 := gA.trans g1
    have z1 := g1.sz
    clear s0 s1 s2 s3
    go_wp2_with fail
    (with_reducible refine (specBytesValid_c (hx0.kept g1)).mono ?_); rintro e w1' ⟨rfl, rfl⟩
    rw [H2.out]
    generalize w1 = w5 at *
    have gE := gr_alloc w5 (.cells #[] 3)
    have o7 := IntO.mtM (w := w5) (m := w5.heap.size) rfl
    have HB7 := Lib.hid (gE.blk HB5.out)
    have G7 := G5.trans gE
    have z5 := G5.sz
    have o7m := IntO.mono (B' := w.heap.size + 2) o7 (by omega)
    have x0 := blk_cell HB7.out (j := 0) rfl
    have x1 := blk_cell HB7.out (j := 1) rfl
    have x2 := blk_cell HB7.out (j := 2) rfl
    have x3 := blk_cell HB7.out (j := 3) rfl
    have f0 := blk_frozen HB7.out 0
    have f1 := blk_frozen HB7.out 1
    have f2 := blk_frozen HB7.out 2
    have f3 := blk_frozen HB7.out 3
    go_wp2
    change bodyPost _ _ _ _ _ (put4 (w5.alloc (.cells #[] 3)) (w.heap.size + 1) (.int .i64 0) (.slice none 0 0) (.slice none 0 0) (.string ⟨#[]⟩))
    have hW := put4_blk HB7.out (.int .i64 0) (.slice none 0 0) (.slice none 0 0) (.string ⟨#[]⟩)
    have cW := put4_chg (w5.alloc (.cells #[] 3)) (w.heap.size + 1) (.int .i64 0) (.slice none 0 0) (.slice none 0 0) (.string ⟨#[]⟩)
    generalize put4 (w5.alloc (.cells #[] 3)) (w.heap.size + 1) (.int .i64 0) (.slice none 0 0) (.slice none 0 0) (.string ⟨#[]⟩) = wz at *
    have y0 := blk_cell hW (j := 0) rfl
    have y1 := blk_cell hW (j := 1) rfl
    have y2 := blk_cell hW (j := 2) rfl
    have y3 := blk_cell hW (j := 3) rfl
    exact bodyPost_ret (v := .tuple #[.agg #[.int .i64 0, .slice none 0 0, .slice none 0 0, .string ⟨#[]⟩], .slice (some ⟨w5.heap.size, 0, none⟩) 0 0, .bool false]) (by simp [results, Tryz.results35, go_sem, y0, y1, y2, y3]) rfl (SyO.no HN.out ((IntO.keptC o7m cW (Nat.lt_succ_self _)).mono (by omega)) (cW.gr G7 (Nat.le_succ _)))
  have H2 := Lib.hid h2
  obtain ⟨t1, t2, t3, t4, t5⟩ := talk_parts h1
  simp only [] at t2
  by_cases h3 : st < 3
  rotate_left
  · have HN : Hid (sayOk ⟨st, ws, ls, tx d⟩ xs = false) := Lib.hid (by rw [HK.out, h1, h2, decide_eq_false h3]; rfl)
    have e0 : (st == 0) = false := beq_eq_false_iff_ne.2 (by omega)
    have e1 : (st == 1) = false := beq_eq_false_iff_ne.2 (by omega)
    have e2 : (st == 2) = false := beq_eq_false_iff_ne.2 (by omega)
    clear h1 h2 h3 HK t1 t2 t3 t4 t5
    go_enter Tryz.func35, Tryz.ntmps35
    go_upto_region 1 with fail
    generalize (w.alloc (.cells #[.int .i64 st, .slice p ws.length cap, .slice q ls.length caq, .string d] 26)).alloc (.cells #[.int .i64 0, .slice none 0 0, .slice none 0 0, .string ⟨#[]⟩] 26) = w0 at *
    have s0 := blk_cell HA1.out (j := 0) rfl
    have s1 := blk_cell HA1.out (j := 1) rfl
    have s2 := blk_cell HA1.out (j := 2) rfl
    have s3 := blk_cell HA1.out (j := 3) rfl
    go_wp2_with fail
    (with_reducible refine (specTalkValid_c st d h0 hl0 hs hd).mono ?_); rintro e w1 ⟨rfl, g1⟩
    rw [H1.out]
    have HX5 := Lib.hid (g1.blk HA1.out)
    have HB5 := Lib.hid (g1.blk HA2.out)
    have G5 := gA.trans g1
    have z1 := g1.sz
    clear s0 s1 s2 s3
    go_wp2_with fail
    (with_reducible refine (specBytesValid_c (hx0.kept g1)).mono ?_); rintro e w1' ⟨rfl, rfl⟩
    rw [H2.out]
    generalize w1 = w5 at *
    have s0 := blk_cell HX5.out (j := 0) rfl
    have gE := gr_alloc w5 (.cells #[] 3)
    have o7 := IntO.mtM (w := w5) (m := w5.heap.size) rfl
    have HB7 := Lib.hid (gE.blk HB5.out)
    have G7 := G5.trans gE
    have z5 := G5.sz
    have o7m := IntO.mono (B' := w.heap.size + 2) o7 (by omega)
    have x0 := blk_cell HB7.out (j := 0) rfl
    have x1 := blk_cell HB7.out (j := 1) rfl
    have x2 := blk_cell HB7.out (j := 2) rfl
    have x3 := blk_cell HB7.out (j := 3) rfl
    have f0 := blk_frozen HB7.out 0
    have f1 := blk_frozen HB7.out 1
    have f2 := blk_frozen HB7.out 2
    have f3 := blk_frozen HB7.out 3
    go_wp2
    change bodyPost _ _ _ _ _ (put4 (w5.alloc (.cells #[] 3)) (w.heap.size + 1) (.int .i64 0) (.slice none 0 0) (.slice none 0 0) (.string ⟨#[]⟩))
    have hW := put4_blk HB7.out (.int .i64 0) (.slice none 0 0) (.slice none 0 0) (.string ⟨#[]⟩)
    have cW := put4_chg (w5.alloc (.cells #[] 3)) (w.heap.size + 1) (.int .i64 0) (.slice none 0 0) (.slice none 0 0) (.string ⟨#[]⟩)
    generalize put4 (w5.alloc (.cells #[] 3)) (w.heap.size + 1) (.int .i64 0) (.slice none 0 0) (.slice none 0 0) (.string ⟨#[]⟩) = wz at *
    have y0 := blk_cell hW (j := 0) rfl
    have y1 := blk_cell hW (j := 1) rfl
    have y2 := blk_cell hW (j := 2) rfl
    have y3 := blk_cell hW (j := 3) rfl
    exact bodyPost_ret (v := .tuple #[.agg #[.int .i64 0, .slice none 0 0, .slice none 0 0, .string ⟨#[]⟩], .slice (some ⟨w5.heap.size, 0, none⟩) 0 0, .bool false]) (by simp [results, Tryz.results35, go_sem, y0, y1, y2, y3]) rfl (SyO.no HN.out ((IntO.keptC o7m cW (Nat.lt_succ_self _)).mono (by omega)) (cW.gr G7 (Nat.le_succ _)))
  have HN : Hid (sayOk ⟨st, ws, ls, tx d⟩ xs = true) := Lib.hid (by rw [HK.out, h1, h2, decide_eq_true h3]; rfl)
  clear h1 h2 HK t1 t3 t4 t5
  obtain rfl | rfl | rfl : st = 0 ∨ st = 1 ∨ st = 2 := by omega
  · have hss : say ⟨0, ws, ls, tx d⟩ xs = ((sayHello ws xs).1, (sayHello ws xs).2.1, (sayHello ws xs).2.2) := say_tx0 (say_hello rfl)
    have HSS := Lib.hid hss
    clear hss t2 h3
    go_enter Tryz.func35, Tryz.ntmps35
    go_upto_region 1 with fail
    generalize (w.alloc (.cells #[.int .i64 0, .slice p ws.length cap, .slice q ls.length caq, .string d] 26)).alloc (.cells #[.int .i64 0, .slice none 0 0, .slice none 0 0, .string ⟨#[]⟩] 26) = w0 at *
    have s0 := blk_cell HA1.out (j := 0) rfl
    have s1 := blk_cell HA1.out (j := 1) rfl
    have s2 := blk_cell HA1.out (j := 2) rfl
    have s3 := blk_cell HA1.out (j := 3) rfl
    go_wp2_with fail
    (with_reducible refine (specTalkValid_c 0 d h0 hl0 hs hd).mono ?_); rintro e w1 ⟨rfl, g1⟩
    rw [H1.out]
    have HX5 := Lib.hid (g1.blk HA1.out)
    have HB5 := Lib.hid (g1.blk HA2.out)
    have G5 := gA.trans g1
    have z1 := g1.sz
    clear s0 s1 s2 s3
    go_wp2_with fail
    (with_reducible refine (specBytesValid_c (hx0.kept g1)).mono ?_); rintro e w1' ⟨rfl, rfl⟩
    rw [H2.out]
    have s0 := blk_cell HX5.out (j := 0) rfl
    have s1 := blk_cell HX5.out (j := 1) rfl
    have s2 := blk_cell HX5.out (j := 2) rfl
    have s3 := blk_cell HX5.out (j := 3) rfl
    have TC := l23Hello_c 0 d (h0.kept g1) (hl0.kept g1) hw hn (hx0.kept g1) hlen
    generalize sayHello ws xs = s at *
    go_wp2_with fail
    (with_reducible refine TC.mono ?_); rintro e w2 ⟨p2, q2, xr, c2, d2, fr, dst, rfl, hdst, o2, l2, r2, g2⟩
    clear TC s0 s1 s2 s3
    obtain ⟨s0', s1', s2'⟩ := s
    simp only [] at o2 l2 r2 hdst HSS
    rw [hdst.out] at HSS
    have z2 := g2.sz
    have gD := gr_alloc w2 (.cells #[.int .i64 s0', .slice p2 ws.length c2, .slice q2 ls.length d2, .string dst] 26)
    have hD := heap_alloc_new w2 (.cells #[.int .i64 s0', .slice p2 ws.length c2, .slice q2 ls.length d2, .string dst] 26)
    have HD := Lib.hid hD
    have HB3 := Lib.hid (gD.blk (g2.blk HB5.out))
    have G3 := (G5.trans g2).trans gD
    have o3 := IntO.mono (B' := w.heap.size + 2) (o2.kept gD) (by omega)
    have l3 := LgO.mono (B' := w.heap.size + 2) (l2.kept gD) (by omega)
    have r3 := IntO.mono (B' := w.heap.size + 2) (r2.kept gD) (by omega)
    clear hD o2 l2 r2 HB5 HX5 hdst
    go_upto_region 6 with fail
    generalize w2.alloc (.cells #[.int .i64 s0', .slice p2 ws.length c2, .slice q2 ls.length d2, .string dst] 26) = w3 at *
    have s0 := blk_cell HD.out (j := 0) rfl
    have s1 := blk_cell HD.out (j := 1) rfl
    have s2 := blk_cell HD.out (j := 2) rfl
    have s3 := blk_cell HD.out (j := 3) rfl
    have x0 := blk_cell HB3.out (j := 0) rfl
    have x1 := blk_cell HB3.out (j := 1) rfl
    have x2 := blk_cell HB3.out (j := 2) rfl
    have x3 := blk_cell HB3.out (j := 3) rfl
    have f0 := blk_frozen HB3.out 0
    have f1 := blk_frozen HB3.out 1
    have f2 := blk_frozen HB3.out 2
    have f3 := blk_frozen HB3.out 3
    go_wp2
    change bodyPost _ _ _ _ _ (put4 w3 (w.heap.size + 1) (.int .i64 s0') (.slice p2 ws.length c2) (.slice q2 ls.length d2) (.string dst))
    have hW := put4_blk HB3.out (.int .i64 s0') (.slice p2 ws.length c2) (.slice q2 ls.length d2) (.string dst)
    have cW := put4_chg w3 (w.heap.size + 1) (.int .i64 s0') (.slice p2 ws.length c2) (.slice q2 ls.length d2) (.string dst)
    generalize put4 w3 (w.heap.size + 1) (.int .i64 s0') (.slice p2 ws.length c2) (.slice q2 ls.length d2) (.string dst) = wz at *
    have y0 := blk_cell hW (j := 0) rfl
    have y1 := blk_cell hW (j := 1) rfl
    have y2 := blk_cell hW (j := 2) rfl
    have y3 := blk_cell hW (j := 3) rfl
    exact bodyPost_ret (v := .tuple #[.agg #[.int .i64 s0', .slice p2 ws.length c2, .slice q2 ls.length d2, .string dst], .slice xr s1'.length fr, .bool true]) (by simp [results, Tryz.results35, go_sem, y0, y1, y2, y3]) rfl (SyO.yes HN.out HSS.out ((IntO.keptC o3 cW (Nat.lt_succ_self _)).mono (by omega)) ((LgO.keptC l3 cW (Nat.lt_succ_self _)).mono (by omega)) ((IntO.keptC r3 cW (Nat.lt_succ_self _)).mono (by omega)) (cW.gr G3 (Nat.le_succ _)))
  · have hss : say ⟨1, ws, ls, tx d⟩ xs = ((sayLogin ls xs).1, (sayLogin ls xs).2.1, (sayLogin ls xs).2.2) := say_tx0 (say_login rfl)
    have HSS := Lib.hid hss
    clear hss t2 h3
    go_enter Tryz.func35, Tryz.ntmps35
    go_upto_region 1 with fail
    generalize (w.alloc (.cells #[.int .i64 1, .slice p ws.length cap, .slice q ls.length caq, .string d] 26)).alloc (.cells #[.int .i64 0, .slice none 0 0, .slice none 0 0, .string ⟨#[]⟩] 26) = w0 at *
    have s0 := blk_cell HA1.out (j := 0) rfl
    have s1 := blk_cell HA1.out (j := 1) rfl
    have s2 := blk_cell HA1.out (j := 2) rfl
    have s3 := blk_cell HA1.out (j := 3) rfl
    go_wp2_with fail
    (with_reducible refine (specTalkValid_c 1 d h0 hl0 hs hd).mono ?_); rintro e w1 ⟨rfl, g1⟩
    rw [H1.out]
    have HX5 := Lib.hid (g1.blk HA1.out)
    have HB5 := Lib.hid (g1.blk HA2.out)
    have G5 := gA.trans g1
    have z1 := g1.sz
    clear s0 s1 s2 s3
    go_wp2_with fail
    (with_reducible refine (specBytesValid_c (hx0.kept g1)).mono ?_); rintro e w1' ⟨rfl, rfl⟩
    rw [H2.out]
    have s0 := blk_cell HX5.out (j := 0) rfl
    have s1 := blk_cell HX5.out (j := 1) rfl
    have s2 := blk_cell HX5.out (j := 2) rfl
    have s3 := blk_cell HX5.out (j := 3) rfl
    have TC := l23Login_c 1 d (h0.kept g1) (hl0.kept g1) hw hn (hx0.kept g1) hlen
    generalize sayLogin ls xs = s at *
    go_wp2_with fail
    (with_reducible refine TC.mono ?_); rintro e w2 ⟨p2, q2, xr, c2, d2, fr, dst, rfl, hdst, o2, l2, r2, g2⟩
    clear TC s0 s1 s2 s3
    obtain ⟨s0', s1', s2'⟩ := s
    simp only [] at o2 l2 r2 hdst HSS
    rw [hdst.out] at HSS
    have z2 := g2.sz
    have gD := gr_alloc w2 (.cells #[.int .i64 s0', .slice p2 ws.length c2, .slice q2 ls.length d2, .string dst] 26)
    have hD := heap_alloc_new w2 (.cells #[.int .i64 s0', .slice p2 ws.length c2, .slice q2 ls.length d2, .string dst] 26)
    have HD := Lib.hid hD
    have HB3 := Lib.hid (gD.blk (g2.blk HB5.out))
    have G3 := (G5.trans g2).trans gD
    have o3 := IntO.mono (B' := w.heap.size + 2) (o2.kept gD) (by omega)
    have l3 := LgO.mono (B' := w.heap.size + 2) (l2.kept gD) (by omega)
    have r3 := IntO.mono (B' := w.heap.size + 2) (r2.kept gD) (by omega)
    clear hD o2 l2 r2 HB5 HX5 hdst
    go_upto_region 9 with fail
    generalize w2.alloc (.cells #[.int .i64 s0', .slice p2 ws.length c2, .slice q2 ls.length d2, .string dst] 26) = w3 at *
    have s0 := blk_cell HD.out (j := 0) rfl
    have s1 := blk_cell HD.out (j := 1) rfl
    have s2 := blk_cell HD.out (j := 2) rfl
    have s3 := blk_cell HD.out (j := 3) rfl
    have x0 := blk_cell HB3.out (j := 0) rfl
    have x1 := blk_cell HB3.out (j := 1) rfl
    have x2 := blk_cell HB3.out (j := 2) rfl
    have x3 := blk_cell HB3.out (j := 3) rfl
    have f0 := blk_frozen HB3.out 0
    have f1 := blk_frozen HB3.out 1
    have f2 := blk_frozen HB3.out 2
    have f3 := blk_frozen HB3.out 3
    go_wp2
    change bodyPost _ _ _ _ _ (put4 w3 (w.heap.size + 1) (.int .i64 s0') (.slice p2 ws.length c2) (.slice q2 ls.length d2) (.string dst))
    have hW := put4_blk HB3.out (.int .i64 s0') (.slice p2 ws.length c2) (.slice q2 ls.length d2) (.string dst)
    have cW := put4_chg w3 (w.heap.size + 1) (.int .i64 s0') (.slice p2 ws.length c2) (.slice q2 ls.length d2) (.string dst)
    generalize put4 w3 (w.heap.size + 1) (.int .i64 s0') (.slice p2 ws.length c2) (.slice q2 ls.length d2) (.string dst) = wz at *
    have y0 := blk_cell hW (j := 0) rfl
    have y1 := blk_cell hW (j := 1) rfl
    have y2 := blk_cell hW (j := 2) rfl
    have y3 := blk_cell hW (j := 3) rfl
    exact bodyPost_ret (v := .tuple #[.agg #[.int .i64 s0', .slice p2 ws.length c2, .slice q2 ls.length d2, .string dst], .slice xr s1'.length fr, .bool true]) (by simp [results, Tryz.results35, go_sem, y0, y1, y2, y3]) rfl (SyO.yes HN.out HSS.out ((IntO.keptC o3 cW (Nat.lt_succ_self _)).mono (by omega)) ((LgO.keptC l3 cW (Nat.lt_succ_self _)).mono (by omega)) ((IntO.keptC r3 cW (Nat.lt_succ_self _)).mono (by omega)) (cW.gr G3 (Nat.le_succ _)))
  · have hss : say ⟨2, ws, ls, tx d⟩ xs = ((sayReq xs).1, (sayReq xs).2.1, (sayReq xs).2.2) := say_tx0 (say_req (by simp) (by simp))
    have HSS := Lib.hid hss
    clear hss t2 h3
    go_enter Tryz.func35, Tryz.ntmps35
    go_upto_region 1 with fail
    generalize (w.alloc (.cells #[.int .i64 2, .slice p ws.length cap, .slice q ls.length caq, .string d] 26)).alloc (.cells #[.int .i64 0, .slice none 0 0, .slice none 0 0, .string ⟨#[]⟩] 26) = w0 at *
    have s0 := blk_cell HA1.out (j := 0) rfl
    have s1 := blk_cell HA1.out (j := 1) rfl
    have s2 := blk_cell HA1.out (j := 2) rfl
    have s3 := blk_cell HA1.out (j := 3) rfl
    go_wp2_with fail
    (with_reducible refine (specTalkValid_c 2 d h0 hl0 hs hd).mono ?_); rintro e w1 ⟨rfl, g1⟩
    rw [H1.out]
    have HX5 := Lib.hid (g1.blk HA1.out)
    have HB5 := Lib.hid (g1.blk HA2.out)
    have G5 := gA.trans g1
    have z1 := g1.sz
    clear s0 s1 s2 s3
    go_wp2_with fail
    (with_reducible refine (specBytesValid_c (hx0.kept g1)).mono ?_); rintro e w1' ⟨rfl, rfl⟩
    rw [H2.out]
    have s0 := blk_cell HX5.out (j := 0) rfl
    have s1 := blk_cell HX5.out (j := 1) rfl
    have s2 := blk_cell HX5.out (j := 2) rfl
    have s3 := blk_cell HX5.out (j := 3) rfl
    have TC := l23Request_c 2 d (h0.kept g1) (hl0.kept g1) hw hn (hx0.kept g1) hlen
    generalize sayReq xs = s at *
    go_wp2_with fail
    (with_reducible refine TC.mono ?_); rintro e w2 ⟨p2, q2, xr, c2, d2, fr, dst, rfl, hdst, o2, l2, r2, g2⟩
    clear TC s0 s1 s2 s3
    obtain ⟨s0', s1', s2'⟩ := s
    simp only [] at o2 l2 r2 hdst HSS
    rw [hdst.out] at HSS
    have z2 := g2.sz
    have gD := gr_alloc w2 (.cells #[.int .i64 s0', .slice p2 ws.length c2, .slice q2 ls.length d2, .string dst] 26)
    have hD := heap_alloc_new w2 (.cells #[.int .i64 s0', .slice p2 ws.length c2, .slice q2 ls.length d2, .string dst] 26)
    have HD := Lib.hid hD
    have HB3 := Lib.hid (gD.blk (g2.blk HB5.out))
    have G3 := (G5.trans g2).trans gD
    have o3 := IntO.mono (B' := w.heap.size + 2) (o2.kept gD) (by omega)
    have l3 := LgO.mono (B' := w.heap.size + 2) (l2.kept gD) (by omega)
    have r3 := IntO.mono (B' := w.heap.size + 2) (r2.kept gD) (by omega)
    clear hD o2 l2 r2 HB5 HX5 hdst
    go_upto_region 12 with fail
    generalize w2.alloc (.cells #[.int .i64 s0', .slice p2 ws.length c2, .slice q2 ls.length d2, .string dst] 26) = w3 at *
    have s0 := blk_cell HD.out (j := 0) rfl
    have s1 := blk_cell HD.out (j := 1) rfl
    have s2 := blk_cell HD.out (j := 2) rfl
    have s3 := blk_cell HD.out (j := 3) rfl
    have x0 := blk_cell HB3.out (j := 0) rfl
    have x1 := blk_cell HB3.out (j := 1) rfl
    have x2 := blk_cell HB3.out (j := 2) rfl
    have x3 := blk_cell HB3.out (j := 3) rfl
    have f0 := blk_frozen HB3.out 0
    have f1 := blk_frozen HB3.out 1
    have f2 := blk_frozen HB3.out 2
    have f3 := blk_frozen HB3.out 3
    go_wp2
    change bodyPost _ _ _ _ _ (put4 w3 (w.heap.size + 1) (.int .i64 s0') (.slice p2 ws.length c2) (.slice q2 ls.length d2) (.string dst))
    have hW := put4_blk HB3.out (.int .i64 s0') (.slice p2 ws.length c2) (.slice q2 ls.length d2) (.string dst)
    have cW := put4_chg w3 (w.heap.size + 1) (.int .i64 s0') (.slice p2 ws.length c2) (.slice q2 ls.length d2) (.string dst)
    generalize put4 w3 (w.heap.size + 1) (.int .i64 s0') (.slice p2 ws.length c2) (.slice q2 ls.length d2) (.string dst) = wz at *
    have y0 := blk_cell hW (j := 0) rfl
    have y1 := blk_cell hW (j := 1) rfl
    have y2 := blk_cell hW (j := 2) rfl
    have y3 := blk_cell hW (j := 3) rfl
    exact bodyPost_ret (v := .tuple #[.agg #[.int .i64 s0', .slice p2 ws.length c2, .slice q2 ls.length d2, .string dst], .slice xr s1'.length fr, .bool true]) (by simp [results, Tryz.results35, go_sem, y0, y1, y2, y3]) rfl (SyO.yes HN.out HSS.out ((IntO.keptC o3 cW (Nat.lt_succ_self _)).mono (by omega)) ((LgO.keptC l3 cW (Nat.lt_succ_self _)).mono (by omega)) ((IntO.keptC r3 cW (Nat.lt_succ_self _)).mono (by omega)) (cW.gr G3 (Nat.le_succ _)))
end Go.Proofs.YtpdjibfcbjknhaaGreatDoor
