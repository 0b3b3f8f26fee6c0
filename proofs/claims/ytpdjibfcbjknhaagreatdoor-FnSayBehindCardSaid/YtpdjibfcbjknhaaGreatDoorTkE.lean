/- Talks: impl.TalkSay. -/
import Derived.Test.YtpdjibfcbjknhaaGreatDoorTkC
namespace Go.Proofs.YtpdjibfcbjknhaaGreatDoor
open Go.RowKit
/-- What is said to bytes: the talk, the reply, and whether it is fine. -/
def sayR (t : Tlk) (xs : List Int) : Tlk × List Int × Bool := if sayOk t xs = true then (sayT t xs, (say t xs).2.1, true) else (⟨0, [], [], []⟩, [], false)
/-- What TalkSay hands back. -/
def SyO (r : Tlk × List Int × Bool) (w : World) (e : Ending) (w' : World) : Prop :=
  ∃ (p q x : Option Addr) (c d f : Nat) (dst : ByteArray), e = .returned (.tuple #[.agg #[.int .i64 r.1.st, .slice p r.1.wanted.length c, .slice q r.1.logins.length d, .string dst], .slice x r.2.1.length f, .bool r.2.2]) ∧ Hid (r.1.dst = tx dst) ∧ IntO w.heap.size 3 w' (.slice p r.1.wanted.length c) r.1.wanted ∧ LgO w.heap.size w' (.slice q r.1.logins.length d) r.1.logins ∧ IntO w.heap.size 3 w' (.slice x r.2.1.length f) r.2.1 ∧ Gr w w'
theorem SyO.no {t : Tlk} {xs : List Int} {w w' : World} {x : Option Addr} {f : Nat} (hn : sayOk t xs = false) (ho : IntO w.heap.size 3 w' (.slice x 0 f) []) (hg : Gr w w') : SyO (sayR t xs) w (.returned (.tuple #[.agg #[.int .i64 0, .slice none 0 0, .slice none 0 0, .string ⟨#[]⟩], .slice x 0 f, .bool false])) w' := by
  have e : sayR t xs = (⟨0, [], [], []⟩, [], false) := by unfold sayR; rw [hn]; rfl
  rw [e]
  exact ⟨none, none, x, 0, 0, f, ⟨#[]⟩, rfl, rfl, IntO.nil _ _ _, LgO.nil _ _, ho, hg⟩
theorem SyO.yes {t : Tlk} {xs : List Int} {w w' : World} {p q x : Option Addr} {c d f : Nat} {st : Int} {rep : List Int} {dst : ByteArray} (hn : sayOk t xs = true) (hs : say t xs = (st, rep, tx dst)) (o : IntO w.heap.size 3 w' (.slice p t.wanted.length c) t.wanted) (l : LgO w.heap.size w' (.slice q t.logins.length d) t.logins) (ho : IntO w.heap.size 3 w' (.slice x rep.length f) rep) (hg : Gr w w') :
    SyO (sayR t xs) w (.returned (.tuple #[.agg #[.int .i64 st, .slice p t.wanted.length c, .slice q t.logins.length d, .string dst], .slice x rep.length f, .bool true])) w' := by
  have e : sayR t xs = (⟨st, t.wanted, t.logins, tx dst⟩, rep, true) := by unfold sayR sayT; rw [hn, hs]; rfl
  rw [e]
  exact ⟨p, q, x, c, d, f, dst, rfl, rfl, o, l, ho, hg⟩
theorem say_tx {t : Tlk} {xs : List Int} {s : Int × List Int × Tx} (h : say t xs = s) : say t xs = (s.1, s.2.1, tx (S s.2.2)) := by rw [h, tx_S]
/-- A row that ends before the one block that may turn. -/
theorem OwnB.beforeD {B T e sz g : Nat} {w w' : World} {v : Value} {n : Nat} {cs : List Value} (h : OwnB B T e sz w v n cs) (hd : D g w w') (hT : T ≤ g) : OwnB B T e sz w' v n cs := by
  refine ⟨?_, h.2⟩
  rcases h.1 with ⟨h1, ⟨rfl, h2⟩ | ⟨b, cap, cur, rfl, h4, h5, h6⟩⟩
  · exact ⟨h1, .inl ⟨rfl, h2⟩⟩
  · have hb := h.2 b rfl
    exact ⟨h1, .inr ⟨b, cap, cur, rfl, h4, hd.blk h5 (by omega), h6⟩⟩
set_option maxRecDepth 20000 in
set_option maxHeartbeats 8000000 in
theorem implTalkSay_c {w : World} {v u x : Value} {ws xs : List Int} {ls : List Lg} (hm : ML w) (he : ErrV w) (ht : Tab w) (st : Int) (d : ByteArray) (h : IntS w v ws) (hl : LgS w u ls) (hs : LgSm ls) (hd : d.size ≤ 2000000) (hw : ws.length ≤ 1000000) (hn : ls.length ≤ 1000000) (hx : IntS w x xs) (hlen : xs.length ≤ 1048576) :
    Calls Tryz.prog 34 #[.agg #[.int .i64 st, v, u, .string d], x] w (SyO (sayR ⟨st, ws, ls, tx d⟩ xs) w) := by
  obtain ⟨p, cap, rfl, _, _⟩ := h.form
  obtain ⟨q, caq, rfl, _, _⟩ := hl.form
  obtain ⟨px, cx, rfl, _, _⟩ := hx.form
  have gA := (gr_alloc w (.cells #[.int .i64 st, .slice p ws.length cap, .slice q ls.length caq, .string d] 26)).alloc (.cells #[.int .i64 0, .slice none 0 0, .slice none 0 0, .string ⟨#[]⟩] 26)
  have hA1 := (gr_alloc (w.alloc (.cells #[.int .i64 st, .slice p ws.length cap, .slice q ls.length caq, .string d] 26)) (.cells #[.int .i64 0, .slice none 0 0, .slice none 0 0, .string ⟨#[]⟩] 26)).blk (heap_alloc_new w (.cells #[.int .i64 st, .slice p ws.length cap, .slice q ls.length caq, .string d] 26))
  have hA2 := heap_alloc_new (w.alloc (.cells #[.int .i64 st, .slice p ws.length cap, .slice q ls.length caq, .string d] 26)) (.cells #[.int .i64 0, .slice none 0 0, .slice none 0 0, .string ⟨#[]⟩] 26)
  have eA : (w.alloc (.cells #[.int .i64 st, .slice p ws.length cap, .slice q ls.length caq, .string d] 26)).heap.size = w.heap.size + 1 := by simp
  rw [eA] at hA2
  have zA : w.heap.size + 2 ≤ ((w.alloc (.cells #[.int .i64 st, .slice p ws.length cap, .slice q ls.length caq, .string d] 26)).alloc (.cells #[.int .i64 0, .slice none 0 0, .slice none 0 0, .string ⟨#[]⟩] 26)).heap.size := by simp
  have HA1 := Lib.hid hA1
  have HA2 := Lib.hid hA2
  have h0 := h.kept gA
  have hl0 := hl.kept gA
  have hx0 := hx.kept gA
  clear eA hA1 hA2
  have HK : Hid (sayOk ⟨st, ws, ls, tx d⟩ xs = (talkOk ⟨st, ws, ls, tx d⟩ && (bv xs && decide (st < 3)))) := rfl
  cases h1 : talkOk ⟨st, ws, ls, tx d⟩
  · have HN : Hid (sayOk ⟨st, ws, ls, tx d⟩ xs = false) := Lib.hid (by rw [HK.out, h1]; rfl)
    have H1 := Lib.hid h1
    clear h1 HK
    go_enter Tryz.func34, Tryz.ntmps34
    go_upto_region 1 with fail
    generalize (w.alloc (.cells #[.int .i64 st, .slice p ws.length cap, .slice q ls.length caq, .string d] 26)).alloc (.cells #[.int .i64 0, .slice none 0 0, .slice none 0 0, .string ⟨#[]⟩] 26) = w0 at *
    have s0 := blk_cell HA1.out (j := 0) rfl
    have s1 := blk_cell HA1.out (j := 1) rfl
    have s2 := blk_cell HA1.out (j := 2) rfl
    have s3 := blk_cell HA1.out (j := 3) rfl
    go_wp2_with fail
    (with_reducible refine (implTalkValid_c (hm.kept gA) (he.kept gA) (ht.kept gA) st d h0 hl0 hs hd).mono ?_); rintro e w1 ⟨rfl, g1⟩
    rw [H1.out]
    have HX1 := Lib.hid (g1.blk HA1.out)
    have HB1 := Lib.hid (g1.blk HA2.out)
    have G1 := gA.trans g1
    have z1 := g1.sz
    clear s0 s1 s2 s3
    have x0 := blk_cell HB1.out (j := 0) rfl
    have x1 := blk_cell HB1.out (j := 1) rfl
    have x2 := blk_cell HB1.out (j := 2) rfl
    have x3 := blk_cell HB1.out (j := 3) rfl
    have f0 := blk_frozen HB1.out 0
    have f1 := blk_frozen HB1.out 1
    have f2 := blk_frozen HB1.out 2
    have f3 := blk_frozen HB1.out 3
    go_wp2
    change bodyPost _ _ _ _ _ (put4 w1 (w.heap.size + 1) (.int .i64 0) (.slice none 0 0) (.slice none 0 0) (.string ⟨#[]⟩))
    have hW := put4_blk HB1.out (.int .i64 0) (.slice none 0 0) (.slice none 0 0) (.string ⟨#[]⟩)
    have cW := put4_chg w1 (w.heap.size + 1) (.int .i64 0) (.slice none 0 0) (.slice none 0 0) (.string ⟨#[]⟩)
    generalize put4 w1 (w.heap.size + 1) (.int .i64 0) (.slice none 0 0) (.slice none 0 0) (.string ⟨#[]⟩) = wz at *
    have y0 := blk_cell hW (j := 0) rfl
    have y1 := blk_cell hW (j := 1) rfl
    have y2 := blk_cell hW (j := 2) rfl
    have y3 := blk_cell hW (j := 3) rfl
    exact bodyPost_ret (v := .tuple #[.agg #[.int .i64 0, .slice none 0 0, .slice none 0 0, .string ⟨#[]⟩], .slice none 0 0, .bool false]) (by simp [results, Tryz.results34, go_sem, y0, y1, y2, y3]) rfl (SyO.no HN.out (IntO.nil _ _ _) (cW.gr G1 (Nat.le_succ _)))
  have H1 := Lib.hid h1
  cases h2 : bv xs
  · have HN : Hid (sayOk ⟨st, ws, ls, tx d⟩ xs = false) := Lib.hid (by rw [HK.out, h1, h2]; rfl)
    have H2 := Lib.hid h2
    clear h1 h2 HK
    go_enter Tryz.func34, Tryz.ntmps34
    go_upto_region 1 with fail
    generalize (w.alloc (.cells #[.int .i64 st, .slice p ws.length cap, .slice q ls.length caq, .string d] 26)).alloc (.cells #[.int .i64 0, .slice none 0 0, .slice none 0 0, .string ⟨#[]⟩] 26) = w0 at *
    have s0 := blk_cell HA1.out (j := 0) rfl
    have s1 := blk_cell HA1.out (j := 1) rfl
    have s2 := blk_cell HA1.out (j := 2) rfl
    have s3 := blk_cell HA1.out (j := 3) rfl
    go_wp2_with fail
    (with_reducible refine (implTalkValid_c (hm.kept gA) (he.kept gA) (ht.kept gA) st d h0 hl0 hs hd).mono ?_); rintro e w1 ⟨rfl, g1⟩
    rw [H1.out]
    have HX1 := Lib.hid (g1.blk HA1.out)
    have HB1 := Lib.hid (g1.blk HA2.out)
    have G1 := gA.trans g1
    have z1 := g1.sz
    clear s0 s1 s2 s3
    go_wp2_with fail
    (with_reducible refine (implBytesValid_c (hx0.kept g1)).mono ?_); rintro e w1' ⟨rfl, rfl⟩
    rw [H2.out]
    have x0 := blk_cell HB1.out (j := 0) rfl
    have x1 := blk_cell HB1.out (j := 1) rfl
    have x2 := blk_cell HB1.out (j := 2) rfl
    have x3 := blk_cell HB1.out (j := 3) rfl
    have f0 := blk_frozen HB1.out 0
    have f1 := blk_frozen HB1.out 1
    have f2 := blk_frozen HB1.out 2
    have f3 := blk_frozen HB1.out 3
    go_wp2
    change bodyPost _ _ _ _ _ (put4 w1 (w.heap.size + 1) (.int .i64 0) (.slice none 0 0) (.slice none 0 0) (.string ⟨#[]⟩))
    have hW := put4_blk HB1.out (.int .i64 0) (.slice none 0 0) (.slice none 0 0) (.string ⟨#[]⟩)
    have cW := put4_chg w1 (w.heap.size + 1) (.int .i64 0) (.slice none 0 0) (.slice none 0 0) (.string ⟨#[]⟩)
    generalize put4 w1 (w.heap.size + 1) (.int .i64 0) (.slice none 0 0) (.slice none 0 0) (.string ⟨#[]⟩) = wz at *
    have y0 := blk_cell hW (j := 0) rfl
    have y1 := blk_cell hW (j := 1) rfl
    have y2 := blk_cell hW (j := 2) rfl
    have y3 := blk_cell hW (j := 3) rfl
    exact bodyPost_ret (v := .tuple #[.agg #[.int .i64 0, .slice none 0 0, .slice none 0 0, .string ⟨#[]⟩], .slice none 0 0, .bool false]) (by simp [results, Tryz.results34, go_sem, y0, y1, y2, y3]) rfl (SyO.no HN.out (IntO.nil _ _ _) (cW.gr G1 (Nat.le_succ _)))
  have H2 := Lib.hid h2
  by_cases h3 : st < 3
  rotate_left
  · have HN : Hid (sayOk ⟨st, ws, ls, tx d⟩ xs = false) := Lib.hid (by rw [HK.out, h1, h2, decide_eq_false h3]; rfl)
    have h3' : (3 : Int) ≤ st := by omega
    clear h1 h2 h3 HK
    go_enter Tryz.func34, Tryz.ntmps34
    go_upto_region 1 with fail
    generalize (w.alloc (.cells #[.int .i64 st, .slice p ws.length cap, .slice q ls.length caq, .string d] 26)).alloc (.cells #[.int .i64 0, .slice none 0 0, .slice none 0 0, .string ⟨#[]⟩] 26) = w0 at *
    have s0 := blk_cell HA1.out (j := 0) rfl
    have s1 := blk_cell HA1.out (j := 1) rfl
    have s2 := blk_cell HA1.out (j := 2) rfl
    have s3 := blk_cell HA1.out (j := 3) rfl
    go_wp2_with fail
    (with_reducible refine (implTalkValid_c (hm.kept gA) (he.kept gA) (ht.kept gA) st d h0 hl0 hs hd).mono ?_); rintro e w1 ⟨rfl, g1⟩
    rw [H1.out]
    have HX1 := Lib.hid (g1.blk HA1.out)
    have HB1 := Lib.hid (g1.blk HA2.out)
    have G1 := gA.trans g1
    have z1 := g1.sz
    clear s0 s1 s2 s3
    have s0 := blk_cell HX1.out (j := 0) rfl
    have s1 := blk_cell HX1.out (j := 1) rfl
    have s2 := blk_cell HX1.out (j := 2) rfl
    have s3 := blk_cell HX1.out (j := 3) rfl
    go_wp2_with fail
    (with_reducible refine (implBytesValid_c (hx0.kept g1)).mono ?_); rintro e w1' ⟨rfl, rfl⟩
    rw [H2.out]
    have x0 := blk_cell HB1.out (j := 0) rfl
    have x1 := blk_cell HB1.out (j := 1) rfl
    have x2 := blk_cell HB1.out (j := 2) rfl
    have x3 := blk_cell HB1.out (j := 3) rfl
    have f0 := blk_frozen HB1.out 0
    have f1 := blk_frozen HB1.out 1
    have f2 := blk_frozen HB1.out 2
    have f3 := blk_frozen HB1.out 3
    go_wp2
    change bodyPost _ _ _ _ _ (put4 w1 (w.heap.size + 1) (.int .i64 0) (.slice none 0 0) (.slice none 0 0) (.string ⟨#[]⟩))
    have hW := put4_blk HB1.out (.int .i64 0) (.slice none 0 0) (.slice none 0 0) (.string ⟨#[]⟩)
    have cW := put4_chg w1 (w.heap.size + 1) (.int .i64 0) (.slice none 0 0) (.slice none 0 0) (.string ⟨#[]⟩)
    generalize put4 w1 (w.heap.size + 1) (.int .i64 0) (.slice none 0 0) (.slice none 0 0) (.string ⟨#[]⟩) = wz at *
    have y0 := blk_cell hW (j := 0) rfl
    have y1 := blk_cell hW (j := 1) rfl
    have y2 := blk_cell hW (j := 2) rfl
    have y3 := blk_cell hW (j := 3) rfl
    exact bodyPost_ret (v := .tuple #[.agg #[.int .i64 0, .slice none 0 0, .slice none 0 0, .string ⟨#[]⟩], .slice none 0 0, .bool false]) (by simp [results, Tryz.results34, go_sem, y0, y1, y2, y3]) rfl (SyO.no HN.out (IntO.nil _ _ _) (cW.gr G1 (Nat.le_succ _)))
  have HN : Hid (sayOk ⟨st, ws, ls, tx d⟩ xs = true) := Lib.hid (by rw [HK.out, h1, h2, decide_eq_true h3]; rfl)
  obtain ⟨t1, t2, t3, t4, t5⟩ := talk_parts h1
  simp only [] at t2
  have hdz : d = ⟨#[]⟩ := by
    simp only [] at t5
    rw [if_neg (by omega)] at t5
    have := List.isEmpty_iff.1 t5
    rw [← S_tx d, this]; rfl
  have HDZ := Lib.hid hdz
  clear h1 h2 HK t1 t3 t4 t5 hdz
  obtain rfl | rfl | rfl : st = 0 ∨ st = 1 ∨ st = 2 := by omega
  · have hss : say ⟨0, ws, ls, tx d⟩ xs = ((sayHello ws xs).1, (sayHello ws xs).2.1, tx (S (sayHello ws xs).2.2)) := say_tx (say_hello rfl)
    have HSS := Lib.hid hss
    clear hss t2 h3
    go_enter Tryz.func34, Tryz.ntmps34
    go_upto_region 1 with fail
    generalize (w.alloc (.cells #[.int .i64 0, .slice p ws.length cap, .slice q ls.length caq, .string d] 26)).alloc (.cells #[.int .i64 0, .slice none 0 0, .slice none 0 0, .string ⟨#[]⟩] 26) = w0 at *
    have s0 := blk_cell HA1.out (j := 0) rfl
    have s1 := blk_cell HA1.out (j := 1) rfl
    have s2 := blk_cell HA1.out (j := 2) rfl
    have s3 := blk_cell HA1.out (j := 3) rfl
    go_wp2_with fail
    (with_reducible refine (implTalkValid_c (hm.kept gA) (he.kept gA) (ht.kept gA) 0 d h0 hl0 hs hd).mono ?_); rintro e w1 ⟨rfl, g1⟩
    rw [H1.out]
    have HX1 := Lib.hid (g1.blk HA1.out)
    have HB1 := Lib.hid (g1.blk HA2.out)
    have G1 := gA.trans g1
    have z1 := g1.sz
    clear s0 s1 s2 s3
    have s0 := blk_cell HX1.out (j := 0) rfl
    have s1 := blk_cell HX1.out (j := 1) rfl
    have s2 := blk_cell HX1.out (j := 2) rfl
    have s3 := blk_cell HX1.out (j := 3) rfl
    go_wp2_with fail
    (with_reducible refine (implBytesValid_c (hx0.kept g1)).mono ?_); rintro e w1' ⟨rfl, rfl⟩
    rw [H2.out]
    go_wp2_with fail
    (with_reducible refine (cloneE 0 d (h0.kept g1) (hl0.kept g1) hw hn).mono ?_); rintro e w2 ⟨p1, c1, q1, d1, rfl, o2, l2, g2⟩
    have HB2 := Lib.hid (g2.blk HB1.out)
    have G2 := G1.trans g2
    have z2 := g2.sz
    have gC := gr_alloc w2 (.cells #[.int .i64 0, .slice p1 ws.length c1, .slice q1 ls.length d1, .string d] 26)
    have hC := heap_alloc_new w2 (.cells #[.int .i64 0, .slice p1 ws.length c1, .slice q1 ls.length d1, .string d] 26)
    have HC := Lib.hid hC
    have HB3 := Lib.hid (gC.blk HB2.out)
    have G3 := G2.trans gC
    have o3 := IntO.mono (B' := w.heap.size + 2) (o2.kept gC) (by omega)
    have l3 := LgO.mono (B' := w.heap.size + 2) (l2.kept gC) (by omega)
    have ob3 := (Own.b o2).kept gC
    have lb3 := (Own.b l2).kept gC
    clear hC s0 s1 s2 s3 o2 l2 HB2 HX1 HB1
    go_upto_region 5 with fail
    generalize w2.alloc (.cells #[.int .i64 0, .slice p1 ws.length c1, .slice q1 ls.length d1, .string d] 26) = w3 at *
    have z3 := gC.sz
    have x0 := blk_cell HC.out (j := 0) rfl
    have f0 := blk_frozen HC.out 0
    go_upto_region 6 with fail
    have dC := D.set (D.refl w2.heap.size w3) 0 (.int .i64 4)
    have cC : Chg w2.heap.size (w2.heap.size + 1) w3 (w3.setCell ⟨w2.heap.size, 0, none⟩ (.int .i64 4)) := (Chg.refl _ _ w3).set (p := ⟨w2.heap.size, 0, none⟩) (Nat.le_refl _) (Nat.lt_succ_self _) (.int .i64 4)
    have hC4 := heap_set (j := 0) (x := .int .i64 4) HC.out
    have z4 : (w3.setCell ⟨w2.heap.size, 0, none⟩ (.int .i64 4)).heap.size = w3.heap.size := by simp
    have o4 : IntB w1.heap.size w2.heap.size 3 _ _ _ := OwnB.chg ob3 cC (.inl (Nat.le_refl _))
    have l4 := OwnB.chg lb3 cC (.inl (Nat.le_refl _))
    generalize w3.setCell ⟨w2.heap.size, 0, none⟩ (.int .i64 4) = w4 at *
    have HC4 : Hid (w4.heap[w2.heap.size]? = some (.cells #[.int .i64 4, .slice p1 ws.length c1, .slice q1 ls.length d1, .string d] 26 (0, 0))) := hC4
    have HB4 := Lib.hid (dC.blk HB3.out (by omega))
    have G4 : Gr w w4 := dC.gr G3 (by omega)
    have hx4 : IntS w4 (.slice px xs.length cx) xs := hx.kept G4
    clear hC4 x0 f0 HB3 HC o3 l3 ob3 lb3 dC cC
    have hB4 : w4.heap[w2.heap.size]? = some (.cells #[.int .i64 4, .slice p1 ws.length c1, .slice q1 ls.length d1, .string ⟨#[]⟩] 26 (0, 0)) := by have := HC4.out; rw [HDZ.out] at this; exact this
    have TC := hello_c hB4 o4.s hx4 hlen
    clear hB4
    generalize sayHello ws xs = s at *
    go_wp2_with fail
    (with_reducible refine TC.mono ?_); rintro e w6 ⟨v6, rfl, o6, hB6, d6⟩
    clear TC
    have d6c : Chg w2.heap.size (w2.heap.size + 1) w6 w6 := Chg.refl _ _ _
    obtain ⟨dst, hdst⟩ : ∃ dst, S s.2.2 = dst := ⟨_, rfl⟩
    rw [hdst] at hB6 HSS
    have HRP := Lib.hid hB6
    have HB6 := Lib.hid (d6.blk HB4.out (by omega))
    have G6 : Gr w w6 := d6.gr G4 (by omega)
    have z6 := d6.sz
    have o6'' := OwnB.beforeD o4 d6 (Nat.le_refl _)
    have l6'' := OwnB.beforeD l4 d6 (Nat.le_refl _)
    have o6' : IntO (w.heap.size + 2) 3 w6 (.slice p1 ws.length c1) ws := Own.mono o6''.1 (by omega)
    have l6' : LgO (w.heap.size + 2) w6 (.slice q1 ls.length d1) ls := Own.mono l6''.1 (by omega)
    clear hB6 d6 hdst d6c o6'' l6'' o4 l4
    obtain ⟨s0', s1', s2'⟩ := s
    simp only [] at o6 HRP HSS
    obtain ⟨p6, c6, rfl⟩ := o6.len
    have o6 := IntO.mono (B' := w.heap.size + 2) o6 (by omega)
    have s0 := blk_cell HRP.out (j := 0) rfl
    have s1 := blk_cell HRP.out (j := 1) rfl
    have s2 := blk_cell HRP.out (j := 2) rfl
    have s3 := blk_cell HRP.out (j := 3) rfl
    have x0 := blk_cell HB6.out (j := 0) rfl
    have x1 := blk_cell HB6.out (j := 1) rfl
    have x2 := blk_cell HB6.out (j := 2) rfl
    have x3 := blk_cell HB6.out (j := 3) rfl
    have f0 := blk_frozen HB6.out 0
    have f1 := blk_frozen HB6.out 1
    have f2 := blk_frozen HB6.out 2
    have f3 := blk_frozen HB6.out 3
    go_wp2
    change bodyPost _ _ _ _ _ (put4 w6 (w.heap.size + 1) (.int .i64 s0') (.slice p1 ws.length c1) (.slice q1 ls.length d1) (.string dst))
    have hW := put4_blk HB6.out (.int .i64 s0') (.slice p1 ws.length c1) (.slice q1 ls.length d1) (.string dst)
    have cW := put4_chg w6 (w.heap.size + 1) (.int .i64 s0') (.slice p1 ws.length c1) (.slice q1 ls.length d1) (.string dst)
    generalize put4 w6 (w.heap.size + 1) (.int .i64 s0') (.slice p1 ws.length c1) (.slice q1 ls.length d1) (.string dst) = wz at *
    have y0 := blk_cell hW (j := 0) rfl
    have y1 := blk_cell hW (j := 1) rfl
    have y2 := blk_cell hW (j := 2) rfl
    have y3 := blk_cell hW (j := 3) rfl
    exact bodyPost_ret (v := .tuple #[.agg #[.int .i64 s0', .slice p1 ws.length c1, .slice q1 ls.length d1, .string dst], .slice p6 s1'.length c6, .bool true]) (by simp [results, Tryz.results34, go_sem, y0, y1, y2, y3]) rfl (SyO.yes HN.out HSS.out ((IntO.keptC o6' cW (Nat.lt_succ_self _)).mono (by omega)) ((LgO.keptC l6' cW (Nat.lt_succ_self _)).mono (by omega)) ((IntO.keptC o6 cW (Nat.lt_succ_self _)).mono (by omega)) (cW.gr G6 (Nat.le_succ _)))
  · have hss : say ⟨1, ws, ls, tx d⟩ xs = ((sayLogin ls xs).1, (sayLogin ls xs).2.1, tx (S (sayLogin ls xs).2.2)) := say_tx (say_login rfl)
    have HSS := Lib.hid hss
    clear hss t2 h3
    go_enter Tryz.func34, Tryz.ntmps34
    go_upto_region 1 with fail
    generalize (w.alloc (.cells #[.int .i64 1, .slice p ws.length cap, .slice q ls.length caq, .string d] 26)).alloc (.cells #[.int .i64 0, .slice none 0 0, .slice none 0 0, .string ⟨#[]⟩] 26) = w0 at *
    have s0 := blk_cell HA1.out (j := 0) rfl
    have s1 := blk_cell HA1.out (j := 1) rfl
    have s2 := blk_cell HA1.out (j := 2) rfl
    have s3 := blk_cell HA1.out (j := 3) rfl
    go_wp2_with fail
    (with_reducible refine (implTalkValid_c (hm.kept gA) (he.kept gA) (ht.kept gA) 1 d h0 hl0 hs hd).mono ?_); rintro e w1 ⟨rfl, g1⟩
    rw [H1.out]
    have HX1 := Lib.hid (g1.blk HA1.out)
    have HB1 := Lib.hid (g1.blk HA2.out)
    have G1 := gA.trans g1
    have z1 := g1.sz
    clear s0 s1 s2 s3
    have s0 := blk_cell HX1.out (j := 0) rfl
    have s1 := blk_cell HX1.out (j := 1) rfl
    have s2 := blk_cell HX1.out (j := 2) rfl
    have s3 := blk_cell HX1.out (j := 3) rfl
    go_wp2_with fail
    (with_reducible refine (implBytesValid_c (hx0.kept g1)).mono ?_); rintro e w1' ⟨rfl, rfl⟩
    rw [H2.out]
    go_wp2_with fail
    (with_reducible refine (cloneE 1 d (h0.kept g1) (hl0.kept g1) hw hn).mono ?_); rintro e w2 ⟨p1, c1, q1, d1, rfl, o2, l2, g2⟩
    have HB2 := Lib.hid (g2.blk HB1.out)
    have G2 := G1.trans g2
    have z2 := g2.sz
    have gC := gr_alloc w2 (.cells #[.int .i64 1, .slice p1 ws.length c1, .slice q1 ls.length d1, .string d] 26)
    have hC := heap_alloc_new w2 (.cells #[.int .i64 1, .slice p1 ws.length c1, .slice q1 ls.length d1, .string d] 26)
    have HC := Lib.hid hC
    have HB3 := Lib.hid (gC.blk HB2.out)
    have G3 := G2.trans gC
    have o3 := IntO.mono (B' := w.heap.size + 2) (o2.kept gC) (by omega)
    have l3 := LgO.mono (B' := w.heap.size + 2) (l2.kept gC) (by omega)
    have ob3 := (Own.b o2).kept gC
    have lb3 := (Own.b l2).kept gC
    clear hC s0 s1 s2 s3 o2 l2 HB2 HX1 HB1
    go_upto_region 5 with fail
    generalize w2.alloc (.cells #[.int .i64 1, .slice p1 ws.length c1, .slice q1 ls.length d1, .string d] 26) = w3 at *
    have z3 := gC.sz
    have x0 := blk_cell HC.out (j := 0) rfl
    have f0 := blk_frozen HC.out 0
    go_upto_region 6 with fail
    have dC := D.set (D.refl w2.heap.size w3) 0 (.int .i64 4)
    have cC : Chg w2.heap.size (w2.heap.size + 1) w3 (w3.setCell ⟨w2.heap.size, 0, none⟩ (.int .i64 4)) := (Chg.refl _ _ w3).set (p := ⟨w2.heap.size, 0, none⟩) (Nat.le_refl _) (Nat.lt_succ_self _) (.int .i64 4)
    have hC4 := heap_set (j := 0) (x := .int .i64 4) HC.out
    have z4 : (w3.setCell ⟨w2.heap.size, 0, none⟩ (.int .i64 4)).heap.size = w3.heap.size := by simp
    have o4 : IntB w1.heap.size w2.heap.size 3 _ _ _ := OwnB.chg ob3 cC (.inl (Nat.le_refl _))
    have l4 := OwnB.chg lb3 cC (.inl (Nat.le_refl _))
    generalize w3.setCell ⟨w2.heap.size, 0, none⟩ (.int .i64 4) = w4 at *
    have HC4 : Hid (w4.heap[w2.heap.size]? = some (.cells #[.int .i64 4, .slice p1 ws.length c1, .slice q1 ls.length d1, .string d] 26 (0, 0))) := hC4
    have HB4 := Lib.hid (dC.blk HB3.out (by omega))
    have G4 : Gr w w4 := dC.gr G3 (by omega)
    have hx4 : IntS w4 (.slice px xs.length cx) xs := hx.kept G4
    clear hC4 x0 f0 HB3 HC o3 l3 ob3 lb3 dC cC
    have hB4 : w4.heap[w2.heap.size]? = some (.cells #[.int .i64 4, .slice p1 ws.length c1, .slice q1 ls.length d1, .string ⟨#[]⟩] 26 (0, 0)) := by have := HC4.out; rw [HDZ.out] at this; exact this
    have TC := login_c (ws := ws) hB4 (Own.row l4.1) hx4 hlen
    clear hB4
    generalize sayLogin ls xs = s at *
    go_wp2_with fail
    (with_reducible refine TC.mono ?_); rintro e w6 ⟨v6, rfl, o6, hB6, d6⟩
    clear TC
    have d6c : Chg w2.heap.size (w2.heap.size + 1) w6 w6 := Chg.refl _ _ _
    obtain ⟨dst, hdst⟩ : ∃ dst, S s.2.2 = dst := ⟨_, rfl⟩
    rw [hdst] at hB6 HSS
    have HRP := Lib.hid hB6
    have HB6 := Lib.hid (d6.blk HB4.out (by omega))
    have G6 : Gr w w6 := d6.gr G4 (by omega)
    have z6 := d6.sz
    have o6'' := OwnB.beforeD o4 d6 (Nat.le_refl _)
    have l6'' := OwnB.beforeD l4 d6 (Nat.le_refl _)
    have o6' : IntO (w.heap.size + 2) 3 w6 (.slice p1 ws.length c1) ws := Own.mono o6''.1 (by omega)
    have l6' : LgO (w.heap.size + 2) w6 (.slice q1 ls.length d1) ls := Own.mono l6''.1 (by omega)
    clear hB6 d6 hdst d6c o6'' l6'' o4 l4
    obtain ⟨s0', s1', s2'⟩ := s
    simp only [] at o6 HRP HSS
    obtain ⟨p6, c6, rfl⟩ := o6.len
    have o6 := IntO.mono (B' := w.heap.size + 2) o6 (by omega)
    have s0 := blk_cell HRP.out (j := 0) rfl
    have s1 := blk_cell HRP.out (j := 1) rfl
    have s2 := blk_cell HRP.out (j := 2) rfl
    have s3 := blk_cell HRP.out (j := 3) rfl
    have x0 := blk_cell HB6.out (j := 0) rfl
    have x1 := blk_cell HB6.out (j := 1) rfl
    have x2 := blk_cell HB6.out (j := 2) rfl
    have x3 := blk_cell HB6.out (j := 3) rfl
    have f0 := blk_frozen HB6.out 0
    have f1 := blk_frozen HB6.out 1
    have f2 := blk_frozen HB6.out 2
    have f3 := blk_frozen HB6.out 3
    go_wp2
    change bodyPost _ _ _ _ _ (put4 w6 (w.heap.size + 1) (.int .i64 s0') (.slice p1 ws.length c1) (.slice q1 ls.length d1) (.string dst))
    have hW := put4_blk HB6.out (.int .i64 s0') (.slice p1 ws.length c1) (.slice q1 ls.length d1) (.string dst)
    have cW := put4_chg w6 (w.heap.size + 1) (.int .i64 s0') (.slice p1 ws.length c1) (.slice q1 ls.length d1) (.string dst)
    generalize put4 w6 (w.heap.size + 1) (.int .i64 s0') (.slice p1 ws.length c1) (.slice q1 ls.length d1) (.string dst) = wz at *
    have y0 := blk_cell hW (j := 0) rfl
    have y1 := blk_cell hW (j := 1) rfl
    have y2 := blk_cell hW (j := 2) rfl
    have y3 := blk_cell hW (j := 3) rfl
    exact bodyPost_ret (v := .tuple #[.agg #[.int .i64 s0', .slice p1 ws.length c1, .slice q1 ls.length d1, .string dst], .slice p6 s1'.length c6, .bool true]) (by simp [results, Tryz.results34, go_sem, y0, y1, y2, y3]) rfl (SyO.yes HN.out HSS.out ((IntO.keptC o6' cW (Nat.lt_succ_self _)).mono (by omega)) ((LgO.keptC l6' cW (Nat.lt_succ_self _)).mono (by omega)) ((IntO.keptC o6 cW (Nat.lt_succ_self _)).mono (by omega)) (cW.gr G6 (Nat.le_succ _)))
  · have hss : say ⟨2, ws, ls, tx d⟩ xs = ((sayReq xs).1, (sayReq xs).2.1, tx (S (sayReq xs).2.2)) := say_tx (say_req (by simp) (by simp))
    have HSS := Lib.hid hss
    clear hss t2 h3
    go_enter Tryz.func34, Tryz.ntmps34
    go_upto_region 1 with fail
    generalize (w.alloc (.cells #[.int .i64 2, .slice p ws.length cap, .slice q ls.length caq, .string d] 26)).alloc (.cells #[.int .i64 0, .slice none 0 0, .slice none 0 0, .string ⟨#[]⟩] 26) = w0 at *
    have s0 := blk_cell HA1.out (j := 0) rfl
    have s1 := blk_cell HA1.out (j := 1) rfl
    have s2 := blk_cell HA1.out (j := 2) rfl
    have s3 := blk_cell HA1.out (j := 3) rfl
    go_wp2_with fail
    (with_reducible refine (implTalkValid_c (hm.kept gA) (he.kept gA) (ht.kept gA) 2 d h0 hl0 hs hd).mono ?_); rintro e w1 ⟨rfl, g1⟩
    rw [H1.out]
    have HX1 := Lib.hid (g1.blk HA1.out)
    have HB1 := Lib.hid (g1.blk HA2.out)
    have G1 := gA.trans g1
    have z1 := g1.sz
    clear s0 s1 s2 s3
    have s0 := blk_cell HX1.out (j := 0) rfl
    have s1 := blk_cell HX1.out (j := 1) rfl
    have s2 := blk_cell HX1.out (j := 2) rfl
    have s3 := blk_cell HX1.out (j := 3) rfl
    go_wp2_with fail
    (with_reducible refine (implBytesValid_c (hx0.kept g1)).mono ?_); rintro e w1' ⟨rfl, rfl⟩
    rw [H2.out]
    go_wp2_with fail
    (with_reducible refine (cloneE 2 d (h0.kept g1) (hl0.kept g1) hw hn).mono ?_); rintro e w2 ⟨p1, c1, q1, d1, rfl, o2, l2, g2⟩
    have HB2 := Lib.hid (g2.blk HB1.out)
    have G2 := G1.trans g2
    have z2 := g2.sz
    have gC := gr_alloc w2 (.cells #[.int .i64 2, .slice p1 ws.length c1, .slice q1 ls.length d1, .string d] 26)
    have hC := heap_alloc_new w2 (.cells #[.int .i64 2, .slice p1 ws.length c1, .slice q1 ls.length d1, .string d] 26)
    have HC := Lib.hid hC
    have HB3 := Lib.hid (gC.blk HB2.out)
    have G3 := G2.trans gC
    have o3 := IntO.mono (B' := w.heap.size + 2) (o2.kept gC) (by omega)
    have l3 := LgO.mono (B' := w.heap.size + 2) (l2.kept gC) (by omega)
    have ob3 := (Own.b o2).kept gC
    have lb3 := (Own.b l2).kept gC
    clear hC s0 s1 s2 s3 o2 l2 HB2 HX1 HB1
    go_upto_region 5 with fail
    generalize w2.alloc (.cells #[.int .i64 2, .slice p1 ws.length c1, .slice q1 ls.length d1, .string d] 26) = w3 at *
    have z3 := gC.sz
    have x0 := blk_cell HC.out (j := 0) rfl
    have f0 := blk_frozen HC.out 0
    go_upto_region 6 with fail
    have dC := D.set (D.refl w2.heap.size w3) 0 (.int .i64 4)
    have cC : Chg w2.heap.size (w2.heap.size + 1) w3 (w3.setCell ⟨w2.heap.size, 0, none⟩ (.int .i64 4)) := (Chg.refl _ _ w3).set (p := ⟨w2.heap.size, 0, none⟩) (Nat.le_refl _) (Nat.lt_succ_self _) (.int .i64 4)
    have hC4 := heap_set (j := 0) (x := .int .i64 4) HC.out
    have z4 : (w3.setCell ⟨w2.heap.size, 0, none⟩ (.int .i64 4)).heap.size = w3.heap.size := by simp
    have o4 : IntB w1.heap.size w2.heap.size 3 _ _ _ := OwnB.chg ob3 cC (.inl (Nat.le_refl _))
    have l4 := OwnB.chg lb3 cC (.inl (Nat.le_refl _))
    generalize w3.setCell ⟨w2.heap.size, 0, none⟩ (.int .i64 4) = w4 at *
    have HC4 : Hid (w4.heap[w2.heap.size]? = some (.cells #[.int .i64 4, .slice p1 ws.length c1, .slice q1 ls.length d1, .string d] 26 (0, 0))) := hC4
    have HB4 := Lib.hid (dC.blk HB3.out (by omega))
    have G4 : Gr w w4 := dC.gr G3 (by omega)
    have hx4 : IntS w4 (.slice px xs.length cx) xs := hx.kept G4
    clear hC4 x0 f0 HB3 HC o3 l3 ob3 lb3 dC cC
    have hB4 : w4.heap[w2.heap.size]? = some (.cells #[.int .i64 4, .slice p1 ws.length c1, .slice q1 ls.length d1, .string ⟨#[]⟩] 26 (0, 0)) := by have := HC4.out; rw [HDZ.out] at this; exact this
    have TC := request_c (ws := ws) (ls := ls) (fun W hW => hm.kept (hW.gr G4 (by omega))) (fun W hW => ht.kept (hW.gr G4 (by omega))) hB4 hx4 hlen
    clear hB4
    generalize sayReq xs = s at *
    go_wp2_with fail
    (with_reducible refine TC.mono ?_); rintro e w6 ⟨v6, rfl, o6, hB6, d6⟩
    clear TC
    have d6c : Chg w2.heap.size (w2.heap.size + 1) w6 w6 := Chg.refl _ _ _
    obtain ⟨dst, hdst⟩ : ∃ dst, S s.2.2 = dst := ⟨_, rfl⟩
    rw [hdst] at hB6 HSS
    have HRP := Lib.hid hB6
    have HB6 := Lib.hid (d6.blk HB4.out (by omega))
    have G6 : Gr w w6 := d6.gr G4 (by omega)
    have z6 := d6.sz
    have o6'' := OwnB.beforeD o4 d6 (Nat.le_refl _)
    have l6'' := OwnB.beforeD l4 d6 (Nat.le_refl _)
    have o6' : IntO (w.heap.size + 2) 3 w6 (.slice p1 ws.length c1) ws := Own.mono o6''.1 (by omega)
    have l6' : LgO (w.heap.size + 2) w6 (.slice q1 ls.length d1) ls := Own.mono l6''.1 (by omega)
    clear hB6 d6 hdst d6c o6'' l6'' o4 l4
    obtain ⟨s0', s1', s2'⟩ := s
    simp only [] at o6 HRP HSS
    obtain ⟨p6, c6, rfl⟩ := o6.len
    have o6 := IntO.mono (B' := w.heap.size + 2) o6 (by omega)
    have s0 := blk_cell HRP.out (j := 0) rfl
    have s1 := blk_cell HRP.out (j := 1) rfl
    have s2 := blk_cell HRP.out (j := 2) rfl
    have s3 := blk_cell HRP.out (j := 3) rfl
    have x0 := blk_cell HB6.out (j := 0) rfl
    have x1 := blk_cell HB6.out (j := 1) rfl
    have x2 := blk_cell HB6.out (j := 2) rfl
    have x3 := blk_cell HB6.out (j := 3) rfl
    have f0 := blk_frozen HB6.out 0
    have f1 := blk_frozen HB6.out 1
    have f2 := blk_frozen HB6.out 2
    have f3 := blk_frozen HB6.out 3
    go_wp2
    change bodyPost _ _ _ _ _ (put4 w6 (w.heap.size + 1) (.int .i64 s0') (.slice p1 ws.length c1) (.slice q1 ls.length d1) (.string dst))
    have hW := put4_blk HB6.out (.int .i64 s0') (.slice p1 ws.length c1) (.slice q1 ls.length d1) (.string dst)
    have cW := put4_chg w6 (w.heap.size + 1) (.int .i64 s0') (.slice p1 ws.length c1) (.slice q1 ls.length d1) (.string dst)
    generalize put4 w6 (w.heap.size + 1) (.int .i64 s0') (.slice p1 ws.length c1) (.slice q1 ls.length d1) (.string dst) = wz at *
    have y0 := blk_cell hW (j := 0) rfl
    have y1 := blk_cell hW (j := 1) rfl
    have y2 := blk_cell hW (j := 2) rfl
    have y3 := blk_cell hW (j := 3) rfl
    exact bodyPost_ret (v := .tuple #[.agg #[.int .i64 s0', .slice p1 ws.length c1, .slice q1 ls.length d1, .string dst], .slice p6 s1'.length c6, .bool true]) (by simp [results, Tryz.results34, go_sem, y0, y1, y2, y3]) rfl (SyO.yes HN.out HSS.out ((IntO.keptC o6' cW (Nat.lt_succ_self _)).mono (by omega)) ((LgO.keptC l6' cW (Nat.lt_succ_self _)).mono (by omega)) ((IntO.keptC o6 cW (Nat.lt_succ_self _)).mono (by omega)) (cW.gr G6 (Nat.le_succ _)))
end Go.Proofs.YtpdjibfcbjknhaaGreatDoor
