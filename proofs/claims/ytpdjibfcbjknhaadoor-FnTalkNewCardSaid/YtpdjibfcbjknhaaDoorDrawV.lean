/- Draws of methods and logins. -/
import Derived.Test.YtpdjibfcbjknhaaDoorTkB
import Derived.Test.YtpdjibfcbjknhaaDoorGF
import Derived.Test.YtpdjibfcbjknhaaDoorGB
namespace Go.Proofs.YtpdjibfcbjknhaaDoor
open Go.RowKit
theorem lgSm_snoc {ls : List Lg} {l : Lg} (h : LgSm ls) (h1 : l.1.length ≤ 2000000) (h2 : l.2.length ≤ 2000000) : LgSm (ls ++ [l]) := by
  intro k hk
  rw [List.length_append, List.length_singleton] at hk
  by_cases e : k < ls.length
  · have : nthLg (ls ++ [l]) k = nthLg ls k := by simp [nthLg, List.getElem?_append_left e]
    rw [this]; exact h k e
  · obtain rfl : k = ls.length := by omega
    have : nthLg (ls ++ [l]) ls.length = l := by simp [nthLg]
    rw [this]; exact ⟨h1, h2⟩
theorem lgSm_nil : LgSm [] := by intro k hk; simp at hk
theorem lgs_snoc (ls : List Lg) (x y : ByteArray) : lgs ls ++ [.string x, .string y] = lgs (ls ++ [(tx x, tx y)]) := by simp [lgs, S_tx]
theorem lgS_one {w : World} {b : Nat} {x y : ByteArray} (h : w.heap[b]? = some (.cells #[.string x, .string y] 41 (0, 0))) : Row w 2 (.slice (some ⟨b, 0, none⟩) 1 1) 1 [.string x, .string y] :=
  Own.row (B := 0) (e := 41) ⟨rfl, .inr ⟨b, 1, _, rfl, Nat.zero_le _, h, by decide, by decide, rfl, rfl⟩⟩
/-- A drawn login. -/
def DrewLg (n g m : Nat) (w : World) (e : Ending) (w' : World) : Prop := ∃ x y : ByteArray, e = .returned (.agg #[.string x, .string y]) ∧ x.size ≤ 30 ∧ y.size ≤ 30 ∧ RdAt w' g (m + n) ∧ D g w w'
set_option maxRecDepth 20000 in
set_option maxHeartbeats 4000000 in
theorem l92Login_c {w : World} {g m : Nat} (h : RdAt w g m) (hm : m ≤ 20000) :
    Calls Tryd.prog 13 #[.pointer (some ⟨g, 0, none⟩)] w (DrewLg 20 g m w) := by
  have hlt := h.lt
  have gA := gr_alloc w (.cells #[.string ⟨#[]⟩, .string ⟨#[]⟩] 41)
  have hA := heap_alloc_new w (.cells #[.string ⟨#[]⟩, .string ⟨#[]⟩] 41)
  have zA : w.heap.size + 1 ≤ (w.alloc (.cells #[.string ⟨#[]⟩, .string ⟨#[]⟩] 41)).heap.size := by simp
  have h0 := h.kept gA
  go_enter Tryd.func13, Tryd.ntmps13
  go_upto_region 1 with fail
  generalize w.alloc (.cells #[.string ⟨#[]⟩, .string ⟨#[]⟩] 41) = w0 at *
  have HA := Lib.hid hA
  clear hA
  go_wp2_with fail
  (refine (of_c (most := 30) (h0.alloc _) (by omega) (strLit w0 _ [[97, 110, 110], [98, 111, 98], [120, 57]] 3 (by omega) rfl rfl) (by omega) (by decide) (by decide) (by decide)).mono ?_); rintro e w1 ⟨x, rfl, hx, hr1, hd1⟩
  have hD1 : D g w0 w1 := (D.ofGr (gr_alloc w0 _)).trans hd1
  have z1 := hD1.sz
  have HA1 := Lib.hid (hD1.blk HA.out (by omega))
  clear hd1 HA
  go_wp2_with fail
  (refine (of_c (most := 30) (hr1.alloc _) (by omega) (strLit w1 _ [[97, 98, 99], [57], [115, 101, 99, 114, 101, 116]] 3 (by omega) rfl rfl) (by omega) (by decide) (by decide) (by decide)).mono ?_); rintro e w2 ⟨y, rfl, hy, hr2, hd2⟩
  have hD2 : D g w1 w2 := (D.ofGr (gr_alloc w1 _)).trans hd2
  have z2 := hD2.sz
  have HA2 := Lib.hid (hD2.blk HA1.out (by omega))
  have hDw2 : D g w w2 := ((D.ofGr gA).trans hD1).trans hD2
  clear hd2 HA1 hD1 hD2 gA h0 hr1
  have gL := gr_alloc w2 (.cells #[.string x, .string y] 41)
  have hL := heap_alloc_new w2 (.cells #[.string x, .string y] 41)
  have HL := Lib.hid hL
  have HA3 := Lib.hid (gL.blk HA2.out)
  have hr3 := hr2.kept gL
  have hD3 := hDw2.trans (D.ofGr gL)
  have zL : w2.heap.size + 1 ≤ (w2.alloc (.cells #[.string x, .string y] 41)).heap.size := by simp
  clear hL HA2 hr2 hDw2 gL
  go_upto_region 2 with fail
  generalize w2.alloc (.cells #[.string x, .string y] 41) = w3 at *
  go_wp2_with fail
  (with_reducible refine (pick_c hr3 (by omega) _ (by omega) (by omega)).mono ?_); rintro e w4 ⟨c4, rfl, h40, h41, hr4, hd4⟩
  have HA4 := Lib.hid (hd4.blk HA3.out (by omega))
  have HL4 := Lib.hid (hd4.blk HL.out (by omega))
  have hD4 := hD3.trans hd4
  have z4 := hd4.sz
  clear HA3 HL hr3 hD3 hd4
  by_cases k0 : c4 = 0
  · subst k0
    go_wp2_with fail
    (refine (of_c (most := 30) (hr4.alloc _) (by omega) (strLit w4 _ [[], [65], [97, 98, 99, 100, 101, 102, 103, 104, 105]] 3 (by omega) rfl rfl) (by omega) (by decide) (by decide) (by decide)).mono ?_); rintro e w5 ⟨y2, rfl, hy2, hr5, hd5⟩
    have hD5' : D g w4 w5 := (D.ofGr (gr_alloc w4 _)).trans hd5
    have HA5 := Lib.hid (hD5'.blk HA4.out (by omega))
    have HL5 := Lib.hid (hD5'.blk HL4.out (by omega))
    have hD5 := hD4.trans hD5'
    have z5 := hD5'.sz
    clear HA4 HL4 hr4 hD4 hd5 hD5'
    have x1 := blk_cell HL5.out (j := 1) rfl
    have f1 := blk_frozen HL5.out 1
    go_upto_region 4 with fail
    have bS : Below w.heap.size w5 (w5.setCell ⟨w2.heap.size, 1, none⟩ (.string y2)) := Below.setCell (Below.refl _ _) (by simp; omega) _
    have dS := D.set (D.refl w2.heap.size w5) 1 (.string y2)
    have hS6 := heap_set (j := 1) (x := .string y2) HL5.out
    generalize w5.setCell ⟨w2.heap.size, 1, none⟩ (.string y2) = w6 at *
    have HL6 : Hid (w6.heap[w2.heap.size]? = some (.cells #[.string x, .string y2] 41 (0, 0))) := hS6
    have HA6 := Lib.hid (dS.blk HA5.out (by omega))
    have hr6 := hr5.keptB bS hlt
    have hD6 := hD5.thenB bS
    clear x1 f1 bS dS hS6 HL5 HA5 hr5 hD5
    have s0 := blk_cell HL6.out (j := 0) rfl
    have s1 := blk_cell HL6.out (j := 1) rfl
    have x0 := blk_cell HA6.out (j := 0) rfl
    have x1 := blk_cell HA6.out (j := 1) rfl
    have f0 := blk_frozen HA6.out 0
    have f1 := blk_frozen HA6.out 1
    go_wp2
    change bodyPost _ _ _ _ _ ((w6.setCell ⟨w.heap.size, 0, none⟩ (.string x)).setCell ⟨w.heap.size, 1, none⟩ (.string y2))
    have hW := heap_set (j := 1) (x := .string y2) (heap_set (j := 0) (x := .string x) HA6.out)
    have bW : Below w.heap.size w6 ((w6.setCell ⟨w.heap.size, 0, none⟩ (.string x)).setCell ⟨w.heap.size, 1, none⟩ (.string y2)) := Below.setCell (Below.setCell (Below.refl _ _) (by simp) _) (by simp) _
    generalize (w6.setCell ⟨w.heap.size, 0, none⟩ (.string x)).setCell ⟨w.heap.size, 1, none⟩ (.string y2) = wz at *
    have y0 := blk_cell hW (j := 0) rfl
    have y1 := blk_cell hW (j := 1) rfl
    exact bodyPost_ret (v := .agg #[.string x, .string y2]) (by simp [results, Tryd.results13, go_sem, y0, y1]) rfl ⟨x, y2, rfl, hx, hy2, (RdAt.keptB hr6 bW hlt).more (by omega), D.thenB hD6 bW⟩
  · have k0' : (c4 == 0) = false := beq_eq_false_iff_ne.2 k0
    clear k0
    have s0 := blk_cell HL4.out (j := 0) rfl
    have s1 := blk_cell HL4.out (j := 1) rfl
    have x0 := blk_cell HA4.out (j := 0) rfl
    have x1 := blk_cell HA4.out (j := 1) rfl
    have f0 := blk_frozen HA4.out 0
    have f1 := blk_frozen HA4.out 1
    go_wp2
    change bodyPost _ _ _ _ _ ((w4.setCell ⟨w.heap.size, 0, none⟩ (.string x)).setCell ⟨w.heap.size, 1, none⟩ (.string y))
    have hW := heap_set (j := 1) (x := .string y) (heap_set (j := 0) (x := .string x) HA4.out)
    have bW : Below w.heap.size w4 ((w4.setCell ⟨w.heap.size, 0, none⟩ (.string x)).setCell ⟨w.heap.size, 1, none⟩ (.string y)) := Below.setCell (Below.setCell (Below.refl _ _) (by simp) _) (by simp) _
    generalize (w4.setCell ⟨w.heap.size, 0, none⟩ (.string x)).setCell ⟨w.heap.size, 1, none⟩ (.string y) = wz at *
    have y0 := blk_cell hW (j := 0) rfl
    have y1 := blk_cell hW (j := 1) rfl
    exact bodyPost_ret (v := .agg #[.string x, .string y]) (by simp [results, Tryd.results13, go_sem, y0, y1]) rfl ⟨x, y, rfl, hx, hy, (RdAt.keptB hr4 bW hlt).more (by omega), D.thenB hD4 bW⟩
theorem tab6 {W : World} {b B : Nat} {x0 x1 x2 x3 x4 x5 : Value} {l0 l1 l2 l3 l4 l5 : List Int} (hB : W.heap[b]? = some (.cells #[x0, x1, x2, x3, x4, x5] 23 (0, 0))) (r0 : IntO B 3 W x0 l0) (r1 : IntO B 3 W x1 l1) (r2 : IntO B 3 W x2 l2) (r3 : IntO B 3 W x3 l3) (r4 : IntO B 3 W x4 l4) (r5 : IntO B 3 W x5 l5) {c : Int} (h0 : 0 ≤ c) (h1 : c < 6) :
    ∃ (a : Addr) (p : Option Addr) (cap : Nat) (xs : List Int), (∀ w1, (Instr.indexAt 38 (.slice (some ⟨b, 0, none⟩) 6 6) (.int .i64 c)).run Tryd.prog w1 = .ok (.pointer (some a)) w1) ∧ W.cell? a = some (.slice p xs.length cap) ∧ IntO B 3 W (.slice p xs.length cap) xs ∧ (xs = l0 ∨ xs = l1 ∨ xs = l2 ∨ xs = l3 ∨ xs = l4 ∨ xs = l5) := by
  have hr : Row W 1 (.slice (some ⟨b, 0, none⟩) 6 6) 6 [x0, x1, x2, x3, x4, x5] := Own.row (B := 0) (e := 23) ⟨rfl, .inr ⟨b, 6, _, rfl, Nat.zero_le _, hB, by simp, by decide, rfl, rfl⟩⟩
  obtain ⟨i, g1, _, g3, _⟩ := infoII
  obtain ⟨n, rfl⟩ := Int.eq_ofNat_of_zero_le h0
  have hn : n < 6 := by omega
  obtain ⟨a, f1, f2⟩ := Row.at hr uII g1 g3 hn
  obtain rfl | rfl | rfl | rfl | rfl | rfl : n = 0 ∨ n = 1 ∨ n = 2 ∨ n = 3 ∨ n = 4 ∨ n = 5 := by omega
  · have e := f2 0 x0 rfl
    rw [addr_add_zero] at e
    obtain ⟨p, cap, rfl⟩ := r0.len
    exact ⟨a, p, cap, l0, f1, e, r0, by simp⟩
  · have e := f2 0 x1 rfl
    rw [addr_add_zero] at e
    obtain ⟨p, cap, rfl⟩ := r1.len
    exact ⟨a, p, cap, l1, f1, e, r1, by simp⟩
  · have e := f2 0 x2 rfl
    rw [addr_add_zero] at e
    obtain ⟨p, cap, rfl⟩ := r2.len
    exact ⟨a, p, cap, l2, f1, e, r2, by simp⟩
  · have e := f2 0 x3 rfl
    rw [addr_add_zero] at e
    obtain ⟨p, cap, rfl⟩ := r3.len
    exact ⟨a, p, cap, l3, f1, e, r3, by simp⟩
  · have e := f2 0 x4 rfl
    rw [addr_add_zero] at e
    obtain ⟨p, cap, rfl⟩ := r4.len
    exact ⟨a, p, cap, l4, f1, e, r4, by simp⟩
  · have e := f2 0 x5 rfl
    rw [addr_add_zero] at e
    obtain ⟨p, cap, rfl⟩ := r5.len
    exact ⟨a, p, cap, l5, f1, e, r5, by simp⟩
theorem sevenW (w : World) (a b c d e f t : Obj) : ∀ W, ((((((w.alloc a).alloc b).alloc c).alloc d).alloc e).alloc f).alloc t = W → W.heap[w.heap.size]? = some a ∧ W.heap[w.heap.size + 1]? = some b ∧ W.heap[w.heap.size + 2]? = some c ∧ W.heap[w.heap.size + 3]? = some d ∧ W.heap[w.heap.size + 4]? = some e ∧ W.heap[w.heap.size + 5]? = some f ∧ W.heap[w.heap.size + 6]? = some t ∧ Gr w W := by
  rintro W rfl
  have N : ∀ (w : World) (o : Obj) (k : Nat), k = w.heap.size → (w.alloc o).heap[k]? = some o := by rintro w o k rfl; exact heap_alloc_new w o
  have O : ∀ (w : World) (o v : Obj) (k : Nat), w.heap[k]? = some v → (w.alloc o).heap[k]? = some v := fun w o v k h => (gr_alloc w o).blk h
  refine ⟨?_, ?_, ?_, ?_, ?_, ?_, ?_, ((((((gr_alloc w a).alloc b).alloc c).alloc d).alloc e).alloc f).alloc t⟩
  · exact O _ _ _ _ (O _ _ _ _ (O _ _ _ _ (O _ _ _ _ (O _ _ _ _ (O _ _ _ _ (N _ _ _ rfl))))))
  · exact O _ _ _ _ (O _ _ _ _ (O _ _ _ _ (O _ _ _ _ (O _ _ _ _ (N _ _ _ (by simp))))))
  · exact O _ _ _ _ (O _ _ _ _ (O _ _ _ _ (O _ _ _ _ (N _ _ _ (by simp)))))
  · exact O _ _ _ _ (O _ _ _ _ (O _ _ _ _ (N _ _ _ (by simp))))
  · exact O _ _ _ _ (O _ _ _ _ (N _ _ _ (by simp)))
  · exact O _ _ _ _ (N _ _ _ (by simp))
  · exact N _ _ _ (by simp)
theorem sTwo {w : World} {b B : Nat} {x y : Int} (hB : B ≤ b) (h : w.heap[b]? = some (.cells #[.int .i64 x, .int .i64 y] 3)) : IntO B 3 w (.slice (some ⟨b, 0, none⟩) 2 2) [x, y] :=
  ⟨rfl, .inr ⟨b, 2, _, rfl, hB, h, by simp, by decide, rfl, rfl⟩⟩
theorem sOne {w : World} {b B : Nat} {n : Int} (hB : B ≤ b) (h : w.heap[b]? = some (.cells #[.int .i64 n] 3)) : IntO B 3 w (.slice (some ⟨b, 0, none⟩) 1 1) [n] :=
  ⟨rfl, .inr ⟨b, 1, _, rfl, hB, h, by simp, by decide, rfl, rfl⟩⟩
theorem sNone {w : World} {b B : Nat} (hB : B ≤ b) (h : w.heap[b]? = some (.cells #[] 3)) : IntO B 3 w (.slice (some ⟨b, 0, none⟩) 0 0) [] :=
  ⟨rfl, .inr ⟨b, 0, _, rfl, hB, h, by simp, by decide, rfl, rfl⟩⟩
theorem OwnB.below {B T B' e sz : Nat} {w w' : World} {v : Value} {n : Nat} {cs : List Value} (h : OwnB B T e sz w v n cs) (hb : Below B' w w') (hT : T ≤ B') : OwnB B T e sz w' v n cs := by
  refine ⟨?_, h.2⟩
  rcases h.1 with ⟨h1, ⟨rfl, h2⟩ | ⟨b, cap, cur, rfl, h4, h5, h6⟩⟩
  · exact ⟨h1, .inl ⟨rfl, h2⟩⟩
  · have hk := h.2 b rfl
    exact ⟨h1, .inr ⟨b, cap, cur, rfl, h4, (hb.block b (by omega)).trans h5, h6⟩⟩
/-- Drawn methods and logins. -/
def DrTN (w : World) (e : Ending) (w' : World) : Prop :=
  ∃ (p q : Option Addr) (c d : Nat) (ws : List Int) (ls : List Lg), e = .returned (.tuple #[.slice p ws.length c, .slice q ls.length d]) ∧ ws.length ≤ 2 ∧ ls.length ≤ 6 ∧ LgSm ls ∧ IntS w' (.slice p ws.length c) ws ∧ LgS w' (.slice q ls.length d) ls ∧ Gr w w'
set_option maxRecDepth 20000 in
set_option maxHeartbeats 4000000 in
theorem DrawTalkNew_c {w : World} {v : Value} {bs : List Int} (h : ByteS w v bs) :
    Calls Tryd.prog 4 #[v] w (DrTN w) := by
  obtain ⟨p0, cap0, rfl, _, _⟩ := h.form
  go_enter Tryd.func4, Tryd.ntmps4
  go_wp2_with fail
  (with_reducible refine (l6Open_c h).mono ?_); rintro e w1 ⟨rfl, hr1, g1⟩
  have z1 := hr1.lt
  obtain ⟨e0, e1, e2, e3, e4, e5, e6, g5⟩ := sevenW w1 (.cells #[.int .i64 0] 3) (.cells #[.int .i64 2] 3) (.cells #[.int .i64 2, .int .i64 0] 3) (.cells #[.int .i64 0, .int .i64 2] 3) (.cells #[.int .i64 1] 3) (.cells #[] 3) (.cells #[.slice (some ⟨w1.heap.size, 0, none⟩) 1 1, .slice (some ⟨w1.heap.size + 1, 0, none⟩) 1 1, .slice (some ⟨w1.heap.size + 2, 0, none⟩) 2 2, .slice (some ⟨w1.heap.size + 3, 0, none⟩) 2 2, .slice (some ⟨w1.heap.size + 4, 0, none⟩) 1 1, .slice (some ⟨w1.heap.size + 5, 0, none⟩) 0 0] 23) _ rfl
  have E := Lib.hid (And.intro e0 (And.intro e1 (And.intro e2 (And.intro e3 (And.intro e4 (And.intro e5 e6))))))
  clear e0 e1 e2 e3 e4 e5 e6
  go_wp2_with fail
  (with_reducible refine (pick_c (hr1.kept g5) (by omega) _ (by omega) (by omega)).mono ?_); rintro e w2 ⟨cc, rfl, hc0, hc1, hr2, hd2⟩
  obtain ⟨e0, e1, e2, e3, e4, e5, e6⟩ := E.out
  obtain ⟨a, pp, cap, xs, hix, hca, hxs, hor⟩ := tab6 (B := w1.heap.size) (hd2.blk e6 (by omega)) (sOne (Nat.le_refl _) (hd2.blk e0 (by omega))) (sOne (by omega) (hd2.blk e1 (by omega))) (sTwo (by omega) (hd2.blk e2 (by omega))) (sTwo (by omega) (hd2.blk e3 (by omega))) (sOne (by omega) (hd2.blk e4 (by omega))) (sNone (by omega) (hd2.blk e5 (by omega))) hc0 hc1
  have hxl : xs.length ≤ 2 := by rcases hor with rfl | rfl | rfl | rfl | rfl | rfl <;> simp
  have hD2 : D w.heap.size w1 w2 := (D.ofGr g5).trans hd2
  have z2 := hD2.sz
  have hxb : IntB w1.heap.size w2.heap.size 3 w2 (.slice pp xs.length cap) xs := hxs.b
  clear e0 e1 e2 e3 e4 e5 e6 E hor g5 hd2 hr1 hxs
  have gL := gr_alloc w2 (.cells #[] 41)
  have oL := LgO.mt (w := w2) (m := w2.heap.size) rfl
  have hxs3 := hxb.kept gL
  have hr3 := hr2.kept gL
  have hD3 := hD2.trans (D.ofGr gL)
  have zL := gL.sz
  clear hr2 hD2 hxb
  go_wp2_with fail
  (with_reducible refine (pick_c hr3 (by omega) _ (by omega) (by omega)).mono ?_); rintro e w4 ⟨cn, rfl, h40, h41, hr4, hd4⟩
  have oL4 := oL.keptD hd4 (by omega)
  have hD4 := hD3.trans hd4
  have z4 := hd4.sz
  have hxs4 := hxs3.keptD hd4 (by omega)
  have zz4 := hD4.sz
  have z24 : w2.heap.size ≤ w4.heap.size := by omega
  clear hix hca gL oL hr3 hD3 hd4 hxs3 zL z4
  obtain ⟨i0, hi, hz, hsz, hby⟩ := infoLg
  go_wp2_with fail
  go_loopw [6, 8] (fun v i wr => ∃ (k mm : Nat) (ls : List Lg), i = .int .i64 k ∧ k ≤ 6 ∧ mm ≤ 10 + 25 * k ∧ ls.length ≤ k ∧ LgSm ls ∧ RdAt wr w.heap.size mm ∧ LgO w2.heap.size wr v ls ∧ D w.heap.size w1 wr ∧ IntB w1.heap.size w2.heap.size 3 wr (.slice pp xs.length cap) xs ∧ w2.heap.size ≤ wr.heap.size) (fun _ i _ => 6 - (intOf i).toNat)
  case atStart => exact ⟨0, _, [], rfl, by omega, by omega, by simp, lgSm_nil, hr4, oL4, hD4, hxs4, z24⟩
  case round =>
    obtain ⟨k, mm, ls, rfl, hk, hmm, hll, hsm, hr, ho, hD, hx, hz2⟩ := hrel
    clear hr4 oL4 hD4 hxs4 zz4 z24
    by_cases hlc : (k : Int) < cn
    · go_wp2_with fail
      (with_reducible refine (l92Login_c hr (by omega)).mono ?_); rintro e w5 ⟨x, y, rfl, hxx, hyy, hr5, hd5⟩
      have o5 := ho.keptD hd5 (by omega)
      have hD5 := hD.trans hd5
      have hx5 := hx.keptD hd5 (by omega)
      have hz5 := hd5.sz
      have hsn := lgSm_snoc (l := (tx x, tx y)) hsm (by simp only [tx_len]; omega) (by simp only [tx_len]; omega)
      clear hr ho hD hx hd5
      have hown := LgO.kept o5 (gr_alloc w5 (.cells #[.string x, .string y] 41))
      unfold LgO at hown
      have hBB : w2.heap.size ≤ (w5.alloc (.cells #[.string x, .string y] 41)).heap.size := by have := (gr_alloc w5 (.cells #[.string x, .string y] 41)).sz; omega
      go_wp2_with (at_builtin; refine wpl_append (by_ := 32) (n := ls.length) (m := 1) _ rfl (.tmp 30) (.tmp 33) _ rfl uLg hi hz hsz hby rfl (by decide) (by decide) rfl hown rfl (lgS_one (heap_alloc_new _ _)) (by simp [Value.oneCell']) (by omega) hBB ?_; intro v7 w7 o7 h7)
      have o7' : LgO w2.heap.size w7 v7 (ls ++ [(tx x, tx y)]) := by
        have := o7
        rw [lgs_snoc] at this
        unfold LgO
        rw [List.length_append, List.length_singleton]
        exact this
      have hr7 := (hr5.alloc (.cells #[.string x, .string y] 41)).keptB h7 (by omega)
      have hD7 := (hD5.alloc (.cells #[.string x, .string y] 41)).thenB (h7.mono (by omega))
      have hx7 := OwnB.below (hx5.kept (gr_alloc w5 (.cells #[.string x, .string y] 41))) h7 (Nat.le_refl _)
      have hz7 := h7.size
      have hz8 := (gr_alloc w5 (.cells #[.string x, .string y] 41)).sz
      clear o7 o5 hr5 hD5 hx5 h7
      go_roundw
      case measure => simp [intOf]; omega
      case rel => exact ⟨k + 1, mm + 20, ls ++ [(tx x, tx y)], by go_num, by omega, by omega, by rw [List.length_append, List.length_singleton]; omega, hsn, hr7, o7', hD7, hx7, by omega⟩
    · have hsx := hx.s
      have gE := gr_alloc wr (.cells #[] 3)
      go_wp2_with (at_builtin; refine wpl_appE rfl (.tmp 35) (.tmp 36) rfl rfl rfl (heap_alloc_new wr _) (hsx.kept (gr_alloc wr _)) (by omega) ?_; intro p8 c8 w8 o8 g8)
      have g88 := gE.trans g8
      obtain ⟨pl, cl, rfl⟩ := ho.len
      go_ret2
      exact ⟨p8, pl, c8, cl, xs, ls, rfl, hxl, by omega, hsm, o8.s, (ho.kept g88).s, (hD.gr g1 (Nat.le_refl _)).trans g88⟩
end Go.Proofs.YtpdjibfcbjknhaaDoor
