/- Draws of talks. -/
import Derived.Test.YtpdjibfcbjknhaaGreatDoorTkD
import Derived.Test.YtpdjibfcbjknhaaGreatDoorDrawK
namespace Go.Proofs.YtpdjibfcbjknhaaGreatDoor
open Go.RowKit
/-- Nothing in a talk is long. -/
def TSm (ws : List Int) (ls : List Lg) (d : ByteArray) : Prop := ws.length ≤ 100 ∧ ls.length ≤ 100 ∧ LgSm ls ∧ d.size ≤ 1000
theorem lg2_sm : LgSm lg2 := by
  intro k hk
  have hk : k < 2 := hk
  obtain rfl | rfl : k = 0 ∨ k = 1 := by omega
  · exact ⟨by decide, by decide⟩
  · exact ⟨by decide, by decide⟩
theorem nil_sm : LgSm [] := by intro k hk; simp at hk
/-- A talk at block b; its parts stand in blocks from lo on, none of them b. -/
def TkX (b lo : Nat) (w : World) (st : Int) (ws : List Int) (ls : List Lg) (d : ByteArray) : Prop :=
  ∃ (p q : Option Addr) (c e B T B2 T2 : Nat), w.heap[b]? = some (.cells #[.int .i64 st, .slice p ws.length c, .slice q ls.length e, .string d] 26 (0, 0)) ∧ IntB B T 3 w (.slice p ws.length c) ws ∧ OwnB B2 T2 59 2 w (.slice q ls.length e) ls.length (lgs ls) ∧ lo ≤ B ∧ lo ≤ B2 ∧ (T ≤ b ∨ b + 1 ≤ B) ∧ (T2 ≤ b ∨ b + 1 ≤ B2)
theorem TkX.keptD {b lo g : Nat} {w w' : World} {st : Int} {ws : List Int} {ls : List Lg} {d : ByteArray} (h : TkX b lo w st ws ls d) (hd : D g w w') (h1 : g < lo) (h2 : lo ≤ b) : TkX b lo w' st ws ls d := by
  obtain ⟨p, q, c, e, B, T, B2, T2, h3, h4, h5, h6, h7, h8, h9⟩ := h
  exact ⟨p, q, c, e, B, T, B2, T2, hd.blk h3 (by omega), h4.keptD hd (by omega), OwnB.keptD h5 hd (by omega), h6, h7, h8, h9⟩
/-- What the reference says to bytes that fit, in a variable of its own. -/
def TlC (g mm : Nat) (t : Tlk) (wr : World) (u z : Value) (wx : World) : Prop :=
  ∃ (ys : List Int) (b : Nat) (p q : Option Addr) (c f : Nat) (dst : ByteArray), u = .pointer (some ⟨b, 0, none⟩) ∧ z = .bool (sayR t ys).2.2 ∧
    wx.heap[b]? = some (.cells #[.int .i64 (sayR t ys).1.st, .slice p (sayR t ys).1.wanted.length c, .slice q (sayR t ys).1.logins.length f, .string dst] 26 (0, 0)) ∧ Hid ((sayR t ys).1.dst = tx dst) ∧
    IntO wr.heap.size 3 wx (.slice p (sayR t ys).1.wanted.length c) (sayR t ys).1.wanted ∧ LgO wr.heap.size wx (.slice q (sayR t ys).1.logins.length f) (sayR t ys).1.logins ∧ RdAt wx g mm ∧ D g wr wx
theorem TlC.late {g mm : Nat} {t : Tlk} {wr W : World} {ys : List Int} {p q : Option Addr} {c f m : Nat} {dst : ByteArray} (hm : m = W.heap.size) (hd : Hid ((sayR t ys).1.dst = tx dst)) (o : IntO wr.heap.size 3 W (.slice p (sayR t ys).1.wanted.length c) (sayR t ys).1.wanted) (l : LgO wr.heap.size W (.slice q (sayR t ys).1.logins.length f) (sayR t ys).1.logins) (r : RdAt W g mm) (k : D g wr W) :
    TlC g mm t wr (.pointer (some ⟨m, 0, none⟩)) (.bool (sayR t ys).2.2) (W.alloc (.cells #[.int .i64 (sayR t ys).1.st, .slice p (sayR t ys).1.wanted.length c, .slice q (sayR t ys).1.logins.length f, .string dst] 26)) := by
  subst hm
  exact ⟨ys, _, p, q, c, f, dst, rfl, rfl, heap_alloc_new _ _, hd, o.kept (gr_alloc _ _), l.kept (gr_alloc _ _), r.alloc _, k.alloc _⟩
theorem TlC.early {g mm b : Nat} {t : Tlk} {wr W : World} {ys : List Int} {p q : Option Addr} {c f : Nat} {dst : ByteArray} {c0 c1 c2 c3 : Value} (hq : W.heap[b]? = some (.cells #[c0, c1, c2, c3] 26 (0, 0))) (h1 : wr.heap.size ≤ b) (hg : g < wr.heap.size) (hd : Hid ((sayR t ys).1.dst = tx dst)) (o : IntO (b + 1) 3 W (.slice p (sayR t ys).1.wanted.length c) (sayR t ys).1.wanted) (l : LgO (b + 1) W (.slice q (sayR t ys).1.logins.length f) (sayR t ys).1.logins) (r : RdAt W g mm) (k : D g wr W) :
    TlC g mm t wr (.pointer (some ⟨b, 0, none⟩)) (.bool (sayR t ys).2.2) (put4 W b (.int .i64 (sayR t ys).1.st) (.slice p (sayR t ys).1.wanted.length c) (.slice q (sayR t ys).1.logins.length f) (.string dst)) := by
  have cW := put4_chg W b (.int .i64 (sayR t ys).1.st) (.slice p (sayR t ys).1.wanted.length c) (.slice q (sayR t ys).1.logins.length f) (.string dst)
  exact ⟨ys, b, p, q, c, f, dst, rfl, rfl, put4_blk hq _ _ _ _, hd, (IntO.keptC o cW (Nat.lt_succ_self _)).mono (by omega), (LgO.keptC l cW (Nat.lt_succ_self _)).mono (by omega), r.keptB cW.below (by omega), k.thenB (cW.below.mono h1)⟩
/-- A drawn talk. -/
def DrewK (n g m : Nat) (w : World) (e : Ending) (w' : World) : Prop :=
  ∃ (p q : Option Addr) (c f : Nat) (st : Int) (ws : List Int) (ls : List Lg) (d : ByteArray), e = .returned (.agg #[.int .i64 st, .slice p ws.length c, .slice q ls.length f, .string d]) ∧ TSm ws ls d ∧ IntO w.heap.size 3 w' (.slice p ws.length c) ws ∧ LgO w.heap.size w' (.slice q ls.length f) ls ∧ RdAt w' g (m + n) ∧ D g w w'
theorem say_dst (t : Tlk) (xs : List Int) : (say t xs).2.2.length ≤ 26 := by
  by_cases s0 : t.st = 0
  · rw [say_hello s0]
    rcases hello_cases t.wanted xs with ⟨k, _⟩ | ⟨ms, _, k⟩ <;> rw [k] <;> simp
  · by_cases s1 : t.st = 1
    · rw [say_login s1]
      rcases login_cases t.logins xs with ⟨k, _⟩ | ⟨l, _, k⟩ <;> rw [k] <;> simp
    · rw [say_req s0 s1]
      rcases req_cases xs with ⟨k, _⟩ | ⟨c, a, _, ha, k⟩
      · rw [k]; simp
      · rw [k]
        by_cases hc : c = 1
        · simp only [if_pos hc]
          exact addrText_len26 ha
        · simp only [if_neg hc]
          simp
set_option maxRecDepth 20000 in
set_option maxHeartbeats 8000000 in
theorem l92Talk_c {w : World} {g m : Nat} (h : RdAt w g m) (hm : m ≤ 10000) :
    Calls Tryz.prog 48 #[.pointer (some ⟨g, 0, none⟩)] w (DrewK 250 g m w) := by
  have hlt := h.lt
  have gA := gr_alloc w (.cells #[.int .i64 0, .slice none 0 0, .slice none 0 0, .string ⟨#[]⟩] 26)
  have hA := heap_alloc_new w (.cells #[.int .i64 0, .slice none 0 0, .slice none 0 0, .string ⟨#[]⟩] 26)
  have zA : (w.alloc (.cells #[.int .i64 0, .slice none 0 0, .slice none 0 0, .string ⟨#[]⟩] 26)).heap.size = w.heap.size + 1 := by simp
  have h0 := h.kept gA
  go_enter Tryz.func48, Tryz.ntmps48
  go_upto_region 1 with fail
  generalize w.alloc (.cells #[.int .i64 0, .slice none 0 0, .slice none 0 0, .string ⟨#[]⟩] 26) = w0 at *
  have HA := Lib.hid hA
  obtain ⟨e0, e1, e2, e3, e4, g5, z5⟩ := fiveW w0 (.cells #[.int .i64 0] 3) (.cells #[.int .i64 2] 3) (.cells #[.int .i64 2, .int .i64 0] 3) (.cells #[.int .i64 0, .int .i64 2] 3) (.cells #[.slice (some ⟨w0.heap.size, 0, none⟩) 1 1, .slice (some ⟨w0.heap.size + 1, 0, none⟩) 1 1, .slice (some ⟨w0.heap.size + 2, 0, none⟩) 2 2, .slice (some ⟨w0.heap.size + 3, 0, none⟩) 2 2] 23) _ rfl
  have E := Lib.hid (And.intro e0 (And.intro e1 (And.intro e2 (And.intro e3 e4))))
  have Z5 := Lib.hid z5
  have HA5 := Lib.hid (g5.blk hA)
  have ZA := Lib.hid zA
  clear e0 e1 e2 e3 e4 z5 hA zA
  go_wp2_with fail
  (with_reducible refine (pick_c (h0.kept g5) (by omega) _ (by omega) (by omega)).mono ?_); rintro e w1 ⟨cc, rfl, hc0, hc1, hr1, hd1⟩
  obtain ⟨e0, e1, e2, e3, e4⟩ := E.out
  have ZA' := ZA.out
  have Z5' := Z5.out
  obtain ⟨a, pp, cap, xs, hix, hca, hxs, hor⟩ := tab4 (hd1.blk e4 (by omega)) (oneS' (hd1.blk e0 (by omega))) (oneS' (hd1.blk e1 (by omega))) (twoS (hd1.blk e2 (by omega))) (twoS (hd1.blk e3 (by omega))) hc0 hc1
  have hxl : xs.length ≤ 2 := by rcases hor with rfl | rfl | rfl | rfl <;> simp
  have z1 := hd1.sz
  have HA1 := Lib.hid (hd1.blk HA5.out (by omega))
  have hD1 : D g w w1 := (D.ofGr (gA.trans g5)).trans hd1
  have zz1 : w.heap.size + 1 ≤ w1.heap.size := by omega
  clear e0 e1 e2 e3 e4 E hor hd1 g5 HA HA5 gA h0 z1 ZA ZA' Z5 Z5'
  have E1 := heap_alloc_new w1 (.cells #[] 3)
  go_wp2_with (at_builtin; refine wpl_appE rfl (.tmp 21) (.tmp 22) rfl rfl rfl E1 (hxs.kept (gr_alloc _ _)) (by omega) ?_; intro p2 c2 w2 o2 g2a; have g2 : Gr w1 w2 := (gr_alloc _ _).trans g2a)
  have HA2 := Lib.hid (g2.blk HA1.out)
  have hD2 := hD1.trans (D.ofGr g2)
  have hr2 := hr1.kept g2
  have z2 := g2.sz
  have hL := heap_alloc_new w2 (.cells #[.string ⟨#[97, 110, 110]⟩, .string ⟨#[97, 98, 99]⟩, .string ⟨#[98, 111, 98]⟩, .string ⟨#[57]⟩] 59)
  have gL := gr_alloc w2 (.cells #[.string ⟨#[97, 110, 110]⟩, .string ⟨#[97, 98, 99]⟩, .string ⟨#[98, 111, 98]⟩, .string ⟨#[57]⟩] 59)
  have lL := lg2S hL
  have oL := o2.s.kept gL
  clear E1 HA1 hD1 hr1 hix hca hxs hL o2
  (with_reducible refine (specTalkNew_c oL lL lg2_sm (by omega) (by decide)).mono ?_); rintro e w3 ⟨p3, q3, c3, d3, us, ms, ok, rfl, hcase, o3, l3, g3⟩
  have hsm : TSm us ms ⟨#[]⟩ := by
    rcases hcase with ⟨_, rfl, rfl, _⟩ | ⟨_, rfl, rfl, _⟩
    · exact ⟨by omega, by decide, lg2_sm, by decide⟩
    · exact ⟨by simp, by simp, nil_sm, by decide⟩
  have g23 := gL.trans g3
  have zL := gL.sz
  have z3 := g3.sz
  have gT := gr_alloc w3 (.cells #[.int .i64 0, .slice p3 us.length c3, .slice q3 ms.length d3, .string ⟨#[]⟩] 26)
  have hT := heap_alloc_new w3 (.cells #[.int .i64 0, .slice p3 us.length c3, .slice q3 ms.length d3, .string ⟨#[]⟩] 26)
  have zT := gT.sz
  have g24 := g23.trans gT
  have HA4 := Lib.hid (g24.blk HA2.out)
  have hD4 := hD2.trans (D.ofGr g24)
  have hr4 := hr2.kept g24
  have X4 : TkX w3.heap.size (w.heap.size + 1) (w3.alloc (.cells #[.int .i64 0, .slice p3 us.length c3, .slice q3 ms.length d3, .string ⟨#[]⟩] 26)) 0 us ms ⟨#[]⟩ :=
    ⟨p3, q3, c3, d3, _, _, _, _, hT, (IntO.b o3).kept gT, (Own.b l3).kept gT, by omega, by omega, .inl (Nat.le_refl _), .inl (Nat.le_refl _)⟩
  clear hcase o3 l3 g3 g23 gL hT gT oL lL HA2 hD2 hr2 g24
  go_upto_region 3 with fail
  generalize w3.alloc (.cells #[.int .i64 0, .slice p3 us.length c3, .slice q3 ms.length d3, .string ⟨#[]⟩] 26) = w4 at *
  have hb4 : w.heap.size + 1 ≤ w3.heap.size := by omega
  generalize w3.heap.size = b4 at *
  clear zL z3
  go_wp2_with fail
  (with_reducible refine (pick_c hr4 (by omega) _ (by omega) (by omega)).mono ?_); rintro e w5 ⟨c5, rfl, h50, h51, hr5, hd5⟩
  have HA5 := Lib.hid (hd5.blk HA4.out (by omega))
  have hD5 := hD4.trans hd5
  have X5 := X4.keptD hd5 (by omega) hb4
  clear HA4 hD4 hd5 X4 hr4
  go_wp2_with fail
  go_loopw [7] (fun i wr => ∃ (k mm : Nat) (st : Int) (ws : List Int) (ls : List Lg) (d : ByteArray), i = .int .i64 k ∧ k ≤ 4 ∧ mm ≤ m + 2 + 46 * k ∧ RdAt wr g mm ∧ D g w wr ∧ TkX b4 (w.heap.size + 1) wr st ws ls d ∧ TSm ws ls d ∧ Hid (wr.heap[w.heap.size]? = some (.cells #[.int .i64 0, .slice none 0 0, .slice none 0 0, .string ⟨#[]⟩] 26 (0, 0)))) (fun i _ => 4 - (intOf i).toNat)
  case atStart => exact ⟨0, _, _, _, _, _, rfl, by omega, by omega, hr5, hD5, X5, hsm, HA5⟩
  case round =>
    obtain ⟨k, mm, st, ws, ls, d, rfl, hk, hmm, hr, hD, hX, hsm', HR⟩ := hrel
    clear hr5 hD5 X5 hsm HA5
    have hsm := hsm'
    clear hsm'
    have zr := hD.sz
    by_cases hlc : (k : Int) < c5
    · obtain ⟨q1, q2, q3, q4⟩ := hsm
      obtain ⟨p, q, c, e, B, T, B2, T2, x1, x2, x3, x4, x5, x6, x7⟩ := hX
      have HT := Lib.hid x1
      have hlr := (Array.getElem?_eq_some_iff.1 x1).1
      have hgr := hr.lt
      have g0d := (Gr.refl wr).drew
      clear x1
      go_upto_region 7 with fail
      have s0 : wr.cell? ⟨b4, 0, none⟩ = some (.int .i64 st) := blk_cell HT.out (j := 0) rfl
      have s1 : wr.cell? ⟨b4, 1, none⟩ = some (.slice p ws.length c) := blk_cell HT.out (j := 1) rfl
      have s2 : wr.cell? ⟨b4, 2, none⟩ = some (.slice q ls.length e) := blk_cell HT.out (j := 2) rfl
      have s3 : wr.cell? ⟨b4, 3, none⟩ = some (.string d) := blk_cell HT.out (j := 3) rfl
      have n0 : ∀ o, (wr.alloc o).cell? ⟨b4, 0, none⟩ = some (.int .i64 st) := fun o => (gr_alloc wr o).cell s0
      have n1 : ∀ o, (wr.alloc o).cell? ⟨b4, 1, none⟩ = some (.slice p ws.length c) := fun o => (gr_alloc wr o).cell s1
      have n2 : ∀ o, (wr.alloc o).cell? ⟨b4, 2, none⟩ = some (.slice q ls.length e) := fun o => (gr_alloc wr o).cell s2
      have n3 : ∀ o, (wr.alloc o).cell? ⟨b4, 3, none⟩ = some (.string d) := fun o => (gr_alloc wr o).cell s3
      have LN := Lib.hid (fun (W : World) (hW : Gr wr W) => l92Next_c (hr.kept hW) (by omega) st d p q ws.length c ls.length e)
      have SY := Lib.hid (fun (W : World) (hW : D g wr W) (yv : Value) (ys : List Int) (hy : IntS W yv ys) (hyl : ys.length ≤ 120) => specTalkSay_c st d (x2.keptD hW (by omega)).s (Own.row (OwnB.keptD x3 hW (by omega)).1) q3 (by omega) (by omega) (by omega) hy (by omega))
      go_cut [8, 10] (fun u z wx => TlC g (mm + 45) ⟨st, ws, ls, tx d⟩ wr u z wx)
      case first =>
        go_region_with (first
          | (go_at_call 70; (with_reducible refine (LN.out _ (by repeat (first | exact Gr.refl _ | refine Gr.drew ?_ | refine Gr.alloc ?_ _))).mono ?_); rintro e w6 ⟨qy, cy, ys, rfl, hyl, oy, hr6, hd6'⟩; have hd6 : D g wr w6 := (D.ofGr (by repeat (first | exact Gr.refl _ | refine Gr.drew ?_ | refine Gr.alloc ?_ _))).trans hd6'; have hQ6 : w6.heap[wr.heap.size]? = some (.cells #[.int .i64 0, .slice none 0 0, .slice none 0 0, .string ⟨#[]⟩] 26 (0, 0)) := hd6'.blk (heap_alloc_new wr _) (by omega); have HQ6 := Lib.hid hQ6; have HT6 := Lib.hid (hd6.blk HT.out (by omega)); have s0 := blk_cell HT6.out (j := 0) rfl; have s1 := blk_cell HT6.out (j := 1) rfl; have s2 := blk_cell HT6.out (j := 2) rfl; have s3 := blk_cell HT6.out (j := 3) rfl; have z6 := hd6.sz; clear hQ6)
          | (go_at_call 70; (with_reducible refine (LN.out _ (by repeat (first | exact Gr.refl _ | refine Gr.drew ?_ | refine Gr.alloc ?_ _))).mono ?_); rintro e w6 ⟨qy, cy, ys, rfl, hyl, oy, hr6, hd6'⟩; have hd6 : D g wr w6 := (D.ofGr (by repeat (first | exact Gr.refl _ | refine Gr.drew ?_ | refine Gr.alloc ?_ _))).trans hd6'; have HT6 := Lib.hid (hd6.blk HT.out (by omega)); have s0 := blk_cell HT6.out (j := 0) rfl; have s1 := blk_cell HT6.out (j := 1) rfl; have s2 := blk_cell HT6.out (j := 2) rfl; have s3 := blk_cell HT6.out (j := 3) rfl; have n0 : ∀ o, (w6.alloc o).cell? ⟨b4, 0, none⟩ = some (.int .i64 st) := fun o => (gr_alloc w6 o).cell s0; have n1 : ∀ o, (w6.alloc o).cell? ⟨b4, 1, none⟩ = some (.slice p ws.length c) := fun o => (gr_alloc w6 o).cell s1; have n2 : ∀ o, (w6.alloc o).cell? ⟨b4, 2, none⟩ = some (.slice q ls.length e) := fun o => (gr_alloc w6 o).cell s2; have n3 : ∀ o, (w6.alloc o).cell? ⟨b4, 3, none⟩ = some (.string d) := fun o => (gr_alloc w6 o).cell s3; have z6 := hd6.sz)
          | (go_at_call 35; (with_reducible refine (SY.out _ hd6 _ _ oy.s hyl).mono ?_); rintro e w7 ⟨p7, q7, x7, c7, d7, f7, dst, rfl, hdst, o7, l7, y7, g7⟩; have hd7 := hd6.trans (D.ofGr g7); have hr7 := hr6.kept g7; have HQ7 := Lib.hid (g7.blk HQ6.out); have z7 := (Array.getElem?_eq_some_iff.1 HQ6.out).1; have u0 := blk_cell HQ7.out (j := 0) rfl; have u1 := blk_cell HQ7.out (j := 1) rfl; have u2 := blk_cell HQ7.out (j := 2) rfl; have u3 := blk_cell HQ7.out (j := 3) rfl; have v0 := blk_frozen HQ7.out 0; have v1 := blk_frozen HQ7.out 1; have v2 := blk_frozen HQ7.out 2; have v3 := blk_frozen HQ7.out 3)
          | (go_at_call 35; (with_reducible refine (SY.out _ (hd6.alloc _) _ _ (oy.s.kept (gr_alloc _ _)) hyl).mono ?_); rintro e w7 ⟨p7, q7, x7, c7, d7, f7, dst, rfl, hdst, o7, l7, y7, g7⟩; have hd7 := (hd6.alloc _).trans (D.ofGr g7); have hr7 := (hr6.alloc _).kept g7; have HQ8 := Lib.hid (g7.blk (heap_alloc_new w6 (.cells #[.int .i64 0, .slice none 0 0, .slice none 0 0, .string ⟨#[]⟩] 26))); have zw6 : (w6.alloc (.cells #[.int .i64 0, .slice none 0 0, .slice none 0 0, .string ⟨#[]⟩] 26)).heap.size = w6.heap.size + 1 := (by simp); have u0 := blk_cell HQ8.out (j := 0) rfl; have u1 := blk_cell HQ8.out (j := 1) rfl; have u2 := blk_cell HQ8.out (j := 2) rfl; have u3 := blk_cell HQ8.out (j := 3) rfl; have v0 := blk_frozen HQ8.out 0; have v1 := blk_frozen HQ8.out 1; have v2 := blk_frozen HQ8.out 2; have v3 := blk_frozen HQ8.out 3)
          | (go_at_call 35; (with_reducible refine (SY.out _ hd6 _ _ oy.s hyl).mono ?_); rintro e w7 ⟨p7, q7, x7, c7, d7, f7, dst, rfl, hdst, o7, l7, y7, g7⟩; have hd7 := hd6.trans (D.ofGr g7); have hr7 := hr6.kept g7))
        all_goals
          go_wp2_with fail
          go_meet
          first
            | (with_reducible exact TlC.late rfl hdst (o7.mono z6) (l7.mono z6) hr7 hd7)
            | exact TlC.early HQ7.out (Nat.le_refl _) hgr hdst (o7.mono z7) (l7.mono z7) hr7 hd7
            | exact TlC.early HQ8.out z6 hgr hdst (o7.mono (Nat.le_of_eq zw6.symm)) (l7.mono (Nat.le_of_eq zw6.symm)) hr7 hd7
      case rest =>
        obtain ⟨ys, b, pz, qz, cz, fz, dst, rfl, rfl, hbz, hdz, oz, lz, rz, kz⟩ := hcut
        have HZ := Lib.hid hbz
        have HTz := Lib.hid (kz.blk HT.out (by omega))
        have HRz := Lib.hid (kz.blk HR.out (by omega))
        have hDz := hD.trans kz
        have hXz : TkX b4 (w.heap.size + 1) wc st ws ls d := ⟨p, q, c, e, B, T, B2, T2, HTz.out, x2.keptD kz (by omega), OwnB.keptD x3 kz (by omega), x4, x5, x6, x7⟩
        have zz := kz.sz
        clear hbz n0 n1 n2 n3 s0 s1 s2 s3 LN SY HT HR hr hD
        cases hok : sayOk ⟨st, ws, ls, tx d⟩ ys
        · have e2 : (sayR ⟨st, ws, ls, tx d⟩ ys).2.2 = false := by unfold sayR; rw [hok]; rfl
          rw [e2]
          clear hok e2
          go_wp2
          go_roundw
          case measure => simp [intOf]; omega
          case rel => exact ⟨k + 1, mm + 45, st, ws, ls, d, by go_num, by omega, by omega, rz, hDz, hXz, ⟨q1, q2, q3, q4⟩, HRz⟩
        · have e2 : sayR ⟨st, ws, ls, tx d⟩ ys = (⟨(say ⟨st, ws, ls, tx d⟩ ys).1, ws, ls, (say ⟨st, ws, ls, tx d⟩ ys).2.2⟩, (say ⟨st, ws, ls, tx d⟩ ys).2.1, true) := by unfold sayR sayT; rw [hok]; rfl
          have hdl := say_dst ⟨st, ws, ls, tx d⟩ ys
          rw [e2] at HZ hdz oz lz
          rw [e2]
          clear e2 hok
          generalize say ⟨st, ws, ls, tx d⟩ ys = sv at *
          obtain ⟨s0', s1', s2'⟩ := sv
          simp only [] at hdl oz lz
          have hdl2 : dst.size ≤ 1000 := by
            have e : s2' = tx dst := hdz.out
            rw [← tx_len, ← e]; omega
          clear hdl
          have HZ' : Hid (wc.heap[b]? = some (.cells #[.int .i64 s0', .slice pz ws.length cz, .slice qz ls.length fz, .string dst] 26 (0, 0))) := HZ
          clear HZ
          have s0 := blk_cell HZ'.out (j := 0) rfl
          have s1 := blk_cell HZ'.out (j := 1) rfl
          have s2 := blk_cell HZ'.out (j := 2) rfl
          have s3 := blk_cell HZ'.out (j := 3) rfl
          have x0 := blk_cell HTz.out (j := 0) rfl
          have x1 := blk_cell HTz.out (j := 1) rfl
          have x2 := blk_cell HTz.out (j := 2) rfl
          have x3 := blk_cell HTz.out (j := 3) rfl
          have f0 := blk_frozen HTz.out 0
          have f1 := blk_frozen HTz.out 1
          have f2 := blk_frozen HTz.out 2
          have f3 := blk_frozen HTz.out 3
          go_upto_region 6 with fail
          have cW : Chg b4 (b4 + 1) wc ((((wc.setCell ⟨b4, 0, none⟩ (.int .i64 s0')).setCell ⟨b4, 1, none⟩ (.slice pz ws.length cz)).setCell ⟨b4, 2, none⟩ (.slice qz ls.length fz)).setCell ⟨b4, 3, none⟩ (.string dst)) := put4_chg wc b4 (.int .i64 s0') (.slice pz ws.length cz) (.slice qz ls.length fz) (.string dst)
          have hW : ((((wc.setCell ⟨b4, 0, none⟩ (.int .i64 s0')).setCell ⟨b4, 1, none⟩ (.slice pz ws.length cz)).setCell ⟨b4, 2, none⟩ (.slice qz ls.length fz)).setCell ⟨b4, 3, none⟩ (.string dst)).heap[b4]? = some (.cells #[.int .i64 s0', .slice pz ws.length cz, .slice qz ls.length fz, .string dst] 26 (0, 0)) := put4_blk HTz.out (.int .i64 s0') (.slice pz ws.length cz) (.slice qz ls.length fz) (.string dst)
          generalize (((wc.setCell ⟨b4, 0, none⟩ (.int .i64 s0')).setCell ⟨b4, 1, none⟩ (.slice pz ws.length cz)).setCell ⟨b4, 2, none⟩ (.slice qz ls.length fz)).setCell ⟨b4, 3, none⟩ (.string dst) = wy at *
          have o8 := IntB.chg (IntO.b oz) cW (.inr (by omega))
          have l8 := OwnB.chg (Own.b lz) cW (.inr (by omega))
          have hXy : TkX b4 (w.heap.size + 1) wy s0' ws ls dst := ⟨pz, qz, cz, fz, _, _, _, _, hW, o8, l8, by omega, by omega, .inr (by omega), .inr (by omega)⟩
          have HRy := Lib.hid ((cW.block w.heap.size (.inl (by omega))).trans HRz.out)
          have hry := rz.keptB cW.below (by omega)
          have hDy := hDz.thenB (cW.below.mono (by omega))
          clear x0 x1 x2 x3 f0 f1 f2 f3 s0 s1 s2 s3 HZ' HTz cW hW o8 l8 hXz
          go_wp2
          go_roundw
          case measure => simp [intOf]; omega
          case rel => exact ⟨k + 1, mm + 45, s0', ws, ls, dst, by go_num, by omega, by omega, hry, hDy, hXy, ⟨q1, q2, q3, hdl2⟩, HRy⟩
    · go_wp2_with fail
      (with_reducible refine (pick_c hr (by omega) _ (by omega) (by omega)).mono ?_); rintro e w6 ⟨c6, rfl, h60, h61, hr6, hd6⟩
      have HR6 := Lib.hid (hd6.blk HR.out (by omega))
      have hD6 := hD.trans hd6
      have hX6 := hX.keptD hd6 (by omega) hb4
      have z6 := hD6.sz
      clear HR hD hd6 hX hr hlc
      obtain ⟨p, q, c, e, B, T, B2, T2, x1, x2, x3, x4, x5, x6, x7⟩ := hX6
      have HT6 := Lib.hid x1
      have hl6 := (Array.getElem?_eq_some_iff.1 x1).1
      clear x1
      by_cases k0 : c6 = 0
      · subst k0
        go_wp2_with fail
        (with_reducible refine (pick_c hr6 (by omega) _ (by omega) (by omega)).mono ?_); rintro e w7 ⟨c7, rfl, h70, h71, hr7, hd7⟩
        have HR7 := Lib.hid (hd7.blk HR6.out (by omega))
        have HT7 := Lib.hid (hd7.blk HT6.out (by omega))
        have hD7 := hD6.trans hd7
        have o7 := x2.keptD hd7 (by omega)
        have l7 := OwnB.keptD x3 hd7 (by omega)
        have z7 := hd7.sz
        clear HR6 HT6 hD6 hr6 hd7 x2 x3
        have s0 := blk_cell HT7.out (j := 0) rfl
        have f0 := blk_frozen HT7.out 0
        go_upto_region 17 with fail
        have cS : Chg b4 (b4 + 1) w7 (w7.setCell ⟨b4, 0, none⟩ (.int .i64 (c7 - 1))) := (Chg.refl _ _ w7).set (p := ⟨b4, 0, none⟩) (Nat.le_refl _) (Nat.lt_succ_self _) _
        have hS8 := heap_set (j := 0) (x := .int .i64 (c7 - 1)) HT7.out
        generalize w7.setCell ⟨b4, 0, none⟩ (.int .i64 (c7 - 1)) = wf at *
        have HT : Hid (wf.heap[b4]? = some (.cells #[.int .i64 (c7 - 1), .slice p ws.length c, .slice q ls.length e, .string d] 26 (0, 0))) := hS8
        have HR := Lib.hid ((cS.block w.heap.size (.inl (by omega))).trans HR7.out)
        have hr := hr7.keptB cS.below (by omega)
        have hD := hD7.thenB (cS.below.mono (by omega))
        have of : IntO (w.heap.size + 1) 3 wf (.slice p ws.length c) ws := (IntB.chg o7 cS (by omega)).o.mono x4
        have lf : LgO (w.heap.size + 1) wf (.slice q ls.length e) ls := Own.mono (OwnB.chg l7 cS (by omega)).1 x5
        clear s0 f0 hS8 cS HT7 HR7 hr7 hD7 o7 l7
        generalize c7 - 1 = sv at *
        have s0 := blk_cell HT.out (j := 0) rfl
        have s1 := blk_cell HT.out (j := 1) rfl
        have s2 := blk_cell HT.out (j := 2) rfl
        have s3 := blk_cell HT.out (j := 3) rfl
        have x0 := blk_cell HR.out (j := 0) rfl
        have x1 := blk_cell HR.out (j := 1) rfl
        have x2 := blk_cell HR.out (j := 2) rfl
        have x3 := blk_cell HR.out (j := 3) rfl
        have f0 := blk_frozen HR.out 0
        have f1 := blk_frozen HR.out 1
        have f2 := blk_frozen HR.out 2
        have f3 := blk_frozen HR.out 3
        go_wp2
        change bodyPost _ _ _ _ _ (put4 wf w.heap.size (.int .i64 sv) (.slice p (ws).length c) (.slice q (ls).length e) (.string d))
        have hW := put4_blk HR.out (.int .i64 sv) (.slice p (ws).length c) (.slice q (ls).length e) (.string d)
        have cW := put4_chg wf w.heap.size (.int .i64 sv) (.slice p (ws).length c) (.slice q (ls).length e) (.string d)
        generalize put4 wf w.heap.size (.int .i64 sv) (.slice p (ws).length c) (.slice q (ls).length e) (.string d) = wz at *
        have y0 := blk_cell hW (j := 0) rfl
        have y1 := blk_cell hW (j := 1) rfl
        have y2 := blk_cell hW (j := 2) rfl
        have y3 := blk_cell hW (j := 3) rfl
        exact bodyPost_ret (v := .agg #[.int .i64 sv, .slice p (ws).length c, .slice q (ls).length e, .string d]) (by simp [results, Tryz.results48, go_sem, y0, y1, y2, y3]) rfl ⟨p, q, c, e, sv, ws, ls, d, rfl, hsm, (IntO.keptC of cW (Nat.lt_succ_self _)).mono (by omega), (LgO.keptC lf cW (Nat.lt_succ_self _)).mono (by omega), (hr.keptB cW.below hlt).more (by omega), hD.thenB cW.below⟩
      · have k0' : (c6 == 0) = false := beq_eq_false_iff_ne.2 k0
        clear k0
        by_cases k1 : c6 = 1
        · subst k1
          have gO := gr_alloc w6 (.cells #[.int .i64 1] 3)
          have oO := IntO.one (w := w6) 1
          have HT7 := Lib.hid (gO.blk HT6.out)
          have HR7 := Lib.hid (gO.blk HR6.out)
          have hr7 := hr6.kept gO
          have hD7 := hD6.trans (D.ofGr gO)
          have l7 := x3.kept gO
          have zO := gO.sz
          have HL6 := Lib.hid hl6
          clear HR6 HT6 hD6 hr6 x2 x3 hl6
          go_upto_region 14 with fail
          have s1 := blk_cell HT7.out (j := 1) rfl
          have f1 := blk_frozen HT7.out 1
          go_upto_region 17 with fail
          generalize w6.alloc (.cells #[.int .i64 1] 3) = w7 at *
          have hl6 := HL6.out
          have cS : Chg b4 (b4 + 1) w7 (w7.setCell ⟨b4, 1, none⟩ (.slice (some ⟨w6.heap.size, 0, none⟩) 1 1)) := (Chg.refl _ _ w7).set (p := ⟨b4, 1, none⟩) (Nat.le_refl _) (Nat.lt_succ_self _) _
          have hS8 := heap_set (j := 1) (x := .slice (some ⟨w6.heap.size, 0, none⟩) 1 1) HT7.out
          generalize w7.setCell ⟨b4, 1, none⟩ (.slice (some ⟨w6.heap.size, 0, none⟩) 1 1) = wf at *
          have HT : Hid (wf.heap[b4]? = some (.cells #[.int .i64 st, .slice (some ⟨w6.heap.size, 0, none⟩) 1 1, .slice q ls.length e, .string d] 26 (0, 0))) := hS8
          have HR := Lib.hid ((cS.block w.heap.size (.inl (by omega))).trans HR7.out)
          have hr := hr7.keptB cS.below (by omega)
          have hD := hD7.thenB (cS.below.mono (by omega))
          have of : IntO (w.heap.size + 1) 3 wf (.slice (some ⟨w6.heap.size, 0, none⟩) 1 1) [1] := (IntB.chg (IntO.b oO) cS (by omega)).o.mono (by omega)
          have lf : LgO (w.heap.size + 1) wf (.slice q ls.length e) ls := Own.mono (OwnB.chg l7 cS (by omega)).1 x5
          obtain ⟨q1, q2, q3, q4⟩ := hsm
          have hsm : TSm [1] ls d := ⟨by simp, q2, q3, q4⟩
          clear s1 f1 hS8 cS HT7 HR7 hr7 hD7 oO l7
          have s0 := blk_cell HT.out (j := 0) rfl
          have s1 := blk_cell HT.out (j := 1) rfl
          have s2 := blk_cell HT.out (j := 2) rfl
          have s3 := blk_cell HT.out (j := 3) rfl
          have x0 := blk_cell HR.out (j := 0) rfl
          have x1 := blk_cell HR.out (j := 1) rfl
          have x2 := blk_cell HR.out (j := 2) rfl
          have x3 := blk_cell HR.out (j := 3) rfl
          have f0 := blk_frozen HR.out 0
          have f1 := blk_frozen HR.out 1
          have f2 := blk_frozen HR.out 2
          have f3 := blk_frozen HR.out 3
          go_wp2
          change bodyPost _ _ _ _ _ (put4 wf w.heap.size (.int .i64 st) (.slice (some ⟨w6.heap.size, 0, none⟩) (([1] : List Int)).length 1) (.slice q (ls).length e) (.string d))
          have hW := put4_blk HR.out (.int .i64 st) (.slice (some ⟨w6.heap.size, 0, none⟩) (([1] : List Int)).length 1) (.slice q (ls).length e) (.string d)
          have cW := put4_chg wf w.heap.size (.int .i64 st) (.slice (some ⟨w6.heap.size, 0, none⟩) (([1] : List Int)).length 1) (.slice q (ls).length e) (.string d)
          generalize put4 wf w.heap.size (.int .i64 st) (.slice (some ⟨w6.heap.size, 0, none⟩) (([1] : List Int)).length 1) (.slice q (ls).length e) (.string d) = wz at *
          have y0 := blk_cell hW (j := 0) rfl
          have y1 := blk_cell hW (j := 1) rfl
          have y2 := blk_cell hW (j := 2) rfl
          have y3 := blk_cell hW (j := 3) rfl
          exact bodyPost_ret (v := .agg #[.int .i64 st, .slice (some ⟨w6.heap.size, 0, none⟩) (([1] : List Int)).length 1, .slice q (ls).length e, .string d]) (by simp [results, Tryz.results48, go_sem, y0, y1, y2, y3]) rfl ⟨(some ⟨w6.heap.size, 0, none⟩), q, 1, e, st, ([1] : List Int), ls, d, rfl, hsm, (IntO.keptC of cW (Nat.lt_succ_self _)).mono (by omega), (LgO.keptC lf cW (Nat.lt_succ_self _)).mono (by omega), (hr.keptB cW.below hlt).more (by omega), hD.thenB cW.below⟩
        · have k1' : (c6 == 1) = false := beq_eq_false_iff_ne.2 k1
          clear k1
          by_cases k2 : c6 = 2
          · subst k2
            have s3 := blk_cell HT6.out (j := 3) rfl
            have f3 := blk_frozen HT6.out 3
            go_upto_region 17 with fail
            have cS : Chg b4 (b4 + 1) w6 (w6.setCell ⟨b4, 3, none⟩ (.string ⟨#[120]⟩)) := (Chg.refl _ _ w6).set (p := ⟨b4, 3, none⟩) (Nat.le_refl _) (Nat.lt_succ_self _) _
            have hS8 := heap_set (j := 3) (x := .string ⟨#[120]⟩) HT6.out
            generalize w6.setCell ⟨b4, 3, none⟩ (.string ⟨#[120]⟩) = wf at *
            have HT : Hid (wf.heap[b4]? = some (.cells #[.int .i64 st, .slice p ws.length c, .slice q ls.length e, .string ⟨#[120]⟩] 26 (0, 0))) := hS8
            have HR := Lib.hid ((cS.block w.heap.size (.inl (by omega))).trans HR6.out)
            have hr := hr6.keptB cS.below (by omega)
            have hD := hD6.thenB (cS.below.mono (by omega))
            have of : IntO (w.heap.size + 1) 3 wf (.slice p ws.length c) ws := (IntB.chg x2 cS (by omega)).o.mono x4
            have lf : LgO (w.heap.size + 1) wf (.slice q ls.length e) ls := Own.mono (OwnB.chg x3 cS (by omega)).1 x5
            obtain ⟨q1, q2, q3, q4⟩ := hsm
            have hsm : TSm ws ls ⟨#[120]⟩ := ⟨q1, q2, q3, by decide⟩
            clear s3 f3 hS8 cS HT6 HR6 hr6 hD6 x2 x3
            have s0 := blk_cell HT.out (j := 0) rfl
            have s1 := blk_cell HT.out (j := 1) rfl
            have s2 := blk_cell HT.out (j := 2) rfl
            have s3 := blk_cell HT.out (j := 3) rfl
            have x0 := blk_cell HR.out (j := 0) rfl
            have x1 := blk_cell HR.out (j := 1) rfl
            have x2 := blk_cell HR.out (j := 2) rfl
            have x3 := blk_cell HR.out (j := 3) rfl
            have f0 := blk_frozen HR.out 0
            have f1 := blk_frozen HR.out 1
            have f2 := blk_frozen HR.out 2
            have f3 := blk_frozen HR.out 3
            go_wp2
            change bodyPost _ _ _ _ _ (put4 wf w.heap.size (.int .i64 st) (.slice p (ws).length c) (.slice q (ls).length e) (.string ⟨#[120]⟩))
            have hW := put4_blk HR.out (.int .i64 st) (.slice p (ws).length c) (.slice q (ls).length e) (.string ⟨#[120]⟩)
            have cW := put4_chg wf w.heap.size (.int .i64 st) (.slice p (ws).length c) (.slice q (ls).length e) (.string ⟨#[120]⟩)
            generalize put4 wf w.heap.size (.int .i64 st) (.slice p (ws).length c) (.slice q (ls).length e) (.string ⟨#[120]⟩) = wz at *
            have y0 := blk_cell hW (j := 0) rfl
            have y1 := blk_cell hW (j := 1) rfl
            have y2 := blk_cell hW (j := 2) rfl
            have y3 := blk_cell hW (j := 3) rfl
            exact bodyPost_ret (v := .agg #[.int .i64 st, .slice p (ws).length c, .slice q (ls).length e, .string ⟨#[120]⟩]) (by simp [results, Tryz.results48, go_sem, y0, y1, y2, y3]) rfl ⟨p, q, c, e, st, ws, ls, ⟨#[120]⟩, rfl, hsm, (IntO.keptC of cW (Nat.lt_succ_self _)).mono (by omega), (LgO.keptC lf cW (Nat.lt_succ_self _)).mono (by omega), (hr.keptB cW.below hlt).more (by omega), hD.thenB cW.below⟩
          · have k2' : (c6 == 2) = false := beq_eq_false_iff_ne.2 k2
            clear k2
            generalize w6 = wf at *
            have HT := HT6
            have HR := HR6
            have hr := hr6
            have hD := hD6
            have of : IntO (w.heap.size + 1) 3 wf (.slice p ws.length c) ws := x2.o.mono x4
            have lf : LgO (w.heap.size + 1) wf (.slice q ls.length e) ls := Own.mono x3.1 x5
            clear HT6 HR6 hr6 hD6 x2 x3
            have s0 := blk_cell HT.out (j := 0) rfl
            have s1 := blk_cell HT.out (j := 1) rfl
            have s2 := blk_cell HT.out (j := 2) rfl
            have s3 := blk_cell HT.out (j := 3) rfl
            have x0 := blk_cell HR.out (j := 0) rfl
            have x1 := blk_cell HR.out (j := 1) rfl
            have x2 := blk_cell HR.out (j := 2) rfl
            have x3 := blk_cell HR.out (j := 3) rfl
            have f0 := blk_frozen HR.out 0
            have f1 := blk_frozen HR.out 1
            have f2 := blk_frozen HR.out 2
            have f3 := blk_frozen HR.out 3
            go_wp2
            change bodyPost _ _ _ _ _ (put4 wf w.heap.size (.int .i64 st) (.slice p (ws).length c) (.slice q (ls).length e) (.string d))
            have hW := put4_blk HR.out (.int .i64 st) (.slice p (ws).length c) (.slice q (ls).length e) (.string d)
            have cW := put4_chg wf w.heap.size (.int .i64 st) (.slice p (ws).length c) (.slice q (ls).length e) (.string d)
            generalize put4 wf w.heap.size (.int .i64 st) (.slice p (ws).length c) (.slice q (ls).length e) (.string d) = wz at *
            have y0 := blk_cell hW (j := 0) rfl
            have y1 := blk_cell hW (j := 1) rfl
            have y2 := blk_cell hW (j := 2) rfl
            have y3 := blk_cell hW (j := 3) rfl
            exact bodyPost_ret (v := .agg #[.int .i64 st, .slice p (ws).length c, .slice q (ls).length e, .string d]) (by simp [results, Tryz.results48, go_sem, y0, y1, y2, y3]) rfl ⟨p, q, c, e, st, ws, ls, d, rfl, hsm, (IntO.keptC of cW (Nat.lt_succ_self _)).mono (by omega), (LgO.keptC lf cW (Nat.lt_succ_self _)).mono (by omega), (hr.keptB cW.below hlt).more (by omega), hD.thenB cW.below⟩
end Go.Proofs.YtpdjibfcbjknhaaGreatDoor
