/- Draws of what fits a talk. -/
import Derived.Test.YtpdjibfcbjknhaaGreatDoorDrawT
import Derived.Test.YtpdjibfcbjknhaaGreatDoorAdrB
namespace Go.Proofs.YtpdjibfcbjknhaaGreatDoor
open Go.RowKit
theorem tab4 {W : World} {b : Nat} {x0 x1 x2 x3 : Value} {l0 l1 l2 l3 : List Int} (hB : W.heap[b]? = some (.cells #[x0, x1, x2, x3] 23 (0, 0))) (r0 : IntS W x0 l0) (r1 : IntS W x1 l1) (r2 : IntS W x2 l2) (r3 : IntS W x3 l3) {c : Int} (h0 : 0 ≤ c) (h1 : c < 4) :
    ∃ (a : Addr) (p : Option Addr) (cap : Nat) (xs : List Int), (∀ w1, (Instr.indexAt 107 (.slice (some ⟨b, 0, none⟩) 4 4) (.int .i64 c)).run Tryz.prog w1 = .ok (.pointer (some a)) w1) ∧ W.cell? a = some (.slice p xs.length cap) ∧ IntS W (.slice p xs.length cap) xs ∧ (xs = l0 ∨ xs = l1 ∨ xs = l2 ∨ xs = l3) := by
  have hr : Row W 1 (.slice (some ⟨b, 0, none⟩) 4 4) 4 [x0, x1, x2, x3] := Own.row (B := 0) (e := 23) ⟨rfl, .inr ⟨b, 4, _, rfl, Nat.zero_le _, hB, by simp, by decide, rfl, rfl⟩⟩
  obtain ⟨i, g1, _, g3, _⟩ := infoII
  obtain ⟨n, rfl⟩ := Int.eq_ofNat_of_zero_le h0
  have hn : n < 4 := by omega
  obtain ⟨a, f1, f2⟩ := Row.at hr uII g1 g3 hn
  obtain rfl | rfl | rfl | rfl : n = 0 ∨ n = 1 ∨ n = 2 ∨ n = 3 := by omega
  · have e := f2 0 x0 rfl
    rw [addr_add_zero] at e
    obtain ⟨p, cap, rfl, _, _⟩ := r0.form
    exact ⟨a, p, cap, l0, f1, e, r0, .inl rfl⟩
  · have e := f2 0 x1 rfl
    rw [addr_add_zero] at e
    obtain ⟨p, cap, rfl, _, _⟩ := r1.form
    exact ⟨a, p, cap, l1, f1, e, r1, .inr (.inl rfl)⟩
  · have e := f2 0 x2 rfl
    rw [addr_add_zero] at e
    obtain ⟨p, cap, rfl, _, _⟩ := r2.form
    exact ⟨a, p, cap, l2, f1, e, r2, .inr (.inr (.inl rfl))⟩
  · have e := f2 0 x3 rfl
    rw [addr_add_zero] at e
    obtain ⟨p, cap, rfl, _, _⟩ := r3.form
    exact ⟨a, p, cap, l3, f1, e, r3, .inr (.inr (.inr rfl))⟩
theorem fiveW (w : World) (a b c d e : Obj) : ∀ W, ((((w.alloc a).alloc b).alloc c).alloc d).alloc e = W → W.heap[w.heap.size]? = some a ∧ W.heap[w.heap.size + 1]? = some b ∧ W.heap[w.heap.size + 2]? = some c ∧ W.heap[w.heap.size + 3]? = some d ∧ W.heap[w.heap.size + 4]? = some e ∧ Gr w W ∧ W.heap.size = w.heap.size + 5 := by
  rintro W rfl
  have z1 : (w.alloc a).heap.size = w.heap.size + 1 := by simp
  have z2 : ((w.alloc a).alloc b).heap.size = w.heap.size + 2 := by simp
  have z3 : (((w.alloc a).alloc b).alloc c).heap.size = w.heap.size + 3 := by simp
  have z4 : ((((w.alloc a).alloc b).alloc c).alloc d).heap.size = w.heap.size + 4 := by simp
  have e0 := heap_alloc_new w a
  have e1 := heap_alloc_new (w.alloc a) b
  have e2 := heap_alloc_new ((w.alloc a).alloc b) c
  have e3 := heap_alloc_new (((w.alloc a).alloc b).alloc c) d
  have e4 := heap_alloc_new ((((w.alloc a).alloc b).alloc c).alloc d) e
  rw [z1] at e1
  rw [z2] at e2
  rw [z3] at e3
  rw [z4] at e4
  exact ⟨(gr_alloc _ e).blk ((gr_alloc _ d).blk ((gr_alloc _ c).blk ((gr_alloc _ b).blk e0))), (gr_alloc _ e).blk ((gr_alloc _ d).blk ((gr_alloc _ c).blk e1)), (gr_alloc _ e).blk ((gr_alloc _ d).blk e2), (gr_alloc _ e).blk e3, e4, ((((gr_alloc w a).alloc b).alloc c).alloc d).alloc e, by simp⟩
def lg3 : List Lg := [([97, 110, 110], [97, 98, 99]), ([98, 111, 98], [57]), ([98, 111, 98], [97, 98, 99])]
def lg2 : List Lg := [([97, 110, 110], [97, 98, 99]), ([98, 111, 98], [57])]
theorem lg3_ok : ∀ k, k < 3 → lgOk (nthLg lg3 k) = true := by decide
theorem lg3S {w : World} {b : Nat} (h : w.heap[b]? = some (.cells #[.string ⟨#[97, 110, 110]⟩, .string ⟨#[97, 98, 99]⟩, .string ⟨#[98, 111, 98]⟩, .string ⟨#[57]⟩, .string ⟨#[98, 111, 98]⟩, .string ⟨#[97, 98, 99]⟩] 59 (0, 0))) : LgS w (.slice (some ⟨b, 0, none⟩) 3 3) lg3 :=
  Own.row (B := 0) (e := 59) ⟨rfl, .inr ⟨b, 3, _, rfl, Nat.zero_le _, h, by decide, by decide, rfl, rfl⟩⟩
theorem lg2S {w : World} {b : Nat} (h : w.heap[b]? = some (.cells #[.string ⟨#[97, 110, 110]⟩, .string ⟨#[97, 98, 99]⟩, .string ⟨#[98, 111, 98]⟩, .string ⟨#[57]⟩] 59 (0, 0))) : LgS w (.slice (some ⟨b, 0, none⟩) 2 2) lg2 :=
  Own.row (B := 0) (e := 59) ⟨rfl, .inr ⟨b, 2, _, rfl, Nat.zero_le _, h, by decide, by decide, rfl, rfl⟩⟩
theorem lg3_ix {w : World} {b : Nat} (h : LgS w (.slice (some ⟨b, 0, none⟩) 3 3) lg3) {c : Int} (h0 : 0 ≤ c) (h1 : c < 3) :
    ∃ (a : Addr) (x y : ByteArray), (∀ w1, (Instr.indexAt 24 (.slice (some ⟨b, 0, none⟩) 3 3) (.int .i64 c)).run Tryz.prog w1 = .ok (.pointer (some a)) w1) ∧ w.cell? a = some (.string x) ∧ w.cell? ⟨a.block, a.off + 1, none⟩ = some (.string y) ∧ lgOk (tx x, tx y) = true := by
  obtain ⟨n, rfl⟩ := Int.eq_ofNat_of_zero_le h0
  have hn : n < 3 := by omega
  obtain ⟨a, f1, f2, f3⟩ := LgS.ix (p := some ⟨b, 0, none⟩) (cap := 3) (ls := lg3) h (k := n) hn
  exact ⟨a, _, _, f1, f2, f3, by rw [tx_S, tx_S]; exact lg3_ok n hn⟩
/-- What fits a talk. -/
def DrewY (n g m : Nat) (w : World) (e : Ending) (w' : World) : Prop := ∃ (q : Option Addr) (cq : Nat) (ys : List Int), e = .returned (.slice q ys.length cq) ∧ ys.length ≤ 120 ∧ IntO w.heap.size 3 w' (.slice q ys.length cq) ys ∧ RdAt w' g (m + n) ∧ D g w w'
theorem hello_len {xs : List Int} (h : xs.length ≤ 2) : (if methOk xs = true then helloBytes xs else []).length ≤ 120 := by
  split
  · unfold helloBytes; simp; omega
  · simp
set_option maxRecDepth 20000 in
set_option maxHeartbeats 4000000 in
theorem l92Next_c {w : World} {g m : Nat} (h : RdAt w g m) (hm : m ≤ 20000) (st : Int) (d : ByteArray) (p q : Option Addr) (n c k f : Nat) :
    Calls Tryz.prog 70 #[.pointer (some ⟨g, 0, none⟩), .agg #[.int .i64 st, .slice p n c, .slice q k f, .string d]] w (DrewY 45 g m w) := by
  have hlt := h.lt
  have gA := gr_alloc w (.cells #[.int .i64 st, .slice p n c, .slice q k f, .string d] 26)
  have zA := gA.sz
  have h0 := h.kept gA
  by_cases k0 : st = 0
  · subst k0
    go_enter Tryz.func70, Tryz.ntmps70
    go_upto_region 3 with fail
    generalize w.alloc (.cells #[.int .i64 0, .slice p n c, .slice q k f, .string d] 26) = w0 at *
    obtain ⟨e0, e1, e2, e3, e4, g5, z5⟩ := fiveW w0 (.cells #[.int .i64 0] 3) (.cells #[.int .i64 2] 3) (.cells #[.int .i64 0, .int .i64 2] 3) (.cells #[.int .i64 1] 3) (.cells #[.slice (some ⟨w0.heap.size, 0, none⟩) 1 1, .slice (some ⟨w0.heap.size + 1, 0, none⟩) 1 1, .slice (some ⟨w0.heap.size + 2, 0, none⟩) 2 2, .slice (some ⟨w0.heap.size + 3, 0, none⟩) 1 1] 23) _ rfl
    have E := Lib.hid (And.intro e0 (And.intro e1 (And.intro e2 (And.intro e3 e4))))
    have Z5 := Lib.hid z5
    clear e0 e1 e2 e3 e4 z5
    go_wp2_with fail
    (with_reducible refine (pick_c (h0.kept g5) (by omega) _ (by omega) (by omega)).mono ?_); rintro e w1 ⟨cc, rfl, hc0, hc1, hr1, hd1⟩
    obtain ⟨e0, e1, e2, e3, e4⟩ := E.out
    obtain ⟨a, pp, cap, xs, hix, hca, hxs, hor⟩ := tab4 (hd1.blk e4 (by omega)) (oneS' (hd1.blk e0 (by omega))) (oneS' (hd1.blk e1 (by omega))) (twoS (hd1.blk e2 (by omega))) (oneS' (hd1.blk e3 (by omega))) hc0 hc1
    have hxl : xs.length ≤ 2 := by rcases hor with rfl | rfl | rfl | rfl <;> simp
    have z1 := hd1.sz
    have Z5' := Z5.out
    have hD1 : D g w w1 := (D.ofGr (gA.trans g5)).trans hd1
    clear e0 e1 e2 e3 e4 E hor hd1 g5
    have HL := Lib.hid (hello_len hxl)
    go_wp2_with fail
    (with_reducible refine (HelloBytes_c hxs).mono ?_); rintro e w2 ⟨v2, rfl, o2, g2⟩
    generalize (if methOk xs = true then helloBytes xs else []) = ys at *
    obtain ⟨q2, c2, rfl⟩ := o2.len
    go_wp2
    go_ret
    exact ⟨_, _, _, rfl, HL.out, o2.mono (by omega), (hr1.kept g2).more (by omega), hD1.trans (D.ofGr g2)⟩
  · have k0' : (st == 0) = false := beq_eq_false_iff_ne.2 k0
    by_cases k1 : st = 1
    · subst k1
      clear k0
      go_enter Tryz.func70, Tryz.ntmps70
      go_upto_region 6 with fail
      generalize w.alloc (.cells #[.int .i64 1, .slice p n c, .slice q k f, .string d] 26) = w0 at *
      have gL := gr_alloc w0 (.cells #[.string ⟨#[97, 110, 110]⟩, .string ⟨#[97, 98, 99]⟩, .string ⟨#[98, 111, 98]⟩, .string ⟨#[57]⟩, .string ⟨#[98, 111, 98]⟩, .string ⟨#[97, 98, 99]⟩] 59)
      have hL := heap_alloc_new w0 (.cells #[.string ⟨#[97, 110, 110]⟩, .string ⟨#[97, 98, 99]⟩, .string ⟨#[98, 111, 98]⟩, .string ⟨#[57]⟩, .string ⟨#[98, 111, 98]⟩, .string ⟨#[97, 98, 99]⟩] 59)
      have HL := Lib.hid hL
      have zL := gL.sz
      clear hL
      go_wp2_with fail
      (with_reducible refine (pick_c (h0.kept gL) (by omega) _ (by omega) (by omega)).mono ?_); rintro e w1 ⟨cc, rfl, hc0, hc1, hr1, hd1⟩
      obtain ⟨a, x, y, hix, hca, hcb, hok⟩ := lg3_ix (lg3S (hd1.blk HL.out (by omega))) hc0 hc1
      have z1 := hd1.sz
      have hD1 : D g w w1 := (D.ofGr (gA.trans gL)).trans hd1
      have HOK := Lib.hid hok
      clear HL hd1 gL hok
      go_wp2_with fail
      (with_reducible refine (specLoginBytes_t x y HOK).mono ?_); rintro e w2 ⟨v2, ys, b2, rfl, hyl, o2, g2⟩
      obtain ⟨q2, c2, rfl⟩ := o2.len
      go_wp2
      go_ret
      exact ⟨_, _, _, rfl, hyl, o2.mono (by omega), (hr1.kept g2).more (by omega), hD1.trans (D.ofGr g2)⟩
    · have k1' : (st == 1) = false := beq_eq_false_iff_ne.2 k1
      clear k0 k1
      go_enter Tryz.func70, Tryz.ntmps70
      go_wp2_with fail
      (with_reducible refine (l92Request_c h0 (by omega)).mono ?_); rintro e w1 ⟨q1, c1, cc, kk, pp, s, xs, rfl, hsl, o1, hr1, hd1⟩
      have z1 := hd1.sz
      have hD1 : D g w w1 := (D.ofGr gA).trans hd1
      go_wp2_with fail
      (with_reducible refine (specRequestBytes_c cc kk pp s o1.s (by omega)).mono ?_); rintro e w2 ⟨v2, ys, b2, rfl, hyl, o2, g2⟩
      obtain ⟨q2, c2, rfl⟩ := o2.len
      go_wp2
      go_ret
      exact ⟨_, _, _, rfl, hyl, o2.mono (by omega), (hr1.kept g2).more (by omega), hD1.trans (D.ofGr g2)⟩
end Go.Proofs.YtpdjibfcbjknhaaGreatDoor
