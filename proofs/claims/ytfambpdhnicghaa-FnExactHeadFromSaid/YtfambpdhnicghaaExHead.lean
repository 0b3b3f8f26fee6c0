/- The walk of laws.FnExactHeadFrom. -/
import Derived.Test.YtfambpdhnicghaaGL
import Derived.Test.YtfambpdhnicghaaGM
namespace Go.Proofs.Ytfambpdhnicghaa
open Go.RowKit
theorem HeadIs.uniq {xs : List Int} {p p' : Par} {ts ts' : List Tag} {n n' : Nat} {ok ok' : Bool} (h : HeadIs xs p ts n ok) (h' : HeadIs xs p' ts' n' ok') : p' = p ∧ ts' = ts ∧ n' = n ∧ ok' = ok := by
  rcases h with ⟨a, rfl⟩ | ⟨a, rfl, rfl, rfl, rfl⟩ <;> rcases h' with ⟨b, rfl⟩ | ⟨b, rfl, rfl, rfl, rfl⟩
  · rw [a] at b; cases b; exact ⟨rfl, rfl, rfl, rfl⟩
  · rw [a] at b; cases b
  · rw [a] at b; cases b
  · exact ⟨rfl, rfl, rfl, rfl⟩
theorem HeadIs.some (xs : List Int) : ∃ p ts n ok, HeadIs xs p ts n ok := by
  cases h : headFrom xs with
  | none => exact ⟨_, _, _, _, .inr ⟨h, rfl, rfl, rfl, rfl⟩⟩
  | some r => exact ⟨r.1, r.2.1, r.2.2, true, .inl ⟨h, rfl⟩⟩
theorem headFrom_eq {xs : List Int} {p : Par} {ts : List Tag} {n : Nat} (h : headFrom xs = some (p, ts, n)) :
    p = hPar xs ∧ tagsFrom ((xs.drop 28).take (hSize xs - 12)) = some ts ∧ n = 16 + hSize xs := by
  unfold headFrom at h
  split at h
  · rw [Option.map_eq_some_iff] at h
    obtain ⟨us, h1, h2⟩ := h
    injection h2 with e1 e2
    injection e2 with e2 e3
    subst e1 e2 e3
    exact ⟨rfl, h1, rfl⟩
  · cases h
theorem HeadIs.small {xs : List Int} {p : Par} {ts : List Tag} {n : Nat} {ok : Bool} (h : HeadIs xs p ts n ok) : p.src.quad.length ≤ 4 ∧ p.dst.quad.length ≤ 4 ∧ cnt ts ≤ 68 := by
  rcases h with ⟨a, rfl⟩ | ⟨a, rfl, rfl, rfl, rfl⟩
  · obtain ⟨rfl, h1, _⟩ := headFrom_eq a
    refine ⟨?_, ?_, fromIs_cnt (xs := (xs.drop 28).take (hSize xs - 12)) (ok := true) ⟨by rw [h1]; rfl, by rw [h1]; rfl⟩⟩
    · show ((xs.drop 16).take 4).length ≤ 4; rw [List.length_take]; omega
    · show ((xs.drop 20).take 4).length ≤ 4; rw [List.length_take]; omega
  · exact ⟨Nat.zero_le _, Nat.zero_le _, by simp [cnt]⟩
/-- What both hand back, its parts named. -/
def HeadPost (k1 : Int) (q1 : List Int) (s1 : ByteArray) (p1 k2 : Int) (q2 : List Int) (s2 : ByteArray) (p2 : Int) (ts : List Tag) (n : Int) (ok : Bool) (w : World) (e : Ending) (w' : World) : Prop :=
  ∃ (pa : Option Addr) (ca : Nat) (pb : Option Addr) (cb : Nat) (v : Value) (B1 T1 B2 T2 B3 T3 : Nat),
    e = .returned (.tuple #[.agg #[.int .i64 k1, .slice pa q1.length ca, .string s1, .int .i64 p1, .int .i64 k2, .slice pb q2.length cb, .string s2, .int .i64 p2], v, .int .i64 n, .bool ok]) ∧
    IntB B1 T1 3 w' (.slice pa q1.length ca) q1 ∧ IntB B2 T2 3 w' (.slice pb q2.length cb) q2 ∧ TagO B3 T3 w' v ts ∧ w.heap.size ≤ B1 ∧ w.heap.size ≤ B2 ∧ w.heap.size ≤ B3 ∧ T1 ≤ B2 ∧ ((T1 ≤ B3 ∧ T2 ≤ B3) ∨ (T3 ≤ B1 ∧ T3 ≤ B2)) ∧ T1 ≤ w'.heap.size ∧ T2 ≤ w'.heap.size ∧ T3 ≤ w'.heap.size ∧ Gr w w'
def HeadRun (xs : List Int) (k1 : Int) (q1 : List Int) (s1 : ByteArray) (p1 k2 : Int) (q2 : List Int) (s2 : ByteArray) (p2 : Int) (ts : List Tag) (n : Int) (ok : Bool) : Prop :=
  ∀ (w : World) (e : Ending) (w' : World), HeadOut xs w e w' → HeadPost k1 q1 s1 p1 k2 q2 s2 p2 ts n ok w e w'
theorem headRun (xs : List Int) : ∃ k1 q1 s1 p1 k2 q2 s2 p2 ts n ok, HeadRun xs k1 q1 s1 p1 k2 q2 s2 p2 ts n ok ∧ q1.length ≤ 4 ∧ q2.length ≤ 4 ∧ cnt ts ≤ 68 := by
  obtain ⟨p, ts, n, ok, hI⟩ := HeadIs.some xs
  obtain ⟨h1, h2, h3⟩ := hI.small
  refine ⟨p.src.kind, p.src.quad, S p.src.name, p.src.port, p.dst.kind, p.dst.quad, S p.dst.name, p.dst.port, ts, (n : Int), ok, ?_, h1, h2, h3⟩
  rintro w e w' ⟨p', ts', n', ok', q, q', v, B1, T1, B2, T2, B3, T3, hI', rfl, o1, o2, o3, hr⟩
  obtain ⟨rfl, rfl, rfl, rfl⟩ := hI.uniq hI'
  obtain ⟨pa, ca, rfl⟩ := o1.o.len
  obtain ⟨pb, cb, rfl⟩ := o2.o.len
  exact ⟨pa, ca, pb, cb, v, B1, T1, B2, T2, B3, T3, rfl, o1, o2, o3, hr⟩
theorem specHF {w : World} {v : Value} {xs : List Int} {k1 : Int} {q1 : List Int} {s1 : ByteArray} {p1 k2 : Int} {q2 : List Int} {s2 : ByteArray} {p2 : Int} {ts : List Tag} {n : Int} {ok : Bool} (hR : Hid (HeadRun xs k1 q1 s1 p1 k2 q2 s2 p2 ts n ok)) (h : IntS w v xs) (hlen : xs.length ≤ 1048576) :
    Calls Try.prog 4 #[v] w (HeadPost k1 q1 s1 p1 k2 q2 s2 p2 ts n ok w) := (specHeadFrom_c h hlen).mono (hR.out w)
theorem implHF {w : World} {v : Value} {xs : List Int} {k1 : Int} {q1 : List Int} {s1 : ByteArray} {p1 k2 : Int} {q2 : List Int} {s2 : ByteArray} {p2 : Int} {ts : List Tag} {n : Int} {ok : Bool} (hR : Hid (HeadRun xs k1 q1 s1 p1 k2 q2 s2 p2 ts n ok)) (h : IntS w v xs) (hlen : xs.length ≤ 1048576) :
    Calls Try.prog 6 #[v] w (HeadPost k1 q1 s1 p1 k2 q2 s2 p2 ts n ok w) := (implHeadFrom_c h hlen).mono (hR.out w)
set_option maxRecDepth 20000 in
set_option maxHeartbeats 4000000 in
theorem FnExactHeadFrom_w {w : World} {a : Value} {xs : List Int} (ha : IntS w a xs) :
    Calls Try.prog 3 #[a] w fun e w' => e = .returned (.bool true) ∧ Gr w w' := by
  obtain ⟨p, cap, rfl, _, _⟩ := ha.form
  by_cases hx : xs.length ≤ 1048576
  · obtain ⟨k1, q1, t1, n1, k2, q2, t2, n2, ts, n, ok, hR, hq1, hq2, hct⟩ := headRun xs
    have HR := Lib.hid hR; clear hR
    have hx' : ((xs.length : Int) ≤ 1048576) := by omega
    have hlx : xs.length ≤ 1000000000000 := by omega
    have hc1 : ¬ ((1 : Int) + (q1.length : Int) + (q2.length : Int) < 0) := by omega
    have hc2 : ¬ ((1 : Int) + (q1.length : Int) + (q2.length : Int) + (cnt ts : Int) < 0) := by omega
    go_enter Try.func3, Try.ntmps3
    go_wp2_with fail
    (with_reducible refine (toIntS_c ha hlx).mono ?_); rintro e w1 ⟨v1, rfl, o1, g1⟩
    go_wp2_with fail
    (with_reducible refine (specHF HR o1.s hx).mono ?_); rintro e w2 ⟨p2, c2, p2', c2', v2, B1, T1, B2, T2, B3, T3, rfl, a1, a2, a3, i1, i2, i3, i4, i5, i6, i7, i8, g2⟩
    have gS := gr_alloc w2 (.cells #[.int .i64 k1, .slice p2 q1.length c2, .string t1, .int .i64 n1, .int .i64 k2, .slice p2' q2.length c2', .string t2, .int .i64 n2] 26)
    have HS := Lib.hid (heap_alloc_new w2 (.cells #[.int .i64 k1, .slice p2 q1.length c2, .string t1, .int .i64 n1, .int .i64 k2, .slice p2' q2.length c2', .string t2, .int .i64 n2] 26))
    have G2 := (g1.trans g2).trans gS
    have zS : w2.heap.size + 1 = (w2.alloc (.cells #[.int .i64 k1, .slice p2 q1.length c2, .string t1, .int .i64 n1, .int .i64 k2, .slice p2' q2.length c2', .string t2, .int .i64 n2] 26)).heap.size := by simp
    have ZS := Lib.hid zS
    clear zS
    go_wp2_with fail
    (with_reducible refine (toIntS_c (ha.kept G2) hlx).mono ?_); rintro e w3 ⟨v3, rfl, o3, g3⟩
    go_wp2_with fail
    (with_reducible refine (implHF HR o3.s hx).mono ?_); rintro e w4 ⟨p4, c4, p4', c4', v4, C1, U1, C2, U2, C3, U3, rfl, b1, b2, b3, j1, j2, j3, j4, j5, j6, j7, j8, g4⟩
    have gX := gr_alloc w4 (.cells #[.int .i64 k1, .slice p4 q1.length c4, .string t1, .int .i64 n1, .int .i64 k2, .slice p4' q2.length c4', .string t2, .int .i64 n2] 26)
    have HX := Lib.hid (heap_alloc_new w4 (.cells #[.int .i64 k1, .slice p4 q1.length c4, .string t1, .int .i64 n1, .int .i64 k2, .slice p4' q2.length c4', .string t2, .int .i64 n2] 26))
    have z1 := g1.sz; have z2 := g2.sz; have z3 := g3.sz; have z4 := g4.sz
    have zS := ZS.out
    rw [← zS] at z3
    replace a1 := (a1.kept gS).kept g3
    replace a2 := (a2.kept gS).kept g3
    replace a3 := (a3.kept gS).kept g3
    replace a1 := (a1.kept g4).kept gX
    replace a2 := (a2.kept g4).kept gX
    replace a3 := (a3.kept g4).kept gX
    replace HS := Lib.hid (gX.blk (g4.blk (g3.blk HS.out)))
    replace b1 := b1.kept gX
    replace b2 := b2.kept gX
    replace b3 := b3.kept gX
    have bv : IntB (w2.heap.size + 1) w3.heap.size 3 _ _ _ := ((o3.b.wide (Nat.le_of_eq zS) (Nat.le_refl _)).kept g4).kept gX
    have G4 := ((G2.trans g3).trans g4).trans gX
    clear o1 o3 gS g1 g2 g3 g4 gX G2
    have x0 := blk_cell HX.out (j := 0) rfl
    have x1 := blk_cell HX.out (j := 1) rfl
    have x2 := blk_cell HX.out (j := 2) rfl
    have x3 := blk_cell HX.out (j := 3) rfl
    have x4 := blk_cell HX.out (j := 4) rfl
    have x5 := blk_cell HX.out (j := 5) rfl
    have x6 := blk_cell HX.out (j := 6) rfl
    have x7 := blk_cell HX.out (j := 7) rfl
    have s0 := blk_cell HS.out (j := 0) rfl
    have s1 := blk_cell HS.out (j := 1) rfl
    have s2 := blk_cell HS.out (j := 2) rfl
    have s3 := blk_cell HS.out (j := 3) rfl
    have s4 := blk_cell HS.out (j := 4) rfl
    have s5 := blk_cell HS.out (j := 5) rfl
    have s6 := blk_cell HS.out (j := 6) rfl
    have s7 := blk_cell HS.out (j := 7) rfl
    go_wp2_with fail
    (with_reducible refine (eqPair_c k1 n1 k2 n2 t1 t2 b1.o.s a1.o.s b2.o.s a2.o.s).mono ?_); rintro e w5 ⟨rfl, g5⟩
    clear s0 s1 s2 s3 s4 s5 s6 s7 x0 x1 x2 x3 x4 x5 x6 x7
    replace a1 := a1.kept g5
    replace a2 := a2.kept g5
    replace a3 := a3.kept g5
    replace b1 := b1.kept g5
    replace b2 := b2.kept g5
    replace b3 := b3.kept g5
    replace HS := Lib.hid (g5.blk HS.out)
    replace HX := Lib.hid (g5.blk HX.out)
    replace bv := bv.kept g5
    have G5 := G4.trans g5
    clear g5 G4
    go_wp2_with fail
    (with_reducible refine (eqTagS_c b3.s a3.s).mono ?_); rintro e w6 ⟨rfl, g6⟩
    replace a1 := a1.kept g6
    replace a2 := a2.kept g6
    replace a3 := a3.kept g6
    replace b1 := b1.kept g6
    replace b2 := b2.kept g6
    replace b3 := b3.kept g6
    replace HS := Lib.hid (g6.blk HS.out)
    replace HX := Lib.hid (g6.blk HX.out)
    replace bv := bv.kept g6
    have G6 := G5.trans g6
    clear g6 G5
    go_wp2_with fail
    (with_reducible refine (toIntS_c (ha.kept G6) hlx).mono ?_); rintro e w7 ⟨v7, rfl, o7, g7⟩
    replace a1 := a1.kept g7
    replace a2 := a2.kept g7
    replace a3 := a3.kept g7
    replace b1 := b1.kept g7
    replace b2 := b2.kept g7
    replace b3 := b3.kept g7
    replace HS := Lib.hid (g7.blk HS.out)
    replace HX := Lib.hid (g7.blk HX.out)
    replace bv := bv.kept g7
    have G7 := G6.trans g7
    clear g7 G6
    go_wp2_with fail
    (with_reducible refine (eqI_same bv.o.s o7.s).mono ?_); rintro e w8 ⟨rfl, g8⟩
    replace a1 := a1.kept g8
    replace a2 := a2.kept g8
    replace a3 := a3.kept g8
    replace b1 := b1.kept g8
    replace b2 := b2.kept g8
    replace b3 := b3.kept g8
    replace HS := Lib.hid (g8.blk HS.out)
    replace HX := Lib.hid (g8.blk HX.out)
    replace bv := bv.kept g8
    have G8 := G7.trans g8
    clear g8 G7 o7
    go_wp2_with fail
    (with_reducible refine (markIntS_c bv 1 (by decide) (by decide) hlx).mono ?_); rintro e w9 ⟨rfl, bv', f9⟩
    replace a1 := a1.chg f9 (by omega)
    replace a2 := a2.chg f9 (by omega)
    replace a3 := a3.chg f9 (by omega)
    replace HS := Lib.hid ((f9.block w2.heap.size (by omega)).trans HS.out)
    replace HX := Lib.hid ((f9.block w4.heap.size (by omega)).trans HX.out)
    replace b1 := b1.chg f9 (by omega)
    replace b2 := b2.chg f9 (by omega)
    replace b3 := b3.chg f9 (by omega)
    have G9 := f9.gr G8 (by omega)
    clear bv bv' f9 G8
    have hxn : ¬ ((1 : Int) + (xs.length : Int) < 0) := by omega
    have x0 := blk_cell HX.out (j := 0) rfl
    have x1 := blk_cell HX.out (j := 1) rfl
    have x2 := blk_cell HX.out (j := 2) rfl
    have x3 := blk_cell HX.out (j := 3) rfl
    have x4 := blk_cell HX.out (j := 4) rfl
    have x5 := blk_cell HX.out (j := 5) rfl
    have x6 := blk_cell HX.out (j := 6) rfl
    have x7 := blk_cell HX.out (j := 7) rfl
    have s0 := blk_cell HS.out (j := 0) rfl
    have s1 := blk_cell HS.out (j := 1) rfl
    have s2 := blk_cell HS.out (j := 2) rfl
    have s3 := blk_cell HS.out (j := 3) rfl
    have s4 := blk_cell HS.out (j := 4) rfl
    have s5 := blk_cell HS.out (j := 5) rfl
    have s6 := blk_cell HS.out (j := 6) rfl
    have s7 := blk_cell HS.out (j := 7) rfl
    go_wp2_with fail
    (with_reducible refine (eqPair_c k1 n1 k2 n2 t1 t2 b1.o.s a1.o.s b2.o.s a2.o.s).mono ?_); rintro e w10 ⟨rfl, g10⟩
    clear s0 s1 s2 s3 s4 s5 s6 s7 x0 x1 x2 x3 x4 x5 x6 x7
    replace a1 := a1.kept g10
    replace a2 := a2.kept g10
    replace a3 := a3.kept g10
    replace b1 := b1.kept g10
    replace b2 := b2.kept g10
    replace b3 := b3.kept g10
    replace HS := Lib.hid (g10.blk HS.out)
    replace HX := Lib.hid (g10.blk HX.out)
    have G10 := G9.trans g10
    clear g10 G9
    go_wp2_with fail
    (with_reducible refine (eqTagS_c b3.s a3.s).mono ?_); rintro e w11 ⟨rfl, g11⟩
    replace a1 := a1.kept g11
    replace a2 := a2.kept g11
    replace a3 := a3.kept g11
    replace b1 := b1.kept g11
    replace b2 := b2.kept g11
    replace b3 := b3.kept g11
    replace HS := Lib.hid (g11.blk HS.out)
    replace HX := Lib.hid (g11.blk HX.out)
    have G11 := G10.trans g11
    clear g11 G10
    have z11 := (Array.getElem?_eq_some_iff.1 HX.out).1
    have x0 := blk_cell HX.out (j := 0) rfl
    have x1 := blk_cell HX.out (j := 1) rfl
    have x2 := blk_cell HX.out (j := 2) rfl
    have x3 := blk_cell HX.out (j := 3) rfl
    have x4 := blk_cell HX.out (j := 4) rfl
    have x5 := blk_cell HX.out (j := 5) rfl
    have x6 := blk_cell HX.out (j := 6) rfl
    have x7 := blk_cell HX.out (j := 7) rfl
    go_wp2_with fail
    (with_reducible refine (markPair_c k1 n1 k2 n2 t1 t2 b1 b2 (by omega) (by omega) 1 (by decide) (by decide) (by omega) (by omega)).mono ?_); rintro e w12 ⟨rfl, b1', b2', wa, wb, wc, ga, fa, gb, fb⟩
    clear x0 x1 x2 x3 x4 x5 x6 x7
    have HX0 := Lib.hid ((fb.block w4.heap.size (by omega)).trans (gb.blk ((fa.block w4.heap.size (by omega)).trans (ga.blk HX.out))))
    have HS0 := Lib.hid ((fb.block w2.heap.size (by omega)).trans (gb.blk ((fa.block w2.heap.size (by omega)).trans (ga.blk HS.out))))
    replace a1 := (((a1.kept ga).chg fa (by omega)).kept gb).chg fb (by omega)
    replace a2 := (((a2.kept ga).chg fa (by omega)).kept gb).chg fb (by omega)
    replace a3 := (((a3.kept ga).chg fa (by omega)).kept gb).chg fb (by omega)
    replace b3 := (((b3.kept ga).chg fa (by omega)).kept gb).chg fb (by omega)
    have G12 := fb.gr ((fa.gr (G11.trans ga) (by omega)).trans gb) (by omega)
    replace HX := HX0
    replace HS := HS0
    clear HX0 HS0 ga fa gb fb G11 b1 b2 z11
    go_wp2_with fail
    (with_reducible refine (markTagS_c b3 (1 + q1.length + q2.length) (1 + (q1.length : Int) + (q2.length : Int)) (by omega) (by omega)).mono ?_); rintro e w13 ⟨rfl, b3', f13⟩
    replace a1 := a1.chg f13 (by omega)
    replace a2 := a2.chg f13 (by omega)
    replace a3 := a3.chg f13 (by omega)
    replace HS := Lib.hid ((f13.block w2.heap.size (by omega)).trans HS.out)
    replace HX := Lib.hid ((f13.block w4.heap.size (by omega)).trans HX.out)
    replace b1' := b1'.chg f13 (by omega)
    replace b2' := b2'.chg f13 (by omega)
    have G13 := f13.gr G12 (by omega)
    clear f13 G12 b3
    have hk : (1 : Int) + (q1.length : Int) = (1 : Int) + (q1.length : Int) := rfl
    have x0 := blk_cell HX.out (j := 0) rfl
    have x1 := blk_cell HX.out (j := 1) rfl
    have x2 := blk_cell HX.out (j := 2) rfl
    have x3 := blk_cell HX.out (j := 3) rfl
    have x4 := blk_cell HX.out (j := 4) rfl
    have x5 := blk_cell HX.out (j := 5) rfl
    have x6 := blk_cell HX.out (j := 6) rfl
    have x7 := blk_cell HX.out (j := 7) rfl
    go_wp2_with fail
    (with_reducible refine (heldPair_c k1 n1 k2 n2 t1 t2 1 (1 + (q1.length : Int)) q1.length q2.length b1'.o.s b2'.o.s rfl (by decide) (by decide) (by omega) (by omega)).mono ?_); rintro e w14 ⟨rfl, g14⟩
    clear x0 x1 x2 x3 x4 x5 x6 x7
    replace a1 := a1.kept g14
    replace a2 := a2.kept g14
    replace a3 := a3.kept g14
    replace b1' := b1'.kept g14
    replace b2' := b2'.kept g14
    replace b3' := b3'.kept g14
    replace HS := Lib.hid (g14.blk HS.out)
    replace HX := Lib.hid (g14.blk HX.out)
    have G14 := G13.trans g14
    clear g14 G13
    go_wp2_with fail
    (with_reducible refine (heldTagS_c (1 + q1.length + q2.length) b3'.s (by omega) (1 + (q1.length : Int) + (q2.length : Int)) (by omega)).mono ?_); rintro e w15 ⟨rfl, rfl⟩
    go_wp2_with fail
    (with_reducible refine (toIntS_c (ha.kept G14) hlx).mono ?_); rintro e w16 ⟨v16, rfl, o16, g16⟩
    go_wp2_with fail
    (with_reducible refine (implHF HR o16.s hx).mono ?_); rintro e w17 ⟨p17, c17, p17', c17', v17, D1, V1, D2, V2, D3, V3, rfl, d1, d2, d3, l1, l2, l3, l4, l5, l6, l7, l8, g17⟩
    have gZ := gr_alloc w17 (.cells #[.int .i64 k1, .slice p17 q1.length c17, .string t1, .int .i64 n1, .int .i64 k2, .slice p17' q2.length c17', .string t2, .int .i64 n2] 26)
    have HZ := Lib.hid (heap_alloc_new w17 (.cells #[.int .i64 k1, .slice p17 q1.length c17, .string t1, .int .i64 n1, .int .i64 k2, .slice p17' q2.length c17', .string t2, .int .i64 n2] 26))
    replace d1 := d1.kept gZ
    replace d2 := d2.kept gZ
    replace d3 := d3.kept gZ
    have gg := (g16.trans g17).trans gZ
    replace a1 := a1.kept gg
    replace a2 := a2.kept gg
    replace a3 := a3.kept gg
    replace b1' := b1'.kept gg
    replace b2' := b2'.kept gg
    replace b3' := b3'.kept gg
    replace HS := Lib.hid (gg.blk HS.out)
    replace HX := Lib.hid (gg.blk HX.out)
    have G17 := G14.trans gg
    clear o16 g16 g17 gZ gg G14
    have x0 := blk_cell HZ.out (j := 0) rfl
    have x1 := blk_cell HZ.out (j := 1) rfl
    have x2 := blk_cell HZ.out (j := 2) rfl
    have x3 := blk_cell HZ.out (j := 3) rfl
    have x4 := blk_cell HZ.out (j := 4) rfl
    have x5 := blk_cell HZ.out (j := 5) rfl
    have x6 := blk_cell HZ.out (j := 6) rfl
    have x7 := blk_cell HZ.out (j := 7) rfl
    have s0 := blk_cell HS.out (j := 0) rfl
    have s1 := blk_cell HS.out (j := 1) rfl
    have s2 := blk_cell HS.out (j := 2) rfl
    have s3 := blk_cell HS.out (j := 3) rfl
    have s4 := blk_cell HS.out (j := 4) rfl
    have s5 := blk_cell HS.out (j := 5) rfl
    have s6 := blk_cell HS.out (j := 6) rfl
    have s7 := blk_cell HS.out (j := 7) rfl
    go_wp2_with fail
    (with_reducible refine (eqPair_c k1 n1 k2 n2 t1 t2 d1.o.s a1.o.s d2.o.s a2.o.s).mono ?_); rintro e w18 ⟨rfl, g18⟩
    clear s0 s1 s2 s3 s4 s5 s6 s7 x0 x1 x2 x3 x4 x5 x6 x7
    go_wp2_with fail
    (with_reducible refine (eqTagS_c (d3.kept g18).s (a3.kept g18).s).mono ?_); rintro e w19 ⟨rfl, g19⟩
    have gh := g18.trans g19
    replace b1' := b1'.kept gh
    replace b2' := b2'.kept gh
    replace b3' := b3'.kept gh
    replace HX := Lib.hid (gh.blk HX.out)
    have G19 := G17.trans gh
    clear g18 g19 gh G17
    have x0 := blk_cell HX.out (j := 0) rfl
    have x1 := blk_cell HX.out (j := 1) rfl
    have x2 := blk_cell HX.out (j := 2) rfl
    have x3 := blk_cell HX.out (j := 3) rfl
    have x4 := blk_cell HX.out (j := 4) rfl
    have x5 := blk_cell HX.out (j := 5) rfl
    have x6 := blk_cell HX.out (j := 6) rfl
    have x7 := blk_cell HX.out (j := 7) rfl
    go_wp2_with fail
    (with_reducible refine (heldPair_c k1 n1 k2 n2 t1 t2 1 (1 + (q1.length : Int)) q1.length q2.length b1'.o.s b2'.o.s rfl (by decide) (by decide) (by omega) (by omega)).mono ?_); rintro e w20 ⟨rfl, g20⟩
    clear x0 x1 x2 x3 x4 x5 x6 x7
    go_wp2_with fail
    (with_reducible refine (heldTagS_c (1 + q1.length + q2.length) (b3'.kept g20).s (by omega) (1 + (q1.length : Int) + (q2.length : Int)) (by omega)).mono ?_); rintro e w21 ⟨rfl, rfl⟩
    go_wp2
    go_ret
    exact ⟨rfl, G19.trans g20⟩
  · have hx' : ¬ ((xs.length : Int) ≤ 1048576) := by omega
    go_enter Try.func3, Try.ntmps3
    go_wp2_with fail
    go_ret
    exact ⟨rfl, Gr.refl _⟩
end Go.Proofs.Ytfambpdhnicghaa
