/- The walks of laws.FnExactPairValid, FnExactLineText. -/
import Derived.Test.YtikkjcfadbhemaaDoorPairL
import Derived.Test.YtikkjcfadbhemaaDoorLineI
import Derived.Test.YtikkjcfadbhemaaDoorGM
namespace Go.Proofs.YtikkjcfadbhemaaDoor
open Go.RowKit
set_option maxRecDepth 20000 in
set_option maxHeartbeats 8000000 in
theorem FnExactPairValid_w {w : World} {a a' : Option Addr} {cap cap' : Nat} {xs ys : List Int} (hm : ML w) (k p k' p' : Int) (s s' : ByteArray) (h : IntS w (.slice a xs.length cap) xs) (h' : IntS w (.slice a' ys.length cap') ys) (hs : s.size ≤ 9223372036854775807) (hs' : s'.size ≤ 9223372036854775807) (hx : xs.length ≤ 9223372036854775807) (hy : ys.length ≤ 9223372036854775807) :
    Calls Tryd.prog 4 #[.agg #[.int .i64 k, .slice a xs.length cap, .string s, .int .i64 p, .int .i64 k', .slice a' ys.length cap', .string s', .int .i64 p']] w fun e w' => e = .returned (.bool true) ∧ Gr w w' := by
  have gB := gr_alloc w (.cells #[.int .i64 k, .slice a xs.length cap, .string s, .int .i64 p, .int .i64 k', .slice a' ys.length cap', .string s', .int .i64 p'] 33)
  go_enter Tryd.func4, Tryd.ntmps4
  go_wp2_with fail
  (with_reducible refine (szPair_c _ k p k' p' s s' a a' xs.length ys.length cap cap' 1048576 (by decide) (by decide) hx hs hy hs').mono ?_); rintro e w1 ⟨r, rfl, hr, g1⟩
  have G1 := gB.trans g1
  rcases hr with hr | ⟨hr0, hr1⟩
  · subst hr
    go_wp2
    go_ret
    exact ⟨rfl, G1⟩
  · have hr2 : ¬ (r < 0) := by omega
    have hsa : s.size ≤ 2000000 := by omega
    have hsb : s'.size ≤ 2000000 := by omega
    have hxa : xs.length ≤ 1000000000000 := by omega
    have hya : ys.length ≤ 1000000000000 := by omega
    clear hr1 hr0 hs hs' hx hy
    obtain ⟨ok, hok⟩ : ∃ ok, parOk ⟨⟨k, xs, tx s, p⟩, ⟨k', ys, tx s', p'⟩⟩ = ok := ⟨_, rfl⟩
    have SC := Lib.hid (fun (W : World) (v v' : Value) (h1 : IntS W v xs) (h2 : IntS W v' ys) => PairValid_c k p k' p' s s' h1 h2 hsa hsb)
    have IC := Lib.hid (fun (W : World) (hM : ML W) (v v' : Value) (h1 : IntS W v xs) (h2 : IntS W v' ys) => implPairValid_c hM k p k' p' s s' h1 h2 hsa hsb)
    simp only [hok] at SC IC
    clear hok
    have a0 := boxN g1 0 rfl
    have a1 := boxN g1 1 rfl
    have a2 := boxN g1 2 rfl
    have a3 := boxN g1 3 rfl
    have a4 := boxN g1 4 rfl
    have a5 := boxN g1 5 rfl
    have a6 := boxN g1 6 rfl
    have a7 := boxN g1 7 rfl
    go_wp2_with fail
    (with_reducible refine (toPair_c k p k' p' s s' (h.kept G1) (h'.kept G1) hxa hya).mono ?_); rintro e w2 ⟨x, c, x', c', T2, rfl, o2, o2', i2, j2, g2⟩
    have G2 := G1.trans g2
    clear a0 a1 a2 a3 a4 a5 a6 a7
    go_wp2_with fail
    (with_reducible refine (SC.out _ _ _ o2.s o2'.s).mono ?_); rintro e w3 ⟨rfl, g3⟩
    have g13 := (g1.trans g2).trans g3
    have G3 := gB.trans g13
    have a0 := boxN g13 0 rfl
    have a1 := boxN g13 1 rfl
    have a2 := boxN g13 2 rfl
    have a3 := boxN g13 3 rfl
    have a4 := boxN g13 4 rfl
    have a5 := boxN g13 5 rfl
    have a6 := boxN g13 6 rfl
    have a7 := boxN g13 7 rfl
    go_wp2_with fail
    (with_reducible refine (toPair_c k p k' p' s s' (h.kept G3) (h'.kept G3) hxa hya).mono ?_); rintro e w4 ⟨y, d, y', d', T4, rfl, o4, o4', i4, j4, g4⟩
    have g14 := g13.trans g4
    have G4 := gB.trans g14
    have gS := gr_alloc w4 (.cells #[.int .i64 k, .slice y xs.length d, .string s, .int .i64 p, .int .i64 k', .slice y' ys.length d', .string s', .int .i64 p'] 27)
    have q4 := o4.s.kept gS
    have q4' := o4'.s.kept gS
    clear a0 a1 a2 a3 a4 a5 a6 a7 o4 o4' o2 o2' i2 i4
    go_wp2_with fail
    (with_reducible refine (IC.out _ (hm.kept (G4.trans gS)) _ _ q4 q4').mono ?_); rintro e w5 ⟨rfl, g5⟩
    have E5 := gS.trans g5
    have g15 := g14.trans E5
    have G5 := gB.trans g15
    have q5 := q4.kept g5
    have q5' := q4'.kept g5
    have a0 := boxN g15 0 rfl
    have a1 := boxN g15 1 rfl
    have a2 := boxN g15 2 rfl
    have a3 := boxN g15 3 rfl
    have a4 := boxN g15 4 rfl
    have a5 := boxN g15 5 rfl
    have a6 := boxN g15 6 rfl
    have a7 := boxN g15 7 rfl
    have e0 := boxN g5 0 rfl
    have e1 := boxN g5 1 rfl
    have e2 := boxN g5 2 rfl
    have e3 := boxN g5 3 rfl
    have e4 := boxN g5 4 rfl
    have e5 := boxN g5 5 rfl
    have e6 := boxN g5 6 rfl
    have e7 := boxN g5 7 rfl
    have h5 := h.kept G5
    have h5' := h'.kept G5
    clear q4 q4' gS
    go_wp2_with fail
    go_region_held3 (fun w' => w'.cell? ⟨w.heap.size, 0, none⟩ = some (.int .i64 k) ∧ w'.cell? ⟨w.heap.size, 1, none⟩ = some (.slice a xs.length cap) ∧ w'.cell? ⟨w.heap.size, 2, none⟩ = some (.string s) ∧ w'.cell? ⟨w.heap.size, 3, none⟩ = some (.int .i64 p) ∧ w'.cell? ⟨w.heap.size, 4, none⟩ = some (.int .i64 k') ∧ w'.cell? ⟨w.heap.size, 5, none⟩ = some (.slice a' ys.length cap') ∧ w'.cell? ⟨w.heap.size, 6, none⟩ = some (.string s') ∧ w'.cell? ⟨w.heap.size, 7, none⟩ = some (.int .i64 p') ∧ w'.cell? ⟨w4.heap.size, 0, none⟩ = some (.int .i64 k) ∧ w'.cell? ⟨w4.heap.size, 1, none⟩ = some (.slice y xs.length d) ∧ w'.cell? ⟨w4.heap.size, 2, none⟩ = some (.string s) ∧ w'.cell? ⟨w4.heap.size, 3, none⟩ = some (.int .i64 p) ∧ w'.cell? ⟨w4.heap.size, 4, none⟩ = some (.int .i64 k') ∧ w'.cell? ⟨w4.heap.size, 5, none⟩ = some (.slice y' ys.length d') ∧ w'.cell? ⟨w4.heap.size, 6, none⟩ = some (.string s') ∧ w'.cell? ⟨w4.heap.size, 7, none⟩ = some (.int .i64 p')) (first | (exact ⟨g7.cell a0, g7.cell a1, g7.cell a2, g7.cell a3, g7.cell a4, g7.cell a5, g7.cell a6, g7.cell a7, g7.cell e0, g7.cell e1, g7.cell e2, g7.cell e3, g7.cell e4, g7.cell e5, g7.cell e6, g7.cell e7⟩) | (exact ⟨g6.cell a0, g6.cell a1, g6.cell a2, g6.cell a3, g6.cell a4, g6.cell a5, g6.cell a6, g6.cell a7, g6.cell e0, g6.cell e1, g6.cell e2, g6.cell e3, g6.cell e4, g6.cell e5, g6.cell e6, g6.cell e7⟩) | go_keep) (first
      | (go_at_call 20; (with_reducible refine (toPair_c k p k' p' s s' (h5.kept ((Gr.refl _).drew)) (h5'.kept ((Gr.refl _).drew)) hxa hya).mono ?_); rintro e w6 ⟨z, f, z', f', T6, rfl, o6, o6', i6, j6, g6'⟩; have g6 : Gr w5 w6 := g6'.undrew)
      | (go_at_call 21; (with_reducible refine (eqPair_c k p k' p' s s' (q5.kept g6) o6.s (q5'.kept g6) o6'.s).mono ?_); rintro e w7 ⟨rfl, g7'⟩; have g7 : Gr w5 w7 := g6.trans g7'))
    go_wp2
    go_ret
    exact ⟨rfl, G5.trans g7⟩
set_option maxRecDepth 20000 in
set_option maxHeartbeats 8000000 in
theorem FnExactLineText_w {w : World} {a a' : Option Addr} {cap cap' : Nat} {xs ys : List Int} (hm : ML w) (ht : Tab w) (k p k' p' : Int) (s s' : ByteArray) (h : IntS w (.slice a xs.length cap) xs) (h' : IntS w (.slice a' ys.length cap') ys) (hs : s.size ≤ 9223372036854775807) (hs' : s'.size ≤ 9223372036854775807) (hx : xs.length ≤ 9223372036854775807) (hy : ys.length ≤ 9223372036854775807) :
    Calls Tryd.prog 15 #[.agg #[.int .i64 k, .slice a xs.length cap, .string s, .int .i64 p, .int .i64 k', .slice a' ys.length cap', .string s', .int .i64 p']] w fun e w' => e = .returned (.bool true) ∧ Gr w w' := by
  have gB := gr_alloc w (.cells #[.int .i64 k, .slice a xs.length cap, .string s, .int .i64 p, .int .i64 k', .slice a' ys.length cap', .string s', .int .i64 p'] 33)
  go_enter Tryd.func15, Tryd.ntmps15
  go_wp2_with fail
  (with_reducible refine (szPair_c _ k p k' p' s s' a a' xs.length ys.length cap cap' 1048576 (by decide) (by decide) hx hs hy hs').mono ?_); rintro e w1 ⟨r, rfl, hr, g1⟩
  have G1 := gB.trans g1
  rcases hr with hr | ⟨hr0, hr1⟩
  · subst hr
    go_wp2
    go_ret
    exact ⟨rfl, G1⟩
  · have hr2 : ¬ (r < 0) := by omega
    have hsa : s.size ≤ 2000000 := by omega
    have hsb : s'.size ≤ 2000000 := by omega
    have hxa : xs.length ≤ 1000000000000 := by omega
    have hya : ys.length ≤ 1000000000000 := by omega
    clear hr1 hr0 hs hs' hx hy
    obtain ⟨t, et⟩ : ∃ t, S (if parOk ⟨⟨k, xs, tx s, p⟩, ⟨k', ys, tx s', p'⟩⟩ = true then lineText ⟨⟨k, xs, tx s, p⟩, ⟨k', ys, tx s', p'⟩⟩ else []) = t := ⟨_, rfl⟩
    have SC := Lib.hid (fun (W : World) (v v' : Value) (h1 : IntS W v xs) (h2 : IntS W v' ys) => LineText_c k p k' p' s s' h1 h2 hsa hsb)
    have IC := Lib.hid (fun (W : World) (hM : ML W) (hT : Tab W) (v v' : Value) (h1 : IntS W v xs) (h2 : IntS W v' ys) => implLineText_c hM hT k p k' p' s s' h1 h2 hsa hsb)
    simp only [et] at SC IC
    clear et
    have a0 := boxN g1 0 rfl
    have a1 := boxN g1 1 rfl
    have a2 := boxN g1 2 rfl
    have a3 := boxN g1 3 rfl
    have a4 := boxN g1 4 rfl
    have a5 := boxN g1 5 rfl
    have a6 := boxN g1 6 rfl
    have a7 := boxN g1 7 rfl
    go_wp2_with fail
    (with_reducible refine (toPair_c k p k' p' s s' (h.kept G1) (h'.kept G1) hxa hya).mono ?_); rintro e w2 ⟨x, c, x', c', T2, rfl, o2, o2', i2, j2, g2⟩
    have G2 := G1.trans g2
    clear a0 a1 a2 a3 a4 a5 a6 a7
    go_wp2_with fail
    (with_reducible refine (SC.out _ _ _ o2.s o2'.s).mono ?_); rintro e w3 ⟨rfl, g3⟩
    have g13 := (g1.trans g2).trans g3
    have G3 := gB.trans g13
    have a0 := boxN g13 0 rfl
    have a1 := boxN g13 1 rfl
    have a2 := boxN g13 2 rfl
    have a3 := boxN g13 3 rfl
    have a4 := boxN g13 4 rfl
    have a5 := boxN g13 5 rfl
    have a6 := boxN g13 6 rfl
    have a7 := boxN g13 7 rfl
    go_wp2_with fail
    (with_reducible refine (toPair_c k p k' p' s s' (h.kept G3) (h'.kept G3) hxa hya).mono ?_); rintro e w4 ⟨y, d, y', d', T4, rfl, o4, o4', i4, j4, g4⟩
    have g14 := g13.trans g4
    have G4 := gB.trans g14
    have gS := gr_alloc w4 (.cells #[.int .i64 k, .slice y xs.length d, .string s, .int .i64 p, .int .i64 k', .slice y' ys.length d', .string s', .int .i64 p'] 27)
    have q4 := o4.s.kept gS
    have q4' := o4'.s.kept gS
    clear a0 a1 a2 a3 a4 a5 a6 a7 o4 o4' o2 o2' i2 i4
    go_wp2_with fail
    (with_reducible refine (IC.out _ (hm.kept (G4.trans gS)) (ht.kept (G4.trans gS)) _ _ q4 q4').mono ?_); rintro e w5 ⟨rfl, g5⟩
    have E5 := gS.trans g5
    have g15 := g14.trans E5
    have G5 := gB.trans g15
    have q5 := q4.kept g5
    have q5' := q4'.kept g5
    have a0 := boxN g15 0 rfl
    have a1 := boxN g15 1 rfl
    have a2 := boxN g15 2 rfl
    have a3 := boxN g15 3 rfl
    have a4 := boxN g15 4 rfl
    have a5 := boxN g15 5 rfl
    have a6 := boxN g15 6 rfl
    have a7 := boxN g15 7 rfl
    have e0 := boxN g5 0 rfl
    have e1 := boxN g5 1 rfl
    have e2 := boxN g5 2 rfl
    have e3 := boxN g5 3 rfl
    have e4 := boxN g5 4 rfl
    have e5 := boxN g5 5 rfl
    have e6 := boxN g5 6 rfl
    have e7 := boxN g5 7 rfl
    have h5 := h.kept G5
    have h5' := h'.kept G5
    clear q4 q4' gS
    go_wp2_with fail
    go_region_held3 (fun w' => w'.cell? ⟨w.heap.size, 0, none⟩ = some (.int .i64 k) ∧ w'.cell? ⟨w.heap.size, 1, none⟩ = some (.slice a xs.length cap) ∧ w'.cell? ⟨w.heap.size, 2, none⟩ = some (.string s) ∧ w'.cell? ⟨w.heap.size, 3, none⟩ = some (.int .i64 p) ∧ w'.cell? ⟨w.heap.size, 4, none⟩ = some (.int .i64 k') ∧ w'.cell? ⟨w.heap.size, 5, none⟩ = some (.slice a' ys.length cap') ∧ w'.cell? ⟨w.heap.size, 6, none⟩ = some (.string s') ∧ w'.cell? ⟨w.heap.size, 7, none⟩ = some (.int .i64 p') ∧ w'.cell? ⟨w4.heap.size, 0, none⟩ = some (.int .i64 k) ∧ w'.cell? ⟨w4.heap.size, 1, none⟩ = some (.slice y xs.length d) ∧ w'.cell? ⟨w4.heap.size, 2, none⟩ = some (.string s) ∧ w'.cell? ⟨w4.heap.size, 3, none⟩ = some (.int .i64 p) ∧ w'.cell? ⟨w4.heap.size, 4, none⟩ = some (.int .i64 k') ∧ w'.cell? ⟨w4.heap.size, 5, none⟩ = some (.slice y' ys.length d') ∧ w'.cell? ⟨w4.heap.size, 6, none⟩ = some (.string s') ∧ w'.cell? ⟨w4.heap.size, 7, none⟩ = some (.int .i64 p')) (first | (exact ⟨g7.cell a0, g7.cell a1, g7.cell a2, g7.cell a3, g7.cell a4, g7.cell a5, g7.cell a6, g7.cell a7, g7.cell e0, g7.cell e1, g7.cell e2, g7.cell e3, g7.cell e4, g7.cell e5, g7.cell e6, g7.cell e7⟩) | (exact ⟨g6.cell a0, g6.cell a1, g6.cell a2, g6.cell a3, g6.cell a4, g6.cell a5, g6.cell a6, g6.cell a7, g6.cell e0, g6.cell e1, g6.cell e2, g6.cell e3, g6.cell e4, g6.cell e5, g6.cell e6, g6.cell e7⟩) | go_keep) (first
      | (go_at_call 20; (with_reducible refine (toPair_c k p k' p' s s' (h5.kept ((Gr.refl _).drew)) (h5'.kept ((Gr.refl _).drew)) hxa hya).mono ?_); rintro e w6 ⟨z, f, z', f', T6, rfl, o6, o6', i6, j6, g6'⟩; have g6 : Gr w5 w6 := g6'.undrew)
      | (go_at_call 21; (with_reducible refine (eqPair_c k p k' p' s s' (q5.kept g6) o6.s (q5'.kept g6) o6'.s).mono ?_); rintro e w7 ⟨rfl, g7'⟩; have g7 : Gr w5 w7 := g6.trans g7'))
    go_wp2
    go_ret
    exact ⟨rfl, G5.trans g7⟩
end Go.Proofs.YtikkjcfadbhemaaDoor
