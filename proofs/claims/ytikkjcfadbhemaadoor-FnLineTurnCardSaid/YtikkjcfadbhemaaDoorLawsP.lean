/- The walks of laws.FnPairTurn, FnLineTurn, FnLineBegin. -/
import Derived.Test.YtikkjcfadbhemaaDoorDrawI
import Derived.Test.YtikkjcfadbhemaaDoorLineI
import Derived.Test.YtikkjcfadbhemaaDoorLineQ
namespace Go.Proofs.YtikkjcfadbhemaaDoor
open Go.RowKit
set_option maxHeartbeats 2000000 in
theorem FnPairTurn_w {w : World} {v : Value} {bs : List Int} (hm : ML w) (h : ByteS w v bs) :
    Calls Tryd.prog 3 #[v] w fun e w' => e = .returned (.bool true) ∧ Gr w w' := by
  obtain ⟨p, cap, rfl, _, _⟩ := h.form
  by_cases hx : bs.length ≤ 1048576
  · have hx' : ((bs.length : Int) ≤ 1048576) := by omega
    go_enter Tryd.func3, Tryd.ntmps3
    go_wp2_with fail
    (with_reducible refine (DrawPairValid_c h).mono ?_); rintro e w1 ⟨pq, cq, pq', cq', k, p, k', p', s, s', xs, ys, rfl, hxl, hyl, hsl, hsl', q1, q1', g1⟩
    have gS := gr_alloc w1 (.cells #[.int .i64 k, .slice pq xs.length cq, .string s, .int .i64 p, .int .i64 k', .slice pq' ys.length cq', .string s', .int .i64 p'] 27)
    have hS := g1.trans gS
    have hs : s.size ≤ 1000000 := by omega
    have hs' : s'.size ≤ 1000000 := by omega
    clear hsl hsl' hxl hyl
    have HT := Lib.hid (parOk_turn ⟨⟨k, xs, tx s, p⟩, ⟨k', ys, tx s', p'⟩⟩)
    have HSM := Lib.hid (fun h => parOk_same (p := ⟨⟨k, xs, tx s, p⟩, ⟨k', ys, tx s', p'⟩⟩) h)
    cases hr : parOk ⟨⟨k, xs, tx s, p⟩, ⟨k', ys, tx s', p'⟩⟩
    · have HR := Lib.hid hr
      have HR2 : Hid (parOk ⟨⟨k', ys, tx s', p'⟩, ⟨k, xs, tx s, p⟩⟩ = false) := Lib.hid (HT.out.trans hr)
      clear hr
      go_wp2_with fail
      (with_reducible refine (implPairValid_c (hm.kept hS) k p k' p' s s' (q1.kept gS) (q1'.kept gS) hs hs').mono ?_); rintro e w2 ⟨rfl, g2⟩
      rw [HR.out]
      have c0 := boxN g2 0 rfl
      have c1 := boxN g2 1 rfl
      have c2 := boxN g2 2 rfl
      have c3 := boxN g2 3 rfl
      have c4 := boxN g2 4 rfl
      have c5 := boxN g2 5 rfl
      have c6 := boxN g2 6 rfl
      have c7 := boxN g2 7 rfl
      have G2 := gS.trans g2
      go_wp2_with fail
      (with_reducible refine (PairValid_c k p k' p' s s' (q1.kept G2) (q1'.kept G2) hs hs').mono ?_); rintro e w3 ⟨rfl, g3⟩
      rw [HR.out]
      have d3 := g2.trans g3
      clear c0 c1 c2 c3 c4 c5 c6 c7
      have c0 := boxN d3 0 rfl
      have c1 := boxN d3 1 rfl
      have c2 := boxN d3 2 rfl
      have c3 := boxN d3 3 rfl
      have c4 := boxN d3 4 rfl
      have c5 := boxN d3 5 rfl
      have c6 := boxN d3 6 rfl
      have c7 := boxN d3 7 rfl
      have G3 := gS.trans d3
      go_wp2_with fail
      (with_reducible refine (implPairValid_c (hm.kept (g1.trans G3)) k' p' k p s' s (q1'.kept G3) (q1.kept G3) hs' hs).mono ?_); rintro e w4 ⟨rfl, g4⟩
      rw [HR2.out]
      go_wp2
      go_ret
      exact ⟨rfl, (g1.trans G3).trans g4⟩
    · have HR := Lib.hid hr
      have HR2 : Hid (parOk ⟨⟨k', ys, tx s', p'⟩, ⟨k, xs, tx s, p⟩⟩ = true) := Lib.hid (HT.out.trans hr)
      have HR3 : Hid (parOk ⟨⟨k', ys, tx s', p'⟩, ⟨k', ys, tx s', p'⟩⟩ = true) := Lib.hid (HSM.out hr)
      clear hr
      go_wp2_with fail
      (with_reducible refine (implPairValid_c (hm.kept hS) k p k' p' s s' (q1.kept gS) (q1'.kept gS) hs hs').mono ?_); rintro e w2 ⟨rfl, g2⟩
      rw [HR.out]
      have c0 := boxN g2 0 rfl
      have c1 := boxN g2 1 rfl
      have c2 := boxN g2 2 rfl
      have c3 := boxN g2 3 rfl
      have c4 := boxN g2 4 rfl
      have c5 := boxN g2 5 rfl
      have c6 := boxN g2 6 rfl
      have c7 := boxN g2 7 rfl
      have G2 := gS.trans g2
      go_wp2_with fail
      (with_reducible refine (PairValid_c k p k' p' s s' (q1.kept G2) (q1'.kept G2) hs hs').mono ?_); rintro e w3 ⟨rfl, g3⟩
      rw [HR.out]
      have d3 := g2.trans g3
      clear c0 c1 c2 c3 c4 c5 c6 c7
      have c0 := boxN d3 0 rfl
      have c1 := boxN d3 1 rfl
      have c2 := boxN d3 2 rfl
      have c3 := boxN d3 3 rfl
      have c4 := boxN d3 4 rfl
      have c5 := boxN d3 5 rfl
      have c6 := boxN d3 6 rfl
      have c7 := boxN d3 7 rfl
      have G3 := gS.trans d3
      go_wp2_with fail
      (with_reducible refine (implPairValid_c (hm.kept (g1.trans G3)) k' p' k p s' s (q1'.kept G3) (q1.kept G3) hs' hs).mono ?_); rintro e w4 ⟨rfl, g4⟩
      rw [HR2.out]
      have d4 := d3.trans g4
      clear c0 c1 c2 c3 c4 c5 c6 c7
      have c0 := boxN d4 0 rfl
      have c1 := boxN d4 1 rfl
      have c2 := boxN d4 2 rfl
      have c3 := boxN d4 3 rfl
      have c4 := boxN d4 4 rfl
      have c5 := boxN d4 5 rfl
      have c6 := boxN d4 6 rfl
      have c7 := boxN d4 7 rfl
      have G4 := gS.trans d4
      go_wp2_with fail
      (with_reducible refine (implPairValid_c (hm.kept (g1.trans G4)) k' p' k' p' s' s' (q1'.kept G4) (q1'.kept G4) hs' hs').mono ?_); rintro e w5 ⟨rfl, g5⟩
      rw [HR3.out]
      go_wp2
      go_ret
      exact ⟨rfl, (g1.trans G4).trans g5⟩
  · have hx' : ¬ ((bs.length : Int) ≤ 1048576) := by omega
    go_enter Tryd.func3, Tryd.ntmps3
    go_wp2_with fail
    go_ret
    exact ⟨rfl, Gr.refl _⟩
end Go.Proofs.YtikkjcfadbhemaaDoor
