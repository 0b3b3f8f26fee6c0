/- The walk of laws.FnExactSniffKind. -/
import Derived.Test.YtjfijmfmomeikaaSniff
import Derived.Test.YtjfijmfmomeikaaExFeedPut
namespace Go.Proofs.Ytjfijmfmomeikaa
open Go.RowKit
theorem FnExactSniffKind_w {w : World} {a : Value} {xs : List Int} (ha : IntS w a xs) :
    Calls Try.prog 4 #[a] w fun e w' => e = .returned (.bool true) ∧ Gr w w' := by
  obtain ⟨p, cap, rfl, _, _⟩ := ha.form
  by_cases hx : xs.length ≤ 1048576
  · have hx' : ((xs.length : Int) ≤ 1048576) := by omega
    have hlx : xs.length ≤ 1000000000000 := by omega
    go_enter Try.func4, Try.ntmps4
    go_wp2_with fail
    (with_reducible refine (toIntS_c ha hlx).mono ?_); rintro e w1 ⟨v1, rfl, o1, g1⟩
    go_wp2_with fail
    (with_reducible refine (specSniffKind_c o1.s).mono ?_); rintro e w2 ⟨rfl, g2⟩
    have G := g1.trans g2
    go_wp2_with fail
    (with_reducible refine (toIntS_c (ha.kept G) hlx).mono ?_); rintro e w3 ⟨v3, rfl, o3, g3⟩
    go_wp2_with fail
    (with_reducible refine (implSniffKind_c o3.s).mono ?_); rintro e w4 ⟨rfl, g4⟩
    replace G := (G.trans g3).trans g4
    go_wp2_with fail
    (with_reducible refine (toIntS_c (ha.kept G) hlx).mono ?_); rintro e w5 ⟨v5, rfl, o5, g5⟩
    go_wp2_with fail
    (with_reducible refine (eqI_same (o3.kept (g4.trans g5)).s o5.s).mono ?_); rintro e w6 ⟨rfl, g6⟩
    go_wp2
    go_ret
    exact ⟨rfl, (G.trans g5).trans g6⟩
  · have hx' : ¬ ((xs.length : Int) ≤ 1048576) := by omega
    go_enter Try.func4, Try.ntmps4
    go_wp2_with fail
    go_ret
    exact ⟨rfl, Gr.refl _⟩
end Go.Proofs.Ytjfijmfmomeikaa
