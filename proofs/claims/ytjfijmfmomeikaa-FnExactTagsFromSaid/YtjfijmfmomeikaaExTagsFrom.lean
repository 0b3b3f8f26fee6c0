/- The walk of laws.FnExactTagsFrom. -/
import Derived.Test.YtjfijmfmomeikaaMarkB
namespace Go.Proofs.Ytjfijmfmomeikaa
open Go.RowKit
def FromIs (xs : List Int) (ok : Bool) (ts : List Tag) : Prop := (tagsFrom xs).isSome = ok ∧ (tagsFrom xs).getD [] = ts
theorem specTF {w : World} {v : Value} {xs : List Int} {ok : Bool} {ts : List Tag} (hR : Hid (FromIs xs ok ts)) (h : IntS w v xs) (hlen : xs.length ≤ 1048576) :
    Calls Try.prog 22 #[v] w fun e w' => ∃ v' T, e = .returned (.tuple #[v', .bool ok]) ∧ TagO w.heap.size T w' v' ts ∧ T ≤ w'.heap.size ∧ Gr w w' := by
  have := specTagsFrom_c h hlen
  unfold FromR at this
  rw [hR.out.1, hR.out.2] at this
  exact this
theorem implTF {w : World} {v : Value} {xs : List Int} {ok : Bool} {ts : List Tag} (hR : Hid (FromIs xs ok ts)) (h : IntS w v xs) (hlen : xs.length ≤ 1048576) :
    Calls Try.prog 23 #[v] w fun e w' => ∃ v' T, e = .returned (.tuple #[v', .bool ok]) ∧ TagO w.heap.size T w' v' ts ∧ T ≤ w'.heap.size ∧ Gr w w' := by
  have := implTagsFrom_c h hlen
  unfold FromR at this
  rw [hR.out.1, hR.out.2] at this
  exact this
theorem cnt_small {ts : List Tag} (h : ts.all tagOk = true) : cnt ts ≤ 17 * ts.length := by
  induction ts with
  | nil => simp [cnt]
  | cons t ts ih =>
    simp only [List.all_cons, Bool.and_eq_true] at h
    have h1 := ih h.2
    have h2 := h.1
    simp only [tagOk, Bool.and_eq_true, decide_eq_true_eq] at h2
    simp only [cnt, List.length_cons]
    omega
theorem fromIs_cnt {xs : List Int} {ok : Bool} {ts : List Tag} (h : FromIs xs ok ts) : cnt ts ≤ 68 := by
  obtain ⟨_, rfl⟩ := h
  cases hc : tagsFrom xs with
  | none => simp [cnt]
  | some us =>
    have hok : tagsOk us = true := by
      unfold tagsFrom at hc
      split at hc
      · split at hc
        · split at hc
          · rename_i h; cases hc; exact h
          · cases hc
        · cases hc
      · cases hc
    simp only [tagsOk, Bool.and_eq_true, decide_eq_true_eq] at hok
    have := cnt_small hok.2
    simp only [Option.getD_some]
    omega
set_option maxHeartbeats 1000000 in
theorem FnExactTagsFrom_w {w : World} {a : Value} {xs : List Int} (ha : IntS w a xs) :
    Calls Try.prog 8 #[a] w fun e w' => e = .returned (.bool true) ∧ Gr w w' := by
  obtain ⟨p, cap, rfl, _, _⟩ := ha.form
  by_cases hx : xs.length ≤ 1048576
  · obtain ⟨ok, ts, hR⟩ : ∃ ok ts, FromIs xs ok ts := ⟨_, _, rfl, rfl⟩
    have hct := fromIs_cnt hR
    have HR := Lib.hid hR; clear hR
    have hx' : ((xs.length : Int) ≤ 1048576) := by omega
    have hlx : xs.length ≤ 1000000000000 := by omega
    have hcn : ¬ ((1 : Int) + (cnt ts : Int) < 0) := by omega
    go_enter Try.func8, Try.ntmps8
    go_wp2_with fail
    (with_reducible refine (toIntS_c ha hlx).mono ?_); rintro e w1 ⟨v1, rfl, o1, g1⟩
    go_wp2_with fail
    (with_reducible refine (specTF HR o1.s hx).mono ?_); rintro e w2 ⟨v2, T2, rfl, o2, hT2, g2⟩
    have G2 := g1.trans g2
    go_wp2_with fail
    (with_reducible refine (toIntS_c (ha.kept G2) hlx).mono ?_); rintro e w3 ⟨v3, rfl, o3, g3⟩
    go_wp2_with fail
    (with_reducible refine (implTF HR o3.s hx).mono ?_); rintro e w4 ⟨v4, T4, rfl, o4, hT4, g4⟩
    have z1 := g1.sz; have z2 := g2.sz; have z3 := g3.sz; have z4 := g4.sz
    replace o2 := (o2.kept g3).kept g4
    have b3 := o3.b.kept g4
    have G4 := (G2.trans g3).trans g4
    clear o1 o3 g1 g2 g3 g4 G2
    go_wp2_with fail
    (with_reducible refine (eqTagS_c o4.s o2.s).mono ?_); rintro e w5 ⟨rfl, g5⟩
    go_wp2_with fail
    (with_reducible refine (toIntS_c (ha.kept (G4.trans g5)) hlx).mono ?_); rintro e w6 ⟨v6, rfl, o6, g6⟩
    go_wp2_with fail
    (with_reducible refine (eqI_same (b3.kept (g5.trans g6)).s o6.s).mono ?_); rintro e w7 ⟨rfl, g7⟩
    have g57 := (g5.trans g6).trans g7
    have G7 := G4.trans g57
    replace b3 := b3.kept g57
    replace o2 := o2.kept g57
    replace o4 := o4.kept g57
    clear o6 g5 g6 g7 g57 G4
    go_wp2_with fail
    (with_reducible refine (markIntS_c b3 1 (by decide) (by decide) hlx).mono ?_); rintro e w8 ⟨rfl, b3', f8⟩
    replace o4 := o4.chg f8 (by omega)
    replace o2 := o2.chg f8 (by omega)
    have G8 := f8.gr G7 (by omega)
    clear b3 b3' f8 G7
    go_wp2_with fail
    (with_reducible refine (eqTagS_c o4.s o2.s).mono ?_); rintro e w9 ⟨rfl, g9⟩
    replace o4 := o4.kept g9
    replace o2 := o2.kept g9
    have G9 := G8.trans g9
    clear g9 G8
    go_wp2_with fail
    (with_reducible refine (markTagS_c o4 1 1 rfl (by omega)).mono ?_); rintro e w10 ⟨rfl, o4', f10⟩
    replace o2 := o2.chg f10 (by omega)
    have G10 := f10.gr G9 (by omega)
    clear o4 f10 G9
    go_wp2_with fail
    (with_reducible refine (heldTagS_c 1 o4'.s (by omega) 1 rfl).mono ?_); rintro e w11 ⟨rfl, rfl⟩
    go_wp2_with fail
    (with_reducible refine (toIntS_c (ha.kept G10) hlx).mono ?_); rintro e w12 ⟨v12, rfl, o12, g12⟩
    go_wp2_with fail
    (with_reducible refine (implTF HR o12.s hx).mono ?_); rintro e w13 ⟨v13, T13, rfl, o13, hT13, g13⟩
    go_wp2_with fail
    (with_reducible refine (eqTagS_c o13.s (o2.kept (g12.trans g13)).s).mono ?_); rintro e w14 ⟨rfl, g14⟩
    have g1214 := (g12.trans g13).trans g14
    go_wp2_with fail
    (with_reducible refine (heldTagS_c 1 (o4'.kept g1214).s (by omega) 1 rfl).mono ?_); rintro e w15 ⟨rfl, rfl⟩
    go_wp2
    go_ret
    exact ⟨rfl, G10.trans g1214⟩
  · have hx' : ¬ ((xs.length : Int) ≤ 1048576) := by omega
    go_enter Try.func8, Try.ntmps8
    go_wp2_with fail
    go_ret
    exact ⟨rfl, Gr.refl _⟩
end Go.Proofs.Ytjfijmfmomeikaa
