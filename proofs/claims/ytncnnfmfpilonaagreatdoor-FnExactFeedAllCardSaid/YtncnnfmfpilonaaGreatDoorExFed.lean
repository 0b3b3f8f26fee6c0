/- The walk of laws.FnExactFeedAll. -/
import Derived.Test.YtncnnfmfpilonaaGreatDoorFrmN
import Derived.Test.YtncnnfmfpilonaaGreatDoorExSz
namespace Go.Proofs.YtncnnfmfpilonaaGreatDoor
open Go.RowKit
/-- The program's way: frames that keep clear of what is left. -/
def FaN (fs : List (List Int)) (rest : List Int) (w : World) (e : Ending) (w' : World) : Prop :=
  ∃ (p : Option Addr) (c : Nat) (q : Option Addr) (d B1 T1 : Nat), e = .returned (.tuple #[.slice p fs.length c, .slice q rest.length d]) ∧ FrN (Value.slice q rest.length d).ownBlock B1 T1 w' (.slice p fs.length c) fs ∧ IntO w.heap.size 3 w' (.slice q rest.length d) rest ∧
    w.heap.size ≤ B1 ∧ T1 ≤ w'.heap.size ∧ Gr w w'
set_option maxHeartbeats 4000000 in
theorem implFeedAllN_c {w : World} {v : Value} {xs : List Int} (hm : ML w) (he : ErrV w) (ht : Tab w) (h : IntS w v xs) (hlen : xs.length ≤ 1048576) {fs : List (List Int)} {r : List Int} (hR : Hid (feedAll xs = (fs, r))) :
    Calls Tryz.prog 34 #[v] w (FaN fs r w) := by
  obtain ⟨p, cap, rfl, _, _⟩ := h.form
  go_enter Tryz.func34, Tryz.ntmps34
  go_wp2_with fail
  (with_reducible refine (Clone_c h (by omega)).mono ?_); rintro e w1 ⟨v1, rfl, o1, g1⟩
  go_wp2_with fail
  go_loopw [4, 5] (fun v4 v5 wr => ∃ (gs : List (List Int)) (rest : List Int) (B1 T1 : Nat), FrN v5.ownBlock B1 T1 wr v4 gs ∧ T1 ≤ wr.heap.size ∧ B1 ≤ T1 ∧ w.heap.size ≤ B1 ∧ IntO w.heap.size 3 wr v5 rest ∧ Hid (FedTo xs gs rest) ∧ Gr w wr) (fun _ v5 _ => vlen v5)
  case atStart => exact ⟨[], xs, w.heap.size, w.heap.size, (FrO.nil _ _ _).n (fun b hb => (o1.blk b hb).1), g1.sz, Nat.le_refl _, Nat.le_refl _, o1, FedTo.start xs, g1⟩
  case round =>
    obtain ⟨gs, rest, B1, T1, hF, hT, hBT, hB, ho, hu, hG⟩ := hrel
    clear o1 g1
    obtain ⟨q5, c5, rfl⟩ := ho.len
    obtain ⟨p4, c4, rfl⟩ := hF.o.form
    have hrl : rest.length ≤ 1048576 := by have := hu.out.2; omega
    cases hs : sniffSize rest with
    | none =>
      obtain ⟨rfl, rfl⟩ := hu.out.done hs hR.out
      have hA : Hid (fsA r = [] ∧ fsB r = [] ∧ (sniffSize r).isSome = false) := Lib.hid ⟨(fsA_none hs).1, (fsA_none hs).2, by rw [hs]; rfl⟩
      clear hs hu hR
      go_wp2_with fail
      (with_reducible refine (implFeedTake_c (hm.kept hG) (he.kept hG) (ht.kept hG) ho.s hrl hA).mono ?_); rintro e w2 ⟨_, _, _, _, _, _, _, _, rfl, _, _, _, _, _, _, _, g2⟩
      go_wp2
      go_ret2
      exact ⟨_, _, _, _, _, _, rfl, hF.kept g2, IntO.kept ho g2, hB, Nat.le_trans hT g2.sz, hG.trans g2⟩
    | some n =>
      obtain ⟨n0, nl, _⟩ := sniffSize_is hs
      have hN := Lib.hid (hu.out.next hs)
      have hA : Hid (fsA rest = rest.take n ∧ fsB rest = rest.drop n ∧ (sniffSize rest).isSome = true) := Lib.hid ⟨(fsA_some hs).1, (fsA_some hs).2, by rw [hs]; rfl⟩
      have hdl : (rest.drop n).length < rest.length := by rw [List.length_drop]; omega
      have hg6 : gs.length ≤ 2000000 := by have := hu.out.len; omega
      clear hs hu n0 nl
      generalize rest.take n = us at *
      generalize rest.drop n = vs at *
      go_wp2_with fail
      (with_reducible refine (implFeedTake_c (hm.kept hG) (he.kept hG) (ht.kept hG) ho.s hrl hA).mono ?_); rintro e w2 ⟨p2, c2, q2, d2, Ba, Ta, Bb, Tb, rfl, ia, ib, za, zb, zab, zta, ztb, g2⟩
      have hF2 : FrN (Value.slice q2 vs.length d2).ownBlock B1 T1 (w2.alloc (.cells #[.slice p2 us.length c2] 22)) (.slice p4 gs.length c4) gs := FrO.n (hF.o.kept (g2.trans (gr_alloc w2 _))) (fun b hb => by have := (ib.o.blk b hb).1; omega)
      have hZ : Hid (∀ b, (Value.slice q2 vs.length d2).ownBlock = some b → (Value.slice p2 us.length c2).ownBlock ≠ some b ∧ b < (w2.alloc (.cells #[.slice p2 us.length c2] 22)).heap.size) := Lib.hid fun b hb => ⟨fun ha => by
        have a1 := (ia.o.blk b ha).1
        have a2 := ia.2 b ha
        have b1 := (ib.o.blk b hb).1
        have b2 := ib.2 b hb
        omega, by have := (ib.o.blk b hb).2; simp; omega⟩
      have ia2 := (IntO.mono ia.o (Nat.le_trans hT za)).kept (gr_alloc w2 (.cells #[.slice p2 us.length c2] 22))
      have ib2 := ib.o.kept (gr_alloc w2 (.cells #[.slice p2 us.length c2] 22))
      have hT2 : T1 ≤ (w2.alloc (.cells #[.slice p2 us.length c2] 22)).heap.size := Nat.le_trans hT (g2.trans (gr_alloc w2 _)).sz
      go_wp2_with (at_builtin; refine wpl_appN rfl (.tmp 21) (.tmp 23) rfl rfl hF2 hT2 hBT rfl (Row.oneF _ _ rfl) ia2 hg6 hZ.out ?_; intro v6 w6 hF6 hb6 hk6)
      have ib6 : IntO Bb 3 w6 (.slice q2 vs.length d2) vs := Own.keptOf ib2 fun k hk1 hk2 => hk6 k (by omega) hk2
      have hG6 : Gr w w6 := Below.trans (hG.trans (g2.trans (gr_alloc w2 _))) (hb6.mono hB)
      have hz6 := hG6.sz
      go_roundw
      case rel => exact ⟨_, vs, B1, w6.heap.size, hF6, Nat.le_refl _, by have := hb6.size; omega, hB, IntO.mono ib6 (by have := hG.sz; omega), hN.out, hG6⟩
      case measure => simp only [vlen]; omega
theorem cntF_flat (fs : List (List Int)) : cntF fs = fs.flatten.length := by
  induction fs with
  | nil => rfl
  | cons f fs ih => simp [cntF, ih]
/-- A slice that is owned lies in one block, or in none. -/
theorem IntO.lone {B : Nat} {w : World} {v : Value} {xs : List Int} (h : IntO B 3 w v xs) : ∃ b, B ≤ b ∧ IntB b (b + 1) 3 w v xs ∧ (v.ownBlock = some b ∨ (v.ownBlock = none ∧ w.heap.size ≤ b)) := by
  rcases h with ⟨h1, ⟨rfl, h2⟩ | ⟨g, cap, cur, rfl, h4, h5, h6⟩⟩
  · have : xs = [] := List.eq_nil_of_length_eq_zero h2
    subst this
    exact ⟨max B w.heap.size, Nat.le_max_left _ _, ⟨World.ownsRow_nil w _ _ 1, by intro k hk; cases hk⟩, .inr ⟨rfl, Nat.le_max_right _ _⟩⟩
  · exact ⟨g, h4, ⟨⟨h1, .inr ⟨g, cap, cur, rfl, Nat.le_refl _, h5, h6⟩⟩, fun k hk => by cases hk; exact Nat.lt_succ_self _⟩, .inl rfl⟩
theorem FrN.apartO {z : Option Nat} {B T b : Nat} {w w' : World} {v : Value} {fs : List (List Int)} (h : FrN z B T w v fs) (hT : T ≤ w.heap.size) (hc : Chg b (b + 1) w w') (hz : z = some b ∨ (z = none ∧ w.heap.size ≤ b)) : FrN z B T w' v fs := by
  rcases hz with rfl | ⟨rfl, hb⟩
  · exact h.apart hc
  · exact h.chg hc (.inl (by omega))
theorem IntO.keptZ {B : Nat} {w w' : World} {v : Value} {xs : List Int} (h : IntO B 3 w v xs) (hk : ∀ c, v.ownBlock = some c → w'.heap[c]? = w.heap[c]?) : IntO B 3 w' v xs := by
  rcases h with ⟨h1, h2 | ⟨g, cap, cur, rfl, h4, h5, h6⟩⟩
  · exact ⟨h1, .inl h2⟩
  · exact ⟨h1, .inr ⟨g, cap, cur, rfl, h4, by rw [hk g rfl]; exact h5, h6⟩⟩
set_option maxHeartbeats 8000000 in
theorem FnExactFeedAll_w {w : World} {v : Value} {xs : List Int} (hm : ML w) (he : ErrV w) (ht : Tab w) (h : IntS w v xs) :
    Calls Tryz.prog 7 #[v] w fun e w' => e = .returned (.bool true) ∧ Gr w w' := by
  obtain ⟨p, cap, rfl, _, _⟩ := h.form
  by_cases hx : xs.length ≤ 1048576
  rotate_left
  · have hx' : ¬ ((xs.length : Int) ≤ 1048576) := by omega
    go_enter Tryz.func7, Tryz.ntmps7
    go_wp2_with fail
    go_ret
    exact ⟨rfl, Gr.refl _⟩
  have hx' : ((xs.length : Int) ≤ 1048576) := by omega
  have hl8 : xs.length ≤ 1000000000000 := by omega
  obtain ⟨fs, r, hR⟩ : ∃ fs r, feedAll xs = (fs, r) := ⟨_, _, rfl⟩
  have HR := Lib.hid hR
  have hcat := congrArg List.length (feedAll_concat xs)
  have hfl := (feedAll_len xs).1
  rw [hR] at hcat hfl
  simp only [List.length_append] at hcat hfl
  rw [← cntF_flat] at hcat
  have hcn : cntF fs ≤ 1048576 := by omega
  have hrl : r.length ≤ 1048576 := by omega
  have hr8 : r.length ≤ 1000000000000 := by omega
  have hfl8 : fs.length ≤ 100000000 := by omega
  clear hR hcat hfl
  go_enter Tryz.func7, Tryz.ntmps7
  go_wp2_with fail
  (with_reducible refine (toIntS_c h hl8).mono ?_); rintro e w1 ⟨v1, rfl, o1, g1⟩
  go_wp2_with fail
  (with_reducible refine (specFeedAll_c o1.s hx HR).mono ?_); rintro e w2 ⟨p2, c2, q2, d2, rfl, a2, b2, g2⟩
  have G2 := g1.trans g2
  clear o1 g1 g2
  go_wp2_with fail
  (with_reducible refine (toIntS_c (h.kept G2) hl8).mono ?_); rintro e w3 ⟨v3, rfl, o3, g3⟩
  have K3 : Gr w2 w3 := g3
  have x3 := o3.b
  have G3 := G2.trans g3
  go_wp2_with fail
  (with_reducible refine (implFeedAllN_c (hm.kept G3) (he.kept G3) (ht.kept G3) o3.s hx HR).mono ?_); rintro e w4 ⟨p4, c4, q4, d4, B1, T1, rfl, iF, iR, hB1, hT1, g4⟩
  have z3 := g3.sz; have z4 := g4.sz
  have K4 := K3.trans g4
  replace x3 := x3.kept g4
  clear g3 g4 G3 o3 K3
  go_wp2_with fail
  (with_reducible refine (eqIntSS_c iF.o.s (a2.kept K4)).mono ?_); rintro e w5 ⟨rfl, g5⟩
  have K5 := K4.trans g5
  go_wp2_with fail
  (with_reducible refine (eqI_same (iR.s.kept g5) (b2.kept K5)).mono ?_); rintro e w6 ⟨rfl, g6⟩
  have g56 := g5.trans g6
  have K6 := K5.trans g6
  have G6 := G2.trans K6
  go_wp2_with fail
  (with_reducible refine (toIntS_c (h.kept G6) hl8).mono ?_); rintro e w7 ⟨v7, rfl, o7, g7⟩
  go_wp2_with fail
  (with_reducible refine (eqI_same (x3.kept (g56.trans g7)).s o7.s).mono ?_); rintro e w8 ⟨rfl, g8⟩
  have g58 := (g56.trans g7).trans g8
  have K8 := (K6.trans g7).trans g8
  replace iF := iF.kept g58; replace iR := IntO.kept iR g58; replace x3 := x3.kept g58
  have z8 := g58.sz
  clear g5 g6 g56 G6 g7 g8 g58 K4 K5 K6 o7
  go_wp2_with fail
  (with_reducible refine (markIntS_c x3 1 (by decide) (by decide) hl8).mono ?_); rintro e w9 ⟨rfl, x9, f9⟩
  replace iF := iF.chg f9 (.inr hB1)
  replace iR : IntO w3.heap.size 3 w9 _ r := IntB.o (IntB.chg (IntO.b iR) f9 (.inr (Nat.le_refl _)))
  have K9 := f9.gr K8 (Nat.le_refl _)
  have z9 := f9.size
  clear x3 x9 f9 K8
  go_wp2_with fail
  (with_reducible refine (eqIntSS_c iF.o.s (a2.kept K9)).mono ?_); rintro e w10 ⟨rfl, g10⟩
  have K10 := K9.trans g10
  go_wp2_with fail
  (with_reducible refine (eqI_same (iR.s.kept g10) (b2.kept K10)).mono ?_); rintro e w11 ⟨rfl, g11⟩
  have g1011 := g10.trans g11
  have K11 := K10.trans g11
  have z11 := g1011.sz
  replace iF := iF.kept g1011; replace iR := IntO.kept iR g1011
  clear g10 g11 g1011 K9 K10
  have hzs := Lib.hid (fun b hb => (iR.blk b hb).2)
  go_wp2_with fail
  (with_reducible refine (markIntSSn_c iF hzs.out 1 1 rfl (by omega) hfl8).mono ?_); rintro e w12 ⟨rfl, jF, f12, hk12⟩
  replace iR := IntO.keptZ iR hk12
  have K12 := f12.gr K11 (by omega)
  have z12 := f12.size
  clear iF f12 K11 hk12 hzs
  obtain ⟨b, hb, rB, rz⟩ := iR.lone
  have HRZ := Lib.hid rz
  clear iR rz
  go_wp2_with fail
  (with_reducible refine (markIntS_c rB (1 + (cntF fs : Int)) (by omega) (by omega) hr8).mono ?_); rintro e w13 ⟨rfl, jR, f13⟩
  replace jF := jF.apartO (by omega) f13 HRZ.out
  have K13 := f13.gr K12 (by omega)
  clear rB f13 K12
  go_wp2_with fail
  (with_reducible refine (heldIntSS_c 1 jF.o.s (by omega) 1 rfl).mono ?_); rintro e w14 ⟨rfl, rfl⟩
  go_wp2_with fail
  (with_reducible refine (heldIntS_c (1 + (cntF fs : Int)) r.length jR.s (by omega) (by omega) hr8).mono ?_); rintro e w15 ⟨rfl, rfl⟩
  have G13 := G2.trans K13
  go_wp2_with fail
  (with_reducible refine (toIntS_c (h.kept G13) hl8).mono ?_); rintro e w16 ⟨v16, rfl, o16, g16⟩
  have G16 := G13.trans g16
  go_wp2_with fail
  (with_reducible refine (implFeedAll_c (hm.kept G16) (he.kept G16) (ht.kept G16) o16.s hx HR).mono ?_); rintro e w17 ⟨p17, c17, q17, d17, rfl, kA, kB, g17⟩
  have g1617 := g16.trans g17
  have K17 := K13.trans g1617
  go_wp2_with fail
  (with_reducible refine (eqIntSS_c kA (a2.kept K17)).mono ?_); rintro e w18 ⟨rfl, g18⟩
  go_wp2_with fail
  (with_reducible refine (eqI_same (kB.kept g18) (b2.kept (K17.trans g18))).mono ?_); rintro e w19 ⟨rfl, g19⟩
  have g1619 := (g1617.trans g18).trans g19
  go_wp2_with fail
  (with_reducible refine (heldIntSS_c 1 (jF.kept g1619).o.s (by omega) 1 rfl).mono ?_); rintro e w20 ⟨rfl, rfl⟩
  go_wp2_with fail
  (with_reducible refine (heldIntS_c (1 + (cntF fs : Int)) r.length (jR.kept g1619).s (by omega) (by omega) hr8).mono ?_); rintro e w21 ⟨rfl, rfl⟩
  go_wp2
  go_ret
  exact ⟨rfl, G13.trans g1619⟩
end Go.Proofs.YtncnnfmfpilonaaGreatDoor
