/- impl.FeedAll, spec.FeedAll. -/
import Derived.Test.YtncnnfmfpilonaaGreatDoorFeedT
import Derived.Test.YtncnnfmfpilonaaGreatDoorFrmL
namespace Go.Proofs.YtncnnfmfpilonaaGreatDoor
open Go.RowKit
theorem feed_next {xs : List Int} {n : Nat} (h : sniffSize xs = some n) : (feedAll xs).1 = xs.take n :: (feedAll (xs.drop n)).1 ∧ (feedAll xs).2 = (feedAll (xs.drop n)).2 := by rw [feedAll_some h]; exact ⟨rfl, rfl⟩
/-- What FeedAll hands back. -/
def FaS (fs : List (List Int)) (rest : List Int) (w : World) (e : Ending) (w' : World) : Prop :=
  ∃ (p : Option Addr) (c : Nat) (q : Option Addr) (d : Nat), e = .returned (.tuple #[.slice p fs.length c, .slice q rest.length d]) ∧ IntSS w' (.slice p fs.length c) fs ∧ IntS w' (.slice q rest.length d) rest ∧ Gr w w'
/-- So far the frames gs are found. -/
def FedTo (xs : List Int) (gs : List (List Int)) (rest : List Int) : Prop := feedAll xs = (gs ++ (feedAll rest).1, (feedAll rest).2) ∧ rest.length ≤ xs.length
theorem FedTo.start (xs : List Int) : FedTo xs [] xs := ⟨rfl, Nat.le_refl _⟩
theorem FedTo.done {xs rest : List Int} {gs : List (List Int)} (h : FedTo xs gs rest) (hs : sniffSize rest = none) {fs : List (List Int)} {r : List Int} (hR : feedAll xs = (fs, r)) : fs = gs ∧ r = rest := by
  have := h.1
  rw [feedAll_none hs, hR, List.append_nil] at this
  injection this with e1 e2
  exact ⟨e1, e2⟩
theorem FedTo.next {xs rest : List Int} {gs : List (List Int)} (h : FedTo xs gs rest) {n : Nat} (hs : sniffSize rest = some n) : FedTo xs (gs ++ [rest.take n]) (rest.drop n) := by
  refine ⟨?_, by rw [List.length_drop]; have := h.2; omega⟩
  rw [h.1, feedAll_some hs]
  simp
theorem FedTo.len {xs rest : List Int} {gs : List (List Int)} (h : FedTo xs gs rest) : gs.length ≤ xs.length := by
  have h1 := (feedAll_len xs).1
  rw [h.1] at h1
  simp only [List.length_append] at h1
  omega
set_option maxHeartbeats 4000000 in
theorem implFeedAll_c {w : World} {v : Value} {xs : List Int} (hm : ML w) (he : ErrV w) (ht : Tab w) (h : IntS w v xs) (hlen : xs.length ≤ 1048576) {fs : List (List Int)} {r : List Int} (hR : Hid (feedAll xs = (fs, r))) :
    Calls Tryz.prog 34 #[v] w (FaS fs r w) := by
  obtain ⟨p, cap, rfl, _, _⟩ := h.form
  go_enter Tryz.func34, Tryz.ntmps34
  go_wp2_with fail
  (with_reducible refine (Clone_c h (by omega)).mono ?_); rintro e w1 ⟨v1, rfl, o1, g1⟩
  go_wp2_with fail
  go_loopw [4, 5] (fun v4 v5 wr => ∃ (gs : List (List Int)) (rest : List Int) (B1 T1 : Nat), FrO B1 T1 wr v4 gs ∧ T1 ≤ wr.heap.size ∧ B1 ≤ T1 ∧ w.heap.size ≤ B1 ∧ IntO w.heap.size 3 wr v5 rest ∧ Hid (FedTo xs gs rest) ∧ Gr w wr) (fun _ v5 _ => vlen v5)
  case atStart => exact ⟨[], xs, w.heap.size, w.heap.size, FrO.nil _ _ _, g1.sz, Nat.le_refl _, Nat.le_refl _, o1, FedTo.start xs, g1⟩
  case round =>
    obtain ⟨gs, rest, B1, T1, hF, hT, hBT, hB, ho, hu, hG⟩ := hrel
    clear o1 g1
    obtain ⟨q5, c5, rfl⟩ := ho.len
    obtain ⟨p4, c4, rfl⟩ := hF.form
    have hrl : rest.length ≤ 1048576 := by have := hu.out.2; omega
    cases hs : sniffSize rest with
    | none =>
      obtain ⟨rfl, rfl⟩ := hu.out.done hs hR.out
      have hA : Hid (fsA r = [] ∧ fsB r = [] ∧ (sniffSize r).isSome = false) := Lib.hid ⟨(fsA_none hs).1, (fsA_none hs).2, by rw [hs]; rfl⟩
      clear hs hu hR
      go_wp2_with fail
      (with_reducible refine (implFeedTake_c (hm.kept hG) (he.kept hG) (ht.kept hG) ho.s hrl hA).mono ?_); rintro e w2 ⟨_, _, _, _, _, _, _, _, rfl, _, _, _, _, _, _, _, g2⟩
      go_wp2
      go_ret2
      exact ⟨_, _, _, _, rfl, hF.s.kept g2, ho.s.kept g2, hG.trans g2⟩
    | some n =>
      obtain ⟨n0, nl, _⟩ := sniffSize_is hs
      have hN := Lib.hid (hu.out.next hs)
      have hA : Hid (fsA rest = rest.take n ∧ fsB rest = rest.drop n ∧ (sniffSize rest).isSome = true) := Lib.hid ⟨(fsA_some hs).1, (fsA_some hs).2, by rw [hs]; rfl⟩
      have hdl : (rest.drop n).length < rest.length := by rw [List.length_drop]; omega
      have hg6 : gs.length ≤ 2000000 := by have := hu.out.len; omega
      clear hs hu n0 nl
      generalize rest.take n = us at *
      generalize rest.drop n = vs at *
      go_wp2_with fail
      (with_reducible refine (implFeedTake_c (hm.kept hG) (he.kept hG) (ht.kept hG) ho.s hrl hA).mono ?_); rintro e w2 ⟨p2, c2, q2, d2, Ba, Ta, Bb, Tb, rfl, ia, ib, za, zb, _, zta, ztb, g2⟩
      have hF2 := hF.kept (g2.trans (gr_alloc w2 (.cells #[.slice p2 us.length c2] 22)))
      have ia2 := (IntO.mono ia.o (Nat.le_trans hT za)).kept (gr_alloc w2 (.cells #[.slice p2 us.length c2] 22))
      have ib2 := ib.o.kept (gr_alloc w2 (.cells #[.slice p2 us.length c2] 22))
      have hT2 : T1 ≤ (w2.alloc (.cells #[.slice p2 us.length c2] 22)).heap.size := Nat.le_trans hT (g2.trans (gr_alloc w2 _)).sz
      go_wp2_with (at_builtin; refine wpl_appF rfl (.tmp 21) (.tmp 23) rfl rfl hF2 hT2 hBT rfl (Row.oneF _ _ rfl) ia2 hg6 ?_; intro v6 w6 hF6 hb6 hk6)
      have ib6 : IntO Bb 3 w6 (.slice q2 vs.length d2) vs := Own.keptOf ib2 fun k hk1 hk2 => hk6 k (by omega) hk2
      have hG6 : Gr w w6 := Below.trans (hG.trans (g2.trans (gr_alloc w2 _))) (hb6.mono hB)
      have hz6 := hG6.sz
      go_roundw
      case rel => exact ⟨_, vs, B1, w6.heap.size, hF6, Nat.le_refl _, by have := hb6.size; omega, hB, IntO.mono ib6 (by have := hG.sz; omega), hN.out, hG6⟩
      case measure => simp only [vlen]; omega
set_option maxHeartbeats 4000000 in
theorem specFeedAll_c {w : World} {v : Value} {xs : List Int} (h : IntS w v xs) (hlen : xs.length ≤ 1048576) {fs : List (List Int)} {r : List Int} (hR : Hid (feedAll xs = (fs, r))) :
    Calls Tryz.prog 33 #[v] w (FaS fs r w) := by
  obtain ⟨p, cap, rfl, _, _⟩ := h.form
  have hmt := FrO.mt w
  have gA := gr_alloc w (.cells #[] 22)
  have hzA : w.heap.size + 1 ≤ (w.alloc (.cells #[] 22)).heap.size := by simp
  have hA1 := h.kept gA
  go_enter Tryz.func33, Tryz.ntmps33
  go_upto_region 2 with fail
  generalize w.alloc (.cells #[] 22) = w0 at *
  have hA2 := hA1.kept (gr_alloc w0 (.cells #[] 3))
  have hmt2 := hmt.kept (gr_alloc w0 (.cells #[] 3))
  have hmi := IntO.mt w0
  have HZA := Lib.hid hzA
  clear hzA
  go_wp2_with (at_builtin; refine wpl_appI rfl (.tmp 10) (.tmp 11) rfl rfl hmi rfl hA2 (by simp; omega) (by simp) ?_; intro v1 w1 o1 h1b)
  have o1' : IntO w0.heap.size 3 w1 v1 xs := o1
  have g01 : Gr w0 w1 := (gr_alloc w0 _).thenB h1b
  have hF1 := hmt.kept g01
  have hz1 := g01.sz
  clear o1 h1b hmt hmt2 hmi hA1 hA2
  go_loopw [4, 5] (fun v4 v5 wr => ∃ (gs : List (List Int)) (rest : List Int) (B1 T1 : Nat), FrO B1 T1 wr v4 gs ∧ T1 ≤ wr.heap.size ∧ B1 ≤ T1 ∧ w.heap.size ≤ B1 ∧ IntO w.heap.size 3 wr v5 rest ∧ Hid (FedTo xs gs rest) ∧ Gr w wr) (fun _ v5 _ => vlen v5)
  case atStart => exact ⟨[], xs, _, _, hF1, by have := HZA.out; omega, by omega, Nat.le_refl _, IntO.mono o1' (by have := HZA.out; omega), FedTo.start xs, gA.trans g01⟩
  case round =>
    obtain ⟨gs, rest, B1, T1, hF, hT, hBT, hB, ho, hu, hG⟩ := hrel
    clear o1' g01 gA hF1 hz1
    obtain ⟨q5, c5, rfl⟩ := ho.len
    obtain ⟨p4, c4, rfl⟩ := hF.form
    have hrl : rest.length ≤ 1048576 := by have := hu.out.2; omega
    by_cases hpos : 0 < rest.length
    rotate_left
    · have hnil : rest = [] := List.eq_nil_of_length_eq_zero (by omega)
      obtain ⟨rfl, rfl⟩ := hu.out.done (by rw [hnil]; exact sniffSize_nil) hR.out
      clear hnil hu hR
      go_wp2
      go_ret2
      exact ⟨_, _, _, _, rfl, hF.s, ho.s, hG⟩
    have hpos' : (0 : Int) < (rest.length : Int) := by omega
    cases hs : sniffSize rest with
    | none =>
      obtain ⟨rfl, rfl⟩ := hu.out.done hs hR.out
      have hA : Hid (fsA r = [] ∧ fsB r = [] ∧ (sniffSize r).isSome = false) := Lib.hid ⟨(fsA_none hs).1, (fsA_none hs).2, by rw [hs]; rfl⟩
      clear hs hu hR
      go_wp2_with fail
      (with_reducible refine (specFeedTake_c ho.s hrl hA).mono ?_); rintro e w2 ⟨_, _, _, _, rfl, _, _, g2⟩
      go_wp2
      go_ret2
      exact ⟨_, _, _, _, rfl, hF.s.kept g2, ho.s.kept g2, hG.trans g2⟩
    | some n =>
      obtain ⟨n0, nl, _⟩ := sniffSize_is hs
      have hN := Lib.hid (hu.out.next hs)
      have hA : Hid (fsA rest = rest.take n ∧ fsB rest = rest.drop n ∧ (sniffSize rest).isSome = true) := Lib.hid ⟨(fsA_some hs).1, (fsA_some hs).2, by rw [hs]; rfl⟩
      have hdl : (rest.drop n).length < rest.length := by rw [List.length_drop]; omega
      have hg6 : gs.length ≤ 2000000 := by have := hu.out.len; omega
      clear hs hu n0 nl
      generalize rest.take n = us at *
      generalize rest.drop n = vs at *
      go_wp2_with fail
      (with_reducible refine (specFeedTake_c ho.s hrl hA).mono ?_); rintro e w2 ⟨p2, c2, q2, d2, rfl, ia, ib, g2⟩
      have hF2 := hF.kept (g2.trans (gr_alloc w2 (.cells #[.slice p2 us.length c2] 22)))
      have ia2 := (IntO.mono ia hT).kept (gr_alloc w2 (.cells #[.slice p2 us.length c2] 22))
      have ib2 := ib.kept (gr_alloc w2 (.cells #[.slice p2 us.length c2] 22))
      have hT2 : T1 ≤ (w2.alloc (.cells #[.slice p2 us.length c2] 22)).heap.size := Nat.le_trans hT (g2.trans (gr_alloc w2 _)).sz
      go_wp2_with (at_builtin; refine wpl_appF rfl (.tmp 26) (.tmp 28) rfl rfl hF2 hT2 hBT rfl (Row.oneF _ _ rfl) ia2 hg6 ?_; intro v6 w6 hF6 hb6 hk6)
      have ib6 := Own.keptOf ib2 fun k hk1 hk2 => hk6 k (by omega) hk2
      have hG6 : Gr w w6 := Below.trans (hG.trans (g2.trans (gr_alloc w2 _))) (hb6.mono hB)
      have hz6 := hG6.sz
      go_roundw
      case rel => exact ⟨_, vs, B1, w6.heap.size, hF6, Nat.le_refl _, by have := hb6.size; omega, hB, IntO.mono ib6 hG.sz, hN.out, hG6⟩
      case measure => simp only [vlen]; omega
end Go.Proofs.YtncnnfmfpilonaaGreatDoor
