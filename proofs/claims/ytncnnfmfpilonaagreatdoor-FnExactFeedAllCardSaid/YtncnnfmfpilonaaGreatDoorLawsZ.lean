/- The walks of laws.FnSniffSize, FnFeedTake, FnFeedTakeAgain, FnFeedTakePart. -/
import Derived.Test.YtncnnfmfpilonaaGreatDoorFeedT
import Derived.Test.YtncnnfmfpilonaaGreatDoorDrawZ
namespace Go.Proofs.YtncnnfmfpilonaaGreatDoor
open Go.RowKit
theorem implSize_n {w : World} {v : Value} {xs : List Int} (hm : ML w) (he : ErrV w) (ht : Tab w) (h : IntS w v xs) (hlen : xs.length ≤ 1048576) (hz : Hid (sniffSize xs = none)) :
    Calls Tryz.prog 27 #[v] w fun e w' => e = .returned (.tuple #[.int .i64 0, .bool false]) ∧ Gr w w' := by
  have := implSniffSize_c hm he ht h hlen
  rw [hz.out] at this
  exact this
theorem implSize_s {w : World} {v : Value} {xs : List Int} {n : Nat} (hm : ML w) (he : ErrV w) (ht : Tab w) (h : IntS w v xs) (hlen : xs.length ≤ 1048576) (hz : Hid (sniffSize xs = some n)) :
    Calls Tryz.prog 27 #[v] w fun e w' => e = .returned (.tuple #[.int .i64 (n : Int), .bool true]) ∧ Gr w w' := by
  have := implSniffSize_c hm he ht h hlen
  rw [hz.out] at this
  exact this
theorem specSize_n {w : World} {v : Value} {xs : List Int} (h : IntS w v xs) (hlen : xs.length ≤ 1048576) (hz : Hid (sniffSize xs = none)) :
    Calls Tryz.prog 25 #[v] w fun e w' => e = .returned (.tuple #[.int .i64 0, .bool false]) ∧ Gr w w' := by
  have := specSniffSize_c h hlen
  rw [hz.out] at this
  exact this
theorem specSize_s {w : World} {v : Value} {xs : List Int} {n : Nat} (h : IntS w v xs) (hlen : xs.length ≤ 1048576) (hz : Hid (sniffSize xs = some n)) :
    Calls Tryz.prog 25 #[v] w fun e w' => e = .returned (.tuple #[.int .i64 (n : Int), .bool true]) ∧ Gr w w' := by
  have := specSniffSize_c h hlen
  rw [hz.out] at this
  exact this
/-- A frame taken, and what is behind it, by letters. -/
def TkP (us vs : List Int) (ok : Bool) (w : World) (e : Ending) (w' : World) : Prop :=
  ∃ (p : Option Addr) (c : Nat) (q : Option Addr) (d : Nat), e = .returned (.tuple #[.slice p us.length c, .slice q vs.length d, .bool ok]) ∧ IntS w' (.slice p us.length c) us ∧ IntS w' (.slice q vs.length d) vs ∧ Gr w w'
theorem TkP.ofI {us vs : List Int} {ok : Bool} {w w' : World} {e : Ending} (h : FtI us vs ok w e w') : TkP us vs ok w e w' := by
  obtain ⟨p, c, q, d, _, _, _, _, rfl, h1, h2, _, _, _, _, _, g⟩ := h
  exact ⟨p, c, q, d, rfl, h1.s, h2.s, g⟩
theorem TkP.ofS {us vs : List Int} {ok : Bool} {w w' : World} {e : Ending} (h : FtS us vs ok w e w') : TkP us vs ok w e w' := by
  obtain ⟨p, c, q, d, rfl, h1, h2, g⟩ := h
  exact ⟨p, c, q, d, rfl, h1.s, h2.s, g⟩
theorem take_n {xs : List Int} (h : sniffSize xs = none) : Hid (fsA xs = [] ∧ fsB xs = [] ∧ (sniffSize xs).isSome = false) := Lib.hid ⟨(fsA_none h).1, (fsA_none h).2, by rw [h]; rfl⟩
theorem take_s {xs us vs : List Int} {n : Nat} (h : sniffSize xs = some n) (h1 : xs.take n = us) (h2 : xs.drop n = vs) : Hid (fsA xs = us ∧ fsB xs = vs ∧ (sniffSize xs).isSome = true) := Lib.hid ⟨by rw [(fsA_some h).1, h1], by rw [(fsA_some h).2, h2], by rw [h]; rfl⟩
theorem implTake {w : World} {v : Value} {xs : List Int} (hm : ML w) (he : ErrV w) (ht : Tab w) (h : IntS w v xs) (hlen : xs.length ≤ 1048576) {us vs : List Int} {ok : Bool} (hA : Hid (fsA xs = us ∧ fsB xs = vs ∧ (sniffSize xs).isSome = ok)) :
    Calls Tryz.prog 30 #[v] w (TkP us vs ok w) := (implFeedTake_c hm he ht h hlen hA).mono fun _ _ hh => TkP.ofI hh
theorem specTake {w : World} {v : Value} {xs : List Int} (h : IntS w v xs) (hlen : xs.length ≤ 1048576) {us vs : List Int} {ok : Bool} (hA : Hid (fsA xs = us ∧ fsB xs = vs ∧ (sniffSize xs).isSome = ok)) :
    Calls Tryz.prog 29 #[v] w (TkP us vs ok w) := (specFeedTake_c h hlen hA).mono fun _ _ hh => TkP.ofS hh
theorem implKind {w : World} {v : Value} {xs : List Int} {k : Int} (h : IntS w v xs) (hk : Hid (sniffKind xs = k)) : Calls Tryz.prog 39 #[v] w fun e w' => e = .returned (.int .i64 k) ∧ Gr w w' := by
  have := implSniffKind_c h; rwa [hk.out] at this
set_option maxHeartbeats 2000000 in
theorem FnSniffSize_w {w : World} {v : Value} {bs : List Int} (hm : ML w) (he : ErrV w) (ht : Tab w) (h : ByteS w v bs) :
    Calls Tryz.prog 8 #[v] w fun e w' => e = .returned (.bool true) ∧ Gr w w' := by
  obtain ⟨p, cap, rfl, _, _⟩ := h.form
  by_cases hx : bs.length ≤ 1048576
  rotate_left
  · have hx' : ¬ ((bs.length : Int) ≤ 1048576) := by omega
    go_enter Tryz.func8, Tryz.ntmps8
    go_wp2_with fail
    go_ret
    exact ⟨rfl, Gr.refl _⟩
  have hx' : ((bs.length : Int) ≤ 1048576) := by omega
  go_enter Tryz.func8, Tryz.ntmps8
  go_wp2_with fail
  (with_reducible refine (DrawSniffSize_c h).mono ?_); rintro e w1 ⟨v1, xs, rfl, hxl, o1, g1⟩
  have hs := o1.s
  obtain ⟨q, cq, rfl, _, _⟩ := hs.form
  have hl : xs.length ≤ 1048576 := by omega
  cases hz : sniffSize xs with
  | none =>
    have HZ := Lib.hid hz
    clear hz o1
    go_wp2_with fail
    (with_reducible refine (implSize_n (hm.kept g1) (he.kept g1) (ht.kept g1) hs hl HZ).mono ?_); rintro e w2 ⟨rfl, g2⟩
    go_wp2_with fail
    (with_reducible refine (specSize_n (hs.kept g2) hl HZ).mono ?_); rintro e w3 ⟨rfl, g3⟩
    go_wp2
    go_ret
    exact ⟨rfl, (g1.trans g2).trans g3⟩
  | some n =>
    obtain ⟨n0, nl, _⟩ := sniffSize_is hz
    obtain ⟨sf, sk⟩ := sniffSize_self hz
    obtain ⟨va, hsa, hva⟩ := hs.pre nl
    have hla : (xs.take n).length ≤ 1048576 := by rw [List.length_take]; omega
    have hn0 : (0 : Int) < (n : Int) := by omega
    have hn1 : (n : Int) ≤ (xs.length : Int) := by omega
    have HZ := Lib.hid hz
    have HF := Lib.hid sf
    have HK := Lib.hid sk
    obtain ⟨k, hk⟩ : ∃ k, sniffKind xs = k := ⟨_, rfl⟩
    have HK1 := Lib.hid hk
    rw [hk] at HK
    clear hz o1 sf sk hk
    go_wp2_with fail
    (with_reducible refine (implSize_s (hm.kept g1) (he.kept g1) (ht.kept g1) hs hl HZ).mono ?_); rintro e w2 ⟨rfl, g2⟩
    go_wp2_with fail
    (with_reducible refine (specSize_s (hs.kept g2) hl HZ).mono ?_); rintro e w3 ⟨rfl, g3⟩
    have G3 := (g1.trans g2).trans g3
    have G13 := g2.trans g3
    go_wp2_with fail
    (with_reducible refine (implSize_s (hm.kept G3) (he.kept G3) (ht.kept G3) (hva.kept G13) hla HF).mono ?_); rintro e w4 ⟨rfl, g4⟩
    have G14 := G13.trans g4
    go_wp2_with fail
    (with_reducible refine (implKind (hva.kept G14) HK).mono ?_); rintro e w5 ⟨rfl, g5⟩
    go_wp2_with fail
    (with_reducible refine (implKind (hs.kept (G14.trans g5)) HK1).mono ?_); rintro e w6 ⟨rfl, g6⟩
    go_wp2
    go_ret
    exact ⟨rfl, ((G3.trans g4).trans g5).trans g6⟩
set_option maxHeartbeats 2000000 in
theorem FnFeedTake_w {w : World} {v : Value} {bs : List Int} (hm : ML w) (he : ErrV w) (ht : Tab w) (h : ByteS w v bs) :
    Calls Tryz.prog 9 #[v] w fun e w' => e = .returned (.bool true) ∧ Gr w w' := by
  obtain ⟨p, cap, rfl, _, _⟩ := h.form
  by_cases hx : bs.length ≤ 1048576
  rotate_left
  · have hx' : ¬ ((bs.length : Int) ≤ 1048576) := by omega
    go_enter Tryz.func9, Tryz.ntmps9
    go_wp2_with fail
    go_ret
    exact ⟨rfl, Gr.refl _⟩
  have hx' : ((bs.length : Int) ≤ 1048576) := by omega
  go_enter Tryz.func9, Tryz.ntmps9
  go_wp2_with fail
  (with_reducible refine (DrawFeedTake_c h).mono ?_); rintro e w1 ⟨v1, xs, rfl, hxl, o1, g1⟩
  have hs := o1.s
  obtain ⟨q, cq, rfl, _, _⟩ := hs.form
  have hl : xs.length ≤ 1048576 := by omega
  clear o1
  cases hz : sniffSize xs with
  | none =>
    have HA := take_n hz
    clear hz
    go_wp2_with fail
    (with_reducible refine (implTake (hm.kept g1) (he.kept g1) (ht.kept g1) hs hl HA).mono ?_); rintro e w2 ⟨p2, c2, q2, d2, rfl, a2, b2, g2⟩
    go_wp2_with fail
    (with_reducible refine (specTake (hs.kept g2) hl HA).mono ?_); rintro e w3 ⟨p3, c3, q3, d3, rfl, a3, b3, g3⟩
    simp only [List.length_nil] at a2 b2 a3 b3
    go_wp2_with fail
    (with_reducible refine (same_c (b2.kept g3) b3).mono ?_); rintro e w4 ⟨rfl, g4⟩
    go_wp2_with fail
    (with_reducible refine (same_c (a2.kept (g3.trans g4)) (a3.kept g4)).mono ?_); rintro e w5 ⟨rfl, g5⟩
    have G5 := (((g1.trans g2).trans g3).trans g4).trans g5
    have A5 := a2.kept ((g3.trans g4).trans g5)
    have B5 := b2.kept ((g3.trans g4).trans g5)
    have A6 := a3.kept (g4.trans g5)
    have B6 := b3.kept (g4.trans g5)
    go_wp2_with fail
    (with_reducible refine (same_c B5 B6).mono ?_); rintro e w6 ⟨rfl, g6⟩
    go_wp2_with fail
    (with_reducible refine (same_c (A5.kept g6) (A6.kept g6)).mono ?_); rintro e w7 ⟨rfl, g7⟩
    go_wp2
    go_ret
    exact ⟨rfl, (G5.trans g6).trans g7⟩
  | some n =>
    obtain ⟨n0, nl, _⟩ := sniffSize_is hz
    obtain ⟨sf, _⟩ := sniffSize_self hz
    have HA := take_s hz rfl rfl
    have hla : (xs.take n).length = n := by rw [List.length_take]; omega
    have HL := Lib.hid hla
    have HX : Hid (xs.take n ++ xs.drop n = xs) := Lib.hid (List.take_append_drop n xs)
    have HF : Hid (sniffSize (xs.take n) = some (xs.take n).length) := Lib.hid (by rw [hla]; exact sf)
    have hl1 : (xs.take n).length ≤ 1000 := by omega
    have hl2 : (xs.drop n).length ≤ 1000 := by rw [List.length_drop]; omega
    clear hz sf hla
    generalize xs.take n = us at *
    generalize xs.drop n = vs at *
    go_wp2_with fail
    (with_reducible refine (implTake (hm.kept g1) (he.kept g1) (ht.kept g1) hs hl HA).mono ?_); rintro e w2 ⟨p2, c2, q2, d2, rfl, a2, b2, g2⟩
    go_wp2_with fail
    (with_reducible refine (specTake (hs.kept g2) hl HA).mono ?_); rintro e w3 ⟨p3, c3, q3, d3, rfl, a3, b3, g3⟩
    go_wp2_with fail
    (with_reducible refine (same_c (b2.kept g3) b3).mono ?_); rintro e w4 ⟨rfl, g4⟩
    go_wp2_with fail
    (with_reducible refine (same_c (a2.kept (g3.trans g4)) (a3.kept g4)).mono ?_); rintro e w5 ⟨rfl, g5⟩
    have G15 := ((g2.trans g3).trans g4).trans g5
    have G5 := g1.trans G15
    have A5 := a2.kept ((g3.trans g4).trans g5)
    have B5 := b2.kept ((g3.trans g4).trans g5)
    have S5 := hs.kept G15
    clear a2 b2 a3 b3 g2 g3 g4 g5 hs
    go_wp2_with fail
    (with_reducible refine (implSize_s (hm.kept G5) (he.kept G5) (ht.kept G5) A5 (by omega) HF).mono ?_); rintro e w6 ⟨rfl, g6⟩
    have A6 := A5.kept g6
    have B6 := B5.kept g6
    have S6 := S5.kept g6
    have hmt := IntO.mt w6
    have A6' := A6.kept (gr_alloc w6 (.cells #[] 3))
    go_wp2_with (first | (at_builtin; refine wpl_appI rfl (.tmp 66) (.tmp 67) rfl rfl hmt rfl A6' (by simp; omega) (by simp) ?_; intro v7 w7 o7 g7; have G7 : Gr w6 w7 := (gr_alloc w6 _).thenB g7) | (at_builtin; refine wpl_appI rfl (.tmp 68) (.tmp 69) rfl rfl o7 rfl (B6.kept G7) (by simp; omega) G7.sz ?_; intro v8 w8 o8 g8; have G8 : Gr w6 w8 := G7.thenB g8))
    have o9 : IntO w6.heap.size 3 w8 v8 xs := by
      have := o8
      rw [List.nil_append, HX.out] at this
      exact this
    (with_reducible refine (same_c o9.s (S6.kept G8)).mono ?_); rintro e w9 ⟨rfl, g9⟩
    go_wp2
    go_ret
    exact ⟨rfl, ((G5.trans g6).trans G8).trans g9⟩
set_option maxHeartbeats 2000000 in
theorem FnFeedTakeAgain_w {w : World} {v : Value} {bs : List Int} (hm : ML w) (he : ErrV w) (ht : Tab w) (h : ByteS w v bs) :
    Calls Tryz.prog 10 #[v] w fun e w' => e = .returned (.bool true) ∧ Gr w w' := by
  obtain ⟨p, cap, rfl, _, _⟩ := h.form
  by_cases hx : bs.length ≤ 1048576
  rotate_left
  · have hx' : ¬ ((bs.length : Int) ≤ 1048576) := by omega
    go_enter Tryz.func10, Tryz.ntmps10
    go_wp2_with fail
    go_ret
    exact ⟨rfl, Gr.refl _⟩
  have hx' : ((bs.length : Int) ≤ 1048576) := by omega
  go_enter Tryz.func10, Tryz.ntmps10
  go_wp2_with fail
  (with_reducible refine (DrawFeedTake_c h).mono ?_); rintro e w1 ⟨v1, xs, rfl, hxl, o1, g1⟩
  have hs := o1.s
  obtain ⟨q, cq, rfl, _, _⟩ := hs.form
  have hl : xs.length ≤ 1048576 := by omega
  clear o1
  cases hz : sniffSize xs with
  | none =>
    have HA := take_n hz
    clear hz
    go_wp2_with fail
    (with_reducible refine (implTake (hm.kept g1) (he.kept g1) (ht.kept g1) hs hl HA).mono ?_); rintro e w2 ⟨p2, c2, q2, d2, rfl, a2, b2, g2⟩
    go_wp2_with fail
    (with_reducible refine (specTake (hs.kept g2) hl HA).mono ?_); rintro e w3 ⟨p3, c3, q3, d3, rfl, a3, b3, g3⟩
    simp only [List.length_nil] at a2 b2 a3 b3
    go_wp2_with fail
    (with_reducible refine (same_c (b2.kept g3) b3).mono ?_); rintro e w4 ⟨rfl, g4⟩
    go_wp2_with fail
    (with_reducible refine (same_c (a2.kept (g3.trans g4)) (a3.kept g4)).mono ?_); rintro e w5 ⟨rfl, g5⟩
    have G5 := (((g1.trans g2).trans g3).trans g4).trans g5
    have A5 := a2.kept ((g3.trans g4).trans g5)
    have B5 := b2.kept ((g3.trans g4).trans g5)
    have A6 := a3.kept (g4.trans g5)
    have B6 := b3.kept (g4.trans g5)
    go_wp2_with fail
    (with_reducible refine (same_c B5 B6).mono ?_); rintro e w6 ⟨rfl, g6⟩
    go_wp2_with fail
    (with_reducible refine (same_c (A5.kept g6) (A6.kept g6)).mono ?_); rintro e w7 ⟨rfl, g7⟩
    go_wp2
    go_ret
    exact ⟨rfl, (G5.trans g6).trans g7⟩
  | some n =>
    obtain ⟨n0, nl, _⟩ := sniffSize_is hz
    obtain ⟨sf, _⟩ := sniffSize_self hz
    have HA := take_s hz rfl rfl
    have hla : (xs.take n).length = n := by rw [List.length_take]; omega
    have HF : Hid (fsA (xs.take n) = xs.take n ∧ fsB (xs.take n) = [] ∧ (sniffSize (xs.take n)).isSome = true) := take_s sf (by rw [List.take_take, Nat.min_self]) (by rw [List.drop_eq_nil_iff]; omega)
    have hl1 : (xs.take n).length ≤ 1000 := by omega
    clear hz sf hla
    generalize xs.take n = us at *
    generalize xs.drop n = vs at *
    go_wp2_with fail
    (with_reducible refine (implTake (hm.kept g1) (he.kept g1) (ht.kept g1) hs hl HA).mono ?_); rintro e w2 ⟨p2, c2, q2, d2, rfl, a2, b2, g2⟩
    go_wp2_with fail
    (with_reducible refine (specTake (hs.kept g2) hl HA).mono ?_); rintro e w3 ⟨p3, c3, q3, d3, rfl, a3, b3, g3⟩
    go_wp2_with fail
    (with_reducible refine (same_c (b2.kept g3) b3).mono ?_); rintro e w4 ⟨rfl, g4⟩
    go_wp2_with fail
    (with_reducible refine (same_c (a2.kept (g3.trans g4)) (a3.kept g4)).mono ?_); rintro e w5 ⟨rfl, g5⟩
    have G15 := ((g2.trans g3).trans g4).trans g5
    have G5 := g1.trans G15
    have A5 := a2.kept ((g3.trans g4).trans g5)
    have B5 := b2.kept ((g3.trans g4).trans g5)
    have S5 := hs.kept G15
    clear a2 b2 a3 b3 g2 g3 g4 g5 hs
    go_wp2_with fail
    (with_reducible refine (implTake (hm.kept G5) (he.kept G5) (ht.kept G5) A5 (by omega) HF).mono ?_); rintro e w6 ⟨p6, c6, q6, d6, rfl, a6, b6, g6⟩
    go_wp2_with fail
    (with_reducible refine (same_c a6 (A5.kept g6)).mono ?_); rintro e w7 ⟨rfl, g7⟩
    go_wp2
    go_ret
    exact ⟨rfl, (G5.trans g6).trans g7⟩
set_option maxHeartbeats 2000000 in
theorem FnFeedTakePart_w {w : World} {v u : Value} {bs ms : List Int} (hm : ML w) (he : ErrV w) (ht : Tab w) (h : ByteS w v bs) (hu : ByteS w u ms) :
    Calls Tryz.prog 11 #[v, u] w fun e w' => e = .returned (.bool true) ∧ Gr w w' := by
  obtain ⟨p, cap, rfl, _, _⟩ := h.form
  obtain ⟨p', cap', rfl, hm1, hm2⟩ := hu.form
  by_cases hx : bs.length ≤ 1048576
  rotate_left
  · have hx' : (decide (1048576 < (bs.length : Int))) = true := by simp; omega
    go_enter Tryz.func11, Tryz.ntmps11
    go_wp2_with fail
    go_ret
    exact ⟨rfl, Gr.refl _⟩
  have hx' : (decide (1048576 < (bs.length : Int))) = false := by simp; omega
  by_cases hy : ms.length ≤ 1048576
  rotate_left
  · have hy' : (decide (1048576 < (ms.length : Int))) = true := by simp; omega
    go_enter Tryz.func11, Tryz.ntmps11
    go_wp2_with fail
    go_ret
    exact ⟨rfl, Gr.refl _⟩
  have hy' : (decide (1048576 < (ms.length : Int))) = false := by simp; omega
  go_enter Tryz.func11, Tryz.ntmps11
  go_wp2_with fail
  (with_reducible refine (DrawFeedTake_c h).mono ?_); rintro e w1 ⟨v1, xs, rfl, hxl, o1, g1⟩
  have hs := o1.s
  obtain ⟨q, cq, rfl, _, _⟩ := hs.form
  have hl : xs.length ≤ 1048576 := by omega
  clear o1
  cases hz : sniffSize xs with
  | none =>
    have HA := take_n hz
    clear hz
    go_wp2_with fail
    (with_reducible refine (implTake (hm.kept g1) (he.kept g1) (ht.kept g1) hs hl HA).mono ?_); rintro e w2 ⟨p2, c2, q2, d2, rfl, a2, b2, g2⟩
    go_wp2_with fail
    (with_reducible refine (specTake (hs.kept g2) hl HA).mono ?_); rintro e w3 ⟨p3, c3, q3, d3, rfl, a3, b3, g3⟩
    simp only [List.length_nil] at a2 b2 a3 b3
    go_wp2_with fail
    (with_reducible refine (same_c (b2.kept g3) b3).mono ?_); rintro e w4 ⟨rfl, g4⟩
    go_wp2_with fail
    (with_reducible refine (same_c (a2.kept (g3.trans g4)) (a3.kept g4)).mono ?_); rintro e w5 ⟨rfl, g5⟩
    have G5 := (((g1.trans g2).trans g3).trans g4).trans g5
    have A5 := a2.kept ((g3.trans g4).trans g5)
    have B5 := b2.kept ((g3.trans g4).trans g5)
    have A6 := a3.kept (g4.trans g5)
    have B6 := b3.kept (g4.trans g5)
    go_wp2_with fail
    (with_reducible refine (same_c B5 B6).mono ?_); rintro e w6 ⟨rfl, g6⟩
    go_wp2_with fail
    (with_reducible refine (same_c (A5.kept g6) (A6.kept g6)).mono ?_); rintro e w7 ⟨rfl, g7⟩
    go_wp2
    go_ret
    exact ⟨rfl, (G5.trans g6).trans g7⟩
  | some n =>
    obtain ⟨n0, nl, _⟩ := sniffSize_is hz
    have HA := take_s hz rfl rfl
    have hla : (xs.take n).length = n := by rw [List.length_take]; omega
    have hr0 : (0 : Int) ≤ (ms.length : Int) % ((xs.take n).length : Int) := Int.emod_nonneg _ (by omega)
    have hr1 : (ms.length : Int) % ((xs.take n).length : Int) < ((xs.take n).length : Int) := Int.emod_lt_of_pos _ (by omega)
    obtain ⟨k, hk⟩ := Int.eq_ofNat_of_zero_le hr0
    have hkl : k < (xs.take n).length := by omega
    have hpart := sniffSize_part hz (k := k) (by omega)
    have HF : Hid (fsA ((xs.take n).take k) = [] ∧ fsB ((xs.take n).take k) = [] ∧ (sniffSize ((xs.take n).take k)).isSome = false) := take_n (by rw [List.take_take, Nat.min_eq_left (by omega)]; exact hpart)
    have hl1 : (xs.take n).length ≤ 1000 := by omega
    have hl3 : ((xs.take n).take k).length ≤ 1000 := by rw [List.length_take]; omega
    have hpos : (0 : Int) < ((xs.take n).length : Int) := by omega
    have hne : ¬ ((xs.take n).length = 0) := by omega
    clear hz hpart hla hr0 hr1
    generalize xs.take n = us at *
    generalize xs.drop n = vs at *
    go_wp2_with fail
    (with_reducible refine (implTake (hm.kept g1) (he.kept g1) (ht.kept g1) hs hl HA).mono ?_); rintro e w2 ⟨p2, c2, q2, d2, rfl, a2, b2, g2⟩
    go_wp2_with fail
    (with_reducible refine (specTake (hs.kept g2) hl HA).mono ?_); rintro e w3 ⟨p3, c3, q3, d3, rfl, a3, b3, g3⟩
    go_wp2_with fail
    (with_reducible refine (same_c (b2.kept g3) b3).mono ?_); rintro e w4 ⟨rfl, g4⟩
    go_wp2_with fail
    (with_reducible refine (same_c (a2.kept (g3.trans g4)) (a3.kept g4)).mono ?_); rintro e w5 ⟨rfl, g5⟩
    have G15 := ((g2.trans g3).trans g4).trans g5
    have G5 := g1.trans G15
    have A5 := a2.kept ((g3.trans g4).trans g5)
    have B5 := b2.kept ((g3.trans g4).trans g5)
    have S5 := hs.kept G15
    clear a2 b2 a3 b3 g2 g3 g4 g5 hs
    obtain ⟨va, hsa, hva⟩ := A5.pre (show k ≤ us.length by omega)
    go_wp2_with fail
    (with_reducible refine (implTake (hm.kept G5) (he.kept G5) (ht.kept G5) hva (by omega) HF).mono ?_); rintro e w6 ⟨p6, c6, q6, d6, rfl, a6, b6, g6⟩
    go_wp2
    go_ret
    exact ⟨rfl, G5.trans g6⟩
end Go.Proofs.YtncnnfmfpilonaaGreatDoor
