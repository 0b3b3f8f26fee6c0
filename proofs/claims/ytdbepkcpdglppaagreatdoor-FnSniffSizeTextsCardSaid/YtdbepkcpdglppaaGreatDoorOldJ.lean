/- Requests of the fourth version: the program's bytes. -/
import Derived.Test.YtdbepkcpdglppaaGreatDoorOldG
import Derived.Test.YtdbepkcpdglppaaGreatDoorGI
import Derived.Test.YtdbepkcpdglppaaGreatDoorAppH
import Derived.Test.YtdbepkcpdglppaaGreatDoorGC
import Derived.Deep.DeepCutAuto
import Derived.Deep.RegionHeld3
namespace Go.Proofs.YtdbepkcpdglppaaGreatDoor
open Go.RowKit
set_option maxRecDepth 20000 in
set_option maxHeartbeats 4000000 in
theorem implOldBytes_t {w : World} {q : Value} {xs : List Int} (hm : ML w) (c k port : Int) (s u : ByteArray) (hq : IntS w q xs) (hs : s.size ≤ 2000000) (hu : u.size ≤ 2000000) (hok : Hid (oldOk ⟨c, ⟨k, xs, tx s, port⟩, tx u⟩ = true)) :
    Calls Tryz.prog 20 #[.agg #[.int .i64 c, .int .i64 k, q, .string s, .int .i64 port, .string u]] w fun e w' => ∃ v', e = .returned (.tuple #[v', .bool true]) ∧ IntO w.heap.size 3 w' v' (oldBytes ⟨c, ⟨k, xs, tx s, port⟩, tx u⟩) ∧ Gr w w' := by
  obtain ⟨p, cap, rfl, _, _⟩ := hq.form
  have hg := gr_alloc w (.cells #[.int .i64 c, .int .i64 k, .slice p xs.length cap, .string s, .int .i64 port, .string u] 39)
  obtain ⟨_, h1, h2⟩ := old_parts hok.out
  have hul := userOk_len h2
  have hka := adr_kind h1
  simp only [tx_len] at hul hka
  have HB : Hid (oldBytes ⟨c, ⟨k, xs, tx s, port⟩, tx u⟩ = 4 :: c :: (num2 port ++ ((if k = 1 then xs else [0, 0, 0, 1]) ++ (sb u ++ (0 :: (if k = 3 then sb s ++ [0] else [])))))) := rfl
  generalize oldBytes ⟨c, ⟨k, xs, tx s, port⟩, tx u⟩ = r at *
  have hIsO := Lib.hid (fun (W : World) (h1 : ML W) (h2 : IntS W (.slice p xs.length cap) xs) => isOld_c h1 c k port s u h2 hs hu)
  rw [hok.out] at hIsO
  clear h1 h2 hok
  go_enter Tryz.func20, Tryz.ntmps20
  go_wp2_with fail
  (with_reducible refine (hIsO.out _ (hm.kept hg) (hq.kept hg)).mono ?_); rintro e w0' ⟨rfl, g0'⟩
  have g0 := hg.trans g0'
  have b0 := boxN g0' 0 rfl
  have b1 := boxN g0' 1 rfl
  have b2 := boxN g0' 2 rfl
  have b3 := boxN g0' 3 rfl
  have b4 := boxN g0' 4 rfl
  have b5 := boxN g0' 5 rfl
  have hqb := hq.kept g0
  clear hg g0' hIsO
  go_upto_region 3 with fail
  have hz0 := g0.sz
  generalize hW0 : w0' = w0 at *
  clear hW0
  go_cut [4] (fun v wx => IntO w0.heap.size 3 wx v (4 :: c :: num2 port) ∧ Gr w0 wx)
  case first =>
    have hln := num2_len port
    have LN := Lib.hid (fun W => numberBytes_c port W)
    generalize num2 port = nn at *
    clear hka
    go_region_held3 (fun w' => w'.cell? ⟨w.heap.size, 0, none⟩ = some (.int .i64 c) ∧ w'.cell? ⟨w.heap.size, 4, none⟩ = some (.int .i64 port)) (first | (exact ⟨g2.cell b0, g2.cell b4⟩) | (exact ⟨(g1.alloc _).cell b0, (g1.alloc _).cell b4⟩) | (exact ⟨g1.cell b0, g1.cell b4⟩) | go_keep) (first
      | (go_at_call 54; (with_reducible refine (LN.out w0.drew).mono ?_); rintro e w1 ⟨v1, rfl, o1, g1'⟩; have g1 : Gr w0 w1 := g1'.undrew; have gg : True := trivial)
      | (go_at_call 54; (with_reducible refine (LN.out _).mono ?_); rintro e w1 ⟨v1, rfl, o1, g1'⟩; have g1 : Gr w0 w1 := (((Gr.refl w0).drew).alloc _).trans g1')
      | (refine step_appI (B := w0.heap.size) (by rfl) (.tmp 11) (.tmp 15) (by rfl) (by rfl) ((IntO.two (w := w0.drew) (x := 4) (y := c) rfl).kept g1') (by rfl) o1.s (by first | omega | (simp; omega)) g1.sz ?_; intro v2 w2 o2 h2; have g2 : Gr w0 w2 := g1.thenB h2)
      | (refine step_appI (B := w1.heap.size) (by rfl) (.tmp 11) (.tmp 15) (by rfl) (by rfl) (IntO.two (w := w1) (x := 4) (y := c) rfl) (by rfl) (o1.s.kept (gr_alloc _ _)) (by first | omega | (simp; omega)) (by simp) ?_; intro v2 w2 o2' h2; have o2 := IntO.mono o2' g1.sz; have g2 : Gr w0 w2 := (g1.alloc _).thenB (h2.mono g1.sz)) | fail)
    all_goals
      go_wp2_with fail
      go_meet
      exact ⟨o2, g2⟩
  case rest =>
    obtain ⟨o2, g2⟩ := hcut
    have hln := num2_len port
    have hsb := sb_length u
    have hsn := sb_length s
    have hlx : (4 :: c :: num2 port).length ≤ 10 := by simp [hln]
    have d1 := g2.cell b1
    have d2 := g2.cell b2
    have hq2 := hqb.kept g2
    obtain ⟨X, hX⟩ : ∃ X : List Int, 4 :: c :: num2 port = X := ⟨_, rfl⟩
    rw [hX] at o2 hlx
    by_cases k1 : k = 1
    · have hx4 : xs.length = 4 := by
        rcases hka with ⟨_, h, _⟩ | ⟨h, _⟩
        · exact (quad_bytes h).1
        · omega
      have k3' : (k == 3) = false := beq_eq_false_iff_ne.2 (by omega)
      have HR : Hid (r = X ++ xs ++ sb u ++ [0]) := by rw [Hid, HB.out, if_pos k1, if_neg (by omega), ← hX]; simp
      have hxl : xs.length ≤ 4 := by omega
      clear hka k1 hx4 HB hX hln
      go_upto_region 7 with fail
      go_cut [4] (fun v wx => IntO w0.heap.size 3 wx v (X ++ xs ++ sb u ++ [0]) ∧ Gr w0 wx)
      case first =>
        go_region_held3 (fun w' => w'.cell? ⟨w.heap.size, 5, none⟩ = some (.string u)) (first | (exact g4.cell b5) | (exact g3.cell b5) | (exact g6.cell b5) | (exact g5.cell b5) | (exact (Gr.alloc g5 _).cell b5) | (exact (Gr.alloc g4 _).cell b5) | (exact (Gr.alloc g3 _).cell b5) | (exact (Gr.drew (g2)).cell b5) | (exact ((Gr.drew (g2)).alloc _).cell b5) | (exact (Gr.alloc (g2) _).cell b5) | go_keep) (first
          | (refine step_appH (B := w0.heap.size) (by rfl) (.tmp 25) (.tmp 26) (by rfl) (by rfl) (IntO.kept o2 (by repeat (first | assumption | exact Gr.refl _ | refine Gr.drew ?_ | refine Gr.alloc ?_ _))) (by rfl) (IntS.kept hq2 (by repeat (first | assumption | exact Gr.refl _ | refine Gr.drew ?_ | refine Gr.alloc ?_ _))) (by first | omega | (simp; omega)) (Gr.sz (a := w0) (by repeat (first | assumption | exact Gr.refl _ | refine Gr.drew ?_ | refine Gr.alloc ?_ _))) ?_; intro v3 w3 o3 h3 hk3 hv3; have g3 : Gr w0 w3 := Gr.thenB (a := w0) (by repeat (first | assumption | exact Gr.refl _ | refine Gr.drew ?_ | refine Gr.alloc ?_ _)) h3; first | (have l3 := (hk3 (wc).heap.size (by simp) (own_ne o2)).trans (heap_alloc_new wc (.cells #[.int .i64 0] 3)); have n3 := own_ne2 o2 hv3 (by simp)) | skip)
          | (go_at_call 38; (with_reducible refine (textBytes_c _ _ (by omega)).mono ?_); rintro e w4 ⟨v4, rfl, o4, g4'⟩; have g34 : Gr w3 w4 := Gr.trans (by repeat (first | assumption | exact Gr.refl _ | refine Gr.drew ?_ | refine Gr.alloc ?_ _)) g4'; have g4 : Gr w0 w4 := g3.trans g34; have o3' := IntO.kept o3 g34; first | (have l4 := g34.blk l3) | (have l4 := g4'.blk (heap_alloc_new w3 (.cells #[.int .i64 0] 3)); have n3 := own_ne o3) | skip)
          | (refine step_appH (B := w0.heap.size) (by rfl) (.tmp 27) (.tmp 30) (by rfl) (by rfl) (IntO.kept o3' (by repeat (first | assumption | exact Gr.refl _ | refine Gr.drew ?_ | refine Gr.alloc ?_ _))) (by rfl) (IntS.kept o4.s (by repeat (first | assumption | exact Gr.refl _ | refine Gr.drew ?_ | refine Gr.alloc ?_ _))) (by first | omega | (simp; omega)) (Gr.sz (a := w0) (by repeat (first | assumption | exact Gr.refl _ | refine Gr.drew ?_ | refine Gr.alloc ?_ _))) ?_; intro v5 w5 o5 h5 hk5 hv5; have g5 : Gr w0 w5 := Gr.thenB (a := w0) (by repeat (first | assumption | exact Gr.refl _ | refine Gr.drew ?_ | refine Gr.alloc ?_ _)) h5; first | (have l5 := (hk5 _ (Array.getElem?_eq_some_iff.1 l4).1 n3).trans l4) | (have l5 := (hk5 w4.heap.size (by simp) (own_ne o3')).trans (heap_alloc_new w4 (.cells #[.int .i64 0] 3))) | skip)
          | (refine step_appI (B := w0.heap.size) (by rfl) (.tmp 31) (.tmp 32) (by rfl) (by rfl) (IntO.kept o5 (by repeat (first | assumption | exact Gr.refl _ | refine Gr.drew ?_ | refine Gr.alloc ?_ _))) (by rfl) (oneS (by first | exact l5 | exact heap_alloc_new _ _)) (by first | omega | (simp; omega)) (Gr.sz (a := w0) (by repeat (first | assumption | exact Gr.refl _ | refine Gr.drew ?_ | refine Gr.alloc ?_ _))) ?_; intro v6 w6 o6 h6; have g6 : Gr w0 w6 := Gr.thenB (a := w0) (by repeat (first | assumption | exact Gr.refl _ | refine Gr.drew ?_ | refine Gr.alloc ?_ _)) h6) | fail)
        all_goals
          go_wp2_with fail
          go_meet
          exact ⟨o6, g6⟩
      case rest =>
        obtain ⟨o6, g6⟩ := hcut
        have d1' := g6.cell b1
        go_wp2
        go_ret2
        exact ⟨_, rfl, by rw [HR.out]; exact IntO.mono o6 hz0, g0.trans g6⟩
    · have hk3 : k = 3 ∧ nameOk (tx s) = true := by
        rcases hka with ⟨h, _⟩ | ⟨h, h2, _⟩
        · omega
        · exact ⟨h, h2⟩
      have hnl := nameOk_len hk3.2
      rw [tx_len] at hnl
      have k3' : (k == 3) = true := by rw [hk3.1]; rfl
      have HR : Hid (r = X ++ [0, 0, 0, 1] ++ sb u ++ [0] ++ sb s ++ [0]) := by rw [Hid, HB.out, if_neg k1, if_pos hk3.1, ← hX]; simp
      clear hka k1 hk3 HB hX hln
      go_upto_region 7 with fail
      have gl : Gr w0 (wc.alloc (.cells #[.int .i64 0, .int .i64 0, .int .i64 0, .int .i64 1] 3)) := g2.alloc _
      have rl := (IntO.l4 (w := wc) (x := 0) (y := 0) (z := 0) (u := 1) rfl).s
      have o2l := IntO.kept o2 (gr_alloc wc (.cells #[.int .i64 0, .int .i64 0, .int .i64 0, .int .i64 1] 3))
      generalize wc.alloc (.cells #[.int .i64 0, .int .i64 0, .int .i64 0, .int .i64 1] 3) = wl at *
      obtain ⟨Q4, hQ4⟩ : ∃ Q4 : List Int, [0, 0, 0, 1] = Q4 := ⟨_, rfl⟩
      have hq4l : Q4.length = 4 := by rw [← hQ4]; rfl
      rw [hQ4] at rl HR
      clear hQ4
      go_cut [4] (fun v wx => IntO w0.heap.size 3 wx v (X ++ Q4 ++ sb u ++ [0]) ∧ Gr w0 wx)
      case first =>
        go_region_held3 (fun w' => w'.cell? ⟨w.heap.size, 5, none⟩ = some (.string u)) (first | (exact g4.cell b5) | (exact g3.cell b5) | (exact g6.cell b5) | (exact g5.cell b5) | (exact (Gr.alloc g5 _).cell b5) | (exact (Gr.alloc g4 _).cell b5) | (exact (Gr.alloc g3 _).cell b5) | (exact (Gr.drew (gl)).cell b5) | (exact ((Gr.drew (gl)).alloc _).cell b5) | (exact (Gr.alloc (gl) _).cell b5) | go_keep) (first
          | (refine step_appH (B := w0.heap.size) (by rfl) (.tmp 25) (.tmp 26) (by rfl) (by rfl) (IntO.kept o2l (by repeat (first | assumption | exact Gr.refl _ | refine Gr.drew ?_ | refine Gr.alloc ?_ _))) (by rfl) (IntS.kept rl (by repeat (first | assumption | exact Gr.refl _ | refine Gr.drew ?_ | refine Gr.alloc ?_ _))) (by first | omega | (simp; omega)) (Gr.sz (a := w0) (by repeat (first | assumption | exact Gr.refl _ | refine Gr.drew ?_ | refine Gr.alloc ?_ _))) ?_; intro v3 w3 o3 h3 hk3 hv3; have g3 : Gr w0 w3 := Gr.thenB (a := w0) (by repeat (first | assumption | exact Gr.refl _ | refine Gr.drew ?_ | refine Gr.alloc ?_ _)) h3; first | (have l3 := (hk3 (wl).heap.size (by simp) (own_ne o2l)).trans (heap_alloc_new wl (.cells #[.int .i64 0] 3)); have n3 := own_ne2 o2l hv3 (by simp)) | skip)
          | (go_at_call 38; (with_reducible refine (textBytes_c _ _ (by omega)).mono ?_); rintro e w4 ⟨v4, rfl, o4, g4'⟩; have g34 : Gr w3 w4 := Gr.trans (by repeat (first | assumption | exact Gr.refl _ | refine Gr.drew ?_ | refine Gr.alloc ?_ _)) g4'; have g4 : Gr w0 w4 := g3.trans g34; have o3' := IntO.kept o3 g34; first | (have l4 := g34.blk l3) | (have l4 := g4'.blk (heap_alloc_new w3 (.cells #[.int .i64 0] 3)); have n3 := own_ne o3) | skip)
          | (refine step_appH (B := w0.heap.size) (by rfl) (.tmp 27) (.tmp 30) (by rfl) (by rfl) (IntO.kept o3' (by repeat (first | assumption | exact Gr.refl _ | refine Gr.drew ?_ | refine Gr.alloc ?_ _))) (by rfl) (IntS.kept o4.s (by repeat (first | assumption | exact Gr.refl _ | refine Gr.drew ?_ | refine Gr.alloc ?_ _))) (by first | omega | (simp; omega)) (Gr.sz (a := w0) (by repeat (first | assumption | exact Gr.refl _ | refine Gr.drew ?_ | refine Gr.alloc ?_ _))) ?_; intro v5 w5 o5 h5 hk5 hv5; have g5 : Gr w0 w5 := Gr.thenB (a := w0) (by repeat (first | assumption | exact Gr.refl _ | refine Gr.drew ?_ | refine Gr.alloc ?_ _)) h5; first | (have l5 := (hk5 _ (Array.getElem?_eq_some_iff.1 l4).1 n3).trans l4) | (have l5 := (hk5 w4.heap.size (by simp) (own_ne o3')).trans (heap_alloc_new w4 (.cells #[.int .i64 0] 3))) | skip)
          | (refine step_appI (B := w0.heap.size) (by rfl) (.tmp 31) (.tmp 32) (by rfl) (by rfl) (IntO.kept o5 (by repeat (first | assumption | exact Gr.refl _ | refine Gr.drew ?_ | refine Gr.alloc ?_ _))) (by rfl) (oneS (by first | exact l5 | exact heap_alloc_new _ _)) (by first | omega | (simp; omega)) (Gr.sz (a := w0) (by repeat (first | assumption | exact Gr.refl _ | refine Gr.drew ?_ | refine Gr.alloc ?_ _))) ?_; intro v6 w6 o6 h6; have g6 : Gr w0 w6 := Gr.thenB (a := w0) (by repeat (first | assumption | exact Gr.refl _ | refine Gr.drew ?_ | refine Gr.alloc ?_ _)) h6) | fail)
        all_goals
          go_wp2_with fail
          go_meet
          exact ⟨o6, g6⟩
      case rest =>
        obtain ⟨o6, g6⟩ := hcut
        have d1' := g6.cell b1
        have d3' := g6.cell b3
        have hl6 : (X ++ Q4 ++ sb u ++ [0]).length ≤ 100 := by simp; omega
        generalize X ++ Q4 ++ sb u ++ [0] = Y at *
        go_wp2_with fail
        (with_reducible refine (textBytes_c _ _ (by omega)).mono ?_); rintro e w7 ⟨v7, rfl, o7, g7'⟩
        have g7 := g6.trans g7'
        go_wp2_with (first | (at_builtin; refine wpl_appI rfl (.tmp 38) (.tmp 42) rfl rfl (IntO.kept o6 g7') rfl o7.s (by first | omega | (simp; omega)) g7.sz ?_; intro v8 w8 o8 h8; have g8 : Gr w0 w8 := g7.thenB h8) | (at_builtin; refine wpl_appI rfl (.tmp 43) (.tmp 44) rfl rfl (o8.kept (gr_alloc _ _)) rfl (IntO.one _).s (by first | omega | (simp; omega)) (by have := g8.sz; simp; omega) ?_; intro v9 w9 o9 h9; have g9 : Gr w0 w9 := (g8.alloc _).thenB h9))
        go_wp2
        go_ret2
        exact ⟨_, rfl, by rw [HR.out]; exact IntO.mono o9 hz0, g0.trans g9⟩
theorem implOldBytes_f {w : World} {q : Value} {xs : List Int} (hm : ML w) (c k port : Int) (s u : ByteArray) (hq : IntS w q xs) (hs : s.size ≤ 2000000) (hu : u.size ≤ 2000000) (hok : Hid (oldOk ⟨c, ⟨k, xs, tx s, port⟩, tx u⟩ = false)) :
    Calls Tryz.prog 20 #[.agg #[.int .i64 c, .int .i64 k, q, .string s, .int .i64 port, .string u]] w fun e w' => ∃ v', e = .returned (.tuple #[v', .bool false]) ∧ IntO w.heap.size 3 w' v' [] ∧ Gr w w' := by
  obtain ⟨p, cap, rfl, _, _⟩ := hq.form
  have hg := gr_alloc w (.cells #[.int .i64 c, .int .i64 k, .slice p xs.length cap, .string s, .int .i64 port, .string u] 39)
  go_enter Tryz.func20, Tryz.ntmps20
  go_wp2_with fail
  (with_reducible refine (isOld_c (hm.kept hg) c k port s u (hq.kept hg) hs hu).mono ?_); rintro e w1 ⟨rfl, g1⟩
  rw [hok.out]
  go_wp2
  go_ret2
  exact ⟨_, rfl, IntO.nil _ _ _, hg.trans g1⟩
end Go.Proofs.YtdbepkcpdglppaaGreatDoor
