/- Addresses, logins, requests, replies as bytes: both ways. -/
import Derived.Test.YtpdjibfcbjknhaaGreatDoorGW
import Derived.Test.YtpdjibfcbjknhaaGreatDoorNameI
import Derived.Test.YtpdjibfcbjknhaaGreatDoorGC
import Derived.Test.YtpdjibfcbjknhaaGreatDoorGE
import Derived.Test.YtpdjibfcbjknhaaGreatDoorGV
import Derived.Deep.DeepCutAuto
import Derived.Deep.RegionHeld3
namespace Go.Proofs.YtpdjibfcbjknhaaGreatDoor
open Go.RowKit
theorem IntO.tri {w : World} {x y z : Int} {m : Nat} (hm : m = w.heap.size) : IntO w.heap.size 3 (w.alloc (.cells #[.int .i64 x, .int .i64 y, .int .i64 z] 3)) (.slice (some ⟨m, 0, none⟩) 3 3) [x, y, z] := by
  subst hm; exact Own.lit w #[.int .i64 x, .int .i64 y, .int .i64 z] 3 (Nat.le_refl _) (by decide) rfl
theorem IntO.mtM {w : World} {m : Nat} (hm : m = w.heap.size) : IntO w.heap.size 3 (w.alloc (.cells #[] 3)) (.slice (some ⟨m, 0, none⟩) 0 0) [] := by subst hm; exact IntO.mt w
theorem adrB_one {k port : Int} {xs : List Int} {nm : Tx} (h : k = 1) : adrBytes ⟨k, xs, nm, port⟩ = [k] ++ xs ++ num2 port := by
  unfold adrBytes; simp [h]
theorem adrB_three {k port : Int} {xs : List Int} {s : ByteArray} (h : ¬ k = 1) : adrBytes ⟨k, xs, tx s, port⟩ = [k] ++ [(s.size : Int)] ++ sb s ++ num2 port := by
  unfold adrBytes; simp [h, tx_len, sb_tb]
set_option maxHeartbeats 2000000 in
theorem l3Bytes_c {w : World} {q : Value} {xs : List Int} (k port : Int) (s : ByteArray) (hq : IntS w q xs) (hok : adrOk ⟨k, xs, tx s, port⟩ = true) :
    Calls Tryz.prog 159 #[.agg #[.int .i64 k, q, .string s, .int .i64 port]] w fun e w' => ∃ v', e = .returned v' ∧ IntO w.heap.size 3 w' v' (adrBytes ⟨k, xs, tx s, port⟩) ∧ Gr w w' := by
  obtain ⟨p, cap, rfl, _, _⟩ := hq.form
  have hg := gr_alloc w (.cells #[.int .i64 k, .slice p xs.length cap, .string s, .int .i64 port] 65)
  have b0 := boxN (Gr.refl (w.alloc (.cells #[.int .i64 k, .slice p xs.length cap, .string s, .int .i64 port] 65))) 0 rfl
  have b1 := boxN (Gr.refl (w.alloc (.cells #[.int .i64 k, .slice p xs.length cap, .string s, .int .i64 port] 65))) 1 rfl
  have b2 := boxN (Gr.refl (w.alloc (.cells #[.int .i64 k, .slice p xs.length cap, .string s, .int .i64 port] 65))) 2 rfl
  have b3 := boxN (Gr.refl (w.alloc (.cells #[.int .i64 k, .slice p xs.length cap, .string s, .int .i64 port] 65))) 3 rfl
  have hqb := hq.kept hg
  have hz := hg.sz
  have hka := adr_kind hok
  have hp := adr_port hok
  simp only [] at hka hp
  have A1 := @adrB_one k port xs (tx s)
  have A3 := @adrB_three k port xs s
  generalize adrBytes ⟨k, xs, tx s, port⟩ = r at *
  clear hok
  go_enter Tryz.func159, Tryz.ntmps159
  go_upto_region 1 with fail
  generalize hW0 : w.alloc (.cells #[.int .i64 k, .slice p xs.length cap, .string s, .int .i64 port] 65) = w0 at *
  have HW0 := Lib.hid hW0
  clear hW0
  have g1 := gr_alloc w0 (.cells #[.int .i64 k] 3)
  have o1 := IntO.one (w := w0) k
  have d0 := g1.cell b0
  have d1 := g1.cell b1
  have d2 := g1.cell b2
  have d3 := g1.cell b3
  by_cases k1 : k = 1
  · have hx4 : xs.length = 4 := by
      rcases hka with ⟨_, h, _⟩ | ⟨h, _⟩
      · exact (quad_bytes h).1
      · omega
    have HR := Lib.hid (A1 k1)
    have k1' : (k == 1) = true := by rw [k1]; rfl
    have hl : xs.length ≤ 4 := by omega
    clear A1 A3 hka k1 hx4
    go_wp2_with (at_builtin; refine wpl_appI rfl (.tmp 10) (.tmp 12) rfl rfl o1 rfl (hqb.kept g1) (by first | omega | (simp; omega)) g1.sz ?_; intro v3 w3 o3 h3; have g3 : Gr w0 w3 := g1.thenB h3; have c3 := g3.cell b3)
    (with_reducible refine (l1Number_c _ _ (by omega) (by omega)).mono ?_); rintro e w4 ⟨v4, rfl, o4, g4'⟩
    have g4 := g3.trans g4'
    go_wp2_with (at_builtin; refine wpl_appI rfl (.tmp 25) (.tmp 28) rfl rfl (IntO.kept o3 g4') rfl o4.s (by simp [num2_len]; omega) g4.sz ?_; intro v5 w5 o5 h5; have g5 : Gr w0 w5 := g4.thenB h5)
    go_ret
    exact ⟨_, rfl, by rw [HR.out]; exact IntO.mono o5 hz, hg.trans g5⟩
  · have hnl : s.size ≤ 20 := by
      rcases hka with ⟨h, _⟩ | ⟨_, h, _⟩
      · exact absurd h k1
      · have := nameOk_len h; rwa [tx_len] at this
    have HR := Lib.hid (A3 k1)
    have k1' : (k == 1) = false := beq_eq_false_iff_ne.2 k1
    have hsn := sb_length s
    clear A1 A3 hka k1
    go_upto_region 4 with fail
    generalize hW1 : w0.alloc (.cells #[.int .i64 k] 3) = w1 at *
    have HW1 := Lib.hid hW1
    clear hW1
    go_wp2_with (first
      | (at_builtin; refine wpl_appI rfl (.tmp 14) (.tmp 18) rfl rfl (o1.kept (gr_alloc _ _)) rfl (IntO.one _).s (by simp) (by have := g1.sz; simp; omega) ?_; intro v3 w3 o3 h3; have g3 : Gr w0 w3 := (g1.alloc _).thenB h3; have c2 := g3.cell b2)
      | (go_at_call 140; (with_reducible refine (l1Text_c _ s (by omega)).mono ?_); rintro e w4 ⟨v4, rfl, o4, g4'⟩; have g4 := g3.trans g4')
      | (at_builtin; refine wpl_appI rfl (.tmp 20) (.tmp 23) rfl rfl (IntO.kept o3 g4') rfl o4.s (by first | omega | (simp; omega)) g4.sz ?_; intro v5 w5 o5 h5; have g5 : Gr w0 w5 := g4.thenB h5; have c3 := g5.cell b3)
      | (go_at_call 179; (with_reducible refine (l1Number_c _ _ (by omega) (by omega)).mono ?_); rintro e w6 ⟨v6, rfl, o6, g6'⟩; have g6 := g5.trans g6')
      | (at_builtin; refine wpl_appI rfl (.tmp 25) (.tmp 28) rfl rfl (IntO.kept o5 g6') rfl o6.s (by simp [num2_len]; omega) g6.sz ?_; intro v7 w7 o7 h7; have g7 : Gr w0 w7 := g6.thenB h7))
    go_ret
    exact ⟨_, rfl, by rw [HR.out]; exact IntO.mono o7 hz, hg.trans g7⟩
set_option maxRecDepth 20000 in
set_option maxHeartbeats 2000000 in
theorem addressBytes_c {w : World} {q : Value} {xs : List Int} (k port : Int) (s : ByteArray) (hq : IntS w q xs) (hok : adrOk ⟨k, xs, tx s, port⟩ = true) :
    Calls Tryz.prog 90 #[.agg #[.int .i64 k, q, .string s, .int .i64 port]] w fun e w' => ∃ v', e = .returned v' ∧ IntO w.heap.size 3 w' v' (adrBytes ⟨k, xs, tx s, port⟩) ∧ Gr w w' := by
  obtain ⟨p, cap, rfl, _, _⟩ := hq.form
  have hg := gr_alloc w (.cells #[.int .i64 k, .slice p xs.length cap, .string s, .int .i64 port] 65)
  have b0 := boxN (Gr.refl (w.alloc (.cells #[.int .i64 k, .slice p xs.length cap, .string s, .int .i64 port] 65))) 0 rfl
  have b1 := boxN (Gr.refl (w.alloc (.cells #[.int .i64 k, .slice p xs.length cap, .string s, .int .i64 port] 65))) 1 rfl
  have b2 := boxN (Gr.refl (w.alloc (.cells #[.int .i64 k, .slice p xs.length cap, .string s, .int .i64 port] 65))) 2 rfl
  have b3 := boxN (Gr.refl (w.alloc (.cells #[.int .i64 k, .slice p xs.length cap, .string s, .int .i64 port] 65))) 3 rfl
  have hqb := hq.kept hg
  have hz := hg.sz
  have hka := adr_kind hok
  simp only [] at hka
  have A1 := @adrB_one k port xs (tx s)
  have A3 := @adrB_three k port xs s
  generalize adrBytes ⟨k, xs, tx s, port⟩ = r at *
  clear hok
  go_enter Tryz.func90, Tryz.ntmps90
  go_upto_region 1 with fail
  generalize hW0 : w.alloc (.cells #[.int .i64 k, .slice p xs.length cap, .string s, .int .i64 port] 65) = w0 at *
  have HW0 := Lib.hid hW0
  clear hW0
  have g1 := gr_alloc w0 (.cells #[.int .i64 k] 3)
  have o1 := IntO.one (w := w0) k
  have d0 := g1.cell b0
  have d1 := g1.cell b1
  have d2 := g1.cell b2
  have d3 := g1.cell b3
  by_cases k1 : k = 1
  · have hx4 : xs.length = 4 := by
      rcases hka with ⟨_, h, _⟩ | ⟨h, _⟩
      · exact (quad_bytes h).1
      · omega
    have HR := Lib.hid (A1 k1)
    have k1' : (k == 1) = true := by rw [k1]; rfl
    have hl : xs.length ≤ 4 := by omega
    clear A1 A3 hka k1 hx4
    go_wp2_with (first
      | (at_builtin; refine wpl_appI rfl (.tmp 10) (.tmp 12) rfl rfl o1 rfl (hqb.kept g1) (by first | omega | (simp; omega)) g1.sz ?_; intro v3 w3 o3 h3; have g3 : Gr w0 w3 := g1.thenB h3; have c3 := g3.cell b3)
      | (go_at_call 132; (with_reducible refine (numberBytes_c _ _).mono ?_); rintro e w4 ⟨v4, rfl, o4, g4'⟩; have g4 := g3.trans g4')
      | (at_builtin; refine wpl_appI rfl (.tmp 24) (.tmp 27) rfl rfl (IntO.kept o3 g4') rfl o4.s (by simp [num2_len]; omega) g4.sz ?_; intro v5 w5 o5 h5; have g5 : Gr w0 w5 := g4.thenB h5))
    go_ret
    exact ⟨_, rfl, by rw [HR.out]; exact IntO.mono o5 hz, hg.trans g5⟩
  · have hnl : s.size ≤ 20 := by
      rcases hka with ⟨h, _⟩ | ⟨_, h, _⟩
      · exact absurd h k1
      · have := nameOk_len h; rwa [tx_len] at this
    have HR := Lib.hid (A3 k1)
    have k1' : (k == 1) = false := beq_eq_false_iff_ne.2 k1
    have hsn := sb_length s
    clear A1 A3 hka k1
    go_upto_region 4 with fail
    generalize hW1 : w0.alloc (.cells #[.int .i64 k] 3) = w1 at *
    have HW1 := Lib.hid hW1
    clear hW1
    go_cut [3] (fun v wx => IntO w0.heap.size 3 wx v ([k] ++ [(s.size : Int)] ++ sb s) ∧ Gr w0 wx)
    case first =>
      go_region_held3 (fun w' => w'.cell? ⟨w.heap.size, 2, none⟩ = some (.string s)) (first | (exact g4.cell b2) | (exact g3.cell b2) | (exact g5.cell b2) | (exact (Gr.alloc g4 _).cell b2) | (exact (Gr.alloc g3 _).cell b2) | (exact (Gr.drew (g1)).cell b2) | (exact ((Gr.drew (g1)).alloc _).cell b2) | (exact (Gr.alloc (g1) _).cell b2) | go_keep) (first
        | (refine step_appI (B := w0.heap.size) (by rfl) (.tmp 14) (.tmp 18) (by rfl) (by rfl) (IntO.kept o1 (by repeat (first | assumption | exact Gr.refl _ | refine Gr.drew ?_ | refine Gr.alloc ?_ _))) (by rfl) (IntO.one _).s (by simp) (Gr.sz (a := w0) (by repeat (first | assumption | exact Gr.refl _ | refine Gr.drew ?_ | refine Gr.alloc ?_ _))) ?_; intro v3 w3 o3 h3; have g3 : Gr w0 w3 := Gr.thenB (a := w0) (by repeat (first | assumption | exact Gr.refl _ | refine Gr.drew ?_ | refine Gr.alloc ?_ _)) h3)
        | (go_at_call 131; (with_reducible refine (textBytes_c _ s (by omega)).mono ?_); rintro e w4 ⟨v4, rfl, o4, g4'⟩; have g34 : Gr w3 w4 := Gr.trans (by repeat (first | assumption | exact Gr.refl _ | refine Gr.drew ?_ | refine Gr.alloc ?_ _)) g4'; have g4 : Gr w0 w4 := g3.trans g34; have o3' := IntO.kept o3 g34)
        | (refine step_appI (B := w0.heap.size) (by rfl) (.tmp 19) (.tmp 22) (by rfl) (by rfl) (IntO.kept o3' (by repeat (first | assumption | exact Gr.refl _ | refine Gr.drew ?_ | refine Gr.alloc ?_ _))) (by rfl) (IntS.kept o4.s (by repeat (first | assumption | exact Gr.refl _ | refine Gr.drew ?_ | refine Gr.alloc ?_ _))) (by first | omega | (simp; omega)) (Gr.sz (a := w0) (by repeat (first | assumption | exact Gr.refl _ | refine Gr.drew ?_ | refine Gr.alloc ?_ _))) ?_; intro v5 w5 o5 h5; have g5 : Gr w0 w5 := Gr.thenB (a := w0) (by repeat (first | assumption | exact Gr.refl _ | refine Gr.drew ?_ | refine Gr.alloc ?_ _)) h5) | fail)
      all_goals
        go_wp2_with fail
        go_meet
        exact ⟨o5, g5⟩
    case rest =>
      obtain ⟨o5, g5⟩ := hcut
      have c3 := g5.cell b3
      have hl5 : ([k] ++ [(s.size : Int)] ++ sb s).length ≤ 100 := by simp; omega
      generalize [k] ++ [(s.size : Int)] ++ sb s = Y at *
      go_wp2_with (first
        | (go_at_call 132; (with_reducible refine (numberBytes_c _ _).mono ?_); rintro e w6 ⟨v6, rfl, o6, g6'⟩; have g6 := g5.trans g6')
        | (at_builtin; refine wpl_appI rfl (.tmp 24) (.tmp 27) rfl rfl (IntO.kept o5 g6') rfl o6.s (by simp [num2_len]; omega) g6.sz ?_; intro v7 w7 o7 h7; have g7 : Gr w0 w7 := g6.thenB h7))
      go_ret
      exact ⟨_, rfl, by rw [HR.out]; exact IntO.mono o7 hz, hg.trans g7⟩
set_option maxHeartbeats 2000000 in
theorem l12Bytes_c {w : World} {q : Value} {xs : List Int} (c k port : Int) (s : ByteArray) (hq : IntS w q xs) (hok : adrOk ⟨k, xs, tx s, port⟩ = true) :
    Calls Tryz.prog 141 #[.int .i64 c, .agg #[.int .i64 k, q, .string s, .int .i64 port]] w fun e w' => ∃ v', e = .returned v' ∧ IntO w.heap.size 3 w' v' (reqBytes c ⟨k, xs, tx s, port⟩) ∧ Gr w w' := by
  obtain ⟨p, cap, rfl, _, _⟩ := hq.form
  have hg := gr_alloc w (.cells #[.int .i64 k, .slice p xs.length cap, .string s, .int .i64 port] 65)
  have hz := hg.sz
  have hqb := hq.kept hg
  have LB := Lib.hid (fun (W : World) (h : IntS W (.slice p xs.length cap) xs) => l3Bytes_c k port s h hok)
  have HR : Hid (reqBytes c ⟨k, xs, tx s, port⟩ = [5, c, 0] ++ adrBytes ⟨k, xs, tx s, port⟩) := rfl
  have hl : (adrBytes ⟨k, xs, tx s, port⟩).length ≤ 100 := by
    rcases adr_kind hok with ⟨e, h, _⟩ | ⟨e, h, _⟩
    · have := (quad_bytes h).1
      simp only [] at e h this
      rw [adrB_one e]; simp [num2_len]; omega
    · have := nameOk_len h
      simp only [tx_len] at e h this
      rw [adrB_three (by omega)]; have := sb_length s; simp [num2_len]; omega
  generalize adrBytes ⟨k, xs, tx s, port⟩ = A at *
  generalize reqBytes c ⟨k, xs, tx s, port⟩ = r at *
  have b0 := boxN (Gr.refl (w.alloc (.cells #[.int .i64 k, .slice p xs.length cap, .string s, .int .i64 port] 65))) 0 rfl
  have b1 := boxN (Gr.refl (w.alloc (.cells #[.int .i64 k, .slice p xs.length cap, .string s, .int .i64 port] 65))) 1 rfl
  have b2 := boxN (Gr.refl (w.alloc (.cells #[.int .i64 k, .slice p xs.length cap, .string s, .int .i64 port] 65))) 2 rfl
  have b3 := boxN (Gr.refl (w.alloc (.cells #[.int .i64 k, .slice p xs.length cap, .string s, .int .i64 port] 65))) 3 rfl
  clear hok
  go_enter Tryz.func141, Tryz.ntmps141
  go_upto_region 1 with fail
  generalize hW0 : w.alloc (.cells #[.int .i64 k, .slice p xs.length cap, .string s, .int .i64 port] 65) = w0 at *
  have HW0 := Lib.hid hW0
  clear hW0
  have g1 := gr_alloc w0 (.cells #[.int .i64 5, .int .i64 c, .int .i64 0] 3)
  have o1 := IntO.tri (w := w0) (x := 5) (y := c) (z := 0) rfl
  have d0 := g1.cell b0
  have d1 := g1.cell b1
  have d2 := g1.cell b2
  have d3 := g1.cell b3
  have hq1 := hqb.kept g1
  go_wp2_with (first
    | (go_at_call 159; (with_reducible refine (LB.out _ hq1).mono ?_); rintro e w2 ⟨v2, rfl, o2, g2'⟩; have g2 := g1.trans g2')
    | (at_builtin; refine wpl_appI rfl (.tmp 6) (.tmp 8) rfl rfl (IntO.kept o1 g2') rfl o2.s (by first | omega | (simp; omega)) g2.sz ?_; intro v3 w3 o3 h3; have g3 : Gr w0 w3 := g2.thenB h3))
  go_ret
  exact ⟨_, rfl, by rw [HR.out]; exact IntO.mono o3 hz, hg.trans g3⟩
set_option maxHeartbeats 2000000 in
theorem specReply_t {w : World} {q : Value} {xs : List Int} (c k port : Int) (s : ByteArray) (hq : IntS w q xs) (hs : s.size ≤ 2000000) (hc : Hid (inB 0 8 c = true)) (hok : Hid (adrOk ⟨k, xs, tx s, port⟩ = true)) :
    Calls Tryz.prog 120 #[.int .i64 c, .agg #[.int .i64 k, q, .string s, .int .i64 port]] w fun e w' => ∃ v', e = .returned (.tuple #[v', .bool true]) ∧ IntO w.heap.size 3 w' v' (reqBytes c ⟨k, xs, tx s, port⟩) ∧ Gr w w' := by
  obtain ⟨p, cap, rfl, _, _⟩ := hq.form
  have hg := gr_alloc w (.cells #[.int .i64 k, .slice p xs.length cap, .string s, .int .i64 port] 65)
  go_enter Tryz.func120, Tryz.ntmps120
  go_wp2_with fail
  (with_reducible refine (l6In_c _ _ _ _).mono ?_); rintro e w1 ⟨rfl, rfl⟩
  rw [hc.out]
  go_wp2_with fail
  (with_reducible refine (AddressValid_c k port s (hq.kept hg) hs).mono ?_); rintro e w2 ⟨rfl, g2⟩
  rw [hok.out]
  have G2 := hg.trans g2
  have b0 := boxN g2 0 rfl
  have b1 := boxN g2 1 rfl
  have b2 := boxN g2 2 rfl
  have b3 := boxN g2 3 rfl
  go_wp2_with fail
  (with_reducible refine (l12Bytes_c c k port s (hq.kept G2) hok.out).mono ?_); rintro e w3 ⟨v3, rfl, o3, g3⟩
  go_wp2
  go_ret2
  exact ⟨_, rfl, IntO.mono o3 G2.sz, G2.trans g3⟩
set_option maxHeartbeats 2000000 in
theorem implReply_t {w : World} {q : Value} {xs : List Int} (hm : ML w) (c k port : Int) (s : ByteArray) (hq : IntS w q xs) (hs : s.size ≤ 2000000) (hc : Hid (inB 0 8 c = true)) (hok : Hid (adrOk ⟨k, xs, tx s, port⟩ = true)) :
    Calls Tryz.prog 46 #[.int .i64 c, .agg #[.int .i64 k, q, .string s, .int .i64 port]] w fun e w' => ∃ v', e = .returned (.tuple #[v', .bool true]) ∧ IntO w.heap.size 3 w' v' (reqBytes c ⟨k, xs, tx s, port⟩) ∧ Gr w w' := by
  obtain ⟨p, cap, rfl, _, _⟩ := hq.form
  have hg := gr_alloc w (.cells #[.int .i64 k, .slice p xs.length cap, .string s, .int .i64 port] 65)
  have LB := Lib.hid (fun (W : World) (h : IntS W (.slice p xs.length cap) xs) => addressBytes_c k port s h hok.out)
  have HR : Hid (reqBytes c ⟨k, xs, tx s, port⟩ = [5, c, 0] ++ adrBytes ⟨k, xs, tx s, port⟩) := rfl
  have hl : (adrBytes ⟨k, xs, tx s, port⟩).length ≤ 100 := by
    rcases adr_kind hok.out with ⟨e, h, _⟩ | ⟨e, h, _⟩
    · have := (quad_bytes h).1
      simp only [] at e h this
      rw [adrB_one e]; simp [num2_len]; omega
    · have := nameOk_len h
      simp only [tx_len] at e h this
      rw [adrB_three (by omega)]; have := sb_length s; simp [num2_len]; omega
  generalize adrBytes ⟨k, xs, tx s, port⟩ = A at *
  generalize reqBytes c ⟨k, xs, tx s, port⟩ = r at *
  go_enter Tryz.func46, Tryz.ntmps46
  go_wp2_with fail
  (with_reducible refine (within_c _ _ _ _).mono ?_); rintro e w1 ⟨rfl, rfl⟩
  rw [hc.out]
  go_wp2_with fail
  (with_reducible refine (implAddressValid_c (hm.kept hg) k port s (hq.kept hg) hs).mono ?_); rintro e w2 ⟨rfl, g2⟩
  rw [hok.out]
  have G2 := hg.trans g2
  have b0 := boxN (g2.alloc (.cells #[.int .i64 5, .int .i64 c, .int .i64 0] 3)) 0 rfl
  have b1 := boxN (g2.alloc (.cells #[.int .i64 5, .int .i64 c, .int .i64 0] 3)) 1 rfl
  have b2 := boxN (g2.alloc (.cells #[.int .i64 5, .int .i64 c, .int .i64 0] 3)) 2 rfl
  have b3 := boxN (g2.alloc (.cells #[.int .i64 5, .int .i64 c, .int .i64 0] 3)) 3 rfl
  have g3 := gr_alloc w2 (.cells #[.int .i64 5, .int .i64 c, .int .i64 0] 3)
  have o3 := IntO.tri (w := w2) (x := 5) (y := c) (z := 0) rfl
  have hq3 := (hq.kept G2).kept g3
  go_wp2_with (first
    | (go_at_call 90; (with_reducible refine (LB.out _ hq3).mono ?_); rintro e w4 ⟨v4, rfl, o4, g4'⟩; have g4 := g3.trans g4')
    | (at_builtin; refine wpl_appI rfl (.tmp 15) (.tmp 17) rfl rfl (IntO.kept o3 g4') rfl o4.s (by first | omega | (simp; omega)) g4.sz ?_; intro v5 w5 o5 h5; have g5 : Gr w2 w5 := g4.thenB h5))
  go_ret2
  exact ⟨_, rfl, by rw [HR.out]; exact IntO.mono o5 G2.sz, G2.trans g5⟩
set_option maxHeartbeats 2000000 in
theorem specRequestBytes_c {w : World} {q : Value} {xs : List Int} (c k port : Int) (s : ByteArray) (hq : IntS w q xs) (hs : s.size ≤ 2000000) :
    Calls Tryz.prog 106 #[.agg #[.int .i64 c, .int .i64 k, q, .string s, .int .i64 port]] w fun e w' => ∃ v' ys b, e = .returned (.tuple #[v', .bool b]) ∧ ys.length ≤ 120 ∧ IntO w.heap.size 3 w' v' ys ∧ Gr w w' := by
  obtain ⟨p, cap, rfl, _, _⟩ := hq.form
  have hg := gr_alloc w (.cells #[.int .i64 c, .int .i64 k, .slice p xs.length cap, .string s, .int .i64 port] 121)
  cases hc : inB 1 3 c
  · have HC := Lib.hid hc
    clear hc
    go_enter Tryz.func106, Tryz.ntmps106
    go_wp2_with fail
    (with_reducible refine (l6In_c _ _ _ _).mono ?_); rintro e w1 ⟨rfl, rfl⟩
    rw [HC.out]
    go_wp2
    go_ret2
    exact ⟨_, [], _, rfl, by simp, (IntO.mtM (w := w.alloc _) (by simp)).mono hg.sz, hg.alloc _⟩
  cases hok : adrOk ⟨k, xs, tx s, port⟩
  · have HC := Lib.hid hc
    have HK := Lib.hid hok
    clear hc hok
    go_enter Tryz.func106, Tryz.ntmps106
    go_wp2_with fail
    (with_reducible refine (l6In_c _ _ _ _).mono ?_); rintro e w1 ⟨rfl, rfl⟩
    rw [HC.out]
    go_wp2_with fail
    (with_reducible refine (AddressValid_c k port s (hq.kept hg) hs).mono ?_); rintro e w2 ⟨rfl, g2⟩
    rw [HK.out]
    have G2 := hg.trans g2
    go_wp2
    go_ret2
    exact ⟨_, [], _, rfl, by simp, (IntO.mt _).mono G2.sz, G2.alloc _⟩
  · have HC := Lib.hid hc
    have HK := Lib.hid hok
    have hl : (reqBytes c ⟨k, xs, tx s, port⟩).length ≤ 120 := by
      have hr : reqBytes c ⟨k, xs, tx s, port⟩ = [5, c, 0] ++ adrBytes ⟨k, xs, tx s, port⟩ := rfl
      rw [hr]
      rcases adr_kind hok with ⟨e, h, _⟩ | ⟨e, h, _⟩
      · have := (quad_bytes h).1
        simp only [] at e h this
        rw [adrB_one e]; simp [num2_len]; omega
      · have := nameOk_len h
        simp only [tx_len] at e h this
        rw [adrB_three (by omega)]; have := sb_length s; simp [num2_len]; omega
    clear hc hok
    go_enter Tryz.func106, Tryz.ntmps106
    go_wp2_with fail
    (with_reducible refine (l6In_c _ _ _ _).mono ?_); rintro e w1 ⟨rfl, rfl⟩
    rw [HC.out]
    go_wp2_with fail
    (with_reducible refine (AddressValid_c k port s (hq.kept hg) hs).mono ?_); rintro e w2 ⟨rfl, g2⟩
    rw [HK.out]
    have G2 := hg.trans g2
    have b0 := boxN g2 0 rfl
    have b1 := boxN g2 1 rfl
    have b2 := boxN g2 2 rfl
    have b3 := boxN g2 3 rfl
    have b4 := boxN g2 4 rfl
    go_wp2_with fail
    (with_reducible refine (l12Bytes_c c k port s (hq.kept G2) HK.out).mono ?_); rintro e w3 ⟨v3, rfl, o3, g3⟩
    go_wp2
    go_ret2
    exact ⟨_, _, _, rfl, hl, IntO.mono o3 G2.sz, G2.trans g3⟩
set_option maxRecDepth 20000 in
set_option maxHeartbeats 2000000 in
theorem specLoginBytes_t {w : World} (x y : ByteArray) (hok : Hid (lgOk (tx x, tx y) = true)) :
    Calls Tryz.prog 105 #[.agg #[.string x, .string y]] w fun e w' => ∃ v' ys b, e = .returned (.tuple #[v', .bool b]) ∧ ys.length ≤ 120 ∧ IntO w.heap.size 3 w' v' ys ∧ Gr w w' := by
  have hg := gr_alloc w (.cells #[.string x, .string y] 59)
  obtain ⟨_, _, _, _, l1, l2⟩ := lgOk_parts hok.out
  rw [tx_len] at l1 l2
  have hsx := sb_length x
  have hsy := sb_length y
  go_enter Tryz.func105, Tryz.ntmps105
  go_wp2_with fail
  (with_reducible refine (l11Ok_c _ x y (by omega) (by omega)).mono ?_); rintro e w1 ⟨rfl, g1⟩
  rw [hok.out]
  have b0 := boxN g1 0 rfl
  have b1 := boxN g1 1 rfl
  have G1 := hg.trans g1
  clear g1 hg
  go_upto_region 3 with fail
  go_cut [4] (fun v wx => IntO w1.heap.size 3 wx v ([1, (x.size : Int)] ++ sb x) ∧ Gr w1 wx)
  case first =>
    go_region_held3 (fun w' => w'.cell? ⟨w.heap.size, 0, none⟩ = some (.string x)) (first | (exact g3.cell b0) | (exact g2.cell b0) | (exact (Gr.alloc g3 _).cell b0) | (exact (Gr.alloc g2 _).cell b0) | (exact (Gr.drew (Gr.refl w1)).cell b0) | (exact ((Gr.drew (Gr.refl w1)).alloc _).cell b0) | (exact (Gr.alloc (Gr.refl w1) _).cell b0) | go_keep) (first
      | (go_at_call 140; (with_reducible refine (l1Text_c _ x (by omega)).mono ?_); rintro e w2 ⟨v2, rfl, o2, g2'⟩; have g2 : Gr w1 w2 := Gr.trans (by repeat (first | assumption | exact Gr.refl _ | refine Gr.drew ?_ | refine Gr.alloc ?_ _)) g2')
      | (refine step_appI (B := w1.heap.size) (by rfl) (.tmp 12) (.tmp 15) (by rfl) (by rfl) ((IntO.two (w := w1.drew) (x := 1) (y := (x.size : Int)) rfl).kept g2') (by rfl) (IntS.kept o2.s (by repeat (first | assumption | exact Gr.refl _ | refine Gr.drew ?_ | refine Gr.alloc ?_ _))) (by first | omega | (simp; omega)) (Gr.sz (a := w1) (by repeat (first | assumption | exact Gr.refl _ | refine Gr.drew ?_ | refine Gr.alloc ?_ _))) ?_; intro v3 w3 o3 h3; have g3 : Gr w1 w3 := Gr.thenB (a := w1) (by repeat (first | assumption | exact Gr.refl _ | refine Gr.drew ?_ | refine Gr.alloc ?_ _)) h3)
      | (refine step_appI (B := w1.heap.size) (by rfl) (.tmp 12) (.tmp 15) (by rfl) (by rfl) ((IntO.two (w := w1) (x := 1) (y := (x.size : Int)) rfl).kept g2') (by rfl) (IntS.kept o2.s (by repeat (first | assumption | exact Gr.refl _ | refine Gr.drew ?_ | refine Gr.alloc ?_ _))) (by first | omega | (simp; omega)) (Gr.sz (a := w1) (by repeat (first | assumption | exact Gr.refl _ | refine Gr.drew ?_ | refine Gr.alloc ?_ _))) ?_; intro v3 w3 o3 h3; have g3 : Gr w1 w3 := Gr.thenB (a := w1) (by repeat (first | assumption | exact Gr.refl _ | refine Gr.drew ?_ | refine Gr.alloc ?_ _)) h3)
      | (refine step_appI (B := w2.heap.size) (by rfl) (.tmp 12) (.tmp 15) (by rfl) (by rfl) (IntO.two (w := w2) (x := 1) (y := (x.size : Int)) rfl) (by rfl) (IntS.kept o2.s (by repeat (first | assumption | exact Gr.refl _ | refine Gr.drew ?_ | refine Gr.alloc ?_ _))) (by first | omega | (simp; omega)) (by simp) ?_; intro v3 w3 o3' h3; have o3 := IntO.mono o3' g2.sz; have g3 : Gr w1 w3 := (g2.alloc _).thenB (h3.mono g2.sz)) | fail)
    all_goals
      go_wp2_with fail
      go_meet
      exact ⟨o3, g3⟩
  case rest =>
    obtain ⟨o3, g3⟩ := hcut
    have c1 := g3.cell b1
    have hl3 : ([1, (x.size : Int)] ++ sb x).length ≤ 20 := by simp; omega
    generalize [1, (x.size : Int)] ++ sb x = Y at *
    go_wp2_with (first
      | (at_builtin; refine wpl_appI rfl (.tmp 17) (.tmp 21) rfl rfl (IntO.kept o3 (gr_alloc _ _)) rfl (IntO.one _).s (by first | omega | (simp; omega)) (by have := g3.sz; simp; omega) ?_; intro v4 w4 o4 h4; have g4 : Gr w1 w4 := (g3.alloc _).thenB h4; have e1 := g4.cell b1)
      | (go_at_call 140; (with_reducible refine (l1Text_c _ y (by omega)).mono ?_); rintro e w5 ⟨v5, rfl, o5, g5'⟩; have g5 := g4.trans g5')
      | (at_builtin; refine wpl_appI rfl (.tmp 23) (.tmp 26) rfl rfl (IntO.kept o4 g5') rfl o5.s (by first | omega | (simp; omega)) g5.sz ?_; intro v6 w6 o6 h6; have g6 : Gr w1 w6 := g5.thenB h6))
    go_ret2
    exact ⟨_, _, _, rfl, by simp; omega, IntO.mono o6 G1.sz, G1.trans g6⟩
end Go.Proofs.YtpdjibfcbjknhaaGreatDoor
