/- Requests of the fourth version: spec's bytes. -/
import Derived.Test.YtknhfogblfogaaaHello
import Derived.Test.YtknhfogblfogaaaTagsH
import Derived.Test.YtknhfogblfogaaaTextA
import Derived.Test.YtknhfogblfogaaaLTags
import Derived.Deep.DeepCutAuto
namespace Go.Proofs.Ytknhfogblfogaaa
open Go.RowKit
/-- The numbers of letters. -/
def tb (l : Tx) : List Int := l.map fun c => (c.toNat : Int)
theorem tb_len (l : Tx) : (tb l).length = l.length := by simp [tb]
theorem sb_tb (s : ByteArray) : sb s = tb (tx s) := rfl
def oldBytes (x : Oldq) : List Int := 4 :: x.cmd :: (num2 x.dst.port ++ ((if x.dst.kind = 1 then x.dst.quad else [0, 0, 0, 1]) ++ (tb x.user ++ (0 :: (if x.dst.kind = 3 then tb x.dst.name ++ [0] else [])))))
theorem old_parts {x : Oldq} (h : oldOk x = true) : inB 1 2 x.cmd = true ∧ adrOk x.dst = true ∧ userOk x.user = true := by
  simp only [oldOk, Bool.and_eq_true] at h
  exact ⟨h.1, h.2.1, h.2.2.1⟩
theorem oldBytes_len {x : Oldq} (h : oldOk x = true) : (oldBytes x).length ≤ 40 := by
  obtain ⟨_, h1, h2⟩ := old_parts h
  have h3 := userOk_len h2
  rcases adr_kind h1 with ⟨k, q, _⟩ | ⟨k, m, _⟩
  · have hq := (quad_bytes q).1
    unfold oldBytes
    rw [if_pos k, if_neg (show ¬ x.dst.kind = 3 by omega)]
    simp [tb_len, num2, hq]; omega
  · have hm := nameOk_len m
    unfold oldBytes
    rw [if_neg (show ¬ x.dst.kind = 1 by omega), if_pos k]
    simp [tb_len, num2]; omega
theorem IntO.l4 {w : World} {x y z u : Int} {m : Nat} (hm : m = w.heap.size) : IntO w.heap.size 3 (w.alloc (.cells #[.int .i64 x, .int .i64 y, .int .i64 z, .int .i64 u] 3)) (.slice (some ⟨m, 0, none⟩) 4 4) [x, y, z, u] := by
  subst hm; exact Own.lit w #[.int .i64 x, .int .i64 y, .int .i64 z, .int .i64 u] 4 (Nat.le_refl _) (by decide) rfl
set_option maxRecDepth 20000 in
set_option maxHeartbeats 4000000 in
theorem l4Bytes_c {w : World} {q : Value} {xs : List Int} (c k port : Int) (s u : ByteArray) (hq : IntS w q xs) (hok : oldOk ⟨c, ⟨k, xs, tx s, port⟩, tx u⟩ = true) :
    Calls Try.prog 81 #[.agg #[.int .i64 c, .int .i64 k, q, .string s, .int .i64 port, .string u]] w fun e w' => ∃ v', e = .returned v' ∧ IntO w.heap.size 3 w' v' (oldBytes ⟨c, ⟨k, xs, tx s, port⟩, tx u⟩) ∧ Gr w w' := by
  obtain ⟨p, cap, rfl, _, _⟩ := hq.form
  have hg := gr_alloc w (.cells #[.int .i64 c, .int .i64 k, .slice p xs.length cap, .string s, .int .i64 port, .string u] 81)
  obtain ⟨_, h1, h2⟩ := old_parts hok
  have hul := userOk_len h2
  have hka := adr_kind h1
  have hp := adr_port h1
  simp only [tx_len] at hul hka hp
  have HB : Hid (oldBytes ⟨c, ⟨k, xs, tx s, port⟩, tx u⟩ = 4 :: c :: (num2 port ++ ((if k = 1 then xs else [0, 0, 0, 1]) ++ (sb u ++ (0 :: (if k = 3 then sb s ++ [0] else [])))))) := rfl
  generalize oldBytes ⟨c, ⟨k, xs, tx s, port⟩, tx u⟩ = r at *
  have b0 := boxN (Gr.refl (w.alloc (.cells #[.int .i64 c, .int .i64 k, .slice p xs.length cap, .string s, .int .i64 port, .string u] 81))) 0 rfl
  have b1 := boxN (Gr.refl (w.alloc (.cells #[.int .i64 c, .int .i64 k, .slice p xs.length cap, .string s, .int .i64 port, .string u] 81))) 1 rfl
  have b2 := boxN (Gr.refl (w.alloc (.cells #[.int .i64 c, .int .i64 k, .slice p xs.length cap, .string s, .int .i64 port, .string u] 81))) 2 rfl
  have b3 := boxN (Gr.refl (w.alloc (.cells #[.int .i64 c, .int .i64 k, .slice p xs.length cap, .string s, .int .i64 port, .string u] 81))) 3 rfl
  have b4 := boxN (Gr.refl (w.alloc (.cells #[.int .i64 c, .int .i64 k, .slice p xs.length cap, .string s, .int .i64 port, .string u] 81))) 4 rfl
  have b5 := boxN (Gr.refl (w.alloc (.cells #[.int .i64 c, .int .i64 k, .slice p xs.length cap, .string s, .int .i64 port, .string u] 81))) 5 rfl
  have hqb := hq.kept hg
  clear hok h1 h2
  go_enter Try.func81, Try.ntmps81
  go_upto_region 1 with fail
  generalize hW0 : w.alloc (.cells #[.int .i64 c, .int .i64 k, .slice p xs.length cap, .string s, .int .i64 port, .string u] 81) = w0 at *
  have HW0 := Lib.hid hW0
  clear hW0
  go_cut [3] (fun v wx => IntO w0.heap.size 3 wx v (4 :: c :: num2 port) ∧ Gr w0 wx)
  case first =>
    have hln := num2_len port
    generalize hnn : num2 port = nn at *
    have LN : Hid (∀ W : World, Calls Try.prog 92 #[.int .i64 port, .int .i64 2] W fun e w' => ∃ v', e = .returned v' ∧ IntO W.heap.size 3 w' v' nn ∧ Gr W w') := Lib.hid (fun W => by rw [← hnn]; exact l1Number_c port W (by omega) (by omega))
    clear hnn hka
    go_region_held3 (fun w' => w'.cell? ⟨w.heap.size, 0, none⟩ = some (.int .i64 c) ∧ w'.cell? ⟨w.heap.size, 4, none⟩ = some (.int .i64 port)) (first | (exact ⟨g2.cell b0, g2.cell b4⟩) | (exact ⟨(g1.alloc _).cell b0, (g1.alloc _).cell b4⟩) | (exact ⟨g1.cell b0, g1.cell b4⟩) | go_keep) (first
      | (go_at_call 92; (with_reducible refine (LN.out w0.drew).mono ?_); rintro e w1 ⟨v1, rfl, o1, g1'⟩; have g1 : Gr w0 w1 := g1'.undrew; have gg : True := trivial)
      | (go_at_call 92; (with_reducible refine (LN.out _).mono ?_); rintro e w1 ⟨v1, rfl, o1, g1'⟩; have g1 : Gr w0 w1 := (((Gr.refl w0).drew).alloc _).trans g1')
      | (refine step_appI (B := w0.heap.size) (by rfl) (.tmp 6) (.tmp 10) (by rfl) (by rfl) ((IntO.two (w := w0.drew) (x := 4) (y := c) rfl).kept g1') (by rfl) o1.s (by simp; omega) g1.sz ?_; intro v2 w2 o2 h2; have g2 : Gr w0 w2 := g1.thenB h2)
      | (refine step_appI (B := w1.heap.size) (by rfl) (.tmp 6) (.tmp 10) (by rfl) (by rfl) (IntO.two (w := w1) (x := 4) (y := c) rfl) (by rfl) (o1.s.kept (gr_alloc _ _)) (by simp; omega) (by simp) ?_; intro v2 w2 o2' h2; have o2 := IntO.mono o2' g1.sz; have g2 : Gr w0 w2 := (g1.alloc _).thenB (h2.mono g1.sz)))
    all_goals
      go_wp2_with fail
      go_meet
      exact ⟨o2, g2⟩
  case rest =>
    obtain ⟨o2, g2⟩ := hcut
    have hln := num2_len port
    have hsb := sb_length u
    have hsn := sb_length s
    have hz0 := hg.sz
    by_cases k1 : k = 1
    · have hx4 : xs.length = 4 := by
        rcases hka with ⟨_, h, _⟩ | ⟨h, _⟩
        · exact (quad_bytes h).1
        · omega
      have k1' : (k == 1) = true := by rw [k1]; rfl
      have k3' : (k == 3) = false := beq_eq_false_iff_ne.2 (by omega)
      have HR : Hid (r = 4 :: c :: num2 port ++ xs ++ sb u ++ [0]) := by rw [Hid, HB.out, if_pos k1, if_neg (by omega)]; simp
      have hxl : xs.length ≤ 4 := by omega
      clear hka k1 hx4
      have d1 := g2.cell b1
      have d2 := g2.cell b2
      go_wp2_with (at_builtin; refine wpl_appI rfl (.tmp 16) (.tmp 19) rfl rfl o2 rfl (hqb.kept g2) (by simp; omega) g2.sz ?_; intro v3 w3 o3 h3; have g3 : Gr w0 w3 := g2.thenB h3; have c5 := g3.cell b5)
      (with_reducible refine (l1Text_c _ u (by omega)).mono ?_); rintro e w4 ⟨v4, rfl, o4, g4'⟩
      have g4 := g3.trans g4'
      go_wp2_with (first | (at_builtin; refine wpl_appI rfl (.tmp 24) (.tmp 27) rfl rfl (IntO.kept o3 g4') rfl o4.s (by simp; omega) g4.sz ?_; intro v5 w5 o5 h5; have g5 : Gr w0 w5 := g4.thenB h5) | (at_builtin; refine wpl_appI rfl (.tmp 29) (.tmp 30) rfl rfl (o5.kept (gr_alloc _ _)) rfl (IntO.one _).s (by simp; omega) (by have := g5.sz; simp; omega) ?_; intro v6 w6 o6 h6; have g6 : Gr w0 w6 := (g5.alloc _).thenB h6; have d1' := g6.cell b1))
      go_ret
      exact ⟨_, rfl, by rw [HR.out]; exact IntO.mono o6 hz0, hg.trans g6⟩
    · have hk3 : k = 3 ∧ nameOk (tx s) = true := by
        rcases hka with ⟨h, _⟩ | ⟨h, h2, _⟩
        · omega
        · exact ⟨h, h2⟩
      have hnl := nameOk_len hk3.2
      rw [tx_len] at hnl
      have k1' : (k == 1) = false := beq_eq_false_iff_ne.2 k1
      have k3' : (k == 3) = true := by rw [hk3.1]; rfl
      have HR : Hid (r = 4 :: c :: num2 port ++ [0, 0, 0, 1] ++ sb u ++ [0] ++ sb s ++ [0]) := by rw [Hid, HB.out, if_neg k1, if_pos hk3.1]; simp
      clear hka k1 hk3
      have d1 := g2.cell b1
      go_wp2_with (at_builtin; refine wpl_appI rfl (.tmp 21) (.tmp 22) rfl rfl (IntO.kept o2 (gr_alloc _ _)) rfl (IntO.l4 rfl).s (by simp; omega) (by have := g2.sz; simp; omega) ?_; intro v3 w3 o3 h3; have g3 : Gr w0 w3 := (g2.alloc _).thenB h3; have c5 := g3.cell b5)
      (with_reducible refine (l1Text_c _ u (by omega)).mono ?_); rintro e w4 ⟨v4, rfl, o4, g4'⟩
      have g4 := g3.trans g4'
      go_wp2_with (first | (at_builtin; refine wpl_appI rfl (.tmp 24) (.tmp 27) rfl rfl (IntO.kept o3 g4') rfl o4.s (by simp; omega) g4.sz ?_; intro v5 w5 o5 h5; have g5 : Gr w0 w5 := g4.thenB h5) | (at_builtin; refine wpl_appI rfl (.tmp 29) (.tmp 30) rfl rfl (o5.kept (gr_alloc _ _)) rfl (IntO.one _).s (by simp; omega) (by have := g5.sz; simp; omega) ?_; intro v6 w6 o6 h6; have g6 : Gr w0 w6 := (g5.alloc _).thenB h6; have d1' := g6.cell b1; have d3' := g6.cell b3))
      (with_reducible refine (l1Text_c _ s (by omega)).mono ?_); rintro e w7 ⟨v7, rfl, o7, g7'⟩
      have g7 := g6.trans g7'
      go_wp2_with (first | (at_builtin; refine wpl_appI rfl (.tmp 36) (.tmp 40) rfl rfl (IntO.kept o6 g7') rfl o7.s (by simp; omega) g7.sz ?_; intro v8 w8 o8 h8; have g8 : Gr w0 w8 := g7.thenB h8) | (at_builtin; refine wpl_appI rfl (.tmp 42) (.tmp 43) rfl rfl (o8.kept (gr_alloc _ _)) rfl (IntO.one _).s (by simp; omega) (by have := g8.sz; simp; omega) ?_; intro v9 w9 o9 h9; have g9 : Gr w0 w9 := (g8.alloc _).thenB h9))
      go_ret
      exact ⟨_, rfl, by rw [HR.out]; exact IntO.mono o9 hz0, hg.trans g9⟩
set_option maxHeartbeats 1000000 in
theorem OldBytes_c {w : World} {q : Value} {xs : List Int} (c k port : Int) (s u : ByteArray) (hq : IntS w q xs) (hs : s.size ≤ 1000000) (hu : u.size ≤ 1000000) :
    Calls Try.prog 66 #[.agg #[.int .i64 c, .int .i64 k, q, .string s, .int .i64 port, .string u]] w fun e w' => ∃ v', e = .returned (.tuple #[v', .bool (oldOk ⟨c, ⟨k, xs, tx s, port⟩, tx u⟩)]) ∧ IntO w.heap.size 3 w' v' (if oldOk ⟨c, ⟨k, xs, tx s, port⟩, tx u⟩ = true then oldBytes ⟨c, ⟨k, xs, tx s, port⟩, tx u⟩ else []) ∧ Gr w w' := by
  obtain ⟨p, cap, rfl, _, _⟩ := hq.form
  have hg := gr_alloc w (.cells #[.int .i64 c, .int .i64 k, .slice p xs.length cap, .string s, .int .i64 port, .string u] 81)
  cases hok : oldOk ⟨c, ⟨k, xs, tx s, port⟩, tx u⟩
  · have HOK := Lib.hid hok
    clear hok
    go_enter Try.func66, Try.ntmps66
    go_wp2_with fail
    (with_reducible refine (l4Ok_c c k port s u (hq.kept hg) hs hu).mono ?_); rintro e w1 ⟨rfl, g1⟩
    rw [HOK.out]
    have hG1 := hg.trans g1
    go_wp2
    go_ret2
    exact ⟨_, rfl, (IntO.mt w1).mono hG1.sz, hG1.alloc _⟩
  · have HOK := Lib.hid hok
    clear hok
    go_enter Try.func66, Try.ntmps66
    go_wp2_with fail
    (with_reducible refine (l4Ok_c c k port s u (hq.kept hg) hs hu).mono ?_); rintro e w1 ⟨rfl, g1⟩
    rw [HOK.out]
    have hG1 := hg.trans g1
    have c0 := boxN g1 0 rfl
    have c1 := boxN g1 1 rfl
    have c2 := boxN g1 2 rfl
    have c3 := boxN g1 3 rfl
    have c4 := boxN g1 4 rfl
    have c5 := boxN g1 5 rfl
    go_wp2_with fail
    (with_reducible refine (l4Bytes_c c k port s u (hq.kept hG1) HOK.out).mono ?_); rintro e w2 ⟨v2, rfl, o2, g2⟩
    go_wp2
    go_ret2
    exact ⟨_, rfl, IntO.mono o2 hG1.sz, hG1.trans g2⟩
end Go.Proofs.Ytknhfogblfogaaa
