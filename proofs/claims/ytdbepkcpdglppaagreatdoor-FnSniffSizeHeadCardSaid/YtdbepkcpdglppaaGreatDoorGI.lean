/- Requests of the fourth version: spec's bytes.
Heads: spec's bytes. -/
import Derived.Test.YtdbepkcpdglppaaGreatDoorGE
import Derived.Test.YtdbepkcpdglppaaGreatDoorGC
import Derived.Test.YtdbepkcpdglppaaGreatDoorGH
import Derived.Deep.DeepCutAuto
namespace Go.Proofs.YtdbepkcpdglppaaGreatDoor
open Go.RowKit
/-- The numbers of letters. -/
def tb (l : Tx) : List Int := l.map fun c => (c.toNat : Int)
theorem tb_len (l : Tx) : (tb l).length = l.length := by simp [tb]
theorem sb_tb (s : ByteArray) : sb s = tb (tx s) := rfl
def oldBytes (x : Oldq) : List Int := 4 :: x.cmd :: (num2 x.dst.port ++ ((if x.dst.kind = 1 then x.dst.quad else [0, 0, 0, 1]) ++ (tb x.user ++ (0 :: (if x.dst.kind = 3 then tb x.dst.name ++ [0] else [])))))
theorem old_parts {x : Oldq} (h : oldOk x = true) : inB 1 2 x.cmd = true ∧ adrOk x.dst = true ∧ userOk x.user = true := by
  simp only [oldOk, Bool.and_eq_true] at h
  exact ⟨h.1, h.2.1, h.2.2.1⟩
theorem oldBytes_len {x : Oldq} (h : oldOk x = true) : (oldBytes x).length ≤ 40 := by
  obtain ⟨_, h1, h2⟩ := old_parts h
  have h3 := userOk_len h2
  rcases adr_kind h1 with ⟨k, q, _⟩ | ⟨k, m, _⟩
  · have hq := (quad_bytes q).1
    unfold oldBytes
    rw [if_pos k, if_neg (show ¬ x.dst.kind = 3 by omega)]
    simp [tb_len, num2, hq]; omega
  · have hm := nameOk_len m
    unfold oldBytes
    rw [if_neg (show ¬ x.dst.kind = 1 by omega), if_pos k]
    simp [tb_len, num2]; omega
theorem IntO.l4 {w : World} {x y z u : Int} {m : Nat} (hm : m = w.heap.size) : IntO w.heap.size 3 (w.alloc (.cells #[.int .i64 x, .int .i64 y, .int .i64 z, .int .i64 u] 3)) (.slice (some ⟨m, 0, none⟩) 4 4) [x, y, z, u] := by
  subst hm; exact Own.lit w #[.int .i64 x, .int .i64 y, .int .i64 z, .int .i64 u] 4 (Nat.le_refl _) (by decide) rfl
set_option maxRecDepth 20000 in
set_option maxHeartbeats 4000000 in
theorem l4Bytes_c {w : World} {q : Value} {xs : List Int} (c k port : Int) (s u : ByteArray) (hq : IntS w q xs) (hok : oldOk ⟨c, ⟨k, xs, tx s, port⟩, tx u⟩ = true) :
    Calls Tryz.prog 56 #[.agg #[.int .i64 c, .int .i64 k, q, .string s, .int .i64 port, .string u]] w fun e w' => ∃ v', e = .returned v' ∧ IntO w.heap.size 3 w' v' (oldBytes ⟨c, ⟨k, xs, tx s, port⟩, tx u⟩) ∧ Gr w w' := by
  obtain ⟨p, cap, rfl, _, _⟩ := hq.form
  have hg := gr_alloc w (.cells #[.int .i64 c, .int .i64 k, .slice p xs.length cap, .string s, .int .i64 port, .string u] 39)
  obtain ⟨_, h1, h2⟩ := old_parts hok
  have hul := userOk_len h2
  have hka := adr_kind h1
  have hp := adr_port h1
  simp only [tx_len] at hul hka hp
  have HB : Hid (oldBytes ⟨c, ⟨k, xs, tx s, port⟩, tx u⟩ = 4 :: c :: (num2 port ++ ((if k = 1 then xs else [0, 0, 0, 1]) ++ (sb u ++ (0 :: (if k = 3 then sb s ++ [0] else [])))))) := rfl
  generalize oldBytes ⟨c, ⟨k, xs, tx s, port⟩, tx u⟩ = r at *
  have b0 := boxN (Gr.refl (w.alloc (.cells #[.int .i64 c, .int .i64 k, .slice p xs.length cap, .string s, .int .i64 port, .string u] 39))) 0 rfl
  have b1 := boxN (Gr.refl (w.alloc (.cells #[.int .i64 c, .int .i64 k, .slice p xs.length cap, .string s, .int .i64 port, .string u] 39))) 1 rfl
  have b2 := boxN (Gr.refl (w.alloc (.cells #[.int .i64 c, .int .i64 k, .slice p xs.length cap, .string s, .int .i64 port, .string u] 39))) 2 rfl
  have b3 := boxN (Gr.refl (w.alloc (.cells #[.int .i64 c, .int .i64 k, .slice p xs.length cap, .string s, .int .i64 port, .string u] 39))) 3 rfl
  have b4 := boxN (Gr.refl (w.alloc (.cells #[.int .i64 c, .int .i64 k, .slice p xs.length cap, .string s, .int .i64 port, .string u] 39))) 4 rfl
  have b5 := boxN (Gr.refl (w.alloc (.cells #[.int .i64 c, .int .i64 k, .slice p xs.length cap, .string s, .int .i64 port, .string u] 39))) 5 rfl
  have hqb := hq.kept hg
  clear hok h1 h2
  go_enter Tryz.func56, Tryz.ntmps56
  go_upto_region 1 with fail
  generalize hW0 : w.alloc (.cells #[.int .i64 c, .int .i64 k, .slice p xs.length cap, .string s, .int .i64 port, .string u] 39) = w0 at *
  have HW0 := Lib.hid hW0
  clear hW0
  go_cut [3] (fun v wx => IntO w0.heap.size 3 wx v (4 :: c :: num2 port) ∧ Gr w0 wx)
  case first =>
    have hln := num2_len port
    generalize hnn : num2 port = nn at *
    have LN : Hid (∀ W : World, Calls Tryz.prog 62 #[.int .i64 port, .int .i64 2] W fun e w' => ∃ v', e = .returned v' ∧ IntO W.heap.size 3 w' v' nn ∧ Gr W w') := Lib.hid (fun W => by rw [← hnn]; exact l1Number_c port W (by omega) (by omega))
    clear hnn hka
    go_region_held3 (fun w' => w'.cell? ⟨w.heap.size, 0, none⟩ = some (.int .i64 c) ∧ w'.cell? ⟨w.heap.size, 4, none⟩ = some (.int .i64 port)) (first | (exact ⟨g2.cell b0, g2.cell b4⟩) | (exact ⟨(g1.alloc _).cell b0, (g1.alloc _).cell b4⟩) | (exact ⟨g1.cell b0, g1.cell b4⟩) | go_keep) (first
      | (go_at_call 62; (with_reducible refine (LN.out w0.drew).mono ?_); rintro e w1 ⟨v1, rfl, o1, g1'⟩; have g1 : Gr w0 w1 := g1'.undrew; have gg : True := trivial)
      | (go_at_call 62; (with_reducible refine (LN.out _).mono ?_); rintro e w1 ⟨v1, rfl, o1, g1'⟩; have g1 : Gr w0 w1 := (((Gr.refl w0).drew).alloc _).trans g1')
      | (refine step_appI (B := w0.heap.size) (by rfl) (.tmp 6) (.tmp 10) (by rfl) (by rfl) ((IntO.two (w := w0.drew) (x := 4) (y := c) rfl).kept g1') (by rfl) o1.s (by simp; omega) g1.sz ?_; intro v2 w2 o2 h2; have g2 : Gr w0 w2 := g1.thenB h2)
      | (refine step_appI (B := w1.heap.size) (by rfl) (.tmp 6) (.tmp 10) (by rfl) (by rfl) (IntO.two (w := w1) (x := 4) (y := c) rfl) (by rfl) (o1.s.kept (gr_alloc _ _)) (by simp; omega) (by simp) ?_; intro v2 w2 o2' h2; have o2 := IntO.mono o2' g1.sz; have g2 : Gr w0 w2 := (g1.alloc _).thenB (h2.mono g1.sz)))
    all_goals
      go_wp2_with fail
      go_meet
      exact ⟨o2, g2⟩
  case rest =>
    obtain ⟨o2, g2⟩ := hcut
    have hln := num2_len port
    have hsb := sb_length u
    have hsn := sb_length s
    have hz0 := hg.sz
    by_cases k1 : k = 1
    · have hx4 : xs.length = 4 := by
        rcases hka with ⟨_, h, _⟩ | ⟨h, _⟩
        · exact (quad_bytes h).1
        · omega
      have k1' : (k == 1) = true := by rw [k1]; rfl
      have k3' : (k == 3) = false := beq_eq_false_iff_ne.2 (by omega)
      have HR : Hid (r = 4 :: c :: num2 port ++ xs ++ sb u ++ [0]) := by rw [Hid, HB.out, if_pos k1, if_neg (by omega)]; simp
      have hxl : xs.length ≤ 4 := by omega
      clear hka k1 hx4
      have d1 := g2.cell b1
      have d2 := g2.cell b2
      go_wp2_with (at_builtin; refine wpl_appI rfl (.tmp 16) (.tmp 19) rfl rfl o2 rfl (hqb.kept g2) (by simp; omega) g2.sz ?_; intro v3 w3 o3 h3; have g3 : Gr w0 w3 := g2.thenB h3; have c5 := g3.cell b5)
      (with_reducible refine (l1Text_c _ u (by omega)).mono ?_); rintro e w4 ⟨v4, rfl, o4, g4'⟩
      have g4 := g3.trans g4'
      go_wp2_with (first | (at_builtin; refine wpl_appI rfl (.tmp 24) (.tmp 27) rfl rfl (IntO.kept o3 g4') rfl o4.s (by simp; omega) g4.sz ?_; intro v5 w5 o5 h5; have g5 : Gr w0 w5 := g4.thenB h5) | (at_builtin; refine wpl_appI rfl (.tmp 29) (.tmp 30) rfl rfl (o5.kept (gr_alloc _ _)) rfl (IntO.one _).s (by simp; omega) (by have := g5.sz; simp; omega) ?_; intro v6 w6 o6 h6; have g6 : Gr w0 w6 := (g5.alloc _).thenB h6; have d1' := g6.cell b1))
      go_ret
      exact ⟨_, rfl, by rw [HR.out]; exact IntO.mono o6 hz0, hg.trans g6⟩
    · have hk3 : k = 3 ∧ nameOk (tx s) = true := by
        rcases hka with ⟨h, _⟩ | ⟨h, h2, _⟩
        · omega
        · exact ⟨h, h2⟩
      have hnl := nameOk_len hk3.2
      rw [tx_len] at hnl
      have k1' : (k == 1) = false := beq_eq_false_iff_ne.2 k1
      have k3' : (k == 3) = true := by rw [hk3.1]; rfl
      have HR : Hid (r = 4 :: c :: num2 port ++ [0, 0, 0, 1] ++ sb u ++ [0] ++ sb s ++ [0]) := by rw [Hid, HB.out, if_neg k1, if_pos hk3.1]; simp
      clear hka k1 hk3
      have d1 := g2.cell b1
      go_wp2_with (at_builtin; refine wpl_appI rfl (.tmp 21) (.tmp 22) rfl rfl (IntO.kept o2 (gr_alloc _ _)) rfl (IntO.l4 rfl).s (by simp; omega) (by have := g2.sz; simp; omega) ?_; intro v3 w3 o3 h3; have g3 : Gr w0 w3 := (g2.alloc _).thenB h3; have c5 := g3.cell b5)
      (with_reducible refine (l1Text_c _ u (by omega)).mono ?_); rintro e w4 ⟨v4, rfl, o4, g4'⟩
      have g4 := g3.trans g4'
      go_wp2_with (first | (at_builtin; refine wpl_appI rfl (.tmp 24) (.tmp 27) rfl rfl (IntO.kept o3 g4') rfl o4.s (by simp; omega) g4.sz ?_; intro v5 w5 o5 h5; have g5 : Gr w0 w5 := g4.thenB h5) | (at_builtin; refine wpl_appI rfl (.tmp 29) (.tmp 30) rfl rfl (o5.kept (gr_alloc _ _)) rfl (IntO.one _).s (by simp; omega) (by have := g5.sz; simp; omega) ?_; intro v6 w6 o6 h6; have g6 : Gr w0 w6 := (g5.alloc _).thenB h6; have d1' := g6.cell b1; have d3' := g6.cell b3))
      (with_reducible refine (l1Text_c _ s (by omega)).mono ?_); rintro e w7 ⟨v7, rfl, o7, g7'⟩
      have g7 := g6.trans g7'
      go_wp2_with (first | (at_builtin; refine wpl_appI rfl (.tmp 36) (.tmp 40) rfl rfl (IntO.kept o6 g7') rfl o7.s (by simp; omega) g7.sz ?_; intro v8 w8 o8 h8; have g8 : Gr w0 w8 := g7.thenB h8) | (at_builtin; refine wpl_appI rfl (.tmp 42) (.tmp 43) rfl rfl (o8.kept (gr_alloc _ _)) rfl (IntO.one _).s (by simp; omega) (by have := g8.sz; simp; omega) ?_; intro v9 w9 o9 h9; have g9 : Gr w0 w9 := (g8.alloc _).thenB h9))
      go_ret
      exact ⟨_, rfl, by rw [HR.out]; exact IntO.mono o9 hz0, hg.trans g9⟩
set_option maxHeartbeats 1000000 in
theorem OldBytes_c {w : World} {q : Value} {xs : List Int} (c k port : Int) (s u : ByteArray) (hq : IntS w q xs) (hs : s.size ≤ 2000000) (hu : u.size ≤ 2000000) :
    Calls Tryz.prog 21 #[.agg #[.int .i64 c, .int .i64 k, q, .string s, .int .i64 port, .string u]] w fun e w' => ∃ v', e = .returned (.tuple #[v', .bool (oldOk ⟨c, ⟨k, xs, tx s, port⟩, tx u⟩)]) ∧ IntO w.heap.size 3 w' v' (if oldOk ⟨c, ⟨k, xs, tx s, port⟩, tx u⟩ = true then oldBytes ⟨c, ⟨k, xs, tx s, port⟩, tx u⟩ else []) ∧ Gr w w' := by
  obtain ⟨p, cap, rfl, _, _⟩ := hq.form
  have hg := gr_alloc w (.cells #[.int .i64 c, .int .i64 k, .slice p xs.length cap, .string s, .int .i64 port, .string u] 39)
  cases hok : oldOk ⟨c, ⟨k, xs, tx s, port⟩, tx u⟩
  · have HOK := Lib.hid hok
    clear hok
    go_enter Tryz.func21, Tryz.ntmps21
    go_wp2_with fail
    (with_reducible refine (l4Ok_c c k port s u (hq.kept hg) hs hu).mono ?_); rintro e w1 ⟨rfl, g1⟩
    rw [HOK.out]
    have hG1 := hg.trans g1
    go_wp2
    go_ret2
    exact ⟨_, rfl, (IntO.mt w1).mono hG1.sz, hG1.alloc _⟩
  · have HOK := Lib.hid hok
    clear hok
    go_enter Tryz.func21, Tryz.ntmps21
    go_wp2_with fail
    (with_reducible refine (l4Ok_c c k port s u (hq.kept hg) hs hu).mono ?_); rintro e w1 ⟨rfl, g1⟩
    rw [HOK.out]
    have hG1 := hg.trans g1
    have c0 := boxN g1 0 rfl
    have c1 := boxN g1 1 rfl
    have c2 := boxN g1 2 rfl
    have c3 := boxN g1 3 rfl
    have c4 := boxN g1 4 rfl
    have c5 := boxN g1 5 rfl
    go_wp2_with fail
    (with_reducible refine (l4Bytes_c c k port s u (hq.kept hG1) HOK.out).mono ?_); rintro e w2 ⟨v2, rfl, o2, g2⟩
    go_wp2
    go_ret2
    exact ⟨_, rfl, IntO.mono o2 hG1.sz, hG1.trans g2⟩
end Go.Proofs.YtdbepkcpdglppaaGreatDoor
namespace Go.Proofs.YtdbepkcpdglppaaGreatDoor
open Go.RowKit
def headBody (p : Par) (ts : List Tag) : List Int := p.src.quad ++ p.dst.quad ++ num2 p.src.port ++ num2 p.dst.port ++ tagsBytes ts
/-- A head. -/
def headBytes (p : Par) (ts : List Tag) : List Int := headStart ++ num2 (headBody p ts).length ++ headBody p ts
def headOk (p : Par) (ts : List Tag) : Bool := parOk p && tagsOk ts
theorem headBody_len {p : Par} {ts : List Tag} (h : headOk p ts = true) : (headBody p ts).length = 12 + (tagsBytes ts).length ∧ (tagsBytes ts).length ≤ 76 := by
  simp only [headOk, Bool.and_eq_true] at h
  obtain ⟨_, _, _, _, q1, q2, _⟩ := par_parts h.1
  have e1 := (quad_bytes q1).1
  have e2 := (quad_bytes q2).1
  have e3 := tagsBytes_len h.2 ts.length
  rw [List.take_length] at e3
  exact ⟨by simp [headBody, num2, e1, e2]; omega, e3⟩
theorem headStart_len : headStart.length = 14 := rfl
theorem headBytes_len {p : Par} {ts : List Tag} (h : headOk p ts = true) : (headBytes p ts).length = 28 + (tagsBytes ts).length := by
  have := (headBody_len h).1
  simp [headBytes, headStart_len, num2, this]; omega
theorem IntB.keptW {B T T' e : Nat} {w w' : World} {v : Value} {xs : List Int} (h : IntB B T e w v xs) (hb : Below T' w w') (hT : T ≤ T') : IntB B T e w' v xs := by
  refine ⟨?_, h.2⟩
  rcases h.1 with ⟨h1, h2 | ⟨g, cap, cur, h3, h4, h5, h6⟩⟩
  · exact ⟨h1, .inl h2⟩
  · have hlt := h.2 g (by rw [h3]; rfl)
    exact ⟨h1, .inr ⟨g, cap, cur, h3, h4, by rw [hb.block g (by omega)]; exact h5, h6⟩⟩
theorem specl16Ok_t {w : World} {v : Value} {ts : List Tag} (h : TagS w v ts) (hok : Hid (tagsOk ts = true)) :
    Calls Tryz.prog 61 #[v] w fun e w' => e = .returned (.bool true) ∧ w = w' := by
  have := specl16Ok_c h
  rw [hok.out] at this
  exact this
theorem specl16Ok_f {w : World} {v : Value} {ts : List Tag} (h : TagS w v ts) (hok : Hid (tagsOk ts = false)) :
    Calls Tryz.prog 61 #[v] w fun e w' => e = .returned (.bool false) ∧ w = w' := by
  have := specl16Ok_c h
  rw [hok.out] at this
  exact this
set_option maxRecDepth 20000 in
set_option maxHeartbeats 4000000 in
theorem specHeadBytes_t {w : World} {q q' v : Value} {xs ys : List Int} {ts : List Tag} (k port k' port' : Int) (s s' : ByteArray) (hq : IntS w q xs) (hq' : IntS w q' ys) (hs : s.size ≤ 2000000) (hs' : s'.size ≤ 2000000) (ht : TagS w v ts) (hok : Hid (headOk ⟨⟨k, xs, tx s, port⟩, ⟨k', ys, tx s', port'⟩⟩ ts = true)) :
    Calls Tryz.prog 25 #[.agg #[.int .i64 k, q, .string s, .int .i64 port, .int .i64 k', q', .string s', .int .i64 port'], v] w fun e w' => ∃ v', e = .returned (.tuple #[v', .bool true]) ∧ IntO w.heap.size 3 w' v' (headBytes ⟨⟨k, xs, tx s, port⟩, ⟨k', ys, tx s', port'⟩⟩ ts) ∧ Gr w w' := by
  obtain ⟨p, cap, rfl, _, _⟩ := hq.form
  obtain ⟨p', cap', rfl, _, _⟩ := hq'.form
  obtain ⟨pv, cv, rfl, _, _⟩ := ht.form
  have hg := gr_alloc w (.cells #[.int .i64 k, .slice p xs.length cap, .string s, .int .i64 port, .int .i64 k', .slice p' ys.length cap', .string s', .int .i64 port'] 27)
  have hl := headBody_len hok.out
  have HB : Hid (headBytes ⟨⟨k, xs, tx s, port⟩, ⟨k', ys, tx s', port'⟩⟩ ts = headStart ++ num2 (xs ++ ys ++ num2 port ++ num2 port' ++ tagsBytes ts).length ++ (xs ++ ys ++ num2 port ++ num2 port' ++ tagsBytes ts)) := rfl
  have hbd : (xs ++ ys ++ num2 port ++ num2 port' ++ tagsBytes ts).length = 12 + (tagsBytes ts).length := hl.1
  have htl := hl.2
  have hx2 := hok.out
  simp only [headOk, Bool.and_eq_true] at hx2
  have PO := Lib.hid hx2.1
  have TO := Lib.hid hx2.2
  obtain ⟨a1, a2, hk1, hk2, q1, q2, hn1, hn2⟩ := par_parts hx2.1
  have p1 := adr_port a1
  have p2 := adr_port a2
  have e1 := (quad_bytes q1).1
  have e2 := (quad_bytes q2).1
  simp only [] at p1 p2 e1 e2
  have l1 : xs.length ≤ 4 := by omega
  have l2 : ys.length ≤ 4 := by omega
  have n1 := num2_len port
  have n2 := num2_len port'
  have tbl : (tagsBytes ts).length ≤ 76 := htl
  have L16 : Hid (∀ W : World, TagS W (.slice pv ts.length cv) ts → Calls Tryz.prog 63 #[.slice pv ts.length cv] W fun e w' => ∃ v', e = .returned v' ∧ IntO W.heap.size 3 w' v' (tagsBytes ts) ∧ Gr W w') := Lib.hid (fun W hW => l16Bytes_c hW hx2.2)
  generalize headBytes ⟨⟨k, xs, tx s, port⟩, ⟨k', ys, tx s', port'⟩⟩ ts = r at *
  have LN1 := Lib.hid (fun W => l1Number_c port W (by omega) (by omega))
  have LN2 := Lib.hid (fun W => l1Number_c port' W (by omega) (by omega))
  generalize num2 port = m1 at *
  generalize num2 port' = m2 at *
  generalize tagsBytes ts = tt at *
  have HL1 := Lib.hid e1
  clear hx2 hl a1 a2 hk1 hk2 q1 q2 hn1 hn2 e1 e2 hok htl
  have hz0 := hg.sz
  go_enter Tryz.func25, Tryz.ntmps25
  go_wp2_with fail
  (with_reducible refine (PairValid_c k port k' port' s s' (hq.kept hg) (hq'.kept hg) hs hs').mono ?_); rintro e w1 ⟨rfl, g1⟩
  rw [PO.out]
  have hG1 := hg.trans g1
  have hz1 := hG1.sz
  go_wp2_with fail
  (with_reducible refine (specl16Ok_t (ht.kept hG1) TO).mono ?_); rintro e w2 ⟨rfl, rfl⟩
  have c1 := boxN g1 1 rfl
  have c3 := boxN g1 3 rfl
  have c5 := boxN g1 5 rfl
  have c7 := boxN g1 7 rfl
  have hqb := hq.kept hG1
  have hqb' := hq'.kept hG1
  go_upto_region 3 with fail
  go_cut [6] (fun u wx => IntO w1.heap.size 3 wx u (xs ++ ys) ∧ Gr w1 wx)
  case first =>
    go_region_held3 (fun w' => w'.cell? ⟨w.heap.size, 1, none⟩ = some (.slice p xs.length cap) ∧ w'.cell? ⟨w.heap.size, 5, none⟩ = some (.slice p' ys.length cap')) (first | (exact ⟨g4.cell c1, g4.cell c5⟩) | (exact ⟨g3.cell c1, g3.cell c5⟩) | (exact ⟨((gr_alloc w1.drew _).undrew).cell c1, ((gr_alloc w1.drew _).undrew).cell c5⟩) | go_keep) (first
      | (refine step_appI (B := w1.heap.size) (by rfl) (.tmp 16) (.tmp 19) (by rfl) (by rfl) (IntO.mt w1.drew) (by rfl) (hqb.kept ((gr_alloc w1.drew _).undrew)) (by simp; omega) (by simp) ?_; intro v3 w3 o3 h3; have g3 : Gr w1 w3 := ((gr_alloc w1.drew _).undrew).thenB h3)
      | (refine step_appI (B := w1.heap.size) (by rfl) (.tmp 20) (.tmp 23) (by rfl) (by rfl) o3 (by rfl) (hqb'.kept g3) (by simp; omega) g3.sz ?_; intro v4 w4 o4 h4; have g4 : Gr w1 w4 := g3.thenB h4))
    all_goals
      go_wp2_with fail
      go_meet
      exact ⟨by simpa using o4, g4⟩
  case rest =>
    obtain ⟨o4, g4⟩ := hcut
    have d3 := g4.cell c3
    (go_wp2_with fail); (with_reducible refine (LN1.out _).mono ?_); rintro e w5 ⟨v5, rfl, o5, g5'⟩
    have g5 := g4.trans g5'
    go_wp2_with (at_builtin; refine wpl_appI rfl (.tmp 25) (.tmp 29) rfl rfl (IntO.kept o4 g5') rfl o5.s (by simp; omega) g5.sz ?_; intro v6 w6 o6 h6; have g6 : Gr w1 w6 := g5.thenB h6; have d7 := g6.cell c7)
    (with_reducible refine (LN2.out _).mono ?_); rintro e w7 ⟨v7, rfl, o7, g7'⟩
    have g7 := g6.trans g7'
    go_wp2_with (at_builtin; refine wpl_appI rfl (.tmp 31) (.tmp 35) rfl rfl (IntO.kept o6 g7') rfl o7.s (by simp; omega) g7.sz ?_; intro v8 w8 o8 h8; have g8 : Gr w1 w8 := g7.thenB h8)
    (with_reducible refine (L16.out _ (ht.kept (hG1.trans g8))).mono ?_); rintro e w9 ⟨v9, rfl, o9, g9'⟩
    have g9 := g8.trans g9'
    go_wp2_with (at_builtin; refine wpl_appI rfl (.tmp 37) (.tmp 39) rfl rfl (IntO.kept o8 g9') rfl o9.s (by simp; omega) g9.sz ?_; intro v10 w10 o10 h10; have g10 : Gr w1 w10 := g9.thenB h10)
    have HBD := Lib.hid hbd
    clear hbd
    generalize xs ++ ys ++ m1 ++ m2 ++ tt = body at *
    have hbl : body.length ≤ 100 := by have := HBD.out; omega
    obtain ⟨pb, cb, rfl⟩ := IntO.len o10
    (with_reducible refine (l16Begin_c _).mono ?_); rintro e w11 ⟨v11, rfl, o11, g11'⟩
    have g11 := g10.trans g11'
    (go_wp2_with fail); (with_reducible refine (l1Number_c _ _ (by omega) (by omega)).mono ?_); rintro e w12 ⟨v12, rfl, o12, g12'⟩
    have g12 := g11.trans g12'
    have hh := headStart_len
    have hn := num2_len (body.length : Int)
    generalize num2 (body.length : Int) = nb at *
    generalize headStart = hst at *
    have z10 := g10.sz
    have b12 := ((IntO.b o10).kept g11').kept g12'
    go_wp2_with (first | (at_builtin; refine wpl_appI rfl (.tmp 41) (.tmp 44) rfl rfl (IntO.kept o11 g12') rfl o12.s (by omega) (by have := g11'.sz; have := g12'.sz; omega) ?_; intro v13 w13 o13 h13; have g13 : Gr w1 w13 := g12.thenB (h13.mono z10); have b13 := b12.keptW h13 (Nat.le_refl _)) | (at_builtin; refine wpl_appI rfl (.tmp 45) (.tmp 46) rfl rfl o13 rfl b13.s (by simp; omega) (by have := g11'.sz; have := g12'.sz; have := h13.size; omega) ?_; intro v14 w14 o14 h14; have g14 : Gr w1 w14 := g13.thenB (h14.mono z10)))
    go_ret2
    exact ⟨_, rfl, by rw [HB.out]; exact IntO.mono o14 (Nat.le_trans hz1 z10), hG1.trans g14⟩
end Go.Proofs.YtdbepkcpdglppaaGreatDoor
