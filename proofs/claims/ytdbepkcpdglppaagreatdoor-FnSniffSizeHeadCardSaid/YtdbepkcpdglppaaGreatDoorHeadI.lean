/- impl: the head of a pair and of tags; numbers as bytes. -/
import Derived.Test.YtdbepkcpdglppaaGreatDoorNameI
import Derived.Test.YtdbepkcpdglppaaGreatDoorGI
import Derived.Test.YtdbepkcpdglppaaGreatDoorGC
import Derived.Deep.RegionHeld3
namespace Go.Proofs.YtdbepkcpdglppaaGreatDoor
open Go.RowKit
theorem IntSS.lit5 {w : World} {a b c d f : Value} {xs ys zs us ts : List Int} (ha : IntS w a xs) (hb : IntS w b ys) (hc : IntS w c zs) (hd : IntS w d us) (hf : IntS w f ts) {n : Nat} (hn : n = w.heap.size) :
    IntSS (w.alloc (.cells #[a, b, c, d, f] 23)) (.slice (some ⟨n, 0, none⟩) 5 5) [xs, ys, zs, us, ts] := by
  subst hn
  refine ⟨[a, b, c, d, f], (Own.lit (B := w.heap.size) w #[a, b, c, d, f] 5 (Nat.le_refl _) (by decide) rfl).row, fun k hk => ?_⟩
  have hg : Gr w (w.alloc (.cells #[a, b, c, d, f] 23)) := (Gr.refl w).alloc _
  match k, hk with
  | 0, _ => exact ha.kept hg
  | 1, _ => exact hb.kept hg
  | 2, _ => exact hc.kept hg
  | 3, _ => exact hd.kept hg
  | 4, _ => exact hf.kept hg
theorem areTags_t {w : World} {v : Value} {ts : List Tag} (h : TagS w v ts) (hok : Hid (tagsOk ts = true)) :
    Calls Tryz.prog 58 #[v] w fun e w' => e = .returned (.bool true) ∧ Gr w w' := by
  have := areTags_c h
  rw [hok.out] at this
  exact this
theorem areTags_f {w : World} {v : Value} {ts : List Tag} (h : TagS w v ts) (hok : Hid (tagsOk ts = false)) :
    Calls Tryz.prog 58 #[v] w fun e w' => e = .returned (.bool false) ∧ Gr w w' := by
  have := areTags_c h
  rw [hok.out] at this
  exact this
set_option maxRecDepth 20000 in
set_option maxHeartbeats 4000000 in
theorem implHeadBytes_t {w : World} {q q' v : Value} {xs ys : List Int} {ts : List Tag} (hm : ML w) (k port k' port' : Int) (s s' : ByteArray) (hq : IntS w q xs) (hq' : IntS w q' ys) (hs : s.size ≤ 2000000) (hs' : s'.size ≤ 2000000) (ht : TagS w v ts) (hok : Hid (headOk ⟨⟨k, xs, tx s, port⟩, ⟨k', ys, tx s', port'⟩⟩ ts = true)) :
    Calls Tryz.prog 24 #[.agg #[.int .i64 k, q, .string s, .int .i64 port, .int .i64 k', q', .string s', .int .i64 port'], v] w fun e w' => ∃ v', e = .returned (.tuple #[v', .bool true]) ∧ IntO w.heap.size 3 w' v' (headBytes ⟨⟨k, xs, tx s, port⟩, ⟨k', ys, tx s', port'⟩⟩ ts) ∧ Gr w w' := by
  obtain ⟨p, cap, rfl, _, _⟩ := hq.form
  obtain ⟨p', cap', rfl, _, _⟩ := hq'.form
  obtain ⟨pv, cv, rfl, _, _⟩ := ht.form
  have hg := gr_alloc w (.cells #[.int .i64 k, .slice p xs.length cap, .string s, .int .i64 port, .int .i64 k', .slice p' ys.length cap', .string s', .int .i64 port'] 27)
  have hl := headBody_len hok.out
  have ebody : [xs, ys, num2 port, num2 port', tagsBytes ts].flatten = headBody ⟨⟨k, xs, tx s, port⟩, ⟨k', ys, tx s', port'⟩⟩ ts := by simp [headBody]
  have HB : Hid (headBytes ⟨⟨k, xs, tx s, port⟩, ⟨k', ys, tx s', port'⟩⟩ ts = [headStart, num2 (([xs, ys, num2 port, num2 port', tagsBytes ts].flatten).length : Int), [xs, ys, num2 port, num2 port', tagsBytes ts].flatten].flatten) := by rw [Hid, ebody]; simp [headBytes]
  have hbl : ([xs, ys, num2 port, num2 port', tagsBytes ts].flatten).length ≤ 88 := by rw [ebody]; omega
  have hx2 := hok.out
  simp only [headOk, Bool.and_eq_true] at hx2
  have PO := Lib.hid hx2.1
  have TO := Lib.hid hx2.2
  have LN1 := Lib.hid (fun W => numberBytes_c port W)
  have LN2 := Lib.hid (fun W => numberBytes_c port' W)
  have LT := Lib.hid (fun (W : World) (hW : TagS W (.slice pv ts.length cv) ts) => tagsBytes_c hW hx2.2)
  generalize headBytes ⟨⟨k, xs, tx s, port⟩, ⟨k', ys, tx s', port'⟩⟩ ts = r at *
  generalize num2 port = m1 at *
  generalize num2 port' = m2 at *
  generalize tagsBytes ts = tt at *
  have HT : Hid (total [xs, ys, m1, m2, tt] ≤ 1000) := Lib.hid (by unfold total; omega)
  have HBL := Lib.hid hbl
  clear hx2 hl ebody hok hbl
  go_enter Tryz.func24, Tryz.ntmps24
  go_wp2_with fail
  (with_reducible refine (implPairValid_c (hm.kept hg) k port k' port' s s' (hq.kept hg) (hq'.kept hg) hs hs').mono ?_); rintro e w0 ⟨rfl, g0⟩
  rw [PO.out]
  have hG0 := hg.trans g0
  go_wp2_with fail
  (with_reducible refine (areTags_t (ht.kept hG0) TO).mono ?_); rintro e w1 ⟨rfl, g1'⟩
  have g1 := g0.trans g1'
  have hG1 := hg.trans g1
  have c1 := boxN g1 1 rfl
  have c3 := boxN g1 3 rfl
  have c5 := boxN g1 5 rfl
  have c7 := boxN g1 7 rfl
  have hqb := hq.kept hG1
  have hqb' := hq'.kept hG1
  have htb := ht.kept hG1
  clear g0 hG0 g1' g1
  go_wp2_with fail
  go_region_held3 (fun w' => w'.cell? ⟨w.heap.size, 1, none⟩ = some (.slice p xs.length cap) ∧ w'.cell? ⟨w.heap.size, 3, none⟩ = some (.int .i64 port) ∧ w'.cell? ⟨w.heap.size, 5, none⟩ = some (.slice p' ys.length cap') ∧ w'.cell? ⟨w.heap.size, 7, none⟩ = some (.int .i64 port')) (first | (exact ⟨g5.cell c1, g5.cell c3, g5.cell c5, g5.cell c7⟩) | (exact ⟨g4.cell c1, g4.cell c3, g4.cell c5, g4.cell c7⟩) | (exact ⟨g3.cell c1, g3.cell c3, g3.cell c5, g3.cell c7⟩) | (exact ⟨g2.cell c1, g2.cell c3, g2.cell c5, g2.cell c7⟩) | go_keep) (first
    | (go_at_call 54; (with_reducible refine (LN1.out _).mono ?_); rintro e w2 ⟨v2, rfl, o2, g2'⟩; have g2 : Gr w1 w2 := g2'.undrew; obtain ⟨p2, c2, rfl⟩ := o2.len)
    | (go_at_call 54; (with_reducible refine (LN2.out _).mono ?_); rintro e w3 ⟨v3, rfl, o3, g3'⟩; have g3 : Gr w1 w3 := g2.trans g3'; obtain ⟨p3, c3', rfl⟩ := o3.len)
    | (go_at_call 60; (with_reducible refine (LT.out _ (htb.kept g3)).mono ?_); rintro e w4 ⟨v4, rfl, o4, g4'⟩; have g4 : Gr w1 w4 := g3.trans g4'; obtain ⟨p4, c4, rfl⟩ := o4.len)
    | (go_at_call 59; (with_reducible refine (Concat_c (IntSS.lit5 (hqb.kept g4) (hqb'.kept g4) (o2.s.kept (g3'.trans g4')) (o3.s.kept g4') o4.s (by rfl)) (Nat.le_trans HT.out (by decide))).mono ?_); rintro e w5 ⟨v5, rfl, o5, g5'⟩; have g5 : Gr w1 w5 := (g4.alloc _).trans g5'; have n5 := o5.len))
  obtain ⟨p5, c5', rfl⟩ := n5
  generalize [xs, ys, m1, m2, tt].flatten = body at *
  have hb5 : (body.length : Int) ≤ 88 := by have := HBL.out; omega
  go_wp2_with (first
    | (go_at_call 45; (with_reducible refine (headStart_c _).mono ?_); rintro e w6 ⟨v6, rfl, o6, g6⟩; obtain ⟨p6, c6, rfl⟩ := o6.len)
    | (go_at_call 54; (with_reducible refine (numberBytes_c _ _).mono ?_); rintro e w7 ⟨v7, rfl, o7, g7⟩; obtain ⟨p7, c7', rfl⟩ := o7.len)
    | (go_at_call 59; (with_reducible refine (Concat_c (IntSS.lit3 (o6.s.kept g7) o7.s (o5.s.kept (g6.trans g7))) (by simp [total, headStart_len, num2_len]; omega)).mono ?_); rintro e w8 ⟨v8, rfl, o8, g8⟩))
  go_ret2
  have hz := (g5.trans g6).trans g7
  have hG8 : Gr w1 w8 := (hz.alloc _).trans g8
  exact ⟨_, rfl, by rw [HB.out]; exact IntO.mono o8 (Nat.le_trans (hG1.trans hz).sz (gr_alloc _ _).sz), hG1.trans hG8⟩
set_option maxHeartbeats 1000000 in
theorem implHeadBytes_f {w : World} {q q' v : Value} {xs ys : List Int} {ts : List Tag} (hm : ML w) (k port k' port' : Int) (s s' : ByteArray) (hq : IntS w q xs) (hq' : IntS w q' ys) (hs : s.size ≤ 2000000) (hs' : s'.size ≤ 2000000) (ht : TagS w v ts) (hok : Hid (headOk ⟨⟨k, xs, tx s, port⟩, ⟨k', ys, tx s', port'⟩⟩ ts = false)) :
    Calls Tryz.prog 24 #[.agg #[.int .i64 k, q, .string s, .int .i64 port, .int .i64 k', q', .string s', .int .i64 port'], v] w fun e w' => ∃ v', e = .returned (.tuple #[v', .bool false]) ∧ IntO w.heap.size 3 w' v' [] ∧ Gr w w' := by
  obtain ⟨p, cap, rfl, _, _⟩ := hq.form
  obtain ⟨p', cap', rfl, _, _⟩ := hq'.form
  obtain ⟨pv, cv, rfl, _, _⟩ := ht.form
  have hg := gr_alloc w (.cells #[.int .i64 k, .slice p xs.length cap, .string s, .int .i64 port, .int .i64 k', .slice p' ys.length cap', .string s', .int .i64 port'] 27)
  have hx := hok.out
  unfold headOk at hx
  cases hp : parOk ⟨⟨k, xs, tx s, port⟩, ⟨k', ys, tx s', port'⟩⟩
  · have PO := Lib.hid hp
    clear hp hx hok
    go_enter Tryz.func24, Tryz.ntmps24
    go_wp2_with fail
    (with_reducible refine (implPairValid_c (hm.kept hg) k port k' port' s s' (hq.kept hg) (hq'.kept hg) hs hs').mono ?_); rintro e w1 ⟨rfl, g1⟩
    rw [PO.out]
    go_wp2
    go_ret2
    exact ⟨_, rfl, IntO.nil _ _ _, hg.trans g1⟩
  · have PO := Lib.hid hp
    have TO : Hid (tagsOk ts = false) := Lib.hid (by rw [hp] at hx; simpa using hx)
    clear hp hx hok
    go_enter Tryz.func24, Tryz.ntmps24
    go_wp2_with fail
    (with_reducible refine (implPairValid_c (hm.kept hg) k port k' port' s s' (hq.kept hg) (hq'.kept hg) hs hs').mono ?_); rintro e w1 ⟨rfl, g1⟩
    rw [PO.out]
    have hG1 := hg.trans g1
    go_wp2_with fail
    (with_reducible refine (areTags_f (ht.kept hG1) TO).mono ?_); rintro e w2 ⟨rfl, g2⟩
    go_wp2
    go_ret2
    exact ⟨_, rfl, IntO.nil _ _ _, hG1.trans g2⟩
theorem implHeadBytes_c {w : World} {q q' v : Value} {xs ys : List Int} {ts : List Tag} (hm : ML w) (k port k' port' : Int) (s s' : ByteArray) (hq : IntS w q xs) (hq' : IntS w q' ys) (hs : s.size ≤ 2000000) (hs' : s'.size ≤ 2000000) (ht : TagS w v ts) :
    Calls Tryz.prog 24 #[.agg #[.int .i64 k, q, .string s, .int .i64 port, .int .i64 k', q', .string s', .int .i64 port'], v] w fun e w' => ∃ v', e = .returned (.tuple #[v', .bool (headOk ⟨⟨k, xs, tx s, port⟩, ⟨k', ys, tx s', port'⟩⟩ ts)]) ∧ IntO w.heap.size 3 w' v' (if headOk ⟨⟨k, xs, tx s, port⟩, ⟨k', ys, tx s', port'⟩⟩ ts = true then headBytes ⟨⟨k, xs, tx s, port⟩, ⟨k', ys, tx s', port'⟩⟩ ts else []) ∧ Gr w w' := by
  cases hok : headOk ⟨⟨k, xs, tx s, port⟩, ⟨k', ys, tx s', port'⟩⟩ ts
  · exact implHeadBytes_f hm k port k' port' s s' hq hq' hs hs' ht hok
  · exact implHeadBytes_t hm k port k' port' s s' hq hq' hs hs' ht hok
end Go.Proofs.YtdbepkcpdglppaaGreatDoor
