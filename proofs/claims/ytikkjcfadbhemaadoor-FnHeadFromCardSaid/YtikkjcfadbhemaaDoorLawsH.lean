/- The walks of laws.FnHeadPorts, FnHeadSize, FnHeadBegin. -/
import Derived.Test.YtikkjcfadbhemaaDoorDrawI
import Derived.Test.YtikkjcfadbhemaaDoorHeadI
import Derived.Test.YtikkjcfadbhemaaDoorHeadQ
import Derived.Test.YtikkjcfadbhemaaDoorSame
import Derived.Test.YtikkjcfadbhemaaDoorTagsL
namespace Go.Proofs.YtikkjcfadbhemaaDoor
open Go.RowKit
/-- The parts of a head's bytes. -/
theorem head_seg {p : Par} {ts : List Tag} (h : headOk p ts = true) : ((headBytes p ts).drop 16).take 4 = p.src.quad ∧ ((headBytes p ts).drop 20).take 4 = p.dst.quad ∧ ((headBytes p ts).drop 24).take 2 = num2 p.src.port ∧ ((headBytes p ts).drop 26).take 2 = num2 p.dst.port ∧ (headBytes p ts).drop 28 = tagsBytes ts ∧ (headBytes p ts).take 14 = headStart ∧ ((headBytes p ts).drop 14).take 2 = num2 ((12 + (tagsBytes ts).length : Nat) : Int) := by
  obtain ⟨a, b, c, d, e, f, g, i, P, Q, rfl, ht, hP0, hP1, hQ0, hQ1, q1, q2⟩ := head_parts h
  have hc := head_cells a b c d e f g i P Q ts []
  rw [List.append_nil, List.append_nil] at hc
  rw [hc]
  exact ⟨rfl, rfl, rfl, rfl, rfl, rfl, rfl⟩
theorem implTags_t {w : World} {v : Value} {ts : List Tag} {tb : List Int} (h : TagS w v ts) (hok : Hid (tagsOk ts = true)) (he : Hid (tagsBytes ts = tb)) :
    Calls Tryd.prog 27 #[v] w fun e w' => ∃ v', e = .returned (.tuple #[v', .bool true]) ∧ IntO w.heap.size 3 w' v' tb ∧ Gr w w' := by
  have := implTagsBytes_c h
  rw [hok.out, if_pos rfl, he.out] at this
  exact this
theorem pair_ports {p : Par} (h : parOk p = true) : 0 ≤ p.src.port ∧ p.src.port ≤ 65535 ∧ 0 ≤ p.dst.port ∧ p.dst.port ≤ 65535 := by
  obtain ⟨a1, a2, _⟩ := par_parts h
  exact ⟨(adr_port a1).1, (adr_port a1).2, (adr_port a2).1, (adr_port a2).2⟩
theorem head_pair {p : Par} {ts : List Tag} (h : headOk p ts = true) : parOk p = true ∧ tagsOk ts = true := by
  simp only [headOk, Bool.and_eq_true] at h; exact h
theorem num2_bytes (n : Int) : bytesOnly (num2 n) := by
  intro x hx
  simp only [num2, List.mem_cons, List.mem_nil_iff, or_false] at hx
  rcases hx with rfl | rfl <;> omega
theorem bytes_app {xs ys : List Int} (h : bytesOnly xs) (k : bytesOnly ys) : bytesOnly (xs ++ ys) := fun x hx => (List.mem_append.1 hx).elim (h x) (k x)
theorem quad_bytesOnly {q : List Int} (h : quadOk q = true) : bytesOnly q := by
  simp only [quadOk, Bool.and_eq_true] at h
  exact bv_bytes h.1
theorem headBytes_bytes {p : Par} {ts : List Tag} (h : headOk p ts = true) : bytesOnly (headBytes p ts) := by
  obtain ⟨h1, h2⟩ := head_pair h
  obtain ⟨_, _, _, _, q1, q2, _⟩ := par_parts h1
  refine bytes_app (bytes_app (fun x hx => ?_) (num2_bytes _)) (bytes_app (bytes_app (bytes_app (bytes_app (quad_bytesOnly q1) (quad_bytesOnly q2)) (num2_bytes _)) (num2_bytes _)) (tagsBytes_bv h2))
  simp only [headStart, List.mem_cons, List.mem_nil_iff, or_false] at hx
  rcases hx with rfl | rfl | rfl | rfl | rfl | rfl | rfl | rfl | rfl | rfl | rfl | rfl | rfl | rfl <;> omega
set_option maxRecDepth 20000 in
set_option maxHeartbeats 4000000 in
theorem FnHeadSize_w {w : World} {v : Value} {bs : List Int} (hm : ML w) (h : ByteS w v bs) :
    Calls Tryd.prog 6 #[v] w fun e w' => e = .returned (.bool true) ∧ Gr w w' := by
  obtain ⟨p, cap, rfl, _, _⟩ := h.form
  by_cases hx : bs.length ≤ 1048576
  · have hx' : ((bs.length : Int) ≤ 1048576) := by omega
    go_enter Tryd.func6, Tryd.ntmps6
    go_wp2_with fail
    (with_reducible refine (DrawHeadBytes_c h).mono ?_); rintro e w1 ⟨pq, cq, pq', cq', k, p, k', p', s, s', xs, ys, v1, ts, rfl, hxl, hyl, hsl, hsl', ht1, ht2, q1, q1', hts, g1⟩
    obtain ⟨pv, cv, rfl, hv1, hv2⟩ := hts.form
    have gS := gr_alloc w1 (.cells #[.int .i64 k, .slice pq xs.length cq, .string s, .int .i64 p, .int .i64 k', .slice pq' ys.length cq', .string s', .int .i64 p'] 27)
    have hS := g1.trans gS
    have hs : s.size ≤ 2000000 := by omega
    have hs' : s'.size ≤ 2000000 := by omega
    clear hsl hsl' hxl hyl ht2 hv1 hv2
    cases hr : headOk ⟨⟨k, xs, tx s, p⟩, ⟨k', ys, tx s', p'⟩⟩ ts
    · have HR := Lib.hid hr
      clear hr
      go_wp2_with fail
      (with_reducible refine (implHeadBytes_f (hm.kept hS) k p k' p' s s' (q1.kept gS) (q1'.kept gS) hs hs' (hts.kept gS) HR).mono ?_); rintro e w2 ⟨v2, rfl, o2, g2⟩
      have b0 := boxN g2 0 rfl
      have b1 := boxN g2 1 rfl
      have b2 := boxN g2 2 rfl
      have b3 := boxN g2 3 rfl
      have b4 := boxN g2 4 rfl
      have b5 := boxN g2 5 rfl
      have b6 := boxN g2 6 rfl
      have b7 := boxN g2 7 rfl
      have G2 := gS.trans g2
      go_wp2_with fail
      (with_reducible refine (specHeadBytes_f k p k' p' s s' (q1.kept G2) (q1'.kept G2) hs hs' (hts.kept G2) HR).mono ?_); rintro e w3 ⟨v3, rfl, o3, g3⟩
      go_wp2_with fail
      (with_reducible refine (same_c (o2.s.kept g3) o3.s).mono ?_); rintro e w4 ⟨rfl, g4⟩
      go_wp2_with fail
      (with_reducible refine (same_c (o2.s.kept (g3.trans g4)) (o3.s.kept g4)).mono ?_); rintro e w5 ⟨rfl, g5⟩
      go_wp2
      go_ret
      exact ⟨rfl, ((((g1.trans G2).trans g3).trans g4).trans g5)⟩
    · have HR := Lib.hid hr
      have hp2 := (head_pair hr).2
      have TK := Lib.hid hp2
      have hlen := headBytes_len hr
      have e28 := (head_seg hr).2.2.2.2.1
      obtain ⟨tb, etb⟩ : ∃ tb, tagsBytes ts = tb := ⟨_, rfl⟩
      have TB := Lib.hid etb
      simp only [etb] at hlen e28
      clear hp2 etb
      obtain ⟨hb, ehb⟩ : ∃ hb, headBytes ⟨⟨k, xs, tx s, p⟩, ⟨k', ys, tx s', p'⟩⟩ ts = hb := ⟨_, rfl⟩
      have IC := Lib.hid (fun (W : World) (hM : ML W) (h1 : IntS W (.slice pq xs.length cq) xs) (h2 : IntS W (.slice pq' ys.length cq') ys) (h3 : TagS W (.slice pv ts.length cv) ts) => implHeadBytes_t hM k p k' p' s s' h1 h2 hs hs' h3 HR)
      have SC := Lib.hid (fun (W : World) (h1 : IntS W (.slice pq xs.length cq) xs) (h2 : IntS W (.slice pq' ys.length cq') ys) (h3 : TagS W (.slice pv ts.length cv) ts) => specHeadBytes_t k p k' p' s s' h1 h2 hs hs' h3 HR)
      simp only [ehb] at *
      clear hr ehb
      go_wp2_with fail
      (with_reducible refine (IC.out _ (hm.kept hS) (q1.kept gS) (q1'.kept gS) (hts.kept gS)).mono ?_); rintro e w2 ⟨v2, rfl, o2, g2⟩
      have b0 := boxN g2 0 rfl
      have b1 := boxN g2 1 rfl
      have b2 := boxN g2 2 rfl
      have b3 := boxN g2 3 rfl
      have b4 := boxN g2 4 rfl
      have b5 := boxN g2 5 rfl
      have b6 := boxN g2 6 rfl
      have b7 := boxN g2 7 rfl
      have G2 := gS.trans g2
      go_wp2_with fail
      (with_reducible refine (SC.out _ (q1.kept G2) (q1'.kept G2) (hts.kept G2)).mono ?_); rintro e w3 ⟨v3, rfl, o3, g3⟩
      go_wp2_with fail
      (with_reducible refine (same_c (o2.s.kept g3) o3.s).mono ?_); rintro e w4 ⟨rfl, g4⟩
      have d4 := (g2.trans g3).trans g4
      have G4 := gS.trans d4
      have o4 := o2.s.kept (g3.trans g4)
      obtain ⟨p2, c2, rfl, hc1, hc2⟩ := o4.form
      clear o2 o3 hc1 hc2 IC SC g2 g3 g4
      have h28 : 28 ≤ hb.length := by omega
      obtain ⟨v5, hsl5, o5⟩ := o4.suf h28
      rw [e28] at o5
      have hsl5' : ∀ w1, (Instr.slice 23 (.slice p2 hb.length c2) (some (.int .i64 28)) none none).run Tryd.prog w1 = .ok v5 w1 := hsl5
      have hbq : ((hb.length : Int) == 28 + (tb.length : Int)) = true := by rw [beq_iff_eq]; omega
      have hbl : tb.length ≤ 1000000 := by
        have := (headBody_len HR.out).2
        rw [TB.out] at this
        omega
      clear hlen e28 h28 hsl5
      go_wp2_with fail
      (with_reducible refine (implTags_t (hts.kept G4) TK TB).mono ?_); rintro e w6 ⟨v6, rfl, o6, g6⟩
      obtain ⟨p6, c6, rfl⟩ := o6.len
      go_wp2_with fail
      (with_reducible refine (same_c (o5.kept g6) o6.s).mono ?_); rintro e w7 ⟨rfl, g7⟩
      go_wp2
      go_ret
      exact ⟨rfl, ((g1.trans G4).trans g6).trans g7⟩
  · have hx' : ¬ ((bs.length : Int) ≤ 1048576) := by omega
    go_enter Tryd.func6, Tryd.ntmps6
    go_wp2_with fail
    go_ret
    exact ⟨rfl, Gr.refl _⟩
set_option maxRecDepth 20000 in
set_option maxHeartbeats 4000000 in
theorem FnHeadPorts_w {w : World} {v : Value} {bs : List Int} (hm : ML w) (h : ByteS w v bs) :
    Calls Tryd.prog 5 #[v] w fun e w' => e = .returned (.bool true) ∧ Gr w w' := by
  obtain ⟨p, cap, rfl, _, _⟩ := h.form
  by_cases hx : bs.length ≤ 1048576
  · have hx' : ((bs.length : Int) ≤ 1048576) := by omega
    go_enter Tryd.func5, Tryd.ntmps5
    go_wp2_with fail
    (with_reducible refine (DrawHeadBytes_c h).mono ?_); rintro e w1 ⟨pq, cq, pq', cq', k, p, k', p', s, s', xs, ys, v1, ts, rfl, hxl, hyl, hsl, hsl', ht1, ht2, q1, q1', hts, g1⟩
    obtain ⟨pv, cv, rfl, hv1, hv2⟩ := hts.form
    have gS := gr_alloc w1 (.cells #[.int .i64 k, .slice pq xs.length cq, .string s, .int .i64 p, .int .i64 k', .slice pq' ys.length cq', .string s', .int .i64 p'] 27)
    have hS := g1.trans gS
    have hs : s.size ≤ 2000000 := by omega
    have hs' : s'.size ≤ 2000000 := by omega
    clear hsl hsl' hxl hyl ht2 hv1 hv2
    cases hr : headOk ⟨⟨k, xs, tx s, p⟩, ⟨k', ys, tx s', p'⟩⟩ ts
    · have HR := Lib.hid hr
      clear hr
      go_wp2_with fail
      (with_reducible refine (implHeadBytes_f (hm.kept hS) k p k' p' s s' (q1.kept gS) (q1'.kept gS) hs hs' (hts.kept gS) HR).mono ?_); rintro e w2 ⟨v2, rfl, o2, g2⟩
      have b0 := boxN g2 0 rfl
      have b1 := boxN g2 1 rfl
      have b2 := boxN g2 2 rfl
      have b3 := boxN g2 3 rfl
      have b4 := boxN g2 4 rfl
      have b5 := boxN g2 5 rfl
      have b6 := boxN g2 6 rfl
      have b7 := boxN g2 7 rfl
      have G2 := gS.trans g2
      go_wp2_with fail
      (with_reducible refine (specHeadBytes_f k p k' p' s s' (q1.kept G2) (q1'.kept G2) hs hs' (hts.kept G2) HR).mono ?_); rintro e w3 ⟨v3, rfl, o3, g3⟩
      go_wp2_with fail
      (with_reducible refine (same_c (o2.s.kept g3) o3.s).mono ?_); rintro e w4 ⟨rfl, g4⟩
      go_wp2_with fail
      (with_reducible refine (same_c (o2.s.kept (g3.trans g4)) (o3.s.kept g4)).mono ?_); rintro e w5 ⟨rfl, g5⟩
      go_wp2
      go_ret
      exact ⟨rfl, ((((g1.trans G2).trans g3).trans g4).trans g5)⟩
    · have HR := Lib.hid hr
      have hp := pair_ports (head_pair hr).1
      have hlen := headBytes_len hr
      have hsg := head_seg hr
      simp only [] at hp hsg
      obtain ⟨s1, s2, s3, s4, _⟩ := hsg
      obtain ⟨hb, ehb⟩ : ∃ hb, headBytes ⟨⟨k, xs, tx s, p⟩, ⟨k', ys, tx s', p'⟩⟩ ts = hb := ⟨_, rfl⟩
      have IC := Lib.hid (fun (W : World) (hM : ML W) (h1 : IntS W (.slice pq xs.length cq) xs) (h2 : IntS W (.slice pq' ys.length cq') ys) (h3 : TagS W (.slice pv ts.length cv) ts) => implHeadBytes_t hM k p k' p' s s' h1 h2 hs hs' h3 HR)
      have SC := Lib.hid (fun (W : World) (h1 : IntS W (.slice pq xs.length cq) xs) (h2 : IntS W (.slice pq' ys.length cq') ys) (h3 : TagS W (.slice pv ts.length cv) ts) => specHeadBytes_t k p k' p' s s' h1 h2 hs hs' h3 HR)
      simp only [ehb] at *
      clear hr ehb
      go_wp2_with fail
      (with_reducible refine (IC.out _ (hm.kept hS) (q1.kept gS) (q1'.kept gS) (hts.kept gS)).mono ?_); rintro e w2 ⟨v2, rfl, o2, g2⟩
      have b0 := boxN g2 0 rfl
      have b1 := boxN g2 1 rfl
      have b2 := boxN g2 2 rfl
      have b3 := boxN g2 3 rfl
      have b4 := boxN g2 4 rfl
      have b5 := boxN g2 5 rfl
      have b6 := boxN g2 6 rfl
      have b7 := boxN g2 7 rfl
      have G2 := gS.trans g2
      go_wp2_with fail
      (with_reducible refine (SC.out _ (q1.kept G2) (q1'.kept G2) (hts.kept G2)).mono ?_); rintro e w3 ⟨v3, rfl, o3, g3⟩
      go_wp2_with fail
      (with_reducible refine (same_c (o2.s.kept g3) o3.s).mono ?_); rintro e w4 ⟨rfl, g4⟩
      have d4 := (g2.trans g3).trans g4
      have G4 := gS.trans d4
      have o4 := o2.s.kept (g3.trans g4)
      obtain ⟨p2, c2, rfl, hc1, hc2⟩ := o4.form
      clear o2 o3 hc1 hc2 IC SC g2 g3 g4
      obtain ⟨hp0, hp1, hp2, hp3⟩ := hp
      obtain ⟨x1, hx1, y1⟩ := o4.cutI (lo := 16) (n := 4) (by omega) (a := 16) (b := 20) rfl rfl
      obtain ⟨x2, hx2, y2⟩ := o4.cutI (lo := 20) (n := 4) (by omega) (a := 20) (b := 24) rfl rfl
      obtain ⟨x3, hx3, y3⟩ := o4.cutI (lo := 24) (n := 2) (by omega) (a := 24) (b := 26) rfl rfl
      obtain ⟨x4, hx4, y4⟩ := o4.cutI (lo := 26) (n := 2) (by omega) (a := 26) (b := 28) rfl rfl
      rw [s1] at y1
      rw [s2] at y2
      rw [s3] at y3
      rw [s4] at y4
      clear s1 s2 s3 s4 hlen b0 b1 b2 b3 b4 b5 b6 b7
      have b0 := boxN d4 0 rfl
      have b1 := boxN d4 1 rfl
      have b2 := boxN d4 2 rfl
      have b3 := boxN d4 3 rfl
      have b4 := boxN d4 4 rfl
      have b5 := boxN d4 5 rfl
      have b6 := boxN d4 6 rfl
      have b7 := boxN d4 7 rfl
      go_wp2_with fail
      (with_reducible refine (NumberBytes_c p _ hp0 hp1).mono ?_); rintro e w5 ⟨v5, rfl, o5, g5⟩
      have e5 := d4.trans g5
      clear b0 b1 b2 b3 b4 b5 b6 b7
      have b0 := boxN e5 0 rfl
      have b1 := boxN e5 1 rfl
      have b2 := boxN e5 2 rfl
      have b3 := boxN e5 3 rfl
      have b4 := boxN e5 4 rfl
      have b5 := boxN e5 5 rfl
      have b6 := boxN e5 6 rfl
      have b7 := boxN e5 7 rfl
      go_wp2_with fail
      (with_reducible refine (NumberBytes_c p' _ hp2 hp3).mono ?_); rintro e w6 ⟨v6, rfl, o6, g6⟩
      have e6 := e5.trans g6
      clear b0 b1 b2 b3 b4 b5 b6 b7
      have b1 := boxN e6 1 rfl
      have b5 := boxN e6 5 rfl
      have G6 := gS.trans e6
      have z1 := y1.kept (g5.trans g6)
      have z2 := y2.kept (g5.trans g6)
      have z3 := y3.kept (g5.trans g6)
      have z4 := y4.kept (g5.trans g6)
      have r1 := q1.kept G6
      have r1' := q1'.kept G6
      have r5 := o5.s.kept g6
      have r6 := o6.s
      clear hp0 hp1 hp2 hp3 y1 y2 y3 y4 o5 o6
      go_wp2_with fail
      go_region_held3 (fun w' => w'.cell? ⟨w1.heap.size, 1, none⟩ = some (.slice pq xs.length cq) ∧ w'.cell? ⟨w1.heap.size, 5, none⟩ = some (.slice pq' ys.length cq')) (first | (exact ⟨g10.cell b1, g10.cell b5⟩) | (exact ⟨g9.cell b1, g9.cell b5⟩) | (exact ⟨g8.cell b1, g8.cell b5⟩) | (exact ⟨g7.cell b1, g7.cell b5⟩) | go_keep) (first
        | (go_at_call 25; (with_reducible refine (same_c (z1.kept ((Gr.refl _).drew)) (r1.kept ((Gr.refl _).drew))).mono ?_); rintro e w7 ⟨rfl, g7'⟩; have g7 : Gr w6 w7 := g7'.undrew)
        | (go_at_call 25; (with_reducible refine (same_c (z2.kept g7) (r1'.kept g7)).mono ?_); rintro e w8 ⟨rfl, g8'⟩; have g8 : Gr w6 w8 := g7.trans g8')
        | (go_at_call 25; (with_reducible refine (same_c (z3.kept g8) (r5.kept g8)).mono ?_); rintro e w9 ⟨rfl, g9'⟩; have g9 : Gr w6 w9 := g8.trans g9')
        | (go_at_call 25; (with_reducible refine (same_c (z4.kept g9) (r6.kept g9)).mono ?_); rintro e w10 ⟨rfl, g10'⟩; have g10 : Gr w6 w10 := g9.trans g10'))
      go_wp2
      go_ret
      exact ⟨rfl, (g1.trans G6).trans g10⟩
  · have hx' : ¬ ((bs.length : Int) ≤ 1048576) := by omega
    go_enter Tryd.func5, Tryd.ntmps5
    go_wp2_with fail
    go_ret
    exact ⟨rfl, Gr.refl _⟩
set_option maxRecDepth 20000 in
set_option maxHeartbeats 4000000 in
theorem FnHeadBegin_w {w : World} {v : Value} {bs : List Int} (hm : ML w) (h : ByteS w v bs) :
    Calls Tryd.prog 7 #[v] w fun e w' => e = .returned (.bool true) ∧ Gr w w' := by
  obtain ⟨p, cap, rfl, _, _⟩ := h.form
  by_cases hx : bs.length ≤ 1048576
  · have hx' : ((bs.length : Int) ≤ 1048576) := by omega
    go_enter Tryd.func7, Tryd.ntmps7
    go_wp2_with fail
    (with_reducible refine (DrawHeadBytes_c h).mono ?_); rintro e w1 ⟨pq, cq, pq', cq', k, p, k', p', s, s', xs, ys, v1, ts, rfl, hxl, hyl, hsl, hsl', ht1, ht2, q1, q1', hts, g1⟩
    obtain ⟨pv, cv, rfl, hv1, hv2⟩ := hts.form
    have gS := gr_alloc w1 (.cells #[.int .i64 k, .slice pq xs.length cq, .string s, .int .i64 p, .int .i64 k', .slice pq' ys.length cq', .string s', .int .i64 p'] 27)
    have hS := g1.trans gS
    have hs : s.size ≤ 2000000 := by omega
    have hs' : s'.size ≤ 2000000 := by omega
    clear hsl hsl' hxl hyl ht2 hv1 hv2
    cases hr : headOk ⟨⟨k, xs, tx s, p⟩, ⟨k', ys, tx s', p'⟩⟩ ts
    · have HR := Lib.hid hr
      clear hr
      go_wp2_with fail
      (with_reducible refine (implHeadBytes_f (hm.kept hS) k p k' p' s s' (q1.kept gS) (q1'.kept gS) hs hs' (hts.kept gS) HR).mono ?_); rintro e w2 ⟨v2, rfl, o2, g2⟩
      have b0 := boxN g2 0 rfl
      have b1 := boxN g2 1 rfl
      have b2 := boxN g2 2 rfl
      have b3 := boxN g2 3 rfl
      have b4 := boxN g2 4 rfl
      have b5 := boxN g2 5 rfl
      have b6 := boxN g2 6 rfl
      have b7 := boxN g2 7 rfl
      have G2 := gS.trans g2
      go_wp2_with fail
      (with_reducible refine (specHeadBytes_f k p k' p' s s' (q1.kept G2) (q1'.kept G2) hs hs' (hts.kept G2) HR).mono ?_); rintro e w3 ⟨v3, rfl, o3, g3⟩
      go_wp2_with fail
      (with_reducible refine (same_c (o2.s.kept g3) o3.s).mono ?_); rintro e w4 ⟨rfl, g4⟩
      go_wp2_with fail
      (with_reducible refine (same_c (o2.s.kept (g3.trans g4)) (o3.s.kept g4)).mono ?_); rintro e w5 ⟨rfl, g5⟩
      go_wp2
      go_ret
      exact ⟨rfl, ((((g1.trans G2).trans g3).trans g4).trans g5)⟩
    · have HR := Lib.hid hr
      have hp := head_pair hr
      have hlen := headBytes_len hr
      have htl := (headBody_len hr).2
      have hsg := head_seg hr
      have hbv : bytesOnly (headBytes ⟨⟨k, xs, tx s, p⟩, ⟨k', ys, tx s', p'⟩⟩ ts) := headBytes_bytes hr
      have h0 : headOk ⟨⟨k, xs, tx s, p⟩, ⟨k', ys, tx s', p'⟩⟩ [] = true := by rw [headOk, hp.1]; rfl
      have hs0 := (head_seg h0).2.2.2.2.2.1
      have hl0 := headBytes_len h0
      obtain ⟨_, _, _, _, _, s5, s6⟩ := hsg
      have H0 := Lib.hid h0
      obtain ⟨hz, ehz⟩ : ∃ hz, headBytes ⟨⟨k, xs, tx s, p⟩, ⟨k', ys, tx s', p'⟩⟩ [] = hz := ⟨_, rfl⟩
      have IZ := Lib.hid (fun (W : World) (hM : ML W) (v0 : Value) (h1 : IntS W (.slice pq xs.length cq) xs) (h2 : IntS W (.slice pq' ys.length cq') ys) (h3 : TagS W v0 []) => implHeadBytes_t hM k p k' p' s s' h1 h2 hs hs' h3 H0)
      simp only [ehz] at hs0 hl0 IZ
      clear ehz h0 hp H0
      obtain ⟨hb, ehb⟩ : ∃ hb, headBytes ⟨⟨k, xs, tx s, p⟩, ⟨k', ys, tx s', p'⟩⟩ ts = hb := ⟨_, rfl⟩
      have IC := Lib.hid (fun (W : World) (hM : ML W) (h1 : IntS W (.slice pq xs.length cq) xs) (h2 : IntS W (.slice pq' ys.length cq') ys) (h3 : TagS W (.slice pv ts.length cv) ts) => implHeadBytes_t hM k p k' p' s s' h1 h2 hs hs' h3 HR)
      have SC := Lib.hid (fun (W : World) (h1 : IntS W (.slice pq xs.length cq) xs) (h2 : IntS W (.slice pq' ys.length cq') ys) (h3 : TagS W (.slice pv ts.length cv) ts) => specHeadBytes_t k p k' p' s s' h1 h2 hs hs' h3 HR)
      simp only [ehb] at *
      clear hr ehb
      go_wp2_with fail
      (with_reducible refine (IC.out _ (hm.kept hS) (q1.kept gS) (q1'.kept gS) (hts.kept gS)).mono ?_); rintro e w2 ⟨v2, rfl, o2, g2⟩
      have b0 := boxN g2 0 rfl
      have b1 := boxN g2 1 rfl
      have b2 := boxN g2 2 rfl
      have b3 := boxN g2 3 rfl
      have b4 := boxN g2 4 rfl
      have b5 := boxN g2 5 rfl
      have b6 := boxN g2 6 rfl
      have b7 := boxN g2 7 rfl
      have G2 := gS.trans g2
      go_wp2_with fail
      (with_reducible refine (SC.out _ (q1.kept G2) (q1'.kept G2) (hts.kept G2)).mono ?_); rintro e w3 ⟨v3, rfl, o3, g3⟩
      go_wp2_with fail
      (with_reducible refine (same_c (o2.s.kept g3) o3.s).mono ?_); rintro e w4 ⟨rfl, g4⟩
      have d4 := (g2.trans g3).trans g4
      have G4 := gS.trans d4
      have o4 := o2.s.kept (g3.trans g4)
      obtain ⟨p2, c2, rfl, hc1, hc2⟩ := o4.form
      clear o2 o3 hc1 hc2 IC SC g2 g3 g4
      have hl0' : 28 ≤ hz.length := by rw [hl0]; omega
      obtain ⟨x1, hx1, y1⟩ := o4.cutI (lo := 14) (n := 2) (by omega) (a := 14) (b := 16) rfl rfl
      obtain ⟨x2, hx2, y2⟩ := o4.pre (show 14 ≤ hb.length by omega)
      have hx2' : ∀ w1, (Instr.slice 23 (.slice p2 hb.length c2) none (some (.int .i64 14)) none).run Tryd.prog w1 = .ok x2 w1 := hx2
      rw [s5, ← hs0] at y2
      have N2 : Hid (((hb.drop 14).take 2).length = 2) := by rw [Hid, s6]; rfl
      have B2 : Hid (bv ((hb.drop 14).take 2) = true) := Lib.hid (bytes_bv (bytes_take (bytes_drop hbv 14) 2) (by have := N2.out; omega))
      have hnum : numOf ((hb.drop 14).take 2) = (hb.length : Int) - 16 := by rw [s6, numOf_num2 (by omega) (by omega)]; omega
      have HN := Lib.hid hnum
      have hb28 : (28 : Int) ≤ (hb.length : Int) := by omega
      have v1w : IntKind.i64.wrap ((hb.length : Int) - 16) = (hb.length : Int) - 16 := by rw [IntKind.wrap_i64]; omega
      clear s5 s6 hlen hl0 hs0 hbv htl hnum hx2 b0 b1 b2 b3 b4 b5 b6 b7
      have b0 := boxN d4 0 rfl
      have b1 := boxN d4 1 rfl
      have b2 := boxN d4 2 rfl
      have b3 := boxN d4 3 rfl
      have b4 := boxN d4 4 rfl
      have b5 := boxN d4 5 rfl
      have b6 := boxN d4 6 rfl
      have b7 := boxN d4 7 rfl
      have gM := gr_alloc w4 (.cells #[] 83)
      have tM := (TagO.mt w4).s
      go_wp2_with fail
      (with_reducible refine (IZ.out _ (hm.kept ((g1.trans G4).trans gM)) _ (q1.kept (G4.trans gM)) (q1'.kept (G4.trans gM)) tM).mono ?_); rintro e w5 ⟨v5, rfl, o5, g5⟩
      have hG5 := gM.trans g5
      obtain ⟨x5, hx5, y5⟩ := o5.s.pre (show 14 ≤ hz.length by omega)
      have hx5' : ∀ w1, (Instr.slice 23 v5 none (some (.int .i64 14)) none).run Tryd.prog w1 = .ok x5 w1 := hx5
      obtain ⟨p5, c5, rfl⟩ := o5.len
      clear hx5
      go_wp2_with fail
      (with_reducible refine (NumberOf_c (y1.kept hG5) N2 B2).mono ?_); rintro e w6 ⟨rfl, rfl⟩
      rw [HN.out]
      have z2 := y2.kept hG5
      clear y1 y2 o5
      go_wp2_with fail
      go_region_held3 (fun w' => True) (first | trivial | go_keep) (first
        | (go_at_call 25; (with_reducible refine (same_c (y5.kept ((Gr.refl _).drew)) (z2.kept ((Gr.refl _).drew))).mono ?_); rintro e w7 ⟨rfl, g7'⟩; have g7 : Gr w5 w7 := g7'.undrew))
      go_wp2
      go_ret
      exact ⟨rfl, ((g1.trans G4).trans hG5).trans g7⟩
  · have hx' : ¬ ((bs.length : Int) ≤ 1048576) := by omega
    go_enter Tryd.func7, Tryd.ntmps7
    go_wp2_with fail
    go_ret
    exact ⟨rfl, Gr.refl _⟩
end Go.Proofs.YtikkjcfadbhemaaDoor
