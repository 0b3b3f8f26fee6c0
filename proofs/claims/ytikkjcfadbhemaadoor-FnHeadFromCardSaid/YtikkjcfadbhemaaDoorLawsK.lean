/- The walks of laws.FnHeadCut, FnHead, FnHeadBehind. -/
import Derived.Test.YtikkjcfadbhemaaDoorLawsH
import Derived.Test.YtikkjcfadbhemaaDoorGL
namespace Go.Proofs.YtikkjcfadbhemaaDoor
open Go.RowKit
/-- What HeadFrom hands back. -/
def HFp (k : Int) (qs : List Int) (s : ByteArray) (p k' : Int) (qs' : List Int) (s' : ByteArray) (p' : Int) (ts : List Tag) (n : Int) (ok : Bool) (w : World) (e : Ending) (w' : World) : Prop := ∃ (pq : Option Addr) (cq : Nat) (pq' : Option Addr) (cq' : Nat) (pu : Option Addr) (cu : Nat), e = .returned (.tuple #[.agg #[.int .i64 k, .slice pq qs.length cq, .string s, .int .i64 p, .int .i64 k', .slice pq' qs'.length cq', .string s', .int .i64 p'], .slice pu ts.length cu, .int .i64 n, .bool ok]) ∧ IntS w' (.slice pq qs.length cq) qs ∧ IntS w' (.slice pq' qs'.length cq') qs' ∧ TagS w' (.slice pu ts.length cu) ts ∧ Gr w w'
theorem HFp.of_t {xs : List Int} {k : Int} {qs : List Int} {s : ByteArray} {p k' : Int} {qs' : List Int} {s' : ByteArray} {p' : Int} {ts : List Tag} {n : Nat} (hn : Hid (headFrom xs = some (⟨⟨k, qs, tx s, p⟩, ⟨k', qs', tx s', p'⟩⟩, ts, n))) {w : World} {e : Ending} {w' : World} (h : HeadOut xs w e w') : HFp k qs s p k' qs' s' p' ts (n : Int) true w e w' := by
  obtain ⟨P, ts', n', ok, q, q', v', B1, T1, B2, T2, B3, T3, hI, rfl, o1, o2, o3, _, _, _, _, _, _, _, _, hg⟩ := h
  rcases hI with ⟨e1, rfl⟩ | ⟨e1, _⟩
  · rw [hn.out] at e1
    injection e1 with e1
    injection e1 with e1 e2
    injection e2 with e2 e3
    subst e1 e2 e3
    obtain ⟨pq, cq, rfl⟩ := o1.o.len
    obtain ⟨pq', cq', rfl⟩ := o2.o.len
    obtain ⟨pu, cu, rfl, _, _⟩ := o3.s.form
    simp only [S_tx]
    exact ⟨pq, cq, pq', cq', pu, cu, rfl, o1.s, o2.s, o3.s, hg⟩
  · rw [hn.out] at e1; cases e1
theorem HFp.of_f {xs : List Int} (hn : Hid (headFrom xs = none)) {w : World} {e : Ending} {w' : World} (h : HeadOut xs w e w') : HFp 0 [] ⟨#[]⟩ 0 0 [] ⟨#[]⟩ 0 [] 0 false w e w' := by
  obtain ⟨P, ts', n', ok, q, q', v', B1, T1, B2, T2, B3, T3, hI, rfl, o1, o2, o3, _, _, _, _, _, _, _, _, hg⟩ := h
  rcases hI with ⟨e1, rfl⟩ | ⟨e1, rfl, rfl, rfl, rfl⟩
  · rw [hn.out] at e1; cases e1
  · obtain ⟨pq, cq, rfl⟩ := o1.o.len
    obtain ⟨pq', cq', rfl⟩ := o2.o.len
    obtain ⟨pu, cu, rfl, _, _⟩ := o3.s.form
    exact ⟨pq, cq, pq', cq', pu, cu, rfl, o1.s, o2.s, o3.s, hg⟩
theorem implHF_t {w : World} {v : Value} {xs : List Int} {k : Int} {qs : List Int} {s : ByteArray} {p k' : Int} {qs' : List Int} {s' : ByteArray} {p' : Int} {ts : List Tag} {n : Nat} (hn : Hid (headFrom xs = some (⟨⟨k, qs, tx s, p⟩, ⟨k', qs', tx s', p'⟩⟩, ts, n))) (h : IntS w v xs) (hlen : xs.length ≤ 1048576) :
    Calls Tryd.prog 37 #[v] w (HFp k qs s p k' qs' s' p' ts (n : Int) true w) := (implHeadFrom_c h hlen).mono fun _ _ h => HFp.of_t hn h
theorem implHF_f {w : World} {v : Value} {xs : List Int} (hn : Hid (headFrom xs = none)) (h : IntS w v xs) (hlen : xs.length ≤ 1048576) :
    Calls Tryd.prog 37 #[v] w (HFp 0 [] ⟨#[]⟩ 0 0 [] ⟨#[]⟩ 0 [] 0 false w) := (implHeadFrom_c h hlen).mono fun _ _ h => HFp.of_f hn h
theorem specHF_t {w : World} {v : Value} {xs : List Int} {k : Int} {qs : List Int} {s : ByteArray} {p k' : Int} {qs' : List Int} {s' : ByteArray} {p' : Int} {ts : List Tag} {n : Nat} (hn : Hid (headFrom xs = some (⟨⟨k, qs, tx s, p⟩, ⟨k', qs', tx s', p'⟩⟩, ts, n))) (h : IntS w v xs) (hlen : xs.length ≤ 1048576) :
    Calls Tryd.prog 41 #[v] w (HFp k qs s p k' qs' s' p' ts (n : Int) true w) := (specHeadFrom_c h hlen).mono fun _ _ h => HFp.of_t hn h
theorem specHF_f {w : World} {v : Value} {xs : List Int} (hn : Hid (headFrom xs = none)) (h : IntS w v xs) (hlen : xs.length ≤ 1048576) :
    Calls Tryd.prog 41 #[v] w (HFp 0 [] ⟨#[]⟩ 0 0 [] ⟨#[]⟩ 0 [] 0 false w) := (specHeadFrom_c h hlen).mono fun _ _ h => HFp.of_f hn h
set_option maxRecDepth 20000 in
set_option maxHeartbeats 4000000 in
theorem FnHeadCut_w {w : World} {v u : Value} {bs cs : List Int} (hm : ML w) (h : ByteS w v bs) (hu : ByteS w u cs) :
    Calls Tryd.prog 9 #[v, u] w fun e w' => e = .returned (.bool true) ∧ Gr w w' := by
  obtain ⟨p, cap, rfl, _, _⟩ := h.form
  obtain ⟨px, capx, rfl, _, _⟩ := hu.form
  by_cases hx : bs.length ≤ 1048576
  · by_cases hy : cs.length ≤ 1048576
    · have hx' : (decide (1048576 < (bs.length : Int))) = false := by simp; omega
      have hy' : (decide (1048576 < (cs.length : Int))) = false := by simp; omega
      go_enter Tryd.func9, Tryd.ntmps9
      go_wp2_with fail
      (with_reducible refine (DrawHeadBytes_c h).mono ?_); rintro e w1 ⟨pq, cq, pq', cq', k, p, k', p', s, s', xs, ys, v1, ts, rfl, hxl, hyl, hsl, hsl', ht1, ht2, q1, q1', hts, g1⟩
      obtain ⟨pv, cv, rfl, hv1, hv2⟩ := hts.form
      have gS := gr_alloc w1 (.cells #[.int .i64 k, .slice pq xs.length cq, .string s, .int .i64 p, .int .i64 k', .slice pq' ys.length cq', .string s', .int .i64 p'] 27)
      have hS := g1.trans gS
      have hs : s.size ≤ 2000000 := by omega
      have hs' : s'.size ≤ 2000000 := by omega
      clear hsl hsl' hxl hyl ht2 hv1 hv2
      cases hr : headOk ⟨⟨k, xs, tx s, p⟩, ⟨k', ys, tx s', p'⟩⟩ ts
      · have HR := Lib.hid hr
        clear hr
        go_wp2_with fail
        (with_reducible refine (implHeadBytes_f (hm.kept hS) k p k' p' s s' (q1.kept gS) (q1'.kept gS) hs hs' (hts.kept gS) HR).mono ?_); rintro e w2 ⟨v2, rfl, o2, g2⟩
        have b0 := boxN g2 0 rfl
        have b1 := boxN g2 1 rfl
        have b2 := boxN g2 2 rfl
        have b3 := boxN g2 3 rfl
        have b4 := boxN g2 4 rfl
        have b5 := boxN g2 5 rfl
        have b6 := boxN g2 6 rfl
        have b7 := boxN g2 7 rfl
        have G2 := gS.trans g2
        go_wp2_with fail
        (with_reducible refine (specHeadBytes_f k p k' p' s s' (q1.kept G2) (q1'.kept G2) hs hs' (hts.kept G2) HR).mono ?_); rintro e w3 ⟨v3, rfl, o3, g3⟩
        go_wp2_with fail
        (with_reducible refine (same_c (o2.s.kept g3) o3.s).mono ?_); rintro e w4 ⟨rfl, g4⟩
        go_wp2_with fail
        (with_reducible refine (same_c (o2.s.kept (g3.trans g4)) (o3.s.kept g4)).mono ?_); rintro e w5 ⟨rfl, g5⟩
        go_wp2
        go_ret
        exact ⟨rfl, ((((g1.trans G2).trans g3).trans g4).trans g5)⟩
      · have HR := Lib.hid hr
        have hlen := headBytes_len hr
        have htl := (headBody_len hr).2
        have hcut := fun {i : Nat} (hi : i < (headBytes ⟨⟨k, xs, tx s, p⟩, ⟨k', ys, tx s', p'⟩⟩ ts).length) => headFrom_cut hr hi
        have HC : Hid (∀ i : Nat, i < (headBytes ⟨⟨k, xs, tx s, p⟩, ⟨k', ys, tx s', p'⟩⟩ ts).length → headFrom ((headBytes ⟨⟨k, xs, tx s, p⟩, ⟨k', ys, tx s', p'⟩⟩ ts).take i) = none) := Lib.hid (fun i hi => hcut hi)
        clear hcut
        obtain ⟨hb, ehb⟩ : ∃ hb, headBytes ⟨⟨k, xs, tx s, p⟩, ⟨k', ys, tx s', p'⟩⟩ ts = hb := ⟨_, rfl⟩
        have IC := Lib.hid (fun (W : World) (hM : ML W) (h1 : IntS W (.slice pq xs.length cq) xs) (h2 : IntS W (.slice pq' ys.length cq') ys) (h3 : TagS W (.slice pv ts.length cv) ts) => implHeadBytes_t hM k p k' p' s s' h1 h2 hs hs' h3 HR)
        have SC := Lib.hid (fun (W : World) (h1 : IntS W (.slice pq xs.length cq) xs) (h2 : IntS W (.slice pq' ys.length cq') ys) (h3 : TagS W (.slice pv ts.length cv) ts) => specHeadBytes_t k p k' p' s s' h1 h2 hs hs' h3 HR)
        simp only [ehb] at *
        clear hr ehb
        go_wp2_with fail
        (with_reducible refine (IC.out _ (hm.kept hS) (q1.kept gS) (q1'.kept gS) (hts.kept gS)).mono ?_); rintro e w2 ⟨v2, rfl, o2, g2⟩
        have b0 := boxN g2 0 rfl
        have b1 := boxN g2 1 rfl
        have b2 := boxN g2 2 rfl
        have b3 := boxN g2 3 rfl
        have b4 := boxN g2 4 rfl
        have b5 := boxN g2 5 rfl
        have b6 := boxN g2 6 rfl
        have b7 := boxN g2 7 rfl
        have G2 := gS.trans g2
        go_wp2_with fail
        (with_reducible refine (SC.out _ (q1.kept G2) (q1'.kept G2) (hts.kept G2)).mono ?_); rintro e w3 ⟨v3, rfl, o3, g3⟩
        go_wp2_with fail
        (with_reducible refine (same_c (o2.s.kept g3) o3.s).mono ?_); rintro e w4 ⟨rfl, g4⟩
        have d4 := (g2.trans g3).trans g4
        have G4 := gS.trans d4
        have o4 := o2.s.kept (g3.trans g4)
        obtain ⟨p2, c2, rfl, hc1, hc2⟩ := o4.form
        clear o2 o3 hc1 hc2 IC SC g2 g3 g4
        have hk0 : (0 : Int) ≤ (cs.length : Int) % (hb.length : Int) := Int.emod_nonneg _ (by omega)
        have hk1 : (cs.length : Int) % (hb.length : Int) < (hb.length : Int) := Int.emod_lt_of_pos _ (by omega)
        obtain ⟨i, hi⟩ := Int.eq_ofNat_of_zero_le hk0
        have hil : i < hb.length := by omega
        have HN := Lib.hid (HC.out i hil)
        obtain ⟨x1, hx1, y1⟩ := o4.pre (show i ≤ hb.length by omega)
        have hpos : (0 : Int) < (hb.length : Int) := by omega
        have hne : ¬ ((hb.length : Int) = 0) := by omega
        have hl1 : (hb.take i).length ≤ 1048576 := by rw [List.length_take]; omega
        clear hlen htl HC hk0 hk1 hil
        go_wp2_with fail
        (with_reducible refine (implHF_f HN y1 hl1).mono ?_); rintro e w5 ⟨pq2, cq2, pq3, cq3, pu, cu, rfl, r1, r2, r3, g5⟩
        go_wp2
        go_ret
        exact ⟨rfl, (g1.trans G4).trans (g5.alloc _)⟩
    · have hx' : (decide (1048576 < (bs.length : Int))) = false := by simp; omega
      have hy' : (decide (1048576 < (cs.length : Int))) = true := by simp; omega
      go_enter Tryd.func9, Tryd.ntmps9
      go_wp2_with fail
      go_ret
      exact ⟨rfl, Gr.refl _⟩
  · have hx' : (decide (1048576 < (bs.length : Int))) = true := by simp; omega
    go_enter Tryd.func9, Tryd.ntmps9
    go_wp2_with fail
    go_ret
    exact ⟨rfl, Gr.refl _⟩
set_option maxRecDepth 20000 in
set_option maxHeartbeats 4000000 in
theorem FnHead_w {w : World} {v : Value} {bs : List Int} (hm : ML w) (h : ByteS w v bs) :
    Calls Tryd.prog 10 #[v] w fun e w' => e = .returned (.bool true) ∧ Gr w w' := by
  obtain ⟨p, cap, rfl, _, _⟩ := h.form
  by_cases hx : bs.length ≤ 1048576
  · have hx' : ((bs.length : Int) ≤ 1048576) := by omega
    go_enter Tryd.func10, Tryd.ntmps10
    go_wp2_with fail
    (with_reducible refine (DrawHeadBytes_c h).mono ?_); rintro e w1 ⟨pq, cq, pq', cq', k, p, k', p', s, s', xs, ys, v1, ts, rfl, hxl, hyl, hsl, hsl', ht1, ht2, q1, q1', hts, g1⟩
    obtain ⟨pv, cv, rfl, hv1, hv2⟩ := hts.form
    have gS := gr_alloc w1 (.cells #[.int .i64 k, .slice pq xs.length cq, .string s, .int .i64 p, .int .i64 k', .slice pq' ys.length cq', .string s', .int .i64 p'] 27)
    have hS := g1.trans gS
    have hs : s.size ≤ 2000000 := by omega
    have hs' : s'.size ≤ 2000000 := by omega
    clear hsl hsl' hxl hyl ht2 hv1 hv2
    cases hr : headOk ⟨⟨k, xs, tx s, p⟩, ⟨k', ys, tx s', p'⟩⟩ ts
    · have HR := Lib.hid hr
      clear hr
      go_wp2_with fail
      (with_reducible refine (implHeadBytes_f (hm.kept hS) k p k' p' s s' (q1.kept gS) (q1'.kept gS) hs hs' (hts.kept gS) HR).mono ?_); rintro e w2 ⟨v2, rfl, o2, g2⟩
      have b0 := boxN g2 0 rfl
      have b1 := boxN g2 1 rfl
      have b2 := boxN g2 2 rfl
      have b3 := boxN g2 3 rfl
      have b4 := boxN g2 4 rfl
      have b5 := boxN g2 5 rfl
      have b6 := boxN g2 6 rfl
      have b7 := boxN g2 7 rfl
      have G2 := gS.trans g2
      go_wp2_with fail
      (with_reducible refine (specHeadBytes_f k p k' p' s s' (q1.kept G2) (q1'.kept G2) hs hs' (hts.kept G2) HR).mono ?_); rintro e w3 ⟨v3, rfl, o3, g3⟩
      go_wp2_with fail
      (with_reducible refine (same_c (o2.s.kept g3) o3.s).mono ?_); rintro e w4 ⟨rfl, g4⟩
      go_wp2_with fail
      (with_reducible refine (same_c (o2.s.kept (g3.trans g4)) (o3.s.kept g4)).mono ?_); rintro e w5 ⟨rfl, g5⟩
      go_wp2
      go_ret
      exact ⟨rfl, ((((g1.trans G2).trans g3).trans g4).trans g5)⟩
    · have HR := Lib.hid hr
      have hlen := headBytes_len hr
      have htl := (headBody_len hr).2
      have hbo := headBytes_bytes hr
      have hfr := headFrom_bytes hr []
      simp only [List.append_nil] at hfr
      have hb2 := hfr (bytes_bv hbo (by omega))
      have HN := Lib.hid hb2
      clear hfr hbo hb2
      obtain ⟨hb, ehb⟩ : ∃ hb, headBytes ⟨⟨k, xs, tx s, p⟩, ⟨k', ys, tx s', p'⟩⟩ ts = hb := ⟨_, rfl⟩
      have IC := Lib.hid (fun (W : World) (hM : ML W) (h1 : IntS W (.slice pq xs.length cq) xs) (h2 : IntS W (.slice pq' ys.length cq') ys) (h3 : TagS W (.slice pv ts.length cv) ts) => implHeadBytes_t hM k p k' p' s s' h1 h2 hs hs' h3 HR)
      have SC := Lib.hid (fun (W : World) (h1 : IntS W (.slice pq xs.length cq) xs) (h2 : IntS W (.slice pq' ys.length cq') ys) (h3 : TagS W (.slice pv ts.length cv) ts) => specHeadBytes_t k p k' p' s s' h1 h2 hs hs' h3 HR)
      simp only [ehb] at *
      clear hr ehb
      go_wp2_with fail
      (with_reducible refine (IC.out _ (hm.kept hS) (q1.kept gS) (q1'.kept gS) (hts.kept gS)).mono ?_); rintro e w2 ⟨v2, rfl, o2, g2⟩
      have b0 := boxN g2 0 rfl
      have b1 := boxN g2 1 rfl
      have b2 := boxN g2 2 rfl
      have b3 := boxN g2 3 rfl
      have b4 := boxN g2 4 rfl
      have b5 := boxN g2 5 rfl
      have b6 := boxN g2 6 rfl
      have b7 := boxN g2 7 rfl
      have G2 := gS.trans g2
      go_wp2_with fail
      (with_reducible refine (SC.out _ (q1.kept G2) (q1'.kept G2) (hts.kept G2)).mono ?_); rintro e w3 ⟨v3, rfl, o3, g3⟩
      go_wp2_with fail
      (with_reducible refine (same_c (o2.s.kept g3) o3.s).mono ?_); rintro e w4 ⟨rfl, g4⟩
      have d4 := (g2.trans g3).trans g4
      have G4 := gS.trans d4
      have o4 := o2.s.kept (g3.trans g4)
      obtain ⟨p2, c2, rfl, hc1, hc2⟩ := o4.form
      clear o2 o3 hc1 hc2 IC SC g2 g3 g4
      have hl1 : hb.length ≤ 1048576 := by omega
      clear hlen htl b0 b1 b2 b3 b4 b5 b6 b7
      have b0 := boxN d4 0 rfl
      have b1 := boxN d4 1 rfl
      have b2 := boxN d4 2 rfl
      have b3 := boxN d4 3 rfl
      have b4 := boxN d4 4 rfl
      have b5 := boxN d4 5 rfl
      have b6 := boxN d4 6 rfl
      have b7 := boxN d4 7 rfl
      go_wp2_with fail
      (with_reducible refine (implHF_t HN o4 hl1).mono ?_); rintro e w5 ⟨pq2, cq2, pq3, cq3, pu, cu, rfl, r1, r2, r3, g5⟩
      have e5 := d4.trans g5
      have G5 := gS.trans e5
      clear b0 b1 b2 b3 b4 b5 b6 b7
      have b0 := boxN e5 0 rfl
      have b1 := boxN e5 1 rfl
      have b2 := boxN e5 2 rfl
      have b3 := boxN e5 3 rfl
      have b4 := boxN e5 4 rfl
      have b5 := boxN e5 5 rfl
      have b6 := boxN e5 6 rfl
      have b7 := boxN e5 7 rfl
      have gT := gr_alloc w5 (.cells #[.int .i64 k, .slice pq2 xs.length cq2, .string s, .int .i64 p, .int .i64 k', .slice pq3 ys.length cq3, .string s', .int .i64 p'] 27)
      have hz5 := e5.sz
      simp at hz5
      have hlt5 : w1.heap.size < w5.heap.size := by omega
      have hne5 : ¬ w1.heap.size = w5.heap.size := by omega
      clear hz5
      go_wp2_with fail
      (with_reducible refine (samePair_c k p k' p' s s' (r1.kept gT) (q1.kept (G5.trans gT)) (r2.kept gT) (q1'.kept (G5.trans gT))).mono ?_); rintro e w6 ⟨rfl, g6⟩
      go_wp2_with fail
      (with_reducible refine (sameTags_c (r3.kept (gT.trans g6)) (hts.kept ((G5.trans gT).trans g6))).mono ?_); rintro e w7 ⟨rfl, g7⟩
      go_wp2
      go_ret
      exact ⟨rfl, ((g1.trans (G5.trans gT)).trans g6).trans g7⟩
  · have hx' : ¬ ((bs.length : Int) ≤ 1048576) := by omega
    go_enter Tryd.func10, Tryd.ntmps10
    go_wp2_with fail
    go_ret
    exact ⟨rfl, Gr.refl _⟩
set_option maxRecDepth 20000 in
set_option maxHeartbeats 4000000 in
theorem FnHeadBehind_w {w : World} {v u : Value} {bs cs : List Int} (hm : ML w) (h : ByteS w v bs) (hu : ByteS w u cs) :
    Calls Tryd.prog 11 #[v, u] w fun e w' => e = .returned (.bool true) ∧ Gr w w' := by
  obtain ⟨p, cap, rfl, _, _⟩ := h.form
  obtain ⟨px, capx, rfl, _, _⟩ := hu.form
  by_cases hx : bs.length ≤ 1048576
  · by_cases hy : cs.length ≤ 1048576
    · have hx' : (decide (1048576 < (bs.length : Int))) = false := by simp; omega
      have hy' : (decide (1048576 < (cs.length : Int))) = false := by simp; omega
      go_enter Tryd.func11, Tryd.ntmps11
      go_wp2_with fail
      (with_reducible refine (DrawHeadBytes_c h).mono ?_); rintro e w1 ⟨pq, cq, pq', cq', k, p, k', p', s, s', xs, ys, v1, ts, rfl, hxl, hyl, hsl, hsl', ht1, ht2, q1, q1', hts, g1⟩
      obtain ⟨pv, cv, rfl, hv1, hv2⟩ := hts.form
      have gS := gr_alloc w1 (.cells #[.int .i64 k, .slice pq xs.length cq, .string s, .int .i64 p, .int .i64 k', .slice pq' ys.length cq', .string s', .int .i64 p'] 27)
      have hS := g1.trans gS
      have hs : s.size ≤ 2000000 := by omega
      have hs' : s'.size ≤ 2000000 := by omega
      clear hsl hsl' hxl hyl ht2 hv1 hv2
      cases hr : headOk ⟨⟨k, xs, tx s, p⟩, ⟨k', ys, tx s', p'⟩⟩ ts
      · have HR := Lib.hid hr
        clear hr
        go_wp2_with fail
        (with_reducible refine (implHeadBytes_f (hm.kept hS) k p k' p' s s' (q1.kept gS) (q1'.kept gS) hs hs' (hts.kept gS) HR).mono ?_); rintro e w2 ⟨v2, rfl, o2, g2⟩
        have b0 := boxN g2 0 rfl
        have b1 := boxN g2 1 rfl
        have b2 := boxN g2 2 rfl
        have b3 := boxN g2 3 rfl
        have b4 := boxN g2 4 rfl
        have b5 := boxN g2 5 rfl
        have b6 := boxN g2 6 rfl
        have b7 := boxN g2 7 rfl
        have G2 := gS.trans g2
        go_wp2_with fail
        (with_reducible refine (specHeadBytes_f k p k' p' s s' (q1.kept G2) (q1'.kept G2) hs hs' (hts.kept G2) HR).mono ?_); rintro e w3 ⟨v3, rfl, o3, g3⟩
        go_wp2_with fail
        (with_reducible refine (same_c (o2.s.kept g3) o3.s).mono ?_); rintro e w4 ⟨rfl, g4⟩
        go_wp2_with fail
        (with_reducible refine (same_c (o2.s.kept (g3.trans g4)) (o3.s.kept g4)).mono ?_); rintro e w5 ⟨rfl, g5⟩
        go_wp2
        go_ret
        exact ⟨rfl, ((((g1.trans G2).trans g3).trans g4).trans g5)⟩
      · have HR := Lib.hid hr
        have hlen := headBytes_len hr
        have htl := (headBody_len hr).2
        have hbo := headBytes_bytes hr
        have HN : Hid (∀ c : Int, 0 ≤ c → c ≤ 255 → headFrom (headBytes ⟨⟨k, xs, tx s, p⟩, ⟨k', ys, tx s', p'⟩⟩ ts ++ [c]) = some (⟨⟨k, xs, tx s, p⟩, ⟨k', ys, tx s', p'⟩⟩, ts, (headBytes ⟨⟨k, xs, tx s, p⟩, ⟨k', ys, tx s', p'⟩⟩ ts).length)) := Lib.hid (fun c h0 h1 => headFrom_bytes hr [c] (bytes_bv (bytes_app hbo (fun x hx => by rw [List.mem_singleton.1 hx]; exact ⟨h0, h1⟩)) (by rw [List.length_append]; simp; omega)))
        clear hbo
        obtain ⟨hb, ehb⟩ : ∃ hb, headBytes ⟨⟨k, xs, tx s, p⟩, ⟨k', ys, tx s', p'⟩⟩ ts = hb := ⟨_, rfl⟩
        have IC := Lib.hid (fun (W : World) (hM : ML W) (h1 : IntS W (.slice pq xs.length cq) xs) (h2 : IntS W (.slice pq' ys.length cq') ys) (h3 : TagS W (.slice pv ts.length cv) ts) => implHeadBytes_t hM k p k' p' s s' h1 h2 hs hs' h3 HR)
        have SC := Lib.hid (fun (W : World) (h1 : IntS W (.slice pq xs.length cq) xs) (h2 : IntS W (.slice pq' ys.length cq') ys) (h3 : TagS W (.slice pv ts.length cv) ts) => specHeadBytes_t k p k' p' s s' h1 h2 hs hs' h3 HR)
        simp only [ehb] at *
        clear hr ehb
        go_wp2_with fail
        (with_reducible refine (IC.out _ (hm.kept hS) (q1.kept gS) (q1'.kept gS) (hts.kept gS)).mono ?_); rintro e w2 ⟨v2, rfl, o2, g2⟩
        have b0 := boxN g2 0 rfl
        have b1 := boxN g2 1 rfl
        have b2 := boxN g2 2 rfl
        have b3 := boxN g2 3 rfl
        have b4 := boxN g2 4 rfl
        have b5 := boxN g2 5 rfl
        have b6 := boxN g2 6 rfl
        have b7 := boxN g2 7 rfl
        have G2 := gS.trans g2
        go_wp2_with fail
        (with_reducible refine (SC.out _ (q1.kept G2) (q1'.kept G2) (hts.kept G2)).mono ?_); rintro e w3 ⟨v3, rfl, o3, g3⟩
        go_wp2_with fail
        (with_reducible refine (same_c (o2.s.kept g3) o3.s).mono ?_); rintro e w4 ⟨rfl, g4⟩
        have d4 := (g2.trans g3).trans g4
        have G4 := gS.trans d4
        have o4 := o2.s.kept (g3.trans g4)
        obtain ⟨p2, c2, rfl, hc1, hc2⟩ := o4.form
        clear o2 o3 hc1 hc2 IC SC g2 g3 g4
        have hk0 : (0 : Int) ≤ (cs.length : Int) % 256 := by omega
        have hk1 : (cs.length : Int) % 256 < 256 := by omega
        obtain ⟨c, hc⟩ : ∃ c, (cs.length : Int) % 256 = c := ⟨_, rfl⟩
        have H1 := Lib.hid (HN.out c (by omega) (by omega))
        have hb76 : hb.length ≤ 104 := by omega
        have hl1 : (hb ++ [c]).length ≤ 1048576 := by rw [List.length_append]; simp; omega
        clear hlen htl HN hk0 hk1 b0 b1 b2 b3 b4 b5 b6 b7
        have b0 := boxN d4 0 rfl
        have b1 := boxN d4 1 rfl
        have b2 := boxN d4 2 rfl
        have b3 := boxN d4 3 rfl
        have b4 := boxN d4 4 rfl
        have b5 := boxN d4 5 rfl
        have b6 := boxN d4 6 rfl
        have b7 := boxN d4 7 rfl
        have gM := gr_alloc w4 (.cells #[] 3)
        go_wp2_with (first
          | (at_builtin; refine wpl_appI rfl (.tmp 62) (.tmp 63) rfl rfl (IntO.mt w4) rfl (o4.kept gM) (by simp; omega) (by simp) ?_; intro v8 w8 o8 h8; have g8 : Gr w4 w8 := gM.thenB h8; have o8' : IntO w4.heap.size 3 w8 v8 hb := (by simpa using o8))
          | (at_builtin; refine wpl_appI rfl (.tmp 64) (.tmp 68) rfl rfl (o8'.kept (gr_alloc w8 _)) rfl (IntO.one c).s (by simp; omega) (Nat.le_trans g8.sz (gr_alloc w8 _).sz) ?_; intro v9 w9 o9 h9; have g9 : Gr w4 w9 := (g8.alloc _).thenB h9)
          | (go_at_call 37; (with_reducible refine (implHF_t H1 o9.s hl1).mono ?_); rintro e w5 ⟨pq2, cq2, pq3, cq3, pu, cu, rfl, r1, r2, r3, g5'⟩; have g5 : Gr w4 w5 := g9.trans g5'; have e5 := d4.trans g5; have G5 := gS.trans e5; have hz5 := e5.sz; simp at hz5; have hlt5 : w1.heap.size < w5.heap.size := (by omega); have hne5 : ¬ w1.heap.size = w5.heap.size := (by omega); clear hz5; have b0 := boxN e5 0 rfl; have b1 := boxN e5 1 rfl; have b2 := boxN e5 2 rfl; have b3 := boxN e5 3 rfl; have b4 := boxN e5 4 rfl; have b5 := boxN e5 5 rfl; have b6 := boxN e5 6 rfl; have b7 := boxN e5 7 rfl; have gT := gr_alloc w5 (.cells #[.int .i64 k, .slice pq2 xs.length cq2, .string s, .int .i64 p, .int .i64 k', .slice pq3 ys.length cq3, .string s', .int .i64 p'] 27))
          | (go_at_call 38; (with_reducible refine (samePair_c k p k' p' s s' (r1.kept gT) (q1.kept (G5.trans gT)) (r2.kept gT) (q1'.kept (G5.trans gT))).mono ?_); rintro e w6 ⟨rfl, g6⟩)
          | (go_at_call 39; (with_reducible refine (sameTags_c (r3.kept (gT.trans g6)) (hts.kept ((G5.trans gT).trans g6))).mono ?_); rintro e w7 ⟨rfl, g7⟩))
        go_ret
        exact ⟨rfl, ((g1.trans (G5.trans gT)).trans g6).trans g7⟩
    · have hx' : (decide (1048576 < (bs.length : Int))) = false := by simp; omega
      have hy' : (decide (1048576 < (cs.length : Int))) = true := by simp; omega
      go_enter Tryd.func11, Tryd.ntmps11
      go_wp2_with fail
      go_ret
      exact ⟨rfl, Gr.refl _⟩
  · have hx' : (decide (1048576 < (bs.length : Int))) = true := by simp; omega
    go_enter Tryd.func11, Tryd.ntmps11
    go_wp2_with fail
    go_ret
    exact ⟨rfl, Gr.refl _⟩
end Go.Proofs.YtikkjcfadbhemaaDoor
