/- The walks of laws.FnSniffSizeLine, FnSniffSizeTexts, FnSniffSizeOld, FnSniffSizeHead, FnSniffNone. -/
import Derived.Test.YtdbepkcpdglppaaGreatDoorLawsZ
import Derived.Test.YtdbepkcpdglppaaGreatDoorLawsH
import Derived.Test.YtdbepkcpdglppaaGreatDoorGU
import Derived.Test.YtdbepkcpdglppaaGreatDoorOldJ
import Derived.Test.YtdbepkcpdglppaaGreatDoorDrawJ
import Derived.Test.YtdbepkcpdglppaaGreatDoorSizR
import Derived.Test.YtdbepkcpdglppaaGreatDoorAdrS
import Derived.Test.YtdbepkcpdglppaaGreatDoorHeadI
namespace Go.Proofs.YtdbepkcpdglppaaGreatDoor
open Go.RowKit
theorem TextBytes_c (w : World) (s : ByteArray) (hs : s.size ≤ 120) :
    Calls Tryz.prog 13 #[.string s] w fun e w' => ∃ v', e = .returned (.tuple #[v', .bool true]) ∧ IntO w.heap.size 3 w' v' (sb s) ∧ Gr w w' := by
  have h1 : ¬ ((120 : Int) < (s.size : Int)) := by omega
  go_enter Tryz.func13, Tryz.ntmps13
  go_wp2_with fail
  (with_reducible refine (textBytes_c _ s (by omega)).mono ?_); rintro e w1 ⟨v1, rfl, o1, g1⟩
  go_wp2
  go_ret2
  exact ⟨_, rfl, o1, g1⟩
theorem textS_c (w : World) {t : Tx} {xs : List Int} (ht : t.length ≤ 120) (he : Hid (tb t = xs)) :
    Calls Tryz.prog 13 #[.string (S t)] w fun e w' => ∃ v', e = .returned (.tuple #[v', .bool true]) ∧ IntO w.heap.size 3 w' v' xs ∧ Gr w w' := by
  have := TextBytes_c w (S t) (by rw [S_len]; exact ht)
  rwa [sb_tb, tx_S, he.out] at this
theorem specOld_t {w : World} {q : Value} {xs : List Int} (c k port : Int) (s u : ByteArray) (hq : IntS w q xs) (hs : s.size ≤ 2000000) (hu : u.size ≤ 2000000) {hb : List Int} (hok : Hid (oldOk ⟨c, ⟨k, xs, tx s, port⟩, tx u⟩ = true)) (he : Hid (oldBytes ⟨c, ⟨k, xs, tx s, port⟩, tx u⟩ = hb)) :
    Calls Tryz.prog 21 #[.agg #[.int .i64 c, .int .i64 k, q, .string s, .int .i64 port, .string u]] w fun e w' => ∃ v', e = .returned (.tuple #[v', .bool true]) ∧ IntO w.heap.size 3 w' v' hb ∧ Gr w w' := by
  have := OldBytes_c c k port s u hq hs hu
  rw [hok.out, if_pos rfl, he.out] at this
  exact this
theorem specOld_f {w : World} {q : Value} {xs : List Int} (c k port : Int) (s u : ByteArray) (hq : IntS w q xs) (hs : s.size ≤ 2000000) (hu : u.size ≤ 2000000) (hok : Hid (oldOk ⟨c, ⟨k, xs, tx s, port⟩, tx u⟩ = false)) :
    Calls Tryz.prog 21 #[.agg #[.int .i64 c, .int .i64 k, q, .string s, .int .i64 port, .string u]] w fun e w' => ∃ v', e = .returned (.tuple #[v', .bool false]) ∧ IntO w.heap.size 3 w' v' [] ∧ Gr w w' := by
  have := OldBytes_c c k port s u hq hs hu
  rw [hok.out, if_neg (by decide)] at this
  exact this
theorem implOld_t {w : World} {q : Value} {xs : List Int} (hm : ML w) (c k port : Int) (s u : ByteArray) (hq : IntS w q xs) (hs : s.size ≤ 2000000) (hu : u.size ≤ 2000000) {hb : List Int} (hok : Hid (oldOk ⟨c, ⟨k, xs, tx s, port⟩, tx u⟩ = true)) (he : Hid (oldBytes ⟨c, ⟨k, xs, tx s, port⟩, tx u⟩ = hb)) :
    Calls Tryz.prog 20 #[.agg #[.int .i64 c, .int .i64 k, q, .string s, .int .i64 port, .string u]] w fun e w' => ∃ v', e = .returned (.tuple #[v', .bool true]) ∧ IntO w.heap.size 3 w' v' hb ∧ Gr w w' := by
  have := implOldBytes_t hm c k port s u hq hs hu hok
  rwa [he.out] at this
theorem sniffSize_mt : Hid (sniffSize [] = none) := Lib.hid sniffSize_nil
theorem oldBytes_bytes {x : Oldq} (h : oldOk x = true) : bytesOnly (oldBytes x) := by
  obtain ⟨h1, h2, h3⟩ := old_parts h
  have hc := inB_iff.1 h1
  have z : bytesOnly [0, 0, 0, 1] := by
    intro y hy
    simp only [List.mem_cons, List.mem_nil_iff, or_false] at hy
    omega
  have z0 : bytesOnly [0] := by
    intro y hy
    simp only [List.mem_cons, List.mem_nil_iff, or_false] at hy
    omega
  have z4 : bytesOnly [4, x.cmd] := by
    intro y hy
    simp only [List.mem_cons, List.mem_nil_iff, or_false] at hy
    omega
  have e : oldBytes x = [4, x.cmd] ++ (num2 x.dst.port ++ ((if x.dst.kind = 1 then x.dst.quad else [0, 0, 0, 1]) ++ (tb x.user ++ ([0] ++ (if x.dst.kind = 3 then tb x.dst.name ++ [0] else []))))) := rfl
  rw [e]
  refine bytes_app z4 (bytes_app (num2_bytes _) (bytes_app ?_ (bytes_app (tb_bytes _) (bytes_app z0 ?_))))
  · split
    · rcases adr_kind h2 with ⟨_, q, _⟩ | ⟨e, _⟩
      · exact quad_bytesOnly q
      · omega
    · exact z
  · split
    · exact bytes_app (tb_bytes _) z0
    · intro y hy; simp at hy
set_option maxRecDepth 20000 in
set_option maxHeartbeats 4000000 in
theorem FnSniffSizeOld_w {w : World} {v : Value} {bs : List Int} (hm : ML w) (he : ErrV w) (ht : Tab w) (h : ByteS w v bs) :
    Calls Tryz.prog 5 #[v] w fun e w' => e = .returned (.bool true) ∧ Gr w w' := by
  obtain ⟨p, cap, rfl, _, _⟩ := h.form
  by_cases hx : bs.length ≤ 1048576
  rotate_left
  · have hx' : ¬ ((bs.length : Int) ≤ 1048576) := by omega
    go_enter Tryz.func5, Tryz.ntmps5
    go_wp2_with fail
    go_ret
    exact ⟨rfl, Gr.refl _⟩
  have hx' : ((bs.length : Int) ≤ 1048576) := by omega
  go_enter Tryz.func5, Tryz.ntmps5
  go_wp2_with fail
  (with_reducible refine (DrawOldBytes_c h).mono ?_); rintro e w1 ⟨pq, cq, c, k, p, s, u, xs, rfl, hxl, hsl, hul, q1, g1⟩
  have gS := gr_alloc w1 (.cells #[.int .i64 c, .int .i64 k, .slice pq xs.length cq, .string s, .int .i64 p, .string u] 39)
  have hS := g1.trans gS
  have hs : s.size ≤ 2000000 := by omega
  have hu : u.size ≤ 2000000 := by omega
  clear hsl hul hxl
  cases hr : oldOk ⟨c, ⟨k, xs, tx s, p⟩, tx u⟩
  · have HR := Lib.hid hr
    clear hr
    go_wp2_with fail
    (with_reducible refine (implOldBytes_f (hm.kept hS) c k p s u (q1.kept gS) hs hu HR).mono ?_); rintro e w2 ⟨v2, rfl, o2, g2⟩
    obtain ⟨p2, c2, hv2⟩ := o2.len
    subst hv2
    simp only [List.length_nil] at o2
    have G2 := hS.trans g2
    go_wp2_with fail
    (with_reducible refine (implSize_n (hm.kept G2) (he.kept G2) (ht.kept G2) o2.s (by simp) sniffSize_mt).mono ?_); rintro e w3 ⟨rfl, g3⟩
    have d3 := g2.trans g3
    have b0 := boxN d3 0 rfl
    have b1 := boxN d3 1 rfl
    have b2 := boxN d3 2 rfl
    have b3 := boxN d3 3 rfl
    have b4 := boxN d3 4 rfl
    have b5 := boxN d3 5 rfl
    have G3 := gS.trans d3
    go_wp2_with fail
    (with_reducible refine (specOld_f c k p s u (q1.kept G3) hs hu HR).mono ?_); rintro e w4 ⟨v4, rfl, o4, g4⟩
    have o24 := o2.s.kept (g3.trans g4)
    go_wp2_with fail
    (with_reducible refine (same_c o24 o4.s).mono ?_); rintro e w5 ⟨rfl, g5⟩
    go_wp2_with fail
    (with_reducible refine (same_c (o24.kept g5) (o4.s.kept g5)).mono ?_); rintro e w6 ⟨rfl, g6⟩
    go_wp2
    go_ret
    exact ⟨rfl, ((((g1.trans G3).trans g4).trans g5).trans g6)⟩
  · have HR := Lib.hid hr
    have hlen := oldBytes_len hr
    have hbb := bytes_bv (oldBytes_bytes hr) (by omega)
    obtain ⟨sk, sz⟩ := sniff_old hr hbb
    obtain ⟨hb, ehb⟩ : ∃ hb, oldBytes ⟨c, ⟨k, xs, tx s, p⟩, tx u⟩ = hb := ⟨_, rfl⟩
    have EH := Lib.hid ehb
    simp only [ehb] at sk sz hlen
    have SK := Lib.hid sk
    have SZ := Lib.hid sz
    clear hr ehb sk sz hbb
    go_wp2_with fail
    (with_reducible refine (implOld_t (hm.kept hS) c k p s u (q1.kept gS) hs hu HR EH).mono ?_); rintro e w2 ⟨v2, rfl, o2, g2⟩
    obtain ⟨p2, c2, hv2⟩ := o2.len
    subst hv2
    have G2 := hS.trans g2
    go_wp2_with fail
    (with_reducible refine (implSize_s (hm.kept G2) (he.kept G2) (ht.kept G2) o2.s (by omega) SZ).mono ?_); rintro e w3 ⟨rfl, g3⟩
    have d3 := g2.trans g3
    have b0 := boxN d3 0 rfl
    have b1 := boxN d3 1 rfl
    have b2 := boxN d3 2 rfl
    have b3 := boxN d3 3 rfl
    have b4 := boxN d3 4 rfl
    have b5 := boxN d3 5 rfl
    have G3 := gS.trans d3
    go_wp2_with fail
    (with_reducible refine (specOld_t c k p s u (q1.kept G3) hs hu HR EH).mono ?_); rintro e w4 ⟨v4, rfl, o4, g4⟩
    have o24 := o2.s.kept (g3.trans g4)
    go_wp2_with fail
    (with_reducible refine (same_c o24 o4.s).mono ?_); rintro e w5 ⟨rfl, g5⟩
    go_wp2_with fail
    (with_reducible refine (implKind (o24.kept g5) SK).mono ?_); rintro e w6 ⟨rfl, g6⟩
    go_wp2
    go_ret
    exact ⟨rfl, ((((g1.trans G3).trans g4).trans g5).trans g6)⟩
set_option maxRecDepth 20000 in
set_option maxHeartbeats 4000000 in
theorem FnSniffSizeHead_w {w : World} {v : Value} {bs : List Int} (hm : ML w) (he : ErrV w) (ht : Tab w) (h : ByteS w v bs) :
    Calls Tryz.prog 6 #[v] w fun e w' => e = .returned (.bool true) ∧ Gr w w' := by
  obtain ⟨p, cap, rfl, _, _⟩ := h.form
  by_cases hx : bs.length ≤ 1048576
  rotate_left
  · have hx' : ¬ ((bs.length : Int) ≤ 1048576) := by omega
    go_enter Tryz.func6, Tryz.ntmps6
    go_wp2_with fail
    go_ret
    exact ⟨rfl, Gr.refl _⟩
  have hx' : ((bs.length : Int) ≤ 1048576) := by omega
  go_enter Tryz.func6, Tryz.ntmps6
  go_wp2_with fail
  (with_reducible refine (DrawHeadBytes_c h).mono ?_); rintro e w1 ⟨pq, cq, pq', cq', k, p, k', p', s, s', xs, ys, v1, ts, rfl, hxl, hyl, hsl, hsl', ht1, ht2, q1, q1', hts, g1⟩
  obtain ⟨pv, cv, rfl, hv1, hv2⟩ := hts.form
  have gS := gr_alloc w1 (.cells #[.int .i64 k, .slice pq xs.length cq, .string s, .int .i64 p, .int .i64 k', .slice pq' ys.length cq', .string s', .int .i64 p'] 27)
  have hS := g1.trans gS
  have hs : s.size ≤ 2000000 := by omega
  have hs' : s'.size ≤ 2000000 := by omega
  clear hsl hsl' hxl hyl ht1 ht2 hv1 hv2
  cases hr : headOk ⟨⟨k, xs, tx s, p⟩, ⟨k', ys, tx s', p'⟩⟩ ts
  · have HR := Lib.hid hr
    clear hr
    go_wp2_with fail
    (with_reducible refine (implHeadBytes_f (hm.kept hS) k p k' p' s s' (q1.kept gS) (q1'.kept gS) hs hs' (hts.kept gS) HR).mono ?_); rintro e w2 ⟨v2, rfl, o2, g2⟩
    obtain ⟨p2, c2, hv2⟩ := o2.len
    subst hv2
    simp only [List.length_nil] at o2
    have G2 := hS.trans g2
    go_wp2_with fail
    (with_reducible refine (implSize_n (hm.kept G2) (he.kept G2) (ht.kept G2) o2.s (by simp) sniffSize_mt).mono ?_); rintro e w3 ⟨rfl, g3⟩
    have d3 := g2.trans g3
    have b0 := boxN d3 0 rfl
    have b1 := boxN d3 1 rfl
    have b2 := boxN d3 2 rfl
    have b3 := boxN d3 3 rfl
    have b4 := boxN d3 4 rfl
    have b5 := boxN d3 5 rfl
    have b6 := boxN d3 6 rfl
    have b7 := boxN d3 7 rfl
    have G3 := gS.trans d3
    go_wp2_with fail
    (with_reducible refine (specHeadBytes_f k p k' p' s s' (q1.kept G3) (q1'.kept G3) hs hs' (hts.kept G3) HR).mono ?_); rintro e w4 ⟨v4, rfl, o4, g4⟩
    have o24 := o2.s.kept (g3.trans g4)
    go_wp2_with fail
    (with_reducible refine (same_c o24 o4.s).mono ?_); rintro e w5 ⟨rfl, g5⟩
    go_wp2_with fail
    (with_reducible refine (same_c (o24.kept g5) (o4.s.kept g5)).mono ?_); rintro e w6 ⟨rfl, g6⟩
    go_wp2
    go_ret
    exact ⟨rfl, ((((g1.trans G3).trans g4).trans g5).trans g6)⟩
  · have HR := Lib.hid hr
    have hlen : (headBytes ⟨⟨k, xs, tx s, p⟩, ⟨k', ys, tx s', p'⟩⟩ ts).length ≤ 104 := by have := headBytes_len hr; have := (headBody_len hr).2; omega
    have hbb := bytes_bv (headBytes_bytes hr) (by omega)
    obtain ⟨sk, sz⟩ := sniff_head hr hbb
    obtain ⟨hb, ehb⟩ : ∃ hb, headBytes ⟨⟨k, xs, tx s, p⟩, ⟨k', ys, tx s', p'⟩⟩ ts = hb := ⟨_, rfl⟩
    have IC := Lib.hid (fun (W : World) (hM : ML W) (h1 : IntS W (.slice pq xs.length cq) xs) (h2 : IntS W (.slice pq' ys.length cq') ys) (h3 : TagS W (.slice pv ts.length cv) ts) => implHeadBytes_t hM k p k' p' s s' h1 h2 hs hs' h3 HR)
    have SC := Lib.hid (fun (W : World) (h1 : IntS W (.slice pq xs.length cq) xs) (h2 : IntS W (.slice pq' ys.length cq') ys) (h3 : TagS W (.slice pv ts.length cv) ts) => specHeadBytes_t k p k' p' s s' h1 h2 hs hs' h3 HR)
    simp only [ehb] at *
    have SK := Lib.hid sk
    have SZ := Lib.hid sz
    clear hr ehb sk sz hbb
    go_wp2_with fail
    (with_reducible refine (IC.out _ (hm.kept hS) (q1.kept gS) (q1'.kept gS) (hts.kept gS)).mono ?_); rintro e w2 ⟨v2, rfl, o2, g2⟩
    obtain ⟨p2, c2, hv2⟩ := o2.len
    subst hv2
    have G2 := hS.trans g2
    go_wp2_with fail
    (with_reducible refine (implSize_s (hm.kept G2) (he.kept G2) (ht.kept G2) o2.s (by omega) SZ).mono ?_); rintro e w3 ⟨rfl, g3⟩
    have d3 := g2.trans g3
    have b0 := boxN d3 0 rfl
    have b1 := boxN d3 1 rfl
    have b2 := boxN d3 2 rfl
    have b3 := boxN d3 3 rfl
    have b4 := boxN d3 4 rfl
    have b5 := boxN d3 5 rfl
    have b6 := boxN d3 6 rfl
    have b7 := boxN d3 7 rfl
    have G3 := gS.trans d3
    go_wp2_with fail
    (with_reducible refine (SC.out _ (q1.kept G3) (q1'.kept G3) (hts.kept G3)).mono ?_); rintro e w4 ⟨v4, rfl, o4, g4⟩
    have o24 := o2.s.kept (g3.trans g4)
    go_wp2_with fail
    (with_reducible refine (same_c o24 o4.s).mono ?_); rintro e w5 ⟨rfl, g5⟩
    go_wp2_with fail
    (with_reducible refine (implKind (o24.kept g5) SK).mono ?_); rintro e w6 ⟨rfl, g6⟩
    go_wp2
    go_ret
    exact ⟨rfl, ((((g1.trans G3).trans g4).trans g5).trans g6)⟩
set_option maxHeartbeats 2000000 in
theorem FnSniffNone_w {w : World} {v : Value} {bs : List Int} (hm : ML w) (he : ErrV w) (ht : Tab w) (h : ByteS w v bs) :
    Calls Tryz.prog 7 #[v] w fun e w' => e = .returned (.bool true) ∧ Gr w w' := by
  obtain ⟨p, cap, rfl, _, _⟩ := h.form
  by_cases hx : bs.length ≤ 1048576
  rotate_left
  · have hx' : ¬ ((bs.length : Int) ≤ 1048576) := by omega
    go_enter Tryz.func7, Tryz.ntmps7
    go_wp2_with fail
    go_ret
    exact ⟨rfl, Gr.refl _⟩
  have hx' : ((bs.length : Int) ≤ 1048576) := by omega
  go_enter Tryz.func7, Tryz.ntmps7
  go_wp2_with fail
  (with_reducible refine (DrawSniffKind_c h).mono ?_); rintro e w1 ⟨v1, xs, rfl, hxl, o1, g1⟩
  have hs := o1.s
  obtain ⟨q, cq, rfl, _, _⟩ := hs.form
  have hl : xs.length ≤ 1048576 := by omega
  clear o1
  have SC := fun (W : World) (hW : IntS W (.slice q xs.length cq) xs) => specSniffKind_c hW
  obtain ⟨k, hk⟩ : ∃ k, sniffKind xs = k := ⟨_, rfl⟩
  rw [hk] at SC
  have SCH := Lib.hid SC
  have HK := Lib.hid hk
  clear SC
  by_cases hn : k = 0 ∨ k = 6
  · have SZ : Hid (sniffSize xs = none) := Lib.hid (sniffSize_none (by rw [hk]; exact hn))
    have e06 : ((k != 0) && (k != 6)) = false := by rcases hn with rfl | rfl <;> rfl
    clear hk
    go_wp2_with fail
    (with_reducible refine (implKind hs HK).mono ?_); rintro e w2 ⟨rfl, g2⟩
    go_wp2_with fail
    (with_reducible refine (SCH.out _ (hs.kept g2)).mono ?_); rintro e w3 ⟨rfl, g3⟩
    have G3 := (g1.trans g2).trans g3
    rcases hn with rfl | rfl
    · go_wp2_with fail
      (with_reducible refine (implSize_n (hm.kept G3) (he.kept G3) (ht.kept G3) (hs.kept (g2.trans g3)) hl SZ).mono ?_); rintro e w4 ⟨rfl, g4⟩
      go_wp2
      go_ret
      exact ⟨rfl, G3.trans g4⟩
    · go_wp2_with fail
      (with_reducible refine (implSize_n (hm.kept G3) (he.kept G3) (ht.kept G3) (hs.kept (g2.trans g3)) hl SZ).mono ?_); rintro e w4 ⟨rfl, g4⟩
      go_wp2
      go_ret
      exact ⟨rfl, G3.trans g4⟩
  · have e0 : (k != 0) = true := bne_iff_ne.2 (fun e => hn (.inl e))
    have e6 : (k != 6) = true := bne_iff_ne.2 (fun e => hn (.inr e))
    clear hk hn
    go_wp2_with fail
    (with_reducible refine (implKind hs HK).mono ?_); rintro e w2 ⟨rfl, g2⟩
    go_wp2_with fail
    (with_reducible refine (SCH.out _ (hs.kept g2)).mono ?_); rintro e w3 ⟨rfl, g3⟩
    go_wp2
    go_ret
    exact ⟨rfl, (g1.trans g2).trans g3⟩
set_option maxRecDepth 20000 in
set_option maxHeartbeats 4000000 in
theorem FnSniffSizeLine_w {w : World} {v : Value} {bs : List Int} (hm : ML w) (he : ErrV w) (ht : Tab w) (h : ByteS w v bs) :
    Calls Tryz.prog 3 #[v] w fun e w' => e = .returned (.bool true) ∧ Gr w w' := by
  obtain ⟨p, cap, rfl, _, _⟩ := h.form
  by_cases hx : bs.length ≤ 1048576
  rotate_left
  · have hx' : ¬ ((bs.length : Int) ≤ 1048576) := by omega
    go_enter Tryz.func3, Tryz.ntmps3
    go_wp2_with fail
    go_ret
    exact ⟨rfl, Gr.refl _⟩
  have hx' : ((bs.length : Int) ≤ 1048576) := by omega
  go_enter Tryz.func3, Tryz.ntmps3
  go_wp2_with fail
  (with_reducible refine (DrawLineText_c h).mono ?_); rintro e w1 ⟨pq, cq, pq', cq', k, p, k', p', s, s', xs, ys, rfl, hxl, hyl, hsl, hsl', q1, q1', g1⟩
  have gS := gr_alloc w1 (.cells #[.int .i64 k, .slice pq xs.length cq, .string s, .int .i64 p, .int .i64 k', .slice pq' ys.length cq', .string s', .int .i64 p'] 27)
  have hS := g1.trans gS
  have hs : s.size ≤ 2000000 := by omega
  have hs' : s'.size ≤ 2000000 := by omega
  clear hsl hsl' hxl hyl
  cases hr : parOk ⟨⟨k, xs, tx s, p⟩, ⟨k', ys, tx s', p'⟩⟩
  · have HR := Lib.hid hr
    clear hr
    go_wp2_with fail
    (with_reducible refine (implLine_f (hm.kept hS) (ht.kept hS) k p k' p' s s' (q1.kept gS) (q1'.kept gS) hs hs' HR).mono ?_); rintro e w2 ⟨rfl, g2⟩
    have b0 := boxN g2 0 rfl
    have b1 := boxN g2 1 rfl
    have b2 := boxN g2 2 rfl
    have b3 := boxN g2 3 rfl
    have b4 := boxN g2 4 rfl
    have b5 := boxN g2 5 rfl
    have b6 := boxN g2 6 rfl
    have b7 := boxN g2 7 rfl
    have G2 := gS.trans g2
    go_wp2_with fail
    (with_reducible refine (specLine_f k p k' p' s s' (q1.kept G2) (q1'.kept G2) hs hs' HR).mono ?_); rintro e w3 ⟨rfl, g3⟩
    go_wp2
    go_ret
    exact ⟨rfl, (g1.trans G2).trans g3⟩
  · have HR := Lib.hid hr
    obtain ⟨hl1, hl2⟩ := lineText_len hr
    obtain ⟨_, sk, sz⟩ := sniff_line hr hl1
    obtain ⟨t, e1⟩ : ∃ t, lineText ⟨⟨k, xs, tx s, p⟩, ⟨k', ys, tx s', p'⟩⟩ = t := ⟨_, rfl⟩
    simp only [e1] at hl1 hl2 sk sz
    have E1 := Lib.hid e1
    have n1 := S_notEmpty hl2
    have hzl : t.length = (tb t).length := (tb_len t).symm
    rw [hzl] at sz
    obtain ⟨hb, ehb⟩ : ∃ hb, tb t = hb := ⟨_, rfl⟩
    have EH := Lib.hid ehb
    simp only [ehb] at sk sz hzl
    have SK := Lib.hid sk
    have SZ := Lib.hid sz
    have hbl : hb.length ≤ 1048576 := by omega
    clear hr e1 sk sz ehb hzl
    go_wp2_with fail
    (with_reducible refine (implLine_t (hm.kept hS) (ht.kept hS) k p k' p' s s' (q1.kept gS) (q1'.kept gS) hs hs' HR E1).mono ?_); rintro e w2 ⟨rfl, g2⟩
    have b0 := boxN g2 0 rfl
    have b1 := boxN g2 1 rfl
    have b2 := boxN g2 2 rfl
    have b3 := boxN g2 3 rfl
    have b4 := boxN g2 4 rfl
    have b5 := boxN g2 5 rfl
    have b6 := boxN g2 6 rfl
    have b7 := boxN g2 7 rfl
    have G2 := gS.trans g2
    go_wp2_with fail
    (with_reducible refine (specLine_t k p k' p' s s' (q1.kept G2) (q1'.kept G2) hs hs' HR E1).mono ?_); rintro e w3 ⟨rfl, g3⟩
    have G3 := (g1.trans G2).trans g3
    go_wp2_with fail
    (with_reducible refine (textS_c _ hl1 EH).mono ?_); rintro e w4 ⟨v4, rfl, o4, g4⟩
    obtain ⟨p4, c4, hv4⟩ := o4.len
    subst hv4
    have G4 := G3.trans g4
    go_wp2_with fail
    (with_reducible refine (implSize_s (hm.kept G4) (he.kept G4) (ht.kept G4) o4.s hbl SZ).mono ?_); rintro e w5 ⟨rfl, g5⟩
    go_wp2_with fail
    (with_reducible refine (implKind (o4.s.kept g5) SK).mono ?_); rintro e w6 ⟨rfl, g6⟩
    go_wp2
    go_ret
    exact ⟨rfl, (G4.trans g5).trans g6⟩
theorem specConn_t {w : World} {q : Value} {xs : List Int} (k port : Int) (s : ByteArray) (hq : IntS w q xs) (hs : s.size ≤ 2000000) {t : Tx} (hok : Hid (adrOk ⟨k, xs, tx s, port⟩ = true)) (he : Hid (connOf ⟨k, xs, tx s, port⟩ = t)) :
    Calls Tryz.prog 18 #[.agg #[.int .i64 k, q, .string s, .int .i64 port]] w fun e w' => e = .returned (.string (S t)) ∧ Gr w w' := by
  have := ConnectText_c k port s hq hs
  rw [hok.out, if_pos rfl] at this
  have e : connText (addrText ⟨k, xs, tx s, port⟩) = t := he.out
  rw [e] at this
  exact this
theorem specConn_f {w : World} {q : Value} {xs : List Int} (k port : Int) (s : ByteArray) (hq : IntS w q xs) (hs : s.size ≤ 2000000) (hok : Hid (adrOk ⟨k, xs, tx s, port⟩ = false)) :
    Calls Tryz.prog 18 #[.agg #[.int .i64 k, q, .string s, .int .i64 port]] w fun e w' => e = .returned (.string ⟨#[]⟩) ∧ Gr w w' := by
  have := ConnectText_c k port s hq hs
  rw [hok.out, if_neg (by decide)] at this
  exact this
theorem implConn_t {w : World} {q : Value} {xs : List Int} (hm : ML w) (ht : Tab w) (k port : Int) (s : ByteArray) (hq : IntS w q xs) (hs : s.size ≤ 2000000) {t : Tx} (hok : Hid (adrOk ⟨k, xs, tx s, port⟩ = true)) (he : Hid (connOf ⟨k, xs, tx s, port⟩ = t)) :
    Calls Tryz.prog 17 #[.agg #[.int .i64 k, q, .string s, .int .i64 port]] w fun e w' => e = .returned (.string (S t)) ∧ Gr w w' := by
  have := implConnectText_c hm ht k port s hq hs
  rw [hok.out, if_pos rfl] at this
  have e : connText (addrText ⟨k, xs, tx s, port⟩) = t := he.out
  rw [e] at this
  exact this
theorem implConn_f {w : World} {q : Value} {xs : List Int} (hm : ML w) (ht : Tab w) (k port : Int) (s : ByteArray) (hq : IntS w q xs) (hs : s.size ≤ 2000000) (hok : Hid (adrOk ⟨k, xs, tx s, port⟩ = false)) :
    Calls Tryz.prog 17 #[.agg #[.int .i64 k, q, .string s, .int .i64 port]] w fun e w' => e = .returned (.string ⟨#[]⟩) ∧ Gr w w' := by
  have := implConnectText_c hm ht k port s hq hs
  rw [hok.out, if_neg (by decide)] at this
  exact this
set_option maxRecDepth 20000 in
set_option maxHeartbeats 4000000 in
theorem FnSniffSizeTexts_w {w : World} {v : Value} {bs : List Int} (hm : ML w) (he : ErrV w) (ht : Tab w) (h : ByteS w v bs) :
    Calls Tryz.prog 4 #[v] w fun e w' => e = .returned (.bool true) ∧ Gr w w' := by
  obtain ⟨p, cap, rfl, _, _⟩ := h.form
  by_cases hx : bs.length ≤ 1048576
  rotate_left
  · have hx' : ¬ ((bs.length : Int) ≤ 1048576) := by omega
    go_enter Tryz.func4, Tryz.ntmps4
    go_wp2_with fail
    go_ret
    exact ⟨rfl, Gr.refl _⟩
  have hx' : ((bs.length : Int) ≤ 1048576) := by omega
  go_enter Tryz.func4, Tryz.ntmps4
  go_wp2_with fail
  (with_reducible refine (DrawConnectText_c h).mono ?_); rintro e w1 ⟨pq, cq, k, p, s, xs, rfl, hxl, hsl, q1, g1⟩
  have gS := gr_alloc w1 (.cells #[.int .i64 k, .slice pq xs.length cq, .string s, .int .i64 p] 25)
  have hS := g1.trans gS
  have hs : s.size ≤ 2000000 := by omega
  clear hsl hxl
  cases hr : adrOk ⟨k, xs, tx s, p⟩
  · have HR := Lib.hid hr
    clear hr
    go_wp2_with fail
    (with_reducible refine (implConn_f (hm.kept hS) (ht.kept hS) k p s (q1.kept gS) hs HR).mono ?_); rintro e w2 ⟨rfl, g2⟩
    have b0 := boxN g2 0 rfl
    have b1 := boxN g2 1 rfl
    have b2 := boxN g2 2 rfl
    have b3 := boxN g2 3 rfl
    have G2 := gS.trans g2
    go_wp2_with fail
    (with_reducible refine (specConn_f k p s (q1.kept G2) hs HR).mono ?_); rintro e w3 ⟨rfl, g3⟩
    go_wp2
    go_ret
    exact ⟨rfl, (g1.trans G2).trans g3⟩
  · have HR := Lib.hid hr
    have hl0 := connText_len81 hr
    have hl1 : (connOf ⟨k, xs, tx s, p⟩).length ≤ 120 := by have : connOf ⟨k, xs, tx s, p⟩ = connText (addrText ⟨k, xs, tx s, p⟩) := rfl; rw [this]; omega
    have hl2 : 1 ≤ (connOf ⟨k, xs, tx s, p⟩).length := by simp [connOf, connText, tunnelT] <;> omega
    obtain ⟨_, sk, sz⟩ := sniff_conn hr hl1
    obtain ⟨t, e1⟩ : ∃ t, connOf ⟨k, xs, tx s, p⟩ = t := ⟨_, rfl⟩
    simp only [e1] at hl1 hl2 sk sz
    have E1 := Lib.hid e1
    have n1 := S_notEmpty hl2
    have hzl : t.length = (tb t).length := (tb_len t).symm
    rw [hzl] at sz
    obtain ⟨hb, ehb⟩ : ∃ hb, tb t = hb := ⟨_, rfl⟩
    have EH := Lib.hid ehb
    simp only [ehb] at sk sz hzl
    have SK := Lib.hid sk
    have SZ := Lib.hid sz
    have hbl : hb.length ≤ 1048576 := by omega
    clear hr e1 sk sz ehb hzl hl0
    go_wp2_with fail
    (with_reducible refine (implConn_t (hm.kept hS) (ht.kept hS) k p s (q1.kept gS) hs HR E1).mono ?_); rintro e w2 ⟨rfl, g2⟩
    have b0 := boxN g2 0 rfl
    have b1 := boxN g2 1 rfl
    have b2 := boxN g2 2 rfl
    have b3 := boxN g2 3 rfl
    have G2 := gS.trans g2
    go_wp2_with fail
    (with_reducible refine (specConn_t k p s (q1.kept G2) hs HR E1).mono ?_); rintro e w3 ⟨rfl, g3⟩
    have G3 := (g1.trans G2).trans g3
    go_wp2_with fail
    (with_reducible refine (textS_c _ hl1 EH).mono ?_); rintro e w4 ⟨v4, rfl, o4, g4⟩
    obtain ⟨p4, c4, hv4⟩ := o4.len
    subst hv4
    have G4 := G3.trans g4
    go_wp2_with fail
    (with_reducible refine (implSize_s (hm.kept G4) (he.kept G4) (ht.kept G4) o4.s hbl SZ).mono ?_); rintro e w5 ⟨rfl, g5⟩
    go_wp2_with fail
    (with_reducible refine (implKind (o4.s.kept g5) SK).mono ?_); rintro e w6 ⟨rfl, g6⟩
    go_wp2
    go_ret
    exact ⟨rfl, (G4.trans g5).trans g6⟩
end Go.Proofs.YtdbepkcpdglppaaGreatDoor
