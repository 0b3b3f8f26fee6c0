/- The walks of laws.FnLineTurn, FnLineBegin. -/
import Derived.Test.YtikkjcfadbhemaaDoorLawsP
namespace Go.Proofs.YtikkjcfadbhemaaDoor
open Go.RowKit
theorem specLine_t {w : World} {q q' : Value} {xs ys : List Int} (k port k' port' : Int) (s s' : ByteArray) (hq : IntS w q xs) (hq' : IntS w q' ys) (hs : s.size ≤ 1000000) (hs' : s'.size ≤ 1000000) {t : Tx} (hok : Hid (parOk ⟨⟨k, xs, tx s, port⟩, ⟨k', ys, tx s', port'⟩⟩ = true)) (he : Hid (lineText ⟨⟨k, xs, tx s, port⟩, ⟨k', ys, tx s', port'⟩⟩ = t)) :
    Calls Tryd.prog 45 #[.agg #[.int .i64 k, q, .string s, .int .i64 port, .int .i64 k', q', .string s', .int .i64 port']] w fun e w' => e = .returned (.string (S t)) ∧ Gr w w' := by
  have := LineText_c k port k' port' s s' hq hq' hs hs'
  rw [hok.out, if_pos rfl, he.out] at this
  exact this
theorem specLine_f {w : World} {q q' : Value} {xs ys : List Int} (k port k' port' : Int) (s s' : ByteArray) (hq : IntS w q xs) (hq' : IntS w q' ys) (hs : s.size ≤ 1000000) (hs' : s'.size ≤ 1000000) (hok : Hid (parOk ⟨⟨k, xs, tx s, port⟩, ⟨k', ys, tx s', port'⟩⟩ = false)) :
    Calls Tryd.prog 45 #[.agg #[.int .i64 k, q, .string s, .int .i64 port, .int .i64 k', q', .string s', .int .i64 port']] w fun e w' => e = .returned (.string ⟨#[]⟩) ∧ Gr w w' := by
  have := LineText_c k port k' port' s s' hq hq' hs hs'
  rw [hok.out, if_neg (by decide)] at this
  exact this
theorem implLine_t {w : World} {q q' : Value} {xs ys : List Int} (hm : ML w) (ht : Tab w) (k port k' port' : Int) (s s' : ByteArray) (hq : IntS w q xs) (hq' : IntS w q' ys) (hs : s.size ≤ 1000000) (hs' : s'.size ≤ 1000000) {t : Tx} (hok : Hid (parOk ⟨⟨k, xs, tx s, port⟩, ⟨k', ys, tx s', port'⟩⟩ = true)) (he : Hid (lineText ⟨⟨k, xs, tx s, port⟩, ⟨k', ys, tx s', port'⟩⟩ = t)) :
    Calls Tryd.prog 44 #[.agg #[.int .i64 k, q, .string s, .int .i64 port, .int .i64 k', q', .string s', .int .i64 port']] w fun e w' => e = .returned (.string (S t)) ∧ Gr w w' := by
  have := implLineText_c hm ht k port k' port' s s' hq hq' hs hs'
  rw [hok.out, if_pos rfl, he.out] at this
  exact this
theorem implLine_f {w : World} {q q' : Value} {xs ys : List Int} (hm : ML w) (ht : Tab w) (k port k' port' : Int) (s s' : ByteArray) (hq : IntS w q xs) (hq' : IntS w q' ys) (hs : s.size ≤ 1000000) (hs' : s'.size ≤ 1000000) (hok : Hid (parOk ⟨⟨k, xs, tx s, port⟩, ⟨k', ys, tx s', port'⟩⟩ = false)) :
    Calls Tryd.prog 44 #[.agg #[.int .i64 k, q, .string s, .int .i64 port, .int .i64 k', q', .string s', .int .i64 port']] w fun e w' => e = .returned (.string ⟨#[]⟩) ∧ Gr w w' := by
  have := implLineText_c hm ht k port k' port' s s' hq hq' hs hs'
  rw [hok.out, if_neg (by decide)] at this
  exact this
theorem S_notEmpty {t : Tx} (h : 1 ≤ t.length) : (S t).toList.isEmpty = false := by
  rw [emp_tx, tx_S]
  cases t with
  | nil => simp at h
  | cons x y => rfl
set_option maxHeartbeats 2000000 in
theorem FnLineTurn_w {w : World} {v : Value} {bs : List Int} (hm : ML w) (ht : Tab w) (h : ByteS w v bs) :
    Calls Tryd.prog 13 #[v] w fun e w' => e = .returned (.bool true) ∧ Gr w w' := by
  obtain ⟨p, cap, rfl, _, _⟩ := h.form
  by_cases hx : bs.length ≤ 1048576
  · have hx' : ((bs.length : Int) ≤ 1048576) := by omega
    go_enter Tryd.func13, Tryd.ntmps13
    go_wp2_with fail
    (with_reducible refine (DrawLineText_c h).mono ?_); rintro e w1 ⟨pq, cq, pq', cq', k, p, k', p', s, s', xs, ys, rfl, hxl, hyl, hsl, hsl', q1, q1', g1⟩
    have gS := gr_alloc w1 (.cells #[.int .i64 k, .slice pq xs.length cq, .string s, .int .i64 p, .int .i64 k', .slice pq' ys.length cq', .string s', .int .i64 p'] 27)
    have hS := g1.trans gS
    have hs : s.size ≤ 1000000 := by omega
    have hs' : s'.size ≤ 1000000 := by omega
    clear hsl hsl' hxl hyl
    have HT := Lib.hid (parOk_turn ⟨⟨k, xs, tx s, p⟩, ⟨k', ys, tx s', p'⟩⟩)
    have HL := Lib.hid (lineText_turn ⟨⟨k, xs, tx s, p⟩, ⟨k', ys, tx s', p'⟩⟩)
    cases hr : parOk ⟨⟨k, xs, tx s, p⟩, ⟨k', ys, tx s', p'⟩⟩
    · have HR := Lib.hid hr
      clear hr
      go_wp2_with fail
      (with_reducible refine (implLine_f (hm.kept hS) (ht.kept hS) k p k' p' s s' (q1.kept gS) (q1'.kept gS) hs hs' HR).mono ?_); rintro e w2 ⟨rfl, g2⟩
      have c0 := boxN g2 0 rfl
      have c1 := boxN g2 1 rfl
      have c2 := boxN g2 2 rfl
      have c3 := boxN g2 3 rfl
      have c4 := boxN g2 4 rfl
      have c5 := boxN g2 5 rfl
      have c6 := boxN g2 6 rfl
      have c7 := boxN g2 7 rfl
      have G2 := gS.trans g2
      go_wp2_with fail
      (with_reducible refine (specLine_f k p k' p' s s' (q1.kept G2) (q1'.kept G2) hs hs' HR).mono ?_); rintro e w3 ⟨rfl, g3⟩
      go_wp2
      go_ret
      exact ⟨rfl, (g1.trans G2).trans g3⟩
    · have HR := Lib.hid hr
      have HR2 : Hid (parOk ⟨⟨k', ys, tx s', p'⟩, ⟨k, xs, tx s, p⟩⟩ = true) := Lib.hid (HT.out.trans hr)
      have hl1 := (lineText_len hr).2
      have hl2 := (lineText_len HR2.out).2
      have hll := HL.out
      obtain ⟨t, e1⟩ : ∃ t, lineText ⟨⟨k, xs, tx s, p⟩, ⟨k', ys, tx s', p'⟩⟩ = t := ⟨_, rfl⟩
      obtain ⟨t', e2⟩ : ∃ t', lineText ⟨⟨k', ys, tx s', p'⟩, ⟨k, xs, tx s, p⟩⟩ = t' := ⟨_, rfl⟩
      simp only [e1, e2] at hl1 hl2 hll
      have E1 := Lib.hid e1
      have E2 := Lib.hid e2
      have n1 := S_notEmpty hl1
      have n2 := S_notEmpty hl2
      have hsz : (S t').size = (S t).size := by rw [S_len, S_len]; exact hll
      clear hr e1 e2 hl1 hl2 hll HL HT
      go_wp2_with fail
      (with_reducible refine (implLine_t (hm.kept hS) (ht.kept hS) k p k' p' s s' (q1.kept gS) (q1'.kept gS) hs hs' HR E1).mono ?_); rintro e w2 ⟨rfl, g2⟩
      have c0 := boxN g2 0 rfl
      have c1 := boxN g2 1 rfl
      have c2 := boxN g2 2 rfl
      have c3 := boxN g2 3 rfl
      have c4 := boxN g2 4 rfl
      have c5 := boxN g2 5 rfl
      have c6 := boxN g2 6 rfl
      have c7 := boxN g2 7 rfl
      have G2 := gS.trans g2
      go_wp2_with fail
      (with_reducible refine (specLine_t k p k' p' s s' (q1.kept G2) (q1'.kept G2) hs hs' HR E1).mono ?_); rintro e w3 ⟨rfl, g3⟩
      have d3 := g2.trans g3
      clear c0 c1 c2 c3 c4 c5 c6 c7
      have c0 := boxN d3 0 rfl
      have c1 := boxN d3 1 rfl
      have c2 := boxN d3 2 rfl
      have c3 := boxN d3 3 rfl
      have c4 := boxN d3 4 rfl
      have c5 := boxN d3 5 rfl
      have c6 := boxN d3 6 rfl
      have c7 := boxN d3 7 rfl
      have G3 := gS.trans d3
      go_wp2_with fail
      (with_reducible refine (implLine_t (hm.kept (g1.trans G3)) (ht.kept (g1.trans G3)) k' p' k p s' s (q1'.kept G3) (q1.kept G3) hs' hs HR2 E2).mono ?_); rintro e w4 ⟨rfl, g4⟩
      go_wp2
      go_ret
      exact ⟨rfl, (g1.trans G3).trans g4⟩
  · have hx' : ¬ ((bs.length : Int) ≤ 1048576) := by omega
    go_enter Tryd.func13, Tryd.ntmps13
    go_wp2_with fail
    go_ret
    exact ⟨rfl, Gr.refl _⟩
theorem implAddrText_t {w : World} {q : Value} {xs : List Int} (hm : ML w) (ht : Tab w) (k port : Int) (s : ByteArray) (hq : IntS w q xs) (hs : s.size ≤ 1000000) {t : Tx} (hok : Hid (adrOk ⟨k, xs, tx s, port⟩ = true)) (he : Hid (addrText ⟨k, xs, tx s, port⟩ = t)) :
    Calls Tryd.prog 46 #[.agg #[.int .i64 k, q, .string s, .int .i64 port]] w fun e w' => e = .returned (.string (S t)) ∧ Gr w w' := by
  have := implAddressText_c hm ht k port s hq hs
  rw [hok.out, if_pos rfl, he.out] at this
  exact this
set_option maxHeartbeats 4000000 in
theorem FnLineBegin_w {w : World} {v : Value} {bs : List Int} (hm : ML w) (ht : Tab w) (h : ByteS w v bs) :
    Calls Tryd.prog 14 #[v] w fun e w' => e = .returned (.bool true) ∧ Gr w w' := by
  obtain ⟨p, cap, rfl, _, _⟩ := h.form
  by_cases hx : bs.length ≤ 1048576
  · have hx' : ((bs.length : Int) ≤ 1048576) := by omega
    go_enter Tryd.func14, Tryd.ntmps14
    go_wp2_with fail
    (with_reducible refine (DrawLineText_c h).mono ?_); rintro e w1 ⟨pq, cq, pq', cq', k, p, k', p', s, s', xs, ys, rfl, hxl, hyl, hsl, hsl', q1, q1', g1⟩
    have gS := gr_alloc w1 (.cells #[.int .i64 k, .slice pq xs.length cq, .string s, .int .i64 p, .int .i64 k', .slice pq' ys.length cq', .string s', .int .i64 p'] 27)
    have hS := g1.trans gS
    have hs : s.size ≤ 1000000 := by omega
    have hs' : s'.size ≤ 1000000 := by omega
    clear hsl hsl' hxl hyl
    cases hr : parOk ⟨⟨k, xs, tx s, p⟩, ⟨k', ys, tx s', p'⟩⟩
    · have HR := Lib.hid hr
      clear hr
      go_wp2_with fail
      (with_reducible refine (implLine_f (hm.kept hS) (ht.kept hS) k p k' p' s s' (q1.kept gS) (q1'.kept gS) hs hs' HR).mono ?_); rintro e w2 ⟨rfl, g2⟩
      have c0 := boxN g2 0 rfl
      have c1 := boxN g2 1 rfl
      have c2 := boxN g2 2 rfl
      have c3 := boxN g2 3 rfl
      have c4 := boxN g2 4 rfl
      have c5 := boxN g2 5 rfl
      have c6 := boxN g2 6 rfl
      have c7 := boxN g2 7 rfl
      have G2 := gS.trans g2
      go_wp2_with fail
      (with_reducible refine (specLine_f k p k' p' s s' (q1.kept G2) (q1'.kept G2) hs hs' HR).mono ?_); rintro e w3 ⟨rfl, g3⟩
      go_wp2
      go_ret
      exact ⟨rfl, (g1.trans G2).trans g3⟩
    · have HR := Lib.hid hr
      have hl1 := (lineText_len hr).2
      have hsum := lineText_sum hr
      have hbeg := lineText_begin ⟨⟨k, xs, tx s, p⟩, ⟨k', ys, tx s', p'⟩⟩
      obtain ⟨a1, a2, ka, kb, krest⟩ := par_parts hr
      clear ka kb krest
      simp only at a1 a2
      have A1 := Lib.hid a1
      have A2 := Lib.hid a2
      obtain ⟨t, e1⟩ : ∃ t, lineText ⟨⟨k, xs, tx s, p⟩, ⟨k', ys, tx s', p'⟩⟩ = t := ⟨_, rfl⟩
      obtain ⟨ta, e2⟩ : ∃ ta, addrText ⟨k, xs, tx s, p⟩ = ta := ⟨_, rfl⟩
      obtain ⟨tb, e3⟩ : ∃ tb, addrText ⟨k', ys, tx s', p'⟩ = tb := ⟨_, rfl⟩
      have b1 := addrText_len a1
      have b2 := addrText_len a2
      simp only [e1, e2, e3] at hl1 hsum hbeg b1 b2
      have E1 := Lib.hid e1
      have E2 := Lib.hid e2
      have E3 := Lib.hid e3
      have n1 := S_notEmpty hl1
      have hx11 : (S t).extract 0 11 = ⟨#[80, 82, 79, 88, 89, 32, 84, 67, 80, 52, 32]⟩ := tx_ext (by rw [tx_ext_slice, tx_S]; exact hbeg)
      have hsz : (S t).size = (S ta).size + (S tb).size + 14 := by rw [S_len, S_len, S_len]; exact hsum
      have hba : (S ta).size ≤ 49 := by rw [S_len]; exact b1
      have hbb : (S tb).size ≤ 49 := by rw [S_len]; exact b2
      clear hr e1 e2 e3 hl1 hsum hbeg a1 a2 b1 b2
      go_wp2_with fail
      (with_reducible refine (implLine_t (hm.kept hS) (ht.kept hS) k p k' p' s s' (q1.kept gS) (q1'.kept gS) hs hs' HR E1).mono ?_); rintro e w2 ⟨rfl, g2⟩
      have c0 := boxN g2 0 rfl
      have c1 := boxN g2 1 rfl
      have c2 := boxN g2 2 rfl
      have c3 := boxN g2 3 rfl
      have c4 := boxN g2 4 rfl
      have c5 := boxN g2 5 rfl
      have c6 := boxN g2 6 rfl
      have c7 := boxN g2 7 rfl
      have G2 := gS.trans g2
      go_wp2_with fail
      (with_reducible refine (specLine_t k p k' p' s s' (q1.kept G2) (q1'.kept G2) hs hs' HR E1).mono ?_); rintro e w3 ⟨rfl, g3⟩
      have d3 := g2.trans g3
      clear c0 c1 c2 c3 c4 c5 c6 c7
      have c0 := boxN d3 0 rfl
      have c1 := boxN d3 1 rfl
      have c2 := boxN d3 2 rfl
      have c3 := boxN d3 3 rfl
      have c4 := boxN d3 4 rfl
      have c5 := boxN d3 5 rfl
      have c6 := boxN d3 6 rfl
      have c7 := boxN d3 7 rfl
      have G3 := gS.trans d3
      have hM3 := hm.kept (g1.trans G3)
      have hT3 := ht.kept (g1.trans G3)
      have q3 := q1.kept G3
      have q3' := q1'.kept G3
      go_wp2_with fail
      have h11 : (11 : Int) ≤ ((S t).size : Int) := by omega
      have hbq : ((((S t).size : Nat) : Int) == ((S ta).size : Int) + ((S tb).size : Int) + 14) = true := by rw [beq_iff_eq]; omega
      have v1 : IntKind.i64.wrap (((S ta).size : Int) + ((S tb).size : Int)) = ((S ta).size : Int) + ((S tb).size : Int) := by rw [IntKind.wrap_i64]; omega
      have v2 : IntKind.i64.wrap (((S ta).size : Int) + ((S tb).size : Int) + 14) = ((S ta).size : Int) + ((S tb).size : Int) + 14 := by rw [IntKind.wrap_i64]; omega
      clear hsz
      go_region_held3 (fun w' => w'.cell? ⟨w1.heap.size, 0, none⟩ = some (.int .i64 k) ∧ w'.cell? ⟨w1.heap.size, 1, none⟩ = some (.slice pq xs.length cq) ∧ w'.cell? ⟨w1.heap.size, 2, none⟩ = some (.string s) ∧ w'.cell? ⟨w1.heap.size, 3, none⟩ = some (.int .i64 p) ∧ w'.cell? ⟨w1.heap.size, 4, none⟩ = some (.int .i64 k') ∧ w'.cell? ⟨w1.heap.size, 5, none⟩ = some (.slice pq' ys.length cq') ∧ w'.cell? ⟨w1.heap.size, 6, none⟩ = some (.string s') ∧ w'.cell? ⟨w1.heap.size, 7, none⟩ = some (.int .i64 p')) (first | (exact ⟨g5.cell c0, g5.cell c1, g5.cell c2, g5.cell c3, g5.cell c4, g5.cell c5, g5.cell c6, g5.cell c7⟩) | (exact ⟨g4.cell c0, g4.cell c1, g4.cell c2, g4.cell c3, g4.cell c4, g4.cell c5, g4.cell c6, g4.cell c7⟩) | go_keep) (first
        | (go_at_call 46; (with_reducible refine (implAddrText_t (hM3.kept ((Gr.refl _).drew)) (hT3.kept ((Gr.refl _).drew)) k p s (q3.kept ((Gr.refl _).drew)) hs A1 E2).mono ?_); rintro e w4 ⟨rfl, g4'⟩; have g4 : Gr w3 w4 := g4'.undrew)
        | (go_at_call 46; (with_reducible refine (implAddrText_t (hM3.kept g4) (hT3.kept g4) k' p' s' (q3'.kept g4) hs' A2 E3).mono ?_); rintro e w5 ⟨rfl, g5'⟩; have g5 : Gr w3 w5 := g4.trans g5'))
      go_wp2
      go_ret
      exact ⟨rfl, (g1.trans G3).trans g5⟩
  · have hx' : ¬ ((bs.length : Int) ≤ 1048576) := by omega
    go_enter Tryd.func14, Tryd.ntmps14
    go_wp2_with fail
    go_ret
    exact ⟨rfl, Gr.refl _⟩
end Go.Proofs.YtikkjcfadbhemaaDoor
