/- spec.LineFrom. -/
import Derived.Test.YtncnnfmfpilonaaGreatDoorGQ
import Derived.Test.YtncnnfmfpilonaaGreatDoorGU
import Derived.Deep.RegionWith
import Derived.Deep.DeepCutAuto
namespace Go.Proofs.YtncnnfmfpilonaaGreatDoor
open Go.RowKit
/-- A pair in a variable. -/
def ParCell (w0 : World) (ka : Int) (qa : List Int) (na : ByteArray) (nA kb : Int) (qb : List Int) (nb : ByteArray) (nB : Int) (x : Value) (wx : World) : Prop :=
  ∃ (b9 : Nat) (u v : Option Addr) (c d : Nat), x = .pointer (some ⟨b9, 0, none⟩) ∧ wx.heap[b9]? = some (.cells #[.int .i64 ka, .slice u qa.length c, .string na, .int .i64 nA, .int .i64 kb, .slice v qb.length d, .string nb, .int .i64 nB] 26 (0, 0)) ∧ IntO w0.heap.size 3 wx (.slice u qa.length c) qa ∧ IntO w0.heap.size 3 wx (.slice v qb.length d) qb ∧ Gr w0 wx
theorem ParCell.late {w0 w6 : World} {ka nA kb nB : Int} {qa qb : List Int} {na nb : ByteArray} {u v : Option Addr} {c d m : Nat} (hm : m = w6.heap.size) (o1 : IntO w0.heap.size 3 w6 (.slice u qa.length c) qa) (o2 : IntO w0.heap.size 3 w6 (.slice v qb.length d) qb) (g : Gr w0 w6) :
    ParCell w0 ka qa na nA kb qb nb nB (.pointer (some ⟨m, 0, none⟩)) (w6.alloc (.cells #[.int .i64 ka, .slice u qa.length c, .string na, .int .i64 nA, .int .i64 kb, .slice v qb.length d, .string nb, .int .i64 nB] 26)) := by
  subst hm
  exact ⟨_, u, v, c, d, rfl, heap_alloc_new _ _, o1.kept (gr_alloc _ _), o2.kept (gr_alloc _ _), g.alloc _⟩
theorem ParCell.put {w0 w6 : World} {qa qb : List Int} {u v : Option Addr} {c d b9 B1 T1 B2 T2 : Nat} (o1 : IntB B1 T1 3 w6 (.slice u qa.length c) qa) (o2 : IntB B2 T2 3 w6 (.slice v qb.length d) qb) (h1 : T1 ≤ b9 ∨ b9 + 1 ≤ B1) (h2 : T2 ≤ b9 ∨ b9 + 1 ≤ B2) (hB1 : w0.heap.size ≤ B1) (hB2 : w0.heap.size ≤ B2) (hb : w0.heap.size ≤ b9) (g : Gr w0 w6)
    {c0 c1 c2 c3 c4 c5 c6 c7 : Value} (hq : w6.heap[b9]? = some (.cells #[c0, c1, c2, c3, c4, c5, c6, c7] 26 (0, 0))) (ka nA kb nB : Int) (na nb : ByteArray) :
    ParCell w0 ka qa na nA kb qb nb nB (.pointer (some ⟨b9, 0, none⟩)) (put8 w6 b9 (.int .i64 ka) (.slice u qa.length c) (.string na) (.int .i64 nA) (.int .i64 kb) (.slice v qb.length d) (.string nb) (.int .i64 nB)) := by
  have cW := put8_chg w6 b9 (.int .i64 ka) (.slice u qa.length c) (.string na) (.int .i64 nA) (.int .i64 kb) (.slice v qb.length d) (.string nb) (.int .i64 nB)
  exact ⟨b9, u, v, c, d, rfl, put8_blk hq _ _ _ _ _ _ _ _, IntO.mono (IntB.o (o1.chg cW h1)) hB1, IntO.mono (IntB.o (o2.chg cW h2)) hB2, cW.gr g hb⟩
theorem specLine_fS {w : World} {q q' : Value} {xs ys : List Int} (k port k' port' : Int) (s s' : ByteArray) (hq : IntS w q xs) (hq' : IntS w q' ys) (hs : s.size ≤ 2000000) (hs' : s'.size ≤ 2000000) (hok : Hid (parOk ⟨⟨k, xs, tx s, port⟩, ⟨k', ys, tx s', port'⟩⟩ = false)) :
    Calls Tryz.prog 49 #[.agg #[.int .i64 k, q, .string s, .int .i64 port, .int .i64 k', q', .string s', .int .i64 port']] w fun e w' => e = .returned (.string (S [])) ∧ Gr w w' :=
  specLine_f k port k' port' s s' hq hq' hs hs' hok
theorem Gr.put8n {w3 W : World} {b : Nat} (g : Gr w3 W) (hb : w3.heap.size ≤ b) (a0 a1 a2 a3 a4 a5 a6 a7 : Value) : Gr w3 ((((((((W.setCell ⟨b, 0, none⟩ a0).setCell ⟨b, 1, none⟩ a1).setCell ⟨b, 2, none⟩ a2).setCell ⟨b, 3, none⟩ a3).setCell ⟨b, 4, none⟩ a4).setCell ⟨b, 5, none⟩ a5).setCell ⟨b, 6, none⟩ a6).setCell ⟨b, 7, none⟩ a7) :=
  (put8_chg W b a0 a1 a2 a3 a4 a5 a6 a7).gr g hb
set_option maxRecDepth 20000 in
set_option maxHeartbeats 8000000 in
theorem specLF {w : World} {k1 : Int} {q1 : List Int} {s1 : ByteArray} {p1 k2 : Int} {q2 : List Int} {s2 : ByteArray} {p2 : Int} {n : Int} {ok : Bool} {s : ByteArray} (hR : Hid (LineIs (tx s) k1 q1 s1 p1 k2 q2 s2 p2 n ok)) (hs : s.size ≤ 1048576) :
    Calls Tryz.prog 16 #[.string s] w (LineSpec k1 q1 s1 p1 k2 q2 s2 p2 n ok w) := by
  have gA := gr_alloc w (.cells #[.int .i64 0, .slice none 0 0, .string ⟨#[]⟩, .int .i64 0, .int .i64 0, .slice none 0 0, .string ⟨#[]⟩, .int .i64 0] 26)
  have hB0 := heap_alloc_new w (.cells #[.int .i64 0, .slice none 0 0, .string ⟨#[]⟩, .int .i64 0, .int .i64 0, .slice none 0 0, .string ⟨#[]⟩, .int .i64 0] 26)
  have hz0 : w.heap.size < (w.alloc (.cells #[.int .i64 0, .slice none 0 0, .string ⟨#[]⟩, .int .i64 0, .int .i64 0, .slice none 0 0, .string ⟨#[]⟩, .int .i64 0] 26)).heap.size := by simp
  have HI : Hid (lineFrom (tx s) = lineFrom (tx s)) := rfl
  unfold Hid at HI
  conv at HI => rhs; unfold lineFrom
  have hem := l15End_c (w.alloc (.cells #[.int .i64 0, .slice none 0 0, .string ⟨#[]⟩, .int .i64 0, .int .i64 0, .slice none 0 0, .string ⟨#[]⟩, .int .i64 0] 26)) s (by omega)
  go_enter Tryz.func16, Tryz.ntmps16
  go_wp2_with fail
  generalize hW0 : w.alloc (.cells #[.int .i64 0, .slice none 0 0, .string ⟨#[]⟩, .int .i64 0, .int .i64 0, .slice none 0 0, .string ⟨#[]⟩, .int .i64 0] 26) = w0 at *
  have HW0 := Lib.hid hW0
  have HB0 := Lib.hid hB0
  clear hW0 hB0
  by_cases hi : 0 ≤ Lib.index (tx s) [13, 10]
  rotate_left
  · have HN : Hid (lineFrom (tx s) = none) := by rw [Hid, HI, if_neg hi]
    have he : endOf (tx s) = -1 := by rw [endOf, if_neg hi]
    rw [he] at hem
    clear HI hi he
    (with_reducible refine hem.mono ?_); rintro e w1 ⟨rfl, rfl⟩
    have x0 := blk_cell HB0.out (j := 0) rfl
    have x1 := blk_cell HB0.out (j := 1) rfl
    have x2 := blk_cell HB0.out (j := 2) rfl
    have x3 := blk_cell HB0.out (j := 3) rfl
    have x4 := blk_cell HB0.out (j := 4) rfl
    have x5 := blk_cell HB0.out (j := 5) rfl
    have x6 := blk_cell HB0.out (j := 6) rfl
    have x7 := blk_cell HB0.out (j := 7) rfl
    have f0 := blk_frozen HB0.out 0
    have f1 := blk_frozen HB0.out 1
    have f2 := blk_frozen HB0.out 2
    have f3 := blk_frozen HB0.out 3
    have f4 := blk_frozen HB0.out 4
    have f5 := blk_frozen HB0.out 5
    have f6 := blk_frozen HB0.out 6
    have f7 := blk_frozen HB0.out 7
    go_wp2
    change bodyPost _ _ _ _ _ (put8 w0 w.heap.size (.int .i64 0) (.slice none 0 0) (.string ⟨#[]⟩) (.int .i64 0) (.int .i64 0) (.slice none 0 0) (.string ⟨#[]⟩) (.int .i64 0))
    have hW := put8_blk HB0.out (.int .i64 0) (.slice none 0 0) (.string ⟨#[]⟩) (.int .i64 0) (.int .i64 0) (.slice none 0 0) (.string ⟨#[]⟩) (.int .i64 0)
    have cW := put8_chg w0 w.heap.size (.int .i64 0) (.slice none 0 0) (.string ⟨#[]⟩) (.int .i64 0) (.int .i64 0) (.slice none 0 0) (.string ⟨#[]⟩) (.int .i64 0)
    generalize put8 w0 w.heap.size (.int .i64 0) (.slice none 0 0) (.string ⟨#[]⟩) (.int .i64 0) (.int .i64 0) (.slice none 0 0) (.string ⟨#[]⟩) (.int .i64 0) = wz at *
    have y0 := blk_cell hW (j := 0) rfl
    have y1 := blk_cell hW (j := 1) rfl
    have y2 := blk_cell hW (j := 2) rfl
    have y3 := blk_cell hW (j := 3) rfl
    have y4 := blk_cell hW (j := 4) rfl
    have y5 := blk_cell hW (j := 5) rfl
    have y6 := blk_cell hW (j := 6) rfl
    have y7 := blk_cell hW (j := 7) rfl
    exact bodyPost_ret (v := .tuple #[.agg #[.int .i64 0, .slice none 0 0, .string ⟨#[]⟩, .int .i64 0, .int .i64 0, .slice none 0 0, .string ⟨#[]⟩, .int .i64 0], .int .i64 0, .bool false]) (by simp [results, Tryz.results16, go_sem, y0, y1, y2, y3, y4, y5, y6, y7]) rfl (LineSpec.no hR.out HN.out (cW.gr gA (Nat.le_refl _)))
  rw [if_pos hi] at HI
  have hroom := Lib.index_room (tx s) [13, 10] hi
  rw [tx_len] at hroom
  have he : endOf (tx s) = Lib.index (tx s) [13, 10] + 2 := by rw [endOf, if_pos hi]
  rw [he] at hem
  obtain ⟨m, hm⟩ := Int.eq_ofNat_of_zero_le hi
  rw [hm] at hem hroom HI
  rw [Int.toNat_natCast] at HI
  obtain ⟨e, hE⟩ : ∃ e, e = m + 2 := ⟨_, rfl⟩
  rw [show ((m : Int) + 2) = (e : Int) by omega] at hem
  rw [← hE] at HI
  simp only [List.length_cons, List.length_nil] at hroom
  have hes : e ≤ s.size := by omega
  have hms : m ≤ s.size := by omega
  have hw2 : IntKind.i64.wrap ((e : Int) - 2) = (m : Int) := by rw [IntKind.wrap_i64]; omega
  have hge : ¬ ((e : Int) < 0) := by omega
  have hep : 0 < e := by omega
  have HE := Lib.hid hE
  clear hi he hm hroom hE
  have ex1 : tx (s.extract 0 m) = (tx s).take m := by rw [tx_ext_slice]; simp
  have ex2 : tx (s.extract 0 e) = (tx s).take e := by rw [tx_ext_slice]; simp
  have hl1 : (s.extract 0 m).size = m := by simp; omega
  have hl2 : (s.extract 0 e).size = e := by simp; omega
  rw [← ex1, ← ex2] at HI
  (with_reducible refine hem.mono ?_); rintro e' w1 ⟨rfl, rfl⟩
  clear hem ex1 ex2
  (go_wp2_with fail); (with_reducible refine (l2Cut_c w0 (s.extract 0 m) 32 32 rfl (by omega)).mono ?_); rintro e' w3 ⟨v3, rfl, ho, g3⟩
  have HB3 := Lib.hid (g3.blk HB0.out)
  have G3 := gA.trans g3
  have hss := ho.s
  have hsix := @six_len (tx (s.extract 0 m))
  rw [tx_len, hl1] at hsix
  have HIh := Lib.hid HI
  clear HI ho
  generalize cutB 32 (tx (s.extract 0 m)) = ls at *
  by_cases h6 : ls.length = 6
  rotate_left
  · have HN : Hid (lineFrom (tx s) = none) := by
      rw [Hid, HIh.out]
      rcases ls with _ | ⟨_, _ | ⟨_, _ | ⟨_, _ | ⟨_, _ | ⟨_, _ | ⟨_, _ | ⟨_, _⟩⟩⟩⟩⟩⟩⟩ <;> first | rfl | exact absurd rfl h6
    obtain ⟨pw, cw, rfl, _, _⟩ := hss.form
    have h6' : ((ls.length : Int) == 6) = false := beq_eq_false_iff_ne.2 (by omega)
    clear h6 HIh hsix hss
    have x0 := blk_cell HB3.out (j := 0) rfl
    have x1 := blk_cell HB3.out (j := 1) rfl
    have x2 := blk_cell HB3.out (j := 2) rfl
    have x3 := blk_cell HB3.out (j := 3) rfl
    have x4 := blk_cell HB3.out (j := 4) rfl
    have x5 := blk_cell HB3.out (j := 5) rfl
    have x6 := blk_cell HB3.out (j := 6) rfl
    have x7 := blk_cell HB3.out (j := 7) rfl
    have f0 := blk_frozen HB3.out 0
    have f1 := blk_frozen HB3.out 1
    have f2 := blk_frozen HB3.out 2
    have f3 := blk_frozen HB3.out 3
    have f4 := blk_frozen HB3.out 4
    have f5 := blk_frozen HB3.out 5
    have f6 := blk_frozen HB3.out 6
    have f7 := blk_frozen HB3.out 7
    go_wp2
    change bodyPost _ _ _ _ _ (put8 w3 w.heap.size (.int .i64 0) (.slice none 0 0) (.string ⟨#[]⟩) (.int .i64 0) (.int .i64 0) (.slice none 0 0) (.string ⟨#[]⟩) (.int .i64 0))
    have hW := put8_blk HB3.out (.int .i64 0) (.slice none 0 0) (.string ⟨#[]⟩) (.int .i64 0) (.int .i64 0) (.slice none 0 0) (.string ⟨#[]⟩) (.int .i64 0)
    have cW := put8_chg w3 w.heap.size (.int .i64 0) (.slice none 0 0) (.string ⟨#[]⟩) (.int .i64 0) (.int .i64 0) (.slice none 0 0) (.string ⟨#[]⟩) (.int .i64 0)
    generalize put8 w3 w.heap.size (.int .i64 0) (.slice none 0 0) (.string ⟨#[]⟩) (.int .i64 0) (.int .i64 0) (.slice none 0 0) (.string ⟨#[]⟩) (.int .i64 0) = wz at *
    have y0 := blk_cell hW (j := 0) rfl
    have y1 := blk_cell hW (j := 1) rfl
    have y2 := blk_cell hW (j := 2) rfl
    have y3 := blk_cell hW (j := 3) rfl
    have y4 := blk_cell hW (j := 4) rfl
    have y5 := blk_cell hW (j := 5) rfl
    have y6 := blk_cell hW (j := 6) rfl
    have y7 := blk_cell hW (j := 7) rfl
    exact bodyPost_ret (v := .tuple #[.agg #[.int .i64 0, .slice none 0 0, .string ⟨#[]⟩, .int .i64 0, .int .i64 0, .slice none 0 0, .string ⟨#[]⟩, .int .i64 0], .int .i64 0, .bool false]) (by simp [results, Tryz.results16, go_sem, y0, y1, y2, y3, y4, y5, y6, y7]) rfl (LineSpec.no hR.out HN.out (cW.gr G3 (Nat.le_refl _)))
  obtain ⟨a0, a1, xa, xb, xc, xd, rfl⟩ := six_of h6
  have hsz := hsix rfl
  clear h6 hsix
  simp only [] at HIh
  obtain ⟨pw, cw, rfl, _, _⟩ := hss.form
  obtain ⟨d2, ix2, c2⟩ := hss.ixM rfl 2 2 rfl (by simp) (t := xa) rfl
  obtain ⟨d3, ix3, c3⟩ := hss.ixM rfl 3 3 rfl (by simp) (t := xb) rfl
  obtain ⟨d4, ix4, c4⟩ := hss.ixM rfl 4 4 rfl (by simp) (t := xc) rfl
  obtain ⟨d5, ix5, c5⟩ := hss.ixM rfl 5 5 rfl (by simp) (t := xd) rfl
  simp only [List.length_cons, List.length_nil] at ix2 ix3 ix4 ix5
  obtain ⟨ka, qa, na, hA, hAn⟩ := adr_parts xa (num5 xc)
  obtain ⟨kb, qb, nb, hB, hBn⟩ := adr_parts xb (num5 xd)
  rw [hA, hB] at HIh
  have LN1 : Hid (∀ W : World, Calls Tryz.prog 48 #[.string (S xc)] W fun e w' => e = .returned (.int .i64 (num5 xc)) ∧ W = w') := Lib.hid fun W => by
    have := l2Number_c W (S xc); rw [tx_S] at this; exact this
  have LN2 : Hid (∀ W : World, Calls Tryz.prog 48 #[.string (S xd)] W fun e w' => e = .returned (.int .i64 (num5 xd)) ∧ W = w') := Lib.hid fun W => by
    have := l2Number_c W (S xd); rw [tx_S] at this; exact this
  have L3a := Lib.hid (fun W : World => l3Of_c W (S xa) (num5 xc) (by rw [S_len]; omega) (k := ka) (xs := qa) (nm := na) (Lib.hid (by rw [tx_S]; exact hA)))
  have L3b := Lib.hid (fun W : World => l3Of_c W (S xb) (num5 xd) (by rw [S_len]; omega) (k := kb) (xs := qb) (nm := nb) (Lib.hid (by rw [tx_S]; exact hB)))
  have hna : na.size ≤ 2000000 := by omega
  have hnb : nb.size ≤ 2000000 := by omega
  clear hA hB hAn hBn hsz
  generalize num5 xc = nA at *
  generalize num5 xd = nB at *
  go_upto_region 7 with fail
  go_cut [7] (fun u wx => ParCell w3 ka qa na nA kb qb nb nB u wx)
  case first =>
    go_region_held3 (fun w' => w'.cell? d2 = some (.string (S xa)) ∧ w'.cell? d3 = some (.string (S xb)) ∧ w'.cell? d4 = some (.string (S xc)) ∧ w'.cell? d5 = some (.string (S xd))) (first | (with_reducible exact ⟨Gr.cell (by repeat (first | assumption | exact Gr.refl _ | refine Gr.alloc ?_ _ | refine Gr.drew ?_ | refine Gr.put8n ?_ (by first | exact Nat.le_refl _ | exact Gr.sz (by assumption)) _ _ _ _ _ _ _ _)) c2, Gr.cell (by repeat (first | assumption | exact Gr.refl _ | refine Gr.alloc ?_ _ | refine Gr.drew ?_ | refine Gr.put8n ?_ (by first | exact Nat.le_refl _ | exact Gr.sz (by assumption)) _ _ _ _ _ _ _ _)) c3, Gr.cell (by repeat (first | assumption | exact Gr.refl _ | refine Gr.alloc ?_ _ | refine Gr.drew ?_ | refine Gr.put8n ?_ (by first | exact Nat.le_refl _ | exact Gr.sz (by assumption)) _ _ _ _ _ _ _ _)) c4, Gr.cell (by repeat (first | assumption | exact Gr.refl _ | refine Gr.alloc ?_ _ | refine Gr.drew ?_ | refine Gr.put8n ?_ (by first | exact Nat.le_refl _ | exact Gr.sz (by assumption)) _ _ _ _ _ _ _ _)) c5⟩) | go_keep) (first
      | (go_at_call 48; (with_reducible refine (LN1.out _).mono ?_); rintro e w4 ⟨rfl, rfl⟩)
      | (go_at_call 48; (with_reducible refine (LN2.out _).mono ?_); rintro e w4 ⟨rfl, rfl⟩)
      | (go_at_call 47; (with_reducible refine (L3a.out _).mono ?_); rintro e w5 ⟨qA, cA, rfl, oA', gA'⟩; have gw5 : Gr w3 w5 := Gr.trans (by repeat (first | exact Gr.refl w3 | refine Gr.alloc ?_ _ | refine Gr.drew ?_)) gA'; have HQ5 : Hid (w5.heap[w3.heap.size]? = some (.cells #[.int .i64 0, .slice none 0 0, .string ⟨#[]⟩, .int .i64 0, .int .i64 0, .slice none 0 0, .string ⟨#[]⟩, .int .i64 0] 26 (0, 0))) := Lib.hid (gA'.blk (heap_alloc_new w3 (.cells #[.int .i64 0, .slice none 0 0, .string ⟨#[]⟩, .int .i64 0, .int .i64 0, .slice none 0 0, .string ⟨#[]⟩, .int .i64 0] 26))); have oA : IntB (w3.heap.size + 1) w5.heap.size 3 w5 _ _ := (IntO.b oA').wide (by simp) (Nat.le_refl _))
      | (go_at_call 47; (with_reducible refine (L3a.out _).mono ?_); rintro e w5 ⟨qA, cA, rfl, oA', gA'⟩; have gw5 : Gr w3 w5 := Gr.trans (by repeat (first | exact Gr.refl w3 | refine Gr.alloc ?_ _ | refine Gr.drew ?_)) gA'; have oA : IntB w3.heap.size w5.heap.size 3 w5 _ _ := (IntO.b oA').wide (Nat.le_refl _) (Nat.le_refl _))
      | (go_at_call 47; (with_reducible refine (L3b.out _).mono ?_); rintro e w6 ⟨qB, cB, rfl, oB', gB'⟩; have g56 : Gr w5 w6 := Gr.trans (by repeat (first | exact Gr.refl w5 | refine Gr.alloc ?_ _ | refine Gr.drew ?_)) gB'; have gw6 : Gr w3 w6 := gw5.trans g56; have oA6 := oA.kept g56; have HQ6 : Hid (w6.heap[w3.heap.size]? = some (.cells #[.int .i64 0, .slice none 0 0, .string ⟨#[]⟩, .int .i64 0, .int .i64 0, .slice none 0 0, .string ⟨#[]⟩, .int .i64 0] 26 (0, 0))) := Lib.hid (g56.blk HQ5.out); have oB : IntB w5.heap.size w6.heap.size 3 w6 _ _ := (IntO.b oB').wide (Nat.le_refl _) (Nat.le_refl _); have z35 : w3.heap.size + 1 ≤ w5.heap.size := (Array.getElem?_eq_some_iff.1 HQ5.out).1; have hpc := fun (a : Unit) => ParCell.put (w0 := w3) oA6 oB (.inr (Nat.le_refl _)) (.inr z35) (Nat.le_succ _) gw5.sz (Nat.le_refl _) gw6 HQ6.out; have x0 := blk_cell HQ6.out (j := 0) rfl; have x1 := blk_cell HQ6.out (j := 1) rfl; have x2 := blk_cell HQ6.out (j := 2) rfl; have x3 := blk_cell HQ6.out (j := 3) rfl; have x4 := blk_cell HQ6.out (j := 4) rfl; have x5 := blk_cell HQ6.out (j := 5) rfl; have x6 := blk_cell HQ6.out (j := 6) rfl; have x7 := blk_cell HQ6.out (j := 7) rfl; have f0 := blk_frozen HQ6.out 0; have f1 := blk_frozen HQ6.out 1; have f2 := blk_frozen HQ6.out 2; have f3 := blk_frozen HQ6.out 3; have f4 := blk_frozen HQ6.out 4; have f5 := blk_frozen HQ6.out 5; have f6 := blk_frozen HQ6.out 6; have f7 := blk_frozen HQ6.out 7)
      | (go_at_call 47; (with_reducible refine (L3b.out _).mono ?_); rintro e w6 ⟨qB, cB, rfl, oB', gB'⟩; have g56 : Gr w5 w6 := Gr.trans (by repeat (first | exact Gr.refl w5 | refine Gr.alloc ?_ _ | refine Gr.drew ?_)) gB'; have gw6 : Gr w3 w6 := gw5.trans g56; have oA6 := oA.kept g56; have HQ6 : Hid (w6.heap[w5.heap.size]? = some (.cells #[.int .i64 0, .slice none 0 0, .string ⟨#[]⟩, .int .i64 0, .int .i64 0, .slice none 0 0, .string ⟨#[]⟩, .int .i64 0] 26 (0, 0))) := Lib.hid (gB'.blk (heap_alloc_new w5 (.cells #[.int .i64 0, .slice none 0 0, .string ⟨#[]⟩, .int .i64 0, .int .i64 0, .slice none 0 0, .string ⟨#[]⟩, .int .i64 0] 26))); have oB : IntB (w5.heap.size + 1) w6.heap.size 3 w6 _ _ := (IntO.b oB').wide (by simp) (Nat.le_refl _); have hpc := fun (a : Unit) => ParCell.put (w0 := w3) oA6 oB (.inl (Nat.le_refl _)) (.inr (Nat.le_refl _)) (Nat.le_refl _) (Nat.le_trans gw5.sz (Nat.le_succ _)) gw5.sz gw6 HQ6.out; have x0 := blk_cell HQ6.out (j := 0) rfl; have x1 := blk_cell HQ6.out (j := 1) rfl; have x2 := blk_cell HQ6.out (j := 2) rfl; have x3 := blk_cell HQ6.out (j := 3) rfl; have x4 := blk_cell HQ6.out (j := 4) rfl; have x5 := blk_cell HQ6.out (j := 5) rfl; have x6 := blk_cell HQ6.out (j := 6) rfl; have x7 := blk_cell HQ6.out (j := 7) rfl; have f0 := blk_frozen HQ6.out 0; have f1 := blk_frozen HQ6.out 1; have f2 := blk_frozen HQ6.out 2; have f3 := blk_frozen HQ6.out 3; have f4 := blk_frozen HQ6.out 4; have f5 := blk_frozen HQ6.out 5; have f6 := blk_frozen HQ6.out 6; have f7 := blk_frozen HQ6.out 7)
      | (go_at_call 47; (with_reducible refine (L3b.out _).mono ?_); rintro e w6 ⟨qB, cB, rfl, oB', gB'⟩; have g56 : Gr w5 w6 := Gr.trans (by repeat (first | exact Gr.refl w5 | refine Gr.alloc ?_ _ | refine Gr.drew ?_)) gB'; have gw6 : Gr w3 w6 := gw5.trans g56; have oA6 := oA.kept g56; have oB : IntB w5.heap.size w6.heap.size 3 w6 _ _ := (IntO.b oB').wide (Nat.le_refl _) (Nat.le_refl _); have oA7 := (IntB.o oA6); have oB7 := IntO.mono (IntB.o oB) gw5.sz))
    all_goals
      go_wp2_with fail
      go_meet
      first
        | (with_reducible exact ParCell.late rfl oA7 oB7 gw6)
        | (with_reducible exact hpc () _ _ _ _ _ _)
        | exact hpc () _ _ _ _ _ _
  case rest =>
    obtain ⟨b9, u, v, c, d, rfl, hb9, o1, o2, g9⟩ := hcut
    have HC := Lib.hid hb9
    have HB4 := Lib.hid (g9.blk HB3.out)
    have G4 := G3.trans g9
    have hz4 := g9.sz
    clear hb9 HB3 c2 c3 c4 c5 ix2 ix3 ix4 ix5 LN1 LN2 L3a L3b g9 hss
    cases hok : parOk ⟨⟨ka, qa, tx na, nA⟩, ⟨kb, qb, tx nb, nB⟩⟩
    · have HN : Hid (lineFrom (tx s) = none) := by
        rw [Hid, HIh.out, if_neg]; rintro ⟨h1, _⟩; rw [hok] at h1; cases h1
      have HOK := Lib.hid hok
      have htl := tl_eq (S []) (s.extract 0 e)
      rw [decide_eq_false (fun h => by have := congrArg List.length h; rw [tx_S, tx_len, hl2] at this; simp at this; omega)] at htl
      have SL := Lib.hid (fun (W : World) (h1 : IntS W (.slice u qa.length c) qa) (h2 : IntS W (.slice v qb.length d) qb) => specLine_fS ka nA kb nB na nb h1 h2 hna hnb HOK)
      clear hok
      have s0 := blk_cell HC.out (j := 0) rfl
      have s1 := blk_cell HC.out (j := 1) rfl
      have s2 := blk_cell HC.out (j := 2) rfl
      have s3 := blk_cell HC.out (j := 3) rfl
      have s4 := blk_cell HC.out (j := 4) rfl
      have s5 := blk_cell HC.out (j := 5) rfl
      have s6 := blk_cell HC.out (j := 6) rfl
      have s7 := blk_cell HC.out (j := 7) rfl
      go_upto_region 8 with fail
      go_region_with (first | (go_at_call 49; (with_reducible refine (SL.out _ (o1.s.kept (by repeat (first | exact Gr.refl wc | refine Gr.alloc ?_ _ | refine Gr.drew ?_))) (o2.s.kept (by repeat (first | exact Gr.refl wc | refine Gr.alloc ?_ _ | refine Gr.drew ?_)))).mono ?_); rintro e' w5 ⟨rfl, g5'⟩; have g5 : Gr wc w5 := Gr.trans (by repeat (first | exact Gr.refl wc | refine Gr.alloc ?_ _ | refine Gr.drew ?_)) g5'))
      all_goals
        have HB5 := Lib.hid (g5.blk HB4.out)
        have G5 := G4.trans g5
        clear s0 s1 s2 s3 s4 s5 s6 s7
        have x0 := blk_cell HB5.out (j := 0) rfl
        have x1 := blk_cell HB5.out (j := 1) rfl
        have x2 := blk_cell HB5.out (j := 2) rfl
        have x3 := blk_cell HB5.out (j := 3) rfl
        have x4 := blk_cell HB5.out (j := 4) rfl
        have x5 := blk_cell HB5.out (j := 5) rfl
        have x6 := blk_cell HB5.out (j := 6) rfl
        have x7 := blk_cell HB5.out (j := 7) rfl
        have f0 := blk_frozen HB5.out 0
        have f1 := blk_frozen HB5.out 1
        have f2 := blk_frozen HB5.out 2
        have f3 := blk_frozen HB5.out 3
        have f4 := blk_frozen HB5.out 4
        have f5 := blk_frozen HB5.out 5
        have f6 := blk_frozen HB5.out 6
        have f7 := blk_frozen HB5.out 7
        go_wp2
        change bodyPost _ _ _ _ _ (put8 w5 w.heap.size (.int .i64 0) (.slice none 0 0) (.string ⟨#[]⟩) (.int .i64 0) (.int .i64 0) (.slice none 0 0) (.string ⟨#[]⟩) (.int .i64 0))
        have hW := put8_blk HB5.out (.int .i64 0) (.slice none 0 0) (.string ⟨#[]⟩) (.int .i64 0) (.int .i64 0) (.slice none 0 0) (.string ⟨#[]⟩) (.int .i64 0)
        have cW := put8_chg w5 w.heap.size (.int .i64 0) (.slice none 0 0) (.string ⟨#[]⟩) (.int .i64 0) (.int .i64 0) (.slice none 0 0) (.string ⟨#[]⟩) (.int .i64 0)
        generalize put8 w5 w.heap.size (.int .i64 0) (.slice none 0 0) (.string ⟨#[]⟩) (.int .i64 0) (.int .i64 0) (.slice none 0 0) (.string ⟨#[]⟩) (.int .i64 0) = wz at *
        have y0 := blk_cell hW (j := 0) rfl
        have y1 := blk_cell hW (j := 1) rfl
        have y2 := blk_cell hW (j := 2) rfl
        have y3 := blk_cell hW (j := 3) rfl
        have y4 := blk_cell hW (j := 4) rfl
        have y5 := blk_cell hW (j := 5) rfl
        have y6 := blk_cell hW (j := 6) rfl
        have y7 := blk_cell hW (j := 7) rfl
        exact bodyPost_ret (v := .tuple #[.agg #[.int .i64 0, .slice none 0 0, .string ⟨#[]⟩, .int .i64 0, .int .i64 0, .slice none 0 0, .string ⟨#[]⟩, .int .i64 0], .int .i64 0, .bool false]) (by simp [results, Tryz.results16, go_sem, y0, y1, y2, y3, y4, y5, y6, y7]) rfl (LineSpec.no hR.out HN.out (cW.gr G5 (Nat.le_refl _)))
    · obtain ⟨t, e1⟩ : ∃ t, lineText ⟨⟨ka, qa, tx na, nA⟩, ⟨kb, qb, tx nb, nB⟩⟩ = t := ⟨_, rfl⟩
      have HOK := Lib.hid hok
      have E1 := Lib.hid e1
      have SL := Lib.hid (fun (W : World) (h1 : IntS W (.slice u qa.length c) qa) (h2 : IntS W (.slice v qb.length d) qb) => specLine_t ka nA kb nB na nb h1 h2 hna hnb HOK E1)
      have htl := tl_eq (S t) (s.extract 0 e)
      rw [tx_S] at htl
      rw [e1] at HIh
      by_cases hq : t = tx (s.extract 0 e)
      · have HN : Hid (lineFrom (tx s) = some (⟨⟨ka, qa, tx na, nA⟩, ⟨kb, qb, tx nb, nB⟩⟩, e)) := by
          rw [Hid, HIh.out, if_pos ⟨hok, hq⟩]
        rw [decide_eq_true hq] at htl
        clear hok e1 hq
        have s0 := blk_cell HC.out (j := 0) rfl
        have s1 := blk_cell HC.out (j := 1) rfl
        have s2 := blk_cell HC.out (j := 2) rfl
        have s3 := blk_cell HC.out (j := 3) rfl
        have s4 := blk_cell HC.out (j := 4) rfl
        have s5 := blk_cell HC.out (j := 5) rfl
        have s6 := blk_cell HC.out (j := 6) rfl
        have s7 := blk_cell HC.out (j := 7) rfl
        go_upto_region 8 with fail
        go_region_with (first | (go_at_call 49; (with_reducible refine (SL.out _ (o1.s.kept (by repeat (first | exact Gr.refl wc | refine Gr.alloc ?_ _ | refine Gr.drew ?_))) (o2.s.kept (by repeat (first | exact Gr.refl wc | refine Gr.alloc ?_ _ | refine Gr.drew ?_)))).mono ?_); rintro e' w5 ⟨rfl, g5'⟩; have g5 : Gr wc w5 := Gr.trans (by repeat (first | exact Gr.refl wc | refine Gr.alloc ?_ _ | refine Gr.drew ?_)) g5'))
        all_goals
          have HB5 := Lib.hid (g5.blk HB4.out)
          have HC5 := Lib.hid (g5.blk HC.out)
          have G5 := G4.trans g5
          have o15 := o1.kept g5
          have o25 := o2.kept g5
          clear s0 s1 s2 s3 s4 s5 s6 s7
          have x0 := blk_cell HB5.out (j := 0) rfl
          have x1 := blk_cell HB5.out (j := 1) rfl
          have x2 := blk_cell HB5.out (j := 2) rfl
          have x3 := blk_cell HB5.out (j := 3) rfl
          have x4 := blk_cell HB5.out (j := 4) rfl
          have x5 := blk_cell HB5.out (j := 5) rfl
          have x6 := blk_cell HB5.out (j := 6) rfl
          have x7 := blk_cell HB5.out (j := 7) rfl
          have f0 := blk_frozen HB5.out 0
          have f1 := blk_frozen HB5.out 1
          have f2 := blk_frozen HB5.out 2
          have f3 := blk_frozen HB5.out 3
          have f4 := blk_frozen HB5.out 4
          have f5 := blk_frozen HB5.out 5
          have f6 := blk_frozen HB5.out 6
          have f7 := blk_frozen HB5.out 7
          have s0 := blk_cell HC5.out (j := 0) rfl
          have s1 := blk_cell HC5.out (j := 1) rfl
          have s2 := blk_cell HC5.out (j := 2) rfl
          have s3 := blk_cell HC5.out (j := 3) rfl
          have s4 := blk_cell HC5.out (j := 4) rfl
          have s5 := blk_cell HC5.out (j := 5) rfl
          have s6 := blk_cell HC5.out (j := 6) rfl
          have s7 := blk_cell HC5.out (j := 7) rfl
          go_wp2
          change bodyPost _ _ _ _ _ (put8 w5 w.heap.size (.int .i64 ka) (.slice u qa.length c) (.string na) (.int .i64 nA) (.int .i64 kb) (.slice v qb.length d) (.string nb) (.int .i64 nB))
          have hW := put8_blk HB5.out (.int .i64 ka) (.slice u qa.length c) (.string na) (.int .i64 nA) (.int .i64 kb) (.slice v qb.length d) (.string nb) (.int .i64 nB)
          have cW := put8_chg w5 w.heap.size (.int .i64 ka) (.slice u qa.length c) (.string na) (.int .i64 nA) (.int .i64 kb) (.slice v qb.length d) (.string nb) (.int .i64 nB)
          generalize put8 w5 w.heap.size (.int .i64 ka) (.slice u qa.length c) (.string na) (.int .i64 nA) (.int .i64 kb) (.slice v qb.length d) (.string nb) (.int .i64 nB) = wz at *
          have y0 := blk_cell hW (j := 0) rfl
          have y1 := blk_cell hW (j := 1) rfl
          have y2 := blk_cell hW (j := 2) rfl
          have y3 := blk_cell hW (j := 3) rfl
          have y4 := blk_cell hW (j := 4) rfl
          have y5 := blk_cell hW (j := 5) rfl
          have y6 := blk_cell hW (j := 6) rfl
          have y7 := blk_cell hW (j := 7) rfl
          have z0 := g3.sz
          exact bodyPost_ret (v := .tuple #[.agg #[.int .i64 ka, .slice u qa.length c, .string na, .int .i64 nA, .int .i64 kb, .slice v qb.length d, .string nb, .int .i64 nB], .int .i64 (e : Int), .bool true]) (by simp [results, Tryz.results16, go_sem, y0, y1, y2, y3, y4, y5, y6, y7]) rfl (LineSpec.yes hR.out HN.out (IntO.mono (IntB.o (IntB.chg (IntO.b o15) cW (.inr (by omega)))) (by omega)) (IntO.mono (IntB.o (IntB.chg (IntO.b o25) cW (.inr (by omega)))) (by omega)) (cW.gr G5 (Nat.le_refl _)))
      · have HN : Hid (lineFrom (tx s) = none) := by
          rw [Hid, HIh.out, if_neg]; rintro ⟨_, h2⟩; exact hq h2
        rw [decide_eq_false hq] at htl
        clear hok e1 hq
        have s0 := blk_cell HC.out (j := 0) rfl
        have s1 := blk_cell HC.out (j := 1) rfl
        have s2 := blk_cell HC.out (j := 2) rfl
        have s3 := blk_cell HC.out (j := 3) rfl
        have s4 := blk_cell HC.out (j := 4) rfl
        have s5 := blk_cell HC.out (j := 5) rfl
        have s6 := blk_cell HC.out (j := 6) rfl
        have s7 := blk_cell HC.out (j := 7) rfl
        go_upto_region 8 with fail
        go_region_with (first | (go_at_call 49; (with_reducible refine (SL.out _ (o1.s.kept (by repeat (first | exact Gr.refl wc | refine Gr.alloc ?_ _ | refine Gr.drew ?_))) (o2.s.kept (by repeat (first | exact Gr.refl wc | refine Gr.alloc ?_ _ | refine Gr.drew ?_)))).mono ?_); rintro e' w5 ⟨rfl, g5'⟩; have g5 : Gr wc w5 := Gr.trans (by repeat (first | exact Gr.refl wc | refine Gr.alloc ?_ _ | refine Gr.drew ?_)) g5'))
        all_goals
          have HB5 := Lib.hid (g5.blk HB4.out)
          have G5 := G4.trans g5
          clear s0 s1 s2 s3 s4 s5 s6 s7
          have x0 := blk_cell HB5.out (j := 0) rfl
          have x1 := blk_cell HB5.out (j := 1) rfl
          have x2 := blk_cell HB5.out (j := 2) rfl
          have x3 := blk_cell HB5.out (j := 3) rfl
          have x4 := blk_cell HB5.out (j := 4) rfl
          have x5 := blk_cell HB5.out (j := 5) rfl
          have x6 := blk_cell HB5.out (j := 6) rfl
          have x7 := blk_cell HB5.out (j := 7) rfl
          have f0 := blk_frozen HB5.out 0
          have f1 := blk_frozen HB5.out 1
          have f2 := blk_frozen HB5.out 2
          have f3 := blk_frozen HB5.out 3
          have f4 := blk_frozen HB5.out 4
          have f5 := blk_frozen HB5.out 5
          have f6 := blk_frozen HB5.out 6
          have f7 := blk_frozen HB5.out 7
          go_wp2
          change bodyPost _ _ _ _ _ (put8 w5 w.heap.size (.int .i64 0) (.slice none 0 0) (.string ⟨#[]⟩) (.int .i64 0) (.int .i64 0) (.slice none 0 0) (.string ⟨#[]⟩) (.int .i64 0))
          have hW := put8_blk HB5.out (.int .i64 0) (.slice none 0 0) (.string ⟨#[]⟩) (.int .i64 0) (.int .i64 0) (.slice none 0 0) (.string ⟨#[]⟩) (.int .i64 0)
          have cW := put8_chg w5 w.heap.size (.int .i64 0) (.slice none 0 0) (.string ⟨#[]⟩) (.int .i64 0) (.int .i64 0) (.slice none 0 0) (.string ⟨#[]⟩) (.int .i64 0)
          generalize put8 w5 w.heap.size (.int .i64 0) (.slice none 0 0) (.string ⟨#[]⟩) (.int .i64 0) (.int .i64 0) (.slice none 0 0) (.string ⟨#[]⟩) (.int .i64 0) = wz at *
          have y0 := blk_cell hW (j := 0) rfl
          have y1 := blk_cell hW (j := 1) rfl
          have y2 := blk_cell hW (j := 2) rfl
          have y3 := blk_cell hW (j := 3) rfl
          have y4 := blk_cell hW (j := 4) rfl
          have y5 := blk_cell hW (j := 5) rfl
          have y6 := blk_cell hW (j := 6) rfl
          have y7 := blk_cell hW (j := 7) rfl
          exact bodyPost_ret (v := .tuple #[.agg #[.int .i64 0, .slice none 0 0, .string ⟨#[]⟩, .int .i64 0, .int .i64 0, .slice none 0 0, .string ⟨#[]⟩, .int .i64 0], .int .i64 0, .bool false]) (by simp [results, Tryz.results16, go_sem, y0, y1, y2, y3, y4, y5, y6, y7]) rfl (LineSpec.no hR.out HN.out (cW.gr G5 (Nat.le_refl _)))
end Go.Proofs.YtncnnfmfpilonaaGreatDoor
