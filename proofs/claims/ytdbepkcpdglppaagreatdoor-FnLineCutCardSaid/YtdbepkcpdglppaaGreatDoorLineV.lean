/- impl.LineFrom. -/
import Derived.Test.YtdbepkcpdglppaaGreatDoorAdrI
import Derived.Test.YtdbepkcpdglppaaGreatDoorGU
import Derived.Deep.RegionWith
import Derived.Deep.DeepCutAuto
namespace Go.Proofs.YtdbepkcpdglppaaGreatDoor
open Go.RowKit
/-- An address in a variable, and whether there is one. -/
def AdrCell (w0 : World) (k : Int) (xs : List Int) (nm : ByteArray) (p : Int) (ok : Bool) (u b : Value) (wx : World) : Prop :=
  ∃ (b9 B T : Nat) (q : Option Addr) (c : Nat), u = .pointer (some ⟨b9, 0, none⟩) ∧ b = .bool ok ∧ wx.heap[b9]? = some (.cells #[.int .i64 k, .slice q xs.length c, .string nm, .int .i64 p] 25 (0, 0)) ∧ IntB B T 3 wx (.slice q xs.length c) xs ∧ w0.heap.size ≤ B ∧ B ≤ T ∧ T ≤ wx.heap.size ∧ w0.heap.size ≤ b9 ∧ Gr w0 wx
theorem AdrCell.late {w0 w9 : World} {k : Int} {xs : List Int} {nm : ByteArray} {p : Int} {ok : Bool} {q : Option Addr} {c m : Nat} (hm : m = w9.heap.size) (o : IntO w0.heap.size 3 w9 (.slice q xs.length c) xs) (g : Gr w0 w9) :
    AdrCell w0 k xs nm p ok (.pointer (some ⟨m, 0, none⟩)) (.bool ok) (w9.alloc (.cells #[.int .i64 k, .slice q xs.length c, .string nm, .int .i64 p] 25)) := by
  subst hm
  exact ⟨_, w0.heap.size, w9.heap.size, q, c, rfl, rfl, heap_alloc_new _ _, (IntO.b o).kept (gr_alloc _ _), Nat.le_refl _, g.sz, by simp, g.sz, g.alloc _⟩
theorem AdrCell.early {w0 w9 : World} {k : Int} {xs : List Int} {nm : ByteArray} {p : Int} {ok : Bool} {q : Option Addr} {c : Nat} {c0 c1 c2 c3 : Value} (o : IntO (w0.heap.size + 1) 3 w9 (.slice q xs.length c) xs) (g : Gr w0 w9) (hq : w9.heap[w0.heap.size]? = some (.cells #[c0, c1, c2, c3] 25 (0, 0))) :
    AdrCell w0 k xs nm p ok (.pointer (some ⟨w0.heap.size, 0, none⟩)) (.bool ok) (put4 w9 w0.heap.size (.int .i64 k) (.slice q xs.length c) (.string nm) (.int .i64 p)) := by
  have hlt := (Array.getElem?_eq_some_iff.1 hq).1
  have cW := put4_chg w9 w0.heap.size (.int .i64 k) (.slice q xs.length c) (.string nm) (.int .i64 p)
  exact ⟨w0.heap.size, w0.heap.size + 1, w9.heap.size, q, c, rfl, rfl, put4_blk hq _ _ _ _, IntB.chg (IntO.b o) cW (.inr (Nat.le_refl _)), by omega, hlt, by rw [cW.size]; exact Nat.le_refl _, Nat.le_refl _, cW.gr g (Nat.le_refl _)⟩
theorem cut1_len (l sep : Tx) : (Lib.cut l sep).1.length ≤ l.length := by
  unfold Lib.cut
  split
  · simp; omega
  · simp
theorem StrS.ixN {w : World} {p : Option Addr} {cap n : Nat} {ls : List Tx} (h : StrS w (.slice p n cap) ls) (hn : ls.length = n) (k : Nat) (ki : Int) (hki : ki = (k : Int)) (hk : k < n) {t : Tx} (ht : nthS ls k = t) :
    ∃ a : Addr, (∀ w1, (Instr.indexAt 58 (.slice p n cap) (.int .i64 ki)).run Tryz.prog w1 = .ok (.pointer (some a)) w1) ∧ w.cell? a = some (.string (S t)) := by
  subst hn hki ht
  exact h.ix hk
theorem list6 {ls : List Tx} (h : ls.length = 6) : ∃ a0 a1 a b c d, ls = [a0, a1, a, b, c, d] := by
  match ls, h with
  | [a0, a1, a, b, c, d], _ => exact ⟨a0, a1, a, b, c, d, rfl⟩
theorem grAny {a b c : World} (h : Gr a b) (g : Gr b c) : Gr a c := h.trans g
theorem AdrIs.small {l : Tx} {k : Int} {xs : List Int} {nm : ByteArray} {p : Int} {ok : Bool} (h : AdrIs l k xs nm p ok) : nm.size ≤ 20 := by
  rcases h with ⟨h, _⟩ | ⟨_, _, _, rfl, _⟩
  · obtain ⟨h1, _⟩ := addrFrom_sound h
    rcases adr_kind h1 with ⟨_, _, e⟩ | ⟨_, e, _⟩
    · simp only at e; rw [← tx_len, e]; simp
    · have := nameOk_len e; simp only at this; rw [tx_len] at this; exact this
  · simp [ByteArray.size]
/-- The last step of LineFrom. -/
def lineOf (l : Tx) (x y : Option Adr) : Option (Par × Nat) :=
  match x, y with
  | some x, some y => if parOk ⟨x, y⟩ = true ∧ Lib.hasPrefix l (lineText ⟨x, y⟩) = true then some (⟨x, y⟩, (lineText ⟨x, y⟩).length) else none
  | _, _ => none
theorem line_no {l tA tB : Tx} {ka pa kb pb : Int} {qa qb : List Int} {na nb : ByteArray} {oa ob : Bool} (hA : AdrIs tA ka qa na pa oa) (hB : AdrIs tB kb qb nb pb ob) (hI : lineFrom l = lineOf l (addrFrom tA) (addrFrom tB))
    (h : oa = false ∨ ob = false ∨ parOk ⟨⟨ka, qa, tx na, pa⟩, ⟨kb, qb, tx nb, pb⟩⟩ = false ∨ Lib.hasPrefix l (lineText ⟨⟨ka, qa, tx na, pa⟩, ⟨kb, qb, tx nb, pb⟩⟩) = false) : lineFrom l = none := by
  rw [hI]
  rcases hA with ⟨eA, rfl⟩ | ⟨eA, _⟩
  · rcases hB with ⟨eB, rfl⟩ | ⟨eB, _⟩
    · rw [eA, eB]
      show (if _ then _ else none) = none
      rw [if_neg]
      rintro ⟨h1, h2⟩
      rcases h with h | h | h | h
      · cases h
      · cases h
      · rw [h] at h1; cases h1
      · rw [h] at h2; cases h2
    · rw [eA, eB]; rfl
  · rw [eA]; rfl
theorem line_yes {l tA tB : Tx} {ka pa kb pb : Int} {qa qb : List Int} {na nb : ByteArray} {oa ob : Bool} (hA : AdrIs tA ka qa na pa oa) (hB : AdrIs tB kb qb nb pb ob) (hI : lineFrom l = lineOf l (addrFrom tA) (addrFrom tB))
    (h1 : oa = true) (h2 : ob = true) (h3 : parOk ⟨⟨ka, qa, tx na, pa⟩, ⟨kb, qb, tx nb, pb⟩⟩ = true) (h4 : Lib.hasPrefix l (lineText ⟨⟨ka, qa, tx na, pa⟩, ⟨kb, qb, tx nb, pb⟩⟩) = true) :
    lineFrom l = some (⟨⟨ka, qa, tx na, pa⟩, ⟨kb, qb, tx nb, pb⟩⟩, (S (lineText ⟨⟨ka, qa, tx na, pa⟩, ⟨kb, qb, tx nb, pb⟩⟩)).size) := by
  rw [hI]
  rcases hA with ⟨eA, _⟩ | ⟨_, _, _, _, _, e⟩
  · rcases hB with ⟨eB, _⟩ | ⟨_, _, _, _, _, e⟩
    · rw [eA, eB, S_len]
      show (if _ then _ else none) = _
      rw [if_pos ⟨h3, h4⟩]
    · rw [h2] at e; cases e
  · rw [h1] at e; cases e
set_option maxRecDepth 20000 in
set_option maxHeartbeats 8000000 in
theorem implLF {w : World} {k1 : Int} {q1 : List Int} {s1 : ByteArray} {p1 k2 : Int} {q2 : List Int} {s2 : ByteArray} {p2 : Int} {n : Int} {ok : Bool} {s : ByteArray} (hR : Hid (LineIs (tx s) k1 q1 s1 p1 k2 q2 s2 p2 n ok)) (hm : ML w) (he : ErrV w) (ht : Tab w) (hs : s.size ≤ 1048576) :
    Calls Tryz.prog 28 #[.string s] w (LinePost k1 q1 s1 p1 k2 q2 s2 p2 n ok w) := by
  have gA := gr_alloc w (.cells #[.int .i64 0, .slice none 0 0, .string ⟨#[]⟩, .int .i64 0, .int .i64 0, .slice none 0 0, .string ⟨#[]⟩, .int .i64 0] 27)
  have hB0 := heap_alloc_new w (.cells #[.int .i64 0, .slice none 0 0, .string ⟨#[]⟩, .int .i64 0, .int .i64 0, .slice none 0 0, .string ⟨#[]⟩, .int .i64 0] 27)
  have zA : (w.alloc (.cells #[.int .i64 0, .slice none 0 0, .string ⟨#[]⟩, .int .i64 0, .int .i64 0, .slice none 0 0, .string ⟨#[]⟩, .int .i64 0] 27)).heap.size = w.heap.size + 1 := by simp
  have HI : Hid (lineFrom (tx s) = lineFromI (tx s)) := (lineFromI_eq (tx s)).symm
  unfold lineFromI at HI
  have hll := cut1_len (tx s) [13, 10]
  rw [tx_len] at hll
  have C := cut_c (hm.kept gA) s ⟨#[13, 10]⟩ (by omega)
  rw [show tx ⟨#[13, 10]⟩ = [13, 10] from rfl] at C
  have HC := Lib.hid C
  clear C
  obtain ⟨ll, hle⟩ : ∃ ll, ll = S (Lib.cut (tx s) [13, 10]).1 := ⟨_, rfl⟩
  have hle2 : (Lib.cut (tx s) [13, 10]).1 = tx ll := by rw [hle, tx_S]
  rw [← hle] at HC
  rw [hle2] at HI hll
  clear hle hle2
  generalize (Lib.cut (tx s) [13, 10]).2.1 = cr at *
  generalize (Lib.cut (tx s) [13, 10]).2.2 = fnd at *
  rw [tx_len] at hll
  go_enter Tryz.func28, Tryz.ntmps28
  go_wp2_with fail
  (with_reducible refine (HC.out).mono ?_); rintro e w1 ⟨rfl, g1⟩
  have HB1 := Lib.hid (g1.blk hB0)
  have G1 := gA.trans g1
  have z1 := g1.sz
  rw [zA] at z1
  clear hB0 zA gA g1 HC
  go_wp2_with fail
  (with_reducible refine (split_c (hm.kept G1) ll 32 (by omega)).mono ?_); rintro e w2 ⟨v2, rfl, ho, g2⟩
  have HB2 := Lib.hid (g2.blk HB1.out)
  have G2 := G1.trans g2
  have z2 := g2.sz
  have hss := ho.s
  clear HB1 G1 g2 ho
  have hsix := @six_len (tx ll)
  rw [tx_len] at hsix
  generalize cutB 32 (tx ll) = ls at *
  by_cases h6 : ls.length = 6
  rotate_left
  · have HN : Hid (lineFrom (tx s) = none) := by
      rw [Hid, HI.out]
      rcases ls with _ | ⟨_, _ | ⟨_, _ | ⟨_, _ | ⟨_, _ | ⟨_, _ | ⟨_, _ | ⟨_, _⟩⟩⟩⟩⟩⟩⟩ <;> first | rfl | exact absurd rfl h6
    obtain ⟨pw, cw, rfl, _, _⟩ := hss.form
    have h6' : ((ls.length : Int) == 6) = false := beq_eq_false_iff_ne.2 (by omega)
    clear h6 HI hsix hss
    have x0 := blk_cell HB2.out (j := 0) rfl
    have x1 := blk_cell HB2.out (j := 1) rfl
    have x2 := blk_cell HB2.out (j := 2) rfl
    have x3 := blk_cell HB2.out (j := 3) rfl
    have x4 := blk_cell HB2.out (j := 4) rfl
    have x5 := blk_cell HB2.out (j := 5) rfl
    have x6 := blk_cell HB2.out (j := 6) rfl
    have x7 := blk_cell HB2.out (j := 7) rfl
    have f0 := blk_frozen HB2.out 0
    have f1 := blk_frozen HB2.out 1
    have f2 := blk_frozen HB2.out 2
    have f3 := blk_frozen HB2.out 3
    have f4 := blk_frozen HB2.out 4
    have f5 := blk_frozen HB2.out 5
    have f6 := blk_frozen HB2.out 6
    have f7 := blk_frozen HB2.out 7
    go_wp2
    change bodyPost _ _ _ _ _ (put8 w2 w.heap.size (.int .i64 0) (.slice none 0 0) (.string ⟨#[]⟩) (.int .i64 0) (.int .i64 0) (.slice none 0 0) (.string ⟨#[]⟩) (.int .i64 0))
    have hW := put8_blk HB2.out (.int .i64 0) (.slice none 0 0) (.string ⟨#[]⟩) (.int .i64 0) (.int .i64 0) (.slice none 0 0) (.string ⟨#[]⟩) (.int .i64 0)
    have cW := put8_chg w2 w.heap.size (.int .i64 0) (.slice none 0 0) (.string ⟨#[]⟩) (.int .i64 0) (.int .i64 0) (.slice none 0 0) (.string ⟨#[]⟩) (.int .i64 0)
    generalize put8 w2 w.heap.size (.int .i64 0) (.slice none 0 0) (.string ⟨#[]⟩) (.int .i64 0) (.int .i64 0) (.slice none 0 0) (.string ⟨#[]⟩) (.int .i64 0) = wz at *
    have y0 := blk_cell hW (j := 0) rfl
    have y1 := blk_cell hW (j := 1) rfl
    have y2 := blk_cell hW (j := 2) rfl
    have y3 := blk_cell hW (j := 3) rfl
    have y4 := blk_cell hW (j := 4) rfl
    have y5 := blk_cell hW (j := 5) rfl
    have y6 := blk_cell hW (j := 6) rfl
    have y7 := blk_cell hW (j := 7) rfl
    exact bodyPost_ret (v := .tuple #[.agg #[.int .i64 0, .slice none 0 0, .string ⟨#[]⟩, .int .i64 0, .int .i64 0, .slice none 0 0, .string ⟨#[]⟩, .int .i64 0], .int .i64 0, .bool false]) (by simp [results, Tryz.results28, go_sem, y0, y1, y2, y3, y4, y5, y6, y7]) rfl (LinePost.no hR.out HN.out (cW.gr G2 (Nat.le_refl _)))
  obtain ⟨a0, a1, xa, xb, xc, xd, rfl⟩ := list6 h6
  have hsz := hsix rfl
  clear h6 hsix
  simp only [] at HI
  obtain ⟨pw, cw, rfl, _, _⟩ := hss.form
  obtain ⟨d2, ix2, c2⟩ := hss.ixN rfl 2 2 rfl (by simp) (t := xa) rfl
  obtain ⟨d3, ix3, c3⟩ := hss.ixN rfl 3 3 rfl (by simp) (t := xb) rfl
  obtain ⟨d4, ix4, c4⟩ := hss.ixN rfl 4 4 rfl (by simp) (t := xc) rfl
  obtain ⟨d5, ix5, c5⟩ := hss.ixN rfl 5 5 rfl (by simp) (t := xd) rfl
  simp only [List.length_cons, List.length_nil] at ix2 ix3 ix4 ix5
  have A1 := addL (P := Tryz.prog) (S xa) ⟨#[58]⟩ (xa ++ [58]) (by rw [tx_S]; rfl) (by simp; omega)
  have A2 := addL (P := Tryz.prog) (S (xa ++ [58])) (S xc) (xa ++ [58] ++ xc) (by rw [tx_S, tx_S]) (by simp; omega)
  have A3 := addL (P := Tryz.prog) (S xb) ⟨#[58]⟩ (xb ++ [58]) (by rw [tx_S]; rfl) (by simp; omega)
  have A4 := addL (P := Tryz.prog) (S (xb ++ [58])) (S xd) (xb ++ [58] ++ xd) (by rw [tx_S, tx_S]) (by simp; omega)
  obtain ⟨ka, qa, na, pa, oa, hA⟩ := adrIs_some (xa ++ [58] ++ xc)
  obtain ⟨kb, qb, nb, pb, ob, hB⟩ := adrIs_some (xb ++ [58] ++ xd)
  have HA := Lib.hid hA
  have HBB := Lib.hid hB
  have AF1 := Lib.hid (fun (W : World) (h1 : ML W) (h2 : ErrV W) (h3 : Tab W) => implAddressFrom_c h1 h2 h3 (S (xa ++ [58] ++ xc)) (by rw [S_len]; simp; omega) (k := ka) (p := pa) (xs := qa) (nm := na) (ok := oa) (Lib.hid (by rw [tx_S]; exact hA)))
  have AF2 := Lib.hid (fun (W : World) (h1 : ML W) (h2 : ErrV W) (h3 : Tab W) => implAddressFrom_c h1 h2 h3 (S (xb ++ [58] ++ xd)) (by rw [S_len]; simp; omega) (k := kb) (p := pb) (xs := qb) (nm := nb) (ok := ob) (Lib.hid (by rw [tx_S]; exact hB)))
  have hsx : (S xa).size ≤ 1048576 ∧ (S xb).size ≤ 1048576 := by rw [S_len, S_len]; omega
  clear hA hB hsz hll
  generalize xa ++ [58] ++ xc = tA at *
  generalize xb ++ [58] ++ xd = tB at *
  generalize xa ++ [58] = uA at *
  generalize xb ++ [58] = uB at *
  have hm2 := hm.kept G2
  have he2 := he.kept G2
  have ht2 := ht.kept G2
  go_upto_region 5 with fail
  go_cut [9, 10] (fun u b wx => AdrCell w2 ka qa na pa oa u b wx)
  case first =>
    have ne2 : ∀ o, (w2.alloc o).cell? d2 = some (.string (S xa)) := fun o => (gr_alloc w2 o).cell c2
    have ne4 : ∀ o, (w2.alloc o).cell? d4 = some (.string (S xc)) := fun o => (gr_alloc w2 o).cell c4
    go_region_with (first
      | (go_at_call 74; (with_reducible refine (AF1.out _ (hm2.kept (by repeat (first | exact Gr.refl w2 | refine Gr.alloc ?_ _ | refine Gr.drew ?_))) (he2.kept (by repeat (first | exact Gr.refl w2 | refine Gr.alloc ?_ _ | refine Gr.drew ?_))) (ht2.kept (by repeat (first | exact Gr.refl w2 | refine Gr.alloc ?_ _ | refine Gr.drew ?_)))).mono ?_); rintro e w9 ⟨q9, c9, rfl, o9', g9'⟩; have g9 : Gr w2 w9 := Gr.trans (by repeat (first | exact Gr.refl w2 | refine Gr.alloc ?_ _ | refine Gr.drew ?_)) g9'; have hQ9 : w9.heap[w2.heap.size]? = some (.cells #[.int .i64 0, .slice none 0 0, .string ⟨#[]⟩, .int .i64 0] 25 (0, 0)) := g9'.blk (heap_alloc_new w2 (.cells #[.int .i64 0, .slice none 0 0, .string ⟨#[]⟩, .int .i64 0] 25)); have HQ9 := Lib.hid hQ9; have o9 : IntO (w2.heap.size + 1) 3 w9 _ _ := IntO.mono o9' (by simp); have x0 := blk_cell hQ9 (j := 0) rfl; have x1 := blk_cell hQ9 (j := 1) rfl; have x2 := blk_cell hQ9 (j := 2) rfl; have x3 := blk_cell hQ9 (j := 3) rfl; have f0 := blk_frozen hQ9 0; have f1 := blk_frozen hQ9 1; have f2 := blk_frozen hQ9 2; have f3 := blk_frozen hQ9 3; clear hQ9)
      | (go_at_call 74; (with_reducible refine (AF1.out _ (hm2.kept (by repeat (first | exact Gr.refl w2 | refine Gr.alloc ?_ _ | refine Gr.drew ?_))) (he2.kept (by repeat (first | exact Gr.refl w2 | refine Gr.alloc ?_ _ | refine Gr.drew ?_))) (ht2.kept (by repeat (first | exact Gr.refl w2 | refine Gr.alloc ?_ _ | refine Gr.drew ?_)))).mono ?_); rintro e w9 ⟨q9, c9, rfl, o9', g9'⟩; have g9 : Gr w2 w9 := Gr.trans (by repeat (first | exact Gr.refl w2 | refine Gr.alloc ?_ _ | refine Gr.drew ?_)) g9'; have o9 : IntO w2.heap.size 3 w9 _ _ := IntO.mono o9' (Nat.le_refl _)))
    all_goals
      go_wp2_with fail
      go_meet
      first
        | (with_reducible exact AdrCell.late rfl o9 g9)
        | exact AdrCell.early o9 g9 HQ9.out
  case rest =>
    obtain ⟨b9, Ba, Ta, q9, c9, rfl, rfl, hb9, iA, ia1, ia2, ia3, ia4, g9⟩ := hcut
    have HBa := Lib.hid hb9
    have HB3 := Lib.hid (g9.blk HB2.out)
    have G3 := G2.trans g9
    have c3' := g9.cell c3
    have c5' := g9.cell c5
    have z3 := g9.sz
    clear hb9 c2 c3 c4 c5 ix2 ix4 hm2 he2 ht2 AF1 A1 A2
    have hm3 := hm.kept G3
    have he3 := he.kept G3
    have ht3 := ht.kept G3
    go_upto_region 6 with fail
    go_cut [11, 12] (fun u b wx => AdrCell wc kb qb nb pb ob u b wx)
    case first =>
      have ne3 : ∀ o, (wc.alloc o).cell? d3 = some (.string (S xb)) := fun o => (gr_alloc wc o).cell c3'
      have ne5 : ∀ o, (wc.alloc o).cell? d5 = some (.string (S xd)) := fun o => (gr_alloc wc o).cell c5'
      go_region_with (first
        | (go_at_call 74; (with_reducible refine (AF2.out _ (hm3.kept (by repeat (first | exact Gr.refl wc | refine Gr.alloc ?_ _ | refine Gr.drew ?_))) (he3.kept (by repeat (first | exact Gr.refl wc | refine Gr.alloc ?_ _ | refine Gr.drew ?_))) (ht3.kept (by repeat (first | exact Gr.refl wc | refine Gr.alloc ?_ _ | refine Gr.drew ?_)))).mono ?_); rintro e w8 ⟨q8, c8, rfl, o8', g8'⟩; have g8 : Gr wc w8 := Gr.trans (by repeat (first | exact Gr.refl wc | refine Gr.alloc ?_ _ | refine Gr.drew ?_)) g8'; have hQ8 : w8.heap[wc.heap.size]? = some (.cells #[.int .i64 0, .slice none 0 0, .string ⟨#[]⟩, .int .i64 0] 25 (0, 0)) := g8'.blk (heap_alloc_new wc (.cells #[.int .i64 0, .slice none 0 0, .string ⟨#[]⟩, .int .i64 0] 25)); have HQ8 := Lib.hid hQ8; have o8 : IntO (wc.heap.size + 1) 3 w8 _ _ := IntO.mono o8' (by simp); have x0 := blk_cell hQ8 (j := 0) rfl; have x1 := blk_cell hQ8 (j := 1) rfl; have x2 := blk_cell hQ8 (j := 2) rfl; have x3 := blk_cell hQ8 (j := 3) rfl; have f0 := blk_frozen hQ8 0; have f1 := blk_frozen hQ8 1; have f2 := blk_frozen hQ8 2; have f3 := blk_frozen hQ8 3; clear hQ8)
        | (go_at_call 74; (with_reducible refine (AF2.out _ (hm3.kept (by repeat (first | exact Gr.refl wc | refine Gr.alloc ?_ _ | refine Gr.drew ?_))) (he3.kept (by repeat (first | exact Gr.refl wc | refine Gr.alloc ?_ _ | refine Gr.drew ?_))) (ht3.kept (by repeat (first | exact Gr.refl wc | refine Gr.alloc ?_ _ | refine Gr.drew ?_)))).mono ?_); rintro e w8 ⟨q8, c8, rfl, o8', g8'⟩; have g8 : Gr wc w8 := Gr.trans (by repeat (first | exact Gr.refl wc | refine Gr.alloc ?_ _ | refine Gr.drew ?_)) g8'; have o8 : IntO wc.heap.size 3 w8 _ _ := IntO.mono o8' (Nat.le_refl _)))
      all_goals
        go_wp2_with fail
        go_meet
        first
          | (with_reducible exact AdrCell.late rfl o8 g8)
          | exact AdrCell.early o8 g8 HQ8.out
    case rest =>
      obtain ⟨b8, Bb, Tb, q8, c8, rfl, rfl, hb8, iB, ib1, ib2, ib3, ib4, g8⟩ := hcut
      have HBb := Lib.hid hb8
      have HBa2 := Lib.hid (g8.blk HBa.out)
      have HB4 := Lib.hid (g8.blk HB3.out)
      have G4 := G3.trans g8
      have iA2 := iA.kept g8
      have z4 := g8.sz
      clear hb8 HBa HB3 iA ix3 ix5 c3' c5' AF2 A3 A4 hm3 he3 ht3 g8
      have x0 := blk_cell HBa2.out (j := 0) rfl
      have x1 := blk_cell HBa2.out (j := 1) rfl
      have x2 := blk_cell HBa2.out (j := 2) rfl
      have x3 := blk_cell HBa2.out (j := 3) rfl
      have s0 := blk_cell HBb.out (j := 0) rfl
      have s1 := blk_cell HBb.out (j := 1) rfl
      have s2 := blk_cell HBb.out (j := 2) rfl
      have s3 := blk_cell HBb.out (j := 3) rfl
      have gP := gr_alloc wc (.cells #[.int .i64 ka, .slice q9 qa.length c9, .string na, .int .i64 pa, .int .i64 kb, .slice q8 qb.length c8, .string nb, .int .i64 pb] 27)
      have HP := Lib.hid (heap_alloc_new wc (.cells #[.int .i64 ka, .slice q9 qa.length c9, .string na, .int .i64 pa, .int .i64 kb, .slice q8 qb.length c8, .string nb, .int .i64 pb] 27))
      have zP : (wc.alloc (.cells #[.int .i64 ka, .slice q9 qa.length c9, .string na, .int .i64 pa, .int .i64 kb, .slice q8 qb.length c8, .string nb, .int .i64 pb] 27)).heap.size = wc.heap.size + 1 := by simp
      have ZP := Lib.hid zP
      have GP := G4.trans gP
      have hna := HA.out.small
      have hnb := HBB.out.small
      have HI2 : Hid (lineFrom (tx s) = lineOf (tx s) (addrFrom tA) (addrFrom tB)) := HI
      have Hno := Lib.hid (fun h => line_no HA.out HBB.out HI2.out h)
      have Hyes := Lib.hid (fun h1 h2 h3 h4 => line_yes HA.out HBB.out HI2.out h1 h2 h3 h4)
      have iA3 := iA2.kept gP
      have iB3 := iB.kept gP
      have HB5 := Lib.hid (gP.blk HB4.out)
      clear zP HI HI2 HA HBB iA2 iB HBa2 HBb HB4 G4
      cases hok : parOk ⟨⟨ka, qa, tx na, pa⟩, ⟨kb, qb, tx nb, pb⟩⟩
      · have HN := Lib.hid (Hno.out (.inr (.inr (.inl hok))))
        have HOK := Lib.hid hok
        clear hok Hno Hyes
        go_wp2_with fail
        (with_reducible refine (implLine_f (hm.kept GP) (ht.kept GP) ka pa kb pb na nb iA3.o.s iB3.o.s (by omega) (by omega) HOK).mono ?_); rintro e w5 ⟨rfl, g5⟩
        have HB6 := Lib.hid (g5.blk HB5.out)
        have G6 := GP.trans g5
        clear x0 x1 x2 x3 s0 s1 s2 s3
        cases oa
        · have x0 := blk_cell HB6.out (j := 0) rfl
          have x1 := blk_cell HB6.out (j := 1) rfl
          have x2 := blk_cell HB6.out (j := 2) rfl
          have x3 := blk_cell HB6.out (j := 3) rfl
          have x4 := blk_cell HB6.out (j := 4) rfl
          have x5 := blk_cell HB6.out (j := 5) rfl
          have x6 := blk_cell HB6.out (j := 6) rfl
          have x7 := blk_cell HB6.out (j := 7) rfl
          have f0 := blk_frozen HB6.out 0
          have f1 := blk_frozen HB6.out 1
          have f2 := blk_frozen HB6.out 2
          have f3 := blk_frozen HB6.out 3
          have f4 := blk_frozen HB6.out 4
          have f5 := blk_frozen HB6.out 5
          have f6 := blk_frozen HB6.out 6
          have f7 := blk_frozen HB6.out 7
          go_wp2
          change bodyPost _ _ _ _ _ (put8 w5 w.heap.size (.int .i64 0) (.slice none 0 0) (.string ⟨#[]⟩) (.int .i64 0) (.int .i64 0) (.slice none 0 0) (.string ⟨#[]⟩) (.int .i64 0))
          have hW := put8_blk HB6.out (.int .i64 0) (.slice none 0 0) (.string ⟨#[]⟩) (.int .i64 0) (.int .i64 0) (.slice none 0 0) (.string ⟨#[]⟩) (.int .i64 0)
          have cW := put8_chg w5 w.heap.size (.int .i64 0) (.slice none 0 0) (.string ⟨#[]⟩) (.int .i64 0) (.int .i64 0) (.slice none 0 0) (.string ⟨#[]⟩) (.int .i64 0)
          generalize put8 w5 w.heap.size (.int .i64 0) (.slice none 0 0) (.string ⟨#[]⟩) (.int .i64 0) (.int .i64 0) (.slice none 0 0) (.string ⟨#[]⟩) (.int .i64 0) = wz at *
          have y0 := blk_cell hW (j := 0) rfl
          have y1 := blk_cell hW (j := 1) rfl
          have y2 := blk_cell hW (j := 2) rfl
          have y3 := blk_cell hW (j := 3) rfl
          have y4 := blk_cell hW (j := 4) rfl
          have y5 := blk_cell hW (j := 5) rfl
          have y6 := blk_cell hW (j := 6) rfl
          have y7 := blk_cell hW (j := 7) rfl
          exact bodyPost_ret (v := .tuple #[.agg #[.int .i64 0, .slice none 0 0, .string ⟨#[]⟩, .int .i64 0, .int .i64 0, .slice none 0 0, .string ⟨#[]⟩, .int .i64 0], .int .i64 0, .bool false]) (by simp [results, Tryz.results28, go_sem, y0, y1, y2, y3, y4, y5, y6, y7]) rfl (LinePost.no hR.out HN.out (cW.gr G6 (Nat.le_refl _)))
        · cases ob
          · have x0 := blk_cell HB6.out (j := 0) rfl
            have x1 := blk_cell HB6.out (j := 1) rfl
            have x2 := blk_cell HB6.out (j := 2) rfl
            have x3 := blk_cell HB6.out (j := 3) rfl
            have x4 := blk_cell HB6.out (j := 4) rfl
            have x5 := blk_cell HB6.out (j := 5) rfl
            have x6 := blk_cell HB6.out (j := 6) rfl
            have x7 := blk_cell HB6.out (j := 7) rfl
            have f0 := blk_frozen HB6.out 0
            have f1 := blk_frozen HB6.out 1
            have f2 := blk_frozen HB6.out 2
            have f3 := blk_frozen HB6.out 3
            have f4 := blk_frozen HB6.out 4
            have f5 := blk_frozen HB6.out 5
            have f6 := blk_frozen HB6.out 6
            have f7 := blk_frozen HB6.out 7
            go_wp2
            change bodyPost _ _ _ _ _ (put8 w5 w.heap.size (.int .i64 0) (.slice none 0 0) (.string ⟨#[]⟩) (.int .i64 0) (.int .i64 0) (.slice none 0 0) (.string ⟨#[]⟩) (.int .i64 0))
            have hW := put8_blk HB6.out (.int .i64 0) (.slice none 0 0) (.string ⟨#[]⟩) (.int .i64 0) (.int .i64 0) (.slice none 0 0) (.string ⟨#[]⟩) (.int .i64 0)
            have cW := put8_chg w5 w.heap.size (.int .i64 0) (.slice none 0 0) (.string ⟨#[]⟩) (.int .i64 0) (.int .i64 0) (.slice none 0 0) (.string ⟨#[]⟩) (.int .i64 0)
            generalize put8 w5 w.heap.size (.int .i64 0) (.slice none 0 0) (.string ⟨#[]⟩) (.int .i64 0) (.int .i64 0) (.slice none 0 0) (.string ⟨#[]⟩) (.int .i64 0) = wz at *
            have y0 := blk_cell hW (j := 0) rfl
            have y1 := blk_cell hW (j := 1) rfl
            have y2 := blk_cell hW (j := 2) rfl
            have y3 := blk_cell hW (j := 3) rfl
            have y4 := blk_cell hW (j := 4) rfl
            have y5 := blk_cell hW (j := 5) rfl
            have y6 := blk_cell hW (j := 6) rfl
            have y7 := blk_cell hW (j := 7) rfl
            exact bodyPost_ret (v := .tuple #[.agg #[.int .i64 0, .slice none 0 0, .string ⟨#[]⟩, .int .i64 0, .int .i64 0, .slice none 0 0, .string ⟨#[]⟩, .int .i64 0], .int .i64 0, .bool false]) (by simp [results, Tryz.results28, go_sem, y0, y1, y2, y3, y4, y5, y6, y7]) rfl (LinePost.no hR.out HN.out (cW.gr G6 (Nat.le_refl _)))
          · have x0 := blk_cell HB6.out (j := 0) rfl
            have x1 := blk_cell HB6.out (j := 1) rfl
            have x2 := blk_cell HB6.out (j := 2) rfl
            have x3 := blk_cell HB6.out (j := 3) rfl
            have x4 := blk_cell HB6.out (j := 4) rfl
            have x5 := blk_cell HB6.out (j := 5) rfl
            have x6 := blk_cell HB6.out (j := 6) rfl
            have x7 := blk_cell HB6.out (j := 7) rfl
            have f0 := blk_frozen HB6.out 0
            have f1 := blk_frozen HB6.out 1
            have f2 := blk_frozen HB6.out 2
            have f3 := blk_frozen HB6.out 3
            have f4 := blk_frozen HB6.out 4
            have f5 := blk_frozen HB6.out 5
            have f6 := blk_frozen HB6.out 6
            have f7 := blk_frozen HB6.out 7
            go_wp2
            change bodyPost _ _ _ _ _ (put8 w5 w.heap.size (.int .i64 0) (.slice none 0 0) (.string ⟨#[]⟩) (.int .i64 0) (.int .i64 0) (.slice none 0 0) (.string ⟨#[]⟩) (.int .i64 0))
            have hW := put8_blk HB6.out (.int .i64 0) (.slice none 0 0) (.string ⟨#[]⟩) (.int .i64 0) (.int .i64 0) (.slice none 0 0) (.string ⟨#[]⟩) (.int .i64 0)
            have cW := put8_chg w5 w.heap.size (.int .i64 0) (.slice none 0 0) (.string ⟨#[]⟩) (.int .i64 0) (.int .i64 0) (.slice none 0 0) (.string ⟨#[]⟩) (.int .i64 0)
            generalize put8 w5 w.heap.size (.int .i64 0) (.slice none 0 0) (.string ⟨#[]⟩) (.int .i64 0) (.int .i64 0) (.slice none 0 0) (.string ⟨#[]⟩) (.int .i64 0) = wz at *
            have y0 := blk_cell hW (j := 0) rfl
            have y1 := blk_cell hW (j := 1) rfl
            have y2 := blk_cell hW (j := 2) rfl
            have y3 := blk_cell hW (j := 3) rfl
            have y4 := blk_cell hW (j := 4) rfl
            have y5 := blk_cell hW (j := 5) rfl
            have y6 := blk_cell hW (j := 6) rfl
            have y7 := blk_cell hW (j := 7) rfl
            exact bodyPost_ret (v := .tuple #[.agg #[.int .i64 0, .slice none 0 0, .string ⟨#[]⟩, .int .i64 0, .int .i64 0, .slice none 0 0, .string ⟨#[]⟩, .int .i64 0], .int .i64 0, .bool false]) (by simp [results, Tryz.results28, go_sem, y0, y1, y2, y3, y4, y5, y6, y7]) rfl (LinePost.no hR.out HN.out (cW.gr G6 (Nat.le_refl _)))
      · obtain ⟨t, e1⟩ : ∃ t, lineText ⟨⟨ka, qa, tx na, pa⟩, ⟨kb, qb, tx nb, pb⟩⟩ = t := ⟨_, rfl⟩
        have hl1 := (lineText_len hok).2
        rw [e1] at hl1
        have hne := S_notEmpty hl1
        have HOK := Lib.hid hok
        have E1 := Lib.hid e1
        rw [e1] at Hno Hyes
        clear hok e1 hl1
        go_wp2_with fail
        (with_reducible refine (implLine_t (hm.kept GP) (ht.kept GP) ka pa kb pb na nb iA3.o.s iB3.o.s (by omega) (by omega) HOK E1).mono ?_); rintro e w5 ⟨rfl, g5⟩
        have HB6 := Lib.hid (g5.blk HB5.out)
        have HP6 := Lib.hid (g5.blk HP.out)
        have G6 := GP.trans g5
        have z5 := g5.sz
        rw [ZP.out] at z5
        have iA4 := iA3.kept g5
        have iB4 := iB3.kept g5
        clear x0 x1 x2 x3 s0 s1 s2 s3
        cases oa
        · have HN := Lib.hid (Hno.out (.inl rfl))
          clear Hno Hyes
          have x0 := blk_cell HB6.out (j := 0) rfl
          have x1 := blk_cell HB6.out (j := 1) rfl
          have x2 := blk_cell HB6.out (j := 2) rfl
          have x3 := blk_cell HB6.out (j := 3) rfl
          have x4 := blk_cell HB6.out (j := 4) rfl
          have x5 := blk_cell HB6.out (j := 5) rfl
          have x6 := blk_cell HB6.out (j := 6) rfl
          have x7 := blk_cell HB6.out (j := 7) rfl
          have f0 := blk_frozen HB6.out 0
          have f1 := blk_frozen HB6.out 1
          have f2 := blk_frozen HB6.out 2
          have f3 := blk_frozen HB6.out 3
          have f4 := blk_frozen HB6.out 4
          have f5 := blk_frozen HB6.out 5
          have f6 := blk_frozen HB6.out 6
          have f7 := blk_frozen HB6.out 7
          go_wp2
          change bodyPost _ _ _ _ _ (put8 w5 w.heap.size (.int .i64 0) (.slice none 0 0) (.string ⟨#[]⟩) (.int .i64 0) (.int .i64 0) (.slice none 0 0) (.string ⟨#[]⟩) (.int .i64 0))
          have hW := put8_blk HB6.out (.int .i64 0) (.slice none 0 0) (.string ⟨#[]⟩) (.int .i64 0) (.int .i64 0) (.slice none 0 0) (.string ⟨#[]⟩) (.int .i64 0)
          have cW := put8_chg w5 w.heap.size (.int .i64 0) (.slice none 0 0) (.string ⟨#[]⟩) (.int .i64 0) (.int .i64 0) (.slice none 0 0) (.string ⟨#[]⟩) (.int .i64 0)
          generalize put8 w5 w.heap.size (.int .i64 0) (.slice none 0 0) (.string ⟨#[]⟩) (.int .i64 0) (.int .i64 0) (.slice none 0 0) (.string ⟨#[]⟩) (.int .i64 0) = wz at *
          have y0 := blk_cell hW (j := 0) rfl
          have y1 := blk_cell hW (j := 1) rfl
          have y2 := blk_cell hW (j := 2) rfl
          have y3 := blk_cell hW (j := 3) rfl
          have y4 := blk_cell hW (j := 4) rfl
          have y5 := blk_cell hW (j := 5) rfl
          have y6 := blk_cell hW (j := 6) rfl
          have y7 := blk_cell hW (j := 7) rfl
          exact bodyPost_ret (v := .tuple #[.agg #[.int .i64 0, .slice none 0 0, .string ⟨#[]⟩, .int .i64 0, .int .i64 0, .slice none 0 0, .string ⟨#[]⟩, .int .i64 0], .int .i64 0, .bool false]) (by simp [results, Tryz.results28, go_sem, y0, y1, y2, y3, y4, y5, y6, y7]) rfl (LinePost.no hR.out HN.out (cW.gr G6 (Nat.le_refl _)))
        · cases ob
          · have HN := Lib.hid (Hno.out (.inr (.inl rfl)))
            clear Hno Hyes
            have x0 := blk_cell HB6.out (j := 0) rfl
            have x1 := blk_cell HB6.out (j := 1) rfl
            have x2 := blk_cell HB6.out (j := 2) rfl
            have x3 := blk_cell HB6.out (j := 3) rfl
            have x4 := blk_cell HB6.out (j := 4) rfl
            have x5 := blk_cell HB6.out (j := 5) rfl
            have x6 := blk_cell HB6.out (j := 6) rfl
            have x7 := blk_cell HB6.out (j := 7) rfl
            have f0 := blk_frozen HB6.out 0
            have f1 := blk_frozen HB6.out 1
            have f2 := blk_frozen HB6.out 2
            have f3 := blk_frozen HB6.out 3
            have f4 := blk_frozen HB6.out 4
            have f5 := blk_frozen HB6.out 5
            have f6 := blk_frozen HB6.out 6
            have f7 := blk_frozen HB6.out 7
            go_wp2
            change bodyPost _ _ _ _ _ (put8 w5 w.heap.size (.int .i64 0) (.slice none 0 0) (.string ⟨#[]⟩) (.int .i64 0) (.int .i64 0) (.slice none 0 0) (.string ⟨#[]⟩) (.int .i64 0))
            have hW := put8_blk HB6.out (.int .i64 0) (.slice none 0 0) (.string ⟨#[]⟩) (.int .i64 0) (.int .i64 0) (.slice none 0 0) (.string ⟨#[]⟩) (.int .i64 0)
            have cW := put8_chg w5 w.heap.size (.int .i64 0) (.slice none 0 0) (.string ⟨#[]⟩) (.int .i64 0) (.int .i64 0) (.slice none 0 0) (.string ⟨#[]⟩) (.int .i64 0)
            generalize put8 w5 w.heap.size (.int .i64 0) (.slice none 0 0) (.string ⟨#[]⟩) (.int .i64 0) (.int .i64 0) (.slice none 0 0) (.string ⟨#[]⟩) (.int .i64 0) = wz at *
            have y0 := blk_cell hW (j := 0) rfl
            have y1 := blk_cell hW (j := 1) rfl
            have y2 := blk_cell hW (j := 2) rfl
            have y3 := blk_cell hW (j := 3) rfl
            have y4 := blk_cell hW (j := 4) rfl
            have y5 := blk_cell hW (j := 5) rfl
            have y6 := blk_cell hW (j := 6) rfl
            have y7 := blk_cell hW (j := 7) rfl
            exact bodyPost_ret (v := .tuple #[.agg #[.int .i64 0, .slice none 0 0, .string ⟨#[]⟩, .int .i64 0, .int .i64 0, .slice none 0 0, .string ⟨#[]⟩, .int .i64 0], .int .i64 0, .bool false]) (by simp [results, Tryz.results28, go_sem, y0, y1, y2, y3, y4, y5, y6, y7]) rfl (LinePost.no hR.out HN.out (cW.gr G6 (Nat.le_refl _)))
          · have HC := Lib.hid (hasPrefix_c w5 s (S t))
            rw [tx_S] at HC
            cases hp : Lib.hasPrefix (tx s) t
            · have HN := Lib.hid (Hno.out (.inr (.inr (.inr hp))))
              rw [hp] at HC
              clear Hno Hyes hp
              go_wp2_with fail
              (with_reducible refine (HC.out).mono ?_); rintro e w6 ⟨rfl, rfl⟩
              have x0 := blk_cell HB6.out (j := 0) rfl
              have x1 := blk_cell HB6.out (j := 1) rfl
              have x2 := blk_cell HB6.out (j := 2) rfl
              have x3 := blk_cell HB6.out (j := 3) rfl
              have x4 := blk_cell HB6.out (j := 4) rfl
              have x5 := blk_cell HB6.out (j := 5) rfl
              have x6 := blk_cell HB6.out (j := 6) rfl
              have x7 := blk_cell HB6.out (j := 7) rfl
              have f0 := blk_frozen HB6.out 0
              have f1 := blk_frozen HB6.out 1
              have f2 := blk_frozen HB6.out 2
              have f3 := blk_frozen HB6.out 3
              have f4 := blk_frozen HB6.out 4
              have f5 := blk_frozen HB6.out 5
              have f6 := blk_frozen HB6.out 6
              have f7 := blk_frozen HB6.out 7
              go_wp2
              change bodyPost _ _ _ _ _ (put8 w5 w.heap.size (.int .i64 0) (.slice none 0 0) (.string ⟨#[]⟩) (.int .i64 0) (.int .i64 0) (.slice none 0 0) (.string ⟨#[]⟩) (.int .i64 0))
              have hW := put8_blk HB6.out (.int .i64 0) (.slice none 0 0) (.string ⟨#[]⟩) (.int .i64 0) (.int .i64 0) (.slice none 0 0) (.string ⟨#[]⟩) (.int .i64 0)
              have cW := put8_chg w5 w.heap.size (.int .i64 0) (.slice none 0 0) (.string ⟨#[]⟩) (.int .i64 0) (.int .i64 0) (.slice none 0 0) (.string ⟨#[]⟩) (.int .i64 0)
              generalize put8 w5 w.heap.size (.int .i64 0) (.slice none 0 0) (.string ⟨#[]⟩) (.int .i64 0) (.int .i64 0) (.slice none 0 0) (.string ⟨#[]⟩) (.int .i64 0) = wz at *
              have y0 := blk_cell hW (j := 0) rfl
              have y1 := blk_cell hW (j := 1) rfl
              have y2 := blk_cell hW (j := 2) rfl
              have y3 := blk_cell hW (j := 3) rfl
              have y4 := blk_cell hW (j := 4) rfl
              have y5 := blk_cell hW (j := 5) rfl
              have y6 := blk_cell hW (j := 6) rfl
              have y7 := blk_cell hW (j := 7) rfl
              exact bodyPost_ret (v := .tuple #[.agg #[.int .i64 0, .slice none 0 0, .string ⟨#[]⟩, .int .i64 0, .int .i64 0, .slice none 0 0, .string ⟨#[]⟩, .int .i64 0], .int .i64 0, .bool false]) (by simp [results, Tryz.results28, go_sem, y0, y1, y2, y3, y4, y5, y6, y7]) rfl (LinePost.no hR.out HN.out (cW.gr G6 (Nat.le_refl _)))
            · have HN := Lib.hid (Hyes.out rfl rfl HOK.out hp)
              rw [hp] at HC
              clear Hno Hyes hp
              go_wp2_with fail
              (with_reducible refine (HC.out).mono ?_); rintro e w6 ⟨rfl, rfl⟩
              have x0 := blk_cell HB6.out (j := 0) rfl
              have x1 := blk_cell HB6.out (j := 1) rfl
              have x2 := blk_cell HB6.out (j := 2) rfl
              have x3 := blk_cell HB6.out (j := 3) rfl
              have x4 := blk_cell HB6.out (j := 4) rfl
              have x5 := blk_cell HB6.out (j := 5) rfl
              have x6 := blk_cell HB6.out (j := 6) rfl
              have x7 := blk_cell HB6.out (j := 7) rfl
              have f0 := blk_frozen HB6.out 0
              have f1 := blk_frozen HB6.out 1
              have f2 := blk_frozen HB6.out 2
              have f3 := blk_frozen HB6.out 3
              have f4 := blk_frozen HB6.out 4
              have f5 := blk_frozen HB6.out 5
              have f6 := blk_frozen HB6.out 6
              have f7 := blk_frozen HB6.out 7
              have s0 := blk_cell HP6.out (j := 0) rfl
              have s1 := blk_cell HP6.out (j := 1) rfl
              have s2 := blk_cell HP6.out (j := 2) rfl
              have s3 := blk_cell HP6.out (j := 3) rfl
              have s4 := blk_cell HP6.out (j := 4) rfl
              have s5 := blk_cell HP6.out (j := 5) rfl
              have s6 := blk_cell HP6.out (j := 6) rfl
              have s7 := blk_cell HP6.out (j := 7) rfl
              go_wp2
              change bodyPost _ _ _ _ _ (put8 w5 w.heap.size (.int .i64 ka) (.slice q9 qa.length c9) (.string na) (.int .i64 pa) (.int .i64 kb) (.slice q8 qb.length c8) (.string nb) (.int .i64 pb))
              have hW := put8_blk HB6.out (.int .i64 ka) (.slice q9 qa.length c9) (.string na) (.int .i64 pa) (.int .i64 kb) (.slice q8 qb.length c8) (.string nb) (.int .i64 pb)
              have cW := put8_chg w5 w.heap.size (.int .i64 ka) (.slice q9 qa.length c9) (.string na) (.int .i64 pa) (.int .i64 kb) (.slice q8 qb.length c8) (.string nb) (.int .i64 pb)
              generalize put8 w5 w.heap.size (.int .i64 ka) (.slice q9 qa.length c9) (.string na) (.int .i64 pa) (.int .i64 kb) (.slice q8 qb.length c8) (.string nb) (.int .i64 pb) = wz at *
              have y0 := blk_cell hW (j := 0) rfl
              have y1 := blk_cell hW (j := 1) rfl
              have y2 := blk_cell hW (j := 2) rfl
              have y3 := blk_cell hW (j := 3) rfl
              have y4 := blk_cell hW (j := 4) rfl
              have y5 := blk_cell hW (j := 5) rfl
              have y6 := blk_cell hW (j := 6) rfl
              have y7 := blk_cell hW (j := 7) rfl
              have zz := cW.size
              exact bodyPost_ret (v := .tuple #[.agg #[.int .i64 ka, .slice q9 qa.length c9, .string na, .int .i64 pa, .int .i64 kb, .slice q8 qb.length c8, .string nb, .int .i64 pb], .int .i64 ((S t).size : Int), .bool true]) (by simp [results, Tryz.results28, go_sem, y0, y1, y2, y3, y4, y5, y6, y7]) rfl (LinePost.yes (T := Ta) hR.out HN.out ((iA4.chg cW (.inr (by omega))).wide (by omega) (Nat.le_refl _)) ((iB4.chg cW (.inr (by omega))).wide (by omega) (by omega)) (by omega) (by omega) (cW.gr G6 (Nat.le_refl _)))
end Go.Proofs.YtdbepkcpdglppaaGreatDoor
