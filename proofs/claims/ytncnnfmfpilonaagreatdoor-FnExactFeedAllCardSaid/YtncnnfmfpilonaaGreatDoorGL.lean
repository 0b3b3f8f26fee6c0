/- Heads out of bytes: the reference's walk. -/
import Derived.Test.YtncnnfmfpilonaaGreatDoorGK
namespace Go.Proofs.YtncnnfmfpilonaaGreatDoor
open Go.RowKit
theorem headFrom_1 {xs : List Int} (h : bv xs = false) : headFrom xs = none := by unfold headFrom; rw [if_neg]; rintro ⟨h1, _⟩; rw [h] at h1; cases h1
theorem headFrom_2 {xs : List Int} (h : xs.length < 28) : headFrom xs = none := by unfold headFrom; rw [if_neg]; rintro ⟨_, h1, _⟩; omega
theorem headFrom_3 {xs : List Int} (h : alike xs headStart = false) : headFrom xs = none := by unfold headFrom; rw [if_neg]; rintro ⟨_, _, h1, _⟩; rw [h] at h1; cases h1
theorem headFrom_4 {xs : List Int} (h : hSize xs < 12 ∨ xs.length - 16 < hSize xs) : headFrom xs = none := by unfold headFrom; rw [if_neg]; rintro ⟨_, _, _, h1, h2⟩; omega
theorem headFrom_5 {xs : List Int} (h1 : bv xs = true) (h2 : 28 ≤ xs.length) (h3 : alike xs headStart = true) (h4 : 12 ≤ hSize xs) (h5 : hSize xs ≤ xs.length - 16) :
    headFrom xs = (tagsFrom ((xs.drop 28).take (hSize xs - 12))).map fun ts => (hPar xs, ts, 16 + hSize xs) := by unfold headFrom; rw [if_pos ⟨h1, h2, h3, h4, h5⟩]
theorem IntS.cutL {w : World} {p : Option Addr} {cap : Nat} {xs : List Int} (h : IntS w (.slice p xs.length cap) xs) (lo n : Nat) {a b : Int} (ha : a = (lo : Int)) (hb : b = ((lo + n : Nat) : Int)) (hn : lo + n ≤ xs.length) :
    ∃ (p' : Option Addr) (c' : Nat), (∀ w1, (Instr.slice 22 (.slice p xs.length cap) (some (.int .i64 a)) (some (.int .i64 b)) none).run Tryz.prog w1 = .ok (.slice p' n c') w1) ∧ IntS w (.slice p' n c') ((xs.drop lo).take n) := by
  obtain ⟨v', h1, h2⟩ := IntS.cutI h hn ha hb
  obtain ⟨p', c', hv, _, _⟩ := h2.form
  have hl : ((xs.drop lo).take n).length = n := by rw [List.length_take, List.length_drop]; omega
  rw [hl] at hv
  subst hv
  exact ⟨p', c', h1, h2⟩
/-- append at a step of a region that draws, with all that it leaves alone. -/
theorem step_appG {w : World} {ops : Array Oper} {o : Oper} {a : Act} {K : Act → World → Prop} {Q : Exit → Act → World → Prop} {E : Prop} (hgd : o.guard = none) (s x : Operand)
    (ho : o.op = .call { callee := .builtin .append, args := #[s, x], argTypes := #[22, 22] })
    {B : Nat} {v : Value} {xs : List Int} (hs : a.eval s = v) (hown : IntO B 3 w v xs) {p : Option Addr} {n c : Nat} {ys : List Int} (hx : a.eval x = .slice p n c) (hrow : IntS w (.slice p n c) ys)
    (hb : xs.length + ys.length ≤ 1000000) (hp : 0 < ys.length) (hB : B ≤ w.heap.size)
    (h : ∀ v' w', IntO B 3 w' v' (xs ++ ys) → Below B w w' → (∀ b, b < w.heap.size → v.ownBlock ≠ some b → w'.heap[b]? = w.heap[b]?) → (∀ b, v'.ownBlock = some b → v.ownBlock = some b ∨ b = w.heap.size) → K (a.put o.dst v') w') : if Region.wanted o (yielded ops a.tmps) = true then Oper.wp Tryz.prog o a w K Q else E := by
  have hw : Region.wanted o (yielded ops a.tmps) = true := by simp [Region.wanted, hgd]
  rw [if_pos hw]
  obtain ⟨i, hi, hz, hs', hby⟩ := infoI
  obtain ⟨hl, p', cap, hv, c1, c2, c3, c4⟩ := hrow
  injection hv with e1 e2 e3
  subst e1 e3
  cases p with
  | none => have := c3 rfl; omega
  | some ad =>
    obtain ⟨v', w', hr, q1, q2, _, q4⟩ := run_append_own_at (P := Tryz.prog) w B 22 o.type 3 i _ 1 8 uI hi hz hs' hby rfl (by decide) v xs.length (ints xs) hown ad n c (ints ys) (by rw [ints_length]; omega) (by subst e2; exact c4 ad rfl) (ints_one _) (by unfold maxLen; omega) (by omega) hB
    have hbl : Below B w w' := (Below.refl B w).grown q2 hB (fun k hk => (hown.blk k hk).1)
    unfold Oper.wp execOp
    simp only [ho, resolve, invoke, builtin, Sem.run_bind, Sem.run_pure, Result.andThen_ok, List.map_toArray, List.map_cons, List.map_nil, hs, hx, hr]
    have hv' : ∀ b, v'.ownBlock = some b → v.ownBlock = some b ∨ b = w.heap.size := by
      intro b hb1
      rcases q4 with q4 | q4
      · exact .inl (by rw [← q4]; exact hb1)
      · rw [q4] at hb1; exact .inr (Option.some.inj hb1).symm
    refine h _ _ ?_ hbl (fun b hb1 hne => q2.block b hb1 (fun e => hne e.symm)) hv'
    unfold IntO; rw [ints_append, List.length_append, ← e2]; exact q1
theorem IntO.mtN {w : World} {m : Nat} (hm : m = w.heap.size) : IntO w.heap.size 3 (w.alloc (.cells #[] 3)) (.slice (some ⟨m, 0, none⟩) 0 0) [] := by subst hm; exact IntO.mt w
theorem IntO.at1 {B e : Nat} {w : World} {v : Value} {xs : List Int} (h : IntO B e w v xs) (hl : 0 < xs.length) : ∃ b, v.ownBlock = some b ∧ B ≤ b ∧ b < w.heap.size ∧ IntB b (b + 1) e w v xs := by
  rcases h.2 with ⟨_, h0⟩ | ⟨g, cap, cur, hv, hb, hg, _⟩
  · omega
  · have ho : v.ownBlock = some g := by rw [hv]; rfl
    obtain ⟨n1, n2, n3⟩ := OwnB.narrow (IntO.b h) ho
    exact ⟨g, ho, hb, n2, n3⟩
theorem alloc2_top (w : World) (x y : Obj) {m : Nat} (hm : m = w.heap.size + 1) : ((w.alloc x).alloc y).drew.heap[m]? = some y := by
  subst hm
  have := heap_alloc_new (w.alloc x) y
  rw [show (w.alloc x).heap.size = w.heap.size + 1 by simp] at this
  exact this
theorem alloc2_low (w : World) (x y : Obj) : ((w.alloc x).alloc y).drew.heap[w.heap.size]? = some x := (gr_alloc (w.alloc x) y).blk (heap_alloc_new w x)
def z8 : Array Value := #[.int .i64 0, .slice none 0 0, .string ⟨#[]⟩, .int .i64 0, .int .i64 0, .slice none 0 0, .string ⟨#[]⟩, .int .i64 0]
/-- A pair in a variable, its first half written, the first quad in a block of its own. -/
def Half1 (w3 : World) (n : Int) (q16 : List Int) (u : Value) (wx : World) : Prop :=
  ∃ (b9 bq : Nat) (p9 : Option Addr) (c9 : Nat), u = .pointer (some ⟨b9, 0, none⟩) ∧ wx.heap[b9]? = some (.cells #[.int .i64 1, .slice p9 q16.length c9, .string ⟨#[]⟩, .int .i64 n, .int .i64 0, .slice none 0 0, .string ⟨#[]⟩, .int .i64 0] 26 (0, 0)) ∧
    IntB bq (bq + 1) 3 wx (.slice p9 q16.length c9) q16 ∧ bq ≠ b9 ∧ w3.heap.size ≤ bq ∧ w3.heap.size ≤ b9 ∧ bq < wx.heap.size ∧ b9 < wx.heap.size ∧ Gr w3 wx
theorem Half1.late {w3 w9 : World} {n : Int} {q16 : List Int} {p9 : Option Addr} {c9 m : Nat} (hm : m = w9.heap.size) (o : IntO w3.heap.size 3 w9 (.slice p9 q16.length c9) q16) (hl : 0 < q16.length) (g : Gr w3 w9) :
    Half1 w3 n q16 (.pointer (some ⟨m, 0, none⟩)) (w9.alloc (.cells #[.int .i64 1, .slice p9 q16.length c9, .string ⟨#[]⟩, .int .i64 n, .int .i64 0, .slice none 0 0, .string ⟨#[]⟩, .int .i64 0] 26)) := by
  subst hm
  obtain ⟨bq, _, h1, h2, h3⟩ := o.at1 hl
  exact ⟨_, bq, _, _, rfl, heap_alloc_new _ _, h3.kept (gr_alloc _ _), by omega, h1, g.sz, by simp; omega, by simp, g.alloc _⟩
theorem Half1.early {w3 w9 : World} {n : Int} {q16 : List Int} {p9 : Option Addr} {b9 c9 : Nat} {c0 c1 c2 c3 c4 c5 c6 c7 : Value} (o : IntO w3.heap.size 3 w9 (.slice p9 q16.length c9) q16) (hl : 0 < q16.length) (g : Gr w3 w9) (hq : w9.heap[b9]? = some (.cells #[c0, c1, c2, c3, c4, c5, c6, c7] 26 (0, 0)))
    (hne : ∀ b, (Value.slice p9 q16.length c9).ownBlock = some b → b ≠ b9) (hb : w3.heap.size ≤ b9) :
    Half1 w3 n q16 (.pointer (some ⟨b9, 0, none⟩)) (put8 w9 b9 (.int .i64 1) (.slice p9 q16.length c9) (.string ⟨#[]⟩) (.int .i64 n) (.int .i64 0) (.slice none 0 0) (.string ⟨#[]⟩) (.int .i64 0)) := by
  obtain ⟨bq, e, h1, h2, h3⟩ := o.at1 hl
  have hn := hne bq e
  have hlt := (Array.getElem?_eq_some_iff.1 hq).1
  have hW := put8_blk hq (.int .i64 1) (.slice p9 q16.length c9) (.string ⟨#[]⟩) (.int .i64 n) (.int .i64 0) (.slice none 0 0) (.string ⟨#[]⟩) (.int .i64 0)
  have cW := put8_chg w9 b9 (.int .i64 1) (.slice p9 q16.length c9) (.string ⟨#[]⟩) (.int .i64 n) (.int .i64 0) (.slice none 0 0) (.string ⟨#[]⟩) (.int .i64 0)
  exact ⟨b9, bq, _, _, rfl, hW, h3.chg cW (by omega), hn, h1, hb, by rw [cW.size]; exact h2, by rw [cW.size]; exact hlt, cW.gr g hb⟩
/-- Cells 4 to 7 of a block are written. -/
def put4h (w : World) (b : Nat) (a4 a5 a6 a7 : Value) : World := (((w.setCell ⟨b, 4, none⟩ a4).setCell ⟨b, 5, none⟩ a5).setCell ⟨b, 6, none⟩ a6).setCell ⟨b, 7, none⟩ a7
theorem put4h_blk {w : World} {b : Nat} {c0 c1 c2 c3 c4 c5 c6 c7 : Value} {t : TypeId} (h : w.heap[b]? = some (.cells #[c0, c1, c2, c3, c4, c5, c6, c7] t (0, 0))) (a4 a5 a6 a7 : Value) :
    (put4h w b a4 a5 a6 a7).heap[b]? = some (.cells #[c0, c1, c2, c3, a4, a5, a6, a7] t (0, 0)) := by
  have h4 := heap_set (j := 4) (x := a4) h
  have h5 := heap_set (j := 5) (x := a5) h4
  have h6 := heap_set (j := 6) (x := a6) h5
  exact heap_set (j := 7) (x := a7) h6
theorem put4h_chg (w : World) (b : Nat) (a4 a5 a6 a7 : Value) : Chg b (b + 1) w (put4h w b a4 a5 a6 a7) :=
  Chg.set (p := ⟨b, 7, none⟩) (Chg.set (p := ⟨b, 6, none⟩) (Chg.set (p := ⟨b, 5, none⟩) (Chg.set (p := ⟨b, 4, none⟩) (Chg.refl b (b + 1) w) (Nat.le_refl _) (Nat.lt_succ_self _) a4) (Nat.le_refl _) (Nat.lt_succ_self _) a5) (Nat.le_refl _) (Nat.lt_succ_self _) a6) (Nat.le_refl _) (Nat.lt_succ_self _) a7
def Half2 (w3 : World) (n n' : Int) (q16 q20 : List Int) (b9 : Nat) (wx : World) : Prop :=
  ∃ (bq br : Nat) (p9 : Option Addr) (c9 : Nat) (pr : Option Addr) (cr : Nat), wx.heap[b9]? = some (.cells #[.int .i64 1, .slice p9 q16.length c9, .string ⟨#[]⟩, .int .i64 n, .int .i64 1, .slice pr q20.length cr, .string ⟨#[]⟩, .int .i64 n'] 26 (0, 0)) ∧
    IntB bq (bq + 1) 3 wx (.slice p9 q16.length c9) q16 ∧ IntB br (br + 1) 3 wx (.slice pr q20.length cr) q20 ∧ bq ≠ b9 ∧ br ≠ b9 ∧ bq < br ∧ w3.heap.size ≤ bq ∧ w3.heap.size ≤ b9 ∧ b9 < wx.heap.size ∧ br < wx.heap.size ∧ Gr w3 wx
theorem Half2.of {w3 wc w10 : World} {n n' : Int} {q16 q20 : List Int} {b9 bq c9 cr : Nat} {p9 pr : Option Addr} {x4 x5 x6 x7 : Value}
    (hQ : w10.heap[b9]? = some (.cells #[.int .i64 1, .slice p9 q16.length c9, .string ⟨#[]⟩, .int .i64 n, x4, x5, x6, x7] 26 (0, 0)))
    (iq : IntB bq (bq + 1) 3 w10 (.slice p9 q16.length c9) q16) (hnq : bq ≠ b9) (hbq : w3.heap.size ≤ bq) (hb9 : w3.heap.size ≤ b9) (hlq : bq < wc.heap.size) (hl9 : b9 < wc.heap.size) (gx : Gr w3 wc)
    (o : IntO wc.heap.size 3 w10 (.slice pr q20.length cr) q20) (hl : 0 < q20.length) (g : Gr wc w10) :
    Half2 w3 n n' q16 q20 b9 (put4h w10 b9 (.int .i64 1) (.slice pr q20.length cr) (.string ⟨#[]⟩) (.int .i64 n')) := by
  obtain ⟨br, e, h1, h2, h3⟩ := o.at1 hl
  have hW := put4h_blk hQ (.int .i64 1) (.slice pr q20.length cr) (.string ⟨#[]⟩) (.int .i64 n')
  have cW := put4h_chg w10 b9 (.int .i64 1) (.slice pr q20.length cr) (.string ⟨#[]⟩) (.int .i64 n')
  have hs := cW.size
  have hz := g.sz
  exact ⟨bq, br, _, _, _, _, hW, iq.chg cW (by omega), h3.chg cW (by omega), hnq, by omega, by omega, hbq, hb9, by omega, by omega, cW.gr (gx.trans g) hb9⟩
set_option maxRecDepth 20000 in
set_option maxHeartbeats 8000000 in
theorem specHeadFrom_c {w : World} {v : Value} {xs : List Int} (h : IntS w v xs) (hlen : xs.length ≤ 1048576) :
    Calls Tryz.prog 70 #[v] w (HeadOut xs w) := by
  obtain ⟨p, cap, rfl, _, _⟩ := h.form
  have hg0 := gr_alloc w (.cells #[.int .i64 0, .slice none 0 0, .string ⟨#[]⟩, .int .i64 0, .int .i64 0, .slice none 0 0, .string ⟨#[]⟩, .int .i64 0] 26)
  have hB0 := heap_alloc_new w (.cells #[.int .i64 0, .slice none 0 0, .string ⟨#[]⟩, .int .i64 0, .int .i64 0, .slice none 0 0, .string ⟨#[]⟩, .int .i64 0] 26)
  have hz0 : w.heap.size < (w.alloc (.cells #[.int .i64 0, .slice none 0 0, .string ⟨#[]⟩, .int .i64 0, .int .i64 0, .slice none 0 0, .string ⟨#[]⟩, .int .i64 0] 26)).heap.size := by simp
  go_enter Tryz.func70, Tryz.ntmps70
  go_wp2_with fail
  generalize hW0 : w.alloc (.cells #[.int .i64 0, .slice none 0 0, .string ⟨#[]⟩, .int .i64 0, .int .i64 0, .slice none 0 0, .string ⟨#[]⟩, .int .i64 0] 26) = w0 at *
  have HW0 := Lib.hid hW0
  have HB0 := Lib.hid hB0
  have HZ0 := Lib.hid hz0
  clear hW0 hB0 hz0
  (with_reducible refine (specBytesValid_c (h.kept hg0)).mono ?_); rintro e w1 ⟨rfl, rfl⟩
  cases hb : bv xs
  · have HN := Lib.hid (headFrom_1 hb)
    clear hb
    have gM := gr_alloc w0 (.cells #[] 143)
    have HBM := Lib.hid (gM.blk HB0.out)
    have hGM := Gr.trans hg0 gM
    have x0 := blk_cell HBM.out (j := 0) rfl
    have x1 := blk_cell HBM.out (j := 1) rfl
    have x2 := blk_cell HBM.out (j := 2) rfl
    have x3 := blk_cell HBM.out (j := 3) rfl
    have x4 := blk_cell HBM.out (j := 4) rfl
    have x5 := blk_cell HBM.out (j := 5) rfl
    have x6 := blk_cell HBM.out (j := 6) rfl
    have x7 := blk_cell HBM.out (j := 7) rfl
    have f0 := blk_frozen HBM.out 0
    have f1 := blk_frozen HBM.out 1
    have f2 := blk_frozen HBM.out 2
    have f3 := blk_frozen HBM.out 3
    have f4 := blk_frozen HBM.out 4
    have f5 := blk_frozen HBM.out 5
    have f6 := blk_frozen HBM.out 6
    have f7 := blk_frozen HBM.out 7
    go_wp2
    change bodyPost _ _ _ _ _ (put8 (w0.alloc (.cells #[] 143)) w.heap.size (.int .i64 0) (.slice none 0 0) (.string ⟨#[]⟩) (.int .i64 0) (.int .i64 0) (.slice none 0 0) (.string ⟨#[]⟩) (.int .i64 0))
    have hW := put8_blk HBM.out (.int .i64 0) (.slice none 0 0) (.string ⟨#[]⟩) (.int .i64 0) (.int .i64 0) (.slice none 0 0) (.string ⟨#[]⟩) (.int .i64 0)
    have cW := put8_chg (w0.alloc (.cells #[] 143)) w.heap.size (.int .i64 0) (.slice none 0 0) (.string ⟨#[]⟩) (.int .i64 0) (.int .i64 0) (.slice none 0 0) (.string ⟨#[]⟩) (.int .i64 0)
    generalize put8 (w0.alloc (.cells #[] 143)) w.heap.size (.int .i64 0) (.slice none 0 0) (.string ⟨#[]⟩) (.int .i64 0) (.int .i64 0) (.slice none 0 0) (.string ⟨#[]⟩) (.int .i64 0) = wz at *
    have y0 := blk_cell hW (j := 0) rfl
    have y1 := blk_cell hW (j := 1) rfl
    have y2 := blk_cell hW (j := 2) rfl
    have y3 := blk_cell hW (j := 3) rfl
    have y4 := blk_cell hW (j := 4) rfl
    have y5 := blk_cell hW (j := 5) rfl
    have y6 := blk_cell hW (j := 6) rfl
    have y7 := blk_cell hW (j := 7) rfl
    have zz := cW.size
    simp at zz
    have zlt := HZ0.out
    exact bodyPost_ret (v := .tuple #[.agg #[.int .i64 0, .slice none 0 0, .string ⟨#[]⟩, .int .i64 0, .int .i64 0, .slice none 0 0, .string ⟨#[]⟩, .int .i64 0], .slice (some ⟨w0.heap.size, 0, none⟩) 0 0, .int .i64 0, .bool false]) (by simp [results, Tryz.results70, go_sem, y0, y1, y2, y3, y4, y5, y6, y7]) rfl (HeadOut.no HN.out (cW.gr hGM (Nat.le_refl _)) (((TagO.mt w0).chg cW (.inr (by omega))).wide (by omega) (by omega)))
  by_cases hl : xs.length < 28
  · have HN := Lib.hid (headFrom_2 hl)
    have hl' : ((xs.length : Int) < 28) := by omega
    clear hb hl
    have gM := gr_alloc w0 (.cells #[] 143)
    have HBM := Lib.hid (gM.blk HB0.out)
    have hGM := Gr.trans hg0 gM
    have x0 := blk_cell HBM.out (j := 0) rfl
    have x1 := blk_cell HBM.out (j := 1) rfl
    have x2 := blk_cell HBM.out (j := 2) rfl
    have x3 := blk_cell HBM.out (j := 3) rfl
    have x4 := blk_cell HBM.out (j := 4) rfl
    have x5 := blk_cell HBM.out (j := 5) rfl
    have x6 := blk_cell HBM.out (j := 6) rfl
    have x7 := blk_cell HBM.out (j := 7) rfl
    have f0 := blk_frozen HBM.out 0
    have f1 := blk_frozen HBM.out 1
    have f2 := blk_frozen HBM.out 2
    have f3 := blk_frozen HBM.out 3
    have f4 := blk_frozen HBM.out 4
    have f5 := blk_frozen HBM.out 5
    have f6 := blk_frozen HBM.out 6
    have f7 := blk_frozen HBM.out 7
    go_wp2
    change bodyPost _ _ _ _ _ (put8 (w0.alloc (.cells #[] 143)) w.heap.size (.int .i64 0) (.slice none 0 0) (.string ⟨#[]⟩) (.int .i64 0) (.int .i64 0) (.slice none 0 0) (.string ⟨#[]⟩) (.int .i64 0))
    have hW := put8_blk HBM.out (.int .i64 0) (.slice none 0 0) (.string ⟨#[]⟩) (.int .i64 0) (.int .i64 0) (.slice none 0 0) (.string ⟨#[]⟩) (.int .i64 0)
    have cW := put8_chg (w0.alloc (.cells #[] 143)) w.heap.size (.int .i64 0) (.slice none 0 0) (.string ⟨#[]⟩) (.int .i64 0) (.int .i64 0) (.slice none 0 0) (.string ⟨#[]⟩) (.int .i64 0)
    generalize put8 (w0.alloc (.cells #[] 143)) w.heap.size (.int .i64 0) (.slice none 0 0) (.string ⟨#[]⟩) (.int .i64 0) (.int .i64 0) (.slice none 0 0) (.string ⟨#[]⟩) (.int .i64 0) = wz at *
    have y0 := blk_cell hW (j := 0) rfl
    have y1 := blk_cell hW (j := 1) rfl
    have y2 := blk_cell hW (j := 2) rfl
    have y3 := blk_cell hW (j := 3) rfl
    have y4 := blk_cell hW (j := 4) rfl
    have y5 := blk_cell hW (j := 5) rfl
    have y6 := blk_cell hW (j := 6) rfl
    have y7 := blk_cell hW (j := 7) rfl
    have zz := cW.size
    simp at zz
    have zlt := HZ0.out
    exact bodyPost_ret (v := .tuple #[.agg #[.int .i64 0, .slice none 0 0, .string ⟨#[]⟩, .int .i64 0, .int .i64 0, .slice none 0 0, .string ⟨#[]⟩, .int .i64 0], .slice (some ⟨w0.heap.size, 0, none⟩) 0 0, .int .i64 0, .bool false]) (by simp [results, Tryz.results70, go_sem, y0, y1, y2, y3, y4, y5, y6, y7]) rfl (HeadOut.no HN.out (cW.gr hGM (Nat.le_refl _)) (((TagO.mt w0).chg cW (.inr (by omega))).wide (by omega) (by omega)))
  have hl' : ¬ ((xs.length : Int) < 28) := by omega
  have HBV := Lib.hid hb
  clear hb
  (go_wp2_with fail); (with_reducible refine (l16Same_c (h.kept hg0)).mono ?_); rintro e w1 ⟨rfl, g1⟩
  have HB1 := Lib.hid (g1.blk HB0.out)
  have hG1 := hg0.trans g1
  have HZ1 := Lib.hid (Nat.lt_of_lt_of_le HZ0.out g1.sz)
  cases ha : alike xs headStart
  · have HN := Lib.hid (headFrom_3 ha)
    clear ha
    have gM := gr_alloc w1 (.cells #[] 143)
    have HBM := Lib.hid (gM.blk HB1.out)
    have hGM := Gr.trans hG1 gM
    have x0 := blk_cell HBM.out (j := 0) rfl
    have x1 := blk_cell HBM.out (j := 1) rfl
    have x2 := blk_cell HBM.out (j := 2) rfl
    have x3 := blk_cell HBM.out (j := 3) rfl
    have x4 := blk_cell HBM.out (j := 4) rfl
    have x5 := blk_cell HBM.out (j := 5) rfl
    have x6 := blk_cell HBM.out (j := 6) rfl
    have x7 := blk_cell HBM.out (j := 7) rfl
    have f0 := blk_frozen HBM.out 0
    have f1 := blk_frozen HBM.out 1
    have f2 := blk_frozen HBM.out 2
    have f3 := blk_frozen HBM.out 3
    have f4 := blk_frozen HBM.out 4
    have f5 := blk_frozen HBM.out 5
    have f6 := blk_frozen HBM.out 6
    have f7 := blk_frozen HBM.out 7
    go_wp2
    change bodyPost _ _ _ _ _ (put8 (w1.alloc (.cells #[] 143)) w.heap.size (.int .i64 0) (.slice none 0 0) (.string ⟨#[]⟩) (.int .i64 0) (.int .i64 0) (.slice none 0 0) (.string ⟨#[]⟩) (.int .i64 0))
    have hW := put8_blk HBM.out (.int .i64 0) (.slice none 0 0) (.string ⟨#[]⟩) (.int .i64 0) (.int .i64 0) (.slice none 0 0) (.string ⟨#[]⟩) (.int .i64 0)
    have cW := put8_chg (w1.alloc (.cells #[] 143)) w.heap.size (.int .i64 0) (.slice none 0 0) (.string ⟨#[]⟩) (.int .i64 0) (.int .i64 0) (.slice none 0 0) (.string ⟨#[]⟩) (.int .i64 0)
    generalize put8 (w1.alloc (.cells #[] 143)) w.heap.size (.int .i64 0) (.slice none 0 0) (.string ⟨#[]⟩) (.int .i64 0) (.int .i64 0) (.slice none 0 0) (.string ⟨#[]⟩) (.int .i64 0) = wz at *
    have y0 := blk_cell hW (j := 0) rfl
    have y1 := blk_cell hW (j := 1) rfl
    have y2 := blk_cell hW (j := 2) rfl
    have y3 := blk_cell hW (j := 3) rfl
    have y4 := blk_cell hW (j := 4) rfl
    have y5 := blk_cell hW (j := 5) rfl
    have y6 := blk_cell hW (j := 6) rfl
    have y7 := blk_cell hW (j := 7) rfl
    have zz := cW.size
    simp at zz
    have zlt := HZ1.out
    exact bodyPost_ret (v := .tuple #[.agg #[.int .i64 0, .slice none 0 0, .string ⟨#[]⟩, .int .i64 0, .int .i64 0, .slice none 0 0, .string ⟨#[]⟩, .int .i64 0], .slice (some ⟨w1.heap.size, 0, none⟩) 0 0, .int .i64 0, .bool false]) (by simp [results, Tryz.results70, go_sem, y0, y1, y2, y3, y4, y5, y6, y7]) rfl (HeadOut.no HN.out (cW.gr hGM (Nat.le_refl _)) (((TagO.mt w1).chg cW (.inr (by omega))).wide (by omega) (by omega)))
  have HAL := Lib.hid ha
  clear ha
  have hby := bv_bytes HBV.out
  have h1 := h.kept hG1
  obtain ⟨pa, ca, sa, ra⟩ := h1.cutL 14 2 (a := 14) (b := 16) rfl rfl (by omega)
  have hsm := numOf_small2 (bytes_take (bytes_drop hby 14) 2) (by rw [List.length_take]; omega)
  have hsz : numOf ((xs.drop 14).take 2) = (hSize xs : Int) := by unfold hSize; omega
  have hS6 : hSize xs ≤ 65535 := by omega
  have L1 := l1Of_c ra (bytes_take (bytes_drop hby 14) 2) (by rw [List.length_take]; omega)
  rw [hsz] at L1
  have HL1 := Lib.hid L1
  clear L1 hsz hsm ra
  (go_wp2_with fail); (with_reducible refine HL1.out.mono ?_); rintro e w2 ⟨rfl, rfl⟩
  clear HL1 sa
  by_cases hs1 : hSize xs < 12
  · have HN := Lib.hid (headFrom_4 (xs := xs) (.inl hs1))
    have hs1' : ((hSize xs : Int) < 12) := by omega
    clear hs1
    have gM := gr_alloc w1 (.cells #[] 143)
    have HBM := Lib.hid (gM.blk HB1.out)
    have hGM := Gr.trans hG1 gM
    have x0 := blk_cell HBM.out (j := 0) rfl
    have x1 := blk_cell HBM.out (j := 1) rfl
    have x2 := blk_cell HBM.out (j := 2) rfl
    have x3 := blk_cell HBM.out (j := 3) rfl
    have x4 := blk_cell HBM.out (j := 4) rfl
    have x5 := blk_cell HBM.out (j := 5) rfl
    have x6 := blk_cell HBM.out (j := 6) rfl
    have x7 := blk_cell HBM.out (j := 7) rfl
    have f0 := blk_frozen HBM.out 0
    have f1 := blk_frozen HBM.out 1
    have f2 := blk_frozen HBM.out 2
    have f3 := blk_frozen HBM.out 3
    have f4 := blk_frozen HBM.out 4
    have f5 := blk_frozen HBM.out 5
    have f6 := blk_frozen HBM.out 6
    have f7 := blk_frozen HBM.out 7
    go_wp2
    change bodyPost _ _ _ _ _ (put8 (w1.alloc (.cells #[] 143)) w.heap.size (.int .i64 0) (.slice none 0 0) (.string ⟨#[]⟩) (.int .i64 0) (.int .i64 0) (.slice none 0 0) (.string ⟨#[]⟩) (.int .i64 0))
    have hW := put8_blk HBM.out (.int .i64 0) (.slice none 0 0) (.string ⟨#[]⟩) (.int .i64 0) (.int .i64 0) (.slice none 0 0) (.string ⟨#[]⟩) (.int .i64 0)
    have cW := put8_chg (w1.alloc (.cells #[] 143)) w.heap.size (.int .i64 0) (.slice none 0 0) (.string ⟨#[]⟩) (.int .i64 0) (.int .i64 0) (.slice none 0 0) (.string ⟨#[]⟩) (.int .i64 0)
    generalize put8 (w1.alloc (.cells #[] 143)) w.heap.size (.int .i64 0) (.slice none 0 0) (.string ⟨#[]⟩) (.int .i64 0) (.int .i64 0) (.slice none 0 0) (.string ⟨#[]⟩) (.int .i64 0) = wz at *
    have y0 := blk_cell hW (j := 0) rfl
    have y1 := blk_cell hW (j := 1) rfl
    have y2 := blk_cell hW (j := 2) rfl
    have y3 := blk_cell hW (j := 3) rfl
    have y4 := blk_cell hW (j := 4) rfl
    have y5 := blk_cell hW (j := 5) rfl
    have y6 := blk_cell hW (j := 6) rfl
    have y7 := blk_cell hW (j := 7) rfl
    have zz := cW.size
    simp at zz
    have zlt := HZ1.out
    exact bodyPost_ret (v := .tuple #[.agg #[.int .i64 0, .slice none 0 0, .string ⟨#[]⟩, .int .i64 0, .int .i64 0, .slice none 0 0, .string ⟨#[]⟩, .int .i64 0], .slice (some ⟨w1.heap.size, 0, none⟩) 0 0, .int .i64 0, .bool false]) (by simp [results, Tryz.results70, go_sem, y0, y1, y2, y3, y4, y5, y6, y7]) rfl (HeadOut.no HN.out (cW.gr hGM (Nat.le_refl _)) (((TagO.mt w1).chg cW (.inr (by omega))).wide (by omega) (by omega)))
  have hs1' : ¬ ((hSize xs : Int) < 12) := by omega
  by_cases hs2 : xs.length - 16 < hSize xs
  · have HN := Lib.hid (headFrom_4 (xs := xs) (.inr hs2))
    have hs2' : ((xs.length : Int) - 16 < (hSize xs : Int)) := by omega
    clear hs1 hs2
    have gM := gr_alloc w1 (.cells #[] 143)
    have HBM := Lib.hid (gM.blk HB1.out)
    have hGM := Gr.trans hG1 gM
    have x0 := blk_cell HBM.out (j := 0) rfl
    have x1 := blk_cell HBM.out (j := 1) rfl
    have x2 := blk_cell HBM.out (j := 2) rfl
    have x3 := blk_cell HBM.out (j := 3) rfl
    have x4 := blk_cell HBM.out (j := 4) rfl
    have x5 := blk_cell HBM.out (j := 5) rfl
    have x6 := blk_cell HBM.out (j := 6) rfl
    have x7 := blk_cell HBM.out (j := 7) rfl
    have f0 := blk_frozen HBM.out 0
    have f1 := blk_frozen HBM.out 1
    have f2 := blk_frozen HBM.out 2
    have f3 := blk_frozen HBM.out 3
    have f4 := blk_frozen HBM.out 4
    have f5 := blk_frozen HBM.out 5
    have f6 := blk_frozen HBM.out 6
    have f7 := blk_frozen HBM.out 7
    go_wp2
    change bodyPost _ _ _ _ _ (put8 (w1.alloc (.cells #[] 143)) w.heap.size (.int .i64 0) (.slice none 0 0) (.string ⟨#[]⟩) (.int .i64 0) (.int .i64 0) (.slice none 0 0) (.string ⟨#[]⟩) (.int .i64 0))
    have hW := put8_blk HBM.out (.int .i64 0) (.slice none 0 0) (.string ⟨#[]⟩) (.int .i64 0) (.int .i64 0) (.slice none 0 0) (.string ⟨#[]⟩) (.int .i64 0)
    have cW := put8_chg (w1.alloc (.cells #[] 143)) w.heap.size (.int .i64 0) (.slice none 0 0) (.string ⟨#[]⟩) (.int .i64 0) (.int .i64 0) (.slice none 0 0) (.string ⟨#[]⟩) (.int .i64 0)
    generalize put8 (w1.alloc (.cells #[] 143)) w.heap.size (.int .i64 0) (.slice none 0 0) (.string ⟨#[]⟩) (.int .i64 0) (.int .i64 0) (.slice none 0 0) (.string ⟨#[]⟩) (.int .i64 0) = wz at *
    have y0 := blk_cell hW (j := 0) rfl
    have y1 := blk_cell hW (j := 1) rfl
    have y2 := blk_cell hW (j := 2) rfl
    have y3 := blk_cell hW (j := 3) rfl
    have y4 := blk_cell hW (j := 4) rfl
    have y5 := blk_cell hW (j := 5) rfl
    have y6 := blk_cell hW (j := 6) rfl
    have y7 := blk_cell hW (j := 7) rfl
    have zz := cW.size
    simp at zz
    have zlt := HZ1.out
    exact bodyPost_ret (v := .tuple #[.agg #[.int .i64 0, .slice none 0 0, .string ⟨#[]⟩, .int .i64 0, .int .i64 0, .slice none 0 0, .string ⟨#[]⟩, .int .i64 0], .slice (some ⟨w1.heap.size, 0, none⟩) 0 0, .int .i64 0, .bool false]) (by simp [results, Tryz.results70, go_sem, y0, y1, y2, y3, y4, y5, y6, y7]) rfl (HeadOut.no HN.out (cW.gr hGM (Nat.le_refl _)) (((TagO.mt w1).chg cW (.inr (by omega))).wide (by omega) (by omega)))
  have hs2' : ¬ ((xs.length : Int) - 16 < (hSize xs : Int)) := by omega
  have H5 := Lib.hid (headFrom_5 HBV.out (by omega) HAL.out (by omega) (by omega))
  obtain ⟨pb, cb, sb, rb⟩ := h1.cutL 28 (hSize xs - 12) (a := 28) (b := 16 + (hSize xs : Int)) rfl (by omega) (by omega)
  obtain ⟨ok, ts, hR⟩ : ∃ ok ts, FromIs ((xs.drop 28).take (hSize xs - 12)) ok ts := ⟨_, _, rfl, rfl⟩
  have HR := Lib.hid hR
  have hzl : ((xs.drop 28).take (hSize xs - 12)).length ≤ 1048576 := by rw [List.length_take, List.length_drop]; omega
  generalize (xs.drop 28).take (hSize xs - 12) = zs at *
  clear hR
  have hb28 : (28 : Int) ≤ 16 + (hSize xs : Int) := by omega
  have hb29 : 16 + (hSize xs : Int) ≤ (xs.length : Int) := by omega
  (go_wp2_with fail); (with_reducible refine (specTF HR rb hzl).mono ?_); rintro e w3 ⟨v3, T3, rfl, o3, hT3, g3⟩
  have HB3 := Lib.hid (g3.blk HB1.out)
  have hG3 := hG1.trans g3
  have HZ3 := Lib.hid (Nat.lt_of_lt_of_le HZ1.out g3.sz)
  have hz3 := g3.sz
  have h3 := h1.kept g3
  clear sb rb h1 hb28 hb29
  cases ok
  · have HN : Hid (headFrom xs = none) := by
      have h1 := HR.out.1
      have h2 := H5.out
      cases htf : tagsFrom zs with
      | none => rw [htf] at h2; exact h2
      | some us => rw [htf] at h1; cases h1
    clear hs1 hs2
    have gM := gr_alloc w3 (.cells #[] 143)
    have HBM := Lib.hid (gM.blk HB3.out)
    have hGM := Gr.trans hG3 gM
    have x0 := blk_cell HBM.out (j := 0) rfl
    have x1 := blk_cell HBM.out (j := 1) rfl
    have x2 := blk_cell HBM.out (j := 2) rfl
    have x3 := blk_cell HBM.out (j := 3) rfl
    have x4 := blk_cell HBM.out (j := 4) rfl
    have x5 := blk_cell HBM.out (j := 5) rfl
    have x6 := blk_cell HBM.out (j := 6) rfl
    have x7 := blk_cell HBM.out (j := 7) rfl
    have f0 := blk_frozen HBM.out 0
    have f1 := blk_frozen HBM.out 1
    have f2 := blk_frozen HBM.out 2
    have f3 := blk_frozen HBM.out 3
    have f4 := blk_frozen HBM.out 4
    have f5 := blk_frozen HBM.out 5
    have f6 := blk_frozen HBM.out 6
    have f7 := blk_frozen HBM.out 7
    go_wp2
    change bodyPost _ _ _ _ _ (put8 (w3.alloc (.cells #[] 143)) w.heap.size (.int .i64 0) (.slice none 0 0) (.string ⟨#[]⟩) (.int .i64 0) (.int .i64 0) (.slice none 0 0) (.string ⟨#[]⟩) (.int .i64 0))
    have hW := put8_blk HBM.out (.int .i64 0) (.slice none 0 0) (.string ⟨#[]⟩) (.int .i64 0) (.int .i64 0) (.slice none 0 0) (.string ⟨#[]⟩) (.int .i64 0)
    have cW := put8_chg (w3.alloc (.cells #[] 143)) w.heap.size (.int .i64 0) (.slice none 0 0) (.string ⟨#[]⟩) (.int .i64 0) (.int .i64 0) (.slice none 0 0) (.string ⟨#[]⟩) (.int .i64 0)
    generalize put8 (w3.alloc (.cells #[] 143)) w.heap.size (.int .i64 0) (.slice none 0 0) (.string ⟨#[]⟩) (.int .i64 0) (.int .i64 0) (.slice none 0 0) (.string ⟨#[]⟩) (.int .i64 0) = wz at *
    have y0 := blk_cell hW (j := 0) rfl
    have y1 := blk_cell hW (j := 1) rfl
    have y2 := blk_cell hW (j := 2) rfl
    have y3 := blk_cell hW (j := 3) rfl
    have y4 := blk_cell hW (j := 4) rfl
    have y5 := blk_cell hW (j := 5) rfl
    have y6 := blk_cell hW (j := 6) rfl
    have y7 := blk_cell hW (j := 7) rfl
    have zz := cW.size
    simp at zz
    have zlt := HZ3.out
    exact bodyPost_ret (v := .tuple #[.agg #[.int .i64 0, .slice none 0 0, .string ⟨#[]⟩, .int .i64 0, .int .i64 0, .slice none 0 0, .string ⟨#[]⟩, .int .i64 0], .slice (some ⟨w3.heap.size, 0, none⟩) 0 0, .int .i64 0, .bool false]) (by simp [results, Tryz.results70, go_sem, y0, y1, y2, y3, y4, y5, y6, y7]) rfl (HeadOut.no HN.out (cW.gr hGM (Nat.le_refl _)) (((TagO.mt w3).chg cW (.inr (by omega))).wide (by omega) (by omega)))
  have HS : Hid (headFrom xs = some (hPar xs, ts, 16 + hSize xs)) := by
    have h1 := HR.out
    have h2 := H5.out
    cases htf : tagsFrom zs with
    | none => rw [FromIs, htf] at h1; cases h1.1
    | some us =>
      rw [FromIs, htf] at h1
      rw [htf] at h2
      have : us = ts := h1.2
      subst this
      exact h2
  have hb4 := hs1
  obtain ⟨pc, cc, sc, rc⟩ := h3.cutL 16 4 (a := 16) (b := 20) rfl rfl (by omega)
  obtain ⟨pd, cd, sd, rd⟩ := h3.cutL 24 2 (a := 24) (b := 26) rfl rfl (by omega)
  obtain ⟨pe, ce, se, re⟩ := h3.cutL 20 4 (a := 20) (b := 24) rfl rfl (by omega)
  obtain ⟨pf, cf, sf, rf⟩ := h3.cutL 26 2 (a := 26) (b := 28) rfl rfl (by omega)
  have HP1 : Hid ((hPar xs).src.quad = (xs.drop 16).take 4) := rfl
  have HP2 : Hid ((hPar xs).dst.quad = (xs.drop 20).take 4) := rfl
  have HP3 : Hid ((hPar xs).src.port = numOf ((xs.drop 24).take 2)) := rfl
  have HP4 : Hid ((hPar xs).dst.port = numOf ((xs.drop 26).take 2)) := rfl
  have l16 : ((xs.drop 16).take 4).length = 4 := by rw [List.length_take, List.length_drop]; omega
  have l20 : ((xs.drop 20).take 4).length = 4 := by rw [List.length_take, List.length_drop]; omega
  have l24 : ((xs.drop 24).take 2).length ≤ 4 := by rw [List.length_take]; omega
  have l26 : ((xs.drop 26).take 2).length ≤ 4 := by rw [List.length_take]; omega
  have by24 := bytes_take (bytes_drop hby 24) 2
  have by26 := bytes_take (bytes_drop hby 26) 2
  generalize (xs.drop 16).take 4 = q16 at *
  generalize (xs.drop 20).take 4 = q20 at *
  generalize (xs.drop 24).take 2 = n24 at *
  generalize (xs.drop 26).take 2 = n26 at *
  have LQ16 := Lib.hid l16
  have LQ20 := Lib.hid l20
  have m16 : q16.length ≤ 4 := by omega
  have m20 : q20.length ≤ 4 := by omega
  have N24 := Lib.hid (fun (W : World) (hW : IntS W (.slice pd 2 cd) n24) => l1Of_c hW by24 l24)
  have N26 := Lib.hid (fun (W : World) (hW : IntS W (.slice pf 2 cf) n26) => l1Of_c hW by26 l26)
  clear l16 l20 l24 l26 by24 by26 hs1 hs2 hb4 hby
  go_upto_region 9 with fail
  go_cut [9] (fun u wx => Half1 w3 (numOf n24) q16 u wx)
  case first =>
    have hq0 : 0 < q16.length := by have := LQ16.out; omega
    go_region_held3 (fun _ => True) (first | exact trivial) (first
      | (refine step_appG (B := w3.heap.size) (by rfl) (.tmp 51) (.tmp 53) (by rfl) (by rfl) ((IntO.mt w3).kept ((Gr.refl _).drew)) (by rfl) (rc.kept (by repeat (first | exact g9 | exact Gr.refl w3 | exact (Gr.refl w3).drew | refine Gr.alloc ?_ _ | refine Gr.drew ?_))) (by simp; omega) hq0 (by simp) ?_; intro v9 w9 o9' h9 hk9 hv9; have o9 : IntO w3.heap.size 3 w9 v9 q16 := o9'; obtain ⟨p9, c9, rfl⟩ := o9.len; have g9 : Gr w3 w9 := ((gr_alloc w3 _).drew).thenB h9)
      | (refine step_appG (B := w3.heap.size) (by rfl) (.tmp 51) (.tmp 53) (by rfl) (by rfl) (((IntO.mt w3).kept (gr_alloc _ (.cells #[.int .i64 0, .slice none 0 0, .string ⟨#[]⟩, .int .i64 0, .int .i64 0, .slice none 0 0, .string ⟨#[]⟩, .int .i64 0] 26))).kept ((Gr.refl _).drew)) (by rfl) (rc.kept (by repeat (first | exact g9 | exact Gr.refl w3 | exact (Gr.refl w3).drew | refine Gr.alloc ?_ _ | refine Gr.drew ?_))) (by simp; omega) hq0 (by simp; omega) ?_; intro v9 w9 o9' h9 hk9 hv9; have o9 : IntO w3.heap.size 3 w9 v9 q16 := o9'; obtain ⟨p9, c9, rfl⟩ := o9.len; have g9 : Gr w3 w9 := (((gr_alloc w3 _).alloc (.cells #[.int .i64 0, .slice none 0 0, .string ⟨#[]⟩, .int .i64 0, .int .i64 0, .slice none 0 0, .string ⟨#[]⟩, .int .i64 0] 26)).drew).thenB h9; have hQ9 : w9.heap[w3.heap.size + 1]? = some (.cells z8 26 (0, 0)) := ((hk9 (w3.heap.size + 1) (by simp) (by simp [Value.ownBlock])).trans (alloc2_top _ _ _ rfl)); have hne9 : ∀ b, (Value.slice p9 q16.length c9).ownBlock = some b → b ≠ w3.heap.size + 1 := (by intro b hb; rcases hv9 b hb with e | e <;> (simp [Value.ownBlock] at e <;> omega)); have x0 := blk_cell hQ9 (j := 0) rfl; have x1 := blk_cell hQ9 (j := 1) rfl; have x2 := blk_cell hQ9 (j := 2) rfl; have x3 := blk_cell hQ9 (j := 3) rfl; have x4 := blk_cell hQ9 (j := 4) rfl; have x5 := blk_cell hQ9 (j := 5) rfl; have x6 := blk_cell hQ9 (j := 6) rfl; have x7 := blk_cell hQ9 (j := 7) rfl; have f0 := blk_frozen hQ9 0; have f1 := blk_frozen hQ9 1; have f2 := blk_frozen hQ9 2; have f3 := blk_frozen hQ9 3; have f4 := blk_frozen hQ9 4; have f5 := blk_frozen hQ9 5; have f6 := blk_frozen hQ9 6; have f7 := blk_frozen hQ9 7)
      | (refine step_appG (B := w3.heap.size + 1) (by rfl) (.tmp 51) (.tmp 53) (by rfl) (by rfl) (((IntO.mtN (w := w3.alloc (.cells #[.int .i64 0, .slice none 0 0, .string ⟨#[]⟩, .int .i64 0, .int .i64 0, .slice none 0 0, .string ⟨#[]⟩, .int .i64 0] 26)) (m := w3.heap.size + 1) (by simp)).mono (by simp)).kept ((Gr.refl _).drew)) (by rfl) (rc.kept (by repeat (first | exact g9 | exact Gr.refl w3 | exact (Gr.refl w3).drew | refine Gr.alloc ?_ _ | refine Gr.drew ?_))) (by simp; omega) hq0 (by simp) ?_; intro v9 w9 o9' h9 hk9 hv9; have o9 : IntO w3.heap.size 3 w9 v9 q16 := IntO.mono o9' (by omega); obtain ⟨p9, c9, rfl⟩ := o9.len; have g9 : Gr w3 w9 := (((gr_alloc w3 (.cells #[.int .i64 0, .slice none 0 0, .string ⟨#[]⟩, .int .i64 0, .int .i64 0, .slice none 0 0, .string ⟨#[]⟩, .int .i64 0] 26)).alloc _).drew).thenB (h9.mono (by omega)); have hQ9 : w9.heap[w3.heap.size]? = some (.cells z8 26 (0, 0)) := ((hk9 w3.heap.size (by simp; omega) (by simp [Value.ownBlock])).trans (alloc2_low _ _ _)); have hne9 : ∀ b, (Value.slice p9 q16.length c9).ownBlock = some b → b ≠ w3.heap.size := (by intro b hb; rcases hv9 b hb with e | e <;> (simp [Value.ownBlock] at e <;> omega)); have x0 := blk_cell hQ9 (j := 0) rfl; have x1 := blk_cell hQ9 (j := 1) rfl; have x2 := blk_cell hQ9 (j := 2) rfl; have x3 := blk_cell hQ9 (j := 3) rfl; have x4 := blk_cell hQ9 (j := 4) rfl; have x5 := blk_cell hQ9 (j := 5) rfl; have x6 := blk_cell hQ9 (j := 6) rfl; have x7 := blk_cell hQ9 (j := 7) rfl; have f0 := blk_frozen hQ9 0; have f1 := blk_frozen hQ9 1; have f2 := blk_frozen hQ9 2; have f3 := blk_frozen hQ9 3; have f4 := blk_frozen hQ9 4; have f5 := blk_frozen hQ9 5; have f6 := blk_frozen hQ9 6; have f7 := blk_frozen hQ9 7)
      | (go_at_call 110; (with_reducible refine (N24.out _ (rd.kept (by repeat (first | exact g9 | exact Gr.refl w3 | exact (Gr.refl w3).drew | refine Gr.alloc ?_ _ | refine Gr.drew ?_)))).mono ?_); rintro e w10 ⟨rfl, rfl⟩))
    all_goals
      go_wp2_with fail
      go_meet
      first
        | (with_reducible exact Half1.late rfl o9 hq0 g9)
        | exact Half1.early o9 hq0 g9 hQ9 hne9 (by omega)
  case rest =>
    obtain ⟨b9, bq, p9, c9, rfl, hQ, iq, hnq, hbq, hb9, hlq, hl9, gx⟩ := hcut
    have HQc := Lib.hid hQ
    have HLc := Lib.hid (⟨hnq, hbq, hb9, hlq, hl9⟩ : bq ≠ b9 ∧ w3.heap.size ≤ bq ∧ w3.heap.size ≤ b9 ∧ bq < wc.heap.size ∧ b9 < wc.heap.size)
    have rex := re.kept gx
    have rfx := rf.kept gx
    clear hQ hnq hbq hb9 hlq hl9 rc rd re rf N24
    go_upto_region 10 with fail
    go_cut [] (fun wx => Half2 w3 (numOf n24) (numOf n26) q16 q20 b9 wx)
    case first =>
      have hq0 : 0 < q20.length := by have := LQ20.out; omega
      go_region_held3 (fun _ => True) (first | exact trivial) (first
        | (refine step_appG (B := wc.heap.size) (by rfl) (.tmp 60) (.tmp 62) (by rfl) (by rfl) ((IntO.mt wc).kept ((Gr.refl _).drew)) (by rfl) (rex.kept (by repeat (first | exact Gr.refl wc | exact (Gr.refl wc).drew | refine Gr.alloc ?_ _ | refine Gr.drew ?_))) (by simp; omega) hq0 (by simp) ?_; intro v9 w9 o9' h9 hk9 hv9; have o9 : IntO wc.heap.size 3 w9 v9 q20 := o9'; obtain ⟨p10, c10, rfl⟩ := o9.len; have g9 : Gr wc w9 := ((gr_alloc wc _).drew).thenB h9; have hQ9 := g9.blk HQc.out; have HQ9 := Lib.hid hQ9; have x4 := blk_cell hQ9 (j := 4) rfl; have x5 := blk_cell hQ9 (j := 5) rfl; have x6 := blk_cell hQ9 (j := 6) rfl; have x7 := blk_cell hQ9 (j := 7) rfl; have f4 := blk_frozen hQ9 4; have f5 := blk_frozen hQ9 5; have f6 := blk_frozen hQ9 6; have f7 := blk_frozen hQ9 7; clear hQ9)
        | (go_at_call 110; (with_reducible refine (N26.out _ (rfx.kept (by repeat (first | exact g9 | exact Gr.refl wc | exact (Gr.refl wc).drew | refine Gr.alloc ?_ _ | refine Gr.drew ?_)))).mono ?_); rintro e w10 ⟨rfl, rfl⟩))
      all_goals
        go_wp2_with fail
        go_meet
        exact Half2.of HQ9.out (iq.kept g9) HLc.out.1 HLc.out.2.1 HLc.out.2.2.1 HLc.out.2.2.2.1 HLc.out.2.2.2.2 gx o9 hq0 g9
    case rest =>
      obtain ⟨bq, br, p9, c9, pr, cr, hQ, iq, ir, h1, h2, h3, h4, h5, h6, h7, gx⟩ := hcut
      have gf := g3.trans gx
      have HBf := Lib.hid (gx.blk HB3.out)
      have hGf := hG3.trans gx
      have of := o3.kept gx
      have zf := gx.sz
      have s0 := blk_cell hQ (j := 0) rfl
      have s1 := blk_cell hQ (j := 1) rfl
      have s2 := blk_cell hQ (j := 2) rfl
      have s3 := blk_cell hQ (j := 3) rfl
      have s4 := blk_cell hQ (j := 4) rfl
      have s5 := blk_cell hQ (j := 5) rfl
      have s6 := blk_cell hQ (j := 6) rfl
      have s7 := blk_cell hQ (j := 7) rfl
      have HLf := Lib.hid (⟨h1, h2, h3, h4, h5, h6, h7⟩ : bq ≠ b9 ∧ br ≠ b9 ∧ bq < br ∧ w3.heap.size ≤ bq ∧ w3.heap.size ≤ b9 ∧ b9 < wc.heap.size ∧ br < wc.heap.size)
      clear h1 h2 h3 h4 h5 h6 h7 hQ rex rfx N26
      have x0 := blk_cell HBf.out (j := 0) rfl
      have x1 := blk_cell HBf.out (j := 1) rfl
      have x2 := blk_cell HBf.out (j := 2) rfl
      have x3 := blk_cell HBf.out (j := 3) rfl
      have x4 := blk_cell HBf.out (j := 4) rfl
      have x5 := blk_cell HBf.out (j := 5) rfl
      have x6 := blk_cell HBf.out (j := 6) rfl
      have x7 := blk_cell HBf.out (j := 7) rfl
      have f0 := blk_frozen HBf.out 0
      have f1 := blk_frozen HBf.out 1
      have f2 := blk_frozen HBf.out 2
      have f3 := blk_frozen HBf.out 3
      have f4 := blk_frozen HBf.out 4
      have f5 := blk_frozen HBf.out 5
      have f6 := blk_frozen HBf.out 6
      have f7 := blk_frozen HBf.out 7
      go_wp2
      change bodyPost _ _ _ _ _ (put8 wc w.heap.size (.int .i64 1) (.slice p9 q16.length c9) (.string ⟨#[]⟩) (.int .i64 (numOf n24)) (.int .i64 1) (.slice pr q20.length cr) (.string ⟨#[]⟩) (.int .i64 (numOf n26)))
      have hW := put8_blk HBf.out (.int .i64 1) (.slice p9 q16.length c9) (.string ⟨#[]⟩) (.int .i64 (numOf n24)) (.int .i64 1) (.slice pr q20.length cr) (.string ⟨#[]⟩) (.int .i64 (numOf n26))
      have cW := put8_chg wc w.heap.size (.int .i64 1) (.slice p9 q16.length c9) (.string ⟨#[]⟩) (.int .i64 (numOf n24)) (.int .i64 1) (.slice pr q20.length cr) (.string ⟨#[]⟩) (.int .i64 (numOf n26))
      generalize put8 wc w.heap.size (.int .i64 1) (.slice p9 q16.length c9) (.string ⟨#[]⟩) (.int .i64 (numOf n24)) (.int .i64 1) (.slice pr q20.length cr) (.string ⟨#[]⟩) (.int .i64 (numOf n26)) = wz at *
      have y0 := blk_cell hW (j := 0) rfl
      have y1 := blk_cell hW (j := 1) rfl
      have y2 := blk_cell hW (j := 2) rfl
      have y3 := blk_cell hW (j := 3) rfl
      have y4 := blk_cell hW (j := 4) rfl
      have y5 := blk_cell hW (j := 5) rfl
      have y6 := blk_cell hW (j := 6) rfl
      have y7 := blk_cell hW (j := 7) rfl
      have zz := cW.size
      obtain ⟨h1, h2, h3, h4, h5, h6, h7⟩ := HLf.out
      have hZ3 := HZ3.out
      have hZ1 := HZ1.out
      refine bodyPost_ret (v := .tuple #[.agg #[.int .i64 1, .slice p9 q16.length c9, .string ⟨#[]⟩, .int .i64 (numOf n24), .int .i64 1, .slice pr q20.length cr, .string ⟨#[]⟩, .int .i64 (numOf n26)], v3, .int .i64 (16 + (hSize xs : Int)), .bool true]) (by simp [results, Tryz.results70, go_sem, y0, y1, y2, y3, y4, y5, y6, y7]) rfl ?_
      refine ⟨hPar xs, ts, 16 + hSize xs, true, .slice p9 q16.length c9, .slice pr q20.length cr, v3, bq, bq + 1, br, br + 1, w1.heap.size, T3, .inl ⟨HS.out, rfl⟩, ?_, ?_, ?_, of.chg cW (.inr (by omega)), by omega, by omega, by omega, by omega, .inr ⟨by omega, by omega⟩, by omega, by omega, by omega, cW.gr hGf (Nat.le_refl _)⟩
      · rw [HP3.out, HP4.out]; rfl
      · rw [HP1.out]; exact iq.chg cW (.inr (by omega))
      · rw [HP2.out]; exact ir.chg cW (.inr (by omega))
end Go.Proofs.YtncnnfmfpilonaaGreatDoor
