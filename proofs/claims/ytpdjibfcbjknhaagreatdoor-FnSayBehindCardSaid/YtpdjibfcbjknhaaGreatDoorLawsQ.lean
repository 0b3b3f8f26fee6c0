/- Bytes behind a frame shut a talk. -/
import Derived.Test.YtpdjibfcbjknhaaGreatDoorGX
import Derived.Deep.RegionHeld3
import Derived.Deep.DeepCutAuto
namespace Go.Proofs.YtpdjibfcbjknhaaGreatDoor
open Go.RowKit
theorem step_appQ {w : World} {ops : Array Oper} {o : Oper} {a : Act} {K : Act → World → Prop} {Q : Exit → Act → World → Prop} {E : Prop} (hgd : o.guard = none) (s x : Operand)
    (ho : o.op = .call { callee := .builtin .append, args := #[s, x], argTypes := #[23, 23] })
    {B : Nat} {v : Value} {xs : List Int} (hs : a.eval s = v) (hown : IntO B 3 w v xs) {xv : Value} {ys : List Int} (hx : a.eval x = xv) (hrow : IntS w xv ys)
    (hb : xs.length + ys.length ≤ 1000000) (hB : B ≤ w.heap.size)
    (h : ∀ v' w', IntO B 3 w' v' (xs ++ ys) → Below B w w' → (∀ b, b < w.heap.size → v.ownBlock ≠ some b → w'.heap[b]? = w.heap[b]?) → (∀ b, v'.ownBlock = some b → v.ownBlock = some b ∨ b = w.heap.size) → K (a.put o.dst v') w') : if Region.wanted o (yielded ops a.tmps) = true then Oper.wp Tryz.prog o a w K Q else E := by
  have hw : Region.wanted o (yielded ops a.tmps) = true := by simp [Region.wanted, hgd]
  rw [if_pos hw]
  obtain ⟨i, hi, hz, hs', hby⟩ := infoI
  obtain ⟨hl, p', cap, rfl, c1, c2, c3, c4⟩ := hrow
  cases p' with
  | none =>
    have hy0 : ys = [] := List.eq_nil_of_length_eq_zero (by have := c3 rfl; omega)
    subst hy0
    have hr : (Builtin.append_ #[23, 23] o.type #[v, .slice none 0 cap]).run Tryz.prog w = .ok v w := run_append_owned_none (P := Tryz.prog) w B 23 o.type 3 i 1 uI hi v xs.length (ints xs) hown
    unfold Oper.wp execOp
    simp only [List.length_nil] at hx
    simp only [ho, resolve, invoke, builtin, Sem.run_bind, Sem.run_pure, Result.andThen_ok, List.map_toArray, List.map_cons, List.map_nil, hs, hx, hr]
    exact h v w (by rw [List.append_nil]; exact hown) (Below.refl B w) (fun _ _ _ => rfl) (fun b hb => .inl hb)
  | some ad =>
    obtain ⟨v', w', hr, q1, q2, _, q4⟩ := run_append_own_at (P := Tryz.prog) w B 23 o.type 3 i _ 1 8 uI hi hz hs' hby rfl (by decide) v xs.length (ints xs) hown ad ys.length cap (ints ys) (by rw [ints_length]; omega) (c4 ad rfl) (ints_one _) (by unfold maxLen; omega) (by omega) hB
    have hbl : Below B w w' := (Below.refl B w).grown q2 hB (fun k hk => (hown.blk k hk).1)
    unfold Oper.wp execOp
    simp only [ho, resolve, invoke, builtin, Sem.run_bind, Sem.run_pure, Result.andThen_ok, List.map_toArray, List.map_cons, List.map_nil, hs, hx, hr]
    have hv' : ∀ b, v'.ownBlock = some b → v.ownBlock = some b ∨ b = w.heap.size := by
      intro b hb1
      rcases q4 with q4 | q4
      · exact .inl (by rw [← q4]; exact hb1)
      · rw [q4] at hb1; exact .inr (Option.some.inj hb1).symm
    refine h _ _ ?_ hbl (fun b hb1 hne => q2.block b hb1 (fun e => hne e.symm)) hv'
    unfold IntO; rw [ints_append, List.length_append]; exact q1
theorem oneQ {w : World} {b : Nat} {n : Int} (h : w.heap[b]? = some (.cells #[.int .i64 n] 3)) : IntS w (.slice (some ⟨b, 0, none⟩) 1 1) [n] :=
  IntO.s (B := 0) (e := 3) ⟨rfl, .inr ⟨b, 1, _, rfl, Nat.zero_le _, h, by simp, by decide, rfl, rfl⟩⟩
theorem get_new' {w : World} {o : Obj} {k : Nat} (hk : k = w.heap.size) : (w.alloc o).heap[k]? = some o := by subst hk; exact heap_alloc_new w o
theorem get_old {w : World} {o v : Obj} {k : Nat} (h : w.heap[k]? = some v) : (w.alloc o).heap[k]? = some v := (gr_alloc w o).blk h
theorem get_drew {w : World} {v : Obj} {k : Nat} (h : w.heap[k]? = some v) : w.drew.heap[k]? = some v := h
theorem sz1 (w : World) (o : Obj) : w.heap.size + 1 = (w.alloc o).heap.size := by simp
theorem sz2 (w : World) (o o' : Obj) : w.heap.size + 2 = ((w.alloc o).alloc o').heap.size := by simp
theorem setc_cell {w : World} {a p : Addr} {x v : Value} (hne : p.block ≠ a.block) (h : w.cell? p = some v) : (w.setCell a x).cell? p = some v := by
  rw [← h]
  unfold World.cell?
  rw [Below.heap_setCell _ _ _ _ hne]
/-- What is left: a talk that is shut, no reply. -/
def BhC (w8 : World) (u z y : Value) (wx : World) : Prop :=
  ∃ (b k : Nat) (x : Option Addr) (c1 c2 c3 : Value), u = .pointer (some ⟨b, 0, none⟩) ∧ z = .slice x 0 k ∧ y = .bool true ∧ wx.heap[b]? = some (.cells #[.int .i64 4, c1, c2, c3] 26 (0, 0)) ∧ Gr w8 wx
theorem BhC.late {w8 W : World} {b k : Nat} {x : Option Addr} {c1 c2 c3 : Value} (hb : b = W.heap.size) (g : Gr w8 W) : BhC w8 (.pointer (some ⟨b, 0, none⟩)) (.slice x 0 k) (.bool true) (W.alloc (.cells #[.int .i64 4, c1, c2, c3] 26)) := by
  subst hb
  exact ⟨_, k, x, c1, c2, c3, rfl, rfl, rfl, heap_alloc_new _ _, g.alloc _⟩
theorem BhC.early {w8 W : World} {b k : Nat} {x : Option Addr} {c0 d1 d2 d3 c1 c2 c3 : Value} (hq : W.heap[b]? = some (.cells #[c0, d1, d2, d3] 26 (0, 0))) (h1 : w8.heap.size ≤ b) (g : Gr w8 W) : BhC w8 (.pointer (some ⟨b, 0, none⟩)) (.slice x 0 k) (.bool true) (put4 W b (.int .i64 4) c1 c2 c3) :=
  ⟨b, k, x, c1, c2, c3, rfl, rfl, rfl, put4_blk hq _ _ _ _, (put4_chg W b _ _ _ _).gr g h1⟩
set_option maxRecDepth 20000 in
set_option maxHeartbeats 16000000 in
theorem FnSayBehind_w {w : World} {v u : Value} {bs cs : List Int} (hm : ML w) (he : ErrV w) (ht : Tab w) (h : ByteS w v bs) (h2 : ByteS w u cs) :
    Calls Tryz.prog 7 #[v, u] w fun e w' => e = .returned (.bool true) ∧ Gr w w' := by
  obtain ⟨p0, cap, rfl, _, _⟩ := h.form
  obtain ⟨p2, cap2, rfl, _, _⟩ := h2.form
  by_cases hx : bs.length ≤ 1048576
  rotate_left
  · have hx' : ¬ ((bs.length : Int) ≤ 1048576) := by omega
    go_enter Tryz.func7, Tryz.ntmps7
    go_wp2_with fail
    go_ret
    exact ⟨rfl, Gr.refl _⟩
  have hx' : ((bs.length : Int) ≤ 1048576) := by omega
  by_cases hy : cs.length ≤ 1048576
  rotate_left
  · have hy' : ¬ ((cs.length : Int) ≤ 1048576) := by omega
    go_enter Tryz.func7, Tryz.ntmps7
    go_wp2_with fail
    go_ret
    exact ⟨rfl, Gr.refl _⟩
  have hy' : ((cs.length : Int) ≤ 1048576) := by omega
  go_enter Tryz.func7, Tryz.ntmps7
  go_wp2_with fail
  (with_reducible refine (DrawTalkSay_c h).mono ?_); rintro e w1 ⟨p, q, x, c, f, k, st, ws, ls, d, b, rfl, hsm, hbl, iW, iL, iB, g1⟩
  obtain ⟨R, hR⟩ : ∃ R, sayR ⟨st, ws, ls, tx d⟩ b = R := ⟨_, rfl⟩
  obtain ⟨⟨rs, rws, rls, rdt⟩, rep, ok⟩ := R
  obtain ⟨rd, rfl⟩ : ∃ rd, rdt = tx rd := ⟨S rdt, (tx_S _).symm⟩
  obtain ⟨q1, q2, q3, q4⟩ := hsm
  have HR := Lib.hid hR
  have HLS := Lib.hid q3
  have gT := gr_alloc w1 (.cells #[.int .i64 st, .slice p ws.length c, .slice q ls.length f, .string d] 26)
  have hT := heap_alloc_new w1 (.cells #[.int .i64 st, .slice p ws.length c, .slice q ls.length f, .string d] 26)
  have HT := Lib.hid hT
  have G2 := g1.trans gT
  have jW := iW.kept gT
  have jL := iL.kept gT
  have jB := iB.kept gT
  clear hT iW iL iB hR q3 g1 gT
  go_upto_region 4 with fail
  generalize w1.alloc (.cells #[.int .i64 st, .slice p ws.length c, .slice q ls.length f, .string d] 26) = w2 at *
  have s0 := blk_cell HT.out (j := 0) rfl
  have s1 := blk_cell HT.out (j := 1) rfl
  have s2 := blk_cell HT.out (j := 2) rfl
  have s3 := blk_cell HT.out (j := 3) rfl
  go_wp2_with fail
  (with_reducible refine (implSay_x (hm.kept G2) (he.kept G2) (ht.kept G2) st d jW jL HLS.out (by omega) (by omega) (by omega) jB (by omega) HR).mono ?_); rintro e w3 ⟨p3, q3, x3, c3, f3, k3, rfl, oW, oL, oR, g3⟩
  have gI := gr_alloc w3 (.cells #[.int .i64 rs, .slice p3 rws.length c3, .slice q3 rls.length f3, .string rd] 26)
  have hI := heap_alloc_new w3 (.cells #[.int .i64 rs, .slice p3 rws.length c3, .slice q3 rls.length f3, .string rd] 26)
  have HI := Lib.hid hI
  have g34 := g3.trans gI
  have HT4 := Lib.hid (g34.blk HT.out)
  have G4 := G2.trans g34
  have kW := jW.kept g34
  have kL := jL.kept g34
  have kB := jB.kept g34
  have oW4 := oW.kept gI
  have oL4 := oL.kept gI
  have oR4 := oR.kept gI
  clear hI jW jL jB oW oL oR g3 gI g34 G2 HT s0 s1 s2 s3
  go_upto_region 5 with fail
  generalize w3.alloc (.cells #[.int .i64 rs, .slice p3 rws.length c3, .slice q3 rls.length f3, .string rd] 26) = w4 at *
  have s0 := blk_cell HT4.out (j := 0) rfl
  have s1 := blk_cell HT4.out (j := 1) rfl
  have s2 := blk_cell HT4.out (j := 2) rfl
  have s3 := blk_cell HT4.out (j := 3) rfl
  go_wp2_with fail
  (with_reducible refine (specSay_x st d kW kL HLS.out (by omega) (by omega) (by omega) kB (by omega) HR).mono ?_); rintro e w5 ⟨p5, q5, x5, c5, f5, k5, rfl, pW, pL, pR, g5⟩
  have gS := gr_alloc w5 (.cells #[.int .i64 rs, .slice p5 rws.length c5, .slice q5 rls.length f5, .string rd] 26)
  have hS := heap_alloc_new w5 (.cells #[.int .i64 rs, .slice p5 rws.length c5, .slice q5 rls.length f5, .string rd] 26)
  have HS6 := Lib.hid hS
  have g56 := g5.trans gS
  have HT6 := Lib.hid (g56.blk HT4.out)
  have HI6 := Lib.hid (g56.blk HI.out)
  have G6 := G4.trans g56
  have tW := kW.kept g56
  have tL := kL.kept g56
  have tB := kB.kept g56
  have uW := oW4.kept g56
  have uL := oL4.kept g56
  have uR := oR4.kept g56
  have vW := pW.kept gS
  have vL := pL.kept gS
  have vR := pR.kept gS
  clear hS kW kL kB oW4 oL4 oR4 pW pL pR g5 gS g56 G4 HT4 HI s0 s1 s2 s3
  go_upto_region 6 with fail
  generalize w5.alloc (.cells #[.int .i64 rs, .slice p5 rws.length c5, .slice q5 rls.length f5, .string rd] 26) = w6 at *
  cases ok
  · go_wp2_with fail
    (with_reducible refine (same_c uR vR).mono ?_); rintro e w7 ⟨rfl, g7⟩
    have HI7 := Lib.hid (g7.blk HI6.out)
    have HS7 := Lib.hid (g7.blk HS6.out)
    have s0 := blk_cell HI7.out (j := 0) rfl
    have s1 := blk_cell HI7.out (j := 1) rfl
    have s2 := blk_cell HI7.out (j := 2) rfl
    have s3 := blk_cell HI7.out (j := 3) rfl
    have u0 := blk_cell HS7.out (j := 0) rfl
    have u1 := blk_cell HS7.out (j := 1) rfl
    have u2 := blk_cell HS7.out (j := 2) rfl
    have u3 := blk_cell HS7.out (j := 3) rfl
    go_wp2_with fail
    (with_reducible refine (sameTalk_t rs rd (uW.kept g7) (uL.kept g7) (vW.kept g7) (vL.kept g7)).mono ?_); rintro e w8 ⟨rfl, g8⟩
    have g68 := g7.trans g8
    have HT8 := Lib.hid (g68.blk HT6.out)
    have HI8 := Lib.hid (g68.blk HI6.out)
    have HS8 := Lib.hid (g68.blk HS6.out)
    have G8 := G6.trans g68
    have tW8 := tW.kept g68
    have tL8 := tL.kept g68
    have tB8 := tB.kept g68
    have uW8 := uW.kept g68
    have uL8 := uL.kept g68
    have uR8 := uR.kept g68
    have vW8 := vW.kept g68
    have vL8 := vL.kept g68
    have vR8 := vR.kept g68
    clear s0 s1 s2 s3 u0 u1 u2 u3
    clear tW tL tB uW uL uR vW vL vR g7 g8 g68 HI7 HS7 HT6 HI6 HS6 G6
    go_wp2_with fail
    (with_reducible refine (same_c uR8 vR8).mono ?_); rintro e w9 ⟨rfl, g9⟩
    have HI9 := Lib.hid (g9.blk HI8.out)
    have HS9 := Lib.hid (g9.blk HS8.out)
    have s0 := blk_cell HI9.out (j := 0) rfl
    have s1 := blk_cell HI9.out (j := 1) rfl
    have s2 := blk_cell HI9.out (j := 2) rfl
    have s3 := blk_cell HI9.out (j := 3) rfl
    have u0 := blk_cell HS9.out (j := 0) rfl
    have u1 := blk_cell HS9.out (j := 1) rfl
    have u2 := blk_cell HS9.out (j := 2) rfl
    have u3 := blk_cell HS9.out (j := 3) rfl
    go_wp2_with fail
    (with_reducible refine (sameTalk_t rs rd (uW8.kept g9) (uL8.kept g9) (vW8.kept g9) (vL8.kept g9)).mono ?_); rintro e w10 ⟨rfl, g10⟩
    go_wp2
    go_ret
    exact ⟨rfl, (G8.trans g9).trans g10⟩
  obtain ⟨hk, hrw, hrl, hs⟩ := sayR_yes HR.out
  simp only [] at hrw hrl
  subst hrw hrl
  by_cases h120 : b.length < 120
  rotate_left
  · have h120' : (120 : Int) ≤ (b.length : Int) := by omega
    clear hs hk HR h120
    go_wp2_with fail
    (with_reducible refine (same_c uR vR).mono ?_); rintro e w7 ⟨rfl, g7⟩
    have HI7 := Lib.hid (g7.blk HI6.out)
    have HS7 := Lib.hid (g7.blk HS6.out)
    have s0 := blk_cell HI7.out (j := 0) rfl
    have s1 := blk_cell HI7.out (j := 1) rfl
    have s2 := blk_cell HI7.out (j := 2) rfl
    have s3 := blk_cell HI7.out (j := 3) rfl
    have u0 := blk_cell HS7.out (j := 0) rfl
    have u1 := blk_cell HS7.out (j := 1) rfl
    have u2 := blk_cell HS7.out (j := 2) rfl
    have u3 := blk_cell HS7.out (j := 3) rfl
    go_wp2_with fail
    (with_reducible refine (sameTalk_t rs rd (uW.kept g7) (uL.kept g7) (vW.kept g7) (vL.kept g7)).mono ?_); rintro e w8 ⟨rfl, g8⟩
    have g68 := g7.trans g8
    have HT8 := Lib.hid (g68.blk HT6.out)
    have HI8 := Lib.hid (g68.blk HI6.out)
    have HS8 := Lib.hid (g68.blk HS6.out)
    have G8 := G6.trans g68
    have tW8 := tW.kept g68
    have tL8 := tL.kept g68
    have tB8 := tB.kept g68
    have uW8 := uW.kept g68
    have uL8 := uL.kept g68
    have uR8 := uR.kept g68
    have vW8 := vW.kept g68
    have vL8 := vL.kept g68
    have vR8 := vR.kept g68
    clear s0 s1 s2 s3 u0 u1 u2 u3
    clear tW tL tB uW uL uR vW vL vR g7 g8 g68 HI7 HS7 HT6 HI6 HS6 G6
    go_wp2_with fail
    (with_reducible refine (same_c uR8 vR8).mono ?_); rintro e w9 ⟨rfl, g9⟩
    have HI9 := Lib.hid (g9.blk HI8.out)
    have HS9 := Lib.hid (g9.blk HS8.out)
    have s0 := blk_cell HI9.out (j := 0) rfl
    have s1 := blk_cell HI9.out (j := 1) rfl
    have s2 := blk_cell HI9.out (j := 2) rfl
    have s3 := blk_cell HI9.out (j := 3) rfl
    have u0 := blk_cell HS9.out (j := 0) rfl
    have u1 := blk_cell HS9.out (j := 1) rfl
    have u2 := blk_cell HS9.out (j := 2) rfl
    have u3 := blk_cell HS9.out (j := 3) rfl
    go_wp2_with fail
    (with_reducible refine (sameTalk_t rs rd (uW8.kept g9) (uL8.kept g9) (vW8.kept g9) (vL8.kept g9)).mono ?_); rintro e w10 ⟨rfl, g10⟩
    go_wp2
    go_ret
    exact ⟨rfl, (G8.trans g9).trans g10⟩
  have h120' : ¬ ((120 : Int) ≤ (b.length : Int)) := by omega
  by_cases h4 : rs = 4
  · have h4' : (rs == 4) = true := by rw [h4]; rfl
    clear hs hk HR h120 h4
    go_wp2_with fail
    (with_reducible refine (same_c uR vR).mono ?_); rintro e w7 ⟨rfl, g7⟩
    have HI7 := Lib.hid (g7.blk HI6.out)
    have HS7 := Lib.hid (g7.blk HS6.out)
    have s0 := blk_cell HI7.out (j := 0) rfl
    have s1 := blk_cell HI7.out (j := 1) rfl
    have s2 := blk_cell HI7.out (j := 2) rfl
    have s3 := blk_cell HI7.out (j := 3) rfl
    have u0 := blk_cell HS7.out (j := 0) rfl
    have u1 := blk_cell HS7.out (j := 1) rfl
    have u2 := blk_cell HS7.out (j := 2) rfl
    have u3 := blk_cell HS7.out (j := 3) rfl
    go_wp2_with fail
    (with_reducible refine (sameTalk_t rs rd (uW.kept g7) (uL.kept g7) (vW.kept g7) (vL.kept g7)).mono ?_); rintro e w8 ⟨rfl, g8⟩
    have g68 := g7.trans g8
    have HT8 := Lib.hid (g68.blk HT6.out)
    have HI8 := Lib.hid (g68.blk HI6.out)
    have HS8 := Lib.hid (g68.blk HS6.out)
    have G8 := G6.trans g68
    have tW8 := tW.kept g68
    have tL8 := tL.kept g68
    have tB8 := tB.kept g68
    have uW8 := uW.kept g68
    have uL8 := uL.kept g68
    have uR8 := uR.kept g68
    have vW8 := vW.kept g68
    have vL8 := vL.kept g68
    have vR8 := vR.kept g68
    clear s0 s1 s2 s3 u0 u1 u2 u3
    clear tW tL tB uW uL uR vW vL vR g7 g8 g68 HI7 HS7 HT6 HI6 HS6 G6
    have s0 := blk_cell HS8.out (j := 0) rfl
    go_wp2_with fail
    (with_reducible refine (same_c uR8 vR8).mono ?_); rintro e w9 ⟨rfl, g9⟩
    have HI9 := Lib.hid (g9.blk HI8.out)
    have HS9 := Lib.hid (g9.blk HS8.out)
    have s0 := blk_cell HI9.out (j := 0) rfl
    have s1 := blk_cell HI9.out (j := 1) rfl
    have s2 := blk_cell HI9.out (j := 2) rfl
    have s3 := blk_cell HI9.out (j := 3) rfl
    have u0 := blk_cell HS9.out (j := 0) rfl
    have u1 := blk_cell HS9.out (j := 1) rfl
    have u2 := blk_cell HS9.out (j := 2) rfl
    have u3 := blk_cell HS9.out (j := 3) rfl
    go_wp2_with fail
    (with_reducible refine (sameTalk_t rs rd (uW8.kept g9) (uL8.kept g9) (vW8.kept g9) (vL8.kept g9)).mono ?_); rintro e w10 ⟨rfl, g10⟩
    go_wp2
    go_ret
    exact ⟨rfl, (G8.trans g9).trans g10⟩
  have h4' : (rs == 4) = false := beq_eq_false_iff_ne.2 h4
  have hc0 : 0 ≤ Int.tmod (cs.length : Int) 256 := Int.tmod_nonneg _ (by omega)
  have hc1 : Int.tmod (cs.length : Int) 256 < 256 := Int.tmod_lt_of_pos _ (by omega)
  obtain ⟨sb1, sb2⟩ := say_behind (c := Int.tmod (cs.length : Int) 256) hk (by rw [hs]; exact h4) h120 (by omega)
  have HE : Hid (sayR ⟨st, rws, rls, tx d⟩ (b ++ [Int.tmod (cs.length : Int) 256]) = (⟨4, rws, rls, tx ⟨#[]⟩⟩, [], true)) := Lib.hid (sayR_of sb1 sb2 rfl)
  have hpos : 0 < b.length := by
    rcases b with _ | ⟨_, _⟩
    · have := (say_empty hk).2
      rw [hs] at this
      injection this with e _
      exact absurd e h4
    · simp
  clear hs hk HR sb1 sb2 h4 hc0 hc1
  go_wp2_with fail
  (with_reducible refine (same_c uR vR).mono ?_); rintro e w7 ⟨rfl, g7⟩
  have HI7 := Lib.hid (g7.blk HI6.out)
  have HS7 := Lib.hid (g7.blk HS6.out)
  have s0 := blk_cell HI7.out (j := 0) rfl
  have s1 := blk_cell HI7.out (j := 1) rfl
  have s2 := blk_cell HI7.out (j := 2) rfl
  have s3 := blk_cell HI7.out (j := 3) rfl
  have u0 := blk_cell HS7.out (j := 0) rfl
  have u1 := blk_cell HS7.out (j := 1) rfl
  have u2 := blk_cell HS7.out (j := 2) rfl
  have u3 := blk_cell HS7.out (j := 3) rfl
  go_wp2_with fail
  (with_reducible refine (sameTalk_t rs rd (uW.kept g7) (uL.kept g7) (vW.kept g7) (vL.kept g7)).mono ?_); rintro e w8 ⟨rfl, g8⟩
  have g68 := g7.trans g8
  have HT8 := Lib.hid (g68.blk HT6.out)
  have HI8 := Lib.hid (g68.blk HI6.out)
  have HS8 := Lib.hid (g68.blk HS6.out)
  have G8 := G6.trans g68
  have tW8 := tW.kept g68
  have tL8 := tL.kept g68
  have tB8 := tB.kept g68
  have uW8 := uW.kept g68
  have uL8 := uL.kept g68
  have uR8 := uR.kept g68
  have vW8 := vW.kept g68
  have vL8 := vL.kept g68
  have vR8 := vR.kept g68
  clear s0 s1 s2 s3 u0 u1 u2 u3
  clear tW tL tB uW uL uR vW vL vR g7 g8 g68 HI7 HS7 HT6 HI6 HS6 G6
  have u0 := blk_cell HS8.out (j := 0) rfl
  go_upto_region 8 with fail
  clear u0
  have s0 : w8.cell? ⟨w1.heap.size, 0, none⟩ = some (.int .i64 st) := blk_cell HT8.out (j := 0) rfl
  have s1 : w8.cell? ⟨w1.heap.size, 1, none⟩ = some (.slice p rws.length c) := blk_cell HT8.out (j := 1) rfl
  have s2 : w8.cell? ⟨w1.heap.size, 2, none⟩ = some (.slice q rls.length f) := blk_cell HT8.out (j := 2) rfl
  have s3 : w8.cell? ⟨w1.heap.size, 3, none⟩ = some (.string d) := blk_cell HT8.out (j := 3) rfl
  have hb1 : w1.heap.size < w8.heap.size := (Array.getElem?_eq_some_iff.1 HT8.out).1
  have HB1 := Lib.hid hb1
  have KS := Lib.hid (fun (W : World) (g : Gr w8 W) => And.intro (g.cell s0) (And.intro (g.cell s1) (And.intro (g.cell s2) (g.cell s3))))
  have SI := Lib.hid (fun (W : World) (g : Gr w8 W) (y : Value) (hy : IntS W y (b ++ [Int.tmod (cs.length : Int) 256])) => implSay_x (hm.kept (G8.trans g)) (he.kept (G8.trans g)) (ht.kept (G8.trans g)) st d (tW8.kept g) (tL8.kept g) HLS.out (by omega) (by omega) (by omega) hy (by rw [List.length_append, List.length_singleton]; omega) HE)
  clear hb1
  go_cut [13, 14, 15] (fun u z y wx => BhC w8 u z y wx)
  case first =>
    go_region_held3 (fun w' => w'.cell? ⟨w1.heap.size, 0, none⟩ = some (.int .i64 st) ∧ w'.cell? ⟨w1.heap.size, 1, none⟩ = some (.slice p rws.length c) ∧ w'.cell? ⟨w1.heap.size, 2, none⟩ = some (.slice q rls.length f) ∧ w'.cell? ⟨w1.heap.size, 3, none⟩ = some (.string d)) (first
      | (with_reducible exact KS.out _ g12)
      | (with_reducible exact KS.out _ (g12.alloc _))
      | (with_reducible exact KS.out _ g11)
      | (with_reducible exact KS.out _ (g11.alloc _))
      | (with_reducible exact KS.out _ g10)
      | (with_reducible exact KS.out _ (g10.alloc _))
      | (with_reducible exact KS.out _ ((g10.alloc _).alloc _))
      | (with_reducible exact KS.out _ (by with_reducible first | exact (gr_alloc _ _).drew | exact ((gr_alloc _ _).alloc _).drew | exact (((gr_alloc _ _).alloc _).alloc _).drew | exact (Gr.refl _).drew | exact Gr.refl _))
      | (refine And.intro ?_ (And.intro ?_ (And.intro ?_ ?_)) <;> (repeat (refine setc_cell (by have := HB1.out; have := g10.sz; have := g11.sz; simp; omega) ?_)) <;> first | exact g12.cell s0 | exact g12.cell s1 | exact g12.cell s2 | exact g12.cell s3)
      | go_keep) (first
      | (refine step_appE1 (by rfl) (.tmp 87) (.tmp 88) (by rfl) (by rfl) (by rfl) (by with_reducible first | exact get_drew (get_new' rfl) | exact get_drew (get_new' (sz1 _ _)) | exact get_drew (get_new' (sz2 _ _ _)) | exact get_drew (get_old (get_new' rfl)) | exact get_drew (get_old (get_new' (sz1 _ _))) | exact get_drew (get_old (get_old (get_new' rfl))) | exact get_new' rfl | exact get_new' (sz1 _ _) | exact get_old (get_new' rfl)) (tB8.kept (by with_reducible first | exact (gr_alloc _ _).drew | exact ((gr_alloc _ _).alloc _).drew | exact (((gr_alloc _ _).alloc _).alloc _).drew | exact (Gr.refl _).drew | exact Gr.refl _)) (by omega) hpos ?_; intro p10 c10 w10 o10 g10a; have HLT10 := Lib.hid g10a.sz; have g10 : Gr w8 w10 := Gr.trans (by with_reducible first | exact (gr_alloc _ _).drew | exact ((gr_alloc _ _).alloc _).drew | exact (((gr_alloc _ _).alloc _).alloc _).drew) g10a; have o10' : IntO w8.heap.size 3 w10 (.slice p10 b.length c10) b := IntO.mono o10 (by with_reducible first | exact Gr.sz (a := w8) ((gr_alloc _ _).drew) | exact Gr.sz (a := w8) (((gr_alloc _ _).alloc _).drew) | exact Gr.sz (a := w8) ((((gr_alloc _ _).alloc _).alloc _).drew)); (first | (have HT10 : Hid (w10.heap[w8.heap.size]? = some (.cells #[.int .i64 0, .slice none 0 0, .slice none 0 0, .string ⟨#[]⟩] 26 (0, 0))) := Lib.hid (g10a.blk (by with_reducible first | exact get_drew (get_new' rfl) | exact get_drew (get_new' (sz1 _ _)) | exact get_drew (get_new' (sz2 _ _ _)) | exact get_drew (get_old (get_new' rfl)) | exact get_drew (get_old (get_new' (sz1 _ _))) | exact get_drew (get_old (get_old (get_new' rfl))) | exact get_new' rfl | exact get_new' (sz1 _ _) | exact get_old (get_new' rfl)))) | (have HT10 : Hid (w10.heap[w8.heap.size + 1]? = some (.cells #[.int .i64 0, .slice none 0 0, .slice none 0 0, .string ⟨#[]⟩] 26 (0, 0))) := Lib.hid (g10a.blk (by with_reducible first | exact get_drew (get_new' rfl) | exact get_drew (get_new' (sz1 _ _)) | exact get_drew (get_new' (sz2 _ _ _)) | exact get_drew (get_old (get_new' rfl)) | exact get_drew (get_old (get_new' (sz1 _ _))) | exact get_drew (get_old (get_old (get_new' rfl))) | exact get_new' rfl | exact get_new' (sz1 _ _) | exact get_old (get_new' rfl)))) | (have HT10 : Hid (w10.heap[w8.heap.size + 2]? = some (.cells #[.int .i64 0, .slice none 0 0, .slice none 0 0, .string ⟨#[]⟩] 26 (0, 0))) := Lib.hid (g10a.blk (by with_reducible first | exact get_drew (get_new' rfl) | exact get_drew (get_new' (sz1 _ _)) | exact get_drew (get_new' (sz2 _ _ _)) | exact get_drew (get_old (get_new' rfl)) | exact get_drew (get_old (get_new' (sz1 _ _))) | exact get_drew (get_old (get_old (get_new' rfl))) | exact get_new' rfl | exact get_new' (sz1 _ _) | exact get_old (get_new' rfl)))) | skip); (first | (have L10 : IntS w10 (.slice (some ⟨w8.heap.size, 0, none⟩) 1 1) [Int.tmod (cs.length : Int) 256] := oneQ (g10a.blk (by with_reducible first | exact get_drew (get_new' rfl) | exact get_drew (get_new' (sz1 _ _)) | exact get_drew (get_new' (sz2 _ _ _)) | exact get_drew (get_old (get_new' rfl)) | exact get_drew (get_old (get_new' (sz1 _ _))) | exact get_drew (get_old (get_old (get_new' rfl))) | exact get_new' rfl | exact get_new' (sz1 _ _) | exact get_old (get_new' rfl)))) | (have L10 : IntS w10 (.slice (some ⟨w8.heap.size + 1, 0, none⟩) 1 1) [Int.tmod (cs.length : Int) 256] := oneQ (g10a.blk (by with_reducible first | exact get_drew (get_new' rfl) | exact get_drew (get_new' (sz1 _ _)) | exact get_drew (get_new' (sz2 _ _ _)) | exact get_drew (get_old (get_new' rfl)) | exact get_drew (get_old (get_new' (sz1 _ _))) | exact get_drew (get_old (get_old (get_new' rfl))) | exact get_new' rfl | exact get_new' (sz1 _ _) | exact get_old (get_new' rfl)))) | (have L10 : IntS w10 (.slice (some ⟨w8.heap.size + 2, 0, none⟩) 1 1) [Int.tmod (cs.length : Int) 256] := oneQ (g10a.blk (by with_reducible first | exact get_drew (get_new' rfl) | exact get_drew (get_new' (sz1 _ _)) | exact get_drew (get_new' (sz2 _ _ _)) | exact get_drew (get_old (get_new' rfl)) | exact get_drew (get_old (get_new' (sz1 _ _))) | exact get_drew (get_old (get_old (get_new' rfl))) | exact get_new' rfl | exact get_new' (sz1 _ _) | exact get_old (get_new' rfl)))) | skip))
      | (have d1 : IntO w8.heap.size 3 w10 (.slice p10 b.length c10) b := IntO.kept o10' (Gr.refl w10); have d2 : IntS w10 (.slice (some ⟨w8.heap.size, 0, none⟩) 1 1) [Int.tmod (cs.length : Int) 256] := L10; have d3 : w8.heap.size ≤ w10.heap.size := Nat.le_trans g10.sz (Gr.sz (Gr.refl w10)); have d4 : b.length + [Int.tmod (cs.length : Int) 256].length ≤ 1000000 := (by rw [List.length_singleton]; omega); refine step_appQ (B := w8.heap.size) (by rfl) (.tmp 89) (.tmp 93) (by rfl) (by rfl) d1 (by rfl) d2 d4 d3 ?_; intro v11 w11 o11 h11 hk11 hv11; have g11 : Gr w8 w11 := Gr.thenB (a := w8) (Gr.trans g10 (Gr.refl w10)) h11; first | (have HT11 := Lib.hid ((hk11 _ (by have hh := HLT10.out; simp at hh; first | omega | (simp; omega)) (fun e => by have hh := (o10.blk _ e).1; simp at hh <;> omega)).trans (HT10.out))) | skip)
      | (have d1 : IntO w8.heap.size 3 (w10.alloc (.cells #[.int .i64 0, .slice none 0 0, .slice none 0 0, .string ⟨#[]⟩] 26)) (.slice p10 b.length c10) b := IntO.kept o10' (gr_alloc w10 _); have d2 : IntS (w10.alloc (.cells #[.int .i64 0, .slice none 0 0, .slice none 0 0, .string ⟨#[]⟩] 26)) (.slice (some ⟨w8.heap.size, 0, none⟩) 1 1) [Int.tmod (cs.length : Int) 256] := IntS.kept L10 (gr_alloc w10 _); have d3 : w8.heap.size ≤ (w10.alloc (.cells #[.int .i64 0, .slice none 0 0, .slice none 0 0, .string ⟨#[]⟩] 26)).heap.size := Nat.le_trans g10.sz (Gr.sz (gr_alloc w10 _)); have d4 : b.length + [Int.tmod (cs.length : Int) 256].length ≤ 1000000 := (by rw [List.length_singleton]; omega); refine step_appQ (B := w8.heap.size) (by rfl) (.tmp 89) (.tmp 93) (by rfl) (by rfl) d1 (by rfl) d2 d4 d3 ?_; intro v11 w11 o11 h11 hk11 hv11; have g11 : Gr w8 w11 := Gr.thenB (a := w8) (Gr.trans g10 (gr_alloc w10 _)) h11; have HT11 : Hid (w11.heap[w10.heap.size]? = some (.cells #[.int .i64 0, .slice none 0 0, .slice none 0 0, .string ⟨#[]⟩] 26)) := Lib.hid ((hk11 _ (by simp) (fun e => by have := (o10.blk _ e).2; omega)).trans (get_new' rfl)))
      | (have d1 : IntO w8.heap.size 3 w10 (.slice p10 b.length c10) b := IntO.kept o10' (Gr.refl w10); have d2 : IntS w10 (.slice (some ⟨(w8.heap.size + 1), 0, none⟩) 1 1) [Int.tmod (cs.length : Int) 256] := L10; have d3 : w8.heap.size ≤ w10.heap.size := Nat.le_trans g10.sz (Gr.sz (Gr.refl w10)); have d4 : b.length + [Int.tmod (cs.length : Int) 256].length ≤ 1000000 := (by rw [List.length_singleton]; omega); refine step_appQ (B := w8.heap.size) (by rfl) (.tmp 89) (.tmp 93) (by rfl) (by rfl) d1 (by rfl) d2 d4 d3 ?_; intro v11 w11 o11 h11 hk11 hv11; have g11 : Gr w8 w11 := Gr.thenB (a := w8) (Gr.trans g10 (Gr.refl w10)) h11; first | (have HT11 := Lib.hid ((hk11 _ (by have hh := HLT10.out; simp at hh; first | omega | (simp; omega)) (fun e => by have hh := (o10.blk _ e).1; simp at hh <;> omega)).trans (HT10.out))) | skip)
      | (have d1 : IntO w8.heap.size 3 (w10.alloc (.cells #[.int .i64 0, .slice none 0 0, .slice none 0 0, .string ⟨#[]⟩] 26)) (.slice p10 b.length c10) b := IntO.kept o10' (gr_alloc w10 _); have d2 : IntS (w10.alloc (.cells #[.int .i64 0, .slice none 0 0, .slice none 0 0, .string ⟨#[]⟩] 26)) (.slice (some ⟨(w8.heap.size + 1), 0, none⟩) 1 1) [Int.tmod (cs.length : Int) 256] := IntS.kept L10 (gr_alloc w10 _); have d3 : w8.heap.size ≤ (w10.alloc (.cells #[.int .i64 0, .slice none 0 0, .slice none 0 0, .string ⟨#[]⟩] 26)).heap.size := Nat.le_trans g10.sz (Gr.sz (gr_alloc w10 _)); have d4 : b.length + [Int.tmod (cs.length : Int) 256].length ≤ 1000000 := (by rw [List.length_singleton]; omega); refine step_appQ (B := w8.heap.size) (by rfl) (.tmp 89) (.tmp 93) (by rfl) (by rfl) d1 (by rfl) d2 d4 d3 ?_; intro v11 w11 o11 h11 hk11 hv11; have g11 : Gr w8 w11 := Gr.thenB (a := w8) (Gr.trans g10 (gr_alloc w10 _)) h11; have HT11 : Hid (w11.heap[w10.heap.size]? = some (.cells #[.int .i64 0, .slice none 0 0, .slice none 0 0, .string ⟨#[]⟩] 26)) := Lib.hid ((hk11 _ (by simp) (fun e => by have := (o10.blk _ e).2; omega)).trans (get_new' rfl)))
      | (have d1 : IntO w8.heap.size 3 w10 (.slice p10 b.length c10) b := IntO.kept o10' (Gr.refl w10); have d2 : IntS w10 (.slice (some ⟨(w8.heap.size + 2), 0, none⟩) 1 1) [Int.tmod (cs.length : Int) 256] := L10; have d3 : w8.heap.size ≤ w10.heap.size := Nat.le_trans g10.sz (Gr.sz (Gr.refl w10)); have d4 : b.length + [Int.tmod (cs.length : Int) 256].length ≤ 1000000 := (by rw [List.length_singleton]; omega); refine step_appQ (B := w8.heap.size) (by rfl) (.tmp 89) (.tmp 93) (by rfl) (by rfl) d1 (by rfl) d2 d4 d3 ?_; intro v11 w11 o11 h11 hk11 hv11; have g11 : Gr w8 w11 := Gr.thenB (a := w8) (Gr.trans g10 (Gr.refl w10)) h11; first | (have HT11 := Lib.hid ((hk11 _ (by have hh := HLT10.out; simp at hh; first | omega | (simp; omega)) (fun e => by have hh := (o10.blk _ e).1; simp at hh <;> omega)).trans (HT10.out))) | skip)
      | (have d1 : IntO w8.heap.size 3 (w10.alloc (.cells #[.int .i64 0, .slice none 0 0, .slice none 0 0, .string ⟨#[]⟩] 26)) (.slice p10 b.length c10) b := IntO.kept o10' (gr_alloc w10 _); have d2 : IntS (w10.alloc (.cells #[.int .i64 0, .slice none 0 0, .slice none 0 0, .string ⟨#[]⟩] 26)) (.slice (some ⟨(w8.heap.size + 2), 0, none⟩) 1 1) [Int.tmod (cs.length : Int) 256] := IntS.kept L10 (gr_alloc w10 _); have d3 : w8.heap.size ≤ (w10.alloc (.cells #[.int .i64 0, .slice none 0 0, .slice none 0 0, .string ⟨#[]⟩] 26)).heap.size := Nat.le_trans g10.sz (Gr.sz (gr_alloc w10 _)); have d4 : b.length + [Int.tmod (cs.length : Int) 256].length ≤ 1000000 := (by rw [List.length_singleton]; omega); refine step_appQ (B := w8.heap.size) (by rfl) (.tmp 89) (.tmp 93) (by rfl) (by rfl) d1 (by rfl) d2 d4 d3 ?_; intro v11 w11 o11 h11 hk11 hv11; have g11 : Gr w8 w11 := Gr.thenB (a := w8) (Gr.trans g10 (gr_alloc w10 _)) h11; have HT11 : Hid (w11.heap[w10.heap.size]? = some (.cells #[.int .i64 0, .slice none 0 0, .slice none 0 0, .string ⟨#[]⟩] 26)) := Lib.hid ((hk11 _ (by simp) (fun e => by have := (o10.blk _ e).2; omega)).trans (get_new' rfl)))
      | (have d1 : IntO w8.heap.size 3 (w10.alloc (.cells #[.int .i64 (Int.tmod (cs.length : Int) 256)] 3)) (.slice p10 b.length c10) b := IntO.kept o10' (gr_alloc w10 _); have d2 : IntS (w10.alloc (.cells #[.int .i64 (Int.tmod (cs.length : Int) 256)] 3)) (.slice (some ⟨w10.heap.size, 0, none⟩) 1 1) [Int.tmod (cs.length : Int) 256] := oneQ (get_new' rfl); have d3 : w8.heap.size ≤ (w10.alloc (.cells #[.int .i64 (Int.tmod (cs.length : Int) 256)] 3)).heap.size := Nat.le_trans g10.sz (Gr.sz (gr_alloc w10 _)); have d4 : b.length + [Int.tmod (cs.length : Int) 256].length ≤ 1000000 := (by rw [List.length_singleton]; omega); refine step_appQ (B := w8.heap.size) (by rfl) (.tmp 89) (.tmp 93) (by rfl) (by rfl) d1 (by rfl) d2 d4 d3 ?_; intro v11 w11 o11 h11 hk11 hv11; have g11 : Gr w8 w11 := Gr.thenB (a := w8) (Gr.trans g10 (gr_alloc w10 _)) h11; first | (have HT11 := Lib.hid ((hk11 _ (by have hh := HLT10.out; simp at hh; first | omega | (simp; omega)) (fun e => by have hh := (o10.blk _ e).1; simp at hh <;> omega)).trans (get_old HT10.out))) | skip)
      | (have d1 : IntO w8.heap.size 3 ((w10.alloc (.cells #[.int .i64 (Int.tmod (cs.length : Int) 256)] 3)).alloc (.cells #[.int .i64 0, .slice none 0 0, .slice none 0 0, .string ⟨#[]⟩] 26)) (.slice p10 b.length c10) b := IntO.kept o10' ((gr_alloc w10 _).alloc _); have d2 : IntS ((w10.alloc (.cells #[.int .i64 (Int.tmod (cs.length : Int) 256)] 3)).alloc (.cells #[.int .i64 0, .slice none 0 0, .slice none 0 0, .string ⟨#[]⟩] 26)) (.slice (some ⟨w10.heap.size, 0, none⟩) 1 1) [Int.tmod (cs.length : Int) 256] := oneQ (get_old (get_new' rfl)); have d3 : w8.heap.size ≤ ((w10.alloc (.cells #[.int .i64 (Int.tmod (cs.length : Int) 256)] 3)).alloc (.cells #[.int .i64 0, .slice none 0 0, .slice none 0 0, .string ⟨#[]⟩] 26)).heap.size := Nat.le_trans g10.sz (Gr.sz ((gr_alloc w10 _).alloc _)); have d4 : b.length + [Int.tmod (cs.length : Int) 256].length ≤ 1000000 := (by rw [List.length_singleton]; omega); refine step_appQ (B := w8.heap.size) (by rfl) (.tmp 89) (.tmp 93) (by rfl) (by rfl) d1 (by rfl) d2 d4 d3 ?_; intro v11 w11 o11 h11 hk11 hv11; have g11 : Gr w8 w11 := Gr.thenB (a := w8) (Gr.trans g10 ((gr_alloc w10 _).alloc _)) h11; have HT11 : Hid (w11.heap[w10.heap.size + 1]? = some (.cells #[.int .i64 0, .slice none 0 0, .slice none 0 0, .string ⟨#[]⟩] 26)) := Lib.hid ((hk11 _ (by simp) (fun e => by have := (o10.blk _ e).2; omega)).trans (get_new' (sz1 _ _))))
      | (have d1 : IntO w8.heap.size 3 ((w10.alloc (.cells #[.int .i64 0, .slice none 0 0, .slice none 0 0, .string ⟨#[]⟩] 26)).alloc (.cells #[.int .i64 (Int.tmod (cs.length : Int) 256)] 3)) (.slice p10 b.length c10) b := IntO.kept o10' ((gr_alloc w10 _).alloc _); have d2 : IntS ((w10.alloc (.cells #[.int .i64 0, .slice none 0 0, .slice none 0 0, .string ⟨#[]⟩] 26)).alloc (.cells #[.int .i64 (Int.tmod (cs.length : Int) 256)] 3)) (.slice (some ⟨(w10.heap.size + 1), 0, none⟩) 1 1) [Int.tmod (cs.length : Int) 256] := oneQ (get_new' (sz1 _ _)); have d3 : w8.heap.size ≤ ((w10.alloc (.cells #[.int .i64 0, .slice none 0 0, .slice none 0 0, .string ⟨#[]⟩] 26)).alloc (.cells #[.int .i64 (Int.tmod (cs.length : Int) 256)] 3)).heap.size := Nat.le_trans g10.sz (Gr.sz ((gr_alloc w10 _).alloc _)); have d4 : b.length + [Int.tmod (cs.length : Int) 256].length ≤ 1000000 := (by rw [List.length_singleton]; omega); refine step_appQ (B := w8.heap.size) (by rfl) (.tmp 89) (.tmp 93) (by rfl) (by rfl) d1 (by rfl) d2 d4 d3 ?_; intro v11 w11 o11 h11 hk11 hv11; have g11 : Gr w8 w11 := Gr.thenB (a := w8) (Gr.trans g10 ((gr_alloc w10 _).alloc _)) h11; have HT11 : Hid (w11.heap[w10.heap.size]? = some (.cells #[.int .i64 0, .slice none 0 0, .slice none 0 0, .string ⟨#[]⟩] 26)) := Lib.hid ((hk11 _ (by simp; omega) (fun e => by have := (o10.blk _ e).2; omega)).trans (get_old (get_new' rfl))))
      | (go_at_call 34; (with_reducible refine (SI.out _ g11 _ o11.s).mono ?_); rintro e w12 ⟨p12, q12, x12, c12, f12, k12, rfl, _, _, _, g12a⟩; have g12 : Gr w8 w12 := Gr.trans g11 g12a; first | (have HT12 := Lib.hid (g12a.blk HT11.out); have x0 := blk_cell HT12.out (j := 0) rfl; have f0 := blk_frozen HT12.out 0; have x1 := blk_cell HT12.out (j := 1) rfl; have f1 := blk_frozen HT12.out 1; have x2 := blk_cell HT12.out (j := 2) rfl; have f2 := blk_frozen HT12.out 2; have x3 := blk_cell HT12.out (j := 3) rfl; have f3 := blk_frozen HT12.out 3) | skip)
      | (go_at_call 34; (with_reducible refine (SI.out _ (g11.alloc _) _ (IntS.kept o11.s (gr_alloc _ _))).mono ?_); rintro e w12 ⟨p12, q12, x12, c12, f12, k12, rfl, _, _, _, g12a⟩; have g12 : Gr w8 w12 := Gr.trans (g11.alloc _) g12a; have HT12 : Hid (w12.heap[w11.heap.size]? = some (.cells #[.int .i64 0, .slice none 0 0, .slice none 0 0, .string ⟨#[]⟩] 26)) := Lib.hid (g12a.blk (get_new' rfl)); have x0 := blk_cell HT12.out (j := 0) rfl; have f0 := blk_frozen HT12.out 0; have x1 := blk_cell HT12.out (j := 1) rfl; have f1 := blk_frozen HT12.out 1; have x2 := blk_cell HT12.out (j := 2) rfl; have f2 := blk_frozen HT12.out 2; have x3 := blk_cell HT12.out (j := 3) rfl; have f3 := blk_frozen HT12.out 3)
      | fail)
    all_goals
      go_wp2_with fail
      go_meet
      first
        | (with_reducible exact BhC.late rfl g12)
        | exact BhC.early HT12.out (by have := g10.sz; have := g11.sz; first | omega | simp) g12
  case rest =>
    obtain ⟨b9, k9, x9, c1, c2, c3, rfl, rfl, rfl, hb9, g9⟩ := hcut
    have s0 := blk_cell hb9 (j := 0) rfl
    go_wp2
    go_ret
    exact ⟨rfl, G8.trans g9⟩
end Go.Proofs.YtpdjibfcbjknhaaGreatDoor
