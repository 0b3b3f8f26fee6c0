/- Addresses, requests and logins out of bytes: the reference's walks. -/
import Derived.Test.YtpdjibfcbjknhaaGreatDoorRdrV
import Derived.Test.YtpdjibfcbjknhaaGreatDoorAppE
import Derived.Test.YtpdjibfcbjknhaaGreatDoorAdrG
import Derived.Test.YtpdjibfcbjknhaaGreatDoorGL
import Derived.Deep.RegionWith
import Derived.Deep.RegionLaw
import Derived.Deep.DeepCutAuto
namespace Go.Proofs.YtpdjibfcbjknhaaGreatDoor
open Go.RowKit
/-- append of something to an empty literal: a new block. -/
theorem appE1 {w : World} {m : Nat} (hb : w.heap[m]? = some (.cells #[] 3 (0, 0))) {x : Value} {ys : List Int} (hx : IntS w x ys) (hl : ys.length ≤ 1000000000) (hpos : 0 < ys.length) (ty : Nat) :
    ∃ p c w', (Builtin.append_ #[23, 23] ty #[.slice (some ⟨m, 0, none⟩) 0 0, x]).run Tryz.prog w = .ok (.slice p ys.length c) w' ∧ Gr w w' ∧ IntO w.heap.size 3 w' (.slice p ys.length c) ys := by
  obtain ⟨i, hi, hz, hs, hby⟩ := infoI
  have hmt : Own m 3 1 w (.slice (some ⟨m, 0, none⟩) 0 0) 0 (ints []) := ⟨rfl, .inr ⟨m, 0, #[], rfl, Nat.le_refl _, hb, Nat.le_refl _, by decide, by simp, by simp [ints]⟩⟩
  have hlt : m < w.heap.size := (Array.getElem?_eq_some_iff.1 hb).1
  obtain ⟨hl0, p, cap, rfl, c1, c2, c3, c4⟩ := hx
  cases p with
  | none => exact absurd (c3 rfl) (by omega)
  | some a =>
    obtain ⟨v', w', hr, q1, _, _, q4⟩ := run_append_own_at (P := Tryz.prog) w m 23 ty 3 i _ 1 8 uI hi hz hs hby rfl (by decide) _ 0 (ints []) hmt a ys.length cap (ints ys) (by rw [ints_length]; omega) (c4 a rfl) (ints_one _) (by unfold maxLen; omega) (by omega) (by omega)
    have hfit : Builtin.nextslicecap (0 + ys.length) 0 * i.bytes ≤ 281474976710656 := by
      have hc : Builtin.nextslicecap (0 + ys.length) 0 = ys.length := by
        unfold Builtin.nextslicecap
        simp
        intro h
        exact absurd h (by intro e; rw [e] at hpos; simp at hpos)
      rw [hc, hby]; omega
    have hg := run_append_grow (P := Tryz.prog) w 23 ty 3 i _ uI hi hz ⟨m, 0, none⟩ 0 0 [] (by simp) (by simp) a ys.length cap (ints ys) (by rw [ints_length, hs]; omega) (c4 a rfl) (by omega) (by omega) hfit
    rw [hr] at hg
    injection hg with e1 e2
    subst e1
    refine ⟨some ⟨w.heap.size, 0, none⟩, grownCap w (0 + ys.length) 0 3, w', by rw [hr, Nat.zero_add], by rw [e2]; exact ((Gr.refl w).drew).alloc _, ?_⟩
    generalize grownCap w (0 + ys.length) 0 3 = gc at *
    rw [Nat.zero_add] at q1
    have q1' : IntO m 3 w' (.slice (some ⟨w.heap.size, 0, none⟩) ys.length gc) ys := q1
    exact (OwnB.narrow (IntO.b q1') (b := w.heap.size) rfl).2.2.1
theorem step_appE1 {w : World} {ops : Array Oper} {o : Oper} {a : Act} {K : Act → World → Prop} {Q : Exit → Act → World → Prop} {E : Prop} (hgd : o.guard = none) (s x : Operand)
    (ho : o.op = .call { callee := .builtin .append, args := #[s, x], argTypes := #[23, 23] })
    {m : Nat} (hs : a.eval s = .slice (some ⟨m, 0, none⟩) 0 0) {xv : Value} {ys : List Int} (hx : a.eval x = xv) (hb : w.heap[m]? = some (.cells #[] 3 (0, 0))) (hrow : IntS w xv ys) (hl : ys.length ≤ 1000000000) (hpos : 0 < ys.length)
    (h : ∀ p c w', IntO w.heap.size 3 w' (.slice p ys.length c) ys → Gr w w' → K (a.put o.dst (.slice p ys.length c)) w') : if Region.wanted o (yielded ops a.tmps) = true then Oper.wp Tryz.prog o a w K Q else E := by
  have hw : Region.wanted o (yielded ops a.tmps) = true := by simp [Region.wanted, hgd]
  rw [if_pos hw]
  obtain ⟨p, c, w', hr, h2, h3⟩ := appE1 hb hrow hl hpos o.type
  unfold Oper.wp execOp
  simp only [ho, resolve, invoke, builtin, Sem.run_bind, Sem.run_pure, Result.andThen_ok, List.map_toArray, List.map_cons, List.map_nil, hs, hx, hr]
  exact h p c w' h3 h2
theorem ret_int' {a b : Int} (h : a = b) : Ending.returned (.int .i64 a) = .returned (.int .i64 b) := by rw [h]
set_option maxHeartbeats 1000000 in
theorem l3Size_c {w : World} {v : Value} {xs : List Int} (h : IntS w v xs) (hb : bytesOnly xs) :
    Calls Tryz.prog 183 #[v] w fun e w' => e = .returned (.int .i64 (aSize xs)) ∧ w = w' := by
  obtain ⟨p, cap, rfl, _, _⟩ := h.form
  by_cases h0 : 0 < xs.length
  · obtain ⟨a0, i0, c0⟩ := h.ixN rfl 0 0 rfl h0
    have h0' : (0 : Int) < (xs.length : Int) := by omega
    by_cases e1 : nth xs 0 = 1
    · have HA : Hid (aSize xs = 7) := Lib.hid (by unfold aSize; rw [if_pos ⟨h0, e1⟩])
      rw [e1] at c0
      clear e1
      go_enter Tryz.func183, Tryz.ntmps183
      go_wp2
      go_ret
      exact ⟨ret_int' HA.out.symm, rfl⟩
    · have e1' : (nth xs 0 == 1) = false := beq_eq_false_iff_ne.2 e1
      by_cases h1 : 1 < xs.length
      · obtain ⟨a1, i1, c1⟩ := h.ixN rfl 1 1 rfl h1
        have h1' : (1 : Int) < (xs.length : Int) := by omega
        have r1 := bytes_nth hb h1
        by_cases e3 : nth xs 0 = 3
        · have HA : Hid (aSize xs = 4 + nth xs 1) := Lib.hid (by unfold aSize; rw [if_neg (by omega), if_pos ⟨h1, e3⟩])
          have e3' : (nth xs 0 == 3) = true := beq_iff_eq.2 e3
          clear e1 e3
          generalize nth xs 0 = y0 at *
          generalize nth xs 1 = y1 at *
          obtain ⟨r1, r2⟩ := r1
          go_enter Tryz.func183, Tryz.ntmps183
          go_wp2
          go_ret
          exact ⟨ret_int' HA.out.symm, rfl⟩
        · have HA : Hid (aSize xs = -1) := Lib.hid (by unfold aSize; rw [if_neg (by omega), if_neg (by omega)])
          have e3' : (nth xs 0 == 3) = false := beq_eq_false_iff_ne.2 e3
          clear e1 e3 r1
          generalize nth xs 0 = y0 at *
          generalize nth xs 1 = y1 at *
          go_enter Tryz.func183, Tryz.ntmps183
          go_wp2
          go_ret
          exact ⟨ret_int' HA.out.symm, rfl⟩
      · have HA : Hid (aSize xs = -1) := Lib.hid (by unfold aSize; rw [if_neg (by omega), if_neg (by omega)])
        have h1' : ¬ (1 : Int) < (xs.length : Int) := by omega
        clear e1
        generalize nth xs 0 = y0 at *
        go_enter Tryz.func183, Tryz.ntmps183
        go_wp2
        go_ret
        exact ⟨ret_int' HA.out.symm, rfl⟩
  · have HA : Hid (aSize xs = -1) := Lib.hid (by unfold aSize; rw [if_neg (by omega), if_neg (by omega)])
    have h0' : ¬ (0 : Int) < (xs.length : Int) := by omega
    have h1' : ¬ (1 : Int) < (xs.length : Int) := by omega
    go_enter Tryz.func183, Tryz.ntmps183
    go_wp2
    go_ret
    exact ⟨ret_int' HA.out.symm, rfl⟩
/-- Bytes or not, a number. -/
theorem l3Size_any {w : World} {v : Value} {xs : List Int} (h : IntS w v xs) :
    Calls Tryz.prog 183 #[v] w fun e w' => (∃ r : Int, e = .returned (.int .i64 r) ∧ (bytesOnly xs → r = aSize xs)) ∧ w = w' := by
  by_cases hb : bytesOnly xs
  · refine (l3Size_c h hb).mono ?_
    rintro e w' ⟨rfl, rfl⟩
    exact ⟨⟨_, rfl, fun _ => rfl⟩, rfl⟩
  · obtain ⟨p, cap, rfl, _, _⟩ := h.form
    by_cases h0 : 0 < xs.length
    · obtain ⟨a0, i0, c0⟩ := h.ixN rfl 0 0 rfl h0
      have h0' : (0 : Int) < (xs.length : Int) := by omega
      have HB := Lib.hid hb
      clear hb
      cases e1 : (nth xs 0 == 1)
      · by_cases h1 : 1 < xs.length
        · obtain ⟨a1, i1, c1⟩ := h.ixN rfl 1 1 rfl h1
          have h1' : (1 : Int) < (xs.length : Int) := by omega
          cases e3 : (nth xs 0 == 3)
          · generalize nth xs 0 = y0 at *
            generalize nth xs 1 = y1 at *
            go_enter Tryz.func183, Tryz.ntmps183
            go_wp2
            go_ret
            exact ⟨⟨_, rfl, fun h => absurd h HB.out⟩, rfl⟩
          · generalize nth xs 0 = y0 at *
            generalize nth xs 1 = y1 at *
            go_enter Tryz.func183, Tryz.ntmps183
            go_wp2
            go_ret
            exact ⟨⟨_, rfl, fun h => absurd h HB.out⟩, rfl⟩
        · have h1' : ¬ (1 : Int) < (xs.length : Int) := by omega
          generalize nth xs 0 = y0 at *
          go_enter Tryz.func183, Tryz.ntmps183
          go_wp2
          go_ret
          exact ⟨⟨_, rfl, fun h => absurd h HB.out⟩, rfl⟩
      · generalize nth xs 0 = y0 at *
        go_enter Tryz.func183, Tryz.ntmps183
        go_wp2
        go_ret
        exact ⟨⟨_, rfl, fun h => absurd h HB.out⟩, rfl⟩
    · exact absurd (fun x hx => by rw [List.eq_nil_of_length_eq_zero (Nat.eq_zero_of_not_pos h0)] at hx; cases hx) hb
/-- What AddressOf hands back. -/
def AdO (xs : List Int) (w : World) (e : Ending) (w' : World) : Prop :=
  ∃ (k p n : Int) (qd : List Int) (nm : ByteArray) (ok : Bool) (q : Option Addr) (cq : Nat), e = .returned (.tuple #[.agg #[.int .i64 k, .slice q qd.length cq, .string nm, .int .i64 p], .int .i64 n, .bool ok]) ∧ ((∃ m : Nat, adrOfB xs = some (⟨k, qd, tx nm, p⟩, m) ∧ n = (m : Int) ∧ ok = true) ∨ (adrOfB xs = none ∧ ok = false)) ∧ IntO w.heap.size 3 w' (.slice q qd.length cq) qd ∧ Gr w w'
theorem AdO.no {xs : List Int} {w w' : World} (hn : adrOfB xs = none) (hg : Gr w w') : AdO xs w (.returned (.tuple #[.agg #[.int .i64 0, .slice none 0 0, .string ⟨#[]⟩, .int .i64 0], .int .i64 0, .bool false])) w' :=
  ⟨0, 0, 0, [], ⟨#[]⟩, false, none, 0, rfl, .inr ⟨hn, rfl⟩, IntO.nil _ _ _, hg⟩
theorem AdO.yes {xs : List Int} {w w' : World} {k p n : Int} {qd : List Int} {nm : ByteArray} {q : Option Addr} {cq m : Nat} (hn : adrOfB xs = some (⟨k, qd, tx nm, p⟩, m)) (he : n = (m : Int)) (ho : IntO w.heap.size 3 w' (.slice q qd.length cq) qd) (hg : Gr w w') :
    AdO xs w (.returned (.tuple #[.agg #[.int .i64 k, .slice q qd.length cq, .string nm, .int .i64 p], .int .i64 n, .bool true])) w' :=
  ⟨k, p, n, qd, nm, true, q, cq, rfl, .inl ⟨m, hn, he, rfl⟩, ho, hg⟩
/-- The variable with an address, its quad an empty literal. -/
def AoCell (w1 : World) (k p : Int) (u : Value) (wx : World) : Prop :=
  ∃ b m : Nat, u = .pointer (some ⟨b, 0, none⟩) ∧ w1.heap.size ≤ b ∧ w1.heap.size ≤ m ∧ b ≠ m ∧ wx.heap[b]? = some (.cells #[.int .i64 k, .slice (some ⟨m, 0, none⟩) 0 0, .string ⟨#[]⟩, .int .i64 p] 65 (0, 0)) ∧ wx.heap[m]? = some (.cells #[] 3 (0, 0)) ∧ Gr w1 wx
theorem IntO.ofMt {B m : Nat} {w : World} (hB : B ≤ m) (h : w.heap[m]? = some (.cells #[] 3 (0, 0))) : IntO B 3 w (.slice (some ⟨m, 0, none⟩) 0 0) [] := ⟨rfl, .inr ⟨m, 0, #[], rfl, hB, h, Nat.le_refl _, by decide, by simp, by simp [ints]⟩⟩
theorem AoCell.late {w1 W : World} {k p : Int} {m b : Nat} (hb : b = W.heap.size) (hm : W.heap[m]? = some (.cells #[] 3 (0, 0))) (h1 : w1.heap.size ≤ m) (g : Gr w1 W) :
    AoCell w1 k p (.pointer (some ⟨b, 0, none⟩)) (W.alloc (.cells #[.int .i64 k, .slice (some ⟨m, 0, none⟩) 0 0, .string ⟨#[]⟩, .int .i64 p] 65)) := by
  subst hb
  have hlt := (Array.getElem?_eq_some_iff.1 hm).1
  exact ⟨_, m, rfl, g.sz, h1, by omega, heap_alloc_new _ _, (gr_alloc _ _).blk hm, g.alloc _⟩
theorem AoCell.first {w1 : World} {k p : Int} :
    AoCell w1 k p (.pointer (some ⟨w1.heap.size, 0, none⟩)) ((w1.alloc (.cells #[.int .i64 k, .slice (some ⟨w1.heap.size + 1, 0, none⟩) 0 0, .string ⟨#[]⟩, .int .i64 p] 65)).alloc (.cells #[] 3)) := by
  have h1 := (gr_alloc (w1.alloc (.cells #[.int .i64 k, .slice (some ⟨w1.heap.size + 1, 0, none⟩) 0 0, .string ⟨#[]⟩, .int .i64 p] 65)) (.cells #[] 3)).blk (heap_alloc_new w1 (.cells #[.int .i64 k, .slice (some ⟨w1.heap.size + 1, 0, none⟩) 0 0, .string ⟨#[]⟩, .int .i64 p] 65))
  have h2 := heap_alloc_new (w1.alloc (.cells #[.int .i64 k, .slice (some ⟨w1.heap.size + 1, 0, none⟩) 0 0, .string ⟨#[]⟩, .int .i64 p] 65)) (.cells #[] 3)
  rw [show (w1.alloc (.cells #[.int .i64 k, .slice (some ⟨w1.heap.size + 1, 0, none⟩) 0 0, .string ⟨#[]⟩, .int .i64 p] 65)).heap.size = w1.heap.size + 1 by simp] at h2
  exact ⟨w1.heap.size, w1.heap.size + 1, rfl, Nat.le_refl _, by omega, by omega, h1, h2, (gr_alloc _ _).alloc _⟩
theorem AoCell.drew {w1 wx : World} {k p : Int} {u : Value} (h : AoCell w1 k p u wx) : AoCell w1 k p u wx.drew := by
  obtain ⟨b, m, h1, h2, h3, h4, h5, h6, h7⟩ := h
  exact ⟨b, m, h1, h2, h3, h4, h5, h6, h7.drew⟩
set_option maxRecDepth 20000 in
set_option maxHeartbeats 4000000 in
theorem specAddressOf_c {w : World} {v : Value} {xs : List Int} (h : IntS w v xs) (hlen : xs.length ≤ 1048576) :
    Calls Tryz.prog 165 #[v] w (AdO xs w) := by
  obtain ⟨p, cap, rfl, hl1, hl2⟩ := h.form
  have gA := gr_alloc w (.cells #[.int .i64 0, .slice none 0 0, .string ⟨#[]⟩, .int .i64 0] 65)
  have hA := heap_alloc_new w (.cells #[.int .i64 0, .slice none 0 0, .string ⟨#[]⟩, .int .i64 0] 65)
  have zA : w.heap.size + 1 ≤ (w.alloc (.cells #[.int .i64 0, .slice none 0 0, .string ⟨#[]⟩, .int .i64 0] 65)).heap.size := by simp
  have h0 := h.kept gA
  have HX : Hid (¬ (bv xs = true ∧ 0 ≤ aSize xs ∧ aSize xs ≤ xs.length ∧ adrOk (aAdr xs (aSize xs).toNat) = true) → adrOfB xs = none) := Lib.hid fun hc => by unfold adrOfB; rw [if_neg hc]
  cases hb : bv xs
  · have HN : Hid (adrOfB xs = none) := Lib.hid (HX.out (by rintro ⟨h1, _⟩; rw [hb] at h1; cases h1))
    have HB := Lib.hid hb
    clear hb HX
    go_enter Tryz.func165, Tryz.ntmps165
    go_wp2_with fail
    (with_reducible refine (l3Size_any h0).mono ?_); rintro e w1 ⟨⟨r, rfl, hr⟩, rfl⟩
    clear hr
    go_wp2_with fail
    (with_reducible refine (specBytesValid_c h0).mono ?_); rintro e w1 ⟨rfl, rfl⟩
    rw [HB.out]
    generalize w.alloc (.cells #[.int .i64 0, .slice none 0 0, .string ⟨#[]⟩, .int .i64 0] 65) = w0 at *
    have x0 := blk_cell hA (j := 0) rfl
    have x1 := blk_cell hA (j := 1) rfl
    have x2 := blk_cell hA (j := 2) rfl
    have x3 := blk_cell hA (j := 3) rfl
    have f0 := blk_frozen hA 0
    have f1 := blk_frozen hA 1
    have f2 := blk_frozen hA 2
    have f3 := blk_frozen hA 3
    go_wp2
    change bodyPost _ _ _ _ _ (put4 w0 w.heap.size (.int .i64 0) (.slice none 0 0) (.string ⟨#[]⟩) (.int .i64 0))
    have hW := put4_blk hA (.int .i64 0) (.slice none 0 0) (.string ⟨#[]⟩) (.int .i64 0)
    have cW := put4_chg w0 w.heap.size (.int .i64 0) (.slice none 0 0) (.string ⟨#[]⟩) (.int .i64 0)
    generalize put4 w0 w.heap.size (.int .i64 0) (.slice none 0 0) (.string ⟨#[]⟩) (.int .i64 0) = wz at *
    have y0 := blk_cell hW (j := 0) rfl
    have y1 := blk_cell hW (j := 1) rfl
    have y2 := blk_cell hW (j := 2) rfl
    have y3 := blk_cell hW (j := 3) rfl
    exact bodyPost_ret (v := .tuple #[.agg #[.int .i64 0, .slice none 0 0, .string ⟨#[]⟩, .int .i64 0], .int .i64 0, .bool false]) (by simp [results, Tryz.results165, go_sem, y0, y1, y2, y3]) rfl (AdO.no HN.out (cW.gr gA (Nat.le_refl _)))
  have hby := bv_bytes hb
  have HB := Lib.hid hb
  have LS := Lib.hid (l3Size_c h0 hby)
  by_cases hn0 : aSize xs < 0
  · have HN : Hid (adrOfB xs = none) := Lib.hid (HX.out (by rintro ⟨_, h1, _⟩; omega))
    clear hb HX hby
    generalize aSize xs = n at *
    go_enter Tryz.func165, Tryz.ntmps165
    go_wp2_with fail
    (with_reducible refine (LS.out).mono ?_); rintro e w1 ⟨rfl, rfl⟩
    go_wp2_with fail
    (with_reducible refine (specBytesValid_c h0).mono ?_); rintro e w1 ⟨rfl, rfl⟩
    rw [HB.out]
    generalize w.alloc (.cells #[.int .i64 0, .slice none 0 0, .string ⟨#[]⟩, .int .i64 0] 65) = w0 at *
    have x0 := blk_cell hA (j := 0) rfl
    have x1 := blk_cell hA (j := 1) rfl
    have x2 := blk_cell hA (j := 2) rfl
    have x3 := blk_cell hA (j := 3) rfl
    have f0 := blk_frozen hA 0
    have f1 := blk_frozen hA 1
    have f2 := blk_frozen hA 2
    have f3 := blk_frozen hA 3
    go_wp2
    change bodyPost _ _ _ _ _ (put4 w0 w.heap.size (.int .i64 0) (.slice none 0 0) (.string ⟨#[]⟩) (.int .i64 0))
    have hW := put4_blk hA (.int .i64 0) (.slice none 0 0) (.string ⟨#[]⟩) (.int .i64 0)
    have cW := put4_chg w0 w.heap.size (.int .i64 0) (.slice none 0 0) (.string ⟨#[]⟩) (.int .i64 0)
    generalize put4 w0 w.heap.size (.int .i64 0) (.slice none 0 0) (.string ⟨#[]⟩) (.int .i64 0) = wz at *
    have y0 := blk_cell hW (j := 0) rfl
    have y1 := blk_cell hW (j := 1) rfl
    have y2 := blk_cell hW (j := 2) rfl
    have y3 := blk_cell hW (j := 3) rfl
    exact bodyPost_ret (v := .tuple #[.agg #[.int .i64 0, .slice none 0 0, .string ⟨#[]⟩, .int .i64 0], .int .i64 0, .bool false]) (by simp [results, Tryz.results165, go_sem, y0, y1, y2, y3]) rfl (AdO.no HN.out (cW.gr gA (Nat.le_refl _)))
  by_cases hnl : (xs.length : Int) < aSize xs
  · have HN : Hid (adrOfB xs = none) := Lib.hid (HX.out (by rintro ⟨_, _, h1, _⟩; omega))
    clear hb HX hby
    generalize aSize xs = n at *
    go_enter Tryz.func165, Tryz.ntmps165
    go_wp2_with fail
    (with_reducible refine (LS.out).mono ?_); rintro e w1 ⟨rfl, rfl⟩
    go_wp2_with fail
    (with_reducible refine (specBytesValid_c h0).mono ?_); rintro e w1 ⟨rfl, rfl⟩
    rw [HB.out]
    generalize w.alloc (.cells #[.int .i64 0, .slice none 0 0, .string ⟨#[]⟩, .int .i64 0] 65) = w0 at *
    have x0 := blk_cell hA (j := 0) rfl
    have x1 := blk_cell hA (j := 1) rfl
    have x2 := blk_cell hA (j := 2) rfl
    have x3 := blk_cell hA (j := 3) rfl
    have f0 := blk_frozen hA 0
    have f1 := blk_frozen hA 1
    have f2 := blk_frozen hA 2
    have f3 := blk_frozen hA 3
    go_wp2
    change bodyPost _ _ _ _ _ (put4 w0 w.heap.size (.int .i64 0) (.slice none 0 0) (.string ⟨#[]⟩) (.int .i64 0))
    have hW := put4_blk hA (.int .i64 0) (.slice none 0 0) (.string ⟨#[]⟩) (.int .i64 0)
    have cW := put4_chg w0 w.heap.size (.int .i64 0) (.slice none 0 0) (.string ⟨#[]⟩) (.int .i64 0)
    generalize put4 w0 w.heap.size (.int .i64 0) (.slice none 0 0) (.string ⟨#[]⟩) (.int .i64 0) = wz at *
    have y0 := blk_cell hW (j := 0) rfl
    have y1 := blk_cell hW (j := 1) rfl
    have y2 := blk_cell hW (j := 2) rfl
    have y3 := blk_cell hW (j := 3) rfl
    exact bodyPost_ret (v := .tuple #[.agg #[.int .i64 0, .slice none 0 0, .string ⟨#[]⟩, .int .i64 0], .int .i64 0, .bool false]) (by simp [results, Tryz.results165, go_sem, y0, y1, y2, y3]) rfl (AdO.no HN.out (cW.gr gA (Nat.le_refl _)))
  obtain ⟨n, hn⟩ := Int.eq_ofNat_of_zero_le (show 0 ≤ aSize xs by omega)
  have hns := aSize_some hb (by omega)
  have h4 : 4 ≤ n := by rcases hns with ⟨_, _, e⟩ | ⟨_, _, _, _, e⟩ <;> omega
  have hnx : n ≤ xs.length := by omega
  obtain ⟨a0, x0, d0⟩ := h0.ixN rfl 0 0 rfl (by omega)
  obtain ⟨v1, hsl1, hr1⟩ := IntS.cutI h0 (lo := n - 2) (n := 2) (by omega) (a := (n : Int) - 2) (b := (n : Int)) (by omega) (by omega)
  have LO := Lib.hid (fun (W : World) (hW : IntS W v1 ((xs.drop (n - 2)).take 2)) => l1Of_c hW (bytes_take (bytes_drop hby _) _) (by rw [List.length_take]; omega))
  have HY : Hid (adrOk (aAdr xs n) = true → adrOfB xs = some (aAdr xs n, n)) := Lib.hid fun hk => by
    unfold adrOfB
    rw [hn, if_pos ⟨hb, by omega, by omega, by rw [Int.toNat_natCast]; exact hk⟩, Int.toNat_natCast]
  have HM : Hid (adrOk (aAdr xs n) = false → adrOfB xs = none) := Lib.hid fun hk => HX.out (by
    rintro ⟨_, _, _, h2⟩; rw [hn, Int.toNat_natCast, hk] at h2; cases h2)
  rw [hn] at LS hn0 hnl
  generalize hpo : numOf ((xs.drop (n - 2)).take 2) = po at *
  have HPO := Lib.hid hpo
  obtain ⟨nI, hnI⟩ : ∃ nI : Int, (n : Int) = nI := ⟨_, rfl⟩
  have HNI : Hid (nI = (n : Int)) := Lib.hid hnI.symm
  have hnk : (nth xs 0 = 1 ∧ n = 7) ∨ nth xs 0 = 3 := by rcases hns with ⟨_, e, f⟩ | ⟨_, e, _⟩ <;> omega
  have q1 : 4 ≤ nI := by omega
  have hwr : IntKind.i64.wrap (nI - 2) = nI - 2 := by rw [IntKind.wrap_i64]; omega
  have q2 : nI ≤ (xs.length : Int) := by omega
  rw [hnI] at LS hn0 hnl hsl1
  clear hpo hn hnI
  rcases hnk with ⟨hk, hk7⟩ | hk
  · have ha : aAdr xs n = ⟨1, (xs.drop 1).take 4, [], po⟩ := by unfold aAdr; rw [if_pos hk, HPO.out]
    have hql : ((xs.drop 1).take 4).length = 4 := by rw [List.length_take, List.length_drop]; omega
    obtain ⟨v2, hsl2, hr2⟩ := IntS.cutI h0 (lo := 1) (n := 4) (by omega) (a := 1) (b := 5) rfl rfl
    rw [ha] at HY HM
    rw [hk] at d0
    have HNO : Hid (adrOk ⟨1, (xs.drop 1).take 4, tx ⟨#[]⟩, po⟩ = false → adrOfB xs = none) := HM
    have HYES : Hid (adrOk ⟨1, (xs.drop 1).take 4, tx ⟨#[]⟩, po⟩ = true → adrOfB xs = some (⟨1, (xs.drop 1).take 4, tx ⟨#[]⟩, po⟩, n)) := HY
    have HQL := Lib.hid hql
    clear HX HY HM ha hk hb hby HPO hql hns
    generalize (xs.drop 1).take 4 = qd at *
    go_enter Tryz.func165, Tryz.ntmps165
    go_wp2_with fail
    (with_reducible refine (LS.out).mono ?_); rintro e w1 ⟨rfl, rfl⟩
    go_wp2_with fail
    (with_reducible refine (specBytesValid_c h0).mono ?_); rintro e w1 ⟨rfl, rfl⟩
    rw [HB.out]
    go_upto_region 4 with fail
    generalize w.alloc (.cells #[.int .i64 0, .slice none 0 0, .string ⟨#[]⟩, .int .i64 0] 65) = w0 at *
    have HA := Lib.hid hA
    clear hA
    go_cut [6] (fun u wx => AoCell w0 1 po u wx)
    case first =>
      have n1 : ∀ o, (w0.alloc o).cell? a0 = some (.int .i64 1) := fun o => (gr_alloc w0 o).cell d0
      have n2 : ∀ o o', ((w0.alloc o).alloc o').cell? a0 = some (.int .i64 1) := fun o o' => ((gr_alloc w0 o).alloc o').cell d0
      have e0 := heap_alloc_new w0 (.cells #[] 3)
      have E0 := Lib.hid e0
      have hb0 : w0.heap.size + 1 = (w0.alloc (.cells #[] 3)).heap.size := by simp
      have HB0 := Lib.hid hb0
      clear e0 hb0
      go_region_with (go_at_call 184; (with_reducible refine (LO.out _ (hr1.kept (by repeat (first | exact Gr.refl _ | refine Gr.drew ?_ | refine Gr.alloc ?_ _)))).mono ?_); rintro e w4 ⟨rfl, rfl⟩)
      all_goals
        go_wp2_with fail
        go_meet
        first
          | (with_reducible exact AoCell.drew (AoCell.late HB0.out E0.out (Nat.le_refl _) (gr_alloc _ _)))
          | (with_reducible exact AoCell.drew AoCell.first)
    case rest =>
      obtain ⟨b, m, rfl, hb1, hm1, hbm, hCb, hCm, g2⟩ := hcut
      have d2 := g2.cell d0
      have hr2' := hr2.kept g2
      have HC := Lib.hid hCb
      have HM := Lib.hid hCm
      have HB2 := Lib.hid (g2.blk HA.out)
      have G2 := gA.trans g2
      have hlb := (Array.getElem?_eq_some_iff.1 hCb).1
      have hqp : 0 < qd.length := by rw [HQL.out]; decide
      have hqm : qd.length ≤ 1000000000 := by rw [HQL.out]; decide
      clear hCb hCm g2 hr1 hr2 LO hsl1 d0
      go_upto_region 6 with fail
      have s1 := blk_cell HC.out (j := 1) rfl
      go_cut [] (fun wz => ∃ (q4 : Option Addr) (c4 : Nat), wz.heap[b]? = some (.cells #[.int .i64 1, .slice q4 qd.length c4, .string ⟨#[]⟩, .int .i64 po] 65 (0, 0)) ∧ IntO (w.heap.size + 1) 3 wz (.slice q4 qd.length c4) qd ∧ wz.heap[w.heap.size]? = some (.cells #[.int .i64 0, .slice none 0 0, .string ⟨#[]⟩, .int .i64 0] 65 (0, 0)) ∧ Gr w wz)
      case first =>
        go_region_law (first
          | (refine step_appE1 (by rfl) (.tmp 39) (.tmp 41) (by rfl) (by rfl) (by rfl) HM.out (hr2'.kept (by repeat (first | assumption | exact Gr.refl _ | refine Gr.drew ?_ | refine Gr.alloc ?_ _))) hqm hqp ?_; intro p7 c7 w7 o7 g7a; have g7 : Gr wc w7 := Gr.trans (by repeat (first | assumption | exact Gr.refl _ | refine Gr.drew ?_ | refine Gr.alloc ?_ _)) g7a; have HX7 := Lib.hid (g7.blk HC.out); have x1 := blk_cell HX7.out (j := 1) rfl; have f1 := blk_frozen HX7.out 1) | fail)
        all_goals
          go_wp2_with fail
          go_meet
          have dS := D.set (D.refl b w7) 1 (.slice p7 qd.length c7)
          have i7 : IntO wc.heap.size 3 w7 (.slice p7 qd.length c7) qd := o7
          exact ⟨p7, c7, heap_set (j := 1) HX7.out, (i7.keptD dS hlb).mono (by omega), (dS.blk (g7.blk HB2.out) (by omega)), dS.gr (G2.trans g7) (by omega)⟩
      case rest =>
        obtain ⟨q4, c4, hC8, o8, hB8, G8⟩ := hcut
        have HC8 := Lib.hid hC8
        have HB8 := Lib.hid hB8
        have hnm : (⟨#[]⟩ : ByteArray).size ≤ 2000000 := by decide
        clear hC8 hB8 G2 HB2 HM HC hr2' d2 s1 hsl2
        have s0 := blk_cell HC8.out (j := 0) rfl
        have s1 := blk_cell HC8.out (j := 1) rfl
        have s2 := blk_cell HC8.out (j := 2) rfl
        have s3 := blk_cell HC8.out (j := 3) rfl
        cases hok : adrOk ⟨1, qd, tx ⟨#[]⟩, po⟩
        · have HN : Hid (adrOfB xs = none) := Lib.hid (HNO.out hok)
          have HOK := Lib.hid hok
          clear hok HNO HYES
          go_wp2_with fail
          (with_reducible refine (AddressValid_c 1 po ⟨#[]⟩ o8.s hnm).mono ?_); rintro e w9 ⟨rfl, g9⟩
          rw [HOK.out]
          have HB9 := Lib.hid (g9.blk HB8.out)
          have G9 := G8.trans g9
          clear s0 s1 s2 s3
          have x0 := blk_cell HB9.out (j := 0) rfl
          have x1 := blk_cell HB9.out (j := 1) rfl
          have x2 := blk_cell HB9.out (j := 2) rfl
          have x3 := blk_cell HB9.out (j := 3) rfl
          have f0 := blk_frozen HB9.out 0
          have f1 := blk_frozen HB9.out 1
          have f2 := blk_frozen HB9.out 2
          have f3 := blk_frozen HB9.out 3
          go_wp2
          change bodyPost _ _ _ _ _ (put4 w9 w.heap.size (.int .i64 0) (.slice none 0 0) (.string ⟨#[]⟩) (.int .i64 0))
          have hW := put4_blk HB9.out (.int .i64 0) (.slice none 0 0) (.string ⟨#[]⟩) (.int .i64 0)
          have cW := put4_chg w9 w.heap.size (.int .i64 0) (.slice none 0 0) (.string ⟨#[]⟩) (.int .i64 0)
          generalize put4 w9 w.heap.size (.int .i64 0) (.slice none 0 0) (.string ⟨#[]⟩) (.int .i64 0) = wz at *
          have y0 := blk_cell hW (j := 0) rfl
          have y1 := blk_cell hW (j := 1) rfl
          have y2 := blk_cell hW (j := 2) rfl
          have y3 := blk_cell hW (j := 3) rfl
          exact bodyPost_ret (v := .tuple #[.agg #[.int .i64 0, .slice none 0 0, .string ⟨#[]⟩, .int .i64 0], .int .i64 0, .bool false]) (by simp [results, Tryz.results165, go_sem, y0, y1, y2, y3]) rfl (AdO.no HN.out (cW.gr G9 (Nat.le_refl _)))
        · have HN := Lib.hid (HYES.out hok)
          have HOK := Lib.hid hok
          clear hok HNO HYES
          go_wp2_with fail
          (with_reducible refine (AddressValid_c 1 po ⟨#[]⟩ o8.s hnm).mono ?_); rintro e w9 ⟨rfl, g9⟩
          rw [HOK.out]
          have HB9 := Lib.hid (g9.blk HB8.out)
          have HC9 := Lib.hid (g9.blk HC8.out)
          have G9 := G8.trans g9
          have o9 := IntO.kept o8 g9
          clear s0 s1 s2 s3
          have s0 := blk_cell HC9.out (j := 0) rfl
          have s1 := blk_cell HC9.out (j := 1) rfl
          have s2 := blk_cell HC9.out (j := 2) rfl
          have s3 := blk_cell HC9.out (j := 3) rfl
          have x0 := blk_cell HB9.out (j := 0) rfl
          have x1 := blk_cell HB9.out (j := 1) rfl
          have x2 := blk_cell HB9.out (j := 2) rfl
          have x3 := blk_cell HB9.out (j := 3) rfl
          have f0 := blk_frozen HB9.out 0
          have f1 := blk_frozen HB9.out 1
          have f2 := blk_frozen HB9.out 2
          have f3 := blk_frozen HB9.out 3
          go_wp2
          change bodyPost _ _ _ _ _ (put4 w9 w.heap.size (.int .i64 1) (.slice q4 (qd).length c4) (.string ⟨#[]⟩) (.int .i64 po))
          have hW := put4_blk HB9.out (.int .i64 1) (.slice q4 (qd).length c4) (.string ⟨#[]⟩) (.int .i64 po)
          have cW := put4_chg w9 w.heap.size (.int .i64 1) (.slice q4 (qd).length c4) (.string ⟨#[]⟩) (.int .i64 po)
          generalize put4 w9 w.heap.size (.int .i64 1) (.slice q4 (qd).length c4) (.string ⟨#[]⟩) (.int .i64 po) = wz at *
          have y0 := blk_cell hW (j := 0) rfl
          have y1 := blk_cell hW (j := 1) rfl
          have y2 := blk_cell hW (j := 2) rfl
          have y3 := blk_cell hW (j := 3) rfl
          exact bodyPost_ret (v := .tuple #[.agg #[.int .i64 1, .slice q4 (qd).length c4, .string ⟨#[]⟩, .int .i64 po], .int .i64 nI, .bool true]) (by simp [results, Tryz.results165, go_sem, y0, y1, y2, y3]) rfl (AdO.yes HN.out HNI.out (IntO.mono (IntB.chg o9.b cW (.inr (Nat.le_refl _))).o (by omega)) (cW.gr G9 (Nat.le_refl _)))
  · have hn3 : nth xs 0 ≠ 1 := by omega
    have ha : aAdr xs n = ⟨3, [], bt ((xs.drop 2).take (n - 4)), po⟩ := by unfold aAdr; rw [if_neg hn3, HPO.out]
    obtain ⟨v2, hsl2, hr2⟩ := IntS.cutI h0 (lo := 2) (n := n - 4) (by omega) (a := 2) (b := nI - 2) rfl (by have := HNI.out; omega)
    have LB := Lib.hid (fun (W : World) (hW : IntS W v2 ((xs.drop 2).take (n - 4))) => l1Bytes_c hW (bytes_take (bytes_drop hby _) _) (by rw [List.length_take]; omega))
    have hnl2 : (S (bt ((xs.drop 2).take (n - 4)))).size ≤ 2000000 := by rw [S_len, bt_len, List.length_take]; omega
    rw [ha] at HY HM
    rw [hk] at d0
    obtain ⟨nm, hnme⟩ : ∃ nm, S (bt ((xs.drop 2).take (n - 4))) = nm := ⟨_, rfl⟩
    have htxn : bt ((xs.drop 2).take (n - 4)) = tx nm := by rw [← hnme, tx_S]
    rw [htxn] at HY HM
    rw [hnme] at hnl2 LB
    have hnm : nm.size ≤ 2000000 := hnl2
    have HNO := HM
    have HYES := HY
    clear HX HY HM ha hk hb hby HPO hn3 hnl2 htxn hnme hns
    generalize (xs.drop 2).take (n - 4) = ys at *
    go_enter Tryz.func165, Tryz.ntmps165
    go_wp2_with fail
    (with_reducible refine (LS.out).mono ?_); rintro e w1 ⟨rfl, rfl⟩
    go_wp2_with fail
    (with_reducible refine (specBytesValid_c h0).mono ?_); rintro e w1 ⟨rfl, rfl⟩
    rw [HB.out]
    go_upto_region 4 with fail
    generalize w.alloc (.cells #[.int .i64 0, .slice none 0 0, .string ⟨#[]⟩, .int .i64 0] 65) = w0 at *
    have HA := Lib.hid hA
    clear hA
    go_cut [6] (fun u wx => AoCell w0 3 po u wx)
    case first =>
      have n1 : ∀ o, (w0.alloc o).cell? a0 = some (.int .i64 3) := fun o => (gr_alloc w0 o).cell d0
      have n2 : ∀ o o', ((w0.alloc o).alloc o').cell? a0 = some (.int .i64 3) := fun o o' => ((gr_alloc w0 o).alloc o').cell d0
      have e0 := heap_alloc_new w0 (.cells #[] 3)
      have E0 := Lib.hid e0
      have hb0 : w0.heap.size + 1 = (w0.alloc (.cells #[] 3)).heap.size := by simp
      have HB0 := Lib.hid hb0
      clear e0 hb0
      go_region_with (go_at_call 184; (with_reducible refine (LO.out _ (hr1.kept (by repeat (first | exact Gr.refl _ | refine Gr.drew ?_ | refine Gr.alloc ?_ _)))).mono ?_); rintro e w4 ⟨rfl, rfl⟩)
      all_goals
        go_wp2_with fail
        go_meet
        first
          | (with_reducible exact AoCell.drew (AoCell.late HB0.out E0.out (Nat.le_refl _) (gr_alloc _ _)))
          | (with_reducible exact AoCell.drew AoCell.first)
    case rest =>
      obtain ⟨b, m, rfl, hb1, hm1, hbm, hCb, hCm, g2⟩ := hcut
      have d2 := g2.cell d0
      have hr2' := hr2.kept g2
      have HC := Lib.hid hCb
      have HM := Lib.hid hCm
      have HB2 := Lib.hid (g2.blk HA.out)
      have G2 := gA.trans g2
      have hlb := (Array.getElem?_eq_some_iff.1 hCb).1
      clear hCb hCm g2 hr1 hr2 LO hsl1 d0
      go_wp2_with fail
      (with_reducible refine (LB.out _ hr2').mono ?_); rintro e w7 ⟨rfl, g7⟩
      have HC7 := Lib.hid (g7.blk HC.out)
      have HM7 := Lib.hid (g7.blk HM.out)
      have HB7 := Lib.hid (g7.blk HB2.out)
      have G7 := G2.trans g7
      clear HC HM HB2 G2 LB hr2'
      have x2 := blk_cell HC7.out (j := 2) rfl
      have f2 := blk_frozen HC7.out 2
      go_upto_region 8 with fail
      have dS := D.set (D.refl b w7) 2 (.string nm)
      have hC8 := heap_set (j := 2) (x := .string nm) HC7.out
      generalize w7.setCell ⟨b, 2, none⟩ (.string nm) = w8 at *
      have HC8 : Hid (w8.heap[b]? = some (.cells #[.int .i64 3, .slice (some ⟨m, 0, none⟩) 0 0, .string nm, .int .i64 po] 65 (0, 0))) := hC8
      have HB8 := Lib.hid (dS.blk HB7.out (by omega))
      have o8 : IntO (w.heap.size + 1) 3 w8 (.slice (some ⟨m, 0, none⟩) 0 0) [] := IntO.ofMt (by omega) (dS.blk HM7.out (by omega))
      have G8 : Gr w w8 := dS.gr G7 (by omega)
      clear x2 f2 dS hC8 HB7 HM7 HC7 G7 d2
      have s0 := blk_cell HC8.out (j := 0) rfl
      have s1 := blk_cell HC8.out (j := 1) rfl
      have s2 := blk_cell HC8.out (j := 2) rfl
      have s3 := blk_cell HC8.out (j := 3) rfl
      cases hok : adrOk ⟨3, ([] : List Int), tx nm, po⟩
      · have HN : Hid (adrOfB xs = none) := Lib.hid (HNO.out hok)
        have HOK := Lib.hid hok
        clear hok HNO HYES
        go_wp2_with fail
        (with_reducible refine (AddressValid_c 3 po nm o8.s hnm).mono ?_); rintro e w9 ⟨rfl, g9⟩
        rw [HOK.out]
        have HB9 := Lib.hid (g9.blk HB8.out)
        have G9 := G8.trans g9
        clear s0 s1 s2 s3
        have x0 := blk_cell HB9.out (j := 0) rfl
        have x1 := blk_cell HB9.out (j := 1) rfl
        have x2 := blk_cell HB9.out (j := 2) rfl
        have x3 := blk_cell HB9.out (j := 3) rfl
        have f0 := blk_frozen HB9.out 0
        have f1 := blk_frozen HB9.out 1
        have f2 := blk_frozen HB9.out 2
        have f3 := blk_frozen HB9.out 3
        go_wp2
        change bodyPost _ _ _ _ _ (put4 w9 w.heap.size (.int .i64 0) (.slice none 0 0) (.string ⟨#[]⟩) (.int .i64 0))
        have hW := put4_blk HB9.out (.int .i64 0) (.slice none 0 0) (.string ⟨#[]⟩) (.int .i64 0)
        have cW := put4_chg w9 w.heap.size (.int .i64 0) (.slice none 0 0) (.string ⟨#[]⟩) (.int .i64 0)
        generalize put4 w9 w.heap.size (.int .i64 0) (.slice none 0 0) (.string ⟨#[]⟩) (.int .i64 0) = wz at *
        have y0 := blk_cell hW (j := 0) rfl
        have y1 := blk_cell hW (j := 1) rfl
        have y2 := blk_cell hW (j := 2) rfl
        have y3 := blk_cell hW (j := 3) rfl
        exact bodyPost_ret (v := .tuple #[.agg #[.int .i64 0, .slice none 0 0, .string ⟨#[]⟩, .int .i64 0], .int .i64 0, .bool false]) (by simp [results, Tryz.results165, go_sem, y0, y1, y2, y3]) rfl (AdO.no HN.out (cW.gr G9 (Nat.le_refl _)))
      · have HN := Lib.hid (HYES.out hok)
        have HOK := Lib.hid hok
        clear hok HNO HYES
        go_wp2_with fail
        (with_reducible refine (AddressValid_c 3 po nm o8.s hnm).mono ?_); rintro e w9 ⟨rfl, g9⟩
        rw [HOK.out]
        have HB9 := Lib.hid (g9.blk HB8.out)
        have HC9 := Lib.hid (g9.blk HC8.out)
        have G9 := G8.trans g9
        have o9 := IntO.kept o8 g9
        clear s0 s1 s2 s3
        have s0 := blk_cell HC9.out (j := 0) rfl
        have s1 := blk_cell HC9.out (j := 1) rfl
        have s2 := blk_cell HC9.out (j := 2) rfl
        have s3 := blk_cell HC9.out (j := 3) rfl
        have x0 := blk_cell HB9.out (j := 0) rfl
        have x1 := blk_cell HB9.out (j := 1) rfl
        have x2 := blk_cell HB9.out (j := 2) rfl
        have x3 := blk_cell HB9.out (j := 3) rfl
        have f0 := blk_frozen HB9.out 0
        have f1 := blk_frozen HB9.out 1
        have f2 := blk_frozen HB9.out 2
        have f3 := blk_frozen HB9.out 3
        go_wp2
        change bodyPost _ _ _ _ _ (put4 w9 w.heap.size (.int .i64 3) (.slice (some ⟨m, 0, none⟩) (([] : List Int)).length 0) (.string nm) (.int .i64 po))
        have hW := put4_blk HB9.out (.int .i64 3) (.slice (some ⟨m, 0, none⟩) (([] : List Int)).length 0) (.string nm) (.int .i64 po)
        have cW := put4_chg w9 w.heap.size (.int .i64 3) (.slice (some ⟨m, 0, none⟩) (([] : List Int)).length 0) (.string nm) (.int .i64 po)
        generalize put4 w9 w.heap.size (.int .i64 3) (.slice (some ⟨m, 0, none⟩) (([] : List Int)).length 0) (.string nm) (.int .i64 po) = wz at *
        have y0 := blk_cell hW (j := 0) rfl
        have y1 := blk_cell hW (j := 1) rfl
        have y2 := blk_cell hW (j := 2) rfl
        have y3 := blk_cell hW (j := 3) rfl
        exact bodyPost_ret (v := .tuple #[.agg #[.int .i64 3, .slice (some ⟨m, 0, none⟩) (([] : List Int)).length 0, .string nm, .int .i64 po], .int .i64 nI, .bool true]) (by simp [results, Tryz.results165, go_sem, y0, y1, y2, y3]) rfl (AdO.yes HN.out HNI.out (IntO.mono (IntB.chg o9.b cW (.inr (Nat.le_refl _))).o (by omega)) (cW.gr G9 (Nat.le_refl _)))
end Go.Proofs.YtpdjibfcbjknhaaGreatDoor
