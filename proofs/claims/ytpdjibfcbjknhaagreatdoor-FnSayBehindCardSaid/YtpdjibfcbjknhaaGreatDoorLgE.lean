/- Methods picked, logins that fit, and what is said to them: both ways. -/
import Derived.Test.YtpdjibfcbjknhaaGreatDoorGV
import Derived.Test.YtpdjibfcbjknhaaGreatDoorGW
import Derived.Laws.StructEq
import Derived.Deep.RegionHeld3
namespace Go.Proofs.YtpdjibfcbjknhaaGreatDoor
open Go.RowKit
theorem ret_i {a b : Int} (h : a = b) : Ending.returned (.int .i64 a) = .returned (.int .i64 b) := by rw [h]
theorem pick_bad {ws ms : List Int} (h : methOk ws = false ∨ methOk ms = false) : helloPick ws ms = 255 := by
  unfold helloPick
  rw [if_neg (by rintro ⟨h1, h2⟩; rcases h with h | h <;> simp_all)]
theorem pick_hit {ws ms : List Int} {k : Nat} (h1 : methOk ws = true) (h2 : methOk ms = true) (hk : k < ws.length) (hall : ∀ j, j < k → hasI ms (nth ws j) = false) (hh : hasI ms (nth ws k) = true) : helloPick ws ms = nth ws k := by
  have e : ws.find? (fun m => hasI ms m) = some (nth ws k) := by
    rw [List.find?_eq_some_iff_append]
    refine ⟨hh, ws.take k, ws.drop (k+1), ?_, fun a ha => ?_⟩
    · rw [nth_eq hk, ← List.drop_eq_getElem_cons hk, List.take_append_drop]
    · obtain ⟨j, hj, rfl⟩ := List.getElem_of_mem ha
      rw [List.length_take] at hj
      have := hall j (by omega)
      rw [nth_eq (by omega)] at this
      rw [List.getElem_take, this]; rfl
  unfold helloPick
  rw [if_pos ⟨h1, h2⟩, e]
theorem pick_miss {ws ms : List Int} (hall : ∀ j, j < ws.length → hasI ms (nth ws j) = false) : helloPick ws ms = 255 := by
  have e : ws.find? (fun m => hasI ms m) = none := by
    rw [List.find?_eq_none]
    intro a ha
    obtain ⟨j, hj, rfl⟩ := List.getElem_of_mem ha
    have := hall j hj
    rw [nth_eq hj] at this
    simp [this]
  unfold helloPick
  rw [e]
  split <;> rfl
set_option maxHeartbeats 1000000 in
theorem specHelloPick_c {w : World} {v u : Value} {ws ms : List Int} (h : IntS w v ws) (h2 : IntS w u ms) :
    Calls Tryz.prog 114 #[v, u] w fun e w' => e = .returned (.int .i64 (helloPick ws ms)) ∧ Gr w w' := by
  obtain ⟨p, cap, rfl, _, _⟩ := h.form
  obtain ⟨q, caq, rfl, _, _⟩ := h2.form
  cases k1 : methOk ws
  · have HF : Hid (helloPick ws ms = 255) := pick_bad (.inl k1)
    have K1 := Lib.hid k1
    clear k1
    go_enter Tryz.func114, Tryz.ntmps114
    go_wp2_with fail
    (with_reducible refine (l5Ok_c h).mono ?_); rintro e w1 ⟨rfl, g1⟩
    rw [K1.out]
    go_wp2
    go_ret
    exact ⟨ret_i HF.out.symm, g1⟩
  cases k2 : methOk ms
  · have HF : Hid (helloPick ws ms = 255) := pick_bad (.inr k2)
    have K1 := Lib.hid k1
    have K2 := Lib.hid k2
    clear k1 k2
    go_enter Tryz.func114, Tryz.ntmps114
    go_wp2_with fail
    (with_reducible refine (l5Ok_c h).mono ?_); rintro e w1 ⟨rfl, g1⟩
    rw [K1.out]
    go_wp2_with fail
    (with_reducible refine (l5Ok_c (h2.kept g1)).mono ?_); rintro e w2 ⟨rfl, g2⟩
    rw [K2.out]
    go_wp2
    go_ret
    exact ⟨ret_i HF.out.symm, g1.trans g2⟩
  have HIT := Lib.hid (fun (k : Nat) (hk : k < ws.length) => pick_hit (k := k) k1 k2 hk)
  have K1 := Lib.hid k1
  have K2 := Lib.hid k2
  clear k1 k2
  go_enter Tryz.func114, Tryz.ntmps114
  go_wp2_with fail
  (with_reducible refine (l5Ok_c h).mono ?_); rintro e w1 ⟨rfl, g1⟩
  rw [K1.out]
  go_wp2_with fail
  (with_reducible refine (l5Ok_c (h2.kept g1)).mono ?_); rintro e w2 ⟨rfl, g2⟩
  rw [K2.out]
  have G2 := g1.trans g2
  have h' := h.kept G2
  have h2' := h2.kept G2
  clear g1 g2
  go_wp2_with fail
  go_loop [5] (fun i => ∃ k : Nat, k ≤ ws.length ∧ i = .int .i64 k ∧ Hid (∀ j, j < k → hasI ms (nth ws j) = false)) (fun i => ws.length - (intOf i).toNat)
  case atStart => exact ⟨0, Nat.zero_le _, rfl, fun j hj => by omega⟩
  case round =>
    obtain ⟨k, hk, rfl, hall⟩ := hrel
    by_cases hlt : k < ws.length
    · obtain ⟨a, hix, hca⟩ := h'.ix hlt
      have HY := Lib.hid (HIT.out k hlt hall.out)
      obtain ⟨y, hy⟩ : ∃ y, nth ws k = y := ⟨_, rfl⟩
      rw [hy] at hca HY
      have HYE := Lib.hid hy
      clear hy
      cases hb : hasI ms y
      · have HB := Lib.hid hb
        clear hb HY
        go_wp2_with fail
        (with_reducible refine (l5Has_c _ h2').mono ?_); rintro e w3 ⟨rfl, rfl⟩
        rw [HB.out]
        go_wp2
        go_round
        case rel =>
          refine ⟨k+1, by omega, by go_num, fun j hj => ?_⟩
          by_cases e : j = k
          · rw [e, HYE.out]; exact HB.out
          · exact hall.out j (by omega)
        case measure => simp [intOf]; omega
      · have HB := Lib.hid hb
        have HE := Lib.hid (HY.out hb)
        clear hb HY
        go_wp2_with fail
        (with_reducible refine (l5Has_c _ h2').mono ?_); rintro e w3 ⟨rfl, rfl⟩
        rw [HB.out]
        go_wp2
        go_ret
        exact ⟨ret_i HE.out.symm, G2⟩
    · have HF : Hid (helloPick ws ms = 255) := pick_miss (fun j hj => hall.out j (by omega))
      go_wp2
      go_ret
      exact ⟨ret_i HF.out.symm, G2⟩
set_option maxHeartbeats 1000000 in
theorem implHelloPick_c {w : World} {v u : Value} {ws ms : List Int} (h : IntS w v ws) (h2 : IntS w u ms) :
    Calls Tryz.prog 41 #[v, u] w fun e w' => e = .returned (.int .i64 (helloPick ws ms)) ∧ w = w' := by
  obtain ⟨p, cap, rfl, _, _⟩ := h.form
  obtain ⟨q, caq, rfl, _, _⟩ := h2.form
  cases k1 : methOk ws
  · have HF : Hid (helloPick ws ms = 255) := pick_bad (.inl k1)
    have K1 := Lib.hid k1
    clear k1
    go_enter Tryz.func41, Tryz.ntmps41
    go_wp2_with fail
    (with_reducible refine (areMethods_c h).mono ?_); rintro e w1 ⟨rfl, rfl⟩
    rw [K1.out]
    go_wp2
    go_ret
    exact ⟨ret_i HF.out.symm, rfl⟩
  cases k2 : methOk ms
  · have HF : Hid (helloPick ws ms = 255) := pick_bad (.inr k2)
    have K1 := Lib.hid k1
    have K2 := Lib.hid k2
    clear k1 k2
    go_enter Tryz.func41, Tryz.ntmps41
    go_wp2_with fail
    (with_reducible refine (areMethods_c h).mono ?_); rintro e w1 ⟨rfl, rfl⟩
    rw [K1.out]
    go_wp2_with fail
    (with_reducible refine (areMethods_c h2).mono ?_); rintro e w2 ⟨rfl, rfl⟩
    rw [K2.out]
    go_wp2
    go_ret
    exact ⟨ret_i HF.out.symm, rfl⟩
  have HIT := Lib.hid (fun (k : Nat) (hk : k < ws.length) => pick_hit (k := k) k1 k2 hk)
  have K1 := Lib.hid k1
  have K2 := Lib.hid k2
  clear k1 k2
  go_enter Tryz.func41, Tryz.ntmps41
  go_wp2_with fail
  (with_reducible refine (areMethods_c h).mono ?_); rintro e w1 ⟨rfl, rfl⟩
  rw [K1.out]
  go_wp2_with fail
  (with_reducible refine (areMethods_c h2).mono ?_); rintro e w2 ⟨rfl, rfl⟩
  rw [K2.out]
  go_wp2_with fail
  go_loop [17] (fun i => ∃ k : Nat, k ≤ ws.length ∧ i = .int .i64 k ∧ Hid (∀ j, j < k → hasI ms (nth ws j) = false)) (fun i => ws.length - (intOf i).toNat)
  case atStart => exact ⟨0, Nat.zero_le _, rfl, fun j hj => by omega⟩
  case round =>
    obtain ⟨k, hk, rfl, hall⟩ := hrel
    by_cases hlt : k < ws.length
    · obtain ⟨a, hix, hca⟩ := h.ix hlt
      have HY := Lib.hid (HIT.out k hlt hall.out)
      obtain ⟨y, hy⟩ : ∃ y, nth ws k = y := ⟨_, rfl⟩
      rw [hy] at hca HY
      have HYE := Lib.hid hy
      clear hy
      cases hb : hasI ms y
      · have HB := Lib.hid hb
        clear hb HY
        go_wp2_with fail
        (with_reducible refine (ContainsI_c _ h2).mono ?_); rintro e w3 ⟨rfl, rfl⟩
        rw [HB.out]
        go_wp2
        go_round
        case rel =>
          refine ⟨k+1, by omega, by go_num, fun j hj => ?_⟩
          by_cases e : j = k
          · rw [e, HYE.out]; exact HB.out
          · exact hall.out j (by omega)
        case measure => simp [intOf]; omega
      · have HB := Lib.hid hb
        have HE := Lib.hid (HY.out hb)
        clear hb HY
        go_wp2_with fail
        (with_reducible refine (ContainsI_c _ h2).mono ?_); rintro e w3 ⟨rfl, rfl⟩
        rw [HB.out]
        go_wp2
        go_ret
        exact ⟨ret_i HE.out.symm, rfl⟩
    · have HF : Hid (helloPick ws ms = 255) := pick_miss (fun j hj => hall.out j (by omega))
      go_wp2
      go_ret
      exact ⟨ret_i HF.out.symm, rfl⟩
theorem specPickBytes_c (w : World) (m : Int) (h : Hid (inB 0 255 m = true)) :
    Calls Tryz.prog 115 #[.int .i64 m] w fun e w' => ∃ v', e = .returned (.tuple #[v', .bool true]) ∧ IntO w.heap.size 3 w' v' [5, m] ∧ Gr w w' := by
  go_enter Tryz.func115, Tryz.ntmps115
  go_wp2_with fail
  (with_reducible refine (l6In_c _ _ _ _).mono ?_); rintro e w1 ⟨rfl, rfl⟩
  rw [h.out]
  go_wp2
  go_ret2
  exact ⟨_, rfl, IntO.two rfl, gr_alloc _ _⟩
theorem implPickBytes_c (w : World) (m : Int) (h : Hid (inB 0 255 m = true)) :
    Calls Tryz.prog 40 #[.int .i64 m] w fun e w' => ∃ v', e = .returned (.tuple #[v', .bool true]) ∧ IntO w.heap.size 3 w' v' [5, m] ∧ Gr w w' := by
  go_enter Tryz.func40, Tryz.ntmps40
  go_wp2_with fail
  (with_reducible refine (within_c _ _ _ _).mono ?_); rintro e w1 ⟨rfl, rfl⟩
  rw [h.out]
  go_wp2
  go_ret2
  exact ⟨_, rfl, IntO.two rfl, gr_alloc _ _⟩
theorem specLoginReply_c (w : World) (b : Bool) :
    Calls Tryz.prog 118 #[.bool b] w fun e w' => ∃ v', e = .returned v' ∧ IntO w.heap.size 3 w' v' (loginReply b) ∧ Gr w w' := by
  cases b
  · go_enter Tryz.func118, Tryz.ntmps118
    go_wp2
    go_ret
    exact ⟨_, rfl, IntO.two rfl, gr_alloc _ _⟩
  · go_enter Tryz.func118, Tryz.ntmps118
    go_wp2
    go_ret
    exact ⟨_, rfl, IntO.two rfl, gr_alloc _ _⟩
theorem implLoginReply_c (w : World) (b : Bool) :
    Calls Tryz.prog 44 #[.bool b] w fun e w' => ∃ v', e = .returned v' ∧ IntO w.heap.size 3 w' v' (loginReply b) ∧ Gr w w' := by
  cases b
  · go_enter Tryz.func44, Tryz.ntmps44
    go_wp2
    go_ret
    exact ⟨_, rfl, IntO.two rfl, gr_alloc _ _⟩
  · go_enter Tryz.func44, Tryz.ntmps44
    go_wp2
    go_ret
    exact ⟨_, rfl, IntO.two rfl, gr_alloc _ _⟩
theorem tlS (a : Tx) (u : ByteArray) : ((S a).toList == u.toList) = (a == tx u) := by
  rw [ByteArray.toList_eq, ByteArray.toList_eq]; rfl
theorem tlS' (a : Tx) (u : ByteArray) : (u.toList == (S a).toList) = (a == tx u) := by
  rw [← tlS, Bool.eq_iff_iff, beq_iff_eq, beq_iff_eq]
  exact eq_comm
theorem lg_eq (l : Lg) (x : Lg) : (l == x) = ((l.1 == x.1) && (l.2 == x.2)) := rfl
set_option maxHeartbeats 1000000 in
theorem IndexL_c {w : World} {v : Value} {ls : List Lg} (h : LgS w v ls) (x y : ByteArray) :
    Calls Tryz.prog 123 #[v, .agg #[.string x, .string y]] w fun e w' => (∃ r : Int, decide (0 ≤ r) = (ls.any fun l => l == (tx x, tx y)) ∧ e = .returned (.int .i64 r)) ∧ Gr w w' := by
  obtain ⟨q, cap, rfl, hl1, hl2⟩ := h.form
  have hg := gr_alloc w (.cells #[.string x, .string y] 59)
  have hB := heap_alloc_new w (.cells #[.string x, .string y] 59)
  have HB := Lib.hid hB
  have h' := h.kept hg
  clear hB
  go_enter Tryz.func123, Tryz.ntmps123
  go_wp2_with fail
  generalize hW0 : w.alloc (.cells #[.string x, .string y] 59) = w0 at *
  have HW0 := Lib.hid hW0
  clear hW0
  go_loopw [8] (fun i wr => ∃ k : Nat, k ≤ ls.length ∧ i = .int .i64 k ∧ Hid ((ls.take k).any (fun l => l == (tx x, tx y)) = false) ∧ Gr w0 wr) (fun i _ => ls.length - (intOf i).toNat)
  case atStart => exact ⟨0, Nat.zero_le _, rfl, by simp [Hid], Gr.refl _⟩
  case round =>
    obtain ⟨k, hk, rfl, hall, hgr⟩ := hrel
    by_cases hlt : k < ls.length
    · obtain ⟨a, hix, hca, hcb⟩ := (h'.kept hgr).ix hlt
      have hBr := hgr.blk HB.out
      have x0 := blk_cell hBr (j := 0) rfl
      have x1 := blk_cell hBr (j := 1) rfl
      clear hBr
      have e1 := tlS' (nthLg ls k).1 x
      have e2 := tlS' (nthLg ls k).2 y
      have HT : Hid ((ls.take (k+1)).any (fun l => l == (tx x, tx y)) = ((ls.take k).any (fun l => l == (tx x, tx y)) || (nthLg ls k == (tx x, tx y)))) := takeL_any (fun l => l == (tx x, tx y)) hlt
      have HA : Hid ((nthLg ls k == (tx x, tx y)) = true → (ls.any fun l => l == (tx x, tx y)) = true) := anyL_true (fun l => l == (tx x, tx y)) hlt
      have HQ : Hid ((nthLg ls k == (tx x, tx y)) = (((nthLg ls k).1 == tx x) && ((nthLg ls k).2 == tx y))) := rfl
      generalize (nthLg ls k == (tx x, tx y)) = z at *
      generalize ((nthLg ls k).1 == tx x) = z1 at *
      generalize ((nthLg ls k).2 == tx y) = z2 at *
      generalize (nthLg ls k).1 = s1 at *
      generalize (nthLg ls k).2 = s2 at *
      cases z1
      · have hz : z = false := by rw [HQ.out]; rfl
        subst hz
        go_wp2_with fail
        go_quiet (fail)
        go_wp2
        go_roundw
        case rel => exact ⟨k+1, by omega, by go_num, by rw [Hid, HT.out, hall.out]; rfl, hgr.drewN _⟩
        case measure => simp [intOf]; omega
      · cases z2
        · have hz : z = false := by rw [HQ.out]; rfl
          subst hz
          go_wp2_with fail
          go_quiet (fail)
          go_wp2
          go_roundw
          case rel => exact ⟨k+1, by omega, by go_num, by rw [Hid, HT.out, hall.out]; rfl, hgr.drewN _⟩
          case measure => simp [intOf]; omega
        · have hz : z = true := by rw [HQ.out]; rfl
          subst hz
          go_wp2_with fail
          go_quiet (fail)
          go_wp2
          go_ret
          exact ⟨⟨k, by rw [HA.out (by first | rfl | trivial)]; simp, rfl⟩, hg.trans (hgr.drewN _)⟩
    · have := hall.out
      rw [List.take_of_length_le (by omega)] at this
      have HF := Lib.hid this
      clear this
      go_wp2
      go_ret
      exact ⟨⟨-1, by rw [HF.out]; rfl, rfl⟩, hg.trans hgr⟩
theorem ContainsL_c {w : World} {v : Value} {ls : List Lg} (h : LgS w v ls) (x y : ByteArray) :
    Calls Tryz.prog 85 #[v, .agg #[.string x, .string y]] w fun e w' => e = .returned (.bool (ls.any fun l => l == (tx x, tx y))) ∧ Gr w w' := by
  obtain ⟨q, cap, rfl, hl1, hl2⟩ := h.form
  have hg := gr_alloc w (.cells #[.string x, .string y] 59)
  go_enter Tryz.func85, Tryz.ntmps85
  go_wp2_with fail
  (with_reducible refine (IndexL_c (h.kept hg) x y).mono ?_); rintro e w1 ⟨⟨r, hr, rfl⟩, g1⟩
  have HR := Lib.hid hr
  clear hr
  go_wp2
  go_ret
  exact ⟨ret_bool HR.out, hg.trans g1⟩
set_option maxHeartbeats 1000000 in
theorem implLoginFits_c {w : World} {v : Value} {ls : List Lg} (h : LgS w v ls) (x y : ByteArray) (hx : x.size ≤ 2000000) (hy : y.size ≤ 2000000) :
    Calls Tryz.prog 43 #[v, .agg #[.string x, .string y]] w fun e w' => e = .returned (.bool (loginFits ls (tx x, tx y))) ∧ Gr w w' := by
  obtain ⟨q, cap, rfl, hl1, hl2⟩ := h.form
  have hg := gr_alloc w (.cells #[.string x, .string y] 59)
  have HD : Hid (loginFits ls (tx x, tx y) = (lgOk (tx x, tx y) && (ls.any fun l => l == (tx x, tx y)))) := rfl
  generalize loginFits ls (tx x, tx y) = r at *
  cases hb : lgOk (tx x, tx y)
  · have HB := Lib.hid hb
    clear hb
    go_enter Tryz.func43, Tryz.ntmps43
    go_wp2_with fail
    (with_reducible refine (isLogin_c _ x y hx hy).mono ?_); rintro e w1 ⟨rfl, g1⟩
    rw [HB.out]
    go_wp2
    go_ret
    exact ⟨ret_bool (by rw [HD.out, HB.out]; rfl), hg.trans g1⟩
  · have HB := Lib.hid hb
    clear hb
    go_enter Tryz.func43, Tryz.ntmps43
    go_wp2_with fail
    (with_reducible refine (isLogin_c _ x y hx hy).mono ?_); rintro e w1 ⟨rfl, g1⟩
    rw [HB.out]
    have G1 := hg.trans g1
    have b0 := boxN g1 0 rfl
    have b1 := boxN g1 1 rfl
    go_wp2_with fail
    (with_reducible refine (ContainsL_c (h.kept G1) x y).mono ?_); rintro e w2 ⟨rfl, g2⟩
    go_wp2
    go_ret
    exact ⟨ret_bool (by rw [HD.out, HB.out]; rfl), G1.trans g2⟩
set_option maxHeartbeats 1000000 in
theorem specLoginFits_c {w : World} {v : Value} {ls : List Lg} (h : LgS w v ls) (x y : ByteArray) (hx : x.size ≤ 2000000) (hy : y.size ≤ 2000000) :
    Calls Tryz.prog 117 #[v, .agg #[.string x, .string y]] w fun e w' => e = .returned (.bool (loginFits ls (tx x, tx y))) ∧ Gr w w' := by
  obtain ⟨q, cap, rfl, hl1, hl2⟩ := h.form
  have hg := gr_alloc w (.cells #[.string x, .string y] 59)
  have hB := heap_alloc_new w (.cells #[.string x, .string y] 59)
  have HBk := Lib.hid hB
  have h' := h.kept hg
  clear hB
  have HD : Hid (loginFits ls (tx x, tx y) = (lgOk (tx x, tx y) && (ls.any fun l => l == (tx x, tx y)))) := rfl
  have C := fun W => l11Ok_c W x y hx hy
  obtain ⟨ok, hok⟩ : ∃ ok, lgOk (tx x, tx y) = ok := ⟨_, rfl⟩
  rw [hok] at C HD
  have HC := Lib.hid C
  clear C hok
  generalize loginFits ls (tx x, tx y) = r at *
  go_enter Tryz.func117, Tryz.ntmps117
  go_wp2_with fail
  generalize hW0 : w.alloc (.cells #[.string x, .string y] 59) = w0 at *
  have HW0 := Lib.hid hW0
  clear hW0
  go_loopw [5] (fun i wr => ∃ k : Nat, k ≤ ls.length ∧ i = .int .i64 k ∧ Hid ((ls.take k).any (fun l => l == (tx x, tx y)) = false) ∧ Gr w0 wr) (fun i _ => ls.length - (intOf i).toNat)
  case atStart => exact ⟨0, Nat.zero_le _, rfl, by simp [Hid], Gr.refl _⟩
  case round =>
    obtain ⟨k, hk, rfl, hall, hgr⟩ := hrel
    by_cases hlt : k < ls.length
    · have hBr := hgr.blk HBk.out
      have x0 := blk_cell hBr (j := 0) rfl
      have x1 := blk_cell hBr (j := 1) rfl
      clear hBr
      cases ok
      · have HF : Hid (r = false) := by rw [Hid, HD.out]; rfl
        go_wp2_with fail
        (with_reducible refine (HC.out _).mono ?_); rintro e w1 ⟨rfl, g1⟩
        go_wp2
        go_ret
        exact ⟨ret_bool HF.out.symm, hg.trans (hgr.trans g1)⟩
      · go_wp2_with fail
        (with_reducible refine (HC.out _).mono ?_); rintro e w1 ⟨rfl, g1⟩
        have hgr1 := hgr.trans g1
        obtain ⟨a, hix, hca, hcb⟩ := (h'.kept hgr1).ix hlt
        have hBr := hgr1.blk HBk.out
        clear x0 x1
        have x0 := blk_cell hBr (j := 0) rfl
        have x1 := blk_cell hBr (j := 1) rfl
        clear hBr
        have e1 := tlS (nthLg ls k).1 x
        have e2 := tlS (nthLg ls k).2 y
        have HT : Hid ((ls.take (k+1)).any (fun l => l == (tx x, tx y)) = ((ls.take k).any (fun l => l == (tx x, tx y)) || (nthLg ls k == (tx x, tx y)))) := takeL_any (fun l => l == (tx x, tx y)) hlt
        have HA : Hid ((nthLg ls k == (tx x, tx y)) = true → (ls.any fun l => l == (tx x, tx y)) = true) := anyL_true (fun l => l == (tx x, tx y)) hlt
        have HQ : Hid ((nthLg ls k == (tx x, tx y)) = (((nthLg ls k).1 == tx x) && ((nthLg ls k).2 == tx y))) := rfl
        generalize (nthLg ls k == (tx x, tx y)) = z at *
        generalize ((nthLg ls k).1 == tx x) = z1 at *
        generalize ((nthLg ls k).2 == tx y) = z2 at *
        generalize (nthLg ls k).1 = s1 at *
        generalize (nthLg ls k).2 = s2 at *
        cases z1
        · have hz : z = false := by rw [HQ.out]; rfl
          subst hz
          go_wp2_with fail
          go_quiet (fail)
          go_wp2
          go_roundw
          case rel => exact ⟨k+1, by omega, by go_num, by rw [Hid, HT.out, hall.out]; rfl, hgr1.drewN _⟩
          case measure => simp [intOf]; omega
        · cases z2
          · have hz : z = false := by rw [HQ.out]; rfl
            subst hz
            go_wp2_with fail
            go_quiet (fail)
            go_wp2
            go_roundw
            case rel => exact ⟨k+1, by omega, by go_num, by rw [Hid, HT.out, hall.out]; rfl, hgr1.drewN _⟩
            case measure => simp [intOf]; omega
          · have hz : z = true := by rw [HQ.out]; rfl
            subst hz
            have HF : Hid (r = true) := by rw [Hid, HD.out, HA.out rfl]; rfl
            go_wp2_with fail
            go_quiet (fail)
            go_wp2
            go_ret
            exact ⟨ret_bool HF.out.symm, hg.trans (hgr1.drewN _)⟩
    · have := hall.out
      rw [List.take_of_length_le (by omega)] at this
      have HF : Hid (r = false) := by rw [Hid, HD.out, this]; cases ok <;> rfl
      clear this
      go_wp2
      go_ret
      exact ⟨ret_bool HF.out.symm, hg.trans hgr⟩
end Go.Proofs.YtpdjibfcbjknhaaGreatDoor
