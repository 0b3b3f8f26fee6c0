/- Contracts: both SniffKind. -/
import Derived.Test.YtknhfogblfogaaaLeafG
namespace Go.Proofs.Ytknhfogblfogaaa
open Go.RowKit
def tunnelB : List Int := [67, 79, 78, 78, 69, 67, 84, 32]
def lineB : List Int := [80, 82, 79, 88, 89, 32]
/-- What bytes begin with. -/
def sniffKind (xs : List Int) : Int :=
  if bv xs = false then 6 else if xs.length = 0 then 0 else if nth xs 0 = 4 then 1 else if nth xs 0 = 5 then 2
  else if alike xs tunnelB = true then (if 8 ≤ xs.length then 3 else 0)
  else if alike xs lineB = true then (if 6 ≤ xs.length then 4 else 0)
  else if alike xs headStart = true then (if 14 ≤ xs.length then 5 else 0) else 6
theorem sb_tunnel : sb ⟨#[67, 79, 78, 78, 69, 67, 84, 32]⟩ = tunnelB := by decide
theorem sb_line : sb ⟨#[80, 82, 79, 88, 89, 32]⟩ = lineB := by decide
theorem IntS.ix0 {w : World} {p : Option Addr} {cap : Nat} {xs : List Int} (h : IntS w (.slice p xs.length cap) xs) (hk : 0 < xs.length) :
    ∃ a : Addr, (∀ w1, (Instr.indexAt 22 (.slice p xs.length cap) (.int .i64 0)).run Try.prog w1 = .ok (.pointer (some a)) w1) ∧ w.cell? a = some (.int .i64 (nth xs 0)) := h.ix hk

theorem specSniffKind_c {w : World} {v : Value} {xs : List Int} (h : IntS w v xs) :
    Calls Try.prog 29 #[v] w fun e w' => e = .returned (.int .i64 (sniffKind xs)) ∧ Gr w w' := by
  by_cases c1 : bv xs = false
  · have hr : sniffKind xs = 6 := by unfold sniffKind; rw [if_pos c1]
    rw [hr]; clear hr
    go_enter Try.func29, Try.ntmps29
    go_wp2_with fail
    (with_reducible refine (specBytesValid_c h).mono ?_); rintro e w0 ⟨rfl, rfl⟩
    go_wp2
    go_ret
    exact ⟨rfl, Gr.refl _⟩
  have c1' : bv xs = true := by simpa using c1
  obtain ⟨p, cap, rfl, hl1, hl2⟩ := h.form
  by_cases c2 : xs.length = 0
  · have hr : sniffKind xs = 0 := by unfold sniffKind; rw [if_neg c1, if_pos c2]
    rw [hr]; clear hr c1
    have c2' : ((xs.length : Int) == 0) = true := by simp; exact List.eq_nil_of_length_eq_zero c2
    have C := Lib.hid c2; clear c2
    go_enter Try.func29, Try.ntmps29
    go_wp2_with fail
    (with_reducible refine (specBytesValid_c h).mono ?_); rintro e w0 ⟨rfl, rfl⟩
    go_wp2
    go_ret
    exact ⟨rfl, Gr.refl _⟩
  have c2' : ((xs.length : Int) == 0) = false := by simp; intro e; simp [e] at c2
  obtain ⟨a, hix, hca⟩ := h.ix0 (by omega)
  by_cases c3 : nth xs 0 = 4
  · have hr : sniffKind xs = 1 := by unfold sniffKind; rw [if_neg c1, if_neg c2, if_pos c3]
    rw [hr]; clear hr c1
    have c3' : (nth xs 0 == 4) = true := by rw [c3]; rfl
    have C := Lib.hid c2; clear c2; clear c3
    go_enter Try.func29, Try.ntmps29
    go_wp2_with fail
    (with_reducible refine (specBytesValid_c h).mono ?_); rintro e w0 ⟨rfl, rfl⟩
    go_wp2
    go_ret
    exact ⟨rfl, Gr.refl _⟩
  have c3' : (nth xs 0 == 4) = false := by simpa using c3
  by_cases c4 : nth xs 0 = 5
  · have hr : sniffKind xs = 2 := by unfold sniffKind; rw [if_neg c1, if_neg c2, if_neg c3, if_pos c4]
    rw [hr]; clear hr c1
    have c4' : (nth xs 0 == 5) = true := by rw [c4]; rfl
    have C := Lib.hid c2; clear c2; clear c3; clear c4
    go_enter Try.func29, Try.ntmps29
    go_wp2_with fail
    (with_reducible refine (specBytesValid_c h).mono ?_); rintro e w0 ⟨rfl, rfl⟩
    go_wp2
    go_ret
    exact ⟨rfl, Gr.refl _⟩
  have c4' : (nth xs 0 == 5) = false := by simpa using c4
  by_cases c5 : alike xs tunnelB = true
  · have hr : sniffKind xs = if 8 ≤ xs.length then 3 else 0 := by unfold sniffKind; rw [if_neg c1, if_neg c2, if_neg c3, if_neg c4, if_pos c5]
    have R := Lib.hid hr; clear hr
    have C := Lib.hid c2; clear c2; clear c3; clear c4 c1
    go_enter Try.func29, Try.ntmps29
    go_wp2_with fail
    (with_reducible refine (specBytesValid_c h).mono ?_); rintro e w0 ⟨rfl, rfl⟩
    go_wp2_with fail
    (with_reducible refine (l21Alike_c h _ (by decide)).mono ?_); rintro e w1 ⟨rfl, g1⟩
    rw [sb_tunnel]
    go_wp2_with fail
    (with_reducible refine (l21Known_c _ _ _).mono ?_); rintro e w2 ⟨rfl, rfl⟩
    go_wp2
    all_goals go_ret
    all_goals exact ⟨ret_int (by rw [R.out]; split <;> first | rfl | (exfalso; omega)), g1⟩
  have c5' : alike xs tunnelB = false := by simpa using c5
  by_cases c6 : alike xs lineB = true
  · have hr : sniffKind xs = if 6 ≤ xs.length then 4 else 0 := by unfold sniffKind; rw [if_neg c1, if_neg c2, if_neg c3, if_neg c4, if_neg c5, if_pos c6]
    have R := Lib.hid hr; clear hr
    have C := Lib.hid c2; clear c2; clear c3; clear c4 c1; clear c5
    go_enter Try.func29, Try.ntmps29
    go_wp2_with fail
    (with_reducible refine (specBytesValid_c h).mono ?_); rintro e w0 ⟨rfl, rfl⟩
    go_wp2_with fail
    (with_reducible refine (l21Alike_c h _ (by decide)).mono ?_); rintro e w1 ⟨rfl, g1⟩
    rw [sb_tunnel]
    go_wp2_with fail
    (with_reducible refine (l21Alike_c (h.kept g1) _ (by decide)).mono ?_); rintro e w2 ⟨rfl, g2⟩
    rw [sb_line]
    go_wp2_with fail
    (with_reducible refine (l21Known_c _ _ _).mono ?_); rintro e w3 ⟨rfl, rfl⟩
    go_wp2
    all_goals go_ret
    all_goals exact ⟨ret_int (by rw [R.out]; split <;> first | rfl | (exfalso; omega)), g1.trans g2⟩
  have c6' : alike xs lineB = false := by simpa using c6
  by_cases c7 : alike xs headStart = true
  · have hr : sniffKind xs = if 14 ≤ xs.length then 5 else 0 := by unfold sniffKind; rw [if_neg c1, if_neg c2, if_neg c3, if_neg c4, if_neg c5, if_neg c6, if_pos c7]
    have R := Lib.hid hr; clear hr
    have C := Lib.hid c2; clear c2; clear c3; clear c4 c1; clear c5; clear c6
    go_enter Try.func29, Try.ntmps29
    go_wp2_with fail
    (with_reducible refine (specBytesValid_c h).mono ?_); rintro e w0 ⟨rfl, rfl⟩
    go_wp2_with fail
    (with_reducible refine (l21Alike_c h _ (by decide)).mono ?_); rintro e w1 ⟨rfl, g1⟩
    rw [sb_tunnel]
    go_wp2_with fail
    (with_reducible refine (l21Alike_c (h.kept g1) _ (by decide)).mono ?_); rintro e w2 ⟨rfl, g2⟩
    rw [sb_line]
    go_wp2_with fail
    (with_reducible refine (l16Same_c (h.kept (g1.trans g2))).mono ?_); rintro e w3 ⟨rfl, g3⟩
    go_wp2_with fail
    (with_reducible refine (l21Known_c _ _ _).mono ?_); rintro e w4 ⟨rfl, rfl⟩
    go_wp2
    all_goals go_ret
    all_goals exact ⟨ret_int (by rw [R.out]; split <;> first | rfl | (exfalso; omega)), (g1.trans g2).trans g3⟩
  · have hr : sniffKind xs = 6 := by unfold sniffKind; rw [if_neg c1, if_neg c2, if_neg c3, if_neg c4, if_neg c5, if_neg c6, if_neg c7]
    have c7' : alike xs headStart = false := by simpa using c7
    rw [hr]; clear hr
    have C := Lib.hid c2; clear c2; clear c3; clear c4 c1; clear c5; clear c6; clear c7
    go_enter Try.func29, Try.ntmps29
    go_wp2_with fail
    (with_reducible refine (specBytesValid_c h).mono ?_); rintro e w0 ⟨rfl, rfl⟩
    go_wp2_with fail
    (with_reducible refine (l21Alike_c h _ (by decide)).mono ?_); rintro e w1 ⟨rfl, g1⟩
    rw [sb_tunnel]
    go_wp2_with fail
    (with_reducible refine (l21Alike_c (h.kept g1) _ (by decide)).mono ?_); rintro e w2 ⟨rfl, g2⟩
    rw [sb_line]
    go_wp2_with fail
    (with_reducible refine (l16Same_c (h.kept (g1.trans g2))).mono ?_); rintro e w3 ⟨rfl, g3⟩
    go_wp2
    go_ret
    exact ⟨rfl, (g1.trans g2).trans g3⟩

/-- The loop over the three beginnings: what it tells of one. -/
theorem begins_iff (xs ys : List Int) : begins xs ys = (alike xs ys && decide (ys.length ≤ xs.length)) := by
  unfold begins alike
  by_cases h : ys.length ≤ xs.length
  · rw [Nat.min_eq_right h]; simp [h]
  · simp [h]
theorem alike_comm (xs ys : List Int) : alike xs ys = alike ys xs := by
  unfold alike; rw [Nat.min_comm, Bool.eq_iff_iff, beq_iff_eq, beq_iff_eq]; exact eq_comm
theorem begins_or (xs ys : List Int) (h : begins xs ys = false) : begins ys xs = alike xs ys := by
  rw [begins_iff] at h ⊢
  rw [alike_comm ys xs]
  cases ha : alike xs ys
  · simp
  · rw [ha] at h; simp at h; simp; omega
theorem IntSS.lit3 {w : World} {a b c : Value} {xs ys zs : List Int} (ha : IntS w a xs) (hb : IntS w b ys) (hc : IntS w c zs) :
    IntSS (w.alloc (.cells #[a, b, c] 22)) (.slice (some ⟨w.heap.size, 0, none⟩) 3 3) [xs, ys, zs] := by
  refine ⟨[a, b, c], (Own.lit (B := w.heap.size) w #[a, b, c] 3 (Nat.le_refl _) (by decide) rfl).row, fun k hk => ?_⟩
  have hg : Gr w (w.alloc (.cells #[a, b, c] 22)) := (Gr.refl w).alloc _
  match k, hk with
  | 0, _ => exact ha.kept hg
  | 1, _ => exact hb.kept hg
  | 2, _ => exact hc.kept hg
def firsts : List (List Int) := [tunnelB, lineB, headStart]
theorem sniff_at {xs : List Int} (c1 : ¬ bv xs = false) (c2 : ¬ xs.length = 0) (c3 : ¬ nth xs 0 = 4) (c4 : ¬ nth xs 0 = 5) {k : Nat} (hk : k < 3)
    (h : ∀ j, j < k → alike xs (nthL firsts j) = false) (ha : alike xs (nthL firsts k) = true) : sniffKind xs = if (nthL firsts k).length ≤ xs.length then (3 : Int) + k else 0 := by
  unfold sniffKind
  rw [if_neg c1, if_neg c2, if_neg c3, if_neg c4]
  match k, hk with
  | 0, _ =>
    rw [if_pos (show alike xs tunnelB = true from ha)]; rfl
  | 1, _ =>
    have h0 : alike xs tunnelB = false := h 0 (by decide)
    rw [if_neg (by rw [h0]; decide), if_pos (show alike xs lineB = true from ha)]; rfl
  | 2, _ =>
    have h0 : alike xs tunnelB = false := h 0 (by decide)
    have h1 : alike xs lineB = false := h 1 (by decide)
    rw [if_neg (by rw [h0]; decide), if_neg (by rw [h1]; decide), if_pos (show alike xs headStart = true from ha)]; rfl
theorem sniff_none {xs : List Int} (c1 : ¬ bv xs = false) (c2 : ¬ xs.length = 0) (c3 : ¬ nth xs 0 = 4) (c4 : ¬ nth xs 0 = 5)
    (h : ∀ j, j < 3 → alike xs (nthL firsts j) = false) : sniffKind xs = 6 := by
  unfold sniffKind
  have h0 : alike xs tunnelB = false := h 0 (by decide)
  have h1 : alike xs lineB = false := h 1 (by decide)
  have h2 : alike xs headStart = false := h 2 (by decide)
  rw [if_neg c1, if_neg c2, if_neg c3, if_neg c4, if_neg (by rw [h0]; decide), if_neg (by rw [h1]; decide), if_neg (by rw [h2]; decide)]
theorem firsts_len : firsts.length = 3 := rfl
theorem implSniffKind_c {w : World} {v : Value} {xs : List Int} (h : IntS w v xs) :
    Calls Try.prog 28 #[v] w fun e w' => e = .returned (.int .i64 (sniffKind xs)) ∧ Gr w w' := by
  by_cases c1 : bv xs = false
  · have hr : sniffKind xs = 6 := by unfold sniffKind; rw [if_pos c1]
    rw [hr]; clear hr
    go_enter Try.func28, Try.ntmps28
    go_wp2_with fail
    (with_reducible refine (implBytesValid_c h).mono ?_); rintro e w0 ⟨rfl, rfl⟩
    go_wp2
    go_ret
    exact ⟨rfl, Gr.refl _⟩
  have c1' : bv xs = true := by simpa using c1
  obtain ⟨p, cap, rfl, hl1, hl2⟩ := h.form
  by_cases c2 : xs.length = 0
  · have hr : sniffKind xs = 0 := by unfold sniffKind; rw [if_neg c1, if_pos c2]
    rw [hr]; clear hr c1
    have c2' : ((xs.length : Int) == 0) = true := by simp; exact List.eq_nil_of_length_eq_zero c2
    have C := Lib.hid c2; clear c2
    go_enter Try.func28, Try.ntmps28
    go_wp2_with fail
    (with_reducible refine (implBytesValid_c h).mono ?_); rintro e w0 ⟨rfl, rfl⟩
    go_wp2
    go_ret
    exact ⟨rfl, Gr.refl _⟩
  have c2' : ((xs.length : Int) == 0) = false := by simp; intro e; simp [e] at c2
  obtain ⟨a, hix, hca⟩ := h.ix0 (by omega)
  by_cases c3 : nth xs 0 = 4
  · have hr : sniffKind xs = 1 := by unfold sniffKind; rw [if_neg c1, if_neg c2, if_pos c3]
    rw [hr]; clear hr c1
    have c3' : (nth xs 0 == 4) = true := by rw [c3]; rfl
    have C := Lib.hid c2; clear c2; clear c3
    go_enter Try.func28, Try.ntmps28
    go_wp2_with fail
    (with_reducible refine (implBytesValid_c h).mono ?_); rintro e w0 ⟨rfl, rfl⟩
    go_wp2
    go_ret
    exact ⟨rfl, Gr.refl _⟩
  have c3' : (nth xs 0 == 4) = false := by simpa using c3
  by_cases c4 : nth xs 0 = 5
  · have hr : sniffKind xs = 2 := by unfold sniffKind; rw [if_neg c1, if_neg c2, if_neg c3, if_pos c4]
    rw [hr]; clear hr c1
    have c4' : (nth xs 0 == 5) = true := by rw [c4]; rfl
    have C := Lib.hid c2; clear c2; clear c3; clear c4
    go_enter Try.func28, Try.ntmps28
    go_wp2_with fail
    (with_reducible refine (implBytesValid_c h).mono ?_); rintro e w0 ⟨rfl, rfl⟩
    go_wp2
    go_ret
    exact ⟨rfl, Gr.refl _⟩
  have c4' : (nth xs 0 == 5) = false := by simpa using c4
  have SA := Lib.hid (fun k => @sniff_at xs c1 c2 c3 c4 k)
  have SN := Lib.hid (@sniff_none xs c1 c2 c3 c4)
  clear c1 c2 c3 c4
  go_enter Try.func28, Try.ntmps28
  go_wp2_with fail
  (with_reducible refine (implBytesValid_c h).mono ?_); rintro e w0 ⟨rfl, rfl⟩
  go_wp2_with fail
  (with_reducible refine (textBytes_c _ _ (by decide)).mono ?_); rintro e w1 ⟨v1, rfl, o1, g1⟩
  rw [sb_tunnel] at o1
  go_wp2_with fail
  (with_reducible refine (textBytes_c _ _ (by decide)).mono ?_); rintro e w2 ⟨v2, rfl, o2, g2⟩
  rw [sb_line] at o2
  go_wp2_with fail
  (with_reducible refine (headStart_c _).mono ?_); rintro e w3 ⟨v3, rfl, o3, g3⟩
  obtain ⟨p1, q1, rfl⟩ := o1.len
  obtain ⟨p2, q2, rfl⟩ := o2.len
  obtain ⟨p3, q3, rfl⟩ := o3.len
  have hss : IntSS _ (.slice (some ⟨w3.heap.size, 0, none⟩) firsts.length 3) firsts := IntSS.lit3 (o1.s.kept (g2.trans g3)) (o2.s.kept g3) o3.s
  have G := ((g1.trans g2).trans g3).alloc (.cells #[(.slice p1 tunnelB.length q1), (.slice p2 lineB.length q2), (.slice p3 headStart.length q3)] 22)
  clear o1 o2 o3 g1 g2 g3
  rw [firsts_len] at hss
  go_wp2_with fail
  generalize hW : w3.alloc (.cells #[(.slice p1 tunnelB.length q1), (.slice p2 lineB.length q2), (.slice p3 headStart.length q3)] 22) = W at *
  have HW := Lib.hid hW; clear hW
  replace h := h.kept G
  have HS := Lib.hid hss; clear hss
  go_loopw [28] (fun i wr => ∃ k : Nat, k ≤ 3 ∧ i = .int .i64 k ∧ Hid (∀ j, j < k → alike xs (nthL firsts j) = false) ∧ Gr W wr) (fun i _ => 3 - (intOf i).toNat)
  case atStart => exact ⟨0, by omega, rfl, (fun j hj => by omega), Gr.refl _⟩
  case round =>
    obtain ⟨k, hk, rfl, hall, hgr⟩ := hrel
    by_cases hlt : k < 3
    · have hss : IntSS W (.slice (some ⟨w3.heap.size, 0, none⟩) firsts.length 3) firsts := by rw [firsts_len]; exact HS.out
      obtain ⟨a, q, cq, hix', hca', hrow⟩ := (hss.kept hgr).ix (show k < firsts.length from hlt)
      clear hss
      rw [firsts_len] at hix'
      have hxr := h.kept hgr
      generalize hys : nthL firsts k = ys at *
      have HY := Lib.hid hys; clear hys
      cases cb : begins xs ys
      · have e2 := begins_or xs ys cb
        cases ca : alike xs ys
        · rw [ca] at e2
          have CA := Lib.hid ca; clear ca
          go_wp2_with fail
          (with_reducible refine (begins_c hxr hrow).mono ?_); rintro e w5 ⟨rfl, g5⟩
          go_wp2_with fail
          (with_reducible refine (begins_c (hrow.kept g5) (hxr.kept g5)).mono ?_); rintro e w6 ⟨rfl, g6⟩
          go_wp2
          go_roundw
          case rel =>
            refine ⟨k+1, by omega, by go_num, fun j hj => ?_, (hgr.trans g5).trans g6⟩
            by_cases hjk : j < k
            · exact hall.out j hjk
            · rw [show j = k by omega, HY.out]; exact CA.out
          case measure => simp [intOf]; omega
        · rw [ca] at e2
          have hlen : ¬ ys.length ≤ xs.length := by intro hl; rw [begins_iff, ca] at cb; simp at cb; omega
          have hfin := SA.out k hlt hall.out (by rw [HY.out]; exact ca)
          rw [HY.out, if_neg hlen] at hfin
          have HF := Lib.hid hfin; clear hfin ca hlen
          go_wp2_with fail
          (with_reducible refine (begins_c hxr hrow).mono ?_); rintro e w5 ⟨rfl, g5⟩
          go_wp2_with fail
          (with_reducible refine (begins_c (hrow.kept g5) (hxr.kept g5)).mono ?_); rintro e w6 ⟨rfl, g6⟩
          go_wp2
          go_ret
          exact ⟨ret_int HF.out.symm, G.trans ((hgr.trans g5).trans g6)⟩
      · have e2 := begins_iff xs ys
        rw [cb] at e2
        have e3 : alike xs ys = true ∧ ys.length ≤ xs.length := by simpa using e2.symm
        have hfin := SA.out k hlt hall.out (by rw [HY.out]; exact e3.1)
        rw [HY.out, if_pos e3.2] at hfin
        have HF := Lib.hid hfin; clear hfin e2 e3
        go_wp2_with fail
        (with_reducible refine (begins_c hxr hrow).mono ?_); rintro e w5 ⟨rfl, g5⟩
        go_wp2
        go_ret
        exact ⟨ret_int HF.out.symm, G.trans (hgr.trans g5)⟩
    · have hfin := SN.out (fun j hj => hall.out j (by omega))
      have HF := Lib.hid hfin; clear hfin
      go_wp2
      go_ret
      exact ⟨ret_int HF.out.symm, G.trans hgr⟩
end Go.Proofs.Ytknhfogblfogaaa
