/- The walks of laws.FnTagsMore, FnTagsPart, FnTagsSize. -/
import Derived.Test.YtjfijmfmomeikaaTagP
import Derived.Test.YtjfijmfmomeikaaExFeedPut
namespace Go.Proofs.Ytjfijmfmomeikaa
open Go.RowKit
theorem same_c {w : World} {v u : Value} {xs : List Int} (h : IntS w v xs) (hu : IntS w u xs) :
    Calls Try.prog 21 #[v, u] w fun e w' => e = .returned (.bool true) ∧ Gr w w' := by
  refine (sameBytes_c h hu).mono ?_
  rintro e w' ⟨rfl, hg⟩
  exact ⟨by simp, hg⟩
theorem wpl_appIg {w : World} {ops : Array Oper} {rest : List Oper} {o : Oper} {a : Act} {Q : Exit → Act → World → Prop} (hw : Region.wanted o (yielded ops a.tmps) = true) (s x : Operand)
    (ho : o.op = .call { callee := .builtin .append, args := #[s, x], argTypes := #[22, 22] })
    {B : Nat} {v : Value} {xs : List Int} (hs : a.eval s = v) (hown : IntO B 3 w v xs) {xv : Value} {ys : List Int} (hx : a.eval x = xv) (hrow : IntS w xv ys)
    (hb : xs.length + ys.length ≤ 1000000000000) (hB : B ≤ w.heap.size)
    (h : ∀ v' w', IntO B 3 w' v' (xs ++ ys) → Below B w w' → wpList Try.prog ops Q rest (a.put o.dst v') w') : wpList Try.prog ops Q (o :: rest) a w := by
  obtain ⟨i0, hi, hz, hs', hby⟩ := infoI
  refine wpList_step fun K hK => ?_
  rw [if_pos hw]
  obtain ⟨v', w', hr, h2, h3⟩ := Own.append (P := Try.prog) w (ty := o.type) uI hi hz hs' hby rfl (by decide) hown hrow (ints_one _) (by omega) (by decide) hB
  unfold Oper.wp execOp
  simp only [ho, resolve, invoke, builtin, Sem.run_bind, Sem.run_pure, Result.andThen_ok, List.map_toArray, List.map_cons, List.map_nil, hs, hx, hr]
  refine hK _ _ (h v' w' ?_ h3)
  unfold IntO; rw [ints_append, List.length_append]; exact h2
/-- append of whole tags. -/
theorem wpl_appR {w : World} {ops : Array Oper} {rest : List Oper} {o : Oper} {a : Act} {Q : Exit → Act → World → Prop} (hgd : o.guard = none) (s x : Operand)
    (ho : o.op = .call { callee := .builtin .append, args := #[s, x], argTypes := #[31, 31] })
    {B n : Nat} {v : Value} {cs : List Value} (hs : a.eval s = v) (hown : Own B 35 2 w v n cs) {xv : Value} {m : Nat} {ds : List Value} (hx : a.eval x = xv) (hrow : Row w 2 xv m ds) (h1 : ∀ u ∈ ds, u.oneCell' = true)
    (hb : n + m ≤ 1000000000) (hB : B ≤ w.heap.size)
    (h : ∀ v' w', Own B 35 2 w' v' (n + m) (cs ++ ds) → Below B w w' → wpList Try.prog ops Q rest (a.put o.dst v') w') : wpList Try.prog ops Q (o :: rest) a w := by
  obtain ⟨i0, hi, hz, hs', hby⟩ := infoT
  exact wpl_append w hgd s x _ ho uT hi hz hs' hby rfl (by decide) (by decide) hs hown hx hrow h1 (by omega) hB h
theorem TagS.row {w : World} {v : Value} {ts : List Tag} (h : TagS w v ts) : ∃ ds : List Value, ds.length = ts.length ∧ Row w 2 v ts.length (tagCells ts ds) ∧ (∀ u ∈ tagCells ts ds, u.oneCell' = true) ∧ ∀ k, k < ts.length → IntS w (nthV ds k) (nthT ts k).2 := by
  obtain ⟨ds, h0, h1, h2⟩ := h
  refine ⟨ds, h0, h1, fun u hu => ?_, h2⟩
  unfold tagCells at hu
  obtain ⟨c, hc, hu'⟩ := List.mem_flatten.1 hu
  obtain ⟨k, hk, rfl⟩ := List.mem_map.1 hc
  have hk' : k < ts.length := by simpa using hk
  obtain ⟨q, cq, hv, _⟩ := (h2 k hk').form
  simp only [List.mem_cons, List.not_mem_nil, or_false] at hu'
  rcases hu' with rfl | rfl
  · rfl
  · rw [hv]; rfl
theorem TagS.mk {w : World} {v : Value} {ts : List Tag} {ds : List Value} (h0 : ds.length = ts.length) (h1 : Row w 2 v ts.length (tagCells ts ds)) (h2 : ∀ k, k < ts.length → IntS w (nthV ds k) (nthT ts k).2) : TagS w v ts := ⟨ds, h0, h1, h2⟩
theorem IntS.nil (w : World) : IntS w (.slice none 0 0) [] := (IntO.nil 0 3 w).s
theorem IntO.three {w : World} {x y z : Int} {m : Nat} (hm : m = w.heap.size) : IntO w.heap.size 3 (w.alloc (.cells #[.int .i64 x, .int .i64 y, .int .i64 z] 3)) (.slice (some ⟨m, 0, none⟩) 3 3) [x, y, z] := by
  subst hm; exact Own.lit w #[.int .i64 x, .int .i64 y, .int .i64 z] 3 (Nat.le_refl _) (by decide) rfl
theorem tagsOk_more {ts : List Tag} (h : tagsOk ts = true) (hl : ts.length < 4) : tagsOk (ts ++ [(7, [])]) = true := by
  simp only [tagsOk, Bool.and_eq_true, decide_eq_true_eq, List.length_append, List.all_append] at h ⊢
  exact ⟨by simp; omega, h.2, by decide⟩
theorem implTagsBytes_t {w : World} {v : Value} {ts : List Tag} (h : TagS w v ts) (hok : Hid (tagsOk ts = true)) :
    Calls Try.prog 19 #[v] w fun e w' => ∃ v', e = .returned (.tuple #[v', .bool true]) ∧ IntO w.heap.size 3 w' v' (tagsBytes ts) ∧ Gr w w' := by
  have := implTagsBytes_c h
  rw [hok.out] at this
  exact this
theorem implTagsBytes_f {w : World} {v : Value} {ts : List Tag} (h : TagS w v ts) (hok : Hid (tagsOk ts = false)) :
    Calls Try.prog 19 #[v] w fun e w' => ∃ v', e = .returned (.tuple #[v', .bool false]) ∧ IntO w.heap.size 3 w' v' [] ∧ Gr w w' := by
  have := implTagsBytes_c h
  rw [hok.out] at this
  exact this
theorem specTagsBytes_t {w : World} {v : Value} {ts : List Tag} (h : TagS w v ts) (hok : Hid (tagsOk ts = true)) :
    Calls Try.prog 20 #[v] w fun e w' => ∃ v', e = .returned (.tuple #[v', .bool true]) ∧ IntO w.heap.size 3 w' v' (tagsBytes ts) ∧ Gr w w' := by
  have := specTagsBytes_c h
  rw [hok.out] at this
  exact this
theorem specTagsBytes_f {w : World} {v : Value} {ts : List Tag} (h : TagS w v ts) (hok : Hid (tagsOk ts = false)) :
    Calls Try.prog 20 #[v] w fun e w' => ∃ v', e = .returned (.tuple #[v', .bool false]) ∧ IntO w.heap.size 3 w' v' [] ∧ Gr w w' := by
  have := specTagsBytes_c h
  rw [hok.out] at this
  exact this
set_option maxHeartbeats 1000000 in
theorem FnTagsMore_w {w : World} {v : Value} {bs : List Int} (h : ByteS w v bs) :
    Calls Try.prog 5 #[v] w fun e w' => e = .returned (.bool true) ∧ Gr w w' := by
  obtain ⟨p, cap, rfl, _, _⟩ := h.form
  by_cases hx : bs.length ≤ 1048576
  · have hx' : ((bs.length : Int) ≤ 1048576) := by omega
    go_enter Try.func5, Try.ntmps5
    go_wp2_with fail
    (with_reducible refine (DrawTagsBytes_c h).mono ?_); rintro e w1 ⟨v1, ts, T, rfl, hl5, hl17, ho1, hT, g1⟩
    have hs := ho1.s
    clear ho1
    cases hok : tagsOk ts
    · have HOK := Lib.hid hok; clear hok
      go_wp2_with fail
      (with_reducible refine (implTagsBytes_f hs HOK).mono ?_); rintro e w2 ⟨v2, rfl, o2, g2⟩
      go_wp2_with fail
      (with_reducible refine (specTagsBytes_f (hs.kept g2) HOK).mono ?_); rintro e w3 ⟨v3, rfl, o3, g3⟩
      go_wp2_with fail
      (with_reducible refine (same_c (o2.s.kept g3) o3.s).mono ?_); rintro e w4 ⟨rfl, g4⟩
      go_wp2_with fail
      (with_reducible refine (same_c (o2.s.kept (g3.trans g4)) (o3.s.kept g4)).mono ?_); rintro e w5 ⟨rfl, g5⟩
      go_wp2
      go_ret
      exact ⟨rfl, ((((g1.trans g2).trans g3).trans g4).trans g5)⟩
    · have HOK := Lib.hid hok; clear hok
      go_wp2_with fail
      (with_reducible refine (implTagsBytes_t hs HOK).mono ?_); rintro e w2 ⟨v2, rfl, o2, g2⟩
      go_wp2_with fail
      (with_reducible refine (specTagsBytes_t (hs.kept g2) HOK).mono ?_); rintro e w3 ⟨v3, rfl, o3, g3⟩
      go_wp2_with fail
      (with_reducible refine (same_c (o2.s.kept g3) o3.s).mono ?_); rintro e w4 ⟨rfl, g4⟩
      obtain ⟨q, cq, rfl, _, _⟩ := hs.form
      by_cases hn : 4 ≤ ts.length
      · have hn' : ((4 : Int) ≤ (ts.length : Int)) := by omega
        go_wp2_with fail
        (with_reducible refine (same_c (o2.s.kept (g3.trans g4)) (o3.s.kept g4)).mono ?_); rintro e w5 ⟨rfl, g5⟩
        go_wp2
        go_ret
        exact ⟨rfl, ((((g1.trans g2).trans g3).trans g4).trans g5)⟩
      · have hn' : ¬ ((4 : Int) ≤ (ts.length : Int)) := by omega
        have G4 := (((g1.trans g2).trans g3).trans g4)
        have o4 := o2.s.kept (g3.trans g4)
        obtain ⟨ds, d0, drow, done, dsub⟩ := (hs.kept ((g2.trans g3).trans g4)).row
        go_wp2_with (first | (at_builtin; refine wpl_appR rfl (.tmp 52) (.tmp 53) rfl rfl (Own.lit (B := w4.heap.size) w4 #[] 0 (Nat.le_refl _) (by decide) rfl) rfl (drow.kept (gr_alloc _ _)) done (by omega) (by simp) ?_; intro v5 w5 o5 g5) | (at_builtin; refine wpl_appR rfl (.tmp 54) (.tmp 56) rfl rfl (o5.kept (gr_alloc _ _)) rfl (Row.oneT _ _ _ rfl) (by simp [Value.oneCell']) (by omega) (by have := g5.size; simp at this ⊢; omega) ?_; intro v6 w6 o6 g6))
        have G6 : Gr w4 w6 := ((((gr_alloc w4 _).thenB g5).alloc _).thenB g6)
        have htag : TagS w6 v6 (ts ++ [(7, [])]) := by
          refine TagS.mk (ds := ds ++ [.slice none 0 0]) (by simp [d0]) ?_ fun k hk => ?_
          · rw [tagCells_snoc d0, List.length_append]; simpa using o6.row
          · by_cases hk' : k < ts.length
            · rw [nthV_snoc_lt (by omega), nthT_snoc_lt hk']; exact (dsub k hk').kept G6
            · obtain rfl : k = ts.length := by simp at hk; omega
              rw [nthT_snoc_eq, show nthV (ds ++ [.slice none 0 0]) ts.length = .slice none 0 0 by rw [← d0]; exact nthV_snoc_eq ds _]
              exact IntS.nil _
        have hok2 := Lib.hid (tagsOk_more HOK.out (by omega))
        have htb : tagsBytes (ts ++ [(7, [])]) = tagsBytes ts ++ [7, 0, 0] := by rw [tagsBytes_app]; rfl
        have hlen := tagsBytes_len HOK.out ts.length
        rw [List.take_length] at hlen
        clear o5 o6 drow done dsub hs o3
        replace o2 := o4.kept G6
        go_wp2_with fail
        (with_reducible refine (implTagsBytes_t htag hok2).mono ?_); rintro e w7 ⟨v7, rfl, o7, g7⟩
        rw [htb] at o7
        have o8 := o2.kept g7
        clear htb hok2
        go_wp2_with (first | (at_builtin; refine wpl_appIg (by rfl) (.tmp 64) (.tmp 65) rfl rfl (IntO.mt w7) rfl (o8.kept (gr_alloc _ _)) (by simp; omega) (by simp) ?_; intro v8 w8 o8' g8) | (at_builtin; refine wpl_appIg (by rfl) (.tmp 66) (.tmp 67) rfl rfl (o8'.kept (gr_alloc _ _)) rfl (IntO.three rfl).s (by simp; omega) (by have := g8.size; simp at this ⊢; omega) ?_; intro v9 w9 o9 g9))
        have G9 : Gr w7 w9 := ((((gr_alloc w7 _).thenB g8).alloc _).thenB g9)
        go_wp2_with fail
        (with_reducible refine (same_c (o7.s.kept G9) (by simpa using o9.s)).mono ?_); rintro e w10 ⟨rfl, g10⟩
        go_wp2
        go_ret
        exact ⟨rfl, ((G4.trans G6).trans g7).trans (G9.trans g10)⟩
  · have hx' : ¬ ((bs.length : Int) ≤ 1048576) := by omega
    go_enter Try.func5, Try.ntmps5
    go_wp2_with fail
    go_ret
    exact ⟨rfl, Gr.refl _⟩

theorem nthT_take {ts : List Tag} {k j : Nat} (h : j < k) : nthT (ts.take k) j = nthT ts j := by simp [nthT, h]
theorem nthT_drop (ts : List Tag) (k j : Nat) : nthT (ts.drop k) j = nthT ts (k + j) := by simp [nthT, List.getElem?_drop]
theorem nthV_take {ds : List Value} {k j : Nat} (h : j < k) : nthV (ds.take k) j = nthV ds j := by simp [nthV, h]
theorem nthV_drop (ds : List Value) (k j : Nat) : nthV (ds.drop k) j = nthV ds (k + j) := by simp [nthV, List.getElem?_drop]
theorem tagCells_take {ts : List Tag} {ds : List Value} {k : Nat} (hk : k ≤ ts.length) : tagCells (ts.take k) (ds.take k) = (tagCells ts ds).take (k * 2) := by
  refine list_ext2 (n := k) (by rw [tagCells_len, List.length_take]; omega) (by rw [List.length_take, tagCells_len]; omega) fun j hj => ?_
  have h1 := tagCells_get (ts := ts.take k) (ds := ds.take k) (k := j) (by rw [List.length_take]; omega)
  have h2 := tagCells_get (ds := ds) (show j < ts.length by omega)
  rw [h1.1, h1.2, List.getElem?_take, List.getElem?_take, if_pos (by omega), if_pos (by omega), h2.1, h2.2, nthT_take hj, nthV_take hj]
  exact ⟨rfl, rfl⟩
theorem tagCells_drop {ts : List Tag} {ds : List Value} {k : Nat} (hk : k ≤ ts.length) : tagCells (ts.drop k) (ds.drop k) = (tagCells ts ds).drop (k * 2) := by
  refine list_ext2 (n := ts.length - k) (by rw [tagCells_len, List.length_drop]) (by rw [List.length_drop, tagCells_len]; omega) fun j hj => ?_
  have h1 := tagCells_get (ts := ts.drop k) (ds := ds.drop k) (k := j) (by rw [List.length_drop]; omega)
  have h2 := tagCells_get (ds := ds) (show k + j < ts.length by omega)
  rw [h1.1, h1.2, List.getElem?_drop, List.getElem?_drop, show k * 2 + j * 2 = (k + j) * 2 by omega, show k * 2 + (j * 2 + 1) = (k + j) * 2 + 1 by omega, h2.1, h2.2, nthT_drop, nthV_drop]
  exact ⟨rfl, rfl⟩
theorem TagS.pre {w : World} {v : Value} {ts : List Tag} (h : TagS w v ts) {k : Nat} (hk : k ≤ ts.length) :
    ∃ v' : Value, (∀ w1, (Instr.slice 31 v none (some (.int .i64 (k : Int))) none).run Try.prog w1 = .ok v' w1) ∧ TagS w v' (ts.take k) := by
  obtain ⟨i0, hi, hz, hs, hby⟩ := infoT
  obtain ⟨ds, h0, h1, _, h2⟩ := h.row
  obtain ⟨v', f1, f2⟩ := Row.cut h1 uT hi hs (Nat.zero_le k) hk
  refine ⟨v', fun w1 => ?_, TagS.mk (ds := ds.take k) (by simp [h0]) ?_ fun j hj => ?_⟩
  · rw [← f1 w1]
    obtain ⟨p, cap, rfl, hl1, hl2⟩ := h.form
    simp [Instr.slice, run_underlying uT, Instr.sliceBounds, Instr.sliceBound, asIntOf, sizeOf, typeInfo, hi, show k ≤ cap by omega]
  · rw [tagCells_take hk, List.length_take, show min k ts.length = k by omega]; simpa using f2
  · rw [List.length_take] at hj
    rw [nthV_take (by omega), nthT_take (by omega)]; exact h2 j (by omega)
theorem TagS.suf {w : World} {v : Value} {ts : List Tag} (h : TagS w v ts) {k : Nat} (hk : k ≤ ts.length) :
    ∃ v' : Value, (∀ w1, (Instr.slice 31 v (some (.int .i64 (k : Int))) none none).run Try.prog w1 = .ok v' w1) ∧ TagS w v' (ts.drop k) := by
  obtain ⟨i0, hi, hz, hs, hby⟩ := infoT
  obtain ⟨ds, h0, h1, _, h2⟩ := h.row
  obtain ⟨v', f1, f2⟩ := Row.cut h1 uT hi hs hk (Nat.le_refl _)
  refine ⟨v', fun w1 => ?_, TagS.mk (ds := ds.drop k) (by simp [h0]) ?_ fun j hj => ?_⟩
  · rw [← f1 w1]
    obtain ⟨p, cap, rfl, hl1, hl2⟩ := h.form
    simp [Instr.slice, run_underlying uT, Instr.sliceBounds, Instr.sliceBound, asIntOf, sizeOf, typeInfo, hi, hl1, hk]
  · rw [tagCells_drop hk, List.length_drop]
    rw [List.take_of_length_le (by rw [List.length_drop, tagCells_len]; omega)] at f2
    exact f2
  · rw [List.length_drop] at hj
    rw [nthV_drop, nthT_drop]; exact h2 (k + j) (by omega)
theorem tagsOk_take {ts : List Tag} (h : tagsOk ts = true) (k : Nat) : tagsOk (ts.take k) = true := by
  simp only [tagsOk, Bool.and_eq_true, decide_eq_true_eq, List.all_eq_true] at h ⊢
  exact ⟨by rw [List.length_take]; omega, fun x hx => h.2 x (List.mem_of_mem_take hx)⟩
theorem tagsOk_drop {ts : List Tag} (h : tagsOk ts = true) (k : Nat) : tagsOk (ts.drop k) = true := by
  simp only [tagsOk, Bool.and_eq_true, decide_eq_true_eq, List.all_eq_true] at h ⊢
  exact ⟨by rw [List.length_drop]; omega, fun x hx => h.2 x (List.mem_of_mem_drop hx)⟩
set_option maxHeartbeats 1000000 in
theorem FnTagsPart_w {w : World} {v u : Value} {bs cs : List Int} (h : ByteS w v bs) (hu : ByteS w u cs) :
    Calls Try.prog 6 #[v, u] w fun e w' => e = .returned (.bool true) ∧ Gr w w' := by
  obtain ⟨p, cap, rfl, _, _⟩ := h.form
  obtain ⟨q, caq, rfl, _, _⟩ := hu.form
  by_cases hx : bs.length ≤ 1048576
  · by_cases hy : cs.length ≤ 1048576
    · have hx' : (decide (1048576 < (bs.length : Int))) = false := by simp; omega
      have hy' : (decide (1048576 < (cs.length : Int))) = false := by simp; omega
      go_enter Try.func6, Try.ntmps6
      go_wp2_with fail
      (with_reducible refine (DrawTagsBytes_c h).mono ?_); rintro e w1 ⟨v1, ts, T, rfl, hl5, hl17, ho1, hT, g1⟩
      have hs := ho1.s
      clear ho1
      cases hok : tagsOk ts
      · have HOK := Lib.hid hok; clear hok
        go_wp2_with fail
        (with_reducible refine (implTagsBytes_f hs HOK).mono ?_); rintro e w2 ⟨v2, rfl, o2, g2⟩
        go_wp2_with fail
        (with_reducible refine (specTagsBytes_f (hs.kept g2) HOK).mono ?_); rintro e w3 ⟨v3, rfl, o3, g3⟩
        go_wp2_with fail
        (with_reducible refine (same_c (o2.s.kept g3) o3.s).mono ?_); rintro e w4 ⟨rfl, g4⟩
        go_wp2_with fail
        (with_reducible refine (same_c (o2.s.kept (g3.trans g4)) (o3.s.kept g4)).mono ?_); rintro e w5 ⟨rfl, g5⟩
        go_wp2
        go_ret
        exact ⟨rfl, ((((g1.trans g2).trans g3).trans g4).trans g5)⟩
      · have HOK := Lib.hid hok; clear hok
        go_wp2_with fail
        (with_reducible refine (implTagsBytes_t hs HOK).mono ?_); rintro e w2 ⟨v2, rfl, o2, g2⟩
        go_wp2_with fail
        (with_reducible refine (specTagsBytes_t (hs.kept g2) HOK).mono ?_); rintro e w3 ⟨v3, rfl, o3, g3⟩
        go_wp2_with fail
        (with_reducible refine (same_c (o2.s.kept g3) o3.s).mono ?_); rintro e w4 ⟨rfl, g4⟩
        obtain ⟨q, cq, rfl, _, _⟩ := hs.form
        have hk0 : (0 : Int) ≤ (cs.length : Int) % ((ts.length : Int) + 1) := Int.emod_nonneg _ (by omega)
        have hk1 : (cs.length : Int) % ((ts.length : Int) + 1) < (ts.length : Int) + 1 := Int.emod_lt_of_pos _ (by omega)
        obtain ⟨k, hk⟩ := Int.eq_ofNat_of_zero_le hk0
        have hkl : k ≤ ts.length := by omega
        have hs4 := hs.kept ((g2.trans g3).trans g4)
        obtain ⟨vp, hvp, hsp⟩ := hs4.pre hkl
        obtain ⟨vq, hvq, hsq⟩ := hs4.suf hkl
        have hokp := Lib.hid (tagsOk_take HOK.out k)
        have hokq := Lib.hid (tagsOk_drop HOK.out k)
        have hlen := tagsBytes_len HOK.out ts.length
        have hlp := tagsBytes_len hokp.out k
        have hlq := tagsBytes_len hokq.out (ts.drop k).length
        rw [List.take_length] at hlen hlq
        rw [List.take_take, Nat.min_self] at hlp
        have htb : tagsBytes (ts.take k) ++ tagsBytes (ts.drop k) = tagsBytes ts := by rw [← tagsBytes_app, List.take_append_drop]
        have HTB := Lib.hid htb; clear htb
        have o4 := o2.s.kept (g3.trans g4)
        have G4 := (((g1.trans g2).trans g3).trans g4)
        clear o3 hs hs4 hk0 hk1
        go_wp2_with fail
        (with_reducible refine (implTagsBytes_t hsp hokp).mono ?_); rintro e w5 ⟨v5, rfl, o5, g5⟩
        go_wp2_with fail
        (with_reducible refine (implTagsBytes_t (hsq.kept g5) hokq).mono ?_); rintro e w6 ⟨v6, rfl, o6, g6⟩
        have o7 := (o5.s.kept g6).kept (gr_alloc w6 (.cells #[] 3))
        go_wp2_with (first | (at_builtin; refine wpl_appIg (by rfl) (.tmp 81) (.tmp 82) rfl rfl (IntO.mt w6) rfl o7 (by simp; omega) (by simp) ?_; intro v8 w8 o8 g8; have G8 := (gr_alloc w6 (.cells #[] 3)).thenB g8) | (at_builtin; refine wpl_appIg (by rfl) (.tmp 83) (.tmp 84) rfl rfl o8 rfl (o6.s.kept G8) (by simp; omega) (by have := g8.size; simp at this ⊢; omega) ?_; intro v9 w9 o9 g9))
        have o9' : IntS w9 v9 (tagsBytes ts) := by have := o9.s; rwa [List.nil_append, HTB.out] at this
        have G9 := G8.thenB g9
        go_wp2_with fail
        (with_reducible refine (same_c o9' (o4.kept ((g5.trans g6).trans G9))).mono ?_); rintro e w10 ⟨rfl, g10⟩
        go_wp2
        go_ret
        exact ⟨rfl, (G4.trans ((g5.trans g6).trans G9)).trans g10⟩
    · have hx' : (decide (1048576 < (bs.length : Int))) = false := by simp; omega
      have hy' : (decide (1048576 < (cs.length : Int))) = true := by simp; omega
      go_enter Try.func6, Try.ntmps6
      go_wp2_with fail
      go_ret
      exact ⟨rfl, Gr.refl _⟩
  · have hx' : (decide (1048576 < (bs.length : Int))) = true := by simp; omega
    go_enter Try.func6, Try.ntmps6
    go_wp2_with fail
    go_ret
    exact ⟨rfl, Gr.refl _⟩

def sumLen (ts : List Tag) : Nat := (ts.map fun t => t.2.length).sum
theorem sumLen_step {ts : List Tag} {k : Nat} (h : k < ts.length) : sumLen (ts.take (k+1)) = sumLen (ts.take k) + (nthT ts k).2.length := by
  unfold sumLen; rw [List.take_succ_eq_append_getElem h, nthT_eq h, List.map_append, List.sum_append]; simp
theorem sumLen_tagsBytes (ts : List Tag) : (tagsBytes ts).length = 3 * ts.length + sumLen ts := by
  induction ts with
  | nil => rfl
  | cons t ts ih =>
    have h1 : tagsBytes (t :: ts) = tagBytes t ++ tagsBytes ts := by simp [tagsBytes]
    have h2 : (tagBytes t).length = 3 + t.2.length := by simp [tagBytes, num2]; omega
    have h3 : sumLen (t :: ts) = t.2.length + sumLen ts := by simp [sumLen]
    rw [h1, List.length_append, ih, h2, h3, List.length_cons]; omega
set_option maxHeartbeats 1000000 in
theorem FnTagsSize_w {w : World} {v : Value} {bs : List Int} (h : ByteS w v bs) :
    Calls Try.prog 7 #[v] w fun e w' => e = .returned (.bool true) ∧ Gr w w' := by
  obtain ⟨p, cap, rfl, _, _⟩ := h.form
  by_cases hx : bs.length ≤ 1048576
  · have hx' : ((bs.length : Int) ≤ 1048576) := by omega
    go_enter Try.func7, Try.ntmps7
    go_wp2_with fail
    (with_reducible refine (DrawTagsBytes_c h).mono ?_); rintro e w1 ⟨v1, ts, T, rfl, hl5, hl17, ho1, hT, g1⟩
    have hs := ho1.s
    clear ho1
    cases hok : tagsOk ts
    · have HOK := Lib.hid hok; clear hok
      go_wp2_with fail
      (with_reducible refine (implTagsBytes_f hs HOK).mono ?_); rintro e w2 ⟨v2, rfl, o2, g2⟩
      go_wp2_with fail
      (with_reducible refine (specTagsBytes_f (hs.kept g2) HOK).mono ?_); rintro e w3 ⟨v3, rfl, o3, g3⟩
      go_wp2_with fail
      (with_reducible refine (same_c (o2.s.kept g3) o3.s).mono ?_); rintro e w4 ⟨rfl, g4⟩
      go_wp2_with fail
      (with_reducible refine (same_c (o2.s.kept (g3.trans g4)) (o3.s.kept g4)).mono ?_); rintro e w5 ⟨rfl, g5⟩
      go_wp2
      go_ret
      exact ⟨rfl, ((((g1.trans g2).trans g3).trans g4).trans g5)⟩
    · have HOK := Lib.hid hok; clear hok
      go_wp2_with fail
      (with_reducible refine (implTagsBytes_t hs HOK).mono ?_); rintro e w2 ⟨v2, rfl, o2, g2⟩
      go_wp2_with fail
      (with_reducible refine (specTagsBytes_t (hs.kept g2) HOK).mono ?_); rintro e w3 ⟨v3, rfl, o3, g3⟩
      go_wp2_with fail
      (with_reducible refine (same_c (o2.s.kept g3) o3.s).mono ?_); rintro e w4 ⟨rfl, g4⟩
      have G4 := (((g1.trans g2).trans g3).trans g4)
      have o4 := o2.s.kept (g3.trans g4)
      have hs4 := hs.kept ((g2.trans g3).trans g4)
      obtain ⟨q, cq, rfl, _, _⟩ := hs4.form
      obtain ⟨q2, cq2, rfl, _, _⟩ := o4.form
      have hlen := tagsBytes_len HOK.out
      have HL := Lib.hid hlen
      have HS := Lib.hid (sumLen_tagsBytes ts)
      clear hlen o2 o3 hs
      go_wp2_with fail
      go_loop [8, 9] (fun n i => ∃ k : Nat, k ≤ ts.length ∧ i = .int .i64 k ∧ n = .int .i64 ((3 * ts.length + sumLen (ts.take k) : Nat) : Int)) (fun _ i => ts.length - (intOf i).toNat)
      case atStart => exact ⟨0, Nat.zero_le _, rfl, by simp [sumLen]⟩
      case round =>
        obtain ⟨k, hk, rfl, rfl⟩ := hrel
        by_cases hlt : k < ts.length
        · obtain ⟨a, q, cq, hix, hca, hcb, hrow⟩ := hs4.ix hlt
          have hst := sumLen_step hlt
          have hb := HL.out (k+1)
          have hb1 : 3 * (k + 1) + sumLen (ts.take (k+1)) ≤ 76 := by
            rw [sumLen_tagsBytes, List.length_take] at hb; omega
          have HST := Lib.hid hst
          have hb2 : ((3 * ts.length + sumLen (ts.take k) : Nat) : Int) + ((nthT ts k).2.length : Int) ≤ 1000 := by omega
          clear hst hb hb1
          go_wp2
          go_round
          case rel => exact ⟨k+1, by omega, by go_num, by rw [HST.out]; go_num⟩
          case measure => simp [intOf]; omega
        · obtain rfl : k = ts.length := by omega
          go_wp2
          go_ret
          exact ⟨ret_bool (by rw [beq_iff_eq]; have := HS.out; omega), G4⟩
  · have hx' : ¬ ((bs.length : Int) ≤ 1048576) := by omega
    go_enter Try.func7, Try.ntmps7
    go_wp2_with fail
    go_ret
    exact ⟨rfl, Gr.refl _⟩
end Go.Proofs.Ytjfijmfmomeikaa
