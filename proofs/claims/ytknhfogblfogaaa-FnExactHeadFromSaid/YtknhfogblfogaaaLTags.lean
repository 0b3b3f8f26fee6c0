/- The walks of laws.FnTagsMore, FnTagsPart, FnTagsSize. -/
import Derived.Test.YtknhfogblfogaaaTagP
namespace Go.Proofs.Ytknhfogblfogaaa
open Go.RowKit
theorem same_c {w : World} {v u : Value} {xs : List Int} (h : IntS w v xs) (hu : IntS w u xs) :
    Calls Try.prog 24 #[v, u] w fun e w' => e = .returned (.bool true) ∧ Gr w w' := by
  refine (sameBytes_c h hu).mono ?_
  rintro e w' ⟨rfl, hg⟩
  exact ⟨by simp, hg⟩
theorem wpl_appIg {w : World} {ops : Array Oper} {rest : List Oper} {o : Oper} {a : Act} {Q : Exit → Act → World → Prop} (hw : Region.wanted o (yielded ops a.tmps) = true) (s x : Operand)
    (ho : o.op = .call { callee := .builtin .append, args := #[s, x], argTypes := #[22, 22] })
    {B : Nat} {v : Value} {xs : List Int} (hs : a.eval s = v) (hown : IntO B 3 w v xs) {xv : Value} {ys : List Int} (hx : a.eval x = xv) (hrow : IntS w xv ys)
    (hb : xs.length + ys.length ≤ 1000000000000) (hB : B ≤ w.heap.size)
    (h : ∀ v' w', IntO B 3 w' v' (xs ++ ys) → Below B w w' → wpList Try.prog ops Q rest (a.put o.dst v') w') : wpList Try.prog ops Q (o :: rest) a w := by
  obtain ⟨i0, hi, hz, hs', hby⟩ := infoI
  refine wpList_step fun K hK => ?_
  rw [if_pos hw]
  obtain ⟨v', w', hr, h2, h3⟩ := Own.append (P := Try.prog) w (ty := o.type) uI hi hz hs' hby rfl (by decide) hown hrow (ints_one _) (by omega) (by decide) hB
  unfold Oper.wp execOp
  simp only [ho, resolve, invoke, builtin, Sem.run_bind, Sem.run_pure, Result.andThen_ok, List.map_toArray, List.map_cons, List.map_nil, hs, hx, hr]
  refine hK _ _ (h v' w' ?_ h3)
  unfold IntO; rw [ints_append, List.length_append]; exact h2
/-- append of whole tags. -/
theorem wpl_appR {w : World} {ops : Array Oper} {rest : List Oper} {o : Oper} {a : Act} {Q : Exit → Act → World → Prop} (hgd : o.guard = none) (s x : Operand)
    (ho : o.op = .call { callee := .builtin .append, args := #[s, x], argTypes := #[27, 27] })
    {B n : Nat} {v : Value} {cs : List Value} (hs : a.eval s = v) (hown : Own B 60 2 w v n cs) {xv : Value} {m : Nat} {ds : List Value} (hx : a.eval x = xv) (hrow : Row w 2 xv m ds) (h1 : ∀ u ∈ ds, u.oneCell' = true)
    (hb : n + m ≤ 1000000000) (hB : B ≤ w.heap.size)
    (h : ∀ v' w', Own B 60 2 w' v' (n + m) (cs ++ ds) → Below B w w' → wpList Try.prog ops Q rest (a.put o.dst v') w') : wpList Try.prog ops Q (o :: rest) a w := by
  obtain ⟨i0, hi, hz, hs', hby⟩ := infoT
  exact wpl_append w hgd s x _ ho uT hi hz hs' hby rfl (by decide) (by decide) hs hown hx hrow h1 (by omega) hB h
theorem TagS.row {w : World} {v : Value} {ts : List Tag} (h : TagS w v ts) : ∃ ds : List Value, ds.length = ts.length ∧ Row w 2 v ts.length (tagCells ts ds) ∧ (∀ u ∈ tagCells ts ds, u.oneCell' = true) ∧ ∀ k, k < ts.length → IntS w (nthV ds k) (nthT ts k).2 := by
  obtain ⟨ds, h0, h1, h2⟩ := h
  refine ⟨ds, h0, h1, fun u hu => ?_, h2⟩
  unfold tagCells at hu
  obtain ⟨c, hc, hu'⟩ := List.mem_flatten.1 hu
  obtain ⟨k, hk, rfl⟩ := List.mem_map.1 hc
  have hk' : k < ts.length := by simpa using hk
  obtain ⟨q, cq, hv, _⟩ := (h2 k hk').form
  simp only [List.mem_cons, List.not_mem_nil, or_false] at hu'
  rcases hu' with rfl | rfl
  · rfl
  · rw [hv]; rfl
theorem TagS.mk {w : World} {v : Value} {ts : List Tag} {ds : List Value} (h0 : ds.length = ts.length) (h1 : Row w 2 v ts.length (tagCells ts ds)) (h2 : ∀ k, k < ts.length → IntS w (nthV ds k) (nthT ts k).2) : TagS w v ts := ⟨ds, h0, h1, h2⟩
theorem IntS.nil (w : World) : IntS w (.slice none 0 0) [] := (IntO.nil 0 3 w).s
theorem IntO.three {w : World} {x y z : Int} {m : Nat} (hm : m = w.heap.size) : IntO w.heap.size 3 (w.alloc (.cells #[.int .i64 x, .int .i64 y, .int .i64 z] 3)) (.slice (some ⟨m, 0, none⟩) 3 3) [x, y, z] := by
  subst hm; exact Own.lit w #[.int .i64 x, .int .i64 y, .int .i64 z] 3 (Nat.le_refl _) (by decide) rfl
theorem tagsOk_more {ts : List Tag} (h : tagsOk ts = true) (hl : ts.length < 4) : tagsOk (ts ++ [(7, [])]) = true := by
  simp only [tagsOk, Bool.and_eq_true, decide_eq_true_eq, List.length_append, List.all_append] at h ⊢
  exact ⟨by simp; omega, h.2, by decide⟩
theorem nthT_take {ts : List Tag} {k j : Nat} (h : j < k) : nthT (ts.take k) j = nthT ts j := by simp [nthT, h]
theorem nthT_drop (ts : List Tag) (k j : Nat) : nthT (ts.drop k) j = nthT ts (k + j) := by simp [nthT, List.getElem?_drop]
theorem nthV_take {ds : List Value} {k j : Nat} (h : j < k) : nthV (ds.take k) j = nthV ds j := by simp [nthV, h]
theorem nthV_drop (ds : List Value) (k j : Nat) : nthV (ds.drop k) j = nthV ds (k + j) := by simp [nthV, List.getElem?_drop]
theorem tagCells_take {ts : List Tag} {ds : List Value} {k : Nat} (hk : k ≤ ts.length) : tagCells (ts.take k) (ds.take k) = (tagCells ts ds).take (k * 2) := by
  refine list_ext2 (n := k) (by rw [tagCells_len, List.length_take]; omega) (by rw [List.length_take, tagCells_len]; omega) fun j hj => ?_
  have h1 := tagCells_get (ts := ts.take k) (ds := ds.take k) (k := j) (by rw [List.length_take]; omega)
  have h2 := tagCells_get (ds := ds) (show j < ts.length by omega)
  rw [h1.1, h1.2, List.getElem?_take, List.getElem?_take, if_pos (by omega), if_pos (by omega), h2.1, h2.2, nthT_take hj, nthV_take hj]
  exact ⟨rfl, rfl⟩
theorem tagCells_drop {ts : List Tag} {ds : List Value} {k : Nat} (hk : k ≤ ts.length) : tagCells (ts.drop k) (ds.drop k) = (tagCells ts ds).drop (k * 2) := by
  refine list_ext2 (n := ts.length - k) (by rw [tagCells_len, List.length_drop]) (by rw [List.length_drop, tagCells_len]; omega) fun j hj => ?_
  have h1 := tagCells_get (ts := ts.drop k) (ds := ds.drop k) (k := j) (by rw [List.length_drop]; omega)
  have h2 := tagCells_get (ds := ds) (show k + j < ts.length by omega)
  rw [h1.1, h1.2, List.getElem?_drop, List.getElem?_drop, show k * 2 + j * 2 = (k + j) * 2 by omega, show k * 2 + (j * 2 + 1) = (k + j) * 2 + 1 by omega, h2.1, h2.2, nthT_drop, nthV_drop]
  exact ⟨rfl, rfl⟩
theorem TagS.pre {w : World} {v : Value} {ts : List Tag} (h : TagS w v ts) {k : Nat} (hk : k ≤ ts.length) :
    ∃ v' : Value, (∀ w1, (Instr.slice 27 v none (some (.int .i64 (k : Int))) none).run Try.prog w1 = .ok v' w1) ∧ TagS w v' (ts.take k) := by
  obtain ⟨i0, hi, hz, hs, hby⟩ := infoT
  obtain ⟨ds, h0, h1, _, h2⟩ := h.row
  obtain ⟨v', f1, f2⟩ := Row.cut h1 uT hi hs (Nat.zero_le k) hk
  refine ⟨v', fun w1 => ?_, TagS.mk (ds := ds.take k) (by simp [h0]) ?_ fun j hj => ?_⟩
  · rw [← f1 w1]
    obtain ⟨p, cap, rfl, hl1, hl2⟩ := h.form
    simp [Instr.slice, run_underlying uT, Instr.sliceBounds, Instr.sliceBound, asIntOf, sizeOf, typeInfo, hi, show k ≤ cap by omega]
  · rw [tagCells_take hk, List.length_take, show min k ts.length = k by omega]; simpa using f2
  · rw [List.length_take] at hj
    rw [nthV_take (by omega), nthT_take (by omega)]; exact h2 j (by omega)
theorem TagS.suf {w : World} {v : Value} {ts : List Tag} (h : TagS w v ts) {k : Nat} (hk : k ≤ ts.length) :
    ∃ v' : Value, (∀ w1, (Instr.slice 27 v (some (.int .i64 (k : Int))) none none).run Try.prog w1 = .ok v' w1) ∧ TagS w v' (ts.drop k) := by
  obtain ⟨i0, hi, hz, hs, hby⟩ := infoT
  obtain ⟨ds, h0, h1, _, h2⟩ := h.row
  obtain ⟨v', f1, f2⟩ := Row.cut h1 uT hi hs hk (Nat.le_refl _)
  refine ⟨v', fun w1 => ?_, TagS.mk (ds := ds.drop k) (by simp [h0]) ?_ fun j hj => ?_⟩
  · rw [← f1 w1]
    obtain ⟨p, cap, rfl, hl1, hl2⟩ := h.form
    simp [Instr.slice, run_underlying uT, Instr.sliceBounds, Instr.sliceBound, asIntOf, sizeOf, typeInfo, hi, hl1, hk]
  · rw [tagCells_drop hk, List.length_drop]
    rw [List.take_of_length_le (by rw [List.length_drop, tagCells_len]; omega)] at f2
    exact f2
  · rw [List.length_drop] at hj
    rw [nthV_drop, nthT_drop]; exact h2 (k + j) (by omega)
theorem tagsOk_take {ts : List Tag} (h : tagsOk ts = true) (k : Nat) : tagsOk (ts.take k) = true := by
  simp only [tagsOk, Bool.and_eq_true, decide_eq_true_eq, List.all_eq_true] at h ⊢
  exact ⟨by rw [List.length_take]; omega, fun x hx => h.2 x (List.mem_of_mem_take hx)⟩
theorem tagsOk_drop {ts : List Tag} (h : tagsOk ts = true) (k : Nat) : tagsOk (ts.drop k) = true := by
  simp only [tagsOk, Bool.and_eq_true, decide_eq_true_eq, List.all_eq_true] at h ⊢
  exact ⟨by rw [List.length_drop]; omega, fun x hx => h.2 x (List.mem_of_mem_drop hx)⟩
def sumLen (ts : List Tag) : Nat := (ts.map fun t => t.2.length).sum
theorem sumLen_step {ts : List Tag} {k : Nat} (h : k < ts.length) : sumLen (ts.take (k+1)) = sumLen (ts.take k) + (nthT ts k).2.length := by
  unfold sumLen; rw [List.take_succ_eq_append_getElem h, nthT_eq h, List.map_append, List.sum_append]; simp
theorem sumLen_tagsBytes (ts : List Tag) : (tagsBytes ts).length = 3 * ts.length + sumLen ts := by
  induction ts with
  | nil => rfl
  | cons t ts ih =>
    have h1 : tagsBytes (t :: ts) = tagBytes t ++ tagsBytes ts := by simp [tagsBytes]
    have h2 : (tagBytes t).length = 3 + t.2.length := by simp [tagBytes, num2]; omega
    have h3 : sumLen (t :: ts) = t.2.length + sumLen ts := by simp [sumLen]
    rw [h1, List.length_append, ih, h2, h3, List.length_cons]; omega
end Go.Proofs.Ytknhfogblfogaaa
