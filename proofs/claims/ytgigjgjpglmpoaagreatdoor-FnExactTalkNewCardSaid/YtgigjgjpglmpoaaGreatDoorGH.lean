/- The walk of laws.FnExactFeedPut.
The walks of laws.FnTagsMore, FnTagsPart, FnTagsSize.
laws.eqTag, laws.eqTagS, laws.heldTagS.
laws.markTagS.
laws.markTagS: the walk.
The walk of laws.FnExactTagsFrom. -/
import Derived.Test.YtgigjgjpglmpoaaGreatDoorGA
import Derived.Test.YtgigjgjpglmpoaaGreatDoorGB
import Derived.Test.YtgigjgjpglmpoaaGreatDoorGC
namespace Go.Proofs.YtgigjgjpglmpoaaGreatDoor
open Go.RowKit
theorem eqI_same {w : World} {v u : Value} {xs : List Int} (h : IntS w v xs) (hu : IntS w u xs) :
    Calls Tryz.prog 10 #[v, u] w fun e w' => e = .returned (.bool true) ∧ Gr w w' := by
  refine (eqIntS_c h hu).mono ?_
  rintro e w' ⟨rfl, hg⟩
  exact ⟨by simp, hg⟩
theorem feedPut_len (xs ys : List Int) : (feedPut xs ys).1.length ≤ 120 := by
  unfold feedPut; split
  · rename_i h; simp only [bv, Bool.and_eq_true, decide_eq_true_eq] at h; exact h.2
  · simp
end Go.Proofs.YtgigjgjpglmpoaaGreatDoor
namespace Go.Proofs.YtgigjgjpglmpoaaGreatDoor
open Go.RowKit
theorem wpl_appIg {w : World} {ops : Array Oper} {rest : List Oper} {o : Oper} {a : Act} {Q : Exit → Act → World → Prop} (hw : Region.wanted o (yielded ops a.tmps) = true) (s x : Operand)
    (ho : o.op = .call { callee := .builtin .append, args := #[s, x], argTypes := #[22, 22] })
    {B : Nat} {v : Value} {xs : List Int} (hs : a.eval s = v) (hown : IntO B 3 w v xs) {xv : Value} {ys : List Int} (hx : a.eval x = xv) (hrow : IntS w xv ys)
    (hb : xs.length + ys.length ≤ 1000000000000) (hB : B ≤ w.heap.size)
    (h : ∀ v' w', IntO B 3 w' v' (xs ++ ys) → Below B w w' → wpList Tryz.prog ops Q rest (a.put o.dst v') w') : wpList Tryz.prog ops Q (o :: rest) a w := by
  obtain ⟨i0, hi, hz, hs', hby⟩ := infoI
  refine wpList_step fun K hK => ?_
  rw [if_pos hw]
  obtain ⟨v', w', hr, h2, h3⟩ := Own.append (P := Tryz.prog) w (ty := o.type) uI hi hz hs' hby rfl (by decide) hown hrow (ints_one _) (by omega) (by decide) hB
  unfold Oper.wp execOp
  simp only [ho, resolve, invoke, builtin, Sem.run_bind, Sem.run_pure, Result.andThen_ok, List.map_toArray, List.map_cons, List.map_nil, hs, hx, hr]
  refine hK _ _ (h v' w' ?_ h3)
  unfold IntO; rw [ints_append, List.length_append]; exact h2
theorem TagS.row {w : World} {v : Value} {ts : List Tag} (h : TagS w v ts) : ∃ ds : List Value, ds.length = ts.length ∧ Row w 2 v ts.length (tagCells ts ds) ∧ (∀ u ∈ tagCells ts ds, u.oneCell' = true) ∧ ∀ k, k < ts.length → IntS w (nthV ds k) (nthT ts k).2 := by
  obtain ⟨ds, h0, h1, h2⟩ := h
  refine ⟨ds, h0, h1, fun u hu => ?_, h2⟩
  unfold tagCells at hu
  obtain ⟨c, hc, hu'⟩ := List.mem_flatten.1 hu
  obtain ⟨k, hk, rfl⟩ := List.mem_map.1 hc
  have hk' : k < ts.length := by simpa using hk
  obtain ⟨q, cq, hv, _⟩ := (h2 k hk').form
  simp only [List.mem_cons, List.not_mem_nil, or_false] at hu'
  rcases hu' with rfl | rfl
  · rfl
  · rw [hv]; rfl
theorem TagS.mk {w : World} {v : Value} {ts : List Tag} {ds : List Value} (h0 : ds.length = ts.length) (h1 : Row w 2 v ts.length (tagCells ts ds)) (h2 : ∀ k, k < ts.length → IntS w (nthV ds k) (nthT ts k).2) : TagS w v ts := ⟨ds, h0, h1, h2⟩
theorem IntS.nil (w : World) : IntS w (.slice none 0 0) [] := (IntO.nil 0 3 w).s
theorem IntO.three {w : World} {x y z : Int} {m : Nat} (hm : m = w.heap.size) : IntO w.heap.size 3 (w.alloc (.cells #[.int .i64 x, .int .i64 y, .int .i64 z] 3)) (.slice (some ⟨m, 0, none⟩) 3 3) [x, y, z] := by
  subst hm; exact Own.lit w #[.int .i64 x, .int .i64 y, .int .i64 z] 3 (Nat.le_refl _) (by decide) rfl
theorem tagsOk_more {ts : List Tag} (h : tagsOk ts = true) (hl : ts.length < 4) : tagsOk (ts ++ [(7, [])]) = true := by
  simp only [tagsOk, Bool.and_eq_true, decide_eq_true_eq, List.length_append, List.all_append] at h ⊢
  exact ⟨by simp; omega, h.2, by decide⟩
theorem nthT_take {ts : List Tag} {k j : Nat} (h : j < k) : nthT (ts.take k) j = nthT ts j := by simp [nthT, h]
theorem nthT_drop (ts : List Tag) (k j : Nat) : nthT (ts.drop k) j = nthT ts (k + j) := by simp [nthT, List.getElem?_drop]
theorem nthV_take {ds : List Value} {k j : Nat} (h : j < k) : nthV (ds.take k) j = nthV ds j := by simp [nthV, h]
theorem nthV_drop (ds : List Value) (k j : Nat) : nthV (ds.drop k) j = nthV ds (k + j) := by simp [nthV, List.getElem?_drop]
theorem tagCells_take {ts : List Tag} {ds : List Value} {k : Nat} (hk : k ≤ ts.length) : tagCells (ts.take k) (ds.take k) = (tagCells ts ds).take (k * 2) := by
  refine list_ext2 (n := k) (by rw [tagCells_len, List.length_take]; omega) (by rw [List.length_take, tagCells_len]; omega) fun j hj => ?_
  have h1 := tagCells_get (ts := ts.take k) (ds := ds.take k) (k := j) (by rw [List.length_take]; omega)
  have h2 := tagCells_get (ds := ds) (show j < ts.length by omega)
  rw [h1.1, h1.2, List.getElem?_take, List.getElem?_take, if_pos (by omega), if_pos (by omega), h2.1, h2.2, nthT_take hj, nthV_take hj]
  exact ⟨rfl, rfl⟩
theorem tagCells_drop {ts : List Tag} {ds : List Value} {k : Nat} (hk : k ≤ ts.length) : tagCells (ts.drop k) (ds.drop k) = (tagCells ts ds).drop (k * 2) := by
  refine list_ext2 (n := ts.length - k) (by rw [tagCells_len, List.length_drop]) (by rw [List.length_drop, tagCells_len]; omega) fun j hj => ?_
  have h1 := tagCells_get (ts := ts.drop k) (ds := ds.drop k) (k := j) (by rw [List.length_drop]; omega)
  have h2 := tagCells_get (ds := ds) (show k + j < ts.length by omega)
  rw [h1.1, h1.2, List.getElem?_drop, List.getElem?_drop, show k * 2 + j * 2 = (k + j) * 2 by omega, show k * 2 + (j * 2 + 1) = (k + j) * 2 + 1 by omega, h2.1, h2.2, nthT_drop, nthV_drop]
  exact ⟨rfl, rfl⟩
theorem tagsOk_take {ts : List Tag} (h : tagsOk ts = true) (k : Nat) : tagsOk (ts.take k) = true := by
  simp only [tagsOk, Bool.and_eq_true, decide_eq_true_eq, List.all_eq_true] at h ⊢
  exact ⟨by rw [List.length_take]; omega, fun x hx => h.2 x (List.mem_of_mem_take hx)⟩
theorem tagsOk_drop {ts : List Tag} (h : tagsOk ts = true) (k : Nat) : tagsOk (ts.drop k) = true := by
  simp only [tagsOk, Bool.and_eq_true, decide_eq_true_eq, List.all_eq_true] at h ⊢
  exact ⟨by rw [List.length_drop]; omega, fun x hx => h.2 x (List.mem_of_mem_drop hx)⟩
def sumLen (ts : List Tag) : Nat := (ts.map fun t => t.2.length).sum
theorem sumLen_step {ts : List Tag} {k : Nat} (h : k < ts.length) : sumLen (ts.take (k+1)) = sumLen (ts.take k) + (nthT ts k).2.length := by
  unfold sumLen; rw [List.take_succ_eq_append_getElem h, nthT_eq h, List.map_append, List.sum_append]; simp
theorem sumLen_tagsBytes (ts : List Tag) : (tagsBytes ts).length = 3 * ts.length + sumLen ts := by
  induction ts with
  | nil => rfl
  | cons t ts ih =>
    have h1 : tagsBytes (t :: ts) = tagBytes t ++ tagsBytes ts := by simp [tagsBytes]
    have h2 : (tagBytes t).length = 3 + t.2.length := by simp [tagBytes, num2]; omega
    have h3 : sumLen (t :: ts) = t.2.length + sumLen ts := by simp [sumLen]
    rw [h1, List.length_append, ih, h2, h3, List.length_cons]; omega
end Go.Proofs.YtgigjgjpglmpoaaGreatDoor
namespace Go.Proofs.YtgigjgjpglmpoaaGreatDoor
open Go.RowKit
/-- How many numbers the first tags hold. -/
def cnt : List Tag → Nat
  | [] => 0
  | t :: ts => 1 + t.2.length + cnt ts
theorem cnt_app (xs ys : List Tag) : cnt (xs ++ ys) = cnt xs + cnt ys := by
  induction xs with
  | nil => simp [cnt]
  | cons x xs ih => simp [cnt, ih]; omega
theorem cnt_step {ts : List Tag} {k : Nat} (h : k < ts.length) : cnt (ts.take (k+1)) = cnt (ts.take k) + 1 + (nthT ts k).2.length := by
  rw [List.take_succ_eq_append_getElem h, cnt_app, nthT_eq h]; simp [cnt]; omega
theorem cnt_le {ts : List Tag} (k : Nat) : cnt (ts.take k) ≤ cnt ts := by
  have := cnt_app (ts.take k) (ts.drop k)
  rw [List.take_append_drop] at this
  omega
/-- Tag k, marked. -/
def markAt (k0 : Nat) (ts : List Tag) (k : Nat) : Tag := (((k0 + cnt (ts.take k) : Nat) : Int), upFrom ((k0 + cnt (ts.take k) : Nat) + 1) (nthT ts k).2.length)
def marks (k0 : Nat) (ts : List Tag) : List Tag := (List.range ts.length).map (markAt k0 ts)
theorem marks_len (k0 : Nat) (ts : List Tag) : (marks k0 ts).length = ts.length := by simp [marks]
theorem marks_at {k0 : Nat} {ts : List Tag} {k : Nat} (h : k < ts.length) : nthT (marks k0 ts) k = markAt k0 ts k := by
  rw [nthT_eq (by rw [marks_len]; exact h)]; simp [marks]
end Go.Proofs.YtgigjgjpglmpoaaGreatDoor
namespace Go.Proofs.YtgigjgjpglmpoaaGreatDoor
open Go.RowKit
theorem tagCells_setC {ts : List Tag} {ds : List Value} {k : Nat} (hk : k < ts.length) (x : Int) :
    (tagCells ts ds).set (k * 2) (.int .i64 x) = tagCells (ts.set k (x, (nthT ts k).2)) ds := by
  refine list_ext2 (n := ts.length) (by rw [List.length_set, tagCells_len]) (by rw [tagCells_len, List.length_set]) fun j hj => ?_
  have hg := tagCells_get (ds := ds) hj
  have hg' := tagCells_get (ts := ts.set k (x, (nthT ts k).2)) (ds := ds) (k := j) (by simpa using hj)
  rw [hg'.1, hg'.2, nthT_set hk]
  by_cases e : j = k
  · subst e
    refine ⟨?_, ?_⟩
    · rw [List.getElem?_set_self (by rw [tagCells_len]; omega)]; simp
    · rw [List.getElem?_set_ne (by omega), hg.2]
  · refine ⟨?_, ?_⟩
    · rw [List.getElem?_set_ne (by omega), hg.1]; simp [e]
    · rw [List.getElem?_set_ne (by omega), hg.2]
theorem OwnB.narrow {B T e sz : Nat} {w : World} {v : Value} {n : Nat} {cs : List Value} (h : OwnB B T e sz w v n cs) {b : Nat} (hb : v.ownBlock = some b) : B ≤ b ∧ b < T ∧ OwnB b (b + 1) e sz w v n cs := by
  have hlt := h.2 b hb
  rcases h.1 with ⟨h1, ⟨rfl, h2⟩ | ⟨g, cap, cur, rfl, h4, h5, h6⟩⟩
  · cases hb
  · cases hb
    exact ⟨h4, hlt, ⟨h1, .inr ⟨g, cap, cur, rfl, Nat.le_refl _, h5, h6⟩⟩, fun k hk => by cases hk; exact Nat.lt_succ_self _⟩
theorem OwnB.apart {B T e sz b : Nat} {w w' : World} {v : Value} {n : Nat} {cs : List Value} (h : OwnB B T e sz w v n cs) (hc : Chg b (b + 1) w w') (hne : v.ownBlock ≠ some b) : OwnB B T e sz w' v n cs := by
  cases hv : v.ownBlock with
  | none =>
    rcases h.1 with ⟨h1, ⟨rfl, h2⟩ | ⟨g, cap, cur, rfl, _⟩⟩
    · exact ⟨⟨h1, .inl ⟨rfl, h2⟩⟩, by intro k hk; cases hk⟩
    · cases hv
  | some c =>
    obtain ⟨h1, h2, h3⟩ := h.narrow hv
    have hne' : c ≠ b := fun e => hne (by rw [hv, e])
    exact (h3.chg hc (by omega)).wide h1 (by omega)
theorem tagCells_same {ts : List Tag} {ds : List Value} {k : Nat} (hk : k < ts.length) (ys : List Int) : tagCells (ts.set k ((nthT ts k).1, ys)) ds = tagCells ts ds := by
  refine list_ext2 (n := ts.length) (by rw [tagCells_len, List.length_set]) (by rw [tagCells_len]) fun j hj => ?_
  have hg := tagCells_get (ds := ds) hj
  have hg' := tagCells_get (ts := ts.set k ((nthT ts k).1, ys)) (ds := ds) (k := j) (by simpa using hj)
  rw [hg'.1, hg'.2, hg.1, hg.2, nthT_set hk]
  by_cases e : j = k
  · subst e; simp
  · simp [e]
end Go.Proofs.YtgigjgjpglmpoaaGreatDoor
namespace Go.Proofs.YtgigjgjpglmpoaaGreatDoor
open Go.RowKit
def Half (k0 : Nat) (ts us : List Tag) (k : Nat) : Prop := us.length = ts.length ∧ (∀ j, j < k → nthT us j = markAt k0 ts j) ∧ (∀ j, k ≤ j → nthT us j = nthT ts j)
theorem Half.done {k0 : Nat} {ts us : List Tag} {k : Nat} (h : Half k0 ts us k) (hk : ¬ k < ts.length) : us = marks k0 ts := by
  apply List.ext_getElem
  · rw [h.1, marks_len]
  · intro i h1 h2
    have hi : i < ts.length := by rw [← h.1]; exact h1
    have := h.2.1 i (by omega)
    rw [nthT_eq h1] at this
    rw [this, ← marks_at hi, nthT_eq h2]
theorem Half.next {k0 : Nat} {ts us : List Tag} {k : Nat} (h : Half k0 ts us k) (hk : k < ts.length) {x : Int} {ys : List Int} (he : (x, ys) = markAt k0 ts k) : Half k0 ts (us.set k (x, ys)) (k + 1) := by
  have hl := h.1
  refine ⟨by rw [List.length_set, h.1], fun j hj => ?_, fun j hj => ?_⟩
  · rw [nthT_set (by omega)]
    by_cases e : j = k
    · subst e; simp [he]
    · rw [if_neg e]; exact h.2.1 j (by omega)
  · rw [nthT_set (by omega), if_neg (by omega)]; exact h.2.2 j (by omega)
theorem cnt_ge (ts : List Tag) : ts.length ≤ cnt ts := by
  induction ts with
  | nil => simp
  | cons t ts ih => simp [cnt]; omega
end Go.Proofs.YtgigjgjpglmpoaaGreatDoor
namespace Go.Proofs.YtgigjgjpglmpoaaGreatDoor
open Go.RowKit
def FromIs (xs : List Int) (ok : Bool) (ts : List Tag) : Prop := (tagsFrom xs).isSome = ok ∧ (tagsFrom xs).getD [] = ts
theorem cnt_small {ts : List Tag} (h : ts.all tagOk = true) : cnt ts ≤ 17 * ts.length := by
  induction ts with
  | nil => simp [cnt]
  | cons t ts ih =>
    simp only [List.all_cons, Bool.and_eq_true] at h
    have h1 := ih h.2
    have h2 := h.1
    simp only [tagOk, Bool.and_eq_true, decide_eq_true_eq] at h2
    simp only [cnt, List.length_cons]
    omega
theorem fromIs_cnt {xs : List Int} {ok : Bool} {ts : List Tag} (h : FromIs xs ok ts) : cnt ts ≤ 68 := by
  obtain ⟨_, rfl⟩ := h
  cases hc : tagsFrom xs with
  | none => simp [cnt]
  | some us =>
    have hok : tagsOk us = true := by
      unfold tagsFrom at hc
      split at hc
      · split at hc
        · split at hc
          · rename_i h; cases hc; exact h
          · cases hc
        · cases hc
      · cases hc
    simp only [tagsOk, Bool.and_eq_true, decide_eq_true_eq] at hok
    have := cnt_small hok.2
    simp only [Option.getD_some]
    omega
end Go.Proofs.YtgigjgjpglmpoaaGreatDoor
