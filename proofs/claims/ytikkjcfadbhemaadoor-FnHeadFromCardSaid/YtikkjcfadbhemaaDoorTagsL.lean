/- Tags and their bytes, there and back; the law FnTags. -/
import Derived.Test.YtikkjcfadbhemaaDoorGC
import Derived.Test.YtikkjcfadbhemaaDoorGH
namespace Go.Proofs.YtikkjcfadbhemaaDoor
open Go.RowKit
theorem at_tag (A C : List Int) (t : Tag) (h : t.2.length ≤ 65535) :
    lenAt (A ++ (tagBytes t ++ C)) A.length = t.2.length ∧ tagAt (A ++ (tagBytes t ++ C)) A.length = t ∧ ¬ badAt (A ++ (tagBytes t ++ C)) A.length ∧ A.length < (A ++ (tagBytes t ++ C)).length := by
  have e : ∀ j, (A ++ (tagBytes t ++ C)).drop (A.length + j) = (tagBytes t ++ C).drop j := by
    intro j
    rw [← List.drop_drop, List.drop_left]
  have e1 : lenAt (A ++ (tagBytes t ++ C)) A.length = t.2.length := by
    unfold lenAt
    rw [e 1]
    have : ((tagBytes t ++ C).drop 1).take 2 = num2 t.2.length := by simp [tagBytes, num2]
    rw [this]
    simp [numOf, num2]
    omega
  have hl : (A ++ (tagBytes t ++ C)).length = A.length + (3 + t.2.length + C.length) := by simp [tagBytes, num2]; omega
  refine ⟨e1, ?_, ?_, ?_⟩
  · unfold tagAt
    rw [e1, e 3]
    have h0 : nth (A ++ (tagBytes t ++ C)) A.length = t.1 := by
      have := nth_drop (A ++ (tagBytes t ++ C)) A.length 0
      rw [Nat.add_zero] at this
      rw [← this]
      have := e 0
      rw [Nat.add_zero] at this
      rw [this]
      simp [tagBytes, nth]
    rw [h0]
    have h3 : ((tagBytes t ++ C).drop 3).take t.2.length = t.2 := by simp [tagBytes, num2]
    rw [h3]
  · unfold badAt; rw [e1, hl]; omega
  · rw [hl]; omega
theorem tagOk_len {ts : List Tag} (h : tagsOk ts = true) {t : Tag} (ht : t ∈ ts) : t.2.length ≤ 16 := by
  simp only [tagsOk, Bool.and_eq_true, List.all_eq_true] at h
  have := h.2 t ht
  simp only [tagOk, Bool.and_eq_true, decide_eq_true_eq] at this
  exact this.2.1
theorem cut_bytes {ts : List Tag} (h : tagsOk ts = true) : ∀ k, k ≤ ts.length → CutTo (tagsBytes ts) (tagsBytes (ts.take k)).length (ts.take k) := by
  intro k
  induction k with
  | zero => intro _; exact CutTo.start _
  | succ k ih =>
    intro hk
    have ih' := ih (by omega)
    have hs := tagsBytes_step (ts := ts) (k := k) (by omega)
    have hsplit : tagsBytes ts = tagsBytes (ts.take k) ++ (tagBytes (nthT ts k) ++ tagsBytes (ts.drop (k+1))) := by
      rw [← List.append_assoc, ← hs, ← tagsBytes_app, List.take_append_drop]
    have hm : nthT ts k ∈ ts := by rw [nthT_eq (by omega)]; exact List.getElem_mem _
    have ht := tagOk_len h hm
    obtain ⟨a1, a2, a3, a4⟩ := at_tag (tagsBytes (ts.take k)) (tagsBytes (ts.drop (k+1))) (nthT ts k) (by omega)
    rw [← hsplit] at a1 a2 a3 a4
    have := ih'.next a4 a3
    rw [a1, a2] at this
    have e : ts.take (k+1) = ts.take k ++ [nthT ts k] := by rw [List.take_succ_eq_append_getElem (by omega), nthT_eq]
    rw [hs, e]
    have e2 : (tagsBytes (ts.take k) ++ tagBytes (nthT ts k)).length = (tagsBytes (ts.take k)).length + 3 + (nthT ts k).2.length := by simp [tagBytes, num2]; omega
    rw [e2]; exact this
theorem bv_flat {xss : List (List Int)} (h : ∀ xs ∈ xss, bytesOnly xs) : bytesOnly xss.flatten := by
  intro x hx
  obtain ⟨xs, h1, h2⟩ := List.mem_flatten.1 hx
  exact h xs h1 x h2
theorem bv_of {xs : List Int} (h : bytesOnly xs) (hl : xs.length ≤ 120) : bv xs = true := by
  simp only [bv, Bool.and_eq_true, List.all_eq_true, decide_eq_true_eq]
  exact ⟨fun x hx => inB_iff.2 (h x hx), hl⟩
theorem tagsBytes_bv {ts : List Tag} (h : tagsOk ts = true) : bytesOnly (tagsBytes ts) := by
  refine bv_flat fun xs hx => ?_
  obtain ⟨t, ht, rfl⟩ := List.mem_map.1 hx
  have hl := tagOk_len h ht
  simp only [tagsOk, Bool.and_eq_true, List.all_eq_true] at h
  have h2 := h.2 t ht
  simp only [tagOk, Bool.and_eq_true, decide_eq_true_eq] at h2
  have h3 := inB_iff.1 h2.1
  have h4 := bv_bytes h2.2.2
  intro x hx
  simp only [tagBytes, num2, List.mem_cons, List.mem_append, List.not_mem_nil, or_false] at hx
  rcases hx with rfl | (rfl | rfl) | hx
  · exact h3
  · omega
  · omega
  · exact h4 x hx
theorem tagsFrom_bytes {ts : List Tag} (h : tagsOk ts = true) : tagsFrom (tagsBytes ts) = some ts := by
  have h1 := cut_bytes h ts.length (Nat.le_refl _)
  rw [List.take_length] at h1
  have h2 := tagsBytes_len h ts.length
  rw [List.take_length] at h2
  rw [h1.done (by omega) (bv_of (tagsBytes_bv h) (by omega)), if_pos h]
theorem sameTag_c {w : World} {v u : Value} {x : Int} {xs : List Int} (hv : IntS w v xs) (hu : IntS w u xs) :
    Calls Tryd.prog 79 #[.agg #[.int .i64 x, v], .agg #[.int .i64 x, u]] w fun e w' => e = .returned (.bool true) ∧ Gr w w' := by
  obtain ⟨p, c, rfl, _, _⟩ := hv.form
  obtain ⟨q, d, rfl, _, _⟩ := hu.form
  have hg := (gr_alloc w (.cells #[.int .i64 x, .slice p xs.length c] 83)).alloc (.cells #[.int .i64 x, .slice q xs.length d] 83)
  go_enter Tryd.func79, Tryd.ntmps79
  go_wp2_with fail
  (with_reducible refine (same_c (hv.kept hg) (hu.kept hg)).mono ?_); rintro e w1 ⟨rfl, g1⟩
  go_wp2
  go_ret
  exact ⟨rfl, hg.trans g1⟩
theorem sameTags_c {w : World} {v u : Value} {ts : List Tag} (h : TagS w v ts) (hu : TagS w u ts) :
    Calls Tryd.prog 39 #[v, u] w fun e w' => e = .returned (.bool true) ∧ Gr w w' := by
  obtain ⟨p, c, rfl, _, _⟩ := h.form
  obtain ⟨q, d, rfl, _, _⟩ := hu.form
  go_enter Tryd.func39, Tryd.ntmps39
  go_wp2_with fail
  go_loopw [5] (fun i wr => ∃ k : Nat, k ≤ ts.length ∧ i = .int .i64 k ∧ Gr w wr) (fun i _ => ts.length - (intOf i).toNat)
  case atStart => exact ⟨0, Nat.zero_le _, rfl, Gr.refl _⟩
  case round =>
    obtain ⟨k, hk, rfl, hgr⟩ := hrel
    by_cases hlt : k < ts.length
    · obtain ⟨a, qa, ca, hixa, ha1, ha2, hra⟩ := (h.kept hgr).ix hlt
      obtain ⟨b, qb, cb, hixb, hb1, hb2, hrb⟩ := (hu.kept hgr).ix hlt
      go_wp2_with fail
      go_region_held3 (fun w' => w'.cell? a = some (.int .i64 (nthT ts k).1) ∧ w'.cell? ⟨a.block, a.off + 1, none⟩ = some (.slice qa (nthT ts k).2.length ca) ∧ w'.cell? b = some (.int .i64 (nthT ts k).1) ∧ w'.cell? ⟨b.block, b.off + 1, none⟩ = some (.slice qb (nthT ts k).2.length cb)) (first | (exact ⟨g1.cell ha1, g1.cell ha2, g1.cell hb1, g1.cell hb2⟩) | go_keep) (first | (go_at_call 79; (with_reducible refine (sameTag_c (hra.kept ((Gr.refl _).drew)) (hrb.kept ((Gr.refl _).drew))).mono ?_); rintro e w1 ⟨rfl, g1'⟩; have g1 : Gr wr w1 := g1'.undrew) | (go_at_call 79; (with_reducible refine (sameTag_c hra hrb).mono ?_); rintro e w1 ⟨rfl, g1⟩))
      go_wp2
      go_roundw
      case rel => exact ⟨k+1, by omega, by go_num, hgr.trans g1⟩
      case measure => simp [intOf]; omega
    · go_wp2
      go_ret
      exact ⟨rfl, hgr⟩
theorem implTagsFrom_t {w : World} {v : Value} {xs : List Int} {ts : List Tag} (h : IntS w v xs) (hlen : xs.length ≤ 1048576) (ht : Hid (tagsFrom xs = some ts)) :
    Calls Tryd.prog 77 #[v] w fun e w' => ∃ v' T, e = .returned (.tuple #[v', .bool true]) ∧ TagO w.heap.size T w' v' ts ∧ T ≤ w'.heap.size ∧ Gr w w' := by
  have := implTagsFrom_c h hlen
  unfold FromR at this
  rw [ht.out] at this
  exact this
end Go.Proofs.YtikkjcfadbhemaaDoor
