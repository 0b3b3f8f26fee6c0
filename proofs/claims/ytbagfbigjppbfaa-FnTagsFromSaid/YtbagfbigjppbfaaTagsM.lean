/- The law FnTagsFrom. -/
import Derived.Test.YtbagfbigjppbfaaTagsL
import Derived.Test.YtbagfbigjppbfaaChg
namespace Go.Proofs.Ytbagfbigjppbfaa
open Go.RowKit
theorem take2_num {xs : List Int} (h : bytesOnly xs) (h2 : xs.length = 2) : num2 (numOf xs) = xs := by
  match xs, h2 with
  | [a, b], _ =>
    have ha := h a (by simp)
    have hb := h b (by simp)
    simp [num2, numOf]
    omega
theorem tag_bytes {xs : List Int} (hby : bytesOnly xs) {p : Nat} (hb : ¬ badAt xs p) : tagBytes (tagAt xs p) = (xs.drop p).take (3 + lenAt xs p) := by
  unfold badAt at hb
  have hL := lenAt_eq hby p
  have h2 := take2_num (bytes_take (bytes_drop hby (p+1)) 2) (by rw [List.length_take, List.length_drop]; omega)
  rw [hL] at h2
  unfold tagBytes tagAt
  simp only []
  have hlen : ((xs.drop (p+3)).take (lenAt xs p)).length = lenAt xs p := by rw [List.length_take, List.length_drop]; omega
  rw [hlen, h2]
  have e1 : xs.drop p = nth xs p :: xs.drop (p+1) := by rw [nth_eq (by omega)]; exact List.drop_eq_getElem_cons (by omega)
  have e3 : (xs.drop (p+1)).take (2 + lenAt xs p) = (xs.drop (p+1)).take 2 ++ (xs.drop (p+3)).take (lenAt xs p) := by
    have := List.take_add (l := xs.drop (p+1)) (i := 2) (j := lenAt xs p)
    rwa [List.drop_drop] at this
  rw [e1, show 3 + lenAt xs p = (2 + lenAt xs p) + 1 by omega, List.take_succ_cons, e3]
theorem cut_back {xs : List Int} (hby : bytesOnly xs) : ∀ (f p : Nat) (ts us : List Tag), p ≤ xs.length → tagsBytes ts = xs.take p → cutT xs f p ts = some us → tagsBytes us = xs := by
  intro f
  induction f with
  | zero => intro p ts us _ _ h; cases h
  | succ f ih =>
    intro p ts us hp ht h
    rw [cutT] at h
    by_cases hlt : p < xs.length
    · rw [if_pos hlt] at h
      by_cases hb : badAt xs p
      · rw [if_pos hb] at h; cases h
      · rw [if_neg hb] at h
        have hb' := hb
        unfold badAt at hb'
        refine ih _ _ us (by omega) ?_ h
        rw [tagsBytes_app, ht]
        have : tagsBytes [tagAt xs p] = tagBytes (tagAt xs p) := by simp [tagsBytes]
        have h5 := List.take_add (l := xs) (i := p) (j := 3 + lenAt xs p)
        rw [this, tag_bytes hby hb, show p + 3 + lenAt xs p = p + (3 + lenAt xs p) by omega, h5]
    · rw [if_neg hlt] at h
      cases h
      rw [ht, List.take_of_length_le (by omega)]
theorem tagsFrom_back {xs : List Int} {ts : List Tag} (h : tagsFrom xs = some ts) : tagsOk ts = true ∧ tagsBytes ts = xs := by
  unfold tagsFrom at h
  by_cases hb : bv xs = true
  · rw [if_pos hb] at h
    cases hc : cutT xs (xs.length + 1) 0 [] with
    | none => rw [hc] at h; cases h
    | some us =>
      rw [hc] at h
      simp only [] at h
      by_cases ho : tagsOk us = true
      · rw [if_pos ho] at h
        cases h
        exact ⟨ho, cut_back (bv_bytes hb) _ _ _ _ (by omega) (by simp [tagsBytes]) hc⟩
      · rw [if_neg ho] at h; cases h
  · rw [if_neg hb] at h; cases h
theorem DrawTagsFrom_c {w : World} {v : Value} {bs : List Int} (h : ByteS w v bs) :
    Calls Try.prog 18 #[v] w fun e w' => ∃ v xs, e = .returned v ∧ xs.length ≤ 100 ∧ IntO w.heap.size 3 w' v xs ∧ Gr w w' := by
  go_enter Try.func18, Try.ntmps18
  go_wp2_with fail
  (with_reducible refine (l6Open_c h).mono ?_); rintro e w1 ⟨rfl, hr1, hg1⟩
  have hlt := hr1.lt
  go_wp2_with fail
  (with_reducible refine (l92Tags_c hr1 (by omega)).mono ?_); rintro e w2 ⟨v2, ts, T, rfl, h1, h2, h3, h4, h5, h6⟩
  go_wp2_with fail
  (with_reducible refine (specTagsBytes_c h3.s).mono ?_); rintro e w3 ⟨v3, rfl, o3, g3⟩
  have hxl : (if tagsOk ts then tagsBytes ts else []).length ≤ 76 := by
    split
    · have := tagsBytes_len ‹_› ts.length
      rwa [List.take_length] at this
    · simp
  generalize (if tagsOk ts then tagsBytes ts else []) = xs at *
  have o3' := o3.mono h6.sz
  have hr3 := h5.kept g3
  have hD3 := h6.trans (D.ofGr g3)
  obtain ⟨p3, c3, rfl⟩ := o3.len
  clear o3 h3 h5 h6 hr1
  go_wp2_with fail
  (with_reducible refine (pick_c hr3 (by omega) _ (by omega) (by omega)).mono ?_); rintro e w4 ⟨c, rfl, hc0, hc1, hr4, hd4⟩
  have o4 := o3'.keptD hd4 hlt
  have hD4 := hD3.trans hd4
  clear hd4 hD3 o3' hr3
  obtain rfl | rfl : c = 0 ∨ c = 1 := by omega
  · go_wp2
    go_ret
    exact ⟨_, xs, rfl, by omega, o4.mono hg1.sz, hD4.gr hg1 (Nat.le_refl _)⟩
  · go_wp2_with fail
    (with_reducible refine (l91Changed_c hr4 (by omega) hD4 o4 hlt (by omega)).mono ?_); rintro e w5 ⟨v5, ys, rfl, hyl, o5, hr5, hD5⟩
    go_wp2
    go_ret
    exact ⟨_, ys, rfl, by omega, o5.mono hg1.sz, hD5.gr hg1 (Nat.le_refl _)⟩
theorem implTagsFrom_f {w : World} {v : Value} {xs : List Int} (h : IntS w v xs) (hlen : xs.length ≤ 1048576) (ht : Hid (tagsFrom xs = none)) :
    Calls Try.prog 16 #[v] w fun e w' => ∃ v' T, e = .returned (.tuple #[v', .bool false]) ∧ TagO w.heap.size T w' v' [] ∧ T ≤ w'.heap.size ∧ Gr w w' := by
  have := implTagsFrom_c h hlen
  unfold FromR at this
  rw [ht.out] at this
  exact this
theorem specTagsFrom_t {w : World} {v : Value} {xs : List Int} {ts : List Tag} (h : IntS w v xs) (hlen : xs.length ≤ 1048576) (ht : Hid (tagsFrom xs = some ts)) :
    Calls Try.prog 19 #[v] w fun e w' => ∃ v' T, e = .returned (.tuple #[v', .bool true]) ∧ TagO w.heap.size T w' v' ts ∧ T ≤ w'.heap.size ∧ Gr w w' := by
  have := specTagsFrom_c h hlen
  unfold FromR at this
  rw [ht.out] at this
  exact this
theorem specTagsFrom_f {w : World} {v : Value} {xs : List Int} (h : IntS w v xs) (hlen : xs.length ≤ 1048576) (ht : Hid (tagsFrom xs = none)) :
    Calls Try.prog 19 #[v] w fun e w' => ∃ v' T, e = .returned (.tuple #[v', .bool false]) ∧ TagO w.heap.size T w' v' [] ∧ T ≤ w'.heap.size ∧ Gr w w' := by
  have := specTagsFrom_c h hlen
  unfold FromR at this
  rw [ht.out] at this
  exact this
set_option maxHeartbeats 1000000 in
theorem FnTagsFrom_w {w : World} {v : Value} {bs : List Int} (h : ByteS w v bs) :
    Calls Try.prog 4 #[v] w fun e w' => e = .returned (.bool true) ∧ Gr w w' := by
  obtain ⟨p, cap, rfl, _, _⟩ := h.form
  by_cases hx : bs.length ≤ 1048576
  · have hx' : ((bs.length : Int) ≤ 1048576) := by omega
    go_enter Try.func4, Try.ntmps4
    go_wp2_with fail
    (with_reducible refine (DrawTagsFrom_c h).mono ?_); rintro e w1 ⟨v1, xs, rfl, hl, o1, g1⟩
    have hs := o1.s
    have hl' : xs.length ≤ 1048576 := by omega
    clear o1
    cases ht : tagsFrom xs
    · have HT := Lib.hid ht; clear ht
      go_wp2_with fail
      (with_reducible refine (implTagsFrom_f hs hl' HT).mono ?_); rintro e w2 ⟨v2, T2, rfl, o2, hT2, g2⟩
      go_wp2_with fail
      (with_reducible refine (specTagsFrom_f (hs.kept g2) hl' HT).mono ?_); rintro e w3 ⟨v3, T3, rfl, o3, hT3, g3⟩
      go_wp2_with fail
      (with_reducible refine (sameTags_c (o2.s.kept g3) o3.s).mono ?_); rintro e w4 ⟨rfl, g4⟩
      go_wp2_with fail
      (with_reducible refine (sameTags_c (o2.s.kept (g3.trans g4)) (o3.s.kept g4)).mono ?_); rintro e w5 ⟨rfl, g5⟩
      go_wp2
      go_ret
      exact ⟨rfl, ((((g1.trans g2).trans g3).trans g4).trans g5)⟩
    · rename_i ts
      obtain ⟨hok, hbk⟩ := tagsFrom_back ht
      have HOK := Lib.hid hok
      have HBK := Lib.hid hbk
      have HT := Lib.hid ht; clear ht hok hbk
      go_wp2_with fail
      (with_reducible refine (implTagsFrom_t hs hl' HT).mono ?_); rintro e w2 ⟨v2, T2, rfl, o2, hT2, g2⟩
      go_wp2_with fail
      (with_reducible refine (specTagsFrom_t (hs.kept g2) hl' HT).mono ?_); rintro e w3 ⟨v3, T3, rfl, o3, hT3, g3⟩
      go_wp2_with fail
      (with_reducible refine (sameTags_c (o2.s.kept g3) o3.s).mono ?_); rintro e w4 ⟨rfl, g4⟩
      go_wp2_with fail
      (with_reducible refine (implTagsBytes_t (o2.s.kept (g3.trans g4)) HOK).mono ?_); rintro e w5 ⟨v5, rfl, o5, g5⟩
      rw [HBK.out] at o5
      go_wp2_with fail
      (with_reducible refine (same_c o5.s (hs.kept (((g2.trans g3).trans g4).trans g5))).mono ?_); rintro e w6 ⟨rfl, g6⟩
      go_wp2
      go_ret
      exact ⟨rfl, (((((g1.trans g2).trans g3).trans g4).trans g5).trans g6)⟩
  · have hx' : ¬ ((bs.length : Int) ≤ 1048576) := by omega
    go_enter Try.func4, Try.ntmps4
    go_wp2
    go_ret
    exact ⟨rfl, Gr.refl _⟩
end Go.Proofs.Ytbagfbigjppbfaa
