/- The law FnTagsFrom. -/
import Derived.Test.YtikkjcfadbhemaaDoorTagsL
import Derived.Test.YtikkjcfadbhemaaDoorGD
namespace Go.Proofs.YtikkjcfadbhemaaDoor
open Go.RowKit
theorem take2_num {xs : List Int} (h : bytesOnly xs) (h2 : xs.length = 2) : num2 (numOf xs) = xs := by
  match xs, h2 with
  | [a, b], _ =>
    have ha := h a (by simp)
    have hb := h b (by simp)
    simp [num2, numOf]
    omega
theorem tag_bytes {xs : List Int} (hby : bytesOnly xs) {p : Nat} (hb : ¬ badAt xs p) : tagBytes (tagAt xs p) = (xs.drop p).take (3 + lenAt xs p) := by
  unfold badAt at hb
  have hL := lenAt_eq hby p
  have h2 := take2_num (bytes_take (bytes_drop hby (p+1)) 2) (by rw [List.length_take, List.length_drop]; omega)
  rw [hL] at h2
  unfold tagBytes tagAt
  simp only []
  have hlen : ((xs.drop (p+3)).take (lenAt xs p)).length = lenAt xs p := by rw [List.length_take, List.length_drop]; omega
  rw [hlen, h2]
  have e1 : xs.drop p = nth xs p :: xs.drop (p+1) := by rw [nth_eq (by omega)]; exact List.drop_eq_getElem_cons (by omega)
  have e3 : (xs.drop (p+1)).take (2 + lenAt xs p) = (xs.drop (p+1)).take 2 ++ (xs.drop (p+3)).take (lenAt xs p) := by
    have := List.take_add (l := xs.drop (p+1)) (i := 2) (j := lenAt xs p)
    rwa [List.drop_drop] at this
  rw [e1, show 3 + lenAt xs p = (2 + lenAt xs p) + 1 by omega, List.take_succ_cons, e3]
theorem cut_back {xs : List Int} (hby : bytesOnly xs) : ∀ (f p : Nat) (ts us : List Tag), p ≤ xs.length → tagsBytes ts = xs.take p → cutT xs f p ts = some us → tagsBytes us = xs := by
  intro f
  induction f with
  | zero => intro p ts us _ _ h; cases h
  | succ f ih =>
    intro p ts us hp ht h
    rw [cutT] at h
    by_cases hlt : p < xs.length
    · rw [if_pos hlt] at h
      by_cases hb : badAt xs p
      · rw [if_pos hb] at h; cases h
      · rw [if_neg hb] at h
        have hb' := hb
        unfold badAt at hb'
        refine ih _ _ us (by omega) ?_ h
        rw [tagsBytes_app, ht]
        have : tagsBytes [tagAt xs p] = tagBytes (tagAt xs p) := by simp [tagsBytes]
        have h5 := List.take_add (l := xs) (i := p) (j := 3 + lenAt xs p)
        rw [this, tag_bytes hby hb, show p + 3 + lenAt xs p = p + (3 + lenAt xs p) by omega, h5]
    · rw [if_neg hlt] at h
      cases h
      rw [ht, List.take_of_length_le (by omega)]
theorem tagsFrom_back {xs : List Int} {ts : List Tag} (h : tagsFrom xs = some ts) : tagsOk ts = true ∧ tagsBytes ts = xs := by
  unfold tagsFrom at h
  by_cases hb : bv xs = true
  · rw [if_pos hb] at h
    cases hc : cutT xs (xs.length + 1) 0 [] with
    | none => rw [hc] at h; cases h
    | some us =>
      rw [hc] at h
      simp only [] at h
      by_cases ho : tagsOk us = true
      · rw [if_pos ho] at h
        cases h
        exact ⟨ho, cut_back (bv_bytes hb) _ _ _ _ (by omega) (by simp [tagsBytes]) hc⟩
      · rw [if_neg ho] at h; cases h
  · rw [if_neg hb] at h; cases h
theorem implTagsFrom_f {w : World} {v : Value} {xs : List Int} (h : IntS w v xs) (hlen : xs.length ≤ 1048576) (ht : Hid (tagsFrom xs = none)) :
    Calls Tryd.prog 77 #[v] w fun e w' => ∃ v' T, e = .returned (.tuple #[v', .bool false]) ∧ TagO w.heap.size T w' v' [] ∧ T ≤ w'.heap.size ∧ Gr w w' := by
  have := implTagsFrom_c h hlen
  unfold FromR at this
  rw [ht.out] at this
  exact this
theorem specTagsFrom_t {w : World} {v : Value} {xs : List Int} {ts : List Tag} (h : IntS w v xs) (hlen : xs.length ≤ 1048576) (ht : Hid (tagsFrom xs = some ts)) :
    Calls Tryd.prog 84 #[v] w fun e w' => ∃ v' T, e = .returned (.tuple #[v', .bool true]) ∧ TagO w.heap.size T w' v' ts ∧ T ≤ w'.heap.size ∧ Gr w w' := by
  have := specTagsFrom_c h hlen
  unfold FromR at this
  rw [ht.out] at this
  exact this
theorem specTagsFrom_f {w : World} {v : Value} {xs : List Int} (h : IntS w v xs) (hlen : xs.length ≤ 1048576) (ht : Hid (tagsFrom xs = none)) :
    Calls Tryd.prog 84 #[v] w fun e w' => ∃ v' T, e = .returned (.tuple #[v', .bool false]) ∧ TagO w.heap.size T w' v' [] ∧ T ≤ w'.heap.size ∧ Gr w w' := by
  have := specTagsFrom_c h hlen
  unfold FromR at this
  rw [ht.out] at this
  exact this
end Go.Proofs.YtikkjcfadbhemaaDoor
