/- Tags and their bytes, there and back; the law FnTags.
The law FnTagsFrom.
Hellos out of bytes: plain laws.
Requests of the fourth version out of bytes: plain laws.
Requests of the fourth version out of bytes: the program's way (plain laws).
Heads: bytes of heads have their head, parts of heads have none, a head has its bytes (plain laws).
The size of the frame that bytes begin with; frames one by one (plain laws).
All frames of bytes (plain laws). -/
import Derived.Test.YtgigjgjpglmpoaaGreatDoorGC
import Derived.Test.YtgigjgjpglmpoaaGreatDoorGH
import Derived.Test.YtgigjgjpglmpoaaGreatDoorGD
import Derived.Test.YtgigjgjpglmpoaaGreatDoorGJ
import Derived.Test.YtgigjgjpglmpoaaGreatDoorGE
import Derived.Test.YtgigjgjpglmpoaaGreatDoorGI
import Derived.Test.YtgigjgjpglmpoaaGreatDoorGN
namespace Go.Proofs.YtgigjgjpglmpoaaGreatDoor
open Go.RowKit
theorem at_tag (A C : List Int) (t : Tag) (h : t.2.length ≤ 65535) :
    lenAt (A ++ (tagBytes t ++ C)) A.length = t.2.length ∧ tagAt (A ++ (tagBytes t ++ C)) A.length = t ∧ ¬ badAt (A ++ (tagBytes t ++ C)) A.length ∧ A.length < (A ++ (tagBytes t ++ C)).length := by
  have e : ∀ j, (A ++ (tagBytes t ++ C)).drop (A.length + j) = (tagBytes t ++ C).drop j := by
    intro j
    rw [← List.drop_drop, List.drop_left]
  have e1 : lenAt (A ++ (tagBytes t ++ C)) A.length = t.2.length := by
    unfold lenAt
    rw [e 1]
    have : ((tagBytes t ++ C).drop 1).take 2 = num2 t.2.length := by simp [tagBytes, num2]
    rw [this]
    simp [numOf, num2]
    omega
  have hl : (A ++ (tagBytes t ++ C)).length = A.length + (3 + t.2.length + C.length) := by simp [tagBytes, num2]; omega
  refine ⟨e1, ?_, ?_, ?_⟩
  · unfold tagAt
    rw [e1, e 3]
    have h0 : nth (A ++ (tagBytes t ++ C)) A.length = t.1 := by
      have := nth_drop (A ++ (tagBytes t ++ C)) A.length 0
      rw [Nat.add_zero] at this
      rw [← this]
      have := e 0
      rw [Nat.add_zero] at this
      rw [this]
      simp [tagBytes, nth]
    rw [h0]
    have h3 : ((tagBytes t ++ C).drop 3).take t.2.length = t.2 := by simp [tagBytes, num2]
    rw [h3]
  · unfold badAt; rw [e1, hl]; omega
  · rw [hl]; omega
theorem tagOk_len {ts : List Tag} (h : tagsOk ts = true) {t : Tag} (ht : t ∈ ts) : t.2.length ≤ 16 := by
  simp only [tagsOk, Bool.and_eq_true, List.all_eq_true] at h
  have := h.2 t ht
  simp only [tagOk, Bool.and_eq_true, decide_eq_true_eq] at this
  exact this.2.1
theorem cut_bytes {ts : List Tag} (h : tagsOk ts = true) : ∀ k, k ≤ ts.length → CutTo (tagsBytes ts) (tagsBytes (ts.take k)).length (ts.take k) := by
  intro k
  induction k with
  | zero => intro _; exact CutTo.start _
  | succ k ih =>
    intro hk
    have ih' := ih (by omega)
    have hs := tagsBytes_step (ts := ts) (k := k) (by omega)
    have hsplit : tagsBytes ts = tagsBytes (ts.take k) ++ (tagBytes (nthT ts k) ++ tagsBytes (ts.drop (k+1))) := by
      rw [← List.append_assoc, ← hs, ← tagsBytes_app, List.take_append_drop]
    have hm : nthT ts k ∈ ts := by rw [nthT_eq (by omega)]; exact List.getElem_mem _
    have ht := tagOk_len h hm
    obtain ⟨a1, a2, a3, a4⟩ := at_tag (tagsBytes (ts.take k)) (tagsBytes (ts.drop (k+1))) (nthT ts k) (by omega)
    rw [← hsplit] at a1 a2 a3 a4
    have := ih'.next a4 a3
    rw [a1, a2] at this
    have e : ts.take (k+1) = ts.take k ++ [nthT ts k] := by rw [List.take_succ_eq_append_getElem (by omega), nthT_eq]
    rw [hs, e]
    have e2 : (tagsBytes (ts.take k) ++ tagBytes (nthT ts k)).length = (tagsBytes (ts.take k)).length + 3 + (nthT ts k).2.length := by simp [tagBytes, num2]; omega
    rw [e2]; exact this
theorem bv_flat {xss : List (List Int)} (h : ∀ xs ∈ xss, bytesOnly xs) : bytesOnly xss.flatten := by
  intro x hx
  obtain ⟨xs, h1, h2⟩ := List.mem_flatten.1 hx
  exact h xs h1 x h2
theorem bv_of {xs : List Int} (h : bytesOnly xs) (hl : xs.length ≤ 120) : bv xs = true := by
  simp only [bv, Bool.and_eq_true, List.all_eq_true, decide_eq_true_eq]
  exact ⟨fun x hx => inB_iff.2 (h x hx), hl⟩
theorem tagsBytes_bv {ts : List Tag} (h : tagsOk ts = true) : bytesOnly (tagsBytes ts) := by
  refine bv_flat fun xs hx => ?_
  obtain ⟨t, ht, rfl⟩ := List.mem_map.1 hx
  have hl := tagOk_len h ht
  simp only [tagsOk, Bool.and_eq_true, List.all_eq_true] at h
  have h2 := h.2 t ht
  simp only [tagOk, Bool.and_eq_true, decide_eq_true_eq] at h2
  have h3 := inB_iff.1 h2.1
  have h4 := bv_bytes h2.2.2
  intro x hx
  simp only [tagBytes, num2, List.mem_cons, List.mem_append, List.not_mem_nil, or_false] at hx
  rcases hx with rfl | (rfl | rfl) | hx
  · exact h3
  · omega
  · omega
  · exact h4 x hx
theorem tagsFrom_bytes {ts : List Tag} (h : tagsOk ts = true) : tagsFrom (tagsBytes ts) = some ts := by
  have h1 := cut_bytes h ts.length (Nat.le_refl _)
  rw [List.take_length] at h1
  have h2 := tagsBytes_len h ts.length
  rw [List.take_length] at h2
  rw [h1.done (by omega) (bv_of (tagsBytes_bv h) (by omega)), if_pos h]
end Go.Proofs.YtgigjgjpglmpoaaGreatDoor
namespace Go.Proofs.YtgigjgjpglmpoaaGreatDoor
open Go.RowKit
theorem take2_num {xs : List Int} (h : bytesOnly xs) (h2 : xs.length = 2) : num2 (numOf xs) = xs := by
  match xs, h2 with
  | [a, b], _ =>
    have ha := h a (by simp)
    have hb := h b (by simp)
    simp [num2, numOf]
    omega
theorem tag_bytes {xs : List Int} (hby : bytesOnly xs) {p : Nat} (hb : ¬ badAt xs p) : tagBytes (tagAt xs p) = (xs.drop p).take (3 + lenAt xs p) := by
  unfold badAt at hb
  have hL := lenAt_eq hby p
  have h2 := take2_num (bytes_take (bytes_drop hby (p+1)) 2) (by rw [List.length_take, List.length_drop]; omega)
  rw [hL] at h2
  unfold tagBytes tagAt
  simp only []
  have hlen : ((xs.drop (p+3)).take (lenAt xs p)).length = lenAt xs p := by rw [List.length_take, List.length_drop]; omega
  rw [hlen, h2]
  have e1 : xs.drop p = nth xs p :: xs.drop (p+1) := by rw [nth_eq (by omega)]; exact List.drop_eq_getElem_cons (by omega)
  have e3 : (xs.drop (p+1)).take (2 + lenAt xs p) = (xs.drop (p+1)).take 2 ++ (xs.drop (p+3)).take (lenAt xs p) := by
    have := List.take_add (l := xs.drop (p+1)) (i := 2) (j := lenAt xs p)
    rwa [List.drop_drop] at this
  rw [e1, show 3 + lenAt xs p = (2 + lenAt xs p) + 1 by omega, List.take_succ_cons, e3]
theorem cut_back {xs : List Int} (hby : bytesOnly xs) : ∀ (f p : Nat) (ts us : List Tag), p ≤ xs.length → tagsBytes ts = xs.take p → cutT xs f p ts = some us → tagsBytes us = xs := by
  intro f
  induction f with
  | zero => intro p ts us _ _ h; cases h
  | succ f ih =>
    intro p ts us hp ht h
    rw [cutT] at h
    by_cases hlt : p < xs.length
    · rw [if_pos hlt] at h
      by_cases hb : badAt xs p
      · rw [if_pos hb] at h; cases h
      · rw [if_neg hb] at h
        have hb' := hb
        unfold badAt at hb'
        refine ih _ _ us (by omega) ?_ h
        rw [tagsBytes_app, ht]
        have : tagsBytes [tagAt xs p] = tagBytes (tagAt xs p) := by simp [tagsBytes]
        have h5 := List.take_add (l := xs) (i := p) (j := 3 + lenAt xs p)
        rw [this, tag_bytes hby hb, show p + 3 + lenAt xs p = p + (3 + lenAt xs p) by omega, h5]
    · rw [if_neg hlt] at h
      cases h
      rw [ht, List.take_of_length_le (by omega)]
theorem tagsFrom_back {xs : List Int} {ts : List Tag} (h : tagsFrom xs = some ts) : tagsOk ts = true ∧ tagsBytes ts = xs := by
  unfold tagsFrom at h
  by_cases hb : bv xs = true
  · rw [if_pos hb] at h
    cases hc : cutT xs (xs.length + 1) 0 [] with
    | none => rw [hc] at h; cases h
    | some us =>
      rw [hc] at h
      simp only [] at h
      by_cases ho : tagsOk us = true
      · rw [if_pos ho] at h
        cases h
        exact ⟨ho, cut_back (bv_bytes hb) _ _ _ _ (by omega) (by simp [tagsBytes]) hc⟩
      · rw [if_neg ho] at h; cases h
  · rw [if_neg hb] at h; cases h
end Go.Proofs.YtgigjgjpglmpoaaGreatDoor
namespace Go.Proofs.YtgigjgjpglmpoaaGreatDoor
open Go.RowKit
/-- The methods of the hello that bytes begin with. -/
def helloFrom (xs : List Int) : Option (List Int × Nat) :=
  if bv xs = true ∧ 3 ≤ xs.length ∧ nth xs 0 = 5 ∧ nth xs 1 ≤ (xs.length : Int) - 2 ∧ methOk ((xs.drop 2).take (nth xs 1).toNat) = true then some ((xs.drop 2).take (nth xs 1).toNat, 2 + (nth xs 1).toNat) else none
def heS1 (xs : List Int) : Rs := (Rs.mk xs 0 (!(bv xs))).expect [5]
def heC (xs : List Int) : Int := (heS1 xs).byte.1
def heS2 (xs : List Int) : Rs := (heS1 xs).byte.2
def heM (xs : List Int) : List Int := ((heS2 xs).take (heC xs).toNat).1
def heS3 (xs : List Int) : Rs := ((heS2 xs).take (heC xs).toNat).2
theorem take1_nth {xs : List Int} {k : Nat} (h : k < xs.length) : (xs.drop k).take 1 = [nth xs k] := by
  rw [List.drop_eq_getElem_cons h, nth_eq h]; rfl
theorem hello_go {xs : List Int} (h3 : (heS3 xs).bad = false) :
    bv xs = true ∧ 2 ≤ xs.length ∧ nth xs 0 = 5 ∧ 0 ≤ nth xs 1 ∧ (nth xs 1).toNat ≤ xs.length - 2 ∧ heM xs = (xs.drop 2).take (nth xs 1).toNat ∧ (heS3 xs).pos = 2 + (nth xs 1).toNat := by
  obtain ⟨b2, l2, e3⟩ := Rs.take_good (s := heS2 xs) (n := (heC xs).toNat) h3
  obtain ⟨b1, l1, e2⟩ := Rs.take_good (s := heS1 xs) (n := 1) b2
  obtain ⟨hh, e1⟩ := Rs.expect_good (s := Rs.mk xs 0 (!(bv xs))) (ys := [5]) b1
  have e1b : ((Rs.mk xs 0 (!(bv xs))).take 1).2.bad = false := by
    have := b1
    unfold heS1 at this
    rw [e1] at this
    exact this
  obtain ⟨b0, l0, e0⟩ := Rs.take_good (s := Rs.mk xs 0 (!(bv xs))) (n := 1) e1b
  have hb : bv xs = true := by simpa using b0
  have s1 : heS1 xs = ⟨xs, 1, false⟩ := by
    unfold heS1
    rw [e1]
    show ((Rs.mk xs 0 (!(bv xs))).take 1).2 = _
    rw [e0]; simp [hb]
  rw [s1] at e2 l1
  simp only [] at l1 l0
  have h0 : nth xs 0 = 5 := by
    have := hh
    simp only [List.length_cons, List.length_nil] at this
    rw [e0] at this
    simp only [] at this
    rw [take1_nth (by omega)] at this
    injection this
  have hl2 : 2 ≤ xs.length := by omega
  have s2 : heS2 xs = ⟨xs, 2, false⟩ := by unfold heS2 Rs.byte; rw [s1, e2]
  have hc : heC xs = nth xs 1 := by
    unfold heC Rs.byte
    rw [s1, e2]
    simp only []
    rw [take1_nth (by omega)]; rfl
  have hby := bytes_nth (bv_bytes hb) (show 1 < xs.length by omega)
  rw [s2, hc] at e3 l2
  simp only [] at l2
  refine ⟨hb, hl2, h0, hby.1, l2, ?_, ?_⟩
  · unfold heM; rw [s2, hc, e3]
  · unfold heS3; rw [s2, hc, e3]
theorem hello_fine {xs : List Int} (hb : bv xs = true) (hl : 2 ≤ xs.length) (h0 : nth xs 0 = 5) (h1 : (nth xs 1).toNat ≤ xs.length - 2) : (heS3 xs).bad = false ∧ heM xs = (xs.drop 2).take (nth xs 1).toNat := by
  have e0 := Rs.take_fine (s := Rs.mk xs 0 (!(bv xs))) (n := 1) (by simp [hb]) (by simp; omega)
  have s1 : heS1 xs = ⟨xs, 1, false⟩ := by
    unfold heS1 Rs.expect
    simp only [List.length_cons, List.length_nil, Nat.zero_add]
    rw [e0]
    simp only []
    rw [take1_nth (by omega), h0, if_pos (by decide)]
    simp [hb]
  have e2 := Rs.take_fine (s := Rs.mk xs 1 false) (n := 1) rfl (by simp; omega)
  have s2 : heS2 xs = ⟨xs, 2, false⟩ := by unfold heS2 Rs.byte; rw [s1, e2]
  have hc : heC xs = nth xs 1 := by
    unfold heC Rs.byte
    rw [s1, e2]
    simp only []
    rw [take1_nth (by omega)]; rfl
  have e3 := Rs.take_fine (s := Rs.mk xs 2 false) (n := (nth xs 1).toNat) rfl (by simp; omega)
  exact ⟨by unfold heS3; rw [s2, hc, e3], by unfold heM; rw [s2, hc, e3]⟩
/-- What the program hands back: the methods, if it has not failed. -/
theorem helloFrom_prog (xs : List Int) : helloFrom xs = if (heS3 xs).bad = false ∧ methOk (heM xs) = true then some (heM xs, (heS3 xs).pos) else none := by
  by_cases h : (heS3 xs).bad = false ∧ methOk (heM xs) = true
  · rw [if_pos h]
    obtain ⟨hb, hl, h0, hp, h1, em, ep⟩ := hello_go h.1
    have hm := h.2
    rw [em] at hm
    have hml := (methOk_len hm).1
    rw [List.length_take, List.length_drop] at hml
    unfold helloFrom
    rw [if_pos ⟨hb, by omega, h0, by omega, hm⟩, em, ep]
  · rw [if_neg h]
    unfold helloFrom
    split
    · rename_i hc
      obtain ⟨hb, hl, h0, h1, hm⟩ := hc
      have hf := hello_fine hb (by omega) h0 (by omega)
      rw [← hf.2] at hm
      exact absurd ⟨hf.1, hm⟩ h
    · rfl
theorem helloFrom_sound {xs ms : List Int} {n : Nat} (h : helloFrom xs = some (ms, n)) : methOk ms = true ∧ n = (helloBytes ms).length ∧ helloBytes ms = xs.take n := by
  unfold helloFrom at h
  split at h
  · rename_i hc
    obtain ⟨hb, hl, h0, h1, hm⟩ := hc
    injection h with h
    injection h with e1 e2
    subst e1 e2
    have hby := bytes_nth (bv_bytes hb) (show 1 < xs.length by omega)
    have hlen : ((xs.drop 2).take (nth xs 1).toNat).length = (nth xs 1).toNat := by rw [List.length_take, List.length_drop]; omega
    refine ⟨hm, by simp [helloBytes, hlen]; omega, ?_⟩
    unfold helloBytes
    rw [hlen]
    have ed : xs = nth xs 0 :: nth xs 1 :: xs.drop 2 := by
      conv => lhs; rw [← List.drop_zero (l := xs), List.drop_eq_getElem_cons (show 0 < xs.length by omega), List.drop_eq_getElem_cons (show 0 + 1 < xs.length by omega)]
      rw [nth_eq (by omega), nth_eq (by omega)]
    have hm1 : (((nth xs 1).toNat : Nat) : Int) = nth xs 1 := by omega
    rw [hm1]
    generalize (nth xs 1).toNat = m
    conv => rhs; rw [ed]
    rw [show 2 + m = m + 1 + 1 by omega, List.take_succ_cons, List.take_succ_cons, h0]
  · cases h
theorem helloFrom_text {ms r : List Int} (h : methOk ms = true) (hb : bv (helloBytes ms ++ r) = true) : helloFrom (helloBytes ms ++ r) = some (ms, (helloBytes ms).length) := by
  have hl := methOk_len h
  have e1 : nth (helloBytes ms ++ r) 1 = (ms.length : Int) := rfl
  have e2 : (helloBytes ms ++ r).drop 2 = ms ++ r := rfl
  have e3 : ((helloBytes ms ++ r).drop 2).take (nth (helloBytes ms ++ r) 1).toNat = ms := by rw [e1, e2]; simp
  unfold helloFrom
  rw [e3, e1, if_pos ⟨hb, by simp [helloBytes]; omega, rfl, by simp [helloBytes]; omega, h⟩]
  simp [helloBytes]; omega
end Go.Proofs.YtgigjgjpglmpoaaGreatDoor
namespace Go.Proofs.YtgigjgjpglmpoaaGreatDoor
open Go.RowKit
/-- The text of bytes. -/
def bt (xs : List Int) : Tx := xs.map fun x => UInt8.ofNat x.toNat
theorem bt_len (xs : List Int) : (bt xs).length = xs.length := by simp [bt]
theorem tb_bt {xs : List Int} (h : bytesOnly xs) : tb (bt xs) = xs := by
  unfold tb bt
  rw [List.map_map]
  conv => rhs; rw [← List.map_id xs]
  apply List.map_congr_left
  intro x hx
  have := h x hx
  simp only [Function.comp, id]
  rw [UInt8.toNat_ofNat']
  omega
theorem bt_tb (l : Tx) : bt (tb l) = l := by
  unfold tb bt
  rw [List.map_map]
  conv => rhs; rw [← List.map_id l]
  apply List.map_congr_left
  intro c _
  simp only [Function.comp, id, Int.toNat_natCast]
  exact UInt8.ofNat_toNat
theorem tb_app (a b : Tx) : tb (a ++ b) = tb a ++ tb b := by simp [tb]
theorem tb_inj {a b : Tx} (h : tb a = tb b) : a = b := by rw [← bt_tb a, h, bt_tb]
theorem tb_bytes (l : Tx) : bytesOnly (tb l) := by
  intro x hx
  simp only [tb, List.mem_map] at hx
  obtain ⟨c, _, rfl⟩ := hx
  have := c.toNat_lt
  omega
/-- The place of the next 0. -/
def zeroFrom (xs : List Int) : Nat → Nat → Option Nat
  | 0, _ => none
  | f + 1, p => if p < xs.length then (if nth xs p = 0 then some p else zeroFrom xs f (p + 1)) else none
def zeroAt (xs : List Int) (p : Nat) : Option Nat := zeroFrom xs (xs.length + 1) p
def ZeroIs (xs : List Int) (p z : Nat) : Prop := p ≤ z ∧ z < xs.length ∧ nth xs z = 0 ∧ ∀ j, p ≤ j → j < z → nth xs j ≠ 0
theorem zeroFrom_some : ∀ {f p z : Nat} {xs : List Int}, zeroFrom xs f p = some z → ZeroIs xs p z
  | 0, _, _, _, h => by cases h
  | f + 1, p, z, xs, h => by
    unfold zeroFrom at h
    split at h
    · split at h
      · injection h with h; subst h; rename_i h1 h2; exact ⟨Nat.le_refl _, h1, h2, fun j a b => by omega⟩
      · rename_i h1 h2
        obtain ⟨a, b, c, d⟩ := zeroFrom_some h
        refine ⟨by omega, b, c, fun j hj hz => ?_⟩
        by_cases e : j = p
        · rw [e]; exact h2
        · exact d j (by omega) hz
    · cases h
theorem zeroFrom_none : ∀ {f p : Nat} {xs : List Int}, xs.length < f + p → zeroFrom xs f p = none → ∀ j, p ≤ j → j < xs.length → nth xs j ≠ 0
  | 0, p, xs, hf, _, j, hj, hl => by omega
  | f + 1, p, xs, hf, h, j, hj, hl => by
    unfold zeroFrom at h
    rw [if_pos (by omega)] at h
    split at h
    · cases h
    · rename_i h2
      by_cases e : j = p
      · rw [e]; exact h2
      · exact zeroFrom_none (by omega) h j (by omega) hl
theorem zeroAt_some {xs : List Int} {p z : Nat} (h : zeroAt xs p = some z) : ZeroIs xs p z := zeroFrom_some h
theorem zeroAt_none {xs : List Int} {p : Nat} (h : zeroAt xs p = none) : ∀ j, p ≤ j → j < xs.length → nth xs j ≠ 0 := fun j hj hl => zeroFrom_none (by omega) h j hj hl
theorem zeroAt_is {xs : List Int} {p z : Nat} (h : ZeroIs xs p z) : zeroAt xs p = some z := by
  cases k : zeroAt xs p with
  | none => exact absurd h.2.2.1 (zeroAt_none k z h.1 h.2.1)
  | some y =>
    obtain ⟨a, b, c, d⟩ := zeroAt_some k
    congr 1
    rcases Nat.lt_trichotomy y z with e | e | e
    · exact absurd c (h.2.2.2 y a e)
    · exact e
    · exact absurd h.2.2.1 (d z h.1 e)
/-- The request of the fourth version that bytes begin with. -/
def oldA (xs : List Int) (e : Nat) : Oldq := ⟨nth xs 1, ⟨1, (xs.drop 4).take 4, [], numOf ((xs.drop 2).take 2)⟩, bt ((xs.drop 8).take (e - 8))⟩
def oldN (xs : List Int) (e l : Nat) : Oldq := ⟨nth xs 1, ⟨3, [], bt ((xs.drop (e + 1)).take (l - (e + 1))), numOf ((xs.drop 2).take 2)⟩, bt ((xs.drop 8).take (e - 8))⟩
def oldFrom (xs : List Int) : Option (Oldq × Nat) :=
  if bv xs = true ∧ 9 ≤ xs.length ∧ nth xs 0 = 4 then
    match zeroAt xs 8 with
    | some e =>
      if nth xs 4 = 0 ∧ nth xs 5 = 0 ∧ nth xs 6 = 0 then
        match zeroAt xs (e + 1) with
        | some l => if nth xs 7 = 1 ∧ oldOk (oldN xs e l) = true then some (oldN xs e l, l + 1) else none
        | none => none
      else if oldOk (oldA xs e) = true then some (oldA xs e, e + 1) else none
    | none => none
  else none
theorem nth_at (xs : List Int) (k : Nat) (h : k < xs.length) : xs.drop k = nth xs k :: xs.drop (k + 1) := by rw [List.drop_eq_getElem_cons h, nth_eq h]
theorem oldFrom_sound {xs : List Int} {x : Oldq} {n : Nat} (h : oldFrom xs = some (x, n)) : oldOk x = true ∧ n = (oldBytes x).length ∧ oldBytes x = xs.take n ∧ n ≤ xs.length := by
  unfold oldFrom at h
  split at h
  · rename_i hc
    obtain ⟨hb, hl, h0⟩ := hc
    have hby := bv_bytes hb
    have hseg : ∀ i j, bytesOnly ((xs.drop i).take j) := fun i j => bytes_take (bytes_drop hby i) j
    have hp : num2 (numOf ((xs.drop 2).take 2)) = (xs.drop 2).take 2 := take2_num (hseg 2 2) (by rw [List.length_take, List.length_drop]; omega)
    have e04 : xs.take 4 = 4 :: nth xs 1 :: (xs.drop 2).take 2 := by
      conv => lhs; rw [← List.drop_zero (l := xs), nth_at xs 0 (by omega), nth_at xs (0 + 1) (by omega)]
      rw [List.take_succ_cons, List.take_succ_cons, h0]
    split at h
    · rename_i e hz
      obtain ⟨z1, z2, z3, z4⟩ := zeroAt_some hz
      have e8 : (xs.drop 8).take (e + 1 - 8) = (xs.drop 8).take (e - 8) ++ [0] := by
        rw [show e + 1 - 8 = (e - 8) + 1 by omega, List.take_add, List.drop_drop, show 8 + (e - 8) = e by omega, nth_at xs e z2, z3]; rfl
      split at h
      · rename_i hn
        split at h
        · rename_i l hz2
          obtain ⟨y1, y2, y3, y4⟩ := zeroAt_some hz2
          split at h
          · rename_i hk
            injection h with h
            injection h with h1 h2
            subst h1 h2
            have e9 : (xs.drop (e + 1)).take (l + 1 - (e + 1)) = (xs.drop (e + 1)).take (l - (e + 1)) ++ [0] := by
              rw [show l + 1 - (e + 1) = (l - (e + 1)) + 1 by omega, List.take_add, List.drop_drop, show e + 1 + (l - (e + 1)) = l by omega, nth_at xs l y2, y3]; rfl
            have e48 : (xs.drop 4).take 4 = [0, 0, 0, 1] := by
              rw [nth_at xs 4 (by omega), nth_at xs 5 (by omega), nth_at xs 6 (by omega), nth_at xs 7 (by omega), hn.1, hn.2.1, hn.2.2, hk.1]; rfl
            have eq : oldBytes (oldN xs e l) = xs.take (l + 1) := by
              unfold oldBytes oldN
              simp only
              rw [tb_bt (hseg _ _), tb_bt (hseg _ _), hp, if_neg (by decide), if_pos trivial, ← e48, ← e9]
              have s1 := List.take_add (l := xs) (i := 4) (j := l + 1 - 4)
              rw [show 4 + (l + 1 - 4) = l + 1 by omega, e04] at s1
              have s2 := List.take_add (l := xs.drop 4) (i := 4) (j := l + 1 - 8)
              rw [List.drop_drop, show 4 + (l + 1 - 8) = l + 1 - 4 by omega] at s2
              have s3 := List.take_add (l := xs.drop 8) (i := e + 1 - 8) (j := l + 1 - (e + 1))
              rw [List.drop_drop, show 8 + (e + 1 - 8) = e + 1 by omega, show e + 1 - 8 + (l + 1 - (e + 1)) = l + 1 - 8 by omega, e8] at s3
              rw [s1, s2, s3]
              simp
            refine ⟨hk.2, by rw [eq, List.length_take]; omega, eq, by omega⟩
          · cases h
        · cases h
      · split at h
        · rename_i hn hk
          injection h with h
          injection h with h1 h2
          subst h1 h2
          have eq : oldBytes (oldA xs e) = xs.take (e + 1) := by
            unfold oldBytes oldA
            simp only
            rw [tb_bt (hseg _ _), hp, if_pos trivial, if_neg (by decide)]
            have s1 := List.take_add (l := xs) (i := 4) (j := e + 1 - 4)
            rw [show 4 + (e + 1 - 4) = e + 1 by omega, e04] at s1
            have s2 := List.take_add (l := xs.drop 4) (i := 4) (j := e + 1 - 8)
            rw [List.drop_drop, show 4 + (e + 1 - 8) = e + 1 - 4 by omega, e8] at s2
            rw [s1, s2]
            simp
          exact ⟨hk, by rw [eq, List.length_take]; omega, eq, by omega⟩
        · cases h
    · cases h
  · cases h
theorem usr_not0 {l : Tx} (h : userOk l = true) : ∀ c ∈ l, c.toNat ≠ 0 := by
  intro c hc e
  simp only [userOk, Bool.and_eq_true, List.all_eq_true] at h
  have := h.1 c hc
  rw [e] at this
  exact absurd this (by decide)
theorem name_not0 {l : Tx} (h : nameOk l = true) : ∀ c ∈ l, c.toNat ≠ 0 := by
  intro c hc e
  rcases name_letters h c hc with k | k
  · rw [e] at k; exact absurd k (by decide)
  · rw [k] at e; exact absurd e (by decide)
theorem tb_not0 {l : Tx} (h : ∀ c ∈ l, c.toNat ≠ 0) : ∀ x ∈ tb l, x ≠ 0 := by
  intro x hx
  simp only [tb, List.mem_map] at hx
  obtain ⟨c, hc, rfl⟩ := hx
  have := h c hc
  omega
theorem zeroAt_app {a b r : List Int} (h : ∀ x ∈ b, x ≠ 0) : zeroAt (a ++ (b ++ 0 :: r)) a.length = some (a.length + b.length) := by
  refine zeroAt_is ⟨by omega, by simp, ?_, fun j hj hz => ?_⟩
  · rw [nth_eq (by simp), List.getElem_append_right (by omega)]
    have e : a.length + b.length - a.length = b.length := by omega
    simp only [e]
    rw [List.getElem_append_right (by omega)]
    simp
  · have hl : j < (a ++ (b ++ 0 :: r)).length := by simp; omega
    have e : nth (a ++ (b ++ 0 :: r)) j = b[j - a.length] := by
      rw [nth_eq hl, List.getElem_append_right (by omega), List.getElem_append_left (by omega)]
    rw [e]
    exact h _ (List.getElem_mem _)
theorem num2_pair (n : Int) : ∃ a b, num2 n = [a, b] := ⟨_, _, rfl⟩
theorem old_kind {x : Oldq} (h : oldOk x = true) : (x.dst.kind = 1 ∧ quadOk x.dst.quad = true ∧ x.dst.name = [] ∧ 0 < nth x.dst.quad 0 + nth x.dst.quad 1 + nth x.dst.quad 2) ∨ (x.dst.kind = 3 ∧ nameOk x.dst.name = true ∧ x.dst.quad = []) := by
  have h2 := (old_parts h).2.1
  rcases adr_kind h2 with ⟨a, b, c⟩ | ⟨a, b, c⟩
  · refine .inl ⟨a, b, c, ?_⟩
    simp only [oldOk, Bool.and_eq_true, Bool.or_eq_true, decide_eq_true_eq] at h
    rcases h.2.2.2 with e | e
    · omega
    · exact e
  · exact .inr ⟨a, b, c⟩
theorem oldFrom_text {x : Oldq} (h : oldOk x = true) (r : List Int) (hb : bv (oldBytes x ++ r) = true) : oldFrom (oldBytes x ++ r) = some (x, (oldBytes x).length) := by
  obtain ⟨hc, hd, hu⟩ := old_parts h
  have hp := adr_port hd
  have hnp : numOf (num2 x.dst.port) = x.dst.port := by simp [numOf, num2]; omega
  have hu0 := tb_not0 (usr_not0 hu)
  rcases old_kind h with ⟨k, hq, hn, hsum⟩ | ⟨k, hn, hq⟩
  · obtain ⟨a, b, c, d, eq, q0, q1, q2, q3, q4, q5, q6, q7⟩ := quad_four hq
    obtain ⟨m, m', em⟩ := num2_pair x.dst.port
    have eb : oldBytes x ++ r = [4, x.cmd, m, m', a, b, c, d] ++ (tb x.user ++ 0 :: r) := by
      unfold oldBytes
      rw [if_pos k, if_neg (by omega), eq, em]; simp
    have hz : zeroAt (oldBytes x ++ r) 8 = some (8 + (tb x.user).length) := by rw [eb]; exact zeroAt_app (a := [4, x.cmd, m, m', a, b, c, d]) hu0
    have hl : (oldBytes x).length = 8 + (tb x.user).length + 1 := by
      unfold oldBytes
      rw [if_pos k, if_neg (by omega), eq, em]; simp; omega
    have ed8 : (oldBytes x ++ r).drop 8 = tb x.user ++ 0 :: r := by rw [eb]; rfl
    have e1 : oldA (oldBytes x ++ r) (8 + (tb x.user).length) = x := by
      unfold oldA
      rw [ed8, Nat.add_sub_cancel_left, List.take_left, bt_tb]
      have e2 : ((oldBytes x ++ r).drop 2).take 2 = num2 x.dst.port := by rw [eb, em]; rfl
      have e3 : ((oldBytes x ++ r).drop 4).take 4 = x.dst.quad := by rw [eb, eq]; rfl
      have e4 : nth (oldBytes x ++ r) 1 = x.cmd := by rw [eb]; rfl
      rw [e2, e3, e4, hnp]
      obtain ⟨cmd, ⟨kk, qq, nn, pp⟩, uu⟩ := x
      simp only at k hn
      subst k hn
      rfl
    have e4 : nth (oldBytes x ++ r) 4 = a := by rw [eb]; rfl
    have e5 : nth (oldBytes x ++ r) 5 = b := by rw [eb]; rfl
    have e6 : nth (oldBytes x ++ r) 6 = c := by rw [eb]; rfl
    have e0 : nth (oldBytes x ++ r) 0 = 4 := by rw [eb]; rfl
    rw [eq] at hsum
    simp [nth] at hsum
    unfold oldFrom
    rw [if_pos ⟨hb, by rw [List.length_append]; omega, e0⟩, hz]
    simp only
    rw [e4, e5, e6, if_neg (by omega), e1, if_pos h, hl]
  · obtain ⟨m, m', em⟩ := num2_pair x.dst.port
    have eb : oldBytes x ++ r = [4, x.cmd, m, m', 0, 0, 0, 1] ++ (tb x.user ++ 0 :: (tb x.dst.name ++ 0 :: r)) := by
      unfold oldBytes
      rw [if_neg (by omega), if_pos k, em]; simp
    have eb2 : oldBytes x ++ r = ([4, x.cmd, m, m', 0, 0, 0, 1] ++ (tb x.user ++ [0])) ++ (tb x.dst.name ++ 0 :: r) := by rw [eb]; simp
    have hz : zeroAt (oldBytes x ++ r) 8 = some (8 + (tb x.user).length) := by rw [eb]; exact zeroAt_app (a := [4, x.cmd, m, m', 0, 0, 0, 1]) hu0
    have hz2 : zeroAt (oldBytes x ++ r) (8 + (tb x.user).length + 1) = some (8 + (tb x.user).length + 1 + (tb x.dst.name).length) := by
      have := zeroAt_app (a := [4, x.cmd, m, m', 0, 0, 0, 1] ++ (tb x.user ++ [0])) (b := tb x.dst.name) (r := r) (tb_not0 (name_not0 hn))
      rw [← eb2] at this
      have e : ([4, x.cmd, m, m', 0, 0, 0, 1] ++ (tb x.user ++ [0])).length = 8 + (tb x.user).length + 1 := by simp; omega
      rw [e] at this
      exact this
    have hl : (oldBytes x).length = 8 + (tb x.user).length + 1 + (tb x.dst.name).length + 1 := by
      unfold oldBytes
      rw [if_neg (by omega), if_pos k, em]; simp; omega
    have ed8 : (oldBytes x ++ r).drop 8 = tb x.user ++ 0 :: (tb x.dst.name ++ 0 :: r) := by rw [eb]; rfl
    have ed9 : (oldBytes x ++ r).drop (8 + (tb x.user).length + 1) = tb x.dst.name ++ 0 :: r := by
      rw [eb2]
      have e : ([4, x.cmd, m, m', 0, 0, 0, 1] ++ (tb x.user ++ [0])).length = 8 + (tb x.user).length + 1 := by simp; omega
      rw [← e, List.drop_left]
    have e1 : oldN (oldBytes x ++ r) (8 + (tb x.user).length) (8 + (tb x.user).length + 1 + (tb x.dst.name).length) = x := by
      unfold oldN
      rw [ed8, ed9, Nat.add_sub_cancel_left, Nat.add_sub_cancel_left, List.take_left, List.take_left, bt_tb, bt_tb]
      have e2 : ((oldBytes x ++ r).drop 2).take 2 = num2 x.dst.port := by rw [eb, em]; rfl
      have e4 : nth (oldBytes x ++ r) 1 = x.cmd := by rw [eb]; rfl
      rw [e2, e4, hnp]
      obtain ⟨cmd, ⟨kk, qq, nn, pp⟩, uu⟩ := x
      simp only at k hq
      subst k hq
      rfl
    have e4 : nth (oldBytes x ++ r) 4 = 0 := by rw [eb]; rfl
    have e5 : nth (oldBytes x ++ r) 5 = 0 := by rw [eb]; rfl
    have e6 : nth (oldBytes x ++ r) 6 = 0 := by rw [eb]; rfl
    have e7 : nth (oldBytes x ++ r) 7 = 1 := by rw [eb]; rfl
    have e0 : nth (oldBytes x ++ r) 0 = 4 := by rw [eb]; rfl
    unfold oldFrom
    rw [if_pos ⟨hb, by rw [List.length_append]; omega, e0⟩, hz]
    simp only
    rw [e4, e5, e6, if_pos ⟨rfl, rfl, rfl⟩, hz2]
    simp only
    rw [e7, e1, if_pos ⟨rfl, h⟩, hl]
end Go.Proofs.YtgigjgjpglmpoaaGreatDoor
namespace Go.Proofs.YtgigjgjpglmpoaaGreatDoor
open Go.RowKit
/-- Bytes are read up to a 0, which is read, too. -/
def Rs.until : Nat → Rs → List Int × Rs
  | 0, s => ([], s)
  | f + 1, s => if s.bad = true then ([], s) else if s.byte.1 = 0 then ([], s.byte.2) else (s.byte.1 :: (Rs.until f s.byte.2).1, (Rs.until f s.byte.2).2)
theorem Rs.until_bad {f : Nat} {s : Rs} (h : s.bad = true) : Rs.until f s = ([], s) := by
  cases f with
  | zero => rfl
  | succ f => unfold Rs.until; rw [if_pos h]
theorem byte_at {xs : List Int} {p : Nat} (h : p < xs.length) : (Rs.mk xs p false).byte = (nth xs p, ⟨xs, p + 1, false⟩) := by
  unfold Rs.byte
  rw [Rs.take_fine (s := Rs.mk xs p false) (n := 1) rfl (by simp; omega)]
  simp only []
  rw [take1_nth h]; rfl
theorem byte_end {xs : List Int} {p : Nat} (h : xs.length ≤ p) : (Rs.mk xs p false).byte = (0, ⟨xs, p, true⟩) := by
  unfold Rs.byte Rs.take
  rw [if_pos (by simp; omega)]
  rfl
theorem Rs.until_hit : ∀ {f p z : Nat} {xs : List Int}, ZeroIs xs p z → z < f + p → Rs.until f ⟨xs, p, false⟩ = ((xs.drop p).take (z - p), ⟨xs, z + 1, false⟩)
  | 0, p, z, xs, h, hf => by have := h.1; omega
  | f + 1, p, z, xs, h, hf => by
    obtain ⟨h1, h2, h3, h4⟩ := h
    unfold Rs.until
    rw [if_neg (by simp), byte_at (by omega)]
    by_cases e : p = z
    · subst e
      rw [if_pos h3]; simp
    · rw [if_neg (h4 p (Nat.le_refl _) (by omega)), Rs.until_hit (z := z) ⟨by omega, h2, h3, fun j hj hz => h4 j (by omega) hz⟩ (by omega)]
      simp only []
      rw [nth_at xs p (by omega), show z - p = (z - (p + 1)) + 1 by omega, List.take_succ_cons]
theorem Rs.until_miss : ∀ {f p : Nat} {xs : List Int}, p ≤ xs.length → (∀ j, p ≤ j → j < xs.length → nth xs j ≠ 0) → xs.length < f + p → (Rs.until f ⟨xs, p, false⟩).2.bad = true
  | 0, p, xs, hp, h, hf => by omega
  | f + 1, p, xs, hp, h, hf => by
    unfold Rs.until
    rw [if_neg (by simp)]
    by_cases e : p < xs.length
    · rw [byte_at e, if_neg (h p (Nat.le_refl _) e)]
      simp only []
      exact Rs.until_miss (by omega) (fun j hj hl => h j (by omega) hl) (by omega)
    · rw [byte_end (by omega), if_pos rfl]
def oS1 (xs : List Int) : Rs := (Rs.mk xs 0 (!(bv xs))).expect [4]
def oC (xs : List Int) : Int := (oS1 xs).byte.1
def oS2 (xs : List Int) : Rs := (oS1 xs).byte.2
def oP (xs : List Int) : Int := ((oS2 xs).number 2).1
def oS3 (xs : List Int) : Rs := ((oS2 xs).number 2).2
def oQ (xs : List Int) : List Int := ((oS3 xs).take 4).1
def oS4 (xs : List Int) : Rs := ((oS3 xs).take 4).2
def oU (xs : List Int) : List Int := (Rs.until (xs.length + 1) (oS4 xs)).1
def oS5 (xs : List Int) : Rs := (Rs.until (xs.length + 1) (oS4 xs)).2
def oM (xs : List Int) : List Int := (Rs.until (xs.length + 1) (oS5 xs)).1
def oS6 (xs : List Int) : Rs := (Rs.until (xs.length + 1) (oS5 xs)).2
/-- What the program reads. -/
def oldI (xs : List Int) : Option (Oldq × Nat) :=
  if oQ xs = [0, 0, 0, 1] then
    (if (oS6 xs).bad = false ∧ oldOk ⟨oC xs, ⟨3, [], bt (oM xs), oP xs⟩, bt (oU xs)⟩ = true then some (⟨oC xs, ⟨3, [], bt (oM xs), oP xs⟩, bt (oU xs)⟩, (oS6 xs).pos) else none)
  else (if (oS5 xs).bad = false ∧ oldOk ⟨oC xs, ⟨1, oQ xs, [], oP xs⟩, bt (oU xs)⟩ = true then some (⟨oC xs, ⟨1, oQ xs, [], oP xs⟩, bt (oU xs)⟩, (oS5 xs).pos) else none)
theorem old_open {xs : List Int} (h : (oS4 xs).bad = false) : bv xs = true ∧ 8 ≤ xs.length ∧ nth xs 0 = 4 ∧ oC xs = nth xs 1 ∧ oP xs = numOf ((xs.drop 2).take 2) ∧ oQ xs = (xs.drop 4).take 4 ∧ oS4 xs = ⟨xs, 8, false⟩ := by
  obtain ⟨b3, l3, e4⟩ := Rs.take_good (s := oS3 xs) (n := 4) h
  obtain ⟨b2, l2, e3⟩ := Rs.take_good (s := oS2 xs) (n := 2) b3
  obtain ⟨b1, l1, e2⟩ := Rs.take_good (s := oS1 xs) (n := 1) b2
  obtain ⟨hh, e1⟩ := Rs.expect_good (s := Rs.mk xs 0 (!(bv xs))) (ys := [4]) b1
  have e1b : ((Rs.mk xs 0 (!(bv xs))).take 1).2.bad = false := by
    have := b1
    unfold oS1 at this
    rw [e1] at this
    exact this
  obtain ⟨b0, l0, e0⟩ := Rs.take_good (s := Rs.mk xs 0 (!(bv xs))) (n := 1) e1b
  have hb : bv xs = true := by simpa using b0
  have s1 : oS1 xs = ⟨xs, 1, false⟩ := by
    unfold oS1
    rw [e1]
    show ((Rs.mk xs 0 (!(bv xs))).take 1).2 = _
    rw [e0]; simp [hb]
  rw [s1] at e2 l1
  simp only [] at l1 l0
  have h0 : nth xs 0 = 4 := by
    have := hh
    simp only [List.length_cons, List.length_nil] at this
    rw [e0] at this
    simp only [] at this
    rw [take1_nth (by omega)] at this
    injection this
  have s2 : oS2 xs = ⟨xs, 2, false⟩ := by unfold oS2 Rs.byte; rw [s1, e2]
  rw [s2] at e3 l2
  simp only [] at l2
  have s3 : oS3 xs = ⟨xs, 4, false⟩ := by unfold oS3 Rs.number; rw [s2, e3]
  rw [s3] at e4 l3
  simp only [] at l3
  have hl : 8 ≤ xs.length := by omega
  refine ⟨hb, hl, h0, ?_, ?_, ?_, ?_⟩
  · unfold oC; rw [s1, byte_at (by omega)]
  · unfold oP Rs.number; rw [s2, e3]
  · unfold oQ; rw [s3, e4]
  · unfold oS4; rw [s3, e4]
theorem old_shut {xs : List Int} (hb : bv xs = true) (hl : 8 ≤ xs.length) (h0 : nth xs 0 = 4) : oS4 xs = ⟨xs, 8, false⟩ := by
  have e0 := Rs.take_fine (s := Rs.mk xs 0 (!(bv xs))) (n := 1) (by simp [hb]) (by simp; omega)
  have s1 : oS1 xs = ⟨xs, 1, false⟩ := by
    unfold oS1 Rs.expect
    simp only [List.length_cons, List.length_nil, Nat.zero_add]
    rw [e0]
    simp only []
    rw [take1_nth (by omega), h0, if_pos (by decide)]
    simp [hb]
  have s2 : oS2 xs = ⟨xs, 2, false⟩ := by unfold oS2; rw [s1, byte_at (by omega)]
  have e3 := Rs.take_fine (s := Rs.mk xs 2 false) (n := 2) rfl (by simp; omega)
  have s3 : oS3 xs = ⟨xs, 4, false⟩ := by unfold oS3 Rs.number; rw [s2, e3]
  have e4 := Rs.take_fine (s := Rs.mk xs 4 false) (n := 4) rfl (by simp; omega)
  unfold oS4; rw [s3, e4]
theorem four_at {xs : List Int} (h : 8 ≤ xs.length) : (xs.drop 4).take 4 = [nth xs 4, nth xs 5, nth xs 6, nth xs 7] := by
  rw [nth_at xs 4 (by omega), nth_at xs 5 (by omega), nth_at xs 6 (by omega), nth_at xs 7 (by omega)]; rfl
theorem oldI_eq (xs : List Int) : oldI xs = oldFrom xs := by
  by_cases hg : bv xs = true ∧ 8 ≤ xs.length ∧ nth xs 0 = 4
  · obtain ⟨hb, hl, h0⟩ := hg
    have s4 := old_shut hb hl h0
    obtain ⟨_, _, _, eC, eP, eQ, _⟩ := old_open (xs := xs) (by rw [s4])
    have e4 := four_at hl
    rw [e4] at eQ
    cases hz : zeroAt xs 8 with
    | none =>
      have hm := Rs.until_miss (f := xs.length + 1) (p := 8) (xs := xs) hl (zeroAt_none hz) (by omega)
      have b5 : (oS5 xs).bad = true := by unfold oS5; rw [s4]; exact hm
      have b6 : (oS6 xs).bad = true := by unfold oS6; rw [Rs.until_bad b5]; exact b5
      have n1 : oldI xs = none := by unfold oldI; rw [b5, b6]; simp
      rw [n1]
      unfold oldFrom
      rw [hz]
      split <;> rfl
    | some e =>
      have zi := zeroAt_some hz
      have hu := Rs.until_hit (f := xs.length + 1) zi (by have := zi.2.1; omega)
      have eU : oU xs = (xs.drop 8).take (e - 8) := by unfold oU; rw [s4, hu]
      have s5 : oS5 xs = ⟨xs, e + 1, false⟩ := by unfold oS5; rw [s4, hu]
      have h9 : 9 ≤ xs.length := by have := zi.1; have := zi.2.1; omega
      have hR : oldFrom xs = if nth xs 4 = 0 ∧ nth xs 5 = 0 ∧ nth xs 6 = 0 then
          match zeroAt xs (e + 1) with
          | some l => if nth xs 7 = 1 ∧ oldOk (oldN xs e l) = true then some (oldN xs e l, l + 1) else none
          | none => none
        else if oldOk (oldA xs e) = true then some (oldA xs e, e + 1) else none := by
        unfold oldFrom
        rw [if_pos ⟨hb, h9, h0⟩, hz]
        try rfl
      rw [hR]
      by_cases hq : oQ xs = [0, 0, 0, 1]
      · have hq2 := hq
        rw [eQ] at hq2
        injection hq2 with q4 hq2
        injection hq2 with q5 hq2
        injection hq2 with q6 hq2
        injection hq2 with q7 _
        rw [if_pos ⟨q4, q5, q6⟩]
        unfold oldI
        rw [if_pos hq]
        cases hz2 : zeroAt xs (e + 1) with
        | none =>
          have hm := Rs.until_miss (f := xs.length + 1) (p := e + 1) (xs := xs) (by have := zi.2.1; omega) (zeroAt_none hz2) (by omega)
          have b6 : (oS6 xs).bad = true := by unfold oS6; rw [s5]; exact hm
          rw [b6]; simp
        | some l =>
          have zj := zeroAt_some hz2
          have hu2 := Rs.until_hit (f := xs.length + 1) zj (by have := zj.2.1; omega)
          have eM : oM xs = (xs.drop (e + 1)).take (l - (e + 1)) := by unfold oM; rw [s5, hu2]
          have s6 : oS6 xs = ⟨xs, l + 1, false⟩ := by unfold oS6; rw [s5, hu2]
          have en : oldN xs e l = ⟨oC xs, ⟨3, [], bt (oM xs), oP xs⟩, bt (oU xs)⟩ := by unfold oldN; rw [eC, eP, eU, eM]
          simp only
          rw [en, s6]
          by_cases hk : oldOk ⟨oC xs, ⟨3, [], bt (oM xs), oP xs⟩, bt (oU xs)⟩ = true
          · rw [if_pos ⟨rfl, hk⟩, if_pos ⟨q7, hk⟩]
          · rw [if_neg (fun h => hk h.2), if_neg (fun h => hk h.2)]
      · unfold oldI
        rw [if_neg hq, s5]
        have ea : oldA xs e = ⟨oC xs, ⟨1, oQ xs, [], oP xs⟩, bt (oU xs)⟩ := by unfold oldA; rw [eC, eP, eU, eQ, e4]
        by_cases h3 : nth xs 4 = 0 ∧ nth xs 5 = 0 ∧ nth xs 6 = 0
        · rw [if_pos h3]
          have h7 : ¬ nth xs 7 = 1 := fun h7 => hq (by rw [eQ, h3.1, h3.2.1, h3.2.2, h7])
          have hk : ¬ oldOk ⟨oC xs, ⟨1, oQ xs, [], oP xs⟩, bt (oU xs)⟩ = true := by
            intro hk
            rcases old_kind hk with ⟨_, _, _, hs⟩ | ⟨h, _⟩
            · simp only at hs
              rw [eQ, h3.1, h3.2.1, h3.2.2] at hs
              simp [nth] at hs
            · simp at h
          rw [if_neg (fun h => hk h.2)]
          split
          · rw [if_neg (fun h => h7 h.1)]
          · rfl
        · rw [if_neg h3, ea]
          by_cases hk : oldOk ⟨oC xs, ⟨1, oQ xs, [], oP xs⟩, bt (oU xs)⟩ = true
          · rw [if_pos ⟨rfl, hk⟩, if_pos hk]
          · rw [if_neg (fun h => hk h.2), if_neg hk]
  · have n2 : oldFrom xs = none := by
      unfold oldFrom
      rw [if_neg]
      rintro ⟨a, b, c⟩
      exact hg ⟨a, by omega, c⟩
    rw [n2]
    have b4 : (oS4 xs).bad = true := by
      cases hb4 : (oS4 xs).bad with
      | true => rfl
      | false =>
        obtain ⟨a, b, c, _⟩ := old_open hb4
        exact absurd ⟨a, b, c⟩ hg
    have b5 : (oS5 xs).bad = true := by unfold oS5; rw [Rs.until_bad b4]; exact b4
    have b6 : (oS6 xs).bad = true := by unfold oS6; rw [Rs.until_bad b5]; exact b5
    unfold oldI
    rw [b5, b6]
    simp
end Go.Proofs.YtgigjgjpglmpoaaGreatDoor
namespace Go.Proofs.YtgigjgjpglmpoaaGreatDoor
open Go.RowKit
theorem numOf_num2 {n : Int} (h0 : 0 ≤ n) (h1 : n ≤ 65535) : numOf (num2 n) = n := by
  simp [numOf, num2]; omega
theorem four_of {xs : List Int} (h : xs.length = 4) : ∃ a b c d, xs = [a, b, c, d] := by
  match xs, h with
  | [a, b, c, d], _ => exact ⟨a, b, c, d, rfl⟩
/-- The parts of a head. -/
theorem head_parts {p : Par} {ts : List Tag} (h : headOk p ts = true) : ∃ a b c d e f g i : Int, ∃ P Q : Int, p = ⟨⟨1, [a, b, c, d], [], P⟩, ⟨1, [e, f, g, i], [], Q⟩⟩ ∧ tagsOk ts = true ∧ 0 ≤ P ∧ P ≤ 65535 ∧ 0 ≤ Q ∧ Q ≤ 65535 ∧ quadOk [a, b, c, d] = true ∧ quadOk [e, f, g, i] = true := by
  have h2 := h
  simp only [headOk, Bool.and_eq_true] at h2
  obtain ⟨a1, a2, k1, k2, q1, q2, n1, n2⟩ := par_parts h2.1
  have p1 := adr_port a1
  have p2 := adr_port a2
  obtain ⟨⟨k, q, n, P⟩, ⟨k', q', n', Q⟩⟩ := p
  simp only at k1 k2 q1 q2 n1 n2 p1 p2
  obtain ⟨a, b, c, d, rfl⟩ := four_of (quad_bytes q1).1
  obtain ⟨e, f, g, i, rfl⟩ := four_of (quad_bytes q2).1
  subst k1 k2 n1 n2
  exact ⟨a, b, c, d, e, f, g, i, P, Q, rfl, h2.2, p1.1, p1.2, p2.1, p2.2, q1, q2⟩
theorem head_cells (a b c d e f g i P Q : Int) (ts : List Tag) (zs : List Int) : headBytes ⟨⟨1, [a, b, c, d], [], P⟩, ⟨1, [e, f, g, i], [], Q⟩⟩ ts ++ zs =
    13 :: 10 :: 13 :: 10 :: 0 :: 13 :: 10 :: 81 :: 85 :: 73 :: 84 :: 10 :: 33 :: 17 :: ((12 + (tagsBytes ts).length : Nat) : Int) / 256 % 256 :: ((12 + (tagsBytes ts).length : Nat) : Int) % 256 :: a :: b :: c :: d :: e :: f :: g :: i :: P / 256 % 256 :: P % 256 :: Q / 256 % 256 :: Q % 256 :: (tagsBytes ts ++ zs) := by
  have hl : (headBody ⟨⟨1, [a, b, c, d], [], P⟩, ⟨1, [e, f, g, i], [], Q⟩⟩ ts).length = 12 + (tagsBytes ts).length := by simp [headBody, num2]; omega
  unfold headBytes
  rw [hl]
  simp [headBody, headStart, num2]
theorem headSize_of {a b c d e f g i P Q : Int} {ts : List Tag} {zs : List Int} (h : (tagsBytes ts).length ≤ 76) : hSize (headBytes ⟨⟨1, [a, b, c, d], [], P⟩, ⟨1, [e, f, g, i], [], Q⟩⟩ ts ++ zs) = 12 + (tagsBytes ts).length := by
  rw [head_cells]
  show (numOf (num2 ((12 + (tagsBytes ts).length : Nat) : Int))).toNat = _
  rw [numOf_num2 (by omega) (by omega)]
  omega
theorem headFrom_bytes {p : Par} {ts : List Tag} (h : headOk p ts = true) (zs : List Int) (hb : bv (headBytes p ts ++ zs) = true) : headFrom (headBytes p ts ++ zs) = some (p, ts, (headBytes p ts).length) := by
  have hl := headBytes_len h
  have hT := (headBody_len h).2
  obtain ⟨a, b, c, d, e, f, g, i, P, Q, rfl, ht, hP0, hP1, hQ0, hQ1, q1, q2⟩ := head_parts h
  have hs := headSize_of (a := a) (b := b) (c := c) (d := d) (e := e) (f := f) (g := g) (i := i) (P := P) (Q := Q) (ts := ts) (zs := zs) hT
  have hL : 28 + (tagsBytes ts).length ≤ (headBytes ⟨⟨1, [a, b, c, d], [], P⟩, ⟨1, [e, f, g, i], [], Q⟩⟩ ts ++ zs).length := by rw [List.length_append]; omega
  have ha : alike (headBytes ⟨⟨1, [a, b, c, d], [], P⟩, ⟨1, [e, f, g, i], [], Q⟩⟩ ts ++ zs) headStart = true := by
    rw [alike_iff, headStart_len, Nat.min_eq_right (by omega), head_cells]; rfl
  have ht2 : ((headBytes ⟨⟨1, [a, b, c, d], [], P⟩, ⟨1, [e, f, g, i], [], Q⟩⟩ ts ++ zs).drop 28).take (tagsBytes ts).length = tagsBytes ts := by
    rw [head_cells]
    show (tagsBytes ts ++ zs).take (tagsBytes ts).length = _
    simp
  have hp : hPar (headBytes ⟨⟨1, [a, b, c, d], [], P⟩, ⟨1, [e, f, g, i], [], Q⟩⟩ ts ++ zs) = ⟨⟨1, [a, b, c, d], [], P⟩, ⟨1, [e, f, g, i], [], Q⟩⟩ := by
    rw [head_cells]
    show (⟨⟨1, [a, b, c, d], [], numOf (num2 P)⟩, ⟨1, [e, f, g, i], [], numOf (num2 Q)⟩⟩ : Par) = _
    rw [numOf_num2 hP0 hP1, numOf_num2 hQ0 hQ1]
  unfold headFrom
  rw [if_pos ⟨hb, by omega, ha, by omega, by omega⟩, hs, hp, Nat.add_sub_cancel_left, ht2, tagsFrom_bytes ht, hl]
  simp only [Option.map_some]
  rw [show 16 + (12 + (tagsBytes ts).length) = 28 + (tagsBytes ts).length by omega]
theorem hq_2 {xs : List Int} (h : xs.length < 28) : headFrom xs = none := by unfold headFrom; rw [if_neg]; rintro ⟨_, h1, _⟩; omega
theorem hq_4 {xs : List Int} (h : hSize xs < 12 ∨ xs.length - 16 < hSize xs) : headFrom xs = none := by unfold headFrom; rw [if_neg]; rintro ⟨_, _, _, h1, h2⟩; omega
theorem headFrom_cut {p : Par} {ts : List Tag} (h : headOk p ts = true) {k : Nat} (hk : k < (headBytes p ts).length) : headFrom ((headBytes p ts).take k) = none := by
  have hl := headBytes_len h
  have hT := (headBody_len h).2
  obtain ⟨a, b, c, d, e, f, g, i, P, Q, rfl, ht, _⟩ := head_parts h
  have hs := headSize_of (a := a) (b := b) (c := c) (d := d) (e := e) (f := f) (g := g) (i := i) (P := P) (Q := Q) (ts := ts) (zs := []) hT
  rw [List.append_nil] at hs
  by_cases h28 : 28 ≤ k
  · have e2 : hSize ((headBytes ⟨⟨1, [a, b, c, d], [], P⟩, ⟨1, [e, f, g, i], [], Q⟩⟩ ts).take k) = 12 + (tagsBytes ts).length := by
      rw [← hs]
      unfold hSize
      rw [List.drop_take, List.take_take, Nat.min_eq_left (by omega)]
    refine hq_4 (.inr ?_)
    rw [e2, List.length_take]; omega
  · exact hq_2 (by rw [List.length_take]; omega)
theorem seg {xs : List Int} (i j k : Nat) : (xs.drop i).take j ++ (xs.drop (i + j)).take k = (xs.drop i).take (j + k) := by
  have := List.take_add (l := xs.drop i) (i := j) (j := k)
  rw [List.drop_drop] at this
  exact this.symm
theorem headFrom_back {xs : List Int} {p : Par} {ts : List Tag} {n : Nat} (h : headFrom xs = some (p, ts, n)) : headOk p ts = true ∧ headBytes p ts = xs.take n ∧ n ≤ xs.length ∧ 28 ≤ n := by
  have h0 := h
  unfold headFrom at h0
  split at h0
  · rename_i hc
    obtain ⟨hb, h28, hal, h12, hs⟩ := hc
    rw [Option.map_eq_some_iff] at h0
    obtain ⟨us, h1, h2⟩ := h0
    injection h2 with e1 e2
    injection e2 with e2 e3
    subst e1 e2 e3
    have hby := bv_bytes hb
    have h120 : xs.length ≤ 120 := by simp only [bv, Bool.and_eq_true, decide_eq_true_eq] at hb; exact hb.2
    obtain ⟨ht1, ht2⟩ := tagsFrom_back h1
    have hseg : ∀ i j, bytesOnly ((xs.drop i).take j) := fun i j => bytes_take (bytes_drop hby i) j
    have hlen : ∀ i j, i + j ≤ xs.length → ((xs.drop i).take j).length = j := fun i j hij => by rw [List.length_take, List.length_drop]; omega
    have hq : ∀ i, i + 4 ≤ xs.length → quadOk ((xs.drop i).take 4) = true := fun i hi => by
      simp only [quadOk, Bool.and_eq_true, decide_eq_true_eq]
      exact ⟨bytes_bv (hseg i 4) (by rw [hlen i 4 hi]; omega), hlen i 4 hi⟩
    have hp : ∀ i, i + 2 ≤ xs.length → inB 0 65535 (numOf ((xs.drop i).take 2)) = true := fun i hi => inB_iff.2 (numOf_small2 (hseg i 2) (by rw [hlen i 2 hi]; omega))
    have hn : ∀ i, i + 2 ≤ xs.length → num2 (numOf ((xs.drop i).take 2)) = (xs.drop i).take 2 := fun i hi => take2_num (hseg i 2) (hlen i 2 hi)
    have hok : headOk (hPar xs) us = true := by
      simp only [headOk, Bool.and_eq_true]
      refine ⟨?_, ht1⟩
      simp only [parOk, hPar, adrOk, Bool.and_eq_true, decide_eq_true_eq]
      simp [hq 16 (by omega), hq 20 (by omega), hp 24 (by omega), hp 26 (by omega)]
    have hbody : headBody (hPar xs) us = (xs.drop 16).take (hSize xs) := by
      unfold headBody hPar
      simp only
      rw [hn 24 (by omega), hn 26 (by omega), ht2, seg 16 4 4, seg 16 8 2, seg 16 10 2, seg 16 12 (hSize xs - 12), show 12 + (hSize xs - 12) = hSize xs by omega]
    refine ⟨hok, ?_, by omega, by omega⟩
    unfold headBytes
    have hst : headStart = xs.take 14 := by
      have := alike_iff.1 hal
      rw [headStart_len, Nat.min_eq_right (by omega), List.take_of_length_le (l := headStart) (by rw [headStart_len]; omega)] at this
      exact this.symm
    have hsz : ((hSize xs : Nat) : Int) = numOf ((xs.drop 14).take 2) := by
      have := (numOf_small2 (hseg 14 2) (by rw [hlen 14 2 (by omega)]; omega)).1
      unfold hSize; omega
    rw [hbody, List.length_take, List.length_drop, Nat.min_eq_left (by omega), hsz, hn 14 (by omega), hst]
    have e0 := seg (xs := xs) 0 14 2
    have e1 := seg (xs := xs) 0 16 (hSize xs)
    rw [List.drop_zero] at e0 e1
    rw [e0, e1]
  · cases h0
end Go.Proofs.YtgigjgjpglmpoaaGreatDoor
namespace Go.Proofs.YtgigjgjpglmpoaaGreatDoor
open Go.RowKit
def sizeOld (xs : List Int) : Option Nat := (oldFrom xs).map (·.2)
def sizeHello (xs : List Int) : Option Nat := (helloFrom xs).map (·.2)
def sizeConn (xs : List Int) : Option Nat := (connFrom (bt xs)).map (·.2)
def sizeLine (xs : List Int) : Option Nat := (lineFrom (bt xs)).map (·.2)
def sizeHead (xs : List Int) : Option Nat := (headFrom xs).map (·.2.2)
/-- How many bytes the frame has that bytes begin with. -/
def sniffSize (xs : List Int) : Option Nat :=
  if sniffKind xs = 1 then sizeOld xs else if sniffKind xs = 2 then sizeHello xs else if sniffKind xs = 3 then sizeConn xs else if sniffKind xs = 4 then sizeLine xs else if sniffKind xs = 5 then sizeHead xs else none
/-- A frame's kind and size hang on its own bytes alone. -/
def Frm (kind : Int) (size : List Int → Option Nat) : Prop :=
  ∀ xs n, bv xs = true → size xs = some n → 0 < n ∧ n ≤ xs.length ∧ ∀ r, bv (xs.take n ++ r) = true → sniffKind (xs.take n ++ r) = kind ∧ size (xs.take n ++ r) = some n
theorem map_some {α : Type} {o : Option (α × Nat)} {n : Nat} (h : o.map (·.2) = some n) : ∃ x, o = some (x, n) := by
  cases o with
  | none => cases h
  | some r => obtain ⟨x, m⟩ := r; injection h with h; exact ⟨x, by rw [← h]⟩
theorem frm_old : Frm 1 sizeOld := by
  intro xs n hb h
  obtain ⟨x, hx⟩ := map_some h
  obtain ⟨h1, h2, h3, h4⟩ := oldFrom_sound hx
  have hp : 0 < n := by rw [h2]; unfold oldBytes; simp
  refine ⟨hp, h4, fun r hr => ?_⟩
  rw [← h3] at hr ⊢
  refine ⟨sniff_4 hr (by unfold oldBytes; simp) rfl, ?_⟩
  unfold sizeOld
  rw [oldFrom_text h1 r hr, h2]; rfl
theorem take_le {xs ys : List Int} {n : Nat} (h : ys = xs.take n) (hn : n = ys.length) : n ≤ xs.length := by
  have := congrArg List.length h
  rw [List.length_take] at this
  omega
theorem frm_hello : Frm 2 sizeHello := by
  intro xs n hb h
  obtain ⟨x, hx⟩ := map_some h
  obtain ⟨h1, h2, h3⟩ := helloFrom_sound hx
  refine ⟨by rw [h2]; simp [helloBytes], take_le h3 h2, fun r hr => ?_⟩
  rw [← h3] at hr ⊢
  refine ⟨sniff_5 hr (by simp [helloBytes]) rfl, ?_⟩
  unfold sizeHello
  rw [helloFrom_text h1 hr, h2]; rfl
theorem frm_head : Frm 5 sizeHead := by
  intro xs n hb h
  unfold sizeHead at h
  cases hx : headFrom xs with
  | none => rw [hx] at h; cases h
  | some R =>
    obtain ⟨p, ts, m⟩ := R
    rw [hx] at h
    injection h with h
    simp only at h
    subst h
    obtain ⟨h1, h2, h3, h4⟩ := headFrom_back hx
    have hlen : (headBytes p ts).length = m := by rw [h2, List.length_take]; omega
    refine ⟨by omega, h3, fun r hr => ?_⟩
    rw [← h2] at hr ⊢
    have hst : (headBytes p ts ++ r).take 14 = headStart := by
      obtain ⟨a, b, c, d, e, f, g, i, P, Q, rfl, _⟩ := head_parts h1
      rw [head_cells]; rfl
    have hn0 : nth (headBytes p ts ++ r) 0 = 13 := by
      have h0 : nth ((headBytes p ts ++ r).take 14) 0 = nth headStart 0 := by rw [hst]
      rw [nth_take (by decide)] at h0
      exact h0
    have hl : 28 ≤ (headBytes p ts ++ r).length := by rw [List.length_append]; omega
    have ha : alike (headBytes p ts ++ r) headStart = true := by
      rw [alike_iff, headStart_len, Nat.min_eq_right (by omega), hst, List.take_of_length_le (by rw [headStart_len]; omega)]
    refine ⟨?_, ?_⟩
    · rw [sniff_H hr (by omega) hn0, if_pos ha, if_pos (by omega)]
    · unfold sizeHead
      rw [headFrom_bytes h1 r hr, hlen]; rfl
theorem bt_app (a b : List Int) : bt (a ++ b) = bt a ++ bt b := by simp [bt]
theorem bt_take (xs : List Int) (n : Nat) : bt (xs.take n) = (bt xs).take n := by simp [bt]
theorem begin_of_text {xs : List Int} {t : Tx} {n : Nat} (hb : bv xs = true) (h : t = (bt xs).take n) : xs.take n = tb t := by
  rw [h, ← bt_take, tb_bt (bytes_take (bv_bytes hb) n)]
theorem alike_begin {a b r : List Int} : alike (a ++ b ++ r) a = true := by
  rw [alike_iff, List.length_append, List.length_append, Nat.min_eq_right (by omega)]
  simp
theorem frm_conn : Frm 3 sizeConn := by
  intro xs n hb h
  obtain ⟨x, hx⟩ := map_some h
  obtain ⟨h1, h2, h3⟩ := connFrom_sound hx
  have he := begin_of_text hb h3
  have hlen : n ≤ xs.length := by
    have := congrArg List.length h3
    rw [List.length_take, bt_len] at this
    omega
  have hpos : 8 ≤ (connOf x).length := by simp [connOf, connText, tunnelT] <;> omega
  refine ⟨by omega, hlen, fun r hr => ?_⟩
  rw [he] at hr ⊢
  have hcb : tb (connOf x) = tunnelB ++ tb (addrText x ++ httpT ++ addrText x ++ [13, 10, 13, 10]) := by
    have : connOf x = tunnelT ++ (addrText x ++ httpT ++ addrText x ++ [13, 10, 13, 10]) := by simp [connOf, connText]
    rw [this, tb_app]; rfl
  have hl8 : 8 ≤ (tb (connOf x) ++ r).length := by rw [List.length_append, tb_len]; omega
  have ha : alike (tb (connOf x) ++ r) tunnelB = true := by rw [hcb]; exact alike_begin
  refine ⟨?_, ?_⟩
  · rw [sniff_T hr (by omega) (by rw [hcb]; rfl), if_pos ha, if_pos hl8]
  · unfold sizeConn
    rw [bt_app, bt_tb, connFrom_text h1, h2]; rfl
theorem frm_line : Frm 4 sizeLine := by
  intro xs n hb h
  obtain ⟨x, hx⟩ := map_some h
  obtain ⟨h1, h2, h3⟩ := lineFrom_sound hx
  have he := begin_of_text hb h3
  have hlen : n ≤ xs.length := by
    have := congrArg List.length h3
    rw [List.length_take, bt_len] at this
    omega
  have hpos : 6 ≤ (lineText x).length := by rw [lineText_body]; simp [lineBody] <;> omega
  refine ⟨by omega, hlen, fun r hr => ?_⟩
  rw [he] at hr ⊢
  have hcb : tb (lineText x) = lineB ++ tb ([84, 67, 80, 52, 32] ++ quadText x.src.quad ++ [32] ++ quadText x.dst.quad ++ [32] ++ dec x.src.port.toNat ++ [32] ++ dec x.dst.port.toNat ++ [13, 10]) := by
    have : lineText x = [80, 82, 79, 88, 89, 32] ++ ([84, 67, 80, 52, 32] ++ quadText x.src.quad ++ [32] ++ quadText x.dst.quad ++ [32] ++ dec x.src.port.toNat ++ [32] ++ dec x.dst.port.toNat ++ [13, 10]) := by simp [lineText, lineT]
    rw [this, tb_app]; rfl
  have hl6 : 6 ≤ (tb (lineText x) ++ r).length := by rw [List.length_append, tb_len]; omega
  have ha : alike (tb (lineText x) ++ r) lineB = true := by rw [hcb]; exact alike_begin
  refine ⟨?_, ?_⟩
  · rw [sniff_L hr (by omega) (by rw [hcb]; rfl), if_pos ha, if_pos hl6]
  · unfold sizeLine
    rw [bt_app, bt_tb, lineFrom_text h1, h2]; rfl
theorem sniff_bv {xs : List Int} {n : Nat} (h : sniffSize xs = some n) : bv xs = true := by
  cases hb : bv xs with
  | true => rfl
  | false =>
    unfold sniffSize at h
    rw [sniff_bad hb] at h
    simp at h
theorem sniffSize_is {xs : List Int} {n : Nat} (h : sniffSize xs = some n) : 0 < n ∧ n ≤ xs.length ∧ ∀ r, bv (xs.take n ++ r) = true → sniffKind (xs.take n ++ r) = sniffKind xs ∧ sniffSize (xs.take n ++ r) = some n := by
  have hb := sniff_bv h
  have key : ∀ (k : Int) (size : List Int → Option Nat), Frm k size → sniffKind xs = k → size xs = some n → (∀ ys, sniffKind ys = k → sniffSize ys = size ys) →
      0 < n ∧ n ≤ xs.length ∧ ∀ r, bv (xs.take n ++ r) = true → sniffKind (xs.take n ++ r) = sniffKind xs ∧ sniffSize (xs.take n ++ r) = some n := by
    intro k size hf hk hs he
    obtain ⟨h1, h2, h3⟩ := hf xs n hb hs
    refine ⟨h1, h2, fun r hr => ?_⟩
    obtain ⟨h4, h5⟩ := h3 r hr
    exact ⟨by rw [h4, hk], by rw [he _ h4, h5]⟩
  by_cases k1 : sniffKind xs = 1
  · exact key 1 sizeOld frm_old k1 (by unfold sniffSize at h; rw [if_pos k1] at h; exact h) (fun ys e => by unfold sniffSize; rw [if_pos e])
  by_cases k2 : sniffKind xs = 2
  · exact key 2 sizeHello frm_hello k2 (by unfold sniffSize at h; rw [if_neg k1, if_pos k2] at h; exact h) (fun ys e => by unfold sniffSize; rw [if_neg (by omega), if_pos e])
  by_cases k3 : sniffKind xs = 3
  · exact key 3 sizeConn frm_conn k3 (by unfold sniffSize at h; rw [if_neg k1, if_neg k2, if_pos k3] at h; exact h) (fun ys e => by unfold sniffSize; rw [if_neg (by omega), if_neg (by omega), if_pos e])
  by_cases k4 : sniffKind xs = 4
  · exact key 4 sizeLine frm_line k4 (by unfold sniffSize at h; rw [if_neg k1, if_neg k2, if_neg k3, if_pos k4] at h; exact h) (fun ys e => by unfold sniffSize; rw [if_neg (by omega), if_neg (by omega), if_neg (by omega), if_pos e])
  by_cases k5 : sniffKind xs = 5
  · exact key 5 sizeHead frm_head k5 (by unfold sniffSize at h; rw [if_neg k1, if_neg k2, if_neg k3, if_neg k4, if_pos k5] at h; exact h) (fun ys e => by unfold sniffSize; rw [if_neg (by omega), if_neg (by omega), if_neg (by omega), if_neg (by omega), if_pos e])
  unfold sniffSize at h
  rw [if_neg k1, if_neg k2, if_neg k3, if_neg k4, if_neg k5] at h
  cases h
theorem sniffSize_self {xs : List Int} {n : Nat} (h : sniffSize xs = some n) : sniffSize (xs.take n) = some n ∧ sniffKind (xs.take n) = sniffKind xs := by
  obtain ⟨_, _, h3⟩ := sniffSize_is h
  have hb := bv_take (sniff_bv h) n
  have := h3 [] (by rw [List.append_nil]; exact hb)
  rw [List.append_nil] at this
  exact ⟨this.2, this.1⟩
theorem sniffSize_part {xs : List Int} {n k : Nat} (h : sniffSize xs = some n) (hk : k < n) : sniffSize (xs.take k) = none := by
  cases hs : sniffSize (xs.take k) with
  | none => rfl
  | some m =>
    obtain ⟨_, h2, h3⟩ := sniffSize_is hs
    have hn := (sniffSize_is h).2.1
    rw [List.length_take] at h2
    have e : (xs.take k).take m ++ xs.drop m = xs := by rw [List.take_take, Nat.min_eq_left (by omega), List.take_append_drop]
    have := (h3 (xs.drop m) (by rw [e]; exact sniff_bv h)).2
    rw [e, h] at this
    injection this with this
    omega
theorem sniffSize_none {xs : List Int} (h : sniffKind xs = 0 ∨ sniffKind xs = 6) : sniffSize xs = none := by
  unfold sniffSize
  rw [if_neg (by omega), if_neg (by omega), if_neg (by omega), if_neg (by omega), if_neg (by omega)]
theorem sniffSize_nil : sniffSize [] = none := sniffSize_none (.inl rfl)
/-- All frames that bytes begin with, and what is left. -/
def feedF : Nat → List Int → List (List Int) × List Int
  | 0, xs => ([], xs)
  | f + 1, xs => match sniffSize xs with | some n => (xs.take n :: (feedF f (xs.drop n)).1, (feedF f (xs.drop n)).2) | none => ([], xs)
def feedAll (xs : List Int) : List (List Int) × List Int := feedF xs.length xs
theorem feedF_none {f : Nat} {xs : List Int} (h : sniffSize xs = none) : feedF f xs = ([], xs) := by
  cases f with
  | zero => rfl
  | succ f => unfold feedF; rw [h]
theorem feedF_fuel : ∀ {f g : Nat} {xs : List Int}, xs.length ≤ f → xs.length ≤ g → feedF f xs = feedF g xs
  | 0, g, xs, hf, _ => by
    obtain rfl : xs = [] := List.eq_nil_of_length_eq_zero (by omega)
    rw [feedF_none sniffSize_nil, feedF_none sniffSize_nil]
  | f + 1, 0, xs, _, hg => by
    obtain rfl : xs = [] := List.eq_nil_of_length_eq_zero (by omega)
    rw [feedF_none sniffSize_nil, feedF_none sniffSize_nil]
  | f + 1, g + 1, xs, hf, hg => by
    cases h : sniffSize xs with
    | none => rw [feedF_none h, feedF_none h]
    | some n =>
      have hn := sniffSize_is h
      unfold feedF
      rw [h]
      simp only
      rw [feedF_fuel (f := f) (g := g) (xs := xs.drop n) (by rw [List.length_drop]; omega) (by rw [List.length_drop]; omega)]
theorem feedAll_some {xs : List Int} {n : Nat} (h : sniffSize xs = some n) : feedAll xs = (xs.take n :: (feedAll (xs.drop n)).1, (feedAll (xs.drop n)).2) := by
  have hn := sniffSize_is h
  have hl : 0 < xs.length := by omega
  unfold feedAll
  obtain ⟨m, hm⟩ : ∃ m, xs.length = m + 1 := ⟨xs.length - 1, by omega⟩
  rw [hm]
  conv => lhs; unfold feedF
  rw [h]
  simp only
  rw [feedF_fuel (f := m) (g := (xs.drop n).length) (by rw [List.length_drop]; omega) (Nat.le_refl _)]
theorem feedAll_none {xs : List Int} (h : sniffSize xs = none) : feedAll xs = ([], xs) := feedF_none h
end Go.Proofs.YtgigjgjpglmpoaaGreatDoor
namespace Go.Proofs.YtgigjgjpglmpoaaGreatDoor
open Go.RowKit
theorem feed_ind {P : List Int → Prop} (h0 : ∀ xs, sniffSize xs = none → P xs) (h1 : ∀ xs n, sniffSize xs = some n → P (xs.drop n) → P xs) : ∀ xs, P xs := by
  have key : ∀ (f : Nat) (xs : List Int), xs.length ≤ f → P xs := by
    intro f
    induction f with
    | zero => intro xs hf; exact h0 xs (by rw [List.eq_nil_of_length_eq_zero (by omega : xs.length = 0)]; exact sniffSize_nil)
    | succ f ih =>
      intro xs hf
      cases h : sniffSize xs with
      | none => exact h0 xs h
      | some n =>
        have hn := sniffSize_is h
        exact h1 xs n h (ih _ (by rw [List.length_drop]; omega))
  exact fun xs => key xs.length xs (Nat.le_refl _)
theorem feedAll_concat (xs : List Int) : (feedAll xs).1.flatten ++ (feedAll xs).2 = xs := by
  induction xs using feed_ind with
  | h0 xs h => rw [feedAll_none h]; rfl
  | h1 xs n h ih => rw [feedAll_some h]; simp only [List.flatten_cons, List.append_assoc]; rw [ih, List.take_append_drop]
theorem feedAll_each (xs : List Int) : ∀ f ∈ (feedAll xs).1, sniffSize f = some f.length := by
  induction xs using feed_ind with
  | h0 xs h => rw [feedAll_none h]; simp
  | h1 xs n h ih =>
    rw [feedAll_some h]
    intro f hf
    rcases List.mem_cons.1 hf with rfl | hf
    · have hn := (sniffSize_is h).2.1
      rw [(sniffSize_self h).1, List.length_take, Nat.min_eq_left hn]
    · exact ih f hf
theorem feedAll_rest (xs : List Int) : sniffSize (feedAll xs).2 = none := by
  induction xs using feed_ind with
  | h0 xs h => rw [feedAll_none h]; exact h
  | h1 xs n h ih => rw [feedAll_some h]; exact ih
theorem feedAll_len (xs : List Int) : (feedAll xs).1.length ≤ xs.length ∧ (∀ f ∈ (feedAll xs).1, f.length ≤ xs.length) ∧ (feedAll xs).2.length ≤ xs.length := by
  induction xs using feed_ind with
  | h0 xs h => rw [feedAll_none h]; simp
  | h1 xs n h ih =>
    have hn := sniffSize_is h
    rw [feedAll_some h]
    obtain ⟨a, b, c⟩ := ih
    rw [List.length_drop] at a c
    refine ⟨by simp only [List.length_cons]; omega, fun f hf => ?_, by show (feedAll (xs.drop n)).2.length ≤ _; omega⟩
    rcases List.mem_cons.1 hf with rfl | hf
    · rw [List.length_take]; omega
    · have := b f hf; rw [List.length_drop] at this; omega
theorem size_hello3 : sniffSize [5, 1, 0] = some 3 := by
  have hk : sniffKind [5, 1, 0] = 2 := sniff_5 (by decide) (by decide) rfl
  unfold sniffSize
  rw [if_neg (by omega), if_pos hk]
  unfold sizeHello
  have := helloFrom_text (ms := [0]) (r := []) (by decide) (by decide)
  have e : helloBytes [0] ++ [] = [5, 1, 0] := rfl
  rw [e] at this
  rw [this]; rfl
theorem feedAll_put (xs : List Int) (h : (feedAll xs).2 = []) (hb : bv (xs ++ [5, 1, 0]) = true) : feedAll (xs ++ [5, 1, 0]) = ((feedAll xs).1 ++ [[5, 1, 0]], []) := by
  induction xs using feed_ind with
  | h0 xs h0 =>
    rw [feedAll_none h0] at h ⊢
    simp only at h
    subst h
    rw [List.nil_append, feedAll_some size_hello3]
    have e : ([5, 1, 0] : List Int).drop 3 = [] := rfl
    rw [e, feedAll_none sniffSize_nil]; rfl
  | h1 xs n h1 ih =>
    have hn := sniffSize_is h1
    have et : (xs ++ [5, 1, 0]).take n = xs.take n := List.take_append_of_le_length hn.2.1
    have ed : (xs ++ [5, 1, 0]).drop n = xs.drop n ++ [5, 1, 0] := List.drop_append_of_le_length hn.2.1
    have e : xs.take n ++ (xs.drop n ++ [5, 1, 0]) = xs ++ [5, 1, 0] := by rw [← List.append_assoc, List.take_append_drop]
    have hs := (hn.2.2 (xs.drop n ++ [5, 1, 0]) (by rw [e]; exact hb)).2
    rw [e] at hs
    rw [feedAll_some h1] at h ⊢
    simp only at h
    have hbd : bv (xs.drop n ++ [5, 1, 0]) = true := by
      rw [← ed]
      simp only [bv, Bool.and_eq_true, List.all_eq_true, decide_eq_true_eq] at hb ⊢
      exact ⟨fun x hx => hb.1 x (List.mem_of_mem_drop hx), by rw [List.length_drop]; omega⟩
    rw [feedAll_some hs, et, ed, ih h hbd]
    rfl
end Go.Proofs.YtgigjgjpglmpoaaGreatDoor
