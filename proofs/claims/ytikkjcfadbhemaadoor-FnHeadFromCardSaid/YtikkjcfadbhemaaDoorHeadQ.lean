/- Heads: bytes of heads have their head, parts of heads have none, a head has its bytes (plain laws). -/
import Derived.Test.YtikkjcfadbhemaaDoorGJ
import Derived.Test.YtikkjcfadbhemaaDoorTagsM
namespace Go.Proofs.YtikkjcfadbhemaaDoor
open Go.RowKit
theorem numOf_num2 {n : Int} (h0 : 0 ≤ n) (h1 : n ≤ 65535) : numOf (num2 n) = n := by
  simp [numOf, num2]; omega
theorem four_of {xs : List Int} (h : xs.length = 4) : ∃ a b c d, xs = [a, b, c, d] := by
  match xs, h with
  | [a, b, c, d], _ => exact ⟨a, b, c, d, rfl⟩
/-- The parts of a head. -/
theorem head_parts {p : Par} {ts : List Tag} (h : headOk p ts = true) : ∃ a b c d e f g i : Int, ∃ P Q : Int, p = ⟨⟨1, [a, b, c, d], [], P⟩, ⟨1, [e, f, g, i], [], Q⟩⟩ ∧ tagsOk ts = true ∧ 0 ≤ P ∧ P ≤ 65535 ∧ 0 ≤ Q ∧ Q ≤ 65535 ∧ quadOk [a, b, c, d] = true ∧ quadOk [e, f, g, i] = true := by
  have h2 := h
  simp only [headOk, Bool.and_eq_true] at h2
  obtain ⟨a1, a2, k1, k2, q1, q2, n1, n2⟩ := par_parts h2.1
  have p1 := adr_port a1
  have p2 := adr_port a2
  obtain ⟨⟨k, q, n, P⟩, ⟨k', q', n', Q⟩⟩ := p
  simp only at k1 k2 q1 q2 n1 n2 p1 p2
  obtain ⟨a, b, c, d, rfl⟩ := four_of (quad_bytes q1).1
  obtain ⟨e, f, g, i, rfl⟩ := four_of (quad_bytes q2).1
  subst k1 k2 n1 n2
  exact ⟨a, b, c, d, e, f, g, i, P, Q, rfl, h2.2, p1.1, p1.2, p2.1, p2.2, q1, q2⟩
theorem head_cells (a b c d e f g i P Q : Int) (ts : List Tag) (zs : List Int) : headBytes ⟨⟨1, [a, b, c, d], [], P⟩, ⟨1, [e, f, g, i], [], Q⟩⟩ ts ++ zs =
    13 :: 10 :: 13 :: 10 :: 0 :: 13 :: 10 :: 81 :: 85 :: 73 :: 84 :: 10 :: 33 :: 17 :: ((12 + (tagsBytes ts).length : Nat) : Int) / 256 % 256 :: ((12 + (tagsBytes ts).length : Nat) : Int) % 256 :: a :: b :: c :: d :: e :: f :: g :: i :: P / 256 % 256 :: P % 256 :: Q / 256 % 256 :: Q % 256 :: (tagsBytes ts ++ zs) := by
  have hl : (headBody ⟨⟨1, [a, b, c, d], [], P⟩, ⟨1, [e, f, g, i], [], Q⟩⟩ ts).length = 12 + (tagsBytes ts).length := by simp [headBody, num2]; omega
  unfold headBytes
  rw [hl]
  simp [headBody, headStart, num2]
theorem headSize_of {a b c d e f g i P Q : Int} {ts : List Tag} {zs : List Int} (h : (tagsBytes ts).length ≤ 76) : hSize (headBytes ⟨⟨1, [a, b, c, d], [], P⟩, ⟨1, [e, f, g, i], [], Q⟩⟩ ts ++ zs) = 12 + (tagsBytes ts).length := by
  rw [head_cells]
  show (numOf (num2 ((12 + (tagsBytes ts).length : Nat) : Int))).toNat = _
  rw [numOf_num2 (by omega) (by omega)]
  omega
theorem headFrom_bytes {p : Par} {ts : List Tag} (h : headOk p ts = true) (zs : List Int) (hb : bv (headBytes p ts ++ zs) = true) : headFrom (headBytes p ts ++ zs) = some (p, ts, (headBytes p ts).length) := by
  have hl := headBytes_len h
  have hT := (headBody_len h).2
  obtain ⟨a, b, c, d, e, f, g, i, P, Q, rfl, ht, hP0, hP1, hQ0, hQ1, q1, q2⟩ := head_parts h
  have hs := headSize_of (a := a) (b := b) (c := c) (d := d) (e := e) (f := f) (g := g) (i := i) (P := P) (Q := Q) (ts := ts) (zs := zs) hT
  have hL : 28 + (tagsBytes ts).length ≤ (headBytes ⟨⟨1, [a, b, c, d], [], P⟩, ⟨1, [e, f, g, i], [], Q⟩⟩ ts ++ zs).length := by rw [List.length_append]; omega
  have ha : alike (headBytes ⟨⟨1, [a, b, c, d], [], P⟩, ⟨1, [e, f, g, i], [], Q⟩⟩ ts ++ zs) headStart = true := by
    rw [alike_iff, headStart_len, Nat.min_eq_right (by omega), head_cells]; rfl
  have ht2 : ((headBytes ⟨⟨1, [a, b, c, d], [], P⟩, ⟨1, [e, f, g, i], [], Q⟩⟩ ts ++ zs).drop 28).take (tagsBytes ts).length = tagsBytes ts := by
    rw [head_cells]
    show (tagsBytes ts ++ zs).take (tagsBytes ts).length = _
    simp
  have hp : hPar (headBytes ⟨⟨1, [a, b, c, d], [], P⟩, ⟨1, [e, f, g, i], [], Q⟩⟩ ts ++ zs) = ⟨⟨1, [a, b, c, d], [], P⟩, ⟨1, [e, f, g, i], [], Q⟩⟩ := by
    rw [head_cells]
    show (⟨⟨1, [a, b, c, d], [], numOf (num2 P)⟩, ⟨1, [e, f, g, i], [], numOf (num2 Q)⟩⟩ : Par) = _
    rw [numOf_num2 hP0 hP1, numOf_num2 hQ0 hQ1]
  unfold headFrom
  rw [if_pos ⟨hb, by omega, ha, by omega, by omega⟩, hs, hp, Nat.add_sub_cancel_left, ht2, tagsFrom_bytes ht, hl]
  simp only [Option.map_some]
  rw [show 16 + (12 + (tagsBytes ts).length) = 28 + (tagsBytes ts).length by omega]
theorem hq_2 {xs : List Int} (h : xs.length < 28) : headFrom xs = none := by unfold headFrom; rw [if_neg]; rintro ⟨_, h1, _⟩; omega
theorem hq_4 {xs : List Int} (h : hSize xs < 12 ∨ xs.length - 16 < hSize xs) : headFrom xs = none := by unfold headFrom; rw [if_neg]; rintro ⟨_, _, _, h1, h2⟩; omega
theorem headFrom_cut {p : Par} {ts : List Tag} (h : headOk p ts = true) {k : Nat} (hk : k < (headBytes p ts).length) : headFrom ((headBytes p ts).take k) = none := by
  have hl := headBytes_len h
  have hT := (headBody_len h).2
  obtain ⟨a, b, c, d, e, f, g, i, P, Q, rfl, ht, _⟩ := head_parts h
  have hs := headSize_of (a := a) (b := b) (c := c) (d := d) (e := e) (f := f) (g := g) (i := i) (P := P) (Q := Q) (ts := ts) (zs := []) hT
  rw [List.append_nil] at hs
  by_cases h28 : 28 ≤ k
  · have e2 : hSize ((headBytes ⟨⟨1, [a, b, c, d], [], P⟩, ⟨1, [e, f, g, i], [], Q⟩⟩ ts).take k) = 12 + (tagsBytes ts).length := by
      rw [← hs]
      unfold hSize
      rw [List.drop_take, List.take_take, Nat.min_eq_left (by omega)]
    refine hq_4 (.inr ?_)
    rw [e2, List.length_take]; omega
  · exact hq_2 (by rw [List.length_take]; omega)
theorem seg {xs : List Int} (i j k : Nat) : (xs.drop i).take j ++ (xs.drop (i + j)).take k = (xs.drop i).take (j + k) := by
  have := List.take_add (l := xs.drop i) (i := j) (j := k)
  rw [List.drop_drop] at this
  exact this.symm
theorem headFrom_back {xs : List Int} {p : Par} {ts : List Tag} {n : Nat} (h : headFrom xs = some (p, ts, n)) : headOk p ts = true ∧ headBytes p ts = xs.take n ∧ n ≤ xs.length ∧ 28 ≤ n := by
  have h0 := h
  unfold headFrom at h0
  split at h0
  · rename_i hc
    obtain ⟨hb, h28, hal, h12, hs⟩ := hc
    rw [Option.map_eq_some_iff] at h0
    obtain ⟨us, h1, h2⟩ := h0
    injection h2 with e1 e2
    injection e2 with e2 e3
    subst e1 e2 e3
    have hby := bv_bytes hb
    have h120 : xs.length ≤ 120 := by simp only [bv, Bool.and_eq_true, decide_eq_true_eq] at hb; exact hb.2
    obtain ⟨ht1, ht2⟩ := tagsFrom_back h1
    have hseg : ∀ i j, bytesOnly ((xs.drop i).take j) := fun i j => bytes_take (bytes_drop hby i) j
    have hlen : ∀ i j, i + j ≤ xs.length → ((xs.drop i).take j).length = j := fun i j hij => by rw [List.length_take, List.length_drop]; omega
    have hq : ∀ i, i + 4 ≤ xs.length → quadOk ((xs.drop i).take 4) = true := fun i hi => by
      simp only [quadOk, Bool.and_eq_true, decide_eq_true_eq]
      exact ⟨bytes_bv (hseg i 4) (by rw [hlen i 4 hi]; omega), hlen i 4 hi⟩
    have hp : ∀ i, i + 2 ≤ xs.length → inB 0 65535 (numOf ((xs.drop i).take 2)) = true := fun i hi => inB_iff.2 (numOf_small2 (hseg i 2) (by rw [hlen i 2 hi]; omega))
    have hn : ∀ i, i + 2 ≤ xs.length → num2 (numOf ((xs.drop i).take 2)) = (xs.drop i).take 2 := fun i hi => take2_num (hseg i 2) (hlen i 2 hi)
    have hok : headOk (hPar xs) us = true := by
      simp only [headOk, Bool.and_eq_true]
      refine ⟨?_, ht1⟩
      simp only [parOk, hPar, adrOk, Bool.and_eq_true, decide_eq_true_eq]
      simp [hq 16 (by omega), hq 20 (by omega), hp 24 (by omega), hp 26 (by omega)]
    have hbody : headBody (hPar xs) us = (xs.drop 16).take (hSize xs) := by
      unfold headBody hPar
      simp only
      rw [hn 24 (by omega), hn 26 (by omega), ht2, seg 16 4 4, seg 16 8 2, seg 16 10 2, seg 16 12 (hSize xs - 12), show 12 + (hSize xs - 12) = hSize xs by omega]
    refine ⟨hok, ?_, by omega, by omega⟩
    unfold headBytes
    have hst : headStart = xs.take 14 := by
      have := alike_iff.1 hal
      rw [headStart_len, Nat.min_eq_right (by omega), List.take_of_length_le (l := headStart) (by rw [headStart_len]; omega)] at this
      exact this.symm
    have hsz : ((hSize xs : Nat) : Int) = numOf ((xs.drop 14).take 2) := by
      have := (numOf_small2 (hseg 14 2) (by rw [hlen 14 2 (by omega)]; omega)).1
      unfold hSize; omega
    rw [hbody, List.length_take, List.length_drop, Nat.min_eq_left (by omega), hsz, hn 14 (by omega), hst]
    have e0 := seg (xs := xs) 0 14 2
    have e1 := seg (xs := xs) 0 16 (hSize xs)
    rw [List.drop_zero] at e0 e1
    rw [e0, e1]
  · cases h0
end Go.Proofs.YtikkjcfadbhemaaDoor
