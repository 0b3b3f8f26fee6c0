/- Lines of pairs out of texts: plain laws. -/
import Derived.Test.YtfambpdhnicghaaGreatDoorAdrR
import Derived.Test.YtfambpdhnicghaaGreatDoorLineQ
import Derived.Lib.IndexLaws
import Derived.Lib.Strings
namespace Go.Proofs.YtfambpdhnicghaaGreatDoor
open Go.RowKit
/-- A line without its end. -/
def lineBody (p : Par) : Tx := [80, 82, 79, 88, 89] ++ 32 :: ([84, 67, 80, 52] ++ 32 :: (quadText p.src.quad ++ 32 :: (quadText p.dst.quad ++ 32 :: (dec p.src.port.toNat ++ 32 :: dec p.dst.port.toNat))))
theorem lineText_body (p : Par) : lineText p = lineBody p ++ [13, 10] := by simp [lineText, lineBody, lineT]
theorem quadText_no {q : List Int} (h : quadOk q = true) {c : UInt8} (hd : isDig (c.toNat : Int) = false) (h2 : c ≠ 46) : c ∉ quadText q := by
  obtain ⟨w, x, y, z, e, _⟩ := quad_four h
  rw [e, quadText_parts]
  simp only [List.mem_append, List.mem_cons, not_or]
  exact ⟨dec_not hd, h2, dec_not hd, h2, dec_not hd, h2, dec_not hd⟩
theorem body_no13 {p : Par} (h : parOk p = true) : (13 : UInt8) ∉ lineBody p := by
  obtain ⟨_, _, _, _, q1, q2, _⟩ := par_parts h
  unfold lineBody
  simp only [List.mem_append, List.mem_cons, not_or]
  refine ⟨by decide, by decide, by decide, by decide, quadText_no q1 (by decide) (by decide), by decide, quadText_no q2 (by decide) (by decide), by decide, dec_not (by decide), by decide, dec_not (by decide)⟩
theorem body_cut {p : Par} (h : parOk p = true) : cutB 32 (lineBody p) = [[80, 82, 79, 88, 89], [84, 67, 80, 52], quadText p.src.quad, quadText p.dst.quad, dec p.src.port.toNat, dec p.dst.port.toNat] := by
  obtain ⟨_, _, _, _, q1, q2, _⟩ := par_parts h
  unfold lineBody
  rw [cutB_hit (by decide), cutB_hit (by decide), cutB_hit (quadText_no q1 (by decide) (by decide)), cutB_hit (quadText_no q2 (by decide) (by decide)), cutB_hit (dec_not (by decide)), cutB_miss (dec_not (by decide))]
theorem idx_crlf {b r : Tx} (h : (13 : UInt8) ∉ b) : Lib.index (b ++ 13 :: 10 :: r) [13, 10] = (b.length : Int) := by
  refine Lib.index_hit (fun j hj => ?_) (by simp) ?_
  · unfold Lib.occAt
    have hj2 : j < (b ++ 13 :: 10 :: r).length := by simp; omega
    rw [List.drop_eq_getElem_cons hj2]
    have e : (b ++ 13 :: 10 :: r)[j] = b[j] := List.getElem_append_left hj
    have hne : ¬ (13 : UInt8) = b[j] := fun e => h (by rw [e]; exact List.getElem_mem hj)
    rw [e]
    simp [List.isPrefixOf, hne]
  · unfold Lib.occAt
    simp [List.isPrefixOf]
/-- The pair of the line that a text begins with: the reference. -/
def lineFrom (l : Tx) : Option (Par × Nat) :=
  if 0 ≤ Lib.index l [13, 10] then
    match cutB 32 (l.take (Lib.index l [13, 10]).toNat) with
    | [_, _, a, b, c, d] => if parOk ⟨adrOf a (num5 c), adrOf b (num5 d)⟩ = true ∧ lineText ⟨adrOf a (num5 c), adrOf b (num5 d)⟩ = l.take ((Lib.index l [13, 10]).toNat + 2) then some (⟨adrOf a (num5 c), adrOf b (num5 d)⟩, (Lib.index l [13, 10]).toNat + 2) else none
    | _ => none
  else none
/-- .. the program. -/
def lineFromI (l : Tx) : Option (Par × Nat) :=
  match cutB 32 (Lib.cut l [13, 10]).1 with
  | [_, _, a, b, c, d] => match addrFrom (a ++ [58] ++ c), addrFrom (b ++ [58] ++ d) with
    | some x, some y => if parOk ⟨x, y⟩ = true ∧ Lib.hasPrefix l (lineText ⟨x, y⟩) = true then some (⟨x, y⟩, (lineText ⟨x, y⟩).length) else none
    | _, _ => none
  | _ => none
theorem lineFrom_sound {l : Tx} {p : Par} {n : Nat} (h : lineFrom l = some (p, n)) : parOk p = true ∧ n = (lineText p).length ∧ lineText p = l.take n := by
  unfold lineFrom at h
  split at h
  · rename_i hi
    split at h
    · split at h
      · rename_i hc
        injection h with h
        injection h with h1 h2
        subst h1 h2
        have hr := Lib.index_room l [13, 10] hi
        refine ⟨hc.1, ?_, hc.2⟩
        rw [hc.2, List.length_take]
        simp at hr
        omega
      · cases h
    · cases h
  · cases h
theorem par_eta {p : Par} (h : parOk p = true) : adrOf (quadText p.src.quad) p.src.port = p.src ∧ adrOf (quadText p.dst.quad) p.dst.port = p.dst := by
  obtain ⟨h1, h2, k1, k2, _⟩ := par_parts h
  have e1 := adrOf_text h1
  have e2 := adrOf_text h2
  rw [hostText, if_pos k1] at e1
  rw [hostText, if_pos k2] at e2
  exact ⟨e1, e2⟩
theorem lineFrom_text {p : Par} (h : parOk p = true) (r : Tx) : lineFrom (lineText p ++ r) = some (p, (lineText p).length) := by
  obtain ⟨h1, h2, _⟩ := par_parts h
  have p1 := adr_port h1
  have p2 := adr_port h2
  have el : lineText p ++ r = lineBody p ++ 13 :: 10 :: r := by rw [lineText_body]; simp
  have hi := idx_crlf (b := lineBody p) (r := r) (body_no13 h)
  rw [← el] at hi
  have hl : (lineText p).length = (lineBody p).length + 2 := by rw [lineText_body]; simp
  have ht : (lineText p ++ r).take (lineBody p).length = lineBody p := by rw [el]; simp
  have ht2 : (lineText p ++ r).take ((lineBody p).length + 2) = lineText p := by rw [← hl]; simp
  have n1 : num5 (dec p.src.port.toNat) = p.src.port := by rw [num5_dec (by omega)]; omega
  have n2 : num5 (dec p.dst.port.toNat) = p.dst.port := by rw [num5_dec (by omega)]; omega
  unfold lineFrom
  rw [hi, if_pos (by omega), Int.toNat_natCast, ht, body_cut h]
  simp only
  rw [n1, n2, (par_eta h).1, (par_eta h).2, ht2, hl]
  rw [if_pos ⟨h, rfl⟩]
theorem take_prefix {t l : Tx} (h : Lib.hasPrefix l t = true) : t = l.take t.length := by
  unfold Lib.hasPrefix at h
  rw [List.isPrefixOf_iff_prefix] at h
  exact (List.prefix_iff_eq_take.1 h)
theorem lineFromI_sound {l : Tx} {p : Par} {n : Nat} (h : lineFromI l = some (p, n)) : parOk p = true ∧ n = (lineText p).length ∧ lineText p = l.take n := by
  unfold lineFromI at h
  split at h
  · split at h
    · split at h
      · rename_i hc
        injection h with h
        injection h with h1 h2
        subst h1 h2
        exact ⟨hc.1, rfl, take_prefix hc.2⟩
      · cases h
    · cases h
  · cases h
theorem cut_crlf {b r : Tx} (h : (13 : UInt8) ∉ b) : (Lib.cut (b ++ 13 :: 10 :: r) [13, 10]).1 = b := by
  unfold Lib.cut
  rw [idx_crlf h, if_pos (by omega)]
  simp
theorem lineFromI_text {p : Par} (h : parOk p = true) (r : Tx) : lineFromI (lineText p ++ r) = some (p, (lineText p).length) := by
  obtain ⟨h1, h2, k1, k2, _⟩ := par_parts h
  have el : lineText p ++ r = lineBody p ++ 13 :: 10 :: r := by rw [lineText_body]; simp
  have a1 : quadText p.src.quad ++ [58] ++ dec p.src.port.toNat = addrText p.src := by rw [addrText, hostText, if_pos k1]
  have a2 : quadText p.dst.quad ++ [58] ++ dec p.dst.port.toNat = addrText p.dst := by rw [addrText, hostText, if_pos k2]
  have hp : Lib.hasPrefix (lineText p ++ r) (lineText p) = true := by unfold Lib.hasPrefix; rw [List.isPrefixOf_iff_prefix]; exact List.prefix_append _ _
  have hc : (Lib.cut (lineText p ++ r) [13, 10]).1 = lineBody p := by rw [el]; exact cut_crlf (body_no13 h)
  unfold lineFromI
  rw [hc, body_cut h]
  simp only
  rw [a1, a2, addrFrom_text h1, addrFrom_text h2]
  simp only
  rw [if_pos ⟨h, hp⟩]
theorem take_append_rest {t l : Tx} {n : Nat} (h : t = l.take n) : l = t ++ l.drop n := by rw [h, List.take_append_drop]
theorem lineFromI_eq (l : Tx) : lineFromI l = lineFrom l := by
  cases h : lineFromI l with
  | some r =>
    obtain ⟨p, n⟩ := r
    obtain ⟨h1, h2, h3⟩ := lineFromI_sound h
    have := lineFrom_text h1 (l.drop n)
    rw [← take_append_rest h3] at this
    rw [this, h2]
  | none =>
    cases k : lineFrom l with
    | none => rfl
    | some r =>
      obtain ⟨p, n⟩ := r
      obtain ⟨h1, h2, h3⟩ := lineFrom_sound k
      have := lineFromI_text h1 (l.drop n)
      rw [← take_append_rest h3, h] at this
      cases this
theorem tl_eq (a b : ByteArray) : (a.toList == b.toList) = decide (tx a = tx b) := by
  rw [ByteArray.toList_eq, ByteArray.toList_eq, Bool.eq_iff_iff, beq_iff_eq, decide_eq_true_iff]; rfl
theorem lineFrom_cut {p : Par} (h : parOk p = true) {k : Nat} (hk : k < (lineText p).length) : lineFrom ((lineText p).take k) = none := by
  cases hq : lineFrom ((lineText p).take k) with
  | none => rfl
  | some r =>
    obtain ⟨q, n⟩ := r
    obtain ⟨h1, h2, h3⟩ := lineFrom_sound hq
    have hn := congrArg List.length h3
    rw [← h2, List.length_take, List.length_take] at hn
    have hl : (lineText p).length = (lineBody p).length + 2 := by rw [lineText_body]; simp
    have hl2 : (lineText q).length = (lineBody q).length + 2 := by rw [lineText_body]; simp
    have e : (lineText q).take (n-1) = (lineBody p).take (n-1) := by
      rw [h3, List.take_take, List.take_take, lineText_body p, List.take_append_of_le_length (by omega)]
      congr 1; omega
    have e2 : (lineText q).take (n-1) = lineBody q ++ [13] := by
      rw [lineText_body q, show lineBody q ++ [13, 10] = (lineBody q ++ [13]) ++ [10] by simp, List.take_append_of_le_length (by simp; omega), List.take_of_length_le (by simp; omega)]
    have h13 : (13 : UInt8) ∈ (lineBody p).take (n-1) := by rw [← e, e2]; simp
    exact absurd (List.mem_of_mem_take h13) (body_no13 h)
theorem six_len {l a b x y z u : Tx} (h : cutB 32 l = [a, b, x, y, z, u]) : a.length + b.length + x.length + y.length + z.length + u.length + 5 = l.length := by
  have := congrArg List.length (cutB_join 32 l)
  rw [h, join6] at this
  simp at this
  omega
theorem addL {P : Program} (x y : ByteArray) (l : Tx) (h : tx x ++ tx y = l) (hl : l.length ≤ 8000000) : ∀ w, (Op.stringOp .add x y).run P w = .ok (.string (S l)) w := by
  intro w
  have hx := tx_len x
  have hy := tx_len y
  have hh : (tx x).length + (tx y).length = l.length := by rw [← h, List.length_append]
  rw [run_string_add (P := P) w x y (by omega) (by omega)]
  rw [show x ++ y = S l from S_eq (by rw [tx_app]; exact h)]
end Go.Proofs.YtfambpdhnicghaaGreatDoor
