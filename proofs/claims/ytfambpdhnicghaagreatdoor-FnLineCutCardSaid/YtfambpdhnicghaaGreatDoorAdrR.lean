/- Addresses out of texts: the reference's way and the program's way are one. -/
import Derived.Test.YtfambpdhnicghaaGreatDoorAdrQ
import Derived.Lib.IndexMore
namespace Go.Proofs.YtfambpdhnicghaaGreatDoor
open Go.RowKit
/-- The address of a host and a port. -/
def adrOf (h : Tx) (p : Int) : Adr := match quadFrom h with | some q => ⟨1, q, [], p⟩ | none => ⟨3, [], h, p⟩
/-- The address of a text: the reference. -/
def addrFrom (l : Tx) : Option Adr := match cutB 58 l with | [h, p] => if adrOk (adrOf h (num5 p)) = true ∧ addrText (adrOf h (num5 p)) = l then some (adrOf h (num5 p)) else none | _ => none
/-- .. the program. -/
def addrFromI (l : Tx) : Option Adr := match decim (Lib.cut l [58]).2.1 with | some n => if adrOk (adrOf (Lib.cut l [58]).1 n) = true then some (adrOf (Lib.cut l [58]).1 n) else none | none => none
theorem no58 (n : Nat) : (58 : UInt8) ∉ dec n := dec_not (by decide)
theorem name_letters {l : Tx} (h : nameOk l = true) : ∀ c ∈ l, isLet (c.toNat : Int) = true ∨ c = 46 := by
  unfold nameOk at h
  simp only [Bool.and_eq_true] at h
  have key : ∀ l : Tx, (cutB 46 l).all pieceOk = true → ∀ c ∈ l, isLet (c.toNat : Int) = true ∨ c = 46 := by
    intro l hl c hc
    have hj := cutB_join 46 l
    have hp : ∀ p ∈ cutB 46 l, allLet p = true := fun p hp => (pieceOk_iff.1 (List.all_eq_true.1 hl p hp)).2
    have hm : ∀ (L : List Tx), (∀ p ∈ L, allLet p = true) → ∀ c ∈ Lib.join L [46], isLet (c.toNat : Int) = true ∨ c = 46 := by
      intro L hL c hc
      cases L with
      | nil => simp [Lib.join_nil] at hc
      | cons x r =>
        rw [Lib.join_cons, List.mem_append] at hc
        rcases hc with hc | hc
        · have := hL x (by simp)
          rw [allLet, List.all_eq_true] at this
          exact .inl (this c hc)
        · unfold Lib.joinTail at hc
          rw [List.mem_flatten] at hc
          obtain ⟨y, hy, hcy⟩ := hc
          rw [List.mem_map] at hy
          obtain ⟨z, hz, rfl⟩ := hy
          rw [List.mem_append] at hcy
          rcases hcy with hcy | hcy
          · exact .inr (by simpa using hcy)
          · have := hL z (by simp [hz])
            rw [allLet, List.all_eq_true] at this
            exact .inl (this c hcy)
    exact hm _ hp c (by rw [hj]; exact hc)
  exact key l h.1
theorem host_no {a : Adr} (h : adrOk a = true) {c : UInt8} (h1 : isLet (c.toNat : Int) = false) (h2 : c ≠ 46) : c ∉ hostText a := by
  have hd : isDig (c.toNat : Int) = false := by
    cases hx : isDig (c.toNat : Int) with
    | false => rfl
    | true => rw [isLet, hx] at h1; simp at h1
  rcases adr_kind h with ⟨k, q, _⟩ | ⟨k, nm, _⟩
  · rw [hostText, if_pos k]
    obtain ⟨w, x, y, z, e, _⟩ := quad_four q
    rw [e, quadText_parts]
    simp only [List.mem_append, List.mem_cons, not_or]
    exact ⟨dec_not hd, h2, dec_not hd, h2, dec_not hd, h2, dec_not hd⟩
  · rw [hostText, if_neg (by omega)]
    intro hc
    rcases name_letters nm c hc with e | e
    · rw [e] at h1; cases h1
    · exact h2 e
theorem host58 {a : Adr} (h : adrOk a = true) : (58 : UInt8) ∉ hostText a := host_no h (by decide) (by decide)
theorem adrOf_text {a : Adr} (h : adrOk a = true) : adrOf (hostText a) a.port = a := by
  obtain ⟨k, q, nm, p⟩ := a
  rcases adr_kind h with ⟨e1, e2, e3⟩ | ⟨e1, e2, e3⟩
  · simp only at e1 e2 e3
    subst e1 e3
    unfold adrOf
    rw [hostText, if_pos rfl, quadFrom_text e2]
  · simp only at e1 e2 e3
    subst e1 e3
    unfold adrOf
    rw [hostText, if_neg (by simp), name_not_quad e2]
theorem adrOf_host {h : Tx} {n : Int} : hostText (adrOf h n) = h ∧ (adrOf h n).port = n := by
  unfold adrOf
  split
  · rename_i q hq
    exact ⟨by rw [hostText, if_pos rfl]; exact (quadFrom_sound hq).2, rfl⟩
  · exact ⟨by rw [hostText, if_neg (by simp)], rfl⟩
theorem addrText_eq {a : Adr} : addrText a = hostText a ++ 58 :: dec a.port.toNat := by simp [addrText]
theorem addrFrom_text {a : Adr} (h : adrOk a = true) : addrFrom (addrText a) = some a := by
  have hp := adr_port h
  have hc : cutB 58 (addrText a) = [hostText a, dec a.port.toNat] := by rw [addrText_eq, cutB_hit (host58 h), cutB_miss (no58 _)]
  have hn : num5 (dec a.port.toNat) = a.port := by rw [num5_dec (by omega)]; omega
  unfold addrFrom
  rw [hc]
  simp only
  rw [hn, adrOf_text h, if_pos ⟨h, rfl⟩]
theorem addrFrom_sound {l : Tx} {a : Adr} (h : addrFrom l = some a) : adrOk a = true ∧ addrText a = l := by
  unfold addrFrom at h
  split at h
  · split at h
    · rename_i hc
      injection h with h
      subst h
      exact hc
    · cases h
  · cases h
theorem cut_hit {c : UInt8} {a b : Tx} (h : c ∉ a) : Lib.cut (a ++ c :: b) [c] = (a, b, true) := by
  have hi : Lib.index (a ++ c :: b) [c] = (a.length : Int) := by
    rcases idx_cases c (a ++ c :: b) with ⟨_, h2⟩ | ⟨a', b', h1, h2, h3⟩
    · simp at h2
    · rw [h3]
      have e : cutB c (a ++ c :: b) = cutB c (a' ++ c :: b') := by rw [h1]
      rw [cutB_hit h, cutB_hit h2] at e
      injection e with e1 e2
      rw [e1]
  unfold Lib.cut
  rw [hi, if_pos (by omega)]
  simp
theorem cut_miss {c : UInt8} {l : Tx} (h : c ∉ l) : Lib.cut l [c] = (l, [], false) := by
  unfold Lib.cut
  rcases idx_cases c l with ⟨h1, _⟩ | ⟨a, b, h1, _, _⟩
  · rw [h1, if_neg (by decide)]
  · rw [h1] at h; simp at h
theorem addrFromI_text {a : Adr} (h : adrOk a = true) : addrFromI (addrText a) = some a := by
  have hp := adr_port h
  have hn : decim (dec a.port.toNat) = some a.port := by rw [decim_dec (by omega)]; congr 1; omega
  unfold addrFromI
  rw [addrText_eq, cut_hit (host58 h)]
  simp only
  rw [hn]
  simp only
  rw [adrOf_text h, if_pos h]
theorem addrFromI_sound {l : Tx} {a : Adr} (h : addrFromI l = some a) : adrOk a = true ∧ addrText a = l := by
  unfold addrFromI at h
  split at h
  · rename_i n hd
    split at h
    · rename_i hok
      injection h with h
      subst h
      refine ⟨hok, ?_⟩
      by_cases hm : (58 : UInt8) ∈ l
      · obtain ⟨x, y, rfl, hx⟩ : ∃ x y, l = x ++ 58 :: y ∧ (58 : UInt8) ∉ x := by
          rcases idx_cases 58 l with ⟨_, h2⟩ | ⟨x, y, h1, h2, _⟩
          · exact absurd hm h2
          · exact ⟨x, y, h1, h2⟩
        rw [cut_hit hx] at hd hok ⊢
        simp only at hd hok ⊢
        have hp := adr_port hok
        rw [adrOf_host.2] at hp
        have hy := decim_sound hd
        rw [itoa_dec hp.1] at hy
        rw [addrText_eq, adrOf_host.1, adrOf_host.2, hy]
      · rw [cut_miss hm] at hd
        cases hd
    · cases h
  · cases h
theorem addrFromI_eq (l : Tx) : addrFromI l = addrFrom l := by
  cases h : addrFromI l with
  | some a =>
    obtain ⟨h1, h2⟩ := addrFromI_sound h
    rw [← h2, addrFrom_text h1]
  | none =>
    cases k : addrFrom l with
    | none => rfl
    | some a =>
      obtain ⟨h1, h2⟩ := addrFrom_sound k
      rw [← h2, addrFromI_text h1] at h
      cases h
end Go.Proofs.YtfambpdhnicghaaGreatDoor
