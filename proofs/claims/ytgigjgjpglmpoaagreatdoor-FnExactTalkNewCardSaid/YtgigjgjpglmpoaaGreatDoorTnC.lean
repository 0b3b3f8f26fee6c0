/- A talk's logins and numbers, marked; the marks, read. -/
import Derived.Test.YtgigjgjpglmpoaaGreatDoorTnB
namespace Go.Proofs.YtgigjgjpglmpoaaGreatDoor
open Go.RowKit
theorem Own_same {B e sz : Nat} {w w' : World} {v : Value} {n : Nat} {cs : List Value} (h : Own B e sz w v n cs) (hk : ∀ k, v.ownBlock = some k → w'.heap[k]? = w.heap[k]?) : Own B e sz w' v n cs := by
  replace h : w.ownsRow B e sz v n cs := h
  refine ⟨h.1, ?_⟩
  rcases h.2 with ⟨e1, e2⟩ | ⟨g, cap, cur, rfl, hb, hg, hr⟩
  · exact .inl ⟨e1, e2⟩
  · exact .inr ⟨g, cap, cur, rfl, hb, (hk g rfl).trans hg, hr⟩
theorem markLg_nil (k0 : Nat) : markLg k0 0 = [] := rfl
set_option maxHeartbeats 1000000 in
theorem markLoginsA_c {B : Nat} {w : World} {v : Value} {n : Nat} {cs : List Value} (h : Own B 43 2 w v n cs) (hcl : cs.length = n * 2) (k0 : Nat) (ki : Int) (hki : ki = (k0 : Int)) (hb : k0 + 2 * n ≤ 100000000) :
    Calls Tryz.prog 13 #[v, .int .i64 ki] w fun e w' => (∃ r : Int, e = .returned (.int .i64 r) ∧ r = ((k0 + 2 * n : Nat) : Int)) ∧ Own B 43 2 w' v n (lgs (markLg k0 n)) ∧ w.grownBy w' v.ownBlock := by
  by_cases hn : 0 < n
  · obtain ⟨g, cap, rfl, _, _⟩ := Lg_form0 h hn
    exact markLoginS_c h hcl k0 ki hki hb
  · obtain rfl : n = 0 := by omega
    obtain rfl : cs = [] := List.eq_nil_of_length_eq_zero (by omega)
    subst hki
    obtain ⟨_, p, cap, rfl, _, _, _⟩ := h.row
    go_enter Tryz.func13, Tryz.ntmps13
    go_wp2_with fail
    go_loopw [1, 5] (fun m i wr => i = .int .i64 0 ∧ m = .int .i64 k0 ∧ wr = w) (fun _ _ _ => 0)
    case atStart => exact ⟨rfl, rfl, rfl⟩
    case round =>
      obtain ⟨rfl, rfl, rfl⟩ := hrel
      go_wp2
      go_ret
      exact ⟨⟨_, rfl, by omega⟩, h, World.grownBy.refl _ _⟩
theorem Lg_len {n : Nat} {B : Nat} {w : World} {v : Value} {cs : List Value} (h : Own B 43 2 w v n cs) : cs.length = n * 2 := h.row.1
set_option maxHeartbeats 1000000 in
theorem heldTalk_c {w : World} {p q : Option Addr} {c d n m : Nat} (st : Int) (s : ByteArray) (h : IntS w (.slice p n c) (upFrom 1 n)) (hl : LgS w (.slice q m d) (markLg (n + 1) m)) (hn : n ≤ 1048576) (hm : m ≤ 1048576) :
    Calls Tryz.prog 15 #[.agg #[.int .i64 st, .slice p n c, .slice q m d, .string s], .int .i64 1] w fun e w' => (∃ r : Int, e = .returned (.int .i64 r) ∧ r = 1 + n + 2 * m) ∧ Gr w w' := by
  have hg := gr_alloc w (.cells #[.int .i64 st, .slice p n c, .slice q m d, .string s] 27)
  have hc : (0 : Int) ≤ 1 + (n : Int) := by omega
  go_enter Tryz.func15, Tryz.ntmps15
  go_wp2_with fail
  (with_reducible refine (heldIntS_c 1 n (h.kept hg) (by omega) (by omega) (by omega)).mono ?_); rintro e w1 ⟨rfl, rfl⟩
  go_wp2_with fail
  (with_reducible refine (heldLoginS_c (n + 1) (hl.kept hg) _ (by omega) (by omega)).mono ?_); rintro e w2 ⟨⟨r, rfl, hr⟩, g2⟩
  have hr0 : (0 : Int) ≤ r := by omega
  go_wp2
  go_ret
  exact ⟨⟨_, rfl, by omega⟩, hg.trans g2⟩
set_option maxHeartbeats 1000000 in
theorem markTalk_c {B T B' : Nat} {w : World} {p q : Option Addr} {c d : Nat} {us : List Int} {ms : List Lg} (st : Int) (s : ByteArray) (h : IntB B T 3 w (.slice p us.length c) us) (hl : LgO B' w (.slice q ms.length d) ms)
    (hd : ∀ k, (Value.slice q ms.length d).ownBlock = some k → ¬ (B ≤ k ∧ k < T)) (hT : T ≤ w.heap.size) (hn : us.length ≤ 1048576) (hm : ms.length ≤ 1048576) :
    Calls Tryz.prog 14 #[.agg #[.int .i64 st, .slice p us.length c, .slice q ms.length d, .string s], .int .i64 1] w fun e w' => (∃ r : Int, e = .returned (.int .i64 r) ∧ r = 1 + us.length + 2 * ms.length) ∧ ∃ w1, Chg B T (w.alloc (.cells #[.int .i64 st, .slice p us.length c, .slice q ms.length d, .string s] 27)) w1 ∧ IntB B T 3 w1 (.slice p us.length c) (upFrom 1 us.length) ∧ w1.grownBy w' (Value.slice q ms.length d).ownBlock ∧ Own B' 43 2 w' (.slice q ms.length d) ms.length (lgs (markLg (us.length + 1) ms.length)) := by
  have hg := gr_alloc w (.cells #[.int .i64 st, .slice p us.length c, .slice q ms.length d, .string s] 27)
  have HB := Lib.hid (heap_alloc_new w (.cells #[.int .i64 st, .slice p us.length c, .slice q ms.length d, .string s] 27))
  have hl1 := hl.kept hg
  have h1 := h.kept hg
  go_enter Tryz.func14, Tryz.ntmps14
  go_wp2_with fail
  (with_reducible refine (markIntS_c h1 1 (by omega) (by omega) (by omega)).mono ?_); rintro e w1 ⟨rfl, i1, c1⟩
  have hb := (c1.block w.heap.size (by omega)).trans HB.out
  have a2 := blk_cell hb (j := 2) rfl
  have l1 : Own B' 43 2 w1 (.slice q ms.length d) ms.length (lgs ms) := Own_same hl1 fun k hk => c1.block k (by have := hd k hk; omega)
  go_wp2_with fail
  (with_reducible refine (markLoginsA_c l1 (Lg_len l1) (us.length + 1) _ (by omega) (by omega)).mono ?_); rintro e w2 ⟨⟨r, rfl, hr⟩, o2, g2⟩
  go_wp2
  go_ret
  exact ⟨⟨_, rfl, by omega⟩, w1, c1, i1, g2, o2⟩
end Go.Proofs.YtgigjgjpglmpoaaGreatDoor
