/- Toward the walk of laws.FnExactTalkNew: slices that lie apart; marks in owned memory. -/
import Derived.Test.YtgigjgjpglmpoaaGreatDoorTnC
import Derived.Test.YtgigjgjpglmpoaaGreatDoorTvD
import Derived.Test.YtgigjgjpglmpoaaGreatDoorTkB
namespace Go.Proofs.YtgigjgjpglmpoaaGreatDoor
open Go.RowKit
/-- Two owned slices of unlike elements lie in unlike blocks. -/
theorem own_apart {B B' : Nat} {w : World} {v u : Value} {xs : List Int} {ls : List Lg} (h : IntO B 3 w v xs) (hl : LgO B' w u ls) : ∀ k, u.ownBlock = some k → v.ownBlock ≠ some k := by
  intro k hk hk'
  replace h : w.ownsRow B 3 1 v xs.length (ints xs) := h
  replace hl : w.ownsRow B' 43 2 u ls.length (lgs ls) := hl
  rcases h.2 with ⟨rfl, _⟩ | ⟨g, cap, cur, rfl, hb, hg, _⟩
  · cases hk'
  rcases hl.2 with ⟨rfl, _⟩ | ⟨g', cap', cur', rfl, hb', hg', _⟩
  · cases hk
  obtain rfl := Option.some.inj hk
  obtain rfl := Option.some.inj hk'
  rw [hg] at hg'
  simp at hg'
/-- The tight bounds of an owned slice of numbers. -/
theorem own_tight {B : Nat} {w : World} {v : Value} {xs : List Int} (h : IntO B 3 w v xs) (hB : B ≤ w.heap.size) : ∃ g T, B ≤ g ∧ T ≤ w.heap.size ∧ IntB g T 3 w v xs ∧ ∀ k, g ≤ k → k < T → v.ownBlock = some k := by
  replace h : w.ownsRow B 3 1 v xs.length (ints xs) := h
  have h0 := h.1
  rcases h.2 with ⟨rfl, e2⟩ | ⟨g, cap, cur, rfl, hb, hg, hr⟩
  · exact ⟨B, B, Nat.le_refl _, hB, ⟨⟨h0, .inl ⟨rfl, e2⟩⟩, fun k hk => by cases hk⟩, fun k h1 h2 => absurd h1 (by omega)⟩
  · exact ⟨g, g + 1, hb, (Array.getElem?_eq_some_iff.1 hg).1, ⟨⟨h0, .inr ⟨g, cap, cur, rfl, Nat.le_refl _, hg, hr⟩⟩, fun k hk => by obtain rfl := Option.some.inj hk; exact Nat.lt_succ_self _⟩, fun k h1 h2 => by
    have e : k = g := by omega
    rw [e]
    rfl⟩
/-- One slice's block has turned; what lies in another block is kept. -/
theorem Own.grownN {B e sz : Nat} {w w' : World} {v : Value} {n : Nat} {cs : List Value} (h : Own B e sz w v n cs) {row : Option Nat} (hg : w.grownBy w' row) (hne : ∀ k, row = some k → v.ownBlock ≠ some k) : Own B e sz w' v n cs := by
  refine World.ownsRow.kept h hg ?_
  cases hv : v.ownBlock with
  | none => exact .inl rfl
  | some k => exact .inr fun heq => hne k heq.symm hv
theorem below_grown {B : Nat} {w w' : World} {row : Option Nat} (hg : w.grownBy w' row) (hB : B ≤ w.heap.size) (hr : ∀ k, row = some k → B ≤ k) : Below B w w' := (Below.refl B w).grown hg hB hr
theorem Gr.belowN {a b c : World} {B : Nat} (h : Gr a b) (k : Below B b c) (hB : a.heap.size ≤ B) : Gr a c := Below.trans h (Below.mono k hB)
theorem LgO.marked {B : Nat} {w : World} {v : Value} {k n : Nat} (h : Own B 43 2 w v n (lgs (markLg k n))) : LgO B w v (markLg k n) := by
  unfold LgO
  rw [markLg_len]
  exact h
set_option maxHeartbeats 1000000 in
/-- A talk in memory of its own, marked. -/
theorem markTalkO_c {B : Nat} {w : World} {p q : Option Addr} {c d : Nat} {us : List Int} {ms : List Lg} (st : Int) (s : ByteArray) (h : IntO B 3 w (.slice p us.length c) us) (hl : LgO B w (.slice q ms.length d) ms) (hB : B ≤ w.heap.size) (hn : us.length ≤ 1048576) (hm : ms.length ≤ 1048576) :
    Calls Tryz.prog 14 #[.agg #[.int .i64 st, .slice p us.length c, .slice q ms.length d, .string s], .int .i64 1] w fun e w' => (∃ r : Int, e = .returned (.int .i64 r) ∧ r = 1 + us.length + 2 * ms.length) ∧ IntS w' (.slice p us.length c) (upFrom 1 us.length) ∧ LgS w' (.slice q ms.length d) (markLg (us.length + 1) ms.length) ∧ Below B w w' ∧
      ∀ k, k < w.heap.size → (Value.slice p us.length c).ownBlock ≠ some k → (Value.slice q ms.length d).ownBlock ≠ some k → w'.heap[k]? = w.heap[k]? := by
  obtain ⟨g, T, hg, hT, hI, ht⟩ := own_tight h hB
  have hap := own_apart h hl
  have hbl := Own.blk hl
  refine (markTalk_c st s hI hl (fun k hk hgt => hap k hk (ht k hgt.1 hgt.2)) hT hn hm).mono ?_
  rintro e w' ⟨hr, w1, c1, i1, g1, o1⟩
  refine ⟨hr, Own.row (Own.grownN i1.o g1 fun k hk => hap k hk), (LgO.marked o1).s, ?_, fun k hk hp hq => ?_⟩
  rotate_left
  · have e1 := (gr_alloc w (.cells #[.int .i64 st, .slice p us.length c, .slice q ms.length d, .string s] 27)).block k hk
    have e2 := c1.block k (by
      by_cases hc : g ≤ k ∧ k < T
      · exact absurd (ht k hc.1 hc.2) hp
      · omega)
    have z0 := (gr_alloc w (.cells #[.int .i64 st, .slice p us.length c, .slice q ms.length d, .string s] 27)).size
    have z1 := c1.size
    have e3 := g1.block k (by omega) (fun e => hq e.symm)
    exact e3.trans (e2.trans e1)
  have b0 := (gr_alloc w (.cells #[.int .i64 st, .slice p us.length c, .slice q ms.length d, .string s] 27)).below hB
  have z0 := b0.size
  have b1 := Below.mono c1.below hg
  have z1 := b1.size
  exact Below.trans b0 (Below.trans b1 (below_grown g1 (by omega) fun k hk => (hbl k hk).1))
end Go.Proofs.YtgigjgjpglmpoaaGreatDoor
