/- An argument of type []laws.Tag, opened. -/
import Derived.Test.YtikkjcfadbhemaaDoorExTagsBytes
import Derived.Deep.SlicePairs
import Derived.ProofKit
import Derived.OpenShut
import Derived.ShutString
import Derived.ChangeOld
namespace Go.Proofs.YtikkjcfadbhemaaDoor
open Go.RowKit Go.ChangeShapes Go.WideShapes Go.ChangeAt
open Go.Deep (open_slice_pairs)
open Go.Deep (choose_lt)
theorem open_row_ints {H : Type} {enc : TypeId × Value → H} {W : World} {base : Nat} {held : Bool} {fuel : Nat} {v : Value} {x : DataW H × List MemPlace}
    (h : DataW.trod enc Tryd.prog W base (fun _ => true) held fuel 23 [v] = some x) : ∃ xs, IntS W v xs := by
  rcases open_ints Tryd.underlying23 Tryd.underlying3 (by kernel_rfl) h with ⟨hcs, _⟩ | ⟨x, l, c, zs, hcs, _, hl, hm, hz, _, hcell, hwz⟩
  · simp at hcs
    subst hcs
    exact ⟨[], (IntO.nil 0 3 W).s⟩
  · simp at hcs
    subst hcs
    obtain ⟨r, l', _⟩ := row_of_read (w := W) (k := .i64) (a := some x) (len := l) (cap := c) (zs := zs) (.inr ⟨_, rfl, hl, hm, by simpa using hz, hcell, hwz⟩)
    exact ⟨zs.take l, by unfold IntS; rw [l'] at r ⊢; exact r⟩
theorem open_tags {H : Type} {enc : TypeId × Value → H} {W : World} {base : Nat} {held : Bool} {fuel : Nat} {a0 : Option Addr} {len0 cap0 : Nat} {x : DataW H × List MemPlace}
    (h : DataW.trod enc Tryd.prog W base (fun _ => true) held fuel 48 [.slice a0 len0 cap0] = some x) : ∃ ts, TagS W (.slice a0 len0 cap0) ts := by
  rcases open_slice_pairs Tryd.underlying48 Tryd.underlying82 (by kernel_rfl) rfl rfl (by kernel_rfl) (by kernel_rfl) h with ⟨hcs, _⟩ | ⟨a, len, cap, m, n, V0, V1, D0, D1, P0, P1, hcs, _, hl, hm, hmm, _, hall⟩
  · simp at hcs
    obtain ⟨rfl, rfl, rfl⟩ := hcs
    exact ⟨[], [], rfl, ⟨rfl, none, 0, rfl, by simp, by simp, by simp, by simp⟩, by simp⟩
  · simp at hcs
    obtain ⟨rfl, rfl, rfl⟩ := hcs
    have hmc : m = cap0 := by simpa using hmm
    have each : ∀ i, i < len0 → ∃ t : Tag, W.cell? (a.add (i * 2)) = some (.int .i64 t.1) ∧ W.cell? (a.add (i * 2 + 1)) = some (V1 i) ∧ IntS W (V1 i) t.2 := by
      intro i hi
      obtain ⟨h0, h1, h2, h3⟩ := hall i (by omega)
      obtain ⟨k, hk, _⟩ := DataW.trod_int Tryd.underlying3 h2
      obtain ⟨xs, hxs⟩ := open_row_ints h3
      simp at hk
      exact ⟨(k, xs), by rw [h0, hk], h1, hxs⟩
    obtain ⟨q, hq⟩ := choose_lt each
    have hnT : ∀ k, k < len0 → nthT ((List.range len0).map q) k = q k := fun k hk => by simp [nthT, hk]
    have hnV : ∀ k, k < len0 → nthV ((List.range len0).map V1) k = V1 k := fun k hk => by simp [nthV, hk]
    have hlen : ((List.range len0).map q).length = len0 := by simp
    refine ⟨(List.range len0).map q, (List.range len0).map V1, by simp, ?_, ?_⟩
    · have hcl := tagCells_len ((List.range len0).map q) ((List.range len0).map V1)
      rw [hlen] at hcl
      show Row W 2 _ _ (tagCells ((List.range len0).map q) ((List.range len0).map V1))
      rw [hlen]
      refine ⟨hcl, some a, cap0, rfl, hl, by unfold maxLen at hm; omega, by simp, fun b hb j u hu => ?_⟩
      obtain rfl := Option.some.inj hb
      have hj : j < len0 * 2 := by
        have := (List.getElem?_eq_some_iff.1 hu).1
        omega
      have hg := tagCells_get (ts := (List.range len0).map q) (ds := (List.range len0).map V1) (k := j / 2) (by rw [hlen]; omega)
      rw [hnT _ (by omega), hnV _ (by omega)] at hg
      obtain ⟨e1, e2, _⟩ := hq (j / 2) (by omega)
      rcases Nat.mod_two_eq_zero_or_one j with e | e
      · have ej : j = j / 2 * 2 := by omega
        rw [ej, hg.1] at hu
        cases hu
        rw [← ej] at e1; exact e1
      · have ej : j = j / 2 * 2 + 1 := by omega
        rw [ej, hg.2] at hu
        cases hu
        rw [← ej] at e2; exact e2
    · intro k hk
      rw [hlen] at hk
      rw [hnT k hk, hnV k hk]
      exact (hq k hk).2.2
end Go.Proofs.YtikkjcfadbhemaaDoor
