/- An argument of type laws.Talk, opened. -/
import Derived.Test.YtgigjgjpglmpoaaGreatDoorTvB
import Derived.Deep.SlicePairs
import Derived.ProofKit
import Derived.OpenShut
import Derived.ShutString
import Derived.ChangeOld
namespace Go.Proofs.YtgigjgjpglmpoaaGreatDoor
open Go.RowKit Go.ChangeShapes Go.WideShapes Go.ChangeAt
theorem open_ints2 {H : Type} {enc : TypeId × Value → H} {W : World} {base : Nat} {held : Bool} {fuel : Nat} {v : Value} {x : DataW H × List MemPlace}
    (h : DataW.trod enc Tryz.prog W base (fun _ => true) held fuel 22 [v] = some x) : ∃ (a : Option Addr) (cap : Nat) (xs : List Int), v = .slice a xs.length cap ∧ IntS W (.slice a xs.length cap) xs ∧ xs.length ≤ 9223372036854775807 := by
  rcases open_ints Tryz.underlying22 Tryz.underlying3 (by kernel_rfl) h with ⟨hcs, _⟩ | ⟨x, l, c, zs, hcs, _, hl, hm, hz, _, hcell, hwz⟩
  · simp at hcs
    subst hcs
    exact ⟨none, 0, [], rfl, (IntO.nil 0 3 W).s, by simp⟩
  · simp at hcs
    subst hcs
    obtain ⟨r, l', _⟩ := row_of_read (w := W) (k := .i64) (a := some x) (len := l) (cap := c) (zs := zs) (.inr ⟨_, rfl, hl, hm, by simpa using hz, hcell, hwz⟩)
    exact ⟨some x, c, zs.take l, by rw [l'], by unfold IntS; rw [l'] at r ⊢; exact r, by rw [l']; unfold maxLen at hm; omega⟩
def strOf : Value → ByteArray
  | .string s => s
  | _ => ByteArray.empty
theorem tx_size (s : ByteArray) : (tx s).length = s.size := by
  have := S_len (tx s)
  rw [S_tx] at this
  exact this.symm
theorem open_logins1 {H : Type} {enc : TypeId × Value → H} {W : World} {base : Nat} {held : Bool} {fuel : Nat} {v : Value} {x : DataW H × List MemPlace}
    (h : DataW.trod enc Tryz.prog W base (fun _ => true) held fuel 23 [v] = some x) : ∃ (a : Option Addr) (cap : Nat) (ls : List Lg), v = .slice a ls.length cap ∧ LgS W (.slice a ls.length cap) ls ∧ LgBig ls := by
  rcases Go.Deep.open_slice_pairs Tryz.underlying23 Tryz.underlying41 (by kernel_rfl) rfl rfl (by kernel_rfl) (by kernel_rfl) h with ⟨hcs, _⟩ | ⟨a, len, cap, m, n, V0, V1, D0, D1, P0, P1, hcs, _, hl, hm, hmm, _, hc⟩
  · simp at hcs
    subst hcs
    exact ⟨none, 0, [], rfl, (LgO.nil 0 W).s, fun k hk => by cases hk⟩
  · simp at hcs
    subst hcs
    simp at hmm
    subst hmm
    have key : ∀ i, i < len → W.cell? (a.add (i * 2)) = some (.string (strOf (V0 i))) ∧ W.cell? (a.add (i * 2 + 1)) = some (.string (strOf (V1 i))) ∧ (strOf (V0 i)).size ≤ 9223372036854775807 ∧ (strOf (V1 i)).size ≤ 9223372036854775807 := by
      intro i hi
      obtain ⟨e0, e1, t0, t1⟩ := hc i (by omega)
      obtain ⟨s, hss, _, hsz⟩ := DataW.trod_string Tryz.underlying9 t0
      obtain ⟨s', hss', _, hsz'⟩ := DataW.trod_string Tryz.underlying9 t1
      simp at hss hss'
      unfold maxLen at hsz hsz'
      rw [hss] at e0
      rw [hss'] at e1
      rw [hss, hss']
      exact ⟨e0, e1, by simp only [strOf]; omega, by simp only [strOf]; omega⟩
    obtain ⟨ls, hlen, hnth⟩ : ∃ ls : List Lg, ls.length = len ∧ ∀ k, k < len → nthLg ls k = (tx (strOf (V0 k)), tx (strOf (V1 k))) :=
      ⟨(List.range len).map fun k => (tx (strOf (V0 k)), tx (strOf (V1 k))), by simp, fun k hk => by simp [nthLg, hk]⟩
    subst hlen
    refine ⟨some a, _, ls, rfl, ⟨lgs_len ls, some a, _, rfl, hl, by unfold maxLen at hm; omega, by simp, fun b hb j u hu => ?_⟩, fun k hk => ?_⟩
    · obtain rfl := Option.some.inj hb
      have hj : j < ls.length * 2 := by
        have := (List.getElem?_eq_some_iff.1 hu).1
        rwa [lgs_len] at this
      obtain ⟨z0, z1⟩ := lgs_at (ls := ls) (k := j / 2) (by omega)
      obtain ⟨e0, e1, _, _⟩ := key (j / 2) (by omega)
      rw [hnth _ (by omega)] at z0 z1
      simp only [S_tx] at z0 z1
      rcases Nat.mod_two_eq_zero_or_one j with hp | hp
      · have ej : j / 2 * 2 = j := by omega
        rw [ej] at z0 e0
        rw [hu] at z0
        rw [e0, z0]
      · have ej : j / 2 * 2 + 1 = j := by omega
        rw [ej] at z1 e1
        rw [hu] at z1
        rw [e1, z1]
    · obtain ⟨_, _, s0, s1⟩ := key k hk
      rw [hnth k hk]
      exact ⟨by rw [tx_size]; exact s0, by rw [tx_size]; exact s1⟩
end Go.Proofs.YtgigjgjpglmpoaaGreatDoor
