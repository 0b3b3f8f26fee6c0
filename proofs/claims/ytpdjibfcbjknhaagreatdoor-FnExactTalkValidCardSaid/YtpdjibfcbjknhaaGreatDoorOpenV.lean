/- An argument of type laws.Talk, opened. -/
import Derived.Test.YtpdjibfcbjknhaaGreatDoorTvB
import Derived.Deep.SlicePairs
import Derived.ProofKit
import Derived.OpenShut
import Derived.ShutString
import Derived.ChangeOld
namespace Go.Proofs.YtpdjibfcbjknhaaGreatDoor
open Go.RowKit Go.ChangeShapes Go.WideShapes Go.ChangeAt
theorem open_ints2 {H : Type} {enc : TypeId × Value → H} {W : World} {base : Nat} {held : Bool} {fuel : Nat} {v : Value} {x : DataW H × List MemPlace}
    (h : DataW.trod enc Tryz.prog W base (fun _ => true) held fuel 23 [v] = some x) : ∃ (a : Option Addr) (cap : Nat) (xs : List Int), v = .slice a xs.length cap ∧ IntS W (.slice a xs.length cap) xs ∧ xs.length ≤ 9223372036854775807 := by
  rcases open_ints Tryz.underlying23 Tryz.underlying3 (by kernel_rfl) h with ⟨hcs, _⟩ | ⟨x, l, c, zs, hcs, _, hl, hm, hz, _, hcell, hwz⟩
  · simp at hcs
    subst hcs
    exact ⟨none, 0, [], rfl, (IntO.nil 0 3 W).s, by simp⟩
  · simp at hcs
    subst hcs
    obtain ⟨r, l', _⟩ := row_of_read (w := W) (k := .i64) (a := some x) (len := l) (cap := c) (zs := zs) (.inr ⟨_, rfl, hl, hm, by simpa using hz, hcell, hwz⟩)
    exact ⟨some x, c, zs.take l, by rw [l'], by unfold IntS; rw [l'] at r ⊢; exact r, by rw [l']; unfold maxLen at hm; omega⟩
def strOf : Value → ByteArray
  | .string s => s
  | _ => ByteArray.empty
theorem tx_size (s : ByteArray) : (tx s).length = s.size := by
  have := S_len (tx s)
  rw [S_tx] at this
  exact this.symm
theorem open_logins1 {H : Type} {enc : TypeId × Value → H} {W : World} {base : Nat} {held : Bool} {fuel : Nat} {v : Value} {x : DataW H × List MemPlace}
    (h : DataW.trod enc Tryz.prog W base (fun _ => true) held fuel 30 [v] = some x) : ∃ (a : Option Addr) (cap : Nat) (ls : List Lg), v = .slice a ls.length cap ∧ LgS W (.slice a ls.length cap) ls ∧ LgBig ls := by
  rcases Go.Deep.open_slice_pairs Tryz.underlying30 Tryz.underlying82 (by kernel_rfl) rfl rfl (by kernel_rfl) (by kernel_rfl) h with ⟨hcs, _⟩ | ⟨a, len, cap, m, n, V0, V1, D0, D1, P0, P1, hcs, _, hl, hm, hmm, _, hc⟩
  · simp at hcs
    subst hcs
    exact ⟨none, 0, [], rfl, (LgO.nil 0 W).s, fun k hk => by cases hk⟩
  · simp at hcs
    subst hcs
    simp at hmm
    subst hmm
    have key : ∀ i, i < len → W.cell? (a.add (i * 2)) = some (.string (strOf (V0 i))) ∧ W.cell? (a.add (i * 2 + 1)) = some (.string (strOf (V1 i))) ∧ (strOf (V0 i)).size ≤ 9223372036854775807 ∧ (strOf (V1 i)).size ≤ 9223372036854775807 := by
      intro i hi
      obtain ⟨e0, e1, t0, t1⟩ := hc i (by omega)
      obtain ⟨s, hss, _, hsz⟩ := DataW.trod_string Tryz.underlying9 t0
      obtain ⟨s', hss', _, hsz'⟩ := DataW.trod_string Tryz.underlying9 t1
      simp at hss hss'
      unfold maxLen at hsz hsz'
      rw [hss] at e0
      rw [hss'] at e1
      rw [hss, hss']
      exact ⟨e0, e1, by simp only [strOf]; omega, by simp only [strOf]; omega⟩
    obtain ⟨ls, hlen, hnth⟩ : ∃ ls : List Lg, ls.length = len ∧ ∀ k, k < len → nthLg ls k = (tx (strOf (V0 k)), tx (strOf (V1 k))) :=
      ⟨(List.range len).map fun k => (tx (strOf (V0 k)), tx (strOf (V1 k))), by simp, fun k hk => by simp [nthLg, hk]⟩
    subst hlen
    refine ⟨some a, _, ls, rfl, ⟨lgs_len ls, some a, _, rfl, hl, by unfold maxLen at hm; omega, by simp, fun b hb j u hu => ?_⟩, fun k hk => ?_⟩
    · obtain rfl := Option.some.inj hb
      have hj : j < ls.length * 2 := by
        have := (List.getElem?_eq_some_iff.1 hu).1
        rwa [lgs_len] at this
      obtain ⟨z0, z1⟩ := lgs_at (ls := ls) (k := j / 2) (by omega)
      obtain ⟨e0, e1, _, _⟩ := key (j / 2) (by omega)
      rw [hnth _ (by omega)] at z0 z1
      simp only [S_tx] at z0 z1
      rcases Nat.mod_two_eq_zero_or_one j with hp | hp
      · have ej : j / 2 * 2 = j := by omega
        rw [ej] at z0 e0
        rw [hu] at z0
        rw [e0, z0]
      · have ej : j / 2 * 2 + 1 = j := by omega
        rw [ej] at z1 e1
        rw [hu] at z1
        rw [e1, z1]
    · obtain ⟨_, _, s0, s1⟩ := key k hk
      rw [hnth k hk]
      exact ⟨by rw [tx_size]; exact s0, by rw [tx_size]; exact s1⟩
set_option maxRecDepth 100000 in
theorem open_talkarg {H : Type} {enc : TypeId × Value → H} {W : World} {base b0 : Nat} {held : Bool} {r : Reach} {v : Value} {d : DataW H} {pl : List MemPlace}
    (hv : Value.okWide Tryz.prog W r b0 44 v) (h : DataW.Trod enc Tryz.prog W base (fun _ => true) held 44 v d pl) :
    ∃ (st : Int) (a a' : Option Addr) (cap cap' : Nat) (s : ByteArray) (ws : List Int) (ls : List Lg), v = .agg #[.int .i64 st, .slice a ws.length cap, .slice a' ls.length cap', .string s] ∧ IntS W (.slice a ws.length cap) ws ∧ LgS W (.slice a' ls.length cap') ls ∧ LgBig ls ∧ ws.length ≤ 9223372036854775807 ∧ s.size ≤ 9223372036854775807 := by
  obtain ⟨cs, rfl, hsz⟩ := okWide_struct Tryz.underlying44 hv
  obtain ⟨l⟩ := cs
  have hC : Tryz.prog.cellsOf 44 = 4 := by kernel_rfl
  have k0 : Tryz.prog.cellsOf 3 = 1 := by kernel_rfl
  have k1 : Tryz.prog.cellsOf 23 = 1 := by kernel_rfl
  have k2 : Tryz.prog.cellsOf 30 = 1 := by kernel_rfl
  have k3 : Tryz.prog.cellsOf 9 = 1 := by kernel_rfl
  match l, hsz.trans hC with
  | [c0, c1, c2, c3], _ =>
    obtain ⟨fuel, hf⟩ := h
    obtain ⟨xs, n, _, _, _, hlen, hg⟩ := DataW.trod_struct Tryz.underlying44 hf
    match xs, hlen with
    | [y0, y1, y2, y3], _ =>
      have g0 := hg 0 _ rfl
      have g1 := hg 1 _ rfl
      have g2 := hg 2 _ rfl
      have g3 := hg 3 _ rfl
      simp [Value.cells, k0, k1, k2, k3] at g0 g1 g2 g3
      obtain ⟨st, hst, _⟩ := DataW.trod_int Tryz.underlying3 g0
      obtain ⟨a, cap, ws, hs, hr, hl⟩ := open_ints2 g1
      obtain ⟨a', cap', ls, hs', hr', hb'⟩ := open_logins1 g2
      obtain ⟨s, hss, _, hz⟩ := DataW.trod_string Tryz.underlying9 g3
      simp at hst hss
      exact ⟨st, a, a', cap, cap', s, ws, ls, by rw [hst, hs, hs', hss], hr, hr', hb', hl, by unfold maxLen at hz; omega⟩
end Go.Proofs.YtpdjibfcbjknhaaGreatDoor
