/- An argument of type laws.Pair, opened. -/
import Derived.Test.YtikkjcfadbhemaaDoorGA
import Derived.ProofKit
import Derived.OpenShut
import Derived.ShutString
import Derived.ChangeOld
namespace Go.Proofs.YtikkjcfadbhemaaDoor
open Go.RowKit Go.ChangeShapes Go.WideShapes Go.ChangeAt
theorem open_ints1 {H : Type} {enc : TypeId × Value → H} {W : World} {base : Nat} {held : Bool} {fuel : Nat} {v : Value} {x : DataW H × List MemPlace}
    (h : DataW.trod enc Tryd.prog W base (fun _ => true) held fuel 23 [v] = some x) : ∃ (a : Option Addr) (cap : Nat) (xs : List Int), v = .slice a xs.length cap ∧ IntS W (.slice a xs.length cap) xs ∧ xs.length ≤ 9223372036854775807 := by
  rcases open_ints Tryd.underlying23 Tryd.underlying3 (by kernel_rfl) h with ⟨hcs, _⟩ | ⟨x, l, c, zs, hcs, _, hl, hm, hz, _, hcell, hwz⟩
  · simp at hcs
    subst hcs
    exact ⟨none, 0, [], rfl, (IntO.nil 0 3 W).s, by simp⟩
  · simp at hcs
    subst hcs
    obtain ⟨r, l', _⟩ := row_of_read (w := W) (k := .i64) (a := some x) (len := l) (cap := c) (zs := zs) (.inr ⟨_, rfl, hl, hm, by simpa using hz, hcell, hwz⟩)
    exact ⟨some x, c, zs.take l, by rw [l'], by unfold IntS; rw [l'] at r ⊢; exact r, by rw [l']; unfold maxLen at hm; omega⟩
theorem open_adr {H : Type} {enc : TypeId × Value → H} {W : World} {base : Nat} {held : Bool} {fuel : Nat} {c0 c1 c2 c3 : Value} {x : DataW H × List MemPlace}
    (h : DataW.trod enc Tryd.prog W base (fun _ => true) held fuel 31 [c0, c1, c2, c3] = some x) :
    ∃ (k p : Int) (a : Option Addr) (cap : Nat) (s : ByteArray) (xs : List Int), c0 = .int .i64 k ∧ c1 = .slice a xs.length cap ∧ c2 = .string s ∧ c3 = .int .i64 p ∧ IntS W (.slice a xs.length cap) xs ∧ s.size ≤ 9223372036854775807 ∧ xs.length ≤ 9223372036854775807 := by
  obtain ⟨xs, n, _, _, _, hlen, hg⟩ := DataW.trod_struct Tryd.underlying31 h
  have k0 : Tryd.prog.cellsOf 3 = 1 := by kernel_rfl
  have k1 : Tryd.prog.cellsOf 23 = 1 := by kernel_rfl
  have k2 : Tryd.prog.cellsOf 9 = 1 := by kernel_rfl
  match xs, hlen with
  | [y0, y1, y2, y3], _ =>
    have g0 := hg 0 _ rfl
    have g1 := hg 1 _ rfl
    have g2 := hg 2 _ rfl
    have g3 := hg 3 _ rfl
    simp [k0, k1, k2] at g0 g1 g2 g3
    obtain ⟨k, hk, _⟩ := DataW.trod_int Tryd.underlying3 g0
    obtain ⟨a, cap, xs, hs, hr, hl⟩ := open_ints1 g1
    obtain ⟨s, hss, _, hsz⟩ := DataW.trod_string Tryd.underlying9 g2
    obtain ⟨p, hp, _⟩ := DataW.trod_int Tryd.underlying3 g3
    simp at hk hss hp
    exact ⟨k, p, a, cap, s, xs, hk, hs, hss, hp, hr, by unfold maxLen at hsz; omega, hl⟩
set_option maxRecDepth 100000 in
theorem open_pairarg {H : Type} {enc : TypeId × Value → H} {W : World} {base b0 : Nat} {held : Bool} {r : Reach} {v : Value} {d : DataW H} {pl : List MemPlace}
    (hv : Value.okWide Tryd.prog W r b0 33 v) (h : DataW.Trod enc Tryd.prog W base (fun _ => true) held 33 v d pl) :
    ∃ (k p k' p' : Int) (a a' : Option Addr) (cap cap' : Nat) (s s' : ByteArray) (xs ys : List Int), v = .agg #[.int .i64 k, .slice a xs.length cap, .string s, .int .i64 p, .int .i64 k', .slice a' ys.length cap', .string s', .int .i64 p'] ∧ IntS W (.slice a xs.length cap) xs ∧ IntS W (.slice a' ys.length cap') ys ∧ s.size ≤ 9223372036854775807 ∧ s'.size ≤ 9223372036854775807 ∧ xs.length ≤ 9223372036854775807 ∧ ys.length ≤ 9223372036854775807 := by
  obtain ⟨cs, rfl, hsz⟩ := okWide_struct Tryd.underlying33 hv
  obtain ⟨l⟩ := cs
  have hC : Tryd.prog.cellsOf 33 = 8 := by kernel_rfl
  have hA : Tryd.prog.cellsOf 31 = 4 := by kernel_rfl
  match l, hsz.trans hC with
  | [c0, c1, c2, c3, c4, c5, c6, c7], _ =>
    obtain ⟨fuel, hf⟩ := h
    obtain ⟨xs, n, _, _, _, hlen, hg⟩ := DataW.trod_struct Tryd.underlying33 hf
    match xs, hlen with
    | [y0, y1], _ =>
      have g0 := hg 0 _ rfl
      have g1 := hg 1 _ rfl
      simp [Value.cells, hA] at g0 g1
      obtain ⟨k, p, a, cap, s, xs, rfl, rfl, rfl, rfl, r1, s1, x1⟩ := open_adr g0
      obtain ⟨k', p', a', cap', s', ys, rfl, rfl, rfl, rfl, r2, s2, x2⟩ := open_adr g1
      exact ⟨k, p, k', p', a, a', cap, cap', s, s', xs, ys, rfl, r1, r2, s1, s2, x1, x2⟩
end Go.Proofs.YtikkjcfadbhemaaDoor
