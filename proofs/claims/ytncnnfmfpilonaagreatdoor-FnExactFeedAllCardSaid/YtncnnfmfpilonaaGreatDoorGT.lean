/- Draws of pairs and heads.
Draws of pairs and heads: two more.
Draws of lines.
laws.sameAddress, samePair: equal addresses, equal pairs. -/
import Derived.Test.YtncnnfmfpilonaaGreatDoorGG
import Derived.Test.YtncnnfmfpilonaaGreatDoorGI
import Derived.Test.YtncnnfmfpilonaaGreatDoorGJ
import Derived.Test.YtncnnfmfpilonaaGreatDoorGD
import Derived.Test.YtncnnfmfpilonaaGreatDoorGB
import Derived.Test.YtncnnfmfpilonaaGreatDoorGN
import Derived.Test.YtncnnfmfpilonaaGreatDoorGH
namespace Go.Proofs.YtncnnfmfpilonaaGreatDoor
open Go.RowKit
/-- A drawn pair, behind the whole draw. -/
def PairOut (w : World) (e : Ending) (w' : World) : Prop := ∃ (pq : Option Addr) (cq : Nat) (pq' : Option Addr) (cq' : Nat) (k p k' p' : Int) (s s' : ByteArray) (xs ys : List Int), e = .returned (.agg #[.int .i64 k, .slice pq xs.length cq, .string s, .int .i64 p, .int .i64 k', .slice pq' ys.length cq', .string s', .int .i64 p']) ∧ xs.length ≤ 4 ∧ ys.length ≤ 4 ∧ s.size ≤ 30 ∧ s'.size ≤ 30 ∧ IntS w' (.slice pq xs.length cq) xs ∧ IntS w' (.slice pq' ys.length cq') ys ∧ Gr w w'
/-- A drawn pair with drawn tags. -/
def HeadDraw (w : World) (e : Ending) (w' : World) : Prop := ∃ (pq : Option Addr) (cq : Nat) (pq' : Option Addr) (cq' : Nat) (k p k' p' : Int) (s s' : ByteArray) (xs ys : List Int) (v : Value) (ts : List Tag), e = .returned (.tuple #[.agg #[.int .i64 k, .slice pq xs.length cq, .string s, .int .i64 p, .int .i64 k', .slice pq' ys.length cq', .string s', .int .i64 p'], v]) ∧ xs.length ≤ 4 ∧ ys.length ≤ 4 ∧ s.size ≤ 30 ∧ s'.size ≤ 30 ∧ ts.length ≤ 5 ∧ (∀ t ∈ ts, t.2.length ≤ 17) ∧ IntS w' (.slice pq xs.length cq) xs ∧ IntS w' (.slice pq' ys.length cq') ys ∧ TagS w' v ts ∧ Gr w w'
end Go.Proofs.YtncnnfmfpilonaaGreatDoor
namespace Go.Proofs.YtncnnfmfpilonaaGreatDoor
open Go.RowKit
end Go.Proofs.YtncnnfmfpilonaaGreatDoor
namespace Go.Proofs.YtncnnfmfpilonaaGreatDoor
open Go.RowKit
set_option maxHeartbeats 2000000 in
theorem l92Text_c {w : World} {g m : Nat} (s : ByteArray) (h : RdAt w g m) (hm : m ≤ 20000) (hs : s.size ≤ 500) :
    Calls Tryz.prog 59 #[.pointer (some ⟨g, 0, none⟩), .string s] w fun e w' => ∃ t : ByteArray, e = .returned (.string t) ∧ t.size ≤ s.size + 9 ∧ RdAt w' g (m + 4) ∧ D g w w' := by
  have he := emp_tx s
  by_cases hz : s.size = 0
  · have hx : tx s = [] := List.eq_nil_of_length_eq_zero (by rw [tx_len]; exact hz)
    rw [hx] at he
    clear hx
    go_enter Tryz.func59, Tryz.ntmps59
    go_wp2
    go_ret
    exact ⟨_, rfl, by show 9 ≤ s.size + 9; omega, h.more (by omega), D.refl _ _⟩
  · have hx : (tx s).isEmpty = false := by
      cases h : tx s with
      | nil => have := tx_len s; rw [h] at this; simp at this; omega
      | cons x y => rfl
    rw [hx] at he
    clear hx
    have hpos : 0 < s.size := by omega
    have hlt := h.lt
    go_enter Tryz.func59, Tryz.ntmps59
    go_wp2_with fail
    (with_reducible refine (pick_c h (by omega) _ (by omega) (by omega)).mono ?_); rintro e w1 ⟨k, rfl, hk0, hk1, hr1, hd1⟩
    obtain ⟨k, rfl⟩ := Int.eq_ofNat_of_zero_le hk0
    have hk : k < s.size := by omega
    go_wp2_with fail
    (with_reducible refine (pick_c hr1 (by omega) _ (by omega) (by omega)).mono ?_); rintro e w2 ⟨c, rfl, hc0, hc1, hr2, hd2⟩
    have hD2 := hd1.trans hd2
    have hs2 := hD2.sz
    have z1 : (s.extract 0 k).size = k := by simp; omega
    have z2 : (s.extract (k + 1) s.size).size = s.size - (k + 1) := by simp
    have h7 : c = 0 ∨ c = 1 ∨ c = 2 ∨ c = 3 ∨ c = 4 ∨ c = 5 := by omega
    clear hc0 hc1 hk0 hd1 hd2 hr1
    rcases h7 with rfl | rfl | rfl | rfl | rfl | rfl
    · have hra := hr2.alloc (.cells #[.string ⟨#[120]⟩, .string ⟨#[32]⟩, .string ⟨#[48]⟩] 9)
      have hDa := hD2.alloc (.cells #[.string ⟨#[120]⟩, .string ⟨#[32]⟩, .string ⟨#[48]⟩] 9)
      have SL := Lib.hid (strLit w2 #[.string ⟨#[120]⟩, .string ⟨#[32]⟩, .string ⟨#[48]⟩] [[120], [32], [48]] 3 (by omega) rfl rfl)
      have hgl : g < w2.heap.size := by omega
      have hk1 : (k : Int) + 1 ≤ (s.size : Int) := by omega
      have hwk : IntKind.i64.wrap ((k : Int) + 1) = (k : Int) + 1 := by rw [IntKind.wrap_i64]; omega
      go_wp2_with fail
      go_region_with (first
        | (go_at_call 97; (with_reducible refine (of_c (most := 1) hra.drew (by omega) (SL.out.kept ((Gr.refl _).drew)) hgl (by decide) (by decide) (by decide)).mono ?_); rintro e w3 ⟨t, rfl, ht, hr3, hd3'⟩; have hd3 : D g w w3 := hDa.trans ((D.ofGr ((Gr.refl _).drew)).trans hd3'); have A1 := addL (P := Tryz.prog) (s.extract 0 k) t _ rfl (by rw [List.length_append, tx_len, tx_len]; omega); have hl1 : (S (tx (s.extract 0 k) ++ tx t)).size ≤ k + 1 := by rw [S_len, List.length_append, tx_len, tx_len]; omega
           generalize S (tx (s.extract 0 k) ++ tx t) = u at *
           have A2 := addL (P := Tryz.prog) u (s.extract (k + 1) s.size) _ rfl (by rw [List.length_append, tx_len, tx_len]; omega)
           have hl2 : (S (tx u ++ tx (s.extract (k + 1) s.size))).size ≤ s.size + 1 := by rw [S_len, List.length_append, tx_len, tx_len]; omega
           generalize S (tx u ++ tx (s.extract (k + 1) s.size)) = u2 at *))
      all_goals
        go_wp2
        go_ret
        exact ⟨_, rfl, by omega, hr3.more (by omega), hd3⟩
    · go_wp2
      go_ret
      exact ⟨_, rfl, by omega, hr2.more (by omega), hD2⟩
    · obtain ⟨mo, hmo, hms⟩ : ∃ mo : ByteArray, mo = ⟨#[109, 111, 114, 101]⟩ ∧ mo.size = 4 := ⟨_, rfl, rfl⟩
      have A1 := addL (P := Tryz.prog) s mo _ rfl (by rw [List.length_append, tx_len, tx_len]; omega)
      have hl1 : (S (tx s ++ tx mo)).size ≤ s.size + 9 := by rw [S_len, List.length_append, tx_len, tx_len]; omega
      generalize S (tx s ++ tx mo) = u at *
      rw [hmo] at A1
      clear hmo hms
      go_wp2
      go_ret
      exact ⟨_, rfl, hl1, hr2.more (by omega), hD2⟩
    all_goals
      go_wp2
      go_ret
      exact ⟨_, rfl, by omega, hr2.more (by omega), hD2⟩
set_option maxRecDepth 20000 in
set_option maxHeartbeats 2000000 in
theorem DrawLineFrom_c {w : World} {v : Value} {bs : List Int} (h : ByteS w v bs) :
    Calls Tryz.prog 21 #[v] w fun e w' => ∃ t : ByteArray, e = .returned (.string t) ∧ t.size ≤ 129 ∧ Gr w w' := by
  obtain ⟨p, cap, rfl, _, _⟩ := h.form
  go_enter Tryz.func21, Tryz.ntmps21
  go_wp2_with fail
  (with_reducible refine (l6Open_c h).mono ?_); rintro e w1 ⟨rfl, hr1, g1⟩
  have hz1 := g1.sz
  have hlt1 := hr1.lt
  go_wp2_with fail
  (with_reducible refine (l92Pair_c hr1 (by omega)).mono ?_); rintro e w2 ⟨q, q', k, p, k', p', s, s', xs, ys, rfl, hxl, hyl, hsl, hsl', ho2, ho2', hr2, hd2⟩
  obtain ⟨pq, cq, rfl⟩ := ho2.len
  obtain ⟨pq', cq', rfl⟩ := ho2'.len
  have hr3 := hr2
  have hd3 := hd2
  have LT := Lib.hid (LineText_c k p k' p' s s' ho2.s ho2'.s (by omega) (by omega))
  have hl : (if parOk ⟨⟨k, xs, tx s, p⟩, ⟨k', ys, tx s', p'⟩⟩ = true then lineText ⟨⟨k, xs, tx s, p⟩, ⟨k', ys, tx s', p'⟩⟩ else []).length ≤ 120 := by
    split
    · rename_i hc; exact (lineText_len hc).1
    · simp
  generalize (if parOk ⟨⟨k, xs, tx s, p⟩, ⟨k', ys, tx s', p'⟩⟩ = true then lineText ⟨⟨k, xs, tx s, p⟩, ⟨k', ys, tx s', p'⟩⟩ else []) = l at *
  have hls : (S l).size ≤ 120 := by rw [S_len]; exact hl
  go_wp2_with fail
  (with_reducible refine (LT.out).mono ?_); rintro e w4 ⟨rfl, g4⟩
  have hd4 := hd3.trans (D.ofGr g4)
  go_wp2_with fail
  (with_reducible refine (l92Text_c (S l) (hr3.kept g4) (by omega) (by omega)).mono ?_); rintro e w5 ⟨t, rfl, ht, hr5, hd5⟩
  go_wp2
  go_ret
  exact ⟨_, rfl, by omega, (hd4.trans hd5).gr g1 (Nat.le_refl _)⟩
end Go.Proofs.YtncnnfmfpilonaaGreatDoor
namespace Go.Proofs.YtncnnfmfpilonaaGreatDoor
open Go.RowKit
theorem sameAddress_c {w : World} {v u : Value} {xs : List Int} (k p : Int) (s : ByteArray) (hv : IntS w v xs) (hu : IntS w u xs) :
    Calls Tryz.prog 60 #[.agg #[.int .i64 k, v, .string s, .int .i64 p], .agg #[.int .i64 k, u, .string s, .int .i64 p]] w fun e w' => e = .returned (.bool true) ∧ Gr w w' := by
  obtain ⟨p1, c, rfl, _, _⟩ := hv.form
  obtain ⟨q, d, rfl, _, _⟩ := hu.form
  have hg := (gr_alloc w (.cells #[.int .i64 k, .slice p1 xs.length c, .string s, .int .i64 p] 24)).alloc (.cells #[.int .i64 k, .slice q xs.length d, .string s, .int .i64 p] 24)
  go_enter Tryz.func60, Tryz.ntmps60
  go_wp2_with fail
  (with_reducible refine (same_c (hv.kept hg) (hu.kept hg)).mono ?_); rintro e w1 ⟨rfl, g1⟩
  go_wp2
  go_ret
  exact ⟨rfl, hg.trans g1⟩
set_option maxHeartbeats 1000000 in
theorem samePair_c {w : World} {v v' u u' : Value} {xs ys : List Int} (k p k' p' : Int) (s s' : ByteArray) (hv : IntS w v xs) (hu : IntS w u xs) (hv' : IntS w v' ys) (hu' : IntS w u' ys) :
    Calls Tryz.prog 22 #[.agg #[.int .i64 k, v, .string s, .int .i64 p, .int .i64 k', v', .string s', .int .i64 p'], .agg #[.int .i64 k, u, .string s, .int .i64 p, .int .i64 k', u', .string s', .int .i64 p']] w fun e w' => e = .returned (.bool true) ∧ Gr w w' := by
  obtain ⟨p1, c, rfl, _, _⟩ := hv.form
  obtain ⟨q, d, rfl, _, _⟩ := hu.form
  obtain ⟨p1', c', rfl, _, _⟩ := hv'.form
  obtain ⟨q', d', rfl, _, _⟩ := hu'.form
  obtain ⟨oa, ha⟩ : ∃ o : Obj, o = .cells #[.int .i64 k, .slice p1 xs.length c, .string s, .int .i64 p, .int .i64 k', .slice p1' ys.length c', .string s', .int .i64 p'] 26 := ⟨_, rfl⟩
  obtain ⟨ob, hb⟩ : ∃ o : Obj, o = .cells #[.int .i64 k, .slice q xs.length d, .string s, .int .i64 p, .int .i64 k', .slice q' ys.length d', .string s', .int .i64 p'] 26 := ⟨_, rfl⟩
  have hg := (gr_alloc w oa).alloc ob
  have hA := (gr_alloc (w.alloc oa) ob).blk (heap_alloc_new w oa)
  have hB := heap_alloc_new (w.alloc oa) ob
  rw [show (w.alloc oa).heap.size = w.heap.size + 1 by simp] at hB
  subst ha hb
  have HA := Lib.hid hA
  have HB := Lib.hid hB
  clear hA hB
  go_enter Tryz.func22, Tryz.ntmps22
  go_wp2_with fail
  (with_reducible refine (sameAddress_c k p s (hv.kept hg) (hu.kept hg)).mono ?_); rintro e w1 ⟨rfl, g1⟩
  have HA1 := g1.blk HA.out
  have HB1 := g1.blk HB.out
  have x4 := blk_cell HA1 (j := 4) rfl
  have x5 := blk_cell HA1 (j := 5) rfl
  have x6 := blk_cell HA1 (j := 6) rfl
  have x7 := blk_cell HA1 (j := 7) rfl
  have y4 := blk_cell HB1 (j := 4) rfl
  have y5 := blk_cell HB1 (j := 5) rfl
  have y6 := blk_cell HB1 (j := 6) rfl
  have y7 := blk_cell HB1 (j := 7) rfl
  clear HA1 HB1
  have hG := hg.trans g1
  go_wp2_with fail
  (with_reducible refine (sameAddress_c k' p' s' (hv'.kept hG) (hu'.kept hG)).mono ?_); rintro e w2 ⟨rfl, g2⟩
  go_wp2
  go_ret
  exact ⟨rfl, hG.trans g2⟩
end Go.Proofs.YtncnnfmfpilonaaGreatDoor
