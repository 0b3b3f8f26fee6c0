/- Draws of pairs and heads.
Draws of pairs and heads: two more.
Draws of lines.
laws.sameAddress, samePair: equal addresses, equal pairs. -/
import Derived.Test.YtdbepkcpdglppaaGreatDoorGG
import Derived.Test.YtdbepkcpdglppaaGreatDoorGI
import Derived.Test.YtdbepkcpdglppaaGreatDoorGJ
import Derived.Test.YtdbepkcpdglppaaGreatDoorGD
import Derived.Test.YtdbepkcpdglppaaGreatDoorGB
import Derived.Test.YtdbepkcpdglppaaGreatDoorGN
import Derived.Test.YtdbepkcpdglppaaGreatDoorGH
namespace Go.Proofs.YtdbepkcpdglppaaGreatDoor
open Go.RowKit
/-- A drawn pair, behind the whole draw. -/
def PairOut (w : World) (e : Ending) (w' : World) : Prop := ∃ (pq : Option Addr) (cq : Nat) (pq' : Option Addr) (cq' : Nat) (k p k' p' : Int) (s s' : ByteArray) (xs ys : List Int), e = .returned (.agg #[.int .i64 k, .slice pq xs.length cq, .string s, .int .i64 p, .int .i64 k', .slice pq' ys.length cq', .string s', .int .i64 p']) ∧ xs.length ≤ 4 ∧ ys.length ≤ 4 ∧ s.size ≤ 30 ∧ s'.size ≤ 30 ∧ IntS w' (.slice pq xs.length cq) xs ∧ IntS w' (.slice pq' ys.length cq') ys ∧ Gr w w'
set_option maxRecDepth 20000 in
set_option maxHeartbeats 2000000 in
theorem DrawLineText_c {w : World} {v : Value} {bs : List Int} (h : ByteS w v bs) :
    Calls Tryz.prog 10 #[v] w (PairOut w) := by
  obtain ⟨p, cap, rfl, _, _⟩ := h.form
  have gA := gr_alloc w (.cells #[.int .i64 0, .slice none 0 0, .string ⟨#[]⟩, .int .i64 0, .int .i64 0, .slice none 0 0, .string ⟨#[]⟩, .int .i64 0] 27)
  have hA := heap_alloc_new w (.cells #[.int .i64 0, .slice none 0 0, .string ⟨#[]⟩, .int .i64 0, .int .i64 0, .slice none 0 0, .string ⟨#[]⟩, .int .i64 0] 27)
  have zA : (w.alloc (.cells #[.int .i64 0, .slice none 0 0, .string ⟨#[]⟩, .int .i64 0, .int .i64 0, .slice none 0 0, .string ⟨#[]⟩, .int .i64 0] 27)).heap.size = w.heap.size + 1 := by simp
  have O := l6Open_c (h.kept gA)
  rw [zA] at O
  have HO := Lib.hid O
  clear O
  go_enter Tryz.func10, Tryz.ntmps10
  go_wp2_with fail
  (with_reducible refine (HO.out).mono ?_); rintro e w1 ⟨rfl, hr1, g1⟩
  have hz1 := g1.sz
  rw [zA] at hz1
  have HG1 := Lib.hid (gA.trans g1)
  have HB1 := Lib.hid (g1.blk hA)
  clear g1 hA zA gA HO
  go_wp2_with fail
  (with_reducible refine (l92Pair_c hr1 (by omega)).mono ?_); rintro e w2 ⟨q, q', k, p, k', p', s, s', xs, ys, rfl, hxl, hyl, hsl, hsl', ho2, ho2', hr2, hd2⟩
  obtain ⟨pq, cq, rfl⟩ := ho2.len
  obtain ⟨pq', cq', rfl⟩ := ho2'.len
  have HB2 := Lib.hid (hd2.blk HB1.out (by omega))
  have HG2 := Lib.hid (hd2.gr HG1.out (by omega))
  have b2 := IntO.b ho2
  have b2' := IntO.b ho2'
  clear ho2 ho2' hd2 HB1 HG1 hr2
  have x0 := blk_cell HB2.out (j := 0) rfl
  have x1 := blk_cell HB2.out (j := 1) rfl
  have x2 := blk_cell HB2.out (j := 2) rfl
  have x3 := blk_cell HB2.out (j := 3) rfl
  have x4 := blk_cell HB2.out (j := 4) rfl
  have x5 := blk_cell HB2.out (j := 5) rfl
  have x6 := blk_cell HB2.out (j := 6) rfl
  have x7 := blk_cell HB2.out (j := 7) rfl
  have f0 := blk_frozen HB2.out 0
  have f1 := blk_frozen HB2.out 1
  have f2 := blk_frozen HB2.out 2
  have f3 := blk_frozen HB2.out 3
  have f4 := blk_frozen HB2.out 4
  have f5 := blk_frozen HB2.out 5
  have f6 := blk_frozen HB2.out 6
  have f7 := blk_frozen HB2.out 7
  go_wp2
  change bodyPost _ _ _ _ _ (put8 w2 w.heap.size (.int .i64 k) (.slice pq xs.length cq) (.string s) (.int .i64 p) (.int .i64 k') (.slice pq' ys.length cq') (.string s') (.int .i64 p'))
  have hW := put8_blk HB2.out (.int .i64 k) (.slice pq xs.length cq) (.string s) (.int .i64 p) (.int .i64 k') (.slice pq' ys.length cq') (.string s') (.int .i64 p')
  have cW := put8_chg w2 w.heap.size (.int .i64 k) (.slice pq xs.length cq) (.string s) (.int .i64 p) (.int .i64 k') (.slice pq' ys.length cq') (.string s') (.int .i64 p')
  generalize put8 w2 w.heap.size (.int .i64 k) (.slice pq xs.length cq) (.string s) (.int .i64 p) (.int .i64 k') (.slice pq' ys.length cq') (.string s') (.int .i64 p') = wz at *
  have y0 := blk_cell hW (j := 0) rfl
  have y1 := blk_cell hW (j := 1) rfl
  have y2 := blk_cell hW (j := 2) rfl
  have y3 := blk_cell hW (j := 3) rfl
  have y4 := blk_cell hW (j := 4) rfl
  have y5 := blk_cell hW (j := 5) rfl
  have y6 := blk_cell hW (j := 6) rfl
  have y7 := blk_cell hW (j := 7) rfl
  exact bodyPost_ret (v := .agg #[.int .i64 k, .slice pq xs.length cq, .string s, .int .i64 p, .int .i64 k', .slice pq' ys.length cq', .string s', .int .i64 p']) (by simp [results, Tryz.results10, go_sem, y0, y1, y2, y3, y4, y5, y6, y7]) rfl ⟨pq, cq, pq', cq', k, p, k', p', s, s', xs, ys, rfl, hxl, hyl, hsl, hsl', (b2.chg cW (.inr (by omega))).s, (b2'.chg cW (.inr (by omega))).s, cW.gr HG2.out (Nat.le_refl _)⟩
/-- A drawn pair with drawn tags. -/
def HeadDraw (w : World) (e : Ending) (w' : World) : Prop := ∃ (pq : Option Addr) (cq : Nat) (pq' : Option Addr) (cq' : Nat) (k p k' p' : Int) (s s' : ByteArray) (xs ys : List Int) (v : Value) (ts : List Tag), e = .returned (.tuple #[.agg #[.int .i64 k, .slice pq xs.length cq, .string s, .int .i64 p, .int .i64 k', .slice pq' ys.length cq', .string s', .int .i64 p'], v]) ∧ xs.length ≤ 4 ∧ ys.length ≤ 4 ∧ s.size ≤ 30 ∧ s'.size ≤ 30 ∧ ts.length ≤ 5 ∧ (∀ t ∈ ts, t.2.length ≤ 17) ∧ IntS w' (.slice pq xs.length cq) xs ∧ IntS w' (.slice pq' ys.length cq') ys ∧ TagS w' v ts ∧ Gr w w'
set_option maxRecDepth 20000 in
set_option maxHeartbeats 4000000 in
theorem DrawHeadBytes_c {w : World} {v : Value} {bs : List Int} (h : ByteS w v bs) :
    Calls Tryz.prog 23 #[v] w (HeadDraw w) := by
  obtain ⟨p, cap, rfl, _, _⟩ := h.form
  have gA := gr_alloc w (.cells #[.int .i64 0, .slice none 0 0, .string ⟨#[]⟩, .int .i64 0, .int .i64 0, .slice none 0 0, .string ⟨#[]⟩, .int .i64 0] 27)
  have hA := heap_alloc_new w (.cells #[.int .i64 0, .slice none 0 0, .string ⟨#[]⟩, .int .i64 0, .int .i64 0, .slice none 0 0, .string ⟨#[]⟩, .int .i64 0] 27)
  have zA : (w.alloc (.cells #[.int .i64 0, .slice none 0 0, .string ⟨#[]⟩, .int .i64 0, .int .i64 0, .slice none 0 0, .string ⟨#[]⟩, .int .i64 0] 27)).heap.size = w.heap.size + 1 := by simp
  have O := l6Open_c (h.kept gA)
  rw [zA] at O
  have HO := Lib.hid O
  clear O
  go_enter Tryz.func23, Tryz.ntmps23
  go_wp2_with fail
  (with_reducible refine (HO.out).mono ?_); rintro e w1 ⟨rfl, hr1, g1⟩
  have hz1 := g1.sz
  rw [zA] at hz1
  have hlt1 := hr1.lt
  have HG1 := Lib.hid (gA.trans g1)
  have HB1 := Lib.hid (g1.blk hA)
  clear g1 hA zA gA HO
  go_wp2_with fail
  (with_reducible refine (l92Pair_c hr1 (by omega)).mono ?_); rintro e w2 ⟨q, q', k, p, k', p', s, s', xs, ys, rfl, hxl, hyl, hsl, hsl', ho2, ho2', hr2, hd2⟩
  obtain ⟨pq, cq, rfl⟩ := ho2.len
  obtain ⟨pq', cq', rfl⟩ := ho2'.len
  have hz2 := hd2.sz
  have HB2 := Lib.hid (hd2.blk HB1.out (by omega))
  have HG2 := Lib.hid (hd2.gr HG1.out (by omega))
  have b2 := IntO.b ho2
  have b2' := IntO.b ho2'
  clear ho2 ho2' hd2 HB1 HG1
  go_wp2_with fail
  have gS := gr_alloc w2 (.cells #[.int .i64 k, .slice pq xs.length cq, .string s, .int .i64 p, .int .i64 k', .slice pq' ys.length cq', .string s', .int .i64 p'] 27)
  have hS := heap_alloc_new w2 (.cells #[.int .i64 k, .slice pq xs.length cq, .string s, .int .i64 p, .int .i64 k', .slice pq' ys.length cq', .string s', .int .i64 p'] 27)
  have zS : (w2.alloc (.cells #[.int .i64 k, .slice pq xs.length cq, .string s, .int .i64 p, .int .i64 k', .slice pq' ys.length cq', .string s', .int .i64 p'] 27)).heap.size = w2.heap.size + 1 := by simp
  generalize w2.alloc (.cells #[.int .i64 k, .slice pq xs.length cq, .string s, .int .i64 p, .int .i64 k', .slice pq' ys.length cq', .string s', .int .i64 p'] 27) = w3 at *
  have hr3 := hr2.kept gS
  have HB3 := Lib.hid (gS.blk HB2.out)
  have HS3 := Lib.hid hS
  have HG3 := Lib.hid (HG2.out.trans gS)
  have b3 := b2.kept gS
  have b3' := b2'.kept gS
  have s0 := blk_cell HS3.out (j := 0) rfl
  have s1 := blk_cell HS3.out (j := 1) rfl
  have s2 := blk_cell HS3.out (j := 2) rfl
  have s3 := blk_cell HS3.out (j := 3) rfl
  have s4 := blk_cell HS3.out (j := 4) rfl
  have s5 := blk_cell HS3.out (j := 5) rfl
  have s6 := blk_cell HS3.out (j := 6) rfl
  have s7 := blk_cell HS3.out (j := 7) rfl
  clear hr2 HB2 HG2 b2 b2' hS gS
  go_region_with (first
    | (go_at_call 57; (with_reducible refine (l92Tags_c hr3.drew (by omega)).mono ?_); rintro e w4 ⟨v4, ts, T, rfl, ht1, ht2, hto, hT, hr4, hd4'⟩; have hd4 : D (w.heap.size + 1) w3 w4 := (D.ofGr ((Gr.refl w3).drew)).trans hd4'; have HB4 := Lib.hid (hd4.blk HB3.out (by omega)); have HS4 := Lib.hid (hd4.blk HS3.out (by omega)); have u0 := blk_cell HS4.out (j := 0) rfl; have u1 := blk_cell HS4.out (j := 1) rfl; have u2 := blk_cell HS4.out (j := 2) rfl; have u3 := blk_cell HS4.out (j := 3) rfl; have u4 := blk_cell HS4.out (j := 4) rfl; have u5 := blk_cell HS4.out (j := 5) rfl; have u6 := blk_cell HS4.out (j := 6) rfl; have u7 := blk_cell HS4.out (j := 7) rfl; have x0 := blk_cell HB4.out (j := 0) rfl; have x1 := blk_cell HB4.out (j := 1) rfl; have x2 := blk_cell HB4.out (j := 2) rfl; have x3 := blk_cell HB4.out (j := 3) rfl; have x4 := blk_cell HB4.out (j := 4) rfl; have x5 := blk_cell HB4.out (j := 5) rfl; have x6 := blk_cell HB4.out (j := 6) rfl; have x7 := blk_cell HB4.out (j := 7) rfl; have f0 := blk_frozen HB4.out 0; have f1 := blk_frozen HB4.out 1; have f2 := blk_frozen HB4.out 2; have f3 := blk_frozen HB4.out 3; have f4 := blk_frozen HB4.out 4; have f5 := blk_frozen HB4.out 5; have f6 := blk_frozen HB4.out 6; have f7 := blk_frozen HB4.out 7))
  all_goals
    have hz4 := hd4.sz
    have HG4 := Lib.hid (hd4.gr HG3.out (by omega))
    have b4 := b3.keptD hd4 (by omega)
    have b4' := b3'.keptD hd4 (by omega)
    have hto3 : TagO w3.heap.size T w4 v4 ts := hto
    go_wp2
    change bodyPost _ _ _ _ _ (put8 w4 w.heap.size (.int .i64 k) (.slice pq xs.length cq) (.string s) (.int .i64 p) (.int .i64 k') (.slice pq' ys.length cq') (.string s') (.int .i64 p'))
    have hW := put8_blk HB4.out (.int .i64 k) (.slice pq xs.length cq) (.string s) (.int .i64 p) (.int .i64 k') (.slice pq' ys.length cq') (.string s') (.int .i64 p')
    have cW := put8_chg w4 w.heap.size (.int .i64 k) (.slice pq xs.length cq) (.string s) (.int .i64 p) (.int .i64 k') (.slice pq' ys.length cq') (.string s') (.int .i64 p')
    generalize put8 w4 w.heap.size (.int .i64 k) (.slice pq xs.length cq) (.string s) (.int .i64 p) (.int .i64 k') (.slice pq' ys.length cq') (.string s') (.int .i64 p') = wz at *
    have y0 := blk_cell hW (j := 0) rfl
    have y1 := blk_cell hW (j := 1) rfl
    have y2 := blk_cell hW (j := 2) rfl
    have y3 := blk_cell hW (j := 3) rfl
    have y4 := blk_cell hW (j := 4) rfl
    have y5 := blk_cell hW (j := 5) rfl
    have y6 := blk_cell hW (j := 6) rfl
    have y7 := blk_cell hW (j := 7) rfl
    exact bodyPost_ret (v := .tuple #[.agg #[.int .i64 k, .slice pq xs.length cq, .string s, .int .i64 p, .int .i64 k', .slice pq' ys.length cq', .string s', .int .i64 p'], v4]) (by simp [results, Tryz.results23, go_sem, y0, y1, y2, y3, y4, y5, y6, y7]) rfl ⟨pq, cq, pq', cq', k, p, k', p', s, s', xs, ys, v4, ts, rfl, hxl, hyl, hsl, hsl', ht1, ht2, (b4.chg cW (.inr (by omega))).s, (b4'.chg cW (.inr (by omega))).s, (hto3.chg cW (.inr (by omega))).s, cW.gr HG4.out (Nat.le_refl _)⟩
end Go.Proofs.YtdbepkcpdglppaaGreatDoor
namespace Go.Proofs.YtdbepkcpdglppaaGreatDoor
open Go.RowKit
end Go.Proofs.YtdbepkcpdglppaaGreatDoor
namespace Go.Proofs.YtdbepkcpdglppaaGreatDoor
open Go.RowKit
end Go.Proofs.YtdbepkcpdglppaaGreatDoor
namespace Go.Proofs.YtdbepkcpdglppaaGreatDoor
open Go.RowKit
theorem sameAddress_c {w : World} {v u : Value} {xs : List Int} (k p : Int) (s : ByteArray) (hv : IntS w v xs) (hu : IntS w u xs) :
    Calls Tryz.prog 76 #[.agg #[.int .i64 k, v, .string s, .int .i64 p], .agg #[.int .i64 k, u, .string s, .int .i64 p]] w fun e w' => e = .returned (.bool true) ∧ Gr w w' := by
  obtain ⟨p1, c, rfl, _, _⟩ := hv.form
  obtain ⟨q, d, rfl, _, _⟩ := hu.form
  have hg := (gr_alloc w (.cells #[.int .i64 k, .slice p1 xs.length c, .string s, .int .i64 p] 25)).alloc (.cells #[.int .i64 k, .slice q xs.length d, .string s, .int .i64 p] 25)
  go_enter Tryz.func76, Tryz.ntmps76
  go_wp2_with fail
  (with_reducible refine (same_c (hv.kept hg) (hu.kept hg)).mono ?_); rintro e w1 ⟨rfl, g1⟩
  go_wp2
  go_ret
  exact ⟨rfl, hg.trans g1⟩
set_option maxHeartbeats 1000000 in
theorem samePair_c {w : World} {v v' u u' : Value} {xs ys : List Int} (k p k' p' : Int) (s s' : ByteArray) (hv : IntS w v xs) (hu : IntS w u xs) (hv' : IntS w v' ys) (hu' : IntS w u' ys) :
    Calls Tryz.prog 29 #[.agg #[.int .i64 k, v, .string s, .int .i64 p, .int .i64 k', v', .string s', .int .i64 p'], .agg #[.int .i64 k, u, .string s, .int .i64 p, .int .i64 k', u', .string s', .int .i64 p']] w fun e w' => e = .returned (.bool true) ∧ Gr w w' := by
  obtain ⟨p1, c, rfl, _, _⟩ := hv.form
  obtain ⟨q, d, rfl, _, _⟩ := hu.form
  obtain ⟨p1', c', rfl, _, _⟩ := hv'.form
  obtain ⟨q', d', rfl, _, _⟩ := hu'.form
  obtain ⟨oa, ha⟩ : ∃ o : Obj, o = .cells #[.int .i64 k, .slice p1 xs.length c, .string s, .int .i64 p, .int .i64 k', .slice p1' ys.length c', .string s', .int .i64 p'] 27 := ⟨_, rfl⟩
  obtain ⟨ob, hb⟩ : ∃ o : Obj, o = .cells #[.int .i64 k, .slice q xs.length d, .string s, .int .i64 p, .int .i64 k', .slice q' ys.length d', .string s', .int .i64 p'] 27 := ⟨_, rfl⟩
  have hg := (gr_alloc w oa).alloc ob
  have hA := (gr_alloc (w.alloc oa) ob).blk (heap_alloc_new w oa)
  have hB := heap_alloc_new (w.alloc oa) ob
  rw [show (w.alloc oa).heap.size = w.heap.size + 1 by simp] at hB
  subst ha hb
  have HA := Lib.hid hA
  have HB := Lib.hid hB
  clear hA hB
  go_enter Tryz.func29, Tryz.ntmps29
  go_wp2_with fail
  (with_reducible refine (sameAddress_c k p s (hv.kept hg) (hu.kept hg)).mono ?_); rintro e w1 ⟨rfl, g1⟩
  have HA1 := g1.blk HA.out
  have HB1 := g1.blk HB.out
  have x4 := blk_cell HA1 (j := 4) rfl
  have x5 := blk_cell HA1 (j := 5) rfl
  have x6 := blk_cell HA1 (j := 6) rfl
  have x7 := blk_cell HA1 (j := 7) rfl
  have y4 := blk_cell HB1 (j := 4) rfl
  have y5 := blk_cell HB1 (j := 5) rfl
  have y6 := blk_cell HB1 (j := 6) rfl
  have y7 := blk_cell HB1 (j := 7) rfl
  clear HA1 HB1
  have hG := hg.trans g1
  go_wp2_with fail
  (with_reducible refine (sameAddress_c k' p' s' (hv'.kept hG) (hu'.kept hG)).mono ?_); rintro e w2 ⟨rfl, g2⟩
  go_wp2
  go_ret
  exact ⟨rfl, hG.trans g2⟩
end Go.Proofs.YtdbepkcpdglppaaGreatDoor
