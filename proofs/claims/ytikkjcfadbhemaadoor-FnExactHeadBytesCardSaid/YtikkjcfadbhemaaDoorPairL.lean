/- laws.szAddress, szPair, toAddress, toPair: pairs of plain data. -/
import Derived.Test.YtikkjcfadbhemaaDoorSz
import Derived.Test.YtikkjcfadbhemaaDoorGL
namespace Go.Proofs.YtikkjcfadbhemaaDoor
open Go.RowKit
def SzA (c : Int) (n : Nat) (r : Int) : Prop := r = -1 ∨ (0 ≤ r ∧ r + n = c)
theorem szAddress_c (w : World) (k p : Int) (s : ByteArray) (a : Option Addr) (n cap : Nat) (c : Int) (h0 : 0 ≤ c) (h1 : c ≤ 1048576) (hn : n ≤ 9223372036854775807) (hs : s.size ≤ 9223372036854775807) :
    Calls Tryd.prog 53 #[.agg #[.int .i64 k, .slice a n cap, .string s, .int .i64 p], .int .i64 c] w fun e w' => ∃ r, e = .returned (.int .i64 r) ∧ SzA c (n + s.size) r ∧ Gr w w' := by
  by_cases h : c - (n : Int) < 0
  · have HL : Hid (left c n = -1) := by unfold Hid left; rw [if_pos h]
    clear h
    go_enter Tryd.func53, Tryd.ntmps53
    go_wp2_with fail
    (with_reducible refine (szIntS_c _ a n cap c h0 h1 hn).mono ?_); rintro e w1 ⟨rfl, rfl⟩
    simp only [HL.out]
    go_wp2
    go_ret
    exact ⟨_, rfl, .inl rfl, gr_alloc w _⟩
  · have HL : Hid (left c n = c - n) := by unfold Hid left; rw [if_neg h]
    obtain ⟨d, hd⟩ : ∃ d, d = c - (n : Int) := ⟨_, rfl⟩
    rw [← hd] at HL
    by_cases h2 : d - (s.size : Int) < 0
    · go_enter Tryd.func53, Tryd.ntmps53
      go_wp2_with fail
      (with_reducible refine (szIntS_c _ a n cap c h0 h1 hn).mono ?_); rintro e w1 ⟨rfl, rfl⟩
      simp only [HL.out]
      go_wp2
      go_ret
      exact ⟨_, rfl, .inl rfl, gr_alloc w _⟩
    · go_enter Tryd.func53, Tryd.ntmps53
      go_wp2_with fail
      (with_reducible refine (szIntS_c _ a n cap c h0 h1 hn).mono ?_); rintro e w1 ⟨rfl, rfl⟩
      simp only [HL.out]
      go_wp2
      go_ret
      exact ⟨_, rfl, .inr ⟨by omega, by omega⟩, gr_alloc w _⟩
set_option maxHeartbeats 1000000 in
theorem szPair_c (w : World) (k p k' p' : Int) (s s' : ByteArray) (a a' : Option Addr) (n n' cap cap' : Nat) (c : Int) (h0 : 0 ≤ c) (h1 : c ≤ 1048576) (hn : n ≤ 9223372036854775807) (hs : s.size ≤ 9223372036854775807) (hn' : n' ≤ 9223372036854775807) (hs' : s'.size ≤ 9223372036854775807) :
    Calls Tryd.prog 19 #[.agg #[.int .i64 k, .slice a n cap, .string s, .int .i64 p, .int .i64 k', .slice a' n' cap', .string s', .int .i64 p'], .int .i64 c] w fun e w' => ∃ r, e = .returned (.int .i64 r) ∧ SzA c (n + s.size + n' + s'.size) r ∧ Gr w w' := by
  have hg := gr_alloc w (.cells #[.int .i64 k, .slice a n cap, .string s, .int .i64 p, .int .i64 k', .slice a' n' cap', .string s', .int .i64 p'] 33)
  go_enter Tryd.func19, Tryd.ntmps19
  go_wp2_with fail
  (with_reducible refine (szAddress_c _ k p s a n cap c h0 h1 hn hs).mono ?_); rintro e w1 ⟨r, rfl, hr, g1⟩
  have hG := hg.trans g1
  rcases hr with hr | ⟨hr0, hr1⟩
  · subst hr
    go_wp2
    go_ret
    exact ⟨_, rfl, .inl rfl, hG⟩
  · have hr2 : ¬ (r < 0) := by omega
    have b4 := boxN g1 4 rfl
    have b5 := boxN g1 5 rfl
    have b6 := boxN g1 6 rfl
    have b7 := boxN g1 7 rfl
    go_wp2_with fail
    (with_reducible refine (szAddress_c _ k' p' s' a' n' cap' r hr0 (by omega) hn' hs').mono ?_); rintro e w2 ⟨t, rfl, ht, g2⟩
    rcases ht with ht | ⟨ht0, ht1⟩
    · subst ht
      go_wp2
      go_ret
      exact ⟨_, rfl, .inl rfl, hG.trans g2⟩
    · have ht2 : ¬ (t < 0) := by omega
      go_wp2
      go_ret
      exact ⟨_, rfl, .inr ⟨ht0, by omega⟩, hG.trans g2⟩
def put3 (w : World) (b : Nat) (a1 a2 a3 : Value) : World := ((w.setCell ⟨b, 1, none⟩ a1).setCell ⟨b, 2, none⟩ a2).setCell ⟨b, 3, none⟩ a3
theorem put3_chg (w : World) (b : Nat) (a1 a2 a3 : Value) : Chg b (b + 1) w (put3 w b a1 a2 a3) :=
  Chg.set (p := ⟨b, 3, none⟩) (Chg.set (p := ⟨b, 2, none⟩) (Chg.set (p := ⟨b, 1, none⟩) (Chg.refl b (b + 1) w) (Nat.le_refl _) (Nat.lt_succ_self _) a1) (Nat.le_refl _) (Nat.lt_succ_self _) a2) (Nat.le_refl _) (Nat.lt_succ_self _) a3
theorem put4_chg (w : World) (b : Nat) (a0 a1 a2 a3 : Value) : Chg b (b + 1) w (put4 w b a0 a1 a2 a3) :=
  Chg.set (p := ⟨b, 3, none⟩) (Chg.set (p := ⟨b, 2, none⟩) (Chg.set (p := ⟨b, 1, none⟩) (Chg.set (p := ⟨b, 0, none⟩) (Chg.refl b (b + 1) w) (Nat.le_refl _) (Nat.lt_succ_self _) a0) (Nat.le_refl _) (Nat.lt_succ_self _) a1) (Nat.le_refl _) (Nat.lt_succ_self _) a2) (Nat.le_refl _) (Nat.lt_succ_self _) a3
theorem put4_blk8 {w : World} {b : Nat} {c0 c1 c2 c3 c4 c5 c6 c7 : Value} {t : TypeId} (h : w.heap[b]? = some (.cells #[c0, c1, c2, c3, c4, c5, c6, c7] t (0, 0))) (a0 a1 a2 a3 : Value) :
    (put4 w b a0 a1 a2 a3).heap[b]? = some (.cells #[a0, a1, a2, a3, c4, c5, c6, c7] t (0, 0)) := by
  have h0 := heap_set (j := 0) (x := a0) h
  have h1 := heap_set (j := 1) (x := a1) h0
  have h2 := heap_set (j := 2) (x := a2) h1
  exact heap_set (j := 3) (x := a3) h2
theorem alloc3 (w : World) (x y z : Obj) : (((w.alloc x).alloc y).alloc z).heap.size = w.heap.size + 3 ∧ (((w.alloc x).alloc y).alloc z).heap[w.heap.size]? = some x ∧ (((w.alloc x).alloc y).alloc z).heap[w.heap.size + 1]? = some y ∧ (((w.alloc x).alloc y).alloc z).heap[w.heap.size + 1 + 1]? = some z := by
  have e1 : (w.alloc x).heap.size = w.heap.size + 1 := by simp
  have e2 : ((w.alloc x).alloc y).heap.size = w.heap.size + 1 + 1 := by simp
  refine ⟨by simp, ?_, ?_, ?_⟩
  · exact (gr_alloc ((w.alloc x).alloc y) z).blk ((gr_alloc (w.alloc x) y).blk (heap_alloc_new w x))
  · have := (gr_alloc ((w.alloc x).alloc y) z).blk (heap_alloc_new (w.alloc x) y)
    rwa [e1] at this
  · have := heap_alloc_new ((w.alloc x).alloc y) z
    rwa [e2] at this
set_option maxHeartbeats 2000000 in
theorem toAddress_c {w : World} {a : Option Addr} {cap : Nat} {xs : List Int} (k p : Int) (s : ByteArray) (h : IntS w (.slice a xs.length cap) xs) (hb : xs.length ≤ 1000000000000) :
    Calls Tryd.prog 54 #[.agg #[.int .i64 k, .slice a xs.length cap, .string s, .int .i64 p]] w fun e w' => ∃ q c, e = .returned (.agg #[.int .i64 k, .slice q xs.length c, .string s, .int .i64 p]) ∧ IntO w.heap.size 3 w' (.slice q xs.length c) xs ∧ Gr w w' := by
  obtain ⟨zW, _, hb1, hb2⟩ := alloc3 w (.cells #[.int .i64 k, .slice a xs.length cap, .string s, .int .i64 p] 31) (.cells #[.int .i64 0, .slice none 0 0, .string ⟨#[]⟩, .int .i64 0] 25) (.cells #[.int .i64 k, .slice none 0 0, .string ⟨#[]⟩, .int .i64 0] 25)
  obtain ⟨_, hb0, _, _⟩ := alloc3 w (.cells #[.int .i64 k, .slice a xs.length cap, .string s, .int .i64 p] 31) (.cells #[.int .i64 0, .slice none 0 0, .string ⟨#[]⟩, .int .i64 0] 25) (.cells #[.int .i64 k, .slice none 0 0, .string ⟨#[]⟩, .int .i64 0] 25)
  have hW : Gr w (((w.alloc (.cells #[.int .i64 k, .slice a xs.length cap, .string s, .int .i64 p] 31)).alloc (.cells #[.int .i64 0, .slice none 0 0, .string ⟨#[]⟩, .int .i64 0] 25)).alloc (.cells #[.int .i64 k, .slice none 0 0, .string ⟨#[]⟩, .int .i64 0] 25)) := ((gr_alloc w _).alloc _).alloc _
  go_enter Tryd.func54, Tryd.ntmps54
  go_wp2_with fail
  generalize (((w.alloc (.cells #[.int .i64 k, .slice a xs.length cap, .string s, .int .i64 p] 31)).alloc (.cells #[.int .i64 0, .slice none 0 0, .string ⟨#[]⟩, .int .i64 0] 25)).alloc (.cells #[.int .i64 k, .slice none 0 0, .string ⟨#[]⟩, .int .i64 0] 25)) = W at *
  (with_reducible refine (toIntS_c (h.kept hW) hb).mono ?_); rintro e w1 ⟨v1, rfl, o1, g1⟩
  obtain ⟨q, c, rfl⟩ := o1.len
  have HB1 := Lib.hid (g1.blk hb1)
  have HB2 := Lib.hid (g1.blk hb2)
  have HB0 := Lib.hid (g1.blk hb0)
  have HG := Lib.hid (hW.trans g1)
  have z1 := g1.sz
  have o1' := o1.b
  rw [zW] at o1'
  clear hb1 hb2 hb0 hW o1
  have a2 := blk_cell HB0.out (j := 2) rfl
  have a3 := blk_cell HB0.out (j := 3) rfl
  have x0 := blk_cell HB1.out (j := 0) rfl
  have x1 := blk_cell HB1.out (j := 1) rfl
  have x2 := blk_cell HB1.out (j := 2) rfl
  have x3 := blk_cell HB1.out (j := 3) rfl
  have f0 := blk_frozen HB1.out 0
  have f1 := blk_frozen HB1.out 1
  have f2 := blk_frozen HB1.out 2
  have f3 := blk_frozen HB1.out 3
  have s0 := blk_cell HB2.out (j := 0) rfl
  have s1 := blk_cell HB2.out (j := 1) rfl
  have s2 := blk_cell HB2.out (j := 2) rfl
  have s3 := blk_cell HB2.out (j := 3) rfl
  have e0 := blk_frozen HB2.out 0
  have e1 := blk_frozen HB2.out 1
  have e2 := blk_frozen HB2.out 2
  have e3 := blk_frozen HB2.out 3
  go_wp2
  change bodyPost _ _ _ _ _ (put4 (put3 w1 (w.heap.size + 1 + 1) (.slice q xs.length c) (.string s) (.int .i64 p)) (w.heap.size + 1) (.int .i64 k) (.slice q xs.length c) (.string s) (.int .i64 p))
  have c3 := put3_chg w1 (w.heap.size + 1 + 1) (.slice q xs.length c) (.string s) (.int .i64 p)
  generalize put3 w1 (w.heap.size + 1 + 1) (.slice q xs.length c) (.string s) (.int .i64 p) = w2 at *
  have hB1 := (c3.block (w.heap.size + 1) (by omega)).trans HB1.out
  have hW := put4_blk hB1 (.int .i64 k) (.slice q xs.length c) (.string s) (.int .i64 p)
  have cW := put4_chg w2 (w.heap.size + 1) (.int .i64 k) (.slice q xs.length c) (.string s) (.int .i64 p)
  generalize put4 w2 (w.heap.size + 1) (.int .i64 k) (.slice q xs.length c) (.string s) (.int .i64 p) = w3 at *
  have y0 := blk_cell hW (j := 0) rfl
  have y1 := blk_cell hW (j := 1) rfl
  have y2 := blk_cell hW (j := 2) rfl
  have y3 := blk_cell hW (j := 3) rfl
  exact bodyPost_ret (v := .agg #[.int .i64 k, .slice q xs.length c, .string s, .int .i64 p]) (by simp [results, Tryd.results54, go_sem, y0, y1, y2, y3]) rfl ⟨q, c, rfl, IntO.mono (IntB.o ((IntB.chg (IntB.chg o1' c3 (.inr (by omega))) cW (.inr (by omega))))) (by omega), cW.gr (c3.gr HG.out (by omega)) (by omega)⟩
set_option maxRecDepth 20000 in
set_option maxHeartbeats 4000000 in
theorem toPair_c {w : World} {a a' : Option Addr} {cap cap' : Nat} {xs ys : List Int} (k p k' p' : Int) (s s' : ByteArray) (h : IntS w (.slice a xs.length cap) xs) (h' : IntS w (.slice a' ys.length cap') ys) (hb : xs.length ≤ 1000000000000) (hb' : ys.length ≤ 1000000000000) :
    Calls Tryd.prog 20 #[.agg #[.int .i64 k, .slice a xs.length cap, .string s, .int .i64 p, .int .i64 k', .slice a' ys.length cap', .string s', .int .i64 p']] w fun e w' => ∃ q c q' c' T, e = .returned (.agg #[.int .i64 k, .slice q xs.length c, .string s, .int .i64 p, .int .i64 k', .slice q' ys.length c', .string s', .int .i64 p']) ∧ IntB w.heap.size T 3 w' (.slice q xs.length c) xs ∧ IntB T w'.heap.size 3 w' (.slice q' ys.length c') ys ∧ T ≤ w'.heap.size ∧ w.heap.size ≤ T ∧ Gr w w' := by
  obtain ⟨zW, hb0, hb1, hb2⟩ := alloc3 w (.cells #[.int .i64 k, .slice a xs.length cap, .string s, .int .i64 p, .int .i64 k', .slice a' ys.length cap', .string s', .int .i64 p'] 33) (.cells #[.int .i64 0, .slice none 0 0, .string ⟨#[]⟩, .int .i64 0, .int .i64 0, .slice none 0 0, .string ⟨#[]⟩, .int .i64 0] 27) (.cells #[.int .i64 0, .slice none 0 0, .string ⟨#[]⟩, .int .i64 0, .int .i64 0, .slice none 0 0, .string ⟨#[]⟩, .int .i64 0] 27)
  have hW : Gr w (((w.alloc (.cells #[.int .i64 k, .slice a xs.length cap, .string s, .int .i64 p, .int .i64 k', .slice a' ys.length cap', .string s', .int .i64 p'] 33)).alloc (.cells #[.int .i64 0, .slice none 0 0, .string ⟨#[]⟩, .int .i64 0, .int .i64 0, .slice none 0 0, .string ⟨#[]⟩, .int .i64 0] 27)).alloc (.cells #[.int .i64 0, .slice none 0 0, .string ⟨#[]⟩, .int .i64 0, .int .i64 0, .slice none 0 0, .string ⟨#[]⟩, .int .i64 0] 27)) := ((gr_alloc w _).alloc _).alloc _
  go_enter Tryd.func20, Tryd.ntmps20
  go_wp2_with fail
  generalize (((w.alloc (.cells #[.int .i64 k, .slice a xs.length cap, .string s, .int .i64 p, .int .i64 k', .slice a' ys.length cap', .string s', .int .i64 p'] 33)).alloc (.cells #[.int .i64 0, .slice none 0 0, .string ⟨#[]⟩, .int .i64 0, .int .i64 0, .slice none 0 0, .string ⟨#[]⟩, .int .i64 0] 27)).alloc (.cells #[.int .i64 0, .slice none 0 0, .string ⟨#[]⟩, .int .i64 0, .int .i64 0, .slice none 0 0, .string ⟨#[]⟩, .int .i64 0] 27)) = W at *
  (with_reducible refine (toAddress_c k p s (h.kept hW) hb).mono ?_); rintro e w1 ⟨q, c, rfl, o1, g1⟩
  have HB0 := Lib.hid (g1.blk hb0)
  have HB1 := Lib.hid (g1.blk hb1)
  have HB2 := Lib.hid (g1.blk hb2)
  have HG1 := Lib.hid (hW.trans g1)
  have z1 := g1.sz
  have o1' := o1.b
  rw [zW] at o1'
  clear hb0 hb1 hb2 hW o1 g1
  have a4 := blk_cell HB0.out (j := 4) rfl
  have a5 := blk_cell HB0.out (j := 5) rfl
  have a6 := blk_cell HB0.out (j := 6) rfl
  have a7 := blk_cell HB0.out (j := 7) rfl
  have s0 := blk_cell HB2.out (j := 0) rfl
  have s1 := blk_cell HB2.out (j := 1) rfl
  have s2 := blk_cell HB2.out (j := 2) rfl
  have s3 := blk_cell HB2.out (j := 3) rfl
  have e0 := blk_frozen HB2.out 0
  have e1 := blk_frozen HB2.out 1
  have e2 := blk_frozen HB2.out 2
  have e3 := blk_frozen HB2.out 3
  go_wp2_with fail
  change Calls _ _ _ (put4 w1 (w.heap.size + 1 + 1) (.int .i64 k) (.slice q xs.length c) (.string s) (.int .i64 p)) _
  have c4 := put4_chg w1 (w.heap.size + 1 + 1) (.int .i64 k) (.slice q xs.length c) (.string s) (.int .i64 p)
  have hB2 := put4_blk8 HB2.out (.int .i64 k) (.slice q xs.length c) (.string s) (.int .i64 p)
  generalize put4 w1 (w.heap.size + 1 + 1) (.int .i64 k) (.slice q xs.length c) (.string s) (.int .i64 p) = w2 at *
  have HG2 := Lib.hid (c4.gr HG1.out (by omega))
  have o2 := IntB.chg o1' c4 (.inr (by omega))
  have z2 := c4.size
  have hB1 := (c4.block (w.heap.size + 1) (by omega)).trans HB1.out
  (with_reducible refine (toAddress_c k' p' s' (h'.kept HG2.out) hb').mono ?_); rintro e w3 ⟨q', c', rfl, o3, g3⟩
  have HC1 := Lib.hid (g3.blk hB1)
  have HC2 := Lib.hid (g3.blk hB2)
  have HG3 := Lib.hid (HG2.out.trans g3)
  have z3 := g3.sz
  have o2' := o2.kept g3
  have o3' := o3.b
  clear a4 a5 a6 a7 s0 s1 s2 s3 e0 e1 e2 e3 HB0 HB1 HB2 HG1 HG2 o1' o2 o3 g3 c4 hB1 hB2
  have x0 := blk_cell HC1.out (j := 0) rfl
  have x1 := blk_cell HC1.out (j := 1) rfl
  have x2 := blk_cell HC1.out (j := 2) rfl
  have x3 := blk_cell HC1.out (j := 3) rfl
  have x4 := blk_cell HC1.out (j := 4) rfl
  have x5 := blk_cell HC1.out (j := 5) rfl
  have x6 := blk_cell HC1.out (j := 6) rfl
  have x7 := blk_cell HC1.out (j := 7) rfl
  have f0 := blk_frozen HC1.out 0
  have f1 := blk_frozen HC1.out 1
  have f2 := blk_frozen HC1.out 2
  have f3 := blk_frozen HC1.out 3
  have f4 := blk_frozen HC1.out 4
  have f5 := blk_frozen HC1.out 5
  have f6 := blk_frozen HC1.out 6
  have f7 := blk_frozen HC1.out 7
  have s0 := blk_cell HC2.out (j := 0) rfl
  have s1 := blk_cell HC2.out (j := 1) rfl
  have s2 := blk_cell HC2.out (j := 2) rfl
  have s3 := blk_cell HC2.out (j := 3) rfl
  have s4 := blk_cell HC2.out (j := 4) rfl
  have s5 := blk_cell HC2.out (j := 5) rfl
  have s6 := blk_cell HC2.out (j := 6) rfl
  have s7 := blk_cell HC2.out (j := 7) rfl
  have e4 := blk_frozen HC2.out 4
  have e5 := blk_frozen HC2.out 5
  have e6 := blk_frozen HC2.out 6
  have e7 := blk_frozen HC2.out 7
  go_wp2
  change bodyPost _ _ _ _ _ (put8 (put4h w3 (w.heap.size + 1 + 1) (.int .i64 k') (.slice q' ys.length c') (.string s') (.int .i64 p')) (w.heap.size + 1) (.int .i64 k) (.slice q xs.length c) (.string s) (.int .i64 p) (.int .i64 k') (.slice q' ys.length c') (.string s') (.int .i64 p'))
  have c5 := put4h_chg w3 (w.heap.size + 1 + 1) (.int .i64 k') (.slice q' ys.length c') (.string s') (.int .i64 p')
  generalize put4h w3 (w.heap.size + 1 + 1) (.int .i64 k') (.slice q' ys.length c') (.string s') (.int .i64 p') = w4 at *
  have hC1 := (c5.block (w.heap.size + 1) (by omega)).trans HC1.out
  have hW := put8_blk hC1 (.int .i64 k) (.slice q xs.length c) (.string s) (.int .i64 p) (.int .i64 k') (.slice q' ys.length c') (.string s') (.int .i64 p')
  have cW := put8_chg w4 (w.heap.size + 1) (.int .i64 k) (.slice q xs.length c) (.string s) (.int .i64 p) (.int .i64 k') (.slice q' ys.length c') (.string s') (.int .i64 p')
  generalize put8 w4 (w.heap.size + 1) (.int .i64 k) (.slice q xs.length c) (.string s) (.int .i64 p) (.int .i64 k') (.slice q' ys.length c') (.string s') (.int .i64 p') = w5 at *
  have y0 := blk_cell hW (j := 0) rfl
  have y1 := blk_cell hW (j := 1) rfl
  have y2 := blk_cell hW (j := 2) rfl
  have y3 := blk_cell hW (j := 3) rfl
  have y4 := blk_cell hW (j := 4) rfl
  have y5 := blk_cell hW (j := 5) rfl
  have y6 := blk_cell hW (j := 6) rfl
  have y7 := blk_cell hW (j := 7) rfl
  have z5 := c5.size
  have z6 := cW.size
  exact bodyPost_ret (v := .agg #[.int .i64 k, .slice q xs.length c, .string s, .int .i64 p, .int .i64 k', .slice q' ys.length c', .string s', .int .i64 p']) (by simp [results, Tryd.results20, go_sem, y0, y1, y2, y3, y4, y5, y6, y7]) rfl ⟨q, c, q', c', w2.heap.size, rfl, IntB.wide (IntB.chg (IntB.chg o2' c5 (.inr (by omega))) cW (.inr (by omega))) (by omega) (by omega), IntB.wide (IntB.chg (IntB.chg o3' c5 (.inr (by omega))) cW (.inr (by omega))) (by omega) (by omega), by omega, by omega, cW.gr (c5.gr HG3.out (by omega)) (by omega)⟩
end Go.Proofs.YtikkjcfadbhemaaDoor
