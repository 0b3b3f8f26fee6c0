/- Talks: the reference's test of a talk; new talks, both ways. -/
import Derived.Test.YtgigjgjpglmpoaaGreatDoorTkA
import Derived.Test.YtgigjgjpglmpoaaGreatDoorLgD
namespace Go.Proofs.YtgigjgjpglmpoaaGreatDoor
open Go.RowKit
theorem cloneE {w : World} {v u : Value} {ws : List Int} {ls : List Lg} (st : Int) (d : ByteArray) (h : IntS w v ws) (hl : LgS w u ls) (hw : ws.length ≤ 2000000) (hn : ls.length ≤ 2000000) :
    Calls Tryz.prog 19 #[.agg #[.int .i64 st, v, u, .string d]] w fun e w' => ∃ (p : Option Addr) (c : Nat) (q : Option Addr) (f : Nat), e = .returned (.agg #[.int .i64 st, .slice p ws.length c, .slice q ls.length f, .string d]) ∧ IntO w.heap.size 3 w' (.slice p ws.length c) ws ∧ LgO w.heap.size w' (.slice q ls.length f) ls ∧ Gr w w' :=
  (cloneTalk_c st d h hl hw hn).mono fun _ _ ⟨p, c, q, f, he, o, l, g⟩ => ⟨p, c, q, f, by rw [he]; simp only [S_tx], o, l, g⟩
/-- What TalkNew hands back. -/
def TnO (ws : List Int) (ls : List Lg) (w : World) (e : Ending) (w' : World) : Prop :=
  ∃ (p q : Option Addr) (c d : Nat) (us : List Int) (ms : List Lg) (ok : Bool), e = .returned (.tuple #[.agg #[.int .i64 0, .slice p us.length c, .slice q ms.length d, .string ⟨#[]⟩], .bool ok]) ∧ ((setOk ws ls = true ∧ us = ws ∧ ms = ls ∧ ok = true) ∨ (setOk ws ls = false ∧ us = [] ∧ ms = [] ∧ ok = false)) ∧
    IntO w.heap.size 3 w' (.slice p us.length c) us ∧ LgO w.heap.size w' (.slice q ms.length d) ms ∧ Gr w w'
theorem TnO.no {ws : List Int} {ls : List Lg} {w w' : World} (hn : setOk ws ls = false) (hg : Gr w w') : TnO ws ls w (.returned (.tuple #[.agg #[.int .i64 0, .slice none 0 0, .slice none 0 0, .string ⟨#[]⟩], .bool false])) w' :=
  ⟨none, none, 0, 0, [], [], false, rfl, .inr ⟨hn, rfl, rfl, rfl⟩, IntO.nil _ _ _, LgO.nil _ _, hg⟩
theorem TnO.yes {ws : List Int} {ls : List Lg} {w w' : World} {p q : Option Addr} {c d : Nat} (hn : setOk ws ls = true) (o : IntO w.heap.size 3 w' (.slice p ws.length c) ws) (l : LgO w.heap.size w' (.slice q ls.length d) ls) (hg : Gr w w') :
    TnO ws ls w (.returned (.tuple #[.agg #[.int .i64 0, .slice p ws.length c, .slice q ls.length d, .string ⟨#[]⟩], .bool true])) w' :=
  ⟨p, q, c, d, ws, ls, true, rfl, .inl ⟨hn, rfl, rfl, rfl⟩, o, l, hg⟩
theorem LgO.keptC {B b : Nat} {w w' : World} {v : Value} {ls : List Lg} (h : LgO B w v ls) (hc : Chg b (b + 1) w w') (hB : b < B) : LgO B w' v ls := (OwnB.chg (Own.b h) hc (.inr hB)).1
theorem IntO.keptC {B b : Nat} {w w' : World} {v : Value} {xs : List Int} (h : IntO B 3 w v xs) (hc : Chg b (b + 1) w w') (hB : b < B) : IntO B 3 w' v xs := (IntB.chg h.b hc (.inr hB)).o
set_option maxRecDepth 20000 in
set_option maxHeartbeats 4000000 in
theorem specTalkNew_c {w : World} {v u : Value} {ws : List Int} {ls : List Lg} (h : IntS w v ws) (hl : LgS w u ls) (hs : LgSm ls) (hw : ws.length ≤ 2000000) (hn : ls.length ≤ 2000000) :
    Calls Tryz.prog 5 #[v, u] w (TnO ws ls w) := by
  obtain ⟨p, cap, rfl, _, _⟩ := h.form
  obtain ⟨q, caq, rfl, _, _⟩ := hl.form
  have gA := gr_alloc w (.cells #[.int .i64 0, .slice none 0 0, .slice none 0 0, .string ⟨#[]⟩] 27)
  have hA := heap_alloc_new w (.cells #[.int .i64 0, .slice none 0 0, .slice none 0 0, .string ⟨#[]⟩] 27)
  have zA : w.heap.size + 1 ≤ (w.alloc (.cells #[.int .i64 0, .slice none 0 0, .slice none 0 0, .string ⟨#[]⟩] 27)).heap.size := by simp
  cases hk : setOk ws ls
  · have HN := Lib.hid hk
    clear hk
    go_enter Tryz.func5, Tryz.ntmps5
    go_wp2_with fail
    (with_reducible refine (l23Ok_c (h.kept gA) (hl.kept gA) hs).mono ?_); rintro e w1 ⟨rfl, g1⟩
    rw [HN.out]
    have HB1 := Lib.hid (g1.blk hA)
    have G1 := gA.trans g1
    have x0 := blk_cell HB1.out (j := 0) rfl
    have x1 := blk_cell HB1.out (j := 1) rfl
    have x2 := blk_cell HB1.out (j := 2) rfl
    have x3 := blk_cell HB1.out (j := 3) rfl
    have f0 := blk_frozen HB1.out 0
    have f1 := blk_frozen HB1.out 1
    have f2 := blk_frozen HB1.out 2
    have f3 := blk_frozen HB1.out 3
    go_wp2
    change bodyPost _ _ _ _ _ (put4 w1 w.heap.size (.int .i64 0) (.slice none 0 0) (.slice none 0 0) (.string ⟨#[]⟩))
    have hW := put4_blk HB1.out (.int .i64 0) (.slice none 0 0) (.slice none 0 0) (.string ⟨#[]⟩)
    have cW := put4_chg w1 w.heap.size (.int .i64 0) (.slice none 0 0) (.slice none 0 0) (.string ⟨#[]⟩)
    generalize put4 w1 w.heap.size (.int .i64 0) (.slice none 0 0) (.slice none 0 0) (.string ⟨#[]⟩) = wz at *
    have y0 := blk_cell hW (j := 0) rfl
    have y1 := blk_cell hW (j := 1) rfl
    have y2 := blk_cell hW (j := 2) rfl
    have y3 := blk_cell hW (j := 3) rfl
    exact bodyPost_ret (v := .tuple #[.agg #[.int .i64 0, .slice none 0 0, .slice none 0 0, .string ⟨#[]⟩], .bool false]) (by simp [results, Tryz.results5, go_sem, y0, y1, y2, y3]) rfl (TnO.no HN.out (cW.gr G1 (Nat.le_refl _)))
  · have HN := Lib.hid hk
    clear hk
    go_enter Tryz.func5, Tryz.ntmps5
    go_wp2_with fail
    (with_reducible refine (l23Ok_c (h.kept gA) (hl.kept gA) hs).mono ?_); rintro e w1 ⟨rfl, g1⟩
    rw [HN.out]
    have HB1 := Lib.hid (g1.blk hA)
    have G1 := gA.trans g1
    have h1 := h.kept G1
    have hl1 := hl.kept G1
    have z1 := g1.sz
    clear hA
    go_wp2_with (first
      | (at_builtin; refine wpl_appE rfl (.tmp 11) (.tmp 12) rfl rfl rfl (heap_alloc_new w1 _) (h1.kept (gr_alloc _ _)) (by omega) ?_; intro p2 c2 w2 o2 g2a; have g2 : Gr w1 w2 := (gr_alloc _ _).trans g2a)
      | (at_builtin; refine wpl_appEL rfl (.tmp 14) (.tmp 15) rfl rfl rfl (heap_alloc_new w2 _) (hl1.kept (g2.alloc _)) hn ?_; intro p3 c3 w3 o3 g3a; have g3 : Gr w1 w3 := (g2.alloc _).trans g3a; have HB3 := Lib.hid (g3.blk HB1.out); have o2' := IntO.kept o2 ((gr_alloc w2 (.cells #[] 43)).trans g3a); have x0 := blk_cell HB3.out (j := 0) rfl; have x1 := blk_cell HB3.out (j := 1) rfl; have x2 := blk_cell HB3.out (j := 2) rfl; have x3 := blk_cell HB3.out (j := 3) rfl; have f0 := blk_frozen HB3.out 0; have f1 := blk_frozen HB3.out 1; have f2 := blk_frozen HB3.out 2; have f3 := blk_frozen HB3.out 3))
    have z2 := g2.sz
    change bodyPost _ _ _ _ _ (put4 w3 w.heap.size (.int .i64 0) (.slice p2 ws.length c2) (.slice p3 ls.length c3) (.string ⟨#[]⟩))
    have hW := put4_blk HB3.out (.int .i64 0) (.slice p2 ws.length c2) (.slice p3 ls.length c3) (.string ⟨#[]⟩)
    have cW := put4_chg w3 w.heap.size (.int .i64 0) (.slice p2 ws.length c2) (.slice p3 ls.length c3) (.string ⟨#[]⟩)
    generalize put4 w3 w.heap.size (.int .i64 0) (.slice p2 ws.length c2) (.slice p3 ls.length c3) (.string ⟨#[]⟩) = wz at *
    have y0 := blk_cell hW (j := 0) rfl
    have y1 := blk_cell hW (j := 1) rfl
    have y2 := blk_cell hW (j := 2) rfl
    have y3 := blk_cell hW (j := 3) rfl
    exact bodyPost_ret (v := .tuple #[.agg #[.int .i64 0, .slice p2 ws.length c2, .slice p3 ls.length c3, .string ⟨#[]⟩], .bool true]) (by simp [results, Tryz.results5, go_sem, y0, y1, y2, y3]) rfl (TnO.yes HN.out ((IntO.keptC o2' cW (by omega)).mono (by omega)) ((LgO.keptC o3 cW (by omega)).mono (by omega)) (cW.gr (G1.trans g3) (Nat.le_refl _)))
set_option maxRecDepth 20000 in
set_option maxHeartbeats 4000000 in
theorem implTalkNew_c {w : World} {v u : Value} {ws : List Int} {ls : List Lg} (hm : ML w) (he : ErrV w) (ht : Tab w) (h : IntS w v ws) (hl : LgS w u ls) (hs : LgSm ls) (hw : ws.length ≤ 2000000) (hn : ls.length ≤ 2000000) :
    Calls Tryz.prog 8 #[v, u] w (TnO ws ls w) := by
  obtain ⟨p, cap, rfl, _, _⟩ := h.form
  obtain ⟨q, caq, rfl, _, _⟩ := hl.form
  have gA := gr_alloc w (.cells #[.int .i64 0, .slice none 0 0, .slice none 0 0, .string ⟨#[]⟩] 27)
  have hA := heap_alloc_new w (.cells #[.int .i64 0, .slice none 0 0, .slice none 0 0, .string ⟨#[]⟩] 27)
  have zA : w.heap.size + 1 ≤ (w.alloc (.cells #[.int .i64 0, .slice none 0 0, .slice none 0 0, .string ⟨#[]⟩] 27)).heap.size := by simp
  have hz : (⟨#[]⟩ : ByteArray).size ≤ 2000000 := by decide
  have HK : Hid (talkOk ⟨0, ws, ls, tx ⟨#[]⟩⟩ = setOk ws ls) := Lib.hid (talkOk_new ws ls)
  go_enter Tryz.func8, Tryz.ntmps8
  go_wp2_with fail
  (with_reducible refine (cloneE 0 ⟨#[]⟩ (h.kept gA) (hl.kept gA) hw hn).mono ?_); rintro e w1 ⟨p1, c1, q1, d1, rfl, o1, l1, g1⟩
  have G1 := gA.trans g1
  have HB1 := Lib.hid (g1.blk hA)
  have z1 := g1.sz
  have gC := gr_alloc w1 (.cells #[.int .i64 0, .slice p1 ws.length c1, .slice q1 ls.length d1, .string ⟨#[]⟩] 27)
  have hC := heap_alloc_new w1 (.cells #[.int .i64 0, .slice p1 ws.length c1, .slice q1 ls.length d1, .string ⟨#[]⟩] 27)
  have HC := Lib.hid hC
  have HB2 := Lib.hid (gC.blk HB1.out)
  have G2 := G1.trans gC
  have o2 := IntO.mono (B' := w.heap.size + 1) (o1.kept gC) (by omega)
  have l2 := LgO.mono (B' := w.heap.size + 1) (l1.kept gC) (by omega)
  clear hC hA gA g1 HB1 o1 l1
  go_upto_region 2 with fail
  generalize w1.alloc (.cells #[.int .i64 0, .slice p1 ws.length c1, .slice q1 ls.length d1, .string ⟨#[]⟩] 27) = w2 at *
  have s0 := blk_cell HC.out (j := 0) rfl
  have s1 := blk_cell HC.out (j := 1) rfl
  have s2 := blk_cell HC.out (j := 2) rfl
  have s3 := blk_cell HC.out (j := 3) rfl
  cases hk : setOk ws ls
  · have HN := Lib.hid hk
    rw [hk] at HK
    clear hk
    go_wp2_with fail
    (with_reducible refine (implTalkValid_c (hm.kept G2) (he.kept G2) (ht.kept G2) 0 ⟨#[]⟩ o2.s l2.s hs hz).mono ?_); rintro e w3 ⟨rfl, g3⟩
    rw [HK.out]
    have HB3 := Lib.hid (g3.blk HB2.out)
    have G3 := G2.trans g3
    clear s0 s1 s2 s3
    have x0 := blk_cell HB3.out (j := 0) rfl
    have x1 := blk_cell HB3.out (j := 1) rfl
    have x2 := blk_cell HB3.out (j := 2) rfl
    have x3 := blk_cell HB3.out (j := 3) rfl
    have f0 := blk_frozen HB3.out 0
    have f1 := blk_frozen HB3.out 1
    have f2 := blk_frozen HB3.out 2
    have f3 := blk_frozen HB3.out 3
    go_wp2
    change bodyPost _ _ _ _ _ (put4 w3 w.heap.size (.int .i64 0) (.slice none 0 0) (.slice none 0 0) (.string ⟨#[]⟩))
    have hW := put4_blk HB3.out (.int .i64 0) (.slice none 0 0) (.slice none 0 0) (.string ⟨#[]⟩)
    have cW := put4_chg w3 w.heap.size (.int .i64 0) (.slice none 0 0) (.slice none 0 0) (.string ⟨#[]⟩)
    generalize put4 w3 w.heap.size (.int .i64 0) (.slice none 0 0) (.slice none 0 0) (.string ⟨#[]⟩) = wz at *
    have y0 := blk_cell hW (j := 0) rfl
    have y1 := blk_cell hW (j := 1) rfl
    have y2 := blk_cell hW (j := 2) rfl
    have y3 := blk_cell hW (j := 3) rfl
    exact bodyPost_ret (v := .tuple #[.agg #[.int .i64 0, .slice none 0 0, .slice none 0 0, .string ⟨#[]⟩], .bool false]) (by simp [results, Tryz.results8, go_sem, y0, y1, y2, y3]) rfl (TnO.no HN.out (cW.gr G3 (Nat.le_refl _)))
  · have HN := Lib.hid hk
    rw [hk] at HK
    clear hk
    go_wp2_with fail
    (with_reducible refine (implTalkValid_c (hm.kept G2) (he.kept G2) (ht.kept G2) 0 ⟨#[]⟩ o2.s l2.s hs hz).mono ?_); rintro e w3 ⟨rfl, g3⟩
    rw [HK.out]
    have HB3 := Lib.hid (g3.blk HB2.out)
    have HC3 := Lib.hid (g3.blk HC.out)
    have G3 := G2.trans g3
    clear s0 s1 s2 s3
    have s0 := blk_cell HC3.out (j := 0) rfl
    have s1 := blk_cell HC3.out (j := 1) rfl
    have s2 := blk_cell HC3.out (j := 2) rfl
    have s3 := blk_cell HC3.out (j := 3) rfl
    have x0 := blk_cell HB3.out (j := 0) rfl
    have x1 := blk_cell HB3.out (j := 1) rfl
    have x2 := blk_cell HB3.out (j := 2) rfl
    have x3 := blk_cell HB3.out (j := 3) rfl
    have f0 := blk_frozen HB3.out 0
    have f1 := blk_frozen HB3.out 1
    have f2 := blk_frozen HB3.out 2
    have f3 := blk_frozen HB3.out 3
    go_wp2
    change bodyPost _ _ _ _ _ (put4 w3 w.heap.size (.int .i64 0) (.slice p1 ws.length c1) (.slice q1 ls.length d1) (.string ⟨#[]⟩))
    have hW := put4_blk HB3.out (.int .i64 0) (.slice p1 ws.length c1) (.slice q1 ls.length d1) (.string ⟨#[]⟩)
    have cW := put4_chg w3 w.heap.size (.int .i64 0) (.slice p1 ws.length c1) (.slice q1 ls.length d1) (.string ⟨#[]⟩)
    generalize put4 w3 w.heap.size (.int .i64 0) (.slice p1 ws.length c1) (.slice q1 ls.length d1) (.string ⟨#[]⟩) = wz at *
    have y0 := blk_cell hW (j := 0) rfl
    have y1 := blk_cell hW (j := 1) rfl
    have y2 := blk_cell hW (j := 2) rfl
    have y3 := blk_cell hW (j := 3) rfl
    exact bodyPost_ret (v := .tuple #[.agg #[.int .i64 0, .slice p1 ws.length c1, .slice q1 ls.length d1, .string ⟨#[]⟩], .bool true]) (by simp [results, Tryz.results8, go_sem, y0, y1, y2, y3]) rfl (TnO.yes HN.out ((IntO.keptC (o2.kept g3) cW (by omega)).mono (by omega)) ((LgO.keptC (l2.kept g3) cW (by omega)).mono (by omega)) (cW.gr G3 (Nat.le_refl _)))
end Go.Proofs.YtgigjgjpglmpoaaGreatDoor
