/- Talks: copies of them, both ways; the reference's test of a talk. -/
import Derived.Test.YtgigjgjpglmpoaaGreatDoorLgF
import Derived.Test.YtgigjgjpglmpoaaGreatDoorGW
import Derived.Test.YtgigjgjpglmpoaaGreatDoorGF
import Derived.Test.YtgigjgjpglmpoaaGreatDoorGL
import Derived.Test.YtgigjgjpglmpoaaGreatDoorGQ
import Derived.Test.YtgigjgjpglmpoaaGreatDoorAdrG
import Derived.Test.YtgigjgjpglmpoaaGreatDoorGV
import Derived.Deep.RegionWith
import Derived.Deep.RegionHeld3
import Derived.Deep.DeepCutAuto
namespace Go.Proofs.YtgigjgjpglmpoaaGreatDoor
open Go.RowKit
/-- A talk that is handed back. -/
def TkO (t : Tlk) (w : World) (e : Ending) (w' : World) : Prop :=
  ∃ (p : Option Addr) (c : Nat) (q : Option Addr) (d : Nat), e = .returned (.agg #[.int .i64 t.st, .slice p t.wanted.length c, .slice q t.logins.length d, .string (S t.dst)]) ∧ IntO w.heap.size 3 w' (.slice p t.wanted.length c) t.wanted ∧ LgO w.heap.size w' (.slice q t.logins.length d) t.logins ∧ Gr w w'
/-- A talk at a block, its parts in memory behind w0. -/
def TkB (b B : Nat) (st : Int) (ws : List Int) (ls : List Lg) (d : ByteArray) (w : World) : Prop :=
  ∃ (p : Option Addr) (c : Nat) (q : Option Addr) (e : Nat), w.heap[b]? = some (.cells #[.int .i64 st, .slice p ws.length c, .slice q ls.length e, .string d] 27 (0, 0)) ∧ IntO B 3 w (.slice p ws.length c) ws ∧ LgO B w (.slice q ls.length e) ls
theorem TkB.of {b B : Nat} {st : Int} {ws : List Int} {ls : List Lg} {d : ByteArray} {w2 : World} {v u : Value} {p q : Option Addr} {c e : Nat} (hb : w2.heap[b]? = some (.cells #[.int .i64 st, v, u, .string d] 27 (0, 0))) (hB : b < B)
    (o : IntO B 3 w2 (.slice p ws.length c) ws) (l : LgO B w2 (.slice q ls.length e) ls) : TkB b B st ws ls d ((w2.setCell ⟨b, 1, none⟩ (.slice p ws.length c)).setCell ⟨b, 2, none⟩ (.slice q ls.length e)) ∧ D b w2 ((w2.setCell ⟨b, 1, none⟩ (.slice p ws.length c)).setCell ⟨b, 2, none⟩ (.slice q ls.length e)) := by
  have hd : D b w2 ((w2.setCell ⟨b, 1, none⟩ (.slice p ws.length c)).setCell ⟨b, 2, none⟩ (.slice q ls.length e)) := D.set (D.set (D.refl b w2) 1 _) 2 _
  exact ⟨⟨p, c, q, e, heap_set (j := 2) (heap_set (j := 1) hb), o.keptD hd hB, l.keptD hd hB⟩, hd⟩
set_option maxRecDepth 20000 in
set_option maxHeartbeats 4000000 in
theorem cloneTalk_c {w : World} {v u : Value} {ws : List Int} {ls : List Lg} (st : Int) (d : ByteArray) (h : IntS w v ws) (hl : LgS w u ls) (hw : ws.length ≤ 2000000) (hn : ls.length ≤ 2000000) :
    Calls Tryz.prog 19 #[.agg #[.int .i64 st, v, u, .string d]] w (TkO ⟨st, ws, ls, tx d⟩ w) := by
  obtain ⟨p, cap, rfl, _, _⟩ := h.form
  obtain ⟨q, caq, rfl, _, _⟩ := hl.form
  have gA := (gr_alloc w (.cells #[.int .i64 st, .slice p ws.length cap, .slice q ls.length caq, .string d] 27)).alloc (.cells #[.int .i64 0, .slice none 0 0, .slice none 0 0, .string ⟨#[]⟩] 27)
  have hA1 := (gr_alloc (w.alloc (.cells #[.int .i64 st, .slice p ws.length cap, .slice q ls.length caq, .string d] 27)) (.cells #[.int .i64 0, .slice none 0 0, .slice none 0 0, .string ⟨#[]⟩] 27)).blk (heap_alloc_new w (.cells #[.int .i64 st, .slice p ws.length cap, .slice q ls.length caq, .string d] 27))
  have hA2 := heap_alloc_new (w.alloc (.cells #[.int .i64 st, .slice p ws.length cap, .slice q ls.length caq, .string d] 27)) (.cells #[.int .i64 0, .slice none 0 0, .slice none 0 0, .string ⟨#[]⟩] 27)
  have eA : (w.alloc (.cells #[.int .i64 st, .slice p ws.length cap, .slice q ls.length caq, .string d] 27)).heap.size = w.heap.size + 1 := by simp
  rw [eA] at hA2
  have zA : w.heap.size + 2 ≤ ((w.alloc (.cells #[.int .i64 st, .slice p ws.length cap, .slice q ls.length caq, .string d] 27)).alloc (.cells #[.int .i64 0, .slice none 0 0, .slice none 0 0, .string ⟨#[]⟩] 27)).heap.size := by simp
  have HA1 := Lib.hid hA1
  have HA2 := Lib.hid hA2
  have h0 := h.kept gA
  have hl0 := hl.kept gA
  clear eA hA1 hA2
  go_enter Tryz.func19, Tryz.ntmps19
  go_upto_region 1 with fail
  generalize (w.alloc (.cells #[.int .i64 st, .slice p ws.length cap, .slice q ls.length caq, .string d] 27)).alloc (.cells #[.int .i64 0, .slice none 0 0, .slice none 0 0, .string ⟨#[]⟩] 27) = w0 at *
  have x1 := blk_cell HA1.out (j := 1) rfl
  have x2 := blk_cell HA1.out (j := 2) rfl
  have f1 := blk_frozen HA1.out 1
  have f2 := blk_frozen HA1.out 2
  go_cut [] (fun wx => TkB w.heap.size w0.heap.size st ws ls d wx ∧ D w.heap.size w0 wx)
  case first =>
    go_region_with (first
      | (go_at_call 27; (with_reducible refine (Clone_c (h0.kept (by repeat (first | assumption | exact Gr.refl _ | refine Gr.drew ?_ | refine Gr.alloc ?_ _))) (by omega)).mono ?_); rintro e w1 ⟨v1, rfl, o1, g1'⟩; obtain ⟨p1, c1, rfl⟩ := o1.len; have g1 : Gr w0 w1 := Gr.trans (by repeat (first | assumption | exact Gr.refl _ | refine Gr.drew ?_ | refine Gr.alloc ?_ _)) g1'; have HX1 := Lib.hid (g1.blk HA1.out); have x1 := blk_cell HX1.out (j := 1) rfl; have x2 := blk_cell HX1.out (j := 2) rfl; have f1 := blk_frozen HX1.out 1; have f2 := blk_frozen HX1.out 2)
      | (go_at_call 28; (with_reducible refine (CloneL_c (hl0.kept g1) hn).mono ?_); rintro e w2 ⟨v2, rfl, o2, g2'⟩; obtain ⟨p2, c2, rfl⟩ := o2.len; have g2 : Gr w0 w2 := g1.trans g2'; have HX2 := Lib.hid (g2.blk HA1.out); have x1 := blk_cell HX2.out (j := 1) rfl; have x2 := blk_cell HX2.out (j := 2) rfl; have f1 := blk_frozen HX2.out 1; have f2 := blk_frozen HX2.out 2)
      | fail)
    all_goals
      go_wp2_with fail
      go_meet
      have o1' : IntO w0.heap.size 3 w2 (.slice p1 ws.length c1) ws := IntO.kept o1 g2'
      have o2' : LgO w0.heap.size w2 (.slice p2 ls.length c2) ls := LgO.mono o2 g1.sz
      have T := TkB.of (B := w0.heap.size) HX2.out (by omega) o1' o2'
      exact ⟨T.1, (D.ofGr g2).trans T.2⟩
  case rest =>
    obtain ⟨⟨p1, c1, q1, e1, hb1, o1, l1⟩, hd⟩ := hcut
    have HB1 := Lib.hid hb1
    have HB2 := Lib.hid (hd.blk HA2.out (by omega))
    have hz := hd.sz
    clear hb1 x1 x2 f1 f2
    have x0 := blk_cell HB1.out (j := 0) rfl
    have x1 := blk_cell HB1.out (j := 1) rfl
    have x2 := blk_cell HB1.out (j := 2) rfl
    have x3 := blk_cell HB1.out (j := 3) rfl
    have z0 := blk_cell HB2.out (j := 0) rfl
    have z1 := blk_cell HB2.out (j := 1) rfl
    have z2 := blk_cell HB2.out (j := 2) rfl
    have z3 := blk_cell HB2.out (j := 3) rfl
    have f0 := blk_frozen HB2.out 0
    have f1 := blk_frozen HB2.out 1
    have f2 := blk_frozen HB2.out 2
    have f3 := blk_frozen HB2.out 3
    go_wp2
    change bodyPost _ _ _ _ _ (put4 wc (w.heap.size + 1) (.int .i64 st) (.slice p1 ws.length c1) (.slice q1 ls.length e1) (.string d))
    have hW := put4_blk HB2.out (.int .i64 st) (.slice p1 ws.length c1) (.slice q1 ls.length e1) (.string d)
    have dW := put4_D wc (w.heap.size + 1) (.int .i64 st) (.slice p1 ws.length c1) (.slice q1 ls.length e1) (.string d)
    generalize put4 wc (w.heap.size + 1) (.int .i64 st) (.slice p1 ws.length c1) (.slice q1 ls.length e1) (.string d) = wz at *
    have y0 := blk_cell hW (j := 0) rfl
    have y1 := blk_cell hW (j := 1) rfl
    have y2 := blk_cell hW (j := 2) rfl
    have y3 := blk_cell hW (j := 3) rfl
    exact bodyPost_ret (v := .agg #[.int .i64 st, .slice p1 ws.length c1, .slice q1 ls.length e1, .string d]) (by simp [results, Tryz.results19, go_sem, y0, y1, y2, y3]) rfl ⟨p1, c1, q1, e1, by simp only [S_tx], (o1.keptD dW (by omega)).mono (by omega), (l1.keptD dW (by omega)).mono (by omega), dW.gr (hd.gr gA (Nat.le_refl _)) (by omega)⟩
end Go.Proofs.YtgigjgjpglmpoaaGreatDoor
