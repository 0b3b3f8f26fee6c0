/- impl.AddressFrom. -/
import Derived.Test.YtgigjgjpglmpoaaGreatDoorGS
import Derived.Test.YtgigjgjpglmpoaaGreatDoorGQ
namespace Go.Proofs.YtgigjgjpglmpoaaGreatDoor
open Go.RowKit
/-- What AddressFrom hands back, its parts named. -/
def AdrIs (l : Tx) (k : Int) (xs : List Int) (nm : ByteArray) (p : Int) (ok : Bool) : Prop :=
  (addrFrom l = some ⟨k, xs, tx nm, p⟩ ∧ ok = true) ∨ (addrFrom l = none ∧ k = 0 ∧ xs = [] ∧ nm = ⟨#[]⟩ ∧ p = 0 ∧ ok = false)
theorem adrIs_some (l : Tx) : ∃ k xs nm p ok, AdrIs l k xs nm p ok := by
  cases h : addrFrom l with
  | none => exact ⟨0, [], ⟨#[]⟩, 0, false, .inr ⟨h, rfl, rfl, rfl, rfl, rfl⟩⟩
  | some a =>
    obtain ⟨k, xs, nm, p⟩ := a
    exact ⟨k, xs, S nm, p, true, .inl ⟨by rw [tx_S]; exact h, rfl⟩⟩
theorem AdrIs.no {l : Tx} {k : Int} {xs : List Int} {nm : ByteArray} {p : Int} {ok : Bool} (h : AdrIs l k xs nm p ok) (hn : addrFrom l = none) : k = 0 ∧ xs = [] ∧ nm = ⟨#[]⟩ ∧ p = 0 ∧ ok = false := by
  rcases h with ⟨h, _⟩ | ⟨_, h⟩
  · rw [h] at hn; cases hn
  · exact h
theorem AdrIs.yes {l : Tx} {k : Int} {xs : List Int} {nm : ByteArray} {p : Int} {ok : Bool} (h : AdrIs l k xs nm p ok) {a : Adr} (hn : addrFrom l = some a) : k = a.kind ∧ xs = a.quad ∧ nm = S a.name ∧ p = a.port ∧ ok = true := by
  rcases h with ⟨h, rfl⟩ | ⟨h, _⟩
  · rw [h] at hn; injection hn with e; subst e; exact ⟨rfl, rfl, (S_tx _).symm, rfl, rfl⟩
  · rw [h] at hn; cases hn
theorem cut_len (l : Tx) (c : UInt8) : (Lib.cut l [c]).1.length ≤ l.length ∧ (Lib.cut l [c]).2.1.length ≤ l.length := by
  rcases idx_cases c l with ⟨_, h⟩ | ⟨a, b, h1, h2, _⟩
  · rw [cut_miss h]; simp
  · rw [h1, cut_hit h2]; simp; omega
def AdrPost (k : Int) (xs : List Int) (nm : ByteArray) (p : Int) (ok : Bool) (w : World) (e : Ending) (w' : World) : Prop :=
  ∃ q c, e = .returned (.tuple #[.agg #[.int .i64 k, .slice q xs.length c, .string nm, .int .i64 p], .bool ok]) ∧ IntO w.heap.size 3 w' (.slice q xs.length c) xs ∧ Gr w w'
theorem AdrPost.no {l : Tx} {k : Int} {xs : List Int} {nm : ByteArray} {p : Int} {ok : Bool} {w w' : World} (h : AdrIs l k xs nm p ok) (hn : addrFrom l = none) (hg : Gr w w') :
    AdrPost k xs nm p ok w (.returned (.tuple #[.agg #[.int .i64 0, .slice none 0 0, .string ⟨#[]⟩, .int .i64 0], .bool false])) w' := by
  obtain ⟨rfl, rfl, rfl, rfl, rfl⟩ := h.no hn
  exact ⟨none, 0, rfl, IntO.nil _ _ _, hg⟩
theorem AdrPost.yes {l : Tx} {k : Int} {xs : List Int} {nm : ByteArray} {p : Int} {ok : Bool} {w w' : World} {kk n : Int} {ys : List Int} {ss : ByteArray} {q : Option Addr} {c : Nat} (h : AdrIs l k xs nm p ok) (hn : addrFrom l = some ⟨kk, ys, tx ss, n⟩) (ho : IntO w.heap.size 3 w' (.slice q ys.length c) ys) (hg : Gr w w') :
    AdrPost k xs nm p ok w (.returned (.tuple #[.agg #[.int .i64 kk, .slice q ys.length c, .string ss, .int .i64 n], .bool true])) w' := by
  obtain ⟨rfl, rfl, rfl, rfl, rfl⟩ := h.yes hn
  rw [S_tx]
  exact ⟨q, c, rfl, ho, hg⟩
set_option maxHeartbeats 4000000 in
theorem implAddressFrom_c {w : World} (hm : ML w) (he : ErrV w) (ht : Tab w) (s : ByteArray) (hs : s.size ≤ 2000000) {k p : Int} {xs : List Int} {nm : ByteArray} {ok : Bool} (hA : Hid (AdrIs (tx s) k xs nm p ok)) :
    Calls Tryz.prog 37 #[.string s] w (AdrPost k xs nm p ok w) := by
  have gA := gr_alloc w (.cells #[.int .i64 0, .slice none 0 0, .string ⟨#[]⟩, .int .i64 0] 58)
  have hB0 := heap_alloc_new w (.cells #[.int .i64 0, .slice none 0 0, .string ⟨#[]⟩, .int .i64 0] 58)
  have zA : (w.alloc (.cells #[.int .i64 0, .slice none 0 0, .string ⟨#[]⟩, .int .i64 0] 58)).heap.size = w.heap.size + 1 := by simp
  have HI : Hid (addrFrom (tx s) = match decim (Lib.cut (tx s) [58]).2.1 with | some n => if adrOk (adrOf (Lib.cut (tx s) [58]).1 n) = true then some (adrOf (Lib.cut (tx s) [58]).1 n) else none | none => none) := by rw [Hid, ← addrFromI_eq]; rfl
  obtain ⟨hl1, hl2⟩ := cut_len (tx s) 58
  rw [tx_len] at hl1 hl2
  have C := cut_c (hm.kept gA) s ⟨#[58]⟩ hs
  rw [show tx ⟨#[58]⟩ = [58] from rfl] at C
  have HC := Lib.hid C
  clear C
  obtain ⟨hh, hhe⟩ : ∃ hh, hh = S (Lib.cut (tx s) [58]).1 := ⟨_, rfl⟩
  have hhe2 : (Lib.cut (tx s) [58]).1 = tx hh := by rw [hhe, tx_S]
  rw [← hhe] at HC
  rw [hhe2] at HI hl1
  clear hhe hhe2
  generalize (Lib.cut (tx s) [58]).2.1 = port at *
  generalize (Lib.cut (tx s) [58]).2.2 = fnd at *
  have hhs : hh.size ≤ 2000000 := by rw [← tx_len]; omega
  have hps : (S port).size ≤ 2000000 := by rw [S_len]; omega
  clear hl1 hl2
  go_enter Tryz.func37, Tryz.ntmps37
  go_wp2_with fail
  (with_reducible refine (HC.out).mono ?_); rintro e w1 ⟨rfl, g1⟩
  have HB1 := Lib.hid (g1.blk hB0)
  have G1 := gA.trans g1
  have z1 := g1.sz
  rw [zA] at z1
  clear hB0 zA gA g1 HC
  have C := decimal_c (he.kept G1) (ht.kept G1) (S port) hps
  rw [tx_S] at C
  have HC := Lib.hid C
  clear C
  go_wp2_with fail
  (with_reducible refine (HC.out).mono ?_); rintro e w2 ⟨hd, g2⟩
  have HB2 := Lib.hid (g2.blk HB1.out)
  have G2 := G1.trans g2
  have z2 := g2.sz
  clear HC g2 G1 HB1
  rcases hd with ⟨n, hn, rfl⟩ | ⟨hn, n, rfl⟩
  · have HI2 : Hid (addrFrom (tx s) = if adrOk (adrOf (tx hh) n) = true then some (adrOf (tx hh) n) else none) := by rw [Hid, HI.out, hn]
    clear hn HI
    have gB := gr_alloc w2 (.cells #[.int .i64 3, .slice none 0 0, .string hh, .int .i64 n] 58)
    have hB1 := heap_alloc_new w2 (.cells #[.int .i64 3, .slice none 0 0, .string hh, .int .i64 n] 58)
    have zB : (w2.alloc (.cells #[.int .i64 3, .slice none 0 0, .string hh, .int .i64 n] 58)).heap.size = w2.heap.size + 1 := by simp
    have GB := G2.trans gB
    have C := implQuadFrom_c (hm.kept GB) (he.kept GB) (ht.kept GB) hh hhs
    rw [zB] at C
    cases hq : quadFrom (tx hh) with
    | some q =>
      have C2 : Calls Tryz.prog 47 #[.string hh] (w2.alloc (.cells #[.int .i64 3, .slice none 0 0, .string hh, .int .i64 n] 58)) fun e w' => ∃ v, e = .returned (.tuple #[v, .bool true]) ∧ IntO (w2.heap.size + 1) 3 w' v q ∧ Gr (w2.alloc (.cells #[.int .i64 3, .slice none 0 0, .string hh, .int .i64 n] 58)) w' := by
        rw [hq] at C; exact C
      have hadr : adrOf (tx hh) n = ⟨1, q, tx ⟨#[]⟩, n⟩ := by unfold adrOf; rw [hq]; rfl
      have HNO : Hid (adrOk ⟨1, q, tx ⟨#[]⟩, n⟩ = false → addrFrom (tx s) = none) := Lib.hid fun h => by rw [HI2.out, hadr, h]; rfl
      have HYE : Hid (adrOk ⟨1, q, tx ⟨#[]⟩, n⟩ = true → addrFrom (tx s) = some ⟨1, q, tx ⟨#[]⟩, n⟩) := Lib.hid fun h => by rw [HI2.out, hadr, if_pos h]
      have hss : (⟨#[]⟩ : ByteArray).size ≤ 2000000 := by simp [ByteArray.size]
      have HC := Lib.hid C2
      clear C C2 hq hadr HI2
      go_wp2_with fail
      (with_reducible refine (HC.out).mono ?_); rintro e w3 ⟨v3, rfl, o3, g3⟩
      obtain ⟨pq, cq, rfl⟩ := o3.len
      have HB3 := Lib.hid (g3.blk (gB.blk HB2.out))
      have HC3 := Lib.hid (g3.blk hB1)
      have G3 := GB.trans g3
      have z3 := g3.sz
      rw [zB] at z3
      have o3b := o3.b
      clear HB2 hB1 g3 HC o3 gB zB GB
      have x0 := blk_cell HC3.out (j := 0) rfl
      have x1 := blk_cell HC3.out (j := 1) rfl
      have x2 := blk_cell HC3.out (j := 2) rfl
      have x3 := blk_cell HC3.out (j := 3) rfl
      have f0 := blk_frozen HC3.out 0
      have f1 := blk_frozen HC3.out 1
      have f2 := blk_frozen HC3.out 2
      have f3 := blk_frozen HC3.out 3
      go_upto_region 9 with fail
      have hW := put4_blk HC3.out (.int .i64 1) (.slice pq q.length cq) (.string ⟨#[]⟩) (.int .i64 n)
      have cW := put4_chg w3 w2.heap.size (.int .i64 1) (.slice pq q.length cq) (.string ⟨#[]⟩) (.int .i64 n)
      unfold put4 at hW cW
      generalize (((w3.setCell ⟨w2.heap.size, 0, none⟩ (.int .i64 1)).setCell ⟨w2.heap.size, 1, none⟩ (.slice pq q.length cq)).setCell ⟨w2.heap.size, 2, none⟩ (.string ⟨#[]⟩)).setCell ⟨w2.heap.size, 3, none⟩ (.int .i64 n) = w4 at *
      have HB4 := Lib.hid ((cW.block w.heap.size (.inl (by omega))).trans HB3.out)
      have HC4 := Lib.hid hW
      have o4 := IntB.chg o3b cW (.inr (by omega))
      have G4 := cW.gr G3 (by omega)
      clear x0 x1 x2 x3 f0 f1 f2 f3 hW cW HB3 HC3 G3 o3b
      cases hok : adrOk ⟨1, q, tx ⟨#[]⟩, n⟩
      · have HN := Lib.hid (HNO.out hok)
        have HOK := Lib.hid hok
        clear hok
        have s0 := blk_cell HC4.out (j := 0) rfl
        have s1 := blk_cell HC4.out (j := 1) rfl
        have s2 := blk_cell HC4.out (j := 2) rfl
        have s3 := blk_cell HC4.out (j := 3) rfl
        go_wp2_with fail
        (with_reducible refine (implAddressValid_c (hm.kept G4) 1 n ⟨#[]⟩ (IntO.s (IntB.o o4)) hss).mono ?_); rintro e w5 ⟨rfl, g5⟩
        rw [HOK.out]
        have HB5 := Lib.hid (g5.blk HB4.out)
        have HG5 := Lib.hid (Gr.trans G4 g5)
        clear s0 s1 s2 s3
        have x0 := blk_cell HB5.out (j := 0) rfl
        have x1 := blk_cell HB5.out (j := 1) rfl
        have x2 := blk_cell HB5.out (j := 2) rfl
        have x3 := blk_cell HB5.out (j := 3) rfl
        have f0 := blk_frozen HB5.out 0
        have f1 := blk_frozen HB5.out 1
        have f2 := blk_frozen HB5.out 2
        have f3 := blk_frozen HB5.out 3
        go_wp2
        change bodyPost _ _ _ _ _ (put4 w5 w.heap.size (.int .i64 0) (.slice none 0 0) (.string ⟨#[]⟩) (.int .i64 0))
        have hW := put4_blk HB5.out (.int .i64 0) (.slice none 0 0) (.string ⟨#[]⟩) (.int .i64 0)
        have cW := put4_chg w5 w.heap.size (.int .i64 0) (.slice none 0 0) (.string ⟨#[]⟩) (.int .i64 0)
        generalize put4 w5 w.heap.size (.int .i64 0) (.slice none 0 0) (.string ⟨#[]⟩) (.int .i64 0) = wz at *
        have y0 := blk_cell hW (j := 0) rfl
        have y1 := blk_cell hW (j := 1) rfl
        have y2 := blk_cell hW (j := 2) rfl
        have y3 := blk_cell hW (j := 3) rfl
        exact bodyPost_ret (v := .tuple #[.agg #[.int .i64 0, .slice none 0 0, .string ⟨#[]⟩, .int .i64 0], .bool false]) (by simp [results, Tryz.results37, go_sem, y0, y1, y2, y3]) rfl (AdrPost.no hA.out HN.out (cW.gr HG5.out (Nat.le_refl _)))
      · have HN := Lib.hid (HYE.out hok)
        have HOK := Lib.hid hok
        clear hok
        have s0 := blk_cell HC4.out (j := 0) rfl
        have s1 := blk_cell HC4.out (j := 1) rfl
        have s2 := blk_cell HC4.out (j := 2) rfl
        have s3 := blk_cell HC4.out (j := 3) rfl
        go_wp2_with fail
        (with_reducible refine (implAddressValid_c (hm.kept G4) 1 n ⟨#[]⟩ (IntO.s (IntB.o o4)) hss).mono ?_); rintro e w5 ⟨rfl, g5⟩
        rw [HOK.out]
        have HB5 := Lib.hid (g5.blk HB4.out)
        have HC5 := Lib.hid (g5.blk HC4.out)
        have HG5 := Lib.hid (Gr.trans G4 g5)
        have O5 := IntB.kept o4 g5
        clear s0 s1 s2 s3
        have s0 := blk_cell HC5.out (j := 0) rfl
        have s1 := blk_cell HC5.out (j := 1) rfl
        have s2 := blk_cell HC5.out (j := 2) rfl
        have s3 := blk_cell HC5.out (j := 3) rfl
        have x0 := blk_cell HB5.out (j := 0) rfl
        have x1 := blk_cell HB5.out (j := 1) rfl
        have x2 := blk_cell HB5.out (j := 2) rfl
        have x3 := blk_cell HB5.out (j := 3) rfl
        have f0 := blk_frozen HB5.out 0
        have f1 := blk_frozen HB5.out 1
        have f2 := blk_frozen HB5.out 2
        have f3 := blk_frozen HB5.out 3
        go_wp2
        change bodyPost _ _ _ _ _ (put4 w5 w.heap.size (.int .i64 1) (.slice pq (q).length cq) (.string ⟨#[]⟩) (.int .i64 n))
        have hW := put4_blk HB5.out (.int .i64 1) (.slice pq (q).length cq) (.string ⟨#[]⟩) (.int .i64 n)
        have cW := put4_chg w5 w.heap.size (.int .i64 1) (.slice pq (q).length cq) (.string ⟨#[]⟩) (.int .i64 n)
        generalize put4 w5 w.heap.size (.int .i64 1) (.slice pq (q).length cq) (.string ⟨#[]⟩) (.int .i64 n) = wz at *
        have y0 := blk_cell hW (j := 0) rfl
        have y1 := blk_cell hW (j := 1) rfl
        have y2 := blk_cell hW (j := 2) rfl
        have y3 := blk_cell hW (j := 3) rfl
        exact bodyPost_ret (v := .tuple #[.agg #[.int .i64 1, .slice pq (q).length cq, .string ⟨#[]⟩, .int .i64 n], .bool true]) (by simp [results, Tryz.results37, go_sem, y0, y1, y2, y3]) rfl (AdrPost.yes (q := pq) (c := cq) hA.out HN.out (IntO.mono (IntB.o (IntB.chg O5 cW (.inr (by omega)))) (by omega)) (cW.gr HG5.out (Nat.le_refl _)))
    | none =>
      have C2 : Calls Tryz.prog 47 #[.string hh] (w2.alloc (.cells #[.int .i64 3, .slice none 0 0, .string hh, .int .i64 n] 58)) fun e w' => ∃ v, e = .returned (.tuple #[v, .bool false]) ∧ IntO (w2.heap.size + 1) 3 w' v [] ∧ Gr (w2.alloc (.cells #[.int .i64 3, .slice none 0 0, .string hh, .int .i64 n] 58)) w' := by
        rw [hq] at C; exact C
      have hadr : adrOf (tx hh) n = ⟨3, [], tx hh, n⟩ := by unfold adrOf; rw [hq]
      have HNO : Hid (adrOk ⟨3, [], tx hh, n⟩ = false → addrFrom (tx s) = none) := Lib.hid fun h => by rw [HI2.out, hadr, h]; rfl
      have HYE : Hid (adrOk ⟨3, [], tx hh, n⟩ = true → addrFrom (tx s) = some ⟨3, [], tx hh, n⟩) := Lib.hid fun h => by rw [HI2.out, hadr, if_pos h]
      have hss := hhs
      have HC := Lib.hid C2
      clear C C2 hq hadr HI2
      go_wp2_with fail
      (with_reducible refine (HC.out).mono ?_); rintro e w4 ⟨v3, rfl, o3, g3⟩
      have HB4 := Lib.hid (g3.blk (gB.blk HB2.out))
      have HC4 := Lib.hid (g3.blk hB1)
      have G4 := GB.trans g3
      have z3 := g3.sz
      rw [zB] at z3
      have o4 : IntB (w2.heap.size + 1) (w2.heap.size + 1) 3 w4 (.slice none 0 0) [] := IntB.nil _ _ _ _
      clear HB2 hB1 g3 HC o3 gB zB GB
      cases hok : adrOk ⟨3, ([] : List Int), tx hh, n⟩
      · have HN := Lib.hid (HNO.out hok)
        have HOK := Lib.hid hok
        clear hok
        have s0 := blk_cell HC4.out (j := 0) rfl
        have s1 := blk_cell HC4.out (j := 1) rfl
        have s2 := blk_cell HC4.out (j := 2) rfl
        have s3 := blk_cell HC4.out (j := 3) rfl
        go_wp2_with fail
        (with_reducible refine (implAddressValid_c (hm.kept G4) 3 n hh (IntO.s (IntB.o o4)) hss).mono ?_); rintro e w5 ⟨rfl, g5⟩
        rw [HOK.out]
        have HB5 := Lib.hid (g5.blk HB4.out)
        have HG5 := Lib.hid (Gr.trans G4 g5)
        clear s0 s1 s2 s3
        have x0 := blk_cell HB5.out (j := 0) rfl
        have x1 := blk_cell HB5.out (j := 1) rfl
        have x2 := blk_cell HB5.out (j := 2) rfl
        have x3 := blk_cell HB5.out (j := 3) rfl
        have f0 := blk_frozen HB5.out 0
        have f1 := blk_frozen HB5.out 1
        have f2 := blk_frozen HB5.out 2
        have f3 := blk_frozen HB5.out 3
        go_wp2
        change bodyPost _ _ _ _ _ (put4 w5 w.heap.size (.int .i64 0) (.slice none 0 0) (.string ⟨#[]⟩) (.int .i64 0))
        have hW := put4_blk HB5.out (.int .i64 0) (.slice none 0 0) (.string ⟨#[]⟩) (.int .i64 0)
        have cW := put4_chg w5 w.heap.size (.int .i64 0) (.slice none 0 0) (.string ⟨#[]⟩) (.int .i64 0)
        generalize put4 w5 w.heap.size (.int .i64 0) (.slice none 0 0) (.string ⟨#[]⟩) (.int .i64 0) = wz at *
        have y0 := blk_cell hW (j := 0) rfl
        have y1 := blk_cell hW (j := 1) rfl
        have y2 := blk_cell hW (j := 2) rfl
        have y3 := blk_cell hW (j := 3) rfl
        exact bodyPost_ret (v := .tuple #[.agg #[.int .i64 0, .slice none 0 0, .string ⟨#[]⟩, .int .i64 0], .bool false]) (by simp [results, Tryz.results37, go_sem, y0, y1, y2, y3]) rfl (AdrPost.no hA.out HN.out (cW.gr HG5.out (Nat.le_refl _)))
      · have HN := Lib.hid (HYE.out hok)
        have HOK := Lib.hid hok
        clear hok
        have s0 := blk_cell HC4.out (j := 0) rfl
        have s1 := blk_cell HC4.out (j := 1) rfl
        have s2 := blk_cell HC4.out (j := 2) rfl
        have s3 := blk_cell HC4.out (j := 3) rfl
        go_wp2_with fail
        (with_reducible refine (implAddressValid_c (hm.kept G4) 3 n hh (IntO.s (IntB.o o4)) hss).mono ?_); rintro e w5 ⟨rfl, g5⟩
        rw [HOK.out]
        have HB5 := Lib.hid (g5.blk HB4.out)
        have HC5 := Lib.hid (g5.blk HC4.out)
        have HG5 := Lib.hid (Gr.trans G4 g5)
        have O5 := IntB.kept o4 g5
        clear s0 s1 s2 s3
        have s0 := blk_cell HC5.out (j := 0) rfl
        have s1 := blk_cell HC5.out (j := 1) rfl
        have s2 := blk_cell HC5.out (j := 2) rfl
        have s3 := blk_cell HC5.out (j := 3) rfl
        have x0 := blk_cell HB5.out (j := 0) rfl
        have x1 := blk_cell HB5.out (j := 1) rfl
        have x2 := blk_cell HB5.out (j := 2) rfl
        have x3 := blk_cell HB5.out (j := 3) rfl
        have f0 := blk_frozen HB5.out 0
        have f1 := blk_frozen HB5.out 1
        have f2 := blk_frozen HB5.out 2
        have f3 := blk_frozen HB5.out 3
        go_wp2
        change bodyPost _ _ _ _ _ (put4 w5 w.heap.size (.int .i64 3) (.slice none (([] : List Int)).length 0) (.string hh) (.int .i64 n))
        have hW := put4_blk HB5.out (.int .i64 3) (.slice none (([] : List Int)).length 0) (.string hh) (.int .i64 n)
        have cW := put4_chg w5 w.heap.size (.int .i64 3) (.slice none (([] : List Int)).length 0) (.string hh) (.int .i64 n)
        generalize put4 w5 w.heap.size (.int .i64 3) (.slice none (([] : List Int)).length 0) (.string hh) (.int .i64 n) = wz at *
        have y0 := blk_cell hW (j := 0) rfl
        have y1 := blk_cell hW (j := 1) rfl
        have y2 := blk_cell hW (j := 2) rfl
        have y3 := blk_cell hW (j := 3) rfl
        exact bodyPost_ret (v := .tuple #[.agg #[.int .i64 3, .slice none (([] : List Int)).length 0, .string hh, .int .i64 n], .bool true]) (by simp [results, Tryz.results37, go_sem, y0, y1, y2, y3]) rfl (AdrPost.yes (q := none) (c := 0) hA.out HN.out (IntO.mono (IntB.o (IntB.chg O5 cW (.inr (by omega)))) (by omega)) (cW.gr HG5.out (Nat.le_refl _)))
  · have HN : Hid (addrFrom (tx s) = none) := by rw [Hid, HI.out, hn]
    clear hn HI
    have x0 := blk_cell HB2.out (j := 0) rfl
    have x1 := blk_cell HB2.out (j := 1) rfl
    have x2 := blk_cell HB2.out (j := 2) rfl
    have x3 := blk_cell HB2.out (j := 3) rfl
    have f0 := blk_frozen HB2.out 0
    have f1 := blk_frozen HB2.out 1
    have f2 := blk_frozen HB2.out 2
    have f3 := blk_frozen HB2.out 3
    go_wp2
    change bodyPost _ _ _ _ _ (put4 w2 w.heap.size (.int .i64 0) (.slice none 0 0) (.string ⟨#[]⟩) (.int .i64 0))
    have hW := put4_blk HB2.out (.int .i64 0) (.slice none 0 0) (.string ⟨#[]⟩) (.int .i64 0)
    have cW := put4_chg w2 w.heap.size (.int .i64 0) (.slice none 0 0) (.string ⟨#[]⟩) (.int .i64 0)
    generalize put4 w2 w.heap.size (.int .i64 0) (.slice none 0 0) (.string ⟨#[]⟩) (.int .i64 0) = wz at *
    have y0 := blk_cell hW (j := 0) rfl
    have y1 := blk_cell hW (j := 1) rfl
    have y2 := blk_cell hW (j := 2) rfl
    have y3 := blk_cell hW (j := 3) rfl
    exact bodyPost_ret (v := .tuple #[.agg #[.int .i64 0, .slice none 0 0, .string ⟨#[]⟩, .int .i64 0], .bool false]) (by simp [results, Tryz.results37, go_sem, y0, y1, y2, y3]) rfl (AdrPost.no hA.out HN.out (cW.gr G2 (Nat.le_refl _)))
end Go.Proofs.YtgigjgjpglmpoaaGreatDoor
