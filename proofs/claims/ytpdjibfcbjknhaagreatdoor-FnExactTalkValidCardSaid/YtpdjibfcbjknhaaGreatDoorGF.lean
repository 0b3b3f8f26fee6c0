/- Draws of texts and ports.
Draws of quads and addresses.
Draws of addresses. -/
import Derived.Test.YtpdjibfcbjknhaaGreatDoorGD
import Derived.Test.YtpdjibfcbjknhaaGreatDoorGE
import Derived.Deep.RegionHeld3
import Derived.Deep.RegionWith
import Derived.Deep.DeepCutAuto
import Derived.Test.YtpdjibfcbjknhaaGreatDoorGB
namespace Go.Proofs.YtpdjibfcbjknhaaGreatDoor
open Go.RowKit
theorem StrO.keptD {B g : Nat} {w w' : World} {v : Value} {ls : List Tx} (h : StrO B w v ls) (hd : D g w w') (hB : g < B) : StrO B w' v ls := Own.keptD h hd hB
/-- A drawn text. -/
def DrewS (most g m : Nat) (w : World) (e : Ending) (w' : World) : Prop := ∃ s : ByteArray, e = .returned (.string s) ∧ s.size ≤ most ∧ RdAt w' g (m + 2) ∧ D g w w'
theorem of_c {w : World} {g m B most : Nat} {v : Value} {ls : List Tx} (h : RdAt w g m) (hm : m ≤ 100000) (ho : StrO B w v ls) (hB : g < B) (hn : 1 ≤ ls.length) (hn2 : ls.length ≤ 1000) (hl : ∀ l ∈ ls, l.length ≤ most) :
    Calls Tryz.prog 180 #[.pointer (some ⟨g, 0, none⟩), v] w fun e w' => ∃ s : ByteArray, e = .returned (.string s) ∧ s.size ≤ most ∧ RdAt w' g (m + 1) ∧ D g w w' := by
  obtain ⟨p, cap, rfl, _, _⟩ := ho.s.form
  have HL := Lib.hid hl; clear hl
  go_enter Tryz.func180, Tryz.ntmps180
  go_wp2_with fail
  (with_reducible refine (pick_c h (by omega) _ (by omega) (by omega)).mono ?_); rintro e w1 ⟨k, rfl, hk0, hk1, hr1, hd1⟩
  obtain ⟨k, rfl⟩ := Int.eq_ofNat_of_zero_le hk0
  have hk : k < ls.length := by omega
  obtain ⟨a, hix, hca⟩ := (ho.keptD hd1 hB).s.ix hk
  have HS : Hid ((S (nthS ls k)).size ≤ most) := by rw [Hid, S_len, nthS_eq hk]; exact HL.out _ (List.getElem_mem hk)
  generalize S (nthS ls k) = q at *
  go_wp2
  go_ret
  exact ⟨_, rfl, HS.out, hr1, hd1⟩
theorem strLit (w : World) (cs : Array Value) (ls : List Tx) (n : Nat) (hn : n ≤ 1000) (hl : ls.length = n) (hc : cs.toList = txs ls) : StrO w.heap.size (w.alloc (.cells cs 9)) (.slice (some ⟨w.heap.size, 0, none⟩) n n) ls := by
  subst hl
  have hs : cs.size = ls.length * 1 := by rw [← Array.length_toList, hc]; simp [txs]
  have := Own.lit (B := w.heap.size) (e := 9) (sz := 1) w cs ls.length (Nat.le_refl _) (by omega) hs
  rw [hc] at this
  exact this
set_option maxHeartbeats 1000000 in
theorem l91Name_c {w : World} {g m : Nat} (h : RdAt w g m) (hm : m ≤ 50000) :
    Calls Tryz.prog 162 #[.pointer (some ⟨g, 0, none⟩)] w (DrewS 30 g m w) := by
  have hlt := h.lt
  go_enter Tryz.func162, Tryz.ntmps162
  go_wp2_with fail
  (with_reducible refine (pick_c h (by omega) _ (by omega) (by omega)).mono ?_); rintro e w1 ⟨k, rfl, hk0, hk1, hr1, hd1⟩
  have hs1 := hd1.sz
  by_cases hk : k = 0
  · subst hk
    go_wp2_with fail
    refine (of_c (most := 30) (hr1.alloc _) (by omega) (strLit w1 _ [[], [97, 46, 46, 98], [46, 97], [97, 46], [65], [97, 95, 98], [97, 98, 99, 100, 101, 102, 103, 104, 105, 106, 107, 108, 109, 110, 111, 112, 113, 114, 115, 116], [97, 98, 99, 100, 101, 102, 103, 104, 105, 106, 107, 108, 109, 110, 111, 112, 113, 114, 115, 116, 117], [97, 46, 57]] 9 (by omega) rfl rfl) (by omega) (by decide) (by decide) (by decide)).mono ?_; rintro e w2 ⟨s, rfl, hs, hr2, hd2⟩
    go_wp2
    go_ret
    exact ⟨_, rfl, hs, hr2.more (by omega), (hd1.alloc _).trans hd2⟩
  · have hk' : (k == 0) = false := beq_eq_false_iff_ne.2 hk
    clear hk
    go_wp2_with fail
    refine (of_c (most := 30) (hr1.alloc _) (by omega) (strLit w1 _ [[120, 46, 111, 114, 103], [119, 119, 119, 46, 120, 46, 111, 114, 103], [97], [98, 45, 99, 46, 110, 101, 116], [57, 97, 46, 98], [121]] 6 (by omega) rfl rfl) (by omega) (by decide) (by decide) (by decide)).mono ?_; rintro e w2 ⟨s, rfl, hs, hr2, hd2⟩
    go_wp2
    go_ret
    exact ⟨_, rfl, hs, hr2.more (by omega), (hd1.alloc _).trans hd2⟩
/-- A drawn number. -/
def DrewN (lo hi : Int) (n g m : Nat) (w : World) (e : Ending) (w' : World) : Prop := ∃ p : Int, e = .returned (.int .i64 p) ∧ lo ≤ p ∧ p ≤ hi ∧ RdAt w' g (m + n) ∧ D g w w'
set_option maxHeartbeats 1000000 in
theorem l91Port_c {w : World} {g m : Nat} (h : RdAt w g m) (hm : m ≤ 50000) :
    Calls Tryz.prog 161 #[.pointer (some ⟨g, 0, none⟩)] w (DrewN (-1) 65536 3 g m w) := by
  have hlt := h.lt
  go_enter Tryz.func161, Tryz.ntmps161
  go_wp2_with fail
  (with_reducible refine (pick_c h (by omega) _ (by omega) (by omega)).mono ?_); rintro e w1 ⟨k, rfl, hk0, hk1, hr1, hd1⟩
  have hs1 := hr1.lt
  by_cases hk : k = 0
  · subst hk
    go_wp2_with fail
    (with_reducible refine (pick_c (hr1.alloc _) (by omega) _ (by omega) (by omega)).mono ?_); rintro e w2 ⟨c, rfl, hc0, hc1, hr2, hd2⟩
    have hx0 : w2.cell? ⟨w1.heap.size, 0, none⟩ = some (.int .i64 (-1)) := hd2.cell (by simp) (by simp; omega)
    have hx1 : w2.cell? ⟨w1.heap.size, 1, none⟩ = some (.int .i64 65536) := hd2.cell (by simp) (by simp; omega)
    have hD := (hd1.alloc (.cells #[.int .i64 (-1), .int .i64 65536] 3)).trans hd2
    clear hd1 hd2
    obtain rfl | rfl : c = 0 ∨ c = 1 := by omega
    all_goals
      go_wp2
      go_ret
      exact ⟨_, rfl, by omega, by omega, hr2.more (by omega), hD⟩
  · have hk' : (k == 0) = false := beq_eq_false_iff_ne.2 hk
    clear hk
    go_wp2_with fail
    (with_reducible refine (pick_c hr1 (by omega) _ (by omega) (by omega)).mono ?_); rintro e w2 ⟨d, rfl, hd0, hd1', hr2, hd2⟩
    have hs2 := hr2.lt
    go_wp2_with fail
    (with_reducible refine (pick_c (hr2.alloc _) (by omega) _ (by omega) (by omega)).mono ?_); rintro e w3 ⟨c, rfl, hc0, hc1, hr3, hd3⟩
    have hx0 : w3.cell? ⟨w2.heap.size, 0, none⟩ = some (.int .i64 0) := hd3.cell (by simp) (by simp; omega)
    have hx1 : w3.cell? ⟨w2.heap.size, 1, none⟩ = some (.int .i64 80) := hd3.cell (by simp) (by simp; omega)
    have hx2 : w3.cell? ⟨w2.heap.size, 2, none⟩ = some (.int .i64 443) := hd3.cell (by simp) (by simp; omega)
    have hx3 : w3.cell? ⟨w2.heap.size, 3, none⟩ = some (.int .i64 65535) := hd3.cell (by simp) (by simp; omega)
    have hx4 : w3.cell? ⟨w2.heap.size, 4, none⟩ = some (.int .i64 d) := hd3.cell (by simp) (by simp; omega)
    have hD := ((hd1.trans hd2).alloc (.cells #[.int .i64 0, .int .i64 80, .int .i64 443, .int .i64 65535, .int .i64 d] 3)).trans hd3
    clear hd1 hd2 hd3
    obtain rfl | rfl | rfl | rfl | rfl : c = 0 ∨ c = 1 ∨ c = 2 ∨ c = 3 ∨ c = 4 := by omega
    all_goals
      go_wp2
      go_ret
      exact ⟨_, rfl, by omega, by omega, hr3.more (by omega), hD⟩
end Go.Proofs.YtpdjibfcbjknhaaGreatDoor
namespace Go.Proofs.YtpdjibfcbjknhaaGreatDoor
open Go.RowKit
/-- A block that is known whole. -/
theorem blk_cell {w : World} {b : Nat} {cs : Array Value} {t : TypeId} (h : w.heap[b]? = some (.cells cs t (0, 0))) {j : Nat} {v : Value} (hj : cs[j]? = some v) : w.cell? ⟨b, j, none⟩ = some v := by
  simp [World.cell?, h, hj]
theorem blk_frozen {w : World} {b : Nat} {cs : Array Value} {t : TypeId} (h : w.heap[b]? = some (.cells cs t (0, 0))) (j : Nat) : w.frozen? ⟨b, j, none⟩ = false := by
  simp [World.frozen?, h]
theorem D.blk {g : Nat} {a b : World} (h : D g a b) {k : Nat} {o : Obj} (hk : a.heap[k]? = some o) (hne : k ≠ g) : b.heap[k]? = some o := by
  rw [h.ofBelow k (Array.getElem?_eq_some_iff.1 hk).1 hne]; exact hk
theorem Gr.blk {a b : World} (h : Gr a b) {k : Nat} {o : Obj} (hk : a.heap[k]? = some o) : b.heap[k]? = some o := by
  rw [Below.block h k (Array.getElem?_eq_some_iff.1 hk).1]; exact hk
theorem D.cellEq {g : Nat} {a b : World} (h : D g a b) : ∀ k o, k < a.heap.size → ¬ k = g → b.cell? ⟨k, o, none⟩ = a.cell? ⟨k, o, none⟩ := by
  intro k o hk hne
  simp only [World.cell?]
  rw [h.ofBelow k hk hne]
theorem RdAt.drew {w : World} {g m : Nat} (h : RdAt w g m) : RdAt w.drew g m := h.kept ((Gr.refl w).drew)
/-- One of five numbers. -/
def five (x k : Int) : Int := nth [0, 1, 10, 255, x] k.toNat
theorem five_cell (w : World) (x k : Int) (h0 : 0 ≤ k) (h1 : k < 5) : (w.alloc (.cells #[.int .i64 0, .int .i64 1, .int .i64 10, .int .i64 255, .int .i64 x] 3)).cell? ⟨w.heap.size, k.toNat, none⟩ = some (.int .i64 (five x k)) := by
  have h5 : k = 0 ∨ k = 1 ∨ k = 2 ∨ k = 3 ∨ k = 4 := by omega
  rcases h5 with rfl | rfl | rfl | rfl | rfl <;> simp [five, nth]
theorem IntO.four {w : World} {x y z u : Int} {n : Nat} (hn : n = w.heap.size) : IntO w.heap.size 3 (w.alloc (.cells #[.int .i64 x, .int .i64 y, .int .i64 z, .int .i64 u] 3)) (.slice (some ⟨n, 0, none⟩) 4 4) [x, y, z, u] := by
  subst hn; exact Own.lit w #[.int .i64 x, .int .i64 y, .int .i64 z, .int .i64 u] 4 (Nat.le_refl _) (by decide) rfl
def QuadD (g m : Nat) (w : World) (v : Value) (w' : World) : Prop := ∃ xs : List Int, xs.length = 4 ∧ IntO w.heap.size 3 w' v xs ∧ RdAt w' g (m + 5) ∧ D g w w'
theorem QuadD.mk {g m : Nat} {w w5 : World} {x y z u : Int} {n : Nat} (hr : RdAt w5 g (m + 5)) (hD : D g w w5) (hn : n = w5.heap.size) : QuadD g m w (.slice (some ⟨n, 0, none⟩) 4 4) (w5.alloc (.cells #[.int .i64 x, .int .i64 y, .int .i64 z, .int .i64 u] 3)) :=
  ⟨_, rfl, (IntO.four hn).mono hD.sz, hr.alloc _, hD.alloc _⟩
set_option maxHeartbeats 4000000 in
theorem l91Quad_c {w : World} {g m : Nat} (h : RdAt w g m) (hm : m ≤ 50000) :
    Calls Tryz.prog 160 #[.pointer (some ⟨g, 0, none⟩)] w (DrewI 4 g m w) := by
  have hlt := h.lt
  have hfc := five_cell
  go_enter Tryz.func160, Tryz.ntmps160
  go_upto_region 1 with fail
  go_cut [3] (fun v wx => QuadD g m w v wx)
  case first =>
    go_region_with (first
      | (go_at_call 49; (with_reducible refine (pick_c h.drew (by omega) _ (by omega) (by omega)).mono ?_); rintro e w1 ⟨k1, rfl, hk10, hk11, hr1, hd1⟩; have hc1 := hd1.cellEq; have hs1 := hr1.lt; have hn1 : ¬ w1.heap.size = g := (by omega); have hD1 : D g w w1 := (D.ofGr ((Gr.refl w).drew)).trans hd1)
      | (go_at_call 49; (with_reducible refine (pick_c hr1 (by omega) _ (by omega) (by omega)).mono ?_); rintro e w2 ⟨k2, rfl, hk20, hk21, hr2, hd2⟩; have hc2 := hd2.cellEq; have hs2 := hr2.lt; have hn2 : ¬ w2.heap.size = g := (by omega); have hD2 : D g w w2 := hD1.trans hd2; (try have hz12 : w1.heap.size < w2.heap.size := (by have := hd2.sz; (try simp at this); omega)))
      | (go_at_call 49; (with_reducible refine (pick_c (hr1.alloc _) (by omega) _ (by omega) (by omega)).mono ?_); rintro e w2 ⟨k2, rfl, hk20, hk21, hr2, hd2⟩; have hc2 := hd2.cellEq; have hs2 := hr2.lt; have hn2 : ¬ w2.heap.size = g := (by omega); have hD2 : D g w w2 := (hD1.alloc _).trans hd2; (try have hz12 : w1.heap.size < w2.heap.size := (by have := hd2.sz; (try simp at this); omega)))
      | (go_at_call 49; (with_reducible refine (pick_c hr2 (by omega) _ (by omega) (by omega)).mono ?_); rintro e w3 ⟨k3, rfl, hk30, hk31, hr3, hd3⟩; have hc3 := hd3.cellEq; have hs3 := hr3.lt; have hn3 : ¬ w3.heap.size = g := (by omega); have hD3 : D g w w3 := hD2.trans hd3; (try have hz13 : w1.heap.size < w3.heap.size := (by have := hd3.sz; (try simp at this); omega)); (try have hz23 : w2.heap.size < w3.heap.size := (by have := hd3.sz; (try simp at this); omega)))
      | (go_at_call 49; (with_reducible refine (pick_c (hr2.alloc _) (by omega) _ (by omega) (by omega)).mono ?_); rintro e w3 ⟨k3, rfl, hk30, hk31, hr3, hd3⟩; have hc3 := hd3.cellEq; have hs3 := hr3.lt; have hn3 : ¬ w3.heap.size = g := (by omega); have hD3 : D g w w3 := (hD2.alloc _).trans hd3; (try have hz13 : w1.heap.size < w3.heap.size := (by have := hd3.sz; (try simp at this); omega)); (try have hz23 : w2.heap.size < w3.heap.size := (by have := hd3.sz; (try simp at this); omega)))
      | (go_at_call 49; (with_reducible refine (pick_c hr3 (by omega) _ (by omega) (by omega)).mono ?_); rintro e w4 ⟨k4, rfl, hk40, hk41, hr4, hd4⟩; have hc4 := hd4.cellEq; have hs4 := hr4.lt; have hn4 : ¬ w4.heap.size = g := (by omega); have hD4 : D g w w4 := hD3.trans hd4; (try have hz14 : w1.heap.size < w4.heap.size := (by have := hd4.sz; (try simp at this); omega)); (try have hz24 : w2.heap.size < w4.heap.size := (by have := hd4.sz; (try simp at this); omega)); (try have hz34 : w3.heap.size < w4.heap.size := (by have := hd4.sz; (try simp at this); omega)))
      | (go_at_call 49; (with_reducible refine (pick_c (hr3.alloc _) (by omega) _ (by omega) (by omega)).mono ?_); rintro e w4 ⟨k4, rfl, hk40, hk41, hr4, hd4⟩; have hc4 := hd4.cellEq; have hs4 := hr4.lt; have hn4 : ¬ w4.heap.size = g := (by omega); have hD4 : D g w w4 := (hD3.alloc _).trans hd4; (try have hz14 : w1.heap.size < w4.heap.size := (by have := hd4.sz; (try simp at this); omega)); (try have hz24 : w2.heap.size < w4.heap.size := (by have := hd4.sz; (try simp at this); omega)); (try have hz34 : w3.heap.size < w4.heap.size := (by have := hd4.sz; (try simp at this); omega)))
      | (go_at_call 49; (with_reducible refine (pick_c hr4 (by omega) _ (by omega) (by omega)).mono ?_); rintro e w5 ⟨k5, rfl, hk50, hk51, hr5, hd5⟩; have hc5 := hd5.cellEq; have hs5 := hr5.lt; have hn5 : ¬ w5.heap.size = g := (by omega); have hD5 : D g w w5 := hD4.trans hd5; (try have hz15 : w1.heap.size < w5.heap.size := (by have := hd5.sz; (try simp at this); omega)); (try have hz25 : w2.heap.size < w5.heap.size := (by have := hd5.sz; (try simp at this); omega)); (try have hz35 : w3.heap.size < w5.heap.size := (by have := hd5.sz; (try simp at this); omega)); (try have hz45 : w4.heap.size < w5.heap.size := (by have := hd5.sz; (try simp at this); omega)))
      | (go_at_call 49; (with_reducible refine (pick_c (hr4.alloc _) (by omega) _ (by omega) (by omega)).mono ?_); rintro e w5 ⟨k5, rfl, hk50, hk51, hr5, hd5⟩; have hc5 := hd5.cellEq; have hs5 := hr5.lt; have hn5 : ¬ w5.heap.size = g := (by omega); have hD5 : D g w w5 := (hD4.alloc _).trans hd5; (try have hz15 : w1.heap.size < w5.heap.size := (by have := hd5.sz; (try simp at this); omega)); (try have hz25 : w2.heap.size < w5.heap.size := (by have := hd5.sz; (try simp at this); omega)); (try have hz35 : w3.heap.size < w5.heap.size := (by have := hd5.sz; (try simp at this); omega)); (try have hz45 : w4.heap.size < w5.heap.size := (by have := hd5.sz; (try simp at this); omega))))
    all_goals
      go_wp2_with fail
      go_meet
      first | exact QuadD.mk hr5 hD5 (by simp) | exact QuadD.mk (hr5.alloc _) (hD5.alloc _) (by simp)
  case rest =>
    obtain ⟨xs, hx, ho, hr, hD⟩ := hcut
    have hx4 := Lib.hid hx
    clear hx hfc
    go_wp2_with fail
    (with_reducible refine (pick_c hr (by omega) _ (by omega) (by omega)).mono ?_); rintro e w2 ⟨c, rfl, hc0, hc1, hr2, hd2⟩
    have ho2 := ho.keptD hd2 hlt
    have hD2 := hD.trans hd2
    clear ho hD hr hd2
    by_cases c0 : c = 0
    · subst c0
      go_wp2_with fail
      (with_reducible refine (pick_c hr2 (by omega) _ (by omega) (by omega)).mono ?_); rintro e w3 ⟨k, rfl, hk0, hk1, hr3, hd3⟩
      obtain ⟨k, rfl⟩ := Int.eq_ofNat_of_zero_le hk0
      have ho3 := ho2.keptD hd3 hlt
      have hD3 := hD2.trans hd3
      obtain ⟨a, hix, hb1, hb2, hca, hfa, hob, hset⟩ := ho3.ix (k := k) (by have := hx4.out; omega)
      have HOB := Lib.hid hob
      clear hob
      go_wp2
      go_ret
      exact ⟨_, _, rfl, by rw [List.length_set, hx4.out]; exact Nat.le_refl _, hset _, (hr3.keptB (Below.setCell (Below.refl _ _) hb1 _) hlt).more (by omega), hD3.thenB (Below.setCell (Below.refl _ _) hb1 _)⟩
    · by_cases c1 : c = 1
      · subst c1
        obtain ⟨v', hsl, ho3⟩ := ho2.preO (k := 3) (by have := hx4.out; omega)
        have hsl' : ∀ w1, (Instr.slice 23 _ none (some (.int .i64 3)) none).run Tryz.prog w1 = .ok v' w1 := hsl
        go_wp2
        go_ret
        exact ⟨_, _, rfl, by rw [List.length_take, hx4.out]; omega, ho3, hr2.more (by omega), hD2⟩
      · have e0 : (c == 0) = false := beq_eq_false_iff_ne.2 c0
        have e1 : (c == 1) = false := beq_eq_false_iff_ne.2 c1
        clear c0 c1
        go_wp2
        go_ret
        exact ⟨_, _, rfl, by rw [hx4.out]; omega, ho2, hr2.more (by omega), hD2⟩
end Go.Proofs.YtpdjibfcbjknhaaGreatDoor
namespace Go.Proofs.YtpdjibfcbjknhaaGreatDoor
open Go.RowKit
/-- A drawn address. -/
def DrewA (n g m : Nat) (w : World) (e : Ending) (w' : World) : Prop := ∃ (q : Value) (k p : Int) (s : ByteArray) (xs : List Int), e = .returned (.agg #[.int .i64 k, q, .string s, .int .i64 p]) ∧ xs.length ≤ 4 ∧ s.size ≤ 30 ∧ -1 ≤ p ∧ p ≤ 65536 ∧ IntO w.heap.size 3 w' q xs ∧ RdAt w' g (m + n) ∧ D g w w'
/-- Four cells of a block, written. -/
def put4 (w : World) (b : Nat) (a0 a1 a2 a3 : Value) : World := (((w.setCell ⟨b, 0, none⟩ a0).setCell ⟨b, 1, none⟩ a1).setCell ⟨b, 2, none⟩ a2).setCell ⟨b, 3, none⟩ a3
theorem put4_blk {w : World} {b : Nat} {c0 c1 c2 c3 : Value} {t : TypeId} (h : w.heap[b]? = some (.cells #[c0, c1, c2, c3] t (0, 0))) (a0 a1 a2 a3 : Value) : (put4 w b a0 a1 a2 a3).heap[b]? = some (.cells #[a0, a1, a2, a3] t (0, 0)) :=
  heap_set (j := 3) (x := a3) (heap_set (j := 2) (x := a2) (heap_set (j := 1) (x := a1) (heap_set (j := 0) (x := a0) h)))
theorem put4_D (w : World) (b : Nat) (a0 a1 a2 a3 : Value) : D b w (put4 w b a0 a1 a2 a3) := D.set (D.set (D.set (D.set (D.refl b w) 0 a0) 1 a1) 2 a2) 3 a3
theorem put4_below (w : World) (b : Nat) (a0 a1 a2 a3 : Value) : Below b w (put4 w b a0 a1 a2 a3) :=
  have h := put4_D w b a0 a1 a2 a3
  ⟨h.os, h.tape, h.output, h.size, fun k hk => by unfold put4; rw [Below.heap_setCell _ _ _ _ (by simp; omega), Below.heap_setCell _ _ _ _ (by simp; omega), Below.heap_setCell _ _ _ _ (by simp; omega), Below.heap_setCell _ _ _ _ (by simp; omega)]⟩
set_option maxHeartbeats 4000000 in
theorem l91Address_c {w : World} {g m : Nat} (h : RdAt w g m) (hm : m ≤ 40000) :
    Calls Tryz.prog 142 #[.pointer (some ⟨g, 0, none⟩)] w (DrewA 25 g m w) := by
  have hlt := h.lt
  have hne : ¬ w.heap.size = g := by omega
  go_enter Tryz.func142, Tryz.ntmps142
  go_wp2_with fail
  (with_reducible refine (pick_c (h.alloc _) (by omega) _ (by omega) (by omega)).mono ?_); rintro e w1 ⟨c, rfl, hc0, hc1, hr1, hd1⟩
  have hB1 := hd1.blk (heap_alloc_new w _) hne
  have hD1 := (D.ofGr (gr_alloc w (.cells #[.int .i64 0, .slice none 0 0, .string ⟨#[]⟩, .int .i64 0] 65))).trans hd1
  have hs1 : w.heap.size < w1.heap.size := by have := hd1.sz; simp at this; omega
  have HB1 := Lib.hid hB1
  clear hB1 hd1
  by_cases c0 : c = 0
  · subst c0
    go_wp2_with fail
    (with_reducible refine (l91Quad_c hr1 (by omega)).mono ?_); rintro e w2 ⟨q, xs, rfl, hx4, ho2, hr2, hd2⟩
    go_wp2_with fail
    (with_reducible refine (l91Port_c hr2 (by omega)).mono ?_); rintro e w3 ⟨p, rfl, hp0, hp1, hr3, hd3⟩
    obtain ⟨pq, cq, rfl⟩ := ho2.len
    have hB3 := hd3.blk (hd2.blk HB1.out hne) hne
    have ho3 := ho2.keptD hd3 hr1.lt
    have hD3 := (hD1.trans hd2).trans hd3
    have x0 := blk_cell hB3 (j := 0) rfl
    have x1 := blk_cell hB3 (j := 1) rfl
    have x2 := blk_cell hB3 (j := 2) rfl
    have x3 := blk_cell hB3 (j := 3) rfl
    have f0 := blk_frozen hB3 0
    have f1 := blk_frozen hB3 1
    have f2 := blk_frozen hB3 2
    have f3 := blk_frozen hB3 3
    have HB3 := Lib.hid hB3
    clear hB3 hd2 hd3 ho2
    go_wp2
    change bodyPost _ _ _ _ _ (put4 w3 w.heap.size (.int .i64 1) (.slice pq xs.length cq) (.string ⟨#[]⟩) (.int .i64 p))
    have hW := put4_blk HB3.out (.int .i64 1) (.slice pq xs.length cq) (.string ⟨#[]⟩) (.int .i64 p)
    have gW := put4_below w3 w.heap.size (.int .i64 1) (.slice pq xs.length cq) (.string ⟨#[]⟩) (.int .i64 p)
    have dW := put4_D w3 w.heap.size (.int .i64 1) (.slice pq xs.length cq) (.string ⟨#[]⟩) (.int .i64 p)
    generalize put4 w3 w.heap.size (.int .i64 1) (.slice pq xs.length cq) (.string ⟨#[]⟩) (.int .i64 p) = W at *
    have y0 := blk_cell hW (j := 0) rfl
    have y1 := blk_cell hW (j := 1) rfl
    have y2 := blk_cell hW (j := 2) rfl
    have y3 := blk_cell hW (j := 3) rfl
    exact bodyPost_ret (v := .agg #[.int .i64 1, .slice pq xs.length cq, .string ⟨#[]⟩, .int .i64 p]) (by simp [results, Tryz.results142, go_sem, y0, y1, y2, y3]) rfl ⟨_, _, _, _, _, rfl, hx4, by decide, hp0, hp1, (ho3.keptD dW hs1).mono (by omega), (hr3.keptB gW hlt).more (by omega), hD3.thenB gW⟩
  · have c0' : (c == 0) = false := beq_eq_false_iff_ne.2 c0
    clear c0
    go_wp2_with fail
    (with_reducible refine (l91Name_c (hr1.alloc (.cells #[] 3)) (by omega)).mono ?_); rintro e w2 ⟨s, rfl, hsz, hr2, hd2⟩
    go_wp2_with fail
    (with_reducible refine (l91Port_c hr2 (by omega)).mono ?_); rintro e w3 ⟨p, rfl, hp0, hp1, hr3, hd3⟩
    have hB3 := hd3.blk (hd2.blk ((gr_alloc w1 (.cells #[] 3)).blk HB1.out) hne) hne
    have ho3 : IntO w1.heap.size 3 w3 (.slice (some ⟨w1.heap.size, 0, none⟩) 0 0) [] := ((IntO.mt w1).keptD hd2 hr1.lt).keptD hd3 hr1.lt
    have hD3 := ((hD1.alloc (.cells #[] 3)).trans hd2).trans hd3
    have hs3 := hD3.sz
    have HB3 := Lib.hid hB3
    clear hB3 hd2 hd3
    go_wp2_with fail
    (with_reducible refine (pick_c (hr3.alloc _) (by omega) _ (by omega) (by omega)).mono ?_); rintro e w4 ⟨d, rfl, hd0, hd1, hr4, hd4⟩
    have hB4 := hd4.blk ((gr_alloc w3 (.cells #[.int .i64 3, .slice (some ⟨w1.heap.size, 0, none⟩) 0 0, .string s, .int .i64 p] 65)).blk HB3.out) hne
    have hT4 := hd4.blk (heap_alloc_new w3 (.cells #[.int .i64 3, .slice (some ⟨w1.heap.size, 0, none⟩) 0 0, .string s, .int .i64 p] 65)) (by have := hr3.lt; omega)
    have ho4 := (ho3.kept (gr_alloc w3 (.cells #[.int .i64 3, .slice (some ⟨w1.heap.size, 0, none⟩) 0 0, .string s, .int .i64 p] 65))).keptD hd4 hr1.lt
    have hD4 := (hD3.alloc (.cells #[.int .i64 3, .slice (some ⟨w1.heap.size, 0, none⟩) 0 0, .string s, .int .i64 p] 65)).trans hd4
    have hb4 : IntB w1.heap.size w3.heap.size 3 w4 (.slice (some ⟨w1.heap.size, 0, none⟩) 0 0) [] := OwnB.keptD (IntB.kept ho3.b (gr_alloc w3 (.cells #[.int .i64 3, .slice (some ⟨w1.heap.size, 0, none⟩) 0 0, .string s, .int .i64 p] 65))) hd4 hr1.lt
    have HB4 := Lib.hid hB4
    have HT4 := Lib.hid hT4
    have hs4 : w.heap.size < w3.heap.size := by have := hD3.sz; have := hr3.lt; have h2 := ho3.blk w1.heap.size rfl; omega
    clear hB4 hT4 hd4 ho3
    by_cases d0 : d = 0
    · subst d0
      go_wp2_with fail
      (with_reducible refine (pick_c hr4 (by omega) _ (by omega) (by omega)).mono ?_); rintro e w5 ⟨k, rfl, hk0, hk1, hr5, hd5⟩
      have hB5 := hd5.blk HB4.out hne
      have hT5 := hd5.blk HT4.out (by have := hr3.lt; omega)
      have ho5 := ho4.keptD hd5 hr1.lt
      have hD5 := hD4.trans hd5
      have x0 := blk_cell hB5 (j := 0) rfl
      have x1 := blk_cell hB5 (j := 1) rfl
      have x2 := blk_cell hB5 (j := 2) rfl
      have x3 := blk_cell hB5 (j := 3) rfl
      have f0 := blk_frozen hB5 0
      have f1 := blk_frozen hB5 1
      have f2 := blk_frozen hB5 2
      have f3 := blk_frozen hB5 3
      have t0 := blk_cell hT5 (j := 0) rfl
      have t1 := blk_cell hT5 (j := 1) rfl
      have t2 := blk_cell hT5 (j := 2) rfl
      have t3 := blk_cell hT5 (j := 3) rfl
      have e0 := blk_frozen hT5 0
      have n3 : ¬ w.heap.size = w3.heap.size := by omega
      have n3' : ¬ w3.heap.size = w.heap.size := by omega
      have hB6 : (w5.setCell ⟨w3.heap.size, 0, none⟩ (.int .i64 k)).heap[w.heap.size]? = _ := (Below.heap_setCell _ _ _ _ n3).trans hB5
      have HB6 := Lib.hid hB6
      have d6 : D w3.heap.size w5 (w5.setCell ⟨w3.heap.size, 0, none⟩ (.int .i64 k)) := D.set (D.refl _ _) 0 _
      have g6 : Below w3.heap.size w5 (w5.setCell ⟨w3.heap.size, 0, none⟩ (.int .i64 k)) := Below.setCell (p := ⟨w3.heap.size, 0, none⟩) (Below.refl w3.heap.size w5) (Nat.le_refl _) _
      have ho6 : IntO w1.heap.size 3 (w5.setCell ⟨w3.heap.size, 0, none⟩ (.int .i64 k)) (.slice (some ⟨w1.heap.size, 0, none⟩) 0 0) [] := IntB.o (IntB.chg (OwnB.keptD hb4 hd5 hr1.lt) (Chg.set (Chg.refl w3.heap.size (w3.heap.size + 1) w5) (by simp) (by simp) _) (.inl (Nat.le_refl _)))
      have hr6 := hr5.keptB g6 (by have := hr3.lt; omega)
      have hD6 : D g w _ := hD5.thenB (g6.mono (by omega))
      clear hB5 hT5 hB6 hd5 ho5 hD5 hr5 d6 g6
      go_wp2
      change bodyPost _ _ _ _ _ (put4 (w5.setCell ⟨w3.heap.size, 0, none⟩ (.int .i64 k)) w.heap.size (.int .i64 k) (.slice (some ⟨w1.heap.size, 0, none⟩) 0 0) (.string s) (.int .i64 p))
      have hW := put4_blk HB6.out (.int .i64 k) (.slice (some ⟨w1.heap.size, 0, none⟩) 0 0) (.string s) (.int .i64 p)
      have gW := put4_below (w5.setCell ⟨w3.heap.size, 0, none⟩ (.int .i64 k)) w.heap.size (.int .i64 k) (.slice (some ⟨w1.heap.size, 0, none⟩) 0 0) (.string s) (.int .i64 p)
      have dW := put4_D (w5.setCell ⟨w3.heap.size, 0, none⟩ (.int .i64 k)) w.heap.size (.int .i64 k) (.slice (some ⟨w1.heap.size, 0, none⟩) 0 0) (.string s) (.int .i64 p)
      generalize put4 (w5.setCell ⟨w3.heap.size, 0, none⟩ (.int .i64 k)) w.heap.size (.int .i64 k) (.slice (some ⟨w1.heap.size, 0, none⟩) 0 0) (.string s) (.int .i64 p) = W at *
      have y0 := blk_cell hW (j := 0) rfl
      have y1 := blk_cell hW (j := 1) rfl
      have y2 := blk_cell hW (j := 2) rfl
      have y3 := blk_cell hW (j := 3) rfl
      exact bodyPost_ret (v := .agg #[.int .i64 k, .slice (some ⟨w1.heap.size, 0, none⟩) 0 0, .string s, .int .i64 p]) (by simp [results, Tryz.results142, go_sem, y0, y1, y2, y3]) rfl ⟨_, _, _, _, _, rfl, by simp, hsz, hp0, hp1, (ho6.keptD dW hs1).mono (by omega), (hr6.keptB gW hlt).more (by omega), hD6.thenB gW⟩
    · have d0' : (d == 0) = false := beq_eq_false_iff_ne.2 d0
      clear d0
      have x0 := blk_cell HB4.out (j := 0) rfl
      have x1 := blk_cell HB4.out (j := 1) rfl
      have x2 := blk_cell HB4.out (j := 2) rfl
      have x3 := blk_cell HB4.out (j := 3) rfl
      have f0 := blk_frozen HB4.out 0
      have f1 := blk_frozen HB4.out 1
      have f2 := blk_frozen HB4.out 2
      have f3 := blk_frozen HB4.out 3
      have t0 := blk_cell HT4.out (j := 0) rfl
      have t1 := blk_cell HT4.out (j := 1) rfl
      have t2 := blk_cell HT4.out (j := 2) rfl
      have t3 := blk_cell HT4.out (j := 3) rfl
      go_wp2
      change bodyPost _ _ _ _ _ (put4 w4 w.heap.size (.int .i64 3) (.slice (some ⟨w1.heap.size, 0, none⟩) 0 0) (.string s) (.int .i64 p))
      have hW := put4_blk HB4.out (.int .i64 3) (.slice (some ⟨w1.heap.size, 0, none⟩) 0 0) (.string s) (.int .i64 p)
      have gW := put4_below w4 w.heap.size (.int .i64 3) (.slice (some ⟨w1.heap.size, 0, none⟩) 0 0) (.string s) (.int .i64 p)
      have dW := put4_D w4 w.heap.size (.int .i64 3) (.slice (some ⟨w1.heap.size, 0, none⟩) 0 0) (.string s) (.int .i64 p)
      generalize put4 w4 w.heap.size (.int .i64 3) (.slice (some ⟨w1.heap.size, 0, none⟩) 0 0) (.string s) (.int .i64 p) = W at *
      have y0 := blk_cell hW (j := 0) rfl
      have y1 := blk_cell hW (j := 1) rfl
      have y2 := blk_cell hW (j := 2) rfl
      have y3 := blk_cell hW (j := 3) rfl
      exact bodyPost_ret (v := .agg #[.int .i64 3, .slice (some ⟨w1.heap.size, 0, none⟩) 0 0, .string s, .int .i64 p]) (by simp [results, Tryz.results142, go_sem, y0, y1, y2, y3]) rfl ⟨_, _, _, _, _, rfl, by simp, hsz, hp0, hp1, (ho4.keptD dW hs1).mono (by omega), (hr4.keptB gW hlt).more (by omega), hD4.thenB gW⟩
end Go.Proofs.YtpdjibfcbjknhaaGreatDoor
