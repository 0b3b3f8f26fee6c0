/- Draws of quads and addresses. -/
import Derived.Test.YtknhfogblfogaaaDrawC
import Derived.Test.YtknhfogblfogaaaAdr
import Derived.Deep.RegionHeld3
import Derived.Deep.RegionWith
import Derived.Deep.DeepCutAuto
namespace Go.Proofs.Ytknhfogblfogaaa
open Go.RowKit
/-- A block that is known whole. -/
theorem blk_cell {w : World} {b : Nat} {cs : Array Value} {t : TypeId} (h : w.heap[b]? = some (.cells cs t (0, 0))) {j : Nat} {v : Value} (hj : cs[j]? = some v) : w.cell? ⟨b, j, none⟩ = some v := by
  simp [World.cell?, h, hj]
theorem blk_frozen {w : World} {b : Nat} {cs : Array Value} {t : TypeId} (h : w.heap[b]? = some (.cells cs t (0, 0))) (j : Nat) : w.frozen? ⟨b, j, none⟩ = false := by
  simp [World.frozen?, h]
theorem D.blk {g : Nat} {a b : World} (h : D g a b) {k : Nat} {o : Obj} (hk : a.heap[k]? = some o) (hne : k ≠ g) : b.heap[k]? = some o := by
  rw [h.ofBelow k (Array.getElem?_eq_some_iff.1 hk).1 hne]; exact hk
theorem Gr.blk {a b : World} (h : Gr a b) {k : Nat} {o : Obj} (hk : a.heap[k]? = some o) : b.heap[k]? = some o := by
  rw [Below.block h k (Array.getElem?_eq_some_iff.1 hk).1]; exact hk
theorem D.cellEq {g : Nat} {a b : World} (h : D g a b) : ∀ k o, k < a.heap.size → ¬ k = g → b.cell? ⟨k, o, none⟩ = a.cell? ⟨k, o, none⟩ := by
  intro k o hk hne
  simp only [World.cell?]
  rw [h.ofBelow k hk hne]
theorem RdAt.drew {w : World} {g m : Nat} (h : RdAt w g m) : RdAt w.drew g m := h.kept ((Gr.refl w).drew)
/-- One of five numbers. -/
def five (x k : Int) : Int := nth [0, 1, 10, 255, x] k.toNat
theorem five_cell (w : World) (x k : Int) (h0 : 0 ≤ k) (h1 : k < 5) : (w.alloc (.cells #[.int .i64 0, .int .i64 1, .int .i64 10, .int .i64 255, .int .i64 x] 3)).cell? ⟨w.heap.size, k.toNat, none⟩ = some (.int .i64 (five x k)) := by
  have h5 : k = 0 ∨ k = 1 ∨ k = 2 ∨ k = 3 ∨ k = 4 := by omega
  rcases h5 with rfl | rfl | rfl | rfl | rfl <;> simp [five, nth]
theorem IntO.four {w : World} {x y z u : Int} {n : Nat} (hn : n = w.heap.size) : IntO w.heap.size 3 (w.alloc (.cells #[.int .i64 x, .int .i64 y, .int .i64 z, .int .i64 u] 3)) (.slice (some ⟨n, 0, none⟩) 4 4) [x, y, z, u] := by
  subst hn; exact Own.lit w #[.int .i64 x, .int .i64 y, .int .i64 z, .int .i64 u] 4 (Nat.le_refl _) (by decide) rfl
def QuadD (g m : Nat) (w : World) (v : Value) (w' : World) : Prop := ∃ xs : List Int, xs.length = 4 ∧ IntO w.heap.size 3 w' v xs ∧ RdAt w' g (m + 5) ∧ D g w w'
theorem QuadD.mk {g m : Nat} {w w5 : World} {x y z u : Int} {n : Nat} (hr : RdAt w5 g (m + 5)) (hD : D g w w5) (hn : n = w5.heap.size) : QuadD g m w (.slice (some ⟨n, 0, none⟩) 4 4) (w5.alloc (.cells #[.int .i64 x, .int .i64 y, .int .i64 z, .int .i64 u] 3)) :=
  ⟨_, rfl, (IntO.four hn).mono hD.sz, hr.alloc _, hD.alloc _⟩
set_option maxHeartbeats 4000000 in
theorem l91Quad_c {w : World} {g m : Nat} (h : RdAt w g m) (hm : m ≤ 50000) :
    Calls Try.prog 87 #[.pointer (some ⟨g, 0, none⟩)] w (DrewI 4 g m w) := by
  have hlt := h.lt
  have hfc := five_cell
  go_enter Try.func87, Try.ntmps87
  go_upto_region 1 with fail
  go_cut [3] (fun v wx => QuadD g m w v wx)
  case first =>
    go_region_with (first
      | (go_at_call 48; (with_reducible refine (pick_c h.drew (by omega) _ (by omega) (by omega)).mono ?_); rintro e w1 ⟨k1, rfl, hk10, hk11, hr1, hd1⟩; have hc1 := hd1.cellEq; have hs1 := hr1.lt; have hn1 : ¬ w1.heap.size = g := (by omega); have hD1 : D g w w1 := (D.ofGr ((Gr.refl w).drew)).trans hd1)
      | (go_at_call 48; (with_reducible refine (pick_c hr1 (by omega) _ (by omega) (by omega)).mono ?_); rintro e w2 ⟨k2, rfl, hk20, hk21, hr2, hd2⟩; have hc2 := hd2.cellEq; have hs2 := hr2.lt; have hn2 : ¬ w2.heap.size = g := (by omega); have hD2 : D g w w2 := hD1.trans hd2; (try have hz12 : w1.heap.size < w2.heap.size := (by have := hd2.sz; (try simp at this); omega)))
      | (go_at_call 48; (with_reducible refine (pick_c (hr1.alloc _) (by omega) _ (by omega) (by omega)).mono ?_); rintro e w2 ⟨k2, rfl, hk20, hk21, hr2, hd2⟩; have hc2 := hd2.cellEq; have hs2 := hr2.lt; have hn2 : ¬ w2.heap.size = g := (by omega); have hD2 : D g w w2 := (hD1.alloc _).trans hd2; (try have hz12 : w1.heap.size < w2.heap.size := (by have := hd2.sz; (try simp at this); omega)))
      | (go_at_call 48; (with_reducible refine (pick_c hr2 (by omega) _ (by omega) (by omega)).mono ?_); rintro e w3 ⟨k3, rfl, hk30, hk31, hr3, hd3⟩; have hc3 := hd3.cellEq; have hs3 := hr3.lt; have hn3 : ¬ w3.heap.size = g := (by omega); have hD3 : D g w w3 := hD2.trans hd3; (try have hz13 : w1.heap.size < w3.heap.size := (by have := hd3.sz; (try simp at this); omega)); (try have hz23 : w2.heap.size < w3.heap.size := (by have := hd3.sz; (try simp at this); omega)))
      | (go_at_call 48; (with_reducible refine (pick_c (hr2.alloc _) (by omega) _ (by omega) (by omega)).mono ?_); rintro e w3 ⟨k3, rfl, hk30, hk31, hr3, hd3⟩; have hc3 := hd3.cellEq; have hs3 := hr3.lt; have hn3 : ¬ w3.heap.size = g := (by omega); have hD3 : D g w w3 := (hD2.alloc _).trans hd3; (try have hz13 : w1.heap.size < w3.heap.size := (by have := hd3.sz; (try simp at this); omega)); (try have hz23 : w2.heap.size < w3.heap.size := (by have := hd3.sz; (try simp at this); omega)))
      | (go_at_call 48; (with_reducible refine (pick_c hr3 (by omega) _ (by omega) (by omega)).mono ?_); rintro e w4 ⟨k4, rfl, hk40, hk41, hr4, hd4⟩; have hc4 := hd4.cellEq; have hs4 := hr4.lt; have hn4 : ¬ w4.heap.size = g := (by omega); have hD4 : D g w w4 := hD3.trans hd4; (try have hz14 : w1.heap.size < w4.heap.size := (by have := hd4.sz; (try simp at this); omega)); (try have hz24 : w2.heap.size < w4.heap.size := (by have := hd4.sz; (try simp at this); omega)); (try have hz34 : w3.heap.size < w4.heap.size := (by have := hd4.sz; (try simp at this); omega)))
      | (go_at_call 48; (with_reducible refine (pick_c (hr3.alloc _) (by omega) _ (by omega) (by omega)).mono ?_); rintro e w4 ⟨k4, rfl, hk40, hk41, hr4, hd4⟩; have hc4 := hd4.cellEq; have hs4 := hr4.lt; have hn4 : ¬ w4.heap.size = g := (by omega); have hD4 : D g w w4 := (hD3.alloc _).trans hd4; (try have hz14 : w1.heap.size < w4.heap.size := (by have := hd4.sz; (try simp at this); omega)); (try have hz24 : w2.heap.size < w4.heap.size := (by have := hd4.sz; (try simp at this); omega)); (try have hz34 : w3.heap.size < w4.heap.size := (by have := hd4.sz; (try simp at this); omega)))
      | (go_at_call 48; (with_reducible refine (pick_c hr4 (by omega) _ (by omega) (by omega)).mono ?_); rintro e w5 ⟨k5, rfl, hk50, hk51, hr5, hd5⟩; have hc5 := hd5.cellEq; have hs5 := hr5.lt; have hn5 : ¬ w5.heap.size = g := (by omega); have hD5 : D g w w5 := hD4.trans hd5; (try have hz15 : w1.heap.size < w5.heap.size := (by have := hd5.sz; (try simp at this); omega)); (try have hz25 : w2.heap.size < w5.heap.size := (by have := hd5.sz; (try simp at this); omega)); (try have hz35 : w3.heap.size < w5.heap.size := (by have := hd5.sz; (try simp at this); omega)); (try have hz45 : w4.heap.size < w5.heap.size := (by have := hd5.sz; (try simp at this); omega)))
      | (go_at_call 48; (with_reducible refine (pick_c (hr4.alloc _) (by omega) _ (by omega) (by omega)).mono ?_); rintro e w5 ⟨k5, rfl, hk50, hk51, hr5, hd5⟩; have hc5 := hd5.cellEq; have hs5 := hr5.lt; have hn5 : ¬ w5.heap.size = g := (by omega); have hD5 : D g w w5 := (hD4.alloc _).trans hd5; (try have hz15 : w1.heap.size < w5.heap.size := (by have := hd5.sz; (try simp at this); omega)); (try have hz25 : w2.heap.size < w5.heap.size := (by have := hd5.sz; (try simp at this); omega)); (try have hz35 : w3.heap.size < w5.heap.size := (by have := hd5.sz; (try simp at this); omega)); (try have hz45 : w4.heap.size < w5.heap.size := (by have := hd5.sz; (try simp at this); omega))))
    all_goals
      go_wp2_with fail
      go_meet
      first | exact QuadD.mk hr5 hD5 (by simp) | exact QuadD.mk (hr5.alloc _) (hD5.alloc _) (by simp)
  case rest =>
    obtain ⟨xs, hx, ho, hr, hD⟩ := hcut
    have hx4 := Lib.hid hx
    clear hx hfc
    go_wp2_with fail
    (with_reducible refine (pick_c hr (by omega) _ (by omega) (by omega)).mono ?_); rintro e w2 ⟨c, rfl, hc0, hc1, hr2, hd2⟩
    have ho2 := ho.keptD hd2 hlt
    have hD2 := hD.trans hd2
    clear ho hD hr hd2
    by_cases c0 : c = 0
    · subst c0
      go_wp2_with fail
      (with_reducible refine (pick_c hr2 (by omega) _ (by omega) (by omega)).mono ?_); rintro e w3 ⟨k, rfl, hk0, hk1, hr3, hd3⟩
      obtain ⟨k, rfl⟩ := Int.eq_ofNat_of_zero_le hk0
      have ho3 := ho2.keptD hd3 hlt
      have hD3 := hD2.trans hd3
      obtain ⟨a, hix, hb1, hb2, hca, hfa, hob, hset⟩ := ho3.ix (k := k) (by have := hx4.out; omega)
      have HOB := Lib.hid hob
      clear hob
      go_wp2
      go_ret
      exact ⟨_, _, rfl, by rw [List.length_set, hx4.out]; exact Nat.le_refl _, hset _, (hr3.keptB (Below.setCell (Below.refl _ _) hb1 _) hlt).more (by omega), hD3.thenB (Below.setCell (Below.refl _ _) hb1 _)⟩
    · by_cases c1 : c = 1
      · subst c1
        obtain ⟨v', hsl, ho3⟩ := ho2.preO (k := 3) (by have := hx4.out; omega)
        have hsl' : ∀ w1, (Instr.slice 22 _ none (some (.int .i64 3)) none).run Try.prog w1 = .ok v' w1 := hsl
        go_wp2
        go_ret
        exact ⟨_, _, rfl, by rw [List.length_take, hx4.out]; omega, ho3, hr2.more (by omega), hD2⟩
      · have e0 : (c == 0) = false := beq_eq_false_iff_ne.2 c0
        have e1 : (c == 1) = false := beq_eq_false_iff_ne.2 c1
        clear c0 c1
        go_wp2
        go_ret
        exact ⟨_, _, rfl, by rw [hx4.out]; omega, ho2, hr2.more (by omega), hD2⟩
end Go.Proofs.Ytknhfogblfogaaa
