/- The reader of bytes: one byte, a number; a new reader. -/
import Derived.Test.YtknhfogblfogaaaRdr
namespace Go.Proofs.Ytknhfogblfogaaa
open Go.RowKit
set_option maxHeartbeats 1000000 in
theorem byte_c {w : World} {g : Nat} {s : Rs} (h : RdrAt w g s) :
    Calls Try.prog 64 #[.pointer (some ⟨g, 0, none⟩)] w fun e w' => e = .returned (.int .i64 s.byte.1) ∧ RdrAt w' g s.byte.2 ∧ D g w w' := by
  go_enter Try.func64, Try.ntmps64
  go_wp2_with fail
  (with_reducible refine (take_c h 1 1 rfl (by omega)).mono ?_)
  rintro e w1 ⟨v1, rfl, ho1, hr1, hd1⟩
  have hl1 : (s.take 1).1.length = 1 := Rs.take_len 1
  obtain ⟨p, cap, hv, _, _⟩ := ho1.s.form
  subst hv
  rw [hl1]
  obtain ⟨a, hix, hca⟩ := ho1.s.ix0 (by omega)
  rw [hl1] at hix
  go_wp2
  go_ret
  exact ⟨rfl, hr1, hd1⟩
theorem numberR_c {w : World} {g : Nat} {s : Rs} (h : RdrAt w g s) (n : Nat) (ni : Int) (he : ni = (n : Int)) (hn : n ≤ 4) :
    Calls Try.prog 38 #[.pointer (some ⟨g, 0, none⟩), .int .i64 ni] w fun e w' => e = .returned (.int .i64 (s.number n).1) ∧ RdrAt w' g (s.number n).2 ∧ D g w w' := by
  subst he
  have hok := h.1
  go_enter Try.func38, Try.ntmps38
  go_wp2_with fail
  (with_reducible refine (take_c h n (n : Int) rfl (by omega)).mono ?_)
  rintro e w1 ⟨v1, rfl, ho1, hr1, hd1⟩
  go_wp2_with fail
  (with_reducible refine (number_c ho1.s (Rs.take_bytes hok n) (by rw [Rs.take_len]; omega)).mono ?_)
  rintro e w2 ⟨rfl, rfl⟩
  go_wp2
  go_ret
  exact ⟨rfl, hr1, hd1⟩
theorem newReader_c {w : World} {v : Value} {xs : List Int} (h : IntS w v xs) (hb : xs.length ≤ 1000000000) :
    Calls Try.prog 34 #[v] w fun e w' => ∃ g, e = .returned (.pointer (some ⟨g, 0, none⟩)) ∧ w.heap.size ≤ g ∧ RdrAt w' g ⟨xs, 0, !(bv xs)⟩ ∧ Gr w w' := by
  obtain ⟨p, cap, rfl, hl1, hl2⟩ := h.form
  go_enter Try.func34, Try.ntmps34
  go_wp2_with fail
  (with_reducible refine (implBytesValid_c h).mono ?_)
  rintro e w1 ⟨rfl, rfl⟩
  go_wp2
  go_ret
  refine ⟨_, rfl, Nat.le_refl _, ⟨⟨by simp, hb, fun hh => bv_bytes (by simpa using hh)⟩, w, _, (Gr.refl w).alloc _, Nat.le_refl _, h, ?_⟩, (Gr.refl w).alloc _⟩
  exact heap_alloc_new _ _
end Go.Proofs.Ytknhfogblfogaaa
