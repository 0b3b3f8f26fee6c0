/- The walks of laws.FnFeedPut, FnFeedPutTwice, FnSniff, FnSniffBegin, FnSniffFirst, FnSniffOn. -/
import Derived.Test.YtikkjcfadbhemaaDoorGJ
namespace Go.Proofs.YtikkjcfadbhemaaDoor
open Go.RowKit
theorem isBegin_t {w : World} {v u : Value} {xs ys zs : List Int} (h : IntS w v zs) (hu : IntS w u xs) (hz : Hid (zs = xs ++ ys)) :
    Calls Tryd.prog 42 #[v, u] w fun e w' => e = .returned (.bool true) ∧ Gr w w' := by
  have hl : xs.length ≤ zs.length := by rw [hz.out, List.length_append]; omega
  obtain ⟨v', hsl, hv'⟩ := h.pre hl
  have e : zs.take xs.length = xs := by rw [hz.out]; simp
  rw [e] at hv'
  obtain ⟨p, cap, rfl, hl1, hl2⟩ := h.form
  obtain ⟨q, caq, rfl, hm1, hm2⟩ := hu.form
  have hle' : (xs.length : Int) ≤ zs.length := by omega
  clear e hz
  go_enter Tryd.func42, Tryd.ntmps42
  go_wp2_with fail
  (with_reducible refine (same_c hv' hu).mono ?_); rintro e w1 ⟨rfl, g1⟩
  go_wp2
  go_ret
  exact ⟨rfl, g1⟩
theorem feedPut_ok {xs ys zs : List Int} (h : feedPut xs ys = (zs, true)) : zs = xs ++ ys ∧ bv (xs ++ ys) = true := by
  unfold feedPut at h
  cases hb : bv (xs ++ ys)
  · rw [hb] at h; simp at h
  · rw [hb] at h; simp at h; exact ⟨h.symm, rfl⟩
theorem feedPut_mk {xs ys : List Int} (h : bv (xs ++ ys) = true) : feedPut xs ys = (xs ++ ys, true) := by unfold feedPut; rw [h]; rfl
theorem implBV_t {w : World} {v : Value} {xs : List Int} (h : IntS w v xs) (hb : Hid (bv xs = true)) :
    Calls Tryd.prog 67 #[v] w fun e w' => e = .returned (.bool true) ∧ w = w' := by
  have := implBytesValid_c h; rwa [hb.out] at this
end Go.Proofs.YtikkjcfadbhemaaDoor
