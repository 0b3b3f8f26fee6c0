/- laws.sameFrames, eqIntSS, markIntSS, heldIntSS. -/
import Derived.Test.YtncnnfmfpilonaaGreatDoorFrm
import Derived.Test.YtncnnfmfpilonaaGreatDoorGH
namespace Go.Proofs.YtncnnfmfpilonaaGreatDoor
open Go.RowKit
set_option maxHeartbeats 1000000 in
theorem sameFrames_c {w : World} {v u : Value} {fs : List (List Int)} (h : IntSS w v fs) (hu : IntSS w u fs) :
    Calls Tryz.prog 43 #[v, u] w fun e w' => e = .returned (.bool true) ∧ Gr w w' := by
  obtain ⟨p, c, rfl, _, _⟩ := h.form
  obtain ⟨q, d, rfl, _, _⟩ := hu.form
  go_enter Tryz.func43, Tryz.ntmps43
  go_wp2_with fail
  go_loopw [5] (fun i wr => ∃ k : Nat, k ≤ fs.length ∧ i = .int .i64 k ∧ Gr w wr) (fun i _ => fs.length - (intOf i).toNat)
  case atStart => exact ⟨0, Nat.zero_le _, rfl, Gr.refl _⟩
  case round =>
    obtain ⟨k, hk, rfl, hgr⟩ := hrel
    by_cases hlt : k < fs.length
    · obtain ⟨a, qa, ca, hixa, ha1, hra⟩ := (h.kept hgr).ix hlt
      obtain ⟨b, qb, cb, hixb, hb1, hrb⟩ := (hu.kept hgr).ix hlt
      go_wp2_with fail
      go_region_held3 (fun w' => w'.cell? a = some (.slice qa (nthL fs k).length ca) ∧ w'.cell? b = some (.slice qb (nthL fs k).length cb)) (first | (exact ⟨g1.cell ha1, g1.cell hb1⟩) | go_keep) (first | (go_at_call 41; (with_reducible refine (same_c (hra.kept ((Gr.refl _).drew)) (hrb.kept ((Gr.refl _).drew))).mono ?_); rintro e w1 ⟨rfl, g1'⟩; have g1 : Gr wr w1 := g1'.undrew))
      go_wp2
      go_roundw
      case rel => exact ⟨k+1, by omega, by go_num, hgr.trans g1⟩
      case measure => simp [intOf]; omega
    · go_wp2
      go_ret
      exact ⟨rfl, hgr⟩
set_option maxHeartbeats 1000000 in
theorem eqIntSS_c {w : World} {v u : Value} {fs : List (List Int)} (h : IntSS w v fs) (hu : IntSS w u fs) :
    Calls Tryz.prog 35 #[v, u] w fun e w' => e = .returned (.bool true) ∧ Gr w w' := by
  obtain ⟨p, c, rfl, _, _⟩ := h.form
  obtain ⟨q, d, rfl, _, _⟩ := hu.form
  go_enter Tryz.func35, Tryz.ntmps35
  go_wp2_with fail
  go_loopw [5] (fun i wr => ∃ k : Nat, k ≤ fs.length ∧ i = .int .i64 k ∧ Gr w wr) (fun i _ => fs.length - (intOf i).toNat)
  case atStart => exact ⟨0, Nat.zero_le _, rfl, Gr.refl _⟩
  case round =>
    obtain ⟨k, hk, rfl, hgr⟩ := hrel
    by_cases hlt : k < fs.length
    · obtain ⟨a, qa, ca, hixa, ha1, hra⟩ := (h.kept hgr).ix hlt
      obtain ⟨b, qb, cb, hixb, hb1, hrb⟩ := (hu.kept hgr).ix hlt
      go_wp2_with fail
      go_region_held3 (fun w' => w'.cell? a = some (.slice qa (nthL fs k).length ca) ∧ w'.cell? b = some (.slice qb (nthL fs k).length cb)) (first | (exact ⟨g1.cell ha1, g1.cell hb1⟩) | go_keep) (first | (go_at_call 28; (with_reducible refine (eqI_same (hra.kept ((Gr.refl _).drew)) (hrb.kept ((Gr.refl _).drew))).mono ?_); rintro e w1 ⟨rfl, g1'⟩; have g1 : Gr wr w1 := g1'.undrew))
      go_wp2
      go_roundw
      case rel => exact ⟨k+1, by omega, by go_num, hgr.trans g1⟩
      case measure => simp [intOf]; omega
    · go_wp2
      go_ret
      exact ⟨rfl, hgr⟩
/-- How many numbers the first rows hold. -/
def cntF : List (List Int) → Nat
  | [] => 0
  | t :: ts => t.length + cntF ts
theorem cntF_app (xs ys : List (List Int)) : cntF (xs ++ ys) = cntF xs + cntF ys := by
  induction xs with
  | nil => simp [cntF]
  | cons x xs ih => simp [cntF, ih]; omega
theorem cntF_step {fs : List (List Int)} {k : Nat} (h : k < fs.length) : cntF (fs.take (k+1)) = cntF (fs.take k) + (nthL fs k).length := by
  rw [List.take_succ_eq_append_getElem h, cntF_app, nthL_eq h]; simp [cntF]
theorem cntF_le {fs : List (List Int)} (k : Nat) : cntF (fs.take k) ≤ cntF fs := by
  have := cntF_app (fs.take k) (fs.drop k)
  rw [List.take_append_drop] at this
  omega
/-- Row k, marked. -/
def fmarkAt (k0 : Nat) (fs : List (List Int)) (k : Nat) : List Int := upFrom ((k0 + cntF (fs.take k) : Nat) : Int) (nthL fs k).length
def fmarks (k0 : Nat) (fs : List (List Int)) : List (List Int) := (List.range fs.length).map (fmarkAt k0 fs)
theorem fmarks_len (k0 : Nat) (fs : List (List Int)) : (fmarks k0 fs).length = fs.length := by simp [fmarks]
theorem fmarks_at {k0 : Nat} {fs : List (List Int)} {k : Nat} (h : k < fs.length) : nthL (fmarks k0 fs) k = fmarkAt k0 fs k := by
  rw [nthL_eq (by rw [fmarks_len]; exact h)]; simp [fmarks]
theorem heldIntSS_c {w : World} {v : Value} {fs : List (List Int)} (k0 : Nat) (h : IntSS w v (fmarks k0 fs)) (hk0 : k0 + cntF fs ≤ 100000000) (ki : Int) (hki : ki = (k0 : Int)) :
    Calls Tryz.prog 37 #[v, .int .i64 ki] w fun e w' => e = .returned (.int .i64 ((k0 + cntF fs : Nat) : Int)) ∧ w = w' := by
  subst hki
  have HU := Lib.hid (fun k (hk : k < fs.length) => fmarks_at (k0 := k0) hk)
  have HM := Lib.hid (fmarks_len k0 fs)
  generalize fmarks k0 fs = us at *
  obtain ⟨p, c, rfl, _, _⟩ := h.form
  have h0 : (k0 : Int) ≤ 100000000 := by omega
  go_enter Tryz.func37, Tryz.ntmps37
  go_wp2_with fail
  go_loop [1, 5] (fun n i => ∃ (k N : Nat), k ≤ us.length ∧ i = .int .i64 k ∧ n = .int .i64 (N : Int) ∧ Hid (N = k0 + cntF (fs.take k))) (fun _ i => us.length - (intOf i).toNat)
  case atStart => exact ⟨0, k0, Nat.zero_le _, rfl, rfl, by simp [Hid, cntF]⟩
  case round =>
    obtain ⟨k, N, hk, rfl, rfl, HN⟩ := hrel
    have hN : N ≤ 100000000 := by have := HN.out; have := cntF_le (fs := fs) k; omega
    by_cases hlt : k < us.length
    · have hlt' : k < fs.length := by have := HM.out; omega
      obtain ⟨a, q, cq, hix, hca, hrow⟩ := h.ix hlt
      have he := HU.out k hlt'
      have hst := cntF_step hlt'
      have hcl := cntF_le (fs := fs) (k+1)
      unfold fmarkAt at he
      rw [← HN.out] at he
      rw [he] at hca hrow
      generalize (nthL fs k).length = L at *
      have hNe : N + L = k0 + cntF (fs.take (k+1)) := by have := HN.out; omega
      have HNE := Lib.hid hNe
      have hL : N + L ≤ 100000000 := by omega
      have hul := upFrom_length (N : Int) L
      rw [hul] at hca hrow
      clear he hst hcl hNe hul
      go_wp2_with fail
      (with_reducible refine (heldIntS_c (N : Int) L hrow (by omega) (by omega) (by omega)).mono ?_); rintro e w2 ⟨rfl, rfl⟩
      go_wp2
      go_round
      case rel => exact ⟨k+1, N + L, by omega, by go_num, by simp, HNE.out⟩
      case measure => simp [intOf]; omega
    · have e : N = k0 + cntF fs := by have := HN.out; have h2 := HM.out; rwa [List.take_of_length_le (by omega)] at this
      subst e
      go_wp2
      go_ret
      exact ⟨rfl, rfl⟩
/-- The place of a row that is owned. -/
theorem FrO.place {B T : Nat} {w : World} {v : Value} {fs : List (List Int)} (h : FrO B T w v fs) {k : Nat} (hk : k < fs.length) :
    ∃ (a : Addr) (d : Value) (b : Nat), (∀ w1, (Instr.indexAt 45 v (.int .i64 (k : Int))).run Tryz.prog w1 = .ok (.pointer (some a)) w1) ∧ w.cell? a = some d ∧ IntB b (b + 1) 3 w d (nthL fs k) ∧
      (∀ w' ys, ys.length = (nthL fs k).length → Chg b (b + 1) w w' → IntB b (b + 1) 3 w' d ys → FrO B T w' v (fs.set k ys) ∧ Chg B T w w') := by
  obtain ⟨i, hi, _, hs, _⟩ := infoII
  obtain ⟨ds, h0, h1, h2, h3, h4⟩ := h
  obtain ⟨a, f1, f2, f3, f4, f5, f6, f7⟩ := Own.at h1.1 uII hi hs hk
  have hbk : ∃ b, b ≠ a.block ∧ IntB b (b + 1) 3 w (nthV ds k) (nthL fs k) ∧ (∀ w', Chg b (b + 1) w w' → Chg B T w w') ∧ (∀ j, j < fs.length → j ≠ k → (nthV ds j).ownBlock ≠ some b) ∧ (∀ w' ys, ys.length = (nthL fs k).length → IntB b (b + 1) 3 w' (nthV ds k) ys → IntB B T 3 w' (nthV ds k) ys) := by
    cases hv : (nthV ds k).ownBlock with
    | some b =>
      obtain ⟨q1, q2, q3⟩ := OwnB.narrow (h2 k hk) hv
      refine ⟨b, fun e => h3 k hk b hv (by rw [f7, e]), q3, fun w' hc => hc.wide q1 (by omega), fun j hj hne hb => ?_, fun w' ys _ hy => OwnB.wide hy q1 (by omega)⟩
      rcases Nat.lt_or_gt_of_ne hne with hl | hl
      · exact h4 j k hl hk b hb hv
      · exact h4 k j hl hj b hv hb
    | none =>
      have hd := h2 k hk
      obtain ⟨⟨e1, e2⟩, _⟩ := hd
      rcases e2 with ⟨e2, e3⟩ | ⟨g', cap, cur, e2, _⟩
      · rw [e2]
        have hx : nthL fs k = [] := List.eq_nil_of_length_eq_zero e3
        rw [hx]
        refine ⟨w.heap.size, by omega, ⟨World.ownsRow_nil w _ _ 1, by intro k hk; cases hk⟩, fun w' hc => ⟨hc.os, hc.tape, hc.output, hc.size, fun i hi => ?_⟩, fun j hj _ hb => ?_, fun w' ys hl _ => ?_⟩
        · by_cases h : i = w.heap.size
          · subst h
            rw [Array.getElem?_eq_none (by rw [hc.size]; exact Nat.le_refl _), Array.getElem?_eq_none (Nat.le_refl _)]
          · exact hc.block i (by omega)
        · have := ((h2 j hj).1.blk _ hb).2
          omega
        · have : ys = [] := List.eq_nil_of_length_eq_zero (by simpa using hl)
          subst this
          exact ⟨World.ownsRow_nil w' _ _ 1, by intro k hk; cases hk⟩
      · rw [e2] at hv; cases hv
  obtain ⟨b, hbg, hbI, hbC, hbN, hbW⟩ := hbk
  refine ⟨a, nthV ds k, b, f1, ?_, hbI, fun w' ys hyl hc hy => ⟨⟨ds, by simp [h0], ?_, ?_, ?_, ?_⟩, hbC w' hc⟩⟩
  · have := f4 0 (nthV ds k) (by simp [nthV, h0, hk])
    rwa [addr_add_zero] at this
  · rw [List.length_set]
    exact h1.apart hc (by rw [f7]; intro e; cases e; exact hbg rfl)
  · intro j hj
    rw [List.length_set] at hj
    rw [nthL_set hk]
    by_cases e : j = k
    · subst e; simp only [if_true]; exact hbW w' ys hyl hy
    · rw [if_neg e]; exact OwnB.apart (h2 j hj) hc (hbN j hj e)
  · intro j hj; rw [List.length_set] at hj; exact h3 j hj
  · intro j j' hjj hj'; rw [List.length_set] at hj'; exact h4 j j' hjj hj'
def HalfF (k0 : Nat) (fs us : List (List Int)) (k : Nat) : Prop := us.length = fs.length ∧ (∀ j, j < k → nthL us j = fmarkAt k0 fs j) ∧ (∀ j, k ≤ j → nthL us j = nthL fs j)
theorem HalfF.done {k0 : Nat} {fs us : List (List Int)} {k : Nat} (h : HalfF k0 fs us k) (hk : ¬ k < fs.length) : us = fmarks k0 fs := by
  apply List.ext_getElem
  · rw [h.1, fmarks_len]
  · intro i h1 h2
    have hi : i < fs.length := by rw [← h.1]; exact h1
    have := h.2.1 i (by omega)
    rw [nthL_eq h1] at this
    rw [this, ← fmarks_at hi, nthL_eq h2]
theorem HalfF.next {k0 : Nat} {fs us : List (List Int)} {k : Nat} (h : HalfF k0 fs us k) (hk : k < fs.length) {ys : List Int} (he : ys = fmarkAt k0 fs k) : HalfF k0 fs (us.set k ys) (k + 1) := by
  have hl := h.1
  refine ⟨by rw [List.length_set, h.1], fun j hj => ?_, fun j hj => ?_⟩
  · rw [nthL_set (by omega)]
    by_cases e : j = k
    · subst e; simp [he]
    · rw [if_neg e]; exact h.2.1 j (by omega)
  · rw [nthL_set (by omega), if_neg (by omega)]; exact h.2.2 j (by omega)
set_option maxHeartbeats 1000000 in
theorem markIntSS_c {B T : Nat} {w : World} {v : Value} {fs : List (List Int)} (h : FrO B T w v fs) (k0 : Nat) (ki : Int) (hki : ki = (k0 : Int)) (hk0 : k0 + cntF fs ≤ 100000000) (hfl : fs.length ≤ 100000000) :
    Calls Tryz.prog 36 #[v, .int .i64 ki] w fun e w' => e = .returned (.int .i64 ((k0 + cntF fs : Nat) : Int)) ∧ FrO B T w' v (fmarks k0 fs) ∧ Chg B T w w' := by
  subst hki
  obtain ⟨p, cap, rfl⟩ := h.form
  have h0 : (k0 : Int) ≤ 100000000 := by omega
  go_enter Tryz.func36, Tryz.ntmps36
  go_wp2_with fail
  go_loopw [1, 5] (fun n i wr => ∃ (k N : Nat) (us : List (List Int)), k ≤ fs.length ∧ i = .int .i64 k ∧ n = .int .i64 (N : Int) ∧ Hid (N = k0 + cntF (fs.take k)) ∧ Hid (HalfF k0 fs us k) ∧ FrO B T wr (.slice p fs.length cap) us ∧ Chg B T w wr) (fun _ i _ => fs.length - (intOf i).toNat)
  case atStart => exact ⟨0, k0, fs, Nat.zero_le _, rfl, rfl, by simp [Hid, cntF], ⟨rfl, by simp, fun _ _ => rfl⟩, h, Chg.refl _ _ _⟩
  case round =>
    obtain ⟨k, N, us, hk, rfl, rfl, HN, HH, ho, hch⟩ := hrel
    have hN : N ≤ 100000000 := by have := HN.out; have := cntF_le (fs := fs) k; omega
    by_cases hlt : k < fs.length
    · have hul : k < us.length := by have := HH.out.1; omega
      have hst := cntF_step hlt
      have hcl := cntF_le (fs := fs) (k+1)
      have hu := HH.out.2.2 k (Nat.le_refl _)
      obtain ⟨a, d, b, hix, hc0, hI, hdat⟩ := ho.place hul
      rw [hu] at hI hdat
      obtain ⟨q, cq, rfl⟩ := hI.o.len
      have hmk : upFrom (N : Int) (nthL fs k).length = fmarkAt k0 fs k := by unfold fmarkAt; rw [← HN.out]
      have HMK := Lib.hid (HH.out.next hlt hmk)
      generalize nthL fs k = xs at *
      have hNe : N + xs.length = k0 + cntF (fs.take (k+1)) := by have := HN.out; omega
      have HNE := Lib.hid hNe
      have hL : N + xs.length ≤ 100000000 := by omega
      clear hmk hst hcl hu hNe
      go_wp2_with fail
      (with_reducible refine (markIntS_c hI (N : Int) (by omega) (by omega) (by omega)).mono ?_); rintro e w2 ⟨rfl, hI2, hc2⟩
      obtain ⟨hTO2, hCh2⟩ := hdat w2 _ (upFrom_length _ _) hc2 hI2
      have hCh3 := hch.trans hCh2
      clear hdat hc2 hI2 hI hc0
      go_wp2
      go_roundw
      case measure => simp [intOf]; omega
      case rel => exact ⟨k+1, N + xs.length, _, by omega, by go_num, by simp, HNE.out, HMK.out, hTO2, hCh3⟩
    · have e : N = k0 + cntF fs := by have := HN.out; rwa [List.take_of_length_le (by omega)] at this
      have e2 := HH.out.done hlt
      subst e e2
      go_wp2
      go_ret
      exact ⟨rfl, ho, hch⟩
end Go.Proofs.YtncnnfmfpilonaaGreatDoor
