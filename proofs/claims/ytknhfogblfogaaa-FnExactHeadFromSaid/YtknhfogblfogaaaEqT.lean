/- laws.eqTag, laws.eqTagS, laws.heldTagS. -/
import Derived.Test.YtknhfogblfogaaaTagsH
import Derived.Test.YtknhfogblfogaaaExFeedPut
namespace Go.Proofs.Ytknhfogblfogaaa
open Go.RowKit
theorem eqTag_c {w : World} {v u : Value} {x : Int} {xs : List Int} (hv : IntS w v xs) (hu : IntS w u xs) :
    Calls Try.prog 41 #[.agg #[.int .i64 x, v], .agg #[.int .i64 x, u]] w fun e w' => e = .returned (.bool true) ∧ Gr w w' := by
  obtain ⟨p, c, rfl, _, _⟩ := hv.form
  obtain ⟨q, d, rfl, _, _⟩ := hu.form
  have hg := (gr_alloc w (.cells #[.int .i64 x, .slice p xs.length c] 60)).alloc (.cells #[.int .i64 x, .slice q xs.length d] 60)
  go_enter Try.func41, Try.ntmps41
  go_wp2_with fail
  (with_reducible refine (eqI_same (hv.kept hg) (hu.kept hg)).mono ?_); rintro e w1 ⟨rfl, g1⟩
  go_wp2
  go_ret
  exact ⟨rfl, hg.trans g1⟩
theorem eqTagS_c {w : World} {v u : Value} {ts : List Tag} (h : TagS w v ts) (hu : TagS w u ts) :
    Calls Try.prog 14 #[v, u] w fun e w' => e = .returned (.bool true) ∧ Gr w w' := by
  obtain ⟨p, c, rfl, _, _⟩ := h.form
  obtain ⟨q, d, rfl, _, _⟩ := hu.form
  go_enter Try.func14, Try.ntmps14
  go_wp2_with fail
  go_loopw [5] (fun i wr => ∃ k : Nat, k ≤ ts.length ∧ i = .int .i64 k ∧ Gr w wr) (fun i _ => ts.length - (intOf i).toNat)
  case atStart => exact ⟨0, Nat.zero_le _, rfl, Gr.refl _⟩
  case round =>
    obtain ⟨k, hk, rfl, hgr⟩ := hrel
    by_cases hlt : k < ts.length
    · obtain ⟨a, qa, ca, hixa, ha1, ha2, hra⟩ := (h.kept hgr).ix hlt
      obtain ⟨b, qb, cb, hixb, hb1, hb2, hrb⟩ := (hu.kept hgr).ix hlt
      go_wp2_with fail
      go_region_held3 (fun w' => w'.cell? a = some (.int .i64 (nthT ts k).1) ∧ w'.cell? ⟨a.block, a.off + 1, none⟩ = some (.slice qa (nthT ts k).2.length ca) ∧ w'.cell? b = some (.int .i64 (nthT ts k).1) ∧ w'.cell? ⟨b.block, b.off + 1, none⟩ = some (.slice qb (nthT ts k).2.length cb)) (first | (exact ⟨g1.cell ha1, g1.cell ha2, g1.cell hb1, g1.cell hb2⟩) | go_keep) (first | (go_at_call 41; (with_reducible refine (eqTag_c (hra.kept ((Gr.refl _).drew)) (hrb.kept ((Gr.refl _).drew))).mono ?_); rintro e w1 ⟨rfl, g1'⟩; have g1 : Gr wr w1 := g1'.undrew) | (go_at_call 41; (with_reducible refine (eqTag_c hra hrb).mono ?_); rintro e w1 ⟨rfl, g1⟩))
      go_wp2
      go_roundw
      case rel => exact ⟨k+1, by omega, by go_num, hgr.trans g1⟩
      case measure => simp [intOf]; omega
    · go_wp2
      go_ret
      exact ⟨rfl, hgr⟩
/-- How many numbers the first tags hold. -/
def cnt : List Tag → Nat
  | [] => 0
  | t :: ts => 1 + t.2.length + cnt ts
theorem cnt_app (xs ys : List Tag) : cnt (xs ++ ys) = cnt xs + cnt ys := by
  induction xs with
  | nil => simp [cnt]
  | cons x xs ih => simp [cnt, ih]; omega
theorem cnt_step {ts : List Tag} {k : Nat} (h : k < ts.length) : cnt (ts.take (k+1)) = cnt (ts.take k) + 1 + (nthT ts k).2.length := by
  rw [List.take_succ_eq_append_getElem h, cnt_app, nthT_eq h]; simp [cnt]; omega
theorem cnt_le {ts : List Tag} (k : Nat) : cnt (ts.take k) ≤ cnt ts := by
  have := cnt_app (ts.take k) (ts.drop k)
  rw [List.take_append_drop] at this
  omega
/-- Tag k, marked. -/
def markAt (k0 : Nat) (ts : List Tag) (k : Nat) : Tag := (((k0 + cnt (ts.take k) : Nat) : Int), upFrom ((k0 + cnt (ts.take k) : Nat) + 1) (nthT ts k).2.length)
def marks (k0 : Nat) (ts : List Tag) : List Tag := (List.range ts.length).map (markAt k0 ts)
theorem marks_len (k0 : Nat) (ts : List Tag) : (marks k0 ts).length = ts.length := by simp [marks]
theorem marks_at {k0 : Nat} {ts : List Tag} {k : Nat} (h : k < ts.length) : nthT (marks k0 ts) k = markAt k0 ts k := by
  rw [nthT_eq (by rw [marks_len]; exact h)]; simp [marks]
theorem heldTagS_c {w : World} {v : Value} {ts : List Tag} (k0 : Nat) (h : TagS w v (marks k0 ts)) (hk0 : k0 + cnt ts ≤ 100000000) (ki : Int) (hki : ki = (k0 : Int)) :
    Calls Try.prog 20 #[v, .int .i64 ki] w fun e w' => e = .returned (.int .i64 ((k0 + cnt ts : Nat) : Int)) ∧ w = w' := by
  subst hki
  have HU := Lib.hid (fun k (hk : k < ts.length) => marks_at (k0 := k0) hk)
  have HM := Lib.hid (marks_len k0 ts)
  generalize marks k0 ts = us at *
  obtain ⟨p, c, rfl, _, _⟩ := h.form
  have h0 : (k0 : Int) ≤ 100000000 := by omega
  go_enter Try.func20, Try.ntmps20
  go_wp2_with fail
  go_loop [1, 5] (fun n i => ∃ (k N : Nat), k ≤ us.length ∧ i = .int .i64 k ∧ n = .int .i64 (N : Int) ∧ Hid (N = k0 + cnt (ts.take k))) (fun _ i => us.length - (intOf i).toNat)
  case atStart => exact ⟨0, k0, Nat.zero_le _, rfl, rfl, by simp [Hid, cnt]⟩
  case round =>
    obtain ⟨k, N, hk, rfl, rfl, HN⟩ := hrel
    have hN : N ≤ 100000000 := by have := HN.out; have := cnt_le (ts := ts) k; omega
    by_cases hlt : k < us.length
    · have hlt' : k < ts.length := by have := HM.out; omega
      obtain ⟨a, q, cq, hix, hca, hcb, hrow⟩ := h.ix hlt
      have he := HU.out k hlt'
      have hst := cnt_step hlt'
      have hcl := cnt_le (ts := ts) (k+1)
      unfold markAt at he
      rw [← HN.out] at he
      rw [he] at hca hcb hrow
      generalize (nthT ts k).2.length = L at *
      have hNe : N + 1 + L = k0 + cnt (ts.take (k+1)) := by have := HN.out; omega
      have HNE := Lib.hid hNe
      have hL : N + 1 + L ≤ 100000000 := by omega
      simp only [] at hca hcb hrow
      have hul := upFrom_length ((N : Int) + 1) L
      rw [show (((N : Nat) + 1 : Int)) = (N : Int) + 1 by omega] at hcb hrow
      rw [hul] at hcb hrow
      clear he hst hcl hNe hul
      go_wp2_with fail
      (with_reducible refine (heldIntS_c ((N : Int) + 1) L hrow (by omega) (by omega) (by omega)).mono ?_); rintro e w2 ⟨rfl, rfl⟩
      go_wp2
      go_round
      case rel => exact ⟨k+1, N + 1 + L, by omega, by go_num, by simp, HNE.out⟩
      case measure => simp [intOf]; omega
    · have e : N = k0 + cnt ts := by have := HN.out; have h2 := HM.out; rwa [List.take_of_length_le (by omega)] at this
      subst e
      go_wp2
      go_ret
      exact ⟨rfl, rfl⟩
end Go.Proofs.Ytknhfogblfogaaa
