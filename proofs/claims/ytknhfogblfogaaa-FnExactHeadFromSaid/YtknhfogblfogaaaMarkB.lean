/- laws.markTagS: the walk. -/
import Derived.Test.YtknhfogblfogaaaMark
namespace Go.Proofs.Ytknhfogblfogaaa
open Go.RowKit
def Half (k0 : Nat) (ts us : List Tag) (k : Nat) : Prop := us.length = ts.length ∧ (∀ j, j < k → nthT us j = markAt k0 ts j) ∧ (∀ j, k ≤ j → nthT us j = nthT ts j)
theorem Half.done {k0 : Nat} {ts us : List Tag} {k : Nat} (h : Half k0 ts us k) (hk : ¬ k < ts.length) : us = marks k0 ts := by
  apply List.ext_getElem
  · rw [h.1, marks_len]
  · intro i h1 h2
    have hi : i < ts.length := by rw [← h.1]; exact h1
    have := h.2.1 i (by omega)
    rw [nthT_eq h1] at this
    rw [this, ← marks_at hi, nthT_eq h2]
theorem Half.next {k0 : Nat} {ts us : List Tag} {k : Nat} (h : Half k0 ts us k) (hk : k < ts.length) {x : Int} {ys : List Int} (he : (x, ys) = markAt k0 ts k) : Half k0 ts (us.set k (x, ys)) (k + 1) := by
  have hl := h.1
  refine ⟨by rw [List.length_set, h.1], fun j hj => ?_, fun j hj => ?_⟩
  · rw [nthT_set (by omega)]
    by_cases e : j = k
    · subst e; simp [he]
    · rw [if_neg e]; exact h.2.1 j (by omega)
  · rw [nthT_set (by omega), if_neg (by omega)]; exact h.2.2 j (by omega)
theorem cnt_ge (ts : List Tag) : ts.length ≤ cnt ts := by
  induction ts with
  | nil => simp
  | cons t ts ih => simp [cnt]; omega
set_option maxHeartbeats 1000000 in
theorem markTagS_c {B T : Nat} {w : World} {v : Value} {ts : List Tag} (h : TagO B T w v ts) (k0 : Nat) (ki : Int) (hki : ki = (k0 : Int)) (hk0 : k0 + cnt ts ≤ 100000000) :
    Calls Try.prog 18 #[v, .int .i64 ki] w fun e w' => e = .returned (.int .i64 ((k0 + cnt ts : Nat) : Int)) ∧ TagO B T w' v (marks k0 ts) ∧ Chg B T w w' := by
  subst hki
  obtain ⟨p, cap, rfl⟩ := h.form
  have h0 : (k0 : Int) ≤ 100000000 := by omega
  have hlen : ts.length ≤ 100000000 := by have := cnt_ge ts; omega
  go_enter Try.func18, Try.ntmps18
  go_wp2_with fail
  go_loopw [1, 5] (fun n i wr => ∃ (k N : Nat) (us : List Tag), k ≤ ts.length ∧ i = .int .i64 k ∧ n = .int .i64 (N : Int) ∧ Hid (N = k0 + cnt (ts.take k)) ∧ Hid (Half k0 ts us k) ∧ TagO B T wr (.slice p ts.length cap) us ∧ Chg B T w wr) (fun _ i _ => ts.length - (intOf i).toNat)
  case atStart => exact ⟨0, k0, ts, Nat.zero_le _, rfl, rfl, by simp [Hid, cnt], ⟨rfl, by simp, fun _ _ => rfl⟩, h, Chg.refl _ _ _⟩
  case round =>
    obtain ⟨k, N, us, hk, rfl, rfl, HN, HH, ho, hch⟩ := hrel
    have hN : N ≤ 100000000 := by have := HN.out; have := cnt_le (ts := ts) k; omega
    by_cases hlt : k < ts.length
    · have hul : k < us.length := by have := HH.out.1; omega
      have hst := cnt_step hlt
      have hcl := cnt_le (ts := ts) (k+1)
      have hu := HH.out.2.2 k (Nat.le_refl _)
      obtain ⟨g, o, d, b, hix, hgB, hgT, hc0, hf0, hc1, hob, hset, hI, hbg, hdat⟩ := ho.place hul
      have hTO := hset (N : Int)
      obtain ⟨g', o', d', b', hix', _, _, hc0', _, hc1', _, _, hI', hbg', hdat'⟩ := hTO.place (k := k) (by simpa using hul)
      have hgg : (⟨g', o', none⟩ : Addr) = ⟨g, o, none⟩ := by
        have e1 := hix wr
        rw [hix' wr] at e1
        injection e1 with e1
        injection e1 with e1
        injection e1
      injection hgg with hg1 hg2
      subst hg1 hg2
      have hnk : nthT (us.set k ((N : Int), (nthT us k).2)) k = ((N : Int), (nthT ts k).2) := by rw [nthT_set hul, if_pos rfl, hu]
      rw [hnk] at hI' hdat'
      simp only [] at hI' hdat'
      obtain ⟨q, cq, rfl⟩ := hI'.o.len
      have hCh1 : Chg B T w (wr.setCell ⟨g', o', none⟩ (.int .i64 (N : Int))) := hch.set hgB hgT _
      have hmk : ((N : Int), upFrom ((N : Int) + 1) (nthT ts k).2.length) = markAt k0 ts k := by unfold markAt; rw [← HN.out]
      have HMK := Lib.hid (HH.out.next hlt hmk)
      generalize hxs : (nthT ts k).2 = xs at *
      have hNe : N + 1 + xs.length = k0 + cnt (ts.take (k+1)) := by have := HN.out; omega
      have HNE := Lib.hid hNe
      have hL : N + 1 + xs.length ≤ 100000000 := by omega
      have HOB := Lib.hid hob
      clear hob hix' hset hI hdat hTO hnk hmk hst hcl hu hxs hNe hc0' hbg hbg'
      go_wp2_with fail
      (with_reducible refine (markIntS_c hI' ((N : Int) + 1) (by omega) (by omega) (by omega)).mono ?_); rintro e w2 ⟨rfl, hI2, hc2⟩
      obtain ⟨hTO2, hCh2⟩ := hdat' w2 _ (upFrom_length _ _) hc2 hI2
      rw [List.set_set] at hTO2
      have hCh3 := hCh1.trans hCh2
      clear hdat' hc2 hI2 hI' hCh1 hCh2 hc1 hc1' hc0 hf0
      go_wp2
      go_roundw
      case measure => simp [intOf]; omega
      case rel => exact ⟨k+1, N + 1 + xs.length, _, by omega, by go_num, by simp, HNE.out, HMK.out, hTO2, hCh3⟩
    · have e : N = k0 + cnt ts := by have := HN.out; rwa [List.take_of_length_le (by omega)] at this
      have e2 := HH.out.done hlt
      subst e e2
      go_wp2
      go_ret
      exact ⟨rfl, ho, hch⟩
end Go.Proofs.Ytknhfogblfogaaa
