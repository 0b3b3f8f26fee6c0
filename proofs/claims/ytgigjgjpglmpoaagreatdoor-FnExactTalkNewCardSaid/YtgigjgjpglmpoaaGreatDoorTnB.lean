/- Logins, marked; marks of logins, read. -/
import Derived.Test.YtgigjgjpglmpoaaGreatDoorTnA
import Derived.Test.YtgigjgjpglmpoaaGreatDoorGB
import Derived.Deep.RegionHeld3
namespace Go.Proofs.YtgigjgjpglmpoaaGreatDoor
open Go.RowKit
theorem markText_i (w : World) (n : Nat) (ni : Int) (hni : ni = (n : Int)) (hn : n ≤ 100000000) :
    Calls Tryz.prog 22 #[.int .i64 ni] w fun e w' => e = .returned (.string (S (markN n))) ∧ Gr w w' := by subst hni; exact markText_c w n hn
def markLg (k0 n : Nat) : List Lg := (List.range n).map fun j => (markN (k0 + 2 * j), markN (k0 + 2 * j + 1))
theorem markLg_len (k0 n : Nat) : (markLg k0 n).length = n := by simp [markLg]
theorem markLg_at {k0 n k : Nat} (h : k < n) : nthLg (markLg k0 n) k = (markN (k0 + 2 * k), markN (k0 + 2 * k + 1)) := by
  rw [nthLg_eq (by rw [markLg_len]; exact h)]; simp [markLg]
theorem Lg_form0 {B : Nat} {w : World} {v : Value} {n : Nat} {cs : List Value} (h : Own B 43 2 w v n cs) (hn : 0 < n) : ∃ g cap, v = .slice (some ⟨g, 0, none⟩) n cap ∧ B ≤ g ∧ g < w.heap.size := by
  replace h : w.ownsRow B 43 2 v n cs := h
  rcases h.2 with ⟨_, rfl⟩ | ⟨g, cap, cur, rfl, hb, hg, hnc, hcm, hcs, htake⟩
  · omega
  · exact ⟨g, cap, rfl, hb, (Array.getElem?_eq_some_iff.1 hg).1⟩
theorem Lg_slot {B : Nat} {w : World} {g cap n : Nat} {cs : List Value} (h : Own B 43 2 w (.slice (some ⟨g, 0, none⟩) n cap) n cs) (hl : cs.length = n * 2) {k : Nat} (hk : k < n) :
    ∃ u0 u1 : Value, w.cell? ⟨g, k * 2, none⟩ = some u0 ∧ w.frozen? ⟨g, k * 2, none⟩ = false ∧ w.cell? ⟨g, k * 2 + 1, none⟩ = some u1 ∧ w.frozen? ⟨g, k * 2 + 1, none⟩ = false ∧
      (∀ x, Own B 43 2 (w.setCell ⟨g, k * 2, none⟩ x) (.slice (some ⟨g, 0, none⟩) n cap) n (cs.set (k * 2) x)) ∧ (∀ x, Own B 43 2 (w.setCell ⟨g, k * 2 + 1, none⟩ x) (.slice (some ⟨g, 0, none⟩) n cap) n (cs.set (k * 2 + 1) x)) := by
  replace h : w.ownsRow B 43 2 (.slice (some ⟨g, 0, none⟩) n cap) n cs := h
  have hadd : ∀ m, (⟨g, 0, none⟩ : Addr).add m = ⟨g, m, none⟩ := fun m => by unfold Addr.add; split <;> simp_all
  have c0 := h.cells rfl _ _ (List.getElem?_eq_getElem (show k * 2 < cs.length by omega))
  have c1 := h.cells rfl _ _ (List.getElem?_eq_getElem (show k * 2 + 1 < cs.length by omega))
  rw [hadd] at c0 c1
  rcases h.2 with ⟨_, rfl⟩ | ⟨g', cap', cur, e, hb, hg, hnc, hcm, hcs, htake⟩
  · omega
  · cases e
    exact ⟨_, _, c0, h.frozenAt (k * 2), c1, h.frozenAt (k * 2 + 1), fun x => (h.stored (k * 2) x).1, fun x => (h.stored (k * 2 + 1) x).1⟩
theorem Lg_idx {g cap n k : Nat} (hk : k < n) : ∀ w1, (Instr.indexAt 25 (.slice (some ⟨g, 0, none⟩) n cap) (.int .i64 (k : Int))).run Tryz.prog w1 = .ok (.pointer (some ⟨g, k * 2, none⟩)) w1 := by
  obtain ⟨i, hi, _, hsz, _⟩ := infoLg
  have hadd : ∀ m, (⟨g, 0, none⟩ : Addr).add m = ⟨g, m, none⟩ := fun m => by unfold Addr.add; split <;> simp_all
  intro w1
  simp [Instr.indexAt, run_underlying uLg, asIntOf, sizeOf, typeInfo, hi, hk, hadd, hsz]
set_option maxHeartbeats 2000000 in
theorem markLoginS_c {B : Nat} {w : World} {g cap n : Nat} {cs : List Value} (h : Own B 43 2 w (.slice (some ⟨g, 0, none⟩) n cap) n cs) (hcl : cs.length = n * 2) (k0 : Nat) (ki : Int) (hki : ki = (k0 : Int)) (hb : k0 + 2 * n ≤ 100000000) :
    Calls Tryz.prog 13 #[.slice (some ⟨g, 0, none⟩) n cap, .int .i64 ki] w fun e w' => (∃ r : Int, e = .returned (.int .i64 r) ∧ r = ((k0 + 2 * n : Nat) : Int)) ∧ Own B 43 2 w' (.slice (some ⟨g, 0, none⟩) n cap) n (lgs (markLg k0 n)) ∧ D g w w' := by
  subst hki
  go_enter Tryz.func13, Tryz.ntmps13
  go_wp2_with fail
  go_loopw [1, 5] (fun m i wr => ∃ (k N : Nat) (us : List Value), k ≤ n ∧ i = .int .i64 k ∧ m = .int .i64 N ∧ Hid (N = k0 + 2 * k) ∧ Hid (CopL (markLg k0 n) us k) ∧ D g w wr ∧ Own B 43 2 wr (.slice (some ⟨g, 0, none⟩) n cap) n us) (fun _ i _ => n - (intOf i).toNat)
  case atStart => exact ⟨0, k0, cs, Nat.zero_le _, rfl, rfl, by simp [Hid], ⟨by rw [markLg_len]; exact hcl, fun j hj => absurd hj (by omega)⟩, D.refl _ _, h⟩
  case round =>
    obtain ⟨k, N, us, hk, rfl, rfl, hN, HC, hgr, ho⟩ := hrel
    clear h hcl
    by_cases hlt : k < n
    · have hNb : N + 2 ≤ 100000000 := by have := hN.out; omega
      have hix := Lg_idx (g := g) (cap := cap) hlt
      have hul : us.length = n * 2 := by have := HC.out.1; rwa [markLg_len] at this
      have hnx := HC.out.next (by rw [markLg_len]; exact hlt)
      rw [markLg_at hlt] at hnx
      have HNX := Lib.hid hnx
      have HUL := Lib.hid hul
      clear hnx hul
      go_wp2_with fail
      (with_reducible refine (markText_i _ N _ (by omega) (by omega)).mono ?_); rintro e w2 ⟨rfl, g2⟩
      obtain ⟨u0, u1, c0, f0, c1, f1, p0, _⟩ := Lg_slot (Own.kept ho g2) HUL.out hlt
      have o3 := p0 (.string (S (markN N)))
      have d3 : D g w (w2.setCell ⟨g, k * 2, none⟩ (.string (S (markN N)))) := (hgr.trans (D.ofGr g2)).set _ _
      clear p0
      go_wp2_with fail
      generalize w2.setCell ⟨g, k * 2, none⟩ (.string (S (markN N))) = w3 at *
      (with_reducible refine (markText_i _ (N + 1) _ (by omega) (by omega)).mono ?_); rintro e w4 ⟨rfl, g4⟩
      obtain ⟨v0, v1, e0, q0, e1, q1, _, p1⟩ := Lg_slot (Own.kept o3 g4) (by rw [List.length_set]; exact HUL.out) hlt
      have o5 := p1 (.string (S (markN (N + 1))))
      have d5 : D g w (w4.setCell ⟨g, k * 2 + 1, none⟩ (.string (S (markN (N + 1))))) := (d3.trans (D.ofGr g4)).set _ _
      clear p1 c0 f0 c1 f1 o3 d3
      go_wp2
      go_roundw
      case measure => simp [intOf]; omega
      case rel => exact ⟨k + 1, N + 1 + 1, _, by omega, by go_num, by go_num, by have := hN.out; simp only [Hid]; omega, by have := HNX.out; rw [← hN.out] at this; exact this, d5, o5⟩
    · have e := HC.out.done (by rw [markLg_len]; exact hlt)
      subst e
      go_wp2
      go_ret
      exact ⟨⟨_, rfl, by have := hN.out; omega⟩, ho, hgr⟩
set_option maxHeartbeats 2000000 in
theorem heldLoginS_c {w : World} {v : Value} {n : Nat} (k0 : Nat) (h : LgS w v (markLg k0 n)) (ki : Int) (hki : ki = (k0 : Int)) (hb : k0 + 2 * n ≤ 100000000) :
    Calls Tryz.prog 24 #[v, .int .i64 ki] w fun e w' => (∃ r : Int, e = .returned (.int .i64 r) ∧ r = ((k0 + 2 * n : Nat) : Int)) ∧ Gr w w' := by
  subst hki
  obtain ⟨p, cap, rfl, _, _⟩ := h.form
  have hlen := markLg_len k0 n
  have HX : Hid (∀ (W : World), Gr w W → ∀ k, k < n → ∃ a : Addr, (∀ w1, (Instr.indexAt 25 (.slice p n cap) (.int .i64 (k : Int))).run Tryz.prog w1 = .ok (.pointer (some a)) w1) ∧
      W.cell? a = some (.string (S (markN (k0 + 2 * k)))) ∧ W.cell? ⟨a.block, a.off + 1, none⟩ = some (.string (S (markN (k0 + 2 * k + 1))))) := by
    intro W g k hk
    obtain ⟨a, h1, h2, h3⟩ := (h.kept g).ix (k := k) (by rw [hlen]; exact hk)
    rw [hlen] at h1
    rw [markLg_at hk] at h2 h3
    exact ⟨a, h1, h2, h3⟩
  rw [hlen]
  clear h hlen
  go_enter Tryz.func24, Tryz.ntmps24
  go_wp2_with fail
  go_loopw [1, 5] (fun m i wr => ∃ (k N : Nat), k ≤ n ∧ i = .int .i64 k ∧ m = .int .i64 N ∧ N = k0 + 2 * k ∧ Gr w wr) (fun _ i _ => n - (intOf i).toNat)
  case atStart => exact ⟨0, k0, Nat.zero_le _, rfl, rfl, by omega, Gr.refl _⟩
  case round =>
    obtain ⟨k, N, hk, rfl, rfl, hN, hgr⟩ := hrel
    by_cases hlt : k < n
    · obtain ⟨a, hix, ha1, ha2⟩ := HX.out _ hgr k hlt
      rw [← hN] at ha1 ha2
      go_wp2_with fail
      go_region_held3 (fun w' => w'.cell? a = some (.string (S (markN N))) ∧ w'.cell? ⟨a.block, a.off + 1, none⟩ = some (.string (S (markN (N + 1))))) (first | (exact ⟨g1.cell ha1, g1.cell ha2⟩) | go_keep) (first | (go_at_call 22; (with_reducible refine (markText_i _ N _ (by omega) (by omega)).mono ?_); rintro e w1 ⟨rfl, g1'⟩; have g1 : Gr wr w1 := g1'.undrew))
      have hb1 := g1.cell ha1
      have hb2 := g1.cell ha2
      go_wp2_with fail
      go_region_held3 (fun w' => w'.cell? ⟨a.block, a.off + 1, none⟩ = some (.string (S (markN (N + 1))))) (first | (exact g2.cell hb2) | go_keep) (first | (go_at_call 22; (with_reducible refine (markText_i _ (N + 1) _ (by omega) (by omega)).mono ?_); rintro e w2 ⟨rfl, g2'⟩; have g2 : Gr w1 w2 := g2'.undrew))
      go_wp2
      go_roundw
      case measure => simp [intOf]; omega
      case rel => exact ⟨k + 1, N + 1 + 1, by omega, by go_num, by go_num, by omega, (hgr.trans g1).trans g2⟩
    · go_wp2
      go_ret
      exact ⟨⟨_, rfl, by omega⟩, hgr⟩
end Go.Proofs.YtgigjgjpglmpoaaGreatDoor
