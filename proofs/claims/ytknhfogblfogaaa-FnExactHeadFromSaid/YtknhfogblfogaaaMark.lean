/- laws.markTagS. -/
import Derived.Test.YtknhfogblfogaaaEqT
namespace Go.Proofs.Ytknhfogblfogaaa
open Go.RowKit
theorem tagCells_setC {ts : List Tag} {ds : List Value} {k : Nat} (hk : k < ts.length) (x : Int) :
    (tagCells ts ds).set (k * 2) (.int .i64 x) = tagCells (ts.set k (x, (nthT ts k).2)) ds := by
  refine list_ext2 (n := ts.length) (by rw [List.length_set, tagCells_len]) (by rw [tagCells_len, List.length_set]) fun j hj => ?_
  have hg := tagCells_get (ds := ds) hj
  have hg' := tagCells_get (ts := ts.set k (x, (nthT ts k).2)) (ds := ds) (k := j) (by simpa using hj)
  rw [hg'.1, hg'.2, nthT_set hk]
  by_cases e : j = k
  · subst e
    refine ⟨?_, ?_⟩
    · rw [List.getElem?_set_self (by rw [tagCells_len]; omega)]; simp
    · rw [List.getElem?_set_ne (by omega), hg.2]
  · refine ⟨?_, ?_⟩
    · rw [List.getElem?_set_ne (by omega), hg.1]; simp [e]
    · rw [List.getElem?_set_ne (by omega), hg.2]
theorem OwnB.narrow {B T e sz : Nat} {w : World} {v : Value} {n : Nat} {cs : List Value} (h : OwnB B T e sz w v n cs) {b : Nat} (hb : v.ownBlock = some b) : B ≤ b ∧ b < T ∧ OwnB b (b + 1) e sz w v n cs := by
  have hlt := h.2 b hb
  rcases h.1 with ⟨h1, ⟨rfl, h2⟩ | ⟨g, cap, cur, rfl, h4, h5, h6⟩⟩
  · cases hb
  · cases hb
    exact ⟨h4, hlt, ⟨h1, .inr ⟨g, cap, cur, rfl, Nat.le_refl _, h5, h6⟩⟩, fun k hk => by cases hk; exact Nat.lt_succ_self _⟩
theorem OwnB.apart {B T e sz b : Nat} {w w' : World} {v : Value} {n : Nat} {cs : List Value} (h : OwnB B T e sz w v n cs) (hc : Chg b (b + 1) w w') (hne : v.ownBlock ≠ some b) : OwnB B T e sz w' v n cs := by
  cases hv : v.ownBlock with
  | none =>
    rcases h.1 with ⟨h1, ⟨rfl, h2⟩ | ⟨g, cap, cur, rfl, _⟩⟩
    · exact ⟨⟨h1, .inl ⟨rfl, h2⟩⟩, by intro k hk; cases hk⟩
    · cases hv
  | some c =>
    obtain ⟨h1, h2, h3⟩ := h.narrow hv
    have hne' : c ≠ b := fun e => hne (by rw [hv, e])
    exact (h3.chg hc (by omega)).wide h1 (by omega)
theorem tagCells_same {ts : List Tag} {ds : List Value} {k : Nat} (hk : k < ts.length) (ys : List Int) : tagCells (ts.set k ((nthT ts k).1, ys)) ds = tagCells ts ds := by
  refine list_ext2 (n := ts.length) (by rw [tagCells_len, List.length_set]) (by rw [tagCells_len]) fun j hj => ?_
  have hg := tagCells_get (ds := ds) hj
  have hg' := tagCells_get (ts := ts.set k ((nthT ts k).1, ys)) (ds := ds) (k := j) (by simpa using hj)
  rw [hg'.1, hg'.2, hg.1, hg.2, nthT_set hk]
  by_cases e : j = k
  · subst e; simp
  · simp [e]
/-- The place of a tag that is owned. -/
theorem TagO.place {B T : Nat} {w : World} {v : Value} {ts : List Tag} (h : TagO B T w v ts) {k : Nat} (hk : k < ts.length) :
    ∃ (g o : Nat) (d : Value) (b : Nat), (∀ w1, (Instr.indexAt 27 v (.int .i64 (k : Int))).run Try.prog w1 = .ok (.pointer (some ⟨g, o, none⟩)) w1) ∧ B ≤ g ∧ g < T ∧ w.cell? ⟨g, o, none⟩ = some (.int .i64 (nthT ts k).1) ∧ w.frozen? ⟨g, o, none⟩ = false ∧
      w.cell? ⟨g, o + 1, none⟩ = some d ∧ v.ownBlock = some g ∧ (∀ x, TagO B T (w.setCell ⟨g, o, none⟩ (.int .i64 x)) v (ts.set k (x, (nthT ts k).2))) ∧ IntB b (b + 1) 3 w d (nthT ts k).2 ∧ b ≠ g ∧
      (∀ w' ys, ys.length = (nthT ts k).2.length → Chg b (b + 1) w w' → IntB b (b + 1) 3 w' d ys → TagO B T w' v (ts.set k ((nthT ts k).1, ys)) ∧ Chg B T w w') := by
  obtain ⟨i, hi, _, hs, _⟩ := infoT
  obtain ⟨ds, h0, h1, h2, h3, h4⟩ := h
  obtain ⟨a, f1, f2, f3, f4, f5, f6, f7⟩ := Own.at h1.1 uT hi hs hk
  have hbv := h1.2 a.block f7
  have hsp : a.spot = none := by
    rcases h1.1.2 with ⟨_, h0'⟩ | ⟨g, cap, cur, rfl, _⟩
    · omega
    · have hadd : ∀ m, (⟨g, 0, none⟩ : Addr).add m = ⟨g, m, none⟩ := fun m => by unfold Addr.add; split <;> simp_all
      have := f1 w
      simp [Instr.indexAt, run_underlying uT, asIntOf, sizeOf, typeInfo, hi, hk, hadd] at this
      rw [← this]
  obtain ⟨g, o, sp⟩ := a
  simp only [] at hsp f2 f3 f7 hbv
  subst hsp
  have hadd : ∀ m, (⟨g, o, none⟩ : Addr).add m = ⟨g, o + m, none⟩ := fun m => by unfold Addr.add; split <;> simp_all
  have hbk : ∃ b, b ≠ g ∧ IntB b (b + 1) 3 w (nthV ds k) (nthT ts k).2 ∧ (∀ w', Chg b (b + 1) w w' → Chg B T w w') ∧ (∀ j, j < ts.length → j ≠ k → (nthV ds j).ownBlock ≠ some b) ∧ (∀ w' ys, ys.length = (nthT ts k).2.length → IntB b (b + 1) 3 w' (nthV ds k) ys → IntB B T 3 w' (nthV ds k) ys) := by
    cases hv : (nthV ds k).ownBlock with
    | some b =>
      obtain ⟨q1, q2, q3⟩ := OwnB.narrow (h2 k hk) hv
      refine ⟨b, fun e => h3 k hk b hv (by rw [f7, e]), q3, fun w' hc => hc.wide q1 (by omega), fun j hj hne hb => ?_, fun w' ys _ hy => OwnB.wide hy q1 (by omega)⟩
      rcases Nat.lt_or_gt_of_ne hne with hl | hl
      · exact h4 j k hl hk b hb hv
      · exact h4 k j hl hj b hv hb
    | none =>
      have hd := h2 k hk
      obtain ⟨⟨e1, e2⟩, _⟩ := hd
      rcases e2 with ⟨e2, e3⟩ | ⟨g', cap, cur, e2, _⟩
      · rw [e2]
        have hx : (nthT ts k).2 = [] := List.eq_nil_of_length_eq_zero e3
        rw [hx]
        refine ⟨w.heap.size, by omega, ⟨World.ownsRow_nil w _ _ 1, by intro k hk; cases hk⟩, fun w' hc => ⟨hc.os, hc.tape, hc.output, hc.size, fun i hi => ?_⟩, fun j hj _ hb => ?_, fun w' ys hl _ => ?_⟩
        · by_cases h : i = w.heap.size
          · subst h
            rw [Array.getElem?_eq_none (by rw [hc.size]; exact Nat.le_refl _), Array.getElem?_eq_none (Nat.le_refl _)]
          · exact hc.block i (by omega)
        · have := ((h2 j hj).1.blk _ hb).2
          omega
        · have : ys = [] := List.eq_nil_of_length_eq_zero (by simpa using hl)
          subst this
          exact ⟨World.ownsRow_nil w' _ _ 1, by intro k hk; cases hk⟩
      · rw [e2] at hv; cases hv
  obtain ⟨b, hbg, hbI, hbC, hbN, hbW⟩ := hbk
  refine ⟨g, o, nthV ds k, b, f1, f2, hbv, ?_, ?_, ?_, f7, fun x => ?_, hbI, hbg, fun w' ys hyl hc hy => ⟨?_, hbC w' hc⟩⟩
  · have := f4 0 _ (tagCells_get hk).1
    rwa [hadd] at this
  · have := f5 0
    rwa [hadd] at this
  · have := f4 1 _ (tagCells_get hk).2
    rwa [hadd] at this
  · have hset := f6 0 (.int .i64 x)
    rw [hadd, Nat.add_zero, Nat.add_zero, tagCells_setC hk] at hset
    have hgw : w.grownBy (w.setCell ⟨g, o, none⟩ (.int .i64 x)) (some g) := grown_set1 w ⟨g, o, none⟩ _
    refine ⟨ds, by simp [h0], ?_, ?_, ?_, ?_⟩
    · rw [List.length_set]; exact ⟨hset, h1.2⟩
    · intro j hj
      rw [List.length_set] at hj
      have hd : (nthT (ts.set k (x, (nthT ts k).2)) j).2 = (nthT ts j).2 := by
        rw [nthT_set hk]; by_cases e : j = k
        · subst e; simp
        · simp [e]
      rw [hd]
      refine ⟨World.ownsRow.kept (h2 j hj).1 hgw ?_, (h2 j hj).2⟩
      cases hub : (nthV ds j).ownBlock with
      | none => exact .inl rfl
      | some c => exact .inr fun e => h3 j hj c hub (by rw [f7, e])
    · intro j hj; rw [List.length_set] at hj; exact h3 j hj
    · intro j j' hjj hj'; rw [List.length_set] at hj'; exact h4 j j' hjj hj'
  · refine ⟨ds, by simp [h0], ?_, ?_, ?_, ?_⟩
    · rw [List.length_set, tagCells_same hk]
      exact h1.apart hc (by rw [f7]; intro e; cases e; exact hbg rfl)
    · intro j hj
      rw [List.length_set] at hj
      rw [nthT_set hk]
      by_cases e : j = k
      · subst e; simp only [if_true]; exact hbW w' ys hyl hy
      · rw [if_neg e]; exact OwnB.apart (h2 j hj) hc (hbN j hj e)
    · intro j hj; rw [List.length_set] at hj; exact h3 j hj
    · intro j j' hjj hj'; rw [List.length_set] at hj'; exact h4 j j' hjj hj'
end Go.Proofs.Ytknhfogblfogaaa
