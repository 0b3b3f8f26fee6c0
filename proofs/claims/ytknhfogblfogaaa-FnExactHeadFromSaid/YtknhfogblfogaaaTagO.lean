/- Slices of tags in memory of their own. -/
import Derived.Test.YtknhfogblfogaaaDrawB
namespace Go.Proofs.Ytknhfogblfogaaa
open Go.RowKit
def tagCells (ts : List Tag) (ds : List Value) : List Value := ((List.range ts.length).map fun k => [Value.int .i64 (nthT ts k).1, nthV ds k]).flatten
theorem tagCells_snoc {ts : List Tag} {ds : List Value} (h : ds.length = ts.length) (t : Tag) (d : Value) : tagCells (ts ++ [t]) (ds ++ [d]) = tagCells ts ds ++ [.int .i64 t.1, d] := by
  unfold tagCells
  rw [List.length_append, List.length_singleton, List.range_succ, List.map_append, List.flatten_append]
  congr 1
  · congr 1
    apply List.map_congr_left
    intro k hk
    have hk' : k < ts.length := by simpa using hk
    simp [nthT, nthV, List.getElem?_append_left hk', List.getElem?_append_left (show k < ds.length by omega)]
  · simp [nthT, nthV, ← h]
theorem tagCells_len (ts : List Tag) (ds : List Value) : (tagCells ts ds).length = ts.length * 2 := by
  unfold tagCells; rw [flat_len (sz := 2) (by simp)]; simp
theorem nthV_snoc_lt {ds : List Value} {k : Nat} (h : k < ds.length) (d : Value) : nthV (ds ++ [d]) k = nthV ds k := by simp [nthV, List.getElem?_append_left h]
theorem nthV_snoc_eq (ds : List Value) (d : Value) : nthV (ds ++ [d]) ds.length = d := by simp [nthV]
theorem nthT_snoc_lt {ts : List Tag} {k : Nat} (h : k < ts.length) (t : Tag) : nthT (ts ++ [t]) k = nthT ts k := by simp [nthT, List.getElem?_append_left h]
theorem nthT_snoc_eq (ts : List Tag) (t : Tag) : nthT (ts ++ [t]) ts.length = t := by simp [nthT]

/-- Tags in the blocks from B up to T, each row in a block of its own. -/
def TagO (B T : Nat) (w : World) (v : Value) (ts : List Tag) : Prop :=
  ∃ ds : List Value, ds.length = ts.length ∧ OwnB B T 60 2 w v ts.length (tagCells ts ds) ∧ (∀ k, k < ts.length → IntB B T 3 w (nthV ds k) (nthT ts k).2) ∧
    (∀ k, k < ts.length → ∀ b, (nthV ds k).ownBlock = some b → v.ownBlock ≠ some b) ∧ (∀ i j, i < j → j < ts.length → ∀ b, (nthV ds i).ownBlock = some b → (nthV ds j).ownBlock ≠ some b)
theorem TagO.s {B T : Nat} {w : World} {v : Value} {ts : List Tag} (h : TagO B T w v ts) : TagS w v ts := by
  obtain ⟨ds, h0, h1, h2, _⟩ := h
  exact ⟨ds, h0, h1.1.row, fun k hk => (h2 k hk).s⟩
theorem TagO.kept {B T : Nat} {w w' : World} {v : Value} {ts : List Tag} (h : TagO B T w v ts) (hg : Gr w w') : TagO B T w' v ts := by
  obtain ⟨ds, h0, h1, h2, h3, h4⟩ := h
  exact ⟨ds, h0, h1.kept hg, fun k hk => (h2 k hk).kept hg, h3, h4⟩
theorem OwnB.keptD {B T e sz g : Nat} {w w' : World} {v : Value} {n : Nat} {cs : List Value} (h : OwnB B T e sz w v n cs) (hd : D g w w') (hB : g < B) : OwnB B T e sz w' v n cs := ⟨h.1.keptD hd hB, h.2⟩
theorem TagO.keptD {B T g : Nat} {w w' : World} {v : Value} {ts : List Tag} (h : TagO B T w v ts) (hd : D g w w') (hB : g < B) : TagO B T w' v ts := by
  obtain ⟨ds, h0, h1, h2, h3, h4⟩ := h
  exact ⟨ds, h0, h1.keptD hd hB, fun k hk => OwnB.keptD (h2 k hk) hd hB, h3, h4⟩
theorem TagO.chg {B T B' T' : Nat} {w w' : World} {v : Value} {ts : List Tag} (h : TagO B T w v ts) (hc : Chg B' T' w w') (hd : T ≤ B' ∨ T' ≤ B) : TagO B T w' v ts := by
  obtain ⟨ds, h0, h1, h2, h3, h4⟩ := h
  exact ⟨ds, h0, h1.chg hc hd, fun k hk => (h2 k hk).chg hc hd, h3, h4⟩
theorem TagO.wide {B T B' T' : Nat} {w : World} {v : Value} {ts : List Tag} (h : TagO B T w v ts) (h1 : B' ≤ B) (h2 : T ≤ T') : TagO B' T' w v ts := by
  obtain ⟨ds, h0, k1, k2, h3, h4⟩ := h
  exact ⟨ds, h0, k1.wide h1 h2, fun k hk => (k2 k hk).wide h1 h2, h3, h4⟩
theorem TagO.form {B T : Nat} {w : World} {v : Value} {ts : List Tag} (h : TagO B T w v ts) : ∃ p cap, v = .slice p ts.length cap := by
  obtain ⟨p, cap, h1, _⟩ := h.s.form; exact ⟨p, cap, h1⟩
theorem TagO.nil (B T : Nat) (w : World) : TagO B T w (.slice none 0 0) [] := ⟨[], rfl, ⟨World.ownsRow_nil w B _ 2, by simp [Value.ownBlock]⟩, by simp, by simp, by simp⟩
theorem TagO.mt (w : World) : TagO w.heap.size (w.heap.size + 1) (w.alloc (.cells #[] 60)) (.slice (some ⟨w.heap.size, 0, none⟩) 0 0) [] :=
  ⟨[], rfl, ⟨Own.lit w #[] 0 (Nat.le_refl _) (by decide) rfl, by simp [Value.ownBlock]⟩, by simp, by simp, by simp⟩
/-- append of a new tag. -/
theorem TagO.append {B T : Nat} {w : World} {v : Value} {ts : List Tag} (h : TagO B T w v ts) (hT : T ≤ w.heap.size) (hBT : B ≤ T) {x d : Value} {n : Int} {xs : List Int}
    (hx : Row w 2 x 1 [.int .i64 n, d]) (hd : IntO T 3 w d xs) (hn : ts.length ≤ 1000000) (ty : Nat) :
    ∃ v' w', (Builtin.append_ #[27, 27] ty #[v, x]).run Try.prog w = .ok v' w' ∧ TagO B w'.heap.size w' v' (ts ++ [(n, xs)]) ∧ Below B w w' := by
  obtain ⟨i, hi, hz, hs, hby⟩ := infoT
  obtain ⟨ds, h0, h1, h2, h3, h4⟩ := h
  obtain ⟨hl, p, cap, rfl, c1, c2, c3, c4⟩ := hx
  cases p with
  | none => have := c3 rfl; omega
  | some a =>
    have hone : ∀ u ∈ [Value.int .i64 n, d], u.oneCell' = true := by
      obtain ⟨pd, cd, rfl⟩ := hd.len
      simp [Value.oneCell']
    obtain ⟨v', w', hr, q1, q2, _, q4⟩ := run_append_own_at (P := Try.prog) w B 27 ty 60 i _ 2 32 uT hi hz hs hby rfl (by decide) v ts.length (tagCells ts ds) h1.1 a 1 cap [.int .i64 n, d] rfl (c4 a rfl) hone (by unfold maxLen; omega) (by omega) (by omega)
    have hb : Below B w w' := (Below.refl B w).grown q2 (by omega) (fun k hk => (h1.1.blk k hk).1)
    have hvT : ∀ b, v.ownBlock = some b → b < T := h1.2
    have hsz : w.heap.size ≤ w'.heap.size := q2.size
    have keepI : ∀ (u : Value) (ys : List Int) (B' T' : Nat), IntB B' T' 3 w u ys → (∀ b, u.ownBlock = some b → v.ownBlock ≠ some b) → IntB B' T' 3 w' u ys := by
      intro u ys B' T' hu hne
      refine ⟨World.ownsRow.kept hu.1 q2 ?_, hu.2⟩
      cases hub : u.ownBlock with
      | none => exact .inl rfl
      | some b => exact .inr fun e => hne b hub e.symm
    have hdv : ∀ b, d.ownBlock = some b → v.ownBlock ≠ some b := fun b hb1 hb2 => by have := hvT b hb2; have := (hd.blk b hb1).1; omega
    have hv' : ∀ b, v'.ownBlock = some b → v.ownBlock = some b ∨ b = w.heap.size := by
      intro b hb1
      rcases q4 with q4 | q4
      · exact .inl (by rw [← q4]; exact hb1)
      · rw [q4] at hb1; exact .inr (Option.some.inj hb1).symm
    refine ⟨v', w', hr, ⟨ds ++ [d], by simp [h0], ?_, ?_, ?_, ?_⟩, hb⟩
    · rw [tagCells_snoc h0, List.length_append]
      exact Own.b q1
    · intro k hk
      by_cases hk' : k < ts.length
      · rw [nthV_snoc_lt (by omega), nthT_snoc_lt hk']
        exact (keepI _ _ _ _ (h2 k hk') (h3 k hk')).wide (Nat.le_refl _) (by omega)
      · obtain rfl : k = ts.length := by simp at hk; omega
        rw [nthT_snoc_eq, show nthV (ds ++ [d]) ts.length = d by rw [← h0]; exact nthV_snoc_eq ds d]
        exact (keepI _ _ _ _ hd.b hdv).wide (by omega) (by omega)
    · intro k hk b hb1 hb2
      by_cases hk' : k < ts.length
      · rw [nthV_snoc_lt (by omega)] at hb1
        rcases hv' b hb2 with e | e
        · exact h3 k hk' b hb1 e
        · have := (h2 k hk').2 b hb1; omega
      · obtain rfl : k = ts.length := by simp at hk; omega
        rw [show nthV (ds ++ [d]) ts.length = d by rw [← h0]; exact nthV_snoc_eq ds d] at hb1
        rcases hv' b hb2 with e | e
        · exact hdv b hb1 e
        · have := (hd.blk b hb1).2; omega
    · intro i j hij hj b hb1 hb2
      rw [nthV_snoc_lt (by simp at hj; omega)] at hb1
      by_cases hj' : j < ts.length
      · rw [nthV_snoc_lt (by omega)] at hb2
        exact h4 i j hij hj' b hb1 hb2
      · obtain rfl : j = ts.length := by simp at hj; omega
        rw [show nthV (ds ++ [d]) ts.length = d by rw [← h0]; exact nthV_snoc_eq ds d] at hb2
        have := (h2 i (by omega)).2 b hb1
        have := (hd.blk b hb2).1
        omega
end Go.Proofs.Ytknhfogblfogaaa
