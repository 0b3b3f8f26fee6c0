/- Slices of slices of numbers in memory of their own. -/
import Derived.Test.YtncnnfmfpilonaaGreatDoorGB
import Derived.Test.YtncnnfmfpilonaaGreatDoorGH
namespace Go.Proofs.YtncnnfmfpilonaaGreatDoor
open Go.RowKit
theorem nthL_snoc_lt {xss : List (List Int)} {k : Nat} (h : k < xss.length) (x : List Int) : nthL (xss ++ [x]) k = nthL xss k := by simp [nthL, List.getElem?_append_left h]
theorem nthL_snoc_eq (xss : List (List Int)) (x : List Int) : nthL (xss ++ [x]) xss.length = x := by simp [nthL]
theorem nthL_set {xss : List (List Int)} {k : Nat} (hk : k < xss.length) (ys : List Int) (j : Nat) : nthL (xss.set k ys) j = if j = k then ys else nthL xss j := by
  unfold nthL
  by_cases e : j = k
  · subst e; simp [hk]
  · rw [if_neg e]
    simp [List.getElem?_set_ne (fun h => e h.symm)]
/-- Slices of numbers in the blocks from B up to T, each row in a block of its own. -/
def FrO (B T : Nat) (w : World) (v : Value) (fs : List (List Int)) : Prop :=
  ∃ ds : List Value, ds.length = fs.length ∧ OwnB B T 22 1 w v fs.length ds ∧ (∀ k, k < fs.length → IntB B T 3 w (nthV ds k) (nthL fs k)) ∧
    (∀ k, k < fs.length → ∀ b, (nthV ds k).ownBlock = some b → v.ownBlock ≠ some b) ∧ (∀ i j, i < j → j < fs.length → ∀ b, (nthV ds i).ownBlock = some b → (nthV ds j).ownBlock ≠ some b)
theorem FrO.s {B T : Nat} {w : World} {v : Value} {fs : List (List Int)} (h : FrO B T w v fs) : IntSS w v fs := by
  obtain ⟨ds, h0, h1, h2, _⟩ := h
  exact ⟨ds, h1.1.row, fun k hk => (h2 k hk).s⟩
theorem FrO.kept {B T : Nat} {w w' : World} {v : Value} {fs : List (List Int)} (h : FrO B T w v fs) (hg : Gr w w') : FrO B T w' v fs := by
  obtain ⟨ds, h0, h1, h2, h3, h4⟩ := h
  exact ⟨ds, h0, h1.kept hg, fun k hk => (h2 k hk).kept hg, h3, h4⟩
theorem FrO.chg {B T B' T' : Nat} {w w' : World} {v : Value} {fs : List (List Int)} (h : FrO B T w v fs) (hc : Chg B' T' w w') (hd : T ≤ B' ∨ T' ≤ B) : FrO B T w' v fs := by
  obtain ⟨ds, h0, h1, h2, h3, h4⟩ := h
  exact ⟨ds, h0, h1.chg hc hd, fun k hk => (h2 k hk).chg hc hd, h3, h4⟩
theorem FrO.wide {B T B' T' : Nat} {w : World} {v : Value} {fs : List (List Int)} (h : FrO B T w v fs) (h1 : B' ≤ B) (h2 : T ≤ T') : FrO B' T' w v fs := by
  obtain ⟨ds, h0, k1, k2, h3, h4⟩ := h
  exact ⟨ds, h0, k1.wide h1 h2, fun k hk => (k2 k hk).wide h1 h2, h3, h4⟩
theorem FrO.form {B T : Nat} {w : World} {v : Value} {fs : List (List Int)} (h : FrO B T w v fs) : ∃ p cap, v = .slice p fs.length cap := by
  obtain ⟨p, cap, h1, _⟩ := h.s.form; exact ⟨p, cap, h1⟩
theorem FrO.nil (B T : Nat) (w : World) : FrO B T w (.slice none 0 0) [] := ⟨[], rfl, ⟨World.ownsRow_nil w B _ 1, by simp [Value.ownBlock]⟩, by simp, by simp, by simp⟩
theorem FrO.mt (w : World) : FrO w.heap.size (w.heap.size + 1) (w.alloc (.cells #[] 22)) (.slice (some ⟨w.heap.size, 0, none⟩) 0 0) [] :=
  ⟨[], rfl, ⟨Own.lit w #[] 0 (Nat.le_refl _) (by decide) rfl, by simp [Value.ownBlock]⟩, by simp, by simp, by simp⟩
/-- append of a new row. -/
theorem FrO.append {B T : Nat} {w : World} {v : Value} {fs : List (List Int)} (h : FrO B T w v fs) (hT : T ≤ w.heap.size) (hBT : B ≤ T) {x d : Value} {xs : List Int}
    (hx : Row w 1 x 1 [d]) (hd : IntO T 3 w d xs) (hn : fs.length ≤ 2000000) (ty : Nat) :
    ∃ v' w', (Builtin.append_ #[45, 45] ty #[v, x]).run Tryz.prog w = .ok v' w' ∧ FrO B w'.heap.size w' v' (fs ++ [xs]) ∧ Below B w w' ∧ (∀ b, T ≤ b → b < w.heap.size → w'.heap[b]? = w.heap[b]?) := by
  obtain ⟨i, hi, hz, hs, hby⟩ := infoII
  obtain ⟨ds, h0, h1, h2, h3, h4⟩ := h
  obtain ⟨hl, p, cap, rfl, c1, c2, c3, c4⟩ := hx
  cases p with
  | none => have := c3 rfl; omega
  | some a =>
    have hone : ∀ u ∈ [d], u.oneCell' = true := by
      obtain ⟨pd, cd, rfl⟩ := hd.len
      simp [Value.oneCell']
    obtain ⟨v', w', hr, q1, q2, _, q4⟩ := run_append_own_at (P := Tryz.prog) w B 45 ty 22 i _ 1 24 uII hi hz hs hby rfl (by decide) v fs.length ds h1.1 a 1 cap [d] rfl (c4 a rfl) hone (by unfold maxLen; omega) (by omega) (by omega)
    have hb : Below B w w' := (Below.refl B w).grown q2 (by omega) (fun k hk => (h1.1.blk k hk).1)
    have hvT : ∀ b, v.ownBlock = some b → b < T := h1.2
    have hsz : w.heap.size ≤ w'.heap.size := q2.size
    have keepI : ∀ (u : Value) (ys : List Int) (B' T' : Nat), IntB B' T' 3 w u ys → (∀ b, u.ownBlock = some b → v.ownBlock ≠ some b) → IntB B' T' 3 w' u ys := by
      intro u ys B' T' hu hne
      refine ⟨World.ownsRow.kept hu.1 q2 ?_, hu.2⟩
      cases hub : u.ownBlock with
      | none => exact .inl rfl
      | some b => exact .inr fun e => hne b hub e.symm
    have hdv : ∀ b, d.ownBlock = some b → v.ownBlock ≠ some b := fun b hb1 hb2 => by have := hvT b hb2; have := (hd.blk b hb1).1; omega
    have hv' : ∀ b, v'.ownBlock = some b → v.ownBlock = some b ∨ b = w.heap.size := by
      intro b hb1
      rcases q4 with q4 | q4
      · exact .inl (by rw [← q4]; exact hb1)
      · rw [q4] at hb1; exact .inr (Option.some.inj hb1).symm
    refine ⟨v', w', hr, ⟨ds ++ [d], by simp [h0], ?_, ?_, ?_, ?_⟩, hb, fun b hb1 hb2 => q2.block b hb2 (fun e => by have := hvT b e.symm; omega)⟩
    · rw [List.length_append]
      exact Own.b q1
    · intro k hk
      by_cases hk' : k < fs.length
      · rw [nthV_snoc_lt (by omega), nthL_snoc_lt hk']
        exact (keepI _ _ _ _ (h2 k hk') (h3 k hk')).wide (Nat.le_refl _) (by omega)
      · obtain rfl : k = fs.length := by simp at hk; omega
        rw [nthL_snoc_eq, show nthV (ds ++ [d]) fs.length = d by rw [← h0]; exact nthV_snoc_eq ds d]
        exact (keepI _ _ _ _ hd.b hdv).wide (by omega) (by omega)
    · intro k hk b hb1 hb2
      by_cases hk' : k < fs.length
      · rw [nthV_snoc_lt (by omega)] at hb1
        rcases hv' b hb2 with e | e
        · exact h3 k hk' b hb1 e
        · have := (h2 k hk').2 b hb1; omega
      · obtain rfl : k = fs.length := by simp at hk; omega
        rw [show nthV (ds ++ [d]) fs.length = d by rw [← h0]; exact nthV_snoc_eq ds d] at hb1
        rcases hv' b hb2 with e | e
        · exact hdv b hb1 e
        · have := (hd.blk b hb1).2; omega
    · intro i j hij hj b hb1 hb2
      rw [nthV_snoc_lt (by simp at hj; omega)] at hb1
      by_cases hj' : j < fs.length
      · rw [nthV_snoc_lt (by omega)] at hb2
        exact h4 i j hij hj' b hb1 hb2
      · obtain rfl : j = fs.length := by simp at hj; omega
        rw [show nthV (ds ++ [d]) fs.length = d by rw [← h0]; exact nthV_snoc_eq ds d] at hb2
        have := (h2 i (by omega)).2 b hb1
        have := (hd.blk b hb2).1
        omega
theorem wpl_appF {w : World} {ops : Array Oper} {rest : List Oper} {o : Oper} {a : Act} {Q : Exit → Act → World → Prop} (hgd : o.guard = none) (s x : Operand)
    (ho : o.op = .call { callee := .builtin .append, args := #[s, x], argTypes := #[45, 45] })
    {B T : Nat} {v : Value} {fs : List (List Int)} (hs : a.eval s = v) (hown : FrO B T w v fs) (hT : T ≤ w.heap.size) (hBT : B ≤ T) {xv d : Value} {xs : List Int} (hx : a.eval x = xv)
    (hrow : Row w 1 xv 1 [d]) (hd : IntO T 3 w d xs) (hn : fs.length ≤ 2000000)
    (h : ∀ v' w', FrO B w'.heap.size w' v' (fs ++ [xs]) → Below B w w' → (∀ b, T ≤ b → b < w.heap.size → w'.heap[b]? = w.heap[b]?) → wpList Tryz.prog ops Q rest (a.put o.dst v') w') : wpList Tryz.prog ops Q (o :: rest) a w := by
  refine wpList_plain hgd fun K hK => ?_
  obtain ⟨v', w', hr, h2, h3, h4⟩ := FrO.append hown hT hBT hrow hd hn o.type
  unfold Oper.wp execOp
  simp only [ho, resolve, invoke, builtin, Sem.run_bind, Sem.run_pure, Result.andThen_ok, List.map_toArray, List.map_cons, List.map_nil, hs, hx, hr]
  exact hK _ _ (h v' w' h2 h3 h4)
theorem Row.oneF (w : World) (d : Value) {m : Nat} (hm : m = w.heap.size) : Row (w.alloc (.cells #[d] 22)) 1 (.slice (some ⟨m, 0, none⟩) 1 1) 1 [d] := by
  subst hm; exact (Own.lit (B := w.heap.size) w #[d] 1 (Nat.le_refl _) (by decide) rfl).row
/-- The rows from one on. -/
theorem frV_drop (vs : List Value) (k j : Nat) : nthV (vs.drop k) j = nthV vs (k + j) := by simp [nthV]
theorem frL_drop (xss : List (List Int)) (k j : Nat) : nthL (xss.drop k) j = nthL xss (k + j) := by simp [nthL]
theorem frV_take (vs : List Value) {k j : Nat} (h : j < k) : nthV (vs.take k) j = nthV vs j := by simp [nthV, h]
theorem frL_take (xss : List (List Int)) {k j : Nat} (h : j < k) : nthL (xss.take k) j = nthL xss j := by simp [nthL, h]
theorem IntSS.suf {w : World} {v : Value} {xss : List (List Int)} (h : IntSS w v xss) {k : Nat} (hk : k ≤ xss.length) :
    ∃ v' : Value, (∀ w1, (Instr.slice 45 v (some (.int .i64 (k : Int))) none none).run Tryz.prog w1 = .ok v' w1) ∧ IntSS w v' (xss.drop k) := by
  obtain ⟨vs, h1, h2⟩ := h
  obtain ⟨i0, hi, hz, hs, hby⟩ := infoII
  obtain ⟨v', k1, k2⟩ := Row.cut h1 uII hi hs hk (Nat.le_refl _)
  refine ⟨v', fun w1 => ?_, vs.drop k, ?_, fun j hj => ?_⟩
  · rw [← k1 w1]
    obtain ⟨_, p, cap, rfl, c1, c2, c3, c4⟩ := h1
    simp [Instr.slice, run_underlying uII, Instr.sliceBounds, Instr.sliceBound, asIntOf, sizeOf, typeInfo, hi, c1, hk]
  · rw [List.length_drop]
    simp only [Nat.mul_one] at k2
    have hl : (vs.drop k).length = xss.length - k := by rw [List.length_drop]; have := h1.1; omega
    rwa [List.take_of_length_le (by omega)] at k2
  · rw [List.length_drop] at hj
    rw [frV_drop, frL_drop]
    exact h2 _ (by omega)
theorem IntSS.pre {w : World} {v : Value} {xss : List (List Int)} (h : IntSS w v xss) {k : Nat} (hk : k ≤ xss.length) :
    ∃ v' : Value, (∀ w1, (Instr.slice 45 v none (some (.int .i64 (k : Int))) none).run Tryz.prog w1 = .ok v' w1) ∧ IntSS w v' (xss.take k) := by
  obtain ⟨vs, h1, h2⟩ := h
  obtain ⟨i0, hi, hz, hs, hby⟩ := infoII
  obtain ⟨v', k1, k2⟩ := Row.cut h1 uII hi hs (Nat.zero_le k) hk
  refine ⟨v', fun w1 => ?_, vs.take k, ?_, fun j hj => ?_⟩
  · rw [← k1 w1]
    obtain ⟨_, p, cap, rfl, c1, c2, c3, c4⟩ := h1
    have a4 : (k : Int) ≤ cap := by omega
    simp [Instr.slice, run_underlying uII, Instr.sliceBounds, Instr.sliceBound, asIntOf, sizeOf, typeInfo, hi, show k ≤ cap by omega]
  · rw [List.length_take, Nat.min_eq_left hk]
    simpa using k2
  · rw [List.length_take, Nat.min_eq_left hk] at hj
    rw [frV_take _ hj, frL_take _ hj]
    exact h2 _ (by omega)
end Go.Proofs.YtncnnfmfpilonaaGreatDoor
