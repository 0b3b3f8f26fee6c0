/- Drawn tags. -/
import Derived.Test.YtknhfogblfogaaaTagO
namespace Go.Proofs.Ytknhfogblfogaaa
open Go.RowKit
theorem tagCells_get {ts : List Tag} {ds : List Value} {k : Nat} (hk : k < ts.length) : (tagCells ts ds)[k * 2]? = some (.int .i64 (nthT ts k).1) ∧ (tagCells ts ds)[k * 2 + 1]? = some (nthV ds k) := by
  have hc : ((List.range ts.length).map fun k => [Value.int .i64 (nthT ts k).1, nthV ds k])[k]? = some [Value.int .i64 (nthT ts k).1, nthV ds k] := by simp [hk]
  have hl : ∀ c ∈ ((List.range ts.length).map fun k => [Value.int .i64 (nthT ts k).1, nthV ds k]), c.length = 2 := by simp
  constructor
  · have := flat_get hl hc 0 (by decide)
    exact this
  · have := flat_get hl hc 1 (by decide)
    exact this
theorem list_ext2 {xs ys : List Value} {n : Nat} (hx : xs.length = n * 2) (hy : ys.length = n * 2) (h : ∀ k, k < n → xs[k * 2]? = ys[k * 2]? ∧ xs[k * 2 + 1]? = ys[k * 2 + 1]?) : xs = ys := by
  apply List.ext_getElem?
  intro i
  by_cases hi : i < n * 2
  · have hk := h (i / 2) (by omega)
    rcases Nat.mod_two_eq_zero_or_one i with e | e
    · rw [show i = i / 2 * 2 by omega]; exact hk.1
    · rw [show i = i / 2 * 2 + 1 by omega]; exact hk.2
  · rw [List.getElem?_eq_none (by omega), List.getElem?_eq_none (by omega)]
theorem nthT_set {ts : List Tag} {k : Nat} (hk : k < ts.length) (t : Tag) (j : Nat) : nthT (ts.set k t) j = if j = k then t else nthT ts j := by
  by_cases e : j = k
  · subst e; simp [nthT, hk]
  · simp only [if_neg e, nthT, List.getD_eq_getElem?_getD]; rw [List.getElem?_set_ne (by omega)]
theorem nthV_set {ds : List Value} {k : Nat} (hk : k < ds.length) (d : Value) (j : Nat) : nthV (ds.set k d) j = if j = k then d else nthV ds j := by
  by_cases e : j = k
  · subst e; simp [nthV, hk]
  · simp only [if_neg e, nthV, List.getD_eq_getElem?_getD]; rw [List.getElem?_set_ne (by omega)]
theorem tagCells_setD {ts : List Tag} {ds : List Value} {k : Nat} (h0 : ds.length = ts.length) (hk : k < ts.length) (d : Value) (xs : List Int) :
    (tagCells ts ds).set (k * 2 + 1) d = tagCells (ts.set k ((nthT ts k).1, xs)) (ds.set k d) := by
  refine list_ext2 (n := ts.length) (by rw [List.length_set, tagCells_len]) (by rw [tagCells_len, List.length_set]) fun j hj => ?_
  have hg := tagCells_get (ds := ds) hj
  have hg' := tagCells_get (ts := ts.set k ((nthT ts k).1, xs)) (ds := ds.set k d) (k := j) (by simpa using hj)
  rw [hg'.1, hg'.2, nthT_set hk, nthV_set (by omega)]
  by_cases e : j = k
  · subst e
    refine ⟨?_, ?_⟩
    · rw [List.getElem?_set_ne (by omega), hg.1]; simp
    · rw [List.getElem?_set_self (by rw [tagCells_len]; omega)]; simp
  · refine ⟨?_, ?_⟩
    · rw [List.getElem?_set_ne (by omega), hg.1]; simp [e]
    · rw [List.getElem?_set_ne (by omega), hg.2]; simp [e]
theorem grown_set1 (w : World) (p : Addr) (x : Value) : w.grownBy (w.setCell p x) (some p.block) :=
  ⟨rfl, rfl, rfl, by simp [World.setCell], fun k _ hne => Below.heap_setCell _ _ _ _ (fun e => hne (by rw [e]))⟩
/-- The data of a tag, written anew. -/
theorem TagO.setData {B T : Nat} {w : World} {v : Value} {ts : List Tag} (h : TagO B T w v ts) (hT : T ≤ w.heap.size) (hBT : B ≤ T) {k : Nat} (hk : k < ts.length) :
    ∃ (a : Addr) (d0 : Value), (∀ w1, (Instr.indexAt 27 v (.int .i64 (k : Int))).run Try.prog w1 = .ok (.pointer (some a)) w1) ∧ B ≤ a.block ∧ w.cell? ⟨a.block, a.off + 1, none⟩ = some d0 ∧ w.frozen? ⟨a.block, a.off + 1, none⟩ = false ∧
      ∀ d xs, IntO T 3 w d xs → TagO B w.heap.size (w.setCell ⟨a.block, a.off + 1, none⟩ d) v (ts.set k ((nthT ts k).1, xs)) := by
  obtain ⟨i, hi, _, hs, _⟩ := infoT
  obtain ⟨ds, h0, h1, h2, h3, h4⟩ := h
  obtain ⟨a, f1, f2, f3, f4, f5, f6, f7⟩ := Own.at h1.1 uT hi hs hk
  have hbv := h1.2 a.block f7
  refine ⟨a, _, f1, f2, f4 1 _ (tagCells_get hk).2, f5 1, fun d xs hd => ?_⟩
  have hset := f6 1 d
  have hgw : w.grownBy (w.setCell ⟨a.block, a.off + 1, none⟩ d) (some a.block) := grown_set1 w _ d
  have keepI : ∀ (u : Value) (ys : List Int) (B' T' : Nat), IntB B' T' 3 w u ys → (∀ b, u.ownBlock = some b → v.ownBlock ≠ some b) → IntB B' T' 3 (w.setCell ⟨a.block, a.off + 1, none⟩ d) u ys := by
    intro u ys B' T' hu hne
    refine ⟨World.ownsRow.kept hu.1 hgw ?_, hu.2⟩
    cases hub : u.ownBlock with
    | none => exact .inl rfl
    | some b => exact .inr fun e => hne b hub (by rw [f7, e])
  have hdv : ∀ b, d.ownBlock = some b → v.ownBlock ≠ some b := fun b hb1 hb2 => by have := h1.2 b hb2; have := (hd.blk b hb1).1; omega
  refine ⟨ds.set k d, by simp [h0], ?_, ?_, ?_, ?_⟩
  · rw [List.length_set, ← tagCells_setD h0 hk]
    exact ⟨hset, fun b hb => by have := h1.2 b hb; omega⟩
  · intro j hj
    rw [List.length_set] at hj
    rw [nthV_set (by omega), nthT_set hk]
    by_cases e : j = k
    · rw [if_pos e, if_pos e]; exact (keepI _ _ _ _ hd.b hdv).wide (by omega) (Nat.le_refl _)
    · rw [if_neg e, if_neg e]; exact (keepI _ _ _ _ (h2 j hj) (h3 j hj)).wide (Nat.le_refl _) (by omega)
  · intro j hj b hb
    rw [List.length_set] at hj
    rw [nthV_set (by omega)] at hb
    by_cases e : j = k
    · rw [if_pos e] at hb; exact hdv b hb
    · rw [if_neg e] at hb; exact h3 j hj b hb
  · intro i' j hij hj b hb1 hb2
    rw [List.length_set] at hj
    rw [nthV_set (by omega)] at hb1 hb2
    by_cases e1 : i' = k
    · rw [if_pos e1] at hb1
      rw [if_neg (by omega)] at hb2
      have := (h2 j hj).2 b hb2; have := (hd.blk b hb1).1; omega
    · rw [if_neg e1] at hb1
      by_cases e2 : j = k
      · rw [if_pos e2] at hb2
        have := (h2 i' (by omega)).2 b hb1; have := (hd.blk b hb2).1; omega
      · rw [if_neg e2] at hb2
        exact h4 i' j hij hj b hb1 hb2

theorem wpl_appT {w : World} {ops : Array Oper} {rest : List Oper} {o : Oper} {a : Act} {Q : Exit → Act → World → Prop} (hgd : o.guard = none) (s x : Operand)
    (ho : o.op = .call { callee := .builtin .append, args := #[s, x], argTypes := #[27, 27] })
    {B T : Nat} {v : Value} {ts : List Tag} (hs : a.eval s = v) (hown : TagO B T w v ts) (hT : T ≤ w.heap.size) (hBT : B ≤ T) {xv d : Value} {n : Int} {xs : List Int} (hx : a.eval x = xv)
    (hrow : Row w 2 xv 1 [.int .i64 n, d]) (hd : IntO T 3 w d xs) (hn : ts.length ≤ 1000000)
    (h : ∀ v' w', TagO B w'.heap.size w' v' (ts ++ [(n, xs)]) → Below B w w' → wpList Try.prog ops Q rest (a.put o.dst v') w') : wpList Try.prog ops Q (o :: rest) a w := by
  refine wpList_plain hgd fun K hK => ?_
  obtain ⟨v', w', hr, h2, h3⟩ := TagO.append hown hT hBT hrow hd hn o.type
  unfold Oper.wp execOp
  simp only [ho, resolve, invoke, builtin, Sem.run_bind, Sem.run_pure, Result.andThen_ok, List.map_toArray, List.map_cons, List.map_nil, hs, hx, hr]
  exact hK _ _ (h v' w' h2 h3)
theorem Row.oneT (w : World) (n : Int) (d : Value) {m : Nat} (hm : m = w.heap.size) : Row (w.alloc (.cells #[.int .i64 n, d] 60)) 2 (.slice (some ⟨m, 0, none⟩) 1 1) 1 [.int .i64 n, d] := by
  subst hm; exact (Own.lit (B := w.heap.size) w #[.int .i64 n, d] 1 (Nat.le_refl _) (by decide) rfl).row
/-- Drawn tags: few, in new memory, with few bytes. -/
def DrewT (g m : Nat) (w : World) (e : Ending) (w' : World) : Prop := ∃ v ts T, e = .returned v ∧ ts.length ≤ 5 ∧ (∀ t ∈ ts, t.2.length ≤ 17) ∧ TagO w.heap.size T w' v ts ∧ T ≤ w'.heap.size ∧ RdAt w' g (m + 200) ∧ D g w w'
end Go.Proofs.Ytknhfogblfogaaa
