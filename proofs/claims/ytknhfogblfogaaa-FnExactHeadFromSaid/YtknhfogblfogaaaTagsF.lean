/- Tags out of bytes: the plain law; steps of append in a region that draws. -/
import Derived.Test.YtknhfogblfogaaaRdrB
namespace Go.Proofs.Ytknhfogblfogaaa
open Go.RowKit
def lenAt (xs : List Int) (p : Nat) : Nat := (numOf ((xs.drop (p+1)).take 2)).toNat
def badAt (xs : List Int) (p : Nat) : Prop := xs.length - p < 3 ∨ xs.length - p - 3 < lenAt xs p
instance (xs : List Int) (p : Nat) : Decidable (badAt xs p) := by unfold badAt; infer_instance
def tagAt (xs : List Int) (p : Nat) : Tag := (nth xs p, (xs.drop (p+3)).take (lenAt xs p))
def cutT (xs : List Int) : Nat → Nat → List Tag → Option (List Tag)
  | 0, _, _ => none
  | f+1, p, ts => if p < xs.length then (if badAt xs p then none else cutT xs f (p + 3 + lenAt xs p) (ts ++ [tagAt xs p])) else some ts
/-- The tags that bytes are. -/
def tagsFrom (xs : List Int) : Option (List Tag) :=
  if bv xs = true then (match cutT xs (xs.length + 1) 0 [] with | some ts => if tagsOk ts = true then some ts else none | none => none) else none
/-- So far the bytes are tags. -/
def CutTo (xs : List Int) (p : Nat) (ts : List Tag) : Prop := ∃ f, xs.length < f + p ∧ p ≤ xs.length ∧ 3 * ts.length ≤ p ∧ cutT xs (xs.length + 1) 0 [] = cutT xs f p ts
theorem CutTo.start (xs : List Int) : CutTo xs 0 [] := ⟨xs.length + 1, by omega, by omega, by simp, rfl⟩
theorem CutTo.next {xs : List Int} {p : Nat} {ts : List Tag} (h : CutTo xs p ts) (hp : p < xs.length) (hb : ¬ badAt xs p) : CutTo xs (p + 3 + lenAt xs p) (ts ++ [tagAt xs p]) := by
  obtain ⟨f, h1, h2, h3, h4⟩ := h
  unfold badAt at hb
  obtain ⟨f, rfl⟩ : ∃ g, f = g + 1 := ⟨f - 1, by omega⟩
  refine ⟨f, by omega, by omega, by simp; omega, ?_⟩
  rw [h4, cutT, if_pos hp, if_neg (by unfold badAt; exact hb)]
theorem CutTo.fail {xs : List Int} {p : Nat} {ts : List Tag} (h : CutTo xs p ts) (hp : p < xs.length) (hb : badAt xs p) : tagsFrom xs = none := by
  obtain ⟨f, h1, h2, h3, h4⟩ := h
  obtain ⟨f, rfl⟩ : ∃ g, f = g + 1 := ⟨f - 1, by omega⟩
  have h5 : cutT xs (f+1) p ts = none := by rw [cutT, if_pos hp, if_pos hb]
  rw [h5] at h4
  unfold tagsFrom
  rw [h4]; split <;> rfl
theorem CutTo.done {xs : List Int} {ts : List Tag} {p : Nat} (h : CutTo xs p ts) (hp : ¬ p < xs.length) (hb : bv xs = true) : tagsFrom xs = if tagsOk ts = true then some ts else none := by
  obtain ⟨f, h1, h2, h3, h4⟩ := h
  obtain ⟨f, rfl⟩ : ∃ g, f = g + 1 := ⟨f - 1, by omega⟩
  have h5 : cutT xs (f+1) p ts = some ts := by rw [cutT, if_neg hp]
  rw [h5] at h4
  unfold tagsFrom
  rw [h4, if_pos hb]
theorem tagsFrom_bad {xs : List Int} (h : bv xs = false) : tagsFrom xs = none := by unfold tagsFrom; rw [h]; rfl
theorem lenAt_eq {xs : List Int} (h : bytesOnly xs) (p : Nat) : numOf ((xs.drop (p+1)).take 2) = (lenAt xs p : Int) := by
  have := numOf_small (bytes_take (bytes_drop h (p+1)) 2) (by rw [List.length_take]; omega)
  unfold lenAt; omega

/-- append at a step of a region that draws. -/
theorem step_appI {w : World} {ops : Array Oper} {o : Oper} {a : Act} {K : Act → World → Prop} {Q : Exit → Act → World → Prop} {E : Prop} (hgd : o.guard = none) (s x : Operand)
    (ho : o.op = .call { callee := .builtin .append, args := #[s, x], argTypes := #[22, 22] })
    {B : Nat} {v : Value} {xs : List Int} (hs : a.eval s = v) (hown : IntO B 3 w v xs) {xv : Value} {ys : List Int} (hx : a.eval x = xv) (hrow : IntS w xv ys)
    (hb : xs.length + ys.length ≤ 1000000000000) (hB : B ≤ w.heap.size)
    (h : ∀ v' w', IntO B 3 w' v' (xs ++ ys) → Below B w w' → K (a.put o.dst v') w') : if Region.wanted o (yielded ops a.tmps) = true then Oper.wp Try.prog o a w K Q else E := by
  have hw : Region.wanted o (yielded ops a.tmps) = true := by simp [Region.wanted, hgd]
  rw [if_pos hw]
  obtain ⟨i0, hi, hz, hs', hby⟩ := infoI
  obtain ⟨v', w', hr, h2, h3⟩ := Own.append (P := Try.prog) w (ty := o.type) uI hi hz hs' hby rfl (by decide) hown hrow (ints_one _) (by omega) (by decide) hB
  unfold Oper.wp execOp
  simp only [ho, resolve, invoke, builtin, Sem.run_bind, Sem.run_pure, Result.andThen_ok, List.map_toArray, List.map_cons, List.map_nil, hs, hx, hr]
  refine h _ _ ?_ h3
  unfold IntO; rw [ints_append, List.length_append]; exact h2
theorem step_appT {w : World} {ops : Array Oper} {o : Oper} {a : Act} {K : Act → World → Prop} {Q : Exit → Act → World → Prop} {E : Prop} (hgd : o.guard = none) (s x : Operand)
    (ho : o.op = .call { callee := .builtin .append, args := #[s, x], argTypes := #[27, 27] })
    {B T : Nat} {v : Value} {ts : List Tag} (hs : a.eval s = v) (hown : TagO B T w v ts) (hT : T ≤ w.heap.size) (hBT : B ≤ T) {xv d : Value} {n : Int} {xs : List Int} (hx : a.eval x = xv)
    (hrow : Row w 2 xv 1 [.int .i64 n, d]) (hd : IntO T 3 w d xs) (hn : ts.length ≤ 1000000)
    (h : ∀ v' w', TagO B w'.heap.size w' v' (ts ++ [(n, xs)]) → Below B w w' → K (a.put o.dst v') w') : if Region.wanted o (yielded ops a.tmps) = true then Oper.wp Try.prog o a w K Q else E := by
  have hw : Region.wanted o (yielded ops a.tmps) = true := by simp [Region.wanted, hgd]
  rw [if_pos hw]
  obtain ⟨v', w', hr, h2, h3⟩ := TagO.append hown hT hBT hrow hd hn o.type
  unfold Oper.wp execOp
  simp only [ho, resolve, invoke, builtin, Sem.run_bind, Sem.run_pure, Result.andThen_ok, List.map_toArray, List.map_cons, List.map_nil, hs, hx, hr]
  exact h _ _ h2 h3
end Go.Proofs.Ytknhfogblfogaaa
