/- append at a step of a region that draws, with all that it leaves alone; what is appended may be empty. -/
import Derived.Test.YtdbepkcpdglppaaGreatDoorGC
import Derived.Test.YtdbepkcpdglppaaGreatDoorGE
import Derived.Test.YtdbepkcpdglppaaGreatDoorGA
namespace Go.Proofs.YtdbepkcpdglppaaGreatDoor
open Go.RowKit
theorem step_appH {w : World} {ops : Array Oper} {o : Oper} {a : Act} {K : Act → World → Prop} {Q : Exit → Act → World → Prop} {E : Prop} (hgd : o.guard = none) (s x : Operand)
    (ho : o.op = .call { callee := .builtin .append, args := #[s, x], argTypes := #[23, 23] })
    {B : Nat} {v : Value} {xs : List Int} (hs : a.eval s = v) (hown : IntO B 3 w v xs) {xv : Value} {ys : List Int} (hx : a.eval x = xv) (hrow : IntS w xv ys)
    (hb : xs.length + ys.length ≤ 1000000) (hB : B ≤ w.heap.size)
    (h : ∀ v' w', IntO B 3 w' v' (xs ++ ys) → Below B w w' → (∀ b, b < w.heap.size → v.ownBlock ≠ some b → w'.heap[b]? = w.heap[b]?) → (∀ b, v'.ownBlock = some b → v.ownBlock = some b ∨ b = w.heap.size) → K (a.put o.dst v') w') : if Region.wanted o (yielded ops a.tmps) = true then Oper.wp Tryz.prog o a w K Q else E := by
  have hw : Region.wanted o (yielded ops a.tmps) = true := by simp [Region.wanted, hgd]
  rw [if_pos hw]
  obtain ⟨i, hi, hz, hs', hby⟩ := infoI
  obtain ⟨hl, p', cap, rfl, c1, c2, c3, c4⟩ := hrow
  cases p' with
  | none =>
    have hy0 : ys = [] := List.eq_nil_of_length_eq_zero (by have := c3 rfl; omega)
    subst hy0
    have hr : (Builtin.append_ #[23, 23] o.type #[v, .slice none 0 cap]).run Tryz.prog w = .ok v w := run_append_owned_none (P := Tryz.prog) w B 23 o.type 3 i 1 uI hi v xs.length (ints xs) hown
    unfold Oper.wp execOp
    simp only [List.length_nil] at hx
    simp only [ho, resolve, invoke, builtin, Sem.run_bind, Sem.run_pure, Result.andThen_ok, List.map_toArray, List.map_cons, List.map_nil, hs, hx, hr]
    exact h v w (by rw [List.append_nil]; exact hown) (Below.refl B w) (fun _ _ _ => rfl) (fun b hb => .inl hb)
  | some ad =>
    obtain ⟨v', w', hr, q1, q2, _, q4⟩ := run_append_own_at (P := Tryz.prog) w B 23 o.type 3 i _ 1 8 uI hi hz hs' hby rfl (by decide) v xs.length (ints xs) hown ad ys.length cap (ints ys) (by rw [ints_length]; omega) (c4 ad rfl) (ints_one _) (by unfold maxLen; omega) (by omega) hB
    have hbl : Below B w w' := (Below.refl B w).grown q2 hB (fun k hk => (hown.blk k hk).1)
    unfold Oper.wp execOp
    simp only [ho, resolve, invoke, builtin, Sem.run_bind, Sem.run_pure, Result.andThen_ok, List.map_toArray, List.map_cons, List.map_nil, hs, hx, hr]
    have hv' : ∀ b, v'.ownBlock = some b → v.ownBlock = some b ∨ b = w.heap.size := by
      intro b hb1
      rcases q4 with q4 | q4
      · exact .inl (by rw [← q4]; exact hb1)
      · rw [q4] at hb1; exact .inr (Option.some.inj hb1).symm
    refine h _ _ ?_ hbl (fun b hb1 hne => q2.block b hb1 (fun e => hne e.symm)) hv'
    unfold IntO; rw [ints_append, List.length_append]; exact q1
theorem oneS {w : World} {b : Nat} {n : Int} (h : w.heap[b]? = some (.cells #[.int .i64 n] 3)) : IntS w (.slice (some ⟨b, 0, none⟩) 1 1) [n] :=
  IntO.s (B := 0) (e := 3) ⟨rfl, .inr ⟨b, 1, _, rfl, Nat.zero_le _, h, by simp, by decide, rfl, rfl⟩⟩
/-- An owned slice stands in no block that comes later. -/
theorem own_ne {B : Nat} {w : World} {v : Value} {xs : List Int} (h : IntO B 3 w v xs) : v.ownBlock ≠ some w.heap.size := fun e => by have := (h.blk _ e).2; omega
theorem own_ne2 {B : Nat} {w W : World} {v v' : Value} {xs : List Int} (h : IntO B 3 w v xs) (hv : ∀ b, v'.ownBlock = some b → v.ownBlock = some b ∨ b = W.heap.size) (hW : w.heap.size < W.heap.size) : v'.ownBlock ≠ some w.heap.size := fun e => by
  rcases hv _ e with e | e
  · exact own_ne h e
  · omega
end Go.Proofs.YtdbepkcpdglppaaGreatDoor
