/- append of one number, with all that it leaves alone. -/
import Derived.Test.YtknhfogblfogaaaChg
namespace Go.Proofs.Ytknhfogblfogaaa
open Go.RowKit
theorem IntO.app {B : Nat} {w : World} {v : Value} {xs : List Int} (h : IntO B 3 w v xs) (hB : B ≤ w.heap.size) {x : Value} {n : Int} (hx : Row w 1 x 1 [.int .i64 n]) (hn : xs.length ≤ 1000000) (ty : Nat) :
    ∃ v' w', (Builtin.append_ #[22, 22] ty #[v, x]).run Try.prog w = .ok v' w' ∧ IntO B 3 w' v' (xs ++ [n]) ∧ Below B w w' ∧
      (∀ b, b < w.heap.size → v.ownBlock ≠ some b → w'.heap[b]? = w.heap[b]?) ∧ (∀ b, v'.ownBlock = some b → v.ownBlock = some b ∨ b = w.heap.size) := by
  obtain ⟨i, hi, hz, hs, hby⟩ := infoI
  obtain ⟨hl, p, cap, rfl, c1, c2, c3, c4⟩ := hx
  cases p with
  | none => have := c3 rfl; omega
  | some a =>
    obtain ⟨v', w', hr, q1, q2, _, q4⟩ := run_append_own_at (P := Try.prog) w B 22 ty 3 i _ 1 8 uI hi hz hs hby rfl (by decide) v xs.length (ints xs) h a 1 cap [.int .i64 n] rfl (c4 a rfl) (by simp [Value.oneCell']) (by unfold maxLen; omega) (by omega) hB
    have hb : Below B w w' := (Below.refl B w).grown q2 hB (fun k hk => (h.blk k hk).1)
    refine ⟨v', w', hr, ?_, hb, fun b hb1 hne => q2.block b hb1 (fun e => hne e.symm), fun b hb1 => ?_⟩
    · unfold IntO; rw [ints_append, List.length_append]; exact q1
    · rcases q4 with q4 | q4
      · exact .inl (by rw [← q4]; exact hb1)
      · rw [q4] at hb1; exact .inr (Option.some.inj hb1).symm
theorem wpl_app1 {w : World} {ops : Array Oper} {rest : List Oper} {o : Oper} {a : Act} {Q : Exit → Act → World → Prop} (hgd : o.guard = none) (s x : Operand)
    (ho : o.op = .call { callee := .builtin .append, args := #[s, x], argTypes := #[22, 22] })
    {B : Nat} {v : Value} {xs : List Int} (hs : a.eval s = v) (hown : IntO B 3 w v xs) (hB : B ≤ w.heap.size) {xv : Value} {n : Int} (hx : a.eval x = xv)
    (hrow : Row w 1 xv 1 [.int .i64 n]) (hn : xs.length ≤ 1000000)
    (h : ∀ v' w', IntO B 3 w' v' (xs ++ [n]) → Below B w w' → (∀ b, b < w.heap.size → v.ownBlock ≠ some b → w'.heap[b]? = w.heap[b]?) → (∀ b, v'.ownBlock = some b → v.ownBlock = some b ∨ b = w.heap.size) → wpList Try.prog ops Q rest (a.put o.dst v') w') : wpList Try.prog ops Q (o :: rest) a w := by
  refine wpList_plain hgd fun K hK => ?_
  obtain ⟨v', w', hr, h2, h3, h4, h5⟩ := IntO.app hown hB hrow hn o.type
  unfold Oper.wp execOp
  simp only [ho, resolve, invoke, builtin, Sem.run_bind, Sem.run_pure, Result.andThen_ok, List.map_toArray, List.map_cons, List.map_nil, hs, hx, hr]
  exact hK _ _ (h v' w' h2 h3 h4 h5)
end Go.Proofs.Ytknhfogblfogaaa
