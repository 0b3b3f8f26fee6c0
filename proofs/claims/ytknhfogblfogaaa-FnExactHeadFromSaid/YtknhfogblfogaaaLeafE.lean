/- Contracts: slices.Grow of nil, and slices.Concat over ints. -/
import Derived.Test.YtknhfogblfogaaaLeafD
namespace Go.Proofs.Ytknhfogblfogaaa
open Go.RowKit
/-- append(nil, make([]T, n)...), n > 0. -/
theorem append_made {P : Program} (w : World) {t ti ty e : TypeId} {i : TypeInfo} {z : Value} {k : IntKind} (ht : P.underlying t = some (.slice e)) (hti : P.underlying ti = some (.int k)) (hi : P.info? e = some i) (hz : i.zero = some z)
    (hsz : i.size = 1) (hzc : z.cells = #[z]) {n : Nat} (h0 : 0 < n) (hn : n * i.bytes ≤ 140737488355328) (hn' : n ≤ 140737488355328) :
    ∃ cap cur, (Builtin.append_ #[t, ti] ty #[.slice none 0 0, .int .i64 (n : Int)]).run P w = .ok (.slice (some ⟨w.heap.size, 0, none⟩) n cap) (w.drew.alloc (.cells cur e)) ∧ n ≤ cap ∧ cap ≤ maxLen ∧ cur.size = cap * 1 := by
  have hge := grownCap_ge w n 0 e
  have hcm : grownCap w n 0 e ≤ maxLen := grownCap_le_maxLen w n 0 e (by unfold maxLen; omega)
  refine ⟨grownCap w n 0 e, Builtin.zeroCells z.cells n ++ Builtin.zeroCells z.cells (grownCap w n 0 e - n), ?_, hge, hcm, ?_⟩
  · have hw : IntKind.i64.wrap (n : Int) = n := IntWalk.i64_in _ ⟨by omega, by omega⟩
    have h48 : ¬ (281474976710656 < Builtin.nextslicecap n 0 * i.bytes) := by
      have := growslice_fits (need := n) (old := 0) (bytes := i.bytes) h0 hn; omega
    have hb : ¬ ((281474976710656 : Int) < (n : Int) * (i.bytes : Int)) := by
      have : ((n * i.bytes : Nat) : Int) ≤ 140737488355328 := by omega
      rw [Int.natCast_mul] at this; omega
    have h63 : ¬ (9223372036854775807 < (n : Int)) := by omega
    simp [Builtin.append_, run_underlying ht, run_underlying hti, sizeOf, typeInfo, zeroValue, hi, hz, hsz, asInt, asIntOf, hw, hb, h48, h63, show ¬ n = 0 by omega, show ¬ ((n : Int) < 0) by omega, Question.forced, Builtin.firstCells, newRow, grownCap]
  · simp only [Array.size_append, size_zeroCells, hzc]; simp; omega

theorem wpl_append_made {P : Program} (w : World) {ops : Array Oper} {rest : List Oper} {o : Oper} {a : Act} {Q : Exit → Act → World → Prop} (hgd : o.guard = none) (s x : Operand) (t ti : TypeId)
    (ho : o.op = .call { callee := .builtin .append, args := #[s, x], argTypes := #[t, ti] })
    {e : TypeId} {i : TypeInfo} {z : Value} {k : IntKind} (ht : P.underlying t = some (.slice e)) (hti : P.underlying ti = some (.int k)) (hi : P.info? e = some i) (hz : i.zero = some z)
    (hsz : i.size = 1) (hzc : z.cells = #[z]) {n : Nat} (h0 : 0 < n) (hn : n * i.bytes ≤ 140737488355328) (hn' : n ≤ 140737488355328)
    (hs : a.eval s = .slice none 0 0) (hx : a.eval x = .int .i64 (n : Int))
    (h : ∀ cap cur, n ≤ cap → Own w.heap.size e 1 (w.drew.alloc (.cells cur e)) (.slice (some ⟨w.heap.size, 0, none⟩) 0 cap) 0 [] → wpList P ops Q rest (a.put o.dst (.slice (some ⟨w.heap.size, 0, none⟩) n cap)) (w.drew.alloc (.cells cur e))) :
    wpList P ops Q (o :: rest) a w := by
  refine wpList_plain hgd fun K hK => ?_
  obtain ⟨cap, cur, hr, h1, h2, h3⟩ := append_made (P := P) w (ty := o.type) ht hti hi hz hsz hzc h0 hn hn'
  unfold Oper.wp execOp
  simp only [ho, resolve, invoke, builtin, Sem.run_bind, Sem.run_pure, Result.andThen_ok, List.map_toArray, List.map_cons, List.map_nil, hs, hx, hr]
  exact hK _ _ (h cap cur h1 (World.ownsRow_made w.drew cur cap (Nat.le_refl _) h2 h3))
theorem wpl_appI {w : World} {ops : Array Oper} {rest : List Oper} {o : Oper} {a : Act} {Q : Exit → Act → World → Prop} (hgd : o.guard = none) (s x : Operand)
    (ho : o.op = .call { callee := .builtin .append, args := #[s, x], argTypes := #[22, 22] })
    {B : Nat} {v : Value} {xs : List Int} (hs : a.eval s = v) (hown : IntO B 3 w v xs) {xv : Value} {ys : List Int} (hx : a.eval x = xv) (hrow : IntS w xv ys)
    (hb : xs.length + ys.length ≤ 1000000000000) (hB : B ≤ w.heap.size)
    (h : ∀ v' w', IntO B 3 w' v' (xs ++ ys) → Below B w w' → wpList Try.prog ops Q rest (a.put o.dst v') w') : wpList Try.prog ops Q (o :: rest) a w := by
  obtain ⟨i0, hi, hz, hs', hby⟩ := infoI
  refine wpl_append w hgd s x _ ho uI hi hz hs' hby rfl (by decide) (by decide) hs hown hx hrow (ints_one _) (by omega) hB fun v' w' h1 h2 => h v' w' ?_ h2
  unfold IntO; rw [ints_append, List.length_append]; exact h1
theorem wpl_makeI {w : World} {ops : Array Oper} {rest : List Oper} {o : Oper} {a : Act} {Q : Exit → Act → World → Prop} (hgd : o.guard = none) (l c : Operand)
    (ho : o.op = Op.makeSlice 22 l c) {n : Nat} (hl : a.eval l = .int .i64 (n : Int)) (hc : a.eval c = .int .i64 (n : Int)) (hn : n ≤ 1000000000000)
    (h : ∀ (p : Option Addr) w', IntO w.heap.size 3 w' (.slice p n n) (List.replicate n 0) → Gr w w' → wpList Try.prog ops Q rest (a.put o.dst (.slice p n n)) w') : wpList Try.prog ops Q (o :: rest) a w := by
  obtain ⟨i0, hi, hz, hs', hby⟩ := infoI
  refine wpList_make_full w hgd l c _ ho w.heap.size _ i0 _ 1 uI hi hz hs' .i64 .i64 n n n hl hc rfl rfl (by rw [hby]; omega) (by unfold maxLen; omega) (Nat.le_refl _)
    fun w' h1 h2 => h _ w' ?_ ((Below.refl _ w).grown h2 (Nat.le_refl _) (by simp))
  unfold IntO; rw [List.length_replicate, ← made_ints]; exact h1
theorem IntO.mt (w : World) : IntO w.heap.size 3 (w.alloc (.cells #[] 3)) (.slice (some ⟨w.heap.size, 0, none⟩) 0 0) [] := Own.lit w #[] 0 (Nat.le_refl _) (by decide) rfl
theorem gr_alloc (w : World) (o : Obj) : Gr w (w.alloc o) := (Gr.refl w).alloc o
theorem uInt : Try.prog.underlying 3 = some (.int .i64) := by kernel_rfl
set_option maxRecDepth 20000 in
theorem Grow_c (w : World) (n : Nat) (hn : n ≤ 1000000000000) :
    Calls Try.prog 76 #[.slice none 0 0, .int .i64 (n : Int)] w fun e w' => ∃ v', e = .returned v' ∧ IntO w.heap.size 3 w' v' [] ∧ Gr w w' := by
  obtain ⟨i0, hi, hz, hs, hby⟩ := infoI
  by_cases h0 : 0 < n
  · go_enter Try.func76, Try.ntmps76
    go_wp2_with (at_builtin; refine wpl_append_made _ rfl _ _ _ _ rfl uI uInt hi hz hs rfl h0 (by rw [hby]; omega) (by omega) rfl rfl ?_; intro cap cur h1 ho)
    go_ret
    exact ⟨_, rfl, ho, ((Gr.refl w).drew).alloc _⟩
  · obtain rfl : n = 0 := by omega
    go_enter Try.func76, Try.ntmps76
    go_wp2
    go_ret
    exact ⟨_, rfl, IntO.nil _ _ _, Gr.refl _⟩
end Go.Proofs.Ytknhfogblfogaaa
