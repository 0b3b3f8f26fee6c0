/- append to an empty literal. -/
import Derived.Test.YtgigjgjpglmpoaaGreatDoorGC
import Derived.Deep.RegionHeld3
import Derived.ArgAppend
namespace Go.Proofs.YtgigjgjpglmpoaaGreatDoor
open Go.RowKit
/-- append to an empty literal: no old block turns. -/
theorem appE {w : World} {m : Nat} (hb : w.heap[m]? = some (.cells #[] 3 (0, 0))) {x : Value} {ys : List Int} (hx : IntS w x ys) (hl : ys.length ≤ 1000000000) (ty : Nat) :
    ∃ p c w', (Builtin.append_ #[22, 22] ty #[.slice (some ⟨m, 0, none⟩) 0 0, x]).run Tryz.prog w = .ok (.slice p ys.length c) w' ∧ Gr w w' ∧ IntO m 3 w' (.slice p ys.length c) ys := by
  obtain ⟨i, hi, hz, hs, hby⟩ := infoI
  have hmt : Own m 3 1 w (.slice (some ⟨m, 0, none⟩) 0 0) 0 (ints []) := ⟨rfl, .inr ⟨m, 0, #[], rfl, Nat.le_refl _, hb, Nat.le_refl _, by decide, by simp, by simp [ints]⟩⟩
  have hlt : m < w.heap.size := (Array.getElem?_eq_some_iff.1 hb).1
  obtain ⟨hl0, p, cap, rfl, c1, c2, c3, c4⟩ := hx
  by_cases h0 : ys = []
  · subst h0
    cases p with
    | none =>
      obtain rfl := c3 rfl
      exact ⟨_, _, w, run_append_owned_none w m 22 ty 3 i 1 uI hi _ 0 _ hmt, Gr.refl _, hmt⟩
    | some a =>
      refine ⟨some ⟨m, 0, none⟩, 0, w, ?_, Gr.refl _, hmt⟩
      have hr := run_append_room_cells (P := Tryz.prog) w 22 ty 3 i uI hi m 0 0 0 a 0 cap [] (by simp) (by simp) (by simp) (Nat.le_refl _) (by simp) (by simp)
      exact hr
  · cases p with
    | none => exact absurd (List.eq_nil_of_length_eq_zero (by have := c3 rfl; omega)) h0
    | some a =>
      have hpos : 0 < ys.length := by
        cases ys with
        | nil => exact absurd rfl h0
        | cons => simp
      obtain ⟨v', w', hr, q1, _, _, q4⟩ := run_append_own_at (P := Tryz.prog) w m 22 ty 3 i _ 1 8 uI hi hz hs hby rfl (by decide) _ 0 (ints []) hmt a ys.length cap (ints ys) (by rw [ints_length]; omega) (c4 a rfl) (ints_one _) (by unfold maxLen; omega) (by omega) (by omega)
      have hfit : Builtin.nextslicecap (0 + ys.length) 0 * i.bytes ≤ 281474976710656 := by
        have hc : Builtin.nextslicecap (0 + ys.length) 0 = ys.length := by
          unfold Builtin.nextslicecap
          simp
          intro h
          exact absurd h h0
        rw [hc, hby]; omega
      have hg := run_append_grow (P := Tryz.prog) w 22 ty 3 i _ uI hi hz ⟨m, 0, none⟩ 0 0 [] (by simp) (by simp) a ys.length cap (ints ys) (by rw [ints_length, hs]; omega) (c4 a rfl) (by omega) (by omega) hfit
      rw [hr] at hg
      injection hg with e1 e2
      subst e1
      refine ⟨some ⟨w.heap.size, 0, none⟩, grownCap w (0 + ys.length) 0 3, w', by rw [hr, Nat.zero_add], by rw [e2]; exact ((Gr.refl w).drew).alloc _, ?_⟩
      unfold IntO
      generalize grownCap w (0 + ys.length) 0 3 = gc at *
      rw [Nat.zero_add] at q1
      exact q1
theorem step_appE {w : World} {ops : Array Oper} {o : Oper} {a : Act} {K : Act → World → Prop} {Q : Exit → Act → World → Prop} {E : Prop} (hgd : o.guard = none) (s x : Operand)
    (ho : o.op = .call { callee := .builtin .append, args := #[s, x], argTypes := #[22, 22] })
    {m : Nat} (hs : a.eval s = .slice (some ⟨m, 0, none⟩) 0 0) {xv : Value} {ys : List Int} (hx : a.eval x = xv) (hb : w.heap[m]? = some (.cells #[] 3 (0, 0))) (hrow : IntS w xv ys) (hl : ys.length ≤ 1000000000)
    (h : ∀ p c w', IntO m 3 w' (.slice p ys.length c) ys → Gr w w' → K (a.put o.dst (.slice p ys.length c)) w') : if Region.wanted o (yielded ops a.tmps) = true then Oper.wp Tryz.prog o a w K Q else E := by
  have hw : Region.wanted o (yielded ops a.tmps) = true := by simp [Region.wanted, hgd]
  rw [if_pos hw]
  obtain ⟨p, c, w', hr, h2, h3⟩ := appE hb hrow hl o.type
  unfold Oper.wp execOp
  simp only [ho, resolve, invoke, builtin, Sem.run_bind, Sem.run_pure, Result.andThen_ok, List.map_toArray, List.map_cons, List.map_nil, hs, hx, hr]
  exact h p c w' h3 h2
/-- .. where nothing is drawn. -/
theorem wpl_appE {w : World} {ops : Array Oper} {rest : List Oper} {o : Oper} {a : Act} {Q : Exit → Act → World → Prop} (hgd : o.guard = none) (s x : Operand)
    (ho : o.op = .call { callee := .builtin .append, args := #[s, x], argTypes := #[22, 22] })
    {m : Nat} (hs : a.eval s = .slice (some ⟨m, 0, none⟩) 0 0) {xv : Value} {ys : List Int} (hx : a.eval x = xv) (hb : w.heap[m]? = some (.cells #[] 3 (0, 0))) (hrow : IntS w xv ys) (hl : ys.length ≤ 1000000000)
    (h : ∀ p c w', IntO m 3 w' (.slice p ys.length c) ys → Gr w w' → wpList Tryz.prog ops Q rest (a.put o.dst (.slice p ys.length c)) w') : wpList Tryz.prog ops Q (o :: rest) a w := by
  refine wpList_plain hgd fun K hK => ?_
  obtain ⟨p, c, w', hr, h2, h3⟩ := appE hb hrow hl o.type
  unfold Oper.wp execOp
  simp only [ho, resolve, invoke, builtin, Sem.run_bind, Sem.run_pure, Result.andThen_ok, List.map_toArray, List.map_cons, List.map_nil, hs, hx, hr]
  exact hK _ _ (h p c w' h3 h2)
end Go.Proofs.YtgigjgjpglmpoaaGreatDoor
