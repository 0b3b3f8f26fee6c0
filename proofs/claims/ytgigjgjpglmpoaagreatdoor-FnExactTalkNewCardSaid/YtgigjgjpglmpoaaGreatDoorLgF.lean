/- Slices of logins in memory of their own; slices.Clone of logins. -/
import Derived.Test.YtgigjgjpglmpoaaGreatDoorGV
import Derived.Test.YtgigjgjpglmpoaaGreatDoorAppE
import Derived.Test.YtgigjgjpglmpoaaGreatDoorGA
namespace Go.Proofs.YtgigjgjpglmpoaaGreatDoor
open Go.RowKit
theorem lgs_len (ls : List Lg) : (lgs ls).length = ls.length * 2 := by
  induction ls with
  | nil => rfl
  | cons l r ih => simp only [lgs, List.map_cons, List.flatten_cons, List.length_append] at ih ⊢; rw [ih]; simp; omega
theorem lgs_one (ls : List Lg) : ∀ u ∈ lgs ls, u.oneCell' = true := by
  intro u hu
  unfold lgs at hu
  rw [List.mem_flatten] at hu
  obtain ⟨c, hc, hu⟩ := hu
  obtain ⟨l, _, rfl⟩ := List.mem_map.1 hc
  simp at hu
  rcases hu with rfl | rfl <;> rfl
/-- Logins in memory of their own. -/
def LgO (B : Nat) (w : World) (v : Value) (ls : List Lg) : Prop := Own B 43 2 w v ls.length (lgs ls)
theorem LgO.s {B : Nat} {w : World} {v : Value} {ls : List Lg} (h : LgO B w v ls) : LgS w v ls := Own.row h
theorem LgO.kept {B : Nat} {w w' : World} {v : Value} {ls : List Lg} (h : LgO B w v ls) (hg : Gr w w') : LgO B w' v ls := Own.kept h hg
theorem LgO.mono {B B' : Nat} {w : World} {v : Value} {ls : List Lg} (h : LgO B w v ls) (hB : B' ≤ B) : LgO B' w v ls := Own.mono h hB
theorem LgO.len {B : Nat} {w : World} {v : Value} {ls : List Lg} (h : LgO B w v ls) : ∃ p cap, v = .slice p ls.length cap := by
  obtain ⟨p, cap, h1, _⟩ := h.s.form
  exact ⟨p, cap, h1⟩
theorem LgO.nil (B : Nat) (w : World) : LgO B w (.slice none 0 0) [] := World.ownsRow_nil w B _ 2
theorem LgO.mt {w : World} {m : Nat} (hm : m = w.heap.size) : LgO w.heap.size (w.alloc (.cells #[] 43)) (.slice (some ⟨m, 0, none⟩) 0 0) [] := by subst hm; exact Own.lit w #[] 0 (Nat.le_refl _) (by decide) rfl
theorem LgO.keptD {B g : Nat} {w w' : World} {v : Value} {ls : List Lg} (h : LgO B w v ls) (hd : D g w w') (hB : g < B) : LgO B w' v ls := Own.keptD h hd hB
/-- append to an empty literal: no old block turns. -/
theorem appEL {w : World} {m : Nat} (hb : w.heap[m]? = some (.cells #[] 43 (0, 0))) {x : Value} {ls : List Lg} (hx : LgS w x ls) (hl : ls.length ≤ 2000000) (ty : Nat) :
    ∃ p c w', (Builtin.append_ #[25, 25] ty #[.slice (some ⟨m, 0, none⟩) 0 0, x]).run Tryz.prog w = .ok (.slice p ls.length c) w' ∧ Gr w w' ∧ LgO m w' (.slice p ls.length c) ls := by
  obtain ⟨i, hi, hz, hs, hby⟩ := infoLg
  have hmt : Own m 43 2 w (.slice (some ⟨m, 0, none⟩) 0 0) 0 (lgs []) := ⟨rfl, .inr ⟨m, 0, #[], rfl, Nat.le_refl _, hb, Nat.le_refl _, by decide, by simp, by simp [lgs]⟩⟩
  have hlt : m < w.heap.size := (Array.getElem?_eq_some_iff.1 hb).1
  have hll := lgs_len ls
  obtain ⟨hl0, p, cap, rfl, c1, c2, c3, c4⟩ := hx
  by_cases h0 : ls = []
  · subst h0
    cases p with
    | none =>
      obtain rfl := c3 rfl
      exact ⟨_, _, w, run_append_owned_none w m 25 ty 43 i 2 uLg hi _ 0 _ hmt, Gr.refl _, hmt⟩
    | some a =>
      refine ⟨some ⟨m, 0, none⟩, 0, w, ?_, Gr.refl _, hmt⟩
      have hr := run_append_room_cells (P := Tryz.prog) w 25 ty 43 i uLg hi m 0 0 0 a 0 cap [] (by simp) (by simp) (by simp) (Nat.le_refl _) (by simp) (by simp)
      exact hr
  · cases p with
    | none => exact absurd (List.eq_nil_of_length_eq_zero (by have := c3 rfl; omega)) h0
    | some a =>
      have hpos : 0 < ls.length := by
        cases ls with
        | nil => exact absurd rfl h0
        | cons => simp
      obtain ⟨v', w', hr, q1, _, _, q4⟩ := run_append_own_at (P := Tryz.prog) w m 25 ty 43 i _ 2 32 uLg hi hz hs hby rfl (by decide) _ 0 (lgs []) hmt a ls.length cap (lgs ls) (by rw [lgs_len]) (c4 a rfl) (lgs_one _) (by unfold maxLen; omega) (by omega) (by omega)
      have hfit : Builtin.nextslicecap (0 + ls.length) 0 * i.bytes ≤ 281474976710656 := by
        have hc : Builtin.nextslicecap (0 + ls.length) 0 = ls.length := by
          unfold Builtin.nextslicecap
          simp
          intro h
          exact absurd h h0
        rw [hc, hby]; omega
      have hg := run_append_grow (P := Tryz.prog) w 25 ty 43 i _ uLg hi hz ⟨m, 0, none⟩ 0 0 [] (by simp) (by simp) a ls.length cap (lgs ls) (by rw [lgs_len, hs]) (c4 a rfl) (by omega) (by omega) hfit
      rw [hr] at hg
      injection hg with e1 e2
      subst e1
      refine ⟨some ⟨w.heap.size, 0, none⟩, grownCap w (0 + ls.length) 0 43, w', by rw [hr, Nat.zero_add], by rw [e2]; exact ((Gr.refl w).drew).alloc _, ?_⟩
      unfold LgO
      generalize grownCap w (0 + ls.length) 0 43 = gc at *
      rw [Nat.zero_add] at q1
      exact q1
theorem step_appEL {w : World} {ops : Array Oper} {o : Oper} {a : Act} {K : Act → World → Prop} {Q : Exit → Act → World → Prop} {E : Prop} (hgd : o.guard = none) (s x : Operand)
    (ho : o.op = .call { callee := .builtin .append, args := #[s, x], argTypes := #[25, 25] })
    {m : Nat} (hs : a.eval s = .slice (some ⟨m, 0, none⟩) 0 0) {xv : Value} {ls : List Lg} (hx : a.eval x = xv) (hb : w.heap[m]? = some (.cells #[] 43 (0, 0))) (hrow : LgS w xv ls) (hl : ls.length ≤ 2000000)
    (h : ∀ p c w', LgO m w' (.slice p ls.length c) ls → Gr w w' → K (a.put o.dst (.slice p ls.length c)) w') : if Region.wanted o (yielded ops a.tmps) = true then Oper.wp Tryz.prog o a w K Q else E := by
  have hw : Region.wanted o (yielded ops a.tmps) = true := by simp [Region.wanted, hgd]
  rw [if_pos hw]
  obtain ⟨p, c, w', hr, h2, h3⟩ := appEL hb hrow hl o.type
  unfold Oper.wp execOp
  simp only [ho, resolve, invoke, builtin, Sem.run_bind, Sem.run_pure, Result.andThen_ok, List.map_toArray, List.map_cons, List.map_nil, hs, hx, hr]
  exact h p c w' h3 h2
theorem wpl_appEL {w : World} {ops : Array Oper} {rest : List Oper} {o : Oper} {a : Act} {Q : Exit → Act → World → Prop} (hgd : o.guard = none) (s x : Operand)
    (ho : o.op = .call { callee := .builtin .append, args := #[s, x], argTypes := #[25, 25] })
    {m : Nat} (hs : a.eval s = .slice (some ⟨m, 0, none⟩) 0 0) {xv : Value} {ls : List Lg} (hx : a.eval x = xv) (hb : w.heap[m]? = some (.cells #[] 43 (0, 0))) (hrow : LgS w xv ls) (hl : ls.length ≤ 2000000)
    (h : ∀ p c w', LgO m w' (.slice p ls.length c) ls → Gr w w' → wpList Tryz.prog ops Q rest (a.put o.dst (.slice p ls.length c)) w') : wpList Tryz.prog ops Q (o :: rest) a w := by
  refine wpList_plain hgd fun K hK => ?_
  obtain ⟨p, c, w', hr, h2, h3⟩ := appEL hb hrow hl o.type
  unfold Oper.wp execOp
  simp only [ho, resolve, invoke, builtin, Sem.run_bind, Sem.run_pure, Result.andThen_ok, List.map_toArray, List.map_cons, List.map_nil, hs, hx, hr]
  exact hK _ _ (h p c w' h3 h2)
theorem CloneL_c {w : World} {v : Value} {ls : List Lg} (h : LgS w v ls) (hb : ls.length ≤ 2000000) :
    Calls Tryz.prog 28 #[v] w fun e w' => ∃ v', e = .returned v' ∧ LgO w.heap.size w' v' ls ∧ Gr w w' := by
  obtain ⟨hl0, p, cap, rfl, hl1, hl2, hl3, hl4⟩ := id h
  cases p with
  | none =>
    obtain rfl := hl3 rfl
    obtain rfl : ls = [] := List.eq_nil_of_length_eq_zero (by omega)
    clear hl0 hl1 hl2 hl3 hl4
    have he : ∀ w1, (binOp .eql 25 (.slice none 0 0) (.slice none 0 0)).run Tryz.prog w1 = .ok (.bool true) w1 := fun w1 => by kernel_rfl
    go_enter Tryz.func28, Tryz.ntmps28
    go_wp2
    go_ret
    exact ⟨_, rfl, LgO.nil _ _, Gr.refl _⟩
  | some a =>
    clear hl0 hl1 hl2 hl3 hl4
    have he : ∀ w1, (binOp .eql 25 (.slice (some a) ls.length cap) (.slice none 0 0)).run Tryz.prog w1 = .ok (.bool false) w1 := fun w1 => Lib.run_eql_slice_nil w1 25 43 (some a) ls.length cap 0 0 uLg
    go_enter Tryz.func28, Tryz.ntmps28
    go_wp2_with (at_builtin; refine wpl_appEL rfl (.tmp 5) (.tmp 6) rfl rfl rfl (heap_alloc_new w _) (h.kept (gr_alloc w _)) hb ?_; intro p1 c1 w1 o1 g1)
    go_ret
    exact ⟨_, rfl, o1, (gr_alloc w _).trans g1⟩
end Go.Proofs.YtgigjgjpglmpoaaGreatDoor
