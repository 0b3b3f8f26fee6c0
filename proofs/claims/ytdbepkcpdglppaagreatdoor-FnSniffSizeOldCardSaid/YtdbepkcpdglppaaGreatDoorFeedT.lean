/- impl.FeedTake, spec.FeedTake. -/
import Derived.Test.YtdbepkcpdglppaaGreatDoorSniffZ
import Derived.Test.YtdbepkcpdglppaaGreatDoorGC
import Derived.Test.YtdbepkcpdglppaaGreatDoorGP
import Derived.Deep.RegionHeld3
import Derived.ArgAppend
namespace Go.Proofs.YtdbepkcpdglppaaGreatDoor
open Go.RowKit
/-- append to an empty literal: no old block turns. -/
theorem appE {w : World} {m : Nat} (hb : w.heap[m]? = some (.cells #[] 3 (0, 0))) {x : Value} {ys : List Int} (hx : IntS w x ys) (hl : ys.length ≤ 1000000000) (ty : Nat) :
    ∃ p c w', (Builtin.append_ #[23, 23] ty #[.slice (some ⟨m, 0, none⟩) 0 0, x]).run Tryz.prog w = .ok (.slice p ys.length c) w' ∧ Gr w w' ∧ IntO m 3 w' (.slice p ys.length c) ys := by
  obtain ⟨i, hi, hz, hs, hby⟩ := infoI
  have hmt : Own m 3 1 w (.slice (some ⟨m, 0, none⟩) 0 0) 0 (ints []) := ⟨rfl, .inr ⟨m, 0, #[], rfl, Nat.le_refl _, hb, Nat.le_refl _, by decide, by simp, by simp [ints]⟩⟩
  have hlt : m < w.heap.size := (Array.getElem?_eq_some_iff.1 hb).1
  obtain ⟨hl0, p, cap, rfl, c1, c2, c3, c4⟩ := hx
  by_cases h0 : ys = []
  · subst h0
    cases p with
    | none =>
      obtain rfl := c3 rfl
      exact ⟨_, _, w, run_append_owned_none w m 23 ty 3 i 1 uI hi _ 0 _ hmt, Gr.refl _, hmt⟩
    | some a =>
      refine ⟨some ⟨m, 0, none⟩, 0, w, ?_, Gr.refl _, hmt⟩
      have hr := run_append_room_cells (P := Tryz.prog) w 23 ty 3 i uI hi m 0 0 0 a 0 cap [] (by simp) (by simp) (by simp) (Nat.le_refl _) (by simp) (by simp)
      exact hr
  · cases p with
    | none => exact absurd (List.eq_nil_of_length_eq_zero (by have := c3 rfl; omega)) h0
    | some a =>
      have hpos : 0 < ys.length := by
        cases ys with
        | nil => exact absurd rfl h0
        | cons => simp
      obtain ⟨v', w', hr, q1, _, _, q4⟩ := run_append_own_at (P := Tryz.prog) w m 23 ty 3 i _ 1 8 uI hi hz hs hby rfl (by decide) _ 0 (ints []) hmt a ys.length cap (ints ys) (by rw [ints_length]; omega) (c4 a rfl) (ints_one _) (by unfold maxLen; omega) (by omega) (by omega)
      have hfit : Builtin.nextslicecap (0 + ys.length) 0 * i.bytes ≤ 281474976710656 := by
        have hc : Builtin.nextslicecap (0 + ys.length) 0 = ys.length := by
          unfold Builtin.nextslicecap
          simp
          intro h
          exact absurd h h0
        rw [hc, hby]; omega
      have hg := run_append_grow (P := Tryz.prog) w 23 ty 3 i _ uI hi hz ⟨m, 0, none⟩ 0 0 [] (by simp) (by simp) a ys.length cap (ints ys) (by rw [ints_length, hs]; omega) (c4 a rfl) (by omega) (by omega) hfit
      rw [hr] at hg
      injection hg with e1 e2
      subst e1
      refine ⟨some ⟨w.heap.size, 0, none⟩, grownCap w (0 + ys.length) 0 3, w', by rw [hr, Nat.zero_add], by rw [e2]; exact ((Gr.refl w).drew).alloc _, ?_⟩
      unfold IntO
      generalize grownCap w (0 + ys.length) 0 3 = gc at *
      rw [Nat.zero_add] at q1
      exact q1
theorem step_appE {w : World} {ops : Array Oper} {o : Oper} {a : Act} {K : Act → World → Prop} {Q : Exit → Act → World → Prop} {E : Prop} (hgd : o.guard = none) (s x : Operand)
    (ho : o.op = .call { callee := .builtin .append, args := #[s, x], argTypes := #[23, 23] })
    {m : Nat} (hs : a.eval s = .slice (some ⟨m, 0, none⟩) 0 0) {xv : Value} {ys : List Int} (hx : a.eval x = xv) (hb : w.heap[m]? = some (.cells #[] 3 (0, 0))) (hrow : IntS w xv ys) (hl : ys.length ≤ 1000000000)
    (h : ∀ p c w', IntO m 3 w' (.slice p ys.length c) ys → Gr w w' → K (a.put o.dst (.slice p ys.length c)) w') : if Region.wanted o (yielded ops a.tmps) = true then Oper.wp Tryz.prog o a w K Q else E := by
  have hw : Region.wanted o (yielded ops a.tmps) = true := by simp [Region.wanted, hgd]
  rw [if_pos hw]
  obtain ⟨p, c, w', hr, h2, h3⟩ := appE hb hrow hl o.type
  unfold Oper.wp execOp
  simp only [ho, resolve, invoke, builtin, Sem.run_bind, Sem.run_pure, Result.andThen_ok, List.map_toArray, List.map_cons, List.map_nil, hs, hx, hr]
  exact h p c w' h3 h2
/-- A frame, and what is behind it. -/
def fsA (xs : List Int) : List Int := match sniffSize xs with | some n => xs.take n | none => []
def fsB (xs : List Int) : List Int := match sniffSize xs with | some n => xs.drop n | none => []
theorem fsA_some {xs : List Int} {n : Nat} (h : sniffSize xs = some n) : fsA xs = xs.take n ∧ fsB xs = xs.drop n := by unfold fsA fsB; rw [h]; exact ⟨rfl, rfl⟩
theorem fsA_none {xs : List Int} (h : sniffSize xs = none) : fsA xs = [] ∧ fsB xs = [] := by unfold fsA fsB; rw [h]; exact ⟨rfl, rfl⟩
/-- The program's way: both in memory of their own. -/
def FtI (us vs : List Int) (ok : Bool) (w : World) (e : Ending) (w' : World) : Prop :=
  ∃ (p : Option Addr) (c : Nat) (q : Option Addr) (d B1 T1 B2 T2 : Nat), e = .returned (.tuple #[.slice p us.length c, .slice q vs.length d, .bool ok]) ∧ IntB B1 T1 3 w' (.slice p us.length c) us ∧ IntB B2 T2 3 w' (.slice q vs.length d) vs ∧
    w.heap.size ≤ B1 ∧ w.heap.size ≤ B2 ∧ (T1 ≤ B2 ∨ T2 ≤ B1) ∧ T1 ≤ w'.heap.size ∧ T2 ≤ w'.heap.size ∧ Gr w w'
/-- The reference's way. -/
def FtS (us vs : List Int) (ok : Bool) (w : World) (e : Ending) (w' : World) : Prop :=
  ∃ (p : Option Addr) (c : Nat) (q : Option Addr) (d : Nat), e = .returned (.tuple #[.slice p us.length c, .slice q vs.length d, .bool ok]) ∧ IntO w.heap.size 3 w' (.slice p us.length c) us ∧ IntO w.heap.size 3 w' (.slice q vs.length d) vs ∧ Gr w w'
theorem IntS.preI {w : World} {v : Value} {xs : List Int} (h : IntS w v xs) {k : Nat} (hk : k ≤ xs.length) {ki : Int} (hki : ki = (k : Int)) :
    ∃ v' : Value, (∀ w1, (Instr.slice 23 v none (some (.int .i64 ki)) none).run Tryz.prog w1 = .ok v' w1) ∧ IntS w v' (xs.take k) := by subst hki; exact h.pre hk
theorem IntS.sufI {w : World} {v : Value} {xs : List Int} (h : IntS w v xs) {k : Nat} (hk : k ≤ xs.length) {ki : Int} (hki : ki = (k : Int)) :
    ∃ v' : Value, (∀ w1, (Instr.slice 23 v (some (.int .i64 ki)) none none).run Tryz.prog w1 = .ok v' w1) ∧ IntS w v' (xs.drop k) := by subst hki; exact h.suf hk
theorem CloneG {w : World} {v : Value} {xs : List Int} (h : IntS w v xs) (hb : xs.length ≤ 1000000000) : Hid (∀ W, Gr w W → Calls Tryz.prog 127 #[v] W fun e w' => ∃ p c, e = .returned (.slice p xs.length c) ∧ IntO W.heap.size 3 w' (.slice p xs.length c) xs ∧ Gr W w') :=
  Lib.hid fun _ g => (Clone_c (h.kept g) (by omega)).mono fun e w' hh => by
    obtain ⟨v', rfl, ho, hg⟩ := hh
    obtain ⟨p, c, rfl⟩ := ho.len
    exact ⟨p, c, rfl, ho, hg⟩
end Go.Proofs.YtdbepkcpdglppaaGreatDoor
