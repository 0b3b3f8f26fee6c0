/- impl.FeedTake, spec.FeedTake. -/
import Derived.Test.YtncnnfmfpilonaaGreatDoorSniffZ
import Derived.Test.YtncnnfmfpilonaaGreatDoorGC
import Derived.Test.YtncnnfmfpilonaaGreatDoorGP
import Derived.Deep.RegionHeld3
import Derived.ArgAppend
namespace Go.Proofs.YtncnnfmfpilonaaGreatDoor
open Go.RowKit
/-- append to an empty literal: no old block turns. -/
theorem appE {w : World} {m : Nat} (hb : w.heap[m]? = some (.cells #[] 3 (0, 0))) {x : Value} {ys : List Int} (hx : IntS w x ys) (hl : ys.length ≤ 1000000000) (ty : Nat) :
    ∃ p c w', (Builtin.append_ #[22, 22] ty #[.slice (some ⟨m, 0, none⟩) 0 0, x]).run Tryz.prog w = .ok (.slice p ys.length c) w' ∧ Gr w w' ∧ IntO m 3 w' (.slice p ys.length c) ys := by
  obtain ⟨i, hi, hz, hs, hby⟩ := infoI
  have hmt : Own m 3 1 w (.slice (some ⟨m, 0, none⟩) 0 0) 0 (ints []) := ⟨rfl, .inr ⟨m, 0, #[], rfl, Nat.le_refl _, hb, Nat.le_refl _, by decide, by simp, by simp [ints]⟩⟩
  have hlt : m < w.heap.size := (Array.getElem?_eq_some_iff.1 hb).1
  obtain ⟨hl0, p, cap, rfl, c1, c2, c3, c4⟩ := hx
  by_cases h0 : ys = []
  · subst h0
    cases p with
    | none =>
      obtain rfl := c3 rfl
      exact ⟨_, _, w, run_append_owned_none w m 22 ty 3 i 1 uI hi _ 0 _ hmt, Gr.refl _, hmt⟩
    | some a =>
      refine ⟨some ⟨m, 0, none⟩, 0, w, ?_, Gr.refl _, hmt⟩
      have hr := run_append_room_cells (P := Tryz.prog) w 22 ty 3 i uI hi m 0 0 0 a 0 cap [] (by simp) (by simp) (by simp) (Nat.le_refl _) (by simp) (by simp)
      exact hr
  · cases p with
    | none => exact absurd (List.eq_nil_of_length_eq_zero (by have := c3 rfl; omega)) h0
    | some a =>
      have hpos : 0 < ys.length := by
        cases ys with
        | nil => exact absurd rfl h0
        | cons => simp
      obtain ⟨v', w', hr, q1, _, _, q4⟩ := run_append_own_at (P := Tryz.prog) w m 22 ty 3 i _ 1 8 uI hi hz hs hby rfl (by decide) _ 0 (ints []) hmt a ys.length cap (ints ys) (by rw [ints_length]; omega) (c4 a rfl) (ints_one _) (by unfold maxLen; omega) (by omega) (by omega)
      have hfit : Builtin.nextslicecap (0 + ys.length) 0 * i.bytes ≤ 281474976710656 := by
        have hc : Builtin.nextslicecap (0 + ys.length) 0 = ys.length := by
          unfold Builtin.nextslicecap
          simp
          intro h
          exact absurd h h0
        rw [hc, hby]; omega
      have hg := run_append_grow (P := Tryz.prog) w 22 ty 3 i _ uI hi hz ⟨m, 0, none⟩ 0 0 [] (by simp) (by simp) a ys.length cap (ints ys) (by rw [ints_length, hs]; omega) (c4 a rfl) (by omega) (by omega) hfit
      rw [hr] at hg
      injection hg with e1 e2
      subst e1
      refine ⟨some ⟨w.heap.size, 0, none⟩, grownCap w (0 + ys.length) 0 3, w', by rw [hr, Nat.zero_add], by rw [e2]; exact ((Gr.refl w).drew).alloc _, ?_⟩
      unfold IntO
      generalize grownCap w (0 + ys.length) 0 3 = gc at *
      rw [Nat.zero_add] at q1
      exact q1
theorem step_appE {w : World} {ops : Array Oper} {o : Oper} {a : Act} {K : Act → World → Prop} {Q : Exit → Act → World → Prop} {E : Prop} (hgd : o.guard = none) (s x : Operand)
    (ho : o.op = .call { callee := .builtin .append, args := #[s, x], argTypes := #[22, 22] })
    {m : Nat} (hs : a.eval s = .slice (some ⟨m, 0, none⟩) 0 0) {xv : Value} {ys : List Int} (hx : a.eval x = xv) (hb : w.heap[m]? = some (.cells #[] 3 (0, 0))) (hrow : IntS w xv ys) (hl : ys.length ≤ 1000000000)
    (h : ∀ p c w', IntO m 3 w' (.slice p ys.length c) ys → Gr w w' → K (a.put o.dst (.slice p ys.length c)) w') : if Region.wanted o (yielded ops a.tmps) = true then Oper.wp Tryz.prog o a w K Q else E := by
  have hw : Region.wanted o (yielded ops a.tmps) = true := by simp [Region.wanted, hgd]
  rw [if_pos hw]
  obtain ⟨p, c, w', hr, h2, h3⟩ := appE hb hrow hl o.type
  unfold Oper.wp execOp
  simp only [ho, resolve, invoke, builtin, Sem.run_bind, Sem.run_pure, Result.andThen_ok, List.map_toArray, List.map_cons, List.map_nil, hs, hx, hr]
  exact h p c w' h3 h2
/-- A frame, and what is behind it. -/
def fsA (xs : List Int) : List Int := match sniffSize xs with | some n => xs.take n | none => []
def fsB (xs : List Int) : List Int := match sniffSize xs with | some n => xs.drop n | none => []
theorem fsA_some {xs : List Int} {n : Nat} (h : sniffSize xs = some n) : fsA xs = xs.take n ∧ fsB xs = xs.drop n := by unfold fsA fsB; rw [h]; exact ⟨rfl, rfl⟩
theorem fsA_none {xs : List Int} (h : sniffSize xs = none) : fsA xs = [] ∧ fsB xs = [] := by unfold fsA fsB; rw [h]; exact ⟨rfl, rfl⟩
/-- The program's way: both in memory of their own. -/
def FtI (us vs : List Int) (ok : Bool) (w : World) (e : Ending) (w' : World) : Prop :=
  ∃ (p : Option Addr) (c : Nat) (q : Option Addr) (d B1 T1 B2 T2 : Nat), e = .returned (.tuple #[.slice p us.length c, .slice q vs.length d, .bool ok]) ∧ IntB B1 T1 3 w' (.slice p us.length c) us ∧ IntB B2 T2 3 w' (.slice q vs.length d) vs ∧
    w.heap.size ≤ B1 ∧ w.heap.size ≤ B2 ∧ (T1 ≤ B2 ∨ T2 ≤ B1) ∧ T1 ≤ w'.heap.size ∧ T2 ≤ w'.heap.size ∧ Gr w w'
/-- The reference's way. -/
def FtS (us vs : List Int) (ok : Bool) (w : World) (e : Ending) (w' : World) : Prop :=
  ∃ (p : Option Addr) (c : Nat) (q : Option Addr) (d : Nat), e = .returned (.tuple #[.slice p us.length c, .slice q vs.length d, .bool ok]) ∧ IntO w.heap.size 3 w' (.slice p us.length c) us ∧ IntO w.heap.size 3 w' (.slice q vs.length d) vs ∧ Gr w w'
theorem IntS.preI {w : World} {v : Value} {xs : List Int} (h : IntS w v xs) {k : Nat} (hk : k ≤ xs.length) {ki : Int} (hki : ki = (k : Int)) :
    ∃ v' : Value, (∀ w1, (Instr.slice 22 v none (some (.int .i64 ki)) none).run Tryz.prog w1 = .ok v' w1) ∧ IntS w v' (xs.take k) := by subst hki; exact h.pre hk
theorem IntS.sufI {w : World} {v : Value} {xs : List Int} (h : IntS w v xs) {k : Nat} (hk : k ≤ xs.length) {ki : Int} (hki : ki = (k : Int)) :
    ∃ v' : Value, (∀ w1, (Instr.slice 22 v (some (.int .i64 ki)) none none).run Tryz.prog w1 = .ok v' w1) ∧ IntS w v' (xs.drop k) := by subst hki; exact h.suf hk
theorem CloneG {w : World} {v : Value} {xs : List Int} (h : IntS w v xs) (hb : xs.length ≤ 1000000000) : Hid (∀ W, Gr w W → Calls Tryz.prog 76 #[v] W fun e w' => ∃ p c, e = .returned (.slice p xs.length c) ∧ IntO W.heap.size 3 w' (.slice p xs.length c) xs ∧ Gr W w') :=
  Lib.hid fun _ g => (Clone_c (h.kept g) (by omega)).mono fun e w' hh => by
    obtain ⟨v', rfl, ho, hg⟩ := hh
    obtain ⟨p, c, rfl⟩ := ho.len
    exact ⟨p, c, rfl, ho, hg⟩
set_option maxHeartbeats 4000000 in
theorem implFeedTake_c {w : World} {v : Value} {xs : List Int} (hm : ML w) (he : ErrV w) (ht : Tab w) (h : IntS w v xs) (hlen : xs.length ≤ 1048576) {us vs : List Int} {ok : Bool} (hA : Hid (fsA xs = us ∧ fsB xs = vs ∧ (sniffSize xs).isSome = ok)) :
    Calls Tryz.prog 30 #[v] w (FtI us vs ok w) := by
  obtain ⟨p, cap, rfl, _, _⟩ := h.form
  have SZ := implSniffSize_c hm he ht h hlen
  cases hs : sniffSize xs with
  | none =>
    obtain ⟨e1, e2⟩ := fsA_none hs
    obtain ⟨rfl, rfl, rfl⟩ : us = [] ∧ vs = [] ∧ ok = false := ⟨by rw [← hA.out.1, e1], by rw [← hA.out.2.1, e2], by rw [← hA.out.2.2, hs]; rfl⟩
    rw [hs] at SZ
    have SZ' : Calls Tryz.prog 27 #[.slice p xs.length cap] w fun e w' => e = .returned (.tuple #[.int .i64 0, .bool false]) ∧ Gr w w' := SZ
    have SZH := Lib.hid SZ'
    clear SZ SZ' hs e1 e2 hA
    go_enter Tryz.func30, Tryz.ntmps30
    go_wp2_with fail
    (with_reducible refine (SZH.out).mono ?_); rintro e w1 ⟨rfl, g1⟩
    go_wp2
    go_ret3
    exact ⟨none, 0, none, 0, w1.heap.size, w1.heap.size, w1.heap.size, w1.heap.size, rfl, IntB.nil _ _ _ _, IntB.nil _ _ _ _, g1.sz, g1.sz, .inl (Nat.le_refl _), Nat.le_refl _, Nat.le_refl _, g1⟩
  | some n =>
    obtain ⟨e1, e2⟩ := fsA_some hs
    obtain ⟨n0, nl, _⟩ := sniffSize_is hs
    obtain ⟨rfl, rfl, rfl⟩ : us = xs.take n ∧ vs = xs.drop n ∧ ok = true := ⟨by rw [← hA.out.1, e1], by rw [← hA.out.2.1, e2], by rw [← hA.out.2.2, hs]; rfl⟩
    rw [hs] at SZ
    have SZ' : Calls Tryz.prog 27 #[.slice p xs.length cap] w fun e w' => e = .returned (.tuple #[.int .i64 (n : Int), .bool true]) ∧ Gr w w' := SZ
    have SZH := Lib.hid SZ'
    obtain ⟨va, hsa, hva⟩ := h.pre nl
    obtain ⟨vb, hsb, hvb⟩ := h.suf nl
    have CA := CloneG hva (by rw [List.length_take]; omega)
    have CB := CloneG hvb (by rw [List.length_drop]; omega)
    clear SZ SZ' hs e1 e2 hA hva hvb
    generalize xs.take n = us at *
    generalize xs.drop n = vs at *
    go_enter Tryz.func30, Tryz.ntmps30
    go_wp2_with fail
    (with_reducible refine (SZH.out).mono ?_); rintro e w1 ⟨rfl, g1⟩
    go_wp2_with fail
    go_region_with (first
      | (go_at_call 76; (with_reducible refine (CB.out _ (by repeat (first | assumption | exact g6 | refine Gr.drew ?_))).mono ?_); rintro e w7 ⟨q7, c7, rfl, o7, g7'⟩; have h6 := o6; have o6k := (IntO.b o6).kept (Gr.trans (by repeat (first | exact Gr.refl _ | refine Gr.drew ?_)) g7'); have o7k := IntO.b o7; have hz7 := g7'.sz; have g7 : Gr w w7 := Gr.trans (by repeat (first | assumption | refine Gr.drew ?_)) g7')
      | (go_at_call 76; (with_reducible refine (CA.out _ (by repeat (first | assumption | refine Gr.drew ?_))).mono ?_); rintro e w6 ⟨q6, c6, rfl, o6, g6'⟩; have hz6 := g6'.sz; have g6 : Gr w w6 := Gr.trans (by repeat (first | assumption | refine Gr.drew ?_)) g6'))
    all_goals
      go_wp2
      go_ret3
      have z1 := g1.sz
      exact ⟨q6, c6, q7, c7, _, _, _, _, rfl, o6k.kept (by repeat (first | exact Gr.refl _ | refine Gr.drew ?_)), o7k.kept (by repeat (first | exact Gr.refl _ | refine Gr.drew ?_)), z1, by (first | exact g6.sz | omega), .inl (Nat.le_refl _), hz7, Nat.le_refl _, by repeat (first | assumption | refine Gr.drew ?_)⟩
set_option maxHeartbeats 4000000 in
theorem specFeedTake_c {w : World} {v : Value} {xs : List Int} (h : IntS w v xs) (hlen : xs.length ≤ 1048576) {us vs : List Int} {ok : Bool} (hA : Hid (fsA xs = us ∧ fsB xs = vs ∧ (sniffSize xs).isSome = ok)) :
    Calls Tryz.prog 29 #[v] w (FtS us vs ok w) := by
  obtain ⟨p, cap, rfl, _, _⟩ := h.form
  have SZ := specSniffSize_c h hlen
  cases hs : sniffSize xs with
  | none =>
    obtain ⟨e1, e2⟩ := fsA_none hs
    obtain ⟨rfl, rfl, rfl⟩ : us = [] ∧ vs = [] ∧ ok = false := ⟨by rw [← hA.out.1, e1], by rw [← hA.out.2.1, e2], by rw [← hA.out.2.2, hs]; rfl⟩
    rw [hs] at SZ
    have SZ' : Calls Tryz.prog 25 #[.slice p xs.length cap] w fun e w' => e = .returned (.tuple #[.int .i64 0, .bool false]) ∧ Gr w w' := SZ
    have SZH := Lib.hid SZ'
    clear SZ SZ' hs e1 e2 hA
    go_enter Tryz.func29, Tryz.ntmps29
    go_wp2_with fail
    (with_reducible refine (SZH.out).mono ?_); rintro e w1 ⟨rfl, g1⟩
    go_wp2
    go_ret3
    have z1 := g1.sz
    exact ⟨_, _, _, _, rfl, ((IntO.mt w1).kept (gr_alloc _ _)).mono z1, (IntO.mtN (w := w1.alloc (.cells #[] 3)) (by simp)).mono (by simp; omega), (g1.alloc _).alloc _⟩
  | some n =>
    obtain ⟨e1, e2⟩ := fsA_some hs
    obtain ⟨n0, nl, _⟩ := sniffSize_is hs
    obtain ⟨rfl, rfl, rfl⟩ : us = xs.take n ∧ vs = xs.drop n ∧ ok = true := ⟨by rw [← hA.out.1, e1], by rw [← hA.out.2.1, e2], by rw [← hA.out.2.2, hs]; rfl⟩
    rw [hs] at SZ
    have SZ' : Calls Tryz.prog 25 #[.slice p xs.length cap] w fun e w' => e = .returned (.tuple #[.int .i64 (n : Int), .bool true]) ∧ Gr w w' := SZ
    have SZH := Lib.hid SZ'
    obtain ⟨va, hsa, hva⟩ := h.pre nl
    obtain ⟨vb, hsb, hvb⟩ := h.suf nl
    have la : (xs.take n).length ≤ 1000000000 := by rw [List.length_take]; omega
    have lb : (xs.drop n).length ≤ 1000000000 := by rw [List.length_drop]; omega
    clear SZ SZ' hs e1 e2 hA
    generalize xs.take n = us at *
    generalize xs.drop n = vs at *
    go_enter Tryz.func29, Tryz.ntmps29
    go_wp2_with fail
    (with_reducible refine (SZH.out).mono ?_); rintro e w1 ⟨rfl, g1⟩
    have ra := hva.kept g1
    have rb := hvb.kept g1
    have z1 := g1.sz
    have E1 := heap_alloc_new w1 (.cells #[] 3)
    have E2 := (gr_alloc (w1.alloc (.cells #[] 3)) (.cells #[] 3)).blk E1
    have E3 : ((w1.alloc (.cells #[] 3)).alloc (.cells #[] 3)).heap[w1.heap.size + 1]? = some (.cells #[] 3 (0, 0)) := by
      have := heap_alloc_new (w1.alloc (.cells #[] 3)) (.cells #[] 3)
      simpa using this
    have H1 := Lib.hid E1
    have H2 := Lib.hid E2
    have H3 := Lib.hid E3
    clear E1 E2 E3 hva hvb h SZH n0 nl hlen
    go_wp2_with fail
    go_region_held3 (fun _ => True) (trivial) (first
      | (refine step_appE (by rfl) (.tmp 21) (.tmp 24) (by rfl) (by rfl) (by rfl) (by first | exact g6a.blk H1.out | exact g6a.blk H2.out | exact g6a.blk H3.out | exact heap_alloc_new w6 _ | exact (gr_alloc w6 _).blk (g6a.blk H1.out)) (rb.kept (by repeat (first | assumption | refine Gr.drew ?_ | refine Gr.alloc ?_ _))) lb ?_; intro p7 c7 w7 o7 g7a; have g67 : Gr w6 w7 := Gr.trans (by repeat (first | exact Gr.refl _ | refine Gr.drew ?_ | refine Gr.alloc ?_ _)) g7a; have O6 := IntO.kept o6 g67; have G7 : Gr w1 w7 := Gr.trans g6 g67; have O7 := o7)
      | (refine step_appE (by rfl) (.tmp 16) (.tmp 19) (by rfl) (by rfl) (by rfl) (by first | exact g6b.blk H1.out | exact g6b.blk H2.out | exact g6b.blk H3.out | exact heap_alloc_new w6 _ | exact (gr_alloc w6 _).blk (g6b.blk H1.out)) (ra.kept (by repeat (first | assumption | refine Gr.drew ?_ | refine Gr.alloc ?_ _))) la ?_; intro p7 c7 w7 o7 g7a; have g67 : Gr w6 w7 := Gr.trans (by repeat (first | exact Gr.refl _ | refine Gr.drew ?_ | refine Gr.alloc ?_ _)) g7a; have O6 := IntO.kept o6 g67; have G7 : Gr w1 w7 := Gr.trans g6 g67; have O7 := o7)
      | (refine step_appE (by rfl) (.tmp 16) (.tmp 19) (by rfl) (by rfl) (by rfl) (by first | exact H1.out | exact H2.out | exact H3.out) (ra.kept (by repeat (first | exact Gr.refl _ | refine Gr.drew ?_ | refine Gr.alloc ?_ _))) la ?_; intro p6 c6 w6 o6 g6a; have g6 : Gr w1 w6 := Gr.trans (by repeat (first | exact Gr.refl _ | refine Gr.drew ?_ | refine Gr.alloc ?_ _)) g6a)
      | (refine step_appE (by rfl) (.tmp 21) (.tmp 24) (by rfl) (by rfl) (by rfl) (by first | exact H1.out | exact H2.out | exact H3.out) (rb.kept (by repeat (first | exact Gr.refl _ | refine Gr.drew ?_ | refine Gr.alloc ?_ _))) lb ?_; intro p6 c6 w6 o6 g6b; have g6 : Gr w1 w6 := Gr.trans (by repeat (first | exact Gr.refl _ | refine Gr.drew ?_ | refine Gr.alloc ?_ _)) g6b))
    all_goals
      have GG := g1.trans G7
      have z6 := g6.sz
      go_wp2
      go_ret3
      first
        | exact ⟨p6, c6, p7, c7, rfl, (IntO.mono O6 (by omega)).kept (by repeat (first | exact Gr.refl _ | refine Gr.drew ?_)), (IntO.mono O7 (by omega)).kept (by repeat (first | exact Gr.refl _ | refine Gr.drew ?_)), by repeat (first | assumption | refine Gr.drew ?_)⟩
        | exact ⟨p7, c7, p6, c6, rfl, (IntO.mono O7 (by omega)).kept (by repeat (first | exact Gr.refl _ | refine Gr.drew ?_)), (IntO.mono O6 (by omega)).kept (by repeat (first | exact Gr.refl _ | refine Gr.drew ?_)), by repeat (first | assumption | refine Gr.drew ?_)⟩
end Go.Proofs.YtncnnfmfpilonaaGreatDoor
