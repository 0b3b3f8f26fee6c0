/- Requests of the fourth version: the program's check; what OldFrom hands back. -/
import Derived.Test.YtdbepkcpdglppaaGreatDoorOldF
import Derived.Test.YtdbepkcpdglppaaGreatDoorNameI
namespace Go.Proofs.YtdbepkcpdglppaaGreatDoor
open Go.RowKit
theorem quad3 {xs : List Int} (h4 : xs.length = 4) (b0 : 0 ≤ nth xs 0) (b1 : 0 ≤ nth xs 1) (b2 : 0 ≤ nth xs 2) : (xs.take 3 == [0, 0, 0]) = !decide (0 < nth xs 0 + nth xs 1 + nth xs 2) := by
  match xs, h4 with
  | [a, b, c, d], _ =>
    simp only [nth, List.getD_cons_zero, List.getD_cons_succ] at b0 b1 b2 ⊢
    rw [Bool.eq_iff_iff]
    simp
    omega
theorem IntO.l3 {w : World} {x y z : Int} {m : Nat} (hm : m = w.heap.size) : IntO w.heap.size 3 (w.alloc (.cells #[.int .i64 x, .int .i64 y, .int .i64 z] 3)) (.slice (some ⟨m, 0, none⟩) 3 3) [x, y, z] := by
  subst hm; exact Own.lit w #[.int .i64 x, .int .i64 y, .int .i64 z] 3 (Nat.le_refl _) (by decide) rfl
set_option maxRecDepth 20000 in
set_option maxHeartbeats 2000000 in
theorem isOld_c {w : World} {q : Value} {xs : List Int} (hm : ML w) (c k port : Int) (s u : ByteArray) (hq : IntS w q xs) (hs : s.size ≤ 2000000) (hu : u.size ≤ 2000000) :
    Calls Tryz.prog 53 #[.agg #[.int .i64 c, .int .i64 k, q, .string s, .int .i64 port, .string u]] w fun e w' => e = .returned (.bool (oldOk ⟨c, ⟨k, xs, tx s, port⟩, tx u⟩)) ∧ Gr w w' := by
  obtain ⟨p, cap, rfl, _, _⟩ := hq.form
  have hg := gr_alloc w (.cells #[.int .i64 c, .int .i64 k, .slice p xs.length cap, .string s, .int .i64 port, .string u] 39)
  have HP : Hid (oldOk ⟨c, ⟨k, xs, tx s, port⟩, tx u⟩ = (inB 1 2 c && (adrOk ⟨k, xs, tx s, port⟩ && (userOk (tx u) && (decide (k = 3) || decide (0 < nth xs 0 + nth xs 1 + nth xs 2)))))) := rfl
  generalize oldOk ⟨c, ⟨k, xs, tx s, port⟩, tx u⟩ = r at *
  cases hc : inB 1 2 c
  · have HC := Lib.hid hc; clear hc
    go_enter Tryz.func53, Tryz.ntmps53
    go_wp2_with fail
    (with_reducible refine (within_c _ _ _ _).mono ?_); rintro e w1 ⟨rfl, rfl⟩
    rw [HC.out]
    go_wp2
    go_ret
    exact ⟨ret_bool (by rw [HP.out, HC.out]; rfl), hg⟩
  · have HC := Lib.hid hc; clear hc
    cases hok : adrOk ⟨k, xs, tx s, port⟩
    · have HOK := Lib.hid hok; clear hok
      go_enter Tryz.func53, Tryz.ntmps53
      go_wp2_with fail
      (with_reducible refine (within_c _ _ _ _).mono ?_); rintro e w1 ⟨rfl, rfl⟩
      rw [HC.out]
      go_wp2_with fail
      (with_reducible refine (implAddressValid_c (hm.kept hg) k port s (hq.kept hg) hs).mono ?_); rintro e w2 ⟨rfl, g2⟩
      rw [HOK.out]
      go_wp2
      go_ret
      exact ⟨ret_bool (by rw [HP.out, HC.out, HOK.out]; rfl), hg.trans g2⟩
    · have HOK := Lib.hid hok; clear hok
      cases hus : userOk (tx u)
      · have HUS := Lib.hid hus; clear hus
        go_enter Tryz.func53, Tryz.ntmps53
        go_wp2_with fail
        (with_reducible refine (within_c _ _ _ _).mono ?_); rintro e w1 ⟨rfl, rfl⟩
        rw [HC.out]
        go_wp2_with fail
        (with_reducible refine (implAddressValid_c (hm.kept hg) k port s (hq.kept hg) hs).mono ?_); rintro e w2 ⟨rfl, g2⟩
        rw [HOK.out]
        have c5 := boxN g2 5 rfl
        go_wp2_with fail
        (with_reducible refine (implUserValid_c _ u hu).mono ?_); rintro e w3 ⟨rfl, rfl⟩
        rw [HUS.out]
        go_wp2
        go_ret
        exact ⟨ret_bool (by rw [HP.out, HC.out, HOK.out, HUS.out]; rfl), hg.trans g2⟩
      · have HUS := Lib.hid hus; clear hus
        have hka := adr_kind HOK.out
        simp only [] at hka
        by_cases k3 : k = 3
        · have K3 := Lib.hid k3
          have k3' : (k == 3) = true := by rw [k3]; rfl
          clear k3 hka
          go_enter Tryz.func53, Tryz.ntmps53
          go_wp2_with fail
          (with_reducible refine (within_c _ _ _ _).mono ?_); rintro e w1 ⟨rfl, rfl⟩
          rw [HC.out]
          go_wp2_with fail
          (with_reducible refine (implAddressValid_c (hm.kept hg) k port s (hq.kept hg) hs).mono ?_); rintro e w2 ⟨rfl, g2⟩
          rw [HOK.out]
          have c1 := boxN g2 1 rfl
          have c5 := boxN g2 5 rfl
          go_wp2_with fail
          (with_reducible refine (implUserValid_c _ u hu).mono ?_); rintro e w3 ⟨rfl, rfl⟩
          rw [HUS.out]
          go_wp2
          go_ret
          exact ⟨ret_bool (by rw [HP.out, HC.out, HOK.out, HUS.out, K3.out]; rfl), hg.trans g2⟩
        · have hqk : quadOk xs = true := by
            rcases hka with ⟨_, h, _⟩ | ⟨h, _⟩
            · exact h
            · exact absurd h k3
          obtain ⟨h4, hb⟩ := quad_bytes hqk
          have b0 := hb 0 (by omega)
          have b1 := hb 1 (by omega)
          have b2 := hb 2 (by omega)
          have HQ := Lib.hid (quad3 h4 b0.1 b1.1 b2.1)
          have K3 := Lib.hid k3
          have k3' : (k == 3) = false := beq_eq_false_iff_ne.2 k3
          obtain ⟨v', hsl, hv'⟩ := hq.pre (k := 3) (by omega)
          have hsl' : ∀ w1, (Instr.slice 23 (.slice p xs.length cap) none (some (.int .i64 3)) none).run Tryz.prog w1 = .ok v' w1 := hsl
          clear k3 hka hqk hb h4 b0 b1 b2 hsl
          generalize decide (0 < nth xs 0 + nth xs 1 + nth xs 2) = z at *
          go_enter Tryz.func53, Tryz.ntmps53
          go_wp2_with fail
          (with_reducible refine (within_c _ _ _ _).mono ?_); rintro e w1 ⟨rfl, rfl⟩
          rw [HC.out]
          go_wp2_with fail
          (with_reducible refine (implAddressValid_c (hm.kept hg) k port s (hq.kept hg) hs).mono ?_); rintro e w2 ⟨rfl, g2⟩
          rw [HOK.out]
          have c1 := boxN g2 1 rfl
          have c2 := boxN g2 2 rfl
          have c5 := boxN g2 5 rfl
          have hG := hg.trans g2
          go_wp2_with fail
          (with_reducible refine (implUserValid_c _ u hu).mono ?_); rintro e w3 ⟨rfl, rfl⟩
          rw [HUS.out]
          go_wp2_with fail
          (with_reducible refine (Equal_c (hv'.kept (hG.alloc _)) (IntO.l3 rfl).s).mono ?_); rintro e w4 ⟨rfl, g4⟩
          rw [HQ.out]
          go_wp2
          go_ret
          exact ⟨ret_bool (by rw [HP.out, HC.out, HOK.out, HUS.out]; simp [K3.out]), (hG.alloc _).trans g4⟩
/-- A size as the program hands it back. -/
def szI (o : Option Nat) : Int := ((o.getD 0 : Nat) : Int)
/-- What OldFrom hands back: the size alone is told. -/
def OldPost (o : Option Nat) (w : World) (e : Ending) (w' : World) : Prop :=
  ∃ (c k : Int) (q : Option Addr) (n cq : Nat) (s : ByteArray) (p : Int) (u : ByteArray), e = .returned (.tuple #[.agg #[.int .i64 c, .int .i64 k, .slice q n cq, .string s, .int .i64 p, .string u], .int .i64 (szI o), .bool o.isSome]) ∧ Gr w w'
theorem OldPost.no {o : Option Nat} {w w' : World} (hn : o = none) (hg : Gr w w') : OldPost o w (.returned (.tuple #[.agg #[.int .i64 0, .int .i64 0, .slice none 0 0, .string ⟨#[]⟩, .int .i64 0, .string ⟨#[]⟩], .int .i64 0, .bool false])) w' := by
  subst hn; exact ⟨_, _, _, _, _, _, _, _, rfl, hg⟩
theorem OldPost.yes {o : Option Nat} {w w' : World} {m : Nat} (hn : o = some m) {c k p : Int} {q : Option Addr} {n cq : Nat} {s u : ByteArray} {mi : Int} (hm : mi = (m : Int)) (hg : Gr w w') :
    OldPost o w (.returned (.tuple #[.agg #[.int .i64 c, .int .i64 k, .slice q n cq, .string s, .int .i64 p, .string u], .int .i64 mi, .bool true])) w' := by
  subst hn hm; exact ⟨_, _, _, _, _, _, _, _, rfl, hg⟩
theorem put6_blk' {w : World} {b : Nat} {c0 c1 c2 c3 c4 c5 : Value} {t : TypeId} (h : w.heap[b]? = some (.cells #[c0, c1, c2, c3, c4, c5] t (0, 0))) (a1 a2 a3 a4 a5 : Value) :
    (((((w.setCell ⟨b, 5, none⟩ a5).setCell ⟨b, 1, none⟩ a1).setCell ⟨b, 2, none⟩ a2).setCell ⟨b, 3, none⟩ a3).setCell ⟨b, 4, none⟩ a4).heap[b]? = some (.cells #[c0, a1, a2, a3, a4, a5] t (0, 0)) :=
  heap_set (j := 4) (heap_set (j := 3) (heap_set (j := 2) (heap_set (j := 1) (heap_set (j := 5) h))))
theorem put5_chg (w : World) (b : Nat) (a1 a2 a3 a4 a5 : Value) :
    Chg b (b + 1) w (((((w.setCell ⟨b, 5, none⟩ a5).setCell ⟨b, 1, none⟩ a1).setCell ⟨b, 2, none⟩ a2).setCell ⟨b, 3, none⟩ a3).setCell ⟨b, 4, none⟩ a4) :=
  Chg.set (p := ⟨b, 4, none⟩) (Chg.set (p := ⟨b, 3, none⟩) (Chg.set (p := ⟨b, 2, none⟩) (Chg.set (p := ⟨b, 1, none⟩) (Chg.set (p := ⟨b, 5, none⟩) (Chg.refl b (b + 1) w) (Nat.le_refl b) (Nat.lt_succ_self b) a5) (Nat.le_refl b) (Nat.lt_succ_self b) a1) (Nat.le_refl b) (Nat.lt_succ_self b) a2) (Nat.le_refl b) (Nat.lt_succ_self b) a3) (Nat.le_refl b) (Nat.lt_succ_self b) a4
theorem put4o_blk {w : World} {b : Nat} {c0 c1 c2 c3 c4 c5 : Value} {t : TypeId} (h : w.heap[b]? = some (.cells #[c0, c1, c2, c3, c4, c5] t (0, 0))) (a1 a2 a3 a4 : Value) :
    ((((w.setCell ⟨b, 1, none⟩ a1).setCell ⟨b, 2, none⟩ a2).setCell ⟨b, 3, none⟩ a3).setCell ⟨b, 4, none⟩ a4).heap[b]? = some (.cells #[c0, a1, a2, a3, a4, c5] t (0, 0)) :=
  heap_set (j := 4) (heap_set (j := 3) (heap_set (j := 2) (heap_set (j := 1) h)))
theorem put4o_chg (w : World) (b : Nat) (a1 a2 a3 a4 : Value) :
    Chg b (b + 1) w ((((w.setCell ⟨b, 1, none⟩ a1).setCell ⟨b, 2, none⟩ a2).setCell ⟨b, 3, none⟩ a3).setCell ⟨b, 4, none⟩ a4) :=
  Chg.set (p := ⟨b, 4, none⟩) (Chg.set (p := ⟨b, 3, none⟩) (Chg.set (p := ⟨b, 2, none⟩) (Chg.set (p := ⟨b, 1, none⟩) (Chg.refl b (b + 1) w) (Nat.le_refl b) (Nat.lt_succ_self b) a1) (Nat.le_refl b) (Nat.lt_succ_self b) a2) (Nat.le_refl b) (Nat.lt_succ_self b) a3) (Nat.le_refl b) (Nat.lt_succ_self b) a4
end Go.Proofs.YtdbepkcpdglppaaGreatDoor
