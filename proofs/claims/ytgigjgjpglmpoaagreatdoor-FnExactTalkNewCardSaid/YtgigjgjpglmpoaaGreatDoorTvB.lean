/- Logins, copied; a talk's size; talks that are alike; a talk, copied. -/
import Derived.Test.YtgigjgjpglmpoaaGreatDoorTvA
namespace Go.Proofs.YtgigjgjpglmpoaaGreatDoor
open Go.RowKit
theorem LgO.put {B : Nat} {w : World} {v : Value} {n : Nat} {cs : List Value} (h : Own B 43 2 w v n cs) (hl : cs.length = n * 2) {k : Nat} (hk : k < n) :
    ∃ (g o : Nat) (u0 u1 : Value), (∀ w1, (Instr.indexAt 25 v (.int .i64 (k : Int))).run Tryz.prog w1 = .ok (.pointer (some ⟨g, o, none⟩)) w1) ∧ B ≤ g ∧ w.cell? ⟨g, o, none⟩ = some u0 ∧ w.frozen? ⟨g, o, none⟩ = false ∧ w.cell? ⟨g, o + 1, none⟩ = some u1 ∧ w.frozen? ⟨g, o + 1, none⟩ = false ∧
      ∀ x y, Own B 43 2 ((w.setCell ⟨g, o, none⟩ x).setCell ⟨g, o + 1, none⟩ y) v n ((cs.set (k * 2) x).set (k * 2 + 1) y) := by
  obtain ⟨i, hi, _, hsz, _⟩ := infoLg
  replace h : w.ownsRow B 43 2 v n cs := h
  rcases h.2 with ⟨_, rfl⟩ | ⟨g, cap, cur, rfl, hb, hg, hnc, hcm, hcs, htake⟩
  · omega
  · have hadd : ∀ m, (⟨g, 0, none⟩ : Addr).add m = ⟨g, m, none⟩ := fun m => by unfold Addr.add; split <;> simp_all
    have k0 : k * 2 < cs.length := by omega
    have k1 : k * 2 + 1 < cs.length := by omega
    have c0 := h.cells rfl _ _ (List.getElem?_eq_getElem k0)
    have c1 := h.cells rfl _ _ (List.getElem?_eq_getElem k1)
    rw [hadd] at c0 c1
    have f0 := h.frozenAt (k * 2)
    have f1 := h.frozenAt (k * 2 + 1)
    refine ⟨g, k * 2, _, _, fun w1 => ?_, hb, c0, f0, c1, f1, fun x y => ?_⟩
    · simp [Instr.indexAt, run_underlying uLg, asIntOf, sizeOf, typeInfo, hi, hk, hadd, hsz]
    · have h1 := (h.stored (k * 2) x).1
      exact (World.ownsRow.stored h1 (k * 2 + 1) y).1
theorem lgs_at {ls : List Lg} {k : Nat} (hk : k < ls.length) : (lgs ls)[k * 2]? = some (.string (S (nthLg ls k).1)) ∧ (lgs ls)[k * 2 + 1]? = some (.string (S (nthLg ls k).2)) := by
  have hc : (ls.map fun l => [Value.string (S l.1), Value.string (S l.2)])[k]? = some [Value.string (S (nthLg ls k).1), Value.string (S (nthLg ls k).2)] := by
    rw [List.getElem?_map, List.getElem?_eq_getElem hk, nthLg_eq hk]; rfl
  have hl : ∀ c ∈ (ls.map fun l => [Value.string (S l.1), Value.string (S l.2)]), c.length = 2 := by
    intro c hc
    obtain ⟨l, _, rfl⟩ := List.mem_map.1 hc
    rfl
  constructor
  · have := flat_get hl hc 0 (by decide)
    unfold lgs; exact this
  · have := flat_get hl hc 1 (by decide)
    unfold lgs; exact this
def CopL (ls : List Lg) (cs : List Value) (k : Nat) : Prop := cs.length = ls.length * 2 ∧ ∀ j, j < k * 2 → cs[j]? = (lgs ls)[j]?
theorem CopL.next {ls : List Lg} {cs : List Value} {k : Nat} (h : CopL ls cs k) (hk : k < ls.length) : CopL ls ((cs.set (k * 2) (.string (S (nthLg ls k).1))).set (k * 2 + 1) (.string (S (nthLg ls k).2))) (k + 1) := by
  obtain ⟨h1, h2⟩ := h
  obtain ⟨e1, e2⟩ := lgs_at hk
  refine ⟨by simp [h1], fun j hj => ?_⟩
  rw [List.getElem?_set, List.length_set]
  by_cases a : k * 2 + 1 = j
  · subst a
    rw [if_pos rfl, if_pos (by omega), e2]
  · rw [if_neg a, List.getElem?_set]
    by_cases b : k * 2 = j
    · subst b
      rw [if_pos rfl, if_pos (by omega), e1]
    · rw [if_neg b]; exact h2 j (by omega)
theorem CopL.done {ls : List Lg} {cs : List Value} {k : Nat} (h : CopL ls cs k) (hk : ¬ k < ls.length) : cs = lgs ls := by
  apply List.ext_getElem?
  intro j
  by_cases a : j < k * 2
  · exact h.2 j a
  · rw [List.getElem?_eq_none (by have := h.1; omega), List.getElem?_eq_none (by rw [lgs_len]; omega)]
set_option maxHeartbeats 1000000 in
theorem toLoginS_c {w : World} {v : Value} {ls : List Lg} (h : LgS w v ls) (hb : ls.length ≤ 1048576) :
    Calls Tryz.prog 7 #[v] w fun e w' => ∃ v', e = .returned v' ∧ LgO w.heap.size w' v' ls ∧ Gr w w' := by
  obtain ⟨p, cap, rfl, hl1, hl2⟩ := h.form
  obtain ⟨i0, hi, hz, hs, hby⟩ := infoLg
  go_enter Tryz.func7, Tryz.ntmps7
  go_wp2_with (refine wpl_make _ rfl _ _ _ rfl uLg hi hz hs hby rfl rfl (by omega) (by omega) ?_; intro v' w1 ho hg1)
  have hcl : (madeCells (Value.agg #[.string ByteArray.empty, .string ByteArray.empty]).cells (ls.length * 2)).toList.length = ls.length * 2 := by simp [madeCells]
  go_wp2_with fail
  go_loopw [4] (fun i wr => ∃ (k : Nat) (cs : List Value), k ≤ ls.length ∧ i = .int .i64 k ∧ Hid (CopL ls cs k) ∧ Gr w wr ∧ Own w.heap.size 43 2 wr v' ls.length cs) (fun i _ => ls.length - (intOf i).toNat)
  case atStart => exact ⟨0, _, Nat.zero_le _, rfl, ⟨hcl, fun j hj => absurd hj (by omega)⟩, hg1, ho⟩
  case round =>
    obtain ⟨k, cs, hk, rfl, HC, hgr, ho2⟩ := hrel
    clear ho hg1 hcl
    by_cases hlt : k < ls.length
    · obtain ⟨a, hix, hca, hcb⟩ := (h.kept hgr).ixL hlt
      go_wp2_with fail
      (with_reducible refine (toLogin_c _ _ _).mono ?_); rintro e w2 ⟨rfl, g2⟩
      obtain ⟨g, o, u0, u1, hixg, hgB, hc0, hf0, hc1, hf1, hput⟩ := LgO.put (Own.kept ho2 g2) HC.out.1 hlt
      have hres := hput (.string (S (nthLg ls k).1)) (.string (S (nthLg ls k).2))
      have hnx := Lib.hid (HC.out.next hlt)
      have hG2 := hgr.trans g2
      have hGB : Below w.heap.size w2 ((w2.setCell ⟨g, o, none⟩ (.string (S (nthLg ls k).1))).setCell ⟨g, o + 1, none⟩ (.string (S (nthLg ls k).2))) :=
        Below.setCell (Below.setCell (Below.refl _ _) hgB _) hgB _
      have hG3 := Below.trans hG2 hGB
      clear hput hix hca hcb
      go_wp2
      go_roundw
      case measure => simp [intOf]; omega
      case rel => exact ⟨k+1, _, by omega, by go_num, hnx.out, hG3, hres⟩
    · have e := HC.out.done hlt
      subst e
      go_wp2
      go_ret
      exact ⟨_, rfl, ho2, hgr⟩
end Go.Proofs.YtgigjgjpglmpoaaGreatDoor
