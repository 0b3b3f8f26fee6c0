/- spec.l91Methods. -/
import Derived.Test.YtknhfogblfogaaaAppO
namespace Go.Proofs.Ytknhfogblfogaaa
open Go.RowKit
theorem tableS {w : World} {b : Nat} (h : w.heap[b]? = some (.cells #[.int .i64 2, .int .i64 0, .int .i64 1, .int .i64 3, .int .i64 128] 3)) : IntS w (.slice (some ⟨b, 0, none⟩) 5 5) [2, 0, 1, 3, 128] :=
  IntO.s (B := 0) (e := 3) ⟨rfl, .inr ⟨b, 5, _, rfl, Nat.zero_le _, h, by simp, by decide, rfl, rfl⟩⟩
set_option maxRecDepth 20000 in
set_option maxHeartbeats 2000000 in
theorem l91Methods_c {w : World} {g m : Nat} (h : RdAt w g m) (hm : m ≤ 50000) :
    Calls Try.prog 69 #[.pointer (some ⟨g, 0, none⟩)] w (DrewI 8 g m w) := by
  have hlt := h.lt
  have hmt := (IntO.mt w).kept (gr_alloc _ (.cells #[.int .i64 2, .int .i64 0, .int .i64 1, .int .i64 3, .int .i64 128] 3))
  have hd0 : D g w ((w.alloc (.cells #[] 3)).alloc (.cells #[.int .i64 2, .int .i64 0, .int .i64 1, .int .i64 3, .int .i64 128] 3)) := D.ofGr ((gr_alloc w _).alloc _)
  have hr0 := (h.alloc (.cells #[] 3)).alloc (.cells #[.int .i64 2, .int .i64 0, .int .i64 1, .int .i64 3, .int .i64 128] 3)
  have htb : ((w.alloc (.cells #[] 3)).alloc (.cells #[.int .i64 2, .int .i64 0, .int .i64 1, .int .i64 3, .int .i64 128] 3)).heap[w.heap.size + 1]? = some (.cells #[.int .i64 2, .int .i64 0, .int .i64 1, .int .i64 3, .int .i64 128] 3) := by
    have e := heap_alloc_new (w.alloc (.cells #[] 3)) (.cells #[.int .i64 2, .int .i64 0, .int .i64 1, .int .i64 3, .int .i64 128] 3)
    have hs : (w.alloc (.cells #[] 3)).heap.size = w.heap.size + 1 := by simp
    rw [hs] at e; exact e
  go_enter Try.func69, Try.ntmps69
  go_wp2_with fail
  go_loopw [3, 5] (fun s i wr => ∃ (k : Nat) (ys : List Int), k ≤ 5 ∧ i = .int .i64 k ∧ ys.length ≤ k ∧ D g w wr ∧ RdAt wr g (m + k) ∧ IntO w.heap.size 3 wr s ys ∧ Hid (s.ownBlock ≠ some (w.heap.size + 1)) ∧ Hid (wr.heap[w.heap.size + 1]? = some (.cells #[.int .i64 2, .int .i64 0, .int .i64 1, .int .i64 3, .int .i64 128] 3))) (fun _ i _ => 5 - (intOf i).toNat)
  case atStart => exact ⟨0, [], by omega, rfl, by simp, hd0, hr0, hmt, by simp [Hid, Value.ownBlock], htb⟩
  case round =>
    obtain ⟨k, ys, hk, rfl, hyl, hD, hr, ho, hob, htw⟩ := hrel
    clear hmt hd0 hr0 htb
    by_cases hlt' : k < 5
    · go_wp2_with fail
      (with_reducible refine (pick_c hr (by omega) _ (by omega) (by omega)).mono ?_); rintro e w2 ⟨c, rfl, hc0, hc1, hr2, hd2⟩
      have ht2 := hd2.ofBelow (w.heap.size + 1) (Array.getElem?_eq_some_iff.1 htw.out).1 (by omega)
      have HT2 := Lib.hid (ht2.trans htw.out)
      have ho2 := ho.keptD hd2 hlt
      have hD2 := hD.trans hd2
      have hs2 := hD2.sz
      have hsz := (Array.getElem?_eq_some_iff.1 HT2.out).1
      clear ht2 ho hD hr hd2
      obtain rfl | rfl : c = 0 ∨ c = 1 := by omega
      · obtain ⟨a, hix, hca⟩ := IntS.ix (p := some ⟨w.heap.size + 1, 0, none⟩) (cap := 5) (xs := [2, 0, 1, 3, 128]) (tableS HT2.out) (k := k) hlt'
        replace hix : ∀ w1, (Instr.indexAt 22 (.slice (some ⟨w.heap.size + 1, 0, none⟩) 5 5) (.int .i64 (k : Int))).run Try.prog w1 = .ok (.pointer (some a)) w1 := hix
        generalize nth [2, 0, 1, 3, 128] k = x at *
        go_wp2_with (at_builtin; refine wpl_app1 rfl (.tmp 17) (.tmp 22) rfl rfl (ho2.kept (gr_alloc _ _)) (by simp; omega) rfl (IntO.one _).s (by omega) ?_; intro v5 w5 ho5 hb5 hk5 ho5b)
        have hD5 : D g w w5 := (hD2.alloc _).thenB hb5
        have hr5 := (hr2.alloc _).keptB hb5 hlt
        have ht5 : w5.heap[w.heap.size + 1]? = some (.cells #[.int .i64 2, .int .i64 0, .int .i64 1, .int .i64 3, .int .i64 128] 3) := by
          rw [hk5 _ (by simp; omega) hob.out, Below.block (gr_alloc _ _) _ hsz]; exact HT2.out
        have hob5 : Hid (v5.ownBlock ≠ some (w.heap.size + 1)) := by
          intro e
          rcases ho5b _ e with e | e
          · exact hob.out e
          · simp at e; omega
        go_roundw
        case measure => simp [intOf]; omega
        case rel => exact ⟨k+1, _, by omega, by go_num, by simp; omega, hD5, hr5.more (by omega), ho5, hob5, ht5⟩
      · go_wp2
        go_roundw
        case measure => simp [intOf]; omega
        case rel => exact ⟨k+1, ys, by omega, by go_num, by omega, hD2, hr2.more (by omega), ho2, hob, HT2⟩
    · have hs0 := hD.sz
      clear htw hob
      obtain ⟨pv, cv, rfl⟩ := ho.len
      by_cases hz : ys.length = 0
      case' pos =>
        obtain rfl := List.eq_nil_of_length_eq_zero hz
        clear hz
        go_wp2_with (at_builtin; refine wpl_app1 rfl (.tmp 27) (.tmp 28) rfl rfl (ho.kept (gr_alloc _ _)) (by simp; omega) rfl (IntO.one _).s (by simp) ?_; intro v3 w3 ho3 hb3 _ _)
        have hD3 : D g w w3 := (hD.alloc _).thenB hb3
        have hr3 := (hr.alloc _).keptB hb3 hlt
        obtain ⟨zs, hzs⟩ : ∃ zs : List Int, zs = [] ++ [0] := ⟨_, rfl⟩
        rw [← hzs] at ho3
        have hp : 0 < zs.length := by rw [hzs]; simp
        have hq : zs.length ≤ 6 := by rw [hzs]; simp
        clear hzs ho hr hD hb3
        obtain ⟨p3, c3, rfl⟩ := ho3.len
        have hr3 := hr3.more (show m + k ≤ m + 5 by omega)
      case' neg =>
        have hp : 0 < ys.length := by omega
        have hz' : (((ys.length : Int) == 0) = false) := beq_eq_false_iff_ne.2 (by omega)
        have hq : ys.length ≤ 6 := by omega
        clear hz
        have hD3 := hD; have ho3 := ho; have hr3 := hr.more (show m + k ≤ m + 5 by omega)
        clear hD ho hr
      all_goals
        go_wp2_with fail
        (with_reducible refine (pick_c hr3 (by omega) _ (by omega) (by omega)).mono ?_); rintro e w4 ⟨c, rfl, hc0, hc1, hr4, hd4⟩
        have ho4 := ho3.keptD hd4 hlt
        have hD4 := hD3.trans hd4
        have hs4 := hD4.sz
        clear ho3 hD3 hr3 hd4
        obtain ⟨a, hix, hb1, hb2, hca, hfa, _, hset⟩ := ho4.ix (k := 0) hp
        have hix' : ∀ w1, (Instr.indexAt 22 _ (.int .i64 0)).run Try.prog w1 = .ok (.pointer (some a)) w1 := hix
        obtain rfl | rfl | rfl | h3 : c = 0 ∨ c = 1 ∨ c = 2 ∨ 3 ≤ c := by omega
        · go_wp2
          go_ret
          exact ⟨_, _, rfl, by rw [List.length_set]; omega, hset _, (hr4.keptB (Below.setCell (Below.refl _ _) hb1 _) hlt).more (by omega), hD4.thenB (Below.setCell (Below.refl _ _) hb1 _)⟩
        · go_wp2_with (at_builtin; refine wpl_app1 rfl (.tmp 38) (.tmp 42) rfl rfl (ho4.kept (gr_alloc _ _)) (by simp; omega) rfl (IntO.one _).s (by omega) ?_; intro v5 w5 ho5 hb5 _ _)
          go_ret
          exact ⟨_, _, rfl, by simp; omega, ho5, ((hr4.alloc _).keptB hb5 hlt).more (by omega), (hD4.alloc _).thenB hb5⟩
        · go_wp2
          go_ret
          exact ⟨_, [], rfl, by simp, (IntO.mt w4).mono hs4, (hr4.alloc _).more (by omega), hD4.alloc _⟩
        · have e0 : (c == 0) = false := beq_eq_false_iff_ne.2 (by omega)
          have e1 : (c == 1) = false := beq_eq_false_iff_ne.2 (by omega)
          have e2 : (c == 2) = false := beq_eq_false_iff_ne.2 (by omega)
          go_wp2
          go_ret
          exact ⟨_, _, rfl, by omega, ho4, hr4.more (by omega), hD4⟩
end Go.Proofs.Ytknhfogblfogaaa
