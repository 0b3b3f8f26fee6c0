/- Contracts: texts as bytes, beginnings. -/
import Derived.Test.YtknhfogblfogaaaFeed
namespace Go.Proofs.Ytknhfogblfogaaa
open Go.RowKit
/-- The bytes of a string. -/
def sb (s : ByteArray) : List Int := s.data.toList.map fun c => (c.toNat : Int)
theorem sb_length (s : ByteArray) : (sb s).length = s.size := by simp [sb]
theorem nth_sb {s : ByteArray} {k : Nat} (h : k < s.size) : nth (sb s) k = (s[k].toNat : Int) := by
  have h' : k < (sb s).length := by rw [sb_length]; exact h
  rw [nth_eq h']; simp [sb]; rfl
theorem nth_sb_range (s : ByteArray) (k : Nat) : 0 ≤ nth (sb s) k ∧ nth (sb s) k ≤ 255 := by
  by_cases h : k < s.size
  · rw [nth_sb h]; have := s[k].toNat_lt; omega
  · have : nth (sb s) k = 0 := by simp [nth, sb, h]
    omega
theorem wrap_sb {s : ByteArray} {k : Nat} (h : k < s.size) : wrap64 (s[k].toNat : Int) = nth (sb s) k := by
  rw [nth_sb h]; have := s[k].toNat_lt; exact IntWalk.wrap64_in _ ⟨by omega, by omega⟩
theorem set_prefix' {ys xs : List Int} {n k : Nat} (hn : xs.length = n) (hk : k < n) (h : ys = xs.take k ++ List.replicate (n - k) 0) : ys.set k (nth xs k) = xs.take (k + 1) ++ List.replicate (n - (k + 1)) 0 := by
  subst hn; exact set_prefix hk h
theorem textBytes_c (w : World) (s : ByteArray) (hb : s.size ≤ 1000000000000) :
    Calls Try.prog 54 #[.string s] w fun e w' => ∃ v', e = .returned v' ∧ IntO w.heap.size 3 w' v' (sb s) ∧ Gr w w' := by
  go_enter Try.func54, Try.ntmps54
  go_wp2_with (refine wpl_makeI (n := s.size) rfl _ _ rfl rfl rfl (by omega) ?_; intro p w1 ho' hg1)
  go_loopw [10] (fun i wr => ∃ (k : Nat) (ys : List Int), k ≤ s.size ∧ i = .int .i64 k ∧ Hid (ys = (sb s).take k ++ List.replicate (s.size - k) 0) ∧ Gr w wr ∧ IntO w.heap.size 3 wr (.slice p s.size s.size) ys ∧ Hid (ys.length = s.size)) (fun i _ => s.size - (intOf i).toNat)
  case atStart => exact ⟨0, _, Nat.zero_le _, rfl, by simp [Hid], hg1, ho', by simp [Hid]⟩
  case round =>
    obtain ⟨k, ys, hk, rfl, hys, hgr, ho2, hyl⟩ := hrel
    by_cases hlt : k < s.size
    · obtain ⟨b, hjx, hb1, hb2, hcb, hfb, hob, hset⟩ := ho2.ix (show k < ys.length by have := hyl.out; omega)
      have HOB := Lib.hid hob; clear hob
      go_wp2
      go_roundw
      case rel => exact ⟨k+1, ys.set k (wrap64 (s[k].toNat : Int)), by omega, by go_num, by rw [wrap_sb hlt]; exact set_prefix' (sb_length s) hlt hys.out, Below.setCell hgr hb1 _, hset _, by rw [Hid, List.length_set]; exact hyl.out⟩
      case measure => simp [intOf]; omega
    · go_wp2
      go_ret
      have e : ys = sb s := by rw [hys.out, show k = s.size by omega, List.take_of_length_le (by rw [sb_length]; exact Nat.le_refl _)]; simp
      exact ⟨_, rfl, e ▸ ho2, hgr⟩

/-- The first 14 bytes of a head. -/
def headStart : List Int := [13, 10, 13, 10, 0, 13, 10, 81, 85, 73, 84, 10, 33, 17]
theorem l16Begin_c (w : World) : Calls Try.prog 59 #[] w fun e w' => ∃ v', e = .returned v' ∧ IntO w.heap.size 3 w' v' headStart ∧ Gr w w' := by
  go_enter Try.func59, Try.ntmps59
  go_wp2
  go_ret
  exact ⟨_, rfl, Own.lit w _ 14 (Nat.le_refl _) (by decide) rfl, gr_alloc w _⟩
theorem headStart_c (w : World) : Calls Try.prog 36 #[] w fun e w' => ∃ v', e = .returned v' ∧ IntO w.heap.size 3 w' v' headStart ∧ Gr w w' := by
  go_enter Try.func36, Try.ntmps36
  go_wp2
  go_ret
  exact ⟨_, rfl, Own.lit w _ 14 (Nat.le_refl _) (by decide) rfl, gr_alloc w _⟩

/-- Alike as far as both go. -/
def alike (xs ys : List Int) : Bool := xs.take (min xs.length ys.length) == ys.take (min xs.length ys.length)
theorem alike_false {xs ys : List Int} {k : Nat} (hx : k < xs.length) (hy : k < ys.length) (h : nth xs k ≠ nth ys k) : alike xs ys = false := by
  unfold alike; rw [beq_eq_false_iff_ne]; intro he
  have h1 : k < min xs.length ys.length := by omega
  have := congrArg (fun l : List Int => l[k]?) he
  simp only [List.getElem?_take, h1, if_true, List.getElem?_eq_getElem hx, List.getElem?_eq_getElem hy, Option.some.injEq] at this
  rw [nth_eq hx, nth_eq hy] at h; exact h this
theorem alike_true {xs ys : List Int} {k : Nat} (hk : k = min xs.length ys.length) (h : xs.take k = ys.take k) : alike xs ys = true := by
  unfold alike; rw [beq_iff_eq, ← hk]; exact h

theorem l21Known_c (b : Bool) (n : Int) (w : World) : Calls Try.prog 57 #[.bool b, .int .i64 n] w fun e w' => e = .returned (.int .i64 (if b then n else 0)) ∧ w = w' := by
  cases b
  · go_enter Try.func57, Try.ntmps57
    go_wp2
    go_ret
    exact ⟨rfl, rfl⟩
  · go_enter Try.func57, Try.ntmps57
    go_wp2
    go_ret
    exact ⟨rfl, rfl⟩

theorem l21Alike_c {w : World} {v : Value} {xs : List Int} (h : IntS w v xs) (s : ByteArray) (hs : s.size ≤ 1000000000000) :
    Calls Try.prog 56 #[v, .string s] w fun e w' => e = .returned (.bool (alike xs (sb s))) ∧ Gr w w' := by
  obtain ⟨p, cap, rfl, hl1, hl2⟩ := h.form
  go_enter Try.func56, Try.ntmps56
  go_wp2_with fail
  go_loopw [5] (fun i wr => ∃ k : Nat, k ≤ xs.length ∧ k ≤ s.size ∧ i = .int .i64 k ∧ Hid (xs.take k = (sb s).take k) ∧ Gr w wr) (fun i _ => xs.length - (intOf i).toNat)
  case atStart => exact ⟨0, Nat.zero_le _, Nat.zero_le _, rfl, by simp [Hid], Gr.refl w⟩
  case round =>
    obtain ⟨k, hk, hk2, rfl, hall, hgr⟩ := hrel
    by_cases hlt : k < xs.length
    · by_cases hlt2 : k < s.size
      · have hls : k < (sb s).length := by rw [sb_length]; exact hlt2
        obtain ⟨a, hix, hca⟩ := (h.kept hgr).ix hlt
        have hw := wrap_sb hlt2
        cases hb : (nth xs k != nth (sb s) k)
        · go_wp2_with fail
          go_quiet (fail)
          go_wp2
          go_roundw
          case rel => exact ⟨k+1, by omega, by omega, by go_num, take_step hlt hls hall.out (by simpa using hb), hgr.drewN _⟩
          case measure => simp [intOf]; omega
        · go_wp2_with fail
          go_quiet (fail)
          go_wp2
          go_ret
          exact ⟨ret_bool (alike_false hlt hls (by simpa using hb)).symm, hgr.drewN _⟩
      · go_wp2
        go_ret
        exact ⟨ret_bool (alike_true (k := k) (by rw [sb_length]; omega) hall.out).symm, hgr⟩
    · go_wp2
      go_ret
      exact ⟨ret_bool (alike_true (k := k) (by rw [sb_length]; omega) hall.out).symm, hgr⟩

theorem l16Same_c {w : World} {v : Value} {xs : List Int} (h : IntS w v xs) :
    Calls Try.prog 31 #[v] w fun e w' => e = .returned (.bool (alike xs headStart)) ∧ Gr w w' := by
  obtain ⟨p, cap, rfl, hl1, hl2⟩ := h.form
  go_enter Try.func31, Try.ntmps31
  go_wp2_with fail
  (with_reducible refine (l16Begin_c w).mono ?_); rintro e w1 ⟨v1, rfl, o1, g1⟩
  have hu := o1.s
  obtain ⟨q, caq, rfl, hm1, hm2⟩ := hu.form
  replace h := h.kept g1
  generalize hys : headStart = ys at *
  have hyl : ys.length = 14 := by rw [← hys]; rfl
  have HY := Lib.hid hys; clear hys o1 hyl
  go_wp2_with fail
  go_loopw [4] (fun i wr => ∃ k : Nat, k ≤ xs.length ∧ k ≤ ys.length ∧ i = .int .i64 k ∧ Hid (xs.take k = ys.take k) ∧ Gr w1 wr) (fun i _ => xs.length - (intOf i).toNat)
  case atStart => exact ⟨0, Nat.zero_le _, Nat.zero_le _, rfl, by simp [Hid], Gr.refl _⟩
  case round =>
    obtain ⟨k, hk, hk2, rfl, hall, hgr⟩ := hrel
    by_cases hlt : k < xs.length
    · by_cases hlt2 : k < ys.length
      · obtain ⟨a, hix, hca⟩ := (h.kept hgr).ix hlt
        obtain ⟨b, hjx, hcb⟩ := (hu.kept hgr).ix hlt2
        cases hb : (nth xs k != nth ys k)
        · go_wp2_with fail
          go_quiet (fail)
          go_wp2
          go_roundw
          case rel => exact ⟨k+1, by omega, by omega, by go_num, take_step hlt hlt2 hall.out (by simpa using hb), hgr.drewN _⟩
          case measure => simp [intOf]; omega
        · go_wp2_with fail
          go_quiet (fail)
          go_wp2
          go_ret
          exact ⟨ret_bool (by rw [HY.out]; exact (alike_false hlt hlt2 (by simpa using hb)).symm), g1.trans (hgr.drewN _)⟩
      · go_wp2
        go_ret
        exact ⟨ret_bool (by rw [HY.out]; exact (alike_true (k := k) (by omega) hall.out).symm), g1.trans hgr⟩
    · go_wp2
      go_ret
      exact ⟨ret_bool (by rw [HY.out]; exact (alike_true (k := k) (by omega) hall.out).symm), g1.trans hgr⟩

/-- Bytes begin with others. -/
def begins (xs ys : List Int) : Bool := decide (ys.length ≤ xs.length) && (xs.take ys.length == ys)
/-- The first elements of a slice. -/
theorem IntS.pre {w : World} {v : Value} {xs : List Int} (h : IntS w v xs) {k : Nat} (hk : k ≤ xs.length) :
    ∃ v' : Value, (∀ w1, (Instr.slice 22 v none (some (.int .i64 (k : Int))) none).run Try.prog w1 = .ok v' w1) ∧ IntS w v' (xs.take k) := by
  obtain ⟨i0, hi, hz, hs, hby⟩ := infoI
  obtain ⟨v', h1, h2⟩ := Row.cut h uI hi hs (Nat.zero_le k) hk
  refine ⟨v', fun w1 => ?_, ?_⟩
  · rw [← h1 w1]
    obtain ⟨p, cap, rfl, hl1, hl2⟩ := h.form
    have a4 : (k : Int) ≤ cap := by omega
    simp [Instr.slice, run_underlying uI, Instr.sliceBounds, Instr.sliceBound, asIntOf, sizeOf, typeInfo, hi, show k ≤ cap by omega]
  · unfold IntS; rw [← ints_take, List.length_take, show min k xs.length = k by omega]; simpa using h2
theorem begins_c {w : World} {v u : Value} {xs ys : List Int} (h : IntS w v xs) (hu : IntS w u ys) :
    Calls Try.prog 55 #[v, u] w fun e w' => e = .returned (.bool (begins xs ys)) ∧ Gr w w' := by
  by_cases hle : ys.length ≤ xs.length
  · obtain ⟨v', hsl, hv'⟩ := h.pre hle
    obtain ⟨p, cap, rfl, hl1, hl2⟩ := h.form
    obtain ⟨q, caq, rfl, hm1, hm2⟩ := hu.form
    have hle' : (ys.length : Int) ≤ xs.length := by omega
    go_enter Try.func55, Try.ntmps55
    go_wp2_with fail
    (with_reducible refine (Equal_c hv' hu).mono ?_); rintro e w1 ⟨rfl, g1⟩
    go_wp2
    go_ret
    exact ⟨ret_bool (by simp [begins, hle]), g1⟩
  · obtain ⟨p, cap, rfl, hl1, hl2⟩ := h.form
    obtain ⟨q, caq, rfl, hm1, hm2⟩ := hu.form
    have hle' : (decide ((ys.length : Int) ≤ xs.length)) = false := by simp; omega
    go_enter Try.func55, Try.ntmps55
    go_wp2
    go_ret
    exact ⟨ret_bool (by simp [begins, hle]), Gr.refl _⟩
end Go.Proofs.Ytknhfogblfogaaa
