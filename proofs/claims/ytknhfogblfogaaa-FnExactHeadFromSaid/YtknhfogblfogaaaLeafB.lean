/- Contracts: copies, marks, closures over ints, slices.Clone, Grow, Concat. -/
import Derived.Test.YtknhfogblfogaaaLeafA
namespace Go.Proofs.Ytknhfogblfogaaa
open Go.RowKit
/-- k, k+1, .. so many. -/
def upFrom (k : Int) : Nat → List Int
  | 0 => []
  | n + 1 => k :: upFrom (k + 1) n
theorem upFrom_length (k : Int) (n : Nat) : (upFrom k n).length = n := by induction n generalizing k <;> simp [upFrom, *]
theorem upFrom_snoc (k : Int) (n : Nat) : upFrom k (n + 1) = upFrom k n ++ [k + n] := by
  induction n generalizing k with
  | zero => simp [upFrom]
  | succ n ih => rw [upFrom, ih (k + 1), upFrom]; simp; omega
theorem nth_upFrom (k : Int) {n i : Nat} (h : i < n) : nth (upFrom k n) i = k + i := by
  induction n generalizing k i with
  | zero => omega
  | succ n ih => cases i with
    | zero => simp [upFrom, nth]
    | succ i => have := ih (k + 1) (i := i) (by omega); simp [upFrom, nth] at this ⊢; omega

theorem IntO.ix {B e' : Nat} {w : World} {v : Value} {xs : List Int} (h : IntO B e' w v xs) {k : Nat} (hk : k < xs.length) :
    ∃ a : Addr, (∀ w1, (Instr.indexAt 22 v (.int .i64 (k : Int))).run Try.prog w1 = .ok (.pointer (some a)) w1) ∧ B ≤ a.block ∧ a.block < w.heap.size ∧
      w.cell? a = some (.int .i64 (nth xs k)) ∧ w.frozen? a = false ∧ v.ownBlock = some a.block ∧ ∀ x, IntO B e' (w.setCell a (.int .i64 x)) v (xs.set k x) := by
  obtain ⟨i, h1, _, h3, _⟩ := infoI
  exact h.at uI h1 h3 hk

theorem set_prefix {ys xs : List Int} {k : Nat} (hk : k < xs.length) (h : ys = xs.take k ++ List.replicate (xs.length - k) 0) : ys.set k (nth xs k) = xs.take (k + 1) ++ List.replicate (xs.length - (k + 1)) 0 := by
  subst h
  have h1 : (xs.take k).length = k := by rw [List.length_take]; omega
  rw [List.set_append_right _ _ (by omega), h1, Nat.sub_self, show xs.length - k = (xs.length - (k+1)) + 1 by omega, List.replicate_succ, List.set_cons_zero,
    List.take_succ_eq_append_getElem hk, nth_eq hk, List.append_assoc]
  rfl
theorem made_ints (n : Nat) : (madeCells (Value.int .i64 0).cells (n * 1)).toList = ints (List.replicate n 0) := by
  rw [show (Value.int .i64 0).cells = #[Value.int .i64 0] from rfl, Nat.mul_one, toList_madeCells_one, ints_replicate]
theorem IntO.len {B e : Nat} {w : World} {v : Value} {xs : List Int} (h : IntO B e w v xs) : ∃ p cap, v = .slice p xs.length cap := by
  obtain ⟨p, cap, h1, _⟩ := h.s.form; exact ⟨p, cap, h1⟩

theorem toIntS_c {w : World} {v : Value} {xs : List Int} (h : IntS w v xs) (hb : xs.length ≤ 1000000000000) :
    Calls Try.prog 11 #[v] w fun e w' => ∃ v', e = .returned v' ∧ IntO w.heap.size 3 w' v' xs ∧ Gr w w' := by
  obtain ⟨p, cap, rfl, hl1, hl2⟩ := h.form
  obtain ⟨i0, hi, hz, hs, hby⟩ := infoI
  go_enter Try.func11, Try.ntmps11
  go_wp2_with (refine wpl_make _ rfl _ _ _ rfl uI hi hz hs hby rfl rfl (by omega) (by omega) ?_; intro v' w1 ho hg1)
  have ho' : IntO w.heap.size 3 w1 v' (List.replicate xs.length 0) := by
    unfold IntO; rw [List.length_replicate, ← made_ints]; exact ho
  clear ho
  go_wp2_with fail
  go_loopw [4] (fun i wr => ∃ (k : Nat) (ys : List Int), k ≤ xs.length ∧ i = .int .i64 k ∧ Hid (ys = xs.take k ++ List.replicate (xs.length - k) 0) ∧ Gr w wr ∧ IntO w.heap.size 3 wr v' ys ∧ ys.length = xs.length) (fun i _ => xs.length - (intOf i).toNat)
  case atStart => exact ⟨0, _, Nat.zero_le _, rfl, by simp [Hid], hg1, ho', by simp⟩
  case round =>
    obtain ⟨k, ys, hk, rfl, hys, hgr, ho2, hyl⟩ := hrel
    have HYL := Lib.hid hyl; clear hyl
    by_cases hlt : k < xs.length
    · obtain ⟨a, hix, hca⟩ := (h.kept hgr).ix hlt
      obtain ⟨b, hjx, hb1, hb2, hcb, hfb, hob, hset⟩ := ho2.ix (show k < ys.length by have := HYL.out; omega)
      go_wp2
      go_roundw
      case rel => exact ⟨k+1, ys.set k (nth xs k), by omega, by go_num, set_prefix hlt hys.out, Below.setCell hgr hb1 _, hset _, by rw [List.length_set]; exact HYL.out⟩
      case measure => simp [intOf]; omega
    · go_wp2
      go_ret
      have e : ys = xs := by rw [hys.out, show k = xs.length by omega]; simp
      exact ⟨v', rfl, e ▸ ho2, hgr⟩

/-- At most the slice's own blocks have turned. -/
theorem markIntS_c {B T : Nat} {w : World} {v : Value} {xs : List Int} (h : IntB B T 3 w v xs) (k0 : Int) (h0 : 0 ≤ k0) (h1 : k0 ≤ 4000000000000000000) (hb : xs.length ≤ 1000000000000) :
    Calls Try.prog 16 #[v, .int .i64 k0] w fun e w' => e = .returned (.int .i64 (k0 + xs.length)) ∧ IntB B T 3 w' v (upFrom k0 xs.length) ∧ Chg B T w w' := by
  obtain ⟨p, cap, rfl⟩ := h.o.len
  have hT := h.2
  have HT := Lib.hid hT; clear hT
  replace h := h.o
  go_enter Try.func16, Try.ntmps16
  go_wp2_with fail
  go_loopw [1, 5] (fun m i wr => ∃ (k : Nat) (ys : List Int), k ≤ xs.length ∧ i = .int .i64 k ∧ m = .int .i64 (k0 + k) ∧ Hid (ys = upFrom k0 k ++ xs.drop k) ∧ Chg B T w wr ∧ IntO B 3 wr (.slice p xs.length cap) ys ∧ Hid (ys.length = xs.length)) (fun _ i _ => xs.length - (intOf i).toNat)
  case atStart => exact ⟨0, xs, Nat.zero_le _, rfl, by simp, by simp [Hid, upFrom], Chg.refl _ _ _, h, rfl⟩
  case round =>
    obtain ⟨k, ys, hk, rfl, rfl, hys, hgr, ho2, hyl⟩ := hrel
    by_cases hlt : k < xs.length
    · obtain ⟨b, hjx, hb1, hb2, hcb, hfb, hob, hset⟩ := ho2.ix (show k < ys.length by have := hyl.out; omega)
      have hbT := HT.out _ hob
      have HOB := Lib.hid hob; clear hob
      go_wp2
      go_roundw
      case rel =>
        refine ⟨k+1, ys.set k (k0 + k), by omega, by go_num, by rw [Int.natCast_add, Int.natCast_one, Int.add_assoc], ?_, hgr.set hb1 hbT _, hset _, by rw [Hid, List.length_set]; exact hyl.out⟩
        have e : k = (upFrom k0 k).length := (upFrom_length _ _).symm
        show ys.set k (k0 + k) = _
        rw [hys.out, List.set_append_right _ _ (by omega), upFrom_length, Nat.sub_self, upFrom_snoc, List.drop_eq_getElem_cons hlt, List.set_cons_zero, List.append_assoc]
        rfl
      case measure => simp [intOf]; omega
    · go_wp2
      go_ret
      have ek : k = xs.length := by omega
      have e : ys = upFrom k0 xs.length := by rw [hys.out, ek]; simp
      subst e
      refine ⟨ret_int (by rw [ek]), ⟨?_, HT.out⟩, hgr⟩
      unfold IntO at ho2
      rwa [upFrom_length] at ho2 ⊢

theorem heldIntS_c {w : World} {v : Value} (k0 : Int) (n : Nat) (h : IntS w v (upFrom k0 n)) (h0 : 0 ≤ k0) (h1 : k0 ≤ 4000000000000000000) (hb : n ≤ 1000000000000) :
    Calls Try.prog 44 #[v, .int .i64 k0] w fun e w' => e = .returned (.int .i64 (k0 + n)) ∧ w = w' := by
  obtain ⟨p, cap, rfl, hl1, hl2⟩ := h.form
  have hlen : (upFrom k0 n).length = n := upFrom_length _ _
  have hix' : ∀ k, k < n → ∃ a : Addr, (∀ w1, (Instr.indexAt 22 (.slice p n cap) (.int .i64 (k : Int))).run Try.prog w1 = .ok (.pointer (some a)) w1) ∧ w.cell? a = some (.int .i64 (k0 + k)) := by
    intro k hk
    obtain ⟨a, h1, h2⟩ := h.ix (show k < (upFrom k0 n).length by omega)
    rw [hlen] at h1; rw [nth_upFrom k0 hk] at h2
    exact ⟨a, h1, h2⟩
  rw [hlen]
  have HX := Lib.hid hix'; clear hix' hlen hl1 hl2 h
  go_enter Try.func44, Try.ntmps44
  go_wp2_with fail
  go_loop [1, 5] (fun m i => ∃ (k : Nat), k ≤ n ∧ i = .int .i64 k ∧ m = .int .i64 (k0 + k)) (fun _ i => n - (intOf i).toNat)
  case atStart => exact ⟨0, Nat.zero_le _, rfl, by simp⟩
  case round =>
    obtain ⟨k, hk, rfl, rfl⟩ := hrel
    by_cases hlt : k < n
    · obtain ⟨a, hix, hca⟩ := HX.out k hlt
      go_wp2
      go_round
      case rel => exact ⟨k+1, by omega, by go_num, by rw [Int.natCast_add, Int.natCast_one, Int.add_assoc]⟩
      case measure => simp [intOf]; omega
    · go_wp2
      go_ret
      exact ⟨ret_int (by rw [show k = n by omega]), rfl⟩
end Go.Proofs.Ytknhfogblfogaaa
