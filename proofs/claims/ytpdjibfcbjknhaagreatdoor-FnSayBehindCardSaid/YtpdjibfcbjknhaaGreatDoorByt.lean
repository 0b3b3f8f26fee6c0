/- Bytes as texts: impl.bytesText, spec.l1Bytes. -/
import Derived.Test.YtpdjibfcbjknhaaGreatDoorGP
import Derived.Test.YtpdjibfcbjknhaaGreatDoorGB
import Derived.Test.YtpdjibfcbjknhaaGreatDoorGC
import Derived.Test.YtpdjibfcbjknhaaGreatDoorGE
import Derived.Laws.BytesArg
namespace Go.Proofs.YtpdjibfcbjknhaaGreatDoor
open Go.RowKit
/-- Bytes in memory of their own. -/
def byts (xs : List Int) : List Value := xs.map (.int .u8)
theorem byts_one (xs : List Int) : ∀ u ∈ byts xs, u.oneCell' = true := ints_oneCell .u8 xs
def ByO (B : Nat) (w : World) (v : Value) (xs : List Int) : Prop := Own B 5 1 w v xs.length (byts xs)
theorem ByO.kept {B : Nat} {w w' : World} {v : Value} {xs : List Int} (h : ByO B w v xs) (hg : Gr w w') : ByO B w' v xs := Own.kept h hg
theorem ByO.form {B : Nat} {w : World} {v : Value} {xs : List Int} (h : ByO B w v xs) : ∃ p cap, v = .slice p xs.length cap := by
  obtain ⟨_, p, cap, h1, _⟩ := Own.row h
  exact ⟨p, cap, h1⟩
theorem ByO.ix {B : Nat} {w : World} {v : Value} {xs : List Int} (h : ByO B w v xs) {k : Nat} (hk : k < xs.length) :
    ∃ a : Addr, (∀ w1, (Instr.indexAt 22 v (.int .i64 (k : Int))).run Tryz.prog w1 = .ok (.pointer (some a)) w1) ∧ B ≤ a.block ∧ a.block < w.heap.size ∧
      w.cell? a = some (.int .u8 (nth xs k)) ∧ w.frozen? a = false ∧ ∀ x, ByO B (w.setCell a (.int .u8 x)) v (xs.set k x) := by
  obtain ⟨i, h1, _, h3, _⟩ := infoB
  obtain ⟨a, f1, f2, f3, f4, f5, f6, _⟩ := Own.at h uB h1 h3 hk
  have e0 := addr_add_zero a
  refine ⟨a, f1, f2, f3, ?_, ?_, fun x => ?_⟩
  · have := f4 0 (.int .u8 (nth xs k)) (by simp [byts, nth, hk])
    rwa [e0] at this
  · have := f5 0; rwa [e0] at this
  · have := f6 0 (.int .u8 x)
    rw [e0] at this
    unfold ByO
    rw [List.length_set, show byts (xs.set k x) = (byts xs).set k (.int .u8 x) by simp [byts]]
    simpa using this
theorem made_byts (n : Nat) : (madeCells (Value.int .u8 0).cells (n * 1)).toList = byts (List.replicate n 0) := by
  rw [show (Value.int .u8 0).cells = #[Value.int .u8 0] from rfl, Nat.mul_one, toList_madeCells_one]; simp [byts]
theorem ByO.mt (w : World) : ByO w.heap.size (w.alloc (.cells #[] 5)) (.slice (some ⟨w.heap.size, 0, none⟩) 0 0) [] := Own.lit w #[] 0 (Nat.le_refl _) (by decide) rfl
theorem Row.oneB (w : World) (x : Int) : Row (w.alloc (.cells #[.int .u8 x] 5)) 1 (.slice (some ⟨w.heap.size, 0, none⟩) 1 1) 1 [.int .u8 x] :=
  (Own.lit (B := w.heap.size) w #[.int .u8 x] 1 (Nat.le_refl _) (by decide) rfl).row
theorem strOf_bt (xs : List Int) : strOfNums xs = S (bt xs) := rfl
theorem ByO.text {B : Nat} {w : World} {v : Value} {xs : List Int} (h : ByO B w v xs) : (convert 22 9 v).run Tryz.prog w = .ok (.string (S (bt xs))) w := by
  rcases h.2 with ⟨rfl, h0⟩ | ⟨g, cap, cur, rfl, _⟩
  · have hx : xs = [] := List.eq_nil_of_length_eq_zero h0
    subst hx
    exact run_convert_bytes_nil w _ _ uB uU8 0 0 _ uStr
  · have hc := World.ownsRow.cells h rfl
    refine (run_convert_bytes_arg w _ _ uB uU8 g 0 xs.length cap xs rfl (fun i hi => ?_) _ uStr)
    have := hc i (.int .u8 (xs.getD i 0)) (by simp [byts, hi])
    have e2 : (⟨g, 0, none⟩ : Addr).add i = ⟨g, 0 + i, none⟩ := by unfold Addr.add; split <;> simp_all
    rwa [e2] at this
set_option maxHeartbeats 1000000 in
theorem bytesText_c {w : World} {v : Value} {xs : List Int} (h : IntS w v xs) (hb : bytesOnly xs) (hl : xs.length ≤ 1000000000) :
    Calls Tryz.prog 122 #[v] w fun e w' => e = .returned (.string (S (bt xs))) ∧ Gr w w' := by
  obtain ⟨p, cap, rfl, hl1, hl2⟩ := h.form
  obtain ⟨i0, hi, hz, hs, hby⟩ := infoB
  go_enter Tryz.func122, Tryz.ntmps122
  go_wp2_with (refine wpl_make _ rfl _ _ _ rfl uB hi hz hs hby rfl rfl (by omega) (by omega) ?_; intro v' w1 ho hg1)
  have ho' : ByO w.heap.size w1 v' (List.replicate xs.length 0) := by
    unfold ByO; rw [List.length_replicate, ← made_byts]; exact ho
  clear ho
  go_wp2_with fail
  go_loopw [11] (fun i wr => ∃ (k : Nat) (ys : List Int), k ≤ xs.length ∧ i = .int .i64 k ∧ Hid (ys = xs.take k ++ List.replicate (xs.length - k) 0) ∧ Gr w wr ∧ ByO w.heap.size wr v' ys ∧ Hid (ys.length = xs.length)) (fun i _ => xs.length - (intOf i).toNat)
  case atStart => exact ⟨0, _, Nat.zero_le _, rfl, by simp [Hid], hg1, ho', by simp [Hid]⟩
  case round =>
    obtain ⟨k, ys, hk, rfl, hys, hgr, ho2, hyl⟩ := hrel
    by_cases hlt : k < xs.length
    · obtain ⟨a, hix, hca⟩ := (h.kept hgr).ix hlt
      obtain ⟨b, hjx, hb1, hb2, hcb, hfb, hset⟩ := ho2.ix (show k < ys.length by have := hyl.out; omega)
      have hx := bytes_nth hb hlt
      have hw : IntKind.u8.wrap (nth xs k) = nth xs k := by rw [IntKind.wrap_u8]; omega
      go_wp2
      go_roundw
      case rel => exact ⟨k+1, ys.set k (nth xs k), by omega, by go_num, set_prefix hlt hys.out, Below.setCell hgr hb1 _, hset _, by rw [Hid, List.length_set]; exact hyl.out⟩
      case measure => simp [intOf]; omega
    · have e : ys = xs := by rw [hys.out, show k = xs.length by omega]; simp
      subst e
      have hcv := ho2.text
      clear hys hyl
      go_wp2
      go_ret
      exact ⟨rfl, hgr⟩
set_option maxRecDepth 20000 in
set_option maxHeartbeats 1000000 in
theorem l1Bytes_c {w : World} {v : Value} {xs : List Int} (h : IntS w v xs) (hb : bytesOnly xs) (hl : xs.length ≤ 1000000000) :
    Calls Tryz.prog 146 #[v] w fun e w' => e = .returned (.string (S (bt xs))) ∧ Gr w w' := by
  obtain ⟨p, cap, rfl, hl1, hl2⟩ := h.form
  obtain ⟨i0, hi, hz, hs, hby⟩ := infoB
  have hmt := ByO.mt w
  have hg0 := gr_alloc w (.cells #[] 5)
  go_enter Tryz.func146, Tryz.ntmps146
  go_wp2_with fail
  go_loopw [3, 4] (fun v i wr => ∃ (k : Nat) (ys : List Int), k ≤ xs.length ∧ i = .int .i64 k ∧ Hid (ys = xs.take k) ∧ Gr w wr ∧ ByO w.heap.size wr v ys) (fun _ i _ => xs.length - (intOf i).toNat)
  case atStart => exact ⟨0, [], Nat.zero_le _, rfl, by simp [Hid], hg0, hmt⟩
  case round =>
    obtain ⟨k, ys, hk, rfl, hys, hgr, ho⟩ := hrel
    clear hmt hg0
    by_cases hlt : k < xs.length
    · obtain ⟨a, hix, hca⟩ := (h.kept hgr).ix hlt
      have hx := bytes_nth hb hlt
      have hw : IntKind.u8.wrap (nth xs k) = nth xs k := by rw [IntKind.wrap_u8]; omega
      have hyl : ys.length ≤ 1000000000 := by rw [hys.out, List.length_take]; omega
      have hsz := hgr.size
      go_wp2_with (at_builtin; refine wpl_append _ rfl (.tmp 12) (.tmp 18) _ rfl uB hi hz hs hby rfl (by decide) (by decide) rfl (Own.kept ho (gr_alloc _ _)) rfl (Row.oneB _ _) (by simp [Value.oneCell']) (by omega) (Nat.le_trans hsz (gr_alloc wr _).sz) ?_; intro v5 w5 ho5 hg5; have hG5 : Gr w w5 := (hgr.alloc _).thenB hg5)
      go_roundw
      case rel => exact ⟨k+1, xs.take (k+1), by omega, by go_num, rfl, hG5, by
        have e : xs.take (k+1) = ys ++ [nth xs k] := by rw [hys.out]; exact take_snoc' hlt
        rw [e]; unfold ByO; rw [List.length_append, show byts (ys ++ [nth xs k]) = byts ys ++ [.int .u8 (nth xs k)] by simp [byts]]; exact ho5⟩
      case measure => simp [intOf]; omega
    · have e : ys = xs := by rw [hys.out, List.take_of_length_le (by omega)]
      subst e
      have hcv := ho.text
      clear hys
      go_wp2
      go_ret
      exact ⟨rfl, hgr⟩
end Go.Proofs.YtpdjibfcbjknhaaGreatDoor
