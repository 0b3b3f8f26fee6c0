/- slices.Concat over ints. -/
import Derived.Test.YtknhfogblfogaaaLeafE
namespace Go.Proofs.Ytknhfogblfogaaa
open Go.RowKit
theorem uII : Try.prog.underlying 72 = some (.slice 22) := by kernel_rfl
theorem infoII : ∃ i, Try.prog.info? 22 = some i ∧ i.zero = some (.slice none 0 0) ∧ i.size = 1 ∧ i.bytes = 24 := info_parts (by kernel_rfl)
/-- A slice of slices of ints. -/
def nthV (vs : List Value) (k : Nat) : Value := vs.getD k undef
def nthL (xss : List (List Int)) (k : Nat) : List Int := xss.getD k []
def IntSS (w : World) (v : Value) (xss : List (List Int)) : Prop :=
  ∃ vs : List Value, Row w 1 v xss.length vs ∧ ∀ k, k < xss.length → IntS w (nthV vs k) (nthL xss k)
theorem IntSS.kept {w w' : World} {v : Value} {xss : List (List Int)} (h : IntSS w v xss) (hg : Gr w w') : IntSS w' v xss := by
  obtain ⟨vs, h1, h2⟩ := h
  exact ⟨vs, h1.kept hg, fun k hk => (h2 k hk).kept hg⟩
theorem IntSS.form {w : World} {v : Value} {xss : List (List Int)} (h : IntSS w v xss) : ∃ p cap, v = .slice p xss.length cap ∧ xss.length ≤ cap ∧ cap ≤ 9223372036854775807 := by
  obtain ⟨vs, ⟨_, p, cap, h1, h2, h3, _⟩, _⟩ := h
  exact ⟨p, cap, h1, h2, h3⟩
theorem IntSS.ix {w : World} {p : Option Addr} {cap : Nat} {xss : List (List Int)} (h : IntSS w (.slice p xss.length cap) xss) {k : Nat} (hk : k < xss.length) :
    ∃ (a : Addr) (q : Option Addr) (cq : Nat), (∀ w1, (Instr.indexAt 72 (.slice p xss.length cap) (.int .i64 (k : Int))).run Try.prog w1 = .ok (.pointer (some a)) w1) ∧ w.cell? a = some (.slice q (nthL xss k).length cq) ∧
      IntS w (.slice q (nthL xss k).length cq) (nthL xss k) := by
  obtain ⟨vs, h1, h2⟩ := h
  obtain ⟨i, g1, _, g3, _⟩ := infoII
  obtain ⟨a, f1, f2⟩ := Row.at h1 uII g1 g3 hk
  have hr := h2 k hk
  obtain ⟨q, cq, hv, _⟩ := hr.form
  refine ⟨a, q, cq, f1, ?_, hv ▸ hr⟩
  have hl : vs.length = xss.length := by have := h1.1; omega
  have := f2 0 (nthV vs k) (by simp [nthV, hl, hk])
  rw [addr_add_zero, hv] at this
  exact this
def total (xss : List (List Int)) : Nat := xss.flatten.length
theorem nthL_eq {xss : List (List Int)} {k : Nat} (h : k < xss.length) : nthL xss k = xss[k] := by simp [nthL, h]
theorem flat_step {xss : List (List Int)} {k : Nat} (h : k < xss.length) : (xss.take (k+1)).flatten = (xss.take k).flatten ++ nthL xss k := by
  rw [List.take_succ_eq_append_getElem h, nthL_eq h, List.flatten_append]; simp
theorem total_step {xss : List (List Int)} {k : Nat} (h : k < xss.length) : total (xss.take (k+1)) = total (xss.take k) + (nthL xss k).length := by
  unfold total; rw [flat_step h, List.length_append]
theorem total_le (xss : List (List Int)) (k : Nat) : total (xss.take k) ≤ total xss := by
  unfold total
  conv => rhs; rw [← List.take_append_drop k xss, List.flatten_append, List.length_append]
  omega
set_option maxHeartbeats 400000 in
theorem Concat_c {w : World} {v : Value} {xss : List (List Int)} (h : IntSS w v xss) (hb : total xss ≤ 1000000000) :
    Calls Try.prog 49 #[v] w fun e w' => ∃ v', e = .returned v' ∧ IntO w.heap.size 3 w' v' xss.flatten ∧ Gr w w' := by
  obtain ⟨p, cap, rfl, hl1, hl2⟩ := h.form
  obtain ⟨i0, hi, hz, hs, hby⟩ := infoI
  go_enter Try.func49, Try.ntmps49
  go_wp2_with fail
  go_loop [3, 11] (fun s i => ∃ k : Nat, k ≤ xss.length ∧ i = .int .i64 k ∧ s = .int .i64 (total (xss.take k))) (fun _ i => xss.length - (intOf i).toNat)
  case atStart => exact ⟨0, Nat.zero_le _, rfl, rfl⟩
  case round =>
    obtain ⟨k, hk, rfl, rfl⟩ := hrel
    by_cases hlt : k < xss.length
    · obtain ⟨a, q, cq, hix, hca, _⟩ := h.ix hlt
      have hts := total_step hlt
      have htl := total_le xss (k+1)
      have htk := total_le xss k
      have HTS := Lib.hid hts; clear hts
      have h0 : (total (xss.take k) : Int) + ((nthL xss k).length : Int) ≤ 1000000000 := by have := HTS.out; omega
      have h00 : (0 : Int) ≤ (total (xss.take k) : Int) + ((nthL xss k).length : Int) := by omega
      have h01 : (decide ((total (xss.take k) : Int) + ((nthL xss k).length : Int) < 0)) = false := by simp; omega
      go_wp2
      go_round
      case rel => exact ⟨k+1, by omega, by go_num, by rw [HTS.out]; go_num⟩
      case measure => simp [intOf]; omega
    · go_wp2_with (go_at_call 76; refine (Grow_c _ _ (by have := total_le xss k; omega)).mono ?_; rintro e w1 ⟨v1, rfl, ho1, hg1⟩)
      go_loopw [6, 27] (fun s i wr => ∃ (k : Nat) (ys : List Int), k ≤ xss.length ∧ i = .int .i64 k ∧ Hid (ys = (xss.take k).flatten) ∧ Gr w wr ∧ IntO w.heap.size 3 wr s ys) (fun _ i _ => xss.length - (intOf i).toNat)
      case atStart => exact ⟨0, [], Nat.zero_le _, rfl, by simp [Hid], hg1, ho1⟩
      case round =>
        obtain ⟨k', ys, hk', rfl, hys, hgr, ho⟩ := hrel
        by_cases hlt' : k' < xss.length
        · obtain ⟨a, q, cq, hix, hca, hrow⟩ := (h.kept hgr).ix hlt'
          have hlen : ys.length + (nthL xss k').length ≤ 1000000000 := by
            have h1 := total_step hlt'; have h2 := total_le xss (k'+1); have h3 := hys.out
            unfold total at h1 h2 hb; rw [h3]; omega
          go_wp2_with (at_builtin; refine wpl_append _ rfl _ _ _ rfl uI hi hz hs hby rfl (by decide) (by decide) rfl ho rfl hrow (ints_one _) (by omega) hgr.size ?_; intro v' w2 ho2 hg2)
          go_roundw
          case rel => exact ⟨k'+1, ys ++ nthL xss k', by omega, by go_num, by rw [Hid, hys.out, flat_step hlt'], Below.trans hgr hg2, by unfold IntO; rw [ints_append, List.length_append]; exact ho2⟩
          case measure => simp [intOf]; omega
        · go_wp2
          go_ret
          have e : ys = xss.flatten := by rw [hys.out, List.take_of_length_le (by omega)]
          exact ⟨_, rfl, e ▸ ho, hgr⟩
end Go.Proofs.Ytknhfogblfogaaa
