/- laws.szIntS, szTag, szTagS: the size of an argument. -/
import Derived.Test.YtikkjcfadbhemaaDoorGH
namespace Go.Proofs.YtikkjcfadbhemaaDoor
open Go.RowKit
theorem uTL : Tryd.prog.underlying 48 = some (.slice 82) := by kernel_rfl
theorem infoTL : ∃ i, Tryd.prog.info? 82 = some i ∧ i.zero = some (.agg #[.int .i64 0, .slice none 0 0]) ∧ i.size = 2 ∧ i.bytes = 32 := info_parts (by kernel_rfl)
theorem TagS.ixL {w : World} {p : Option Addr} {cap : Nat} {ts : List Tag} (h : TagS w (.slice p ts.length cap) ts) {k : Nat} (hk : k < ts.length) :
    ∃ (a : Addr) (q : Option Addr) (cq : Nat), (∀ w1, (Instr.indexAt 48 (.slice p ts.length cap) (.int .i64 (k : Int))).run Tryd.prog w1 = .ok (.pointer (some a)) w1) ∧
      w.cell? a = some (.int .i64 (nthT ts k).1) ∧ w.cell? ⟨a.block, a.off + 1, none⟩ = some (.slice q (nthT ts k).2.length cq) ∧ IntS w (.slice q (nthT ts k).2.length cq) (nthT ts k).2 := by
  obtain ⟨ds, h0, h1, h2⟩ := h
  obtain ⟨i, g1, _, g3, _⟩ := infoTL
  obtain ⟨a, f1, f2⟩ := Row.at h1 uTL g1 g3 hk
  have hr := h2 k hk
  obtain ⟨q, cq, hv, _⟩ := hr.form
  have hc : ((List.range ts.length).map fun k => [Value.int .i64 (nthT ts k).1, nthV ds k])[k]? = some [Value.int .i64 (nthT ts k).1, nthV ds k] := by simp [hk]
  have hl : ∀ c ∈ ((List.range ts.length).map fun k => [Value.int .i64 (nthT ts k).1, nthV ds k]), c.length = 2 := by simp
  refine ⟨a, q, cq, f1, ?_, ?_, hv ▸ hr⟩
  · have := f2 0 _ (by rw [flat_get hl hc 0 (by decide)]; rfl)
    rwa [addr_add_zero] at this
  · exact f2 1 _ (by rw [flat_get hl hc 1 (by decide)]; rw [hv]; rfl)
/-- What is left of a size. -/
def left (c : Int) (n : Nat) : Int := if c - n < 0 then -1 else c - n
theorem szIntS_c (w : World) (p : Option Addr) (n cap : Nat) (c : Int) (h0 : 0 ≤ c) (h1 : c ≤ 1048576) (hn : n ≤ 9223372036854775807) :
    Calls Tryd.prog 99 #[.slice p n cap, .int .i64 c] w fun e w' => e = .returned (.int .i64 (left c n)) ∧ w = w' := by
  unfold left
  by_cases h : c - (n : Int) < 0
  · rw [if_pos h]
    go_enter Tryd.func99, Tryd.ntmps99
    go_wp2
    go_ret
    exact ⟨rfl, rfl⟩
  · rw [if_neg h]
    go_enter Tryd.func99, Tryd.ntmps99
    go_wp2
    go_ret
    exact ⟨rfl, rfl⟩
theorem szTag_c (w : World) (x : Int) (p : Option Addr) (n cap : Nat) (c : Int) (h0 : 0 ≤ c) (h1 : c ≤ 1048576) (hn : n ≤ 9223372036854775807) :
    Calls Tryd.prog 69 #[.agg #[.int .i64 x, .slice p n cap], .int .i64 c] w fun e w' => e = .returned (.int .i64 (left c n)) ∧ Gr w w' := by
  by_cases h : c - (n : Int) < 0
  · have hl : left c n = -1 := by unfold left; rw [if_pos h]
    have HL := Lib.hid hl
    clear h hl
    go_enter Tryd.func69, Tryd.ntmps69
    go_wp2_with fail
    (with_reducible refine (szIntS_c _ p n cap c h0 h1 hn).mono ?_); rintro e w1 ⟨rfl, rfl⟩
    simp only [HL.out]
    go_wp2
    go_ret
    exact ⟨by rw [HL.out]; rfl, gr_alloc w _⟩
  · have hl : left c n = c - n := by unfold left; rw [if_neg h]
    have HL := Lib.hid hl
    clear hl
    go_enter Tryd.func69, Tryd.ntmps69
    go_wp2_with fail
    (with_reducible refine (szIntS_c _ p n cap c h0 h1 hn).mono ?_); rintro e w1 ⟨rfl, rfl⟩
    simp only [HL.out]
    go_wp2
    go_ret
    exact ⟨by rw [HL.out]; rfl, gr_alloc w _⟩
def SzIs (c : Int) (ts : List Tag) (r : Int) : Prop := r = -1 ∨ (0 ≤ r ∧ r + cnt ts = c)
set_option maxHeartbeats 1000000 in
theorem szTagSc_c {w : World} {v : Value} {ts : List Tag} (h : TagS w v ts) (c : Int) (h0 : 0 ≤ c) (h1 : c ≤ 1048576) :
    Calls Tryd.prog 29 #[v, .int .i64 c] w fun e w' => ∃ r, e = .returned (.int .i64 r) ∧ SzIs c ts r ∧ Gr w w' := by
  obtain ⟨p, cap, rfl, hl1, hl2⟩ := h.form
  by_cases hb : (c : Int) - (ts.length : Int) < 0
  · go_enter Tryd.func29, Tryd.ntmps29
    go_wp2
    go_ret
    exact ⟨_, rfl, .inl rfl, Gr.refl _⟩
  · have hb' : (0 : Int) ≤ c - (ts.length : Int) := by omega
    go_enter Tryd.func29, Tryd.ntmps29
    go_wp2_with fail
    go_loopw [1, 5] (fun n i wr => ∃ (k : Nat) (N : Int), k ≤ ts.length ∧ i = .int .i64 k ∧ n = .int .i64 N ∧ 0 ≤ N ∧ N ≤ c ∧ Hid (N + cnt (ts.take k) + ((ts.length : Int) - k) = c) ∧ Gr w wr) (fun _ i _ => ts.length - (intOf i).toNat)
    case atStart => exact ⟨0, _, Nat.zero_le _, rfl, rfl, by omega, by omega, by simp [Hid, cnt], Gr.refl _⟩
    case round =>
      obtain ⟨k, N, hk, rfl, rfl, hN0, hN1, HN, hgr⟩ := hrel
      by_cases hlt : k < ts.length
      · obtain ⟨a, q, cq, hix, hca, hcb, hrow⟩ := (h.kept hgr).ixL hlt
        obtain ⟨_, _, hf, hf1, hf2⟩ := hrow.form
        have hst := cnt_step hlt
        generalize (nthT ts k).2.length = L at *
        have hLb : L ≤ 9223372036854775807 := by omega
        by_cases hc : N - (L : Int) < 0
        · have hl : left N L = -1 := by unfold left; rw [if_pos hc]
          have HL := Lib.hid hl
          clear hl hst hc
          go_wp2_with fail
          (with_reducible refine (szTag_c _ _ q L cq N hN0 (by omega) hLb).mono ?_); rintro e w1 ⟨rfl, g1⟩
          simp only [HL.out]
          go_wp2
          go_ret
          exact ⟨_, rfl, .inl rfl, hgr.trans g1⟩
        · have hl : left N L = N - L := by unfold left; rw [if_neg hc]
          have HL := Lib.hid hl
          have hnx : (N - L) + cnt (ts.take (k+1)) + ((ts.length : Int) - ((k : Int) + 1)) = c := by have := HN.out; omega
          have HNX := Lib.hid hnx
          clear hl hst hnx
          have hc' : (0 : Int) ≤ N - (L : Int) := by omega
          go_wp2_with fail
          (with_reducible refine (szTag_c _ _ q L cq N hN0 (by omega) hLb).mono ?_); rintro e w1 ⟨rfl, g1⟩
          simp only [HL.out]
          go_wp2
          go_roundw
          case measure => simp [intOf]; omega
          case rel => exact ⟨k+1, _, by omega, by go_num, rfl, hc', by omega, by have := HNX.out; simp only [Hid]; omega, hgr.trans g1⟩
      · have e : N + cnt ts = c := by have := HN.out; rw [List.take_of_length_le (by omega)] at this; omega
        have HE := Lib.hid e
        clear e
        go_wp2
        go_ret
        exact ⟨_, rfl, .inr ⟨hN0, HE.out⟩, hgr⟩
theorem szTagS_c {w : World} {v : Value} {ts : List Tag} (h : TagS w v ts) :
    Calls Tryd.prog 29 #[v, .int .i64 1048576] w fun e w' => ∃ r, e = .returned (.int .i64 r) ∧ SzIs 1048576 ts r ∧ Gr w w' := szTagSc_c h 1048576 (by decide) (by decide)
end Go.Proofs.YtikkjcfadbhemaaDoor
