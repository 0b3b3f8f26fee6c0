/- The size of logins; logins, copied; logins that are alike. -/
import Derived.Test.YtgigjgjpglmpoaaGreatDoorLgF
import Derived.Test.YtgigjgjpglmpoaaGreatDoorGQ
namespace Go.Proofs.YtgigjgjpglmpoaaGreatDoor
open Go.RowKit
theorem uLL : Tryz.prog.underlying 23 = some (.slice 41) := by kernel_rfl
theorem infoLL : ∃ i, Tryz.prog.info? 41 = some i ∧ i.zero = some (.agg #[.string ByteArray.empty, .string ByteArray.empty]) ∧ i.size = 2 ∧ i.bytes = 32 := info_parts (by kernel_rfl)
theorem LgS.ixL {w : World} {p : Option Addr} {cap : Nat} {ls : List Lg} (h : LgS w (.slice p ls.length cap) ls) {k : Nat} (hk : k < ls.length) :
    ∃ a : Addr, (∀ w1, (Instr.indexAt 23 (.slice p ls.length cap) (.int .i64 (k : Int))).run Tryz.prog w1 = .ok (.pointer (some a)) w1) ∧
      w.cell? a = some (.string (S (nthLg ls k).1)) ∧ w.cell? ⟨a.block, a.off + 1, none⟩ = some (.string (S (nthLg ls k).2)) := by
  obtain ⟨i, g1, _, g3, _⟩ := infoLL
  obtain ⟨a, f1, f2⟩ := Row.at h uLL g1 g3 hk
  have hc : (ls.map fun l => [Value.string (S l.1), Value.string (S l.2)])[k]? = some [Value.string (S (nthLg ls k).1), Value.string (S (nthLg ls k).2)] := by
    rw [List.getElem?_map, List.getElem?_eq_getElem hk, nthLg_eq hk]; rfl
  have hl : ∀ c ∈ (ls.map fun l => [Value.string (S l.1), Value.string (S l.2)]), c.length = 2 := by
    intro c hc
    obtain ⟨l, _, rfl⟩ := List.mem_map.1 hc
    rfl
  refine ⟨a, f1, ?_, ?_⟩
  · have := f2 0 _ (by unfold lgs; rw [flat_get hl hc 0 (by decide)]; rfl)
    rwa [addr_add_zero] at this
  · exact f2 1 _ (by unfold lgs; rw [flat_get hl hc 1 (by decide)]; rfl)
theorem szLogin_c (w : World) (a b : ByteArray) (c : Int) (h0 : 0 ≤ c) (h1 : c ≤ 1048576) (ha : a.size ≤ 9223372036854775807) (hb : b.size ≤ 9223372036854775807) :
    Calls Tryz.prog 16 #[.agg #[.string a, .string b], .int .i64 c] w fun e w' => ∃ r : Int, e = .returned (.int .i64 r) ∧ ((r = -1 ∧ c < (a.size : Int) + b.size) ∨ (0 ≤ r ∧ r + a.size + b.size = c)) ∧ Gr w w' := by
  by_cases h : c - (a.size : Int) < 0
  · go_enter Tryz.func16, Tryz.ntmps16
    go_wp2
    go_ret
    exact ⟨_, rfl, .inl ⟨rfl, by omega⟩, gr_alloc w _⟩
  · have h' : (0 : Int) ≤ c - (a.size : Int) := by omega
    by_cases h2 : c - (a.size : Int) - (b.size : Int) < 0
    · go_enter Tryz.func16, Tryz.ntmps16
      go_wp2
      go_ret
      exact ⟨_, rfl, .inl ⟨rfl, by omega⟩, gr_alloc w _⟩
    · have h2' : (0 : Int) ≤ c - (a.size : Int) - (b.size : Int) := by omega
      go_enter Tryz.func16, Tryz.ntmps16
      go_wp2
      go_ret
      exact ⟨_, rfl, .inr ⟨by omega, by omega⟩, gr_alloc w _⟩
theorem eqLogin_c (w : World) (a b : ByteArray) :
    Calls Tryz.prog 21 #[.agg #[.string a, .string b], .agg #[.string a, .string b]] w fun e w' => e = .returned (.bool true) ∧ Gr w w' := by
  go_enter Tryz.func21, Tryz.ntmps21
  go_wp2
  go_ret
  exact ⟨rfl, (gr_alloc w _).alloc _⟩
theorem toLogin_c (w : World) (a b : ByteArray) :
    Calls Tryz.prog 18 #[.agg #[.string a, .string b]] w fun e w' => e = .returned (.agg #[.string a, .string b]) ∧ Gr w w' := by
  go_enter Tryz.func18, Tryz.ntmps18
  go_wp2
  exact bodyPost_ret (v := .agg #[.string a, .string b]) (by simp [results, Tryz.results18, go_sem, *]) rfl ⟨rfl, ((gr_alloc w _).alloc _).alloc _⟩
theorem eqLoginS_c {w : World} {v u : Value} {ls : List Lg} (h : LgS w v ls) (hu : LgS w u ls) :
    Calls Tryz.prog 11 #[v, u] w fun e w' => e = .returned (.bool true) ∧ Gr w w' := by
  obtain ⟨p, c, rfl, _, _⟩ := h.form
  obtain ⟨q, d, rfl, _, _⟩ := hu.form
  go_enter Tryz.func11, Tryz.ntmps11
  go_wp2_with fail
  go_loopw [5] (fun i wr => ∃ k : Nat, k ≤ ls.length ∧ i = .int .i64 k ∧ Gr w wr) (fun i _ => ls.length - (intOf i).toNat)
  case atStart => exact ⟨0, Nat.zero_le _, rfl, Gr.refl _⟩
  case round =>
    obtain ⟨k, hk, rfl, hgr⟩ := hrel
    by_cases hlt : k < ls.length
    · obtain ⟨a, hixa, ha1, ha2⟩ := (h.kept hgr).ix hlt
      obtain ⟨b, hixb, hb1, hb2⟩ := (hu.kept hgr).ix hlt
      go_wp2_with fail
      go_region_held3 (fun w' => w'.cell? a = some (.string (S (nthLg ls k).1)) ∧ w'.cell? ⟨a.block, a.off + 1, none⟩ = some (.string (S (nthLg ls k).2)) ∧ w'.cell? b = some (.string (S (nthLg ls k).1)) ∧ w'.cell? ⟨b.block, b.off + 1, none⟩ = some (.string (S (nthLg ls k).2))) (first | (exact ⟨g1.cell ha1, g1.cell ha2, g1.cell hb1, g1.cell hb2⟩) | go_keep) (first | (go_at_call 21; (with_reducible refine (eqLogin_c _ _ _).mono ?_); rintro e w1 ⟨rfl, g1'⟩; have g1 : Gr wr w1 := g1'.undrew) | (go_at_call 21; (with_reducible refine (eqLogin_c _ _ _).mono ?_); rintro e w1 ⟨rfl, g1⟩))
      go_wp2
      go_roundw
      case rel => exact ⟨k+1, by omega, by go_num, hgr.trans g1⟩
      case measure => simp [intOf]; omega
    · go_wp2
      go_ret
      exact ⟨rfl, hgr⟩
/-- How many bytes logins hold, and themselves. -/
def cntL : List Lg → Nat
  | [] => 0
  | l :: ls => l.1.length + l.2.length + cntL ls
theorem cntL_app (xs ys : List Lg) : cntL (xs ++ ys) = cntL xs + cntL ys := by
  induction xs with
  | nil => simp [cntL]
  | cons x xs ih => simp [cntL, ih]; omega
theorem cntL_step {ls : List Lg} {k : Nat} (h : k < ls.length) : cntL (ls.take (k+1)) = cntL (ls.take k) + (nthLg ls k).1.length + (nthLg ls k).2.length := by
  rw [List.take_succ_eq_append_getElem h, cntL_app, nthLg_eq h]; simp [cntL]; omega
def SzL (c : Int) (ls : List Lg) (r : Int) : Prop := r = -1 ∨ (0 ≤ r ∧ r + ls.length + cntL ls = c)
def LgBig (ls : List Lg) : Prop := ∀ k, k < ls.length → (nthLg ls k).1.length ≤ 9223372036854775807 ∧ (nthLg ls k).2.length ≤ 9223372036854775807
set_option maxHeartbeats 1000000 in
theorem szLoginS_c {w : World} {v : Value} {ls : List Lg} (h : LgS w v ls) (hs : LgBig ls) (c : Int) (h0 : 0 ≤ c) (h1 : c ≤ 1048576) :
    Calls Tryz.prog 4 #[v, .int .i64 c] w fun e w' => ∃ r, e = .returned (.int .i64 r) ∧ SzL c ls r ∧ Gr w w' := by
  obtain ⟨p, cap, rfl, hl1, hl2⟩ := h.form
  have HS := Lib.hid hs; clear hs
  by_cases hb : (c : Int) - (ls.length : Int) < 0
  · go_enter Tryz.func4, Tryz.ntmps4
    go_wp2
    go_ret
    exact ⟨_, rfl, .inl rfl, Gr.refl _⟩
  · have hb' : (0 : Int) ≤ c - (ls.length : Int) := by omega
    go_enter Tryz.func4, Tryz.ntmps4
    go_wp2_with fail
    go_loopw [1, 5] (fun n i wr => ∃ (k : Nat) (N : Int), k ≤ ls.length ∧ i = .int .i64 k ∧ n = .int .i64 N ∧ 0 ≤ N ∧ N ≤ c ∧ Hid (N + cntL (ls.take k) + (ls.length : Int) = c) ∧ Gr w wr) (fun _ i _ => ls.length - (intOf i).toNat)
    case atStart => exact ⟨0, _, Nat.zero_le _, rfl, rfl, by omega, by omega, by simp [Hid, cntL], Gr.refl _⟩
    case round =>
      obtain ⟨k, N, hk, rfl, rfl, hN0, hN1, HN, hgr⟩ := hrel
      by_cases hlt : k < ls.length
      · obtain ⟨a, hix, hca, hcb⟩ := (h.kept hgr).ixL hlt
        obtain ⟨z1, z2⟩ := HS.out k hlt
        have z1' : (S (nthLg ls k).1).size ≤ 9223372036854775807 := by rw [S_len]; exact z1
        have z2' : (S (nthLg ls k).2).size ≤ 9223372036854775807 := by rw [S_len]; exact z2
        have hst := Lib.hid (cntL_step hlt)
        clear z1 z2
        go_wp2_with fail
        (with_reducible refine (szLogin_c _ _ _ N hN0 (by omega) z1' z2').mono ?_); rintro e w1 ⟨r, rfl, hr, g1⟩
        rcases hr with ⟨rfl, _⟩ | ⟨hr0, hr1⟩
        · go_wp2
          go_ret
          exact ⟨_, rfl, .inl rfl, hgr.trans g1⟩
        · have HR := Lib.hid hr1
          have hr2 : r ≤ c := by omega
          clear hr1
          go_wp2
          go_roundw
          case measure => simp [intOf]; omega
          case rel => exact ⟨k+1, _, by omega, by go_num, rfl, hr0, hr2, by have := HN.out; have e1 := hst.out; have e2 := HR.out; rw [S_len, S_len] at e2; simp only [Hid]; omega, hgr.trans g1⟩
      · have e : N + ls.length + cntL ls = c := by have := HN.out; rw [List.take_of_length_le (by omega)] at this; omega
        have HE := Lib.hid e
        clear e
        go_wp2
        go_ret
        exact ⟨_, rfl, .inr ⟨hN0, HE.out⟩, hgr⟩
end Go.Proofs.YtgigjgjpglmpoaaGreatDoor
