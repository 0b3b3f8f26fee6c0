/- Decimals; the texts of quads. -/
import Derived.Test.YtknhfogblfogaaaAdr
import Derived.Deep.RegionHeld3
import Derived.Deep.RegionWith
import Derived.Laws.BytesArg
namespace Go.Proofs.Ytknhfogblfogaaa
open Go.RowKit
/-- A number in decimals. -/
def dec (n : Nat) : Tx := if n < 10 then [UInt8.ofNat (48 + n)] else dec (n / 10) ++ [UInt8.ofNat (48 + n % 10)]
  termination_by n
  decreasing_by omega
theorem dec_small {n : Nat} (h : n < 10) : dec n = [UInt8.ofNat (48 + n)] := by rw [dec, if_pos h]
theorem dec_big {n : Nat} (h : ¬ n < 10) : dec n = dec (n / 10) ++ [UInt8.ofNat (48 + n % 10)] := by rw [dec, if_neg h]
theorem dec_len {n : Nat} (h : n ≤ 100000000) : (dec n).length ≤ 9 ∧ 1 ≤ (dec n).length := by
  have key : ∀ k n : Nat, n < 10 ^ (k + 1) → (dec n).length ≤ k + 1 ∧ 1 ≤ (dec n).length := by
    intro k
    induction k with
    | zero => intro n hn; rw [dec_small (by omega)]; simp
    | succ k ih =>
      intro n hn
      by_cases h10 : n < 10
      · rw [dec_small h10]; simp
      · rw [dec_big h10]
        have := ih (n / 10) (by rw [Nat.pow_succ] at hn; omega)
        simp; omega
  exact key 8 n (by omega)
theorem uStr : Try.prog.underlying 9 = some .string := by kernel_rfl
theorem uU8 : Try.prog.underlying 5 = some (.int .u8) := by kernel_rfl
theorem conv1 (w : World) (b : Nat) (x : Int) (hc : w.cell? ⟨b, 0, none⟩ = some (.int .u8 x)) : (convert 38 9 (.slice (some ⟨b, 0, none⟩) 1 1)).run Try.prog w = .ok (.string (S [UInt8.ofNat x.toNat])) w := by
  have := run_convert_bytes_arg (P := Try.prog) w 38 5 uB uU8 b 0 1 1 [x] rfl (fun i hi => by
    obtain rfl : i = 0 := by omega
    exact hc) 9 uStr
  rw [this]; rfl
theorem Gr.cellEq {a b : World} (h : Gr a b) : ∀ k o, k < a.heap.size → b.cell? ⟨k, o, none⟩ = a.cell? ⟨k, o, none⟩ := by
  intro k o hk
  simp only [World.cell?]
  rw [Below.block h k hk]
set_option maxHeartbeats 1000000 in
theorem l6Dec_c (n : Nat) : n ≤ 100000 → ∀ (w : World) (ni : Int), ni = (n : Int) →
    Calls Try.prog 101 #[.int .i64 ni] w fun e w' => e = .returned (.string (S (dec n))) ∧ Gr w w' := by
  induction n using Nat.strongRecOn with
  | ind n ih =>
    intro hn w ni hni
    subst hni
    by_cases h10 : n < 10
    · have HD := Lib.hid (dec_small h10)
      have h10' : (n : Int) < 10 := by omega
      have hcv := conv1
      go_enter Try.func101, Try.ntmps101
      go_wp2
      go_ret
      exact ⟨ret_str (by rw [HD.out]), gr_alloc _ _⟩
    · obtain ⟨q, hq⟩ : ∃ q, q = n / 10 := ⟨_, rfl⟩
      obtain ⟨r, hr⟩ : ∃ r, r = n % 10 := ⟨_, rfl⟩
      have hd : dec n = dec q ++ [UInt8.ofNat (48 + r)] := by rw [hq, hr]; exact dec_big h10
      have HD := Lib.hid hd
      have IH := Lib.hid (ih q (by omega) (by omega))
      have h10' : ¬ ((n : Int) < 10) := by omega
      have hr9 : r ≤ 9 := by omega
      have e1 : (n : Int).tdiv 10 = (q : Int) := by rw [Int.tdiv_eq_ediv_of_nonneg (by omega), hq]; omega
      have e2 : (n : Int).tmod 10 = (r : Int) := by rw [Int.tmod_eq_emod_of_nonneg (by omega), hr]; omega
      have e3 : IntKind.i64.wrap (q : Int) = (q : Int) := by rw [IntKind.wrap_i64]; omega
      have e4 : IntKind.i64.wrap (48 + (r : Int)) = 48 + (r : Int) := by rw [IntKind.wrap_i64]; omega
      have e5 : IntKind.u8.wrap (48 + (r : Int)) = 48 + (r : Int) := by rw [IntKind.wrap_u8]; omega
      have e6 : (48 + (r : Int)).toNat = 48 + r := by omega
      have hcv := conv1
      have hsz : (S (dec q)).size ≤ 9 := by rw [S_len]; exact (dec_len (by omega)).1
      have hs1 : ∀ x, (S [x]).size = 1 := fun x => rfl
      clear ih hd hq hr h10
      go_enter Try.func101, Try.ntmps101
      go_wp2_with fail
      go_region_with (first
        | (go_at_call 101; (with_reducible refine (IH.out _ _ rfl).mono ?_); rintro e w1 ⟨rfl, g1⟩; have hc1 := g1.cellEq; have hg1 : Gr w w1 := ((Gr.refl w).drew.trans g1))
        | (go_at_call 101; (with_reducible refine (IH.out _ _ rfl).mono ?_); rintro e w1 ⟨rfl, g1⟩; have hc1 := g1.cellEq; have hg1 : Gr w w1 := (((Gr.refl w).drew.alloc _).trans g1)))
      all_goals
        go_wp2
        go_ret
        first
          | exact ⟨ret_str (by rw [HD.out, ← S_app]; simp), hg1.alloc _⟩
          | exact ⟨ret_str (by rw [HD.out, ← S_app]; simp), hg1⟩
/-- The text of four bytes. -/
def quadText (q : List Int) : Tx := dec (nth q 0).toNat ++ [46] ++ dec (nth q 1).toNat ++ [46] ++ dec (nth q 2).toNat ++ [46] ++ dec (nth q 3).toNat
/-- Texts joined. -/
theorem add_eq {P : Program} (x y : ByteArray) (l : Tx) (h : tx x ++ tx y = l) (hl : l.length ≤ 1000000) : ∀ w, (Op.stringOp .add x y).run P w = .ok (.string (S l)) w := by
  intro w
  have hx := tx_len x
  have hy := tx_len y
  have hh : (tx x).length + (tx y).length = l.length := by rw [← h, List.length_append]
  rw [run_string_add (P := P) w x y (by omega) (by omega)]
  rw [show x ++ y = S l from S_eq (by rw [tx_app]; exact h)]
theorem IntS.ixN {w : World} {p : Option Addr} {cap n : Nat} {xs : List Int} (h : IntS w (.slice p n cap) xs) (hn : xs.length = n) (k : Nat) (ki : Int) (hki : ki = (k : Int)) (hk : k < n) :
    ∃ a : Addr, (∀ w1, (Instr.indexAt 22 (.slice p n cap) (.int .i64 ki)).run Try.prog w1 = .ok (.pointer (some a)) w1) ∧ w.cell? a = some (.int .i64 (nth xs k)) := by
  subst hn hki
  exact h.ix hk
theorem quad_bytes {xs : List Int} (h : quadOk xs = true) : xs.length = 4 ∧ ∀ k, k < 4 → 0 ≤ nth xs k ∧ nth xs k ≤ 255 := by
  simp only [quadOk, Bool.and_eq_true, decide_eq_true_eq] at h
  exact ⟨h.2, fun k hk => (by have hq := h.1; simp only [bv, Bool.and_eq_true, List.all_eq_true] at hq; rw [nth_eq (by omega)]; exact inB_iff.1 (hq.1 _ (List.getElem_mem (by omega))))⟩
set_option maxHeartbeats 2000000 in
theorem l2Quad_c {w : World} {v : Value} {xs : List Int} (h : IntS w v xs) (hok : quadOk xs = true) :
    Calls Try.prog 102 #[v] w fun e w' => e = .returned (.string (S (quadText xs))) ∧ Gr w w' := by
  obtain ⟨p, cap, rfl, _, _⟩ := h.form
  obtain ⟨h4, hb⟩ := quad_bytes hok
  obtain ⟨a0, x0, c0⟩ := h.ixN rfl 0 0 rfl (by omega)
  obtain ⟨a1, x1, c1⟩ := h.ixN rfl 1 1 rfl (by omega)
  obtain ⟨a2, x2, c2⟩ := h.ixN rfl 2 2 rfl (by omega)
  obtain ⟨a3, x3, c3⟩ := h.ixN rfl 3 3 rfl (by omega)
  have b0 := hb 0 (by omega)
  have b1 := hb 1 (by omega)
  have b2 := hb 2 (by omega)
  have b3 := hb 3 (by omega)
  have HQ : Hid (quadText xs = dec (nth xs 0).toNat ++ [46] ++ dec (nth xs 1).toNat ++ [46] ++ dec (nth xs 2).toNat ++ [46] ++ dec (nth xs 3).toNat) := rfl
  generalize nth xs 0 = y0 at *
  generalize nth xs 1 = y1 at *
  generalize nth xs 2 = y2 at *
  generalize nth xs 3 = y3 at *
  have z0 := (dec_len (show y0.toNat ≤ 100000000 by omega)).1
  have z1 := (dec_len (show y1.toNat ≤ 100000000 by omega)).1
  have z2 := (dec_len (show y2.toNat ≤ 100000000 by omega)).1
  have z3 := (dec_len (show y3.toNat ≤ 100000000 by omega)).1
  have L0 := Lib.hid (l6Dec_c y0.toNat (by omega))
  have L1 := Lib.hid (l6Dec_c y1.toNat (by omega))
  have L2 := Lib.hid (l6Dec_c y2.toNat (by omega))
  have L3 := Lib.hid (l6Dec_c y3.toNat (by omega))
  have N0 : Hid (y0 = (y0.toNat : Int)) := Lib.hid (by omega)
  have N1 : Hid (y1 = (y1.toNat : Int)) := Lib.hid (by omega)
  have N2 : Hid (y2 = (y2.toNat : Int)) := Lib.hid (by omega)
  have N3 : Hid (y3 = (y3.toNat : Int)) := Lib.hid (by omega)
  clear hb hok
  generalize dec y0.toNat = d0 at *
  generalize dec y1.toNat = d1 at *
  generalize dec y2.toNat = d2 at *
  generalize dec y3.toNat = d3 at *
  have A1 := add_eq (P := Try.prog) (S d0) ⟨#[46]⟩ (d0 ++ [46]) (by rw [tx_S]; rfl) (by simp; omega)
  have A2 := add_eq (P := Try.prog) (S (d0 ++ [46])) (S d1) (d0 ++ [46] ++ d1) (by rw [tx_S, tx_S]) (by simp; omega)
  have A3 := add_eq (P := Try.prog) (S (d0 ++ [46] ++ d1)) ⟨#[46]⟩ (d0 ++ [46] ++ d1 ++ [46]) (by rw [tx_S]; rfl) (by simp; omega)
  have A4 := add_eq (P := Try.prog) (S (d0 ++ [46] ++ d1 ++ [46])) (S d2) (d0 ++ [46] ++ d1 ++ [46] ++ d2) (by rw [tx_S, tx_S]) (by simp; omega)
  have A5 := add_eq (P := Try.prog) (S (d0 ++ [46] ++ d1 ++ [46] ++ d2)) ⟨#[46]⟩ (d0 ++ [46] ++ d1 ++ [46] ++ d2 ++ [46]) (by rw [tx_S]; rfl) (by simp; omega)
  have A6 := add_eq (P := Try.prog) (S (d0 ++ [46] ++ d1 ++ [46] ++ d2 ++ [46])) (S d3) (d0 ++ [46] ++ d1 ++ [46] ++ d2 ++ [46] ++ d3) (by rw [tx_S, tx_S]) (by simp; omega)
  generalize d0 ++ [46] = u1 at *
  generalize u1 ++ d1 = u2 at *
  generalize u2 ++ [46] = u3 at *
  generalize u3 ++ d2 = u4 at *
  generalize u4 ++ [46] = u5 at *
  generalize u5 ++ d3 = u6 at *
  have H4 := Lib.hid h4
  clear h4 z0 z1 z2 z3
  go_enter Try.func102, Try.ntmps102
  go_wp2_with fail
  go_region_held3 (fun w' => w'.cell? a0 = some (.int .i64 y0) ∧ w'.cell? a1 = some (.int .i64 y1) ∧ w'.cell? a2 = some (.int .i64 y2) ∧ w'.cell? a3 = some (.int .i64 y3)) (first | (exact ⟨g4.cell c0, g4.cell c1, g4.cell c2, g4.cell c3⟩) | (exact ⟨g3.cell c0, g3.cell c1, g3.cell c2, g3.cell c3⟩) | (exact ⟨g2.cell c0, g2.cell c1, g2.cell c2, g2.cell c3⟩) | (exact ⟨g1.cell c0, g1.cell c1, g1.cell c2, g1.cell c3⟩) | go_keep) (first
    | (go_at_call 101; (with_reducible refine (L0.out _ y0 N0.out).mono ?_); rintro e w1 ⟨rfl, g1'⟩; have g1 : Gr w w1 := g1'.undrew)
    | (go_at_call 101; (with_reducible refine (L1.out _ y1 N1.out).mono ?_); rintro e w2 ⟨rfl, g2'⟩; have g2 : Gr w w2 := g1.trans g2')
    | (go_at_call 101; (with_reducible refine (L2.out _ y2 N2.out).mono ?_); rintro e w3 ⟨rfl, g3'⟩; have g3 : Gr w w3 := g2.trans g3')
    | (go_at_call 101; (with_reducible refine (L3.out _ y3 N3.out).mono ?_); rintro e w4 ⟨rfl, g4'⟩; have g4 : Gr w w4 := g3.trans g4'))
  go_wp2
  go_ret
  exact ⟨ret_str (by rw [HQ.out]), g4⟩
end Go.Proofs.Ytknhfogblfogaaa
