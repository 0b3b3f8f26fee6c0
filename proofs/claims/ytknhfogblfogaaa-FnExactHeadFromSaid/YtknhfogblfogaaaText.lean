/- The texts of addresses, tunnels and lines. -/
import Derived.Test.YtknhfogblfogaaaDec
namespace Go.Proofs.Ytknhfogblfogaaa
open Go.RowKit
theorem boxN {w w1 : World} {cs : Array Value} {t : TypeId} (h : Gr (w.alloc (.cells cs t)) w1) (j : Nat) {v : Value} (hj : cs[j]? = some v) : w1.cell? ⟨w.heap.size, j, none⟩ = some v :=
  h.cell (by have e := heap_alloc_new w (.cells cs t); simp only [World.cell?, e]; exact hj)
theorem quadText_len {xs : List Int} (h : quadOk xs = true) : (quadText xs).length ≤ 39 := by
  have hb := (quad_bytes h).2
  have b0 := hb 0 (by omega)
  have b1 := hb 1 (by omega)
  have b2 := hb 2 (by omega)
  have b3 := hb 3 (by omega)
  have z0 := (dec_len (show (nth xs 0).toNat ≤ 100000000 by omega)).1
  have z1 := (dec_len (show (nth xs 1).toNat ≤ 100000000 by omega)).1
  have z2 := (dec_len (show (nth xs 2).toNat ≤ 100000000 by omega)).1
  have z3 := (dec_len (show (nth xs 3).toNat ≤ 100000000 by omega)).1
  simp [quadText]; omega
def hostText (a : Adr) : Tx := if a.kind = 1 then quadText a.quad else a.name
def addrText (a : Adr) : Tx := hostText a ++ [58] ++ dec a.port.toNat
theorem adr_port {a : Adr} (h : adrOk a = true) : 0 ≤ a.port ∧ a.port ≤ 65535 := by
  simp only [adrOk, Bool.and_eq_true] at h
  exact inB_iff.1 h.1
theorem adr_kind {a : Adr} (h : adrOk a = true) : (a.kind = 1 ∧ quadOk a.quad = true ∧ a.name = []) ∨ (a.kind = 3 ∧ nameOk a.name = true ∧ a.quad = []) := by
  simp only [adrOk, Bool.and_eq_true] at h
  have h2 := h.2
  split at h2
  · simp at h2; exact .inl ⟨by assumption, h2.1, h2.2⟩
  · split at h2
    · simp at h2; exact .inr ⟨by assumption, h2.1, h2.2⟩
    · cases h2
theorem nameOk_len {l : Tx} (h : nameOk l = true) : l.length ≤ 20 := by
  simp only [nameOk, Bool.and_eq_true, decide_eq_true_eq] at h
  exact h.2.1
theorem hostText_len {a : Adr} (h : adrOk a = true) : (hostText a).length ≤ 39 := by
  rcases adr_kind h with ⟨h1, h2, _⟩ | ⟨h1, h2, _⟩
  · rw [hostText, if_pos h1]; exact quadText_len h2
  · rw [hostText, if_neg (by omega)]; have := nameOk_len h2; omega
theorem addrText_len {a : Adr} (h : adrOk a = true) : (addrText a).length ≤ 49 := by
  have h1 := hostText_len h
  have h2 := adr_port h
  have h3 := (dec_len (show a.port.toNat ≤ 100000000 by omega)).1
  simp [addrText]; omega
set_option maxHeartbeats 1000000 in
theorem l3Host_c {w : World} {q : Value} {xs : List Int} (k port : Int) (s : ByteArray) (hq : IntS w q xs) (hok : adrOk ⟨k, xs, tx s, port⟩ = true) :
    Calls Try.prog 100 #[.agg #[.int .i64 k, q, .string s, .int .i64 port]] w fun e w' => e = .returned (.string (S (hostText ⟨k, xs, tx s, port⟩))) ∧ Gr w w' := by
  obtain ⟨p, cap, rfl, _, _⟩ := hq.form
  have hg := gr_alloc w (.cells #[.int .i64 k, .slice p xs.length cap, .string s, .int .i64 port] 24)
  have hk := adr_kind hok
  have HT : Hid (hostText ⟨k, xs, tx s, port⟩ = if k = 1 then quadText xs else tx s) := rfl
  generalize hostText ⟨k, xs, tx s, port⟩ = r at *
  by_cases k1 : k = 1
  · subst k1
    have hqo : quadOk xs = true := by
      rcases hk with ⟨_, h, _⟩ | ⟨h, _⟩
      · exact h
      · cases h
    have HQ := Lib.hid hqo
    clear hk hok hqo
    go_enter Try.func100, Try.ntmps100
    go_wp2_with fail
    (with_reducible refine (l2Quad_c (hq.kept hg) HQ.out).mono ?_); rintro e w1 ⟨rfl, g1⟩
    go_wp2
    go_ret
    exact ⟨ret_str (by rw [HT.out]; simp), hg.trans g1⟩
  · have k1' : (k == 1) = false := beq_eq_false_iff_ne.2 k1
    have HR : Hid (r = tx s) := by rw [Hid, HT.out, if_neg k1]
    clear hk hok k1
    go_enter Try.func100, Try.ntmps100
    go_wp2
    go_ret
    exact ⟨ret_str (by rw [HR.out, S_tx]), hg⟩
set_option maxHeartbeats 2000000 in
theorem AddressText_c {w : World} {q : Value} {xs : List Int} (k port : Int) (s : ByteArray) (hq : IntS w q xs) (hs : s.size ≤ 1000000) :
    Calls Try.prog 86 #[.agg #[.int .i64 k, q, .string s, .int .i64 port]] w fun e w' => e = .returned (.string (S (if adrOk ⟨k, xs, tx s, port⟩ = true then addrText ⟨k, xs, tx s, port⟩ else []))) ∧ Gr w w' := by
  obtain ⟨p, cap, rfl, _, _⟩ := hq.form
  have hg := gr_alloc w (.cells #[.int .i64 k, .slice p xs.length cap, .string s, .int .i64 port] 24)
  cases hok : adrOk ⟨k, xs, tx s, port⟩
  · have HOK := Lib.hid hok
    clear hok
    go_enter Try.func86, Try.ntmps86
    go_wp2_with fail
    (with_reducible refine (AddressValid_c k port s (hq.kept hg) hs).mono ?_); rintro e w1 ⟨rfl, g1⟩
    rw [HOK.out]
    go_wp2
    go_ret
    exact ⟨rfl, hg.trans g1⟩
  · have HOK := Lib.hid hok
    have hp := adr_port hok
    have hl := hostText_len hok
    simp only [] at hp
    have z := (dec_len (show port.toNat ≤ 100000000 by omega)).1
    have HT : Hid (addrText ⟨k, xs, tx s, port⟩ = hostText ⟨k, xs, tx s, port⟩ ++ [58] ++ dec port.toNat) := rfl
    have LH := Lib.hid (fun (W : World) (hW : IntS W (.slice p xs.length cap) xs) => l3Host_c k port s hW hok)
    have LD := Lib.hid (l6Dec_c port.toNat (by omega))
    have NP : Hid (port = (port.toNat : Int)) := Lib.hid (by omega)
    generalize hostText ⟨k, xs, tx s, port⟩ = ht at *
    generalize dec port.toNat = dp at *
    generalize addrText ⟨k, xs, tx s, port⟩ = r at *
    have A1 := add_eq (P := Try.prog) (S ht) ⟨#[58]⟩ (ht ++ [58]) (by rw [tx_S]; rfl) (by simp; omega)
    have A2 := add_eq (P := Try.prog) (S (ht ++ [58])) (S dp) (ht ++ [58] ++ dp) (by rw [tx_S, tx_S]) (by simp; omega)
    generalize ht ++ [58] = u1 at *
    generalize u1 ++ dp = u2 at *
    clear hok hl z
    go_enter Try.func86, Try.ntmps86
    go_wp2_with fail
    (with_reducible refine (AddressValid_c k port s (hq.kept hg) hs).mono ?_); rintro e w1 ⟨rfl, g1⟩
    rw [HOK.out]
    have hG1 := hg.trans g1
    have c0 := boxN g1 0 rfl
    have c1 := boxN g1 1 rfl
    have c2 := boxN g1 2 rfl
    have c3 := boxN g1 3 rfl
    go_wp2_with fail
    go_region_held3 (fun w' => w'.cell? ⟨w.heap.size, 0, none⟩ = some (.int .i64 k) ∧ w'.cell? ⟨w.heap.size, 1, none⟩ = some (.slice p xs.length cap) ∧ w'.cell? ⟨w.heap.size, 2, none⟩ = some (.string s) ∧ w'.cell? ⟨w.heap.size, 3, none⟩ = some (.int .i64 port)) (first | (exact ⟨g3.cell c0, g3.cell c1, g3.cell c2, g3.cell c3⟩) | (exact ⟨g2.cell c0, g2.cell c1, g2.cell c2, g2.cell c3⟩) | go_keep) (first
      | (go_at_call 100; (with_reducible refine (LH.out _ ((hq.kept hG1).kept ((Gr.refl _).drew))).mono ?_); rintro e w2 ⟨rfl, g2'⟩; have g2 : Gr w1 w2 := g2'.undrew)
      | (go_at_call 101; (with_reducible refine (LD.out _ port NP.out).mono ?_); rintro e w3 ⟨rfl, g3'⟩; have g3 : Gr w1 w3 := g2.trans g3'))
    go_wp2
    go_ret
    exact ⟨ret_str (by rw [HT.out]), hG1.trans g3⟩
def tunnelT : Tx := [67, 79, 78, 78, 69, 67, 84, 32]
def httpT : Tx := [32, 72, 84, 84, 80, 47, 49, 46, 49, 13, 10, 72, 111, 115, 116, 58, 32]
/-- What asks for a tunnel. -/
def connText (t : Tx) : Tx := tunnelT ++ t ++ httpT ++ t ++ [13, 10, 13, 10]
theorem l14Connect_c (w : World) (t : Tx) (ht : t.length ≤ 100000) :
    Calls Try.prog 85 #[.string (S t)] w fun e w' => e = .returned (.string (S (connText t))) ∧ w = w' := by
  have HC : Hid (connText t = tunnelT ++ t ++ httpT ++ t ++ [13, 10, 13, 10]) := rfl
  have l1 : tunnelT.length = 8 := rfl
  have l2 : httpT.length = 17 := rfl
  have A1 := add_eq (P := Try.prog) ⟨#[67, 79, 78, 78, 69, 67, 84, 32]⟩ (S t) (tunnelT ++ t) (by rw [tx_S]; rfl) (by simp; omega)
  have A2 := add_eq (P := Try.prog) (S (tunnelT ++ t)) ⟨#[32, 72, 84, 84, 80, 47, 49, 46, 49, 13, 10, 72, 111, 115, 116, 58, 32]⟩ (tunnelT ++ t ++ httpT) (by rw [tx_S]; rfl) (by simp; omega)
  have A3 := add_eq (P := Try.prog) (S (tunnelT ++ t ++ httpT)) (S t) (tunnelT ++ t ++ httpT ++ t) (by rw [tx_S, tx_S]) (by simp; omega)
  have A4 := add_eq (P := Try.prog) (S (tunnelT ++ t ++ httpT ++ t)) ⟨#[13, 10, 13, 10]⟩ (tunnelT ++ t ++ httpT ++ t ++ [13, 10, 13, 10]) (by rw [tx_S]; rfl) (by simp; omega)
  generalize tunnelT ++ t = u1 at *
  generalize u1 ++ httpT = u2 at *
  generalize u2 ++ t = u3 at *
  generalize u3 ++ [13, 10, 13, 10] = u4 at *
  clear l1 l2
  go_enter Try.func85, Try.ntmps85
  go_wp2
  go_ret
  exact ⟨ret_str (by rw [HC.out]), rfl⟩
theorem connText_len (t : Tx) : (connText t).length = 2 * t.length + 29 := by simp [connText, tunnelT, httpT]; omega
set_option maxHeartbeats 1000000 in
theorem ConnectText_c {w : World} {q : Value} {xs : List Int} (k port : Int) (s : ByteArray) (hq : IntS w q xs) (hs : s.size ≤ 1000000) :
    Calls Try.prog 71 #[.agg #[.int .i64 k, q, .string s, .int .i64 port]] w fun e w' => e = .returned (.string (S (if adrOk ⟨k, xs, tx s, port⟩ = true then connText (addrText ⟨k, xs, tx s, port⟩) else []))) ∧ Gr w w' := by
  obtain ⟨p, cap, rfl, _, _⟩ := hq.form
  have hg := gr_alloc w (.cells #[.int .i64 k, .slice p xs.length cap, .string s, .int .i64 port] 24)
  cases hok : adrOk ⟨k, xs, tx s, port⟩
  · have HOK := Lib.hid hok
    clear hok
    go_enter Try.func71, Try.ntmps71
    go_wp2_with fail
    (with_reducible refine (AddressValid_c k port s (hq.kept hg) hs).mono ?_); rintro e w1 ⟨rfl, g1⟩
    rw [HOK.out]
    go_wp2
    go_ret
    exact ⟨rfl, hg.trans g1⟩
  · have HOK := Lib.hid hok
    have hl := addrText_len hok
    clear hok
    go_enter Try.func71, Try.ntmps71
    go_wp2_with fail
    (with_reducible refine (AddressValid_c k port s (hq.kept hg) hs).mono ?_); rintro e w1 ⟨rfl, g1⟩
    rw [HOK.out]
    have hG1 := hg.trans g1
    have c0 := boxN g1 0 rfl
    have c1 := boxN g1 1 rfl
    have c2 := boxN g1 2 rfl
    have c3 := boxN g1 3 rfl
    go_wp2_with fail
    (with_reducible refine (AddressText_c k port s (hq.kept hG1) hs).mono ?_); rintro e w2 ⟨rfl, g2⟩
    rw [HOK.out]
    simp only [if_true]
    go_wp2_with fail
    (with_reducible refine (l14Connect_c _ _ (by omega)).mono ?_); rintro e w3 ⟨rfl, rfl⟩
    go_wp2
    go_ret
    exact ⟨rfl, hG1.trans g2⟩
/-- A pair of addresses. -/
structure Par where
  src : Adr
  dst : Adr
def parOk (p : Par) : Bool := adrOk p.src && (adrOk p.dst && (decide (p.src.kind = 1) && decide (p.dst.kind = 1)))
set_option maxHeartbeats 2000000 in
theorem PairValid_c {w : World} {q q' : Value} {xs ys : List Int} (k port k' port' : Int) (s s' : ByteArray) (hq : IntS w q xs) (hq' : IntS w q' ys) (hs : s.size ≤ 1000000) (hs' : s'.size ≤ 1000000) :
    Calls Try.prog 90 #[.agg #[.int .i64 k, q, .string s, .int .i64 port, .int .i64 k', q', .string s', .int .i64 port']] w fun e w' => e = .returned (.bool (parOk ⟨⟨k, xs, tx s, port⟩, ⟨k', ys, tx s', port'⟩⟩)) ∧ Gr w w' := by
  obtain ⟨p, cap, rfl, _, _⟩ := hq.form
  obtain ⟨p', cap', rfl, _, _⟩ := hq'.form
  have hg := gr_alloc w (.cells #[.int .i64 k, .slice p xs.length cap, .string s, .int .i64 port, .int .i64 k', .slice p' ys.length cap', .string s', .int .i64 port'] 26)
  have HP : Hid (parOk ⟨⟨k, xs, tx s, port⟩, ⟨k', ys, tx s', port'⟩⟩ = (adrOk ⟨k, xs, tx s, port⟩ && (adrOk ⟨k', ys, tx s', port'⟩ && (decide (k = 1) && decide (k' = 1))))) := rfl
  generalize parOk ⟨⟨k, xs, tx s, port⟩, ⟨k', ys, tx s', port'⟩⟩ = r at *
  cases hok : adrOk ⟨k, xs, tx s, port⟩
  · have HOK := Lib.hid hok
    clear hok
    go_enter Try.func90, Try.ntmps90
    go_wp2_with fail
    (with_reducible refine (AddressValid_c k port s (hq.kept hg) hs).mono ?_); rintro e w1 ⟨rfl, g1⟩
    rw [HOK.out]
    go_wp2
    go_ret
    exact ⟨ret_bool (by rw [HP.out, HOK.out]; rfl), hg.trans g1⟩
  · have HOK := Lib.hid hok
    clear hok
    cases hok' : adrOk ⟨k', ys, tx s', port'⟩
    · have HOK' := Lib.hid hok'
      clear hok'
      go_enter Try.func90, Try.ntmps90
      go_wp2_with fail
      (with_reducible refine (AddressValid_c k port s (hq.kept hg) hs).mono ?_); rintro e w1 ⟨rfl, g1⟩
      rw [HOK.out]
      have hG1 := hg.trans g1
      have c4 := boxN g1 4 rfl
      have c5 := boxN g1 5 rfl
      have c6 := boxN g1 6 rfl
      have c7 := boxN g1 7 rfl
      go_wp2_with fail
      (with_reducible refine (AddressValid_c k' port' s' (hq'.kept hG1) hs').mono ?_); rintro e w2 ⟨rfl, g2⟩
      rw [HOK'.out]
      go_wp2
      go_ret
      exact ⟨ret_bool (by rw [HP.out, HOK.out, HOK'.out]; rfl), hG1.trans g2⟩
    · have HOK' := Lib.hid hok'
      clear hok'
      by_cases k1 : k = 1
      · have k1' : (k == 1) = true := by rw [k1]; rfl
        have K1 := Lib.hid k1
        clear k1
        go_enter Try.func90, Try.ntmps90
        go_wp2_with fail
        (with_reducible refine (AddressValid_c k port s (hq.kept hg) hs).mono ?_); rintro e w1 ⟨rfl, g1⟩
        rw [HOK.out]
        have hG1 := hg.trans g1
        have c4 := boxN g1 4 rfl
        have c5 := boxN g1 5 rfl
        have c6 := boxN g1 6 rfl
        have c7 := boxN g1 7 rfl
        go_wp2_with fail
        (with_reducible refine (AddressValid_c k' port' s' (hq'.kept hG1) hs').mono ?_); rintro e w2 ⟨rfl, g2⟩
        rw [HOK'.out]
        have d0 := boxN (g1.trans g2) 0 rfl
        have d4 := boxN (g1.trans g2) 4 rfl
        go_wp2
        go_ret
        exact ⟨ret_bool (by rw [HP.out, HOK.out, HOK'.out, K1.out, Bool.eq_iff_iff]; simp), hG1.trans g2⟩
      · have k1' : (k == 1) = false := beq_eq_false_iff_ne.2 k1
        have K1 := Lib.hid k1
        clear k1
        go_enter Try.func90, Try.ntmps90
        go_wp2_with fail
        (with_reducible refine (AddressValid_c k port s (hq.kept hg) hs).mono ?_); rintro e w1 ⟨rfl, g1⟩
        rw [HOK.out]
        have hG1 := hg.trans g1
        have c4 := boxN g1 4 rfl
        have c5 := boxN g1 5 rfl
        have c6 := boxN g1 6 rfl
        have c7 := boxN g1 7 rfl
        go_wp2_with fail
        (with_reducible refine (AddressValid_c k' port' s' (hq'.kept hG1) hs').mono ?_); rintro e w2 ⟨rfl, g2⟩
        rw [HOK'.out]
        have d0 := boxN (g1.trans g2) 0 rfl
        go_wp2
        go_ret
        exact ⟨ret_bool (by rw [HP.out, HOK.out, HOK'.out]; simp [K1.out]), hG1.trans g2⟩
end Go.Proofs.Ytknhfogblfogaaa
