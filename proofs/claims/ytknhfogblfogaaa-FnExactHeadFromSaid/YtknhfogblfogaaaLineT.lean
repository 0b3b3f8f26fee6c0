/- The lines of pairs: spec. -/
import Derived.Test.YtknhfogblfogaaaText
namespace Go.Proofs.Ytknhfogblfogaaa
open Go.RowKit
def lineT : Tx := [80, 82, 79, 88, 89, 32, 84, 67, 80, 52, 32]
/-- The line of a pair. -/
def lineText (p : Par) : Tx := lineT ++ quadText p.src.quad ++ [32] ++ quadText p.dst.quad ++ [32] ++ dec p.src.port.toNat ++ [32] ++ dec p.dst.port.toNat ++ [13, 10]
theorem par_parts {p : Par} (h : parOk p = true) : adrOk p.src = true ∧ adrOk p.dst = true ∧ p.src.kind = 1 ∧ p.dst.kind = 1 ∧ quadOk p.src.quad = true ∧ quadOk p.dst.quad = true ∧ p.src.name = [] ∧ p.dst.name = [] := by
  simp only [parOk, Bool.and_eq_true, decide_eq_true_eq] at h
  obtain ⟨h1, h2, h3, h4⟩ := h
  rcases adr_kind h1 with ⟨_, q1, m1⟩ | ⟨k1, _⟩
  · rcases adr_kind h2 with ⟨_, q2, m2⟩ | ⟨k2, _⟩
    · exact ⟨h1, h2, h3, h4, q1, q2, m1, m2⟩
    · omega
  · omega
theorem lineText_len {p : Par} (h : parOk p = true) : (lineText p).length ≤ 120 ∧ 1 ≤ (lineText p).length := by
  obtain ⟨h1, h2, _, _, q1, q2, _⟩ := par_parts h
  have a1 := quadText_len q1
  have a2 := quadText_len q2
  have p1 := adr_port h1
  have p2 := adr_port h2
  have z1 := (dec_len (show p.src.port.toNat ≤ 100000000 by omega)).1
  have z2 := (dec_len (show p.dst.port.toNat ≤ 100000000 by omega)).1
  have l : lineT.length = 11 := rfl
  simp [lineText]; omega
set_option maxHeartbeats 4000000 in
theorem l15Line_c {w : World} {q q' : Value} {xs ys : List Int} (k port k' port' : Int) (s s' : ByteArray) (hq : IntS w q xs) (hq' : IntS w q' ys) (hok : parOk ⟨⟨k, xs, tx s, port⟩, ⟨k', ys, tx s', port'⟩⟩ = true) :
    Calls Try.prog 91 #[.agg #[.int .i64 k, q, .string s, .int .i64 port, .int .i64 k', q', .string s', .int .i64 port']] w fun e w' => e = .returned (.string (S (lineText ⟨⟨k, xs, tx s, port⟩, ⟨k', ys, tx s', port'⟩⟩))) ∧ Gr w w' := by
  obtain ⟨p, cap, rfl, _, _⟩ := hq.form
  obtain ⟨p', cap', rfl, _, _⟩ := hq'.form
  have hg := gr_alloc w (.cells #[.int .i64 k, .slice p xs.length cap, .string s, .int .i64 port, .int .i64 k', .slice p' ys.length cap', .string s', .int .i64 port'] 26)
  have c1 := boxN (Gr.refl (w.alloc (.cells #[.int .i64 k, .slice p xs.length cap, .string s, .int .i64 port, .int .i64 k', .slice p' ys.length cap', .string s', .int .i64 port'] 26))) 1 rfl
  have c3 := boxN (Gr.refl (w.alloc (.cells #[.int .i64 k, .slice p xs.length cap, .string s, .int .i64 port, .int .i64 k', .slice p' ys.length cap', .string s', .int .i64 port'] 26))) 3 rfl
  have c5 := boxN (Gr.refl (w.alloc (.cells #[.int .i64 k, .slice p xs.length cap, .string s, .int .i64 port, .int .i64 k', .slice p' ys.length cap', .string s', .int .i64 port'] 26))) 5 rfl
  have c7 := boxN (Gr.refl (w.alloc (.cells #[.int .i64 k, .slice p xs.length cap, .string s, .int .i64 port, .int .i64 k', .slice p' ys.length cap', .string s', .int .i64 port'] 26))) 7 rfl
  obtain ⟨h1, h2, hk1, hk2, q1, q2, hn1, hn2⟩ := par_parts hok
  clear hk1 hk2 hn1 hn2
  have a1 := quadText_len q1
  have a2 := quadText_len q2
  have p1 := adr_port h1
  have p2 := adr_port h2
  simp only [] at a1 a2 p1 p2 q1 q2
  have z1 := (dec_len (show port.toNat ≤ 100000000 by omega)).1
  have z2 := (dec_len (show port'.toNat ≤ 100000000 by omega)).1
  have HT : Hid (lineText ⟨⟨k, xs, tx s, port⟩, ⟨k', ys, tx s', port'⟩⟩ = lineT ++ quadText xs ++ [32] ++ quadText ys ++ [32] ++ dec port.toNat ++ [32] ++ dec port'.toNat ++ [13, 10]) := rfl
  have LQ1 := Lib.hid (fun (W : World) (hW : IntS W (.slice p xs.length cap) xs) => l2Quad_c hW q1)
  have LQ2 := Lib.hid (fun (W : World) (hW : IntS W (.slice p' ys.length cap') ys) => l2Quad_c hW q2)
  have LD1 := Lib.hid (l6Dec_c port.toNat (by omega))
  have LD2 := Lib.hid (l6Dec_c port'.toNat (by omega))
  have NP1 : Hid (port = (port.toNat : Int)) := Lib.hid (by omega)
  have NP2 : Hid (port' = (port'.toNat : Int)) := Lib.hid (by omega)
  have l0 : lineT.length = 11 := rfl
  generalize lineText ⟨⟨k, xs, tx s, port⟩, ⟨k', ys, tx s', port'⟩⟩ = r at *
  generalize quadText xs = t1 at *
  generalize quadText ys = t2 at *
  generalize dec port.toNat = d1 at *
  generalize dec port'.toNat = d2 at *
  have A1 := add_eq (P := Try.prog) ⟨#[80, 82, 79, 88, 89, 32, 84, 67, 80, 52, 32]⟩ (S t1) (lineT ++ t1) (by rw [tx_S]; rfl) (by simp; omega)
  have A2 := add_eq (P := Try.prog) (S (lineT ++ t1)) ⟨#[32]⟩ (lineT ++ t1 ++ [32]) (by rw [tx_S]; rfl) (by simp; omega)
  have A3 := add_eq (P := Try.prog) (S (lineT ++ t1 ++ [32])) (S t2) (lineT ++ t1 ++ [32] ++ t2) (by rw [tx_S, tx_S]) (by simp; omega)
  have A4 := add_eq (P := Try.prog) (S (lineT ++ t1 ++ [32] ++ t2)) ⟨#[32]⟩ (lineT ++ t1 ++ [32] ++ t2 ++ [32]) (by rw [tx_S]; rfl) (by simp; omega)
  have A5 := add_eq (P := Try.prog) (S (lineT ++ t1 ++ [32] ++ t2 ++ [32])) (S d1) (lineT ++ t1 ++ [32] ++ t2 ++ [32] ++ d1) (by rw [tx_S, tx_S]) (by simp; omega)
  have A6 := add_eq (P := Try.prog) (S (lineT ++ t1 ++ [32] ++ t2 ++ [32] ++ d1)) ⟨#[32]⟩ (lineT ++ t1 ++ [32] ++ t2 ++ [32] ++ d1 ++ [32]) (by rw [tx_S]; rfl) (by simp; omega)
  have A7 := add_eq (P := Try.prog) (S (lineT ++ t1 ++ [32] ++ t2 ++ [32] ++ d1 ++ [32])) (S d2) (lineT ++ t1 ++ [32] ++ t2 ++ [32] ++ d1 ++ [32] ++ d2) (by rw [tx_S, tx_S]) (by simp; omega)
  have A8 := add_eq (P := Try.prog) (S (lineT ++ t1 ++ [32] ++ t2 ++ [32] ++ d1 ++ [32] ++ d2)) ⟨#[13, 10]⟩ (lineT ++ t1 ++ [32] ++ t2 ++ [32] ++ d1 ++ [32] ++ d2 ++ [13, 10]) (by rw [tx_S]; rfl) (by simp; omega)
  generalize lineT ++ t1 = u1 at *
  generalize u1 ++ [32] = u2 at *
  generalize u2 ++ t2 = u3 at *
  generalize u3 ++ [32] = u4 at *
  generalize u4 ++ d1 = u5 at *
  generalize u5 ++ [32] = u6 at *
  generalize u6 ++ d2 = u7 at *
  generalize u7 ++ [13, 10] = u8 at *
  clear hok h1 h2 q1 q2 a1 a2 p1 p2 z1 z2 l0
  go_enter Try.func91, Try.ntmps91
  go_wp2_with fail
  have hqb := hq.kept hg
  have hqb' := hq'.kept hg
  generalize hW0 : w.alloc (.cells #[.int .i64 k, .slice p xs.length cap, .string s, .int .i64 port, .int .i64 k', .slice p' ys.length cap', .string s', .int .i64 port'] 26) = w0 at *
  have HW0 := Lib.hid hW0
  clear hW0
  go_region_held3 (fun w' => w'.cell? ⟨w.heap.size, 1, none⟩ = some (.slice p xs.length cap) ∧ w'.cell? ⟨w.heap.size, 3, none⟩ = some (.int .i64 port) ∧ w'.cell? ⟨w.heap.size, 5, none⟩ = some (.slice p' ys.length cap') ∧ w'.cell? ⟨w.heap.size, 7, none⟩ = some (.int .i64 port')) (first | (exact ⟨g4.cell c1, g4.cell c3, g4.cell c5, g4.cell c7⟩) | (exact ⟨g3.cell c1, g3.cell c3, g3.cell c5, g3.cell c7⟩) | (exact ⟨g2.cell c1, g2.cell c3, g2.cell c5, g2.cell c7⟩) | (exact ⟨g1.cell c1, g1.cell c3, g1.cell c5, g1.cell c7⟩) | go_keep) (first
    | (go_at_call 102; (with_reducible refine (LQ1.out _ (hqb.kept ((Gr.refl _).drew))).mono ?_); rintro e w1 ⟨rfl, g1'⟩; have g1 : Gr w0 w1 := g1'.undrew)
    | (go_at_call 102; (with_reducible refine (LQ2.out _ (hqb'.kept g1)).mono ?_); rintro e w2 ⟨rfl, g2'⟩; have g2 : Gr w0 w2 := g1.trans g2')
    | (go_at_call 101; (with_reducible refine (LD1.out _ port NP1.out).mono ?_); rintro e w3 ⟨rfl, g3'⟩; have g3 : Gr w0 w3 := g2.trans g3')
    | (go_at_call 101; (with_reducible refine (LD2.out _ port' NP2.out).mono ?_); rintro e w4 ⟨rfl, g4'⟩; have g4 : Gr w0 w4 := g3.trans g4'))
  go_wp2
  go_ret
  exact ⟨ret_str (by rw [HT.out]), hg.trans g4⟩
set_option maxHeartbeats 1000000 in
theorem LineText_c {w : World} {q q' : Value} {xs ys : List Int} (k port k' port' : Int) (s s' : ByteArray) (hq : IntS w q xs) (hq' : IntS w q' ys) (hs : s.size ≤ 1000000) (hs' : s'.size ≤ 1000000) :
    Calls Try.prog 73 #[.agg #[.int .i64 k, q, .string s, .int .i64 port, .int .i64 k', q', .string s', .int .i64 port']] w fun e w' => e = .returned (.string (S (if parOk ⟨⟨k, xs, tx s, port⟩, ⟨k', ys, tx s', port'⟩⟩ = true then lineText ⟨⟨k, xs, tx s, port⟩, ⟨k', ys, tx s', port'⟩⟩ else []))) ∧ Gr w w' := by
  obtain ⟨p, cap, rfl, _, _⟩ := hq.form
  obtain ⟨p', cap', rfl, _, _⟩ := hq'.form
  have hg := gr_alloc w (.cells #[.int .i64 k, .slice p xs.length cap, .string s, .int .i64 port, .int .i64 k', .slice p' ys.length cap', .string s', .int .i64 port'] 26)
  cases hok : parOk ⟨⟨k, xs, tx s, port⟩, ⟨k', ys, tx s', port'⟩⟩
  · have HOK := Lib.hid hok
    clear hok
    go_enter Try.func73, Try.ntmps73
    go_wp2_with fail
    (with_reducible refine (PairValid_c k port k' port' s s' (hq.kept hg) (hq'.kept hg) hs hs').mono ?_); rintro e w1 ⟨rfl, g1⟩
    rw [HOK.out]
    go_wp2
    go_ret
    exact ⟨rfl, hg.trans g1⟩
  · have HOK := Lib.hid hok
    clear hok
    go_enter Try.func73, Try.ntmps73
    go_wp2_with fail
    (with_reducible refine (PairValid_c k port k' port' s s' (hq.kept hg) (hq'.kept hg) hs hs').mono ?_); rintro e w1 ⟨rfl, g1⟩
    rw [HOK.out]
    have hG1 := hg.trans g1
    have c0 := boxN g1 0 rfl
    have c1 := boxN g1 1 rfl
    have c2 := boxN g1 2 rfl
    have c3 := boxN g1 3 rfl
    have c4 := boxN g1 4 rfl
    have c5 := boxN g1 5 rfl
    have c6 := boxN g1 6 rfl
    have c7 := boxN g1 7 rfl
    go_wp2_with fail
    (with_reducible refine (l15Line_c k port k' port' s s' (hq.kept hG1) (hq'.kept hG1) HOK.out).mono ?_); rintro e w2 ⟨rfl, g2⟩
    go_wp2
    go_ret
    exact ⟨rfl, hG1.trans g2⟩
end Go.Proofs.Ytknhfogblfogaaa
