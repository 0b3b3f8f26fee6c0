/- impl: the line of a pair. -/
import Derived.Test.YtfambpdhnicghaaGreatDoorQuadI
namespace Go.Proofs.YtfambpdhnicghaaGreatDoor
open Go.RowKit
theorem StrO.lit {w : World} {cs : Array Value} (ls : List Tx) {n m : Nat} (hm : m = w.heap.size) (hn : n ≤ 1000) (hl : ls.length = n) (hc : cs.toList = txs ls) : StrO w.heap.size (w.alloc (.cells cs 9)) (.slice (some ⟨m, 0, none⟩) n n) ls := by
  subst hl hm
  have hs : cs.size = ls.length * 1 := by rw [← Array.length_toList, hc]; simp [txs]
  have := Own.lit (B := w.heap.size) (e := 9) (sz := 1) w cs ls.length (Nat.le_refl _) (by omega) hs
  rw [hc] at this
  exact this
def proxyT : Tx := [80, 82, 79, 88, 89]
def tcpT : Tx := [84, 67, 80, 52]
theorem line_join (p : Par) : Lib.join [proxyT, tcpT, quadText p.src.quad, quadText p.dst.quad, dec p.src.port.toNat, dec p.dst.port.toNat] [32] ++ [13, 10] = lineText p := by
  rw [join6]
  simp [lineText, lineT, proxyT, tcpT]
set_option maxRecDepth 20000 in
set_option maxHeartbeats 4000000 in
theorem implLineText_c {w : World} {q q' : Value} {xs ys : List Int} (hm : ML w) (ht : Tab w) (k port k' port' : Int) (s s' : ByteArray) (hq : IntS w q xs) (hq' : IntS w q' ys) (hs : s.size ≤ 2000000) (hs' : s'.size ≤ 2000000) :
    Calls Tryz.prog 10 #[.agg #[.int .i64 k, q, .string s, .int .i64 port, .int .i64 k', q', .string s', .int .i64 port']] w fun e w' => e = .returned (.string (S (if parOk ⟨⟨k, xs, tx s, port⟩, ⟨k', ys, tx s', port'⟩⟩ = true then lineText ⟨⟨k, xs, tx s, port⟩, ⟨k', ys, tx s', port'⟩⟩ else []))) ∧ Gr w w' := by
  obtain ⟨p, cap, rfl, _, _⟩ := hq.form
  obtain ⟨p', cap', rfl, _, _⟩ := hq'.form
  have hg := gr_alloc w (.cells #[.int .i64 k, .slice p xs.length cap, .string s, .int .i64 port, .int .i64 k', .slice p' ys.length cap', .string s', .int .i64 port'] 27)
  cases hok : parOk ⟨⟨k, xs, tx s, port⟩, ⟨k', ys, tx s', port'⟩⟩
  · have HOK := Lib.hid hok
    clear hok
    go_enter Tryz.func10, Tryz.ntmps10
    go_wp2_with fail
    (with_reducible refine (implPairValid_c (hm.kept hg) k port k' port' s s' (hq.kept hg) (hq'.kept hg) hs hs').mono ?_); rintro e w1 ⟨rfl, g1⟩
    rw [HOK.out]
    go_wp2
    go_ret
    exact ⟨rfl, hg.trans g1⟩
  · have HOK := Lib.hid hok
    obtain ⟨h1, h2, hk1, hk2, q1, q2, hn1, hn2⟩ := par_parts hok
    have ll := (lineText_len hok).1
    have lj := line_join ⟨⟨k, xs, tx s, port⟩, ⟨k', ys, tx s', port'⟩⟩
    have p1 := adr_port h1
    have p2 := adr_port h2
    simp only [] at p1 p2 q1 q2 lj
    have LQ1 := Lib.hid (fun (W : World) (hT : Tab W) (hW : IntS W (.slice p xs.length cap) xs) => implQuadText_c hT hW q1)
    have LQ2 := Lib.hid (fun (W : World) (hT : Tab W) (hW : IntS W (.slice p' ys.length cap') ys) => implQuadText_c hT hW q2)
    have LD1 := Lib.hid (fun (W : World) (hT : Tab W) => itoa_c hT port p1.1 (by omega))
    have LD2 := Lib.hid (fun (W : World) (hT : Tab W) => itoa_c hT port' p2.1 (by omega))
    rw [if_pos rfl]
    generalize lineText ⟨⟨k, xs, tx s, port⟩, ⟨k', ys, tx s', port'⟩⟩ = r at *
    generalize quadText xs = t1 at *
    generalize quadText ys = t2 at *
    generalize dec port.toNat = d1 at *
    generalize dec port'.toNat = d2 at *
    obtain ⟨J, hJ⟩ : ∃ J, Lib.join [proxyT, tcpT, t1, t2, d1, d2] [32] = J := ⟨_, rfl⟩
    rw [hJ] at lj
    have lJ : J.length ≤ 120 := by rw [← lj, List.length_append] at ll; omega
    have A1 := add_eq (P := Tryz.prog) (S J) ⟨#[13, 10]⟩ r (by rw [tx_S, ← lj]; rfl) (by omega)
    have HJ := Lib.hid hJ
    clear hok h1 h2 hk1 hk2 hn1 hn2 p1 p2 q1 q2 lj hJ ll
    go_enter Tryz.func10, Tryz.ntmps10
    go_wp2_with fail
    (with_reducible refine (implPairValid_c (hm.kept hg) k port k' port' s s' (hq.kept hg) (hq'.kept hg) hs hs').mono ?_); rintro e w1 ⟨rfl, g1⟩
    rw [HOK.out]
    have hG1 := hg.trans g1
    have c1 := boxN g1 1 rfl
    have c3 := boxN g1 3 rfl
    have c5 := boxN g1 5 rfl
    have c7 := boxN g1 7 rfl
    have hqb := hq.kept hG1
    have hqb' := hq'.kept hG1
    have htb := ht.kept hG1
    go_wp2_with fail
    go_region_held3 (fun w' => w'.cell? ⟨w.heap.size, 1, none⟩ = some (.slice p xs.length cap) ∧ w'.cell? ⟨w.heap.size, 3, none⟩ = some (.int .i64 port) ∧ w'.cell? ⟨w.heap.size, 5, none⟩ = some (.slice p' ys.length cap') ∧ w'.cell? ⟨w.heap.size, 7, none⟩ = some (.int .i64 port')) (first | (exact ⟨g5.cell c1, g5.cell c3, g5.cell c5, g5.cell c7⟩) | (exact ⟨g4.cell c1, g4.cell c3, g4.cell c5, g4.cell c7⟩) | (exact ⟨g3.cell c1, g3.cell c3, g3.cell c5, g3.cell c7⟩) | (exact ⟨g2.cell c1, g2.cell c3, g2.cell c5, g2.cell c7⟩) | go_keep) (first
      | (go_at_call 38; (with_reducible refine (LQ1.out _ (htb.kept ((Gr.refl _).drew)) (hqb.kept ((Gr.refl _).drew))).mono ?_); rintro e w2 ⟨rfl, g2'⟩; have g2 : Gr w1 w2 := g2'.undrew)
      | (go_at_call 38; (with_reducible refine (LQ2.out _ (htb.kept g2) (hqb'.kept g2)).mono ?_); rintro e w3 ⟨rfl, g3'⟩; have g3 : Gr w1 w3 := g2.trans g3')
      | (go_at_call 39; (with_reducible refine (LD1.out _ (htb.kept g3)).mono ?_); rintro e w4 ⟨rfl, g4'⟩; have g4 : Gr w1 w4 := g3.trans g4')
      | (go_at_call 39; (with_reducible refine (LD2.out _ (htb.kept g4)).mono ?_); rintro e w5 ⟨rfl, g5'⟩; have g5 : Gr w1 w5 := g4.trans g5'))
    have hc6 : Hid (#[Value.string ⟨#[80, 82, 79, 88, 89]⟩, .string ⟨#[84, 67, 80, 52]⟩, .string (S t1), .string (S t2), .string (S d1), .string (S d2)].toList = txs [proxyT, tcpT, t1, t2, d1, d2]) := rfl
    have hl6 : Hid ([proxyT, tcpT, t1, t2, d1, d2].length = 6) := rfl
    go_wp2_with fail
    (with_reducible refine (join_c (StrO.lit [proxyT, tcpT, t1, t2, d1, d2] (by rfl) (by simp) hl6.out hc6.out) (by simp) (by simp) 32 HJ.out (by omega)).mono ?_); rintro e w6 ⟨rfl, g6⟩
    go_wp2
    go_ret
    exact ⟨rfl, (hG1.trans (g5.alloc _)).trans g6⟩
end Go.Proofs.YtfambpdhnicghaaGreatDoor
