/- Readers of impl: a text, an address, a number and an address. -/
import Derived.Test.YtpdjibfcbjknhaaGreatDoorGW
import Derived.Test.YtpdjibfcbjknhaaGreatDoorHelloF
import Derived.Test.YtpdjibfcbjknhaaGreatDoorByt
import Derived.Test.YtpdjibfcbjknhaaGreatDoorNameI
import Derived.Test.YtpdjibfcbjknhaaGreatDoorGQ
import Derived.Test.YtpdjibfcbjknhaaGreatDoorGF
namespace Go.Proofs.YtpdjibfcbjknhaaGreatDoor
open Go.RowKit
set_option maxHeartbeats 1000000 in
theorem text_c {w : World} {g : Nat} {s : Rs} (h : RdrAt w g s) :
    Calls Tryz.prog 84 #[.pointer (some ⟨g, 0, none⟩)] w fun e w' => e = .returned (.string (S s.text.1)) ∧ RdrAt w' g s.text.2 ∧ D g w w' := by
  have E1 : Hid (s.byte = (s.byte.1, s.byte.2)) := rfl
  have hcr := h.byteR
  obtain ⟨c, hc⟩ := Int.eq_ofNat_of_zero_le hcr.1
  have hc2 : c ≤ 255 := by omega
  have e1 : s.text.1 = bt (s.byte.2.take c).1 := by unfold Rs.text; rw [hc]; rfl
  have e2 : s.text.2 = (s.byte.2.take c).2 := by unfold Rs.text; rw [hc]; rfl
  have HE1 := Lib.hid e1
  have HE2 := Lib.hid e2
  have E2 : Hid (s.byte.2.take c = ((s.byte.2.take c).1, (s.byte.2.take c).2)) := rfl
  have hyl : (s.byte.2.take c).1.length = c := Rs.take_len c
  have HYL := Lib.hid hyl
  clear e1 e2 hcr hyl
  generalize s.text.1 = r1 at *
  generalize s.text.2 = r2 at *
  generalize s.byte.1 = ci at *
  generalize s.byte.2 = s1 at *
  have HBY := Lib.hid (fun (hk : s1.ok) => Rs.take_bytes hk c)
  generalize (s1.take c).1 = ys at *
  generalize (s1.take c).2 = s2 at *
  go_enter Tryz.func84, Tryz.ntmps84
  go_wp2_with fail
  (with_reducible refine (byteE h E1).mono ?_); rintro e w1 ⟨rfl, hr1, hd1⟩
  have T := takeN hr1 E2 ci hc (by omega)
  have HC := Lib.hid hc
  clear hc
  go_wp2_with fail
  (with_reducible refine T.mono ?_); rintro e w2 ⟨q, cq, rfl, o2, hr2, hd2⟩
  clear T
  have hby := HBY.out hr1.1
  go_wp2_with fail
  (with_reducible refine (bytesText_c o2.s hby (Nat.le_trans (Nat.le_of_eq HYL.out) (by omega))).mono ?_); rintro e w3 ⟨rfl, g3⟩
  go_wp2
  go_ret
  exact ⟨ret_str (by rw [HE1.out]), by rw [HE2.out]; exact hr2.kept g3, (hd1.trans hd2).trans (D.ofGr g3)⟩
/-- What the reader of an address hands back. -/
def AdrR (a : Adr) (g : Nat) (s : Rs) (w : World) (e : Ending) (w' : World) : Prop :=
  ∃ (q : Option Addr) (c : Nat), e = .returned (.agg #[.int .i64 a.kind, .slice q a.quad.length c, .string (S a.name), .int .i64 a.port]) ∧ IntO w.heap.size 3 w' (.slice q a.quad.length c) a.quad ∧ RdrAt w' g s ∧ D g w w'
theorem AdrR.mk {w w' : World} {g : Nat} {s s6 : Rs} {k p : Int} {q : Option Addr} {c : Nat} {xs : List Int} {nm : ByteArray} (E : Hid (s.adr = adrFin ⟨k, xs, tx nm, p⟩ s6)) {b : Bool} (hb : Hid (adrOk ⟨k, xs, tx nm, p⟩ = b))
    (ho : IntO w.heap.size 3 w' (.slice q xs.length c) xs) (hr : RdrAt w' g (if b = true then s6 else { s6 with bad := true })) (hd : D g w w') :
    AdrR s.adr.1 g s.adr.2 w (.returned (.agg #[.int .i64 k, .slice q xs.length c, .string nm, .int .i64 p])) w' := by
  rw [E.out]
  unfold adrFin
  refine ⟨q, c, ?_, ho, ?_, hd⟩
  · simp only [S_tx]
  · simp only [hb.out]; exact hr
set_option maxRecDepth 20000 in
set_option maxHeartbeats 4000000 in
theorem address_c {w : World} {g : Nat} {s : Rs} (hm : ∀ W, D g w W → ML W) (h : RdrAt w g s) :
    Calls Tryz.prog 163 #[.pointer (some ⟨g, 0, none⟩)] w (AdrR s.adr.1 g s.adr.2 w) := by
  have hlt := h.lt
  have gA := (gr_alloc w (.cells #[.int .i64 0, .slice none 0 0, .string ⟨#[]⟩, .int .i64 0] 65)).alloc (.cells #[.int .i64 0, .slice none 0 0, .string ⟨#[]⟩, .int .i64 0] 65)
  have hA1 := (gr_alloc (w.alloc (.cells #[.int .i64 0, .slice none 0 0, .string ⟨#[]⟩, .int .i64 0] 65)) (.cells #[.int .i64 0, .slice none 0 0, .string ⟨#[]⟩, .int .i64 0] 65)).blk (heap_alloc_new w (.cells #[.int .i64 0, .slice none 0 0, .string ⟨#[]⟩, .int .i64 0] 65))
  have hA2 := heap_alloc_new (w.alloc (.cells #[.int .i64 0, .slice none 0 0, .string ⟨#[]⟩, .int .i64 0] 65)) (.cells #[.int .i64 0, .slice none 0 0, .string ⟨#[]⟩, .int .i64 0] 65)
  have eA : (w.alloc (.cells #[.int .i64 0, .slice none 0 0, .string ⟨#[]⟩, .int .i64 0] 65)).heap.size = w.heap.size + 1 := by simp
  rw [eA] at hA2
  have zA : ((w.alloc (.cells #[.int .i64 0, .slice none 0 0, .string ⟨#[]⟩, .int .i64 0] 65)).alloc (.cells #[.int .i64 0, .slice none 0 0, .string ⟨#[]⟩, .int .i64 0] 65)).heap.size = w.heap.size + 2 := by simp
  have zA' : w.heap.size + 2 ≤ ((w.alloc (.cells #[.int .i64 0, .slice none 0 0, .string ⟨#[]⟩, .int .i64 0] 65)).alloc (.cells #[.int .i64 0, .slice none 0 0, .string ⟨#[]⟩, .int .i64 0] 65)).heap.size := Nat.le_of_eq zA.symm
  clear zA eA
  have hA1H := Lib.hid hA1
  have hA2H := Lib.hid hA2
  clear hA1 hA2
  have EADR : Hid (s.adr = if s.byte.1 = 1 then adrFin ⟨1, (s.byte.2.take 4).1, [], ((s.byte.2.take 4).2.number 2).1⟩ ((s.byte.2.take 4).2.number 2).2
    else if s.byte.1 = 3 then adrFin ⟨3, [], s.byte.2.text.1, (s.byte.2.text.2.number 2).1⟩ (s.byte.2.text.2.number 2).2
    else adrFin ⟨s.byte.1, [], [], (s.byte.2.number 2).1⟩ (s.byte.2.number 2).2) := rfl
  have E1 : Hid (s.byte = (s.byte.1, s.byte.2)) := rfl
  go_enter Tryz.func163, Tryz.ntmps163
  go_upto_region 2 with fail
  generalize (w.alloc (.cells #[.int .i64 0, .slice none 0 0, .string ⟨#[]⟩, .int .i64 0] 65)).alloc (.cells #[.int .i64 0, .slice none 0 0, .string ⟨#[]⟩, .int .i64 0] 65) = w0 at *
  have hr0 := h.kept gA
  generalize s.byte.1 = kc at *
  generalize s.byte.2 = s1 at *
  go_wp2_with fail
  (with_reducible refine (byteE hr0 E1).mono ?_); rintro e w1 ⟨rfl, hr1, hd1⟩
  have hB1 := hd1.blk hA1H.out (by omega)
  have hB2 := hd1.blk hA2H.out (by omega)
  have hz1 := hd1.sz
  have x0 := blk_cell hB2 (j := 0) rfl
  have f0 := blk_frozen hB2 0
  have HB1 := Lib.hid hB1
  have HB2 := Lib.hid hB2
  have hd1' := (D.ofGr (g := g) gA).trans hd1
  clear hB1 hB2 hA1H hA2H gA hr0
  go_upto_region 3 with fail
  have dS := D.set (D.refl (w.heap.size + 1) w1) 0 (.int .i64 kc)
  have hB2 := heap_set (j := 0) (x := .int .i64 kc) HB2.out
  have bS : Below w.heap.size w1 (w1.setCell ⟨w.heap.size + 1, 0, none⟩ (.int .i64 kc)) := Below.setCell (Below.refl _ _) (by simp) _
  generalize w1.setCell ⟨w.heap.size + 1, 0, none⟩ (.int .i64 kc) = w2 at *
  have hr2 := hr1.keptD dS (by omega)
  have hd2 : D g w w2 := hd1'.thenB bS
  have hB1 := dS.blk HB1.out (by omega)
  have hz2 := dS.sz
  clear x0 f0 HB1 HB2 hr1 hd1 hd1' bS
  have HB1 := Lib.hid hB1
  have HB2 : Hid (w2.heap[w.heap.size + 1]? = some (.cells #[.int .i64 kc, .slice none 0 0, .string ⟨#[]⟩, .int .i64 0] 65 (0, 0))) := hB2
  have x0 := blk_cell HB2.out (j := 0) rfl
  clear hB1 hB2 dS
  by_cases k1 : kc = 1
  · have E := EADR.out
    rw [if_pos k1] at E
    have E2 : Hid (s1.take 4 = ((s1.take 4).1, (s1.take 4).2)) := rfl
    have hq4 : (s1.take 4).1.length = 4 := Rs.take_len 4
    generalize (s1.take 4).1 = qd at *
    generalize (s1.take 4).2 = s2 at *
    have E := Lib.hid E
    have HQ4 := Lib.hid hq4
    have k1' : (kc == 1) = true := by rw [k1]; rfl
    subst k1
    clear hq4 EADR
    go_wp2_with fail
    (with_reducible refine (takeN hr2 E2 4 rfl (by omega)).mono ?_); rintro e w3 ⟨q, cq, rfl, o3, hr3, hd3⟩
    have hB1 := hd3.blk HB1.out (by omega)
    have hB2 := hd3.blk HB2.out (by omega)
    have hz3 := hd3.sz
    have x1 := blk_cell hB2 (j := 1) rfl
    have f1 := blk_frozen hB2 1
    have HB1' := Lib.hid hB1
    have HB2' := Lib.hid hB2
    have hd3' := hd2.trans hd3
    clear hB1 hB2 x0 HB1 HB2 hr2 hd2 hd3 E2
    go_upto_region 8 with fail
    have dS := D.set (D.refl (w.heap.size + 1) w3) 1 (.slice q qd.length cq)
    have hB2 := heap_set (j := 1) (x := .slice q qd.length cq) HB2'.out
    have bS : Below w.heap.size w3 (w3.setCell ⟨w.heap.size + 1, 1, none⟩ (.slice q qd.length cq)) := Below.setCell (Below.refl _ _) (by simp) _
    generalize w3.setCell ⟨w.heap.size + 1, 1, none⟩ (.slice q qd.length cq) = w4 at *
    have hr4 := hr3.keptD dS (by omega)
    have hd4 : D g w w4 := hd3'.thenB bS
    have hB1 := dS.blk HB1'.out (by omega)
    have o4 := IntO.keptD o3 dS (by omega)
    have hz4 := dS.sz
    have HB1 := Lib.hid hB1
    have HB2 : Hid (w4.heap[w.heap.size + 1]? = some (.cells #[.int .i64 1, .slice q qd.length cq, .string ⟨#[]⟩, .int .i64 0] 65 (0, 0))) := hB2
    clear x1 f1 HB1' HB2' hr3 o3 hd3' bS hB1 hB2 dS
    go_wp2_with fail
    (with_reducible refine (numberR_c hr4 2 2 rfl (by omega)).mono ?_); rintro e w5 ⟨rfl, hr5, hd5⟩
    generalize (s2.number 2).1 = pv at *
    generalize (s2.number 2).2 = s6 at *
    have hB1 := hd5.blk HB1.out (by omega)
    have hB2 := hd5.blk HB2.out (by omega)
    have hz5 := hd5.sz
    have x3 := blk_cell hB2 (j := 3) rfl
    have f3 := blk_frozen hB2 3
    have HB1' := Lib.hid hB1
    have HB2' := Lib.hid hB2
    have hd5' := hd4.trans hd5
    have o5 := IntO.keptD o4 hd5 (by omega)
    clear hB1 hB2 HB1 HB2 hr4 hd4 hd5 o4
    go_upto_region 9 with fail
    have dS := D.set (D.refl (w.heap.size + 1) w5) 3 (.int .i64 pv)
    have hB2 := heap_set (j := 3) (x := .int .i64 pv) HB2'.out
    have bS : Below w.heap.size w5 (w5.setCell ⟨w.heap.size + 1, 3, none⟩ (.int .i64 pv)) := Below.setCell (Below.refl _ _) (by simp) _
    generalize w5.setCell ⟨w.heap.size + 1, 3, none⟩ (.int .i64 pv) = w6 at *
    have hr6 := hr5.keptD dS (by omega)
    have hd6 : D g w w6 := hd5'.thenB bS
    have hB1 := dS.blk HB1'.out (by omega)
    have o6 := IntO.keptD o5 dS (by omega)
    have hz6 := dS.sz
    have HB1 := Lib.hid hB1
    have HB2 : Hid (w6.heap[w.heap.size + 1]? = some (.cells #[.int .i64 1, .slice q qd.length cq, .string ⟨#[]⟩, .int .i64 pv] 65 (0, 0))) := hB2
    have hnm : (⟨#[]⟩ : ByteArray).size ≤ 2000000 := by decide
    clear x3 f3 HB1' HB2' hr5 o5 hd5' bS hB1 hB2 dS
    cases hok : adrOk ⟨1, qd, tx ⟨#[]⟩, pv⟩
    · have HOK := Lib.hid hok
      clear hok
      have x0 := blk_cell HB2.out (j := 0) rfl
      have x1 := blk_cell HB2.out (j := 1) rfl
      have x2 := blk_cell HB2.out (j := 2) rfl
      have x3 := blk_cell HB2.out (j := 3) rfl
      go_wp2_with fail
      (with_reducible refine (implAddressValid_c (hm _ hd6) 1 pv ⟨#[]⟩ o6.s hnm).mono ?_); rintro e w7 ⟨rfl, g7⟩
      rw [HOK.out]
      have hr7 := hr6.kept g7
      have HB1' := Lib.hid (g7.blk HB1.out)
      have HB2' := Lib.hid (g7.blk HB2.out)
      have o7 := IntO.kept o6 g7
      have hd7 := hd6.trans (D.ofGr g7)
      have c2 := hr7.c2
      have f2 := hr7.f2
      have hf := hr7.fail
      clear x0 x1 x2 x3 HB1 HB2 o6 hr6 hd6 g7
      go_upto_region 11 with fail
      generalize w7.setCell ⟨g, 2, none⟩ (.bool true) = w8 at *
      have HB1 := Lib.hid (hf.2.blk HB1'.out (by omega))
      have HB2 := Lib.hid (hf.2.blk HB2'.out (by omega))
      have o8 := IntO.keptD o7 hf.2 (by omega)
      have hd8 := hd7.trans hf.2
      have hr8 := hf.1
      clear c2 f2 hf HB1' HB2' hr7 o7 hd7
      have x0 := blk_cell HB2.out (j := 0) rfl
      have x1 := blk_cell HB2.out (j := 1) rfl
      have x2 := blk_cell HB2.out (j := 2) rfl
      have x3 := blk_cell HB2.out (j := 3) rfl
      have z0 := blk_cell HB1.out (j := 0) rfl
      have z1 := blk_cell HB1.out (j := 1) rfl
      have z2 := blk_cell HB1.out (j := 2) rfl
      have z3 := blk_cell HB1.out (j := 3) rfl
      have f0 := blk_frozen HB1.out 0
      have f1 := blk_frozen HB1.out 1
      have f2 := blk_frozen HB1.out 2
      have f3 := blk_frozen HB1.out 3
      go_wp2
      change bodyPost _ _ _ _ _ (put4 w8 w.heap.size (.int .i64 1) (.slice q (qd).length cq) (.string ⟨#[]⟩) (.int .i64 pv))
      have hW := put4_blk HB1.out (.int .i64 1) (.slice q (qd).length cq) (.string ⟨#[]⟩) (.int .i64 pv)
      have gW := put4_below w8 w.heap.size (.int .i64 1) (.slice q (qd).length cq) (.string ⟨#[]⟩) (.int .i64 pv)
      have dW := put4_D w8 w.heap.size (.int .i64 1) (.slice q (qd).length cq) (.string ⟨#[]⟩) (.int .i64 pv)
      generalize put4 w8 w.heap.size (.int .i64 1) (.slice q (qd).length cq) (.string ⟨#[]⟩) (.int .i64 pv) = wz at *
      have y0 := blk_cell hW (j := 0) rfl
      have y1 := blk_cell hW (j := 1) rfl
      have y2 := blk_cell hW (j := 2) rfl
      have y3 := blk_cell hW (j := 3) rfl
      exact bodyPost_ret (v := .agg #[(.int .i64 1), (.slice q (qd).length cq), (.string ⟨#[]⟩), (.int .i64 pv)]) (by simp [results, Tryz.results163, go_sem, y0, y1, y2, y3]) rfl (AdrR.mk E HOK ((IntO.keptD o8 dW (by omega)).mono (by omega)) (hr8.keptB gW hlt) (hd8.thenB gW))
    · have HOK := Lib.hid hok
      clear hok
      have x0 := blk_cell HB2.out (j := 0) rfl
      have x1 := blk_cell HB2.out (j := 1) rfl
      have x2 := blk_cell HB2.out (j := 2) rfl
      have x3 := blk_cell HB2.out (j := 3) rfl
      go_wp2_with fail
      (with_reducible refine (implAddressValid_c (hm _ hd6) 1 pv ⟨#[]⟩ o6.s hnm).mono ?_); rintro e w7 ⟨rfl, g7⟩
      rw [HOK.out]
      have hr7 := hr6.kept g7
      have HB1' := Lib.hid (g7.blk HB1.out)
      have HB2' := Lib.hid (g7.blk HB2.out)
      have o7 := IntO.kept o6 g7
      have hd7 := hd6.trans (D.ofGr g7)
      clear x0 x1 x2 x3 HB1 HB2 o6 hr6 hd6 g7
      have x0 := blk_cell HB2'.out (j := 0) rfl
      have x1 := blk_cell HB2'.out (j := 1) rfl
      have x2 := blk_cell HB2'.out (j := 2) rfl
      have x3 := blk_cell HB2'.out (j := 3) rfl
      have z0 := blk_cell HB1'.out (j := 0) rfl
      have z1 := blk_cell HB1'.out (j := 1) rfl
      have z2 := blk_cell HB1'.out (j := 2) rfl
      have z3 := blk_cell HB1'.out (j := 3) rfl
      have f0 := blk_frozen HB1'.out 0
      have f1 := blk_frozen HB1'.out 1
      have f2 := blk_frozen HB1'.out 2
      have f3 := blk_frozen HB1'.out 3
      go_wp2
      change bodyPost _ _ _ _ _ (put4 w7 w.heap.size (.int .i64 1) (.slice q (qd).length cq) (.string ⟨#[]⟩) (.int .i64 pv))
      have hW := put4_blk HB1'.out (.int .i64 1) (.slice q (qd).length cq) (.string ⟨#[]⟩) (.int .i64 pv)
      have gW := put4_below w7 w.heap.size (.int .i64 1) (.slice q (qd).length cq) (.string ⟨#[]⟩) (.int .i64 pv)
      have dW := put4_D w7 w.heap.size (.int .i64 1) (.slice q (qd).length cq) (.string ⟨#[]⟩) (.int .i64 pv)
      generalize put4 w7 w.heap.size (.int .i64 1) (.slice q (qd).length cq) (.string ⟨#[]⟩) (.int .i64 pv) = wz at *
      have y0 := blk_cell hW (j := 0) rfl
      have y1 := blk_cell hW (j := 1) rfl
      have y2 := blk_cell hW (j := 2) rfl
      have y3 := blk_cell hW (j := 3) rfl
      exact bodyPost_ret (v := .agg #[(.int .i64 1), (.slice q (qd).length cq), (.string ⟨#[]⟩), (.int .i64 pv)]) (by simp [results, Tryz.results163, go_sem, y0, y1, y2, y3]) rfl (AdrR.mk E HOK ((IntO.keptD o7 dW (by omega)).mono (by omega)) (hr7.keptB gW hlt) (hd7.thenB gW))
  · by_cases k3 : kc = 3
    · have E := EADR.out
      rw [if_neg k1, if_pos k3] at E
      have k1' : (kc == 1) = false := by rw [k3]; rfl
      have k3' : (kc == 3) = true := by rw [k3]; rfl
      have htl : s1.text.1.length ≤ 255 := by
        unfold Rs.text
        simp only [bt_len, Rs.take_len]
        have := hr2.byteR
        omega
      have TX := text_c hr2
      generalize s1.text.1 = nt at *
      generalize s1.text.2 = s2 at *
      have E : Hid (s.adr = adrFin ⟨3, [], tx (S nt), (s2.number 2).1⟩ (s2.number 2).2) := by rw [tx_S]; exact E
      have hnm : (S nt).size ≤ 2000000 := by rw [S_len]; omega
      generalize S nt = nm at *
      subst k3
      clear EADR htl k1
      go_wp2_with fail
      (with_reducible refine TX.mono ?_); rintro e w3 ⟨rfl, hr3, hd3⟩
      clear TX
      have hB1 := hd3.blk HB1.out (by omega)
      have hB2 := hd3.blk HB2.out (by omega)
      have hz3 := hd3.sz
      have x2 := blk_cell hB2 (j := 2) rfl
      have f2 := blk_frozen hB2 2
      have HB1' := Lib.hid hB1
      have HB2' := Lib.hid hB2
      have hd3' := hd2.trans hd3
      clear hB1 hB2 x0 HB1 HB2 hr2 hd2 hd3
      go_upto_region 8 with fail
      have dS := D.set (D.refl (w.heap.size + 1) w3) 2 (.string nm)
      have hB2 := heap_set (j := 2) (x := .string nm) HB2'.out
      have bS : Below w.heap.size w3 (w3.setCell ⟨w.heap.size + 1, 2, none⟩ (.string nm)) := Below.setCell (Below.refl _ _) (by simp) _
      generalize w3.setCell ⟨w.heap.size + 1, 2, none⟩ (.string nm) = w4 at *
      have hr4 := hr3.keptD dS (by omega)
      have hd4 : D g w w4 := hd3'.thenB bS
      have hB1 := dS.blk HB1'.out (by omega)
      have hz4 := dS.sz
      have HB1 := Lib.hid hB1
      have HB2 : Hid (w4.heap[w.heap.size + 1]? = some (.cells #[.int .i64 3, .slice none 0 0, .string nm, .int .i64 0] 65 (0, 0))) := hB2
      clear x2 f2 HB1' HB2' hr3 hd3' bS hB1 hB2 dS
      go_wp2_with fail
      (with_reducible refine (numberR_c hr4 2 2 rfl (by omega)).mono ?_); rintro e w5 ⟨rfl, hr5, hd5⟩
      generalize (s2.number 2).1 = pv at *
      generalize (s2.number 2).2 = s6 at *
      have hB1 := hd5.blk HB1.out (by omega)
      have hB2 := hd5.blk HB2.out (by omega)
      have hz5 := hd5.sz
      have x3 := blk_cell hB2 (j := 3) rfl
      have f3 := blk_frozen hB2 3
      have HB1' := Lib.hid hB1
      have HB2' := Lib.hid hB2
      have hd5' := hd4.trans hd5
      clear hB1 hB2 HB1 HB2 hr4 hd4 hd5
      go_upto_region 9 with fail
      have dS := D.set (D.refl (w.heap.size + 1) w5) 3 (.int .i64 pv)
      have hB2 := heap_set (j := 3) (x := .int .i64 pv) HB2'.out
      have bS : Below w.heap.size w5 (w5.setCell ⟨w.heap.size + 1, 3, none⟩ (.int .i64 pv)) := Below.setCell (Below.refl _ _) (by simp) _
      generalize w5.setCell ⟨w.heap.size + 1, 3, none⟩ (.int .i64 pv) = w6 at *
      have hr6 := hr5.keptD dS (by omega)
      have hd6 : D g w w6 := hd5'.thenB bS
      have hB1 := dS.blk HB1'.out (by omega)
      have hz6 := dS.sz
      have HB1 := Lib.hid hB1
      have HB2 : Hid (w6.heap[w.heap.size + 1]? = some (.cells #[.int .i64 3, .slice none 0 0, .string nm, .int .i64 pv] 65 (0, 0))) := hB2
      have o6 : IntO (w.heap.size + 2) 3 w6 (.slice none 0 0) [] := IntO.nil _ _ _
      clear x3 f3 HB1' HB2' hr5 hd5' bS hB1 hB2 dS
      cases hok : adrOk ⟨3, ([] : List Int), tx nm, pv⟩
      · have HOK := Lib.hid hok
        clear hok
        have x0 := blk_cell HB2.out (j := 0) rfl
        have x1 := blk_cell HB2.out (j := 1) rfl
        have x2 := blk_cell HB2.out (j := 2) rfl
        have x3 := blk_cell HB2.out (j := 3) rfl
        go_wp2_with fail
        (with_reducible refine (implAddressValid_c (hm _ hd6) 3 pv nm o6.s hnm).mono ?_); rintro e w7 ⟨rfl, g7⟩
        rw [HOK.out]
        have hr7 := hr6.kept g7
        have HB1' := Lib.hid (g7.blk HB1.out)
        have HB2' := Lib.hid (g7.blk HB2.out)
        have o7 := IntO.kept o6 g7
        have hd7 := hd6.trans (D.ofGr g7)
        have c2 := hr7.c2
        have f2 := hr7.f2
        have hf := hr7.fail
        clear x0 x1 x2 x3 HB1 HB2 o6 hr6 hd6 g7
        go_upto_region 11 with fail
        generalize w7.setCell ⟨g, 2, none⟩ (.bool true) = w8 at *
        have HB1 := Lib.hid (hf.2.blk HB1'.out (by omega))
        have HB2 := Lib.hid (hf.2.blk HB2'.out (by omega))
        have o8 := IntO.keptD o7 hf.2 (by omega)
        have hd8 := hd7.trans hf.2
        have hr8 := hf.1
        clear c2 f2 hf HB1' HB2' hr7 o7 hd7
        have x0 := blk_cell HB2.out (j := 0) rfl
        have x1 := blk_cell HB2.out (j := 1) rfl
        have x2 := blk_cell HB2.out (j := 2) rfl
        have x3 := blk_cell HB2.out (j := 3) rfl
        have z0 := blk_cell HB1.out (j := 0) rfl
        have z1 := blk_cell HB1.out (j := 1) rfl
        have z2 := blk_cell HB1.out (j := 2) rfl
        have z3 := blk_cell HB1.out (j := 3) rfl
        have f0 := blk_frozen HB1.out 0
        have f1 := blk_frozen HB1.out 1
        have f2 := blk_frozen HB1.out 2
        have f3 := blk_frozen HB1.out 3
        go_wp2
        change bodyPost _ _ _ _ _ (put4 w8 w.heap.size (.int .i64 3) (.slice none (([] : List Int)).length 0) (.string nm) (.int .i64 pv))
        have hW := put4_blk HB1.out (.int .i64 3) (.slice none (([] : List Int)).length 0) (.string nm) (.int .i64 pv)
        have gW := put4_below w8 w.heap.size (.int .i64 3) (.slice none (([] : List Int)).length 0) (.string nm) (.int .i64 pv)
        have dW := put4_D w8 w.heap.size (.int .i64 3) (.slice none (([] : List Int)).length 0) (.string nm) (.int .i64 pv)
        generalize put4 w8 w.heap.size (.int .i64 3) (.slice none (([] : List Int)).length 0) (.string nm) (.int .i64 pv) = wz at *
        have y0 := blk_cell hW (j := 0) rfl
        have y1 := blk_cell hW (j := 1) rfl
        have y2 := blk_cell hW (j := 2) rfl
        have y3 := blk_cell hW (j := 3) rfl
        exact bodyPost_ret (v := .agg #[(.int .i64 3), (.slice none (([] : List Int)).length 0), (.string nm), (.int .i64 pv)]) (by simp [results, Tryz.results163, go_sem, y0, y1, y2, y3]) rfl (AdrR.mk E HOK ((IntO.keptD o8 dW (by omega)).mono (by omega)) (hr8.keptB gW hlt) (hd8.thenB gW))
      · have HOK := Lib.hid hok
        clear hok
        have x0 := blk_cell HB2.out (j := 0) rfl
        have x1 := blk_cell HB2.out (j := 1) rfl
        have x2 := blk_cell HB2.out (j := 2) rfl
        have x3 := blk_cell HB2.out (j := 3) rfl
        go_wp2_with fail
        (with_reducible refine (implAddressValid_c (hm _ hd6) 3 pv nm o6.s hnm).mono ?_); rintro e w7 ⟨rfl, g7⟩
        rw [HOK.out]
        have hr7 := hr6.kept g7
        have HB1' := Lib.hid (g7.blk HB1.out)
        have HB2' := Lib.hid (g7.blk HB2.out)
        have o7 := IntO.kept o6 g7
        have hd7 := hd6.trans (D.ofGr g7)
        clear x0 x1 x2 x3 HB1 HB2 o6 hr6 hd6 g7
        have x0 := blk_cell HB2'.out (j := 0) rfl
        have x1 := blk_cell HB2'.out (j := 1) rfl
        have x2 := blk_cell HB2'.out (j := 2) rfl
        have x3 := blk_cell HB2'.out (j := 3) rfl
        have z0 := blk_cell HB1'.out (j := 0) rfl
        have z1 := blk_cell HB1'.out (j := 1) rfl
        have z2 := blk_cell HB1'.out (j := 2) rfl
        have z3 := blk_cell HB1'.out (j := 3) rfl
        have f0 := blk_frozen HB1'.out 0
        have f1 := blk_frozen HB1'.out 1
        have f2 := blk_frozen HB1'.out 2
        have f3 := blk_frozen HB1'.out 3
        go_wp2
        change bodyPost _ _ _ _ _ (put4 w7 w.heap.size (.int .i64 3) (.slice none (([] : List Int)).length 0) (.string nm) (.int .i64 pv))
        have hW := put4_blk HB1'.out (.int .i64 3) (.slice none (([] : List Int)).length 0) (.string nm) (.int .i64 pv)
        have gW := put4_below w7 w.heap.size (.int .i64 3) (.slice none (([] : List Int)).length 0) (.string nm) (.int .i64 pv)
        have dW := put4_D w7 w.heap.size (.int .i64 3) (.slice none (([] : List Int)).length 0) (.string nm) (.int .i64 pv)
        generalize put4 w7 w.heap.size (.int .i64 3) (.slice none (([] : List Int)).length 0) (.string nm) (.int .i64 pv) = wz at *
        have y0 := blk_cell hW (j := 0) rfl
        have y1 := blk_cell hW (j := 1) rfl
        have y2 := blk_cell hW (j := 2) rfl
        have y3 := blk_cell hW (j := 3) rfl
        exact bodyPost_ret (v := .agg #[(.int .i64 3), (.slice none (([] : List Int)).length 0), (.string nm), (.int .i64 pv)]) (by simp [results, Tryz.results163, go_sem, y0, y1, y2, y3]) rfl (AdrR.mk E HOK ((IntO.keptD o7 dW (by omega)).mono (by omega)) (hr7.keptB gW hlt) (hd7.thenB gW))
    · have E := EADR.out
      rw [if_neg k1, if_neg k3] at E
      have E : Hid (s.adr = adrFin ⟨kc, [], tx ⟨#[]⟩, (s1.number 2).1⟩ (s1.number 2).2) := E
      have k1' : (kc == 1) = false := beq_eq_false_iff_ne.2 k1
      have k3' : (kc == 3) = false := beq_eq_false_iff_ne.2 k3
      clear EADR k1 k3
      go_wp2_with fail
      (with_reducible refine (numberR_c hr2 2 2 rfl (by omega)).mono ?_); rintro e w5 ⟨rfl, hr5, hd5⟩
      generalize (s1.number 2).1 = pv at *
      generalize (s1.number 2).2 = s6 at *
      have hB1 := hd5.blk HB1.out (by omega)
      have hB2 := hd5.blk HB2.out (by omega)
      have hz5 := hd5.sz
      have x3 := blk_cell hB2 (j := 3) rfl
      have f3 := blk_frozen hB2 3
      have HB1' := Lib.hid hB1
      have HB2' := Lib.hid hB2
      have hd5' := hd2.trans hd5
      clear hB1 hB2 HB1 HB2 hr2 hd2 hd5 x0
      go_upto_region 9 with fail
      have dS := D.set (D.refl (w.heap.size + 1) w5) 3 (.int .i64 pv)
      have hB2 := heap_set (j := 3) (x := .int .i64 pv) HB2'.out
      have bS : Below w.heap.size w5 (w5.setCell ⟨w.heap.size + 1, 3, none⟩ (.int .i64 pv)) := Below.setCell (Below.refl _ _) (by simp) _
      generalize w5.setCell ⟨w.heap.size + 1, 3, none⟩ (.int .i64 pv) = w6 at *
      have hr6 := hr5.keptD dS (by omega)
      have hd6 : D g w w6 := hd5'.thenB bS
      have hB1 := dS.blk HB1'.out (by omega)
      have hz6 := dS.sz
      have HB1 := Lib.hid hB1
      have HB2 : Hid (w6.heap[w.heap.size + 1]? = some (.cells #[.int .i64 kc, .slice none 0 0, .string ⟨#[]⟩, .int .i64 pv] 65 (0, 0))) := hB2
      have o6 : IntO (w.heap.size + 2) 3 w6 (.slice none 0 0) [] := IntO.nil _ _ _
      have hnm : (⟨#[]⟩ : ByteArray).size ≤ 2000000 := by decide
      clear x3 f3 HB1' HB2' hr5 hd5' bS hB1 hB2 dS
      cases hok : adrOk ⟨kc, ([] : List Int), tx ⟨#[]⟩, pv⟩
      · have HOK := Lib.hid hok
        clear hok
        have x0 := blk_cell HB2.out (j := 0) rfl
        have x1 := blk_cell HB2.out (j := 1) rfl
        have x2 := blk_cell HB2.out (j := 2) rfl
        have x3 := blk_cell HB2.out (j := 3) rfl
        go_wp2_with fail
        (with_reducible refine (implAddressValid_c (hm _ hd6) kc pv ⟨#[]⟩ o6.s hnm).mono ?_); rintro e w7 ⟨rfl, g7⟩
        rw [HOK.out]
        have hr7 := hr6.kept g7
        have HB1' := Lib.hid (g7.blk HB1.out)
        have HB2' := Lib.hid (g7.blk HB2.out)
        have o7 := IntO.kept o6 g7
        have hd7 := hd6.trans (D.ofGr g7)
        have c2 := hr7.c2
        have f2 := hr7.f2
        have hf := hr7.fail
        clear x0 x1 x2 x3 HB1 HB2 o6 hr6 hd6 g7
        go_upto_region 11 with fail
        generalize w7.setCell ⟨g, 2, none⟩ (.bool true) = w8 at *
        have HB1 := Lib.hid (hf.2.blk HB1'.out (by omega))
        have HB2 := Lib.hid (hf.2.blk HB2'.out (by omega))
        have o8 := IntO.keptD o7 hf.2 (by omega)
        have hd8 := hd7.trans hf.2
        have hr8 := hf.1
        clear c2 f2 hf HB1' HB2' hr7 o7 hd7
        have x0 := blk_cell HB2.out (j := 0) rfl
        have x1 := blk_cell HB2.out (j := 1) rfl
        have x2 := blk_cell HB2.out (j := 2) rfl
        have x3 := blk_cell HB2.out (j := 3) rfl
        have z0 := blk_cell HB1.out (j := 0) rfl
        have z1 := blk_cell HB1.out (j := 1) rfl
        have z2 := blk_cell HB1.out (j := 2) rfl
        have z3 := blk_cell HB1.out (j := 3) rfl
        have f0 := blk_frozen HB1.out 0
        have f1 := blk_frozen HB1.out 1
        have f2 := blk_frozen HB1.out 2
        have f3 := blk_frozen HB1.out 3
        go_wp2
        change bodyPost _ _ _ _ _ (put4 w8 w.heap.size (.int .i64 kc) (.slice none (([] : List Int)).length 0) (.string ⟨#[]⟩) (.int .i64 pv))
        have hW := put4_blk HB1.out (.int .i64 kc) (.slice none (([] : List Int)).length 0) (.string ⟨#[]⟩) (.int .i64 pv)
        have gW := put4_below w8 w.heap.size (.int .i64 kc) (.slice none (([] : List Int)).length 0) (.string ⟨#[]⟩) (.int .i64 pv)
        have dW := put4_D w8 w.heap.size (.int .i64 kc) (.slice none (([] : List Int)).length 0) (.string ⟨#[]⟩) (.int .i64 pv)
        generalize put4 w8 w.heap.size (.int .i64 kc) (.slice none (([] : List Int)).length 0) (.string ⟨#[]⟩) (.int .i64 pv) = wz at *
        have y0 := blk_cell hW (j := 0) rfl
        have y1 := blk_cell hW (j := 1) rfl
        have y2 := blk_cell hW (j := 2) rfl
        have y3 := blk_cell hW (j := 3) rfl
        exact bodyPost_ret (v := .agg #[(.int .i64 kc), (.slice none (([] : List Int)).length 0), (.string ⟨#[]⟩), (.int .i64 pv)]) (by simp [results, Tryz.results163, go_sem, y0, y1, y2, y3]) rfl (AdrR.mk E HOK ((IntO.keptD o8 dW (by omega)).mono (by omega)) (hr8.keptB gW hlt) (hd8.thenB gW))
      · have HOK := Lib.hid hok
        clear hok
        have x0 := blk_cell HB2.out (j := 0) rfl
        have x1 := blk_cell HB2.out (j := 1) rfl
        have x2 := blk_cell HB2.out (j := 2) rfl
        have x3 := blk_cell HB2.out (j := 3) rfl
        go_wp2_with fail
        (with_reducible refine (implAddressValid_c (hm _ hd6) kc pv ⟨#[]⟩ o6.s hnm).mono ?_); rintro e w7 ⟨rfl, g7⟩
        rw [HOK.out]
        have hr7 := hr6.kept g7
        have HB1' := Lib.hid (g7.blk HB1.out)
        have HB2' := Lib.hid (g7.blk HB2.out)
        have o7 := IntO.kept o6 g7
        have hd7 := hd6.trans (D.ofGr g7)
        clear x0 x1 x2 x3 HB1 HB2 o6 hr6 hd6 g7
        have x0 := blk_cell HB2'.out (j := 0) rfl
        have x1 := blk_cell HB2'.out (j := 1) rfl
        have x2 := blk_cell HB2'.out (j := 2) rfl
        have x3 := blk_cell HB2'.out (j := 3) rfl
        have z0 := blk_cell HB1'.out (j := 0) rfl
        have z1 := blk_cell HB1'.out (j := 1) rfl
        have z2 := blk_cell HB1'.out (j := 2) rfl
        have z3 := blk_cell HB1'.out (j := 3) rfl
        have f0 := blk_frozen HB1'.out 0
        have f1 := blk_frozen HB1'.out 1
        have f2 := blk_frozen HB1'.out 2
        have f3 := blk_frozen HB1'.out 3
        go_wp2
        change bodyPost _ _ _ _ _ (put4 w7 w.heap.size (.int .i64 kc) (.slice none (([] : List Int)).length 0) (.string ⟨#[]⟩) (.int .i64 pv))
        have hW := put4_blk HB1'.out (.int .i64 kc) (.slice none (([] : List Int)).length 0) (.string ⟨#[]⟩) (.int .i64 pv)
        have gW := put4_below w7 w.heap.size (.int .i64 kc) (.slice none (([] : List Int)).length 0) (.string ⟨#[]⟩) (.int .i64 pv)
        have dW := put4_D w7 w.heap.size (.int .i64 kc) (.slice none (([] : List Int)).length 0) (.string ⟨#[]⟩) (.int .i64 pv)
        generalize put4 w7 w.heap.size (.int .i64 kc) (.slice none (([] : List Int)).length 0) (.string ⟨#[]⟩) (.int .i64 pv) = wz at *
        have y0 := blk_cell hW (j := 0) rfl
        have y1 := blk_cell hW (j := 1) rfl
        have y2 := blk_cell hW (j := 2) rfl
        have y3 := blk_cell hW (j := 3) rfl
        exact bodyPost_ret (v := .agg #[(.int .i64 kc), (.slice none (([] : List Int)).length 0), (.string ⟨#[]⟩), (.int .i64 pv)]) (by simp [results, Tryz.results163, go_sem, y0, y1, y2, y3]) rfl (AdrR.mk E HOK ((IntO.keptD o7 dW (by omega)).mono (by omega)) (hr7.keptB gW hlt) (hd7.thenB gW))
end Go.Proofs.YtpdjibfcbjknhaaGreatDoor
