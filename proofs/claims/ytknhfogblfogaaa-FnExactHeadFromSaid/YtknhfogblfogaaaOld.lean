/- Requests of the fourth version: spec's check. -/
import Derived.Test.YtknhfogblfogaaaText
namespace Go.Proofs.Ytknhfogblfogaaa
open Go.RowKit
/-- A request of the fourth version. -/
structure Oldq where
  cmd : Int
  dst : Adr
  user : Tx
def oldOk (x : Oldq) : Bool := inB 1 2 x.cmd && (adrOk x.dst && (userOk x.user && (decide (x.dst.kind = 3) || decide (0 < nth x.dst.quad 0 + nth x.dst.quad 1 + nth x.dst.quad 2))))
theorem userOk_len {l : Tx} (h : userOk l = true) : l.length ≤ 8 := by
  simp only [userOk, Bool.and_eq_true, decide_eq_true_eq] at h
  exact h.2
set_option maxHeartbeats 2000000 in
theorem l4Ok_c {w : World} {q : Value} {xs : List Int} (c k port : Int) (s u : ByteArray) (hq : IntS w q xs) (hs : s.size ≤ 1000000) (hu : u.size ≤ 1000000) :
    Calls Try.prog 80 #[.agg #[.int .i64 c, .int .i64 k, q, .string s, .int .i64 port, .string u]] w fun e w' => e = .returned (.bool (oldOk ⟨c, ⟨k, xs, tx s, port⟩, tx u⟩)) ∧ Gr w w' := by
  obtain ⟨p, cap, rfl, _, _⟩ := hq.form
  have hg := gr_alloc w (.cells #[.int .i64 c, .int .i64 k, .slice p xs.length cap, .string s, .int .i64 port, .string u] 81)
  have HP : Hid (oldOk ⟨c, ⟨k, xs, tx s, port⟩, tx u⟩ = (inB 1 2 c && (adrOk ⟨k, xs, tx s, port⟩ && (userOk (tx u) && (decide (k = 3) || decide (0 < nth xs 0 + nth xs 1 + nth xs 2)))))) := rfl
  generalize oldOk ⟨c, ⟨k, xs, tx s, port⟩, tx u⟩ = r at *
  cases hc : inB 1 2 c
  · have HC := Lib.hid hc; clear hc
    go_enter Try.func80, Try.ntmps80
    go_wp2_with fail
    (with_reducible refine (l6In_c _ _ _ _).mono ?_); rintro e w1 ⟨rfl, rfl⟩
    rw [HC.out]
    go_wp2
    go_ret
    exact ⟨ret_bool (by rw [HP.out, HC.out]; rfl), hg⟩
  · have HC := Lib.hid hc; clear hc
    cases hok : adrOk ⟨k, xs, tx s, port⟩
    · have HOK := Lib.hid hok; clear hok
      go_enter Try.func80, Try.ntmps80
      go_wp2_with fail
      (with_reducible refine (l6In_c _ _ _ _).mono ?_); rintro e w1 ⟨rfl, rfl⟩
      rw [HC.out]
      go_wp2_with fail
      (with_reducible refine (AddressValid_c k port s (hq.kept hg) hs).mono ?_); rintro e w2 ⟨rfl, g2⟩
      rw [HOK.out]
      go_wp2
      go_ret
      exact ⟨ret_bool (by rw [HP.out, HC.out, HOK.out]; rfl), hg.trans g2⟩
    · have HOK := Lib.hid hok; clear hok
      cases hus : userOk (tx u)
      · have HUS := Lib.hid hus; clear hus
        go_enter Try.func80, Try.ntmps80
        go_wp2_with fail
        (with_reducible refine (l6In_c _ _ _ _).mono ?_); rintro e w1 ⟨rfl, rfl⟩
        rw [HC.out]
        go_wp2_with fail
        (with_reducible refine (AddressValid_c k port s (hq.kept hg) hs).mono ?_); rintro e w2 ⟨rfl, g2⟩
        rw [HOK.out]
        have c5 := boxN g2 5 rfl
        go_wp2_with fail
        (with_reducible refine (UserValid_c _ u hu).mono ?_); rintro e w3 ⟨rfl, rfl⟩
        rw [HUS.out]
        go_wp2
        go_ret
        exact ⟨ret_bool (by rw [HP.out, HC.out, HOK.out, HUS.out]; rfl), hg.trans g2⟩
      · have HUS := Lib.hid hus; clear hus
        have hka := adr_kind HOK.out
        simp only [] at hka
        by_cases k3 : k = 3
        · have K3 := Lib.hid k3
          have k3' : (k == 3) = true := by rw [k3]; rfl
          clear k3 hka
          go_enter Try.func80, Try.ntmps80
          go_wp2_with fail
          (with_reducible refine (l6In_c _ _ _ _).mono ?_); rintro e w1 ⟨rfl, rfl⟩
          rw [HC.out]
          go_wp2_with fail
          (with_reducible refine (AddressValid_c k port s (hq.kept hg) hs).mono ?_); rintro e w2 ⟨rfl, g2⟩
          rw [HOK.out]
          have c1 := boxN g2 1 rfl
          have c5 := boxN g2 5 rfl
          go_wp2_with fail
          (with_reducible refine (UserValid_c _ u hu).mono ?_); rintro e w3 ⟨rfl, rfl⟩
          rw [HUS.out]
          go_wp2_with fail
          go_quiet (fail)
          go_wp2
          go_ret
          exact ⟨ret_bool (by rw [HP.out, HC.out, HOK.out, HUS.out, K3.out]; rfl), (hg.trans g2).drewN _⟩
        · have hqk : quadOk xs = true := by
            rcases hka with ⟨_, h, _⟩ | ⟨h, _⟩
            · exact h
            · exact absurd h k3
          obtain ⟨h4, hb⟩ := quad_bytes hqk
          have b0 := hb 0 (by omega)
          have b1 := hb 1 (by omega)
          have b2 := hb 2 (by omega)
          have K3 := Lib.hid k3
          have k3' : (k == 3) = false := beq_eq_false_iff_ne.2 k3
          obtain ⟨a0, x0, d0⟩ := hq.ixN rfl 0 0 rfl (by omega)
          obtain ⟨a1, x1, d1⟩ := hq.ixN rfl 1 1 rfl (by omega)
          obtain ⟨a2, x2, d2⟩ := hq.ixN rfl 2 2 rfl (by omega)
          generalize nth xs 0 = y0 at *
          generalize nth xs 1 = y1 at *
          generalize nth xs 2 = y2 at *
          have e1 : IntKind.i64.wrap (y0 + y1) = y0 + y1 := by rw [IntKind.wrap_i64]; omega
          have e2 : IntKind.i64.wrap (y0 + y1 + y2) = y0 + y1 + y2 := by rw [IntKind.wrap_i64]; omega
          have H4 := Lib.hid h4
          clear k3 hka hqk hb h4
          go_enter Try.func80, Try.ntmps80
          go_wp2_with fail
          (with_reducible refine (l6In_c _ _ _ _).mono ?_); rintro e w1 ⟨rfl, rfl⟩
          rw [HC.out]
          go_wp2_with fail
          (with_reducible refine (AddressValid_c k port s (hq.kept hg) hs).mono ?_); rintro e w2 ⟨rfl, g2⟩
          rw [HOK.out]
          have c1 := boxN g2 1 rfl
          have c2 := boxN g2 2 rfl
          have c5 := boxN g2 5 rfl
          have hG := hg.trans g2
          go_wp2_with fail
          (with_reducible refine (UserValid_c _ u hu).mono ?_); rintro e w3 ⟨rfl, rfl⟩
          rw [HUS.out]
          have f0 := hG.cell d0
          have f1 := hG.cell d1
          have f2 := hG.cell d2
          go_wp2_with fail
          go_quiet (fail)
          go_wp2
          go_ret
          exact ⟨ret_bool (by rw [HP.out, HC.out, HOK.out, HUS.out]; simp [K3.out]), hG.drewN _⟩
end Go.Proofs.Ytknhfogblfogaaa
