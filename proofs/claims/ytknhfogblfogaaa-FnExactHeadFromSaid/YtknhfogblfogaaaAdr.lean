/- Addresses: spec's check. -/
import Derived.Test.YtknhfogblfogaaaName
namespace Go.Proofs.Ytknhfogblfogaaa
open Go.RowKit
/-- An address. -/
structure Adr where
  kind : Int
  quad : List Int
  name : Tx
  port : Int
def adrOk (a : Adr) : Bool := inB 0 65535 a.port && (if a.kind = 1 then quadOk a.quad && a.name.isEmpty else if a.kind = 3 then nameOk a.name && a.quad.isEmpty else false)
theorem emp_tx (s : ByteArray) : s.toList.isEmpty = (tx s).isEmpty := by rw [ByteArray.toList_eq]; rfl
set_option maxHeartbeats 1000000 in
theorem AddressValid_c {w : World} {q : Value} {xs : List Int} (k port : Int) (s : ByteArray) (hq : IntS w q xs) (hs : s.size ≤ 1000000) :
    Calls Try.prog 84 #[.agg #[.int .i64 k, q, .string s, .int .i64 port]] w fun e w' => e = .returned (.bool (adrOk ⟨k, xs, tx s, port⟩)) ∧ Gr w w' := by
  obtain ⟨p, cap, rfl, _, _⟩ := hq.form
  have hg := gr_alloc w (.cells #[.int .i64 k, .slice p xs.length cap, .string s, .int .i64 port] 24)
  have HD : Hid (adrOk ⟨k, xs, tx s, port⟩ = (inB 0 65535 port && (if k = 1 then quadOk xs && (tx s).isEmpty else if k = 3 then nameOk (tx s) && xs.isEmpty else false))) := rfl
  generalize adrOk ⟨k, xs, tx s, port⟩ = r at *
  cases hp : inB 0 65535 port
  · have HP := Lib.hid hp; clear hp
    go_enter Try.func84, Try.ntmps84
    go_wp2_with fail
    (with_reducible refine (l6In_c _ _ _ _).mono ?_); rintro e w1 ⟨rfl, rfl⟩
    rw [HP.out]
    go_wp2
    go_ret
    exact ⟨ret_bool (by rw [HD.out, HP.out]; rfl), hg⟩
  · have HP := Lib.hid hp; clear hp
    by_cases k1 : k = 1
    · subst k1
      cases hb : quadOk xs
      · have HB := Lib.hid hb; clear hb
        go_enter Try.func84, Try.ntmps84
        go_wp2_with fail
        (with_reducible refine (l6In_c _ _ _ _).mono ?_); rintro e w1 ⟨rfl, rfl⟩
        rw [HP.out]
        go_wp2_with fail
        (with_reducible refine (QuadValid_c (hq.kept hg)).mono ?_); rintro e w2 ⟨rfl, rfl⟩
        rw [HB.out]
        go_wp2
        go_ret
        exact ⟨ret_bool (by rw [HD.out, HP.out, HB.out]; rfl), hg⟩
      · have HB := Lib.hid hb; clear hb
        have he := emp_tx s
        go_enter Try.func84, Try.ntmps84
        go_wp2_with fail
        (with_reducible refine (l6In_c _ _ _ _).mono ?_); rintro e w1 ⟨rfl, rfl⟩
        rw [HP.out]
        go_wp2_with fail
        (with_reducible refine (QuadValid_c (hq.kept hg)).mono ?_); rintro e w2 ⟨rfl, rfl⟩
        rw [HB.out]
        go_wp2
        go_ret
        exact ⟨ret_bool (by rw [HD.out, HP.out, HB.out]; simp), hg⟩
    · have k1' : (k == 1) = false := beq_eq_false_iff_ne.2 k1
      by_cases k3 : k = 3
      · subst k3
        cases hb : nameOk (tx s)
        · have HB := Lib.hid hb; clear hb
          go_enter Try.func84, Try.ntmps84
          go_wp2_with fail
          (with_reducible refine (l6In_c _ _ _ _).mono ?_); rintro e w1 ⟨rfl, rfl⟩
          rw [HP.out]
          go_wp2_with fail
          (with_reducible refine (NameValid_c _ s hs).mono ?_); rintro e w2 ⟨rfl, g2⟩
          rw [HB.out]
          go_wp2
          go_ret
          exact ⟨ret_bool (by rw [HD.out, HP.out, HB.out]; rfl), hg.trans g2⟩
        · have HB := Lib.hid hb; clear hb
          have hc := fun {w2 : World} (g2 : Gr (w.alloc (.cells #[.int .i64 3, .slice p xs.length cap, .string s, .int .i64 port] 24)) w2) => g2.cell (p := ⟨w.heap.size, 1, none⟩) (v := .slice p xs.length cap) (by simp)
          go_enter Try.func84, Try.ntmps84
          go_wp2_with fail
          (with_reducible refine (l6In_c _ _ _ _).mono ?_); rintro e w1 ⟨rfl, rfl⟩
          rw [HP.out]
          go_wp2_with fail
          (with_reducible refine (NameValid_c _ s hs).mono ?_); rintro e w2 ⟨rfl, g2⟩
          rw [HB.out]
          have hc2 := hc g2
          clear hc
          go_wp2
          go_ret
          exact ⟨ret_bool (by rw [HD.out, HP.out, HB.out, Bool.eq_iff_iff]; simp), hg.trans g2⟩
      · have k3' : (k == 3) = false := beq_eq_false_iff_ne.2 k3
        have HD2 : Hid (r = false) := by rw [Hid, HD.out, if_neg k1, if_neg k3]; simp
        clear k1 k3
        go_enter Try.func84, Try.ntmps84
        go_wp2_with fail
        (with_reducible refine (l6In_c _ _ _ _).mono ?_); rintro e w1 ⟨rfl, rfl⟩
        rw [HP.out]
        go_wp2
        go_ret
        exact ⟨ret_bool HD2.out.symm, hg⟩
end Go.Proofs.Ytknhfogblfogaaa
