/- The library's functions in plain words: Cut, HasPrefix, Atoi; impl.decimal. -/
import Derived.Test.YtfambpdhnicghaaGreatDoorLibC
import Derived.Test.YtfambpdhnicghaaGreatDoorLineR
import Derived.Lib.AtoiAllCases
import Derived.Lib.AtoiErrMem
namespace Go.Proofs.YtfambpdhnicghaaGreatDoor
open Go.RowKit
theorem cut_c {w : World} (h : ML w) (s sep : ByteArray) (hs : s.size ≤ 2000000) :
    Calls Tryz.prog 43 #[.string s, .string sep] w fun e w' => e = .returned (.tuple #[.string (S (Lib.cut (tx s) (tx sep)).1), .string (S (Lib.cut (tx s) (tx sep)).2.1), .bool (Lib.cut (tx s) (tx sep)).2.2]) ∧ Gr w w' := by
  obtain ⟨m, hm⟩ := h
  refine (Tryz.strings_Cut s sep m w (by omega) hm).mono ?_
  rintro e w' ⟨rfl, n, rfl⟩
  exact ⟨rfl, (Gr.refl w).drewN n⟩
theorem hasPrefix_c (w : World) (s p : ByteArray) :
    Calls Tryz.prog 46 #[.string s, .string p] w fun e w' => e = .returned (.bool (Lib.hasPrefix (tx s) (tx p))) ∧ w = w' := by
  refine (Tryz.strings_HasPrefix s p w).mono ?_
  rintro e w' ⟨rfl, rfl⟩
  exact ⟨rfl, rfl⟩
/-- strconv's two errors are nil or hold something. -/
def ErrV (w : World) : Prop := (∃ v, w.cell? ⟨4, 0, none⟩ = some v ∧ (v = .nilIface ∨ ∃ te pe, v = .iface te pe)) ∧ (∃ v, w.cell? ⟨5, 0, none⟩ = some v ∧ (v = .nilIface ∨ ∃ te pe, v = .iface te pe))
theorem ErrV.kept {w w' : World} (h : ErrV w) (hg : Gr w w') : ErrV w' := by
  obtain ⟨⟨v, h1, h2⟩, u, h3, h4⟩ := h
  exact ⟨⟨v, hg.cell h1, h2⟩, u, hg.cell h3, h4⟩
/-- strconv.Atoi: a number without an error, or some error. -/
def AtoiIs (l : Tx) (e : Ending) : Prop := (∃ v : Int, Lib.atoiAll l = .ok v ∧ e = .returned (.tuple #[.int .i64 v, .nilIface])) ∨ ((∀ v : Int, Lib.atoiAll l ≠ .ok v) ∧ ∃ (n : Int) (t : TypeId) (v : Value), e = .returned (.tuple #[.int .i64 n, .iface t v]))
theorem atoi_c {w : World} (h : ErrV w) (s : ByteArray) (hs : s.size ≤ 2000000) :
    Calls Tryz.prog 118 #[.string s] w fun e w' => AtoiIs (tx s) e ∧ Gr w w' := by
  obtain ⟨⟨v, h1, h2⟩, u, h3, h4⟩ := h
  cases ha : Lib.atoiAll s.data.toList with
  | ok n =>
    refine (Tryz.strconv_Atoi_ok s (by omega) n ha w).mono ?_
    rintro e w' ⟨rfl, hw⟩
    refine ⟨.inl ⟨n, ha, rfl⟩, ?_⟩
    rcases hw with rfl | ⟨t, rfl⟩
    · exact Gr.refl _
    · exact Lib.bytesWorld_below _ _ _
  | «syntax» =>
    refine (Tryz.strconv_Atoi_syntax s (by omega) ha v w h1 h2).mono ?_
    rintro e w' ⟨N, rfl, _, _, hb⟩
    exact ⟨.inr ⟨(fun v hv => by rw [show tx s = s.data.toList from rfl, ha] at hv; cases hv), _, _, _, rfl⟩, hb⟩
  | range =>
    refine (Tryz.strconv_Atoi_range s (by omega) ha u w h3 h4).mono ?_
    rintro e w' ⟨N, rfl, _, _, hb⟩
    exact ⟨.inr ⟨(fun v hv => by rw [show tx s = s.data.toList from rfl, ha] at hv; cases hv), _, _, _, rfl⟩, hb⟩
theorem itoaL_c {w : World} (h : Tab w) (n : Int) (h0 : -9223372036854775808 ≤ n) (h1 : n ≤ 9223372036854775807) :
    Calls Tryz.prog 39 #[.int .i64 n] w fun e w' => e = .returned (.string (S (Lib.itoa n))) ∧ Gr w w' := by
  refine (Tryz.strconv_Itoa n (by omega) h1 w h).mono ?_
  rintro e w' ⟨rfl, k, os, rfl⟩
  exact ⟨rfl, Lib.below_grow _ _ (Nat.le_refl _) _ _⟩
/-- impl.decimal. -/
def DecIs (l : Tx) (e : Ending) : Prop := (∃ n, decim l = some n ∧ e = .returned (.tuple #[.int .i64 n, .bool true])) ∨ (decim l = none ∧ ∃ n, e = .returned (.tuple #[.int .i64 n, .bool false]))
theorem decimal_c {w : World} (he : ErrV w) (ht : Tab w) (s : ByteArray) (hs : s.size ≤ 2000000) :
    Calls Tryz.prog 90 #[.string s] w fun e w' => DecIs (tx s) e ∧ Gr w w' := by
  have HC := Lib.hid (atoi_c he s hs)
  go_enter Tryz.func90, Tryz.ntmps90
  go_wp2_with fail
  (with_reducible refine (HC.out).mono ?_); rintro e w1 ⟨hr, g1⟩
  rcases hr with ⟨n, hn, rfl⟩ | ⟨hn, n, t, v, rfl⟩
  · have hb := Lib.atoiAll_bounds hn
    have hD : decim (tx s) = if Lib.itoa n = tx s then some n else none := by unfold decim; rw [hn]
    have HN := Lib.hid hn
    have htl := tl_eq (S (Lib.itoa n)) s
    rw [tx_S] at htl
    have HI := Lib.hid (fun (W : World) (hT : Tab W) => itoaL_c hT n hb.1 hb.2)
    generalize Lib.itoa n = l at *
    have ht1 := ht.kept g1
    by_cases hl : l = tx s
    · have HR : Hid (decim (tx s) = some n) := by rw [Hid, hD, if_pos hl]
      rw [decide_eq_true hl] at htl
      have HL := Lib.hid hl
      clear hl hD hn
      go_wp2_with fail
      (with_reducible refine (HI.out _ ht1).mono ?_); rintro e w2 ⟨rfl, g2⟩
      go_wp2
      go_ret2
      exact ⟨.inl ⟨n, HR.out, rfl⟩, g1.trans g2⟩
    · have HR : Hid (decim (tx s) = none) := by rw [Hid, hD, if_neg hl]
      rw [decide_eq_false hl] at htl
      clear hl hD hn
      go_wp2_with fail
      (with_reducible refine (HI.out _ ht1).mono ?_); rintro e w2 ⟨rfl, g2⟩
      go_wp2
      go_ret2
      exact ⟨.inr ⟨HR.out, n, rfl⟩, g1.trans g2⟩
  · have HR : Hid (decim (tx s) = none) := by
      rw [Hid]
      unfold decim
      split
      · rename_i m hm; exact absurd hm (hn m)
      · rfl
    clear hn
    go_wp2
    go_ret2
    exact ⟨.inr ⟨HR.out, n, rfl⟩, g1⟩
end Go.Proofs.YtfambpdhnicghaaGreatDoor
