/- impl: quads out of texts. -/
import Derived.Test.YtfambpdhnicghaaGreatDoorLibD
import Derived.Test.YtfambpdhnicghaaGreatDoorQuadI
namespace Go.Proofs.YtfambpdhnicghaaGreatDoor
open Go.RowKit
theorem mapM_step {f : Tx → Option Int} {ls : List Tx} {k : Nat} {ys : List Int} {n : Int} (hk : k < ls.length) (h : (ls.take k).mapM f = some ys) (hn : f (nthS ls k) = some n) : (ls.take (k+1)).mapM f = some (ys ++ [n]) := by
  rw [nthS_eq hk] at hn
  rw [List.take_succ_eq_append_getElem hk, List.mapM_append, h]
  simp [hn]
theorem mapM_none {f : Tx → Option Int} {ls : List Tx} {k : Nat} (hk : k < ls.length) (hn : f (nthS ls k) = none) : ls.mapM f = none := by
  rw [nthS_eq hk] at hn
  have e : ls = ls.take k ++ ls[k] :: ls.drop (k+1) := by rw [← List.drop_eq_getElem_cons hk, List.take_append_drop]
  rw [e, List.mapM_append, List.mapM_cons, hn]
  cases (ls.take k).mapM f <;> rfl
set_option maxHeartbeats 2000000 in
theorem implQuadFrom_c {w : World} (hm : ML w) (he : ErrV w) (ht : Tab w) (s : ByteArray) (hs : s.size ≤ 2000000) :
    Calls Tryz.prog 91 #[.string s] w fun e w' => ∃ v, e = .returned (.tuple #[v, .bool (quadFrom (tx s)).isSome]) ∧ IntO w.heap.size 3 w' v ((quadFrom (tx s)).getD []) ∧ Gr w w' := by
  go_enter Tryz.func91, Tryz.ntmps91
  go_wp2_with fail
  (with_reducible refine (split_c hm s 46 (by omega)).mono ?_); rintro e w1 ⟨v1, rfl, ho, hg⟩
  have hss := ho.s
  have hlen := cutB_len 46 (tx s)
  rw [tx_len] at hlen
  have HQ : Hid (quadFrom (tx s) = match (cutB 46 (tx s)).mapM decim with | some q => if quadOk q = true then some q else none | none => none) := by rw [Hid, ← quadFromI_eq]; rfl
  have HPC : Hid (∀ k, k < (cutB 46 (tx s)).length → (nthS (cutB 46 (tx s)) k).length ≤ s.size) := fun k hk => by
    rw [← tx_len s, nthS_eq hk]; exact cutB_piece 46 (tx s) _ (List.getElem_mem hk)
  generalize cutB 46 (tx s) = ls at *
  obtain ⟨p, cap, rfl, hc1, hc2⟩ := hss.form
  clear ho
  go_wp2_with fail
  go_loopw [4, 12] (fun v i wr => ∃ (k : Nat) (ys : List Int), k ≤ ls.length ∧ i = .int .i64 k ∧ Hid ((ls.take k).mapM decim = some ys) ∧ Hid (ys.length = k) ∧ Gr w1 wr ∧ IntO w1.heap.size 3 wr v ys) (fun _ i _ => ls.length - (intOf i).toNat)
  case atStart => exact ⟨0, [], Nat.zero_le _, rfl, rfl, rfl, Gr.refl _, IntO.nil _ _ _⟩
  case round =>
    obtain ⟨k, ys, hk, rfl, hys, hyl, hgr, ho⟩ := hrel
    by_cases hlt : k < ls.length
    · obtain ⟨a, hix, hca⟩ := (hss.kept hgr).ix hlt
      have hyl' : ys.length ≤ 2000001 := by rw [hyl.out]; omega
      have hz := hgr.size
      have hG := hg.trans hgr
      have HC := Lib.hid (decimal_c (he.kept hG) (ht.kept hG) (S (nthS ls k)) (by rw [S_len]; have := HPC.out k hlt; omega))
      rw [tx_S] at HC
      go_wp2_with fail
      (with_reducible refine (HC.out).mono ?_); rintro e w2 ⟨hr, g2⟩
      rcases hr with ⟨n, hn, rfl⟩ | ⟨hn, n, rfl⟩
      · have HN := Lib.hid (mapM_step hlt hys.out hn)
        have HL : Hid ((ys ++ [n]).length = k + 1) := by rw [Hid, List.length_append, hyl.out]; rfl
        clear hn
        have hG2 := hgr.trans g2
        have ho2 := ho.kept g2
        have hz2 := hG2.sz
        go_wp2_with (at_builtin; refine wpl_appI rfl (.tmp 23) (.tmp 25) rfl rfl (ho2.kept (gr_alloc _ _)) rfl (IntO.one _).s (by simp; omega) (by simp; omega) ?_; intro v5 w5 ho5 hg5; have hG5 : Gr w1 w5 := (hG2.alloc _).thenB hg5)
        go_roundw
        case rel => exact ⟨k+1, _, by omega, by go_num, HN.out, HL.out, hG5, ho5⟩
        case measure => simp [intOf]; omega
      · have HN : Hid (quadFrom (tx s) = none) := by rw [Hid, HQ.out, mapM_none hlt hn]
        clear hn
        have hG2 := hG.trans g2
        go_wp2
        go_ret2
        exact ⟨_, by rw [HN.out]; rfl, by rw [HN.out]; exact IntO.nil _ _ _, hG2⟩
    · have HM : Hid (ls.mapM decim = some ys) := by
        have := hys.out
        rw [List.take_of_length_le (by omega)] at this
        exact this
      have hG := hg.trans hgr
      have ho' := ho.mono hg.sz
      cases hb : quadOk ys
      · have HN : Hid (quadFrom (tx s) = none) := by rw [Hid, HQ.out, HM.out]; simp [hb]
        have HB := Lib.hid hb
        clear hb
        go_wp2_with fail
        (with_reducible refine (implQuadValid_c ho.s).mono ?_); rintro e w2 ⟨rfl, rfl⟩
        rw [HB.out]
        go_wp2
        go_ret2
        exact ⟨_, by rw [HN.out]; rfl, by rw [HN.out]; exact IntO.nil _ _ _, hG⟩
      · have HN : Hid (quadFrom (tx s) = some ys) := by rw [Hid, HQ.out, HM.out]; simp [hb]
        have HB := Lib.hid hb
        clear hb
        go_wp2_with fail
        (with_reducible refine (implQuadValid_c ho.s).mono ?_); rintro e w2 ⟨rfl, rfl⟩
        rw [HB.out]
        go_wp2
        go_ret2
        exact ⟨_, by rw [HN.out]; rfl, by rw [HN.out]; exact ho', hG⟩
end Go.Proofs.YtfambpdhnicghaaGreatDoor
