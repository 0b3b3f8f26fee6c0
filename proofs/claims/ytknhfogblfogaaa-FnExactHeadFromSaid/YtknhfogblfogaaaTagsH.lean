/- The program's tags out of bytes. -/
import Derived.Test.YtknhfogblfogaaaTagsG
namespace Go.Proofs.Ytknhfogblfogaaa
open Go.RowKit
theorem byteE {w : World} {g : Nat} {s s1 : Rs} {x : Int} (h : RdrAt w g s) (he : Hid (s.byte = (x, s1))) :
    Calls Try.prog 64 #[.pointer (some ⟨g, 0, none⟩)] w fun e w' => e = .returned (.int .i64 x) ∧ RdrAt w' g s1 ∧ D g w w' := by
  have := byte_c h
  rw [he.out] at this
  exact this
theorem numberE {w : World} {g : Nat} {s s1 : Rs} {L : Nat} (h : RdrAt w g s) (he : Hid (s.number 2 = ((L : Int), s1))) :
    Calls Try.prog 38 #[.pointer (some ⟨g, 0, none⟩), .int .i64 2] w fun e w' => e = .returned (.int .i64 (L : Int)) ∧ RdrAt w' g s1 ∧ D g w w' := by
  have := numberR_c h 2 2 rfl (by omega)
  rw [he.out] at this
  exact this
theorem takeE {w : World} {g : Nat} {s s1 : Rs} {L : Nat} {ys : List Int} (h : RdrAt w g s) (he : Hid (s.take L = (ys, s1))) (hL : L ≤ 65535) :
    Calls Try.prog 37 #[.pointer (some ⟨g, 0, none⟩), .int .i64 (L : Int)] w fun e w' => ∃ p c, e = .returned (.slice p ys.length c) ∧ IntO w.heap.size 3 w' (.slice p ys.length c) ys ∧ RdrAt w' g s1 ∧ D g w w' := by
  refine (take_c h L (L : Int) rfl (by omega)).mono ?_
  rintro e w' ⟨v', rfl, ho, hr, hd⟩
  rw [he.out] at ho hr
  obtain ⟨p, c, rfl⟩ := ho.len
  exact ⟨p, c, rfl, ho, hr, hd⟩
theorem numOf_small2 {xs : List Int} (h : bytesOnly xs) (h4 : xs.length ≤ 2) : 0 ≤ numOf xs ∧ numOf xs ≤ 65535 := by
  have h1 := numOf_bound h
  have h5 : xs.length = 0 ∨ xs.length = 1 ∨ xs.length = 2 := by omega
  rcases h5 with h5 | h5 | h5 <;> rw [h5] at h1 <;> omega
theorem nth_drop (xs : List Int) (k j : Nat) : nth (xs.drop k) j = nth xs (k + j) := by simp [nth, List.getElem?_drop]
theorem nth_take {xs : List Int} {k j : Nat} (h : j < k) : nth (xs.take k) j = nth xs j := by simp [nth, h]
theorem step3 {xs : List Int} {k : Nat} (hlt : k < xs.length) (hby : bytesOnly xs) :
    ∃ (x : Int) (s1 : Rs) (L : Nat) (s2 : Rs) (ys : List Int) (s3 : Rs), (Rs.mk xs k false).byte = (x, s1) ∧ s1.number 2 = ((L : Int), s2) ∧ s2.take L = (ys, s3) ∧ L ≤ 65535 ∧ ys.length = L ∧
      ((s3 = ⟨xs, k + 3 + lenAt xs k, false⟩ ∧ (x, ys) = tagAt xs k ∧ ¬ badAt xs k) ∨ (s3.bad = true ∧ s3.xs = xs ∧ badAt xs k)) := by
  have e1 : (Rs.mk xs k false).byte = (nth xs k, ⟨xs, k + 1, false⟩) := by
    unfold Rs.byte Rs.take
    rw [if_neg (by simp; omega)]
    simp only []
    rw [nth_take (by omega), nth_drop, Nat.add_zero]
  have hsm := numOf_small2 (bytes_take (bytes_drop hby (k+1)) 2) (by rw [List.length_take]; omega)
  have hLe := lenAt_eq hby k
  by_cases h2 : xs.length - (k + 1) < 2
  · have e2 : (Rs.mk xs (k+1) false).number 2 = (((0 : Nat) : Int), ⟨xs, k + 1, true⟩) := by
      unfold Rs.number Rs.take
      rw [if_pos (.inr h2)]; rfl
    have e3 : (Rs.mk xs (k+1) true).take 0 = ([], ⟨xs, k + 1, true⟩) := by
      unfold Rs.take
      rw [if_pos (.inl rfl)]; rfl
    exact ⟨_, _, 0, _, _, _, e1, e2, e3, by omega, rfl, .inr ⟨rfl, rfl, .inl (by omega)⟩⟩
  · have e2 : (Rs.mk xs (k+1) false).number 2 = ((lenAt xs k : Int), ⟨xs, k + 3, false⟩) := by
      unfold Rs.number Rs.take
      rw [if_neg (by simp; omega)]
      simp only []
      rw [hLe]
    have hlen := Rs.take_len (s := ⟨xs, k+3, false⟩) (lenAt xs k)
    by_cases h3 : xs.length - (k + 3) < lenAt xs k
    · have e3 : (Rs.mk xs (k+3) false).take (lenAt xs k) = (List.replicate (lenAt xs k) 0, ⟨xs, k+3, true⟩) := by
        unfold Rs.take
        rw [if_pos (.inr h3)]
      exact ⟨_, _, _, _, _, _, e1, e2, e3, by omega, by simp, .inr ⟨rfl, rfl, .inr (by omega)⟩⟩
    · have e3 : (Rs.mk xs (k+3) false).take (lenAt xs k) = ((xs.drop (k+3)).take (lenAt xs k), ⟨xs, k+3+lenAt xs k, false⟩) := by
        unfold Rs.take
        rw [if_neg (by simp; omega)]
      exact ⟨_, _, _, _, _, _, e1, e2, e3, by omega, by rw [e3] at hlen; exact hlen, .inl ⟨rfl, rfl, by unfold badAt; omega⟩⟩
theorem RdrAt.c1 {w : World} {g : Nat} {s : Rs} (h : RdrAt w g s) : w.cell? ⟨g, 1, none⟩ = some (.int .i64 s.pos) := by
  obtain ⟨_, _, _, _, _, _, h6⟩ := h
  simp [World.cell?, h6]
theorem RdrAt.c2 {w : World} {g : Nat} {s : Rs} (h : RdrAt w g s) : w.cell? ⟨g, 2, none⟩ = some (.bool s.bad) := by
  obtain ⟨_, _, _, _, _, _, h6⟩ := h
  simp [World.cell?, h6]
def vlen : Value → Nat | .slice _ n _ => n | _ => 0
set_option maxHeartbeats 2000000 in
theorem implTagsFrom_c {w : World} {v : Value} {xs : List Int} (h : IntS w v xs) (hlen : xs.length ≤ 1048576) :
    Calls Try.prog 39 #[v] w (FromR xs w.heap.size w) := by
  obtain ⟨p, cap, rfl, hl1, hl2⟩ := h.form
  go_enter Try.func39, Try.ntmps39
  go_wp2_with fail
  (with_reducible refine (newReader_c h (by omega)).mono ?_); rintro e w1 ⟨g, rfl, hg1, hr1, hgr1⟩
  go_wp2_with fail
  have hsz1 := hgr1.size
  go_loopw [5] (fun s wr => ∃ (ts : List Tag) (T : Nat) (s1 : Rs), 3 * ts.length ≤ xs.length + 3 ∧ s1.xs = xs ∧ Hid ((s1.bad = false ∧ bv xs = true ∧ CutTo xs s1.pos ts ∧ 3 * ts.length ≤ s1.pos) ∨ (s1.bad = true ∧ tagsFrom xs = none)) ∧ RdrAt wr g s1 ∧ D g w1 wr ∧ TagO w1.heap.size T wr s ts ∧ T ≤ wr.heap.size ∧ w1.heap.size ≤ T) (fun s _ => xs.length + 2 - vlen s)
  case atStart =>
    refine ⟨[], w1.heap.size, ⟨xs, 0, !(bv xs)⟩, by simp, rfl, ?_, hr1, D.refl _ _, TagO.nil _ _ _, Nat.le_refl _, Nat.le_refl _⟩
    cases hbv : bv xs
    · exact .inr ⟨rfl, tagsFrom_bad hbv⟩
    · exact .inl ⟨rfl, rfl, CutTo.start xs, by simp⟩
  case round =>
    obtain ⟨ts, T, s1, hts, hsx, hst, hr, hd, ho, hT, hBT⟩ := hrel
    obtain ⟨pu, cu, rfl⟩ := ho.form
    obtain ⟨sx, k, b⟩ := s1
    simp only [] at hsx hst
    subst hsx
    have hc1 := hr.c1
    have hc2 := hr.c2
    simp only [] at hc1 hc2
    have hglt := hr1.lt
    cases b
    · rcases hst.out with hq | ⟨hq, _⟩
      · obtain ⟨_, hbv, hcut, h3k⟩ := hq
        have hby := bv_bytes hbv
        have HB := Lib.hid hbv
        have HC := Lib.hid hcut
        clear hbv hcut hst hr1
        by_cases hlt : k < sx.length
        · obtain ⟨x, sa, L, sb, ys, sc, e1, e2, e3, hL, hyl, hor⟩ := step3 hlt hby
          have E1 := Lib.hid e1
          have E2 := Lib.hid e2
          have E3 := Lib.hid e3
          have HOR := Lib.hid hor
          clear e1 e2 e3 hor hyl
          have hlt' : ((k : Int) < (sx.length : Int)) := by omega
          go_wp2_with fail
          (with_reducible refine (byteE hr E1).mono ?_); rintro e w2 ⟨rfl, hr2, hd2⟩
          go_wp2_with fail
          (with_reducible refine (numberE hr2 E2).mono ?_); rintro e w3 ⟨rfl, hr3, hd3⟩
          go_wp2_with fail
          (with_reducible refine (takeE hr3 E3 hL).mono ?_); rintro e w4 ⟨p4, c4, rfl, ho4, hr4, hd4⟩
          have ho5 := ((ho.keptD hd2 hglt).keptD hd3 hglt).keptD hd4 hglt
          have hD5 := ((hd.trans hd2).trans hd3).trans hd4
          have hs2 := hd2.sz
          have hs3 := hd3.sz
          have hs4 := hd4.sz
          have hts' : ts.length ≤ 1000000 := by omega
          have hod' := (ho4.mono (B' := T) (by omega)).kept (gr_alloc w4 (.cells #[.int .i64 x, .slice p4 ys.length c4] 60))
          clear hr hr2 hr3 hd hd2 hd3 hd4 ho ho4 hc1 hc2
          go_wp2_with (at_builtin; go_loud (refine wpl_appT rfl (.tmp 25) (.tmp 32) rfl rfl (ho5.kept (gr_alloc _ _)) (by simp; omega) hBT rfl (Row.oneT _ _ _ rfl) hod' hts' ?_; intro v6 w6 ho6 hb6))
          have hD6 : D g w1 w6 := (hD5.alloc _).thenB hb6
          have hr6 := (hr4.kept (gr_alloc _ _)).keptB hb6 hglt
          obtain ⟨p6, c6, rfl⟩ := ho6.form
          go_roundw
          case measure =>
            simp [vlen]; omega
          case rel =>
            rcases HOR.out with ⟨rfl, htag, hnb⟩ | ⟨hbad, hxs, hbb⟩
            · have hnx := HC.out.next hlt hnb
              rw [← htag] at hnx
              unfold badAt at hnb
              exact ⟨_, _, _, by simp; omega, rfl, .inl ⟨rfl, HB.out, hnx, by simp; omega⟩, hr6, hD6, ho6, Nat.le_refl _, hD6.sz⟩
            · exact ⟨_, _, _, by simp; omega, hxs, .inr ⟨hbad, HC.out.fail hlt hbb⟩, hr6, hD6, ho6, Nat.le_refl _, hD6.sz⟩
        · have hlt' : ¬ ((k : Int) < (sx.length : Int)) := by omega
          have hdn := HC.out.done hlt HB.out
          have hG : Gr w wr := hd.gr hgr1 hg1
          clear hc1 hc2
          have hc1 := hr.c1
          have hc2 := hr.c2
          simp only [] at hc1 hc2
          cases hok : tagsOk ts
          · have hdn' : tagsFrom sx = none := by rw [hdn, hok]; rfl
            have HN := Lib.hid hdn'
            have HOK := Lib.hid hok
            clear hdn hdn' hok
            go_wp2_with fail
            (with_reducible refine (areTags_c ho.s).mono ?_); rintro e w2 ⟨rfl, g2⟩
            simp only [HOK.out]
            go_wp2
            go_ret2
            exact ⟨_, w2.heap.size, by rw [HN.out]; rfl, by rw [HN.out]; exact TagO.nil _ _ _, Nat.le_refl _, hG.trans g2⟩
          · have hdn' : tagsFrom sx = some ts := by rw [hdn, hok]; rfl
            have HN := Lib.hid hdn'
            have HOK := Lib.hid hok
            clear hdn hdn' hok
            go_wp2_with fail
            (with_reducible refine (areTags_c ho.s).mono ?_); rintro e w2 ⟨rfl, g2⟩
            simp only [HOK.out]
            go_wp2
            go_ret2
            exact ⟨_, _, by rw [HN.out]; rfl, by rw [HN.out]; exact (ho.kept g2).wide hsz1 (Nat.le_refl _), Nat.le_trans hT g2.size, hG.trans g2⟩
      · cases hq
    · rcases hst.out with ⟨hq, _⟩ | ⟨_, hN⟩
      · cases hq
      · have HN := Lib.hid hN
        have hG : Gr w wr := hd.gr hgr1 hg1
        clear hN hst
        go_wp2
        go_ret2
        exact ⟨_, wr.heap.size, by rw [HN.out]; rfl, by rw [HN.out]; exact TagO.nil _ _ _, Nat.le_refl _, hG⟩
end Go.Proofs.Ytknhfogblfogaaa
