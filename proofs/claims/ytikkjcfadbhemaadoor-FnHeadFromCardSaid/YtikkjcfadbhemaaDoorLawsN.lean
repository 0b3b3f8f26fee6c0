/- The walk of laws.FnHeadFrom. -/
import Derived.Test.YtikkjcfadbhemaaDoorLawsK
import Derived.Test.YtikkjcfadbhemaaDoorLawsA
namespace Go.Proofs.YtikkjcfadbhemaaDoor
open Go.RowKit
set_option maxRecDepth 20000 in
set_option maxHeartbeats 4000000 in
theorem FnHeadFrom_w {w : World} {v : Value} {bs : List Int} (hm : ML w) (h : ByteS w v bs) :
    Calls Tryd.prog 12 #[v] w fun e w' => e = .returned (.bool true) ∧ Gr w w' := by
  obtain ⟨p, cap, rfl, _, _⟩ := h.form
  by_cases hx : bs.length ≤ 1048576
  · have hx' : ((bs.length : Int) ≤ 1048576) := by omega
    go_enter Tryd.func12, Tryd.ntmps12
    go_wp2_with fail
    (with_reducible refine (DrawHeadFrom_c h).mono ?_); rintro e w1 ⟨u, zs, rfl, hzl, o1, g1⟩
    have q0 := o1.s
    obtain ⟨pz0, cz0, rfl, hh1, hh2⟩ := q0.form
    clear o1 hh1 hh2
    cases hr : headFrom zs with
    | none =>
      have HN := Lib.hid hr
      clear hr
      go_wp2_with fail
      (with_reducible refine (implHF_f HN q0 (by omega)).mono ?_); rintro e w2 ⟨pq, cq, pq', cq', pu, cu, rfl, r1, r2, r3, g2⟩
      simp only [List.length_nil] at r1 r2 r3
      have gA := gr_alloc w2 (.cells #[.int .i64 0, .slice pq 0 cq, .string ⟨#[]⟩, .int .i64 0, .int .i64 0, .slice pq' 0 cq', .string ⟨#[]⟩, .int .i64 0] 27)
      go_wp2_with fail
      (with_reducible refine (specHF_f HN (q0.kept (g2.trans gA)) (by omega)).mono ?_); rintro e w3 ⟨pz, cz, pz', cz', pv, cv, rfl, r4, r5, r6, g3⟩
      simp only [List.length_nil] at r4 r5 r6
      have gB := gr_alloc w3 (.cells #[.int .i64 0, .slice pz 0 cz, .string ⟨#[]⟩, .int .i64 0, .int .i64 0, .slice pz' 0 cz', .string ⟨#[]⟩, .int .i64 0] 27)
      have G3 := (gA.trans g3).trans gB
      have h3 := g3.trans gB
      go_wp2_with fail
      (with_reducible refine (sameTags_c (r3.kept G3) (r6.kept gB)).mono ?_); rintro e w4 ⟨rfl, g4⟩
      have G4 := G3.trans g4
      have h4 := h3.trans g4
      have B4 := gB.trans g4
      have a0 := boxN h4 0 rfl
      have a1 := boxN h4 1 rfl
      have a2 := boxN h4 2 rfl
      have a3 := boxN h4 3 rfl
      have a4 := boxN h4 4 rfl
      have a5 := boxN h4 5 rfl
      have a6 := boxN h4 6 rfl
      have a7 := boxN h4 7 rfl
      have e0 := boxN g4 0 rfl
      have e1 := boxN g4 1 rfl
      have e2 := boxN g4 2 rfl
      have e3 := boxN g4 3 rfl
      have e4 := boxN g4 4 rfl
      have e5 := boxN g4 5 rfl
      have e6 := boxN g4 6 rfl
      have e7 := boxN g4 7 rfl
      go_wp2_with fail
      (with_reducible refine (samePair_c 0 0 0 0 ⟨#[]⟩ ⟨#[]⟩ (r1.kept G4) (r4.kept B4) (r2.kept G4) (r5.kept B4)).mono ?_); rintro e w5 ⟨rfl, g5⟩
      have G5 := G4.trans g5
      have h5 := h4.trans g5
      have i5 := g4.trans g5
      have B5 := B4.trans g5
      clear a0 a1 a2 a3 a4 a5 a6 a7
      clear e0 e1 e2 e3 e4 e5 e6 e7
      have a0 := boxN h5 0 rfl
      have a1 := boxN h5 1 rfl
      have a2 := boxN h5 2 rfl
      have a3 := boxN h5 3 rfl
      have a4 := boxN h5 4 rfl
      have a5 := boxN h5 5 rfl
      have a6 := boxN h5 6 rfl
      have a7 := boxN h5 7 rfl
      have e0 := boxN i5 0 rfl
      have e1 := boxN i5 1 rfl
      have e2 := boxN i5 2 rfl
      have e3 := boxN i5 3 rfl
      have e4 := boxN i5 4 rfl
      have e5 := boxN i5 5 rfl
      have e6 := boxN i5 6 rfl
      have e7 := boxN i5 7 rfl
      go_wp2_with fail
      (with_reducible refine (sameTags_c (r3.kept G5) (r6.kept B5)).mono ?_); rintro e w6 ⟨rfl, g6⟩
      have G6 := G5.trans g6
      have h6 := h5.trans g6
      have i6 := i5.trans g6
      have B6 := B5.trans g6
      clear a0 a1 a2 a3 a4 a5 a6 a7
      clear e0 e1 e2 e3 e4 e5 e6 e7
      have a0 := boxN h6 0 rfl
      have a1 := boxN h6 1 rfl
      have a2 := boxN h6 2 rfl
      have a3 := boxN h6 3 rfl
      have a4 := boxN h6 4 rfl
      have a5 := boxN h6 5 rfl
      have a6 := boxN h6 6 rfl
      have a7 := boxN h6 7 rfl
      have e0 := boxN i6 0 rfl
      have e1 := boxN i6 1 rfl
      have e2 := boxN i6 2 rfl
      have e3 := boxN i6 3 rfl
      have e4 := boxN i6 4 rfl
      have e5 := boxN i6 5 rfl
      have e6 := boxN i6 6 rfl
      have e7 := boxN i6 7 rfl
      go_wp2_with fail
      (with_reducible refine (samePair_c 0 0 0 0 ⟨#[]⟩ ⟨#[]⟩ (r1.kept G6) (r4.kept B6) (r2.kept G6) (r5.kept B6)).mono ?_); rintro e w7 ⟨rfl, g7⟩
      go_wp2
      go_ret
      exact ⟨rfl, ((g1.trans g2).trans G6).trans g7⟩
    | some R =>
      obtain ⟨P, ts, n⟩ := R
      obtain ⟨⟨k, xs, nm, p⟩, ⟨k', ys, nm', p'⟩⟩ := P
      obtain ⟨s, rfl⟩ : ∃ s, nm = tx s := ⟨S nm, (tx_S nm).symm⟩
      obtain ⟨s', rfl⟩ : ∃ s', nm' = tx s' := ⟨S nm', (tx_S nm').symm⟩
      have HN := Lib.hid hr
      obtain ⟨hok, hbt, hnl, hn28⟩ := headFrom_back hr
      obtain ⟨_, _, ka, kb, qa, qb, na, nb⟩ := par_parts (head_pair hok).1
      simp only [] at na nb
      have hs : s.size ≤ 2000000 := by rw [← tx_len, na]; simp
      have hs' : s'.size ≤ 2000000 := by rw [← tx_len, nb]; simp
      have HOK := Lib.hid hok
      obtain ⟨hb, ehb⟩ : ∃ hb, headBytes ⟨⟨k, xs, tx s, p⟩, ⟨k', ys, tx s', p'⟩⟩ ts = hb := ⟨_, rfl⟩
      have IC := Lib.hid (fun (W : World) (hM : ML W) (v0 v0' v0'' : Value) (h1 : IntS W v0 xs) (h2 : IntS W v0' ys) (h3 : TagS W v0'' ts) => implHeadBytes_t hM k p k' p' s s' h1 h2 hs hs' h3 HOK)
      simp only [ehb] at IC hbt
      have hbn : hb.length = n := by rw [hbt, List.length_take]; omega
      have hbq : ((hb.length : Int) == (n : Int)) = true := by rw [beq_iff_eq]; omega
      have HZ : Hid (zs = hb ++ zs.drop n) := by rw [Hid, hbt, List.take_append_drop]
      clear hr hok hbt ka kb qa qb na nb ehb hbn hnl hn28
      go_wp2_with fail
      (with_reducible refine (implHF_t HN q0 (by omega)).mono ?_); rintro e w2 ⟨pq, cq, pq', cq', pu, cu, rfl, r1, r2, r3, g2⟩
      have gA := gr_alloc w2 (.cells #[.int .i64 k, .slice pq xs.length cq, .string s, .int .i64 p, .int .i64 k', .slice pq' ys.length cq', .string s', .int .i64 p'] 27)
      go_wp2_with fail
      (with_reducible refine (specHF_t HN (q0.kept (g2.trans gA)) (by omega)).mono ?_); rintro e w3 ⟨pz, cz, pz', cz', pv, cv, rfl, r4, r5, r6, g3⟩
      have gB := gr_alloc w3 (.cells #[.int .i64 k, .slice pz xs.length cz, .string s, .int .i64 p, .int .i64 k', .slice pz' ys.length cz', .string s', .int .i64 p'] 27)
      have G3 := (gA.trans g3).trans gB
      have h3 := g3.trans gB
      go_wp2_with fail
      (with_reducible refine (sameTags_c (r3.kept G3) (r6.kept gB)).mono ?_); rintro e w4 ⟨rfl, g4⟩
      have G4 := G3.trans g4
      have h4 := h3.trans g4
      have B4 := gB.trans g4
      have a0 := boxN h4 0 rfl
      have a1 := boxN h4 1 rfl
      have a2 := boxN h4 2 rfl
      have a3 := boxN h4 3 rfl
      have a4 := boxN h4 4 rfl
      have a5 := boxN h4 5 rfl
      have a6 := boxN h4 6 rfl
      have a7 := boxN h4 7 rfl
      have e0 := boxN g4 0 rfl
      have e1 := boxN g4 1 rfl
      have e2 := boxN g4 2 rfl
      have e3 := boxN g4 3 rfl
      have e4 := boxN g4 4 rfl
      have e5 := boxN g4 5 rfl
      have e6 := boxN g4 6 rfl
      have e7 := boxN g4 7 rfl
      go_wp2_with fail
      (with_reducible refine (samePair_c k p k' p' s s' (r1.kept G4) (r4.kept B4) (r2.kept G4) (r5.kept B4)).mono ?_); rintro e w5 ⟨rfl, g5⟩
      have G5 := G4.trans g5
      have h5 := h4.trans g5
      have i5 := g4.trans g5
      have B5 := B4.trans g5
      clear a0 a1 a2 a3 a4 a5 a6 a7
      clear e0 e1 e2 e3 e4 e5 e6 e7
      have a0 := boxN h5 0 rfl
      have a1 := boxN h5 1 rfl
      have a2 := boxN h5 2 rfl
      have a3 := boxN h5 3 rfl
      have a4 := boxN h5 4 rfl
      have a5 := boxN h5 5 rfl
      have a6 := boxN h5 6 rfl
      have a7 := boxN h5 7 rfl
      have e0 := boxN i5 0 rfl
      have e1 := boxN i5 1 rfl
      have e2 := boxN i5 2 rfl
      have e3 := boxN i5 3 rfl
      have e4 := boxN i5 4 rfl
      have e5 := boxN i5 5 rfl
      have e6 := boxN i5 6 rfl
      have e7 := boxN i5 7 rfl
      go_wp2_with fail
      (with_reducible refine (IC.out _ (hm.kept ((g1.trans g2).trans G5)) _ _ _ (r1.kept G5) (r2.kept G5) (r3.kept G5)).mono ?_); rintro e w6 ⟨v6, rfl, o6, g6⟩
      obtain ⟨p6, c6, rfl⟩ := o6.len
      have G6 := G5.trans g6
      go_wp2_with fail
      (with_reducible refine (isBegin_t (q0.kept (g2.trans G6)) o6.s HZ).mono ?_); rintro e w7 ⟨rfl, g7⟩
      go_wp2
      go_ret
      exact ⟨rfl, ((g1.trans g2).trans G6).trans g7⟩
  · have hx' : ¬ ((bs.length : Int) ≤ 1048576) := by omega
    go_enter Tryd.func12, Tryd.ntmps12
    go_wp2_with fail
    go_ret
    exact ⟨rfl, Gr.refl _⟩
end Go.Proofs.YtikkjcfadbhemaaDoor
