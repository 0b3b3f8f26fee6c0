/- impl.tagsBytes. -/
import Derived.Test.YtjfijmfmomeikaaNum
namespace Go.Proofs.Ytjfijmfmomeikaa
open Go.RowKit
theorem IntSS.lit4 {w : World} {a b c d : Value} {xs ys zs us : List Int} (ha : IntS w a xs) (hb : IntS w b ys) (hc : IntS w c zs) (hd : IntS w d us) :
    IntSS (w.alloc (.cells #[a, b, c, d] 22)) (.slice (some ⟨w.heap.size, 0, none⟩) 4 4) [xs, ys, zs, us] := by
  refine ⟨[a, b, c, d], (Own.lit (B := w.heap.size) w #[a, b, c, d] 4 (Nat.le_refl _) (by decide) rfl).row, fun k hk => ?_⟩
  have hg : Gr w (w.alloc (.cells #[a, b, c, d] 22)) := (Gr.refl w).alloc _
  match k, hk with
  | 0, _ => exact ha.kept hg
  | 1, _ => exact hb.kept hg
  | 2, _ => exact hc.kept hg
  | 3, _ => exact hd.kept hg
theorem IntSS.lit4' {w : World} {a b c d : Value} {xs ys zs us : List Int} (ha : IntS w a xs) (hb : IntS w b ys) (hc : IntS w c zs) (hd : IntS w d us) {n : Nat} (hn : n = w.heap.size) :
    IntSS (w.alloc (.cells #[a, b, c, d] 22)) (.slice (some ⟨n, 0, none⟩) 4 4) [xs, ys, zs, us] := by subst hn; exact IntSS.lit4 ha hb hc hd
theorem Gr.undrew {a b : World} (h : Gr a.drew b) : Gr a b := ⟨h.os, h.tape, h.output, h.size, h.block⟩
set_option maxHeartbeats 1600000 in
theorem tagsBytes_c {w : World} {v : Value} {ts : List Tag} (h : TagS w v ts) (hok : tagsOk ts = true) :
    Calls Try.prog 41 #[v] w fun e w' => ∃ v', e = .returned v' ∧ IntO w.heap.size 3 w' v' (tagsBytes ts) ∧ Gr w w' := by
  obtain ⟨p, cap, rfl, hl1, hl2⟩ := h.form
  have HB := Lib.hid (tagsBytes_len hok)
  clear hok
  go_enter Try.func41, Try.ntmps41
  go_wp2_with fail
  go_loopw [3, 8] (fun s i wr => ∃ (k : Nat) (ys : List Int), k ≤ ts.length ∧ i = .int .i64 k ∧ Hid (ys = tagsBytes (ts.take k)) ∧ Gr w wr ∧ IntO w.heap.size 3 wr s ys) (fun _ i _ => ts.length - (intOf i).toNat)
  case atStart => exact ⟨0, [], Nat.zero_le _, rfl, rfl, Gr.refl _, IntO.nil _ _ _⟩
  case round =>
    obtain ⟨k, ys, hk, rfl, hys, hgr, ho⟩ := hrel
    obtain ⟨po, co, rfl⟩ := ho.len
    by_cases hlt : k < ts.length
    · have hy1 := HB.out k
      have hy2 := HB.out (k+1)
      rw [tagsBytes_step hlt, List.length_append] at hy2
      rw [← hys.out] at hy1 hy2
      have htb : (tagBytes (nthT ts k)).length = 3 + (nthT ts k).2.length := by simp [tagBytes, num2]; omega
      have hb : ys.length + (3 + (nthT ts k).2.length) ≤ 76 := by omega
      clear hy1 hy2 htb
      obtain ⟨a, q, cq, hix, hca0, hcb0, hrow0⟩ := h.ix hlt
      have hca := hgr.cell hca0
      have hcb := hgr.cell hcb0
      go_wp2_with fail
      have hW : Gr wr (wr.alloc (.cells #[.int .i64 (nthT ts k).1, .slice q (nthT ts k).2.length cq] 35)) := gr_alloc _ _
      have hW0 : (wr.alloc (.cells #[.int .i64 (nthT ts k).1, .slice q (nthT ts k).2.length cq] 35)).cell? ⟨wr.heap.size, 0, none⟩ = some (.int .i64 (nthT ts k).1) := by simp
      have hW1 : (wr.alloc (.cells #[.int .i64 (nthT ts k).1, .slice q (nthT ts k).2.length cq] 35)).cell? ⟨wr.heap.size, 1, none⟩ = some (.slice q (nthT ts k).2.length cq) := by simp
      generalize wr.alloc (.cells #[.int .i64 (nthT ts k).1, .slice q (nthT ts k).2.length cq] 35) = W at *
      have hGW := hgr.trans hW
      replace ho := ho.kept hW
      have hrow := hrow0.kept hGW
      clear hca hcb hW hix hca0 hcb0
      go_region_held3 (fun w' => w'.cell? ⟨wr.heap.size, 0, none⟩ = some (.int .i64 (nthT ts k).1) ∧ w'.cell? ⟨wr.heap.size, 1, none⟩ = some (.slice q (nthT ts k).2.length cq)) (first | (exact ⟨hg2.cell hW0, hg2.cell hW1⟩) | (exact ⟨hg2.cell ((gr_alloc _ _).cell hW0), hg2.cell ((gr_alloc _ _).cell hW1)⟩) | (exact ⟨(gr_alloc _ _).cell hW0, (gr_alloc _ _).cell hW1⟩) | (exact ⟨(gr_alloc _ _).cell (hg2.cell hW0), (gr_alloc _ _).cell (hg2.cell hW1)⟩) | (exact ⟨(gr_alloc _ _).cell (hg2.cell ((gr_alloc _ _).cell hW0)), (gr_alloc _ _).cell (hg2.cell ((gr_alloc _ _).cell hW1))⟩) | (exact ⟨(gr_alloc _ _).cell ((gr_alloc _ _).cell (hg2.cell hW0)), (gr_alloc _ _).cell ((gr_alloc _ _).cell (hg2.cell hW1))⟩) | (exact ⟨hg3.cell ((gr_alloc _ _).cell (hg2.cell ((gr_alloc _ _).cell hW0))), hg3.cell ((gr_alloc _ _).cell (hg2.cell ((gr_alloc _ _).cell hW1)))⟩) | (exact ⟨hg3.cell ((gr_alloc _ _).cell ((gr_alloc _ _).cell (hg2.cell hW0))), hg3.cell ((gr_alloc _ _).cell ((gr_alloc _ _).cell (hg2.cell hW1)))⟩) | go_keep) (first | (go_at_call 63; (with_reducible refine (numberBytes_c _ _).mono ?_); rintro e w2 ⟨v2, rfl, ho2, hg2⟩; obtain ⟨p2, c2, rfl⟩ := ho2.len) | (go_at_call 31; (with_reducible refine (Concat_c (IntSS.lit4 (ho.s.kept (((gr_alloc _ _).drew).trans hg2)) ((IntO.one _).s.kept hg2.undrew) ho2.s (hrow.kept (((gr_alloc _ _).drew).trans hg2))) (by simp [total, num2]; omega)).mono ?_); rintro e w3 ⟨v3, rfl, ho3, hg3⟩) | (go_at_call 31; (with_reducible refine (Concat_c (IntSS.lit4' (ho.s.kept (hg2.undrew.alloc _)) (IntO.one _).s (ho2.s.kept (gr_alloc _ _)) (hrow.kept (hg2.undrew.alloc _)) (by simp)) (by simp [total, num2]; omega)).mono ?_); rintro e w3 ⟨v3, rfl, ho3, hg3⟩))
      all_goals
        go_wp2
        go_roundw
        case measure => simp [intOf]; omega
        case rel =>
          have hG3 : Gr W w3 := by first | exact ((((gr_alloc _ _).drew).trans hg2).alloc _).trans hg3 | exact ((hg2.undrew.alloc _).alloc _).trans hg3
          refine ⟨k+1, ys ++ tagBytes (nthT ts k), by omega, by go_num, by rw [Hid, hys.out, tagsBytes_step hlt], hGW.trans hG3, ?_⟩
          have h1 := hGW.szI; have h2 := hg2.szI
          have ho4 := ho3.mono (B' := w.heap.size) (by simp at h2 ⊢; omega)
          simpa [tagBytes] using ho4
    · go_wp2
      go_ret
      have e : ys = tagsBytes ts := by rw [hys.out, List.take_of_length_le (by omega)]
      exact ⟨_, rfl, e ▸ ho, hgr⟩
end Go.Proofs.Ytjfijmfmomeikaa
