/- Numbers as two bytes; the bytes of tags. -/
import Derived.Test.YtknhfogblfogaaaTag
namespace Go.Proofs.Ytknhfogblfogaaa
open Go.RowKit
/-- A number as two bytes. -/
def num2 (n : Int) : List Int := [n / 256 % 256, n % 256]
theorem IntO.ix01 {B e' : Nat} {w : World} {v : Value} {x y : Int} (h : IntO B e' w v [x, y]) :
    (∃ a : Addr, (∀ w1, (Instr.indexAt 22 v (.int .i64 0)).run Try.prog w1 = .ok (.pointer (some a)) w1) ∧ B ≤ a.block ∧ w.cell? a = some (.int .i64 x) ∧ w.frozen? a = false ∧ ∀ z, IntO B e' (w.setCell a (.int .i64 z)) v [z, y]) ∧
    (∃ a : Addr, (∀ w1, (Instr.indexAt 22 v (.int .i64 1)).run Try.prog w1 = .ok (.pointer (some a)) w1) ∧ B ≤ a.block ∧ w.cell? a = some (.int .i64 y) ∧ w.frozen? a = false ∧ ∀ z, IntO B e' (w.setCell a (.int .i64 z)) v [x, z]) := by
  constructor
  · obtain ⟨a, h1, h2, _, h4, h5, _, h7⟩ := h.ix (k := 0) (by simp)
    exact ⟨a, h1, h2, h4, h5, h7⟩
  · obtain ⟨a, h1, h2, _, h4, h5, _, h7⟩ := h.ix (k := 1) (by simp)
    exact ⟨a, h1, h2, h4, h5, h7⟩
theorem i64_and255 (n : Int) : bits .and .i64 n 255 = n % 256 := by
  have h255 : (BitVec.ofInt 64 255).toNat = 2 ^ 8 - 1 := by decide
  have key : (BitVec.ofInt 64 n &&& BitVec.ofInt 64 255).toNat = (n % ((2 ^ 64 : Nat) : Int)).toNat % 2 ^ 8 := by
    rw [BitVec.toNat_and, BitVec.toNat_ofInt, h255, Nat.and_two_pow_sub_one_eq_mod]
  show IntKind.i64.wrap ((BitVec.ofInt 64 n &&& BitVec.ofInt 64 255).toNat : Nat) = n % 256
  rw [key, IntKind.wrap_i64]
  omega
theorem l1Number_c (n : Int) (w : World) (h0 : 0 ≤ n) (h1 : n ≤ 9223372036854775807) : Calls Try.prog 92 #[.int .i64 n, .int .i64 2] w fun e w' => ∃ v', e = .returned v' ∧ IntO w.heap.size 3 w' v' (num2 n) ∧ Gr w w' := by
  go_enter Try.func92, Try.ntmps92
  go_wp2_with (refine wpl_makeI (n := 2) rfl _ _ rfl rfl rfl (by omega) ?_; intro p w1 ho hg1)
  obtain ⟨_, a1, hx1, hb1, hc1, hf1, hs1⟩ := IntO.ix01 (x := 0) (y := 0) ho
  have ho2 := hs1 (n % 256)
  obtain ⟨⟨a0, hx0, hb0, hc0, hf0, hs0⟩, _⟩ := ho2.ix01
  clear hs1
  go_wp2_with fail
  refine wp_loop_rounds 3 ?_
  rw [rounds_succ]
  go_wp2
  rw [rounds_succ]
  go_wp2
  rw [rounds_succ]
  go_wp2
  go_ret
  exact ⟨_, rfl, hs0 (n / 256 % 256), (Below.setCell (Below.setCell hg1 hb1 _) hb0 _)⟩
theorem num2_len (n : Int) : (num2 n).length = 2 := rfl

/-- The bytes of tags. -/
def tagBytes (t : Tag) : List Int := t.1 :: (num2 t.2.length ++ t.2)
def tagsBytes (ts : List Tag) : List Int := (ts.map tagBytes).flatten
theorem tagsBytes_step {ts : List Tag} {k : Nat} (h : k < ts.length) : tagsBytes (ts.take (k+1)) = tagsBytes (ts.take k) ++ tagBytes (nthT ts k) := by
  unfold tagsBytes; rw [List.take_succ_eq_append_getElem h, nthT_eq h, List.map_append, List.flatten_append]; simp
theorem tagsBytes_app (xs ys : List Tag) : tagsBytes (xs ++ ys) = tagsBytes xs ++ tagsBytes ys := by unfold tagsBytes; simp
theorem tagsBytes_len {ts : List Tag} (h : tagsOk ts = true) (k : Nat) : (tagsBytes (ts.take k)).length ≤ 76 := by
  have h4 : ts.length ≤ 4 ∧ ts.all tagOk = true := by simpa [tagsOk] using h
  have : ∀ us : List Tag, us.all tagOk = true → (tagsBytes us).length ≤ 19 * us.length := by
    intro us hu
    induction us with
    | nil => simp [tagsBytes]
    | cons u us ih =>
      simp only [List.all_cons, Bool.and_eq_true] at hu
      have h1 := ih hu.2
      have h2 : u.2.length ≤ 16 := by have := hu.1; simp [tagOk] at this; omega
      have : tagsBytes (u :: us) = tagBytes u ++ tagsBytes us := by simp [tagsBytes]
      rw [this, List.length_append, List.length_cons]
      have : (tagBytes u).length = 3 + u.2.length := by simp [tagBytes, num2]; omega
      omega
  have h5 := this (ts.take k) (by rw [List.all_eq_true] at h4 ⊢; exact fun x hx => h4.2 x (List.mem_of_mem_take hx))
  rw [List.length_take] at h5
  omega
theorem IntO.one {w : World} (x : Int) : IntO w.heap.size 3 (w.alloc (.cells #[.int .i64 x] 3)) (.slice (some ⟨w.heap.size, 0, none⟩) 1 1) [x] := Own.lit w #[.int .i64 x] 1 (Nat.le_refl _) (by decide) rfl
theorem Gr.szI {a b : World} (h : Gr a b) : a.heap.size ≤ b.heap.size := h.size
set_option maxHeartbeats 800000 in
theorem l16Bytes_c {w : World} {v : Value} {ts : List Tag} (h : TagS w v ts) (hok : tagsOk ts = true) :
    Calls Try.prog 93 #[v] w fun e w' => ∃ v', e = .returned v' ∧ IntO w.heap.size 3 w' v' (tagsBytes ts) ∧ Gr w w' := by
  obtain ⟨p, cap, rfl, hl1, hl2⟩ := h.form
  have HB := Lib.hid (tagsBytes_len hok)
  clear hok
  go_enter Try.func93, Try.ntmps93
  go_wp2_with fail
  have hmt := IntO.mt w
  have hg0 := gr_alloc w (.cells #[] 3)
  go_loopw [3, 4] (fun s i wr => ∃ (k : Nat) (ys : List Int), k ≤ ts.length ∧ i = .int .i64 k ∧ Hid (ys = tagsBytes (ts.take k)) ∧ Gr w wr ∧ IntO w.heap.size 3 wr s ys) (fun _ i _ => ts.length - (intOf i).toNat)
  case atStart => exact ⟨0, [], Nat.zero_le _, rfl, rfl, hg0, hmt⟩
  case round =>
    obtain ⟨k, ys, hk, rfl, hys, hgr, ho⟩ := hrel
    by_cases hlt : k < ts.length
    · have hy1 := HB.out k
      have hy2 := HB.out (k+1)
      rw [tagsBytes_step hlt, List.length_append] at hy2
      rw [← hys.out] at hy1 hy2
      have htb : (tagBytes (nthT ts k)).length = 3 + (nthT ts k).2.length := by simp [tagBytes, num2]; omega
      have hb : ys.length + (3 + (nthT ts k).2.length) ≤ 76 := by omega
      clear hy1 hy2 htb hmt
      obtain ⟨a, q, cq, hix, hca0, hcb0, hrow0⟩ := h.ix hlt
      have hca := hgr.cell hca0
      have hcb := hgr.cell hcb0
      go_wp2_with (at_builtin; refine wpl_appI rfl (.tmp 12) (.tmp 18) rfl rfl (IntO.kept ho (gr_alloc _ _)) rfl (IntO.one _).s (by simp; omega) (by have := hgr.szI; simp; omega) ?_; intro v1 w1 ho1 hg1; have hG1 : Gr w w1 := (hgr.alloc _).thenB hg1; have hcb1 := hG1.cell hcb0)
      go_wp2_with fail
      (with_reducible refine (l1Number_c _ _ (by omega) (by omega)).mono ?_); rintro e w2 ⟨v2, rfl, ho2, hg2⟩
      have hG2 := hG1.trans hg2
      have hcb2 := hG2.cell hcb0
      have hln := num2_len ((nthT ts k).2.length : Int)
      go_wp2_with (first | (at_builtin; refine wpl_appI rfl (.tmp 20) (.tmp 27) rfl rfl (ho1.kept hg2) rfl ho2.s (by simp; omega) (by have := hG2.szI; omega) ?_; intro v3 w3 ho3 hg3; have hG3 : Gr w w3 := hG2.thenB hg3; have hcb3 := hG3.cell hcb0) | (at_builtin; refine wpl_appI rfl (.tmp 29) (.tmp 34) rfl rfl ho3 rfl (hrow0.kept hG3) (by simp; omega) (by have := hG3.szI; omega) ?_; intro v4 w4 ho4 hg4; have hG4 : Gr w w4 := hG3.thenB hg4))
      go_roundw
      case rel => exact ⟨k+1, ys ++ tagBytes (nthT ts k), by omega, by go_num, by rw [Hid, hys.out, tagsBytes_step hlt], hG4, by simpa [tagBytes] using ho4⟩
      case measure => simp [intOf]; omega
    · go_wp2
      go_ret
      have e : ys = tagsBytes ts := by rw [hys.out, List.take_of_length_le (by omega)]
      exact ⟨_, rfl, e ▸ ho, hgr⟩
end Go.Proofs.Ytknhfogblfogaaa
