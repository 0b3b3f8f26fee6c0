/- Slices of tags, and the contracts that read them.
Numbers as two bytes; the bytes of tags.
impl.tagsBytes.
The reader of a code, and its draws of numbers.
Draws of bytes.
Slices of tags in memory of their own.
Drawn tags. -/
import Derived.Test.YtdbepkcpdglppaaGreatDoorGA
import Derived.Deep.RegionHeld3
import Derived.Maps.AppendAt
namespace Go.Proofs.YtdbepkcpdglppaaGreatDoor
open Go.RowKit
/-- Elements of sz cells each. -/
theorem flat_len {sz : Nat} {css : List (List Value)} (h : ∀ c ∈ css, c.length = sz) : css.flatten.length = css.length * sz := by
  induction css with
  | nil => simp
  | cons c css ih =>
    have h1 := h c (by simp)
    have h2 := ih fun d hd => h d (by simp [hd])
    rw [List.flatten_cons, List.length_append, h1, h2, List.length_cons, Nat.add_mul]; omega
theorem flat_get {sz : Nat} {css : List (List Value)} (h : ∀ c ∈ css, c.length = sz) {k : Nat} {c : List Value} (hk : css[k]? = some c) (j : Nat) (hj : j < sz) : css.flatten[k * sz + j]? = c[j]? := by
  induction css generalizing k with
  | nil => simp at hk
  | cons d css ih =>
    have h1 := h d (by simp)
    cases k with
    | zero =>
      simp at hk; subst hk
      rw [List.flatten_cons, List.getElem?_append_left (by omega)]; simp
    | succ k =>
      rw [List.flatten_cons, List.getElem?_append_right (by rw [h1, Nat.add_mul]; omega), h1, show (k + 1) * sz + j - sz = k * sz + j by rw [Nat.add_mul]; omega]
      exact ih (fun e he => h e (by simp [he])) (by simpa using hk)

abbrev Tag := Int × List Int
def nthT (ts : List Tag) (k : Nat) : Tag := ts.getD k (0, [])
theorem nthT_eq {ts : List Tag} {k : Nat} (h : k < ts.length) : nthT ts k = ts[k] := by simp [nthT, h]
/-- A slice of tags. -/
def TagS (w : World) (v : Value) (ts : List Tag) : Prop :=
  ∃ ds : List Value, ds.length = ts.length ∧ Row w 2 v ts.length ((List.range ts.length).map fun k => [Value.int .i64 (nthT ts k).1, nthV ds k]).flatten ∧
    ∀ k, k < ts.length → IntS w (nthV ds k) (nthT ts k).2
theorem TagS.kept {w w' : World} {v : Value} {ts : List Tag} (h : TagS w v ts) (hg : Gr w w') : TagS w' v ts := by
  obtain ⟨ds, h0, h1, h2⟩ := h
  exact ⟨ds, h0, h1.kept hg, fun k hk => (h2 k hk).kept hg⟩
theorem TagS.form {w : World} {v : Value} {ts : List Tag} (h : TagS w v ts) : ∃ p cap, v = .slice p ts.length cap ∧ ts.length ≤ cap ∧ cap ≤ 9223372036854775807 := by
  obtain ⟨ds, _, ⟨_, p, cap, h1, h2, h3, _⟩, _⟩ := h
  exact ⟨p, cap, h1, h2, h3⟩
theorem uT : Tryz.prog.underlying 43 = some (.slice 125) := by kernel_rfl
theorem infoT : ∃ i, Tryz.prog.info? 125 = some i ∧ i.zero = some (.agg #[.int .i64 0, .slice none 0 0]) ∧ i.size = 2 ∧ i.bytes = 32 := info_parts (by kernel_rfl)
theorem uTag : Tryz.prog.underlying 125 = Tryz.prog.underlying 125 := rfl
/-- The place of a tag: its two cells. -/
theorem TagS.ix {w : World} {p : Option Addr} {cap : Nat} {ts : List Tag} (h : TagS w (.slice p ts.length cap) ts) {k : Nat} (hk : k < ts.length) :
    ∃ (a : Addr) (q : Option Addr) (cq : Nat), (∀ w1, (Instr.indexAt 43 (.slice p ts.length cap) (.int .i64 (k : Int))).run Tryz.prog w1 = .ok (.pointer (some a)) w1) ∧
      w.cell? a = some (.int .i64 (nthT ts k).1) ∧ w.cell? ⟨a.block, a.off + 1, none⟩ = some (.slice q (nthT ts k).2.length cq) ∧ IntS w (.slice q (nthT ts k).2.length cq) (nthT ts k).2 := by
  obtain ⟨ds, h0, h1, h2⟩ := h
  obtain ⟨i, g1, _, g3, _⟩ := infoT
  obtain ⟨a, f1, f2⟩ := Row.at h1 uT g1 g3 hk
  have hr := h2 k hk
  obtain ⟨q, cq, hv, _⟩ := hr.form
  have hc : ((List.range ts.length).map fun k => [Value.int .i64 (nthT ts k).1, nthV ds k])[k]? = some [Value.int .i64 (nthT ts k).1, nthV ds k] := by simp [hk]
  have hl : ∀ c ∈ ((List.range ts.length).map fun k => [Value.int .i64 (nthT ts k).1, nthV ds k]), c.length = 2 := by simp
  refine ⟨a, q, cq, f1, ?_, ?_, hv ▸ hr⟩
  · have := f2 0 _ (by rw [flat_get hl hc 0 (by decide)]; rfl)
    rwa [addr_add_zero] at this
  · exact f2 1 _ (by rw [flat_get hl hc 1 (by decide)]; rw [hv]; rfl)
/-- A tag is valid. -/
def tagOk (t : Tag) : Bool := inB 0 255 t.1 && (decide (t.2.length ≤ 16) && bv t.2)
def tagsOk (ts : List Tag) : Bool := decide (ts.length ≤ 4) && ts.all tagOk
theorem allT_step (p : Tag → Bool) {ts : List Tag} {k : Nat} (h : k < ts.length) : (ts.take (k+1)).all p = ((ts.take k).all p && p (nthT ts k)) := by
  rw [List.take_succ_eq_append_getElem h, nthT_eq h, List.all_append]; simp
theorem allT_false (p : Tag → Bool) {ts : List Tag} {k : Nat} (h : k < ts.length) (hp : p (nthT ts k) = false) : ts.all p = false := by
  rw [List.all_eq_false]; exact ⟨ts[k], List.getElem_mem h, by rw [nthT_eq h] at hp; simp [hp]⟩
theorem specl16Ok_c {w : World} {v : Value} {ts : List Tag} (h : TagS w v ts) :
    Calls Tryz.prog 61 #[v] w fun e w' => e = .returned (.bool (tagsOk ts)) ∧ w = w' := by
  obtain ⟨p, cap, rfl, hl1, hl2⟩ := h.form
  go_enter Tryz.func61, Tryz.ntmps61
  go_wp2_with fail
  go_loop [3] (fun i => ∃ k : Nat, k ≤ ts.length ∧ i = .int .i64 k ∧ Hid ((ts.take k).all tagOk = true)) (fun i => ts.length - (intOf i).toNat)
  case atStart => exact ⟨0, Nat.zero_le _, rfl, by simp [Hid]⟩
  case round =>
    obtain ⟨k, hk, rfl, hall⟩ := hrel
    by_cases hlt : k < ts.length
    · obtain ⟨a, q, cq, hix, hca, hcb, hrow⟩ := h.ix hlt
      generalize ht : nthT ts k = t at *
      have HT := Lib.hid ht; clear ht
      cases h1 : inB 0 255 t.1
      · have hf : tagOk t = false := by simp [tagOk, h1]
        have HF := Lib.hid hf; clear hf
        go_wp2_with fail
        (with_reducible refine (l6In_c _ _ _ _).mono ?_); rintro e w0 ⟨rfl, rfl⟩
        go_wp2
        go_ret
        exact ⟨ret_bool (by rw [tagsOk, allT_false tagOk hlt (by rw [HT.out]; exact HF.out)]; simp), rfl⟩
      · cases h2 : bv t.2
        · have hf : tagOk t = false := by simp [tagOk, h2]
          have HF := Lib.hid hf; clear hf
          go_wp2_with fail
          (with_reducible refine (l6In_c _ _ _ _).mono ?_); rintro e w0 ⟨rfl, rfl⟩
          go_wp2_with fail
          (with_reducible refine (specBytesValid_c hrow).mono ?_); rintro e w0 ⟨rfl, rfl⟩
          go_wp2
          go_ret
          exact ⟨ret_bool (by rw [tagsOk, allT_false tagOk hlt (by rw [HT.out]; exact HF.out)]; simp), rfl⟩
        · by_cases h3 : t.2.length ≤ 16
          · have hf : tagOk t = true := by simp [tagOk, h1, h2, h3]
            have HF := Lib.hid hf; clear hf
            have h3' : (decide (16 < (t.2.length : Int))) = false := by simp; omega
            go_wp2_with fail
            (with_reducible refine (l6In_c _ _ _ _).mono ?_); rintro e w0 ⟨rfl, rfl⟩
            go_wp2_with fail
            (with_reducible refine (specBytesValid_c hrow).mono ?_); rintro e w0 ⟨rfl, rfl⟩
            go_wp2
            go_round
            case rel => exact ⟨k+1, by omega, by go_num, by rw [Hid, allT_step tagOk hlt, hall.out, HT.out, HF.out]; rfl⟩
            case measure => simp [intOf]; omega
          · have hf : tagOk t = false := by simp [tagOk, h3]
            have HF := Lib.hid hf; clear hf
            have h3' : (decide (16 < (t.2.length : Int))) = true := by simp; omega
            go_wp2_with fail
            (with_reducible refine (l6In_c _ _ _ _).mono ?_); rintro e w0 ⟨rfl, rfl⟩
            go_wp2_with fail
            (with_reducible refine (specBytesValid_c hrow).mono ?_); rintro e w0 ⟨rfl, rfl⟩
            go_wp2
            go_ret
            exact ⟨ret_bool (by rw [tagsOk, allT_false tagOk hlt (by rw [HT.out]; exact HF.out)]; simp), rfl⟩
    · go_wp2
      go_ret
      exact ⟨ret_bool (by have := hall.out; rw [List.take_of_length_le (by omega)] at this; rw [tagsOk, this, Bool.eq_iff_iff]; simp; omega), rfl⟩

/-- A function value without captures that tells something of a tag. -/
def TellsT (g : Nat) (p : Tag → Bool) : Prop := (∀ args w, (callFunc g args).run Tryz.prog w = .ok (.enter g args) w) ∧
  ∀ (n : Int) (q : Option Addr) (cq : Nat) (xs : List Int) (w : World), IntS w (.slice q xs.length cq) xs → Calls Tryz.prog g #[.agg #[.int .i64 n, .slice q xs.length cq]] w fun e w' => e = .returned (.bool (p (n, xs))) ∧ Gr w w'
theorem gr_box {w : World} (o : Obj) {w' : World} (h : Gr (w.alloc o) w') : Gr w w' := (gr_alloc w o).trans h
theorem areTags1_c : TellsT 111 (fun t => !tagOk t) := by
  refine ⟨fun args w => by kernel_rfl, fun n q cq xs w h => ?_⟩
  have hrow := h.kept (gr_alloc w (.cells #[.int .i64 n, .slice q xs.length cq] 125))
  cases h1 : inB 0 255 n
  · have hf : tagOk (n, xs) = false := by simp [tagOk, h1]
    have HF := Lib.hid hf; clear hf
    go_enter Tryz.func111, Tryz.ntmps111
    go_wp2_with fail
    (with_reducible refine (within_c _ _ _ _).mono ?_); rintro e w0 ⟨rfl, rfl⟩
    go_wp2
    go_ret
    exact ⟨ret_bool (by rw [HF.out]; rfl), gr_alloc w _⟩
  · by_cases h3 : xs.length ≤ 16
    · have h3' : (decide (16 < (xs.length : Int))) = false := by simp; omega
      have hf : tagOk (n, xs) = bv xs := by simp [tagOk, h1, h3]
      have HF := Lib.hid hf; clear hf
      go_enter Tryz.func111, Tryz.ntmps111
      go_wp2_with fail
      (with_reducible refine (within_c _ _ _ _).mono ?_); rintro e w0 ⟨rfl, rfl⟩
      go_wp2_with fail
      (with_reducible refine (implBytesValid_c hrow).mono ?_); rintro e w0 ⟨rfl, rfl⟩
      go_wp2
      go_ret
      exact ⟨ret_bool (by rw [HF.out]), gr_alloc w _⟩
    · have h3' : (decide (16 < (xs.length : Int))) = true := by simp; omega
      have hf : tagOk (n, xs) = false := by simp [tagOk, h3]
      have HF := Lib.hid hf; clear hf
      go_enter Tryz.func111, Tryz.ntmps111
      go_wp2_with fail
      (with_reducible refine (within_c _ _ _ _).mono ?_); rintro e w0 ⟨rfl, rfl⟩
      go_wp2
      go_ret
      exact ⟨ret_bool (by rw [HF.out]; rfl), gr_alloc w _⟩

theorem takeT_any (p : Tag → Bool) {ts : List Tag} {k : Nat} (h : k < ts.length) : (ts.take (k+1)).any p = ((ts.take k).any p || p (nthT ts k)) := by
  rw [List.take_succ_eq_append_getElem h, nthT_eq h, List.any_append]; simp
theorem anyT_true (p : Tag → Bool) {ts : List Tag} {k : Nat} (h : k < ts.length) (hp : p (nthT ts k) = true) : ts.any p = true := by
  rw [List.any_eq_true]; exact ⟨ts[k], List.getElem_mem h, by rw [nthT_eq h] at hp; exact hp⟩
theorem IndexFuncT_c {w : World} {v : Value} {ts : List Tag} (h : TagS w v ts) (g : Nat) (p : Tag → Bool) (hg : TellsT g p) :
    Calls Tryz.prog 136 #[v, .func (.func g) #[] #[]] w fun e w' => (∃ r : Int, decide (0 ≤ r) = ts.any p ∧ e = .returned (.int .i64 r)) ∧ Gr w w' := by
  obtain ⟨q, cap, rfl, hl1, hl2⟩ := h.form
  obtain ⟨hcf, hg⟩ := hg
  have HG := Lib.hid hg; clear hg
  go_enter Tryz.func136, Tryz.ntmps136
  go_wp2_with fail
  go_loopw [8] (fun i wr => ∃ k : Nat, k ≤ ts.length ∧ i = .int .i64 k ∧ Hid ((ts.take k).any p = false) ∧ Gr w wr) (fun i _ => ts.length - (intOf i).toNat)
  case atStart => exact ⟨0, Nat.zero_le _, rfl, by simp [Hid], Gr.refl _⟩
  case round =>
    obtain ⟨k, hk, rfl, hall, hgr⟩ := hrel
    by_cases hlt : k < ts.length
    · obtain ⟨a, q, cq, hix, hca, hcb, hrow⟩ := (h.kept hgr).ix hlt
      cases hb : p (nthT ts k)
      · have HB := Lib.hid hb; clear hb
        go_wp2_with fail
        refine (HG.out _ _ _ _ _ hrow).mono ?_
        rintro e w1 ⟨rfl, g1⟩
        have hb' : p ((nthT ts k).1, (nthT ts k).2) = false := HB.out
        go_wp2
        go_roundw
        case rel => exact ⟨k+1, by omega, by go_num, by rw [Hid, takeT_any p hlt, hall.out, HB.out]; rfl, hgr.trans g1⟩
        case measure => simp [intOf]; omega
      · have HB := Lib.hid hb; clear hb
        go_wp2_with fail
        refine (HG.out _ _ _ _ _ hrow).mono ?_
        rintro e w1 ⟨rfl, g1⟩
        have hb' : p ((nthT ts k).1, (nthT ts k).2) = true := HB.out
        go_wp2
        go_ret
        exact ⟨⟨k, by rw [anyT_true p hlt HB.out]; simp, rfl⟩, hgr.trans g1⟩
    · go_wp2
      go_ret
      exact ⟨⟨-1, by have := hall.out; rw [List.take_of_length_le (by omega)] at this; rw [this]; rfl, rfl⟩, hgr⟩

theorem ContainsFuncT_c {w : World} {v : Value} {ts : List Tag} (h : TagS w v ts) (g : Nat) (p : Tag → Bool) (hg : TellsT g p) :
    Calls Tryz.prog 110 #[v, .func (.func g) #[] #[]] w fun e w' => e = .returned (.bool (ts.any p)) ∧ Gr w w' := by
  go_enter Tryz.func110, Tryz.ntmps110
  go_wp2_with fail
  refine (IndexFuncT_c h g p hg).mono ?_
  rintro e w' ⟨⟨r, hr, rfl⟩, g1⟩
  have HR := Lib.hid hr; clear hr
  go_wp2
  go_ret
  exact ⟨ret_bool HR.out, g1⟩
theorem anyT_not_all (ts : List Tag) : ts.any (fun t => !tagOk t) = !ts.all tagOk := by
  rw [Bool.eq_iff_iff]; simp
theorem areTags_c {w : World} {v : Value} {ts : List Tag} (h : TagS w v ts) :
    Calls Tryz.prog 58 #[v] w fun e w' => e = .returned (.bool (tagsOk ts)) ∧ Gr w w' := by
  obtain ⟨p, cap, hv, hl1, hl2⟩ := h.form
  by_cases hn : ts.length ≤ 4
  · subst hv
    go_enter Tryz.func58, Tryz.ntmps58
    go_wp2_with fail
    (with_reducible refine (ContainsFuncT_c h _ _ areTags1_c).mono ?_); rintro e w1 ⟨rfl, g1⟩
    go_wp2
    go_ret
    exact ⟨ret_bool (by rw [tagsOk, anyT_not_all]; simp; intro _; omega), g1⟩
  · have hd : decide ((ts.length : Int) ≤ 4) = false := by simp; omega
    subst hv
    go_enter Tryz.func58, Tryz.ntmps58
    go_wp2
    go_ret
    exact ⟨ret_bool (by rw [tagsOk, Bool.eq_iff_iff]; simp; omega), Gr.refl _⟩

end Go.Proofs.YtdbepkcpdglppaaGreatDoor
namespace Go.Proofs.YtdbepkcpdglppaaGreatDoor
open Go.RowKit
/-- A number as two bytes. -/
def num2 (n : Int) : List Int := [n / 256 % 256, n % 256]
theorem IntO.ix01 {B e' : Nat} {w : World} {v : Value} {x y : Int} (h : IntO B e' w v [x, y]) :
    (∃ a : Addr, (∀ w1, (Instr.indexAt 23 v (.int .i64 0)).run Tryz.prog w1 = .ok (.pointer (some a)) w1) ∧ B ≤ a.block ∧ w.cell? a = some (.int .i64 x) ∧ w.frozen? a = false ∧ ∀ z, IntO B e' (w.setCell a (.int .i64 z)) v [z, y]) ∧
    (∃ a : Addr, (∀ w1, (Instr.indexAt 23 v (.int .i64 1)).run Tryz.prog w1 = .ok (.pointer (some a)) w1) ∧ B ≤ a.block ∧ w.cell? a = some (.int .i64 y) ∧ w.frozen? a = false ∧ ∀ z, IntO B e' (w.setCell a (.int .i64 z)) v [x, z]) := by
  constructor
  · obtain ⟨a, h1, h2, _, h4, h5, _, h7⟩ := h.ix (k := 0) (by simp)
    exact ⟨a, h1, h2, h4, h5, h7⟩
  · obtain ⟨a, h1, h2, _, h4, h5, _, h7⟩ := h.ix (k := 1) (by simp)
    exact ⟨a, h1, h2, h4, h5, h7⟩
theorem i64_and255 (n : Int) : bits .and .i64 n 255 = n % 256 := by
  have h255 : (BitVec.ofInt 64 255).toNat = 2 ^ 8 - 1 := by decide
  have key : (BitVec.ofInt 64 n &&& BitVec.ofInt 64 255).toNat = (n % ((2 ^ 64 : Nat) : Int)).toNat % 2 ^ 8 := by
    rw [BitVec.toNat_and, BitVec.toNat_ofInt, h255, Nat.and_two_pow_sub_one_eq_mod]
  show IntKind.i64.wrap ((BitVec.ofInt 64 n &&& BitVec.ofInt 64 255).toNat : Nat) = n % 256
  rw [key, IntKind.wrap_i64]
  omega
theorem l1Number_c (n : Int) (w : World) (h0 : 0 ≤ n) (h1 : n ≤ 9223372036854775807) : Calls Tryz.prog 62 #[.int .i64 n, .int .i64 2] w fun e w' => ∃ v', e = .returned v' ∧ IntO w.heap.size 3 w' v' (num2 n) ∧ Gr w w' := by
  go_enter Tryz.func62, Tryz.ntmps62
  go_wp2_with (refine wpl_makeI (n := 2) rfl _ _ rfl rfl rfl (by omega) ?_; intro p w1 ho hg1)
  obtain ⟨_, a1, hx1, hb1, hc1, hf1, hs1⟩ := IntO.ix01 (x := 0) (y := 0) ho
  have ho2 := hs1 (n % 256)
  obtain ⟨⟨a0, hx0, hb0, hc0, hf0, hs0⟩, _⟩ := ho2.ix01
  clear hs1
  go_wp2_with fail
  refine wp_loop_rounds 3 ?_
  rw [rounds_succ]
  go_wp2
  rw [rounds_succ]
  go_wp2
  rw [rounds_succ]
  go_wp2
  go_ret
  exact ⟨_, rfl, hs0 (n / 256 % 256), (Below.setCell (Below.setCell hg1 hb1 _) hb0 _)⟩
theorem numberBytes_c (n : Int) (w : World) : Calls Tryz.prog 54 #[.int .i64 n, .int .i64 2] w fun e w' => ∃ v', e = .returned v' ∧ IntO w.heap.size 3 w' v' (num2 n) ∧ Gr w w' := by
  have e1 := i64_and255 (n / 256)
  have e2 := i64_and255 n
  go_enter Tryz.func54, Tryz.ntmps54
  go_wp2_with (refine wpl_makeI (n := 2) rfl _ _ rfl rfl rfl (by omega) ?_; intro p w1 ho hg1)
  obtain ⟨⟨a0, hx0, hb0, hc0, hf0, hs0⟩, _⟩ := IntO.ix01 (x := 0) (y := 0) ho
  have ho2 := hs0 (n / 256 % 256)
  obtain ⟨_, ⟨a1, hx1, hb1, hc1, hf1, hs1⟩⟩ := ho2.ix01
  clear hs0
  go_wp2_with fail
  refine wp_loop_rounds 3 ?_
  rw [rounds_succ]
  go_wp2
  rw [rounds_succ]
  go_wp2
  rw [rounds_succ]
  go_wp2
  go_ret
  exact ⟨_, rfl, hs1 (n % 256), (Below.setCell (Below.setCell hg1 hb0 _) hb1 _)⟩
theorem num2_len (n : Int) : (num2 n).length = 2 := rfl

/-- The bytes of tags. -/
def tagBytes (t : Tag) : List Int := t.1 :: (num2 t.2.length ++ t.2)
def tagsBytes (ts : List Tag) : List Int := (ts.map tagBytes).flatten
theorem tagsBytes_step {ts : List Tag} {k : Nat} (h : k < ts.length) : tagsBytes (ts.take (k+1)) = tagsBytes (ts.take k) ++ tagBytes (nthT ts k) := by
  unfold tagsBytes; rw [List.take_succ_eq_append_getElem h, nthT_eq h, List.map_append, List.flatten_append]; simp
theorem tagsBytes_app (xs ys : List Tag) : tagsBytes (xs ++ ys) = tagsBytes xs ++ tagsBytes ys := by unfold tagsBytes; simp
theorem tagsBytes_len {ts : List Tag} (h : tagsOk ts = true) (k : Nat) : (tagsBytes (ts.take k)).length ≤ 76 := by
  have h4 : ts.length ≤ 4 ∧ ts.all tagOk = true := by simpa [tagsOk] using h
  have : ∀ us : List Tag, us.all tagOk = true → (tagsBytes us).length ≤ 19 * us.length := by
    intro us hu
    induction us with
    | nil => simp [tagsBytes]
    | cons u us ih =>
      simp only [List.all_cons, Bool.and_eq_true] at hu
      have h1 := ih hu.2
      have h2 : u.2.length ≤ 16 := by have := hu.1; simp [tagOk] at this; omega
      have : tagsBytes (u :: us) = tagBytes u ++ tagsBytes us := by simp [tagsBytes]
      rw [this, List.length_append, List.length_cons]
      have : (tagBytes u).length = 3 + u.2.length := by simp [tagBytes, num2]; omega
      omega
  have h5 := this (ts.take k) (by rw [List.all_eq_true] at h4 ⊢; exact fun x hx => h4.2 x (List.mem_of_mem_take hx))
  rw [List.length_take] at h5
  omega
theorem IntO.one {w : World} (x : Int) : IntO w.heap.size 3 (w.alloc (.cells #[.int .i64 x] 3)) (.slice (some ⟨w.heap.size, 0, none⟩) 1 1) [x] := Own.lit w #[.int .i64 x] 1 (Nat.le_refl _) (by decide) rfl
theorem Gr.szI {a b : World} (h : Gr a b) : a.heap.size ≤ b.heap.size := h.size
set_option maxHeartbeats 800000 in
theorem l16Bytes_c {w : World} {v : Value} {ts : List Tag} (h : TagS w v ts) (hok : tagsOk ts = true) :
    Calls Tryz.prog 63 #[v] w fun e w' => ∃ v', e = .returned v' ∧ IntO w.heap.size 3 w' v' (tagsBytes ts) ∧ Gr w w' := by
  obtain ⟨p, cap, rfl, hl1, hl2⟩ := h.form
  have HB := Lib.hid (tagsBytes_len hok)
  clear hok
  go_enter Tryz.func63, Tryz.ntmps63
  go_wp2_with fail
  have hmt := IntO.mt w
  have hg0 := gr_alloc w (.cells #[] 3)
  go_loopw [3, 4] (fun s i wr => ∃ (k : Nat) (ys : List Int), k ≤ ts.length ∧ i = .int .i64 k ∧ Hid (ys = tagsBytes (ts.take k)) ∧ Gr w wr ∧ IntO w.heap.size 3 wr s ys) (fun _ i _ => ts.length - (intOf i).toNat)
  case atStart => exact ⟨0, [], Nat.zero_le _, rfl, rfl, hg0, hmt⟩
  case round =>
    obtain ⟨k, ys, hk, rfl, hys, hgr, ho⟩ := hrel
    by_cases hlt : k < ts.length
    · have hy1 := HB.out k
      have hy2 := HB.out (k+1)
      rw [tagsBytes_step hlt, List.length_append] at hy2
      rw [← hys.out] at hy1 hy2
      have htb : (tagBytes (nthT ts k)).length = 3 + (nthT ts k).2.length := by simp [tagBytes, num2]; omega
      have hb : ys.length + (3 + (nthT ts k).2.length) ≤ 76 := by omega
      clear hy1 hy2 htb hmt
      obtain ⟨a, q, cq, hix, hca0, hcb0, hrow0⟩ := h.ix hlt
      have hca := hgr.cell hca0
      have hcb := hgr.cell hcb0
      go_wp2_with (at_builtin; refine wpl_appI rfl (.tmp 12) (.tmp 18) rfl rfl (IntO.kept ho (gr_alloc _ _)) rfl (IntO.one _).s (by simp; omega) (by have := hgr.szI; simp; omega) ?_; intro v1 w1 ho1 hg1; have hG1 : Gr w w1 := (hgr.alloc _).thenB hg1; have hcb1 := hG1.cell hcb0)
      go_wp2_with fail
      (with_reducible refine (l1Number_c _ _ (by omega) (by omega)).mono ?_); rintro e w2 ⟨v2, rfl, ho2, hg2⟩
      have hG2 := hG1.trans hg2
      have hcb2 := hG2.cell hcb0
      have hln := num2_len ((nthT ts k).2.length : Int)
      go_wp2_with (first | (at_builtin; refine wpl_appI rfl (.tmp 20) (.tmp 27) rfl rfl (ho1.kept hg2) rfl ho2.s (by simp; omega) (by have := hG2.szI; omega) ?_; intro v3 w3 ho3 hg3; have hG3 : Gr w w3 := hG2.thenB hg3; have hcb3 := hG3.cell hcb0) | (at_builtin; refine wpl_appI rfl (.tmp 29) (.tmp 34) rfl rfl ho3 rfl (hrow0.kept hG3) (by simp; omega) (by have := hG3.szI; omega) ?_; intro v4 w4 ho4 hg4; have hG4 : Gr w w4 := hG3.thenB hg4))
      go_roundw
      case rel => exact ⟨k+1, ys ++ tagBytes (nthT ts k), by omega, by go_num, by rw [Hid, hys.out, tagsBytes_step hlt], hG4, by simpa [tagBytes] using ho4⟩
      case measure => simp [intOf]; omega
    · go_wp2
      go_ret
      have e : ys = tagsBytes ts := by rw [hys.out, List.take_of_length_le (by omega)]
      exact ⟨_, rfl, e ▸ ho, hgr⟩
end Go.Proofs.YtdbepkcpdglppaaGreatDoor
namespace Go.Proofs.YtdbepkcpdglppaaGreatDoor
open Go.RowKit
theorem IntSS.lit4 {w : World} {a b c d : Value} {xs ys zs us : List Int} (ha : IntS w a xs) (hb : IntS w b ys) (hc : IntS w c zs) (hd : IntS w d us) :
    IntSS (w.alloc (.cells #[a, b, c, d] 23)) (.slice (some ⟨w.heap.size, 0, none⟩) 4 4) [xs, ys, zs, us] := by
  refine ⟨[a, b, c, d], (Own.lit (B := w.heap.size) w #[a, b, c, d] 4 (Nat.le_refl _) (by decide) rfl).row, fun k hk => ?_⟩
  have hg : Gr w (w.alloc (.cells #[a, b, c, d] 23)) := (Gr.refl w).alloc _
  match k, hk with
  | 0, _ => exact ha.kept hg
  | 1, _ => exact hb.kept hg
  | 2, _ => exact hc.kept hg
  | 3, _ => exact hd.kept hg
theorem IntSS.lit4' {w : World} {a b c d : Value} {xs ys zs us : List Int} (ha : IntS w a xs) (hb : IntS w b ys) (hc : IntS w c zs) (hd : IntS w d us) {n : Nat} (hn : n = w.heap.size) :
    IntSS (w.alloc (.cells #[a, b, c, d] 23)) (.slice (some ⟨n, 0, none⟩) 4 4) [xs, ys, zs, us] := by subst hn; exact IntSS.lit4 ha hb hc hd
theorem Gr.undrew {a b : World} (h : Gr a.drew b) : Gr a b := ⟨h.os, h.tape, h.output, h.size, h.block⟩
set_option maxHeartbeats 1600000 in
theorem tagsBytes_c {w : World} {v : Value} {ts : List Tag} (h : TagS w v ts) (hok : tagsOk ts = true) :
    Calls Tryz.prog 60 #[v] w fun e w' => ∃ v', e = .returned v' ∧ IntO w.heap.size 3 w' v' (tagsBytes ts) ∧ Gr w w' := by
  obtain ⟨p, cap, rfl, hl1, hl2⟩ := h.form
  have HB := Lib.hid (tagsBytes_len hok)
  clear hok
  go_enter Tryz.func60, Tryz.ntmps60
  go_wp2_with fail
  go_loopw [3, 8] (fun s i wr => ∃ (k : Nat) (ys : List Int), k ≤ ts.length ∧ i = .int .i64 k ∧ Hid (ys = tagsBytes (ts.take k)) ∧ Gr w wr ∧ IntO w.heap.size 3 wr s ys) (fun _ i _ => ts.length - (intOf i).toNat)
  case atStart => exact ⟨0, [], Nat.zero_le _, rfl, rfl, Gr.refl _, IntO.nil _ _ _⟩
  case round =>
    obtain ⟨k, ys, hk, rfl, hys, hgr, ho⟩ := hrel
    obtain ⟨po, co, rfl⟩ := ho.len
    by_cases hlt : k < ts.length
    · have hy1 := HB.out k
      have hy2 := HB.out (k+1)
      rw [tagsBytes_step hlt, List.length_append] at hy2
      rw [← hys.out] at hy1 hy2
      have htb : (tagBytes (nthT ts k)).length = 3 + (nthT ts k).2.length := by simp [tagBytes, num2]; omega
      have hb : ys.length + (3 + (nthT ts k).2.length) ≤ 76 := by omega
      clear hy1 hy2 htb
      obtain ⟨a, q, cq, hix, hca0, hcb0, hrow0⟩ := h.ix hlt
      have hca := hgr.cell hca0
      have hcb := hgr.cell hcb0
      go_wp2_with fail
      have hW : Gr wr (wr.alloc (.cells #[.int .i64 (nthT ts k).1, .slice q (nthT ts k).2.length cq] 125)) := gr_alloc _ _
      have hW0 : (wr.alloc (.cells #[.int .i64 (nthT ts k).1, .slice q (nthT ts k).2.length cq] 125)).cell? ⟨wr.heap.size, 0, none⟩ = some (.int .i64 (nthT ts k).1) := by simp
      have hW1 : (wr.alloc (.cells #[.int .i64 (nthT ts k).1, .slice q (nthT ts k).2.length cq] 125)).cell? ⟨wr.heap.size, 1, none⟩ = some (.slice q (nthT ts k).2.length cq) := by simp
      generalize wr.alloc (.cells #[.int .i64 (nthT ts k).1, .slice q (nthT ts k).2.length cq] 125) = W at *
      have hGW := hgr.trans hW
      replace ho := ho.kept hW
      have hrow := hrow0.kept hGW
      clear hca hcb hW hix hca0 hcb0
      go_region_held3 (fun w' => w'.cell? ⟨wr.heap.size, 0, none⟩ = some (.int .i64 (nthT ts k).1) ∧ w'.cell? ⟨wr.heap.size, 1, none⟩ = some (.slice q (nthT ts k).2.length cq)) (first | (exact ⟨hg2.cell hW0, hg2.cell hW1⟩) | (exact ⟨hg2.cell ((gr_alloc _ _).cell hW0), hg2.cell ((gr_alloc _ _).cell hW1)⟩) | (exact ⟨(gr_alloc _ _).cell hW0, (gr_alloc _ _).cell hW1⟩) | (exact ⟨(gr_alloc _ _).cell (hg2.cell hW0), (gr_alloc _ _).cell (hg2.cell hW1)⟩) | (exact ⟨(gr_alloc _ _).cell (hg2.cell ((gr_alloc _ _).cell hW0)), (gr_alloc _ _).cell (hg2.cell ((gr_alloc _ _).cell hW1))⟩) | (exact ⟨(gr_alloc _ _).cell ((gr_alloc _ _).cell (hg2.cell hW0)), (gr_alloc _ _).cell ((gr_alloc _ _).cell (hg2.cell hW1))⟩) | (exact ⟨hg3.cell ((gr_alloc _ _).cell (hg2.cell ((gr_alloc _ _).cell hW0))), hg3.cell ((gr_alloc _ _).cell (hg2.cell ((gr_alloc _ _).cell hW1)))⟩) | (exact ⟨hg3.cell ((gr_alloc _ _).cell ((gr_alloc _ _).cell (hg2.cell hW0))), hg3.cell ((gr_alloc _ _).cell ((gr_alloc _ _).cell (hg2.cell hW1)))⟩) | go_keep) (first | (go_at_call 54; (with_reducible refine (numberBytes_c _ _).mono ?_); rintro e w2 ⟨v2, rfl, ho2, hg2⟩; obtain ⟨p2, c2, rfl⟩ := ho2.len) | (go_at_call 59; (with_reducible refine (Concat_c (IntSS.lit4 (ho.s.kept (((gr_alloc _ _).drew).trans hg2)) ((IntO.one _).s.kept hg2.undrew) ho2.s (hrow.kept (((gr_alloc _ _).drew).trans hg2))) (by simp [total, num2]; omega)).mono ?_); rintro e w3 ⟨v3, rfl, ho3, hg3⟩) | (go_at_call 59; (with_reducible refine (Concat_c (IntSS.lit4' (ho.s.kept (hg2.undrew.alloc _)) (IntO.one _).s (ho2.s.kept (gr_alloc _ _)) (hrow.kept (hg2.undrew.alloc _)) (by simp)) (by simp [total, num2]; omega)).mono ?_); rintro e w3 ⟨v3, rfl, ho3, hg3⟩))
      all_goals
        go_wp2
        go_roundw
        case measure => simp [intOf]; omega
        case rel =>
          have hG3 : Gr W w3 := by first | exact ((((gr_alloc _ _).drew).trans hg2).alloc _).trans hg3 | exact ((hg2.undrew.alloc _).alloc _).trans hg3
          refine ⟨k+1, ys ++ tagBytes (nthT ts k), by omega, by go_num, by rw [Hid, hys.out, tagsBytes_step hlt], hGW.trans hG3, ?_⟩
          have h1 := hGW.szI; have h2 := hg2.szI
          have ho4 := ho3.mono (B' := w.heap.size) (by simp at h2 ⊢; omega)
          simpa [tagBytes] using ho4
    · go_wp2
      go_ret
      have e : ys = tagsBytes ts := by rw [hys.out, List.take_of_length_le (by omega)]
      exact ⟨_, rfl, e ▸ ho, hgr⟩
end Go.Proofs.YtdbepkcpdglppaaGreatDoor
namespace Go.Proofs.YtdbepkcpdglppaaGreatDoor
open Go.RowKit
/-- A slice of bytes. -/
def ByteS (w : World) (v : Value) (bs : List Int) : Prop := Row w 1 v bs.length (bs.map (.int .u8)) ∧ ∀ n ∈ bs, (Lit.int .u8 n).wf = true
theorem ByteS.kept {w w' : World} {v : Value} {bs : List Int} (h : ByteS w v bs) (hg : Gr w w') : ByteS w' v bs := ⟨h.1.kept hg, h.2⟩
theorem ByteS.form {w : World} {v : Value} {bs : List Int} (h : ByteS w v bs) : ∃ p cap, v = .slice p bs.length cap ∧ bs.length ≤ cap ∧ cap ≤ 9223372036854775807 := by
  obtain ⟨⟨_, p, cap, h1, h2, h3, _⟩, _⟩ := h
  exact ⟨p, cap, h1, h2, h3⟩
theorem uB : Tryz.prog.underlying 22 = some (.slice 5) := by kernel_rfl
theorem infoB : ∃ i, Tryz.prog.info? 5 = some i ∧ i.zero = some (.int .u8 0) ∧ i.size = 1 ∧ i.bytes = 1 := info_parts (by kernel_rfl)
theorem ByteS.ixI {w : World} {p : Option Addr} {cap : Nat} {bs : List Int} (h : ByteS w (.slice p bs.length cap) bs) {i : Int} (h0 : 0 ≤ i) (h1 : i < bs.length) :
    ∃ (a : Addr) (c : Int), (∀ w1, (Instr.indexAt 22 (.slice p bs.length cap) (.int .i64 i)).run Tryz.prog w1 = .ok (.pointer (some a)) w1) ∧ w.cell? a = some (.int .u8 c) ∧ 0 ≤ c ∧ c ≤ 255 := by
  obtain ⟨k, rfl⟩ := Int.eq_ofNat_of_zero_le h0
  have hk : k < bs.length := by omega
  obtain ⟨i, g1, _, g3, _⟩ := infoB
  obtain ⟨a, f1, f2⟩ := Row.at h.1 uB g1 g3 hk
  refine ⟨a, bs[k], f1, ?_, ?_⟩
  · have := f2 0 (.int .u8 bs[k]) (by simp [hk])
    rwa [addr_add_zero] at this
  · have := h.2 bs[k] (List.getElem_mem hk)
    have e1 : IntKind.u8.min = 0 := by decide
    have e2 : IntKind.u8.max = 255 := by decide
    simp only [Lit.wf, e1, e2, Bool.and_eq_true, decide_eq_true_eq] at this
    exact this

/-- At block g stands the reader of a code, which has read at most m times. -/
def RdAt (w : World) (g m : Nat) : Prop :=
  ∃ (w0 : World) (v : Value) (bs : List Int) (p : Nat), Gr w0 w ∧ w0.heap.size ≤ g ∧ ByteS w0 v bs ∧ bs.length ≤ 2000 ∧ p ≤ m ∧ w.heap[g]? = some (.cells #[v, .int .i64 p] 97 (0, 0))
theorem RdAt.lt {w : World} {g m : Nat} (h : RdAt w g m) : g < w.heap.size := by
  obtain ⟨_, _, _, _, _, _, _, _, _, h⟩ := h
  exact (Array.getElem?_eq_some_iff.1 h).1
theorem RdAt.kept {w w' : World} {g m : Nat} (h : RdAt w g m) (hg : Gr w w') : RdAt w' g m := by
  have hl := h.lt
  obtain ⟨w0, v, bs, p, h1, h2, h3, h4, h5, h6⟩ := h
  exact ⟨w0, v, bs, p, h1.trans hg, h2, h3, h4, h5, by rw [Below.block hg g hl]; exact h6⟩
theorem RdAt.more {w : World} {g m m' : Nat} (h : RdAt w g m) (hm : m ≤ m') : RdAt w g m' := by
  obtain ⟨w0, v, bs, p, h1, h2, h3, h4, h5, h6⟩ := h
  exact ⟨w0, v, bs, p, h1, h2, h3, h4, by omega, h6⟩
/-- Only block g has turned of the old ones. -/
def D (g : Nat) (w w' : World) : Prop := w.grownBy w' (some g)
theorem D.sz {g : Nat} {a b : World} (h : D g a b) : a.heap.size ≤ b.heap.size := h.size
theorem D.refl (g : Nat) (w : World) : D g w w := World.grownBy.refl w _
theorem D.trans {g : Nat} {a b c : World} (h : D g a b) (k : D g b c) : D g a c :=
  ⟨k.os.trans h.os, k.tape.trans h.tape, k.output.trans h.output, Nat.le_trans h.size k.size, fun i hi hne => (k.block i (Nat.lt_of_lt_of_le hi h.size) hne).trans (h.block i hi hne)⟩
theorem D.ofGr {g : Nat} {a b : World} (h : Gr a b) : D g a b := ⟨h.os, h.tape, h.output, h.size, fun i hi _ => h.block i hi⟩
theorem D.gr {g : Nat} {a b c : World} (h : D g b c) (hg : Gr a b) (hB : a.heap.size ≤ g) : Gr a c :=
  Below.trans hg ⟨h.os, h.tape, h.output, h.size, fun k hk => h.block k (Nat.lt_of_lt_of_le hk hg.size) (by simp; omega)⟩
theorem D.ofBelow {g : Nat} {a b : World} (h : D g a b) (k : Nat) (hk : k < a.heap.size) (hne : k ≠ g) : b.heap[k]? = a.heap[k]? := h.block k hk (by simpa using hne)
theorem Own.keptD {B e sz g : Nat} {w w' : World} {v : Value} {n : Nat} {cs : List Value} (h : Own B e sz w v n cs) (hd : D g w w') (hB : g < B) : Own B e sz w' v n cs :=
  h.keptOf fun k hk hl => hd.block k hl (by simp; omega)
theorem IntO.keptD {B e g : Nat} {w w' : World} {v : Value} {xs : List Int} (h : IntO B e w v xs) (hd : D g w w') (hB : g < B) : IntO B e w' v xs := Own.keptD h hd hB
theorem fA0 (g : Nat) : (⟨g, 0, none⟩ : Addr).add 0 = ⟨g, 0, none⟩ := rfl
/-- The code may be as long as it likes. -/
theorem l6Open_c {w : World} {v : Value} {bs : List Int} (h : ByteS w v bs) :
    Calls Tryz.prog 31 #[v] w fun e w' => e = .returned (.pointer (some ⟨w.heap.size, 0, none⟩)) ∧ RdAt w' w.heap.size 0 ∧ Gr w w' := by
  obtain ⟨p, cap, rfl, hl1, hl2⟩ := h.form
  by_cases hn : bs.length ≤ 2000
  · have hn' : (decide (2000 < (bs.length : Int))) = false := by simp; omega
    go_enter Tryz.func31, Tryz.ntmps31
    go_wp2
    go_ret
    exact ⟨rfl, ⟨w, _, bs, 0, gr_alloc w _, Nat.le_refl _, h, hn, Nat.le_refl _, heap_alloc_new w _⟩, gr_alloc w _⟩
  · have hn' : (decide (2000 < (bs.length : Int))) = true := by simp; omega
    obtain ⟨i, g1, _, g3, _⟩ := infoB
    obtain ⟨v', hsl, hrow⟩ := Row.cut h.1 uB g1 g3 (Nat.zero_le 2000) (show 2000 ≤ bs.length by omega)
    have hbs : ByteS w v' (bs.take 2000) := by
      refine ⟨?_, fun n hn => h.2 n (List.mem_of_mem_take hn)⟩
      rw [List.length_take, show min 2000 bs.length = 2000 by omega, List.map_take]
      simpa using hrow
    have hsl' : ∀ w1, (Instr.slice 22 (.slice p bs.length cap) none (some (.int .i64 2000)) none).run Tryz.prog w1 = .ok v' w1 := by
      intro w1
      rw [← hsl w1]
      simp [Instr.slice, run_underlying uB, Instr.sliceBounds, Instr.sliceBound, asIntOf, sizeOf, typeInfo, g1]
    obtain ⟨p', cap', hv', hl1', hl2'⟩ := hbs.form
    subst hv'
    go_enter Tryz.func31, Tryz.ntmps31
    go_wp2
    go_ret
    exact ⟨rfl, ⟨w, _, bs.take 2000, 0, gr_alloc w _, Nat.le_refl _, hbs, by rw [List.length_take]; omega, Nat.le_refl _, by rw [List.length_take]; exact heap_alloc_new w _⟩, gr_alloc w _⟩
theorem xor_nonneg (a b : Int) (ha : 0 ≤ a) (ha' : a < 9223372036854775808) (hb : 0 ≤ b) (hb' : b < 9223372036854775808) : 0 ≤ bits .xor .i64 a b ∧ bits .xor .i64 a b ≤ 9223372036854775807 := by
  obtain ⟨x, rfl⟩ := Int.eq_ofNat_of_zero_le ha
  obtain ⟨y, rfl⟩ := Int.eq_ofNat_of_zero_le hb
  have hx : x < 2 ^ 63 := by omega
  have hy : y < 2 ^ 63 := by omega
  have hxy : x ^^^ y < 2 ^ 63 := Nat.xor_lt_two_pow hx hy
  have key : (BitVec.ofInt 64 (x : Int) ^^^ BitVec.ofInt 64 (y : Int)).toNat = x ^^^ y := by
    rw [BitVec.toNat_xor, BitVec.toNat_ofInt, BitVec.toNat_ofInt]
    congr 1 <;> omega
  show 0 ≤ IntKind.i64.wrap ((BitVec.ofInt 64 (x : Int) ^^^ BitVec.ofInt 64 (y : Int)).toNat : Nat) ∧ IntKind.i64.wrap ((BitVec.ofInt 64 (x : Int) ^^^ BitVec.ofInt 64 (y : Int)).toNat : Nat) ≤ 9223372036854775807
  rw [key, IntKind.wrap_i64]
  omega

theorem heap_set {w : World} {g j : Nat} {cs : Array Value} {t : TypeId} {x : Value} (h : w.heap[g]? = some (.cells cs t (0, 0))) : (w.setCell ⟨g, j, none⟩ x).heap[g]? = some (.cells (cs.setIfInBounds j x) t (0, 0)) :=
  heap_setCell_same w g j cs t x h
theorem D.set {g : Nat} {a b : World} (h : D g a b) (j : Nat) (x : Value) : D g a (b.setCell ⟨g, j, none⟩ x) :=
  ⟨h.os, h.tape, h.output, by simpa [World.setCell] using h.size, fun k hk hne => by rw [Below.heap_setCell _ _ _ _ (by simpa using hne)]; exact h.block k hk hne⟩
/-- A draw: a number from 0 to n-1. -/
def Picked (n : Int) (g m : Nat) (w : World) (e : Ending) (w' : World) : Prop := ∃ r : Int, e = .returned (.int .i64 r) ∧ 0 ≤ r ∧ r < n ∧ RdAt w' g (m + 1) ∧ D g w w'
set_option maxHeartbeats 1000000 in
theorem pick_c {w : World} {g m : Nat} (h : RdAt w g m) (hm : m ≤ 1000000) (n : Int) (hn : 1 ≤ n) (hn' : n ≤ 1000000) :
    Calls Tryz.prog 66 #[.pointer (some ⟨g, 0, none⟩), .int .i64 n] w (Picked n g m w) := by
  obtain ⟨w0, v, bs, p, h1, h2, h3, h4, h5, h6⟩ := h
  obtain ⟨q, cap, rfl, hl1, hl2⟩ := h3.form
  have hc0 : w.cell? ⟨g, 0, none⟩ = some (.slice q bs.length cap) := by simp [World.cell?, h6]
  have hc1 : w.cell? ⟨g, 1, none⟩ = some (.int .i64 p) := by simp [World.cell?, h6]
  have hf1 : w.frozen? ⟨g, 1, none⟩ = false := by simp [World.frozen?, h6]
  have hr : RdAt (w.setCell ⟨g, 1, none⟩ (.int .i64 ((p : Int) + 1))) g (m + 1) :=
    ⟨w0, _, bs, p + 1, (D.set (D.refl g w) 1 _).gr h1 h2, h2, h3, h4, by omega, heap_set h6⟩
  have hd : D g w (w.setCell ⟨g, 1, none⟩ (.int .i64 ((p : Int) + 1))) := D.set (D.refl g w) 1 _
  have hg : Gr w0 (w.setCell ⟨g, 1, none⟩ (.int .i64 ((p : Int) + 1))) := hd.gr h1 h2
  have hp : p ≤ 1000000 := by omega
  clear h6 h1
  by_cases hz : bs.length = 0
  · have hz' : ((bs.length : Int) == 0) = true := by simp; exact List.eq_nil_of_length_eq_zero hz
    have HZ := Lib.hid hz; clear hz
    go_enter Tryz.func66, Tryz.ntmps66
    go_wp2
    go_ret
    exact ⟨0, rfl, by omega, by omega, hr, hd⟩
  · have hz' : ((bs.length : Int) == 0) = false := by simp; intro e; simp [e] at hz
    by_cases hk : p < bs.length
    · obtain ⟨a, c, hix, hca, hc3, hc4⟩ := h3.ixI (i := (p : Int)) (by omega) (by omega)
      have hcc := hg.cell hca
      go_enter Tryz.func66, Tryz.ntmps66
      go_wp2
      go_ret
      exact ⟨c % n, rfl, Int.emod_nonneg _ (by omega), Int.emod_lt_of_pos _ (by omega), hr, hd⟩
    · have hlpos : (1 : Int) ≤ (bs.length : Int) := by omega
      have hi1a : (0 : Int) ≤ (p : Int) % (bs.length : Int) := Int.emod_nonneg _ (by omega)
      have hi1b : (p : Int) % (bs.length : Int) < (bs.length : Int) := Int.emod_lt_of_pos _ (by omega)
      have hi2a : (0 : Int) ≤ ((p : Int) * 7 + 3) % (bs.length : Int) := Int.emod_nonneg _ (by omega)
      have hi2b : ((p : Int) * 7 + 3) % (bs.length : Int) < (bs.length : Int) := Int.emod_lt_of_pos _ (by omega)
      have hq0 : 0 ≤ (p : Int) / (bs.length : Int) := Int.ediv_nonneg (by omega) (by omega)
      have hq1 : (p : Int) / (bs.length : Int) ≤ 1000000 := Int.le_trans (Int.ediv_le_self _ (by omega)) (by omega)
      obtain ⟨a, c, hix, hca, hc3, hc4⟩ := h3.ixI hi1a hi1b
      obtain ⟨b, d, hjx, hcb, hd3, hd4⟩ := h3.ixI hi2a hi2b
      have hcc := hg.cell hca
      have hcd := hg.cell hcb
      have hpk : (bs.length : Int) ≤ (p : Int) := by omega
      clear hk hca hcb
      go_enter Tryz.func66, Tryz.ntmps66
      go_wp2_with fail
      go_quiet (fail)
      generalize hX : c * 131 + d * 1117 + (p : Int) * 29 + (p : Int) / (bs.length : Int) * 53 = X at *
      have hX0 : 0 ≤ X := by omega
      have hX1 : X ≤ 1000000000 := by omega
      have HX := Lib.hid hX; clear hX
      have hxr := xor_nonneg X (X / 64) hX0 (by omega) (by omega) (by omega)
      go_wp2
      go_ret
      exact ⟨_, rfl, Int.emod_nonneg _ (by omega), Int.emod_lt_of_pos _ (by omega), hr.kept (gr_drewN _ _), hd.trans (D.ofGr (gr_drewN _ _))⟩
end Go.Proofs.YtdbepkcpdglppaaGreatDoor
namespace Go.Proofs.YtdbepkcpdglppaaGreatDoor
open Go.RowKit
theorem RdAt.alloc {w : World} {g m : Nat} (h : RdAt w g m) (o : Obj) : RdAt (w.alloc o) g m := h.kept (gr_alloc w o)
theorem D.alloc {g : Nat} {a b : World} (h : D g a b) (o : Obj) : D g a (b.alloc o) := h.trans (D.ofGr (gr_alloc b o))
theorem D.thenB {g : Nat} {a b c : World} (h : D g a b) (k : Below a.heap.size b c) : D g a c :=
  ⟨k.os.trans h.os, k.tape.trans h.tape, k.output.trans h.output, Nat.le_trans h.size k.size, fun i hi hne => (k.block i hi).trans (h.block i hi hne)⟩
theorem D.cell {g : Nat} {a b : World} (h : D g a b) {p : Addr} {v : Value} (hc : a.cell? p = some v) (hp : p.block ≠ g) : b.cell? p = some v := World.grownBy.cell h hc (by simpa using hp)
theorem RdAt.keptB {w w' : World} {g m B : Nat} (h : RdAt w g m) (hb : Below B w w') (hg : g < B) : RdAt w' g m := by
  obtain ⟨w0, v, bs, p, h1, h2, h3, h4, h5, h6⟩ := h
  exact ⟨w0, v, bs, p, Below.trans h1 (hb.mono (by omega)), h2, h3, h4, h5, by rw [hb.block g hg]; exact h6⟩
/-- Drawn bytes: some ints in new memory. -/
def DrewI (most g m : Nat) (w : World) (e : Ending) (w' : World) : Prop := ∃ v xs, e = .returned v ∧ xs.length ≤ most ∧ IntO w.heap.size 3 w' v xs ∧ RdAt w' g (m + 3 * most + 4) ∧ D g w w'
set_option maxHeartbeats 1000000 in
theorem l91Bytes_c {w : World} {g m : Nat} (h : RdAt w g m) (hm : m ≤ 100000) (most : Nat) (mi : Int) (he : mi = (most : Int)) (hn : most ≤ 1000) :
    Calls Tryz.prog 109 #[.pointer (some ⟨g, 0, none⟩), .int .i64 mi] w (DrewI most g m w) := by
  subst he
  have hlt := h.lt
  have hmt := IntO.mt w
  have hd0 : D g w (w.alloc (.cells #[] 3)) := D.ofGr (gr_alloc w _)
  go_enter Tryz.func109, Tryz.ntmps109
  go_wp2_with fail
  (with_reducible refine (pick_c (h.alloc _) (by omega) _ (by omega) (by omega)).mono ?_); rintro e w1 ⟨n, rfl, hn0, hn1, hr1, hd1⟩
  have hmt1 := hmt.keptD hd1 hlt
  have hD1 := hd0.trans hd1
  clear hmt hd0 hd1 h
  obtain ⟨n, rfl⟩ := Int.eq_ofNat_of_zero_le hn0
  go_wp2_with fail
  go_loopw [5, 7] (fun s i wr => ∃ (k : Nat) (ys : List Int), k ≤ n ∧ i = .int .i64 k ∧ ys.length = k ∧ D g w wr ∧ RdAt wr g (m + 1 + 3 * k) ∧ IntO w.heap.size 3 wr s ys) (fun _ i _ => n - (intOf i).toNat)
  case atStart => exact ⟨0, [], by omega, rfl, rfl, hD1, hr1, hmt1⟩
  case round =>
    obtain ⟨k, ys, hk, rfl, hyl, hD, hr, ho⟩ := hrel
    have HYL := Lib.hid hyl; clear hyl
    by_cases hlt' : k < n
    · go_wp2_with fail
      (with_reducible refine (pick_c hr (by omega) _ (by omega) (by omega)).mono ?_); rintro e w2 ⟨a, rfl, ha0, ha1, hr2, hd2⟩
      go_wp2_with fail
      (with_reducible refine (pick_c hr2 (by omega) _ (by omega) (by omega)).mono ?_); rintro e w3 ⟨b, rfl, hb0, hb1, hr3, hd3⟩
      go_wp2_with fail
      (with_reducible refine (pick_c (hr3.alloc _) (by omega) _ (by omega) (by omega)).mono ?_); rintro e w4 ⟨c, rfl, hc0, hc1, hr4, hd4⟩
      have hs3 : g < w3.heap.size := hr3.lt
      have hx0 : w4.cell? ⟨w3.heap.size, 0, none⟩ = some (.int .i64 a) := hd4.cell (by simp) (by simp; omega)
      have hx1 : w4.cell? ⟨w3.heap.size, 1, none⟩ = some (.int .i64 b) := hd4.cell (by simp) (by simp; omega)
      have hD4 := ((hD.trans hd2).trans hd3).trans ((D.ofGr (gr_alloc _ _)).trans hd4)
      have ho4 := (((ho.keptD hd2 hlt).keptD hd3 hlt).kept (gr_alloc _ (.cells #[.int .i64 a, .int .i64 b] 3))).keptD hd4 hlt
      have hs4 := hD4.sz
      have hyl : ys.length ≤ 1000 := by have := HYL.out; omega
      clear hD hd2 hd3 hd4 ho hr hr2 hr3
      obtain rfl | rfl : c = 0 ∨ c = 1 := by omega
      all_goals
        go_wp2_with (at_builtin; refine wpl_appI rfl (.tmp 18) (.tmp 28) rfl rfl (ho4.kept (gr_alloc _ _)) rfl (IntO.one _).s (by simp; omega) (by simp; omega) ?_; intro v5 w5 ho5 hg5; have hD5 : D g w w5 := (hD4.alloc _).thenB hg5; have hr5 := (hr4.alloc _).keptB hg5 hlt)
        go_roundw
        case measure => simp [intOf]; omega
        case rel => exact ⟨k+1, _, by omega, by go_num, by have := HYL.out; simp; omega, hD5, hr5.more (by omega), ho5⟩
    · obtain rfl : k = n := by omega
      by_cases hz : k = 0
      · subst hz
        go_wp2
        go_ret
        exact ⟨_, ys, rfl, by have := HYL.out; omega, ho, hr.more (by omega), hD⟩
      · have hz' : (0 : Int) < (k : Int) := by omega
        go_wp2_with fail
        (with_reducible refine (pick_c hr (by omega) _ (by omega) (by omega)).mono ?_); rintro e w2 ⟨a, rfl, ha0, ha1, hr2, hd2⟩
        have hD2 := hD.trans hd2
        have ho2 := ho.keptD hd2 hlt
        clear ho hD hr hd2
        by_cases hx : a = 0
        · subst hx
          go_wp2_with fail
          (with_reducible refine (pick_c hr2 (by omega) _ (by omega) (by omega)).mono ?_); rintro e w3 ⟨j, rfl, hj0, hj1, hr3, hd3⟩
          obtain ⟨j, rfl⟩ := Int.eq_ofNat_of_zero_le hj0
          go_wp2_with fail
          (with_reducible refine (pick_c (hr3.alloc _) (by omega) _ (by omega) (by omega)).mono ?_); rintro e w4 ⟨c, rfl, hc0, hc1, hr4, hd4⟩
          have hs3 : g < w3.heap.size := hr3.lt
          have hx0 : w4.cell? ⟨w3.heap.size, 0, none⟩ = some (.int .i64 (-1)) := hd4.cell (by simp) (by simp; omega)
          have hx1 : w4.cell? ⟨w3.heap.size, 1, none⟩ = some (.int .i64 256) := hd4.cell (by simp) (by simp; omega)
          have ho4 := ((ho2.keptD hd3 hlt).kept (gr_alloc _ (.cells #[.int .i64 (-1), .int .i64 256] 3))).keptD hd4 hlt
          have hD4 := (hD2.trans hd3).trans ((D.ofGr (gr_alloc _ _)).trans hd4)
          obtain ⟨b, hjx, hb1, hb2, hcb, hfb, hob, hset⟩ := ho4.ix (show j < ys.length by have := HYL.out; omega)
          have HOB := Lib.hid hob
          clear hob hd3 hd4 hD2 ho2 hr2 hr3
          obtain rfl | rfl : c = 0 ∨ c = 1 := by omega
          all_goals
            go_wp2
            go_ret
            exact ⟨_, _, rfl, by rw [List.length_set]; have := HYL.out; omega, hset _, (hr4.keptB (Below.setCell (Below.refl _ _) hb1 _) hlt).more (by omega), hD4.thenB (Below.setCell (Below.refl _ _) hb1 _)⟩
        · have hx' : (a == 0) = false := by simpa using hx
          clear hx
          go_wp2
          go_ret
          exact ⟨_, ys, rfl, by have := HYL.out; omega, ho2, hr2.more (by omega), hD2⟩
end Go.Proofs.YtdbepkcpdglppaaGreatDoor
namespace Go.Proofs.YtdbepkcpdglppaaGreatDoor
open Go.RowKit
def tagCells (ts : List Tag) (ds : List Value) : List Value := ((List.range ts.length).map fun k => [Value.int .i64 (nthT ts k).1, nthV ds k]).flatten
theorem tagCells_snoc {ts : List Tag} {ds : List Value} (h : ds.length = ts.length) (t : Tag) (d : Value) : tagCells (ts ++ [t]) (ds ++ [d]) = tagCells ts ds ++ [.int .i64 t.1, d] := by
  unfold tagCells
  rw [List.length_append, List.length_singleton, List.range_succ, List.map_append, List.flatten_append]
  congr 1
  · congr 1
    apply List.map_congr_left
    intro k hk
    have hk' : k < ts.length := by simpa using hk
    simp [nthT, nthV, List.getElem?_append_left hk', List.getElem?_append_left (show k < ds.length by omega)]
  · simp [nthT, nthV, ← h]
theorem tagCells_len (ts : List Tag) (ds : List Value) : (tagCells ts ds).length = ts.length * 2 := by
  unfold tagCells; rw [flat_len (sz := 2) (by simp)]; simp
theorem nthV_snoc_lt {ds : List Value} {k : Nat} (h : k < ds.length) (d : Value) : nthV (ds ++ [d]) k = nthV ds k := by simp [nthV, List.getElem?_append_left h]
theorem nthV_snoc_eq (ds : List Value) (d : Value) : nthV (ds ++ [d]) ds.length = d := by simp [nthV]
theorem nthT_snoc_lt {ts : List Tag} {k : Nat} (h : k < ts.length) (t : Tag) : nthT (ts ++ [t]) k = nthT ts k := by simp [nthT, List.getElem?_append_left h]
theorem nthT_snoc_eq (ts : List Tag) (t : Tag) : nthT (ts ++ [t]) ts.length = t := by simp [nthT]

/-- Tags in the blocks from B up to T, each row in a block of its own. -/
def TagO (B T : Nat) (w : World) (v : Value) (ts : List Tag) : Prop :=
  ∃ ds : List Value, ds.length = ts.length ∧ OwnB B T 125 2 w v ts.length (tagCells ts ds) ∧ (∀ k, k < ts.length → IntB B T 3 w (nthV ds k) (nthT ts k).2) ∧
    (∀ k, k < ts.length → ∀ b, (nthV ds k).ownBlock = some b → v.ownBlock ≠ some b) ∧ (∀ i j, i < j → j < ts.length → ∀ b, (nthV ds i).ownBlock = some b → (nthV ds j).ownBlock ≠ some b)
theorem TagO.s {B T : Nat} {w : World} {v : Value} {ts : List Tag} (h : TagO B T w v ts) : TagS w v ts := by
  obtain ⟨ds, h0, h1, h2, _⟩ := h
  exact ⟨ds, h0, h1.1.row, fun k hk => (h2 k hk).s⟩
theorem TagO.kept {B T : Nat} {w w' : World} {v : Value} {ts : List Tag} (h : TagO B T w v ts) (hg : Gr w w') : TagO B T w' v ts := by
  obtain ⟨ds, h0, h1, h2, h3, h4⟩ := h
  exact ⟨ds, h0, h1.kept hg, fun k hk => (h2 k hk).kept hg, h3, h4⟩
theorem OwnB.keptD {B T e sz g : Nat} {w w' : World} {v : Value} {n : Nat} {cs : List Value} (h : OwnB B T e sz w v n cs) (hd : D g w w') (hB : g < B) : OwnB B T e sz w' v n cs := ⟨h.1.keptD hd hB, h.2⟩
theorem TagO.keptD {B T g : Nat} {w w' : World} {v : Value} {ts : List Tag} (h : TagO B T w v ts) (hd : D g w w') (hB : g < B) : TagO B T w' v ts := by
  obtain ⟨ds, h0, h1, h2, h3, h4⟩ := h
  exact ⟨ds, h0, h1.keptD hd hB, fun k hk => OwnB.keptD (h2 k hk) hd hB, h3, h4⟩
theorem TagO.chg {B T B' T' : Nat} {w w' : World} {v : Value} {ts : List Tag} (h : TagO B T w v ts) (hc : Chg B' T' w w') (hd : T ≤ B' ∨ T' ≤ B) : TagO B T w' v ts := by
  obtain ⟨ds, h0, h1, h2, h3, h4⟩ := h
  exact ⟨ds, h0, h1.chg hc hd, fun k hk => (h2 k hk).chg hc hd, h3, h4⟩
theorem TagO.wide {B T B' T' : Nat} {w : World} {v : Value} {ts : List Tag} (h : TagO B T w v ts) (h1 : B' ≤ B) (h2 : T ≤ T') : TagO B' T' w v ts := by
  obtain ⟨ds, h0, k1, k2, h3, h4⟩ := h
  exact ⟨ds, h0, k1.wide h1 h2, fun k hk => (k2 k hk).wide h1 h2, h3, h4⟩
theorem TagO.form {B T : Nat} {w : World} {v : Value} {ts : List Tag} (h : TagO B T w v ts) : ∃ p cap, v = .slice p ts.length cap := by
  obtain ⟨p, cap, h1, _⟩ := h.s.form; exact ⟨p, cap, h1⟩
theorem TagO.nil (B T : Nat) (w : World) : TagO B T w (.slice none 0 0) [] := ⟨[], rfl, ⟨World.ownsRow_nil w B _ 2, by simp [Value.ownBlock]⟩, by simp, by simp, by simp⟩
theorem TagO.mt (w : World) : TagO w.heap.size (w.heap.size + 1) (w.alloc (.cells #[] 125)) (.slice (some ⟨w.heap.size, 0, none⟩) 0 0) [] :=
  ⟨[], rfl, ⟨Own.lit w #[] 0 (Nat.le_refl _) (by decide) rfl, by simp [Value.ownBlock]⟩, by simp, by simp, by simp⟩
/-- append of a new tag. -/
theorem TagO.append {B T : Nat} {w : World} {v : Value} {ts : List Tag} (h : TagO B T w v ts) (hT : T ≤ w.heap.size) (hBT : B ≤ T) {x d : Value} {n : Int} {xs : List Int}
    (hx : Row w 2 x 1 [.int .i64 n, d]) (hd : IntO T 3 w d xs) (hn : ts.length ≤ 1000000) (ty : Nat) :
    ∃ v' w', (Builtin.append_ #[43, 43] ty #[v, x]).run Tryz.prog w = .ok v' w' ∧ TagO B w'.heap.size w' v' (ts ++ [(n, xs)]) ∧ Below B w w' := by
  obtain ⟨i, hi, hz, hs, hby⟩ := infoT
  obtain ⟨ds, h0, h1, h2, h3, h4⟩ := h
  obtain ⟨hl, p, cap, rfl, c1, c2, c3, c4⟩ := hx
  cases p with
  | none => have := c3 rfl; omega
  | some a =>
    have hone : ∀ u ∈ [Value.int .i64 n, d], u.oneCell' = true := by
      obtain ⟨pd, cd, rfl⟩ := hd.len
      simp [Value.oneCell']
    obtain ⟨v', w', hr, q1, q2, _, q4⟩ := run_append_own_at (P := Tryz.prog) w B 43 ty 125 i _ 2 32 uT hi hz hs hby rfl (by decide) v ts.length (tagCells ts ds) h1.1 a 1 cap [.int .i64 n, d] rfl (c4 a rfl) hone (by unfold maxLen; omega) (by omega) (by omega)
    have hb : Below B w w' := (Below.refl B w).grown q2 (by omega) (fun k hk => (h1.1.blk k hk).1)
    have hvT : ∀ b, v.ownBlock = some b → b < T := h1.2
    have hsz : w.heap.size ≤ w'.heap.size := q2.size
    have keepI : ∀ (u : Value) (ys : List Int) (B' T' : Nat), IntB B' T' 3 w u ys → (∀ b, u.ownBlock = some b → v.ownBlock ≠ some b) → IntB B' T' 3 w' u ys := by
      intro u ys B' T' hu hne
      refine ⟨World.ownsRow.kept hu.1 q2 ?_, hu.2⟩
      cases hub : u.ownBlock with
      | none => exact .inl rfl
      | some b => exact .inr fun e => hne b hub e.symm
    have hdv : ∀ b, d.ownBlock = some b → v.ownBlock ≠ some b := fun b hb1 hb2 => by have := hvT b hb2; have := (hd.blk b hb1).1; omega
    have hv' : ∀ b, v'.ownBlock = some b → v.ownBlock = some b ∨ b = w.heap.size := by
      intro b hb1
      rcases q4 with q4 | q4
      · exact .inl (by rw [← q4]; exact hb1)
      · rw [q4] at hb1; exact .inr (Option.some.inj hb1).symm
    refine ⟨v', w', hr, ⟨ds ++ [d], by simp [h0], ?_, ?_, ?_, ?_⟩, hb⟩
    · rw [tagCells_snoc h0, List.length_append]
      exact Own.b q1
    · intro k hk
      by_cases hk' : k < ts.length
      · rw [nthV_snoc_lt (by omega), nthT_snoc_lt hk']
        exact (keepI _ _ _ _ (h2 k hk') (h3 k hk')).wide (Nat.le_refl _) (by omega)
      · obtain rfl : k = ts.length := by simp at hk; omega
        rw [nthT_snoc_eq, show nthV (ds ++ [d]) ts.length = d by rw [← h0]; exact nthV_snoc_eq ds d]
        exact (keepI _ _ _ _ hd.b hdv).wide (by omega) (by omega)
    · intro k hk b hb1 hb2
      by_cases hk' : k < ts.length
      · rw [nthV_snoc_lt (by omega)] at hb1
        rcases hv' b hb2 with e | e
        · exact h3 k hk' b hb1 e
        · have := (h2 k hk').2 b hb1; omega
      · obtain rfl : k = ts.length := by simp at hk; omega
        rw [show nthV (ds ++ [d]) ts.length = d by rw [← h0]; exact nthV_snoc_eq ds d] at hb1
        rcases hv' b hb2 with e | e
        · exact hdv b hb1 e
        · have := (hd.blk b hb1).2; omega
    · intro i j hij hj b hb1 hb2
      rw [nthV_snoc_lt (by simp at hj; omega)] at hb1
      by_cases hj' : j < ts.length
      · rw [nthV_snoc_lt (by omega)] at hb2
        exact h4 i j hij hj' b hb1 hb2
      · obtain rfl : j = ts.length := by simp at hj; omega
        rw [show nthV (ds ++ [d]) ts.length = d by rw [← h0]; exact nthV_snoc_eq ds d] at hb2
        have := (h2 i (by omega)).2 b hb1
        have := (hd.blk b hb2).1
        omega
end Go.Proofs.YtdbepkcpdglppaaGreatDoor
namespace Go.Proofs.YtdbepkcpdglppaaGreatDoor
open Go.RowKit
theorem tagCells_get {ts : List Tag} {ds : List Value} {k : Nat} (hk : k < ts.length) : (tagCells ts ds)[k * 2]? = some (.int .i64 (nthT ts k).1) ∧ (tagCells ts ds)[k * 2 + 1]? = some (nthV ds k) := by
  have hc : ((List.range ts.length).map fun k => [Value.int .i64 (nthT ts k).1, nthV ds k])[k]? = some [Value.int .i64 (nthT ts k).1, nthV ds k] := by simp [hk]
  have hl : ∀ c ∈ ((List.range ts.length).map fun k => [Value.int .i64 (nthT ts k).1, nthV ds k]), c.length = 2 := by simp
  constructor
  · have := flat_get hl hc 0 (by decide)
    exact this
  · have := flat_get hl hc 1 (by decide)
    exact this
theorem list_ext2 {xs ys : List Value} {n : Nat} (hx : xs.length = n * 2) (hy : ys.length = n * 2) (h : ∀ k, k < n → xs[k * 2]? = ys[k * 2]? ∧ xs[k * 2 + 1]? = ys[k * 2 + 1]?) : xs = ys := by
  apply List.ext_getElem?
  intro i
  by_cases hi : i < n * 2
  · have hk := h (i / 2) (by omega)
    rcases Nat.mod_two_eq_zero_or_one i with e | e
    · rw [show i = i / 2 * 2 by omega]; exact hk.1
    · rw [show i = i / 2 * 2 + 1 by omega]; exact hk.2
  · rw [List.getElem?_eq_none (by omega), List.getElem?_eq_none (by omega)]
theorem nthT_set {ts : List Tag} {k : Nat} (hk : k < ts.length) (t : Tag) (j : Nat) : nthT (ts.set k t) j = if j = k then t else nthT ts j := by
  by_cases e : j = k
  · subst e; simp [nthT, hk]
  · simp only [if_neg e, nthT, List.getD_eq_getElem?_getD]; rw [List.getElem?_set_ne (by omega)]
theorem nthV_set {ds : List Value} {k : Nat} (hk : k < ds.length) (d : Value) (j : Nat) : nthV (ds.set k d) j = if j = k then d else nthV ds j := by
  by_cases e : j = k
  · subst e; simp [nthV, hk]
  · simp only [if_neg e, nthV, List.getD_eq_getElem?_getD]; rw [List.getElem?_set_ne (by omega)]
theorem tagCells_setD {ts : List Tag} {ds : List Value} {k : Nat} (h0 : ds.length = ts.length) (hk : k < ts.length) (d : Value) (xs : List Int) :
    (tagCells ts ds).set (k * 2 + 1) d = tagCells (ts.set k ((nthT ts k).1, xs)) (ds.set k d) := by
  refine list_ext2 (n := ts.length) (by rw [List.length_set, tagCells_len]) (by rw [tagCells_len, List.length_set]) fun j hj => ?_
  have hg := tagCells_get (ds := ds) hj
  have hg' := tagCells_get (ts := ts.set k ((nthT ts k).1, xs)) (ds := ds.set k d) (k := j) (by simpa using hj)
  rw [hg'.1, hg'.2, nthT_set hk, nthV_set (by omega)]
  by_cases e : j = k
  · subst e
    refine ⟨?_, ?_⟩
    · rw [List.getElem?_set_ne (by omega), hg.1]; simp
    · rw [List.getElem?_set_self (by rw [tagCells_len]; omega)]; simp
  · refine ⟨?_, ?_⟩
    · rw [List.getElem?_set_ne (by omega), hg.1]; simp [e]
    · rw [List.getElem?_set_ne (by omega), hg.2]; simp [e]
theorem grown_set1 (w : World) (p : Addr) (x : Value) : w.grownBy (w.setCell p x) (some p.block) :=
  ⟨rfl, rfl, rfl, by simp [World.setCell], fun k _ hne => Below.heap_setCell _ _ _ _ (fun e => hne (by rw [e]))⟩
/-- The data of a tag, written anew. -/
theorem TagO.setData {B T : Nat} {w : World} {v : Value} {ts : List Tag} (h : TagO B T w v ts) (hT : T ≤ w.heap.size) (hBT : B ≤ T) {k : Nat} (hk : k < ts.length) :
    ∃ (a : Addr) (d0 : Value), (∀ w1, (Instr.indexAt 43 v (.int .i64 (k : Int))).run Tryz.prog w1 = .ok (.pointer (some a)) w1) ∧ B ≤ a.block ∧ w.cell? ⟨a.block, a.off + 1, none⟩ = some d0 ∧ w.frozen? ⟨a.block, a.off + 1, none⟩ = false ∧
      ∀ d xs, IntO T 3 w d xs → TagO B w.heap.size (w.setCell ⟨a.block, a.off + 1, none⟩ d) v (ts.set k ((nthT ts k).1, xs)) := by
  obtain ⟨i, hi, _, hs, _⟩ := infoT
  obtain ⟨ds, h0, h1, h2, h3, h4⟩ := h
  obtain ⟨a, f1, f2, f3, f4, f5, f6, f7⟩ := Own.at h1.1 uT hi hs hk
  have hbv := h1.2 a.block f7
  refine ⟨a, _, f1, f2, f4 1 _ (tagCells_get hk).2, f5 1, fun d xs hd => ?_⟩
  have hset := f6 1 d
  have hgw : w.grownBy (w.setCell ⟨a.block, a.off + 1, none⟩ d) (some a.block) := grown_set1 w _ d
  have keepI : ∀ (u : Value) (ys : List Int) (B' T' : Nat), IntB B' T' 3 w u ys → (∀ b, u.ownBlock = some b → v.ownBlock ≠ some b) → IntB B' T' 3 (w.setCell ⟨a.block, a.off + 1, none⟩ d) u ys := by
    intro u ys B' T' hu hne
    refine ⟨World.ownsRow.kept hu.1 hgw ?_, hu.2⟩
    cases hub : u.ownBlock with
    | none => exact .inl rfl
    | some b => exact .inr fun e => hne b hub (by rw [f7, e])
  have hdv : ∀ b, d.ownBlock = some b → v.ownBlock ≠ some b := fun b hb1 hb2 => by have := h1.2 b hb2; have := (hd.blk b hb1).1; omega
  refine ⟨ds.set k d, by simp [h0], ?_, ?_, ?_, ?_⟩
  · rw [List.length_set, ← tagCells_setD h0 hk]
    exact ⟨hset, fun b hb => by have := h1.2 b hb; omega⟩
  · intro j hj
    rw [List.length_set] at hj
    rw [nthV_set (by omega), nthT_set hk]
    by_cases e : j = k
    · rw [if_pos e, if_pos e]; exact (keepI _ _ _ _ hd.b hdv).wide (by omega) (Nat.le_refl _)
    · rw [if_neg e, if_neg e]; exact (keepI _ _ _ _ (h2 j hj) (h3 j hj)).wide (Nat.le_refl _) (by omega)
  · intro j hj b hb
    rw [List.length_set] at hj
    rw [nthV_set (by omega)] at hb
    by_cases e : j = k
    · rw [if_pos e] at hb; exact hdv b hb
    · rw [if_neg e] at hb; exact h3 j hj b hb
  · intro i' j hij hj b hb1 hb2
    rw [List.length_set] at hj
    rw [nthV_set (by omega)] at hb1 hb2
    by_cases e1 : i' = k
    · rw [if_pos e1] at hb1
      rw [if_neg (by omega)] at hb2
      have := (h2 j hj).2 b hb2; have := (hd.blk b hb1).1; omega
    · rw [if_neg e1] at hb1
      by_cases e2 : j = k
      · rw [if_pos e2] at hb2
        have := (h2 i' (by omega)).2 b hb1; have := (hd.blk b hb2).1; omega
      · rw [if_neg e2] at hb2
        exact h4 i' j hij hj b hb1 hb2

theorem wpl_appT {w : World} {ops : Array Oper} {rest : List Oper} {o : Oper} {a : Act} {Q : Exit → Act → World → Prop} (hgd : o.guard = none) (s x : Operand)
    (ho : o.op = .call { callee := .builtin .append, args := #[s, x], argTypes := #[43, 43] })
    {B T : Nat} {v : Value} {ts : List Tag} (hs : a.eval s = v) (hown : TagO B T w v ts) (hT : T ≤ w.heap.size) (hBT : B ≤ T) {xv d : Value} {n : Int} {xs : List Int} (hx : a.eval x = xv)
    (hrow : Row w 2 xv 1 [.int .i64 n, d]) (hd : IntO T 3 w d xs) (hn : ts.length ≤ 1000000)
    (h : ∀ v' w', TagO B w'.heap.size w' v' (ts ++ [(n, xs)]) → Below B w w' → wpList Tryz.prog ops Q rest (a.put o.dst v') w') : wpList Tryz.prog ops Q (o :: rest) a w := by
  refine wpList_plain hgd fun K hK => ?_
  obtain ⟨v', w', hr, h2, h3⟩ := TagO.append hown hT hBT hrow hd hn o.type
  unfold Oper.wp execOp
  simp only [ho, resolve, invoke, builtin, Sem.run_bind, Sem.run_pure, Result.andThen_ok, List.map_toArray, List.map_cons, List.map_nil, hs, hx, hr]
  exact hK _ _ (h v' w' h2 h3)
theorem Row.oneT (w : World) (n : Int) (d : Value) {m : Nat} (hm : m = w.heap.size) : Row (w.alloc (.cells #[.int .i64 n, d] 125)) 2 (.slice (some ⟨m, 0, none⟩) 1 1) 1 [.int .i64 n, d] := by
  subst hm; exact (Own.lit (B := w.heap.size) w #[.int .i64 n, d] 1 (Nat.le_refl _) (by decide) rfl).row
/-- Drawn tags: few, in new memory, with few bytes. -/
def DrewT (g m : Nat) (w : World) (e : Ending) (w' : World) : Prop := ∃ v ts T, e = .returned v ∧ ts.length ≤ 5 ∧ (∀ t ∈ ts, t.2.length ≤ 17) ∧ TagO w.heap.size T w' v ts ∧ T ≤ w'.heap.size ∧ RdAt w' g (m + 200) ∧ D g w w'
set_option maxHeartbeats 1600000 in
theorem l92Tags_c {w : World} {g m : Nat} (h : RdAt w g m) (hm : m ≤ 10000) :
    Calls Tryz.prog 57 #[.pointer (some ⟨g, 0, none⟩)] w (DrewT g m w) := by
  have hlt := h.lt
  have hmt := TagO.mt w
  have hd0 : D g w (w.alloc (.cells #[] 125)) := D.ofGr (gr_alloc w _)
  go_enter Tryz.func57, Tryz.ntmps57
  go_wp2_with fail
  (with_reducible refine (pick_c (h.alloc _) (by omega) _ (by omega) (by omega)).mono ?_); rintro e w1 ⟨n0, rfl, hn0, hn1, hr1, hd1⟩
  go_wp2_with fail
  (with_reducible refine (pick_c hr1 (by omega) _ (by omega) (by omega)).mono ?_); rintro e w2 ⟨x, rfl, hx0, hx1, hr2, hd2⟩
  have hmt2 := (hmt.keptD hd1 hlt).keptD hd2 hlt
  have hD2 := (hd0.trans hd1).trans hd2
  have hS2 : w.heap.size + 1 ≤ w2.heap.size := by have h1 := hd1.sz; have h2 := hd2.sz; simp at h1; omega
  clear hmt hd0 hd1 hd2 hr1 h
  by_cases hx : x = 0
  case' pos =>
    subst hx
    go_wp2_with fail
    (with_reducible refine (pick_c hr2 (by omega) _ (by omega) (by omega)).mono ?_); rintro e w3 ⟨y, rfl, hy0, hy1, hr3, hd3⟩
    have hmt3 := hmt2.keptD hd3 hlt
    have hD3 := hD2.trans hd3
    obtain ⟨y, rfl⟩ := Int.eq_ofNat_of_zero_le hy0
    go_wp2_with fail
    obtain ⟨n, hn, hn5⟩ : ∃ n : Nat, ((4 : Int) + (y : Int)) = (n : Int) ∧ n ≤ 5 := ⟨4 + y, by omega, by omega⟩
    rw [hn]
    have hS3 : w.heap.size + 1 ≤ w3.heap.size := by have h1 := hd3.sz; omega
    clear hmt2 hD2 hr2 hd3 hn hS2
  case' neg =>
    have hx' : (x == 0) = false := by simpa using hx
    clear hx
    go_wp2_with fail
    obtain ⟨n, rfl⟩ := Int.eq_ofNat_of_zero_le hn0
    have hn5 : n ≤ 5 := by omega
    have hmt3 := hmt2; have hD3 := hD2; have hr3 := hr2; have hS3 := hS2
    clear hmt2 hD2 hr2 hx' hS2
  all_goals
    go_loopw [3, 5] (fun s i wr => ∃ (k : Nat) (ts : List Tag) (T : Nat), k ≤ n ∧ i = .int .i64 k ∧ ts.length = k ∧ Hid (∀ t ∈ ts, t.2.length ≤ 4) ∧ D g w wr ∧ RdAt wr g (m + 3 + 17 * k) ∧ TagO w.heap.size T wr s ts ∧ T ≤ wr.heap.size ∧ w.heap.size ≤ T) (fun _ i _ => n - (intOf i).toNat)
    case atStart => exact ⟨0, [], _, by omega, rfl, rfl, by simp [Hid], hD3, hr3.more (by omega), hmt3, hS3, by omega⟩
    case round =>
      obtain ⟨k, ts, T, hk, rfl, htl, hall, hD, hr, ho, hT, hBT⟩ := hrel
      have HTL := Lib.hid htl; clear htl
      by_cases hlt' : k < n
      · go_wp2_with fail
        (with_reducible refine (pick_c hr (by omega) _ (by omega) (by omega)).mono ?_); rintro e w4 ⟨a, rfl, ha0, ha1, hr4, hd4⟩
        go_wp2_with fail
        (with_reducible refine (l91Bytes_c hr4 (by omega) 4 4 rfl (by omega)).mono ?_); rintro e w5 ⟨d, xs, rfl, hxl, hod, hr5, hd5⟩
        have ho5 := (ho.keptD hd4 (by omega)).keptD hd5 (by omega)
        have hD5 := (hD.trans hd4).trans hd5
        have hs4 := hd4.sz; have hs5 := hd5.sz
        have hl5 := hr5.lt
        obtain ⟨pd, cd, rfl⟩ := hod.len
        have hod' := (hod.mono (B' := T) (by omega)).kept (gr_alloc w5 (.cells #[.int .i64 a, .slice pd xs.length cd] 125))
        clear hD hr hr4 hd4 hd5 ho hod hS3 hmt3 hr3 hD3
        go_wp2_with (at_builtin; refine wpl_appT rfl (.tmp 20) (.tmp 26) rfl rfl (ho5.kept (gr_alloc _ _)) (by simp; omega) hBT rfl (Row.oneT _ _ _ rfl) hod' (by have := HTL.out; omega) ?_; intro v6 w6 ho6 hg6; have hD6 : D g w w6 := (hD5.alloc _).thenB hg6; have hr6 := (hr5.alloc _).keptB hg6 hlt)
        go_roundw
        case measure => simp [intOf]; omega
        case rel =>
          refine ⟨k+1, _, _, by omega, by go_num, by have := HTL.out; simp; omega, ?_, hD6, hr6.more (by omega), ho6, Nat.le_refl _, hD6.sz⟩
          intro t ht
          rcases List.mem_append.1 ht with h1 | h1
          · exact hall.out t h1
          · simp at h1; subst h1; exact hxl
      · obtain rfl : k = n := by omega
        clear hS3 hmt3 hr3 hD3
        by_cases hz : k = 0
        · subst hz
          go_wp2
          go_ret
          exact ⟨_, ts, T, rfl, by have := HTL.out; omega, fun t ht => by have := hall.out t ht; omega, ho, hT, hr.more (by omega), hD⟩
        · have hz' : (0 : Int) < (k : Int) := by omega
          go_wp2_with fail
          (with_reducible refine (pick_c hr (by omega) _ (by omega) (by omega)).mono ?_); rintro e w4 ⟨a, rfl, ha0, ha1, hr4, hd4⟩
          have ho4 := ho.keptD hd4 (by omega)
          have hD4 := hD.trans hd4
          have hs4 := hd4.sz
          clear ho hD hr hd4
          by_cases ha : a = 0
          · subst ha
            go_wp2_with fail
            (with_reducible refine (pick_c hr4 (by omega) _ (by omega) (by omega)).mono ?_); rintro e w5 ⟨b, rfl, hb0, hb1, hr5, hd5⟩
            have ho5 := ho4.keptD hd5 (by omega)
            have hD5 := hD4.trans hd5
            have hs5 := hd5.sz
            obtain ⟨pv, cv, rfl⟩ := ho5.form
            clear ho4 hD4 hr4 hd5
            obtain rfl | rfl : b = 0 ∨ b = 1 := by omega
            all_goals
              go_wp2_with (first | (refine wpl_makeI (n := 16) rfl _ _ rfl rfl rfl (by omega) ?_; intro pm w6 hod hg6; obtain ⟨q, d0, hix, hqb, hq1, hqf, hqs⟩ := (ho5.kept hg6).setData (by have := hg6.sz; omega) hBT (k := 0) (by have := HTL.out; omega); replace hix : ∀ w1, (Instr.indexAt 43 (.slice pv ts.length cv) (.int .i64 0)).run Tryz.prog w1 = .ok (.pointer (some q)) w1 := hix) | (refine wpl_makeI (n := 17) rfl _ _ rfl rfl rfl (by omega) ?_; intro pm w6 hod hg6; obtain ⟨q, d0, hix, hqb, hq1, hqf, hqs⟩ := (ho5.kept hg6).setData (by have := hg6.sz; omega) hBT (k := 0) (by have := HTL.out; omega); replace hix : ∀ w1, (Instr.indexAt 43 (.slice pv ts.length cv) (.int .i64 0)).run Tryz.prog w1 = .ok (.pointer (some q)) w1 := hix))
              go_ret
              have hD6 : D g w w6 := hD5.trans (D.ofGr hg6)
              have hr6 := (hr5.kept hg6)
              refine ⟨_, _, _, rfl, by rw [List.length_set]; have := HTL.out; omega, ?_, hqs _ _ (hod.mono (by omega)), by simp [World.setCell], (hr6.keptB (B := w.heap.size) (Below.setCell (p := ⟨q.block, q.off + 1, none⟩) (Below.refl _ _) hqb _) hlt).more (by omega), hD6.thenB (Below.setCell (p := ⟨q.block, q.off + 1, none⟩) (Below.refl _ _) hqb _)⟩
              intro t ht
              rcases List.mem_or_eq_of_mem_set ht with h1 | h1
              · have := hall.out t h1; omega
              · subst h1; simp
          · have ha' : (a == 0) = false := by simpa using ha
            clear ha
            go_wp2
            go_ret
            exact ⟨_, ts, T, rfl, by have := HTL.out; omega, fun t ht => by have := hall.out t ht; omega, ho4, by omega, hr4.more (by omega), hD4⟩

end Go.Proofs.YtdbepkcpdglppaaGreatDoor
