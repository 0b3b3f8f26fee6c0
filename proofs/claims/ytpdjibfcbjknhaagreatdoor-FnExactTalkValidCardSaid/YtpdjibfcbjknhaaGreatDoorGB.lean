/- Slices of tags, and the contracts that read them.
Numbers as two bytes; the bytes of tags.
impl.tagsBytes.
The reader of a code, and its draws of numbers.
Draws of bytes.
Slices of tags in memory of their own.
Drawn tags. -/
import Derived.Test.YtpdjibfcbjknhaaGreatDoorGA
import Derived.Deep.RegionHeld3
import Derived.Maps.AppendAt
namespace Go.Proofs.YtpdjibfcbjknhaaGreatDoor
open Go.RowKit
/-- Elements of sz cells each. -/
theorem flat_len {sz : Nat} {css : List (List Value)} (h : ∀ c ∈ css, c.length = sz) : css.flatten.length = css.length * sz := by
  induction css with
  | nil => simp
  | cons c css ih =>
    have h1 := h c (by simp)
    have h2 := ih fun d hd => h d (by simp [hd])
    rw [List.flatten_cons, List.length_append, h1, h2, List.length_cons, Nat.add_mul]; omega
theorem flat_get {sz : Nat} {css : List (List Value)} (h : ∀ c ∈ css, c.length = sz) {k : Nat} {c : List Value} (hk : css[k]? = some c) (j : Nat) (hj : j < sz) : css.flatten[k * sz + j]? = c[j]? := by
  induction css generalizing k with
  | nil => simp at hk
  | cons d css ih =>
    have h1 := h d (by simp)
    cases k with
    | zero =>
      simp at hk; subst hk
      rw [List.flatten_cons, List.getElem?_append_left (by omega)]; simp
    | succ k =>
      rw [List.flatten_cons, List.getElem?_append_right (by rw [h1, Nat.add_mul]; omega), h1, show (k + 1) * sz + j - sz = k * sz + j by rw [Nat.add_mul]; omega]
      exact ih (fun e he => h e (by simp [he])) (by simpa using hk)

abbrev Tag := Int × List Int
def nthT (ts : List Tag) (k : Nat) : Tag := ts.getD k (0, [])
theorem nthT_eq {ts : List Tag} {k : Nat} (h : k < ts.length) : nthT ts k = ts[k] := by simp [nthT, h]
/-- A slice of tags. -/
def TagS (w : World) (v : Value) (ts : List Tag) : Prop :=
  ∃ ds : List Value, ds.length = ts.length ∧ Row w 2 v ts.length ((List.range ts.length).map fun k => [Value.int .i64 (nthT ts k).1, nthV ds k]).flatten ∧
    ∀ k, k < ts.length → IntS w (nthV ds k) (nthT ts k).2
theorem TagS.kept {w w' : World} {v : Value} {ts : List Tag} (h : TagS w v ts) (hg : Gr w w') : TagS w' v ts := by
  obtain ⟨ds, h0, h1, h2⟩ := h
  exact ⟨ds, h0, h1.kept hg, fun k hk => (h2 k hk).kept hg⟩
theorem TagS.form {w : World} {v : Value} {ts : List Tag} (h : TagS w v ts) : ∃ p cap, v = .slice p ts.length cap ∧ ts.length ≤ cap ∧ cap ≤ 9223372036854775807 := by
  obtain ⟨ds, _, ⟨_, p, cap, h1, h2, h3, _⟩, _⟩ := h
  exact ⟨p, cap, h1, h2, h3⟩
/-- A tag is valid. -/
def tagOk (t : Tag) : Bool := inB 0 255 t.1 && (decide (t.2.length ≤ 16) && bv t.2)
def tagsOk (ts : List Tag) : Bool := decide (ts.length ≤ 4) && ts.all tagOk
theorem allT_step (p : Tag → Bool) {ts : List Tag} {k : Nat} (h : k < ts.length) : (ts.take (k+1)).all p = ((ts.take k).all p && p (nthT ts k)) := by
  rw [List.take_succ_eq_append_getElem h, nthT_eq h, List.all_append]; simp
theorem allT_false (p : Tag → Bool) {ts : List Tag} {k : Nat} (h : k < ts.length) (hp : p (nthT ts k) = false) : ts.all p = false := by
  rw [List.all_eq_false]; exact ⟨ts[k], List.getElem_mem h, by rw [nthT_eq h] at hp; simp [hp]⟩
/-- A function value without captures that tells something of a tag. -/
def TellsT (g : Nat) (p : Tag → Bool) : Prop := (∀ args w, (callFunc g args).run Tryz.prog w = .ok (.enter g args) w) ∧
  ∀ (n : Int) (q : Option Addr) (cq : Nat) (xs : List Int) (w : World), IntS w (.slice q xs.length cq) xs → Calls Tryz.prog g #[.agg #[.int .i64 n, .slice q xs.length cq]] w fun e w' => e = .returned (.bool (p (n, xs))) ∧ Gr w w'
theorem gr_box {w : World} (o : Obj) {w' : World} (h : Gr (w.alloc o) w') : Gr w w' := (gr_alloc w o).trans h
theorem takeT_any (p : Tag → Bool) {ts : List Tag} {k : Nat} (h : k < ts.length) : (ts.take (k+1)).any p = ((ts.take k).any p || p (nthT ts k)) := by
  rw [List.take_succ_eq_append_getElem h, nthT_eq h, List.any_append]; simp
theorem anyT_true (p : Tag → Bool) {ts : List Tag} {k : Nat} (h : k < ts.length) (hp : p (nthT ts k) = true) : ts.any p = true := by
  rw [List.any_eq_true]; exact ⟨ts[k], List.getElem_mem h, by rw [nthT_eq h] at hp; exact hp⟩
theorem anyT_not_all (ts : List Tag) : ts.any (fun t => !tagOk t) = !ts.all tagOk := by
  rw [Bool.eq_iff_iff]; simp
end Go.Proofs.YtpdjibfcbjknhaaGreatDoor
namespace Go.Proofs.YtpdjibfcbjknhaaGreatDoor
open Go.RowKit
/-- A number as two bytes. -/
def num2 (n : Int) : List Int := [n / 256 % 256, n % 256]
theorem IntO.ix01 {B e' : Nat} {w : World} {v : Value} {x y : Int} (h : IntO B e' w v [x, y]) :
    (∃ a : Addr, (∀ w1, (Instr.indexAt 23 v (.int .i64 0)).run Tryz.prog w1 = .ok (.pointer (some a)) w1) ∧ B ≤ a.block ∧ w.cell? a = some (.int .i64 x) ∧ w.frozen? a = false ∧ ∀ z, IntO B e' (w.setCell a (.int .i64 z)) v [z, y]) ∧
    (∃ a : Addr, (∀ w1, (Instr.indexAt 23 v (.int .i64 1)).run Tryz.prog w1 = .ok (.pointer (some a)) w1) ∧ B ≤ a.block ∧ w.cell? a = some (.int .i64 y) ∧ w.frozen? a = false ∧ ∀ z, IntO B e' (w.setCell a (.int .i64 z)) v [x, z]) := by
  constructor
  · obtain ⟨a, h1, h2, _, h4, h5, _, h7⟩ := h.ix (k := 0) (by simp)
    exact ⟨a, h1, h2, h4, h5, h7⟩
  · obtain ⟨a, h1, h2, _, h4, h5, _, h7⟩ := h.ix (k := 1) (by simp)
    exact ⟨a, h1, h2, h4, h5, h7⟩
theorem i64_and255 (n : Int) : bits .and .i64 n 255 = n % 256 := by
  have h255 : (BitVec.ofInt 64 255).toNat = 2 ^ 8 - 1 := by decide
  have key : (BitVec.ofInt 64 n &&& BitVec.ofInt 64 255).toNat = (n % ((2 ^ 64 : Nat) : Int)).toNat % 2 ^ 8 := by
    rw [BitVec.toNat_and, BitVec.toNat_ofInt, h255, Nat.and_two_pow_sub_one_eq_mod]
  show IntKind.i64.wrap ((BitVec.ofInt 64 n &&& BitVec.ofInt 64 255).toNat : Nat) = n % 256
  rw [key, IntKind.wrap_i64]
  omega
theorem l1Number_c (n : Int) (w : World) (h0 : 0 ≤ n) (h1 : n ≤ 9223372036854775807) : Calls Tryz.prog 179 #[.int .i64 n, .int .i64 2] w fun e w' => ∃ v', e = .returned v' ∧ IntO w.heap.size 3 w' v' (num2 n) ∧ Gr w w' := by
  go_enter Tryz.func179, Tryz.ntmps179
  go_wp2_with (refine wpl_makeI (n := 2) rfl _ _ rfl rfl rfl (by omega) ?_; intro p w1 ho hg1)
  obtain ⟨_, a1, hx1, hb1, hc1, hf1, hs1⟩ := IntO.ix01 (x := 0) (y := 0) ho
  have ho2 := hs1 (n % 256)
  obtain ⟨⟨a0, hx0, hb0, hc0, hf0, hs0⟩, _⟩ := ho2.ix01
  clear hs1
  go_wp2_with fail
  refine wp_loop_rounds 3 ?_
  rw [rounds_succ]
  go_wp2
  rw [rounds_succ]
  go_wp2
  rw [rounds_succ]
  go_wp2
  go_ret
  exact ⟨_, rfl, hs0 (n / 256 % 256), (Below.setCell (Below.setCell hg1 hb1 _) hb0 _)⟩
theorem numberBytes_c (n : Int) (w : World) : Calls Tryz.prog 132 #[.int .i64 n, .int .i64 2] w fun e w' => ∃ v', e = .returned v' ∧ IntO w.heap.size 3 w' v' (num2 n) ∧ Gr w w' := by
  have e1 := i64_and255 (n / 256)
  have e2 := i64_and255 n
  go_enter Tryz.func132, Tryz.ntmps132
  go_wp2_with (refine wpl_makeI (n := 2) rfl _ _ rfl rfl rfl (by omega) ?_; intro p w1 ho hg1)
  obtain ⟨⟨a0, hx0, hb0, hc0, hf0, hs0⟩, _⟩ := IntO.ix01 (x := 0) (y := 0) ho
  have ho2 := hs0 (n / 256 % 256)
  obtain ⟨_, ⟨a1, hx1, hb1, hc1, hf1, hs1⟩⟩ := ho2.ix01
  clear hs0
  go_wp2_with fail
  refine wp_loop_rounds 3 ?_
  rw [rounds_succ]
  go_wp2
  rw [rounds_succ]
  go_wp2
  rw [rounds_succ]
  go_wp2
  go_ret
  exact ⟨_, rfl, hs1 (n % 256), (Below.setCell (Below.setCell hg1 hb0 _) hb1 _)⟩
theorem num2_len (n : Int) : (num2 n).length = 2 := rfl

/-- The bytes of tags. -/
def tagBytes (t : Tag) : List Int := t.1 :: (num2 t.2.length ++ t.2)
def tagsBytes (ts : List Tag) : List Int := (ts.map tagBytes).flatten
theorem tagsBytes_step {ts : List Tag} {k : Nat} (h : k < ts.length) : tagsBytes (ts.take (k+1)) = tagsBytes (ts.take k) ++ tagBytes (nthT ts k) := by
  unfold tagsBytes; rw [List.take_succ_eq_append_getElem h, nthT_eq h, List.map_append, List.flatten_append]; simp
theorem tagsBytes_app (xs ys : List Tag) : tagsBytes (xs ++ ys) = tagsBytes xs ++ tagsBytes ys := by unfold tagsBytes; simp
theorem tagsBytes_len {ts : List Tag} (h : tagsOk ts = true) (k : Nat) : (tagsBytes (ts.take k)).length ≤ 76 := by
  have h4 : ts.length ≤ 4 ∧ ts.all tagOk = true := by simpa [tagsOk] using h
  have : ∀ us : List Tag, us.all tagOk = true → (tagsBytes us).length ≤ 19 * us.length := by
    intro us hu
    induction us with
    | nil => simp [tagsBytes]
    | cons u us ih =>
      simp only [List.all_cons, Bool.and_eq_true] at hu
      have h1 := ih hu.2
      have h2 : u.2.length ≤ 16 := by have := hu.1; simp [tagOk] at this; omega
      have : tagsBytes (u :: us) = tagBytes u ++ tagsBytes us := by simp [tagsBytes]
      rw [this, List.length_append, List.length_cons]
      have : (tagBytes u).length = 3 + u.2.length := by simp [tagBytes, num2]; omega
      omega
  have h5 := this (ts.take k) (by rw [List.all_eq_true] at h4 ⊢; exact fun x hx => h4.2 x (List.mem_of_mem_take hx))
  rw [List.length_take] at h5
  omega
theorem IntO.one {w : World} (x : Int) : IntO w.heap.size 3 (w.alloc (.cells #[.int .i64 x] 3)) (.slice (some ⟨w.heap.size, 0, none⟩) 1 1) [x] := Own.lit w #[.int .i64 x] 1 (Nat.le_refl _) (by decide) rfl
theorem Gr.szI {a b : World} (h : Gr a b) : a.heap.size ≤ b.heap.size := h.size
end Go.Proofs.YtpdjibfcbjknhaaGreatDoor
namespace Go.Proofs.YtpdjibfcbjknhaaGreatDoor
open Go.RowKit
theorem IntSS.lit4 {w : World} {a b c d : Value} {xs ys zs us : List Int} (ha : IntS w a xs) (hb : IntS w b ys) (hc : IntS w c zs) (hd : IntS w d us) :
    IntSS (w.alloc (.cells #[a, b, c, d] 23)) (.slice (some ⟨w.heap.size, 0, none⟩) 4 4) [xs, ys, zs, us] := by
  refine ⟨[a, b, c, d], (Own.lit (B := w.heap.size) w #[a, b, c, d] 4 (Nat.le_refl _) (by decide) rfl).row, fun k hk => ?_⟩
  have hg : Gr w (w.alloc (.cells #[a, b, c, d] 23)) := (Gr.refl w).alloc _
  match k, hk with
  | 0, _ => exact ha.kept hg
  | 1, _ => exact hb.kept hg
  | 2, _ => exact hc.kept hg
  | 3, _ => exact hd.kept hg
theorem IntSS.lit4' {w : World} {a b c d : Value} {xs ys zs us : List Int} (ha : IntS w a xs) (hb : IntS w b ys) (hc : IntS w c zs) (hd : IntS w d us) {n : Nat} (hn : n = w.heap.size) :
    IntSS (w.alloc (.cells #[a, b, c, d] 23)) (.slice (some ⟨n, 0, none⟩) 4 4) [xs, ys, zs, us] := by subst hn; exact IntSS.lit4 ha hb hc hd
theorem Gr.undrew {a b : World} (h : Gr a.drew b) : Gr a b := ⟨h.os, h.tape, h.output, h.size, h.block⟩
end Go.Proofs.YtpdjibfcbjknhaaGreatDoor
namespace Go.Proofs.YtpdjibfcbjknhaaGreatDoor
open Go.RowKit
/-- A slice of bytes. -/
def ByteS (w : World) (v : Value) (bs : List Int) : Prop := Row w 1 v bs.length (bs.map (.int .u8)) ∧ ∀ n ∈ bs, (Lit.int .u8 n).wf = true
theorem ByteS.kept {w w' : World} {v : Value} {bs : List Int} (h : ByteS w v bs) (hg : Gr w w') : ByteS w' v bs := ⟨h.1.kept hg, h.2⟩
theorem ByteS.form {w : World} {v : Value} {bs : List Int} (h : ByteS w v bs) : ∃ p cap, v = .slice p bs.length cap ∧ bs.length ≤ cap ∧ cap ≤ 9223372036854775807 := by
  obtain ⟨⟨_, p, cap, h1, h2, h3, _⟩, _⟩ := h
  exact ⟨p, cap, h1, h2, h3⟩
theorem uB : Tryz.prog.underlying 22 = some (.slice 5) := by kernel_rfl
theorem infoB : ∃ i, Tryz.prog.info? 5 = some i ∧ i.zero = some (.int .u8 0) ∧ i.size = 1 ∧ i.bytes = 1 := info_parts (by kernel_rfl)
theorem ByteS.ixI {w : World} {p : Option Addr} {cap : Nat} {bs : List Int} (h : ByteS w (.slice p bs.length cap) bs) {i : Int} (h0 : 0 ≤ i) (h1 : i < bs.length) :
    ∃ (a : Addr) (c : Int), (∀ w1, (Instr.indexAt 22 (.slice p bs.length cap) (.int .i64 i)).run Tryz.prog w1 = .ok (.pointer (some a)) w1) ∧ w.cell? a = some (.int .u8 c) ∧ 0 ≤ c ∧ c ≤ 255 := by
  obtain ⟨k, rfl⟩ := Int.eq_ofNat_of_zero_le h0
  have hk : k < bs.length := by omega
  obtain ⟨i, g1, _, g3, _⟩ := infoB
  obtain ⟨a, f1, f2⟩ := Row.at h.1 uB g1 g3 hk
  refine ⟨a, bs[k], f1, ?_, ?_⟩
  · have := f2 0 (.int .u8 bs[k]) (by simp [hk])
    rwa [addr_add_zero] at this
  · have := h.2 bs[k] (List.getElem_mem hk)
    have e1 : IntKind.u8.min = 0 := by decide
    have e2 : IntKind.u8.max = 255 := by decide
    simp only [Lit.wf, e1, e2, Bool.and_eq_true, decide_eq_true_eq] at this
    exact this

/-- At block g stands the reader of a code, which has read at most m times. -/
def RdAt (w : World) (g m : Nat) : Prop :=
  ∃ (w0 : World) (v : Value) (bs : List Int) (p : Nat), Gr w0 w ∧ w0.heap.size ≤ g ∧ ByteS w0 v bs ∧ bs.length ≤ 2000 ∧ p ≤ m ∧ w.heap[g]? = some (.cells #[v, .int .i64 p] 106 (0, 0))
theorem RdAt.lt {w : World} {g m : Nat} (h : RdAt w g m) : g < w.heap.size := by
  obtain ⟨_, _, _, _, _, _, _, _, _, h⟩ := h
  exact (Array.getElem?_eq_some_iff.1 h).1
theorem RdAt.kept {w w' : World} {g m : Nat} (h : RdAt w g m) (hg : Gr w w') : RdAt w' g m := by
  have hl := h.lt
  obtain ⟨w0, v, bs, p, h1, h2, h3, h4, h5, h6⟩ := h
  exact ⟨w0, v, bs, p, h1.trans hg, h2, h3, h4, h5, by rw [Below.block hg g hl]; exact h6⟩
theorem RdAt.more {w : World} {g m m' : Nat} (h : RdAt w g m) (hm : m ≤ m') : RdAt w g m' := by
  obtain ⟨w0, v, bs, p, h1, h2, h3, h4, h5, h6⟩ := h
  exact ⟨w0, v, bs, p, h1, h2, h3, h4, by omega, h6⟩
/-- Only block g has turned of the old ones. -/
def D (g : Nat) (w w' : World) : Prop := w.grownBy w' (some g)
theorem D.sz {g : Nat} {a b : World} (h : D g a b) : a.heap.size ≤ b.heap.size := h.size
theorem D.refl (g : Nat) (w : World) : D g w w := World.grownBy.refl w _
theorem D.trans {g : Nat} {a b c : World} (h : D g a b) (k : D g b c) : D g a c :=
  ⟨k.os.trans h.os, k.tape.trans h.tape, k.output.trans h.output, Nat.le_trans h.size k.size, fun i hi hne => (k.block i (Nat.lt_of_lt_of_le hi h.size) hne).trans (h.block i hi hne)⟩
theorem D.ofGr {g : Nat} {a b : World} (h : Gr a b) : D g a b := ⟨h.os, h.tape, h.output, h.size, fun i hi _ => h.block i hi⟩
theorem D.gr {g : Nat} {a b c : World} (h : D g b c) (hg : Gr a b) (hB : a.heap.size ≤ g) : Gr a c :=
  Below.trans hg ⟨h.os, h.tape, h.output, h.size, fun k hk => h.block k (Nat.lt_of_lt_of_le hk hg.size) (by simp; omega)⟩
theorem D.ofBelow {g : Nat} {a b : World} (h : D g a b) (k : Nat) (hk : k < a.heap.size) (hne : k ≠ g) : b.heap[k]? = a.heap[k]? := h.block k hk (by simpa using hne)
theorem Own.keptD {B e sz g : Nat} {w w' : World} {v : Value} {n : Nat} {cs : List Value} (h : Own B e sz w v n cs) (hd : D g w w') (hB : g < B) : Own B e sz w' v n cs :=
  h.keptOf fun k hk hl => hd.block k hl (by simp; omega)
theorem IntO.keptD {B e g : Nat} {w w' : World} {v : Value} {xs : List Int} (h : IntO B e w v xs) (hd : D g w w') (hB : g < B) : IntO B e w' v xs := Own.keptD h hd hB
theorem fA0 (g : Nat) : (⟨g, 0, none⟩ : Addr).add 0 = ⟨g, 0, none⟩ := rfl
/-- The code may be as long as it likes. -/
theorem l6Open_c {w : World} {v : Value} {bs : List Int} (h : ByteS w v bs) :
    Calls Tryz.prog 47 #[v] w fun e w' => e = .returned (.pointer (some ⟨w.heap.size, 0, none⟩)) ∧ RdAt w' w.heap.size 0 ∧ Gr w w' := by
  obtain ⟨p, cap, rfl, hl1, hl2⟩ := h.form
  by_cases hn : bs.length ≤ 2000
  · have hn' : (decide (2000 < (bs.length : Int))) = false := by simp; omega
    go_enter Tryz.func47, Tryz.ntmps47
    go_wp2
    go_ret
    exact ⟨rfl, ⟨w, _, bs, 0, gr_alloc w _, Nat.le_refl _, h, hn, Nat.le_refl _, heap_alloc_new w _⟩, gr_alloc w _⟩
  · have hn' : (decide (2000 < (bs.length : Int))) = true := by simp; omega
    obtain ⟨i, g1, _, g3, _⟩ := infoB
    obtain ⟨v', hsl, hrow⟩ := Row.cut h.1 uB g1 g3 (Nat.zero_le 2000) (show 2000 ≤ bs.length by omega)
    have hbs : ByteS w v' (bs.take 2000) := by
      refine ⟨?_, fun n hn => h.2 n (List.mem_of_mem_take hn)⟩
      rw [List.length_take, show min 2000 bs.length = 2000 by omega, List.map_take]
      simpa using hrow
    have hsl' : ∀ w1, (Instr.slice 22 (.slice p bs.length cap) none (some (.int .i64 2000)) none).run Tryz.prog w1 = .ok v' w1 := by
      intro w1
      rw [← hsl w1]
      simp [Instr.slice, run_underlying uB, Instr.sliceBounds, Instr.sliceBound, asIntOf, sizeOf, typeInfo, g1]
    obtain ⟨p', cap', hv', hl1', hl2'⟩ := hbs.form
    subst hv'
    go_enter Tryz.func47, Tryz.ntmps47
    go_wp2
    go_ret
    exact ⟨rfl, ⟨w, _, bs.take 2000, 0, gr_alloc w _, Nat.le_refl _, hbs, by rw [List.length_take]; omega, Nat.le_refl _, by rw [List.length_take]; exact heap_alloc_new w _⟩, gr_alloc w _⟩
theorem xor_nonneg (a b : Int) (ha : 0 ≤ a) (ha' : a < 9223372036854775808) (hb : 0 ≤ b) (hb' : b < 9223372036854775808) : 0 ≤ bits .xor .i64 a b ∧ bits .xor .i64 a b ≤ 9223372036854775807 := by
  obtain ⟨x, rfl⟩ := Int.eq_ofNat_of_zero_le ha
  obtain ⟨y, rfl⟩ := Int.eq_ofNat_of_zero_le hb
  have hx : x < 2 ^ 63 := by omega
  have hy : y < 2 ^ 63 := by omega
  have hxy : x ^^^ y < 2 ^ 63 := Nat.xor_lt_two_pow hx hy
  have key : (BitVec.ofInt 64 (x : Int) ^^^ BitVec.ofInt 64 (y : Int)).toNat = x ^^^ y := by
    rw [BitVec.toNat_xor, BitVec.toNat_ofInt, BitVec.toNat_ofInt]
    congr 1 <;> omega
  show 0 ≤ IntKind.i64.wrap ((BitVec.ofInt 64 (x : Int) ^^^ BitVec.ofInt 64 (y : Int)).toNat : Nat) ∧ IntKind.i64.wrap ((BitVec.ofInt 64 (x : Int) ^^^ BitVec.ofInt 64 (y : Int)).toNat : Nat) ≤ 9223372036854775807
  rw [key, IntKind.wrap_i64]
  omega

theorem heap_set {w : World} {g j : Nat} {cs : Array Value} {t : TypeId} {x : Value} (h : w.heap[g]? = some (.cells cs t (0, 0))) : (w.setCell ⟨g, j, none⟩ x).heap[g]? = some (.cells (cs.setIfInBounds j x) t (0, 0)) :=
  heap_setCell_same w g j cs t x h
theorem D.set {g : Nat} {a b : World} (h : D g a b) (j : Nat) (x : Value) : D g a (b.setCell ⟨g, j, none⟩ x) :=
  ⟨h.os, h.tape, h.output, by simpa [World.setCell] using h.size, fun k hk hne => by rw [Below.heap_setCell _ _ _ _ (by simpa using hne)]; exact h.block k hk hne⟩
/-- A draw: a number from 0 to n-1. -/
def Picked (n : Int) (g m : Nat) (w : World) (e : Ending) (w' : World) : Prop := ∃ r : Int, e = .returned (.int .i64 r) ∧ 0 ≤ r ∧ r < n ∧ RdAt w' g (m + 1) ∧ D g w w'
set_option maxHeartbeats 1000000 in
theorem pick_c {w : World} {g m : Nat} (h : RdAt w g m) (hm : m ≤ 1000000) (n : Int) (hn : 1 ≤ n) (hn' : n ≤ 1000000) :
    Calls Tryz.prog 49 #[.pointer (some ⟨g, 0, none⟩), .int .i64 n] w (Picked n g m w) := by
  obtain ⟨w0, v, bs, p, h1, h2, h3, h4, h5, h6⟩ := h
  obtain ⟨q, cap, rfl, hl1, hl2⟩ := h3.form
  have hc0 : w.cell? ⟨g, 0, none⟩ = some (.slice q bs.length cap) := by simp [World.cell?, h6]
  have hc1 : w.cell? ⟨g, 1, none⟩ = some (.int .i64 p) := by simp [World.cell?, h6]
  have hf1 : w.frozen? ⟨g, 1, none⟩ = false := by simp [World.frozen?, h6]
  have hr : RdAt (w.setCell ⟨g, 1, none⟩ (.int .i64 ((p : Int) + 1))) g (m + 1) :=
    ⟨w0, _, bs, p + 1, (D.set (D.refl g w) 1 _).gr h1 h2, h2, h3, h4, by omega, heap_set h6⟩
  have hd : D g w (w.setCell ⟨g, 1, none⟩ (.int .i64 ((p : Int) + 1))) := D.set (D.refl g w) 1 _
  have hg : Gr w0 (w.setCell ⟨g, 1, none⟩ (.int .i64 ((p : Int) + 1))) := hd.gr h1 h2
  have hp : p ≤ 1000000 := by omega
  clear h6 h1
  by_cases hz : bs.length = 0
  · have hz' : ((bs.length : Int) == 0) = true := by simp; exact List.eq_nil_of_length_eq_zero hz
    have HZ := Lib.hid hz; clear hz
    go_enter Tryz.func49, Tryz.ntmps49
    go_wp2
    go_ret
    exact ⟨0, rfl, by omega, by omega, hr, hd⟩
  · have hz' : ((bs.length : Int) == 0) = false := by simp; intro e; simp [e] at hz
    by_cases hk : p < bs.length
    · obtain ⟨a, c, hix, hca, hc3, hc4⟩ := h3.ixI (i := (p : Int)) (by omega) (by omega)
      have hcc := hg.cell hca
      go_enter Tryz.func49, Tryz.ntmps49
      go_wp2
      go_ret
      exact ⟨c % n, rfl, Int.emod_nonneg _ (by omega), Int.emod_lt_of_pos _ (by omega), hr, hd⟩
    · have hlpos : (1 : Int) ≤ (bs.length : Int) := by omega
      have hi1a : (0 : Int) ≤ (p : Int) % (bs.length : Int) := Int.emod_nonneg _ (by omega)
      have hi1b : (p : Int) % (bs.length : Int) < (bs.length : Int) := Int.emod_lt_of_pos _ (by omega)
      have hi2a : (0 : Int) ≤ ((p : Int) * 7 + 3) % (bs.length : Int) := Int.emod_nonneg _ (by omega)
      have hi2b : ((p : Int) * 7 + 3) % (bs.length : Int) < (bs.length : Int) := Int.emod_lt_of_pos _ (by omega)
      have hq0 : 0 ≤ (p : Int) / (bs.length : Int) := Int.ediv_nonneg (by omega) (by omega)
      have hq1 : (p : Int) / (bs.length : Int) ≤ 1000000 := Int.le_trans (Int.ediv_le_self _ (by omega)) (by omega)
      obtain ⟨a, c, hix, hca, hc3, hc4⟩ := h3.ixI hi1a hi1b
      obtain ⟨b, d, hjx, hcb, hd3, hd4⟩ := h3.ixI hi2a hi2b
      have hcc := hg.cell hca
      have hcd := hg.cell hcb
      have hpk : (bs.length : Int) ≤ (p : Int) := by omega
      clear hk hca hcb
      go_enter Tryz.func49, Tryz.ntmps49
      go_wp2_with fail
      go_quiet (fail)
      generalize hX : c * 131 + d * 1117 + (p : Int) * 29 + (p : Int) / (bs.length : Int) * 53 = X at *
      have hX0 : 0 ≤ X := by omega
      have hX1 : X ≤ 1000000000 := by omega
      have HX := Lib.hid hX; clear hX
      have hxr := xor_nonneg X (X / 64) hX0 (by omega) (by omega) (by omega)
      go_wp2
      go_ret
      exact ⟨_, rfl, Int.emod_nonneg _ (by omega), Int.emod_lt_of_pos _ (by omega), hr.kept (gr_drewN _ _), hd.trans (D.ofGr (gr_drewN _ _))⟩
end Go.Proofs.YtpdjibfcbjknhaaGreatDoor
namespace Go.Proofs.YtpdjibfcbjknhaaGreatDoor
open Go.RowKit
theorem RdAt.alloc {w : World} {g m : Nat} (h : RdAt w g m) (o : Obj) : RdAt (w.alloc o) g m := h.kept (gr_alloc w o)
theorem D.alloc {g : Nat} {a b : World} (h : D g a b) (o : Obj) : D g a (b.alloc o) := h.trans (D.ofGr (gr_alloc b o))
theorem D.thenB {g : Nat} {a b c : World} (h : D g a b) (k : Below a.heap.size b c) : D g a c :=
  ⟨k.os.trans h.os, k.tape.trans h.tape, k.output.trans h.output, Nat.le_trans h.size k.size, fun i hi hne => (k.block i hi).trans (h.block i hi hne)⟩
theorem D.cell {g : Nat} {a b : World} (h : D g a b) {p : Addr} {v : Value} (hc : a.cell? p = some v) (hp : p.block ≠ g) : b.cell? p = some v := World.grownBy.cell h hc (by simpa using hp)
theorem RdAt.keptB {w w' : World} {g m B : Nat} (h : RdAt w g m) (hb : Below B w w') (hg : g < B) : RdAt w' g m := by
  obtain ⟨w0, v, bs, p, h1, h2, h3, h4, h5, h6⟩ := h
  exact ⟨w0, v, bs, p, Below.trans h1 (hb.mono (by omega)), h2, h3, h4, h5, by rw [hb.block g hg]; exact h6⟩
/-- Drawn bytes: some ints in new memory. -/
def DrewI (most g m : Nat) (w : World) (e : Ending) (w' : World) : Prop := ∃ v xs, e = .returned v ∧ xs.length ≤ most ∧ IntO w.heap.size 3 w' v xs ∧ RdAt w' g (m + 3 * most + 4) ∧ D g w w'
set_option maxHeartbeats 1000000 in
theorem l91Bytes_c {w : World} {g m : Nat} (h : RdAt w g m) (hm : m ≤ 100000) (most : Nat) (mi : Int) (he : mi = (most : Int)) (hn : most ≤ 1000) :
    Calls Tryz.prog 108 #[.pointer (some ⟨g, 0, none⟩), .int .i64 mi] w (DrewI most g m w) := by
  subst he
  have hlt := h.lt
  have hmt := IntO.mt w
  have hd0 : D g w (w.alloc (.cells #[] 3)) := D.ofGr (gr_alloc w _)
  go_enter Tryz.func108, Tryz.ntmps108
  go_wp2_with fail
  (with_reducible refine (pick_c (h.alloc _) (by omega) _ (by omega) (by omega)).mono ?_); rintro e w1 ⟨n, rfl, hn0, hn1, hr1, hd1⟩
  have hmt1 := hmt.keptD hd1 hlt
  have hD1 := hd0.trans hd1
  clear hmt hd0 hd1 h
  obtain ⟨n, rfl⟩ := Int.eq_ofNat_of_zero_le hn0
  go_wp2_with fail
  go_loopw [5, 7] (fun s i wr => ∃ (k : Nat) (ys : List Int), k ≤ n ∧ i = .int .i64 k ∧ ys.length = k ∧ D g w wr ∧ RdAt wr g (m + 1 + 3 * k) ∧ IntO w.heap.size 3 wr s ys) (fun _ i _ => n - (intOf i).toNat)
  case atStart => exact ⟨0, [], by omega, rfl, rfl, hD1, hr1, hmt1⟩
  case round =>
    obtain ⟨k, ys, hk, rfl, hyl, hD, hr, ho⟩ := hrel
    have HYL := Lib.hid hyl; clear hyl
    by_cases hlt' : k < n
    · go_wp2_with fail
      (with_reducible refine (pick_c hr (by omega) _ (by omega) (by omega)).mono ?_); rintro e w2 ⟨a, rfl, ha0, ha1, hr2, hd2⟩
      go_wp2_with fail
      (with_reducible refine (pick_c hr2 (by omega) _ (by omega) (by omega)).mono ?_); rintro e w3 ⟨b, rfl, hb0, hb1, hr3, hd3⟩
      go_wp2_with fail
      (with_reducible refine (pick_c (hr3.alloc _) (by omega) _ (by omega) (by omega)).mono ?_); rintro e w4 ⟨c, rfl, hc0, hc1, hr4, hd4⟩
      have hs3 : g < w3.heap.size := hr3.lt
      have hx0 : w4.cell? ⟨w3.heap.size, 0, none⟩ = some (.int .i64 a) := hd4.cell (by simp) (by simp; omega)
      have hx1 : w4.cell? ⟨w3.heap.size, 1, none⟩ = some (.int .i64 b) := hd4.cell (by simp) (by simp; omega)
      have hD4 := ((hD.trans hd2).trans hd3).trans ((D.ofGr (gr_alloc _ _)).trans hd4)
      have ho4 := (((ho.keptD hd2 hlt).keptD hd3 hlt).kept (gr_alloc _ (.cells #[.int .i64 a, .int .i64 b] 3))).keptD hd4 hlt
      have hs4 := hD4.sz
      have hyl : ys.length ≤ 1000 := by have := HYL.out; omega
      clear hD hd2 hd3 hd4 ho hr hr2 hr3
      obtain rfl | rfl : c = 0 ∨ c = 1 := by omega
      all_goals
        go_wp2_with (at_builtin; refine wpl_appI rfl (.tmp 18) (.tmp 28) rfl rfl (ho4.kept (gr_alloc _ _)) rfl (IntO.one _).s (by simp; omega) (by simp; omega) ?_; intro v5 w5 ho5 hg5; have hD5 : D g w w5 := (hD4.alloc _).thenB hg5; have hr5 := (hr4.alloc _).keptB hg5 hlt)
        go_roundw
        case measure => simp [intOf]; omega
        case rel => exact ⟨k+1, _, by omega, by go_num, by have := HYL.out; simp; omega, hD5, hr5.more (by omega), ho5⟩
    · obtain rfl : k = n := by omega
      by_cases hz : k = 0
      · subst hz
        go_wp2
        go_ret
        exact ⟨_, ys, rfl, by have := HYL.out; omega, ho, hr.more (by omega), hD⟩
      · have hz' : (0 : Int) < (k : Int) := by omega
        go_wp2_with fail
        (with_reducible refine (pick_c hr (by omega) _ (by omega) (by omega)).mono ?_); rintro e w2 ⟨a, rfl, ha0, ha1, hr2, hd2⟩
        have hD2 := hD.trans hd2
        have ho2 := ho.keptD hd2 hlt
        clear ho hD hr hd2
        by_cases hx : a = 0
        · subst hx
          go_wp2_with fail
          (with_reducible refine (pick_c hr2 (by omega) _ (by omega) (by omega)).mono ?_); rintro e w3 ⟨j, rfl, hj0, hj1, hr3, hd3⟩
          obtain ⟨j, rfl⟩ := Int.eq_ofNat_of_zero_le hj0
          go_wp2_with fail
          (with_reducible refine (pick_c (hr3.alloc _) (by omega) _ (by omega) (by omega)).mono ?_); rintro e w4 ⟨c, rfl, hc0, hc1, hr4, hd4⟩
          have hs3 : g < w3.heap.size := hr3.lt
          have hx0 : w4.cell? ⟨w3.heap.size, 0, none⟩ = some (.int .i64 (-1)) := hd4.cell (by simp) (by simp; omega)
          have hx1 : w4.cell? ⟨w3.heap.size, 1, none⟩ = some (.int .i64 256) := hd4.cell (by simp) (by simp; omega)
          have ho4 := ((ho2.keptD hd3 hlt).kept (gr_alloc _ (.cells #[.int .i64 (-1), .int .i64 256] 3))).keptD hd4 hlt
          have hD4 := (hD2.trans hd3).trans ((D.ofGr (gr_alloc _ _)).trans hd4)
          obtain ⟨b, hjx, hb1, hb2, hcb, hfb, hob, hset⟩ := ho4.ix (show j < ys.length by have := HYL.out; omega)
          have HOB := Lib.hid hob
          clear hob hd3 hd4 hD2 ho2 hr2 hr3
          obtain rfl | rfl : c = 0 ∨ c = 1 := by omega
          all_goals
            go_wp2
            go_ret
            exact ⟨_, _, rfl, by rw [List.length_set]; have := HYL.out; omega, hset _, (hr4.keptB (Below.setCell (Below.refl _ _) hb1 _) hlt).more (by omega), hD4.thenB (Below.setCell (Below.refl _ _) hb1 _)⟩
        · have hx' : (a == 0) = false := by simpa using hx
          clear hx
          go_wp2
          go_ret
          exact ⟨_, ys, rfl, by have := HYL.out; omega, ho2, hr2.more (by omega), hD2⟩
end Go.Proofs.YtpdjibfcbjknhaaGreatDoor
namespace Go.Proofs.YtpdjibfcbjknhaaGreatDoor
open Go.RowKit
def tagCells (ts : List Tag) (ds : List Value) : List Value := ((List.range ts.length).map fun k => [Value.int .i64 (nthT ts k).1, nthV ds k]).flatten
theorem tagCells_snoc {ts : List Tag} {ds : List Value} (h : ds.length = ts.length) (t : Tag) (d : Value) : tagCells (ts ++ [t]) (ds ++ [d]) = tagCells ts ds ++ [.int .i64 t.1, d] := by
  unfold tagCells
  rw [List.length_append, List.length_singleton, List.range_succ, List.map_append, List.flatten_append]
  congr 1
  · congr 1
    apply List.map_congr_left
    intro k hk
    have hk' : k < ts.length := by simpa using hk
    simp [nthT, nthV, List.getElem?_append_left hk', List.getElem?_append_left (show k < ds.length by omega)]
  · simp [nthT, nthV, ← h]
theorem tagCells_len (ts : List Tag) (ds : List Value) : (tagCells ts ds).length = ts.length * 2 := by
  unfold tagCells; rw [flat_len (sz := 2) (by simp)]; simp
theorem nthV_snoc_lt {ds : List Value} {k : Nat} (h : k < ds.length) (d : Value) : nthV (ds ++ [d]) k = nthV ds k := by simp [nthV, List.getElem?_append_left h]
theorem nthV_snoc_eq (ds : List Value) (d : Value) : nthV (ds ++ [d]) ds.length = d := by simp [nthV]
theorem nthT_snoc_lt {ts : List Tag} {k : Nat} (h : k < ts.length) (t : Tag) : nthT (ts ++ [t]) k = nthT ts k := by simp [nthT, List.getElem?_append_left h]
theorem nthT_snoc_eq (ts : List Tag) (t : Tag) : nthT (ts ++ [t]) ts.length = t := by simp [nthT]

theorem OwnB.keptD {B T e sz g : Nat} {w w' : World} {v : Value} {n : Nat} {cs : List Value} (h : OwnB B T e sz w v n cs) (hd : D g w w') (hB : g < B) : OwnB B T e sz w' v n cs := ⟨h.1.keptD hd hB, h.2⟩
end Go.Proofs.YtpdjibfcbjknhaaGreatDoor
namespace Go.Proofs.YtpdjibfcbjknhaaGreatDoor
open Go.RowKit
theorem tagCells_get {ts : List Tag} {ds : List Value} {k : Nat} (hk : k < ts.length) : (tagCells ts ds)[k * 2]? = some (.int .i64 (nthT ts k).1) ∧ (tagCells ts ds)[k * 2 + 1]? = some (nthV ds k) := by
  have hc : ((List.range ts.length).map fun k => [Value.int .i64 (nthT ts k).1, nthV ds k])[k]? = some [Value.int .i64 (nthT ts k).1, nthV ds k] := by simp [hk]
  have hl : ∀ c ∈ ((List.range ts.length).map fun k => [Value.int .i64 (nthT ts k).1, nthV ds k]), c.length = 2 := by simp
  constructor
  · have := flat_get hl hc 0 (by decide)
    exact this
  · have := flat_get hl hc 1 (by decide)
    exact this
theorem list_ext2 {xs ys : List Value} {n : Nat} (hx : xs.length = n * 2) (hy : ys.length = n * 2) (h : ∀ k, k < n → xs[k * 2]? = ys[k * 2]? ∧ xs[k * 2 + 1]? = ys[k * 2 + 1]?) : xs = ys := by
  apply List.ext_getElem?
  intro i
  by_cases hi : i < n * 2
  · have hk := h (i / 2) (by omega)
    rcases Nat.mod_two_eq_zero_or_one i with e | e
    · rw [show i = i / 2 * 2 by omega]; exact hk.1
    · rw [show i = i / 2 * 2 + 1 by omega]; exact hk.2
  · rw [List.getElem?_eq_none (by omega), List.getElem?_eq_none (by omega)]
theorem nthT_set {ts : List Tag} {k : Nat} (hk : k < ts.length) (t : Tag) (j : Nat) : nthT (ts.set k t) j = if j = k then t else nthT ts j := by
  by_cases e : j = k
  · subst e; simp [nthT, hk]
  · simp only [if_neg e, nthT, List.getD_eq_getElem?_getD]; rw [List.getElem?_set_ne (by omega)]
theorem nthV_set {ds : List Value} {k : Nat} (hk : k < ds.length) (d : Value) (j : Nat) : nthV (ds.set k d) j = if j = k then d else nthV ds j := by
  by_cases e : j = k
  · subst e; simp [nthV, hk]
  · simp only [if_neg e, nthV, List.getD_eq_getElem?_getD]; rw [List.getElem?_set_ne (by omega)]
theorem tagCells_setD {ts : List Tag} {ds : List Value} {k : Nat} (h0 : ds.length = ts.length) (hk : k < ts.length) (d : Value) (xs : List Int) :
    (tagCells ts ds).set (k * 2 + 1) d = tagCells (ts.set k ((nthT ts k).1, xs)) (ds.set k d) := by
  refine list_ext2 (n := ts.length) (by rw [List.length_set, tagCells_len]) (by rw [tagCells_len, List.length_set]) fun j hj => ?_
  have hg := tagCells_get (ds := ds) hj
  have hg' := tagCells_get (ts := ts.set k ((nthT ts k).1, xs)) (ds := ds.set k d) (k := j) (by simpa using hj)
  rw [hg'.1, hg'.2, nthT_set hk, nthV_set (by omega)]
  by_cases e : j = k
  · subst e
    refine ⟨?_, ?_⟩
    · rw [List.getElem?_set_ne (by omega), hg.1]; simp
    · rw [List.getElem?_set_self (by rw [tagCells_len]; omega)]; simp
  · refine ⟨?_, ?_⟩
    · rw [List.getElem?_set_ne (by omega), hg.1]; simp [e]
    · rw [List.getElem?_set_ne (by omega), hg.2]; simp [e]
theorem grown_set1 (w : World) (p : Addr) (x : Value) : w.grownBy (w.setCell p x) (some p.block) :=
  ⟨rfl, rfl, rfl, by simp [World.setCell], fun k _ hne => Below.heap_setCell _ _ _ _ (fun e => hne (by rw [e]))⟩
end Go.Proofs.YtpdjibfcbjknhaaGreatDoor
