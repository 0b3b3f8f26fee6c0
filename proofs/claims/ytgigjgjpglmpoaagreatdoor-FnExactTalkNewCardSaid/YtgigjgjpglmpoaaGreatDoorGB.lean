/- Slices of tags, and the contracts that read them.
Numbers as two bytes; the bytes of tags.
impl.tagsBytes.
The reader of a code, and its draws of numbers.
Draws of bytes.
Slices of tags in memory of their own.
Drawn tags. -/
import Derived.Test.YtgigjgjpglmpoaaGreatDoorGA
import Derived.Deep.RegionHeld3
import Derived.Maps.AppendAt
namespace Go.Proofs.YtgigjgjpglmpoaaGreatDoor
open Go.RowKit
/-- Elements of sz cells each. -/
theorem flat_len {sz : Nat} {css : List (List Value)} (h : ∀ c ∈ css, c.length = sz) : css.flatten.length = css.length * sz := by
  induction css with
  | nil => simp
  | cons c css ih =>
    have h1 := h c (by simp)
    have h2 := ih fun d hd => h d (by simp [hd])
    rw [List.flatten_cons, List.length_append, h1, h2, List.length_cons, Nat.add_mul]; omega
theorem flat_get {sz : Nat} {css : List (List Value)} (h : ∀ c ∈ css, c.length = sz) {k : Nat} {c : List Value} (hk : css[k]? = some c) (j : Nat) (hj : j < sz) : css.flatten[k * sz + j]? = c[j]? := by
  induction css generalizing k with
  | nil => simp at hk
  | cons d css ih =>
    have h1 := h d (by simp)
    cases k with
    | zero =>
      simp at hk; subst hk
      rw [List.flatten_cons, List.getElem?_append_left (by omega)]; simp
    | succ k =>
      rw [List.flatten_cons, List.getElem?_append_right (by rw [h1, Nat.add_mul]; omega), h1, show (k + 1) * sz + j - sz = k * sz + j by rw [Nat.add_mul]; omega]
      exact ih (fun e he => h e (by simp [he])) (by simpa using hk)

abbrev Tag := Int × List Int
def nthT (ts : List Tag) (k : Nat) : Tag := ts.getD k (0, [])
theorem nthT_eq {ts : List Tag} {k : Nat} (h : k < ts.length) : nthT ts k = ts[k] := by simp [nthT, h]
/-- A slice of tags. -/
def TagS (w : World) (v : Value) (ts : List Tag) : Prop :=
  ∃ ds : List Value, ds.length = ts.length ∧ Row w 2 v ts.length ((List.range ts.length).map fun k => [Value.int .i64 (nthT ts k).1, nthV ds k]).flatten ∧
    ∀ k, k < ts.length → IntS w (nthV ds k) (nthT ts k).2
theorem TagS.kept {w w' : World} {v : Value} {ts : List Tag} (h : TagS w v ts) (hg : Gr w w') : TagS w' v ts := by
  obtain ⟨ds, h0, h1, h2⟩ := h
  exact ⟨ds, h0, h1.kept hg, fun k hk => (h2 k hk).kept hg⟩
theorem TagS.form {w : World} {v : Value} {ts : List Tag} (h : TagS w v ts) : ∃ p cap, v = .slice p ts.length cap ∧ ts.length ≤ cap ∧ cap ≤ 9223372036854775807 := by
  obtain ⟨ds, _, ⟨_, p, cap, h1, h2, h3, _⟩, _⟩ := h
  exact ⟨p, cap, h1, h2, h3⟩
/-- A tag is valid. -/
def tagOk (t : Tag) : Bool := inB 0 255 t.1 && (decide (t.2.length ≤ 16) && bv t.2)
def tagsOk (ts : List Tag) : Bool := decide (ts.length ≤ 4) && ts.all tagOk
theorem allT_step (p : Tag → Bool) {ts : List Tag} {k : Nat} (h : k < ts.length) : (ts.take (k+1)).all p = ((ts.take k).all p && p (nthT ts k)) := by
  rw [List.take_succ_eq_append_getElem h, nthT_eq h, List.all_append]; simp
theorem allT_false (p : Tag → Bool) {ts : List Tag} {k : Nat} (h : k < ts.length) (hp : p (nthT ts k) = false) : ts.all p = false := by
  rw [List.all_eq_false]; exact ⟨ts[k], List.getElem_mem h, by rw [nthT_eq h] at hp; simp [hp]⟩
/-- A function value without captures that tells something of a tag. -/
def TellsT (g : Nat) (p : Tag → Bool) : Prop := (∀ args w, (callFunc g args).run Tryz.prog w = .ok (.enter g args) w) ∧
  ∀ (n : Int) (q : Option Addr) (cq : Nat) (xs : List Int) (w : World), IntS w (.slice q xs.length cq) xs → Calls Tryz.prog g #[.agg #[.int .i64 n, .slice q xs.length cq]] w fun e w' => e = .returned (.bool (p (n, xs))) ∧ Gr w w'
theorem gr_box {w : World} (o : Obj) {w' : World} (h : Gr (w.alloc o) w') : Gr w w' := (gr_alloc w o).trans h
theorem takeT_any (p : Tag → Bool) {ts : List Tag} {k : Nat} (h : k < ts.length) : (ts.take (k+1)).any p = ((ts.take k).any p || p (nthT ts k)) := by
  rw [List.take_succ_eq_append_getElem h, nthT_eq h, List.any_append]; simp
theorem anyT_true (p : Tag → Bool) {ts : List Tag} {k : Nat} (h : k < ts.length) (hp : p (nthT ts k) = true) : ts.any p = true := by
  rw [List.any_eq_true]; exact ⟨ts[k], List.getElem_mem h, by rw [nthT_eq h] at hp; exact hp⟩
theorem anyT_not_all (ts : List Tag) : ts.any (fun t => !tagOk t) = !ts.all tagOk := by
  rw [Bool.eq_iff_iff]; simp
end Go.Proofs.YtgigjgjpglmpoaaGreatDoor
namespace Go.Proofs.YtgigjgjpglmpoaaGreatDoor
open Go.RowKit
/-- A number as two bytes. -/
def num2 (n : Int) : List Int := [n / 256 % 256, n % 256]
theorem IntO.ix01 {B e' : Nat} {w : World} {v : Value} {x y : Int} (h : IntO B e' w v [x, y]) :
    (∃ a : Addr, (∀ w1, (Instr.indexAt 22 v (.int .i64 0)).run Tryz.prog w1 = .ok (.pointer (some a)) w1) ∧ B ≤ a.block ∧ w.cell? a = some (.int .i64 x) ∧ w.frozen? a = false ∧ ∀ z, IntO B e' (w.setCell a (.int .i64 z)) v [z, y]) ∧
    (∃ a : Addr, (∀ w1, (Instr.indexAt 22 v (.int .i64 1)).run Tryz.prog w1 = .ok (.pointer (some a)) w1) ∧ B ≤ a.block ∧ w.cell? a = some (.int .i64 y) ∧ w.frozen? a = false ∧ ∀ z, IntO B e' (w.setCell a (.int .i64 z)) v [x, z]) := by
  constructor
  · obtain ⟨a, h1, h2, _, h4, h5, _, h7⟩ := h.ix (k := 0) (by simp)
    exact ⟨a, h1, h2, h4, h5, h7⟩
  · obtain ⟨a, h1, h2, _, h4, h5, _, h7⟩ := h.ix (k := 1) (by simp)
    exact ⟨a, h1, h2, h4, h5, h7⟩
theorem i64_and255 (n : Int) : bits .and .i64 n 255 = n % 256 := by
  have h255 : (BitVec.ofInt 64 255).toNat = 2 ^ 8 - 1 := by decide
  have key : (BitVec.ofInt 64 n &&& BitVec.ofInt 64 255).toNat = (n % ((2 ^ 64 : Nat) : Int)).toNat % 2 ^ 8 := by
    rw [BitVec.toNat_and, BitVec.toNat_ofInt, h255, Nat.and_two_pow_sub_one_eq_mod]
  show IntKind.i64.wrap ((BitVec.ofInt 64 n &&& BitVec.ofInt 64 255).toNat : Nat) = n % 256
  rw [key, IntKind.wrap_i64]
  omega
theorem num2_len (n : Int) : (num2 n).length = 2 := rfl

/-- The bytes of tags. -/
def tagBytes (t : Tag) : List Int := t.1 :: (num2 t.2.length ++ t.2)
def tagsBytes (ts : List Tag) : List Int := (ts.map tagBytes).flatten
theorem tagsBytes_step {ts : List Tag} {k : Nat} (h : k < ts.length) : tagsBytes (ts.take (k+1)) = tagsBytes (ts.take k) ++ tagBytes (nthT ts k) := by
  unfold tagsBytes; rw [List.take_succ_eq_append_getElem h, nthT_eq h, List.map_append, List.flatten_append]; simp
theorem tagsBytes_app (xs ys : List Tag) : tagsBytes (xs ++ ys) = tagsBytes xs ++ tagsBytes ys := by unfold tagsBytes; simp
theorem tagsBytes_len {ts : List Tag} (h : tagsOk ts = true) (k : Nat) : (tagsBytes (ts.take k)).length ≤ 76 := by
  have h4 : ts.length ≤ 4 ∧ ts.all tagOk = true := by simpa [tagsOk] using h
  have : ∀ us : List Tag, us.all tagOk = true → (tagsBytes us).length ≤ 19 * us.length := by
    intro us hu
    induction us with
    | nil => simp [tagsBytes]
    | cons u us ih =>
      simp only [List.all_cons, Bool.and_eq_true] at hu
      have h1 := ih hu.2
      have h2 : u.2.length ≤ 16 := by have := hu.1; simp [tagOk] at this; omega
      have : tagsBytes (u :: us) = tagBytes u ++ tagsBytes us := by simp [tagsBytes]
      rw [this, List.length_append, List.length_cons]
      have : (tagBytes u).length = 3 + u.2.length := by simp [tagBytes, num2]; omega
      omega
  have h5 := this (ts.take k) (by rw [List.all_eq_true] at h4 ⊢; exact fun x hx => h4.2 x (List.mem_of_mem_take hx))
  rw [List.length_take] at h5
  omega
theorem IntO.one {w : World} (x : Int) : IntO w.heap.size 3 (w.alloc (.cells #[.int .i64 x] 3)) (.slice (some ⟨w.heap.size, 0, none⟩) 1 1) [x] := Own.lit w #[.int .i64 x] 1 (Nat.le_refl _) (by decide) rfl
theorem Gr.szI {a b : World} (h : Gr a b) : a.heap.size ≤ b.heap.size := h.size
end Go.Proofs.YtgigjgjpglmpoaaGreatDoor
namespace Go.Proofs.YtgigjgjpglmpoaaGreatDoor
open Go.RowKit
theorem IntSS.lit4 {w : World} {a b c d : Value} {xs ys zs us : List Int} (ha : IntS w a xs) (hb : IntS w b ys) (hc : IntS w c zs) (hd : IntS w d us) :
    IntSS (w.alloc (.cells #[a, b, c, d] 22)) (.slice (some ⟨w.heap.size, 0, none⟩) 4 4) [xs, ys, zs, us] := by
  refine ⟨[a, b, c, d], (Own.lit (B := w.heap.size) w #[a, b, c, d] 4 (Nat.le_refl _) (by decide) rfl).row, fun k hk => ?_⟩
  have hg : Gr w (w.alloc (.cells #[a, b, c, d] 22)) := (Gr.refl w).alloc _
  match k, hk with
  | 0, _ => exact ha.kept hg
  | 1, _ => exact hb.kept hg
  | 2, _ => exact hc.kept hg
  | 3, _ => exact hd.kept hg
theorem IntSS.lit4' {w : World} {a b c d : Value} {xs ys zs us : List Int} (ha : IntS w a xs) (hb : IntS w b ys) (hc : IntS w c zs) (hd : IntS w d us) {n : Nat} (hn : n = w.heap.size) :
    IntSS (w.alloc (.cells #[a, b, c, d] 22)) (.slice (some ⟨n, 0, none⟩) 4 4) [xs, ys, zs, us] := by subst hn; exact IntSS.lit4 ha hb hc hd
theorem Gr.undrew {a b : World} (h : Gr a.drew b) : Gr a b := ⟨h.os, h.tape, h.output, h.size, h.block⟩
end Go.Proofs.YtgigjgjpglmpoaaGreatDoor
namespace Go.Proofs.YtgigjgjpglmpoaaGreatDoor
open Go.RowKit
/-- A slice of bytes. -/
def ByteS (w : World) (v : Value) (bs : List Int) : Prop := Row w 1 v bs.length (bs.map (.int .u8)) ∧ ∀ n ∈ bs, (Lit.int .u8 n).wf = true
theorem ByteS.kept {w w' : World} {v : Value} {bs : List Int} (h : ByteS w v bs) (hg : Gr w w') : ByteS w' v bs := ⟨h.1.kept hg, h.2⟩
theorem ByteS.form {w : World} {v : Value} {bs : List Int} (h : ByteS w v bs) : ∃ p cap, v = .slice p bs.length cap ∧ bs.length ≤ cap ∧ cap ≤ 9223372036854775807 := by
  obtain ⟨⟨_, p, cap, h1, h2, h3, _⟩, _⟩ := h
  exact ⟨p, cap, h1, h2, h3⟩
theorem uB : Tryz.prog.underlying 61 = some (.slice 5) := by kernel_rfl
theorem infoB : ∃ i, Tryz.prog.info? 5 = some i ∧ i.zero = some (.int .u8 0) ∧ i.size = 1 ∧ i.bytes = 1 := info_parts (by kernel_rfl)
theorem ByteS.ixI {w : World} {p : Option Addr} {cap : Nat} {bs : List Int} (h : ByteS w (.slice p bs.length cap) bs) {i : Int} (h0 : 0 ≤ i) (h1 : i < bs.length) :
    ∃ (a : Addr) (c : Int), (∀ w1, (Instr.indexAt 61 (.slice p bs.length cap) (.int .i64 i)).run Tryz.prog w1 = .ok (.pointer (some a)) w1) ∧ w.cell? a = some (.int .u8 c) ∧ 0 ≤ c ∧ c ≤ 255 := by
  obtain ⟨k, rfl⟩ := Int.eq_ofNat_of_zero_le h0
  have hk : k < bs.length := by omega
  obtain ⟨i, g1, _, g3, _⟩ := infoB
  obtain ⟨a, f1, f2⟩ := Row.at h.1 uB g1 g3 hk
  refine ⟨a, bs[k], f1, ?_, ?_⟩
  · have := f2 0 (.int .u8 bs[k]) (by simp [hk])
    rwa [addr_add_zero] at this
  · have := h.2 bs[k] (List.getElem_mem hk)
    have e1 : IntKind.u8.min = 0 := by decide
    have e2 : IntKind.u8.max = 255 := by decide
    simp only [Lit.wf, e1, e2, Bool.and_eq_true, decide_eq_true_eq] at this
    exact this

/-- Only block g has turned of the old ones. -/
def D (g : Nat) (w w' : World) : Prop := w.grownBy w' (some g)
theorem D.sz {g : Nat} {a b : World} (h : D g a b) : a.heap.size ≤ b.heap.size := h.size
theorem D.refl (g : Nat) (w : World) : D g w w := World.grownBy.refl w _
theorem D.trans {g : Nat} {a b c : World} (h : D g a b) (k : D g b c) : D g a c :=
  ⟨k.os.trans h.os, k.tape.trans h.tape, k.output.trans h.output, Nat.le_trans h.size k.size, fun i hi hne => (k.block i (Nat.lt_of_lt_of_le hi h.size) hne).trans (h.block i hi hne)⟩
theorem D.ofGr {g : Nat} {a b : World} (h : Gr a b) : D g a b := ⟨h.os, h.tape, h.output, h.size, fun i hi _ => h.block i hi⟩
theorem D.gr {g : Nat} {a b c : World} (h : D g b c) (hg : Gr a b) (hB : a.heap.size ≤ g) : Gr a c :=
  Below.trans hg ⟨h.os, h.tape, h.output, h.size, fun k hk => h.block k (Nat.lt_of_lt_of_le hk hg.size) (by simp; omega)⟩
theorem D.ofBelow {g : Nat} {a b : World} (h : D g a b) (k : Nat) (hk : k < a.heap.size) (hne : k ≠ g) : b.heap[k]? = a.heap[k]? := h.block k hk (by simpa using hne)
theorem Own.keptD {B e sz g : Nat} {w w' : World} {v : Value} {n : Nat} {cs : List Value} (h : Own B e sz w v n cs) (hd : D g w w') (hB : g < B) : Own B e sz w' v n cs :=
  h.keptOf fun k hk hl => hd.block k hl (by simp; omega)
theorem IntO.keptD {B e g : Nat} {w w' : World} {v : Value} {xs : List Int} (h : IntO B e w v xs) (hd : D g w w') (hB : g < B) : IntO B e w' v xs := Own.keptD h hd hB
theorem fA0 (g : Nat) : (⟨g, 0, none⟩ : Addr).add 0 = ⟨g, 0, none⟩ := rfl
theorem xor_nonneg (a b : Int) (ha : 0 ≤ a) (ha' : a < 9223372036854775808) (hb : 0 ≤ b) (hb' : b < 9223372036854775808) : 0 ≤ bits .xor .i64 a b ∧ bits .xor .i64 a b ≤ 9223372036854775807 := by
  obtain ⟨x, rfl⟩ := Int.eq_ofNat_of_zero_le ha
  obtain ⟨y, rfl⟩ := Int.eq_ofNat_of_zero_le hb
  have hx : x < 2 ^ 63 := by omega
  have hy : y < 2 ^ 63 := by omega
  have hxy : x ^^^ y < 2 ^ 63 := Nat.xor_lt_two_pow hx hy
  have key : (BitVec.ofInt 64 (x : Int) ^^^ BitVec.ofInt 64 (y : Int)).toNat = x ^^^ y := by
    rw [BitVec.toNat_xor, BitVec.toNat_ofInt, BitVec.toNat_ofInt]
    congr 1 <;> omega
  show 0 ≤ IntKind.i64.wrap ((BitVec.ofInt 64 (x : Int) ^^^ BitVec.ofInt 64 (y : Int)).toNat : Nat) ∧ IntKind.i64.wrap ((BitVec.ofInt 64 (x : Int) ^^^ BitVec.ofInt 64 (y : Int)).toNat : Nat) ≤ 9223372036854775807
  rw [key, IntKind.wrap_i64]
  omega

theorem heap_set {w : World} {g j : Nat} {cs : Array Value} {t : TypeId} {x : Value} (h : w.heap[g]? = some (.cells cs t (0, 0))) : (w.setCell ⟨g, j, none⟩ x).heap[g]? = some (.cells (cs.setIfInBounds j x) t (0, 0)) :=
  heap_setCell_same w g j cs t x h
theorem D.set {g : Nat} {a b : World} (h : D g a b) (j : Nat) (x : Value) : D g a (b.setCell ⟨g, j, none⟩ x) :=
  ⟨h.os, h.tape, h.output, by simpa [World.setCell] using h.size, fun k hk hne => by rw [Below.heap_setCell _ _ _ _ (by simpa using hne)]; exact h.block k hk hne⟩
end Go.Proofs.YtgigjgjpglmpoaaGreatDoor
namespace Go.Proofs.YtgigjgjpglmpoaaGreatDoor
open Go.RowKit
theorem D.alloc {g : Nat} {a b : World} (h : D g a b) (o : Obj) : D g a (b.alloc o) := h.trans (D.ofGr (gr_alloc b o))
theorem D.thenB {g : Nat} {a b c : World} (h : D g a b) (k : Below a.heap.size b c) : D g a c :=
  ⟨k.os.trans h.os, k.tape.trans h.tape, k.output.trans h.output, Nat.le_trans h.size k.size, fun i hi hne => (k.block i hi).trans (h.block i hi hne)⟩
theorem D.cell {g : Nat} {a b : World} (h : D g a b) {p : Addr} {v : Value} (hc : a.cell? p = some v) (hp : p.block ≠ g) : b.cell? p = some v := World.grownBy.cell h hc (by simpa using hp)
end Go.Proofs.YtgigjgjpglmpoaaGreatDoor
namespace Go.Proofs.YtgigjgjpglmpoaaGreatDoor
open Go.RowKit
def tagCells (ts : List Tag) (ds : List Value) : List Value := ((List.range ts.length).map fun k => [Value.int .i64 (nthT ts k).1, nthV ds k]).flatten
theorem tagCells_snoc {ts : List Tag} {ds : List Value} (h : ds.length = ts.length) (t : Tag) (d : Value) : tagCells (ts ++ [t]) (ds ++ [d]) = tagCells ts ds ++ [.int .i64 t.1, d] := by
  unfold tagCells
  rw [List.length_append, List.length_singleton, List.range_succ, List.map_append, List.flatten_append]
  congr 1
  · congr 1
    apply List.map_congr_left
    intro k hk
    have hk' : k < ts.length := by simpa using hk
    simp [nthT, nthV, List.getElem?_append_left hk', List.getElem?_append_left (show k < ds.length by omega)]
  · simp [nthT, nthV, ← h]
theorem tagCells_len (ts : List Tag) (ds : List Value) : (tagCells ts ds).length = ts.length * 2 := by
  unfold tagCells; rw [flat_len (sz := 2) (by simp)]; simp
theorem nthV_snoc_lt {ds : List Value} {k : Nat} (h : k < ds.length) (d : Value) : nthV (ds ++ [d]) k = nthV ds k := by simp [nthV, List.getElem?_append_left h]
theorem nthV_snoc_eq (ds : List Value) (d : Value) : nthV (ds ++ [d]) ds.length = d := by simp [nthV]
theorem nthT_snoc_lt {ts : List Tag} {k : Nat} (h : k < ts.length) (t : Tag) : nthT (ts ++ [t]) k = nthT ts k := by simp [nthT, List.getElem?_append_left h]
theorem nthT_snoc_eq (ts : List Tag) (t : Tag) : nthT (ts ++ [t]) ts.length = t := by simp [nthT]

theorem OwnB.keptD {B T e sz g : Nat} {w w' : World} {v : Value} {n : Nat} {cs : List Value} (h : OwnB B T e sz w v n cs) (hd : D g w w') (hB : g < B) : OwnB B T e sz w' v n cs := ⟨h.1.keptD hd hB, h.2⟩
end Go.Proofs.YtgigjgjpglmpoaaGreatDoor
namespace Go.Proofs.YtgigjgjpglmpoaaGreatDoor
open Go.RowKit
theorem tagCells_get {ts : List Tag} {ds : List Value} {k : Nat} (hk : k < ts.length) : (tagCells ts ds)[k * 2]? = some (.int .i64 (nthT ts k).1) ∧ (tagCells ts ds)[k * 2 + 1]? = some (nthV ds k) := by
  have hc : ((List.range ts.length).map fun k => [Value.int .i64 (nthT ts k).1, nthV ds k])[k]? = some [Value.int .i64 (nthT ts k).1, nthV ds k] := by simp [hk]
  have hl : ∀ c ∈ ((List.range ts.length).map fun k => [Value.int .i64 (nthT ts k).1, nthV ds k]), c.length = 2 := by simp
  constructor
  · have := flat_get hl hc 0 (by decide)
    exact this
  · have := flat_get hl hc 1 (by decide)
    exact this
theorem list_ext2 {xs ys : List Value} {n : Nat} (hx : xs.length = n * 2) (hy : ys.length = n * 2) (h : ∀ k, k < n → xs[k * 2]? = ys[k * 2]? ∧ xs[k * 2 + 1]? = ys[k * 2 + 1]?) : xs = ys := by
  apply List.ext_getElem?
  intro i
  by_cases hi : i < n * 2
  · have hk := h (i / 2) (by omega)
    rcases Nat.mod_two_eq_zero_or_one i with e | e
    · rw [show i = i / 2 * 2 by omega]; exact hk.1
    · rw [show i = i / 2 * 2 + 1 by omega]; exact hk.2
  · rw [List.getElem?_eq_none (by omega), List.getElem?_eq_none (by omega)]
theorem nthT_set {ts : List Tag} {k : Nat} (hk : k < ts.length) (t : Tag) (j : Nat) : nthT (ts.set k t) j = if j = k then t else nthT ts j := by
  by_cases e : j = k
  · subst e; simp [nthT, hk]
  · simp only [if_neg e, nthT, List.getD_eq_getElem?_getD]; rw [List.getElem?_set_ne (by omega)]
theorem nthV_set {ds : List Value} {k : Nat} (hk : k < ds.length) (d : Value) (j : Nat) : nthV (ds.set k d) j = if j = k then d else nthV ds j := by
  by_cases e : j = k
  · subst e; simp [nthV, hk]
  · simp only [if_neg e, nthV, List.getD_eq_getElem?_getD]; rw [List.getElem?_set_ne (by omega)]
theorem tagCells_setD {ts : List Tag} {ds : List Value} {k : Nat} (h0 : ds.length = ts.length) (hk : k < ts.length) (d : Value) (xs : List Int) :
    (tagCells ts ds).set (k * 2 + 1) d = tagCells (ts.set k ((nthT ts k).1, xs)) (ds.set k d) := by
  refine list_ext2 (n := ts.length) (by rw [List.length_set, tagCells_len]) (by rw [tagCells_len, List.length_set]) fun j hj => ?_
  have hg := tagCells_get (ds := ds) hj
  have hg' := tagCells_get (ts := ts.set k ((nthT ts k).1, xs)) (ds := ds.set k d) (k := j) (by simpa using hj)
  rw [hg'.1, hg'.2, nthT_set hk, nthV_set (by omega)]
  by_cases e : j = k
  · subst e
    refine ⟨?_, ?_⟩
    · rw [List.getElem?_set_ne (by omega), hg.1]; simp
    · rw [List.getElem?_set_self (by rw [tagCells_len]; omega)]; simp
  · refine ⟨?_, ?_⟩
    · rw [List.getElem?_set_ne (by omega), hg.1]; simp [e]
    · rw [List.getElem?_set_ne (by omega), hg.2]; simp [e]
theorem grown_set1 (w : World) (p : Addr) (x : Value) : w.grownBy (w.setCell p x) (some p.block) :=
  ⟨rfl, rfl, rfl, by simp [World.setCell], fun k _ hne => Below.heap_setCell _ _ _ _ (fun e => hne (by rw [e]))⟩
end Go.Proofs.YtgigjgjpglmpoaaGreatDoor
