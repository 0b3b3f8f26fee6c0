/- The reader of a code, and its draws of numbers. -/
import Derived.Test.YtknhfogblfogaaaTagB
import Derived.Maps.AppendAt
namespace Go.Proofs.Ytknhfogblfogaaa
open Go.RowKit
/-- A slice of bytes. -/
def ByteS (w : World) (v : Value) (bs : List Int) : Prop := Row w 1 v bs.length (bs.map (.int .u8)) ∧ ∀ n ∈ bs, (Lit.int .u8 n).wf = true
theorem ByteS.kept {w w' : World} {v : Value} {bs : List Int} (h : ByteS w v bs) (hg : Gr w w') : ByteS w' v bs := ⟨h.1.kept hg, h.2⟩
theorem ByteS.form {w : World} {v : Value} {bs : List Int} (h : ByteS w v bs) : ∃ p cap, v = .slice p bs.length cap ∧ bs.length ≤ cap ∧ cap ≤ 9223372036854775807 := by
  obtain ⟨⟨_, p, cap, h1, h2, h3, _⟩, _⟩ := h
  exact ⟨p, cap, h1, h2, h3⟩
theorem uB : Try.prog.underlying 38 = some (.slice 5) := by kernel_rfl
theorem infoB : ∃ i, Try.prog.info? 5 = some i ∧ i.zero = some (.int .u8 0) ∧ i.size = 1 ∧ i.bytes = 1 := info_parts (by kernel_rfl)
theorem ByteS.ixI {w : World} {p : Option Addr} {cap : Nat} {bs : List Int} (h : ByteS w (.slice p bs.length cap) bs) {i : Int} (h0 : 0 ≤ i) (h1 : i < bs.length) :
    ∃ (a : Addr) (c : Int), (∀ w1, (Instr.indexAt 38 (.slice p bs.length cap) (.int .i64 i)).run Try.prog w1 = .ok (.pointer (some a)) w1) ∧ w.cell? a = some (.int .u8 c) ∧ 0 ≤ c ∧ c ≤ 255 := by
  obtain ⟨k, rfl⟩ := Int.eq_ofNat_of_zero_le h0
  have hk : k < bs.length := by omega
  obtain ⟨i, g1, _, g3, _⟩ := infoB
  obtain ⟨a, f1, f2⟩ := Row.at h.1 uB g1 g3 hk
  refine ⟨a, bs[k], f1, ?_, ?_⟩
  · have := f2 0 (.int .u8 bs[k]) (by simp [hk])
    rwa [addr_add_zero] at this
  · have := h.2 bs[k] (List.getElem_mem hk)
    have e1 : IntKind.u8.min = 0 := by decide
    have e2 : IntKind.u8.max = 255 := by decide
    simp only [Lit.wf, e1, e2, Bool.and_eq_true, decide_eq_true_eq] at this
    exact this

/-- At block g stands the reader of a code, which has read at most m times. -/
def RdAt (w : World) (g m : Nat) : Prop :=
  ∃ (w0 : World) (v : Value) (bs : List Int) (p : Nat), Gr w0 w ∧ w0.heap.size ≤ g ∧ ByteS w0 v bs ∧ bs.length ≤ 2000 ∧ p ≤ m ∧ w.heap[g]? = some (.cells #[v, .int .i64 p] 78 (0, 0))
theorem RdAt.lt {w : World} {g m : Nat} (h : RdAt w g m) : g < w.heap.size := by
  obtain ⟨_, _, _, _, _, _, _, _, _, h⟩ := h
  exact (Array.getElem?_eq_some_iff.1 h).1
theorem RdAt.kept {w w' : World} {g m : Nat} (h : RdAt w g m) (hg : Gr w w') : RdAt w' g m := by
  have hl := h.lt
  obtain ⟨w0, v, bs, p, h1, h2, h3, h4, h5, h6⟩ := h
  exact ⟨w0, v, bs, p, h1.trans hg, h2, h3, h4, h5, by rw [Below.block hg g hl]; exact h6⟩
theorem RdAt.more {w : World} {g m m' : Nat} (h : RdAt w g m) (hm : m ≤ m') : RdAt w g m' := by
  obtain ⟨w0, v, bs, p, h1, h2, h3, h4, h5, h6⟩ := h
  exact ⟨w0, v, bs, p, h1, h2, h3, h4, by omega, h6⟩
/-- Only block g has turned of the old ones. -/
def D (g : Nat) (w w' : World) : Prop := w.grownBy w' (some g)
theorem D.sz {g : Nat} {a b : World} (h : D g a b) : a.heap.size ≤ b.heap.size := h.size
theorem D.refl (g : Nat) (w : World) : D g w w := World.grownBy.refl w _
theorem D.trans {g : Nat} {a b c : World} (h : D g a b) (k : D g b c) : D g a c :=
  ⟨k.os.trans h.os, k.tape.trans h.tape, k.output.trans h.output, Nat.le_trans h.size k.size, fun i hi hne => (k.block i (Nat.lt_of_lt_of_le hi h.size) hne).trans (h.block i hi hne)⟩
theorem D.ofGr {g : Nat} {a b : World} (h : Gr a b) : D g a b := ⟨h.os, h.tape, h.output, h.size, fun i hi _ => h.block i hi⟩
theorem D.gr {g : Nat} {a b c : World} (h : D g b c) (hg : Gr a b) (hB : a.heap.size ≤ g) : Gr a c :=
  Below.trans hg ⟨h.os, h.tape, h.output, h.size, fun k hk => h.block k (Nat.lt_of_lt_of_le hk hg.size) (by simp; omega)⟩
theorem D.ofBelow {g : Nat} {a b : World} (h : D g a b) (k : Nat) (hk : k < a.heap.size) (hne : k ≠ g) : b.heap[k]? = a.heap[k]? := h.block k hk (by simpa using hne)
theorem Own.keptD {B e sz g : Nat} {w w' : World} {v : Value} {n : Nat} {cs : List Value} (h : Own B e sz w v n cs) (hd : D g w w') (hB : g < B) : Own B e sz w' v n cs :=
  h.keptOf fun k hk hl => hd.block k hl (by simp; omega)
theorem IntO.keptD {B e g : Nat} {w w' : World} {v : Value} {xs : List Int} (h : IntO B e w v xs) (hd : D g w w') (hB : g < B) : IntO B e w' v xs := Own.keptD h hd hB
theorem fA0 (g : Nat) : (⟨g, 0, none⟩ : Addr).add 0 = ⟨g, 0, none⟩ := rfl
/-- The code may be as long as it likes. -/
theorem l6Open_c {w : World} {v : Value} {bs : List Int} (h : ByteS w v bs) :
    Calls Try.prog 45 #[v] w fun e w' => e = .returned (.pointer (some ⟨w.heap.size, 0, none⟩)) ∧ RdAt w' w.heap.size 0 ∧ Gr w w' := by
  obtain ⟨p, cap, rfl, hl1, hl2⟩ := h.form
  by_cases hn : bs.length ≤ 2000
  · have hn' : (decide (2000 < (bs.length : Int))) = false := by simp; omega
    go_enter Try.func45, Try.ntmps45
    go_wp2
    go_ret
    exact ⟨rfl, ⟨w, _, bs, 0, gr_alloc w _, Nat.le_refl _, h, hn, Nat.le_refl _, heap_alloc_new w _⟩, gr_alloc w _⟩
  · have hn' : (decide (2000 < (bs.length : Int))) = true := by simp; omega
    obtain ⟨i, g1, _, g3, _⟩ := infoB
    obtain ⟨v', hsl, hrow⟩ := Row.cut h.1 uB g1 g3 (Nat.zero_le 2000) (show 2000 ≤ bs.length by omega)
    have hbs : ByteS w v' (bs.take 2000) := by
      refine ⟨?_, fun n hn => h.2 n (List.mem_of_mem_take hn)⟩
      rw [List.length_take, show min 2000 bs.length = 2000 by omega, List.map_take]
      simpa using hrow
    have hsl' : ∀ w1, (Instr.slice 38 (.slice p bs.length cap) none (some (.int .i64 2000)) none).run Try.prog w1 = .ok v' w1 := by
      intro w1
      rw [← hsl w1]
      simp [Instr.slice, run_underlying uB, Instr.sliceBounds, Instr.sliceBound, asIntOf, sizeOf, typeInfo, g1]
    obtain ⟨p', cap', hv', hl1', hl2'⟩ := hbs.form
    subst hv'
    go_enter Try.func45, Try.ntmps45
    go_wp2
    go_ret
    exact ⟨rfl, ⟨w, _, bs.take 2000, 0, gr_alloc w _, Nat.le_refl _, hbs, by rw [List.length_take]; omega, Nat.le_refl _, by rw [List.length_take]; exact heap_alloc_new w _⟩, gr_alloc w _⟩
theorem xor_nonneg (a b : Int) (ha : 0 ≤ a) (ha' : a < 9223372036854775808) (hb : 0 ≤ b) (hb' : b < 9223372036854775808) : 0 ≤ bits .xor .i64 a b ∧ bits .xor .i64 a b ≤ 9223372036854775807 := by
  obtain ⟨x, rfl⟩ := Int.eq_ofNat_of_zero_le ha
  obtain ⟨y, rfl⟩ := Int.eq_ofNat_of_zero_le hb
  have hx : x < 2 ^ 63 := by omega
  have hy : y < 2 ^ 63 := by omega
  have hxy : x ^^^ y < 2 ^ 63 := Nat.xor_lt_two_pow hx hy
  have key : (BitVec.ofInt 64 (x : Int) ^^^ BitVec.ofInt 64 (y : Int)).toNat = x ^^^ y := by
    rw [BitVec.toNat_xor, BitVec.toNat_ofInt, BitVec.toNat_ofInt]
    congr 1 <;> omega
  show 0 ≤ IntKind.i64.wrap ((BitVec.ofInt 64 (x : Int) ^^^ BitVec.ofInt 64 (y : Int)).toNat : Nat) ∧ IntKind.i64.wrap ((BitVec.ofInt 64 (x : Int) ^^^ BitVec.ofInt 64 (y : Int)).toNat : Nat) ≤ 9223372036854775807
  rw [key, IntKind.wrap_i64]
  omega

theorem heap_set {w : World} {g j : Nat} {cs : Array Value} {t : TypeId} {x : Value} (h : w.heap[g]? = some (.cells cs t (0, 0))) : (w.setCell ⟨g, j, none⟩ x).heap[g]? = some (.cells (cs.setIfInBounds j x) t (0, 0)) :=
  heap_setCell_same w g j cs t x h
theorem D.set {g : Nat} {a b : World} (h : D g a b) (j : Nat) (x : Value) : D g a (b.setCell ⟨g, j, none⟩ x) :=
  ⟨h.os, h.tape, h.output, by simpa [World.setCell] using h.size, fun k hk hne => by rw [Below.heap_setCell _ _ _ _ (by simpa using hne)]; exact h.block k hk hne⟩
/-- A draw: a number from 0 to n-1. -/
def Picked (n : Int) (g m : Nat) (w : World) (e : Ending) (w' : World) : Prop := ∃ r : Int, e = .returned (.int .i64 r) ∧ 0 ≤ r ∧ r < n ∧ RdAt w' g (m + 1) ∧ D g w w'
set_option maxHeartbeats 1000000 in
theorem pick_c {w : World} {g m : Nat} (h : RdAt w g m) (hm : m ≤ 1000000) (n : Int) (hn : 1 ≤ n) (hn' : n ≤ 1000000) :
    Calls Try.prog 48 #[.pointer (some ⟨g, 0, none⟩), .int .i64 n] w (Picked n g m w) := by
  obtain ⟨w0, v, bs, p, h1, h2, h3, h4, h5, h6⟩ := h
  obtain ⟨q, cap, rfl, hl1, hl2⟩ := h3.form
  have hc0 : w.cell? ⟨g, 0, none⟩ = some (.slice q bs.length cap) := by simp [World.cell?, h6]
  have hc1 : w.cell? ⟨g, 1, none⟩ = some (.int .i64 p) := by simp [World.cell?, h6]
  have hf1 : w.frozen? ⟨g, 1, none⟩ = false := by simp [World.frozen?, h6]
  have hr : RdAt (w.setCell ⟨g, 1, none⟩ (.int .i64 ((p : Int) + 1))) g (m + 1) :=
    ⟨w0, _, bs, p + 1, (D.set (D.refl g w) 1 _).gr h1 h2, h2, h3, h4, by omega, heap_set h6⟩
  have hd : D g w (w.setCell ⟨g, 1, none⟩ (.int .i64 ((p : Int) + 1))) := D.set (D.refl g w) 1 _
  have hg : Gr w0 (w.setCell ⟨g, 1, none⟩ (.int .i64 ((p : Int) + 1))) := hd.gr h1 h2
  have hp : p ≤ 1000000 := by omega
  clear h6 h1
  by_cases hz : bs.length = 0
  · have hz' : ((bs.length : Int) == 0) = true := by simp; exact List.eq_nil_of_length_eq_zero hz
    have HZ := Lib.hid hz; clear hz
    go_enter Try.func48, Try.ntmps48
    go_wp2
    go_ret
    exact ⟨0, rfl, by omega, by omega, hr, hd⟩
  · have hz' : ((bs.length : Int) == 0) = false := by simp; intro e; simp [e] at hz
    by_cases hk : p < bs.length
    · obtain ⟨a, c, hix, hca, hc3, hc4⟩ := h3.ixI (i := (p : Int)) (by omega) (by omega)
      have hcc := hg.cell hca
      go_enter Try.func48, Try.ntmps48
      go_wp2
      go_ret
      exact ⟨c % n, rfl, Int.emod_nonneg _ (by omega), Int.emod_lt_of_pos _ (by omega), hr, hd⟩
    · have hlpos : (1 : Int) ≤ (bs.length : Int) := by omega
      have hi1a : (0 : Int) ≤ (p : Int) % (bs.length : Int) := Int.emod_nonneg _ (by omega)
      have hi1b : (p : Int) % (bs.length : Int) < (bs.length : Int) := Int.emod_lt_of_pos _ (by omega)
      have hi2a : (0 : Int) ≤ ((p : Int) * 7 + 3) % (bs.length : Int) := Int.emod_nonneg _ (by omega)
      have hi2b : ((p : Int) * 7 + 3) % (bs.length : Int) < (bs.length : Int) := Int.emod_lt_of_pos _ (by omega)
      have hq0 : 0 ≤ (p : Int) / (bs.length : Int) := Int.ediv_nonneg (by omega) (by omega)
      have hq1 : (p : Int) / (bs.length : Int) ≤ 1000000 := Int.le_trans (Int.ediv_le_self _ (by omega)) (by omega)
      obtain ⟨a, c, hix, hca, hc3, hc4⟩ := h3.ixI hi1a hi1b
      obtain ⟨b, d, hjx, hcb, hd3, hd4⟩ := h3.ixI hi2a hi2b
      have hcc := hg.cell hca
      have hcd := hg.cell hcb
      have hpk : (bs.length : Int) ≤ (p : Int) := by omega
      clear hk hca hcb
      go_enter Try.func48, Try.ntmps48
      go_wp2_with fail
      go_quiet (fail)
      generalize hX : c * 131 + d * 1117 + (p : Int) * 29 + (p : Int) / (bs.length : Int) * 53 = X at *
      have hX0 : 0 ≤ X := by omega
      have hX1 : X ≤ 1000000000 := by omega
      have HX := Lib.hid hX; clear hX
      have hxr := xor_nonneg X (X / 64) hX0 (by omega) (by omega) (by omega)
      go_wp2
      go_ret
      exact ⟨_, rfl, Int.emod_nonneg _ (by omega), Int.emod_lt_of_pos _ (by omega), hr.kept (gr_drewN _ _), hd.trans (D.ofGr (gr_drewN _ _))⟩
end Go.Proofs.Ytknhfogblfogaaa
