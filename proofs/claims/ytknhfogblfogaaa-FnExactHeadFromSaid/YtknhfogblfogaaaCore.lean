/- Slices, rows and worlds: plain words for what a slice holds, kept over new memory; over every program. -/
import Derived.Test.YtknhfogblfogaaaRows
import Derived.WalkKit
import Derived.WalkSpells
import Derived.LoopTactic
import Derived.Lib.Hide
import Derived.BigQuiet
import Derived.Deep.QuietTactic
namespace Go.Proofs.Ytknhfogblfogaaa
open Go.RowKit

/-- No old block has turned. -/
def Gr (w w' : World) : Prop := Below w.heap.size w w'
theorem Gr.refl (w : World) : Gr w w := Below.refl _ _
theorem Gr.trans {a b c : World} (h : Gr a b) (k : Gr b c) : Gr a c := Below.trans h (Below.mono k h.size)
theorem Gr.drew {a b : World} (h : Gr a b) : Gr a b.drew := Below.drew h
theorem Gr.drewN {a b : World} (h : Gr a b) (n : Nat) : Gr a (b.drewN n) := ⟨h.os, h.tape, h.output, h.size, h.block⟩
theorem Gr.alloc {a b : World} (h : Gr a b) (o : Obj) : Gr a (b.alloc o) := Below.alloc h h.size o
theorem Gr.below {B : Nat} {a b : World} (h : Gr a b) (hB : B ≤ a.heap.size) : Below B a b := Below.mono h hB
theorem Gr.thenB {a b c : World} (h : Gr a b) (k : Below a.heap.size b c) : Gr a c := Below.trans h k
theorem Gr.thenBB {a b c d : World} (h : Gr a b) (k : Below a.heap.size b c) (l : Below a.heap.size c d) : Gr a d := Below.trans (Below.trans h k) l
theorem Gr.sz {a b : World} (h : Gr a b) : a.heap.size ≤ b.heap.size := h.size
theorem Gr.cell {a b : World} (h : Gr a b) {p : Addr} {v : Value} (hc : a.cell? p = some v) : b.cell? p = some v :=
  (Below.cell h (World.block_lt_of_cell? a p hc)).trans hc

/-- A slice of n elements of sz cells each; its cells are cs. -/
def Row (w : World) (sz : Nat) (v : Value) (n : Nat) (cs : List Value) : Prop :=
  cs.length = n * sz ∧ ∃ p cap, v = .slice p n cap ∧ n ≤ cap ∧ cap ≤ 9223372036854775807 ∧ (p = none → cap = 0) ∧
    ∀ a, p = some a → ∀ j u, cs[j]? = some u → w.cell? (a.add j) = some u

/-- A slice in memory from block B on, that nothing else reads, at the head of its row; or nil. -/
def Own (B e sz : Nat) (w : World) (v : Value) (n : Nat) (cs : List Value) : Prop :=
  w.ownsRow B e sz v n cs

theorem Row.kept {w w' : World} {sz : Nat} {v : Value} {n : Nat} {cs : List Value} (h : Row w sz v n cs) (hg : Gr w w') : Row w' sz v n cs := by
  obtain ⟨hl, p, cap, rfl, h1, h2, h3, h4⟩ := h
  exact ⟨hl, p, cap, rfl, h1, h2, h3, fun a ha j u hu => hg.cell (h4 a ha j u hu)⟩

theorem Own.row {B e sz : Nat} {w : World} {v : Value} {n : Nat} {cs : List Value} (h : Own B e sz w v n cs) : Row w sz v n cs := by
  rcases h.2 with ⟨rfl, rfl⟩ | ⟨g, cap, cur, rfl, hb, hg, hnc, hcm, hcs, htake⟩
  · exact ⟨h.1, none, 0, rfl, by omega, by omega, fun _ => rfl, fun a ha => by cases ha⟩
  · refine ⟨h.1, some ⟨g, 0, none⟩, cap, rfl, hnc, by unfold maxLen at hcm; omega, by simp, fun a ha => ?_⟩
    obtain rfl := Option.some.inj ha
    exact World.ownsRow.cells h rfl

theorem Own.mono {B B' e sz : Nat} {w : World} {v : Value} {n : Nat} {cs : List Value} (h : Own B e sz w v n cs) (hB : B' ≤ B) : Own B' e sz w v n cs := by
  rcases h with ⟨h1, h2 | ⟨g, cap, cur, h3, h4, h5⟩⟩
  · exact ⟨h1, .inl h2⟩
  · exact ⟨h1, .inr ⟨g, cap, cur, h3, Nat.le_trans hB h4, h5⟩⟩

/-- Kept where the blocks from B on keep what they hold. -/
theorem Own.keptOf {B e sz : Nat} {w w' : World} {v : Value} {n : Nat} {cs : List Value} (h : Own B e sz w v n cs) (hk : ∀ k, B ≤ k → k < w.heap.size → w'.heap[k]? = w.heap[k]?) : Own B e sz w' v n cs := by
  rcases h with ⟨h1, h2 | ⟨g, cap, cur, h3, h4, h5, h6⟩⟩
  · exact ⟨h1, .inl h2⟩
  · exact ⟨h1, .inr ⟨g, cap, cur, h3, h4, by rw [hk g h4 (Array.getElem?_eq_some_iff.1 h5).1]; exact h5, h6⟩⟩
theorem Own.kept {B e sz : Nat} {w w' : World} {v : Value} {n : Nat} {cs : List Value} (h : Own B e sz w v n cs) (hg : Gr w w') : Own B e sz w' v n cs :=
  h.keptOf fun k _ hk => Below.block hg k hk
/-- Its row lies between B and the heap's end. -/
theorem Own.blk {B e sz : Nat} {w : World} {v : Value} {n : Nat} {cs : List Value} (h : Own B e sz w v n cs) : ∀ k, v.ownBlock = some k → B ≤ k ∧ k < w.heap.size := World.ownsRow.lt h
/-- Another's row has turned, one of the blocks from B' to T. -/
theorem Own.other {B e sz : Nat} {w w' : World} {v : Value} {n : Nat} {cs : List Value} (h : Own B e sz w v n cs) {row : Option Nat} (hg : w.grownBy w' row) {B' T : Nat} (hr : ∀ k, row = some k → B' ≤ k ∧ k < T) (hd : T ≤ B ∨ ∀ k, v.ownBlock = some k → k < B') : Own B e sz w' v n cs := by
  refine World.ownsRow.kept h hg ?_
  cases hv : v.ownBlock with
  | none => exact .inl rfl
  | some k =>
    refine .inr fun heq => ?_
    obtain ⟨h1, h2⟩ := hr k heq.symm
    have h3 := (h.blk k hv).1
    rcases hd with hd | hd
    · omega
    · have := hd k hv; omega
theorem grown_below {w w' : World} {row : Option Nat} (hg : w.grownBy w' row) {B T : Nat} (hr : ∀ k, row = some k → B ≤ k ∧ k < T) (hB : B ≤ w.heap.size) : Below B w w' :=
  (Below.refl B w).grown hg hB fun k hk => (hr k hk).1

/-- At most the blocks from B up to T have turned, and none is new. -/
structure Chg (B T : Nat) (w w' : World) : Prop where
  os : w'.os = w.os
  tape : w'.tape = w.tape
  output : w'.output = w.output
  size : w'.heap.size = w.heap.size
  block : ∀ k, (k < B ∨ T ≤ k) → w'.heap[k]? = w.heap[k]?
theorem Chg.refl (B T : Nat) (w : World) : Chg B T w w := ⟨rfl, rfl, rfl, rfl, fun _ _ => rfl⟩
theorem Chg.trans {B T : Nat} {a b c : World} (h : Chg B T a b) (k : Chg B T b c) : Chg B T a c :=
  ⟨k.os.trans h.os, k.tape.trans h.tape, k.output.trans h.output, k.size.trans h.size, fun i hi => (k.block i hi).trans (h.block i hi)⟩
theorem Chg.wide {B T B' T' : Nat} {a b : World} (h : Chg B T a b) (h1 : B' ≤ B) (h2 : T ≤ T') : Chg B' T' a b := ⟨h.os, h.tape, h.output, h.size, fun i hi => h.block i (by omega)⟩
theorem Chg.set {B T : Nat} {a b : World} (h : Chg B T a b) {p : Addr} (h1 : B ≤ p.block) (h2 : p.block < T) (x : Value) : Chg B T a (b.setCell p x) :=
  h.trans ⟨rfl, rfl, rfl, by simp [World.setCell], fun k hk => Below.heap_setCell _ _ _ _ (by omega)⟩
theorem Chg.gr {B T : Nat} {a b c : World} (h : Chg B T b c) (hg : Gr a b) (hB : a.heap.size ≤ B) : Gr a c :=
  Below.trans hg ⟨h.os, h.tape, h.output, by rw [h.size]; exact Nat.le_refl _, fun k hk => h.block k (by omega)⟩
theorem Chg.below {B T : Nat} {b c : World} (h : Chg B T b c) : Below B b c := ⟨h.os, h.tape, h.output, by rw [h.size]; exact Nat.le_refl _, fun k hk => h.block k (by omega)⟩
/-- What is owned lies in the blocks from B up to T. -/
def OwnB (B T e sz : Nat) (w : World) (v : Value) (n : Nat) (cs : List Value) : Prop := Own B e sz w v n cs ∧ ∀ k, v.ownBlock = some k → k < T
theorem Own.b {B e sz : Nat} {w : World} {v : Value} {n : Nat} {cs : List Value} (h : Own B e sz w v n cs) : OwnB B w.heap.size e sz w v n cs := ⟨h, fun k hk => (h.blk k hk).2⟩
theorem OwnB.kept {B T e sz : Nat} {w w' : World} {v : Value} {n : Nat} {cs : List Value} (h : OwnB B T e sz w v n cs) (hg : Gr w w') : OwnB B T e sz w' v n cs := ⟨h.1.kept hg, h.2⟩
theorem OwnB.wide {B T B' T' e sz : Nat} {w : World} {v : Value} {n : Nat} {cs : List Value} (h : OwnB B T e sz w v n cs) (h1 : B' ≤ B) (h2 : T ≤ T') : OwnB B' T' e sz w v n cs := ⟨h.1.mono h1, fun k hk => Nat.lt_of_lt_of_le (h.2 k hk) h2⟩
theorem OwnB.chg {B T e sz B' T' : Nat} {w w' : World} {v : Value} {n : Nat} {cs : List Value} (h : OwnB B T e sz w v n cs) (hc : Chg B' T' w w') (hd : T ≤ B' ∨ T' ≤ B) : OwnB B T e sz w' v n cs := by
  refine ⟨?_, h.2⟩
  rcases h.1 with ⟨h1, h2 | ⟨g, cap, cur, h3, h4, h5, h6⟩⟩
  · exact ⟨h1, .inl h2⟩
  · have hT := h.2 g (by rw [h3]; rfl)
    exact ⟨h1, .inr ⟨g, cap, cur, h3, h4, by rw [hc.block g (by omega)]; exact h5, h6⟩⟩

section
variable {P : Program}
theorem addr_add_add (a : Addr) (i j : Nat) : (a.add i).add j = a.add (i + j) := by
  unfold Addr.add
  by_cases hi : i = 0 <;> by_cases hj : j = 0 <;> simp [hi, hj, Nat.add_assoc]
theorem addr_add_zero (a : Addr) : a.add 0 = a := by simp [Addr.add]
/-- The place of an element. -/
theorem Row.at {w : World} {sz : Nat} {p : Option Addr} {cap n : Nat} {cs : List Value} (h : Row w sz (.slice p n cap) n cs) {t e : TypeId} {i : TypeInfo}
    (ht : P.underlying t = some (.slice e)) (hi : P.info? e = some i) (hsz : i.size = sz) {k : Nat} (hk : k < n) :
    ∃ a : Addr, (∀ w1, (Instr.indexAt t (.slice p n cap) (.int .i64 (k : Int))).run P w1 = .ok (.pointer (some a)) w1) ∧
      ∀ j u, cs[k * sz + j]? = some u → w.cell? (a.add j) = some u := by
  obtain ⟨hl, p', cap', hv, h1, h2, h3, h4⟩ := h
  simp only [Value.slice.injEq, true_and] at hv
  obtain ⟨rfl, rfl⟩ := hv
  cases p with
  | none => have := h3 rfl; omega
  | some b =>
    have hc := h4 b rfl
    refine ⟨b.add (k * sz), fun w1 => ?_, fun j u hu => ?_⟩
    · subst hsz
      simp [Instr.indexAt, run_underlying ht, asIntOf, sizeOf, typeInfo, hi, hk]
    · rw [addr_add_add b]; exact hc _ _ hu

/-- A store into an owned slice: the place, and what is owned then. -/
theorem Own.at {B e' sz : Nat} {w : World} {v : Value} {n : Nat} {cs : List Value} (h : Own B e' sz w v n cs) {t e : TypeId} {i : TypeInfo}
    (ht : P.underlying t = some (.slice e)) (hi : P.info? e = some i) (hsz : i.size = sz) {k : Nat} (hk : k < n) :
    ∃ a : Addr, (∀ w1, (Instr.indexAt t v (.int .i64 (k : Int))).run P w1 = .ok (.pointer (some a)) w1) ∧ B ≤ a.block ∧ a.block < w.heap.size ∧
      (∀ j u, cs[k * sz + j]? = some u → w.cell? (a.add j) = some u) ∧ (∀ j, w.frozen? (a.add j) = false) ∧
      (∀ j x, Own B e' sz (w.setCell (a.add j) x) v n (cs.set (k * sz + j) x)) ∧ v.ownBlock = some a.block := by
  replace h : w.ownsRow B e' sz v n cs := h
  · rcases h.2 with ⟨_, rfl⟩ | ⟨g, cap, cur, rfl, hb, hg, hnc, hcm, hcs, htake⟩
    · omega
    · have hadd : ∀ m, (⟨g, 0, none⟩ : Addr).add m = ⟨g, m, none⟩ := fun m => by unfold Addr.add; split <;> simp_all
      refine ⟨⟨g, k * sz, none⟩, fun w1 => ?_, hb, (Array.getElem?_eq_some_iff.1 hg).1, ?_, ?_, ?_, rfl⟩
      · subst hsz
        simp [Instr.indexAt, run_underlying ht, asIntOf, sizeOf, typeInfo, hi, hk, hadd]
      · intro j u hu
        have e2 : (⟨g, k * sz, none⟩ : Addr).add j = ⟨g, k * sz + j, none⟩ := by unfold Addr.add; split <;> simp_all
        rw [e2, ← hadd]; exact h.cells rfl _ _ hu
      · intro j
        have e2 : (⟨g, k * sz, none⟩ : Addr).add j = ⟨g, k * sz + j, none⟩ := by unfold Addr.add; split <;> simp_all
        rw [e2]; exact h.frozenAt _
      · intro j x
        have e2 : (⟨g, k * sz, none⟩ : Addr).add j = ⟨g, k * sz + j, none⟩ := by unfold Addr.add; split <;> simp_all
        rw [e2]; exact (h.stored _ x).1

/-- Slicing a slice up to what it has. -/
theorem Row.cut {w : World} {sz : Nat} {v : Value} {n : Nat} {cs : List Value} (h : Row w sz v n cs) {t e : TypeId} {i : TypeInfo}
    (ht : P.underlying t = some (.slice e)) (hi : P.info? e = some i) (hsz : i.size = sz) {lo hi' : Nat} (h1 : lo ≤ hi') (h2 : hi' ≤ n) :
    ∃ v' : Value, (∀ w1, (Instr.slice t v (some (.int .i64 (lo : Int))) (some (.int .i64 (hi' : Int))) none).run P w1 = .ok v' w1) ∧
      Row w sz v' (hi' - lo) ((cs.drop (lo * sz)).take ((hi' - lo) * sz)) := by
  obtain ⟨hl, p, cap, rfl, c1, c2, c3, c4⟩ := h
  refine ⟨.slice (if cap = lo then p else p.map (·.add (lo * sz))) (hi' - lo) (cap - lo), fun w1 => ?_, ?_⟩
  rotate_left
  · refine ⟨?_, if cap = lo then p else p.map (·.add (lo * sz)), cap - lo, rfl, by omega, by omega, ?_, ?_⟩
    · rw [List.length_take, List.length_drop, hl, ← Nat.sub_mul]
      exact Nat.min_eq_left (Nat.mul_le_mul_right _ (by omega))
    · intro hn
      cases p with
      | none => have := c3 rfl; omega
      | some b => split at hn <;> simp at hn
    · intro a ha
      split at ha
      · rename_i hc
        intro j u hu
        rw [show hi' - lo = 0 from by omega] at hu
        simp at hu
      · cases p with
        | none => simp at ha
        | some b =>
          simp only [Option.map_some, Option.some.injEq] at ha
          subst ha
          have hc := c4 b rfl
          intro j u hu
          rw [addr_add_add b]
          rw [List.getElem?_take] at hu
          split at hu
          · rw [List.getElem?_drop] at hu; exact hc _ _ hu
          · cases hu
  · subst hsz
    have a1 : (0 : Int) ≤ lo := by omega
    have a3 : (lo : Int) ≤ hi' := by omega
    have a4 : (hi' : Int) ≤ cap := by omega
    simp [Instr.slice, run_underlying ht, Instr.sliceBounds, Instr.sliceBound, asIntOf, sizeOf, typeInfo, hi, h1, show hi' ≤ cap by omega]

/-- append onto what is owned. -/
theorem Own.append (w : World) {B t ty e : TypeId} {i : TypeInfo} {z : Value} {sz by_ : Nat} (ht : P.underlying t = some (.slice e)) (hi : P.info? e = some i) (hz : i.zero = some z)
    (hsz : i.size = sz) (hby : i.bytes = by_) (hzs : z.cells.size = sz) (h0 : 0 < sz)
    {v : Value} {n : Nat} {cs : List Value} (hown : Own B e sz w v n cs) {x : Value} {m : Nat} {ds : List Value} (hx : Row w sz x m ds) (h1 : ∀ u ∈ ds, u.oneCell' = true)
    (hbytes : (n + m) * by_ ≤ 140737488355328) (hb0 : 0 < by_) (hB : B ≤ w.heap.size) :
    ∃ v' w', (Builtin.append_ #[t, t] ty #[v, x]).run P w = .ok v' w' ∧ Own B e sz w' v' (n + m) (cs ++ ds) ∧ Below B w w' := by
  have h63 : n + m ≤ maxLen := by
    have : n + m ≤ (n + m) * by_ := Nat.le_mul_of_pos_right _ hb0
    unfold maxLen; omega
  obtain ⟨hl, p, cap, rfl, c1, c2, c3, c4⟩ := hx
  cases p with
  | none =>
    obtain rfl := c3 rfl
    obtain rfl : m = 0 := by omega
    obtain rfl : ds = [] := List.eq_nil_of_length_eq_zero (by simpa using hl)
    exact ⟨v, w, run_append_owned_none w B t ty e i sz ht hi v n cs hown, by rw [Nat.add_zero, List.append_nil]; exact hown, Below.refl _ _⟩
  | some a =>
    obtain ⟨v', w', hr, q1, q2, _⟩ := run_append_own (P := P) w B t ty e i z sz by_ ht hi hz hsz hby hzs h0 v n cs hown a m cap ds hl (c4 a rfl) h1 h63 hbytes hB
    exact ⟨v', w', hr, q1, (Below.refl B w).grown q2 hB (fun k hk => (hown.blk k hk).1)⟩

theorem wpl_append (w : World) {ops : Array Oper} {rest : List Oper} {o : Oper} {a : Act} {Q : Exit → Act → World → Prop} (hgd : o.guard = none) (s x : Operand) (t : TypeId)
    (ho : o.op = .call { callee := .builtin .append, args := #[s, x], argTypes := #[t, t] })
    {B e : TypeId} {i : TypeInfo} {z : Value} {sz by_ : Nat} (ht : P.underlying t = some (.slice e)) (hi : P.info? e = some i) (hz : i.zero = some z)
    (hsz : i.size = sz) (hby : i.bytes = by_) (hzs : z.cells.size = sz) (h0 : 0 < sz) (hb0 : 0 < by_)
    {v : Value} {n : Nat} {cs : List Value} (hs : a.eval s = v) (hown : Own B e sz w v n cs) {xv : Value} {m : Nat} {ds : List Value} (hx : a.eval x = xv) (hrow : Row w sz xv m ds) (h1 : ∀ u ∈ ds, u.oneCell' = true)
    (hbytes : (n + m) * by_ ≤ 140737488355328) (hB : B ≤ w.heap.size)
    (h : ∀ v' w', Own B e sz w' v' (n + m) (cs ++ ds) → Below B w w' → wpList P ops Q rest (a.put o.dst v') w') : wpList P ops Q (o :: rest) a w := by
  refine wpList_plain hgd fun K hK => ?_
  obtain ⟨v', w', hr, h2, h3⟩ := Own.append (P := P) w (ty := o.type) ht hi hz hsz hby hzs h0 hown hrow h1 hbytes hb0 hB
  unfold Oper.wp execOp
  simp only [ho, resolve, invoke, builtin, Sem.run_bind, Sem.run_pure, Result.andThen_ok, List.map_toArray, List.map_cons, List.map_nil, hs, hx, hr]
  exact hK _ _ (h v' w' h2 h3)

/-- make([]T, n). -/
theorem wpl_make (w : World) {ops : Array Oper} {rest : List Oper} {o : Oper} {a : Act} {Q : Exit → Act → World → Prop} (hgd : o.guard = none) (l c : Operand) (t : TypeId)
    (ho : o.op = Op.makeSlice t l c) {e : TypeId} {i : TypeInfo} {z : Value} {sz by_ : Nat} (ht : P.underlying t = some (.slice e)) (hi : P.info? e = some i) (hz : i.zero = some z)
    (hsz : i.size = sz) (hby : i.bytes = by_) {n : Nat} (hl : a.eval l = .int .i64 (n : Int)) (hc : a.eval c = .int .i64 (n : Int)) (hb : by_ * n ≤ 281474976710656) (hn : n ≤ 9223372036854775807)
    (h : ∀ v' w', Own w.heap.size e sz w' v' n (madeCells z.cells (n * sz)).toList → Gr w w' → wpList P ops Q rest (a.put o.dst v') w') : wpList P ops Q (o :: rest) a w := by
  subst hby
  exact wpList_make_full w hgd l c t ho w.heap.size e i z sz ht hi hz hsz .i64 .i64 n n n hl hc rfl rfl hb (by unfold maxLen; omega) (Nat.le_refl _)
    fun w' h1 h2 => h _ w' h1 ((Below.refl _ w).grown h2 (Nat.le_refl _) (by simp))

/-- The first elements of what is owned. -/
theorem Own.pre {B e' sz : Nat} {w : World} {v : Value} {n : Nat} {cs : List Value} (h : Own B e' sz w v n cs) {t e : TypeId} {i : TypeInfo}
    (ht : P.underlying t = some (.slice e)) (hi : P.info? e = some i) (hsz : i.size = sz) {k : Nat} (hk : k ≤ n) :
    ∃ v' : Value, (∀ w1, (Instr.slice t v none (some (.int .i64 (k : Int))) none).run P w1 = .ok v' w1) ∧ Own B e' sz w v' k (cs.take (k * sz)) := by
  have run : ∀ (p : Option Addr) (n' cap : Nat), k ≤ cap → ∀ w1, (Instr.slice t (.slice p n' cap) none (some (.int .i64 (k : Int))) none).run P w1 = .ok (.slice p k cap) w1 := by
    intro p n' cap hc w1
    subst hsz
    have : (if cap = 0 then p else p.map (·.add 0)) = p := by
      split
      · rfl
      · cases p <;> simp [addr_add_zero]
    simp [Instr.slice, run_underlying ht, Instr.sliceBounds, Instr.sliceBound, asIntOf, sizeOf, typeInfo, hi, hc, this]
  rcases h.2 with ⟨rfl, rfl⟩ | ⟨g, cap, cur, rfl, hb, hg, hnc, hcm, hcs, htake⟩
  · obtain rfl : k = 0 := by omega
    exact ⟨_, run none 0 0 (Nat.le_refl _), ⟨by simp, .inl ⟨rfl, rfl⟩⟩⟩
  · refine ⟨_, run _ n cap (by omega), ⟨?_, .inr ⟨g, cap, cur, rfl, hb, hg, by omega, hcm, hcs, ?_⟩⟩⟩
    · rw [List.length_take, h.1]; exact Nat.min_eq_left (Nat.mul_le_mul_right _ hk)
    · rw [← htake, List.take_take]
      congr 1
      exact (Nat.min_eq_left (Nat.mul_le_mul_right _ hk)).symm

/-- A literal's row. -/
theorem Own.lit {B e sz : Nat} (w : World) (cs : Array Value) (n : Nat) (hB : B ≤ w.heap.size) (hn : n ≤ 9223372036854775807) (hs : cs.size = n * sz) :
    Own B e sz (w.alloc (.cells cs e)) (.slice (some ⟨w.heap.size, 0, none⟩) n n) n cs.toList := (World.ownsRow_lit w cs n hB (by unfold maxLen; omega) hs)
end

/-- Integers. -/
def ints (xs : List Int) : List Value := xs.map (.int .i64)
def nth (xs : List Int) (i : Nat) : Int := xs.getD i 0
theorem ints_length (xs : List Int) : (ints xs).length = xs.length := by simp [ints]
theorem ints_append (xs ys : List Int) : ints (xs ++ ys) = ints xs ++ ints ys := by simp [ints]
theorem ints_one (xs : List Int) : ∀ u ∈ ints xs, u.oneCell' = true := ints_oneCell .i64 xs
theorem ints_nth (xs : List Int) (k : Nat) (h : k < xs.length) : (ints xs)[k]? = some (.int .i64 (nth xs k)) := by simp [ints, nth, h]
theorem ints_set (xs : List Int) (k : Nat) (x : Int) : (ints xs).set k (.int .i64 x) = ints (xs.set k x) := by simp [ints]
theorem ints_take (xs : List Int) (k : Nat) : (ints xs).take k = ints (xs.take k) := by simp [ints]
theorem ints_drop (xs : List Int) (k : Nat) : (ints xs).drop k = ints (xs.drop k) := by simp [ints]
theorem ints_replicate (n : Nat) (x : Int) : List.replicate n (Value.int .i64 x) = ints (List.replicate n x) := by simp [ints]

/-- v is a slice of ints that reads as xs. -/
def IntS (w : World) (v : Value) (xs : List Int) : Prop := Row w 1 v xs.length (ints xs)
/-- .. and lies in memory of its own from block B on. -/
def IntO (B e : Nat) (w : World) (v : Value) (xs : List Int) : Prop := Own B e 1 w v xs.length (ints xs)
theorem IntS.kept {w w' : World} {v : Value} {xs : List Int} (h : IntS w v xs) (hg : Gr w w') : IntS w' v xs := Row.kept h hg
theorem IntO.kept {B e : Nat} {w w' : World} {v : Value} {xs : List Int} (h : IntO B e w v xs) (hg : Gr w w') : IntO B e w' v xs := Own.kept h hg
theorem IntO.s {B e : Nat} {w : World} {v : Value} {xs : List Int} (h : IntO B e w v xs) : IntS w v xs := Own.row h
theorem IntO.mono {B B' e : Nat} {w : World} {v : Value} {xs : List Int} (h : IntO B e w v xs) (hB : B' ≤ B) : IntO B' e w v xs := Own.mono h hB
theorem IntO.blk {B e : Nat} {w : World} {v : Value} {xs : List Int} (h : IntO B e w v xs) : ∀ k, v.ownBlock = some k → B ≤ k ∧ k < w.heap.size := Own.blk h
theorem IntS.form {w : World} {v : Value} {xs : List Int} (h : IntS w v xs) : ∃ p cap, v = .slice p xs.length cap ∧ xs.length ≤ cap ∧ cap ≤ 9223372036854775807 := by
  obtain ⟨_, p, cap, h1, h2, h3, _⟩ := h
  exact ⟨p, cap, h1, h2, h3⟩
theorem IntO.nil (B e : Nat) (w : World) : IntO B e w (.slice none 0 0) [] := World.ownsRow_nil w B e 1
/-- .. in the blocks from B up to T. -/
def IntB (B T e : Nat) (w : World) (v : Value) (xs : List Int) : Prop := OwnB B T e 1 w v xs.length (ints xs)
theorem IntO.b {B e : Nat} {w : World} {v : Value} {xs : List Int} (h : IntO B e w v xs) : IntB B w.heap.size e w v xs := Own.b h
theorem IntB.o {B T e : Nat} {w : World} {v : Value} {xs : List Int} (h : IntB B T e w v xs) : IntO B e w v xs := h.1
theorem IntB.s {B T e : Nat} {w : World} {v : Value} {xs : List Int} (h : IntB B T e w v xs) : IntS w v xs := h.1.row
theorem IntB.kept {B T e : Nat} {w w' : World} {v : Value} {xs : List Int} (h : IntB B T e w v xs) (hg : Gr w w') : IntB B T e w' v xs := OwnB.kept h hg
theorem IntB.chg {B T e B' T' : Nat} {w w' : World} {v : Value} {xs : List Int} (h : IntB B T e w v xs) (hc : Chg B' T' w w') (hd : T ≤ B' ∨ T' ≤ B) : IntB B T e w' v xs := OwnB.chg h hc hd
theorem IntB.wide {B T B' T' e : Nat} {w : World} {v : Value} {xs : List Int} (h : IntB B T e w v xs) (h1 : B' ≤ B) (h2 : T ≤ T') : IntB B' T' e w v xs := OwnB.wide h h1 h2
section
variable {P : Program} {w : World} {t e : TypeId} {i : TypeInfo}
theorem IntS.at {p : Option Addr} {cap : Nat} {xs : List Int} (h : IntS w (.slice p xs.length cap) xs)
    (ht : P.underlying t = some (.slice e)) (hi : P.info? e = some i) (hsz : i.size = 1) {k : Nat} (hk : k < xs.length) :
    ∃ a : Addr, (∀ w1, (Instr.indexAt t (.slice p xs.length cap) (.int .i64 (k : Int))).run P w1 = .ok (.pointer (some a)) w1) ∧ w.cell? a = some (.int .i64 (nth xs k)) := by
  obtain ⟨a, h1, h2⟩ := Row.at h ht hi hsz hk
  refine ⟨a, h1, ?_⟩
  have := h2 0 _ (by simpa using ints_nth xs k hk)
  rwa [addr_add_zero] at this
theorem IntO.at {B e' : Nat} {v : Value} {xs : List Int} (h : IntO B e' w v xs)
    (ht : P.underlying t = some (.slice e)) (hi : P.info? e = some i) (hsz : i.size = 1) {k : Nat} (hk : k < xs.length) :
    ∃ a : Addr, (∀ w1, (Instr.indexAt t v (.int .i64 (k : Int))).run P w1 = .ok (.pointer (some a)) w1) ∧ B ≤ a.block ∧ a.block < w.heap.size ∧
      w.cell? a = some (.int .i64 (nth xs k)) ∧ w.frozen? a = false ∧ v.ownBlock = some a.block ∧ ∀ x, IntO B e' (w.setCell a (.int .i64 x)) v (xs.set k x) := by
  obtain ⟨a, h1, h2, h3, h4, h5, h6, h7⟩ := Own.at h ht hi hsz hk
  have e0 := addr_add_zero a
  refine ⟨a, h1, h2, h3, ?_, ?_, h7, fun x => ?_⟩
  · have := h4 0 _ (by simpa using ints_nth xs k hk)
    rwa [e0] at this
  · have := h5 0; rwa [e0] at this
  · have := h6 0 (.int .i64 x)
    rw [e0] at this
    unfold IntO
    rw [List.length_set, ← ints_set]
    simpa using this
end

/-- A slice of integers that came in. -/
theorem row_of_read {k : IntKind} {w : World} {a : Option Addr} {len cap : Nat} {zs : List Int}
    (h : (a = none ∧ len = 0 ∧ cap = 0 ∧ zs = []) ∨ ∃ x, a = some x ∧ len ≤ cap ∧ cap ≤ maxLen ∧ zs.length = cap ∧ (∀ i, i < zs.length → w.cell? (x.add i) = some (.int k (zs.getD i 0))) ∧ ∀ n ∈ zs, (Lit.int k n).wf = true) :
    Row w 1 (.slice a len cap) (zs.take len).length ((zs.take len).map (.int k)) ∧ (zs.take len).length = len ∧ ∀ n ∈ zs.take len, (Lit.int k n).wf = true := by
  rcases h with ⟨rfl, rfl, rfl, rfl⟩ | ⟨x, rfl, h1, h2, h3, h4, h5⟩
  · exact ⟨⟨by simp, none, 0, rfl, by simp, by simp, by simp, by simp⟩, rfl, by simp⟩
  · have hl : (zs.take len).length = len := by rw [List.length_take]; omega
    refine ⟨⟨by simp, some x, cap, by rw [hl], by omega, by unfold maxLen at h2; omega, by simp, fun b hb j u hu => ?_⟩, hl, fun n hn => h5 n (List.mem_of_mem_take hn)⟩
    obtain rfl := Option.some.inj hb
    rw [List.map_take, List.getElem?_take] at hu
    split at hu
    · rename_i hj
      have hj2 : j < zs.length := by omega
      rw [h4 j hj2]
      simp [hj2] at hu ⊢
      exact hu
    · cases hu
end Go.Proofs.Ytknhfogblfogaaa
