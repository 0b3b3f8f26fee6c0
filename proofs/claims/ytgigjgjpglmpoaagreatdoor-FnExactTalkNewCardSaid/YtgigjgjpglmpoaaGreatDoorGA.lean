/- Slices, rows and worlds: plain words for what a slice holds, kept over new memory; over every program.
Contracts of the plain readers of int slices.
Contracts: copies, marks, closures over ints, slices.Clone, Grow, Concat.
Contracts: slices.IndexFunc, ContainsFunc, Equal, Clone, Grow, Concat over ints; impl.BytesValid; both FeedPut.
Contracts: slices.Equal, Clone, Grow, Concat over ints.
Contracts: slices.Grow of nil, and slices.Concat over ints.
slices.Concat over ints.
Contracts: both FeedPut.
Contracts: texts as bytes, beginnings.
Contracts: both SniffKind. -/
import Derived.Test.YtgigjgjpglmpoaaGreatDoorRows
import Derived.WalkKit
import Derived.WalkSpells
import Derived.LoopTactic
import Derived.Lib.Hide
import Derived.BigQuiet
import Derived.Deep.QuietTactic
namespace Go.Proofs.YtgigjgjpglmpoaaGreatDoor
open Go.RowKit

/-- No old block has turned. -/
def Gr (w w' : World) : Prop := Below w.heap.size w w'
theorem Gr.refl (w : World) : Gr w w := Below.refl _ _
theorem Gr.trans {a b c : World} (h : Gr a b) (k : Gr b c) : Gr a c := Below.trans h (Below.mono k h.size)
theorem Gr.drew {a b : World} (h : Gr a b) : Gr a b.drew := Below.drew h
theorem Gr.drewN {a b : World} (h : Gr a b) (n : Nat) : Gr a (b.drewN n) := ⟨h.os, h.tape, h.output, h.size, h.block⟩
theorem Gr.alloc {a b : World} (h : Gr a b) (o : Obj) : Gr a (b.alloc o) := Below.alloc h h.size o
theorem Gr.below {B : Nat} {a b : World} (h : Gr a b) (hB : B ≤ a.heap.size) : Below B a b := Below.mono h hB
theorem Gr.thenB {a b c : World} (h : Gr a b) (k : Below a.heap.size b c) : Gr a c := Below.trans h k
theorem Gr.thenBB {a b c d : World} (h : Gr a b) (k : Below a.heap.size b c) (l : Below a.heap.size c d) : Gr a d := Below.trans (Below.trans h k) l
theorem Gr.sz {a b : World} (h : Gr a b) : a.heap.size ≤ b.heap.size := h.size
theorem Gr.cell {a b : World} (h : Gr a b) {p : Addr} {v : Value} (hc : a.cell? p = some v) : b.cell? p = some v :=
  (Below.cell h (World.block_lt_of_cell? a p hc)).trans hc

/-- A slice of n elements of sz cells each; its cells are cs. -/
def Row (w : World) (sz : Nat) (v : Value) (n : Nat) (cs : List Value) : Prop :=
  cs.length = n * sz ∧ ∃ p cap, v = .slice p n cap ∧ n ≤ cap ∧ cap ≤ 9223372036854775807 ∧ (p = none → cap = 0) ∧
    ∀ a, p = some a → ∀ j u, cs[j]? = some u → w.cell? (a.add j) = some u

/-- A slice in memory from block B on, that nothing else reads, at the head of its row; or nil. -/
def Own (B e sz : Nat) (w : World) (v : Value) (n : Nat) (cs : List Value) : Prop :=
  w.ownsRow B e sz v n cs

theorem Row.kept {w w' : World} {sz : Nat} {v : Value} {n : Nat} {cs : List Value} (h : Row w sz v n cs) (hg : Gr w w') : Row w' sz v n cs := by
  obtain ⟨hl, p, cap, rfl, h1, h2, h3, h4⟩ := h
  exact ⟨hl, p, cap, rfl, h1, h2, h3, fun a ha j u hu => hg.cell (h4 a ha j u hu)⟩

theorem Own.row {B e sz : Nat} {w : World} {v : Value} {n : Nat} {cs : List Value} (h : Own B e sz w v n cs) : Row w sz v n cs := by
  rcases h.2 with ⟨rfl, rfl⟩ | ⟨g, cap, cur, rfl, hb, hg, hnc, hcm, hcs, htake⟩
  · exact ⟨h.1, none, 0, rfl, by omega, by omega, fun _ => rfl, fun a ha => by cases ha⟩
  · refine ⟨h.1, some ⟨g, 0, none⟩, cap, rfl, hnc, by unfold maxLen at hcm; omega, by simp, fun a ha => ?_⟩
    obtain rfl := Option.some.inj ha
    exact World.ownsRow.cells h rfl

theorem Own.mono {B B' e sz : Nat} {w : World} {v : Value} {n : Nat} {cs : List Value} (h : Own B e sz w v n cs) (hB : B' ≤ B) : Own B' e sz w v n cs := by
  rcases h with ⟨h1, h2 | ⟨g, cap, cur, h3, h4, h5⟩⟩
  · exact ⟨h1, .inl h2⟩
  · exact ⟨h1, .inr ⟨g, cap, cur, h3, Nat.le_trans hB h4, h5⟩⟩

/-- Kept where the blocks from B on keep what they hold. -/
theorem Own.keptOf {B e sz : Nat} {w w' : World} {v : Value} {n : Nat} {cs : List Value} (h : Own B e sz w v n cs) (hk : ∀ k, B ≤ k → k < w.heap.size → w'.heap[k]? = w.heap[k]?) : Own B e sz w' v n cs := by
  rcases h with ⟨h1, h2 | ⟨g, cap, cur, h3, h4, h5, h6⟩⟩
  · exact ⟨h1, .inl h2⟩
  · exact ⟨h1, .inr ⟨g, cap, cur, h3, h4, by rw [hk g h4 (Array.getElem?_eq_some_iff.1 h5).1]; exact h5, h6⟩⟩
theorem Own.kept {B e sz : Nat} {w w' : World} {v : Value} {n : Nat} {cs : List Value} (h : Own B e sz w v n cs) (hg : Gr w w') : Own B e sz w' v n cs :=
  h.keptOf fun k _ hk => Below.block hg k hk
/-- Its row lies between B and the heap's end. -/
theorem Own.blk {B e sz : Nat} {w : World} {v : Value} {n : Nat} {cs : List Value} (h : Own B e sz w v n cs) : ∀ k, v.ownBlock = some k → B ≤ k ∧ k < w.heap.size := World.ownsRow.lt h
/-- Another's row has turned, one of the blocks from B' to T. -/
theorem Own.other {B e sz : Nat} {w w' : World} {v : Value} {n : Nat} {cs : List Value} (h : Own B e sz w v n cs) {row : Option Nat} (hg : w.grownBy w' row) {B' T : Nat} (hr : ∀ k, row = some k → B' ≤ k ∧ k < T) (hd : T ≤ B ∨ ∀ k, v.ownBlock = some k → k < B') : Own B e sz w' v n cs := by
  refine World.ownsRow.kept h hg ?_
  cases hv : v.ownBlock with
  | none => exact .inl rfl
  | some k =>
    refine .inr fun heq => ?_
    obtain ⟨h1, h2⟩ := hr k heq.symm
    have h3 := (h.blk k hv).1
    rcases hd with hd | hd
    · omega
    · have := hd k hv; omega
theorem grown_below {w w' : World} {row : Option Nat} (hg : w.grownBy w' row) {B T : Nat} (hr : ∀ k, row = some k → B ≤ k ∧ k < T) (hB : B ≤ w.heap.size) : Below B w w' :=
  (Below.refl B w).grown hg hB fun k hk => (hr k hk).1

/-- At most the blocks from B up to T have turned, and none is new. -/
structure Chg (B T : Nat) (w w' : World) : Prop where
  os : w'.os = w.os
  tape : w'.tape = w.tape
  output : w'.output = w.output
  size : w'.heap.size = w.heap.size
  block : ∀ k, (k < B ∨ T ≤ k) → w'.heap[k]? = w.heap[k]?
theorem Chg.refl (B T : Nat) (w : World) : Chg B T w w := ⟨rfl, rfl, rfl, rfl, fun _ _ => rfl⟩
theorem Chg.trans {B T : Nat} {a b c : World} (h : Chg B T a b) (k : Chg B T b c) : Chg B T a c :=
  ⟨k.os.trans h.os, k.tape.trans h.tape, k.output.trans h.output, k.size.trans h.size, fun i hi => (k.block i hi).trans (h.block i hi)⟩
theorem Chg.wide {B T B' T' : Nat} {a b : World} (h : Chg B T a b) (h1 : B' ≤ B) (h2 : T ≤ T') : Chg B' T' a b := ⟨h.os, h.tape, h.output, h.size, fun i hi => h.block i (by omega)⟩
theorem Chg.set {B T : Nat} {a b : World} (h : Chg B T a b) {p : Addr} (h1 : B ≤ p.block) (h2 : p.block < T) (x : Value) : Chg B T a (b.setCell p x) :=
  h.trans ⟨rfl, rfl, rfl, by simp [World.setCell], fun k hk => Below.heap_setCell _ _ _ _ (by omega)⟩
theorem Chg.gr {B T : Nat} {a b c : World} (h : Chg B T b c) (hg : Gr a b) (hB : a.heap.size ≤ B) : Gr a c :=
  Below.trans hg ⟨h.os, h.tape, h.output, by rw [h.size]; exact Nat.le_refl _, fun k hk => h.block k (by omega)⟩
theorem Chg.below {B T : Nat} {b c : World} (h : Chg B T b c) : Below B b c := ⟨h.os, h.tape, h.output, by rw [h.size]; exact Nat.le_refl _, fun k hk => h.block k (by omega)⟩
/-- What is owned lies in the blocks from B up to T. -/
def OwnB (B T e sz : Nat) (w : World) (v : Value) (n : Nat) (cs : List Value) : Prop := Own B e sz w v n cs ∧ ∀ k, v.ownBlock = some k → k < T
theorem Own.b {B e sz : Nat} {w : World} {v : Value} {n : Nat} {cs : List Value} (h : Own B e sz w v n cs) : OwnB B w.heap.size e sz w v n cs := ⟨h, fun k hk => (h.blk k hk).2⟩
theorem OwnB.kept {B T e sz : Nat} {w w' : World} {v : Value} {n : Nat} {cs : List Value} (h : OwnB B T e sz w v n cs) (hg : Gr w w') : OwnB B T e sz w' v n cs := ⟨h.1.kept hg, h.2⟩
theorem OwnB.wide {B T B' T' e sz : Nat} {w : World} {v : Value} {n : Nat} {cs : List Value} (h : OwnB B T e sz w v n cs) (h1 : B' ≤ B) (h2 : T ≤ T') : OwnB B' T' e sz w v n cs := ⟨h.1.mono h1, fun k hk => Nat.lt_of_lt_of_le (h.2 k hk) h2⟩
theorem OwnB.chg {B T e sz B' T' : Nat} {w w' : World} {v : Value} {n : Nat} {cs : List Value} (h : OwnB B T e sz w v n cs) (hc : Chg B' T' w w') (hd : T ≤ B' ∨ T' ≤ B) : OwnB B T e sz w' v n cs := by
  refine ⟨?_, h.2⟩
  rcases h.1 with ⟨h1, h2 | ⟨g, cap, cur, h3, h4, h5, h6⟩⟩
  · exact ⟨h1, .inl h2⟩
  · have hT := h.2 g (by rw [h3]; rfl)
    exact ⟨h1, .inr ⟨g, cap, cur, h3, h4, by rw [hc.block g (by omega)]; exact h5, h6⟩⟩

section
variable {P : Program}
theorem addr_add_add (a : Addr) (i j : Nat) : (a.add i).add j = a.add (i + j) := by
  unfold Addr.add
  by_cases hi : i = 0 <;> by_cases hj : j = 0 <;> simp [hi, hj, Nat.add_assoc]
theorem addr_add_zero (a : Addr) : a.add 0 = a := by simp [Addr.add]
/-- The place of an element. -/
theorem Row.at {w : World} {sz : Nat} {p : Option Addr} {cap n : Nat} {cs : List Value} (h : Row w sz (.slice p n cap) n cs) {t e : TypeId} {i : TypeInfo}
    (ht : P.underlying t = some (.slice e)) (hi : P.info? e = some i) (hsz : i.size = sz) {k : Nat} (hk : k < n) :
    ∃ a : Addr, (∀ w1, (Instr.indexAt t (.slice p n cap) (.int .i64 (k : Int))).run P w1 = .ok (.pointer (some a)) w1) ∧
      ∀ j u, cs[k * sz + j]? = some u → w.cell? (a.add j) = some u := by
  obtain ⟨hl, p', cap', hv, h1, h2, h3, h4⟩ := h
  simp only [Value.slice.injEq, true_and] at hv
  obtain ⟨rfl, rfl⟩ := hv
  cases p with
  | none => have := h3 rfl; omega
  | some b =>
    have hc := h4 b rfl
    refine ⟨b.add (k * sz), fun w1 => ?_, fun j u hu => ?_⟩
    · subst hsz
      simp [Instr.indexAt, run_underlying ht, asIntOf, sizeOf, typeInfo, hi, hk]
    · rw [addr_add_add b]; exact hc _ _ hu

/-- A store into an owned slice: the place, and what is owned then. -/
theorem Own.at {B e' sz : Nat} {w : World} {v : Value} {n : Nat} {cs : List Value} (h : Own B e' sz w v n cs) {t e : TypeId} {i : TypeInfo}
    (ht : P.underlying t = some (.slice e)) (hi : P.info? e = some i) (hsz : i.size = sz) {k : Nat} (hk : k < n) :
    ∃ a : Addr, (∀ w1, (Instr.indexAt t v (.int .i64 (k : Int))).run P w1 = .ok (.pointer (some a)) w1) ∧ B ≤ a.block ∧ a.block < w.heap.size ∧
      (∀ j u, cs[k * sz + j]? = some u → w.cell? (a.add j) = some u) ∧ (∀ j, w.frozen? (a.add j) = false) ∧
      (∀ j x, Own B e' sz (w.setCell (a.add j) x) v n (cs.set (k * sz + j) x)) ∧ v.ownBlock = some a.block := by
  replace h : w.ownsRow B e' sz v n cs := h
  · rcases h.2 with ⟨_, rfl⟩ | ⟨g, cap, cur, rfl, hb, hg, hnc, hcm, hcs, htake⟩
    · omega
    · have hadd : ∀ m, (⟨g, 0, none⟩ : Addr).add m = ⟨g, m, none⟩ := fun m => by unfold Addr.add; split <;> simp_all
      refine ⟨⟨g, k * sz, none⟩, fun w1 => ?_, hb, (Array.getElem?_eq_some_iff.1 hg).1, ?_, ?_, ?_, rfl⟩
      · subst hsz
        simp [Instr.indexAt, run_underlying ht, asIntOf, sizeOf, typeInfo, hi, hk, hadd]
      · intro j u hu
        have e2 : (⟨g, k * sz, none⟩ : Addr).add j = ⟨g, k * sz + j, none⟩ := by unfold Addr.add; split <;> simp_all
        rw [e2, ← hadd]; exact h.cells rfl _ _ hu
      · intro j
        have e2 : (⟨g, k * sz, none⟩ : Addr).add j = ⟨g, k * sz + j, none⟩ := by unfold Addr.add; split <;> simp_all
        rw [e2]; exact h.frozenAt _
      · intro j x
        have e2 : (⟨g, k * sz, none⟩ : Addr).add j = ⟨g, k * sz + j, none⟩ := by unfold Addr.add; split <;> simp_all
        rw [e2]; exact (h.stored _ x).1

/-- Slicing a slice up to what it has. -/
theorem Row.cut {w : World} {sz : Nat} {v : Value} {n : Nat} {cs : List Value} (h : Row w sz v n cs) {t e : TypeId} {i : TypeInfo}
    (ht : P.underlying t = some (.slice e)) (hi : P.info? e = some i) (hsz : i.size = sz) {lo hi' : Nat} (h1 : lo ≤ hi') (h2 : hi' ≤ n) :
    ∃ v' : Value, (∀ w1, (Instr.slice t v (some (.int .i64 (lo : Int))) (some (.int .i64 (hi' : Int))) none).run P w1 = .ok v' w1) ∧
      Row w sz v' (hi' - lo) ((cs.drop (lo * sz)).take ((hi' - lo) * sz)) := by
  obtain ⟨hl, p, cap, rfl, c1, c2, c3, c4⟩ := h
  refine ⟨.slice (if cap = lo then p else p.map (·.add (lo * sz))) (hi' - lo) (cap - lo), fun w1 => ?_, ?_⟩
  rotate_left
  · refine ⟨?_, if cap = lo then p else p.map (·.add (lo * sz)), cap - lo, rfl, by omega, by omega, ?_, ?_⟩
    · rw [List.length_take, List.length_drop, hl, ← Nat.sub_mul]
      exact Nat.min_eq_left (Nat.mul_le_mul_right _ (by omega))
    · intro hn
      cases p with
      | none => have := c3 rfl; omega
      | some b => split at hn <;> simp at hn
    · intro a ha
      split at ha
      · rename_i hc
        intro j u hu
        rw [show hi' - lo = 0 from by omega] at hu
        simp at hu
      · cases p with
        | none => simp at ha
        | some b =>
          simp only [Option.map_some, Option.some.injEq] at ha
          subst ha
          have hc := c4 b rfl
          intro j u hu
          rw [addr_add_add b]
          rw [List.getElem?_take] at hu
          split at hu
          · rw [List.getElem?_drop] at hu; exact hc _ _ hu
          · cases hu
  · subst hsz
    have a1 : (0 : Int) ≤ lo := by omega
    have a3 : (lo : Int) ≤ hi' := by omega
    have a4 : (hi' : Int) ≤ cap := by omega
    simp [Instr.slice, run_underlying ht, Instr.sliceBounds, Instr.sliceBound, asIntOf, sizeOf, typeInfo, hi, h1, show hi' ≤ cap by omega]

/-- append onto what is owned. -/
theorem Own.append (w : World) {B t ty e : TypeId} {i : TypeInfo} {z : Value} {sz by_ : Nat} (ht : P.underlying t = some (.slice e)) (hi : P.info? e = some i) (hz : i.zero = some z)
    (hsz : i.size = sz) (hby : i.bytes = by_) (hzs : z.cells.size = sz) (h0 : 0 < sz)
    {v : Value} {n : Nat} {cs : List Value} (hown : Own B e sz w v n cs) {x : Value} {m : Nat} {ds : List Value} (hx : Row w sz x m ds) (h1 : ∀ u ∈ ds, u.oneCell' = true)
    (hbytes : (n + m) * by_ ≤ 140737488355328) (hb0 : 0 < by_) (hB : B ≤ w.heap.size) :
    ∃ v' w', (Builtin.append_ #[t, t] ty #[v, x]).run P w = .ok v' w' ∧ Own B e sz w' v' (n + m) (cs ++ ds) ∧ Below B w w' := by
  have h63 : n + m ≤ maxLen := by
    have : n + m ≤ (n + m) * by_ := Nat.le_mul_of_pos_right _ hb0
    unfold maxLen; omega
  obtain ⟨hl, p, cap, rfl, c1, c2, c3, c4⟩ := hx
  cases p with
  | none =>
    obtain rfl := c3 rfl
    obtain rfl : m = 0 := by omega
    obtain rfl : ds = [] := List.eq_nil_of_length_eq_zero (by simpa using hl)
    exact ⟨v, w, run_append_owned_none w B t ty e i sz ht hi v n cs hown, by rw [Nat.add_zero, List.append_nil]; exact hown, Below.refl _ _⟩
  | some a =>
    obtain ⟨v', w', hr, q1, q2, _⟩ := run_append_own (P := P) w B t ty e i z sz by_ ht hi hz hsz hby hzs h0 v n cs hown a m cap ds hl (c4 a rfl) h1 h63 hbytes hB
    exact ⟨v', w', hr, q1, (Below.refl B w).grown q2 hB (fun k hk => (hown.blk k hk).1)⟩

theorem wpl_append (w : World) {ops : Array Oper} {rest : List Oper} {o : Oper} {a : Act} {Q : Exit → Act → World → Prop} (hgd : o.guard = none) (s x : Operand) (t : TypeId)
    (ho : o.op = .call { callee := .builtin .append, args := #[s, x], argTypes := #[t, t] })
    {B e : TypeId} {i : TypeInfo} {z : Value} {sz by_ : Nat} (ht : P.underlying t = some (.slice e)) (hi : P.info? e = some i) (hz : i.zero = some z)
    (hsz : i.size = sz) (hby : i.bytes = by_) (hzs : z.cells.size = sz) (h0 : 0 < sz) (hb0 : 0 < by_)
    {v : Value} {n : Nat} {cs : List Value} (hs : a.eval s = v) (hown : Own B e sz w v n cs) {xv : Value} {m : Nat} {ds : List Value} (hx : a.eval x = xv) (hrow : Row w sz xv m ds) (h1 : ∀ u ∈ ds, u.oneCell' = true)
    (hbytes : (n + m) * by_ ≤ 140737488355328) (hB : B ≤ w.heap.size)
    (h : ∀ v' w', Own B e sz w' v' (n + m) (cs ++ ds) → Below B w w' → wpList P ops Q rest (a.put o.dst v') w') : wpList P ops Q (o :: rest) a w := by
  refine wpList_plain hgd fun K hK => ?_
  obtain ⟨v', w', hr, h2, h3⟩ := Own.append (P := P) w (ty := o.type) ht hi hz hsz hby hzs h0 hown hrow h1 hbytes hb0 hB
  unfold Oper.wp execOp
  simp only [ho, resolve, invoke, builtin, Sem.run_bind, Sem.run_pure, Result.andThen_ok, List.map_toArray, List.map_cons, List.map_nil, hs, hx, hr]
  exact hK _ _ (h v' w' h2 h3)

/-- make([]T, n). -/
theorem wpl_make (w : World) {ops : Array Oper} {rest : List Oper} {o : Oper} {a : Act} {Q : Exit → Act → World → Prop} (hgd : o.guard = none) (l c : Operand) (t : TypeId)
    (ho : o.op = Op.makeSlice t l c) {e : TypeId} {i : TypeInfo} {z : Value} {sz by_ : Nat} (ht : P.underlying t = some (.slice e)) (hi : P.info? e = some i) (hz : i.zero = some z)
    (hsz : i.size = sz) (hby : i.bytes = by_) {n : Nat} (hl : a.eval l = .int .i64 (n : Int)) (hc : a.eval c = .int .i64 (n : Int)) (hb : by_ * n ≤ 281474976710656) (hn : n ≤ 9223372036854775807)
    (h : ∀ v' w', Own w.heap.size e sz w' v' n (madeCells z.cells (n * sz)).toList → Gr w w' → wpList P ops Q rest (a.put o.dst v') w') : wpList P ops Q (o :: rest) a w := by
  subst hby
  exact wpList_make_full w hgd l c t ho w.heap.size e i z sz ht hi hz hsz .i64 .i64 n n n hl hc rfl rfl hb (by unfold maxLen; omega) (Nat.le_refl _)
    fun w' h1 h2 => h _ w' h1 ((Below.refl _ w).grown h2 (Nat.le_refl _) (by simp))

/-- The first elements of what is owned. -/
theorem Own.pre {B e' sz : Nat} {w : World} {v : Value} {n : Nat} {cs : List Value} (h : Own B e' sz w v n cs) {t e : TypeId} {i : TypeInfo}
    (ht : P.underlying t = some (.slice e)) (hi : P.info? e = some i) (hsz : i.size = sz) {k : Nat} (hk : k ≤ n) :
    ∃ v' : Value, (∀ w1, (Instr.slice t v none (some (.int .i64 (k : Int))) none).run P w1 = .ok v' w1) ∧ Own B e' sz w v' k (cs.take (k * sz)) := by
  have run : ∀ (p : Option Addr) (n' cap : Nat), k ≤ cap → ∀ w1, (Instr.slice t (.slice p n' cap) none (some (.int .i64 (k : Int))) none).run P w1 = .ok (.slice p k cap) w1 := by
    intro p n' cap hc w1
    subst hsz
    have : (if cap = 0 then p else p.map (·.add 0)) = p := by
      split
      · rfl
      · cases p <;> simp [addr_add_zero]
    simp [Instr.slice, run_underlying ht, Instr.sliceBounds, Instr.sliceBound, asIntOf, sizeOf, typeInfo, hi, hc, this]
  rcases h.2 with ⟨rfl, rfl⟩ | ⟨g, cap, cur, rfl, hb, hg, hnc, hcm, hcs, htake⟩
  · obtain rfl : k = 0 := by omega
    exact ⟨_, run none 0 0 (Nat.le_refl _), ⟨by simp, .inl ⟨rfl, rfl⟩⟩⟩
  · refine ⟨_, run _ n cap (by omega), ⟨?_, .inr ⟨g, cap, cur, rfl, hb, hg, by omega, hcm, hcs, ?_⟩⟩⟩
    · rw [List.length_take, h.1]; exact Nat.min_eq_left (Nat.mul_le_mul_right _ hk)
    · rw [← htake, List.take_take]
      congr 1
      exact (Nat.min_eq_left (Nat.mul_le_mul_right _ hk)).symm

/-- A literal's row. -/
theorem Own.lit {B e sz : Nat} (w : World) (cs : Array Value) (n : Nat) (hB : B ≤ w.heap.size) (hn : n ≤ 9223372036854775807) (hs : cs.size = n * sz) :
    Own B e sz (w.alloc (.cells cs e)) (.slice (some ⟨w.heap.size, 0, none⟩) n n) n cs.toList := (World.ownsRow_lit w cs n hB (by unfold maxLen; omega) hs)
end

/-- Integers. -/
def ints (xs : List Int) : List Value := xs.map (.int .i64)
def nth (xs : List Int) (i : Nat) : Int := xs.getD i 0
theorem ints_length (xs : List Int) : (ints xs).length = xs.length := by simp [ints]
theorem ints_append (xs ys : List Int) : ints (xs ++ ys) = ints xs ++ ints ys := by simp [ints]
theorem ints_one (xs : List Int) : ∀ u ∈ ints xs, u.oneCell' = true := ints_oneCell .i64 xs
theorem ints_nth (xs : List Int) (k : Nat) (h : k < xs.length) : (ints xs)[k]? = some (.int .i64 (nth xs k)) := by simp [ints, nth, h]
theorem ints_set (xs : List Int) (k : Nat) (x : Int) : (ints xs).set k (.int .i64 x) = ints (xs.set k x) := by simp [ints]
theorem ints_take (xs : List Int) (k : Nat) : (ints xs).take k = ints (xs.take k) := by simp [ints]
theorem ints_drop (xs : List Int) (k : Nat) : (ints xs).drop k = ints (xs.drop k) := by simp [ints]
theorem ints_replicate (n : Nat) (x : Int) : List.replicate n (Value.int .i64 x) = ints (List.replicate n x) := by simp [ints]

/-- v is a slice of ints that reads as xs. -/
def IntS (w : World) (v : Value) (xs : List Int) : Prop := Row w 1 v xs.length (ints xs)
/-- .. and lies in memory of its own from block B on. -/
def IntO (B e : Nat) (w : World) (v : Value) (xs : List Int) : Prop := Own B e 1 w v xs.length (ints xs)
theorem IntS.kept {w w' : World} {v : Value} {xs : List Int} (h : IntS w v xs) (hg : Gr w w') : IntS w' v xs := Row.kept h hg
theorem IntO.kept {B e : Nat} {w w' : World} {v : Value} {xs : List Int} (h : IntO B e w v xs) (hg : Gr w w') : IntO B e w' v xs := Own.kept h hg
theorem IntO.s {B e : Nat} {w : World} {v : Value} {xs : List Int} (h : IntO B e w v xs) : IntS w v xs := Own.row h
theorem IntO.mono {B B' e : Nat} {w : World} {v : Value} {xs : List Int} (h : IntO B e w v xs) (hB : B' ≤ B) : IntO B' e w v xs := Own.mono h hB
theorem IntO.blk {B e : Nat} {w : World} {v : Value} {xs : List Int} (h : IntO B e w v xs) : ∀ k, v.ownBlock = some k → B ≤ k ∧ k < w.heap.size := Own.blk h
theorem IntS.form {w : World} {v : Value} {xs : List Int} (h : IntS w v xs) : ∃ p cap, v = .slice p xs.length cap ∧ xs.length ≤ cap ∧ cap ≤ 9223372036854775807 := by
  obtain ⟨_, p, cap, h1, h2, h3, _⟩ := h
  exact ⟨p, cap, h1, h2, h3⟩
theorem IntO.nil (B e : Nat) (w : World) : IntO B e w (.slice none 0 0) [] := World.ownsRow_nil w B e 1
/-- .. in the blocks from B up to T. -/
def IntB (B T e : Nat) (w : World) (v : Value) (xs : List Int) : Prop := OwnB B T e 1 w v xs.length (ints xs)
theorem IntO.b {B e : Nat} {w : World} {v : Value} {xs : List Int} (h : IntO B e w v xs) : IntB B w.heap.size e w v xs := Own.b h
theorem IntB.o {B T e : Nat} {w : World} {v : Value} {xs : List Int} (h : IntB B T e w v xs) : IntO B e w v xs := h.1
theorem IntB.s {B T e : Nat} {w : World} {v : Value} {xs : List Int} (h : IntB B T e w v xs) : IntS w v xs := h.1.row
theorem IntB.kept {B T e : Nat} {w w' : World} {v : Value} {xs : List Int} (h : IntB B T e w v xs) (hg : Gr w w') : IntB B T e w' v xs := OwnB.kept h hg
theorem IntB.chg {B T e B' T' : Nat} {w w' : World} {v : Value} {xs : List Int} (h : IntB B T e w v xs) (hc : Chg B' T' w w') (hd : T ≤ B' ∨ T' ≤ B) : IntB B T e w' v xs := OwnB.chg h hc hd
theorem IntB.wide {B T B' T' e : Nat} {w : World} {v : Value} {xs : List Int} (h : IntB B T e w v xs) (h1 : B' ≤ B) (h2 : T ≤ T') : IntB B' T' e w v xs := OwnB.wide h h1 h2
section
variable {P : Program} {w : World} {t e : TypeId} {i : TypeInfo}
theorem IntS.at {p : Option Addr} {cap : Nat} {xs : List Int} (h : IntS w (.slice p xs.length cap) xs)
    (ht : P.underlying t = some (.slice e)) (hi : P.info? e = some i) (hsz : i.size = 1) {k : Nat} (hk : k < xs.length) :
    ∃ a : Addr, (∀ w1, (Instr.indexAt t (.slice p xs.length cap) (.int .i64 (k : Int))).run P w1 = .ok (.pointer (some a)) w1) ∧ w.cell? a = some (.int .i64 (nth xs k)) := by
  obtain ⟨a, h1, h2⟩ := Row.at h ht hi hsz hk
  refine ⟨a, h1, ?_⟩
  have := h2 0 _ (by simpa using ints_nth xs k hk)
  rwa [addr_add_zero] at this
theorem IntO.at {B e' : Nat} {v : Value} {xs : List Int} (h : IntO B e' w v xs)
    (ht : P.underlying t = some (.slice e)) (hi : P.info? e = some i) (hsz : i.size = 1) {k : Nat} (hk : k < xs.length) :
    ∃ a : Addr, (∀ w1, (Instr.indexAt t v (.int .i64 (k : Int))).run P w1 = .ok (.pointer (some a)) w1) ∧ B ≤ a.block ∧ a.block < w.heap.size ∧
      w.cell? a = some (.int .i64 (nth xs k)) ∧ w.frozen? a = false ∧ v.ownBlock = some a.block ∧ ∀ x, IntO B e' (w.setCell a (.int .i64 x)) v (xs.set k x) := by
  obtain ⟨a, h1, h2, h3, h4, h5, h6, h7⟩ := Own.at h ht hi hsz hk
  have e0 := addr_add_zero a
  refine ⟨a, h1, h2, h3, ?_, ?_, h7, fun x => ?_⟩
  · have := h4 0 _ (by simpa using ints_nth xs k hk)
    rwa [e0] at this
  · have := h5 0; rwa [e0] at this
  · have := h6 0 (.int .i64 x)
    rw [e0] at this
    unfold IntO
    rw [List.length_set, ← ints_set]
    simpa using this
end

/-- A slice of integers that came in. -/
theorem row_of_read {k : IntKind} {w : World} {a : Option Addr} {len cap : Nat} {zs : List Int}
    (h : (a = none ∧ len = 0 ∧ cap = 0 ∧ zs = []) ∨ ∃ x, a = some x ∧ len ≤ cap ∧ cap ≤ maxLen ∧ zs.length = cap ∧ (∀ i, i < zs.length → w.cell? (x.add i) = some (.int k (zs.getD i 0))) ∧ ∀ n ∈ zs, (Lit.int k n).wf = true) :
    Row w 1 (.slice a len cap) (zs.take len).length ((zs.take len).map (.int k)) ∧ (zs.take len).length = len ∧ ∀ n ∈ zs.take len, (Lit.int k n).wf = true := by
  rcases h with ⟨rfl, rfl, rfl, rfl⟩ | ⟨x, rfl, h1, h2, h3, h4, h5⟩
  · exact ⟨⟨by simp, none, 0, rfl, by simp, by simp, by simp, by simp⟩, rfl, by simp⟩
  · have hl : (zs.take len).length = len := by rw [List.length_take]; omega
    refine ⟨⟨by simp, some x, cap, by rw [hl], by omega, by unfold maxLen at h2; omega, by simp, fun b hb j u hu => ?_⟩, hl, fun n hn => h5 n (List.mem_of_mem_take hn)⟩
    obtain rfl := Option.some.inj hb
    rw [List.map_take, List.getElem?_take] at hu
    split at hu
    · rename_i hj
      have hj2 : j < zs.length := by omega
      rw [h4 j hj2]
      simp [hj2] at hu ⊢
      exact hu
    · cases hu
end Go.Proofs.YtgigjgjpglmpoaaGreatDoor
namespace Go.Proofs.YtgigjgjpglmpoaaGreatDoor
open Go.RowKit
theorem uI : Tryz.prog.underlying 22 = some (.slice 3) := by kernel_rfl
theorem infoI : ∃ i, Tryz.prog.info? 3 = some i ∧ i.zero = some (.int .i64 0) ∧ i.size = 1 ∧ i.bytes = 8 := info_parts (by kernel_rfl)
theorem IntS.ix {w : World} {p : Option Addr} {cap : Nat} {xs : List Int} (h : IntS w (.slice p xs.length cap) xs) {k : Nat} (hk : k < xs.length) :
    ∃ a : Addr, (∀ w1, (Instr.indexAt 22 (.slice p xs.length cap) (.int .i64 (k : Int))).run Tryz.prog w1 = .ok (.pointer (some a)) w1) ∧ w.cell? a = some (.int .i64 (nth xs k)) := by
  obtain ⟨i, h1, _, h3, _⟩ := infoI
  exact h.at uI h1 h3 hk
def inB (lo hi n : Int) : Bool := decide (lo ≤ n) && decide (n ≤ hi)
theorem inB_iff {lo hi n : Int} : inB lo hi n = true ↔ lo ≤ n ∧ n ≤ hi := by simp [inB]
theorem l6In_c (n lo hi : Int) (w : World) :
    Calls Tryz.prog 39 #[.int .i64 n, .int .i64 lo, .int .i64 hi] w fun e w' => e = .returned (.bool (inB lo hi n)) ∧ w = w' := by
  by_cases h : lo ≤ n
  · go_enter Tryz.func39, Tryz.ntmps39
    go_wp2
    go_ret
    exact ⟨by simp [h, inB], rfl⟩
  · have h' : (decide (lo ≤ n)) = false := by simp [h]
    go_enter Tryz.func39, Tryz.ntmps39
    go_wp2
    go_ret
    exact ⟨by simp [inB]; omega, rfl⟩
theorem within_c (n lo hi : Int) (w : World) :
    Calls Tryz.prog 29 #[.int .i64 n, .int .i64 lo, .int .i64 hi] w fun e w' => e = .returned (.bool (inB lo hi n)) ∧ w = w' := by
  by_cases h : lo ≤ n
  · go_enter Tryz.func29, Tryz.ntmps29
    go_wp2
    go_ret
    exact ⟨by simp [h, inB], rfl⟩
  · have h' : (decide (lo ≤ n)) = false := by simp [h]
    go_enter Tryz.func29, Tryz.ntmps29
    go_wp2
    go_ret
    exact ⟨by simp [inB]; omega, rfl⟩
def isB (n : Int) : Bool := inB 0 255 n
/-- Valid bytes. -/
def bv (xs : List Int) : Bool := xs.all isB && decide (xs.length ≤ 120)
theorem nth_eq {xs : List Int} {k : Nat} (h : k < xs.length) : nth xs k = xs[k] := by simp [nth, h]
theorem take_all (p : Int → Bool) {xs : List Int} {k : Nat} (h : k < xs.length) : (xs.take (k+1)).all p = ((xs.take k).all p && p (nth xs k)) := by
  rw [List.take_succ_eq_append_getElem h, nth_eq h, List.all_append]; simp
theorem all_false (p : Int → Bool) {xs : List Int} {k : Nat} (h : k < xs.length) (hp : p (nth xs k) = false) : xs.all p = false := by
  rw [List.all_eq_false]; exact ⟨xs[k], List.getElem_mem h, by rw [nth_eq h] at hp; simp [hp]⟩
theorem ret_bool {a b : Bool} (h : a = b) : Ending.returned (.bool a) = .returned (.bool b) := by rw [h]
theorem ret_int {a b : Int} (h : a = b) : Ending.returned (.int .i64 a) = .returned (.int .i64 b) := by rw [h]
/-- What 'len(a) == len(b) and all alike' says of two lists. -/
theorem beq_false_nth {xs ys : List Int} {k : Nat} (h : nth xs k ≠ nth ys k) : (xs == ys) = false := by
  rw [beq_eq_false_iff_ne]; rintro rfl; exact h rfl
theorem beq_of_take {xs ys : List Int} (hl : xs.length = ys.length) (h : xs.take xs.length = ys.take xs.length) : (xs == ys) = true := by
  rw [beq_iff_eq]; rw [List.take_length, hl, List.take_length] at h; exact h
theorem take_step {xs ys : List Int} {k : Nat} (hx : k < xs.length) (hy : k < ys.length) (h : xs.take k = ys.take k) (he : nth xs k = nth ys k) : xs.take (k+1) = ys.take (k+1) := by
  rw [List.take_succ_eq_append_getElem hx, List.take_succ_eq_append_getElem hy, h, ← nth_eq hx, ← nth_eq hy, he]

theorem gr_drewN (w : World) (n : Nat) : Gr w (w.drewN n) := (Gr.refl w).drewN n
theorem eqIntS_c {w : World} {v u : Value} {xs ys : List Int} (h : IntS w v xs) (hu : IntS w u ys) :
    Calls Tryz.prog 10 #[v, u] w fun e w' => e = .returned (.bool (xs == ys)) ∧ Gr w w' := by
  obtain ⟨p, cap, rfl, hl1, hl2⟩ := h.form
  obtain ⟨q, caq, rfl, hm1, hm2⟩ := hu.form
  by_cases hlen : xs.length = ys.length
  · have HL := Lib.hid hlen
    have ht : ((xs.length : Int) != (ys.length : Int)) = false := by simp [hlen]
    clear hlen
    go_enter Tryz.func10, Tryz.ntmps10
    go_wp2_with fail
    go_loopw [5] (fun i wr => ∃ k : Nat, k ≤ xs.length ∧ i = .int .i64 k ∧ Hid (xs.take k = ys.take k) ∧ Gr w wr) (fun i _ => xs.length - (intOf i).toNat)
    case atStart => exact ⟨0, Nat.zero_le _, rfl, by simp [Hid], Gr.refl w⟩
    case round =>
      obtain ⟨k, hk, rfl, hall, hgr⟩ := hrel
      by_cases hlt : k < xs.length
      · obtain ⟨a, hix, hca⟩ := (h.kept hgr).ix hlt
        obtain ⟨b, hjx, hcb⟩ := (hu.kept hgr).ix (show k < ys.length by have := HL.out; omega)
        cases hb : (nth xs k != nth ys k)
        · go_wp2_with fail
          go_quiet (fail)
          go_wp2
          go_roundw
          case rel => exact ⟨k+1, by omega, by go_num, take_step hlt (by have := HL.out; omega) hall.out (by simpa using hb), hgr.drewN _⟩
          case measure => simp [intOf]; omega
        · go_wp2_with fail
          go_quiet (fail)
          go_wp2
          go_ret
          exact ⟨ret_bool (beq_false_nth (by simpa using hb)).symm, hgr.drewN _⟩
      · go_wp2
        go_ret
        exact ⟨ret_bool (beq_of_take HL.out (by have := hall.out; rwa [show k = xs.length by omega] at this)).symm, hgr⟩
  · have ht : ((xs.length : Int) != (ys.length : Int)) = true := by simp; omega
    have HL := Lib.hid hlen; clear hlen
    go_enter Tryz.func10, Tryz.ntmps10
    go_wp2
    go_ret
    exact ⟨ret_bool (by rw [eq_comm, beq_eq_false_iff_ne]; rintro rfl; exact HL.out rfl), Gr.refl w⟩
end Go.Proofs.YtgigjgjpglmpoaaGreatDoor
namespace Go.Proofs.YtgigjgjpglmpoaaGreatDoor
open Go.RowKit
/-- k, k+1, .. so many. -/
def upFrom (k : Int) : Nat → List Int
  | 0 => []
  | n + 1 => k :: upFrom (k + 1) n
theorem upFrom_length (k : Int) (n : Nat) : (upFrom k n).length = n := by induction n generalizing k <;> simp [upFrom, *]
theorem upFrom_snoc (k : Int) (n : Nat) : upFrom k (n + 1) = upFrom k n ++ [k + n] := by
  induction n generalizing k with
  | zero => simp [upFrom]
  | succ n ih => rw [upFrom, ih (k + 1), upFrom]; simp; omega
theorem nth_upFrom (k : Int) {n i : Nat} (h : i < n) : nth (upFrom k n) i = k + i := by
  induction n generalizing k i with
  | zero => omega
  | succ n ih => cases i with
    | zero => simp [upFrom, nth]
    | succ i => have := ih (k + 1) (i := i) (by omega); simp [upFrom, nth] at this ⊢; omega

theorem IntO.ix {B e' : Nat} {w : World} {v : Value} {xs : List Int} (h : IntO B e' w v xs) {k : Nat} (hk : k < xs.length) :
    ∃ a : Addr, (∀ w1, (Instr.indexAt 22 v (.int .i64 (k : Int))).run Tryz.prog w1 = .ok (.pointer (some a)) w1) ∧ B ≤ a.block ∧ a.block < w.heap.size ∧
      w.cell? a = some (.int .i64 (nth xs k)) ∧ w.frozen? a = false ∧ v.ownBlock = some a.block ∧ ∀ x, IntO B e' (w.setCell a (.int .i64 x)) v (xs.set k x) := by
  obtain ⟨i, h1, _, h3, _⟩ := infoI
  exact h.at uI h1 h3 hk

theorem set_prefix {ys xs : List Int} {k : Nat} (hk : k < xs.length) (h : ys = xs.take k ++ List.replicate (xs.length - k) 0) : ys.set k (nth xs k) = xs.take (k + 1) ++ List.replicate (xs.length - (k + 1)) 0 := by
  subst h
  have h1 : (xs.take k).length = k := by rw [List.length_take]; omega
  rw [List.set_append_right _ _ (by omega), h1, Nat.sub_self, show xs.length - k = (xs.length - (k+1)) + 1 by omega, List.replicate_succ, List.set_cons_zero,
    List.take_succ_eq_append_getElem hk, nth_eq hk, List.append_assoc]
  rfl
theorem made_ints (n : Nat) : (madeCells (Value.int .i64 0).cells (n * 1)).toList = ints (List.replicate n 0) := by
  rw [show (Value.int .i64 0).cells = #[Value.int .i64 0] from rfl, Nat.mul_one, toList_madeCells_one, ints_replicate]
theorem IntO.len {B e : Nat} {w : World} {v : Value} {xs : List Int} (h : IntO B e w v xs) : ∃ p cap, v = .slice p xs.length cap := by
  obtain ⟨p, cap, h1, _⟩ := h.s.form; exact ⟨p, cap, h1⟩

theorem toIntS_c {w : World} {v : Value} {xs : List Int} (h : IntS w v xs) (hb : xs.length ≤ 1000000000000) :
    Calls Tryz.prog 6 #[v] w fun e w' => ∃ v', e = .returned v' ∧ IntO w.heap.size 3 w' v' xs ∧ Gr w w' := by
  obtain ⟨p, cap, rfl, hl1, hl2⟩ := h.form
  obtain ⟨i0, hi, hz, hs, hby⟩ := infoI
  go_enter Tryz.func6, Tryz.ntmps6
  go_wp2_with (refine wpl_make _ rfl _ _ _ rfl uI hi hz hs hby rfl rfl (by omega) (by omega) ?_; intro v' w1 ho hg1)
  have ho' : IntO w.heap.size 3 w1 v' (List.replicate xs.length 0) := by
    unfold IntO; rw [List.length_replicate, ← made_ints]; exact ho
  clear ho
  go_wp2_with fail
  go_loopw [4] (fun i wr => ∃ (k : Nat) (ys : List Int), k ≤ xs.length ∧ i = .int .i64 k ∧ Hid (ys = xs.take k ++ List.replicate (xs.length - k) 0) ∧ Gr w wr ∧ IntO w.heap.size 3 wr v' ys ∧ ys.length = xs.length) (fun i _ => xs.length - (intOf i).toNat)
  case atStart => exact ⟨0, _, Nat.zero_le _, rfl, by simp [Hid], hg1, ho', by simp⟩
  case round =>
    obtain ⟨k, ys, hk, rfl, hys, hgr, ho2, hyl⟩ := hrel
    have HYL := Lib.hid hyl; clear hyl
    by_cases hlt : k < xs.length
    · obtain ⟨a, hix, hca⟩ := (h.kept hgr).ix hlt
      obtain ⟨b, hjx, hb1, hb2, hcb, hfb, hob, hset⟩ := ho2.ix (show k < ys.length by have := HYL.out; omega)
      go_wp2
      go_roundw
      case rel => exact ⟨k+1, ys.set k (nth xs k), by omega, by go_num, set_prefix hlt hys.out, Below.setCell hgr hb1 _, hset _, by rw [List.length_set]; exact HYL.out⟩
      case measure => simp [intOf]; omega
    · go_wp2
      go_ret
      have e : ys = xs := by rw [hys.out, show k = xs.length by omega]; simp
      exact ⟨v', rfl, e ▸ ho2, hgr⟩

/-- At most the slice's own blocks have turned. -/
theorem markIntS_c {B T : Nat} {w : World} {v : Value} {xs : List Int} (h : IntB B T 3 w v xs) (k0 : Int) (h0 : 0 ≤ k0) (h1 : k0 ≤ 4000000000000000000) (hb : xs.length ≤ 1000000000000) :
    Calls Tryz.prog 12 #[v, .int .i64 k0] w fun e w' => e = .returned (.int .i64 (k0 + xs.length)) ∧ IntB B T 3 w' v (upFrom k0 xs.length) ∧ Chg B T w w' := by
  obtain ⟨p, cap, rfl⟩ := h.o.len
  have hT := h.2
  have HT := Lib.hid hT; clear hT
  replace h := h.o
  go_enter Tryz.func12, Tryz.ntmps12
  go_wp2_with fail
  go_loopw [1, 5] (fun m i wr => ∃ (k : Nat) (ys : List Int), k ≤ xs.length ∧ i = .int .i64 k ∧ m = .int .i64 (k0 + k) ∧ Hid (ys = upFrom k0 k ++ xs.drop k) ∧ Chg B T w wr ∧ IntO B 3 wr (.slice p xs.length cap) ys ∧ Hid (ys.length = xs.length)) (fun _ i _ => xs.length - (intOf i).toNat)
  case atStart => exact ⟨0, xs, Nat.zero_le _, rfl, by simp, by simp [Hid, upFrom], Chg.refl _ _ _, h, rfl⟩
  case round =>
    obtain ⟨k, ys, hk, rfl, rfl, hys, hgr, ho2, hyl⟩ := hrel
    by_cases hlt : k < xs.length
    · obtain ⟨b, hjx, hb1, hb2, hcb, hfb, hob, hset⟩ := ho2.ix (show k < ys.length by have := hyl.out; omega)
      have hbT := HT.out _ hob
      have HOB := Lib.hid hob; clear hob
      go_wp2
      go_roundw
      case rel =>
        refine ⟨k+1, ys.set k (k0 + k), by omega, by go_num, by rw [Int.natCast_add, Int.natCast_one, Int.add_assoc], ?_, hgr.set hb1 hbT _, hset _, by rw [Hid, List.length_set]; exact hyl.out⟩
        have e : k = (upFrom k0 k).length := (upFrom_length _ _).symm
        show ys.set k (k0 + k) = _
        rw [hys.out, List.set_append_right _ _ (by omega), upFrom_length, Nat.sub_self, upFrom_snoc, List.drop_eq_getElem_cons hlt, List.set_cons_zero, List.append_assoc]
        rfl
      case measure => simp [intOf]; omega
    · go_wp2
      go_ret
      have ek : k = xs.length := by omega
      have e : ys = upFrom k0 xs.length := by rw [hys.out, ek]; simp
      subst e
      refine ⟨ret_int (by rw [ek]), ⟨?_, HT.out⟩, hgr⟩
      unfold IntO at ho2
      rwa [upFrom_length] at ho2 ⊢

theorem heldIntS_c {w : World} {v : Value} (k0 : Int) (n : Nat) (h : IntS w v (upFrom k0 n)) (h0 : 0 ≤ k0) (h1 : k0 ≤ 4000000000000000000) (hb : n ≤ 1000000000000) :
    Calls Tryz.prog 23 #[v, .int .i64 k0] w fun e w' => e = .returned (.int .i64 (k0 + n)) ∧ w = w' := by
  obtain ⟨p, cap, rfl, hl1, hl2⟩ := h.form
  have hlen : (upFrom k0 n).length = n := upFrom_length _ _
  have hix' : ∀ k, k < n → ∃ a : Addr, (∀ w1, (Instr.indexAt 22 (.slice p n cap) (.int .i64 (k : Int))).run Tryz.prog w1 = .ok (.pointer (some a)) w1) ∧ w.cell? a = some (.int .i64 (k0 + k)) := by
    intro k hk
    obtain ⟨a, h1, h2⟩ := h.ix (show k < (upFrom k0 n).length by omega)
    rw [hlen] at h1; rw [nth_upFrom k0 hk] at h2
    exact ⟨a, h1, h2⟩
  rw [hlen]
  have HX := Lib.hid hix'; clear hix' hlen hl1 hl2 h
  go_enter Tryz.func23, Tryz.ntmps23
  go_wp2_with fail
  go_loop [1, 5] (fun m i => ∃ (k : Nat), k ≤ n ∧ i = .int .i64 k ∧ m = .int .i64 (k0 + k)) (fun _ i => n - (intOf i).toNat)
  case atStart => exact ⟨0, Nat.zero_le _, rfl, by simp⟩
  case round =>
    obtain ⟨k, hk, rfl, rfl⟩ := hrel
    by_cases hlt : k < n
    · obtain ⟨a, hix, hca⟩ := HX.out k hlt
      go_wp2
      go_round
      case rel => exact ⟨k+1, by omega, by go_num, by rw [Int.natCast_add, Int.natCast_one, Int.add_assoc]⟩
      case measure => simp [intOf]; omega
    · go_wp2
      go_ret
      exact ⟨ret_int (by rw [show k = n by omega]), rfl⟩
end Go.Proofs.YtgigjgjpglmpoaaGreatDoor
namespace Go.Proofs.YtgigjgjpglmpoaaGreatDoor
open Go.RowKit
theorem take_any (p : Int → Bool) {xs : List Int} {k : Nat} (h : k < xs.length) : (xs.take (k+1)).any p = ((xs.take k).any p || p (nth xs k)) := by
  rw [List.take_succ_eq_append_getElem h, nth_eq h, List.any_append]; simp
theorem any_true (p : Int → Bool) {xs : List Int} {k : Nat} (h : k < xs.length) (hp : p (nth xs k) = true) : xs.any p = true := by
  rw [List.any_eq_true]; exact ⟨xs[k], List.getElem_mem h, by rw [nth_eq h] at hp; exact hp⟩

/-- A function value without captures that tells something of an int. -/
def Tells (g : Nat) (p : Int → Bool) : Prop := (∀ args w, (callFunc g args).run Tryz.prog w = .ok (.enter g args) w) ∧ ∀ (x : Int) (w : World), Calls Tryz.prog g #[.int .i64 x] w fun e w' => e = .returned (.bool (p x)) ∧ w = w'

theorem IndexFuncI_c {w : World} {v : Value} {xs : List Int} (h : IntS w v xs) (g : Nat) (p : Int → Bool) (hg : Tells g p) :
    Calls Tryz.prog 41 #[v, .func (.func g) #[] #[]] w fun e w' => (∃ r : Int, decide (0 ≤ r) = xs.any p ∧ e = .returned (.int .i64 r)) ∧ w = w' := by
  obtain ⟨q, cap, rfl, hl1, hl2⟩ := h.form
  obtain ⟨hcf, hg⟩ := hg
  have HG := Lib.hid hg; clear hg
  go_enter Tryz.func41, Tryz.ntmps41
  go_wp2_with fail
  go_loop [8] (fun i => ∃ k : Nat, k ≤ xs.length ∧ i = .int .i64 k ∧ Hid ((xs.take k).any p = false)) (fun i => xs.length - (intOf i).toNat)
  case atStart => exact ⟨0, Nat.zero_le _, rfl, by simp [Hid]⟩
  case round =>
    obtain ⟨k, hk, rfl, hall⟩ := hrel
    by_cases hlt : k < xs.length
    · obtain ⟨a, hix, hca⟩ := h.ix hlt
      cases hb : p (nth xs k)
      · have HB := Lib.hid hb; clear hb
        go_wp2_with fail
        refine (HG.out _ _).mono ?_
        rintro e w' ⟨rfl, rfl⟩
        rw [HB.out]
        go_wp2
        go_round
        case rel => exact ⟨k+1, by omega, by go_num, by rw [Hid, take_any p hlt, hall.out, HB.out]; rfl⟩
        case measure => simp [intOf]; omega
      · have HB := Lib.hid hb; clear hb
        go_wp2_with fail
        refine (HG.out _ _).mono ?_
        rintro e w' ⟨rfl, rfl⟩
        rw [HB.out]
        go_wp2
        go_ret
        exact ⟨⟨k, by rw [any_true p hlt HB.out]; simp, rfl⟩, rfl⟩
    · go_wp2
      go_ret
      exact ⟨⟨-1, by have := hall.out; rw [List.take_of_length_le (by omega)] at this; rw [this]; rfl, rfl⟩, rfl⟩

theorem ContainsFuncI_c {w : World} {v : Value} {xs : List Int} (h : IntS w v xs) (g : Nat) (p : Int → Bool) (hg : Tells g p) :
    Calls Tryz.prog 31 #[v, .func (.func g) #[] #[]] w fun e w' => e = .returned (.bool (xs.any p)) ∧ w = w' := by
  go_enter Tryz.func31, Tryz.ntmps31
  go_wp2_with fail
  refine (IndexFuncI_c h g p hg).mono ?_
  rintro e w' ⟨⟨r, hr, rfl⟩, rfl⟩
  have HR := Lib.hid hr; clear hr
  go_wp2
  go_ret
  exact ⟨ret_bool HR.out, rfl⟩

theorem notByte_c : Tells 80 (fun x => !isB x) := by
  refine ⟨fun args w => by kernel_rfl, fun x w => ?_⟩
  go_enter Tryz.func80, Tryz.ntmps80
  go_wp2_with (go_at_call 29; refine (within_c _ _ _ _).mono ?_; rintro e w' ⟨rfl, rfl⟩)
  go_ret
  exact ⟨rfl, rfl⟩
theorem any_not_all (xs : List Int) : xs.any (fun x => !isB x) = !xs.all isB := by
  rw [Bool.eq_iff_iff]; simp
theorem implBytesValid_c {w : World} {v : Value} {xs : List Int} (h : IntS w v xs) :
    Calls Tryz.prog 66 #[v] w fun e w' => e = .returned (.bool (bv xs)) ∧ w = w' := by
  have hf := h.form
  obtain ⟨p, cap, hv, hl1, hl2⟩ := hf
  by_cases hn : xs.length ≤ 120
  · subst hv
    go_enter Tryz.func66, Tryz.ntmps66
    go_wp2_with (go_at_call 31; refine (ContainsFuncI_c h _ _ notByte_c).mono ?_; rintro e w' ⟨rfl, rfl⟩)
    go_ret
    exact ⟨ret_bool (by rw [bv, any_not_all]; simp; intro _; omega), rfl⟩
  · have hd : decide ((xs.length : Int) ≤ 120) = false := by simp; omega
    subst hv
    go_enter Tryz.func66, Tryz.ntmps66
    go_wp2
    go_ret
    exact ⟨ret_bool (by rw [bv, Bool.eq_iff_iff]; simp; omega), rfl⟩
end Go.Proofs.YtgigjgjpglmpoaaGreatDoor
namespace Go.Proofs.YtgigjgjpglmpoaaGreatDoor
open Go.RowKit
theorem clone_nil {w : World} {xs : List Int} (h : IntS w (.slice none 0 0) xs) : xs = [] := by
  obtain ⟨p, cap, hv, _⟩ := h.form
  simp only [Value.slice.injEq] at hv
  exact List.eq_nil_of_length_eq_zero hv.2.1.symm
theorem Clone_c {w : World} {v : Value} {xs : List Int} (h : IntS w v xs) (hb : xs.length ≤ 1000000000000) :
    Calls Tryz.prog 27 #[v] w fun e w' => ∃ v', e = .returned v' ∧ IntO w.heap.size 3 w' v' xs ∧ Gr w w' := by
  obtain ⟨i0, hi, hz, hs, hby⟩ := infoI
  obtain ⟨hl0, p, cap, rfl, hl1, hl2, hl3, hl4⟩ := id h
  cases p with
  | none =>
    obtain rfl := hl3 rfl
    obtain rfl : xs = [] := List.eq_nil_of_length_eq_zero (by omega)
    clear hl0 hl1 hl2 hl3 hl4
    have he : ∀ w1, (binOp .eql 22 (.slice none 0 0) (.slice none 0 0)).run Tryz.prog w1 = .ok (.bool true) w1 := fun w1 => by kernel_rfl
    go_enter Tryz.func27, Tryz.ntmps27
    go_wp2
    go_ret
    exact ⟨_, rfl, IntO.nil _ _ _, Gr.refl _⟩
  | some a =>
    clear hl0 hl1 hl2 hl3 hl4
    have he : ∀ w1, (binOp .eql 22 (.slice (some a) xs.length cap) (.slice none 0 0)).run Tryz.prog w1 = .ok (.bool false) w1 := fun w1 => Lib.run_eql_slice_nil w1 22 3 (some a) xs.length cap 0 0 uI
    go_enter Tryz.func27, Tryz.ntmps27
    go_wp2_with (at_builtin; refine wpl_append _ rfl _ _ _ rfl uI hi hz hs hby rfl (by decide) (by decide) rfl (Own.lit w #[] 0 (Nat.le_refl _) (by decide) rfl) rfl (Row.kept h ((Gr.refl w).alloc _)) (ints_one _) (by omega) (by simp) ?_; intro v' w1 ho hg1)
    go_ret
    refine ⟨v', rfl, ?_, ?_⟩
    · unfold IntO; simpa using ho
    · exact Below.trans ((Gr.refl w).alloc _) hg1
end Go.Proofs.YtgigjgjpglmpoaaGreatDoor
namespace Go.Proofs.YtgigjgjpglmpoaaGreatDoor
open Go.RowKit
/-- append(nil, make([]T, n)...), n > 0. -/
theorem append_made {P : Program} (w : World) {t ti ty e : TypeId} {i : TypeInfo} {z : Value} {k : IntKind} (ht : P.underlying t = some (.slice e)) (hti : P.underlying ti = some (.int k)) (hi : P.info? e = some i) (hz : i.zero = some z)
    (hsz : i.size = 1) (hzc : z.cells = #[z]) {n : Nat} (h0 : 0 < n) (hn : n * i.bytes ≤ 140737488355328) (hn' : n ≤ 140737488355328) :
    ∃ cap cur, (Builtin.append_ #[t, ti] ty #[.slice none 0 0, .int .i64 (n : Int)]).run P w = .ok (.slice (some ⟨w.heap.size, 0, none⟩) n cap) (w.drew.alloc (.cells cur e)) ∧ n ≤ cap ∧ cap ≤ maxLen ∧ cur.size = cap * 1 := by
  have hge := grownCap_ge w n 0 e
  have hcm : grownCap w n 0 e ≤ maxLen := grownCap_le_maxLen w n 0 e (by unfold maxLen; omega)
  refine ⟨grownCap w n 0 e, Builtin.zeroCells z.cells n ++ Builtin.zeroCells z.cells (grownCap w n 0 e - n), ?_, hge, hcm, ?_⟩
  · have hw : IntKind.i64.wrap (n : Int) = n := IntWalk.i64_in _ ⟨by omega, by omega⟩
    have h48 : ¬ (281474976710656 < Builtin.nextslicecap n 0 * i.bytes) := by
      have := growslice_fits (need := n) (old := 0) (bytes := i.bytes) h0 hn; omega
    have hb : ¬ ((281474976710656 : Int) < (n : Int) * (i.bytes : Int)) := by
      have : ((n * i.bytes : Nat) : Int) ≤ 140737488355328 := by omega
      rw [Int.natCast_mul] at this; omega
    have h63 : ¬ (9223372036854775807 < (n : Int)) := by omega
    simp [Builtin.append_, run_underlying ht, run_underlying hti, sizeOf, typeInfo, zeroValue, hi, hz, hsz, asInt, asIntOf, hw, hb, h48, h63, show ¬ n = 0 by omega, show ¬ ((n : Int) < 0) by omega, Question.forced, Builtin.firstCells, newRow, grownCap]
  · simp only [Array.size_append, size_zeroCells, hzc]; simp; omega

theorem wpl_append_made {P : Program} (w : World) {ops : Array Oper} {rest : List Oper} {o : Oper} {a : Act} {Q : Exit → Act → World → Prop} (hgd : o.guard = none) (s x : Operand) (t ti : TypeId)
    (ho : o.op = .call { callee := .builtin .append, args := #[s, x], argTypes := #[t, ti] })
    {e : TypeId} {i : TypeInfo} {z : Value} {k : IntKind} (ht : P.underlying t = some (.slice e)) (hti : P.underlying ti = some (.int k)) (hi : P.info? e = some i) (hz : i.zero = some z)
    (hsz : i.size = 1) (hzc : z.cells = #[z]) {n : Nat} (h0 : 0 < n) (hn : n * i.bytes ≤ 140737488355328) (hn' : n ≤ 140737488355328)
    (hs : a.eval s = .slice none 0 0) (hx : a.eval x = .int .i64 (n : Int))
    (h : ∀ cap cur, n ≤ cap → Own w.heap.size e 1 (w.drew.alloc (.cells cur e)) (.slice (some ⟨w.heap.size, 0, none⟩) 0 cap) 0 [] → wpList P ops Q rest (a.put o.dst (.slice (some ⟨w.heap.size, 0, none⟩) n cap)) (w.drew.alloc (.cells cur e))) :
    wpList P ops Q (o :: rest) a w := by
  refine wpList_plain hgd fun K hK => ?_
  obtain ⟨cap, cur, hr, h1, h2, h3⟩ := append_made (P := P) w (ty := o.type) ht hti hi hz hsz hzc h0 hn hn'
  unfold Oper.wp execOp
  simp only [ho, resolve, invoke, builtin, Sem.run_bind, Sem.run_pure, Result.andThen_ok, List.map_toArray, List.map_cons, List.map_nil, hs, hx, hr]
  exact hK _ _ (h cap cur h1 (World.ownsRow_made w.drew cur cap (Nat.le_refl _) h2 h3))
theorem wpl_appI {w : World} {ops : Array Oper} {rest : List Oper} {o : Oper} {a : Act} {Q : Exit → Act → World → Prop} (hgd : o.guard = none) (s x : Operand)
    (ho : o.op = .call { callee := .builtin .append, args := #[s, x], argTypes := #[22, 22] })
    {B : Nat} {v : Value} {xs : List Int} (hs : a.eval s = v) (hown : IntO B 3 w v xs) {xv : Value} {ys : List Int} (hx : a.eval x = xv) (hrow : IntS w xv ys)
    (hb : xs.length + ys.length ≤ 1000000000000) (hB : B ≤ w.heap.size)
    (h : ∀ v' w', IntO B 3 w' v' (xs ++ ys) → Below B w w' → wpList Tryz.prog ops Q rest (a.put o.dst v') w') : wpList Tryz.prog ops Q (o :: rest) a w := by
  obtain ⟨i0, hi, hz, hs', hby⟩ := infoI
  refine wpl_append w hgd s x _ ho uI hi hz hs' hby rfl (by decide) (by decide) hs hown hx hrow (ints_one _) (by omega) hB fun v' w' h1 h2 => h v' w' ?_ h2
  unfold IntO; rw [ints_append, List.length_append]; exact h1
theorem wpl_makeI {w : World} {ops : Array Oper} {rest : List Oper} {o : Oper} {a : Act} {Q : Exit → Act → World → Prop} (hgd : o.guard = none) (l c : Operand)
    (ho : o.op = Op.makeSlice 22 l c) {n : Nat} (hl : a.eval l = .int .i64 (n : Int)) (hc : a.eval c = .int .i64 (n : Int)) (hn : n ≤ 1000000000000)
    (h : ∀ (p : Option Addr) w', IntO w.heap.size 3 w' (.slice p n n) (List.replicate n 0) → Gr w w' → wpList Tryz.prog ops Q rest (a.put o.dst (.slice p n n)) w') : wpList Tryz.prog ops Q (o :: rest) a w := by
  obtain ⟨i0, hi, hz, hs', hby⟩ := infoI
  refine wpList_make_full w hgd l c _ ho w.heap.size _ i0 _ 1 uI hi hz hs' .i64 .i64 n n n hl hc rfl rfl (by rw [hby]; omega) (by unfold maxLen; omega) (Nat.le_refl _)
    fun w' h1 h2 => h _ w' ?_ ((Below.refl _ w).grown h2 (Nat.le_refl _) (by simp))
  unfold IntO; rw [List.length_replicate, ← made_ints]; exact h1
theorem IntO.mt (w : World) : IntO w.heap.size 3 (w.alloc (.cells #[] 3)) (.slice (some ⟨w.heap.size, 0, none⟩) 0 0) [] := Own.lit w #[] 0 (Nat.le_refl _) (by decide) rfl
theorem gr_alloc (w : World) (o : Obj) : Gr w (w.alloc o) := (Gr.refl w).alloc o
theorem uInt : Tryz.prog.underlying 3 = some (.int .i64) := by kernel_rfl
end Go.Proofs.YtgigjgjpglmpoaaGreatDoor
namespace Go.Proofs.YtgigjgjpglmpoaaGreatDoor
open Go.RowKit
theorem infoII : ∃ i, Tryz.prog.info? 22 = some i ∧ i.zero = some (.slice none 0 0) ∧ i.size = 1 ∧ i.bytes = 24 := info_parts (by kernel_rfl)
/-- A slice of slices of ints. -/
def nthV (vs : List Value) (k : Nat) : Value := vs.getD k undef
def nthL (xss : List (List Int)) (k : Nat) : List Int := xss.getD k []
def IntSS (w : World) (v : Value) (xss : List (List Int)) : Prop :=
  ∃ vs : List Value, Row w 1 v xss.length vs ∧ ∀ k, k < xss.length → IntS w (nthV vs k) (nthL xss k)
theorem IntSS.kept {w w' : World} {v : Value} {xss : List (List Int)} (h : IntSS w v xss) (hg : Gr w w') : IntSS w' v xss := by
  obtain ⟨vs, h1, h2⟩ := h
  exact ⟨vs, h1.kept hg, fun k hk => (h2 k hk).kept hg⟩
theorem IntSS.form {w : World} {v : Value} {xss : List (List Int)} (h : IntSS w v xss) : ∃ p cap, v = .slice p xss.length cap ∧ xss.length ≤ cap ∧ cap ≤ 9223372036854775807 := by
  obtain ⟨vs, ⟨_, p, cap, h1, h2, h3, _⟩, _⟩ := h
  exact ⟨p, cap, h1, h2, h3⟩
def total (xss : List (List Int)) : Nat := xss.flatten.length
theorem nthL_eq {xss : List (List Int)} {k : Nat} (h : k < xss.length) : nthL xss k = xss[k] := by simp [nthL, h]
theorem flat_step {xss : List (List Int)} {k : Nat} (h : k < xss.length) : (xss.take (k+1)).flatten = (xss.take k).flatten ++ nthL xss k := by
  rw [List.take_succ_eq_append_getElem h, nthL_eq h, List.flatten_append]; simp
theorem total_step {xss : List (List Int)} {k : Nat} (h : k < xss.length) : total (xss.take (k+1)) = total (xss.take k) + (nthL xss k).length := by
  unfold total; rw [flat_step h, List.length_append]
theorem total_le (xss : List (List Int)) (k : Nat) : total (xss.take k) ≤ total xss := by
  unfold total
  conv => rhs; rw [← List.take_append_drop k xss, List.flatten_append, List.length_append]
  omega
end Go.Proofs.YtgigjgjpglmpoaaGreatDoor
namespace Go.Proofs.YtgigjgjpglmpoaaGreatDoor
open Go.RowKit
theorem bv_append (xs ys : List Int) : bv (xs ++ ys) = (bv xs && (bv ys && decide (xs.length + ys.length ≤ 120))) := by
  simp only [bv, List.all_append, List.length_append]
  cases xs.all isB <;> cases ys.all isB <;> simp
  rw [Bool.eq_iff_iff]; simp; omega
def feedPut (xs ys : List Int) : List Int × Bool := if bv (xs ++ ys) then (xs ++ ys, true) else ([], false)
theorem IntSS.lit2 {w : World} {a b : Value} {xs ys : List Int} (ha : IntS w a xs) (hb : IntS w b ys) :
    IntSS (w.alloc (.cells #[a, b] 22)) (.slice (some ⟨w.heap.size, 0, none⟩) 2 2) [xs, ys] := by
  refine ⟨[a, b], (Own.lit (B := w.heap.size) w #[a, b] 2 (Nat.le_refl _) (by decide) rfl).row, fun k hk => ?_⟩
  have hg : Gr w (w.alloc (.cells #[a, b] 22)) := (Gr.refl w).alloc _
  match k, hk with
  | 0, _ => exact ha.kept hg
  | 1, _ => exact hb.kept hg
end Go.Proofs.YtgigjgjpglmpoaaGreatDoor
namespace Go.Proofs.YtgigjgjpglmpoaaGreatDoor
open Go.RowKit
/-- The bytes of a string. -/
def sb (s : ByteArray) : List Int := s.data.toList.map fun c => (c.toNat : Int)
theorem sb_length (s : ByteArray) : (sb s).length = s.size := by simp [sb]
theorem nth_sb {s : ByteArray} {k : Nat} (h : k < s.size) : nth (sb s) k = (s[k].toNat : Int) := by
  have h' : k < (sb s).length := by rw [sb_length]; exact h
  rw [nth_eq h']; simp [sb]; rfl
theorem nth_sb_range (s : ByteArray) (k : Nat) : 0 ≤ nth (sb s) k ∧ nth (sb s) k ≤ 255 := by
  by_cases h : k < s.size
  · rw [nth_sb h]; have := s[k].toNat_lt; omega
  · have : nth (sb s) k = 0 := by simp [nth, sb, h]
    omega
theorem wrap_sb {s : ByteArray} {k : Nat} (h : k < s.size) : wrap64 (s[k].toNat : Int) = nth (sb s) k := by
  rw [nth_sb h]; have := s[k].toNat_lt; exact IntWalk.wrap64_in _ ⟨by omega, by omega⟩
theorem set_prefix' {ys xs : List Int} {n k : Nat} (hn : xs.length = n) (hk : k < n) (h : ys = xs.take k ++ List.replicate (n - k) 0) : ys.set k (nth xs k) = xs.take (k + 1) ++ List.replicate (n - (k + 1)) 0 := by
  subst hn; exact set_prefix hk h
/-- The first 14 bytes of a head. -/
def headStart : List Int := [13, 10, 13, 10, 0, 13, 10, 81, 85, 73, 84, 10, 33, 17]
/-- Alike as far as both go. -/
def alike (xs ys : List Int) : Bool := xs.take (min xs.length ys.length) == ys.take (min xs.length ys.length)
theorem alike_false {xs ys : List Int} {k : Nat} (hx : k < xs.length) (hy : k < ys.length) (h : nth xs k ≠ nth ys k) : alike xs ys = false := by
  unfold alike; rw [beq_eq_false_iff_ne]; intro he
  have h1 : k < min xs.length ys.length := by omega
  have := congrArg (fun l : List Int => l[k]?) he
  simp only [List.getElem?_take, h1, if_true, List.getElem?_eq_getElem hx, List.getElem?_eq_getElem hy, Option.some.injEq] at this
  rw [nth_eq hx, nth_eq hy] at h; exact h this
theorem alike_true {xs ys : List Int} {k : Nat} (hk : k = min xs.length ys.length) (h : xs.take k = ys.take k) : alike xs ys = true := by
  unfold alike; rw [beq_iff_eq, ← hk]; exact h

/-- Bytes begin with others. -/
def begins (xs ys : List Int) : Bool := decide (ys.length ≤ xs.length) && (xs.take ys.length == ys)
/-- The first elements of a slice. -/
theorem IntS.pre {w : World} {v : Value} {xs : List Int} (h : IntS w v xs) {k : Nat} (hk : k ≤ xs.length) :
    ∃ v' : Value, (∀ w1, (Instr.slice 22 v none (some (.int .i64 (k : Int))) none).run Tryz.prog w1 = .ok v' w1) ∧ IntS w v' (xs.take k) := by
  obtain ⟨i0, hi, hz, hs, hby⟩ := infoI
  obtain ⟨v', h1, h2⟩ := Row.cut h uI hi hs (Nat.zero_le k) hk
  refine ⟨v', fun w1 => ?_, ?_⟩
  · rw [← h1 w1]
    obtain ⟨p, cap, rfl, hl1, hl2⟩ := h.form
    have a4 : (k : Int) ≤ cap := by omega
    simp [Instr.slice, run_underlying uI, Instr.sliceBounds, Instr.sliceBound, asIntOf, sizeOf, typeInfo, hi, show k ≤ cap by omega]
  · unfold IntS; rw [← ints_take, List.length_take, show min k xs.length = k by omega]; simpa using h2
end Go.Proofs.YtgigjgjpglmpoaaGreatDoor
namespace Go.Proofs.YtgigjgjpglmpoaaGreatDoor
open Go.RowKit
def tunnelB : List Int := [67, 79, 78, 78, 69, 67, 84, 32]
def lineB : List Int := [80, 82, 79, 88, 89, 32]
/-- What bytes begin with. -/
def sniffKind (xs : List Int) : Int :=
  if bv xs = false then 6 else if xs.length = 0 then 0 else if nth xs 0 = 4 then 1 else if nth xs 0 = 5 then 2
  else if alike xs tunnelB = true then (if 8 ≤ xs.length then 3 else 0)
  else if alike xs lineB = true then (if 6 ≤ xs.length then 4 else 0)
  else if alike xs headStart = true then (if 14 ≤ xs.length then 5 else 0) else 6
theorem sb_tunnel : sb ⟨#[67, 79, 78, 78, 69, 67, 84, 32]⟩ = tunnelB := by decide
theorem sb_line : sb ⟨#[80, 82, 79, 88, 89, 32]⟩ = lineB := by decide
theorem IntS.ix0 {w : World} {p : Option Addr} {cap : Nat} {xs : List Int} (h : IntS w (.slice p xs.length cap) xs) (hk : 0 < xs.length) :
    ∃ a : Addr, (∀ w1, (Instr.indexAt 22 (.slice p xs.length cap) (.int .i64 0)).run Tryz.prog w1 = .ok (.pointer (some a)) w1) ∧ w.cell? a = some (.int .i64 (nth xs 0)) := h.ix hk

/-- The loop over the three beginnings: what it tells of one. -/
theorem begins_iff (xs ys : List Int) : begins xs ys = (alike xs ys && decide (ys.length ≤ xs.length)) := by
  unfold begins alike
  by_cases h : ys.length ≤ xs.length
  · rw [Nat.min_eq_right h]; simp [h]
  · simp [h]
theorem alike_comm (xs ys : List Int) : alike xs ys = alike ys xs := by
  unfold alike; rw [Nat.min_comm, Bool.eq_iff_iff, beq_iff_eq, beq_iff_eq]; exact eq_comm
theorem begins_or (xs ys : List Int) (h : begins xs ys = false) : begins ys xs = alike xs ys := by
  rw [begins_iff] at h ⊢
  rw [alike_comm ys xs]
  cases ha : alike xs ys
  · simp
  · rw [ha] at h; simp at h; simp; omega
theorem IntSS.lit3 {w : World} {a b c : Value} {xs ys zs : List Int} (ha : IntS w a xs) (hb : IntS w b ys) (hc : IntS w c zs) :
    IntSS (w.alloc (.cells #[a, b, c] 22)) (.slice (some ⟨w.heap.size, 0, none⟩) 3 3) [xs, ys, zs] := by
  refine ⟨[a, b, c], (Own.lit (B := w.heap.size) w #[a, b, c] 3 (Nat.le_refl _) (by decide) rfl).row, fun k hk => ?_⟩
  have hg : Gr w (w.alloc (.cells #[a, b, c] 22)) := (Gr.refl w).alloc _
  match k, hk with
  | 0, _ => exact ha.kept hg
  | 1, _ => exact hb.kept hg
  | 2, _ => exact hc.kept hg
def firsts : List (List Int) := [tunnelB, lineB, headStart]
theorem sniff_at {xs : List Int} (c1 : ¬ bv xs = false) (c2 : ¬ xs.length = 0) (c3 : ¬ nth xs 0 = 4) (c4 : ¬ nth xs 0 = 5) {k : Nat} (hk : k < 3)
    (h : ∀ j, j < k → alike xs (nthL firsts j) = false) (ha : alike xs (nthL firsts k) = true) : sniffKind xs = if (nthL firsts k).length ≤ xs.length then (3 : Int) + k else 0 := by
  unfold sniffKind
  rw [if_neg c1, if_neg c2, if_neg c3, if_neg c4]
  match k, hk with
  | 0, _ =>
    rw [if_pos (show alike xs tunnelB = true from ha)]; rfl
  | 1, _ =>
    have h0 : alike xs tunnelB = false := h 0 (by decide)
    rw [if_neg (by rw [h0]; decide), if_pos (show alike xs lineB = true from ha)]; rfl
  | 2, _ =>
    have h0 : alike xs tunnelB = false := h 0 (by decide)
    have h1 : alike xs lineB = false := h 1 (by decide)
    rw [if_neg (by rw [h0]; decide), if_neg (by rw [h1]; decide), if_pos (show alike xs headStart = true from ha)]; rfl
theorem sniff_none {xs : List Int} (c1 : ¬ bv xs = false) (c2 : ¬ xs.length = 0) (c3 : ¬ nth xs 0 = 4) (c4 : ¬ nth xs 0 = 5)
    (h : ∀ j, j < 3 → alike xs (nthL firsts j) = false) : sniffKind xs = 6 := by
  unfold sniffKind
  have h0 : alike xs tunnelB = false := h 0 (by decide)
  have h1 : alike xs lineB = false := h 1 (by decide)
  have h2 : alike xs headStart = false := h 2 (by decide)
  rw [if_neg c1, if_neg c2, if_neg c3, if_neg c4, if_neg (by rw [h0]; decide), if_neg (by rw [h1]; decide), if_neg (by rw [h2]; decide)]
theorem firsts_len : firsts.length = 3 := rfl
end Go.Proofs.YtgigjgjpglmpoaaGreatDoor
