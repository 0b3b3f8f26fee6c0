/- Heads out of bytes: the reference's walk. -/
import Derived.Test.YtgigjgjpglmpoaaGreatDoorGK
namespace Go.Proofs.YtgigjgjpglmpoaaGreatDoor
open Go.RowKit
theorem headFrom_1 {xs : List Int} (h : bv xs = false) : headFrom xs = none := by unfold headFrom; rw [if_neg]; rintro ⟨h1, _⟩; rw [h] at h1; cases h1
theorem headFrom_2 {xs : List Int} (h : xs.length < 28) : headFrom xs = none := by unfold headFrom; rw [if_neg]; rintro ⟨_, h1, _⟩; omega
theorem headFrom_3 {xs : List Int} (h : alike xs headStart = false) : headFrom xs = none := by unfold headFrom; rw [if_neg]; rintro ⟨_, _, h1, _⟩; rw [h] at h1; cases h1
theorem headFrom_4 {xs : List Int} (h : hSize xs < 12 ∨ xs.length - 16 < hSize xs) : headFrom xs = none := by unfold headFrom; rw [if_neg]; rintro ⟨_, _, _, h1, h2⟩; omega
theorem headFrom_5 {xs : List Int} (h1 : bv xs = true) (h2 : 28 ≤ xs.length) (h3 : alike xs headStart = true) (h4 : 12 ≤ hSize xs) (h5 : hSize xs ≤ xs.length - 16) :
    headFrom xs = (tagsFrom ((xs.drop 28).take (hSize xs - 12))).map fun ts => (hPar xs, ts, 16 + hSize xs) := by unfold headFrom; rw [if_pos ⟨h1, h2, h3, h4, h5⟩]
theorem IntS.cutL {w : World} {p : Option Addr} {cap : Nat} {xs : List Int} (h : IntS w (.slice p xs.length cap) xs) (lo n : Nat) {a b : Int} (ha : a = (lo : Int)) (hb : b = ((lo + n : Nat) : Int)) (hn : lo + n ≤ xs.length) :
    ∃ (p' : Option Addr) (c' : Nat), (∀ w1, (Instr.slice 22 (.slice p xs.length cap) (some (.int .i64 a)) (some (.int .i64 b)) none).run Tryz.prog w1 = .ok (.slice p' n c') w1) ∧ IntS w (.slice p' n c') ((xs.drop lo).take n) := by
  obtain ⟨v', h1, h2⟩ := IntS.cutI h hn ha hb
  obtain ⟨p', c', hv, _, _⟩ := h2.form
  have hl : ((xs.drop lo).take n).length = n := by rw [List.length_take, List.length_drop]; omega
  rw [hl] at hv
  subst hv
  exact ⟨p', c', h1, h2⟩
/-- append at a step of a region that draws, with all that it leaves alone. -/
theorem step_appG {w : World} {ops : Array Oper} {o : Oper} {a : Act} {K : Act → World → Prop} {Q : Exit → Act → World → Prop} {E : Prop} (hgd : o.guard = none) (s x : Operand)
    (ho : o.op = .call { callee := .builtin .append, args := #[s, x], argTypes := #[22, 22] })
    {B : Nat} {v : Value} {xs : List Int} (hs : a.eval s = v) (hown : IntO B 3 w v xs) {p : Option Addr} {n c : Nat} {ys : List Int} (hx : a.eval x = .slice p n c) (hrow : IntS w (.slice p n c) ys)
    (hb : xs.length + ys.length ≤ 1000000) (hp : 0 < ys.length) (hB : B ≤ w.heap.size)
    (h : ∀ v' w', IntO B 3 w' v' (xs ++ ys) → Below B w w' → (∀ b, b < w.heap.size → v.ownBlock ≠ some b → w'.heap[b]? = w.heap[b]?) → (∀ b, v'.ownBlock = some b → v.ownBlock = some b ∨ b = w.heap.size) → K (a.put o.dst v') w') : if Region.wanted o (yielded ops a.tmps) = true then Oper.wp Tryz.prog o a w K Q else E := by
  have hw : Region.wanted o (yielded ops a.tmps) = true := by simp [Region.wanted, hgd]
  rw [if_pos hw]
  obtain ⟨i, hi, hz, hs', hby⟩ := infoI
  obtain ⟨hl, p', cap, hv, c1, c2, c3, c4⟩ := hrow
  injection hv with e1 e2 e3
  subst e1 e3
  cases p with
  | none => have := c3 rfl; omega
  | some ad =>
    obtain ⟨v', w', hr, q1, q2, _, q4⟩ := run_append_own_at (P := Tryz.prog) w B 22 o.type 3 i _ 1 8 uI hi hz hs' hby rfl (by decide) v xs.length (ints xs) hown ad n c (ints ys) (by rw [ints_length]; omega) (by subst e2; exact c4 ad rfl) (ints_one _) (by unfold maxLen; omega) (by omega) hB
    have hbl : Below B w w' := (Below.refl B w).grown q2 hB (fun k hk => (hown.blk k hk).1)
    unfold Oper.wp execOp
    simp only [ho, resolve, invoke, builtin, Sem.run_bind, Sem.run_pure, Result.andThen_ok, List.map_toArray, List.map_cons, List.map_nil, hs, hx, hr]
    have hv' : ∀ b, v'.ownBlock = some b → v.ownBlock = some b ∨ b = w.heap.size := by
      intro b hb1
      rcases q4 with q4 | q4
      · exact .inl (by rw [← q4]; exact hb1)
      · rw [q4] at hb1; exact .inr (Option.some.inj hb1).symm
    refine h _ _ ?_ hbl (fun b hb1 hne => q2.block b hb1 (fun e => hne e.symm)) hv'
    unfold IntO; rw [ints_append, List.length_append, ← e2]; exact q1
theorem IntO.mtN {w : World} {m : Nat} (hm : m = w.heap.size) : IntO w.heap.size 3 (w.alloc (.cells #[] 3)) (.slice (some ⟨m, 0, none⟩) 0 0) [] := by subst hm; exact IntO.mt w
theorem IntO.at1 {B e : Nat} {w : World} {v : Value} {xs : List Int} (h : IntO B e w v xs) (hl : 0 < xs.length) : ∃ b, v.ownBlock = some b ∧ B ≤ b ∧ b < w.heap.size ∧ IntB b (b + 1) e w v xs := by
  rcases h.2 with ⟨_, h0⟩ | ⟨g, cap, cur, hv, hb, hg, _⟩
  · omega
  · have ho : v.ownBlock = some g := by rw [hv]; rfl
    obtain ⟨n1, n2, n3⟩ := OwnB.narrow (IntO.b h) ho
    exact ⟨g, ho, hb, n2, n3⟩
theorem alloc2_top (w : World) (x y : Obj) {m : Nat} (hm : m = w.heap.size + 1) : ((w.alloc x).alloc y).drew.heap[m]? = some y := by
  subst hm
  have := heap_alloc_new (w.alloc x) y
  rw [show (w.alloc x).heap.size = w.heap.size + 1 by simp] at this
  exact this
theorem alloc2_low (w : World) (x y : Obj) : ((w.alloc x).alloc y).drew.heap[w.heap.size]? = some x := (gr_alloc (w.alloc x) y).blk (heap_alloc_new w x)
def z8 : Array Value := #[.int .i64 0, .slice none 0 0, .string ⟨#[]⟩, .int .i64 0, .int .i64 0, .slice none 0 0, .string ⟨#[]⟩, .int .i64 0]
/-- Cells 4 to 7 of a block are written. -/
def put4h (w : World) (b : Nat) (a4 a5 a6 a7 : Value) : World := (((w.setCell ⟨b, 4, none⟩ a4).setCell ⟨b, 5, none⟩ a5).setCell ⟨b, 6, none⟩ a6).setCell ⟨b, 7, none⟩ a7
theorem put4h_blk {w : World} {b : Nat} {c0 c1 c2 c3 c4 c5 c6 c7 : Value} {t : TypeId} (h : w.heap[b]? = some (.cells #[c0, c1, c2, c3, c4, c5, c6, c7] t (0, 0))) (a4 a5 a6 a7 : Value) :
    (put4h w b a4 a5 a6 a7).heap[b]? = some (.cells #[c0, c1, c2, c3, a4, a5, a6, a7] t (0, 0)) := by
  have h4 := heap_set (j := 4) (x := a4) h
  have h5 := heap_set (j := 5) (x := a5) h4
  have h6 := heap_set (j := 6) (x := a6) h5
  exact heap_set (j := 7) (x := a7) h6
theorem put4h_chg (w : World) (b : Nat) (a4 a5 a6 a7 : Value) : Chg b (b + 1) w (put4h w b a4 a5 a6 a7) :=
  Chg.set (p := ⟨b, 7, none⟩) (Chg.set (p := ⟨b, 6, none⟩) (Chg.set (p := ⟨b, 5, none⟩) (Chg.set (p := ⟨b, 4, none⟩) (Chg.refl b (b + 1) w) (Nat.le_refl _) (Nat.lt_succ_self _) a4) (Nat.le_refl _) (Nat.lt_succ_self _) a5) (Nat.le_refl _) (Nat.lt_succ_self _) a6) (Nat.le_refl _) (Nat.lt_succ_self _) a7
end Go.Proofs.YtgigjgjpglmpoaaGreatDoor
