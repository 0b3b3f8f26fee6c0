/- laws.toTagS. -/
import Derived.Test.YtikkjcfadbhemaaDoorToT
import Derived.Test.YtikkjcfadbhemaaDoorGH
namespace Go.Proofs.YtikkjcfadbhemaaDoor
open Go.RowKit
theorem made_tags (n : Nat) : (madeCells (Value.agg #[.int .i64 0, .slice none 0 0]).cells (n * 2)).toList = tagCells (List.replicate n (0, [])) (List.replicate n (.slice none 0 0)) := by
  have hl : (tagCells (List.replicate n ((0 : Int), ([] : List Int))) (List.replicate n (.slice none 0 0))).length = n * 2 := by rw [tagCells_len, List.length_replicate]
  refine list_ext2 (n := n) (by simp [madeCells]) hl fun j hj => ?_
  have hg := tagCells_get (ts := List.replicate n ((0 : Int), ([] : List Int))) (ds := List.replicate n (.slice none 0 0)) (k := j) (by simpa using hj)
  rw [hg.1, hg.2]
  have e1 : nthT (List.replicate n ((0 : Int), ([] : List Int))) j = (0, []) := by simp [nthT, hj]
  have e2 : nthV (List.replicate n (.slice none 0 0)) j = .slice none 0 0 := by simp [nthV, hj]
  rw [e1, e2]
  have hz : (Value.agg #[.int .i64 0, .slice none 0 0]).cells = #[.int .i64 0, .slice none 0 0] := rfl
  rw [hz]
  have h1 : j * 2 < n * 2 := by omega
  have h2 : j * 2 + 1 < n * 2 := by omega
  constructor
  · simp [madeCells, h1]
  · simp [madeCells, h2, Nat.add_mod]
theorem wpl_makeT {w : World} {ops : Array Oper} {rest : List Oper} {o : Oper} {a : Act} {Q : Exit → Act → World → Prop} (hgd : o.guard = none) (l c : Operand)
    (ho : o.op = Op.makeSlice 38 l c) {n : Nat} (hl : a.eval l = .int .i64 (n : Int)) (hc : a.eval c = .int .i64 (n : Int)) (hn : n ≤ 1000000000)
    (h : ∀ (p : Option Addr) w', TagO w.heap.size w'.heap.size w' (.slice p n n) (List.replicate n (0, [])) → Gr w w' → wpList Tryd.prog ops Q rest (a.put o.dst (.slice p n n)) w') : wpList Tryd.prog ops Q (o :: rest) a w := by
  obtain ⟨i0, hi, hz, hs', hby⟩ := infoT
  refine wpList_make_full w hgd l c _ ho w.heap.size _ i0 _ 2 uT hi hz hs' .i64 .i64 n n n hl hc rfl rfl (by rw [hby]; omega) (by unfold maxLen; omega) (Nat.le_refl _)
    fun w' h1 h2 => h _ w' ?_ ((Below.refl _ w).grown h2 (Nat.le_refl _) (by simp))
  rw [made_tags] at h1
  have e2 : ∀ k, nthV (List.replicate n (.slice none 0 0)) k = .slice none 0 0 ∨ nthV (List.replicate n (.slice none 0 0)) k = nthV [] 0 := by
    intro k
    by_cases hk : k < n
    · left; simp [nthV, hk]
    · right; simp [nthV, hk]
  refine ⟨List.replicate n (.slice none 0 0), by simp, ?_, ?_, ?_, ?_⟩
  · rw [List.length_replicate]; exact Own.b h1
  · intro k hk
    rw [List.length_replicate] at hk
    have e1 : nthT (List.replicate n ((0 : Int), ([] : List Int))) k = (0, []) := by simp [nthT, hk]
    have e3 : nthV (List.replicate n (.slice none 0 0)) k = .slice none 0 0 := by simp [nthV, hk]
    rw [e1, e3]
    exact ⟨World.ownsRow_nil w' _ _ 1, by intro k hk; cases hk⟩
  · intro k hk b hb
    rw [List.length_replicate] at hk
    have e3 : nthV (List.replicate n (.slice none 0 0)) k = .slice none 0 0 := by simp [nthV, hk]
    rw [e3] at hb; cases hb
  · intro i j hij hj b hb
    rw [List.length_replicate] at hj
    have e3 : nthV (List.replicate n (.slice none 0 0)) i = .slice none 0 0 := by simp [nthV, show i < n by omega]
    rw [e3] at hb; cases hb
/-- A tag is written into an element. -/
theorem TagO.put {B T : Nat} {w : World} {v : Value} {us : List Tag} (h : TagO B T w v us) (hT : T ≤ w.heap.size) (hBT : B ≤ T) {k : Nat} (hk : k < us.length) :
    ∃ (g o : Nat) (d0 : Value), (∀ w1, (Instr.indexAt 38 v (.int .i64 (k : Int))).run Tryd.prog w1 = .ok (.pointer (some ⟨g, o, none⟩)) w1) ∧ B ≤ g ∧ w.cell? ⟨g, o, none⟩ = some (.int .i64 (nthT us k).1) ∧ w.frozen? ⟨g, o, none⟩ = false ∧ w.cell? ⟨g, o + 1, none⟩ = some d0 ∧ w.frozen? ⟨g, o + 1, none⟩ = false ∧
      ∀ x d ys, IntO T 3 w d ys → TagO B w.heap.size ((w.setCell ⟨g, o, none⟩ (.int .i64 x)).setCell ⟨g, o + 1, none⟩ d) v (us.set k (x, ys)) := by
  obtain ⟨g, o, d, b, hix, hgB, hgT, hc0, hf0, hc1, hob, hset, _, _, _⟩ := h.place hk
  obtain ⟨a0, d0, hix0, _, hq1, hqf, _⟩ := h.setData hT hBT hk
  have ea : a0 = ⟨g, o, none⟩ := by
    have e1 := hix0 w
    rw [hix w] at e1
    injection e1 with e1
    injection e1 with e1
    injection e1 with e1
    exact e1.symm
  subst ea
  refine ⟨g, o, d, hix, hgB, hc0, hf0, hc1, hqf, fun x d ys hd => ?_⟩
  have h1 := hset x
  have hsz : (w.setCell ⟨g, o, none⟩ (.int .i64 x)).heap.size = w.heap.size := by simp [World.setCell]
  obtain ⟨a1, d1, hix1, _, _, _, hall⟩ := h1.setData (by rw [hsz]; exact hT) hBT (k := k) (by simpa using hk)
  have ea : a1 = ⟨g, o, none⟩ := by
    have e1 := hix1 w
    rw [hix w] at e1
    injection e1 with e1
    injection e1 with e1
    injection e1 with e1
    exact e1.symm
  subst ea
  have hd' : IntO T 3 (w.setCell ⟨g, o, none⟩ (.int .i64 x)) d ys := Own.keptOf hd fun j hj _ => Below.heap_setCell _ _ _ _ (by simp only []; omega)
  have := hall d ys hd'
  rw [hsz, List.set_set, nthT_set hk, if_pos rfl] at this
  exact this
def Copied (ts us : List Tag) (k : Nat) : Prop := us.length = ts.length ∧ ∀ j, j < k → nthT us j = nthT ts j
theorem Copied.done {ts us : List Tag} {k : Nat} (h : Copied ts us k) (hk : ¬ k < ts.length) : us = ts := by
  apply List.ext_getElem h.1
  intro i h1 h2
  have := h.2 i (by omega)
  rwa [nthT_eq h1, nthT_eq h2] at this
theorem Copied.next {ts us : List Tag} {k : Nat} (h : Copied ts us k) (hk : k < ts.length) : Copied ts (us.set k ((nthT ts k).1, (nthT ts k).2)) (k + 1) := by
  have hl := h.1
  refine ⟨by rw [List.length_set, h.1], fun j hj => ?_⟩
  rw [nthT_set (by omega)]
  by_cases e : j = k
  · subst e; simp
  · rw [if_neg e]; exact h.2 j (by omega)
theorem len_le_cnt {ts : List Tag} {k : Nat} (hk : k < ts.length) : (nthT ts k).2.length ≤ cnt ts := by
  have h1 := cnt_step hk
  have h2 := cnt_le (ts := ts) (k+1)
  omega
set_option maxHeartbeats 1000000 in
theorem toTagS_c {w : World} {v : Value} {ts : List Tag} (h : TagS w v ts) (hb : cnt ts ≤ 1048576) :
    Calls Tryd.prog 30 #[v] w fun e w' => ∃ v' T, e = .returned v' ∧ TagO w.heap.size T w' v' ts ∧ T ≤ w'.heap.size ∧ Gr w w' := by
  obtain ⟨p, cap, rfl, hl1, hl2⟩ := h.form
  have hge := cnt_ge ts
  have hlen : ts.length ≤ 1000000000 := by omega
  go_enter Tryd.func30, Tryd.ntmps30
  go_wp2_with (refine wpl_makeT (n := ts.length) rfl _ _ rfl rfl rfl hlen ?_; intro pm w1 ho1 hg1)
  go_loopw [4] (fun i wr => ∃ (k : Nat) (us : List Tag) (T : Nat), k ≤ ts.length ∧ i = .int .i64 k ∧ Hid (Copied ts us k) ∧ TagO w.heap.size T wr (.slice pm ts.length ts.length) us ∧ T ≤ wr.heap.size ∧ w.heap.size ≤ T ∧ Gr w wr) (fun i _ => ts.length - (intOf i).toNat)
  case atStart => exact ⟨0, _, _, Nat.zero_le _, rfl, ⟨by simp, by simp⟩, ho1, Nat.le_refl _, hg1.size, hg1⟩
  case round =>
    obtain ⟨k, us, T, hk, rfl, HC, ho, hT, hBT, hgr⟩ := hrel
    clear ho1 hg1
    by_cases hlt : k < ts.length
    · obtain ⟨a, q, cq, hix, hca, hcb, hrow⟩ := (h.kept hgr).ixL hlt
      have hul : k < us.length := by have := HC.out.1; omega
      have hln := len_le_cnt hlt
      have hlb : (nthT ts k).2.length ≤ 1000000000000 := by omega
      go_wp2_with fail
      (with_reducible refine (toTag_c _ hrow hlb).mono ?_); rintro e w2 ⟨q2, c2, rfl, od, g2⟩
      have ho2 := ho.kept g2
      have hT2 := Nat.le_trans hT g2.size
      obtain ⟨g, o, d0, hixg, hgB, hc0, hf0, hc1, hf1, hput⟩ := ho2.put hT2 hBT hul
      have hres := hput (nthT ts k).1 _ _ (od.mono hT)
      have hnx := Lib.hid (HC.out.next hlt)
      have hG2 := hgr.trans g2
      have hGB : Below w.heap.size w2 ((w2.setCell ⟨g, o, none⟩ (.int .i64 (nthT ts k).1)).setCell ⟨g, o + 1, none⟩ (.slice q2 (nthT ts k).2.length c2)) :=
        Below.setCell (Below.setCell (Below.refl _ _) hgB _) hgB _
      have hG3 := Below.trans hG2 hGB
      have hs3 : w2.heap.size ≤ ((w2.setCell ⟨g, o, none⟩ (.int .i64 (nthT ts k).1)).setCell ⟨g, o + 1, none⟩ (.slice q2 (nthT ts k).2.length c2)).heap.size := by simp [World.setCell]
      have hs4 : w.heap.size ≤ w2.heap.size := hG2.size
      clear hput hGB hix hca hcb
      go_wp2
      go_roundw
      case measure => simp [intOf]; omega
      case rel => exact ⟨k+1, _, _, by omega, by go_num, hnx.out, hres, hs3, hs4, hG3⟩
    · have e := HC.out.done hlt
      subst e
      go_wp2
      go_ret
      exact ⟨_, T, rfl, ho, hT, hgr⟩
end Go.Proofs.YtikkjcfadbhemaaDoor
