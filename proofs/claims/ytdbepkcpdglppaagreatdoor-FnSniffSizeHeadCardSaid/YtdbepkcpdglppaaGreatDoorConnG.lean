/- Tunnels out of texts: the reference's walk. -/
import Derived.Test.YtdbepkcpdglppaaGreatDoorConnF
import Derived.Deep.RegionWith
import Derived.Deep.DeepCutAuto
namespace Go.Proofs.YtdbepkcpdglppaaGreatDoor
open Go.RowKit
theorem prefix_take (l t : Tx) : Lib.hasPrefix l t = (decide (t.length ≤ l.length) && decide (l.take t.length = t)) := by
  unfold Lib.hasPrefix
  rw [Bool.eq_iff_iff, List.isPrefixOf_iff_prefix, List.prefix_iff_eq_take]
  simp only [Bool.and_eq_true, decide_eq_true_eq]
  constructor
  · intro h
    refine ⟨?_, h.symm⟩
    have := congrArg List.length h
    rw [List.length_take] at this
    omega
  · rintro ⟨_, h⟩
    exact h.symm
theorem word_hit {l : Tx} {k : Nat} (hk : k < l.length) (h : l[k]? = some 32) (hn : ∀ j, j < k → l[j]? ≠ some 32) : wordOf l = l.take k := by
  have e : l = l.take k ++ 32 :: l.drop (k + 1) := by
    conv => lhs; rw [← List.take_append_drop k l, List.drop_eq_getElem_cons hk]
    rw [List.getElem?_eq_getElem hk] at h
    rw [Option.some.inj h]
  have hm : (32 : UInt8) ∉ l.take k := by
    intro hm
    obtain ⟨j, hj, he⟩ := List.getElem_of_mem hm
    rw [List.length_take] at hj
    rw [List.getElem_take] at he
    exact hn j (by omega) (by rw [List.getElem?_eq_getElem (by omega), he])
  have hi : (32 : UInt8) ∈ l := by rw [e]; simp
  unfold wordOf
  rw [if_pos hi]
  conv => lhs; rw [e]
  rw [cutB_hit hm]
  rfl
theorem word_miss {l : Tx} (hn : ∀ j, j < l.length → l[j]? ≠ some 32) : wordOf l = [] := by
  unfold wordOf
  rw [if_neg]
  intro hm
  obtain ⟨j, hj, he⟩ := List.getElem_of_mem hm
  exact hn j hj (by rw [List.getElem?_eq_getElem hj, he])
theorem tx_getO {s : ByteArray} {k : Nat} (h : k < s.size) : (tx s)[k]? = some s[k] := by
  have hl : k < (tx s).length := by rw [tx_len]; exact h
  rw [List.getElem?_eq_getElem hl]
  rfl
theorem put4n_cell {W : World} {b : Nat} {p : Addr} {v : Value} (hp : b < p.block) (hc : W.cell? p = some v) (a0 a1 a2 a3 : Value) : ((((W.setCell ⟨b, 0, none⟩ a0).setCell ⟨b, 1, none⟩ a1).setCell ⟨b, 2, none⟩ a2).setCell ⟨b, 3, none⟩ a3).cell? p = some v := by
  have h := (put4_chg W b a0 a1 a2 a3).block p.block (.inr hp)
  rw [← hc]
  show (put4 W b a0 a1 a2 a3).cell? p = W.cell? p
  unfold World.cell?
  rw [h]
/-- What ConnectFrom leaves behind. -/
def ConEnd (w : World) (cs : Array Value) (wx : World) : Prop := wx.heap[w.heap.size]? = some (.cells cs 25 (0, 0)) ∧ Gr w wx
theorem ConEnd.put {w w6 : World} {c0 c1 c2 c3 : Value} (h : w6.heap[w.heap.size]? = some (.cells #[c0, c1, c2, c3] 25 (0, 0))) (g : Gr w w6) (a0 a1 a2 a3 : Value) :
    ConEnd w #[a0, a1, a2, a3] ((((w6.setCell ⟨w.heap.size, 0, none⟩ a0).setCell ⟨w.heap.size, 1, none⟩ a1).setCell ⟨w.heap.size, 2, none⟩ a2).setCell ⟨w.heap.size, 3, none⟩ a3) :=
  ⟨put4_blk h a0 a1 a2 a3, (put4_chg w6 w.heap.size a0 a1 a2 a3).gr g (Nat.le_refl _)⟩
theorem ConEnd.kept {w wx wy : World} {cs : Array Value} (h : ConEnd w cs wx) (g : Gr wx wy) : ConEnd w cs wy := ⟨g.blk h.1, h.2.trans g⟩
theorem connFrom_no {l : Tx} (h : Lib.hasPrefix l tunnelT = false) : (connFrom l).map (·.2) = none := by unfold connFrom; rw [h]; rfl
theorem connFrom_fail {l : Tx} (h0 : Lib.hasPrefix l tunnelT = true) (h : addrFrom (wordOf (l.drop 8)) = none) : (connFrom l).map (·.2) = none := by unfold connFrom; rw [if_pos h0, h]; rfl
theorem connFrom_pre {l : Tx} (h0 : Lib.hasPrefix l tunnelT = true) {a : Adr} (h : addrFrom (wordOf (l.drop 8)) = some a) (hp : Lib.hasPrefix l (connText (addrText a)) = false) : (connFrom l).map (·.2) = none := by
  unfold connFrom; rw [if_pos h0, h]; simp only [connOf, hp]; rfl
theorem connFrom_yes {l : Tx} (h0 : Lib.hasPrefix l tunnelT = true) {a : Adr} (h : addrFrom (wordOf (l.drop 8)) = some a) (hp : Lib.hasPrefix l (connText (addrText a)) = true) : (connFrom l).map (·.2) = some (connText (addrText a)).length := by
  unfold connFrom; rw [if_pos h0, h]; simp only [connOf, hp]; rfl
theorem word_len (l : Tx) : (wordOf l).length ≤ l.length := by
  unfold wordOf
  split
  · rename_i h
    have := cutB_piece 32 l
    cases hc : cutB 32 l with
    | nil => simp
    | cons x xs => exact this x (by rw [hc]; simp)
  · simp
end Go.Proofs.YtdbepkcpdglppaaGreatDoor
