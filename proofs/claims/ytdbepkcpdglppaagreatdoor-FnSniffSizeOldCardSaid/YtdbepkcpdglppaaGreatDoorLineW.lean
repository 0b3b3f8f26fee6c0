/- spec.LineFrom. -/
import Derived.Test.YtdbepkcpdglppaaGreatDoorGQ
import Derived.Test.YtdbepkcpdglppaaGreatDoorGU
import Derived.Deep.RegionWith
import Derived.Deep.DeepCutAuto
namespace Go.Proofs.YtdbepkcpdglppaaGreatDoor
open Go.RowKit
/-- A pair in a variable. -/
def ParCell (w0 : World) (ka : Int) (qa : List Int) (na : ByteArray) (nA kb : Int) (qb : List Int) (nb : ByteArray) (nB : Int) (x : Value) (wx : World) : Prop :=
  ∃ (b9 : Nat) (u v : Option Addr) (c d : Nat), x = .pointer (some ⟨b9, 0, none⟩) ∧ wx.heap[b9]? = some (.cells #[.int .i64 ka, .slice u qa.length c, .string na, .int .i64 nA, .int .i64 kb, .slice v qb.length d, .string nb, .int .i64 nB] 27 (0, 0)) ∧ IntO w0.heap.size 3 wx (.slice u qa.length c) qa ∧ IntO w0.heap.size 3 wx (.slice v qb.length d) qb ∧ Gr w0 wx
theorem ParCell.late {w0 w6 : World} {ka nA kb nB : Int} {qa qb : List Int} {na nb : ByteArray} {u v : Option Addr} {c d m : Nat} (hm : m = w6.heap.size) (o1 : IntO w0.heap.size 3 w6 (.slice u qa.length c) qa) (o2 : IntO w0.heap.size 3 w6 (.slice v qb.length d) qb) (g : Gr w0 w6) :
    ParCell w0 ka qa na nA kb qb nb nB (.pointer (some ⟨m, 0, none⟩)) (w6.alloc (.cells #[.int .i64 ka, .slice u qa.length c, .string na, .int .i64 nA, .int .i64 kb, .slice v qb.length d, .string nb, .int .i64 nB] 27)) := by
  subst hm
  exact ⟨_, u, v, c, d, rfl, heap_alloc_new _ _, o1.kept (gr_alloc _ _), o2.kept (gr_alloc _ _), g.alloc _⟩
theorem ParCell.put {w0 w6 : World} {qa qb : List Int} {u v : Option Addr} {c d b9 B1 T1 B2 T2 : Nat} (o1 : IntB B1 T1 3 w6 (.slice u qa.length c) qa) (o2 : IntB B2 T2 3 w6 (.slice v qb.length d) qb) (h1 : T1 ≤ b9 ∨ b9 + 1 ≤ B1) (h2 : T2 ≤ b9 ∨ b9 + 1 ≤ B2) (hB1 : w0.heap.size ≤ B1) (hB2 : w0.heap.size ≤ B2) (hb : w0.heap.size ≤ b9) (g : Gr w0 w6)
    {c0 c1 c2 c3 c4 c5 c6 c7 : Value} (hq : w6.heap[b9]? = some (.cells #[c0, c1, c2, c3, c4, c5, c6, c7] 27 (0, 0))) (ka nA kb nB : Int) (na nb : ByteArray) :
    ParCell w0 ka qa na nA kb qb nb nB (.pointer (some ⟨b9, 0, none⟩)) (put8 w6 b9 (.int .i64 ka) (.slice u qa.length c) (.string na) (.int .i64 nA) (.int .i64 kb) (.slice v qb.length d) (.string nb) (.int .i64 nB)) := by
  have cW := put8_chg w6 b9 (.int .i64 ka) (.slice u qa.length c) (.string na) (.int .i64 nA) (.int .i64 kb) (.slice v qb.length d) (.string nb) (.int .i64 nB)
  exact ⟨b9, u, v, c, d, rfl, put8_blk hq _ _ _ _ _ _ _ _, IntO.mono (IntB.o (o1.chg cW h1)) hB1, IntO.mono (IntB.o (o2.chg cW h2)) hB2, cW.gr g hb⟩
theorem specLine_fS {w : World} {q q' : Value} {xs ys : List Int} (k port k' port' : Int) (s s' : ByteArray) (hq : IntS w q xs) (hq' : IntS w q' ys) (hs : s.size ≤ 2000000) (hs' : s'.size ≤ 2000000) (hok : Hid (parOk ⟨⟨k, xs, tx s, port⟩, ⟨k', ys, tx s', port'⟩⟩ = false)) :
    Calls Tryz.prog 12 #[.agg #[.int .i64 k, q, .string s, .int .i64 port, .int .i64 k', q', .string s', .int .i64 port']] w fun e w' => e = .returned (.string (S [])) ∧ Gr w w' :=
  specLine_f k port k' port' s s' hq hq' hs hs' hok
theorem Gr.put8n {w3 W : World} {b : Nat} (g : Gr w3 W) (hb : w3.heap.size ≤ b) (a0 a1 a2 a3 a4 a5 a6 a7 : Value) : Gr w3 ((((((((W.setCell ⟨b, 0, none⟩ a0).setCell ⟨b, 1, none⟩ a1).setCell ⟨b, 2, none⟩ a2).setCell ⟨b, 3, none⟩ a3).setCell ⟨b, 4, none⟩ a4).setCell ⟨b, 5, none⟩ a5).setCell ⟨b, 6, none⟩ a6).setCell ⟨b, 7, none⟩ a7) :=
  (put8_chg W b a0 a1 a2 a3 a4 a5 a6 a7).gr g hb
end Go.Proofs.YtdbepkcpdglppaaGreatDoor
