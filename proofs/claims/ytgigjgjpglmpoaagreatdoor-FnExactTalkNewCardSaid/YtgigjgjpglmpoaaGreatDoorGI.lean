/- Requests of the fourth version: spec's bytes.
Heads: spec's bytes. -/
import Derived.Test.YtgigjgjpglmpoaaGreatDoorGE
import Derived.Test.YtgigjgjpglmpoaaGreatDoorGC
import Derived.Test.YtgigjgjpglmpoaaGreatDoorGH
import Derived.Deep.DeepCutAuto
namespace Go.Proofs.YtgigjgjpglmpoaaGreatDoor
open Go.RowKit
/-- The numbers of letters. -/
def tb (l : Tx) : List Int := l.map fun c => (c.toNat : Int)
theorem tb_len (l : Tx) : (tb l).length = l.length := by simp [tb]
theorem sb_tb (s : ByteArray) : sb s = tb (tx s) := rfl
def oldBytes (x : Oldq) : List Int := 4 :: x.cmd :: (num2 x.dst.port ++ ((if x.dst.kind = 1 then x.dst.quad else [0, 0, 0, 1]) ++ (tb x.user ++ (0 :: (if x.dst.kind = 3 then tb x.dst.name ++ [0] else [])))))
theorem old_parts {x : Oldq} (h : oldOk x = true) : inB 1 2 x.cmd = true ∧ adrOk x.dst = true ∧ userOk x.user = true := by
  simp only [oldOk, Bool.and_eq_true] at h
  exact ⟨h.1, h.2.1, h.2.2.1⟩
theorem oldBytes_len {x : Oldq} (h : oldOk x = true) : (oldBytes x).length ≤ 40 := by
  obtain ⟨_, h1, h2⟩ := old_parts h
  have h3 := userOk_len h2
  rcases adr_kind h1 with ⟨k, q, _⟩ | ⟨k, m, _⟩
  · have hq := (quad_bytes q).1
    unfold oldBytes
    rw [if_pos k, if_neg (show ¬ x.dst.kind = 3 by omega)]
    simp [tb_len, num2, hq]; omega
  · have hm := nameOk_len m
    unfold oldBytes
    rw [if_neg (show ¬ x.dst.kind = 1 by omega), if_pos k]
    simp [tb_len, num2]; omega
theorem IntO.l4 {w : World} {x y z u : Int} {m : Nat} (hm : m = w.heap.size) : IntO w.heap.size 3 (w.alloc (.cells #[.int .i64 x, .int .i64 y, .int .i64 z, .int .i64 u] 3)) (.slice (some ⟨m, 0, none⟩) 4 4) [x, y, z, u] := by
  subst hm; exact Own.lit w #[.int .i64 x, .int .i64 y, .int .i64 z, .int .i64 u] 4 (Nat.le_refl _) (by decide) rfl
end Go.Proofs.YtgigjgjpglmpoaaGreatDoor
namespace Go.Proofs.YtgigjgjpglmpoaaGreatDoor
open Go.RowKit
def headBody (p : Par) (ts : List Tag) : List Int := p.src.quad ++ p.dst.quad ++ num2 p.src.port ++ num2 p.dst.port ++ tagsBytes ts
/-- A head. -/
def headBytes (p : Par) (ts : List Tag) : List Int := headStart ++ num2 (headBody p ts).length ++ headBody p ts
def headOk (p : Par) (ts : List Tag) : Bool := parOk p && tagsOk ts
theorem headBody_len {p : Par} {ts : List Tag} (h : headOk p ts = true) : (headBody p ts).length = 12 + (tagsBytes ts).length ∧ (tagsBytes ts).length ≤ 76 := by
  simp only [headOk, Bool.and_eq_true] at h
  obtain ⟨_, _, _, _, q1, q2, _⟩ := par_parts h.1
  have e1 := (quad_bytes q1).1
  have e2 := (quad_bytes q2).1
  have e3 := tagsBytes_len h.2 ts.length
  rw [List.take_length] at e3
  exact ⟨by simp [headBody, num2, e1, e2]; omega, e3⟩
theorem headStart_len : headStart.length = 14 := rfl
theorem headBytes_len {p : Par} {ts : List Tag} (h : headOk p ts = true) : (headBytes p ts).length = 28 + (tagsBytes ts).length := by
  have := (headBody_len h).1
  simp [headBytes, headStart_len, num2, this]; omega
theorem IntB.keptW {B T T' e : Nat} {w w' : World} {v : Value} {xs : List Int} (h : IntB B T e w v xs) (hb : Below T' w w') (hT : T ≤ T') : IntB B T e w' v xs := by
  refine ⟨?_, h.2⟩
  rcases h.1 with ⟨h1, h2 | ⟨g, cap, cur, h3, h4, h5, h6⟩⟩
  · exact ⟨h1, .inl h2⟩
  · have hlt := h.2 g (by rw [h3]; rfl)
    exact ⟨h1, .inr ⟨g, cap, cur, h3, h4, by rw [hb.block g (by omega)]; exact h5, h6⟩⟩
end Go.Proofs.YtgigjgjpglmpoaaGreatDoor
