/- The walks of laws.FnPairTurn, FnLineTurn, FnLineBegin.
The walks of laws.FnLineTurn, FnLineBegin.
What LineFrom hands back, in plain words. -/
import Derived.Test.YtgigjgjpglmpoaaGreatDoorGT
import Derived.Test.YtgigjgjpglmpoaaGreatDoorGS
import Derived.Test.YtgigjgjpglmpoaaGreatDoorGN
import Derived.Test.YtgigjgjpglmpoaaGreatDoorGM
import Derived.Test.YtgigjgjpglmpoaaGreatDoorGL
namespace Go.Proofs.YtgigjgjpglmpoaaGreatDoor
open Go.RowKit
end Go.Proofs.YtgigjgjpglmpoaaGreatDoor
namespace Go.Proofs.YtgigjgjpglmpoaaGreatDoor
open Go.RowKit
theorem S_notEmpty {t : Tx} (h : 1 ≤ t.length) : (S t).toList.isEmpty = false := by
  rw [emp_tx, tx_S]
  cases t with
  | nil => simp at h
  | cons x y => rfl
end Go.Proofs.YtgigjgjpglmpoaaGreatDoor
namespace Go.Proofs.YtgigjgjpglmpoaaGreatDoor
open Go.RowKit
/-- What both hand back, its parts named. -/
def LineIs (l : Tx) (k1 : Int) (q1 : List Int) (s1 : ByteArray) (p1 k2 : Int) (q2 : List Int) (s2 : ByteArray) (p2 : Int) (n : Int) (ok : Bool) : Prop :=
  (∃ m : Nat, lineFrom l = some (⟨⟨k1, q1, tx s1, p1⟩, ⟨k2, q2, tx s2, p2⟩⟩, m) ∧ n = (m : Int) ∧ ok = true) ∨ (lineFrom l = none ∧ k1 = 0 ∧ q1 = [] ∧ s1 = ⟨#[]⟩ ∧ p1 = 0 ∧ k2 = 0 ∧ q2 = [] ∧ s2 = ⟨#[]⟩ ∧ p2 = 0 ∧ n = 0 ∧ ok = false)
theorem lineIs_some (l : Tx) : ∃ k1 q1 s1 p1 k2 q2 s2 p2 n ok, LineIs l k1 q1 s1 p1 k2 q2 s2 p2 n ok := by
  cases h : lineFrom l with
  | none => exact ⟨0, [], ⟨#[]⟩, 0, 0, [], ⟨#[]⟩, 0, 0, false, .inr ⟨h, rfl, rfl, rfl, rfl, rfl, rfl, rfl, rfl, rfl, rfl⟩⟩
  | some r =>
    obtain ⟨⟨⟨k1, q1, s1, p1⟩, ⟨k2, q2, s2, p2⟩⟩, n⟩ := r
    exact ⟨k1, q1, S s1, p1, k2, q2, S s2, p2, n, true, .inl ⟨n, by rw [tx_S, tx_S]; exact h, rfl, rfl⟩⟩
theorem LineIs.yes {l : Tx} {k1 : Int} {q1 : List Int} {s1 : ByteArray} {p1 k2 : Int} {q2 : List Int} {s2 : ByteArray} {p2 : Int} {n : Int} {ok : Bool} (h : LineIs l k1 q1 s1 p1 k2 q2 s2 p2 n ok) {p : Par} {m : Nat} (hp : lineFrom l = some (p, m)) :
    k1 = p.src.kind ∧ q1 = p.src.quad ∧ s1 = S p.src.name ∧ p1 = p.src.port ∧ k2 = p.dst.kind ∧ q2 = p.dst.quad ∧ s2 = S p.dst.name ∧ p2 = p.dst.port ∧ n = (m : Int) ∧ ok = true := by
  rcases h with ⟨m', h, rfl, rfl⟩ | ⟨h, _⟩
  · rw [h] at hp
    injection hp with hp
    injection hp with e1 e2
    subst e1 e2
    exact ⟨rfl, rfl, (S_tx _).symm, rfl, rfl, rfl, (S_tx _).symm, rfl, rfl, rfl⟩
  · rw [h] at hp; cases hp
theorem LineIs.no {l : Tx} {k1 : Int} {q1 : List Int} {s1 : ByteArray} {p1 k2 : Int} {q2 : List Int} {s2 : ByteArray} {p2 : Int} {n : Int} {ok : Bool} (h : LineIs l k1 q1 s1 p1 k2 q2 s2 p2 n ok) (hp : lineFrom l = none) :
    k1 = 0 ∧ q1 = [] ∧ s1 = ⟨#[]⟩ ∧ p1 = 0 ∧ k2 = 0 ∧ q2 = [] ∧ s2 = ⟨#[]⟩ ∧ p2 = 0 ∧ n = 0 ∧ ok = false := by
  rcases h with ⟨m', h, _⟩ | ⟨_, h⟩
  · rw [h] at hp; cases hp
  · exact h
theorem LineIs.small {l : Tx} {k1 : Int} {q1 : List Int} {s1 : ByteArray} {p1 k2 : Int} {q2 : List Int} {s2 : ByteArray} {p2 : Int} {n : Int} {ok : Bool} (h : LineIs l k1 q1 s1 p1 k2 q2 s2 p2 n ok) : q1.length ≤ 4 ∧ q2.length ≤ 4 := by
  rcases h with ⟨m', h, _⟩ | ⟨_, _, rfl, _, _, _, rfl, _⟩
  · obtain ⟨h1, _, _⟩ := lineFrom_sound h
    obtain ⟨_, _, _, _, a, b, _⟩ := par_parts h1
    have a := (quad_bytes a).1
    have b := (quad_bytes b).1
    simp only [] at a b
    omega
  · exact ⟨Nat.zero_le _, Nat.zero_le _⟩
/-- The program's way: two quads in new memory, one behind the other. -/
def LinePost (k1 : Int) (q1 : List Int) (s1 : ByteArray) (p1 k2 : Int) (q2 : List Int) (s2 : ByteArray) (p2 : Int) (n : Int) (ok : Bool) (w : World) (e : Ending) (w' : World) : Prop :=
  ∃ (pa : Option Addr) (ca : Nat) (pb : Option Addr) (cb : Nat) (T : Nat),
    e = .returned (.tuple #[.agg #[.int .i64 k1, .slice pa q1.length ca, .string s1, .int .i64 p1, .int .i64 k2, .slice pb q2.length cb, .string s2, .int .i64 p2], .int .i64 n, .bool ok]) ∧
    IntB w.heap.size T 3 w' (.slice pa q1.length ca) q1 ∧ IntB T w'.heap.size 3 w' (.slice pb q2.length cb) q2 ∧ w.heap.size ≤ T ∧ T ≤ w'.heap.size ∧ Gr w w'
/-- The reference's way. -/
def LineSpec (k1 : Int) (q1 : List Int) (s1 : ByteArray) (p1 k2 : Int) (q2 : List Int) (s2 : ByteArray) (p2 : Int) (n : Int) (ok : Bool) (w : World) (e : Ending) (w' : World) : Prop :=
  ∃ (pa : Option Addr) (ca : Nat) (pb : Option Addr) (cb : Nat),
    e = .returned (.tuple #[.agg #[.int .i64 k1, .slice pa q1.length ca, .string s1, .int .i64 p1, .int .i64 k2, .slice pb q2.length cb, .string s2, .int .i64 p2], .int .i64 n, .bool ok]) ∧
    IntO w.heap.size 3 w' (.slice pa q1.length ca) q1 ∧ IntO w.heap.size 3 w' (.slice pb q2.length cb) q2 ∧ Gr w w'
theorem LinePost.no {l : Tx} {k1 : Int} {q1 : List Int} {s1 : ByteArray} {p1 k2 : Int} {q2 : List Int} {s2 : ByteArray} {p2 : Int} {n : Int} {ok : Bool} {w w' : World} (h : LineIs l k1 q1 s1 p1 k2 q2 s2 p2 n ok) (hn : lineFrom l = none) (hg : Gr w w') :
    LinePost k1 q1 s1 p1 k2 q2 s2 p2 n ok w (.returned (.tuple #[.agg #[.int .i64 0, .slice none 0 0, .string ⟨#[]⟩, .int .i64 0, .int .i64 0, .slice none 0 0, .string ⟨#[]⟩, .int .i64 0], .int .i64 0, .bool false])) w' := by
  obtain ⟨rfl, rfl, rfl, rfl, rfl, rfl, rfl, rfl, rfl, rfl⟩ := h.no hn
  exact ⟨none, 0, none, 0, w.heap.size, rfl, IntB.nil _ _ _ _, IntB.nil _ _ _ _, Nat.le_refl _, hg.sz, hg⟩
theorem LinePost.yes {l : Tx} {k1 : Int} {q1 : List Int} {s1 : ByteArray} {p1 k2 : Int} {q2 : List Int} {s2 : ByteArray} {p2 : Int} {n : Int} {ok : Bool} {w w' : World} {ka pa kb pb : Int} {qa qb : List Int} {na nb : ByteArray} {m T : Nat} {u v : Option Addr} {c d : Nat} (h : LineIs l k1 q1 s1 p1 k2 q2 s2 p2 n ok) (hn : lineFrom l = some (⟨⟨ka, qa, tx na, pa⟩, ⟨kb, qb, tx nb, pb⟩⟩, m))
    (h1 : IntB w.heap.size T 3 w' (.slice u qa.length c) qa) (h2 : IntB T w'.heap.size 3 w' (.slice v qb.length d) qb) (hT : w.heap.size ≤ T) (hT2 : T ≤ w'.heap.size) (hg : Gr w w') :
    LinePost k1 q1 s1 p1 k2 q2 s2 p2 n ok w (.returned (.tuple #[.agg #[.int .i64 ka, .slice u qa.length c, .string na, .int .i64 pa, .int .i64 kb, .slice v qb.length d, .string nb, .int .i64 pb], .int .i64 (m : Int), .bool true])) w' := by
  obtain ⟨rfl, rfl, rfl, rfl, rfl, rfl, rfl, rfl, rfl, rfl⟩ := h.yes hn
  simp only [S_tx]
  exact ⟨u, c, v, d, T, rfl, h1, h2, hT, hT2, hg⟩
theorem LineSpec.no {l : Tx} {k1 : Int} {q1 : List Int} {s1 : ByteArray} {p1 k2 : Int} {q2 : List Int} {s2 : ByteArray} {p2 : Int} {n : Int} {ok : Bool} {w w' : World} (h : LineIs l k1 q1 s1 p1 k2 q2 s2 p2 n ok) (hn : lineFrom l = none) (hg : Gr w w') :
    LineSpec k1 q1 s1 p1 k2 q2 s2 p2 n ok w (.returned (.tuple #[.agg #[.int .i64 0, .slice none 0 0, .string ⟨#[]⟩, .int .i64 0, .int .i64 0, .slice none 0 0, .string ⟨#[]⟩, .int .i64 0], .int .i64 0, .bool false])) w' := by
  obtain ⟨rfl, rfl, rfl, rfl, rfl, rfl, rfl, rfl, rfl, rfl⟩ := h.no hn
  exact ⟨none, 0, none, 0, rfl, IntO.nil _ _ _, IntO.nil _ _ _, hg⟩
theorem LineSpec.yes {l : Tx} {k1 : Int} {q1 : List Int} {s1 : ByteArray} {p1 k2 : Int} {q2 : List Int} {s2 : ByteArray} {p2 : Int} {n : Int} {ok : Bool} {w w' : World} {ka pa kb pb : Int} {qa qb : List Int} {na nb : ByteArray} {m : Nat} {u v : Option Addr} {c d : Nat} (h : LineIs l k1 q1 s1 p1 k2 q2 s2 p2 n ok) (hn : lineFrom l = some (⟨⟨ka, qa, tx na, pa⟩, ⟨kb, qb, tx nb, pb⟩⟩, m))
    (h1 : IntO w.heap.size 3 w' (.slice u qa.length c) qa) (h2 : IntO w.heap.size 3 w' (.slice v qb.length d) qb) (hg : Gr w w') :
    LineSpec k1 q1 s1 p1 k2 q2 s2 p2 n ok w (.returned (.tuple #[.agg #[.int .i64 ka, .slice u qa.length c, .string na, .int .i64 pa, .int .i64 kb, .slice v qb.length d, .string nb, .int .i64 pb], .int .i64 (m : Int), .bool true])) w' := by
  obtain ⟨rfl, rfl, rfl, rfl, rfl, rfl, rfl, rfl, rfl, rfl⟩ := h.yes hn
  simp only [S_tx]
  exact ⟨u, c, v, d, rfl, h1, h2, hg⟩
end Go.Proofs.YtgigjgjpglmpoaaGreatDoor
