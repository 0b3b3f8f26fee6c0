/- The walks of laws.FnHeadPorts, FnHeadSize, FnHeadBegin. -/
import Derived.Test.YtdbepkcpdglppaaGreatDoorGT
import Derived.Test.YtdbepkcpdglppaaGreatDoorHeadI
import Derived.Test.YtdbepkcpdglppaaGreatDoorGP
namespace Go.Proofs.YtdbepkcpdglppaaGreatDoor
open Go.RowKit
/-- The parts of a head's bytes. -/
theorem head_seg {p : Par} {ts : List Tag} (h : headOk p ts = true) : ((headBytes p ts).drop 16).take 4 = p.src.quad ∧ ((headBytes p ts).drop 20).take 4 = p.dst.quad ∧ ((headBytes p ts).drop 24).take 2 = num2 p.src.port ∧ ((headBytes p ts).drop 26).take 2 = num2 p.dst.port ∧ (headBytes p ts).drop 28 = tagsBytes ts ∧ (headBytes p ts).take 14 = headStart ∧ ((headBytes p ts).drop 14).take 2 = num2 ((12 + (tagsBytes ts).length : Nat) : Int) := by
  obtain ⟨a, b, c, d, e, f, g, i, P, Q, rfl, ht, hP0, hP1, hQ0, hQ1, q1, q2⟩ := head_parts h
  have hc := head_cells a b c d e f g i P Q ts []
  rw [List.append_nil, List.append_nil] at hc
  rw [hc]
  exact ⟨rfl, rfl, rfl, rfl, rfl, rfl, rfl⟩
theorem pair_ports {p : Par} (h : parOk p = true) : 0 ≤ p.src.port ∧ p.src.port ≤ 65535 ∧ 0 ≤ p.dst.port ∧ p.dst.port ≤ 65535 := by
  obtain ⟨a1, a2, _⟩ := par_parts h
  exact ⟨(adr_port a1).1, (adr_port a1).2, (adr_port a2).1, (adr_port a2).2⟩
theorem head_pair {p : Par} {ts : List Tag} (h : headOk p ts = true) : parOk p = true ∧ tagsOk ts = true := by
  simp only [headOk, Bool.and_eq_true] at h; exact h
theorem num2_bytes (n : Int) : bytesOnly (num2 n) := by
  intro x hx
  simp only [num2, List.mem_cons, List.mem_nil_iff, or_false] at hx
  rcases hx with rfl | rfl <;> omega
theorem bytes_app {xs ys : List Int} (h : bytesOnly xs) (k : bytesOnly ys) : bytesOnly (xs ++ ys) := fun x hx => (List.mem_append.1 hx).elim (h x) (k x)
theorem quad_bytesOnly {q : List Int} (h : quadOk q = true) : bytesOnly q := by
  simp only [quadOk, Bool.and_eq_true] at h
  exact bv_bytes h.1
theorem headBytes_bytes {p : Par} {ts : List Tag} (h : headOk p ts = true) : bytesOnly (headBytes p ts) := by
  obtain ⟨h1, h2⟩ := head_pair h
  obtain ⟨_, _, _, _, q1, q2, _⟩ := par_parts h1
  refine bytes_app (bytes_app (fun x hx => ?_) (num2_bytes _)) (bytes_app (bytes_app (bytes_app (bytes_app (quad_bytesOnly q1) (quad_bytesOnly q2)) (num2_bytes _)) (num2_bytes _)) (tagsBytes_bv h2))
  simp only [headStart, List.mem_cons, List.mem_nil_iff, or_false] at hx
  rcases hx with rfl | rfl | rfl | rfl | rfl | rfl | rfl | rfl | rfl | rfl | rfl | rfl | rfl | rfl <;> omega
end Go.Proofs.YtdbepkcpdglppaaGreatDoor
