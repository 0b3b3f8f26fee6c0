/- The reader of bytes.
The reader of bytes: one byte, a number; a new reader.
Tags out of bytes: the plain law; steps of append in a region that draws.
The reference's tags out of bytes.
The program's tags out of bytes.
spec.l1Text: the bytes of a text. -/
import Derived.Test.YtgigjgjpglmpoaaGreatDoorGB
namespace Go.Proofs.YtgigjgjpglmpoaaGreatDoor
open Go.RowKit
/-- A number of bytes, the highest one first. -/
def numOf (xs : List Int) : Int := xs.foldl (fun n x => n * 256 + x) 0
theorem numOf_snoc (xs : List Int) (x : Int) : numOf (xs ++ [x]) = numOf xs * 256 + x := by simp [numOf]
def bytesOnly (xs : List Int) : Prop := ∀ x ∈ xs, 0 ≤ x ∧ x ≤ 255
theorem numOf_bound {xs : List Int} (h : bytesOnly xs) : 0 ≤ numOf xs ∧ numOf xs + 1 ≤ 256 ^ xs.length := by
  have key : ∀ ys : List Int, bytesOnly ys → ∀ n : Int, 0 ≤ n → ∀ p : Nat, n + 1 ≤ 256 ^ p → 0 ≤ ys.foldl (fun n x => n * 256 + x) n ∧ ys.foldl (fun n x => n * 256 + x) n + 1 ≤ 256 ^ (p + ys.length) := by
    intro ys
    induction ys with
    | nil => intro _ n h0 p hp; exact ⟨h0, by simpa using hp⟩
    | cons y ys ih =>
      intro hb n h0 p hp
      have hy := hb y (by simp)
      have hp' : n * 256 + y + 1 ≤ 256 ^ (p + 1) := by rw [Int.pow_succ]; omega
      have := ih (fun x hx => hb x (by simp [hx])) (n * 256 + y) (by omega) (p + 1) hp'
      rw [List.foldl_cons, List.length_cons, show p + (ys.length + 1) = p + 1 + ys.length by omega]
      exact this
  have := key xs h 0 (by omega) 0 (by decide)
  simpa [numOf] using this
theorem bv_bytes {xs : List Int} (h : bv xs = true) : bytesOnly xs := by
  simp only [bv, Bool.and_eq_true, List.all_eq_true] at h
  intro x hx
  exact inB_iff.1 (h.1 x hx)
theorem bytes_nth {xs : List Int} (h : bytesOnly xs) {k : Nat} (hk : k < xs.length) : 0 ≤ nth xs k ∧ nth xs k ≤ 255 := by
  rw [nth_eq hk]; exact h _ (List.getElem_mem hk)
theorem bytes_take {xs : List Int} (h : bytesOnly xs) (k : Nat) : bytesOnly (xs.take k) := fun x hx => h x (List.mem_of_mem_take hx)
theorem bytes_drop {xs : List Int} (h : bytesOnly xs) (k : Nat) : bytesOnly (xs.drop k) := fun x hx => h x (List.mem_of_mem_drop hx)
theorem take_snoc' {xs : List Int} {k : Nat} (h : k < xs.length) : xs.take (k+1) = xs.take k ++ [nth xs k] := by
  rw [List.take_succ_eq_append_getElem h, nth_eq h]
theorem numOf_small {xs : List Int} (h : bytesOnly xs) (h4 : xs.length ≤ 4) : 0 ≤ numOf xs ∧ numOf xs ≤ 4294967295 := by
  have h1 := numOf_bound h
  have h5 : xs.length = 0 ∨ xs.length = 1 ∨ xs.length = 2 ∨ xs.length = 3 ∨ xs.length = 4 := by omega
  rcases h5 with h5 | h5 | h5 | h5 | h5 <;> rw [h5] at h1 <;> omega
theorem or_low (a x : Int) (ha : 0 ≤ a) (ha' : a ≤ 4294967295) (hx : 0 ≤ x) (hx' : x ≤ 255) : bits .or .i64 (a * 256) x = a * 256 + x :=
  bits_join .i64 63 (by decide) (fun n h0 h1 => by rw [IntKind.wrap_i64]; omega) 8 (a * 256) x (by omega) (by omega) (by omega) hx (by omega) (by omega)
/-- What a reader of bytes knows: the bytes, how many it has read, whether it has failed. -/
structure Rs where
  xs : List Int
  pos : Nat
  bad : Bool
def Rs.ok (s : Rs) : Prop := s.pos ≤ s.xs.length ∧ s.xs.length ≤ 1000000000 ∧ (s.bad = false → bytesOnly s.xs)
/-- So many bytes are read. -/
def Rs.take (s : Rs) (n : Nat) : List Int × Rs :=
  if s.bad = true ∨ s.xs.length - s.pos < n then (List.replicate n 0, { s with bad := true }) else ((s.xs.drop s.pos).take n, { s with pos := s.pos + n })
def Rs.byte (s : Rs) : Int × Rs := (nth (s.take 1).1 0, (s.take 1).2)
def Rs.number (s : Rs) (n : Nat) : Int × Rs := (numOf (s.take n).1, (s.take n).2)
theorem Rs.take_ok {s : Rs} (h : s.ok) (n : Nat) : (s.take n).2.ok := by
  obtain ⟨h1, h2, h3⟩ := h
  unfold Rs.take
  split
  · exact ⟨h1, h2, by simp⟩
  · rename_i hc
    exact ⟨by simp only []; omega, h2, h3⟩
theorem Rs.take_bytes {s : Rs} (h : s.ok) (n : Nat) : bytesOnly (s.take n).1 := by
  unfold Rs.take
  split
  · intro x hx
    have := (List.mem_replicate.1 hx).2
    omega
  · rename_i hc
    have hb : s.bad = false := by cases hb : s.bad <;> simp_all
    exact bytes_take (bytes_drop (h.2.2 hb) _) _
theorem Rs.take_len {s : Rs} (n : Nat) : (s.take n).1.length = n := by
  unfold Rs.take
  split
  · simp
  · rename_i hc
    rw [List.length_take, List.length_drop]; omega
theorem IntS.cutI {w : World} {p : Option Addr} {cap : Nat} {xs : List Int} (h : IntS w (.slice p xs.length cap) xs) {lo n : Nat} (hn : lo + n ≤ xs.length) {a b : Int} (ha : a = (lo : Int)) (hb : b = ((lo + n : Nat) : Int)) :
    ∃ v' : Value, (∀ w1, (Instr.slice 22 (.slice p xs.length cap) (some (.int .i64 a)) (some (.int .i64 b)) none).run Tryz.prog w1 = .ok v' w1) ∧ IntS w v' ((xs.drop lo).take n) := by
  subst ha hb
  obtain ⟨i0, hi, hz, hs, hby⟩ := infoI
  obtain ⟨v', h1, h2⟩ := Row.cut h uI hi hs (Nat.le_add_right lo n) hn
  refine ⟨v', h1, ?_⟩
  unfold IntS
  rw [← ints_take, ← ints_drop, List.length_take, List.length_drop, show min n (xs.length - lo) = n by omega]
  rw [Nat.add_sub_cancel_left] at h2
  simpa using h2
end Go.Proofs.YtgigjgjpglmpoaaGreatDoor
namespace Go.Proofs.YtgigjgjpglmpoaaGreatDoor
open Go.RowKit
end Go.Proofs.YtgigjgjpglmpoaaGreatDoor
namespace Go.Proofs.YtgigjgjpglmpoaaGreatDoor
open Go.RowKit
def lenAt (xs : List Int) (p : Nat) : Nat := (numOf ((xs.drop (p+1)).take 2)).toNat
def badAt (xs : List Int) (p : Nat) : Prop := xs.length - p < 3 ∨ xs.length - p - 3 < lenAt xs p
instance (xs : List Int) (p : Nat) : Decidable (badAt xs p) := by unfold badAt; infer_instance
def tagAt (xs : List Int) (p : Nat) : Tag := (nth xs p, (xs.drop (p+3)).take (lenAt xs p))
def cutT (xs : List Int) : Nat → Nat → List Tag → Option (List Tag)
  | 0, _, _ => none
  | f+1, p, ts => if p < xs.length then (if badAt xs p then none else cutT xs f (p + 3 + lenAt xs p) (ts ++ [tagAt xs p])) else some ts
/-- The tags that bytes are. -/
def tagsFrom (xs : List Int) : Option (List Tag) :=
  if bv xs = true then (match cutT xs (xs.length + 1) 0 [] with | some ts => if tagsOk ts = true then some ts else none | none => none) else none
/-- So far the bytes are tags. -/
def CutTo (xs : List Int) (p : Nat) (ts : List Tag) : Prop := ∃ f, xs.length < f + p ∧ p ≤ xs.length ∧ 3 * ts.length ≤ p ∧ cutT xs (xs.length + 1) 0 [] = cutT xs f p ts
theorem CutTo.start (xs : List Int) : CutTo xs 0 [] := ⟨xs.length + 1, by omega, by omega, by simp, rfl⟩
theorem CutTo.next {xs : List Int} {p : Nat} {ts : List Tag} (h : CutTo xs p ts) (hp : p < xs.length) (hb : ¬ badAt xs p) : CutTo xs (p + 3 + lenAt xs p) (ts ++ [tagAt xs p]) := by
  obtain ⟨f, h1, h2, h3, h4⟩ := h
  unfold badAt at hb
  obtain ⟨f, rfl⟩ : ∃ g, f = g + 1 := ⟨f - 1, by omega⟩
  refine ⟨f, by omega, by omega, by simp; omega, ?_⟩
  rw [h4, cutT, if_pos hp, if_neg (by unfold badAt; exact hb)]
theorem CutTo.fail {xs : List Int} {p : Nat} {ts : List Tag} (h : CutTo xs p ts) (hp : p < xs.length) (hb : badAt xs p) : tagsFrom xs = none := by
  obtain ⟨f, h1, h2, h3, h4⟩ := h
  obtain ⟨f, rfl⟩ : ∃ g, f = g + 1 := ⟨f - 1, by omega⟩
  have h5 : cutT xs (f+1) p ts = none := by rw [cutT, if_pos hp, if_pos hb]
  rw [h5] at h4
  unfold tagsFrom
  rw [h4]; split <;> rfl
theorem CutTo.done {xs : List Int} {ts : List Tag} {p : Nat} (h : CutTo xs p ts) (hp : ¬ p < xs.length) (hb : bv xs = true) : tagsFrom xs = if tagsOk ts = true then some ts else none := by
  obtain ⟨f, h1, h2, h3, h4⟩ := h
  obtain ⟨f, rfl⟩ : ∃ g, f = g + 1 := ⟨f - 1, by omega⟩
  have h5 : cutT xs (f+1) p ts = some ts := by rw [cutT, if_neg hp]
  rw [h5] at h4
  unfold tagsFrom
  rw [h4, if_pos hb]
theorem tagsFrom_bad {xs : List Int} (h : bv xs = false) : tagsFrom xs = none := by unfold tagsFrom; rw [h]; rfl
theorem lenAt_eq {xs : List Int} (h : bytesOnly xs) (p : Nat) : numOf ((xs.drop (p+1)).take 2) = (lenAt xs p : Int) := by
  have := numOf_small (bytes_take (bytes_drop h (p+1)) 2) (by rw [List.length_take]; omega)
  unfold lenAt; omega

/-- append at a step of a region that draws. -/
theorem step_appI {w : World} {ops : Array Oper} {o : Oper} {a : Act} {K : Act → World → Prop} {Q : Exit → Act → World → Prop} {E : Prop} (hgd : o.guard = none) (s x : Operand)
    (ho : o.op = .call { callee := .builtin .append, args := #[s, x], argTypes := #[22, 22] })
    {B : Nat} {v : Value} {xs : List Int} (hs : a.eval s = v) (hown : IntO B 3 w v xs) {xv : Value} {ys : List Int} (hx : a.eval x = xv) (hrow : IntS w xv ys)
    (hb : xs.length + ys.length ≤ 1000000000000) (hB : B ≤ w.heap.size)
    (h : ∀ v' w', IntO B 3 w' v' (xs ++ ys) → Below B w w' → K (a.put o.dst v') w') : if Region.wanted o (yielded ops a.tmps) = true then Oper.wp Tryz.prog o a w K Q else E := by
  have hw : Region.wanted o (yielded ops a.tmps) = true := by simp [Region.wanted, hgd]
  rw [if_pos hw]
  obtain ⟨i0, hi, hz, hs', hby⟩ := infoI
  obtain ⟨v', w', hr, h2, h3⟩ := Own.append (P := Tryz.prog) w (ty := o.type) uI hi hz hs' hby rfl (by decide) hown hrow (ints_one _) (by omega) (by decide) hB
  unfold Oper.wp execOp
  simp only [ho, resolve, invoke, builtin, Sem.run_bind, Sem.run_pure, Result.andThen_ok, List.map_toArray, List.map_cons, List.map_nil, hs, hx, hr]
  refine h _ _ ?_ h3
  unfold IntO; rw [ints_append, List.length_append]; exact h2
end Go.Proofs.YtgigjgjpglmpoaaGreatDoor
namespace Go.Proofs.YtgigjgjpglmpoaaGreatDoor
open Go.RowKit
theorem step_copyI {w : World} {ops : Array Oper} {o : Oper} {a : Act} {K : Act → World → Prop} {Q : Exit → Act → World → Prop} {E : Prop} (hgd : o.guard = none) (s x : Operand)
    (ho : o.op = .call { callee := .builtin .append, args := #[s, x], argTypes := #[22, 22] })
    (hs : a.eval s = .slice (some ⟨w.heap.size, 0, none⟩) 0 0) {xv : Value} {ys : List Int} (hx : a.eval x = xv) (hrow : IntS w xv ys) (hb : ys.length ≤ 1000000000)
    (h : ∀ p c w', IntO w.heap.size 3 w' (.slice p ys.length c) ys → Gr w w' → K (a.put o.dst (.slice p ys.length c)) w') : if Region.wanted o (yielded ops a.tmps) = true then Oper.wp Tryz.prog o a (w.alloc (.cells #[] 3)).drew K Q else E := by
  refine step_appI hgd s x ho hs ((IntO.mt w).kept ((Gr.refl _).drew)) hx (hrow.kept ((gr_alloc w _).drew)) (by simp; omega) (by simp) fun v' w' h1 h2 => ?_
  have h1' : IntO w.heap.size 3 w' v' ys := h1
  obtain ⟨p, c, rfl⟩ := h1'.len
  exact h p c w' h1' (Below.trans ((gr_alloc w _).drew) h2)
end Go.Proofs.YtgigjgjpglmpoaaGreatDoor
namespace Go.Proofs.YtgigjgjpglmpoaaGreatDoor
open Go.RowKit
theorem numOf_small2 {xs : List Int} (h : bytesOnly xs) (h4 : xs.length ≤ 2) : 0 ≤ numOf xs ∧ numOf xs ≤ 65535 := by
  have h1 := numOf_bound h
  have h5 : xs.length = 0 ∨ xs.length = 1 ∨ xs.length = 2 := by omega
  rcases h5 with h5 | h5 | h5 <;> rw [h5] at h1 <;> omega
theorem nth_drop (xs : List Int) (k j : Nat) : nth (xs.drop k) j = nth xs (k + j) := by simp [nth, List.getElem?_drop]
theorem nth_take {xs : List Int} {k j : Nat} (h : j < k) : nth (xs.take k) j = nth xs j := by simp [nth, h]
theorem step3 {xs : List Int} {k : Nat} (hlt : k < xs.length) (hby : bytesOnly xs) :
    ∃ (x : Int) (s1 : Rs) (L : Nat) (s2 : Rs) (ys : List Int) (s3 : Rs), (Rs.mk xs k false).byte = (x, s1) ∧ s1.number 2 = ((L : Int), s2) ∧ s2.take L = (ys, s3) ∧ L ≤ 65535 ∧ ys.length = L ∧
      ((s3 = ⟨xs, k + 3 + lenAt xs k, false⟩ ∧ (x, ys) = tagAt xs k ∧ ¬ badAt xs k) ∨ (s3.bad = true ∧ s3.xs = xs ∧ badAt xs k)) := by
  have e1 : (Rs.mk xs k false).byte = (nth xs k, ⟨xs, k + 1, false⟩) := by
    unfold Rs.byte Rs.take
    rw [if_neg (by simp; omega)]
    simp only []
    rw [nth_take (by omega), nth_drop, Nat.add_zero]
  have hsm := numOf_small2 (bytes_take (bytes_drop hby (k+1)) 2) (by rw [List.length_take]; omega)
  have hLe := lenAt_eq hby k
  by_cases h2 : xs.length - (k + 1) < 2
  · have e2 : (Rs.mk xs (k+1) false).number 2 = (((0 : Nat) : Int), ⟨xs, k + 1, true⟩) := by
      unfold Rs.number Rs.take
      rw [if_pos (.inr h2)]; rfl
    have e3 : (Rs.mk xs (k+1) true).take 0 = ([], ⟨xs, k + 1, true⟩) := by
      unfold Rs.take
      rw [if_pos (.inl rfl)]; rfl
    exact ⟨_, _, 0, _, _, _, e1, e2, e3, by omega, rfl, .inr ⟨rfl, rfl, .inl (by omega)⟩⟩
  · have e2 : (Rs.mk xs (k+1) false).number 2 = ((lenAt xs k : Int), ⟨xs, k + 3, false⟩) := by
      unfold Rs.number Rs.take
      rw [if_neg (by simp; omega)]
      simp only []
      rw [hLe]
    have hlen := Rs.take_len (s := ⟨xs, k+3, false⟩) (lenAt xs k)
    by_cases h3 : xs.length - (k + 3) < lenAt xs k
    · have e3 : (Rs.mk xs (k+3) false).take (lenAt xs k) = (List.replicate (lenAt xs k) 0, ⟨xs, k+3, true⟩) := by
        unfold Rs.take
        rw [if_pos (.inr h3)]
      exact ⟨_, _, _, _, _, _, e1, e2, e3, by omega, by simp, .inr ⟨rfl, rfl, .inr (by omega)⟩⟩
    · have e3 : (Rs.mk xs (k+3) false).take (lenAt xs k) = ((xs.drop (k+3)).take (lenAt xs k), ⟨xs, k+3+lenAt xs k, false⟩) := by
        unfold Rs.take
        rw [if_neg (by simp; omega)]
      exact ⟨_, _, _, _, _, _, e1, e2, e3, by omega, by rw [e3] at hlen; exact hlen, .inl ⟨rfl, rfl, by unfold badAt; omega⟩⟩
def vlen : Value → Nat | .slice _ n _ => n | _ => 0
end Go.Proofs.YtgigjgjpglmpoaaGreatDoor
namespace Go.Proofs.YtgigjgjpglmpoaaGreatDoor
open Go.RowKit
end Go.Proofs.YtgigjgjpglmpoaaGreatDoor
