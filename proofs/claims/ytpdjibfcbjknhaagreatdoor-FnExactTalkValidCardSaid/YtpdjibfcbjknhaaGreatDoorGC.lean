/- The reader of bytes.
The reader of bytes: one byte, a number; a new reader.
Tags out of bytes: the plain law; steps of append in a region that draws.
The reference's tags out of bytes.
The program's tags out of bytes.
spec.l1Text: the bytes of a text. -/
import Derived.Test.YtpdjibfcbjknhaaGreatDoorGB
namespace Go.Proofs.YtpdjibfcbjknhaaGreatDoor
open Go.RowKit
/-- A number of bytes, the highest one first. -/
def numOf (xs : List Int) : Int := xs.foldl (fun n x => n * 256 + x) 0
theorem numOf_snoc (xs : List Int) (x : Int) : numOf (xs ++ [x]) = numOf xs * 256 + x := by simp [numOf]
def bytesOnly (xs : List Int) : Prop := ∀ x ∈ xs, 0 ≤ x ∧ x ≤ 255
theorem numOf_bound {xs : List Int} (h : bytesOnly xs) : 0 ≤ numOf xs ∧ numOf xs + 1 ≤ 256 ^ xs.length := by
  have key : ∀ ys : List Int, bytesOnly ys → ∀ n : Int, 0 ≤ n → ∀ p : Nat, n + 1 ≤ 256 ^ p → 0 ≤ ys.foldl (fun n x => n * 256 + x) n ∧ ys.foldl (fun n x => n * 256 + x) n + 1 ≤ 256 ^ (p + ys.length) := by
    intro ys
    induction ys with
    | nil => intro _ n h0 p hp; exact ⟨h0, by simpa using hp⟩
    | cons y ys ih =>
      intro hb n h0 p hp
      have hy := hb y (by simp)
      have hp' : n * 256 + y + 1 ≤ 256 ^ (p + 1) := by rw [Int.pow_succ]; omega
      have := ih (fun x hx => hb x (by simp [hx])) (n * 256 + y) (by omega) (p + 1) hp'
      rw [List.foldl_cons, List.length_cons, show p + (ys.length + 1) = p + 1 + ys.length by omega]
      exact this
  have := key xs h 0 (by omega) 0 (by decide)
  simpa [numOf] using this
theorem bv_bytes {xs : List Int} (h : bv xs = true) : bytesOnly xs := by
  simp only [bv, Bool.and_eq_true, List.all_eq_true] at h
  intro x hx
  exact inB_iff.1 (h.1 x hx)
theorem bytes_nth {xs : List Int} (h : bytesOnly xs) {k : Nat} (hk : k < xs.length) : 0 ≤ nth xs k ∧ nth xs k ≤ 255 := by
  rw [nth_eq hk]; exact h _ (List.getElem_mem hk)
theorem bytes_take {xs : List Int} (h : bytesOnly xs) (k : Nat) : bytesOnly (xs.take k) := fun x hx => h x (List.mem_of_mem_take hx)
theorem bytes_drop {xs : List Int} (h : bytesOnly xs) (k : Nat) : bytesOnly (xs.drop k) := fun x hx => h x (List.mem_of_mem_drop hx)
theorem take_snoc' {xs : List Int} {k : Nat} (h : k < xs.length) : xs.take (k+1) = xs.take k ++ [nth xs k] := by
  rw [List.take_succ_eq_append_getElem h, nth_eq h]
theorem numOf_small {xs : List Int} (h : bytesOnly xs) (h4 : xs.length ≤ 4) : 0 ≤ numOf xs ∧ numOf xs ≤ 4294967295 := by
  have h1 := numOf_bound h
  have h5 : xs.length = 0 ∨ xs.length = 1 ∨ xs.length = 2 ∨ xs.length = 3 ∨ xs.length = 4 := by omega
  rcases h5 with h5 | h5 | h5 | h5 | h5 <;> rw [h5] at h1 <;> omega
theorem l1Of_c {w : World} {v : Value} {xs : List Int} (h : IntS w v xs) (hb : bytesOnly xs) (h4 : xs.length ≤ 4) :
    Calls Tryz.prog 184 #[v] w fun e w' => e = .returned (.int .i64 (numOf xs)) ∧ w = w' := by
  obtain ⟨p, cap, rfl, hl1, hl2⟩ := h.form
  go_enter Tryz.func184, Tryz.ntmps184
  go_wp2_with fail
  go_loop [3, 4] (fun n i => ∃ k : Nat, k ≤ xs.length ∧ i = .int .i64 k ∧ n = .int .i64 (numOf (xs.take k))) (fun _ i => xs.length - (intOf i).toNat)
  case atStart => exact ⟨0, Nat.zero_le _, rfl, rfl⟩
  case round =>
    obtain ⟨k, hk, rfl, rfl⟩ := hrel
    by_cases hlt : k < xs.length
    · obtain ⟨a, hix, hca⟩ := h.ix hlt
      have hn := numOf_small (bytes_take hb k) (by rw [List.length_take]; omega)
      have hx := bytes_nth hb hlt
      have hs : numOf (xs.take (k+1)) = 256 * numOf (xs.take k) + nth xs k := by rw [take_snoc' hlt, numOf_snoc]; omega
      have HS := Lib.hid hs; clear hs
      go_wp2
      go_round
      case rel => exact ⟨k+1, by omega, by go_num, by rw [HS.out]⟩
      case measure => simp [intOf]; omega
    · go_wp2
      go_ret
      exact ⟨ret_int (by rw [List.take_of_length_le (by omega)]), rfl⟩
theorem or_low (a x : Int) (ha : 0 ≤ a) (ha' : a ≤ 4294967295) (hx : 0 ≤ x) (hx' : x ≤ 255) : bits .or .i64 (a * 256) x = a * 256 + x :=
  bits_join .i64 63 (by decide) (fun n h0 h1 => by rw [IntKind.wrap_i64]; omega) 8 (a * 256) x (by omega) (by omega) (by omega) hx (by omega) (by omega)
theorem number_c {w : World} {v : Value} {xs : List Int} (h : IntS w v xs) (hb : bytesOnly xs) (h4 : xs.length ≤ 4) :
    Calls Tryz.prog 197 #[v] w fun e w' => e = .returned (.int .i64 (numOf xs)) ∧ w = w' := by
  obtain ⟨p, cap, rfl, hl1, hl2⟩ := h.form
  go_enter Tryz.func197, Tryz.ntmps197
  go_wp2_with fail
  go_loop [3, 8] (fun n i => ∃ k : Nat, k ≤ xs.length ∧ i = .int .i64 k ∧ n = .int .i64 (numOf (xs.take k))) (fun _ i => xs.length - (intOf i).toNat)
  case atStart => exact ⟨0, Nat.zero_le _, rfl, rfl⟩
  case round =>
    obtain ⟨k, hk, rfl, rfl⟩ := hrel
    by_cases hlt : k < xs.length
    · obtain ⟨a, hix, hca⟩ := h.ix hlt
      have hn := numOf_small (bytes_take hb k) (by rw [List.length_take]; omega)
      have hx := bytes_nth hb hlt
      have hs : numOf (xs.take (k+1)) = numOf (xs.take k) * 256 + nth xs k := by rw [take_snoc' hlt, numOf_snoc]
      have HS := Lib.hid hs; clear hs
      have hor := or_low (numOf (xs.take k)) (nth xs k) hn.1 hn.2 hx.1 hx.2
      go_wp2
      go_round
      case rel => exact ⟨k+1, by omega, by go_num, by rw [HS.out]⟩
      case measure => simp [intOf]; omega
    · go_wp2
      go_ret
      exact ⟨ret_int (by rw [List.take_of_length_le (by omega)]), rfl⟩

/-- What a reader of bytes knows: the bytes, how many it has read, whether it has failed. -/
structure Rs where
  xs : List Int
  pos : Nat
  bad : Bool
def Rs.ok (s : Rs) : Prop := s.pos ≤ s.xs.length ∧ s.xs.length ≤ 1000000000 ∧ (s.bad = false → bytesOnly s.xs)
/-- So many bytes are read. -/
def Rs.take (s : Rs) (n : Nat) : List Int × Rs :=
  if s.bad = true ∨ s.xs.length - s.pos < n then (List.replicate n 0, { s with bad := true }) else ((s.xs.drop s.pos).take n, { s with pos := s.pos + n })
def Rs.byte (s : Rs) : Int × Rs := (nth (s.take 1).1 0, (s.take 1).2)
def Rs.number (s : Rs) (n : Nat) : Int × Rs := (numOf (s.take n).1, (s.take n).2)
theorem Rs.take_ok {s : Rs} (h : s.ok) (n : Nat) : (s.take n).2.ok := by
  obtain ⟨h1, h2, h3⟩ := h
  unfold Rs.take
  split
  · exact ⟨h1, h2, by simp⟩
  · rename_i hc
    exact ⟨by simp only []; omega, h2, h3⟩
theorem Rs.take_bytes {s : Rs} (h : s.ok) (n : Nat) : bytesOnly (s.take n).1 := by
  unfold Rs.take
  split
  · intro x hx
    have := (List.mem_replicate.1 hx).2
    omega
  · rename_i hc
    have hb : s.bad = false := by cases hb : s.bad <;> simp_all
    exact bytes_take (bytes_drop (h.2.2 hb) _) _
theorem Rs.take_len {s : Rs} (n : Nat) : (s.take n).1.length = n := by
  unfold Rs.take
  split
  · simp
  · rename_i hc
    rw [List.length_take, List.length_drop]; omega
/-- At block g stands a reader of bytes. -/
def RdrAt (w : World) (g : Nat) (s : Rs) : Prop :=
  s.ok ∧ ∃ (w0 : World) (v : Value), Gr w0 w ∧ w0.heap.size ≤ g ∧ IntS w0 v s.xs ∧ w.heap[g]? = some (.cells #[v, .int .i64 s.pos, .bool s.bad] 96 (0, 0))
theorem RdrAt.lt {w : World} {g : Nat} {s : Rs} (h : RdrAt w g s) : g < w.heap.size := by
  obtain ⟨_, _, _, _, _, _, h⟩ := h
  exact (Array.getElem?_eq_some_iff.1 h).1
theorem RdrAt.kept {w w' : World} {g : Nat} {s : Rs} (h : RdrAt w g s) (hg : Gr w w') : RdrAt w' g s := by
  have hl := h.lt
  obtain ⟨h0, w0, v, h1, h2, h3, h4⟩ := h
  exact ⟨h0, w0, v, h1.trans hg, h2, h3, by rw [Below.block hg g hl]; exact h4⟩
theorem RdrAt.keptB {w w' : World} {g B : Nat} {s : Rs} (h : RdrAt w g s) (hb : Below B w w') (hg : g < B) : RdrAt w' g s := by
  obtain ⟨h0, w0, v, h1, h2, h3, h4⟩ := h
  exact ⟨h0, w0, v, Below.trans h1 (hb.mono (by omega)), h2, h3, by rw [hb.block g hg]; exact h4⟩
theorem RdrAt.keptD {w w' : World} {g b : Nat} {s : Rs} (h : RdrAt w g s) (hd : D b w w') (hne : g < b) : RdrAt w' g s := by
  have hl := h.lt
  obtain ⟨h0, w0, v, h1, h2, h3, h4⟩ := h
  exact ⟨h0, w0, v, hd.gr h1 (by omega), h2, h3, by rw [hd.block g hl (by simp; omega)]; exact h4⟩
theorem IntS.cutI {w : World} {p : Option Addr} {cap : Nat} {xs : List Int} (h : IntS w (.slice p xs.length cap) xs) {lo n : Nat} (hn : lo + n ≤ xs.length) {a b : Int} (ha : a = (lo : Int)) (hb : b = ((lo + n : Nat) : Int)) :
    ∃ v' : Value, (∀ w1, (Instr.slice 23 (.slice p xs.length cap) (some (.int .i64 a)) (some (.int .i64 b)) none).run Tryz.prog w1 = .ok v' w1) ∧ IntS w v' ((xs.drop lo).take n) := by
  subst ha hb
  obtain ⟨i0, hi, hz, hs, hby⟩ := infoI
  obtain ⟨v', h1, h2⟩ := Row.cut h uI hi hs (Nat.le_add_right lo n) hn
  refine ⟨v', h1, ?_⟩
  unfold IntS
  rw [← ints_take, ← ints_drop, List.length_take, List.length_drop, show min n (xs.length - lo) = n by omega]
  rw [Nat.add_sub_cancel_left] at h2
  simpa using h2
set_option maxHeartbeats 1000000 in
theorem take_c {w : World} {g : Nat} {s : Rs} (h : RdrAt w g s) (n : Nat) (ni : Int) (he : ni = (n : Int)) (hn : n ≤ 1000000000) :
    Calls Tryz.prog 82 #[.pointer (some ⟨g, 0, none⟩), .int .i64 ni] w fun e w' => ∃ v', e = .returned v' ∧ IntO w.heap.size 3 w' v' (s.take n).1 ∧ RdrAt w' g (s.take n).2 ∧ D g w w' := by
  subst he
  have hlt := h.lt
  obtain ⟨hok, w0, v, h1, h2, h3, h6⟩ := h
  obtain ⟨q, cap, rfl, hl1, hl2⟩ := h3.form
  have hc0 : w.cell? ⟨g, 0, none⟩ = some (.slice q s.xs.length cap) := by simp [World.cell?, h6]
  have hc1 : w.cell? ⟨g, 1, none⟩ = some (.int .i64 s.pos) := by simp [World.cell?, h6]
  have hc2 : w.cell? ⟨g, 2, none⟩ = some (.bool s.bad) := by simp [World.cell?, h6]
  have hf1 : w.frozen? ⟨g, 1, none⟩ = false := by simp [World.frozen?, h6]
  have hf2 : w.frozen? ⟨g, 2, none⟩ = false := by simp [World.frozen?, h6]
  obtain ⟨ok1, ok2, ok3⟩ := hok
  by_cases hc : s.bad = true ∨ s.xs.length - s.pos < n
  · have et : s.take n = (List.replicate n 0, { s with bad := true }) := by unfold Rs.take; rw [if_pos hc]
    have hd : D g w (w.setCell ⟨g, 2, none⟩ (.bool true)) := D.set (D.refl g w) 2 _
    have hr : RdrAt (w.setCell ⟨g, 2, none⟩ (.bool true)) g { s with bad := true } := ⟨⟨ok1, ok2, by simp⟩, w0, _, hd.gr h1 h2, h2, h3, heap_set h6⟩
    rw [et]
    clear et h6
    cases hbad : s.bad
    · have hlen : s.xs.length - s.pos < n := by rcases hc with h | h; · rw [hbad] at h; cases h
                                                · exact h
      have hlen' : (s.xs.length : Int) - (s.pos : Int) < (n : Int) := by omega
      rw [hbad] at hc2
      go_enter Tryz.func82, Tryz.ntmps82
      go_wp2_with fail
      go_quiet (fail)
      go_wp2_with (refine wpl_makeI (n := n) rfl _ _ rfl rfl rfl (by omega) ?_; intro p w1 ho hg1)
      go_ret
      have hg2 : Gr (w.setCell ⟨g, 2, none⟩ (.bool true)) w1 := ⟨hg1.os, hg1.tape, hg1.output, hg1.size, hg1.block⟩
      exact ⟨_, rfl, ho.mono (by simp [World.setCell]), hr.kept hg2, hd.trans (D.ofGr hg2)⟩
    · rw [hbad] at hc2
      go_enter Tryz.func82, Tryz.ntmps82
      go_wp2_with fail
      go_quiet (fail)
      go_wp2_with (refine wpl_makeI (n := n) rfl _ _ rfl rfl rfl (by omega) ?_; intro p w1 ho hg1)
      go_ret
      have hg2 : Gr (w.setCell ⟨g, 2, none⟩ (.bool true)) w1 := ⟨hg1.os, hg1.tape, hg1.output, hg1.size, hg1.block⟩
      exact ⟨_, rfl, ho.mono (by simp [World.setCell]), hr.kept hg2, hd.trans (D.ofGr hg2)⟩
  · have hbad : s.bad = false := by cases hb : s.bad <;> simp_all
    have hlen : s.pos + n ≤ s.xs.length := by omega
    have et : s.take n = ((s.xs.drop s.pos).take n, { s with pos := s.pos + n }) := by unfold Rs.take; rw [if_neg hc]
    have hd : D g w (w.setCell ⟨g, 1, none⟩ (.int .i64 ((s.pos : Int) + (n : Int)))) := D.set (D.refl g w) 1 _
    have hr : RdrAt (w.setCell ⟨g, 1, none⟩ (.int .i64 ((s.pos : Int) + (n : Int)))) g { s with pos := s.pos + n } := by
      refine ⟨⟨hlen, ok2, ok3⟩, w0, _, hd.gr h1 h2, h2, h3, ?_⟩
      rw [heap_set h6]; rfl
    obtain ⟨v', hsl, hrow⟩ := IntS.cutI h3 hlen (a := (s.pos : Int)) (b := (s.pos : Int) + (n : Int)) rfl (by omega)
    obtain ⟨p', c', hv', _, _⟩ := hrow.form
    have hll : ((s.xs.drop s.pos).take n).length = n := by rw [List.length_take, List.length_drop]; omega
    rw [hll] at hv'
    have hgW : Gr w0 (w.setCell ⟨g, 1, none⟩ (.int .i64 ((s.pos : Int) + (n : Int)))) := hd.gr h1 h2
    have hrow' := hrow.kept hgW
    have hlen' : ¬ ((s.xs.length : Int) - (s.pos : Int) < (n : Int)) := by omega
    have hb0 : (s.pos : Int) + (n : Int) ≤ 1000000000 := by omega
    have HLL := Lib.hid hll
    rw [et]
    rw [hbad] at hc2
    have H6 := Lib.hid h6
    clear et h6 hc hrow hll
    go_enter Tryz.func82, Tryz.ntmps82
    go_wp2_with fail
    go_quiet (fail)
    go_wp2_with fail
    have hH : ((w.drewN nq).setCell ⟨g, 1, none⟩ (.int .i64 ((s.pos : Int) + (n : Int)))).heap[g]? = some (.cells #[.slice q s.xs.length cap, .int .i64 ((s.pos : Int) + (n : Int)), .bool s.bad] 96 (0, 0)) := by
      have := heap_set (j := 1) (x := .int .i64 ((s.pos : Int) + (n : Int))) H6.out
      exact this
    have hrW : RdrAt ((w.drewN nq).setCell ⟨g, 1, none⟩ (.int .i64 ((s.pos : Int) + (n : Int)))) g { s with pos := s.pos + n } := hr.kept ((Gr.refl _).drewN nq)
    have hdW : D g w ((w.drewN nq).setCell ⟨g, 1, none⟩ (.int .i64 ((s.pos : Int) + (n : Int)))) := hd.trans (D.ofGr ((Gr.refl _).drewN nq))
    have hrowW : IntS ((w.drewN nq).setCell ⟨g, 1, none⟩ (.int .i64 ((s.pos : Int) + (n : Int)))) v' ((s.xs.drop s.pos).take n) := hrow'.kept ((Gr.refl _).drewN nq)
    generalize (w.drewN nq).setCell ⟨g, 1, none⟩ (.int .i64 ((s.pos : Int) + (n : Int))) = W at *
    have hx0 : W.cell? ⟨g, 0, none⟩ = some (.slice q s.xs.length cap) := by simp [World.cell?, hH]
    have hx1 : W.cell? ⟨g, 1, none⟩ = some (.int .i64 ((s.pos : Int) + (n : Int))) := by simp [World.cell?, hH]
    have HH := Lib.hid hH
    clear hH hr hd hrow' hc0 hc1 hc2 hf1 hf2 hgW
    subst hv'
    have hq1 : IntKind.i64.wrap ((s.pos : Int) + (n : Int) - (n : Int)) = (s.pos : Int) := by rw [IntKind.wrap_i64]; omega
    have hq2 : (0 : Int) ≤ (s.pos : Int) := by omega
    have hq3 : (s.pos : Int) ≤ (s.pos : Int) + (n : Int) := by omega
    have hq4 : (s.pos : Int) + (n : Int) ≤ (s.xs.length : Int) := by omega
    have hq5 : (s.pos : Int) + (n : Int) ≤ (cap : Int) := by omega
    have hq6 : (0 : Int) ≤ (s.pos : Int) + (n : Int) := by omega
    have hq7 : IntKind.i64.wrap (s.pos : Int) = (s.pos : Int) := by rw [IntKind.wrap_i64]; omega
    go_region_held3 (fun w' => w'.cell? ⟨g, 0, none⟩ = some (.slice q s.xs.length cap) ∧ w'.cell? ⟨g, 1, none⟩ = some (.int .i64 ((s.pos : Int) + (n : Int)))) (first | (exact ⟨hg1.undrew.cell hx0, hg1.undrew.cell hx1⟩) | go_keep) (first | (go_at_call 102; (with_reducible refine (Clone_c (hrowW.kept ((Gr.refl _).drew)) (by have := HLL.out; omega)).mono ?_); rintro e w1 ⟨v1, rfl, ho1, hg1⟩))
    go_wp2
    go_ret
    exact ⟨_, rfl, ho1.mono hdW.size, hrW.kept hg1.undrew, hdW.trans (D.ofGr hg1.undrew)⟩
end Go.Proofs.YtpdjibfcbjknhaaGreatDoor
namespace Go.Proofs.YtpdjibfcbjknhaaGreatDoor
open Go.RowKit
set_option maxHeartbeats 1000000 in
theorem byte_c {w : World} {g : Nat} {s : Rs} (h : RdrAt w g s) :
    Calls Tryz.prog 83 #[.pointer (some ⟨g, 0, none⟩)] w fun e w' => e = .returned (.int .i64 s.byte.1) ∧ RdrAt w' g s.byte.2 ∧ D g w w' := by
  go_enter Tryz.func83, Tryz.ntmps83
  go_wp2_with fail
  (with_reducible refine (take_c h 1 1 rfl (by omega)).mono ?_)
  rintro e w1 ⟨v1, rfl, ho1, hr1, hd1⟩
  have hl1 : (s.take 1).1.length = 1 := Rs.take_len 1
  obtain ⟨p, cap, hv, _, _⟩ := ho1.s.form
  subst hv
  rw [hl1]
  obtain ⟨a, hix, hca⟩ := ho1.s.ix0 (by omega)
  rw [hl1] at hix
  go_wp2
  go_ret
  exact ⟨rfl, hr1, hd1⟩
theorem numberR_c {w : World} {g : Nat} {s : Rs} (h : RdrAt w g s) (n : Nat) (ni : Int) (he : ni = (n : Int)) (hn : n ≤ 4) :
    Calls Tryz.prog 181 #[.pointer (some ⟨g, 0, none⟩), .int .i64 ni] w fun e w' => e = .returned (.int .i64 (s.number n).1) ∧ RdrAt w' g (s.number n).2 ∧ D g w w' := by
  subst he
  have hok := h.1
  go_enter Tryz.func181, Tryz.ntmps181
  go_wp2_with fail
  (with_reducible refine (take_c h n (n : Int) rfl (by omega)).mono ?_)
  rintro e w1 ⟨v1, rfl, ho1, hr1, hd1⟩
  go_wp2_with fail
  (with_reducible refine (number_c ho1.s (Rs.take_bytes hok n) (by rw [Rs.take_len]; omega)).mono ?_)
  rintro e w2 ⟨rfl, rfl⟩
  go_wp2
  go_ret
  exact ⟨rfl, hr1, hd1⟩
theorem newReader_c {w : World} {v : Value} {xs : List Int} (h : IntS w v xs) (hb : xs.length ≤ 1000000000) :
    Calls Tryz.prog 80 #[v] w fun e w' => ∃ g, e = .returned (.pointer (some ⟨g, 0, none⟩)) ∧ w.heap.size ≤ g ∧ RdrAt w' g ⟨xs, 0, !(bv xs)⟩ ∧ Gr w w' := by
  obtain ⟨p, cap, rfl, hl1, hl2⟩ := h.form
  go_enter Tryz.func80, Tryz.ntmps80
  go_wp2_with fail
  (with_reducible refine (implBytesValid_c h).mono ?_)
  rintro e w1 ⟨rfl, rfl⟩
  go_wp2
  go_ret
  refine ⟨_, rfl, Nat.le_refl _, ⟨⟨by simp, hb, fun hh => bv_bytes (by simpa using hh)⟩, w, _, (Gr.refl w).alloc _, Nat.le_refl _, h, ?_⟩, (Gr.refl w).alloc _⟩
  exact heap_alloc_new _ _
end Go.Proofs.YtpdjibfcbjknhaaGreatDoor
namespace Go.Proofs.YtpdjibfcbjknhaaGreatDoor
open Go.RowKit
def lenAt (xs : List Int) (p : Nat) : Nat := (numOf ((xs.drop (p+1)).take 2)).toNat
def badAt (xs : List Int) (p : Nat) : Prop := xs.length - p < 3 ∨ xs.length - p - 3 < lenAt xs p
instance (xs : List Int) (p : Nat) : Decidable (badAt xs p) := by unfold badAt; infer_instance
def tagAt (xs : List Int) (p : Nat) : Tag := (nth xs p, (xs.drop (p+3)).take (lenAt xs p))
def cutT (xs : List Int) : Nat → Nat → List Tag → Option (List Tag)
  | 0, _, _ => none
  | f+1, p, ts => if p < xs.length then (if badAt xs p then none else cutT xs f (p + 3 + lenAt xs p) (ts ++ [tagAt xs p])) else some ts
/-- The tags that bytes are. -/
def tagsFrom (xs : List Int) : Option (List Tag) :=
  if bv xs = true then (match cutT xs (xs.length + 1) 0 [] with | some ts => if tagsOk ts = true then some ts else none | none => none) else none
/-- So far the bytes are tags. -/
def CutTo (xs : List Int) (p : Nat) (ts : List Tag) : Prop := ∃ f, xs.length < f + p ∧ p ≤ xs.length ∧ 3 * ts.length ≤ p ∧ cutT xs (xs.length + 1) 0 [] = cutT xs f p ts
theorem CutTo.start (xs : List Int) : CutTo xs 0 [] := ⟨xs.length + 1, by omega, by omega, by simp, rfl⟩
theorem CutTo.next {xs : List Int} {p : Nat} {ts : List Tag} (h : CutTo xs p ts) (hp : p < xs.length) (hb : ¬ badAt xs p) : CutTo xs (p + 3 + lenAt xs p) (ts ++ [tagAt xs p]) := by
  obtain ⟨f, h1, h2, h3, h4⟩ := h
  unfold badAt at hb
  obtain ⟨f, rfl⟩ : ∃ g, f = g + 1 := ⟨f - 1, by omega⟩
  refine ⟨f, by omega, by omega, by simp; omega, ?_⟩
  rw [h4, cutT, if_pos hp, if_neg (by unfold badAt; exact hb)]
theorem CutTo.fail {xs : List Int} {p : Nat} {ts : List Tag} (h : CutTo xs p ts) (hp : p < xs.length) (hb : badAt xs p) : tagsFrom xs = none := by
  obtain ⟨f, h1, h2, h3, h4⟩ := h
  obtain ⟨f, rfl⟩ : ∃ g, f = g + 1 := ⟨f - 1, by omega⟩
  have h5 : cutT xs (f+1) p ts = none := by rw [cutT, if_pos hp, if_pos hb]
  rw [h5] at h4
  unfold tagsFrom
  rw [h4]; split <;> rfl
theorem CutTo.done {xs : List Int} {ts : List Tag} {p : Nat} (h : CutTo xs p ts) (hp : ¬ p < xs.length) (hb : bv xs = true) : tagsFrom xs = if tagsOk ts = true then some ts else none := by
  obtain ⟨f, h1, h2, h3, h4⟩ := h
  obtain ⟨f, rfl⟩ : ∃ g, f = g + 1 := ⟨f - 1, by omega⟩
  have h5 : cutT xs (f+1) p ts = some ts := by rw [cutT, if_neg hp]
  rw [h5] at h4
  unfold tagsFrom
  rw [h4, if_pos hb]
theorem tagsFrom_bad {xs : List Int} (h : bv xs = false) : tagsFrom xs = none := by unfold tagsFrom; rw [h]; rfl
theorem lenAt_eq {xs : List Int} (h : bytesOnly xs) (p : Nat) : numOf ((xs.drop (p+1)).take 2) = (lenAt xs p : Int) := by
  have := numOf_small (bytes_take (bytes_drop h (p+1)) 2) (by rw [List.length_take]; omega)
  unfold lenAt; omega

/-- append at a step of a region that draws. -/
theorem step_appI {w : World} {ops : Array Oper} {o : Oper} {a : Act} {K : Act → World → Prop} {Q : Exit → Act → World → Prop} {E : Prop} (hgd : o.guard = none) (s x : Operand)
    (ho : o.op = .call { callee := .builtin .append, args := #[s, x], argTypes := #[23, 23] })
    {B : Nat} {v : Value} {xs : List Int} (hs : a.eval s = v) (hown : IntO B 3 w v xs) {xv : Value} {ys : List Int} (hx : a.eval x = xv) (hrow : IntS w xv ys)
    (hb : xs.length + ys.length ≤ 1000000000000) (hB : B ≤ w.heap.size)
    (h : ∀ v' w', IntO B 3 w' v' (xs ++ ys) → Below B w w' → K (a.put o.dst v') w') : if Region.wanted o (yielded ops a.tmps) = true then Oper.wp Tryz.prog o a w K Q else E := by
  have hw : Region.wanted o (yielded ops a.tmps) = true := by simp [Region.wanted, hgd]
  rw [if_pos hw]
  obtain ⟨i0, hi, hz, hs', hby⟩ := infoI
  obtain ⟨v', w', hr, h2, h3⟩ := Own.append (P := Tryz.prog) w (ty := o.type) uI hi hz hs' hby rfl (by decide) hown hrow (ints_one _) (by omega) (by decide) hB
  unfold Oper.wp execOp
  simp only [ho, resolve, invoke, builtin, Sem.run_bind, Sem.run_pure, Result.andThen_ok, List.map_toArray, List.map_cons, List.map_nil, hs, hx, hr]
  refine h _ _ ?_ h3
  unfold IntO; rw [ints_append, List.length_append]; exact h2
end Go.Proofs.YtpdjibfcbjknhaaGreatDoor
namespace Go.Proofs.YtpdjibfcbjknhaaGreatDoor
open Go.RowKit
theorem step_copyI {w : World} {ops : Array Oper} {o : Oper} {a : Act} {K : Act → World → Prop} {Q : Exit → Act → World → Prop} {E : Prop} (hgd : o.guard = none) (s x : Operand)
    (ho : o.op = .call { callee := .builtin .append, args := #[s, x], argTypes := #[23, 23] })
    (hs : a.eval s = .slice (some ⟨w.heap.size, 0, none⟩) 0 0) {xv : Value} {ys : List Int} (hx : a.eval x = xv) (hrow : IntS w xv ys) (hb : ys.length ≤ 1000000000)
    (h : ∀ p c w', IntO w.heap.size 3 w' (.slice p ys.length c) ys → Gr w w' → K (a.put o.dst (.slice p ys.length c)) w') : if Region.wanted o (yielded ops a.tmps) = true then Oper.wp Tryz.prog o a (w.alloc (.cells #[] 3)).drew K Q else E := by
  refine step_appI hgd s x ho hs ((IntO.mt w).kept ((Gr.refl _).drew)) hx (hrow.kept ((gr_alloc w _).drew)) (by simp; omega) (by simp) fun v' w' h1 h2 => ?_
  have h1' : IntO w.heap.size 3 w' v' ys := h1
  obtain ⟨p, c, rfl⟩ := h1'.len
  exact h p c w' h1' (Below.trans ((gr_alloc w _).drew) h2)
end Go.Proofs.YtpdjibfcbjknhaaGreatDoor
namespace Go.Proofs.YtpdjibfcbjknhaaGreatDoor
open Go.RowKit
theorem byteE {w : World} {g : Nat} {s s1 : Rs} {x : Int} (h : RdrAt w g s) (he : Hid (s.byte = (x, s1))) :
    Calls Tryz.prog 83 #[.pointer (some ⟨g, 0, none⟩)] w fun e w' => e = .returned (.int .i64 x) ∧ RdrAt w' g s1 ∧ D g w w' := by
  have := byte_c h
  rw [he.out] at this
  exact this
theorem numberE {w : World} {g : Nat} {s s1 : Rs} {L : Nat} (h : RdrAt w g s) (he : Hid (s.number 2 = ((L : Int), s1))) :
    Calls Tryz.prog 181 #[.pointer (some ⟨g, 0, none⟩), .int .i64 2] w fun e w' => e = .returned (.int .i64 (L : Int)) ∧ RdrAt w' g s1 ∧ D g w w' := by
  have := numberR_c h 2 2 rfl (by omega)
  rw [he.out] at this
  exact this
theorem takeE {w : World} {g : Nat} {s s1 : Rs} {L : Nat} {ys : List Int} (h : RdrAt w g s) (he : Hid (s.take L = (ys, s1))) (hL : L ≤ 65535) :
    Calls Tryz.prog 82 #[.pointer (some ⟨g, 0, none⟩), .int .i64 (L : Int)] w fun e w' => ∃ p c, e = .returned (.slice p ys.length c) ∧ IntO w.heap.size 3 w' (.slice p ys.length c) ys ∧ RdrAt w' g s1 ∧ D g w w' := by
  refine (take_c h L (L : Int) rfl (by omega)).mono ?_
  rintro e w' ⟨v', rfl, ho, hr, hd⟩
  rw [he.out] at ho hr
  obtain ⟨p, c, rfl⟩ := ho.len
  exact ⟨p, c, rfl, ho, hr, hd⟩
theorem numOf_small2 {xs : List Int} (h : bytesOnly xs) (h4 : xs.length ≤ 2) : 0 ≤ numOf xs ∧ numOf xs ≤ 65535 := by
  have h1 := numOf_bound h
  have h5 : xs.length = 0 ∨ xs.length = 1 ∨ xs.length = 2 := by omega
  rcases h5 with h5 | h5 | h5 <;> rw [h5] at h1 <;> omega
theorem nth_drop (xs : List Int) (k j : Nat) : nth (xs.drop k) j = nth xs (k + j) := by simp [nth, List.getElem?_drop]
theorem nth_take {xs : List Int} {k j : Nat} (h : j < k) : nth (xs.take k) j = nth xs j := by simp [nth, h]
theorem step3 {xs : List Int} {k : Nat} (hlt : k < xs.length) (hby : bytesOnly xs) :
    ∃ (x : Int) (s1 : Rs) (L : Nat) (s2 : Rs) (ys : List Int) (s3 : Rs), (Rs.mk xs k false).byte = (x, s1) ∧ s1.number 2 = ((L : Int), s2) ∧ s2.take L = (ys, s3) ∧ L ≤ 65535 ∧ ys.length = L ∧
      ((s3 = ⟨xs, k + 3 + lenAt xs k, false⟩ ∧ (x, ys) = tagAt xs k ∧ ¬ badAt xs k) ∨ (s3.bad = true ∧ s3.xs = xs ∧ badAt xs k)) := by
  have e1 : (Rs.mk xs k false).byte = (nth xs k, ⟨xs, k + 1, false⟩) := by
    unfold Rs.byte Rs.take
    rw [if_neg (by simp; omega)]
    simp only []
    rw [nth_take (by omega), nth_drop, Nat.add_zero]
  have hsm := numOf_small2 (bytes_take (bytes_drop hby (k+1)) 2) (by rw [List.length_take]; omega)
  have hLe := lenAt_eq hby k
  by_cases h2 : xs.length - (k + 1) < 2
  · have e2 : (Rs.mk xs (k+1) false).number 2 = (((0 : Nat) : Int), ⟨xs, k + 1, true⟩) := by
      unfold Rs.number Rs.take
      rw [if_pos (.inr h2)]; rfl
    have e3 : (Rs.mk xs (k+1) true).take 0 = ([], ⟨xs, k + 1, true⟩) := by
      unfold Rs.take
      rw [if_pos (.inl rfl)]; rfl
    exact ⟨_, _, 0, _, _, _, e1, e2, e3, by omega, rfl, .inr ⟨rfl, rfl, .inl (by omega)⟩⟩
  · have e2 : (Rs.mk xs (k+1) false).number 2 = ((lenAt xs k : Int), ⟨xs, k + 3, false⟩) := by
      unfold Rs.number Rs.take
      rw [if_neg (by simp; omega)]
      simp only []
      rw [hLe]
    have hlen := Rs.take_len (s := ⟨xs, k+3, false⟩) (lenAt xs k)
    by_cases h3 : xs.length - (k + 3) < lenAt xs k
    · have e3 : (Rs.mk xs (k+3) false).take (lenAt xs k) = (List.replicate (lenAt xs k) 0, ⟨xs, k+3, true⟩) := by
        unfold Rs.take
        rw [if_pos (.inr h3)]
      exact ⟨_, _, _, _, _, _, e1, e2, e3, by omega, by simp, .inr ⟨rfl, rfl, .inr (by omega)⟩⟩
    · have e3 : (Rs.mk xs (k+3) false).take (lenAt xs k) = ((xs.drop (k+3)).take (lenAt xs k), ⟨xs, k+3+lenAt xs k, false⟩) := by
        unfold Rs.take
        rw [if_neg (by simp; omega)]
      exact ⟨_, _, _, _, _, _, e1, e2, e3, by omega, by rw [e3] at hlen; exact hlen, .inl ⟨rfl, rfl, by unfold badAt; omega⟩⟩
theorem RdrAt.c1 {w : World} {g : Nat} {s : Rs} (h : RdrAt w g s) : w.cell? ⟨g, 1, none⟩ = some (.int .i64 s.pos) := by
  obtain ⟨_, _, _, _, _, _, h6⟩ := h
  simp [World.cell?, h6]
theorem RdrAt.c2 {w : World} {g : Nat} {s : Rs} (h : RdrAt w g s) : w.cell? ⟨g, 2, none⟩ = some (.bool s.bad) := by
  obtain ⟨_, _, _, _, _, _, h6⟩ := h
  simp [World.cell?, h6]
def vlen : Value → Nat | .slice _ n _ => n | _ => 0
end Go.Proofs.YtpdjibfcbjknhaaGreatDoor
namespace Go.Proofs.YtpdjibfcbjknhaaGreatDoor
open Go.RowKit
theorem l1Text_c (w : World) (s : ByteArray) (hb : s.size ≤ 1000000000000) :
    Calls Tryz.prog 140 #[.string s] w fun e w' => ∃ v', e = .returned v' ∧ IntO w.heap.size 3 w' v' (sb s) ∧ Gr w w' := by
  have hmt := IntO.mt w
  have hg0 := gr_alloc w (.cells #[] 3)
  go_enter Tryz.func140, Tryz.ntmps140
  go_wp2_with fail
  go_loopw [3, 4] (fun v i wr => ∃ (k : Nat) (ys : List Int), k ≤ s.size ∧ i = .int .i64 k ∧ Hid (ys = (sb s).take k) ∧ Gr w wr ∧ IntO w.heap.size 3 wr v ys) (fun _ i _ => s.size - (intOf i).toNat)
  case atStart => exact ⟨0, [], Nat.zero_le _, rfl, by simp [Hid], hg0, hmt⟩
  case round =>
    obtain ⟨k, ys, hk, rfl, hys, hgr, ho⟩ := hrel
    clear hmt hg0
    by_cases hlt : k < s.size
    · have hyl : ys.length ≤ 1000000000000 - 1 := by rw [hys.out, List.length_take]; omega
      have hz := hgr.size
      go_wp2_with (at_builtin; refine wpl_appI rfl (.tmp 12) (.tmp 17) rfl rfl (ho.kept (gr_alloc _ _)) rfl (IntO.one _).s (by simp; omega) (by simp; omega) ?_; intro v5 w5 ho5 hg5; have hG5 : Gr w w5 := (hgr.alloc _).thenB hg5)
      go_roundw
      case rel => exact ⟨k+1, _, by omega, by go_num, by rw [wrap_sb hlt, hys.out]; exact (take_snoc' (by rw [sb_length]; exact hlt)).symm, hG5, ho5⟩
      case measure => simp [intOf]; omega
    · go_wp2
      go_ret
      have e : ys = sb s := by rw [hys.out, List.take_of_length_le (by rw [sb_length]; omega)]
      exact ⟨_, rfl, e ▸ ho, hgr⟩
end Go.Proofs.YtpdjibfcbjknhaaGreatDoor
