/- Logins and talks: plain laws.
Logins: both checks.
Slices of logins; the checks over them.
Methods and settings of talks: the checks. -/
import Derived.Test.YtdbepkcpdglppaaGreatDoorGN
import Derived.Test.YtdbepkcpdglppaaGreatDoorGE
import Derived.Test.YtdbepkcpdglppaaGreatDoorNameI
import Derived.Test.YtdbepkcpdglppaaGreatDoorGB
import Derived.Test.YtdbepkcpdglppaaGreatDoorGD
namespace Go.Proofs.YtdbepkcpdglppaaGreatDoor
open Go.RowKit
/-- A login: a user and a word. -/
abbrev Lg := Tx × Tx
def lgOk (l : Lg) : Bool := userOk l.1 && (userOk l.2 && (!l.1.isEmpty && !l.2.isEmpty))
def m02 (x : Int) : Bool := x == 0 || x == 2
/-- What a talk is made of. -/
def setOk (ws : List Int) (ls : List Lg) : Bool := ws.all m02 && (ls.all lgOk && (methOk ws && decide (ls.length ≤ 4)))
/-- A talk. -/
structure Tlk where
  st : Int
  wanted : List Int
  logins : List Lg
  dst : Tx
def talkOk (t : Tlk) : Bool := setOk t.wanted t.logins && (inB 0 4 t.st && ((!decide (t.st = 1) || hasI t.wanted 2) && (if t.st = 3 then (addrFrom t.dst).isSome else t.dst.isEmpty)))
theorem addrFrom_nil : addrFrom [] = none := rfl
/-- The reference's last test. -/
theorem talk_last (s3 : Bool) (d : Tx) : ((s3 == (addrFrom d).isSome) && ((addrFrom d).isSome || d.isEmpty)) = (if s3 = true then (addrFrom d).isSome else d.isEmpty) := by
  cases s3
  · cases h : addrFrom d with
    | none => simp
    | some a =>
      have hd : d.isEmpty = false := by
        cases d with
        | nil => rw [addrFrom_nil] at h; cases h
        | cons x y => rfl
      simp [hd]
  · cases h : addrFrom d <;> simp
theorem talkOk_new (ws : List Int) (ls : List Lg) : talkOk ⟨0, ws, ls, []⟩ = setOk ws ls := by
  unfold talkOk
  have h : inB 0 4 0 = true := rfl
  simp [h]
/-- The program's test of a talk's parts. -/
theorem setOk_prog (ws : List Int) (ls : List Lg) : (methOk ws && (decide (ls.length ≤ 4) && (!(ws.any fun x => !m02 x) && !(ls.any fun l => !lgOk l)))) = setOk ws ls := by
  unfold setOk
  have h1 : (!(ws.any fun x => !m02 x)) = ws.all m02 := by rw [Bool.eq_iff_iff]; simp
  have h2 : (!(ls.any fun l => !lgOk l)) = ls.all lgOk := by rw [Bool.eq_iff_iff]; simp
  rw [h1, h2]
  cases ws.all m02 <;> cases ls.all lgOk <;> cases methOk ws <;> cases decide (ls.length ≤ 4) <;> rfl
end Go.Proofs.YtdbepkcpdglppaaGreatDoor
namespace Go.Proofs.YtdbepkcpdglppaaGreatDoor
open Go.RowKit
theorem inCons_nil (c : UInt8) : inCons [] c = isUsr (c.toNat : Int) := by
  unfold inCons isUsr
  rw [idxByte_nil]
  simp
theorem implUserValid_c (w : World) (s : ByteArray) (hs : s.size ≤ 2000000) :
    Calls Tryz.prog 106 #[.string s] w fun e w' => e = .returned (.bool (userOk (tx s))) ∧ w = w' := by
  by_cases h8 : s.size ≤ 8
  · have d8 : decide ((s.size : Int) ≤ 8) = true := by simp; omega
    have C := consists_c w s ⟨#[]⟩ hs
    have HU : Hid ((tx s).all (inCons (tx ⟨#[]⟩)) = userOk (tx s)) := by
      rw [Hid, userOk, tx_len]
      have : inCons (tx ⟨#[]⟩) = fun c => isUsr (c.toNat : Int) := by funext c; exact inCons_nil c
      rw [this]; simp [h8]
    have HC := Lib.hid C
    clear C
    go_enter Tryz.func106, Tryz.ntmps106
    go_wp2_with fail
    (with_reducible refine (HC.out).mono ?_); rintro e w1 ⟨rfl, rfl⟩
    go_wp2
    go_ret
    exact ⟨ret_bool HU.out, rfl⟩
  · have d8 : decide ((s.size : Int) ≤ 8) = false := by simp; omega
    have HU : Hid (userOk (tx s) = false) := by rw [Hid, userOk, tx_len]; simp [h8]
    go_enter Tryz.func106, Tryz.ntmps106
    go_wp2
    go_ret
    exact ⟨ret_bool HU.out.symm, rfl⟩
end Go.Proofs.YtdbepkcpdglppaaGreatDoor
namespace Go.Proofs.YtdbepkcpdglppaaGreatDoor
open Go.RowKit
def nthLg (ls : List Lg) (k : Nat) : Lg := ls.getD k ([], [])
theorem nthLg_eq {ls : List Lg} {k : Nat} (h : k < ls.length) : nthLg ls k = ls[k] := by simp [nthLg, h]
/-- The cells of logins. -/
def lgs (ls : List Lg) : List Value := (ls.map fun l => [Value.string (S l.1), Value.string (S l.2)]).flatten
/-- A slice of logins. -/
def LgS (w : World) (v : Value) (ls : List Lg) : Prop := Row w 2 v ls.length (lgs ls)
theorem LgS.kept {w w' : World} {v : Value} {ls : List Lg} (h : LgS w v ls) (hg : Gr w w') : LgS w' v ls := Row.kept h hg
theorem LgS.form {w : World} {v : Value} {ls : List Lg} (h : LgS w v ls) : ∃ p cap, v = .slice p ls.length cap ∧ ls.length ≤ cap ∧ cap ≤ 9223372036854775807 := by
  obtain ⟨_, p, cap, h1, h2, h3, _⟩ := h
  exact ⟨p, cap, h1, h2, h3⟩
/-- No part is long. -/
def LgSm (ls : List Lg) : Prop := ∀ k, k < ls.length → (nthLg ls k).1.length ≤ 2000000 ∧ (nthLg ls k).2.length ≤ 2000000
theorem takeL_any (p : Lg → Bool) {ls : List Lg} {k : Nat} (h : k < ls.length) : (ls.take (k+1)).any p = ((ls.take k).any p || p (nthLg ls k)) := by
  rw [List.take_succ_eq_append_getElem h, nthLg_eq h, List.any_append]; simp
theorem anyL_true (p : Lg → Bool) {ls : List Lg} {k : Nat} (h : k < ls.length) (hp : p (nthLg ls k) = true) : ls.any p = true := by
  rw [List.any_eq_true]; exact ⟨ls[k], List.getElem_mem h, by rw [nthLg_eq h] at hp; exact hp⟩
theorem takeL_all (p : Lg → Bool) {ls : List Lg} {k : Nat} (h : k < ls.length) : (ls.take (k+1)).all p = ((ls.take k).all p && p (nthLg ls k)) := by
  rw [List.take_succ_eq_append_getElem h, nthLg_eq h, List.all_append]; simp
theorem allL_false (p : Lg → Bool) {ls : List Lg} {k : Nat} (h : k < ls.length) (hp : p (nthLg ls k) = false) : ls.all p = false := by
  rw [List.all_eq_false]; exact ⟨ls[k], List.getElem_mem h, by rw [nthLg_eq h] at hp; simp [hp]⟩
/-- A function value without captures that tells something of a login. -/
def TellsL (g : Nat) (p : Lg → Bool) : Prop := (∀ args w, (callFunc g args).run Tryz.prog w = .ok (.enter g args) w) ∧
  ∀ (a b : Tx) (w : World), a.length ≤ 2000000 → b.length ≤ 2000000 → Calls Tryz.prog g #[.agg #[.string (S a), .string (S b)]] w fun e w' => e = .returned (.bool (p (a, b))) ∧ Gr w w'
end Go.Proofs.YtdbepkcpdglppaaGreatDoor
namespace Go.Proofs.YtdbepkcpdglppaaGreatDoor
open Go.RowKit
theorem IndexI_c {w : World} {v : Value} {xs : List Int} (n : Int) (h : IntS w v xs) :
    Calls Tryz.prog 150 #[v, .int .i64 n] w fun e w' => (∃ r : Int, decide (0 ≤ r) = hasI xs n ∧ e = .returned (.int .i64 r)) ∧ w = w' := by
  obtain ⟨p, cap, rfl, _, _⟩ := h.form
  go_enter Tryz.func150, Tryz.ntmps150
  go_wp2_with fail
  go_loop [8] (fun i => ∃ k : Nat, k ≤ xs.length ∧ i = .int .i64 k ∧ Hid (hasI (xs.take k) n = false)) (fun i => xs.length - (intOf i).toNat)
  case atStart => exact ⟨0, Nat.zero_le _, rfl, by simp [Hid, hasI]⟩
  case round =>
    obtain ⟨k, hk, rfl, hall⟩ := hrel
    by_cases hlt : k < xs.length
    · obtain ⟨a, hix, hca⟩ := h.ix hlt
      cases hb : (n == nth xs k)
      · have hb2 : (nth xs k == n) = false := by rw [beq_eq_false_iff_ne] at hb ⊢; exact fun e => hb e.symm
        have HN : Hid (hasI (xs.take (k+1)) n = false) := by
          have := hall.out
          unfold hasI at this
          rw [Hid, hasI, take_any _ hlt, this]; simpa using hb2
        clear hb2
        go_wp2
        go_round
        case rel => exact ⟨k+1, by omega, by go_num, HN.out⟩
        case measure => simp [intOf]; omega
      · have hb2 : (nth xs k == n) = true := by rw [beq_iff_eq] at hb ⊢; exact hb.symm
        have HN : Hid (hasI xs n = true) := by rw [Hid, hasI]; exact any_true _ hlt hb2
        clear hb2
        go_wp2
        go_ret
        exact ⟨⟨k, by rw [HN.out]; simp, rfl⟩, rfl⟩
    · have h1 := hall.out
      rw [List.take_of_length_le (by omega)] at h1
      have H1 := Lib.hid h1
      clear h1
      go_wp2
      go_ret
      exact ⟨⟨-1, by rw [H1.out]; rfl, rfl⟩, rfl⟩
theorem ContainsI_c {w : World} {v : Value} {xs : List Int} (n : Int) (h : IntS w v xs) :
    Calls Tryz.prog 128 #[v, .int .i64 n] w fun e w' => e = .returned (.bool (hasI xs n)) ∧ w = w' := by
  obtain ⟨p, cap, rfl, _, _⟩ := h.form
  go_enter Tryz.func128, Tryz.ntmps128
  go_wp2_with fail
  (with_reducible refine (IndexI_c n h).mono ?_); rintro e w1 ⟨⟨r, hr, rfl⟩, rfl⟩
  have HR := Lib.hid hr
  clear hr
  go_wp2
  go_ret
  exact ⟨ret_bool HR.out, rfl⟩
set_option maxHeartbeats 1000000 in
theorem areMethods_c {w : World} {v : Value} {xs : List Int} (h : IntS w v xs) :
    Calls Tryz.prog 93 #[v] w fun e w' => e = .returned (.bool (methOk xs)) ∧ w = w' := by
  obtain ⟨p, cap, rfl, _, _⟩ := h.form
  go_enter Tryz.func93, Tryz.ntmps93
  go_wp2_with fail
  go_loop [7] (fun i => ∃ k : Nat, k ≤ xs.length ∧ i = .int .i64 k ∧ Hid (∀ j, j < k → methAt xs j = true)) (fun i => xs.length - (intOf i).toNat)
  case atStart => exact ⟨0, Nat.zero_le _, rfl, fun j hj => by omega⟩
  case round =>
    obtain ⟨k, hk, rfl, hall⟩ := hrel
    by_cases hlt : k < xs.length
    · obtain ⟨a, hix, hca⟩ := h.ix hlt
      obtain ⟨v1, hsl, hr1⟩ := h.pre hk
      have HM : Hid (methAt xs k = (inB 0 254 (nth xs k) && !hasI (xs.take k) (nth xs k))) := rfl
      have HNO := Lib.hid (fun h0 => methOk_no hlt h0)
      generalize nth xs k = y at *
      generalize xs.take k = zs at *
      cases hb : inB 0 254 y
      · have HF : Hid (methOk xs = false) := Lib.hid (HNO.out (by rw [HM.out, hb]; rfl))
        have HB := Lib.hid hb
        clear hb
        go_wp2_with fail
        (with_reducible refine (within_c _ _ _ _).mono ?_); rintro e w1 ⟨rfl, rfl⟩
        rw [HB.out]
        go_wp2
        go_ret
        exact ⟨ret_bool HF.out.symm, rfl⟩
      · have HB := Lib.hid hb
        cases hh : hasI zs y
        · have HN : Hid (methAt xs k = true) := by rw [Hid, HM.out, hb, hh]; rfl
          have HH := Lib.hid hh
          clear hb hh
          go_wp2_with fail
          (with_reducible refine (within_c _ _ _ _).mono ?_); rintro e w1 ⟨rfl, rfl⟩
          rw [HB.out]
          go_wp2_with fail
          (with_reducible refine (ContainsI_c y hr1).mono ?_); rintro e w1 ⟨rfl, rfl⟩
          rw [HH.out]
          go_wp2
          go_round
          case rel =>
            refine ⟨k+1, by omega, by go_num, fun j hj => ?_⟩
            by_cases e : j = k
            · rw [e]; exact HN.out
            · exact hall.out j (by omega)
          case measure => simp [intOf]; omega
        · have HF : Hid (methOk xs = false) := Lib.hid (HNO.out (by rw [HM.out, hb, hh]; rfl))
          have HH := Lib.hid hh
          clear hb hh
          go_wp2_with fail
          (with_reducible refine (within_c _ _ _ _).mono ?_); rintro e w1 ⟨rfl, rfl⟩
          rw [HB.out]
          go_wp2_with fail
          (with_reducible refine (ContainsI_c y hr1).mono ?_); rintro e w1 ⟨rfl, rfl⟩
          rw [HH.out]
          go_wp2
          go_ret
          exact ⟨ret_bool HF.out.symm, rfl⟩
    · have HF := Lib.hid (methOk_all (fun j hj => hall.out j (by omega)))
      go_wp2_with fail
      (with_reducible refine (within_c _ _ _ _).mono ?_); rintro e w1 ⟨rfl, rfl⟩
      go_wp2
      go_ret
      exact ⟨ret_bool HF.out.symm, rfl⟩
end Go.Proofs.YtdbepkcpdglppaaGreatDoor
