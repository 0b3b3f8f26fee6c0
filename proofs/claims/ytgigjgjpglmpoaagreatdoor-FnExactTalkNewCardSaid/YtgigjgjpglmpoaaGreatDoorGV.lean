/- Logins and talks: plain laws.
Logins: both checks.
Slices of logins; the checks over them.
Methods and settings of talks: the checks. -/
import Derived.Test.YtgigjgjpglmpoaaGreatDoorGN
import Derived.Test.YtgigjgjpglmpoaaGreatDoorGE
import Derived.Test.YtgigjgjpglmpoaaGreatDoorNameI
import Derived.Test.YtgigjgjpglmpoaaGreatDoorGB
import Derived.Test.YtgigjgjpglmpoaaGreatDoorGD
namespace Go.Proofs.YtgigjgjpglmpoaaGreatDoor
open Go.RowKit
/-- A login: a user and a word. -/
abbrev Lg := Tx × Tx
def lgOk (l : Lg) : Bool := userOk l.1 && (userOk l.2 && (!l.1.isEmpty && !l.2.isEmpty))
def m02 (x : Int) : Bool := x == 0 || x == 2
/-- What a talk is made of. -/
def setOk (ws : List Int) (ls : List Lg) : Bool := ws.all m02 && (ls.all lgOk && (methOk ws && decide (ls.length ≤ 4)))
/-- A talk. -/
structure Tlk where
  st : Int
  wanted : List Int
  logins : List Lg
  dst : Tx
def talkOk (t : Tlk) : Bool := setOk t.wanted t.logins && (inB 0 4 t.st && ((!decide (t.st = 1) || hasI t.wanted 2) && (if t.st = 3 then (addrFrom t.dst).isSome else t.dst.isEmpty)))
theorem addrFrom_nil : addrFrom [] = none := rfl
/-- The reference's last test. -/
theorem talk_last (s3 : Bool) (d : Tx) : ((s3 == (addrFrom d).isSome) && ((addrFrom d).isSome || d.isEmpty)) = (if s3 = true then (addrFrom d).isSome else d.isEmpty) := by
  cases s3
  · cases h : addrFrom d with
    | none => simp
    | some a =>
      have hd : d.isEmpty = false := by
        cases d with
        | nil => rw [addrFrom_nil] at h; cases h
        | cons x y => rfl
      simp [hd]
  · cases h : addrFrom d <;> simp
theorem talkOk_new (ws : List Int) (ls : List Lg) : talkOk ⟨0, ws, ls, []⟩ = setOk ws ls := by
  unfold talkOk
  have h : inB 0 4 0 = true := rfl
  simp [h]
/-- The program's test of a talk's parts. -/
theorem setOk_prog (ws : List Int) (ls : List Lg) : (methOk ws && (decide (ls.length ≤ 4) && (!(ws.any fun x => !m02 x) && !(ls.any fun l => !lgOk l)))) = setOk ws ls := by
  unfold setOk
  have h1 : (!(ws.any fun x => !m02 x)) = ws.all m02 := by rw [Bool.eq_iff_iff]; simp
  have h2 : (!(ls.any fun l => !lgOk l)) = ls.all lgOk := by rw [Bool.eq_iff_iff]; simp
  rw [h1, h2]
  cases ws.all m02 <;> cases ls.all lgOk <;> cases methOk ws <;> cases decide (ls.length ≤ 4) <;> rfl
end Go.Proofs.YtgigjgjpglmpoaaGreatDoor
namespace Go.Proofs.YtgigjgjpglmpoaaGreatDoor
open Go.RowKit
theorem inCons_nil (c : UInt8) : inCons [] c = isUsr (c.toNat : Int) := by
  unfold inCons isUsr
  rw [idxByte_nil]
  simp
theorem implUserValid_c (w : World) (s : ByteArray) (hs : s.size ≤ 2000000) :
    Calls Tryz.prog 43 #[.string s] w fun e w' => e = .returned (.bool (userOk (tx s))) ∧ w = w' := by
  by_cases h8 : s.size ≤ 8
  · have d8 : decide ((s.size : Int) ≤ 8) = true := by simp; omega
    have C := consists_c w s ⟨#[]⟩ hs
    have HU : Hid ((tx s).all (inCons (tx ⟨#[]⟩)) = userOk (tx s)) := by
      rw [Hid, userOk, tx_len]
      have : inCons (tx ⟨#[]⟩) = fun c => isUsr (c.toNat : Int) := by funext c; exact inCons_nil c
      rw [this]; simp [h8]
    have HC := Lib.hid C
    clear C
    go_enter Tryz.func43, Tryz.ntmps43
    go_wp2_with fail
    (with_reducible refine (HC.out).mono ?_); rintro e w1 ⟨rfl, rfl⟩
    go_wp2
    go_ret
    exact ⟨ret_bool HU.out, rfl⟩
  · have d8 : decide ((s.size : Int) ≤ 8) = false := by simp; omega
    have HU : Hid (userOk (tx s) = false) := by rw [Hid, userOk, tx_len]; simp [h8]
    go_enter Tryz.func43, Tryz.ntmps43
    go_wp2
    go_ret
    exact ⟨ret_bool HU.out.symm, rfl⟩
set_option maxHeartbeats 1000000 in
theorem isLogin_c (w : World) (u v : ByteArray) (hu : u.size ≤ 2000000) (hv : v.size ≤ 2000000) :
    Calls Tryz.prog 35 #[.agg #[.string u, .string v]] w fun e w' => e = .returned (.bool (lgOk (tx u, tx v))) ∧ Gr w w' := by
  have hg := gr_alloc w (.cells #[.string u, .string v] 43)
  have HL : Hid (lgOk (tx u, tx v) = (userOk (tx u) && (userOk (tx v) && (!(tx u).isEmpty && !(tx v).isEmpty)))) := rfl
  have e1 := emp_tx u
  have e2 := emp_tx v
  generalize hx : lgOk (tx u, tx v) = r at *
  clear hx
  cases h1 : (tx u).isEmpty
  · cases h2 : (tx v).isEmpty
    · rw [h1] at e1
      rw [h2] at e2
      rw [h1, h2] at HL
      clear h1 h2
      cases h3 : userOk (tx u)
      · rw [h3] at HL
        have H3 := Lib.hid h3
        clear h3
        go_enter Tryz.func35, Tryz.ntmps35
        go_wp2_with fail
        (with_reducible refine (implUserValid_c _ u hu).mono ?_); rintro e w1 ⟨rfl, rfl⟩
        rw [H3.out]
        go_wp2
        go_ret
        exact ⟨ret_bool (by rw [HL.out]; rfl), hg⟩
      · rw [h3] at HL
        have H3 := Lib.hid h3
        clear h3
        go_enter Tryz.func35, Tryz.ntmps35
        go_wp2_with fail
        (with_reducible refine (implUserValid_c _ u hu).mono ?_); rintro e w1 ⟨rfl, rfl⟩
        rw [H3.out]
        go_wp2_with fail
        (with_reducible refine (implUserValid_c _ v hv).mono ?_); rintro e w1 ⟨rfl, rfl⟩
        go_wp2
        go_ret
        exact ⟨ret_bool (by rw [HL.out]; simp), hg⟩
    · rw [h1] at e1
      rw [h2] at e2
      rw [h1, h2] at HL
      clear h1 h2
      go_enter Tryz.func35, Tryz.ntmps35
      go_wp2
      go_ret
      exact ⟨ret_bool (by rw [HL.out]; simp), hg⟩
  · rw [h1] at e1
    rw [h1] at HL
    clear h1 e2
    go_enter Tryz.func35, Tryz.ntmps35
    go_wp2
    go_ret
    exact ⟨ret_bool (by rw [HL.out]; simp), hg⟩
set_option maxHeartbeats 1000000 in
theorem l11Ok_c (w : World) (u v : ByteArray) (hu : u.size ≤ 2000000) (hv : v.size ≤ 2000000) :
    Calls Tryz.prog 25 #[.agg #[.string u, .string v]] w fun e w' => e = .returned (.bool (lgOk (tx u, tx v))) ∧ Gr w w' := by
  have hg := gr_alloc w (.cells #[.string u, .string v] 43)
  have HL : Hid (lgOk (tx u, tx v) = (userOk (tx u) && (userOk (tx v) && (decide (0 < u.size) && decide (0 < v.size))))) := by
    rw [Hid, lgOk]
    have k : ∀ s : ByteArray, (!(tx s).isEmpty) = decide (0 < s.size) := by
      intro s
      rw [← tx_len]
      cases tx s <;> simp
    simp only [k]
  generalize hx : lgOk (tx u, tx v) = r at *
  clear hx
  cases h3 : userOk (tx u)
  · rw [h3] at HL
    have H3 := Lib.hid h3
    clear h3
    go_enter Tryz.func25, Tryz.ntmps25
    go_wp2_with fail
    (with_reducible refine (UserValid_c _ u hu).mono ?_); rintro e w1 ⟨rfl, rfl⟩
    rw [H3.out]
    go_wp2
    go_ret
    exact ⟨ret_bool (by rw [HL.out]; rfl), hg⟩
  · cases h4 : userOk (tx v)
    · rw [h3, h4] at HL
      have H3 := Lib.hid h3
      have H4 := Lib.hid h4
      clear h3 h4
      go_enter Tryz.func25, Tryz.ntmps25
      go_wp2_with fail
      (with_reducible refine (UserValid_c _ u hu).mono ?_); rintro e w1 ⟨rfl, rfl⟩
      rw [H3.out]
      go_wp2_with fail
      (with_reducible refine (UserValid_c _ v hv).mono ?_); rintro e w1 ⟨rfl, rfl⟩
      rw [H4.out]
      go_wp2
      go_ret
      exact ⟨ret_bool (by rw [HL.out]; rfl), hg⟩
    · rw [h3, h4] at HL
      have H3 := Lib.hid h3
      have H4 := Lib.hid h4
      clear h3 h4
      by_cases hz : 0 < u.size
      · have dz : decide ((0 : Int) < (u.size : Int)) = true := decide_eq_true (by omega)
        go_enter Tryz.func25, Tryz.ntmps25
        go_wp2_with fail
        (with_reducible refine (UserValid_c _ u hu).mono ?_); rintro e w1 ⟨rfl, rfl⟩
        rw [H3.out]
        go_wp2_with fail
        (with_reducible refine (UserValid_c _ v hv).mono ?_); rintro e w1 ⟨rfl, rfl⟩
        rw [H4.out]
        go_wp2
        go_ret
        exact ⟨ret_bool (by rw [HL.out]; simp [hz]), hg⟩
      · have dz : decide ((0 : Int) < (u.size : Int)) = false := decide_eq_false (by omega)
        go_enter Tryz.func25, Tryz.ntmps25
        go_wp2_with fail
        (with_reducible refine (UserValid_c _ u hu).mono ?_); rintro e w1 ⟨rfl, rfl⟩
        rw [H3.out]
        go_wp2_with fail
        (with_reducible refine (UserValid_c _ v hv).mono ?_); rintro e w1 ⟨rfl, rfl⟩
        rw [H4.out]
        go_wp2
        go_ret
        exact ⟨ret_bool (by rw [HL.out]; simp [hz]), hg⟩
end Go.Proofs.YtgigjgjpglmpoaaGreatDoor
namespace Go.Proofs.YtgigjgjpglmpoaaGreatDoor
open Go.RowKit
def nthLg (ls : List Lg) (k : Nat) : Lg := ls.getD k ([], [])
theorem nthLg_eq {ls : List Lg} {k : Nat} (h : k < ls.length) : nthLg ls k = ls[k] := by simp [nthLg, h]
/-- The cells of logins. -/
def lgs (ls : List Lg) : List Value := (ls.map fun l => [Value.string (S l.1), Value.string (S l.2)]).flatten
/-- A slice of logins. -/
def LgS (w : World) (v : Value) (ls : List Lg) : Prop := Row w 2 v ls.length (lgs ls)
theorem LgS.kept {w w' : World} {v : Value} {ls : List Lg} (h : LgS w v ls) (hg : Gr w w') : LgS w' v ls := Row.kept h hg
theorem LgS.form {w : World} {v : Value} {ls : List Lg} (h : LgS w v ls) : ∃ p cap, v = .slice p ls.length cap ∧ ls.length ≤ cap ∧ cap ≤ 9223372036854775807 := by
  obtain ⟨_, p, cap, h1, h2, h3, _⟩ := h
  exact ⟨p, cap, h1, h2, h3⟩
theorem uLg : Tryz.prog.underlying 25 = some (.slice 43) := by kernel_rfl
theorem infoLg : ∃ i, Tryz.prog.info? 43 = some i ∧ i.zero = some (.agg #[.string ByteArray.empty, .string ByteArray.empty]) ∧ i.size = 2 ∧ i.bytes = 32 := info_parts (by kernel_rfl)
/-- The place of a login: its two cells. -/
theorem LgS.ix {w : World} {p : Option Addr} {cap : Nat} {ls : List Lg} (h : LgS w (.slice p ls.length cap) ls) {k : Nat} (hk : k < ls.length) :
    ∃ a : Addr, (∀ w1, (Instr.indexAt 25 (.slice p ls.length cap) (.int .i64 (k : Int))).run Tryz.prog w1 = .ok (.pointer (some a)) w1) ∧
      w.cell? a = some (.string (S (nthLg ls k).1)) ∧ w.cell? ⟨a.block, a.off + 1, none⟩ = some (.string (S (nthLg ls k).2)) := by
  obtain ⟨i, g1, _, g3, _⟩ := infoLg
  obtain ⟨a, f1, f2⟩ := Row.at h uLg g1 g3 hk
  have hc : (ls.map fun l => [Value.string (S l.1), Value.string (S l.2)])[k]? = some [Value.string (S (nthLg ls k).1), Value.string (S (nthLg ls k).2)] := by
    rw [List.getElem?_map, List.getElem?_eq_getElem hk, nthLg_eq hk]; rfl
  have hl : ∀ c ∈ (ls.map fun l => [Value.string (S l.1), Value.string (S l.2)]), c.length = 2 := by
    intro c hc
    obtain ⟨l, _, rfl⟩ := List.mem_map.1 hc
    rfl
  refine ⟨a, f1, ?_, ?_⟩
  · have := f2 0 _ (by unfold lgs; rw [flat_get hl hc 0 (by decide)]; rfl)
    rwa [addr_add_zero] at this
  · exact f2 1 _ (by unfold lgs; rw [flat_get hl hc 1 (by decide)]; rfl)
/-- No part is long. -/
def LgSm (ls : List Lg) : Prop := ∀ k, k < ls.length → (nthLg ls k).1.length ≤ 2000000 ∧ (nthLg ls k).2.length ≤ 2000000
theorem takeL_any (p : Lg → Bool) {ls : List Lg} {k : Nat} (h : k < ls.length) : (ls.take (k+1)).any p = ((ls.take k).any p || p (nthLg ls k)) := by
  rw [List.take_succ_eq_append_getElem h, nthLg_eq h, List.any_append]; simp
theorem anyL_true (p : Lg → Bool) {ls : List Lg} {k : Nat} (h : k < ls.length) (hp : p (nthLg ls k) = true) : ls.any p = true := by
  rw [List.any_eq_true]; exact ⟨ls[k], List.getElem_mem h, by rw [nthLg_eq h] at hp; exact hp⟩
theorem takeL_all (p : Lg → Bool) {ls : List Lg} {k : Nat} (h : k < ls.length) : (ls.take (k+1)).all p = ((ls.take k).all p && p (nthLg ls k)) := by
  rw [List.take_succ_eq_append_getElem h, nthLg_eq h, List.all_append]; simp
theorem allL_false (p : Lg → Bool) {ls : List Lg} {k : Nat} (h : k < ls.length) (hp : p (nthLg ls k) = false) : ls.all p = false := by
  rw [List.all_eq_false]; exact ⟨ls[k], List.getElem_mem h, by rw [nthLg_eq h] at hp; simp [hp]⟩
/-- A function value without captures that tells something of a login. -/
def TellsL (g : Nat) (p : Lg → Bool) : Prop := (∀ args w, (callFunc g args).run Tryz.prog w = .ok (.enter g args) w) ∧
  ∀ (a b : Tx) (w : World), a.length ≤ 2000000 → b.length ≤ 2000000 → Calls Tryz.prog g #[.agg #[.string (S a), .string (S b)]] w fun e w' => e = .returned (.bool (p (a, b))) ∧ Gr w w'
theorem notLogin_c : TellsL 34 (fun l => !lgOk l) := by
  refine ⟨fun args w => by kernel_rfl, fun a b w ha hb => ?_⟩
  have hg := gr_alloc w (.cells #[.string (S a), .string (S b)] 43)
  have C := isLogin_c (w.alloc (.cells #[.string (S a), .string (S b)] 43)) (S a) (S b) (by rw [S_len]; exact ha) (by rw [S_len]; exact hb)
  rw [tx_S, tx_S] at C
  have HC := Lib.hid C
  clear C
  go_enter Tryz.func34, Tryz.ntmps34
  go_wp2_with fail
  (with_reducible refine (HC.out).mono ?_); rintro e w1 ⟨rfl, g1⟩
  go_wp2
  go_ret
  exact ⟨rfl, hg.trans g1⟩
set_option maxHeartbeats 1000000 in
theorem IndexFuncL_c {w : World} {v : Value} {ls : List Lg} (h : LgS w v ls) (hs : LgSm ls) (g : Nat) (p : Lg → Bool) (hg : TellsL g p) :
    Calls Tryz.prog 42 #[v, .func (.func g) #[] #[]] w fun e w' => (∃ r : Int, decide (0 ≤ r) = ls.any p ∧ e = .returned (.int .i64 r)) ∧ Gr w w' := by
  obtain ⟨q, cap, rfl, hl1, hl2⟩ := h.form
  obtain ⟨hcf, hg⟩ := hg
  have HG := Lib.hid hg; clear hg
  have HS := Lib.hid hs; clear hs
  go_enter Tryz.func42, Tryz.ntmps42
  go_wp2_with fail
  go_loopw [8] (fun i wr => ∃ k : Nat, k ≤ ls.length ∧ i = .int .i64 k ∧ Hid ((ls.take k).any p = false) ∧ Gr w wr) (fun i _ => ls.length - (intOf i).toNat)
  case atStart => exact ⟨0, Nat.zero_le _, rfl, by simp [Hid], Gr.refl _⟩
  case round =>
    obtain ⟨k, hk, rfl, hall, hgr⟩ := hrel
    by_cases hlt : k < ls.length
    · obtain ⟨a, hix, hca, hcb⟩ := (h.kept hgr).ix hlt
      obtain ⟨z1, z2⟩ := HS.out k hlt
      cases hb : p (nthLg ls k)
      · have HB := Lib.hid hb; clear hb
        go_wp2_with fail
        refine (HG.out _ _ _ z1 z2).mono ?_
        rintro e w1 ⟨rfl, g1⟩
        have hb' : p ((nthLg ls k).1, (nthLg ls k).2) = false := HB.out
        go_wp2
        go_roundw
        case rel => exact ⟨k+1, by omega, by go_num, by rw [Hid, takeL_any p hlt, hall.out, HB.out]; rfl, hgr.trans g1⟩
        case measure => simp [intOf]; omega
      · have HB := Lib.hid hb; clear hb
        go_wp2_with fail
        refine (HG.out _ _ _ z1 z2).mono ?_
        rintro e w1 ⟨rfl, g1⟩
        have hb' : p ((nthLg ls k).1, (nthLg ls k).2) = true := HB.out
        go_wp2
        go_ret
        exact ⟨⟨k, by rw [anyL_true p hlt HB.out]; simp, rfl⟩, hgr.trans g1⟩
    · go_wp2
      go_ret
      exact ⟨⟨-1, by have := hall.out; rw [List.take_of_length_le (by omega)] at this; rw [this]; rfl, rfl⟩, hgr⟩
theorem ContainsFuncL_c {w : World} {v : Value} {ls : List Lg} (h : LgS w v ls) (hs : LgSm ls) (g : Nat) (p : Lg → Bool) (hg : TellsL g p) :
    Calls Tryz.prog 33 #[v, .func (.func g) #[] #[]] w fun e w' => e = .returned (.bool (ls.any p)) ∧ Gr w w' := by
  go_enter Tryz.func33, Tryz.ntmps33
  go_wp2_with fail
  refine (IndexFuncL_c h hs g p hg).mono ?_
  rintro e w' ⟨⟨r, hr, rfl⟩, g1⟩
  have HR := Lib.hid hr; clear hr
  go_wp2
  go_ret
  exact ⟨ret_bool HR.out, g1⟩
end Go.Proofs.YtgigjgjpglmpoaaGreatDoor
namespace Go.Proofs.YtgigjgjpglmpoaaGreatDoor
open Go.RowKit
theorem IndexI_c {w : World} {v : Value} {xs : List Int} (n : Int) (h : IntS w v xs) :
    Calls Tryz.prog 44 #[v, .int .i64 n] w fun e w' => (∃ r : Int, decide (0 ≤ r) = hasI xs n ∧ e = .returned (.int .i64 r)) ∧ w = w' := by
  obtain ⟨p, cap, rfl, _, _⟩ := h.form
  go_enter Tryz.func44, Tryz.ntmps44
  go_wp2_with fail
  go_loop [8] (fun i => ∃ k : Nat, k ≤ xs.length ∧ i = .int .i64 k ∧ Hid (hasI (xs.take k) n = false)) (fun i => xs.length - (intOf i).toNat)
  case atStart => exact ⟨0, Nat.zero_le _, rfl, by simp [Hid, hasI]⟩
  case round =>
    obtain ⟨k, hk, rfl, hall⟩ := hrel
    by_cases hlt : k < xs.length
    · obtain ⟨a, hix, hca⟩ := h.ix hlt
      cases hb : (n == nth xs k)
      · have hb2 : (nth xs k == n) = false := by rw [beq_eq_false_iff_ne] at hb ⊢; exact fun e => hb e.symm
        have HN : Hid (hasI (xs.take (k+1)) n = false) := by
          have := hall.out
          unfold hasI at this
          rw [Hid, hasI, take_any _ hlt, this]; simpa using hb2
        clear hb2
        go_wp2
        go_round
        case rel => exact ⟨k+1, by omega, by go_num, HN.out⟩
        case measure => simp [intOf]; omega
      · have hb2 : (nth xs k == n) = true := by rw [beq_iff_eq] at hb ⊢; exact hb.symm
        have HN : Hid (hasI xs n = true) := by rw [Hid, hasI]; exact any_true _ hlt hb2
        clear hb2
        go_wp2
        go_ret
        exact ⟨⟨k, by rw [HN.out]; simp, rfl⟩, rfl⟩
    · have h1 := hall.out
      rw [List.take_of_length_le (by omega)] at h1
      have H1 := Lib.hid h1
      clear h1
      go_wp2
      go_ret
      exact ⟨⟨-1, by rw [H1.out]; rfl, rfl⟩, rfl⟩
theorem ContainsI_c {w : World} {v : Value} {xs : List Int} (n : Int) (h : IntS w v xs) :
    Calls Tryz.prog 36 #[v, .int .i64 n] w fun e w' => e = .returned (.bool (hasI xs n)) ∧ w = w' := by
  obtain ⟨p, cap, rfl, _, _⟩ := h.form
  go_enter Tryz.func36, Tryz.ntmps36
  go_wp2_with fail
  (with_reducible refine (IndexI_c n h).mono ?_); rintro e w1 ⟨⟨r, hr, rfl⟩, rfl⟩
  have HR := Lib.hid hr
  clear hr
  go_wp2
  go_ret
  exact ⟨ret_bool HR.out, rfl⟩
theorem notM02_c : Tells 32 (fun x => !m02 x) := by
  refine ⟨fun args w => by kernel_rfl, fun x w => ?_⟩
  have HM : Hid (m02 x = (x == 0 || x == 2)) := rfl
  cases h0 : (x == 0)
  · rw [h0] at HM
    have e0 : (x != 0) = true := by rw [bne, h0]; rfl
    clear h0
    go_enter Tryz.func32, Tryz.ntmps32
    go_wp2
    go_ret
    exact ⟨ret_bool (by rw [HM.out]; rfl), rfl⟩
  · rw [h0] at HM
    have e0 : (x != 0) = false := by rw [bne, h0]; rfl
    clear h0
    go_enter Tryz.func32, Tryz.ntmps32
    go_wp2
    go_ret
    exact ⟨ret_bool (by rw [HM.out]; rfl), rfl⟩
set_option maxHeartbeats 1000000 in
theorem areMethods_c {w : World} {v : Value} {xs : List Int} (h : IntS w v xs) :
    Calls Tryz.prog 30 #[v] w fun e w' => e = .returned (.bool (methOk xs)) ∧ w = w' := by
  obtain ⟨p, cap, rfl, _, _⟩ := h.form
  go_enter Tryz.func30, Tryz.ntmps30
  go_wp2_with fail
  go_loop [7] (fun i => ∃ k : Nat, k ≤ xs.length ∧ i = .int .i64 k ∧ Hid (∀ j, j < k → methAt xs j = true)) (fun i => xs.length - (intOf i).toNat)
  case atStart => exact ⟨0, Nat.zero_le _, rfl, fun j hj => by omega⟩
  case round =>
    obtain ⟨k, hk, rfl, hall⟩ := hrel
    by_cases hlt : k < xs.length
    · obtain ⟨a, hix, hca⟩ := h.ix hlt
      obtain ⟨v1, hsl, hr1⟩ := h.pre hk
      have HM : Hid (methAt xs k = (inB 0 254 (nth xs k) && !hasI (xs.take k) (nth xs k))) := rfl
      have HNO := Lib.hid (fun h0 => methOk_no hlt h0)
      generalize nth xs k = y at *
      generalize xs.take k = zs at *
      cases hb : inB 0 254 y
      · have HF : Hid (methOk xs = false) := Lib.hid (HNO.out (by rw [HM.out, hb]; rfl))
        have HB := Lib.hid hb
        clear hb
        go_wp2_with fail
        (with_reducible refine (within_c _ _ _ _).mono ?_); rintro e w1 ⟨rfl, rfl⟩
        rw [HB.out]
        go_wp2
        go_ret
        exact ⟨ret_bool HF.out.symm, rfl⟩
      · have HB := Lib.hid hb
        cases hh : hasI zs y
        · have HN : Hid (methAt xs k = true) := by rw [Hid, HM.out, hb, hh]; rfl
          have HH := Lib.hid hh
          clear hb hh
          go_wp2_with fail
          (with_reducible refine (within_c _ _ _ _).mono ?_); rintro e w1 ⟨rfl, rfl⟩
          rw [HB.out]
          go_wp2_with fail
          (with_reducible refine (ContainsI_c y hr1).mono ?_); rintro e w1 ⟨rfl, rfl⟩
          rw [HH.out]
          go_wp2
          go_round
          case rel =>
            refine ⟨k+1, by omega, by go_num, fun j hj => ?_⟩
            by_cases e : j = k
            · rw [e]; exact HN.out
            · exact hall.out j (by omega)
          case measure => simp [intOf]; omega
        · have HF : Hid (methOk xs = false) := Lib.hid (HNO.out (by rw [HM.out, hb, hh]; rfl))
          have HH := Lib.hid hh
          clear hb hh
          go_wp2_with fail
          (with_reducible refine (within_c _ _ _ _).mono ?_); rintro e w1 ⟨rfl, rfl⟩
          rw [HB.out]
          go_wp2_with fail
          (with_reducible refine (ContainsI_c y hr1).mono ?_); rintro e w1 ⟨rfl, rfl⟩
          rw [HH.out]
          go_wp2
          go_ret
          exact ⟨ret_bool HF.out.symm, rfl⟩
    · have HF := Lib.hid (methOk_all (fun j hj => hall.out j (by omega)))
      go_wp2_with fail
      (with_reducible refine (within_c _ _ _ _).mono ?_); rintro e w1 ⟨rfl, rfl⟩
      go_wp2
      go_ret
      exact ⟨ret_bool HF.out.symm, rfl⟩
set_option maxHeartbeats 2000000 in
theorem l23Ok_c {w : World} {v u : Value} {ws : List Int} {ls : List Lg} (h : IntS w v ws) (hl : LgS w u ls) (hs : LgSm ls) :
    Calls Tryz.prog 17 #[v, u] w fun e w' => e = .returned (.bool (setOk ws ls)) ∧ Gr w w' := by
  obtain ⟨p, cap, rfl, _, _⟩ := h.form
  obtain ⟨q, caq, rfl, _, _⟩ := hl.form
  have HD : Hid (setOk ws ls = (ws.all m02 && (ls.all lgOk && (methOk ws && decide (ls.length ≤ 4))))) := rfl
  generalize setOk ws ls = r at *
  go_enter Tryz.func17, Tryz.ntmps17
  go_wp2_with fail
  go_loop [5] (fun i => ∃ k : Nat, k ≤ ws.length ∧ i = .int .i64 k ∧ Hid ((ws.take k).all m02 = true)) (fun i => ws.length - (intOf i).toNat)
  case atStart => exact ⟨0, Nat.zero_le _, rfl, by simp [Hid]⟩
  case round =>
    obtain ⟨k, hk, rfl, hall⟩ := hrel
    by_cases hlt : k < ws.length
    · obtain ⟨a, hix, hca⟩ := h.ix hlt
      have HM : Hid (m02 (nth ws k) = (nth ws k == 0 || nth ws k == 2)) := rfl
      have HT : Hid ((ws.take (k+1)).all m02 = ((ws.take k).all m02 && m02 (nth ws k))) := take_all _ hlt
      have HA := Lib.hid (fun h0 => all_false m02 hlt h0)
      generalize nth ws k = y at *
      cases h0 : (y == 0)
      · cases h2 : (y == 2)
        · have HF : Hid (r = false) := by
            rw [Hid, HD.out, HA.out (by rw [HM.out, h0, h2]; rfl)]; rfl
          have e0 : (y != 0) = true := by rw [bne, h0]; rfl
          have e2 : (y != 2) = true := by rw [bne, h2]; rfl
          clear h0 h2
          go_wp2
          go_ret
          exact ⟨ret_bool HF.out.symm, Gr.refl _⟩
        · have HN : Hid ((ws.take (k+1)).all m02 = true) := by rw [Hid, HT.out, hall.out, HM.out, h0, h2]; rfl
          have e0 : (y != 0) = true := by rw [bne, h0]; rfl
          have e2 : (y != 2) = false := by rw [bne, h2]; rfl
          clear h0 h2
          go_wp2
          go_round
          case rel => exact ⟨k+1, by omega, by go_num, HN.out⟩
          case measure => simp [intOf]; omega
      · have HN : Hid ((ws.take (k+1)).all m02 = true) := by rw [Hid, HT.out, hall.out, HM.out, h0]; rfl
        have e0 : (y != 0) = false := by rw [bne, h0]; rfl
        clear h0
        go_wp2
        go_round
        case rel => exact ⟨k+1, by omega, by go_num, HN.out⟩
        case measure => simp [intOf]; omega
    · have HW : Hid (ws.all m02 = true) := by
        have := hall.out
        rw [List.take_of_length_le (by omega)] at this
        exact this
      clear hall
      go_wp2_with fail
      go_loopw [6] (fun i wr => ∃ k : Nat, k ≤ ls.length ∧ i = .int .i64 k ∧ Hid ((ls.take k).all lgOk = true) ∧ Gr w wr) (fun i _ => ls.length - (intOf i).toNat)
      case atStart => exact ⟨0, Nat.zero_le _, rfl, by simp [Hid], Gr.refl _⟩
      case round =>
        obtain ⟨m, hm, rfl, hal, hgr⟩ := hrel
        by_cases hmt : m < ls.length
        · obtain ⟨a, hix, hca, hcb⟩ := (hl.kept hgr).ix hmt
          obtain ⟨z1, z2⟩ := hs m hmt
          have C := l11Ok_c wr (S (nthLg ls m).1) (S (nthLg ls m).2) (by rw [S_len]; exact z1) (by rw [S_len]; exact z2)
          rw [tx_S, tx_S] at C
          have HC := Lib.hid C
          clear C
          cases hb : lgOk (nthLg ls m)
          · have hb' : lgOk ((nthLg ls m).1, (nthLg ls m).2) = false := hb
            have HF : Hid (r = false) := by rw [Hid, HD.out, HW.out, allL_false lgOk hmt hb]; rfl
            rw [hb'] at HC
            clear hb hb'
            go_wp2_with fail
            (with_reducible refine (HC.out).mono ?_); rintro e w1 ⟨rfl, g1⟩
            go_wp2
            go_ret
            exact ⟨ret_bool HF.out.symm, hgr.trans g1⟩
          · have hb' : lgOk ((nthLg ls m).1, (nthLg ls m).2) = true := hb
            have HN : Hid ((ls.take (m+1)).all lgOk = true) := by rw [Hid, takeL_all lgOk hmt, hal.out, hb]; rfl
            rw [hb'] at HC
            clear hb hb'
            go_wp2_with fail
            (with_reducible refine (HC.out).mono ?_); rintro e w1 ⟨rfl, g1⟩
            go_wp2
            go_roundw
            case rel => exact ⟨m+1, by omega, by go_num, HN.out, hgr.trans g1⟩
            case measure => simp [intOf]; omega
        · have HL : Hid (r = (methOk ws && decide (ls.length ≤ 4))) := by
            have := hal.out
            rw [List.take_of_length_le (by omega)] at this
            rw [Hid, HD.out, HW.out, this]; rfl
          have h' := h.kept hgr
          cases hb : methOk ws
          · have HF : Hid (r = false) := by rw [Hid, HL.out, hb]; rfl
            have HB := Lib.hid hb
            clear hb
            go_wp2_with fail
            (with_reducible refine (l5Ok_c h').mono ?_); rintro e w1 ⟨rfl, g1⟩
            rw [HB.out]
            go_wp2
            go_ret
            exact ⟨ret_bool HF.out.symm, hgr.trans g1⟩
          · have HF : Hid (r = decide (ls.length ≤ 4)) := by rw [Hid, HL.out, hb]; rfl
            have HB := Lib.hid hb
            clear hb
            go_wp2_with fail
            (with_reducible refine (l5Ok_c h').mono ?_); rintro e w1 ⟨rfl, g1⟩
            rw [HB.out]
            go_wp2
            go_ret
            exact ⟨ret_bool (by rw [HF.out, Bool.eq_iff_iff]; simp; omega), hgr.trans g1⟩
end Go.Proofs.YtgigjgjpglmpoaaGreatDoor
