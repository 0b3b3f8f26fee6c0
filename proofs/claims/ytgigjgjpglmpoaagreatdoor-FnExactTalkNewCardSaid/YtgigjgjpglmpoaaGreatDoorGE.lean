/- Names, users, quads: spec's checks.
Addresses: spec's check.
Decimals; the texts of quads.
The texts of addresses, tunnels and lines.
The lines of pairs: spec.
Requests of the fourth version: spec's check.
Methods: spec's check and bytes. -/
import Derived.Test.YtgigjgjpglmpoaaGreatDoorGD
import Derived.Deep.RegionHeld3
import Derived.Deep.RegionWith
import Derived.Laws.BytesArg
namespace Go.Proofs.YtgigjgjpglmpoaaGreatDoor
open Go.RowKit
theorem cutB_pos (c : UInt8) (l : Tx) : 1 ≤ (cutB c l).length := by
  have := cutB_ne c l
  cases h : cutB c l with
  | nil => exact absurd h this
  | cons y ys => simp
theorem allS_at {p : Tx → Bool} {xs : List Tx} (h : xs.all p = true) {k : Nat} (hk : k < xs.length) : p (nthS xs k) = true := by
  rw [nthS_eq hk]; exact List.all_eq_true.1 h _ (List.getElem_mem hk)
theorem tx_cons {s : ByteArray} (h : 0 < s.size) : tx s = s[0] :: (tx s).drop 1 := by
  have := tx_drop h
  rwa [List.drop_zero] at this
theorem pieceOk_iff {l : Tx} : pieceOk l = true ↔ 0 < l.length ∧ allLet l = true := by
  unfold pieceOk
  cases l <;> simp
/-- A letter of a user. -/
def isUsr (c : Int) : Bool := isLow c || isDig c
def userOk (l : Tx) : Bool := (l.all fun c => isUsr (c.toNat : Int)) && decide (l.length ≤ 8)
theorem isUsr_iff (c : Int) : isUsr c = (isLet c && !(c == 45)) := by
  rw [Bool.eq_iff_iff]
  simp [isUsr, isLet, isLow, isDig]
  omega
set_option maxHeartbeats 1000000 in
theorem UserValid_c (w : World) (s : ByteArray) (hs : s.size ≤ 2000000) :
    Calls Tryz.prog 38 #[.string s] w fun e w' => e = .returned (.bool (userOk (tx s))) ∧ w = w' := by
  go_enter Tryz.func38, Tryz.ntmps38
  go_wp2_with fail
  go_loop [3] (fun i => ∃ k : Nat, k ≤ s.size ∧ i = .int .i64 k ∧ Hid (((tx s).take k).all (fun c => isUsr (c.toNat : Int)) = true)) (fun i => s.size - (intOf i).toNat)
  case atStart => exact ⟨0, Nat.zero_le _, rfl, by simp [Hid]⟩
  case round =>
    obtain ⟨k, hk, rfl, hall⟩ := hrel
    by_cases hlt : k < s.size
    · have hu := isUsr_iff (s[k].toNat : Int)
      cases hb : isLet (s[k].toNat : Int)
      · have HF : Hid (userOk (tx s) = false) := by
          rw [Hid, userOk, allU_false _ hlt (by rw [hu, hb]; rfl)]; rfl
        have HB := Lib.hid hb
        clear hb hu
        go_wp2_with fail
        (with_reducible refine (l2Letter_c _ _).mono ?_); rintro e w2 ⟨rfl, rfl⟩
        rw [HB.out]
        go_wp2
        go_ret
        exact ⟨ret_bool HF.out.symm, rfl⟩
      · cases hm : ((s[k].toNat : Int) == 45)
        · have HN : Hid (((tx s).take (k+1)).all (fun c => isUsr (c.toNat : Int)) = true) := by
            rw [Hid, allU_step _ hlt, hall.out, hu, hb, hm]; rfl
          have HB := Lib.hid hb
          clear hb hu
          go_wp2_with fail
          (with_reducible refine (l2Letter_c _ _).mono ?_); rintro e w2 ⟨rfl, rfl⟩
          rw [HB.out]
          go_wp2
          go_round
          case rel => exact ⟨k+1, by omega, by go_num, HN.out⟩
          case measure => simp [intOf]; omega
        · have HF : Hid (userOk (tx s) = false) := by
            rw [Hid, userOk, allU_false _ hlt (by rw [hu, hb, hm]; rfl)]; rfl
          have HB := Lib.hid hb
          clear hb hu
          go_wp2_with fail
          (with_reducible refine (l2Letter_c _ _).mono ?_); rintro e w2 ⟨rfl, rfl⟩
          rw [HB.out]
          go_wp2
          go_ret
          exact ⟨ret_bool HF.out.symm, rfl⟩
    · have h1 := hall.out
      rw [List.take_of_length_le (by rw [tx_len]; omega)] at h1
      have HD : Hid (userOk (tx s) = decide (s.size ≤ 8)) := by rw [Hid, userOk, h1, tx_len]; rfl
      clear h1
      go_wp2
      go_ret
      exact ⟨ret_bool (by rw [HD.out, Bool.eq_iff_iff]; simp; omega), rfl⟩
/-- Four bytes. -/
def quadOk (q : List Int) : Bool := bv q && decide (q.length = 4)
end Go.Proofs.YtgigjgjpglmpoaaGreatDoor
namespace Go.Proofs.YtgigjgjpglmpoaaGreatDoor
open Go.RowKit
/-- An address. -/
structure Adr where
  kind : Int
  quad : List Int
  name : Tx
  port : Int
def adrOk (a : Adr) : Bool := inB 0 65535 a.port && (if a.kind = 1 then quadOk a.quad && a.name.isEmpty else if a.kind = 3 then nameOk a.name && a.quad.isEmpty else false)
theorem emp_tx (s : ByteArray) : s.toList.isEmpty = (tx s).isEmpty := by rw [ByteArray.toList_eq]; rfl
end Go.Proofs.YtgigjgjpglmpoaaGreatDoor
namespace Go.Proofs.YtgigjgjpglmpoaaGreatDoor
open Go.RowKit
/-- A number in decimals. -/
def dec (n : Nat) : Tx := if n < 10 then [UInt8.ofNat (48 + n)] else dec (n / 10) ++ [UInt8.ofNat (48 + n % 10)]
  termination_by n
  decreasing_by omega
theorem dec_small {n : Nat} (h : n < 10) : dec n = [UInt8.ofNat (48 + n)] := by rw [dec, if_pos h]
theorem dec_big {n : Nat} (h : ¬ n < 10) : dec n = dec (n / 10) ++ [UInt8.ofNat (48 + n % 10)] := by rw [dec, if_neg h]
theorem dec_len {n : Nat} (h : n ≤ 100000000) : (dec n).length ≤ 9 ∧ 1 ≤ (dec n).length := by
  have key : ∀ k n : Nat, n < 10 ^ (k + 1) → (dec n).length ≤ k + 1 ∧ 1 ≤ (dec n).length := by
    intro k
    induction k with
    | zero => intro n hn; rw [dec_small (by omega)]; simp
    | succ k ih =>
      intro n hn
      by_cases h10 : n < 10
      · rw [dec_small h10]; simp
      · rw [dec_big h10]
        have := ih (n / 10) (by rw [Nat.pow_succ] at hn; omega)
        simp; omega
  exact key 8 n (by omega)
theorem uStr : Tryz.prog.underlying 9 = some .string := by kernel_rfl
theorem uU8 : Tryz.prog.underlying 5 = some (.int .u8) := by kernel_rfl
theorem conv1 (w : World) (b : Nat) (x : Int) (hc : w.cell? ⟨b, 0, none⟩ = some (.int .u8 x)) : (convert 61 9 (.slice (some ⟨b, 0, none⟩) 1 1)).run Tryz.prog w = .ok (.string (S [UInt8.ofNat x.toNat])) w := by
  have := run_convert_bytes_arg (P := Tryz.prog) w 61 5 uB uU8 b 0 1 1 [x] rfl (fun i hi => by
    obtain rfl : i = 0 := by omega
    exact hc) 9 uStr
  rw [this]; rfl
theorem Gr.cellEq {a b : World} (h : Gr a b) : ∀ k o, k < a.heap.size → b.cell? ⟨k, o, none⟩ = a.cell? ⟨k, o, none⟩ := by
  intro k o hk
  simp only [World.cell?]
  rw [Below.block h k hk]
/-- The text of four bytes. -/
def quadText (q : List Int) : Tx := dec (nth q 0).toNat ++ [46] ++ dec (nth q 1).toNat ++ [46] ++ dec (nth q 2).toNat ++ [46] ++ dec (nth q 3).toNat
/-- Texts joined. -/
theorem add_eq {P : Program} (x y : ByteArray) (l : Tx) (h : tx x ++ tx y = l) (hl : l.length ≤ 1000000) : ∀ w, (Op.stringOp .add x y).run P w = .ok (.string (S l)) w := by
  intro w
  have hx := tx_len x
  have hy := tx_len y
  have hh : (tx x).length + (tx y).length = l.length := by rw [← h, List.length_append]
  rw [run_string_add (P := P) w x y (by omega) (by omega)]
  rw [show x ++ y = S l from S_eq (by rw [tx_app]; exact h)]
theorem IntS.ixN {w : World} {p : Option Addr} {cap n : Nat} {xs : List Int} (h : IntS w (.slice p n cap) xs) (hn : xs.length = n) (k : Nat) (ki : Int) (hki : ki = (k : Int)) (hk : k < n) :
    ∃ a : Addr, (∀ w1, (Instr.indexAt 22 (.slice p n cap) (.int .i64 ki)).run Tryz.prog w1 = .ok (.pointer (some a)) w1) ∧ w.cell? a = some (.int .i64 (nth xs k)) := by
  subst hn hki
  exact h.ix hk
theorem quad_bytes {xs : List Int} (h : quadOk xs = true) : xs.length = 4 ∧ ∀ k, k < 4 → 0 ≤ nth xs k ∧ nth xs k ≤ 255 := by
  simp only [quadOk, Bool.and_eq_true, decide_eq_true_eq] at h
  exact ⟨h.2, fun k hk => (by have hq := h.1; simp only [bv, Bool.and_eq_true, List.all_eq_true] at hq; rw [nth_eq (by omega)]; exact inB_iff.1 (hq.1 _ (List.getElem_mem (by omega))))⟩
end Go.Proofs.YtgigjgjpglmpoaaGreatDoor
namespace Go.Proofs.YtgigjgjpglmpoaaGreatDoor
open Go.RowKit
theorem boxN {w w1 : World} {cs : Array Value} {t : TypeId} (h : Gr (w.alloc (.cells cs t)) w1) (j : Nat) {v : Value} (hj : cs[j]? = some v) : w1.cell? ⟨w.heap.size, j, none⟩ = some v :=
  h.cell (by have e := heap_alloc_new w (.cells cs t); simp only [World.cell?, e]; exact hj)
theorem quadText_len {xs : List Int} (h : quadOk xs = true) : (quadText xs).length ≤ 39 := by
  have hb := (quad_bytes h).2
  have b0 := hb 0 (by omega)
  have b1 := hb 1 (by omega)
  have b2 := hb 2 (by omega)
  have b3 := hb 3 (by omega)
  have z0 := (dec_len (show (nth xs 0).toNat ≤ 100000000 by omega)).1
  have z1 := (dec_len (show (nth xs 1).toNat ≤ 100000000 by omega)).1
  have z2 := (dec_len (show (nth xs 2).toNat ≤ 100000000 by omega)).1
  have z3 := (dec_len (show (nth xs 3).toNat ≤ 100000000 by omega)).1
  simp [quadText]; omega
def hostText (a : Adr) : Tx := if a.kind = 1 then quadText a.quad else a.name
def addrText (a : Adr) : Tx := hostText a ++ [58] ++ dec a.port.toNat
theorem adr_port {a : Adr} (h : adrOk a = true) : 0 ≤ a.port ∧ a.port ≤ 65535 := by
  simp only [adrOk, Bool.and_eq_true] at h
  exact inB_iff.1 h.1
theorem adr_kind {a : Adr} (h : adrOk a = true) : (a.kind = 1 ∧ quadOk a.quad = true ∧ a.name = []) ∨ (a.kind = 3 ∧ nameOk a.name = true ∧ a.quad = []) := by
  simp only [adrOk, Bool.and_eq_true] at h
  have h2 := h.2
  split at h2
  · simp at h2; exact .inl ⟨by assumption, h2.1, h2.2⟩
  · split at h2
    · simp at h2; exact .inr ⟨by assumption, h2.1, h2.2⟩
    · cases h2
theorem nameOk_len {l : Tx} (h : nameOk l = true) : l.length ≤ 20 := by
  simp only [nameOk, Bool.and_eq_true, decide_eq_true_eq] at h
  exact h.2.1
theorem hostText_len {a : Adr} (h : adrOk a = true) : (hostText a).length ≤ 39 := by
  rcases adr_kind h with ⟨h1, h2, _⟩ | ⟨h1, h2, _⟩
  · rw [hostText, if_pos h1]; exact quadText_len h2
  · rw [hostText, if_neg (by omega)]; have := nameOk_len h2; omega
theorem addrText_len {a : Adr} (h : adrOk a = true) : (addrText a).length ≤ 49 := by
  have h1 := hostText_len h
  have h2 := adr_port h
  have h3 := (dec_len (show a.port.toNat ≤ 100000000 by omega)).1
  simp [addrText]; omega
def tunnelT : Tx := [67, 79, 78, 78, 69, 67, 84, 32]
def httpT : Tx := [32, 72, 84, 84, 80, 47, 49, 46, 49, 13, 10, 72, 111, 115, 116, 58, 32]
/-- What asks for a tunnel. -/
def connText (t : Tx) : Tx := tunnelT ++ t ++ httpT ++ t ++ [13, 10, 13, 10]
theorem connText_len (t : Tx) : (connText t).length = 2 * t.length + 29 := by simp [connText, tunnelT, httpT]; omega
/-- A pair of addresses. -/
structure Par where
  src : Adr
  dst : Adr
def parOk (p : Par) : Bool := adrOk p.src && (adrOk p.dst && (decide (p.src.kind = 1) && decide (p.dst.kind = 1)))
end Go.Proofs.YtgigjgjpglmpoaaGreatDoor
namespace Go.Proofs.YtgigjgjpglmpoaaGreatDoor
open Go.RowKit
def lineT : Tx := [80, 82, 79, 88, 89, 32, 84, 67, 80, 52, 32]
/-- The line of a pair. -/
def lineText (p : Par) : Tx := lineT ++ quadText p.src.quad ++ [32] ++ quadText p.dst.quad ++ [32] ++ dec p.src.port.toNat ++ [32] ++ dec p.dst.port.toNat ++ [13, 10]
theorem par_parts {p : Par} (h : parOk p = true) : adrOk p.src = true ∧ adrOk p.dst = true ∧ p.src.kind = 1 ∧ p.dst.kind = 1 ∧ quadOk p.src.quad = true ∧ quadOk p.dst.quad = true ∧ p.src.name = [] ∧ p.dst.name = [] := by
  simp only [parOk, Bool.and_eq_true, decide_eq_true_eq] at h
  obtain ⟨h1, h2, h3, h4⟩ := h
  rcases adr_kind h1 with ⟨_, q1, m1⟩ | ⟨k1, _⟩
  · rcases adr_kind h2 with ⟨_, q2, m2⟩ | ⟨k2, _⟩
    · exact ⟨h1, h2, h3, h4, q1, q2, m1, m2⟩
    · omega
  · omega
theorem lineText_len {p : Par} (h : parOk p = true) : (lineText p).length ≤ 120 ∧ 1 ≤ (lineText p).length := by
  obtain ⟨h1, h2, _, _, q1, q2, _⟩ := par_parts h
  have a1 := quadText_len q1
  have a2 := quadText_len q2
  have p1 := adr_port h1
  have p2 := adr_port h2
  have z1 := (dec_len (show p.src.port.toNat ≤ 100000000 by omega)).1
  have z2 := (dec_len (show p.dst.port.toNat ≤ 100000000 by omega)).1
  have l : lineT.length = 11 := rfl
  simp [lineText]; omega
end Go.Proofs.YtgigjgjpglmpoaaGreatDoor
namespace Go.Proofs.YtgigjgjpglmpoaaGreatDoor
open Go.RowKit
/-- A request of the fourth version. -/
structure Oldq where
  cmd : Int
  dst : Adr
  user : Tx
def oldOk (x : Oldq) : Bool := inB 1 2 x.cmd && (adrOk x.dst && (userOk x.user && (decide (x.dst.kind = 3) || decide (0 < nth x.dst.quad 0 + nth x.dst.quad 1 + nth x.dst.quad 2))))
theorem userOk_len {l : Tx} (h : userOk l = true) : l.length ≤ 8 := by
  simp only [userOk, Bool.and_eq_true, decide_eq_true_eq] at h
  exact h.2
end Go.Proofs.YtgigjgjpglmpoaaGreatDoor
namespace Go.Proofs.YtgigjgjpglmpoaaGreatDoor
open Go.RowKit
/-- A list has a number. -/
def hasI (xs : List Int) (n : Int) : Bool := xs.any fun x => x == n
theorem l5Has_c {w : World} {v : Value} {xs : List Int} (n : Int) (h : IntS w v xs) :
    Calls Tryz.prog 40 #[v, .int .i64 n] w fun e w' => e = .returned (.bool (hasI xs n)) ∧ w = w' := by
  obtain ⟨p, cap, rfl, _, _⟩ := h.form
  go_enter Tryz.func40, Tryz.ntmps40
  go_wp2_with fail
  go_loop [5] (fun i => ∃ k : Nat, k ≤ xs.length ∧ i = .int .i64 k ∧ Hid (hasI (xs.take k) n = false)) (fun i => xs.length - (intOf i).toNat)
  case atStart => exact ⟨0, Nat.zero_le _, rfl, by simp [Hid, hasI]⟩
  case round =>
    obtain ⟨k, hk, rfl, hall⟩ := hrel
    by_cases hlt : k < xs.length
    · obtain ⟨a, hix, hca⟩ := h.ix hlt
      cases hb : (nth xs k == n)
      · have HN : Hid (hasI (xs.take (k+1)) n = false) := by
          have := hall.out
          unfold hasI at this
          rw [Hid, hasI, take_any _ hlt, this]; simpa using hb
        go_wp2
        go_round
        case rel => exact ⟨k+1, by omega, by go_num, HN.out⟩
        case measure => simp [intOf]; omega
      · have HN : Hid (hasI xs n = true) := by rw [Hid, hasI]; exact any_true _ hlt hb
        go_wp2
        go_ret
        exact ⟨ret_bool HN.out.symm, rfl⟩
    · have h1 := hall.out
      rw [List.take_of_length_le (by omega)] at h1
      have H1 := Lib.hid h1
      clear h1
      go_wp2
      go_ret
      exact ⟨ret_bool H1.out.symm, rfl⟩
def methAt (xs : List Int) (k : Nat) : Bool := inB 0 254 (nth xs k) && !hasI (xs.take k) (nth xs k)
/-- Valid methods. -/
def methOk (xs : List Int) : Bool := (List.range xs.length).all (methAt xs) && inB 1 8 xs.length
theorem methOk_no {xs : List Int} {k : Nat} (hk : k < xs.length) (h : methAt xs k = false) : methOk xs = false := by
  unfold methOk
  rw [show (List.range xs.length).all (methAt xs) = false from by rw [List.all_eq_false]; exact ⟨k, by simpa using hk, by simp [h]⟩]
  rfl
theorem methOk_all {xs : List Int} (h : ∀ j, j < xs.length → methAt xs j = true) : methOk xs = inB 1 8 xs.length := by
  unfold methOk
  rw [show (List.range xs.length).all (methAt xs) = true from by rw [List.all_eq_true]; exact fun j hj => h j (by simpa using hj)]
  rfl
theorem methOk_len {xs : List Int} (h : methOk xs = true) : 1 ≤ xs.length ∧ xs.length ≤ 8 := by
  simp only [methOk, Bool.and_eq_true] at h
  have := inB_iff.1 h.2
  omega
set_option maxHeartbeats 1000000 in
theorem l5Ok_c {w : World} {v : Value} {xs : List Int} (h : IntS w v xs) :
    Calls Tryz.prog 26 #[v] w fun e w' => e = .returned (.bool (methOk xs)) ∧ Gr w w' := by
  obtain ⟨p, cap, rfl, _, _⟩ := h.form
  go_enter Tryz.func26, Tryz.ntmps26
  go_wp2_with fail
  go_loopw [3] (fun i wr => ∃ k : Nat, k ≤ xs.length ∧ i = .int .i64 k ∧ Hid (∀ j, j < k → methAt xs j = true) ∧ Gr w wr) (fun i _ => xs.length - (intOf i).toNat)
  case atStart => exact ⟨0, Nat.zero_le _, rfl, fun j hj => by omega, Gr.refl _⟩
  case round =>
    obtain ⟨k, hk, rfl, hall, hgr⟩ := hrel
    by_cases hlt : k < xs.length
    · obtain ⟨a, hix, hca0⟩ := h.ix hlt
      have hca := hgr.cell hca0
      obtain ⟨v1, hsl, hr1⟩ := h.pre hk
      have HM : Hid (methAt xs k = (inB 0 254 (nth xs k) && !hasI (xs.take k) (nth xs k))) := rfl
      have HNO := Lib.hid (fun h0 => methOk_no hlt h0)
      have hr1' := hr1.kept hgr
      generalize nth xs k = y at *
      generalize xs.take k = zs at *
      cases hb : inB 0 254 y
      · have HF : Hid (methOk xs = false) := Lib.hid (HNO.out (by rw [HM.out, hb]; rfl))
        go_wp2_with fail
        go_quiet (first | (go_at_call 39; exact Calls.quiet_of_same ((l6In_c _ _ _ _).mono (fun e w' h => ⟨h.1, h.2.symm⟩))) | (go_at_call 40; exact Calls.quiet_of_same ((l5Has_c _ (hr1'.kept (gr_drewN _ _))).mono (fun e w' h => ⟨h.1, h.2.symm⟩))))
        go_wp2
        go_ret
        exact ⟨ret_bool HF.out.symm, hgr.drewN _⟩
      · cases hh : hasI zs y
        · have HN : Hid (methAt xs k = true) := by rw [Hid, HM.out, hb, hh]; rfl
          go_wp2_with fail
          go_quiet (first | (go_at_call 39; exact Calls.quiet_of_same ((l6In_c _ _ _ _).mono (fun e w' h => ⟨h.1, h.2.symm⟩))) | (go_at_call 40; exact Calls.quiet_of_same ((l5Has_c _ (hr1'.kept (gr_drewN _ _))).mono (fun e w' h => ⟨h.1, h.2.symm⟩))))
          go_wp2
          go_roundw
          case rel =>
            refine ⟨k+1, by omega, by go_num, fun j hj => ?_, hgr.drewN _⟩
            by_cases e : j = k
            · rw [e]; exact HN.out
            · exact hall.out j (by omega)
          case measure => simp [intOf]; omega
        · have HF : Hid (methOk xs = false) := Lib.hid (HNO.out (by rw [HM.out, hb, hh]; rfl))
          go_wp2_with fail
          go_quiet (first | (go_at_call 39; exact Calls.quiet_of_same ((l6In_c _ _ _ _).mono (fun e w' h => ⟨h.1, h.2.symm⟩))) | (go_at_call 40; exact Calls.quiet_of_same ((l5Has_c _ (hr1'.kept (gr_drewN _ _))).mono (fun e w' h => ⟨h.1, h.2.symm⟩))))
          go_wp2
          go_ret
          exact ⟨ret_bool HF.out.symm, hgr.drewN _⟩
    · have HF := Lib.hid (methOk_all (fun j hj => hall.out j (by omega)))
      go_wp2_with fail
      (with_reducible refine (l6In_c _ _ _ _).mono ?_); rintro e w1 ⟨rfl, rfl⟩
      go_wp2
      go_ret
      exact ⟨ret_bool HF.out.symm, hgr⟩
def helloBytes (xs : List Int) : List Int := 5 :: (xs.length : Int) :: xs
theorem IntO.two {w : World} {x y : Int} {m : Nat} (hm : m = w.heap.size) : IntO w.heap.size 3 (w.alloc (.cells #[.int .i64 x, .int .i64 y] 3)) (.slice (some ⟨m, 0, none⟩) 2 2) [x, y] := by
  subst hm; exact Own.lit w #[.int .i64 x, .int .i64 y] 2 (Nat.le_refl _) (by decide) rfl
end Go.Proofs.YtgigjgjpglmpoaaGreatDoor
