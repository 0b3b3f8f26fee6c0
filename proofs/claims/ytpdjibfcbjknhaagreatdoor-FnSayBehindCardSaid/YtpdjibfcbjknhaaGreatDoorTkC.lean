/- Talks: what impl says to bytes. -/
import Derived.Test.YtpdjibfcbjknhaaGreatDoorTkB
import Derived.Test.YtpdjibfcbjknhaaGreatDoorLgE
import Derived.Test.YtpdjibfcbjknhaaGreatDoorAdrB
import Derived.Test.YtpdjibfcbjknhaaGreatDoorAdrS
import Derived.Test.YtpdjibfcbjknhaaGreatDoorRdrV
namespace Go.Proofs.YtpdjibfcbjknhaaGreatDoor
open Go.RowKit
/-- What a method of a talk at block b leaves behind. -/
def SyP (b : Nat) (p q : Option Addr) (n c m d : Nat) (s : Int × List Int × Tx) (w : World) (e : Ending) (w' : World) : Prop :=
  ∃ v' : Value, e = .returned v' ∧ IntO w.heap.size 3 w' v' s.2.1 ∧ w'.heap[b]? = some (.cells #[.int .i64 s.1, .slice p n c, .slice q m d, .string (S s.2.2)] 26 (0, 0)) ∧ D b w w'
theorem SyP.shut {b : Nat} {p q : Option Addr} {n c m d : Nat} {s : Int × List Int × Tx} {w w' : World} (hs : s = (4, [], [])) (hb : w'.heap[b]? = some (.cells #[.int .i64 4, .slice p n c, .slice q m d, .string ⟨#[]⟩] 26 (0, 0))) (hd : D b w w') : SyP b p q n c m d s w (.returned (.slice none 0 0)) w' := by
  subst hs
  exact ⟨_, rfl, IntO.nil _ _ _, hb, hd⟩
theorem SyP.of {b : Nat} {p q : Option Addr} {n c m d : Nat} {s : Int × List Int × Tx} {w w' : World} {v : Value} {st : Int} {r : List Int} {dst : ByteArray} (hs : s = (st, r, tx dst)) (hb : w'.heap[b]? = some (.cells #[.int .i64 st, .slice p n c, .slice q m d, .string dst] 26 (0, 0))) (ho : IntO w.heap.size 3 w' v r) (hd : D b w w') : SyP b p q n c m d s w (.returned v) w' := by
  subst hs
  exact ⟨_, rfl, ho, by simp only [S_tx]; exact hb, hd⟩
theorem helloFrom_le {xs ms : List Int} {n : Nat} (h : helloFrom xs = some (ms, n)) : n ≤ xs.length := by
  unfold helloFrom at h
  split at h
  · rename_i hc
    obtain ⟨hb, hl, h0, h1, hm⟩ := hc
    have n1 := bytes_nth (bv_bytes hb) (show 1 < xs.length by omega)
    injection h with h
    injection h with _ e
    omega
  · cases h
theorem meth_range {ws : List Int} (h : methOk ws = true) : ∀ m ∈ ws, 0 ≤ m ∧ m ≤ 254 := by
  intro m hm
  obtain ⟨j, hj, rfl⟩ := List.getElem_of_mem hm
  simp only [methOk, Bool.and_eq_true, List.all_eq_true] at h
  have := h.1 j (List.mem_range.2 hj)
  simp only [methAt, Bool.and_eq_true] at this
  have h2 := inB_iff.1 this.1
  rw [nth_eq hj] at h2
  exact h2
theorem pick_byte (ws ms : List Int) : inB 0 255 (helloPick ws ms) = true := by
  unfold helloPick
  split
  · rename_i hc
    cases h : ws.find? (fun m => hasI ms m) with
    | none => rfl
    | some m =>
      have hm := List.mem_of_find?_eq_some h
      have := meth_range hc.1 m hm
      show inB 0 255 m = true
      exact inB_iff.2 (by omega)
  · rfl
set_option maxRecDepth 20000 in
set_option maxHeartbeats 4000000 in
theorem hello_c {w : World} {b c d : Nat} {p q : Option Addr} {v : Value} {ws xs : List Int} {ls : List Lg} (hB : w.heap[b]? = some (.cells #[.int .i64 4, .slice p ws.length c, .slice q ls.length d, .string ⟨#[]⟩] 26 (0, 0))) (h : IntS w (.slice p ws.length c) ws) (hx : IntS w v xs) (hlen : xs.length ≤ 1048576) :
    Calls Tryz.prog 73 #[.pointer (some ⟨b, 0, none⟩), v] w (SyP b p q ws.length c ls.length d (sayHello ws xs) w) := by
  obtain ⟨px, cx, rfl, _, _⟩ := hx.form
  have hlb := (Array.getElem?_eq_some_iff.1 hB).1
  have HB := Lib.hid hB
  have HS : Hid (sayHello ws xs = match helloFrom xs with | some r => if r.2 = xs.length then (pickState (helloPick ws r.1), [5, helloPick ws r.1], []) else (4, [], []) | none => (4, [], [])) := rfl
  generalize sayHello ws xs = s at *
  clear hB
  go_enter Tryz.func73, Tryz.ntmps73
  go_wp2_with fail
  (with_reducible refine (implHelloFrom_c hx hlen).mono ?_); rintro e w1 ⟨p1, c1, ys, n, ok, rfl, hcase, o1, g1⟩
  have HB1 := Lib.hid (g1.blk HB.out)
  rcases hcase with ⟨m, hm, rfl, rfl⟩ | ⟨hno, rfl, rfl, rfl⟩
  rotate_left
  · have HN := Lib.hid (show s = (4, [], []) by rw [HS.out, hno])
    clear HS hno
    go_wp2
    go_ret
    exact SyP.shut HN.out HB1.out (D.ofGr g1)
  have hle := helloFrom_le hm
  by_cases hlt : m < xs.length
  · have HN := Lib.hid (show s = (4, [], []) by rw [HS.out, hm]; simp only []; rw [if_neg (by omega)])
    have hlt' : (m : Int) < (xs.length : Int) := by omega
    clear HS hm hlt hle
    go_wp2
    go_ret
    exact SyP.shut HN.out HB1.out (D.ofGr g1)
  have hlt' : ¬ (m : Int) < (xs.length : Int) := by omega
  have hs1 : s = (pickState (helloPick ws ys), [5, helloPick ws ys], []) := by rw [HS.out, hm]; simp only []; rw [if_pos (by omega)]
  have hpb := pick_byte ws ys
  have HP := Lib.hid (fun (W : World) (a : IntS W (.slice p ws.length c) ws) (b : IntS W (.slice p1 ys.length c1) ys) => implHelloPick_c a b)
  have h1 := h.kept g1
  have z1 := g1.sz
  clear HS hm hle hlt
  generalize helloPick ws ys = m0 at *
  have x1 := blk_cell HB1.out (j := 1) rfl
  by_cases k0 : m0 = 0
  · subst k0
    have HN := Lib.hid hs1
    have HPB := Lib.hid hpb
    clear hs1 hpb
    go_wp2_with fail
    (with_reducible refine (HP.out _ h1 o1.s).mono ?_); rintro e w2 ⟨rfl, rfl⟩
    have x0 := blk_cell HB1.out (j := 0) rfl
    have f0 := blk_frozen HB1.out 0
    go_upto_region 10 with fail
    have dS := (D.ofGr g1 : D b w w1).trans (D.set (D.refl b w1) 0 (.int .i64 2))
    have hB2 := heap_set (j := 0) (x := .int .i64 2) HB1.out
    have zS : (w1.setCell ⟨b, 0, none⟩ (.int .i64 2)).heap.size = w1.heap.size := by simp
    generalize w1.setCell ⟨b, 0, none⟩ (.int .i64 2) = w3 at *
    have HB3 : Hid (w3.heap[b]? = some (.cells #[.int .i64 2, .slice p ws.length c, .slice q ls.length d, .string ⟨#[]⟩] 26 (0, 0))) := hB2
    clear hB2 x0 x1 f0 HB1 HP
    go_wp2_with fail
    (with_reducible refine (implPickBytes_c _ _ HPB).mono ?_); rintro e w4 ⟨v4, rfl, o4, g4⟩
    obtain ⟨p4, c4, rfl⟩ := o4.len
    go_wp2
    go_ret
    exact SyP.of (by rw [HN.out]; rfl) (g4.blk HB3.out) (o4.mono (by omega)) (dS.trans (D.ofGr g4))
  · have k0' : (m0 == 0) = false := beq_eq_false_iff_ne.2 k0
    by_cases k2 : m0 = 2
    · subst k2
      have HN := Lib.hid hs1
      have HPB := Lib.hid hpb
      clear hs1 hpb k0
      go_wp2_with fail
      (with_reducible refine (HP.out _ h1 o1.s).mono ?_); rintro e w2 ⟨rfl, rfl⟩
      have x0 := blk_cell HB1.out (j := 0) rfl
      have f0 := blk_frozen HB1.out 0
      go_upto_region 10 with fail
      have dS := (D.ofGr g1 : D b w w1).trans (D.set (D.refl b w1) 0 (.int .i64 1))
      have hB2 := heap_set (j := 0) (x := .int .i64 1) HB1.out
      have zS : (w1.setCell ⟨b, 0, none⟩ (.int .i64 1)).heap.size = w1.heap.size := by simp
      generalize w1.setCell ⟨b, 0, none⟩ (.int .i64 1) = w3 at *
      have HB3 : Hid (w3.heap[b]? = some (.cells #[.int .i64 1, .slice p ws.length c, .slice q ls.length d, .string ⟨#[]⟩] 26 (0, 0))) := hB2
      clear hB2 x0 x1 f0 HB1 HP
      go_wp2_with fail
      (with_reducible refine (implPickBytes_c _ _ HPB).mono ?_); rintro e w4 ⟨v4, rfl, o4, g4⟩
      obtain ⟨p4, c4, rfl⟩ := o4.len
      go_wp2
      go_ret
      exact SyP.of (by rw [HN.out]; rfl) (g4.blk HB3.out) (o4.mono (by omega)) (dS.trans (D.ofGr g4))
    · have k2' : (m0 == 2) = false := beq_eq_false_iff_ne.2 k2
      have hps : pickState m0 = 4 := by unfold pickState; rw [if_neg k0, if_neg k2]
      rw [hps] at hs1
      have HN := Lib.hid hs1
      have HPB := Lib.hid hpb
      clear hs1 hpb k0 k2 hps
      go_wp2_with fail
      (with_reducible refine (HP.out _ h1 o1.s).mono ?_); rintro e w2 ⟨rfl, rfl⟩
      go_wp2_with fail
      (with_reducible refine (implPickBytes_c _ _ HPB).mono ?_); rintro e w4 ⟨v4, rfl, o4, g4⟩
      obtain ⟨p4, c4, rfl⟩ := o4.len
      go_wp2
      go_ret
      exact SyP.of (by rw [HN.out]; rfl) (g4.blk HB1.out) (o4.mono z1) (D.ofGr (g1.trans g4))
theorem loginFrom_le {xs : List Int} {l : Lg} {n : Nat} (h : loginFrom xs = some (l, n)) : n ≤ xs.length := (loginFrom_sound h).2.2
theorem lgSz {u v : ByteArray} (h : lgOk (tx u, tx v) = true) : u.size ≤ 2000000 ∧ v.size ≤ 2000000 := by
  obtain ⟨_, _, _, _, l1, l2⟩ := lgOk_parts h
  rw [tx_len] at l1 l2
  omega
set_option maxRecDepth 20000 in
set_option maxHeartbeats 4000000 in
theorem login_c {w : World} {b c d : Nat} {p q : Option Addr} {v : Value} {ws xs : List Int} {ls : List Lg} (hB : w.heap[b]? = some (.cells #[.int .i64 4, .slice p ws.length c, .slice q ls.length d, .string ⟨#[]⟩] 26 (0, 0))) (hl : LgS w (.slice q ls.length d) ls) (hx : IntS w v xs) (hlen : xs.length ≤ 1048576) :
    Calls Tryz.prog 74 #[.pointer (some ⟨b, 0, none⟩), v] w (SyP b p q ws.length c ls.length d (sayLogin ls xs) w) := by
  obtain ⟨px, cx, rfl, _, _⟩ := hx.form
  have hlb := (Array.getElem?_eq_some_iff.1 hB).1
  have HB := Lib.hid hB
  have HS : Hid (sayLogin ls xs = match loginFrom xs with | some r => if r.2 = xs.length then (if loginFits ls r.1 = true then 2 else 4, loginReply (loginFits ls r.1), []) else (4, [], []) | none => (4, [], [])) := rfl
  generalize sayLogin ls xs = s at *
  clear hB
  go_enter Tryz.func74, Tryz.ntmps74
  go_wp2_with fail
  (with_reducible refine (implLoginFrom_c hx hlen).mono ?_); rintro e w1 ⟨su, sv, n, ok, rfl, hcase, g1⟩
  have gC := gr_alloc w1 (.cells #[.string su, .string sv] 59)
  have hC := heap_alloc_new w1 (.cells #[.string su, .string sv] 59)
  have HC := Lib.hid hC
  have G2 := g1.trans gC
  have HB2 := Lib.hid (G2.blk HB.out)
  have z1 := g1.sz
  clear hC
  go_upto_region 2 with fail
  generalize w1.alloc (.cells #[.string su, .string sv] 59) = w2 at *
  rcases hcase with ⟨m, hm, rfl, rfl⟩ | ⟨hno, rfl⟩
  rotate_left
  · have HN := Lib.hid (show s = (4, [], []) by rw [HS.out, hno])
    clear HS hno
    go_wp2
    go_ret
    exact SyP.shut HN.out HB2.out (D.ofGr G2)
  have hle := loginFrom_le hm
  by_cases hlt : m < xs.length
  · have HN := Lib.hid (show s = (4, [], []) by rw [HS.out, hm]; simp only []; rw [if_neg (by omega)])
    have hlt' : (m : Int) < (xs.length : Int) := by omega
    clear HS hm hlt hle
    go_wp2
    go_ret
    exact SyP.shut HN.out HB2.out (D.ofGr G2)
  have hlt' : ¬ (m : Int) < (xs.length : Int) := by omega
  have hs1 : s = (if loginFits ls (tx su, tx sv) = true then 2 else 4, loginReply (loginFits ls (tx su, tx sv)), []) := by rw [HS.out, hm]; simp only []; rw [if_pos (by omega)]
  obtain ⟨zu, zv⟩ := lgSz (loginFrom_sound hm).2.1
  have LF := Lib.hid (fun (W : World) (a : LgS W (.slice q ls.length d) ls) => implLoginFits_c a su sv zu zv)
  have hl2 := hl.kept G2
  clear HS hm hle hlt
  generalize loginFits ls (tx su, tx sv) = ft at *
  have x2 := blk_cell HB2.out (j := 2) rfl
  have s0 := blk_cell HC.out (j := 0) rfl
  have s1 := blk_cell HC.out (j := 1) rfl
  go_upto_region 4 with fail
  go_cut [8] (fun y wx => y = .bool ft ∧ Gr w2 wx)
  case first =>
    go_region_with (go_at_call 43; (with_reducible refine (LF.out _ (hl2.kept (by repeat (first | assumption | exact Gr.refl _ | refine Gr.drew ?_ | refine Gr.alloc ?_ _)))).mono ?_); rintro e w4 ⟨rfl, g4'⟩; have g4 : Gr w2 w4 := Gr.trans (by repeat (first | assumption | exact Gr.refl _ | refine Gr.drew ?_ | refine Gr.alloc ?_ _)) g4')
    all_goals
      go_wp2_with fail
      go_meet
      exact ⟨rfl, by repeat (first | assumption | refine Gr.drew ?_)⟩
  case rest =>
    obtain ⟨rfl, g4⟩ := hcut
    have HB4 := Lib.hid (g4.blk HB2.out)
    have G4 := G2.trans g4
    have z4 := G4.sz
    clear x2 s0 s1 HB2 LF
    cases ft
    · have HN := Lib.hid hs1
      clear hs1
      go_wp2_with fail
      (with_reducible refine (implLoginReply_c _ _).mono ?_); rintro e w5 ⟨v5, rfl, o5, g5⟩
      obtain ⟨p5, c5, rfl⟩ := o5.len
      go_wp2
      go_ret
      exact SyP.of (by rw [HN.out]; rfl) (g5.blk HB4.out) (o5.mono z4) (D.ofGr (G4.trans g5))
    · have HN := Lib.hid hs1
      clear hs1
      have x0 := blk_cell HB4.out (j := 0) rfl
      have f0 := blk_frozen HB4.out 0
      go_upto_region 7 with fail
      have dS := (D.ofGr G4 : D b w wc).trans (D.set (D.refl b wc) 0 (.int .i64 2))
      have hB2 := heap_set (j := 0) (x := .int .i64 2) HB4.out
      have zS : (wc.setCell ⟨b, 0, none⟩ (.int .i64 2)).heap.size = wc.heap.size := by simp
      generalize wc.setCell ⟨b, 0, none⟩ (.int .i64 2) = w3 at *
      have HB3 : Hid (w3.heap[b]? = some (.cells #[.int .i64 2, .slice p ws.length c, .slice q ls.length d, .string ⟨#[]⟩] 26 (0, 0))) := hB2
      clear hB2 x0 f0
      go_wp2_with fail
      (with_reducible refine (implLoginReply_c _ _).mono ?_); rintro e w5 ⟨v5, rfl, o5, g5⟩
      obtain ⟨p5, c5, rfl⟩ := o5.len
      go_wp2
      go_ret
      exact SyP.of (by rw [HN.out]; rfl) (g5.blk HB3.out) (o5.mono (by omega)) (dS.trans (D.ofGr g5))
set_option maxRecDepth 20000 in
set_option maxHeartbeats 4000000 in
theorem request_c {w : World} {b c d : Nat} {p q : Option Addr} {v : Value} {ws xs : List Int} {ls : List Lg} (hml : ∀ W, D b w W → ML W) (htb : ∀ W, D b w W → Tab W) (hB : w.heap[b]? = some (.cells #[.int .i64 4, .slice p ws.length c, .slice q ls.length d, .string ⟨#[]⟩] 26 (0, 0))) (hx : IntS w v xs) (hlen : xs.length ≤ 1048576) :
    Calls Tryz.prog 75 #[.pointer (some ⟨b, 0, none⟩), v] w (SyP b p q ws.length c ls.length d (sayReq xs) w) := by
  obtain ⟨px, cx, rfl, _, _⟩ := hx.form
  have hlb := (Array.getElem?_eq_some_iff.1 hB).1
  have HB := Lib.hid hB
  have HS : Hid (sayReq xs = match reqFrom xs with | some r => if r.2.2 = xs.length then (if r.1 = 1 then 3 else 4, reqBytes (if r.1 = 1 then 0 else 7) r.2.1, if r.1 = 1 then addrText r.2.1 else []) else (4, [], []) | none => (4, [], [])) := rfl
  generalize sayReq xs = s at *
  clear hB
  go_enter Tryz.func75, Tryz.ntmps75
  go_wp2_with fail
  (with_reducible refine (implRequestFrom_c (hml _ (D.refl b w)) hx hlen).mono ?_); rintro e w1 ⟨cc, k, po, n, qd, nm, ok, q1, c1, rfl, hcase, o1, g1⟩
  have gC := gr_alloc w1 (.cells #[.int .i64 cc, .int .i64 k, .slice q1 qd.length c1, .string nm, .int .i64 po] 121)
  have hC := heap_alloc_new w1 (.cells #[.int .i64 cc, .int .i64 k, .slice q1 qd.length c1, .string nm, .int .i64 po] 121)
  have HC := Lib.hid hC
  have G2 := g1.trans gC
  have HB2 := Lib.hid (G2.blk HB.out)
  have z1 := g1.sz
  have z2 := gC.sz
  have o2 := o1.kept gC
  have hcb : ¬ w1.heap.size = b := by omega
  clear hC o1
  go_upto_region 2 with fail
  generalize w1.alloc (.cells #[.int .i64 cc, .int .i64 k, .slice q1 qd.length c1, .string nm, .int .i64 po] 121) = w2 at *
  rcases hcase with ⟨m, hm, rfl, rfl⟩ | ⟨hno, rfl⟩
  rotate_left
  · have HN := Lib.hid (show s = (4, [], []) by rw [HS.out, hno])
    clear HS hno
    go_wp2
    go_ret
    exact SyP.shut HN.out HB2.out (D.ofGr G2)
  obtain ⟨hin, hok, hle⟩ := reqFrom_sound hm
  by_cases hlt : m < xs.length
  · have HN := Lib.hid (show s = (4, [], []) by rw [HS.out, hm]; simp only []; rw [if_neg (by omega)])
    have hlt' : (m : Int) < (xs.length : Int) := by omega
    clear HS hm hlt hle hin hok
    go_wp2
    go_ret
    exact SyP.shut HN.out HB2.out (D.ofGr G2)
  have hlt' : ¬ (m : Int) < (xs.length : Int) := by omega
  have hs1 : s = (if cc = 1 then 3 else 4, reqBytes (if cc = 1 then 0 else 7) ⟨k, qd, tx nm, po⟩, if cc = 1 then addrText ⟨k, qd, tx nm, po⟩ else []) := by rw [HS.out, hm]; simp only []; rw [if_pos (by omega)]
  have hnl := adr_name_len hok
  simp only [tx_len] at hnl
  have hnm : nm.size ≤ 2000000 := by omega
  have HOK := Lib.hid hok
  clear HS hm hle hlt hin hnl
  by_cases k1 : cc = 1
  · subst k1
    simp only [if_true] at hs1
    have HN := Lib.hid hs1
    have h08 : Hid (inB 0 8 0 = true) := rfl
    have dS := (D.ofGr G2 : D b w w2).trans (D.set (D.refl b w2) 0 (.int .i64 3))
    have AT := Lib.hid (fun (W : World) (hM : Tab W) (hq : IntS W (.slice q1 qd.length c1) qd) => implAddressText1_c hM k po nm hq hok)
    have hta := addrText_len26 hok
    clear hs1 hok
    have s0 := blk_cell HC.out (j := 0) rfl
    have s1 := blk_cell HC.out (j := 1) rfl
    have s2 := blk_cell HC.out (j := 2) rfl
    have s3 := blk_cell HC.out (j := 3) rfl
    have s4 := blk_cell HC.out (j := 4) rfl
    have x0 := blk_cell HB2.out (j := 0) rfl
    have f0 := blk_frozen HB2.out 0
    go_upto_region 8 with fail
    have hB3 := heap_set (j := 0) (x := .int .i64 3) HB2.out
    have dS2 := D.set (D.refl b w2) 0 (.int .i64 3)
    have hC3 := dS2.blk HC.out hcb
    have zS : (w2.setCell ⟨b, 0, none⟩ (.int .i64 3)).heap.size = w2.heap.size := by simp
    generalize w2.setCell ⟨b, 0, none⟩ (.int .i64 3) = w3 at *
    have HB3 : Hid (w3.heap[b]? = some (.cells #[.int .i64 3, .slice p ws.length c, .slice q ls.length d, .string ⟨#[]⟩] 26 (0, 0))) := hB3
    have HC3 := Lib.hid hC3
    have o3 := o2.keptD dS2 hlb
    clear hB3 hC3 x0 f0 s0 s1 s2 s3 s4 HB2 HC dS2 o2
    have s0 := blk_cell HC3.out (j := 0) rfl
    have s1 := blk_cell HC3.out (j := 1) rfl
    have s2 := blk_cell HC3.out (j := 2) rfl
    have s3 := blk_cell HC3.out (j := 3) rfl
    have s4 := blk_cell HC3.out (j := 4) rfl
    generalize htt : addrText ⟨k, qd, tx nm, po⟩ = tt at *
    have hsz : (S tt).size ≤ 2000000 := by rw [S_len]; omega
    obtain ⟨st', hst⟩ : ∃ st', S tt = st' := ⟨_, rfl⟩
    have htx : tt = tx st' := by rw [← hst, tx_S]
    rw [hst] at AT hsz
    rw [htx] at HN
    clear htx hst htt hta
    go_wp2_with fail
    (with_reducible refine (AT.out _ (htb _ dS) o3.s).mono ?_); rintro e w4 ⟨rfl, g4⟩
    have HB4 := Lib.hid (g4.blk HB3.out)
    have HC4 := Lib.hid (g4.blk HC3.out)
    have o4 := o3.kept g4
    have dS4 := dS.trans (D.ofGr g4 : D b w3 w4)
    have z4 := g4.sz
    clear s0 s1 s2 s3 s4 HB3 HC3 o3 dS
    have x3 := blk_cell HB4.out (j := 3) rfl
    have f3 := blk_frozen HB4.out 3
    go_upto_region 9 with fail
    have hB5 := heap_set (j := 3) (x := .string st') HB4.out
    have dS2 := D.set (D.refl b w4) 3 (.string st')
    have hC5 := dS2.blk HC4.out hcb
    have zS5 : (w4.setCell ⟨b, 3, none⟩ (.string st')).heap.size = w4.heap.size := by simp
    generalize w4.setCell ⟨b, 3, none⟩ (.string st') = w5 at *
    have HB5 : Hid (w5.heap[b]? = some (.cells #[.int .i64 3, .slice p ws.length c, .slice q ls.length d, .string st'] 26 (0, 0))) := hB5
    have HC5 := Lib.hid hC5
    have o5 := o4.keptD dS2 (by omega)
    have dS5 := dS4.trans dS2
    clear hB5 hC5 x3 f3 HB4 HC4 dS2 o4 dS4
    have s0 := blk_cell HC5.out (j := 0) rfl
    have s1 := blk_cell HC5.out (j := 1) rfl
    have s2 := blk_cell HC5.out (j := 2) rfl
    have s3 := blk_cell HC5.out (j := 3) rfl
    have s4 := blk_cell HC5.out (j := 4) rfl
    go_wp2_with fail
    (with_reducible refine (implReply_t (hml _ dS5) 0 k po nm o5.s hnm h08 HOK).mono ?_); rintro e w6 ⟨v6, rfl, o6, g6⟩
    obtain ⟨p6, c6, rfl⟩ := o6.len
    go_wp2
    go_ret
    exact SyP.of HN.out (g6.blk HB5.out) (o6.mono (by omega)) (dS5.trans (D.ofGr g6))
  · have k1' : (cc == 1) = false := beq_eq_false_iff_ne.2 k1
    rw [if_neg k1, if_neg k1, if_neg k1] at hs1
    have HN := Lib.hid hs1
    have h78 : Hid (inB 0 8 7 = true) := rfl
    clear hs1 hok k1
    have s0 := blk_cell HC.out (j := 0) rfl
    have s1 := blk_cell HC.out (j := 1) rfl
    have s2 := blk_cell HC.out (j := 2) rfl
    have s3 := blk_cell HC.out (j := 3) rfl
    have s4 := blk_cell HC.out (j := 4) rfl
    go_wp2_with fail
    (with_reducible refine (implReply_t (hml _ (D.ofGr G2)) 7 k po nm o2.s hnm h78 HOK).mono ?_); rintro e w6 ⟨v6, rfl, o6, g6⟩
    obtain ⟨p6, c6, rfl⟩ := o6.len
    go_wp2
    go_ret
    exact SyP.of HN.out (g6.blk HB2.out) (o6.mono (by omega)) (D.ofGr (G2.trans g6))
end Go.Proofs.YtpdjibfcbjknhaaGreatDoor
