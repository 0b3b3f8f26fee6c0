/- Requests and logins out of bytes: impl's walks. -/
import Derived.Test.YtpdjibfcbjknhaaGreatDoorRdrU
import Derived.Test.YtpdjibfcbjknhaaGreatDoorGV
import Derived.Deep.RegionWith
namespace Go.Proofs.YtpdjibfcbjknhaaGreatDoor
open Go.RowKit
def put5 (w : World) (b : Nat) (a0 a1 a2 a3 a4 : Value) : World := ((((w.setCell ⟨b, 0, none⟩ a0).setCell ⟨b, 1, none⟩ a1).setCell ⟨b, 2, none⟩ a2).setCell ⟨b, 3, none⟩ a3).setCell ⟨b, 4, none⟩ a4
theorem put5_blk {w : World} {b : Nat} {c0 c1 c2 c3 c4 : Value} {t : TypeId} (h : w.heap[b]? = some (.cells #[c0, c1, c2, c3, c4] t (0, 0))) (a0 a1 a2 a3 a4 : Value) : (put5 w b a0 a1 a2 a3 a4).heap[b]? = some (.cells #[a0, a1, a2, a3, a4] t (0, 0)) :=
  heap_set (j := 4) (heap_set (j := 3) (heap_set (j := 2) (heap_set (j := 1) (heap_set (j := 0) h))))
theorem put5_chg (w : World) (b : Nat) (a0 a1 a2 a3 a4 : Value) : Chg b (b + 1) w (put5 w b a0 a1 a2 a3 a4) :=
  ((((((Chg.refl b (b + 1) w).set (p := ⟨b, 0, none⟩) (Nat.le_refl _) (by simp) a0).set (p := ⟨b, 1, none⟩) (Nat.le_refl _) (by simp) a1).set (p := ⟨b, 2, none⟩) (Nat.le_refl _) (by simp) a2).set (p := ⟨b, 3, none⟩) (Nat.le_refl _) (by simp) a3).set (p := ⟨b, 4, none⟩) (Nat.le_refl _) (by simp) a4)
def put2 (w : World) (b : Nat) (a0 a1 : Value) : World := (w.setCell ⟨b, 0, none⟩ a0).setCell ⟨b, 1, none⟩ a1
theorem put2_blk {w : World} {b : Nat} {c0 c1 : Value} {t : TypeId} (h : w.heap[b]? = some (.cells #[c0, c1] t (0, 0))) (a0 a1 : Value) : (put2 w b a0 a1).heap[b]? = some (.cells #[a0, a1] t (0, 0)) := heap_set (j := 1) (heap_set (j := 0) h)
theorem put2_chg (w : World) (b : Nat) (a0 a1 : Value) : Chg b (b + 1) w (put2 w b a0 a1) :=
  ((Chg.refl b (b + 1) w).set (p := ⟨b, 0, none⟩) (Nat.le_refl _) (by simp) a0).set (p := ⟨b, 1, none⟩) (Nat.le_refl _) (by simp) a1
theorem adr_name_len {a : Adr} (h : adrOk a = true) : a.name.length ≤ 20 := by
  rcases adr_kind h with ⟨_, _, h⟩ | ⟨_, h, _⟩
  · rw [h]; simp
  · exact nameOk_len h
/-- What codeFrom hands back, in plain words. -/
theorem CdO.form {xs : List Int} {w w' : World} {e : Ending} (h : CdO xs w e w') :
    ∃ (cc k p : Int) (qd : List Int) (nm : ByteArray) (ps : Nat) (bd : Bool) (q : Option Addr) (c : Nat), e = .returned (.tuple #[.int .i64 cc, .agg #[.int .i64 k, .slice q qd.length c, .string nm, .int .i64 p], .int .i64 (ps : Int), .bool (!bd)]) ∧ Hid (codeFrom xs = if bd = false then some (cc, ⟨k, qd, tx nm, p⟩, ps) else none) ∧ IntO w.heap.size 3 w' (.slice q qd.length c) qd ∧ Gr w w' := by
  obtain ⟨q, c, he, ho, hg⟩ := h
  refine ⟨_, _, _, _, _, _, _, q, c, he, ?_, ho, hg⟩
  rw [Hid, codeFrom_prog, tx_S]
set_option maxHeartbeats 1000000 in
theorem isRequest_c {w : World} {q : Value} {xs : List Int} (hm : ML w) (c k port : Int) (s : ByteArray) (hq : IntS w q xs) (hs : s.size ≤ 2000000) {b : Bool} (hb : Hid ((inB 1 3 c && adrOk ⟨k, xs, tx s, port⟩) = b)) :
    Calls Tryz.prog 144 #[.agg #[.int .i64 c, .int .i64 k, q, .string s, .int .i64 port]] w fun e w' => e = .returned (.bool b) ∧ Gr w w' := by
  obtain ⟨p, cap, rfl, _, _⟩ := hq.form
  have hg := gr_alloc w (.cells #[.int .i64 c, .int .i64 k, .slice p xs.length cap, .string s, .int .i64 port] 121)
  cases hc : inB 1 3 c
  · have HB : Hid (false = b) := by rw [Hid, ← hb.out, hc]; rfl
    have HC := Lib.hid hc
    clear hc hb
    go_enter Tryz.func144, Tryz.ntmps144
    go_wp2_with fail
    (with_reducible refine (within_c _ _ _ _).mono ?_); rintro e w1 ⟨rfl, rfl⟩
    rw [HC.out]
    go_wp2
    go_ret
    exact ⟨ret_bool HB.out, hg⟩
  · have HB : Hid (adrOk ⟨k, xs, tx s, port⟩ = b) := by rw [Hid, ← hb.out, hc]; rfl
    have HC := Lib.hid hc
    clear hc hb
    go_enter Tryz.func144, Tryz.ntmps144
    go_wp2_with fail
    (with_reducible refine (within_c _ _ _ _).mono ?_); rintro e w1 ⟨rfl, rfl⟩
    rw [HC.out]
    go_wp2_with fail
    (with_reducible refine (implAddressValid_c (hm.kept hg) k port s (hq.kept hg) hs).mono ?_); rintro e w2 ⟨rfl, g2⟩
    go_wp2
    go_ret
    exact ⟨ret_bool HB.out, hg.trans g2⟩
/-- What RequestFrom hands back. -/
def ReqO (xs : List Int) (w : World) (e : Ending) (w' : World) : Prop :=
  ∃ (c k p n : Int) (qd : List Int) (nm : ByteArray) (ok : Bool) (q : Option Addr) (cq : Nat), e = .returned (.tuple #[.agg #[.int .i64 c, .int .i64 k, .slice q qd.length cq, .string nm, .int .i64 p], .int .i64 n, .bool ok]) ∧ ((∃ m : Nat, reqFrom xs = some (c, ⟨k, qd, tx nm, p⟩, m) ∧ n = (m : Int) ∧ ok = true) ∨ (reqFrom xs = none ∧ ok = false)) ∧ IntO w.heap.size 3 w' (.slice q qd.length cq) qd ∧ Gr w w'
theorem ReqO.no {xs : List Int} {w w' : World} (hn : reqFrom xs = none) (hg : Gr w w') : ReqO xs w (.returned (.tuple #[.agg #[.int .i64 0, .int .i64 0, .slice none 0 0, .string ⟨#[]⟩, .int .i64 0], .int .i64 0, .bool false])) w' :=
  ⟨0, 0, 0, 0, [], ⟨#[]⟩, false, none, 0, rfl, .inr ⟨hn, rfl⟩, IntO.nil _ _ _, hg⟩
theorem ReqO.yes {xs : List Int} {w w' : World} {c k p : Int} {qd : List Int} {nm : ByteArray} {q : Option Addr} {cq m : Nat} (hn : reqFrom xs = some (c, ⟨k, qd, tx nm, p⟩, m)) (ho : IntO w.heap.size 3 w' (.slice q qd.length cq) qd) (hg : Gr w w') :
    ReqO xs w (.returned (.tuple #[.agg #[.int .i64 c, .int .i64 k, .slice q qd.length cq, .string nm, .int .i64 p], .int .i64 (m : Int), .bool true])) w' :=
  ⟨c, k, p, m, qd, nm, true, q, cq, rfl, .inl ⟨m, hn, rfl, rfl⟩, ho, hg⟩
theorem reqFrom_none {xs : List Int} (h : codeFrom xs = none) : reqFrom xs = none := by unfold reqFrom; rw [h]
theorem reqFrom_some {xs : List Int} {r : Int × Adr × Nat} (h : codeFrom xs = some r) : reqFrom xs = if inB 1 3 r.1 = true then some r else none := by unfold reqFrom; rw [h]
theorem codeFrom_sound {xs : List Int} {c : Int} {a : Adr} {n : Nat} (h : codeFrom xs = some (c, a, n)) : adrOk a = true := by
  unfold codeFrom at h
  split at h
  · cases ha : adrOfB (xs.drop 3) with
    | none => rw [ha] at h; cases h
    | some s =>
      obtain ⟨a', n'⟩ := s
      rw [ha, Option.map_some] at h
      injection h with h
      injection h with _ h
      injection h with e1 _
      rw [← e1]; exact (adrOfB_sound ha).1
  · cases h
set_option maxRecDepth 20000 in
set_option maxHeartbeats 2000000 in
theorem implRequestFrom_c {w : World} {v : Value} {xs : List Int} (hm : ML w) (h : IntS w v xs) (hlen : xs.length ≤ 1048576) :
    Calls Tryz.prog 110 #[v] w (ReqO xs w) := by
  obtain ⟨p0, cap, rfl, _, _⟩ := h.form
  have gA := gr_alloc w (.cells #[.int .i64 0, .int .i64 0, .slice none 0 0, .string ⟨#[]⟩, .int .i64 0] 121)
  have hA := heap_alloc_new w (.cells #[.int .i64 0, .int .i64 0, .slice none 0 0, .string ⟨#[]⟩, .int .i64 0] 121)
  have zA : w.heap.size + 1 ≤ (w.alloc (.cells #[.int .i64 0, .int .i64 0, .slice none 0 0, .string ⟨#[]⟩, .int .i64 0] 121)).heap.size := by simp
  go_enter Tryz.func110, Tryz.ntmps110
  go_wp2_with fail
  (with_reducible refine (codeFrom_c (hm.kept gA) (h.kept gA) hlen).mono ?_); rintro e w1 hcd
  obtain ⟨cc, k, p, qd, nm, ps, bd, q, cq, rfl, hcf, o1, g1⟩ := hcd.form
  clear hcd
  have G1 := gA.trans g1
  have HA1 := Lib.hid (g1.blk hA)
  have z1 := g1.sz
  have gB := (gr_alloc w1 (.cells #[.int .i64 k, .slice q qd.length cq, .string nm, .int .i64 p] 65)).alloc (.cells #[.int .i64 cc, .int .i64 k, .slice q qd.length cq, .string nm, .int .i64 p] 121)
  have hR : ((w1.alloc (.cells #[.int .i64 k, .slice q qd.length cq, .string nm, .int .i64 p] 65)).alloc (.cells #[.int .i64 cc, .int .i64 k, .slice q qd.length cq, .string nm, .int .i64 p] 121)).heap[w1.heap.size + 1]? = some (.cells #[.int .i64 cc, .int .i64 k, .slice q qd.length cq, .string nm, .int .i64 p] 121 (0, 0)) := by
    have := heap_alloc_new (w1.alloc (.cells #[.int .i64 k, .slice q qd.length cq, .string nm, .int .i64 p] 65)) (.cells #[.int .i64 cc, .int .i64 k, .slice q qd.length cq, .string nm, .int .i64 p] 121)
    simpa using this
  have HR := Lib.hid hR
  have HB2 := Lib.hid (gB.blk HA1.out)
  have G2 := G1.trans gB
  have o2 := (o1.mono (B' := w.heap.size + 1) (by omega)).kept gB
  clear hR gA hA g1 HA1 o1
  cases bd
  rotate_left
  · have HN : Hid (reqFrom xs = none) := Lib.hid (reqFrom_none (by rw [hcf.out]; rfl))
    clear hcf
    go_upto_region 3 with fail
    generalize (w1.alloc (.cells #[.int .i64 k, .slice q qd.length cq, .string nm, .int .i64 p] 65)).alloc (.cells #[.int .i64 cc, .int .i64 k, .slice q qd.length cq, .string nm, .int .i64 p] 121) = w2 at *
    have x0 := blk_cell HB2.out (j := 0) rfl
    have x1 := blk_cell HB2.out (j := 1) rfl
    have x2 := blk_cell HB2.out (j := 2) rfl
    have x3 := blk_cell HB2.out (j := 3) rfl
    have f0 := blk_frozen HB2.out 0
    have f1 := blk_frozen HB2.out 1
    have f2 := blk_frozen HB2.out 2
    have f3 := blk_frozen HB2.out 3
    have x4 := blk_cell HB2.out (j := 4) rfl
    have f4 := blk_frozen HB2.out 4
    go_wp2
    change bodyPost _ _ _ _ _ (put5 w2 w.heap.size (.int .i64 0) (.int .i64 0) (.slice none 0 0) (.string ⟨#[]⟩) (.int .i64 0))
    have hW := put5_blk HB2.out (.int .i64 0) (.int .i64 0) (.slice none 0 0) (.string ⟨#[]⟩) (.int .i64 0)
    have cW := put5_chg w2 w.heap.size (.int .i64 0) (.int .i64 0) (.slice none 0 0) (.string ⟨#[]⟩) (.int .i64 0)
    generalize put5 w2 w.heap.size (.int .i64 0) (.int .i64 0) (.slice none 0 0) (.string ⟨#[]⟩) (.int .i64 0) = wz at *
    have y0 := blk_cell hW (j := 0) rfl
    have y1 := blk_cell hW (j := 1) rfl
    have y2 := blk_cell hW (j := 2) rfl
    have y3 := blk_cell hW (j := 3) rfl
    have y4 := blk_cell hW (j := 4) rfl
    exact bodyPost_ret (v := .tuple #[.agg #[.int .i64 0, .int .i64 0, .slice none 0 0, .string ⟨#[]⟩, .int .i64 0], .int .i64 0, .bool false]) (by simp [results, Tryz.results110, go_sem, y0, y1, y2, y3, y4]) rfl (ReqO.no HN.out (cW.gr G2 (Nat.le_refl _)))
  have hsome : codeFrom xs = some (cc, ⟨k, qd, tx nm, p⟩, ps) := by rw [hcf.out]; rfl
  have hok := codeFrom_sound hsome
  have hnl := adr_name_len hok
  have hrf := reqFrom_some hsome
  simp only [tx_len] at hnl
  simp only [] at hrf
  have HOK := Lib.hid hok
  have HRF := Lib.hid hrf
  clear hcf hsome hok hrf
  go_upto_region 3 with fail
  generalize (w1.alloc (.cells #[.int .i64 k, .slice q qd.length cq, .string nm, .int .i64 p] 65)).alloc (.cells #[.int .i64 cc, .int .i64 k, .slice q qd.length cq, .string nm, .int .i64 p] 121) = w2 at *
  have s0 := blk_cell HR.out (j := 0) rfl
  have s1 := blk_cell HR.out (j := 1) rfl
  have s2 := blk_cell HR.out (j := 2) rfl
  have s3 := blk_cell HR.out (j := 3) rfl
  have s4 := blk_cell HR.out (j := 4) rfl
  cases hin : inB 1 3 cc
  · have HN : Hid (reqFrom xs = none) := Lib.hid (by rw [HRF.out, hin]; rfl)
    have HV : Hid ((inB 1 3 cc && adrOk ⟨k, qd, tx nm, p⟩) = false) := Lib.hid (by rw [hin]; rfl)
    clear hin HRF HOK
    go_wp2_with fail
    (with_reducible refine (isRequest_c (hm.kept G2) cc k p nm o2.s (by omega) HV).mono ?_); rintro e w3 ⟨rfl, g3⟩
    have HB3 := Lib.hid (g3.blk HB2.out)
    have G3 := G2.trans g3
    clear s0 s1 s2 s3 s4
    have x0 := blk_cell HB3.out (j := 0) rfl
    have x1 := blk_cell HB3.out (j := 1) rfl
    have x2 := blk_cell HB3.out (j := 2) rfl
    have x3 := blk_cell HB3.out (j := 3) rfl
    have f0 := blk_frozen HB3.out 0
    have f1 := blk_frozen HB3.out 1
    have f2 := blk_frozen HB3.out 2
    have f3 := blk_frozen HB3.out 3
    have x4 := blk_cell HB3.out (j := 4) rfl
    have f4 := blk_frozen HB3.out 4
    go_wp2
    change bodyPost _ _ _ _ _ (put5 w3 w.heap.size (.int .i64 0) (.int .i64 0) (.slice none 0 0) (.string ⟨#[]⟩) (.int .i64 0))
    have hW := put5_blk HB3.out (.int .i64 0) (.int .i64 0) (.slice none 0 0) (.string ⟨#[]⟩) (.int .i64 0)
    have cW := put5_chg w3 w.heap.size (.int .i64 0) (.int .i64 0) (.slice none 0 0) (.string ⟨#[]⟩) (.int .i64 0)
    generalize put5 w3 w.heap.size (.int .i64 0) (.int .i64 0) (.slice none 0 0) (.string ⟨#[]⟩) (.int .i64 0) = wz at *
    have y0 := blk_cell hW (j := 0) rfl
    have y1 := blk_cell hW (j := 1) rfl
    have y2 := blk_cell hW (j := 2) rfl
    have y3 := blk_cell hW (j := 3) rfl
    have y4 := blk_cell hW (j := 4) rfl
    exact bodyPost_ret (v := .tuple #[.agg #[.int .i64 0, .int .i64 0, .slice none 0 0, .string ⟨#[]⟩, .int .i64 0], .int .i64 0, .bool false]) (by simp [results, Tryz.results110, go_sem, y0, y1, y2, y3, y4]) rfl (ReqO.no HN.out (cW.gr G3 (Nat.le_refl _)))
  · have HN : Hid (reqFrom xs = some (cc, ⟨k, qd, tx nm, p⟩, ps)) := Lib.hid (by rw [HRF.out, hin]; rfl)
    have HV : Hid ((inB 1 3 cc && adrOk ⟨k, qd, tx nm, p⟩) = true) := Lib.hid (by rw [hin, HOK.out]; rfl)
    clear hin HRF HOK
    go_wp2_with fail
    (with_reducible refine (isRequest_c (hm.kept G2) cc k p nm o2.s (by omega) HV).mono ?_); rintro e w3 ⟨rfl, g3⟩
    have HB3 := Lib.hid (g3.blk HB2.out)
    have HR3 := Lib.hid (g3.blk HR.out)
    have G3 := G2.trans g3
    have o3 := o2.kept g3
    clear s0 s1 s2 s3 s4
    have s0 := blk_cell HR3.out (j := 0) rfl
    have s1 := blk_cell HR3.out (j := 1) rfl
    have s2 := blk_cell HR3.out (j := 2) rfl
    have s3 := blk_cell HR3.out (j := 3) rfl
    have s4 := blk_cell HR3.out (j := 4) rfl
    have x0 := blk_cell HB3.out (j := 0) rfl
    have x1 := blk_cell HB3.out (j := 1) rfl
    have x2 := blk_cell HB3.out (j := 2) rfl
    have x3 := blk_cell HB3.out (j := 3) rfl
    have f0 := blk_frozen HB3.out 0
    have f1 := blk_frozen HB3.out 1
    have f2 := blk_frozen HB3.out 2
    have f3 := blk_frozen HB3.out 3
    have x4 := blk_cell HB3.out (j := 4) rfl
    have f4 := blk_frozen HB3.out 4
    go_wp2
    change bodyPost _ _ _ _ _ (put5 w3 w.heap.size (.int .i64 cc) (.int .i64 k) (.slice q qd.length cq) (.string nm) (.int .i64 p))
    have hW := put5_blk HB3.out (.int .i64 cc) (.int .i64 k) (.slice q qd.length cq) (.string nm) (.int .i64 p)
    have cW := put5_chg w3 w.heap.size (.int .i64 cc) (.int .i64 k) (.slice q qd.length cq) (.string nm) (.int .i64 p)
    generalize put5 w3 w.heap.size (.int .i64 cc) (.int .i64 k) (.slice q qd.length cq) (.string nm) (.int .i64 p) = wz at *
    have y0 := blk_cell hW (j := 0) rfl
    have y1 := blk_cell hW (j := 1) rfl
    have y2 := blk_cell hW (j := 2) rfl
    have y3 := blk_cell hW (j := 3) rfl
    have y4 := blk_cell hW (j := 4) rfl
    exact bodyPost_ret (v := .tuple #[.agg #[.int .i64 cc, .int .i64 k, .slice q qd.length cq, .string nm, .int .i64 p], .int .i64 (ps : Int), .bool true]) (by simp [results, Tryz.results110, go_sem, y0, y1, y2, y3, y4]) rfl (ReqO.yes HN.out (IntO.mono (IntB.chg o3.b cW (.inr (Nat.le_refl _))).o (by omega)) (cW.gr G3 (Nat.le_refl _)))
/-- What LoginFrom hands back. -/
def LgiO (xs : List Int) (w : World) (e : Ending) (w' : World) : Prop :=
  ∃ (u v : ByteArray) (n : Int) (ok : Bool), e = .returned (.tuple #[.agg #[.string u, .string v], .int .i64 n, .bool ok]) ∧ ((∃ m : Nat, loginFrom xs = some ((tx u, tx v), m) ∧ n = (m : Int) ∧ ok = true) ∨ (loginFrom xs = none ∧ ok = false)) ∧ Gr w w'
theorem LgiO.no {xs : List Int} {w w' : World} (hn : loginFrom xs = none) (hg : Gr w w') : LgiO xs w (.returned (.tuple #[.agg #[.string ⟨#[]⟩, .string ⟨#[]⟩], .int .i64 0, .bool false])) w' := ⟨_, _, _, _, rfl, .inr ⟨hn, rfl⟩, hg⟩
theorem LgiO.yes {xs : List Int} {w w' : World} {u v : ByteArray} {m : Nat} (hn : loginFrom xs = some ((tx u, tx v), m)) (hg : Gr w w') : LgiO xs w (.returned (.tuple #[.agg #[.string u, .string v], .int .i64 (m : Int), .bool true])) w' := ⟨_, _, _, _, rfl, .inl ⟨m, hn, rfl, rfl⟩, hg⟩
theorem RdrAt.textLen {w : World} {g : Nat} {s : Rs} (h : RdrAt w g s) : s.text.1.length ≤ 255 := by
  unfold Rs.text
  simp only [bt_len, Rs.take_len]
  have := h.byteR
  omega
set_option maxRecDepth 20000 in
set_option maxHeartbeats 4000000 in
theorem implLoginFrom_c {w : World} {v : Value} {xs : List Int} (h : IntS w v xs) (hlen : xs.length ≤ 1048576) :
    Calls Tryz.prog 42 #[v] w (LgiO xs w) := by
  obtain ⟨p, cap, rfl, _, _⟩ := h.form
  have gA := gr_alloc w (.cells #[.string ⟨#[]⟩, .string ⟨#[]⟩] 59)
  have hA := heap_alloc_new w (.cells #[.string ⟨#[]⟩, .string ⟨#[]⟩] 59)
  have zA : w.heap.size + 1 ≤ (w.alloc (.cells #[.string ⟨#[]⟩, .string ⟨#[]⟩] 59)).heap.size := by simp
  have HP := Lib.hid (loginFrom_prog xs)
  go_enter Tryz.func42, Tryz.ntmps42
  go_wp2_with fail
  (with_reducible refine (newReader_c (h.kept gA) (by omega)).mono ?_); rintro e w1 ⟨g, rfl, hge, hr1, gr1⟩
  have hlt1 := hr1.lt
  have HB1 := Lib.hid (gr1.blk hA)
  have G1 := gA.trans gr1
  clear gA gr1 hA
  have HB1a := Lib.hid ((gr_alloc w1 (.cells #[.int .i64 1] 3)).blk HB1.out)
  go_wp2_with fail
  (with_reducible refine (expect_c (hr1.kept (gr_alloc _ _)) (IntO.one _) hlt1 (by decide)).mono ?_); rintro e w2 ⟨rfl, hr2, hd2⟩
  replace hr2 : RdrAt w2 g (lgS1 xs) := hr2
  have hgw : w.heap.size + 1 ≤ g := by omega
  have G2 : Gr w w2 := hd2.gr (G1.alloc _) (by omega)
  have HB2 := Lib.hid (hd2.blk HB1a.out (by omega))
  have hlt2 := hr2.lt
  clear HB1 HB1a hr1 hd2 G1 hge zA
  have gC := gr_alloc w2 (.cells #[.string ⟨#[]⟩, .string ⟨#[]⟩] 59)
  have hC := heap_alloc_new w2 (.cells #[.string ⟨#[]⟩, .string ⟨#[]⟩] 59)
  go_upto_region 4 with fail
  generalize w2.alloc (.cells #[.string ⟨#[]⟩, .string ⟨#[]⟩] 59) = w3 at *
  have HC3 := Lib.hid hC
  have HB3 := Lib.hid (gC.blk HB2.out)
  have G3 := G2.trans gC
  have hr3 := hr2.kept gC
  have zw2 := G2.sz
  clear hr2 HB2 hC
  have TL1 := hr3.textLen
  have TX1 := text_c hr3
  obtain ⟨t1, ht1⟩ : ∃ t1, (lgS2 xs) = t1 := ⟨_, rfl⟩
  have e1 : (lgS1 xs).text = t1 := ht1
  have HT1 := Lib.hid ht1
  rw [e1] at TX1 TL1
  have hS3 : (lgS3 xs) = t1.2.text := by rw [← ht1]; rfl
  have HS3 := Lib.hid hS3
  clear ht1 e1 hS3
  obtain ⟨u1, r1⟩ := t1
  have hu1 : (S u1).size ≤ 255 := by rw [S_len]; exact TL1
  have txu : Hid (u1 = tx (S u1)) := Lib.hid (tx_S _).symm
  generalize S u1 = su at *
  go_wp2_with fail
  (with_reducible refine TX1.mono ?_); rintro e w4 ⟨rfl, hr4, hd4⟩
  clear TX1 TL1
  have HC4 := Lib.hid (hd4.blk HC3.out (by omega))
  have HB4 := Lib.hid (hd4.blk HB3.out (by omega))
  have G4 : Gr w w4 := hd4.gr G3 (by omega)
  clear HC3 HB3 hr3 hd4 G3
  have x0 := blk_cell HC4.out (j := 0) rfl
  have f0 := blk_frozen HC4.out 0
  go_upto_region 5 with fail
  have dS := D.set (D.refl w2.heap.size w4) 0 (.string su)
  have hC5 := heap_set (j := 0) (x := .string su) HC4.out
  generalize w4.setCell ⟨w2.heap.size, 0, none⟩ (.string su) = w5 at *
  have HC5 : Hid (w5.heap[w2.heap.size]? = some (.cells #[.string su, .string ⟨#[]⟩] 59 (0, 0))) := hC5
  have HB5 := Lib.hid (dS.blk HB4.out (by omega))
  have hr5 := hr4.keptD dS (by omega)
  have G5 : Gr w w5 := dS.gr G4 (by omega)
  clear x0 f0 hC5 dS HB4 HC4 hr4 G4
  have TL2 := hr5.textLen
  have TX2 := text_c hr5
  obtain ⟨t2, ht2⟩ : ∃ t2, r1.text = t2 := ⟨_, rfl⟩
  have HS3 : Hid (lgS3 xs = r1.text) := HS3
  rw [ht2] at TX2 TL2 HS3
  clear ht2
  obtain ⟨u2, r2⟩ := t2
  have hu2 : (S u2).size ≤ 255 := by rw [S_len]; exact TL2
  have txv : Hid (u2 = tx (S u2)) := Lib.hid (tx_S _).symm
  generalize S u2 = sv at *
  go_wp2_with fail
  (with_reducible refine TX2.mono ?_); rintro e w6 ⟨rfl, hr6, hd6⟩
  clear TX2 TL2
  have HC6 := Lib.hid (hd6.blk HC5.out (by omega))
  have HB6 := Lib.hid (hd6.blk HB5.out (by omega))
  have G6 : Gr w w6 := hd6.gr G5 (by omega)
  clear HC5 HB5 hr5 hd6 G5
  have x1 := blk_cell HC6.out (j := 1) rfl
  have f1 := blk_frozen HC6.out 1
  go_upto_region 6 with fail
  have dS := D.set (D.refl w2.heap.size w6) 1 (.string sv)
  have hC7 := heap_set (j := 1) (x := .string sv) HC6.out
  generalize w6.setCell ⟨w2.heap.size, 1, none⟩ (.string sv) = w7 at *
  have HC7 : Hid (w7.heap[w2.heap.size]? = some (.cells #[.string su, .string sv] 59 (0, 0))) := hC7
  have HB7 := Lib.hid (dS.blk HB6.out (by omega))
  have hr7 := hr6.keptD dS (by omega)
  have G7 : Gr w w7 := dS.gr G6 (by omega)
  clear x1 f1 hC7 dS HB6 HC6 hr6 G6
  have HQ : Hid (loginFrom xs = if r2.bad = false ∧ lgOk (tx su, tx sv) = true then some ((tx su, tx sv), r2.pos) else none) := Lib.hid (by rw [HP.out, HT1.out, HS3.out, ← txu.out, ← txv.out])
  clear HP HT1 HS3 txu txv
  have k1 := hr7.c1
  have k2 := hr7.c2
  cases hbad : r2.bad
  rotate_left
  · have HN : Hid (loginFrom xs = none) := Lib.hid (by rw [HQ.out, if_neg (by rintro ⟨h1, _⟩; rw [hbad] at h1; cases h1)])
    rw [hbad] at k2
    clear hbad HQ
    have x0 := blk_cell HB7.out (j := 0) rfl
    have x1 := blk_cell HB7.out (j := 1) rfl
    have f0 := blk_frozen HB7.out 0
    have f1 := blk_frozen HB7.out 1
    go_wp2
    change bodyPost _ _ _ _ _ (put2 w7 w.heap.size (.string ⟨#[]⟩) (.string ⟨#[]⟩))
    have hW := put2_blk HB7.out (.string ⟨#[]⟩) (.string ⟨#[]⟩)
    have cW := put2_chg w7 w.heap.size (.string ⟨#[]⟩) (.string ⟨#[]⟩)
    generalize put2 w7 w.heap.size (.string ⟨#[]⟩) (.string ⟨#[]⟩) = wz at *
    have y0 := blk_cell hW (j := 0) rfl
    have y1 := blk_cell hW (j := 1) rfl
    exact bodyPost_ret (v := .tuple #[.agg #[.string ⟨#[]⟩, .string ⟨#[]⟩], .int .i64 0, .bool false]) (by simp [results, Tryz.results42, go_sem, y0, y1]) rfl (LgiO.no HN.out (cW.gr G7 (Nat.le_refl _)))
  rw [hbad] at k2
  have s0 := blk_cell HC7.out (j := 0) rfl
  have s1 := blk_cell HC7.out (j := 1) rfl
  cases hok : lgOk (tx su, tx sv)
  · have HN : Hid (loginFrom xs = none) := Lib.hid (by rw [HQ.out, if_neg (by rintro ⟨_, h1⟩; rw [hok] at h1; cases h1)])
    have HOK := Lib.hid hok
    clear hbad HQ hok
    go_wp2_with fail
    (with_reducible refine (isLogin_c _ su sv (by omega) (by omega)).mono ?_); rintro e w8 ⟨rfl, g8⟩
    rw [HOK.out]
    have HB8 := Lib.hid (g8.blk HB7.out)
    have G8 := G7.trans g8
    clear s0 s1 k1 k2
    have x0 := blk_cell HB8.out (j := 0) rfl
    have x1 := blk_cell HB8.out (j := 1) rfl
    have f0 := blk_frozen HB8.out 0
    have f1 := blk_frozen HB8.out 1
    go_wp2
    change bodyPost _ _ _ _ _ (put2 w8 w.heap.size (.string ⟨#[]⟩) (.string ⟨#[]⟩))
    have hW := put2_blk HB8.out (.string ⟨#[]⟩) (.string ⟨#[]⟩)
    have cW := put2_chg w8 w.heap.size (.string ⟨#[]⟩) (.string ⟨#[]⟩)
    generalize put2 w8 w.heap.size (.string ⟨#[]⟩) (.string ⟨#[]⟩) = wz at *
    have y0 := blk_cell hW (j := 0) rfl
    have y1 := blk_cell hW (j := 1) rfl
    exact bodyPost_ret (v := .tuple #[.agg #[.string ⟨#[]⟩, .string ⟨#[]⟩], .int .i64 0, .bool false]) (by simp [results, Tryz.results42, go_sem, y0, y1]) rfl (LgiO.no HN.out (cW.gr G8 (Nat.le_refl _)))
  · have HN : Hid (loginFrom xs = some ((tx su, tx sv), r2.pos)) := Lib.hid (by rw [HQ.out, if_pos ⟨hbad, hok⟩])
    have HOK := Lib.hid hok
    clear hbad HQ hok
    go_wp2_with fail
    (with_reducible refine (isLogin_c _ su sv (by omega) (by omega)).mono ?_); rintro e w8 ⟨rfl, g8⟩
    rw [HOK.out]
    have HB8 := Lib.hid (g8.blk HB7.out)
    have HC8 := Lib.hid (g8.blk HC7.out)
    have G8 := G7.trans g8
    have hr8 := hr7.kept g8
    clear s0 s1 k1 k2
    have k1 := hr8.c1
    generalize r2.pos = ps at *
    have s0 := blk_cell HC8.out (j := 0) rfl
    have s1 := blk_cell HC8.out (j := 1) rfl
    have x0 := blk_cell HB8.out (j := 0) rfl
    have x1 := blk_cell HB8.out (j := 1) rfl
    have f0 := blk_frozen HB8.out 0
    have f1 := blk_frozen HB8.out 1
    go_upto_region 8 with fail
    go_cut [3, 4] (fun y z wx => y = .int .i64 (ps : Int) ∧ z = .bool true ∧ wx = World.drew (put2 w8 w.heap.size (.string su) (.string sv)))
    case first =>
      go_region_with (fail)
      all_goals
        go_wp2_with fail
        go_meet
        exact ⟨rfl, rfl, rfl⟩
    case rest =>
      obtain ⟨rfl, rfl, rfl⟩ := hcut
      clear x0 x1 f0 f1 s0 s1 k1
      go_wp2
      have hW := put2_blk HB8.out (.string su) (.string sv)
      have cW := put2_chg w8 w.heap.size (.string su) (.string sv)
      generalize put2 w8 w.heap.size (.string su) (.string sv) = wz at *
      have y0 := blk_cell hW (j := 0) rfl
      have y1 := blk_cell hW (j := 1) rfl
      exact bodyPost_ret (v := .tuple #[.agg #[.string su, .string sv], .int .i64 (ps : Int), .bool true]) (by simp [results, Tryz.results42, go_sem, y0, y1]) rfl (LgiO.yes HN.out ((cW.gr G8 (Nat.le_refl _)).drew))
end Go.Proofs.YtpdjibfcbjknhaaGreatDoor
