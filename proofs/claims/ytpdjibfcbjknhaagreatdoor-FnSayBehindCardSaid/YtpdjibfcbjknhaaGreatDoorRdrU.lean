/- impl: a number and an address out of bytes; requests out of bytes. -/
import Derived.Test.YtpdjibfcbjknhaaGreatDoorRdrT
import Derived.Deep.RegionWith
import Derived.Deep.DeepCutAuto
namespace Go.Proofs.YtpdjibfcbjknhaaGreatDoor
open Go.RowKit
/-- What codeFrom hands back. -/
def CdO (xs : List Int) (w : World) (e : Ending) (w' : World) : Prop :=
  ∃ (q : Option Addr) (c : Nat), e = .returned (.tuple #[.int .i64 (cdS2 xs).1, .agg #[.int .i64 (cdS4 xs).1.kind, .slice q (cdS4 xs).1.quad.length c, .string (S (cdS4 xs).1.name), .int .i64 (cdS4 xs).1.port], .int .i64 ((cdS4 xs).2.pos : Int), .bool (!(cdS4 xs).2.bad)]) ∧ IntO w.heap.size 3 w' (.slice q (cdS4 xs).1.quad.length c) (cdS4 xs).1.quad ∧ Gr w w'
theorem CdO.mk {xs : List Int} {w w' : World} {cc k p : Int} {q : Option Addr} {c : Nat} {qd : List Int} {an : Tx} {nm : ByteArray} {st : Rs} {ps : Nat} {bd : Bool} (h2 : Hid ((cdS2 xs).1 = cc)) (h4 : Hid (cdS4 xs = (⟨k, qd, an, p⟩, st))) (hn : Hid (S an = nm)) (hp : Hid (st.pos = ps)) (hb : Hid (st.bad = bd))
    (ho : IntO w.heap.size 3 w' (.slice q qd.length c) qd) (hg : Gr w w') :
    CdO xs w (.returned (.tuple #[.int .i64 cc, .agg #[.int .i64 k, .slice q qd.length c, .string nm, .int .i64 p], .int .i64 (ps : Int), .bool (!bd)])) w' := by
  unfold CdO
  rw [h2.out, h4.out]
  refine ⟨q, c, ?_, ho, hg⟩
  simp only [hn.out, hp.out, hb.out]
set_option maxRecDepth 20000 in
set_option maxHeartbeats 4000000 in
theorem codeFrom_c {w : World} {v : Value} {xs : List Int} (hm : ML w) (h : IntS w v xs) (hlen : xs.length ≤ 1048576) :
    Calls Tryz.prog 143 #[v] w (CdO xs w) := by
  obtain ⟨p, cap, rfl, _, _⟩ := h.form
  have gA := gr_alloc w (.cells #[.int .i64 0, .slice none 0 0, .string ⟨#[]⟩, .int .i64 0] 65)
  have hA := heap_alloc_new w (.cells #[.int .i64 0, .slice none 0 0, .string ⟨#[]⟩, .int .i64 0] 65)
  have zA : w.heap.size + 1 ≤ (w.alloc (.cells #[.int .i64 0, .slice none 0 0, .string ⟨#[]⟩, .int .i64 0] 65)).heap.size := by simp
  have E1 : Hid ((cdS1 xs).byte = ((cdS2 xs).1, (cdS2 xs).2)) := rfl
  go_enter Tryz.func143, Tryz.ntmps143
  go_wp2_with fail
  (with_reducible refine (newReader_c (h.kept gA) (by omega)).mono ?_); rintro e w1 ⟨g, rfl, hge, hr1, gr1⟩
  have hlt1 := hr1.lt
  have HB1 := Lib.hid (gr1.blk hA)
  have G1 := gA.trans gr1
  clear gA gr1 hA
  have HB1a := Lib.hid ((gr_alloc w1 (.cells #[.int .i64 5] 3)).blk HB1.out)
  go_wp2_with fail
  (with_reducible refine (expect_c (hr1.kept (gr_alloc _ _)) (IntO.one _) hlt1 (by decide)).mono ?_); rintro e w2 ⟨rfl, hr2, hd2⟩
  replace hr2 : RdrAt w2 g (cdS1 xs) := hr2
  have hgw : w.heap.size + 1 ≤ g := by omega
  have G2 : Gr w w2 := hd2.gr (G1.alloc _) (by omega)
  have HB2 := Lib.hid (hd2.blk HB1a.out (by omega))
  clear HB1 HB1a hr1 hd2 G1 hge zA
  go_wp2_with fail
  (with_reducible refine (byteE hr2 E1).mono ?_); rintro e w3 ⟨rfl, hr3, hd3⟩
  have G3 : Gr w w3 := hd3.gr G2 (by omega)
  have HB3 := Lib.hid (hd3.blk HB2.out (by omega))
  have hlt3 := hr3.lt
  clear HB2 hr2 hd3 G2 E1 hlt1
  have HB3a := Lib.hid ((gr_alloc w3 (.cells #[.int .i64 0] 3)).blk HB3.out)
  go_wp2_with fail
  (with_reducible refine (expect_c (hr3.kept (gr_alloc _ _)) (IntO.one _) hlt3 (by decide)).mono ?_); rintro e w4 ⟨rfl, hr4, hd4⟩
  replace hr4 : RdrAt w4 g (cdS3 xs) := hr4
  have G4 : Gr w w4 := hd4.gr (G3.alloc _) (by omega)
  have HB4 := Lib.hid (hd4.blk HB3a.out (by omega))
  have hz4 := (Array.getElem?_eq_some_iff.1 HB4.out).1
  clear HB3 HB3a hr3 hd4 G3 hlt3
  have AC : Calls Tryz.prog 163 #[.pointer (some ⟨g, 0, none⟩)] w4 (AdrR (cdS4 xs).1 g (cdS4 xs).2 w4) := address_c (fun W hW => hm.kept (hW.gr G4 (by omega))) hr4
  obtain ⟨cc, hcc⟩ : ∃ cc, (cdS2 xs).1 = cc := ⟨_, rfl⟩
  have HCC := Lib.hid hcc
  obtain ⟨a4, ha4⟩ : ∃ a4, cdS4 xs = a4 := ⟨_, rfl⟩
  obtain ⟨a, st⟩ := a4
  have HA4 := Lib.hid ha4
  rw [ha4] at AC
  rw [hcc]
  clear hcc ha4
  go_wp2_with fail
  (with_reducible refine AC.mono ?_); rintro e w5 ⟨q, cq, rfl, o5, hr5, hd5⟩
  clear AC
  have G5 : Gr w w5 := hd5.gr G4 (by omega)
  have HB5 := Lib.hid (hd5.blk HB4.out (by omega))
  clear HB4 hr4 hd5 G4
  obtain ⟨ak, aq, an, ap⟩ := a
  simp only [] at o5
  go_upto_region 6 with fail
  have gS := gr_alloc w5 (.cells #[.int .i64 ak, .slice q aq.length cq, .string (S an), .int .i64 ap] 65)
  have hS := heap_alloc_new w5 (.cells #[.int .i64 ak, .slice q aq.length cq, .string (S an), .int .i64 ap] 65)
  have zS := gS.sz
  have z5 := G5.sz
  have hlt5 := hr5.lt
  have hwl : w.heap.size < w5.heap.size := by omega
  generalize w5.alloc (.cells #[.int .i64 ak, .slice q aq.length cq, .string (S an), .int .i64 ap] 65) = w6 at *
  have hr6 := hr5.kept gS
  have G6 := G5.trans gS
  have HB6 := Lib.hid (gS.blk HB5.out)
  have HS6 := Lib.hid hS
  have o6 := IntO.kept o5 gS
  have k1 := hr6.c1
  have k2 := hr6.c2
  clear hr5 HB5 hS o5 gS hr6
  obtain ⟨nm, hnm⟩ : ∃ nm, S an = nm := ⟨_, rfl⟩
  have HNM := Lib.hid hnm
  rw [hnm] at HS6 
  obtain ⟨ps, hps⟩ : ∃ ps, st.pos = ps := ⟨_, rfl⟩
  have HPS := Lib.hid hps
  rw [hps] at k1
  obtain ⟨bd, hbd⟩ : ∃ bd, st.bad = bd := ⟨_, rfl⟩
  have HBD := Lib.hid hbd
  rw [hbd] at k2
  clear hnm hps hbd
  have s0 := blk_cell HS6.out (j := 0) rfl
  have s1 := blk_cell HS6.out (j := 1) rfl
  have s2 := blk_cell HS6.out (j := 2) rfl
  have s3 := blk_cell HS6.out (j := 3) rfl
  have x0 := blk_cell HB6.out (j := 0) rfl
  have x1 := blk_cell HB6.out (j := 1) rfl
  have x2 := blk_cell HB6.out (j := 2) rfl
  have x3 := blk_cell HB6.out (j := 3) rfl
  have f0 := blk_frozen HB6.out 0
  have f1 := blk_frozen HB6.out 1
  have f2 := blk_frozen HB6.out 2
  have f3 := blk_frozen HB6.out 3
  go_cut [2, 4, 5] (fun x y z wx => x = .int .i64 cc ∧ y = .int .i64 (ps : Int) ∧ z = .bool (!bd) ∧ wx = World.drew (put4 w6 w.heap.size (.int .i64 ak) (.slice q aq.length cq) (.string nm) (.int .i64 ap)))
  case first =>
    go_region_with (fail)
    all_goals
      go_wp2_with fail
      go_meet
      exact ⟨rfl, rfl, rfl, rfl⟩
  case rest =>
    obtain ⟨rfl, rfl, rfl, rfl⟩ := hcut
    clear x0 x1 x2 x3 f0 f1 f2 f3 s0 s1 s2 s3 k1 k2
    go_wp2
    have hW := put4_blk HB6.out (.int .i64 ak) (.slice q aq.length cq) (.string nm) (.int .i64 ap)
    have cW := put4_chg w6 w.heap.size (.int .i64 ak) (.slice q aq.length cq) (.string nm) (.int .i64 ap)
    have dW := put4_D w6 w.heap.size (.int .i64 ak) (.slice q aq.length cq) (.string nm) (.int .i64 ap)
    generalize put4 w6 w.heap.size (.int .i64 ak) (.slice q aq.length cq) (.string nm) (.int .i64 ap) = wz at *
    have y0 := blk_cell hW (j := 0) rfl
    have y1 := blk_cell hW (j := 1) rfl
    have y2 := blk_cell hW (j := 2) rfl
    have y3 := blk_cell hW (j := 3) rfl
    exact bodyPost_ret (v := .tuple #[.int .i64 cc, .agg #[.int .i64 ak, .slice q aq.length cq, .string nm, .int .i64 ap], .int .i64 (ps : Int), .bool (!bd)]) (by simp [results, Tryz.results143, go_sem, y0, y1, y2, y3]) rfl (CdO.mk HCC HA4 HNM HPS HBD (IntO.kept (IntO.mono (B' := w.heap.size) (IntB.chg (IntO.b o6) cW (.inr (by omega))).o (by omega)) ((Gr.refl _).drew)) ((cW.gr G6 (Nat.le_refl _)).drew))
end Go.Proofs.YtpdjibfcbjknhaaGreatDoor
