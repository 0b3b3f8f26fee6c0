/- Tunnels out of texts: the walks. -/
import Derived.Test.YtdbepkcpdglppaaGreatDoorAdrG
import Derived.Test.YtdbepkcpdglppaaGreatDoorGN
import Derived.Test.YtdbepkcpdglppaaGreatDoorOldG
namespace Go.Proofs.YtdbepkcpdglppaaGreatDoor
open Go.RowKit
theorem AdrIs.nm {l : Tx} {k : Int} {xs : List Int} {nm : ByteArray} {p : Int} {ok : Bool} (h : AdrIs l k xs nm p ok) : nm.size ≤ 2000000 := by
  rcases h with ⟨h, _⟩ | ⟨_, _, _, rfl, _⟩
  · obtain ⟨h1, _⟩ := addrFrom_sound h
    rcases adr_kind h1 with ⟨_, _, e⟩ | ⟨_, e, _⟩
    · simp only [] at e
      have := tx_len nm
      rw [e] at this
      simp at this
      omega
    · have := nameOk_len e
      simp only [tx_len] at this
      omega
  · simp [ByteArray.size]
/-- What ConnectFrom hands back: the size alone is told. -/
def ConPost (o : Option Nat) (w : World) (e : Ending) (w' : World) : Prop :=
  ∃ (k : Int) (q : Option Addr) (n cq : Nat) (s : ByteArray) (p : Int), e = .returned (.tuple #[.agg #[.int .i64 k, .slice q n cq, .string s, .int .i64 p], .int .i64 (szI o), .bool o.isSome]) ∧ Gr w w'
theorem ConPost.no {o : Option Nat} {w w' : World} (hn : o = none) (hg : Gr w w') : ConPost o w (.returned (.tuple #[.agg #[.int .i64 0, .slice none 0 0, .string ⟨#[]⟩, .int .i64 0], .int .i64 0, .bool false])) w' := by
  subst hn; exact ⟨_, _, _, _, _, _, rfl, hg⟩
theorem ConPost.yes {o : Option Nat} {w w' : World} {m : Nat} (hn : o = some m) {k p : Int} {q : Option Addr} {n cq : Nat} {s : ByteArray} {mi : Int} (hm : mi = (m : Int)) (hg : Gr w w') :
    ConPost o w (.returned (.tuple #[.agg #[.int .i64 k, .slice q n cq, .string s, .int .i64 p], .int .i64 mi, .bool true])) w' := by
  subst hn hm; exact ⟨_, _, _, _, _, _, rfl, hg⟩
theorem cutPrefix_c (w : World) (s p : ByteArray) :
    Calls Tryz.prog 94 #[.string s, .string p] w fun e w' => e = .returned (.tuple #[.string (S (if Lib.hasPrefix (tx s) (tx p) = true then (tx s).drop (tx p).length else tx s)), .bool (Lib.hasPrefix (tx s) (tx p))]) ∧ w = w' := by
  refine (Tryz.strings_CutPrefix s p w).mono ?_
  rintro e w' ⟨rfl, rfl⟩
  exact ⟨rfl, rfl⟩
set_option maxHeartbeats 1000000 in
theorem implConnectText_c {w : World} {q : Value} {xs : List Int} (hm : ML w) (ht : Tab w) (k port : Int) (s : ByteArray) (hq : IntS w q xs) (hs : s.size ≤ 2000000) :
    Calls Tryz.prog 17 #[.agg #[.int .i64 k, q, .string s, .int .i64 port]] w fun e w' => e = .returned (.string (S (if adrOk ⟨k, xs, tx s, port⟩ = true then connText (addrText ⟨k, xs, tx s, port⟩) else []))) ∧ Gr w w' := by
  obtain ⟨p, cap, rfl, _, _⟩ := hq.form
  have hg := gr_alloc w (.cells #[.int .i64 k, .slice p xs.length cap, .string s, .int .i64 port] 25)
  have AT := implAddressText_c (hm.kept hg) (ht.kept hg) k port s (hq.kept hg) hs
  cases hok : adrOk ⟨k, xs, tx s, port⟩
  · rw [hok] at AT
    simp only [Bool.false_eq_true, if_false] at AT ⊢
    have AH := Lib.hid AT
    have he := emp_tx (S [])
    rw [tx_S] at he
    clear hok AT
    generalize hE : S [] = E at *
    go_enter Tryz.func17, Tryz.ntmps17
    go_wp2_with fail
    (with_reducible refine (AH.out).mono ?_); rintro e w1 ⟨rfl, g1⟩
    go_wp2
    go_ret
    exact ⟨by rw [← hE]; rfl, hg.trans g1⟩
  · have hl := addrText_len hok
    have hp : addrText ⟨k, xs, tx s, port⟩ ≠ [] := by rw [addrText_eq]; simp
    rw [hok] at AT
    simp only [if_true] at AT ⊢
    generalize addrText ⟨k, xs, tx s, port⟩ = t at *
    have AH := Lib.hid AT
    have he := emp_tx (S t)
    have hne : t.isEmpty = false := by cases t with
      | nil => exact absurd rfl hp
      | cons => rfl
    rw [tx_S, hne] at he
    have HC : Hid (connText t = tunnelT ++ t ++ httpT ++ t ++ [13, 10, 13, 10]) := rfl
    have l1 : tunnelT.length = 8 := rfl
    have l2 : httpT.length = 17 := rfl
    have A1 := add_eq (P := Tryz.prog) ⟨#[67, 79, 78, 78, 69, 67, 84, 32]⟩ (S t) (tunnelT ++ t) (by rw [tx_S]; rfl) (by simp; omega)
    have A2 := add_eq (P := Tryz.prog) (S (tunnelT ++ t)) ⟨#[32, 72, 84, 84, 80, 47, 49, 46, 49, 13, 10, 72, 111, 115, 116, 58, 32]⟩ (tunnelT ++ t ++ httpT) (by rw [tx_S]; rfl) (by simp; omega)
    have A3 := add_eq (P := Tryz.prog) (S (tunnelT ++ t ++ httpT)) (S t) (tunnelT ++ t ++ httpT ++ t) (by rw [tx_S, tx_S]) (by simp; omega)
    have A4 := add_eq (P := Tryz.prog) (S (tunnelT ++ t ++ httpT ++ t)) ⟨#[13, 10, 13, 10]⟩ (tunnelT ++ t ++ httpT ++ t ++ [13, 10, 13, 10]) (by rw [tx_S]; rfl) (by simp; omega)
    generalize tunnelT ++ t = u1 at *
    generalize u1 ++ httpT = u2 at *
    generalize u2 ++ t = u3 at *
    generalize u3 ++ [13, 10, 13, 10] = u4 at *
    clear l1 l2 hok AT hp hne hl
    go_enter Tryz.func17, Tryz.ntmps17
    go_wp2_with fail
    (with_reducible refine (AH.out).mono ?_); rintro e w1 ⟨rfl, g1⟩
    go_wp2
    go_ret
    exact ⟨ret_str (by rw [HC.out]), hg.trans g1⟩
theorem connFromI_fail {l : Tx} (h : addrFrom (Lib.cut (if Lib.hasPrefix l tunnelT = true then l.drop 8 else l) [32]).1 = none) : (connFrom l).map (·.2) = none := by
  rw [← connFromI_eq]; unfold connFromI; rw [h]; rfl
theorem connFromI_pre {l : Tx} {a : Adr} (h : addrFrom (Lib.cut (if Lib.hasPrefix l tunnelT = true then l.drop 8 else l) [32]).1 = some a) (hp : Lib.hasPrefix l (connText (addrText a)) = false) : (connFrom l).map (·.2) = none := by
  rw [← connFromI_eq]; unfold connFromI; rw [h]; simp only [connOf, hp]; rfl
theorem connFromI_yes {l : Tx} {a : Adr} (h : addrFrom (Lib.cut (if Lib.hasPrefix l tunnelT = true then l.drop 8 else l) [32]).1 = some a) (hp : Lib.hasPrefix l (connText (addrText a)) = true) : (connFrom l).map (·.2) = some (connText (addrText a)).length := by
  rw [← connFromI_eq]; unfold connFromI; rw [h]; simp only [connOf, hp]; rfl
set_option maxRecDepth 20000 in
set_option maxHeartbeats 4000000 in
theorem implConnectFrom_c {w : World} (hm : ML w) (he : ErrV w) (ht : Tab w) (s : ByteArray) (hs : s.size ≤ 1048576) :
    Calls Tryz.prog 41 #[.string s] w (ConPost ((connFrom (tx s)).map (·.2)) w) := by
  have gA := gr_alloc w (.cells #[.int .i64 0, .slice none 0 0, .string ⟨#[]⟩, .int .i64 0] 25)
  have hB0 := heap_alloc_new w (.cells #[.int .i64 0, .slice none 0 0, .string ⟨#[]⟩, .int .i64 0] 25)
  have hz0 : w.heap.size < (w.alloc (.cells #[.int .i64 0, .slice none 0 0, .string ⟨#[]⟩, .int .i64 0] 25)).heap.size := by simp
  have CP := fun W : World => cutPrefix_c W s ⟨#[67, 79, 78, 78, 69, 67, 84, 32]⟩
  have e8 : tx ⟨#[67, 79, 78, 78, 69, 67, 84, 32]⟩ = tunnelT := rfl
  have e9 : tunnelT.length = 8 := rfl
  rw [e8, e9] at CP
  have FA := @connFromI_fail (tx s)
  have FP := @connFromI_pre (tx s)
  have FY := @connFromI_yes (tx s)
  have hr : (if Lib.hasPrefix (tx s) tunnelT = true then (tx s).drop 8 else tx s).length ≤ 1048576 := by
    split
    · rw [List.length_drop, tx_len]; omega
    · rw [tx_len]; omega
  generalize (if Lib.hasPrefix (tx s) tunnelT = true then (tx s).drop 8 else tx s) = l at *
  generalize Lib.hasPrefix (tx s) tunnelT = pre at *
  generalize (connFrom (tx s)).map (·.2) = o at *
  have CC := fun (W : World) (h : ML W) => cut_c h (S l) ⟨#[32]⟩ (by rw [S_len]; omega)
  rw [tx_S, show tx ⟨#[32]⟩ = [32] from rfl] at CC
  have hcl := (cut_len l 32).1
  generalize (Lib.cut l [32]).2.1 = l2 at *
  generalize (Lib.cut l [32]).2.2 = b2 at *
  generalize (Lib.cut l [32]).1 = t at *
  have CPH := Lib.hid CP
  have CCH := Lib.hid CC
  obtain ⟨k, xs, nm, p, ok, hA⟩ := adrIs_some t
  have hnm := hA.nm
  have AF := Lib.hid (fun (W : World) (h1 : ML W) (h2 : ErrV W) (h3 : Tab W) => implAddressFrom_c h1 h2 h3 (S t) (by rw [S_len]; omega) (k := k) (p := p) (xs := xs) (nm := nm) (ok := ok) (Lib.hid (by rw [tx_S]; exact hA)))
  have hAk : (ok = true ∧ addrFrom t = some ⟨k, xs, tx nm, p⟩ ∧ adrOk ⟨k, xs, tx nm, p⟩ = true) ∨ (ok = false ∧ addrFrom t = none) := by
    rcases hA with ⟨h1, h2⟩ | ⟨h1, _, _, _, _, h2⟩
    · exact .inl ⟨h2, h1, (addrFrom_sound h1).1⟩
    · exact .inr ⟨h2, h1⟩
  have CT := Lib.hid (fun (W : World) (h1 : ML W) (h2 : Tab W) (q : Value) (h3 : IntS W q xs) => implConnectText_c h1 h2 k p nm h3 hnm)
  clear CP CC hA e8 e9 hcl hr
  go_enter Tryz.func41, Tryz.ntmps41
  go_wp2_with fail
  generalize hW0 : w.alloc (.cells #[.int .i64 0, .slice none 0 0, .string ⟨#[]⟩, .int .i64 0] 25) = w0 at *
  have HW0 := Lib.hid hW0
  have HB0 := Lib.hid hB0
  clear hW0 hB0
  (with_reducible refine (CPH.out _).mono ?_); rintro e w1 ⟨rfl, rfl⟩
  go_wp2_with fail
  (with_reducible refine (CCH.out _ (hm.kept gA)).mono ?_); rintro e w2 ⟨rfl, g2⟩
  have G2 := gA.trans g2
  go_wp2_with fail
  (with_reducible refine (AF.out _ (hm.kept G2) (he.kept G2) (ht.kept G2)).mono ?_); rintro e w3 ⟨q3, c3, rfl, o3, g3⟩
  have G3 := G2.trans g3
  have HB3 := Lib.hid ((g2.trans g3).blk HB0.out)
  have gD := gr_alloc w3 (.cells #[.int .i64 k, .slice q3 xs.length c3, .string nm, .int .i64 p] 25)
  have hD := heap_alloc_new w3 (.cells #[.int .i64 k, .slice q3 xs.length c3, .string nm, .int .i64 p] 25)
  have G4 := G3.trans gD
  have HB4 := Lib.hid (gD.blk HB3.out)
  have o4 := o3.s.kept gD
  have z2 := g2.sz
  have z3 := g3.sz
  go_wp2_with fail
  generalize hW4 : w3.alloc (.cells #[.int .i64 k, .slice q3 xs.length c3, .string nm, .int .i64 p] 25) = w4 at *
  have HW4 := Lib.hid hW4
  have HD := Lib.hid hD
  clear hW4 hD gD
  (with_reducible refine (CT.out _ (hm.kept G4) (ht.kept G4) _ o4).mono ?_); rintro e w5 ⟨rfl, g5⟩
  have G5 := G4.trans g5
  have HB5 := Lib.hid (g5.blk HB4.out)
  have HD5 := Lib.hid (g5.blk HD.out)
  clear CT AF CCH CPH g5 G4 HB4 HB3 G3 G2 o3 g3 g2
  rcases hAk with ⟨rfl, ha, hok⟩ | ⟨rfl, ha⟩
  rotate_left
  · have HN := Lib.hid (FA ha)
    clear ha FA FP FY
    generalize (if adrOk ⟨k, xs, tx nm, p⟩ = true then connText (addrText ⟨k, xs, tx nm, p⟩) else []) = tt at *
    have x0 := blk_cell HB5.out (j := 0) rfl
    have x1 := blk_cell HB5.out (j := 1) rfl
    have x2 := blk_cell HB5.out (j := 2) rfl
    have x3 := blk_cell HB5.out (j := 3) rfl
    have f0 := blk_frozen HB5.out 0
    have f1 := blk_frozen HB5.out 1
    have f2 := blk_frozen HB5.out 2
    have f3 := blk_frozen HB5.out 3
    go_wp2
    change bodyPost _ _ _ _ _ (put4 w5 w.heap.size (.int .i64 0) (.slice none 0 0) (.string ⟨#[]⟩) (.int .i64 0))
    have hW := put4_blk HB5.out (.int .i64 0) (.slice none 0 0) (.string ⟨#[]⟩) (.int .i64 0)
    have cW := put4_chg w5 w.heap.size (.int .i64 0) (.slice none 0 0) (.string ⟨#[]⟩) (.int .i64 0)
    generalize put4 w5 w.heap.size (.int .i64 0) (.slice none 0 0) (.string ⟨#[]⟩) (.int .i64 0) = wz at *
    have y0 := blk_cell hW (j := 0) rfl
    have y1 := blk_cell hW (j := 1) rfl
    have y2 := blk_cell hW (j := 2) rfl
    have y3 := blk_cell hW (j := 3) rfl
    exact bodyPost_ret (v := .tuple #[.agg #[.int .i64 0, .slice none 0 0, .string ⟨#[]⟩, .int .i64 0], .int .i64 0, .bool false]) (by simp [results, Tryz.results41, go_sem, y0, y1, y2, y3]) rfl (ConPost.no HN.out (cW.gr G5 (Nat.le_refl _)))
  rw [hok, if_pos rfl]
  have FP := FP ha
  have FY := FY ha
  have HPx := fun W : World => hasPrefix_c W s (S (connText (addrText ⟨k, xs, tx nm, p⟩)))
  rw [tx_S] at HPx
  have hsz : (S (connText (addrText ⟨k, xs, tx nm, p⟩))).size = (connText (addrText ⟨k, xs, tx nm, p⟩)).length := S_len _
  have hlt : (connText (addrText ⟨k, xs, tx nm, p⟩)).length ≤ 2000000 := by
    have := addrText_len hok
    rw [connText_len]; omega
  clear ha hok FA
  generalize connText (addrText ⟨k, xs, tx nm, p⟩) = tt at *
  cases hp : Lib.hasPrefix (tx s) tt
  · have HN := Lib.hid (FP hp)
    rw [hp] at HPx
    have HPH := Lib.hid HPx
    clear hp FP FY HPx hsz
    go_wp2_with fail
    (with_reducible refine (HPH.out _).mono ?_); rintro e w6 ⟨rfl, rfl⟩
    have x0 := blk_cell HB5.out (j := 0) rfl
    have x1 := blk_cell HB5.out (j := 1) rfl
    have x2 := blk_cell HB5.out (j := 2) rfl
    have x3 := blk_cell HB5.out (j := 3) rfl
    have f0 := blk_frozen HB5.out 0
    have f1 := blk_frozen HB5.out 1
    have f2 := blk_frozen HB5.out 2
    have f3 := blk_frozen HB5.out 3
    go_wp2
    change bodyPost _ _ _ _ _ (put4 w5 w.heap.size (.int .i64 0) (.slice none 0 0) (.string ⟨#[]⟩) (.int .i64 0))
    have hW := put4_blk HB5.out (.int .i64 0) (.slice none 0 0) (.string ⟨#[]⟩) (.int .i64 0)
    have cW := put4_chg w5 w.heap.size (.int .i64 0) (.slice none 0 0) (.string ⟨#[]⟩) (.int .i64 0)
    generalize put4 w5 w.heap.size (.int .i64 0) (.slice none 0 0) (.string ⟨#[]⟩) (.int .i64 0) = wz at *
    have y0 := blk_cell hW (j := 0) rfl
    have y1 := blk_cell hW (j := 1) rfl
    have y2 := blk_cell hW (j := 2) rfl
    have y3 := blk_cell hW (j := 3) rfl
    exact bodyPost_ret (v := .tuple #[.agg #[.int .i64 0, .slice none 0 0, .string ⟨#[]⟩, .int .i64 0], .int .i64 0, .bool false]) (by simp [results, Tryz.results41, go_sem, y0, y1, y2, y3]) rfl (ConPost.no HN.out (cW.gr G5 (Nat.le_refl _)))
  · have HS := Lib.hid (FY hp)
    rw [hp] at HPx
    have HPH := Lib.hid HPx
    have HSZ := Lib.hid hsz
    clear hp FP FY HPx hsz
    go_wp2_with fail
    (with_reducible refine (HPH.out _).mono ?_); rintro e w6 ⟨rfl, rfl⟩
    have s0 := blk_cell HD5.out (j := 0) rfl
    have s1 := blk_cell HD5.out (j := 1) rfl
    have s2 := blk_cell HD5.out (j := 2) rfl
    have s3 := blk_cell HD5.out (j := 3) rfl
    have x0 := blk_cell HB5.out (j := 0) rfl
    have x1 := blk_cell HB5.out (j := 1) rfl
    have x2 := blk_cell HB5.out (j := 2) rfl
    have x3 := blk_cell HB5.out (j := 3) rfl
    have f0 := blk_frozen HB5.out 0
    have f1 := blk_frozen HB5.out 1
    have f2 := blk_frozen HB5.out 2
    have f3 := blk_frozen HB5.out 3
    go_wp2
    change bodyPost _ _ _ _ _ (put4 w5 w.heap.size (.int .i64 k) (.slice q3 xs.length c3) (.string nm) (.int .i64 p))
    have hW := put4_blk HB5.out (.int .i64 k) (.slice q3 xs.length c3) (.string nm) (.int .i64 p)
    have cW := put4_chg w5 w.heap.size (.int .i64 k) (.slice q3 xs.length c3) (.string nm) (.int .i64 p)
    generalize put4 w5 w.heap.size (.int .i64 k) (.slice q3 xs.length c3) (.string nm) (.int .i64 p) = wz at *
    have y0 := blk_cell hW (j := 0) rfl
    have y1 := blk_cell hW (j := 1) rfl
    have y2 := blk_cell hW (j := 2) rfl
    have y3 := blk_cell hW (j := 3) rfl
    exact bodyPost_ret (v := .tuple #[.agg #[.int .i64 k, .slice q3 xs.length c3, .string nm, .int .i64 p], .int .i64 ((S tt).size : Int), .bool true]) (by simp [results, Tryz.results41, go_sem, y0, y1, y2, y3]) rfl (ConPost.yes HS.out (by rw [HSZ.out]) (cW.gr G5 (Nat.le_refl _)))
end Go.Proofs.YtdbepkcpdglppaaGreatDoor
