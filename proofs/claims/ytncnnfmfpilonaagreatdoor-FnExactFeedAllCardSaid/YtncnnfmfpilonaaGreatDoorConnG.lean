/- Tunnels out of texts: the reference's walk. -/
import Derived.Test.YtncnnfmfpilonaaGreatDoorConnF
import Derived.Deep.RegionWith
import Derived.Deep.DeepCutAuto
namespace Go.Proofs.YtncnnfmfpilonaaGreatDoor
open Go.RowKit
theorem prefix_take (l t : Tx) : Lib.hasPrefix l t = (decide (t.length ≤ l.length) && decide (l.take t.length = t)) := by
  unfold Lib.hasPrefix
  rw [Bool.eq_iff_iff, List.isPrefixOf_iff_prefix, List.prefix_iff_eq_take]
  simp only [Bool.and_eq_true, decide_eq_true_eq]
  constructor
  · intro h
    refine ⟨?_, h.symm⟩
    have := congrArg List.length h
    rw [List.length_take] at this
    omega
  · rintro ⟨_, h⟩
    exact h.symm
set_option maxHeartbeats 1000000 in
theorem l14Begins_c (w : World) (s b : ByteArray) :
    Calls Tryz.prog 113 #[.string s, .string b] w fun e w' => e = .returned (.bool (Lib.hasPrefix (tx s) (tx b))) ∧ w = w' := by
  have HP := Lib.hid (prefix_take (tx s) (tx b))
  rw [tx_len, tx_len] at HP
  by_cases hle : b.size ≤ s.size
  · have hle' : decide (b.size ≤ s.size) = true := by simpa using hle
    have htl := tl_eq (s.extract 0 b.size) b
    have ex : tx (s.extract 0 b.size) = (tx s).take b.size := by rw [tx_ext_slice]; simp
    rw [ex] at htl
    have HR : Hid (Lib.hasPrefix (tx s) (tx b) = decide ((tx s).take b.size = tx b)) := Lib.hid (by rw [HP.out, hle']; rfl)
    clear ex HP
    generalize decide ((tx s).take b.size = tx b) = z at *
    go_enter Tryz.func113, Tryz.ntmps113
    go_wp2
    go_ret
    exact ⟨ret_bool HR.out.symm, rfl⟩
  · have hle' : decide (b.size ≤ s.size) = false := by simpa using hle
    have HR : Hid (Lib.hasPrefix (tx s) (tx b) = false) := Lib.hid (by rw [HP.out, hle']; rfl)
    clear HP
    go_enter Tryz.func113, Tryz.ntmps113
    go_wp2
    go_ret
    exact ⟨ret_bool HR.out.symm, rfl⟩
theorem word_hit {l : Tx} {k : Nat} (hk : k < l.length) (h : l[k]? = some 32) (hn : ∀ j, j < k → l[j]? ≠ some 32) : wordOf l = l.take k := by
  have e : l = l.take k ++ 32 :: l.drop (k + 1) := by
    conv => lhs; rw [← List.take_append_drop k l, List.drop_eq_getElem_cons hk]
    rw [List.getElem?_eq_getElem hk] at h
    rw [Option.some.inj h]
  have hm : (32 : UInt8) ∉ l.take k := by
    intro hm
    obtain ⟨j, hj, he⟩ := List.getElem_of_mem hm
    rw [List.length_take] at hj
    rw [List.getElem_take] at he
    exact hn j (by omega) (by rw [List.getElem?_eq_getElem (by omega), he])
  have hi : (32 : UInt8) ∈ l := by rw [e]; simp
  unfold wordOf
  rw [if_pos hi]
  conv => lhs; rw [e]
  rw [cutB_hit hm]
  rfl
theorem word_miss {l : Tx} (hn : ∀ j, j < l.length → l[j]? ≠ some 32) : wordOf l = [] := by
  unfold wordOf
  rw [if_neg]
  intro hm
  obtain ⟨j, hj, he⟩ := List.getElem_of_mem hm
  exact hn j hj (by rw [List.getElem?_eq_getElem hj, he])
theorem tx_getO {s : ByteArray} {k : Nat} (h : k < s.size) : (tx s)[k]? = some s[k] := by
  have hl : k < (tx s).length := by rw [tx_len]; exact h
  rw [List.getElem?_eq_getElem hl]
  rfl
set_option maxHeartbeats 1000000 in
theorem l14Word_c (w : World) (s : ByteArray) (hs : s.size ≤ 2000000) (hf : 8 ≤ s.size) :
    Calls Tryz.prog 115 #[.string s, .int .i64 8] w fun e w' => e = .returned (.string (S (wordOf ((tx s).drop 8)))) ∧ w = w' := by
  have HW : Hid (∀ k, 8 ≤ k → k < s.size → (tx s)[k]? = some 32 → (∀ j, 8 ≤ j → j < k → (tx s)[j]? ≠ some 32) → s.extract 8 k = S (wordOf ((tx s).drop 8))) := Lib.hid fun k h1 h2 h3 h4 => by
    apply tx_ext
    rw [tx_S, word_hit (k := k - 8) (by rw [List.length_drop, tx_len]; omega) (by rw [List.getElem?_drop, show 8 + (k - 8) = k by omega]; exact h3) (fun j hj => by rw [List.getElem?_drop]; exact h4 _ (by omega) (by omega)), tx_ext_slice, List.take_drop, show 8 + (k - 8) = k by omega]
  have HN : Hid ((∀ j, 8 ≤ j → j < s.size → (tx s)[j]? ≠ some 32) → (⟨#[]⟩ : ByteArray) = S (wordOf ((tx s).drop 8))) := Lib.hid fun h => by
    rw [word_miss (fun j hj => by rw [List.length_drop, tx_len] at hj; rw [List.getElem?_drop]; exact h _ (by omega) (by omega))]; rfl
  generalize S (wordOf ((tx s).drop 8)) = r at *
  go_enter Tryz.func115, Tryz.ntmps115
  go_wp2_with fail
  go_loop [5] (fun i => ∃ k : Nat, 8 ≤ k ∧ k ≤ s.size ∧ i = .int .i64 k ∧ Hid (∀ j, 8 ≤ j → j < k → (tx s)[j]? ≠ some 32)) (fun i => s.size - (intOf i).toNat)
  case atStart => exact ⟨8, Nat.le_refl _, hf, rfl, by rw [Hid]; intro j h1 h2; omega⟩
  case round =>
    obtain ⟨k, hk0, hk, rfl, hall⟩ := hrel
    by_cases hlt : k < s.size
    · have hg := tx_getO hlt
      by_cases h0 : s[k] = 32
      · have HR := Lib.hid (HW.out k hk0 hlt (by rw [hg, h0]) hall.out)
        have h0' : ((s[k].toNat : Int) == 32) = true := by rw [h0]; rfl
        have hk8 : (8 : Int) ≤ (k : Int) := by omega
        clear hg h0
        go_wp2
        go_ret
        first | exact ⟨rfl, rfl⟩ | exact ⟨ret_str HR.out, rfl⟩
      · have h0' : ((s[k].toNat : Int) == 32) = false := by
          rw [beq_eq_false_iff_ne]
          intro e
          exact h0 (UInt8.toNat_inj.1 (by rw [show (32 : UInt8).toNat = 32 from rfl]; omega))
        have HA : Hid (∀ j, 8 ≤ j → j < k + 1 → (tx s)[j]? ≠ some 32) := Lib.hid fun j h1 h2 => by
          by_cases e : j = k
          · subst e; rw [hg]; intro e; exact h0 (Option.some.inj e)
          · exact hall.out j h1 (by omega)
        clear hg h0
        go_wp2
        go_round
        case rel => exact ⟨k + 1, by omega, by omega, by go_num, HA.out⟩
        case measure => simp [intOf]; omega
    · have HR := Lib.hid (HN.out fun j h1 h2 => hall.out j h1 (by omega))
      go_wp2
      go_ret
      first | exact ⟨rfl, rfl⟩ | exact ⟨ret_str HR.out, rfl⟩
theorem put4n_cell {W : World} {b : Nat} {p : Addr} {v : Value} (hp : b < p.block) (hc : W.cell? p = some v) (a0 a1 a2 a3 : Value) : ((((W.setCell ⟨b, 0, none⟩ a0).setCell ⟨b, 1, none⟩ a1).setCell ⟨b, 2, none⟩ a2).setCell ⟨b, 3, none⟩ a3).cell? p = some v := by
  have h := (put4_chg W b a0 a1 a2 a3).block p.block (.inr hp)
  rw [← hc]
  show (put4 W b a0 a1 a2 a3).cell? p = W.cell? p
  unfold World.cell?
  rw [h]
/-- What ConnectFrom leaves behind. -/
def ConEnd (w : World) (cs : Array Value) (wx : World) : Prop := wx.heap[w.heap.size]? = some (.cells cs 24 (0, 0)) ∧ Gr w wx
theorem ConEnd.put {w w6 : World} {c0 c1 c2 c3 : Value} (h : w6.heap[w.heap.size]? = some (.cells #[c0, c1, c2, c3] 24 (0, 0))) (g : Gr w w6) (a0 a1 a2 a3 : Value) :
    ConEnd w #[a0, a1, a2, a3] ((((w6.setCell ⟨w.heap.size, 0, none⟩ a0).setCell ⟨w.heap.size, 1, none⟩ a1).setCell ⟨w.heap.size, 2, none⟩ a2).setCell ⟨w.heap.size, 3, none⟩ a3) :=
  ⟨put4_blk h a0 a1 a2 a3, (put4_chg w6 w.heap.size a0 a1 a2 a3).gr g (Nat.le_refl _)⟩
theorem ConEnd.kept {w wx wy : World} {cs : Array Value} (h : ConEnd w cs wx) (g : Gr wx wy) : ConEnd w cs wy := ⟨g.blk h.1, h.2.trans g⟩
theorem connFrom_no {l : Tx} (h : Lib.hasPrefix l tunnelT = false) : (connFrom l).map (·.2) = none := by unfold connFrom; rw [h]; rfl
theorem connFrom_fail {l : Tx} (h0 : Lib.hasPrefix l tunnelT = true) (h : addrFrom (wordOf (l.drop 8)) = none) : (connFrom l).map (·.2) = none := by unfold connFrom; rw [if_pos h0, h]; rfl
theorem connFrom_pre {l : Tx} (h0 : Lib.hasPrefix l tunnelT = true) {a : Adr} (h : addrFrom (wordOf (l.drop 8)) = some a) (hp : Lib.hasPrefix l (connText (addrText a)) = false) : (connFrom l).map (·.2) = none := by
  unfold connFrom; rw [if_pos h0, h]; simp only [connOf, hp]; rfl
theorem connFrom_yes {l : Tx} (h0 : Lib.hasPrefix l tunnelT = true) {a : Adr} (h : addrFrom (wordOf (l.drop 8)) = some a) (hp : Lib.hasPrefix l (connText (addrText a)) = true) : (connFrom l).map (·.2) = some (connText (addrText a)).length := by
  unfold connFrom; rw [if_pos h0, h]; simp only [connOf, hp]; rfl
theorem word_len (l : Tx) : (wordOf l).length ≤ l.length := by
  unfold wordOf
  split
  · rename_i h
    have := cutB_piece 32 l
    cases hc : cutB 32 l with
    | nil => simp
    | cons x xs => exact this x (by rw [hc]; simp)
  · simp
set_option maxRecDepth 20000 in
set_option maxHeartbeats 4000000 in
theorem specConnectFrom_c (w : World) (s : ByteArray) (hs : s.size ≤ 1048576) :
    Calls Tryz.prog 68 #[.string s] w (ConPost ((connFrom (tx s)).map (·.2)) w) := by
  have gA := gr_alloc w (.cells #[.int .i64 0, .slice none 0 0, .string ⟨#[]⟩, .int .i64 0] 24)
  have hB0 := heap_alloc_new w (.cells #[.int .i64 0, .slice none 0 0, .string ⟨#[]⟩, .int .i64 0] 24)
  have hz0 : w.heap.size < (w.alloc (.cells #[.int .i64 0, .slice none 0 0, .string ⟨#[]⟩, .int .i64 0] 24)).heap.size := by simp
  have FN := @connFrom_no (tx s)
  have FA := @connFrom_fail (tx s)
  have FP := @connFrom_pre (tx s)
  have FY := @connFrom_yes (tx s)
  have BG := fun W : World => l14Begins_c W s ⟨#[67, 79, 78, 78, 69, 67, 84, 32]⟩
  rw [show tx ⟨#[67, 79, 78, 78, 69, 67, 84, 32]⟩ = tunnelT from rfl] at BG
  generalize (connFrom (tx s)).map (·.2) = o at *
  cases hpre : Lib.hasPrefix (tx s) tunnelT
  · have HN := Lib.hid (FN hpre)
    rw [hpre] at BG
    have BGH := Lib.hid BG
    clear hpre FN FA FP FY BG
    go_enter Tryz.func68, Tryz.ntmps68
    go_wp2_with fail
    (with_reducible refine (BGH.out _).mono ?_); rintro e w1 ⟨rfl, rfl⟩
    generalize hW0 : w.alloc (.cells #[.int .i64 0, .slice none 0 0, .string ⟨#[]⟩, .int .i64 0] 24) = w0 at *
    have x0 := blk_cell hB0 (j := 0) rfl
    have x1 := blk_cell hB0 (j := 1) rfl
    have x2 := blk_cell hB0 (j := 2) rfl
    have x3 := blk_cell hB0 (j := 3) rfl
    have f0 := blk_frozen hB0 0
    have f1 := blk_frozen hB0 1
    have f2 := blk_frozen hB0 2
    have f3 := blk_frozen hB0 3
    go_wp2
    change bodyPost _ _ _ _ _ (put4 w0 w.heap.size (.int .i64 0) (.slice none 0 0) (.string ⟨#[]⟩) (.int .i64 0))
    have hW := put4_blk hB0 (.int .i64 0) (.slice none 0 0) (.string ⟨#[]⟩) (.int .i64 0)
    have cW := put4_chg w0 w.heap.size (.int .i64 0) (.slice none 0 0) (.string ⟨#[]⟩) (.int .i64 0)
    generalize put4 w0 w.heap.size (.int .i64 0) (.slice none 0 0) (.string ⟨#[]⟩) (.int .i64 0) = wz at *
    have y0 := blk_cell hW (j := 0) rfl
    have y1 := blk_cell hW (j := 1) rfl
    have y2 := blk_cell hW (j := 2) rfl
    have y3 := blk_cell hW (j := 3) rfl
    exact bodyPost_ret (v := .tuple #[.agg #[.int .i64 0, .slice none 0 0, .string ⟨#[]⟩, .int .i64 0], .int .i64 0, .bool false]) (by simp [results, Tryz.results68, go_sem, y0, y1, y2, y3]) rfl (ConPost.no HN.out (cW.gr gA (Nat.le_refl _)))
  have h8 : 8 ≤ s.size := by
    have := prefix_take (tx s) tunnelT
    rw [hpre, tx_len] at this
    simp only [Bool.true_eq, Bool.and_eq_true, decide_eq_true_eq] at this
    exact this.1
  have FA := FA hpre
  have FP := @FP hpre
  have FY := @FY hpre
  rw [hpre] at BG
  have BGH := Lib.hid BG
  have WD := Lib.hid (fun W : World => l14Word_c W s (by omega) h8)
  have htl := word_len ((tx s).drop 8)
  rw [List.length_drop, tx_len] at htl
  clear BG FN
  generalize wordOf ((tx s).drop 8) = t at *
  obtain ⟨k, xs, nm, p, ok, hA⟩ := adrIs_some t
  have hnm := hA.nm
  have AF := Lib.hid (fun (W : World) => specAddressFrom_c W (S t) (by rw [S_len]; omega) (k := k) (p := p) (xs := xs) (nm := nm) (ok := ok) (Lib.hid (by rw [tx_S]; exact hA)))
  have hAk : (ok = true ∧ addrFrom t = some ⟨k, xs, tx nm, p⟩ ∧ adrOk ⟨k, xs, tx nm, p⟩ = true) ∨ (ok = false ∧ addrFrom t = none) := by
    rcases hA with ⟨h1, h2⟩ | ⟨h1, _, _, _, _, h2⟩
    · exact .inl ⟨h2, h1, (addrFrom_sound h1).1⟩
    · exact .inr ⟨h2, h1⟩
  clear hA htl hpre
  go_enter Tryz.func68, Tryz.ntmps68
  go_wp2_with fail
  generalize hW0 : w.alloc (.cells #[.int .i64 0, .slice none 0 0, .string ⟨#[]⟩, .int .i64 0] 24) = w0 at *
  have HW0 := Lib.hid hW0
  have HB0 := Lib.hid hB0
  clear hW0 hB0
  (with_reducible refine (BGH.out _).mono ?_); rintro e w1 ⟨rfl, rfl⟩
  go_wp2_with fail
  (with_reducible refine (WD.out _).mono ?_); rintro e w1 ⟨rfl, rfl⟩
  go_wp2_with fail
  (with_reducible refine (AF.out _).mono ?_); rintro e w3 ⟨q3, c3, rfl, o3, g3⟩
  have G3 := gA.trans g3
  have HB3 := Lib.hid (g3.blk HB0.out)
  have gD := gr_alloc w3 (.cells #[.int .i64 k, .slice q3 xs.length c3, .string nm, .int .i64 p] 24)
  have hD := heap_alloc_new w3 (.cells #[.int .i64 k, .slice q3 xs.length c3, .string nm, .int .i64 p] 24)
  have G4 := G3.trans gD
  have HB4 := Lib.hid (gD.blk HB3.out)
  have o4 := o3.b.kept gD
  have z3 := g3.sz
  rcases hAk with ⟨rfl, ha, hok⟩ | ⟨rfl, ha⟩
  rotate_left
  · have HN := Lib.hid (FA ha)
    clear ha FA FP FY
    go_upto_region 4 with fail
    generalize hW4 : w3.alloc (.cells #[.int .i64 k, .slice q3 xs.length c3, .string nm, .int .i64 p] 24) = w4 at *
    have x0 := blk_cell HB4.out (j := 0) rfl
    have x1 := blk_cell HB4.out (j := 1) rfl
    have x2 := blk_cell HB4.out (j := 2) rfl
    have x3 := blk_cell HB4.out (j := 3) rfl
    have f0 := blk_frozen HB4.out 0
    have f1 := blk_frozen HB4.out 1
    have f2 := blk_frozen HB4.out 2
    have f3 := blk_frozen HB4.out 3
    go_wp2
    change bodyPost _ _ _ _ _ (put4 w4 w.heap.size (.int .i64 0) (.slice none 0 0) (.string ⟨#[]⟩) (.int .i64 0))
    have hW := put4_blk HB4.out (.int .i64 0) (.slice none 0 0) (.string ⟨#[]⟩) (.int .i64 0)
    have cW := put4_chg w4 w.heap.size (.int .i64 0) (.slice none 0 0) (.string ⟨#[]⟩) (.int .i64 0)
    generalize put4 w4 w.heap.size (.int .i64 0) (.slice none 0 0) (.string ⟨#[]⟩) (.int .i64 0) = wz at *
    have y0 := blk_cell hW (j := 0) rfl
    have y1 := blk_cell hW (j := 1) rfl
    have y2 := blk_cell hW (j := 2) rfl
    have y3 := blk_cell hW (j := 3) rfl
    exact bodyPost_ret (v := .tuple #[.agg #[.int .i64 0, .slice none 0 0, .string ⟨#[]⟩, .int .i64 0], .int .i64 0, .bool false]) (by simp [results, Tryz.results68, go_sem, y0, y1, y2, y3]) rfl (ConPost.no HN.out (cW.gr G4 (Nat.le_refl _)))
  have CT := fun (W : World) (h3 : IntS W (.slice q3 xs.length c3) xs) => ConnectText_c k p nm h3 hnm
  rw [hok, if_pos rfl] at CT
  have FP := FP ha
  have FY := FY ha
  have hlt : (connText (addrText ⟨k, xs, tx nm, p⟩)).length ≤ 2000000 := by
    have := addrText_len hok
    rw [connText_len]; omega
  clear ha hok FA
  generalize connText (addrText ⟨k, xs, tx nm, p⟩) = tt at *
  have hsz : (S tt).size = tt.length := S_len _
  have HPx := fun W : World => l14Begins_c W s (S tt)
  rw [tx_S] at HPx
  have CTH := Lib.hid CT
  have CTG : Hid (∀ {w5 : World} {B T : Nat}, IntB B T 3 w5 (.slice q3 xs.length c3) xs → Hid (∀ W, Gr w5 W → Calls Tryz.prog 116 #[.agg #[.int .i64 k, .slice q3 xs.length c3, .string nm, .int .i64 p]] W fun e w' => e = .returned (.string (S tt)) ∧ Gr W w')) := Lib.hid fun hh => Lib.hid fun W g => CT W (hh.kept g).s
  clear CT
  go_wp2_with fail
  generalize hW4 : w3.alloc (.cells #[.int .i64 k, .slice q3 xs.length c3, .string nm, .int .i64 p] 24) = w4 at *
  have HW4 := Lib.hid hW4
  have HD := Lib.hid hD
  have HSZ := Lib.hid hsz
  clear hW4 hD gD hsz
  cases hp : Lib.hasPrefix (tx s) tt
  · have HN := Lib.hid (FP hp)
    rw [hp] at HPx
    have HPH := Lib.hid HPx
    clear hp FP FY HPx
    (with_reducible refine (CTH.out _ o4.s).mono ?_); rintro e w5 ⟨rfl, g5⟩
    have G5 := G4.trans g5
    have HB5 := Lib.hid (g5.blk HB4.out)
    go_wp2_with fail
    (with_reducible refine (HPH.out _).mono ?_); rintro e w6 ⟨rfl, rfl⟩
    have x0 := blk_cell HB5.out (j := 0) rfl
    have x1 := blk_cell HB5.out (j := 1) rfl
    have x2 := blk_cell HB5.out (j := 2) rfl
    have x3 := blk_cell HB5.out (j := 3) rfl
    have f0 := blk_frozen HB5.out 0
    have f1 := blk_frozen HB5.out 1
    have f2 := blk_frozen HB5.out 2
    have f3 := blk_frozen HB5.out 3
    go_wp2
    change bodyPost _ _ _ _ _ (put4 w5 w.heap.size (.int .i64 0) (.slice none 0 0) (.string ⟨#[]⟩) (.int .i64 0))
    have hW := put4_blk HB5.out (.int .i64 0) (.slice none 0 0) (.string ⟨#[]⟩) (.int .i64 0)
    have cW := put4_chg w5 w.heap.size (.int .i64 0) (.slice none 0 0) (.string ⟨#[]⟩) (.int .i64 0)
    generalize put4 w5 w.heap.size (.int .i64 0) (.slice none 0 0) (.string ⟨#[]⟩) (.int .i64 0) = wz at *
    have y0 := blk_cell hW (j := 0) rfl
    have y1 := blk_cell hW (j := 1) rfl
    have y2 := blk_cell hW (j := 2) rfl
    have y3 := blk_cell hW (j := 3) rfl
    exact bodyPost_ret (v := .tuple #[.agg #[.int .i64 0, .slice none 0 0, .string ⟨#[]⟩, .int .i64 0], .int .i64 0, .bool false]) (by simp [results, Tryz.results68, go_sem, y0, y1, y2, y3]) rfl (ConPost.no HN.out (cW.gr G5 (Nat.le_refl _)))
  · have HS := Lib.hid (FY hp)
    rw [hp] at HPx
    have HPH := Lib.hid HPx
    clear hp FP FY HPx
    (with_reducible refine (CTH.out _ o4.s).mono ?_); rintro e w5 ⟨rfl, g5⟩
    have G5 := G4.trans g5
    have HB5 := Lib.hid (g5.blk HB4.out)
    have HD5 := Lib.hid (g5.blk HD.out)
    have o5 := o4.kept g5
    go_wp2_with fail
    (with_reducible refine (HPH.out _).mono ?_); rintro e w6 ⟨rfl, rfl⟩
    have z5 := g5.sz
    have hb4 : w.heap.size < w3.heap.size := by omega
    have SL1 := CTG.out o5
    have o5n := o5.chg (put4_chg w5 w.heap.size (.int .i64 k) (.slice q3 xs.length c3) (.string nm) (.int .i64 p)) (.inr (Nat.succ_le_of_lt hz0))
    have SL2 : Hid (∀ W, Gr ((((w5.setCell ⟨w.heap.size, 0, none⟩ (.int .i64 k)).setCell ⟨w.heap.size, 1, none⟩ (.slice q3 xs.length c3)).setCell ⟨w.heap.size, 2, none⟩ (.string nm)).setCell ⟨w.heap.size, 3, none⟩ (.int .i64 p)) W → Calls Tryz.prog 116 #[.agg #[.int .i64 k, .slice q3 xs.length c3, .string nm, .int .i64 p]] W fun e w' => e = .returned (.string (S tt)) ∧ Gr W w') := CTG.out o5n
    have HE := Lib.hid (ConEnd.put HB5.out G5 (.int .i64 k) (.slice q3 xs.length c3) (.string nm) (.int .i64 p))
    have s0 := blk_cell HD5.out (j := 0) rfl
    have s1 := blk_cell HD5.out (j := 1) rfl
    have s2 := blk_cell HD5.out (j := 2) rfl
    have s3 := blk_cell HD5.out (j := 3) rfl
    have n0 := put4n_cell (p := ⟨w3.heap.size, 0, none⟩) hb4 s0 (.int .i64 k) (.slice q3 xs.length c3) (.string nm) (.int .i64 p)
    have n1 := put4n_cell (p := ⟨w3.heap.size, 1, none⟩) hb4 s1 (.int .i64 k) (.slice q3 xs.length c3) (.string nm) (.int .i64 p)
    have n2 := put4n_cell (p := ⟨w3.heap.size, 2, none⟩) hb4 s2 (.int .i64 k) (.slice q3 xs.length c3) (.string nm) (.int .i64 p)
    have n3 := put4n_cell (p := ⟨w3.heap.size, 3, none⟩) hb4 s3 (.int .i64 k) (.slice q3 xs.length c3) (.string nm) (.int .i64 p)
    have N := Lib.hid (And.intro n0 (And.intro n1 (And.intro n2 n3)))
    have x0 := blk_cell HB5.out (j := 0) rfl
    have x1 := blk_cell HB5.out (j := 1) rfl
    have x2 := blk_cell HB5.out (j := 2) rfl
    have x3 := blk_cell HB5.out (j := 3) rfl
    have f0 := blk_frozen HB5.out 0
    have f1 := blk_frozen HB5.out 1
    have f2 := blk_frozen HB5.out 2
    have f3 := blk_frozen HB5.out 3
    clear CTH CTG HPH BGH WD AF gA g3 G3 G4 HB0 hnm hlt HW0 o3 o4 HB3 z3 z5 g5 HD HB4 HW4 n0 n1 n2 n3 o5 o5n hz0
    have HLT := Lib.hid hb4
    clear hb4
    go_upto_region 6 with fail
    go_cut [3, 4] (fun b c wx => b = .int .i64 ((S tt).size : Int) ∧ c = .bool true ∧ ConEnd w #[.int .i64 k, .slice q3 xs.length c3, .string nm, .int .i64 p] wx)
    case first =>
      go_region_held3 (fun w' => w'.cell? ⟨w3.heap.size, 0, none⟩ = some (.int .i64 k) ∧ w'.cell? ⟨w3.heap.size, 1, none⟩ = some (.slice q3 xs.length c3) ∧ w'.cell? ⟨w3.heap.size, 2, none⟩ = some (.string nm) ∧ w'.cell? ⟨w3.heap.size, 3, none⟩ = some (.int .i64 p)) (first | (exact ⟨g6.cell s0, g6.cell s1, g6.cell s2, g6.cell s3⟩) | (exact N.out) | (exact N6.out) | (exact ⟨g7.cell N.out.1, g7.cell N.out.2.1, g7.cell N.out.2.2.1, g7.cell N.out.2.2.2⟩) | go_keep) (first
        | (go_at_call 116; (with_reducible refine (SL1.out _ (by repeat (first | exact Gr.refl _ | refine Gr.drew ?_))).mono ?_); rintro e w6 ⟨rfl, g6'⟩; have g6 : Gr w5 w6 := Gr.trans (by repeat (first | exact Gr.refl _ | refine Gr.drew ?_)) g6'; have HB6 := Lib.hid (g6.blk HB5.out); have G6 := G5.trans g6; have u0 := blk_cell HB6.out (j := 0) rfl; have u1 := blk_cell HB6.out (j := 1) rfl; have u2 := blk_cell HB6.out (j := 2) rfl; have u3 := blk_cell HB6.out (j := 3) rfl; have v0 := blk_frozen HB6.out 0; have v1 := blk_frozen HB6.out 1; have v2 := blk_frozen HB6.out 2; have v3 := blk_frozen HB6.out 3; have N6 := Lib.hid (And.intro (put4n_cell HLT.out (g6.cell s0) (.int .i64 k) (.slice q3 xs.length c3) (.string nm) (.int .i64 p)) (And.intro (put4n_cell HLT.out (g6.cell s1) (.int .i64 k) (.slice q3 xs.length c3) (.string nm) (.int .i64 p)) (And.intro (put4n_cell HLT.out (g6.cell s2) (.int .i64 k) (.slice q3 xs.length c3) (.string nm) (.int .i64 p)) (put4n_cell HLT.out (g6.cell s3) (.int .i64 k) (.slice q3 xs.length c3) (.string nm) (.int .i64 p))))))
        | (go_at_call 116; (with_reducible refine (SL2.out _ (by repeat (first | exact Gr.refl _ | refine Gr.drew ?_))).mono ?_); rintro e w7 ⟨rfl, g7'⟩; have g7 : Gr ((((w5.setCell ⟨w.heap.size, 0, none⟩ (.int .i64 k)).setCell ⟨w.heap.size, 1, none⟩ (.slice q3 xs.length c3)).setCell ⟨w.heap.size, 2, none⟩ (.string nm)).setCell ⟨w.heap.size, 3, none⟩ (.int .i64 p)) w7 := Gr.trans (by repeat (first | exact Gr.refl _ | refine Gr.drew ?_)) g7'))
      all_goals
        go_wp2_with fail
        go_meet
        first
          | exact ⟨rfl, rfl, ConEnd.put HB6.out G6 _ _ _ _⟩
          | exact ⟨rfl, rfl, (ConEnd.put HB6.out G6 _ _ _ _).kept ((Gr.refl _).drew)⟩
          | exact ⟨rfl, rfl, HE.out.kept g7⟩
          | exact ⟨rfl, rfl, (HE.out.kept g7).kept ((Gr.refl _).drew)⟩
    case rest =>
      obtain ⟨rfl, rfl, hE1, hE2⟩ := hcut
      clear x0 x1 x2 x3 f0 f1 f2 f3 s0 s1 s2 s3
      have y0 := blk_cell hE1 (j := 0) rfl
      have y1 := blk_cell hE1 (j := 1) rfl
      have y2 := blk_cell hE1 (j := 2) rfl
      have y3 := blk_cell hE1 (j := 3) rfl
      go_wp2
      exact bodyPost_ret (v := .tuple #[.agg #[.int .i64 k, .slice q3 xs.length c3, .string nm, .int .i64 p], .int .i64 ((S tt).size : Int), .bool true]) (by simp [results, Tryz.results68, go_sem, y0, y1, y2, y3]) rfl (ConPost.yes HS.out (by rw [HSZ.out]) hE2)
end Go.Proofs.YtncnnfmfpilonaaGreatDoor
