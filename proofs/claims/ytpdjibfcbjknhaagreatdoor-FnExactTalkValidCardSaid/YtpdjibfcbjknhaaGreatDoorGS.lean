/- impl: the texts of quads, hosts, addresses and pairs.
impl: quads out of texts.
impl: the line of a pair. -/
import Derived.Test.YtpdjibfcbjknhaaGreatDoorNameI
import Derived.Test.YtpdjibfcbjknhaaGreatDoorGE
import Derived.Deep.RegionHeld3
import Derived.Deep.RegionWith
import Derived.Test.YtpdjibfcbjknhaaGreatDoorGR
namespace Go.Proofs.YtpdjibfcbjknhaaGreatDoor
open Go.RowKit
theorem made_strs (n : Nat) : (madeCells (Value.string ByteArray.empty).cells (n * 1)).toList = txs (List.replicate n []) := by
  rw [show (Value.string ByteArray.empty).cells = #[Value.string ByteArray.empty] from rfl, Nat.mul_one, toList_madeCells_one]
  simp [txs]
  exact .inr rfl
theorem wpl_makeS {w : World} {ops : Array Oper} {rest : List Oper} {o : Oper} {a : Act} {Q : Exit → Act → World → Prop} (hgd : o.guard = none) (l c : Operand)
    (ho : o.op = Op.makeSlice 111 l c) {n : Nat} (hl : a.eval l = .int .i64 (n : Int)) (hc : a.eval c = .int .i64 (n : Int)) (hn : n ≤ 1000000000)
    (h : ∀ (p : Option Addr) w', StrO w.heap.size w' (.slice p n n) (List.replicate n []) → Gr w w' → wpList Tryz.prog ops Q rest (a.put o.dst (.slice p n n)) w') : wpList Tryz.prog ops Q (o :: rest) a w := by
  obtain ⟨i0, hi, hz, hs', hby⟩ := infoS
  refine wpList_make_full w hgd l c _ ho w.heap.size _ i0 _ 1 uS hi hz hs' .i64 .i64 n n n hl hc rfl rfl (by rw [hby]; omega) (by unfold maxLen; omega) (Nat.le_refl _)
    fun w' h1 h2 => h _ w' ?_ ((Below.refl _ w).grown h2 (Nat.le_refl _) (by simp))
  unfold StrO; rw [List.length_replicate, ← made_strs]; exact h1
theorem txs_set (ls : List Tx) (k : Nat) (l : Tx) : (txs ls).set k (.string (S l)) = txs (ls.set k l) := by simp [txs]
theorem StrO.ixO {B : Nat} {w : World} {v : Value} {ls : List Tx} (h : StrO B w v ls) {k : Nat} (hk : k < ls.length) :
    ∃ a : Addr, (∀ w1, (Instr.indexAt 111 v (.int .i64 (k : Int))).run Tryz.prog w1 = .ok (.pointer (some a)) w1) ∧ B ≤ a.block ∧ a.block < w.heap.size ∧
      w.cell? a = some (.string (S (nthS ls k))) ∧ w.frozen? a = false ∧ ∀ l, StrO B (w.setCell a (.string (S l))) v (ls.set k l) := by
  obtain ⟨i, hi, _, hs, _⟩ := infoS
  obtain ⟨a, h1, h2, h3, h4, h5, h6, h7⟩ := Own.at h uS hi hs hk
  have e0 := addr_add_zero a
  refine ⟨a, h1, h2, h3, ?_, ?_, fun l => ?_⟩
  · have := h4 0 _ (by simpa using txs_nth ls k hk)
    rwa [e0] at this
  · have := h5 0; rwa [e0] at this
  · have := h6 0 (.string (S l))
    rw [e0] at this
    unfold StrO
    rw [List.length_set, ← txs_set]
    simpa using this
theorem StrO.len {B : Nat} {w : World} {v : Value} {ls : List Tx} (h : StrO B w v ls) : ∃ p cap, v = .slice p ls.length cap := by
  obtain ⟨p, cap, h1, _⟩ := h.s.form; exact ⟨p, cap, h1⟩
theorem set_prefixS {ls ds : List Tx} {n k : Nat} (hn : ds.length = n) (hk : k < n) (h : ls = ds.take k ++ List.replicate (n - k) []) : ls.set k (nthS ds k) = ds.take (k + 1) ++ List.replicate (n - (k + 1)) [] := by
  subst h hn
  have h1 : (ds.take k).length = k := by rw [List.length_take]; omega
  rw [List.set_append_right _ _ (by omega), h1, Nat.sub_self, show ds.length - k = (ds.length - (k+1)) + 1 by omega, List.replicate_succ, List.set_cons_zero,
    List.take_succ_eq_append_getElem hk, nthS_eq hk, List.append_assoc]
  rfl
def decs (xs : List Int) : List Tx := xs.map fun x => dec x.toNat
theorem decs_len (xs : List Int) : (decs xs).length = xs.length := by simp [decs]
theorem decs_nth {xs : List Int} {k : Nat} (h : k < xs.length) : nthS (decs xs) k = dec (nth xs k).toNat := by
  rw [nthS_eq (by rw [decs_len]; exact h), nth_eq h]; simp [decs]
theorem decs_join {xs : List Int} (h : xs.length = 4) : Lib.join (decs xs) [46] = quadText xs := by
  match xs, h with
  | [a, b, c, d], _ =>
    show Lib.join [dec a.toNat, dec b.toNat, dec c.toNat, dec d.toNat] [46] = _
    rw [join4]; rfl
set_option maxHeartbeats 2000000 in
theorem implQuadText_c {w : World} {v : Value} {xs : List Int} (ht : Tab w) (h : IntS w v xs) (hok : quadOk xs = true) :
    Calls Tryz.prog 164 #[v] w fun e w' => e = .returned (.string (S (quadText xs))) ∧ Gr w w' := by
  obtain ⟨p, cap, rfl, _, _⟩ := h.form
  obtain ⟨h4, hb⟩ := quad_bytes hok
  have HJ := Lib.hid (decs_join h4)
  have HL := Lib.hid (quadText_len hok)
  have HB : Hid (∀ k, k < xs.length → 0 ≤ nth xs k ∧ nth xs k ≤ 255) := Lib.hid fun k hk => hb k (by omega)
  have HX := Lib.hid h4
  have h10 : xs.length ≤ 10 := by omega
  clear hb h4 hok
  go_enter Tryz.func164, Tryz.ntmps164
  go_wp2_with (refine wpl_makeS (n := xs.length) rfl _ _ rfl rfl rfl (by omega) ?_; intro p1 w1 o1 hg1)
  go_loopw [11] (fun i wr => ∃ (k : Nat) (ls : List Tx), k ≤ xs.length ∧ i = .int .i64 k ∧ Hid (ls = (decs xs).take k ++ List.replicate (xs.length - k) []) ∧ Gr w wr ∧ StrO w.heap.size wr (.slice p1 xs.length xs.length) ls ∧ Hid (ls.length = xs.length)) (fun i _ => xs.length - (intOf i).toNat)
  case atStart => exact ⟨0, _, Nat.zero_le _, rfl, by simp [Hid], hg1, o1, by simp [Hid]⟩
  case round =>
    obtain ⟨k, ls, hk, rfl, hys, hgr, ho2, hyl⟩ := hrel
    clear hg1 o1
    by_cases hlt : k < xs.length
    · obtain ⟨a, hix, hca⟩ := (h.kept hgr).ix hlt
      have hb := HB.out k hlt
      have HN := Lib.hid (decs_nth hlt)
      generalize nth xs k = x at *
      go_wp2_with fail
      (with_reducible refine (itoa_c (ht.kept hgr) x hb.1 (by omega)).mono ?_); rintro e w2 ⟨rfl, g2⟩
      obtain ⟨b, hjx, hb1, hb2, hcb, hfb, hset⟩ := (ho2.kept g2).ixO (show k < ls.length by have := hyl.out; omega)
      rw [← HN.out]
      have hG2 := hgr.trans g2
      clear g2 hgr hca
      go_wp2
      go_roundw
      case rel => exact ⟨k+1, ls.set k (nthS (decs xs) k), by omega, by go_num, set_prefixS (decs_len xs) hlt hys.out, Below.setCell hG2 hb1 _, hset _, by rw [Hid, List.length_set]; exact hyl.out⟩
      case measure => simp [intOf]; omega
    · have e : ls = decs xs := by rw [hys.out, show k = xs.length by omega, List.take_of_length_le (by rw [decs_len]; exact Nat.le_refl _)]; simp
      have e2 : Lib.join ls [46] = quadText xs := by rw [e]; exact HJ.out
      have E2 := Lib.hid e2
      have b1 : 1 ≤ ls.length := by rw [hyl.out, HX.out]; decide
      have b2 : ls.length ≤ 1000 := by rw [hyl.out, HX.out]; decide
      have b3 : (quadText xs).length ≤ 1000000 := Nat.le_trans HL.out (by decide)
      have J := Lib.hid (join_c ho2 b1 b2 46 E2.out b3)
      clear e e2 hys b1 b2 b3
      go_wp2_with fail
      (with_reducible refine (J.out).mono ?_); rintro e w2 ⟨rfl, g2⟩
      go_wp2
      go_ret
      exact ⟨rfl, hgr.trans g2⟩
set_option maxHeartbeats 1000000 in
theorem implHostText_c {w : World} {q : Value} {xs : List Int} (ht : Tab w) (k port : Int) (s : ByteArray) (hq : IntS w q xs) (hok : adrOk ⟨k, xs, tx s, port⟩ = true) :
    Calls Tryz.prog 145 #[.agg #[.int .i64 k, q, .string s, .int .i64 port]] w fun e w' => e = .returned (.string (S (hostText ⟨k, xs, tx s, port⟩))) ∧ Gr w w' := by
  obtain ⟨p, cap, rfl, _, _⟩ := hq.form
  have hg := gr_alloc w (.cells #[.int .i64 k, .slice p xs.length cap, .string s, .int .i64 port] 65)
  have hk := adr_kind hok
  have HT : Hid (hostText ⟨k, xs, tx s, port⟩ = if k = 1 then quadText xs else tx s) := rfl
  generalize hostText ⟨k, xs, tx s, port⟩ = r at *
  by_cases k1 : k = 1
  · subst k1
    have hqo : quadOk xs = true := by
      rcases hk with ⟨_, h, _⟩ | ⟨h, _⟩
      · exact h
      · cases h
    have HQ := Lib.hid hqo
    clear hk hok hqo
    go_enter Tryz.func145, Tryz.ntmps145
    go_wp2_with fail
    (with_reducible refine (implQuadText_c (ht.kept hg) (hq.kept hg) HQ.out).mono ?_); rintro e w1 ⟨rfl, g1⟩
    go_wp2
    go_ret
    exact ⟨ret_str (by rw [HT.out]; rfl), hg.trans g1⟩
  · have k1' : (k == 1) = false := beq_eq_false_iff_ne.2 k1
    have HR : Hid (r = tx s) := by rw [Hid, HT.out, if_neg k1]
    clear hk hok k1
    go_enter Tryz.func145, Tryz.ntmps145
    go_wp2
    go_ret
    exact ⟨ret_str (by rw [HR.out, S_tx]), hg⟩
set_option maxHeartbeats 2000000 in
theorem implAddressText1_c {w : World} {q : Value} {xs : List Int} (ht : Tab w) (k port : Int) (s : ByteArray) (hq : IntS w q xs) (hok : adrOk ⟨k, xs, tx s, port⟩ = true) :
    Calls Tryz.prog 111 #[.agg #[.int .i64 k, q, .string s, .int .i64 port]] w fun e w' => e = .returned (.string (S (addrText ⟨k, xs, tx s, port⟩))) ∧ Gr w w' := by
  obtain ⟨p, cap, rfl, _, _⟩ := hq.form
  have hg := gr_alloc w (.cells #[.int .i64 k, .slice p xs.length cap, .string s, .int .i64 port] 65)
  have g0 := Gr.refl (w.alloc (.cells #[.int .i64 k, .slice p xs.length cap, .string s, .int .i64 port] 65))
  have hp := adr_port hok
  have hl := hostText_len hok
  simp only [] at hp
  have z := (dec_len (show port.toNat ≤ 100000000 by omega)).1
  have HT : Hid (addrText ⟨k, xs, tx s, port⟩ = hostText ⟨k, xs, tx s, port⟩ ++ [58] ++ dec port.toNat) := rfl
  have LH := Lib.hid (fun (W : World) (hT : Tab W) (hW : IntS W (.slice p xs.length cap) xs) => implHostText_c hT k port s hW hok)
  have LD := Lib.hid (fun (W : World) (hT : Tab W) => itoa_c hT port hp.1 (by omega))
  generalize hostText ⟨k, xs, tx s, port⟩ = tt at *
  generalize dec port.toNat = dp at *
  generalize addrText ⟨k, xs, tx s, port⟩ = r at *
  have A1 := add_eq (P := Tryz.prog) (S tt) ⟨#[58]⟩ (tt ++ [58]) (by rw [tx_S]; rfl) (by simp; omega)
  have A2 := add_eq (P := Tryz.prog) (S (tt ++ [58])) (S dp) (tt ++ [58] ++ dp) (by rw [tx_S, tx_S]) (by simp; omega)
  generalize tt ++ [58] = u1 at *
  generalize u1 ++ dp = u2 at *
  clear hok hl z
  have c0 := boxN g0 0 rfl
  have c1 := boxN g0 1 rfl
  have c2 := boxN g0 2 rfl
  have c3 := boxN g0 3 rfl
  go_enter Tryz.func111, Tryz.ntmps111
  go_wp2_with fail
  have hqb := hq.kept hg
  have htb := ht.kept hg
  generalize hW0 : w.alloc (.cells #[.int .i64 k, .slice p xs.length cap, .string s, .int .i64 port] 65) = w0 at *
  have HW0 := Lib.hid hW0
  clear hW0 g0 hq ht
  go_region_held3 (fun w' => w'.cell? ⟨w.heap.size, 0, none⟩ = some (.int .i64 k) ∧ w'.cell? ⟨w.heap.size, 1, none⟩ = some (.slice p xs.length cap) ∧ w'.cell? ⟨w.heap.size, 2, none⟩ = some (.string s) ∧ w'.cell? ⟨w.heap.size, 3, none⟩ = some (.int .i64 port)) (first | (exact ⟨g3.cell c0, g3.cell c1, g3.cell c2, g3.cell c3⟩) | (exact ⟨g2.cell c0, g2.cell c1, g2.cell c2, g2.cell c3⟩) | go_keep) (first
    | (go_at_call 145; (with_reducible refine (LH.out _ (htb.kept ((Gr.refl _).drew)) (hqb.kept ((Gr.refl _).drew))).mono ?_); rintro e w2 ⟨rfl, g2'⟩; have g2 : Gr w0 w2 := g2'.undrew)
    | (go_at_call 126; (with_reducible refine (LD.out _ (htb.kept g2)).mono ?_); rintro e w3 ⟨rfl, g3'⟩; have g3 : Gr w0 w3 := g2.trans g3'))
  go_wp2
  go_ret
  exact ⟨ret_str (by rw [HT.out]), hg.trans g3⟩
end Go.Proofs.YtpdjibfcbjknhaaGreatDoor
namespace Go.Proofs.YtpdjibfcbjknhaaGreatDoor
open Go.RowKit
theorem mapM_step {f : Tx → Option Int} {ls : List Tx} {k : Nat} {ys : List Int} {n : Int} (hk : k < ls.length) (h : (ls.take k).mapM f = some ys) (hn : f (nthS ls k) = some n) : (ls.take (k+1)).mapM f = some (ys ++ [n]) := by
  rw [nthS_eq hk] at hn
  rw [List.take_succ_eq_append_getElem hk, List.mapM_append, h]
  simp [hn]
theorem mapM_none {f : Tx → Option Int} {ls : List Tx} {k : Nat} (hk : k < ls.length) (hn : f (nthS ls k) = none) : ls.mapM f = none := by
  rw [nthS_eq hk] at hn
  have e : ls = ls.take k ++ ls[k] :: ls.drop (k+1) := by rw [← List.drop_eq_getElem_cons hk, List.take_append_drop]
  rw [e, List.mapM_append, List.mapM_cons, hn]
  cases (ls.take k).mapM f <;> rfl
set_option maxHeartbeats 2000000 in
theorem implQuadFrom_c {w : World} (hm : ML w) (he : ErrV w) (ht : Tab w) (s : ByteArray) (hs : s.size ≤ 2000000) :
    Calls Tryz.prog 88 #[.string s] w fun e w' => ∃ v, e = .returned (.tuple #[v, .bool (quadFrom (tx s)).isSome]) ∧ IntO w.heap.size 3 w' v ((quadFrom (tx s)).getD []) ∧ Gr w w' := by
  go_enter Tryz.func88, Tryz.ntmps88
  go_wp2_with fail
  (with_reducible refine (split_c hm s 46 (by omega)).mono ?_); rintro e w1 ⟨v1, rfl, ho, hg⟩
  have hss := ho.s
  have hlen := cutB_len 46 (tx s)
  rw [tx_len] at hlen
  have HQ : Hid (quadFrom (tx s) = match (cutB 46 (tx s)).mapM decim with | some q => if quadOk q = true then some q else none | none => none) := by rw [Hid, ← quadFromI_eq]; rfl
  have HPC : Hid (∀ k, k < (cutB 46 (tx s)).length → (nthS (cutB 46 (tx s)) k).length ≤ s.size) := fun k hk => by
    rw [← tx_len s, nthS_eq hk]; exact cutB_piece 46 (tx s) _ (List.getElem_mem hk)
  generalize cutB 46 (tx s) = ls at *
  obtain ⟨p, cap, rfl, hc1, hc2⟩ := hss.form
  clear ho
  go_wp2_with fail
  go_loopw [4, 12] (fun v i wr => ∃ (k : Nat) (ys : List Int), k ≤ ls.length ∧ i = .int .i64 k ∧ Hid ((ls.take k).mapM decim = some ys) ∧ Hid (ys.length = k) ∧ Gr w1 wr ∧ IntO w1.heap.size 3 wr v ys) (fun _ i _ => ls.length - (intOf i).toNat)
  case atStart => exact ⟨0, [], Nat.zero_le _, rfl, rfl, rfl, Gr.refl _, IntO.nil _ _ _⟩
  case round =>
    obtain ⟨k, ys, hk, rfl, hys, hyl, hgr, ho⟩ := hrel
    by_cases hlt : k < ls.length
    · obtain ⟨a, hix, hca⟩ := (hss.kept hgr).ix hlt
      have hyl' : ys.length ≤ 2000001 := by rw [hyl.out]; omega
      have hz := hgr.size
      have hG := hg.trans hgr
      have HC := Lib.hid (decimal_c (he.kept hG) (ht.kept hG) (S (nthS ls k)) (by rw [S_len]; have := HPC.out k hlt; omega))
      rw [tx_S] at HC
      go_wp2_with fail
      (with_reducible refine (HC.out).mono ?_); rintro e w2 ⟨hr, g2⟩
      rcases hr with ⟨n, hn, rfl⟩ | ⟨hn, n, rfl⟩
      · have HN := Lib.hid (mapM_step hlt hys.out hn)
        have HL : Hid ((ys ++ [n]).length = k + 1) := by rw [Hid, List.length_append, hyl.out]; rfl
        clear hn
        have hG2 := hgr.trans g2
        have ho2 := ho.kept g2
        have hz2 := hG2.sz
        go_wp2_with (at_builtin; refine wpl_appI rfl (.tmp 23) (.tmp 25) rfl rfl (ho2.kept (gr_alloc _ _)) rfl (IntO.one _).s (by simp; omega) (by simp; omega) ?_; intro v5 w5 ho5 hg5; have hG5 : Gr w1 w5 := (hG2.alloc _).thenB hg5)
        go_roundw
        case rel => exact ⟨k+1, _, by omega, by go_num, HN.out, HL.out, hG5, ho5⟩
        case measure => simp [intOf]; omega
      · have HN : Hid (quadFrom (tx s) = none) := by rw [Hid, HQ.out, mapM_none hlt hn]
        clear hn
        have hG2 := hG.trans g2
        go_wp2
        go_ret2
        exact ⟨_, by rw [HN.out]; rfl, by rw [HN.out]; exact IntO.nil _ _ _, hG2⟩
    · have HM : Hid (ls.mapM decim = some ys) := by
        have := hys.out
        rw [List.take_of_length_le (by omega)] at this
        exact this
      have hG := hg.trans hgr
      have ho' := ho.mono hg.sz
      cases hb : quadOk ys
      · have HN : Hid (quadFrom (tx s) = none) := by rw [Hid, HQ.out, HM.out]; simp [hb]
        have HB := Lib.hid hb
        clear hb
        go_wp2_with fail
        (with_reducible refine (implQuadValid_c ho.s).mono ?_); rintro e w2 ⟨rfl, rfl⟩
        rw [HB.out]
        go_wp2
        go_ret2
        exact ⟨_, by rw [HN.out]; rfl, by rw [HN.out]; exact IntO.nil _ _ _, hG⟩
      · have HN : Hid (quadFrom (tx s) = some ys) := by rw [Hid, HQ.out, HM.out]; simp [hb]
        have HB := Lib.hid hb
        clear hb
        go_wp2_with fail
        (with_reducible refine (implQuadValid_c ho.s).mono ?_); rintro e w2 ⟨rfl, rfl⟩
        rw [HB.out]
        go_wp2
        go_ret2
        exact ⟨_, by rw [HN.out]; rfl, by rw [HN.out]; exact ho', hG⟩
end Go.Proofs.YtpdjibfcbjknhaaGreatDoor
namespace Go.Proofs.YtpdjibfcbjknhaaGreatDoor
open Go.RowKit
theorem StrO.lit {w : World} {cs : Array Value} (ls : List Tx) {n m : Nat} (hm : m = w.heap.size) (hn : n ≤ 1000) (hl : ls.length = n) (hc : cs.toList = txs ls) : StrO w.heap.size (w.alloc (.cells cs 9)) (.slice (some ⟨m, 0, none⟩) n n) ls := by
  subst hl hm
  have hs : cs.size = ls.length * 1 := by rw [← Array.length_toList, hc]; simp [txs]
  have := Own.lit (B := w.heap.size) (e := 9) (sz := 1) w cs ls.length (Nat.le_refl _) (by omega) hs
  rw [hc] at this
  exact this
def proxyT : Tx := [80, 82, 79, 88, 89]
def tcpT : Tx := [84, 67, 80, 52]
theorem line_join (p : Par) : Lib.join [proxyT, tcpT, quadText p.src.quad, quadText p.dst.quad, dec p.src.port.toNat, dec p.dst.port.toNat] [32] ++ [13, 10] = lineText p := by
  rw [join6]
  simp [lineText, lineT, proxyT, tcpT]
end Go.Proofs.YtpdjibfcbjknhaaGreatDoor
