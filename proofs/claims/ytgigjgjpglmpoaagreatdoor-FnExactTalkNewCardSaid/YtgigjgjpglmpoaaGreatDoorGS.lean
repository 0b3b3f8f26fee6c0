/- impl: the texts of quads, hosts, addresses and pairs.
impl: quads out of texts.
impl: the line of a pair. -/
import Derived.Test.YtgigjgjpglmpoaaGreatDoorNameI
import Derived.Test.YtgigjgjpglmpoaaGreatDoorGE
import Derived.Deep.RegionHeld3
import Derived.Deep.RegionWith
import Derived.Test.YtgigjgjpglmpoaaGreatDoorGR
namespace Go.Proofs.YtgigjgjpglmpoaaGreatDoor
open Go.RowKit
theorem made_strs (n : Nat) : (madeCells (Value.string ByteArray.empty).cells (n * 1)).toList = txs (List.replicate n []) := by
  rw [show (Value.string ByteArray.empty).cells = #[Value.string ByteArray.empty] from rfl, Nat.mul_one, toList_madeCells_one]
  simp [txs]
  exact .inr rfl
theorem wpl_makeS {w : World} {ops : Array Oper} {rest : List Oper} {o : Oper} {a : Act} {Q : Exit → Act → World → Prop} (hgd : o.guard = none) (l c : Operand)
    (ho : o.op = Op.makeSlice 78 l c) {n : Nat} (hl : a.eval l = .int .i64 (n : Int)) (hc : a.eval c = .int .i64 (n : Int)) (hn : n ≤ 1000000000)
    (h : ∀ (p : Option Addr) w', StrO w.heap.size w' (.slice p n n) (List.replicate n []) → Gr w w' → wpList Tryz.prog ops Q rest (a.put o.dst (.slice p n n)) w') : wpList Tryz.prog ops Q (o :: rest) a w := by
  obtain ⟨i0, hi, hz, hs', hby⟩ := infoS
  refine wpList_make_full w hgd l c _ ho w.heap.size _ i0 _ 1 uS hi hz hs' .i64 .i64 n n n hl hc rfl rfl (by rw [hby]; omega) (by unfold maxLen; omega) (Nat.le_refl _)
    fun w' h1 h2 => h _ w' ?_ ((Below.refl _ w).grown h2 (Nat.le_refl _) (by simp))
  unfold StrO; rw [List.length_replicate, ← made_strs]; exact h1
theorem txs_set (ls : List Tx) (k : Nat) (l : Tx) : (txs ls).set k (.string (S l)) = txs (ls.set k l) := by simp [txs]
theorem StrO.ixO {B : Nat} {w : World} {v : Value} {ls : List Tx} (h : StrO B w v ls) {k : Nat} (hk : k < ls.length) :
    ∃ a : Addr, (∀ w1, (Instr.indexAt 78 v (.int .i64 (k : Int))).run Tryz.prog w1 = .ok (.pointer (some a)) w1) ∧ B ≤ a.block ∧ a.block < w.heap.size ∧
      w.cell? a = some (.string (S (nthS ls k))) ∧ w.frozen? a = false ∧ ∀ l, StrO B (w.setCell a (.string (S l))) v (ls.set k l) := by
  obtain ⟨i, hi, _, hs, _⟩ := infoS
  obtain ⟨a, h1, h2, h3, h4, h5, h6, h7⟩ := Own.at h uS hi hs hk
  have e0 := addr_add_zero a
  refine ⟨a, h1, h2, h3, ?_, ?_, fun l => ?_⟩
  · have := h4 0 _ (by simpa using txs_nth ls k hk)
    rwa [e0] at this
  · have := h5 0; rwa [e0] at this
  · have := h6 0 (.string (S l))
    rw [e0] at this
    unfold StrO
    rw [List.length_set, ← txs_set]
    simpa using this
theorem StrO.len {B : Nat} {w : World} {v : Value} {ls : List Tx} (h : StrO B w v ls) : ∃ p cap, v = .slice p ls.length cap := by
  obtain ⟨p, cap, h1, _⟩ := h.s.form; exact ⟨p, cap, h1⟩
theorem set_prefixS {ls ds : List Tx} {n k : Nat} (hn : ds.length = n) (hk : k < n) (h : ls = ds.take k ++ List.replicate (n - k) []) : ls.set k (nthS ds k) = ds.take (k + 1) ++ List.replicate (n - (k + 1)) [] := by
  subst h hn
  have h1 : (ds.take k).length = k := by rw [List.length_take]; omega
  rw [List.set_append_right _ _ (by omega), h1, Nat.sub_self, show ds.length - k = (ds.length - (k+1)) + 1 by omega, List.replicate_succ, List.set_cons_zero,
    List.take_succ_eq_append_getElem hk, nthS_eq hk, List.append_assoc]
  rfl
def decs (xs : List Int) : List Tx := xs.map fun x => dec x.toNat
theorem decs_len (xs : List Int) : (decs xs).length = xs.length := by simp [decs]
theorem decs_nth {xs : List Int} {k : Nat} (h : k < xs.length) : nthS (decs xs) k = dec (nth xs k).toNat := by
  rw [nthS_eq (by rw [decs_len]; exact h), nth_eq h]; simp [decs]
theorem decs_join {xs : List Int} (h : xs.length = 4) : Lib.join (decs xs) [46] = quadText xs := by
  match xs, h with
  | [a, b, c, d], _ =>
    show Lib.join [dec a.toNat, dec b.toNat, dec c.toNat, dec d.toNat] [46] = _
    rw [join4]; rfl
end Go.Proofs.YtgigjgjpglmpoaaGreatDoor
namespace Go.Proofs.YtgigjgjpglmpoaaGreatDoor
open Go.RowKit
theorem mapM_step {f : Tx → Option Int} {ls : List Tx} {k : Nat} {ys : List Int} {n : Int} (hk : k < ls.length) (h : (ls.take k).mapM f = some ys) (hn : f (nthS ls k) = some n) : (ls.take (k+1)).mapM f = some (ys ++ [n]) := by
  rw [nthS_eq hk] at hn
  rw [List.take_succ_eq_append_getElem hk, List.mapM_append, h]
  simp [hn]
theorem mapM_none {f : Tx → Option Int} {ls : List Tx} {k : Nat} (hk : k < ls.length) (hn : f (nthS ls k) = none) : ls.mapM f = none := by
  rw [nthS_eq hk] at hn
  have e : ls = ls.take k ++ ls[k] :: ls.drop (k+1) := by rw [← List.drop_eq_getElem_cons hk, List.take_append_drop]
  rw [e, List.mapM_append, List.mapM_cons, hn]
  cases (ls.take k).mapM f <;> rfl
set_option maxHeartbeats 2000000 in
theorem implQuadFrom_c {w : World} (hm : ML w) (he : ErrV w) (ht : Tab w) (s : ByteArray) (hs : s.size ≤ 2000000) :
    Calls Tryz.prog 47 #[.string s] w fun e w' => ∃ v, e = .returned (.tuple #[v, .bool (quadFrom (tx s)).isSome]) ∧ IntO w.heap.size 3 w' v ((quadFrom (tx s)).getD []) ∧ Gr w w' := by
  go_enter Tryz.func47, Tryz.ntmps47
  go_wp2_with fail
  (with_reducible refine (split_c hm s 46 (by omega)).mono ?_); rintro e w1 ⟨v1, rfl, ho, hg⟩
  have hss := ho.s
  have hlen := cutB_len 46 (tx s)
  rw [tx_len] at hlen
  have HQ : Hid (quadFrom (tx s) = match (cutB 46 (tx s)).mapM decim with | some q => if quadOk q = true then some q else none | none => none) := by rw [Hid, ← quadFromI_eq]; rfl
  have HPC : Hid (∀ k, k < (cutB 46 (tx s)).length → (nthS (cutB 46 (tx s)) k).length ≤ s.size) := fun k hk => by
    rw [← tx_len s, nthS_eq hk]; exact cutB_piece 46 (tx s) _ (List.getElem_mem hk)
  generalize cutB 46 (tx s) = ls at *
  obtain ⟨p, cap, rfl, hc1, hc2⟩ := hss.form
  clear ho
  go_wp2_with fail
  go_loopw [4, 12] (fun v i wr => ∃ (k : Nat) (ys : List Int), k ≤ ls.length ∧ i = .int .i64 k ∧ Hid ((ls.take k).mapM decim = some ys) ∧ Hid (ys.length = k) ∧ Gr w1 wr ∧ IntO w1.heap.size 3 wr v ys) (fun _ i _ => ls.length - (intOf i).toNat)
  case atStart => exact ⟨0, [], Nat.zero_le _, rfl, rfl, rfl, Gr.refl _, IntO.nil _ _ _⟩
  case round =>
    obtain ⟨k, ys, hk, rfl, hys, hyl, hgr, ho⟩ := hrel
    by_cases hlt : k < ls.length
    · obtain ⟨a, hix, hca⟩ := (hss.kept hgr).ix hlt
      have hyl' : ys.length ≤ 2000001 := by rw [hyl.out]; omega
      have hz := hgr.size
      have hG := hg.trans hgr
      have HC := Lib.hid (decimal_c (he.kept hG) (ht.kept hG) (S (nthS ls k)) (by rw [S_len]; have := HPC.out k hlt; omega))
      rw [tx_S] at HC
      go_wp2_with fail
      (with_reducible refine (HC.out).mono ?_); rintro e w2 ⟨hr, g2⟩
      rcases hr with ⟨n, hn, rfl⟩ | ⟨hn, n, rfl⟩
      · have HN := Lib.hid (mapM_step hlt hys.out hn)
        have HL : Hid ((ys ++ [n]).length = k + 1) := by rw [Hid, List.length_append, hyl.out]; rfl
        clear hn
        have hG2 := hgr.trans g2
        have ho2 := ho.kept g2
        have hz2 := hG2.sz
        go_wp2_with (at_builtin; refine wpl_appI rfl (.tmp 23) (.tmp 25) rfl rfl (ho2.kept (gr_alloc _ _)) rfl (IntO.one _).s (by simp; omega) (by simp; omega) ?_; intro v5 w5 ho5 hg5; have hG5 : Gr w1 w5 := (hG2.alloc _).thenB hg5)
        go_roundw
        case rel => exact ⟨k+1, _, by omega, by go_num, HN.out, HL.out, hG5, ho5⟩
        case measure => simp [intOf]; omega
      · have HN : Hid (quadFrom (tx s) = none) := by rw [Hid, HQ.out, mapM_none hlt hn]
        clear hn
        have hG2 := hG.trans g2
        go_wp2
        go_ret2
        exact ⟨_, by rw [HN.out]; rfl, by rw [HN.out]; exact IntO.nil _ _ _, hG2⟩
    · have HM : Hid (ls.mapM decim = some ys) := by
        have := hys.out
        rw [List.take_of_length_le (by omega)] at this
        exact this
      have hG := hg.trans hgr
      have ho' := ho.mono hg.sz
      cases hb : quadOk ys
      · have HN : Hid (quadFrom (tx s) = none) := by rw [Hid, HQ.out, HM.out]; simp [hb]
        have HB := Lib.hid hb
        clear hb
        go_wp2_with fail
        (with_reducible refine (implQuadValid_c ho.s).mono ?_); rintro e w2 ⟨rfl, rfl⟩
        rw [HB.out]
        go_wp2
        go_ret2
        exact ⟨_, by rw [HN.out]; rfl, by rw [HN.out]; exact IntO.nil _ _ _, hG⟩
      · have HN : Hid (quadFrom (tx s) = some ys) := by rw [Hid, HQ.out, HM.out]; simp [hb]
        have HB := Lib.hid hb
        clear hb
        go_wp2_with fail
        (with_reducible refine (implQuadValid_c ho.s).mono ?_); rintro e w2 ⟨rfl, rfl⟩
        rw [HB.out]
        go_wp2
        go_ret2
        exact ⟨_, by rw [HN.out]; rfl, by rw [HN.out]; exact ho', hG⟩
end Go.Proofs.YtgigjgjpglmpoaaGreatDoor
namespace Go.Proofs.YtgigjgjpglmpoaaGreatDoor
open Go.RowKit
theorem StrO.lit {w : World} {cs : Array Value} (ls : List Tx) {n m : Nat} (hm : m = w.heap.size) (hn : n ≤ 1000) (hl : ls.length = n) (hc : cs.toList = txs ls) : StrO w.heap.size (w.alloc (.cells cs 9)) (.slice (some ⟨m, 0, none⟩) n n) ls := by
  subst hl hm
  have hs : cs.size = ls.length * 1 := by rw [← Array.length_toList, hc]; simp [txs]
  have := Own.lit (B := w.heap.size) (e := 9) (sz := 1) w cs ls.length (Nat.le_refl _) (by omega) hs
  rw [hc] at this
  exact this
def proxyT : Tx := [80, 82, 79, 88, 89]
def tcpT : Tx := [84, 67, 80, 52]
theorem line_join (p : Par) : Lib.join [proxyT, tcpT, quadText p.src.quad, quadText p.dst.quad, dec p.src.port.toNat, dec p.dst.port.toNat] [32] ++ [13, 10] = lineText p := by
  rw [join6]
  simp [lineText, lineT, proxyT, tcpT]
end Go.Proofs.YtgigjgjpglmpoaaGreatDoor
