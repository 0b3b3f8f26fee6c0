/- impl: the texts of quads, hosts, addresses and pairs. -/
import Derived.Test.YtfambpdhnicghaaGreatDoorNameI
import Derived.Test.YtfambpdhnicghaaGreatDoorGE
import Derived.Deep.RegionHeld3
import Derived.Deep.RegionWith
namespace Go.Proofs.YtfambpdhnicghaaGreatDoor
open Go.RowKit
theorem made_strs (n : Nat) : (madeCells (Value.string ByteArray.empty).cells (n * 1)).toList = txs (List.replicate n []) := by
  rw [show (Value.string ByteArray.empty).cells = #[Value.string ByteArray.empty] from rfl, Nat.mul_one, toList_madeCells_one]
  simp [txs]
  exact .inr rfl
theorem wpl_makeS {w : World} {ops : Array Oper} {rest : List Oper} {o : Oper} {a : Act} {Q : Exit → Act → World → Prop} (hgd : o.guard = none) (l c : Operand)
    (ho : o.op = Op.makeSlice 66 l c) {n : Nat} (hl : a.eval l = .int .i64 (n : Int)) (hc : a.eval c = .int .i64 (n : Int)) (hn : n ≤ 1000000000)
    (h : ∀ (p : Option Addr) w', StrO w.heap.size w' (.slice p n n) (List.replicate n []) → Gr w w' → wpList Tryz.prog ops Q rest (a.put o.dst (.slice p n n)) w') : wpList Tryz.prog ops Q (o :: rest) a w := by
  obtain ⟨i0, hi, hz, hs', hby⟩ := infoS
  refine wpList_make_full w hgd l c _ ho w.heap.size _ i0 _ 1 uS hi hz hs' .i64 .i64 n n n hl hc rfl rfl (by rw [hby]; omega) (by unfold maxLen; omega) (Nat.le_refl _)
    fun w' h1 h2 => h _ w' ?_ ((Below.refl _ w).grown h2 (Nat.le_refl _) (by simp))
  unfold StrO; rw [List.length_replicate, ← made_strs]; exact h1
theorem txs_set (ls : List Tx) (k : Nat) (l : Tx) : (txs ls).set k (.string (S l)) = txs (ls.set k l) := by simp [txs]
theorem StrO.ixO {B : Nat} {w : World} {v : Value} {ls : List Tx} (h : StrO B w v ls) {k : Nat} (hk : k < ls.length) :
    ∃ a : Addr, (∀ w1, (Instr.indexAt 66 v (.int .i64 (k : Int))).run Tryz.prog w1 = .ok (.pointer (some a)) w1) ∧ B ≤ a.block ∧ a.block < w.heap.size ∧
      w.cell? a = some (.string (S (nthS ls k))) ∧ w.frozen? a = false ∧ ∀ l, StrO B (w.setCell a (.string (S l))) v (ls.set k l) := by
  obtain ⟨i, hi, _, hs, _⟩ := infoS
  obtain ⟨a, h1, h2, h3, h4, h5, h6, h7⟩ := Own.at h uS hi hs hk
  have e0 := addr_add_zero a
  refine ⟨a, h1, h2, h3, ?_, ?_, fun l => ?_⟩
  · have := h4 0 _ (by simpa using txs_nth ls k hk)
    rwa [e0] at this
  · have := h5 0; rwa [e0] at this
  · have := h6 0 (.string (S l))
    rw [e0] at this
    unfold StrO
    rw [List.length_set, ← txs_set]
    simpa using this
theorem StrO.len {B : Nat} {w : World} {v : Value} {ls : List Tx} (h : StrO B w v ls) : ∃ p cap, v = .slice p ls.length cap := by
  obtain ⟨p, cap, h1, _⟩ := h.s.form; exact ⟨p, cap, h1⟩
theorem set_prefixS {ls ds : List Tx} {n k : Nat} (hn : ds.length = n) (hk : k < n) (h : ls = ds.take k ++ List.replicate (n - k) []) : ls.set k (nthS ds k) = ds.take (k + 1) ++ List.replicate (n - (k + 1)) [] := by
  subst h hn
  have h1 : (ds.take k).length = k := by rw [List.length_take]; omega
  rw [List.set_append_right _ _ (by omega), h1, Nat.sub_self, show ds.length - k = (ds.length - (k+1)) + 1 by omega, List.replicate_succ, List.set_cons_zero,
    List.take_succ_eq_append_getElem hk, nthS_eq hk, List.append_assoc]
  rfl
def decs (xs : List Int) : List Tx := xs.map fun x => dec x.toNat
theorem decs_len (xs : List Int) : (decs xs).length = xs.length := by simp [decs]
theorem decs_nth {xs : List Int} {k : Nat} (h : k < xs.length) : nthS (decs xs) k = dec (nth xs k).toNat := by
  rw [nthS_eq (by rw [decs_len]; exact h), nth_eq h]; simp [decs]
theorem decs_join {xs : List Int} (h : xs.length = 4) : Lib.join (decs xs) [46] = quadText xs := by
  match xs, h with
  | [a, b, c, d], _ =>
    show Lib.join [dec a.toNat, dec b.toNat, dec c.toNat, dec d.toNat] [46] = _
    rw [join4]; rfl
set_option maxHeartbeats 2000000 in
theorem implQuadText_c {w : World} {v : Value} {xs : List Int} (ht : Tab w) (h : IntS w v xs) (hok : quadOk xs = true) :
    Calls Tryz.prog 38 #[v] w fun e w' => e = .returned (.string (S (quadText xs))) ∧ Gr w w' := by
  obtain ⟨p, cap, rfl, _, _⟩ := h.form
  obtain ⟨h4, hb⟩ := quad_bytes hok
  have HJ := Lib.hid (decs_join h4)
  have HL := Lib.hid (quadText_len hok)
  have HB : Hid (∀ k, k < xs.length → 0 ≤ nth xs k ∧ nth xs k ≤ 255) := Lib.hid fun k hk => hb k (by omega)
  have HX := Lib.hid h4
  have h10 : xs.length ≤ 10 := by omega
  clear hb h4 hok
  go_enter Tryz.func38, Tryz.ntmps38
  go_wp2_with (refine wpl_makeS (n := xs.length) rfl _ _ rfl rfl rfl (by omega) ?_; intro p1 w1 o1 hg1)
  go_loopw [11] (fun i wr => ∃ (k : Nat) (ls : List Tx), k ≤ xs.length ∧ i = .int .i64 k ∧ Hid (ls = (decs xs).take k ++ List.replicate (xs.length - k) []) ∧ Gr w wr ∧ StrO w.heap.size wr (.slice p1 xs.length xs.length) ls ∧ Hid (ls.length = xs.length)) (fun i _ => xs.length - (intOf i).toNat)
  case atStart => exact ⟨0, _, Nat.zero_le _, rfl, by simp [Hid], hg1, o1, by simp [Hid]⟩
  case round =>
    obtain ⟨k, ls, hk, rfl, hys, hgr, ho2, hyl⟩ := hrel
    clear hg1 o1
    by_cases hlt : k < xs.length
    · obtain ⟨a, hix, hca⟩ := (h.kept hgr).ix hlt
      have hb := HB.out k hlt
      have HN := Lib.hid (decs_nth hlt)
      generalize nth xs k = x at *
      go_wp2_with fail
      (with_reducible refine (itoa_c (ht.kept hgr) x hb.1 (by omega)).mono ?_); rintro e w2 ⟨rfl, g2⟩
      obtain ⟨b, hjx, hb1, hb2, hcb, hfb, hset⟩ := (ho2.kept g2).ixO (show k < ls.length by have := hyl.out; omega)
      rw [← HN.out]
      have hG2 := hgr.trans g2
      clear g2 hgr hca
      go_wp2
      go_roundw
      case rel => exact ⟨k+1, ls.set k (nthS (decs xs) k), by omega, by go_num, set_prefixS (decs_len xs) hlt hys.out, Below.setCell hG2 hb1 _, hset _, by rw [Hid, List.length_set]; exact hyl.out⟩
      case measure => simp [intOf]; omega
    · have e : ls = decs xs := by rw [hys.out, show k = xs.length by omega, List.take_of_length_le (by rw [decs_len]; exact Nat.le_refl _)]; simp
      have e2 : Lib.join ls [46] = quadText xs := by rw [e]; exact HJ.out
      have E2 := Lib.hid e2
      have b1 : 1 ≤ ls.length := by rw [hyl.out, HX.out]; decide
      have b2 : ls.length ≤ 1000 := by rw [hyl.out, HX.out]; decide
      have b3 : (quadText xs).length ≤ 1000000 := Nat.le_trans HL.out (by decide)
      have J := Lib.hid (join_c ho2 b1 b2 46 E2.out b3)
      clear e e2 hys b1 b2 b3
      go_wp2_with fail
      (with_reducible refine (J.out).mono ?_); rintro e w2 ⟨rfl, g2⟩
      go_wp2
      go_ret
      exact ⟨rfl, hgr.trans g2⟩
end Go.Proofs.YtfambpdhnicghaaGreatDoor
