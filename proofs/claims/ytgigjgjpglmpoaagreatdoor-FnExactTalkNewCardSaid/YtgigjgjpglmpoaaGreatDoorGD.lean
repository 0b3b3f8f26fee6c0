/- Bytes, changed by a draw.
append of one number, with all that it leaves alone.
spec.l91Methods.
Texts: letters, cutting at a letter, names, users.
Texts: cutting, names, users. -/
import Derived.Test.YtgigjgjpglmpoaaGreatDoorGB
import Derived.WalkLawsBesides
namespace Go.Proofs.YtgigjgjpglmpoaaGreatDoor
open Go.RowKit
theorem IntO.preO {B : Nat} {w : World} {v : Value} {xs : List Int} (h : IntO B 3 w v xs) {k : Nat} (hk : k ≤ xs.length) :
    ∃ v' : Value, (∀ w1, (Instr.slice 22 v none (some (.int .i64 (k : Int))) none).run Tryz.prog w1 = .ok v' w1) ∧ IntO B 3 w v' (xs.take k) := by
  obtain ⟨i0, hi, _, hs, _⟩ := infoI
  obtain ⟨v', h1, h2⟩ := Own.pre h uI hi hs hk
  refine ⟨v', h1, ?_⟩
  unfold IntO
  rw [← ints_take, List.length_take, Nat.min_eq_left hk]
  simpa using h2
end Go.Proofs.YtgigjgjpglmpoaaGreatDoor
namespace Go.Proofs.YtgigjgjpglmpoaaGreatDoor
open Go.RowKit
theorem IntO.app {B : Nat} {w : World} {v : Value} {xs : List Int} (h : IntO B 3 w v xs) (hB : B ≤ w.heap.size) {x : Value} {n : Int} (hx : Row w 1 x 1 [.int .i64 n]) (hn : xs.length ≤ 1000000) (ty : Nat) :
    ∃ v' w', (Builtin.append_ #[22, 22] ty #[v, x]).run Tryz.prog w = .ok v' w' ∧ IntO B 3 w' v' (xs ++ [n]) ∧ Below B w w' ∧
      (∀ b, b < w.heap.size → v.ownBlock ≠ some b → w'.heap[b]? = w.heap[b]?) ∧ (∀ b, v'.ownBlock = some b → v.ownBlock = some b ∨ b = w.heap.size) := by
  obtain ⟨i, hi, hz, hs, hby⟩ := infoI
  obtain ⟨hl, p, cap, rfl, c1, c2, c3, c4⟩ := hx
  cases p with
  | none => have := c3 rfl; omega
  | some a =>
    obtain ⟨v', w', hr, q1, q2, _, q4⟩ := run_append_own_at (P := Tryz.prog) w B 22 ty 3 i _ 1 8 uI hi hz hs hby rfl (by decide) v xs.length (ints xs) h a 1 cap [.int .i64 n] rfl (c4 a rfl) (by simp [Value.oneCell']) (by unfold maxLen; omega) (by omega) hB
    have hb : Below B w w' := (Below.refl B w).grown q2 hB (fun k hk => (h.blk k hk).1)
    refine ⟨v', w', hr, ?_, hb, fun b hb1 hne => q2.block b hb1 (fun e => hne e.symm), fun b hb1 => ?_⟩
    · unfold IntO; rw [ints_append, List.length_append]; exact q1
    · rcases q4 with q4 | q4
      · exact .inl (by rw [← q4]; exact hb1)
      · rw [q4] at hb1; exact .inr (Option.some.inj hb1).symm
theorem wpl_app1 {w : World} {ops : Array Oper} {rest : List Oper} {o : Oper} {a : Act} {Q : Exit → Act → World → Prop} (hgd : o.guard = none) (s x : Operand)
    (ho : o.op = .call { callee := .builtin .append, args := #[s, x], argTypes := #[22, 22] })
    {B : Nat} {v : Value} {xs : List Int} (hs : a.eval s = v) (hown : IntO B 3 w v xs) (hB : B ≤ w.heap.size) {xv : Value} {n : Int} (hx : a.eval x = xv)
    (hrow : Row w 1 xv 1 [.int .i64 n]) (hn : xs.length ≤ 1000000)
    (h : ∀ v' w', IntO B 3 w' v' (xs ++ [n]) → Below B w w' → (∀ b, b < w.heap.size → v.ownBlock ≠ some b → w'.heap[b]? = w.heap[b]?) → (∀ b, v'.ownBlock = some b → v.ownBlock = some b ∨ b = w.heap.size) → wpList Tryz.prog ops Q rest (a.put o.dst v') w') : wpList Tryz.prog ops Q (o :: rest) a w := by
  refine wpList_plain hgd fun K hK => ?_
  obtain ⟨v', w', hr, h2, h3, h4, h5⟩ := IntO.app hown hB hrow hn o.type
  unfold Oper.wp execOp
  simp only [ho, resolve, invoke, builtin, Sem.run_bind, Sem.run_pure, Result.andThen_ok, List.map_toArray, List.map_cons, List.map_nil, hs, hx, hr]
  exact hK _ _ (h v' w' h2 h3 h4 h5)
end Go.Proofs.YtgigjgjpglmpoaaGreatDoor
namespace Go.Proofs.YtgigjgjpglmpoaaGreatDoor
open Go.RowKit
theorem tableS {w : World} {b : Nat} (h : w.heap[b]? = some (.cells #[.int .i64 2, .int .i64 0, .int .i64 1, .int .i64 3, .int .i64 128] 3)) : IntS w (.slice (some ⟨b, 0, none⟩) 5 5) [2, 0, 1, 3, 128] :=
  IntO.s (B := 0) (e := 3) ⟨rfl, .inr ⟨b, 5, _, rfl, Nat.zero_le _, h, by simp, by decide, rfl, rfl⟩⟩
end Go.Proofs.YtgigjgjpglmpoaaGreatDoor
namespace Go.Proofs.YtgigjgjpglmpoaaGreatDoor
open Go.RowKit
/-- The letters of a text; the text of letters. -/
abbrev Tx := List UInt8
def tx (s : ByteArray) : Tx := s.data.toList
def S (l : Tx) : ByteArray := ⟨l.toArray⟩
theorem S_tx (s : ByteArray) : S (tx s) = s := by simp [S, tx]
theorem tx_S (l : Tx) : tx (S l) = l := by simp [S, tx]
theorem tx_len (s : ByteArray) : (tx s).length = s.size := by simp [tx]
theorem S_len (l : Tx) : (S l).size = l.length := by simp [S, ByteArray.size]
theorem tx_ext {s t : ByteArray} (h : tx s = tx t) : s = t := by rw [← S_tx s, ← S_tx t, h]
theorem tx_app (s t : ByteArray) : tx (s ++ t) = tx s ++ tx t := by simp [tx]
theorem S_app (l k : Tx) : S l ++ S k = S (l ++ k) := tx_ext (by rw [tx_app, tx_S, tx_S, tx_S])
theorem S_eq {s : ByteArray} {l : Tx} (h : tx s = l) : s = S l := by rw [← h, S_tx]
theorem tx_get {s : ByteArray} {k : Nat} (h : k < s.size) : (tx s)[k]'(by rw [tx_len]; exact h) = s[k] := rfl
theorem tx_drop {s : ByteArray} {k : Nat} (h : k < s.size) : (tx s).drop k = s[k] :: (tx s).drop (k+1) := by
  rw [List.drop_eq_getElem_cons (by rw [tx_len]; exact h)]; rfl
theorem tx_take {s : ByteArray} {k : Nat} (h : k < s.size) : (tx s).take (k+1) = (tx s).take k ++ [s[k]] := by
  rw [List.take_succ_eq_append_getElem (by rw [tx_len]; exact h)]; rfl
theorem tx_ext_slice (s : ByteArray) (a b : Nat) : tx (s.extract a b) = ((tx s).drop a).take (b - a) := by
  simp [tx, ByteArray.data_extract, List.extract_eq_take_drop]
theorem ret_str {s t : ByteArray} (h : s = t) : Ending.returned (.string s) = .returned (.string t) := by rw [h]
theorem sb_tx (s : ByteArray) : sb s = (tx s).map fun c => (c.toNat : Int) := rfl

def isLow (c : Int) : Bool := decide (97 ≤ c) && decide (c ≤ 122)
def isDig (c : Int) : Bool := decide (48 ≤ c) && decide (c ≤ 57)
/-- A letter of a name. -/
def isLet (c : Int) : Bool := isLow c || isDig c || c == 45
set_option maxHeartbeats 400000 in
theorem l2Letter_c (c : Int) (w : World) : Calls Tryz.prog 49 #[.int .u8 c] w fun e w' => e = .returned (.bool (isLet c)) ∧ w = w' := by
  by_cases h1 : 97 ≤ c
  · by_cases h2 : c ≤ 122
    · have e1 : decide (97 ≤ c) = true := by simpa using h1
      have e2 : decide (c ≤ 122) = true := by simpa using h2
      go_enter Tryz.func49, Tryz.ntmps49
      go_wp2
      go_ret
      exact ⟨ret_bool (by simp [isLet, isLow, h1, h2]), rfl⟩
    · have e1 : decide (97 ≤ c) = true := by simpa using h1
      have e2 : decide (c ≤ 122) = false := by simpa using h2
      have e3 : decide (48 ≤ c) = true := by simp; omega
      have e4 : decide (c ≤ 57) = false := by simp; omega
      have e5 : (c == 45) = false := beq_eq_false_iff_ne.2 (by omega)
      go_enter Tryz.func49, Tryz.ntmps49
      go_wp2
      go_ret
      exact ⟨ret_bool (by simp [isLet, isLow, isDig, h1, h2, e3, e4, e5]), rfl⟩
  · have e1 : decide (97 ≤ c) = false := by simpa using h1
    by_cases h3 : 48 ≤ c
    · have e3 : decide (48 ≤ c) = true := by simpa using h3
      by_cases h4 : c ≤ 57
      · have e4 : decide (c ≤ 57) = true := by simpa using h4
        go_enter Tryz.func49, Tryz.ntmps49
        go_wp2
        go_ret
        exact ⟨ret_bool (by simp [isLet, isDig, h3, h4]), rfl⟩
      · have e4 : decide (c ≤ 57) = false := by simpa using h4
        have e5 : (c == 45) = false := beq_eq_false_iff_ne.2 (by omega)
        go_enter Tryz.func49, Tryz.ntmps49
        go_wp2
        go_ret
        exact ⟨ret_bool (by simp [isLet, isLow, isDig, e1, e4, e5]), rfl⟩
    · have e3 : decide (48 ≤ c) = false := by simpa using h3
      go_enter Tryz.func49, Tryz.ntmps49
      go_wp2
      go_ret
      exact ⟨ret_bool (by simp [isLet, isLow, isDig, e1, e3]), rfl⟩

/-- A text, cut at a letter. -/
def pre (p : Tx) : List Tx → List Tx
  | [] => [p]
  | y :: ys => (p ++ y) :: ys
def cutB (c : UInt8) : Tx → List Tx
  | [] => [[]]
  | x :: xs => if x = c then [] :: cutB c xs else pre [x] (cutB c xs)
theorem pre_nil {L : List Tx} (h : L ≠ []) : pre [] L = L := by cases L <;> simp_all [pre]
theorem pre_ne (p : Tx) (L : List Tx) : pre p L ≠ [] := by cases L <;> simp [pre]
theorem cutB_ne (c : UInt8) (l : Tx) : cutB c l ≠ [] := by
  cases l with
  | nil => simp [cutB]
  | cons x xs => unfold cutB; split <;> simp [pre_ne]
theorem pre_pre (p q : Tx) (L : List Tx) : pre p (pre q L) = pre (p ++ q) L := by cases L <;> simp [pre]
theorem cutB_len (c : UInt8) (l : Tx) : (cutB c l).length ≤ l.length + 1 := by
  induction l with
  | nil => simp [cutB]
  | cons x xs ih =>
    unfold cutB
    split
    · simp; omega
    · have := cutB_ne c xs
      cases h : cutB c xs with
      | nil => exact absurd h this
      | cons y ys => rw [h] at ih; simp [pre] at ih ⊢; omega
theorem cutB_piece (c : UInt8) (l : Tx) : ∀ p ∈ cutB c l, p.length ≤ l.length := by
  induction l with
  | nil => simp [cutB]
  | cons x xs ih =>
    unfold cutB
    split
    · intro p hp
      rcases List.mem_cons.1 hp with rfl | hp
      · simp
      · have := ih p hp; simp; omega
    · cases h : cutB c xs with
      | nil => simp [pre]
      | cons y ys =>
        rw [h] at ih
        intro p hp
        simp only [pre, List.mem_cons] at hp
        rcases hp with rfl | hp
        · have := ih y (by simp); simp; omega
        · have := ih p (by simp [hp]); simp; omega
def txs (ls : List Tx) : List Value := ls.map fun l => .string (S l)
/-- v is a slice of texts. -/
def StrS (w : World) (v : Value) (ls : List Tx) : Prop := Row w 1 v ls.length (txs ls)
def StrO (B : Nat) (w : World) (v : Value) (ls : List Tx) : Prop := Own B 9 1 w v ls.length (txs ls)
theorem StrS.kept {w w' : World} {v : Value} {ls : List Tx} (h : StrS w v ls) (hg : Gr w w') : StrS w' v ls := Row.kept h hg
theorem StrO.kept {B : Nat} {w w' : World} {v : Value} {ls : List Tx} (h : StrO B w v ls) (hg : Gr w w') : StrO B w' v ls := Own.kept h hg
theorem StrO.s {B : Nat} {w : World} {v : Value} {ls : List Tx} (h : StrO B w v ls) : StrS w v ls := Own.row h
theorem StrO.mono {B B' : Nat} {w : World} {v : Value} {ls : List Tx} (h : StrO B w v ls) (hB : B' ≤ B) : StrO B' w v ls := Own.mono h hB
theorem StrS.form {w : World} {v : Value} {ls : List Tx} (h : StrS w v ls) : ∃ p cap, v = .slice p ls.length cap ∧ ls.length ≤ cap ∧ cap ≤ 9223372036854775807 := by
  obtain ⟨_, p, cap, h1, h2, h3, _⟩ := h
  exact ⟨p, cap, h1, h2, h3⟩
theorem uS : Tryz.prog.underlying 78 = some (.slice 9) := by kernel_rfl
theorem infoS : ∃ i, Tryz.prog.info? 9 = some i ∧ i.zero = some (.string ByteArray.empty) ∧ i.size = 1 ∧ i.bytes = 16 := info_parts (by kernel_rfl)
def nthS (ls : List Tx) (k : Nat) : Tx := ls.getD k []
theorem nthS_eq {ls : List Tx} {k : Nat} (h : k < ls.length) : nthS ls k = ls[k] := by simp [nthS, h]
theorem txs_nth (ls : List Tx) (k : Nat) (h : k < ls.length) : (txs ls)[k]? = some (.string (S (nthS ls k))) := by simp [txs, nthS, h]
theorem txs_app (a b : List Tx) : txs (a ++ b) = txs a ++ txs b := by simp [txs]
theorem txs_one (ls : List Tx) : ∀ u ∈ txs ls, u.oneCell' = true := by
  intro u hu
  obtain ⟨l, _, rfl⟩ := List.mem_map.1 hu
  rfl
theorem StrS.ix {w : World} {p : Option Addr} {cap : Nat} {ls : List Tx} (h : StrS w (.slice p ls.length cap) ls) {k : Nat} (hk : k < ls.length) :
    ∃ a : Addr, (∀ w1, (Instr.indexAt 78 (.slice p ls.length cap) (.int .i64 (k : Int))).run Tryz.prog w1 = .ok (.pointer (some a)) w1) ∧ w.cell? a = some (.string (S (nthS ls k))) := by
  obtain ⟨i, hi, _, hs, _⟩ := infoS
  obtain ⟨a, h1, h2⟩ := Row.at h uS hi hs hk
  refine ⟨a, h1, ?_⟩
  have := h2 0 _ (by simpa using txs_nth ls k hk)
  rwa [addr_add_zero] at this
theorem wpl_appS {w : World} {ops : Array Oper} {rest : List Oper} {o : Oper} {a : Act} {Q : Exit → Act → World → Prop} (hgd : o.guard = none) (s x : Operand)
    (ho : o.op = .call { callee := .builtin .append, args := #[s, x], argTypes := #[78, 78] })
    {B : Nat} {v : Value} {ls : List Tx} (hs : a.eval s = v) (hown : StrO B w v ls) {xv : Value} {ks : List Tx} (hx : a.eval x = xv) (hrow : StrS w xv ks)
    (hb : ls.length + ks.length ≤ 1000000000) (hB : B ≤ w.heap.size)
    (h : ∀ v' w', StrO B w' v' (ls ++ ks) → Below B w w' → wpList Tryz.prog ops Q rest (a.put o.dst v') w') : wpList Tryz.prog ops Q (o :: rest) a w := by
  obtain ⟨i0, hi, hz, hs', hby⟩ := infoS
  exact wpl_append w hgd s x _ ho uS hi hz hs' hby rfl (by decide) (by decide) hs hown hx hrow (txs_one _) (by omega) hB fun v' w' h1 h2 =>
    h v' w' (by unfold StrO; rw [txs_app, List.length_append]; exact h1) h2
theorem StrO.mt (w : World) : StrO w.heap.size (w.alloc (.cells #[] 9)) (.slice (some ⟨w.heap.size, 0, none⟩) 0 0) [] := Own.lit w #[] 0 (Nat.le_refl _) (by decide) rfl
theorem StrO.one {w : World} (s : ByteArray) : StrO w.heap.size (w.alloc (.cells #[.string s] 9)) (.slice (some ⟨w.heap.size, 0, none⟩) 1 1) [tx s] := by
  have := Own.lit (B := w.heap.size) (e := 9) (sz := 1) w #[.string s] 1 (Nat.le_refl _) (by decide) rfl
  unfold StrO txs
  simpa [S_tx] using this
/-- Cut up to a place: what is done, and the piece begun. -/
def CutSt (c : UInt8) (l : Tx) (out : List Tx) (f i : Nat) : Prop := f ≤ i ∧ out.length ≤ f ∧ cutB c l = out ++ pre ((l.drop f).take (i - f)) (cutB c (l.drop i))
theorem take_drop_snoc {l : Tx} {f i : Nat} (hf : f ≤ i) (h : i < l.length) : (l.drop f).take (i + 1 - f) = (l.drop f).take (i - f) ++ [l[i]] := by
  rw [show i + 1 - f = (i - f) + 1 by omega, List.take_succ_eq_append_getElem (by simp; omega)]
  congr 2
  simp [show f + (i - f) = i by omega]
theorem CutSt.hit {c : UInt8} {l : Tx} {out : List Tx} {f i : Nat} (h : CutSt c l out f i) (hi : i < l.length) (hc : l[i] = c) : CutSt c l (out ++ [(l.drop f).take (i - f)]) (i + 1) (i + 1) := by
  refine ⟨Nat.le_refl _, by have := h.1; have := h.2.1; simp; omega, ?_⟩
  rw [h.2.2, List.drop_eq_getElem_cons hi, cutB, if_pos hc, Nat.sub_self, List.take_zero, pre_nil (cutB_ne _ _)]
  simp [pre]
theorem CutSt.miss {c : UInt8} {l : Tx} {out : List Tx} {f i : Nat} (h : CutSt c l out f i) (hi : i < l.length) (hc : l[i] ≠ c) : CutSt c l out f (i + 1) := by
  refine ⟨by have := h.1; omega, h.2.1, ?_⟩
  rw [h.2.2, List.drop_eq_getElem_cons hi, cutB, if_neg hc, take_drop_snoc h.1 hi, pre_pre]
theorem CutSt.done {c : UInt8} {l : Tx} {out : List Tx} {f : Nat} (h : CutSt c l out f l.length) : cutB c l = out ++ [l.drop f] := by
  have := h.2.2
  rw [List.drop_length, cutB] at this
  simp only [pre, List.append_nil] at this
  rw [this, List.take_of_length_le (by simp)]
theorem CutSt.start (c : UInt8) (l : Tx) : CutSt c l [] 0 0 := ⟨Nat.le_refl _, Nat.le_refl _, by simp [pre_nil (cutB_ne c l)]⟩
end Go.Proofs.YtgigjgjpglmpoaaGreatDoor
namespace Go.Proofs.YtgigjgjpglmpoaaGreatDoor
open Go.RowKit
theorem u8_beq {a b : UInt8} : (((a.toNat : Int) == (b.toNat : Int)) = true) ↔ a = b := by
  rw [beq_iff_eq]
  constructor
  · intro h; exact UInt8.toNat_inj.1 (by omega)
  · rintro rfl; rfl
theorem u8_bne {a b : UInt8} (h : a ≠ b) : ((a.toNat : Int) == (b.toNat : Int)) = false := by
  rw [beq_eq_false_iff_ne]; intro e; exact h (UInt8.toNat_inj.1 (by omega))
/-- A text of letters of names. -/
def allLet (l : Tx) : Bool := l.all fun c => isLet (c.toNat : Int)
def pieceOk (l : Tx) : Bool := !l.isEmpty && allLet l
def lastLow (ls : List Tx) : Bool := match (nthS ls (ls.length - 1)) with | [] => false | c :: _ => isLow (c.toNat : Int)
/-- A name. -/
def nameOk (l : Tx) : Bool := (cutB 46 l).all pieceOk && (decide (l.length ≤ 20) && lastLow (cutB 46 l))
theorem take_allS (p : Tx → Bool) {xs : List Tx} {k : Nat} (h : k < xs.length) : (xs.take (k+1)).all p = ((xs.take k).all p && p (nthS xs k)) := by
  rw [List.take_succ_eq_append_getElem h, nthS_eq h, List.all_append]; simp
theorem allS_false (p : Tx → Bool) {xs : List Tx} {k : Nat} (h : k < xs.length) (hp : p (nthS xs k) = false) : xs.all p = false := by
  rw [List.all_eq_false]; exact ⟨xs[k], List.getElem_mem h, by rw [nthS_eq h] at hp; simp [hp]⟩
theorem allU_step (p : UInt8 → Bool) {s : ByteArray} {k : Nat} (h : k < s.size) : ((tx s).take (k+1)).all p = (((tx s).take k).all p && p s[k]) := by
  rw [tx_take h, List.all_append]; simp
theorem allU_false (p : UInt8 → Bool) {s : ByteArray} {k : Nat} (h : k < s.size) (hp : p s[k] = false) : (tx s).all p = false := by
  rw [List.all_eq_false]; exact ⟨s[k], List.getElem_mem (by rw [tx_len]; exact h), by simp [hp]⟩
end Go.Proofs.YtgigjgjpglmpoaaGreatDoor
