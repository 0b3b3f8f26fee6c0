/- Slices of slices of numbers that keep clear of a block. -/
import Derived.Test.YtncnnfmfpilonaaGreatDoorFeedL
namespace Go.Proofs.YtncnnfmfpilonaaGreatDoor
open Go.RowKit
/-- Rows in the blocks from B up to T, none of them block z. -/
def FrN (z : Option Nat) (B T : Nat) (w : World) (v : Value) (fs : List (List Int)) : Prop :=
  ∃ ds : List Value, ds.length = fs.length ∧ OwnB B T 22 1 w v fs.length ds ∧ (∀ k, k < fs.length → IntB B T 3 w (nthV ds k) (nthL fs k)) ∧
    (∀ k, k < fs.length → ∀ b, (nthV ds k).ownBlock = some b → v.ownBlock ≠ some b) ∧ (∀ i j, i < j → j < fs.length → ∀ b, (nthV ds i).ownBlock = some b → (nthV ds j).ownBlock ≠ some b) ∧
    (∀ b, z = some b → v.ownBlock ≠ some b ∧ ∀ k, k < fs.length → (nthV ds k).ownBlock ≠ some b)
theorem FrN.o {z : Option Nat} {B T : Nat} {w : World} {v : Value} {fs : List (List Int)} (h : FrN z B T w v fs) : FrO B T w v fs := by
  obtain ⟨ds, h0, h1, h2, h3, h4, _⟩ := h
  exact ⟨ds, h0, h1, h2, h3, h4⟩
theorem FrO.n {B T : Nat} {w : World} {v : Value} {fs : List (List Int)} (h : FrO B T w v fs) {z : Option Nat} (hz : ∀ b, z = some b → T ≤ b) : FrN z B T w v fs := by
  obtain ⟨ds, h0, h1, h2, h3, h4⟩ := h
  refine ⟨ds, h0, h1, h2, h3, h4, fun b hb => ⟨fun hv => ?_, fun k hk hv => ?_⟩⟩
  · have := h1.2 b hv; have := hz b hb; omega
  · have := (h2 k hk).2 b hv; have := hz b hb; omega
theorem FrN.kept {z : Option Nat} {B T : Nat} {w w' : World} {v : Value} {fs : List (List Int)} (h : FrN z B T w v fs) (hg : Gr w w') : FrN z B T w' v fs := by
  obtain ⟨ds, h0, h1, h2, h3, h4, h5⟩ := h
  exact ⟨ds, h0, h1.kept hg, fun k hk => (h2 k hk).kept hg, h3, h4, h5⟩
theorem FrN.chg {z : Option Nat} {B T B' T' : Nat} {w w' : World} {v : Value} {fs : List (List Int)} (h : FrN z B T w v fs) (hc : Chg B' T' w w') (hd : T ≤ B' ∨ T' ≤ B) : FrN z B T w' v fs := by
  obtain ⟨ds, h0, h1, h2, h3, h4, h5⟩ := h
  exact ⟨ds, h0, h1.chg hc hd, fun k hk => (h2 k hk).chg hc hd, h3, h4, h5⟩
/-- The block it keeps clear of has turned. -/
theorem FrN.apart {B T b : Nat} {w w' : World} {v : Value} {fs : List (List Int)} (h : FrN (some b) B T w v fs) (hc : Chg b (b + 1) w w') : FrN (some b) B T w' v fs := by
  obtain ⟨ds, h0, h1, h2, h3, h4, h5⟩ := h
  obtain ⟨k1, k2⟩ := h5 b rfl
  exact ⟨ds, h0, h1.apart hc k1, fun k hk => OwnB.apart (h2 k hk) hc (k2 k hk), h3, h4, h5⟩
/-- append of a new row. -/
theorem FrN.append {z : Option Nat} {B T : Nat} {w : World} {v : Value} {fs : List (List Int)} (h : FrN z B T w v fs) (hT : T ≤ w.heap.size) (hBT : B ≤ T) {x d : Value} {xs : List Int}
    (hx : Row w 1 x 1 [d]) (hd : IntO T 3 w d xs) (hn : fs.length ≤ 2000000) (ty : Nat) (hz : ∀ b, z = some b → d.ownBlock ≠ some b ∧ b < w.heap.size) :
    ∃ v' w', (Builtin.append_ #[45, 45] ty #[v, x]).run Tryz.prog w = .ok v' w' ∧ FrN z B w'.heap.size w' v' (fs ++ [xs]) ∧ Below B w w' ∧ (∀ b, T ≤ b → b < w.heap.size → w'.heap[b]? = w.heap[b]?) := by
  obtain ⟨i, hi, hiz, hs, hby⟩ := infoII
  obtain ⟨ds, h0, h1, h2, h3, h4, h5⟩ := h
  obtain ⟨hl, p, cap, rfl, c1, c2, c3, c4⟩ := hx
  cases p with
  | none => have := c3 rfl; omega
  | some a =>
    have hone : ∀ u ∈ [d], u.oneCell' = true := by
      obtain ⟨pd, cd, rfl⟩ := hd.len
      simp [Value.oneCell']
    obtain ⟨v', w', hr, q1, q2, _, q4⟩ := run_append_own_at (P := Tryz.prog) w B 45 ty 22 i _ 1 24 uII hi hiz hs hby rfl (by decide) v fs.length ds h1.1 a 1 cap [d] rfl (c4 a rfl) hone (by unfold maxLen; omega) (by omega) (by omega)
    have hb : Below B w w' := (Below.refl B w).grown q2 (by omega) (fun k hk => (h1.1.blk k hk).1)
    have hvT : ∀ b, v.ownBlock = some b → b < T := h1.2
    have hsz : w.heap.size ≤ w'.heap.size := q2.size
    have keepI : ∀ (u : Value) (ys : List Int) (B' T' : Nat), IntB B' T' 3 w u ys → (∀ b, u.ownBlock = some b → v.ownBlock ≠ some b) → IntB B' T' 3 w' u ys := by
      intro u ys B' T' hu hne
      refine ⟨World.ownsRow.kept hu.1 q2 ?_, hu.2⟩
      cases hub : u.ownBlock with
      | none => exact .inl rfl
      | some b => exact .inr fun e => hne b hub e.symm
    have hdv : ∀ b, d.ownBlock = some b → v.ownBlock ≠ some b := fun b hb1 hb2 => by have := hvT b hb2; have := (hd.blk b hb1).1; omega
    have hv' : ∀ b, v'.ownBlock = some b → v.ownBlock = some b ∨ b = w.heap.size := by
      intro b hb1
      rcases q4 with q4 | q4
      · exact .inl (by rw [← q4]; exact hb1)
      · rw [q4] at hb1; exact .inr (Option.some.inj hb1).symm
    refine ⟨v', w', hr, ⟨ds ++ [d], by simp [h0], ?_, ?_, ?_, ?_, ?_⟩, hb, fun b hb1 hb2 => q2.block b hb2 (fun e => by have := hvT b e.symm; omega)⟩
    · rw [List.length_append]
      exact Own.b q1
    · intro k hk
      by_cases hk' : k < fs.length
      · rw [nthV_snoc_lt (by omega), nthL_snoc_lt hk']
        exact (keepI _ _ _ _ (h2 k hk') (h3 k hk')).wide (Nat.le_refl _) (by omega)
      · obtain rfl : k = fs.length := by simp at hk; omega
        rw [nthL_snoc_eq, show nthV (ds ++ [d]) fs.length = d by rw [← h0]; exact nthV_snoc_eq ds d]
        exact (keepI _ _ _ _ hd.b hdv).wide (by omega) (by omega)
    · intro k hk b hb1 hb2
      by_cases hk' : k < fs.length
      · rw [nthV_snoc_lt (by omega)] at hb1
        rcases hv' b hb2 with e | e
        · exact h3 k hk' b hb1 e
        · have := (h2 k hk').2 b hb1; omega
      · obtain rfl : k = fs.length := by simp at hk; omega
        rw [show nthV (ds ++ [d]) fs.length = d by rw [← h0]; exact nthV_snoc_eq ds d] at hb1
        rcases hv' b hb2 with e | e
        · exact hdv b hb1 e
        · have := (hd.blk b hb1).2; omega
    · intro i j hij hj b hb1 hb2
      rw [nthV_snoc_lt (by simp at hj; omega)] at hb1
      by_cases hj' : j < fs.length
      · rw [nthV_snoc_lt (by omega)] at hb2
        exact h4 i j hij hj' b hb1 hb2
      · obtain rfl : j = fs.length := by simp at hj; omega
        rw [show nthV (ds ++ [d]) fs.length = d by rw [← h0]; exact nthV_snoc_eq ds d] at hb2
        have := (h2 i (by omega)).2 b hb1
        have := (hd.blk b hb2).1
        omega
    · intro b hb1
      obtain ⟨z1, z2⟩ := hz b hb1
      obtain ⟨y1, y2⟩ := h5 b hb1
      refine ⟨fun hb2 => ?_, fun k hk hb2 => ?_⟩
      · rcases hv' b hb2 with e | e
        · exact y1 e
        · omega
      · by_cases hk' : k < fs.length
        · rw [nthV_snoc_lt (by omega)] at hb2
          exact y2 k hk' hb2
        · obtain rfl : k = fs.length := by simp at hk; omega
          rw [show nthV (ds ++ [d]) fs.length = d by rw [← h0]; exact nthV_snoc_eq ds d] at hb2
          exact z1 hb2
theorem wpl_appN {w : World} {ops : Array Oper} {rest : List Oper} {o : Oper} {a : Act} {Q : Exit → Act → World → Prop} (hgd : o.guard = none) (s x : Operand)
    (ho : o.op = .call { callee := .builtin .append, args := #[s, x], argTypes := #[45, 45] })
    {z : Option Nat} {B T : Nat} {v : Value} {fs : List (List Int)} (hs : a.eval s = v) (hown : FrN z B T w v fs) (hT : T ≤ w.heap.size) (hBT : B ≤ T) {xv d : Value} {xs : List Int} (hx : a.eval x = xv)
    (hrow : Row w 1 xv 1 [d]) (hd : IntO T 3 w d xs) (hn : fs.length ≤ 2000000) (hz : ∀ b, z = some b → d.ownBlock ≠ some b ∧ b < w.heap.size)
    (h : ∀ v' w', FrN z B w'.heap.size w' v' (fs ++ [xs]) → Below B w w' → (∀ b, T ≤ b → b < w.heap.size → w'.heap[b]? = w.heap[b]?) → wpList Tryz.prog ops Q rest (a.put o.dst v') w') : wpList Tryz.prog ops Q (o :: rest) a w := by
  refine wpList_plain hgd fun K hK => ?_
  obtain ⟨v', w', hr, h2, h3, h4⟩ := FrN.append hown hT hBT hrow hd hn o.type hz
  unfold Oper.wp execOp
  simp only [ho, resolve, invoke, builtin, Sem.run_bind, Sem.run_pure, Result.andThen_ok, List.map_toArray, List.map_cons, List.map_nil, hs, hx, hr]
  exact hK _ _ (h v' w' h2 h3 h4)
/-- The place of a row, with what is left alone. -/
theorem FrN.place {z : Option Nat} {B T : Nat} {w : World} {v : Value} {fs : List (List Int)} (h : FrN z B T w v fs) (hzs : ∀ b, z = some b → b < w.heap.size) {k : Nat} (hk : k < fs.length) :
    ∃ (a : Addr) (d : Value) (b : Nat), (∀ w1, (Instr.indexAt 45 v (.int .i64 (k : Int))).run Tryz.prog w1 = .ok (.pointer (some a)) w1) ∧ w.cell? a = some d ∧ IntB b (b + 1) 3 w d (nthL fs k) ∧
      (∀ w' ys, ys.length = (nthL fs k).length → Chg b (b + 1) w w' → IntB b (b + 1) 3 w' d ys → FrN z B T w' v (fs.set k ys) ∧ Chg B T w w' ∧ ∀ c, z = some c → w'.heap[c]? = w.heap[c]?) := by
  obtain ⟨i, hi, _, hs, _⟩ := infoII
  obtain ⟨ds, h0, h1, h2, h3, h4, h5⟩ := h
  obtain ⟨a, f1, f2, f3, f4, f5, f6, f7⟩ := Own.at h1.1 uII hi hs hk
  have hbk : ∃ b, b ≠ a.block ∧ IntB b (b + 1) 3 w (nthV ds k) (nthL fs k) ∧ (∀ w', Chg b (b + 1) w w' → Chg B T w w') ∧ (∀ j, j < fs.length → j ≠ k → (nthV ds j).ownBlock ≠ some b) ∧ (∀ w' ys, ys.length = (nthL fs k).length → IntB b (b + 1) 3 w' (nthV ds k) ys → IntB B T 3 w' (nthV ds k) ys) ∧ (∀ c, z = some c → c ≠ b) := by
    cases hv : (nthV ds k).ownBlock with
    | some b =>
      obtain ⟨q1, q2, q3⟩ := OwnB.narrow (h2 k hk) hv
      refine ⟨b, fun e => h3 k hk b hv (by rw [f7, e]), q3, fun w' hc => hc.wide q1 (by omega), fun j hj hne hb => ?_, fun w' ys _ hy => OwnB.wide hy q1 (by omega), fun c hc e => (h5 c hc).2 k hk (by rw [hv, e])⟩
      rcases Nat.lt_or_gt_of_ne hne with hl | hl
      · exact h4 j k hl hk b hb hv
      · exact h4 k j hl hj b hv hb
    | none =>
      have hd := h2 k hk
      obtain ⟨⟨e1, e2⟩, _⟩ := hd
      rcases e2 with ⟨e2, e3⟩ | ⟨g', cap, cur, e2, _⟩
      · rw [e2]
        have hx : nthL fs k = [] := List.eq_nil_of_length_eq_zero e3
        rw [hx]
        refine ⟨w.heap.size, by omega, ⟨World.ownsRow_nil w _ _ 1, by intro k hk; cases hk⟩, fun w' hc => ⟨hc.os, hc.tape, hc.output, hc.size, fun i hi => ?_⟩, fun j hj _ hb => ?_, fun w' ys hl _ => ?_, fun c hc => by have := hzs c hc; omega⟩
        · by_cases h : i = w.heap.size
          · subst h
            rw [Array.getElem?_eq_none (by rw [hc.size]; exact Nat.le_refl _), Array.getElem?_eq_none (Nat.le_refl _)]
          · exact hc.block i (by omega)
        · have := ((h2 j hj).1.blk _ hb).2
          omega
        · have : ys = [] := List.eq_nil_of_length_eq_zero (by simpa using hl)
          subst this
          exact ⟨World.ownsRow_nil w' _ _ 1, by intro k hk; cases hk⟩
      · rw [e2] at hv; cases hv
  obtain ⟨b, hbg, hbI, hbC, hbN, hbW, hbZ⟩ := hbk
  refine ⟨a, nthV ds k, b, f1, ?_, hbI, fun w' ys hyl hc hy => ⟨⟨ds, by simp [h0], ?_, ?_, ?_, ?_, ?_⟩, hbC w' hc, fun c hcz => hc.block c (by have := hbZ c hcz; omega)⟩⟩
  · have := f4 0 (nthV ds k) (by simp [nthV, h0, hk])
    rwa [addr_add_zero] at this
  · rw [List.length_set]
    exact h1.apart hc (by rw [f7]; intro e; cases e; exact hbg rfl)
  · intro j hj
    rw [List.length_set] at hj
    rw [nthL_set hk]
    by_cases e : j = k
    · subst e; simp only [if_true]; exact hbW w' ys hyl hy
    · rw [if_neg e]; exact OwnB.apart (h2 j hj) hc (hbN j hj e)
  · intro j hj; rw [List.length_set] at hj; exact h3 j hj
  · intro j j' hjj hj'; rw [List.length_set] at hj'; exact h4 j j' hjj hj'
  · intro c hc; rw [List.length_set]; exact h5 c hc
set_option maxHeartbeats 1000000 in
theorem markIntSSn_c {z : Option Nat} {B T : Nat} {w : World} {v : Value} {fs : List (List Int)} (h : FrN z B T w v fs) (hzs : ∀ b, z = some b → b < w.heap.size) (k0 : Nat) (ki : Int) (hki : ki = (k0 : Int)) (hk0 : k0 + cntF fs ≤ 100000000) (hfl : fs.length ≤ 100000000) :
    Calls Tryz.prog 36 #[v, .int .i64 ki] w fun e w' => e = .returned (.int .i64 ((k0 + cntF fs : Nat) : Int)) ∧ FrN z B T w' v (fmarks k0 fs) ∧ Chg B T w w' ∧ ∀ c, z = some c → w'.heap[c]? = w.heap[c]? := by
  subst hki
  obtain ⟨p, cap, rfl⟩ := h.o.form
  have h0 : (k0 : Int) ≤ 100000000 := by omega
  go_enter Tryz.func36, Tryz.ntmps36
  go_wp2_with fail
  go_loopw [1, 5] (fun n i wr => ∃ (k N : Nat) (us : List (List Int)), k ≤ fs.length ∧ i = .int .i64 k ∧ n = .int .i64 (N : Int) ∧ Hid (N = k0 + cntF (fs.take k)) ∧ Hid (HalfF k0 fs us k) ∧ FrN z B T wr (.slice p fs.length cap) us ∧ Chg B T w wr ∧ Hid (∀ c, z = some c → wr.heap[c]? = w.heap[c]?)) (fun _ i _ => fs.length - (intOf i).toNat)
  case atStart => exact ⟨0, k0, fs, Nat.zero_le _, rfl, rfl, by simp [Hid, cntF], ⟨rfl, by simp, fun _ _ => rfl⟩, h, Chg.refl _ _ _, fun _ _ => rfl⟩
  case round =>
    obtain ⟨k, N, us, hk, rfl, rfl, HN, HH, ho, hch, hkz⟩ := hrel
    have hN : N ≤ 100000000 := by have := HN.out; have := cntF_le (fs := fs) k; omega
    by_cases hlt : k < fs.length
    · have hul : k < us.length := by have := HH.out.1; omega
      have hst := cntF_step hlt
      have hcl := cntF_le (fs := fs) (k+1)
      have hu := HH.out.2.2 k (Nat.le_refl _)
      obtain ⟨a, d, b, hix, hc0, hI, hdat⟩ := ho.place (fun b hb => by rw [hch.size]; exact hzs b hb) hul
      rw [hu] at hI hdat
      obtain ⟨q, cq, rfl⟩ := hI.o.len
      have hmk : upFrom (N : Int) (nthL fs k).length = fmarkAt k0 fs k := by unfold fmarkAt; rw [← HN.out]
      have HMK := Lib.hid (HH.out.next hlt hmk)
      generalize nthL fs k = xs at *
      have hNe : N + xs.length = k0 + cntF (fs.take (k+1)) := by have := HN.out; omega
      have HNE := Lib.hid hNe
      have hL : N + xs.length ≤ 100000000 := by omega
      clear hmk hst hcl hu hNe
      go_wp2_with fail
      (with_reducible refine (markIntS_c hI (N : Int) (by omega) (by omega) (by omega)).mono ?_); rintro e w2 ⟨rfl, hI2, hc2⟩
      obtain ⟨hTO2, hCh2, hZ2⟩ := hdat w2 _ (upFrom_length _ _) hc2 hI2
      have hCh3 := hch.trans hCh2
      have HZ3 : Hid (∀ c, z = some c → w2.heap[c]? = w.heap[c]?) := Lib.hid fun c hc => (hZ2 c hc).trans (hkz.out c hc)
      clear hdat hc2 hI2 hI hc0 hZ2
      go_wp2
      go_roundw
      case measure => simp [intOf]; omega
      case rel => exact ⟨k+1, N + xs.length, _, by omega, by go_num, by simp, HNE.out, HMK.out, hTO2, hCh3, HZ3.out⟩
    · have e : N = k0 + cntF fs := by have := HN.out; rwa [List.take_of_length_le (by omega)] at this
      have e2 := HH.out.done hlt
      subst e e2
      go_wp2
      go_ret
      exact ⟨rfl, ho, hch, hkz.out⟩
end Go.Proofs.YtncnnfmfpilonaaGreatDoor
