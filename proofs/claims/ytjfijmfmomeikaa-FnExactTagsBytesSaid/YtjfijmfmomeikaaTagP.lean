/- Drawn tags. -/
import Derived.Test.YtjfijmfmomeikaaTagO
namespace Go.Proofs.Ytjfijmfmomeikaa
open Go.RowKit
theorem tagCells_get {ts : List Tag} {ds : List Value} {k : Nat} (hk : k < ts.length) : (tagCells ts ds)[k * 2]? = some (.int .i64 (nthT ts k).1) ∧ (tagCells ts ds)[k * 2 + 1]? = some (nthV ds k) := by
  have hc : ((List.range ts.length).map fun k => [Value.int .i64 (nthT ts k).1, nthV ds k])[k]? = some [Value.int .i64 (nthT ts k).1, nthV ds k] := by simp [hk]
  have hl : ∀ c ∈ ((List.range ts.length).map fun k => [Value.int .i64 (nthT ts k).1, nthV ds k]), c.length = 2 := by simp
  constructor
  · have := flat_get hl hc 0 (by decide)
    exact this
  · have := flat_get hl hc 1 (by decide)
    exact this
theorem list_ext2 {xs ys : List Value} {n : Nat} (hx : xs.length = n * 2) (hy : ys.length = n * 2) (h : ∀ k, k < n → xs[k * 2]? = ys[k * 2]? ∧ xs[k * 2 + 1]? = ys[k * 2 + 1]?) : xs = ys := by
  apply List.ext_getElem?
  intro i
  by_cases hi : i < n * 2
  · have hk := h (i / 2) (by omega)
    rcases Nat.mod_two_eq_zero_or_one i with e | e
    · rw [show i = i / 2 * 2 by omega]; exact hk.1
    · rw [show i = i / 2 * 2 + 1 by omega]; exact hk.2
  · rw [List.getElem?_eq_none (by omega), List.getElem?_eq_none (by omega)]
theorem nthT_set {ts : List Tag} {k : Nat} (hk : k < ts.length) (t : Tag) (j : Nat) : nthT (ts.set k t) j = if j = k then t else nthT ts j := by
  by_cases e : j = k
  · subst e; simp [nthT, hk]
  · simp only [if_neg e, nthT, List.getD_eq_getElem?_getD]; rw [List.getElem?_set_ne (by omega)]
theorem nthV_set {ds : List Value} {k : Nat} (hk : k < ds.length) (d : Value) (j : Nat) : nthV (ds.set k d) j = if j = k then d else nthV ds j := by
  by_cases e : j = k
  · subst e; simp [nthV, hk]
  · simp only [if_neg e, nthV, List.getD_eq_getElem?_getD]; rw [List.getElem?_set_ne (by omega)]
theorem tagCells_setD {ts : List Tag} {ds : List Value} {k : Nat} (h0 : ds.length = ts.length) (hk : k < ts.length) (d : Value) (xs : List Int) :
    (tagCells ts ds).set (k * 2 + 1) d = tagCells (ts.set k ((nthT ts k).1, xs)) (ds.set k d) := by
  refine list_ext2 (n := ts.length) (by rw [List.length_set, tagCells_len]) (by rw [tagCells_len, List.length_set]) fun j hj => ?_
  have hg := tagCells_get (ds := ds) hj
  have hg' := tagCells_get (ts := ts.set k ((nthT ts k).1, xs)) (ds := ds.set k d) (k := j) (by simpa using hj)
  rw [hg'.1, hg'.2, nthT_set hk, nthV_set (by omega)]
  by_cases e : j = k
  · subst e
    refine ⟨?_, ?_⟩
    · rw [List.getElem?_set_ne (by omega), hg.1]; simp
    · rw [List.getElem?_set_self (by rw [tagCells_len]; omega)]; simp
  · refine ⟨?_, ?_⟩
    · rw [List.getElem?_set_ne (by omega), hg.1]; simp [e]
    · rw [List.getElem?_set_ne (by omega), hg.2]; simp [e]
theorem grown_set1 (w : World) (p : Addr) (x : Value) : w.grownBy (w.setCell p x) (some p.block) :=
  ⟨rfl, rfl, rfl, by simp [World.setCell], fun k _ hne => Below.heap_setCell _ _ _ _ (fun e => hne (by rw [e]))⟩
/-- The data of a tag, written anew. -/
theorem TagO.setData {B T : Nat} {w : World} {v : Value} {ts : List Tag} (h : TagO B T w v ts) (hT : T ≤ w.heap.size) (hBT : B ≤ T) {k : Nat} (hk : k < ts.length) :
    ∃ (a : Addr) (d0 : Value), (∀ w1, (Instr.indexAt 31 v (.int .i64 (k : Int))).run Try.prog w1 = .ok (.pointer (some a)) w1) ∧ B ≤ a.block ∧ w.cell? ⟨a.block, a.off + 1, none⟩ = some d0 ∧ w.frozen? ⟨a.block, a.off + 1, none⟩ = false ∧
      ∀ d xs, IntO T 3 w d xs → TagO B w.heap.size (w.setCell ⟨a.block, a.off + 1, none⟩ d) v (ts.set k ((nthT ts k).1, xs)) := by
  obtain ⟨i, hi, _, hs, _⟩ := infoT
  obtain ⟨ds, h0, h1, h2, h3, h4⟩ := h
  obtain ⟨a, f1, f2, f3, f4, f5, f6, f7⟩ := Own.at h1.1 uT hi hs hk
  have hbv := h1.2 a.block f7
  refine ⟨a, _, f1, f2, f4 1 _ (tagCells_get hk).2, f5 1, fun d xs hd => ?_⟩
  have hset := f6 1 d
  have hgw : w.grownBy (w.setCell ⟨a.block, a.off + 1, none⟩ d) (some a.block) := grown_set1 w _ d
  have keepI : ∀ (u : Value) (ys : List Int) (B' T' : Nat), IntB B' T' 3 w u ys → (∀ b, u.ownBlock = some b → v.ownBlock ≠ some b) → IntB B' T' 3 (w.setCell ⟨a.block, a.off + 1, none⟩ d) u ys := by
    intro u ys B' T' hu hne
    refine ⟨World.ownsRow.kept hu.1 hgw ?_, hu.2⟩
    cases hub : u.ownBlock with
    | none => exact .inl rfl
    | some b => exact .inr fun e => hne b hub (by rw [f7, e])
  have hdv : ∀ b, d.ownBlock = some b → v.ownBlock ≠ some b := fun b hb1 hb2 => by have := h1.2 b hb2; have := (hd.blk b hb1).1; omega
  refine ⟨ds.set k d, by simp [h0], ?_, ?_, ?_, ?_⟩
  · rw [List.length_set, ← tagCells_setD h0 hk]
    exact ⟨hset, fun b hb => by have := h1.2 b hb; omega⟩
  · intro j hj
    rw [List.length_set] at hj
    rw [nthV_set (by omega), nthT_set hk]
    by_cases e : j = k
    · rw [if_pos e, if_pos e]; exact (keepI _ _ _ _ hd.b hdv).wide (by omega) (Nat.le_refl _)
    · rw [if_neg e, if_neg e]; exact (keepI _ _ _ _ (h2 j hj) (h3 j hj)).wide (Nat.le_refl _) (by omega)
  · intro j hj b hb
    rw [List.length_set] at hj
    rw [nthV_set (by omega)] at hb
    by_cases e : j = k
    · rw [if_pos e] at hb; exact hdv b hb
    · rw [if_neg e] at hb; exact h3 j hj b hb
  · intro i' j hij hj b hb1 hb2
    rw [List.length_set] at hj
    rw [nthV_set (by omega)] at hb1 hb2
    by_cases e1 : i' = k
    · rw [if_pos e1] at hb1
      rw [if_neg (by omega)] at hb2
      have := (h2 j hj).2 b hb2; have := (hd.blk b hb1).1; omega
    · rw [if_neg e1] at hb1
      by_cases e2 : j = k
      · rw [if_pos e2] at hb2
        have := (h2 i' (by omega)).2 b hb1; have := (hd.blk b hb2).1; omega
      · rw [if_neg e2] at hb2
        exact h4 i' j hij hj b hb1 hb2

theorem wpl_appT {w : World} {ops : Array Oper} {rest : List Oper} {o : Oper} {a : Act} {Q : Exit → Act → World → Prop} (hgd : o.guard = none) (s x : Operand)
    (ho : o.op = .call { callee := .builtin .append, args := #[s, x], argTypes := #[31, 31] })
    {B T : Nat} {v : Value} {ts : List Tag} (hs : a.eval s = v) (hown : TagO B T w v ts) (hT : T ≤ w.heap.size) (hBT : B ≤ T) {xv d : Value} {n : Int} {xs : List Int} (hx : a.eval x = xv)
    (hrow : Row w 2 xv 1 [.int .i64 n, d]) (hd : IntO T 3 w d xs) (hn : ts.length ≤ 1000000)
    (h : ∀ v' w', TagO B w'.heap.size w' v' (ts ++ [(n, xs)]) → Below B w w' → wpList Try.prog ops Q rest (a.put o.dst v') w') : wpList Try.prog ops Q (o :: rest) a w := by
  refine wpList_plain hgd fun K hK => ?_
  obtain ⟨v', w', hr, h2, h3⟩ := TagO.append hown hT hBT hrow hd hn o.type
  unfold Oper.wp execOp
  simp only [ho, resolve, invoke, builtin, Sem.run_bind, Sem.run_pure, Result.andThen_ok, List.map_toArray, List.map_cons, List.map_nil, hs, hx, hr]
  exact hK _ _ (h v' w' h2 h3)
theorem Row.oneT (w : World) (n : Int) (d : Value) {m : Nat} (hm : m = w.heap.size) : Row (w.alloc (.cells #[.int .i64 n, d] 35)) 2 (.slice (some ⟨m, 0, none⟩) 1 1) 1 [.int .i64 n, d] := by
  subst hm; exact (Own.lit (B := w.heap.size) w #[.int .i64 n, d] 1 (Nat.le_refl _) (by decide) rfl).row
/-- Drawn tags: few, in new memory, with few bytes. -/
def DrewT (g m : Nat) (w : World) (e : Ending) (w' : World) : Prop := ∃ v ts T, e = .returned v ∧ ts.length ≤ 5 ∧ (∀ t ∈ ts, t.2.length ≤ 17) ∧ TagO w.heap.size T w' v ts ∧ T ≤ w'.heap.size ∧ RdAt w' g (m + 200) ∧ D g w w'
set_option maxHeartbeats 1600000 in
theorem l92Tags_c {w : World} {g m : Nat} (h : RdAt w g m) (hm : m ≤ 10000) :
    Calls Try.prog 38 #[.pointer (some ⟨g, 0, none⟩)] w (DrewT g m w) := by
  have hlt := h.lt
  have hmt := TagO.mt w
  have hd0 : D g w (w.alloc (.cells #[] 35)) := D.ofGr (gr_alloc w _)
  go_enter Try.func38, Try.ntmps38
  go_wp2_with fail
  (with_reducible refine (pick_c (h.alloc _) (by omega) _ (by omega) (by omega)).mono ?_); rintro e w1 ⟨n0, rfl, hn0, hn1, hr1, hd1⟩
  go_wp2_with fail
  (with_reducible refine (pick_c hr1 (by omega) _ (by omega) (by omega)).mono ?_); rintro e w2 ⟨x, rfl, hx0, hx1, hr2, hd2⟩
  have hmt2 := (hmt.keptD hd1 hlt).keptD hd2 hlt
  have hD2 := (hd0.trans hd1).trans hd2
  have hS2 : w.heap.size + 1 ≤ w2.heap.size := by have h1 := hd1.sz; have h2 := hd2.sz; simp at h1; omega
  clear hmt hd0 hd1 hd2 hr1 h
  by_cases hx : x = 0
  case' pos =>
    subst hx
    go_wp2_with fail
    (with_reducible refine (pick_c hr2 (by omega) _ (by omega) (by omega)).mono ?_); rintro e w3 ⟨y, rfl, hy0, hy1, hr3, hd3⟩
    have hmt3 := hmt2.keptD hd3 hlt
    have hD3 := hD2.trans hd3
    obtain ⟨y, rfl⟩ := Int.eq_ofNat_of_zero_le hy0
    go_wp2_with fail
    obtain ⟨n, hn, hn5⟩ : ∃ n : Nat, ((4 : Int) + (y : Int)) = (n : Int) ∧ n ≤ 5 := ⟨4 + y, by omega, by omega⟩
    rw [hn]
    have hS3 : w.heap.size + 1 ≤ w3.heap.size := by have h1 := hd3.sz; omega
    clear hmt2 hD2 hr2 hd3 hn hS2
  case' neg =>
    have hx' : (x == 0) = false := by simpa using hx
    clear hx
    go_wp2_with fail
    obtain ⟨n, rfl⟩ := Int.eq_ofNat_of_zero_le hn0
    have hn5 : n ≤ 5 := by omega
    have hmt3 := hmt2; have hD3 := hD2; have hr3 := hr2; have hS3 := hS2
    clear hmt2 hD2 hr2 hx' hS2
  all_goals
    go_loopw [3, 5] (fun s i wr => ∃ (k : Nat) (ts : List Tag) (T : Nat), k ≤ n ∧ i = .int .i64 k ∧ ts.length = k ∧ Hid (∀ t ∈ ts, t.2.length ≤ 4) ∧ D g w wr ∧ RdAt wr g (m + 3 + 17 * k) ∧ TagO w.heap.size T wr s ts ∧ T ≤ wr.heap.size ∧ w.heap.size ≤ T) (fun _ i _ => n - (intOf i).toNat)
    case atStart => exact ⟨0, [], _, by omega, rfl, rfl, by simp [Hid], hD3, hr3.more (by omega), hmt3, hS3, by omega⟩
    case round =>
      obtain ⟨k, ts, T, hk, rfl, htl, hall, hD, hr, ho, hT, hBT⟩ := hrel
      have HTL := Lib.hid htl; clear htl
      by_cases hlt' : k < n
      · go_wp2_with fail
        (with_reducible refine (pick_c hr (by omega) _ (by omega) (by omega)).mono ?_); rintro e w4 ⟨a, rfl, ha0, ha1, hr4, hd4⟩
        go_wp2_with fail
        (with_reducible refine (l91Bytes_c hr4 (by omega) 4 4 rfl (by omega)).mono ?_); rintro e w5 ⟨d, xs, rfl, hxl, hod, hr5, hd5⟩
        have ho5 := (ho.keptD hd4 (by omega)).keptD hd5 (by omega)
        have hD5 := (hD.trans hd4).trans hd5
        have hs4 := hd4.sz; have hs5 := hd5.sz
        have hl5 := hr5.lt
        obtain ⟨pd, cd, rfl⟩ := hod.len
        have hod' := (hod.mono (B' := T) (by omega)).kept (gr_alloc w5 (.cells #[.int .i64 a, .slice pd xs.length cd] 35))
        clear hD hr hr4 hd4 hd5 ho hod hS3 hmt3 hr3 hD3
        go_wp2_with (at_builtin; refine wpl_appT rfl (.tmp 20) (.tmp 26) rfl rfl (ho5.kept (gr_alloc _ _)) (by simp; omega) hBT rfl (Row.oneT _ _ _ rfl) hod' (by have := HTL.out; omega) ?_; intro v6 w6 ho6 hg6; have hD6 : D g w w6 := (hD5.alloc _).thenB hg6; have hr6 := (hr5.alloc _).keptB hg6 hlt)
        go_roundw
        case measure => simp [intOf]; omega
        case rel =>
          refine ⟨k+1, _, _, by omega, by go_num, by have := HTL.out; simp; omega, ?_, hD6, hr6.more (by omega), ho6, Nat.le_refl _, hD6.sz⟩
          intro t ht
          rcases List.mem_append.1 ht with h1 | h1
          · exact hall.out t h1
          · simp at h1; subst h1; exact hxl
      · obtain rfl : k = n := by omega
        clear hS3 hmt3 hr3 hD3
        by_cases hz : k = 0
        · subst hz
          go_wp2
          go_ret
          exact ⟨_, ts, T, rfl, by have := HTL.out; omega, fun t ht => by have := hall.out t ht; omega, ho, hT, hr.more (by omega), hD⟩
        · have hz' : (0 : Int) < (k : Int) := by omega
          go_wp2_with fail
          (with_reducible refine (pick_c hr (by omega) _ (by omega) (by omega)).mono ?_); rintro e w4 ⟨a, rfl, ha0, ha1, hr4, hd4⟩
          have ho4 := ho.keptD hd4 (by omega)
          have hD4 := hD.trans hd4
          have hs4 := hd4.sz
          clear ho hD hr hd4
          by_cases ha : a = 0
          · subst ha
            go_wp2_with fail
            (with_reducible refine (pick_c hr4 (by omega) _ (by omega) (by omega)).mono ?_); rintro e w5 ⟨b, rfl, hb0, hb1, hr5, hd5⟩
            have ho5 := ho4.keptD hd5 (by omega)
            have hD5 := hD4.trans hd5
            have hs5 := hd5.sz
            obtain ⟨pv, cv, rfl⟩ := ho5.form
            clear ho4 hD4 hr4 hd5
            obtain rfl | rfl : b = 0 ∨ b = 1 := by omega
            all_goals
              go_wp2_with (first | (refine wpl_makeI (n := 16) rfl _ _ rfl rfl rfl (by omega) ?_; intro pm w6 hod hg6; obtain ⟨q, d0, hix, hqb, hq1, hqf, hqs⟩ := (ho5.kept hg6).setData (by have := hg6.sz; omega) hBT (k := 0) (by have := HTL.out; omega); replace hix : ∀ w1, (Instr.indexAt 31 (.slice pv ts.length cv) (.int .i64 0)).run Try.prog w1 = .ok (.pointer (some q)) w1 := hix) | (refine wpl_makeI (n := 17) rfl _ _ rfl rfl rfl (by omega) ?_; intro pm w6 hod hg6; obtain ⟨q, d0, hix, hqb, hq1, hqf, hqs⟩ := (ho5.kept hg6).setData (by have := hg6.sz; omega) hBT (k := 0) (by have := HTL.out; omega); replace hix : ∀ w1, (Instr.indexAt 31 (.slice pv ts.length cv) (.int .i64 0)).run Try.prog w1 = .ok (.pointer (some q)) w1 := hix))
              go_ret
              have hD6 : D g w w6 := hD5.trans (D.ofGr hg6)
              have hr6 := (hr5.kept hg6)
              refine ⟨_, _, _, rfl, by rw [List.length_set]; have := HTL.out; omega, ?_, hqs _ _ (hod.mono (by omega)), by simp [World.setCell], (hr6.keptB (B := w.heap.size) (Below.setCell (p := ⟨q.block, q.off + 1, none⟩) (Below.refl _ _) hqb _) hlt).more (by omega), hD6.thenB (Below.setCell (p := ⟨q.block, q.off + 1, none⟩) (Below.refl _ _) hqb _)⟩
              intro t ht
              rcases List.mem_or_eq_of_mem_set ht with h1 | h1
              · have := hall.out t h1; omega
              · subst h1; simp
          · have ha' : (a == 0) = false := by simpa using ha
            clear ha
            go_wp2
            go_ret
            exact ⟨_, ts, T, rfl, by have := HTL.out; omega, fun t ht => by have := hall.out t ht; omega, ho4, by omega, hr4.more (by omega), hD4⟩

theorem DrawTagsBytes_c {w : World} {v : Value} {bs : List Int} (h : ByteS w v bs) :
    Calls Try.prog 18 #[v] w fun e w' => ∃ v ts T, e = .returned v ∧ ts.length ≤ 5 ∧ (∀ t ∈ ts, t.2.length ≤ 17) ∧ TagO w.heap.size T w' v ts ∧ T ≤ w'.heap.size ∧ Gr w w' := by
  go_enter Try.func18, Try.ntmps18
  go_wp2_with fail
  (with_reducible refine (l6Open_c h).mono ?_); rintro e w1 ⟨rfl, hr1, hg1⟩
  go_wp2_with fail
  (with_reducible refine (l92Tags_c hr1 (by omega)).mono ?_); rintro e w2 ⟨v2, ts, T, rfl, h1, h2, h3, h4, h5, h6⟩
  go_wp2
  go_ret
  exact ⟨v2, ts, T, rfl, h1, h2, h3.wide hg1.sz (Nat.le_refl _), h4, h6.gr hg1 (Nat.le_refl _)⟩

/-- The bytes of tags, if they are valid. -/
theorem implTagsBytes_c {w : World} {v : Value} {ts : List Tag} (h : TagS w v ts) :
    Calls Try.prog 19 #[v] w fun e w' => ∃ v', e = .returned (.tuple #[v', .bool (tagsOk ts)]) ∧ IntO w.heap.size 3 w' v' (if tagsOk ts then tagsBytes ts else []) ∧ Gr w w' := by
  cases ho : tagsOk ts
  · go_enter Try.func19, Try.ntmps19
    go_wp2_with fail
    (with_reducible refine (areTags_c h).mono ?_); rintro e w1 ⟨rfl, g1⟩
    go_wp2
    go_ret2
    exact ⟨_, rfl, IntO.nil _ _ _, g1⟩
  · have HO := Lib.hid ho
    go_enter Try.func19, Try.ntmps19
    go_wp2_with fail
    (with_reducible refine (areTags_c h).mono ?_); rintro e w1 ⟨rfl, g1⟩
    go_wp2_with fail
    (with_reducible refine (tagsBytes_c (h.kept g1) HO.out).mono ?_); rintro e w2 ⟨v2, rfl, o2, g2⟩
    go_wp2
    go_ret2
    exact ⟨_, rfl, by simpa using o2.mono g1.sz, g1.trans g2⟩
theorem specTagsBytes_c {w : World} {v : Value} {ts : List Tag} (h : TagS w v ts) :
    Calls Try.prog 20 #[v] w fun e w' => ∃ v', e = .returned (.tuple #[v', .bool (tagsOk ts)]) ∧ IntO w.heap.size 3 w' v' (if tagsOk ts then tagsBytes ts else []) ∧ Gr w w' := by
  cases ho : tagsOk ts
  · go_enter Try.func20, Try.ntmps20
    go_wp2_with fail
    (with_reducible refine (specl16Ok_c h).mono ?_); rintro e w1 ⟨rfl, rfl⟩
    go_wp2
    go_ret2
    exact ⟨_, rfl, IntO.mt w, gr_alloc w _⟩
  · have HO := Lib.hid ho
    go_enter Try.func20, Try.ntmps20
    go_wp2_with fail
    (with_reducible refine (specl16Ok_c h).mono ?_); rintro e w1 ⟨rfl, rfl⟩
    go_wp2_with fail
    (with_reducible refine (l16Bytes_c h HO.out).mono ?_); rintro e w2 ⟨v2, rfl, o2, g2⟩
    go_wp2
    go_ret2
    exact ⟨_, rfl, by simpa using o2, g2⟩
end Go.Proofs.Ytjfijmfmomeikaa
