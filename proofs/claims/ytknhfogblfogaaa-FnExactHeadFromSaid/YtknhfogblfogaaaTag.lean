/- Slices of tags, and the contracts that read them. -/
import Derived.Test.YtknhfogblfogaaaSniff
import Derived.Deep.RegionHeld3
namespace Go.Proofs.Ytknhfogblfogaaa
open Go.RowKit
/-- Elements of sz cells each. -/
theorem flat_len {sz : Nat} {css : List (List Value)} (h : ∀ c ∈ css, c.length = sz) : css.flatten.length = css.length * sz := by
  induction css with
  | nil => simp
  | cons c css ih =>
    have h1 := h c (by simp)
    have h2 := ih fun d hd => h d (by simp [hd])
    rw [List.flatten_cons, List.length_append, h1, h2, List.length_cons, Nat.add_mul]; omega
theorem flat_get {sz : Nat} {css : List (List Value)} (h : ∀ c ∈ css, c.length = sz) {k : Nat} {c : List Value} (hk : css[k]? = some c) (j : Nat) (hj : j < sz) : css.flatten[k * sz + j]? = c[j]? := by
  induction css generalizing k with
  | nil => simp at hk
  | cons d css ih =>
    have h1 := h d (by simp)
    cases k with
    | zero =>
      simp at hk; subst hk
      rw [List.flatten_cons, List.getElem?_append_left (by omega)]; simp
    | succ k =>
      rw [List.flatten_cons, List.getElem?_append_right (by rw [h1, Nat.add_mul]; omega), h1, show (k + 1) * sz + j - sz = k * sz + j by rw [Nat.add_mul]; omega]
      exact ih (fun e he => h e (by simp [he])) (by simpa using hk)

abbrev Tag := Int × List Int
def nthT (ts : List Tag) (k : Nat) : Tag := ts.getD k (0, [])
theorem nthT_eq {ts : List Tag} {k : Nat} (h : k < ts.length) : nthT ts k = ts[k] := by simp [nthT, h]
/-- A slice of tags. -/
def TagS (w : World) (v : Value) (ts : List Tag) : Prop :=
  ∃ ds : List Value, ds.length = ts.length ∧ Row w 2 v ts.length ((List.range ts.length).map fun k => [Value.int .i64 (nthT ts k).1, nthV ds k]).flatten ∧
    ∀ k, k < ts.length → IntS w (nthV ds k) (nthT ts k).2
theorem TagS.kept {w w' : World} {v : Value} {ts : List Tag} (h : TagS w v ts) (hg : Gr w w') : TagS w' v ts := by
  obtain ⟨ds, h0, h1, h2⟩ := h
  exact ⟨ds, h0, h1.kept hg, fun k hk => (h2 k hk).kept hg⟩
theorem TagS.form {w : World} {v : Value} {ts : List Tag} (h : TagS w v ts) : ∃ p cap, v = .slice p ts.length cap ∧ ts.length ≤ cap ∧ cap ≤ 9223372036854775807 := by
  obtain ⟨ds, _, ⟨_, p, cap, h1, h2, h3, _⟩, _⟩ := h
  exact ⟨p, cap, h1, h2, h3⟩
theorem uT : Try.prog.underlying 27 = some (.slice 60) := by kernel_rfl
theorem infoT : ∃ i, Try.prog.info? 60 = some i ∧ i.zero = some (.agg #[.int .i64 0, .slice none 0 0]) ∧ i.size = 2 ∧ i.bytes = 32 := info_parts (by kernel_rfl)
theorem uTag : Try.prog.underlying 60 = Try.prog.underlying 60 := rfl
/-- The place of a tag: its two cells. -/
theorem TagS.ix {w : World} {p : Option Addr} {cap : Nat} {ts : List Tag} (h : TagS w (.slice p ts.length cap) ts) {k : Nat} (hk : k < ts.length) :
    ∃ (a : Addr) (q : Option Addr) (cq : Nat), (∀ w1, (Instr.indexAt 27 (.slice p ts.length cap) (.int .i64 (k : Int))).run Try.prog w1 = .ok (.pointer (some a)) w1) ∧
      w.cell? a = some (.int .i64 (nthT ts k).1) ∧ w.cell? ⟨a.block, a.off + 1, none⟩ = some (.slice q (nthT ts k).2.length cq) ∧ IntS w (.slice q (nthT ts k).2.length cq) (nthT ts k).2 := by
  obtain ⟨ds, h0, h1, h2⟩ := h
  obtain ⟨i, g1, _, g3, _⟩ := infoT
  obtain ⟨a, f1, f2⟩ := Row.at h1 uT g1 g3 hk
  have hr := h2 k hk
  obtain ⟨q, cq, hv, _⟩ := hr.form
  have hc : ((List.range ts.length).map fun k => [Value.int .i64 (nthT ts k).1, nthV ds k])[k]? = some [Value.int .i64 (nthT ts k).1, nthV ds k] := by simp [hk]
  have hl : ∀ c ∈ ((List.range ts.length).map fun k => [Value.int .i64 (nthT ts k).1, nthV ds k]), c.length = 2 := by simp
  refine ⟨a, q, cq, f1, ?_, ?_, hv ▸ hr⟩
  · have := f2 0 _ (by rw [flat_get hl hc 0 (by decide)]; rfl)
    rwa [addr_add_zero] at this
  · exact f2 1 _ (by rw [flat_get hl hc 1 (by decide)]; rw [hv]; rfl)
/-- A tag is valid. -/
def tagOk (t : Tag) : Bool := inB 0 255 t.1 && (decide (t.2.length ≤ 16) && bv t.2)
def tagsOk (ts : List Tag) : Bool := decide (ts.length ≤ 4) && ts.all tagOk
theorem allT_step (p : Tag → Bool) {ts : List Tag} {k : Nat} (h : k < ts.length) : (ts.take (k+1)).all p = ((ts.take k).all p && p (nthT ts k)) := by
  rw [List.take_succ_eq_append_getElem h, nthT_eq h, List.all_append]; simp
theorem allT_false (p : Tag → Bool) {ts : List Tag} {k : Nat} (h : k < ts.length) (hp : p (nthT ts k) = false) : ts.all p = false := by
  rw [List.all_eq_false]; exact ⟨ts[k], List.getElem_mem h, by rw [nthT_eq h] at hp; simp [hp]⟩
theorem specl16Ok_c {w : World} {v : Value} {ts : List Tag} (h : TagS w v ts) :
    Calls Try.prog 60 #[v] w fun e w' => e = .returned (.bool (tagsOk ts)) ∧ w = w' := by
  obtain ⟨p, cap, rfl, hl1, hl2⟩ := h.form
  go_enter Try.func60, Try.ntmps60
  go_wp2_with fail
  go_loop [3] (fun i => ∃ k : Nat, k ≤ ts.length ∧ i = .int .i64 k ∧ Hid ((ts.take k).all tagOk = true)) (fun i => ts.length - (intOf i).toNat)
  case atStart => exact ⟨0, Nat.zero_le _, rfl, by simp [Hid]⟩
  case round =>
    obtain ⟨k, hk, rfl, hall⟩ := hrel
    by_cases hlt : k < ts.length
    · obtain ⟨a, q, cq, hix, hca, hcb, hrow⟩ := h.ix hlt
      generalize ht : nthT ts k = t at *
      have HT := Lib.hid ht; clear ht
      cases h1 : inB 0 255 t.1
      · have hf : tagOk t = false := by simp [tagOk, h1]
        have HF := Lib.hid hf; clear hf
        go_wp2_with fail
        (with_reducible refine (l6In_c _ _ _ _).mono ?_); rintro e w0 ⟨rfl, rfl⟩
        go_wp2
        go_ret
        exact ⟨ret_bool (by rw [tagsOk, allT_false tagOk hlt (by rw [HT.out]; exact HF.out)]; simp), rfl⟩
      · cases h2 : bv t.2
        · have hf : tagOk t = false := by simp [tagOk, h2]
          have HF := Lib.hid hf; clear hf
          go_wp2_with fail
          (with_reducible refine (l6In_c _ _ _ _).mono ?_); rintro e w0 ⟨rfl, rfl⟩
          go_wp2_with fail
          (with_reducible refine (specBytesValid_c hrow).mono ?_); rintro e w0 ⟨rfl, rfl⟩
          go_wp2
          go_ret
          exact ⟨ret_bool (by rw [tagsOk, allT_false tagOk hlt (by rw [HT.out]; exact HF.out)]; simp), rfl⟩
        · by_cases h3 : t.2.length ≤ 16
          · have hf : tagOk t = true := by simp [tagOk, h1, h2, h3]
            have HF := Lib.hid hf; clear hf
            have h3' : (decide (16 < (t.2.length : Int))) = false := by simp; omega
            go_wp2_with fail
            (with_reducible refine (l6In_c _ _ _ _).mono ?_); rintro e w0 ⟨rfl, rfl⟩
            go_wp2_with fail
            (with_reducible refine (specBytesValid_c hrow).mono ?_); rintro e w0 ⟨rfl, rfl⟩
            go_wp2
            go_round
            case rel => exact ⟨k+1, by omega, by go_num, by rw [Hid, allT_step tagOk hlt, hall.out, HT.out, HF.out]; rfl⟩
            case measure => simp [intOf]; omega
          · have hf : tagOk t = false := by simp [tagOk, h3]
            have HF := Lib.hid hf; clear hf
            have h3' : (decide (16 < (t.2.length : Int))) = true := by simp; omega
            go_wp2_with fail
            (with_reducible refine (l6In_c _ _ _ _).mono ?_); rintro e w0 ⟨rfl, rfl⟩
            go_wp2_with fail
            (with_reducible refine (specBytesValid_c hrow).mono ?_); rintro e w0 ⟨rfl, rfl⟩
            go_wp2
            go_ret
            exact ⟨ret_bool (by rw [tagsOk, allT_false tagOk hlt (by rw [HT.out]; exact HF.out)]; simp), rfl⟩
    · go_wp2
      go_ret
      exact ⟨ret_bool (by have := hall.out; rw [List.take_of_length_le (by omega)] at this; rw [tagsOk, this, Bool.eq_iff_iff]; simp; omega), rfl⟩

/-- A function value without captures that tells something of a tag. -/
def TellsT (g : Nat) (p : Tag → Bool) : Prop := (∀ args w, (callFunc g args).run Try.prog w = .ok (.enter g args) w) ∧
  ∀ (n : Int) (q : Option Addr) (cq : Nat) (xs : List Int) (w : World), IntS w (.slice q xs.length cq) xs → Calls Try.prog g #[.agg #[.int .i64 n, .slice q xs.length cq]] w fun e w' => e = .returned (.bool (p (n, xs))) ∧ Gr w w'
theorem gr_box {w : World} (o : Obj) {w' : World} (h : Gr (w.alloc o) w') : Gr w w' := (gr_alloc w o).trans h
theorem areTags1_c : TellsT 79 (fun t => !tagOk t) := by
  refine ⟨fun args w => by kernel_rfl, fun n q cq xs w h => ?_⟩
  have hrow := h.kept (gr_alloc w (.cells #[.int .i64 n, .slice q xs.length cq] 60))
  cases h1 : inB 0 255 n
  · have hf : tagOk (n, xs) = false := by simp [tagOk, h1]
    have HF := Lib.hid hf; clear hf
    go_enter Try.func79, Try.ntmps79
    go_wp2_with fail
    (with_reducible refine (within_c _ _ _ _).mono ?_); rintro e w0 ⟨rfl, rfl⟩
    go_wp2
    go_ret
    exact ⟨ret_bool (by rw [HF.out]; rfl), gr_alloc w _⟩
  · by_cases h3 : xs.length ≤ 16
    · have h3' : (decide (16 < (xs.length : Int))) = false := by simp; omega
      have hf : tagOk (n, xs) = bv xs := by simp [tagOk, h1, h3]
      have HF := Lib.hid hf; clear hf
      go_enter Try.func79, Try.ntmps79
      go_wp2_with fail
      (with_reducible refine (within_c _ _ _ _).mono ?_); rintro e w0 ⟨rfl, rfl⟩
      go_wp2_with fail
      (with_reducible refine (implBytesValid_c hrow).mono ?_); rintro e w0 ⟨rfl, rfl⟩
      go_wp2
      go_ret
      exact ⟨ret_bool (by rw [HF.out]), gr_alloc w _⟩
    · have h3' : (decide (16 < (xs.length : Int))) = true := by simp; omega
      have hf : tagOk (n, xs) = false := by simp [tagOk, h3]
      have HF := Lib.hid hf; clear hf
      go_enter Try.func79, Try.ntmps79
      go_wp2_with fail
      (with_reducible refine (within_c _ _ _ _).mono ?_); rintro e w0 ⟨rfl, rfl⟩
      go_wp2
      go_ret
      exact ⟨ret_bool (by rw [HF.out]; rfl), gr_alloc w _⟩

theorem takeT_any (p : Tag → Bool) {ts : List Tag} {k : Nat} (h : k < ts.length) : (ts.take (k+1)).any p = ((ts.take k).any p || p (nthT ts k)) := by
  rw [List.take_succ_eq_append_getElem h, nthT_eq h, List.any_append]; simp
theorem anyT_true (p : Tag → Bool) {ts : List Tag} {k : Nat} (h : k < ts.length) (hp : p (nthT ts k) = true) : ts.any p = true := by
  rw [List.any_eq_true]; exact ⟨ts[k], List.getElem_mem h, by rw [nthT_eq h] at hp; exact hp⟩
theorem IndexFuncT_c {w : World} {v : Value} {ts : List Tag} (h : TagS w v ts) (g : Nat) (p : Tag → Bool) (hg : TellsT g p) :
    Calls Try.prog 94 #[v, .func (.func g) #[] #[]] w fun e w' => (∃ r : Int, decide (0 ≤ r) = ts.any p ∧ e = .returned (.int .i64 r)) ∧ Gr w w' := by
  obtain ⟨q, cap, rfl, hl1, hl2⟩ := h.form
  obtain ⟨hcf, hg⟩ := hg
  have HG := Lib.hid hg; clear hg
  go_enter Try.func94, Try.ntmps94
  go_wp2_with fail
  go_loopw [8] (fun i wr => ∃ k : Nat, k ≤ ts.length ∧ i = .int .i64 k ∧ Hid ((ts.take k).any p = false) ∧ Gr w wr) (fun i _ => ts.length - (intOf i).toNat)
  case atStart => exact ⟨0, Nat.zero_le _, rfl, by simp [Hid], Gr.refl _⟩
  case round =>
    obtain ⟨k, hk, rfl, hall, hgr⟩ := hrel
    by_cases hlt : k < ts.length
    · obtain ⟨a, q, cq, hix, hca, hcb, hrow⟩ := (h.kept hgr).ix hlt
      cases hb : p (nthT ts k)
      · have HB := Lib.hid hb; clear hb
        go_wp2_with fail
        refine (HG.out _ _ _ _ _ hrow).mono ?_
        rintro e w1 ⟨rfl, g1⟩
        have hb' : p ((nthT ts k).1, (nthT ts k).2) = false := HB.out
        go_wp2
        go_roundw
        case rel => exact ⟨k+1, by omega, by go_num, by rw [Hid, takeT_any p hlt, hall.out, HB.out]; rfl, hgr.trans g1⟩
        case measure => simp [intOf]; omega
      · have HB := Lib.hid hb; clear hb
        go_wp2_with fail
        refine (HG.out _ _ _ _ _ hrow).mono ?_
        rintro e w1 ⟨rfl, g1⟩
        have hb' : p ((nthT ts k).1, (nthT ts k).2) = true := HB.out
        go_wp2
        go_ret
        exact ⟨⟨k, by rw [anyT_true p hlt HB.out]; simp, rfl⟩, hgr.trans g1⟩
    · go_wp2
      go_ret
      exact ⟨⟨-1, by have := hall.out; rw [List.take_of_length_le (by omega)] at this; rw [this]; rfl, rfl⟩, hgr⟩

theorem ContainsFuncT_c {w : World} {v : Value} {ts : List Tag} (h : TagS w v ts) (g : Nat) (p : Tag → Bool) (hg : TellsT g p) :
    Calls Try.prog 78 #[v, .func (.func g) #[] #[]] w fun e w' => e = .returned (.bool (ts.any p)) ∧ Gr w w' := by
  go_enter Try.func78, Try.ntmps78
  go_wp2_with fail
  refine (IndexFuncT_c h g p hg).mono ?_
  rintro e w' ⟨⟨r, hr, rfl⟩, g1⟩
  have HR := Lib.hid hr; clear hr
  go_wp2
  go_ret
  exact ⟨ret_bool HR.out, g1⟩
theorem anyT_not_all (ts : List Tag) : ts.any (fun t => !tagOk t) = !ts.all tagOk := by
  rw [Bool.eq_iff_iff]; simp
theorem areTags_c {w : World} {v : Value} {ts : List Tag} (h : TagS w v ts) :
    Calls Try.prog 65 #[v] w fun e w' => e = .returned (.bool (tagsOk ts)) ∧ Gr w w' := by
  obtain ⟨p, cap, hv, hl1, hl2⟩ := h.form
  by_cases hn : ts.length ≤ 4
  · subst hv
    go_enter Try.func65, Try.ntmps65
    go_wp2_with fail
    (with_reducible refine (ContainsFuncT_c h _ _ areTags1_c).mono ?_); rintro e w1 ⟨rfl, g1⟩
    go_wp2
    go_ret
    exact ⟨ret_bool (by rw [tagsOk, anyT_not_all]; simp; intro _; omega), g1⟩
  · have hd : decide ((ts.length : Int) ≤ 4) = false := by simp; omega
    subst hv
    go_enter Try.func65, Try.ntmps65
    go_wp2
    go_ret
    exact ⟨ret_bool (by rw [tagsOk, Bool.eq_iff_iff]; simp; omega), Gr.refl _⟩

end Go.Proofs.Ytknhfogblfogaaa
