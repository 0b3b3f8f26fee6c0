/- The reference's tags out of bytes. -/
import Derived.Test.YtknhfogblfogaaaTagsF
namespace Go.Proofs.Ytknhfogblfogaaa
open Go.RowKit
theorem TagO.mtR {w : World} (T : Nat) (hT : w.heap.size + 1 ≤ T) : TagO w.heap.size T (w.alloc (.cells #[] 60)) (.slice (some ⟨w.heap.size, 0, none⟩) 0 0) [] := (TagO.mt w).wide (Nat.le_refl _) hT
theorem step_copyI {w : World} {ops : Array Oper} {o : Oper} {a : Act} {K : Act → World → Prop} {Q : Exit → Act → World → Prop} {E : Prop} (hgd : o.guard = none) (s x : Operand)
    (ho : o.op = .call { callee := .builtin .append, args := #[s, x], argTypes := #[22, 22] })
    (hs : a.eval s = .slice (some ⟨w.heap.size, 0, none⟩) 0 0) {xv : Value} {ys : List Int} (hx : a.eval x = xv) (hrow : IntS w xv ys) (hb : ys.length ≤ 1000000000)
    (h : ∀ p c w', IntO w.heap.size 3 w' (.slice p ys.length c) ys → Gr w w' → K (a.put o.dst (.slice p ys.length c)) w') : if Region.wanted o (yielded ops a.tmps) = true then Oper.wp Try.prog o a (w.alloc (.cells #[] 3)).drew K Q else E := by
  refine step_appI hgd s x ho hs ((IntO.mt w).kept ((Gr.refl _).drew)) hx (hrow.kept ((gr_alloc w _).drew)) (by simp; omega) (by simp) fun v' w' h1 h2 => ?_
  have h1' : IntO w.heap.size 3 w' v' ys := h1
  obtain ⟨p, c, rfl⟩ := h1'.len
  exact h p c w' h1' (Below.trans ((gr_alloc w _).drew) h2)
theorem step_addT {w : World} {ops : Array Oper} {o : Oper} {a : Act} {K : Act → World → Prop} {Q : Exit → Act → World → Prop} {E : Prop} (hgd : o.guard = none) (s x : Operand)
    (ho : o.op = .call { callee := .builtin .append, args := #[s, x], argTypes := #[27, 27] })
    {B T : Nat} {v : Value} {ts : List Tag} (hs : a.eval s = v) (hown : TagO B T w v ts) (hT : T ≤ w.heap.size) (hBT : B ≤ T) {d : Value} {n : Int} {xs : List Int} (hx : a.eval x = .slice (some ⟨w.heap.size, 0, none⟩) 1 1)
    (hd : IntO T 3 w d xs) (hn : ts.length ≤ 1000000)
    (h : ∀ v' w', TagO B w'.heap.size w' v' (ts ++ [(n, xs)]) → Below B w w' → K (a.put o.dst v') w') : if Region.wanted o (yielded ops a.tmps) = true then Oper.wp Try.prog o a (w.alloc (.cells #[.int .i64 n, d] 60)) K Q else E :=
  step_appT hgd s x ho hs (hown.kept (gr_alloc w _)) (by simp; omega) hBT hx (Row.oneT w n d rfl) (hd.kept (gr_alloc w _)) hn fun v' w' h1 h2 => h v' w' h1 (Below.trans ((gr_alloc w _).mono (Nat.le_trans hBT hT)) h2)
/-- What the tags out of bytes are. -/
def FromR (xs : List Int) (B : Nat) (w : World) (e : Ending) (w' : World) : Prop :=
  ∃ v' T, e = .returned (.tuple #[v', .bool (tagsFrom xs).isSome]) ∧ TagO B T w' v' ((tagsFrom xs).getD []) ∧ T ≤ w'.heap.size ∧ Gr w w'
set_option maxHeartbeats 2000000 in
theorem specTagsFrom_c {w : World} {v : Value} {xs : List Int} (h : IntS w v xs) (hlen : xs.length ≤ 1048576) :
    Calls Try.prog 33 #[v] w (FromR xs w.heap.size w) := by
  obtain ⟨p, cap, rfl, hl1, hl2⟩ := h.form
  cases hbv : bv xs
  · have hn : tagsFrom xs = none := tagsFrom_bad hbv
    have HN := Lib.hid hn
    have HB := Lib.hid hbv
    clear hn hbv
    go_enter Try.func33, Try.ntmps33
    go_wp2_with fail
    (with_reducible refine (specBytesValid_c (h.kept (gr_alloc w _))).mono ?_); rintro e w1 ⟨rfl, rfl⟩
    simp only [HB.out]
    go_wp2
    go_ret2
    exact ⟨_, _, by rw [HN.out]; rfl, by rw [HN.out]; exact (TagO.mt w), by simp, gr_alloc w _⟩
  · have hby := bv_bytes hbv
    have HB := Lib.hid hbv
    clear hbv
    have hmt := TagO.mt w
    go_enter Try.func33, Try.ntmps33
    go_wp2_with fail
    (with_reducible refine (specBytesValid_c (h.kept (gr_alloc w _))).mono ?_); rintro e w1 ⟨rfl, rfl⟩
    simp only [HB.out]
    go_wp2_with fail
    go_loopw [4, 5] (fun s i wr => ∃ (k : Nat) (ts : List Tag) (T : Nat), i = .int .i64 k ∧ k ≤ xs.length ∧ 3 * ts.length ≤ k ∧ Hid (CutTo xs k ts) ∧ Gr w wr ∧ TagO w.heap.size T wr s ts ∧ T ≤ wr.heap.size ∧ w.heap.size ≤ T) (fun _ i _ => xs.length - (intOf i).toNat)
    case atStart => exact ⟨0, [], _, rfl, by omega, by simp, CutTo.start xs, gr_alloc w _, hmt, by simp, by omega⟩
    case round =>
      clear hmt
      obtain ⟨k, ts, T, rfl, hk, hts, hcut, hgr, ho, hT, hBT⟩ := hrel
      by_cases hlt : k < xs.length
      · by_cases h3 : xs.length - k < 3
        · have h3' : ((xs.length : Int) - (k : Int) < 3) := by omega
          have HN := Lib.hid (hcut.out.fail hlt (.inl h3))
          have hmtr := TagO.mt wr
          go_wp2
          go_ret2
          exact ⟨_, _, by rw [HN.out]; rfl, by rw [HN.out]; exact hmtr.wide (by omega) (Nat.le_refl _), by simp, hgr.alloc _⟩
        · have h3' : ¬ ((xs.length : Int) - (k : Int) < 3) := by omega
          obtain ⟨v1, hsl, hr1⟩ := IntS.cutI h (lo := k + 1) (n := 2) (by omega) (a := (k : Int) + 1) (b := (k : Int) + 3) (by omega) (by omega)
          have hL := lenAt_eq hby k
          have hr1' := hr1.kept hgr
          have hb1 := bytes_take (bytes_drop hby (k+1)) 2
          have hl4 : ((xs.drop (k+1)).take 2).length ≤ 4 := by rw [List.length_take]; omega
          generalize hLL : lenAt xs k = L at *
          by_cases h4 : xs.length - k - 3 < L
          · have h4' : ((xs.length : Int) - (k : Int) - 3 < (L : Int)) := by omega
            have HN := Lib.hid (hcut.out.fail hlt (.inr (by rw [hLL]; exact h4)))
            have hmtr := TagO.mt wr
            clear hLL
            go_wp2_with fail
            (with_reducible refine (l1Of_c hr1' hb1 hl4).mono ?_); rintro e w2 ⟨rfl, rfl⟩
            simp only [hL]
            go_wp2
            go_ret2
            exact ⟨_, _, by rw [HN.out]; rfl, by rw [HN.out]; exact hmtr.wide (by omega) (Nat.le_refl _), by simp, hgr.alloc _⟩
          · have h4' : ¬ ((xs.length : Int) - (k : Int) - 3 < (L : Int)) := by omega
            have hnext : CutTo xs (k + 3 + L) (ts ++ [tagAt xs k]) := by have := hcut.out.next hlt (by unfold badAt; rw [hLL]; omega); rwa [hLL] at this
            have htag : tagAt xs k = (nth xs k, (xs.drop (k+3)).take L) := by unfold tagAt; rw [hLL]
            rw [htag] at hnext
            have HX := Lib.hid hnext
            clear hnext htag hLL hcut
            go_wp2_with fail
            (with_reducible refine (l1Of_c hr1' hb1 hl4).mono ?_); rintro e w2 ⟨rfl, rfl⟩
            simp only [hL]
            go_wp2_with fail
            (with_reducible refine (l1Of_c hr1' hb1 hl4).mono ?_); rintro e w2 ⟨rfl, rfl⟩
            simp only [hL]
            obtain ⟨a, hix, hca0⟩ := h.ix hlt
            have hca := hgr.cell hca0
            obtain ⟨v2, hsl2, hr2⟩ := IntS.cutI h (lo := k + 3) (n := L) (by omega) (a := (k : Int) + 3) (b := (k : Int) + 3 + (L : Int)) (by omega) (by omega)
            have hq1 : (0 : Int) ≤ (k : Int) := by omega
            have hq2 : (k : Int) + 3 + (L : Int) ≤ (xs.length : Int) := by omega
            have hq3 : IntKind.i64.wrap ((k : Int) + 3) = (k : Int) + 3 := by rw [IntKind.wrap_i64]; omega
            go_wp2_with fail
            have hys : ((xs.drop (k+3)).take L).length ≤ 1048576 := by rw [List.length_take, List.length_drop]; omega
            generalize (xs.drop (k+3)).take L = ys at *
            have hts' : ts.length ≤ 1000000 := by omega
            have hr2' := hr2.kept hgr
            have hys' : ys.length ≤ 1000000000 := by omega
            go_region_held3 (fun w' => w'.cell? a = some (.int .i64 (nth xs k))) (first | (exact ((hgr.trans hg5).thenB hb6).cell hca0) | (exact ((hgr.trans hg5).alloc _).cell hca0) | (exact (hgr.trans hg5).cell hca0) | (exact (hgr.alloc _).cell hca0) | go_keep) (first | (refine step_copyI (by rfl) (.tmp 52) (.tmp 57) (by rfl) (by rfl) (by rfl) hr2' hys' ?_; intro p5 c5 w5 ho5 hg5) | (refine step_addT (by rfl) (.tmp 47) (.tmp 60) (by rfl) (by rfl) (ho.kept hg5) (Nat.le_trans hT hg5.size) hBT (by rfl) (ho5.mono hT) hts' ?_; intro v6 w6 ho6 hb6))
            have hG6 : Gr w w6 := Below.trans (hgr.trans hg5) hb6
            go_wp2
            go_roundw
            case measure => simp [intOf]; omega
            case rel => exact ⟨k + 3 + L, _, _, by simp, by omega, by simp; omega, HX.out, hG6, ho6, Nat.le_refl _, hG6.size⟩
      · have hdn := hcut.out.done hlt HB.out
        obtain ⟨pv, cv, rfl⟩ := ho.form
        cases hok : tagsOk ts
        · have hdn' : tagsFrom xs = none := by rw [hdn, hok]; rfl
          have HN := Lib.hid hdn'
          have HOK := Lib.hid hok
          clear hdn hdn' hok
          have hmtr := TagO.mt wr
          go_wp2_with fail
          (with_reducible refine (specl16Ok_c ho.s).mono ?_); rintro e w2 ⟨rfl, rfl⟩
          simp only [HOK.out]
          go_wp2
          go_ret2
          exact ⟨_, _, by rw [HN.out]; rfl, by rw [HN.out]; exact hmtr.wide (by omega) (Nat.le_refl _), by simp, hgr.alloc _⟩
        · have hdn' : tagsFrom xs = some ts := by rw [hdn, hok]; rfl
          have HN := Lib.hid hdn'
          have HOK := Lib.hid hok
          clear hdn hdn' hok
          go_wp2_with fail
          (with_reducible refine (specl16Ok_c ho.s).mono ?_); rintro e w2 ⟨rfl, rfl⟩
          simp only [HOK.out]
          go_wp2
          go_ret2
          exact ⟨_, _, by rw [HN.out]; rfl, by rw [HN.out]; exact ho, hT, hgr⟩
end Go.Proofs.Ytknhfogblfogaaa
