/- Draws of frames. -/
import Derived.Test.YtknhfogblfogaaaDrawG
import Derived.Test.YtknhfogblfogaaaHeadB
import Derived.Test.YtknhfogblfogaaaChg
namespace Go.Proofs.Ytknhfogblfogaaa
open Go.RowKit
set_option maxHeartbeats 1000000 in
theorem specHeadBytes_f {w : World} {q q' v : Value} {xs ys : List Int} {ts : List Tag} (k port k' port' : Int) (s s' : ByteArray) (hq : IntS w q xs) (hq' : IntS w q' ys) (hs : s.size ≤ 1000000) (hs' : s'.size ≤ 1000000) (ht : TagS w v ts) (hok : Hid (headOk ⟨⟨k, xs, tx s, port⟩, ⟨k', ys, tx s', port'⟩⟩ ts = false)) :
    Calls Try.prog 75 #[.agg #[.int .i64 k, q, .string s, .int .i64 port, .int .i64 k', q', .string s', .int .i64 port'], v] w fun e w' => ∃ v', e = .returned (.tuple #[v', .bool false]) ∧ IntO w.heap.size 3 w' v' [] ∧ Gr w w' := by
  obtain ⟨p, cap, rfl, _, _⟩ := hq.form
  obtain ⟨p', cap', rfl, _, _⟩ := hq'.form
  obtain ⟨pv, cv, rfl, _, _⟩ := ht.form
  have hg := gr_alloc w (.cells #[.int .i64 k, .slice p xs.length cap, .string s, .int .i64 port, .int .i64 k', .slice p' ys.length cap', .string s', .int .i64 port'] 26)
  have hx := hok.out
  unfold headOk at hx
  cases hp : parOk ⟨⟨k, xs, tx s, port⟩, ⟨k', ys, tx s', port'⟩⟩
  · have PO := Lib.hid hp
    clear hp hx hok
    go_enter Try.func75, Try.ntmps75
    go_wp2_with fail
    (with_reducible refine (PairValid_c k port k' port' s s' (hq.kept hg) (hq'.kept hg) hs hs').mono ?_); rintro e w1 ⟨rfl, g1⟩
    rw [PO.out]
    have hG1 := hg.trans g1
    go_wp2
    go_ret2
    exact ⟨_, rfl, IntO.mono (IntO.mt w1) hG1.sz, hG1.alloc _⟩
  · have PO := Lib.hid hp
    have TO : Hid (tagsOk ts = false) := Lib.hid (by rw [hp] at hx; simpa using hx)
    clear hp hx hok
    go_enter Try.func75, Try.ntmps75
    go_wp2_with fail
    (with_reducible refine (PairValid_c k port k' port' s s' (hq.kept hg) (hq'.kept hg) hs hs').mono ?_); rintro e w1 ⟨rfl, g1⟩
    rw [PO.out]
    have hG1 := hg.trans g1
    go_wp2_with fail
    (with_reducible refine (specl16Ok_f (ht.kept hG1) TO).mono ?_); rintro e w2 ⟨rfl, rfl⟩
    go_wp2
    go_ret2
    exact ⟨_, rfl, IntO.mono (IntO.mt w1) hG1.sz, hG1.alloc _⟩
theorem specHeadBytes_c {w : World} {q q' v : Value} {xs ys : List Int} {ts : List Tag} (k port k' port' : Int) (s s' : ByteArray) (hq : IntS w q xs) (hq' : IntS w q' ys) (hs : s.size ≤ 1000000) (hs' : s'.size ≤ 1000000) (ht : TagS w v ts) :
    Calls Try.prog 75 #[.agg #[.int .i64 k, q, .string s, .int .i64 port, .int .i64 k', q', .string s', .int .i64 port'], v] w fun e w' => ∃ v', e = .returned (.tuple #[v', .bool (headOk ⟨⟨k, xs, tx s, port⟩, ⟨k', ys, tx s', port'⟩⟩ ts)]) ∧ IntO w.heap.size 3 w' v' (if headOk ⟨⟨k, xs, tx s, port⟩, ⟨k', ys, tx s', port'⟩⟩ ts = true then headBytes ⟨⟨k, xs, tx s, port⟩, ⟨k', ys, tx s', port'⟩⟩ ts else []) ∧ Gr w w' := by
  cases hok : headOk ⟨⟨k, xs, tx s, port⟩, ⟨k', ys, tx s', port'⟩⟩ ts
  · exact specHeadBytes_f k port k' port' s s' hq hq' hs hs' ht hok
  · exact specHeadBytes_t k port k' port' s s' hq hq' hs hs' ht hok
/-- A drawn frame. -/
def DrewF (n g m : Nat) (w : World) (e : Ending) (w' : World) : Prop := ∃ (v : Value) (xs : List Int), e = .returned v ∧ xs.length ≤ 130 ∧ IntO w.heap.size 3 w' v xs ∧ RdAt w' g (m + n) ∧ D g w w'
theorem len_ite {c : Bool} {xs : List Int} {n : Nat} (h : c = true → xs.length ≤ n) : (if c = true then xs else []).length ≤ n := by
  cases c
  · simp
  · simpa using h rfl
set_option maxRecDepth 20000 in
set_option maxHeartbeats 4000000 in
theorem l92Frame_c {w : World} {g m : Nat} (h : RdAt w g m) (hm : m ≤ 10000) :
    Calls Try.prog 46 #[.pointer (some ⟨g, 0, none⟩)] w (DrewF 80 g m w) := by
  have hlt := h.lt
  go_enter Try.func46, Try.ntmps46
  go_wp2_with fail
  (with_reducible refine (pick_c h (by omega) _ (by omega) (by omega)).mono ?_); rintro e w1 ⟨c, rfl, hc0, hc1, hr1, hd1⟩
  have hs1 := hd1.sz
  obtain rfl | rfl | rfl | rfl | rfl : c = 0 ∨ c = 1 ∨ c = 2 ∨ c = 3 ∨ c = 4 := by omega
  · go_wp2_with fail
    (with_reducible refine (l91Old_c hr1 (by omega)).mono ?_); rintro e w2 ⟨q, c, k, p, s, u, xs, rfl, hxl, hsl, hul, ho2, hr2, hd2⟩
    obtain ⟨pq, cq, rfl⟩ := ho2.len
    have hbl := len_ite (fun hc => oldBytes_len (x := ⟨c, ⟨k, xs, tx s, p⟩, tx u⟩) hc)
    have HBL := Lib.hid hbl
    clear hbl
    go_wp2_with fail
    (with_reducible refine (OldBytes_c c k p s u ho2.s (by omega) (by omega)).mono ?_); rintro e w3 ⟨v3, rfl, o3, g3⟩
    go_wp2
    go_ret
    exact ⟨_, _, rfl, by have := HBL.out; omega, IntO.mono o3 (by have := hd2.sz; omega), (hr2.kept g3).more (by omega), (hd1.trans hd2).trans (D.ofGr g3)⟩
  · go_wp2_with fail
    (with_reducible refine (l91Methods_c hr1 (by omega)).mono ?_); rintro e w2 ⟨v2, xs, rfl, hxl, ho2, hr2, hd2⟩
    have hbl := len_ite (c := methOk xs) (xs := helloBytes xs) (n := 10) (fun hc => by simp [helloBytes]; omega)
    have HBL := Lib.hid hbl
    clear hbl
    go_wp2_with fail
    (with_reducible refine (HelloBytes_c ho2.s).mono ?_); rintro e w3 ⟨v3, rfl, o3, g3⟩
    go_wp2
    go_ret
    exact ⟨_, _, rfl, by have := HBL.out; omega, IntO.mono o3 (by have := hd2.sz; omega), (hr2.kept g3).more (by omega), (hd1.trans hd2).trans (D.ofGr g3)⟩
  · go_wp2_with fail
    (with_reducible refine (l91Address_c hr1 (by omega)).mono ?_); rintro e w2 ⟨q, k, p, s, xs, rfl, hxl, hsl, _, _, ho2, hr2, hd2⟩
    obtain ⟨pq, cq, rfl⟩ := ho2.len
    have hbl : (if adrOk ⟨k, xs, tx s, p⟩ = true then connText (addrText ⟨k, xs, tx s, p⟩) else []).length ≤ 127 := by
      split
      · rename_i hc
        have := addrText_len hc
        rw [connText_len]; omega
      · simp
    generalize hT : (if adrOk ⟨k, xs, tx s, p⟩ = true then connText (addrText ⟨k, xs, tx s, p⟩) else []) = T at *
    have CC := Lib.hid (ConnectText_c k p s ho2.s (by omega))
    rw [hT] at CC
    have HT := Lib.hid hT
    clear hT
    (go_wp2_with fail); (with_reducible refine CC.out.mono ?_); rintro e w3 ⟨rfl, g3⟩
    have hsz : (S T).size ≤ 200 := by rw [S_len]; omega
    go_wp2_with fail
    (with_reducible refine (l1Text_c _ (S T) (by omega)).mono ?_); rintro e w4 ⟨v4, rfl, o4, g4⟩
    have hd := hd2.sz
    have hz3 := g3.sz
    go_wp2
    go_ret
    exact ⟨_, _, rfl, by rw [sb_length, S_len]; omega, IntO.mono o4 (by omega), ((hr2.kept g3).kept g4).more (by omega), ((hd1.trans hd2).trans (D.ofGr g3)).trans (D.ofGr g4)⟩
  · go_wp2_with fail
    (with_reducible refine (l92Pair_c hr1 (by omega)).mono ?_); rintro e w2 ⟨q, q', k, p, k', p', s, s', xs, ys, rfl, hxl, hyl, hsl, hsl', ho2, ho2', hr2, hd2⟩
    obtain ⟨pq, cq, rfl⟩ := ho2.len
    obtain ⟨pq', cq', rfl⟩ := ho2'.len
    have hbl : (if parOk ⟨⟨k, xs, tx s, p⟩, ⟨k', ys, tx s', p'⟩⟩ = true then lineText ⟨⟨k, xs, tx s, p⟩, ⟨k', ys, tx s', p'⟩⟩ else []).length ≤ 120 := by
      split
      · rename_i hc
        exact (lineText_len hc).1
      · simp
    have CC := Lib.hid (LineText_c k p k' p' s s' ho2.s ho2'.s (by omega) (by omega))
    generalize hT : (if parOk ⟨⟨k, xs, tx s, p⟩, ⟨k', ys, tx s', p'⟩⟩ = true then lineText ⟨⟨k, xs, tx s, p⟩, ⟨k', ys, tx s', p'⟩⟩ else []) = T at *
    have HT := Lib.hid hT
    clear hT
    (go_wp2_with fail); (with_reducible refine CC.out.mono ?_); rintro e w3 ⟨rfl, g3⟩
    have hsz : (S T).size ≤ 200 := by rw [S_len]; omega
    go_wp2_with fail
    (with_reducible refine (l1Text_c _ (S T) (by omega)).mono ?_); rintro e w4 ⟨v4, rfl, o4, g4⟩
    have hd := hd2.sz
    have hz3 := g3.sz
    go_wp2
    go_ret
    exact ⟨_, _, rfl, by rw [sb_length, S_len]; omega, IntO.mono o4 (by omega), ((hr2.kept g3).kept g4).more (by omega), ((hd1.trans hd2).trans (D.ofGr g3)).trans (D.ofGr g4)⟩
  · go_wp2_with fail
    (with_reducible refine (l92Pair_c hr1 (by omega)).mono ?_); rintro e w2 ⟨q, q', k, p, k', p', s, s', xs, ys, rfl, hxl, hyl, hsl, hsl', ho2, ho2', hr2, hd2⟩
    obtain ⟨pq, cq, rfl⟩ := ho2.len
    obtain ⟨pq', cq', rfl⟩ := ho2'.len
    have gA := gr_alloc w2 (.cells #[.int .i64 k, .slice pq xs.length cq, .string s, .int .i64 p, .int .i64 k', .slice pq' ys.length cq', .string s', .int .i64 p'] 26)
    have hbl := len_ite (c := headOk ⟨⟨k, xs, tx s, p⟩, ⟨k', ys, tx s', p'⟩⟩ []) (xs := headBytes ⟨⟨k, xs, tx s, p⟩, ⟨k', ys, tx s', p'⟩⟩ []) (n := 28) (fun hc => by rw [headBytes_len hc]; simp [tagsBytes])
    have HBL := Lib.hid hbl
    clear hbl
    go_wp2_with fail
    generalize hW : w2.alloc (.cells #[.int .i64 k, .slice pq xs.length cq, .string s, .int .i64 p, .int .i64 k', .slice pq' ys.length cq', .string s', .int .i64 p'] 26) = w3 at *
    have e3 : w3.heap.size = w2.heap.size + 1 := by rw [← hW]; simp
    have ht3 := (TagO.mt w3).s
    rw [e3] at ht3
    clear hW e3
    have gB := gr_alloc w3 (.cells #[] 60)
    (with_reducible refine (specHeadBytes_c k p k' p' s s' (ho2.s.kept (gA.trans gB)) (ho2'.s.kept (gA.trans gB)) (by omega) (by omega) ht3).mono ?_); rintro e w4 ⟨v4, rfl, o4, g4⟩
    have hG := (gA.trans gB).trans g4
    have hd := hd2.sz
    have hz3 := (gA.trans gB).sz
    go_wp2
    go_ret
    exact ⟨_, _, rfl, by have := HBL.out; omega, IntO.mono o4 (by omega), (hr2.kept hG).more (by omega), (hd1.trans hd2).trans (D.ofGr hG)⟩
set_option maxHeartbeats 1000000 in
theorem DrawFeedPut_c {w : World} {v : Value} {bs : List Int} (h : ByteS w v bs) :
    Calls Try.prog 21 #[v] w fun e w' => ∃ (u x : Value) (xs ys : List Int), e = .returned (.tuple #[u, x]) ∧ xs.length ≤ 130 ∧ ys.length ≤ 110 ∧ IntO w.heap.size 3 w' u xs ∧ IntO w.heap.size 3 w' x ys ∧ Gr w w' := by
  obtain ⟨p, cap, rfl, _, _⟩ := h.form
  go_enter Try.func21, Try.ntmps21
  go_wp2_with fail
  (with_reducible refine (l6Open_c h).mono ?_); rintro e w1 ⟨rfl, hr1, g1⟩
  have hz1 := g1.sz
  have hlt := hr1.lt
  go_wp2_with fail
  (with_reducible refine (l92Frame_c hr1 (by omega)).mono ?_); rintro e w2 ⟨v2, xs, rfl, hxl, ho2, hr2, hd2⟩
  go_wp2_with fail
  (with_reducible refine (l91Bytes_c hr2 (by omega) 9 9 rfl (by omega)).mono ?_); rintro e w3 ⟨v3, ys, rfl, hyl, ho3, hr3, hd3⟩
  have ho3a := ho2.keptD hd3 hlt
  have hD3 := hd2.trans hd3
  have hz2 := hd2.sz
  go_wp2_with fail
  (with_reducible refine (pick_c hr3 (by omega) _ (by omega) (by omega)).mono ?_); rintro e w4 ⟨c, rfl, hc0, hc1, hr4, hd4⟩
  have hG4 : Gr w w4 := (hD3.trans hd4).gr g1 (Nat.le_refl _)
  have ho4a := ho3a.keptD hd4 hlt
  have ho4 := ho3.keptD hd4 (by omega)
  clear ho3a ho3 ho2 hd2 hd3 hd4 hD3
  by_cases c0 : c = 0
  · subst c0
    go_wp2_with (refine wpl_makeI (n := 110) rfl _ _ rfl rfl rfl (by omega) ?_; intro p5 w5 o5 hg5)
    have hz4 := hG4.sz
    go_ret2
    exact ⟨_, _, _, _, rfl, hxl, by simp, (IntO.kept ho4a hg5).mono hz1, IntO.mono o5 (by omega), hG4.trans hg5⟩
  · have c0' : (c == 0) = false := beq_eq_false_iff_ne.2 c0
    clear c0
    go_wp2
    go_ret2
    exact ⟨_, _, _, _, rfl, hxl, by omega, ho4a.mono hz1, ho4.mono (by omega), hG4⟩
theorem IntO.cap {B e : Nat} {w : World} {q : Option Addr} {n cq : Nat} {xs : List Int} (h : IntO B e w (.slice q n cq) xs) : (xs.length : Int) ≤ (cq : Int) := by
  obtain ⟨_, _, hf, hc, _⟩ := h.s.form
  injection hf with e1 e2 e3
  omega
theorem IntO.preS {B : Nat} {w : World} {q : Option Addr} {cq k : Nat} {xs : List Int} (h : IntO B 3 w (.slice q xs.length cq) xs) (hk : k ≤ xs.length) : IntO B 3 w (.slice q k cq) (xs.take k) := by
  have hl : (xs.take k).length = k := by rw [List.length_take]; omega
  unfold IntO Own World.ownsRow at h ⊢
  rw [hl]
  refine ⟨by rw [ints_length, hl]; omega, ?_⟩
  rcases h.2 with ⟨hv, hn⟩ | ⟨g, cap, cur, hv, hb, hg, hnc, hcm, hcs, htake⟩
  · injection hv with e1 e2 e3
    exact .inl ⟨by rw [e1, e3, show k = 0 by omega], by omega⟩
  · injection hv with e1 e2 e3
    subst e1 e3
    refine .inr ⟨g, cq, cur, rfl, hb, hg, by omega, hcm, hcs, ?_⟩
    rw [← ints_take, ← htake, List.take_take]
    congr 1
    omega
set_option maxHeartbeats 1000000 in
theorem DrawSniffKind_c {w : World} {v : Value} {bs : List Int} (h : ByteS w v bs) :
    Calls Try.prog 27 #[v] w fun e w' => ∃ (u : Value) (xs : List Int), e = .returned u ∧ xs.length ≤ 133 ∧ IntO w.heap.size 3 w' u xs ∧ Gr w w' := by
  obtain ⟨p, cap, rfl, _, _⟩ := h.form
  go_enter Try.func27, Try.ntmps27
  go_wp2_with fail
  (with_reducible refine (l6Open_c h).mono ?_); rintro e w1 ⟨rfl, hr1, g1⟩
  have hz1 := g1.sz
  have hlt := hr1.lt
  go_wp2_with fail
  (with_reducible refine (l92Frame_c hr1 (by omega)).mono ?_); rintro e w2 ⟨v2, xs, rfl, hxl, ho2, hr2, hd2⟩
  go_wp2_with fail
  (with_reducible refine (pick_c hr2 (by omega) _ (by omega) (by omega)).mono ?_); rintro e w3 ⟨c, rfl, hc0, hc1, hr3, hd3⟩
  have ho3 := ho2.keptD hd3 hlt
  have hD3 := hd2.trans hd3
  clear ho2 hd2 hd3
  by_cases c0 : c = 0
  · subst c0
    obtain ⟨q, cq, rfl⟩ := ho3.len
    go_wp2_with fail
    (with_reducible refine (pick_c hr3 (by omega) _ (by omega) (by omega)).mono ?_); rintro e w4 ⟨k, rfl, hk0, hk1, hr4, hd4⟩
    have ho4 := ho3.keptD hd4 hlt
    have hG4 : Gr w w4 := (hD3.trans hd4).gr g1 (Nat.le_refl _)
    obtain ⟨k, rfl⟩ := Int.eq_ofNat_of_zero_le hk0
    have hcq := ho4.cap
    by_cases hkl : k < xs.length
    · have hkl' : (k : Int) < (xs.length : Int) := by omega
      have hkc : (k : Int) ≤ (cq : Int) := by omega
      have ho5 := ho4.preS (show k ≤ xs.length by omega)
      go_wp2
      all_goals go_ret
      all_goals exact ⟨_, xs.take k, rfl, by rw [List.length_take]; omega, ho5.mono hz1, hG4⟩
    · have hkl' : ¬ ((k : Int) < (xs.length : Int)) := by omega
      have ho5 := ho4.preS (Nat.le_refl xs.length)
      go_wp2
      all_goals go_ret
      all_goals exact ⟨_, xs.take xs.length, rfl, by rw [List.length_take]; omega, ho5.mono hz1, hG4⟩
  · have c0' : (c == 0) = false := beq_eq_false_iff_ne.2 c0
    clear c0
    go_wp2_with fail
    (with_reducible refine (l91Changed_c hr3 (by omega) hD3 ho3 hlt (by omega)).mono ?_); rintro e w4 ⟨v4, ys, rfl, hyl, ho4, hr4, hd4⟩
    go_wp2
    go_ret
    exact ⟨_, _, rfl, by omega, ho4.mono hz1, hd4.gr g1 (Nat.le_refl _)⟩
end Go.Proofs.Ytknhfogblfogaaa
