/- impl.SniffSize, spec.SniffSize. -/
import Derived.Test.YtdbepkcpdglppaaGreatDoorOldS
import Derived.Test.YtdbepkcpdglppaaGreatDoorConnG
import Derived.Test.YtdbepkcpdglppaaGreatDoorLineW
import Derived.Test.YtdbepkcpdglppaaGreatDoorHelloF
import Derived.Test.YtdbepkcpdglppaaGreatDoorLineV
import Derived.Test.YtdbepkcpdglppaaGreatDoorGL
import Derived.Test.YtdbepkcpdglppaaGreatDoorGP
namespace Go.Proofs.YtdbepkcpdglppaaGreatDoor
open Go.RowKit
/-- What SniffSize hands back. -/
def SzP (o : Option Nat) (w : World) (e : Ending) (w' : World) : Prop := e = .returned (.tuple #[.int .i64 (szI o), .bool o.isSome]) ∧ Gr w w'
theorem kind_cases (xs : List Int) : (sniffKind xs = 0 ∨ sniffKind xs = 6) ∨ (bv xs = true ∧ (sniffKind xs = 1 ∨ sniffKind xs = 2 ∨ sniffKind xs = 3 ∨ sniffKind xs = 4 ∨ sniffKind xs = 5)) := by
  cases hb : bv xs with
  | false => left; right; unfold sniffKind; rw [if_pos hb]
  | true =>
    unfold sniffKind
    rw [if_neg (by rw [hb]; simp)]
    by_cases h0 : xs.length = 0
    · rw [if_pos h0]; simp
    · rw [if_neg h0]
      by_cases h4 : nth xs 0 = 4
      · rw [if_pos h4]; simp
      · rw [if_neg h4]
        by_cases h5 : nth xs 0 = 5
        · rw [if_pos h5]; simp
        · rw [if_neg h5]
          split
          · split <;> simp
          · split
            · split <;> simp
            · split
              · split <;> simp
              · simp
theorem size_0 {xs : List Int} (h : sniffKind xs = 0 ∨ sniffKind xs = 6) : sniffSize xs = none := sniffSize_none h
theorem size_1 {xs : List Int} (h : sniffKind xs = 1) : sniffSize xs = sizeOld xs := by unfold sniffSize; rw [if_pos h]
theorem size_2 {xs : List Int} (h : sniffKind xs = 2) : sniffSize xs = sizeHello xs := by unfold sniffSize; rw [if_neg (by omega), if_pos h]
theorem size_3 {xs : List Int} (h : sniffKind xs = 3) : sniffSize xs = sizeConn xs := by unfold sniffSize; rw [if_neg (by omega), if_neg (by omega), if_pos h]
theorem size_4 {xs : List Int} (h : sniffKind xs = 4) : sniffSize xs = sizeLine xs := by unfold sniffSize; rw [if_neg (by omega), if_neg (by omega), if_neg (by omega), if_pos h]
theorem size_5 {xs : List Int} (h : sniffKind xs = 5) : sniffSize xs = sizeHead xs := by unfold sniffSize; rw [if_neg (by omega), if_neg (by omega), if_neg (by omega), if_neg (by omega), if_pos h]
/-- The sizes as the callees hand them back. -/
theorem hel_size {xs : List Int} {w w' : World} {e : Ending} (h : HelOut xs w e w') : ∃ (p : Option Addr) (n c : Nat), e = .returned (.tuple #[.slice p n c, .int .i64 (szI (sizeHello xs)), .bool (sizeHello xs).isSome]) ∧ Gr w w' := by
  obtain ⟨p, c, ys, n, ok, rfl, h1, _, hg⟩ := h
  refine ⟨p, ys.length, c, ?_, hg⟩
  unfold sizeHello
  rcases h1 with ⟨m, h1, rfl, rfl⟩ | ⟨h1, _, rfl, rfl⟩
  · rw [h1]; rfl
  · rw [h1]; rfl
theorem head_size {xs : List Int} {w w' : World} {e : Ending} (h : HeadOut xs w e w') : ∃ (k1 p1 k2 p2 : Int) (q1 q2 : Option Addr) (n1 c1 n2 c2 : Nat) (s1 s2 : ByteArray) (v : Value),
    e = .returned (.tuple #[.agg #[.int .i64 k1, .slice q1 n1 c1, .string s1, .int .i64 p1, .int .i64 k2, .slice q2 n2 c2, .string s2, .int .i64 p2], v, .int .i64 (szI (sizeHead xs)), .bool (sizeHead xs).isSome]) ∧ Gr w w' := by
  obtain ⟨p, ts, n, ok, q, q', v, B1, T1, B2, T2, B3, T3, h1, rfl, i1, i2, _, _, _, _, _, _, _, _, _, hg⟩ := h
  obtain ⟨a1, c1, rfl⟩ := i1.o.len
  obtain ⟨a2, c2, rfl⟩ := i2.o.len
  refine ⟨p.src.kind, p.src.port, p.dst.kind, p.dst.port, a1, a2, p.src.quad.length, c1, p.dst.quad.length, c2, S p.src.name, S p.dst.name, v, ?_, hg⟩
  unfold sizeHead
  rcases h1 with ⟨h1, rfl⟩ | ⟨h1, _, _, rfl, rfl⟩
  · rw [h1]; rfl
  · rw [h1]; rfl
theorem lineIs_size {l : Tx} {k1 : Int} {q1 : List Int} {s1 : ByteArray} {p1 k2 : Int} {q2 : List Int} {s2 : ByteArray} {p2 : Int} {n : Int} {ok : Bool} (h : LineIs l k1 q1 s1 p1 k2 q2 s2 p2 n ok) : n = szI ((lineFrom l).map (·.2)) ∧ ok = ((lineFrom l).map (·.2)).isSome := by
  rcases h with ⟨m, h1, rfl, rfl⟩ | ⟨h1, _, _, _, _, _, _, _, _, rfl, rfl⟩
  · rw [h1]; exact ⟨rfl, rfl⟩
  · rw [h1]; exact ⟨rfl, rfl⟩
theorem line_sizeI {l : Tx} {w : World} (hm : ML w) (he : ErrV w) (ht : Tab w) (hs : (S l).size ≤ 1048576) : Calls Tryz.prog 28 #[.string (S l)] w fun e w' => ∃ (k1 p1 k2 p2 : Int) (q1 q2 : Option Addr) (n1 c1 n2 c2 : Nat) (s1 s2 : ByteArray),
    e = .returned (.tuple #[.agg #[.int .i64 k1, .slice q1 n1 c1, .string s1, .int .i64 p1, .int .i64 k2, .slice q2 n2 c2, .string s2, .int .i64 p2], .int .i64 (szI ((lineFrom l).map (·.2))), .bool ((lineFrom l).map (·.2)).isSome]) ∧ Gr w w' := by
  obtain ⟨k1, q1, s1, p1, k2, q2, s2, p2, n, ok, hR⟩ := lineIs_some (tx (S l))
  refine (implLF (Lib.hid hR) hm he ht hs).mono ?_
  rintro e w' ⟨pa, ca, pb, cb, T, rfl, _, _, _, _, hg⟩
  obtain ⟨e1, e2⟩ := lineIs_size hR
  rw [tx_S] at e1 e2
  exact ⟨k1, p1, k2, p2, pa, pb, q1.length, ca, q2.length, cb, s1, s2, by rw [e1, e2], hg⟩
set_option maxHeartbeats 4000000 in
theorem implSniffSize_c {w : World} {v : Value} {xs : List Int} (hm : ML w) (he : ErrV w) (ht : Tab w) (h : IntS w v xs) (hlen : xs.length ≤ 1048576) :
    Calls Tryz.prog 14 #[v] w (SzP (sniffSize xs) w) := by
  obtain ⟨p, cap, rfl, _, _⟩ := h.form
  have SK := implSniffKind_c h
  have hbl : (S (bt xs)).size ≤ 1048576 := by rw [S_len, bt_len]; exact hlen
  rcases kind_cases xs with hk | ⟨hb, hk⟩
  · rw [size_0 hk]
    have hn : (sniffKind xs == 1) = false ∧ (sniffKind xs == 2) = false ∧ (sniffKind xs == 3) = false ∧ (sniffKind xs == 4) = false ∧ (sniffKind xs == 5) = false := by
      rcases hk with hk | hk <;> rw [hk] <;> exact ⟨rfl, rfl, rfl, rfl, rfl⟩
    obtain ⟨n1, n2, n3, n4, n5⟩ := hn
    have SKH := Lib.hid SK
    clear hk SK hbl
    generalize sniffKind xs = k at *
    go_enter Tryz.func14, Tryz.ntmps14
    go_wp2_with fail
    (with_reducible refine (SKH.out).mono ?_); rintro e w1 ⟨rfl, g1⟩
    go_wp2
    go_ret2
    exact ⟨rfl, g1⟩
  have hby := bv_bytes hb
  rcases hk with hk | hk | hk | hk | hk
  · rw [size_1 hk]
    rw [hk] at SK
    have SKH := Lib.hid SK
    have C := Lib.hid (fun (W : World) (h1 : ML W) (h2 : IntS W (.slice p xs.length cap) xs) => implOldFrom_c h1 h2 hlen)
    clear hk SK hbl
    generalize sizeOld xs = o at *
    go_enter Tryz.func14, Tryz.ntmps14
    go_wp2_with fail
    (with_reducible refine (SKH.out).mono ?_); rintro e w1 ⟨rfl, g1⟩
    go_wp2_with fail
    (with_reducible refine (C.out _ (hm.kept g1) (h.kept g1)).mono ?_); rintro e w2 ⟨_, _, _, _, _, _, _, _, rfl, g2⟩
    have g12 := g1.trans g2
    go_wp2
    go_ret2
    exact ⟨rfl, g12⟩
  · rw [size_2 hk]
    rw [hk] at SK
    have SKH := Lib.hid SK
    have C := Lib.hid (fun (W : World) (h2 : IntS W (.slice p xs.length cap) xs) => (implHelloFrom_c h2 hlen).mono fun _ _ hh => hel_size hh)
    clear hk SK hbl
    generalize sizeHello xs = o at *
    go_enter Tryz.func14, Tryz.ntmps14
    go_wp2_with fail
    (with_reducible refine (SKH.out).mono ?_); rintro e w1 ⟨rfl, g1⟩
    go_wp2_with fail
    (with_reducible refine (C.out _ (h.kept g1)).mono ?_); rintro e w2 ⟨_, _, _, rfl, g2⟩
    have g12 := g1.trans g2
    go_wp2
    go_ret2
    exact ⟨rfl, g12⟩
  · rw [size_3 hk]
    rw [hk] at SK
    have SKH := Lib.hid SK
    have C := Lib.hid (fun (W : World) (h1 : ML W) (h2 : ErrV W) (h3 : Tab W) => implConnectFrom_c h1 h2 h3 (S (bt xs)) hbl)
    have CB := Lib.hid (fun (W : World) (h2 : IntS W (.slice p xs.length cap) xs) => bytesText_c h2 hby (by omega))
    have eo : (connFrom (tx (S (bt xs)))).map (·.2) = sizeConn xs := by rw [tx_S]; rfl
    rw [eo] at C
    clear hk SK hbl eo
    generalize sizeConn xs = o at *
    generalize S (bt xs) = t at *
    go_enter Tryz.func14, Tryz.ntmps14
    go_wp2_with fail
    (with_reducible refine (SKH.out).mono ?_); rintro e w1 ⟨rfl, g1⟩
    go_wp2_with fail
    (with_reducible refine (CB.out _ (h.kept g1)).mono ?_); rintro e w2 ⟨rfl, g2⟩
    have g12 := g1.trans g2
    go_wp2_with fail
    (with_reducible refine (C.out _ (hm.kept g12) (he.kept g12) (ht.kept g12)).mono ?_); rintro e w3 ⟨_, _, _, _, _, _, rfl, g3⟩
    have g13 := g12.trans g3
    go_wp2
    go_ret2
    exact ⟨rfl, g13⟩
  · rw [size_4 hk]
    rw [hk] at SK
    have SKH := Lib.hid SK
    have C := fun (W : World) (h1 : ML W) (h2 : ErrV W) (h3 : Tab W) => line_sizeI (l := bt xs) h1 h2 h3 hbl
    have CB := Lib.hid (fun (W : World) (h2 : IntS W (.slice p xs.length cap) xs) => bytesText_c h2 hby (by omega))
    have eo : (lineFrom (bt xs)).map (·.2) = sizeLine xs := rfl
    rw [eo] at C
    have CH := Lib.hid C
    clear hk SK hbl eo C
    generalize sizeLine xs = o at *
    generalize S (bt xs) = t at *
    go_enter Tryz.func14, Tryz.ntmps14
    go_wp2_with fail
    (with_reducible refine (SKH.out).mono ?_); rintro e w1 ⟨rfl, g1⟩
    go_wp2_with fail
    (with_reducible refine (CB.out _ (h.kept g1)).mono ?_); rintro e w2 ⟨rfl, g2⟩
    have g12 := g1.trans g2
    go_wp2_with fail
    (with_reducible refine (CH.out _ (hm.kept g12) (he.kept g12) (ht.kept g12)).mono ?_); rintro e w3 ⟨_, _, _, _, _, _, _, _, _, _, _, _, rfl, g3⟩
    have g13 := g12.trans g3
    go_wp2
    go_ret2
    exact ⟨rfl, g13⟩
  · rw [size_5 hk]
    rw [hk] at SK
    have SKH := Lib.hid SK
    have C := Lib.hid (fun (W : World) (h2 : IntS W (.slice p xs.length cap) xs) => (implHeadFrom_c h2 hlen).mono fun _ _ hh => head_size hh)
    clear hk SK hbl
    generalize sizeHead xs = o at *
    go_enter Tryz.func14, Tryz.ntmps14
    go_wp2_with fail
    (with_reducible refine (SKH.out).mono ?_); rintro e w1 ⟨rfl, g1⟩
    go_wp2_with fail
    (with_reducible refine (C.out _ (h.kept g1)).mono ?_); rintro e w2 ⟨_, _, _, _, _, _, _, _, _, _, _, _, _, rfl, g2⟩
    have g12 := g1.trans g2
    go_wp2
    go_ret2
    exact ⟨rfl, g12⟩
end Go.Proofs.YtdbepkcpdglppaaGreatDoor
