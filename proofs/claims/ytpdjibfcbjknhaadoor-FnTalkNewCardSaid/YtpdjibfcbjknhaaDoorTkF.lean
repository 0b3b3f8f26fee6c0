/- Talks that are alike. -/
import Derived.Test.YtpdjibfcbjknhaaDoorLgE
import Derived.Test.YtpdjibfcbjknhaaDoorLgF
import Derived.Test.YtpdjibfcbjknhaaDoorGH
import Derived.Laws.StructEq
namespace Go.Proofs.YtpdjibfcbjknhaaDoor
open Go.RowKit
set_option maxHeartbeats 1000000 in
theorem sameLogins_t {w : World} {v u : Value} {ls : List Lg} (h : LgS w v ls) (h2 : LgS w u ls) :
    Calls Tryd.prog 10 #[v, u] w fun e w' => e = .returned (.bool true) ∧ Gr w w' := by
  obtain ⟨p, c, rfl, hl1, hl2⟩ := h.form
  obtain ⟨q, d, rfl, _, _⟩ := h2.form
  go_enter Tryd.func10, Tryd.ntmps10
  go_wp2_with fail
  go_loopw [5] (fun i wr => ∃ k : Nat, k ≤ ls.length ∧ i = .int .i64 k ∧ Gr w wr) (fun i _ => ls.length - (intOf i).toNat)
  case atStart => exact ⟨0, Nat.zero_le _, rfl, Gr.refl _⟩
  case round =>
    obtain ⟨k, hk, rfl, hgr⟩ := hrel
    by_cases hlt : k < ls.length
    · obtain ⟨a, hix, hca, hcb⟩ := (h.kept hgr).ix hlt
      obtain ⟨b, hjx, hda, hdb⟩ := (h2.kept hgr).ix hlt
      generalize S (nthLg ls k).1 = s1 at *
      generalize S (nthLg ls k).2 = s2 at *
      go_wp2_with fail
      go_quiet (fail)
      go_wp2
      go_roundw
      case rel => exact ⟨k+1, by omega, by go_num, hgr.drewN _⟩
      case measure => simp [intOf]; omega
    · go_wp2
      go_ret
      exact ⟨rfl, hgr⟩
set_option maxRecDepth 20000 in
set_option maxHeartbeats 2000000 in
theorem sameTalk_t {w : World} {v u v' u' : Value} {ws : List Int} {ls : List Lg} (st : Int) (d : ByteArray) (h : IntS w v ws) (hl : LgS w u ls) (h2 : IntS w v' ws) (hl2 : LgS w u' ls) :
    Calls Tryd.prog 7 #[.agg #[.int .i64 st, v, u, .string d], .agg #[.int .i64 st, v', u', .string d]] w fun e w' => e = .returned (.bool true) ∧ Gr w w' := by
  obtain ⟨p, c, rfl, _, _⟩ := h.form
  obtain ⟨q, e, rfl, _, _⟩ := hl.form
  obtain ⟨p2, c2, rfl, _, _⟩ := h2.form
  obtain ⟨q2, e2, rfl, _, _⟩ := hl2.form
  have gA := (gr_alloc w (.cells #[.int .i64 st, .slice p ws.length c, .slice q ls.length e, .string d] 28)).alloc (.cells #[.int .i64 st, .slice p2 ws.length c2, .slice q2 ls.length e2, .string d] 28)
  have hA1 := (gr_alloc (w.alloc (.cells #[.int .i64 st, .slice p ws.length c, .slice q ls.length e, .string d] 28)) (.cells #[.int .i64 st, .slice p2 ws.length c2, .slice q2 ls.length e2, .string d] 28)).blk (heap_alloc_new w (.cells #[.int .i64 st, .slice p ws.length c, .slice q ls.length e, .string d] 28))
  have hA2 := heap_alloc_new (w.alloc (.cells #[.int .i64 st, .slice p ws.length c, .slice q ls.length e, .string d] 28)) (.cells #[.int .i64 st, .slice p2 ws.length c2, .slice q2 ls.length e2, .string d] 28)
  have eA : (w.alloc (.cells #[.int .i64 st, .slice p ws.length c, .slice q ls.length e, .string d] 28)).heap.size = w.heap.size + 1 := by simp
  rw [eA] at hA2
  have HA1 := Lib.hid hA1
  have HA2 := Lib.hid hA2
  have i1 := h.kept gA
  have i2 := h2.kept gA
  have j1 := hl.kept gA
  have j2 := hl2.kept gA
  clear hA1 hA2 eA
  go_enter Tryd.func7, Tryd.ntmps7
  go_upto_region 1 with fail
  generalize (w.alloc (.cells #[.int .i64 st, .slice p ws.length c, .slice q ls.length e, .string d] 28)).alloc (.cells #[.int .i64 st, .slice p2 ws.length c2, .slice q2 ls.length e2, .string d] 28) = w0 at *
  have s0 := blk_cell HA1.out (j := 0) rfl
  have s1 := blk_cell HA1.out (j := 1) rfl
  have s2 := blk_cell HA1.out (j := 2) rfl
  have s3 := blk_cell HA1.out (j := 3) rfl
  have u0 := blk_cell HA2.out (j := 0) rfl
  have u1 := blk_cell HA2.out (j := 1) rfl
  have u2 := blk_cell HA2.out (j := 2) rfl
  have u3 := blk_cell HA2.out (j := 3) rfl
  go_wp2_with fail
  (with_reducible refine (same_c i1 i2).mono ?_); rintro e w1 ⟨rfl, g1⟩
  have HB1 := Lib.hid (g1.blk HA1.out)
  have HB2 := Lib.hid (g1.blk HA2.out)
  clear s0 s1 s2 s3 u0 u1 u2 u3 HA1 HA2
  have s2 := blk_cell HB1.out (j := 2) rfl
  have u2 := blk_cell HB2.out (j := 2) rfl
  go_wp2_with fail
  (with_reducible refine (sameLogins_t (j1.kept g1) (j2.kept g1)).mono ?_); rintro e w2 ⟨rfl, g2⟩
  go_wp2
  go_ret
  exact ⟨rfl, (gA.trans g1).trans g2⟩
end Go.Proofs.YtpdjibfcbjknhaaDoor
