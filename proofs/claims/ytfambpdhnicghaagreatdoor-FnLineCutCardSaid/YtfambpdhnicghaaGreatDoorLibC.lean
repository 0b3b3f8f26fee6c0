/- The library's functions in plain words: IndexByte, Split, Join, Itoa. -/
import Derived.Test.YtfambpdhnicghaaGreatDoorCutL
import Derived.Test.YtfambpdhnicghaaGreatDoorShelf
import Derived.WalkSmall
import Derived.Lib.AppendIntMem
namespace Go.Proofs.YtfambpdhnicghaaGreatDoor
open Go.RowKit
/-- bytealg.MaxLen holds an integer. -/
def ML (w : World) : Prop := ∃ m, w.cell? ⟨0, 0, none⟩ = some (.int .i64 m)
theorem ML.kept {w w' : World} (h : ML w) (hg : Gr w w') : ML w' := by
  obtain ⟨m, hm⟩ := h
  exact ⟨m, hg.cell hm⟩
/-- The table of the powers of ten. -/
def Tab (w : World) : Prop := Lib.TabIs Tryz.prog w "internal/strconv.uint64pow10" .u64 Lib.pow10Tab
theorem Tab.kept {w w' : World} (h : Tab w) (hg : Gr w w') : Tab w' := by
  have hn : Tryz.prog.globalNamed "internal/strconv.uint64pow10" = some 1 := by kernel_rfl
  refine var?_below hg hn ?_ h
  have h2 := h
  unfold Tab Lib.TabIs World.var? at h2
  rw [hn] at h2
  simp only [Option.bind_some] at h2
  by_cases hlt : 1 < w.heap.size
  · exact hlt
  · rw [Array.getElem?_eq_none (by omega)] at h2; cases h2
theorem indexByte_c (s : ByteArray) (c : UInt8) (ci : Int) (h : ci = (c.toNat : Int)) (w : World) :
    Calls Tryz.prog 144 #[.string s, .int .u8 ci] w fun e w' => e = .returned (.int .i64 (Lib.indexByte (tx s) c)) ∧ w = w' := by
  subst h
  refine (Tryz.strings_IndexByte s _ w).mono ?_
  rintro e w' ⟨rfl, rfl⟩
  have e : ((c.toNat : Int).toNat.toUInt8) = c := by rw [Int.toNat_natCast]; exact UInt8.ofNat_toNat
  exact ⟨by rw [e]; rfl, rfl⟩
theorem split_c {w : World} (h : ML w) (s : ByteArray) (c : UInt8) (hs : s.size ≤ 2000000) :
    Calls Tryz.prog 44 #[.string s, .string ⟨#[c]⟩] w fun e w' => ∃ v', e = .returned v' ∧ StrO w.heap.size w' v' (cutB c (tx s)) ∧ Gr w w' := by
  obtain ⟨m, hm⟩ := h
  refine (Tryz.strings_Split s ⟨#[c]⟩ m w (by omega) hm (Nat.le_refl 1)).mono ?_
  rintro e w' ⟨rfl, rfl⟩
  refine ⟨_, rfl, ?_, gr_alloc _ _⟩
  have hl := Lib.splitB_all ⟨#[c]⟩ (Nat.le_refl 1) 0 _ s rfl
  have ht := split_tx s c
  have hb := cutB_len c (tx s)
  rw [← ht, List.length_map, hl, tx_len] at hb
  have := Own.lit (B := w.heap.size) (e := 9) (sz := 1) w ((Lib.splitB ⟨#[c]⟩ 0 (Lib.countB s ⟨#[c]⟩) s).map Value.string).toArray (Lib.countB s ⟨#[c]⟩ + 1) (Nat.le_refl _) (by omega) (by simp [hl])
  unfold StrO txs
  rw [← ht, List.length_map, hl, List.map_map]
  have e : (Lib.splitB ⟨#[c]⟩ 0 (Lib.countB s ⟨#[c]⟩) s).map ((fun l => Value.string (S l)) ∘ tx) = (Lib.splitB ⟨#[c]⟩ 0 (Lib.countB s ⟨#[c]⟩) s).map Value.string := by
    apply List.map_congr_left
    intro x _
    simp [S_tx]
  rw [e]
  exact this
theorem join_c {w : World} {B : Nat} {v : Value} {ls : List Tx} (h : StrO B w v ls) (h1 : 1 ≤ ls.length) (hn : ls.length ≤ 1000) (c : UInt8) {l : Tx} (hl : Lib.join ls [c] = l) (hb : l.length ≤ 1000000) :
    Calls Tryz.prog 40 #[v, .string ⟨#[c]⟩] w fun e w' => e = .returned (.string (S l)) ∧ Gr w w' := by
  have h0 := h
  rcases h0.2 with ⟨_, hz⟩ | ⟨g, cap, cur, rfl, hB, hg, hnc, hcm, hcs, htake⟩
  · omega
  · have hcell : ∀ (j : Nat) (x : ByteArray), (ls.map S)[j]? = some x → w.cell? ⟨g, 0 + j, none⟩ = some (.string x) := by
      intro j x hx
      have hc := World.ownsRow.cells h rfl j (.string x) (by
        rw [List.getElem?_map] at hx
        unfold txs
        rw [List.getElem?_map]
        cases hj : ls[j]? with
        | none => rw [hj] at hx; cases hx
        | some y => rw [hj] at hx; simp at hx ⊢; exact hx)
      have e2 : (⟨g, 0, none⟩ : Addr).add j = ⟨g, 0 + j, none⟩ := by unfold Addr.add; split <;> simp_all
      rwa [e2] at hc
    have em : (ls.map S).map (·.data.toList) = ls := by
      rw [List.map_map]
      have : ((fun x : ByteArray => x.data.toList) ∘ S) = id := by funext x; simp [S]
      rw [this, List.map_id]
    have hlt : g < w.heap.size := (Array.getElem?_eq_some_iff.1 hg).1
    have c0 := Tryz.strings_Join g 0 cap (ls.map S) ⟨#[c]⟩ w hcell hlt (by rw [List.length_map]; omega) (by rw [List.length_map]; exact hnc) (by rw [em]; show (Lib.join ls [c]).length ≤ _; rw [hl]; omega)
    rw [List.length_map] at c0
    refine c0.mono ?_
    rintro e w' ⟨rfl, hbel⟩
    rw [em]
    exact ⟨by show _ = Ending.returned (.string (S l)); rw [← hl]; rfl, hbel⟩
theorem itoa_c {w : World} (h : Tab w) (n : Int) (h0 : 0 ≤ n) (h1 : n ≤ 9223372036854775807) :
    Calls Tryz.prog 39 #[.int .i64 n] w fun e w' => e = .returned (.string (S (dec n.toNat))) ∧ Gr w w' := by
  refine (Tryz.strconv_Itoa n (by omega) h1 w h).mono ?_
  rintro e w' ⟨rfl, k, os, rfl⟩
  exact ⟨by rw [itoa_dec h0]; rfl, Lib.below_grow _ _ (Nat.le_refl _) _ _⟩
end Go.Proofs.YtfambpdhnicghaaGreatDoor
