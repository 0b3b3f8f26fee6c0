/- The library's functions in plain words: IndexByte, Split, Join, Itoa.
The library's functions in plain words: Cut, HasPrefix, Atoi; impl.decimal.
The row's wrap with its listed variables and the world's shape; what the library's variables hold.
What strconv's two errors hold, out of the row's list. -/
import Derived.Test.YtgigjgjpglmpoaaGreatDoorGN
import Derived.Test.YtgigjgjpglmpoaaGreatDoorShelf
import Derived.WalkSmall
import Derived.Lib.AppendIntMem
import Derived.Lib.AtoiAllCases
import Derived.Lib.AtoiErrMem
import Derived.Handed
import Derived.SizedLaws
import Derived.MakeChecks
import Derived.Shelf.Vars
import Derived.Lib.LaidTab
import Derived.Stop.LaidErr
import Derived.LaidLaws
import Derived.FnData
namespace Go.Proofs.YtgigjgjpglmpoaaGreatDoor
open Go.RowKit
/-- bytealg.MaxLen holds an integer. -/
def ML (w : World) : Prop := ∃ m, w.cell? ⟨0, 0, none⟩ = some (.int .i64 m)
theorem ML.kept {w w' : World} (h : ML w) (hg : Gr w w') : ML w' := by
  obtain ⟨m, hm⟩ := h
  exact ⟨m, hg.cell hm⟩
/-- The table of the powers of ten. -/
def Tab (w : World) : Prop := Lib.TabIs Tryz.prog w "internal/strconv.uint64pow10" .u64 Lib.pow10Tab
theorem Tab.kept {w w' : World} (h : Tab w) (hg : Gr w w') : Tab w' := by
  have hn : Tryz.prog.globalNamed "internal/strconv.uint64pow10" = some 3 := by kernel_rfl
  refine var?_below hg hn ?_ h
  have h2 := h
  unfold Tab Lib.TabIs World.var? at h2
  rw [hn] at h2
  simp only [Option.bind_some] at h2
  by_cases hlt : 3 < w.heap.size
  · exact hlt
  · rw [Array.getElem?_eq_none (by omega)] at h2; cases h2
theorem indexByte_c (s : ByteArray) (c : UInt8) (ci : Int) (h : ci = (c.toNat : Int)) (w : World) :
    Calls Tryz.prog 60 #[.string s, .int .u8 ci] w fun e w' => e = .returned (.int .i64 (Lib.indexByte (tx s) c)) ∧ w = w' := by
  subst h
  refine (Tryz.strings_IndexByte s _ w).mono ?_
  rintro e w' ⟨rfl, rfl⟩
  have e : ((c.toNat : Int).toNat.toUInt8) = c := by rw [Int.toNat_natCast]; exact UInt8.ofNat_toNat
  exact ⟨by rw [e]; rfl, rfl⟩
theorem split_c {w : World} (h : ML w) (s : ByteArray) (c : UInt8) (hs : s.size ≤ 2000000) :
    Calls Tryz.prog 54 #[.string s, .string ⟨#[c]⟩] w fun e w' => ∃ v', e = .returned v' ∧ StrO w.heap.size w' v' (cutB c (tx s)) ∧ Gr w w' := by
  obtain ⟨m, hm⟩ := h
  refine (Tryz.strings_Split s ⟨#[c]⟩ m w (by omega) hm (Nat.le_refl 1)).mono ?_
  rintro e w' ⟨rfl, rfl⟩
  refine ⟨_, rfl, ?_, gr_alloc _ _⟩
  have hl := Lib.splitB_all ⟨#[c]⟩ (Nat.le_refl 1) 0 _ s rfl
  have ht := split_tx s c
  have hb := cutB_len c (tx s)
  rw [← ht, List.length_map, hl, tx_len] at hb
  have := Own.lit (B := w.heap.size) (e := 9) (sz := 1) w ((Lib.splitB ⟨#[c]⟩ 0 (Lib.countB s ⟨#[c]⟩) s).map Value.string).toArray (Lib.countB s ⟨#[c]⟩ + 1) (Nat.le_refl _) (by omega) (by simp [hl])
  unfold StrO txs
  rw [← ht, List.length_map, hl, List.map_map]
  have e : (Lib.splitB ⟨#[c]⟩ 0 (Lib.countB s ⟨#[c]⟩) s).map ((fun l => Value.string (S l)) ∘ tx) = (Lib.splitB ⟨#[c]⟩ 0 (Lib.countB s ⟨#[c]⟩) s).map Value.string := by
    apply List.map_congr_left
    intro x _
    simp [S_tx]
  rw [e]
  exact this
theorem itoa_c {w : World} (h : Tab w) (n : Int) (h0 : 0 ≤ n) (h1 : n ≤ 9223372036854775807) :
    Calls Tryz.prog 53 #[.int .i64 n] w fun e w' => e = .returned (.string (S (dec n.toNat))) ∧ Gr w w' := by
  refine (Tryz.strconv_Itoa n (by omega) h1 w h).mono ?_
  rintro e w' ⟨rfl, k, os, rfl⟩
  exact ⟨by rw [itoa_dec h0]; rfl, Lib.below_grow _ _ (Nat.le_refl _) _ _⟩
end Go.Proofs.YtgigjgjpglmpoaaGreatDoor
namespace Go.Proofs.YtgigjgjpglmpoaaGreatDoor
open Go.RowKit
theorem cut_c {w : World} (h : ML w) (s sep : ByteArray) (hs : s.size ≤ 2000000) :
    Calls Tryz.prog 45 #[.string s, .string sep] w fun e w' => e = .returned (.tuple #[.string (S (Lib.cut (tx s) (tx sep)).1), .string (S (Lib.cut (tx s) (tx sep)).2.1), .bool (Lib.cut (tx s) (tx sep)).2.2]) ∧ Gr w w' := by
  obtain ⟨m, hm⟩ := h
  refine (Tryz.strings_Cut s sep m w (by omega) hm).mono ?_
  rintro e w' ⟨rfl, n, rfl⟩
  exact ⟨rfl, (Gr.refl w).drewN n⟩
/-- strconv's two errors are nil or hold something. -/
def ErrV (w : World) : Prop := (∃ v, w.cell? ⟨1, 0, none⟩ = some v ∧ (v = .nilIface ∨ ∃ te pe, v = .iface te pe)) ∧ (∃ v, w.cell? ⟨2, 0, none⟩ = some v ∧ (v = .nilIface ∨ ∃ te pe, v = .iface te pe))
theorem ErrV.kept {w w' : World} (h : ErrV w) (hg : Gr w w') : ErrV w' := by
  obtain ⟨⟨v, h1, h2⟩, u, h3, h4⟩ := h
  exact ⟨⟨v, hg.cell h1, h2⟩, u, hg.cell h3, h4⟩
/-- strconv.Atoi: a number without an error, or some error. -/
def AtoiIs (l : Tx) (e : Ending) : Prop := (∃ v : Int, Lib.atoiAll l = .ok v ∧ e = .returned (.tuple #[.int .i64 v, .nilIface])) ∨ ((∀ v : Int, Lib.atoiAll l ≠ .ok v) ∧ ∃ (n : Int) (t : TypeId) (v : Value), e = .returned (.tuple #[.int .i64 n, .iface t v]))
theorem atoi_c {w : World} (h : ErrV w) (s : ByteArray) (hs : s.size ≤ 2000000) :
    Calls Tryz.prog 52 #[.string s] w fun e w' => AtoiIs (tx s) e ∧ Gr w w' := by
  obtain ⟨⟨v, h1, h2⟩, u, h3, h4⟩ := h
  cases ha : Lib.atoiAll s.data.toList
  · rename_i n
    refine (Tryz.strconv_Atoi_ok s (by omega) n ha w).mono ?_
    rintro e w' ⟨rfl, hw⟩
    refine ⟨.inl ⟨n, ha, rfl⟩, ?_⟩
    rcases hw with rfl | ⟨t, rfl⟩
    · exact Gr.refl _
    · exact Lib.bytesWorld_below _ _ _
  · refine (Tryz.strconv_Atoi_syntax s (by omega) ha v w h1 h2).mono ?_
    rintro e w' ⟨N, rfl, _, _, hb⟩
    exact ⟨.inr ⟨(fun v hv => by rw [show tx s = s.data.toList from rfl, ha] at hv; cases hv), _, _, _, rfl⟩, hb⟩
  · refine (Tryz.strconv_Atoi_range s (by omega) ha u w h3 h4).mono ?_
    rintro e w' ⟨N, rfl, _, _, hb⟩
    exact ⟨.inr ⟨(fun v hv => by rw [show tx s = s.data.toList from rfl, ha] at hv; cases hv), _, _, _, rfl⟩, hb⟩
theorem itoaL_c {w : World} (h : Tab w) (n : Int) (h0 : -9223372036854775808 ≤ n) (h1 : n ≤ 9223372036854775807) :
    Calls Tryz.prog 53 #[.int .i64 n] w fun e w' => e = .returned (.string (S (Lib.itoa n))) ∧ Gr w w' := by
  refine (Tryz.strconv_Itoa n (by omega) h1 w h).mono ?_
  rintro e w' ⟨rfl, k, os, rfl⟩
  exact ⟨rfl, Lib.below_grow _ _ (Nat.le_refl _) _ _⟩
/-- impl.decimal. -/
def DecIs (l : Tx) (e : Ending) : Prop := (∃ n, decim l = some n ∧ e = .returned (.tuple #[.int .i64 n, .bool true])) ∨ (decim l = none ∧ ∃ n, e = .returned (.tuple #[.int .i64 n, .bool false]))
theorem decimal_c {w : World} (he : ErrV w) (ht : Tab w) (s : ByteArray) (hs : s.size ≤ 2000000) :
    Calls Tryz.prog 46 #[.string s] w fun e w' => DecIs (tx s) e ∧ Gr w w' := by
  have HC := Lib.hid (atoi_c he s hs)
  go_enter Tryz.func46, Tryz.ntmps46
  go_wp2_with fail
  (with_reducible refine (HC.out).mono ?_); rintro e w1 ⟨hr, g1⟩
  rcases hr with ⟨n, hn, rfl⟩ | ⟨hn, n, t, v, rfl⟩
  · have hb := Lib.atoiAll_bounds hn
    have hD : decim (tx s) = if Lib.itoa n = tx s then some n else none := by unfold decim; rw [hn]
    have HN := Lib.hid hn
    have htl := tl_eq (S (Lib.itoa n)) s
    rw [tx_S] at htl
    have HI := Lib.hid (fun (W : World) (hT : Tab W) => itoaL_c hT n hb.1 hb.2)
    generalize Lib.itoa n = l at *
    have ht1 := ht.kept g1
    by_cases hl : l = tx s
    · have HR : Hid (decim (tx s) = some n) := by rw [Hid, hD, if_pos hl]
      rw [decide_eq_true hl] at htl
      have HL := Lib.hid hl
      clear hl hD hn
      go_wp2_with fail
      (with_reducible refine (HI.out _ ht1).mono ?_); rintro e w2 ⟨rfl, g2⟩
      go_wp2
      go_ret2
      exact ⟨.inl ⟨n, HR.out, rfl⟩, g1.trans g2⟩
    · have HR : Hid (decim (tx s) = none) := by rw [Hid, hD, if_neg hl]
      rw [decide_eq_false hl] at htl
      clear hl hD hn
      go_wp2_with fail
      (with_reducible refine (HI.out _ ht1).mono ?_); rintro e w2 ⟨rfl, g2⟩
      go_wp2
      go_ret2
      exact ⟨.inr ⟨HR.out, n, rfl⟩, g1.trans g2⟩
  · have HR : Hid (decim (tx s) = none) := by
      rw [Hid]
      unfold decim
      split
      · rename_i m hm; exact absurd hm (hn m)
      · rfl
    clear hn
    go_wp2
    go_ret2
    exact ⟨.inr ⟨HR.out, n, rfl⟩, g1⟩
end Go.Proofs.YtgigjgjpglmpoaaGreatDoor
namespace Go.Proofs.YtgigjgjpglmpoaaGreatDoor
open Go Go.RowKit
theorem wrapS {H : Type} {enc : TypeId × Value → H} {a : Assume} {C : Checked} {os : Os} {f : FuncId} {fn : Func} {s : ChangeSpec} {conds : List PathCond} {apart fresh handsOn again : Bool} {X : World → Array Value → Prop}
    (hX : ∀ (w w' : World) (args : Array Value), w.heap = w'.heap → X w args → X w' args)
    (own : ownKnob C.prog.godebug = none) (started : os.Started) (noInit : C.prog.inits.idxOf? f = none) (hfn : C.prog.funcs[f]? = some fn)
    (witness : ∃ (w : World) (tape : Tape) (i : Input), w.os = os ∧ (w.forCall tape i).Shaped C.prog ∧ i.vars = [] ∧ Input.okWide C.prog (w.forCall tape i) .any w.heap.size f i ∧
      ((s.pre enc C.prog fn conds apart (w.forCall tape i).memory i.args ∧ X (w.forCall tape i).memory i.args) ∧ sizedMet enc C.prog fn (OpenSpec.ofChange s) apart (w.forCall tape i).memory i.args) ∧ a.holds C.prog (lone (Frame.enter C.prog f i.args .normal) [] (w.forCall tape i)))
    (contract : ∀ (W : World) (base : Nat) (args : Array Value) (ds gs : List (DataW H)) (before : List MemPlace),
      (∀ (j : Nat) t v, fn.params[j]? = some t → args[j]? = some v → Value.okWide C.prog W .any base t v) →
      DataW.Whole enc C.prog fn.params.toList s.vars apart W args.toList ds gs before →
      conds.all (PathCond.test C.prog ⟨fn.params.toList, ds, s.plain.varTypes C.prog, gs⟩) = true →
      X W args → W.ShapedOpen C.prog →
      Calls C.prog f args W fun e W' => ∃ v, e = .returned v ∧ s.post enc C.prog fn apart fresh handsOn again W args v W') :
    ReturnsInHanded a C os f .any (fun w args => (s.pre enc C.prog fn conds apart w args ∧ X w args) ∧ sizedMet enc C.prog fn (OpenSpec.ofChange s) apart w args) (s.post enc C.prog fn apart fresh handsOn again) := by
  refine returnsInHanded_of_calls own started noInit witness ?_
  intro w tape i _ hsh _ hok hpre _
  obtain ⟨_, _, _, fn', hfn', _, _, _, _, hval⟩ := hok
  obtain rfl : fn' = fn := Option.some.inj (hfn'.symm.trans hfn)
  obtain ⟨⟨⟨ds, gs, before, hw, hc⟩, hx⟩, _⟩ := hpre
  have hw' := DataW.Whole.of_heap (w' := w.forCall tape i) (by rfl) hw
  refine (contract (w.forCall tape i) w.heap.size i.args ds gs before hval hw' hc (hX _ _ _ (by rfl) hx) hsh).mono fun e W' hr => ?_
  obtain ⟨v, rfl, hp⟩ := hr
  exact ChangeSpec.post_blind hp
theorem ml_of_shape {W : World} (h : W.ShapedOpen Tryz.prog) : ML W :=
  cell_of_shapedOpen_int (zero := #[.int .i64 0]) (t := 3) h (of_decide_eq_true (by kernel_rfl)) (by kernel_rfl) rfl (by kernel_rfl) (by kernel_rfl) Tryz.underlying3
/-- The table of the powers of ten, at the head of a list. -/
theorem tab_of_head {W : World} {r : List (String × DataW Unit)} (h : laidMet Tryz.prog (("internal/strconv.uint64pow10", Rows.laid_internal_strconv_uint64pow10) :: r) W) : Tab W :=
  Lib.tabIs_of_head (g := 3) (t := 118) (e := 97) (n := 20) (by kernel_rfl) (by kernel_rfl) (by kernel_rfl) (by kernel_rfl) (by kernel_rfl) (by kernel_rfl) h
end Go.Proofs.YtgigjgjpglmpoaaGreatDoor
namespace Go.Proofs.YtgigjgjpglmpoaaGreatDoor
open Go Go.RowKit Go.ChangeShapes
theorem errStar : "*" ++ "errors.errorString" = "*errors.errorString" := by decide
theorem errRow (u : TypeId) (h : Tryz.prog.typeName? 3 u = some "*errors.errorString") : u = 114 :=
  typeName_ptr_named (nm := "errors.errorString") (by rw [errStar]; kernel_rfl) (by kernel_rfl) (by decide) u (by rw [errStar]; exact h)
theorem errV_of {W : World} {r : List (String × DataW Unit)} (h : laidMet Tryz.prog (("strconv.ErrRange", Rows.laid_strconv_ErrRange) :: ("strconv.ErrSyntax", Rows.laid_strconv_ErrSyntax) :: r) W) : ErrV W := by
  have gR : Tryz.prog.globalNamed "strconv.ErrRange" = some 2 := by kernel_rfl
  have gS : Tryz.prog.globalNamed "strconv.ErrSyntax" = some 1 := by kernel_rfl
  obtain ⟨a, s, hv, _⟩ := laid_sentinel (ti := 75) (tp := 114) (te := 116) (ts := 9) h gR (by kernel_rfl) Tryz.underlying75 errRow Tryz.underlying114 Tryz.underlying116 rfl rfl Tryz.underlying9 (by kernel_rfl) (by kernel_rfl)
  obtain ⟨b, t, hu, _⟩ := laid_sentinel (ti := 75) (tp := 114) (te := 116) (ts := 9) h.tail gS (by kernel_rfl) Tryz.underlying75 errRow Tryz.underlying114 Tryz.underlying116 rfl rfl Tryz.underlying9 (by kernel_rfl) (by kernel_rfl)
  exact ⟨⟨_, World.var?_cell gS hu 0, .inr ⟨_, _, rfl⟩⟩, ⟨_, World.var?_cell gR hv 0, .inr ⟨_, _, rfl⟩⟩⟩
end Go.Proofs.YtgigjgjpglmpoaaGreatDoor
