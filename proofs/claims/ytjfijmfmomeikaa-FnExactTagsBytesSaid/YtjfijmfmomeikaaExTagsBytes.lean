/- The walk of laws.FnExactTagsBytes. -/
import Derived.Test.YtjfijmfmomeikaaToTS
namespace Go.Proofs.Ytjfijmfmomeikaa
open Go.RowKit
def BytesAre (ts : List Tag) (ok : Bool) (zs : List Int) : Prop := tagsOk ts = ok ∧ (if tagsOk ts then tagsBytes ts else []) = zs
theorem specTB {w : World} {v : Value} {ts : List Tag} {ok : Bool} {zs : List Int} (hR : Hid (BytesAre ts ok zs)) (h : TagS w v ts) :
    Calls Try.prog 20 #[v] w fun e w' => ∃ v', e = .returned (.tuple #[v', .bool ok]) ∧ IntO w.heap.size 3 w' v' zs ∧ Gr w w' := by
  have := specTagsBytes_c h
  rw [hR.out.2, hR.out.1] at this
  exact this
theorem implTB {w : World} {v : Value} {ts : List Tag} {ok : Bool} {zs : List Int} (hR : Hid (BytesAre ts ok zs)) (h : TagS w v ts) :
    Calls Try.prog 19 #[v] w fun e w' => ∃ v', e = .returned (.tuple #[v', .bool ok]) ∧ IntO w.heap.size 3 w' v' zs ∧ Gr w w' := by
  have := implTagsBytes_c h
  rw [hR.out.2, hR.out.1] at this
  exact this
theorem bytesAre_len {ts : List Tag} {ok : Bool} {zs : List Int} (h : BytesAre ts ok zs) : zs.length ≤ 76 := by
  obtain ⟨_, rfl⟩ := h
  split
  · have := tagsBytes_len ‹_› ts.length
    rwa [List.take_length] at this
  · simp
set_option maxHeartbeats 1000000 in
theorem FnExactTagsBytes_w {w : World} {a : Value} {ts : List Tag} (ha : TagS w a ts) :
    Calls Try.prog 9 #[a] w fun e w' => e = .returned (.bool true) ∧ Gr w w' := by
  obtain ⟨p, cap, rfl, _, _⟩ := ha.form
  obtain ⟨ok, zs, hR⟩ : ∃ ok zs, BytesAre ts ok zs := ⟨_, _, rfl, rfl⟩
  have hzl := bytesAre_len hR
  have hlz : zs.length ≤ 1000000000000 := by omega
  have HR := Lib.hid hR; clear hR
  go_enter Try.func9, Try.ntmps9
  go_wp2_with fail
  (with_reducible refine (szTagS_c ha).mono ?_); rintro e w1 ⟨r, rfl, hr, g1⟩
  rcases hr with rfl | ⟨hr0, hrc⟩
  · go_wp2
    go_ret
    exact ⟨rfl, g1⟩
  · have hct : cnt ts ≤ 1048576 := by omega
    have hcn : ¬ ((1 : Int) + (cnt ts : Int) < 0) := by omega
    clear hrc
    go_wp2_with fail
    (with_reducible refine (toTagS_c (ha.kept g1) hct).mono ?_); rintro e w2 ⟨v2, T2, rfl, o2, hT2, g2⟩
    go_wp2_with fail
    (with_reducible refine (specTB HR o2.s).mono ?_); rintro e w3 ⟨v3, rfl, o3, g3⟩
    have G3 := (g1.trans g2).trans g3
    go_wp2_with fail
    (with_reducible refine (toTagS_c (ha.kept G3) hct).mono ?_); rintro e w4 ⟨v4, T4, rfl, o4, hT4, g4⟩
    go_wp2_with fail
    (with_reducible refine (implTB HR o4.s).mono ?_); rintro e w5 ⟨v5, rfl, o5, g5⟩
    have z1 := g1.sz; have z2 := g2.sz; have z3 := g3.sz; have z4 := g4.sz; have z5 := g5.sz
    have b3 := (o3.b.kept g4).kept g5
    replace o4 := o4.kept g5
    have b5 := o5.b
    have G5 := (G3.trans g4).trans g5
    clear o2 o3 o5 g1 g2 g3 g4 g5 G3
    go_wp2_with fail
    (with_reducible refine (eqI_same b5.s b3.s).mono ?_); rintro e w6 ⟨rfl, g6⟩
    go_wp2_with fail
    (with_reducible refine (toTagS_c (ha.kept (G5.trans g6)) hct).mono ?_); rintro e w7 ⟨v7, T7, rfl, o7, hT7, g7⟩
    go_wp2_with fail
    (with_reducible refine (eqTagS_c (o4.kept (g6.trans g7)).s o7.s).mono ?_); rintro e w8 ⟨rfl, g8⟩
    have g68 := (g6.trans g7).trans g8
    replace b3 := b3.kept g68
    replace b5 := b5.kept g68
    replace o4 := o4.kept g68
    have G8 := G5.trans g68
    clear o7 g6 g7 g8 g68 G5
    go_wp2_with fail
    (with_reducible refine (markTagS_c o4 1 1 rfl (by omega)).mono ?_); rintro e w9 ⟨rfl, o4', f9⟩
    replace b3 := b3.chg f9 (by omega)
    replace b5 := b5.chg f9 (by omega)
    have G9 := f9.gr G8 (by omega)
    clear o4 o4' f9 G8
    go_wp2_with fail
    (with_reducible refine (eqI_same b5.s b3.s).mono ?_); rintro e w10 ⟨rfl, g10⟩
    replace b3 := b3.kept g10
    replace b5 := b5.kept g10
    have G10 := G9.trans g10
    clear g10 G9
    go_wp2_with fail
    (with_reducible refine (markIntS_c b5 1 (by decide) (by decide) hlz).mono ?_); rintro e w11 ⟨rfl, b5', f11⟩
    replace b3 := b3.chg f11 (by omega)
    have G11 := f11.gr G10 (by omega)
    clear b5 f11 G10
    go_wp2_with fail
    (with_reducible refine (heldIntS_c 1 zs.length b5'.s (by decide) (by decide) hlz).mono ?_); rintro e w12 ⟨rfl, rfl⟩
    go_wp2_with fail
    (with_reducible refine (toTagS_c (ha.kept G11) hct).mono ?_); rintro e w13 ⟨v13, T13, rfl, o13, hT13, g13⟩
    go_wp2_with fail
    (with_reducible refine (implTB HR o13.s).mono ?_); rintro e w14 ⟨v14, rfl, o14, g14⟩
    have g1314 := g13.trans g14
    go_wp2_with fail
    (with_reducible refine (eqI_same o14.s (b3.kept g1314).s).mono ?_); rintro e w15 ⟨rfl, g15⟩
    replace g1314 := g1314.trans g15
    go_wp2_with fail
    (with_reducible refine (heldIntS_c 1 zs.length (b5'.kept g1314).s (by decide) (by decide) hlz).mono ?_); rintro e w16 ⟨rfl, rfl⟩
    go_wp2
    go_ret
    exact ⟨rfl, G11.trans g1314⟩
end Go.Proofs.Ytjfijmfmomeikaa
