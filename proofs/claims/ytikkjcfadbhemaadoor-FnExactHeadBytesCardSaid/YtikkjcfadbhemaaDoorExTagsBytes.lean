/- The walk of laws.FnExactTagsBytes. -/
import Derived.Test.YtikkjcfadbhemaaDoorToTS
namespace Go.Proofs.YtikkjcfadbhemaaDoor
open Go.RowKit
def BytesAre (ts : List Tag) (ok : Bool) (zs : List Int) : Prop := tagsOk ts = ok ∧ (if tagsOk ts then tagsBytes ts else []) = zs
theorem implTB {w : World} {v : Value} {ts : List Tag} {ok : Bool} {zs : List Int} (hR : Hid (BytesAre ts ok zs)) (h : TagS w v ts) :
    Calls Tryd.prog 27 #[v] w fun e w' => ∃ v', e = .returned (.tuple #[v', .bool ok]) ∧ IntO w.heap.size 3 w' v' zs ∧ Gr w w' := by
  have := implTagsBytes_c h
  rw [hR.out.2, hR.out.1] at this
  exact this
theorem bytesAre_len {ts : List Tag} {ok : Bool} {zs : List Int} (h : BytesAre ts ok zs) : zs.length ≤ 76 := by
  obtain ⟨_, rfl⟩ := h
  split
  · have := tagsBytes_len ‹_› ts.length
    rwa [List.take_length] at this
  · simp
end Go.Proofs.YtikkjcfadbhemaaDoor
