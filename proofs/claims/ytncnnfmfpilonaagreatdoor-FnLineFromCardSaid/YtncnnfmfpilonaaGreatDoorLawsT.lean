/- The walks of laws.FnLine, FnLineCut. -/
import Derived.Test.YtncnnfmfpilonaaGreatDoorGU
import Derived.Test.YtncnnfmfpilonaaGreatDoorGT
import Derived.Test.YtncnnfmfpilonaaGreatDoorLineV
namespace Go.Proofs.YtncnnfmfpilonaaGreatDoor
open Go.RowKit
theorem lineIs_text {k port k' port' : Int} {s s' : ByteArray} {xs ys : List Int} {t : Tx} (hok : parOk ⟨⟨k, xs, tx s, port⟩, ⟨k', ys, tx s', port'⟩⟩ = true) (he : lineText ⟨⟨k, xs, tx s, port⟩, ⟨k', ys, tx s', port'⟩⟩ = t) (r : Tx) {u : ByteArray} (hu : tx u = t ++ r) :
    LineIs (tx u) k xs s port k' ys s' port' ((S t).size : Int) true := by
  refine .inl ⟨t.length, ?_, by rw [S_len], rfl⟩
  have := lineFrom_text hok r
  rw [he, ← hu] at this
  exact this
theorem lineIs_cut {k port k' port' : Int} {s s' : ByteArray} {xs ys : List Int} {t : Tx} (hok : parOk ⟨⟨k, xs, tx s, port⟩, ⟨k', ys, tx s', port'⟩⟩ = true) (he : lineText ⟨⟨k, xs, tx s, port⟩, ⟨k', ys, tx s', port'⟩⟩ = t) {j : Nat} (hj : j < (S t).size) :
    LineIs (tx ((S t).extract 0 j)) 0 [] ⟨#[]⟩ 0 0 [] ⟨#[]⟩ 0 0 false := by
  refine .inr ⟨?_, rfl, rfl, rfl, rfl, rfl, rfl, rfl, rfl, rfl, rfl⟩
  have := lineFrom_cut hok (k := j) (by rw [he, ← S_len]; exact hj)
  rw [he] at this
  rw [tx_ext_slice, tx_S]
  exact this
end Go.Proofs.YtncnnfmfpilonaaGreatDoor
