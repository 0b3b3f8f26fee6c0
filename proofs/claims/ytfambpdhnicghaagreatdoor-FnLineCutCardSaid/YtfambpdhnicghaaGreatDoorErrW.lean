/- What strconv's two errors hold, out of the row's list. -/
import Derived.Test.YtfambpdhnicghaaGreatDoorWrap
import Derived.Test.YtfambpdhnicghaaGreatDoorLibD
import Derived.LaidLaws
import Derived.Stop.LaidErr
import Derived.FnData
namespace Go.Proofs.YtfambpdhnicghaaGreatDoor
open Go Go.RowKit Go.ChangeShapes
theorem errStar : "*" ++ "errors.errorString" = "*errors.errorString" := by decide
theorem errRow (u : TypeId) (h : Tryz.prog.typeName? 3 u = some "*errors.errorString") : u = 168 :=
  typeName_ptr_named (nm := "errors.errorString") (by rw [errStar]; kernel_rfl) (by kernel_rfl) (by decide) u (by rw [errStar]; exact h)
theorem errV_of {W : World} {r : List (String × DataW Unit)} (h : laidMet Tryz.prog (("strconv.ErrRange", Rows.laid_strconv_ErrRange) :: ("strconv.ErrSyntax", Rows.laid_strconv_ErrSyntax) :: r) W) : ErrV W := by
  have gR : Tryz.prog.globalNamed "strconv.ErrRange" = some 5 := by kernel_rfl
  have gS : Tryz.prog.globalNamed "strconv.ErrSyntax" = some 4 := by kernel_rfl
  obtain ⟨a, s, hv, _⟩ := laid_sentinel (ti := 107) (tp := 168) (te := 170) (ts := 9) h gR (by kernel_rfl) Tryz.underlying107 errRow Tryz.underlying168 Tryz.underlying170 rfl rfl Tryz.underlying9 (by kernel_rfl) (by kernel_rfl)
  obtain ⟨b, t, hu, _⟩ := laid_sentinel (ti := 107) (tp := 168) (te := 170) (ts := 9) h.tail gS (by kernel_rfl) Tryz.underlying107 errRow Tryz.underlying168 Tryz.underlying170 rfl rfl Tryz.underlying9 (by kernel_rfl) (by kernel_rfl)
  exact ⟨⟨_, World.var?_cell gS hu 0, .inr ⟨_, _, rfl⟩⟩, ⟨_, World.var?_cell gR hv 0, .inr ⟨_, _, rfl⟩⟩⟩
end Go.Proofs.YtfambpdhnicghaaGreatDoor
