/- impl.tagsBytes. -/
import Derived.Test.YtknhfogblfogaaaNum
namespace Go.Proofs.Ytknhfogblfogaaa
open Go.RowKit
theorem IntSS.lit4 {w : World} {a b c d : Value} {xs ys zs us : List Int} (ha : IntS w a xs) (hb : IntS w b ys) (hc : IntS w c zs) (hd : IntS w d us) :
    IntSS (w.alloc (.cells #[a, b, c, d] 22)) (.slice (some ⟨w.heap.size, 0, none⟩) 4 4) [xs, ys, zs, us] := by
  refine ⟨[a, b, c, d], (Own.lit (B := w.heap.size) w #[a, b, c, d] 4 (Nat.le_refl _) (by decide) rfl).row, fun k hk => ?_⟩
  have hg : Gr w (w.alloc (.cells #[a, b, c, d] 22)) := (Gr.refl w).alloc _
  match k, hk with
  | 0, _ => exact ha.kept hg
  | 1, _ => exact hb.kept hg
  | 2, _ => exact hc.kept hg
  | 3, _ => exact hd.kept hg
theorem IntSS.lit4' {w : World} {a b c d : Value} {xs ys zs us : List Int} (ha : IntS w a xs) (hb : IntS w b ys) (hc : IntS w c zs) (hd : IntS w d us) {n : Nat} (hn : n = w.heap.size) :
    IntSS (w.alloc (.cells #[a, b, c, d] 22)) (.slice (some ⟨n, 0, none⟩) 4 4) [xs, ys, zs, us] := by subst hn; exact IntSS.lit4 ha hb hc hd
theorem Gr.undrew {a b : World} (h : Gr a.drew b) : Gr a b := ⟨h.os, h.tape, h.output, h.size, h.block⟩
end Go.Proofs.Ytknhfogblfogaaa
