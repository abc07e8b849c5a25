/- The plain law of lines: with more columns or a lesser excess nothing costs more. -/
import Derived.Test.YtmihiememhfmnaaM2
namespace Go.Proofs.Ytmihiememhfmnaa.P
open Go Go.RowKit Go.Proofs.YtmihiememhfmnaaW.PrintWords Go.Proofs.YtmihiememhfmnaaW.PrintLast Go.Proofs.YtmihiememhfmnaaW.PrintMore
set_option linter.unusedVariables false

theorem V_mono {first : Int} {l : List S48} {C X C' X' : Int} (h : ∀ w, ovI C' X' w ≤ ovI C X w) : ∀ (d p : Nat), V first l C' X' d p ≤ V first l C X d p
  | 0, p => h _
  | d + 1, p => by
    have h1 := V_mono (first := first) (l := l) h d p
    have h2 := V_mono (first := first) (l := l) h d (l.length - (d + 1) + 1)
    have h3 := h (Wp first l p + Ep l (l.length - (d + 1)) - Ep l p)
    simp only [V, rw_]
    split
    · omega
    · split
      · omega
      · exact h1

theorem ovI_wider {C X m : Int} (hX : 0 ≤ X) (hm : 0 ≤ m) (w : Int) : ovI (C + m) X w ≤ ovI C X w := by
  unfold ovI
  split
  · split
    · exact Int.le_refl _
    · exact Int.mul_nonneg (by omega) hX
  · rw [if_neg (by omega)]
    exact Int.mul_le_mul_of_nonneg_right (by omega) hX

theorem ovI_dearer {C X m : Int} (hm : 0 ≤ m) (w : Int) : ovI C X w ≤ ovI C (X + m) w := by
  unfold ovI
  split
  · exact Int.le_refl _
  · exact Int.mul_le_mul_of_nonneg_left (by omega) (by omega)
end Go.Proofs.Ytmihiememhfmnaa.P
