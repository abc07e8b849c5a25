/- A style's cells within a block. -/
import Derived.Test.YtmihiememhfmnaaH31
namespace Go.Proofs.Ytmihiememhfmnaa.P
open Go Go.RowKit Go.Proofs.YtmihiememhfmnaaW.PrintWords Go.Proofs.YtmihiememhfmnaaW.PrintLast Go.Proofs.YtmihiememhfmnaaW.PrintMore

theorem sty_of_blk {w : World} {g : Nat} {cs : Array Value} {t : TypeId} {st : S25} (o : Nat) (h : w.heap[g]? = some (.cells cs t (0, 0))) (hc : (cs.toList.drop o).take 18 = styL st) : StyAt w g o st := by
  intro j v hj
  refine (blk_cell h (o + j)).trans ?_
  rw [← hc] at hj
  rw [List.getElem?_take] at hj
  split at hj
  · rw [List.getElem?_drop] at hj
    simpa using hj
  · cases hj
end Go.Proofs.Ytmihiememhfmnaa.P
