/- The plain law of SearchCosts. -/
import Derived.Test.YtmihiememhfmnaaM1
import Derived.Test.YtmihiememhfmnaaF3
namespace Go.Proofs.Ytmihiememhfmnaa.P
open Go Go.RowKit Go.Proofs.YtmihiememhfmnaaW.PrintWords Go.Proofs.YtmihiememhfmnaaW.PrintLast Go.Proofs.YtmihiememhfmnaaW.PrintMore
set_option linter.unusedVariables false

theorem law_costs (a0 : Int) (l1 : List S48) (l2 : List Bool) (s : S25) (hl : l2.length ≤ 140737488351232) (k : Nat) (hk : 2 * (l1.length + l2.length) + 3 ≤ k) :
    regletlaw14_SearchCosts.f k a0 l1 l2 s.f0 s.f1 s.f2 s.f3 s.f4 s.f5 s.f6 s.f7 s.f8 s.f9 s.f10 s.f11 s.f12 s.f13 s.f14 s.f15 s.f16 s.f17 = some true := by
  unfold regletlaw14_SearchCosts.f
  simp only [Option.bind_some, List.length_nil, List.nil_append]
  rw [if_pos (by omega), cost_f a0 l1 l2 s k (by omega), refcheck_f a0 l1 s k (by omega)]
  simp only [Option.bind_some]
  unfold costV
  by_cases h0 : chk a0 l1 s.f0 s.f7 = 0
  · rw [if_pos h0, if_pos h0, refcost_f a0 l1 l2 s k (by omega) (chk_zero.1 h0), same_f l2 l2 (by omega) k (by omega)]
    by_cases hw : l2.length = l1.length
    · rw [if_pos hw, if_pos hw]
      cases hc : walkC s.f0 s.f7 l1 l2 l1.length 0 a0 0 <;> simp [asCost, asRef]
    · rw [if_neg hw, if_neg hw]
      simp
  · rw [if_neg h0, if_neg h0]
    simp
end Go.Proofs.Ytmihiememhfmnaa.P
