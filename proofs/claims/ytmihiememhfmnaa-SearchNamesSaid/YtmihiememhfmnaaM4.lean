/- The plain law of lines: what search.Best answers, and the chapter's second example. -/
import Derived.Test.YtmihiememhfmnaaM3
import Derived.Test.YtmihiememhfmnaaF14
import Derived.Test.YtmihiememhfmnaaF18
namespace Go.Proofs.Ytmihiememhfmnaa.P
open Go Go.RowKit Go.Proofs.YtmihiememhfmnaaW.PrintWords Go.Proofs.YtmihiememhfmnaaW.PrintLast Go.Proofs.YtmihiememhfmnaaW.PrintMore
set_option linter.unusedVariables false

/-- What search.Best answers. -/
def bestV (first : Int) (l : List S48) (C X : Int) : List Bool × Int × Int :=
  if chk first l C X = 0 then (tk first l C X l.length 0, V first l C X l.length 0, 0) else ([], 0, chk first l C X)

theorem best_f (first : Int) (l : List S48) (s : S25) :
    search_Best.f first l s.f0 s.f1 s.f2 s.f3 s.f4 s.f5 s.f6 s.f7 s.f8 s.f9 s.f10 s.f11 s.f12 s.f13 s.f14 s.f15 s.f16 s.f17 = some (bestV first l s.f0 s.f7) := by
  unfold search_Best.f bestV
  rw [check_chk, Option.bind_some]
  by_cases h0 : chk first l s.f0 s.f7 = 0
  · have h := chk_zero.1 h0
    rw [if_pos h0, if_pos h0]
    have e1 := wayF_eq (st := s) h
    have e2 := bsF_eq (st := s) h 0 (Nat.zero_le _)
    have e : (⟨s.f0, s.f1, s.f2, s.f3, s.f4, s.f5, s.f6, s.f7, s.f8, s.f9, s.f10, s.f11, s.f12, s.f13, s.f14, s.f15, s.f16, s.f17⟩ : S25) = s := rfl
    rw [e, e1, e2, Nat.sub_zero]
  · rw [if_neg h0, if_neg h0]

theorem best_f' (first : Int) (l : List S48) (a2_0 a2_1 a2_2 a2_3 : Int) (a2_4 a2_5 a2_6 : Bool) (a2_7 a2_8 a2_9 a2_10 a2_11 a2_12 a2_13 a2_14 a2_15 a2_16 a2_17 : Int) :
    search_Best.f first l a2_0 a2_1 a2_2 a2_3 a2_4 a2_5 a2_6 a2_7 a2_8 a2_9 a2_10 a2_11 a2_12 a2_13 a2_14 a2_15 a2_16 a2_17 = some (bestV first l a2_0 a2_7) :=
  best_f first l ⟨a2_0, a2_1, a2_2, a2_3, a2_4, a2_5, a2_6, a2_7, a2_8, a2_9, a2_10, a2_11, a2_12, a2_13, a2_14, a2_15, a2_16, a2_17⟩

theorem are_l0 {a b : List Bool} (hab : a.length = b.length) (hm : a.length ≤ 9223372036854775807) : ∀ (d i k : Nat), i + d = a.length → d + 1 ≤ k →
    regletlaw14_are.l0 k b a (i : Int) = some (decide (a.drop i = b.drop i)) := by
  intro d
  induction d with
  | zero =>
    intro i k hi hk
    obtain ⟨k, rfl⟩ : ∃ k', k = k' + 1 := ⟨k - 1, by omega⟩
    rw [regletlaw14_are.l0, if_neg (by omega), List.drop_eq_nil_of_le (by omega), List.drop_eq_nil_of_le (by omega)]
    rfl
  | succ d ih =>
    intro i k hi hk
    obtain ⟨k, rfl⟩ : ∃ k', k = k' + 1 := ⟨k - 1, by omega⟩
    have q1 : (i : Int) < (a.length : Int) := by omega
    have q2 : (0 : Int) ≤ (i : Int) := by omega
    have q3 : (i : Int) < (b.length : Int) := by omega
    have x4 : wrap64 ((i : Int) + 1) = ((i + 1 : Nat) : Int) := by rw [wrap64_in _ ⟨by omega, by omega⟩]; omega
    have hn := ih (i + 1) k (by omega) (by omega)
    rw [regletlaw14_are.l0]
    simp only [if_pos q1, if_pos q2, if_pos q3]
    rw [x4, hn, List.drop_eq_getElem_cons (show i < a.length by omega), List.drop_eq_getElem_cons (show i < b.length by omega)]
    rw [rdOf_nat, rdOf_nat, List.getD_eq_getElem?_getD, List.getD_eq_getElem?_getD, List.getElem?_eq_getElem (show i < a.length by omega), List.getElem?_eq_getElem (show i < b.length by omega)]
    simp only [Option.getD_some, List.cons.injEq]
    by_cases h : a[i] = b[i] <;> simp [h]

theorem are_f (l : List S48) (want : List Bool) (cost : Int) (k : Nat) (hk : want.length + 2 ≤ k) (hm : want.length ≤ 1000) :
    regletlaw14_are.f k l want cost = some (decide (bestV 4 l 10 100 = (want, cost, 0))) := by
  obtain ⟨k, rfl⟩ : ∃ k', k = k' + 1 := ⟨k - 1, by omega⟩
  unfold regletlaw14_are.f regletlaw14_ten.f
  rw [Option.bind_some, best_f', Option.bind_some]
  generalize bestV 4 l 10 100 = b
  obtain ⟨b1, b2, b3⟩ := b
  simp only [regletlaw14_are.j0]
  by_cases h3 : b3 = 0
  · rw [if_pos h3]
    by_cases h2 : b2 = cost
    · rw [if_pos h2]
      by_cases h1 : b1.length = want.length
      · rw [if_neg (by simp [h1])]
        have := are_l0 h1 (by omega) b1.length 0 k (by omega) (by omega)
        simp only [List.drop_zero, Int.ofNat_zero] at this
        rw [this]
        subst h2 h3
        simp
      · rw [if_pos (by simp; omega)]
        have : b1 ≠ want := fun e => h1 (by rw [e])
        simp [this]
    · rw [if_neg h2]
      simp [h2]
  · rw [if_neg h3]
    simp [h3]

theorem alive_f (k : Nat) (hk : 4 ≤ k) : regletlaw14_alive.f k = some true := by
  unfold regletlaw14_alive.f regletlaw14_gap.f
  simp only [Option.bind_some]
  rw [are_f _ _ _ k (by simpa using hk) (by simp)]
  rfl
end Go.Proofs.Ytmihiememhfmnaa.P
