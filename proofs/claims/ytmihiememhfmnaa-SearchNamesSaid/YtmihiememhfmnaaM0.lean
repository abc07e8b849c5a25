/- The plain law of lines, no program in sight: when a line may be had, what a row costs. -/
import Derived.Test.YtmihiememhfmnaaPx1
namespace Go.Proofs.Ytmihiememhfmnaa.P
open Go Go.RowKit Go.Proofs.YtmihiememhfmnaaW.PrintWords Go.Proofs.YtmihiememhfmnaaW.PrintLast Go.Proofs.YtmihiememhfmnaaW.PrintMore
set_option linter.unusedVariables false

/-- A gap that may be had. -/
structure Gok (g : S48) : Prop where
  a0 : 0 ≤ g.f0
  a1 : g.f0 ≤ 65536
  b0 : 0 ≤ g.f1
  b1 : g.f1 ≤ 65536
  c0 : 0 ≤ g.f4
  c1 : g.f4 ≤ 1000000
  d0 : 0 ≤ g.f5
  d1 : g.f5 ≤ 256
  m : g.f2 = true → g.f3 = true

theorem badG_iff (g : S48) : badG g = false ↔ Gok g := by
  constructor
  · intro h
    have hs := badG_some g
    rw [h] at hs
    unfold search_bad.f at hs
    repeat' split at hs
    all_goals first
      | (exfalso; simp at hs; done)
      | (refine ⟨by omega, by omega, by omega, by omega, by omega, by omega, by omega, by omega, ?_⟩; simp_all)
  · intro h
    obtain ⟨h1, h2, h3, h4, h5, h6, h7, h8, h9⟩ := h
    have hs := badG_some g
    unfold search_bad.f at hs
    rw [if_neg (by omega), if_neg (by omega), if_neg (by omega), if_neg (by omega), if_neg (by omega), if_neg (by omega), if_neg (by omega), if_neg (by omega)] at hs
    cases hm : g.f2 with
    | false => simp_all
    | true => have := h9 hm; simp_all

/-- A line that may be had, in a style of C columns and the excess X. -/
structure Fit (first : Int) (l : List S48) (C X : Int) : Prop where
  C1 : 1 ≤ C
  C2 : C ≤ 4096
  X0 : 0 ≤ X
  X1 : X ≤ 1000000
  n : l.length ≤ 65536
  f0 : 0 ≤ first
  f1 : first ≤ 65536
  g : ∀ i : Nat, i < l.length → Gok (rd_T48 l i)

/-- What search.check answers. -/
def chk (first : Int) (l : List S48) (C X : Int) : Int :=
  if C < 1 then 90 else if C > 4096 then 90 else if X < 0 then 90 else if X > 1000000 then 90 else if (l.length : Int) > 65536 then 4 else if first < 0 then 2 else if first > 65536 then 2 else if l.any badG = true then 2 else 0

theorem check_chk (a0 : Int) (l1 : List S48) (s : S25) :
    search_check.f a0 l1 s.f0 s.f1 s.f2 s.f3 s.f4 s.f5 s.f6 s.f7 s.f8 s.f9 s.f10 s.f11 s.f12 s.f13 s.f14 s.f15 s.f16 s.f17 = some (chk a0 l1 s.f0 s.f7) := rfl

theorem wrap64_in (n : Int) (h : -9223372036854775808 ≤ n ∧ n ≤ 9223372036854775807) : wrap64 n = n := by unfold wrap64; omega

theorem rd_getElem {l : List S48} {i : Nat} (h : i < l.length) : rd_T48 l (i : Int) = l[i] := by
  simp [rd_T48, List.getD_eq_getElem?_getD, h]

theorem any_bad (l : List S48) : l.any badG = false ↔ ∀ i : Nat, i < l.length → Gok (rd_T48 l i) := by
  constructor
  · intro h i hi
    rw [← badG_iff, rd_getElem hi]
    rw [List.any_eq_false] at h
    simpa using h l[i] (List.getElem_mem hi)
  · intro h
    rw [List.any_eq_false]
    intro x hx
    obtain ⟨i, hi, rfl⟩ := List.getElem_of_mem hx
    have := (badG_iff _).2 (h i hi)
    rw [rd_getElem hi] at this
    simp [this]

theorem chk_zero {first : Int} {l : List S48} {C X : Int} : chk first l C X = 0 ↔ Fit first l C X := by
  unfold chk
  constructor
  · intro h
    repeat' split at h
    all_goals first
      | (exfalso; omega)
      | (exfalso; simp at h; done)
      | exact ⟨by omega, by omega, by omega, by omega, by omega, by omega, by omega, (any_bad l).1 (by simpa using ‹¬ l.any badG = true›)⟩
  · intro h
    obtain ⟨h1, h2, h3, h4, h5, h6, h7, h8⟩ := h
    rw [if_neg (by omega), if_neg (by omega), if_neg (by omega), if_neg (by omega), if_neg (by omega), if_neg (by omega), if_neg (by omega), if_neg (by rw [(any_bad l).2 h8]; simp)]

/-- What a row of so many columns costs. -/
def ovI (C X w : Int) : Int := if w ≤ C then 0 else (w - C) * X

theorem mulX {a A X : Int} (h0 : 0 ≤ a) (h1 : a ≤ A) (h2 : 0 ≤ X) (h3 : X ≤ 1000000) : 0 ≤ a * X ∧ a * X ≤ A * 1000000 :=
  ⟨Int.mul_nonneg h0 h2, Int.mul_le_mul h1 h3 h2 (by omega)⟩

theorem ovI_bound {C X w : Int} (hC : 1 ≤ C) (h2 : 0 ≤ X) (hw : 0 ≤ w) : 0 ≤ ovI C X w ∧ ovI C X w ≤ w * X := by
  unfold ovI
  split
  · exact ⟨Int.le_refl _, Int.mul_nonneg hw h2⟩
  · exact ⟨Int.mul_nonneg (by omega) h2, Int.mul_le_mul_of_nonneg_right (by omega) h2⟩

theorem ovI_mono {C X : Int} (h2 : 0 ≤ X) {v w : Int} (h : v ≤ w) : ovI C X v ≤ ovI C X w := by
  unfold ovI
  split
  · split
    · exact Int.le_refl _
    · exact Int.mul_nonneg (by omega) h2
  · split
    · omega
    · exact Int.mul_le_mul_of_nonneg_right (by omega) h2

theorem ov_eq {C X w : Int} (hC : 1 ≤ C) (hC2 : C ≤ 4096) (h2 : 0 ≤ X) (h3 : X ≤ 1000000) (hw : 0 ≤ w) (hw2 : w ≤ 9000000000) : wrap64 (mx 0 (wrap64 (w - C)) * X) = ovI C X w := by
  have h1 : wrap64 (w - C) = w - C := wrap64_in _ (by omega)
  rw [h1]
  unfold mx ovI
  by_cases h : w ≤ C
  · rw [if_pos h]
    by_cases h' : 0 < w - C
    · omega
    · rw [if_neg h', Int.zero_mul]; exact wrap64_in 0 (by omega)
  · rw [if_neg h, if_pos (by omega)]
    have := mulX (a := w - C) (A := 9000000000) (by omega) (by omega) h2 h3
    exact wrap64_in _ ⟨by omega, by omega⟩

theorem row_eq {C X w : Int} (hC : 1 ≤ C) (hC2 : C ≤ 4096) (h2 : 0 ≤ X) (h3 : X ≤ 1000000) (hw : 0 ≤ w) (hw2 : w ≤ 9000000000) : (if w ≤ C then some 0 else some (wrap64 ((wrap64 (w - C)) * X))) = some (ovI C X w) := by
  unfold ovI
  by_cases h : w ≤ C
  · rw [if_pos h, if_pos h]
  · rw [if_neg h, if_neg h, wrap64_in (w - C) (by omega)]
    have := mulX (a := w - C) (A := 9000000000) (by omega) (by omega) h2 h3
    rw [wrap64_in _ (by omega)]
end Go.Proofs.Ytmihiememhfmnaa.P
