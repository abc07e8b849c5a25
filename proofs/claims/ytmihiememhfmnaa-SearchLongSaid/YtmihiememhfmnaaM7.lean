/- The plain law of lines: the document's reckoning from behind, its inner loop. -/
import Derived.Test.YtmihiememhfmnaaM3
namespace Go.Proofs.Ytmihiememhfmnaa.P
open Go Go.RowKit Go.Proofs.YtmihiememhfmnaaW.PrintWords Go.Proofs.YtmihiememhfmnaaW.PrintLast Go.Proofs.YtmihiememhfmnaaW.PrintMore
set_option linter.unusedVariables false

/-- What the inner loop has told so far (m: the least, below 0: none; t: where), the ends from n - d on still to come. -/
structure LG (first : Int) (l : List S48) (C X : Int) (p d : Nat) (m t : Int) : Prop where
  v : (if m < 0 then V first l C X d p else min m (V first l C X d p)) = V first l C X (l.length - p) p
  n : (if m < 0 ∨ V first l C X d p ≤ m then ((L first l C X d p : Nat) : Int) else t) = ((L first l C X (l.length - p) p : Nat) : Int)
  lo : -1 ≤ m
  hi : m ≤ 40000000000000000

section
variable {first : Int} {l : List S48} {C X : Int}

theorem LG.start (p : Nat) (t : Int) : LG first l C X p (l.length - p) (-1) t :=
  ⟨by rw [if_pos (by omega)], by rw [if_pos (by omega)], by omega, by omega⟩

/-- What an end costs, and all behind it. -/
def ccV (first : Int) (l : List S48) (C X : Int) (p a : Nat) : Int := rw_ first l C X p a + (rd_T48 l (a : Int)).f4 + V first l C X (l.length - (a + 1)) (a + 1)

theorem cc_bound (h : Fit first l C X) {p a : Nat} (hp : p ≤ a) (ha : a < l.length) : 0 ≤ rw_ first l C X p a ∧ rw_ first l C X p a ≤ 9000000000000000 ∧ 0 ≤ ccV first l C X p a ∧ ccV first l C X p a ≤ 40000000000000000 := by
  have hr := rw_le h (p := p) (a := a) hp (by omega)
  have hg := h.g a ha
  have := hg.c0; have := hg.c1
  have hv := V_small h (l.length - (a + 1)) (a + 1) (by omega) (by omega)
  have hW := Wp_le h p (by omega)
  have hE := Ep_le h a (by omega)
  have hE2 := mulX (A := 8589934592) hE.1 (by have := h.n; omega) h.X0 h.X1
  have hP := Ep_le h p (by omega)
  have hP2 := Int.mul_nonneg hP.1 h.X0
  have hW2 := mulX hW.1 hW.2 h.X0 h.X1
  unfold ccV
  exact ⟨by omega, by omega, by omega, by omega⟩

theorem LG.last (h : Fit first l C X) {p : Nat} {m t : Int} (hp : p ≤ l.length) (hg : LG first l C X p 0 m t) :
    (m < 0 ∨ rw_ first l C X p l.length ≤ m → V first l C X (l.length - p) p = rw_ first l C X p l.length ∧ ((L first l C X (l.length - p) p : Nat) : Int) = (l.length : Int)) ∧
    (¬ (m < 0 ∨ rw_ first l C X p l.length ≤ m) → V first l C X (l.length - p) p = m ∧ ((L first l C X (l.length - p) p : Nat) : Int) = t) := by
  have h1 := hg.v
  have h2 := hg.n
  have e : V first l C X 0 p = rw_ first l C X p l.length := rfl
  have e2 : L first l C X 0 p = l.length := rfl
  rw [e] at h1 h2
  rw [e2] at h2
  constructor
  · intro hc
    rw [if_pos hc] at h2
    refine ⟨?_, h2.symm⟩
    split at h1 <;> omega
  · intro hc
    rw [if_neg hc] at h2
    refine ⟨?_, h2.symm⟩
    split at h1 <;> omega

theorem V_step {d p a : Nat} (ha : l.length - (d + 1) = a) (hd : l.length - (a + 1) = d) :
    V first l C X (d + 1) p = if (rd_T48 l (a : Int)).f2 = true then ccV first l C X p a else if (rd_T48 l (a : Int)).f3 = true then min (ccV first l C X p a) (V first l C X d p) else V first l C X d p := by
  simp only [V, ha, ccV, hd]

theorem L_step {d p a : Nat} (ha : l.length - (d + 1) = a) (hd : l.length - (a + 1) = d) :
    L first l C X (d + 1) p = if (rd_T48 l (a : Int)).f2 = true then a else if (rd_T48 l (a : Int)).f3 = true ∧ ccV first l C X p a < V first l C X d p then a else L first l C X d p := by
  simp only [L, ha, ccV, hd]

/-- An end that the row must have. -/
theorem LG.must {p a d : Nat} {m t : Int} (hg : LG first l C X p (d + 1) m t) (ha : l.length - (d + 1) = a) (hd : l.length - (a + 1) = d) (h2 : (rd_T48 l (a : Int)).f2 = true) :
    (m < 0 ∨ ccV first l C X p a ≤ m → V first l C X (l.length - p) p = ccV first l C X p a ∧ ((L first l C X (l.length - p) p : Nat) : Int) = (a : Int)) ∧
    (¬ (m < 0 ∨ ccV first l C X p a ≤ m) → V first l C X (l.length - p) p = m ∧ ((L first l C X (l.length - p) p : Nat) : Int) = t) := by
  have h1 := hg.v
  have h3 := hg.n
  rw [V_step ha hd, if_pos h2] at h1 h3
  rw [L_step ha hd, if_pos h2] at h3
  constructor
  · intro hc
    rw [if_pos hc] at h3
    refine ⟨?_, h3.symm⟩
    split at h1 <;> omega
  · intro hc
    rw [if_neg hc] at h3
    refine ⟨?_, h3.symm⟩
    split at h1 <;> omega

/-- An end that the row may have, and that is no dearer. -/
theorem LG.take (h : Fit first l C X) {p a d : Nat} {m t : Int} (hg : LG first l C X p (d + 1) m t) (hp : p ≤ a) (ha : l.length - (d + 1) = a) (hd : l.length - (a + 1) = d) (hal : a < l.length) (h2 : (rd_T48 l (a : Int)).f2 = false) (h3 : (rd_T48 l (a : Int)).f3 = true)
    (hc : m < 0 ∨ ccV first l C X p a ≤ m) : LG first l C X p d (ccV first l C X p a) (a : Int) := by
  have h1 := hg.v
  have h4 := hg.n
  have hb := cc_bound h hp hal
  have hv := V_small h d p (by omega) (by omega)
  have hvp := V_small h (l.length - p) p (by omega) (by omega)
  have hhi := hg.hi
  have eV : V first l C X (d + 1) p = min (ccV first l C X p a) (V first l C X d p) := by rw [V_step ha hd, if_neg (by simp [h2]), if_pos h3]
  have eL : L first l C X (d + 1) p = if (rd_T48 l (a : Int)).f3 = true ∧ ccV first l C X p a < V first l C X d p then a else L first l C X d p := by rw [L_step ha hd, if_neg (by simp [h2])]
  rw [eV] at h1 h4
  rw [eL, if_pos (by omega)] at h4
  refine ⟨?_, ?_, by omega, ?_⟩
  · rw [if_neg (by omega)]
    split at h1 <;> omega
  · rw [← h4]
    by_cases hx : ccV first l C X p a < V first l C X d p
    · rw [if_neg (by omega), if_pos ⟨h3, hx⟩]
    · rw [if_pos (by omega), if_neg (fun hh => hx hh.2)]
  · omega

/-- An end that the row may not have, or that is dearer. -/
theorem LG.skip (h : Fit first l C X) {p a d : Nat} {m t : Int} (hg : LG first l C X p (d + 1) m t) (hp : p ≤ a) (ha : l.length - (d + 1) = a) (hd : l.length - (a + 1) = d) (hal : a < l.length) (h2 : (rd_T48 l (a : Int)).f2 = false)
    (hc : (rd_T48 l (a : Int)).f3 = true → ¬ (m < 0 ∨ ccV first l C X p a ≤ m)) : LG first l C X p d m t := by
  have h1 := hg.v
  have h4 := hg.n
  have hb := cc_bound h hp hal
  have eV : V first l C X (d + 1) p = if (rd_T48 l (a : Int)).f3 = true then min (ccV first l C X p a) (V first l C X d p) else V first l C X d p := by rw [V_step ha hd, if_neg (by simp [h2])]
  have eL : L first l C X (d + 1) p = if (rd_T48 l (a : Int)).f3 = true ∧ ccV first l C X p a < V first l C X d p then a else L first l C X d p := by rw [L_step ha hd, if_neg (by simp [h2])]
  rw [eV] at h1 h4
  rw [eL] at h4
  refine ⟨?_, ?_, hg.lo, hg.hi⟩
  · rw [← h1]
    by_cases h3 : (rd_T48 l (a : Int)).f3 = true
    · have := hc h3
      rw [if_pos h3, if_neg (by omega), if_neg (by omega)]
      omega
    · rw [if_neg h3]
  · rw [← h4]
    by_cases h3 : (rd_T48 l (a : Int)).f3 = true
    · have := hc h3
      rw [if_pos h3]
      by_cases hx : V first l C X d p ≤ m
      · rw [if_pos (by omega), if_pos (by omega), if_neg (fun hh => by have := hh.2; omega)]
      · rw [if_neg (by omega), if_neg (by omega)]
    · rw [if_neg h3, if_neg (fun hh : _ ∧ _ => h3 hh.1)]
end
end Go.Proofs.Ytmihiememhfmnaa.P
