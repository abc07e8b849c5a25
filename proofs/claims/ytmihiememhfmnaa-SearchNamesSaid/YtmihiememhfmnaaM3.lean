/- The program's tables are V and L, its way is tk. -/
import Derived.Test.YtmihiememhfmnaaM2
import Derived.Test.YtmihiememhfmnaaH14
namespace Go.Proofs.Ytmihiememhfmnaa.P
open Go Go.RowKit Go.Proofs.YtmihiememhfmnaaW.PrintWords Go.Proofs.YtmihiememhfmnaaW.PrintLast Go.Proofs.YtmihiememhfmnaaW.PrintMore
set_option linter.unusedVariables false

section
variable {first : Int} {l : List S48} {C X : Int}

theorem Ep_mono (h : Fit first l C X) : ∀ (j i : Nat), i ≤ j → j ≤ l.length → Ep l i ≤ Ep l j
  | 0, i, hi, _ => by obtain rfl : i = 0 := by omega
                      exact Int.le_refl _
  | j + 1, i, hi, hj => by
    by_cases e : i = j + 1
    · rw [e]; exact Int.le_refl _
    · have ih := Ep_mono h j i (by omega) (by omega)
      have hg := h.g j (by omega)
      have := hg.a0; have := hg.b0
      simp only [Ep]
      omega

theorem Ep_le (h : Fit first l C X) : ∀ (j : Nat), j ≤ l.length → 0 ≤ Ep l j ∧ Ep l j ≤ 131072 * (j : Int)
  | 0, _ => by simp [Ep]
  | j + 1, hj => by
    have ih := Ep_le h j (by omega)
    have hg := h.g j (by omega)
    have := hg.a0; have := hg.b0; have := hg.a1; have := hg.b1
    simp only [Ep]
    omega

theorem Wp_le (h : Fit first l C X) (p : Nat) (hp : p ≤ l.length) : 0 ≤ Wp first l p ∧ Wp first l p ≤ 65792 := by
  unfold Wp
  split
  · have := h.f0; have := h.f1; omega
  · have hg := h.g (p - 1) (by omega)
    have := hg.a0; have := hg.a1; have := hg.d0; have := hg.d1
    omega

theorem rw_le (h : Fit first l C X) {p a : Nat} (hp : p ≤ a) (ha : a ≤ l.length) :
    0 ≤ Wp first l p + Ep l a - Ep l p ∧ Wp first l p + Ep l a - Ep l p ≤ 9000000000 ∧ 0 ≤ rw_ first l C X p a ∧ rw_ first l C X p a ≤ Wp first l p * X + Ep l a * X - Ep l p * X := by
  have h1 := Wp_le h p (by omega)
  have h2 := Ep_mono h a p hp ha
  have h3 := Ep_le h a ha
  have h4 := Ep_le h p (by omega)
  have hn := h.n
  have h5 := ovI_bound (C := C) (X := X) (w := Wp first l p + Ep l a - Ep l p) h.C1 h.X0 (by omega)
  have e : (Wp first l p + Ep l a - Ep l p) * X = Wp first l p * X + Ep l a * X - Ep l p * X := by rw [Int.sub_mul, Int.add_mul]
  unfold rw_
  rw [e] at h5
  exact ⟨by omega, by omega, h5.1, h5.2⟩

theorem V_le (h : Fit first l C X) : ∀ (d p : Nat), d ≤ l.length → p ≤ l.length - d →
    0 ≤ V first l C X d p ∧ V first l C X d p ≤ Wp first l p * X + Ep l l.length * X - Ep l p * X + (d : Int) * 65793000000
  | 0, p, _, hp => by
    have := rw_le h (p := p) (a := l.length) (by omega) (Nat.le_refl _)
    simp only [V]
    exact ⟨this.2.2.1, by omega⟩
  | d + 1, p, hd, hp => by
    have ih1 := V_le h d p (by omega) (by omega)
    have ih2 := V_le h d (l.length - (d + 1) + 1) (by omega) (by omega)
    generalize ha : l.length - (d + 1) = a at *
    have hr := rw_le h (p := p) (a := a) (by omega) (by omega)
    have hg := h.g a (by omega)
    have := hg.c0; have := hg.c1
    have hm := Ep_mono h (a + 1) a (by omega) (by omega)
    have hm2 := Int.mul_le_mul_of_nonneg_right hm h.X0
    have hw := Wp_le h (a + 1) (by omega)
    have hw2 := mulX hw.1 hw.2 h.X0 h.X1
    simp only [V, ha]
    have hc : 0 ≤ rw_ first l C X p a + (rd_T48 l a).f4 + V first l C X d (a + 1) ∧ rw_ first l C X p a + (rd_T48 l a).f4 + V first l C X d (a + 1) ≤ Wp first l p * X + Ep l l.length * X - Ep l p * X + ((d + 1 : Nat) : Int) * 65793000000 := by
      constructor
      · omega
      · omega
    split
    · exact hc
    · split
      · omega
      · omega

theorem V_small (h : Fit first l C X) (d p : Nat) (hd : d ≤ l.length) (hp : p ≤ l.length - d) : 0 ≤ V first l C X d p ∧ V first l C X d p ≤ 20000000000000000 := by
  have h1 := V_le h d p hd hp
  have hw := Wp_le h p (by omega)
  have hw2 := mulX hw.1 hw.2 h.X0 h.X1
  have he := Ep_le h l.length (Nat.le_refl _)
  have hn := h.n
  have he2 := mulX (A := 8589934592) he.1 (by omega) h.X0 h.X1
  have hp2 := Ep_le h p (by omega)
  have hp3 := Int.mul_nonneg hp2.1 h.X0
  exact ⟨h1.1, by omega⟩

/-- No row is cheaper than its inner part, so nothing beyond a bound is the least. -/
theorem V_ge (h : Fit first l C X) : ∀ (d p : Nat), d ≤ l.length → p ≤ l.length - d → ovI C X (Ep l (l.length - d) - Ep l p) ≤ V first l C X d p
  | 0, p, _, hp => by
    simp only [V, rw_]
    have := Wp_le h p (by omega)
    exact ovI_mono h.X0 (by simp; omega)
  | d + 1, p, hd, hp => by
    have ih1 := V_ge h d p (by omega) (by omega)
    have ih2 := (V_le h d (l.length - (d + 1) + 1) (by omega) (by omega)).1
    have hm := Ep_mono h (l.length - d) (l.length - (d + 1)) (by omega) (by omega)
    have hom := ovI_mono (C := C) (X := X) h.X0 (v := Ep l (l.length - (d + 1)) - Ep l p) (w := Ep l (l.length - d) - Ep l p) (by omega)
    generalize ha : l.length - (d + 1) = a at *
    have hw := Wp_le h p (by omega)
    have hg := h.g a (by omega)
    have := hg.c0
    have hor : ovI C X (Ep l a - Ep l p) ≤ rw_ first l C X p a := ovI_mono h.X0 (by omega)
    simp only [V, ha]
    split
    · omega
    · split
      · omega
      · omega

variable {st : S25} {es bs : Nat → Int}

theorem wOf_eq (h : Fit first l C X) (p : Nat) (hp : p ≤ l.length) : wOf first l p = Wp first l p := by
  unfold wOf Wp
  split
  · rfl
  · have hg := h.g (p - 1) (by omega)
    have := hg.a0; have := hg.a1; have := hg.d0; have := hg.d1
    rw [show ((p : Int) - 1) = ((p - 1 : Nat) : Int) from by omega]
    exact wrap64_in _ ⟨by omega, by omega⟩

theorem ov_st (h : Fit first l st.f0 st.f7) {x : Int} (h0 : 0 ≤ x) (h1 : x ≤ 9000000000) : ov st x = ovI st.f0 st.f7 x := ov_eq h.C1 h.C2 h.X0 h.X1 h0 h1

theorem wide_eq (h : Fit first l C X) (he : ∀ i, i ≤ l.length → es i = Ep l i) {p a : Nat} (hp : p ≤ a) (ha : a ≤ l.length) : wideA es p a = Ep l a - Ep l p := by
  unfold wideA
  rw [he a ha, he p (by omega)]
  have h2 := Ep_mono h a p hp ha
  have h3 := Ep_le h a ha
  have h4 := Ep_le h p (by omega)
  have := h.n
  exact wrap64_in _ ⟨by omega, by omega⟩

theorem cst_eq (h : Fit first l st.f0 st.f7) (he : ∀ i, i ≤ l.length → es i = Ep l i) {p a : Nat} (hp : p ≤ a) (ha : a < l.length) (hb : bs (a + 1) = V first l st.f0 st.f7 (l.length - (a + 1)) (a + 1)) :
    cst first l st es bs p a = rw_ first l st.f0 st.f7 p a + (rd_T48 l a).f4 + V first l st.f0 st.f7 (l.length - (a + 1)) (a + 1) := by
  unfold cst
  rw [wOf_eq h p (by omega), wide_eq h he hp (by omega), hb]
  have hr := rw_le h (p := p) (a := a) hp (by omega)
  have hg := h.g a ha
  have := hg.c0; have := hg.c1
  have hv := V_small h (l.length - (a + 1)) (a + 1) (by omega) (by omega)
  have hW := Wp_le h p (by omega)
  have e1 : wrap64 (Wp first l p + (Ep l a - Ep l p)) = Wp first l p + Ep l a - Ep l p := by rw [wrap64_in _ ⟨by omega, by omega⟩]; omega
  have hE := Ep_le h a (by omega)
  have hE2 := mulX (A := 8589934592) hE.1 (by have := h.n; omega) h.X0 h.X1
  have hP := Ep_le h p (by omega)
  have hP2 := Int.mul_nonneg hP.1 h.X0
  have hW2 := mulX hW.1 hW.2 h.X0 h.X1
  rw [e1, ov_st h hr.1 hr.2.1]
  show wrap64 (wrap64 (rw_ first l st.f0 st.f7 p a + _) + _) = _
  rw [wrap64_in (rw_ first l st.f0 st.f7 p a + (rd_T48 l a).f4) ⟨by omega, by omega⟩, wrap64_in _ ⟨by omega, by omega⟩]

theorem lst_eq (h : Fit first l st.f0 st.f7) (he : ∀ i, i ≤ l.length → es i = Ep l i) {p : Nat} (hp : p ≤ l.length) : lst first l st es p = V first l st.f0 st.f7 0 p := by
  unfold lst
  rw [wOf_eq h p hp, he _ (Nat.le_refl _), he p hp]
  have hr := rw_le h (p := p) (a := l.length) hp (Nat.le_refl _)
  have hW := Wp_le h p hp
  have hE := Ep_le h l.length (Nat.le_refl _)
  have hn := h.n
  rw [wrap64_in (Wp first l p + Ep l l.length) ⟨by omega, by omega⟩, wrap64_in _ ⟨by omega, by omega⟩, ov_st h hr.1 hr.2.1]
  rfl

theorem least_run (h : Fit first l st.f0 st.f7) (he : ∀ i, i ≤ l.length → es i = Ep l i) (p : Nat) (hb : ∀ i, p < i → i ≤ l.length → bs i = V first l st.f0 st.f7 (l.length - i) i) :
    ∀ (d a : Nat) (s : Int), a + d = l.length → p ≤ a → -1 ≤ s → run first l st es bs p id stepL d a s = if s < 0 then V first l st.f0 st.f7 d p else min s (V first l st.f0 st.f7 d p) := by
  intro d
  induction d with
  | zero =>
    intro a s ha hpa hs
    have hv := V_small h 0 p (by omega) (by omega)
    simp only [run, stepL, lst_eq h he (p := p) (by omega)]
    split
    · omega
    · split
      · rfl
      · split <;> omega
  | succ d ih =>
    intro a s ha hpa hs
    have ha' : l.length - (d + 1) = a := by omega
    have hd' : l.length - (a + 1) = d := by omega
    have hg := h.g a (by omega)
    have hv := V_small h d p (by omega) (by omega)
    have hv2 := V_small h (d + 1) p (by omega) (by omega)
    have hge := V_ge h (d + 1) p (by omega) (by omega)
    have hr := rw_le h (p := p) (a := a) hpa (by omega)
    have hW := Wp_le h p (by omega)
    have hmo := Ep_mono h a p hpa (by omega)
    have hc := cst_eq h he (p := p) (a := a) hpa (by omega) (hb (a + 1) (by omega) (by omega))
    have hva := V_small h d (a + 1) (by omega) (by omega)
    have hc0 := hg.c0
    rw [hd'] at hc
    simp only [run, wide_eq h he hpa (show a ≤ l.length by omega), ov_st h (x := Ep l a - Ep l p) (by omega) (by omega), hc, id]
    rw [ha'] at hge
    by_cases hcut : 0 ≤ s ∧ s < ovI st.f0 st.f7 (Ep l a - Ep l p)
    · rw [if_pos hcut, if_neg (by omega)]
      omega
    · rw [if_neg hcut]
      generalize hcc : rw_ first l st.f0 st.f7 p a + (rd_T48 l (a : Int)).f4 + V first l st.f0 st.f7 d (a + 1) = cc
      have hV : V first l st.f0 st.f7 (d + 1) p = if (rd_T48 l (a : Int)).f2 = true then cc else if (rd_T48 l (a : Int)).f3 = true then min cc (V first l st.f0 st.f7 d p) else V first l st.f0 st.f7 d p := by
        simp only [V, ha', hcc]
      have hcc0 : 0 ≤ cc := by omega
      rw [hV]
      have hst : stepL s ((a : Int), cc) = if s < 0 then cc else min s cc := by
        simp only [stepL]
        split
        · omega
        · split
          · rfl
          · split <;> omega
      by_cases h2 : (rd_T48 l (a : Int)).f2 = true
      · rw [if_pos (hg.m h2), if_pos h2, if_pos h2, hst]
      · rw [if_neg h2, if_neg h2]
        by_cases h3 : (rd_T48 l (a : Int)).f3 = true
        · rw [if_pos h3, if_pos h3, hst, ih (a + 1) _ (by omega) (by omega) (by split <;> omega)]
          split
          · rw [if_neg (by omega)]
          · rw [if_neg (by omega)]
            omega
        · rw [if_neg h3, if_neg h3, if_neg h2, ih (a + 1) s (by omega) (by omega) hs]

theorem V_le_last (d p : Nat) (hd : d ≤ l.length) (hn : ∀ i, l.length - d ≤ i → i < l.length → (rd_T48 l i).f2 = false) : V first l C X d p ≤ V first l C X 0 p := by
  induction d with
  | zero => exact Int.le_refl _
  | succ d ih =>
    have := ih (by omega) (fun i h1 h2 => hn i (by omega) h2)
    have h2 := hn (l.length - (d + 1)) (by omega) (by omega)
    show (if (rd_T48 l ((l.length - (d + 1) : Nat) : Int)).f2 = true then _ else _) ≤ _
    rw [if_neg (by rw [h2]; simp)]
    split
    · exact Int.le_trans (Int.min_le_right _ _) this
    · exact this

theorem leastF_eq (h : Fit first l st.f0 st.f7) (he : ∀ i, i ≤ l.length → es i = Ep l i) (p m : Nat) (hp : p ≤ l.length) (hb : ∀ i, p < i → i ≤ l.length → bs i = V first l st.f0 st.f7 (l.length - i) i)
    (hm : m = l.length → ∀ i, p ≤ i → i < l.length → (rd_T48 l i).f2 = false) : leastF first l st es bs p m = V first l st.f0 st.f7 (l.length - p) p := by
  unfold leastF startL
  have hv := V_small h 0 p (by omega) (by omega)
  by_cases hmn : m = l.length
  · rw [if_pos hmn, lst_eq h he hp, least_run h he p hb (l.length - p) p _ (by omega) (Nat.le_refl _) (by omega), if_neg (by omega)]
    have := V_le_last (first := first) (l := l) (C := st.f0) (X := st.f7) (l.length - p) p (by omega) (fun i h1 h2 => hm hmn i (by omega) h2)
    omega
  · rw [if_neg hmn, least_run h he p hb (l.length - p) p _ (by omega) (Nat.le_refl _) (by omega), if_pos (by omega)]

theorem next_run (h : Fit first l st.f0 st.f7) (he : ∀ i, i ≤ l.length → es i = Ep l i) (p : Nat) (hb : ∀ i, p < i → i ≤ l.length → bs i = V first l st.f0 st.f7 (l.length - i) i) (B : Int) (hB : bs p = B) (hB0 : 0 ≤ B) :
    ∀ (d a : Nat) (s : Int), a + d = l.length → p ≤ a → B ≤ V first l st.f0 st.f7 d p → run first l st es bs p (fun _ => bs p) (stepN bs p) d a s = if V first l st.f0 st.f7 d p = B then ((L first l st.f0 st.f7 d p : Nat) : Int) else s := by
  intro d
  induction d with
  | zero =>
    intro a s ha hpa hs
    simp only [run, stepN, lst_eq h he (p := p) (by omega), hB, L]
  | succ d ih =>
    intro a s ha hpa hs
    have ha' : l.length - (d + 1) = a := by omega
    have hd' : l.length - (a + 1) = d := by omega
    have hg := h.g a (by omega)
    have hge := V_ge h (d + 1) p (by omega) (by omega)
    have hr := rw_le h (p := p) (a := a) hpa (by omega)
    have hW := Wp_le h p (by omega)
    have hmo := Ep_mono h a p hpa (by omega)
    have hc := cst_eq h he (p := p) (a := a) hpa (by omega) (hb (a + 1) (by omega) (by omega))
    rw [hd'] at hc
    simp only [run, wide_eq h he hpa (show a ≤ l.length by omega), ov_st h (x := Ep l a - Ep l p) (by omega) (by omega), hc, hB]
    rw [ha'] at hge
    by_cases hcut : 0 ≤ B ∧ B < ovI st.f0 st.f7 (Ep l a - Ep l p)
    · rw [if_pos hcut, if_neg (by omega)]
    · rw [if_neg hcut]
      generalize hcc : rw_ first l st.f0 st.f7 p a + (rd_T48 l (a : Int)).f4 + V first l st.f0 st.f7 d (a + 1) = cc
      have hV : V first l st.f0 st.f7 (d + 1) p = if (rd_T48 l (a : Int)).f2 = true then cc else if (rd_T48 l (a : Int)).f3 = true then min cc (V first l st.f0 st.f7 d p) else V first l st.f0 st.f7 d p := by
        simp only [V, ha', hcc]
      have hL : L first l st.f0 st.f7 (d + 1) p = if (rd_T48 l (a : Int)).f2 = true then a else if (rd_T48 l (a : Int)).f3 = true ∧ cc < V first l st.f0 st.f7 d p then a else L first l st.f0 st.f7 d p := by
        simp only [L, ha', hcc]
      have hst : stepN bs p s ((a : Int), cc) = if cc = B then (a : Int) else s := by
        simp only [stepN, hB]
      have hrun : ∀ s', B ≤ V first l st.f0 st.f7 d p → run first l st es bs p (fun _ => B) (stepN bs p) d (a + 1) s' = if V first l st.f0 st.f7 d p = B then ((L first l st.f0 st.f7 d p : Nat) : Int) else s' := fun s' hh => by
        have := ih (a + 1) s' (by omega) (by omega) hh
        rw [hB] at this
        exact this
      by_cases h2 : (rd_T48 l (a : Int)).f2 = true
      · rw [if_pos h2] at hV hL
        rw [if_pos (hg.m h2), if_pos h2, hV, hL, hst]
      · rw [if_neg h2] at hV hL
        rw [if_neg h2]
        by_cases h3 : (rd_T48 l (a : Int)).f3 = true
        · rw [if_pos h3] at hV
          rw [hV] at hs
          rw [if_pos h3, hst, hrun _ (by omega), hV, hL]
          by_cases hVB : V first l st.f0 st.f7 d p = B
          · rw [if_pos hVB, if_pos (show min cc (V first l st.f0 st.f7 d p) = B by omega), if_neg (fun hh => by have := hh.2; omega)]
          · rw [if_neg hVB]
            by_cases hcB : cc = B
            · rw [if_pos hcB, if_pos (show min cc (V first l st.f0 st.f7 d p) = B by omega), if_pos ⟨h3, by omega⟩]
            · rw [if_neg hcB, if_neg (show ¬ min cc (V first l st.f0 st.f7 d p) = B by omega)]
        · rw [if_neg h3] at hV
          rw [hV] at hs
          rw [if_neg (fun hh : _ ∧ _ => h3 hh.1)] at hL
          rw [if_neg h3, if_neg h2, hrun s hs, hV, hL]

theorem nextF_eq (h : Fit first l st.f0 st.f7) (he : ∀ i, i ≤ l.length → es i = Ep l i) (p : Nat) (hp : p ≤ l.length) (hb : ∀ i, p ≤ i → i ≤ l.length → bs i = V first l st.f0 st.f7 (l.length - i) i) :
    nextF first l st es bs p = ((L first l st.f0 st.f7 (l.length - p) p : Nat) : Int) := by
  unfold nextF
  rw [next_run h he p (fun i h1 h2 => hb i (by omega) h2) _ (hb p (Nat.le_refl _) hp) (V_small h _ p (by omega) (by omega)).1 (l.length - p) p _ (by omega) (Nat.le_refl _) (Int.le_refl _), if_pos rfl]

/-! ### the tables -/
theorem rd_set {xs : List Int} {j : Nat} {x : Int} {i : Nat} (hj : j < xs.length) : rd (xs.set j x) (i : Int) = if i = j then x else rd xs (i : Int) := by
  simp only [rd, Int.toNat_natCast, List.getD_eq_getElem?_getD, List.getElem?_set]
  by_cases h : j = i
  · subst h; simp [hj]
  · rw [if_neg h, if_neg (fun e => h e.symm)]

theorem endsL_len (k : Nat) : (endsL l k).length = l.length + 1 := by
  induction k with
  | zero => simp [endsL]
  | succ k ih => simp only [endsL, List.length_set, ih]

theorem endsL_eq (h : Fit first l C X) : ∀ (k : Nat), k ≤ l.length → ∀ i, i ≤ k → rd (endsL l k) (i : Int) = Ep l i
  | 0, _, i, hi => by
    obtain rfl : i = 0 := by omega
    simp [endsL, rd, Ep, List.getD_eq_getElem?_getD]
  | k + 1, hk, i, hi => by
    have ih := endsL_eq h k (by omega)
    have hg := h.g k (by omega)
    have := hg.a0; have := hg.a1; have := hg.b0; have := hg.b1
    have he := Ep_le h k (by omega)
    have hn := h.n
    rw [endsL, rd_set (by rw [endsL_len]; omega)]
    split
    · rename_i e
      rw [e, ih k (Nat.le_refl _), wrap64_in (Ep l k + (rd_T48 l k).f1) ⟨by omega, by omega⟩, wrap64_in _ ⟨by omega, by omega⟩]
      rfl
    · exact ih i (by omega)

theorem esF_eq (h : Fit first l C X) (i : Nat) (hi : i ≤ l.length) : esF l i = Ep l i := endsL_eq h l.length (Nat.le_refl _) i hi

theorem bestL_len (es : Nat → Int) (k : Nat) : (bestL first l st es k).2.length = l.length + 1 := by
  induction k with
  | zero => simp [bestL]
  | succ k ih => simp only [bestL, List.length_set, ih]

theorem bestL_eq (h : Fit first l st.f0 st.f7) : ∀ (k : Nat), k ≤ l.length + 1 →
    ((bestL first l st (esF l) k).1 = l.length → ∀ i, l.length + 1 ≤ i + k → i < l.length → (rd_T48 l i).f2 = false) ∧
    ∀ i, l.length + 1 ≤ i + k → i ≤ l.length → rd (bestL first l st (esF l) k).2 (i : Int) = V first l st.f0 st.f7 (l.length - i) i
  | 0, _ => ⟨fun _ i h1 h2 => by omega, fun i h1 h2 => by omega⟩
  | k + 1, hk => by
    obtain ⟨ih1, ih2⟩ := bestL_eq h k (by omega)
    generalize hp : l.length - k = p
    have hm : (bestL first l st (esF l) (k + 1)).1 = if p < l.length ∧ (rd_T48 l p).f2 = true then p else (bestL first l st (esF l) k).1 := by
      simp only [bestL, hp]
    have hb : (bestL first l st (esF l) (k + 1)).2 = (bestL first l st (esF l) k).2.set p (leastF first l st (esF l) (fun i => rd (bestL first l st (esF l) k).2 i) p (bestL first l st (esF l) (k + 1)).1) := by
      simp only [bestL, hp]
    have hM : (bestL first l st (esF l) (k + 1)).1 = l.length → ∀ i, l.length + 1 ≤ i + (k + 1) → i < l.length → (rd_T48 l i).f2 = false := by
      intro e i h1 h2
      rw [hm] at e
      by_cases hc : p < l.length ∧ (rd_T48 l (p : Int)).f2 = true
      · rw [if_pos hc] at e; omega
      · rw [if_neg hc] at e
        by_cases hi : i = p
        · subst hi
          cases h2' : (rd_T48 l (i : Int)).f2 with
          | false => rfl
          | true => exact absurd ⟨h2, h2'⟩ hc
        · exact ih1 e i (by omega) h2
    refine ⟨hM, fun i h1 h2 => ?_⟩
    rw [hb, rd_set (by rw [bestL_len]; omega)]
    split
    · rename_i e
      subst e
      exact leastF_eq h (fun j hj => esF_eq h j hj) i _ h2 (fun j h3 h4 => ih2 j (by omega) h4) (fun e j h3 h4 => hM e j (by omega) h4)
    · exact ih2 i (by omega) h2

theorem bsF_eq (h : Fit first l st.f0 st.f7) (i : Nat) (hi : i ≤ l.length) : bsF first l st i = V first l st.f0 st.f7 (l.length - i) i :=
  (bestL_eq h (l.length + 1) (Nat.le_refl _)).2 i (by omega) hi

theorem nxF_eq (h : Fit first l st.f0 st.f7) (p : Nat) (hp : p ≤ l.length) : nxF first l st p = ((L first l st.f0 st.f7 (l.length - p) p : Nat) : Int) :=
  nextF_eq h (fun j hj => esF_eq h j hj) p hp (fun j h1 h2 => bsF_eq h j h2)

theorem tk_len : ∀ (d p : Nat), (tk first l C X d p).length = d
  | 0, p => rfl
  | d + 1, p => by
    simp only [tk]
    split <;> simp [tk_len d]

theorem tk_run : ∀ (d p : Nat), d ≤ l.length → tk first l C X d p = if L first l C X d p < l.length then List.replicate (L first l C X d p - (l.length - d)) false ++ true :: tk first l C X (l.length - (L first l C X d p + 1)) (L first l C X d p + 1) else List.replicate d false
  | 0, p, _ => by simp [tk, L]
  | d + 1, p, hd => by
    have ih := tk_run d p (by omega)
    have hl := L_ge (first := first) (l := l) (C := C) (X := X) d p (by omega)
    have hl2 := L_ge (first := first) (l := l) (C := C) (X := X) (d + 1) p (by omega)
    by_cases hL : L first l C X (d + 1) p = l.length - (d + 1)
    · rw [tk, if_pos hL, if_pos (by omega), hL]
      have e1 : l.length - (l.length - (d + 1) + 1) = d := by omega
      have e2 : l.length - (d + 1) + 1 = l.length - d := by omega
      rw [e1, e2]
      simp
    · rw [tk, if_neg hL]
      have e : L first l C X (d + 1) p = L first l C X d p := by
        simp only [L] at hL ⊢
        split
        · rename_i h2; rw [if_pos h2] at hL; exact absurd rfl hL
        · rename_i h2
          rw [if_neg h2] at hL
          split
          · rename_i h3; rw [if_pos h3] at hL; exact absurd rfl hL
          · rfl
      rw [e, ih]
      split
      · have : L first l C X d p - (l.length - (d + 1)) = (L first l C X d p - (l.length - d)) + 1 := by omega
        rw [this, List.replicate_succ]
        rfl
      · rw [List.replicate_succ]

theorem set_mid (xs ys : List Bool) (b0 b : Bool) (n : Nat) (h : n = xs.length) : (xs ++ b0 :: ys).set n b = xs ++ b :: ys := by
  subst h
  induction xs with
  | nil => rfl
  | cons x xs ih => simp [ih]

theorem wayL_eq (h : Fit first l st.f0 st.f7) : ∀ (d p : Nat) (pre : List Bool), p ≤ l.length → l.length + 1 ≤ p + d → pre.length = p →
    wayL (nxF first l st) l.length d (nxF first l st p) (pre ++ List.replicate (l.length - p) false) = pre ++ tk first l st.f0 st.f7 (l.length - p) p := by
  intro d
  induction d with
  | zero => intro p pre hp hd hl; omega
  | succ d ih =>
    intro p pre hp hd hl
    rw [nxF_eq h p hp, wayL, tk_run (l.length - p) p (by omega)]
    have hL := L_ge (first := first) (l := l) (C := st.f0) (X := st.f7) (l.length - p) p (by omega)
    generalize L first l st.f0 st.f7 (l.length - p) p = a at *
    by_cases ha : a < l.length
    · rw [if_pos (by omega), if_pos ha, Int.toNat_natCast]
      have e0 : l.length - (l.length - p) = p := by omega
      rw [e0]
      have hs : (pre ++ List.replicate (l.length - p) false).set a true = (pre ++ List.replicate (a - p) false ++ [true]) ++ List.replicate (l.length - (a + 1)) false := by
        have e1 : l.length - p = (a - p) + ((l.length - (a + 1)) + 1) := by omega
        rw [e1, ← List.replicate_append_replicate, List.replicate_succ, ← List.append_assoc]
        rw [set_mid _ _ _ _ a (by simp; omega)]
        simp
      rw [hs]
      have := ih (a + 1) (pre ++ List.replicate (a - p) false ++ [true]) (by omega) (by omega) (by simp; omega)
      rw [this]
      simp
    · rw [if_neg (by omega), if_neg ha]

/-- The program's way is the best one. -/
theorem wayF_eq (h : Fit first l st.f0 st.f7) : wayF first l st = tk first l st.f0 st.f7 l.length 0 := by
  have := wayL_eq h (l.length + 1) 0 [] (by omega) (by omega) rfl
  simpa [wayF] using this
end
end Go.Proofs.Ytmihiememhfmnaa.P
