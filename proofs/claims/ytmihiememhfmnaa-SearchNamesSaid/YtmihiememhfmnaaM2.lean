/- The plain law of lines: what all costs at least from a place on (V), the last end that costs it (L), the best way (tk); no way costs less, and none that costs the same stands ahead. -/
import Derived.Test.YtmihiememhfmnaaM1
namespace Go.Proofs.Ytmihiememhfmnaa.P
open Go Go.RowKit Go.Proofs.YtmihiememhfmnaaW.PrintWords Go.Proofs.YtmihiememhfmnaaW.PrintLast Go.Proofs.YtmihiememhfmnaaW.PrintMore
set_option linter.unusedVariables false

/-- How wide the gaps ahead of one are together. -/
def Ep (l : List S48) : Nat → Int
  | 0 => 0
  | i + 1 => Ep l i + (rd_T48 l i).f1 + (rd_T48 l i).f0
/-- How wide a place's row begins. -/
def Wp (first : Int) (l : List S48) (p : Nat) : Int := if p = 0 then first else (rd_T48 l ((p - 1 : Nat) : Int)).f5 + (rd_T48 l ((p - 1 : Nat) : Int)).f0
/-- The row of place p, if it ends ahead of gap a (or behind all: a = the length). -/
def rw_ (first : Int) (l : List S48) (C X : Int) (p a : Nat) : Int := ovI C X (Wp first l p + Ep l a - Ep l p)
/-- What all costs at least from place p on, its row's ends before gap n - d left out. -/
def V (first : Int) (l : List S48) (C X : Int) : Nat → Nat → Int
  | 0, p => rw_ first l C X p l.length
  | d + 1, p =>
    let a := l.length - (d + 1)
    let c := rw_ first l C X p a + (rd_T48 l a).f4 + V first l C X d (a + 1)
    if (rd_T48 l a).f2 = true then c else if (rd_T48 l a).f3 = true then min c (V first l C X d p) else V first l C X d p
/-- The last end that costs the least. -/
def L (first : Int) (l : List S48) (C X : Int) : Nat → Nat → Nat
  | 0, p => l.length
  | d + 1, p =>
    let a := l.length - (d + 1)
    if (rd_T48 l a).f2 = true then a else if (rd_T48 l a).f3 = true ∧ rw_ first l C X p a + (rd_T48 l a).f4 + V first l C X d (a + 1) < V first l C X d p then a else L first l C X d p
/-- The best way from gap n - d on, in the row of place p. -/
def tk (first : Int) (l : List S48) (C X : Int) : Nat → Nat → List Bool
  | 0, p => []
  | d + 1, p => if L first l C X (d + 1) p = l.length - (d + 1) then true :: tk first l C X d (l.length - d) else false :: tk first l C X d p

section
variable {first : Int} {l : List S48} {C X : Int}

theorem Wp_succ (i : Nat) : Wp first l (i + 1) = (rd_T48 l i).f5 + (rd_T48 l i).f0 := by
  unfold Wp
  rw [if_neg (by omega)]
  rfl

theorem L_ge : ∀ (d p : Nat), d ≤ l.length → l.length - d ≤ L first l C X d p ∧ L first l C X d p ≤ l.length
  | 0, p, _ => ⟨Nat.sub_le _ _, Nat.le_refl _⟩
  | d + 1, p, h => by
    have ih := L_ge d p (by omega)
    simp only [L]
    split
    · omega
    · split <;> omega

theorem lower (h : Fit first l C X) (ws : List Bool) : ∀ (d i p : Nat) (w all c : Int), i + d = l.length → w = Wp first l p + Ep l i - Ep l p →
    walkC C X l ws d i w all = some c → all + V first l C X d p ≤ c := by
  intro d
  induction d with
  | zero =>
    intro i p w all c hi hw hc
    simp only [walkC, Option.some.injEq] at hc
    simp only [V, rw_]
    obtain rfl : i = l.length := by omega
    rw [← hw, hc]
    exact Int.le_refl _
  | succ d ih =>
    intro i p w all c hi hw hc
    have ha : l.length - (d + 1) = i := by omega
    simp only [walkC] at hc
    simp only [V, ha, rw_, ← hw]
    split at hc
    · cases hc
    · rename_i hn
      split at hc
      · rename_i hb
        have h1 := ih (i + 1) (i + 1) _ _ c (by omega) (by rw [Wp_succ]; omega) hc
        have hm : (rd_T48 l (i : Int)).f3 = true := by
          cases h3 : (rd_T48 l (i : Int)).f3 with
          | true => rfl
          | false => exact absurd (Or.inl ⟨hb, h3⟩) hn
        rw [if_pos hm]
        split
        · omega
        · omega
      · rename_i hb
        have hb' : rdOf false ws (i : Int) = false := by simpa using hb
        have h2 : ¬ (rd_T48 l (i : Int)).f2 = true := fun h2 => hn (Or.inr ⟨hb', h2⟩)
        have h1 := ih (i + 1) p _ _ c (by omega) (by simp only [Ep]; omega) hc
        rw [if_neg h2]
        split
        · omega
        · exact h1

theorem exact_ (h : Fit first l C X) (ws : List Bool) : ∀ (d i p : Nat) (w all : Int), i + d = l.length → w = Wp first l p + Ep l i - Ep l p → ws.drop i = tk first l C X d p →
    walkC C X l ws d i w all = some (all + V first l C X d p) := by
  intro d
  induction d with
  | zero =>
    intro i p w all hi hw ht
    simp only [walkC, V, rw_]
    obtain rfl : i = l.length := by omega
    rw [← hw]
  | succ d ih =>
    intro i p w all hi hw ht
    have ha : l.length - (d + 1) = i := by omega
    have hd : l.length - d = i + 1 := by omega
    have hg := h.g i (by omega)
    have hl := L_ge (first := first) (l := l) (C := C) (X := X) d p (by omega)
    have hrd : ∀ b bs, ws.drop i = b :: bs → rdOf false ws (i : Int) = b ∧ ws.drop (i + 1) = bs := by
      intro b bs e
      constructor
      · rw [rdOf_nat, List.getD_eq_getElem?_getD]
        have := congrArg (·[0]?) e
        simp only [List.getElem?_drop, List.getElem?_cons_zero, Nat.add_zero] at this
        rw [this]; rfl
      · have := congrArg (List.drop 1) e
        rw [List.drop_drop] at this
        simpa using this
    simp only [tk, ha, hd] at ht
    simp only [walkC, V, ha, rw_, ← hw]
    by_cases hL : L first l C X (d + 1) p = i
    · rw [if_pos hL] at ht
      obtain ⟨e1, e2⟩ := hrd _ _ ht
      have hh := ih (i + 1) (i + 1) ((rd_T48 l i).f5 + (rd_T48 l i).f0) (all + ovI C X w + (rd_T48 l i).f4) (by omega) (by rw [Wp_succ]; omega) e2
      simp only [L, ha, rw_, ← hw] at hL
      have h3 : (rd_T48 l (i : Int)).f3 = true := by
        split at hL
        · rename_i h2; exact hg.m h2
        · split at hL
          · rename_i h3; exact h3.1
          · omega
      rw [if_neg (by simp [e1, h3]), if_pos e1, hh, if_pos h3]
      split
      · congr 1; omega
      · rename_i h2
        rw [if_neg h2] at hL
        split at hL
        · rename_i h4
          have := h4.2
          congr 1
          omega
        · omega
    · rw [if_neg hL] at ht
      obtain ⟨e1, e2⟩ := hrd _ _ ht
      have hh := ih (i + 1) p (w + (rd_T48 l i).f1 + (rd_T48 l i).f0) all (by omega) (by simp only [Ep]; omega) e2
      simp only [L, ha, rw_, ← hw] at hL
      have h2 : ¬ (rd_T48 l (i : Int)).f2 = true := fun h2 => hL (by rw [if_pos h2])
      rw [if_neg h2] at hL
      rw [if_neg (by simp [e1, h2]), if_neg (by simp [e1]), hh, if_neg h2]
      split
      · rename_i h3
        have : ¬ (ovI C X w + (rd_T48 l (i : Int)).f4 + V first l C X d (i + 1) < V first l C X d p) := fun h4 => hL (by rw [if_pos ⟨h3, h4⟩])
        congr 1
        omega
      · rfl

/-- A way does not stand ahead of another one: where they first differ it breaks. -/
def behind : List Bool → List Bool → Prop
  | b :: bs, v :: vs => if b = v then behind bs vs else v = true
  | _, _ => True

theorem first_ (h : Fit first l C X) (ws : List Bool) : ∀ (d i p : Nat) (w all : Int), i + d = l.length → ws.length = l.length → w = Wp first l p + Ep l i - Ep l p →
    walkC C X l ws d i w all = some (all + V first l C X d p) → behind (tk first l C X d p) (ws.drop i) := by
  intro d
  induction d with
  | zero =>
    intro i p w all hi hlen hw hc
    simp [tk, behind]
  | succ d ih =>
    intro i p w all hi hlen hw hc
    have ha : l.length - (d + 1) = i := by omega
    have hd : l.length - d = i + 1 := by omega
    have hg := h.g i (by omega)
    have hl := L_ge (first := first) (l := l) (C := C) (X := X) d p (by omega)
    have hil : i < ws.length := by omega
    have hrd : ws.drop i = rdOf false ws (i : Int) :: ws.drop (i + 1) := by
      rw [rdOf_nat, List.getD_eq_getElem?_getD, List.getElem?_eq_getElem hil]
      exact List.drop_eq_getElem_cons hil
    rw [hrd]
    simp only [walkC] at hc
    simp only [V, ha, rw_, ← hw] at hc
    simp only [tk, ha, hd]
    split at hc
    · cases hc
    · rename_i hn
      by_cases hL : L first l C X (d + 1) p = i
      · rw [if_pos hL]
        simp only [behind]
        simp only [L, ha, rw_, ← hw] at hL
        split at hc
        · rename_i hb
          rw [if_pos hb.symm]
          refine ih (i + 1) (i + 1) ((rd_T48 l i).f5 + (rd_T48 l i).f0) (all + ovI C X w + (rd_T48 l i).f4) (by omega) hlen (by rw [Wp_succ]; omega) ?_
          rw [hc]
          congr 1
          split
          · omega
          · rename_i h2
            rw [if_neg h2] at hL
            split at hL
            · rename_i h4
              rw [if_pos h4.1]
              have := h4.2
              omega
            · omega
        · rename_i hb
          have hb' : rdOf false ws (i : Int) = false := by simpa using hb
          exfalso
          have h2 : ¬ (rd_T48 l (i : Int)).f2 = true := fun h2 => hn (Or.inr ⟨hb', h2⟩)
          have h1 := lower h ws d (i + 1) p _ _ _ (by omega) (by simp only [Ep]; omega) hc
          rw [if_neg h2] at hL h1
          split at hL
          · rename_i h4
            rw [if_pos h4.1] at h1
            have := h4.2
            omega
          · omega
      · rw [if_neg hL]
        simp only [behind]
        split at hc
        · rename_i hb
          rw [if_neg (by rw [hb]; simp)]
          exact hb
        · rename_i hb
          have hb' : rdOf false ws (i : Int) = false := by simpa using hb
          rw [if_pos hb'.symm]
          simp only [L, ha, rw_, ← hw] at hL
          have h2 : ¬ (rd_T48 l (i : Int)).f2 = true := fun h2 => hL (by rw [if_pos h2])
          rw [if_neg h2] at hL hc
          refine ih (i + 1) p (w + (rd_T48 l i).f1 + (rd_T48 l i).f0) all (by omega) hlen (by simp only [Ep]; omega) ?_
          rw [hc]
          congr 1
          split
          · rename_i h3
            have : ¬ (ovI C X w + (rd_T48 l (i : Int)).f4 + V first l C X d (i + 1) < V first l C X d p) := fun h4 => hL (by rw [if_pos ⟨h3, h4⟩])
            omega
          · rfl
end
end Go.Proofs.Ytmihiememhfmnaa.P
