/- The plain law of lines: all ways one by one, as the document tries them. -/
import Derived.Test.YtmihiememhfmnaaM3
import Derived.Test.YtmihiememhfmnaaF14
import Derived.Test.YtmihiememhfmnaaF18
import Derived.Test.YtmihiememhfmnaaF13
import Derived.Test.YtmihiememhfmnaaF15
import Derived.Test.YtmihiememhfmnaaF28
import Derived.Test.YtmihiememhfmnaaF16
namespace Go.Proofs.Ytmihiememhfmnaa.P
open Go Go.RowKit Go.Proofs.YtmihiememhfmnaaW.PrintWords Go.Proofs.YtmihiememhfmnaaW.PrintLast Go.Proofs.YtmihiememhfmnaaW.PrintMore
set_option linter.unusedVariables false

/-- What search.Best answers. -/
def bestV (first : Int) (l : List S48) (C X : Int) : List Bool × Int × Int :=
  if chk first l C X = 0 then (tk first l C X l.length 0, V first l C X l.length 0, 0) else ([], 0, chk first l C X)

theorem best_f (first : Int) (l : List S48) (s : S25) :
    search_Best.f first l s.f0 s.f1 s.f2 s.f3 s.f4 s.f5 s.f6 s.f7 s.f8 s.f9 s.f10 s.f11 s.f12 s.f13 s.f14 s.f15 s.f16 s.f17 = some (bestV first l s.f0 s.f7) := by
  unfold search_Best.f bestV
  rw [check_chk, Option.bind_some]
  by_cases h0 : chk first l s.f0 s.f7 = 0
  · have h := chk_zero.1 h0
    rw [if_pos h0, if_pos h0]
    have e1 := wayF_eq (st := s) h
    have e2 := bsF_eq (st := s) h 0 (Nat.zero_le _)
    have e : (⟨s.f0, s.f1, s.f2, s.f3, s.f4, s.f5, s.f6, s.f7, s.f8, s.f9, s.f10, s.f11, s.f12, s.f13, s.f14, s.f15, s.f16, s.f17⟩ : S25) = s := rfl
    rw [e, e1, e2, Nat.sub_zero]
  · rw [if_neg h0, if_neg h0]

theorem best_f' (first : Int) (l : List S48) (a2_0 a2_1 a2_2 a2_3 : Int) (a2_4 a2_5 a2_6 : Bool) (a2_7 a2_8 a2_9 a2_10 a2_11 a2_12 a2_13 a2_14 a2_15 a2_16 a2_17 : Int) :
    search_Best.f first l a2_0 a2_1 a2_2 a2_3 a2_4 a2_5 a2_6 a2_7 a2_8 a2_9 a2_10 a2_11 a2_12 a2_13 a2_14 a2_15 a2_16 a2_17 = some (bestV first l a2_0 a2_7) :=
  best_f first l ⟨a2_0, a2_1, a2_2, a2_3, a2_4, a2_5, a2_6, a2_7, a2_8, a2_9, a2_10, a2_11, a2_12, a2_13, a2_14, a2_15, a2_16, a2_17⟩

theorem are_l0 {a b : List Bool} (hab : a.length = b.length) (hm : a.length ≤ 9223372036854775807) : ∀ (d i k : Nat), i + d = a.length → d + 1 ≤ k →
    regletlaw14_are.l0 k b a (i : Int) = some (decide (a.drop i = b.drop i)) := by
  intro d
  induction d with
  | zero =>
    intro i k hi hk
    obtain ⟨k, rfl⟩ : ∃ k', k = k' + 1 := ⟨k - 1, by omega⟩
    rw [regletlaw14_are.l0, if_neg (by omega), List.drop_eq_nil_of_le (by omega), List.drop_eq_nil_of_le (by omega)]
    rfl
  | succ d ih =>
    intro i k hi hk
    obtain ⟨k, rfl⟩ : ∃ k', k = k' + 1 := ⟨k - 1, by omega⟩
    have q1 : (i : Int) < (a.length : Int) := by omega
    have q2 : (0 : Int) ≤ (i : Int) := by omega
    have q3 : (i : Int) < (b.length : Int) := by omega
    have x4 : wrap64 ((i : Int) + 1) = ((i + 1 : Nat) : Int) := by rw [wrap64_in _ ⟨by omega, by omega⟩]; omega
    have hn := ih (i + 1) k (by omega) (by omega)
    rw [regletlaw14_are.l0]
    simp only [if_pos q1, if_pos q2, if_pos q3]
    rw [x4, hn, List.drop_eq_getElem_cons (show i < a.length by omega), List.drop_eq_getElem_cons (show i < b.length by omega)]
    rw [rdOf_nat, rdOf_nat, List.getD_eq_getElem?_getD, List.getD_eq_getElem?_getD, List.getElem?_eq_getElem (show i < a.length by omega), List.getElem?_eq_getElem (show i < b.length by omega)]
    simp only [Option.getD_some, List.cons.injEq]
    by_cases h : a[i] = b[i] <;> simp [h]

theorem are_f (l : List S48) (want : List Bool) (cost : Int) (k : Nat) (hk : want.length + 2 ≤ k) (hm : want.length ≤ 1000) :
    regletlaw14_are.f k l want cost = some (decide (bestV 4 l 10 100 = (want, cost, 0))) := by
  obtain ⟨k, rfl⟩ : ∃ k', k = k' + 1 := ⟨k - 1, by omega⟩
  unfold regletlaw14_are.f regletlaw14_ten.f
  rw [Option.bind_some, best_f', Option.bind_some]
  generalize bestV 4 l 10 100 = b
  obtain ⟨b1, b2, b3⟩ := b
  simp only [regletlaw14_are.j0]
  by_cases h3 : b3 = 0
  · rw [if_pos h3]
    by_cases h2 : b2 = cost
    · rw [if_pos h2]
      by_cases h1 : b1.length = want.length
      · rw [if_neg (by simp [h1])]
        have := are_l0 h1 (by omega) b1.length 0 k (by omega) (by omega)
        simp only [List.drop_zero, Int.ofNat_zero] at this
        rw [this]
        subst h2 h3
        simp
      · rw [if_pos (by simp; omega)]
        have : b1 ≠ want := fun e => h1 (by rw [e])
        simp [this]
    · rw [if_neg h2]
      simp [h2]
  · rw [if_neg h3]
    simp [h3]

theorem alive_f (k : Nat) (hk : 4 ≤ k) : regletlaw14_alive.f k = some true := by
  unfold regletlaw14_alive.f regletlaw14_gap.f
  simp only [Option.bind_some]
  rw [are_f _ _ _ k (by simpa using hk) (by simp)]
  rfl
end Go.Proofs.Ytmihiememhfmnaa.P
namespace Go.Proofs.Ytmihiememhfmnaa.P
open Go Go.RowKit Go.Proofs.YtmihiememhfmnaaW.PrintWords Go.Proofs.YtmihiememhfmnaaW.PrintLast Go.Proofs.YtmihiememhfmnaaW.PrintMore
set_option linter.unusedVariables false

/-- How many of the first gaps are free. -/
def G (l : List S48) : Nat → Nat
  | 0 => 0
  | j + 1 => if (rd_T48 l j).f3 = true ∧ (rd_T48 l j).f2 = false then G l j + 1 else G l j
/-- The first gaps of the way of a number. -/
def wn (l : List S48) : Nat → Nat → List Bool
  | 0, _ => []
  | j + 1, m => if (rd_T48 l j).f3 = true ∧ (rd_T48 l j).f2 = false then wn l j (m / 2) ++ [decide (m % 2 = 1)] else wn l j m ++ [(rd_T48 l j).f2]

section
variable {first : Int} {l : List S48} {C X : Int}

theorem wn_len : ∀ (j m : Nat), (wn l j m).length = j
  | 0, _ => rfl
  | j + 1, m => by simp only [wn]; split <;> simp [wn_len j]

theorem G_le : ∀ j, G l j ≤ j
  | 0 => Nat.le_refl _
  | j + 1 => by have := G_le j; simp only [G]; split <;> omega

theorem behind_refl : ∀ xs, behind xs xs
  | [] => by simp [behind]
  | x :: xs => by simp [behind, behind_refl xs]

theorem behind_snoc : ∀ (xs ys : List Bool) (x y : Bool), xs.length = ys.length → behind (xs ++ [x]) (ys ++ [y]) → (xs = ys ∧ (x = true → y = true)) ∨ (xs ≠ ys ∧ behind xs ys)
  | [], [], x, y, _, h => by
    left
    refine ⟨rfl, fun hx => ?_⟩
    simp only [List.nil_append, behind] at h
    split at h
    · rename_i e; rw [← e]; exact hx
    · exact h
  | a :: xs, b :: ys, x, y, hl, h => by
    simp only [List.cons_append, behind] at h ⊢
    by_cases hab : a = b
    · rw [if_pos hab] at h
      rcases behind_snoc xs ys x y (by simpa using hl) h with ⟨h1, h2⟩ | ⟨h1, h2⟩
      · exact Or.inl ⟨by rw [hab, h1], h2⟩
      · refine Or.inr ⟨fun e => h1 (List.cons.inj e).2, ?_⟩
        rw [if_pos hab]; exact h2
    · rw [if_neg hab] at h
      refine Or.inr ⟨fun e => hab (List.cons.inj e).1, ?_⟩
      rw [if_neg hab]; exact h
  | [], _ :: _, _, _, hl, _ => by simp at hl
  | _ :: _, [], _, _, hl, _ => by simp at hl

theorem wn_le : ∀ (j a b : Nat), a < 2 ^ G l j → b < 2 ^ G l j → behind (wn l j a) (wn l j b) → a ≤ b
  | 0, a, b, ha, hb, _ => by simp [G] at ha hb; omega
  | j + 1, a, b, ha, hb, h => by
    by_cases hf : (rd_T48 l (j : Int)).f3 = true ∧ (rd_T48 l (j : Int)).f2 = false
    · simp only [wn, if_pos hf] at h
      simp only [G, if_pos hf, Nat.pow_succ] at ha hb
      rcases behind_snoc _ _ _ _ (by rw [wn_len, wn_len]) h with ⟨h1, h2⟩ | ⟨h1, h2⟩
      · have e1 := wn_le j (a / 2) (b / 2) (by omega) (by omega) (by rw [h1]; exact behind_refl _)
        have e2 := wn_le j (b / 2) (a / 2) (by omega) (by omega) (by rw [h1]; exact behind_refl _)
        simp only [decide_eq_true_eq] at h2
        omega
      · have e1 := wn_le j (a / 2) (b / 2) (by omega) (by omega) h2
        have : a / 2 ≠ b / 2 := fun e => h1 (by rw [e])
        omega
    · simp only [wn, if_neg hf] at h
      simp only [G, if_neg hf] at ha hb
      rcases behind_snoc _ _ _ _ (by rw [wn_len, wn_len]) h with ⟨h1, _⟩ | ⟨_, h2⟩
      · exact wn_le j a b ha hb (by rw [h1]; exact behind_refl _)
      · exact wn_le j a b ha hb h2

/-- May a gap be broken so? -/
def okAt (l : List S48) (i : Nat) (b : Bool) : Prop := (b = true → (rd_T48 l i).f3 = true) ∧ (b = false → (rd_T48 l i).f2 = false)

theorem wn_ok (h : Fit first l C X) : ∀ (j m i : Nat), i < j → j ≤ l.length → okAt l i (rdOf false (wn l j m) (i : Int))
  | 0, _, i, hi, _ => by omega
  | j + 1, m, i, hi, hj => by
    have hg := h.g j (by omega)
    by_cases e : i = j
    · subst e
      have : ∀ xs b, xs.length = i → rdOf false (xs ++ [b]) (i : Int) = b := by
        intro xs b hx
        rw [rdOf_nat, List.getD_eq_getElem?_getD, ← hx]
        simp
      simp only [wn]
      split
      · rename_i hf
        rw [this _ _ (wn_len i _)]
        exact ⟨fun _ => hf.1, fun _ => hf.2⟩
      · rename_i hf
        rw [this _ _ (wn_len i _)]
        exact ⟨fun h2 => hg.m h2, fun h2 => h2⟩
    · have : ∀ xs b, xs.length = j → rdOf false (xs ++ [b]) (i : Int) = rdOf false xs (i : Int) := by
        intro xs b hx
        rw [rdOf_nat, rdOf_nat, List.getD_eq_getElem?_getD, List.getD_eq_getElem?_getD, List.getElem?_append_left (by omega)]
      simp only [wn]
      split
      · rw [this _ _ (wn_len j _)]; exact wn_ok h j _ i (by omega) (by omega)
      · rw [this _ _ (wn_len j _)]; exact wn_ok h j _ i (by omega) (by omega)

theorem wn_ex (h : Fit first l C X) : ∀ (j : Nat) (ws : List Bool), ws.length = j → j ≤ l.length → (∀ i, i < j → okAt l i (rdOf false ws (i : Int))) → ∃ m, m < 2 ^ G l j ∧ wn l j m = ws
  | 0, ws, hl, _, _ => ⟨0, by simp [G], by rw [List.length_eq_zero_iff.1 hl]; rfl⟩
  | j + 1, ws, hl, hj, hok => by
    have hg := h.g j (by omega)
    obtain ⟨xs, x, rfl⟩ : ∃ xs x, ws = xs ++ [x] := ⟨ws.dropLast, ws.getLast (by intro e; rw [e] at hl; simp at hl), (List.dropLast_concat_getLast _).symm⟩
    have hxl : xs.length = j := by simpa using hl
    have hx : rdOf false (xs ++ [x]) (j : Int) = x := by
      rw [rdOf_nat, List.getD_eq_getElem?_getD, ← hxl]; simp
    have hxs : ∀ i, i < j → rdOf false (xs ++ [x]) (i : Int) = rdOf false xs (i : Int) := by
      intro i hi
      rw [rdOf_nat, rdOf_nat, List.getD_eq_getElem?_getD, List.getD_eq_getElem?_getD, List.getElem?_append_left (by omega)]
    obtain ⟨m, hm, he⟩ := wn_ex h j xs hxl (by omega) (fun i hi => by rw [← hxs i hi]; exact hok i (by omega))
    have hj' := hok j (by omega)
    rw [hx] at hj'
    by_cases hf : (rd_T48 l (j : Int)).f3 = true ∧ (rd_T48 l (j : Int)).f2 = false
    · refine ⟨2 * m + (if x = true then 1 else 0), ?_, ?_⟩
      · simp only [G, if_pos hf, Nat.pow_succ]
        split <;> omega
      · simp only [wn, if_pos hf]
        have e1 : (2 * m + (if x = true then 1 else 0)) / 2 = m := by split <;> omega
        rw [e1, he]
        congr 2
        cases x <;> simp <;> omega
    · refine ⟨m, ?_, ?_⟩
      · simp only [G, if_neg hf]; exact hm
      · simp only [wn, if_neg hf, he]
        congr 2
        cases x with
        | true =>
          cases h2 : (rd_T48 l (j : Int)).f2 with
          | true => rfl
          | false => exact absurd ⟨hj'.1 rfl, h2⟩ hf
        | false => exact hj'.2 rfl

theorem walk_ok (ws : List Bool) : ∀ (d i : Nat) (w all : Int), i + d = l.length → ((∃ c, walkC C X l ws d i w all = some c) ↔ ∀ j, i ≤ j → j < l.length → okAt l j (rdOf false ws (j : Int))) := by
  intro d
  induction d with
  | zero => intro i w all hi; exact ⟨fun _ j h1 h2 => by omega, fun _ => ⟨_, rfl⟩⟩
  | succ d ih =>
    intro i w all hi
    have key : (∀ j, i ≤ j → j < l.length → okAt l j (rdOf false ws (j : Int))) ↔ okAt l i (rdOf false ws (i : Int)) ∧ ∀ j, i + 1 ≤ j → j < l.length → okAt l j (rdOf false ws (j : Int)) := by
      constructor
      · intro hh; exact ⟨hh i (Nat.le_refl _) (by omega), fun j h1 h2 => hh j (by omega) h2⟩
      · rintro ⟨h1, h2⟩ j h3 h4
        by_cases e : j = i
        · rw [e]; exact h1
        · exact h2 j (by omega) h4
    rw [key]
    simp only [walkC]
    split
    · rename_i hb
      constructor
      · rintro ⟨c, hc⟩; cases hc
      · rintro ⟨h1, _⟩
        exfalso
        rcases hb with ⟨hb1, hb2⟩ | ⟨hb1, hb2⟩
        · rw [h1.1 hb1] at hb2; cases hb2
        · rw [h1.2 hb1] at hb2; cases hb2
    · rename_i hb
      have hi' : okAt l i (rdOf false ws (i : Int)) := by
        constructor
        · intro h1
          cases h3 : (rd_T48 l (i : Int)).f3 with
          | true => rfl
          | false => exact absurd (Or.inl ⟨h1, h3⟩) hb
        · intro h1
          cases h3 : (rd_T48 l (i : Int)).f2 with
          | false => rfl
          | true => exact absurd (Or.inr ⟨h1, h3⟩) hb
      split
      · rw [ih (i + 1) _ _ (by omega)]; exact ⟨fun hh => ⟨hi', hh⟩, fun hh => hh.2⟩
      · rw [ih (i + 1) _ _ (by omega)]; exact ⟨fun hh => ⟨hi', hh⟩, fun hh => hh.2⟩

/-- The best way has a number, and no lesser one costs as little. -/
theorem best_number (h : Fit first l C X) : ∃ m0, m0 < 2 ^ G l l.length ∧ wn l l.length m0 = tk first l C X l.length 0 ∧
    ∀ m, m < 2 ^ G l l.length → ∃ c, walkC C X l (wn l l.length m) l.length 0 first 0 = some c ∧ V first l C X l.length 0 ≤ c ∧ (m < m0 → V first l C X l.length 0 < c) ∧ (m = m0 → c = V first l C X l.length 0) := by
  have hex := exact_ h (tk first l C X l.length 0) l.length 0 0 first 0 (by omega) (by simp [Wp, Ep]) rfl
  rw [Int.zero_add] at hex
  obtain ⟨m0, hm0, he0⟩ := wn_ex h l.length (tk first l C X l.length 0) (tk_len _ _) (Nat.le_refl _) (fun i hi => ((walk_ok _ l.length 0 first 0 (by omega)).1 ⟨_, hex⟩) i (Nat.zero_le _) hi)
  refine ⟨m0, hm0, he0, fun m hm => ?_⟩
  obtain ⟨c, hc⟩ := (walk_ok (C := C) (X := X) (wn l l.length m) l.length 0 first 0 (by omega)).2 (fun j _ hj => wn_ok h l.length m j hj (Nat.le_refl _))
  have hlow := lower h (wn l l.length m) l.length 0 0 first 0 c (by omega) (by simp [Wp, Ep]) hc
  rw [Int.zero_add] at hlow
  refine ⟨c, hc, hlow, fun hlt => ?_, fun e => ?_⟩
  · by_cases e : c = V first l C X l.length 0
    · have hf := first_ h (wn l l.length m) l.length 0 0 first 0 (by omega) (wn_len _ _) (by simp [Wp, Ep]) (by rw [hc, e, Int.zero_add])
      rw [List.drop_zero, ← he0] at hf
      have := wn_le l.length m0 m hm0 hm hf
      omega
    · omega
  · rw [e, he0, hex] at hc
    exact (Option.some.inj hc).symm

/-! ### the document's loops -/
theorem free_l0 (hn : l.length ≤ 4611686018427387904) : ∀ (d i k : Nat) (g : Nat), i + d = l.length → d + 1 ≤ k → g = G l i → regletref14_Free.l0 k l (g : Int) (i : Int) = some ((G l l.length : Nat) : Int) := by
  intro d
  induction d with
  | zero =>
    intro i k g hi hk hg
    obtain ⟨k, rfl⟩ : ∃ k', k = k' + 1 := ⟨k - 1, by omega⟩
    obtain rfl : i = l.length := by omega
    rw [regletref14_Free.l0, if_neg (by omega), hg]
  | succ d ih =>
    intro i k g hi hk hg
    obtain ⟨k, rfl⟩ : ∃ k', k = k' + 1 := ⟨k - 1, by omega⟩
    have q1 : (i : Int) < (l.length : Int) := by omega
    have q2 : (0 : Int) ≤ (i : Int) := by omega
    have hgl := G_le (l := l) i
    have x4 : wrap64 ((i : Int) + 1) = ((i + 1 : Nat) : Int) := by rw [wrap64_in _ ⟨by omega, by omega⟩]; omega
    have x5 : wrap64 ((g : Int) + 1) = ((g + 1 : Nat) : Int) := by rw [wrap64_in _ ⟨by omega, by omega⟩]; omega
    rw [regletref14_Free.l0]
    simp only [if_pos q1, if_pos q2, x4, x5]
    cases h3 : (rd_T48 l (i : Int)).f3 with
    | false =>
      simp only [Bool.false_eq_true, if_false]
      exact ih (i + 1) k g (by omega) (by omega) (by simp [G, h3, hg])
    | true =>
      cases h2 : (rd_T48 l (i : Int)).f2 with
      | true =>
        simp only [if_true]
        exact ih (i + 1) k g (by omega) (by omega) (by simp [G, h2, hg])
      | false =>
        simp only [if_true, Bool.false_eq_true, if_false]
        exact ih (i + 1) k (g + 1) (by omega) (by omega) (by simp [G, h2, h3, hg])

theorem free_f (hn : l.length ≤ 4611686018427387904) (k : Nat) (hk : l.length + 1 ≤ k) : regletref14_Free.f k l = some ((G l l.length : Nat) : Int) := by
  unfold regletref14_Free.f
  exact free_l0 hn l.length 0 k 0 (by omega) hk rfl

theorem way_l0 (hn : l.length ≤ 65536) : ∀ (j k m : Nat) (suf : List Bool), j + suf.length = l.length → j + 1 ≤ k → m ≤ 1000000 →
    regletref14_way.l0 k l (m : Int) (List.replicate j false ++ suf) ((j : Int) - 1) = some (wn l j m ++ suf) := by
  intro j
  induction j with
  | zero =>
    intro k m suf hl hk hm
    obtain ⟨k, rfl⟩ : ∃ k', k = k' + 1 := ⟨k - 1, by omega⟩
    rw [regletref14_way.l0, if_neg (by omega)]
    simp [wn]
  | succ j ih =>
    intro k m suf hl hk hm
    obtain ⟨k, rfl⟩ : ∃ k', k = k' + 1 := ⟨k - 1, by omega⟩
    have e0 : ((j + 1 : Nat) : Int) - 1 = (j : Int) := by omega
    have hset : ∀ b, (List.replicate (j + 1) false ++ suf).set j b = List.replicate j false ++ (b :: suf) := by
      intro b
      rw [List.replicate_succ', List.append_assoc]
      exact set_mid _ _ _ _ j (by simp)
    have hset2 : ∀ b c, (List.replicate j false ++ (b :: suf)).set j c = List.replicate j false ++ (c :: suf) := fun b c => set_mid _ _ _ _ j (by simp)
    have x4 : wrap64 ((j : Int) - 1) = (j : Int) - 1 := wrap64_in _ ⟨by omega, by omega⟩
    have hlen : (j : Int) < ((List.replicate (j + 1) false ++ suf).length : Int) := by simp; omega
    rw [e0, regletref14_way.l0, if_pos (by omega), if_pos (by omega), if_pos (by omega), if_pos hlen]
    simp only [Int.toNat_natCast, hset, hset2, Option.bind_some, x4]
    have hih := fun m b hm => ih k m (b :: suf) (by simp; omega) (by omega) hm
    cases h3 : (rd_T48 l (j : Int)).f3 with
    | false =>
      simp only [Bool.false_eq_true, if_false]
      rw [hih m _ hm]
      simp [wn, h3]
    | true =>
      cases h2 : (rd_T48 l (j : Int)).f2 with
      | true =>
        simp only [if_true]
        rw [hih m _ hm]
        simp [wn, h2]
      | false =>
        simp only [if_true, Bool.false_eq_true, if_false]
        have e1 : Int.tdiv (m : Int) 2 = ((m / 2 : Nat) : Int) := rfl
        have e2 : Int.tmod (m : Int) 2 = ((m % 2 : Nat) : Int) := rfl
        rw [e1, e2, wrap64_in _ ⟨by omega, by omega⟩, hih (m / 2) _ (by omega)]
        have e3 : ((((m % 2 : Nat) : Int) == 1) : Bool) = decide (m % 2 = 1) := by
          by_cases hh : m % 2 = 1
          · simp [hh]
          · have : m % 2 = 0 := by omega
            simp [this]
        rw [e3]
        simp [wn, h2, h3]

theorem way_f (hn : l.length ≤ 65536) (k m : Nat) (hk : l.length + 1 ≤ k) (hm : m ≤ 1000000) : regletref14_way.f k l (m : Int) = some (wn l l.length m) := by
  unfold regletref14_way.f
  rw [if_pos (by omega), if_pos (by omega), wrap64_in _ ⟨by omega, by omega⟩, Int.toNat_natCast]
  have := way_l0 hn l.length k m [] (by simp) hk hm
  simpa using this

theorem refbest_l1 {s : S25} (h : Fit first l s.f0 s.f7) (hG : G l l.length ≤ 12) (m0 : Nat) (hm0 : m0 < 2 ^ G l l.length) (he0 : wn l l.length m0 = tk first l s.f0 s.f7 l.length 0)
    (hall : ∀ m, m < 2 ^ G l l.length → ∃ c, walkC s.f0 s.f7 l (wn l l.length m) l.length 0 first 0 = some c ∧ V first l s.f0 s.f7 l.length 0 ≤ c ∧ (m < m0 → V first l s.f0 s.f7 l.length 0 < c) ∧ (m = m0 → c = V first l s.f0 s.f7 l.length 0)) :
    ∀ (d m k : Nat) (ws : List Bool) (c : Int), m + d = 2 ^ G l l.length → d + 2 * l.length + 3 ≤ k → (m0 < m → ws = tk first l s.f0 s.f7 l.length 0 ∧ c = V first l s.f0 s.f7 l.length 0) → (m ≤ m0 → V first l s.f0 s.f7 l.length 0 < c) →
      regletref14_Best.l1 k first l ((2 ^ G l l.length : Nat) : Int) ws c (m : Int) s.f0 s.f1 s.f2 s.f3 s.f4 s.f5 s.f6 s.f7 s.f8 s.f9 s.f10 s.f11 s.f12 s.f13 s.f14 s.f15 s.f16 s.f17 = some (tk first l s.f0 s.f7 l.length 0, V first l s.f0 s.f7 l.length 0) := by
  have hp : 2 ^ G l l.length ≤ 4096 := Nat.le_trans (Nat.pow_le_pow_right (by omega) hG) (by decide)
  intro d
  induction d with
  | zero =>
    intro m k ws c hm hk h1 h2
    obtain ⟨k, rfl⟩ : ∃ k', k = k' + 1 := ⟨k - 1, by omega⟩
    obtain ⟨e1, e2⟩ := h1 (by omega)
    rw [regletref14_Best.l1, if_neg (by omega), e1, e2]
  | succ d ih =>
    intro m k ws c hm hk h1 h2
    obtain ⟨k, rfl⟩ : ∃ k', k = k' + 1 := ⟨k - 1, by omega⟩
    obtain ⟨cm, hc1, hc2, hc3, hc4⟩ := hall m (by omega)
    have x4 : wrap64 ((m : Int) + 1) = ((m + 1 : Nat) : Int) := by rw [wrap64_in _ ⟨by omega, by omega⟩]; omega
    rw [regletref14_Best.l1, if_pos (by omega), way_f h.n k m (by omega) (by omega), Option.bind_some, refcost_f first l _ s k (by omega) h, if_pos (wn_len _ _), hc1]
    simp only [Option.bind_some, asRef, x4]
    by_cases hlt : cm < c
    · rw [if_pos hlt]
      refine ih (m + 1) k _ _ (by omega) (by omega) (fun hh => ?_) (fun hh => ?_)
      · have : m = m0 := by
          by_cases e : m = m0
          · exact e
          · have := h1 (by omega); omega
        rw [this, he0]
        exact ⟨rfl, hc4 this⟩
      · exact hc3 (by omega)
    · rw [if_neg hlt]
      refine ih (m + 1) k _ _ (by omega) (by omega) (fun hh => ?_) (fun hh => h2 (by omega))
      by_cases e : m = m0
      · have := hc4 e
        have := h2 (by omega)
        omega
      · exact h1 (by omega)

theorem refbest_l0 {s : S25} (h : Fit first l s.f0 s.f7) (hG : G l l.length ≤ 12) : ∀ (d i k : Nat), i + d = G l l.length → d + 4096 + 2 * l.length + 8 ≤ k →
    regletref14_Best.l0 k first l ((2 ^ i : Nat) : Int) (i : Int) s.f0 s.f1 s.f2 s.f3 s.f4 s.f5 s.f6 s.f7 s.f8 s.f9 s.f10 s.f11 s.f12 s.f13 s.f14 s.f15 s.f16 s.f17 = some (tk first l s.f0 s.f7 l.length 0, V first l s.f0 s.f7 l.length 0) := by
  intro d
  induction d with
  | zero =>
    intro i k hi hk
    obtain ⟨k, rfl⟩ : ∃ k', k = k' + 1 := ⟨k - 1, by omega⟩
    obtain ⟨m0, hm0, he0, hall⟩ := best_number h
    obtain rfl : i = G l l.length := by omega
    have hp : 2 ^ G l l.length ≤ 4096 := Nat.le_trans (Nat.pow_le_pow_right (by omega) hG) (by decide)
    have hp0 : 0 < 2 ^ G l l.length := Nat.pow_pos (by omega)
    obtain ⟨c0, hc1, hc2, hc3, hc4⟩ := hall 0 hp0
    have hw := way_f h.n k 0 (by omega) (by omega)
    rw [Int.ofNat_zero] at hw
    rw [regletref14_Best.l0, free_f (by have := h.n; omega) k (by omega), Option.bind_some, if_neg (by omega), hw, Option.bind_some, refcost_f first l _ s k (by omega) h, if_pos (wn_len _ _), hc1]
    simp only [Option.bind_some, asRef]
    refine refbest_l1 h hG m0 hm0 he0 hall (2 ^ G l l.length - 1) 1 k _ _ (by omega) (by omega) (fun hh => ?_) (fun hh => hc3 (by omega))
    have e : 0 = m0 := by omega
    exact ⟨by rw [← he0]; exact congrArg _ e, hc4 e⟩
  | succ d ih =>
    intro i k hi hk
    obtain ⟨k, rfl⟩ : ∃ k', k = k' + 1 := ⟨k - 1, by omega⟩
    have hp : 2 ^ i ≤ 4096 := Nat.le_trans (Nat.pow_le_pow_right (by omega) (show i ≤ 12 by omega)) (by decide)
    have x4 : wrap64 ((i : Int) + 1) = ((i + 1 : Nat) : Int) := by rw [wrap64_in _ ⟨by omega, by omega⟩]; omega
    have x5 : wrap64 (2 * ((2 ^ i : Nat) : Int)) = ((2 ^ (i + 1) : Nat) : Int) := by
      rw [Nat.pow_succ]
      generalize 2 ^ i = q at hp ⊢
      rw [wrap64_in _ ⟨by omega, by omega⟩]
      omega
    rw [regletref14_Best.l0, free_f (by have := h.n; omega) k (by omega), Option.bind_some, if_pos (by omega), x4, x5]
    exact ih (i + 1) k (by omega) (by omega)

theorem samegaps_l0 (hn : l.length ≤ 65536) : ∀ (d i k : Nat), i + d = l.length → d + 1 ≤ k → regletref14_SameGaps.l0 k l l (i : Int) = some true := by
  intro d
  induction d with
  | zero =>
    intro i k hi hk
    obtain ⟨k, rfl⟩ : ∃ k', k = k' + 1 := ⟨k - 1, by omega⟩
    rw [regletref14_SameGaps.l0, if_neg (by omega)]
  | succ d ih =>
    intro i k hi hk
    obtain ⟨k, rfl⟩ : ∃ k', k = k' + 1 := ⟨k - 1, by omega⟩
    have x4 : wrap64 ((i : Int) + 1) = ((i + 1 : Nat) : Int) := by rw [wrap64_in _ ⟨by omega, by omega⟩]; omega
    rw [regletref14_SameGaps.l0, if_pos (by omega), if_pos (by omega), if_pos (by omega), if_neg (by simp), x4]
    exact ih (i + 1) k (by omega) (by omega)
end
end Go.Proofs.Ytmihiememhfmnaa.P
