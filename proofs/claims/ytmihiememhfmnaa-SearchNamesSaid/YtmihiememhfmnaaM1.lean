/- The plain law of lines: what a way costs, by the program and by the document. -/
import Derived.Test.YtmihiememhfmnaaM0
import Derived.Test.YtmihiememhfmnaaH9
import Derived.Test.YtmihiememhfmnaaF10
import Derived.Test.YtmihiememhfmnaaF11
import Derived.Test.YtmihiememhfmnaaF12
namespace Go.Proofs.Ytmihiememhfmnaa.P
open Go Go.RowKit Go.Proofs.YtmihiememhfmnaaW.PrintWords Go.Proofs.YtmihiememhfmnaaW.PrintLast Go.Proofs.YtmihiememhfmnaaW.PrintMore
set_option linter.unusedVariables false

/-- What a way costs from gap i on, in a row that is w wide so far; none: it may not be. -/
def walkC (C X : Int) (l : List S48) (ws : List Bool) : Nat → Nat → Int → Int → Option Int
  | 0, _, w, all => some (all + ovI C X w)
  | d + 1, i, w, all =>
    if (rdOf false ws i = true ∧ (rd_T48 l i).f3 = false) ∨ (rdOf false ws i = false ∧ (rd_T48 l i).f2 = true) then none
    else if rdOf false ws i = true then walkC C X l ws d (i + 1) ((rd_T48 l i).f5 + (rd_T48 l i).f0) (all + ovI C X w + (rd_T48 l i).f4)
    else walkC C X l ws d (i + 1) (w + (rd_T48 l i).f1 + (rd_T48 l i).f0) all

/-- What is known on the way. -/
structure Way1 (X : Int) (i : Nat) (w all : Int) : Prop where
  w0 : 0 ≤ w
  w1 : w ≤ 65536 + 131072 * (i : Int)
  a0 : 0 ≤ all
  a1 : all + w * X ≤ (65536 + 131072 * (i : Int)) * 1000000

theorem Way1.start {first : Int} {l : List S48} {C X : Int} (h : Fit first l C X) : Way1 X 0 first 0 := by
  obtain ⟨h1, h2, h3, h4, h5, h6, h7, h8⟩ := h
  have := mulX h6 h7 h3 h4
  exact ⟨h6, by omega, Int.le_refl _, by omega⟩

theorem Way1.ov {first : Int} {l : List S48} {C X : Int} (h : Fit first l C X) {i : Nat} {w all : Int} (hw : Way1 X i w all) (hi : i ≤ l.length) :
    w ≤ 9000000000 ∧ 0 ≤ ovI C X w ∧ all + ovI C X w ≤ (65536 + 131072 * (i : Int)) * 1000000 := by
  obtain ⟨h1, h2, h3, h4, h5, h6, h7, h8⟩ := h
  obtain ⟨w0, w1, a0, a1⟩ := hw
  have hb := ovI_bound (C := C) (w := w) h1 h3 w0
  refine ⟨by omega, hb.1, by omega⟩

theorem Way1.broken {first : Int} {l : List S48} {C X : Int} (h : Fit first l C X) {i : Nat} {w all : Int} (hw : Way1 X i w all) (hi : i < l.length) :
    Way1 X (i + 1) ((rd_T48 l i).f5 + (rd_T48 l i).f0) (all + ovI C X w + (rd_T48 l i).f4) := by
  have ho := hw.ov h (Nat.le_of_lt hi)
  obtain ⟨h1, h2, h3, h4, h5, h6, h7, h8⟩ := h
  have hg := h8 i hi
  obtain ⟨g1, g2, g3, g4, g5, g6, g7, g8, g9⟩ := hg
  have hm := mulX (a := (rd_T48 l i).f5 + (rd_T48 l i).f0) (A := 65792) (by omega) (by omega) h3 h4
  obtain ⟨w0, w1, a0, a1⟩ := hw
  refine ⟨by omega, by omega, by omega, ?_⟩
  omega

theorem Way1.joined {first : Int} {l : List S48} {C X : Int} (h : Fit first l C X) {i : Nat} {w all : Int} (hw : Way1 X i w all) (hi : i < l.length) :
    Way1 X (i + 1) (w + (rd_T48 l i).f1 + (rd_T48 l i).f0) all := by
  obtain ⟨h1, h2, h3, h4, h5, h6, h7, h8⟩ := h
  have hg := h8 i hi
  obtain ⟨g1, g2, g3, g4, g5, g6, g7, g8, g9⟩ := hg
  have hm := mulX (a := (rd_T48 l i).f1 + (rd_T48 l i).f0) (A := 131072) (by omega) (by omega) h3 h4
  obtain ⟨w0, w1, a0, a1⟩ := hw
  refine ⟨by omega, by omega, a0, ?_⟩
  rw [Int.add_assoc, Int.add_mul]
  omega

def asCost : Option Int → Int × Int
  | none => (0, 2)
  | some c => (c, 0)
def asRef : Option Int → Int × Bool
  | none => (0, false)
  | some c => (c, true)

theorem rdOf_nat {ws : List Bool} {i : Nat} : rdOf false ws (i : Int) = ws.getD i false := by simp [rdOf]

theorem cost_l0 {first : Int} {l : List S48} {ws : List Bool} {s : S25} (h : Fit first l s.f0 s.f7) (hl : ws.length = l.length) :
    ∀ (d i k : Nat) (w all : Int), i + d = l.length → 2 * d + 1 ≤ k → Way1 s.f7 i w all →
      search_Cost.l0 k ws w all l (l.length : Int) (i : Int) s.f0 s.f1 s.f2 s.f3 s.f4 s.f5 s.f6 s.f7 s.f8 s.f9 s.f10 s.f11 s.f12 s.f13 s.f14 s.f15 s.f16 s.f17 = some (asCost (walkC s.f0 s.f7 l ws d i w all)) := by
  intro d
  induction d with
  | zero =>
    intro i k w all hi hk hw
    obtain ⟨k, rfl⟩ : ∃ k', k = k' + 1 := ⟨k - 1, by omega⟩
    have ho := hw.ov h (by omega)
    have hn := h.n
    rw [search_Cost.l0, if_neg (by omega)]
    have e : search_over.f w s.f0 s.f1 s.f2 s.f3 s.f4 s.f5 s.f6 s.f7 s.f8 s.f9 s.f10 s.f11 s.f12 s.f13 s.f14 s.f15 s.f16 s.f17 = some (ovI s.f0 s.f7 w) := by
      rw [search_over.f, ov_eq h.C1 h.C2 h.X0 h.X1 hw.w0 ho.1]
    rw [e]
    have := hw.a0
    simp only [Option.bind_some, walkC, asCost]
    rw [wrap64_in _ ⟨by omega, by omega⟩]
  | succ d ih =>
    intro i k w all hi hk hw
    obtain ⟨k, rfl⟩ : ∃ k', k = k' + 2 := ⟨k - 2, by omega⟩
    have ho := hw.ov h (by omega)
    have hn := h.n
    have q1 : (i : Int) < (l.length : Int) := by omega
    have q2 : (0 : Int) ≤ (i : Int) := by omega
    have q3 : (i : Int) < (ws.length : Int) := by omega
    have hg := h.g i (by omega)
    have hb := ih (i + 1) k _ _ (by omega) (by omega) (hw.broken h (by omega))
    have hj := ih (i + 1) k _ _ (by omega) (by omega) (hw.joined h (by omega))
    have e : search_over.f w s.f0 s.f1 s.f2 s.f3 s.f4 s.f5 s.f6 s.f7 s.f8 s.f9 s.f10 s.f11 s.f12 s.f13 s.f14 s.f15 s.f16 s.f17 = some (ovI s.f0 s.f7 w) := by
      rw [search_over.f, ov_eq h.C1 h.C2 h.X0 h.X1 hw.w0 ho.1]
    have hwb := (hw.broken h (by omega : i < l.length))
    have hwj := (hw.joined h (by omega : i < l.length))
    have b1 := hwb.w0; have b2 := hwb.w1; have b3 := hwb.a0
    have j1 := hwj.w0; have j2 := hwj.w1
    have a0 := hw.a0
    have w0 := hw.w0
    obtain ⟨g1, g2, g3, g4, g5, g6, g7, g8, g9⟩ := hg
    have x1 : wrap64 ((rd_T48 l i).f5 + (rd_T48 l i).f0) = (rd_T48 l i).f5 + (rd_T48 l i).f0 := wrap64_in _ ⟨by omega, by omega⟩
    have x2 : wrap64 (all + wrap64 (ovI s.f0 s.f7 w + (rd_T48 l i).f4)) = all + ovI s.f0 s.f7 w + (rd_T48 l i).f4 := by
      rw [wrap64_in (ovI s.f0 s.f7 w + (rd_T48 l i).f4) ⟨by omega, by omega⟩, wrap64_in _ ⟨by omega, by omega⟩]; omega
    have x3 : wrap64 (w + wrap64 ((rd_T48 l i).f1 + (rd_T48 l i).f0)) = w + (rd_T48 l i).f1 + (rd_T48 l i).f0 := by
      rw [wrap64_in ((rd_T48 l i).f1 + (rd_T48 l i).f0) ⟨by omega, by omega⟩, wrap64_in _ ⟨by omega, by omega⟩]; omega
    have x4 : wrap64 ((i : Int) + 1) = ((i + 1 : Nat) : Int) := by rw [wrap64_in _ ⟨by omega, by omega⟩]; omega
    rw [search_Cost.l0, if_pos q1, if_pos q2, if_pos q1, if_pos q3]
    rw [search_Cost.j1, search_Cost.j1, search_Cost.j1]
    simp only [if_pos q2, if_pos q3]
    rw [e]
    simp only [Option.bind_some, x1, x2, x3, x4, hb, hj, walkC]
    cases hw1 : rdOf false ws (i : Int) <;> cases hf3 : (rd_T48 l (i : Int)).f3 <;> cases hf2 : (rd_T48 l (i : Int)).f2 <;> simp [asCost] 

theorem refcost_l0 {first : Int} {l : List S48} {ws : List Bool} {s : S25} (h : Fit first l s.f0 s.f7) (hl : ws.length = l.length) :
    ∀ (d i k : Nat) (w all : Int), i + d = l.length → 2 * d + 1 ≤ k → Way1 s.f7 i w all →
      regletref14_Cost.l0 k l ws w all (i : Int) s.f0 s.f1 s.f2 s.f3 s.f4 s.f5 s.f6 s.f7 s.f8 s.f9 s.f10 s.f11 s.f12 s.f13 s.f14 s.f15 s.f16 s.f17 = some (asRef (walkC s.f0 s.f7 l ws d i w all)) := by
  intro d
  induction d with
  | zero =>
    intro i k w all hi hk hw
    obtain ⟨k, rfl⟩ : ∃ k', k = k' + 1 := ⟨k - 1, by omega⟩
    have ho := hw.ov h (by omega)
    have hn := h.n
    rw [regletref14_Cost.l0, if_neg (by omega)]
    have e : regletref14_row.f w s.f0 s.f1 s.f2 s.f3 s.f4 s.f5 s.f6 s.f7 s.f8 s.f9 s.f10 s.f11 s.f12 s.f13 s.f14 s.f15 s.f16 s.f17 = some (ovI s.f0 s.f7 w) := by
      rw [regletref14_row.f, row_eq h.C1 h.C2 h.X0 h.X1 hw.w0 ho.1]
    rw [e]
    have := hw.a0
    simp only [Option.bind_some, walkC, asRef]
    rw [wrap64_in _ ⟨by omega, by omega⟩]
  | succ d ih =>
    intro i k w all hi hk hw
    obtain ⟨k, rfl⟩ : ∃ k', k = k' + 2 := ⟨k - 2, by omega⟩
    have ho := hw.ov h (by omega)
    have hn := h.n
    have q1 : (i : Int) < (l.length : Int) := by omega
    have q2 : (0 : Int) ≤ (i : Int) := by omega
    have q3 : (i : Int) < (ws.length : Int) := by omega
    have hg := h.g i (by omega)
    have e : regletref14_row.f w s.f0 s.f1 s.f2 s.f3 s.f4 s.f5 s.f6 s.f7 s.f8 s.f9 s.f10 s.f11 s.f12 s.f13 s.f14 s.f15 s.f16 s.f17 = some (ovI s.f0 s.f7 w) := by
      rw [regletref14_row.f, row_eq h.C1 h.C2 h.X0 h.X1 hw.w0 ho.1]
    have hwb := (hw.broken h (by omega : i < l.length))
    have hwj := (hw.joined h (by omega : i < l.length))
    have b1 := hwb.w0; have b2 := hwb.w1; have b3 := hwb.a0
    have j1 := hwj.w0; have j2 := hwj.w1
    have a0 := hw.a0
    have w0 := hw.w0
    obtain ⟨g1, g2, g3, g4, g5, g6, g7, g8, g9⟩ := hg
    have x1 : wrap64 ((rd_T48 l i).f5 + (rd_T48 l i).f0) = (rd_T48 l i).f5 + (rd_T48 l i).f0 := wrap64_in _ ⟨by omega, by omega⟩
    have x2 : wrap64 (wrap64 (all + (rd_T48 l i).f4) + ovI s.f0 s.f7 w) = all + ovI s.f0 s.f7 w + (rd_T48 l i).f4 := by
      rw [wrap64_in (all + (rd_T48 l i).f4) ⟨by omega, by omega⟩, wrap64_in _ ⟨by omega, by omega⟩]; omega
    have x3 : wrap64 (wrap64 (w + (rd_T48 l i).f1) + (rd_T48 l i).f0) = w + (rd_T48 l i).f1 + (rd_T48 l i).f0 := by
      rw [wrap64_in (w + (rd_T48 l i).f1) ⟨by omega, by omega⟩, wrap64_in _ ⟨by omega, by omega⟩]
    have x4 : wrap64 ((i : Int) + 1) = ((i + 1 : Nat) : Int) := by rw [wrap64_in _ ⟨by omega, by omega⟩]; omega
    have hb := ih (i + 1) k _ _ (by omega) (by omega) hwb
    have hj := ih (i + 1) k _ _ (by omega) (by omega) hwj
    rw [regletref14_Cost.l0, if_pos q1, if_pos q2, if_pos q3]
    rw [regletref14_Cost.j1, regletref14_Cost.j1, regletref14_Cost.j1]
    simp only [if_pos q1, if_pos q2, if_pos q3]
    rw [e]
    simp only [Option.bind_some, x1, x2, x3, x4, hb, hj, walkC]
    cases hw1 : rdOf false ws (i : Int) <;> cases hf3 : (rd_T48 l (i : Int)).f3 <;> cases hf2 : (rd_T48 l (i : Int)).f2 <;> simp [asRef]

/-- What search.Cost answers. -/
def costV (first : Int) (l : List S48) (ws : List Bool) (C X : Int) : Int × Int :=
  if chk first l C X = 0 then (if ws.length = l.length then asCost (walkC C X l ws l.length 0 first 0) else (0, 2)) else (0, chk first l C X)

theorem cost_f (first : Int) (l : List S48) (ws : List Bool) (s : S25) (k : Nat) (hk : 2 * l.length + 1 ≤ k) :
    search_Cost.f k first l ws s.f0 s.f1 s.f2 s.f3 s.f4 s.f5 s.f6 s.f7 s.f8 s.f9 s.f10 s.f11 s.f12 s.f13 s.f14 s.f15 s.f16 s.f17 = some (costV first l ws s.f0 s.f7) := by
  rw [search_Cost.f, check_chk, Option.bind_some, costV]
  by_cases h0 : chk first l s.f0 s.f7 = 0
  · rw [if_pos h0, if_pos h0]
    by_cases hl : ws.length = l.length
    · rw [if_pos hl, if_pos (by omega)]
      have hf := chk_zero.1 h0
      exact cost_l0 hf hl l.length 0 k first 0 (by omega) hk (Way1.start hf)
    · rw [if_neg hl, if_neg (by omega)]
  · rw [if_neg h0, if_neg h0]

theorem refcost_f (first : Int) (l : List S48) (ws : List Bool) (s : S25) (k : Nat) (hk : 2 * l.length + 1 ≤ k) (h : Fit first l s.f0 s.f7) :
    regletref14_Cost.f k first l ws s.f0 s.f1 s.f2 s.f3 s.f4 s.f5 s.f6 s.f7 s.f8 s.f9 s.f10 s.f11 s.f12 s.f13 s.f14 s.f15 s.f16 s.f17 = some (if ws.length = l.length then asRef (walkC s.f0 s.f7 l ws l.length 0 first 0) else (0, false)) := by
  rw [regletref14_Cost.f]
  by_cases hl : ws.length = l.length
  · rw [if_pos hl, if_pos (by omega)]
    exact refcost_l0 h hl l.length 0 k first 0 (by omega) hk (Way1.start h)
  · rw [if_neg hl, if_neg (by omega)]

theorem refcheck_l0 {l : List S48} (hn : l.length ≤ 65536) : ∀ (d i k : Nat), i + d = l.length → d + 1 ≤ k →
    regletref14_Check.l0 k l (i : Int) = some (if (l.drop i).any badG = true then 2 else 0) := by
  intro d
  induction d with
  | zero =>
    intro i k hi hk
    obtain ⟨k, rfl⟩ : ∃ k', k = k' + 1 := ⟨k - 1, by omega⟩
    rw [regletref14_Check.l0, if_neg (by omega), List.drop_eq_nil_of_le (by omega)]
    rfl
  | succ d ih =>
    intro i k hi hk
    obtain ⟨k, rfl⟩ : ∃ k', k = k' + 1 := ⟨k - 1, by omega⟩
    have hil : i < l.length := by omega
    have q1 : (i : Int) < (l.length : Int) := by omega
    have q2 : (0 : Int) ≤ (i : Int) := by omega
    have x4 : wrap64 ((i : Int) + 1) = ((i + 1 : Nat) : Int) := by rw [wrap64_in _ ⟨by omega, by omega⟩]; omega
    have hn := ih (i + 1) k (by omega) (by omega)
    rw [regletref14_Check.l0, if_pos q1, if_pos q2, x4, hn]
    have hd : l.drop i = rd_T48 l i :: l.drop (i + 1) := by rw [rd_getElem hil]; exact List.drop_eq_getElem_cons hil
    rw [hd, List.any_cons]
    generalize rd_T48 l (i : Int) = g
    have w : ∀ a b : Int, regletref14_within.f a b = some (decide (0 ≤ a ∧ a ≤ b)) := by
      intro a b
      unfold regletref14_within.f
      by_cases h : a ≥ 0
      · rw [if_pos h]; simp [h]
      · rw [if_neg h]; simp; omega
    simp only [w, Option.bind_some]
    by_cases hb : badG g = true
    · rw [hb]
      have hnb : ¬ Gok g := by rw [← badG_iff]; simp [hb]
      simp only [Bool.true_or, if_true]
      repeat' split
      all_goals first | rfl | (exfalso; apply hnb; simp only [decide_eq_true_eq] at *; refine ⟨by omega, by omega, by omega, by omega, by omega, by omega, by omega, by omega, ?_⟩; simp_all)
    · have hb' : badG g = false := by simpa using hb
      have hk := (badG_iff g).1 hb'
      rw [hb']
      obtain ⟨g1, g2, g3, g4, g5, g6, g7, g8, g9⟩ := hk
      rw [if_pos (by simp; omega), if_pos (by simp; omega), if_pos (by simp; omega), if_pos (by simp; omega), Bool.false_or]
      cases hm : g.f2 with
      | false => simp
      | true => simp [g9 hm]

theorem refcheck_f (first : Int) (l : List S48) (s : S25) (k : Nat) (hk : l.length + 2 ≤ k) :
    regletref14_Check.f k first l s.f0 s.f1 s.f2 s.f3 s.f4 s.f5 s.f6 s.f7 s.f8 s.f9 s.f10 s.f11 s.f12 s.f13 s.f14 s.f15 s.f16 s.f17 = some (chk first l s.f0 s.f7) := by
  obtain ⟨k, rfl⟩ : ∃ k', k = k' + 1 := ⟨k - 1, by omega⟩
  have w : ∀ a b : Int, regletref14_within.f a b = some (decide (0 ≤ a ∧ a ≤ b)) := by
    intro a b
    unfold regletref14_within.f
    by_cases h : a ≥ 0
    · rw [if_pos h]; simp [h]
    · rw [if_neg h]; simp; omega
  unfold regletref14_Check.f chk
  simp only [regletref14_Check.j0, w, Option.bind_some]
  by_cases h1 : s.f0 < 1
  · rw [if_pos h1, if_pos h1]; rfl
  rw [if_neg h1, if_neg h1]
  by_cases h2 : s.f0 > 4096
  · rw [if_pos h2, if_pos h2]; rfl
  rw [if_neg h2, if_neg h2]
  by_cases h3 : s.f7 < 0
  · rw [if_pos h3, if_pos (by simp; omega)]
  rw [if_neg h3]
  by_cases h4 : s.f7 > 1000000
  · rw [if_pos h4, if_pos (by simp; omega)]
  rw [if_neg h4, if_neg (by simp; omega)]
  by_cases h5 : (l.length : Int) > 65536
  · rw [if_pos h5, if_pos h5]
  rw [if_neg h5, if_neg h5]
  by_cases h6 : first < 0
  · rw [if_pos h6, if_neg (by simp; omega)]
  rw [if_neg h6]
  by_cases h7 : first > 65536
  · rw [if_pos h7, if_neg (by simp; omega)]
  rw [if_neg h7, if_pos (by simp; omega)]
  have := refcheck_l0 (l := l) (by omega) l.length 0 k (by omega) (by omega)
  simpa using this

theorem same_l0 {a b : List Bool} (hab : a.length = b.length) (hm : a.length ≤ 9223372036854775807) : ∀ (d i k : Nat), i + d = a.length → d + 1 ≤ k →
    regletref14_Same.l0 k a b (i : Int) = some (decide (a.drop i = b.drop i)) := by
  intro d
  induction d with
  | zero =>
    intro i k hi hk
    obtain ⟨k, rfl⟩ : ∃ k', k = k' + 1 := ⟨k - 1, by omega⟩
    rw [regletref14_Same.l0, if_neg (by omega), List.drop_eq_nil_of_le (by omega), List.drop_eq_nil_of_le (by omega)]
    rfl
  | succ d ih =>
    intro i k hi hk
    obtain ⟨k, rfl⟩ : ∃ k', k = k' + 1 := ⟨k - 1, by omega⟩
    have q1 : (i : Int) < (a.length : Int) := by omega
    have q2 : (0 : Int) ≤ (i : Int) := by omega
    have q3 : (i : Int) < (b.length : Int) := by omega
    have x4 : wrap64 ((i : Int) + 1) = ((i + 1 : Nat) : Int) := by rw [wrap64_in _ ⟨by omega, by omega⟩]; omega
    have hn := ih (i + 1) k (by omega) (by omega)
    rw [regletref14_Same.l0]
    simp only [if_pos q1, if_pos q2, if_pos q3]
    rw [x4, hn, List.drop_eq_getElem_cons (show i < a.length by omega), List.drop_eq_getElem_cons (show i < b.length by omega)]
    rw [rdOf_nat, rdOf_nat, List.getD_eq_getElem?_getD, List.getD_eq_getElem?_getD, List.getElem?_eq_getElem (show i < a.length by omega), List.getElem?_eq_getElem (show i < b.length by omega)]
    simp only [Option.getD_some, List.cons.injEq]
    by_cases h : a[i] = b[i] <;> simp [h]

theorem same_f (a b : List Bool) (hm : a.length ≤ 9223372036854775807) (k : Nat) (hk : a.length + 1 ≤ k) : regletref14_Same.f k a b = some (decide (a = b)) := by
  unfold regletref14_Same.f
  by_cases h : (a.length : Int) = (b.length : Int)
  · have h' : a.length = b.length := by omega
    have := same_l0 h' hm a.length 0 k (by omega) hk
    simp only [List.drop_zero] at this
    first | rw [if_pos h]; exact this | (rw [if_neg (by simpa using h)]; exact this)
  · have hne : a ≠ b := fun e => h (by rw [e])
    first | (rw [if_neg h]; simp [hne]) | (rw [if_pos h]; simp [hne])
end Go.Proofs.Ytmihiememhfmnaa.P
