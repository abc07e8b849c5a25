/- For every first column, every line of gaps and every way with its style, regletlaw14.SearchLeast returns true, never panics, and its arguments read behind the call as they read before. Conditions: none beyond the row's own. (The text has the shape of the kit's printed rows, turned by hand to a slice of structs and a struct.) -/
import Derived.Test.YtmihiememhfmnaaRows
import Derived.Test.YtmihiememhfmnaaOpen
import Derived.WalkKit
import Derived.ProofKit
import Derived.OpenShut
import Derived.ShutString
import Derived.ChangeOld
import Derived.Below
import Derived.SizedLaws
import Derived.Carry
import Derived.Test.YtmihiememhfmnaaM4
import Derived.Test.YtmihiememhfmnaaF8
namespace Go.Proofs.Ytmihiememhfmnaa.P
open Go Go.RowKit Go.Proofs.YtmihiememhfmnaaW.PrintWords Go.Proofs.YtmihiememhfmnaaW.PrintLast Go.Proofs.YtmihiememhfmnaaW.PrintMore
set_option linter.unusedVariables false

/-- Is a gap broken, a way put right? -/
def rt (l : List S48) (br : List Bool) (i : Nat) : Bool :=
  if i < br.length ∧ rdOf false br (i : Int) = true ∧ (rd_T48 l (i : Int)).f3 = true then true else (rd_T48 l (i : Int)).f2
/-- The way, put right where it may not be. -/
def right (l : List S48) (br : List Bool) (n : Nat) : List Bool := (List.range n).map (rt l br)

theorem right_succ (l : List S48) (br : List Bool) (n : Nat) : right l br (n + 1) = right l br n ++ [rt l br n] := by
  simp [right, List.range_succ]
theorem right_len (l : List S48) (br : List Bool) (n : Nat) : (right l br n).length = n := by simp [right]
theorem right_get (l : List S48) (br : List Bool) (n i : Nat) (h : i < n) : rdOf false (right l br n) (i : Int) = rt l br i := by
  rw [rdOf_nat]
  simp [right, List.getD_eq_getElem?_getD, h]

theorem walk_some {first : Int} {l : List S48} {C X : Int} (h : Fit first l C X) (br : List Bool) : ∀ (d i : Nat) (w all : Int), i + d = l.length →
    ∃ c, walkC C X l (right l br l.length) d i w all = some c := by
  intro d
  induction d with
  | zero => intro i w all hi; exact ⟨_, rfl⟩
  | succ d ih =>
    intro i w all hi
    have hg := h.g i (by omega)
    have hr := right_get l br l.length i (by omega)
    simp only [walkC, hr]
    rw [if_neg]
    · split
      · exact ih (i + 1) _ _ (by omega)
      · exact ih (i + 1) _ _ (by omega)
    · unfold rt
      split
      · rename_i hc
        simp [hc.2.2]
      · intro hh
        rcases hh with ⟨h1, h2⟩ | ⟨h1, h2⟩
        · rw [hg.m h1] at h2; cases h2
        · rw [h1] at h2; cases h2

theorem least_l1 {l : List S48} {a ws : List Bool} {c v : Int} (ha : a.length = l.length) (hw : ws.length = l.length) (hn : l.length ≤ 65536) (hcv : v ≤ c) : ∀ (d i k : Nat), i + d = l.length → d + 1 ≤ k →
    (c = v → behind (a.drop i) (ws.drop i)) → (a.drop i = ws.drop i → c = v) →
    regletlaw14_SearchLeast.l1 k l true a v ws c (i : Int) = some true := by
  intro d
  induction d with
  | zero =>
    intro i k hi hk h1 h2
    obtain ⟨k, rfl⟩ : ∃ k', k = k' + 1 := ⟨k - 1, by omega⟩
    have := h2 (by rw [List.drop_eq_nil_of_le (by omega), List.drop_eq_nil_of_le (by omega)])
    rw [regletlaw14_SearchLeast.l1, if_neg (by omega)]
    simp [this]
  | succ d ih =>
    intro i k hi hk h1 h2
    obtain ⟨k, rfl⟩ : ∃ k', k = k' + 1 := ⟨k - 1, by omega⟩
    have q1 : (i : Int) < (l.length : Int) := by omega
    have q2 : (0 : Int) ≤ (i : Int) := by omega
    have q3 : (i : Int) < (ws.length : Int) := by omega
    have q4 : (i : Int) < (a.length : Int) := by omega
    have x4 : wrap64 ((i : Int) + 1) = ((i + 1 : Nat) : Int) := by rw [wrap64_in _ ⟨by omega, by omega⟩]; omega
    have e1 : a.drop i = rdOf false a (i : Int) :: a.drop (i + 1) := by
      rw [rdOf_nat, List.getD_eq_getElem?_getD, List.getElem?_eq_getElem (show i < a.length by omega)]
      exact List.drop_eq_getElem_cons (by omega)
    have e2 : ws.drop i = rdOf false ws (i : Int) :: ws.drop (i + 1) := by
      rw [rdOf_nat, List.getD_eq_getElem?_getD, List.getElem?_eq_getElem (show i < ws.length by omega)]
      exact List.drop_eq_getElem_cons (by omega)
    rw [e1, e2] at h1 h2
    rw [regletlaw14_SearchLeast.l1]
    simp only [if_pos q1, if_pos q2, if_pos q3, if_pos q4, if_true]
    rw [x4]
    by_cases hb : rdOf false ws (i : Int) = rdOf false a (i : Int)
    · rw [if_neg (by simp [hb])]
      refine ih (i + 1) k (by omega) (by omega) (fun e => ?_) (fun e => ?_)
      · have := h1 e
        simp only [behind] at this
        rw [if_pos hb.symm] at this
        exact this
      · exact h2 (by rw [hb, e])
    · rw [if_pos (by simp [hb])]
      by_cases hc : c > v
      · rw [if_pos hc]
      · rw [if_neg hc]
        have := h1 (by omega)
        simp only [behind] at this
        rw [if_neg (fun e => hb e.symm)] at this
        rw [this]

theorem least_l0 {first : Int} {l : List S48} {br : List Bool} {s : S25} {C X : Int} (hn : l.length ≤ 3000) (res : Option Bool) (a : List Bool) (v : Int)
    (hres : ∀ k, 2 * l.length + l.length + 4 ≤ k → regletlaw14_SearchLeast.l0 k first l true a v (right l br l.length) (l.length : Int) br s.f0 s.f1 s.f2 s.f3 s.f4 s.f5 s.f6 s.f7 s.f8 s.f9 s.f10 s.f11 s.f12 s.f13 s.f14 s.f15 s.f16 s.f17 = res) :
    ∀ (d i k : Nat), i + d = l.length → 2 * l.length + l.length + 4 + d ≤ k → regletlaw14_SearchLeast.l0 k first l true a v (right l br i) (i : Int) br s.f0 s.f1 s.f2 s.f3 s.f4 s.f5 s.f6 s.f7 s.f8 s.f9 s.f10 s.f11 s.f12 s.f13 s.f14 s.f15 s.f16 s.f17 = res := by
  intro d
  induction d with
  | zero =>
    intro i k hi hk
    obtain rfl : i = l.length := by omega
    exact hres k (by omega)
  | succ d ih =>
    intro i k hi hk
    obtain ⟨k, rfl⟩ : ∃ k', k = k' + 1 := ⟨k - 1, by omega⟩
    have q1 : (i : Int) < (l.length : Int) := by omega
    have q2 : (0 : Int) ≤ (i : Int) := by omega
    have x4 : wrap64 ((i : Int) + 1) = ((i + 1 : Nat) : Int) := by rw [wrap64_in _ ⟨by omega, by omega⟩]; omega
    have hh := ih (i + 1) k (by omega) (by omega)
    rw [right_succ] at hh
    have hlen : (right l br i).length < 140737488355328 := by rw [right_len]; omega
    rw [regletlaw14_SearchLeast.l0]
    simp only [if_pos q1, if_pos q2, if_pos hlen, x4]
    unfold rt at hh
    by_cases h1 : (i : Int) < (br.length : Int)
    · rw [if_pos h1]
      by_cases h2 : rdOf false br (i : Int) = true
      · rw [if_pos h2]
        by_cases h3 : (rd_T48 l (i : Int)).f3 = true
        · rw [if_pos ⟨by omega, h2, h3⟩] at hh
          rw [if_pos h3]
          exact hh
        · rw [if_neg (fun hx => h3 hx.2.2)] at hh
          rw [if_neg h3]
          exact hh
      · rw [if_neg (fun hx => h2 hx.2.1)] at hh
        rw [if_neg h2]
        exact hh
    · rw [if_neg (fun hx => h1 (by omega))] at hh
      rw [if_neg h1]
      exact hh

theorem law_least (a0 : Int) (l1 : List S48) (l2 : List Bool) (s : S25) (k : Nat) (hk : 4 * l1.length + 20 ≤ k) :
    regletlaw14_SearchLeast.f k a0 l1 l2 s.f0 s.f1 s.f2 s.f3 s.f4 s.f5 s.f6 s.f7 s.f8 s.f9 s.f10 s.f11 s.f12 s.f13 s.f14 s.f15 s.f16 s.f17 = some true := by
  obtain ⟨k, rfl⟩ : ∃ k', k = k' + 1 := ⟨k - 1, by omega⟩
  unfold regletlaw14_SearchLeast.f
  rw [alive_f _ (by omega), Option.bind_some]
  by_cases hl : (l1.length : Int) > 3000
  · rw [if_pos hl, regletlaw14_SearchLeast.j0, if_pos rfl]
  · rw [if_neg hl, regletlaw14_SearchLeast.j0, if_neg (by simp), best_f a0 l1 s, Option.bind_some]
    unfold bestV
    by_cases h0 : chk a0 l1 s.f0 s.f7 = 0
    · have h := chk_zero.1 h0
      rw [if_pos h0]
      simp only [if_true]
      have hst := least_l0 (first := a0) (l := l1) (br := l2) (s := s) (C := s.f0) (X := s.f7) (by omega) (some true) (tk a0 l1 s.f0 s.f7 l1.length 0) (V a0 l1 s.f0 s.f7 l1.length 0) ?_ l1.length 0 k (by omega) (by omega)
      · exact hst
      · intro k hk
        obtain ⟨k, rfl⟩ : ∃ k', k = k' + 2 := ⟨k - 2, by omega⟩
        obtain ⟨c, hc⟩ := walk_some h l2 l1.length 0 a0 0 (by omega)
        have hlow := lower h (right l1 l2 l1.length) l1.length 0 0 a0 0 c (by omega) (by simp [Wp, Ep]) hc
        have hex := exact_ h (tk a0 l1 s.f0 s.f7 l1.length 0) l1.length 0 0 a0 0 (by omega) (by simp [Wp, Ep]) rfl
        rw [Int.zero_add] at hlow hex
        rw [regletlaw14_SearchLeast.l0, if_neg (by omega), cost_f _ _ _ s _ (by omega), cost_f _ _ _ s _ (by omega)]
        simp only [Option.bind_some, costV, if_pos h0, right_len, tk_len, if_true, hc, hex, asCost]
        rw [regletlaw14_SearchLeast.j2, if_neg (by simp; omega)]
        refine least_l1 (tk_len _ _) (right_len _ _ _) h.n hlow l1.length 0 k (by omega) (by omega) (fun e => ?_) (fun e => ?_)
        · exact first_ h (right l1 l2 l1.length) l1.length 0 0 a0 0 (by omega) (right_len _ _ _) (by simp [Wp, Ep]) (by rw [hc, e, Int.zero_add])
        · simp only [List.drop_zero] at e
          rw [e] at hex
          rw [hc] at hex
          exact Option.some.inj hex
    · rw [if_neg h0]
      simp [h0]
end Go.Proofs.Ytmihiememhfmnaa.P
namespace Go.Proofs.Ytmihiememhfmnaa.searchLeast
open Go.ChangeShapes Go.WideShapes Go.ChangeAt Go.RowKit
open Go.ChangeMaps (open_string shut_string)
set_option linter.unusedVariables false
theorem own : ownKnob Try.prog.godebug = none := by kernel_rfl
theorem laidOut : laidOutB Try.prog = true := by kernel_rfl

set_option maxRecDepth 100000 in
theorem lifted (os : Os) (started : os.Started) (H : Type) (enc : TypeId × Value → H) :
    ReturnsInHanded {} Try.checked os 8 .any (Rows.searchLeastSpec.pre6 enc Try.prog Try.f8 Rows.searchLeastRow.domain false) (Rows.searchLeastSpec.post enc Try.prog Try.f8 false true false false) := by
  refine returnsInHanded_of_change_sized (C := Try.checked) own started (by kernel_rfl) Try.func8
    (ChangeSpec.witness6 (enc := enc) (C := Try.checked) false ⟨#[], #[.int .i64 0, .slice none 0 0, .agg #[.slice none 0 0, .int .i64 0, .int .i64 0, .int .i64 0, .int .i64 0, .bool false, .bool false, .bool false, .int .i64 0, .int .i64 0, .int .i64 0, .int .i64 0, .int .i64 0, .int .i64 0, .int .i64 0, .int .i64 0, .int .i64 0, .int .i64 0, .int .i64 0]], []⟩ 8 (by kernel_rfl) (by kernel_rfl) (by kernel_rfl) (by kernel_rfl)) ?_
  intro W base args ds gs before hval0 hW hcnd hsz0 _
  have hsz : (DataW.weightsEach Try.prog (Try.f8.params.toList ++ Rows.searchLeastSpec.plain.varTypes Try.prog) (ds ++ gs)).all (· ≤ reachBytes) = true := hsz0
  have hval : ∀ (j : Nat) t v, Try.f8.params[j]? = some t → args[j]? = some v → Value.okWide Try.prog W .any base t v := hval0
  have hW' := hW
  obtain ⟨p, q, hA0, hV, rfl, hfz, hnd⟩ := hW
  have hA : DataW.TrodAll enc Try.prog W 0 (fun _ => true) true Try.f8.params.toList args.toList ds p := hA0
  rw [Try.params8] at hA hval hsz
  obtain ⟨v0, vs0, d0, ds0, p0, q0, hargs, rfl, rfl, h0, r0⟩ := trodAll_cons hA
  obtain ⟨v1, vs1, d1, ds1, p1, q1, rfl, rfl, rfl, h1, r1⟩ := trodAll_cons r0
  obtain ⟨v2, vs2, d2, ds2, p2, q2, rfl, rfl, rfl, h2, r2⟩ := trodAll_cons r1
  obtain ⟨rfl, rfl, rfl⟩ := trodAll_nil r2
  obtain rfl : args = #[v0, v1, v2] := by cases args; simp_all
  obtain ⟨rfl, rfl⟩ := trodVars_none hV
  obtain ⟨a0, rfl, rfl, rfl, w0⟩ := open_int Try.underlying3 (hval 0 3 v0 rfl rfl) h0
  obtain ⟨a1, len1, cap1, rfl⟩ := okWide_slice Try.underlying22 (hval 1 22 v1 rfl rfl)
  have k1 := h1
  have lt1 : ∀ x ∈ p1, x.block < W.heap.size := by obtain ⟨m, hm⟩ := k1; exact DataW.trod_lt m _ _ _ hm
  obtain ⟨l1, hl1, hc1, hr1⟩ : ∃ l : List P.S48, l.length = len1 ∧ len1 ≤ cap1 ∧ YtmihiememhfmnaaW.PrintWords.Kd.C P.k48 W a1 len1 l := by
    obtain ⟨fuel, hf⟩ := h1
    exact P.open_gaps (fuel := fuel) (by simpa [Value.cells] using hf)
  have k2 := h2
  have lt2 : ∀ x ∈ p2, x.block < W.heap.size := by obtain ⟨m, hm⟩ := k2; exact DataW.trod_lt m _ _ _ hm
  obtain ⟨a2, len2, cap2, l2, s, rfl, hl2, hc2, hr2, _⟩ := P.open_way (hval 2 27 v2 rfl rfl) h2
  clear hA0 hval0 hsz0 hsz
  subst hl1 hl2
  have hp := P.law_least a0 l1 l2 s (4 * l1.length + 20) (Nat.le_refl _)
  refine (P.regletlaw14_SearchLeast.calls _ a0 a1 cap1 l1 a2 cap2 l2 s.f0 s.f1 s.f2 s.f3 s.f4 s.f5 s.f6 s.f7 s.f8 s.f9 s.f10 s.f11 s.f12 s.f13 s.f14 s.f15 s.f16 s.f17 true W hr1 hc1 hr2 hc2 hp).mono fun e W' ⟨he, bel⟩ => ?_
  subst he
  exact ⟨_, rfl, _, _, _, [], _, [], hW', trodAll_mk1 (shut_bool Try.underlying4 _), (trodAll_cons_mk (shut_int Try.underlying3 w0) (trodAll_cons_mk (Below.trod laidOut (by kernel_rfl) (of_decide_eq_true (by kernel_rfl)) k1 bel lt1) (trodAll_cons_mk (Below.trod laidOut (by kernel_rfl) (of_decide_eq_true (by kernel_rfl)) k2 bel lt2) trodAll_mk0))), rfl, bel.frame _, fun h => by cases h⟩

theorem over : Rows.searchLeastRow.holds Try.pinned (OpenSpec.ofChange Rows.searchLeastSpec) :=
  OpenClaim.holds_of_wide 8 Try.f8 rfl rfl rfl rfl rfl rfl rfl ⟨rfl, rfl, rfl, rfl, rfl⟩ rfl rfl rfl rfl rfl (by kernel_rfl) Try.func8 (by kernel_rfl)
    (of_decide_eq_true (by kernel_rfl)) (by unfold Func.isWrapper; first | (rw [if_pos (by decide +kernel)]; kernel_rfl) | (rw [if_neg (by decide +kernel)]; exact ⟨rfl, rfl⟩))
    (fun os started H enc _ => lifted os started H enc)
theorem proved : Rows.SearchLeastSaid := over
#print axioms proved
end Go.Proofs.Ytmihiememhfmnaa.searchLeast
namespace Go.Proofs.Ytmihiememhfmnaa
/-- The row, under a short name, for the claim. -/
theorem SearchLeast_holds : Rows.SearchLeastSaid := searchLeast.proved
end Go.Proofs.Ytmihiememhfmnaa
