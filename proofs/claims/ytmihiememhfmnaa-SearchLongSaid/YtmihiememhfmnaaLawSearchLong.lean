/- For every first column, every line of gaps and every style, regletlaw14.SearchLong returns true, never panics, and its arguments read behind the call as they read before. Conditions: none beyond the row's own. (The text has the shape of the kit's printed rows, turned by hand to a slice of structs and a struct.) -/
import Derived.Test.YtmihiememhfmnaaRows
import Derived.Test.YtmihiememhfmnaaOpen
import Derived.WalkKit
import Derived.ProofKit
import Derived.OpenShut
import Derived.ShutString
import Derived.ChangeOld
import Derived.Below
import Derived.SizedLaws
import Derived.Carry
import Derived.Test.YtmihiememhfmnaaM4
import Derived.Test.YtmihiememhfmnaaF5
namespace Go.Proofs.Ytmihiememhfmnaa.P
open Go Go.RowKit Go.Proofs.YtmihiememhfmnaaW.PrintWords Go.Proofs.YtmihiememhfmnaaW.PrintLast Go.Proofs.YtmihiememhfmnaaW.PrintMore
set_option linter.unusedVariables false

theorem law_long (a0 : Int) (l1 : List S48) (s : S25) (k : Nat) (hk : 4 * l1.length + 5000 ≤ k) :
    regletlaw14_SearchLong.f k a0 l1 s.f0 s.f1 s.f2 s.f3 s.f4 s.f5 s.f6 s.f7 s.f8 s.f9 s.f10 s.f11 s.f12 s.f13 s.f14 s.f15 s.f16 s.f17 = some true := by
  obtain ⟨k, rfl⟩ : ∃ k', k = k' + 1 := ⟨k - 1, by omega⟩
  have main : l1.length ≤ 70000 → regletlaw14_SearchLong.j0 (k + 1) a0 l1 false s.f0 s.f1 s.f2 s.f3 s.f4 s.f5 s.f6 s.f7 s.f8 s.f9 s.f10 s.f11 s.f12 s.f13 s.f14 s.f15 s.f16 s.f17 = some true := fun hn => by
    rw [regletlaw14_SearchLong.j0, if_neg (by simp), best_f a0 l1 s, refcheck_f a0 l1 s k (by omega)]
    simp only [Option.bind_some]
    unfold bestV regletref14_Long.f
    by_cases h0 : chk a0 l1 s.f0 s.f7 = 0
    · rw [if_pos h0, if_pos h0, if_pos h0]
      simp only [Option.bind_some, if_true]
      rw [same_f _ _ (by rw [tk_len]; omega) k (by rw [tk_len]; omega)]
      simp
    · rw [if_neg h0, if_neg h0]
      simp
  unfold regletlaw14_SearchLong.f
  have all : ∀ b : Bool, (b = false → l1.length ≤ 70000) → regletlaw14_SearchLong.j0 (k + 1) a0 l1 b s.f0 s.f1 s.f2 s.f3 s.f4 s.f5 s.f6 s.f7 s.f8 s.f9 s.f10 s.f11 s.f12 s.f13 s.f14 s.f15 s.f16 s.f17 = some true := fun b hb => by
    cases b with
    | true => rw [regletlaw14_SearchLong.j0, if_pos rfl]
    | false => exact main (hb rfl)
  repeat' split
  all_goals refine all _ (fun hb => ?_)
  all_goals first | (simp at hb; done) | (have := of_decide_eq_false hb; omega)
end Go.Proofs.Ytmihiememhfmnaa.P
namespace Go.Proofs.Ytmihiememhfmnaa.searchLong
open Go.ChangeShapes Go.WideShapes Go.ChangeAt Go.RowKit
open Go.ChangeMaps (open_string shut_string)
set_option linter.unusedVariables false
theorem own : ownKnob Try.prog.godebug = none := by kernel_rfl
theorem laidOut : laidOutB Try.prog = true := by kernel_rfl

set_option maxRecDepth 100000 in
theorem lifted (os : Os) (started : os.Started) (H : Type) (enc : TypeId × Value → H) :
    ReturnsInHanded {} Try.checked os 5 .any (Rows.searchLongSpec.pre6 enc Try.prog Try.f5 Rows.searchLongRow.domain false) (Rows.searchLongSpec.post enc Try.prog Try.f5 false true false false) := by
  refine returnsInHanded_of_change_sized (C := Try.checked) own started (by kernel_rfl) Try.func5
    (ChangeSpec.witness6 (enc := enc) (C := Try.checked) false ⟨#[], #[.int .i64 0, .slice none 0 0, .agg #[.int .i64 0, .int .i64 0, .int .i64 0, .int .i64 0, .bool false, .bool false, .bool false, .int .i64 0, .int .i64 0, .int .i64 0, .int .i64 0, .int .i64 0, .int .i64 0, .int .i64 0, .int .i64 0, .int .i64 0, .int .i64 0, .int .i64 0]], []⟩ 8 (by kernel_rfl) (by kernel_rfl) (by kernel_rfl) (by kernel_rfl)) ?_
  intro W base args ds gs before hval0 hW hcnd hsz0 _
  have hsz : (DataW.weightsEach Try.prog (Try.f5.params.toList ++ Rows.searchLongSpec.plain.varTypes Try.prog) (ds ++ gs)).all (· ≤ reachBytes) = true := hsz0
  have hval : ∀ (j : Nat) t v, Try.f5.params[j]? = some t → args[j]? = some v → Value.okWide Try.prog W .any base t v := hval0
  have hW' := hW
  obtain ⟨p, q, hA0, hV, rfl, hfz, hnd⟩ := hW
  have hA : DataW.TrodAll enc Try.prog W 0 (fun _ => true) true Try.f5.params.toList args.toList ds p := hA0
  rw [Try.params5] at hA hval hsz
  obtain ⟨v0, vs0, d0, ds0, p0, q0, hargs, rfl, rfl, h0, r0⟩ := trodAll_cons hA
  obtain ⟨v1, vs1, d1, ds1, p1, q1, rfl, rfl, rfl, h1, r1⟩ := trodAll_cons r0
  obtain ⟨v2, vs2, d2, ds2, p2, q2, rfl, rfl, rfl, h2, r2⟩ := trodAll_cons r1
  obtain ⟨rfl, rfl, rfl⟩ := trodAll_nil r2
  obtain rfl : args = #[v0, v1, v2] := by cases args; simp_all
  obtain ⟨rfl, rfl⟩ := trodVars_none hV
  obtain ⟨a0, rfl, rfl, rfl, w0⟩ := open_int Try.underlying3 (hval 0 3 v0 rfl rfl) h0
  obtain ⟨a1, len1, cap1, rfl⟩ := okWide_slice Try.underlying22 (hval 1 22 v1 rfl rfl)
  have k1 := h1
  have lt1 : ∀ x ∈ p1, x.block < W.heap.size := by obtain ⟨m, hm⟩ := k1; exact DataW.trod_lt m _ _ _ hm
  obtain ⟨l1, hl1, hc1, hr1⟩ : ∃ l : List P.S48, l.length = len1 ∧ len1 ≤ cap1 ∧ YtmihiememhfmnaaW.PrintWords.Kd.C P.k48 W a1 len1 l := by
    obtain ⟨fuel, hf⟩ := h1
    exact P.open_gaps (fuel := fuel) (by simpa [Value.cells] using hf)
  have k2 := h2
  have lt2 : ∀ x ∈ p2, x.block < W.heap.size := by obtain ⟨m, hm⟩ := k2; exact DataW.trod_lt m _ _ _ hm
  obtain ⟨s, rfl⟩ := P.open_style (hval 2 25 v2 rfl rfl) h2
  clear hA0 hval0 hsz0 hsz
  subst hl1
  have hp := P.law_long a0 l1 s (4 * l1.length + 5000) (Nat.le_refl _)
  refine (P.regletlaw14_SearchLong.calls _ a0 a1 cap1 l1 s.f0 s.f1 s.f2 s.f3 s.f4 s.f5 s.f6 s.f7 s.f8 s.f9 s.f10 s.f11 s.f12 s.f13 s.f14 s.f15 s.f16 s.f17 true W hr1 hc1 hp).mono fun e W' ⟨he, bel⟩ => ?_
  subst he
  exact ⟨_, rfl, _, _, _, [], _, [], hW', trodAll_mk1 (shut_bool Try.underlying4 _), (trodAll_cons_mk (shut_int Try.underlying3 w0) (trodAll_cons_mk (Below.trod laidOut (by kernel_rfl) (of_decide_eq_true (by kernel_rfl)) k1 bel lt1) (trodAll_cons_mk (Below.trod laidOut (by kernel_rfl) (of_decide_eq_true (by kernel_rfl)) k2 bel lt2) trodAll_mk0))), rfl, bel.frame _, fun h => by cases h⟩

theorem over : Rows.searchLongRow.holds Try.pinned (OpenSpec.ofChange Rows.searchLongSpec) :=
  OpenClaim.holds_of_wide 5 Try.f5 rfl rfl rfl rfl rfl rfl rfl ⟨rfl, rfl, rfl, rfl, rfl⟩ rfl rfl rfl rfl rfl (by kernel_rfl) Try.func5 (by kernel_rfl)
    (of_decide_eq_true (by kernel_rfl)) (by unfold Func.isWrapper; first | (rw [if_pos (by decide +kernel)]; kernel_rfl) | (rw [if_neg (by decide +kernel)]; exact ⟨rfl, rfl⟩))
    (fun os started H enc _ => lifted os started H enc)
theorem proved : Rows.SearchLongSaid := over
#print axioms proved
end Go.Proofs.Ytmihiememhfmnaa.searchLong
namespace Go.Proofs.Ytmihiememhfmnaa
/-- The row, under a short name, for the claim. -/
theorem SearchLong_holds : Rows.SearchLongSaid := searchLong.proved
end Go.Proofs.Ytmihiememhfmnaa
