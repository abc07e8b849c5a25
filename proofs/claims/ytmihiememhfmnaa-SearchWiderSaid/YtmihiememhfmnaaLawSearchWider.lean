/- For every first column, every line of gaps, every style and how much more, regletlaw14.SearchWider returns true, never panics, and its arguments read behind the call as they read before. Conditions: none beyond the row's own. (The text has the shape of the kit's printed rows, turned by hand to a slice of structs and a struct.) -/
import Derived.Test.YtmihiememhfmnaaRows
import Derived.Test.YtmihiememhfmnaaOpen
import Derived.WalkKit
import Derived.ProofKit
import Derived.OpenShut
import Derived.ShutString
import Derived.ChangeOld
import Derived.Below
import Derived.SizedLaws
import Derived.Carry
import Derived.Test.YtmihiememhfmnaaH6
namespace Go.Proofs.Ytmihiememhfmnaa.P
open Go Go.RowKit Go.ChangeShapes Go.WideShapes Go.Deep Go.Proofs.YtmihiememhfmnaaW.PrintWords Go.Proofs.YtmihiememhfmnaaW.PrintLast Go.Proofs.YtmihiememhfmnaaW.PrintMore
set_option linter.unusedVariables false
set_option linter.unusedSimpArgs false

theorem open_wide {H : Type} {enc : TypeId × Value → H} {w : World} {base : Nat} {spare : Nat → Bool} {held : Bool} {r : Reach} {b0 : Nat} {v : Value} {d : DataW H} {p : List MemPlace} (hv : Value.okWide Try.prog w r b0 44 v) (h : DataW.Trod enc Try.prog w base spare held 44 v d p) :
    ∃ (s : S25) (m : Int), v = .agg #[.int .i64 s.f0, .int .i64 s.f1, .int .i64 s.f2, .int .i64 s.f3, .bool s.f4, .bool s.f5, .bool s.f6, .int .i64 s.f7, .int .i64 s.f8, .int .i64 s.f9, .int .i64 s.f10, .int .i64 s.f11, .int .i64 s.f12, .int .i64 s.f13, .int .i64 s.f14, .int .i64 s.f15, .int .i64 s.f16, .int .i64 s.f17, .int .i64 m] := by
  obtain ⟨cs, rfl, hsz⟩ := okWide_struct Try.underlying44 hv
  obtain ⟨fuel, hf⟩ := h
  obtain ⟨xs, n, _, hx, hlen, hxl, hg⟩ := DataW.trod_struct Try.underlying44 hf
  have k3 : Try.prog.cellsOf 3 = 1 := by kernel_rfl
  have k25 : Try.prog.cellsOf 25 = 18 := by kernel_rfl
  have h0 := hg 0 _ rfl
  have h1 := hg 1 _ rfl
  obtain ⟨l⟩ := cs
  have hl : l.length = 19 := hsz.trans (by kernel_rfl)
  match l, hl with
  | [c0, c1, c2, c3, c4, c5, c6, c7, c8, c9, c10, c11, c12, c13, c14, c15, c16, c17, c18], _ =>
    simp [Value.cells, k25] at h0
    simp [Value.cells, k3] at h1
    have hxl2 : xs.length = 2 := hxl
    match xs, hxl2 with
    | [y0, y1], _ =>
      simp at h0 h1
      obtain ⟨g, hg25⟩ := open25 h0
      obtain ⟨m, hc, _⟩ := DataW.trod_int Try.underlying3 h1
      simp only [List.cons.injEq, and_true] at hg25 hc
      refine ⟨g, m, ?_⟩
      simp [hg25, hc]

theorem law_wider (first : Int) (A : Option Addr) (c : Nat) (l : List S48) (s : S25) (m : Int) (w : World) (hr1 : Kd.C k48 w A l.length l) (hc1 : l.length ≤ c) :
    Calls Try.prog 6 #[.int .i64 first, .slice A l.length c, .agg #[.int .i64 s.f0, .int .i64 s.f1, .int .i64 s.f2, .int .i64 s.f3, .bool s.f4, .bool s.f5, .bool s.f6, .int .i64 s.f7, .int .i64 s.f8, .int .i64 s.f9, .int .i64 s.f10, .int .i64 s.f11, .int .i64 s.f12, .int .i64 s.f13, .int .i64 s.f14, .int .i64 s.f15, .int .i64 s.f16, .int .i64 s.f17, .int .i64 m]] w fun e w' => e = .returned (.bool true) ∧ Below w.heap.size w w' := by
  refine wider_any first A c l s m w hr1 hc1 (bestV first l s.f0 s.f7).1 (bestV first l (wrap64 (s.f0 + m)) s.f7).1 (bestV first l s.f0 (wrap64 (s.f7 + m))).1 (bestV first l s.f0 s.f7).2.1 (bestV first l (wrap64 (s.f0 + m)) s.f7).2.1 (bestV first l s.f0 (wrap64 (s.f7 + m))).2.1 (bestV first l s.f0 s.f7).2.2 (bestV first l (wrap64 (s.f0 + m)) s.f7).2.2 (bestV first l s.f0 (wrap64 (s.f7 + m))).2.2 (best_f first l s) (best_f' first l _ _ _ _ _ _ _ _ _ _ _ _ _ _ _ _ _ _) (best_f' first l _ _ _ _ _ _ _ _ _ _ _ _ _ _ _ _ _ _) ?_
  intro h1 hm0 hm1
  have hk : ∀ {C X : Int}, (bestV first l C X).2.2 = 0 → chk first l C X = 0 ∧ (bestV first l C X).2.1 = V first l C X l.length 0 := fun {C X} hb => by
    unfold bestV at hb ⊢
    by_cases h0 : chk first l C X = 0
    · rw [if_pos h0]; exact ⟨h0, rfl⟩
    · rw [if_neg h0] at hb; exact absurd hb h0
  obtain ⟨k1, v1⟩ := hk h1
  have hf := chk_zero.1 k1
  have hC1 := hf.C1; have hC2 := hf.C2; have hX0 := hf.X0; have hX1 := hf.X1
  rw [v1, wrap64_in (s.f0 + m) ⟨by omega, by omega⟩, wrap64_in (s.f7 + m) ⟨by omega, by omega⟩]
  refine ⟨fun h2 => ?_, fun h3 => ?_⟩
  · rw [(hk h2).2]
    exact V_mono (fun w => ovI_wider hX0 hm0 w) _ _
  · rw [(hk h3).2]
    exact V_mono (fun w => ovI_dearer hm0 w) _ _
end Go.Proofs.Ytmihiememhfmnaa.P
namespace Go.Proofs.Ytmihiememhfmnaa.searchWider
open Go.ChangeShapes Go.WideShapes Go.ChangeAt Go.RowKit
open Go.ChangeMaps (open_string shut_string)
set_option linter.unusedVariables false
theorem own : ownKnob Try.prog.godebug = none := by kernel_rfl
theorem laidOut : laidOutB Try.prog = true := by kernel_rfl

set_option maxRecDepth 100000 in
theorem lifted (os : Os) (started : os.Started) (H : Type) (enc : TypeId × Value → H) :
    ReturnsInHanded {} Try.checked os 6 .any (Rows.searchWiderSpec.pre6 enc Try.prog Try.f6 Rows.searchWiderRow.domain false) (Rows.searchWiderSpec.post enc Try.prog Try.f6 false true false false) := by
  refine returnsInHanded_of_change_sized (C := Try.checked) own started (by kernel_rfl) Try.func6
    (ChangeSpec.witness6 (enc := enc) (C := Try.checked) false ⟨#[], #[.int .i64 0, .slice none 0 0, .agg #[.int .i64 0, .int .i64 0, .int .i64 0, .int .i64 0, .bool false, .bool false, .bool false, .int .i64 0, .int .i64 0, .int .i64 0, .int .i64 0, .int .i64 0, .int .i64 0, .int .i64 0, .int .i64 0, .int .i64 0, .int .i64 0, .int .i64 0, .int .i64 0]], []⟩ 8 (by kernel_rfl) (by kernel_rfl) (by kernel_rfl) (by kernel_rfl)) ?_
  intro W base args ds gs before hval0 hW hcnd hsz0 _
  have hsz : (DataW.weightsEach Try.prog (Try.f6.params.toList ++ Rows.searchWiderSpec.plain.varTypes Try.prog) (ds ++ gs)).all (· ≤ reachBytes) = true := hsz0
  have hval : ∀ (j : Nat) t v, Try.f6.params[j]? = some t → args[j]? = some v → Value.okWide Try.prog W .any base t v := hval0
  have hW' := hW
  obtain ⟨p, q, hA0, hV, rfl, hfz, hnd⟩ := hW
  have hA : DataW.TrodAll enc Try.prog W 0 (fun _ => true) true Try.f6.params.toList args.toList ds p := hA0
  rw [Try.params6] at hA hval hsz
  obtain ⟨v0, vs0, d0, ds0, p0, q0, hargs, rfl, rfl, h0, r0⟩ := trodAll_cons hA
  obtain ⟨v1, vs1, d1, ds1, p1, q1, rfl, rfl, rfl, h1, r1⟩ := trodAll_cons r0
  obtain ⟨v2, vs2, d2, ds2, p2, q2, rfl, rfl, rfl, h2, r2⟩ := trodAll_cons r1
  obtain ⟨rfl, rfl, rfl⟩ := trodAll_nil r2
  obtain rfl : args = #[v0, v1, v2] := by cases args; simp_all
  obtain ⟨rfl, rfl⟩ := trodVars_none hV
  obtain ⟨a0, rfl, rfl, rfl, w0⟩ := open_int Try.underlying3 (hval 0 3 v0 rfl rfl) h0
  obtain ⟨a1, len1, cap1, rfl⟩ := okWide_slice Try.underlying22 (hval 1 22 v1 rfl rfl)
  have k1 := h1
  have lt1 : ∀ x ∈ p1, x.block < W.heap.size := by obtain ⟨m, hm⟩ := k1; exact DataW.trod_lt m _ _ _ hm
  obtain ⟨l1, hl1, hc1, hr1⟩ : ∃ l : List P.S48, l.length = len1 ∧ len1 ≤ cap1 ∧ YtmihiememhfmnaaW.PrintWords.Kd.C P.k48 W a1 len1 l := by
    obtain ⟨fuel, hf⟩ := h1
    exact P.open_gaps (fuel := fuel) (by simpa [Value.cells] using hf)
  have k2 := h2
  have lt2 : ∀ x ∈ p2, x.block < W.heap.size := by obtain ⟨m, hm⟩ := k2; exact DataW.trod_lt m _ _ _ hm
  obtain ⟨s, m, rfl⟩ := P.open_wide (hval 2 44 v2 rfl rfl) h2
  clear hA0 hval0 hsz0 hsz
  subst hl1
  refine (P.law_wider a0 a1 cap1 l1 s m W hr1 hc1).mono fun e W' ⟨he, bel⟩ => ?_
  subst he
  exact ⟨_, rfl, _, _, _, [], _, [], hW', trodAll_mk1 (shut_bool Try.underlying4 _), (trodAll_cons_mk (shut_int Try.underlying3 w0) (trodAll_cons_mk (Below.trod laidOut (by kernel_rfl) (of_decide_eq_true (by kernel_rfl)) k1 bel lt1) (trodAll_cons_mk (Below.trod laidOut (by kernel_rfl) (of_decide_eq_true (by kernel_rfl)) k2 bel lt2) trodAll_mk0))), rfl, bel.frame _, fun h => by cases h⟩

theorem over : Rows.searchWiderRow.holds Try.pinned (OpenSpec.ofChange Rows.searchWiderSpec) :=
  OpenClaim.holds_of_wide 6 Try.f6 rfl rfl rfl rfl rfl rfl rfl ⟨rfl, rfl, rfl, rfl, rfl⟩ rfl rfl rfl rfl rfl (by kernel_rfl) Try.func6 (by kernel_rfl)
    (of_decide_eq_true (by kernel_rfl)) (by unfold Func.isWrapper; first | (rw [if_pos (by decide +kernel)]; kernel_rfl) | (rw [if_neg (by decide +kernel)]; exact ⟨rfl, rfl⟩))
    (fun os started H enc _ => lifted os started H enc)
theorem proved : Rows.SearchWiderSaid := over
#print axioms proved
end Go.Proofs.Ytmihiememhfmnaa.searchWider
namespace Go.Proofs.Ytmihiememhfmnaa
/-- The row, under a short name, for the claim. -/
theorem SearchWider_holds : Rows.SearchWiderSaid := searchWider.proved
end Go.Proofs.Ytmihiememhfmnaa
