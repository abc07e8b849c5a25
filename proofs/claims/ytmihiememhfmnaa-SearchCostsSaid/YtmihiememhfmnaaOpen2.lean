/- What came in, opened: a Way (bools and a style), a Wide (a style and a number), a style. -/
import Derived.Test.YtmihiememhfmnaaOpen
import Derived.WideShapes
namespace Go.Proofs.Ytmihiememhfmnaa.P
open Go Go.RowKit Go.ChangeShapes Go.WideShapes Go.Deep Go.Proofs.YtmihiememhfmnaaW.PrintWords Go.Proofs.YtmihiememhfmnaaW.PrintLast Go.Proofs.YtmihiememhfmnaaW.PrintMore
set_option linter.unusedVariables false
set_option linter.unusedSimpArgs false

section
variable {H : Type} {enc : TypeId × Value → H} {w : World} {base : Nat} {spare : Nat → Bool} {held : Bool}

theorem open_way {r : Reach} {b0 : Nat} {v : Value} {d : DataW H} {p : List MemPlace} (hv : Value.okWide Try.prog w r b0 27 v) (h : DataW.Trod enc Try.prog w base spare held 27 v d p) :
    ∃ (a : Option Addr) (len cap : Nat) (bl : List Bool) (s : S25), v = .agg #[.slice a len cap, .int .i64 s.f0, .int .i64 s.f1, .int .i64 s.f2, .int .i64 s.f3, .bool s.f4, .bool s.f5, .bool s.f6, .int .i64 s.f7, .int .i64 s.f8, .int .i64 s.f9, .int .i64 s.f10, .int .i64 s.f11, .int .i64 s.f12, .int .i64 s.f13, .int .i64 s.f14, .int .i64 s.f15, .int .i64 s.f16, .int .i64 s.f17] ∧
      bl.length = len ∧ len ≤ cap ∧ Kd.C Kd.bool w a len bl ∧ ((∀ n ∈ d.weights Try.prog 27, n ≤ reachBytes) → len ≤ 140737488351232) := by
  obtain ⟨cs, rfl, hsz⟩ := okWide_struct Try.underlying27 hv
  obtain ⟨fuel, hf⟩ := h
  obtain ⟨xs, n, _, hx, hlen, hxl, hg⟩ := DataW.trod_struct Try.underlying27 hf
  have k23 : Try.prog.cellsOf 23 = 1 := by kernel_rfl
  have k25 : Try.prog.cellsOf 25 = 18 := by kernel_rfl
  have h0 := hg 0 _ rfl
  have h1 := hg 1 _ rfl
  obtain ⟨l⟩ := cs
  have hl : l.length = 19 := hsz.trans (by kernel_rfl)
  match l, hl with
  | [c0, c1, c2, c3, c4, c5, c6, c7, c8, c9, c10, c11, c12, c13, c14, c15, c16, c17, c18], _ =>
    simp [Value.cells, k23] at h0
    simp [Value.cells, k25] at h1
    have hxl2 : xs.length = 2 := hxl
    match xs, hxl2 with
    | [y0, y1], _ =>
      simp at h0 h1
      obtain ⟨g, hg25⟩ := open25 h1
      simp only [List.cons.injEq, and_true] at hg25
      rcases open_slice Try.underlying23 h0 with ⟨hcs, _⟩ | ⟨ad, len', cap', m, n', D, Pl, hcs, hb, hl, hm, hmm, hx0, hi⟩
      · simp only [List.cons.injEq, and_true] at hcs
        subst hcs
        obtain ⟨bl, hb1, hb2, hb3⟩ := open_bools h0
        refine ⟨none, 0, 0, bl, g, ?_, hb1, hb2, hb3, fun _ => by omega⟩
        simp [hg25]
      · simp only [List.cons.injEq, and_true] at hcs
        subst hcs
        obtain ⟨bl, hb1, hb2, hb3⟩ := open_bools h0
        refine ⟨some ad, len', cap', bl, g, ?_, hb1, hb2, hb3, fun hw => ?_⟩
        · simp [hg25]
        · have hd : d = .agg [y0.1, y1.1] := by
            have := (Prod.mk.inj hx).1
            simpa using this
          subst hd
          have hy : y0.1 = .slice ((List.range len').map D) ((List.range (m - len')).map fun j => D (len' + j)) := by rw [hx0]
          have hmem : (((List.range len').map D).length + ((List.range (m - len')).map fun j => D (len' + j)).length) * Try.prog.bytesOf 4 ∈ (DataW.agg [y0.1, y1.1] : DataW H).weights Try.prog 27 := by
            simp only [DataW.weights, Try.underlying27]
            refine DataW.weights_mem_each (j := 0) (t := 23) (d := y0.1) rfl rfl _ ?_
            rw [hy]
            simp [DataW.weights, Try.underlying23]
          have := hw _ hmem
          have hby : Try.prog.bytesOf 4 = 1 := by kernel_rfl
          rw [hby] at this
          simp [reachBytes] at this
          omega
end
end Go.Proofs.Ytmihiememhfmnaa.P
