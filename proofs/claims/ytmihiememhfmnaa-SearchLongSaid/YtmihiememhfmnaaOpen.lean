/- What came in, opened: a slice of gaps, a slice of bools, a style. -/
import Derived.Test.YtmihiememhfmnaaPx1
import Derived.Deep.Slices
import Derived.Deep.Fields
import Derived.ChangeSame
import Derived.ChangeArms
import Derived.SizedLaws
import Derived.WideShapes
namespace Go.Proofs.Ytmihiememhfmnaa.P
open Go Go.RowKit Go.ChangeShapes Go.WideShapes Go.Deep Go.Proofs.YtmihiememhfmnaaW.PrintWords Go.Proofs.YtmihiememhfmnaaW.PrintLast Go.Proofs.YtmihiememhfmnaaW.PrintMore
set_option linter.unusedVariables false
set_option linter.unusedSimpArgs false

section
variable {H : Type} {enc : TypeId × Value → H} {w : World} {base : Nat} {spare : Nat → Bool} {held : Bool}

theorem one_of_take {cs : List Value} {o c : Nat} {v : Value} (h : (cs.drop o).take c = [v]) : cs[o]? = some v := by
  have h1 : ((cs.drop o).take c)[0]? = some v := by rw [h]; rfl
  rw [List.getElem?_take] at h1
  split at h1
  · rw [List.getElem?_drop] at h1
    simpa using h1
  · cases h1

theorem field_int {fs : Array Field} {k : IntKind} {n : Nat} {cs : List Value} {xs : List (DataW H × List MemPlace)}
    (hf : ∀ (i : Nat) (f : Field), fs[i]? = some f → DataW.trod enc Try.prog w base spare held n f.type ((cs.drop f.offset).take (Try.prog.cellsOf f.type)) = xs[i]?)
    (hl : xs.length = fs.size) (i : Nat) (f : Field) (hi : fs[i]? = some f) (hk : Try.prog.underlying f.type = some (.int k)) : ∃ v, cs[f.offset]? = some (.int k v) := by
  have hil : i < xs.length := by rw [hl]; exact (Array.getElem?_eq_some_iff.1 hi).1
  have h1 := hf i f hi
  rw [List.getElem?_eq_getElem hil] at h1
  obtain ⟨v, hc, _⟩ := DataW.trod_int hk h1
  exact ⟨v, one_of_take hc⟩

theorem field_bool {fs : Array Field} {n : Nat} {cs : List Value} {xs : List (DataW H × List MemPlace)}
    (hf : ∀ (i : Nat) (f : Field), fs[i]? = some f → DataW.trod enc Try.prog w base spare held n f.type ((cs.drop f.offset).take (Try.prog.cellsOf f.type)) = xs[i]?)
    (hl : xs.length = fs.size) (i : Nat) (f : Field) (hi : fs[i]? = some f) (hk : Try.prog.underlying f.type = some .bool) : ∃ v, cs[f.offset]? = some (.bool v) := by
  have hil : i < xs.length := by rw [hl]; exact (Array.getElem?_eq_some_iff.1 hi).1
  have h1 := hf i f hi
  rw [List.getElem?_eq_getElem hil] at h1
  obtain ⟨v, hc, _⟩ := DataW.trod_bool hk h1
  exact ⟨v, one_of_take hc⟩

theorem open48 {fuel : Nat} {cs : List Value} {x : DataW H × List MemPlace} (h : DataW.trod enc Try.prog w base spare held fuel 48 cs = some x) :
    ∃ g : S48, cs = [.int .i64 g.f0, .int .i64 g.f1, .bool g.f2, .bool g.f3, .int .i64 g.f4, .int .i64 g.f5] := by
  obtain ⟨xs, n, _, _, hlen, hxl, hf⟩ := DataW.trod_struct Try.underlying48 h
  replace hlen : cs.length = 6 := hlen.trans (by kernel_rfl)
  obtain ⟨v0, e0⟩ := field_int hf hxl 0 _ rfl Try.underlying3
  obtain ⟨v1, e1⟩ := field_int hf hxl 1 _ rfl Try.underlying3
  obtain ⟨v2, e2⟩ := field_bool hf hxl 2 _ rfl Try.underlying4
  obtain ⟨v3, e3⟩ := field_bool hf hxl 3 _ rfl Try.underlying4
  obtain ⟨v4, e4⟩ := field_int hf hxl 4 _ rfl Try.underlying3
  obtain ⟨v5, e5⟩ := field_int hf hxl 5 _ rfl Try.underlying3
  refine ⟨⟨v0, v1, v2, v3, v4, v5⟩, ?_⟩
  match cs, hlen with
  | [c0, c1, c2, c3, c4, c5], _ =>
    simp at e0 e1 e2 e3 e4 e5
    simp [e0, e1, e2, e3, e4, e5]

theorem open25 {fuel : Nat} {cs : List Value} {x : DataW H × List MemPlace} (h : DataW.trod enc Try.prog w base spare held fuel 25 cs = some x) :
    ∃ g : S25, cs = [.int .i64 g.f0, .int .i64 g.f1, .int .i64 g.f2, .int .i64 g.f3, .bool g.f4, .bool g.f5, .bool g.f6, .int .i64 g.f7, .int .i64 g.f8, .int .i64 g.f9, .int .i64 g.f10, .int .i64 g.f11, .int .i64 g.f12, .int .i64 g.f13, .int .i64 g.f14, .int .i64 g.f15, .int .i64 g.f16, .int .i64 g.f17] := by
  obtain ⟨xs, n, _, _, hlen, hxl, hf⟩ := DataW.trod_struct Try.underlying25 h
  replace hlen : cs.length = 18 := hlen.trans (by kernel_rfl)
  obtain ⟨v0, e0⟩ := field_int hf hxl 0 _ rfl Try.underlying3
  obtain ⟨v1, e1⟩ := field_int hf hxl 1 _ rfl Try.underlying3
  obtain ⟨v2, e2⟩ := field_int hf hxl 2 _ rfl Try.underlying3
  obtain ⟨v3, e3⟩ := field_int hf hxl 3 _ rfl Try.underlying3
  obtain ⟨v4, e4⟩ := field_bool hf hxl 4 _ rfl Try.underlying4
  obtain ⟨v5, e5⟩ := field_bool hf hxl 5 _ rfl Try.underlying4
  obtain ⟨v6, e6⟩ := field_bool hf hxl 6 _ rfl Try.underlying4
  obtain ⟨v7, e7⟩ := field_int hf hxl 7 _ rfl Try.underlying3
  obtain ⟨v8, e8⟩ := field_int hf hxl 8 _ rfl Try.underlying3
  obtain ⟨v9, e9⟩ := field_int hf hxl 9 _ rfl Try.underlying3
  obtain ⟨v10, e10⟩ := field_int hf hxl 10 _ rfl Try.underlying3
  obtain ⟨v11, e11⟩ := field_int hf hxl 11 _ rfl Try.underlying3
  obtain ⟨v12, e12⟩ := field_int hf hxl 12 _ rfl Try.underlying3
  obtain ⟨v13, e13⟩ := field_int hf hxl 13 _ rfl Try.underlying3
  obtain ⟨v14, e14⟩ := field_int hf hxl 14 _ rfl Try.underlying3
  obtain ⟨v15, e15⟩ := field_int hf hxl 15 _ rfl Try.underlying3
  obtain ⟨v16, e16⟩ := field_int hf hxl 16 _ rfl Try.underlying3
  obtain ⟨v17, e17⟩ := field_int hf hxl 17 _ rfl Try.underlying3
  refine ⟨⟨v0, v1, v2, v3, v4, v5, v6, v7, v8, v9, v10, v11, v12, v13, v14, v15, v16, v17⟩, ?_⟩
  match cs, hlen with
  | [c0, c1, c2, c3, c4, c5, c6, c7, c8, c9, c10, c11, c12, c13, c14, c15, c16, c17], _ =>
    simp at e0 e1 e2 e3 e4 e5 e6 e7 e8 e9 e10 e11 e12 e13 e14 e15 e16 e17
    simp [e0, e1, e2, e3, e4, e5, e6, e7, e8, e9, e10, e11, e12, e13, e14, e15, e16, e17]

theorem open_gaps {fuel : Nat} {a : Option Addr} {len cap : Nat} {x : DataW H × List MemPlace} (h : DataW.trod enc Try.prog w base spare held fuel 22 [.slice a len cap] = some x) :
    ∃ l : List S48, l.length = len ∧ len ≤ cap ∧ Kd.C k48 w a len l := by
  rcases open_slice Try.underlying22 h with ⟨hcs, _⟩ | ⟨ad, len', cap', m, n, D, Pl, hcs, hb, hl, hm, hmm, hx, hi⟩
  · simp only [List.cons.injEq, Value.slice.injEq, and_true] at hcs
    obtain ⟨rfl, rfl, rfl⟩ := hcs
    exact ⟨[], rfl, Nat.le_refl _, rfl, by omega, fun h => absurd h (by omega)⟩
  · simp only [List.cons.injEq, Value.slice.injEq, and_true] at hcs
    obtain ⟨rfl, rfl, rfl⟩ := hcs
    have hC : Try.prog.cellsOf 48 = 6 := by kernel_rfl
    have key : ∀ i, i < len → ∃ g : S48, ∀ j u, [Value.int .i64 g.f0, .int .i64 g.f1, .bool g.f2, .bool g.f3, .int .i64 g.f4, .int .i64 g.f5][j]? = some u → w.cell? (ad.add (i * 6 + j)) = some u := by
      intro i hil
      obtain ⟨cs', hc, ht⟩ := hi i (by rw [hmm]; split <;> omega)
      rw [hC] at hc
      obtain ⟨g, hg⟩ := open48 ht
      obtain ⟨_, hcl, hat⟩ := World.cells?_some hc
      refine ⟨g, fun j u hj => ?_⟩
      rw [← hg] at hj
      have hj6 : j < 6 := by
        have := (List.getElem?_eq_some_iff.1 hj).1
        omega
      rw [← Go.Deep.add_add, hat j hj6, hj]
    refine ⟨(List.range len).map fun i => if h : i < len then (key i h).choose else z48, by simp, hl, by simp, by simp only [maxLen] at hm; omega, fun _ => ⟨ad, rfl, fun j p hj => ?_⟩⟩
    have hjl : j < len := by
      have := (List.getElem?_eq_some_iff.1 hj).1
      simpa using this
    simp only [List.getElem?_map, List.getElem?_range hjl, Option.map_some, Option.some.injEq, dif_pos hjl] at hj
    subst hj
    exact ⟨_, rfl, k48_mk w _, (key j hjl).choose_spec⟩

theorem open_bools {fuel : Nat} {a : Option Addr} {len cap : Nat} {x : DataW H × List MemPlace} (h : DataW.trod enc Try.prog w base spare held fuel 23 [.slice a len cap] = some x) :
    ∃ l : List Bool, l.length = len ∧ len ≤ cap ∧ Kd.C Kd.bool w a len l := by
  rcases open_slice Try.underlying23 h with ⟨hcs, _⟩ | ⟨ad, len', cap', m, n, D, Pl, hcs, hb, hl, hm, hmm, hx, hi⟩
  · simp only [List.cons.injEq, Value.slice.injEq, and_true] at hcs
    obtain ⟨rfl, rfl, rfl⟩ := hcs
    exact ⟨[], rfl, Nat.le_refl _, rfl, by omega, fun h => absurd h (by omega)⟩
  · simp only [List.cons.injEq, Value.slice.injEq, and_true] at hcs
    obtain ⟨rfl, rfl, rfl⟩ := hcs
    have hC : Try.prog.cellsOf 4 = 1 := by kernel_rfl
    have key : ∀ i, i < len → ∃ g : Bool, w.cell? (ad.add i) = some (.bool g) := by
      intro i hil
      obtain ⟨cs', hc, ht⟩ := hi i (by rw [hmm]; split <;> omega)
      rw [hC] at hc
      obtain ⟨g, hg, _⟩ := DataW.trod_bool Try.underlying4 ht
      obtain ⟨_, hcl, hat⟩ := World.cells?_some hc
      refine ⟨g, ?_⟩
      have := hat 0 (by omega)
      rw [hg, Go.Deep.add_add] at this
      simpa using this
    have hl2 : ((List.range len).map fun i => if h : i < len then (key i h).choose else false).length = len := by simp
    refine ⟨(List.range len).map fun i => if h : i < len then (key i h).choose else false, hl2, hl, Kd.C_of_reads (d := false) ⟨hl2, by simp only [maxLen] at hm; omega, fun _ => ⟨ad, rfl, fun j hj => ?_⟩⟩⟩
    have hk := (key j hj).choose_spec
    rw [hk]
    simp [List.getD_eq_getElem?_getD, hj]
end
end Go.Proofs.Ytmihiememhfmnaa.P
namespace Go.Proofs.Ytmihiememhfmnaa.P
open Go Go.RowKit Go.ChangeShapes Go.WideShapes Go.Deep Go.Proofs.YtmihiememhfmnaaW.PrintWords Go.Proofs.YtmihiememhfmnaaW.PrintLast Go.Proofs.YtmihiememhfmnaaW.PrintMore
set_option linter.unusedVariables false
set_option linter.unusedSimpArgs false

section
variable {H : Type} {enc : TypeId × Value → H} {w : World} {base : Nat} {spare : Nat → Bool} {held : Bool}

theorem open_way {r : Reach} {b0 : Nat} {v : Value} {d : DataW H} {p : List MemPlace} (hv : Value.okWide Try.prog w r b0 27 v) (h : DataW.Trod enc Try.prog w base spare held 27 v d p) :
    ∃ (a : Option Addr) (len cap : Nat) (bl : List Bool) (s : S25), v = .agg #[.slice a len cap, .int .i64 s.f0, .int .i64 s.f1, .int .i64 s.f2, .int .i64 s.f3, .bool s.f4, .bool s.f5, .bool s.f6, .int .i64 s.f7, .int .i64 s.f8, .int .i64 s.f9, .int .i64 s.f10, .int .i64 s.f11, .int .i64 s.f12, .int .i64 s.f13, .int .i64 s.f14, .int .i64 s.f15, .int .i64 s.f16, .int .i64 s.f17] ∧
      bl.length = len ∧ len ≤ cap ∧ Kd.C Kd.bool w a len bl ∧ ((∀ n ∈ d.weights Try.prog 27, n ≤ reachBytes) → len ≤ 140737488351232) := by
  obtain ⟨cs, rfl, hsz⟩ := okWide_struct Try.underlying27 hv
  obtain ⟨fuel, hf⟩ := h
  obtain ⟨xs, n, _, hx, hlen, hxl, hg⟩ := DataW.trod_struct Try.underlying27 hf
  have k23 : Try.prog.cellsOf 23 = 1 := by kernel_rfl
  have k25 : Try.prog.cellsOf 25 = 18 := by kernel_rfl
  have h0 := hg 0 _ rfl
  have h1 := hg 1 _ rfl
  obtain ⟨l⟩ := cs
  have hl : l.length = 19 := hsz.trans (by kernel_rfl)
  match l, hl with
  | [c0, c1, c2, c3, c4, c5, c6, c7, c8, c9, c10, c11, c12, c13, c14, c15, c16, c17, c18], _ =>
    simp [Value.cells, k23] at h0
    simp [Value.cells, k25] at h1
    have hxl2 : xs.length = 2 := hxl
    match xs, hxl2 with
    | [y0, y1], _ =>
      simp at h0 h1
      obtain ⟨g, hg25⟩ := open25 h1
      simp only [List.cons.injEq, and_true] at hg25
      rcases open_slice Try.underlying23 h0 with ⟨hcs, _⟩ | ⟨ad, len', cap', m, n', D, Pl, hcs, hb, hl, hm, hmm, hx0, hi⟩
      · simp only [List.cons.injEq, and_true] at hcs
        subst hcs
        obtain ⟨bl, hb1, hb2, hb3⟩ := open_bools h0
        refine ⟨none, 0, 0, bl, g, ?_, hb1, hb2, hb3, fun _ => by omega⟩
        simp [hg25]
      · simp only [List.cons.injEq, and_true] at hcs
        subst hcs
        obtain ⟨bl, hb1, hb2, hb3⟩ := open_bools h0
        refine ⟨some ad, len', cap', bl, g, ?_, hb1, hb2, hb3, fun hw => ?_⟩
        · simp [hg25]
        · have hd : d = .agg [y0.1, y1.1] := by
            have := (Prod.mk.inj hx).1
            simpa using this
          subst hd
          have hy : y0.1 = .slice ((List.range len').map D) ((List.range (m - len')).map fun j => D (len' + j)) := by rw [hx0]
          have hmem : (((List.range len').map D).length + ((List.range (m - len')).map fun j => D (len' + j)).length) * Try.prog.bytesOf 4 ∈ (DataW.agg [y0.1, y1.1] : DataW H).weights Try.prog 27 := by
            simp only [DataW.weights, Try.underlying27]
            refine DataW.weights_mem_each (j := 0) (t := 23) (d := y0.1) rfl rfl _ ?_
            rw [hy]
            simp [DataW.weights, Try.underlying23]
          have := hw _ hmem
          have hby : Try.prog.bytesOf 4 = 1 := by kernel_rfl
          rw [hby] at this
          simp [reachBytes] at this
          omega
end
end Go.Proofs.Ytmihiememhfmnaa.P
namespace Go.Proofs.Ytmihiememhfmnaa.P
open Go Go.RowKit Go.ChangeShapes Go.WideShapes Go.Deep
theorem open_style {H : Type} {enc : TypeId × Value → H} {w : World} {base : Nat} {spare : Nat → Bool} {held : Bool} {r : Reach} {b0 : Nat} {v : Value} {d : DataW H} {p : List MemPlace} (hv : Value.okWide Try.prog w r b0 25 v) (h : DataW.Trod enc Try.prog w base spare held 25 v d p) :
    ∃ s : S25, v = .agg #[.int .i64 s.f0, .int .i64 s.f1, .int .i64 s.f2, .int .i64 s.f3, .bool s.f4, .bool s.f5, .bool s.f6, .int .i64 s.f7, .int .i64 s.f8, .int .i64 s.f9, .int .i64 s.f10, .int .i64 s.f11, .int .i64 s.f12, .int .i64 s.f13, .int .i64 s.f14, .int .i64 s.f15, .int .i64 s.f16, .int .i64 s.f17] := by
  obtain ⟨cs, rfl, hsz⟩ := okWide_struct Try.underlying25 hv
  obtain ⟨fuel, hf⟩ := h
  obtain ⟨g, hg⟩ := open25 hf
  refine ⟨g, ?_⟩
  have : cs.toList = _ := hg
  rw [← Array.toArray_toList (xs := cs), this]
end Go.Proofs.Ytmihiememhfmnaa.P
namespace Go.Proofs.Ytmihiememhfmnaa.P
open Go Go.RowKit Go.ChangeShapes Go.WideShapes Go.Deep
theorem gaps_len {H : Type} {enc : TypeId × Value → H} {w : World} {base : Nat} {spare : Nat → Bool} {held : Bool} {a : Option Addr} {len cap : Nat} {d : DataW H} {p : List MemPlace} (h : DataW.Trod enc Try.prog w base spare held 22 (.slice a len cap) d p)
    (hw : ∀ n ∈ d.weights Try.prog 22, n ≤ reachBytes) : len ≤ 3518437208780 := by
  obtain ⟨fuel, hf⟩ := h
  rcases open_slice Try.underlying22 hf with ⟨hcs, _⟩ | ⟨ad, len', cap', m, n', D, Pl, hcs, hb, hl, hm, hmm, hx0, hi⟩
  · simp [Value.cells] at hcs
    omega
  · simp [Value.cells] at hcs
    obtain ⟨rfl, rfl, rfl⟩ := hcs
    have hd : d = .slice ((List.range len).map D) ((List.range (m - len)).map fun j => D (len + j)) := (Prod.mk.inj hx0).1
    subst hd
    have := hw ((((List.range len).map D).length + ((List.range (m - len)).map fun j => D (len + j)).length) * Try.prog.bytesOf 48) (by simp [DataW.weights, Try.underlying22])
    have hby : Try.prog.bytesOf 48 = 40 := by kernel_rfl
    rw [hby] at this
    simp [reachBytes] at this
    omega
end Go.Proofs.Ytmihiememhfmnaa.P
