/- What search.line is in memory; the contracts of over (with its very world) and of rows. -/
import Derived.Test.YtmihiememhfmnaaPx1
import Derived.Test.YtmihiememhfmnaaRegion
import Derived.Shelf.SlSortCmp.QuietGrown
import Derived.StillTailTactics
import Derived.BigRegion
import Derived.Outline
import Derived.IntWalk
import Derived.Laws.NewBlocks
import Derived.Deep.MidRow
namespace Go.Proofs.Ytmihiememhfmnaa.P
open Go.RowKit Go.Sort Go.Proofs.YtmihiememhfmnaaW.PrintWords Go.Proofs.YtmihiememhfmnaaW.PrintLast Go.Proofs.YtmihiememhfmnaaW.PrintMore
set_option linter.unusedVariables false
set_option linter.unusedSimpArgs false

/-- A style as a value. -/
def styV (s : S25) : Value := .agg #[.int .i64 s.f0, .int .i64 s.f1, .int .i64 s.f2, .int .i64 s.f3, .bool s.f4, .bool s.f5, .bool s.f6, .int .i64 s.f7, .int .i64 s.f8, .int .i64 s.f9, .int .i64 s.f10, .int .i64 s.f11, .int .i64 s.f12, .int .i64 s.f13, .int .i64 s.f14, .int .i64 s.f15, .int .i64 s.f16, .int .i64 s.f17]

attribute [local go_sem] max2_int min2_int max_two min_two
/-- What a row costs. -/
def ov (st : S25) (x : Int) : Int := wrap64 (mx 0 (wrap64 (x - st.f0)) * st.f7)

set_option maxHeartbeats 2000000 in
set_option maxRecDepth 100000 in
theorem over_any (x : Int) (s0 s1 s2 s3 : Int) (s4 s5 s6 : Bool) (s7 s8 s9 s10 s11 s12 s13 s14 s15 s16 s17 : Int) (w : World) :
    Calls Try.prog 23 #[.int .i64 x, .agg #[.int .i64 s0, .int .i64 s1, .int .i64 s2, .int .i64 s3, .bool s4, .bool s5, .bool s6, .int .i64 s7, .int .i64 s8, .int .i64 s9, .int .i64 s10, .int .i64 s11, .int .i64 s12, .int .i64 s13, .int .i64 s14, .int .i64 s15, .int .i64 s16, .int .i64 s17]] w fun e w' =>
      e = .returned (.int .i64 (wrap64 (mx 0 (wrap64 (x - s0)) * s7))) ∧ ∃ q os', w' = grow (w.drewN q) os' := by
  go_enter Try.func23, Try.ntmps23
  by_cases hx : 0 < wrap64 (x - s0)
  · go_wp2
    go_ret
    exact ⟨by simp [mx, hx], 0, _, (alloc_eq_grow w _).trans rfl⟩
  · go_wp2
    go_ret
    refine ⟨?_, 0, _, (alloc_eq_grow w _).trans rfl⟩
    have e : mx 0 (wrap64 (x - s0)) = 0 := by unfold mx; split <;> omega
    rw [e]
    simp [wrap64]

/-- search.line at block X: its cells; the gaps; the rows ends and best. -/
structure LineAt (w : World) (X : Nat) (first : Int) (A : Option Addr) (c : Nat) (l : List S48) (st : S25) (E B : Nat) (es bs : Nat → Int) : Prop where
  f0 : w.cell? ⟨X, 0, none⟩ = some (.int .i64 first)
  f1 : w.cell? ⟨X, 1, none⟩ = some (.slice A l.length c)
  s0 : w.cell? ⟨X, 2, none⟩ = some (.int .i64 st.f0)
  s1 : w.cell? ⟨X, 3, none⟩ = some (.int .i64 st.f1)
  s2 : w.cell? ⟨X, 4, none⟩ = some (.int .i64 st.f2)
  s3 : w.cell? ⟨X, 5, none⟩ = some (.int .i64 st.f3)
  s4 : w.cell? ⟨X, 6, none⟩ = some (.bool st.f4)
  s5 : w.cell? ⟨X, 7, none⟩ = some (.bool st.f5)
  s6 : w.cell? ⟨X, 8, none⟩ = some (.bool st.f6)
  s7 : w.cell? ⟨X, 9, none⟩ = some (.int .i64 st.f7)
  s8 : w.cell? ⟨X, 10, none⟩ = some (.int .i64 st.f8)
  s9 : w.cell? ⟨X, 11, none⟩ = some (.int .i64 st.f9)
  s10 : w.cell? ⟨X, 12, none⟩ = some (.int .i64 st.f10)
  s11 : w.cell? ⟨X, 13, none⟩ = some (.int .i64 st.f11)
  s12 : w.cell? ⟨X, 14, none⟩ = some (.int .i64 st.f12)
  s13 : w.cell? ⟨X, 15, none⟩ = some (.int .i64 st.f13)
  s14 : w.cell? ⟨X, 16, none⟩ = some (.int .i64 st.f14)
  s15 : w.cell? ⟨X, 17, none⟩ = some (.int .i64 st.f15)
  s16 : w.cell? ⟨X, 18, none⟩ = some (.int .i64 st.f16)
  s17 : w.cell? ⟨X, 19, none⟩ = some (.int .i64 st.f17)
  f20 : w.cell? ⟨X, 20, none⟩ = some (.slice (some ⟨E, 0, none⟩) (l.length + 1) (l.length + 1))
  f21 : w.cell? ⟨X, 21, none⟩ = some (.slice (some ⟨B, 0, none⟩) (l.length + 1) (l.length + 1))
  ends : ∀ i, i ≤ l.length → w.cell? ⟨E, i, none⟩ = some (.int .i64 (es i))
  best : ∀ i, i ≤ l.length → w.cell? ⟨B, i, none⟩ = some (.int .i64 (bs i))
  gaps : Kd.C k48 w A l.length l
  room : l.length ≤ c
  few : l.length ≤ 70000

theorem LineAt.below {w w' : World} {X : Nat} {first : Int} {A : Option Addr} {c : Nat} {l : List S48} {st : S25} {E B : Nat} {es bs : Nat → Int}
    (h : LineAt w X first A c l st E B es bs) (hb : Below w.heap.size w w') : LineAt w' X first A c l st E B es bs := by
  have k : ∀ {a : Addr} {v : Value}, w.cell? a = some v → w'.cell? a = some v := fun hc => pw_cell_below hb hc
  exact ⟨k h.f0, k h.f1, k h.s0, k h.s1, k h.s2, k h.s3, k h.s4, k h.s5, k h.s6, k h.s7, k h.s8, k h.s9, k h.s10, k h.s11, k h.s12, k h.s13, k h.s14, k h.s15, k h.s16, k h.s17, k h.f20, k h.f21,
    fun i hi => k (h.ends i hi), fun i hi => k (h.best i hi), Kd.C_below h.gaps hb, h.room, h.few⟩

/-- A style's cells. -/
def styL (s : S25) : List Value := [.int .i64 s.f0, .int .i64 s.f1, .int .i64 s.f2, .int .i64 s.f3, .bool s.f4, .bool s.f5, .bool s.f6, .int .i64 s.f7, .int .i64 s.f8, .int .i64 s.f9, .int .i64 s.f10, .int .i64 s.f11, .int .i64 s.f12, .int .i64 s.f13, .int .i64 s.f14, .int .i64 s.f15, .int .i64 s.f16, .int .i64 s.f17]

theorem LineAt.style {w : World} {X : Nat} {first : Int} {A : Option Addr} {c : Nat} {l : List S48} {st : S25} {E B : Nat} {es bs : Nat → Int}
    (h : LineAt w X first A c l st E B es bs) : ∀ j v, (styL st)[j]? = some v → w.cell? ⟨X, 2 + j, none⟩ = some v := by
  intro j v hj
  match j, hj with
  | 0, hj => cases hj; exact h.s0
  | 1, hj => cases hj; exact h.s1
  | 2, hj => cases hj; exact h.s2
  | 3, hj => cases hj; exact h.s3
  | 4, hj => cases hj; exact h.s4
  | 5, hj => cases hj; exact h.s5
  | 6, hj => cases hj; exact h.s6
  | 7, hj => cases hj; exact h.s7
  | 8, hj => cases hj; exact h.s8
  | 9, hj => cases hj; exact h.s9
  | 10, hj => cases hj; exact h.s10
  | 11, hj => cases hj; exact h.s11
  | 12, hj => cases hj; exact h.s12
  | 13, hj => cases hj; exact h.s13
  | 14, hj => cases hj; exact h.s14
  | 15, hj => cases hj; exact h.s15
  | 16, hj => cases hj; exact h.s16
  | 17, hj => cases hj; exact h.s17
  | j + 18, hj => simp [styL] at hj

/-- The load of a style, as one run. -/
theorem style_load {w : World} {X o : Nat} {st : S25} (h : ∀ j v, (styL st)[j]? = some v → w.cell? ⟨X, o + j, none⟩ = some v) :
    (Instr.loadAt 25 (.pointer (some ⟨X, o, none⟩))).run Try.prog w = .ok (.agg #[.int .i64 st.f0, .int .i64 st.f1, .int .i64 st.f2, .int .i64 st.f3, .bool st.f4, .bool st.f5, .bool st.f6, .int .i64 st.f7, .int .i64 st.f8, .int .i64 st.f9, .int .i64 st.f10, .int .i64 st.f11, .int .i64 st.f12, .int .i64 st.f13, .int .i64 st.f14, .int .i64 st.f15, .int .i64 st.f16, .int .i64 st.f17]) w :=
  run_loadAt_mid w X o 25 (styL st) _ h Try.underlying25 rfl (by kernel_rfl)

/-- A style lies in block X from offset o on. -/
def StyAt (w : World) (X o : Nat) (st : S25) : Prop := ∀ j v, (styL st)[j]? = some v → w.cell? ⟨X, o + j, none⟩ = some v

/-- The load of a style, in a list of operations; guarded or not. -/
theorem list_style {ops : Array Oper} {rest : List Oper} {op : Oper} {a : Act} {w : World} {Q : Exit → Act → World → Prop} {st : S25} (X o : Nat) (hc : StyAt w X o st) (x : Operand) (ho : op.op = .load 25 x)
    (hw : Region.wanted op (yielded ops a.tmps) = true) (hx : a.eval x = .pointer (some ⟨X, o, none⟩))
    (h : wpList Try.prog ops Q rest (a.put op.dst (.agg #[.int .i64 st.f0, .int .i64 st.f1, .int .i64 st.f2, .int .i64 st.f3, .bool st.f4, .bool st.f5, .bool st.f6, .int .i64 st.f7, .int .i64 st.f8, .int .i64 st.f9, .int .i64 st.f10, .int .i64 st.f11, .int .i64 st.f12, .int .i64 st.f13, .int .i64 st.f14, .int .i64 st.f15, .int .i64 st.f16, .int .i64 st.f17])) w) : wpList Try.prog ops Q (op :: rest) a w := by
  refine BigFrame.wpList_want hw fun K hK => ?_
  unfold Oper.wp execOp
  simp only [ho, hx, Sem.run_bind, style_load hc, Result.andThen_ok]
  exact hK _ _ h

/-- The same in a quiet walk. -/
theorem quiet_style {ops : Array Oper} {rest : List Oper} {op : Oper} {a : Act} {C : World → Prop} {Q : Act → Prop} {st : S25} (X o : Nat) (hc : ∀ w, C w → StyAt w X o st) (x : Operand) (ho : op.op = .load 25 x)
    (hw : Region.wanted op (yielded ops a.tmps) = true) (hx : a.eval x = .pointer (some ⟨X, o, none⟩))
    (h : wpQuiet Try.prog ops C Q rest (a.put op.dst (.agg #[.int .i64 st.f0, .int .i64 st.f1, .int .i64 st.f2, .int .i64 st.f3, .bool st.f4, .bool st.f5, .bool st.f6, .int .i64 st.f7, .int .i64 st.f8, .int .i64 st.f9, .int .i64 st.f10, .int .i64 st.f11, .int .i64 st.f12, .int .i64 st.f13, .int .i64 st.f14, .int .i64 st.f15, .int .i64 st.f16, .int .i64 st.f17]))) : wpQuiet Try.prog ops C Q (op :: rest) a := by
  show (if Region.wanted op (yielded ops a.tmps) = true then op.quiet Try.prog a C (wpQuiet Try.prog ops C Q rest) else wpQuiet Try.prog ops C Q rest (a.put op.dst undef))
  rw [if_pos hw]
  refine ⟨_, fun w hC => ?_, h⟩
  unfold Oper.quietAt execOp
  simp only [ho, hx, Sem.run_bind, style_load (hc w hC), Result.andThen_ok]
  exact ⟨rfl, rfl⟩

/-- The width at which a place's row begins. -/
def wOf (first : Int) (l : List S48) (p : Nat) : Int := if p = 0 then first else wrap64 ((rd_T48 l ((p : Int) - 1)).f5 + (rd_T48 l ((p : Int) - 1)).f0)

set_option maxHeartbeats 2000000 in
set_option maxRecDepth 100000 in
theorem rows_any {w : World} {X : Nat} {first : Int} {A : Option Addr} {c : Nat} {l : List S48} {st : S25} {E B : Nat} {es bs : Nat → Int} (hL : LineAt w X first A c l st E B es bs)
    (p : Nat) (hp : p ≤ l.length) (fb : Fn) (ba bl : Array Value) :
    Calls Try.prog 31 #[.pointer (some ⟨X, 0, none⟩), .int .i64 p, .func fb ba bl] w fun e w' =>
      e = .returned (.func (.func 35) #[] #[.pointer (some ⟨w.heap.size + 1, 0, none⟩), .pointer (some ⟨w.heap.size, 0, none⟩), .pointer (some ⟨w.heap.size + 2, 0, none⟩), .pointer (some ⟨w.heap.size + 3, 0, none⟩)]) ∧
      Below w.heap.size w w' ∧ w'.cell? ⟨w.heap.size, 0, none⟩ = some (.pointer (some ⟨X, 0, none⟩)) ∧ w'.cell? ⟨w.heap.size + 1, 0, none⟩ = some (.int .i64 p) ∧
      w'.cell? ⟨w.heap.size + 2, 0, none⟩ = some (.func fb ba bl) ∧ w'.cell? ⟨w.heap.size + 3, 0, none⟩ = some (.int .i64 (wOf first l p)) ∧ w.heap.size + 4 ≤ w'.heap.size := by
  have hf0 := hL.f0
  have hX := World.block_lt_of_cell? w _ hf0
  simp only at hX
  have hX1 : X < w.heap.size + 1 := by omega
  have hX2 : X < w.heap.size + 1 + 1 := by omega
  have hX3 : X < w.heap.size + 1 + 1 + 1 := by omega
  rcases Nat.eq_zero_or_pos p with rfl | h0
  · go_enter Try.func31, Try.ntmps31
    go_wp2
    go_ret
    refine ⟨rfl, ((((Below.refl _ w).alloc (Nat.le_refl _) _).alloc (by simp) _).alloc (by simp; omega) _).alloc (by simp; omega) _, by simp [go_sem], by simp [go_sem], by simp [go_sem], ?_, by simp⟩
    simp [go_sem, wOf]
  · have hf1 := hL.f1
    have h1 : 0 ≤ (p : Int) - 1 := by omega
    have h2 : (p : Int) - 1 < (l.length : Int) := by omega
    obtain ⟨ad, e1, hx0, hx1, hx2, hx3, hx4, hx5⟩ := at_T48 hL.gaps ((p : Int) - 1) h1 h2
    cases e1
    rw [show ((p : Int) - 1).toNat = p - 1 from by omega] at hx0 hx1 hx2 hx3 hx4 hx5
    go_enter Try.func31, Try.ntmps31
    go_wp2
    obtain ⟨W4, hW4⟩ : ∃ W4, ((((w.alloc (.cells #[.pointer (some ⟨X, 0, none⟩)] 55)).alloc (.cells #[.int .i64 p] 3)).alloc (.cells #[.func fb ba bl] 68)).alloc (.cells #[.int .i64 first] 3)) = W4 := ⟨_, rfl⟩
    have hB4 : Below w.heap.size w W4 := by
      rw [← hW4]
      exact ((((Below.refl _ w).alloc (Nat.le_refl _) _).alloc (by simp) _).alloc (by simp; omega) _).alloc (by simp; omega) _
    have c0 : W4.cell? ⟨w.heap.size, 0, none⟩ = some (.pointer (some ⟨X, 0, none⟩)) := by rw [← hW4]; simp [go_sem]
    have c1 : W4.cell? ⟨w.heap.size + 1, 0, none⟩ = some (.int .i64 p) := by rw [← hW4]; simp [go_sem]
    have c2 : W4.cell? ⟨w.heap.size + 2, 0, none⟩ = some (.func fb ba bl) := by rw [← hW4]; simp [go_sem]
    have c3 : W4.cell? ⟨w.heap.size + 1 + 1 + 1, 0, none⟩ = some (.int .i64 first) := by rw [← hW4]; simp [go_sem]
    have g3 : W4.frozen? ⟨w.heap.size + 1 + 1 + 1, 0, none⟩ = false := by rw [← hW4]; simp [go_sem]
    have z4 : W4.heap.size = w.heap.size + 4 := by rw [← hW4]; simp
    have d1 := pw_cell_below hB4 hf1
    have y0 := pw_cell_below hB4 hx0
    have y5 := pw_cell_below hB4 hx5
    rw [hW4]
    clear hW4
    have HZ := Aside0.mk z4
    have HB4 := Aside0.mk hB4
    clear z4 hB4 hf0 hf1 hx0 hx1 hx2 hx3 hx4 hx5 hX1 hX2 hX3
    have hfew := hL.few
    have hw1 : IntKind.i64.wrap ((p : Int) - 1) = (p : Int) - 1 := IntWalk.i64_in _ (by omega)
    have h3 : 1 ≤ (p : Int) := by omega
    go_still_tail 19, (by kernel_rfl)
    clear hw1
    go_wp2
    go_ret
    have hne : ∀ j, j ≠ 3 → (W4.setCell ⟨w.heap.size + 1 + 1 + 1, 0, none⟩ (.int .i64 (wrap64 ((rd_T48 l ((p : Int) - 1)).f5 + (rd_T48 l ((p : Int) - 1)).f0)))).drew.cell? ⟨w.heap.size + j, 0, none⟩ = W4.cell? ⟨w.heap.size + j, 0, none⟩ :=
      fun j hj => World.cell?_setCell_other _ _ _ _ (fun h => by injection h with h1; omega)
    refine ⟨rfl, (HB4.out.setCell (by simp; omega) _).drew, (hne 0 (by omega)).trans c0, (hne 1 (by omega)).trans c1, (hne 2 (by omega)).trans c2, ?_, ?_⟩
    · rw [show wOf first l p = wrap64 ((rd_T48 l ((p : Int) - 1)).f5 + (rd_T48 l ((p : Int) - 1)).f0) from if_neg (by omega)]
      exact World.cell?_setCell_same' _ _ _ (by rw [c3]; rfl)
    · have := HZ.out
      simp
      omega
end Go.Proofs.Ytmihiememhfmnaa.P
