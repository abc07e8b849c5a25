/- The iterator that search.line.rows makes: what it tells, state by state. -/
import Derived.Test.YtmihiememhfmnaaH31
import Derived.Test.YtmihiememhfmnaaRange
import Derived.RangeFuncBound
import Derived.RangeFuncCalls
import Derived.Shelf.Abstract
import Derived.Shelf.RegionOpen
import Derived.OwnWalkIn
import Derived.TacticsInMore
import Derived.LoopNIn
import Derived.LoopIn
import Derived.BigQuiet
namespace Go.Proofs.Ytmihiememhfmnaa.P
open Go.RowKit Go.Sort Go.Shelf Go.Proofs.YtmihiememhfmnaaW.PrintWords Go.Proofs.YtmihiememhfmnaaW.PrintLast Go.Proofs.YtmihiememhfmnaaW.PrintMore
set_option linter.unusedVariables false
set_option linter.unusedSimpArgs false
set_option pp.deepTerms true
set_option pp.maxSteps 100000

section pure
variable (first : Int) (l : List S48) (st : S25) (es bs : Nat → Int) (p : Nat)
/-- How wide what stands between a place and another one is. -/
def wideA (a : Nat) : Int := wrap64 (es a - es p)
/-- What all costs if the row of place p ends ahead of gap a. -/
def cst (a : Nat) : Int := wrap64 (wrap64 (ov st (wrap64 (wOf first l p + wideA es p a)) + (rd_T48 l a).f4) + bs (a + 1))
/-- What the row of place p costs if it is the last one. -/
def lst : Int := ov st (wrap64 (wrap64 (wOf first l p + es l.length) - es p))
/-- The iterator's run from gap a on (d gaps are left) at state s. -/
def run {σ : Type} (bd : σ → Int) (step : σ → Int × Int → σ) : Nat → Nat → σ → σ
  | 0, _, s => step s ((l.length : Int), lst first l st es p)
  | d + 1, a, s =>
    if 0 ≤ bd s ∧ bd s < ov st (wideA es p a) then s
    else if (rd_T48 l a).f3 = true then
      if (rd_T48 l a).f2 = true then step s ((a : Int), cst first l st es bs p a) else run bd step d (a + 1) (step s ((a : Int), cst first l st es bs p a))
    else if (rd_T48 l a).f2 = true then s else run bd step d (a + 1) s
end pure

/-- What lies below V stays; of what lies beyond it, the cells. -/
structure KeepV (V : Nat) (W W' : World) : Prop where
  low : Below V W W'
  high : ∀ k o, V < k → W.heap[k]? = some o → o.isCells = true → W'.heap[k]? = some o
theorem KeepV.refl (V : Nat) (W : World) : KeepV V W W := ⟨Below.refl _ _, fun _ _ _ h _ => h⟩
theorem KeepV.trans {V : Nat} {A B C : World} (h : KeepV V A B) (k : KeepV V B C) : KeepV V A C := ⟨h.low.trans k.low, fun i o h1 h2 h3 => k.high i o h1 (h.high i o h1 h2 h3) h3⟩
theorem KeepV.of_below {V : Nat} {A B : World} (h : Below A.heap.size A B) (hV : V ≤ A.heap.size) : KeepV V A B := ⟨h.mono hV, fun i o _ h2 _ => (h.block i (Array.getElem?_eq_some_iff.1 h2).1).trans h2⟩
theorem KeepV.cell {V : Nat} {A B : World} (h : KeepV V A B) {a : Addr} {v : Value} (hc : A.cell? a = some v) (h1 : V < a.block) : B.cell? a = some v := by
  obtain ⟨o, ho, hk⟩ := cells_of_cell hc
  exact (World.cell?_of_block ((h.high _ o h1 ho hk).trans ho.symm)).trans hc
theorem KeepV.setCell (V : Nat) (W : World) (j : Nat) (v : Value) : KeepV V W (W.setCell ⟨V, j, none⟩ v) :=
  ⟨(Below.refl V W).setCell (p := ⟨V, j, none⟩) (Nat.le_refl _) _, fun k o h1 h2 _ => (Below.heap_setCell W ⟨V, j, none⟩ v k (by simp; omega)).trans h2⟩
theorem KeepV.book {V B : Nat} (hV : V ≤ B) (W : World) (l : Nat) (o o' : Obj) (hl : B ≤ l) (h : W.heap[l]? = some o) (hc : o.isCells = false) (hw : o.isWalk = false) : KeepV V W (W.putObj l o') :=
  ⟨by
    have hlt := (Array.getElem?_eq_some_iff.1 h).1
    exact (Below.refl V W).grown (grownBy_putObj' W l o') (by omega) (fun k e => by cases e; omega),
   fun k o'' h1 h2 h3 => by
    have : k ≠ l := fun e => by subst e; rw [h] at h2; cases h2; rw [hc] at h3; cases h3
    exact (World.putObj_heap_other this).trans h2⟩

theorem grownBy_drewN (W : World) (k : Nat) : W.grownBy (W.drewN k) none := ⟨rfl, rfl, rfl, Nat.le_refl _, fun _ _ _ => rfl⟩
theorem grownBy_grow (W : World) (os : Array Obj) : W.grownBy (grow W os) none := ⟨rfl, rfl, rfl, by simp, fun k hk _ => heap_grow_old W os hk⟩
theorem abides_of {β : Type} {B : Nat} {J : β → World → Prop} (h : AbidesFrom B J) {s : β} {W W' : World} (hs : J s W) (hg : W.grownBy W' none) : J s W' := h s W W' none hs hg (fun r e => by cases e)

attribute [local go_sem] Oper.semAt_some
set_option maxHeartbeats 4000000 in
set_option maxRecDepth 100000 in
theorem rows_iter {σ : Type} {wa w : World} {X : Nat} {first : Int} {A : Option Addr} {c : Nat} {l : List S48} {st : S25} {E B : Nat} {es bs : Nat → Int} (hL : LineAt wa X first A c l st E B es bs)
    (p : Nat) (hp : p ≤ l.length) (b n : Nat) (fb : FuncId) (bl : Array Value) (hbw : Below wa.heap.size wa w) (hb1 : wa.heap.size < b) (hb4 : b + 4 ≤ w.heap.size)
    (k0 : w.cell? ⟨b, 0, none⟩ = some (.pointer (some ⟨X, 0, none⟩))) (k1 : w.cell? ⟨b + 1, 0, none⟩ = some (.int .i64 p)) (k2 : w.cell? ⟨b + 2, 0, none⟩ = some (.func (.func fb) #[] bl)) (k3 : w.cell? ⟨b + 3, 0, none⟩ = some (.int .i64 (wOf first l p)))
    (bd : σ → Int) (step : σ → Int × Int → σ) (I0 : σ → World → Prop) (s0 : σ) (efb : ∀ args w, (callFunc fb args).run Try.prog w = .ok (.enter fb args) w)
    (hbd : ∀ s W1, I0 s W1 → Calls Try.prog fb bl W1 fun e W' => e = .returned (.int .i64 (bd s)) ∧ ∃ k, W' = W1.drewN k) :
    Iter Try.prog n 35 #[.pointer (some ⟨b + 1, 0, none⟩), .pointer (some ⟨b, 0, none⟩), .pointer (some ⟨b + 2, 0, none⟩), .pointer (some ⟨b + 3, 0, none⟩)] (fun x : Int × Int => #[.int .i64 x.1, .int .i64 x.2])
      (KeepV wa.heap.size) step I0 s0 (fun s => s = run first l st es bs p bd step (l.length - p) p s0) (fun s => ∃ d a, run first l st es bs p bd step (l.length - p) p s0 = run first l st es bs p bd step d a s) w := by
  intro lp J Jx W hW hJI hJa hJxa hY hJ0
  rw [callsIn_wide]
  have hfew := hL.few
  -- what is known in each world that the loop comes to
  have HF := Aside0.mk (show ∀ W', KeepV wa.heap.size W W' → LineAt W' X first A c l st E B es bs ∧ W'.cell? ⟨b, 0, none⟩ = some (.pointer (some ⟨X, 0, none⟩)) ∧ W'.cell? ⟨b + 1, 0, none⟩ = some (.int .i64 p) ∧ W'.cell? ⟨b + 2, 0, none⟩ = some (.func (.func fb) #[] bl) ∧ W'.cell? ⟨b + 3, 0, none⟩ = some (.int .i64 (wOf first l p)) from fun W' hk => by
    have hk2 : KeepV wa.heap.size w W' := (KeepV.of_below hW (by omega)).trans hk
    exact ⟨hL.below (hbw.trans hk2.low), hk2.cell k0 (by simp; omega), hk2.cell k1 (by simp; omega), hk2.cell k2 (by simp; omega), hk2.cell k3 (by simp; omega)⟩)
  have HY := Aside0.mk hY
  have HJI := Aside0.mk hJI
  have HJa := Aside0.mk hJa
  have HB := Aside0.mk hbd
  have HJ0 := Aside0.mk hJ0
  obtain ⟨R, hR⟩ : ∃ R, run first l st es bs p bd step (l.length - p) p s0 = R := ⟨_, rfl⟩
  have HR := Aside0.mk hR
  have hzW : b + 4 ≤ W.heap.size := Nat.le_trans hb4 hW.size
  clear hY hJI hJa hbd hJ0 hJxa k0 k1 k2 k3 hW hbw hL hR
  have e0 := (HF.out W (KeepV.refl _ _)).2.2.1
  go_enter Try.func35, Try.ntmps35
  go_wp2
  go_loopw [6] (fun v6 wr => ∃ (d a : Nat) (s : σ), v6 = .int .i64 a ∧ a + d = l.length ∧ p ≤ a ∧ Aside0 (run first l st es bs p bd step (l.length - p) p s0 = run first l st es bs p bd step d a s) ∧ Aside0 (J s wr) ∧ Aside0 (KeepV wa.heap.size W wr)) (fun v6 _ => l.length - (intOf v6).toNat)
  case atStart => exact ⟨l.length - p, p, s0, rfl, by omega, Nat.le_refl _, ⟨rfl⟩, HJ0, ⟨KeepV.refl _ _⟩⟩
  case round =>
    obtain ⟨d, a, s, rfl, had, hpa, HRun, HJ, HK⟩ := hrel
    obtain ⟨hL, k0, k1, k2, k3⟩ := HF.out _ HK.out
    have x1 := hL.f1
    cases d with
    | zero =>
      have ha : l.length = a := by omega
      have HB8 := Aside0.mk (Below.refl wr.heap.size wr)
      have gr : ∀ {a : Addr} {v : Value}, wr.cell? a = some v → ∀ n os, (grow (wr.drewN n) os).cell? a = some v := fun h n os => cell_grown (World.block_lt_of_cell? _ _ h) h n os
      go_wp2
      replace k0 := gr k0
      replace k1 := gr k1
      replace k3 := gr k3
      have x1' := gr x1
      have x20 := gr hL.f20
      have en := gr (hL.ends l.length (Nat.le_refl _))
      have ep := gr (hL.ends p hp)
      have HST := Aside0.mk (show ∀ w', (∃ p : GrownBy, w' = grow (wr.drewN p.n) p.os) → StyAt w' X 2 st from fun w' ⟨pp, e⟩ j v hj => by rw [e]; exact gr (hL.style j v hj) _ _)
      have hn0 : 0 ≤ (l.length : Int) := by omega
      have hn1 : (l.length : Int) < (l.length : Int) + 1 := by omega
      have hp0 : 0 ≤ (p : Int) := by omega
      have hp1 : (p : Int) < (l.length : Int) + 1 := by omega
      have HRun2 : Aside0 (run first l st es bs p bd step (l.length - p) p s0 = step s ((l.length : Int), lst first l st es p)) := ⟨by rw [HRun.out, run]⟩
      clear hL gr k2 x1 e0 ha had hpa
      as_aux_lemma =>
      refine wpIn_wide.1 (region_tail (m := n) 32 (fun w' => ∃ p : GrownBy, w' = grow (wr.drewN p.n) p.os) (by as_aux_lemma => kernel_rfl) (by as_aux_lemma => kernel_rfl) ⟨⟨1, #[]⟩, by rw [grow_empty]; rfl⟩ ?_)
      simp only [List.take_succ_cons, List.take_zero, List.drop_succ_cons, List.drop_zero]
      repeat (first
        | ((with_reducible refine quiet_style X 2 HST.out _ rfl ?hw ?hx ?_); (case hw => rfl); (case hx => rfl))
        | go_big_quiet_step ((go_at_call 23; exact Calls.grown_of (over_any _ _ _ _ _ _ _ _ _ _ _ _ _ _ _ _ _ _ _ _)))
        | quiet_step ((go_at_call 23; exact Calls.grown_of (over_any _ _ _ _ _ _ _ _ _ _ _ _ _ _ _ _ _ _ _ _))))
      refine wpQuiet_nil ?_
      rintro w' ⟨⟨nq, osq⟩, rfl⟩
      have HJ9 : Aside0 (J s (grow (wr.drewN nq) osq)) := ⟨abides_of HJa.out (abides_of HJa.out HJ.out (grownBy_drewN _ _)) (grownBy_grow _ _)⟩
      generalize grow (wr.drewN nq) osq = W9 at HJ9 ⊢
      rw [show wrap64 (mx 0 (wrap64 (wrap64 (wrap64 (wOf first l p + es l.length) - es p) - st.f0)) * st.f7) = lst first l st es p from rfl]
      obtain ⟨cc, hcc⟩ : ∃ cc, lst first l st es p = cc := ⟨_, rfl⟩
      rw [hcc]
      rw [hcc] at HRun2
      clear hcc
      obtain ⟨fn, tmps, assign, body, hy, hR⟩ := HY.out s ((l.length : Int), cc) W9 HJ9.out
      have hRR := Aside0.mk hR
      clear hR
      dsimp only at hy
      gi_wp2
      refine ⟨fun h => absurd h (by simp [Fence.wide]), hRR.out.mono ?_⟩
      rintro e W10 (⟨rfl, hJ10, hk10⟩ | ⟨rfl, hx10⟩)
      · have HJ10 := Aside0.mk hJ10
        clear hJ10 hk10 hy HJ9 hRR
        gi_wp2
        go_wp2
        go_end0
        exact ⟨⟨_, rfl⟩, .inl ⟨_, HRun2.out.symm, HJ10.out⟩⟩
      · have HX10 := Aside0.mk hx10
        clear hx10 hy HJ9 hRR
        gi_wp2
        go_wp2
        go_end0
        exact ⟨⟨_, rfl⟩, .inr ⟨s, ⟨_, _, HRun.out⟩, HX10.out⟩⟩
    | succ d =>
      have ha : (a : Int) < (l.length : Int) := by omega
      obtain ⟨ad, e1, g0, g1, g2, g3, g4, g5⟩ := at_T48 hL.gaps a (by omega) ha
      cases e1
      simp only [Int.toNat_natCast] at g0 g1 g2 g3 g4 g5
      go_wp2
      obtain ⟨g, hg⟩ : ∃ g, rd_T48 l (a : Int) = g := ⟨_, rfl⟩
      rw [hg]
      have Hg := Aside0.mk hg
      clear hg g0 g1 g2 g3 g4 g5
      obtain ⟨W5, hW5⟩ : ∃ W5, wr.alloc (.cells #[.int .i64 g.f0, .int .i64 g.f1, .bool g.f2, .bool g.f3, .int .i64 g.f4, .int .i64 g.f5] 48) = W5 := ⟨_, rfl⟩
      obtain ⟨G, hG⟩ : ∃ G, wr.heap.size = G := ⟨_, rfl⟩
      have hzr : b + 4 ≤ G := by rw [← hG]; exact Nat.le_trans hzW HK.out.low.size
      have HK5 : Aside0 (KeepV wa.heap.size W W5) := ⟨HK.out.trans (by rw [← hW5]; exact KeepV.of_below ((Below.refl _ _).alloc (Nat.le_refl _) _) (by rw [hG]; omega))⟩
      have HJ5 : Aside0 (J s W5) := ⟨by rw [← hW5]; exact abides_of HJa.out HJ.out (World.grownBy_alloc _ _ _)⟩
      have hz5 : W5.heap.size = G + 1 := by rw [← hW5]; simp [hG]
      have m2 : W5.cell? ⟨G, 2, none⟩ = some (.bool g.f2) := by rw [← hW5, ← hG]; simp [go_sem]
      have m3 : W5.cell? ⟨G, 3, none⟩ = some (.bool g.f3) := by rw [← hW5, ← hG]; simp [go_sem]
      have m4 : W5.cell? ⟨G, 4, none⟩ = some (.int .i64 g.f4) := by rw [← hW5, ← hG]; simp [go_sem]
      rw [hG, hW5]
      clear hW5 hG HJ HK hL k0 k1 k2 k3 x1
      obtain ⟨hL, k0, k1, k2, k3⟩ := HF.out _ HK5.out
      have x20 := hL.f20
      have ea := hL.ends a (by omega)
      have ep := hL.ends p hp
      have ha0 : 0 ≤ (a : Int) := by omega
      have ha1 : (a : Int) < (l.length : Int) + 1 := by omega
      have hp0 : 0 ≤ (p : Int) := by omega
      have hp1 : (p : Int) < (l.length : Int) + 1 := by omega
      have HL5 := Aside0.mk hL
      have Hz5 := Aside0.mk hz5
      clear hL hz5
      go_quiet (fail)
      obtain ⟨wd, hwd⟩ : ∃ wd, wrap64 (es a - es p) = wd := ⟨_, rfl⟩
      rw [hwd]
      have Hwd := Aside0.mk hwd
      clear hwd ea ep x20
      obtain ⟨W6, hW6⟩ : ∃ W6, W5.drewN nq = W6 := ⟨_, rfl⟩
      have HK6 : Aside0 (KeepV wa.heap.size W W6) := ⟨HK5.out.trans (by rw [← hW6]; exact KeepV.of_below (pw_below_drewN (Below.refl _ _) _) (by rw [Hz5.out]; omega))⟩
      have HJ6 : Aside0 (J s W6) := ⟨by rw [← hW6]; exact abides_of HJa.out HJ5.out (grownBy_drewN _ _)⟩
      have hz6 : W6.heap.size = G + 1 := by rw [← hW6]; exact Hz5.out
      replace m2 : W6.cell? ⟨G, 2, none⟩ = some (.bool g.f2) := by rw [← hW6]; exact m2
      replace m3 : W6.cell? ⟨G, 3, none⟩ = some (.bool g.f3) := by rw [← hW6]; exact m3
      replace m4 : W6.cell? ⟨G, 4, none⟩ = some (.int .i64 g.f4) := by rw [← hW6]; exact m4
      rw [hW6]
      clear hW6 HJ5 HK5 HL5 Hz5 k0 k1 k2 k3
      obtain ⟨hL, k0, k1, k2, k3⟩ := HF.out _ HK6.out
      have HL6 := Aside0.mk hL
      have Hz6 := Aside0.mk hz6
      clear hL hz6
      go_wp2_with fail
      refine (HB.out s _ (HJI.out _ _ HJ6.out)).mono ?_
      rintro e W7 ⟨rfl, k7, hW7⟩
      obtain ⟨q, hq⟩ : ∃ q, bd s = q := ⟨_, rfl⟩
      rw [hq]
      have Hq := Aside0.mk hq
      clear hq
      have HK7 : Aside0 (KeepV wa.heap.size W W7) := ⟨HK6.out.trans (by rw [hW7]; exact KeepV.of_below (pw_below_drewN (Below.refl _ _) _) (by rw [Hz6.out]; omega))⟩
      have HJ7 : Aside0 (J s W7) := ⟨by rw [hW7]; exact abides_of HJa.out HJ6.out (grownBy_drewN _ _)⟩
      have Hz7 : Aside0 (W7.heap.size = G + 1) := ⟨by rw [hW7]; exact Hz6.out⟩
      replace m2 : W7.cell? ⟨G, 2, none⟩ = some (.bool g.f2) := by rw [hW7]; exact m2
      replace m3 : W7.cell? ⟨G, 3, none⟩ = some (.bool g.f3) := by rw [hW7]; exact m3
      replace m4 : W7.cell? ⟨G, 4, none⟩ = some (.int .i64 g.f4) := by rw [hW7]; exact m4
      clear hW7 HJ6 HK6 HL6 Hz6 k0 k1 k2 k3
      obtain ⟨hL, k0, k1, k2, k3⟩ := HF.out _ HK7.out
      have HST := Aside0.mk (show StyAt W7 X 2 st from hL.style)
      clear hL
      obtain ⟨O, hO⟩ : ∃ O, wrap64 (mx 0 (wrap64 (wd - st.f0)) * st.f7) = O := ⟨_, rfl⟩
      have HO := Aside0.mk hO
      clear hO
      by_cases hcut : 0 ≤ q ∧ q < O
      · obtain ⟨hq0, hq1⟩ := hcut
        go_wp2_with (first | ((with_reducible refine list_style X 2 HST.out _ rfl ?hw ?hx ?_); (case hw => rfl); (case hx => rfl)) | (go_at_call 23; refine (over_any _ _ _ _ _ _ _ _ _ _ _ _ _ _ _ _ _ _ _ _).mono ?_; rintro e W8 ⟨rfl, q8, os8, hW8⟩; rw [HO.out]; have HW8 := Aside0.mk hW8; clear hW8))
        refine bodyPost_ret (results_none rfl _ _ _) rfl ?_
        refine ⟨⟨_, rfl⟩, .inl ⟨s, ?_, ?_⟩⟩
        · rw [HRun.out, run, if_pos]
          rw [Hq.out]
          exact ⟨hq0, by rw [show wideA es p a = wd from Hwd.out, show ov st wd = O from HO.out]; exact hq1⟩
        · rw [HW8.out]; exact abides_of HJa.out (abides_of HJa.out HJ7.out (grownBy_drewN _ _)) (grownBy_grow _ _)
      · have hrun : run first l st es bs p bd step (d + 1) a s = if g.f3 = true then
            if g.f2 = true then step s ((a : Int), cst first l st es bs p a) else run first l st es bs p bd step d (a + 1) (step s ((a : Int), cst first l st es bs p a))
          else if g.f2 = true then s else run first l st es bs p bd step d (a + 1) s := by
          rw [run, if_neg, Hg.out]
          rw [Hq.out, show wideA es p a = wd from Hwd.out, show ov st wd = O from HO.out]
          exact hcut
        have HRun2 := Aside0.mk (HRun.out.trans hrun)
        clear hrun
        have hcut2 : q < 0 ∨ (0 ≤ q ∧ O ≤ q) := by omega
        clear hcut
        rcases hcut2 with hq0 | ⟨hq0, hq1⟩
        · go_wp2_with fail
          obtain ⟨W8, hW8⟩ : ∃ W8, W7 = W8 := ⟨_, rfl⟩
          have HW8 : Aside0 (∃ q8 os8, W8 = grow (W7.drewN q8) os8) := ⟨0, #[], by rw [grow_empty, ← hW8]; rfl⟩
          rw [hW8]
          clear hW8
          have HJ8 : Aside0 (J s W8) := ⟨by obtain ⟨q8, os8, e8⟩ := HW8.out; rw [e8]; exact abides_of HJa.out (abides_of HJa.out HJ7.out (grownBy_drewN _ _)) (grownBy_grow _ _)⟩
          have HB8 : Aside0 (Below W7.heap.size W7 W8) := ⟨by obtain ⟨q8, os8, e8⟩ := HW8.out; rw [e8]; exact (pw_below_drewN (Below.refl _ _) q8).grown (grownBy_grow _ _) (by simp) (fun k e => by cases e)⟩
          have HK8 : Aside0 (KeepV wa.heap.size W W8) := ⟨HK7.out.trans (KeepV.of_below HB8.out (by have := Hz7.out; omega))⟩
          replace m2 := pw_cell_below HB8.out m2
          replace m3 := pw_cell_below HB8.out m3
          replace m4 := pw_cell_below HB8.out m4
          clear k0 k1 k2 k3 HST HJ7 HB8 HW8 HK7 Hz7
          obtain ⟨hL, k0, k1, k2, k3⟩ := HF.out _ HK8.out
          have gr : ∀ {a : Addr} {v : Value}, W8.cell? a = some v → ∀ n os, (grow (W8.drewN n) os).cell? a = some v := fun h n os => cell_grown (World.block_lt_of_cell? _ _ h) h n os
          have ha2 : 0 ≤ (a : Int) + 1 := by omega
          have ha3 : (a : Int) + 1 < (l.length : Int) + 1 := by omega
          have hw1 : IntKind.i64.wrap ((a : Int) + 1) = (a : Int) + 1 := IntWalk.i64_in _ (by omega)
          replace k0 := gr k0
          replace k3 := gr k3
          have b21 := gr hL.f21
          have bb := gr (hL.best (a + 1) (by omega))
          have n2 := gr m2
          have n3 := gr m3
          have n4 := gr m4
          have HST := Aside0.mk (show ∀ w', (∃ p : GrownBy, w' = grow (W8.drewN p.n) p.os) → StyAt w' X 2 st from fun w' ⟨pp, e⟩ j v hj => by rw [e]; exact gr (hL.style j v hj) _ _)
          clear hL gr k1 k2 m3 m4
          cases hmay : g.f3 with
          | false =>
            rw [hmay] at n3
            as_aux_lemma =>
            refine wpIn_wide.1 (region_tail (m := n) 25 (fun w' => ∃ p : GrownBy, w' = grow (W8.drewN p.n) p.os) (by as_aux_lemma => kernel_rfl) (by as_aux_lemma => kernel_rfl) ⟨⟨1, #[]⟩, by rw [grow_empty]; rfl⟩ ?_)
            simp only [List.take_succ_cons, List.take_zero, List.drop_succ_cons, List.drop_zero]
            repeat (first
              | go_big_quiet_step (fail)
              | quiet_step (fail))
            refine wpQuiet_nil ?_
            rintro w' ⟨⟨nq, osq⟩, rfl⟩
            have HB9 : Aside0 (Below W8.heap.size W8 (grow (W8.drewN nq) osq)) := ⟨(pw_below_drewN (Below.refl _ _) nq).grown (grownBy_grow _ _) (by simp) (fun k e => by cases e)⟩
            have HJ9 : Aside0 (J s (grow (W8.drewN nq) osq)) := ⟨abides_of HJa.out (abides_of HJa.out HJ8.out (grownBy_drewN _ _)) (grownBy_grow _ _)⟩
            generalize grow (W8.drewN nq) osq = W9 at HB9 HJ9 ⊢
            have HK9 : Aside0 (KeepV wa.heap.size W W9) := ⟨HK8.out.trans (KeepV.of_below HB9.out (by have := HK8.out.low.size; omega))⟩
            have m9 := pw_cell_below HB9.out m2
            clear m2 n2 n3 n4 HST b21 bb k0 k3 HJ8 HK8
            have HRun3 : Aside0 (run first l st es bs p bd step (l.length - p) p s0 = if g.f2 = true then s else run first l st es bs p bd step d (a + 1) s) := ⟨by rw [HRun2.out]; simp [hmay]⟩
            clear HRun2 HRun
            cases hmust : g.f2 with
            | true =>
              rw [hmust] at m9
              have HRun4 : Aside0 (run first l st es bs p bd step (l.length - p) p s0 = s) := ⟨by rw [HRun3.out]; simp [hmust]⟩
              gi_wp2
              refine ⟨fun _ h => (by cases h), ?_⟩
              gi_wp2
              go_wp2
              refine bodyPost_ret (results_none rfl _ _ _) rfl ?_
              exact ⟨⟨_, rfl⟩, .inl ⟨_, HRun4.out.symm, HJ9.out⟩⟩
            | false =>
              rw [hmust] at m9
              have HRun4 : Aside0 (run first l st es bs p bd step (l.length - p) p s0 = run first l st es bs p bd step d (a + 1) s) := ⟨by rw [HRun3.out]; simp [hmust]⟩
              clear HRun3
              gi_wp2
              refine ⟨fun _ h => (by cases h), ?_⟩
              gi_wp2
              go_wp2
              go_roundw
              case rel => exact ⟨d, a + 1, s, by go_num, by omega, by omega, HRun4, HJ9, HK9⟩
              case measure => simp [intOf]; omega
          | true =>
            rw [hmay] at n3
            as_aux_lemma =>
            refine wpIn_wide.1 (region_tail (m := n) 25 (fun w' => ∃ p : GrownBy, w' = grow (W8.drewN p.n) p.os) (by as_aux_lemma => kernel_rfl) (by as_aux_lemma => kernel_rfl) ⟨⟨1, #[]⟩, by rw [grow_empty]; rfl⟩ ?_)
            simp only [List.take_succ_cons, List.take_zero, List.drop_succ_cons, List.drop_zero]
            repeat (first
              | ((with_reducible refine quiet_style X 2 HST.out _ rfl ?hw ?hx ?_); (case hw => rfl); (case hx => rfl))
              | go_big_quiet_step ((go_at_call 23; exact Calls.grown_of (over_any _ _ _ _ _ _ _ _ _ _ _ _ _ _ _ _ _ _ _ _)))
              | quiet_step ((go_at_call 23; exact Calls.grown_of (over_any _ _ _ _ _ _ _ _ _ _ _ _ _ _ _ _ _ _ _ _))))
            refine wpQuiet_nil ?_
            rintro w' ⟨⟨nq, osq⟩, rfl⟩
            have HB9 : Aside0 (Below W8.heap.size W8 (grow (W8.drewN nq) osq)) := ⟨(pw_below_drewN (Below.refl _ _) nq).grown (grownBy_grow _ _) (by simp) (fun k e => by cases e)⟩
            have HJ9 : Aside0 (J s (grow (W8.drewN nq) osq)) := ⟨abides_of HJa.out (abides_of HJa.out HJ8.out (grownBy_drewN _ _)) (grownBy_grow _ _)⟩
            generalize grow (W8.drewN nq) osq = W9 at HB9 HJ9 ⊢
            have HK9 : Aside0 (KeepV wa.heap.size W W9) := ⟨HK8.out.trans (KeepV.of_below HB9.out (by have := HK8.out.low.size; omega))⟩
            have m9 := pw_cell_below HB9.out m2
            clear m2 n2 n3 n4 HST b21 bb k0 k3 HJ8 HK8
            rw [show wrap64 (wrap64 (wrap64 (mx 0 (wrap64 (wrap64 (wOf first l p + wd) - st.f0)) * st.f7) + g.f4) + bs (a + 1)) = cst first l st es bs p a from by
              unfold cst ov
              rw [Hg.out, show wideA es p a = wd from Hwd.out]]
            obtain ⟨cc, hcc⟩ : ∃ cc, cst first l st es bs p a = cc := ⟨_, rfl⟩
            rw [hcc]
            have HRun3 : Aside0 (run first l st es bs p bd step (l.length - p) p s0 = if g.f2 = true then step s ((a : Int), cc) else run first l st es bs p bd step d (a + 1) (step s ((a : Int), cc))) := ⟨by rw [← hcc, HRun2.out]; simp [hmay]⟩
            clear hcc HRun2
            obtain ⟨fn, tmps, assign, body, hy, hR⟩ := HY.out s ((a : Int), cc) W9 HJ9.out
            have hRR := Aside0.mk hR
            clear hR
            dsimp only at hy
            gi_wp2
            refine ⟨fun h => absurd h (by simp [Fence.wide]), hRR.out.mono ?_⟩
            rintro e W10 (⟨rfl, hJ10, hk10⟩ | ⟨rfl, hx10⟩)
            · have HJ10 := Aside0.mk hJ10
              have m10 := hk10.cell m9 (by simp; omega)
              have HK10 : Aside0 (KeepV wa.heap.size W W10) := ⟨HK9.out.trans hk10⟩
              clear hJ10 hk10 hy m9 HK9 HJ9 HB9 hRR
              cases hmust : g.f2 with
              | true =>
                rw [hmust] at m10
                have HRun4 : Aside0 (run first l st es bs p bd step (l.length - p) p s0 = step s ((a : Int), cc)) := ⟨by rw [HRun3.out]; simp [hmust]⟩
                gi_wp2
                go_wp2
                refine bodyPost_ret (results_none rfl _ _ _) rfl ?_
                exact ⟨⟨_, rfl⟩, .inl ⟨_, HRun4.out.symm, HJ10.out⟩⟩
              | false =>
                rw [hmust] at m10
                have HRun4 : Aside0 (run first l st es bs p bd step (l.length - p) p s0 = run first l st es bs p bd step d (a + 1) (step s ((a : Int), cc))) := ⟨by rw [HRun3.out]; simp [hmust]⟩
                clear HRun3 HRun
                gi_wp2
                go_wp2
                go_roundw
                case rel => exact ⟨d, a + 1, step s ((a : Int), cc), by go_num, by omega, by omega, HRun4, HJ10, HK10⟩
                case measure => simp [intOf]; omega
            · have HX10 := Aside0.mk hx10
              clear hx10 hy m9 HK9 HJ9 HB9 hRR
              gi_wp2
              go_wp2
              refine bodyPost_ret (results_none rfl _ _ _) rfl ?_
              exact ⟨⟨_, rfl⟩, .inr ⟨s, ⟨_, _, HRun.out⟩, HX10.out⟩⟩
        · go_wp2_with (first | ((with_reducible refine list_style X 2 HST.out _ rfl ?hw ?hx ?_); (case hw => rfl); (case hx => rfl)) | (go_at_call 23; refine (over_any _ _ _ _ _ _ _ _ _ _ _ _ _ _ _ _ _ _ _ _).mono ?_; rintro e W8 ⟨rfl, q8, os8, hW8⟩; rw [HO.out]; have HW8 := Aside0.mk (show ∃ q8 os8, W8 = grow (W7.drewN q8) os8 from ⟨q8, os8, hW8⟩); clear hW8))
          have HJ8 : Aside0 (J s W8) := ⟨by obtain ⟨q8, os8, e8⟩ := HW8.out; rw [e8]; exact abides_of HJa.out (abides_of HJa.out HJ7.out (grownBy_drewN _ _)) (grownBy_grow _ _)⟩
          have HB8 : Aside0 (Below W7.heap.size W7 W8) := ⟨by obtain ⟨q8, os8, e8⟩ := HW8.out; rw [e8]; exact (pw_below_drewN (Below.refl _ _) q8).grown (grownBy_grow _ _) (by simp) (fun k e => by cases e)⟩
          have HK8 : Aside0 (KeepV wa.heap.size W W8) := ⟨HK7.out.trans (KeepV.of_below HB8.out (by have := Hz7.out; omega))⟩
          replace m2 := pw_cell_below HB8.out m2
          replace m3 := pw_cell_below HB8.out m3
          replace m4 := pw_cell_below HB8.out m4
          clear k0 k1 k2 k3 HST HJ7 HB8 HW8 HK7 Hz7
          obtain ⟨hL, k0, k1, k2, k3⟩ := HF.out _ HK8.out
          have gr : ∀ {a : Addr} {v : Value}, W8.cell? a = some v → ∀ n os, (grow (W8.drewN n) os).cell? a = some v := fun h n os => cell_grown (World.block_lt_of_cell? _ _ h) h n os
          have ha2 : 0 ≤ (a : Int) + 1 := by omega
          have ha3 : (a : Int) + 1 < (l.length : Int) + 1 := by omega
          have hw1 : IntKind.i64.wrap ((a : Int) + 1) = (a : Int) + 1 := IntWalk.i64_in _ (by omega)
          replace k0 := gr k0
          replace k3 := gr k3
          have b21 := gr hL.f21
          have bb := gr (hL.best (a + 1) (by omega))
          have n2 := gr m2
          have n3 := gr m3
          have n4 := gr m4
          have HST := Aside0.mk (show ∀ w', (∃ p : GrownBy, w' = grow (W8.drewN p.n) p.os) → StyAt w' X 2 st from fun w' ⟨pp, e⟩ j v hj => by rw [e]; exact gr (hL.style j v hj) _ _)
          clear hL gr k1 k2 m3 m4
          cases hmay : g.f3 with
          | false =>
            rw [hmay] at n3
            as_aux_lemma =>
            refine wpIn_wide.1 (region_tail (m := n) 25 (fun w' => ∃ p : GrownBy, w' = grow (W8.drewN p.n) p.os) (by as_aux_lemma => kernel_rfl) (by as_aux_lemma => kernel_rfl) ⟨⟨1, #[]⟩, by rw [grow_empty]; rfl⟩ ?_)
            simp only [List.take_succ_cons, List.take_zero, List.drop_succ_cons, List.drop_zero]
            repeat (first
              | go_big_quiet_step (fail)
              | quiet_step (fail))
            refine wpQuiet_nil ?_
            rintro w' ⟨⟨nq, osq⟩, rfl⟩
            have HB9 : Aside0 (Below W8.heap.size W8 (grow (W8.drewN nq) osq)) := ⟨(pw_below_drewN (Below.refl _ _) nq).grown (grownBy_grow _ _) (by simp) (fun k e => by cases e)⟩
            have HJ9 : Aside0 (J s (grow (W8.drewN nq) osq)) := ⟨abides_of HJa.out (abides_of HJa.out HJ8.out (grownBy_drewN _ _)) (grownBy_grow _ _)⟩
            generalize grow (W8.drewN nq) osq = W9 at HB9 HJ9 ⊢
            have HK9 : Aside0 (KeepV wa.heap.size W W9) := ⟨HK8.out.trans (KeepV.of_below HB9.out (by have := HK8.out.low.size; omega))⟩
            have m9 := pw_cell_below HB9.out m2
            clear m2 n2 n3 n4 HST b21 bb k0 k3 HJ8 HK8
            have HRun3 : Aside0 (run first l st es bs p bd step (l.length - p) p s0 = if g.f2 = true then s else run first l st es bs p bd step d (a + 1) s) := ⟨by rw [HRun2.out]; simp [hmay]⟩
            clear HRun2 HRun
            cases hmust : g.f2 with
            | true =>
              rw [hmust] at m9
              have HRun4 : Aside0 (run first l st es bs p bd step (l.length - p) p s0 = s) := ⟨by rw [HRun3.out]; simp [hmust]⟩
              gi_wp2
              refine ⟨fun _ h => (by cases h), ?_⟩
              gi_wp2
              go_wp2
              refine bodyPost_ret (results_none rfl _ _ _) rfl ?_
              exact ⟨⟨_, rfl⟩, .inl ⟨_, HRun4.out.symm, HJ9.out⟩⟩
            | false =>
              rw [hmust] at m9
              have HRun4 : Aside0 (run first l st es bs p bd step (l.length - p) p s0 = run first l st es bs p bd step d (a + 1) s) := ⟨by rw [HRun3.out]; simp [hmust]⟩
              clear HRun3
              gi_wp2
              refine ⟨fun _ h => (by cases h), ?_⟩
              gi_wp2
              go_wp2
              go_roundw
              case rel => exact ⟨d, a + 1, s, by go_num, by omega, by omega, HRun4, HJ9, HK9⟩
              case measure => simp [intOf]; omega
          | true =>
            rw [hmay] at n3
            as_aux_lemma =>
            refine wpIn_wide.1 (region_tail (m := n) 25 (fun w' => ∃ p : GrownBy, w' = grow (W8.drewN p.n) p.os) (by as_aux_lemma => kernel_rfl) (by as_aux_lemma => kernel_rfl) ⟨⟨1, #[]⟩, by rw [grow_empty]; rfl⟩ ?_)
            simp only [List.take_succ_cons, List.take_zero, List.drop_succ_cons, List.drop_zero]
            repeat (first
              | ((with_reducible refine quiet_style X 2 HST.out _ rfl ?hw ?hx ?_); (case hw => rfl); (case hx => rfl))
              | go_big_quiet_step ((go_at_call 23; exact Calls.grown_of (over_any _ _ _ _ _ _ _ _ _ _ _ _ _ _ _ _ _ _ _ _)))
              | quiet_step ((go_at_call 23; exact Calls.grown_of (over_any _ _ _ _ _ _ _ _ _ _ _ _ _ _ _ _ _ _ _ _))))
            refine wpQuiet_nil ?_
            rintro w' ⟨⟨nq, osq⟩, rfl⟩
            have HB9 : Aside0 (Below W8.heap.size W8 (grow (W8.drewN nq) osq)) := ⟨(pw_below_drewN (Below.refl _ _) nq).grown (grownBy_grow _ _) (by simp) (fun k e => by cases e)⟩
            have HJ9 : Aside0 (J s (grow (W8.drewN nq) osq)) := ⟨abides_of HJa.out (abides_of HJa.out HJ8.out (grownBy_drewN _ _)) (grownBy_grow _ _)⟩
            generalize grow (W8.drewN nq) osq = W9 at HB9 HJ9 ⊢
            have HK9 : Aside0 (KeepV wa.heap.size W W9) := ⟨HK8.out.trans (KeepV.of_below HB9.out (by have := HK8.out.low.size; omega))⟩
            have m9 := pw_cell_below HB9.out m2
            clear m2 n2 n3 n4 HST b21 bb k0 k3 HJ8 HK8
            rw [show wrap64 (wrap64 (wrap64 (mx 0 (wrap64 (wrap64 (wOf first l p + wd) - st.f0)) * st.f7) + g.f4) + bs (a + 1)) = cst first l st es bs p a from by
              unfold cst ov
              rw [Hg.out, show wideA es p a = wd from Hwd.out]]
            obtain ⟨cc, hcc⟩ : ∃ cc, cst first l st es bs p a = cc := ⟨_, rfl⟩
            rw [hcc]
            have HRun3 : Aside0 (run first l st es bs p bd step (l.length - p) p s0 = if g.f2 = true then step s ((a : Int), cc) else run first l st es bs p bd step d (a + 1) (step s ((a : Int), cc))) := ⟨by rw [← hcc, HRun2.out]; simp [hmay]⟩
            clear hcc HRun2
            obtain ⟨fn, tmps, assign, body, hy, hR⟩ := HY.out s ((a : Int), cc) W9 HJ9.out
            have hRR := Aside0.mk hR
            clear hR
            dsimp only at hy
            gi_wp2
            refine ⟨fun h => absurd h (by simp [Fence.wide]), hRR.out.mono ?_⟩
            rintro e W10 (⟨rfl, hJ10, hk10⟩ | ⟨rfl, hx10⟩)
            · have HJ10 := Aside0.mk hJ10
              have m10 := hk10.cell m9 (by simp; omega)
              have HK10 : Aside0 (KeepV wa.heap.size W W10) := ⟨HK9.out.trans hk10⟩
              clear hJ10 hk10 hy m9 HK9 HJ9 HB9 hRR
              cases hmust : g.f2 with
              | true =>
                rw [hmust] at m10
                have HRun4 : Aside0 (run first l st es bs p bd step (l.length - p) p s0 = step s ((a : Int), cc)) := ⟨by rw [HRun3.out]; simp [hmust]⟩
                gi_wp2
                go_wp2
                refine bodyPost_ret (results_none rfl _ _ _) rfl ?_
                exact ⟨⟨_, rfl⟩, .inl ⟨_, HRun4.out.symm, HJ10.out⟩⟩
              | false =>
                rw [hmust] at m10
                have HRun4 : Aside0 (run first l st es bs p bd step (l.length - p) p s0 = run first l st es bs p bd step d (a + 1) (step s ((a : Int), cc))) := ⟨by rw [HRun3.out]; simp [hmust]⟩
                clear HRun3 HRun
                gi_wp2
                go_wp2
                go_roundw
                case rel => exact ⟨d, a + 1, step s ((a : Int), cc), by go_num, by omega, by omega, HRun4, HJ10, HK10⟩
                case measure => simp [intOf]; omega
            · have HX10 := Aside0.mk hx10
              clear hx10 hy m9 HK9 HJ9 HB9 hRR
              gi_wp2
              go_wp2
              refine bodyPost_ret (results_none rfl _ _ _) rfl ?_
              exact ⟨⟨_, rfl⟩, .inr ⟨s, ⟨_, _, HRun.out⟩, HX10.out⟩⟩
end Go.Proofs.Ytmihiememhfmnaa.P
