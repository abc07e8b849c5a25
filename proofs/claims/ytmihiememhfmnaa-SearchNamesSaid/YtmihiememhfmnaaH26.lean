/- The contract of search.line.least. -/
import Derived.Test.YtmihiememhfmnaaH35
import Derived.RangeFuncLeaves
namespace Go.Proofs.Ytmihiememhfmnaa.P
open Go.RowKit Go.Sort Go.Shelf Go.Proofs.YtmihiememhfmnaaW.PrintWords Go.Proofs.YtmihiememhfmnaaW.PrintLast Go.Proofs.YtmihiememhfmnaaW.PrintMore
set_option linter.unusedVariables false
set_option linter.unusedSimpArgs false

theorem least1_any (V : Nat) (s : Int) (w : World) (hc : w.cell? ⟨V, 0, none⟩ = some (.int .i64 s)) :
    Calls Try.prog 32 #[.pointer (some ⟨V, 0, none⟩)] w fun e w' => e = .returned (.int .i64 s) ∧ ∃ k, w' = w.drewN k := by
  go_enter Try.func32, Try.ntmps32
  go_wp2
  go_ret
  exact ⟨rfl, 0, rfl⟩

def stepL (s : Int) (x : Int × Int) : Int := if s = 0 then s else if s < 0 then x.2 else if x.2 < s then x.2 else s
def startL (first : Int) (l : List S48) (st : S25) (es : Nat → Int) (p m : Nat) : Int := if m = l.length then lst first l st es p else -1
def leastF (first : Int) (l : List S48) (st : S25) (es bs : Nat → Int) (p m : Nat) : Int := run first l st es bs p id stepL (l.length - p) p (startL first l st es p m)

theorem run_zero (first : Int) (l : List S48) (st : S25) (es bs : Nat → Int) (p : Nat) : ∀ d a, run first l st es bs p id stepL d a 0 = 0
  | 0, _ => rfl
  | d + 1, a => by
    have h : ∀ x, stepL 0 x = 0 := fun _ => rfl
    rw [run, h, run_zero]
    simp

attribute [local go_sem] Oper.semAt_some
set_option maxHeartbeats 4000000 in
set_option maxRecDepth 100000 in
theorem least_any {w : World} {X : Nat} {first : Int} {A : Option Addr} {c : Nat} {l : List S48} {st : S25} {E B : Nat} {es bs : Nat → Int} (hL : LineAt w X first A c l st E B es bs)
    (p m : Nat) (hp : p ≤ l.length) (hm : m ≤ l.length) :
    Calls Try.prog 26 #[.pointer (some ⟨X, 0, none⟩), .int .i64 p, .int .i64 m] w fun e w' => e = .returned (.int .i64 (leastF first l st es bs p m)) ∧ Below w.heap.size w w' := by
  have HL := Aside0.mk hL
  have hfew := hL.few
  have f1 := hL.f1
  have hX := World.block_lt_of_cell? w _ f1
  simp only at hX
  have hX1 : X < w.heap.size + 1 := by omega
  clear hL
  refine callsIn_wide.1 (callsIn_of_wp_marks (n := 9) Try.func26 rfl trivial ?_ rfl)
  refine wpIn_wide.2 ?_
  simp only [Try.ntmps26, List.size_toArray, List.length_cons, List.length_nil, Nat.reduceAdd, Nat.reduceSub, Array.replicate_succ, Array.replicate_zero, List.push_toArray, List.append_toArray, List.nil_append, List.cons_append]
  go_wp2_with fail
  go_step3
  go_upto_if 17 with (fail)
  go_cut [8] from 17 to 64 (fun v8 wc => Aside0 (wc.cell? ⟨w.heap.size, 0, none⟩ = some (.int .i64 (startL first l st es p m))) ∧ Aside0 (wc.frozen? ⟨w.heap.size, 0, none⟩ = false) ∧ Aside0 (Below w.heap.size w wc))
  case first =>
    obtain ⟨w1, hw1⟩ : ∃ w1, w.alloc (.cells #[.int .i64 (-1)] 2) = w1 := ⟨_, rfl⟩
    have c7 : w1.cell? ⟨w.heap.size, 0, none⟩ = some (.int .i64 (-1)) := by rw [← hw1]; simp [go_sem]
    have z7 : w1.frozen? ⟨w.heap.size, 0, none⟩ = false := by rw [← hw1]; simp [go_sem]
    have HB1 : Aside0 (Below w.heap.size w w1) := ⟨by rw [← hw1]; exact (Below.refl _ _).alloc (Nat.le_refl _) _⟩
    rw [hw1]
    clear hw1
    by_cases hmn : m = l.length
    · have hb : ((m : Int) == (l.length : Int)) = true := by rw [hmn]; simp
      have hS : Aside0 (startL first l st es p m = lst first l st es p) := ⟨if_pos hmn⟩
      subst hmn
      have g1 := pw_cell_below HB1.out f1
      have HL1 := Aside0.mk (HL.out.below HB1.out)
      rw [hb]
      rcases Nat.eq_zero_or_pos p with rfl | h0
      · have f0 := HL1.out.f0
        go_wp2
        clear f0 g1
        have gr : ∀ {a : Addr} {v : Value}, w1.cell? a = some v → ∀ n os, (grow (w1.drewN n) os).cell? a = some v := fun h n os => cell_grown (World.block_lt_of_cell? _ _ h) h n os
        have x20 := gr HL1.out.f20
        have en := gr (HL1.out.ends l.length (Nat.le_refl _))
        have ep := gr (HL1.out.ends 0 (Nat.zero_le _))
        have HST := Aside0.mk (show ∀ w', (∃ p : GrownBy, w' = grow (w1.drewN p.n) p.os) → StyAt w' X 2 st from fun w' ⟨pp, e⟩ j v hj => by rw [e]; exact gr (HL1.out.style j v hj) _ _)
        have hn0 : 0 ≤ (l.length : Int) := by omega
        have hn1 : (l.length : Int) < (l.length : Int) + 1 := by omega
        have hp1 : (0 : Int) < (l.length : Int) + 1 := by omega
        clear gr
        refine wpIn_wide.1 (region_tail (m := 9) 22 (fun w' => ∃ p : GrownBy, w' = grow (w1.drewN p.n) p.os) (by as_aux_lemma => kernel_rfl) (by as_aux_lemma => kernel_rfl) ⟨⟨1, #[]⟩, by rw [grow_empty]; rfl⟩ ?_)
        simp only [List.take_succ_cons, List.take_zero, List.drop_succ_cons, List.drop_zero]
        repeat (first
          | ((with_reducible refine quiet_style X 2 HST.out _ rfl ?hw ?hx ?_); (case hw => rfl); (case hx => rfl))
          | go_big_quiet_step ((go_at_call 23; exact Calls.grown_of (over_any _ _ _ _ _ _ _ _ _ _ _ _ _ _ _ _ _ _ _ _)))
          | quiet_step ((go_at_call 23; exact Calls.grown_of (over_any _ _ _ _ _ _ _ _ _ _ _ _ _ _ _ _ _ _ _ _))))
        refine wpQuiet_nil ?_
        rintro w' ⟨⟨nq2, osq⟩, rfl⟩
        have HB9 : Aside0 (Below w1.heap.size w1 (grow (w1.drewN nq2) osq)) := ⟨(pw_below_drewN (Below.refl _ _) nq2).grown (grownBy_grow _ _) (by simp) (fun k e => by cases e)⟩
        generalize grow (w1.drewN nq2) osq = W9 at HB9 ⊢
        have c9 := pw_cell_below HB9.out c7
        have z9 : W9.frozen? ⟨w.heap.size, 0, none⟩ = false := (HB9.out.frozen (World.block_lt_of_cell? _ _ c7)).trans z7
        have HBW : Aside0 (Below w.heap.size w W9) := ⟨HB1.out.trans (HB9.out.mono HB1.out.size)⟩
        clear c7 z7 x20 en ep HST HB1 HB9 HL1
        gi_wp2
        go_wp2
        go_meet
        case rel => exact ⟨⟨by rw [hS.out]; exact World.cell?_setCell_same' _ _ _ (by rw [c9]; rfl)⟩, ⟨by rw [World.frozen?_setCell]; exact z9⟩, ⟨HBW.out.setCell (Nat.le_refl _) _⟩⟩
      · have f0 := HL1.out.f0
        have h1 : 0 ≤ (p : Int) - 1 := by omega
        have h2 : (p : Int) - 1 < (l.length : Int) := by omega
        have h3 : 1 ≤ (p : Int) := by omega
        obtain ⟨ad, e1, y0, y1, y2, y3, y4, y5⟩ := at_T48 HL1.out.gaps ((p : Int) - 1) h1 h2
        cases e1
        rw [show ((p : Int) - 1).toNat = p - 1 from by omega] at y0 y1 y2 y3 y4 y5
        have hw1 : IntKind.i64.wrap ((p : Int) - 1) = (p : Int) - 1 := IntWalk.i64_in _ (by omega)
        go_wp2
        go_quiet (fail)
        clear hw1 y0 y1 y2 y3 y4 y5 f0 g1
        obtain ⟨w3, hw3⟩ : ∃ w3, w1.drewN nq = w3 := ⟨_, rfl⟩
        have hB13 : Below w1.heap.size w1 w3 := by rw [← hw3]; exact pw_below_drewN (Below.refl _ _) _
        have HL3 := Aside0.mk (HL1.out.below hB13)
        have HB3 : Aside0 (Below w.heap.size w w3) := ⟨HB1.out.trans (hB13.mono HB1.out.size)⟩
        replace c7 := pw_cell_below hB13 c7
        replace z7 : w3.frozen? ⟨w.heap.size, 0, none⟩ = false := by rw [← hw3]; exact z7
        rw [hw3, show wrap64 ((rd_T48 l ((p : Int) - 1)).f5 + (rd_T48 l ((p : Int) - 1)).f0) = wOf first l p from (if_neg (by omega)).symm]
        clear hw3 hB13 HB1 HL1
        go_wp2
        have gr : ∀ {a : Addr} {v : Value}, w3.cell? a = some v → ∀ n os, (grow (w3.drewN n) os).cell? a = some v := fun h n os => cell_grown (World.block_lt_of_cell? _ _ h) h n os
        have x20 := gr HL3.out.f20
        have en := gr (HL3.out.ends l.length (Nat.le_refl _))
        have ep := gr (HL3.out.ends p hp)
        have HST := Aside0.mk (show ∀ w', (∃ p : GrownBy, w' = grow (w3.drewN p.n) p.os) → StyAt w' X 2 st from fun w' ⟨pp, e⟩ j v hj => by rw [e]; exact gr (HL3.out.style j v hj) _ _)
        have hn0 : 0 ≤ (l.length : Int) := by omega
        have hn1 : (l.length : Int) < (l.length : Int) + 1 := by omega
        have hp0 : 0 ≤ (p : Int) := by omega
        have hp1 : (p : Int) < (l.length : Int) + 1 := by omega
        clear gr
        refine wpIn_wide.1 (region_tail (m := 9) 22 (fun w' => ∃ p : GrownBy, w' = grow (w3.drewN p.n) p.os) (by as_aux_lemma => kernel_rfl) (by as_aux_lemma => kernel_rfl) ⟨⟨1, #[]⟩, by rw [grow_empty]; rfl⟩ ?_)
        simp only [List.take_succ_cons, List.take_zero, List.drop_succ_cons, List.drop_zero]
        repeat (first
          | ((with_reducible refine quiet_style X 2 HST.out _ rfl ?hw ?hx ?_); (case hw => rfl); (case hx => rfl))
          | go_big_quiet_step ((go_at_call 23; exact Calls.grown_of (over_any _ _ _ _ _ _ _ _ _ _ _ _ _ _ _ _ _ _ _ _)))
          | quiet_step ((go_at_call 23; exact Calls.grown_of (over_any _ _ _ _ _ _ _ _ _ _ _ _ _ _ _ _ _ _ _ _))))
        refine wpQuiet_nil ?_
        rintro w' ⟨⟨nq2, osq⟩, rfl⟩
        have HB9 : Aside0 (Below w3.heap.size w3 (grow (w3.drewN nq2) osq)) := ⟨(pw_below_drewN (Below.refl _ _) nq2).grown (grownBy_grow _ _) (by simp) (fun k e => by cases e)⟩
        generalize grow (w3.drewN nq2) osq = W9 at HB9 ⊢
        have c9 := pw_cell_below HB9.out c7
        have z9 : W9.frozen? ⟨w.heap.size, 0, none⟩ = false := (HB9.out.frozen (World.block_lt_of_cell? _ _ c7)).trans z7
        have HBW : Aside0 (Below w.heap.size w W9) := ⟨HB3.out.trans (HB9.out.mono HB3.out.size)⟩
        clear c7 z7 x20 en ep HST HB3 HB9 HL3
        gi_wp2
        go_wp2
        go_meet
        case rel => exact ⟨⟨by rw [hS.out]; exact World.cell?_setCell_same' _ _ _ (by rw [c9]; rfl)⟩, ⟨by rw [World.frozen?_setCell]; exact z9⟩, ⟨HBW.out.setCell (Nat.le_refl _) _⟩⟩
    · have hb : ((m : Int) == (l.length : Int)) = false := by simp; omega
      have hS : Aside0 (startL first l st es p m = -1) := ⟨if_neg hmn⟩
      rw [hb]
      go_wp2
      go_meet
      case rel =>

        exact ⟨⟨by rw [hS.out]; exact c7⟩, ⟨z7⟩, HB1⟩
  obtain ⟨HC, HF, HB⟩ := hcut
  have HLc : Aside0 (LineAt wc X first A c l st E B es bs) := ⟨HL.out.below HB.out⟩
  go_wp2_with fail
  go_step3
  go_wp2_with (go_at_call 31; refine (rows_any HLc.out p hp (.func 32) #[] #[.pointer (some ⟨w.heap.size, 0, none⟩)]).mono ?_; rintro e w2 ⟨rfl, hb2, j0, j1, j2, j3, hz2⟩; have HB2 := Aside0.mk hb2; have J0 := Aside0.mk j0; have J1 := Aside0.mk j1; have J2 := Aside0.mk j2; have J3 := Aside0.mk j3; clear hb2 j0 j1 j2 j3)
  have hzc : w.heap.size < wc.heap.size := World.block_lt_of_cell? wc _ HC.out
  have HIt := rows_iter (n := 8) HL.out p hp wc.heap.size 32 #[.pointer (some ⟨w.heap.size, 0, none⟩)] (HB.out.trans (HB2.out.mono HB.out.size)) hzc hz2 J0.out J1.out J2.out J3.out id stepL
    (fun s W => W.cell? ⟨w.heap.size, 0, none⟩ = some (.int .i64 s) ∧ W.frozen? ⟨w.heap.size, 0, none⟩ = false ∧ Below w.heap.size w W) (startL first l st es p m) (enters_of Try.func32 (by kernel_rfl) rfl)
    (fun s W1 hs => least1_any _ s W1 hs.1)
  have C2 : w2.cell? ⟨w.heap.size, 0, none⟩ = some (.int .i64 (startL first l st es p m)) := pw_cell_below HB2.out HC.out
  have F2 : w2.frozen? ⟨w.heap.size, 0, none⟩ = false := (HB2.out.frozen hzc).trans HF.out
  have B2 : Below w.heap.size w w2 := HB.out.trans (HB2.out.mono HB.out.size)
  refine' wpIn_wide.1 (range_law (n := 9) (gf := 35) (lb := #[.pointer (some ⟨wc.heap.size + 1, 0, none⟩), .pointer (some ⟨wc.heap.size, 0, none⟩), .pointer (some ⟨wc.heap.size + 2, 0, none⟩), .pointer (some ⟨wc.heap.size + 3, 0, none⟩)]) rfl (enters_of Try.func35 (by kernel_rfl) rfl) _ HIt (fun h k => h.trans k) (KeepV.book (by omega)) (fun _ => rfl)
    (fun cd s W => cd = .exit 0 ∧ s = 0 ∧ W.cell? ⟨w.heap.size, 0, none⟩ = some (.int .i64 0) ∧ Below w.heap.size w W)
    (fun s A B row hs hg hr => ⟨cell_kept hs.1 hg (fun r e => (hr r e).2), (frozen_kept hs.1 hg (fun r e => (hr r e).2)).trans hs.2.1, hs.2.2.grown hg hs.2.2.size (fun k e => by have := (hr k e).1; omega)⟩)
    (fun cd s A B row hs hg hr => ⟨hs.1, hs.2.1, cell_kept hs.2.2.1 hg (fun r e => (hr r e).2), hs.2.2.2.grown hg hs.2.2.2.size (fun k e => by have := (hr k e).1; omega)⟩)
    ⟨C2, F2, B2⟩ _ ?assign ?body ?done ?stop)
  case assign =>
    intro lp x W K hK
    gi_wp2
    exact hK
  case body =>
    rintro lp s x W ⟨hc, hf, hB⟩
    have HBW := Aside0.mk hB
    clear hB
    by_cases h0 : s = 0
    · subst h0
      gi_wp2
      exact ⟨KeepsOthers.refl _, rfl, rfl, hc, HBW.out⟩
    · have hb0 : (s == 0) = false := by simpa using h0
      by_cases hs : s < 0
      · have hst : Aside0 (stepL s x = x.2) := ⟨by unfold stepL; rw [if_neg h0, if_pos hs]⟩
        gi_wp2
        exact ⟨KeepsOthers.setCell _ _ _, KeepV.setCell _ _ _ _, by rw [hst.out]; exact World.cell?_setCell_same' _ _ _ (by rw [hc]; rfl), by rw [World.frozen?_setCell]; exact hf, HBW.out.setCell (Nat.le_refl _) _⟩
      · by_cases hx : x.2 < s
        · have hst : Aside0 (stepL s x = x.2) := ⟨by unfold stepL; rw [if_neg h0, if_neg hs, if_pos hx]⟩
          gi_wp2
          exact ⟨KeepsOthers.setCell _ _ _, KeepV.setCell _ _ _ _, by rw [hst.out]; exact World.cell?_setCell_same' _ _ _ (by rw [hc]; rfl), by rw [World.frozen?_setCell]; exact hf, HBW.out.setCell (Nat.le_refl _) _⟩
        · have hst : Aside0 (stepL s x = s) := ⟨by unfold stepL; rw [if_neg h0, if_neg hs, if_neg hx]⟩
          gi_wp2
          exact ⟨KeepsOthers.refl _, KeepV.refl _ _, by rw [hst.out]; exact hc, hf, HBW.out⟩
  case done =>
    rintro D s W hD hDone ⟨hc, hf, hB⟩ hK
    have HBW := Aside0.mk hB
    have HK := Aside0.mk hK
    have HD := Aside0.mk hDone
    clear hB hK hDone
    go_wp2
    rw [Exit.noGoto_ret]
    refine ⟨by simp, .inl ⟨_, _, rfl, run_takeDeferred HK.out, ?_⟩⟩
    exact ⟨_, results_tmp rfl _ _ _, by rw [leastF, ← HD.out]; rfl, HBW.out.trans (belowK_b (w := w2) B2.size W D _ _ hD HK.out rfl rfl)⟩
  case stop =>
    rintro D cd s W hD ⟨d, a, hPart⟩ ⟨rfl, rfl, hc, hB⟩ hK
    have HBW := Aside0.mk hB
    have HK := Aside0.mk hK
    have HD := Aside0.mk hPart
    clear hB hK hPart
    refine wpIn_wide.2 ?_
    go_wp2
    rw [Exit.noGoto_ret]
    refine ⟨by simp, .inl ⟨_, _, rfl, run_takeDeferred HK.out, ?_⟩⟩
    exact ⟨_, results_tmp rfl _ _ _, by rw [leastF, HD.out, run_zero]; rfl, HBW.out.trans (belowK_b (w := w2) B2.size W D _ _ hD HK.out rfl rfl)⟩
end Go.Proofs.Ytmihiememhfmnaa.P
