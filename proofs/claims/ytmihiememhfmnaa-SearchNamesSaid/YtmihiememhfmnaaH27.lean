/- The contract of search.line.next. -/
import Derived.Test.YtmihiememhfmnaaH35
import Derived.Test.YtmihiememhfmnaaRegionR
import Derived.RangeFuncLeaves
namespace Go.Proofs.Ytmihiememhfmnaa.P
open Go.RowKit Go.Sort Go.Shelf Go.Proofs.YtmihiememhfmnaaW.PrintWords Go.Proofs.YtmihiememhfmnaaW.PrintLast Go.Proofs.YtmihiememhfmnaaW.PrintMore
set_option linter.unusedVariables false
set_option linter.unusedSimpArgs false

set_option maxHeartbeats 1000000 in
theorem next1_any {w : World} {X : Nat} {first : Int} {A : Option Addr} {c : Nat} {l : List S48} {st : S25} {E B : Nat} {es bs : Nat → Int} (hL : LineAt w X first A c l st E B es bs)
    (p : Nat) (hp : p ≤ l.length) (b : Nat) (k0 : w.cell? ⟨b, 0, none⟩ = some (.pointer (some ⟨X, 0, none⟩))) (k1 : w.cell? ⟨b + 1, 0, none⟩ = some (.int .i64 p)) :
    Calls Try.prog 33 #[.pointer (some ⟨b, 0, none⟩), .pointer (some ⟨b + 1, 0, none⟩)] w fun e w' => e = .returned (.int .i64 (bs p)) ∧ ∃ k, w' = w.drewN k := by
  have hfew := hL.few
  have x21 := hL.f21
  have bp := hL.best p hp
  have hp0 : 0 ≤ (p : Int) := by omega
  have hp1 : (p : Int) < (l.length : Int) + 1 := by omega
  clear hL
  go_enter Try.func33, Try.ntmps33
  go_wp2
  go_quiet (fail)
  go_wp2
  go_ret
  exact ⟨rfl, nq, rfl⟩

def stepN (bs : Nat → Int) (p : Nat) (s : Int) (x : Int × Int) : Int := if x.2 = bs p then x.1 else s
def nextF (first : Int) (l : List S48) (st : S25) (es bs : Nat → Int) (p : Nat) : Int := run first l st es bs p (fun _ => bs p) (stepN bs p) (l.length - p) p (p : Int)

attribute [local go_sem] Oper.semAt_some
set_option maxHeartbeats 4000000 in
set_option maxRecDepth 100000 in
theorem next_any {w : World} {X : Nat} {first : Int} {A : Option Addr} {c : Nat} {l : List S48} {st : S25} {E B : Nat} {es bs : Nat → Int} (hL : LineAt w X first A c l st E B es bs)
    (p : Nat) (hp : p ≤ l.length) :
    Calls Try.prog 27 #[.pointer (some ⟨X, 0, none⟩), .int .i64 p] w fun e w' => e = .returned (.int .i64 (nextF first l st es bs p)) ∧ Below w.heap.size w w' := by
  have HL := Aside0.mk hL
  have hfew := hL.few
  clear hL
  refine callsIn_wide.1 (callsIn_of_wp_marks (n := 9) Try.func27 rfl trivial ?_ rfl)
  refine wpIn_wide.2 ?_
  simp only [Try.ntmps27, List.size_toArray, List.length_cons, List.length_nil, Nat.reduceAdd, Nat.reduceSub, Array.replicate_succ, Array.replicate_zero, List.push_toArray, List.append_toArray, List.nil_append, List.cons_append]
  go_wp2_with fail
  obtain ⟨wa, hwa⟩ : ∃ wa, (w.alloc (.cells #[.pointer (some ⟨X, 0, none⟩)] 55)).alloc (.cells #[.int .i64 p] 3) = wa := ⟨_, rfl⟩
  have HBa : Aside0 (Below w.heap.size w wa) := ⟨by rw [← hwa]; exact ((Below.refl _ _).alloc (Nat.le_refl _) _).alloc (by simp) _⟩
  have a0 : wa.cell? ⟨w.heap.size, 0, none⟩ = some (.pointer (some ⟨X, 0, none⟩)) := by rw [← hwa]; simp [go_sem]
  have a1 : wa.cell? ⟨w.heap.size + 1, 0, none⟩ = some (.int .i64 p) := by rw [← hwa]; simp [go_sem]
  have za : wa.heap.size = w.heap.size + 2 := by rw [← hwa]; simp
  have HLa := Aside0.mk (HL.out.below HBa.out)
  obtain ⟨V, hV⟩ : ∃ V, wa.heap.size = V := ⟨_, rfl⟩
  have hV2 : V = w.heap.size + 2 := by omega
  have hv : w.heap.size + 1 + 1 = V := by omega
  obtain ⟨wc, hwc⟩ : ∃ wc, wa.alloc (.cells #[.int .i64 p] 3) = wc := ⟨_, rfl⟩
  have HBc : Aside0 (Below V wa wc) := ⟨by rw [← hwc]; exact (Below.refl _ _).alloc (by omega) _⟩
  have cV : wc.cell? ⟨V, 0, none⟩ = some (.int .i64 p) := by rw [← hwc, ← hV]; simp [go_sem]
  have fV : wc.frozen? ⟨V, 0, none⟩ = false := by rw [← hwc, ← hV]; simp [go_sem]
  have zc : wc.heap.size = V + 1 := by rw [← hwc]; simp [hV]
  have HLc := Aside0.mk (HLa.out.below (HBc.out.mono (by omega)))
  simp only [hwa, hwc, hv]
  have HV := Aside0.mk hV
  have e1 : V ≤ w.heap.size + 2 := by omega
  have e2 : w.heap.size + 2 ≤ V := by omega
  have e3 : V ≤ wa.heap.size := by omega
  have e4 : wa.heap.size ≤ V := by omega
  have e5 : V + 1 ≤ wc.heap.size := by omega
  clear hwa hwc hv hV hV2 za zc
  refine (rows_any HLc.out p hp (.func 33) #[] #[.pointer (some ⟨w.heap.size, 0, none⟩), .pointer (some ⟨w.heap.size + 1, 0, none⟩)]).mono ?_
  rintro e w2 ⟨rfl, hb2, j0, j1, j2, j3, hz2⟩
  have HB2 := Aside0.mk hb2
  have B2 : Below V wa w2 := HBc.out.trans (hb2.mono (by omega))
  have HIt := rows_iter (n := 8) HLa.out p hp wc.heap.size 33 #[.pointer (some ⟨w.heap.size, 0, none⟩), .pointer (some ⟨w.heap.size + 1, 0, none⟩)] (by rw [HV.out]; exact B2) (by omega) hz2 j0 j1 j2 j3 (fun _ => bs p) (stepN bs p)
    (fun s W => W.cell? ⟨V, 0, none⟩ = some (.int .i64 s) ∧ W.frozen? ⟨V, 0, none⟩ = false ∧ Below V wa W) (p : Int) (enters_of Try.func33 (by kernel_rfl) rfl)
    (fun s W1 hs => next1_any (HLa.out.below (by rw [HV.out]; exact hs.2.2)) p hp w.heap.size (pw_cell_below (by rw [HV.out]; exact hs.2.2) a0) (pw_cell_below (by rw [HV.out]; exact hs.2.2) a1))
  have C2 : w2.cell? ⟨V, 0, none⟩ = some (.int .i64 p) := pw_cell_below hb2 cV
  have F2 : w2.frozen? ⟨V, 0, none⟩ = false := (hb2.frozen (by simp; omega)).trans fV
  clear hb2 j0 j1 j2 j3 cV fV
  dsimp only
  go_wp2
  refine' wpIn_wide.1 (range_law (n := 9) (gf := 35) (lb := #[.pointer (some ⟨wc.heap.size + 1, 0, none⟩), .pointer (some ⟨wc.heap.size, 0, none⟩), .pointer (some ⟨wc.heap.size + 2, 0, none⟩), .pointer (some ⟨wc.heap.size + 3, 0, none⟩)]) rfl (enters_of Try.func35 (by kernel_rfl) rfl) _ HIt (fun h k => h.trans k) (KeepV.book (by omega)) (fun _ => rfl)
    (fun cd s W => False)
    (fun s A B row hs hg hr => ⟨cell_kept hs.1 hg (fun r e => (hr r e).2), (frozen_kept hs.1 hg (fun r e => (hr r e).2)).trans hs.2.1, hs.2.2.grown hg (by have := hs.2.2.size; omega) (fun k e => by have := (hr k e).1; omega)⟩)
    (fun cd s A B row hs hg hr => hs)
    ⟨C2, F2, B2⟩ _ ?assign ?body ?done ?stop)
  case assign =>
    intro lp x W K hK
    simp only [List.zip_toArray, List.zip_cons_cons, List.zip_nil_right, List.size_toArray, List.length_cons, List.length_nil, Nat.zero_add, Nat.reduceAdd, List.foldl_toArray', List.foldl_cons, List.foldl_nil, List.setIfInBounds_toArray, List.set_cons_succ, List.set_cons_zero]
    gi_wp2
    exact hK
  case body =>
    rintro lp s x W ⟨hc, hf, hB⟩
    have HBW := Aside0.mk hB
    have hLW := HLa.out.below (by rw [HV.out]; exact hB)
    have q0 := pw_cell_below (by rw [HV.out]; exact hB) a0
    have q1 := pw_cell_below (by rw [HV.out]; exact hB) a1
    have x21 := hLW.f21
    have bp := hLW.best p hp
    have hp0 : 0 ≤ (p : Int) := by omega
    have hp1 : (p : Int) < (l.length : Int) + 1 := by omega
    have gr : ∀ {a : Addr} {v : Value}, W.cell? a = some v → ∀ n os, (grow (W.drewN n) os).cell? a = some v := fun h n os => cell_grown (World.block_lt_of_cell? _ _ h) h n os
    replace q0 := gr q0
    replace q1 := gr q1
    replace x21 := gr x21
    replace bp := gr bp
    clear gr hB hLW
    gi_wp2
    refine InRound.region_tail (r := some lp) (m := 9 - 1 - 1) 8 (fun w' => ∃ p : GrownBy, w' = grow (W.drewN p.n) p.os) (by as_aux_lemma => kernel_rfl) (by as_aux_lemma => kernel_rfl) ⟨⟨1, #[]⟩, by rw [grow_empty]; rfl⟩ ?_
    simp only [List.take_succ_cons, List.take_zero, List.drop_succ_cons, List.drop_zero]
    repeat (first
      | go_big_quiet_step (fail)
      | quiet_step (fail))
    refine wpQuiet_nil ?_
    rintro w' ⟨⟨nq, osq⟩, rfl⟩
    have HB9 : Aside0 (Below W.heap.size W (grow (W.drewN nq) osq)) := ⟨(pw_below_drewN (Below.refl _ _) nq).grown (grownBy_grow _ _) (by simp) (fun k e => by cases e)⟩
    generalize grow (W.drewN nq) osq = W9 at HB9 ⊢
    have c9 := pw_cell_below HB9.out hc
    have f9 : W9.frozen? ⟨V, 0, none⟩ = false := (HB9.out.frozen (World.block_lt_of_cell? _ _ hc)).trans hf
    have hVW : V ≤ W.heap.size := by have := HBW.out.size; omega
    have HBW9 : Aside0 (Below V wa W9) := ⟨HBW.out.trans (HB9.out.mono hVW)⟩
    clear q0 q1 x21 bp
    rw [show InRound.wideAt (some lp) = Fence.wide.inRound lp from rfl]
    have HL9 : Aside0 (KeepV wa.heap.size W W9) := ⟨KeepV.of_below HB9.out (by omega)⟩
    have HO9 : Aside0 (KeepsOthers W W9) := ⟨KeepsOthers.of_grownBy (row := none) (grown_of_below HB9.out none) (fun j o e _ => by cases e)⟩
    clear HB9 hc hf HBW
    by_cases hx : x.2 = bs p
    · have hb : (x.2 == bs p) = true := by simpa using hx
      have hst : Aside0 (stepN bs p s x = x.1) := ⟨if_pos hx⟩
      clear hx
      gi_wp2
      exact ⟨HO9.out.trans (KeepsOthers.setCell _ _ _), HL9.out.trans (by rw [HV.out]; exact KeepV.setCell _ _ _ _), by rw [hst.out]; exact World.cell?_setCell_same' _ _ _ (by rw [c9]; rfl), by rw [World.frozen?_setCell]; exact f9, HBW9.out.setCell (Nat.le_refl _) _⟩
    · have hb : (x.2 == bs p) = false := by simpa using hx
      have hst : Aside0 (stepN bs p s x = s) := ⟨if_neg hx⟩
      clear hx
      gi_wp2
      exact ⟨HO9.out, HL9.out, by rw [hst.out]; exact c9, f9, HBW9.out⟩
  case done =>
    rintro D s W hD hDone ⟨hc, hf, hB⟩ hK
    have HBW := Aside0.mk hB
    have HK := Aside0.mk hK
    have HD := Aside0.mk hDone
    clear hB hK hDone
    go_wp2
    refine ⟨by simp, .inl ⟨_, _, rfl, run_takeDeferred HK.out, ?_⟩⟩
    exact ⟨_, results_tmp rfl _ _ _, by rw [nextF, ← HD.out]; rfl, HBa.out.trans ((HBW.out.trans ((belowK_b (w := w2) B2.size W D _ _ hD HK.out rfl rfl).mono (by omega))).mono (by omega))⟩
  case stop =>
    rintro D cd s W hD _ hF _
    exact hF.elim
end Go.Proofs.Ytmihiememhfmnaa.P
