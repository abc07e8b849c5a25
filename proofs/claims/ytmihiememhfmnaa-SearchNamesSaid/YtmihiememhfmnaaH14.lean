/- The contract of search.Best. -/
import Derived.Test.YtmihiememhfmnaaH26
import Derived.Test.YtmihiememhfmnaaH27
import Derived.Test.YtmihiememhfmnaaRegrow
namespace Go.Proofs.Ytmihiememhfmnaa.P
open Go.RowKit Go.Sort Go.Shelf Go.Proofs.YtmihiememhfmnaaW.PrintWords Go.Proofs.YtmihiememhfmnaaW.PrintLast Go.Proofs.YtmihiememhfmnaaW.PrintMore
set_option linter.unusedVariables false
set_option linter.unusedSimpArgs false

/-- The cells of search.line. -/
def lineC (first : Int) (A : Option Addr) (n c : Nat) (s : S25) (E B : Nat) : Array Value :=
  #[.int .i64 first, .slice A n c, .int .i64 s.f0, .int .i64 s.f1, .int .i64 s.f2, .int .i64 s.f3, .bool s.f4, .bool s.f5, .bool s.f6, .int .i64 s.f7, .int .i64 s.f8, .int .i64 s.f9, .int .i64 s.f10, .int .i64 s.f11, .int .i64 s.f12, .int .i64 s.f13, .int .i64 s.f14, .int .i64 s.f15, .int .i64 s.f16, .int .i64 s.f17,
    .slice (some ⟨E, 0, none⟩) (n + 1) (n + 1), .slice (some ⟨B, 0, none⟩) (n + 1) (n + 1)]

/-- search.line, its rows told by lists. -/
structure LineS (w0 w : World) (X : Nat) (first : Int) (A : Option Addr) (c : Nat) (l : List S48) (st : S25) (E B : Nat) (es bs : List Int) : Prop where
  blk : w.heap[X]? = some (.cells (lineC first A l.length c st E B) 59 (0, 0))
  ends : w.ownsRow w0.heap.size 3 1 (.slice (some ⟨E, 0, none⟩) (l.length + 1) (l.length + 1)) (l.length + 1) (nums .i64 es)
  best : w.ownsRow w0.heap.size 2 1 (.slice (some ⟨B, 0, none⟩) (l.length + 1) (l.length + 1)) (l.length + 1) (nums .i64 bs)
  low : Below w0.heap.size w0 w
  gaps : Kd.C k48 w0 A l.length l
  room : l.length ≤ c
  few : l.length ≤ 70000
  hX : w0.heap.size ≤ X

theorem LineS.at_ {w0 w : World} {X : Nat} {first : Int} {A : Option Addr} {c : Nat} {l : List S48} {st : S25} {E B : Nat} {es bs : List Int} (h : LineS w0 w X first A c l st E B es bs) :
    LineAt w X first A c l st E B (fun i => rd es i) (fun i => rd bs i) := by
  have k : ∀ j v, (lineC first A l.length c st E B)[j]? = some v → w.cell? ⟨X, j, none⟩ = some v := fun j v hj => (blk_cell h.blk j).trans hj
  refine ⟨k 0 _ rfl, k 1 _ rfl, k 2 _ rfl, k 3 _ rfl, k 4 _ rfl, k 5 _ rfl, k 6 _ rfl, k 7 _ rfl, k 8 _ rfl, k 9 _ rfl, k 10 _ rfl, k 11 _ rfl, k 12 _ rfl, k 13 _ rfl, k 14 _ rfl, k 15 _ rfl, k 16 _ rfl, k 17 _ rfl, k 18 _ rfl, k 19 _ rfl, k 20 _ rfl, k 21 _ rfl, ?_, ?_, Kd.C_below h.gaps h.low, h.room, h.few⟩
  · intro i hi
    have := (own_at h.ends (i : Int) (by omega) (by omega)).1
    simpa using this
  · intro i hi
    have := (own_at h.best (i : Int) (by omega) (by omega)).1
    simpa using this

theorem LineS.below {w0 w w' : World} {X : Nat} {first : Int} {A : Option Addr} {c : Nat} {l : List S48} {st : S25} {E B : Nat} {es bs : List Int} (h : LineS w0 w X first A c l st E B es bs) (hb : Below w.heap.size w w') :
    LineS w0 w' X first A c l st E B es bs :=
  ⟨(hb.block X (Array.getElem?_eq_some_iff.1 h.blk).1).trans h.blk, pw_own_below h.ends hb, pw_own_below h.best hb, h.low.trans (hb.mono h.low.size), h.gaps, h.room, h.few, h.hX⟩

theorem LineS.ne {w0 w : World} {X : Nat} {first : Int} {A : Option Addr} {c : Nat} {l : List S48} {st : S25} {E B : Nat} {es bs : List Int} (h : LineS w0 w X first A c l st E B es bs) :
    X ≠ E ∧ X ≠ B ∧ E ≠ B ∧ w0.heap.size ≤ E ∧ w0.heap.size ≤ B := by
  have bE : ∃ cs, w.heap[E]? = some (.cells cs 3 (0, 0)) ∧ w0.heap.size ≤ E := by
    rcases h.ends.2 with ⟨h', _⟩ | ⟨g, cap, cur, h', hb, hh, _⟩
    · cases h'
    · injection h' with h'; injection h' with h'; injection h' with h'; subst h'; exact ⟨_, hh, hb⟩
  have bB : ∃ cs, w.heap[B]? = some (.cells cs 2 (0, 0)) ∧ w0.heap.size ≤ B := by
    rcases h.best.2 with ⟨h', _⟩ | ⟨g, cap, cur, h', hb, hh, _⟩
    · cases h'
    · injection h' with h'; injection h' with h'; injection h' with h'; subst h'; exact ⟨_, hh, hb⟩
  obtain ⟨c1, h1, b1⟩ := bE
  obtain ⟨c2, h2, b2⟩ := bB
  refine ⟨fun e => ?_, fun e => ?_, fun e => ?_, b1, b2⟩
  · have := h.blk; rw [e, h1] at this; injection this with this; injection this with _ t; cases t
  · have := h.blk; rw [e, h2] at this; injection this with this; injection this with _ t; cases t
  · rw [e, h2] at h1; injection h1 with this; injection this with _ t; cases t

theorem LineS.setEnd {w0 w : World} {X : Nat} {first : Int} {A : Option Addr} {c : Nat} {l : List S48} {st : S25} {E B : Nat} {es bs : List Int} (h : LineS w0 w X first A c l st E B es bs) (j : Nat) (x : Int) :
    LineS w0 (w.setCell ⟨E, j, none⟩ (.int .i64 x)) X first A c l st E B (es.set j x) bs := by
  obtain ⟨n1, n2, n3, b1, b2⟩ := h.ne
  refine ⟨(Below.heap_setCell w ⟨E, j, none⟩ _ X n1).trans h.blk, ?_, own_setCell h.best (by simp [Value.ownBlock]; exact n3) _, h.low.setCell b1 _, h.gaps, h.room, h.few, h.hX⟩
  have := (own_store h.ends (j : Int) x).1
  simpa using this

theorem LineS.setBest {w0 w : World} {X : Nat} {first : Int} {A : Option Addr} {c : Nat} {l : List S48} {st : S25} {E B : Nat} {es bs : List Int} (h : LineS w0 w X first A c l st E B es bs) (j : Nat) (x : Int) :
    LineS w0 (w.setCell ⟨B, j, none⟩ (.int .i64 x)) X first A c l st E B es (bs.set j x) := by
  obtain ⟨n1, n2, n3, b1, b2⟩ := h.ne
  refine ⟨(Below.heap_setCell w ⟨B, j, none⟩ _ X n2).trans h.blk, own_setCell h.ends (by simp [Value.ownBlock]; exact fun e => n3 e.symm) _, ?_, h.low.setCell b2 _, h.gaps, h.room, h.few, h.hX⟩
  have := (own_store h.best (j : Int) x).1
  simpa using this

theorem LineS.lt3 {w0 w : World} {X : Nat} {first : Int} {A : Option Addr} {c : Nat} {l : List S48} {st : S25} {E B : Nat} {es bs : List Int} (h : LineS w0 w X first A c l st E B es bs) :
    X ≠ w.heap.size ∧ E ≠ w.heap.size ∧ B ≠ w.heap.size := by
  refine ⟨Nat.ne_of_lt (Array.getElem?_eq_some_iff.1 h.blk).1, fun e => ?_, fun e => ?_⟩
  · rcases h.ends.2 with ⟨h', _⟩ | ⟨g, cap, cur, h', hb, hh, _⟩
    · cases h'
    · injection h' with h'; injection h' with h'; injection h' with h'; subst h'
      exact absurd (Array.getElem?_eq_some_iff.1 hh).1 (by omega)
  · rcases h.best.2 with ⟨h', _⟩ | ⟨g, cap, cur, h', hb, hh, _⟩
    · cases h'
    · injection h' with h'; injection h' with h'; injection h' with h'; subst h'
      exact absurd (Array.getElem?_eq_some_iff.1 hh).1 (by omega)

theorem LineS.setOther {w0 w : World} {X : Nat} {first : Int} {A : Option Addr} {c : Nat} {l : List S48} {st : S25} {E B : Nat} {es bs : List Int} (h : LineS w0 w X first A c l st E B es bs) (G j : Nat) (x : Value)
    (hx : X ≠ G ∧ E ≠ G ∧ B ≠ G) (hg : w0.heap.size ≤ G) :
    LineS w0 (w.setCell ⟨G, j, none⟩ x) X first A c l st E B es bs :=
  ⟨(Below.heap_setCell w ⟨G, j, none⟩ _ X hx.1).trans h.blk, own_setCell h.ends (by simp [Value.ownBlock]; exact fun e => hx.2.1 e.symm) _, own_setCell h.best (by simp [Value.ownBlock]; exact fun e => hx.2.2 e.symm) _, h.low.setCell hg _, h.gaps, h.room, h.few, h.hX⟩

/-! ### what is computed -/
/-- ends, k gaps told. -/
def endsL (l : List S48) : Nat → List Int
  | 0 => List.replicate (l.length + 1) 0
  | k + 1 => (endsL l k).set (k + 1) (wrap64 (wrap64 (rd (endsL l k) k + (rd_T48 l k).f1) + (rd_T48 l k).f0))
/-- The first gap from a place on that must be broken, and best, after k places from the last one on. -/
def bestL (first : Int) (l : List S48) (st : S25) (es : Nat → Int) : Nat → Nat × List Int
  | 0 => (l.length, List.replicate (l.length + 1) 0)
  | k + 1 =>
    let place := l.length - k
    let must := if place < l.length ∧ (rd_T48 l place).f2 = true then place else (bestL first l st es k).1
    (must, (bestL first l st es k).2.set place (leastF first l st es (fun i => rd (bestL first l st es k).2 i) place must))
def wayL (nx : Nat → Int) (n : Nat) : Nat → Int → List Bool → List Bool
  | 0, _, w => w
  | d + 1, a, w => if a < n then wayL nx n d (nx (a.toNat + 1)) (w.set a.toNat true) else w
def esF (l : List S48) : Nat → Int := fun i => rd (endsL l l.length) i
def bsF (first : Int) (l : List S48) (st : S25) : Nat → Int := fun i => rd (bestL first l st (esF l) (l.length + 1)).2 i
def nxF (first : Int) (l : List S48) (st : S25) (p : Nat) : Int := nextF first l st (esF l) (bsF first l st) p
def wayF (first : Int) (l : List S48) (st : S25) : List Bool := wayL (nxF first l st) l.length (l.length + 1) (nxF first l st 0) (List.replicate l.length false)

theorem bestL_le (first : Int) (l : List S48) (st : S25) (es : Nat → Int) : ∀ k, (bestL first l st es k).1 ≤ l.length
  | 0 => Nat.le_refl _
  | k + 1 => by
    have := bestL_le first l st es k
    simp only [bestL]
    split <;> omega

theorem nextF_mem (first : Int) (l : List S48) (st : S25) (es bs : Nat → Int) (p : Nat) : ∀ (d a : Nat) (s : Nat), a + d = l.length → p ≤ a → p ≤ s → s ≤ l.length →
    ∃ q : Nat, run first l st es bs p (fun _ => bs p) (stepN bs p) d a (s : Int) = (q : Int) ∧ p ≤ q ∧ q ≤ l.length := by
  intro d
  induction d with
  | zero =>
    intro a s h1 h2 h3 h4
    simp only [run, stepN]
    split
    · exact ⟨l.length, rfl, by omega, by omega⟩
    · exact ⟨s, rfl, h3, h4⟩
  | succ d ih =>
    intro a s h1 h2 h3 h4
    have hst : ∃ s' : Nat, stepN bs p (s : Int) ((a : Int), cst first l st es bs p a) = (s' : Int) ∧ p ≤ s' ∧ s' ≤ l.length := by
      simp only [stepN]
      split
      · exact ⟨a, rfl, h2, by omega⟩
      · exact ⟨s, rfl, h3, h4⟩
    obtain ⟨s', e', h5, h6⟩ := hst
    simp only [run, e']
    split
    · exact ⟨s, rfl, h3, h4⟩
    · split
      · split
        · exact ⟨s', rfl, h5, h6⟩
        · exact ih (a + 1) s' (by omega) (by omega) h5 h6
      · split
        · exact ⟨s, rfl, h3, h4⟩
        · exact ih (a + 1) s (by omega) (by omega) h3 h4

theorem LineS.next {w0 w : World} {X : Nat} {first : Int} {A : Option Addr} {c : Nat} {l : List S48} {st : S25} {E B : Nat} (h : LineS w0 w X first A c l st E B (endsL l l.length) (bestL first l st (esF l) (l.length + 1)).2) (p : Nat) (pi : Int) (hpi : pi = (p : Int)) (hp : p ≤ l.length) :
    ∃ q : Nat, p ≤ q ∧ q ≤ l.length ∧ nxF first l st p = (q : Int) ∧ Calls Try.prog 27 #[.pointer (some ⟨X, 0, none⟩), .int .i64 pi] w fun e w' => e = .returned (.int .i64 (q : Int)) ∧ Below w.heap.size w w' := by
  obtain ⟨q, h1, h2, h3⟩ := nextF_mem first l st (esF l) (bsF first l st) p (l.length - p) p p (by omega) (Nat.le_refl _) (Nat.le_refl _) hp
  refine ⟨q, h2, h3, h1, ?_⟩
  have hn := next_any h.at_ p hp
  rw [hpi, ← h1]
  exact hn

theorem info2' : (Try.prog.info? 2).map (fun i => (i.zero, i.size, i.bytes)) = some (some (.int .i64 0), 1, 8) := by kernel_rfl
theorem info3' : (Try.prog.info? 3).map (fun i => (i.zero, i.size, i.bytes)) = some (some (.int .i64 0), 1, 8) := by kernel_rfl
theorem info4' : (Try.prog.info? 4).map (fun i => (i.zero, i.size, i.bytes)) = some (some (.bool false), 1, 1) := by kernel_rfl

set_option maxHeartbeats 1000000 in
set_option maxRecDepth 100000 in
theorem best_ok (first : Int) (A : Option Addr) (c : Nat) (l : List S48) (s : S25) (w : World) (hr : Kd.C k48 w A l.length l) (hc : l.length ≤ c) (hfew : l.length ≤ 70000)
    (hchk : search_check.f first l s.f0 s.f1 s.f2 s.f3 s.f4 s.f5 s.f6 s.f7 s.f8 s.f9 s.f10 s.f11 s.f12 s.f13 s.f14 s.f15 s.f16 s.f17 = some 0) :
    Calls Try.prog 14 #[.int .i64 first, .slice A l.length c, .agg #[.int .i64 s.f0, .int .i64 s.f1, .int .i64 s.f2, .int .i64 s.f3, .bool s.f4, .bool s.f5, .bool s.f6, .int .i64 s.f7, .int .i64 s.f8, .int .i64 s.f9, .int .i64 s.f10, .int .i64 s.f11, .int .i64 s.f12, .int .i64 s.f13, .int .i64 s.f14, .int .i64 s.f15, .int .i64 s.f16, .int .i64 s.f17]] w fun e w' => ∃ v0_ : Value, e = .returned (.tuple #[v0_, .int .i64 (bsF first l s 0), .int .i64 0]) ∧ Kd.R Kd.bool 4 w' w.heap.size (fun _ => True) v0_ (wayF first l s) ∧ Below w.heap.size w w' := by
  have HR := Aside0.mk hr
  have HK := Aside0.mk hchk
  clear hr hchk
  have HB1 : Aside0 (Below w.heap.size w (w.alloc (.cells #[.int .i64 s.f0, .int .i64 s.f1, .int .i64 s.f2, .int .i64 s.f3, .bool s.f4, .bool s.f5, .bool s.f6, .int .i64 s.f7, .int .i64 s.f8, .int .i64 s.f9, .int .i64 s.f10, .int .i64 s.f11, .int .i64 s.f12, .int .i64 s.f13, .int .i64 s.f14, .int .i64 s.f15, .int .i64 s.f16, .int .i64 s.f17] 25))) := ⟨(Below.refl _ _).alloc (Nat.le_refl _) _⟩
  have hst1 : (w.alloc (.cells #[.int .i64 s.f0, .int .i64 s.f1, .int .i64 s.f2, .int .i64 s.f3, .bool s.f4, .bool s.f5, .bool s.f6, .int .i64 s.f7, .int .i64 s.f8, .int .i64 s.f9, .int .i64 s.f10, .int .i64 s.f11, .int .i64 s.f12, .int .i64 s.f13, .int .i64 s.f14, .int .i64 s.f15, .int .i64 s.f16, .int .i64 s.f17] 25)).heap[w.heap.size]? = some (.cells (styL s).toArray 25 (0, 0)) := World.alloc_heap_new w _
  have HS1 : Aside0 (StyAt (w.alloc (.cells #[.int .i64 s.f0, .int .i64 s.f1, .int .i64 s.f2, .int .i64 s.f3, .bool s.f4, .bool s.f5, .bool s.f6, .int .i64 s.f7, .int .i64 s.f8, .int .i64 s.f9, .int .i64 s.f10, .int .i64 s.f11, .int .i64 s.f12, .int .i64 s.f13, .int .i64 s.f14, .int .i64 s.f15, .int .i64 s.f16, .int .i64 s.f17] 25)) w.heap.size 0 s) := ⟨fun j v hj => by rw [Nat.zero_add]; exact (blk_cell hst1 j).trans (by simpa using hj)⟩
  have HC1 := Aside0.mk (search_check.calls first A c l s.f0 s.f1 s.f2 s.f3 s.f4 s.f5 s.f6 s.f7 s.f8 s.f9 s.f10 s.f11 s.f12 s.f13 s.f14 s.f15 s.f16 s.f17 0 (w.alloc (.cells #[.int .i64 s.f0, .int .i64 s.f1, .int .i64 s.f2, .int .i64 s.f3, .bool s.f4, .bool s.f5, .bool s.f6, .int .i64 s.f7, .int .i64 s.f8, .int .i64 s.f9, .int .i64 s.f10, .int .i64 s.f11, .int .i64 s.f12, .int .i64 s.f13, .int .i64 s.f14, .int .i64 s.f15, .int .i64 s.f16, .int .i64 s.f17] 25)) (Kd.C_below HR.out HB1.out) hc HK.out)
  have HST := Aside0.mk hst1
  clear hst1
  go_enter Try.func14, Try.ntmps14
  go_wp2_with (first | ((with_reducible refine list_style _ 0 HS1.out _ rfl ?hw ?hx ?_); (case hw => rfl); (case hx => rfl)) | (go_at_call 22; refine HC1.out.mono ?_; rintro e w2 ⟨rfl, hb2⟩; have HB2 := Aside0.mk hb2; clear hb2))
  have hsz : w.heap.size < (w.alloc (.cells #[.int .i64 s.f0, .int .i64 s.f1, .int .i64 s.f2, .int .i64 s.f3, .bool s.f4, .bool s.f5, .bool s.f6, .int .i64 s.f7, .int .i64 s.f8, .int .i64 s.f9, .int .i64 s.f10, .int .i64 s.f11, .int .i64 s.f12, .int .i64 s.f13, .int .i64 s.f14, .int .i64 s.f15, .int .i64 s.f16, .int .i64 s.f17] 25)).heap.size := by simp
  have hb2 := HB2.out
  have HB : Aside0 (Below w.heap.size w w2) := ⟨HB1.out.trans (hb2.mono (Nat.le_of_lt hsz))⟩
  have HS2 : Aside0 (w2.heap[w.heap.size]? = some (.cells (styL s).toArray 25 (0, 0))) := ⟨(hb2.block _ hsz).trans HST.out⟩
  clear HB1 HB2 hb2 hsz HS1 HC1 HST
  have hw1 : IntKind.i64.wrap ((l.length : Int) + 1) = (l.length : Int) + 1 := IntWalk.i64_in _ (by omega)
  have mk56 := print_make_int (P := Try.prog) 56 3 (.int .i64 0) 8 Try.underlying56 info3' rfl (by decide) ((l.length : Int) + 1) (by omega) (by omega)
  have mk57 := print_make_int (P := Try.prog) 57 2 (.int .i64 0) 8 Try.underlying57 info2' rfl (by decide) ((l.length : Int) + 1) (by omega) (by omega)
  rw [show ((l.length : Int) + 1).toNat = l.length + 1 from by omega] at mk56 mk57
  have HLoad := Aside0.mk (show ∀ W, Below w2.heap.size w2 W → W.rangeAt w.heap.size 0 (styL s) from fun W hW j v hj => by
    rw [Nat.zero_add]; exact (blk_cell ((hW.block _ (Array.getElem?_eq_some_iff.1 HS2.out).1).trans HS2.out) j).trans (by simpa using hj))
  refine start_ (S := fun W => Below w2.heap.size w2 W) (ds := []) #[false, false, false, false, false, false, false, false, false, false, false, false] (by as_aux_lemma => kernel_rfl) rfl rfl (Below.refl _ _).drew ?_
  intro hS0
  refine pure_ (i := 0) (N := some 27) (v := ?_) (a' := ?_) #[true, false, false, false, false, false, false, false, false, false, false, false] rfl rfl (by as_aux_lemma => kernel_rfl) (fun _ _ _ h => h) (Or.inl ⟨by rfl, ?_⟩) ?_ ?_
  rotate_left
  · intro w'
    go_simp
    with_reducible rfl
  rotate_left
  · simp only [Act.put, List.setIfInBounds_toArray, List.set_cons_zero, List.set_cons_succ]
    rfl
  refine pure_ (i := 1) (N := some 28) (v := ?_) (a' := ?_) #[true, true, false, false, false, false, false, false, false, false, false, false] rfl rfl (by as_aux_lemma => kernel_rfl) (fun _ _ _ h => h) (Or.inl ⟨by rfl, ?_⟩) ?_ ?_
  rotate_left
  · intro w'
    go_simp
    with_reducible rfl
  rotate_left
  · simp only [Act.put, List.setIfInBounds_toArray, List.set_cons_zero, List.set_cons_succ]
    rfl
  refine take_ (i := 2) (N := some 29) (v := .agg #[.int .i64 s.f0, .int .i64 s.f1, .int .i64 s.f2, .int .i64 s.f3, .bool s.f4, .bool s.f5, .bool s.f6, .int .i64 s.f7, .int .i64 s.f8, .int .i64 s.f9, .int .i64 s.f10, .int .i64 s.f11, .int .i64 s.f12, .int .i64 s.f13, .int .i64 s.f14, .int .i64 s.f15, .int .i64 s.f16, .int .i64 s.f17]) (a' := ?_) #[true, true, true, false, false, false, false, false, false, false, false, false] rfl rfl (by as_aux_lemma => kernel_rfl) (fun _ _ _ h => h) (yieldsIf_load_mid rfl 25 _ rfl w.heap.size 0 rfl (styL s) _ HLoad.out Try.underlying25 rfl (by kernel_rfl)) hS0 ?_ ?_
  rotate_left
  · simp only [Act.put, List.setIfInBounds_toArray, List.set_cons_zero, List.set_cons_succ]
    rfl
  refine pure_ (i := 3) (N := some 30) (v := ?_) (a' := ?_) #[true, true, true, true, false, false, false, false, false, false, false, false] rfl rfl (by as_aux_lemma => kernel_rfl) (fun _ _ _ h => h) (Or.inl ⟨by rfl, ?_⟩) ?_ ?_
  rotate_left
  · intro w'
    go_simp
    with_reducible rfl
  rotate_left
  · simp only [Act.put, List.setIfInBounds_toArray, List.set_cons_zero, List.set_cons_succ]
    rfl
  refine pure_ (i := 4) (N := some 31) (v := ?_) (a' := ?_) #[true, true, true, true, true, false, false, false, false, false, false, false] rfl rfl (by as_aux_lemma => kernel_rfl) (fun _ _ _ h => h) (Or.inl ⟨by rfl, ?_⟩) ?_ ?_
  rotate_left
  · intro w'
    go_simp
    with_reducible rfl
  rotate_left
  · simp only [Act.put, List.setIfInBounds_toArray, List.set_cons_zero, List.set_cons_succ]
    rfl
  refine pure_ (i := 6) (N := some 33) (v := ?_) (a' := ?_) #[true, true, true, true, true, false, true, false, false, false, false, false] rfl rfl (by as_aux_lemma => kernel_rfl) (fun _ _ _ h => h) (Or.inl ⟨by rfl, ?_⟩) ?_ ?_
  rotate_left
  · intro w'
    go_simp
    with_reducible rfl
  rotate_left
  · simp only [Act.put, List.setIfInBounds_toArray, List.set_cons_zero, List.set_cons_succ]
    rfl
  refine pure_ (i := 7) (N := some 34) (v := ?_) (a' := ?_) #[true, true, true, true, true, false, true, true, false, false, false, false] rfl rfl (by as_aux_lemma => kernel_rfl) (fun _ _ _ h => h) (Or.inl ⟨by rfl, ?_⟩) ?_ ?_
  rotate_left
  · intro w'
    go_simp
    with_reducible rfl
  rotate_left
  · simp only [Act.put, List.setIfInBounds_toArray, List.set_cons_zero, List.set_cons_succ]
    rfl
  refine join_ (σ := Nat × Nat) 3 #[true, true, true, true, true, true, true, true, true, false, false, false] (fun q => [(32, .slice (some ⟨q.1, 0, none⟩) (l.length + 1) (l.length + 1)), (35, .slice (some ⟨q.2, 0, none⟩) (l.length + 1) (l.length + 1))])
    (fun q W => Aside0 (W.ownsRow w.heap.size 3 1 (.slice (some ⟨q.1, 0, none⟩) (l.length + 1) (l.length + 1)) (l.length + 1) (nums .i64 (List.replicate (l.length + 1) 0)) ∧ W.ownsRow w.heap.size 2 1 (.slice (some ⟨q.2, 0, none⟩) (l.length + 1) (l.length + 1)) (l.length + 1) (nums .i64 (List.replicate (l.length + 1) 0)) ∧ Below w2.heap.size w2 W)) ?hcont ?h
  case h =>
    intro hcont
    have hD : Below w2.heap.size w2 w2.drew := (Below.refl _ _).drew
    have hDs : w2.heap.size ≤ w2.drew.heap.size := Nat.le_refl _
    refine two_ (i := 5) (j := 8) (Ni := some 32) (Nj := some 35) #[true, true, true, true, true, true, true, true, false, false, false, false] #[true, true, true, true, true, false, true, true, true, false, false, false] rfl rfl rfl rfl (by as_aux_lemma => kernel_rfl) (by simp) (by simp)
      (fun K hK => value_ rfl rfl (v := .slice (some ⟨w2.drew.heap.size, 0, none⟩) (l.length + 1) (l.length + 1)) (w1 := w2.drew.alloc (.cells (madeCells #[.int .i64 0] (l.length + 1)) 3)) (by go_simp) (hK.out _ _ (hD.alloc hDs _) (fun _ => ?_)))
      (fun K hK => value_ rfl rfl (v := .slice (some ⟨w2.drew.heap.size, 0, none⟩) (l.length + 1) (l.length + 1)) (w1 := w2.drew.alloc (.cells (madeCells #[.int .i64 0] (l.length + 1)) 2)) (by go_simp) (hK.out _ _ (hD.alloc hDs _) (fun _ => ?_)))
    · refine one_ (i := 8) (N := some 35) #[true, true, true, true, true, true, true, true, true, false, false, false] rfl rfl (by as_aux_lemma => kernel_rfl) (by simp)
        (fun K hK => value_ rfl rfl (v := .slice (some ⟨(w2.drew.alloc (.cells (madeCells #[.int .i64 0] (l.length + 1)) 3)).heap.size, 0, none⟩) (l.length + 1) (l.length + 1)) (w1 := ((w2.drew.alloc (.cells (madeCells #[.int .i64 0] (l.length + 1)) 3)).alloc (.cells (madeCells #[.int .i64 0] (l.length + 1)) 2))) (by go_simp) (hK.out _ _ ((hD.alloc hDs _).alloc (by simp) _) (fun _ => ?_)))
      refine hcont (w2.drew.heap.size, (w2.drew.alloc (.cells (madeCells #[.int .i64 0] (l.length + 1)) 3)).heap.size) _ ⟨?_, ?_, (hD.alloc hDs _).alloc (by simp) _⟩
      · exact pw_own_below (own_made w2.drew w.heap.size 3 .i64 (l.length + 1) HB.out.size (by omega)) ((Below.refl _ _).alloc (Nat.le_refl _) _)
      · exact own_made _ w.heap.size 2 .i64 (l.length + 1) (by have := HB.out.size; simp; omega) (by omega)
    · refine one_ (i := 5) (N := some 32) #[true, true, true, true, true, true, true, true, true, false, false, false] rfl rfl (by as_aux_lemma => kernel_rfl) (by simp)
        (fun K hK => value_ rfl rfl (v := .slice (some ⟨(w2.drew.alloc (.cells (madeCells #[.int .i64 0] (l.length + 1)) 2)).heap.size, 0, none⟩) (l.length + 1) (l.length + 1)) (w1 := ((w2.drew.alloc (.cells (madeCells #[.int .i64 0] (l.length + 1)) 2)).alloc (.cells (madeCells #[.int .i64 0] (l.length + 1)) 3))) (by go_simp) (hK.out _ _ ((hD.alloc hDs _).alloc (by simp) _) (fun _ => ?_)))
      rw [Act.put_comm _ _ _ (by simp)]
      refine hcont ((w2.drew.alloc (.cells (madeCells #[.int .i64 0] (l.length + 1)) 2)).heap.size, w2.drew.heap.size) _ ⟨?_, ?_, (hD.alloc hDs _).alloc (by simp) _⟩
      · exact own_made _ w.heap.size 3 .i64 (l.length + 1) (by have := HB.out.size; simp; omega) (by omega)
      · exact pw_own_below (own_made w2.drew w.heap.size 2 .i64 (l.length + 1) HB.out.size (by omega)) ((Below.refl _ _).alloc (Nat.le_refl _) _)
  case hcont =>
    rintro ⟨E, B⟩ w3 ⟨hE, hB, hS3⟩
    refine norm_ (a' := ?_) ?_ ?_
    rotate_left
    · simp only [putAll, Act.put, List.setIfInBounds_toArray, List.set_cons_zero, List.set_cons_succ]
      rfl
    refine pure_ (i := 9) (N := some 36) (v := ?_) (a' := ?_) #[true, true, true, true, true, true, true, true, true, true, false, false] rfl rfl (by as_aux_lemma => kernel_rfl) (fun _ _ _ h => h) (Or.inl ⟨by rfl, ?_⟩) ?_ ?_
    rotate_left
    · intro w'
      go_simp
      with_reducible rfl
    rotate_left
    · simp only [Act.put, List.setIfInBounds_toArray, List.set_cons_zero, List.set_cons_succ]
      rfl
    refine one_ (i := 10) (N := some 37) #[true, true, true, true, true, true, true, true, true, true, true, false] rfl rfl (by as_aux_lemma => kernel_rfl) (by simp) (fun K hK => ?_)
    refine value_ (v := .pointer (some ⟨w3.heap.size, 0, none⟩)) (w1 := w3.alloc (.cells (lineC first A l.length c s E B) 59)) (by rfl) rfl ?_ ?_
    · go_simp
      rfl
    refine hK.out _ _ (hS3.alloc hS3.size _) (fun _ => ?_)
    clear hK K
    refine norm_ (a' := ?_) ?_ ?_
    rotate_left
    · show Act.put _ (some 37) _ = _
      simp only [Act.put, List.setIfInBounds_toArray, List.set_cons_zero, List.set_cons_succ]
      rfl
    refine pure_ (i := 11) (N := some 11) (v := ?_) (a' := ?_) #[true, true, true, true, true, true, true, true, true, true, true, true] rfl rfl (by as_aux_lemma => kernel_rfl) (fun _ _ _ h => h) (Or.inl ⟨by rfl, ?_⟩) ?_ ?_
    rotate_left
    · intro w'
      go_simp
      with_reducible rfl
    rotate_left
    · simp only [Act.put, List.setIfInBounds_toArray, List.set_cons_zero, List.set_cons_succ]
      rfl
    refine done_ (by as_aux_lemma => kernel_rfl) ?_
    have hz3 : w.heap.size ≤ w3.heap.size := Nat.le_trans HB.out.size hS3.size
    have HLS : Aside0 (LineS w (w3.alloc (.cells (lineC first A l.length c s E B) 59)) w3.heap.size first A c l s E B (endsL l 0) (List.replicate (l.length + 1) 0)) :=
      ⟨World.alloc_heap_new w3 _, pw_own_below hE ((Below.refl _ _).alloc (Nat.le_refl _) _), pw_own_below hB ((Below.refl _ _).alloc (Nat.le_refl _) _),
        (HB.out.trans (hS3.mono HB.out.size)).alloc hz3 _, HR.out, hc, hfew, hz3⟩
    clear hE hB hS3 hS0 HLoad mk56 mk57 hw1 HB HS2
    generalize w3.alloc (.cells (lineC first A l.length c s E B) 59) = w4 at HLS ⊢
    generalize w3.heap.size = X at HLS hz3 ⊢
    go_wp2
    go_loopw [40] (fun v40 wr => ∃ k : Nat, k ≤ l.length ∧ v40 = .int .i64 k ∧ Aside0 (LineS w wr X first A c l s E B (endsL l k) (List.replicate (l.length + 1) 0))) (fun v40 _ => l.length - (intOf v40).toNat)
    case atStart => exact ⟨0, Nat.zero_le _, rfl, HLS⟩
    case round =>
      obtain ⟨k, hk, rfl, HL⟩ := hrel
      by_cases hlt : k < l.length
      · have hlt2 : (k : Int) < (l.length : Int) := by omega
        obtain ⟨ad, e1, g0, g1, g2, g3, g4, g5⟩ := at_T48 HL.out.at_.gaps k (by omega) hlt2
        cases e1
        simp only [Int.toNat_natCast] at g0 g1 g2 g3 g4 g5
        go_wp2
        obtain ⟨g, hg⟩ : ∃ g, rd_T48 l (k : Int) = g := ⟨_, rfl⟩
        rw [hg]
        have Hg := Aside0.mk hg
        clear hg g0 g1 g2 g3 g4 g5
        obtain ⟨W5, hW5⟩ : ∃ W5, wr.alloc (.cells #[.int .i64 g.f0, .int .i64 g.f1, .bool g.f2, .bool g.f3, .int .i64 g.f4, .int .i64 g.f5] 48) = W5 := ⟨_, rfl⟩
        obtain ⟨G, hG⟩ : ∃ G, wr.heap.size = G := ⟨_, rfl⟩
        have HL5 : Aside0 (LineS w W5 X first (some ad) c l s E B (endsL l k) (List.replicate (l.length + 1) 0)) := ⟨by rw [← hW5]; exact HL.out.below ((Below.refl _ _).alloc (Nat.le_refl _) _)⟩
        have m0 : W5.cell? ⟨G, 0, none⟩ = some (.int .i64 g.f0) := by rw [← hW5, ← hG]; simp [go_sem]
        have m1 : W5.cell? ⟨G, 1, none⟩ = some (.int .i64 g.f1) := by rw [← hW5, ← hG]; simp [go_sem]
        rw [hG, hW5]
        clear hW5 hG HL
        have x20 := HL5.out.at_.f20
        have ek := (own_at HL5.out.ends (k : Int) (by omega) (by omega)).1
        obtain ⟨ek1, fk1⟩ := own_at HL5.out.ends ((k : Int) + 1) (by omega) (by omega)
        rw [show ((k : Int) + 1).toNat = k + 1 from by omega] at ek1 fk1
        rw [Int.toNat_natCast] at ek
        obtain ⟨ev, hev⟩ : ∃ ev, rd (endsL l k) (k : Int) = ev := ⟨_, rfl⟩
        rw [hev] at ek
        have hE1 : Aside0 (endsL l (k + 1) = (endsL l k).set (k + 1) (wrap64 (wrap64 (ev + g.f1) + g.f0))) := ⟨by rw [endsL, hev, Hg.out]⟩
        clear hev
        have hk0 : 0 ≤ (k : Int) := by omega
        have hk1 : (k : Int) < (l.length : Int) + 1 := by omega
        have hk2 : 0 ≤ (k : Int) + 1 := by omega
        have hk3 : (k : Int) + 1 < (l.length : Int) + 1 := by omega
        have hw1 : IntKind.i64.wrap ((k : Int) + 1) = (k : Int) + 1 := IntWalk.i64_in _ (by omega)
        go_still_tail 20, (by as_aux_lemma => kernel_rfl)
        clear hw1
        go_wp2
        go_roundw
        case rel => exact ⟨k + 1, by omega, by go_num, ⟨by rw [hE1.out]; exact (HL5.out.setEnd (k + 1) _).below (Below.refl _ _).drew⟩⟩
        case measure => simp [intOf]; omega
      · have he : k = l.length := by omega
        subst he
        have HL2 := HL
        clear HL HLS
        go_wp2
        clear HR
        go_loopw [14, 15] (fun v14 v15 wq => ∃ k : Nat, k ≤ l.length + 1 ∧ v14 = .int .i64 ((bestL first l s (esF l) k).1 : Nat) ∧ v15 = .int .i64 ((l.length : Int) - (k : Int)) ∧ Aside0 (LineS w wq X first A c l s E B (endsL l l.length) (bestL first l s (esF l) k).2)) (fun _ v15 _ => (intOf v15 + 1).toNat)
        case atStart => exact ⟨0, by omega, rfl, by simp, HL2⟩
        case round =>
          obtain ⟨k, hk, rfl, rfl, HLq⟩ := hrel
          obtain ⟨mo, hmo⟩ : ∃ mo, (bestL first l s (esF l) k).1 = mo := ⟨_, rfl⟩
          have hmole : mo ≤ l.length := by rw [← hmo]; exact bestL_le ..
          by_cases hge : k ≤ l.length
          · obtain ⟨pl, hplk⟩ : ∃ pl : Nat, l.length - k = pl := ⟨_, rfl⟩
            have hpl : pl ≤ l.length := by omega
            have hpl2 : pl + k ≤ l.length ∧ l.length ≤ pl + k := by omega
            rw [show (l.length : Int) - (k : Int) = (pl : Int) from by omega, hmo]
            have hbs : ∀ m, (if pl < l.length ∧ (rd_T48 l pl).f2 = true then pl else mo) = m → (bestL first l s (esF l) (k + 1)).1 = m ∧ (bestL first l s (esF l) (k + 1)).2 = (bestL first l s (esF l) k).2.set pl (leastF first l s (esF l) (fun i => rd (bestL first l s (esF l) k).2 i) pl m) := fun m hm => by
              simp only [bestL, hplk, hmo, hm, and_self]
            have HBS := Aside0.mk hbs
            have HMO := Aside0.mk hmo
            have hp0 : 0 ≤ (pl : Int) := by omega
            have hp1 : (pl : Int) < (l.length : Int) + 1 := by omega
            clear hbs hmo hplk
            have x21 : ∀ d os, (regrow wr d os).cell? ⟨X, 21, none⟩ = some (.slice (some ⟨B, 0, none⟩) (l.length + 1) (l.length + 1)) := fun d os => cell_regrown HLq.out.at_.f21 d os
            rcases Nat.lt_or_ge pl l.length with hlt | hge2
            · have hlt2 : (pl : Int) < (l.length : Int) := by omega
              obtain ⟨ad, e1, g0, g1, g2, g3, g4, g5⟩ := at_T48 HLq.out.at_.gaps pl (by omega) hlt2
              cases e1
              simp only [Int.toNat_natCast] at g0 g1 g2 g3 g4 g5
              clear g0 g1 g3 g4 g5
              cases hf2 : (rd_T48 l (pl : Int)).f2 with
              | true =>
                rw [hf2] at g2
                obtain ⟨hm2', hb2'⟩ := HBS.out pl (if_pos ⟨hlt, hf2⟩)
                have hm2 := Aside0.mk hm2'
                have hb2 := Aside0.mk hb2'
                clear hm2' hb2' hf2
                go_wp2
                refine wpIn_wide.1 (region_tail (m := 9) 10 (fun w' => ∃ p : Regrown, w' = regrow wr p.d p.os) (by as_aux_lemma => kernel_rfl) (by as_aux_lemma => kernel_rfl) (regrow_drew wr) ?_)
                simp only [List.take_succ_cons, List.take_zero, List.drop_succ_cons, List.drop_zero]
                repeat (first
                  | go_big_quiet_step ((go_at_call 26; exact calls_regrown (least_any (HLq.out.at_.below (below_regrow _ _ _)) pl pl hpl hpl)))
                  | quiet_step ((go_at_call 26; exact calls_regrown (least_any (HLq.out.at_.below (below_regrow _ _ _)) pl pl hpl hpl))))
                refine wpQuiet_nil ?_
                rintro w' ⟨⟨dq, osq⟩, rfl⟩
                have HL9 := Aside0.mk (HLq.out.below (below_regrow wr dq osq))
                generalize regrow wr dq osq = W9 at HL9 ⊢
                obtain ⟨eb1, fb1⟩ := own_at HL9.out.best (pl : Int) (by omega) (by omega)
                rw [Int.toNat_natCast] at eb1 fb1
                clear x21
                gi_wp2
                go_wp2
                go_roundw
                case rel => exact ⟨k + 1, by omega, by rw [hm2.out], by rw [show (pl : Int) - 1 = (l.length : Int) - ((k + 1 : Nat) : Int) from by have := hpl2; omega], ⟨by rw [hb2.out]; exact HL9.out.setBest pl _⟩⟩
                case measure => simp [intOf] <;> omega
              | false =>
                rw [hf2] at g2
                obtain ⟨hm2', hb2'⟩ := HBS.out mo (if_neg (by simp [hf2]))
                have hm2 := Aside0.mk hm2'
                have hb2 := Aside0.mk hb2'
                clear hm2' hb2' hf2
                go_wp2
                refine wpIn_wide.1 (region_tail (m := 9) 10 (fun w' => ∃ p : Regrown, w' = regrow wr p.d p.os) (by as_aux_lemma => kernel_rfl) (by as_aux_lemma => kernel_rfl) (regrow_drew wr) ?_)
                simp only [List.take_succ_cons, List.take_zero, List.drop_succ_cons, List.drop_zero]
                repeat (first
                  | go_big_quiet_step ((go_at_call 26; exact calls_regrown (least_any (HLq.out.at_.below (below_regrow _ _ _)) pl mo hpl hmole)))
                  | quiet_step ((go_at_call 26; exact calls_regrown (least_any (HLq.out.at_.below (below_regrow _ _ _)) pl mo hpl hmole))))
                refine wpQuiet_nil ?_
                rintro w' ⟨⟨dq, osq⟩, rfl⟩
                have HL9 := Aside0.mk (HLq.out.below (below_regrow wr dq osq))
                generalize regrow wr dq osq = W9 at HL9 ⊢
                obtain ⟨eb1, fb1⟩ := own_at HL9.out.best (pl : Int) (by omega) (by omega)
                rw [Int.toNat_natCast] at eb1 fb1
                clear x21
                gi_wp2
                go_wp2
                go_roundw
                case rel => exact ⟨k + 1, by omega, by rw [hm2.out], by rw [show (pl : Int) - 1 = (l.length : Int) - ((k + 1 : Nat) : Int) from by have := hpl2; omega], ⟨by rw [hb2.out]; exact HL9.out.setBest pl _⟩⟩
                case measure => simp [intOf] <;> omega
            · have hlt2 : ¬ (pl : Int) < (l.length : Int) := by omega
              obtain ⟨hm2', hb2'⟩ := HBS.out mo (if_neg (by omega))
              have hm2 := Aside0.mk hm2'
              have hb2 := Aside0.mk hb2'
              clear hm2' hb2'
              go_wp2
              refine wpIn_wide.1 (region_tail (m := 9) 10 (fun w' => ∃ p : Regrown, w' = regrow wr p.d p.os) (by as_aux_lemma => kernel_rfl) (by as_aux_lemma => kernel_rfl) (regrow_drew wr) ?_)
              simp only [List.take_succ_cons, List.take_zero, List.drop_succ_cons, List.drop_zero]
              repeat (first
                | go_big_quiet_step ((go_at_call 26; exact calls_regrown (least_any (HLq.out.at_.below (below_regrow _ _ _)) pl mo hpl hmole)))
                | quiet_step ((go_at_call 26; exact calls_regrown (least_any (HLq.out.at_.below (below_regrow _ _ _)) pl mo hpl hmole))))
              refine wpQuiet_nil ?_
              rintro w' ⟨⟨dq, osq⟩, rfl⟩
              have HL9 := Aside0.mk (HLq.out.below (below_regrow wr dq osq))
              generalize regrow wr dq osq = W9 at HL9 ⊢
              obtain ⟨eb1, fb1⟩ := own_at HL9.out.best (pl : Int) (by omega) (by omega)
              rw [Int.toNat_natCast] at eb1 fb1
              clear x21
              gi_wp2
              go_wp2
              go_roundw
              case rel => exact ⟨k + 1, by omega, by rw [hm2.out], by rw [show (pl : Int) - 1 = (l.length : Int) - ((k + 1 : Nat) : Int) from by have := hpl2; omega], ⟨by rw [hb2.out]; exact HL9.out.setBest pl _⟩⟩
              case measure => simp [intOf] <;> omega
          · have hkk : k = l.length + 1 := by omega
            subst hkk
            rw [show (l.length : Int) - ((l.length + 1 : Nat) : Int) = -1 from by omega]
            have mk23 := print_make_int (P := Try.prog) 23 4 (.bool false) 1 Try.underlying23 info4' rfl (by decide) (l.length : Int) (by omega) (by omega) wr
            rw [Int.toNat_natCast] at mk23
            clear hmo hmole mo hk hge HL2
            obtain ⟨W6, hW6⟩ : ∃ W6, wr.alloc (.cells (madeCells #[.bool false] l.length) 4) = W6 := ⟨_, rfl⟩
            obtain ⟨G, hG⟩ : ∃ G, wr.heap.size = G := ⟨_, rfl⟩
            have hl6 := HLq.out.below ((Below.refl wr.heap.size wr).alloc (Nat.le_refl _) (.cells (madeCells #[.bool false] l.length) 4))
            have ho6 := own_made_of (enc := Value.bool) (d := false) wr w.heap.size 4 l.length HLq.out.low.size (by omega)
            have hgb : w.heap.size ≤ G := by rw [← hG]; exact HLq.out.low.size
            have mk23' := hgb
            have hxg : X ≠ G ∧ E ≠ G ∧ B ≠ G := by
              rw [← hG]
              exact HLq.out.lt3
            rw [hG] at ho6
            rw [hW6] at hl6 ho6
            rw [hG, hW6] at mk23
            have HL6 := Aside0.mk hl6
            have HO6 := Aside0.mk ho6
            clear hl6 ho6 HLq
            obtain ⟨q0, _, hq0, hq0e, hq0c⟩ := HL6.out.next 0 0 rfl (Nat.zero_le _)
            have HN0 := Aside0.mk hq0c
            have HQ0 := Aside0.mk hq0e
            clear hq0c hq0e mk23' hG hW6
            go_wp2_with (go_at_call 27; refine HN0.out.mono ?_; rintro e w7 ⟨rfl, hb7⟩; have HB7 := Aside0.mk hb7; clear hb7)
            have HL7 := Aside0.mk (HL6.out.below HB7.out)
            have HO7 := Aside0.mk (pw_own_below HO6.out HB7.out)
            clear HL6 HO6 HB7 HN0 mk23
            go_loopw [17] (fun v17 wr => ∃ (a d : Nat) (ws : List Bool), a ≤ l.length ∧ l.length + 1 ≤ a + d ∧ v17 = .int .i64 (a : Nat) ∧ wayL (nxF first l s) l.length d a ws = wayF first l s ∧ Aside0 (ws.length = l.length) ∧ Aside0 (LineS w wr X first A c l s E B (endsL l l.length) (bestL first l s (esF l) (l.length + 1)).2) ∧ Aside0 (wr.ownsRow w.heap.size 4 1 (.slice (some ⟨G, 0, none⟩) l.length l.length) l.length (encs Value.bool ws))) (fun v17 _ => l.length - (intOf v17).toNat)
            case atStart => exact ⟨q0, l.length + 1, List.replicate l.length false, hq0, by omega, rfl, by rw [wayF, HQ0.out], ⟨by simp⟩, HL7, HO7⟩
            case round =>
              obtain ⟨a, d, ws, ha, had, rfl, hway, HLEN, HL8, HO8⟩ := hrel
              by_cases hlt3 : a < l.length
              · have hlt4 : (a : Int) < (l.length : Int) := by omega
                obtain ⟨d, rfl⟩ : ∃ d', d = d' + 1 := ⟨d - 1, by omega⟩
                have hs8 := HL8.out.setOther G a (.bool true) hxg hgb
                have ho8 := (own_store_of (enc := Value.bool) HO8.out (a : Int) true).1
                obtain ⟨c8, f8⟩ := own_at_of (d := false) HO8.out (a : Int) (by omega) hlt4
                rw [Int.toNat_natCast] at ho8 c8 f8
                obtain ⟨q, hq1, hq2, hqe, hqc⟩ := hs8.next (a + 1) ((a : Int) + 1) rfl (by omega)
                have HN := Aside0.mk hqc
                have HQ : Aside0 (wayL (nxF first l s) l.length d q (ws.set a true) = wayF first l s) := ⟨by rw [← hway, wayL, if_pos hlt4, Int.toNat_natCast, hqe]⟩
                have HL9 := Aside0.mk hs8
                have HO9 := Aside0.mk ho8
                have hw1 : IntKind.i64.wrap ((a : Int) + 1) = (a : Int) + 1 := IntWalk.i64_in _ (by omega)
                clear hs8 ho8 hqc hqe hway HL8 HO8
                go_wp2_with (go_at_call 27; refine HN.out.mono ?_; rintro e w10 ⟨rfl, hb10⟩; have HB10 := Aside0.mk hb10; clear hb10)
                go_roundw
                case rel => exact ⟨q, d, ws.set a true, hq2, by omega, rfl, HQ.out, ⟨by rw [List.length_set, HLEN.out]⟩, ⟨HL9.out.below HB10.out⟩, ⟨pw_own_below HO9.out HB10.out⟩⟩
                case measure => simp [intOf] <;> omega
              · have hae : a = l.length := by omega
                subst hae
                have hwe : ws = wayF first l s := by
                  rw [← hway]
                  obtain ⟨d, rfl⟩ : ∃ d', d = d' + 1 := ⟨d - 1, by omega⟩
                  rw [wayL, if_neg (by omega)]
                have hs8 := HL8.out.at_.f21
                obtain ⟨c8, f8⟩ := own_at HL8.out.best 0 (by omega) (by omega)
                have HWE := Aside0.mk hwe
                clear hwe hway
                rw [show Int.toNat 0 = 0 from rfl] at c8 f8
                have hz1 : (0 : Int) < (l.length : Int) + 1 := by omega
                go_wp2
                go_quiet (fail)
                go_wp2
                go_ret3
                have hbw : Below wr.heap.size wr (wr.drewN nq) := pw_below_drewN (Below.refl _ _) nq
                refine ⟨_, rfl, ?_, HL8.out.low.trans (hbw.mono HL8.out.low.size)⟩
                rw [← HWE.out]
                exact Kd.R_of_own (xs := ws) (by rw [HLEN.out]; exact pw_own_below HO8.out hbw) (fun _ _ => trivial)

set_option maxHeartbeats 1000000 in
set_option maxRecDepth 100000 in
theorem best_bad (first : Int) (A : Option Addr) (c : Nat) (l : List S48) (s : S25) (w : World) (hr : Kd.C k48 w A l.length l) (hc : l.length ≤ c) (x : Int) (hx : x ≠ 0)
    (hchk : search_check.f first l s.f0 s.f1 s.f2 s.f3 s.f4 s.f5 s.f6 s.f7 s.f8 s.f9 s.f10 s.f11 s.f12 s.f13 s.f14 s.f15 s.f16 s.f17 = some x) :
    Calls Try.prog 14 #[.int .i64 first, .slice A l.length c, .agg #[.int .i64 s.f0, .int .i64 s.f1, .int .i64 s.f2, .int .i64 s.f3, .bool s.f4, .bool s.f5, .bool s.f6, .int .i64 s.f7, .int .i64 s.f8, .int .i64 s.f9, .int .i64 s.f10, .int .i64 s.f11, .int .i64 s.f12, .int .i64 s.f13, .int .i64 s.f14, .int .i64 s.f15, .int .i64 s.f16, .int .i64 s.f17]] w fun e w' => e = .returned (.tuple #[.slice none 0 0, .int .i64 0, .int .i64 x]) ∧ Below w.heap.size w w' := by
  have HR := Aside0.mk hr
  have HK := Aside0.mk hchk
  clear hr hchk
  have HB1 : Aside0 (Below w.heap.size w (w.alloc (.cells #[.int .i64 s.f0, .int .i64 s.f1, .int .i64 s.f2, .int .i64 s.f3, .bool s.f4, .bool s.f5, .bool s.f6, .int .i64 s.f7, .int .i64 s.f8, .int .i64 s.f9, .int .i64 s.f10, .int .i64 s.f11, .int .i64 s.f12, .int .i64 s.f13, .int .i64 s.f14, .int .i64 s.f15, .int .i64 s.f16, .int .i64 s.f17] 25))) := ⟨(Below.refl _ _).alloc (Nat.le_refl _) _⟩
  have hst1 : (w.alloc (.cells #[.int .i64 s.f0, .int .i64 s.f1, .int .i64 s.f2, .int .i64 s.f3, .bool s.f4, .bool s.f5, .bool s.f6, .int .i64 s.f7, .int .i64 s.f8, .int .i64 s.f9, .int .i64 s.f10, .int .i64 s.f11, .int .i64 s.f12, .int .i64 s.f13, .int .i64 s.f14, .int .i64 s.f15, .int .i64 s.f16, .int .i64 s.f17] 25)).heap[w.heap.size]? = some (.cells (styL s).toArray 25 (0, 0)) := World.alloc_heap_new w _
  have HS1 : Aside0 (StyAt (w.alloc (.cells #[.int .i64 s.f0, .int .i64 s.f1, .int .i64 s.f2, .int .i64 s.f3, .bool s.f4, .bool s.f5, .bool s.f6, .int .i64 s.f7, .int .i64 s.f8, .int .i64 s.f9, .int .i64 s.f10, .int .i64 s.f11, .int .i64 s.f12, .int .i64 s.f13, .int .i64 s.f14, .int .i64 s.f15, .int .i64 s.f16, .int .i64 s.f17] 25)) w.heap.size 0 s) := ⟨fun j v hj => by rw [Nat.zero_add]; exact (blk_cell hst1 j).trans (by simpa using hj)⟩
  have HC1 := Aside0.mk (search_check.calls first A c l s.f0 s.f1 s.f2 s.f3 s.f4 s.f5 s.f6 s.f7 s.f8 s.f9 s.f10 s.f11 s.f12 s.f13 s.f14 s.f15 s.f16 s.f17 x (w.alloc (.cells #[.int .i64 s.f0, .int .i64 s.f1, .int .i64 s.f2, .int .i64 s.f3, .bool s.f4, .bool s.f5, .bool s.f6, .int .i64 s.f7, .int .i64 s.f8, .int .i64 s.f9, .int .i64 s.f10, .int .i64 s.f11, .int .i64 s.f12, .int .i64 s.f13, .int .i64 s.f14, .int .i64 s.f15, .int .i64 s.f16, .int .i64 s.f17] 25)) (Kd.C_below HR.out HB1.out) hc HK.out)
  clear hst1
  have hx1 : (x == 0) = false := beq_eq_false_iff_ne.mpr hx
  go_enter Try.func14, Try.ntmps14
  go_wp2_with (first | ((with_reducible refine list_style _ 0 HS1.out _ rfl ?hw ?hx ?_); (case hw => rfl); (case hx => rfl)) | (go_at_call 22; refine HC1.out.mono ?_; rintro e w2 ⟨rfl, hb2⟩; have HB2 := Aside0.mk hb2; clear hb2))
  go_ret3
  exact ⟨rfl, HB1.out.trans (HB2.out.mono HB1.out.size)⟩
end Go.Proofs.Ytmihiememhfmnaa.P
