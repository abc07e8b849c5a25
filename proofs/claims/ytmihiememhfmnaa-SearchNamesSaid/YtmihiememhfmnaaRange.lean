/-
  A RANGE OVER A FUNCTION whose iterator asks, between two rounds, what the loop's body has written: the iterator's word ('Iter') may lean on the caller's own invariant I0, told by a state that each round steps on. Condition: the loop is no loop's round itself (the wide fence).
-/
import Derived.RangeFuncFrom
namespace Go.Proofs.Ytmihiememhfmnaa
open Go Go.RowKit

/-- What an iterator promises a caller whose invariant between two rounds is at least I0. -/
def Iter {α σ : Type} (P : Program) (n g : Nat) (lb : Array Value) (encs : α → Array Value) (Kp : World → World → Prop) (step : σ → α → σ) (I0 : σ → World → Prop) (s0 : σ) (Done Part : σ → Prop) (w : World) : Prop :=
  ∀ (l : Nat) (J Jx : σ → World → Prop) (W : World), Below w.heap.size w W → (∀ s W1, J s W1 → I0 s W1) → AbidesFrom W.heap.size J → AbidesFrom W.heap.size Jx →
    (∀ s x W1, J s W1 → YieldAt Fence.wide (n - 1) P l (encs x) W1 fun e W' =>
      (e = .returned (.bool true) ∧ J (step s x) W' ∧ Kp W1 W') ∨ (e = .returned (.bool false) ∧ Jx s W')) →
    J s0 W →
    CallsIn Fence.wide n P g (#[.func (.yield l) #[] #[]] ++ lb) W fun e W' => (∃ v, e = .returned v) ∧ ((∃ s, Done s ∧ J s W') ∨ (∃ s, Part s ∧ Jx s W'))

/-- How the body of a round may be left, begun at state s by the element x. -/
def roundPostS {α σ : Type} (Kp : World → World → Prop) (step : σ → α → σ) (I : σ → World → Prop) (Ix : Code → σ → World → Prop) (s : σ) (x : α) (W : World) : Exit → Act → World → Prop
  | .normal, _, W' => KeepsOthers W W' ∧ Kp W W' ∧ I (step s x) W'
  | .ret, _, W' => KeepsOthers W W' ∧ Ix .ret s W'
  | .exit id, _, W' => KeepsOthers W W' ∧ Ix (.exit id) s W'
  | .goto t, _, W' => KeepsOthers W W' ∧ Ix (.goto t) s W'
  | .panic _, _, _ => False
  | .outgrown, _, _ => False

theorem range_law {α σ : Type} {P : Program} {n : Nat} {g : Operand} {ps : Array Tmp} {assign body : Code} {Q : Exit → Act → World → Prop} {a : Act} {w : World}
    {gf : Nat} {lb : Array Value} (hg : a.eval g = .func (.func gf) #[] lb) (eg : ∀ args w, (callFunc gf args).run P w = .ok (.enter gf args) w)
    {encs : α → Array Value} {Kp : World → World → Prop} {step : σ → α → σ} {s0 : σ} {Done Part : σ → Prop}
    (I : σ → World → Prop) (hit : Iter P (n - 1) gf lb encs Kp step I s0 Done Part w)
    (hKt : ∀ {A B C : World}, Kp A B → Kp B C → Kp A C) (hKb : ∀ (W : World) (l : Nat) (o o' : Obj), w.heap.size ≤ l → W.heap[l]? = some o → o.isCells = false → o.isWalk = false → Kp W (W.putObj l o')) (hps : ∀ x, (encs x).size = ps.size)
    (Ix : Code → σ → World → Prop) (hI : OwnFrom w.heap.size I) (hIx : ∀ c, OwnFrom w.heap.size (Ix c)) (h0 : I s0 w) (a₁ : α → Act)
    (hassign : ∀ (l : Nat) (x : α) (W : World) (K : Act → World → Prop), K (a₁ x) W →
      assign.wpIn (Fence.wide.inRound l) (n - 1 - 1) P (Exit.then K (fun _ _ _ => False)) { tmps := (ps.zip (encs x)).foldl (fun t (p, v) => t.setIfInBounds p v) a.tmps, defers := [] } W)
    (hbody : ∀ (l : Nat) (s : σ) (x : α) (W : World), I s W → body.wpIn (Fence.wide.inRound l) (n - 1 - 1) P (roundPostS Kp step I Ix s x W) (a₁ x) W)
    (hdone : ∀ (D : Nat) (s : σ) (W : World), w.heap.size ≤ D → Done s → I s W → W.heap[D]? = some (.deferred (some [])) → Q .normal { a with defers := { target := .collected D, args := #[] } :: a.defers } W)
    (hstop : ∀ (D : Nat) (c : Code) (s : σ) (W : World), w.heap.size ≤ D → Part s → Ix c s W → W.heap[D]? = some (.deferred (some [])) → c.wpIn Fence.wide n P Q { a with defers := { target := .collected D, args := #[] } :: a.defers } W) :
    (Code.rangeFunc g ps assign body).wpIn Fence.wide n P Q a w := by
  refine wpIn_rangeFunc fun fn hfn => ?_
  -- the loop's record, state by state; where it lies, and the block for the rounds' deferred calls
  let rec_ : LoopState → Option Code → Obj := fun st pe => .loop { state := st, pending := pe, fn, tmps := a.tmps, params := ps, assign, body, defers := w.heap.size }
  let D := w.heap.size
  let L := w.heap.size + 1
  obtain ⟨W1, hW1⟩ : ∃ W1, (w.alloc (.deferred (some []))).alloc (rec_ .ready none) = W1 := ⟨_, rfl⟩
  have book : ∀ {W W' : World} {row : Option Nat}, W.grownBy W' row → (∀ r, row = some r → ∃ o : Obj, W.heap[r]? = some o ∧ o.isWalk = true) →
      ∀ {k : Nat} {o : Obj}, W.heap[k]? = some o → o.isWalk = false → W'.heap[k]? = some o := fun hg' hr k o hk ho => (grownBy_keeps hg' hr hk ho).trans hk
  have hL1 : W1.heap[L]? = some (rec_ .ready none) := by
    have := World.alloc_heap_new (w.alloc (.deferred (some []))) (rec_ .ready none)
    rw [World.size_alloc] at this
    rw [← hW1]; exact this
  have hD1 : W1.heap[D]? = some (.deferred (some [])) := by
    rw [← hW1]; exact (Below.heap_alloc _ _ _ (by simp [D])).trans (World.alloc_heap_new w _)
  have hz : w.heap.size ≤ W1.heap.size := by rw [← hW1]; simp; omega
  have hb1 : Below w.heap.size w W1 := by rw [← hW1]; exact ((Below.refl _ w).alloc (Nat.le_refl _) _).alloc (by simp) _
  refine ⟨L, [{ target := .collected D, args := #[] }], W1, { target := .fn (.func gf) lb, args := #[.func (.yield L) #[] #[]] }, W1, gf, #[.func (.yield L) #[] #[]] ++ lb, W1, ?_, ?_, fun _ _ => trivial, ?_, fun h => absurd h (by simp [Fence.wide]), ?_⟩
  · rw [← hW1]; exact run_enterLoop_outer _ _ _ _ _
  · simp only [resolve, hg]
    simp [go_sem]
  · simp [invoke, go_sem, eg]
  let J : σ → World → Prop := fun s W => I s W ∧ W.heap[L]? = some (rec_ .ready none) ∧ W.heap[D]? = some (.deferred (some []))
  let Jx : σ → World → Prop := fun s W => ∃ c, Ix c s W ∧ W.heap[L]? = some (rec_ .done (some c)) ∧ W.heap[D]? = some (.deferred (some []))
  have other : ∀ {W : World} {row : Option Nat}, (∀ r, row = some r → W1.heap.size ≤ r ∧ ∃ o : Obj, W.heap[r]? = some o ∧ o.isWalk = true) → (∀ r, row = some r → w.heap.size ≤ r ∧ ∃ o : Obj, W.heap[r]? = some o ∧ o.isCells = false) :=
    fun hr r e => by obtain ⟨hB, o, ho, hw⟩ := hr r e; exact ⟨Nat.le_trans hz hB, o, ho, Obj.not_cells_of_walk hw⟩
  have aJ : AbidesFrom W1.heap.size J := fun s A B row hs hg' hr =>
    ⟨hI s A B row hs.1 hg' (other hr), book hg' (fun r e => (hr r e).2) hs.2.1 rfl, book hg' (fun r e => (hr r e).2) hs.2.2 rfl⟩
  have aJx : AbidesFrom W1.heap.size Jx := fun s A B row ⟨c, hc, h1, h2⟩ hg' hr =>
    ⟨c, hIx c s A B row hc hg' (other hr), book hg' (fun r e => (hr r e).2) h1 rfl, book hg' (fun r e => (hr r e).2) h2 rfl⟩
  have J1 : J s0 W1 := ⟨by rw [← hW1]; exact hI.alloc _ (hI.alloc _ h0), hL1, hD1⟩
  refine (hit L J Jx W1 hb1 (fun _ _ h => h.1) aJ aJx ?_ J1).mono ?_
  · rintro s x W ⟨hi, hl, hk⟩
    have hlt : L < W.heap.size := (Array.getElem?_eq_some_iff.1 hl).1
    refine ⟨fn, _, assign, body, run_yield (P := P) (args := encs x) hl (hps x), roundIn_of_wpIn hfn (hassign _ x W _ ⟨_, run_beginRound hl rfl, ?_⟩)⟩
    obtain ⟨W2, hW2⟩ : ∃ W2, W.putObj L (rec_ .busy none) = W2 := ⟨_, rfl⟩
    have hl2 : W2.heap[L]? = some (rec_ .busy none) := by rw [← hW2]; exact World.putObj_heap_same hlt
    have hk2 : W2.heap[D]? = some (.deferred (some [])) := by rw [← hW2]; exact (World.putObj_heap_other (by simp [D, L])).trans hk
    have hi2 : I s W2 := by rw [← hW2]; exact hI.putObj _ hi (by simp [L]) hl rfl
    have hw2 : Kp W W2 := by rw [← hW2]; exact hKb _ _ _ _ (by simp [L]) hl rfl rfl
    show Code.wpIn _ _ _ _ _ _ (W.putObj L (rec_ .busy none))
    rw [hW2]
    refine wpIn_mono (hbody _ s x W2 hi2) ?_
    -- behind the body: the record is ready again, or done with a jump that is pending
    have shut : ∀ (jump : Option Code) (W3 : World), KeepsOthers W2 W3 →
        ∃ W4, W4 = W3.putObj L (rec_ (if jump.isNone then .ready else .done) jump) ∧ (Instr.endRound L jump).run P W3 = .ok (.bool jump.isNone) W4 ∧ W3.heap[L]? = some (rec_ .busy none) ∧
          W4.heap[L]? = some (rec_ (if jump.isNone then .ready else .done) jump) ∧ W4.heap[D]? = some (.deferred (some [])) := fun jump W3 hk3 => by
      have hl3 := hk3.same _ _ hl2 rfl
      exact ⟨_, rfl, run_endRound (P := P) jump hl3, hl3, World.putObj_heap_same (Array.getElem?_eq_some_iff.1 hl3).1, (World.putObj_heap_other (by simp [D, L])).trans (hk3.same _ _ hk2 rfl)⟩
    have out : ∀ (c : Code) (W3 : World), KeepsOthers W2 W3 → Ix c s W3 → ∃ v w', (Instr.endRound L (some c)).run P W3 = .ok v w' ∧
        ((Ending.returned v = .returned (.bool true) ∧ J (step s x) w' ∧ Kp W w') ∨ (Ending.returned v = .returned (.bool false) ∧ Jx s w')) := fun c W3 hk3 hi3 => by
      obtain ⟨W4, e4, hr, hl3, hl4, hk4⟩ := shut (some c) W3 hk3
      exact ⟨_, W4, hr, .inr ⟨rfl, c, by rw [e4]; exact (hIx c).putObj _ hi3 (by simp [L]) hl3 rfl, hl4, hk4⟩⟩
    rintro e a3 W3 hp
    cases e with
    | normal =>
      obtain ⟨hk3, hkp3, hi3⟩ := hp
      obtain ⟨W4, e4, hr, hl3, hl4, hk4⟩ := shut none W3 hk3
      refine ⟨_, W4, hr, .inl ⟨rfl, ⟨by rw [e4]; exact hI.putObj _ hi3 (by simp [L]) hl3 rfl, hl4, hk4⟩, ?_⟩⟩
      rw [e4]
      exact hKt (hKt hw2 hkp3) (hKb _ _ _ _ (by simp [L]) hl3 rfl rfl)
    | ret => exact out _ W3 hp.1 hp.2
    | exit id => exact out _ W3 hp.1 hp.2
    | goto t => exact out _ W3 hp.1 hp.2
    | panic ch => exact hp.elim
    | outgrown => exact hp.elim
  · rintro e W2 ⟨⟨v, rfl⟩, (⟨s, hS, hi, hl, hk⟩ | ⟨s, hS, c, hi, hl, hk⟩)⟩
    · exact ⟨none, _, run_endLoop (P := P) hl (by simp), hdone D s _ (Nat.le_refl _) hS (hI.putObj _ hi (by simp [L]) hl rfl) ((World.putObj_heap_other (by simp [D, L])).trans hk)⟩
    · exact ⟨some c, _, run_endLoop (P := P) hl (by simp), hstop D c s _ (Nat.le_refl _) hS ((hIx c).putObj _ hi (by simp [L]) hl rfl) ((World.putObj_heap_other (by simp [D, L])).trans hk)⟩

end Go.Proofs.Ytmihiememhfmnaa
