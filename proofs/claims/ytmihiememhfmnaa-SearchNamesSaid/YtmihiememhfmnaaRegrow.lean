/- A world in which nothing that was there has changed, as one term: blocks laid behind, some orders drawn. (For a drawing region with calls of which only 'Below' is known.) -/
import Derived.Sort.Grow
import Derived.Below
import Derived.Deep.QuietTactic
namespace Go.Proofs.Ytmihiememhfmnaa
open Go Go.RowKit Go.Sort

def regrow (w : World) (d : Nat) (os : Array Obj) : World := { heap := w.heap ++ os, tape := w.tape, drawn := d, os := w.os, output := w.output }
structure Regrown where
  d : Nat
  os : Array Obj
instance : Inhabited Regrown := ⟨⟨0, #[]⟩⟩

theorem regrow_of_below {w w' : World} (h : Below w.heap.size w w') : ∃ p : Regrown, w' = regrow w p.d p.os := by
  refine ⟨⟨w'.drawn, w'.heap.extract w.heap.size w'.heap.size⟩, ?_⟩
  have hh : w'.heap = w.heap ++ w'.heap.extract w.heap.size w'.heap.size := by
    apply Array.ext_getElem?
    intro i
    have hz := h.size
    rcases Nat.lt_or_ge i w.heap.size with hi | hi
    · rw [h.block i hi, Array.getElem?_append_left hi]
    · rw [Array.getElem?_append_right hi]
      rcases Nat.lt_or_ge i w'.heap.size with h2 | h2
      · rw [Array.getElem?_extract, if_pos (by omega)]
        exact congrArg (w'.heap[·]?) (by omega)
      · rw [Array.getElem?_eq_none h2, Array.getElem?_eq_none (by simp; omega)]
  have e1 := h.os
  have e2 := h.tape
  have e3 := h.output
  obtain ⟨hp, tp, dr, o, out⟩ := w'
  simp only [regrow] at *
  subst e1 e2 e3
  rw [← hh]

theorem below_regrow (w : World) (d : Nat) (os : Array Obj) : Below w.heap.size w (regrow w d os) :=
  ⟨rfl, rfl, rfl, by simp [regrow], fun k hk => by simp [regrow, Array.getElem?_append, hk]⟩

theorem regrow_drew (w : World) : ∃ p : Regrown, w.drew = regrow w p.d p.os := regrow_of_below (Below.refl _ w).drew

theorem cell_regrown {w : World} {a : Addr} {v : Value} (h : w.cell? a = some v) (d : Nat) (os : Array Obj) : (regrow w d os).cell? a = some v :=
  ((below_regrow w d os).cell (World.block_lt_of_cell? _ _ h)).trans h

theorem calls_regrown {P : Program} {f : FuncId} {args : Array Value} {w : World} {d : Nat} {os : Array Obj} {v : Value}
    (h : Calls P f args (regrow w d os) fun e w' => e = .returned v ∧ Below (regrow w d os).heap.size (regrow w d os) w') : Calls P f args (regrow w d os) fun e w'' => e = .returned v ∧ ∃ p : Regrown, w'' = regrow w p.d p.os :=
  h.mono fun _ _ ⟨he, hb⟩ => ⟨he, regrow_of_below ((below_regrow w d os).trans (hb.mono (below_regrow w d os).size))⟩
end Go.Proofs.Ytmihiememhfmnaa
