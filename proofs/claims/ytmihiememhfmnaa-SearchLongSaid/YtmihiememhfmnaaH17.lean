/- The contract of the document's Long: what all costs, reckoned from behind. -/
import Derived.Test.YtmihiememhfmnaaM7
import Derived.Test.YtmihiememhfmnaaF25
import Derived.RangeFuncLeaves
import Derived.RangeFuncRecord
import Derived.BigQuiet
import Derived.OwnWalkIn
import Derived.TacticsInMore
import Derived.Shelf.RegionOpen
namespace Go.Proofs.Ytmihiememhfmnaa.P
open Go.RowKit Go.Sort Go.Shelf Go.Proofs.YtmihiememhfmnaaW.PrintWords Go.Proofs.YtmihiememhfmnaaW.PrintLast Go.Proofs.YtmihiememhfmnaaW.PrintMore
attribute [local go_sem] max2_int min2_int max_two min_two max_three min_three max_four min_four   -- for this text's walks alone
set_option linter.unusedVariables false
set_option linter.unusedSimpArgs false

/-- What ref.Long holds: the style's block, rest and next. -/
structure LongS (w0 w : World) (X : Nat) (first : Int) (A : Option Addr) (c : Nat) (l : List S48) (st : S25) (E B : Nat) (es bs : List Int) : Prop where
  blk : w.heap[X]? = some (.cells (styL st).toArray 25 (0, 0))
  ends : w.ownsRow w0.heap.size 2 1 (.slice (some ⟨E, 0, none⟩) (l.length + 1) (l.length + 1)) (l.length + 1) (nums .i64 es)
  best : w.ownsRow w0.heap.size 3 1 (.slice (some ⟨B, 0, none⟩) (l.length + 1) (l.length + 1)) (l.length + 1) (nums .i64 bs)
  low : Below w0.heap.size w0 w
  gaps : Kd.C k48 w0 A l.length l
  room : l.length ≤ c
  few : l.length ≤ 70000
  hX : w0.heap.size ≤ X

theorem LongS.below {w0 w w' : World} {X : Nat} {first : Int} {A : Option Addr} {c : Nat} {l : List S48} {st : S25} {E B : Nat} {es bs : List Int} (h : LongS w0 w X first A c l st E B es bs) (hb : Below w.heap.size w w') :
    LongS w0 w' X first A c l st E B es bs :=
  ⟨(hb.block X (Array.getElem?_eq_some_iff.1 h.blk).1).trans h.blk, pw_own_below h.ends hb, pw_own_below h.best hb, h.low.trans (hb.mono h.low.size), h.gaps, h.room, h.few, h.hX⟩

theorem LongS.ne {w0 w : World} {X : Nat} {first : Int} {A : Option Addr} {c : Nat} {l : List S48} {st : S25} {E B : Nat} {es bs : List Int} (h : LongS w0 w X first A c l st E B es bs) :
    X ≠ E ∧ X ≠ B ∧ E ≠ B ∧ w0.heap.size ≤ E ∧ w0.heap.size ≤ B := by
  have bE : ∃ cs, w.heap[E]? = some (.cells cs 2 (0, 0)) ∧ w0.heap.size ≤ E := by
    rcases h.ends.2 with ⟨h', _⟩ | ⟨g, cap, cur, h', hb, hh, _⟩
    · cases h'
    · injection h' with h'; injection h' with h'; injection h' with h'; subst h'; exact ⟨_, hh, hb⟩
  have bB : ∃ cs, w.heap[B]? = some (.cells cs 3 (0, 0)) ∧ w0.heap.size ≤ B := by
    rcases h.best.2 with ⟨h', _⟩ | ⟨g, cap, cur, h', hb, hh, _⟩
    · cases h'
    · injection h' with h'; injection h' with h'; injection h' with h'; subst h'; exact ⟨_, hh, hb⟩
  obtain ⟨c1, h1, b1⟩ := bE
  obtain ⟨c2, h2, b2⟩ := bB
  refine ⟨fun e => ?_, fun e => ?_, fun e => ?_, b1, b2⟩
  · have := h.blk; rw [e, h1] at this; injection this with this; injection this with _ t; cases t
  · have := h.blk; rw [e, h2] at this; injection this with this; injection this with _ t; cases t
  · rw [e, h2] at h1; injection h1 with this; injection this with _ t; cases t

theorem LongS.setEnd {w0 w : World} {X : Nat} {first : Int} {A : Option Addr} {c : Nat} {l : List S48} {st : S25} {E B : Nat} {es bs : List Int} (h : LongS w0 w X first A c l st E B es bs) (j : Nat) (x : Int) :
    LongS w0 (w.setCell ⟨E, j, none⟩ (.int .i64 x)) X first A c l st E B (es.set j x) bs := by
  obtain ⟨n1, n2, n3, b1, b2⟩ := h.ne
  refine ⟨(Below.heap_setCell w ⟨E, j, none⟩ _ X n1).trans h.blk, ?_, own_setCell h.best (by simp [Value.ownBlock]; exact n3) _, h.low.setCell b1 _, h.gaps, h.room, h.few, h.hX⟩
  have := (own_store h.ends (j : Int) x).1
  simpa using this

theorem LongS.setBest {w0 w : World} {X : Nat} {first : Int} {A : Option Addr} {c : Nat} {l : List S48} {st : S25} {E B : Nat} {es bs : List Int} (h : LongS w0 w X first A c l st E B es bs) (j : Nat) (x : Int) :
    LongS w0 (w.setCell ⟨B, j, none⟩ (.int .i64 x)) X first A c l st E B es (bs.set j x) := by
  obtain ⟨n1, n2, n3, b1, b2⟩ := h.ne
  refine ⟨(Below.heap_setCell w ⟨B, j, none⟩ _ X n2).trans h.blk, own_setCell h.ends (by simp [Value.ownBlock]; exact fun e => n3 e.symm) _, ?_, h.low.setCell b2 _, h.gaps, h.room, h.few, h.hX⟩
  have := (own_store h.best (j : Int) x).1
  simpa using this

theorem LongS.lt3 {w0 w : World} {X : Nat} {first : Int} {A : Option Addr} {c : Nat} {l : List S48} {st : S25} {E B : Nat} {es bs : List Int} (h : LongS w0 w X first A c l st E B es bs) :
    X ≠ w.heap.size ∧ E ≠ w.heap.size ∧ B ≠ w.heap.size := by
  refine ⟨Nat.ne_of_lt (Array.getElem?_eq_some_iff.1 h.blk).1, fun e => ?_, fun e => ?_⟩
  · rcases h.ends.2 with ⟨h', _⟩ | ⟨g, cap, cur, h', hb, hh, _⟩
    · cases h'
    · injection h' with h'; injection h' with h'; injection h' with h'; subst h'
      exact absurd (Array.getElem?_eq_some_iff.1 hh).1 (by omega)
  · rcases h.best.2 with ⟨h', _⟩ | ⟨g, cap, cur, h', hb, hh, _⟩
    · cases h'
    · injection h' with h'; injection h' with h'; injection h' with h'; subst h'
      exact absurd (Array.getElem?_eq_some_iff.1 hh).1 (by omega)

theorem LongS.setOther {w0 w : World} {X : Nat} {first : Int} {A : Option Addr} {c : Nat} {l : List S48} {st : S25} {E B : Nat} {es bs : List Int} (h : LongS w0 w X first A c l st E B es bs) (G j : Nat) (x : Value)
    (hx : X ≠ G ∧ E ≠ G ∧ B ≠ G) (hg : w0.heap.size ≤ G) :
    LongS w0 (w.setCell ⟨G, j, none⟩ x) X first A c l st E B es bs :=
  ⟨(Below.heap_setCell w ⟨G, j, none⟩ _ X hx.1).trans h.blk, own_setCell h.ends (by simp [Value.ownBlock]; exact fun e => hx.2.1 e.symm) _, own_setCell h.best (by simp [Value.ownBlock]; exact fun e => hx.2.2 e.symm) _, h.low.setCell hg _, h.gaps, h.room, h.few, h.hX⟩


theorem LongS.sty {w0 w : World} {X : Nat} {first : Int} {A : Option Addr} {c : Nat} {l : List S48} {st : S25} {E B : Nat} {es bs : List Int} (h : LongS w0 w X first A c l st E B es bs) : StyAt w X 0 st :=
  sty_of_blk 0 h.blk rfl

theorem rd_set1 (xs : List Int) (p j : Nat) (x : Int) (hp : p < xs.length) : rd (xs.set p x) (j : Int) = if j = p then x else rd xs (j : Int) := by
  simp only [rd, Int.toNat_natCast, List.getD_eq_getElem?_getD, List.getElem?_set]
  by_cases h : j = p
  · subst h
    simp [hp]
  · simp [h, Ne.symm h]

theorem long_tab {first : Int} {l : List S48} {s : S25} {rs ns ms : List Int} {m : Int} {pl k : Nat} (hlen : pl < rs.length) (hpl : pl ≤ l.length) (hk : pl + k = l.length)
    (HT : ∀ j : Nat, l.length + 1 ≤ j + k → j ≤ l.length → rd rs j = V first l s.f0 s.f7 (l.length - j) j ∧ rd ns j = ((L first l s.f0 s.f7 (l.length - j) j : Nat) : Int))
    (HN : ∀ j : Nat, pl < j → j ≤ l.length → rd ms j = ((L first l s.f0 s.f7 (l.length - j) j : Nat) : Int))
    (e1 : V first l s.f0 s.f7 (l.length - pl) pl = m) (e2 : ((L first l s.f0 s.f7 (l.length - pl) pl : Nat) : Int) = rd ms pl) :
    ∀ j : Nat, l.length + 1 ≤ j + (k + 1) → j ≤ l.length → rd (rs.set pl m) j = V first l s.f0 s.f7 (l.length - j) j ∧ rd ms j = ((L first l s.f0 s.f7 (l.length - j) j : Nat) : Int) := by
  intro j h1 h2
  rw [rd_set1 _ _ _ _ hlen]
  by_cases hj : j = pl
  · subst hj
    rw [if_pos rfl]
    exact ⟨e1.symm, e2.symm⟩
  · rw [if_neg hj]
    exact ⟨(HT j (by omega) h2).1, HN j (by omega) h2⟩

set_option maxHeartbeats 4000000 in
set_option maxRecDepth 100000 in
theorem long_ok (first : Int) (A : Option Addr) (c : Nat) (l : List S48) (s : S25) (w : World) (hr : Kd.C k48 w A l.length l) (hc : l.length ≤ c) (hfit : Fit first l s.f0 s.f7) :
    Calls Try.prog 17 #[.int .i64 first, .slice A l.length c, .agg #[.int .i64 s.f0, .int .i64 s.f1, .int .i64 s.f2, .int .i64 s.f3, .bool s.f4, .bool s.f5, .bool s.f6, .int .i64 s.f7, .int .i64 s.f8, .int .i64 s.f9, .int .i64 s.f10, .int .i64 s.f11, .int .i64 s.f12, .int .i64 s.f13, .int .i64 s.f14, .int .i64 s.f15, .int .i64 s.f16, .int .i64 s.f17]] w fun e w' => ∃ v0_ : Value, e = .returned (.tuple #[v0_, .int .i64 (V first l s.f0 s.f7 l.length 0)]) ∧ Kd.R Kd.bool 4 w' w.heap.size (fun _ => True) v0_ (tk first l s.f0 s.f7 l.length 0) ∧ Below w.heap.size w w' := by
  have HR := Aside0.mk hr
  have HF := Aside0.mk hfit
  have hn := hfit.n
  clear hr hfit
  have HB1 : Aside0 (Below w.heap.size w (w.alloc (.cells #[.int .i64 s.f0, .int .i64 s.f1, .int .i64 s.f2, .int .i64 s.f3, .bool s.f4, .bool s.f5, .bool s.f6, .int .i64 s.f7, .int .i64 s.f8, .int .i64 s.f9, .int .i64 s.f10, .int .i64 s.f11, .int .i64 s.f12, .int .i64 s.f13, .int .i64 s.f14, .int .i64 s.f15, .int .i64 s.f16, .int .i64 s.f17] 25))) := ⟨(Below.refl _ _).alloc (Nat.le_refl _) _⟩
  have HX1 : Aside0 ((w.alloc (.cells #[.int .i64 s.f0, .int .i64 s.f1, .int .i64 s.f2, .int .i64 s.f3, .bool s.f4, .bool s.f5, .bool s.f6, .int .i64 s.f7, .int .i64 s.f8, .int .i64 s.f9, .int .i64 s.f10, .int .i64 s.f11, .int .i64 s.f12, .int .i64 s.f13, .int .i64 s.f14, .int .i64 s.f15, .int .i64 s.f16, .int .i64 s.f17] 25)).heap[w.heap.size]? = some (.cells (styL s).toArray 25 (0, 0))) := ⟨World.alloc_heap_new w _⟩
  go_enter Try.func17, Try.ntmps17
  go_upto_region 2 with (fail)
  obtain ⟨W1, hW1⟩ : ∃ W1, w.alloc (.cells #[.int .i64 s.f0, .int .i64 s.f1, .int .i64 s.f2, .int .i64 s.f3, .bool s.f4, .bool s.f5, .bool s.f6, .int .i64 s.f7, .int .i64 s.f8, .int .i64 s.f9, .int .i64 s.f10, .int .i64 s.f11, .int .i64 s.f12, .int .i64 s.f13, .int .i64 s.f14, .int .i64 s.f15, .int .i64 s.f16, .int .i64 s.f17] 25) = W1 := ⟨_, rfl⟩
  rw [hW1] at HB1 HX1 ⊢
  clear hW1
  have hw1 : IntKind.i64.wrap ((l.length : Int) + 1) = (l.length : Int) + 1 := IntWalk.i64_in _ (by omega)
  have mk57 := print_make_int (P := Try.prog) 57 2 (.int .i64 0) 8 Try.underlying57 info2' rfl (by decide) ((l.length : Int) + 1) (by omega) (by omega) W1
  rw [show ((l.length : Int) + 1).toNat = l.length + 1 from by omega] at mk57
  go_upto_region 3 with (fail)
  obtain ⟨E, hE⟩ : ∃ E, W1.heap.size = E := ⟨_, rfl⟩
  obtain ⟨W2, hW2⟩ : ∃ W2, W1.alloc (.cells (madeCells #[.int .i64 0] (l.length + 1)) 2) = W2 := ⟨_, rfl⟩
  have hb2 : Below W1.heap.size W1 W2 := by rw [← hW2]; exact (Below.refl _ _).alloc (Nat.le_refl _) _
  have HB2 := Aside0.mk (HB1.out.trans (hb2.mono HB1.out.size))
  have HX2 := Aside0.mk ((hb2.block _ (Array.getElem?_eq_some_iff.1 HX1.out).1).trans HX1.out)
  have HO2 : Aside0 (W2.ownsRow w.heap.size 2 1 (.slice (some ⟨E, 0, none⟩) (l.length + 1) (l.length + 1)) (l.length + 1) (nums .i64 (List.replicate (l.length + 1) 0))) := ⟨by
    rw [← hW2, ← hE]; exact own_made W1 w.heap.size 2 .i64 (l.length + 1) HB1.out.size (by omega)⟩
  rw [hE, hW2]
  clear hE hW2 hb2 mk57 HB1 HX1
  have mk56 := print_make_int (P := Try.prog) 56 3 (.int .i64 0) 8 Try.underlying56 info3' rfl (by decide) ((l.length : Int) + 1) (by omega) (by omega) W2
  rw [show ((l.length : Int) + 1).toNat = l.length + 1 from by omega] at mk56
  go_upto_region 4 with (fail)
  obtain ⟨B, hB⟩ : ∃ B, W2.heap.size = B := ⟨_, rfl⟩
  obtain ⟨W3, hW3⟩ : ∃ W3, W2.alloc (.cells (madeCells #[.int .i64 0] (l.length + 1)) 3) = W3 := ⟨_, rfl⟩
  have HL : Aside0 (LongS w W3 w.heap.size first A c l s E B (List.replicate (l.length + 1) 0) (List.replicate (l.length + 1) 0)) := ⟨by
    have hb3 : Below W2.heap.size W2 W3 := by rw [← hW3]; exact (Below.refl _ _).alloc (Nat.le_refl _) _
    refine ⟨(hb3.block _ (Array.getElem?_eq_some_iff.1 HX2.out).1).trans HX2.out, pw_own_below HO2.out hb3, ?_, HB2.out.trans (hb3.mono HB2.out.size), HR.out, hc, by omega, Nat.le_refl _⟩
    rw [← hW3, ← hB]; exact own_made W2 w.heap.size 3 .i64 (l.length + 1) HB2.out.size (by omega)⟩
  rw [hB, hW3]
  clear hB hW3 mk56 HB2 HX2 HO2 hw1
  go_wp2
  go_loopw [11] (fun v11 wr => ∃ (k : Nat) (rs ns : List Int), k ≤ l.length + 1 ∧ v11 = .int .i64 ((l.length : Int) - (k : Int)) ∧ Aside0 (LongS w wr w.heap.size first A c l s E B rs ns) ∧ Aside0 (∀ j : Nat, l.length + 1 ≤ j + k → j ≤ l.length → rd rs j = V first l s.f0 s.f7 (l.length - j) j ∧ rd ns j = ((L first l s.f0 s.f7 (l.length - j) j : Nat) : Int))) (fun v11 _ => (intOf v11 + 1).toNat)
  case atStart => exact ⟨0, _, _, by omega, by simp, HL, ⟨fun j h1 h2 => by omega⟩⟩
  case round =>
    obtain ⟨k, rs, ns, hk, rfl, HLr, HT⟩ := hrel
    clear HL
    by_cases hge : k ≤ l.length
    · obtain ⟨pl, hplk⟩ : ∃ pl : Nat, l.length - k = pl := ⟨_, rfl⟩
      have hpl : pl ≤ l.length := by omega
      have hpl2 : pl + k ≤ l.length ∧ l.length ≤ pl + k := by omega
      rw [show (l.length : Int) - (k : Int) = (pl : Int) from by omega]
      clear hplk
      have hp0 : 0 ≤ (pl : Int) := by omega
      go_upto_if 33 with (fail)
      go_cut [12] (fun v12 wc => v12 = .int .i64 (Wp first l pl) ∧ Aside0 (LongS w wc w.heap.size first A c l s E B rs ns))
      case first =>
        rcases Nat.eq_zero_or_pos pl with hz | hz
        · subst hz
          go_wp2
          go_meet
          case rel => exact ⟨by simp [Wp], HLr⟩
        · obtain ⟨q, rfl⟩ : ∃ q, pl = q + 1 := ⟨pl - 1, by omega⟩
          have hg := HF.out.g q (by omega)
          obtain ⟨ad, e1, g0, g1, g2, g3, g4, g5⟩ := at_T48 (Kd.C_below HR.out HLr.out.low) (q : Int) (by omega) (by omega)
          cases e1
          simp only [Int.toNat_natCast] at g0 g1 g2 g3 g4 g5
          have hd1 : decide (0 < ((q + 1 : Nat) : Int)) = true := decide_eq_true (by omega)
          have hw1 : IntKind.i64.wrap (((q + 1 : Nat) : Int) - 1) = (q : Int) := by rw [IntWalk.i64_in _ (by omega)]; omega
          have hw2 : IntKind.i64.wrap ((rd_T48 l (q : Int)).f5 + (rd_T48 l (q : Int)).f0) = Wp first l (q + 1) := by
            rw [Wp_succ]; have := hg.a0; have := hg.a1; have := hg.d0; have := hg.d1; exact IntWalk.i64_in _ (by omega)
          go_wp2
          go_quiet (fail)
          go_wp2
          go_meet
          case rel => exact ⟨rfl, ⟨HLr.out.below (pw_below_drewN (Below.refl _ _) _)⟩⟩
      case rest =>
        obtain ⟨rfl, HLc⟩ := hcut
        clear HLr
        go_wp2
        go_loopw [12, 13, 14] (fun v12 v13 v14 wr => ∃ (a : Nat) (m x12 : Int) (ms : List Int), a ≤ l.length + 1 ∧ pl ≤ a ∧ v12 = .int .i64 x12 ∧ v13 = .int .i64 m ∧ v14 = .int .i64 (a : Nat) ∧ Aside0 (LongS w wr w.heap.size first A c l s E B rs ms) ∧ Aside0 (∀ j : Nat, pl < j → j ≤ l.length → rd ms j = ((L first l s.f0 s.f7 (l.length - j) j : Nat) : Int)) ∧ Aside0 (a ≤ l.length → x12 = Wp first l pl + Ep l a - Ep l pl ∧ LG first l s.f0 s.f7 pl (l.length - a) m (rd ms pl)) ∧ Aside0 (a = l.length + 1 → V first l s.f0 s.f7 (l.length - pl) pl = m ∧ ((L first l s.f0 s.f7 (l.length - pl) pl : Nat) : Int) = rd ms pl)) (fun _ _ v14 _ => l.length + 1 - (intOf v14).toNat)
        case atStart => exact ⟨pl, -1, _, ns, by omega, by omega, rfl, rfl, rfl, HLc, ⟨fun j h1 h2 => (HT.out j (by omega) h2).2⟩, ⟨fun _ => ⟨by omega, LG.start pl _⟩⟩, ⟨fun h => by omega⟩⟩
        case round =>
          obtain ⟨a, m, x12, ms, ha, hpa, rfl, rfl, rfl, HLi, HN, HI, HE⟩ := hrel
          clear HLc
          have hp1 : (pl : Int) < (l.length : Int) + 1 := by omega
          rcases Nat.lt_trichotomy a l.length with hlt | heq | hgt
          · obtain ⟨hx12, hG⟩ := HI.out (by omega)
            have HLG := Aside0.mk hG
            have hr := rw_le HF.out (p := pl) (a := a) hpa (by omega)
            have hcb := cc_bound HF.out (p := pl) (a := a) hpa hlt
            have hgk := HF.out.g a hlt
            have hrow : regletref14_row.f x12 s.f0 s.f1 s.f2 s.f3 s.f4 s.f5 s.f6 s.f7 s.f8 s.f9 s.f10 s.f11 s.f12 s.f13 s.f14 s.f15 s.f16 s.f17 = some (rw_ first l s.f0 s.f7 pl a) := by
              rw [hx12, regletref14_row.f, row_eq HF.out.C1 HF.out.C2 HF.out.X0 HF.out.X1 hr.1 hr.2.1]; rfl
            have HROW := Aside0.mk (regletref14_row.calls x12 s.f0 s.f1 s.f2 s.f3 s.f4 s.f5 s.f6 s.f7 s.f8 s.f9 s.f10 s.f11 s.f12 s.f13 s.f14 s.f15 s.f16 s.f17 (rw_ first l s.f0 s.f7 pl a) wr hrow)
            have HST := Aside0.mk HLi.out.sty
            have HX12 := Aside0.mk hx12
            clear hG hrow hx12 HI HE
            have hd1 : decide ((a : Int) ≤ (l.length : Int)) = true := decide_eq_true (by omega)
            have hd2 : decide ((a : Int) < (l.length : Int)) = true := decide_eq_true (by omega)
            go_upto_region 14 with (first | ((with_reducible refine list_style w.heap.size 0 HST.out _ rfl ?hw ?hx ?_); (case hw => rfl); (case hx => rfl)) | (go_at_call 25; refine HROW.out.mono ?_; rintro e w5 ⟨rfl, hb5⟩; have HL5 := Aside0.mk (HLi.out.below hb5); clear hb5))
            clear HROW HST HLi
            have ha0 : 0 ≤ (a : Int) := by omega
            have ha1 : (a : Int) < (l.length : Int) := by omega
            have ha2 : 0 ≤ (a : Int) + 1 := by omega
            have ha3 : (a : Int) + 1 < (l.length : Int) + 1 := by omega
            obtain ⟨ad, e1, g0, g1, g2, g3, g4, g5⟩ := at_T48 (Kd.C_below HR.out HL5.out.low) (a : Int) ha0 ha1
            cases e1
            simp only [Int.toNat_natCast] at g0 g1 g2 g3 g4 g5
            obtain ⟨hc1, hf1⟩ := own_at HL5.out.ends ((a : Int) + 1) ha2 ha3
            rw [show ((a : Int) + 1).toNat = a + 1 from by omega] at hc1 hf1
            have hrest : rd rs ((a : Int) + 1) = V first l s.f0 s.f7 (l.length - (a + 1)) (a + 1) := (HT.out (a + 1) (by omega) (by omega)).1
            obtain ⟨rv, hrv⟩ : ∃ rv, rw_ first l s.f0 s.f7 pl a = rv := ⟨_, rfl⟩
            obtain ⟨g, hg⟩ : ∃ g, rd_T48 l (a : Int) = g := ⟨_, rfl⟩
            obtain ⟨vv, hvv⟩ : ∃ vv, V first l s.f0 s.f7 (l.length - (a + 1)) (a + 1) = vv := ⟨_, rfl⟩
            have hcc : ccV first l s.f0 s.f7 pl a = rv + g.f4 + vv := by rw [ccV, hrv, hg, hvv]
            have HRV := Aside0.mk hrv
            have Hg := Aside0.mk hg
            have HCC := Aside0.mk hcc
            rw [hg] at g0 g1 g2 g3 g4 g5 hgk
            rw [hrest, hvv] at hc1
            rw [hrv] at hr hcb ⊢
            rw [hcc] at hcb
            clear hrv hg hvv hcc hrest
            have k4 := hgk.c0
            have k5 := hgk.c1
            have hw1 : IntKind.i64.wrap ((a : Int) + 1) = (a : Int) + 1 := IntWalk.i64_in _ (by omega)
            have hw2 : IntKind.i64.wrap (rv + g.f4) = rv + g.f4 := IntWalk.i64_in _ (by omega)
            have hw3 : IntKind.i64.wrap (rv + g.f4 + vv) = rv + g.f4 + vv := IntWalk.i64_in _ (by omega)
            have hmn : (if (a : Int) + 1 < (l.length : Int) then (a : Int) + 1 else (l.length : Int)) = (a : Int) + 1 := by split <;> omega
            go_wp2
            go_quiet (fail)
            go_upto_region 16 with (fail)
            have HL6 := Aside0.mk (HL5.out.below (pw_below_drewN (Below.refl _ _) nq))
            clear HL5 g0 g1 g2 g3 g4 g5 hc1 hf1 hw1 hw2 hw3 hmn
            generalize w5.drewN nq = w6 at HL6 ⊢
            obtain ⟨cv, hcv⟩ : ∃ cv, rv + g.f4 + vv = cv := ⟨_, rfl⟩
            rw [hcv] at HCC hcb ⊢
            clear hcv
            have hbq : ((a : Int) == (l.length : Int)) = false := beq_eq_false_iff_ne.mpr (by omega)
            go_cut [90] (fun v90 wc => v90 = .bool (decide (g.f3 = true ∧ (m < 0 ∨ cv ≤ m))) ∧ wc = w6)
            case first =>
              obtain ⟨ad', e2, g0, g1, g2, g3, g4, g5⟩ := at_T48 (Kd.C_below HR.out HL6.out.low) (a : Int) ha0 ha1
              obtain rfl : ad = ad' := by injection e2
              simp only [Int.toNat_natCast] at g0 g1 g2 g3 g4 g5
              rw [Hg.out] at g3
              clear g0 g1 g2 g4 g5 e2
              cases h3 : g.f3 with
              | false =>
                rw [h3] at g3
                go_wp2
                go_meet
                case rel => exact ⟨congrArg Value.bool (by simp [h3]), rfl⟩
              | true =>
                rw [h3] at g3
                by_cases hm0 : m < 0
                · have d1 : decide (m < 0) = true := decide_eq_true hm0
                  go_wp2
                  go_meet
                  case rel => exact ⟨congrArg Value.bool (by simp [h3, hm0] <;> omega), rfl⟩
                · have d1 : decide (m < 0) = false := decide_eq_false hm0
                  go_wp2
                  go_meet
                  case rel => exact ⟨congrArg Value.bool (by simp [h3, hm0] <;> omega), rfl⟩
            case rest =>
              obtain ⟨rfl, hwc⟩ := hcut
              rw [hwc] at *
              clear hwc
              obtain ⟨ub, hub⟩ : ∃ ub, decide (g.f3 = true ∧ (m < 0 ∨ cv ≤ m)) = ub := ⟨_, rfl⟩
              rw [hub]
              have HUB := Aside0.mk hub
              clear hub
              go_upto_if 90 with (fail)
              go_cut [13] (fun v13 wc => ∃ (m' : Int) (ms' : List Int), v13 = .int .i64 m' ∧ Aside0 (LongS w wc w.heap.size first (some ad) c l s E B rs ms') ∧ Aside0 (∀ j : Nat, pl < j → j ≤ l.length → rd ms' j = ((L first l s.f0 s.f7 (l.length - j) j : Nat) : Int)) ∧ Aside0 (g.f2 = true → V first l s.f0 s.f7 (l.length - pl) pl = m' ∧ ((L first l s.f0 s.f7 (l.length - pl) pl : Nat) : Int) = rd ms' pl) ∧ Aside0 (g.f2 = false → LG first l s.f0 s.f7 pl (l.length - (a + 1)) m' (rd ms' pl)))
              case first =>
                have ed : l.length - a = (l.length - (a + 1)) + 1 := by omega
                have hlg := HLG.out
                rw [ed] at hlg
                have q1 : l.length - (l.length - (a + 1) + 1) = a := by omega
                have q2 : l.length - (a + 1) = l.length - (a + 1) := rfl
                have MU := Aside0.mk (fun h2 => hlg.must q1 q2 (by rw [Hg.out]; exact h2))
                have TK := Aside0.mk (fun h2 h3 hcm => hlg.take HF.out hpa q1 q2 hlt (by rw [Hg.out]; exact h2) (by rw [Hg.out]; exact h3) hcm)
                have SK := Aside0.mk (fun h2 h3 => hlg.skip HF.out hpa q1 q2 hlt (by rw [Hg.out]; exact h2) h3)
                have hlen : pl < ms.length := by have := HL6.out.best.1; simp [nums] at this; omega
                clear hlg ed q1 q2
                cases ub with
                | true =>
                  have hu := of_decide_eq_true HUB.out
                  obtain ⟨hc2, hf2⟩ := own_at HL6.out.best (pl : Int) hp0 hp1
                  rw [Int.toNat_natCast] at hc2 hf2
                  have HU := Aside0.mk hu
                  clear hu
                  go_wp2
                  go_meet
                  case rel =>
                    refine ⟨cv, ms.set pl (a : Int), rfl, ⟨HL6.out.setBest pl (a : Int)⟩, ⟨fun j h1 h2 => by rw [rd_set1 _ _ _ _ hlen, if_neg (by omega)]; exact HN.out j h1 h2⟩, ⟨fun h2 => ?_⟩, ⟨fun h2 => ?_⟩⟩
                    · rw [rd_set1 _ _ _ _ hlen, if_pos rfl, ← HCC.out]
                      exact (MU.out h2).1 (by rw [HCC.out]; exact HU.out.2)
                    · rw [rd_set1 _ _ _ _ hlen, if_pos rfl, ← HCC.out]
                      exact TK.out h2 HU.out.1 (by rw [HCC.out]; exact HU.out.2)
                | false =>
                  have HU := Aside0.mk (of_decide_eq_false HUB.out)
                  go_wp2
                  go_meet
                  case rel =>
                    refine ⟨m, ms, rfl, HL6, HN, ⟨fun h2 => ?_⟩, ⟨fun h2 => ?_⟩⟩
                    · exact (MU.out h2).2 (by rw [HCC.out]; exact fun hh => HU.out ⟨hgk.m h2, hh⟩)
                    · exact SK.out h2 (by rw [Hg.out, HCC.out]; exact fun h3 hh => HU.out ⟨h3, hh⟩)
              case rest =>
                obtain ⟨m', ms', rfl, HL7, HN7, HM7, HG7⟩ := hcut
                clear HL6 HLG HCC HN HUB
                obtain ⟨ad', e2, g0, g1, g2, g3, g4, g5⟩ := at_T48 (Kd.C_below HR.out HL7.out.low) (a : Int) ha0 ha1
                obtain rfl : ad = ad' := by injection e2
                simp only [Int.toNat_natCast] at g0 g1 g2 g3 g4 g5
                rw [Hg.out] at g0 g1 g2
                clear e2 g3 g4 g5
                have k0 := hgk.a0
                have k1 := hgk.a1
                have k2 := hgk.b0
                have k3 := hgk.b1
                have hx0 := HX12.out
                have hr0 := hr.1
                have hr1 := hr.2.1
                rw [← hx0] at hr0 hr1
                clear hx0
                have hw4 : IntKind.i64.wrap (x12 + g.f1) = x12 + g.f1 := IntWalk.i64_in _ (by omega)
                have hw5 : IntKind.i64.wrap (x12 + g.f1 + g.f0) = x12 + g.f1 + g.f0 := IntWalk.i64_in _ (by omega)
                go_wp2
                go_quiet (fail)
                go_upto_region 21 with (fail)
                have HL8 := Aside0.mk (HL7.out.below (pw_below_drewN (Below.refl _ _) nq))
                clear HL7 g0 g1 g2
                generalize wc.drewN nq = w8 at HL8 ⊢
                obtain ⟨ad', e2, g0, g1, g2, g3, g4, g5⟩ := at_T48 (Kd.C_below HR.out HL8.out.low) (a : Int) ha0 ha1
                obtain rfl : ad = ad' := by injection e2
                simp only [Int.toNat_natCast] at g0 g1 g2 g3 g4 g5
                rw [Hg.out] at g2
                clear e2 g0 g1 g3 g4 g5
                cases h2 : g.f2 with
                | true =>
                  rw [h2] at g2
                  obtain ⟨e3, e4⟩ := HM7.out h2
                  have HE3 := Aside0.mk e3
                  have HE4 := Aside0.mk e4
                  clear e3 e4
                  obtain ⟨hc1, hf1⟩ := own_at HL8.out.ends (pl : Int) hp0 (by omega)
                  rw [Int.toNat_natCast] at hc1 hf1
                  go_wp2
                  go_roundw
                  case rel => exact ⟨k + 1, rs.set pl m', ms', by omega, by rw [show (pl : Int) - 1 = (l.length : Int) - ((k + 1 : Nat) : Int) from by have := hpl2; omega], ⟨HL8.out.setEnd pl m'⟩, ⟨long_tab (by have := HL8.out.ends.1; simp [nums] at this; omega) hpl (by omega) HT.out HN7.out HE3.out HE4.out⟩⟩
                  case measure => simp [intOf] <;> omega
                | false =>
                  rw [h2] at g2
                  have hlg := HG7.out h2
                  have HLG7 := Aside0.mk hlg
                  clear hlg
                  have hw1 : IntKind.i64.wrap ((a : Int) + 1) = (a : Int) + 1 := IntWalk.i64_in _ (by omega)
                  go_wp2
                  go_roundw
                  case rel => exact ⟨a + 1, m', _, ms', by omega, by omega, rfl, rfl, by rw [show ((a : Int) + 1) = ((a + 1 : Nat) : Int) from by omega], HL8, HN7, ⟨fun _ => ⟨by rw [Ep, HX12.out, Hg.out]; omega, HLG7.out⟩⟩, ⟨fun hh => by omega⟩⟩
                  case measure => simp [intOf] <;> omega
          · subst heq
            obtain ⟨hx12, hG⟩ := HI.out (by omega)
            rw [Nat.sub_self] at hG
            have hla := hG.last HF.out hpl
            have hr := rw_le HF.out (p := pl) (a := l.length) hpa (Nat.le_refl _)
            have hrow : regletref14_row.f x12 s.f0 s.f1 s.f2 s.f3 s.f4 s.f5 s.f6 s.f7 s.f8 s.f9 s.f10 s.f11 s.f12 s.f13 s.f14 s.f15 s.f16 s.f17 = some (rw_ first l s.f0 s.f7 pl l.length) := by
              rw [hx12, regletref14_row.f, row_eq HF.out.C1 HF.out.C2 HF.out.X0 HF.out.X1 hr.1 hr.2.1]; rfl
            have HROW := Aside0.mk (regletref14_row.calls x12 s.f0 s.f1 s.f2 s.f3 s.f4 s.f5 s.f6 s.f7 s.f8 s.f9 s.f10 s.f11 s.f12 s.f13 s.f14 s.f15 s.f16 s.f17 (rw_ first l s.f0 s.f7 pl l.length) wr hrow)
            have HST := Aside0.mk HLi.out.sty
            obtain ⟨rv, hrv⟩ : ∃ rv, rw_ first l s.f0 s.f7 pl l.length = rv := ⟨_, rfl⟩
            rw [hrv] at hla HROW
            have HLA := Aside0.mk hla
            clear hG hrow hx12 HI HE hla hr hrv
            have hd1 : decide ((l.length : Int) ≤ (l.length : Int)) = true := decide_eq_true (by omega)
            have hd2 : decide ((l.length : Int) < (l.length : Int)) = false := decide_eq_false (by omega)
            have hbq : ((l.length : Int) == (l.length : Int)) = true := by simp
            go_upto_region 14 with (first | ((with_reducible refine list_style w.heap.size 0 HST.out _ rfl ?hw ?hx ?_); (case hw => rfl); (case hx => rfl)) | (go_at_call 25; refine HROW.out.mono ?_; rintro e w5 ⟨rfl, hb5⟩; have HL5 := Aside0.mk (HLi.out.below hb5); clear hb5))
            clear HROW HST HLi
            go_upto_region 16 with (fail)
            go_cut [90] (fun v90 wc => v90 = .bool (decide (m < 0 ∨ rv ≤ m)) ∧ wc = w5)
            case first =>
              by_cases hm0 : m < 0
              · have d1 : decide (m < 0) = true := decide_eq_true hm0
                go_wp2
                go_meet
                case rel => exact ⟨congrArg Value.bool (by simp [hm0]), rfl⟩
              · have d1 : decide (m < 0) = false := decide_eq_false hm0
                go_wp2
                go_meet
                case rel => exact ⟨congrArg Value.bool (by simp [hm0] <;> omega), rfl⟩
            case rest =>
              obtain ⟨rfl, hwc⟩ := hcut
              rw [hwc] at *
              clear hwc
              obtain ⟨ub, hub⟩ : ∃ ub, decide (m < 0 ∨ rv ≤ m) = ub := ⟨_, rfl⟩
              rw [hub]
              have HUB := Aside0.mk hub
              clear hub
              go_upto_if 90 with (fail)
              go_cut [13] (fun v13 wc => ∃ (m' : Int) (ms' : List Int), v13 = .int .i64 m' ∧ Aside0 (LongS w wc w.heap.size first A c l s E B rs ms') ∧ Aside0 (∀ j : Nat, pl < j → j ≤ l.length → rd ms' j = ((L first l s.f0 s.f7 (l.length - j) j : Nat) : Int)) ∧ Aside0 (V first l s.f0 s.f7 (l.length - pl) pl = m' ∧ ((L first l s.f0 s.f7 (l.length - pl) pl : Nat) : Int) = rd ms' pl))
              case first =>
                have hlen : pl < ms.length := by have := HL5.out.best.1; simp [nums] at this; omega
                cases ub with
                | true =>
                  have HU := Aside0.mk (HLA.out.1 (of_decide_eq_true HUB.out))
                  obtain ⟨hc2, hf2⟩ := own_at HL5.out.best (pl : Int) hp0 hp1
                  rw [Int.toNat_natCast] at hc2 hf2
                  go_wp2
                  go_meet
                  case rel =>
                    refine ⟨rv, ms.set pl (l.length : Int), rfl, ⟨HL5.out.setBest pl (l.length : Int)⟩, ⟨fun j h1 h2 => by rw [rd_set1 _ _ _ _ hlen, if_neg (by omega)]; exact HN.out j h1 h2⟩, ⟨?_⟩⟩
                    rw [rd_set1 _ _ _ _ hlen, if_pos rfl]
                    exact HU.out
                | false =>
                  have HU := Aside0.mk (HLA.out.2 (of_decide_eq_false HUB.out))
                  go_wp2
                  go_meet
                  case rel => exact ⟨m, ms, rfl, HL5, HN, HU⟩
              case rest =>
                obtain ⟨m', ms', rfl, HL7, HN7, HM7⟩ := hcut
                clear HL5 HLA HN HUB
                have hw1 : IntKind.i64.wrap ((l.length : Int) + 1) = (l.length : Int) + 1 := IntWalk.i64_in _ (by omega)
                go_wp2
                go_roundw
                case rel => exact ⟨l.length + 1, m', _, ms', by omega, by omega, rfl, rfl, by rw [show ((l.length : Int) + 1) = ((l.length + 1 : Nat) : Int) from by omega], HL7, HN7, ⟨fun hh => by omega⟩, ⟨fun _ => HM7.out⟩⟩
                case measure => simp [intOf] <;> omega
          · obtain rfl : a = l.length + 1 := by omega
            obtain ⟨e1, e2⟩ := HE.out rfl
            obtain ⟨hc1, hf1⟩ := own_at HLi.out.ends (pl : Int) hp0 (by omega)
            rw [Int.toNat_natCast] at hc1 hf1
            have hd1 : decide (((l.length + 1 : Nat) : Int) ≤ (l.length : Int)) = false := decide_eq_false (by omega)
            go_wp2
            go_roundw
            case rel => exact ⟨k + 1, rs.set pl m, ms, by omega, by rw [show (pl : Int) - 1 = (l.length : Int) - ((k + 1 : Nat) : Int) from by have := hpl2; omega], ⟨HLi.out.setEnd pl m⟩, ⟨long_tab (by have := HLi.out.ends.1; simp [nums] at this; omega) hpl (by omega) HT.out HN.out e1 e2⟩⟩
            case measure => simp [intOf] <;> omega
    · have hkk : k = l.length + 1 := by omega
      subst hkk
      rw [show (l.length : Int) - ((l.length + 1 : Nat) : Int) = -1 from by omega]
      have mk23 := print_make_int (P := Try.prog) 23 4 (.bool false) 1 Try.underlying23 info4' rfl (by decide) (l.length : Int) (by omega) (by omega) wr
      rw [Int.toNat_natCast] at mk23
      obtain ⟨W6, hW6⟩ : ∃ W6, wr.alloc (.cells (madeCells #[.bool false] l.length) 4) = W6 := ⟨_, rfl⟩
      obtain ⟨G, hG⟩ : ∃ G, wr.heap.size = G := ⟨_, rfl⟩
      have hl6 := HLr.out.below ((Below.refl wr.heap.size wr).alloc (Nat.le_refl _) (.cells (madeCells #[.bool false] l.length) 4))
      have ho6 := own_made_of (enc := Value.bool) (d := false) wr w.heap.size 4 l.length HLr.out.low.size (by omega)
      have hgb : w.heap.size ≤ G := by rw [← hG]; exact HLr.out.low.size
      have hxg : w.heap.size ≠ G ∧ E ≠ G ∧ B ≠ G := by
        rw [← hG]
        exact HLr.out.lt3
      rw [hG] at ho6
      rw [hW6] at hl6 ho6
      rw [hG, hW6] at mk23
      have HL6 := Aside0.mk hl6
      have HO6 := Aside0.mk ho6
      have HT6 := Aside0.mk (fun j (hj : j ≤ l.length) => HT.out j (by omega) hj)
      clear hl6 ho6 HLr hG hW6 HT hk hge
      obtain ⟨q0, hq0⟩ : ∃ q, L first l s.f0 s.f7 l.length 0 = q := ⟨_, rfl⟩
      have hq1 : q0 ≤ l.length := by rw [← hq0]; exact (L_ge l.length 0 (Nat.le_refl _)).2
      obtain ⟨c0, f0⟩ := own_at HL6.out.best 0 (by omega) (by omega)
      rw [show Int.toNat 0 = 0 from rfl] at c0 f0
      have e0 : rd ns 0 = (q0 : Int) := by have := (HT6.out 0 (Nat.zero_le _)).2; rw [Nat.sub_zero, hq0] at this; exact this
      rw [e0] at c0
      have HQ0 : Aside0 (wayL (nxF first l s) l.length (l.length + 1) (q0 : Int) (List.replicate l.length false) = tk first l s.f0 s.f7 l.length 0) := ⟨by
        have h1 := wayL_eq HF.out (l.length + 1) 0 [] (by omega) (by omega) rfl
        rw [nxF_eq HF.out 0 (Nat.zero_le _)] at h1
        simpa [hq0] using h1⟩
      clear e0 hq0
      have hz1 : (0 : Int) < (l.length : Int) + 1 := by omega
      go_wp2
      clear c0 f0 mk23
      go_loopw [17] (fun v17 wr => ∃ (a d : Nat) (ws : List Bool), a ≤ l.length ∧ l.length + 1 ≤ a + d ∧ v17 = .int .i64 (a : Nat) ∧ Aside0 (wayL (nxF first l s) l.length d (a : Int) ws = tk first l s.f0 s.f7 l.length 0) ∧ Aside0 (ws.length = l.length) ∧ Aside0 (LongS w wr w.heap.size first A c l s E B rs ns) ∧ Aside0 (wr.ownsRow w.heap.size 4 1 (.slice (some ⟨G, 0, none⟩) l.length l.length) l.length (encs Value.bool ws))) (fun v17 _ => l.length - (intOf v17).toNat)
      case atStart => exact ⟨q0, l.length + 1, List.replicate l.length false, hq1, by omega, rfl, HQ0, ⟨by simp⟩, HL6, HO6⟩
      case round =>
        obtain ⟨a, d, ws, ha, had, rfl, HW8, HLEN, HL8, HO8⟩ := hrel
        clear HL6 HO6 HQ0
        by_cases hlt3 : a < l.length
        · have hlt4 : (a : Int) < (l.length : Int) := by omega
          have ha0 : 0 ≤ (a : Int) := by omega
          have ha2 : 0 ≤ (a : Int) + 1 := by omega
          have ha3 : (a : Int) + 1 < (l.length : Int) + 1 := by omega
          obtain ⟨d, rfl⟩ : ∃ d', d = d' + 1 := ⟨d - 1, by omega⟩
          have hs8 := HL8.out.setOther G a (.bool true) hxg hgb
          have ho8 := (own_store_of (enc := Value.bool) HO8.out (a : Int) true).1
          obtain ⟨c8, f8⟩ := own_at_of (d := false) HO8.out (a : Int) (by omega) hlt4
          rw [Int.toNat_natCast] at ho8 c8 f8
          obtain ⟨c9, f9⟩ := own_at hs8.best ((a : Int) + 1) ha2 ha3
          rw [show ((a : Int) + 1).toNat = a + 1 from by omega] at c9 f9
          obtain ⟨q, hq⟩ : ∃ q, L first l s.f0 s.f7 (l.length - (a + 1)) (a + 1) = q := ⟨_, rfl⟩
          have hq2 := L_ge (first := first) (l := l) (C := s.f0) (X := s.f7) (l.length - (a + 1)) (a + 1) (by omega)
          rw [hq] at hq2
          have e9 : rd ns ((a : Int) + 1) = (q : Int) := by have := (HT6.out (a + 1) (by omega)).2; rw [hq] at this; exact this
          rw [e9] at c9
          have HQ : Aside0 (wayL (nxF first l s) l.length d (q : Int) (ws.set a true) = tk first l s.f0 s.f7 l.length 0) := ⟨by
            rw [← HW8.out, wayL, if_pos hlt4, Int.toNat_natCast, nxF_eq HF.out (a + 1) (by omega), hq]⟩
          have HL9 := Aside0.mk hs8
          have HO9 := Aside0.mk ho8
          have hw1 : IntKind.i64.wrap ((a : Int) + 1) = (a : Int) + 1 := IntWalk.i64_in _ (by omega)
          clear hs8 ho8 e9 hq HW8 HL8 HO8
          go_wp2
          go_roundw
          case rel => exact ⟨q, d, ws.set a true, by omega, by omega, rfl, HQ, ⟨by rw [List.length_set, HLEN.out]⟩, HL9, HO9⟩
          case measure => simp [intOf] <;> omega
        · have hae : a = l.length := by omega
          subst hae
          have hwe : ws = tk first l s.f0 s.f7 l.length 0 := by
            rw [← HW8.out]
            obtain ⟨d, rfl⟩ : ∃ d', d = d' + 1 := ⟨d - 1, by omega⟩
            rw [wayL, if_neg (by omega)]
          obtain ⟨c8, f8⟩ := own_at HL8.out.ends 0 (by omega) (by omega)
          have e8 : rd rs 0 = V first l s.f0 s.f7 l.length 0 := by have := (HT6.out 0 (Nat.zero_le _)).1; rw [Nat.sub_zero] at this; exact this
          rw [e8] at c8
          have HWE := Aside0.mk hwe
          clear hwe e8 HW8
          rw [show Int.toNat 0 = 0 from rfl] at c8 f8
          go_wp2
          go_quiet (fail)
          go_wp2
          go_ret2
          have hbw : Below wr.heap.size wr (wr.drewN nq) := pw_below_drewN (Below.refl _ _) nq
          refine ⟨_, rfl, ?_, HL8.out.low.trans (hbw.mono HL8.out.low.size)⟩
          rw [← HWE.out]
          exact Kd.R_of_own (xs := ws) (by rw [HLEN.out]; exact pw_own_below HO8.out hbw) (fun _ _ => trivial)

/-- What ref.Long answers, of a line that may be had. -/
def regletref14_Long.f (k : Nat) (a0 : Int) (l1 : List (S48)) (a2_0 : Int) (a2_1 : Int) (a2_2 : Int) (a2_3 : Int) (a2_4 : Bool) (a2_5 : Bool) (a2_6 : Bool) (a2_7 : Int) (a2_8 : Int) (a2_9 : Int) (a2_10 : Int) (a2_11 : Int) (a2_12 : Int) (a2_13 : Int) (a2_14 : Int) (a2_15 : Int) (a2_16 : Int) (a2_17 : Int) : Option (List Bool × Int) :=
  if chk a0 l1 a2_0 a2_7 = 0 then some (tk a0 l1 a2_0 a2_7 l1.length 0, V a0 l1 a2_0 a2_7 l1.length 0) else none
theorem regletref14_Long.mono : ∀ a0 a1 a2 a3 a4 a5 a6 a7 a8 a9 a10 a11 a12 a13 a14 a15 a16 a17 a18 a19 k, LeO (regletref14_Long.f k a0 a1 a2 a3 a4 a5 a6 a7 a8 a9 a10 a11 a12 a13 a14 a15 a16 a17 a18 a19) (regletref14_Long.f (k + 1) a0 a1 a2 a3 a4 a5 a6 a7 a8 a9 a10 a11 a12 a13 a14 a15 a16 a17 a18 a19) :=
  fun _ _ _ _ _ _ _ _ _ _ _ _ _ _ _ _ _ _ _ _ _ => LeO.refl _
theorem regletref14_Long.calls (k : Nat) (a0 : Int) (A1 : Option Addr) (c1 : Nat) (l1 : List (S48)) (a2_0 : Int) (a2_1 : Int) (a2_2 : Int) (a2_3 : Int) (a2_4 : Bool) (a2_5 : Bool) (a2_6 : Bool) (a2_7 : Int) (a2_8 : Int) (a2_9 : Int) (a2_10 : Int) (a2_11 : Int) (a2_12 : Int) (a2_13 : Int) (a2_14 : Int) (a2_15 : Int) (a2_16 : Int) (a2_17 : Int) (r1 : List Bool) (r2 : Int) (w : World) (hr1 : Kd.C k48 w A1 l1.length l1) (hc1 : l1.length ≤ c1) (h : regletref14_Long.f k a0 l1 a2_0 a2_1 a2_2 a2_3 a2_4 a2_5 a2_6 a2_7 a2_8 a2_9 a2_10 a2_11 a2_12 a2_13 a2_14 a2_15 a2_16 a2_17 = some (r1, r2)) :
    Calls Try.prog 17 #[.int .i64 a0, .slice A1 l1.length c1, .agg #[.int .i64 a2_0, .int .i64 a2_1, .int .i64 a2_2, .int .i64 a2_3, .bool a2_4, .bool a2_5, .bool a2_6, .int .i64 a2_7, .int .i64 a2_8, .int .i64 a2_9, .int .i64 a2_10, .int .i64 a2_11, .int .i64 a2_12, .int .i64 a2_13, .int .i64 a2_14, .int .i64 a2_15, .int .i64 a2_16, .int .i64 a2_17]] w fun e w' => ∃ v0_ : Value, e = .returned (.tuple #[v0_, .int .i64 r2]) ∧ Kd.R Kd.bool 4 w' w.heap.size (fun _ => True) v0_ r1 ∧ Below w.heap.size w w' := by
  unfold regletref14_Long.f at h
  by_cases h0 : chk a0 l1 a2_0 a2_7 = 0
  · rw [if_pos h0] at h
    obtain ⟨rfl, rfl⟩ := Prod.mk.inj (Option.some.inj h)
    exact long_ok a0 A1 c1 l1 ⟨a2_0, a2_1, a2_2, a2_3, a2_4, a2_5, a2_6, a2_7, a2_8, a2_9, a2_10, a2_11, a2_12, a2_13, a2_14, a2_15, a2_16, a2_17⟩ w hr1 hc1 (chk_zero.1 h0)
  · rw [if_neg h0] at h
    cases h
end Go.Proofs.Ytmihiememhfmnaa.P
