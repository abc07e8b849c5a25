import Derived.Test.YtmihiememhfmnaaPx1
import Derived.Test.YtmihiememhfmnaaSty
import Derived.RangeFuncLeaves
import Derived.RangeFuncRecord
import Derived.BigQuiet
import Derived.OwnWalkIn
import Derived.TacticsInMore
import Derived.Shelf.RegionOpen
namespace Go.Proofs.Ytmihiememhfmnaa.P
open Go.RowKit Go.Sort Go.Shelf Go.Proofs.YtmihiememhfmnaaW.PrintWords Go.Proofs.YtmihiememhfmnaaW.PrintLast Go.Proofs.YtmihiememhfmnaaW.PrintMore
attribute [local go_sem] max2_int min2_int max_two min_two max_three min_three max_four min_four   -- for this text's walks alone
set_option linter.unusedVariables false
set_option linter.unusedSimpArgs false

theorem grownBy_grow9 (W : World) (os : Array Obj) : W.grownBy (grow W os) none := ⟨rfl, rfl, rfl, by simp, fun k hk _ => heap_grow_old W os hk⟩
/-! ### search_Cost: function 9 -/
mutual
def search_Cost.l0 : Nat → List Bool → Int → Int → List (S48) → Int → Int → Int → Int → Int → Int → Bool → Bool → Bool → Int → Int → Int → Int → Int → Int → Int → Int → Int → Int → Int → Option (Int × Int)
  | 0, _, _, _, _, _, _, _, _, _, _, _, _, _, _, _, _, _, _, _, _, _, _, _, _ => none
  | k + 1, x2, x11, x12, x28, x29, x30, x104000, x104001, x104002, x104003, x104004, x104005, x104006, x104007, x104008, x104009, x104010, x104011, x104012, x104013, x104014, x104015, x104016, x104017 => if x30 < x29 then (if 0 ≤ x30 then (if x30 < (x28.length : Int) then (if x30 < (x2.length : Int) then (if rdOf false x2 x30 = true then (if ((rd_T48 x28 x30).f3 = true) then (search_Cost.j1 k x2 x11 x12 x30 x28 x29 x30 false x104000 x104001 x104002 x104003 x104004 x104005 x104006 x104007 x104008 x104009 x104010 x104011 x104012 x104013 x104014 x104015 x104016 x104017 ((rd_T48 x28 x30).f0) ((rd_T48 x28 x30).f1) ((rd_T48 x28 x30).f2) ((rd_T48 x28 x30).f3) ((rd_T48 x28 x30).f4) ((rd_T48 x28 x30).f5)) else (search_Cost.j1 k x2 x11 x12 x30 x28 x29 x30 true x104000 x104001 x104002 x104003 x104004 x104005 x104006 x104007 x104008 x104009 x104010 x104011 x104012 x104013 x104014 x104015 x104016 x104017 ((rd_T48 x28 x30).f0) ((rd_T48 x28 x30).f1) ((rd_T48 x28 x30).f2) ((rd_T48 x28 x30).f3) ((rd_T48 x28 x30).f4) ((rd_T48 x28 x30).f5))) else (search_Cost.j1 k x2 x11 x12 x30 x28 x29 x30 ((rd_T48 x28 x30).f2) x104000 x104001 x104002 x104003 x104004 x104005 x104006 x104007 x104008 x104009 x104010 x104011 x104012 x104013 x104014 x104015 x104016 x104017 ((rd_T48 x28 x30).f0) ((rd_T48 x28 x30).f1) ((rd_T48 x28 x30).f2) ((rd_T48 x28 x30).f3) ((rd_T48 x28 x30).f4) ((rd_T48 x28 x30).f5))) else (none)) else (none)) else (none)) else ((search_over.f x11 x104000 x104001 x104002 x104003 x104004 x104005 x104006 x104007 x104008 x104009 x104010 x104011 x104012 x104013 x104014 x104015 x104016 x104017).bind fun t105 => (some (wrap64 (x12 + t105), 0)))
def search_Cost.j1 : Nat → List Bool → Int → Int → Int → List (S48) → Int → Int → Bool → Int → Int → Int → Int → Bool → Bool → Bool → Int → Int → Int → Int → Int → Int → Int → Int → Int → Int → Int → Int → Int → Bool → Bool → Int → Int → Option (Int × Int)
  | 0, _, _, _, _, _, _, _, _, _, _, _, _, _, _, _, _, _, _, _, _, _, _, _, _, _, _, _, _, _, _, _, _ => none
  | k + 1, x2, x11, x12, x13, x28, x29, x30, x42, x104000, x104001, x104002, x104003, x104004, x104005, x104006, x104007, x104008, x104009, x104010, x104011, x104012, x104013, x104014, x104015, x104016, x104017, x108000, x108001, x108002, x108003, x108004, x108005 => if x42 = true then (some (0, 2)) else (if 0 ≤ x13 then (if x13 < (x2.length : Int) then (if rdOf false x2 x13 = true then ((search_over.f x11 x104000 x104001 x104002 x104003 x104004 x104005 x104006 x104007 x104008 x104009 x104010 x104011 x104012 x104013 x104014 x104015 x104016 x104017).bind fun t112 => (search_Cost.l0 k x2 (wrap64 (x108005 + x108000)) (wrap64 (x12 + (wrap64 (t112 + x108004)))) x28 x29 (wrap64 (x30 + 1)) x104000 x104001 x104002 x104003 x104004 x104005 x104006 x104007 x104008 x104009 x104010 x104011 x104012 x104013 x104014 x104015 x104016 x104017)) else (search_Cost.l0 k x2 (wrap64 (x11 + (wrap64 (x108001 + x108000)))) x12 x28 x29 (wrap64 (x30 + 1)) x104000 x104001 x104002 x104003 x104004 x104005 x104006 x104007 x104008 x104009 x104010 x104011 x104012 x104013 x104014 x104015 x104016 x104017)) else (none)) else (none))
end
def search_Cost.f (k : Nat) (a0 : Int) (l1 : List (S48)) (l2 : List Bool) (a3_0 : Int) (a3_1 : Int) (a3_2 : Int) (a3_3 : Int) (a3_4 : Bool) (a3_5 : Bool) (a3_6 : Bool) (a3_7 : Int) (a3_8 : Int) (a3_9 : Int) (a3_10 : Int) (a3_11 : Int) (a3_12 : Int) (a3_13 : Int) (a3_14 : Int) (a3_15 : Int) (a3_16 : Int) (a3_17 : Int) : Option (Int × Int) := (search_check.f a0 l1 a3_0 a3_1 a3_2 a3_3 a3_4 a3_5 a3_6 a3_7 a3_8 a3_9 a3_10 a3_11 a3_12 a3_13 a3_14 a3_15 a3_16 a3_17).bind fun t104 => (if t104 = 0 then (if (l2.length : Int) = (l1.length : Int) then (search_Cost.l0 k l2 a0 0 l1 (l1.length : Int) 0 a3_0 a3_1 a3_2 a3_3 a3_4 a3_5 a3_6 a3_7 a3_8 a3_9 a3_10 a3_11 a3_12 a3_13 a3_14 a3_15 a3_16 a3_17) else (some (0, 2))) else (some (0, t104)))
theorem search_Cost.mono_l : ∀ k, (∀ y0 y1 y2 y3 y4 y5 y6 y7 y8 y9 y10 y11 y12 y13 y14 y15 y16 y17 y18 y19 y20 y21 y22 y23, LeO (search_Cost.l0 k y0 y1 y2 y3 y4 y5 y6 y7 y8 y9 y10 y11 y12 y13 y14 y15 y16 y17 y18 y19 y20 y21 y22 y23) (search_Cost.l0 (k + 1) y0 y1 y2 y3 y4 y5 y6 y7 y8 y9 y10 y11 y12 y13 y14 y15 y16 y17 y18 y19 y20 y21 y22 y23)) ∧ (∀ y0 y1 y2 y3 y4 y5 y6 y7 y8 y9 y10 y11 y12 y13 y14 y15 y16 y17 y18 y19 y20 y21 y22 y23 y24 y25 y26 y27 y28 y29 y30 y31, LeO (search_Cost.j1 k y0 y1 y2 y3 y4 y5 y6 y7 y8 y9 y10 y11 y12 y13 y14 y15 y16 y17 y18 y19 y20 y21 y22 y23 y24 y25 y26 y27 y28 y29 y30 y31) (search_Cost.j1 (k + 1) y0 y1 y2 y3 y4 y5 y6 y7 y8 y9 y10 y11 y12 y13 y14 y15 y16 y17 y18 y19 y20 y21 y22 y23 y24 y25 y26 y27 y28 y29 y30 y31))
  | 0 => ⟨fun _ _ _ _ _ _ _ _ _ _ _ _ _ _ _ _ _ _ _ _ _ _ _ _ r h => by simp [search_Cost.l0] at h, fun _ _ _ _ _ _ _ _ _ _ _ _ _ _ _ _ _ _ _ _ _ _ _ _ _ _ _ _ _ _ _ _ r h => by simp [search_Cost.j1] at h⟩
  | k + 1 => by
    obtain ⟨ih0, ih1⟩ := search_Cost.mono_l k
    refine ⟨?_, ?_⟩
    · intro y0 y1 y2 y3 y4 y5 y6 y7 y8 y9 y10 y11 y12 y13 y14 y15 y16 y17 y18 y19 y20 y21 y22 y23
      unfold search_Cost.l0
      repeat' first
      | (with_reducible exact ih0 _ _ _ _ _ _ _ _ _ _ _ _ _ _ _ _ _ _ _ _ _ _ _ _)
      | (with_reducible exact ih1 _ _ _ _ _ _ _ _ _ _ _ _ _ _ _ _ _ _ _ _ _ _ _ _ _ _ _ _ _ _ _ _)
      | (with_reducible exact LeO.refl _)
      | (with_reducible exact LeO.none _)
      | (with_reducible refine LeO.ite ?_ ?_)
      | (with_reducible refine LeO.bind ?_ (fun _ => ?_))
      | exact ih0 _ _ _ _ _ _ _ _ _ _ _ _ _ _ _ _ _ _ _ _ _ _ _ _
      | exact ih1 _ _ _ _ _ _ _ _ _ _ _ _ _ _ _ _ _ _ _ _ _ _ _ _ _ _ _ _ _ _ _ _
      | exact LeO.none _
      | refine LeO.ite ?_ ?_
      | refine LeO.bind ?_ (fun _ => ?_)
    · intro y0 y1 y2 y3 y4 y5 y6 y7 y8 y9 y10 y11 y12 y13 y14 y15 y16 y17 y18 y19 y20 y21 y22 y23 y24 y25 y26 y27 y28 y29 y30 y31
      unfold search_Cost.j1
      repeat' first
      | (with_reducible exact ih0 _ _ _ _ _ _ _ _ _ _ _ _ _ _ _ _ _ _ _ _ _ _ _ _)
      | (with_reducible exact ih1 _ _ _ _ _ _ _ _ _ _ _ _ _ _ _ _ _ _ _ _ _ _ _ _ _ _ _ _ _ _ _ _)
      | (with_reducible exact LeO.refl _)
      | (with_reducible exact LeO.none _)
      | (with_reducible refine LeO.ite ?_ ?_)
      | (with_reducible refine LeO.bind ?_ (fun _ => ?_))
      | exact ih0 _ _ _ _ _ _ _ _ _ _ _ _ _ _ _ _ _ _ _ _ _ _ _ _
      | exact ih1 _ _ _ _ _ _ _ _ _ _ _ _ _ _ _ _ _ _ _ _ _ _ _ _ _ _ _ _ _ _ _ _
      | exact LeO.none _
      | refine LeO.ite ?_ ?_
      | refine LeO.bind ?_ (fun _ => ?_)
theorem search_Cost.mono : ∀ a0 a1 a2 a3 a4 a5 a6 a7 a8 a9 a10 a11 a12 a13 a14 a15 a16 a17 a18 a19 a20 k, LeO (search_Cost.f k a0 a1 a2 a3 a4 a5 a6 a7 a8 a9 a10 a11 a12 a13 a14 a15 a16 a17 a18 a19 a20) (search_Cost.f (k + 1) a0 a1 a2 a3 a4 a5 a6 a7 a8 a9 a10 a11 a12 a13 a14 a15 a16 a17 a18 a19 a20) := by
  intro a0 a1 a2 a3 a4 a5 a6 a7 a8 a9 a10 a11 a12 a13 a14 a15 a16 a17 a18 a19 a20 k
  obtain ⟨ih0, ih1⟩ := search_Cost.mono_l k
  unfold search_Cost.f
  repeat' first
      | (with_reducible exact ih0 _ _ _ _ _ _ _ _ _ _ _ _ _ _ _ _ _ _ _ _ _ _ _ _)
      | (with_reducible exact ih1 _ _ _ _ _ _ _ _ _ _ _ _ _ _ _ _ _ _ _ _ _ _ _ _ _ _ _ _ _ _ _ _)
      | (with_reducible exact LeO.refl _)
      | (with_reducible exact LeO.none _)
      | (with_reducible refine LeO.ite ?_ ?_)
      | (with_reducible refine LeO.bind ?_ (fun _ => ?_))
      | exact ih0 _ _ _ _ _ _ _ _ _ _ _ _ _ _ _ _ _ _ _ _ _ _ _ _
      | exact ih1 _ _ _ _ _ _ _ _ _ _ _ _ _ _ _ _ _ _ _ _ _ _ _ _ _ _ _ _ _ _ _ _
      | exact LeO.none _
      | refine LeO.ite ?_ ?_
      | refine LeO.bind ?_ (fun _ => ?_)

set_option maxHeartbeats 2000000 in
set_option maxRecDepth 100000 in
theorem cost_any (k : Nat) (first : Int) (A : Option Addr) (c : Nat) (l : List S48) (A2 : Option Addr) (c2 : Nat) (ws : List Bool) (s : S25) (r1 r2 : Int) (w : World) (hr1 : Kd.C k48 w A l.length l) (hc1 : l.length ≤ c) (hr2 : Kd.C Kd.bool w A2 ws.length ws) (hc2 : ws.length ≤ c2)
    (h : search_Cost.f k first l ws s.f0 s.f1 s.f2 s.f3 s.f4 s.f5 s.f6 s.f7 s.f8 s.f9 s.f10 s.f11 s.f12 s.f13 s.f14 s.f15 s.f16 s.f17 = some (r1, r2)) :
    Calls Try.prog 9 #[.int .i64 first, .slice A l.length c, .slice A2 ws.length c2, .agg #[.int .i64 s.f0, .int .i64 s.f1, .int .i64 s.f2, .int .i64 s.f3, .bool s.f4, .bool s.f5, .bool s.f6, .int .i64 s.f7, .int .i64 s.f8, .int .i64 s.f9, .int .i64 s.f10, .int .i64 s.f11, .int .i64 s.f12, .int .i64 s.f13, .int .i64 s.f14, .int .i64 s.f15, .int .i64 s.f16, .int .i64 s.f17]] w fun e w' => e = .returned (.tuple #[.int .i64 r1, .int .i64 r2]) ∧ Below w.heap.size w w' := by
  have hm : l.length ≤ 9223372036854775807 := hr1.2.1
  have HR := Aside0.mk hr1
  have HW := Aside0.mk hr2
  clear hr1 hr2
  have HB1 : Aside0 (Below w.heap.size w (w.alloc (.cells #[.int .i64 s.f0, .int .i64 s.f1, .int .i64 s.f2, .int .i64 s.f3, .bool s.f4, .bool s.f5, .bool s.f6, .int .i64 s.f7, .int .i64 s.f8, .int .i64 s.f9, .int .i64 s.f10, .int .i64 s.f11, .int .i64 s.f12, .int .i64 s.f13, .int .i64 s.f14, .int .i64 s.f15, .int .i64 s.f16, .int .i64 s.f17] 25))) := ⟨(Below.refl _ _).alloc (Nat.le_refl _) _⟩
  have hst1 : (w.alloc (.cells #[.int .i64 s.f0, .int .i64 s.f1, .int .i64 s.f2, .int .i64 s.f3, .bool s.f4, .bool s.f5, .bool s.f6, .int .i64 s.f7, .int .i64 s.f8, .int .i64 s.f9, .int .i64 s.f10, .int .i64 s.f11, .int .i64 s.f12, .int .i64 s.f13, .int .i64 s.f14, .int .i64 s.f15, .int .i64 s.f16, .int .i64 s.f17] 25)).heap[w.heap.size]? = some (.cells (styL s).toArray 25 (0, 0)) := World.alloc_heap_new w _
  have HS1 : Aside0 (StyAt (w.alloc (.cells #[.int .i64 s.f0, .int .i64 s.f1, .int .i64 s.f2, .int .i64 s.f3, .bool s.f4, .bool s.f5, .bool s.f6, .int .i64 s.f7, .int .i64 s.f8, .int .i64 s.f9, .int .i64 s.f10, .int .i64 s.f11, .int .i64 s.f12, .int .i64 s.f13, .int .i64 s.f14, .int .i64 s.f15, .int .i64 s.f16, .int .i64 s.f17] 25)) w.heap.size 0 s) := ⟨fun j v hj => by rw [Nat.zero_add]; exact (blk_cell hst1 j).trans (by simpa using hj)⟩
  unfold search_Cost.f at h
  have h' := Option.bind_eq_some_iff.1 h
  clear h
  obtain ⟨x, hx, h⟩ := h'
  have HC1 := Aside0.mk (search_check.calls first A c l s.f0 s.f1 s.f2 s.f3 s.f4 s.f5 s.f6 s.f7 s.f8 s.f9 s.f10 s.f11 s.f12 s.f13 s.f14 s.f15 s.f16 s.f17 x (w.alloc (.cells #[.int .i64 s.f0, .int .i64 s.f1, .int .i64 s.f2, .int .i64 s.f3, .bool s.f4, .bool s.f5, .bool s.f6, .int .i64 s.f7, .int .i64 s.f8, .int .i64 s.f9, .int .i64 s.f10, .int .i64 s.f11, .int .i64 s.f12, .int .i64 s.f13, .int .i64 s.f14, .int .i64 s.f15, .int .i64 s.f16, .int .i64 s.f17] 25)) (Kd.C_below HR.out HB1.out) hc1 hx)
  have HST := Aside0.mk hst1
  clear hst1 hx
  by_cases hx0 : x = 0
  · subst hx0
    rw [if_pos rfl] at h
    by_cases hl : (ws.length : Int) = (l.length : Int)
    · rw [if_pos hl] at h
      have H := Aside0.mk h
      have HL := Aside0.mk hl
      have hb0 : ((ws.length : Int) != (l.length : Int)) = false := bne_eq_false_iff_eq.mpr hl
      clear h hl
      go_enter Try.func9, Try.ntmps9
      go_wp2_with (first | ((with_reducible refine list_style _ 0 HS1.out _ rfl ?hw ?hx ?_); (case hw => rfl); (case hx => rfl)) | (go_at_call 22; refine HC1.out.mono ?_; rintro e w2 ⟨rfl, hb2⟩; have HB2 := Aside0.mk hb2; clear hb2))
      have hsz : w.heap.size < (w.alloc (.cells #[.int .i64 s.f0, .int .i64 s.f1, .int .i64 s.f2, .int .i64 s.f3, .bool s.f4, .bool s.f5, .bool s.f6, .int .i64 s.f7, .int .i64 s.f8, .int .i64 s.f9, .int .i64 s.f10, .int .i64 s.f11, .int .i64 s.f12, .int .i64 s.f13, .int .i64 s.f14, .int .i64 s.f15, .int .i64 s.f16, .int .i64 s.f17] 25)).heap.size := by simp
      have HB : Aside0 (Below w.heap.size w w2) := ⟨HB1.out.trans (HB2.out.mono (Nat.le_of_lt hsz))⟩
      have HS2 : Aside0 (w2.heap[w.heap.size]? = some (.cells (styL s).toArray 25 (0, 0))) := ⟨(HB2.out.block _ hsz).trans HST.out⟩
      clear HB1 HB2 hsz HS1 HC1 HST
      go_loopw [11, 12, 30] (fun v11 v12 v30 wr => ∃ (i kq : Nat) (x11 x12 : Int), i ≤ l.length ∧ v11 = .int .i64 x11 ∧ v12 = .int .i64 x12 ∧ v30 = .int .i64 (i : Nat) ∧ Aside0 (search_Cost.l0 kq ws x11 x12 l (l.length : Int) (i : Nat) s.f0 s.f1 s.f2 s.f3 s.f4 s.f5 s.f6 s.f7 s.f8 s.f9 s.f10 s.f11 s.f12 s.f13 s.f14 s.f15 s.f16 s.f17 = some (r1, r2)) ∧ Aside0 (Below w.heap.size w wr) ∧ Aside0 (wr.heap[w.heap.size]? = some (.cells (styL s).toArray 25 (0, 0)))) (fun _ _ v30 _ => l.length - (intOf v30).toNat)
      case atStart => exact ⟨0, k, first, 0, Nat.zero_le _, rfl, rfl, rfl, H, HB, HS2⟩
      case round =>
        obtain ⟨i, kq, x11, x12, hi, rfl, rfl, rfl, H1, HB5, HS5⟩ := hrel
        clear HB HS2 H
        obtain ⟨kq, rfl⟩ : ∃ k', kq = k' + 1 := by
          cases kq with
          | zero => exact absurd H1.out (by simp [search_Cost.l0])
          | succ n => exact ⟨n, rfl⟩
        have h := H1.out
        clear H1
        rw [search_Cost.l0] at h
        by_cases hlt : i < l.length
        · have hlt2 : (i : Int) < (l.length : Int) := by omega
          have hlt3 : (i : Int) < (ws.length : Int) := by rw [HL.out]; exact hlt2
          have hi0 : (0 : Int) ≤ (i : Int) := by omega
          rw [if_pos hlt2, if_pos hi0, if_pos hlt2, if_pos hlt3] at h
          obtain ⟨kq, rfl⟩ : ∃ k', kq = k' + 1 := by
            cases kq with
            | zero => exact absurd h (by simp [search_Cost.j1])
            | succ n => exact ⟨n, rfl⟩
          rw [search_Cost.j1, search_Cost.j1, search_Cost.j1] at h
          simp only [if_pos hi0, if_pos hlt3, search_over.f, Option.bind_some] at h
          obtain ⟨ad, e1, g0, g1, g2, g3, g4, g5⟩ := at_T48 (Kd.C_below HR.out HB5.out) i hi0 hlt2
          cases e1
          obtain ⟨bd, e2, b0⟩ := Kd.at_bool (Kd.C_below HW.out HB5.out) i hi0 hlt3
          cases e2
          simp only [Int.toNat_natCast] at g0 g1 g2 g3 g4 g5 b0
          generalize rd_T48 l (i : Int) = g at *
          generalize rdOf false ws (i : Int) = b at *
          obtain ⟨p0, p1, p2, p3, p4, p5⟩ := g
          simp only at g0 g1 g2 g3 g4 g5 h
          have H2 := Aside0.mk h
          clear h
          have hw1 : IntKind.i64.wrap ((i : Int) + 1) = (i : Int) + 1 := IntWalk.i64_in _ (by omega)
          have hw2 : wrap64 ((i : Int) + 1) = ((i + 1 : Nat) : Int) := by rw [← i64_w, hw1]; omega
          have HW2 := Aside0.mk hw2
          clear hw2
          have hbw : Below wr.heap.size wr (wr.alloc (.cells #[.int .i64 p0, .int .i64 p1, .bool p2, .bool p3, .int .i64 p4, .int .i64 p5] 48)) := (Below.refl _ _).alloc (Nat.le_refl _) _
          have hbd := pw_cell_below hbw b0
          have HB6 : Aside0 (Below w.heap.size w (wr.alloc (.cells #[.int .i64 p0, .int .i64 p1, .bool p2, .bool p3, .int .i64 p4, .int .i64 p5] 48))) := ⟨HB5.out.trans (hbw.mono HB5.out.size)⟩
          have HS6 : Aside0 ((wr.alloc (.cells #[.int .i64 p0, .int .i64 p1, .bool p2, .bool p3, .int .i64 p4, .int .i64 p5] 48)).heap[w.heap.size]? = some (.cells (styL s).toArray 25 (0, 0))) := ⟨(hbw.block _ (Array.getElem?_eq_some_iff.1 HS5.out).1).trans HS5.out⟩
          clear hbw HB5 HS5 HR HW
          cases b with
          | true =>
            cases p3 with
            | false =>
              have h := H2.out
              simp only [if_true, Bool.false_eq_true, if_false, Option.some.injEq, Prod.mk.injEq] at h
              have hh : 0 = r1 ∧ 2 = r2 := by first | exact h | (split at h <;> first | exact h | (simp at h; exact h)) | simpa using h
              obtain ⟨rfl, rfl⟩ := hh
              clear H2 h
              go_wp2
              go_ret2
              exact ⟨rfl, HB6.out⟩
            | true =>
              have h := H2.out
              simp only [if_true, Bool.false_eq_true, if_false, HW2.out] at h
              have H3 := Aside0.mk h
              clear H2 h
              go_wp2
              obtain ⟨W5, hW5⟩ : ∃ W5, wr.alloc (.cells #[.int .i64 p0, .int .i64 p1, .bool p2, .bool true, .int .i64 p4, .int .i64 p5] 48) = W5 := ⟨_, rfl⟩
              obtain ⟨G, hG⟩ : ∃ G, wr.heap.size = G := ⟨_, rfl⟩
              have m0 : W5.cell? ⟨G, 0, none⟩ = some (.int .i64 p0) := by rw [← hW5, ← hG]; simp [go_sem]
              have m4 : W5.cell? ⟨G, 4, none⟩ = some (.int .i64 p4) := by rw [← hW5, ← hG]; simp [go_sem]
              have m5 : W5.cell? ⟨G, 5, none⟩ = some (.int .i64 p5) := by rw [← hW5, ← hG]; simp [go_sem]
              rw [hW5] at HB6 HS6 ⊢
              rw [hG]
              clear hW5 hG hbd b0 g0 g1 g2 g3 g4 g5
              have gr : ∀ {a : Addr} {v : Value}, W5.cell? a = some v → ∀ n os, (grow (W5.drewN n) os).cell? a = some v := fun h n os => cell_grown (World.block_lt_of_cell? _ _ h) h n os
              have y4 := gr m4
              have HST9 := Aside0.mk (show ∀ w', (∃ p : GrownBy, w' = grow (W5.drewN p.n) p.os) → StyAt w' w.heap.size 0 s from fun w' ⟨pp, e⟩ j v hj => by rw [e, Nat.zero_add]; exact gr ((blk_cell HS6.out j).trans (by simpa using hj)) _ _)
              clear gr
              refine wpIn_wide.1 (region_tail (m := 9) 8 (fun w' => ∃ p : GrownBy, w' = grow (W5.drewN p.n) p.os) (by as_aux_lemma => kernel_rfl) (by as_aux_lemma => kernel_rfl) ⟨⟨1, #[]⟩, by rw [grow_empty]; rfl⟩ ?_)
              simp only [List.take_succ_cons, List.take_zero, List.drop_succ_cons, List.drop_zero]
              repeat (first
                | ((with_reducible refine quiet_style w.heap.size 0 HST9.out _ rfl ?hw ?hx ?_); (case hw => rfl); (case hx => rfl))
                | go_big_quiet_step ((go_at_call 23; exact Calls.grown_of (over_any _ _ _ _ _ _ _ _ _ _ _ _ _ _ _ _ _ _ _ _)))
                | quiet_step ((go_at_call 23; exact Calls.grown_of (over_any _ _ _ _ _ _ _ _ _ _ _ _ _ _ _ _ _ _ _ _))))
              refine wpQuiet_nil ?_
              rintro w' ⟨⟨nq2, osq⟩, rfl⟩
              have HB9 : Aside0 (Below W5.heap.size W5 (grow (W5.drewN nq2) osq)) := ⟨(pw_below_drewN (Below.refl _ _) nq2).grown (grownBy_grow9 _ _) (by simp) (fun k e => by cases e)⟩
              generalize grow (W5.drewN nq2) osq = W9 at HB9 ⊢
              have n0 := pw_cell_below HB9.out m0
              have n5 := pw_cell_below HB9.out m5
              have HBW : Aside0 (Below w.heap.size w W9) := ⟨HB6.out.trans (HB9.out.mono HB6.out.size)⟩
              have HSW : Aside0 (W9.heap[w.heap.size]? = some (.cells (styL s).toArray 25 (0, 0))) := ⟨(HB9.out.block _ (Array.getElem?_eq_some_iff.1 HS6.out).1).trans HS6.out⟩
              clear m0 m4 m5 y4 HST9 HB6 HB9 HS6
              gi_wp2
              go_wp2
              go_roundw
              case rel => exact ⟨i + 1, kq, _, _, by omega, rfl, rfl, by go_num, H3, HBW, HSW⟩
              case measure => simp [intOf] <;> omega
          | false =>
            cases p2 with
            | true =>
              have h := H2.out
              simp only [if_true, Bool.false_eq_true, if_false, Option.some.injEq, Prod.mk.injEq] at h
              have hh : 0 = r1 ∧ 2 = r2 := by first | exact h | (split at h <;> first | exact h | (simp at h; exact h)) | simpa using h
              obtain ⟨rfl, rfl⟩ := hh
              clear H2 h
              go_wp2
              go_ret2
              exact ⟨rfl, HB6.out⟩
            | false =>
              have h := H2.out
              simp only [if_true, Bool.false_eq_true, if_false, HW2.out] at h
              have H3 := Aside0.mk h
              clear H2 h
              go_wp2
              go_roundw
              case rel => exact ⟨i + 1, kq, _, _, by omega, rfl, rfl, by go_num, H3, HB6, HS6⟩
              case measure => simp [intOf] <;> omega
        · have he : i = l.length := by omega
          rw [if_neg (by omega)] at h
          simp only [search_over.f, Option.bind_some, Option.some.injEq, Prod.mk.injEq] at h
          obtain ⟨rfl, rfl⟩ := h
          subst he
          have HS7 : Aside0 (StyAt wr w.heap.size 0 s) := ⟨fun j v hj => by rw [Nat.zero_add]; exact (blk_cell HS5.out j).trans (by simpa using hj)⟩
          clear HR HW HS5
          go_wp2_with (first | ((with_reducible refine list_style _ 0 HS7.out _ rfl ?hw ?hx ?_); (case hw => rfl); (case hx => rfl)) | (go_at_call 23; refine (over_any _ _ _ _ _ _ _ _ _ _ _ _ _ _ _ _ _ _ _ _).mono ?_; rintro e w9 ⟨rfl, nq2, osq, hw9⟩; have HW9 := Aside0.mk hw9; clear hw9))
          go_ret2
          have HB9 : Below wr.heap.size wr w9 := by rw [HW9.out]; exact (pw_below_drewN (Below.refl _ _) nq2).grown (grownBy_grow9 _ _) (by simp) (fun k e => by cases e)
          exact ⟨rfl, HB5.out.trans (HB9.mono HB5.out.size)⟩
    · rw [if_neg hl] at h
      simp only [Option.some.injEq, Prod.mk.injEq] at h
      obtain ⟨rfl, rfl⟩ := h
      have hb0 : ((ws.length : Int) != (l.length : Int)) = true := bne_iff_ne.mpr hl
      have HL := Aside0.mk hl
      clear hl
      go_enter Try.func9, Try.ntmps9
      go_wp2_with (first | ((with_reducible refine list_style _ 0 HS1.out _ rfl ?hw ?hx ?_); (case hw => rfl); (case hx => rfl)) | (go_at_call 22; refine HC1.out.mono ?_; rintro e w2 ⟨rfl, hb2⟩; have HB2 := Aside0.mk hb2; clear hb2))
      go_ret2
      exact ⟨rfl, HB1.out.trans (HB2.out.mono HB1.out.size)⟩
  · rw [if_neg hx0] at h
    simp only [Option.some.injEq, Prod.mk.injEq] at h
    obtain ⟨rfl, rfl⟩ := h
    have hx1 : (x == 0) = false := beq_eq_false_iff_ne.mpr hx0
    have hx2 : (x != 0) = true := bne_iff_ne.mpr hx0
    go_enter Try.func9, Try.ntmps9
    go_wp2_with (first | ((with_reducible refine list_style _ 0 HS1.out _ rfl ?hw ?hx ?_); (case hw => rfl); (case hx => rfl)) | (go_at_call 22; refine HC1.out.mono ?_; rintro e w2 ⟨rfl, hb2⟩; have HB2 := Aside0.mk hb2; clear hb2))
    go_ret2
    exact ⟨rfl, HB1.out.trans (HB2.out.mono HB1.out.size)⟩

theorem search_Cost.calls (k : Nat) (a0 : Int) (A1 : Option Addr) (c1 : Nat) (l1 : List (S48)) (A2 : Option Addr) (c2 : Nat) (l2 : List Bool) (a3_0 : Int) (a3_1 : Int) (a3_2 : Int) (a3_3 : Int) (a3_4 : Bool) (a3_5 : Bool) (a3_6 : Bool) (a3_7 : Int) (a3_8 : Int) (a3_9 : Int) (a3_10 : Int) (a3_11 : Int) (a3_12 : Int) (a3_13 : Int) (a3_14 : Int) (a3_15 : Int) (a3_16 : Int) (a3_17 : Int) (r1 : Int) (r2 : Int) (w : World) (hr1 : Kd.C k48 w A1 l1.length l1) (hc1 : l1.length ≤ c1) (hr2 : Kd.C Kd.bool w A2 l2.length l2) (hc2 : l2.length ≤ c2) (h : search_Cost.f k a0 l1 l2 a3_0 a3_1 a3_2 a3_3 a3_4 a3_5 a3_6 a3_7 a3_8 a3_9 a3_10 a3_11 a3_12 a3_13 a3_14 a3_15 a3_16 a3_17 = some (r1, r2)) :
    Calls Try.prog 9 #[.int .i64 a0, .slice A1 l1.length c1, .slice A2 l2.length c2, .agg #[.int .i64 a3_0, .int .i64 a3_1, .int .i64 a3_2, .int .i64 a3_3, .bool a3_4, .bool a3_5, .bool a3_6, .int .i64 a3_7, .int .i64 a3_8, .int .i64 a3_9, .int .i64 a3_10, .int .i64 a3_11, .int .i64 a3_12, .int .i64 a3_13, .int .i64 a3_14, .int .i64 a3_15, .int .i64 a3_16, .int .i64 a3_17]] w fun e w' => e = .returned (.tuple #[.int .i64 r1, .int .i64 r2]) ∧ Below w.heap.size w w' :=
  cost_any k a0 A1 c1 l1 A2 c2 l2 ⟨a3_0, a3_1, a3_2, a3_3, a3_4, a3_5, a3_6, a3_7, a3_8, a3_9, a3_10, a3_11, a3_12, a3_13, a3_14, a3_15, a3_16, a3_17⟩ r1 r2 w hr1 hc1 hr2 hc2 h
end Go.Proofs.Ytmihiememhfmnaa.P
