-- Laid by programs of this session (wip/search/mk.py, cutup.py) through the kit's printer.
import Derived.Test.YtmihiememhfmnaaPx1
import Derived.Test.YtmihiememhfmnaaF9
import Derived.Test.YtmihiememhfmnaaF14
import Derived.Test.YtmihiememhfmnaaF18
import Derived.Test.YtmihiememhfmnaaSty
namespace Go.Proofs.Ytmihiememhfmnaa.P
open Go.RowKit Go.Proofs.YtmihiememhfmnaaW.PrintWords Go.Proofs.YtmihiememhfmnaaW.PrintLast Go.Proofs.YtmihiememhfmnaaW.PrintMore
attribute [local go_sem] max2_int min2_int max_two min_two max_three min_three max_four min_four   -- for this text's walks alone
set_option linter.unusedVariables false
set_option linter.unusedSimpArgs false

/-! ### regletlaw14_SearchLeast: function 8 -/
mutual
def regletlaw14_SearchLeast.j0 : Nat → Int → List (S48) → Bool → Bool → List Bool → Int → Int → Int → Int → Bool → Bool → Bool → Int → Int → Int → Int → Int → Int → Int → Int → Int → Int → Int → Option (Bool)
  | 0, _, _, _, _, _, _, _, _, _, _, _, _, _, _, _, _, _, _, _, _, _, _, _ => none
  | k + 1, x0, x1, x7, x26, x575000, x575001, x575002, x575003, x575004, x575005, x575006, x575007, x575008, x575009, x575010, x575011, x575012, x575013, x575014, x575015, x575016, x575017, x575018 => if x26 = true then (some x7) else ((search_Best.f x0 x1 x575001 x575002 x575003 x575004 x575005 x575006 x575007 x575008 x575009 x575010 x575011 x575012 x575013 x575014 x575015 x575016 x575017 x575018).bind fun bt576 => (if bt576.2.2 = 0 then (regletlaw14_SearchLeast.l0 k x0 x1 x7 bt576.1 bt576.2.1 ([] : List Bool) 0 x575000 x575001 x575002 x575003 x575004 x575005 x575006 x575007 x575008 x575009 x575010 x575011 x575012 x575013 x575014 x575015 x575016 x575017 x575018) else (if x7 = true then (if (bt576.1.length : Int) = 0 then (some (bt576.2.1 == 0)) else (some false)) else (some false))))
def regletlaw14_SearchLeast.l0 : Nat → Int → List (S48) → Bool → List Bool → Int → List Bool → Int → List Bool → Int → Int → Int → Int → Bool → Bool → Bool → Int → Int → Int → Int → Int → Int → Int → Int → Int → Int → Int → Option (Bool)
  | 0, _, _, _, _, _, _, _, _, _, _, _, _, _, _, _, _, _, _, _, _, _, _, _, _, _, _ => none
  | k + 1, x0, x1, x7, x8, x9, x11, x12, x575000, x575001, x575002, x575003, x575004, x575005, x575006, x575007, x575008, x575009, x575010, x575011, x575012, x575013, x575014, x575015, x575016, x575017, x575018 => if x12 < (x1.length : Int) then (if 0 ≤ x12 then (if x12 < (x575000.length : Int) then (if rdOf false x575000 x12 = true then (if (rd_T48 x1 x12).f3 = true then (if x11.length < 140737488355328 then (regletlaw14_SearchLeast.l0 k x0 x1 x7 x8 x9 (x11 ++ [true]) (wrap64 (x12 + 1)) x575000 x575001 x575002 x575003 x575004 x575005 x575006 x575007 x575008 x575009 x575010 x575011 x575012 x575013 x575014 x575015 x575016 x575017 x575018) else (none)) else (if x11.length < 140737488355328 then (regletlaw14_SearchLeast.l0 k x0 x1 x7 x8 x9 (x11 ++ [(rd_T48 x1 x12).f2]) (wrap64 (x12 + 1)) x575000 x575001 x575002 x575003 x575004 x575005 x575006 x575007 x575008 x575009 x575010 x575011 x575012 x575013 x575014 x575015 x575016 x575017 x575018) else (none))) else (if x11.length < 140737488355328 then (regletlaw14_SearchLeast.l0 k x0 x1 x7 x8 x9 (x11 ++ [(rd_T48 x1 x12).f2]) (wrap64 (x12 + 1)) x575000 x575001 x575002 x575003 x575004 x575005 x575006 x575007 x575008 x575009 x575010 x575011 x575012 x575013 x575014 x575015 x575016 x575017 x575018) else (none))) else (if x11.length < 140737488355328 then (regletlaw14_SearchLeast.l0 k x0 x1 x7 x8 x9 (x11 ++ [(rd_T48 x1 x12).f2]) (wrap64 (x12 + 1)) x575000 x575001 x575002 x575003 x575004 x575005 x575006 x575007 x575008 x575009 x575010 x575011 x575012 x575013 x575014 x575015 x575016 x575017 x575018) else (none))) else (none)) else ((search_Cost.f k x0 x1 x11 x575001 x575002 x575003 x575004 x575005 x575006 x575007 x575008 x575009 x575010 x575011 x575012 x575013 x575014 x575015 x575016 x575017 x575018).bind fun bt596 => ((search_Cost.f k x0 x1 x8 x575001 x575002 x575003 x575004 x575005 x575006 x575007 x575008 x575009 x575010 x575011 x575012 x575013 x575014 x575015 x575016 x575017 x575018).bind fun bt598 => (if bt596.2 = 0 then (if bt598.2 = 0 then (if bt598.1 = x9 then (regletlaw14_SearchLeast.j2 k x1 x7 x8 x9 x11 bt596.1 (decide (bt596.1 < x9))) else (regletlaw14_SearchLeast.j2 k x1 x7 x8 x9 x11 bt596.1 true)) else (regletlaw14_SearchLeast.j2 k x1 x7 x8 x9 x11 bt596.1 true)) else (regletlaw14_SearchLeast.j2 k x1 x7 x8 x9 x11 bt596.1 true))))
def regletlaw14_SearchLeast.j2 : Nat → List (S48) → Bool → List Bool → Int → List Bool → Int → Bool → Option (Bool)
  | 0, _, _, _, _, _, _, _ => none
  | k + 1, x1, x7, x8, x9, x11, x14, x116 => if x116 = true then (some false) else (regletlaw14_SearchLeast.l1 k x1 x7 x8 x9 x11 x14 0)
def regletlaw14_SearchLeast.l1 : Nat → List (S48) → Bool → List Bool → Int → List Bool → Int → Int → Option (Bool)
  | 0, _, _, _, _, _, _, _ => none
  | k + 1, x1, x7, x8, x9, x11, x14, x18 => if x18 < (x1.length : Int) then (if 0 ≤ x18 then (if x18 < (x11.length : Int) then (if x18 < (x8.length : Int) then (if ((rdOf false x11 x18) != (rdOf false x8 x18)) = true then (if x7 = true then (if x14 > x9 then (some true) else (some (rdOf false x11 x18))) else (some false)) else (regletlaw14_SearchLeast.l1 k x1 x7 x8 x9 x11 x14 (wrap64 (x18 + 1)))) else (none)) else (none)) else (none)) else (if x7 = true then (some (x14 == x9)) else (some false))
end
def regletlaw14_SearchLeast.f (k : Nat) (a0 : Int) (l1 : List (S48)) (l2_0 : List Bool) (a2_1 : Int) (a2_2 : Int) (a2_3 : Int) (a2_4 : Int) (a2_5 : Bool) (a2_6 : Bool) (a2_7 : Bool) (a2_8 : Int) (a2_9 : Int) (a2_10 : Int) (a2_11 : Int) (a2_12 : Int) (a2_13 : Int) (a2_14 : Int) (a2_15 : Int) (a2_16 : Int) (a2_17 : Int) (a2_18 : Int) : Option (Bool) := (regletlaw14_alive.f k).bind fun t575 => (if (l1.length : Int) > 3000 then (regletlaw14_SearchLeast.j0 k a0 l1 t575 true l2_0 a2_1 a2_2 a2_3 a2_4 a2_5 a2_6 a2_7 a2_8 a2_9 a2_10 a2_11 a2_12 a2_13 a2_14 a2_15 a2_16 a2_17 a2_18) else (regletlaw14_SearchLeast.j0 k a0 l1 t575 (!t575) l2_0 a2_1 a2_2 a2_3 a2_4 a2_5 a2_6 a2_7 a2_8 a2_9 a2_10 a2_11 a2_12 a2_13 a2_14 a2_15 a2_16 a2_17 a2_18))
theorem regletlaw14_SearchLeast.mono_l : ∀ k, (∀ y0 y1 y2 y3 y4 y5 y6 y7 y8 y9 y10 y11 y12 y13 y14 y15 y16 y17 y18 y19 y20 y21 y22, LeO (regletlaw14_SearchLeast.j0 k y0 y1 y2 y3 y4 y5 y6 y7 y8 y9 y10 y11 y12 y13 y14 y15 y16 y17 y18 y19 y20 y21 y22) (regletlaw14_SearchLeast.j0 (k + 1) y0 y1 y2 y3 y4 y5 y6 y7 y8 y9 y10 y11 y12 y13 y14 y15 y16 y17 y18 y19 y20 y21 y22)) ∧ (∀ y0 y1 y2 y3 y4 y5 y6 y7 y8 y9 y10 y11 y12 y13 y14 y15 y16 y17 y18 y19 y20 y21 y22 y23 y24 y25, LeO (regletlaw14_SearchLeast.l0 k y0 y1 y2 y3 y4 y5 y6 y7 y8 y9 y10 y11 y12 y13 y14 y15 y16 y17 y18 y19 y20 y21 y22 y23 y24 y25) (regletlaw14_SearchLeast.l0 (k + 1) y0 y1 y2 y3 y4 y5 y6 y7 y8 y9 y10 y11 y12 y13 y14 y15 y16 y17 y18 y19 y20 y21 y22 y23 y24 y25)) ∧ (∀ y0 y1 y2 y3 y4 y5 y6, LeO (regletlaw14_SearchLeast.j2 k y0 y1 y2 y3 y4 y5 y6) (regletlaw14_SearchLeast.j2 (k + 1) y0 y1 y2 y3 y4 y5 y6)) ∧ (∀ y0 y1 y2 y3 y4 y5 y6, LeO (regletlaw14_SearchLeast.l1 k y0 y1 y2 y3 y4 y5 y6) (regletlaw14_SearchLeast.l1 (k + 1) y0 y1 y2 y3 y4 y5 y6))
  | 0 => ⟨fun _ _ _ _ _ _ _ _ _ _ _ _ _ _ _ _ _ _ _ _ _ _ _ r h => by simp [regletlaw14_SearchLeast.j0] at h, fun _ _ _ _ _ _ _ _ _ _ _ _ _ _ _ _ _ _ _ _ _ _ _ _ _ _ r h => by simp [regletlaw14_SearchLeast.l0] at h, fun _ _ _ _ _ _ _ r h => by simp [regletlaw14_SearchLeast.j2] at h, fun _ _ _ _ _ _ _ r h => by simp [regletlaw14_SearchLeast.l1] at h⟩
  | k + 1 => by
    obtain ⟨ih0, ih1, ih2, ih3⟩ := regletlaw14_SearchLeast.mono_l k
    refine ⟨?_, ?_, ?_, ?_⟩
    · intro y0 y1 y2 y3 y4 y5 y6 y7 y8 y9 y10 y11 y12 y13 y14 y15 y16 y17 y18 y19 y20 y21 y22
      unfold regletlaw14_SearchLeast.j0
      repeat' first
      | (with_reducible exact ih0 _ _ _ _ _ _ _ _ _ _ _ _ _ _ _ _ _ _ _ _ _ _ _)
      | (with_reducible exact ih1 _ _ _ _ _ _ _ _ _ _ _ _ _ _ _ _ _ _ _ _ _ _ _ _ _ _)
      | (with_reducible exact ih2 _ _ _ _ _ _ _)
      | (with_reducible exact ih3 _ _ _ _ _ _ _)
      | (with_reducible exact regletlaw14_alive.mono _)
      | (with_reducible exact search_Cost.mono _ _ _ _ _ _ _ _ _ _ _ _ _ _ _ _ _ _ _ _ _ _)
      | (with_reducible exact LeO.refl _)
      | (with_reducible exact LeO.none _)
      | (with_reducible refine LeO.ite ?_ ?_)
      | (with_reducible refine LeO.bind ?_ (fun _ => ?_))
      | exact ih0 _ _ _ _ _ _ _ _ _ _ _ _ _ _ _ _ _ _ _ _ _ _ _
      | exact ih1 _ _ _ _ _ _ _ _ _ _ _ _ _ _ _ _ _ _ _ _ _ _ _ _ _ _
      | exact ih2 _ _ _ _ _ _ _
      | exact ih3 _ _ _ _ _ _ _
      | exact regletlaw14_alive.mono _
      | exact search_Cost.mono _ _ _ _ _ _ _ _ _ _ _ _ _ _ _ _ _ _ _ _ _ _
      | exact LeO.none _
      | refine LeO.ite ?_ ?_
      | refine LeO.bind ?_ (fun _ => ?_)
    · intro y0 y1 y2 y3 y4 y5 y6 y7 y8 y9 y10 y11 y12 y13 y14 y15 y16 y17 y18 y19 y20 y21 y22 y23 y24 y25
      unfold regletlaw14_SearchLeast.l0
      repeat' first
      | (with_reducible exact ih0 _ _ _ _ _ _ _ _ _ _ _ _ _ _ _ _ _ _ _ _ _ _ _)
      | (with_reducible exact ih1 _ _ _ _ _ _ _ _ _ _ _ _ _ _ _ _ _ _ _ _ _ _ _ _ _ _)
      | (with_reducible exact ih2 _ _ _ _ _ _ _)
      | (with_reducible exact ih3 _ _ _ _ _ _ _)
      | (with_reducible exact regletlaw14_alive.mono _)
      | (with_reducible exact search_Cost.mono _ _ _ _ _ _ _ _ _ _ _ _ _ _ _ _ _ _ _ _ _ _)
      | (with_reducible exact LeO.refl _)
      | (with_reducible exact LeO.none _)
      | (with_reducible refine LeO.ite ?_ ?_)
      | (with_reducible refine LeO.bind ?_ (fun _ => ?_))
      | exact ih0 _ _ _ _ _ _ _ _ _ _ _ _ _ _ _ _ _ _ _ _ _ _ _
      | exact ih1 _ _ _ _ _ _ _ _ _ _ _ _ _ _ _ _ _ _ _ _ _ _ _ _ _ _
      | exact ih2 _ _ _ _ _ _ _
      | exact ih3 _ _ _ _ _ _ _
      | exact regletlaw14_alive.mono _
      | exact search_Cost.mono _ _ _ _ _ _ _ _ _ _ _ _ _ _ _ _ _ _ _ _ _ _
      | exact LeO.none _
      | refine LeO.ite ?_ ?_
      | refine LeO.bind ?_ (fun _ => ?_)
    · intro y0 y1 y2 y3 y4 y5 y6
      unfold regletlaw14_SearchLeast.j2
      repeat' first
      | (with_reducible exact ih0 _ _ _ _ _ _ _ _ _ _ _ _ _ _ _ _ _ _ _ _ _ _ _)
      | (with_reducible exact ih1 _ _ _ _ _ _ _ _ _ _ _ _ _ _ _ _ _ _ _ _ _ _ _ _ _ _)
      | (with_reducible exact ih2 _ _ _ _ _ _ _)
      | (with_reducible exact ih3 _ _ _ _ _ _ _)
      | (with_reducible exact regletlaw14_alive.mono _)
      | (with_reducible exact search_Cost.mono _ _ _ _ _ _ _ _ _ _ _ _ _ _ _ _ _ _ _ _ _ _)
      | (with_reducible exact LeO.refl _)
      | (with_reducible exact LeO.none _)
      | (with_reducible refine LeO.ite ?_ ?_)
      | (with_reducible refine LeO.bind ?_ (fun _ => ?_))
      | exact ih0 _ _ _ _ _ _ _ _ _ _ _ _ _ _ _ _ _ _ _ _ _ _ _
      | exact ih1 _ _ _ _ _ _ _ _ _ _ _ _ _ _ _ _ _ _ _ _ _ _ _ _ _ _
      | exact ih2 _ _ _ _ _ _ _
      | exact ih3 _ _ _ _ _ _ _
      | exact regletlaw14_alive.mono _
      | exact search_Cost.mono _ _ _ _ _ _ _ _ _ _ _ _ _ _ _ _ _ _ _ _ _ _
      | exact LeO.none _
      | refine LeO.ite ?_ ?_
      | refine LeO.bind ?_ (fun _ => ?_)
    · intro y0 y1 y2 y3 y4 y5 y6
      unfold regletlaw14_SearchLeast.l1
      repeat' first
      | (with_reducible exact ih0 _ _ _ _ _ _ _ _ _ _ _ _ _ _ _ _ _ _ _ _ _ _ _)
      | (with_reducible exact ih1 _ _ _ _ _ _ _ _ _ _ _ _ _ _ _ _ _ _ _ _ _ _ _ _ _ _)
      | (with_reducible exact ih2 _ _ _ _ _ _ _)
      | (with_reducible exact ih3 _ _ _ _ _ _ _)
      | (with_reducible exact regletlaw14_alive.mono _)
      | (with_reducible exact search_Cost.mono _ _ _ _ _ _ _ _ _ _ _ _ _ _ _ _ _ _ _ _ _ _)
      | (with_reducible exact LeO.refl _)
      | (with_reducible exact LeO.none _)
      | (with_reducible refine LeO.ite ?_ ?_)
      | (with_reducible refine LeO.bind ?_ (fun _ => ?_))
      | exact ih0 _ _ _ _ _ _ _ _ _ _ _ _ _ _ _ _ _ _ _ _ _ _ _
      | exact ih1 _ _ _ _ _ _ _ _ _ _ _ _ _ _ _ _ _ _ _ _ _ _ _ _ _ _
      | exact ih2 _ _ _ _ _ _ _
      | exact ih3 _ _ _ _ _ _ _
      | exact regletlaw14_alive.mono _
      | exact search_Cost.mono _ _ _ _ _ _ _ _ _ _ _ _ _ _ _ _ _ _ _ _ _ _
      | exact LeO.none _
      | refine LeO.ite ?_ ?_
      | refine LeO.bind ?_ (fun _ => ?_)
theorem regletlaw14_SearchLeast.mono : ∀ a0 a1 a2 a3 a4 a5 a6 a7 a8 a9 a10 a11 a12 a13 a14 a15 a16 a17 a18 a19 a20 k, LeO (regletlaw14_SearchLeast.f k a0 a1 a2 a3 a4 a5 a6 a7 a8 a9 a10 a11 a12 a13 a14 a15 a16 a17 a18 a19 a20) (regletlaw14_SearchLeast.f (k + 1) a0 a1 a2 a3 a4 a5 a6 a7 a8 a9 a10 a11 a12 a13 a14 a15 a16 a17 a18 a19 a20) := by
  intro a0 a1 a2 a3 a4 a5 a6 a7 a8 a9 a10 a11 a12 a13 a14 a15 a16 a17 a18 a19 a20 k
  obtain ⟨ih0, ih1, ih2, ih3⟩ := regletlaw14_SearchLeast.mono_l k
  unfold regletlaw14_SearchLeast.f
  repeat' first
      | (with_reducible exact ih0 _ _ _ _ _ _ _ _ _ _ _ _ _ _ _ _ _ _ _ _ _ _ _)
      | (with_reducible exact ih1 _ _ _ _ _ _ _ _ _ _ _ _ _ _ _ _ _ _ _ _ _ _ _ _ _ _)
      | (with_reducible exact ih2 _ _ _ _ _ _ _)
      | (with_reducible exact ih3 _ _ _ _ _ _ _)
      | (with_reducible exact regletlaw14_alive.mono _)
      | (with_reducible exact search_Cost.mono _ _ _ _ _ _ _ _ _ _ _ _ _ _ _ _ _ _ _ _ _ _)
      | (with_reducible exact LeO.refl _)
      | (with_reducible exact LeO.none _)
      | (with_reducible refine LeO.ite ?_ ?_)
      | (with_reducible refine LeO.bind ?_ (fun _ => ?_))
      | exact ih0 _ _ _ _ _ _ _ _ _ _ _ _ _ _ _ _ _ _ _ _ _ _ _
      | exact ih1 _ _ _ _ _ _ _ _ _ _ _ _ _ _ _ _ _ _ _ _ _ _ _ _ _ _
      | exact ih2 _ _ _ _ _ _ _
      | exact ih3 _ _ _ _ _ _ _
      | exact regletlaw14_alive.mono _
      | exact search_Cost.mono _ _ _ _ _ _ _ _ _ _ _ _ _ _ _ _ _ _ _ _ _ _
      | exact LeO.none _
      | refine LeO.ite ?_ ?_
      | refine LeO.bind ?_ (fun _ => ?_)
set_option maxHeartbeats 8000000 in
set_option maxRecDepth 100000 in
theorem regletlaw14_SearchLeast.calls (k : Nat) (a0 : Int) (A1 : Option Addr) (c1 : Nat) (l1 : List (S48)) (A2_0 : Option Addr) (c2_0 : Nat) (l2_0 : List Bool) (a2_1 : Int) (a2_2 : Int) (a2_3 : Int) (a2_4 : Int) (a2_5 : Bool) (a2_6 : Bool) (a2_7 : Bool) (a2_8 : Int) (a2_9 : Int) (a2_10 : Int) (a2_11 : Int) (a2_12 : Int) (a2_13 : Int) (a2_14 : Int) (a2_15 : Int) (a2_16 : Int) (a2_17 : Int) (a2_18 : Int) (r : Bool) (w : World) (hr1 : Kd.C k48 w A1 l1.length l1) (hc1 : l1.length ≤ c1) (hr2_0 : Kd.C Kd.bool w A2_0 l2_0.length l2_0) (hc2_0 : l2_0.length ≤ c2_0) (h : regletlaw14_SearchLeast.f k a0 l1 l2_0 a2_1 a2_2 a2_3 a2_4 a2_5 a2_6 a2_7 a2_8 a2_9 a2_10 a2_11 a2_12 a2_13 a2_14 a2_15 a2_16 a2_17 a2_18 = some r) :
    Calls Try.prog 8 #[.int .i64 a0, .slice A1 l1.length c1, .agg #[.slice A2_0 l2_0.length c2_0, .int .i64 a2_1, .int .i64 a2_2, .int .i64 a2_3, .int .i64 a2_4, .bool a2_5, .bool a2_6, .bool a2_7, .int .i64 a2_8, .int .i64 a2_9, .int .i64 a2_10, .int .i64 a2_11, .int .i64 a2_12, .int .i64 a2_13, .int .i64 a2_14, .int .i64 a2_15, .int .i64 a2_16, .int .i64 a2_17, .int .i64 a2_18]] w fun e w' => e = .returned (.bool r) ∧ Below w.heap.size w w' := by
  have hu27 := Try.underlying27
  have hu25 := Try.underlying25
  have HR1 := Aside0.mk hr1
  have HC1 := Aside0.mk hc1
  clear hr1 hc1
  have HR2_0 := Aside0.mk hr2_0
  have HC2_0 := Aside0.mk hc2_0
  clear hr2_0 hc2_0
  have HB := Aside0.mk (Below.refl w.heap.size w)
  have H : ((regletlaw14_alive.f k).bind fun t575 => (if (l1.length : Int) > 3000 then (regletlaw14_SearchLeast.j0 k a0 l1 t575 true l2_0 a2_1 a2_2 a2_3 a2_4 a2_5 a2_6 a2_7 a2_8 a2_9 a2_10 a2_11 a2_12 a2_13 a2_14 a2_15 a2_16 a2_17 a2_18) else (regletlaw14_SearchLeast.j0 k a0 l1 t575 (!t575) l2_0 a2_1 a2_2 a2_3 a2_4 a2_5 a2_6 a2_7 a2_8 a2_9 a2_10 a2_11 a2_12 a2_13 a2_14 a2_15 a2_16 a2_17 a2_18))) = some r := h
  clear h
  replace H := Option.bind_eq_some_iff.mp H
  obtain ⟨t575, A40, H⟩ := H
  replace H : (if (l1.length : Int) > 3000 then (regletlaw14_SearchLeast.j0 k a0 l1 t575 true l2_0 a2_1 a2_2 a2_3 a2_4 a2_5 a2_6 a2_7 a2_8 a2_9 a2_10 a2_11 a2_12 a2_13 a2_14 a2_15 a2_16 a2_17 a2_18) else (regletlaw14_SearchLeast.j0 k a0 l1 t575 (!t575) l2_0 a2_1 a2_2 a2_3 a2_4 a2_5 a2_6 a2_7 a2_8 a2_9 a2_10 a2_11 a2_12 a2_13 a2_14 a2_15 a2_16 a2_17 a2_18)) = some r := H
  have A4 := Aside0.mk A40
  clear A40
  have HC5 := Aside0.mk H
  clear H
  go_enter Try.func8, Try.ntmps8
  go_upto_region 2 with (first | ((with_reducible refine list_style (st := ⟨a2_1, a2_2, a2_3, a2_4, a2_5, a2_6, a2_7, a2_8, a2_9, a2_10, a2_11, a2_12, a2_13, a2_14, a2_15, a2_16, a2_17, a2_18⟩) gb574 1 ?hs _ rfl ?hw ?hx ?_); (case hw => rfl); (case hx => rfl); (case hs => exact sty_of_blk 1 (by (with_reducible repeat (first | refine blk_drewN ?_ _ | refine blk_drew ?_ | refine blk_alloc ?_ _)); exact BK574.out) rfl)) | ((with_reducible refine list_style (st := ⟨a2_1, a2_2, a2_3, a2_4, a2_5, a2_6, a2_7, a2_8, a2_9, a2_10, a2_11, a2_12, a2_13, a2_14, a2_15, a2_16, a2_17, a2_18⟩) gb574 1 ?hs _ rfl ?hw ?hx ?_); (case hw => rfl); (case hx => rfl); (case hs => exact sty_of_blk 1 (by (with_reducible repeat (first | refine blk_drewN ?_ _ | refine blk_drew ?_ | refine blk_alloc ?_ _)); exact BK574.out) rfl)) | ((with_reducible refine gate_dst (N := 5) rfl ?_); (try (refine gate_guard (by rfl) ?_; dsimp only)); refine box_event ?hg (N := 5) ?hd (cs := #[.slice A2_0 l2_0.length c2_0, .int .i64 a2_1, .int .i64 a2_2, .int .i64 a2_3, .int .i64 a2_4, .bool a2_5, .bool a2_6, .bool a2_7, .int .i64 a2_8, .int .i64 a2_9, .int .i64 a2_10, .int .i64 a2_11, .int .i64 a2_12, .int .i64 a2_13, .int .i64 a2_14, .int .i64 a2_15, .int .i64 a2_16, .int .i64 a2_17, .int .i64 a2_18]) (t := 27) ?hr ?_; (case hd => rfl); (case hg => rfl); (case hr => first | (go_simp; done) | (go_simp; rfl)); intro gb574 hg w6 hbox hb; have n0_ := Aside0.mk (below_step (by repeat (first | (with_reducible first | exact HB.out | apply below_alloc | apply pw_below_drewN | apply below_drew1) | exact HB.out)) hb); have n1_ := Aside0.mk (hbox); have n2_ := Aside0.mk ((by rw [hg]; exact (below_size (by repeat (first | (with_reducible first | exact HB.out | apply below_alloc | apply pw_below_drewN | apply below_drew1) | exact HB.out))) : w.heap.size ≤ gb574)); have n3_ := Aside0.mk ((by rw [hg]; exact (below_size (by repeat (first | (with_reducible first | exact HB.out | apply below_alloc | apply pw_below_drewN | apply below_drew1) | exact HB.out))) : w.heap.size ≤ gb574)); clear HB; have HB := n0_; have BK574 := n1_; have GW574 := n2_; have GE574 := n3_; clear n0_ n1_ n2_ n3_; clear hb hbox hg) | (go_at_call 18; (with_reducible refine (regletlaw14_alive.calls k  t575 _ A4.out).mono ?_); rintro e w7 ⟨rfl, hb⟩; have n0_ := Aside0.mk (blk_below (g := gb574) (o := .cells #[.slice A2_0 l2_0.length c2_0, .int .i64 a2_1, .int .i64 a2_2, .int .i64 a2_3, .int .i64 a2_4, .bool a2_5, .bool a2_6, .bool a2_7, .int .i64 a2_8, .int .i64 a2_9, .int .i64 a2_10, .int .i64 a2_11, .int .i64 a2_12, .int .i64 a2_13, .int .i64 a2_14, .int .i64 a2_15, .int .i64 a2_16, .int .i64 a2_17, .int .i64 a2_18] 27 (0, 0)) (by (with_reducible repeat (first | refine blk_drewN ?_ _ | refine blk_drew ?_ | refine blk_alloc ?_ _)); exact BK574.out) hb); have n1_ := Aside0.mk (below_step (by repeat (first | (with_reducible first | exact HB.out | apply below_alloc | apply pw_below_drewN | apply below_drew1 | refine below_set ?_ GE574.out) | exact HB.out)) hb); clear BK574; clear HB; have BK574 := n0_; have HB := n1_; clear n0_ n1_; (try clear hb); (try clear hb2); (try clear hk); (try clear hi)))
  repeat (go_quiet (first | ((with_reducible refine gate_dst (N := 5) rfl ?_); (try (refine gate_guard (by rfl) ?_; dsimp only)); refine box_event ?hg (N := 5) ?hd (cs := #[.slice A2_0 l2_0.length c2_0, .int .i64 a2_1, .int .i64 a2_2, .int .i64 a2_3, .int .i64 a2_4, .bool a2_5, .bool a2_6, .bool a2_7, .int .i64 a2_8, .int .i64 a2_9, .int .i64 a2_10, .int .i64 a2_11, .int .i64 a2_12, .int .i64 a2_13, .int .i64 a2_14, .int .i64 a2_15, .int .i64 a2_16, .int .i64 a2_17, .int .i64 a2_18]) (t := 27) ?hr ?_; (case hd => rfl); (case hg => rfl); (case hr => first | (go_simp; done) | (go_simp; rfl)); intro gb574 hg w6 hbox hb; have n0_ := Aside0.mk (below_step (by repeat (first | (with_reducible first | exact HB.out | apply below_alloc | apply pw_below_drewN | apply below_drew1) | exact HB.out)) hb); have n1_ := Aside0.mk (hbox); have n2_ := Aside0.mk ((by rw [hg]; exact (below_size (by repeat (first | (with_reducible first | exact HB.out | apply below_alloc | apply pw_below_drewN | apply below_drew1) | exact HB.out))) : w.heap.size ≤ gb574)); have n3_ := Aside0.mk ((by rw [hg]; exact (below_size (by repeat (first | (with_reducible first | exact HB.out | apply below_alloc | apply pw_below_drewN | apply below_drew1) | exact HB.out))) : w.heap.size ≤ gb574)); clear HB; have HB := n0_; have BK574 := n1_; have GW574 := n2_; have GE574 := n3_; clear n0_ n1_ n2_ n3_; clear hb hbox hg) | (go_at_call 18; (with_reducible refine (regletlaw14_alive.calls k  t575 _ A4.out).mono ?_); rintro e w7 ⟨rfl, hb⟩; have n0_ := Aside0.mk (blk_below (g := gb574) (o := .cells #[.slice A2_0 l2_0.length c2_0, .int .i64 a2_1, .int .i64 a2_2, .int .i64 a2_3, .int .i64 a2_4, .bool a2_5, .bool a2_6, .bool a2_7, .int .i64 a2_8, .int .i64 a2_9, .int .i64 a2_10, .int .i64 a2_11, .int .i64 a2_12, .int .i64 a2_13, .int .i64 a2_14, .int .i64 a2_15, .int .i64 a2_16, .int .i64 a2_17, .int .i64 a2_18] 27 (0, 0)) (by (with_reducible repeat (first | refine blk_drewN ?_ _ | refine blk_drew ?_ | refine blk_alloc ?_ _)); exact BK574.out) hb); have n1_ := Aside0.mk (below_step (by repeat (first | (with_reducible first | exact HB.out | apply below_alloc | apply pw_below_drewN | apply below_drew1 | refine below_set ?_ GE574.out) | exact HB.out)) hb); clear BK574; clear HB; have BK574 := n0_; have HB := n1_; clear n0_ n1_; (try clear hb); (try clear hb2); (try clear hk); (try clear hi))); go_upto_region 2 with (first | ((with_reducible refine list_style (st := ⟨a2_1, a2_2, a2_3, a2_4, a2_5, a2_6, a2_7, a2_8, a2_9, a2_10, a2_11, a2_12, a2_13, a2_14, a2_15, a2_16, a2_17, a2_18⟩) gb574 1 ?hs _ rfl ?hw ?hx ?_); (case hw => rfl); (case hx => rfl); (case hs => exact sty_of_blk 1 (by (with_reducible repeat (first | refine blk_drewN ?_ _ | refine blk_drew ?_ | refine blk_alloc ?_ _)); exact BK574.out) rfl)) | ((with_reducible refine list_style (st := ⟨a2_1, a2_2, a2_3, a2_4, a2_5, a2_6, a2_7, a2_8, a2_9, a2_10, a2_11, a2_12, a2_13, a2_14, a2_15, a2_16, a2_17, a2_18⟩) gb574 1 ?hs _ rfl ?hw ?hx ?_); (case hw => rfl); (case hx => rfl); (case hs => exact sty_of_blk 1 (by (with_reducible repeat (first | refine blk_drewN ?_ _ | refine blk_drew ?_ | refine blk_alloc ?_ _)); exact BK574.out) rfl)) | ((with_reducible refine gate_dst (N := 5) rfl ?_); (try (refine gate_guard (by rfl) ?_; dsimp only)); refine box_event ?hg (N := 5) ?hd (cs := #[.slice A2_0 l2_0.length c2_0, .int .i64 a2_1, .int .i64 a2_2, .int .i64 a2_3, .int .i64 a2_4, .bool a2_5, .bool a2_6, .bool a2_7, .int .i64 a2_8, .int .i64 a2_9, .int .i64 a2_10, .int .i64 a2_11, .int .i64 a2_12, .int .i64 a2_13, .int .i64 a2_14, .int .i64 a2_15, .int .i64 a2_16, .int .i64 a2_17, .int .i64 a2_18]) (t := 27) ?hr ?_; (case hd => rfl); (case hg => rfl); (case hr => first | (go_simp; done) | (go_simp; rfl)); intro gb574 hg w6 hbox hb; have n0_ := Aside0.mk (below_step (by repeat (first | (with_reducible first | exact HB.out | apply below_alloc | apply pw_below_drewN | apply below_drew1) | exact HB.out)) hb); have n1_ := Aside0.mk (hbox); have n2_ := Aside0.mk ((by rw [hg]; exact (below_size (by repeat (first | (with_reducible first | exact HB.out | apply below_alloc | apply pw_below_drewN | apply below_drew1) | exact HB.out))) : w.heap.size ≤ gb574)); have n3_ := Aside0.mk ((by rw [hg]; exact (below_size (by repeat (first | (with_reducible first | exact HB.out | apply below_alloc | apply pw_below_drewN | apply below_drew1) | exact HB.out))) : w.heap.size ≤ gb574)); clear HB; have HB := n0_; have BK574 := n1_; have GW574 := n2_; have GE574 := n3_; clear n0_ n1_ n2_ n3_; clear hb hbox hg) | (go_at_call 18; (with_reducible refine (regletlaw14_alive.calls k  t575 _ A4.out).mono ?_); rintro e w7 ⟨rfl, hb⟩; have n0_ := Aside0.mk (blk_below (g := gb574) (o := .cells #[.slice A2_0 l2_0.length c2_0, .int .i64 a2_1, .int .i64 a2_2, .int .i64 a2_3, .int .i64 a2_4, .bool a2_5, .bool a2_6, .bool a2_7, .int .i64 a2_8, .int .i64 a2_9, .int .i64 a2_10, .int .i64 a2_11, .int .i64 a2_12, .int .i64 a2_13, .int .i64 a2_14, .int .i64 a2_15, .int .i64 a2_16, .int .i64 a2_17, .int .i64 a2_18] 27 (0, 0)) (by (with_reducible repeat (first | refine blk_drewN ?_ _ | refine blk_drew ?_ | refine blk_alloc ?_ _)); exact BK574.out) hb); have n1_ := Aside0.mk (below_step (by repeat (first | (with_reducible first | exact HB.out | apply below_alloc | apply pw_below_drewN | apply below_drew1 | refine below_set ?_ GE574.out) | exact HB.out)) hb); clear BK574; clear HB; have BK574 := n0_; have HB := n1_; clear n0_ n1_; (try clear hb); (try clear hb2); (try clear hk); (try clear hi))))
  (try simp only [Act.put, List.setIfInBounds_toArray, List.set_cons_zero, List.set_cons_succ])
  go_cut [26] (fun v26 wc => ∃ (kq : Nat) (x26_4 : Bool), v26 = .bool x26_4 ∧ Aside0 (regletlaw14_SearchLeast.j0 kq a0 l1 t575 x26_4 l2_0 a2_1 a2_2 a2_3 a2_4 a2_5 a2_6 a2_7 a2_8 a2_9 a2_10 a2_11 a2_12 a2_13 a2_14 a2_15 a2_16 a2_17 a2_18 = some r) ∧ Aside0 (kq ≤ k) ∧ Aside0 (wc.heap[gb574]? = some (.cells #[(.slice A2_0 l2_0.length c2_0), .int .i64 a2_1, .int .i64 a2_2, .int .i64 a2_3, .int .i64 a2_4, .bool a2_5, .bool a2_6, .bool a2_7, .int .i64 a2_8, .int .i64 a2_9, .int .i64 a2_10, .int .i64 a2_11, .int .i64 a2_12, .int .i64 a2_13, .int .i64 a2_14, .int .i64 a2_15, .int .i64 a2_16, .int .i64 a2_17, .int .i64 a2_18] 27 (0, 0))) ∧ Aside0 (Below w.heap.size w wc))
  case first =>
    as_aux_lemma =>
    have H := HC5.out
    clear HC5
    by_cases c8 : (l1.length : Int) > 3000
    · as_aux_lemma =>
      rw [if_pos c8] at H
      have c8b0 : decide (3000 < (l1.length : Int)) = true := decide_eq_true c8
      have c8b1 : decide (3000 < l1.length) = true := decide_eq_true (by omega)
      clear c8
      (first | rw [c8b0] | (simp only [i64_w, i32_w]; rw [c8b0]) | skip)
      have H' := Aside0.mk H
      clear H
      go_wp2
      repeat (go_quiet (fail); try go_wp2)
      go_meet
      case rel => exact ⟨_, (true), (by first | rfl | (simp; done) | (simp [*]; done)), H', ⟨by first | omega | exact Nat.le_refl _⟩, ⟨by (with_reducible repeat (first | refine blk_drewN ?_ _ | refine blk_drew ?_ | refine blk_alloc ?_ _)); exact BK574.out⟩, ⟨by repeat (first | (with_reducible first | exact HB.out | apply below_alloc | apply pw_below_drewN | apply below_drew1 | refine below_set ?_ GE574.out) | exact HB.out)⟩⟩
    · as_aux_lemma =>
      rw [if_neg c8] at H
      have c8b0 : decide (3000 < (l1.length : Int)) = false := decide_eq_false c8
      have c8b1 : decide (3000 < l1.length) = false := decide_eq_false (by omega)
      clear c8
      (first | rw [c8b0] | (simp only [i64_w, i32_w]; rw [c8b0]) | skip)
      have H' := Aside0.mk H
      clear H
      go_wp2
      repeat (go_quiet (fail); try go_wp2)
      go_meet
      case rel => exact ⟨_, (!t575), (by first | rfl | (simp; done) | (simp [*]; done)), H', ⟨by first | omega | exact Nat.le_refl _⟩, ⟨by (with_reducible repeat (first | refine blk_drewN ?_ _ | refine blk_drew ?_ | refine blk_alloc ?_ _)); exact BK574.out⟩, ⟨by repeat (first | (with_reducible first | exact HB.out | apply below_alloc | apply pw_below_drewN | apply below_drew1 | refine below_set ?_ GE574.out) | exact HB.out)⟩⟩
  case rest =>
    as_aux_lemma =>
    clear HC5
    try clear c1
    try clear c2
    try clear p2
    try clear c8
    try clear c8b0
    try clear c8b1
    obtain ⟨kq, x26_4, rfl, HA, HJ4, BK574, HB⟩ := hcut
    cases kq with
    | zero => exact absurd HA.out (by simp [regletlaw14_SearchLeast.j0])
    | succ kj4 =>
      have H := HA.out
      clear HA
      simp only [regletlaw14_SearchLeast.j0] at H
      by_cases c9 : x26_4 = true
      · as_aux_lemma =>
        subst c9
        have H1 : (some t575) = some r := by rw [if_pos rfl] at H; exact H
        clear H
        have H := H1
        clear H1
        obtain rfl := Option.some.inj H
        go_wp2
        repeat (go_quiet (fail); try go_wp2)
        go_ret
        exact ⟨by first | rfl | (simp [errW_none, errW_some] <;> rfl) | (simp [*, errW_none, errW_some] <;> rfl), by repeat (first | (with_reducible first | exact HB.out | apply below_alloc | apply pw_below_drewN | apply below_drew1 | refine below_set ?_ GE574.out) | exact HB.out)⟩
      · as_aux_lemma =>
        replace c9 := Bool.eq_false_iff.mpr c9
        subst c9
        have H1 : ((search_Best.f a0 l1 a2_1 a2_2 a2_3 a2_4 a2_5 a2_6 a2_7 a2_8 a2_9 a2_10 a2_11 a2_12 a2_13 a2_14 a2_15 a2_16 a2_17 a2_18).bind fun bt576 => (if bt576.2.2 = 0 then (regletlaw14_SearchLeast.l0 kj4 a0 l1 t575 bt576.1 bt576.2.1 ([] : List Bool) 0 l2_0 a2_1 a2_2 a2_3 a2_4 a2_5 a2_6 a2_7 a2_8 a2_9 a2_10 a2_11 a2_12 a2_13 a2_14 a2_15 a2_16 a2_17 a2_18) else (if t575 = true then (if (bt576.1.length : Int) = 0 then (some (bt576.2.1 == 0)) else (some false)) else (some false)))) = some r := by rw [if_neg (show ¬ (false = true) by decide)] at H; exact H
        clear H
        have H := H1
        clear H1
        replace H := Option.bind_eq_some_iff.mp H
        obtain ⟨⟨t576, t579, t580⟩, A100, H⟩ := H
        replace H : (if t580 = 0 then (regletlaw14_SearchLeast.l0 kj4 a0 l1 t575 t576 t579 ([] : List Bool) 0 l2_0 a2_1 a2_2 a2_3 a2_4 a2_5 a2_6 a2_7 a2_8 a2_9 a2_10 a2_11 a2_12 a2_13 a2_14 a2_15 a2_16 a2_17 a2_18) else (if t575 = true then (if (t576.length : Int) = 0 then (some (t579 == 0)) else (some false)) else (some false))) = some r := H
        have A10 := Aside0.mk A100
        clear A100
        by_cases c11 : t580 = 0
        · as_aux_lemma =>
          rw [if_pos c11] at H
          have c11b0 : (t580 == 0) = true := beq_iff_eq.mpr c11
          have c11b1 : (t580 != 0) = false := bne_eq_false_iff_eq.mpr c11
          clear c11
          have H' := Aside0.mk H
          clear H
          have hcz12_0 : wc.cell? ⟨gb574, 0, none⟩ = some (.slice A2_0 l2_0.length c2_0) := (blk_cell BK574.out 0).trans rfl
          have hcz12_1 : wc.cell? ⟨gb574, 1, none⟩ = some (.int .i64 a2_1) := (blk_cell BK574.out 1).trans rfl
          have hcz12_2 : wc.cell? ⟨gb574, 2, none⟩ = some (.int .i64 a2_2) := (blk_cell BK574.out 2).trans rfl
          have hcz12_3 : wc.cell? ⟨gb574, 3, none⟩ = some (.int .i64 a2_3) := (blk_cell BK574.out 3).trans rfl
          have hcz12_4 : wc.cell? ⟨gb574, 4, none⟩ = some (.int .i64 a2_4) := (blk_cell BK574.out 4).trans rfl
          have hcz12_5 : wc.cell? ⟨gb574, 5, none⟩ = some (.bool a2_5) := (blk_cell BK574.out 5).trans rfl
          have hcz12_6 : wc.cell? ⟨gb574, 6, none⟩ = some (.bool a2_6) := (blk_cell BK574.out 6).trans rfl
          have hcz12_7 : wc.cell? ⟨gb574, 7, none⟩ = some (.bool a2_7) := (blk_cell BK574.out 7).trans rfl
          have hcz12_8 : wc.cell? ⟨gb574, 8, none⟩ = some (.int .i64 a2_8) := (blk_cell BK574.out 8).trans rfl
          have hcz12_9 : wc.cell? ⟨gb574, 9, none⟩ = some (.int .i64 a2_9) := (blk_cell BK574.out 9).trans rfl
          have hcz12_10 : wc.cell? ⟨gb574, 10, none⟩ = some (.int .i64 a2_10) := (blk_cell BK574.out 10).trans rfl
          have hcz12_11 : wc.cell? ⟨gb574, 11, none⟩ = some (.int .i64 a2_11) := (blk_cell BK574.out 11).trans rfl
          have hcz12_12 : wc.cell? ⟨gb574, 12, none⟩ = some (.int .i64 a2_12) := (blk_cell BK574.out 12).trans rfl
          have hcz12_13 : wc.cell? ⟨gb574, 13, none⟩ = some (.int .i64 a2_13) := (blk_cell BK574.out 13).trans rfl
          have hcz12_14 : wc.cell? ⟨gb574, 14, none⟩ = some (.int .i64 a2_14) := (blk_cell BK574.out 14).trans rfl
          have hcz12_15 : wc.cell? ⟨gb574, 15, none⟩ = some (.int .i64 a2_15) := (blk_cell BK574.out 15).trans rfl
          have hcz12_16 : wc.cell? ⟨gb574, 16, none⟩ = some (.int .i64 a2_16) := (blk_cell BK574.out 16).trans rfl
          have hcz12_17 : wc.cell? ⟨gb574, 17, none⟩ = some (.int .i64 a2_17) := (blk_cell BK574.out 17).trans rfl
          have hcz12_18 : wc.cell? ⟨gb574, 18, none⟩ = some (.int .i64 a2_18) := (blk_cell BK574.out 18).trans rfl
          have hfz12_0 := blk_frozen BK574.out 0
          have hfz12_1 := blk_frozen BK574.out 1
          have hfz12_2 := blk_frozen BK574.out 2
          have hfz12_3 := blk_frozen BK574.out 3
          have hfz12_4 := blk_frozen BK574.out 4
          have hfz12_5 := blk_frozen BK574.out 5
          have hfz12_6 := blk_frozen BK574.out 6
          have hfz12_7 := blk_frozen BK574.out 7
          have hfz12_8 := blk_frozen BK574.out 8
          have hfz12_9 := blk_frozen BK574.out 9
          have hfz12_10 := blk_frozen BK574.out 10
          have hfz12_11 := blk_frozen BK574.out 11
          have hfz12_12 := blk_frozen BK574.out 12
          have hfz12_13 := blk_frozen BK574.out 13
          have hfz12_14 := blk_frozen BK574.out 14
          have hfz12_15 := blk_frozen BK574.out 15
          have hfz12_16 := blk_frozen BK574.out 16
          have hfz12_17 := blk_frozen BK574.out 17
          have hfz12_18 := blk_frozen BK574.out 18
          go_wp2_with (first | ((with_reducible refine list_style (st := ⟨a2_1, a2_2, a2_3, a2_4, a2_5, a2_6, a2_7, a2_8, a2_9, a2_10, a2_11, a2_12, a2_13, a2_14, a2_15, a2_16, a2_17, a2_18⟩) gb574 1 ?hs _ rfl ?hw ?hx ?_); (case hw => rfl); (case hx => rfl); (case hs => exact sty_of_blk 1 (by (with_reducible repeat (first | refine blk_drewN ?_ _ | refine blk_drew ?_ | refine blk_alloc ?_ _)); exact BK574.out) rfl)) | ((with_reducible refine list_style (st := ⟨a2_1, a2_2, a2_3, a2_4, a2_5, a2_6, a2_7, a2_8, a2_9, a2_10, a2_11, a2_12, a2_13, a2_14, a2_15, a2_16, a2_17, a2_18⟩) gb574 1 ?hs _ rfl ?hw ?hx ?_); (case hw => rfl); (case hx => rfl); (case hs => exact sty_of_blk 1 (by (with_reducible repeat (first | refine blk_drewN ?_ _ | refine blk_drew ?_ | refine blk_alloc ?_ _)); exact BK574.out) rfl)) | (go_at_call 14; (with_reducible refine (search_Best.calls a0 _ _ l1 a2_1 a2_2 a2_3 a2_4 a2_5 a2_6 a2_7 a2_8 a2_9 a2_10 a2_11 a2_12 a2_13 a2_14 a2_15 a2_16 a2_17 a2_18 t576 t579 t580 _ ?side1 ?side2 A10.out).mono ?_); (case side1 => repeat (first | exact (Kd.C_below HR1.out HB.out) | (with_reducible refine Kd.C_alloc ?_ _) | (with_reducible refine Kd.C_drewN ?_ _) | (with_reducible refine Kd.C_drew ?_))); (case side2 => exact HC1.out); rintro e w13 ⟨v577, rfl, ho0, hb⟩; have n0_ := Aside0.mk (Kd.R_lower ho0 (below_size (by repeat (first | (with_reducible first | exact HB.out | apply below_alloc | apply pw_below_drewN | apply below_drew1 | refine below_set ?_ GE574.out) | exact HB.out)))); have n1_ := Aside0.mk (blk_below (g := gb574) (o := .cells #[.slice A2_0 l2_0.length c2_0, .int .i64 a2_1, .int .i64 a2_2, .int .i64 a2_3, .int .i64 a2_4, .bool a2_5, .bool a2_6, .bool a2_7, .int .i64 a2_8, .int .i64 a2_9, .int .i64 a2_10, .int .i64 a2_11, .int .i64 a2_12, .int .i64 a2_13, .int .i64 a2_14, .int .i64 a2_15, .int .i64 a2_16, .int .i64 a2_17, .int .i64 a2_18] 27 (0, 0)) (by (with_reducible repeat (first | refine blk_drewN ?_ _ | refine blk_drew ?_ | refine blk_alloc ?_ _)); exact BK574.out) hb); have n2_ := Aside0.mk (below_step (by repeat (first | (with_reducible first | exact HB.out | apply below_alloc | apply pw_below_drewN | apply below_drew1 | refine below_set ?_ GE574.out) | exact HB.out)) hb); clear BK574; clear HB; have HO578 := n0_; have BK574 := n1_; have HB := n2_; clear n0_ n1_ n2_; (try clear hb); (try clear hb2); (try clear hk); (try clear hi); (try clear ho0)))
          repeat (go_quiet (first | (go_at_call 14; (with_reducible refine (search_Best.calls a0 _ _ l1 a2_1 a2_2 a2_3 a2_4 a2_5 a2_6 a2_7 a2_8 a2_9 a2_10 a2_11 a2_12 a2_13 a2_14 a2_15 a2_16 a2_17 a2_18 t576 t579 t580 _ ?side1 ?side2 A10.out).mono ?_); (case side1 => repeat (first | exact (Kd.C_below HR1.out HB.out) | (with_reducible refine Kd.C_alloc ?_ _) | (with_reducible refine Kd.C_drewN ?_ _) | (with_reducible refine Kd.C_drew ?_))); (case side2 => exact HC1.out); rintro e w13 ⟨v577, rfl, ho0, hb⟩; have n0_ := Aside0.mk (Kd.R_lower ho0 (below_size (by repeat (first | (with_reducible first | exact HB.out | apply below_alloc | apply pw_below_drewN | apply below_drew1 | refine below_set ?_ GE574.out) | exact HB.out)))); have n1_ := Aside0.mk (blk_below (g := gb574) (o := .cells #[.slice A2_0 l2_0.length c2_0, .int .i64 a2_1, .int .i64 a2_2, .int .i64 a2_3, .int .i64 a2_4, .bool a2_5, .bool a2_6, .bool a2_7, .int .i64 a2_8, .int .i64 a2_9, .int .i64 a2_10, .int .i64 a2_11, .int .i64 a2_12, .int .i64 a2_13, .int .i64 a2_14, .int .i64 a2_15, .int .i64 a2_16, .int .i64 a2_17, .int .i64 a2_18] 27 (0, 0)) (by (with_reducible repeat (first | refine blk_drewN ?_ _ | refine blk_drew ?_ | refine blk_alloc ?_ _)); exact BK574.out) hb); have n2_ := Aside0.mk (below_step (by repeat (first | (with_reducible first | exact HB.out | apply below_alloc | apply pw_below_drewN | apply below_drew1 | refine below_set ?_ GE574.out) | exact HB.out)) hb); clear BK574; clear HB; have HO578 := n0_; have BK574 := n1_; have HB := n2_; clear n0_ n1_ n2_; (try clear hb); (try clear hb2); (try clear hk); (try clear hi); (try clear ho0))); try go_wp2_with (first | ((with_reducible refine list_style (st := ⟨a2_1, a2_2, a2_3, a2_4, a2_5, a2_6, a2_7, a2_8, a2_9, a2_10, a2_11, a2_12, a2_13, a2_14, a2_15, a2_16, a2_17, a2_18⟩) gb574 1 ?hs _ rfl ?hw ?hx ?_); (case hw => rfl); (case hx => rfl); (case hs => exact sty_of_blk 1 (by (with_reducible repeat (first | refine blk_drewN ?_ _ | refine blk_drew ?_ | refine blk_alloc ?_ _)); exact BK574.out) rfl)) | ((with_reducible refine list_style (st := ⟨a2_1, a2_2, a2_3, a2_4, a2_5, a2_6, a2_7, a2_8, a2_9, a2_10, a2_11, a2_12, a2_13, a2_14, a2_15, a2_16, a2_17, a2_18⟩) gb574 1 ?hs _ rfl ?hw ?hx ?_); (case hw => rfl); (case hx => rfl); (case hs => exact sty_of_blk 1 (by (with_reducible repeat (first | refine blk_drewN ?_ _ | refine blk_drew ?_ | refine blk_alloc ?_ _)); exact BK574.out) rfl)) | (go_at_call 14; (with_reducible refine (search_Best.calls a0 _ _ l1 a2_1 a2_2 a2_3 a2_4 a2_5 a2_6 a2_7 a2_8 a2_9 a2_10 a2_11 a2_12 a2_13 a2_14 a2_15 a2_16 a2_17 a2_18 t576 t579 t580 _ ?side1 ?side2 A10.out).mono ?_); (case side1 => repeat (first | exact (Kd.C_below HR1.out HB.out) | (with_reducible refine Kd.C_alloc ?_ _) | (with_reducible refine Kd.C_drewN ?_ _) | (with_reducible refine Kd.C_drew ?_))); (case side2 => exact HC1.out); rintro e w13 ⟨v577, rfl, ho0, hb⟩; have n0_ := Aside0.mk (Kd.R_lower ho0 (below_size (by repeat (first | (with_reducible first | exact HB.out | apply below_alloc | apply pw_below_drewN | apply below_drew1 | refine below_set ?_ GE574.out) | exact HB.out)))); have n1_ := Aside0.mk (blk_below (g := gb574) (o := .cells #[.slice A2_0 l2_0.length c2_0, .int .i64 a2_1, .int .i64 a2_2, .int .i64 a2_3, .int .i64 a2_4, .bool a2_5, .bool a2_6, .bool a2_7, .int .i64 a2_8, .int .i64 a2_9, .int .i64 a2_10, .int .i64 a2_11, .int .i64 a2_12, .int .i64 a2_13, .int .i64 a2_14, .int .i64 a2_15, .int .i64 a2_16, .int .i64 a2_17, .int .i64 a2_18] 27 (0, 0)) (by (with_reducible repeat (first | refine blk_drewN ?_ _ | refine blk_drew ?_ | refine blk_alloc ?_ _)); exact BK574.out) hb); have n2_ := Aside0.mk (below_step (by repeat (first | (with_reducible first | exact HB.out | apply below_alloc | apply pw_below_drewN | apply below_drew1 | refine below_set ?_ GE574.out) | exact HB.out)) hb); clear BK574; clear HB; have HO578 := n0_; have BK574 := n1_; have HB := n2_; clear n0_ n1_ n2_; (try clear hb); (try clear hb2); (try clear hk); (try clear hi); (try clear ho0))))
          go_loopg [11, 12] kj4 (fun kq v11 v12 w' => ∃ (x11_2 : List Bool) (x12_2 : Int), v12 = .int .i64 x12_2 ∧ Aside0 (regletlaw14_SearchLeast.l0 kq a0 l1 t575 t576 t579 x11_2 x12_2 l2_0 a2_1 a2_2 a2_3 a2_4 a2_5 a2_6 a2_7 a2_8 a2_9 a2_10 a2_11 a2_12 a2_13 a2_14 a2_15 a2_16 a2_17 a2_18 = some r) ∧ Aside0 (kq ≤ kj4) ∧ Aside0 (Kd.R Kd.bool 4 w' w.heap.size (fun k_ => some k_ ≠ (v11 : Value).ownBlock) v577 t576) ∧ Aside0 (Kd.R Kd.bool 4 w' w.heap.size (fun k_ => some k_ ≠ (v577 : Value).ownBlock) v11 x11_2) ∧ Aside0 (w'.heap[gb574]? = some (.cells #[(.slice A2_0 l2_0.length c2_0), .int .i64 a2_1, .int .i64 a2_2, .int .i64 a2_3, .int .i64 a2_4, .bool a2_5, .bool a2_6, .bool a2_7, .int .i64 a2_8, .int .i64 a2_9, .int .i64 a2_10, .int .i64 a2_11, .int .i64 a2_12, .int .i64 a2_13, .int .i64 a2_14, .int .i64 a2_15, .int .i64 a2_16, .int .i64 a2_17, .int .i64 a2_18] 27 (0, 0))) ∧ Aside0 (Below w.heap.size w w'))
          case atStart => exact ⟨(([] : List Bool)), (0), (by first | rfl | (simp; done) | (simp [*]; done)), H', ⟨Nat.le_refl _⟩, ⟨by (with_reducible repeat (first | apply Kd.R_alloc | apply Kd.R_drewN | apply Kd.R_drew)); exact Kd.R_mono HO578.out (fun _ hk => (by simp [Value.ownBlock]))⟩, ⟨by first | exact Kd.R_nil _ _ _ _ _ | exact Kd.N_nil _ _ _ _ _ | exact Kd.V_nil _ _ _ _ _ | exact Kd.Q_nil _ _ _ _ _ | exact Kd.S_nil _ _ _ _ _⟩, ⟨by (with_reducible repeat (first | refine blk_drewN ?_ _ | refine blk_drew ?_ | refine blk_alloc ?_ _)); exact BK574.out⟩, ⟨by repeat (first | (with_reducible first | exact HB.out | apply below_alloc | apply pw_below_drewN | apply below_drew1 | refine below_set ?_ GE574.out) | exact HB.out)⟩⟩
          case round =>
            as_aux_lemma =>
            clear H'
            try clear c1
            try clear c2
            try clear p2
            try clear c8
            try clear c8b0
            try clear c8b1
            try clear c9
            try clear c11
            try clear c11b0
            try clear c11b1
            try clear hcz12_0
            try clear hcz12_1
            try clear hcz12_10
            try clear hcz12_11
            try clear hcz12_12
            try clear hcz12_13
            try clear hcz12_14
            try clear hcz12_15
            try clear hcz12_16
            try clear hcz12_17
            try clear hcz12_18
            try clear hcz12_2
            try clear hcz12_3
            try clear hcz12_4
            try clear hcz12_5
            try clear hcz12_6
            try clear hcz12_7
            try clear hcz12_8
            try clear hcz12_9
            try clear hfz12_0
            try clear hfz12_1
            try clear hfz12_10
            try clear hfz12_11
            try clear hfz12_12
            try clear hfz12_13
            try clear hfz12_14
            try clear hfz12_15
            try clear hfz12_16
            try clear hfz12_17
            try clear hfz12_18
            try clear hfz12_2
            try clear hfz12_3
            try clear hfz12_4
            try clear hfz12_5
            try clear hfz12_6
            try clear hfz12_7
            try clear hfz12_8
            try clear hfz12_9
            try clear p2
            obtain ⟨x11_2, x12_2, rfl, HA, HK2, HO_8, HO_11, BK574, HB⟩ := hrel
            cases gk with
            | zero => exact absurd HA.out (by simp [regletlaw14_SearchLeast.l0])
            | succ k2 =>
              have H := HA.out
              clear HA
              simp only [regletlaw14_SearchLeast.l0] at H
              by_cases c14 : x12_2 < (l1.length : Int)
              · as_aux_lemma =>
                rw [if_pos c14] at H
                have c14b0 : decide (x12_2 < (l1.length : Int)) = true := decide_eq_true c14
                clear c14
                by_cases c15 : 0 ≤ x12_2
                · as_aux_lemma =>
                  rw [if_pos c15] at H
                  have c15b0 : decide (0 ≤ x12_2) = true := decide_eq_true c15
                  clear c15
                  by_cases c16 : x12_2 < (l2_0.length : Int)
                  · as_aux_lemma =>
                    rw [if_pos c16] at H
                    have c16b0 : decide (x12_2 < (l2_0.length : Int)) = true := decide_eq_true c16
                    clear c16
                    obtain ⟨bq17, hbq17⟩ : ∃ b_ : Bool, b_ = (rdOf false l2_0 x12_2) := ⟨_, rfl⟩
                    replace H : (if bq17 = true then (if (rd_T48 l1 x12_2).f3 = true then (if x11_2.length < 140737488355328 then (regletlaw14_SearchLeast.l0 k2 a0 l1 t575 t576 t579 (x11_2 ++ [true]) (wrap64 (x12_2 + 1)) l2_0 a2_1 a2_2 a2_3 a2_4 a2_5 a2_6 a2_7 a2_8 a2_9 a2_10 a2_11 a2_12 a2_13 a2_14 a2_15 a2_16 a2_17 a2_18) else (none)) else (if x11_2.length < 140737488355328 then (regletlaw14_SearchLeast.l0 k2 a0 l1 t575 t576 t579 (x11_2 ++ [(rd_T48 l1 x12_2).f2]) (wrap64 (x12_2 + 1)) l2_0 a2_1 a2_2 a2_3 a2_4 a2_5 a2_6 a2_7 a2_8 a2_9 a2_10 a2_11 a2_12 a2_13 a2_14 a2_15 a2_16 a2_17 a2_18) else (none))) else (if x11_2.length < 140737488355328 then (regletlaw14_SearchLeast.l0 k2 a0 l1 t575 t576 t579 (x11_2 ++ [(rd_T48 l1 x12_2).f2]) (wrap64 (x12_2 + 1)) l2_0 a2_1 a2_2 a2_3 a2_4 a2_5 a2_6 a2_7 a2_8 a2_9 a2_10 a2_11 a2_12 a2_13 a2_14 a2_15 a2_16 a2_17 a2_18) else (none))) = some r := by rw [← hbq17] at H; exact H
                    have Nbq17 := Aside0.mk hbq17
                    clear hbq17
                    by_cases c18 : bq17 = true
                    · as_aux_lemma =>
                      subst c18
                      have H1 : (if (rd_T48 l1 x12_2).f3 = true then (if x11_2.length < 140737488355328 then (regletlaw14_SearchLeast.l0 k2 a0 l1 t575 t576 t579 (x11_2 ++ [true]) (wrap64 (x12_2 + 1)) l2_0 a2_1 a2_2 a2_3 a2_4 a2_5 a2_6 a2_7 a2_8 a2_9 a2_10 a2_11 a2_12 a2_13 a2_14 a2_15 a2_16 a2_17 a2_18) else (none)) else (if x11_2.length < 140737488355328 then (regletlaw14_SearchLeast.l0 k2 a0 l1 t575 t576 t579 (x11_2 ++ [(rd_T48 l1 x12_2).f2]) (wrap64 (x12_2 + 1)) l2_0 a2_1 a2_2 a2_3 a2_4 a2_5 a2_6 a2_7 a2_8 a2_9 a2_10 a2_11 a2_12 a2_13 a2_14 a2_15 a2_16 a2_17 a2_18) else (none))) = some r := by rw [if_pos rfl] at H; exact H
                      clear H
                      have H := H1
                      clear H1
                      obtain ⟨bq19, hbq19⟩ : ∃ b_ : Bool, b_ = ((rd_T48 l1 x12_2).f3) := ⟨_, rfl⟩
                      replace H : (if bq19 = true then (if x11_2.length < 140737488355328 then (regletlaw14_SearchLeast.l0 k2 a0 l1 t575 t576 t579 (x11_2 ++ [true]) (wrap64 (x12_2 + 1)) l2_0 a2_1 a2_2 a2_3 a2_4 a2_5 a2_6 a2_7 a2_8 a2_9 a2_10 a2_11 a2_12 a2_13 a2_14 a2_15 a2_16 a2_17 a2_18) else (none)) else (if x11_2.length < 140737488355328 then (regletlaw14_SearchLeast.l0 k2 a0 l1 t575 t576 t579 (x11_2 ++ [(rd_T48 l1 x12_2).f2]) (wrap64 (x12_2 + 1)) l2_0 a2_1 a2_2 a2_3 a2_4 a2_5 a2_6 a2_7 a2_8 a2_9 a2_10 a2_11 a2_12 a2_13 a2_14 a2_15 a2_16 a2_17 a2_18) else (none))) = some r := by rw [← hbq19] at H; exact H
                      have Nbq19 := Aside0.mk hbq19
                      clear hbq19
                      by_cases c20 : bq19 = true
                      · as_aux_lemma =>
                        subst c20
                        have H1 : (if x11_2.length < 140737488355328 then (regletlaw14_SearchLeast.l0 k2 a0 l1 t575 t576 t579 (x11_2 ++ [true]) (wrap64 (x12_2 + 1)) l2_0 a2_1 a2_2 a2_3 a2_4 a2_5 a2_6 a2_7 a2_8 a2_9 a2_10 a2_11 a2_12 a2_13 a2_14 a2_15 a2_16 a2_17 a2_18) else (none)) = some r := by rw [if_pos rfl] at H; exact H
                        clear H
                        have H := H1
                        clear H1
                        by_cases c21 : x11_2.length < 140737488355328
                        · as_aux_lemma =>
                          rw [if_pos c21] at H
                          have LMc21 := Aside0.mk c21
                          clear c21
                          obtain ⟨y584, hy584⟩ : ∃ y_ : List Bool, y_ = (x11_2 ++ [true]) := ⟨_, rfl⟩
                          replace H : (regletlaw14_SearchLeast.l0 k2 a0 l1 t575 t576 t579 y584 (wrap64 (x12_2 + 1)) l2_0 a2_1 a2_2 a2_3 a2_4 a2_5 a2_6 a2_7 a2_8 a2_9 a2_10 a2_11 a2_12 a2_13 a2_14 a2_15 a2_16 a2_17 a2_18) = some r := by first | (rw [hy584]; with_reducible exact H) | (have H2_ := (Option.bind_some _ _).symm.trans H; rw [hy584]; with_reducible exact H2_) | (have H2_ := (Option.bind_some _ _).symm.trans H; with_reducible exact H2_) | with_reducible exact H | (rw [hy584]; exact H) | exact H
                          have Ny584 := Aside0.mk hy584
                          clear hy584
                          have H' := Aside0.mk H
                          clear H
                          have p581 : 0 ≤ (x12_2 : Int) := of_decide_eq_true (by first | (with_reducible assumption) | assumption)
                          have q581 : x12_2 < (l1.length : Int) := of_decide_eq_true (by first | (with_reducible assumption) | assumption)
                          obtain ⟨ad581, e581, hx581_0, hx581_1, hx581_2, hx581_3, hx581_4, hx581_5⟩ := at_T48 HR1.out x12_2 p581 q581
                          (try rw [← Nbq17.out] at hx581_2)
                          (try rw [← Nbq19.out] at hx581_2)
                          (try rw [← Nbq17.out] at hx581_3)
                          (try rw [← Nbq19.out] at hx581_3)
                          cases e581
                          replace hx581_0 := (HB.out.cell (World.block_lt_of_cell? w _ hx581_0)).trans hx581_0
                          replace hx581_1 := (HB.out.cell (World.block_lt_of_cell? w _ hx581_1)).trans hx581_1
                          replace hx581_2 := (HB.out.cell (World.block_lt_of_cell? w _ hx581_2)).trans hx581_2
                          replace hx581_3 := (HB.out.cell (World.block_lt_of_cell? w _ hx581_3)).trans hx581_3
                          replace hx581_4 := (HB.out.cell (World.block_lt_of_cell? w _ hx581_4)).trans hx581_4
                          replace hx581_5 := (HB.out.cell (World.block_lt_of_cell? w _ hx581_5)).trans hx581_5
                          replace p581 := eq_true p581
                          replace q581 := eq_true q581
                          have hcz22_0 : wr.cell? ⟨gb574, 0, none⟩ = some (.slice A2_0 l2_0.length c2_0) := (blk_cell BK574.out 0).trans rfl
                          have hcz22_1 : wr.cell? ⟨gb574, 1, none⟩ = some (.int .i64 a2_1) := (blk_cell BK574.out 1).trans rfl
                          have hcz22_2 : wr.cell? ⟨gb574, 2, none⟩ = some (.int .i64 a2_2) := (blk_cell BK574.out 2).trans rfl
                          have hcz22_3 : wr.cell? ⟨gb574, 3, none⟩ = some (.int .i64 a2_3) := (blk_cell BK574.out 3).trans rfl
                          have hcz22_4 : wr.cell? ⟨gb574, 4, none⟩ = some (.int .i64 a2_4) := (blk_cell BK574.out 4).trans rfl
                          have hcz22_5 : wr.cell? ⟨gb574, 5, none⟩ = some (.bool a2_5) := (blk_cell BK574.out 5).trans rfl
                          have hcz22_6 : wr.cell? ⟨gb574, 6, none⟩ = some (.bool a2_6) := (blk_cell BK574.out 6).trans rfl
                          have hcz22_7 : wr.cell? ⟨gb574, 7, none⟩ = some (.bool a2_7) := (blk_cell BK574.out 7).trans rfl
                          have hcz22_8 : wr.cell? ⟨gb574, 8, none⟩ = some (.int .i64 a2_8) := (blk_cell BK574.out 8).trans rfl
                          have hcz22_9 : wr.cell? ⟨gb574, 9, none⟩ = some (.int .i64 a2_9) := (blk_cell BK574.out 9).trans rfl
                          have hcz22_10 : wr.cell? ⟨gb574, 10, none⟩ = some (.int .i64 a2_10) := (blk_cell BK574.out 10).trans rfl
                          have hcz22_11 : wr.cell? ⟨gb574, 11, none⟩ = some (.int .i64 a2_11) := (blk_cell BK574.out 11).trans rfl
                          have hcz22_12 : wr.cell? ⟨gb574, 12, none⟩ = some (.int .i64 a2_12) := (blk_cell BK574.out 12).trans rfl
                          have hcz22_13 : wr.cell? ⟨gb574, 13, none⟩ = some (.int .i64 a2_13) := (blk_cell BK574.out 13).trans rfl
                          have hcz22_14 : wr.cell? ⟨gb574, 14, none⟩ = some (.int .i64 a2_14) := (blk_cell BK574.out 14).trans rfl
                          have hcz22_15 : wr.cell? ⟨gb574, 15, none⟩ = some (.int .i64 a2_15) := (blk_cell BK574.out 15).trans rfl
                          have hcz22_16 : wr.cell? ⟨gb574, 16, none⟩ = some (.int .i64 a2_16) := (blk_cell BK574.out 16).trans rfl
                          have hcz22_17 : wr.cell? ⟨gb574, 17, none⟩ = some (.int .i64 a2_17) := (blk_cell BK574.out 17).trans rfl
                          have hcz22_18 : wr.cell? ⟨gb574, 18, none⟩ = some (.int .i64 a2_18) := (blk_cell BK574.out 18).trans rfl
                          have hfz22_0 := blk_frozen BK574.out 0
                          have hfz22_1 := blk_frozen BK574.out 1
                          have hfz22_2 := blk_frozen BK574.out 2
                          have hfz22_3 := blk_frozen BK574.out 3
                          have hfz22_4 := blk_frozen BK574.out 4
                          have hfz22_5 := blk_frozen BK574.out 5
                          have hfz22_6 := blk_frozen BK574.out 6
                          have hfz22_7 := blk_frozen BK574.out 7
                          have hfz22_8 := blk_frozen BK574.out 8
                          have hfz22_9 := blk_frozen BK574.out 9
                          have hfz22_10 := blk_frozen BK574.out 10
                          have hfz22_11 := blk_frozen BK574.out 11
                          have hfz22_12 := blk_frozen BK574.out 12
                          have hfz22_13 := blk_frozen BK574.out 13
                          have hfz22_14 := blk_frozen BK574.out 14
                          have hfz22_15 := blk_frozen BK574.out 15
                          have hfz22_16 := blk_frozen BK574.out 16
                          have hfz22_17 := blk_frozen BK574.out 17
                          have hfz22_18 := blk_frozen BK574.out 18
                          have p582 : 0 ≤ (x12_2 : Int) := of_decide_eq_true (by first | (with_reducible assumption) | assumption)
                          have q582 : x12_2 < (l2_0.length : Int) := of_decide_eq_true (by first | (with_reducible assumption) | assumption)
                          obtain ⟨ad582, e582, hx582_0⟩ := Kd.at_bool HR2_0.out x12_2 p582 q582
                          (try rw [← Nbq17.out] at hx582_0)
                          (try rw [← Nbq19.out] at hx582_0)
                          cases e582
                          replace hx582_0 := (HB.out.cell (World.block_lt_of_cell? w _ hx582_0)).trans hx582_0
                          replace p582 := eq_true p582
                          replace q582 := eq_true q582
                          have p583 : 0 ≤ (x12_2 : Int) := of_decide_eq_true (by first | (with_reducible assumption) | assumption)
                          have q583 : x12_2 < (l1.length : Int) := of_decide_eq_true (by first | (with_reducible assumption) | assumption)
                          obtain ⟨ad583, e583, hx583_0, hx583_1, hx583_2, hx583_3, hx583_4, hx583_5⟩ := at_T48 HR1.out x12_2 p583 q583
                          (try rw [← Nbq17.out] at hx583_2)
                          (try rw [← Nbq19.out] at hx583_2)
                          (try rw [← Nbq17.out] at hx583_3)
                          (try rw [← Nbq19.out] at hx583_3)
                          obtain rfl : ad581 = ad583 := (by injection e583)
                          replace hx583_0 := (HB.out.cell (World.block_lt_of_cell? w _ hx583_0)).trans hx583_0
                          replace hx583_1 := (HB.out.cell (World.block_lt_of_cell? w _ hx583_1)).trans hx583_1
                          replace hx583_2 := (HB.out.cell (World.block_lt_of_cell? w _ hx583_2)).trans hx583_2
                          replace hx583_3 := (HB.out.cell (World.block_lt_of_cell? w _ hx583_3)).trans hx583_3
                          replace hx583_4 := (HB.out.cell (World.block_lt_of_cell? w _ hx583_4)).trans hx583_4
                          replace hx583_5 := (HB.out.cell (World.block_lt_of_cell? w _ hx583_5)).trans hx583_5
                          replace p583 := eq_true p583
                          replace q583 := eq_true q583
                          go_wp2_with (first | ((with_reducible refine list_style (st := ⟨a2_1, a2_2, a2_3, a2_4, a2_5, a2_6, a2_7, a2_8, a2_9, a2_10, a2_11, a2_12, a2_13, a2_14, a2_15, a2_16, a2_17, a2_18⟩) gb574 1 ?hs _ rfl ?hw ?hx ?_); (case hw => rfl); (case hx => rfl); (case hs => exact sty_of_blk 1 (by (with_reducible repeat (first | refine blk_drewN ?_ _ | refine blk_drew ?_ | refine blk_alloc ?_ _)); exact BK574.out) rfl)) | ((with_reducible refine list_style (st := ⟨a2_1, a2_2, a2_3, a2_4, a2_5, a2_6, a2_7, a2_8, a2_9, a2_10, a2_11, a2_12, a2_13, a2_14, a2_15, a2_16, a2_17, a2_18⟩) gb574 1 ?hs _ rfl ?hw ?hx ?_); (case hw => rfl); (case hx => rfl); (case hs => exact sty_of_blk 1 (by (with_reducible repeat (first | refine blk_drewN ?_ _ | refine blk_drew ?_ | refine blk_alloc ?_ _)); exact BK574.out) rfl)) | ((with_reducible refine gate_builtin (b := .append) (xs := #[.tmp 79, .tmp 81]) rfl ?_); (try (refine gate_guard (by rfl) ?_; dsimp only)); at_builtin; refine Kd.R_append Kd.bool (w0 := w) w.heap.size rfl (.tmp 79) (.tmp 81) 23 4 (.bool false) 1 rfl Try.underlying23 info4 rfl (by decide) (by omega) u11 x11_2 true [.bool true] (fun k_ => some k_ ≠ (v577 : Value).ownBlock) (fun _ => False) rfl rfl ?aP (fun _ hk => hk.elim) ?aF ?aO ?aB ?aS ?aL ?_; (case aP => exact rfl); (case aB => exact (by repeat (first | (with_reducible first | exact HB.out | apply below_alloc | apply pw_below_drewN | apply below_drew1 | refine below_set ?_ GE574.out) | exact HB.out))); (case aF => exact (fun k_ hk => Kd.fresh' (Kd.R_lt (by (with_reducible repeat (first | apply Kd.R_alloc | apply Kd.R_drewN | apply Kd.R_drew)); exact HO_8.out)) k_ hk)); (case aO => exact (by (with_reducible repeat (first | apply Kd.R_alloc | apply Kd.R_drewN | apply Kd.R_drew)); exact HO_11.out)); (case aS => exact (below_size (by repeat (first | (with_reducible first | exact HB.out | apply below_alloc | apply pw_below_drewN | apply below_drew1 | refine below_set ?_ GE574.out) | exact HB.out)))); (case aL => have := LMc21.out; omega); intro v585 w23 ho hb hg hat; rw [← Ny584.out] at ho; have n0_ := Aside0.mk (Kd.R_after (ok := (fun _ => True)) (by (with_reducible repeat (first | apply Kd.R_alloc | apply Kd.R_drewN | apply Kd.R_drew)); exact Kd.R_mono HO_8.out (fun _ hk => ⟨trivial, hk⟩)) hg hat); have n1_ := Aside0.mk (blk_grown (g := gb574) (o := .cells #[.slice (some ad582) l2_0.length c2_0, .int .i64 a2_1, .int .i64 a2_2, .int .i64 a2_3, .int .i64 a2_4, .bool a2_5, .bool a2_6, .bool a2_7, .int .i64 a2_8, .int .i64 a2_9, .int .i64 a2_10, .int .i64 a2_11, .int .i64 a2_12, .int .i64 a2_13, .int .i64 a2_14, .int .i64 a2_15, .int .i64 a2_16, .int .i64 a2_17, .int .i64 a2_18] 27 (0, 0)) (by (with_reducible repeat (first | refine blk_drewN ?_ _ | refine blk_drew ?_ | refine blk_alloc ?_ _)); exact BK574.out) hg (Kd.R_ne HO_11.out BK574.out (by decide))); have n2_ := Aside0.mk (hb); have n3_ := Aside0.mk (ho); clear HO_8; clear BK574; clear HB; clear HO_11; have HO_8 := n0_; have BK574 := n1_; have HB := n2_; have HO586 := n3_; clear n0_ n1_ n2_ n3_; clear ho hb hg hat))
                          repeat (go_quiet (first | ((with_reducible refine gate_builtin (b := .append) (xs := #[.tmp 79, .tmp 81]) rfl ?_); (try (refine gate_guard (by rfl) ?_; dsimp only)); at_builtin; refine Kd.R_append Kd.bool (w0 := w) w.heap.size rfl (.tmp 79) (.tmp 81) 23 4 (.bool false) 1 rfl Try.underlying23 info4 rfl (by decide) (by omega) u11 x11_2 true [.bool true] (fun k_ => some k_ ≠ (v577 : Value).ownBlock) (fun _ => False) rfl rfl ?aP (fun _ hk => hk.elim) ?aF ?aO ?aB ?aS ?aL ?_; (case aP => exact rfl); (case aB => exact (by repeat (first | (with_reducible first | exact HB.out | apply below_alloc | apply pw_below_drewN | apply below_drew1 | refine below_set ?_ GE574.out) | exact HB.out))); (case aF => exact (fun k_ hk => Kd.fresh' (Kd.R_lt (by (with_reducible repeat (first | apply Kd.R_alloc | apply Kd.R_drewN | apply Kd.R_drew)); exact HO_8.out)) k_ hk)); (case aO => exact (by (with_reducible repeat (first | apply Kd.R_alloc | apply Kd.R_drewN | apply Kd.R_drew)); exact HO_11.out)); (case aS => exact (below_size (by repeat (first | (with_reducible first | exact HB.out | apply below_alloc | apply pw_below_drewN | apply below_drew1 | refine below_set ?_ GE574.out) | exact HB.out)))); (case aL => have := LMc21.out; omega); intro v585 w23 ho hb hg hat; rw [← Ny584.out] at ho; have n0_ := Aside0.mk (Kd.R_after (ok := (fun _ => True)) (by (with_reducible repeat (first | apply Kd.R_alloc | apply Kd.R_drewN | apply Kd.R_drew)); exact Kd.R_mono HO_8.out (fun _ hk => ⟨trivial, hk⟩)) hg hat); have n1_ := Aside0.mk (blk_grown (g := gb574) (o := .cells #[.slice (some ad582) l2_0.length c2_0, .int .i64 a2_1, .int .i64 a2_2, .int .i64 a2_3, .int .i64 a2_4, .bool a2_5, .bool a2_6, .bool a2_7, .int .i64 a2_8, .int .i64 a2_9, .int .i64 a2_10, .int .i64 a2_11, .int .i64 a2_12, .int .i64 a2_13, .int .i64 a2_14, .int .i64 a2_15, .int .i64 a2_16, .int .i64 a2_17, .int .i64 a2_18] 27 (0, 0)) (by (with_reducible repeat (first | refine blk_drewN ?_ _ | refine blk_drew ?_ | refine blk_alloc ?_ _)); exact BK574.out) hg (Kd.R_ne HO_11.out BK574.out (by decide))); have n2_ := Aside0.mk (hb); have n3_ := Aside0.mk (ho); clear HO_8; clear BK574; clear HB; clear HO_11; have HO_8 := n0_; have BK574 := n1_; have HB := n2_; have HO586 := n3_; clear n0_ n1_ n2_ n3_; clear ho hb hg hat)); try go_wp2_with (first | ((with_reducible refine list_style (st := ⟨a2_1, a2_2, a2_3, a2_4, a2_5, a2_6, a2_7, a2_8, a2_9, a2_10, a2_11, a2_12, a2_13, a2_14, a2_15, a2_16, a2_17, a2_18⟩) gb574 1 ?hs _ rfl ?hw ?hx ?_); (case hw => rfl); (case hx => rfl); (case hs => exact sty_of_blk 1 (by (with_reducible repeat (first | refine blk_drewN ?_ _ | refine blk_drew ?_ | refine blk_alloc ?_ _)); exact BK574.out) rfl)) | ((with_reducible refine list_style (st := ⟨a2_1, a2_2, a2_3, a2_4, a2_5, a2_6, a2_7, a2_8, a2_9, a2_10, a2_11, a2_12, a2_13, a2_14, a2_15, a2_16, a2_17, a2_18⟩) gb574 1 ?hs _ rfl ?hw ?hx ?_); (case hw => rfl); (case hx => rfl); (case hs => exact sty_of_blk 1 (by (with_reducible repeat (first | refine blk_drewN ?_ _ | refine blk_drew ?_ | refine blk_alloc ?_ _)); exact BK574.out) rfl)) | ((with_reducible refine gate_builtin (b := .append) (xs := #[.tmp 79, .tmp 81]) rfl ?_); (try (refine gate_guard (by rfl) ?_; dsimp only)); at_builtin; refine Kd.R_append Kd.bool (w0 := w) w.heap.size rfl (.tmp 79) (.tmp 81) 23 4 (.bool false) 1 rfl Try.underlying23 info4 rfl (by decide) (by omega) u11 x11_2 true [.bool true] (fun k_ => some k_ ≠ (v577 : Value).ownBlock) (fun _ => False) rfl rfl ?aP (fun _ hk => hk.elim) ?aF ?aO ?aB ?aS ?aL ?_; (case aP => exact rfl); (case aB => exact (by repeat (first | (with_reducible first | exact HB.out | apply below_alloc | apply pw_below_drewN | apply below_drew1 | refine below_set ?_ GE574.out) | exact HB.out))); (case aF => exact (fun k_ hk => Kd.fresh' (Kd.R_lt (by (with_reducible repeat (first | apply Kd.R_alloc | apply Kd.R_drewN | apply Kd.R_drew)); exact HO_8.out)) k_ hk)); (case aO => exact (by (with_reducible repeat (first | apply Kd.R_alloc | apply Kd.R_drewN | apply Kd.R_drew)); exact HO_11.out)); (case aS => exact (below_size (by repeat (first | (with_reducible first | exact HB.out | apply below_alloc | apply pw_below_drewN | apply below_drew1 | refine below_set ?_ GE574.out) | exact HB.out)))); (case aL => have := LMc21.out; omega); intro v585 w23 ho hb hg hat; rw [← Ny584.out] at ho; have n0_ := Aside0.mk (Kd.R_after (ok := (fun _ => True)) (by (with_reducible repeat (first | apply Kd.R_alloc | apply Kd.R_drewN | apply Kd.R_drew)); exact Kd.R_mono HO_8.out (fun _ hk => ⟨trivial, hk⟩)) hg hat); have n1_ := Aside0.mk (blk_grown (g := gb574) (o := .cells #[.slice (some ad582) l2_0.length c2_0, .int .i64 a2_1, .int .i64 a2_2, .int .i64 a2_3, .int .i64 a2_4, .bool a2_5, .bool a2_6, .bool a2_7, .int .i64 a2_8, .int .i64 a2_9, .int .i64 a2_10, .int .i64 a2_11, .int .i64 a2_12, .int .i64 a2_13, .int .i64 a2_14, .int .i64 a2_15, .int .i64 a2_16, .int .i64 a2_17, .int .i64 a2_18] 27 (0, 0)) (by (with_reducible repeat (first | refine blk_drewN ?_ _ | refine blk_drew ?_ | refine blk_alloc ?_ _)); exact BK574.out) hg (Kd.R_ne HO_11.out BK574.out (by decide))); have n2_ := Aside0.mk (hb); have n3_ := Aside0.mk (ho); clear HO_8; clear BK574; clear HB; clear HO_11; have HO_8 := n0_; have BK574 := n1_; have HB := n2_; have HO586 := n3_; clear n0_ n1_ n2_ n3_; clear ho hb hg hat)))
                          go_roundg k2
                          case measure => have := HJ4.out; have := HK2.out; omega
                          case rel => exact ⟨(y584), (wrap64 (x12_2 + 1)), (by first | rfl | (simp; done) | (simp [*]; done)), H', ⟨by have := HJ4.out; have := HK2.out; omega⟩, ⟨by (with_reducible repeat (first | apply Kd.R_alloc | apply Kd.R_drewN | apply Kd.R_drew)); exact Kd.R_mono HO_8.out (fun _ hk => hk.2)⟩, ⟨by (with_reducible repeat (first | apply Kd.R_alloc | apply Kd.R_drewN | apply Kd.R_drew)); exact HO586.out⟩, ⟨by (with_reducible repeat (first | refine blk_drewN ?_ _ | refine blk_drew ?_ | refine blk_alloc ?_ _)); exact BK574.out⟩, ⟨by repeat (first | (with_reducible first | exact HB.out | apply below_alloc | apply pw_below_drewN | apply below_drew1 | refine below_set ?_ GE574.out) | exact HB.out)⟩⟩
                        · rw [if_neg c21] at H
                          exact absurd H (by simp)
                      · as_aux_lemma =>
                        replace c20 := Bool.eq_false_iff.mpr c20
                        subst c20
                        have H1 : (if x11_2.length < 140737488355328 then (regletlaw14_SearchLeast.l0 k2 a0 l1 t575 t576 t579 (x11_2 ++ [(rd_T48 l1 x12_2).f2]) (wrap64 (x12_2 + 1)) l2_0 a2_1 a2_2 a2_3 a2_4 a2_5 a2_6 a2_7 a2_8 a2_9 a2_10 a2_11 a2_12 a2_13 a2_14 a2_15 a2_16 a2_17 a2_18) else (none)) = some r := by rw [if_neg (show ¬ (false = true) by decide)] at H; exact H
                        clear H
                        have H := H1
                        clear H1
                        by_cases c24 : x11_2.length < 140737488355328
                        · as_aux_lemma =>
                          rw [if_pos c24] at H
                          have LMc24 := Aside0.mk c24
                          clear c24
                          obtain ⟨y587, hy587⟩ : ∃ y_ : List Bool, y_ = (x11_2 ++ [(rd_T48 l1 x12_2).f2]) := ⟨_, rfl⟩
                          replace H : (regletlaw14_SearchLeast.l0 k2 a0 l1 t575 t576 t579 y587 (wrap64 (x12_2 + 1)) l2_0 a2_1 a2_2 a2_3 a2_4 a2_5 a2_6 a2_7 a2_8 a2_9 a2_10 a2_11 a2_12 a2_13 a2_14 a2_15 a2_16 a2_17 a2_18) = some r := by first | (rw [hy587]; with_reducible exact H) | (have H2_ := (Option.bind_some _ _).symm.trans H; rw [hy587]; with_reducible exact H2_) | (have H2_ := (Option.bind_some _ _).symm.trans H; with_reducible exact H2_) | with_reducible exact H | (rw [hy587]; exact H) | exact H
                          have Ny587 := Aside0.mk hy587
                          clear hy587
                          have H' := Aside0.mk H
                          clear H
                          have p581 : 0 ≤ (x12_2 : Int) := of_decide_eq_true (by first | (with_reducible assumption) | assumption)
                          have q581 : x12_2 < (l1.length : Int) := of_decide_eq_true (by first | (with_reducible assumption) | assumption)
                          obtain ⟨ad581, e581, hx581_0, hx581_1, hx581_2, hx581_3, hx581_4, hx581_5⟩ := at_T48 HR1.out x12_2 p581 q581
                          (try rw [← Nbq17.out] at hx581_2)
                          (try rw [← Nbq19.out] at hx581_2)
                          (try rw [← Nbq17.out] at hx581_3)
                          (try rw [← Nbq19.out] at hx581_3)
                          cases e581
                          replace hx581_0 := (HB.out.cell (World.block_lt_of_cell? w _ hx581_0)).trans hx581_0
                          replace hx581_1 := (HB.out.cell (World.block_lt_of_cell? w _ hx581_1)).trans hx581_1
                          replace hx581_2 := (HB.out.cell (World.block_lt_of_cell? w _ hx581_2)).trans hx581_2
                          replace hx581_3 := (HB.out.cell (World.block_lt_of_cell? w _ hx581_3)).trans hx581_3
                          replace hx581_4 := (HB.out.cell (World.block_lt_of_cell? w _ hx581_4)).trans hx581_4
                          replace hx581_5 := (HB.out.cell (World.block_lt_of_cell? w _ hx581_5)).trans hx581_5
                          replace p581 := eq_true p581
                          replace q581 := eq_true q581
                          have hcz25_0 : wr.cell? ⟨gb574, 0, none⟩ = some (.slice A2_0 l2_0.length c2_0) := (blk_cell BK574.out 0).trans rfl
                          have hcz25_1 : wr.cell? ⟨gb574, 1, none⟩ = some (.int .i64 a2_1) := (blk_cell BK574.out 1).trans rfl
                          have hcz25_2 : wr.cell? ⟨gb574, 2, none⟩ = some (.int .i64 a2_2) := (blk_cell BK574.out 2).trans rfl
                          have hcz25_3 : wr.cell? ⟨gb574, 3, none⟩ = some (.int .i64 a2_3) := (blk_cell BK574.out 3).trans rfl
                          have hcz25_4 : wr.cell? ⟨gb574, 4, none⟩ = some (.int .i64 a2_4) := (blk_cell BK574.out 4).trans rfl
                          have hcz25_5 : wr.cell? ⟨gb574, 5, none⟩ = some (.bool a2_5) := (blk_cell BK574.out 5).trans rfl
                          have hcz25_6 : wr.cell? ⟨gb574, 6, none⟩ = some (.bool a2_6) := (blk_cell BK574.out 6).trans rfl
                          have hcz25_7 : wr.cell? ⟨gb574, 7, none⟩ = some (.bool a2_7) := (blk_cell BK574.out 7).trans rfl
                          have hcz25_8 : wr.cell? ⟨gb574, 8, none⟩ = some (.int .i64 a2_8) := (blk_cell BK574.out 8).trans rfl
                          have hcz25_9 : wr.cell? ⟨gb574, 9, none⟩ = some (.int .i64 a2_9) := (blk_cell BK574.out 9).trans rfl
                          have hcz25_10 : wr.cell? ⟨gb574, 10, none⟩ = some (.int .i64 a2_10) := (blk_cell BK574.out 10).trans rfl
                          have hcz25_11 : wr.cell? ⟨gb574, 11, none⟩ = some (.int .i64 a2_11) := (blk_cell BK574.out 11).trans rfl
                          have hcz25_12 : wr.cell? ⟨gb574, 12, none⟩ = some (.int .i64 a2_12) := (blk_cell BK574.out 12).trans rfl
                          have hcz25_13 : wr.cell? ⟨gb574, 13, none⟩ = some (.int .i64 a2_13) := (blk_cell BK574.out 13).trans rfl
                          have hcz25_14 : wr.cell? ⟨gb574, 14, none⟩ = some (.int .i64 a2_14) := (blk_cell BK574.out 14).trans rfl
                          have hcz25_15 : wr.cell? ⟨gb574, 15, none⟩ = some (.int .i64 a2_15) := (blk_cell BK574.out 15).trans rfl
                          have hcz25_16 : wr.cell? ⟨gb574, 16, none⟩ = some (.int .i64 a2_16) := (blk_cell BK574.out 16).trans rfl
                          have hcz25_17 : wr.cell? ⟨gb574, 17, none⟩ = some (.int .i64 a2_17) := (blk_cell BK574.out 17).trans rfl
                          have hcz25_18 : wr.cell? ⟨gb574, 18, none⟩ = some (.int .i64 a2_18) := (blk_cell BK574.out 18).trans rfl
                          have hfz25_0 := blk_frozen BK574.out 0
                          have hfz25_1 := blk_frozen BK574.out 1
                          have hfz25_2 := blk_frozen BK574.out 2
                          have hfz25_3 := blk_frozen BK574.out 3
                          have hfz25_4 := blk_frozen BK574.out 4
                          have hfz25_5 := blk_frozen BK574.out 5
                          have hfz25_6 := blk_frozen BK574.out 6
                          have hfz25_7 := blk_frozen BK574.out 7
                          have hfz25_8 := blk_frozen BK574.out 8
                          have hfz25_9 := blk_frozen BK574.out 9
                          have hfz25_10 := blk_frozen BK574.out 10
                          have hfz25_11 := blk_frozen BK574.out 11
                          have hfz25_12 := blk_frozen BK574.out 12
                          have hfz25_13 := blk_frozen BK574.out 13
                          have hfz25_14 := blk_frozen BK574.out 14
                          have hfz25_15 := blk_frozen BK574.out 15
                          have hfz25_16 := blk_frozen BK574.out 16
                          have hfz25_17 := blk_frozen BK574.out 17
                          have hfz25_18 := blk_frozen BK574.out 18
                          have p582 : 0 ≤ (x12_2 : Int) := of_decide_eq_true (by first | (with_reducible assumption) | assumption)
                          have q582 : x12_2 < (l2_0.length : Int) := of_decide_eq_true (by first | (with_reducible assumption) | assumption)
                          obtain ⟨ad582, e582, hx582_0⟩ := Kd.at_bool HR2_0.out x12_2 p582 q582
                          (try rw [← Nbq17.out] at hx582_0)
                          (try rw [← Nbq19.out] at hx582_0)
                          cases e582
                          replace hx582_0 := (HB.out.cell (World.block_lt_of_cell? w _ hx582_0)).trans hx582_0
                          replace p582 := eq_true p582
                          replace q582 := eq_true q582
                          have p583 : 0 ≤ (x12_2 : Int) := of_decide_eq_true (by first | (with_reducible assumption) | assumption)
                          have q583 : x12_2 < (l1.length : Int) := of_decide_eq_true (by first | (with_reducible assumption) | assumption)
                          obtain ⟨ad583, e583, hx583_0, hx583_1, hx583_2, hx583_3, hx583_4, hx583_5⟩ := at_T48 HR1.out x12_2 p583 q583
                          (try rw [← Nbq17.out] at hx583_2)
                          (try rw [← Nbq19.out] at hx583_2)
                          (try rw [← Nbq17.out] at hx583_3)
                          (try rw [← Nbq19.out] at hx583_3)
                          obtain rfl : ad581 = ad583 := (by injection e583)
                          replace hx583_0 := (HB.out.cell (World.block_lt_of_cell? w _ hx583_0)).trans hx583_0
                          replace hx583_1 := (HB.out.cell (World.block_lt_of_cell? w _ hx583_1)).trans hx583_1
                          replace hx583_2 := (HB.out.cell (World.block_lt_of_cell? w _ hx583_2)).trans hx583_2
                          replace hx583_3 := (HB.out.cell (World.block_lt_of_cell? w _ hx583_3)).trans hx583_3
                          replace hx583_4 := (HB.out.cell (World.block_lt_of_cell? w _ hx583_4)).trans hx583_4
                          replace hx583_5 := (HB.out.cell (World.block_lt_of_cell? w _ hx583_5)).trans hx583_5
                          replace p583 := eq_true p583
                          replace q583 := eq_true q583
                          go_wp2_with (first | ((with_reducible refine list_style (st := ⟨a2_1, a2_2, a2_3, a2_4, a2_5, a2_6, a2_7, a2_8, a2_9, a2_10, a2_11, a2_12, a2_13, a2_14, a2_15, a2_16, a2_17, a2_18⟩) gb574 1 ?hs _ rfl ?hw ?hx ?_); (case hw => rfl); (case hx => rfl); (case hs => exact sty_of_blk 1 (by (with_reducible repeat (first | refine blk_drewN ?_ _ | refine blk_drew ?_ | refine blk_alloc ?_ _)); exact BK574.out) rfl)) | ((with_reducible refine list_style (st := ⟨a2_1, a2_2, a2_3, a2_4, a2_5, a2_6, a2_7, a2_8, a2_9, a2_10, a2_11, a2_12, a2_13, a2_14, a2_15, a2_16, a2_17, a2_18⟩) gb574 1 ?hs _ rfl ?hw ?hx ?_); (case hw => rfl); (case hx => rfl); (case hs => exact sty_of_blk 1 (by (with_reducible repeat (first | refine blk_drewN ?_ _ | refine blk_drew ?_ | refine blk_alloc ?_ _)); exact BK574.out) rfl)) | ((with_reducible refine gate_builtin (b := .append) (xs := #[.tmp 79, .tmp 81]) rfl ?_); (try (refine gate_guard (by rfl) ?_; dsimp only)); at_builtin; refine Kd.R_append Kd.bool (w0 := w) w.heap.size rfl (.tmp 79) (.tmp 81) 23 4 (.bool false) 1 rfl Try.underlying23 info4 rfl (by decide) (by omega) u11 x11_2 ((rd_T48 l1 x12_2).f2) [.bool ((rd_T48 l1 x12_2).f2)] (fun k_ => some k_ ≠ (v577 : Value).ownBlock) (fun _ => False) rfl rfl ?aP (fun _ hk => hk.elim) ?aF ?aO ?aB ?aS ?aL ?_; (case aP => exact rfl); (case aB => exact (by repeat (first | (with_reducible first | exact HB.out | apply below_alloc | apply pw_below_drewN | apply below_drew1 | refine below_set ?_ GE574.out) | exact HB.out))); (case aF => exact (fun k_ hk => Kd.fresh' (Kd.R_lt (by (with_reducible repeat (first | apply Kd.R_alloc | apply Kd.R_drewN | apply Kd.R_drew)); exact HO_8.out)) k_ hk)); (case aO => exact (by (with_reducible repeat (first | apply Kd.R_alloc | apply Kd.R_drewN | apply Kd.R_drew)); exact HO_11.out)); (case aS => exact (below_size (by repeat (first | (with_reducible first | exact HB.out | apply below_alloc | apply pw_below_drewN | apply below_drew1 | refine below_set ?_ GE574.out) | exact HB.out)))); (case aL => have := LMc24.out; omega); intro v588 w26 ho hb hg hat; rw [← Ny587.out] at ho; have n0_ := Aside0.mk (Kd.R_after (ok := (fun _ => True)) (by (with_reducible repeat (first | apply Kd.R_alloc | apply Kd.R_drewN | apply Kd.R_drew)); exact Kd.R_mono HO_8.out (fun _ hk => ⟨trivial, hk⟩)) hg hat); have n1_ := Aside0.mk (blk_grown (g := gb574) (o := .cells #[.slice (some ad582) l2_0.length c2_0, .int .i64 a2_1, .int .i64 a2_2, .int .i64 a2_3, .int .i64 a2_4, .bool a2_5, .bool a2_6, .bool a2_7, .int .i64 a2_8, .int .i64 a2_9, .int .i64 a2_10, .int .i64 a2_11, .int .i64 a2_12, .int .i64 a2_13, .int .i64 a2_14, .int .i64 a2_15, .int .i64 a2_16, .int .i64 a2_17, .int .i64 a2_18] 27 (0, 0)) (by (with_reducible repeat (first | refine blk_drewN ?_ _ | refine blk_drew ?_ | refine blk_alloc ?_ _)); exact BK574.out) hg (Kd.R_ne HO_11.out BK574.out (by decide))); have n2_ := Aside0.mk (hb); have n3_ := Aside0.mk (ho); clear HO_8; clear BK574; clear HB; clear HO_11; have HO_8 := n0_; have BK574 := n1_; have HB := n2_; have HO589 := n3_; clear n0_ n1_ n2_ n3_; clear ho hb hg hat))
                          repeat (go_quiet (first | ((with_reducible refine gate_builtin (b := .append) (xs := #[.tmp 79, .tmp 81]) rfl ?_); (try (refine gate_guard (by rfl) ?_; dsimp only)); at_builtin; refine Kd.R_append Kd.bool (w0 := w) w.heap.size rfl (.tmp 79) (.tmp 81) 23 4 (.bool false) 1 rfl Try.underlying23 info4 rfl (by decide) (by omega) u11 x11_2 ((rd_T48 l1 x12_2).f2) [.bool ((rd_T48 l1 x12_2).f2)] (fun k_ => some k_ ≠ (v577 : Value).ownBlock) (fun _ => False) rfl rfl ?aP (fun _ hk => hk.elim) ?aF ?aO ?aB ?aS ?aL ?_; (case aP => exact rfl); (case aB => exact (by repeat (first | (with_reducible first | exact HB.out | apply below_alloc | apply pw_below_drewN | apply below_drew1 | refine below_set ?_ GE574.out) | exact HB.out))); (case aF => exact (fun k_ hk => Kd.fresh' (Kd.R_lt (by (with_reducible repeat (first | apply Kd.R_alloc | apply Kd.R_drewN | apply Kd.R_drew)); exact HO_8.out)) k_ hk)); (case aO => exact (by (with_reducible repeat (first | apply Kd.R_alloc | apply Kd.R_drewN | apply Kd.R_drew)); exact HO_11.out)); (case aS => exact (below_size (by repeat (first | (with_reducible first | exact HB.out | apply below_alloc | apply pw_below_drewN | apply below_drew1 | refine below_set ?_ GE574.out) | exact HB.out)))); (case aL => have := LMc24.out; omega); intro v588 w26 ho hb hg hat; rw [← Ny587.out] at ho; have n0_ := Aside0.mk (Kd.R_after (ok := (fun _ => True)) (by (with_reducible repeat (first | apply Kd.R_alloc | apply Kd.R_drewN | apply Kd.R_drew)); exact Kd.R_mono HO_8.out (fun _ hk => ⟨trivial, hk⟩)) hg hat); have n1_ := Aside0.mk (blk_grown (g := gb574) (o := .cells #[.slice (some ad582) l2_0.length c2_0, .int .i64 a2_1, .int .i64 a2_2, .int .i64 a2_3, .int .i64 a2_4, .bool a2_5, .bool a2_6, .bool a2_7, .int .i64 a2_8, .int .i64 a2_9, .int .i64 a2_10, .int .i64 a2_11, .int .i64 a2_12, .int .i64 a2_13, .int .i64 a2_14, .int .i64 a2_15, .int .i64 a2_16, .int .i64 a2_17, .int .i64 a2_18] 27 (0, 0)) (by (with_reducible repeat (first | refine blk_drewN ?_ _ | refine blk_drew ?_ | refine blk_alloc ?_ _)); exact BK574.out) hg (Kd.R_ne HO_11.out BK574.out (by decide))); have n2_ := Aside0.mk (hb); have n3_ := Aside0.mk (ho); clear HO_8; clear BK574; clear HB; clear HO_11; have HO_8 := n0_; have BK574 := n1_; have HB := n2_; have HO589 := n3_; clear n0_ n1_ n2_ n3_; clear ho hb hg hat)); try go_wp2_with (first | ((with_reducible refine list_style (st := ⟨a2_1, a2_2, a2_3, a2_4, a2_5, a2_6, a2_7, a2_8, a2_9, a2_10, a2_11, a2_12, a2_13, a2_14, a2_15, a2_16, a2_17, a2_18⟩) gb574 1 ?hs _ rfl ?hw ?hx ?_); (case hw => rfl); (case hx => rfl); (case hs => exact sty_of_blk 1 (by (with_reducible repeat (first | refine blk_drewN ?_ _ | refine blk_drew ?_ | refine blk_alloc ?_ _)); exact BK574.out) rfl)) | ((with_reducible refine list_style (st := ⟨a2_1, a2_2, a2_3, a2_4, a2_5, a2_6, a2_7, a2_8, a2_9, a2_10, a2_11, a2_12, a2_13, a2_14, a2_15, a2_16, a2_17, a2_18⟩) gb574 1 ?hs _ rfl ?hw ?hx ?_); (case hw => rfl); (case hx => rfl); (case hs => exact sty_of_blk 1 (by (with_reducible repeat (first | refine blk_drewN ?_ _ | refine blk_drew ?_ | refine blk_alloc ?_ _)); exact BK574.out) rfl)) | ((with_reducible refine gate_builtin (b := .append) (xs := #[.tmp 79, .tmp 81]) rfl ?_); (try (refine gate_guard (by rfl) ?_; dsimp only)); at_builtin; refine Kd.R_append Kd.bool (w0 := w) w.heap.size rfl (.tmp 79) (.tmp 81) 23 4 (.bool false) 1 rfl Try.underlying23 info4 rfl (by decide) (by omega) u11 x11_2 ((rd_T48 l1 x12_2).f2) [.bool ((rd_T48 l1 x12_2).f2)] (fun k_ => some k_ ≠ (v577 : Value).ownBlock) (fun _ => False) rfl rfl ?aP (fun _ hk => hk.elim) ?aF ?aO ?aB ?aS ?aL ?_; (case aP => exact rfl); (case aB => exact (by repeat (first | (with_reducible first | exact HB.out | apply below_alloc | apply pw_below_drewN | apply below_drew1 | refine below_set ?_ GE574.out) | exact HB.out))); (case aF => exact (fun k_ hk => Kd.fresh' (Kd.R_lt (by (with_reducible repeat (first | apply Kd.R_alloc | apply Kd.R_drewN | apply Kd.R_drew)); exact HO_8.out)) k_ hk)); (case aO => exact (by (with_reducible repeat (first | apply Kd.R_alloc | apply Kd.R_drewN | apply Kd.R_drew)); exact HO_11.out)); (case aS => exact (below_size (by repeat (first | (with_reducible first | exact HB.out | apply below_alloc | apply pw_below_drewN | apply below_drew1 | refine below_set ?_ GE574.out) | exact HB.out)))); (case aL => have := LMc24.out; omega); intro v588 w26 ho hb hg hat; rw [← Ny587.out] at ho; have n0_ := Aside0.mk (Kd.R_after (ok := (fun _ => True)) (by (with_reducible repeat (first | apply Kd.R_alloc | apply Kd.R_drewN | apply Kd.R_drew)); exact Kd.R_mono HO_8.out (fun _ hk => ⟨trivial, hk⟩)) hg hat); have n1_ := Aside0.mk (blk_grown (g := gb574) (o := .cells #[.slice (some ad582) l2_0.length c2_0, .int .i64 a2_1, .int .i64 a2_2, .int .i64 a2_3, .int .i64 a2_4, .bool a2_5, .bool a2_6, .bool a2_7, .int .i64 a2_8, .int .i64 a2_9, .int .i64 a2_10, .int .i64 a2_11, .int .i64 a2_12, .int .i64 a2_13, .int .i64 a2_14, .int .i64 a2_15, .int .i64 a2_16, .int .i64 a2_17, .int .i64 a2_18] 27 (0, 0)) (by (with_reducible repeat (first | refine blk_drewN ?_ _ | refine blk_drew ?_ | refine blk_alloc ?_ _)); exact BK574.out) hg (Kd.R_ne HO_11.out BK574.out (by decide))); have n2_ := Aside0.mk (hb); have n3_ := Aside0.mk (ho); clear HO_8; clear BK574; clear HB; clear HO_11; have HO_8 := n0_; have BK574 := n1_; have HB := n2_; have HO589 := n3_; clear n0_ n1_ n2_ n3_; clear ho hb hg hat)))
                          go_roundg k2
                          case measure => have := HJ4.out; have := HK2.out; omega
                          case rel => exact ⟨(y587), (wrap64 (x12_2 + 1)), (by first | rfl | (simp; done) | (simp [*]; done)), H', ⟨by have := HJ4.out; have := HK2.out; omega⟩, ⟨by (with_reducible repeat (first | apply Kd.R_alloc | apply Kd.R_drewN | apply Kd.R_drew)); exact Kd.R_mono HO_8.out (fun _ hk => hk.2)⟩, ⟨by (with_reducible repeat (first | apply Kd.R_alloc | apply Kd.R_drewN | apply Kd.R_drew)); exact HO589.out⟩, ⟨by (with_reducible repeat (first | refine blk_drewN ?_ _ | refine blk_drew ?_ | refine blk_alloc ?_ _)); exact BK574.out⟩, ⟨by repeat (first | (with_reducible first | exact HB.out | apply below_alloc | apply pw_below_drewN | apply below_drew1 | refine below_set ?_ GE574.out) | exact HB.out)⟩⟩
                        · rw [if_neg c24] at H
                          exact absurd H (by simp)
                    · as_aux_lemma =>
                      replace c18 := Bool.eq_false_iff.mpr c18
                      subst c18
                      have H1 : (if x11_2.length < 140737488355328 then (regletlaw14_SearchLeast.l0 k2 a0 l1 t575 t576 t579 (x11_2 ++ [(rd_T48 l1 x12_2).f2]) (wrap64 (x12_2 + 1)) l2_0 a2_1 a2_2 a2_3 a2_4 a2_5 a2_6 a2_7 a2_8 a2_9 a2_10 a2_11 a2_12 a2_13 a2_14 a2_15 a2_16 a2_17 a2_18) else (none)) = some r := by rw [if_neg (show ¬ (false = true) by decide)] at H; exact H
                      clear H
                      have H := H1
                      clear H1
                      by_cases c27 : x11_2.length < 140737488355328
                      · as_aux_lemma =>
                        rw [if_pos c27] at H
                        have LMc27 := Aside0.mk c27
                        clear c27
                        obtain ⟨y590, hy590⟩ : ∃ y_ : List Bool, y_ = (x11_2 ++ [(rd_T48 l1 x12_2).f2]) := ⟨_, rfl⟩
                        replace H : (regletlaw14_SearchLeast.l0 k2 a0 l1 t575 t576 t579 y590 (wrap64 (x12_2 + 1)) l2_0 a2_1 a2_2 a2_3 a2_4 a2_5 a2_6 a2_7 a2_8 a2_9 a2_10 a2_11 a2_12 a2_13 a2_14 a2_15 a2_16 a2_17 a2_18) = some r := by first | (rw [hy590]; with_reducible exact H) | (have H2_ := (Option.bind_some _ _).symm.trans H; rw [hy590]; with_reducible exact H2_) | (have H2_ := (Option.bind_some _ _).symm.trans H; with_reducible exact H2_) | with_reducible exact H | (rw [hy590]; exact H) | exact H
                        have Ny590 := Aside0.mk hy590
                        clear hy590
                        have H' := Aside0.mk H
                        clear H
                        have p581 : 0 ≤ (x12_2 : Int) := of_decide_eq_true (by first | (with_reducible assumption) | assumption)
                        have q581 : x12_2 < (l1.length : Int) := of_decide_eq_true (by first | (with_reducible assumption) | assumption)
                        obtain ⟨ad581, e581, hx581_0, hx581_1, hx581_2, hx581_3, hx581_4, hx581_5⟩ := at_T48 HR1.out x12_2 p581 q581
                        (try rw [← Nbq17.out] at hx581_2)
                        (try rw [← Nbq17.out] at hx581_3)
                        cases e581
                        replace hx581_0 := (HB.out.cell (World.block_lt_of_cell? w _ hx581_0)).trans hx581_0
                        replace hx581_1 := (HB.out.cell (World.block_lt_of_cell? w _ hx581_1)).trans hx581_1
                        replace hx581_2 := (HB.out.cell (World.block_lt_of_cell? w _ hx581_2)).trans hx581_2
                        replace hx581_3 := (HB.out.cell (World.block_lt_of_cell? w _ hx581_3)).trans hx581_3
                        replace hx581_4 := (HB.out.cell (World.block_lt_of_cell? w _ hx581_4)).trans hx581_4
                        replace hx581_5 := (HB.out.cell (World.block_lt_of_cell? w _ hx581_5)).trans hx581_5
                        replace p581 := eq_true p581
                        replace q581 := eq_true q581
                        have hcz28_0 : wr.cell? ⟨gb574, 0, none⟩ = some (.slice A2_0 l2_0.length c2_0) := (blk_cell BK574.out 0).trans rfl
                        have hcz28_1 : wr.cell? ⟨gb574, 1, none⟩ = some (.int .i64 a2_1) := (blk_cell BK574.out 1).trans rfl
                        have hcz28_2 : wr.cell? ⟨gb574, 2, none⟩ = some (.int .i64 a2_2) := (blk_cell BK574.out 2).trans rfl
                        have hcz28_3 : wr.cell? ⟨gb574, 3, none⟩ = some (.int .i64 a2_3) := (blk_cell BK574.out 3).trans rfl
                        have hcz28_4 : wr.cell? ⟨gb574, 4, none⟩ = some (.int .i64 a2_4) := (blk_cell BK574.out 4).trans rfl
                        have hcz28_5 : wr.cell? ⟨gb574, 5, none⟩ = some (.bool a2_5) := (blk_cell BK574.out 5).trans rfl
                        have hcz28_6 : wr.cell? ⟨gb574, 6, none⟩ = some (.bool a2_6) := (blk_cell BK574.out 6).trans rfl
                        have hcz28_7 : wr.cell? ⟨gb574, 7, none⟩ = some (.bool a2_7) := (blk_cell BK574.out 7).trans rfl
                        have hcz28_8 : wr.cell? ⟨gb574, 8, none⟩ = some (.int .i64 a2_8) := (blk_cell BK574.out 8).trans rfl
                        have hcz28_9 : wr.cell? ⟨gb574, 9, none⟩ = some (.int .i64 a2_9) := (blk_cell BK574.out 9).trans rfl
                        have hcz28_10 : wr.cell? ⟨gb574, 10, none⟩ = some (.int .i64 a2_10) := (blk_cell BK574.out 10).trans rfl
                        have hcz28_11 : wr.cell? ⟨gb574, 11, none⟩ = some (.int .i64 a2_11) := (blk_cell BK574.out 11).trans rfl
                        have hcz28_12 : wr.cell? ⟨gb574, 12, none⟩ = some (.int .i64 a2_12) := (blk_cell BK574.out 12).trans rfl
                        have hcz28_13 : wr.cell? ⟨gb574, 13, none⟩ = some (.int .i64 a2_13) := (blk_cell BK574.out 13).trans rfl
                        have hcz28_14 : wr.cell? ⟨gb574, 14, none⟩ = some (.int .i64 a2_14) := (blk_cell BK574.out 14).trans rfl
                        have hcz28_15 : wr.cell? ⟨gb574, 15, none⟩ = some (.int .i64 a2_15) := (blk_cell BK574.out 15).trans rfl
                        have hcz28_16 : wr.cell? ⟨gb574, 16, none⟩ = some (.int .i64 a2_16) := (blk_cell BK574.out 16).trans rfl
                        have hcz28_17 : wr.cell? ⟨gb574, 17, none⟩ = some (.int .i64 a2_17) := (blk_cell BK574.out 17).trans rfl
                        have hcz28_18 : wr.cell? ⟨gb574, 18, none⟩ = some (.int .i64 a2_18) := (blk_cell BK574.out 18).trans rfl
                        have hfz28_0 := blk_frozen BK574.out 0
                        have hfz28_1 := blk_frozen BK574.out 1
                        have hfz28_2 := blk_frozen BK574.out 2
                        have hfz28_3 := blk_frozen BK574.out 3
                        have hfz28_4 := blk_frozen BK574.out 4
                        have hfz28_5 := blk_frozen BK574.out 5
                        have hfz28_6 := blk_frozen BK574.out 6
                        have hfz28_7 := blk_frozen BK574.out 7
                        have hfz28_8 := blk_frozen BK574.out 8
                        have hfz28_9 := blk_frozen BK574.out 9
                        have hfz28_10 := blk_frozen BK574.out 10
                        have hfz28_11 := blk_frozen BK574.out 11
                        have hfz28_12 := blk_frozen BK574.out 12
                        have hfz28_13 := blk_frozen BK574.out 13
                        have hfz28_14 := blk_frozen BK574.out 14
                        have hfz28_15 := blk_frozen BK574.out 15
                        have hfz28_16 := blk_frozen BK574.out 16
                        have hfz28_17 := blk_frozen BK574.out 17
                        have hfz28_18 := blk_frozen BK574.out 18
                        have p582 : 0 ≤ (x12_2 : Int) := of_decide_eq_true (by first | (with_reducible assumption) | assumption)
                        have q582 : x12_2 < (l2_0.length : Int) := of_decide_eq_true (by first | (with_reducible assumption) | assumption)
                        obtain ⟨ad582, e582, hx582_0⟩ := Kd.at_bool HR2_0.out x12_2 p582 q582
                        (try rw [← Nbq17.out] at hx582_0)
                        cases e582
                        replace hx582_0 := (HB.out.cell (World.block_lt_of_cell? w _ hx582_0)).trans hx582_0
                        replace p582 := eq_true p582
                        replace q582 := eq_true q582
                        go_wp2_with (first | ((with_reducible refine list_style (st := ⟨a2_1, a2_2, a2_3, a2_4, a2_5, a2_6, a2_7, a2_8, a2_9, a2_10, a2_11, a2_12, a2_13, a2_14, a2_15, a2_16, a2_17, a2_18⟩) gb574 1 ?hs _ rfl ?hw ?hx ?_); (case hw => rfl); (case hx => rfl); (case hs => exact sty_of_blk 1 (by (with_reducible repeat (first | refine blk_drewN ?_ _ | refine blk_drew ?_ | refine blk_alloc ?_ _)); exact BK574.out) rfl)) | ((with_reducible refine list_style (st := ⟨a2_1, a2_2, a2_3, a2_4, a2_5, a2_6, a2_7, a2_8, a2_9, a2_10, a2_11, a2_12, a2_13, a2_14, a2_15, a2_16, a2_17, a2_18⟩) gb574 1 ?hs _ rfl ?hw ?hx ?_); (case hw => rfl); (case hx => rfl); (case hs => exact sty_of_blk 1 (by (with_reducible repeat (first | refine blk_drewN ?_ _ | refine blk_drew ?_ | refine blk_alloc ?_ _)); exact BK574.out) rfl)) | ((with_reducible refine gate_builtin (b := .append) (xs := #[.tmp 79, .tmp 81]) rfl ?_); (try (refine gate_guard (by rfl) ?_; dsimp only)); at_builtin; refine Kd.R_append Kd.bool (w0 := w) w.heap.size rfl (.tmp 79) (.tmp 81) 23 4 (.bool false) 1 rfl Try.underlying23 info4 rfl (by decide) (by omega) u11 x11_2 ((rd_T48 l1 x12_2).f2) [.bool ((rd_T48 l1 x12_2).f2)] (fun k_ => some k_ ≠ (v577 : Value).ownBlock) (fun _ => False) rfl rfl ?aP (fun _ hk => hk.elim) ?aF ?aO ?aB ?aS ?aL ?_; (case aP => exact rfl); (case aB => exact (by repeat (first | (with_reducible first | exact HB.out | apply below_alloc | apply pw_below_drewN | apply below_drew1 | refine below_set ?_ GE574.out) | exact HB.out))); (case aF => exact (fun k_ hk => Kd.fresh' (Kd.R_lt (by (with_reducible repeat (first | apply Kd.R_alloc | apply Kd.R_drewN | apply Kd.R_drew)); exact HO_8.out)) k_ hk)); (case aO => exact (by (with_reducible repeat (first | apply Kd.R_alloc | apply Kd.R_drewN | apply Kd.R_drew)); exact HO_11.out)); (case aS => exact (below_size (by repeat (first | (with_reducible first | exact HB.out | apply below_alloc | apply pw_below_drewN | apply below_drew1 | refine below_set ?_ GE574.out) | exact HB.out)))); (case aL => have := LMc27.out; omega); intro v591 w29 ho hb hg hat; rw [← Ny590.out] at ho; have n0_ := Aside0.mk (Kd.R_after (ok := (fun _ => True)) (by (with_reducible repeat (first | apply Kd.R_alloc | apply Kd.R_drewN | apply Kd.R_drew)); exact Kd.R_mono HO_8.out (fun _ hk => ⟨trivial, hk⟩)) hg hat); have n1_ := Aside0.mk (blk_grown (g := gb574) (o := .cells #[.slice (some ad582) l2_0.length c2_0, .int .i64 a2_1, .int .i64 a2_2, .int .i64 a2_3, .int .i64 a2_4, .bool a2_5, .bool a2_6, .bool a2_7, .int .i64 a2_8, .int .i64 a2_9, .int .i64 a2_10, .int .i64 a2_11, .int .i64 a2_12, .int .i64 a2_13, .int .i64 a2_14, .int .i64 a2_15, .int .i64 a2_16, .int .i64 a2_17, .int .i64 a2_18] 27 (0, 0)) (by (with_reducible repeat (first | refine blk_drewN ?_ _ | refine blk_drew ?_ | refine blk_alloc ?_ _)); exact BK574.out) hg (Kd.R_ne HO_11.out BK574.out (by decide))); have n2_ := Aside0.mk (hb); have n3_ := Aside0.mk (ho); clear HO_8; clear BK574; clear HB; clear HO_11; have HO_8 := n0_; have BK574 := n1_; have HB := n2_; have HO592 := n3_; clear n0_ n1_ n2_ n3_; clear ho hb hg hat))
                        repeat (go_quiet (first | ((with_reducible refine gate_builtin (b := .append) (xs := #[.tmp 79, .tmp 81]) rfl ?_); (try (refine gate_guard (by rfl) ?_; dsimp only)); at_builtin; refine Kd.R_append Kd.bool (w0 := w) w.heap.size rfl (.tmp 79) (.tmp 81) 23 4 (.bool false) 1 rfl Try.underlying23 info4 rfl (by decide) (by omega) u11 x11_2 ((rd_T48 l1 x12_2).f2) [.bool ((rd_T48 l1 x12_2).f2)] (fun k_ => some k_ ≠ (v577 : Value).ownBlock) (fun _ => False) rfl rfl ?aP (fun _ hk => hk.elim) ?aF ?aO ?aB ?aS ?aL ?_; (case aP => exact rfl); (case aB => exact (by repeat (first | (with_reducible first | exact HB.out | apply below_alloc | apply pw_below_drewN | apply below_drew1 | refine below_set ?_ GE574.out) | exact HB.out))); (case aF => exact (fun k_ hk => Kd.fresh' (Kd.R_lt (by (with_reducible repeat (first | apply Kd.R_alloc | apply Kd.R_drewN | apply Kd.R_drew)); exact HO_8.out)) k_ hk)); (case aO => exact (by (with_reducible repeat (first | apply Kd.R_alloc | apply Kd.R_drewN | apply Kd.R_drew)); exact HO_11.out)); (case aS => exact (below_size (by repeat (first | (with_reducible first | exact HB.out | apply below_alloc | apply pw_below_drewN | apply below_drew1 | refine below_set ?_ GE574.out) | exact HB.out)))); (case aL => have := LMc27.out; omega); intro v591 w29 ho hb hg hat; rw [← Ny590.out] at ho; have n0_ := Aside0.mk (Kd.R_after (ok := (fun _ => True)) (by (with_reducible repeat (first | apply Kd.R_alloc | apply Kd.R_drewN | apply Kd.R_drew)); exact Kd.R_mono HO_8.out (fun _ hk => ⟨trivial, hk⟩)) hg hat); have n1_ := Aside0.mk (blk_grown (g := gb574) (o := .cells #[.slice (some ad582) l2_0.length c2_0, .int .i64 a2_1, .int .i64 a2_2, .int .i64 a2_3, .int .i64 a2_4, .bool a2_5, .bool a2_6, .bool a2_7, .int .i64 a2_8, .int .i64 a2_9, .int .i64 a2_10, .int .i64 a2_11, .int .i64 a2_12, .int .i64 a2_13, .int .i64 a2_14, .int .i64 a2_15, .int .i64 a2_16, .int .i64 a2_17, .int .i64 a2_18] 27 (0, 0)) (by (with_reducible repeat (first | refine blk_drewN ?_ _ | refine blk_drew ?_ | refine blk_alloc ?_ _)); exact BK574.out) hg (Kd.R_ne HO_11.out BK574.out (by decide))); have n2_ := Aside0.mk (hb); have n3_ := Aside0.mk (ho); clear HO_8; clear BK574; clear HB; clear HO_11; have HO_8 := n0_; have BK574 := n1_; have HB := n2_; have HO592 := n3_; clear n0_ n1_ n2_ n3_; clear ho hb hg hat)); try go_wp2_with (first | ((with_reducible refine list_style (st := ⟨a2_1, a2_2, a2_3, a2_4, a2_5, a2_6, a2_7, a2_8, a2_9, a2_10, a2_11, a2_12, a2_13, a2_14, a2_15, a2_16, a2_17, a2_18⟩) gb574 1 ?hs _ rfl ?hw ?hx ?_); (case hw => rfl); (case hx => rfl); (case hs => exact sty_of_blk 1 (by (with_reducible repeat (first | refine blk_drewN ?_ _ | refine blk_drew ?_ | refine blk_alloc ?_ _)); exact BK574.out) rfl)) | ((with_reducible refine list_style (st := ⟨a2_1, a2_2, a2_3, a2_4, a2_5, a2_6, a2_7, a2_8, a2_9, a2_10, a2_11, a2_12, a2_13, a2_14, a2_15, a2_16, a2_17, a2_18⟩) gb574 1 ?hs _ rfl ?hw ?hx ?_); (case hw => rfl); (case hx => rfl); (case hs => exact sty_of_blk 1 (by (with_reducible repeat (first | refine blk_drewN ?_ _ | refine blk_drew ?_ | refine blk_alloc ?_ _)); exact BK574.out) rfl)) | ((with_reducible refine gate_builtin (b := .append) (xs := #[.tmp 79, .tmp 81]) rfl ?_); (try (refine gate_guard (by rfl) ?_; dsimp only)); at_builtin; refine Kd.R_append Kd.bool (w0 := w) w.heap.size rfl (.tmp 79) (.tmp 81) 23 4 (.bool false) 1 rfl Try.underlying23 info4 rfl (by decide) (by omega) u11 x11_2 ((rd_T48 l1 x12_2).f2) [.bool ((rd_T48 l1 x12_2).f2)] (fun k_ => some k_ ≠ (v577 : Value).ownBlock) (fun _ => False) rfl rfl ?aP (fun _ hk => hk.elim) ?aF ?aO ?aB ?aS ?aL ?_; (case aP => exact rfl); (case aB => exact (by repeat (first | (with_reducible first | exact HB.out | apply below_alloc | apply pw_below_drewN | apply below_drew1 | refine below_set ?_ GE574.out) | exact HB.out))); (case aF => exact (fun k_ hk => Kd.fresh' (Kd.R_lt (by (with_reducible repeat (first | apply Kd.R_alloc | apply Kd.R_drewN | apply Kd.R_drew)); exact HO_8.out)) k_ hk)); (case aO => exact (by (with_reducible repeat (first | apply Kd.R_alloc | apply Kd.R_drewN | apply Kd.R_drew)); exact HO_11.out)); (case aS => exact (below_size (by repeat (first | (with_reducible first | exact HB.out | apply below_alloc | apply pw_below_drewN | apply below_drew1 | refine below_set ?_ GE574.out) | exact HB.out)))); (case aL => have := LMc27.out; omega); intro v591 w29 ho hb hg hat; rw [← Ny590.out] at ho; have n0_ := Aside0.mk (Kd.R_after (ok := (fun _ => True)) (by (with_reducible repeat (first | apply Kd.R_alloc | apply Kd.R_drewN | apply Kd.R_drew)); exact Kd.R_mono HO_8.out (fun _ hk => ⟨trivial, hk⟩)) hg hat); have n1_ := Aside0.mk (blk_grown (g := gb574) (o := .cells #[.slice (some ad582) l2_0.length c2_0, .int .i64 a2_1, .int .i64 a2_2, .int .i64 a2_3, .int .i64 a2_4, .bool a2_5, .bool a2_6, .bool a2_7, .int .i64 a2_8, .int .i64 a2_9, .int .i64 a2_10, .int .i64 a2_11, .int .i64 a2_12, .int .i64 a2_13, .int .i64 a2_14, .int .i64 a2_15, .int .i64 a2_16, .int .i64 a2_17, .int .i64 a2_18] 27 (0, 0)) (by (with_reducible repeat (first | refine blk_drewN ?_ _ | refine blk_drew ?_ | refine blk_alloc ?_ _)); exact BK574.out) hg (Kd.R_ne HO_11.out BK574.out (by decide))); have n2_ := Aside0.mk (hb); have n3_ := Aside0.mk (ho); clear HO_8; clear BK574; clear HB; clear HO_11; have HO_8 := n0_; have BK574 := n1_; have HB := n2_; have HO592 := n3_; clear n0_ n1_ n2_ n3_; clear ho hb hg hat)))
                        go_roundg k2
                        case measure => have := HJ4.out; have := HK2.out; omega
                        case rel => exact ⟨(y590), (wrap64 (x12_2 + 1)), (by first | rfl | (simp; done) | (simp [*]; done)), H', ⟨by have := HJ4.out; have := HK2.out; omega⟩, ⟨by (with_reducible repeat (first | apply Kd.R_alloc | apply Kd.R_drewN | apply Kd.R_drew)); exact Kd.R_mono HO_8.out (fun _ hk => hk.2)⟩, ⟨by (with_reducible repeat (first | apply Kd.R_alloc | apply Kd.R_drewN | apply Kd.R_drew)); exact HO592.out⟩, ⟨by (with_reducible repeat (first | refine blk_drewN ?_ _ | refine blk_drew ?_ | refine blk_alloc ?_ _)); exact BK574.out⟩, ⟨by repeat (first | (with_reducible first | exact HB.out | apply below_alloc | apply pw_below_drewN | apply below_drew1 | refine below_set ?_ GE574.out) | exact HB.out)⟩⟩
                      · rw [if_neg c27] at H
                        exact absurd H (by simp)
                  · as_aux_lemma =>
                    rw [if_neg c16] at H
                    have c16b0 : decide (x12_2 < (l2_0.length : Int)) = false := decide_eq_false c16
                    clear c16
                    by_cases c30 : x11_2.length < 140737488355328
                    · as_aux_lemma =>
                      rw [if_pos c30] at H
                      have LMc30 := Aside0.mk c30
                      clear c30
                      obtain ⟨y593, hy593⟩ : ∃ y_ : List Bool, y_ = (x11_2 ++ [(rd_T48 l1 x12_2).f2]) := ⟨_, rfl⟩
                      replace H : (regletlaw14_SearchLeast.l0 k2 a0 l1 t575 t576 t579 y593 (wrap64 (x12_2 + 1)) l2_0 a2_1 a2_2 a2_3 a2_4 a2_5 a2_6 a2_7 a2_8 a2_9 a2_10 a2_11 a2_12 a2_13 a2_14 a2_15 a2_16 a2_17 a2_18) = some r := by first | (rw [hy593]; with_reducible exact H) | (have H2_ := (Option.bind_some _ _).symm.trans H; rw [hy593]; with_reducible exact H2_) | (have H2_ := (Option.bind_some _ _).symm.trans H; with_reducible exact H2_) | with_reducible exact H | (rw [hy593]; exact H) | exact H
                      have Ny593 := Aside0.mk hy593
                      clear hy593
                      have H' := Aside0.mk H
                      clear H
                      have p581 : 0 ≤ (x12_2 : Int) := of_decide_eq_true (by first | (with_reducible assumption) | assumption)
                      have q581 : x12_2 < (l1.length : Int) := of_decide_eq_true (by first | (with_reducible assumption) | assumption)
                      obtain ⟨ad581, e581, hx581_0, hx581_1, hx581_2, hx581_3, hx581_4, hx581_5⟩ := at_T48 HR1.out x12_2 p581 q581
                      cases e581
                      replace hx581_0 := (HB.out.cell (World.block_lt_of_cell? w _ hx581_0)).trans hx581_0
                      replace hx581_1 := (HB.out.cell (World.block_lt_of_cell? w _ hx581_1)).trans hx581_1
                      replace hx581_2 := (HB.out.cell (World.block_lt_of_cell? w _ hx581_2)).trans hx581_2
                      replace hx581_3 := (HB.out.cell (World.block_lt_of_cell? w _ hx581_3)).trans hx581_3
                      replace hx581_4 := (HB.out.cell (World.block_lt_of_cell? w _ hx581_4)).trans hx581_4
                      replace hx581_5 := (HB.out.cell (World.block_lt_of_cell? w _ hx581_5)).trans hx581_5
                      replace p581 := eq_true p581
                      replace q581 := eq_true q581
                      have hcz31_0 : wr.cell? ⟨gb574, 0, none⟩ = some (.slice A2_0 l2_0.length c2_0) := (blk_cell BK574.out 0).trans rfl
                      have hcz31_1 : wr.cell? ⟨gb574, 1, none⟩ = some (.int .i64 a2_1) := (blk_cell BK574.out 1).trans rfl
                      have hcz31_2 : wr.cell? ⟨gb574, 2, none⟩ = some (.int .i64 a2_2) := (blk_cell BK574.out 2).trans rfl
                      have hcz31_3 : wr.cell? ⟨gb574, 3, none⟩ = some (.int .i64 a2_3) := (blk_cell BK574.out 3).trans rfl
                      have hcz31_4 : wr.cell? ⟨gb574, 4, none⟩ = some (.int .i64 a2_4) := (blk_cell BK574.out 4).trans rfl
                      have hcz31_5 : wr.cell? ⟨gb574, 5, none⟩ = some (.bool a2_5) := (blk_cell BK574.out 5).trans rfl
                      have hcz31_6 : wr.cell? ⟨gb574, 6, none⟩ = some (.bool a2_6) := (blk_cell BK574.out 6).trans rfl
                      have hcz31_7 : wr.cell? ⟨gb574, 7, none⟩ = some (.bool a2_7) := (blk_cell BK574.out 7).trans rfl
                      have hcz31_8 : wr.cell? ⟨gb574, 8, none⟩ = some (.int .i64 a2_8) := (blk_cell BK574.out 8).trans rfl
                      have hcz31_9 : wr.cell? ⟨gb574, 9, none⟩ = some (.int .i64 a2_9) := (blk_cell BK574.out 9).trans rfl
                      have hcz31_10 : wr.cell? ⟨gb574, 10, none⟩ = some (.int .i64 a2_10) := (blk_cell BK574.out 10).trans rfl
                      have hcz31_11 : wr.cell? ⟨gb574, 11, none⟩ = some (.int .i64 a2_11) := (blk_cell BK574.out 11).trans rfl
                      have hcz31_12 : wr.cell? ⟨gb574, 12, none⟩ = some (.int .i64 a2_12) := (blk_cell BK574.out 12).trans rfl
                      have hcz31_13 : wr.cell? ⟨gb574, 13, none⟩ = some (.int .i64 a2_13) := (blk_cell BK574.out 13).trans rfl
                      have hcz31_14 : wr.cell? ⟨gb574, 14, none⟩ = some (.int .i64 a2_14) := (blk_cell BK574.out 14).trans rfl
                      have hcz31_15 : wr.cell? ⟨gb574, 15, none⟩ = some (.int .i64 a2_15) := (blk_cell BK574.out 15).trans rfl
                      have hcz31_16 : wr.cell? ⟨gb574, 16, none⟩ = some (.int .i64 a2_16) := (blk_cell BK574.out 16).trans rfl
                      have hcz31_17 : wr.cell? ⟨gb574, 17, none⟩ = some (.int .i64 a2_17) := (blk_cell BK574.out 17).trans rfl
                      have hcz31_18 : wr.cell? ⟨gb574, 18, none⟩ = some (.int .i64 a2_18) := (blk_cell BK574.out 18).trans rfl
                      have hfz31_0 := blk_frozen BK574.out 0
                      have hfz31_1 := blk_frozen BK574.out 1
                      have hfz31_2 := blk_frozen BK574.out 2
                      have hfz31_3 := blk_frozen BK574.out 3
                      have hfz31_4 := blk_frozen BK574.out 4
                      have hfz31_5 := blk_frozen BK574.out 5
                      have hfz31_6 := blk_frozen BK574.out 6
                      have hfz31_7 := blk_frozen BK574.out 7
                      have hfz31_8 := blk_frozen BK574.out 8
                      have hfz31_9 := blk_frozen BK574.out 9
                      have hfz31_10 := blk_frozen BK574.out 10
                      have hfz31_11 := blk_frozen BK574.out 11
                      have hfz31_12 := blk_frozen BK574.out 12
                      have hfz31_13 := blk_frozen BK574.out 13
                      have hfz31_14 := blk_frozen BK574.out 14
                      have hfz31_15 := blk_frozen BK574.out 15
                      have hfz31_16 := blk_frozen BK574.out 16
                      have hfz31_17 := blk_frozen BK574.out 17
                      have hfz31_18 := blk_frozen BK574.out 18
                      go_wp2_with (first | ((with_reducible refine list_style (st := ⟨a2_1, a2_2, a2_3, a2_4, a2_5, a2_6, a2_7, a2_8, a2_9, a2_10, a2_11, a2_12, a2_13, a2_14, a2_15, a2_16, a2_17, a2_18⟩) gb574 1 ?hs _ rfl ?hw ?hx ?_); (case hw => rfl); (case hx => rfl); (case hs => exact sty_of_blk 1 (by (with_reducible repeat (first | refine blk_drewN ?_ _ | refine blk_drew ?_ | refine blk_alloc ?_ _)); exact BK574.out) rfl)) | ((with_reducible refine list_style (st := ⟨a2_1, a2_2, a2_3, a2_4, a2_5, a2_6, a2_7, a2_8, a2_9, a2_10, a2_11, a2_12, a2_13, a2_14, a2_15, a2_16, a2_17, a2_18⟩) gb574 1 ?hs _ rfl ?hw ?hx ?_); (case hw => rfl); (case hx => rfl); (case hs => exact sty_of_blk 1 (by (with_reducible repeat (first | refine blk_drewN ?_ _ | refine blk_drew ?_ | refine blk_alloc ?_ _)); exact BK574.out) rfl)) | ((with_reducible refine gate_builtin (b := .append) (xs := #[.tmp 79, .tmp 81]) rfl ?_); (try (refine gate_guard (by rfl) ?_; dsimp only)); at_builtin; refine Kd.R_append Kd.bool (w0 := w) w.heap.size rfl (.tmp 79) (.tmp 81) 23 4 (.bool false) 1 rfl Try.underlying23 info4 rfl (by decide) (by omega) u11 x11_2 ((rd_T48 l1 x12_2).f2) [.bool ((rd_T48 l1 x12_2).f2)] (fun k_ => some k_ ≠ (v577 : Value).ownBlock) (fun _ => False) rfl rfl ?aP (fun _ hk => hk.elim) ?aF ?aO ?aB ?aS ?aL ?_; (case aP => exact rfl); (case aB => exact (by repeat (first | (with_reducible first | exact HB.out | apply below_alloc | apply pw_below_drewN | apply below_drew1 | refine below_set ?_ GE574.out) | exact HB.out))); (case aF => exact (fun k_ hk => Kd.fresh' (Kd.R_lt (by (with_reducible repeat (first | apply Kd.R_alloc | apply Kd.R_drewN | apply Kd.R_drew)); exact HO_8.out)) k_ hk)); (case aO => exact (by (with_reducible repeat (first | apply Kd.R_alloc | apply Kd.R_drewN | apply Kd.R_drew)); exact HO_11.out)); (case aS => exact (below_size (by repeat (first | (with_reducible first | exact HB.out | apply below_alloc | apply pw_below_drewN | apply below_drew1 | refine below_set ?_ GE574.out) | exact HB.out)))); (case aL => have := LMc30.out; omega); intro v594 w32 ho hb hg hat; rw [← Ny593.out] at ho; have n0_ := Aside0.mk (Kd.R_after (ok := (fun _ => True)) (by (with_reducible repeat (first | apply Kd.R_alloc | apply Kd.R_drewN | apply Kd.R_drew)); exact Kd.R_mono HO_8.out (fun _ hk => ⟨trivial, hk⟩)) hg hat); have n1_ := Aside0.mk (blk_grown (g := gb574) (o := .cells #[.slice A2_0 l2_0.length c2_0, .int .i64 a2_1, .int .i64 a2_2, .int .i64 a2_3, .int .i64 a2_4, .bool a2_5, .bool a2_6, .bool a2_7, .int .i64 a2_8, .int .i64 a2_9, .int .i64 a2_10, .int .i64 a2_11, .int .i64 a2_12, .int .i64 a2_13, .int .i64 a2_14, .int .i64 a2_15, .int .i64 a2_16, .int .i64 a2_17, .int .i64 a2_18] 27 (0, 0)) (by (with_reducible repeat (first | refine blk_drewN ?_ _ | refine blk_drew ?_ | refine blk_alloc ?_ _)); exact BK574.out) hg (Kd.R_ne HO_11.out BK574.out (by decide))); have n2_ := Aside0.mk (hb); have n3_ := Aside0.mk (ho); clear HO_8; clear BK574; clear HB; clear HO_11; have HO_8 := n0_; have BK574 := n1_; have HB := n2_; have HO595 := n3_; clear n0_ n1_ n2_ n3_; clear ho hb hg hat))
                      repeat (go_quiet (first | ((with_reducible refine gate_builtin (b := .append) (xs := #[.tmp 79, .tmp 81]) rfl ?_); (try (refine gate_guard (by rfl) ?_; dsimp only)); at_builtin; refine Kd.R_append Kd.bool (w0 := w) w.heap.size rfl (.tmp 79) (.tmp 81) 23 4 (.bool false) 1 rfl Try.underlying23 info4 rfl (by decide) (by omega) u11 x11_2 ((rd_T48 l1 x12_2).f2) [.bool ((rd_T48 l1 x12_2).f2)] (fun k_ => some k_ ≠ (v577 : Value).ownBlock) (fun _ => False) rfl rfl ?aP (fun _ hk => hk.elim) ?aF ?aO ?aB ?aS ?aL ?_; (case aP => exact rfl); (case aB => exact (by repeat (first | (with_reducible first | exact HB.out | apply below_alloc | apply pw_below_drewN | apply below_drew1 | refine below_set ?_ GE574.out) | exact HB.out))); (case aF => exact (fun k_ hk => Kd.fresh' (Kd.R_lt (by (with_reducible repeat (first | apply Kd.R_alloc | apply Kd.R_drewN | apply Kd.R_drew)); exact HO_8.out)) k_ hk)); (case aO => exact (by (with_reducible repeat (first | apply Kd.R_alloc | apply Kd.R_drewN | apply Kd.R_drew)); exact HO_11.out)); (case aS => exact (below_size (by repeat (first | (with_reducible first | exact HB.out | apply below_alloc | apply pw_below_drewN | apply below_drew1 | refine below_set ?_ GE574.out) | exact HB.out)))); (case aL => have := LMc30.out; omega); intro v594 w32 ho hb hg hat; rw [← Ny593.out] at ho; have n0_ := Aside0.mk (Kd.R_after (ok := (fun _ => True)) (by (with_reducible repeat (first | apply Kd.R_alloc | apply Kd.R_drewN | apply Kd.R_drew)); exact Kd.R_mono HO_8.out (fun _ hk => ⟨trivial, hk⟩)) hg hat); have n1_ := Aside0.mk (blk_grown (g := gb574) (o := .cells #[.slice A2_0 l2_0.length c2_0, .int .i64 a2_1, .int .i64 a2_2, .int .i64 a2_3, .int .i64 a2_4, .bool a2_5, .bool a2_6, .bool a2_7, .int .i64 a2_8, .int .i64 a2_9, .int .i64 a2_10, .int .i64 a2_11, .int .i64 a2_12, .int .i64 a2_13, .int .i64 a2_14, .int .i64 a2_15, .int .i64 a2_16, .int .i64 a2_17, .int .i64 a2_18] 27 (0, 0)) (by (with_reducible repeat (first | refine blk_drewN ?_ _ | refine blk_drew ?_ | refine blk_alloc ?_ _)); exact BK574.out) hg (Kd.R_ne HO_11.out BK574.out (by decide))); have n2_ := Aside0.mk (hb); have n3_ := Aside0.mk (ho); clear HO_8; clear BK574; clear HB; clear HO_11; have HO_8 := n0_; have BK574 := n1_; have HB := n2_; have HO595 := n3_; clear n0_ n1_ n2_ n3_; clear ho hb hg hat)); try go_wp2_with (first | ((with_reducible refine list_style (st := ⟨a2_1, a2_2, a2_3, a2_4, a2_5, a2_6, a2_7, a2_8, a2_9, a2_10, a2_11, a2_12, a2_13, a2_14, a2_15, a2_16, a2_17, a2_18⟩) gb574 1 ?hs _ rfl ?hw ?hx ?_); (case hw => rfl); (case hx => rfl); (case hs => exact sty_of_blk 1 (by (with_reducible repeat (first | refine blk_drewN ?_ _ | refine blk_drew ?_ | refine blk_alloc ?_ _)); exact BK574.out) rfl)) | ((with_reducible refine list_style (st := ⟨a2_1, a2_2, a2_3, a2_4, a2_5, a2_6, a2_7, a2_8, a2_9, a2_10, a2_11, a2_12, a2_13, a2_14, a2_15, a2_16, a2_17, a2_18⟩) gb574 1 ?hs _ rfl ?hw ?hx ?_); (case hw => rfl); (case hx => rfl); (case hs => exact sty_of_blk 1 (by (with_reducible repeat (first | refine blk_drewN ?_ _ | refine blk_drew ?_ | refine blk_alloc ?_ _)); exact BK574.out) rfl)) | ((with_reducible refine gate_builtin (b := .append) (xs := #[.tmp 79, .tmp 81]) rfl ?_); (try (refine gate_guard (by rfl) ?_; dsimp only)); at_builtin; refine Kd.R_append Kd.bool (w0 := w) w.heap.size rfl (.tmp 79) (.tmp 81) 23 4 (.bool false) 1 rfl Try.underlying23 info4 rfl (by decide) (by omega) u11 x11_2 ((rd_T48 l1 x12_2).f2) [.bool ((rd_T48 l1 x12_2).f2)] (fun k_ => some k_ ≠ (v577 : Value).ownBlock) (fun _ => False) rfl rfl ?aP (fun _ hk => hk.elim) ?aF ?aO ?aB ?aS ?aL ?_; (case aP => exact rfl); (case aB => exact (by repeat (first | (with_reducible first | exact HB.out | apply below_alloc | apply pw_below_drewN | apply below_drew1 | refine below_set ?_ GE574.out) | exact HB.out))); (case aF => exact (fun k_ hk => Kd.fresh' (Kd.R_lt (by (with_reducible repeat (first | apply Kd.R_alloc | apply Kd.R_drewN | apply Kd.R_drew)); exact HO_8.out)) k_ hk)); (case aO => exact (by (with_reducible repeat (first | apply Kd.R_alloc | apply Kd.R_drewN | apply Kd.R_drew)); exact HO_11.out)); (case aS => exact (below_size (by repeat (first | (with_reducible first | exact HB.out | apply below_alloc | apply pw_below_drewN | apply below_drew1 | refine below_set ?_ GE574.out) | exact HB.out)))); (case aL => have := LMc30.out; omega); intro v594 w32 ho hb hg hat; rw [← Ny593.out] at ho; have n0_ := Aside0.mk (Kd.R_after (ok := (fun _ => True)) (by (with_reducible repeat (first | apply Kd.R_alloc | apply Kd.R_drewN | apply Kd.R_drew)); exact Kd.R_mono HO_8.out (fun _ hk => ⟨trivial, hk⟩)) hg hat); have n1_ := Aside0.mk (blk_grown (g := gb574) (o := .cells #[.slice A2_0 l2_0.length c2_0, .int .i64 a2_1, .int .i64 a2_2, .int .i64 a2_3, .int .i64 a2_4, .bool a2_5, .bool a2_6, .bool a2_7, .int .i64 a2_8, .int .i64 a2_9, .int .i64 a2_10, .int .i64 a2_11, .int .i64 a2_12, .int .i64 a2_13, .int .i64 a2_14, .int .i64 a2_15, .int .i64 a2_16, .int .i64 a2_17, .int .i64 a2_18] 27 (0, 0)) (by (with_reducible repeat (first | refine blk_drewN ?_ _ | refine blk_drew ?_ | refine blk_alloc ?_ _)); exact BK574.out) hg (Kd.R_ne HO_11.out BK574.out (by decide))); have n2_ := Aside0.mk (hb); have n3_ := Aside0.mk (ho); clear HO_8; clear BK574; clear HB; clear HO_11; have HO_8 := n0_; have BK574 := n1_; have HB := n2_; have HO595 := n3_; clear n0_ n1_ n2_ n3_; clear ho hb hg hat)))
                      go_roundg k2
                      case measure => have := HJ4.out; have := HK2.out; omega
                      case rel => exact ⟨(y593), (wrap64 (x12_2 + 1)), (by first | rfl | (simp; done) | (simp [*]; done)), H', ⟨by have := HJ4.out; have := HK2.out; omega⟩, ⟨by (with_reducible repeat (first | apply Kd.R_alloc | apply Kd.R_drewN | apply Kd.R_drew)); exact Kd.R_mono HO_8.out (fun _ hk => hk.2)⟩, ⟨by (with_reducible repeat (first | apply Kd.R_alloc | apply Kd.R_drewN | apply Kd.R_drew)); exact HO595.out⟩, ⟨by (with_reducible repeat (first | refine blk_drewN ?_ _ | refine blk_drew ?_ | refine blk_alloc ?_ _)); exact BK574.out⟩, ⟨by repeat (first | (with_reducible first | exact HB.out | apply below_alloc | apply pw_below_drewN | apply below_drew1 | refine below_set ?_ GE574.out) | exact HB.out)⟩⟩
                    · rw [if_neg c30] at H
                      exact absurd H (by simp)
                · rw [if_neg c15] at H
                  exact absurd H (by simp)
              · as_aux_lemma =>
                rw [if_neg c14] at H
                have c14b0 : decide (x12_2 < (l1.length : Int)) = false := decide_eq_false c14
                clear c14
                replace H := Option.bind_eq_some_iff.mp H
                obtain ⟨⟨t596, t597⟩, A330, H⟩ := H
                replace H : ((search_Cost.f k2 a0 l1 t576 a2_1 a2_2 a2_3 a2_4 a2_5 a2_6 a2_7 a2_8 a2_9 a2_10 a2_11 a2_12 a2_13 a2_14 a2_15 a2_16 a2_17 a2_18).bind fun bt598 => (if t597 = 0 then (if bt598.2 = 0 then (if bt598.1 = t579 then (regletlaw14_SearchLeast.j2 k2 l1 t575 t576 t579 x11_2 t596 (decide (t596 < t579))) else (regletlaw14_SearchLeast.j2 k2 l1 t575 t576 t579 x11_2 t596 true)) else (regletlaw14_SearchLeast.j2 k2 l1 t575 t576 t579 x11_2 t596 true)) else (regletlaw14_SearchLeast.j2 k2 l1 t575 t576 t579 x11_2 t596 true))) = some r := H
                have A33 := Aside0.mk A330
                clear A330
                replace H := Option.bind_eq_some_iff.mp H
                obtain ⟨⟨t598, t599⟩, A340, H⟩ := H
                replace H : (if t597 = 0 then (if t599 = 0 then (if t598 = t579 then (regletlaw14_SearchLeast.j2 k2 l1 t575 t576 t579 x11_2 t596 (decide (t596 < t579))) else (regletlaw14_SearchLeast.j2 k2 l1 t575 t576 t579 x11_2 t596 true)) else (regletlaw14_SearchLeast.j2 k2 l1 t575 t576 t579 x11_2 t596 true)) else (regletlaw14_SearchLeast.j2 k2 l1 t575 t576 t579 x11_2 t596 true)) = some r := H
                have A34 := Aside0.mk A340
                clear A340
                have HC35 := Aside0.mk H
                clear H
                have hcz36_0 : wr.cell? ⟨gb574, 0, none⟩ = some (.slice A2_0 l2_0.length c2_0) := (blk_cell BK574.out 0).trans rfl
                have hcz36_1 : wr.cell? ⟨gb574, 1, none⟩ = some (.int .i64 a2_1) := (blk_cell BK574.out 1).trans rfl
                have hcz36_2 : wr.cell? ⟨gb574, 2, none⟩ = some (.int .i64 a2_2) := (blk_cell BK574.out 2).trans rfl
                have hcz36_3 : wr.cell? ⟨gb574, 3, none⟩ = some (.int .i64 a2_3) := (blk_cell BK574.out 3).trans rfl
                have hcz36_4 : wr.cell? ⟨gb574, 4, none⟩ = some (.int .i64 a2_4) := (blk_cell BK574.out 4).trans rfl
                have hcz36_5 : wr.cell? ⟨gb574, 5, none⟩ = some (.bool a2_5) := (blk_cell BK574.out 5).trans rfl
                have hcz36_6 : wr.cell? ⟨gb574, 6, none⟩ = some (.bool a2_6) := (blk_cell BK574.out 6).trans rfl
                have hcz36_7 : wr.cell? ⟨gb574, 7, none⟩ = some (.bool a2_7) := (blk_cell BK574.out 7).trans rfl
                have hcz36_8 : wr.cell? ⟨gb574, 8, none⟩ = some (.int .i64 a2_8) := (blk_cell BK574.out 8).trans rfl
                have hcz36_9 : wr.cell? ⟨gb574, 9, none⟩ = some (.int .i64 a2_9) := (blk_cell BK574.out 9).trans rfl
                have hcz36_10 : wr.cell? ⟨gb574, 10, none⟩ = some (.int .i64 a2_10) := (blk_cell BK574.out 10).trans rfl
                have hcz36_11 : wr.cell? ⟨gb574, 11, none⟩ = some (.int .i64 a2_11) := (blk_cell BK574.out 11).trans rfl
                have hcz36_12 : wr.cell? ⟨gb574, 12, none⟩ = some (.int .i64 a2_12) := (blk_cell BK574.out 12).trans rfl
                have hcz36_13 : wr.cell? ⟨gb574, 13, none⟩ = some (.int .i64 a2_13) := (blk_cell BK574.out 13).trans rfl
                have hcz36_14 : wr.cell? ⟨gb574, 14, none⟩ = some (.int .i64 a2_14) := (blk_cell BK574.out 14).trans rfl
                have hcz36_15 : wr.cell? ⟨gb574, 15, none⟩ = some (.int .i64 a2_15) := (blk_cell BK574.out 15).trans rfl
                have hcz36_16 : wr.cell? ⟨gb574, 16, none⟩ = some (.int .i64 a2_16) := (blk_cell BK574.out 16).trans rfl
                have hcz36_17 : wr.cell? ⟨gb574, 17, none⟩ = some (.int .i64 a2_17) := (blk_cell BK574.out 17).trans rfl
                have hcz36_18 : wr.cell? ⟨gb574, 18, none⟩ = some (.int .i64 a2_18) := (blk_cell BK574.out 18).trans rfl
                have hfz36_0 := blk_frozen BK574.out 0
                have hfz36_1 := blk_frozen BK574.out 1
                have hfz36_2 := blk_frozen BK574.out 2
                have hfz36_3 := blk_frozen BK574.out 3
                have hfz36_4 := blk_frozen BK574.out 4
                have hfz36_5 := blk_frozen BK574.out 5
                have hfz36_6 := blk_frozen BK574.out 6
                have hfz36_7 := blk_frozen BK574.out 7
                have hfz36_8 := blk_frozen BK574.out 8
                have hfz36_9 := blk_frozen BK574.out 9
                have hfz36_10 := blk_frozen BK574.out 10
                have hfz36_11 := blk_frozen BK574.out 11
                have hfz36_12 := blk_frozen BK574.out 12
                have hfz36_13 := blk_frozen BK574.out 13
                have hfz36_14 := blk_frozen BK574.out 14
                have hfz36_15 := blk_frozen BK574.out 15
                have hfz36_16 := blk_frozen BK574.out 16
                have hfz36_17 := blk_frozen BK574.out 17
                have hfz36_18 := blk_frozen BK574.out 18
                obtain ⟨Ao37, co37, eo37⟩ := Kd.R_slice HO_11.out
                subst eo37
                go_upto_region 17 with (first | ((with_reducible refine list_style (st := ⟨a2_1, a2_2, a2_3, a2_4, a2_5, a2_6, a2_7, a2_8, a2_9, a2_10, a2_11, a2_12, a2_13, a2_14, a2_15, a2_16, a2_17, a2_18⟩) gb574 1 ?hs _ rfl ?hw ?hx ?_); (case hw => rfl); (case hx => rfl); (case hs => exact sty_of_blk 1 (by (with_reducible repeat (first | refine blk_drewN ?_ _ | refine blk_drew ?_ | refine blk_alloc ?_ _)); exact BK574.out) rfl)) | ((with_reducible refine list_style (st := ⟨a2_1, a2_2, a2_3, a2_4, a2_5, a2_6, a2_7, a2_8, a2_9, a2_10, a2_11, a2_12, a2_13, a2_14, a2_15, a2_16, a2_17, a2_18⟩) gb574 1 ?hs _ rfl ?hw ?hx ?_); (case hw => rfl); (case hx => rfl); (case hs => exact sty_of_blk 1 (by (with_reducible repeat (first | refine blk_drewN ?_ _ | refine blk_drew ?_ | refine blk_alloc ?_ _)); exact BK574.out) rfl)) | (go_at_call 9; (with_reducible refine (search_Cost.calls k2 a0 _ _ l1 _ _ x11_2 a2_1 a2_2 a2_3 a2_4 a2_5 a2_6 a2_7 a2_8 a2_9 a2_10 a2_11 a2_12 a2_13 a2_14 a2_15 a2_16 a2_17 a2_18 t596 t597 _ ?side1 ?side2 ?side3 ?side4 A33.out).mono ?_); (case side1 => repeat (first | exact (Kd.C_below HR1.out HB.out) | (with_reducible refine Kd.C_alloc ?_ _) | (with_reducible refine Kd.C_drewN ?_ _) | (with_reducible refine Kd.C_drew ?_))); (case side2 => exact HC1.out); (case side3 => repeat (first | exact (Kd.R_reads' HO_11.out).2.2 | (with_reducible refine Kd.C_alloc ?_ _) | (with_reducible refine Kd.C_drewN ?_ _) | (with_reducible refine Kd.C_drew ?_))); (case side4 => exact (Kd.R_reads' HO_11.out).2.1); rintro e w38 ⟨rfl, hb⟩; have n0_ := Aside0.mk (Kd.R_below (by (with_reducible repeat (first | apply Kd.R_alloc | apply Kd.R_drewN | apply Kd.R_drew)); exact HO_8.out) hb); have n1_ := Aside0.mk (Kd.R_below (by (with_reducible repeat (first | apply Kd.R_alloc | apply Kd.R_drewN | apply Kd.R_drew)); exact HO_11.out) hb); have n2_ := Aside0.mk (blk_below (g := gb574) (o := .cells #[.slice A2_0 l2_0.length c2_0, .int .i64 a2_1, .int .i64 a2_2, .int .i64 a2_3, .int .i64 a2_4, .bool a2_5, .bool a2_6, .bool a2_7, .int .i64 a2_8, .int .i64 a2_9, .int .i64 a2_10, .int .i64 a2_11, .int .i64 a2_12, .int .i64 a2_13, .int .i64 a2_14, .int .i64 a2_15, .int .i64 a2_16, .int .i64 a2_17, .int .i64 a2_18] 27 (0, 0)) (by (with_reducible repeat (first | refine blk_drewN ?_ _ | refine blk_drew ?_ | refine blk_alloc ?_ _)); exact BK574.out) hb); have n3_ := Aside0.mk (below_step (by repeat (first | (with_reducible first | exact HB.out | apply below_alloc | apply pw_below_drewN | apply below_drew1 | refine below_set ?_ GE574.out) | exact HB.out)) hb); clear HO_8; clear HO_11; clear BK574; clear HB; have HO_8 := n0_; have HO_11 := n1_; have BK574 := n2_; have HB := n3_; clear n0_ n1_ n2_ n3_; (try clear hb); (try clear hb2); (try clear hk); (try clear hi); have hcz39_0 : w38.cell? ⟨gb574, 0, none⟩ = some (.slice A2_0 l2_0.length c2_0) := (blk_cell BK574.out 0).trans rfl; have hcz39_1 : w38.cell? ⟨gb574, 1, none⟩ = some (.int .i64 a2_1) := (blk_cell BK574.out 1).trans rfl; have hcz39_2 : w38.cell? ⟨gb574, 2, none⟩ = some (.int .i64 a2_2) := (blk_cell BK574.out 2).trans rfl; have hcz39_3 : w38.cell? ⟨gb574, 3, none⟩ = some (.int .i64 a2_3) := (blk_cell BK574.out 3).trans rfl; have hcz39_4 : w38.cell? ⟨gb574, 4, none⟩ = some (.int .i64 a2_4) := (blk_cell BK574.out 4).trans rfl; have hcz39_5 : w38.cell? ⟨gb574, 5, none⟩ = some (.bool a2_5) := (blk_cell BK574.out 5).trans rfl; have hcz39_6 : w38.cell? ⟨gb574, 6, none⟩ = some (.bool a2_6) := (blk_cell BK574.out 6).trans rfl; have hcz39_7 : w38.cell? ⟨gb574, 7, none⟩ = some (.bool a2_7) := (blk_cell BK574.out 7).trans rfl; have hcz39_8 : w38.cell? ⟨gb574, 8, none⟩ = some (.int .i64 a2_8) := (blk_cell BK574.out 8).trans rfl; have hcz39_9 : w38.cell? ⟨gb574, 9, none⟩ = some (.int .i64 a2_9) := (blk_cell BK574.out 9).trans rfl; have hcz39_10 : w38.cell? ⟨gb574, 10, none⟩ = some (.int .i64 a2_10) := (blk_cell BK574.out 10).trans rfl; have hcz39_11 : w38.cell? ⟨gb574, 11, none⟩ = some (.int .i64 a2_11) := (blk_cell BK574.out 11).trans rfl; have hcz39_12 : w38.cell? ⟨gb574, 12, none⟩ = some (.int .i64 a2_12) := (blk_cell BK574.out 12).trans rfl; have hcz39_13 : w38.cell? ⟨gb574, 13, none⟩ = some (.int .i64 a2_13) := (blk_cell BK574.out 13).trans rfl; have hcz39_14 : w38.cell? ⟨gb574, 14, none⟩ = some (.int .i64 a2_14) := (blk_cell BK574.out 14).trans rfl; have hcz39_15 : w38.cell? ⟨gb574, 15, none⟩ = some (.int .i64 a2_15) := (blk_cell BK574.out 15).trans rfl; have hcz39_16 : w38.cell? ⟨gb574, 16, none⟩ = some (.int .i64 a2_16) := (blk_cell BK574.out 16).trans rfl; have hcz39_17 : w38.cell? ⟨gb574, 17, none⟩ = some (.int .i64 a2_17) := (blk_cell BK574.out 17).trans rfl; have hcz39_18 : w38.cell? ⟨gb574, 18, none⟩ = some (.int .i64 a2_18) := (blk_cell BK574.out 18).trans rfl; have hfz39_0 := blk_frozen BK574.out 0; have hfz39_1 := blk_frozen BK574.out 1; have hfz39_2 := blk_frozen BK574.out 2; have hfz39_3 := blk_frozen BK574.out 3; have hfz39_4 := blk_frozen BK574.out 4; have hfz39_5 := blk_frozen BK574.out 5; have hfz39_6 := blk_frozen BK574.out 6; have hfz39_7 := blk_frozen BK574.out 7; have hfz39_8 := blk_frozen BK574.out 8; have hfz39_9 := blk_frozen BK574.out 9; have hfz39_10 := blk_frozen BK574.out 10; have hfz39_11 := blk_frozen BK574.out 11; have hfz39_12 := blk_frozen BK574.out 12; have hfz39_13 := blk_frozen BK574.out 13; have hfz39_14 := blk_frozen BK574.out 14; have hfz39_15 := blk_frozen BK574.out 15; have hfz39_16 := blk_frozen BK574.out 16; have hfz39_17 := blk_frozen BK574.out 17; have hfz39_18 := blk_frozen BK574.out 18; obtain ⟨Ao40, co40, eo40⟩ := Kd.R_slice HO_8.out; subst eo40) | (go_at_call 9; (with_reducible refine (search_Cost.calls k2 a0 _ _ l1 _ _ t576 a2_1 a2_2 a2_3 a2_4 a2_5 a2_6 a2_7 a2_8 a2_9 a2_10 a2_11 a2_12 a2_13 a2_14 a2_15 a2_16 a2_17 a2_18 t598 t599 _ ?side1 ?side2 ?side3 ?side4 A34.out).mono ?_); (case side1 => repeat (first | exact (Kd.C_below HR1.out HB.out) | (with_reducible refine Kd.C_alloc ?_ _) | (with_reducible refine Kd.C_drewN ?_ _) | (with_reducible refine Kd.C_drew ?_))); (case side2 => exact HC1.out); (case side3 => repeat (first | exact (Kd.R_reads' HO_8.out).2.2 | (with_reducible refine Kd.C_alloc ?_ _) | (with_reducible refine Kd.C_drewN ?_ _) | (with_reducible refine Kd.C_drew ?_))); (case side4 => exact (Kd.R_reads' HO_8.out).2.1); rintro e w41 ⟨rfl, hb⟩; have n0_ := Aside0.mk (Kd.R_below (by (with_reducible repeat (first | apply Kd.R_alloc | apply Kd.R_drewN | apply Kd.R_drew)); exact HO_8.out) hb); have n1_ := Aside0.mk (Kd.R_below (by (with_reducible repeat (first | apply Kd.R_alloc | apply Kd.R_drewN | apply Kd.R_drew)); exact HO_11.out) hb); have n2_ := Aside0.mk (blk_below (g := gb574) (o := .cells #[.slice A2_0 l2_0.length c2_0, .int .i64 a2_1, .int .i64 a2_2, .int .i64 a2_3, .int .i64 a2_4, .bool a2_5, .bool a2_6, .bool a2_7, .int .i64 a2_8, .int .i64 a2_9, .int .i64 a2_10, .int .i64 a2_11, .int .i64 a2_12, .int .i64 a2_13, .int .i64 a2_14, .int .i64 a2_15, .int .i64 a2_16, .int .i64 a2_17, .int .i64 a2_18] 27 (0, 0)) (by (with_reducible repeat (first | refine blk_drewN ?_ _ | refine blk_drew ?_ | refine blk_alloc ?_ _)); exact BK574.out) hb); have n3_ := Aside0.mk (below_step (by repeat (first | (with_reducible first | exact HB.out | apply below_alloc | apply pw_below_drewN | apply below_drew1 | refine below_set ?_ GE574.out) | exact HB.out)) hb); clear HO_8; clear HO_11; clear BK574; clear HB; have HO_8 := n0_; have HO_11 := n1_; have BK574 := n2_; have HB := n3_; clear n0_ n1_ n2_ n3_; (try clear hb); (try clear hb2); (try clear hk); (try clear hi)))
                repeat (go_quiet (first | (go_at_call 9; (with_reducible refine (search_Cost.calls k2 a0 _ _ l1 _ _ x11_2 a2_1 a2_2 a2_3 a2_4 a2_5 a2_6 a2_7 a2_8 a2_9 a2_10 a2_11 a2_12 a2_13 a2_14 a2_15 a2_16 a2_17 a2_18 t596 t597 _ ?side1 ?side2 ?side3 ?side4 A33.out).mono ?_); (case side1 => repeat (first | exact (Kd.C_below HR1.out HB.out) | (with_reducible refine Kd.C_alloc ?_ _) | (with_reducible refine Kd.C_drewN ?_ _) | (with_reducible refine Kd.C_drew ?_))); (case side2 => exact HC1.out); (case side3 => repeat (first | exact (Kd.R_reads' HO_11.out).2.2 | (with_reducible refine Kd.C_alloc ?_ _) | (with_reducible refine Kd.C_drewN ?_ _) | (with_reducible refine Kd.C_drew ?_))); (case side4 => exact (Kd.R_reads' HO_11.out).2.1); rintro e w38 ⟨rfl, hb⟩; have n0_ := Aside0.mk (Kd.R_below (by (with_reducible repeat (first | apply Kd.R_alloc | apply Kd.R_drewN | apply Kd.R_drew)); exact HO_8.out) hb); have n1_ := Aside0.mk (Kd.R_below (by (with_reducible repeat (first | apply Kd.R_alloc | apply Kd.R_drewN | apply Kd.R_drew)); exact HO_11.out) hb); have n2_ := Aside0.mk (blk_below (g := gb574) (o := .cells #[.slice A2_0 l2_0.length c2_0, .int .i64 a2_1, .int .i64 a2_2, .int .i64 a2_3, .int .i64 a2_4, .bool a2_5, .bool a2_6, .bool a2_7, .int .i64 a2_8, .int .i64 a2_9, .int .i64 a2_10, .int .i64 a2_11, .int .i64 a2_12, .int .i64 a2_13, .int .i64 a2_14, .int .i64 a2_15, .int .i64 a2_16, .int .i64 a2_17, .int .i64 a2_18] 27 (0, 0)) (by (with_reducible repeat (first | refine blk_drewN ?_ _ | refine blk_drew ?_ | refine blk_alloc ?_ _)); exact BK574.out) hb); have n3_ := Aside0.mk (below_step (by repeat (first | (with_reducible first | exact HB.out | apply below_alloc | apply pw_below_drewN | apply below_drew1 | refine below_set ?_ GE574.out) | exact HB.out)) hb); clear HO_8; clear HO_11; clear BK574; clear HB; have HO_8 := n0_; have HO_11 := n1_; have BK574 := n2_; have HB := n3_; clear n0_ n1_ n2_ n3_; (try clear hb); (try clear hb2); (try clear hk); (try clear hi); have hcz39_0 : w38.cell? ⟨gb574, 0, none⟩ = some (.slice A2_0 l2_0.length c2_0) := (blk_cell BK574.out 0).trans rfl; have hcz39_1 : w38.cell? ⟨gb574, 1, none⟩ = some (.int .i64 a2_1) := (blk_cell BK574.out 1).trans rfl; have hcz39_2 : w38.cell? ⟨gb574, 2, none⟩ = some (.int .i64 a2_2) := (blk_cell BK574.out 2).trans rfl; have hcz39_3 : w38.cell? ⟨gb574, 3, none⟩ = some (.int .i64 a2_3) := (blk_cell BK574.out 3).trans rfl; have hcz39_4 : w38.cell? ⟨gb574, 4, none⟩ = some (.int .i64 a2_4) := (blk_cell BK574.out 4).trans rfl; have hcz39_5 : w38.cell? ⟨gb574, 5, none⟩ = some (.bool a2_5) := (blk_cell BK574.out 5).trans rfl; have hcz39_6 : w38.cell? ⟨gb574, 6, none⟩ = some (.bool a2_6) := (blk_cell BK574.out 6).trans rfl; have hcz39_7 : w38.cell? ⟨gb574, 7, none⟩ = some (.bool a2_7) := (blk_cell BK574.out 7).trans rfl; have hcz39_8 : w38.cell? ⟨gb574, 8, none⟩ = some (.int .i64 a2_8) := (blk_cell BK574.out 8).trans rfl; have hcz39_9 : w38.cell? ⟨gb574, 9, none⟩ = some (.int .i64 a2_9) := (blk_cell BK574.out 9).trans rfl; have hcz39_10 : w38.cell? ⟨gb574, 10, none⟩ = some (.int .i64 a2_10) := (blk_cell BK574.out 10).trans rfl; have hcz39_11 : w38.cell? ⟨gb574, 11, none⟩ = some (.int .i64 a2_11) := (blk_cell BK574.out 11).trans rfl; have hcz39_12 : w38.cell? ⟨gb574, 12, none⟩ = some (.int .i64 a2_12) := (blk_cell BK574.out 12).trans rfl; have hcz39_13 : w38.cell? ⟨gb574, 13, none⟩ = some (.int .i64 a2_13) := (blk_cell BK574.out 13).trans rfl; have hcz39_14 : w38.cell? ⟨gb574, 14, none⟩ = some (.int .i64 a2_14) := (blk_cell BK574.out 14).trans rfl; have hcz39_15 : w38.cell? ⟨gb574, 15, none⟩ = some (.int .i64 a2_15) := (blk_cell BK574.out 15).trans rfl; have hcz39_16 : w38.cell? ⟨gb574, 16, none⟩ = some (.int .i64 a2_16) := (blk_cell BK574.out 16).trans rfl; have hcz39_17 : w38.cell? ⟨gb574, 17, none⟩ = some (.int .i64 a2_17) := (blk_cell BK574.out 17).trans rfl; have hcz39_18 : w38.cell? ⟨gb574, 18, none⟩ = some (.int .i64 a2_18) := (blk_cell BK574.out 18).trans rfl; have hfz39_0 := blk_frozen BK574.out 0; have hfz39_1 := blk_frozen BK574.out 1; have hfz39_2 := blk_frozen BK574.out 2; have hfz39_3 := blk_frozen BK574.out 3; have hfz39_4 := blk_frozen BK574.out 4; have hfz39_5 := blk_frozen BK574.out 5; have hfz39_6 := blk_frozen BK574.out 6; have hfz39_7 := blk_frozen BK574.out 7; have hfz39_8 := blk_frozen BK574.out 8; have hfz39_9 := blk_frozen BK574.out 9; have hfz39_10 := blk_frozen BK574.out 10; have hfz39_11 := blk_frozen BK574.out 11; have hfz39_12 := blk_frozen BK574.out 12; have hfz39_13 := blk_frozen BK574.out 13; have hfz39_14 := blk_frozen BK574.out 14; have hfz39_15 := blk_frozen BK574.out 15; have hfz39_16 := blk_frozen BK574.out 16; have hfz39_17 := blk_frozen BK574.out 17; have hfz39_18 := blk_frozen BK574.out 18; obtain ⟨Ao40, co40, eo40⟩ := Kd.R_slice HO_8.out; subst eo40) | (go_at_call 9; (with_reducible refine (search_Cost.calls k2 a0 _ _ l1 _ _ t576 a2_1 a2_2 a2_3 a2_4 a2_5 a2_6 a2_7 a2_8 a2_9 a2_10 a2_11 a2_12 a2_13 a2_14 a2_15 a2_16 a2_17 a2_18 t598 t599 _ ?side1 ?side2 ?side3 ?side4 A34.out).mono ?_); (case side1 => repeat (first | exact (Kd.C_below HR1.out HB.out) | (with_reducible refine Kd.C_alloc ?_ _) | (with_reducible refine Kd.C_drewN ?_ _) | (with_reducible refine Kd.C_drew ?_))); (case side2 => exact HC1.out); (case side3 => repeat (first | exact (Kd.R_reads' HO_8.out).2.2 | (with_reducible refine Kd.C_alloc ?_ _) | (with_reducible refine Kd.C_drewN ?_ _) | (with_reducible refine Kd.C_drew ?_))); (case side4 => exact (Kd.R_reads' HO_8.out).2.1); rintro e w41 ⟨rfl, hb⟩; have n0_ := Aside0.mk (Kd.R_below (by (with_reducible repeat (first | apply Kd.R_alloc | apply Kd.R_drewN | apply Kd.R_drew)); exact HO_8.out) hb); have n1_ := Aside0.mk (Kd.R_below (by (with_reducible repeat (first | apply Kd.R_alloc | apply Kd.R_drewN | apply Kd.R_drew)); exact HO_11.out) hb); have n2_ := Aside0.mk (blk_below (g := gb574) (o := .cells #[.slice A2_0 l2_0.length c2_0, .int .i64 a2_1, .int .i64 a2_2, .int .i64 a2_3, .int .i64 a2_4, .bool a2_5, .bool a2_6, .bool a2_7, .int .i64 a2_8, .int .i64 a2_9, .int .i64 a2_10, .int .i64 a2_11, .int .i64 a2_12, .int .i64 a2_13, .int .i64 a2_14, .int .i64 a2_15, .int .i64 a2_16, .int .i64 a2_17, .int .i64 a2_18] 27 (0, 0)) (by (with_reducible repeat (first | refine blk_drewN ?_ _ | refine blk_drew ?_ | refine blk_alloc ?_ _)); exact BK574.out) hb); have n3_ := Aside0.mk (below_step (by repeat (first | (with_reducible first | exact HB.out | apply below_alloc | apply pw_below_drewN | apply below_drew1 | refine below_set ?_ GE574.out) | exact HB.out)) hb); clear HO_8; clear HO_11; clear BK574; clear HB; have HO_8 := n0_; have HO_11 := n1_; have BK574 := n2_; have HB := n3_; clear n0_ n1_ n2_ n3_; (try clear hb); (try clear hb2); (try clear hk); (try clear hi))); go_upto_region 17 with (first | ((with_reducible refine list_style (st := ⟨a2_1, a2_2, a2_3, a2_4, a2_5, a2_6, a2_7, a2_8, a2_9, a2_10, a2_11, a2_12, a2_13, a2_14, a2_15, a2_16, a2_17, a2_18⟩) gb574 1 ?hs _ rfl ?hw ?hx ?_); (case hw => rfl); (case hx => rfl); (case hs => exact sty_of_blk 1 (by (with_reducible repeat (first | refine blk_drewN ?_ _ | refine blk_drew ?_ | refine blk_alloc ?_ _)); exact BK574.out) rfl)) | ((with_reducible refine list_style (st := ⟨a2_1, a2_2, a2_3, a2_4, a2_5, a2_6, a2_7, a2_8, a2_9, a2_10, a2_11, a2_12, a2_13, a2_14, a2_15, a2_16, a2_17, a2_18⟩) gb574 1 ?hs _ rfl ?hw ?hx ?_); (case hw => rfl); (case hx => rfl); (case hs => exact sty_of_blk 1 (by (with_reducible repeat (first | refine blk_drewN ?_ _ | refine blk_drew ?_ | refine blk_alloc ?_ _)); exact BK574.out) rfl)) | (go_at_call 9; (with_reducible refine (search_Cost.calls k2 a0 _ _ l1 _ _ x11_2 a2_1 a2_2 a2_3 a2_4 a2_5 a2_6 a2_7 a2_8 a2_9 a2_10 a2_11 a2_12 a2_13 a2_14 a2_15 a2_16 a2_17 a2_18 t596 t597 _ ?side1 ?side2 ?side3 ?side4 A33.out).mono ?_); (case side1 => repeat (first | exact (Kd.C_below HR1.out HB.out) | (with_reducible refine Kd.C_alloc ?_ _) | (with_reducible refine Kd.C_drewN ?_ _) | (with_reducible refine Kd.C_drew ?_))); (case side2 => exact HC1.out); (case side3 => repeat (first | exact (Kd.R_reads' HO_11.out).2.2 | (with_reducible refine Kd.C_alloc ?_ _) | (with_reducible refine Kd.C_drewN ?_ _) | (with_reducible refine Kd.C_drew ?_))); (case side4 => exact (Kd.R_reads' HO_11.out).2.1); rintro e w38 ⟨rfl, hb⟩; have n0_ := Aside0.mk (Kd.R_below (by (with_reducible repeat (first | apply Kd.R_alloc | apply Kd.R_drewN | apply Kd.R_drew)); exact HO_8.out) hb); have n1_ := Aside0.mk (Kd.R_below (by (with_reducible repeat (first | apply Kd.R_alloc | apply Kd.R_drewN | apply Kd.R_drew)); exact HO_11.out) hb); have n2_ := Aside0.mk (blk_below (g := gb574) (o := .cells #[.slice A2_0 l2_0.length c2_0, .int .i64 a2_1, .int .i64 a2_2, .int .i64 a2_3, .int .i64 a2_4, .bool a2_5, .bool a2_6, .bool a2_7, .int .i64 a2_8, .int .i64 a2_9, .int .i64 a2_10, .int .i64 a2_11, .int .i64 a2_12, .int .i64 a2_13, .int .i64 a2_14, .int .i64 a2_15, .int .i64 a2_16, .int .i64 a2_17, .int .i64 a2_18] 27 (0, 0)) (by (with_reducible repeat (first | refine blk_drewN ?_ _ | refine blk_drew ?_ | refine blk_alloc ?_ _)); exact BK574.out) hb); have n3_ := Aside0.mk (below_step (by repeat (first | (with_reducible first | exact HB.out | apply below_alloc | apply pw_below_drewN | apply below_drew1 | refine below_set ?_ GE574.out) | exact HB.out)) hb); clear HO_8; clear HO_11; clear BK574; clear HB; have HO_8 := n0_; have HO_11 := n1_; have BK574 := n2_; have HB := n3_; clear n0_ n1_ n2_ n3_; (try clear hb); (try clear hb2); (try clear hk); (try clear hi); have hcz39_0 : w38.cell? ⟨gb574, 0, none⟩ = some (.slice A2_0 l2_0.length c2_0) := (blk_cell BK574.out 0).trans rfl; have hcz39_1 : w38.cell? ⟨gb574, 1, none⟩ = some (.int .i64 a2_1) := (blk_cell BK574.out 1).trans rfl; have hcz39_2 : w38.cell? ⟨gb574, 2, none⟩ = some (.int .i64 a2_2) := (blk_cell BK574.out 2).trans rfl; have hcz39_3 : w38.cell? ⟨gb574, 3, none⟩ = some (.int .i64 a2_3) := (blk_cell BK574.out 3).trans rfl; have hcz39_4 : w38.cell? ⟨gb574, 4, none⟩ = some (.int .i64 a2_4) := (blk_cell BK574.out 4).trans rfl; have hcz39_5 : w38.cell? ⟨gb574, 5, none⟩ = some (.bool a2_5) := (blk_cell BK574.out 5).trans rfl; have hcz39_6 : w38.cell? ⟨gb574, 6, none⟩ = some (.bool a2_6) := (blk_cell BK574.out 6).trans rfl; have hcz39_7 : w38.cell? ⟨gb574, 7, none⟩ = some (.bool a2_7) := (blk_cell BK574.out 7).trans rfl; have hcz39_8 : w38.cell? ⟨gb574, 8, none⟩ = some (.int .i64 a2_8) := (blk_cell BK574.out 8).trans rfl; have hcz39_9 : w38.cell? ⟨gb574, 9, none⟩ = some (.int .i64 a2_9) := (blk_cell BK574.out 9).trans rfl; have hcz39_10 : w38.cell? ⟨gb574, 10, none⟩ = some (.int .i64 a2_10) := (blk_cell BK574.out 10).trans rfl; have hcz39_11 : w38.cell? ⟨gb574, 11, none⟩ = some (.int .i64 a2_11) := (blk_cell BK574.out 11).trans rfl; have hcz39_12 : w38.cell? ⟨gb574, 12, none⟩ = some (.int .i64 a2_12) := (blk_cell BK574.out 12).trans rfl; have hcz39_13 : w38.cell? ⟨gb574, 13, none⟩ = some (.int .i64 a2_13) := (blk_cell BK574.out 13).trans rfl; have hcz39_14 : w38.cell? ⟨gb574, 14, none⟩ = some (.int .i64 a2_14) := (blk_cell BK574.out 14).trans rfl; have hcz39_15 : w38.cell? ⟨gb574, 15, none⟩ = some (.int .i64 a2_15) := (blk_cell BK574.out 15).trans rfl; have hcz39_16 : w38.cell? ⟨gb574, 16, none⟩ = some (.int .i64 a2_16) := (blk_cell BK574.out 16).trans rfl; have hcz39_17 : w38.cell? ⟨gb574, 17, none⟩ = some (.int .i64 a2_17) := (blk_cell BK574.out 17).trans rfl; have hcz39_18 : w38.cell? ⟨gb574, 18, none⟩ = some (.int .i64 a2_18) := (blk_cell BK574.out 18).trans rfl; have hfz39_0 := blk_frozen BK574.out 0; have hfz39_1 := blk_frozen BK574.out 1; have hfz39_2 := blk_frozen BK574.out 2; have hfz39_3 := blk_frozen BK574.out 3; have hfz39_4 := blk_frozen BK574.out 4; have hfz39_5 := blk_frozen BK574.out 5; have hfz39_6 := blk_frozen BK574.out 6; have hfz39_7 := blk_frozen BK574.out 7; have hfz39_8 := blk_frozen BK574.out 8; have hfz39_9 := blk_frozen BK574.out 9; have hfz39_10 := blk_frozen BK574.out 10; have hfz39_11 := blk_frozen BK574.out 11; have hfz39_12 := blk_frozen BK574.out 12; have hfz39_13 := blk_frozen BK574.out 13; have hfz39_14 := blk_frozen BK574.out 14; have hfz39_15 := blk_frozen BK574.out 15; have hfz39_16 := blk_frozen BK574.out 16; have hfz39_17 := blk_frozen BK574.out 17; have hfz39_18 := blk_frozen BK574.out 18; obtain ⟨Ao40, co40, eo40⟩ := Kd.R_slice HO_8.out; subst eo40) | (go_at_call 9; (with_reducible refine (search_Cost.calls k2 a0 _ _ l1 _ _ t576 a2_1 a2_2 a2_3 a2_4 a2_5 a2_6 a2_7 a2_8 a2_9 a2_10 a2_11 a2_12 a2_13 a2_14 a2_15 a2_16 a2_17 a2_18 t598 t599 _ ?side1 ?side2 ?side3 ?side4 A34.out).mono ?_); (case side1 => repeat (first | exact (Kd.C_below HR1.out HB.out) | (with_reducible refine Kd.C_alloc ?_ _) | (with_reducible refine Kd.C_drewN ?_ _) | (with_reducible refine Kd.C_drew ?_))); (case side2 => exact HC1.out); (case side3 => repeat (first | exact (Kd.R_reads' HO_8.out).2.2 | (with_reducible refine Kd.C_alloc ?_ _) | (with_reducible refine Kd.C_drewN ?_ _) | (with_reducible refine Kd.C_drew ?_))); (case side4 => exact (Kd.R_reads' HO_8.out).2.1); rintro e w41 ⟨rfl, hb⟩; have n0_ := Aside0.mk (Kd.R_below (by (with_reducible repeat (first | apply Kd.R_alloc | apply Kd.R_drewN | apply Kd.R_drew)); exact HO_8.out) hb); have n1_ := Aside0.mk (Kd.R_below (by (with_reducible repeat (first | apply Kd.R_alloc | apply Kd.R_drewN | apply Kd.R_drew)); exact HO_11.out) hb); have n2_ := Aside0.mk (blk_below (g := gb574) (o := .cells #[.slice A2_0 l2_0.length c2_0, .int .i64 a2_1, .int .i64 a2_2, .int .i64 a2_3, .int .i64 a2_4, .bool a2_5, .bool a2_6, .bool a2_7, .int .i64 a2_8, .int .i64 a2_9, .int .i64 a2_10, .int .i64 a2_11, .int .i64 a2_12, .int .i64 a2_13, .int .i64 a2_14, .int .i64 a2_15, .int .i64 a2_16, .int .i64 a2_17, .int .i64 a2_18] 27 (0, 0)) (by (with_reducible repeat (first | refine blk_drewN ?_ _ | refine blk_drew ?_ | refine blk_alloc ?_ _)); exact BK574.out) hb); have n3_ := Aside0.mk (below_step (by repeat (first | (with_reducible first | exact HB.out | apply below_alloc | apply pw_below_drewN | apply below_drew1 | refine below_set ?_ GE574.out) | exact HB.out)) hb); clear HO_8; clear HO_11; clear BK574; clear HB; have HO_8 := n0_; have HO_11 := n1_; have BK574 := n2_; have HB := n3_; clear n0_ n1_ n2_ n3_; (try clear hb); (try clear hb2); (try clear hk); (try clear hi))))
                (try simp only [Act.put, List.setIfInBounds_toArray, List.set_cons_zero, List.set_cons_succ])
                go_cut [116] (fun v116 wc => ∃ (kq : Nat) (x116_34 : Bool), v116 = .bool x116_34 ∧ Aside0 (regletlaw14_SearchLeast.j2 kq l1 t575 t576 t579 x11_2 t596 x116_34 = some r) ∧ Aside0 (kq ≤ k2) ∧ Aside0 (Kd.R Kd.bool 4 wc w.heap.size (fun k_ => some k_ ≠ ((.slice Ao37 x11_2.length co37) : Value).ownBlock) (.slice Ao40 t576.length co40) t576) ∧ Aside0 (Kd.R Kd.bool 4 wc w.heap.size (fun k_ => some k_ ≠ ((.slice Ao40 t576.length co40) : Value).ownBlock) (.slice Ao37 x11_2.length co37) x11_2) ∧ Aside0 (wc.heap[gb574]? = some (.cells #[(.slice A2_0 l2_0.length c2_0), .int .i64 a2_1, .int .i64 a2_2, .int .i64 a2_3, .int .i64 a2_4, .bool a2_5, .bool a2_6, .bool a2_7, .int .i64 a2_8, .int .i64 a2_9, .int .i64 a2_10, .int .i64 a2_11, .int .i64 a2_12, .int .i64 a2_13, .int .i64 a2_14, .int .i64 a2_15, .int .i64 a2_16, .int .i64 a2_17, .int .i64 a2_18] 27 (0, 0))) ∧ Aside0 (Below w.heap.size w wc))
                case first =>
                  as_aux_lemma =>
                  have H := HC35.out
                  clear HC35
                  by_cases c42 : t597 = 0
                  · as_aux_lemma =>
                    rw [if_pos c42] at H
                    have c42b0 : (t597 == 0) = true := beq_iff_eq.mpr c42
                    have c42b1 : (t597 != 0) = false := bne_eq_false_iff_eq.mpr c42
                    clear c42
                    (first | rw [c42b0] | (simp only [i64_w, i32_w]; rw [c42b0]) | skip)
                    by_cases c43 : t599 = 0
                    · as_aux_lemma =>
                      rw [if_pos c43] at H
                      have c43b0 : (t599 == 0) = true := beq_iff_eq.mpr c43
                      have c43b1 : (t599 != 0) = false := bne_eq_false_iff_eq.mpr c43
                      clear c43
                      by_cases c44 : t598 = t579
                      · as_aux_lemma =>
                        rw [if_pos c44] at H
                        have c44b0 : (t598 == t579) = true := beq_iff_eq.mpr c44
                        have c44b1 : (t598 != t579) = false := bne_eq_false_iff_eq.mpr c44
                        clear c44
                        have H' := Aside0.mk H
                        clear H
                        go_wp2
                        repeat (go_quiet (fail); try go_wp2)
                        go_meet
                        case rel => exact ⟨_, (decide (t596 < t579)), (by first | rfl | (simp; done) | (simp [*]; done)), H', ⟨by have := HJ4.out; have := HK2.out; first | omega | exact Nat.le_refl _⟩, ⟨by (with_reducible repeat (first | apply Kd.R_alloc | apply Kd.R_drewN | apply Kd.R_drew)); exact HO_8.out⟩, ⟨by (with_reducible repeat (first | apply Kd.R_alloc | apply Kd.R_drewN | apply Kd.R_drew)); exact HO_11.out⟩, ⟨by (with_reducible repeat (first | refine blk_drewN ?_ _ | refine blk_drew ?_ | refine blk_alloc ?_ _)); exact BK574.out⟩, ⟨by repeat (first | (with_reducible first | exact HB.out | apply below_alloc | apply pw_below_drewN | apply below_drew1 | refine below_set ?_ GE574.out) | exact HB.out)⟩⟩
                      · as_aux_lemma =>
                        rw [if_neg c44] at H
                        have c44b0 : (t598 == t579) = false := beq_eq_false_iff_ne.mpr c44
                        have c44b1 : (t598 != t579) = true := bne_iff_ne.mpr c44
                        have H' := Aside0.mk H
                        clear H
                        go_wp2
                        repeat (go_quiet (fail); try go_wp2)
                        go_meet
                        case rel => exact ⟨_, (true), (by first | rfl | (simp; done) | (simp [*]; done)), H', ⟨by have := HJ4.out; have := HK2.out; first | omega | exact Nat.le_refl _⟩, ⟨by (with_reducible repeat (first | apply Kd.R_alloc | apply Kd.R_drewN | apply Kd.R_drew)); exact HO_8.out⟩, ⟨by (with_reducible repeat (first | apply Kd.R_alloc | apply Kd.R_drewN | apply Kd.R_drew)); exact HO_11.out⟩, ⟨by (with_reducible repeat (first | refine blk_drewN ?_ _ | refine blk_drew ?_ | refine blk_alloc ?_ _)); exact BK574.out⟩, ⟨by repeat (first | (with_reducible first | exact HB.out | apply below_alloc | apply pw_below_drewN | apply below_drew1 | refine below_set ?_ GE574.out) | exact HB.out)⟩⟩
                    · as_aux_lemma =>
                      rw [if_neg c43] at H
                      have c43b0 : (t599 == 0) = false := beq_eq_false_iff_ne.mpr c43
                      have c43b1 : (t599 != 0) = true := bne_iff_ne.mpr c43
                      have H' := Aside0.mk H
                      clear H
                      go_wp2
                      repeat (go_quiet (fail); try go_wp2)
                      go_meet
                      case rel => exact ⟨_, (true), (by first | rfl | (simp; done) | (simp [*]; done)), H', ⟨by have := HJ4.out; have := HK2.out; first | omega | exact Nat.le_refl _⟩, ⟨by (with_reducible repeat (first | apply Kd.R_alloc | apply Kd.R_drewN | apply Kd.R_drew)); exact HO_8.out⟩, ⟨by (with_reducible repeat (first | apply Kd.R_alloc | apply Kd.R_drewN | apply Kd.R_drew)); exact HO_11.out⟩, ⟨by (with_reducible repeat (first | refine blk_drewN ?_ _ | refine blk_drew ?_ | refine blk_alloc ?_ _)); exact BK574.out⟩, ⟨by repeat (first | (with_reducible first | exact HB.out | apply below_alloc | apply pw_below_drewN | apply below_drew1 | refine below_set ?_ GE574.out) | exact HB.out)⟩⟩
                  · as_aux_lemma =>
                    rw [if_neg c42] at H
                    have c42b0 : (t597 == 0) = false := beq_eq_false_iff_ne.mpr c42
                    have c42b1 : (t597 != 0) = true := bne_iff_ne.mpr c42
                    (first | rw [c42b0] | (simp only [i64_w, i32_w]; rw [c42b0]) | skip)
                    have H' := Aside0.mk H
                    clear H
                    go_wp2
                    repeat (go_quiet (fail); try go_wp2)
                    go_meet
                    case rel => exact ⟨_, (true), (by first | rfl | (simp; done) | (simp [*]; done)), H', ⟨by have := HJ4.out; have := HK2.out; first | omega | exact Nat.le_refl _⟩, ⟨by (with_reducible repeat (first | apply Kd.R_alloc | apply Kd.R_drewN | apply Kd.R_drew)); exact HO_8.out⟩, ⟨by (with_reducible repeat (first | apply Kd.R_alloc | apply Kd.R_drewN | apply Kd.R_drew)); exact HO_11.out⟩, ⟨by (with_reducible repeat (first | refine blk_drewN ?_ _ | refine blk_drew ?_ | refine blk_alloc ?_ _)); exact BK574.out⟩, ⟨by repeat (first | (with_reducible first | exact HB.out | apply below_alloc | apply pw_below_drewN | apply below_drew1 | refine below_set ?_ GE574.out) | exact HB.out)⟩⟩
                case rest =>
                  as_aux_lemma =>
                  clear HC35
                  try clear c1
                  try clear q1
                  try clear c2
                  try clear p2
                  try clear c3
                  try clear c4
                  try clear p5
                  try clear q5
                  try clear hx5
                  try clear p6
                  try clear c8
                  try clear c8b0
                  try clear c8b1
                  try clear c9
                  try clear c11
                  try clear c11b0
                  try clear c11b1
                  try clear c14
                  try clear c14b0
                  try clear c15
                  try clear c15b0
                  try clear c16
                  try clear c16b0
                  try clear q17
                  try clear c18
                  try clear q19
                  try clear c20
                  try clear c21
                  try clear c24
                  try clear c27
                  try clear c30
                  try clear c42
                  try clear c42b0
                  try clear c42b1
                  try clear c43
                  try clear c43b0
                  try clear c43b1
                  try clear c44
                  try clear c44b0
                  try clear c44b1
                  try clear hcz12_0
                  try clear hcz12_1
                  try clear hcz12_10
                  try clear hcz12_11
                  try clear hcz12_12
                  try clear hcz12_13
                  try clear hcz12_14
                  try clear hcz12_15
                  try clear hcz12_16
                  try clear hcz12_17
                  try clear hcz12_18
                  try clear hcz12_2
                  try clear hcz12_3
                  try clear hcz12_4
                  try clear hcz12_5
                  try clear hcz12_6
                  try clear hcz12_7
                  try clear hcz12_8
                  try clear hcz12_9
                  try clear hcz22_0
                  try clear hcz22_1
                  try clear hcz22_10
                  try clear hcz22_11
                  try clear hcz22_12
                  try clear hcz22_13
                  try clear hcz22_14
                  try clear hcz22_15
                  try clear hcz22_16
                  try clear hcz22_17
                  try clear hcz22_18
                  try clear hcz22_2
                  try clear hcz22_3
                  try clear hcz22_4
                  try clear hcz22_5
                  try clear hcz22_6
                  try clear hcz22_7
                  try clear hcz22_8
                  try clear hcz22_9
                  try clear hcz25_0
                  try clear hcz25_1
                  try clear hcz25_10
                  try clear hcz25_11
                  try clear hcz25_12
                  try clear hcz25_13
                  try clear hcz25_14
                  try clear hcz25_15
                  try clear hcz25_16
                  try clear hcz25_17
                  try clear hcz25_18
                  try clear hcz25_2
                  try clear hcz25_3
                  try clear hcz25_4
                  try clear hcz25_5
                  try clear hcz25_6
                  try clear hcz25_7
                  try clear hcz25_8
                  try clear hcz25_9
                  try clear hcz28_0
                  try clear hcz28_1
                  try clear hcz28_10
                  try clear hcz28_11
                  try clear hcz28_12
                  try clear hcz28_13
                  try clear hcz28_14
                  try clear hcz28_15
                  try clear hcz28_16
                  try clear hcz28_17
                  try clear hcz28_18
                  try clear hcz28_2
                  try clear hcz28_3
                  try clear hcz28_4
                  try clear hcz28_5
                  try clear hcz28_6
                  try clear hcz28_7
                  try clear hcz28_8
                  try clear hcz28_9
                  try clear hcz31_0
                  try clear hcz31_1
                  try clear hcz31_10
                  try clear hcz31_11
                  try clear hcz31_12
                  try clear hcz31_13
                  try clear hcz31_14
                  try clear hcz31_15
                  try clear hcz31_16
                  try clear hcz31_17
                  try clear hcz31_18
                  try clear hcz31_2
                  try clear hcz31_3
                  try clear hcz31_4
                  try clear hcz31_5
                  try clear hcz31_6
                  try clear hcz31_7
                  try clear hcz31_8
                  try clear hcz31_9
                  try clear hcz36_0
                  try clear hcz36_1
                  try clear hcz36_10
                  try clear hcz36_11
                  try clear hcz36_12
                  try clear hcz36_13
                  try clear hcz36_14
                  try clear hcz36_15
                  try clear hcz36_16
                  try clear hcz36_17
                  try clear hcz36_18
                  try clear hcz36_2
                  try clear hcz36_3
                  try clear hcz36_4
                  try clear hcz36_5
                  try clear hcz36_6
                  try clear hcz36_7
                  try clear hcz36_8
                  try clear hcz36_9
                  try clear hcz39_0
                  try clear hcz39_1
                  try clear hcz39_10
                  try clear hcz39_11
                  try clear hcz39_12
                  try clear hcz39_13
                  try clear hcz39_14
                  try clear hcz39_15
                  try clear hcz39_16
                  try clear hcz39_17
                  try clear hcz39_18
                  try clear hcz39_2
                  try clear hcz39_3
                  try clear hcz39_4
                  try clear hcz39_5
                  try clear hcz39_6
                  try clear hcz39_7
                  try clear hcz39_8
                  try clear hcz39_9
                  try clear hfz12_0
                  try clear hfz12_1
                  try clear hfz12_10
                  try clear hfz12_11
                  try clear hfz12_12
                  try clear hfz12_13
                  try clear hfz12_14
                  try clear hfz12_15
                  try clear hfz12_16
                  try clear hfz12_17
                  try clear hfz12_18
                  try clear hfz12_2
                  try clear hfz12_3
                  try clear hfz12_4
                  try clear hfz12_5
                  try clear hfz12_6
                  try clear hfz12_7
                  try clear hfz12_8
                  try clear hfz12_9
                  try clear hfz22_0
                  try clear hfz22_1
                  try clear hfz22_10
                  try clear hfz22_11
                  try clear hfz22_12
                  try clear hfz22_13
                  try clear hfz22_14
                  try clear hfz22_15
                  try clear hfz22_16
                  try clear hfz22_17
                  try clear hfz22_18
                  try clear hfz22_2
                  try clear hfz22_3
                  try clear hfz22_4
                  try clear hfz22_5
                  try clear hfz22_6
                  try clear hfz22_7
                  try clear hfz22_8
                  try clear hfz22_9
                  try clear hfz25_0
                  try clear hfz25_1
                  try clear hfz25_10
                  try clear hfz25_11
                  try clear hfz25_12
                  try clear hfz25_13
                  try clear hfz25_14
                  try clear hfz25_15
                  try clear hfz25_16
                  try clear hfz25_17
                  try clear hfz25_18
                  try clear hfz25_2
                  try clear hfz25_3
                  try clear hfz25_4
                  try clear hfz25_5
                  try clear hfz25_6
                  try clear hfz25_7
                  try clear hfz25_8
                  try clear hfz25_9
                  try clear hfz28_0
                  try clear hfz28_1
                  try clear hfz28_10
                  try clear hfz28_11
                  try clear hfz28_12
                  try clear hfz28_13
                  try clear hfz28_14
                  try clear hfz28_15
                  try clear hfz28_16
                  try clear hfz28_17
                  try clear hfz28_18
                  try clear hfz28_2
                  try clear hfz28_3
                  try clear hfz28_4
                  try clear hfz28_5
                  try clear hfz28_6
                  try clear hfz28_7
                  try clear hfz28_8
                  try clear hfz28_9
                  try clear hfz31_0
                  try clear hfz31_1
                  try clear hfz31_10
                  try clear hfz31_11
                  try clear hfz31_12
                  try clear hfz31_13
                  try clear hfz31_14
                  try clear hfz31_15
                  try clear hfz31_16
                  try clear hfz31_17
                  try clear hfz31_18
                  try clear hfz31_2
                  try clear hfz31_3
                  try clear hfz31_4
                  try clear hfz31_5
                  try clear hfz31_6
                  try clear hfz31_7
                  try clear hfz31_8
                  try clear hfz31_9
                  try clear hfz36_0
                  try clear hfz36_1
                  try clear hfz36_10
                  try clear hfz36_11
                  try clear hfz36_12
                  try clear hfz36_13
                  try clear hfz36_14
                  try clear hfz36_15
                  try clear hfz36_16
                  try clear hfz36_17
                  try clear hfz36_18
                  try clear hfz36_2
                  try clear hfz36_3
                  try clear hfz36_4
                  try clear hfz36_5
                  try clear hfz36_6
                  try clear hfz36_7
                  try clear hfz36_8
                  try clear hfz36_9
                  try clear hfz39_0
                  try clear hfz39_1
                  try clear hfz39_10
                  try clear hfz39_11
                  try clear hfz39_12
                  try clear hfz39_13
                  try clear hfz39_14
                  try clear hfz39_15
                  try clear hfz39_16
                  try clear hfz39_17
                  try clear hfz39_18
                  try clear hfz39_2
                  try clear hfz39_3
                  try clear hfz39_4
                  try clear hfz39_5
                  try clear hfz39_6
                  try clear hfz39_7
                  try clear hfz39_8
                  try clear hfz39_9
                  try clear hx581_0
                  try clear hx581_1
                  try clear hx581_2
                  try clear hx581_3
                  try clear hx581_4
                  try clear hx581_5
                  try clear hx582_0
                  try clear hx583_0
                  try clear hx583_1
                  try clear hx583_2
                  try clear hx583_3
                  try clear hx583_4
                  try clear hx583_5
                  try clear p2
                  try clear p581
                  try clear p582
                  try clear p583
                  try clear q581
                  try clear q582
                  try clear q583
                  obtain ⟨kq, x116_34, rfl, HA, HJ34, HO_8, HO_11, BK574, HB⟩ := hcut
                  cases kq with
                  | zero => exact absurd HA.out (by simp [regletlaw14_SearchLeast.j2])
                  | succ kj34 =>
                    have H := HA.out
                    clear HA
                    simp only [regletlaw14_SearchLeast.j2] at H
                    by_cases c45 : x116_34 = true
                    · as_aux_lemma =>
                      subst c45
                      have H1 : (some false) = some r := by rw [if_pos rfl] at H; exact H
                      clear H
                      have H := H1
                      clear H1
                      obtain rfl := Option.some.inj H
                      go_wp2
                      repeat (go_quiet (fail); try go_wp2)
                      go_ret
                      exact ⟨by first | rfl | (simp [errW_none, errW_some] <;> rfl) | (simp [*, errW_none, errW_some] <;> rfl), by repeat (first | (with_reducible first | exact HB.out | apply below_alloc | apply pw_below_drewN | apply below_drew1 | refine below_set ?_ GE574.out) | exact HB.out)⟩
                    · as_aux_lemma =>
                      replace c45 := Bool.eq_false_iff.mpr c45
                      subst c45
                      have H1 : (regletlaw14_SearchLeast.l1 kj34 l1 t575 t576 t579 x11_2 t596 0) = some r := by rw [if_neg (show ¬ (false = true) by decide)] at H; exact H
                      clear H
                      have H := H1
                      clear H1
                      have H' := Aside0.mk H
                      clear H
                      go_wp2
                      repeat (go_quiet (fail); try go_wp2)
                      go_loopg [18] kj34 (fun kq v18 w' => ∃ (x18_4 : Int), v18 = .int .i64 x18_4 ∧ Aside0 (regletlaw14_SearchLeast.l1 kq l1 t575 t576 t579 x11_2 t596 x18_4 = some r) ∧ Aside0 (kq ≤ kj34) ∧ Aside0 (Kd.R Kd.bool 4 w' w.heap.size (fun k_ => some k_ ≠ ((.slice Ao37 x11_2.length co37) : Value).ownBlock) (.slice Ao40 t576.length co40) t576) ∧ Aside0 (Kd.R Kd.bool 4 w' w.heap.size (fun k_ => some k_ ≠ ((.slice Ao40 t576.length co40) : Value).ownBlock) (.slice Ao37 x11_2.length co37) x11_2) ∧ Aside0 (w'.heap[gb574]? = some (.cells #[(.slice A2_0 l2_0.length c2_0), .int .i64 a2_1, .int .i64 a2_2, .int .i64 a2_3, .int .i64 a2_4, .bool a2_5, .bool a2_6, .bool a2_7, .int .i64 a2_8, .int .i64 a2_9, .int .i64 a2_10, .int .i64 a2_11, .int .i64 a2_12, .int .i64 a2_13, .int .i64 a2_14, .int .i64 a2_15, .int .i64 a2_16, .int .i64 a2_17, .int .i64 a2_18] 27 (0, 0))) ∧ Aside0 (Below w.heap.size w w'))
                      case atStart => exact ⟨(0), (by first | rfl | (simp; done) | (simp [*]; done)), H', ⟨Nat.le_refl _⟩, ⟨by (with_reducible repeat (first | apply Kd.R_alloc | apply Kd.R_drewN | apply Kd.R_drew)); exact HO_8.out⟩, ⟨by (with_reducible repeat (first | apply Kd.R_alloc | apply Kd.R_drewN | apply Kd.R_drew)); exact HO_11.out⟩, ⟨by (with_reducible repeat (first | refine blk_drewN ?_ _ | refine blk_drew ?_ | refine blk_alloc ?_ _)); exact BK574.out⟩, ⟨by repeat (first | (with_reducible first | exact HB.out | apply below_alloc | apply pw_below_drewN | apply below_drew1 | refine below_set ?_ GE574.out) | exact HB.out)⟩⟩
                      case round =>
                        as_aux_lemma =>
                        clear H'
                        try clear c1
                        try clear q1
                        try clear c2
                        try clear p2
                        try clear c3
                        try clear c4
                        try clear p5
                        try clear q5
                        try clear hx5
                        try clear p6
                        try clear c8
                        try clear c8b0
                        try clear c8b1
                        try clear c9
                        try clear c11
                        try clear c11b0
                        try clear c11b1
                        try clear c14
                        try clear c14b0
                        try clear c15
                        try clear c15b0
                        try clear c16
                        try clear c16b0
                        try clear q17
                        try clear c18
                        try clear q19
                        try clear c20
                        try clear c21
                        try clear c24
                        try clear c27
                        try clear c30
                        try clear c42
                        try clear c42b0
                        try clear c42b1
                        try clear c43
                        try clear c43b0
                        try clear c43b1
                        try clear c44
                        try clear c44b0
                        try clear c44b1
                        try clear c45
                        try clear hcz12_0
                        try clear hcz12_1
                        try clear hcz12_10
                        try clear hcz12_11
                        try clear hcz12_12
                        try clear hcz12_13
                        try clear hcz12_14
                        try clear hcz12_15
                        try clear hcz12_16
                        try clear hcz12_17
                        try clear hcz12_18
                        try clear hcz12_2
                        try clear hcz12_3
                        try clear hcz12_4
                        try clear hcz12_5
                        try clear hcz12_6
                        try clear hcz12_7
                        try clear hcz12_8
                        try clear hcz12_9
                        try clear hcz22_0
                        try clear hcz22_1
                        try clear hcz22_10
                        try clear hcz22_11
                        try clear hcz22_12
                        try clear hcz22_13
                        try clear hcz22_14
                        try clear hcz22_15
                        try clear hcz22_16
                        try clear hcz22_17
                        try clear hcz22_18
                        try clear hcz22_2
                        try clear hcz22_3
                        try clear hcz22_4
                        try clear hcz22_5
                        try clear hcz22_6
                        try clear hcz22_7
                        try clear hcz22_8
                        try clear hcz22_9
                        try clear hcz25_0
                        try clear hcz25_1
                        try clear hcz25_10
                        try clear hcz25_11
                        try clear hcz25_12
                        try clear hcz25_13
                        try clear hcz25_14
                        try clear hcz25_15
                        try clear hcz25_16
                        try clear hcz25_17
                        try clear hcz25_18
                        try clear hcz25_2
                        try clear hcz25_3
                        try clear hcz25_4
                        try clear hcz25_5
                        try clear hcz25_6
                        try clear hcz25_7
                        try clear hcz25_8
                        try clear hcz25_9
                        try clear hcz28_0
                        try clear hcz28_1
                        try clear hcz28_10
                        try clear hcz28_11
                        try clear hcz28_12
                        try clear hcz28_13
                        try clear hcz28_14
                        try clear hcz28_15
                        try clear hcz28_16
                        try clear hcz28_17
                        try clear hcz28_18
                        try clear hcz28_2
                        try clear hcz28_3
                        try clear hcz28_4
                        try clear hcz28_5
                        try clear hcz28_6
                        try clear hcz28_7
                        try clear hcz28_8
                        try clear hcz28_9
                        try clear hcz31_0
                        try clear hcz31_1
                        try clear hcz31_10
                        try clear hcz31_11
                        try clear hcz31_12
                        try clear hcz31_13
                        try clear hcz31_14
                        try clear hcz31_15
                        try clear hcz31_16
                        try clear hcz31_17
                        try clear hcz31_18
                        try clear hcz31_2
                        try clear hcz31_3
                        try clear hcz31_4
                        try clear hcz31_5
                        try clear hcz31_6
                        try clear hcz31_7
                        try clear hcz31_8
                        try clear hcz31_9
                        try clear hcz36_0
                        try clear hcz36_1
                        try clear hcz36_10
                        try clear hcz36_11
                        try clear hcz36_12
                        try clear hcz36_13
                        try clear hcz36_14
                        try clear hcz36_15
                        try clear hcz36_16
                        try clear hcz36_17
                        try clear hcz36_18
                        try clear hcz36_2
                        try clear hcz36_3
                        try clear hcz36_4
                        try clear hcz36_5
                        try clear hcz36_6
                        try clear hcz36_7
                        try clear hcz36_8
                        try clear hcz36_9
                        try clear hcz39_0
                        try clear hcz39_1
                        try clear hcz39_10
                        try clear hcz39_11
                        try clear hcz39_12
                        try clear hcz39_13
                        try clear hcz39_14
                        try clear hcz39_15
                        try clear hcz39_16
                        try clear hcz39_17
                        try clear hcz39_18
                        try clear hcz39_2
                        try clear hcz39_3
                        try clear hcz39_4
                        try clear hcz39_5
                        try clear hcz39_6
                        try clear hcz39_7
                        try clear hcz39_8
                        try clear hcz39_9
                        try clear hfz12_0
                        try clear hfz12_1
                        try clear hfz12_10
                        try clear hfz12_11
                        try clear hfz12_12
                        try clear hfz12_13
                        try clear hfz12_14
                        try clear hfz12_15
                        try clear hfz12_16
                        try clear hfz12_17
                        try clear hfz12_18
                        try clear hfz12_2
                        try clear hfz12_3
                        try clear hfz12_4
                        try clear hfz12_5
                        try clear hfz12_6
                        try clear hfz12_7
                        try clear hfz12_8
                        try clear hfz12_9
                        try clear hfz22_0
                        try clear hfz22_1
                        try clear hfz22_10
                        try clear hfz22_11
                        try clear hfz22_12
                        try clear hfz22_13
                        try clear hfz22_14
                        try clear hfz22_15
                        try clear hfz22_16
                        try clear hfz22_17
                        try clear hfz22_18
                        try clear hfz22_2
                        try clear hfz22_3
                        try clear hfz22_4
                        try clear hfz22_5
                        try clear hfz22_6
                        try clear hfz22_7
                        try clear hfz22_8
                        try clear hfz22_9
                        try clear hfz25_0
                        try clear hfz25_1
                        try clear hfz25_10
                        try clear hfz25_11
                        try clear hfz25_12
                        try clear hfz25_13
                        try clear hfz25_14
                        try clear hfz25_15
                        try clear hfz25_16
                        try clear hfz25_17
                        try clear hfz25_18
                        try clear hfz25_2
                        try clear hfz25_3
                        try clear hfz25_4
                        try clear hfz25_5
                        try clear hfz25_6
                        try clear hfz25_7
                        try clear hfz25_8
                        try clear hfz25_9
                        try clear hfz28_0
                        try clear hfz28_1
                        try clear hfz28_10
                        try clear hfz28_11
                        try clear hfz28_12
                        try clear hfz28_13
                        try clear hfz28_14
                        try clear hfz28_15
                        try clear hfz28_16
                        try clear hfz28_17
                        try clear hfz28_18
                        try clear hfz28_2
                        try clear hfz28_3
                        try clear hfz28_4
                        try clear hfz28_5
                        try clear hfz28_6
                        try clear hfz28_7
                        try clear hfz28_8
                        try clear hfz28_9
                        try clear hfz31_0
                        try clear hfz31_1
                        try clear hfz31_10
                        try clear hfz31_11
                        try clear hfz31_12
                        try clear hfz31_13
                        try clear hfz31_14
                        try clear hfz31_15
                        try clear hfz31_16
                        try clear hfz31_17
                        try clear hfz31_18
                        try clear hfz31_2
                        try clear hfz31_3
                        try clear hfz31_4
                        try clear hfz31_5
                        try clear hfz31_6
                        try clear hfz31_7
                        try clear hfz31_8
                        try clear hfz31_9
                        try clear hfz36_0
                        try clear hfz36_1
                        try clear hfz36_10
                        try clear hfz36_11
                        try clear hfz36_12
                        try clear hfz36_13
                        try clear hfz36_14
                        try clear hfz36_15
                        try clear hfz36_16
                        try clear hfz36_17
                        try clear hfz36_18
                        try clear hfz36_2
                        try clear hfz36_3
                        try clear hfz36_4
                        try clear hfz36_5
                        try clear hfz36_6
                        try clear hfz36_7
                        try clear hfz36_8
                        try clear hfz36_9
                        try clear hfz39_0
                        try clear hfz39_1
                        try clear hfz39_10
                        try clear hfz39_11
                        try clear hfz39_12
                        try clear hfz39_13
                        try clear hfz39_14
                        try clear hfz39_15
                        try clear hfz39_16
                        try clear hfz39_17
                        try clear hfz39_18
                        try clear hfz39_2
                        try clear hfz39_3
                        try clear hfz39_4
                        try clear hfz39_5
                        try clear hfz39_6
                        try clear hfz39_7
                        try clear hfz39_8
                        try clear hfz39_9
                        try clear hx581_0
                        try clear hx581_1
                        try clear hx581_2
                        try clear hx581_3
                        try clear hx581_4
                        try clear hx581_5
                        try clear hx582_0
                        try clear hx583_0
                        try clear hx583_1
                        try clear hx583_2
                        try clear hx583_3
                        try clear hx583_4
                        try clear hx583_5
                        try clear p2
                        try clear p5
                        try clear p581
                        try clear p582
                        try clear p583
                        try clear p6
                        try clear q1
                        try clear q17
                        try clear q19
                        try clear q5
                        try clear q581
                        try clear q582
                        try clear q583
                        obtain ⟨x18_4, rfl, HA, HK4, HO_8, HO_11, BK574, HB⟩ := hrel
                        cases gk with
                        | zero => exact absurd HA.out (by simp [regletlaw14_SearchLeast.l1])
                        | succ k4 =>
                          have H := HA.out
                          clear HA
                          simp only [regletlaw14_SearchLeast.l1] at H
                          by_cases c46 : x18_4 < (l1.length : Int)
                          · as_aux_lemma =>
                            rw [if_pos c46] at H
                            have c46b0 : decide (x18_4 < (l1.length : Int)) = true := decide_eq_true c46
                            clear c46
                            by_cases c47 : 0 ≤ x18_4
                            · as_aux_lemma =>
                              rw [if_pos c47] at H
                              have c47b0 : decide (0 ≤ x18_4) = true := decide_eq_true c47
                              clear c47
                              by_cases c48 : x18_4 < (x11_2.length : Int)
                              · as_aux_lemma =>
                                rw [if_pos c48] at H
                                have c48b0 : decide (x18_4 < (x11_2.length : Int)) = true := decide_eq_true c48
                                clear c48
                                by_cases c49 : x18_4 < (t576.length : Int)
                                · as_aux_lemma =>
                                  rw [if_pos c49] at H
                                  have c49b0 : decide (x18_4 < (t576.length : Int)) = true := decide_eq_true c49
                                  clear c49
                                  by_cases c50 : ((rdOf false x11_2 x18_4) != (rdOf false t576 x18_4)) = true
                                  · as_aux_lemma =>
                                    rw [if_pos c50] at H
                                    have c50b0 : ((rdOf false x11_2 x18_4) != (rdOf false t576 x18_4)) = true := c50
                                    (try (have c50b1 : decide ((rdOf false x11_2 x18_4) = (rdOf false t576 x18_4)) = false := by simpa using c50))
                                    (try (have c50b2 : ((rdOf false x11_2 x18_4) == (rdOf false t576 x18_4)) = false := by simpa using c50))
                                    (try (have c50b3 : ¬ ((rdOf false x11_2 x18_4) = (rdOf false t576 x18_4)) := by simpa using c50))
                                    clear c50
                                    by_cases c51 : t575 = true
                                    · as_aux_lemma =>
                                      subst c51
                                      have H1 : (if t596 > t579 then (some true) else (some (rdOf false x11_2 x18_4))) = some r := by rw [if_pos rfl] at H; exact H
                                      clear H
                                      have H := H1
                                      clear H1
                                      by_cases c52 : t596 > t579
                                      · as_aux_lemma =>
                                        rw [if_pos c52] at H
                                        have c52b0 : decide (t579 < t596) = true := decide_eq_true c52
                                        clear c52
                                        obtain rfl := Option.some.inj H
                                        have p600 : 0 ≤ (x18_4 : Int) := of_decide_eq_true (by first | (with_reducible assumption) | assumption)
                                        have q600 : x18_4 < (x11_2.length : Int) := of_decide_eq_true (by first | (with_reducible assumption) | assumption)
                                        obtain ⟨ad600, e600, hx600_0⟩ := Kd.at_bool (Kd.R_reads' HO_11.out).2.2 x18_4 p600 q600
                                        cases e600
                                        replace p600 := eq_true p600
                                        replace q600 := eq_true q600
                                        have p601 : 0 ≤ (x18_4 : Int) := of_decide_eq_true (by first | (with_reducible assumption) | assumption)
                                        have q601 : x18_4 < (t576.length : Int) := of_decide_eq_true (by first | (with_reducible assumption) | assumption)
                                        obtain ⟨ad601, e601, hx601_0⟩ := Kd.at_bool (Kd.R_reads' HO_8.out).2.2 x18_4 p601 q601
                                        cases e601
                                        replace p601 := eq_true p601
                                        replace q601 := eq_true q601
                                        go_wp2
                                        repeat (go_quiet (fail); try go_wp2)
                                        go_ret
                                        exact ⟨by first | rfl | (simp [errW_none, errW_some] <;> rfl) | (simp [*, errW_none, errW_some] <;> rfl), by repeat (first | (with_reducible first | exact HB.out | apply below_alloc | apply pw_below_drewN | apply below_drew1 | refine below_set ?_ GE574.out) | exact HB.out)⟩
                                      · as_aux_lemma =>
                                        rw [if_neg c52] at H
                                        have c52b0 : decide (t579 < t596) = false := decide_eq_false c52
                                        clear c52
                                        obtain rfl := Option.some.inj H
                                        have p600 : 0 ≤ (x18_4 : Int) := of_decide_eq_true (by first | (with_reducible assumption) | assumption)
                                        have q600 : x18_4 < (x11_2.length : Int) := of_decide_eq_true (by first | (with_reducible assumption) | assumption)
                                        obtain ⟨ad600, e600, hx600_0⟩ := Kd.at_bool (Kd.R_reads' HO_11.out).2.2 x18_4 p600 q600
                                        cases e600
                                        replace p600 := eq_true p600
                                        replace q600 := eq_true q600
                                        have p601 : 0 ≤ (x18_4 : Int) := of_decide_eq_true (by first | (with_reducible assumption) | assumption)
                                        have q601 : x18_4 < (t576.length : Int) := of_decide_eq_true (by first | (with_reducible assumption) | assumption)
                                        obtain ⟨ad601, e601, hx601_0⟩ := Kd.at_bool (Kd.R_reads' HO_8.out).2.2 x18_4 p601 q601
                                        cases e601
                                        replace p601 := eq_true p601
                                        replace q601 := eq_true q601
                                        have p602 : 0 ≤ (x18_4 : Int) := of_decide_eq_true (by first | (with_reducible assumption) | assumption)
                                        have q602 : x18_4 < (x11_2.length : Int) := of_decide_eq_true (by first | (with_reducible assumption) | assumption)
                                        obtain ⟨ad602, e602, hx602_0⟩ := Kd.at_bool (Kd.R_reads' HO_11.out).2.2 x18_4 p602 q602
                                        obtain rfl : ad600 = ad602 := (by injection e602)
                                        replace p602 := eq_true p602
                                        replace q602 := eq_true q602
                                        go_wp2
                                        repeat (go_quiet (fail); try go_wp2)
                                        go_ret
                                        exact ⟨by first | rfl | (simp [errW_none, errW_some] <;> rfl) | (simp [*, errW_none, errW_some] <;> rfl), by repeat (first | (with_reducible first | exact HB.out | apply below_alloc | apply pw_below_drewN | apply below_drew1 | refine below_set ?_ GE574.out) | exact HB.out)⟩
                                    · as_aux_lemma =>
                                      replace c51 := Bool.eq_false_iff.mpr c51
                                      subst c51
                                      have H1 : (some false) = some r := by rw [if_neg (show ¬ (false = true) by decide)] at H; exact H
                                      clear H
                                      have H := H1
                                      clear H1
                                      obtain rfl := Option.some.inj H
                                      have p600 : 0 ≤ (x18_4 : Int) := of_decide_eq_true (by first | (with_reducible assumption) | assumption)
                                      have q600 : x18_4 < (x11_2.length : Int) := of_decide_eq_true (by first | (with_reducible assumption) | assumption)
                                      obtain ⟨ad600, e600, hx600_0⟩ := Kd.at_bool (Kd.R_reads' HO_11.out).2.2 x18_4 p600 q600
                                      cases e600
                                      replace p600 := eq_true p600
                                      replace q600 := eq_true q600
                                      have p601 : 0 ≤ (x18_4 : Int) := of_decide_eq_true (by first | (with_reducible assumption) | assumption)
                                      have q601 : x18_4 < (t576.length : Int) := of_decide_eq_true (by first | (with_reducible assumption) | assumption)
                                      obtain ⟨ad601, e601, hx601_0⟩ := Kd.at_bool (Kd.R_reads' HO_8.out).2.2 x18_4 p601 q601
                                      cases e601
                                      replace p601 := eq_true p601
                                      replace q601 := eq_true q601
                                      go_wp2
                                      repeat (go_quiet (fail); try go_wp2)
                                      go_ret
                                      exact ⟨by first | rfl | (simp [errW_none, errW_some] <;> rfl) | (simp [*, errW_none, errW_some] <;> rfl), by repeat (first | (with_reducible first | exact HB.out | apply below_alloc | apply pw_below_drewN | apply below_drew1 | refine below_set ?_ GE574.out) | exact HB.out)⟩
                                  · as_aux_lemma =>
                                    rw [if_neg c50] at H
                                    have c50b0 : ((rdOf false x11_2 x18_4) != (rdOf false t576 x18_4)) = false := by simpa using c50
                                    (try (have c50b1 : decide ((rdOf false x11_2 x18_4) = (rdOf false t576 x18_4)) = true := by simpa using c50))
                                    (try (have c50b2 : ((rdOf false x11_2 x18_4) == (rdOf false t576 x18_4)) = true := by simpa using c50))
                                    clear c50
                                    have H' := Aside0.mk H
                                    clear H
                                    have p600 : 0 ≤ (x18_4 : Int) := of_decide_eq_true (by first | (with_reducible assumption) | assumption)
                                    have q600 : x18_4 < (x11_2.length : Int) := of_decide_eq_true (by first | (with_reducible assumption) | assumption)
                                    obtain ⟨ad600, e600, hx600_0⟩ := Kd.at_bool (Kd.R_reads' HO_11.out).2.2 x18_4 p600 q600
                                    cases e600
                                    replace p600 := eq_true p600
                                    replace q600 := eq_true q600
                                    have p601 : 0 ≤ (x18_4 : Int) := of_decide_eq_true (by first | (with_reducible assumption) | assumption)
                                    have q601 : x18_4 < (t576.length : Int) := of_decide_eq_true (by first | (with_reducible assumption) | assumption)
                                    obtain ⟨ad601, e601, hx601_0⟩ := Kd.at_bool (Kd.R_reads' HO_8.out).2.2 x18_4 p601 q601
                                    cases e601
                                    replace p601 := eq_true p601
                                    replace q601 := eq_true q601
                                    go_wp2
                                    repeat (go_quiet (fail); try go_wp2)
                                    go_roundg k4
                                    case measure => have := HJ4.out; have := HK2.out; have := HJ34.out; have := HK4.out; omega
                                    case rel => exact ⟨(wrap64 (x18_4 + 1)), (by first | rfl | (simp; done) | (simp [*]; done)), H', ⟨by have := HJ4.out; have := HK2.out; have := HJ34.out; have := HK4.out; omega⟩, ⟨by (with_reducible repeat (first | apply Kd.R_alloc | apply Kd.R_drewN | apply Kd.R_drew)); exact HO_8.out⟩, ⟨by (with_reducible repeat (first | apply Kd.R_alloc | apply Kd.R_drewN | apply Kd.R_drew)); exact HO_11.out⟩, ⟨by (with_reducible repeat (first | refine blk_drewN ?_ _ | refine blk_drew ?_ | refine blk_alloc ?_ _)); exact BK574.out⟩, ⟨by repeat (first | (with_reducible first | exact HB.out | apply below_alloc | apply pw_below_drewN | apply below_drew1 | refine below_set ?_ GE574.out) | exact HB.out)⟩⟩
                                · rw [if_neg c49] at H
                                  exact absurd H (by simp)
                              · rw [if_neg c48] at H
                                exact absurd H (by simp)
                            · rw [if_neg c47] at H
                              exact absurd H (by simp)
                          · as_aux_lemma =>
                            rw [if_neg c46] at H
                            have c46b0 : decide (x18_4 < (l1.length : Int)) = false := decide_eq_false c46
                            clear c46
                            by_cases c53 : t575 = true
                            · as_aux_lemma =>
                              subst c53
                              have H1 : (some (t596 == t579)) = some r := by rw [if_pos rfl] at H; exact H
                              clear H
                              have H := H1
                              clear H1
                              obtain rfl := Option.some.inj H
                              go_wp2
                              repeat (go_quiet (fail); try go_wp2)
                              go_ret
                              exact ⟨by first | rfl | (simp [errW_none, errW_some] <;> rfl) | (simp [*, errW_none, errW_some] <;> rfl), by repeat (first | (with_reducible first | exact HB.out | apply below_alloc | apply pw_below_drewN | apply below_drew1 | refine below_set ?_ GE574.out) | exact HB.out)⟩
                            · as_aux_lemma =>
                              replace c53 := Bool.eq_false_iff.mpr c53
                              subst c53
                              have H1 : (some false) = some r := by rw [if_neg (show ¬ (false = true) by decide)] at H; exact H
                              clear H
                              have H := H1
                              clear H1
                              obtain rfl := Option.some.inj H
                              go_wp2
                              repeat (go_quiet (fail); try go_wp2)
                              go_ret
                              exact ⟨by first | rfl | (simp [errW_none, errW_some] <;> rfl) | (simp [*, errW_none, errW_some] <;> rfl), by repeat (first | (with_reducible first | exact HB.out | apply below_alloc | apply pw_below_drewN | apply below_drew1 | refine below_set ?_ GE574.out) | exact HB.out)⟩
        · as_aux_lemma =>
          rw [if_neg c11] at H
          have c11b0 : (t580 == 0) = false := beq_eq_false_iff_ne.mpr c11
          have c11b1 : (t580 != 0) = true := bne_iff_ne.mpr c11
          by_cases c54 : t575 = true
          · as_aux_lemma =>
            subst c54
            have H1 : (if (t576.length : Int) = 0 then (some (t579 == 0)) else (some false)) = some r := by rw [if_pos rfl] at H; exact H
            clear H
            have H := H1
            clear H1
            by_cases c55 : (t576.length : Int) = 0
            · as_aux_lemma =>
              rw [if_pos c55] at H
              have c55b0 : ((t576.length : Int) == 0) = true := beq_iff_eq.mpr c55
              have c55b1 : ((t576.length : Int) != 0) = false := bne_eq_false_iff_eq.mpr c55
              clear c55
              obtain rfl := Option.some.inj H
              have hcz56_0 : wc.cell? ⟨gb574, 0, none⟩ = some (.slice A2_0 l2_0.length c2_0) := (blk_cell BK574.out 0).trans rfl
              have hcz56_1 : wc.cell? ⟨gb574, 1, none⟩ = some (.int .i64 a2_1) := (blk_cell BK574.out 1).trans rfl
              have hcz56_2 : wc.cell? ⟨gb574, 2, none⟩ = some (.int .i64 a2_2) := (blk_cell BK574.out 2).trans rfl
              have hcz56_3 : wc.cell? ⟨gb574, 3, none⟩ = some (.int .i64 a2_3) := (blk_cell BK574.out 3).trans rfl
              have hcz56_4 : wc.cell? ⟨gb574, 4, none⟩ = some (.int .i64 a2_4) := (blk_cell BK574.out 4).trans rfl
              have hcz56_5 : wc.cell? ⟨gb574, 5, none⟩ = some (.bool a2_5) := (blk_cell BK574.out 5).trans rfl
              have hcz56_6 : wc.cell? ⟨gb574, 6, none⟩ = some (.bool a2_6) := (blk_cell BK574.out 6).trans rfl
              have hcz56_7 : wc.cell? ⟨gb574, 7, none⟩ = some (.bool a2_7) := (blk_cell BK574.out 7).trans rfl
              have hcz56_8 : wc.cell? ⟨gb574, 8, none⟩ = some (.int .i64 a2_8) := (blk_cell BK574.out 8).trans rfl
              have hcz56_9 : wc.cell? ⟨gb574, 9, none⟩ = some (.int .i64 a2_9) := (blk_cell BK574.out 9).trans rfl
              have hcz56_10 : wc.cell? ⟨gb574, 10, none⟩ = some (.int .i64 a2_10) := (blk_cell BK574.out 10).trans rfl
              have hcz56_11 : wc.cell? ⟨gb574, 11, none⟩ = some (.int .i64 a2_11) := (blk_cell BK574.out 11).trans rfl
              have hcz56_12 : wc.cell? ⟨gb574, 12, none⟩ = some (.int .i64 a2_12) := (blk_cell BK574.out 12).trans rfl
              have hcz56_13 : wc.cell? ⟨gb574, 13, none⟩ = some (.int .i64 a2_13) := (blk_cell BK574.out 13).trans rfl
              have hcz56_14 : wc.cell? ⟨gb574, 14, none⟩ = some (.int .i64 a2_14) := (blk_cell BK574.out 14).trans rfl
              have hcz56_15 : wc.cell? ⟨gb574, 15, none⟩ = some (.int .i64 a2_15) := (blk_cell BK574.out 15).trans rfl
              have hcz56_16 : wc.cell? ⟨gb574, 16, none⟩ = some (.int .i64 a2_16) := (blk_cell BK574.out 16).trans rfl
              have hcz56_17 : wc.cell? ⟨gb574, 17, none⟩ = some (.int .i64 a2_17) := (blk_cell BK574.out 17).trans rfl
              have hcz56_18 : wc.cell? ⟨gb574, 18, none⟩ = some (.int .i64 a2_18) := (blk_cell BK574.out 18).trans rfl
              have hfz56_0 := blk_frozen BK574.out 0
              have hfz56_1 := blk_frozen BK574.out 1
              have hfz56_2 := blk_frozen BK574.out 2
              have hfz56_3 := blk_frozen BK574.out 3
              have hfz56_4 := blk_frozen BK574.out 4
              have hfz56_5 := blk_frozen BK574.out 5
              have hfz56_6 := blk_frozen BK574.out 6
              have hfz56_7 := blk_frozen BK574.out 7
              have hfz56_8 := blk_frozen BK574.out 8
              have hfz56_9 := blk_frozen BK574.out 9
              have hfz56_10 := blk_frozen BK574.out 10
              have hfz56_11 := blk_frozen BK574.out 11
              have hfz56_12 := blk_frozen BK574.out 12
              have hfz56_13 := blk_frozen BK574.out 13
              have hfz56_14 := blk_frozen BK574.out 14
              have hfz56_15 := blk_frozen BK574.out 15
              have hfz56_16 := blk_frozen BK574.out 16
              have hfz56_17 := blk_frozen BK574.out 17
              have hfz56_18 := blk_frozen BK574.out 18
              go_wp2_with (first | ((with_reducible refine list_style (st := ⟨a2_1, a2_2, a2_3, a2_4, a2_5, a2_6, a2_7, a2_8, a2_9, a2_10, a2_11, a2_12, a2_13, a2_14, a2_15, a2_16, a2_17, a2_18⟩) gb574 1 ?hs _ rfl ?hw ?hx ?_); (case hw => rfl); (case hx => rfl); (case hs => exact sty_of_blk 1 (by (with_reducible repeat (first | refine blk_drewN ?_ _ | refine blk_drew ?_ | refine blk_alloc ?_ _)); exact BK574.out) rfl)) | ((with_reducible refine list_style (st := ⟨a2_1, a2_2, a2_3, a2_4, a2_5, a2_6, a2_7, a2_8, a2_9, a2_10, a2_11, a2_12, a2_13, a2_14, a2_15, a2_16, a2_17, a2_18⟩) gb574 1 ?hs _ rfl ?hw ?hx ?_); (case hw => rfl); (case hx => rfl); (case hs => exact sty_of_blk 1 (by (with_reducible repeat (first | refine blk_drewN ?_ _ | refine blk_drew ?_ | refine blk_alloc ?_ _)); exact BK574.out) rfl)) | (go_at_call 14; (with_reducible refine (search_Best.calls a0 _ _ l1 a2_1 a2_2 a2_3 a2_4 a2_5 a2_6 a2_7 a2_8 a2_9 a2_10 a2_11 a2_12 a2_13 a2_14 a2_15 a2_16 a2_17 a2_18 t576 t579 t580 _ ?side1 ?side2 A10.out).mono ?_); (case side1 => repeat (first | exact (Kd.C_below HR1.out HB.out) | (with_reducible refine Kd.C_alloc ?_ _) | (with_reducible refine Kd.C_drewN ?_ _) | (with_reducible refine Kd.C_drew ?_))); (case side2 => exact HC1.out); rintro e w57 ⟨v577, rfl, ho0, hb⟩; have n0_ := Aside0.mk (Kd.R_lower ho0 (below_size (by repeat (first | (with_reducible first | exact HB.out | apply below_alloc | apply pw_below_drewN | apply below_drew1 | refine below_set ?_ GE574.out) | exact HB.out)))); have n1_ := Aside0.mk (blk_below (g := gb574) (o := .cells #[.slice A2_0 l2_0.length c2_0, .int .i64 a2_1, .int .i64 a2_2, .int .i64 a2_3, .int .i64 a2_4, .bool a2_5, .bool a2_6, .bool a2_7, .int .i64 a2_8, .int .i64 a2_9, .int .i64 a2_10, .int .i64 a2_11, .int .i64 a2_12, .int .i64 a2_13, .int .i64 a2_14, .int .i64 a2_15, .int .i64 a2_16, .int .i64 a2_17, .int .i64 a2_18] 27 (0, 0)) (by (with_reducible repeat (first | refine blk_drewN ?_ _ | refine blk_drew ?_ | refine blk_alloc ?_ _)); exact BK574.out) hb); have n2_ := Aside0.mk (below_step (by repeat (first | (with_reducible first | exact HB.out | apply below_alloc | apply pw_below_drewN | apply below_drew1 | refine below_set ?_ GE574.out) | exact HB.out)) hb); clear BK574; clear HB; have HO578 := n0_; have BK574 := n1_; have HB := n2_; clear n0_ n1_ n2_; (try clear hb); (try clear hb2); (try clear hk); (try clear hi); (try clear ho0); obtain ⟨Ao58, co58, eo58⟩ := Kd.R_slice HO578.out; subst eo58))
              repeat (go_quiet (first | (go_at_call 14; (with_reducible refine (search_Best.calls a0 _ _ l1 a2_1 a2_2 a2_3 a2_4 a2_5 a2_6 a2_7 a2_8 a2_9 a2_10 a2_11 a2_12 a2_13 a2_14 a2_15 a2_16 a2_17 a2_18 t576 t579 t580 _ ?side1 ?side2 A10.out).mono ?_); (case side1 => repeat (first | exact (Kd.C_below HR1.out HB.out) | (with_reducible refine Kd.C_alloc ?_ _) | (with_reducible refine Kd.C_drewN ?_ _) | (with_reducible refine Kd.C_drew ?_))); (case side2 => exact HC1.out); rintro e w57 ⟨v577, rfl, ho0, hb⟩; have n0_ := Aside0.mk (Kd.R_lower ho0 (below_size (by repeat (first | (with_reducible first | exact HB.out | apply below_alloc | apply pw_below_drewN | apply below_drew1 | refine below_set ?_ GE574.out) | exact HB.out)))); have n1_ := Aside0.mk (blk_below (g := gb574) (o := .cells #[.slice A2_0 l2_0.length c2_0, .int .i64 a2_1, .int .i64 a2_2, .int .i64 a2_3, .int .i64 a2_4, .bool a2_5, .bool a2_6, .bool a2_7, .int .i64 a2_8, .int .i64 a2_9, .int .i64 a2_10, .int .i64 a2_11, .int .i64 a2_12, .int .i64 a2_13, .int .i64 a2_14, .int .i64 a2_15, .int .i64 a2_16, .int .i64 a2_17, .int .i64 a2_18] 27 (0, 0)) (by (with_reducible repeat (first | refine blk_drewN ?_ _ | refine blk_drew ?_ | refine blk_alloc ?_ _)); exact BK574.out) hb); have n2_ := Aside0.mk (below_step (by repeat (first | (with_reducible first | exact HB.out | apply below_alloc | apply pw_below_drewN | apply below_drew1 | refine below_set ?_ GE574.out) | exact HB.out)) hb); clear BK574; clear HB; have HO578 := n0_; have BK574 := n1_; have HB := n2_; clear n0_ n1_ n2_; (try clear hb); (try clear hb2); (try clear hk); (try clear hi); (try clear ho0); obtain ⟨Ao58, co58, eo58⟩ := Kd.R_slice HO578.out; subst eo58)); try go_wp2_with (first | ((with_reducible refine list_style (st := ⟨a2_1, a2_2, a2_3, a2_4, a2_5, a2_6, a2_7, a2_8, a2_9, a2_10, a2_11, a2_12, a2_13, a2_14, a2_15, a2_16, a2_17, a2_18⟩) gb574 1 ?hs _ rfl ?hw ?hx ?_); (case hw => rfl); (case hx => rfl); (case hs => exact sty_of_blk 1 (by (with_reducible repeat (first | refine blk_drewN ?_ _ | refine blk_drew ?_ | refine blk_alloc ?_ _)); exact BK574.out) rfl)) | ((with_reducible refine list_style (st := ⟨a2_1, a2_2, a2_3, a2_4, a2_5, a2_6, a2_7, a2_8, a2_9, a2_10, a2_11, a2_12, a2_13, a2_14, a2_15, a2_16, a2_17, a2_18⟩) gb574 1 ?hs _ rfl ?hw ?hx ?_); (case hw => rfl); (case hx => rfl); (case hs => exact sty_of_blk 1 (by (with_reducible repeat (first | refine blk_drewN ?_ _ | refine blk_drew ?_ | refine blk_alloc ?_ _)); exact BK574.out) rfl)) | (go_at_call 14; (with_reducible refine (search_Best.calls a0 _ _ l1 a2_1 a2_2 a2_3 a2_4 a2_5 a2_6 a2_7 a2_8 a2_9 a2_10 a2_11 a2_12 a2_13 a2_14 a2_15 a2_16 a2_17 a2_18 t576 t579 t580 _ ?side1 ?side2 A10.out).mono ?_); (case side1 => repeat (first | exact (Kd.C_below HR1.out HB.out) | (with_reducible refine Kd.C_alloc ?_ _) | (with_reducible refine Kd.C_drewN ?_ _) | (with_reducible refine Kd.C_drew ?_))); (case side2 => exact HC1.out); rintro e w57 ⟨v577, rfl, ho0, hb⟩; have n0_ := Aside0.mk (Kd.R_lower ho0 (below_size (by repeat (first | (with_reducible first | exact HB.out | apply below_alloc | apply pw_below_drewN | apply below_drew1 | refine below_set ?_ GE574.out) | exact HB.out)))); have n1_ := Aside0.mk (blk_below (g := gb574) (o := .cells #[.slice A2_0 l2_0.length c2_0, .int .i64 a2_1, .int .i64 a2_2, .int .i64 a2_3, .int .i64 a2_4, .bool a2_5, .bool a2_6, .bool a2_7, .int .i64 a2_8, .int .i64 a2_9, .int .i64 a2_10, .int .i64 a2_11, .int .i64 a2_12, .int .i64 a2_13, .int .i64 a2_14, .int .i64 a2_15, .int .i64 a2_16, .int .i64 a2_17, .int .i64 a2_18] 27 (0, 0)) (by (with_reducible repeat (first | refine blk_drewN ?_ _ | refine blk_drew ?_ | refine blk_alloc ?_ _)); exact BK574.out) hb); have n2_ := Aside0.mk (below_step (by repeat (first | (with_reducible first | exact HB.out | apply below_alloc | apply pw_below_drewN | apply below_drew1 | refine below_set ?_ GE574.out) | exact HB.out)) hb); clear BK574; clear HB; have HO578 := n0_; have BK574 := n1_; have HB := n2_; clear n0_ n1_ n2_; (try clear hb); (try clear hb2); (try clear hk); (try clear hi); (try clear ho0); obtain ⟨Ao58, co58, eo58⟩ := Kd.R_slice HO578.out; subst eo58)))
              go_ret
              exact ⟨by first | rfl | (simp [errW_none, errW_some] <;> rfl) | (simp [*, errW_none, errW_some] <;> rfl), by repeat (first | (with_reducible first | exact HB.out | apply below_alloc | apply pw_below_drewN | apply below_drew1 | refine below_set ?_ GE574.out) | exact HB.out)⟩
            · as_aux_lemma =>
              rw [if_neg c55] at H
              have c55b0 : ((t576.length : Int) == 0) = false := beq_eq_false_iff_ne.mpr c55
              have c55b1 : ((t576.length : Int) != 0) = true := bne_iff_ne.mpr c55
              have c55b2 : ¬ (t576 = []) := fun h_ => c55 (by rw [h_]; rfl)
              obtain rfl := Option.some.inj H
              have hcz59_0 : wc.cell? ⟨gb574, 0, none⟩ = some (.slice A2_0 l2_0.length c2_0) := (blk_cell BK574.out 0).trans rfl
              have hcz59_1 : wc.cell? ⟨gb574, 1, none⟩ = some (.int .i64 a2_1) := (blk_cell BK574.out 1).trans rfl
              have hcz59_2 : wc.cell? ⟨gb574, 2, none⟩ = some (.int .i64 a2_2) := (blk_cell BK574.out 2).trans rfl
              have hcz59_3 : wc.cell? ⟨gb574, 3, none⟩ = some (.int .i64 a2_3) := (blk_cell BK574.out 3).trans rfl
              have hcz59_4 : wc.cell? ⟨gb574, 4, none⟩ = some (.int .i64 a2_4) := (blk_cell BK574.out 4).trans rfl
              have hcz59_5 : wc.cell? ⟨gb574, 5, none⟩ = some (.bool a2_5) := (blk_cell BK574.out 5).trans rfl
              have hcz59_6 : wc.cell? ⟨gb574, 6, none⟩ = some (.bool a2_6) := (blk_cell BK574.out 6).trans rfl
              have hcz59_7 : wc.cell? ⟨gb574, 7, none⟩ = some (.bool a2_7) := (blk_cell BK574.out 7).trans rfl
              have hcz59_8 : wc.cell? ⟨gb574, 8, none⟩ = some (.int .i64 a2_8) := (blk_cell BK574.out 8).trans rfl
              have hcz59_9 : wc.cell? ⟨gb574, 9, none⟩ = some (.int .i64 a2_9) := (blk_cell BK574.out 9).trans rfl
              have hcz59_10 : wc.cell? ⟨gb574, 10, none⟩ = some (.int .i64 a2_10) := (blk_cell BK574.out 10).trans rfl
              have hcz59_11 : wc.cell? ⟨gb574, 11, none⟩ = some (.int .i64 a2_11) := (blk_cell BK574.out 11).trans rfl
              have hcz59_12 : wc.cell? ⟨gb574, 12, none⟩ = some (.int .i64 a2_12) := (blk_cell BK574.out 12).trans rfl
              have hcz59_13 : wc.cell? ⟨gb574, 13, none⟩ = some (.int .i64 a2_13) := (blk_cell BK574.out 13).trans rfl
              have hcz59_14 : wc.cell? ⟨gb574, 14, none⟩ = some (.int .i64 a2_14) := (blk_cell BK574.out 14).trans rfl
              have hcz59_15 : wc.cell? ⟨gb574, 15, none⟩ = some (.int .i64 a2_15) := (blk_cell BK574.out 15).trans rfl
              have hcz59_16 : wc.cell? ⟨gb574, 16, none⟩ = some (.int .i64 a2_16) := (blk_cell BK574.out 16).trans rfl
              have hcz59_17 : wc.cell? ⟨gb574, 17, none⟩ = some (.int .i64 a2_17) := (blk_cell BK574.out 17).trans rfl
              have hcz59_18 : wc.cell? ⟨gb574, 18, none⟩ = some (.int .i64 a2_18) := (blk_cell BK574.out 18).trans rfl
              have hfz59_0 := blk_frozen BK574.out 0
              have hfz59_1 := blk_frozen BK574.out 1
              have hfz59_2 := blk_frozen BK574.out 2
              have hfz59_3 := blk_frozen BK574.out 3
              have hfz59_4 := blk_frozen BK574.out 4
              have hfz59_5 := blk_frozen BK574.out 5
              have hfz59_6 := blk_frozen BK574.out 6
              have hfz59_7 := blk_frozen BK574.out 7
              have hfz59_8 := blk_frozen BK574.out 8
              have hfz59_9 := blk_frozen BK574.out 9
              have hfz59_10 := blk_frozen BK574.out 10
              have hfz59_11 := blk_frozen BK574.out 11
              have hfz59_12 := blk_frozen BK574.out 12
              have hfz59_13 := blk_frozen BK574.out 13
              have hfz59_14 := blk_frozen BK574.out 14
              have hfz59_15 := blk_frozen BK574.out 15
              have hfz59_16 := blk_frozen BK574.out 16
              have hfz59_17 := blk_frozen BK574.out 17
              have hfz59_18 := blk_frozen BK574.out 18
              go_wp2_with (first | ((with_reducible refine list_style (st := ⟨a2_1, a2_2, a2_3, a2_4, a2_5, a2_6, a2_7, a2_8, a2_9, a2_10, a2_11, a2_12, a2_13, a2_14, a2_15, a2_16, a2_17, a2_18⟩) gb574 1 ?hs _ rfl ?hw ?hx ?_); (case hw => rfl); (case hx => rfl); (case hs => exact sty_of_blk 1 (by (with_reducible repeat (first | refine blk_drewN ?_ _ | refine blk_drew ?_ | refine blk_alloc ?_ _)); exact BK574.out) rfl)) | ((with_reducible refine list_style (st := ⟨a2_1, a2_2, a2_3, a2_4, a2_5, a2_6, a2_7, a2_8, a2_9, a2_10, a2_11, a2_12, a2_13, a2_14, a2_15, a2_16, a2_17, a2_18⟩) gb574 1 ?hs _ rfl ?hw ?hx ?_); (case hw => rfl); (case hx => rfl); (case hs => exact sty_of_blk 1 (by (with_reducible repeat (first | refine blk_drewN ?_ _ | refine blk_drew ?_ | refine blk_alloc ?_ _)); exact BK574.out) rfl)) | (go_at_call 14; (with_reducible refine (search_Best.calls a0 _ _ l1 a2_1 a2_2 a2_3 a2_4 a2_5 a2_6 a2_7 a2_8 a2_9 a2_10 a2_11 a2_12 a2_13 a2_14 a2_15 a2_16 a2_17 a2_18 t576 t579 t580 _ ?side1 ?side2 A10.out).mono ?_); (case side1 => repeat (first | exact (Kd.C_below HR1.out HB.out) | (with_reducible refine Kd.C_alloc ?_ _) | (with_reducible refine Kd.C_drewN ?_ _) | (with_reducible refine Kd.C_drew ?_))); (case side2 => exact HC1.out); rintro e w60 ⟨v577, rfl, ho0, hb⟩; have n0_ := Aside0.mk (Kd.R_lower ho0 (below_size (by repeat (first | (with_reducible first | exact HB.out | apply below_alloc | apply pw_below_drewN | apply below_drew1 | refine below_set ?_ GE574.out) | exact HB.out)))); have n1_ := Aside0.mk (blk_below (g := gb574) (o := .cells #[.slice A2_0 l2_0.length c2_0, .int .i64 a2_1, .int .i64 a2_2, .int .i64 a2_3, .int .i64 a2_4, .bool a2_5, .bool a2_6, .bool a2_7, .int .i64 a2_8, .int .i64 a2_9, .int .i64 a2_10, .int .i64 a2_11, .int .i64 a2_12, .int .i64 a2_13, .int .i64 a2_14, .int .i64 a2_15, .int .i64 a2_16, .int .i64 a2_17, .int .i64 a2_18] 27 (0, 0)) (by (with_reducible repeat (first | refine blk_drewN ?_ _ | refine blk_drew ?_ | refine blk_alloc ?_ _)); exact BK574.out) hb); have n2_ := Aside0.mk (below_step (by repeat (first | (with_reducible first | exact HB.out | apply below_alloc | apply pw_below_drewN | apply below_drew1 | refine below_set ?_ GE574.out) | exact HB.out)) hb); clear BK574; clear HB; have HO578 := n0_; have BK574 := n1_; have HB := n2_; clear n0_ n1_ n2_; (try clear hb); (try clear hb2); (try clear hk); (try clear hi); (try clear ho0); obtain ⟨Ao61, co61, eo61⟩ := Kd.R_slice HO578.out; subst eo61))
              repeat (go_quiet (first | (go_at_call 14; (with_reducible refine (search_Best.calls a0 _ _ l1 a2_1 a2_2 a2_3 a2_4 a2_5 a2_6 a2_7 a2_8 a2_9 a2_10 a2_11 a2_12 a2_13 a2_14 a2_15 a2_16 a2_17 a2_18 t576 t579 t580 _ ?side1 ?side2 A10.out).mono ?_); (case side1 => repeat (first | exact (Kd.C_below HR1.out HB.out) | (with_reducible refine Kd.C_alloc ?_ _) | (with_reducible refine Kd.C_drewN ?_ _) | (with_reducible refine Kd.C_drew ?_))); (case side2 => exact HC1.out); rintro e w60 ⟨v577, rfl, ho0, hb⟩; have n0_ := Aside0.mk (Kd.R_lower ho0 (below_size (by repeat (first | (with_reducible first | exact HB.out | apply below_alloc | apply pw_below_drewN | apply below_drew1 | refine below_set ?_ GE574.out) | exact HB.out)))); have n1_ := Aside0.mk (blk_below (g := gb574) (o := .cells #[.slice A2_0 l2_0.length c2_0, .int .i64 a2_1, .int .i64 a2_2, .int .i64 a2_3, .int .i64 a2_4, .bool a2_5, .bool a2_6, .bool a2_7, .int .i64 a2_8, .int .i64 a2_9, .int .i64 a2_10, .int .i64 a2_11, .int .i64 a2_12, .int .i64 a2_13, .int .i64 a2_14, .int .i64 a2_15, .int .i64 a2_16, .int .i64 a2_17, .int .i64 a2_18] 27 (0, 0)) (by (with_reducible repeat (first | refine blk_drewN ?_ _ | refine blk_drew ?_ | refine blk_alloc ?_ _)); exact BK574.out) hb); have n2_ := Aside0.mk (below_step (by repeat (first | (with_reducible first | exact HB.out | apply below_alloc | apply pw_below_drewN | apply below_drew1 | refine below_set ?_ GE574.out) | exact HB.out)) hb); clear BK574; clear HB; have HO578 := n0_; have BK574 := n1_; have HB := n2_; clear n0_ n1_ n2_; (try clear hb); (try clear hb2); (try clear hk); (try clear hi); (try clear ho0); obtain ⟨Ao61, co61, eo61⟩ := Kd.R_slice HO578.out; subst eo61)); try go_wp2_with (first | ((with_reducible refine list_style (st := ⟨a2_1, a2_2, a2_3, a2_4, a2_5, a2_6, a2_7, a2_8, a2_9, a2_10, a2_11, a2_12, a2_13, a2_14, a2_15, a2_16, a2_17, a2_18⟩) gb574 1 ?hs _ rfl ?hw ?hx ?_); (case hw => rfl); (case hx => rfl); (case hs => exact sty_of_blk 1 (by (with_reducible repeat (first | refine blk_drewN ?_ _ | refine blk_drew ?_ | refine blk_alloc ?_ _)); exact BK574.out) rfl)) | ((with_reducible refine list_style (st := ⟨a2_1, a2_2, a2_3, a2_4, a2_5, a2_6, a2_7, a2_8, a2_9, a2_10, a2_11, a2_12, a2_13, a2_14, a2_15, a2_16, a2_17, a2_18⟩) gb574 1 ?hs _ rfl ?hw ?hx ?_); (case hw => rfl); (case hx => rfl); (case hs => exact sty_of_blk 1 (by (with_reducible repeat (first | refine blk_drewN ?_ _ | refine blk_drew ?_ | refine blk_alloc ?_ _)); exact BK574.out) rfl)) | (go_at_call 14; (with_reducible refine (search_Best.calls a0 _ _ l1 a2_1 a2_2 a2_3 a2_4 a2_5 a2_6 a2_7 a2_8 a2_9 a2_10 a2_11 a2_12 a2_13 a2_14 a2_15 a2_16 a2_17 a2_18 t576 t579 t580 _ ?side1 ?side2 A10.out).mono ?_); (case side1 => repeat (first | exact (Kd.C_below HR1.out HB.out) | (with_reducible refine Kd.C_alloc ?_ _) | (with_reducible refine Kd.C_drewN ?_ _) | (with_reducible refine Kd.C_drew ?_))); (case side2 => exact HC1.out); rintro e w60 ⟨v577, rfl, ho0, hb⟩; have n0_ := Aside0.mk (Kd.R_lower ho0 (below_size (by repeat (first | (with_reducible first | exact HB.out | apply below_alloc | apply pw_below_drewN | apply below_drew1 | refine below_set ?_ GE574.out) | exact HB.out)))); have n1_ := Aside0.mk (blk_below (g := gb574) (o := .cells #[.slice A2_0 l2_0.length c2_0, .int .i64 a2_1, .int .i64 a2_2, .int .i64 a2_3, .int .i64 a2_4, .bool a2_5, .bool a2_6, .bool a2_7, .int .i64 a2_8, .int .i64 a2_9, .int .i64 a2_10, .int .i64 a2_11, .int .i64 a2_12, .int .i64 a2_13, .int .i64 a2_14, .int .i64 a2_15, .int .i64 a2_16, .int .i64 a2_17, .int .i64 a2_18] 27 (0, 0)) (by (with_reducible repeat (first | refine blk_drewN ?_ _ | refine blk_drew ?_ | refine blk_alloc ?_ _)); exact BK574.out) hb); have n2_ := Aside0.mk (below_step (by repeat (first | (with_reducible first | exact HB.out | apply below_alloc | apply pw_below_drewN | apply below_drew1 | refine below_set ?_ GE574.out) | exact HB.out)) hb); clear BK574; clear HB; have HO578 := n0_; have BK574 := n1_; have HB := n2_; clear n0_ n1_ n2_; (try clear hb); (try clear hb2); (try clear hk); (try clear hi); (try clear ho0); obtain ⟨Ao61, co61, eo61⟩ := Kd.R_slice HO578.out; subst eo61)))
              go_ret
              exact ⟨by first | rfl | (simp [errW_none, errW_some] <;> rfl) | (simp [*, errW_none, errW_some] <;> rfl), by repeat (first | (with_reducible first | exact HB.out | apply below_alloc | apply pw_below_drewN | apply below_drew1 | refine below_set ?_ GE574.out) | exact HB.out)⟩
          · as_aux_lemma =>
            replace c54 := Bool.eq_false_iff.mpr c54
            subst c54
            have H1 : (some false) = some r := by rw [if_neg (show ¬ (false = true) by decide)] at H; exact H
            clear H
            have H := H1
            clear H1
            obtain rfl := Option.some.inj H
            have hcz62_0 : wc.cell? ⟨gb574, 0, none⟩ = some (.slice A2_0 l2_0.length c2_0) := (blk_cell BK574.out 0).trans rfl
            have hcz62_1 : wc.cell? ⟨gb574, 1, none⟩ = some (.int .i64 a2_1) := (blk_cell BK574.out 1).trans rfl
            have hcz62_2 : wc.cell? ⟨gb574, 2, none⟩ = some (.int .i64 a2_2) := (blk_cell BK574.out 2).trans rfl
            have hcz62_3 : wc.cell? ⟨gb574, 3, none⟩ = some (.int .i64 a2_3) := (blk_cell BK574.out 3).trans rfl
            have hcz62_4 : wc.cell? ⟨gb574, 4, none⟩ = some (.int .i64 a2_4) := (blk_cell BK574.out 4).trans rfl
            have hcz62_5 : wc.cell? ⟨gb574, 5, none⟩ = some (.bool a2_5) := (blk_cell BK574.out 5).trans rfl
            have hcz62_6 : wc.cell? ⟨gb574, 6, none⟩ = some (.bool a2_6) := (blk_cell BK574.out 6).trans rfl
            have hcz62_7 : wc.cell? ⟨gb574, 7, none⟩ = some (.bool a2_7) := (blk_cell BK574.out 7).trans rfl
            have hcz62_8 : wc.cell? ⟨gb574, 8, none⟩ = some (.int .i64 a2_8) := (blk_cell BK574.out 8).trans rfl
            have hcz62_9 : wc.cell? ⟨gb574, 9, none⟩ = some (.int .i64 a2_9) := (blk_cell BK574.out 9).trans rfl
            have hcz62_10 : wc.cell? ⟨gb574, 10, none⟩ = some (.int .i64 a2_10) := (blk_cell BK574.out 10).trans rfl
            have hcz62_11 : wc.cell? ⟨gb574, 11, none⟩ = some (.int .i64 a2_11) := (blk_cell BK574.out 11).trans rfl
            have hcz62_12 : wc.cell? ⟨gb574, 12, none⟩ = some (.int .i64 a2_12) := (blk_cell BK574.out 12).trans rfl
            have hcz62_13 : wc.cell? ⟨gb574, 13, none⟩ = some (.int .i64 a2_13) := (blk_cell BK574.out 13).trans rfl
            have hcz62_14 : wc.cell? ⟨gb574, 14, none⟩ = some (.int .i64 a2_14) := (blk_cell BK574.out 14).trans rfl
            have hcz62_15 : wc.cell? ⟨gb574, 15, none⟩ = some (.int .i64 a2_15) := (blk_cell BK574.out 15).trans rfl
            have hcz62_16 : wc.cell? ⟨gb574, 16, none⟩ = some (.int .i64 a2_16) := (blk_cell BK574.out 16).trans rfl
            have hcz62_17 : wc.cell? ⟨gb574, 17, none⟩ = some (.int .i64 a2_17) := (blk_cell BK574.out 17).trans rfl
            have hcz62_18 : wc.cell? ⟨gb574, 18, none⟩ = some (.int .i64 a2_18) := (blk_cell BK574.out 18).trans rfl
            have hfz62_0 := blk_frozen BK574.out 0
            have hfz62_1 := blk_frozen BK574.out 1
            have hfz62_2 := blk_frozen BK574.out 2
            have hfz62_3 := blk_frozen BK574.out 3
            have hfz62_4 := blk_frozen BK574.out 4
            have hfz62_5 := blk_frozen BK574.out 5
            have hfz62_6 := blk_frozen BK574.out 6
            have hfz62_7 := blk_frozen BK574.out 7
            have hfz62_8 := blk_frozen BK574.out 8
            have hfz62_9 := blk_frozen BK574.out 9
            have hfz62_10 := blk_frozen BK574.out 10
            have hfz62_11 := blk_frozen BK574.out 11
            have hfz62_12 := blk_frozen BK574.out 12
            have hfz62_13 := blk_frozen BK574.out 13
            have hfz62_14 := blk_frozen BK574.out 14
            have hfz62_15 := blk_frozen BK574.out 15
            have hfz62_16 := blk_frozen BK574.out 16
            have hfz62_17 := blk_frozen BK574.out 17
            have hfz62_18 := blk_frozen BK574.out 18
            go_wp2_with (first | ((with_reducible refine list_style (st := ⟨a2_1, a2_2, a2_3, a2_4, a2_5, a2_6, a2_7, a2_8, a2_9, a2_10, a2_11, a2_12, a2_13, a2_14, a2_15, a2_16, a2_17, a2_18⟩) gb574 1 ?hs _ rfl ?hw ?hx ?_); (case hw => rfl); (case hx => rfl); (case hs => exact sty_of_blk 1 (by (with_reducible repeat (first | refine blk_drewN ?_ _ | refine blk_drew ?_ | refine blk_alloc ?_ _)); exact BK574.out) rfl)) | ((with_reducible refine list_style (st := ⟨a2_1, a2_2, a2_3, a2_4, a2_5, a2_6, a2_7, a2_8, a2_9, a2_10, a2_11, a2_12, a2_13, a2_14, a2_15, a2_16, a2_17, a2_18⟩) gb574 1 ?hs _ rfl ?hw ?hx ?_); (case hw => rfl); (case hx => rfl); (case hs => exact sty_of_blk 1 (by (with_reducible repeat (first | refine blk_drewN ?_ _ | refine blk_drew ?_ | refine blk_alloc ?_ _)); exact BK574.out) rfl)) | (go_at_call 14; (with_reducible refine (search_Best.calls a0 _ _ l1 a2_1 a2_2 a2_3 a2_4 a2_5 a2_6 a2_7 a2_8 a2_9 a2_10 a2_11 a2_12 a2_13 a2_14 a2_15 a2_16 a2_17 a2_18 t576 t579 t580 _ ?side1 ?side2 A10.out).mono ?_); (case side1 => repeat (first | exact (Kd.C_below HR1.out HB.out) | (with_reducible refine Kd.C_alloc ?_ _) | (with_reducible refine Kd.C_drewN ?_ _) | (with_reducible refine Kd.C_drew ?_))); (case side2 => exact HC1.out); rintro e w63 ⟨v577, rfl, ho0, hb⟩; have n0_ := Aside0.mk (Kd.R_lower ho0 (below_size (by repeat (first | (with_reducible first | exact HB.out | apply below_alloc | apply pw_below_drewN | apply below_drew1 | refine below_set ?_ GE574.out) | exact HB.out)))); have n1_ := Aside0.mk (blk_below (g := gb574) (o := .cells #[.slice A2_0 l2_0.length c2_0, .int .i64 a2_1, .int .i64 a2_2, .int .i64 a2_3, .int .i64 a2_4, .bool a2_5, .bool a2_6, .bool a2_7, .int .i64 a2_8, .int .i64 a2_9, .int .i64 a2_10, .int .i64 a2_11, .int .i64 a2_12, .int .i64 a2_13, .int .i64 a2_14, .int .i64 a2_15, .int .i64 a2_16, .int .i64 a2_17, .int .i64 a2_18] 27 (0, 0)) (by (with_reducible repeat (first | refine blk_drewN ?_ _ | refine blk_drew ?_ | refine blk_alloc ?_ _)); exact BK574.out) hb); have n2_ := Aside0.mk (below_step (by repeat (first | (with_reducible first | exact HB.out | apply below_alloc | apply pw_below_drewN | apply below_drew1 | refine below_set ?_ GE574.out) | exact HB.out)) hb); clear BK574; clear HB; have HO578 := n0_; have BK574 := n1_; have HB := n2_; clear n0_ n1_ n2_; (try clear hb); (try clear hb2); (try clear hk); (try clear hi); (try clear ho0)))
            repeat (go_quiet (first | (go_at_call 14; (with_reducible refine (search_Best.calls a0 _ _ l1 a2_1 a2_2 a2_3 a2_4 a2_5 a2_6 a2_7 a2_8 a2_9 a2_10 a2_11 a2_12 a2_13 a2_14 a2_15 a2_16 a2_17 a2_18 t576 t579 t580 _ ?side1 ?side2 A10.out).mono ?_); (case side1 => repeat (first | exact (Kd.C_below HR1.out HB.out) | (with_reducible refine Kd.C_alloc ?_ _) | (with_reducible refine Kd.C_drewN ?_ _) | (with_reducible refine Kd.C_drew ?_))); (case side2 => exact HC1.out); rintro e w63 ⟨v577, rfl, ho0, hb⟩; have n0_ := Aside0.mk (Kd.R_lower ho0 (below_size (by repeat (first | (with_reducible first | exact HB.out | apply below_alloc | apply pw_below_drewN | apply below_drew1 | refine below_set ?_ GE574.out) | exact HB.out)))); have n1_ := Aside0.mk (blk_below (g := gb574) (o := .cells #[.slice A2_0 l2_0.length c2_0, .int .i64 a2_1, .int .i64 a2_2, .int .i64 a2_3, .int .i64 a2_4, .bool a2_5, .bool a2_6, .bool a2_7, .int .i64 a2_8, .int .i64 a2_9, .int .i64 a2_10, .int .i64 a2_11, .int .i64 a2_12, .int .i64 a2_13, .int .i64 a2_14, .int .i64 a2_15, .int .i64 a2_16, .int .i64 a2_17, .int .i64 a2_18] 27 (0, 0)) (by (with_reducible repeat (first | refine blk_drewN ?_ _ | refine blk_drew ?_ | refine blk_alloc ?_ _)); exact BK574.out) hb); have n2_ := Aside0.mk (below_step (by repeat (first | (with_reducible first | exact HB.out | apply below_alloc | apply pw_below_drewN | apply below_drew1 | refine below_set ?_ GE574.out) | exact HB.out)) hb); clear BK574; clear HB; have HO578 := n0_; have BK574 := n1_; have HB := n2_; clear n0_ n1_ n2_; (try clear hb); (try clear hb2); (try clear hk); (try clear hi); (try clear ho0))); try go_wp2_with (first | ((with_reducible refine list_style (st := ⟨a2_1, a2_2, a2_3, a2_4, a2_5, a2_6, a2_7, a2_8, a2_9, a2_10, a2_11, a2_12, a2_13, a2_14, a2_15, a2_16, a2_17, a2_18⟩) gb574 1 ?hs _ rfl ?hw ?hx ?_); (case hw => rfl); (case hx => rfl); (case hs => exact sty_of_blk 1 (by (with_reducible repeat (first | refine blk_drewN ?_ _ | refine blk_drew ?_ | refine blk_alloc ?_ _)); exact BK574.out) rfl)) | ((with_reducible refine list_style (st := ⟨a2_1, a2_2, a2_3, a2_4, a2_5, a2_6, a2_7, a2_8, a2_9, a2_10, a2_11, a2_12, a2_13, a2_14, a2_15, a2_16, a2_17, a2_18⟩) gb574 1 ?hs _ rfl ?hw ?hx ?_); (case hw => rfl); (case hx => rfl); (case hs => exact sty_of_blk 1 (by (with_reducible repeat (first | refine blk_drewN ?_ _ | refine blk_drew ?_ | refine blk_alloc ?_ _)); exact BK574.out) rfl)) | (go_at_call 14; (with_reducible refine (search_Best.calls a0 _ _ l1 a2_1 a2_2 a2_3 a2_4 a2_5 a2_6 a2_7 a2_8 a2_9 a2_10 a2_11 a2_12 a2_13 a2_14 a2_15 a2_16 a2_17 a2_18 t576 t579 t580 _ ?side1 ?side2 A10.out).mono ?_); (case side1 => repeat (first | exact (Kd.C_below HR1.out HB.out) | (with_reducible refine Kd.C_alloc ?_ _) | (with_reducible refine Kd.C_drewN ?_ _) | (with_reducible refine Kd.C_drew ?_))); (case side2 => exact HC1.out); rintro e w63 ⟨v577, rfl, ho0, hb⟩; have n0_ := Aside0.mk (Kd.R_lower ho0 (below_size (by repeat (first | (with_reducible first | exact HB.out | apply below_alloc | apply pw_below_drewN | apply below_drew1 | refine below_set ?_ GE574.out) | exact HB.out)))); have n1_ := Aside0.mk (blk_below (g := gb574) (o := .cells #[.slice A2_0 l2_0.length c2_0, .int .i64 a2_1, .int .i64 a2_2, .int .i64 a2_3, .int .i64 a2_4, .bool a2_5, .bool a2_6, .bool a2_7, .int .i64 a2_8, .int .i64 a2_9, .int .i64 a2_10, .int .i64 a2_11, .int .i64 a2_12, .int .i64 a2_13, .int .i64 a2_14, .int .i64 a2_15, .int .i64 a2_16, .int .i64 a2_17, .int .i64 a2_18] 27 (0, 0)) (by (with_reducible repeat (first | refine blk_drewN ?_ _ | refine blk_drew ?_ | refine blk_alloc ?_ _)); exact BK574.out) hb); have n2_ := Aside0.mk (below_step (by repeat (first | (with_reducible first | exact HB.out | apply below_alloc | apply pw_below_drewN | apply below_drew1 | refine below_set ?_ GE574.out) | exact HB.out)) hb); clear BK574; clear HB; have HO578 := n0_; have BK574 := n1_; have HB := n2_; clear n0_ n1_ n2_; (try clear hb); (try clear hb2); (try clear hk); (try clear hi); (try clear ho0))))
            go_ret
            exact ⟨by first | rfl | (simp [errW_none, errW_some] <;> rfl) | (simp [*, errW_none, errW_some] <;> rfl), by repeat (first | (with_reducible first | exact HB.out | apply below_alloc | apply pw_below_drewN | apply below_drew1 | refine below_set ?_ GE574.out) | exact HB.out)⟩

end Go.Proofs.Ytmihiememhfmnaa.P
