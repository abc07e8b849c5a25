/- regletlaw14.SearchWider, walked by hand: it answers true where no best way costs more with more columns, nor less with a greater excess. -/
import Derived.Test.YtmihiememhfmnaaM4
import Derived.Test.YtmihiememhfmnaaM6
import Derived.RangeFuncLeaves
import Derived.RangeFuncRecord
import Derived.BigQuiet
import Derived.OwnWalkIn
import Derived.TacticsInMore
import Derived.Shelf.RegionOpen
namespace Go.Proofs.Ytmihiememhfmnaa.P
open Go.RowKit Go.Sort Go.Shelf Go.Proofs.YtmihiememhfmnaaW.PrintWords Go.Proofs.YtmihiememhfmnaaW.PrintLast Go.Proofs.YtmihiememhfmnaaW.PrintMore
attribute [local go_sem] max2_int min2_int max_two min_two max_three min_three max_four min_four   -- for this text's walks alone
set_option linter.unusedVariables false
set_option linter.unusedSimpArgs false

theorem bool_wide (b1 b2 b3 : Bool) : b1 = b1 := rfl

set_option maxHeartbeats 4000000 in
set_option maxRecDepth 100000 in
theorem wider_any (first : Int) (A : Option Addr) (c : Nat) (l : List S48) (s : S25) (m : Int) (w : World) (hr1 : Kd.C k48 w A l.length l) (hc1 : l.length ≤ c)
    (ws1 ws2 ws3 : List Bool) (c1 c2 c3 e1 e2 e3 : Int)
    (h1 : search_Best.f first l s.f0 s.f1 s.f2 s.f3 s.f4 s.f5 s.f6 s.f7 s.f8 s.f9 s.f10 s.f11 s.f12 s.f13 s.f14 s.f15 s.f16 s.f17 = some (ws1, c1, e1))
    (h2 : search_Best.f first l (wrap64 (s.f0 + m)) s.f1 s.f2 s.f3 s.f4 s.f5 s.f6 s.f7 s.f8 s.f9 s.f10 s.f11 s.f12 s.f13 s.f14 s.f15 s.f16 s.f17 = some (ws2, c2, e2))
    (h3 : search_Best.f first l s.f0 s.f1 s.f2 s.f3 s.f4 s.f5 s.f6 (wrap64 (s.f7 + m)) s.f8 s.f9 s.f10 s.f11 s.f12 s.f13 s.f14 s.f15 s.f16 s.f17 = some (ws3, c3, e3))
    (hlaw : e1 = 0 → 0 ≤ m → m ≤ 10000 → (e2 = 0 → c2 ≤ c1) ∧ (e3 = 0 → c1 ≤ c3)) :
    Calls Try.prog 6 #[.int .i64 first, .slice A l.length c, .agg #[.int .i64 s.f0, .int .i64 s.f1, .int .i64 s.f2, .int .i64 s.f3, .bool s.f4, .bool s.f5, .bool s.f6, .int .i64 s.f7, .int .i64 s.f8, .int .i64 s.f9, .int .i64 s.f10, .int .i64 s.f11, .int .i64 s.f12, .int .i64 s.f13, .int .i64 s.f14, .int .i64 s.f15, .int .i64 s.f16, .int .i64 s.f17, .int .i64 m]] w fun e w' => e = .returned (.bool true) ∧ Below w.heap.size w w' := by
  have HR := Aside0.mk hr1
  clear hr1
  have HB1 : Aside0 (Below w.heap.size w (w.alloc (.cells #[.int .i64 s.f0, .int .i64 s.f1, .int .i64 s.f2, .int .i64 s.f3, .bool s.f4, .bool s.f5, .bool s.f6, .int .i64 s.f7, .int .i64 s.f8, .int .i64 s.f9, .int .i64 s.f10, .int .i64 s.f11, .int .i64 s.f12, .int .i64 s.f13, .int .i64 s.f14, .int .i64 s.f15, .int .i64 s.f16, .int .i64 s.f17, .int .i64 m] 44))) := ⟨(Below.refl _ _).alloc (Nat.le_refl _) _⟩
  have HX1 : Aside0 ((w.alloc (.cells #[.int .i64 s.f0, .int .i64 s.f1, .int .i64 s.f2, .int .i64 s.f3, .bool s.f4, .bool s.f5, .bool s.f6, .int .i64 s.f7, .int .i64 s.f8, .int .i64 s.f9, .int .i64 s.f10, .int .i64 s.f11, .int .i64 s.f12, .int .i64 s.f13, .int .i64 s.f14, .int .i64 s.f15, .int .i64 s.f16, .int .i64 s.f17, .int .i64 m] 44)).heap[w.heap.size]? = some (.cells #[.int .i64 s.f0, .int .i64 s.f1, .int .i64 s.f2, .int .i64 s.f3, .bool s.f4, .bool s.f5, .bool s.f6, .int .i64 s.f7, .int .i64 s.f8, .int .i64 s.f9, .int .i64 s.f10, .int .i64 s.f11, .int .i64 s.f12, .int .i64 s.f13, .int .i64 s.f14, .int .i64 s.f15, .int .i64 s.f16, .int .i64 s.f17, .int .i64 m] 44 (0, 0))) := ⟨World.alloc_heap_new w _⟩
  have HSZ : Aside0 (w.heap.size < (w.alloc (.cells #[.int .i64 s.f0, .int .i64 s.f1, .int .i64 s.f2, .int .i64 s.f3, .bool s.f4, .bool s.f5, .bool s.f6, .int .i64 s.f7, .int .i64 s.f8, .int .i64 s.f9, .int .i64 s.f10, .int .i64 s.f11, .int .i64 s.f12, .int .i64 s.f13, .int .i64 s.f14, .int .i64 s.f15, .int .i64 s.f16, .int .i64 s.f17, .int .i64 m] 44)).heap.size) := ⟨by simp⟩
  have H1 := Aside0.mk h1
  have H2 := Aside0.mk h2
  have H3 := Aside0.mk h3
  have HLAW := Aside0.mk hlaw
  clear h1 h2 h3 hlaw
  have HAL := Aside0.mk (alive_f 4 (Nat.le_refl _))
  have hn0 : l.length ≤ 9223372036854775807 := HR.out.2.1
  go_enter Try.func6, Try.ntmps6
  go_upto_region 3 with (go_at_call 18; refine (regletlaw14_alive.calls 4 true _ HAL.out).mono ?_; rintro e w2 ⟨rfl, hb2⟩; have HB2 := Aside0.mk (HB1.out.trans (hb2.mono (Nat.le_of_lt HSZ.out))); have HX2 := Aside0.mk ((hb2.block _ HSZ.out).trans HX1.out); have c18 : w2.cell? ⟨w.heap.size, 18, none⟩ = some (.int .i64 m) := blk_cell HX2.out 18; clear hb2)
  clear HB1 HX1 HSZ HAL
  have bye : ∀ b1 b2 b3 : Bool, (b1 || b2 || b3) = true → True := fun _ _ _ _ => trivial
  as_aux_lemma =>
    by_cases g1 : (2000 : Int) < (l.length : Int)
    · have d1 : decide ((2000 : Int) < (l.length : Int)) = true := decide_eq_true g1
      as_aux_lemma =>
        go_wp2
        go_ret
        exact ⟨rfl, HB2.out⟩
    have d1 : decide ((2000 : Int) < (l.length : Int)) = false := decide_eq_false g1
    by_cases g2 : m < 0
    · have d2 : decide (m < 0) = true := decide_eq_true g2
      as_aux_lemma =>
        go_wp2
        go_ret
        exact ⟨rfl, HB2.out⟩
    have d2 : decide (m < 0) = false := decide_eq_false g2
    by_cases g3 : 10000 < m
    · have d3 : decide (10000 < m) = true := decide_eq_true g3
      as_aux_lemma =>
        go_wp2
        go_ret
        exact ⟨rfl, HB2.out⟩
    have d3 : decide (10000 < m) = false := decide_eq_false g3
    as_aux_lemma =>
      go_upto_region 5 with (fail)
      have hx2 := HX2.out
      have HS2 : Aside0 (StyAt w2 w.heap.size 0 s) := ⟨sty_of_blk 0 hx2 rfl⟩
      clear hx2 d1 d2 d3
      have HC2 := Aside0.mk (search_Best.calls first A c l s.f0 s.f1 s.f2 s.f3 s.f4 s.f5 s.f6 s.f7 s.f8 s.f9 s.f10 s.f11 s.f12 s.f13 s.f14 s.f15 s.f16 s.f17 ws1 c1 e1 w2 (Kd.C_below HR.out HB2.out) hc1 H1.out)
      go_upto_region 6 with (first | ((with_reducible refine list_style _ 0 HS2.out _ rfl ?hw ?hx ?_); (case hw => rfl); (case hx => rfl)) | (go_at_call 14; refine HC2.out.mono ?_; rintro e w3 ⟨v1, rfl, hv1, hb3⟩; have HB3 := Aside0.mk (HB2.out.trans (hb3.mono HB2.out.size)); have HX3 := Aside0.mk ((hb3.block _ (Array.getElem?_eq_some_iff.1 HX2.out).1).trans HX2.out); clear hv1 hb3))
      as_aux_lemma =>
        have HS3 : Aside0 (StyAt w3 w.heap.size 0 s) := ⟨sty_of_blk 0 HX3.out rfl⟩
        clear HB2 HX2 HS2 HC2 c18
        go_upto_region 7 with (first | ((with_reducible refine list_style _ 0 HS3.out _ rfl ?hw ?hx ?_); (case hw => rfl); (case hx => rfl)))
        as_aux_lemma =>
          go_upto_region 8 with (fail)
          obtain ⟨W4, hW4⟩ : ∃ W4, w3.alloc (.cells #[.int .i64 (wrap64 (s.f0 + m)), .int .i64 s.f1, .int .i64 s.f2, .int .i64 s.f3, .bool s.f4, .bool s.f5, .bool s.f6, .int .i64 s.f7, .int .i64 s.f8, .int .i64 s.f9, .int .i64 s.f10, .int .i64 s.f11, .int .i64 s.f12, .int .i64 s.f13, .int .i64 s.f14, .int .i64 s.f15, .int .i64 s.f16, .int .i64 s.f17] 25) = W4 := ⟨_, rfl⟩
          have hb4 : Below w3.heap.size w3 W4 := by rw [← hW4]; exact (Below.refl _ _).alloc (Nat.le_refl _) _
          have HB4 := Aside0.mk (HB3.out.trans (hb4.mono HB3.out.size))
          have HX4 := Aside0.mk ((hb4.block _ (Array.getElem?_eq_some_iff.1 HX3.out).1).trans HX3.out)
          have HY4 : Aside0 (W4.heap[w3.heap.size]? = some (.cells #[.int .i64 (wrap64 (s.f0 + m)), .int .i64 s.f1, .int .i64 s.f2, .int .i64 s.f3, .bool s.f4, .bool s.f5, .bool s.f6, .int .i64 s.f7, .int .i64 s.f8, .int .i64 s.f9, .int .i64 s.f10, .int .i64 s.f11, .int .i64 s.f12, .int .i64 s.f13, .int .i64 s.f14, .int .i64 s.f15, .int .i64 s.f16, .int .i64 s.f17] 25 (0, 0))) := ⟨by rw [← hW4]; exact World.alloc_heap_new w3 _⟩
          have HS4 : Aside0 (StyAt W4 w.heap.size 0 s) := ⟨sty_of_blk 0 HX4.out rfl⟩
          rw [hW4]
          clear hW4 hb4 HB3 HX3 HS3
          as_aux_lemma =>
            go_upto_region 9 with (first | ((with_reducible refine list_style _ 0 HS4.out _ rfl ?hw ?hx ?_); (case hw => rfl); (case hx => rfl)))
            go_upto_region 10 with (fail)
            as_aux_lemma =>
              obtain ⟨W5, hW5⟩ : ∃ W5, W4.alloc (.cells #[.int .i64 s.f0, .int .i64 s.f1, .int .i64 s.f2, .int .i64 s.f3, .bool s.f4, .bool s.f5, .bool s.f6, .int .i64 (wrap64 (s.f7 + m)), .int .i64 s.f8, .int .i64 s.f9, .int .i64 s.f10, .int .i64 s.f11, .int .i64 s.f12, .int .i64 s.f13, .int .i64 s.f14, .int .i64 s.f15, .int .i64 s.f16, .int .i64 s.f17] 25) = W5 := ⟨_, rfl⟩
              have hb5 : Below W4.heap.size W4 W5 := by rw [← hW5]; exact (Below.refl _ _).alloc (Nat.le_refl _) _
              have HB5 := Aside0.mk (HB4.out.trans (hb5.mono HB4.out.size))
              have HY5 := Aside0.mk ((hb5.block _ (Array.getElem?_eq_some_iff.1 HY4.out).1).trans HY4.out)
              have HZ5 : Aside0 (W5.heap[W4.heap.size]? = some (.cells #[.int .i64 s.f0, .int .i64 s.f1, .int .i64 s.f2, .int .i64 s.f3, .bool s.f4, .bool s.f5, .bool s.f6, .int .i64 (wrap64 (s.f7 + m)), .int .i64 s.f8, .int .i64 s.f9, .int .i64 s.f10, .int .i64 s.f11, .int .i64 s.f12, .int .i64 s.f13, .int .i64 s.f14, .int .i64 s.f15, .int .i64 s.f16, .int .i64 s.f17] 25 (0, 0))) := ⟨by rw [← hW5]; exact World.alloc_heap_new W4 _⟩
              have HS5 : Aside0 (StyAt W5 w3.heap.size 0 ⟨wrap64 (s.f0 + m), s.f1, s.f2, s.f3, s.f4, s.f5, s.f6, s.f7, s.f8, s.f9, s.f10, s.f11, s.f12, s.f13, s.f14, s.f15, s.f16, s.f17⟩) := ⟨sty_of_blk 0 HY5.out rfl⟩
              rw [hW5]
              clear hW5 hb5 HB4 HX4 HY4 HS4
              have HC5 := Aside0.mk (search_Best.calls first A c l (wrap64 (s.f0 + m)) s.f1 s.f2 s.f3 s.f4 s.f5 s.f6 s.f7 s.f8 s.f9 s.f10 s.f11 s.f12 s.f13 s.f14 s.f15 s.f16 s.f17 ws2 c2 e2 W5 (Kd.C_below HR.out HB5.out) hc1 H2.out)
              go_upto_region 11 with (first | ((with_reducible refine list_style _ 0 HS5.out _ rfl ?hw ?hx ?_); (case hw => rfl); (case hx => rfl)) | (go_at_call 14; refine HC5.out.mono ?_; rintro e w6 ⟨v2, rfl, hv2, hb6⟩; have HB6 := Aside0.mk (HB5.out.trans (hb6.mono HB5.out.size)); have HZ6 := Aside0.mk ((hb6.block _ (Array.getElem?_eq_some_iff.1 HZ5.out).1).trans HZ5.out); clear hv2 hb6))
              as_aux_lemma =>
                have HS6 : Aside0 (StyAt w6 W4.heap.size 0 ⟨s.f0, s.f1, s.f2, s.f3, s.f4, s.f5, s.f6, wrap64 (s.f7 + m), s.f8, s.f9, s.f10, s.f11, s.f12, s.f13, s.f14, s.f15, s.f16, s.f17⟩) := ⟨sty_of_blk 0 HZ6.out rfl⟩
                have HC6 := Aside0.mk (search_Best.calls first A c l s.f0 s.f1 s.f2 s.f3 s.f4 s.f5 s.f6 (wrap64 (s.f7 + m)) s.f8 s.f9 s.f10 s.f11 s.f12 s.f13 s.f14 s.f15 s.f16 s.f17 ws3 c3 e3 w6 (Kd.C_below HR.out HB6.out) hc1 H3.out)
                clear HB5 HY5 HZ5 HS5 HC5
                go_upto_region 12 with (first | ((with_reducible refine list_style _ 0 HS6.out _ rfl ?hw ?hx ?_); (case hw => rfl); (case hx => rfl)) | (go_at_call 14; refine HC6.out.mono ?_; rintro e w7 ⟨v3, rfl, hv3, hb7⟩; have HB7 := Aside0.mk (HB6.out.trans (hb7.mono HB6.out.size)); clear hv3 hb7))
                clear HB6 HZ6 HS6 HC6
                as_aux_lemma =>
                  by_cases q1 : e1 = 0
                  · subst q1
                    obtain ⟨k2, k3⟩ := HLAW.out rfl (by omega) (by omega)
                    have d0 : ((0 : Int) != 0) = false := rfl
                    clear HLAW H1 H2 H3
                    by_cases q2 : e2 = 0
                    · have d2 : (e2 != 0) = false := bne_eq_false_iff_eq.mpr q2
                      have d4 : decide (c2 ≤ c1) = true := decide_eq_true (k2 q2)
                      by_cases q3 : e3 = 0
                      · have d3 : (e3 != 0) = false := bne_eq_false_iff_eq.mpr q3
                        have d5 : decide (c1 ≤ c3) = true := decide_eq_true (k3 q3)
                        clear q2 q3 k2 k3
                        go_wp2
                        go_ret
                        exact ⟨rfl, HB7.out⟩
                      · have d3 : (e3 != 0) = true := bne_iff_ne.mpr q3
                        clear q2 q3 k2 k3
                        go_wp2
                        go_ret
                        exact ⟨rfl, HB7.out⟩
                    · have d2 : (e2 != 0) = true := bne_iff_ne.mpr q2
                      by_cases q3 : e3 = 0
                      · have d3 : (e3 != 0) = false := bne_eq_false_iff_eq.mpr q3
                        have d5 : decide (c1 ≤ c3) = true := decide_eq_true (k3 q3)
                        clear q2 q3 k2 k3
                        go_wp2
                        go_ret
                        exact ⟨rfl, HB7.out⟩
                      · have d3 : (e3 != 0) = true := bne_iff_ne.mpr q3
                        clear q2 q3 k2 k3
                        go_wp2
                        go_ret
                        exact ⟨rfl, HB7.out⟩
                  · have d0 : (e1 != 0) = true := bne_iff_ne.mpr q1
                    go_wp2
                    go_ret
                    exact ⟨rfl, HB7.out⟩
end Go.Proofs.Ytmihiememhfmnaa.P
