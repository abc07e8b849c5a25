/- regletlaw14.SearchNames, walked: the printed walk, its ways that cannot be taken left out, the values told as numbers. -/
import Derived.Test.YtmihiememhfmnaaM4
namespace Go.Proofs.Ytmihiememhfmnaa.P
open Go.RowKit Go.Proofs.YtmihiememhfmnaaW.PrintWords Go.Proofs.YtmihiememhfmnaaW.PrintLast Go.Proofs.YtmihiememhfmnaaW.PrintMore
attribute [local go_sem] max2_int min2_int max_two min_two max_three min_three max_four min_four   -- for this text's walks alone
set_option linter.unusedVariables false
set_option linter.unusedSimpArgs false


theorem ten_ex : ∃ a0 a1 a2 a3 a4 a5 a6 a7 a8 a9 a10 a11 a12 a13 a14 a15 a16 a17, regletlaw14_ten.f = some (a0, a1, a2, a3, a4, a5, a6, a7, a8, a9, a10, a11, a12, a13, a14, a15, a16, a17) ∧ a0 = 10 ∧ a7 = 100 := ⟨_, _, _, _, _, _, _, _, _, _, _, _, _, _, _, _, _, _, rfl, rfl, rfl⟩
theorem gap_ex (x y : Bool) : ∃ a b c d e f, regletlaw14_gap.f x y = some (a, b, c, d, e, f) ∧ (⟨a, b, c, d, e, f⟩ : S48) = ⟨3, 1, x, y, 5, 2⟩ := ⟨_, _, _, _, _, _, rfl, rfl⟩
theorem cost_f' (first : Int) (l : List S48) (ws : List Bool) (a0 : Int) (a1 : Int) (a2 : Int) (a3 : Int) (a4 : Bool) (a5 : Bool) (a6 : Bool) (a7 : Int) (a8 : Int) (a9 : Int) (a10 : Int) (a11 : Int) (a12 : Int) (a13 : Int) (a14 : Int) (a15 : Int) (a16 : Int) (a17 : Int) (k : Nat) (hk : 2 * l.length + 1 ≤ k) :
    search_Cost.f k first l ws a0 a1 a2 a3 a4 a5 a6 a7 a8 a9 a10 a11 a12 a13 a14 a15 a16 a17 = some (costV first l ws a0 a7) := cost_f first l ws ⟨a0, a1, a2, a3, a4, a5, a6, a7, a8, a9, a10, a11, a12, a13, a14, a15, a16, a17⟩ k hk
theorem are1 (k : Nat) (hk : 20 ≤ k) : regletlaw14_are.f k [] [] 0 = some true := by rw [are_f _ _ _ k (by simp; omega) (by simp)]; rfl
theorem are2 (k : Nat) (hk : 20 ≤ k) : regletlaw14_are.f k [⟨3, 1, false, true, 5, 2⟩] [false] 0 = some true := by rw [are_f _ _ _ k (by simp; omega) (by simp)]; rfl
theorem are3 (k : Nat) (hk : 20 ≤ k) : regletlaw14_are.f k [⟨3, 1, true, true, 5, 2⟩, ⟨3, 1, false, true, 5, 2⟩] [true, false] 5 = some true := by rw [are_f _ _ _ k (by simp; omega) (by simp)]; rfl
theorem are4 (k : Nat) (hk : 20 ≤ k) : regletlaw14_are.f k [⟨3, 1, false, false, 5, 2⟩, ⟨3, 1, false, false, 5, 2⟩] [false, false] 200 = some true := by rw [are_f _ _ _ k (by simp; omega) (by simp)]; rfl
theorem are5 (k : Nat) (hk : 20 ≤ k) : regletlaw14_are.f k [⟨3, 1, false, true, 5, 2⟩, ⟨3, 1, false, true, 5, 2⟩, ⟨3, 1, false, true, 5, 2⟩] [false, true, false] 5 = some true := by rw [are_f _ _ _ k (by simp; omega) (by simp)]; rfl
theorem bv1 : some (bestV (-1) [] 10 100) = some ([], 0, 2) := rfl
theorem bv2 : some (bestV 0 [] 0 0) = some ([], 0, 90) := rfl
theorem bv3 : some (bestV 0 [⟨0, 0, true, false, 0, 0⟩] 10 100) = some ([], 0, 2) := rfl
theorem bv4 : some (bestV 0 [⟨0, 0, false, false, 0, 257⟩] 10 100) = some ([], 0, 2) := rfl
theorem bv5 : some (bestV (-1) (List.replicate 65537 z48) 10 100) = some ([], 0, 4) := by
  have h : chk (-1) (List.replicate 65537 z48) 10 100 = 4 := by
    unfold chk
    rw [List.length_replicate]
    rfl
  rw [bestV, h, if_neg (by decide)]
theorem cv1 : some (costV 4 [⟨3, 1, false, true, 5, 2⟩] [] 10 100) = some (0, 2) := rfl
theorem cv2 : some (costV 4 [⟨3, 1, true, true, 5, 2⟩] [false] 10 100) = some (0, 2) := rfl
theorem cv3 : some (costV 4 [⟨3, 1, false, false, 5, 2⟩] [true] 10 100) = some (0, 2) := rfl
theorem cv4 : some (costV 4 [⟨3, 1, false, true, 5, 2⟩, ⟨3, 1, false, true, 5, 2⟩] [true, false] 10 100) = some (5, 0) := rfl
def regletlaw14_SearchNames.T2 : Bool × List (List Nat × List Nat) := (true, [([], []), ([0, 0], [0]), ([1, 1], [1]), ([1, 2], [1, 2]), ([3, 2], [3]), ([4], [4]), ([5, 4], [4, 5]), ([4], [4]), ([6, 7, 4, 4], [4, 6, 7]), ([4, 8], [4, 8]), ([9, 8], [9]), ([10, 10], [10]), ([10], [10]), ([11, 12, 10], [10, 11, 12]), ([10], [10]), ([13, 14, 11, 10], [10, 13, 14]), ([10, 15], [10, 15]), ([16, 15], [16]), ([17, 17], [17]), ([18, 17], [17]), ([18, 19, 17], [17, 18, 19]), ([17], [17]), ([20, 21, 19, 17], [17, 20, 21]), ([17, 22], [17, 22]), ([23, 22], [23]), ([24], [24]), ([24], [24]), ([24], [24]), ([25, 26, 27, 24], [24, 25, 26, 27]), ([24], [24]), ([28, 29, 24, 24], [24, 28, 29]), ([24, 30], [24, 30]), ([31, 30, 0, 1, 2, 3, 4, 5, 6, 7, 8, 9, 10, 11, 12, 13, 14, 15, 16, 17, 18, 19, 20, 21, 22, 23, 24, 25, 26, 27, 28, 29, 30, 31], [31])])
def regletlaw14_SearchNames.B2 : List Nat := [0, 1, 3, 7, 15, 31, 63, 31, 255, 511, 1023, 2047, 2047, 8191, 2047, 32767, 65535, 131071, 262143, 524287, 1048575, 262143, 4194303, 8388607, 16777215, 33554431, 33554431, 33554431, 268435455, 33554431, 1073741823, 2147483647, 4294967295]
theorem regletlaw14_SearchNames.tab2 : rtab .any (opsOf Try.f7 2) = regletlaw14_SearchNames.T2 := by kernel_rfl
theorem regletlaw14_SearchNames.bits2 : waitsOk regletlaw14_SearchNames.T2.2 regletlaw14_SearchNames.B2 = true := by kernel_rfl
def regletlaw14_SearchNames.T7 : Bool × List (List Nat × List Nat) := (true, [([], []), ([], []), ([0, 1, 1], [0, 1]), ([2], [2]), ([3], [3]), ([3], [3]), ([3], [3]), ([4, 2, 0, 1, 2, 3, 4], [4]), ([5, 7, 0, 1, 2, 3, 4, 5, 7], [5]), ([6, 8, 0, 1, 2, 3, 4, 5, 6, 7, 8], [6])])
def regletlaw14_SearchNames.B7 : List Nat := [0, 0, 3, 7, 15, 15, 15, 31, 191, 511]
theorem regletlaw14_SearchNames.tab7 : rtab .any (opsOf Try.f7 7) = regletlaw14_SearchNames.T7 := by kernel_rfl
theorem regletlaw14_SearchNames.bits7 : waitsOk regletlaw14_SearchNames.T7.2 regletlaw14_SearchNames.B7 = true := by kernel_rfl
def regletlaw14_SearchNames.T8 : Bool × List (List Nat × List Nat) := (true, [([], []), ([0], [0]), ([], []), ([1, 2, 2], [1, 2]), ([3], [3]), ([4], [4]), ([4], [4]), ([5, 3, 0, 1, 2, 3, 4, 5], [5]), ([6, 7, 0, 1, 2, 3, 4, 5, 6, 7], [6])])
def regletlaw14_SearchNames.B8 : List Nat := [0, 1, 0, 7, 15, 31, 31, 63, 255]
theorem regletlaw14_SearchNames.tab8 : rtab .any (opsOf Try.f7 8) = regletlaw14_SearchNames.T8 := by kernel_rfl
theorem regletlaw14_SearchNames.bits8 : waitsOk regletlaw14_SearchNames.T8.2 regletlaw14_SearchNames.B8 = true := by kernel_rfl
def regletlaw14_SearchNames.T11 : Bool × List (List Nat × List Nat) := (true, [([], []), ([], []), ([0, 1], [0, 1]), ([], []), ([], []), ([2, 3, 4, 4], [2, 3, 4]), ([5], [5]), ([6], [6]), ([6], [6]), ([7, 5, 0, 1, 2, 3, 4, 5, 6, 7], [7]), ([8, 9, 0, 1, 2, 3, 4, 5, 6, 7, 8, 9], [8])])
def regletlaw14_SearchNames.B11 : List Nat := [0, 0, 3, 0, 0, 31, 63, 127, 127, 255, 1023]
theorem regletlaw14_SearchNames.tab11 : rtab .any (opsOf Try.f7 11) = regletlaw14_SearchNames.T11 := by kernel_rfl
theorem regletlaw14_SearchNames.bits11 : waitsOk regletlaw14_SearchNames.T11.2 regletlaw14_SearchNames.B11 = true := by kernel_rfl
set_option maxHeartbeats 8000000 in
set_option maxRecDepth 100000 in
theorem names_walk (k : Nat) (hk20 : 20 ≤ k) (w : World) :
    Calls Try.prog 7 #[] w fun e w' => e = .returned (.bool true) ∧ Below w.heap.size w w' := by
  have hu48 := Try.underlying48
  have hu25 := Try.underlying25
  have HB := Aside0.mk (Below.refl w.heap.size w)
  obtain ⟨t300, t301, t302, t303, t304, t305, A10, g300⟩ := gap_ex false true
  have A1 := Aside0.mk A10
  have G300 := Aside0.mk g300
  clear A10 g300
  go_enter Try.func7, Try.ntmps7
  go_upto_region 2 with (first | ((with_reducible refine gate_callee (f := 19) rfl ?_); refine goesL_ (some 26) rfl rfl Try.func19 (by kernel_rfl) rfl #[.bool false, .bool true] rfl (by (try simp only [List.map_toArray, List.map_cons, List.map_nil]); first | done | rfl | (simp only [List.length_drop, List.length_take]; rfl)) ?_; (with_reducible refine (regletlaw14_gap.calls false true t300 t301 t302 t303 t304 t305 _ A1.out).mono ?_); rintro e w3 ⟨rfl, hb⟩; refine ⟨_, rfl, ?_⟩; have n0_ := Aside0.mk (below_step (by repeat (first | (with_reducible first | exact HB.out | apply below_alloc | apply pw_below_drewN | apply below_drew1) | exact HB.out)) hb); clear HB; have HB := n0_; clear n0_; (try clear hb); (try clear hb2); (try clear hk); (try clear hi)) | ((with_reducible refine gate_dst (N := 1) rfl ?_); (try (refine gate_guard (by rfl) ?_; dsimp only)); refine box_event ?hg (N := 1) ?hd (cs := #[.int .i64 0, .int .i64 0, .bool false, .bool false, .int .i64 0, .int .i64 0]) (t := 48) ?hr ?_; (case hd => rfl); (case hg => rfl); (case hr => first | (go_simp; done) | (go_simp; rfl)); intro gb306 hg w4 hbox hb; have n0_ := Aside0.mk (below_step (by repeat (first | (with_reducible first | exact HB.out | apply below_alloc | apply pw_below_drewN | apply below_drew1) | exact HB.out)) hb); have n1_ := Aside0.mk (hbox); have n2_ := Aside0.mk ((by rw [hg]; exact (below_size (by repeat (first | (with_reducible first | exact HB.out | apply below_alloc | apply pw_below_drewN | apply below_drew1) | exact HB.out))) : w.heap.size ≤ gb306)); have n3_ := Aside0.mk ((by rw [hg]; exact (below_size (by repeat (first | (with_reducible first | exact HB.out | apply below_alloc | apply pw_below_drewN | apply below_drew1) | exact HB.out))) : w.heap.size ≤ gb306)); clear HB; have HB := n0_; have BK306 := n1_; have GW306 := n2_; have GE306 := n3_; clear n0_ n1_ n2_ n3_; clear hb hbox hg; have hcz5_0 : w4.cell? ⟨gb306, 0, none⟩ = some (.int .i64 0) := (blk_cell BK306.out 0).trans rfl; have hcz5_1 : w4.cell? ⟨gb306, 1, none⟩ = some (.int .i64 0) := (blk_cell BK306.out 1).trans rfl; have hcz5_2 : w4.cell? ⟨gb306, 2, none⟩ = some (.bool false) := (blk_cell BK306.out 2).trans rfl; have hcz5_3 : w4.cell? ⟨gb306, 3, none⟩ = some (.bool false) := (blk_cell BK306.out 3).trans rfl; have hcz5_4 : w4.cell? ⟨gb306, 4, none⟩ = some (.int .i64 0) := (blk_cell BK306.out 4).trans rfl; have hcz5_5 : w4.cell? ⟨gb306, 5, none⟩ = some (.int .i64 0) := (blk_cell BK306.out 5).trans rfl; have hfz5_0 := blk_frozen BK306.out 0; have hfz5_1 := blk_frozen BK306.out 1; have hfz5_2 := blk_frozen BK306.out 2; have hfz5_3 := blk_frozen BK306.out 3; have hfz5_4 := blk_frozen BK306.out 4; have hfz5_5 := blk_frozen BK306.out 5))
  (try simp only [Act.put, List.setIfInBounds_toArray, List.set_cons_zero, List.set_cons_succ])
  go_cut [2] (fun v2 wc => v2 = .bool true ∧ Aside0 (wc.heap[gb306]? = some (.cells #[.int .i64 t300, .int .i64 t301, .bool t302, .bool t303, .int .i64 t304, .int .i64 t305] 48 (0, 0))) ∧ Aside0 (Below w.heap.size w wc))
  case first =>
    have A6 : Aside0 (regletlaw14_alive.f k = some true) := ⟨alive_f k (by omega)⟩
    have A8 : Aside0 (regletlaw14_are.f k ([] : List (S48)) ([] : List Bool) 0 = some true) := ⟨are1 k hk20⟩
    obtain ⟨y309, hy309⟩ : ∃ y_ : List (S48), y_ = ([(⟨t300, t301, t302, t303, t304, t305⟩ : S48)]) := ⟨_, rfl⟩
    have Ny309 := Aside0.mk hy309
    clear hy309
    obtain ⟨y312, hy312⟩ : ∃ y_ : List Bool, y_ = ([false]) := ⟨_, rfl⟩
    have Ny312 := Aside0.mk hy312
    clear hy312
    have A10 : Aside0 (regletlaw14_are.f k y309 y312 0 = some true) := ⟨by rw [Ny309.out, Ny312.out, G300.out]; exact are2 k hk20⟩
    obtain ⟨t316, t317, t318, t319, t320, t321, A120, g316⟩ := gap_ex true true
    have A12 := Aside0.mk A120
    have G316 := Aside0.mk g316
    clear A120 g316
    obtain ⟨y322, hy322⟩ : ∃ y_ : List (S48), y_ = ([(⟨t316, t317, t318, t319, t320, t321⟩ : S48), (⟨t300, t301, t302, t303, t304, t305⟩ : S48)]) := ⟨_, rfl⟩
    have Ny322 := Aside0.mk hy322
    clear hy322
    obtain ⟨y325, hy325⟩ : ∃ y_ : List Bool, y_ = ([true, false]) := ⟨_, rfl⟩
    have Ny325 := Aside0.mk hy325
    clear hy325
    have A13 : Aside0 (regletlaw14_are.f k y322 y325 5 = some true) := ⟨by rw [Ny322.out, Ny325.out, G316.out, G300.out]; exact are3 k hk20⟩
    obtain ⟨t329, t330, t331, t332, t333, t334, A150, g329⟩ := gap_ex false false
    have A15 := Aside0.mk A150
    have G329 := Aside0.mk g329
    clear A150 g329
    obtain ⟨t335, t336, t337, t338, t339, t340, A160, g335⟩ := gap_ex false false
    have A16 := Aside0.mk A160
    have G335 := Aside0.mk g335
    clear A160 g335
    obtain ⟨y341, hy341⟩ : ∃ y_ : List (S48), y_ = ([(⟨t329, t330, t331, t332, t333, t334⟩ : S48), (⟨t335, t336, t337, t338, t339, t340⟩ : S48)]) := ⟨_, rfl⟩
    have Ny341 := Aside0.mk hy341
    clear hy341
    obtain ⟨y344, hy344⟩ : ∃ y_ : List Bool, y_ = ([false, false]) := ⟨_, rfl⟩
    have Ny344 := Aside0.mk hy344
    clear hy344
    have A17 : Aside0 (regletlaw14_are.f k y341 y344 200 = some true) := ⟨by rw [Ny341.out, Ny344.out, G329.out, G335.out]; exact are4 k hk20⟩
    obtain ⟨y348, hy348⟩ : ∃ y_ : List (S48), y_ = ([(⟨t300, t301, t302, t303, t304, t305⟩ : S48), (⟨t300, t301, t302, t303, t304, t305⟩ : S48), (⟨t300, t301, t302, t303, t304, t305⟩ : S48)]) := ⟨_, rfl⟩
    have Ny348 := Aside0.mk hy348
    clear hy348
    obtain ⟨y351, hy351⟩ : ∃ y_ : List Bool, y_ = ([false, true, false]) := ⟨_, rfl⟩
    have Ny351 := Aside0.mk hy351
    clear hy351
    have A19 : Aside0 (regletlaw14_are.f k y348 y351 5 = some true) := ⟨by rw [Ny348.out, Ny351.out, G300.out]; exact are5 k hk20⟩
    try go_wp2
    have n0_ : Aside0 (((((((w4.setCell ⟨gb306, 0, none⟩ (.int .i64 t300)).setCell ⟨gb306, 1, none⟩ (.int .i64 t301)).setCell ⟨gb306, 2, none⟩ (.bool t302)).setCell ⟨gb306, 3, none⟩ (.bool t303)).setCell ⟨gb306, 4, none⟩ (.int .i64 t304)).setCell ⟨gb306, 5, none⟩ (.int .i64 t305)).heap[gb306]? = some (.cells #[.int .i64 t300, .int .i64 t301, .bool t302, .bool t303, .int .i64 t304, .int .i64 t305] 48 (0, 0))) := ⟨by (with_reducible repeat (first | refine blk_drewN ?_ _ | refine blk_drew ?_ | refine blk_alloc ?_ _)); refine blk_put (cs := #[.int .i64 t300, .int .i64 t301, .bool t302, .bool t303, .int .i64 t304, .int .i64 0]) ?_ 5 _ rfl; (with_reducible repeat (first | refine blk_drewN ?_ _ | refine blk_drew ?_ | refine blk_alloc ?_ _)); refine blk_put (cs := #[.int .i64 t300, .int .i64 t301, .bool t302, .bool t303, .int .i64 0, .int .i64 0]) ?_ 4 _ rfl; (with_reducible repeat (first | refine blk_drewN ?_ _ | refine blk_drew ?_ | refine blk_alloc ?_ _)); refine blk_put (cs := #[.int .i64 t300, .int .i64 t301, .bool t302, .bool false, .int .i64 0, .int .i64 0]) ?_ 3 _ rfl; (with_reducible repeat (first | refine blk_drewN ?_ _ | refine blk_drew ?_ | refine blk_alloc ?_ _)); refine blk_put (cs := #[.int .i64 t300, .int .i64 t301, .bool false, .bool false, .int .i64 0, .int .i64 0]) ?_ 2 _ rfl; (with_reducible repeat (first | refine blk_drewN ?_ _ | refine blk_drew ?_ | refine blk_alloc ?_ _)); refine blk_put (cs := #[.int .i64 t300, .int .i64 0, .bool false, .bool false, .int .i64 0, .int .i64 0]) ?_ 1 _ rfl; (with_reducible repeat (first | refine blk_drewN ?_ _ | refine blk_drew ?_ | refine blk_alloc ?_ _)); refine blk_put (cs := #[.int .i64 0, .int .i64 0, .bool false, .bool false, .int .i64 0, .int .i64 0]) ?_ 0 _ rfl; (with_reducible repeat (first | refine blk_drewN ?_ _ | refine blk_drew ?_ | refine blk_alloc ?_ _)); exact BK306.out⟩
    have n1_ : Aside0 (Below w.heap.size w ((((((w4.setCell ⟨gb306, 0, none⟩ (.int .i64 t300)).setCell ⟨gb306, 1, none⟩ (.int .i64 t301)).setCell ⟨gb306, 2, none⟩ (.bool t302)).setCell ⟨gb306, 3, none⟩ (.bool t303)).setCell ⟨gb306, 4, none⟩ (.int .i64 t304)).setCell ⟨gb306, 5, none⟩ (.int .i64 t305))) := ⟨by repeat (first | (with_reducible first | exact HB.out | apply below_alloc | apply pw_below_drewN | apply below_drew1 | refine below_set ?_ GE306.out) | exact HB.out)⟩
    (try clear BK306)
    (try clear HB)
    generalize ((((((w4.setCell ⟨gb306, 0, none⟩ (.int .i64 t300)).setCell ⟨gb306, 1, none⟩ (.int .i64 t301)).setCell ⟨gb306, 2, none⟩ (.bool t302)).setCell ⟨gb306, 3, none⟩ (.bool t303)).setCell ⟨gb306, 4, none⟩ (.int .i64 t304)).setCell ⟨gb306, 5, none⟩ (.int .i64 t305)) = w20 at n0_ n1_ ⊢
    have BK306 := n0_
    have HB := n1_
    clear n0_ n1_
    have n0_ := Aside0.mk (blk_drew BK306.out)
    have n1_ := Aside0.mk (below_drew1 HB.out)
    clear BK306
    clear HB
    have BK306 := n0_
    have HB := n1_
    clear n0_ n1_
    refine start_ (n := 33) (S := fun w' => True) (ds := []) #[false, false, false, false, false, false, false, false, false, false, false, false, false, false, false, false, false, false, false, false, false, false, false, false, false, false, false, false, false, false, false, false, false] (by kernel_rfl) rfl rfl trivial (fun hHeld => ?_); refine with_tabW regletlaw14_SearchNames.tab2 regletlaw14_SearchNames.bits2 (fun HT_ HW_ => ?_)
    generalize w20.drew = w21 at BK306 HB hHeld ⊢
    refine inv_at [0, 1, 2, 3, 4, 5, 6, 7, 8, 9, 10, 11, 12, 13, 14, 15, 16, 17, 18, 19, 20, 21, 22, 23, 24, 25, 26, 27, 28, 29, 30, 31, 32] (fun a0_ b a w' => ∃ (v310 : Value) (v313 : Value) (v323 : Value) (v326 : Value) (v342 : Value) (v345 : Value) (v349 : Value) (v352 : Value), a = putSel a0_ b [(0, 27, .bool true), (1, 28, .bool true), (2, 29, .bool true), (3, 30, .bool true), (4, 31, .bool true), (5, 32, .agg #[.int .i64 t300, .int .i64 t301, .bool t302, .bool t303, .int .i64 t304, .int .i64 t305]), (6, 33, v310), (7, 34, v313), (8, 35, .bool true), (9, 36, .bool true), (10, 37, .bool true), (11, 38, .agg #[.int .i64 t316, .int .i64 t317, .bool t318, .bool t319, .int .i64 t320, .int .i64 t321]), (12, 39, .agg #[.int .i64 t300, .int .i64 t301, .bool t302, .bool t303, .int .i64 t304, .int .i64 t305]), (13, 40, v323), (14, 41, v326), (15, 42, .bool true), (16, 43, .bool true), (17, 44, .bool true), (18, 45, .agg #[.int .i64 t329, .int .i64 t330, .bool t331, .bool t332, .int .i64 t333, .int .i64 t334]), (19, 46, .agg #[.int .i64 t335, .int .i64 t336, .bool t337, .bool t338, .int .i64 t339, .int .i64 t340]), (20, 47, v342), (21, 48, v345), (22, 49, .bool true), (23, 50, .bool true), (24, 51, .bool true), (25, 52, .agg #[.int .i64 t300, .int .i64 t301, .bool t302, .bool t303, .int .i64 t304, .int .i64 t305]), (26, 53, .agg #[.int .i64 t300, .int .i64 t301, .bool t302, .bool t303, .int .i64 t304, .int .i64 t305]), (27, 54, .agg #[.int .i64 t300, .int .i64 t301, .bool t302, .bool t303, .int .i64 t304, .int .i64 t305]), (28, 55, v349), (29, 56, v352), (30, 57, .bool true), (31, 58, .bool true), (32, 2, .bool true)] ∧ (w'.heap[gb306]? = some (.cells #[.int .i64 t300, .int .i64 t301, .bool t302, .bool t303, .int .i64 t304, .int .i64 t305] 48 (0, 0))) ∧ (Below w.heap.size w w') ∧ (b 6 = true → Kd.R k48 48 w' w.heap.size (fun _ => True) v310 y309) ∧ (b 7 = true → Kd.R Kd.bool 4 w' w.heap.size (fun _ => True) v313 y312) ∧ (b 13 = true → Kd.R k48 48 w' w.heap.size (fun _ => True) v323 y322) ∧ (b 14 = true → Kd.R Kd.bool 4 w' w.heap.size (fun _ => True) v326 y325) ∧ (b 20 = true → Kd.R k48 48 w' w.heap.size (fun _ => True) v342 y341) ∧ (b 21 = true → Kd.R Kd.bool 4 w' w.heap.size (fun _ => True) v345 y344) ∧ (b 28 = true → Kd.R k48 48 w' w.heap.size (fun _ => True) v349 y348) ∧ (b 29 = true → Kd.R Kd.bool 4 w' w.heap.size (fun _ => True) v352 y351)) HT_.out HW_.out (by kernel_rfl) (by kernel_rfl) ?_ ?_ ?_
    · exact ⟨.bool false, .bool false, .bool false, .bool false, .bool false, .bool false, .bool false, .bool false, by simp only [putSel, Bool.false_eq_true, if_false], BK306.out, HB.out, fun h_ => absurd h_ (by decide), fun h_ => absurd h_ (by decide), fun h_ => absurd h_ (by decide), fun h_ => absurd h_ (by decide), fun h_ => absurd h_ (by decide), fun h_ => absurd h_ (by decide), fun h_ => absurd h_ (by decide), fun h_ => absurd h_ (by decide)⟩
    · skip
      clear BK306 HB
      refine steps_cons ?_ ?_
      · rintro b a w' ⟨v310, v313, v323, v326, v342, v345, v349, v352, ha, Q_BK306, Q_HB, Q_HO311, Q_HO314, Q_HO324, Q_HO327, Q_HO343, Q_HO346, Q_HO350, Q_HO353⟩ hb_ hon hoff
        refine ⟨_, rfl, fun K hK => ?_⟩
        replace ha := Aside0.mk ha
        have BK306 := Aside0.mk Q_BK306
        have HB := Aside0.mk Q_HB
        refine goes_ Try.func18 (by kernel_rfl) rfl #[] (by rfl) rfl rfl (by first | (simp only [List.map_toArray, List.map_cons, List.map_nil, Act.eval, Array.getD_eq_getD_getElem?, Option.getD_some]; done) | (simp only [List.map_toArray, List.map_cons, List.map_nil, Act.eval, Array.getD_eq_getD_getElem?, Option.getD_some]; rfl)) ?_
        with_reducible refine (regletlaw14_alive.calls k  true _ A6.out).mono ?_
        rintro e w22 ⟨rfl, hb⟩
        refine ⟨_, rfl, ?_⟩
        have n0_ := Aside0.mk (blk_below (g := gb306) (o := .cells #[.int .i64 t300, .int .i64 t301, .bool t302, .bool t303, .int .i64 t304, .int .i64 t305] 48 (0, 0)) BK306.out hb)
        have n1_ := Aside0.mk (below_step HB.out hb)
        clear BK306
        clear HB
        have BK306 := n0_
        have HB := n1_
        clear n0_ n1_
        (try clear hb)
        (try clear hb2)
        (try clear hk)
        (try clear hi)
        refine hK.out _ _ ⟨v310, v313, v323, v326, v342, v345, v349, v352, (by rw [ha.out]; exact putSel_upk 0 hb_ rfl rfl rfl), BK306.out, HB.out, fun h0_ => absurd ((hoff 6 (by kernel_rfl)).symm.trans h0_) (by decide), fun h0_ => absurd ((hoff 7 (by kernel_rfl)).symm.trans h0_) (by decide), fun h0_ => absurd ((hoff 13 (by kernel_rfl)).symm.trans h0_) (by decide), fun h0_ => absurd ((hoff 14 (by kernel_rfl)).symm.trans h0_) (by decide), fun h0_ => absurd ((hoff 20 (by kernel_rfl)).symm.trans h0_) (by decide), fun h0_ => absurd ((hoff 21 (by kernel_rfl)).symm.trans h0_) (by decide), fun h0_ => absurd ((hoff 28 (by kernel_rfl)).symm.trans h0_) (by decide), fun h0_ => absurd ((hoff 29 (by kernel_rfl)).symm.trans h0_) (by decide)⟩
      refine steps_cons ?_ ?_
      · rintro b a w' ⟨v310, v313, v323, v326, v342, v345, v349, v352, ha, Q_BK306, Q_HB, Q_HO311, Q_HO314, Q_HO324, Q_HO327, Q_HO343, Q_HO346, Q_HO350, Q_HO353⟩ hb_ hon hoff
        refine ⟨_, rfl, fun K hK => ?_⟩
        have e27 : a.tmps[27]? = some (.bool true) := by rw [ha]; exact putSel_on (e := (0, 27, .bool true)) 0 rfl rfl (hon 0 (by kernel_rfl)) rfl
        replace ha := Aside0.mk ha
        have BK306 := Aside0.mk Q_BK306
        have HB := Aside0.mk Q_HB
        refine value_ (w1 := w') (v := .bool true) (by rfl) rfl ?_ ?_
        · go_simp
          (try simp only [i64_w])
          try rfl
        refine hK.out _ _ ⟨v310, v313, v323, v326, v342, v345, v349, v352, (by rw [ha.out]; exact putSel_upk 1 hb_ rfl rfl rfl), Q_BK306, Q_HB, fun h0_ => absurd ((hoff 6 (by kernel_rfl)).symm.trans h0_) (by decide), fun h0_ => absurd ((hoff 7 (by kernel_rfl)).symm.trans h0_) (by decide), fun h0_ => absurd ((hoff 13 (by kernel_rfl)).symm.trans h0_) (by decide), fun h0_ => absurd ((hoff 14 (by kernel_rfl)).symm.trans h0_) (by decide), fun h0_ => absurd ((hoff 20 (by kernel_rfl)).symm.trans h0_) (by decide), fun h0_ => absurd ((hoff 21 (by kernel_rfl)).symm.trans h0_) (by decide), fun h0_ => absurd ((hoff 28 (by kernel_rfl)).symm.trans h0_) (by decide), fun h0_ => absurd ((hoff 29 (by kernel_rfl)).symm.trans h0_) (by decide)⟩
      refine steps_cons ?_ ?_
      · rintro b a w' ⟨v310, v313, v323, v326, v342, v345, v349, v352, ha, Q_BK306, Q_HB, Q_HO311, Q_HO314, Q_HO324, Q_HO327, Q_HO343, Q_HO346, Q_HO350, Q_HO353⟩ hb_ hon hoff
        refine ⟨_, rfl, fun K hK => ?_⟩
        have e28 : a.tmps[28]? = some (.bool true) := by rw [ha]; exact putSel_on (e := (1, 28, .bool true)) 1 rfl rfl (hon 1 (by kernel_rfl)) rfl
        replace ha := Aside0.mk ha
        have BK306 := Aside0.mk Q_BK306
        have HB := Aside0.mk Q_HB
        refine goes_ Try.func20 (by kernel_rfl) rfl #[.slice none 0 0, .slice none 0 0, .int .i64 0] (wanted_on rfl rfl rfl (e28.trans (by first | rfl | (simp [*]; done)))) rfl rfl (by first | (simp only [List.map_toArray, List.map_cons, List.map_nil, Act.eval, Array.getD_eq_getD_getElem?, Option.getD_some, e28]; done) | (simp only [List.map_toArray, List.map_cons, List.map_nil, Act.eval, Array.getD_eq_getD_getElem?, Option.getD_some, e28]; rfl)) ?_
        refine (regletlaw14_are.calls k _ _ ([] : List (S48)) _ _ ([] : List Bool) 0 true _ ?side1 ?side2 ?side3 ?side4 A8.out).mono ?_
        (case side1 => exact Kd.C_nil _ _)
        (case side2 => exact Nat.le_refl _)
        (case side3 => exact Kd.C_nil _ _)
        (case side4 => exact Nat.le_refl _)
        rintro e w24 ⟨rfl, hb⟩
        refine ⟨_, rfl, ?_⟩
        have n0_ := Aside0.mk (blk_below (g := gb306) (o := .cells #[.int .i64 t300, .int .i64 t301, .bool t302, .bool t303, .int .i64 t304, .int .i64 t305] 48 (0, 0)) BK306.out hb)
        have n1_ := Aside0.mk (below_step HB.out hb)
        clear BK306
        clear HB
        have BK306 := n0_
        have HB := n1_
        clear n0_ n1_
        (try clear hb)
        (try clear hb2)
        (try clear hk)
        (try clear hi)
        refine hK.out _ _ ⟨v310, v313, v323, v326, v342, v345, v349, v352, (by rw [ha.out]; exact putSel_upk 2 hb_ rfl rfl rfl), BK306.out, HB.out, fun h0_ => absurd ((hoff 6 (by kernel_rfl)).symm.trans h0_) (by decide), fun h0_ => absurd ((hoff 7 (by kernel_rfl)).symm.trans h0_) (by decide), fun h0_ => absurd ((hoff 13 (by kernel_rfl)).symm.trans h0_) (by decide), fun h0_ => absurd ((hoff 14 (by kernel_rfl)).symm.trans h0_) (by decide), fun h0_ => absurd ((hoff 20 (by kernel_rfl)).symm.trans h0_) (by decide), fun h0_ => absurd ((hoff 21 (by kernel_rfl)).symm.trans h0_) (by decide), fun h0_ => absurd ((hoff 28 (by kernel_rfl)).symm.trans h0_) (by decide), fun h0_ => absurd ((hoff 29 (by kernel_rfl)).symm.trans h0_) (by decide)⟩
      refine steps_cons ?_ ?_
      · rintro b a w' ⟨v310, v313, v323, v326, v342, v345, v349, v352, ha, Q_BK306, Q_HB, Q_HO311, Q_HO314, Q_HO324, Q_HO327, Q_HO343, Q_HO346, Q_HO350, Q_HO353⟩ hb_ hon hoff
        refine ⟨_, rfl, fun K hK => ?_⟩
        have e28 : a.tmps[28]? = some (.bool true) := by rw [ha]; exact putSel_on (e := (1, 28, .bool true)) 1 rfl rfl (hon 1 (by kernel_rfl)) rfl
        have e29 : a.tmps[29]? = some (.bool true) := by rw [ha]; exact putSel_on (e := (2, 29, .bool true)) 2 rfl rfl (hon 2 (by kernel_rfl)) rfl
        replace ha := Aside0.mk ha
        have BK306 := Aside0.mk Q_BK306
        have HB := Aside0.mk Q_HB
        refine value_ (w1 := w') (v := .bool true) (by rfl) rfl ?_ ?_
        · go_simp
          (try simp only [i64_w])
          try rfl
        refine hK.out _ _ ⟨v310, v313, v323, v326, v342, v345, v349, v352, (by rw [ha.out]; exact putSel_upk 3 hb_ rfl rfl rfl), Q_BK306, Q_HB, fun h0_ => absurd ((hoff 6 (by kernel_rfl)).symm.trans h0_) (by decide), fun h0_ => absurd ((hoff 7 (by kernel_rfl)).symm.trans h0_) (by decide), fun h0_ => absurd ((hoff 13 (by kernel_rfl)).symm.trans h0_) (by decide), fun h0_ => absurd ((hoff 14 (by kernel_rfl)).symm.trans h0_) (by decide), fun h0_ => absurd ((hoff 20 (by kernel_rfl)).symm.trans h0_) (by decide), fun h0_ => absurd ((hoff 21 (by kernel_rfl)).symm.trans h0_) (by decide), fun h0_ => absurd ((hoff 28 (by kernel_rfl)).symm.trans h0_) (by decide), fun h0_ => absurd ((hoff 29 (by kernel_rfl)).symm.trans h0_) (by decide)⟩
      refine steps_cons ?_ ?_
      · rintro b a w' ⟨v310, v313, v323, v326, v342, v345, v349, v352, ha, Q_BK306, Q_HB, Q_HO311, Q_HO314, Q_HO324, Q_HO327, Q_HO343, Q_HO346, Q_HO350, Q_HO353⟩ hb_ hon hoff
        refine ⟨_, rfl, fun K hK => ?_⟩
        have e30 : a.tmps[30]? = some (.bool true) := by rw [ha]; exact putSel_on (e := (3, 30, .bool true)) 3 rfl rfl (hon 3 (by kernel_rfl)) rfl
        replace ha := Aside0.mk ha
        have BK306 := Aside0.mk Q_BK306
        have HB := Aside0.mk Q_HB
        refine value_ (w1 := w') (v := .bool true) (by rfl) rfl ?_ ?_
        · go_simp
          (try simp only [i64_w])
          try rfl
        refine hK.out _ _ ⟨v310, v313, v323, v326, v342, v345, v349, v352, (by rw [ha.out]; exact putSel_upk 4 hb_ rfl rfl rfl), Q_BK306, Q_HB, fun h0_ => absurd ((hoff 6 (by kernel_rfl)).symm.trans h0_) (by decide), fun h0_ => absurd ((hoff 7 (by kernel_rfl)).symm.trans h0_) (by decide), fun h0_ => absurd ((hoff 13 (by kernel_rfl)).symm.trans h0_) (by decide), fun h0_ => absurd ((hoff 14 (by kernel_rfl)).symm.trans h0_) (by decide), fun h0_ => absurd ((hoff 20 (by kernel_rfl)).symm.trans h0_) (by decide), fun h0_ => absurd ((hoff 21 (by kernel_rfl)).symm.trans h0_) (by decide), fun h0_ => absurd ((hoff 28 (by kernel_rfl)).symm.trans h0_) (by decide), fun h0_ => absurd ((hoff 29 (by kernel_rfl)).symm.trans h0_) (by decide)⟩
      refine steps_cons ?_ ?_
      · rintro b a w' ⟨v310, v313, v323, v326, v342, v345, v349, v352, ha, Q_BK306, Q_HB, Q_HO311, Q_HO314, Q_HO324, Q_HO327, Q_HO343, Q_HO346, Q_HO350, Q_HO353⟩ hb_ hon hoff
        refine ⟨_, rfl, fun K hK => ?_⟩
        have e1 : a.tmps[1]? = some (.pointer (some ⟨gb306, 0, none⟩)) := by rw [ha]; exact (putSel_off rfl).trans rfl
        have e31 : a.tmps[31]? = some (.bool true) := by rw [ha]; exact putSel_on (e := (4, 31, .bool true)) 4 rfl rfl (hon 4 (by kernel_rfl)) rfl
        replace ha := Aside0.mk ha
        have BK306 := Aside0.mk Q_BK306
        have HB := Aside0.mk Q_HB
        have hc0_ : w'.cell? ⟨gb306, 0, none⟩ = some (.int .i64 t300) := (blk_cell BK306.out 0).trans rfl
        have hc1_ : w'.cell? ⟨gb306, 1, none⟩ = some (.int .i64 t301) := (blk_cell BK306.out 1).trans rfl
        have hc2_ : w'.cell? ⟨gb306, 2, none⟩ = some (.bool t302) := (blk_cell BK306.out 2).trans rfl
        have hc3_ : w'.cell? ⟨gb306, 3, none⟩ = some (.bool t303) := (blk_cell BK306.out 3).trans rfl
        have hc4_ : w'.cell? ⟨gb306, 4, none⟩ = some (.int .i64 t304) := (blk_cell BK306.out 4).trans rfl
        have hc5_ : w'.cell? ⟨gb306, 5, none⟩ = some (.int .i64 t305) := (blk_cell BK306.out 5).trans rfl
        refine value_ (w1 := w') (v := .agg #[.int .i64 t300, .int .i64 t301, .bool t302, .bool t303, .int .i64 t304, .int .i64 t305]) (wanted_on rfl rfl rfl (e31.trans (by first | rfl | (simp [*]; done)))) rfl ?_ ?_
        · go_simp
          (try simp only [i64_w])
          try rfl
        refine hK.out _ _ ⟨v310, v313, v323, v326, v342, v345, v349, v352, (by rw [ha.out]; exact putSel_upk 5 hb_ rfl rfl rfl), Q_BK306, Q_HB, fun h0_ => absurd ((hoff 6 (by kernel_rfl)).symm.trans h0_) (by decide), Q_HO314, fun h0_ => absurd ((hoff 13 (by kernel_rfl)).symm.trans h0_) (by decide), fun h0_ => absurd ((hoff 14 (by kernel_rfl)).symm.trans h0_) (by decide), fun h0_ => absurd ((hoff 20 (by kernel_rfl)).symm.trans h0_) (by decide), fun h0_ => absurd ((hoff 21 (by kernel_rfl)).symm.trans h0_) (by decide), fun h0_ => absurd ((hoff 28 (by kernel_rfl)).symm.trans h0_) (by decide), fun h0_ => absurd ((hoff 29 (by kernel_rfl)).symm.trans h0_) (by decide)⟩
      refine steps_cons ?_ ?_
      · rintro b a w' ⟨v310, v313, v323, v326, v342, v345, v349, v352, ha, Q_BK306, Q_HB, Q_HO311, Q_HO314, Q_HO324, Q_HO327, Q_HO343, Q_HO346, Q_HO350, Q_HO353⟩ hb_ hon hoff
        refine ⟨_, rfl, fun K hK => ?_⟩
        have e32 : a.tmps[32]? = some (.agg #[.int .i64 t300, .int .i64 t301, .bool t302, .bool t303, .int .i64 t304, .int .i64 t305]) := by rw [ha]; exact putSel_on (e := (5, 32, .agg #[.int .i64 t300, .int .i64 t301, .bool t302, .bool t303, .int .i64 t304, .int .i64 t305])) 5 rfl rfl (hon 5 (by kernel_rfl)) rfl
        have e31 : a.tmps[31]? = some (.bool true) := by rw [ha]; exact putSel_on (e := (4, 31, .bool true)) 4 rfl rfl (hon 4 (by kernel_rfl)) rfl
        replace ha := Aside0.mk ha
        have BK306 := Aside0.mk Q_BK306
        have HB := Aside0.mk Q_HB
        refine Kd.R_lit_step k48 _ 48 ?hg (N := 33) ?hd (xs := ([(⟨t300, t301, t302, t303, t304, t305⟩ : S48)] : List (S48))) (inner := [.int .i64 t300, .int .i64 t301, .bool t302, .bool t303, .int .i64 t304, .int .i64 t305]) (ok := fun _ => True) (okp := fun _ => True) ?hr ?hp (fun _ hk => hk) trivial (Below.refl _ _) (Nat.le_refl _) (by simp) ?_; (case hd => rfl); (case hg => exact wanted_on rfl rfl rfl (e31.trans (by first | rfl | (simp [*]; done)))); (case hr => first | (go_simp; done) | (go_simp; rfl)); (case hp => exact (Reps.c6 (show Kd.M k48 _ _ _ (⟨t300, t301, t302, t303, t304, t305⟩ : S48) [.int .i64 t300, .int .i64 t301, .bool t302, .bool t303, .int .i64 t304, .int .i64 t305] from (k48_mkM _ _ _ (⟨t300, t301, t302, t303, t304, t305⟩ : S48) )) (Reps.none _ _)))
        intro v310 w25 ho26 hb hg_ hnew_
        clear hg_ hnew_
        (first | rw [← Ny309.out] at ho26 | (simp only [Int.reduceToNat] at ho26; rw [← Ny309.out] at ho26))
        have n0_ := Aside0.mk (Kd.R_lower (Kd.R_newB ho26 (g := gb306) (o := .cells #[.int .i64 t300, .int .i64 t301, .bool t302, .bool t303, .int .i64 t304, .int .i64 t305] 48 (0, 0)) BK306.out) (below_size HB.out))
        have n1_ := Aside0.mk (blk_below (g := gb306) (o := .cells #[.int .i64 t300, .int .i64 t301, .bool t302, .bool t303, .int .i64 t304, .int .i64 t305] 48 (0, 0)) BK306.out hb)
        have n2_ := Aside0.mk (below_step HB.out hb)
        have z_HO314 := fun (h0_ : b 7 = true) => (show Kd.R Kd.bool 4 w25 w.heap.size (fun _ => True) v313 y312 from by first | exact (Kd.R_below ((Q_HO314 h0_)) hb) | exact Kd.R_mono (Kd.R_below ((Q_HO314 h0_)) hb) (fun _ _ => trivial))
        clear BK306
        clear HB
        have HO311 := n0_
        have BK306 := n1_
        have HB := n2_
        clear n0_ n1_ n2_
        clear hb ho26
        refine hK.out _ _ ⟨v310, v313, v323, v326, v342, v345, v349, v352, (by rw [ha.out]; exact putSel_upk 6 hb_ rfl rfl rfl), BK306.out, HB.out, fun _ => (Kd.R_mono HO311.out (fun _ _ => trivial)), z_HO314, fun h0_ => absurd ((hoff 13 (by kernel_rfl)).symm.trans h0_) (by decide), fun h0_ => absurd ((hoff 14 (by kernel_rfl)).symm.trans h0_) (by decide), fun h0_ => absurd ((hoff 20 (by kernel_rfl)).symm.trans h0_) (by decide), fun h0_ => absurd ((hoff 21 (by kernel_rfl)).symm.trans h0_) (by decide), fun h0_ => absurd ((hoff 28 (by kernel_rfl)).symm.trans h0_) (by decide), fun h0_ => absurd ((hoff 29 (by kernel_rfl)).symm.trans h0_) (by decide)⟩
      refine steps_cons ?_ ?_
      · rintro b a w' ⟨v310, v313, v323, v326, v342, v345, v349, v352, ha, Q_BK306, Q_HB, Q_HO311, Q_HO314, Q_HO324, Q_HO327, Q_HO343, Q_HO346, Q_HO350, Q_HO353⟩ hb_ hon hoff
        refine ⟨_, rfl, fun K hK => ?_⟩
        have e31 : a.tmps[31]? = some (.bool true) := by rw [ha]; exact putSel_on (e := (4, 31, .bool true)) 4 rfl rfl (hon 4 (by kernel_rfl)) rfl
        replace ha := Aside0.mk ha
        have BK306 := Aside0.mk Q_BK306
        have HB := Aside0.mk Q_HB
        refine Kd.R_lit_step Kd.bool _ 4 ?hg (N := 34) ?hd (xs := ([false] : List Bool)) (inner := [.bool false]) (ok := fun _ => True) (okp := fun _ => True) ?hr ?hp (fun _ hk => hk) trivial (Below.refl _ _) (Nat.le_refl _) (by simp) ?_; (case hd => rfl); (case hg => exact wanted_on rfl rfl rfl (e31.trans (by first | rfl | (simp [*]; done)))); (case hr => first | (go_simp; done) | (go_simp; rfl)); (case hp => exact (Reps.one (show Kd.M Kd.bool _ _ _ false [.bool false] from rfl) (Reps.none _ _)))
        intro v313 w25 ho26 hb hg_ hnew_
        clear hg_ hnew_
        (first | rw [← Ny312.out] at ho26 | (simp only [Int.reduceToNat] at ho26; rw [← Ny312.out] at ho26))
        have n0_ := Aside0.mk (Kd.R_lower ho26 (below_size HB.out))
        have n1_ := Aside0.mk (blk_below (g := gb306) (o := .cells #[.int .i64 t300, .int .i64 t301, .bool t302, .bool t303, .int .i64 t304, .int .i64 t305] 48 (0, 0)) BK306.out hb)
        have n2_ := Aside0.mk (below_step HB.out hb)
        have z_HO311 := fun (h0_ : b 6 = true) => (show Kd.R k48 48 w25 w.heap.size (fun _ => True) v310 y309 from by first | exact (Kd.R_below ((Q_HO311 h0_)) hb) | exact Kd.R_mono (Kd.R_below ((Q_HO311 h0_)) hb) (fun _ _ => trivial))
        clear BK306
        clear HB
        have HO314 := n0_
        have BK306 := n1_
        have HB := n2_
        clear n0_ n1_ n2_
        clear hb ho26
        refine hK.out _ _ ⟨v310, v313, v323, v326, v342, v345, v349, v352, (by rw [ha.out]; exact putSel_upk 7 hb_ rfl rfl rfl), BK306.out, HB.out, z_HO311, fun _ => (Kd.R_mono HO314.out (fun _ _ => trivial)), fun h0_ => absurd ((hoff 13 (by kernel_rfl)).symm.trans h0_) (by decide), fun h0_ => absurd ((hoff 14 (by kernel_rfl)).symm.trans h0_) (by decide), fun h0_ => absurd ((hoff 20 (by kernel_rfl)).symm.trans h0_) (by decide), fun h0_ => absurd ((hoff 21 (by kernel_rfl)).symm.trans h0_) (by decide), fun h0_ => absurd ((hoff 28 (by kernel_rfl)).symm.trans h0_) (by decide), fun h0_ => absurd ((hoff 29 (by kernel_rfl)).symm.trans h0_) (by decide)⟩
      refine steps_cons ?_ ?_
      · rintro b a w' ⟨v310, v313, v323, v326, v342, v345, v349, v352, ha, Q_BK306, Q_HB, Q_HO311, Q_HO314, Q_HO324, Q_HO327, Q_HO343, Q_HO346, Q_HO350, Q_HO353⟩ hb_ hon hoff
        refine ⟨_, rfl, fun K hK => ?_⟩
        have e33 : a.tmps[33]? = some (v310) := by rw [ha]; exact putSel_on (e := (6, 33, v310)) 6 rfl rfl (hon 6 (by kernel_rfl)) rfl
        have e34 : a.tmps[34]? = some (v313) := by rw [ha]; exact putSel_on (e := (7, 34, v313)) 7 rfl rfl (hon 7 (by kernel_rfl)) rfl
        have e31 : a.tmps[31]? = some (.bool true) := by rw [ha]; exact putSel_on (e := (4, 31, .bool true)) 4 rfl rfl (hon 4 (by kernel_rfl)) rfl
        replace ha := Aside0.mk ha
        have BK306 := Aside0.mk Q_BK306
        have HB := Aside0.mk Q_HB
        have HO311 := Aside0.mk (Q_HO311 (hon 6 (by kernel_rfl)))
        have HO314 := Aside0.mk (Q_HO314 (hon 7 (by kernel_rfl)))
        obtain ⟨Ao29, co29, eo29⟩ := Kd.R_slice HO311.out
        (first | subst eo29 | (injection eo29 with f1_ f2_ f3_; have f4_ := f1_.symm; have f5_ := f3_.symm; clear f1_ f2_ f3_; subst f4_; subst f5_))
        obtain ⟨Ao30, co30, eo30⟩ := Kd.R_slice HO314.out
        (first | subst eo30 | (injection eo30 with f1_ f2_ f3_; have f4_ := f1_.symm; have f5_ := f3_.symm; clear f1_ f2_ f3_; subst f4_; subst f5_))
        refine goes_ Try.func20 (by kernel_rfl) rfl #[.slice Ao29 y309.length co29, .slice Ao30 y312.length co30, .int .i64 0] (wanted_on rfl rfl rfl (e31.trans (by first | rfl | (simp [*]; done)))) rfl rfl (by first | (simp only [List.map_toArray, List.map_cons, List.map_nil, Act.eval, Array.getD_eq_getD_getElem?, Option.getD_some, e33, e34, e31]; done) | (simp only [List.map_toArray, List.map_cons, List.map_nil, Act.eval, Array.getD_eq_getD_getElem?, Option.getD_some, e33, e34, e31]; rfl)) ?_
        with_reducible refine (regletlaw14_are.calls k _ _ y309 _ _ y312 0 true _ ?side1 ?side2 ?side3 ?side4 A10.out).mono ?_
        (case side1 => repeat (first | exact (Kd.R_reads' HO311.out).2.2 | (with_reducible refine Kd.C_alloc ?_ _) | (with_reducible refine Kd.C_drewN ?_ _) | (with_reducible refine Kd.C_drew ?_)))
        (case side2 => exact (Kd.R_reads' HO311.out).2.1)
        (case side3 => repeat (first | exact (Kd.R_reads' HO314.out).2.2 | (with_reducible refine Kd.C_alloc ?_ _) | (with_reducible refine Kd.C_drewN ?_ _) | (with_reducible refine Kd.C_drew ?_)))
        (case side4 => exact (Kd.R_reads' HO314.out).2.1)
        rintro e w31 ⟨rfl, hb⟩
        refine ⟨_, rfl, ?_⟩
        have n0_ := Aside0.mk (Kd.R_below (HO311.out) hb)
        have n1_ := Aside0.mk (Kd.R_below (HO314.out) hb)
        have n2_ := Aside0.mk (blk_below (g := gb306) (o := .cells #[.int .i64 t300, .int .i64 t301, .bool t302, .bool t303, .int .i64 t304, .int .i64 t305] 48 (0, 0)) BK306.out hb)
        have n3_ := Aside0.mk (below_step HB.out hb)
        clear HO311
        clear HO314
        clear BK306
        clear HB
        have HO311 := n0_
        have HO314 := n1_
        have BK306 := n2_
        have HB := n3_
        clear n0_ n1_ n2_ n3_
        (try clear hb)
        (try clear hb2)
        (try clear hk)
        (try clear hi)
        refine hK.out _ _ ⟨.slice Ao29 y309.length co29, .slice Ao30 y312.length co30, v323, v326, v342, v345, v349, v352, (by rw [ha.out]; exact putSel_upk 8 hb_ rfl rfl rfl), BK306.out, HB.out, fun _ => (Kd.R_mono HO311.out (fun _ _ => trivial)), fun _ => (Kd.R_mono HO314.out (fun _ _ => trivial)), fun h0_ => absurd ((hoff 13 (by kernel_rfl)).symm.trans h0_) (by decide), fun h0_ => absurd ((hoff 14 (by kernel_rfl)).symm.trans h0_) (by decide), fun h0_ => absurd ((hoff 20 (by kernel_rfl)).symm.trans h0_) (by decide), fun h0_ => absurd ((hoff 21 (by kernel_rfl)).symm.trans h0_) (by decide), fun h0_ => absurd ((hoff 28 (by kernel_rfl)).symm.trans h0_) (by decide), fun h0_ => absurd ((hoff 29 (by kernel_rfl)).symm.trans h0_) (by decide)⟩
      refine steps_cons ?_ ?_
      · rintro b a w' ⟨v310, v313, v323, v326, v342, v345, v349, v352, ha, Q_BK306, Q_HB, Q_HO311, Q_HO314, Q_HO324, Q_HO327, Q_HO343, Q_HO346, Q_HO350, Q_HO353⟩ hb_ hon hoff
        refine ⟨_, rfl, fun K hK => ?_⟩
        have e31 : a.tmps[31]? = some (.bool true) := by rw [ha]; exact putSel_on (e := (4, 31, .bool true)) 4 rfl rfl (hon 4 (by kernel_rfl)) rfl
        have e35 : a.tmps[35]? = some (.bool true) := by rw [ha]; exact putSel_on (e := (8, 35, .bool true)) 8 rfl rfl (hon 8 (by kernel_rfl)) rfl
        replace ha := Aside0.mk ha
        have BK306 := Aside0.mk Q_BK306
        have HB := Aside0.mk Q_HB
        have HO311 := Aside0.mk (Q_HO311 (hon 6 (by kernel_rfl)))
        have HO314 := Aside0.mk (Q_HO314 (hon 7 (by kernel_rfl)))
        refine value_ (w1 := w') (v := .bool true) (by rfl) rfl ?_ ?_
        · go_simp
          (try simp only [i64_w])
          try rfl
        refine hK.out _ _ ⟨v310, v313, v323, v326, v342, v345, v349, v352, (by rw [ha.out]; exact putSel_upk 9 hb_ rfl rfl rfl), Q_BK306, Q_HB, Q_HO311, Q_HO314, fun h0_ => absurd ((hoff 13 (by kernel_rfl)).symm.trans h0_) (by decide), fun h0_ => absurd ((hoff 14 (by kernel_rfl)).symm.trans h0_) (by decide), fun h0_ => absurd ((hoff 20 (by kernel_rfl)).symm.trans h0_) (by decide), fun h0_ => absurd ((hoff 21 (by kernel_rfl)).symm.trans h0_) (by decide), fun h0_ => absurd ((hoff 28 (by kernel_rfl)).symm.trans h0_) (by decide), fun h0_ => absurd ((hoff 29 (by kernel_rfl)).symm.trans h0_) (by decide)⟩
      refine steps_cons ?_ ?_
      · rintro b a w' ⟨v310, v313, v323, v326, v342, v345, v349, v352, ha, Q_BK306, Q_HB, Q_HO311, Q_HO314, Q_HO324, Q_HO327, Q_HO343, Q_HO346, Q_HO350, Q_HO353⟩ hb_ hon hoff
        refine ⟨_, rfl, fun K hK => ?_⟩
        have e36 : a.tmps[36]? = some (.bool true) := by rw [ha]; exact putSel_on (e := (9, 36, .bool true)) 9 rfl rfl (hon 9 (by kernel_rfl)) rfl
        replace ha := Aside0.mk ha
        have BK306 := Aside0.mk Q_BK306
        have HB := Aside0.mk Q_HB
        have HO311 := Aside0.mk (Q_HO311 (hon 6 (by kernel_rfl)))
        have HO314 := Aside0.mk (Q_HO314 (hon 7 (by kernel_rfl)))
        refine value_ (w1 := w') (v := .bool true) (by rfl) rfl ?_ ?_
        · go_simp
          (try simp only [i64_w])
          try rfl
        refine hK.out _ _ ⟨v310, v313, v323, v326, v342, v345, v349, v352, (by rw [ha.out]; exact putSel_upk 10 hb_ rfl rfl rfl), Q_BK306, Q_HB, Q_HO311, Q_HO314, fun h0_ => absurd ((hoff 13 (by kernel_rfl)).symm.trans h0_) (by decide), fun h0_ => absurd ((hoff 14 (by kernel_rfl)).symm.trans h0_) (by decide), fun h0_ => absurd ((hoff 20 (by kernel_rfl)).symm.trans h0_) (by decide), fun h0_ => absurd ((hoff 21 (by kernel_rfl)).symm.trans h0_) (by decide), fun h0_ => absurd ((hoff 28 (by kernel_rfl)).symm.trans h0_) (by decide), fun h0_ => absurd ((hoff 29 (by kernel_rfl)).symm.trans h0_) (by decide)⟩
      refine steps_cons ?_ ?_
      · rintro b a w' ⟨v310, v313, v323, v326, v342, v345, v349, v352, ha, Q_BK306, Q_HB, Q_HO311, Q_HO314, Q_HO324, Q_HO327, Q_HO343, Q_HO346, Q_HO350, Q_HO353⟩ hb_ hon hoff
        refine ⟨_, rfl, fun K hK => ?_⟩
        have e37 : a.tmps[37]? = some (.bool true) := by rw [ha]; exact putSel_on (e := (10, 37, .bool true)) 10 rfl rfl (hon 10 (by kernel_rfl)) rfl
        replace ha := Aside0.mk ha
        have BK306 := Aside0.mk Q_BK306
        have HB := Aside0.mk Q_HB
        have HO311 := Aside0.mk (Q_HO311 (hon 6 (by kernel_rfl)))
        have HO314 := Aside0.mk (Q_HO314 (hon 7 (by kernel_rfl)))
        refine goes_ Try.func19 (by kernel_rfl) rfl #[.bool true, .bool true] (wanted_on rfl rfl rfl (e37.trans (by first | rfl | (simp [*]; done)))) rfl rfl (by first | (simp only [List.map_toArray, List.map_cons, List.map_nil, Act.eval, Array.getD_eq_getD_getElem?, Option.getD_some, e37]; done) | (simp only [List.map_toArray, List.map_cons, List.map_nil, Act.eval, Array.getD_eq_getD_getElem?, Option.getD_some, e37]; rfl)) ?_
        with_reducible refine (regletlaw14_gap.calls true true t316 t317 t318 t319 t320 t321 _ A12.out).mono ?_
        rintro e w32 ⟨rfl, hb⟩
        refine ⟨_, rfl, ?_⟩
        have n0_ := Aside0.mk (Kd.R_below (HO311.out) hb)
        have n1_ := Aside0.mk (Kd.R_below (HO314.out) hb)
        have n2_ := Aside0.mk (blk_below (g := gb306) (o := .cells #[.int .i64 t300, .int .i64 t301, .bool t302, .bool t303, .int .i64 t304, .int .i64 t305] 48 (0, 0)) BK306.out hb)
        have n3_ := Aside0.mk (below_step HB.out hb)
        have z_HO327 := fun (h0_ : b 14 = true) => (show Kd.R Kd.bool 4 w32 w.heap.size (fun _ => True) v326 y325 from by first | exact (Kd.R_below ((Q_HO327 h0_)) hb) | exact Kd.R_mono (Kd.R_below ((Q_HO327 h0_)) hb) (fun _ _ => trivial))
        clear HO311
        clear HO314
        clear BK306
        clear HB
        have HO311 := n0_
        have HO314 := n1_
        have BK306 := n2_
        have HB := n3_
        clear n0_ n1_ n2_ n3_
        (try clear hb)
        (try clear hb2)
        (try clear hk)
        (try clear hi)
        refine hK.out _ _ ⟨v310, v313, v323, v326, v342, v345, v349, v352, (by rw [ha.out]; exact putSel_upk 11 hb_ rfl rfl rfl), BK306.out, HB.out, fun _ => (Kd.R_mono HO311.out (fun _ _ => trivial)), fun _ => (Kd.R_mono HO314.out (fun _ _ => trivial)), fun h0_ => absurd ((hoff 13 (by kernel_rfl)).symm.trans h0_) (by decide), z_HO327, fun h0_ => absurd ((hoff 20 (by kernel_rfl)).symm.trans h0_) (by decide), fun h0_ => absurd ((hoff 21 (by kernel_rfl)).symm.trans h0_) (by decide), fun h0_ => absurd ((hoff 28 (by kernel_rfl)).symm.trans h0_) (by decide), fun h0_ => absurd ((hoff 29 (by kernel_rfl)).symm.trans h0_) (by decide)⟩
      refine steps_cons ?_ ?_
      · rintro b a w' ⟨v310, v313, v323, v326, v342, v345, v349, v352, ha, Q_BK306, Q_HB, Q_HO311, Q_HO314, Q_HO324, Q_HO327, Q_HO343, Q_HO346, Q_HO350, Q_HO353⟩ hb_ hon hoff
        refine ⟨_, rfl, fun K hK => ?_⟩
        have e1 : a.tmps[1]? = some (.pointer (some ⟨gb306, 0, none⟩)) := by rw [ha]; exact (putSel_off rfl).trans rfl
        have e37 : a.tmps[37]? = some (.bool true) := by rw [ha]; exact putSel_on (e := (10, 37, .bool true)) 10 rfl rfl (hon 10 (by kernel_rfl)) rfl
        replace ha := Aside0.mk ha
        have BK306 := Aside0.mk Q_BK306
        have HB := Aside0.mk Q_HB
        have HO311 := Aside0.mk (Q_HO311 (hon 6 (by kernel_rfl)))
        have HO314 := Aside0.mk (Q_HO314 (hon 7 (by kernel_rfl)))
        have hc0_ : w'.cell? ⟨gb306, 0, none⟩ = some (.int .i64 t300) := (blk_cell BK306.out 0).trans rfl
        have hc1_ : w'.cell? ⟨gb306, 1, none⟩ = some (.int .i64 t301) := (blk_cell BK306.out 1).trans rfl
        have hc2_ : w'.cell? ⟨gb306, 2, none⟩ = some (.bool t302) := (blk_cell BK306.out 2).trans rfl
        have hc3_ : w'.cell? ⟨gb306, 3, none⟩ = some (.bool t303) := (blk_cell BK306.out 3).trans rfl
        have hc4_ : w'.cell? ⟨gb306, 4, none⟩ = some (.int .i64 t304) := (blk_cell BK306.out 4).trans rfl
        have hc5_ : w'.cell? ⟨gb306, 5, none⟩ = some (.int .i64 t305) := (blk_cell BK306.out 5).trans rfl
        refine value_ (w1 := w') (v := .agg #[.int .i64 t300, .int .i64 t301, .bool t302, .bool t303, .int .i64 t304, .int .i64 t305]) (wanted_on rfl rfl rfl (e37.trans (by first | rfl | (simp [*]; done)))) rfl ?_ ?_
        · go_simp
          (try simp only [i64_w])
          try rfl
        refine hK.out _ _ ⟨v310, v313, v323, v326, v342, v345, v349, v352, (by rw [ha.out]; exact putSel_upk 12 hb_ rfl rfl rfl), Q_BK306, Q_HB, Q_HO311, Q_HO314, fun h0_ => absurd ((hoff 13 (by kernel_rfl)).symm.trans h0_) (by decide), Q_HO327, fun h0_ => absurd ((hoff 20 (by kernel_rfl)).symm.trans h0_) (by decide), fun h0_ => absurd ((hoff 21 (by kernel_rfl)).symm.trans h0_) (by decide), fun h0_ => absurd ((hoff 28 (by kernel_rfl)).symm.trans h0_) (by decide), fun h0_ => absurd ((hoff 29 (by kernel_rfl)).symm.trans h0_) (by decide)⟩
      refine steps_cons ?_ ?_
      · rintro b a w' ⟨v310, v313, v323, v326, v342, v345, v349, v352, ha, Q_BK306, Q_HB, Q_HO311, Q_HO314, Q_HO324, Q_HO327, Q_HO343, Q_HO346, Q_HO350, Q_HO353⟩ hb_ hon hoff
        refine ⟨_, rfl, fun K hK => ?_⟩
        have e38 : a.tmps[38]? = some (.agg #[.int .i64 t316, .int .i64 t317, .bool t318, .bool t319, .int .i64 t320, .int .i64 t321]) := by rw [ha]; exact putSel_on (e := (11, 38, .agg #[.int .i64 t316, .int .i64 t317, .bool t318, .bool t319, .int .i64 t320, .int .i64 t321])) 11 rfl rfl (hon 11 (by kernel_rfl)) rfl
        have e39 : a.tmps[39]? = some (.agg #[.int .i64 t300, .int .i64 t301, .bool t302, .bool t303, .int .i64 t304, .int .i64 t305]) := by rw [ha]; exact putSel_on (e := (12, 39, .agg #[.int .i64 t300, .int .i64 t301, .bool t302, .bool t303, .int .i64 t304, .int .i64 t305])) 12 rfl rfl (hon 12 (by kernel_rfl)) rfl
        have e37 : a.tmps[37]? = some (.bool true) := by rw [ha]; exact putSel_on (e := (10, 37, .bool true)) 10 rfl rfl (hon 10 (by kernel_rfl)) rfl
        replace ha := Aside0.mk ha
        have BK306 := Aside0.mk Q_BK306
        have HB := Aside0.mk Q_HB
        have HO311 := Aside0.mk (Q_HO311 (hon 6 (by kernel_rfl)))
        have HO314 := Aside0.mk (Q_HO314 (hon 7 (by kernel_rfl)))
        refine Kd.R_lit_step k48 _ 48 ?hg (N := 40) ?hd (xs := ([(⟨t316, t317, t318, t319, t320, t321⟩ : S48), (⟨t300, t301, t302, t303, t304, t305⟩ : S48)] : List (S48))) (inner := [.int .i64 t316, .int .i64 t317, .bool t318, .bool t319, .int .i64 t320, .int .i64 t321, .int .i64 t300, .int .i64 t301, .bool t302, .bool t303, .int .i64 t304, .int .i64 t305]) (ok := fun _ => True) (okp := fun _ => True) ?hr ?hp (fun _ hk => hk) trivial (Below.refl _ _) (Nat.le_refl _) (by simp) ?_; (case hd => rfl); (case hg => exact wanted_on rfl rfl rfl (e37.trans (by first | rfl | (simp [*]; done)))); (case hr => first | (go_simp; done) | (go_simp; rfl)); (case hp => exact (Reps.c6 (show Kd.M k48 _ _ _ (⟨t316, t317, t318, t319, t320, t321⟩ : S48) [.int .i64 t316, .int .i64 t317, .bool t318, .bool t319, .int .i64 t320, .int .i64 t321] from (k48_mkM _ _ _ (⟨t316, t317, t318, t319, t320, t321⟩ : S48) )) (Reps.c6 (show Kd.M k48 _ _ _ (⟨t300, t301, t302, t303, t304, t305⟩ : S48) [.int .i64 t300, .int .i64 t301, .bool t302, .bool t303, .int .i64 t304, .int .i64 t305] from (k48_mkM _ _ _ (⟨t300, t301, t302, t303, t304, t305⟩ : S48) )) (Reps.none _ _))))
        intro v323 w33 ho34 hb hg_ hnew_
        clear hg_ hnew_
        (first | rw [← Ny322.out] at ho34 | (simp only [Int.reduceToNat] at ho34; rw [← Ny322.out] at ho34))
        have n0_ := Aside0.mk (Kd.R_elder' (HO311.out) (Kd.R_base ho34) hb)
        have n1_ := Aside0.mk (Kd.R_below (HO314.out) hb)
        have n2_ := Aside0.mk (Kd.R_lower (Kd.R_newB (Kd.R_new' ho34 (Kd.R_lt (HO311.out))) (g := gb306) (o := .cells #[.int .i64 t300, .int .i64 t301, .bool t302, .bool t303, .int .i64 t304, .int .i64 t305] 48 (0, 0)) BK306.out) (below_size HB.out))
        have n3_ := Aside0.mk (blk_below (g := gb306) (o := .cells #[.int .i64 t300, .int .i64 t301, .bool t302, .bool t303, .int .i64 t304, .int .i64 t305] 48 (0, 0)) BK306.out hb)
        have n4_ := Aside0.mk (below_step HB.out hb)
        have z_HO327 := fun (h0_ : b 14 = true) => (show Kd.R Kd.bool 4 w33 w.heap.size (fun _ => True) v326 y325 from by first | exact (Kd.R_below ((Q_HO327 h0_)) hb) | exact Kd.R_mono (Kd.R_below ((Q_HO327 h0_)) hb) (fun _ _ => trivial))
        clear HO311
        clear HO314
        clear BK306
        clear HB
        have HO311 := n0_
        have HO314 := n1_
        have HO324 := n2_
        have BK306 := n3_
        have HB := n4_
        clear n0_ n1_ n2_ n3_ n4_
        clear hb ho34
        refine hK.out _ _ ⟨v310, v313, v323, v326, v342, v345, v349, v352, (by rw [ha.out]; exact putSel_upk 13 hb_ rfl rfl rfl), BK306.out, HB.out, fun _ => (Kd.R_mono HO311.out (fun _ _ => trivial)), fun _ => (Kd.R_mono HO314.out (fun _ _ => trivial)), fun _ => (Kd.R_mono HO324.out (fun _ _ => trivial)), z_HO327, fun h0_ => absurd ((hoff 20 (by kernel_rfl)).symm.trans h0_) (by decide), fun h0_ => absurd ((hoff 21 (by kernel_rfl)).symm.trans h0_) (by decide), fun h0_ => absurd ((hoff 28 (by kernel_rfl)).symm.trans h0_) (by decide), fun h0_ => absurd ((hoff 29 (by kernel_rfl)).symm.trans h0_) (by decide)⟩
      refine steps_cons ?_ ?_
      · rintro b a w' ⟨v310, v313, v323, v326, v342, v345, v349, v352, ha, Q_BK306, Q_HB, Q_HO311, Q_HO314, Q_HO324, Q_HO327, Q_HO343, Q_HO346, Q_HO350, Q_HO353⟩ hb_ hon hoff
        refine ⟨_, rfl, fun K hK => ?_⟩
        have e37 : a.tmps[37]? = some (.bool true) := by rw [ha]; exact putSel_on (e := (10, 37, .bool true)) 10 rfl rfl (hon 10 (by kernel_rfl)) rfl
        replace ha := Aside0.mk ha
        have BK306 := Aside0.mk Q_BK306
        have HB := Aside0.mk Q_HB
        have HO311 := Aside0.mk (Q_HO311 (hon 6 (by kernel_rfl)))
        have HO314 := Aside0.mk (Q_HO314 (hon 7 (by kernel_rfl)))
        refine Kd.R_lit_step Kd.bool _ 4 ?hg (N := 41) ?hd (xs := ([true, false] : List Bool)) (inner := [.bool true, .bool false]) (ok := fun _ => True) (okp := fun _ => True) ?hr ?hp (fun _ hk => hk) trivial (Below.refl _ _) (Nat.le_refl _) (by simp) ?_; (case hd => rfl); (case hg => exact wanted_on rfl rfl rfl (e37.trans (by first | rfl | (simp [*]; done)))); (case hr => first | (go_simp; done) | (go_simp; rfl)); (case hp => exact (Reps.one (show Kd.M Kd.bool _ _ _ true [.bool true] from rfl) (Reps.one (show Kd.M Kd.bool _ _ _ false [.bool false] from rfl) (Reps.none _ _))))
        intro v326 w32 ho33 hb hg_ hnew_
        clear hg_ hnew_
        (first | rw [← Ny325.out] at ho33 | (simp only [Int.reduceToNat] at ho33; rw [← Ny325.out] at ho33))
        have n0_ := Aside0.mk (Kd.R_below (HO311.out) hb)
        have n1_ := Aside0.mk (Kd.R_elder' (HO314.out) (Kd.R_base ho33) hb)
        have n2_ := Aside0.mk (Kd.R_lower (Kd.R_new' ho33 (Kd.R_lt (HO314.out))) (below_size HB.out))
        have n3_ := Aside0.mk (blk_below (g := gb306) (o := .cells #[.int .i64 t300, .int .i64 t301, .bool t302, .bool t303, .int .i64 t304, .int .i64 t305] 48 (0, 0)) BK306.out hb)
        have n4_ := Aside0.mk (below_step HB.out hb)
        have z_HO324 := fun (h0_ : b 13 = true) => (show Kd.R k48 48 w32 w.heap.size (fun _ => True) v323 y322 from by first | exact (Kd.R_below ((Q_HO324 h0_)) hb) | exact Kd.R_mono (Kd.R_below ((Q_HO324 h0_)) hb) (fun _ _ => trivial))
        clear HO311
        clear HO314
        clear BK306
        clear HB
        have HO311 := n0_
        have HO314 := n1_
        have HO327 := n2_
        have BK306 := n3_
        have HB := n4_
        clear n0_ n1_ n2_ n3_ n4_
        clear hb ho33
        refine hK.out _ _ ⟨v310, v313, v323, v326, v342, v345, v349, v352, (by rw [ha.out]; exact putSel_upk 14 hb_ rfl rfl rfl), BK306.out, HB.out, fun _ => (Kd.R_mono HO311.out (fun _ _ => trivial)), fun _ => (Kd.R_mono HO314.out (fun _ _ => trivial)), z_HO324, fun _ => (Kd.R_mono HO327.out (fun _ _ => trivial)), fun h0_ => absurd ((hoff 20 (by kernel_rfl)).symm.trans h0_) (by decide), fun h0_ => absurd ((hoff 21 (by kernel_rfl)).symm.trans h0_) (by decide), fun h0_ => absurd ((hoff 28 (by kernel_rfl)).symm.trans h0_) (by decide), fun h0_ => absurd ((hoff 29 (by kernel_rfl)).symm.trans h0_) (by decide)⟩
      refine steps_cons ?_ ?_
      · rintro b a w' ⟨v310, v313, v323, v326, v342, v345, v349, v352, ha, Q_BK306, Q_HB, Q_HO311, Q_HO314, Q_HO324, Q_HO327, Q_HO343, Q_HO346, Q_HO350, Q_HO353⟩ hb_ hon hoff
        refine ⟨_, rfl, fun K hK => ?_⟩
        have e40 : a.tmps[40]? = some (v323) := by rw [ha]; exact putSel_on (e := (13, 40, v323)) 13 rfl rfl (hon 13 (by kernel_rfl)) rfl
        have e41 : a.tmps[41]? = some (v326) := by rw [ha]; exact putSel_on (e := (14, 41, v326)) 14 rfl rfl (hon 14 (by kernel_rfl)) rfl
        have e37 : a.tmps[37]? = some (.bool true) := by rw [ha]; exact putSel_on (e := (10, 37, .bool true)) 10 rfl rfl (hon 10 (by kernel_rfl)) rfl
        replace ha := Aside0.mk ha
        have BK306 := Aside0.mk Q_BK306
        have HB := Aside0.mk Q_HB
        have HO311 := Aside0.mk (Q_HO311 (hon 6 (by kernel_rfl)))
        have HO314 := Aside0.mk (Q_HO314 (hon 7 (by kernel_rfl)))
        have HO324 := Aside0.mk (Q_HO324 (hon 13 (by kernel_rfl)))
        have HO327 := Aside0.mk (Q_HO327 (hon 14 (by kernel_rfl)))
        obtain ⟨Ao37, co37, eo37⟩ := Kd.R_slice HO324.out
        (first | subst eo37 | (injection eo37 with f1_ f2_ f3_; have f4_ := f1_.symm; have f5_ := f3_.symm; clear f1_ f2_ f3_; subst f4_; subst f5_))
        obtain ⟨Ao38, co38, eo38⟩ := Kd.R_slice HO327.out
        (first | subst eo38 | (injection eo38 with f1_ f2_ f3_; have f4_ := f1_.symm; have f5_ := f3_.symm; clear f1_ f2_ f3_; subst f4_; subst f5_))
        refine goes_ Try.func20 (by kernel_rfl) rfl #[.slice Ao37 y322.length co37, .slice Ao38 y325.length co38, .int .i64 5] (wanted_on rfl rfl rfl (e37.trans (by first | rfl | (simp [*]; done)))) rfl rfl (by first | (simp only [List.map_toArray, List.map_cons, List.map_nil, Act.eval, Array.getD_eq_getD_getElem?, Option.getD_some, e40, e41, e37]; done) | (simp only [List.map_toArray, List.map_cons, List.map_nil, Act.eval, Array.getD_eq_getD_getElem?, Option.getD_some, e40, e41, e37]; rfl)) ?_
        with_reducible refine (regletlaw14_are.calls k _ _ y322 _ _ y325 5 true _ ?side1 ?side2 ?side3 ?side4 A13.out).mono ?_
        (case side1 => repeat (first | exact (Kd.R_reads' HO324.out).2.2 | (with_reducible refine Kd.C_alloc ?_ _) | (with_reducible refine Kd.C_drewN ?_ _) | (with_reducible refine Kd.C_drew ?_)))
        (case side2 => exact (Kd.R_reads' HO324.out).2.1)
        (case side3 => repeat (first | exact (Kd.R_reads' HO327.out).2.2 | (with_reducible refine Kd.C_alloc ?_ _) | (with_reducible refine Kd.C_drewN ?_ _) | (with_reducible refine Kd.C_drew ?_)))
        (case side4 => exact (Kd.R_reads' HO327.out).2.1)
        rintro e w39 ⟨rfl, hb⟩
        refine ⟨_, rfl, ?_⟩
        have n0_ := Aside0.mk (Kd.R_below (HO311.out) hb)
        have n1_ := Aside0.mk (Kd.R_below (HO314.out) hb)
        have n2_ := Aside0.mk (Kd.R_below (HO324.out) hb)
        have n3_ := Aside0.mk (Kd.R_below (HO327.out) hb)
        have n4_ := Aside0.mk (blk_below (g := gb306) (o := .cells #[.int .i64 t300, .int .i64 t301, .bool t302, .bool t303, .int .i64 t304, .int .i64 t305] 48 (0, 0)) BK306.out hb)
        have n5_ := Aside0.mk (below_step HB.out hb)
        clear HO311
        clear HO314
        clear HO324
        clear HO327
        clear BK306
        clear HB
        have HO311 := n0_
        have HO314 := n1_
        have HO324 := n2_
        have HO327 := n3_
        have BK306 := n4_
        have HB := n5_
        clear n0_ n1_ n2_ n3_ n4_ n5_
        (try clear hb)
        (try clear hb2)
        (try clear hk)
        (try clear hi)
        refine hK.out _ _ ⟨v310, v313, .slice Ao37 y322.length co37, .slice Ao38 y325.length co38, v342, v345, v349, v352, (by rw [ha.out]; exact putSel_upk 15 hb_ rfl rfl rfl), BK306.out, HB.out, fun _ => (Kd.R_mono HO311.out (fun _ _ => trivial)), fun _ => (Kd.R_mono HO314.out (fun _ _ => trivial)), fun _ => (Kd.R_mono HO324.out (fun _ _ => trivial)), fun _ => (Kd.R_mono HO327.out (fun _ _ => trivial)), fun h0_ => absurd ((hoff 20 (by kernel_rfl)).symm.trans h0_) (by decide), fun h0_ => absurd ((hoff 21 (by kernel_rfl)).symm.trans h0_) (by decide), fun h0_ => absurd ((hoff 28 (by kernel_rfl)).symm.trans h0_) (by decide), fun h0_ => absurd ((hoff 29 (by kernel_rfl)).symm.trans h0_) (by decide)⟩
      refine steps_cons ?_ ?_
      · rintro b a w' ⟨v310, v313, v323, v326, v342, v345, v349, v352, ha, Q_BK306, Q_HB, Q_HO311, Q_HO314, Q_HO324, Q_HO327, Q_HO343, Q_HO346, Q_HO350, Q_HO353⟩ hb_ hon hoff
        refine ⟨_, rfl, fun K hK => ?_⟩
        have e37 : a.tmps[37]? = some (.bool true) := by rw [ha]; exact putSel_on (e := (10, 37, .bool true)) 10 rfl rfl (hon 10 (by kernel_rfl)) rfl
        have e42 : a.tmps[42]? = some (.bool true) := by rw [ha]; exact putSel_on (e := (15, 42, .bool true)) 15 rfl rfl (hon 15 (by kernel_rfl)) rfl
        replace ha := Aside0.mk ha
        have BK306 := Aside0.mk Q_BK306
        have HB := Aside0.mk Q_HB
        have HO311 := Aside0.mk (Q_HO311 (hon 6 (by kernel_rfl)))
        have HO314 := Aside0.mk (Q_HO314 (hon 7 (by kernel_rfl)))
        have HO324 := Aside0.mk (Q_HO324 (hon 13 (by kernel_rfl)))
        have HO327 := Aside0.mk (Q_HO327 (hon 14 (by kernel_rfl)))
        refine value_ (w1 := w') (v := .bool true) (by rfl) rfl ?_ ?_
        · go_simp
          (try simp only [i64_w])
          try rfl
        refine hK.out _ _ ⟨v310, v313, v323, v326, v342, v345, v349, v352, (by rw [ha.out]; exact putSel_upk 16 hb_ rfl rfl rfl), Q_BK306, Q_HB, Q_HO311, Q_HO314, Q_HO324, Q_HO327, fun h0_ => absurd ((hoff 20 (by kernel_rfl)).symm.trans h0_) (by decide), fun h0_ => absurd ((hoff 21 (by kernel_rfl)).symm.trans h0_) (by decide), fun h0_ => absurd ((hoff 28 (by kernel_rfl)).symm.trans h0_) (by decide), fun h0_ => absurd ((hoff 29 (by kernel_rfl)).symm.trans h0_) (by decide)⟩
      refine steps_cons ?_ ?_
      · rintro b a w' ⟨v310, v313, v323, v326, v342, v345, v349, v352, ha, Q_BK306, Q_HB, Q_HO311, Q_HO314, Q_HO324, Q_HO327, Q_HO343, Q_HO346, Q_HO350, Q_HO353⟩ hb_ hon hoff
        refine ⟨_, rfl, fun K hK => ?_⟩
        have e43 : a.tmps[43]? = some (.bool true) := by rw [ha]; exact putSel_on (e := (16, 43, .bool true)) 16 rfl rfl (hon 16 (by kernel_rfl)) rfl
        replace ha := Aside0.mk ha
        have BK306 := Aside0.mk Q_BK306
        have HB := Aside0.mk Q_HB
        have HO311 := Aside0.mk (Q_HO311 (hon 6 (by kernel_rfl)))
        have HO314 := Aside0.mk (Q_HO314 (hon 7 (by kernel_rfl)))
        have HO324 := Aside0.mk (Q_HO324 (hon 13 (by kernel_rfl)))
        have HO327 := Aside0.mk (Q_HO327 (hon 14 (by kernel_rfl)))
        refine value_ (w1 := w') (v := .bool true) (by rfl) rfl ?_ ?_
        · go_simp
          (try simp only [i64_w])
          try rfl
        refine hK.out _ _ ⟨v310, v313, v323, v326, v342, v345, v349, v352, (by rw [ha.out]; exact putSel_upk 17 hb_ rfl rfl rfl), Q_BK306, Q_HB, Q_HO311, Q_HO314, Q_HO324, Q_HO327, fun h0_ => absurd ((hoff 20 (by kernel_rfl)).symm.trans h0_) (by decide), fun h0_ => absurd ((hoff 21 (by kernel_rfl)).symm.trans h0_) (by decide), fun h0_ => absurd ((hoff 28 (by kernel_rfl)).symm.trans h0_) (by decide), fun h0_ => absurd ((hoff 29 (by kernel_rfl)).symm.trans h0_) (by decide)⟩
      refine steps_cons ?_ ?_
      · rintro b a w' ⟨v310, v313, v323, v326, v342, v345, v349, v352, ha, Q_BK306, Q_HB, Q_HO311, Q_HO314, Q_HO324, Q_HO327, Q_HO343, Q_HO346, Q_HO350, Q_HO353⟩ hb_ hon hoff
        refine ⟨_, rfl, fun K hK => ?_⟩
        have e44 : a.tmps[44]? = some (.bool true) := by rw [ha]; exact putSel_on (e := (17, 44, .bool true)) 17 rfl rfl (hon 17 (by kernel_rfl)) rfl
        replace ha := Aside0.mk ha
        have BK306 := Aside0.mk Q_BK306
        have HB := Aside0.mk Q_HB
        have HO311 := Aside0.mk (Q_HO311 (hon 6 (by kernel_rfl)))
        have HO314 := Aside0.mk (Q_HO314 (hon 7 (by kernel_rfl)))
        have HO324 := Aside0.mk (Q_HO324 (hon 13 (by kernel_rfl)))
        have HO327 := Aside0.mk (Q_HO327 (hon 14 (by kernel_rfl)))
        refine goes_ Try.func19 (by kernel_rfl) rfl #[.bool false, .bool false] (wanted_on rfl rfl rfl (e44.trans (by first | rfl | (simp [*]; done)))) rfl rfl (by first | (simp only [List.map_toArray, List.map_cons, List.map_nil, Act.eval, Array.getD_eq_getD_getElem?, Option.getD_some, e44]; done) | (simp only [List.map_toArray, List.map_cons, List.map_nil, Act.eval, Array.getD_eq_getD_getElem?, Option.getD_some, e44]; rfl)) ?_
        with_reducible refine (regletlaw14_gap.calls false false t329 t330 t331 t332 t333 t334 _ A15.out).mono ?_
        rintro e w40 ⟨rfl, hb⟩
        refine ⟨_, rfl, ?_⟩
        have n0_ := Aside0.mk (Kd.R_below (HO311.out) hb)
        have n1_ := Aside0.mk (Kd.R_below (HO314.out) hb)
        have n2_ := Aside0.mk (Kd.R_below (HO324.out) hb)
        have n3_ := Aside0.mk (Kd.R_below (HO327.out) hb)
        have n4_ := Aside0.mk (blk_below (g := gb306) (o := .cells #[.int .i64 t300, .int .i64 t301, .bool t302, .bool t303, .int .i64 t304, .int .i64 t305] 48 (0, 0)) BK306.out hb)
        have n5_ := Aside0.mk (below_step HB.out hb)
        have z_HO346 := fun (h0_ : b 21 = true) => (show Kd.R Kd.bool 4 w40 w.heap.size (fun _ => True) v345 y344 from by first | exact (Kd.R_below ((Q_HO346 h0_)) hb) | exact Kd.R_mono (Kd.R_below ((Q_HO346 h0_)) hb) (fun _ _ => trivial))
        clear HO311
        clear HO314
        clear HO324
        clear HO327
        clear BK306
        clear HB
        have HO311 := n0_
        have HO314 := n1_
        have HO324 := n2_
        have HO327 := n3_
        have BK306 := n4_
        have HB := n5_
        clear n0_ n1_ n2_ n3_ n4_ n5_
        (try clear hb)
        (try clear hb2)
        (try clear hk)
        (try clear hi)
        refine hK.out _ _ ⟨v310, v313, v323, v326, v342, v345, v349, v352, (by rw [ha.out]; exact putSel_upk 18 hb_ rfl rfl rfl), BK306.out, HB.out, fun _ => (Kd.R_mono HO311.out (fun _ _ => trivial)), fun _ => (Kd.R_mono HO314.out (fun _ _ => trivial)), fun _ => (Kd.R_mono HO324.out (fun _ _ => trivial)), fun _ => (Kd.R_mono HO327.out (fun _ _ => trivial)), fun h0_ => absurd ((hoff 20 (by kernel_rfl)).symm.trans h0_) (by decide), z_HO346, fun h0_ => absurd ((hoff 28 (by kernel_rfl)).symm.trans h0_) (by decide), fun h0_ => absurd ((hoff 29 (by kernel_rfl)).symm.trans h0_) (by decide)⟩
      refine steps_cons ?_ ?_
      · rintro b a w' ⟨v310, v313, v323, v326, v342, v345, v349, v352, ha, Q_BK306, Q_HB, Q_HO311, Q_HO314, Q_HO324, Q_HO327, Q_HO343, Q_HO346, Q_HO350, Q_HO353⟩ hb_ hon hoff
        refine ⟨_, rfl, fun K hK => ?_⟩
        have e44 : a.tmps[44]? = some (.bool true) := by rw [ha]; exact putSel_on (e := (17, 44, .bool true)) 17 rfl rfl (hon 17 (by kernel_rfl)) rfl
        replace ha := Aside0.mk ha
        have BK306 := Aside0.mk Q_BK306
        have HB := Aside0.mk Q_HB
        have HO311 := Aside0.mk (Q_HO311 (hon 6 (by kernel_rfl)))
        have HO314 := Aside0.mk (Q_HO314 (hon 7 (by kernel_rfl)))
        have HO324 := Aside0.mk (Q_HO324 (hon 13 (by kernel_rfl)))
        have HO327 := Aside0.mk (Q_HO327 (hon 14 (by kernel_rfl)))
        refine goes_ Try.func19 (by kernel_rfl) rfl #[.bool false, .bool false] (wanted_on rfl rfl rfl (e44.trans (by first | rfl | (simp [*]; done)))) rfl rfl (by first | (simp only [List.map_toArray, List.map_cons, List.map_nil, Act.eval, Array.getD_eq_getD_getElem?, Option.getD_some, e44]; done) | (simp only [List.map_toArray, List.map_cons, List.map_nil, Act.eval, Array.getD_eq_getD_getElem?, Option.getD_some, e44]; rfl)) ?_
        with_reducible refine (regletlaw14_gap.calls false false t335 t336 t337 t338 t339 t340 _ A16.out).mono ?_
        rintro e w41 ⟨rfl, hb⟩
        refine ⟨_, rfl, ?_⟩
        have n0_ := Aside0.mk (Kd.R_below (HO311.out) hb)
        have n1_ := Aside0.mk (Kd.R_below (HO314.out) hb)
        have n2_ := Aside0.mk (Kd.R_below (HO324.out) hb)
        have n3_ := Aside0.mk (Kd.R_below (HO327.out) hb)
        have n4_ := Aside0.mk (blk_below (g := gb306) (o := .cells #[.int .i64 t300, .int .i64 t301, .bool t302, .bool t303, .int .i64 t304, .int .i64 t305] 48 (0, 0)) BK306.out hb)
        have n5_ := Aside0.mk (below_step HB.out hb)
        have z_HO346 := fun (h0_ : b 21 = true) => (show Kd.R Kd.bool 4 w41 w.heap.size (fun _ => True) v345 y344 from by first | exact (Kd.R_below ((Q_HO346 h0_)) hb) | exact Kd.R_mono (Kd.R_below ((Q_HO346 h0_)) hb) (fun _ _ => trivial))
        clear HO311
        clear HO314
        clear HO324
        clear HO327
        clear BK306
        clear HB
        have HO311 := n0_
        have HO314 := n1_
        have HO324 := n2_
        have HO327 := n3_
        have BK306 := n4_
        have HB := n5_
        clear n0_ n1_ n2_ n3_ n4_ n5_
        (try clear hb)
        (try clear hb2)
        (try clear hk)
        (try clear hi)
        refine hK.out _ _ ⟨v310, v313, v323, v326, v342, v345, v349, v352, (by rw [ha.out]; exact putSel_upk 19 hb_ rfl rfl rfl), BK306.out, HB.out, fun _ => (Kd.R_mono HO311.out (fun _ _ => trivial)), fun _ => (Kd.R_mono HO314.out (fun _ _ => trivial)), fun _ => (Kd.R_mono HO324.out (fun _ _ => trivial)), fun _ => (Kd.R_mono HO327.out (fun _ _ => trivial)), fun h0_ => absurd ((hoff 20 (by kernel_rfl)).symm.trans h0_) (by decide), z_HO346, fun h0_ => absurd ((hoff 28 (by kernel_rfl)).symm.trans h0_) (by decide), fun h0_ => absurd ((hoff 29 (by kernel_rfl)).symm.trans h0_) (by decide)⟩
      refine steps_cons ?_ ?_
      · rintro b a w' ⟨v310, v313, v323, v326, v342, v345, v349, v352, ha, Q_BK306, Q_HB, Q_HO311, Q_HO314, Q_HO324, Q_HO327, Q_HO343, Q_HO346, Q_HO350, Q_HO353⟩ hb_ hon hoff
        refine ⟨_, rfl, fun K hK => ?_⟩
        have e45 : a.tmps[45]? = some (.agg #[.int .i64 t329, .int .i64 t330, .bool t331, .bool t332, .int .i64 t333, .int .i64 t334]) := by rw [ha]; exact putSel_on (e := (18, 45, .agg #[.int .i64 t329, .int .i64 t330, .bool t331, .bool t332, .int .i64 t333, .int .i64 t334])) 18 rfl rfl (hon 18 (by kernel_rfl)) rfl
        have e46 : a.tmps[46]? = some (.agg #[.int .i64 t335, .int .i64 t336, .bool t337, .bool t338, .int .i64 t339, .int .i64 t340]) := by rw [ha]; exact putSel_on (e := (19, 46, .agg #[.int .i64 t335, .int .i64 t336, .bool t337, .bool t338, .int .i64 t339, .int .i64 t340])) 19 rfl rfl (hon 19 (by kernel_rfl)) rfl
        have e44 : a.tmps[44]? = some (.bool true) := by rw [ha]; exact putSel_on (e := (17, 44, .bool true)) 17 rfl rfl (hon 17 (by kernel_rfl)) rfl
        replace ha := Aside0.mk ha
        have BK306 := Aside0.mk Q_BK306
        have HB := Aside0.mk Q_HB
        have HO311 := Aside0.mk (Q_HO311 (hon 6 (by kernel_rfl)))
        have HO314 := Aside0.mk (Q_HO314 (hon 7 (by kernel_rfl)))
        have HO324 := Aside0.mk (Q_HO324 (hon 13 (by kernel_rfl)))
        have HO327 := Aside0.mk (Q_HO327 (hon 14 (by kernel_rfl)))
        refine Kd.R_lit_step k48 _ 48 ?hg (N := 47) ?hd (xs := ([(⟨t329, t330, t331, t332, t333, t334⟩ : S48), (⟨t335, t336, t337, t338, t339, t340⟩ : S48)] : List (S48))) (inner := [.int .i64 t329, .int .i64 t330, .bool t331, .bool t332, .int .i64 t333, .int .i64 t334, .int .i64 t335, .int .i64 t336, .bool t337, .bool t338, .int .i64 t339, .int .i64 t340]) (ok := fun _ => True) (okp := fun _ => True) ?hr ?hp (fun _ hk => hk) trivial (Below.refl _ _) (Nat.le_refl _) (by simp) ?_; (case hd => rfl); (case hg => exact wanted_on rfl rfl rfl (e44.trans (by first | rfl | (simp [*]; done)))); (case hr => first | (go_simp; done) | (go_simp; rfl)); (case hp => exact (Reps.c6 (show Kd.M k48 _ _ _ (⟨t329, t330, t331, t332, t333, t334⟩ : S48) [.int .i64 t329, .int .i64 t330, .bool t331, .bool t332, .int .i64 t333, .int .i64 t334] from (k48_mkM _ _ _ (⟨t329, t330, t331, t332, t333, t334⟩ : S48) )) (Reps.c6 (show Kd.M k48 _ _ _ (⟨t335, t336, t337, t338, t339, t340⟩ : S48) [.int .i64 t335, .int .i64 t336, .bool t337, .bool t338, .int .i64 t339, .int .i64 t340] from (k48_mkM _ _ _ (⟨t335, t336, t337, t338, t339, t340⟩ : S48) )) (Reps.none _ _))))
        intro v342 w42 ho43 hb hg_ hnew_
        clear hg_ hnew_
        (first | rw [← Ny341.out] at ho43 | (simp only [Int.reduceToNat] at ho43; rw [← Ny341.out] at ho43))
        have n0_ := Aside0.mk (Kd.R_elder' (HO311.out) (Kd.R_base ho43) hb)
        have n1_ := Aside0.mk (Kd.R_below (HO314.out) hb)
        have n2_ := Aside0.mk (Kd.R_elder' (HO324.out) (Kd.R_base ho43) hb)
        have n3_ := Aside0.mk (Kd.R_below (HO327.out) hb)
        have n4_ := Aside0.mk (Kd.R_lower (Kd.R_newB (Kd.R_new' (Kd.R_new' ho43 (Kd.R_lt (HO311.out))) (Kd.R_lt (HO324.out))) (g := gb306) (o := .cells #[.int .i64 t300, .int .i64 t301, .bool t302, .bool t303, .int .i64 t304, .int .i64 t305] 48 (0, 0)) BK306.out) (below_size HB.out))
        have n5_ := Aside0.mk (blk_below (g := gb306) (o := .cells #[.int .i64 t300, .int .i64 t301, .bool t302, .bool t303, .int .i64 t304, .int .i64 t305] 48 (0, 0)) BK306.out hb)
        have n6_ := Aside0.mk (below_step HB.out hb)
        have z_HO346 := fun (h0_ : b 21 = true) => (show Kd.R Kd.bool 4 w42 w.heap.size (fun _ => True) v345 y344 from by first | exact (Kd.R_below ((Q_HO346 h0_)) hb) | exact Kd.R_mono (Kd.R_below ((Q_HO346 h0_)) hb) (fun _ _ => trivial))
        clear HO311
        clear HO314
        clear HO324
        clear HO327
        clear BK306
        clear HB
        have HO311 := n0_
        have HO314 := n1_
        have HO324 := n2_
        have HO327 := n3_
        have HO343 := n4_
        have BK306 := n5_
        have HB := n6_
        clear n0_ n1_ n2_ n3_ n4_ n5_ n6_
        clear hb ho43
        refine hK.out _ _ ⟨v310, v313, v323, v326, v342, v345, v349, v352, (by rw [ha.out]; exact putSel_upk 20 hb_ rfl rfl rfl), BK306.out, HB.out, fun _ => (Kd.R_mono HO311.out (fun _ _ => trivial)), fun _ => (Kd.R_mono HO314.out (fun _ _ => trivial)), fun _ => (Kd.R_mono HO324.out (fun _ _ => trivial)), fun _ => (Kd.R_mono HO327.out (fun _ _ => trivial)), fun _ => (Kd.R_mono HO343.out (fun _ _ => trivial)), z_HO346, fun h0_ => absurd ((hoff 28 (by kernel_rfl)).symm.trans h0_) (by decide), fun h0_ => absurd ((hoff 29 (by kernel_rfl)).symm.trans h0_) (by decide)⟩
      refine steps_cons ?_ ?_
      · rintro b a w' ⟨v310, v313, v323, v326, v342, v345, v349, v352, ha, Q_BK306, Q_HB, Q_HO311, Q_HO314, Q_HO324, Q_HO327, Q_HO343, Q_HO346, Q_HO350, Q_HO353⟩ hb_ hon hoff
        refine ⟨_, rfl, fun K hK => ?_⟩
        have e44 : a.tmps[44]? = some (.bool true) := by rw [ha]; exact putSel_on (e := (17, 44, .bool true)) 17 rfl rfl (hon 17 (by kernel_rfl)) rfl
        replace ha := Aside0.mk ha
        have BK306 := Aside0.mk Q_BK306
        have HB := Aside0.mk Q_HB
        have HO311 := Aside0.mk (Q_HO311 (hon 6 (by kernel_rfl)))
        have HO314 := Aside0.mk (Q_HO314 (hon 7 (by kernel_rfl)))
        have HO324 := Aside0.mk (Q_HO324 (hon 13 (by kernel_rfl)))
        have HO327 := Aside0.mk (Q_HO327 (hon 14 (by kernel_rfl)))
        refine Kd.R_lit_step Kd.bool _ 4 ?hg (N := 48) ?hd (xs := ([false, false] : List Bool)) (inner := [.bool false, .bool false]) (ok := fun _ => True) (okp := fun _ => True) ?hr ?hp (fun _ hk => hk) trivial (Below.refl _ _) (Nat.le_refl _) (by simp) ?_; (case hd => rfl); (case hg => exact wanted_on rfl rfl rfl (e44.trans (by first | rfl | (simp [*]; done)))); (case hr => first | (go_simp; done) | (go_simp; rfl)); (case hp => exact (Reps.one (show Kd.M Kd.bool _ _ _ false [.bool false] from rfl) (Reps.one (show Kd.M Kd.bool _ _ _ false [.bool false] from rfl) (Reps.none _ _))))
        intro v345 w40 ho41 hb hg_ hnew_
        clear hg_ hnew_
        (first | rw [← Ny344.out] at ho41 | (simp only [Int.reduceToNat] at ho41; rw [← Ny344.out] at ho41))
        have n0_ := Aside0.mk (Kd.R_below (HO311.out) hb)
        have n1_ := Aside0.mk (Kd.R_elder' (HO314.out) (Kd.R_base ho41) hb)
        have n2_ := Aside0.mk (Kd.R_below (HO324.out) hb)
        have n3_ := Aside0.mk (Kd.R_elder' (HO327.out) (Kd.R_base ho41) hb)
        have n4_ := Aside0.mk (Kd.R_lower (Kd.R_new' (Kd.R_new' ho41 (Kd.R_lt (HO314.out))) (Kd.R_lt (HO327.out))) (below_size HB.out))
        have n5_ := Aside0.mk (blk_below (g := gb306) (o := .cells #[.int .i64 t300, .int .i64 t301, .bool t302, .bool t303, .int .i64 t304, .int .i64 t305] 48 (0, 0)) BK306.out hb)
        have n6_ := Aside0.mk (below_step HB.out hb)
        have z_HO343 := fun (h0_ : b 20 = true) => (show Kd.R k48 48 w40 w.heap.size (fun _ => True) v342 y341 from by first | exact (Kd.R_below ((Q_HO343 h0_)) hb) | exact Kd.R_mono (Kd.R_below ((Q_HO343 h0_)) hb) (fun _ _ => trivial))
        clear HO311
        clear HO314
        clear HO324
        clear HO327
        clear BK306
        clear HB
        have HO311 := n0_
        have HO314 := n1_
        have HO324 := n2_
        have HO327 := n3_
        have HO346 := n4_
        have BK306 := n5_
        have HB := n6_
        clear n0_ n1_ n2_ n3_ n4_ n5_ n6_
        clear hb ho41
        refine hK.out _ _ ⟨v310, v313, v323, v326, v342, v345, v349, v352, (by rw [ha.out]; exact putSel_upk 21 hb_ rfl rfl rfl), BK306.out, HB.out, fun _ => (Kd.R_mono HO311.out (fun _ _ => trivial)), fun _ => (Kd.R_mono HO314.out (fun _ _ => trivial)), fun _ => (Kd.R_mono HO324.out (fun _ _ => trivial)), fun _ => (Kd.R_mono HO327.out (fun _ _ => trivial)), z_HO343, fun _ => (Kd.R_mono HO346.out (fun _ _ => trivial)), fun h0_ => absurd ((hoff 28 (by kernel_rfl)).symm.trans h0_) (by decide), fun h0_ => absurd ((hoff 29 (by kernel_rfl)).symm.trans h0_) (by decide)⟩
      refine steps_cons ?_ ?_
      · rintro b a w' ⟨v310, v313, v323, v326, v342, v345, v349, v352, ha, Q_BK306, Q_HB, Q_HO311, Q_HO314, Q_HO324, Q_HO327, Q_HO343, Q_HO346, Q_HO350, Q_HO353⟩ hb_ hon hoff
        refine ⟨_, rfl, fun K hK => ?_⟩
        have e47 : a.tmps[47]? = some (v342) := by rw [ha]; exact putSel_on (e := (20, 47, v342)) 20 rfl rfl (hon 20 (by kernel_rfl)) rfl
        have e48 : a.tmps[48]? = some (v345) := by rw [ha]; exact putSel_on (e := (21, 48, v345)) 21 rfl rfl (hon 21 (by kernel_rfl)) rfl
        have e44 : a.tmps[44]? = some (.bool true) := by rw [ha]; exact putSel_on (e := (17, 44, .bool true)) 17 rfl rfl (hon 17 (by kernel_rfl)) rfl
        replace ha := Aside0.mk ha
        have BK306 := Aside0.mk Q_BK306
        have HB := Aside0.mk Q_HB
        have HO311 := Aside0.mk (Q_HO311 (hon 6 (by kernel_rfl)))
        have HO314 := Aside0.mk (Q_HO314 (hon 7 (by kernel_rfl)))
        have HO324 := Aside0.mk (Q_HO324 (hon 13 (by kernel_rfl)))
        have HO327 := Aside0.mk (Q_HO327 (hon 14 (by kernel_rfl)))
        have HO343 := Aside0.mk (Q_HO343 (hon 20 (by kernel_rfl)))
        have HO346 := Aside0.mk (Q_HO346 (hon 21 (by kernel_rfl)))
        obtain ⟨Ao46, co46, eo46⟩ := Kd.R_slice HO343.out
        (first | subst eo46 | (injection eo46 with f1_ f2_ f3_; have f4_ := f1_.symm; have f5_ := f3_.symm; clear f1_ f2_ f3_; subst f4_; subst f5_))
        obtain ⟨Ao47, co47, eo47⟩ := Kd.R_slice HO346.out
        (first | subst eo47 | (injection eo47 with f1_ f2_ f3_; have f4_ := f1_.symm; have f5_ := f3_.symm; clear f1_ f2_ f3_; subst f4_; subst f5_))
        refine goes_ Try.func20 (by kernel_rfl) rfl #[.slice Ao46 y341.length co46, .slice Ao47 y344.length co47, .int .i64 200] (wanted_on rfl rfl rfl (e44.trans (by first | rfl | (simp [*]; done)))) rfl rfl (by first | (simp only [List.map_toArray, List.map_cons, List.map_nil, Act.eval, Array.getD_eq_getD_getElem?, Option.getD_some, e47, e48, e44]; done) | (simp only [List.map_toArray, List.map_cons, List.map_nil, Act.eval, Array.getD_eq_getD_getElem?, Option.getD_some, e47, e48, e44]; rfl)) ?_
        with_reducible refine (regletlaw14_are.calls k _ _ y341 _ _ y344 200 true _ ?side1 ?side2 ?side3 ?side4 A17.out).mono ?_
        (case side1 => repeat (first | exact (Kd.R_reads' HO343.out).2.2 | (with_reducible refine Kd.C_alloc ?_ _) | (with_reducible refine Kd.C_drewN ?_ _) | (with_reducible refine Kd.C_drew ?_)))
        (case side2 => exact (Kd.R_reads' HO343.out).2.1)
        (case side3 => repeat (first | exact (Kd.R_reads' HO346.out).2.2 | (with_reducible refine Kd.C_alloc ?_ _) | (with_reducible refine Kd.C_drewN ?_ _) | (with_reducible refine Kd.C_drew ?_)))
        (case side4 => exact (Kd.R_reads' HO346.out).2.1)
        rintro e w48 ⟨rfl, hb⟩
        refine ⟨_, rfl, ?_⟩
        have n0_ := Aside0.mk (Kd.R_below (HO311.out) hb)
        have n1_ := Aside0.mk (Kd.R_below (HO314.out) hb)
        have n2_ := Aside0.mk (Kd.R_below (HO324.out) hb)
        have n3_ := Aside0.mk (Kd.R_below (HO327.out) hb)
        have n4_ := Aside0.mk (Kd.R_below (HO343.out) hb)
        have n5_ := Aside0.mk (Kd.R_below (HO346.out) hb)
        have n6_ := Aside0.mk (blk_below (g := gb306) (o := .cells #[.int .i64 t300, .int .i64 t301, .bool t302, .bool t303, .int .i64 t304, .int .i64 t305] 48 (0, 0)) BK306.out hb)
        have n7_ := Aside0.mk (below_step HB.out hb)
        clear HO311
        clear HO314
        clear HO324
        clear HO327
        clear HO343
        clear HO346
        clear BK306
        clear HB
        have HO311 := n0_
        have HO314 := n1_
        have HO324 := n2_
        have HO327 := n3_
        have HO343 := n4_
        have HO346 := n5_
        have BK306 := n6_
        have HB := n7_
        clear n0_ n1_ n2_ n3_ n4_ n5_ n6_ n7_
        (try clear hb)
        (try clear hb2)
        (try clear hk)
        (try clear hi)
        refine hK.out _ _ ⟨v310, v313, v323, v326, .slice Ao46 y341.length co46, .slice Ao47 y344.length co47, v349, v352, (by rw [ha.out]; exact putSel_upk 22 hb_ rfl rfl rfl), BK306.out, HB.out, fun _ => (Kd.R_mono HO311.out (fun _ _ => trivial)), fun _ => (Kd.R_mono HO314.out (fun _ _ => trivial)), fun _ => (Kd.R_mono HO324.out (fun _ _ => trivial)), fun _ => (Kd.R_mono HO327.out (fun _ _ => trivial)), fun _ => (Kd.R_mono HO343.out (fun _ _ => trivial)), fun _ => (Kd.R_mono HO346.out (fun _ _ => trivial)), fun h0_ => absurd ((hoff 28 (by kernel_rfl)).symm.trans h0_) (by decide), fun h0_ => absurd ((hoff 29 (by kernel_rfl)).symm.trans h0_) (by decide)⟩
      refine steps_cons ?_ ?_
      · rintro b a w' ⟨v310, v313, v323, v326, v342, v345, v349, v352, ha, Q_BK306, Q_HB, Q_HO311, Q_HO314, Q_HO324, Q_HO327, Q_HO343, Q_HO346, Q_HO350, Q_HO353⟩ hb_ hon hoff
        refine ⟨_, rfl, fun K hK => ?_⟩
        have e44 : a.tmps[44]? = some (.bool true) := by rw [ha]; exact putSel_on (e := (17, 44, .bool true)) 17 rfl rfl (hon 17 (by kernel_rfl)) rfl
        have e49 : a.tmps[49]? = some (.bool true) := by rw [ha]; exact putSel_on (e := (22, 49, .bool true)) 22 rfl rfl (hon 22 (by kernel_rfl)) rfl
        replace ha := Aside0.mk ha
        have BK306 := Aside0.mk Q_BK306
        have HB := Aside0.mk Q_HB
        have HO311 := Aside0.mk (Q_HO311 (hon 6 (by kernel_rfl)))
        have HO314 := Aside0.mk (Q_HO314 (hon 7 (by kernel_rfl)))
        have HO324 := Aside0.mk (Q_HO324 (hon 13 (by kernel_rfl)))
        have HO327 := Aside0.mk (Q_HO327 (hon 14 (by kernel_rfl)))
        have HO343 := Aside0.mk (Q_HO343 (hon 20 (by kernel_rfl)))
        have HO346 := Aside0.mk (Q_HO346 (hon 21 (by kernel_rfl)))
        refine value_ (w1 := w') (v := .bool true) (by rfl) rfl ?_ ?_
        · go_simp
          (try simp only [i64_w])
          try rfl
        refine hK.out _ _ ⟨v310, v313, v323, v326, v342, v345, v349, v352, (by rw [ha.out]; exact putSel_upk 23 hb_ rfl rfl rfl), Q_BK306, Q_HB, Q_HO311, Q_HO314, Q_HO324, Q_HO327, Q_HO343, Q_HO346, fun h0_ => absurd ((hoff 28 (by kernel_rfl)).symm.trans h0_) (by decide), fun h0_ => absurd ((hoff 29 (by kernel_rfl)).symm.trans h0_) (by decide)⟩
      refine steps_cons ?_ ?_
      · rintro b a w' ⟨v310, v313, v323, v326, v342, v345, v349, v352, ha, Q_BK306, Q_HB, Q_HO311, Q_HO314, Q_HO324, Q_HO327, Q_HO343, Q_HO346, Q_HO350, Q_HO353⟩ hb_ hon hoff
        refine ⟨_, rfl, fun K hK => ?_⟩
        have e50 : a.tmps[50]? = some (.bool true) := by rw [ha]; exact putSel_on (e := (23, 50, .bool true)) 23 rfl rfl (hon 23 (by kernel_rfl)) rfl
        replace ha := Aside0.mk ha
        have BK306 := Aside0.mk Q_BK306
        have HB := Aside0.mk Q_HB
        have HO311 := Aside0.mk (Q_HO311 (hon 6 (by kernel_rfl)))
        have HO314 := Aside0.mk (Q_HO314 (hon 7 (by kernel_rfl)))
        have HO324 := Aside0.mk (Q_HO324 (hon 13 (by kernel_rfl)))
        have HO327 := Aside0.mk (Q_HO327 (hon 14 (by kernel_rfl)))
        have HO343 := Aside0.mk (Q_HO343 (hon 20 (by kernel_rfl)))
        have HO346 := Aside0.mk (Q_HO346 (hon 21 (by kernel_rfl)))
        refine value_ (w1 := w') (v := .bool true) (by rfl) rfl ?_ ?_
        · go_simp
          (try simp only [i64_w])
          try rfl
        refine hK.out _ _ ⟨v310, v313, v323, v326, v342, v345, v349, v352, (by rw [ha.out]; exact putSel_upk 24 hb_ rfl rfl rfl), Q_BK306, Q_HB, Q_HO311, Q_HO314, Q_HO324, Q_HO327, Q_HO343, Q_HO346, fun h0_ => absurd ((hoff 28 (by kernel_rfl)).symm.trans h0_) (by decide), fun h0_ => absurd ((hoff 29 (by kernel_rfl)).symm.trans h0_) (by decide)⟩
      refine steps_cons ?_ ?_
      · rintro b a w' ⟨v310, v313, v323, v326, v342, v345, v349, v352, ha, Q_BK306, Q_HB, Q_HO311, Q_HO314, Q_HO324, Q_HO327, Q_HO343, Q_HO346, Q_HO350, Q_HO353⟩ hb_ hon hoff
        refine ⟨_, rfl, fun K hK => ?_⟩
        have e1 : a.tmps[1]? = some (.pointer (some ⟨gb306, 0, none⟩)) := by rw [ha]; exact (putSel_off rfl).trans rfl
        have e51 : a.tmps[51]? = some (.bool true) := by rw [ha]; exact putSel_on (e := (24, 51, .bool true)) 24 rfl rfl (hon 24 (by kernel_rfl)) rfl
        replace ha := Aside0.mk ha
        have BK306 := Aside0.mk Q_BK306
        have HB := Aside0.mk Q_HB
        have HO311 := Aside0.mk (Q_HO311 (hon 6 (by kernel_rfl)))
        have HO314 := Aside0.mk (Q_HO314 (hon 7 (by kernel_rfl)))
        have HO324 := Aside0.mk (Q_HO324 (hon 13 (by kernel_rfl)))
        have HO327 := Aside0.mk (Q_HO327 (hon 14 (by kernel_rfl)))
        have HO343 := Aside0.mk (Q_HO343 (hon 20 (by kernel_rfl)))
        have HO346 := Aside0.mk (Q_HO346 (hon 21 (by kernel_rfl)))
        have hc0_ : w'.cell? ⟨gb306, 0, none⟩ = some (.int .i64 t300) := (blk_cell BK306.out 0).trans rfl
        have hc1_ : w'.cell? ⟨gb306, 1, none⟩ = some (.int .i64 t301) := (blk_cell BK306.out 1).trans rfl
        have hc2_ : w'.cell? ⟨gb306, 2, none⟩ = some (.bool t302) := (blk_cell BK306.out 2).trans rfl
        have hc3_ : w'.cell? ⟨gb306, 3, none⟩ = some (.bool t303) := (blk_cell BK306.out 3).trans rfl
        have hc4_ : w'.cell? ⟨gb306, 4, none⟩ = some (.int .i64 t304) := (blk_cell BK306.out 4).trans rfl
        have hc5_ : w'.cell? ⟨gb306, 5, none⟩ = some (.int .i64 t305) := (blk_cell BK306.out 5).trans rfl
        refine value_ (w1 := w') (v := .agg #[.int .i64 t300, .int .i64 t301, .bool t302, .bool t303, .int .i64 t304, .int .i64 t305]) (wanted_on rfl rfl rfl (e51.trans (by first | rfl | (simp [*]; done)))) rfl ?_ ?_
        · go_simp
          (try simp only [i64_w])
          try rfl
        refine hK.out _ _ ⟨v310, v313, v323, v326, v342, v345, v349, v352, (by rw [ha.out]; exact putSel_upk 25 hb_ rfl rfl rfl), Q_BK306, Q_HB, Q_HO311, Q_HO314, Q_HO324, Q_HO327, Q_HO343, Q_HO346, fun h0_ => absurd ((hoff 28 (by kernel_rfl)).symm.trans h0_) (by decide), Q_HO353⟩
      refine steps_cons ?_ ?_
      · rintro b a w' ⟨v310, v313, v323, v326, v342, v345, v349, v352, ha, Q_BK306, Q_HB, Q_HO311, Q_HO314, Q_HO324, Q_HO327, Q_HO343, Q_HO346, Q_HO350, Q_HO353⟩ hb_ hon hoff
        refine ⟨_, rfl, fun K hK => ?_⟩
        have e1 : a.tmps[1]? = some (.pointer (some ⟨gb306, 0, none⟩)) := by rw [ha]; exact (putSel_off rfl).trans rfl
        have e51 : a.tmps[51]? = some (.bool true) := by rw [ha]; exact putSel_on (e := (24, 51, .bool true)) 24 rfl rfl (hon 24 (by kernel_rfl)) rfl
        replace ha := Aside0.mk ha
        have BK306 := Aside0.mk Q_BK306
        have HB := Aside0.mk Q_HB
        have HO311 := Aside0.mk (Q_HO311 (hon 6 (by kernel_rfl)))
        have HO314 := Aside0.mk (Q_HO314 (hon 7 (by kernel_rfl)))
        have HO324 := Aside0.mk (Q_HO324 (hon 13 (by kernel_rfl)))
        have HO327 := Aside0.mk (Q_HO327 (hon 14 (by kernel_rfl)))
        have HO343 := Aside0.mk (Q_HO343 (hon 20 (by kernel_rfl)))
        have HO346 := Aside0.mk (Q_HO346 (hon 21 (by kernel_rfl)))
        have hc0_ : w'.cell? ⟨gb306, 0, none⟩ = some (.int .i64 t300) := (blk_cell BK306.out 0).trans rfl
        have hc1_ : w'.cell? ⟨gb306, 1, none⟩ = some (.int .i64 t301) := (blk_cell BK306.out 1).trans rfl
        have hc2_ : w'.cell? ⟨gb306, 2, none⟩ = some (.bool t302) := (blk_cell BK306.out 2).trans rfl
        have hc3_ : w'.cell? ⟨gb306, 3, none⟩ = some (.bool t303) := (blk_cell BK306.out 3).trans rfl
        have hc4_ : w'.cell? ⟨gb306, 4, none⟩ = some (.int .i64 t304) := (blk_cell BK306.out 4).trans rfl
        have hc5_ : w'.cell? ⟨gb306, 5, none⟩ = some (.int .i64 t305) := (blk_cell BK306.out 5).trans rfl
        refine value_ (w1 := w') (v := .agg #[.int .i64 t300, .int .i64 t301, .bool t302, .bool t303, .int .i64 t304, .int .i64 t305]) (wanted_on rfl rfl rfl (e51.trans (by first | rfl | (simp [*]; done)))) rfl ?_ ?_
        · go_simp
          (try simp only [i64_w])
          try rfl
        refine hK.out _ _ ⟨v310, v313, v323, v326, v342, v345, v349, v352, (by rw [ha.out]; exact putSel_upk 26 hb_ rfl rfl rfl), Q_BK306, Q_HB, Q_HO311, Q_HO314, Q_HO324, Q_HO327, Q_HO343, Q_HO346, fun h0_ => absurd ((hoff 28 (by kernel_rfl)).symm.trans h0_) (by decide), Q_HO353⟩
      refine steps_cons ?_ ?_
      · rintro b a w' ⟨v310, v313, v323, v326, v342, v345, v349, v352, ha, Q_BK306, Q_HB, Q_HO311, Q_HO314, Q_HO324, Q_HO327, Q_HO343, Q_HO346, Q_HO350, Q_HO353⟩ hb_ hon hoff
        refine ⟨_, rfl, fun K hK => ?_⟩
        have e1 : a.tmps[1]? = some (.pointer (some ⟨gb306, 0, none⟩)) := by rw [ha]; exact (putSel_off rfl).trans rfl
        have e51 : a.tmps[51]? = some (.bool true) := by rw [ha]; exact putSel_on (e := (24, 51, .bool true)) 24 rfl rfl (hon 24 (by kernel_rfl)) rfl
        replace ha := Aside0.mk ha
        have BK306 := Aside0.mk Q_BK306
        have HB := Aside0.mk Q_HB
        have HO311 := Aside0.mk (Q_HO311 (hon 6 (by kernel_rfl)))
        have HO314 := Aside0.mk (Q_HO314 (hon 7 (by kernel_rfl)))
        have HO324 := Aside0.mk (Q_HO324 (hon 13 (by kernel_rfl)))
        have HO327 := Aside0.mk (Q_HO327 (hon 14 (by kernel_rfl)))
        have HO343 := Aside0.mk (Q_HO343 (hon 20 (by kernel_rfl)))
        have HO346 := Aside0.mk (Q_HO346 (hon 21 (by kernel_rfl)))
        have hc0_ : w'.cell? ⟨gb306, 0, none⟩ = some (.int .i64 t300) := (blk_cell BK306.out 0).trans rfl
        have hc1_ : w'.cell? ⟨gb306, 1, none⟩ = some (.int .i64 t301) := (blk_cell BK306.out 1).trans rfl
        have hc2_ : w'.cell? ⟨gb306, 2, none⟩ = some (.bool t302) := (blk_cell BK306.out 2).trans rfl
        have hc3_ : w'.cell? ⟨gb306, 3, none⟩ = some (.bool t303) := (blk_cell BK306.out 3).trans rfl
        have hc4_ : w'.cell? ⟨gb306, 4, none⟩ = some (.int .i64 t304) := (blk_cell BK306.out 4).trans rfl
        have hc5_ : w'.cell? ⟨gb306, 5, none⟩ = some (.int .i64 t305) := (blk_cell BK306.out 5).trans rfl
        refine value_ (w1 := w') (v := .agg #[.int .i64 t300, .int .i64 t301, .bool t302, .bool t303, .int .i64 t304, .int .i64 t305]) (wanted_on rfl rfl rfl (e51.trans (by first | rfl | (simp [*]; done)))) rfl ?_ ?_
        · go_simp
          (try simp only [i64_w])
          try rfl
        refine hK.out _ _ ⟨v310, v313, v323, v326, v342, v345, v349, v352, (by rw [ha.out]; exact putSel_upk 27 hb_ rfl rfl rfl), Q_BK306, Q_HB, Q_HO311, Q_HO314, Q_HO324, Q_HO327, Q_HO343, Q_HO346, fun h0_ => absurd ((hoff 28 (by kernel_rfl)).symm.trans h0_) (by decide), Q_HO353⟩
      refine steps_cons ?_ ?_
      · rintro b a w' ⟨v310, v313, v323, v326, v342, v345, v349, v352, ha, Q_BK306, Q_HB, Q_HO311, Q_HO314, Q_HO324, Q_HO327, Q_HO343, Q_HO346, Q_HO350, Q_HO353⟩ hb_ hon hoff
        refine ⟨_, rfl, fun K hK => ?_⟩
        have e52 : a.tmps[52]? = some (.agg #[.int .i64 t300, .int .i64 t301, .bool t302, .bool t303, .int .i64 t304, .int .i64 t305]) := by rw [ha]; exact putSel_on (e := (25, 52, .agg #[.int .i64 t300, .int .i64 t301, .bool t302, .bool t303, .int .i64 t304, .int .i64 t305])) 25 rfl rfl (hon 25 (by kernel_rfl)) rfl
        have e53 : a.tmps[53]? = some (.agg #[.int .i64 t300, .int .i64 t301, .bool t302, .bool t303, .int .i64 t304, .int .i64 t305]) := by rw [ha]; exact putSel_on (e := (26, 53, .agg #[.int .i64 t300, .int .i64 t301, .bool t302, .bool t303, .int .i64 t304, .int .i64 t305])) 26 rfl rfl (hon 26 (by kernel_rfl)) rfl
        have e54 : a.tmps[54]? = some (.agg #[.int .i64 t300, .int .i64 t301, .bool t302, .bool t303, .int .i64 t304, .int .i64 t305]) := by rw [ha]; exact putSel_on (e := (27, 54, .agg #[.int .i64 t300, .int .i64 t301, .bool t302, .bool t303, .int .i64 t304, .int .i64 t305])) 27 rfl rfl (hon 27 (by kernel_rfl)) rfl
        have e51 : a.tmps[51]? = some (.bool true) := by rw [ha]; exact putSel_on (e := (24, 51, .bool true)) 24 rfl rfl (hon 24 (by kernel_rfl)) rfl
        replace ha := Aside0.mk ha
        have BK306 := Aside0.mk Q_BK306
        have HB := Aside0.mk Q_HB
        have HO311 := Aside0.mk (Q_HO311 (hon 6 (by kernel_rfl)))
        have HO314 := Aside0.mk (Q_HO314 (hon 7 (by kernel_rfl)))
        have HO324 := Aside0.mk (Q_HO324 (hon 13 (by kernel_rfl)))
        have HO327 := Aside0.mk (Q_HO327 (hon 14 (by kernel_rfl)))
        have HO343 := Aside0.mk (Q_HO343 (hon 20 (by kernel_rfl)))
        have HO346 := Aside0.mk (Q_HO346 (hon 21 (by kernel_rfl)))
        refine Kd.R_lit_step k48 _ 48 ?hg (N := 55) ?hd (xs := ([(⟨t300, t301, t302, t303, t304, t305⟩ : S48), (⟨t300, t301, t302, t303, t304, t305⟩ : S48), (⟨t300, t301, t302, t303, t304, t305⟩ : S48)] : List (S48))) (inner := [.int .i64 t300, .int .i64 t301, .bool t302, .bool t303, .int .i64 t304, .int .i64 t305, .int .i64 t300, .int .i64 t301, .bool t302, .bool t303, .int .i64 t304, .int .i64 t305, .int .i64 t300, .int .i64 t301, .bool t302, .bool t303, .int .i64 t304, .int .i64 t305]) (ok := fun _ => True) (okp := fun _ => True) ?hr ?hp (fun _ hk => hk) trivial (Below.refl _ _) (Nat.le_refl _) (by simp) ?_; (case hd => rfl); (case hg => exact wanted_on rfl rfl rfl (e51.trans (by first | rfl | (simp [*]; done)))); (case hr => first | (go_simp; done) | (go_simp; rfl)); (case hp => exact (Reps.c6 (show Kd.M k48 _ _ _ (⟨t300, t301, t302, t303, t304, t305⟩ : S48) [.int .i64 t300, .int .i64 t301, .bool t302, .bool t303, .int .i64 t304, .int .i64 t305] from (k48_mkM _ _ _ (⟨t300, t301, t302, t303, t304, t305⟩ : S48) )) (Reps.c6 (show Kd.M k48 _ _ _ (⟨t300, t301, t302, t303, t304, t305⟩ : S48) [.int .i64 t300, .int .i64 t301, .bool t302, .bool t303, .int .i64 t304, .int .i64 t305] from (k48_mkM _ _ _ (⟨t300, t301, t302, t303, t304, t305⟩ : S48) )) (Reps.c6 (show Kd.M k48 _ _ _ (⟨t300, t301, t302, t303, t304, t305⟩ : S48) [.int .i64 t300, .int .i64 t301, .bool t302, .bool t303, .int .i64 t304, .int .i64 t305] from (k48_mkM _ _ _ (⟨t300, t301, t302, t303, t304, t305⟩ : S48) )) (Reps.none _ _)))))
        intro v349 w49 ho50 hb hg_ hnew_
        clear hg_ hnew_
        (first | rw [← Ny348.out] at ho50 | (simp only [Int.reduceToNat] at ho50; rw [← Ny348.out] at ho50))
        have n0_ := Aside0.mk (Kd.R_elder' (HO311.out) (Kd.R_base ho50) hb)
        have n1_ := Aside0.mk (Kd.R_below (HO314.out) hb)
        have n2_ := Aside0.mk (Kd.R_elder' (HO324.out) (Kd.R_base ho50) hb)
        have n3_ := Aside0.mk (Kd.R_below (HO327.out) hb)
        have n4_ := Aside0.mk (Kd.R_elder' (HO343.out) (Kd.R_base ho50) hb)
        have n5_ := Aside0.mk (Kd.R_below (HO346.out) hb)
        have n6_ := Aside0.mk (Kd.R_lower (Kd.R_newB (Kd.R_new' (Kd.R_new' (Kd.R_new' ho50 (Kd.R_lt (HO311.out))) (Kd.R_lt (HO324.out))) (Kd.R_lt (HO343.out))) (g := gb306) (o := .cells #[.int .i64 t300, .int .i64 t301, .bool t302, .bool t303, .int .i64 t304, .int .i64 t305] 48 (0, 0)) BK306.out) (below_size HB.out))
        have n7_ := Aside0.mk (blk_below (g := gb306) (o := .cells #[.int .i64 t300, .int .i64 t301, .bool t302, .bool t303, .int .i64 t304, .int .i64 t305] 48 (0, 0)) BK306.out hb)
        have n8_ := Aside0.mk (below_step HB.out hb)
        have z_HO353 := fun (h0_ : b 29 = true) => (show Kd.R Kd.bool 4 w49 w.heap.size (fun _ => True) v352 y351 from by first | exact (Kd.R_below ((Q_HO353 h0_)) hb) | exact Kd.R_mono (Kd.R_below ((Q_HO353 h0_)) hb) (fun _ _ => trivial))
        clear HO311
        clear HO314
        clear HO324
        clear HO327
        clear HO343
        clear HO346
        clear BK306
        clear HB
        have HO311 := n0_
        have HO314 := n1_
        have HO324 := n2_
        have HO327 := n3_
        have HO343 := n4_
        have HO346 := n5_
        have HO350 := n6_
        have BK306 := n7_
        have HB := n8_
        clear n0_ n1_ n2_ n3_ n4_ n5_ n6_ n7_ n8_
        clear hb ho50
        refine hK.out _ _ ⟨v310, v313, v323, v326, v342, v345, v349, v352, (by rw [ha.out]; exact putSel_upk 28 hb_ rfl rfl rfl), BK306.out, HB.out, fun _ => (Kd.R_mono HO311.out (fun _ _ => trivial)), fun _ => (Kd.R_mono HO314.out (fun _ _ => trivial)), fun _ => (Kd.R_mono HO324.out (fun _ _ => trivial)), fun _ => (Kd.R_mono HO327.out (fun _ _ => trivial)), fun _ => (Kd.R_mono HO343.out (fun _ _ => trivial)), fun _ => (Kd.R_mono HO346.out (fun _ _ => trivial)), fun _ => (Kd.R_mono HO350.out (fun _ _ => trivial)), z_HO353⟩
      refine steps_cons ?_ ?_
      · rintro b a w' ⟨v310, v313, v323, v326, v342, v345, v349, v352, ha, Q_BK306, Q_HB, Q_HO311, Q_HO314, Q_HO324, Q_HO327, Q_HO343, Q_HO346, Q_HO350, Q_HO353⟩ hb_ hon hoff
        refine ⟨_, rfl, fun K hK => ?_⟩
        have e51 : a.tmps[51]? = some (.bool true) := by rw [ha]; exact putSel_on (e := (24, 51, .bool true)) 24 rfl rfl (hon 24 (by kernel_rfl)) rfl
        replace ha := Aside0.mk ha
        have BK306 := Aside0.mk Q_BK306
        have HB := Aside0.mk Q_HB
        have HO311 := Aside0.mk (Q_HO311 (hon 6 (by kernel_rfl)))
        have HO314 := Aside0.mk (Q_HO314 (hon 7 (by kernel_rfl)))
        have HO324 := Aside0.mk (Q_HO324 (hon 13 (by kernel_rfl)))
        have HO327 := Aside0.mk (Q_HO327 (hon 14 (by kernel_rfl)))
        have HO343 := Aside0.mk (Q_HO343 (hon 20 (by kernel_rfl)))
        have HO346 := Aside0.mk (Q_HO346 (hon 21 (by kernel_rfl)))
        refine Kd.R_lit_step Kd.bool _ 4 ?hg (N := 56) ?hd (xs := ([false, true, false] : List Bool)) (inner := [.bool false, .bool true, .bool false]) (ok := fun _ => True) (okp := fun _ => True) ?hr ?hp (fun _ hk => hk) trivial (Below.refl _ _) (Nat.le_refl _) (by simp) ?_; (case hd => rfl); (case hg => exact wanted_on rfl rfl rfl (e51.trans (by first | rfl | (simp [*]; done)))); (case hr => first | (go_simp; done) | (go_simp; rfl)); (case hp => exact (Reps.one (show Kd.M Kd.bool _ _ _ false [.bool false] from rfl) (Reps.one (show Kd.M Kd.bool _ _ _ true [.bool true] from rfl) (Reps.one (show Kd.M Kd.bool _ _ _ false [.bool false] from rfl) (Reps.none _ _)))))
        intro v352 w49 ho50 hb hg_ hnew_
        clear hg_ hnew_
        (first | rw [← Ny351.out] at ho50 | (simp only [Int.reduceToNat] at ho50; rw [← Ny351.out] at ho50))
        have n0_ := Aside0.mk (Kd.R_below (HO311.out) hb)
        have n1_ := Aside0.mk (Kd.R_elder' (HO314.out) (Kd.R_base ho50) hb)
        have n2_ := Aside0.mk (Kd.R_below (HO324.out) hb)
        have n3_ := Aside0.mk (Kd.R_elder' (HO327.out) (Kd.R_base ho50) hb)
        have n4_ := Aside0.mk (Kd.R_below (HO343.out) hb)
        have n5_ := Aside0.mk (Kd.R_elder' (HO346.out) (Kd.R_base ho50) hb)
        have n6_ := Aside0.mk (Kd.R_lower (Kd.R_new' (Kd.R_new' (Kd.R_new' ho50 (Kd.R_lt (HO314.out))) (Kd.R_lt (HO327.out))) (Kd.R_lt (HO346.out))) (below_size HB.out))
        have n7_ := Aside0.mk (blk_below (g := gb306) (o := .cells #[.int .i64 t300, .int .i64 t301, .bool t302, .bool t303, .int .i64 t304, .int .i64 t305] 48 (0, 0)) BK306.out hb)
        have n8_ := Aside0.mk (below_step HB.out hb)
        have z_HO350 := fun (h0_ : b 28 = true) => (show Kd.R k48 48 w49 w.heap.size (fun _ => True) v349 y348 from by first | exact (Kd.R_below ((Q_HO350 h0_)) hb) | exact Kd.R_mono (Kd.R_below ((Q_HO350 h0_)) hb) (fun _ _ => trivial))
        clear HO311
        clear HO314
        clear HO324
        clear HO327
        clear HO343
        clear HO346
        clear BK306
        clear HB
        have HO311 := n0_
        have HO314 := n1_
        have HO324 := n2_
        have HO327 := n3_
        have HO343 := n4_
        have HO346 := n5_
        have HO353 := n6_
        have BK306 := n7_
        have HB := n8_
        clear n0_ n1_ n2_ n3_ n4_ n5_ n6_ n7_ n8_
        clear hb ho50
        refine hK.out _ _ ⟨v310, v313, v323, v326, v342, v345, v349, v352, (by rw [ha.out]; exact putSel_upk 29 hb_ rfl rfl rfl), BK306.out, HB.out, fun _ => (Kd.R_mono HO311.out (fun _ _ => trivial)), fun _ => (Kd.R_mono HO314.out (fun _ _ => trivial)), fun _ => (Kd.R_mono HO324.out (fun _ _ => trivial)), fun _ => (Kd.R_mono HO327.out (fun _ _ => trivial)), fun _ => (Kd.R_mono HO343.out (fun _ _ => trivial)), fun _ => (Kd.R_mono HO346.out (fun _ _ => trivial)), z_HO350, fun _ => (Kd.R_mono HO353.out (fun _ _ => trivial))⟩
      refine steps_cons ?_ ?_
      · rintro b a w' ⟨v310, v313, v323, v326, v342, v345, v349, v352, ha, Q_BK306, Q_HB, Q_HO311, Q_HO314, Q_HO324, Q_HO327, Q_HO343, Q_HO346, Q_HO350, Q_HO353⟩ hb_ hon hoff
        refine ⟨_, rfl, fun K hK => ?_⟩
        have e55 : a.tmps[55]? = some (v349) := by rw [ha]; exact putSel_on (e := (28, 55, v349)) 28 rfl rfl (hon 28 (by kernel_rfl)) rfl
        have e56 : a.tmps[56]? = some (v352) := by rw [ha]; exact putSel_on (e := (29, 56, v352)) 29 rfl rfl (hon 29 (by kernel_rfl)) rfl
        have e51 : a.tmps[51]? = some (.bool true) := by rw [ha]; exact putSel_on (e := (24, 51, .bool true)) 24 rfl rfl (hon 24 (by kernel_rfl)) rfl
        replace ha := Aside0.mk ha
        have BK306 := Aside0.mk Q_BK306
        have HB := Aside0.mk Q_HB
        have HO311 := Aside0.mk (Q_HO311 (hon 6 (by kernel_rfl)))
        have HO314 := Aside0.mk (Q_HO314 (hon 7 (by kernel_rfl)))
        have HO324 := Aside0.mk (Q_HO324 (hon 13 (by kernel_rfl)))
        have HO327 := Aside0.mk (Q_HO327 (hon 14 (by kernel_rfl)))
        have HO343 := Aside0.mk (Q_HO343 (hon 20 (by kernel_rfl)))
        have HO346 := Aside0.mk (Q_HO346 (hon 21 (by kernel_rfl)))
        have HO350 := Aside0.mk (Q_HO350 (hon 28 (by kernel_rfl)))
        have HO353 := Aside0.mk (Q_HO353 (hon 29 (by kernel_rfl)))
        obtain ⟨Ao53, co53, eo53⟩ := Kd.R_slice HO350.out
        (first | subst eo53 | (injection eo53 with f1_ f2_ f3_; have f4_ := f1_.symm; have f5_ := f3_.symm; clear f1_ f2_ f3_; subst f4_; subst f5_))
        obtain ⟨Ao54, co54, eo54⟩ := Kd.R_slice HO353.out
        (first | subst eo54 | (injection eo54 with f1_ f2_ f3_; have f4_ := f1_.symm; have f5_ := f3_.symm; clear f1_ f2_ f3_; subst f4_; subst f5_))
        refine goes_ Try.func20 (by kernel_rfl) rfl #[.slice Ao53 y348.length co53, .slice Ao54 y351.length co54, .int .i64 5] (wanted_on rfl rfl rfl (e51.trans (by first | rfl | (simp [*]; done)))) rfl rfl (by first | (simp only [List.map_toArray, List.map_cons, List.map_nil, Act.eval, Array.getD_eq_getD_getElem?, Option.getD_some, e55, e56, e51]; done) | (simp only [List.map_toArray, List.map_cons, List.map_nil, Act.eval, Array.getD_eq_getD_getElem?, Option.getD_some, e55, e56, e51]; rfl)) ?_
        with_reducible refine (regletlaw14_are.calls k _ _ y348 _ _ y351 5 true _ ?side1 ?side2 ?side3 ?side4 A19.out).mono ?_
        (case side1 => repeat (first | exact (Kd.R_reads' HO350.out).2.2 | (with_reducible refine Kd.C_alloc ?_ _) | (with_reducible refine Kd.C_drewN ?_ _) | (with_reducible refine Kd.C_drew ?_)))
        (case side2 => exact (Kd.R_reads' HO350.out).2.1)
        (case side3 => repeat (first | exact (Kd.R_reads' HO353.out).2.2 | (with_reducible refine Kd.C_alloc ?_ _) | (with_reducible refine Kd.C_drewN ?_ _) | (with_reducible refine Kd.C_drew ?_)))
        (case side4 => exact (Kd.R_reads' HO353.out).2.1)
        rintro e w55 ⟨rfl, hb⟩
        refine ⟨_, rfl, ?_⟩
        have n0_ := Aside0.mk (Kd.R_below (HO311.out) hb)
        have n1_ := Aside0.mk (Kd.R_below (HO314.out) hb)
        have n2_ := Aside0.mk (Kd.R_below (HO324.out) hb)
        have n3_ := Aside0.mk (Kd.R_below (HO327.out) hb)
        have n4_ := Aside0.mk (Kd.R_below (HO343.out) hb)
        have n5_ := Aside0.mk (Kd.R_below (HO346.out) hb)
        have n6_ := Aside0.mk (Kd.R_below (HO350.out) hb)
        have n7_ := Aside0.mk (Kd.R_below (HO353.out) hb)
        have n8_ := Aside0.mk (blk_below (g := gb306) (o := .cells #[.int .i64 t300, .int .i64 t301, .bool t302, .bool t303, .int .i64 t304, .int .i64 t305] 48 (0, 0)) BK306.out hb)
        have n9_ := Aside0.mk (below_step HB.out hb)
        clear HO311
        clear HO314
        clear HO324
        clear HO327
        clear HO343
        clear HO346
        clear HO350
        clear HO353
        clear BK306
        clear HB
        have HO311 := n0_
        have HO314 := n1_
        have HO324 := n2_
        have HO327 := n3_
        have HO343 := n4_
        have HO346 := n5_
        have HO350 := n6_
        have HO353 := n7_
        have BK306 := n8_
        have HB := n9_
        clear n0_ n1_ n2_ n3_ n4_ n5_ n6_ n7_ n8_ n9_
        (try clear hb)
        (try clear hb2)
        (try clear hk)
        (try clear hi)
        refine hK.out _ _ ⟨v310, v313, v323, v326, v342, v345, .slice Ao53 y348.length co53, .slice Ao54 y351.length co54, (by rw [ha.out]; exact putSel_upk 30 hb_ rfl rfl rfl), BK306.out, HB.out, fun _ => (Kd.R_mono HO311.out (fun _ _ => trivial)), fun _ => (Kd.R_mono HO314.out (fun _ _ => trivial)), fun _ => (Kd.R_mono HO324.out (fun _ _ => trivial)), fun _ => (Kd.R_mono HO327.out (fun _ _ => trivial)), fun _ => (Kd.R_mono HO343.out (fun _ _ => trivial)), fun _ => (Kd.R_mono HO346.out (fun _ _ => trivial)), fun _ => (Kd.R_mono HO350.out (fun _ _ => trivial)), fun _ => (Kd.R_mono HO353.out (fun _ _ => trivial))⟩
      refine steps_cons ?_ ?_
      · rintro b a w' ⟨v310, v313, v323, v326, v342, v345, v349, v352, ha, Q_BK306, Q_HB, Q_HO311, Q_HO314, Q_HO324, Q_HO327, Q_HO343, Q_HO346, Q_HO350, Q_HO353⟩ hb_ hon hoff
        refine ⟨_, rfl, fun K hK => ?_⟩
        have e51 : a.tmps[51]? = some (.bool true) := by rw [ha]; exact putSel_on (e := (24, 51, .bool true)) 24 rfl rfl (hon 24 (by kernel_rfl)) rfl
        have e57 : a.tmps[57]? = some (.bool true) := by rw [ha]; exact putSel_on (e := (30, 57, .bool true)) 30 rfl rfl (hon 30 (by kernel_rfl)) rfl
        replace ha := Aside0.mk ha
        have BK306 := Aside0.mk Q_BK306
        have HB := Aside0.mk Q_HB
        have HO311 := Aside0.mk (Q_HO311 (hon 6 (by kernel_rfl)))
        have HO314 := Aside0.mk (Q_HO314 (hon 7 (by kernel_rfl)))
        have HO324 := Aside0.mk (Q_HO324 (hon 13 (by kernel_rfl)))
        have HO327 := Aside0.mk (Q_HO327 (hon 14 (by kernel_rfl)))
        have HO343 := Aside0.mk (Q_HO343 (hon 20 (by kernel_rfl)))
        have HO346 := Aside0.mk (Q_HO346 (hon 21 (by kernel_rfl)))
        have HO350 := Aside0.mk (Q_HO350 (hon 28 (by kernel_rfl)))
        have HO353 := Aside0.mk (Q_HO353 (hon 29 (by kernel_rfl)))
        refine value_ (w1 := w') (v := .bool true) (by rfl) rfl ?_ ?_
        · go_simp
          (try simp only [i64_w])
          try rfl
        refine hK.out _ _ ⟨v310, v313, v323, v326, v342, v345, v349, v352, (by rw [ha.out]; exact putSel_upk 31 hb_ rfl rfl rfl), Q_BK306, Q_HB, Q_HO311, Q_HO314, Q_HO324, Q_HO327, Q_HO343, Q_HO346, Q_HO350, Q_HO353⟩
      refine steps_cons ?_ ?_
      · rintro b a w' ⟨v310, v313, v323, v326, v342, v345, v349, v352, ha, Q_BK306, Q_HB, Q_HO311, Q_HO314, Q_HO324, Q_HO327, Q_HO343, Q_HO346, Q_HO350, Q_HO353⟩ hb_ hon hoff
        refine ⟨_, rfl, fun K hK => ?_⟩
        have e58 : a.tmps[58]? = some (.bool true) := by rw [ha]; exact putSel_on (e := (31, 58, .bool true)) 31 rfl rfl (hon 31 (by kernel_rfl)) rfl
        replace ha := Aside0.mk ha
        have BK306 := Aside0.mk Q_BK306
        have HB := Aside0.mk Q_HB
        have HO311 := Aside0.mk (Q_HO311 (hon 6 (by kernel_rfl)))
        have HO314 := Aside0.mk (Q_HO314 (hon 7 (by kernel_rfl)))
        have HO324 := Aside0.mk (Q_HO324 (hon 13 (by kernel_rfl)))
        have HO327 := Aside0.mk (Q_HO327 (hon 14 (by kernel_rfl)))
        have HO343 := Aside0.mk (Q_HO343 (hon 20 (by kernel_rfl)))
        have HO346 := Aside0.mk (Q_HO346 (hon 21 (by kernel_rfl)))
        have HO350 := Aside0.mk (Q_HO350 (hon 28 (by kernel_rfl)))
        have HO353 := Aside0.mk (Q_HO353 (hon 29 (by kernel_rfl)))
        refine value_ (w1 := w') (v := .bool true) (by rfl) rfl ?_ ?_
        · go_simp
          (try simp only [i64_w])
          try rfl
        refine hK.out _ _ ⟨v310, v313, v323, v326, v342, v345, v349, v352, (by rw [ha.out]; exact putSel_upk 32 hb_ rfl rfl rfl), Q_BK306, Q_HB, Q_HO311, Q_HO314, Q_HO324, Q_HO327, Q_HO343, Q_HO346, Q_HO350, Q_HO353⟩
      exact steps_nil
    rintro b a w55 hall ⟨v310, v313, v323, v326, v342, v345, v349, v352, ha, Q_BK306, Q_HB, Q_HO311, Q_HO314, Q_HO324, Q_HO327, Q_HO343, Q_HO346, Q_HO350, Q_HO353⟩
    clear BK306 HB
    have hb0_ := hall 0 (by kernel_rfl)
    have hb1_ := hall 1 (by kernel_rfl)
    have hb2_ := hall 2 (by kernel_rfl)
    have hb3_ := hall 3 (by kernel_rfl)
    have hb4_ := hall 4 (by kernel_rfl)
    have hb5_ := hall 5 (by kernel_rfl)
    have hb6_ := hall 6 (by kernel_rfl)
    have hb7_ := hall 7 (by kernel_rfl)
    have hb8_ := hall 8 (by kernel_rfl)
    have hb9_ := hall 9 (by kernel_rfl)
    have hb10_ := hall 10 (by kernel_rfl)
    have hb11_ := hall 11 (by kernel_rfl)
    have hb12_ := hall 12 (by kernel_rfl)
    have hb13_ := hall 13 (by kernel_rfl)
    have hb14_ := hall 14 (by kernel_rfl)
    have hb15_ := hall 15 (by kernel_rfl)
    have hb16_ := hall 16 (by kernel_rfl)
    have hb17_ := hall 17 (by kernel_rfl)
    have hb18_ := hall 18 (by kernel_rfl)
    have hb19_ := hall 19 (by kernel_rfl)
    have hb20_ := hall 20 (by kernel_rfl)
    have hb21_ := hall 21 (by kernel_rfl)
    have hb22_ := hall 22 (by kernel_rfl)
    have hb23_ := hall 23 (by kernel_rfl)
    have hb24_ := hall 24 (by kernel_rfl)
    have hb25_ := hall 25 (by kernel_rfl)
    have hb26_ := hall 26 (by kernel_rfl)
    have hb27_ := hall 27 (by kernel_rfl)
    have hb28_ := hall 28 (by kernel_rfl)
    have hb29_ := hall 29 (by kernel_rfl)
    have hb30_ := hall 30 (by kernel_rfl)
    have hb31_ := hall 31 (by kernel_rfl)
    have hb32_ := hall 32 (by kernel_rfl)
    subst ha
    simp only [putSel, hb0_, hb1_, hb2_, hb3_, hb4_, hb5_, hb6_, hb7_, hb8_, hb9_, hb10_, hb11_, hb12_, hb13_, hb14_, hb15_, hb16_, hb17_, hb18_, hb19_, hb20_, hb21_, hb22_, hb23_, hb24_, hb25_, hb26_, hb27_, hb28_, hb29_, hb30_, hb31_, hb32_, if_true, Act.put, List.setIfInBounds_toArray, List.set_cons_zero, List.set_cons_succ]
    have BK306 := Aside0.mk Q_BK306
    clear Q_BK306
    have HB := Aside0.mk Q_HB
    clear Q_HB
    have HO311 := Aside0.mk (Q_HO311 hb6_)
    clear Q_HO311
    have HO314 := Aside0.mk (Q_HO314 hb7_)
    clear Q_HO314
    have HO324 := Aside0.mk (Q_HO324 hb13_)
    clear Q_HO324
    have HO327 := Aside0.mk (Q_HO327 hb14_)
    clear Q_HO327
    have HO343 := Aside0.mk (Q_HO343 hb20_)
    clear Q_HO343
    have HO346 := Aside0.mk (Q_HO346 hb21_)
    clear Q_HO346
    have HO350 := Aside0.mk (Q_HO350 hb28_)
    clear Q_HO350
    have HO353 := Aside0.mk (Q_HO353 hb29_)
    clear Q_HO353
    clear hall hb0_ hb1_ hb2_ hb3_ hb4_ hb5_ hb6_ hb7_ hb8_ hb9_ hb10_ hb11_ hb12_ hb13_ hb14_ hb15_ hb16_ hb17_ hb18_ hb19_ hb20_ hb21_ hb22_ hb23_ hb24_ hb25_ hb26_ hb27_ hb28_ hb29_ hb30_ hb31_ hb32_
    try go_wp2
    go_meet
    case rel => exact ⟨by first | rfl | (simp; done) | (simp [*]; done), ⟨by (with_reducible repeat (first | refine blk_drewN ?_ _ | refine blk_drew ?_ | refine blk_alloc ?_ _)); exact BK306.out⟩, ⟨by repeat (first | (with_reducible first | exact HB.out | apply below_alloc | apply pw_below_drewN | apply below_drew1 | refine below_set ?_ GE306.out) | exact HB.out)⟩⟩
  case rest =>
    obtain ⟨rfl, BK306, HB⟩ := hcut
    obtain ⟨t355, t356, t357, t358, t359, t360, t361, t362, t363, t364, t365, t366, t367, t368, t369, t370, t371, t372, A1240, h355, h362⟩ := ten_ex
    have A124 := Aside0.mk A1240
    have H355 := Aside0.mk h355
    have H362 := Aside0.mk h362
    clear A1240 h355 h362
    obtain ⟨t373, t376, t377, A1250, c145⟩ : ∃ a b c, search_Best.f (-1) ([] : List (S48)) t355 t356 t357 t358 t359 t360 t361 t362 t363 t364 t365 t366 t367 t368 t369 t370 t371 t372 = some (a, b, c) ∧ c = 2 := ⟨[], 0, 2, by rw [best_f', H355.out, H362.out]; exact bv1, rfl⟩
    have A125 := Aside0.mk A1250
    clear A1250
    have c145b0 : (t377 == 2) = true := beq_iff_eq.mpr c145
    have c145b1 : (t377 != 2) = false := bne_eq_false_iff_eq.mpr c145
    clear c145
    obtain ⟨t378, t381, t382, A1260, c146⟩ : ∃ a b c, search_Best.f 0 ([] : List (S48)) 0 0 0 0 false false false 0 0 0 0 0 0 0 0 0 0 0 = some (a, b, c) ∧ c = 90 := ⟨[], 0, 90, by rw [best_f']; exact bv2, rfl⟩
    have A126 := Aside0.mk A1260
    clear A1260
    have c146b0 : (t382 == 90) = true := beq_iff_eq.mpr c146
    have c146b1 : (t382 != 90) = false := bne_eq_false_iff_eq.mpr c146
    clear c146
    obtain ⟨y383, hy383⟩ : ∃ y_ : List (S48), y_ = ([(⟨0, 0, true, false, 0, 0⟩ : S48)]) := ⟨_, rfl⟩
    have Ny383 := Aside0.mk hy383
    clear hy383
    obtain ⟨t386, t387, t388, t389, t390, t391, t392, t393, t394, t395, t396, t397, t398, t399, t400, t401, t402, t403, A1270, h386, h393⟩ := ten_ex
    have A127 := Aside0.mk A1270
    have H386 := Aside0.mk h386
    have H393 := Aside0.mk h393
    clear A1270 h386 h393
    obtain ⟨t404, t407, t408, A1280, c147⟩ : ∃ a b c, search_Best.f 0 y383 t386 t387 t388 t389 t390 t391 t392 t393 t394 t395 t396 t397 t398 t399 t400 t401 t402 t403 = some (a, b, c) ∧ c = 2 := ⟨[], 0, 2, by rw [best_f', Ny383.out, H386.out, H393.out]; exact bv3, rfl⟩
    have A128 := Aside0.mk A1280
    clear A1280
    have c147b0 : (t408 == 2) = true := beq_iff_eq.mpr c147
    have c147b1 : (t408 != 2) = false := bne_eq_false_iff_eq.mpr c147
    clear c147
    obtain ⟨y409, hy409⟩ : ∃ y_ : List (S48), y_ = ([(⟨0, 0, false, false, 0, 257⟩ : S48)]) := ⟨_, rfl⟩
    have Ny409 := Aside0.mk hy409
    clear hy409
    obtain ⟨t412, t413, t414, t415, t416, t417, t418, t419, t420, t421, t422, t423, t424, t425, t426, t427, t428, t429, A1290, h412, h419⟩ := ten_ex
    have A129 := Aside0.mk A1290
    have H412 := Aside0.mk h412
    have H419 := Aside0.mk h419
    clear A1290 h412 h419
    obtain ⟨t430, t433, t434, A1300, c148⟩ : ∃ a b c, search_Best.f 0 y409 t412 t413 t414 t415 t416 t417 t418 t419 t420 t421 t422 t423 t424 t425 t426 t427 t428 t429 = some (a, b, c) ∧ c = 2 := ⟨[], 0, 2, by rw [best_f', Ny409.out, H412.out, H419.out]; exact bv4, rfl⟩
    have A130 := Aside0.mk A1300
    clear A1300
    have c148b0 : (t434 == 2) = true := beq_iff_eq.mpr c148
    have c148b1 : (t434 != 2) = false := bne_eq_false_iff_eq.mpr c148
    clear c148
    have c131 : 65537 ≤ 7036874417766 := by decide
    have c131b0 := eq_true c131
    have c131b1 : decide (65537 ≤ 7036874417766) = true := decide_eq_true c131
    clear c131
    obtain ⟨y435, hy435⟩ : ∃ y_ : List (S48), y_ = (List.replicate 65537 z48) := ⟨_, rfl⟩
    have Ny435 := Aside0.mk hy435
    clear hy435
    obtain ⟨t438, t439, t440, t441, t442, t443, t444, t445, t446, t447, t448, t449, t450, t451, t452, t453, t454, t455, A1320, h438, h445⟩ := ten_ex
    have A132 := Aside0.mk A1320
    have H438 := Aside0.mk h438
    have H445 := Aside0.mk h445
    clear A1320 h438 h445
    obtain ⟨t456, t459, t460, A1330, c149⟩ : ∃ a b c, search_Best.f (-1) y435 t438 t439 t440 t441 t442 t443 t444 t445 t446 t447 t448 t449 t450 t451 t452 t453 t454 t455 = some (a, b, c) ∧ c = 4 := ⟨[], 0, 4, by rw [best_f', Ny435.out, H438.out, H445.out]; exact bv5, rfl⟩
    have A133 := Aside0.mk A1330
    clear A1330
    have c149b0 : (t460 == 4) = true := beq_iff_eq.mpr c149
    have c149b1 : (t460 != 4) = false := bne_eq_false_iff_eq.mpr c149
    clear c149
    obtain ⟨y461, hy461⟩ : ∃ y_ : List (S48), y_ = ([(⟨t300, t301, t302, t303, t304, t305⟩ : S48)]) := ⟨_, rfl⟩
    have Ny461 := Aside0.mk hy461
    clear hy461
    obtain ⟨t464, t465, t466, t467, t468, t469, t470, t471, t472, t473, t474, t475, t476, t477, t478, t479, t480, t481, A1340, h464, h471⟩ := ten_ex
    have A134 := Aside0.mk A1340
    have H464 := Aside0.mk h464
    have H471 := Aside0.mk h471
    clear A1340 h464 h471
    obtain ⟨t482, t483, A1350, d150, c150⟩ : ∃ a b, search_Cost.f k 4 y461 ([] : List Bool) t464 t465 t466 t467 t468 t469 t470 t471 t472 t473 t474 t475 t476 t477 t478 t479 t480 t481 = some (a, b) ∧ a = 0 ∧ b = 2 := ⟨0, 2, by rw [cost_f' _ _ _ _ _ _ _ _ _ _ _ _ _ _ _ _ _ _ _ _ _ k (by rw [Ny461.out]; simp; omega), Ny461.out, G300.out, H464.out, H471.out]; exact cv1, rfl, rfl⟩
    have A135 := Aside0.mk A1350
    clear A1350
    have c150b0 : (t483 == 2) = true := beq_iff_eq.mpr c150
    have c150b1 : (t483 != 2) = false := bne_eq_false_iff_eq.mpr c150
    clear c150 d150
    obtain ⟨t484, t485, t486, t487, t488, t489, A1360, g484⟩ := gap_ex true true
    have A136 := Aside0.mk A1360
    have G484 := Aside0.mk g484
    clear A1360 g484
    obtain ⟨y490, hy490⟩ : ∃ y_ : List (S48), y_ = ([(⟨t484, t485, t486, t487, t488, t489⟩ : S48)]) := ⟨_, rfl⟩
    have Ny490 := Aside0.mk hy490
    clear hy490
    obtain ⟨y493, hy493⟩ : ∃ y_ : List Bool, y_ = ([false]) := ⟨_, rfl⟩
    have Ny493 := Aside0.mk hy493
    clear hy493
    obtain ⟨t496, t497, t498, t499, t500, t501, t502, t503, t504, t505, t506, t507, t508, t509, t510, t511, t512, t513, A1370, h496, h503⟩ := ten_ex
    have A137 := Aside0.mk A1370
    have H496 := Aside0.mk h496
    have H503 := Aside0.mk h503
    clear A1370 h496 h503
    obtain ⟨t514, t515, A1380, d151, c151⟩ : ∃ a b, search_Cost.f k 4 y490 y493 t496 t497 t498 t499 t500 t501 t502 t503 t504 t505 t506 t507 t508 t509 t510 t511 t512 t513 = some (a, b) ∧ a = 0 ∧ b = 2 := ⟨0, 2, by rw [cost_f' _ _ _ _ _ _ _ _ _ _ _ _ _ _ _ _ _ _ _ _ _ k (by rw [Ny490.out]; simp; omega), Ny490.out, Ny493.out, G484.out, H496.out, H503.out]; exact cv2, rfl, rfl⟩
    have A138 := Aside0.mk A1380
    clear A1380
    have c151b0 : (t515 == 2) = true := beq_iff_eq.mpr c151
    have c151b1 : (t515 != 2) = false := bne_eq_false_iff_eq.mpr c151
    clear c151 d151
    obtain ⟨t516, t517, t518, t519, t520, t521, A1390, g516⟩ := gap_ex false false
    have A139 := Aside0.mk A1390
    have G516 := Aside0.mk g516
    clear A1390 g516
    obtain ⟨y522, hy522⟩ : ∃ y_ : List (S48), y_ = ([(⟨t516, t517, t518, t519, t520, t521⟩ : S48)]) := ⟨_, rfl⟩
    have Ny522 := Aside0.mk hy522
    clear hy522
    obtain ⟨y525, hy525⟩ : ∃ y_ : List Bool, y_ = ([true]) := ⟨_, rfl⟩
    have Ny525 := Aside0.mk hy525
    clear hy525
    obtain ⟨t528, t529, t530, t531, t532, t533, t534, t535, t536, t537, t538, t539, t540, t541, t542, t543, t544, t545, A1400, h528, h535⟩ := ten_ex
    have A140 := Aside0.mk A1400
    have H528 := Aside0.mk h528
    have H535 := Aside0.mk h535
    clear A1400 h528 h535
    obtain ⟨t546, t547, A1410, d152, c152⟩ : ∃ a b, search_Cost.f k 4 y522 y525 t528 t529 t530 t531 t532 t533 t534 t535 t536 t537 t538 t539 t540 t541 t542 t543 t544 t545 = some (a, b) ∧ a = 0 ∧ b = 2 := ⟨0, 2, by rw [cost_f' _ _ _ _ _ _ _ _ _ _ _ _ _ _ _ _ _ _ _ _ _ k (by rw [Ny522.out]; simp; omega), Ny522.out, Ny525.out, G516.out, H528.out, H535.out]; exact cv3, rfl, rfl⟩
    have A141 := Aside0.mk A1410
    clear A1410
    have c152b0 : (t547 == 2) = true := beq_iff_eq.mpr c152
    have c152b1 : (t547 != 2) = false := bne_eq_false_iff_eq.mpr c152
    clear c152 d152
    obtain ⟨y548, hy548⟩ : ∃ y_ : List (S48), y_ = ([(⟨t300, t301, t302, t303, t304, t305⟩ : S48), (⟨t300, t301, t302, t303, t304, t305⟩ : S48)]) := ⟨_, rfl⟩
    have Ny548 := Aside0.mk hy548
    clear hy548
    obtain ⟨y551, hy551⟩ : ∃ y_ : List Bool, y_ = ([true, false]) := ⟨_, rfl⟩
    have Ny551 := Aside0.mk hy551
    clear hy551
    obtain ⟨t554, t555, t556, t557, t558, t559, t560, t561, t562, t563, t564, t565, t566, t567, t568, t569, t570, t571, A1420, h554, h561⟩ := ten_ex
    have A142 := Aside0.mk A1420
    have H554 := Aside0.mk h554
    have H561 := Aside0.mk h561
    clear A1420 h554 h561
    obtain ⟨t572, t573, A1430, d153, c153⟩ : ∃ a b, search_Cost.f k 4 y548 y551 t554 t555 t556 t557 t558 t559 t560 t561 t562 t563 t564 t565 t566 t567 t568 t569 t570 t571 = some (a, b) ∧ a = 5 ∧ b = 0 := ⟨5, 0, by rw [cost_f' _ _ _ _ _ _ _ _ _ _ _ _ _ _ _ _ _ _ _ _ _ k (by rw [Ny548.out]; simp; omega), Ny548.out, Ny551.out, G300.out, H554.out, H561.out]; exact cv4, rfl, rfl⟩
    have A143 := Aside0.mk A1430
    clear A1430
    have c153b0 : (t573 == 0) = true := beq_iff_eq.mpr c153
    have c153b1 : (t573 != 0) = false := bne_eq_false_iff_eq.mpr c153
    have d153b0 : (t572 == 5) = true := beq_iff_eq.mpr d153
    clear c153 d153
    try go_wp2_with (first | ((with_reducible refine gate_callee (f := 21) rfl ?_); refine goesL_ (some 60) rfl rfl Try.func21 (by kernel_rfl) rfl #[] rfl (by (try simp only [List.map_toArray, List.map_cons, List.map_nil]); first | done | rfl | (simp only [List.length_drop, List.length_take]; rfl)) ?_; (with_reducible refine (regletlaw14_ten.calls  t355 t356 t357 t358 t359 t360 t361 t362 t363 t364 t365 t366 t367 t368 t369 t370 t371 t372 _ A124.out).mono ?_); rintro e w154 ⟨rfl, hb⟩; refine ⟨_, rfl, ?_⟩; have n0_ := Aside0.mk (blk_below (g := gb306) (o := .cells #[.int .i64 t300, .int .i64 t301, .bool t302, .bool t303, .int .i64 t304, .int .i64 t305] 48 (0, 0)) (by (with_reducible repeat (first | refine blk_drewN ?_ _ | refine blk_drew ?_ | refine blk_alloc ?_ _)); exact BK306.out) hb); have n1_ := Aside0.mk (below_step (by repeat (first | (with_reducible first | exact HB.out | apply below_alloc | apply pw_below_drewN | apply below_drew1 | refine below_set ?_ GE306.out) | exact HB.out)) hb); clear BK306; clear HB; have BK306 := n0_; have HB := n1_; clear n0_ n1_; (try clear hb); (try clear hb2); (try clear hk); (try clear hi)) | ((with_reducible refine gate_callee (f := 14) rfl ?_); refine goesL_ (some 61) rfl rfl Try.func14 (by kernel_rfl) rfl #[.int .i64 (-1), .slice none 0 0, .agg #[.int .i64 t355, .int .i64 t356, .int .i64 t357, .int .i64 t358, .bool t359, .bool t360, .bool t361, .int .i64 t362, .int .i64 t363, .int .i64 t364, .int .i64 t365, .int .i64 t366, .int .i64 t367, .int .i64 t368, .int .i64 t369, .int .i64 t370, .int .i64 t371, .int .i64 t372]] rfl (by (try simp only [List.map_toArray, List.map_cons, List.map_nil]); first | done | rfl | (simp only [List.length_drop, List.length_take]; rfl)) ?_; (refine (search_Best.calls (-1) _ _ ([] : List (S48)) t355 t356 t357 t358 t359 t360 t361 t362 t363 t364 t365 t366 t367 t368 t369 t370 t371 t372 t373 t376 t377 _ ?side1 ?side2 A125.out).mono ?_); (case side1 => exact Kd.C_nil _ _); (case side2 => exact Nat.le_refl _); rintro e w155 ⟨v374, rfl, ho0, hb⟩; refine ⟨_, rfl, ?_⟩; have n0_ := Aside0.mk (Kd.R_lower ho0 (below_size (by repeat (first | (with_reducible first | exact HB.out | apply below_alloc | apply pw_below_drewN | apply below_drew1 | refine below_set ?_ GE306.out) | exact HB.out)))); have n1_ := Aside0.mk (blk_below (g := gb306) (o := .cells #[.int .i64 t300, .int .i64 t301, .bool t302, .bool t303, .int .i64 t304, .int .i64 t305] 48 (0, 0)) (by (with_reducible repeat (first | refine blk_drewN ?_ _ | refine blk_drew ?_ | refine blk_alloc ?_ _)); exact BK306.out) hb); have n2_ := Aside0.mk (below_step (by repeat (first | (with_reducible first | exact HB.out | apply below_alloc | apply pw_below_drewN | apply below_drew1 | refine below_set ?_ GE306.out) | exact HB.out)) hb); clear BK306; clear HB; have HO375 := n0_; have BK306 := n1_; have HB := n2_; clear n0_ n1_ n2_; (try clear hb); (try clear hb2); (try clear hk); (try clear hi); (try clear ho0)) | ((with_reducible refine gate_callee (f := 14) rfl ?_); refine goesL_ (some 67) rfl rfl Try.func14 (by kernel_rfl) rfl #[.int .i64 0, .slice none 0 0, .agg #[.int .i64 0, .int .i64 0, .int .i64 0, .int .i64 0, .bool false, .bool false, .bool false, .int .i64 0, .int .i64 0, .int .i64 0, .int .i64 0, .int .i64 0, .int .i64 0, .int .i64 0, .int .i64 0, .int .i64 0, .int .i64 0, .int .i64 0]] rfl (by (try simp only [List.map_toArray, List.map_cons, List.map_nil]); first | done | rfl | (simp only [List.length_drop, List.length_take]; rfl)) ?_; (refine (search_Best.calls 0 _ _ ([] : List (S48)) 0 0 0 0 false false false 0 0 0 0 0 0 0 0 0 0 0 t378 t381 t382 _ ?side1 ?side2 A126.out).mono ?_); (case side1 => exact Kd.C_nil _ _); (case side2 => exact Nat.le_refl _); rintro e w156 ⟨v379, rfl, ho0, hb⟩; refine ⟨_, rfl, ?_⟩; have n0_ := Aside0.mk (Kd.R_elder' (by (with_reducible repeat (first | apply Kd.R_alloc | apply Kd.R_drewN | apply Kd.R_drew)); exact HO375.out) (Kd.R_base ho0) hb); have n1_ := Aside0.mk (Kd.R_lower (Kd.R_new' ho0 (Kd.R_lt (by (with_reducible repeat (first | apply Kd.R_alloc | apply Kd.R_drewN | apply Kd.R_drew)); exact HO375.out))) (below_size (by repeat (first | (with_reducible first | exact HB.out | apply below_alloc | apply pw_below_drewN | apply below_drew1 | refine below_set ?_ GE306.out) | exact HB.out)))); have n2_ := Aside0.mk (blk_below (g := gb306) (o := .cells #[.int .i64 t300, .int .i64 t301, .bool t302, .bool t303, .int .i64 t304, .int .i64 t305] 48 (0, 0)) (by (with_reducible repeat (first | refine blk_drewN ?_ _ | refine blk_drew ?_ | refine blk_alloc ?_ _)); exact BK306.out) hb); have n3_ := Aside0.mk (below_step (by repeat (first | (with_reducible first | exact HB.out | apply below_alloc | apply pw_below_drewN | apply below_drew1 | refine below_set ?_ GE306.out) | exact HB.out)) hb); clear HO375; clear BK306; clear HB; have HO375 := n0_; have HO380 := n1_; have BK306 := n2_; have HB := n3_; clear n0_ n1_ n2_ n3_; (try clear hb); (try clear hb2); (try clear hk); (try clear hi); (try clear ho0)) | ((with_reducible refine gate_dst (N := 73) rfl ?_); (try (refine gate_guard (by rfl) ?_; dsimp only)); refine Kd.R_lit k48 _ 48 ?hg (N := 73) ?hd (xs := ([(⟨0, 0, true, false, 0, 0⟩ : S48)] : List (S48))) (inner := [.int .i64 0, .int .i64 0, .bool true, .bool false, .int .i64 0, .int .i64 0]) (ok := fun _ => True) (okp := fun _ => True) ?hr ?hp (fun _ hk => hk) trivial (Below.refl _ _) (Nat.le_refl _) (by simp) ?_; (case hd => rfl); (case hg => rfl); (case hr => first | (go_simp; done) | (go_simp; rfl)); (case hp => exact (Reps.c6 (show Kd.M k48 _ _ _ (⟨0, 0, true, false, 0, 0⟩ : S48) [.int .i64 0, .int .i64 0, .bool true, .bool false, .int .i64 0, .int .i64 0] from (k48_mkM _ _ _ (⟨0, 0, true, false, 0, 0⟩ : S48) )) (Reps.none _ _))); intro v384 w157 ho158 hb hg_ hnew_; clear hg_ hnew_; (first | rw [← Ny383.out] at ho158 | (simp only [Int.reduceToNat] at ho158; rw [← Ny383.out] at ho158)); have n0_ := Aside0.mk (Kd.R_below (by (with_reducible repeat (first | apply Kd.R_alloc | apply Kd.R_drewN | apply Kd.R_drew)); exact HO375.out) hb); have n1_ := Aside0.mk (Kd.R_below (by (with_reducible repeat (first | apply Kd.R_alloc | apply Kd.R_drewN | apply Kd.R_drew)); exact HO380.out) hb); have n2_ := Aside0.mk (Kd.R_lower (Kd.R_newB ho158 (g := gb306) (o := .cells #[.int .i64 t300, .int .i64 t301, .bool t302, .bool t303, .int .i64 t304, .int .i64 t305] 48 (0, 0)) (by (with_reducible repeat (first | refine blk_drewN ?_ _ | refine blk_drew ?_ | refine blk_alloc ?_ _)); exact BK306.out)) (below_size (by repeat (first | (with_reducible first | exact HB.out | apply below_alloc | apply pw_below_drewN | apply below_drew1 | refine below_set ?_ GE306.out) | exact HB.out)))); have n3_ := Aside0.mk (blk_below (g := gb306) (o := .cells #[.int .i64 t300, .int .i64 t301, .bool t302, .bool t303, .int .i64 t304, .int .i64 t305] 48 (0, 0)) (by (with_reducible repeat (first | refine blk_drewN ?_ _ | refine blk_drew ?_ | refine blk_alloc ?_ _)); exact BK306.out) hb); have n4_ := Aside0.mk (below_step (by repeat (first | (with_reducible first | exact HB.out | apply below_alloc | apply pw_below_drewN | apply below_drew1 | refine below_set ?_ GE306.out) | exact HB.out)) hb); clear HO375; clear HO380; clear BK306; clear HB; have HO375 := n0_; have HO380 := n1_; have HO385 := n2_; have BK306 := n3_; have HB := n4_; clear n0_ n1_ n2_ n3_ n4_; clear hb ho158) | ((with_reducible refine gate_callee (f := 21) rfl ?_); refine goesL_ (some 74) rfl rfl Try.func21 (by kernel_rfl) rfl #[] rfl (by (try simp only [List.map_toArray, List.map_cons, List.map_nil]); first | done | rfl | (simp only [List.length_drop, List.length_take]; rfl)) ?_; (with_reducible refine (regletlaw14_ten.calls  t386 t387 t388 t389 t390 t391 t392 t393 t394 t395 t396 t397 t398 t399 t400 t401 t402 t403 _ A127.out).mono ?_); rintro e w159 ⟨rfl, hb⟩; refine ⟨_, rfl, ?_⟩; have n0_ := Aside0.mk (Kd.R_below (by (with_reducible repeat (first | apply Kd.R_alloc | apply Kd.R_drewN | apply Kd.R_drew)); exact HO375.out) hb); have n1_ := Aside0.mk (Kd.R_below (by (with_reducible repeat (first | apply Kd.R_alloc | apply Kd.R_drewN | apply Kd.R_drew)); exact HO380.out) hb); have n2_ := Aside0.mk (Kd.R_below (by (with_reducible repeat (first | apply Kd.R_alloc | apply Kd.R_drewN | apply Kd.R_drew)); exact HO385.out) hb); have n3_ := Aside0.mk (blk_below (g := gb306) (o := .cells #[.int .i64 t300, .int .i64 t301, .bool t302, .bool t303, .int .i64 t304, .int .i64 t305] 48 (0, 0)) (by (with_reducible repeat (first | refine blk_drewN ?_ _ | refine blk_drew ?_ | refine blk_alloc ?_ _)); exact BK306.out) hb); have n4_ := Aside0.mk (below_step (by repeat (first | (with_reducible first | exact HB.out | apply below_alloc | apply pw_below_drewN | apply below_drew1 | refine below_set ?_ GE306.out) | exact HB.out)) hb); clear HO375; clear HO380; clear HO385; clear BK306; clear HB; have HO375 := n0_; have HO380 := n1_; have HO385 := n2_; have BK306 := n3_; have HB := n4_; clear n0_ n1_ n2_ n3_ n4_; (try clear hb); (try clear hb2); (try clear hk); (try clear hi); obtain ⟨Ao160, co160, eo160⟩ := Kd.R_slice HO385.out; subst eo160) | ((with_reducible refine gate_callee (f := 14) rfl ?_); refine goesL_ (some 75) rfl rfl Try.func14 (by kernel_rfl) rfl #[.int .i64 0, .slice Ao160 y383.length co160, .agg #[.int .i64 t386, .int .i64 t387, .int .i64 t388, .int .i64 t389, .bool t390, .bool t391, .bool t392, .int .i64 t393, .int .i64 t394, .int .i64 t395, .int .i64 t396, .int .i64 t397, .int .i64 t398, .int .i64 t399, .int .i64 t400, .int .i64 t401, .int .i64 t402, .int .i64 t403]] rfl (by (try simp only [List.map_toArray, List.map_cons, List.map_nil]); first | done | rfl | (simp only [List.length_drop, List.length_take]; rfl)) ?_; (with_reducible refine (search_Best.calls 0 _ _ y383 t386 t387 t388 t389 t390 t391 t392 t393 t394 t395 t396 t397 t398 t399 t400 t401 t402 t403 t404 t407 t408 _ ?side1 ?side2 A128.out).mono ?_); (case side1 => repeat (first | exact (Kd.R_reads' HO385.out).2.2 | (with_reducible refine Kd.C_alloc ?_ _) | (with_reducible refine Kd.C_drewN ?_ _) | (with_reducible refine Kd.C_drew ?_))); (case side2 => exact (Kd.R_reads' HO385.out).2.1); rintro e w161 ⟨v405, rfl, ho0, hb⟩; refine ⟨_, rfl, ?_⟩; have n0_ := Aside0.mk (Kd.R_elder' (by (with_reducible repeat (first | apply Kd.R_alloc | apply Kd.R_drewN | apply Kd.R_drew)); exact HO375.out) (Kd.R_base ho0) hb); have n1_ := Aside0.mk (Kd.R_elder' (by (with_reducible repeat (first | apply Kd.R_alloc | apply Kd.R_drewN | apply Kd.R_drew)); exact HO380.out) (Kd.R_base ho0) hb); have n2_ := Aside0.mk (Kd.R_below (by (with_reducible repeat (first | apply Kd.R_alloc | apply Kd.R_drewN | apply Kd.R_drew)); exact HO385.out) hb); have n3_ := Aside0.mk (Kd.R_lower (Kd.R_new' (Kd.R_new' ho0 (Kd.R_lt (by (with_reducible repeat (first | apply Kd.R_alloc | apply Kd.R_drewN | apply Kd.R_drew)); exact HO375.out))) (Kd.R_lt (by (with_reducible repeat (first | apply Kd.R_alloc | apply Kd.R_drewN | apply Kd.R_drew)); exact HO380.out))) (below_size (by repeat (first | (with_reducible first | exact HB.out | apply below_alloc | apply pw_below_drewN | apply below_drew1 | refine below_set ?_ GE306.out) | exact HB.out)))); have n4_ := Aside0.mk (blk_below (g := gb306) (o := .cells #[.int .i64 t300, .int .i64 t301, .bool t302, .bool t303, .int .i64 t304, .int .i64 t305] 48 (0, 0)) (by (with_reducible repeat (first | refine blk_drewN ?_ _ | refine blk_drew ?_ | refine blk_alloc ?_ _)); exact BK306.out) hb); have n5_ := Aside0.mk (below_step (by repeat (first | (with_reducible first | exact HB.out | apply below_alloc | apply pw_below_drewN | apply below_drew1 | refine below_set ?_ GE306.out) | exact HB.out)) hb); clear HO375; clear HO380; clear HO385; clear BK306; clear HB; have HO375 := n0_; have HO380 := n1_; have HO385 := n2_; have HO406 := n3_; have BK306 := n4_; have HB := n5_; clear n0_ n1_ n2_ n3_ n4_ n5_; (try clear hb); (try clear hb2); (try clear hk); (try clear hi); (try clear ho0)) | ((with_reducible refine gate_dst (N := 81) rfl ?_); (try (refine gate_guard (by rfl) ?_; dsimp only)); refine Kd.R_lit k48 _ 48 ?hg (N := 81) ?hd (xs := ([(⟨0, 0, false, false, 0, 257⟩ : S48)] : List (S48))) (inner := [.int .i64 0, .int .i64 0, .bool false, .bool false, .int .i64 0, .int .i64 257]) (ok := fun _ => True) (okp := fun _ => True) ?hr ?hp (fun _ hk => hk) trivial (Below.refl _ _) (Nat.le_refl _) (by simp) ?_; (case hd => rfl); (case hg => rfl); (case hr => first | (go_simp; done) | (go_simp; rfl)); (case hp => exact (Reps.c6 (show Kd.M k48 _ _ _ (⟨0, 0, false, false, 0, 257⟩ : S48) [.int .i64 0, .int .i64 0, .bool false, .bool false, .int .i64 0, .int .i64 257] from (k48_mkM _ _ _ (⟨0, 0, false, false, 0, 257⟩ : S48) )) (Reps.none _ _))); intro v410 w162 ho163 hb hg_ hnew_; clear hg_ hnew_; (first | rw [← Ny409.out] at ho163 | (simp only [Int.reduceToNat] at ho163; rw [← Ny409.out] at ho163)); have n0_ := Aside0.mk (Kd.R_below (by (with_reducible repeat (first | apply Kd.R_alloc | apply Kd.R_drewN | apply Kd.R_drew)); exact HO375.out) hb); have n1_ := Aside0.mk (Kd.R_below (by (with_reducible repeat (first | apply Kd.R_alloc | apply Kd.R_drewN | apply Kd.R_drew)); exact HO380.out) hb); have n2_ := Aside0.mk (Kd.R_elder' (by (with_reducible repeat (first | apply Kd.R_alloc | apply Kd.R_drewN | apply Kd.R_drew)); exact HO385.out) (Kd.R_base ho163) hb); have n3_ := Aside0.mk (Kd.R_below (by (with_reducible repeat (first | apply Kd.R_alloc | apply Kd.R_drewN | apply Kd.R_drew)); exact HO406.out) hb); have n4_ := Aside0.mk (Kd.R_lower (Kd.R_newB (Kd.R_new' ho163 (Kd.R_lt (by (with_reducible repeat (first | apply Kd.R_alloc | apply Kd.R_drewN | apply Kd.R_drew)); exact HO385.out))) (g := gb306) (o := .cells #[.int .i64 t300, .int .i64 t301, .bool t302, .bool t303, .int .i64 t304, .int .i64 t305] 48 (0, 0)) (by (with_reducible repeat (first | refine blk_drewN ?_ _ | refine blk_drew ?_ | refine blk_alloc ?_ _)); exact BK306.out)) (below_size (by repeat (first | (with_reducible first | exact HB.out | apply below_alloc | apply pw_below_drewN | apply below_drew1 | refine below_set ?_ GE306.out) | exact HB.out)))); have n5_ := Aside0.mk (blk_below (g := gb306) (o := .cells #[.int .i64 t300, .int .i64 t301, .bool t302, .bool t303, .int .i64 t304, .int .i64 t305] 48 (0, 0)) (by (with_reducible repeat (first | refine blk_drewN ?_ _ | refine blk_drew ?_ | refine blk_alloc ?_ _)); exact BK306.out) hb); have n6_ := Aside0.mk (below_step (by repeat (first | (with_reducible first | exact HB.out | apply below_alloc | apply pw_below_drewN | apply below_drew1 | refine below_set ?_ GE306.out) | exact HB.out)) hb); clear HO375; clear HO380; clear HO385; clear HO406; clear BK306; clear HB; have HO375 := n0_; have HO380 := n1_; have HO385 := n2_; have HO406 := n3_; have HO411 := n4_; have BK306 := n5_; have HB := n6_; clear n0_ n1_ n2_ n3_ n4_ n5_ n6_; clear hb ho163) | ((with_reducible refine gate_callee (f := 21) rfl ?_); refine goesL_ (some 82) rfl rfl Try.func21 (by kernel_rfl) rfl #[] rfl (by (try simp only [List.map_toArray, List.map_cons, List.map_nil]); first | done | rfl | (simp only [List.length_drop, List.length_take]; rfl)) ?_; (with_reducible refine (regletlaw14_ten.calls  t412 t413 t414 t415 t416 t417 t418 t419 t420 t421 t422 t423 t424 t425 t426 t427 t428 t429 _ A129.out).mono ?_); rintro e w164 ⟨rfl, hb⟩; refine ⟨_, rfl, ?_⟩; have n0_ := Aside0.mk (Kd.R_below (by (with_reducible repeat (first | apply Kd.R_alloc | apply Kd.R_drewN | apply Kd.R_drew)); exact HO375.out) hb); have n1_ := Aside0.mk (Kd.R_below (by (with_reducible repeat (first | apply Kd.R_alloc | apply Kd.R_drewN | apply Kd.R_drew)); exact HO380.out) hb); have n2_ := Aside0.mk (Kd.R_below (by (with_reducible repeat (first | apply Kd.R_alloc | apply Kd.R_drewN | apply Kd.R_drew)); exact HO385.out) hb); have n3_ := Aside0.mk (Kd.R_below (by (with_reducible repeat (first | apply Kd.R_alloc | apply Kd.R_drewN | apply Kd.R_drew)); exact HO406.out) hb); have n4_ := Aside0.mk (Kd.R_below (by (with_reducible repeat (first | apply Kd.R_alloc | apply Kd.R_drewN | apply Kd.R_drew)); exact HO411.out) hb); have n5_ := Aside0.mk (blk_below (g := gb306) (o := .cells #[.int .i64 t300, .int .i64 t301, .bool t302, .bool t303, .int .i64 t304, .int .i64 t305] 48 (0, 0)) (by (with_reducible repeat (first | refine blk_drewN ?_ _ | refine blk_drew ?_ | refine blk_alloc ?_ _)); exact BK306.out) hb); have n6_ := Aside0.mk (below_step (by repeat (first | (with_reducible first | exact HB.out | apply below_alloc | apply pw_below_drewN | apply below_drew1 | refine below_set ?_ GE306.out) | exact HB.out)) hb); clear HO375; clear HO380; clear HO385; clear HO406; clear HO411; clear BK306; clear HB; have HO375 := n0_; have HO380 := n1_; have HO385 := n2_; have HO406 := n3_; have HO411 := n4_; have BK306 := n5_; have HB := n6_; clear n0_ n1_ n2_ n3_ n4_ n5_ n6_; (try clear hb); (try clear hb2); (try clear hk); (try clear hi); obtain ⟨Ao165, co165, eo165⟩ := Kd.R_slice HO411.out; subst eo165) | ((with_reducible refine gate_callee (f := 14) rfl ?_); refine goesL_ (some 83) rfl rfl Try.func14 (by kernel_rfl) rfl #[.int .i64 0, .slice Ao165 y409.length co165, .agg #[.int .i64 t412, .int .i64 t413, .int .i64 t414, .int .i64 t415, .bool t416, .bool t417, .bool t418, .int .i64 t419, .int .i64 t420, .int .i64 t421, .int .i64 t422, .int .i64 t423, .int .i64 t424, .int .i64 t425, .int .i64 t426, .int .i64 t427, .int .i64 t428, .int .i64 t429]] rfl (by (try simp only [List.map_toArray, List.map_cons, List.map_nil]); first | done | rfl | (simp only [List.length_drop, List.length_take]; rfl)) ?_; (with_reducible refine (search_Best.calls 0 _ _ y409 t412 t413 t414 t415 t416 t417 t418 t419 t420 t421 t422 t423 t424 t425 t426 t427 t428 t429 t430 t433 t434 _ ?side1 ?side2 A130.out).mono ?_); (case side1 => repeat (first | exact (Kd.R_reads' HO411.out).2.2 | (with_reducible refine Kd.C_alloc ?_ _) | (with_reducible refine Kd.C_drewN ?_ _) | (with_reducible refine Kd.C_drew ?_))); (case side2 => exact (Kd.R_reads' HO411.out).2.1); rintro e w166 ⟨v431, rfl, ho0, hb⟩; refine ⟨_, rfl, ?_⟩; have n0_ := Aside0.mk (Kd.R_elder' (by (with_reducible repeat (first | apply Kd.R_alloc | apply Kd.R_drewN | apply Kd.R_drew)); exact HO375.out) (Kd.R_base ho0) hb); have n1_ := Aside0.mk (Kd.R_elder' (by (with_reducible repeat (first | apply Kd.R_alloc | apply Kd.R_drewN | apply Kd.R_drew)); exact HO380.out) (Kd.R_base ho0) hb); have n2_ := Aside0.mk (Kd.R_below (by (with_reducible repeat (first | apply Kd.R_alloc | apply Kd.R_drewN | apply Kd.R_drew)); exact HO385.out) hb); have n3_ := Aside0.mk (Kd.R_elder' (by (with_reducible repeat (first | apply Kd.R_alloc | apply Kd.R_drewN | apply Kd.R_drew)); exact HO406.out) (Kd.R_base ho0) hb); have n4_ := Aside0.mk (Kd.R_below (by (with_reducible repeat (first | apply Kd.R_alloc | apply Kd.R_drewN | apply Kd.R_drew)); exact HO411.out) hb); have n5_ := Aside0.mk (Kd.R_lower (Kd.R_new' (Kd.R_new' (Kd.R_new' ho0 (Kd.R_lt (by (with_reducible repeat (first | apply Kd.R_alloc | apply Kd.R_drewN | apply Kd.R_drew)); exact HO375.out))) (Kd.R_lt (by (with_reducible repeat (first | apply Kd.R_alloc | apply Kd.R_drewN | apply Kd.R_drew)); exact HO380.out))) (Kd.R_lt (by (with_reducible repeat (first | apply Kd.R_alloc | apply Kd.R_drewN | apply Kd.R_drew)); exact HO406.out))) (below_size (by repeat (first | (with_reducible first | exact HB.out | apply below_alloc | apply pw_below_drewN | apply below_drew1 | refine below_set ?_ GE306.out) | exact HB.out)))); have n6_ := Aside0.mk (blk_below (g := gb306) (o := .cells #[.int .i64 t300, .int .i64 t301, .bool t302, .bool t303, .int .i64 t304, .int .i64 t305] 48 (0, 0)) (by (with_reducible repeat (first | refine blk_drewN ?_ _ | refine blk_drew ?_ | refine blk_alloc ?_ _)); exact BK306.out) hb); have n7_ := Aside0.mk (below_step (by repeat (first | (with_reducible first | exact HB.out | apply below_alloc | apply pw_below_drewN | apply below_drew1 | refine below_set ?_ GE306.out) | exact HB.out)) hb); clear HO375; clear HO380; clear HO385; clear HO406; clear HO411; clear BK306; clear HB; have HO375 := n0_; have HO380 := n1_; have HO385 := n2_; have HO406 := n3_; have HO411 := n4_; have HO432 := n5_; have BK306 := n6_; have HB := n7_; clear n0_ n1_ n2_ n3_ n4_ n5_ n6_ n7_; (try clear hb); (try clear hb2); (try clear hk); (try clear hi); (try clear ho0)))
    have n0_ := Aside0.mk (Kd.R_drew HO375.out)
    have n1_ := Aside0.mk (Kd.R_drew HO380.out)
    have n2_ := Aside0.mk (Kd.R_drew HO385.out)
    have n3_ := Aside0.mk (Kd.R_drew HO406.out)
    have n4_ := Aside0.mk (Kd.R_drew HO411.out)
    have n5_ := Aside0.mk (Kd.R_drew HO432.out)
    have n6_ := Aside0.mk (blk_drew BK306.out)
    have n7_ := Aside0.mk (below_drew1 HB.out)
    clear HO375
    clear HO380
    clear HO385
    clear HO406
    clear HO411
    clear HO432
    clear BK306
    clear HB
    have HO375 := n0_
    have HO380 := n1_
    have HO385 := n2_
    have HO406 := n3_
    have HO411 := n4_
    have HO432 := n5_
    have BK306 := n6_
    have HB := n7_
    clear n0_ n1_ n2_ n3_ n4_ n5_ n6_ n7_
    refine start_ (n := 10) (S := fun w' => True) (ds := []) #[false, false, false, false, false, false, false, false, false, false] (by kernel_rfl) rfl rfl trivial (fun hHeld => ?_); refine with_tabW regletlaw14_SearchNames.tab7 regletlaw14_SearchNames.bits7 (fun HT_ HW_ => ?_)
    generalize w166.drew = w167 at HO375 HO380 HO385 HO406 HO411 HO432 BK306 HB hHeld ⊢
    refine join_ (σ := Value) 8 #[true, true, false, false, false, false, false, false, false, false] (fun s_ => [(88, s_), (89, .agg #[.int .i64 t438, .int .i64 t439, .int .i64 t440, .int .i64 t441, .bool t442, .bool t443, .bool t444, .int .i64 t445, .int .i64 t446, .int .i64 t447, .int .i64 t448, .int .i64 t449, .int .i64 t450, .int .i64 t451, .int .i64 t452, .int .i64 t453, .int .i64 t454, .int .i64 t455])]) (fun s_ w' => (Kd.R Kd.bool 4 w' w.heap.size (fun _ => True) v374 t373) ∧ (Kd.R Kd.bool 4 w' w.heap.size (fun _ => True) v379 t378) ∧ (Kd.R k48 48 w' w.heap.size (fun _ => True) (.slice Ao160 y383.length co160) y383) ∧ (Kd.R Kd.bool 4 w' w.heap.size (fun _ => True) v405 t404) ∧ (Kd.R k48 48 w' w.heap.size (fun _ => True) (.slice Ao165 y409.length co165) y409) ∧ (Kd.R Kd.bool 4 w' w.heap.size (fun _ => True) v431 t430) ∧ (Kd.R k48 48 w' w.heap.size (fun _ => True) s_ y435) ∧ (w'.heap[gb306]? = some (.cells #[.int .i64 t300, .int .i64 t301, .bool t302, .bool t303, .int .i64 t304, .int .i64 t305] 48 (0, 0))) ∧ (Below w.heap.size w w')) ?_ ?_
    rotate_left
    · intro hCont
      refine two_ (i := 0) (j := 1) (Ni := some 88) (Nj := some 89) #[true, false, false, false, false, false, false, false, false, false] #[false, true, false, false, false, false, false, false, false, false] rfl rfl rfl rfl (two_of HT_.out (by kernel_rfl)) (by decide) (by decide) (fun K hK => ?_) (fun K hK => ?_)
      · skip
        refine Kd.R_make_step k48 _ 48 (by rfl) (N := 88) rfl 22 _ _ rfl 65537 rfl rfl Try.underlying22 (.agg #[(.int .i64 0), (.int .i64 0), (.bool false), (.bool false), (.int .i64 0), (.int .i64 0)]) 40 info48 rfl (by decide) (by omega) z48 (ok := fun _ => True) (okp := fun _ => True) (k48_mkM _ _ _ z48 ) (fun _ hk => hk) trivial (by omega) (by omega) (Below.refl _ _) (Nat.le_refl _) ?_
        intro v436 w168 ho169 hb hg_ hnew_
        clear hg_ hnew_
        (first | rw [← Ny435.out] at ho169 | (simp only [Int.reduceToNat] at ho169; rw [← Ny435.out] at ho169))
        have n0_ := Aside0.mk (Kd.R_below (by (with_reducible repeat (first | apply Kd.R_alloc | apply Kd.R_drewN | apply Kd.R_drew)); exact HO375.out) hb)
        have n1_ := Aside0.mk (Kd.R_below (by (with_reducible repeat (first | apply Kd.R_alloc | apply Kd.R_drewN | apply Kd.R_drew)); exact HO380.out) hb)
        have n2_ := Aside0.mk (Kd.R_elder' (by (with_reducible repeat (first | apply Kd.R_alloc | apply Kd.R_drewN | apply Kd.R_drew)); exact HO385.out) (Kd.R_base ho169) hb)
        have n3_ := Aside0.mk (Kd.R_below (by (with_reducible repeat (first | apply Kd.R_alloc | apply Kd.R_drewN | apply Kd.R_drew)); exact HO406.out) hb)
        have n4_ := Aside0.mk (Kd.R_elder' (by (with_reducible repeat (first | apply Kd.R_alloc | apply Kd.R_drewN | apply Kd.R_drew)); exact HO411.out) (Kd.R_base ho169) hb)
        have n5_ := Aside0.mk (Kd.R_below (by (with_reducible repeat (first | apply Kd.R_alloc | apply Kd.R_drewN | apply Kd.R_drew)); exact HO432.out) hb)
        have n6_ := Aside0.mk (Kd.R_lower (Kd.R_newB (Kd.R_new' (Kd.R_new' ho169 (Kd.R_lt (by (with_reducible repeat (first | apply Kd.R_alloc | apply Kd.R_drewN | apply Kd.R_drew)); exact HO385.out))) (Kd.R_lt (by (with_reducible repeat (first | apply Kd.R_alloc | apply Kd.R_drewN | apply Kd.R_drew)); exact HO411.out))) (g := gb306) (o := .cells #[.int .i64 t300, .int .i64 t301, .bool t302, .bool t303, .int .i64 t304, .int .i64 t305] 48 (0, 0)) (by (with_reducible repeat (first | refine blk_drewN ?_ _ | refine blk_drew ?_ | refine blk_alloc ?_ _)); exact BK306.out)) (below_size (by repeat (first | (with_reducible first | exact HB.out | apply below_alloc | apply pw_below_drewN | apply below_drew1 | refine below_set ?_ GE306.out) | exact HB.out))))
        have n7_ := Aside0.mk (blk_below (g := gb306) (o := .cells #[.int .i64 t300, .int .i64 t301, .bool t302, .bool t303, .int .i64 t304, .int .i64 t305] 48 (0, 0)) (by (with_reducible repeat (first | refine blk_drewN ?_ _ | refine blk_drew ?_ | refine blk_alloc ?_ _)); exact BK306.out) hb)
        have n8_ := Aside0.mk (below_step (by repeat (first | (with_reducible first | exact HB.out | apply below_alloc | apply pw_below_drewN | apply below_drew1 | refine below_set ?_ GE306.out) | exact HB.out)) hb)
        clear HO375
        clear HO380
        clear HO385
        clear HO406
        clear HO411
        clear HO432
        clear BK306
        clear HB
        have HO375 := n0_
        have HO380 := n1_
        have HO385 := n2_
        have HO406 := n3_
        have HO411 := n4_
        have HO432 := n5_
        have HO437 := n6_
        have BK306 := n7_
        have HB := n8_
        clear n0_ n1_ n2_ n3_ n4_ n5_ n6_ n7_ n8_
        clear hb ho169
        refine hK.out _ _ trivial (fun hHeld => ?_)
        clear hK K
        refine norm_ (a' := ?_) ?_ ?_
        rotate_left
        · show Act.put _ (some 88) _ = _
          simp only [Act.put, List.setIfInBounds_toArray, List.set_cons_zero, List.set_cons_succ, i64_w, i32_w]
          rfl
        refine one_ (i := 1) (N := some 89) #[true, true, false, false, false, false, false, false, false, false] rfl rfl (one_of HT_.out (by kernel_rfl)) (by decide) (fun K hK => ?_)
        refine goes_ Try.func21 (by kernel_rfl) rfl #[] (by rfl) rfl rfl (by (try simp only [List.map_toArray, List.map_cons, List.map_nil]); first | done | rfl | (simp only [List.length_drop, List.length_take]; rfl)) ?_
        with_reducible refine (regletlaw14_ten.calls  t438 t439 t440 t441 t442 t443 t444 t445 t446 t447 t448 t449 t450 t451 t452 t453 t454 t455 _ A132.out).mono ?_
        rintro e w170 ⟨rfl, hb⟩
        refine ⟨_, rfl, ?_⟩
        have n0_ := Aside0.mk (Kd.R_below (by (with_reducible repeat (first | apply Kd.R_alloc | apply Kd.R_drewN | apply Kd.R_drew)); exact HO375.out) hb)
        have n1_ := Aside0.mk (Kd.R_below (by (with_reducible repeat (first | apply Kd.R_alloc | apply Kd.R_drewN | apply Kd.R_drew)); exact HO380.out) hb)
        have n2_ := Aside0.mk (Kd.R_below (by (with_reducible repeat (first | apply Kd.R_alloc | apply Kd.R_drewN | apply Kd.R_drew)); exact HO385.out) hb)
        have n3_ := Aside0.mk (Kd.R_below (by (with_reducible repeat (first | apply Kd.R_alloc | apply Kd.R_drewN | apply Kd.R_drew)); exact HO406.out) hb)
        have n4_ := Aside0.mk (Kd.R_below (by (with_reducible repeat (first | apply Kd.R_alloc | apply Kd.R_drewN | apply Kd.R_drew)); exact HO411.out) hb)
        have n5_ := Aside0.mk (Kd.R_below (by (with_reducible repeat (first | apply Kd.R_alloc | apply Kd.R_drewN | apply Kd.R_drew)); exact HO432.out) hb)
        have n6_ := Aside0.mk (Kd.R_below (by (with_reducible repeat (first | apply Kd.R_alloc | apply Kd.R_drewN | apply Kd.R_drew)); exact HO437.out) hb)
        have n7_ := Aside0.mk (blk_below (g := gb306) (o := .cells #[.int .i64 t300, .int .i64 t301, .bool t302, .bool t303, .int .i64 t304, .int .i64 t305] 48 (0, 0)) (by (with_reducible repeat (first | refine blk_drewN ?_ _ | refine blk_drew ?_ | refine blk_alloc ?_ _)); exact BK306.out) hb)
        have n8_ := Aside0.mk (below_step (by repeat (first | (with_reducible first | exact HB.out | apply below_alloc | apply pw_below_drewN | apply below_drew1 | refine below_set ?_ GE306.out) | exact HB.out)) hb)
        clear HO375
        clear HO380
        clear HO385
        clear HO406
        clear HO411
        clear HO432
        clear HO437
        clear BK306
        clear HB
        have HO375 := n0_
        have HO380 := n1_
        have HO385 := n2_
        have HO406 := n3_
        have HO411 := n4_
        have HO432 := n5_
        have HO437 := n6_
        have BK306 := n7_
        have HB := n8_
        clear n0_ n1_ n2_ n3_ n4_ n5_ n6_ n7_ n8_
        (try clear hb)
        (try clear hb2)
        (try clear hk)
        (try clear hi)
        refine hK.out _ _ trivial (fun hHeld => ?_)
        clear hK K
        refine norm_ (a' := ?_) ?_ ?_
        rotate_left
        · show Act.put _ (some 89) _ = _
          simp only [Act.put, List.setIfInBounds_toArray, List.set_cons_zero, List.set_cons_succ, i64_w, i32_w]
          rfl
        exact norm_ (by simp only [putAll, Act.put, List.setIfInBounds_toArray, List.set_cons_zero, List.set_cons_succ]) (hCont (v436) _ ⟨(by (with_reducible repeat (first | apply Kd.R_alloc | apply Kd.R_drewN | apply Kd.R_drew)); exact Kd.R_mono HO375.out (fun _ _ => trivial)), (by (with_reducible repeat (first | apply Kd.R_alloc | apply Kd.R_drewN | apply Kd.R_drew)); exact Kd.R_mono HO380.out (fun _ _ => trivial)), (by (with_reducible repeat (first | apply Kd.R_alloc | apply Kd.R_drewN | apply Kd.R_drew)); exact Kd.R_mono HO385.out (fun _ _ => trivial)), (by (with_reducible repeat (first | apply Kd.R_alloc | apply Kd.R_drewN | apply Kd.R_drew)); exact Kd.R_mono HO406.out (fun _ _ => trivial)), (by (with_reducible repeat (first | apply Kd.R_alloc | apply Kd.R_drewN | apply Kd.R_drew)); exact Kd.R_mono HO411.out (fun _ _ => trivial)), (by (with_reducible repeat (first | apply Kd.R_alloc | apply Kd.R_drewN | apply Kd.R_drew)); exact Kd.R_mono HO432.out (fun _ _ => trivial)), (by (with_reducible repeat (first | apply Kd.R_alloc | apply Kd.R_drewN | apply Kd.R_drew)); exact Kd.R_mono HO437.out (fun _ _ => trivial)), (by (with_reducible repeat (first | refine blk_drewN ?_ _ | refine blk_drew ?_ | refine blk_alloc ?_ _)); exact BK306.out), (by repeat (first | (with_reducible first | exact HB.out | apply below_alloc | apply pw_below_drewN | apply below_drew1 | refine below_set ?_ GE306.out) | exact HB.out))⟩)
      · skip
        refine goes_ Try.func21 (by kernel_rfl) rfl #[] (by rfl) rfl rfl (by (try simp only [List.map_toArray, List.map_cons, List.map_nil]); first | done | rfl | (simp only [List.length_drop, List.length_take]; rfl)) ?_
        with_reducible refine (regletlaw14_ten.calls  t438 t439 t440 t441 t442 t443 t444 t445 t446 t447 t448 t449 t450 t451 t452 t453 t454 t455 _ A132.out).mono ?_
        rintro e w168 ⟨rfl, hb⟩
        refine ⟨_, rfl, ?_⟩
        have n0_ := Aside0.mk (Kd.R_below (by (with_reducible repeat (first | apply Kd.R_alloc | apply Kd.R_drewN | apply Kd.R_drew)); exact HO375.out) hb)
        have n1_ := Aside0.mk (Kd.R_below (by (with_reducible repeat (first | apply Kd.R_alloc | apply Kd.R_drewN | apply Kd.R_drew)); exact HO380.out) hb)
        have n2_ := Aside0.mk (Kd.R_below (by (with_reducible repeat (first | apply Kd.R_alloc | apply Kd.R_drewN | apply Kd.R_drew)); exact HO385.out) hb)
        have n3_ := Aside0.mk (Kd.R_below (by (with_reducible repeat (first | apply Kd.R_alloc | apply Kd.R_drewN | apply Kd.R_drew)); exact HO406.out) hb)
        have n4_ := Aside0.mk (Kd.R_below (by (with_reducible repeat (first | apply Kd.R_alloc | apply Kd.R_drewN | apply Kd.R_drew)); exact HO411.out) hb)
        have n5_ := Aside0.mk (Kd.R_below (by (with_reducible repeat (first | apply Kd.R_alloc | apply Kd.R_drewN | apply Kd.R_drew)); exact HO432.out) hb)
        have n6_ := Aside0.mk (blk_below (g := gb306) (o := .cells #[.int .i64 t300, .int .i64 t301, .bool t302, .bool t303, .int .i64 t304, .int .i64 t305] 48 (0, 0)) (by (with_reducible repeat (first | refine blk_drewN ?_ _ | refine blk_drew ?_ | refine blk_alloc ?_ _)); exact BK306.out) hb)
        have n7_ := Aside0.mk (below_step (by repeat (first | (with_reducible first | exact HB.out | apply below_alloc | apply pw_below_drewN | apply below_drew1 | refine below_set ?_ GE306.out) | exact HB.out)) hb)
        clear HO375
        clear HO380
        clear HO385
        clear HO406
        clear HO411
        clear HO432
        clear BK306
        clear HB
        have HO375 := n0_
        have HO380 := n1_
        have HO385 := n2_
        have HO406 := n3_
        have HO411 := n4_
        have HO432 := n5_
        have BK306 := n6_
        have HB := n7_
        clear n0_ n1_ n2_ n3_ n4_ n5_ n6_ n7_
        (try clear hb)
        (try clear hb2)
        (try clear hk)
        (try clear hi)
        refine hK.out _ _ trivial (fun hHeld => ?_)
        clear hK K
        refine norm_ (a' := ?_) ?_ ?_
        rotate_left
        · show Act.put _ (some 89) _ = _
          simp only [Act.put, List.setIfInBounds_toArray, List.set_cons_zero, List.set_cons_succ, i64_w, i32_w]
          rfl
        refine one_ (i := 0) (N := some 88) #[true, true, false, false, false, false, false, false, false, false] rfl rfl (one_of HT_.out (by kernel_rfl)) (by decide) (fun K hK => ?_)
        refine Kd.R_make_step k48 _ 48 (by rfl) (N := 88) rfl 22 _ _ rfl 65537 rfl rfl Try.underlying22 (.agg #[(.int .i64 0), (.int .i64 0), (.bool false), (.bool false), (.int .i64 0), (.int .i64 0)]) 40 info48 rfl (by decide) (by omega) z48 (ok := fun _ => True) (okp := fun _ => True) (k48_mkM _ _ _ z48 ) (fun _ hk => hk) trivial (by omega) (by omega) (Below.refl _ _) (Nat.le_refl _) ?_
        intro v436 w169 ho170 hb hg_ hnew_
        clear hg_ hnew_
        (first | rw [← Ny435.out] at ho170 | (simp only [Int.reduceToNat] at ho170; rw [← Ny435.out] at ho170))
        have n0_ := Aside0.mk (Kd.R_below (by (with_reducible repeat (first | apply Kd.R_alloc | apply Kd.R_drewN | apply Kd.R_drew)); exact HO375.out) hb)
        have n1_ := Aside0.mk (Kd.R_below (by (with_reducible repeat (first | apply Kd.R_alloc | apply Kd.R_drewN | apply Kd.R_drew)); exact HO380.out) hb)
        have n2_ := Aside0.mk (Kd.R_elder' (by (with_reducible repeat (first | apply Kd.R_alloc | apply Kd.R_drewN | apply Kd.R_drew)); exact HO385.out) (Kd.R_base ho170) hb)
        have n3_ := Aside0.mk (Kd.R_below (by (with_reducible repeat (first | apply Kd.R_alloc | apply Kd.R_drewN | apply Kd.R_drew)); exact HO406.out) hb)
        have n4_ := Aside0.mk (Kd.R_elder' (by (with_reducible repeat (first | apply Kd.R_alloc | apply Kd.R_drewN | apply Kd.R_drew)); exact HO411.out) (Kd.R_base ho170) hb)
        have n5_ := Aside0.mk (Kd.R_below (by (with_reducible repeat (first | apply Kd.R_alloc | apply Kd.R_drewN | apply Kd.R_drew)); exact HO432.out) hb)
        have n6_ := Aside0.mk (Kd.R_lower (Kd.R_newB (Kd.R_new' (Kd.R_new' ho170 (Kd.R_lt (by (with_reducible repeat (first | apply Kd.R_alloc | apply Kd.R_drewN | apply Kd.R_drew)); exact HO385.out))) (Kd.R_lt (by (with_reducible repeat (first | apply Kd.R_alloc | apply Kd.R_drewN | apply Kd.R_drew)); exact HO411.out))) (g := gb306) (o := .cells #[.int .i64 t300, .int .i64 t301, .bool t302, .bool t303, .int .i64 t304, .int .i64 t305] 48 (0, 0)) (by (with_reducible repeat (first | refine blk_drewN ?_ _ | refine blk_drew ?_ | refine blk_alloc ?_ _)); exact BK306.out)) (below_size (by repeat (first | (with_reducible first | exact HB.out | apply below_alloc | apply pw_below_drewN | apply below_drew1 | refine below_set ?_ GE306.out) | exact HB.out))))
        have n7_ := Aside0.mk (blk_below (g := gb306) (o := .cells #[.int .i64 t300, .int .i64 t301, .bool t302, .bool t303, .int .i64 t304, .int .i64 t305] 48 (0, 0)) (by (with_reducible repeat (first | refine blk_drewN ?_ _ | refine blk_drew ?_ | refine blk_alloc ?_ _)); exact BK306.out) hb)
        have n8_ := Aside0.mk (below_step (by repeat (first | (with_reducible first | exact HB.out | apply below_alloc | apply pw_below_drewN | apply below_drew1 | refine below_set ?_ GE306.out) | exact HB.out)) hb)
        clear HO375
        clear HO380
        clear HO385
        clear HO406
        clear HO411
        clear HO432
        clear BK306
        clear HB
        have HO375 := n0_
        have HO380 := n1_
        have HO385 := n2_
        have HO406 := n3_
        have HO411 := n4_
        have HO432 := n5_
        have HO437 := n6_
        have BK306 := n7_
        have HB := n8_
        clear n0_ n1_ n2_ n3_ n4_ n5_ n6_ n7_ n8_
        clear hb ho170
        refine hK.out _ _ trivial (fun hHeld => ?_)
        clear hK K
        refine norm_ (a' := ?_) ?_ ?_
        rotate_left
        · show Act.put _ (some 88) _ = _
          simp only [Act.put, List.setIfInBounds_toArray, List.set_cons_zero, List.set_cons_succ, i64_w, i32_w]
          rfl
        exact norm_ (by simp only [putAll, Act.put, List.setIfInBounds_toArray, List.set_cons_zero, List.set_cons_succ]) (hCont (v436) _ ⟨(by (with_reducible repeat (first | apply Kd.R_alloc | apply Kd.R_drewN | apply Kd.R_drew)); exact Kd.R_mono HO375.out (fun _ _ => trivial)), (by (with_reducible repeat (first | apply Kd.R_alloc | apply Kd.R_drewN | apply Kd.R_drew)); exact Kd.R_mono HO380.out (fun _ _ => trivial)), (by (with_reducible repeat (first | apply Kd.R_alloc | apply Kd.R_drewN | apply Kd.R_drew)); exact Kd.R_mono HO385.out (fun _ _ => trivial)), (by (with_reducible repeat (first | apply Kd.R_alloc | apply Kd.R_drewN | apply Kd.R_drew)); exact Kd.R_mono HO406.out (fun _ _ => trivial)), (by (with_reducible repeat (first | apply Kd.R_alloc | apply Kd.R_drewN | apply Kd.R_drew)); exact Kd.R_mono HO411.out (fun _ _ => trivial)), (by (with_reducible repeat (first | apply Kd.R_alloc | apply Kd.R_drewN | apply Kd.R_drew)); exact Kd.R_mono HO432.out (fun _ _ => trivial)), (by (with_reducible repeat (first | apply Kd.R_alloc | apply Kd.R_drewN | apply Kd.R_drew)); exact Kd.R_mono HO437.out (fun _ _ => trivial)), (by (with_reducible repeat (first | refine blk_drewN ?_ _ | refine blk_drew ?_ | refine blk_alloc ?_ _)); exact BK306.out), (by repeat (first | (with_reducible first | exact HB.out | apply below_alloc | apply pw_below_drewN | apply below_drew1 | refine below_set ?_ GE306.out) | exact HB.out))⟩)
    rintro v436 w171 ⟨h0_, h1_, h2_, h3_, h4_, h5_, h6_, h7_, h8_⟩
    have n0_ : Aside0 (Kd.R Kd.bool 4 w171 w.heap.size (fun _ => True) v374 t373) := ⟨h0_⟩
    have n1_ : Aside0 (Kd.R Kd.bool 4 w171 w.heap.size (fun _ => True) v379 t378) := ⟨h1_⟩
    have n2_ : Aside0 (Kd.R k48 48 w171 w.heap.size (fun _ => True) (.slice Ao160 y383.length co160) y383) := ⟨h2_⟩
    have n3_ : Aside0 (Kd.R Kd.bool 4 w171 w.heap.size (fun _ => True) v405 t404) := ⟨h3_⟩
    have n4_ : Aside0 (Kd.R k48 48 w171 w.heap.size (fun _ => True) (.slice Ao165 y409.length co165) y409) := ⟨h4_⟩
    have n5_ : Aside0 (Kd.R Kd.bool 4 w171 w.heap.size (fun _ => True) v431 t430) := ⟨h5_⟩
    have n6_ : Aside0 (Kd.R k48 48 w171 w.heap.size (fun _ => True) v436 y435) := ⟨h6_⟩
    have n7_ : Aside0 (w171.heap[gb306]? = some (.cells #[.int .i64 t300, .int .i64 t301, .bool t302, .bool t303, .int .i64 t304, .int .i64 t305] 48 (0, 0))) := ⟨h7_⟩
    have n8_ : Aside0 (Below w.heap.size w w171) := ⟨h8_⟩
    clear HO375
    clear HO380
    clear HO385
    clear HO406
    clear HO411
    clear HO432
    clear BK306
    clear HB
    clear h0_ h1_ h2_ h3_ h4_ h5_ h6_ h7_ h8_
    have HO375 := n0_
    have HO380 := n1_
    have HO385 := n2_
    have HO406 := n3_
    have HO411 := n4_
    have HO432 := n5_
    have HO437 := n6_
    have BK306 := n7_
    have HB := n8_
    clear n0_ n1_ n2_ n3_ n4_ n5_ n6_ n7_ n8_
    have hHeld := trivial
    obtain ⟨Ao172, co172, eo172⟩ := Kd.R_slice HO437.out
    (first | subst eo172 | (injection eo172 with f1_ f2_ f3_; have f4_ := f1_.symm; have f5_ := f3_.symm; clear f1_ f2_ f3_; subst f4_; subst f5_))
    refine norm_ (a' := ?_) ?_ ?_
    rotate_left
    · simp only [putAll, Act.put, List.setIfInBounds_toArray, List.set_cons_zero, List.set_cons_succ]
      rfl
    refine one_ (i := 2) (N := some 90) #[true, true, true, false, false, false, false, false, false, false] rfl rfl (one_of HT_.out (by kernel_rfl)) (by decide) (fun K hK => ?_)
    refine goes_ Try.func14 (by kernel_rfl) rfl #[.int .i64 (-1), .slice Ao172 y435.length co172, .agg #[.int .i64 t438, .int .i64 t439, .int .i64 t440, .int .i64 t441, .bool t442, .bool t443, .bool t444, .int .i64 t445, .int .i64 t446, .int .i64 t447, .int .i64 t448, .int .i64 t449, .int .i64 t450, .int .i64 t451, .int .i64 t452, .int .i64 t453, .int .i64 t454, .int .i64 t455]] (by rfl) rfl rfl (by (try simp only [List.map_toArray, List.map_cons, List.map_nil]); first | done | rfl | (simp only [List.length_drop, List.length_take]; rfl)) ?_
    with_reducible refine (search_Best.calls (-1) _ _ y435 t438 t439 t440 t441 t442 t443 t444 t445 t446 t447 t448 t449 t450 t451 t452 t453 t454 t455 t456 t459 t460 _ ?side1 ?side2 A133.out).mono ?_
    (case side1 => repeat (first | exact (Kd.R_reads' HO437.out).2.2 | (with_reducible refine Kd.C_alloc ?_ _) | (with_reducible refine Kd.C_drewN ?_ _) | (with_reducible refine Kd.C_drew ?_)))
    (case side2 => exact (Kd.R_reads' HO437.out).2.1)
    rintro e w173 ⟨v457, rfl, ho0, hb⟩
    refine ⟨_, rfl, ?_⟩
    have n0_ := Aside0.mk (Kd.R_elder' (by (with_reducible repeat (first | apply Kd.R_alloc | apply Kd.R_drewN | apply Kd.R_drew)); exact HO375.out) (Kd.R_base ho0) hb)
    have n1_ := Aside0.mk (Kd.R_elder' (by (with_reducible repeat (first | apply Kd.R_alloc | apply Kd.R_drewN | apply Kd.R_drew)); exact HO380.out) (Kd.R_base ho0) hb)
    have n2_ := Aside0.mk (Kd.R_below (by (with_reducible repeat (first | apply Kd.R_alloc | apply Kd.R_drewN | apply Kd.R_drew)); exact HO385.out) hb)
    have n3_ := Aside0.mk (Kd.R_elder' (by (with_reducible repeat (first | apply Kd.R_alloc | apply Kd.R_drewN | apply Kd.R_drew)); exact HO406.out) (Kd.R_base ho0) hb)
    have n4_ := Aside0.mk (Kd.R_below (by (with_reducible repeat (first | apply Kd.R_alloc | apply Kd.R_drewN | apply Kd.R_drew)); exact HO411.out) hb)
    have n5_ := Aside0.mk (Kd.R_elder' (by (with_reducible repeat (first | apply Kd.R_alloc | apply Kd.R_drewN | apply Kd.R_drew)); exact HO432.out) (Kd.R_base ho0) hb)
    have n6_ := Aside0.mk (Kd.R_below (by (with_reducible repeat (first | apply Kd.R_alloc | apply Kd.R_drewN | apply Kd.R_drew)); exact HO437.out) hb)
    have n7_ := Aside0.mk (Kd.R_lower (Kd.R_new' (Kd.R_new' (Kd.R_new' (Kd.R_new' ho0 (Kd.R_lt (by (with_reducible repeat (first | apply Kd.R_alloc | apply Kd.R_drewN | apply Kd.R_drew)); exact HO375.out))) (Kd.R_lt (by (with_reducible repeat (first | apply Kd.R_alloc | apply Kd.R_drewN | apply Kd.R_drew)); exact HO380.out))) (Kd.R_lt (by (with_reducible repeat (first | apply Kd.R_alloc | apply Kd.R_drewN | apply Kd.R_drew)); exact HO406.out))) (Kd.R_lt (by (with_reducible repeat (first | apply Kd.R_alloc | apply Kd.R_drewN | apply Kd.R_drew)); exact HO432.out))) (below_size (by repeat (first | (with_reducible first | exact HB.out | apply below_alloc | apply pw_below_drewN | apply below_drew1 | refine below_set ?_ GE306.out) | exact HB.out))))
    have n8_ := Aside0.mk (blk_below (g := gb306) (o := .cells #[.int .i64 t300, .int .i64 t301, .bool t302, .bool t303, .int .i64 t304, .int .i64 t305] 48 (0, 0)) (by (with_reducible repeat (first | refine blk_drewN ?_ _ | refine blk_drew ?_ | refine blk_alloc ?_ _)); exact BK306.out) hb)
    have n9_ := Aside0.mk (below_step (by repeat (first | (with_reducible first | exact HB.out | apply below_alloc | apply pw_below_drewN | apply below_drew1 | refine below_set ?_ GE306.out) | exact HB.out)) hb)
    clear HO375
    clear HO380
    clear HO385
    clear HO406
    clear HO411
    clear HO432
    clear HO437
    clear BK306
    clear HB
    have HO375 := n0_
    have HO380 := n1_
    have HO385 := n2_
    have HO406 := n3_
    have HO411 := n4_
    have HO432 := n5_
    have HO437 := n6_
    have HO458 := n7_
    have BK306 := n8_
    have HB := n9_
    clear n0_ n1_ n2_ n3_ n4_ n5_ n6_ n7_ n8_ n9_
    (try clear hb)
    (try clear hb2)
    (try clear hk)
    (try clear hi)
    (try clear ho0)
    refine hK.out _ _ trivial (fun hHeld => ?_)
    clear hK K
    refine norm_ (a' := ?_) ?_ ?_
    rotate_left
    · show Act.put _ (some 90) _ = _
      simp only [Act.put, List.setIfInBounds_toArray, List.set_cons_zero, List.set_cons_succ, i64_w, i32_w]
      rfl
    refine pure_ (i := 3) (N := some 87) (v := ?_) (a' := ?_) #[true, true, true, true, false, false, false, false, false, false] rfl rfl (any_of HT_.out (by kernel_rfl)) (fun _ _ _ h => h) (Or.inl ⟨by rfl, ?_⟩) ?_ ?_
    rotate_left
    · intro w'
      go_simp
      with_reducible rfl
    rotate_left
    · simp only [Act.put, List.setIfInBounds_toArray, List.set_cons_zero, List.set_cons_succ, i64_w, i32_w]
      rfl
    refine pure_ (i := 4) (N := some 91) (v := ?_) (a' := ?_) #[true, true, true, true, true, false, false, false, false, false] rfl rfl (any_of HT_.out (by kernel_rfl)) (fun _ _ _ h => h) (Or.inl ⟨by rfl, ?_⟩) ?_ ?_
    rotate_left
    · intro w'
      go_simp
      with_reducible rfl
    rotate_left
    · simp only [Act.put, List.setIfInBounds_toArray, List.set_cons_zero, List.set_cons_succ, i64_w, i32_w]
      rfl
    refine pure_ (i := 5) (N := some 92) (v := ?_) (a' := ?_) #[true, true, true, true, true, true, false, false, false, false] rfl rfl (any_of HT_.out (by kernel_rfl)) (fun _ _ _ h => h) (Or.inl ⟨by rfl, ?_⟩) ?_ ?_
    rotate_left
    · intro w'
      go_simp
      with_reducible rfl
    rotate_left
    · simp only [Act.put, List.setIfInBounds_toArray, List.set_cons_zero, List.set_cons_succ, i64_w, i32_w]
      rfl
    refine pure_ (i := 6) (N := some 93) (v := ?_) (a' := ?_) #[true, true, true, true, true, true, true, false, false, false] rfl rfl (any_of HT_.out (by kernel_rfl)) (fun _ _ _ h => h) (Or.inl ⟨by rfl, ?_⟩) ?_ ?_
    rotate_left
    · intro w'
      go_simp
      with_reducible rfl
    rotate_left
    · simp only [Act.put, List.setIfInBounds_toArray, List.set_cons_zero, List.set_cons_succ, i64_w, i32_w]
      rfl
    refine pure_ (i := 7) (N := some 15) (v := ?_) (a' := ?_) #[true, true, true, true, true, true, true, true, false, false] rfl rfl (any_of HT_.out (by kernel_rfl)) (fun _ _ _ h => h) (Or.inl ⟨by rfl, ?_⟩) ?_ ?_
    rotate_left
    · intro w'
      go_simp
      with_reducible rfl
    rotate_left
    · simp only [Act.put, List.setIfInBounds_toArray, List.set_cons_zero, List.set_cons_succ, i64_w, i32_w]
      rfl
    refine pure_ (i := 8) (N := some 16) (v := ?_) (a' := ?_) #[true, true, true, true, true, true, true, true, true, false] rfl rfl (any_of HT_.out (by kernel_rfl)) (fun _ _ _ h => h) (Or.inl ⟨by rfl, ?_⟩) ?_ ?_
    rotate_left
    · intro w'
      go_simp
      with_reducible rfl
    rotate_left
    · simp only [Act.put, List.setIfInBounds_toArray, List.set_cons_zero, List.set_cons_succ, i64_w, i32_w]
      rfl
    refine pure_ (i := 9) (N := some 17) (v := ?_) (a' := ?_) #[true, true, true, true, true, true, true, true, true, true] rfl rfl (any_of HT_.out (by kernel_rfl)) (fun _ _ _ h => h) (Or.inl ⟨by rfl, ?_⟩) ?_ ?_
    rotate_left
    · intro w'
      go_simp
      with_reducible rfl
    rotate_left
    · simp only [Act.put, List.setIfInBounds_toArray, List.set_cons_zero, List.set_cons_succ, i64_w, i32_w]
      rfl
    refine done_ (done_of HT_.out (by kernel_rfl)) ?_
    try go_wp2
    have n0_ := Aside0.mk (Kd.R_drew HO375.out)
    have n1_ := Aside0.mk (Kd.R_drew HO380.out)
    have n2_ := Aside0.mk (Kd.R_drew HO385.out)
    have n3_ := Aside0.mk (Kd.R_drew HO406.out)
    have n4_ := Aside0.mk (Kd.R_drew HO411.out)
    have n5_ := Aside0.mk (Kd.R_drew HO432.out)
    have n6_ := Aside0.mk (Kd.R_drew HO437.out)
    have n7_ := Aside0.mk (Kd.R_drew HO458.out)
    have n8_ := Aside0.mk (blk_drew BK306.out)
    have n9_ := Aside0.mk (below_drew1 HB.out)
    clear HO375
    clear HO380
    clear HO385
    clear HO406
    clear HO411
    clear HO432
    clear HO437
    clear HO458
    clear BK306
    clear HB
    have HO375 := n0_
    have HO380 := n1_
    have HO385 := n2_
    have HO406 := n3_
    have HO411 := n4_
    have HO432 := n5_
    have HO437 := n6_
    have HO458 := n7_
    have BK306 := n8_
    have HB := n9_
    clear n0_ n1_ n2_ n3_ n4_ n5_ n6_ n7_ n8_ n9_
    refine start_ (n := 9) (S := fun w' => True) (ds := []) #[false, false, false, false, false, false, false, false, false] (by kernel_rfl) rfl rfl trivial (fun hHeld => ?_); refine with_tabW regletlaw14_SearchNames.tab8 regletlaw14_SearchNames.bits8 (fun HT_ HW_ => ?_)
    generalize w173.drew = w174 at HO375 HO380 HO385 HO406 HO411 HO432 HO437 HO458 BK306 HB hHeld ⊢
    refine inv_at [0, 1, 2, 3, 4, 5, 6, 7, 8] (fun a0_ b a w' => ∃ (v462 : Value), a = putSel a0_ b [(0, 95, .agg #[.int .i64 t300, .int .i64 t301, .bool t302, .bool t303, .int .i64 t304, .int .i64 t305]), (1, 96, v462), (2, 97, .agg #[.int .i64 t464, .int .i64 t465, .int .i64 t466, .int .i64 t467, .bool t468, .bool t469, .bool t470, .int .i64 t471, .int .i64 t472, .int .i64 t473, .int .i64 t474, .int .i64 t475, .int .i64 t476, .int .i64 t477, .int .i64 t478, .int .i64 t479, .int .i64 t480, .int .i64 t481]), (3, 98, .tuple #[.int .i64 t482, .int .i64 t483]), (4, 94, .tuple #[.int .i64 t482, .int .i64 t483]), (5, 99, .int .i64 t482), (6, 100, .int .i64 t483), (7, 18, .int .i64 t482), (8, 19, .int .i64 t483)] ∧ (Kd.R Kd.bool 4 w' w.heap.size (fun _ => True) v374 t373) ∧ (Kd.R Kd.bool 4 w' w.heap.size (fun _ => True) v379 t378) ∧ (Kd.R k48 48 w' w.heap.size (fun _ => True) (.slice Ao160 y383.length co160) y383) ∧ (Kd.R Kd.bool 4 w' w.heap.size (fun _ => True) v405 t404) ∧ (Kd.R k48 48 w' w.heap.size (fun _ => True) (.slice Ao165 y409.length co165) y409) ∧ (Kd.R Kd.bool 4 w' w.heap.size (fun _ => True) v431 t430) ∧ (Kd.R k48 48 w' w.heap.size (fun _ => True) (.slice Ao172 y435.length co172) y435) ∧ (Kd.R Kd.bool 4 w' w.heap.size (fun _ => True) v457 t456) ∧ (w'.heap[gb306]? = some (.cells #[.int .i64 t300, .int .i64 t301, .bool t302, .bool t303, .int .i64 t304, .int .i64 t305] 48 (0, 0))) ∧ (Below w.heap.size w w') ∧ (b 1 = true → Kd.R k48 48 w' w.heap.size (fun _ => True) v462 y461)) HT_.out HW_.out (by kernel_rfl) (by kernel_rfl) ?_ ?_ ?_
    · exact ⟨.bool false, by simp only [putSel, Bool.false_eq_true, if_false], (Kd.R_mono HO375.out (fun _ _ => trivial)), (Kd.R_mono HO380.out (fun _ _ => trivial)), (Kd.R_mono HO385.out (fun _ _ => trivial)), (Kd.R_mono HO406.out (fun _ _ => trivial)), (Kd.R_mono HO411.out (fun _ _ => trivial)), (Kd.R_mono HO432.out (fun _ _ => trivial)), (Kd.R_mono HO437.out (fun _ _ => trivial)), (Kd.R_mono HO458.out (fun _ _ => trivial)), BK306.out, HB.out, fun h_ => absurd h_ (by decide)⟩
    · skip
      clear BK306 HB HO375 HO380 HO385 HO406 HO411 HO432 HO437 HO458
      refine steps_cons ?_ ?_
      · rintro b a w' ⟨v462, ha, Q_HO375, Q_HO380, Q_HO385, Q_HO406, Q_HO411, Q_HO432, Q_HO437, Q_HO458, Q_BK306, Q_HB, Q_HO463⟩ hb_ hon hoff
        refine ⟨_, rfl, fun K hK => ?_⟩
        have e1 : a.tmps[1]? = some (.pointer (some ⟨gb306, 0, none⟩)) := by rw [ha]; exact (putSel_off rfl).trans rfl
        replace ha := Aside0.mk ha
        have HO375 := Aside0.mk Q_HO375
        have HO380 := Aside0.mk Q_HO380
        have HO385 := Aside0.mk Q_HO385
        have HO406 := Aside0.mk Q_HO406
        have HO411 := Aside0.mk Q_HO411
        have HO432 := Aside0.mk Q_HO432
        have HO437 := Aside0.mk Q_HO437
        have HO458 := Aside0.mk Q_HO458
        have BK306 := Aside0.mk Q_BK306
        have HB := Aside0.mk Q_HB
        have hc0_ : w'.cell? ⟨gb306, 0, none⟩ = some (.int .i64 t300) := (blk_cell BK306.out 0).trans rfl
        have hc1_ : w'.cell? ⟨gb306, 1, none⟩ = some (.int .i64 t301) := (blk_cell BK306.out 1).trans rfl
        have hc2_ : w'.cell? ⟨gb306, 2, none⟩ = some (.bool t302) := (blk_cell BK306.out 2).trans rfl
        have hc3_ : w'.cell? ⟨gb306, 3, none⟩ = some (.bool t303) := (blk_cell BK306.out 3).trans rfl
        have hc4_ : w'.cell? ⟨gb306, 4, none⟩ = some (.int .i64 t304) := (blk_cell BK306.out 4).trans rfl
        have hc5_ : w'.cell? ⟨gb306, 5, none⟩ = some (.int .i64 t305) := (blk_cell BK306.out 5).trans rfl
        refine value_ (w1 := w') (v := .agg #[.int .i64 t300, .int .i64 t301, .bool t302, .bool t303, .int .i64 t304, .int .i64 t305]) (by rfl) rfl ?_ ?_
        · go_simp
          (try simp only [i64_w])
          try rfl
        refine hK.out _ _ ⟨v462, (by rw [ha.out]; exact putSel_upk 0 hb_ rfl rfl rfl), Q_HO375, Q_HO380, Q_HO385, Q_HO406, Q_HO411, Q_HO432, Q_HO437, Q_HO458, Q_BK306, Q_HB, fun h0_ => absurd ((hoff 1 (by kernel_rfl)).symm.trans h0_) (by decide)⟩
      refine steps_cons ?_ ?_
      · rintro b a w' ⟨v462, ha, Q_HO375, Q_HO380, Q_HO385, Q_HO406, Q_HO411, Q_HO432, Q_HO437, Q_HO458, Q_BK306, Q_HB, Q_HO463⟩ hb_ hon hoff
        refine ⟨_, rfl, fun K hK => ?_⟩
        have e95 : a.tmps[95]? = some (.agg #[.int .i64 t300, .int .i64 t301, .bool t302, .bool t303, .int .i64 t304, .int .i64 t305]) := by rw [ha]; exact putSel_on (e := (0, 95, .agg #[.int .i64 t300, .int .i64 t301, .bool t302, .bool t303, .int .i64 t304, .int .i64 t305])) 0 rfl rfl (hon 0 (by kernel_rfl)) rfl
        replace ha := Aside0.mk ha
        have HO375 := Aside0.mk Q_HO375
        have HO380 := Aside0.mk Q_HO380
        have HO385 := Aside0.mk Q_HO385
        have HO406 := Aside0.mk Q_HO406
        have HO411 := Aside0.mk Q_HO411
        have HO432 := Aside0.mk Q_HO432
        have HO437 := Aside0.mk Q_HO437
        have HO458 := Aside0.mk Q_HO458
        have BK306 := Aside0.mk Q_BK306
        have HB := Aside0.mk Q_HB
        refine Kd.R_lit_step k48 _ 48 ?hg (N := 96) ?hd (xs := ([(⟨t300, t301, t302, t303, t304, t305⟩ : S48)] : List (S48))) (inner := [.int .i64 t300, .int .i64 t301, .bool t302, .bool t303, .int .i64 t304, .int .i64 t305]) (ok := fun _ => True) (okp := fun _ => True) ?hr ?hp (fun _ hk => hk) trivial (Below.refl _ _) (Nat.le_refl _) (by simp) ?_; (case hd => rfl); (case hg => rfl); (case hr => first | (go_simp; done) | (go_simp; rfl)); (case hp => exact (Reps.c6 (show Kd.M k48 _ _ _ (⟨t300, t301, t302, t303, t304, t305⟩ : S48) [.int .i64 t300, .int .i64 t301, .bool t302, .bool t303, .int .i64 t304, .int .i64 t305] from (k48_mkM _ _ _ (⟨t300, t301, t302, t303, t304, t305⟩ : S48) )) (Reps.none _ _)))
        intro v462 w175 ho176 hb hg_ hnew_
        clear hg_ hnew_
        (first | rw [← Ny461.out] at ho176 | (simp only [Int.reduceToNat] at ho176; rw [← Ny461.out] at ho176))
        have n0_ := Aside0.mk (Kd.R_below (HO375.out) hb)
        have n1_ := Aside0.mk (Kd.R_below (HO380.out) hb)
        have n2_ := Aside0.mk (Kd.R_elder' (HO385.out) (Kd.R_base ho176) hb)
        have n3_ := Aside0.mk (Kd.R_below (HO406.out) hb)
        have n4_ := Aside0.mk (Kd.R_elder' (HO411.out) (Kd.R_base ho176) hb)
        have n5_ := Aside0.mk (Kd.R_below (HO432.out) hb)
        have n6_ := Aside0.mk (Kd.R_elder' (HO437.out) (Kd.R_base ho176) hb)
        have n7_ := Aside0.mk (Kd.R_below (HO458.out) hb)
        have n8_ := Aside0.mk (Kd.R_lower (Kd.R_newB (Kd.R_new' (Kd.R_new' (Kd.R_new' ho176 (Kd.R_lt (HO385.out))) (Kd.R_lt (HO411.out))) (Kd.R_lt (HO437.out))) (g := gb306) (o := .cells #[.int .i64 t300, .int .i64 t301, .bool t302, .bool t303, .int .i64 t304, .int .i64 t305] 48 (0, 0)) BK306.out) (below_size HB.out))
        have n9_ := Aside0.mk (blk_below (g := gb306) (o := .cells #[.int .i64 t300, .int .i64 t301, .bool t302, .bool t303, .int .i64 t304, .int .i64 t305] 48 (0, 0)) BK306.out hb)
        have n10_ := Aside0.mk (below_step HB.out hb)
        clear HO375
        clear HO380
        clear HO385
        clear HO406
        clear HO411
        clear HO432
        clear HO437
        clear HO458
        clear BK306
        clear HB
        have HO375 := n0_
        have HO380 := n1_
        have HO385 := n2_
        have HO406 := n3_
        have HO411 := n4_
        have HO432 := n5_
        have HO437 := n6_
        have HO458 := n7_
        have HO463 := n8_
        have BK306 := n9_
        have HB := n10_
        clear n0_ n1_ n2_ n3_ n4_ n5_ n6_ n7_ n8_ n9_ n10_
        clear hb ho176
        refine hK.out _ _ ⟨v462, (by rw [ha.out]; exact putSel_upk 1 hb_ rfl rfl rfl), (Kd.R_mono HO375.out (fun _ _ => trivial)), (Kd.R_mono HO380.out (fun _ _ => trivial)), (Kd.R_mono HO385.out (fun _ _ => trivial)), (Kd.R_mono HO406.out (fun _ _ => trivial)), (Kd.R_mono HO411.out (fun _ _ => trivial)), (Kd.R_mono HO432.out (fun _ _ => trivial)), (Kd.R_mono HO437.out (fun _ _ => trivial)), (Kd.R_mono HO458.out (fun _ _ => trivial)), BK306.out, HB.out, fun _ => (Kd.R_mono HO463.out (fun _ _ => trivial))⟩
      refine steps_cons ?_ ?_
      · rintro b a w' ⟨v462, ha, Q_HO375, Q_HO380, Q_HO385, Q_HO406, Q_HO411, Q_HO432, Q_HO437, Q_HO458, Q_BK306, Q_HB, Q_HO463⟩ hb_ hon hoff
        refine ⟨_, rfl, fun K hK => ?_⟩
        replace ha := Aside0.mk ha
        have HO375 := Aside0.mk Q_HO375
        have HO380 := Aside0.mk Q_HO380
        have HO385 := Aside0.mk Q_HO385
        have HO406 := Aside0.mk Q_HO406
        have HO411 := Aside0.mk Q_HO411
        have HO432 := Aside0.mk Q_HO432
        have HO437 := Aside0.mk Q_HO437
        have HO458 := Aside0.mk Q_HO458
        have BK306 := Aside0.mk Q_BK306
        have HB := Aside0.mk Q_HB
        refine goes_ Try.func21 (by kernel_rfl) rfl #[] (by rfl) rfl rfl (by first | (simp only [List.map_toArray, List.map_cons, List.map_nil, Act.eval, Array.getD_eq_getD_getElem?, Option.getD_some]; done) | (simp only [List.map_toArray, List.map_cons, List.map_nil, Act.eval, Array.getD_eq_getD_getElem?, Option.getD_some]; rfl)) ?_
        with_reducible refine (regletlaw14_ten.calls  t464 t465 t466 t467 t468 t469 t470 t471 t472 t473 t474 t475 t476 t477 t478 t479 t480 t481 _ A134.out).mono ?_
        rintro e w175 ⟨rfl, hb⟩
        refine ⟨_, rfl, ?_⟩
        have n0_ := Aside0.mk (Kd.R_below (HO375.out) hb)
        have n1_ := Aside0.mk (Kd.R_below (HO380.out) hb)
        have n2_ := Aside0.mk (Kd.R_below (HO385.out) hb)
        have n3_ := Aside0.mk (Kd.R_below (HO406.out) hb)
        have n4_ := Aside0.mk (Kd.R_below (HO411.out) hb)
        have n5_ := Aside0.mk (Kd.R_below (HO432.out) hb)
        have n6_ := Aside0.mk (Kd.R_below (HO437.out) hb)
        have n7_ := Aside0.mk (Kd.R_below (HO458.out) hb)
        have n8_ := Aside0.mk (blk_below (g := gb306) (o := .cells #[.int .i64 t300, .int .i64 t301, .bool t302, .bool t303, .int .i64 t304, .int .i64 t305] 48 (0, 0)) BK306.out hb)
        have n9_ := Aside0.mk (below_step HB.out hb)
        have z_HO463 := fun (h0_ : b 1 = true) => (show Kd.R k48 48 w175 w.heap.size (fun _ => True) v462 y461 from by first | exact (Kd.R_below ((Q_HO463 h0_)) hb) | exact Kd.R_mono (Kd.R_below ((Q_HO463 h0_)) hb) (fun _ _ => trivial))
        clear HO375
        clear HO380
        clear HO385
        clear HO406
        clear HO411
        clear HO432
        clear HO437
        clear HO458
        clear BK306
        clear HB
        have HO375 := n0_
        have HO380 := n1_
        have HO385 := n2_
        have HO406 := n3_
        have HO411 := n4_
        have HO432 := n5_
        have HO437 := n6_
        have HO458 := n7_
        have BK306 := n8_
        have HB := n9_
        clear n0_ n1_ n2_ n3_ n4_ n5_ n6_ n7_ n8_ n9_
        (try clear hb)
        (try clear hb2)
        (try clear hk)
        (try clear hi)
        refine hK.out _ _ ⟨v462, (by rw [ha.out]; exact putSel_upk 2 hb_ rfl rfl rfl), (Kd.R_mono HO375.out (fun _ _ => trivial)), (Kd.R_mono HO380.out (fun _ _ => trivial)), (Kd.R_mono HO385.out (fun _ _ => trivial)), (Kd.R_mono HO406.out (fun _ _ => trivial)), (Kd.R_mono HO411.out (fun _ _ => trivial)), (Kd.R_mono HO432.out (fun _ _ => trivial)), (Kd.R_mono HO437.out (fun _ _ => trivial)), (Kd.R_mono HO458.out (fun _ _ => trivial)), BK306.out, HB.out, z_HO463⟩
      refine steps_cons ?_ ?_
      · rintro b a w' ⟨v462, ha, Q_HO375, Q_HO380, Q_HO385, Q_HO406, Q_HO411, Q_HO432, Q_HO437, Q_HO458, Q_BK306, Q_HB, Q_HO463⟩ hb_ hon hoff
        refine ⟨_, rfl, fun K hK => ?_⟩
        have e96 : a.tmps[96]? = some (v462) := by rw [ha]; exact putSel_on (e := (1, 96, v462)) 1 rfl rfl (hon 1 (by kernel_rfl)) rfl
        have e97 : a.tmps[97]? = some (.agg #[.int .i64 t464, .int .i64 t465, .int .i64 t466, .int .i64 t467, .bool t468, .bool t469, .bool t470, .int .i64 t471, .int .i64 t472, .int .i64 t473, .int .i64 t474, .int .i64 t475, .int .i64 t476, .int .i64 t477, .int .i64 t478, .int .i64 t479, .int .i64 t480, .int .i64 t481]) := by rw [ha]; exact putSel_on (e := (2, 97, .agg #[.int .i64 t464, .int .i64 t465, .int .i64 t466, .int .i64 t467, .bool t468, .bool t469, .bool t470, .int .i64 t471, .int .i64 t472, .int .i64 t473, .int .i64 t474, .int .i64 t475, .int .i64 t476, .int .i64 t477, .int .i64 t478, .int .i64 t479, .int .i64 t480, .int .i64 t481])) 2 rfl rfl (hon 2 (by kernel_rfl)) rfl
        replace ha := Aside0.mk ha
        have HO375 := Aside0.mk Q_HO375
        have HO380 := Aside0.mk Q_HO380
        have HO385 := Aside0.mk Q_HO385
        have HO406 := Aside0.mk Q_HO406
        have HO411 := Aside0.mk Q_HO411
        have HO432 := Aside0.mk Q_HO432
        have HO437 := Aside0.mk Q_HO437
        have HO458 := Aside0.mk Q_HO458
        have BK306 := Aside0.mk Q_BK306
        have HB := Aside0.mk Q_HB
        have HO463 := Aside0.mk (Q_HO463 (hon 1 (by kernel_rfl)))
        obtain ⟨Ao179, co179, eo179⟩ := Kd.R_slice HO463.out
        (first | subst eo179 | (injection eo179 with f1_ f2_ f3_; have f4_ := f1_.symm; have f5_ := f3_.symm; clear f1_ f2_ f3_; subst f4_; subst f5_))
        refine goes_ Try.func9 (by kernel_rfl) rfl #[.int .i64 4, .slice Ao179 y461.length co179, .slice none 0 0, .agg #[.int .i64 t464, .int .i64 t465, .int .i64 t466, .int .i64 t467, .bool t468, .bool t469, .bool t470, .int .i64 t471, .int .i64 t472, .int .i64 t473, .int .i64 t474, .int .i64 t475, .int .i64 t476, .int .i64 t477, .int .i64 t478, .int .i64 t479, .int .i64 t480, .int .i64 t481]] (by rfl) rfl rfl (by first | (simp only [List.map_toArray, List.map_cons, List.map_nil, Act.eval, Array.getD_eq_getD_getElem?, Option.getD_some, e96, e97]; done) | (simp only [List.map_toArray, List.map_cons, List.map_nil, Act.eval, Array.getD_eq_getD_getElem?, Option.getD_some, e96, e97]; rfl)) ?_
        refine (search_Cost.calls k 4 _ _ y461 _ _ ([] : List Bool) t464 t465 t466 t467 t468 t469 t470 t471 t472 t473 t474 t475 t476 t477 t478 t479 t480 t481 t482 t483 _ ?side1 ?side2 ?side3 ?side4 A135.out).mono ?_
        (case side1 => repeat (first | exact (Kd.R_reads' HO463.out).2.2 | (with_reducible refine Kd.C_alloc ?_ _) | (with_reducible refine Kd.C_drewN ?_ _) | (with_reducible refine Kd.C_drew ?_)))
        (case side2 => exact (Kd.R_reads' HO463.out).2.1)
        (case side3 => exact Kd.C_nil _ _)
        (case side4 => exact Nat.le_refl _)
        rintro e w180 ⟨rfl, hb⟩
        refine ⟨_, rfl, ?_⟩
        have n0_ := Aside0.mk (Kd.R_below (HO375.out) hb)
        have n1_ := Aside0.mk (Kd.R_below (HO380.out) hb)
        have n2_ := Aside0.mk (Kd.R_below (HO385.out) hb)
        have n3_ := Aside0.mk (Kd.R_below (HO406.out) hb)
        have n4_ := Aside0.mk (Kd.R_below (HO411.out) hb)
        have n5_ := Aside0.mk (Kd.R_below (HO432.out) hb)
        have n6_ := Aside0.mk (Kd.R_below (HO437.out) hb)
        have n7_ := Aside0.mk (Kd.R_below (HO458.out) hb)
        have n8_ := Aside0.mk (Kd.R_below (HO463.out) hb)
        have n9_ := Aside0.mk (blk_below (g := gb306) (o := .cells #[.int .i64 t300, .int .i64 t301, .bool t302, .bool t303, .int .i64 t304, .int .i64 t305] 48 (0, 0)) BK306.out hb)
        have n10_ := Aside0.mk (below_step HB.out hb)
        clear HO375
        clear HO380
        clear HO385
        clear HO406
        clear HO411
        clear HO432
        clear HO437
        clear HO458
        clear HO463
        clear BK306
        clear HB
        have HO375 := n0_
        have HO380 := n1_
        have HO385 := n2_
        have HO406 := n3_
        have HO411 := n4_
        have HO432 := n5_
        have HO437 := n6_
        have HO458 := n7_
        have HO463 := n8_
        have BK306 := n9_
        have HB := n10_
        clear n0_ n1_ n2_ n3_ n4_ n5_ n6_ n7_ n8_ n9_ n10_
        (try clear hb)
        (try clear hb2)
        (try clear hk)
        (try clear hi)
        refine hK.out _ _ ⟨.slice Ao179 y461.length co179, (by rw [ha.out]; exact putSel_upk 3 hb_ rfl rfl rfl), (Kd.R_mono HO375.out (fun _ _ => trivial)), (Kd.R_mono HO380.out (fun _ _ => trivial)), (Kd.R_mono HO385.out (fun _ _ => trivial)), (Kd.R_mono HO406.out (fun _ _ => trivial)), (Kd.R_mono HO411.out (fun _ _ => trivial)), (Kd.R_mono HO432.out (fun _ _ => trivial)), (Kd.R_mono HO437.out (fun _ _ => trivial)), (Kd.R_mono HO458.out (fun _ _ => trivial)), BK306.out, HB.out, fun _ => (Kd.R_mono HO463.out (fun _ _ => trivial))⟩
      refine steps_cons ?_ ?_
      · rintro b a w' ⟨v462, ha, Q_HO375, Q_HO380, Q_HO385, Q_HO406, Q_HO411, Q_HO432, Q_HO437, Q_HO458, Q_BK306, Q_HB, Q_HO463⟩ hb_ hon hoff
        refine ⟨_, rfl, fun K hK => ?_⟩
        have e98 : a.tmps[98]? = some (.tuple #[.int .i64 t482, .int .i64 t483]) := by rw [ha]; exact putSel_on (e := (3, 98, .tuple #[.int .i64 t482, .int .i64 t483])) 3 rfl rfl (hon 3 (by kernel_rfl)) rfl
        replace ha := Aside0.mk ha
        have HO375 := Aside0.mk Q_HO375
        have HO380 := Aside0.mk Q_HO380
        have HO385 := Aside0.mk Q_HO385
        have HO406 := Aside0.mk Q_HO406
        have HO411 := Aside0.mk Q_HO411
        have HO432 := Aside0.mk Q_HO432
        have HO437 := Aside0.mk Q_HO437
        have HO458 := Aside0.mk Q_HO458
        have BK306 := Aside0.mk Q_BK306
        have HB := Aside0.mk Q_HB
        have HO463 := Aside0.mk (Q_HO463 (hon 1 (by kernel_rfl)))
        refine value_ (w1 := w') (v := .tuple #[.int .i64 t482, .int .i64 t483]) (by rfl) rfl ?_ ?_
        · go_simp
          (try simp only [i64_w])
          try rfl
        refine hK.out _ _ ⟨v462, (by rw [ha.out]; exact putSel_upk 4 hb_ rfl rfl rfl), Q_HO375, Q_HO380, Q_HO385, Q_HO406, Q_HO411, Q_HO432, Q_HO437, Q_HO458, Q_BK306, Q_HB, Q_HO463⟩
      refine steps_cons ?_ ?_
      · rintro b a w' ⟨v462, ha, Q_HO375, Q_HO380, Q_HO385, Q_HO406, Q_HO411, Q_HO432, Q_HO437, Q_HO458, Q_BK306, Q_HB, Q_HO463⟩ hb_ hon hoff
        refine ⟨_, rfl, fun K hK => ?_⟩
        have e94 : a.tmps[94]? = some (.tuple #[.int .i64 t482, .int .i64 t483]) := by rw [ha]; exact putSel_on (e := (4, 94, .tuple #[.int .i64 t482, .int .i64 t483])) 4 rfl rfl (hon 4 (by kernel_rfl)) rfl
        replace ha := Aside0.mk ha
        have HO375 := Aside0.mk Q_HO375
        have HO380 := Aside0.mk Q_HO380
        have HO385 := Aside0.mk Q_HO385
        have HO406 := Aside0.mk Q_HO406
        have HO411 := Aside0.mk Q_HO411
        have HO432 := Aside0.mk Q_HO432
        have HO437 := Aside0.mk Q_HO437
        have HO458 := Aside0.mk Q_HO458
        have BK306 := Aside0.mk Q_BK306
        have HB := Aside0.mk Q_HB
        have HO463 := Aside0.mk (Q_HO463 (hon 1 (by kernel_rfl)))
        refine value_ (w1 := w') (v := .int .i64 t482) (by rfl) rfl ?_ ?_
        · go_simp
          (try simp only [i64_w])
          try rfl
        refine hK.out _ _ ⟨v462, (by rw [ha.out]; exact putSel_upk 5 hb_ rfl rfl rfl), Q_HO375, Q_HO380, Q_HO385, Q_HO406, Q_HO411, Q_HO432, Q_HO437, Q_HO458, Q_BK306, Q_HB, Q_HO463⟩
      refine steps_cons ?_ ?_
      · rintro b a w' ⟨v462, ha, Q_HO375, Q_HO380, Q_HO385, Q_HO406, Q_HO411, Q_HO432, Q_HO437, Q_HO458, Q_BK306, Q_HB, Q_HO463⟩ hb_ hon hoff
        refine ⟨_, rfl, fun K hK => ?_⟩
        have e94 : a.tmps[94]? = some (.tuple #[.int .i64 t482, .int .i64 t483]) := by rw [ha]; exact putSel_on (e := (4, 94, .tuple #[.int .i64 t482, .int .i64 t483])) 4 rfl rfl (hon 4 (by kernel_rfl)) rfl
        replace ha := Aside0.mk ha
        have HO375 := Aside0.mk Q_HO375
        have HO380 := Aside0.mk Q_HO380
        have HO385 := Aside0.mk Q_HO385
        have HO406 := Aside0.mk Q_HO406
        have HO411 := Aside0.mk Q_HO411
        have HO432 := Aside0.mk Q_HO432
        have HO437 := Aside0.mk Q_HO437
        have HO458 := Aside0.mk Q_HO458
        have BK306 := Aside0.mk Q_BK306
        have HB := Aside0.mk Q_HB
        have HO463 := Aside0.mk (Q_HO463 (hon 1 (by kernel_rfl)))
        refine value_ (w1 := w') (v := .int .i64 t483) (by rfl) rfl ?_ ?_
        · go_simp
          (try simp only [i64_w])
          try rfl
        refine hK.out _ _ ⟨v462, (by rw [ha.out]; exact putSel_upk 6 hb_ rfl rfl rfl), Q_HO375, Q_HO380, Q_HO385, Q_HO406, Q_HO411, Q_HO432, Q_HO437, Q_HO458, Q_BK306, Q_HB, Q_HO463⟩
      refine steps_cons ?_ ?_
      · rintro b a w' ⟨v462, ha, Q_HO375, Q_HO380, Q_HO385, Q_HO406, Q_HO411, Q_HO432, Q_HO437, Q_HO458, Q_BK306, Q_HB, Q_HO463⟩ hb_ hon hoff
        refine ⟨_, rfl, fun K hK => ?_⟩
        have e99 : a.tmps[99]? = some (.int .i64 t482) := by rw [ha]; exact putSel_on (e := (5, 99, .int .i64 t482)) 5 rfl rfl (hon 5 (by kernel_rfl)) rfl
        replace ha := Aside0.mk ha
        have HO375 := Aside0.mk Q_HO375
        have HO380 := Aside0.mk Q_HO380
        have HO385 := Aside0.mk Q_HO385
        have HO406 := Aside0.mk Q_HO406
        have HO411 := Aside0.mk Q_HO411
        have HO432 := Aside0.mk Q_HO432
        have HO437 := Aside0.mk Q_HO437
        have HO458 := Aside0.mk Q_HO458
        have BK306 := Aside0.mk Q_BK306
        have HB := Aside0.mk Q_HB
        have HO463 := Aside0.mk (Q_HO463 (hon 1 (by kernel_rfl)))
        refine value_ (w1 := w') (v := .int .i64 t482) (by rfl) rfl ?_ ?_
        · go_simp
          (try simp only [i64_w])
          try rfl
        refine hK.out _ _ ⟨v462, (by rw [ha.out]; exact putSel_upk 7 hb_ rfl rfl rfl), Q_HO375, Q_HO380, Q_HO385, Q_HO406, Q_HO411, Q_HO432, Q_HO437, Q_HO458, Q_BK306, Q_HB, Q_HO463⟩
      refine steps_cons ?_ ?_
      · rintro b a w' ⟨v462, ha, Q_HO375, Q_HO380, Q_HO385, Q_HO406, Q_HO411, Q_HO432, Q_HO437, Q_HO458, Q_BK306, Q_HB, Q_HO463⟩ hb_ hon hoff
        refine ⟨_, rfl, fun K hK => ?_⟩
        have e100 : a.tmps[100]? = some (.int .i64 t483) := by rw [ha]; exact putSel_on (e := (6, 100, .int .i64 t483)) 6 rfl rfl (hon 6 (by kernel_rfl)) rfl
        replace ha := Aside0.mk ha
        have HO375 := Aside0.mk Q_HO375
        have HO380 := Aside0.mk Q_HO380
        have HO385 := Aside0.mk Q_HO385
        have HO406 := Aside0.mk Q_HO406
        have HO411 := Aside0.mk Q_HO411
        have HO432 := Aside0.mk Q_HO432
        have HO437 := Aside0.mk Q_HO437
        have HO458 := Aside0.mk Q_HO458
        have BK306 := Aside0.mk Q_BK306
        have HB := Aside0.mk Q_HB
        have HO463 := Aside0.mk (Q_HO463 (hon 1 (by kernel_rfl)))
        refine value_ (w1 := w') (v := .int .i64 t483) (by rfl) rfl ?_ ?_
        · go_simp
          (try simp only [i64_w])
          try rfl
        refine hK.out _ _ ⟨v462, (by rw [ha.out]; exact putSel_upk 8 hb_ rfl rfl rfl), Q_HO375, Q_HO380, Q_HO385, Q_HO406, Q_HO411, Q_HO432, Q_HO437, Q_HO458, Q_BK306, Q_HB, Q_HO463⟩
      exact steps_nil
    rintro b a w180 hall ⟨v462, ha, Q_HO375, Q_HO380, Q_HO385, Q_HO406, Q_HO411, Q_HO432, Q_HO437, Q_HO458, Q_BK306, Q_HB, Q_HO463⟩
    clear BK306 HB HO375 HO380 HO385 HO406 HO411 HO432 HO437 HO458
    have hb0_ := hall 0 (by kernel_rfl)
    have hb1_ := hall 1 (by kernel_rfl)
    have hb2_ := hall 2 (by kernel_rfl)
    have hb3_ := hall 3 (by kernel_rfl)
    have hb4_ := hall 4 (by kernel_rfl)
    have hb5_ := hall 5 (by kernel_rfl)
    have hb6_ := hall 6 (by kernel_rfl)
    have hb7_ := hall 7 (by kernel_rfl)
    have hb8_ := hall 8 (by kernel_rfl)
    subst ha
    simp only [putSel, hb0_, hb1_, hb2_, hb3_, hb4_, hb5_, hb6_, hb7_, hb8_, if_true, Act.put, List.setIfInBounds_toArray, List.set_cons_zero, List.set_cons_succ]
    have HO375 := Aside0.mk Q_HO375
    clear Q_HO375
    have HO380 := Aside0.mk Q_HO380
    clear Q_HO380
    have HO385 := Aside0.mk Q_HO385
    clear Q_HO385
    have HO406 := Aside0.mk Q_HO406
    clear Q_HO406
    have HO411 := Aside0.mk Q_HO411
    clear Q_HO411
    have HO432 := Aside0.mk Q_HO432
    clear Q_HO432
    have HO437 := Aside0.mk Q_HO437
    clear Q_HO437
    have HO458 := Aside0.mk Q_HO458
    clear Q_HO458
    have BK306 := Aside0.mk Q_BK306
    clear Q_BK306
    have HB := Aside0.mk Q_HB
    clear Q_HB
    have HO463 := Aside0.mk (Q_HO463 hb1_)
    clear Q_HO463
    clear hall hb0_ hb1_ hb2_ hb3_ hb4_ hb5_ hb6_ hb7_ hb8_
    try go_wp2_with (first | ((with_reducible refine gate_callee (f := 19) rfl ?_); refine goesL_ (some 102) rfl rfl Try.func19 (by kernel_rfl) rfl #[.bool true, .bool true] rfl (by (try simp only [List.map_toArray, List.map_cons, List.map_nil]); first | done | rfl | (simp only [List.length_drop, List.length_take]; rfl)) ?_; (with_reducible refine (regletlaw14_gap.calls true true t484 t485 t486 t487 t488 t489 _ A136.out).mono ?_); rintro e w181 ⟨rfl, hb⟩; refine ⟨_, rfl, ?_⟩; have n0_ := Aside0.mk (Kd.R_below (by (with_reducible repeat (first | apply Kd.R_alloc | apply Kd.R_drewN | apply Kd.R_drew)); exact HO375.out) hb); have n1_ := Aside0.mk (Kd.R_below (by (with_reducible repeat (first | apply Kd.R_alloc | apply Kd.R_drewN | apply Kd.R_drew)); exact HO380.out) hb); have n2_ := Aside0.mk (Kd.R_below (by (with_reducible repeat (first | apply Kd.R_alloc | apply Kd.R_drewN | apply Kd.R_drew)); exact HO385.out) hb); have n3_ := Aside0.mk (Kd.R_below (by (with_reducible repeat (first | apply Kd.R_alloc | apply Kd.R_drewN | apply Kd.R_drew)); exact HO406.out) hb); have n4_ := Aside0.mk (Kd.R_below (by (with_reducible repeat (first | apply Kd.R_alloc | apply Kd.R_drewN | apply Kd.R_drew)); exact HO411.out) hb); have n5_ := Aside0.mk (Kd.R_below (by (with_reducible repeat (first | apply Kd.R_alloc | apply Kd.R_drewN | apply Kd.R_drew)); exact HO432.out) hb); have n6_ := Aside0.mk (Kd.R_below (by (with_reducible repeat (first | apply Kd.R_alloc | apply Kd.R_drewN | apply Kd.R_drew)); exact HO437.out) hb); have n7_ := Aside0.mk (Kd.R_below (by (with_reducible repeat (first | apply Kd.R_alloc | apply Kd.R_drewN | apply Kd.R_drew)); exact HO458.out) hb); have n8_ := Aside0.mk (Kd.R_below (by (with_reducible repeat (first | apply Kd.R_alloc | apply Kd.R_drewN | apply Kd.R_drew)); exact HO463.out) hb); have n9_ := Aside0.mk (blk_below (g := gb306) (o := .cells #[.int .i64 t300, .int .i64 t301, .bool t302, .bool t303, .int .i64 t304, .int .i64 t305] 48 (0, 0)) (by (with_reducible repeat (first | refine blk_drewN ?_ _ | refine blk_drew ?_ | refine blk_alloc ?_ _)); exact BK306.out) hb); have n10_ := Aside0.mk (below_step (by repeat (first | (with_reducible first | exact HB.out | apply below_alloc | apply pw_below_drewN | apply below_drew1 | refine below_set ?_ GE306.out) | exact HB.out)) hb); clear HO375; clear HO380; clear HO385; clear HO406; clear HO411; clear HO432; clear HO437; clear HO458; clear HO463; clear BK306; clear HB; have HO375 := n0_; have HO380 := n1_; have HO385 := n2_; have HO406 := n3_; have HO411 := n4_; have HO432 := n5_; have HO437 := n6_; have HO458 := n7_; have HO463 := n8_; have BK306 := n9_; have HB := n10_; clear n0_ n1_ n2_ n3_ n4_ n5_ n6_ n7_ n8_ n9_ n10_; (try clear hb); (try clear hb2); (try clear hk); (try clear hi)) | ((with_reducible refine gate_dst (N := 103) rfl ?_); (try (refine gate_guard (by rfl) ?_; dsimp only)); refine Kd.R_lit k48 _ 48 ?hg (N := 103) ?hd (xs := ([(⟨t484, t485, t486, t487, t488, t489⟩ : S48)] : List (S48))) (inner := [.int .i64 t484, .int .i64 t485, .bool t486, .bool t487, .int .i64 t488, .int .i64 t489]) (ok := fun _ => True) (okp := fun _ => True) ?hr ?hp (fun _ hk => hk) trivial (Below.refl _ _) (Nat.le_refl _) (by simp) ?_; (case hd => rfl); (case hg => rfl); (case hr => first | (go_simp; done) | (go_simp; rfl)); (case hp => exact (Reps.c6 (show Kd.M k48 _ _ _ (⟨t484, t485, t486, t487, t488, t489⟩ : S48) [.int .i64 t484, .int .i64 t485, .bool t486, .bool t487, .int .i64 t488, .int .i64 t489] from (k48_mkM _ _ _ (⟨t484, t485, t486, t487, t488, t489⟩ : S48) )) (Reps.none _ _))); intro v491 w182 ho183 hb hg_ hnew_; clear hg_ hnew_; (first | rw [← Ny490.out] at ho183 | (simp only [Int.reduceToNat] at ho183; rw [← Ny490.out] at ho183)); have n0_ := Aside0.mk (Kd.R_below (by (with_reducible repeat (first | apply Kd.R_alloc | apply Kd.R_drewN | apply Kd.R_drew)); exact HO375.out) hb); have n1_ := Aside0.mk (Kd.R_below (by (with_reducible repeat (first | apply Kd.R_alloc | apply Kd.R_drewN | apply Kd.R_drew)); exact HO380.out) hb); have n2_ := Aside0.mk (Kd.R_elder' (by (with_reducible repeat (first | apply Kd.R_alloc | apply Kd.R_drewN | apply Kd.R_drew)); exact HO385.out) (Kd.R_base ho183) hb); have n3_ := Aside0.mk (Kd.R_below (by (with_reducible repeat (first | apply Kd.R_alloc | apply Kd.R_drewN | apply Kd.R_drew)); exact HO406.out) hb); have n4_ := Aside0.mk (Kd.R_elder' (by (with_reducible repeat (first | apply Kd.R_alloc | apply Kd.R_drewN | apply Kd.R_drew)); exact HO411.out) (Kd.R_base ho183) hb); have n5_ := Aside0.mk (Kd.R_below (by (with_reducible repeat (first | apply Kd.R_alloc | apply Kd.R_drewN | apply Kd.R_drew)); exact HO432.out) hb); have n6_ := Aside0.mk (Kd.R_elder' (by (with_reducible repeat (first | apply Kd.R_alloc | apply Kd.R_drewN | apply Kd.R_drew)); exact HO437.out) (Kd.R_base ho183) hb); have n7_ := Aside0.mk (Kd.R_below (by (with_reducible repeat (first | apply Kd.R_alloc | apply Kd.R_drewN | apply Kd.R_drew)); exact HO458.out) hb); have n8_ := Aside0.mk (Kd.R_elder' (by (with_reducible repeat (first | apply Kd.R_alloc | apply Kd.R_drewN | apply Kd.R_drew)); exact HO463.out) (Kd.R_base ho183) hb); have n9_ := Aside0.mk (Kd.R_lower (Kd.R_newB (Kd.R_new' (Kd.R_new' (Kd.R_new' (Kd.R_new' ho183 (Kd.R_lt (by (with_reducible repeat (first | apply Kd.R_alloc | apply Kd.R_drewN | apply Kd.R_drew)); exact HO385.out))) (Kd.R_lt (by (with_reducible repeat (first | apply Kd.R_alloc | apply Kd.R_drewN | apply Kd.R_drew)); exact HO411.out))) (Kd.R_lt (by (with_reducible repeat (first | apply Kd.R_alloc | apply Kd.R_drewN | apply Kd.R_drew)); exact HO437.out))) (Kd.R_lt (by (with_reducible repeat (first | apply Kd.R_alloc | apply Kd.R_drewN | apply Kd.R_drew)); exact HO463.out))) (g := gb306) (o := .cells #[.int .i64 t300, .int .i64 t301, .bool t302, .bool t303, .int .i64 t304, .int .i64 t305] 48 (0, 0)) (by (with_reducible repeat (first | refine blk_drewN ?_ _ | refine blk_drew ?_ | refine blk_alloc ?_ _)); exact BK306.out)) (below_size (by repeat (first | (with_reducible first | exact HB.out | apply below_alloc | apply pw_below_drewN | apply below_drew1 | refine below_set ?_ GE306.out) | exact HB.out)))); have n10_ := Aside0.mk (blk_below (g := gb306) (o := .cells #[.int .i64 t300, .int .i64 t301, .bool t302, .bool t303, .int .i64 t304, .int .i64 t305] 48 (0, 0)) (by (with_reducible repeat (first | refine blk_drewN ?_ _ | refine blk_drew ?_ | refine blk_alloc ?_ _)); exact BK306.out) hb); have n11_ := Aside0.mk (below_step (by repeat (first | (with_reducible first | exact HB.out | apply below_alloc | apply pw_below_drewN | apply below_drew1 | refine below_set ?_ GE306.out) | exact HB.out)) hb); clear HO375; clear HO380; clear HO385; clear HO406; clear HO411; clear HO432; clear HO437; clear HO458; clear HO463; clear BK306; clear HB; have HO375 := n0_; have HO380 := n1_; have HO385 := n2_; have HO406 := n3_; have HO411 := n4_; have HO432 := n5_; have HO437 := n6_; have HO458 := n7_; have HO463 := n8_; have HO492 := n9_; have BK306 := n10_; have HB := n11_; clear n0_ n1_ n2_ n3_ n4_ n5_ n6_ n7_ n8_ n9_ n10_ n11_; clear hb ho183) | ((with_reducible refine gate_dst (N := 104) rfl ?_); (try (refine gate_guard (by rfl) ?_; dsimp only)); refine Kd.R_lit Kd.bool _ 4 ?hg (N := 104) ?hd (xs := ([false] : List Bool)) (inner := [.bool false]) (ok := fun _ => True) (okp := fun _ => True) ?hr ?hp (fun _ hk => hk) trivial (Below.refl _ _) (Nat.le_refl _) (by simp) ?_; (case hd => rfl); (case hg => rfl); (case hr => first | (go_simp; done) | (go_simp; rfl)); (case hp => exact (Reps.one (show Kd.M Kd.bool _ _ _ false [.bool false] from rfl) (Reps.none _ _))); intro v494 w184 ho185 hb hg_ hnew_; clear hg_ hnew_; (first | rw [← Ny493.out] at ho185 | (simp only [Int.reduceToNat] at ho185; rw [← Ny493.out] at ho185)); have n0_ := Aside0.mk (Kd.R_elder' (by (with_reducible repeat (first | apply Kd.R_alloc | apply Kd.R_drewN | apply Kd.R_drew)); exact HO375.out) (Kd.R_base ho185) hb); have n1_ := Aside0.mk (Kd.R_elder' (by (with_reducible repeat (first | apply Kd.R_alloc | apply Kd.R_drewN | apply Kd.R_drew)); exact HO380.out) (Kd.R_base ho185) hb); have n2_ := Aside0.mk (Kd.R_below (by (with_reducible repeat (first | apply Kd.R_alloc | apply Kd.R_drewN | apply Kd.R_drew)); exact HO385.out) hb); have n3_ := Aside0.mk (Kd.R_elder' (by (with_reducible repeat (first | apply Kd.R_alloc | apply Kd.R_drewN | apply Kd.R_drew)); exact HO406.out) (Kd.R_base ho185) hb); have n4_ := Aside0.mk (Kd.R_below (by (with_reducible repeat (first | apply Kd.R_alloc | apply Kd.R_drewN | apply Kd.R_drew)); exact HO411.out) hb); have n5_ := Aside0.mk (Kd.R_elder' (by (with_reducible repeat (first | apply Kd.R_alloc | apply Kd.R_drewN | apply Kd.R_drew)); exact HO432.out) (Kd.R_base ho185) hb); have n6_ := Aside0.mk (Kd.R_below (by (with_reducible repeat (first | apply Kd.R_alloc | apply Kd.R_drewN | apply Kd.R_drew)); exact HO437.out) hb); have n7_ := Aside0.mk (Kd.R_elder' (by (with_reducible repeat (first | apply Kd.R_alloc | apply Kd.R_drewN | apply Kd.R_drew)); exact HO458.out) (Kd.R_base ho185) hb); have n8_ := Aside0.mk (Kd.R_below (by (with_reducible repeat (first | apply Kd.R_alloc | apply Kd.R_drewN | apply Kd.R_drew)); exact HO463.out) hb); have n9_ := Aside0.mk (Kd.R_below (by (with_reducible repeat (first | apply Kd.R_alloc | apply Kd.R_drewN | apply Kd.R_drew)); exact HO492.out) hb); have n10_ := Aside0.mk (Kd.R_lower (Kd.R_new' (Kd.R_new' (Kd.R_new' (Kd.R_new' (Kd.R_new' ho185 (Kd.R_lt (by (with_reducible repeat (first | apply Kd.R_alloc | apply Kd.R_drewN | apply Kd.R_drew)); exact HO375.out))) (Kd.R_lt (by (with_reducible repeat (first | apply Kd.R_alloc | apply Kd.R_drewN | apply Kd.R_drew)); exact HO380.out))) (Kd.R_lt (by (with_reducible repeat (first | apply Kd.R_alloc | apply Kd.R_drewN | apply Kd.R_drew)); exact HO406.out))) (Kd.R_lt (by (with_reducible repeat (first | apply Kd.R_alloc | apply Kd.R_drewN | apply Kd.R_drew)); exact HO432.out))) (Kd.R_lt (by (with_reducible repeat (first | apply Kd.R_alloc | apply Kd.R_drewN | apply Kd.R_drew)); exact HO458.out))) (below_size (by repeat (first | (with_reducible first | exact HB.out | apply below_alloc | apply pw_below_drewN | apply below_drew1 | refine below_set ?_ GE306.out) | exact HB.out)))); have n11_ := Aside0.mk (blk_below (g := gb306) (o := .cells #[.int .i64 t300, .int .i64 t301, .bool t302, .bool t303, .int .i64 t304, .int .i64 t305] 48 (0, 0)) (by (with_reducible repeat (first | refine blk_drewN ?_ _ | refine blk_drew ?_ | refine blk_alloc ?_ _)); exact BK306.out) hb); have n12_ := Aside0.mk (below_step (by repeat (first | (with_reducible first | exact HB.out | apply below_alloc | apply pw_below_drewN | apply below_drew1 | refine below_set ?_ GE306.out) | exact HB.out)) hb); clear HO375; clear HO380; clear HO385; clear HO406; clear HO411; clear HO432; clear HO437; clear HO458; clear HO463; clear HO492; clear BK306; clear HB; have HO375 := n0_; have HO380 := n1_; have HO385 := n2_; have HO406 := n3_; have HO411 := n4_; have HO432 := n5_; have HO437 := n6_; have HO458 := n7_; have HO463 := n8_; have HO492 := n9_; have HO495 := n10_; have BK306 := n11_; have HB := n12_; clear n0_ n1_ n2_ n3_ n4_ n5_ n6_ n7_ n8_ n9_ n10_ n11_ n12_; clear hb ho185) | ((with_reducible refine gate_callee (f := 21) rfl ?_); refine goesL_ (some 105) rfl rfl Try.func21 (by kernel_rfl) rfl #[] rfl (by (try simp only [List.map_toArray, List.map_cons, List.map_nil]); first | done | rfl | (simp only [List.length_drop, List.length_take]; rfl)) ?_; (with_reducible refine (regletlaw14_ten.calls  t496 t497 t498 t499 t500 t501 t502 t503 t504 t505 t506 t507 t508 t509 t510 t511 t512 t513 _ A137.out).mono ?_); rintro e w186 ⟨rfl, hb⟩; refine ⟨_, rfl, ?_⟩; have n0_ := Aside0.mk (Kd.R_below (by (with_reducible repeat (first | apply Kd.R_alloc | apply Kd.R_drewN | apply Kd.R_drew)); exact HO375.out) hb); have n1_ := Aside0.mk (Kd.R_below (by (with_reducible repeat (first | apply Kd.R_alloc | apply Kd.R_drewN | apply Kd.R_drew)); exact HO380.out) hb); have n2_ := Aside0.mk (Kd.R_below (by (with_reducible repeat (first | apply Kd.R_alloc | apply Kd.R_drewN | apply Kd.R_drew)); exact HO385.out) hb); have n3_ := Aside0.mk (Kd.R_below (by (with_reducible repeat (first | apply Kd.R_alloc | apply Kd.R_drewN | apply Kd.R_drew)); exact HO406.out) hb); have n4_ := Aside0.mk (Kd.R_below (by (with_reducible repeat (first | apply Kd.R_alloc | apply Kd.R_drewN | apply Kd.R_drew)); exact HO411.out) hb); have n5_ := Aside0.mk (Kd.R_below (by (with_reducible repeat (first | apply Kd.R_alloc | apply Kd.R_drewN | apply Kd.R_drew)); exact HO432.out) hb); have n6_ := Aside0.mk (Kd.R_below (by (with_reducible repeat (first | apply Kd.R_alloc | apply Kd.R_drewN | apply Kd.R_drew)); exact HO437.out) hb); have n7_ := Aside0.mk (Kd.R_below (by (with_reducible repeat (first | apply Kd.R_alloc | apply Kd.R_drewN | apply Kd.R_drew)); exact HO458.out) hb); have n8_ := Aside0.mk (Kd.R_below (by (with_reducible repeat (first | apply Kd.R_alloc | apply Kd.R_drewN | apply Kd.R_drew)); exact HO463.out) hb); have n9_ := Aside0.mk (Kd.R_below (by (with_reducible repeat (first | apply Kd.R_alloc | apply Kd.R_drewN | apply Kd.R_drew)); exact HO492.out) hb); have n10_ := Aside0.mk (Kd.R_below (by (with_reducible repeat (first | apply Kd.R_alloc | apply Kd.R_drewN | apply Kd.R_drew)); exact HO495.out) hb); have n11_ := Aside0.mk (blk_below (g := gb306) (o := .cells #[.int .i64 t300, .int .i64 t301, .bool t302, .bool t303, .int .i64 t304, .int .i64 t305] 48 (0, 0)) (by (with_reducible repeat (first | refine blk_drewN ?_ _ | refine blk_drew ?_ | refine blk_alloc ?_ _)); exact BK306.out) hb); have n12_ := Aside0.mk (below_step (by repeat (first | (with_reducible first | exact HB.out | apply below_alloc | apply pw_below_drewN | apply below_drew1 | refine below_set ?_ GE306.out) | exact HB.out)) hb); clear HO375; clear HO380; clear HO385; clear HO406; clear HO411; clear HO432; clear HO437; clear HO458; clear HO463; clear HO492; clear HO495; clear BK306; clear HB; have HO375 := n0_; have HO380 := n1_; have HO385 := n2_; have HO406 := n3_; have HO411 := n4_; have HO432 := n5_; have HO437 := n6_; have HO458 := n7_; have HO463 := n8_; have HO492 := n9_; have HO495 := n10_; have BK306 := n11_; have HB := n12_; clear n0_ n1_ n2_ n3_ n4_ n5_ n6_ n7_ n8_ n9_ n10_ n11_ n12_; (try clear hb); (try clear hb2); (try clear hk); (try clear hi); obtain ⟨Ao187, co187, eo187⟩ := Kd.R_slice HO492.out; subst eo187; obtain ⟨Ao188, co188, eo188⟩ := Kd.R_slice HO495.out; subst eo188) | ((with_reducible refine gate_callee (f := 9) rfl ?_); refine goesL_ (some 106) rfl rfl Try.func9 (by kernel_rfl) rfl #[.int .i64 4, .slice Ao187 y490.length co187, .slice Ao188 y493.length co188, .agg #[.int .i64 t496, .int .i64 t497, .int .i64 t498, .int .i64 t499, .bool t500, .bool t501, .bool t502, .int .i64 t503, .int .i64 t504, .int .i64 t505, .int .i64 t506, .int .i64 t507, .int .i64 t508, .int .i64 t509, .int .i64 t510, .int .i64 t511, .int .i64 t512, .int .i64 t513]] rfl (by (try simp only [List.map_toArray, List.map_cons, List.map_nil]); first | done | rfl | (simp only [List.length_drop, List.length_take]; rfl)) ?_; (with_reducible refine (search_Cost.calls k 4 _ _ y490 _ _ y493 t496 t497 t498 t499 t500 t501 t502 t503 t504 t505 t506 t507 t508 t509 t510 t511 t512 t513 t514 t515 _ ?side1 ?side2 ?side3 ?side4 A138.out).mono ?_); (case side1 => repeat (first | exact (Kd.R_reads' HO492.out).2.2 | (with_reducible refine Kd.C_alloc ?_ _) | (with_reducible refine Kd.C_drewN ?_ _) | (with_reducible refine Kd.C_drew ?_))); (case side2 => exact (Kd.R_reads' HO492.out).2.1); (case side3 => repeat (first | exact (Kd.R_reads' HO495.out).2.2 | (with_reducible refine Kd.C_alloc ?_ _) | (with_reducible refine Kd.C_drewN ?_ _) | (with_reducible refine Kd.C_drew ?_))); (case side4 => exact (Kd.R_reads' HO495.out).2.1); rintro e w189 ⟨rfl, hb⟩; refine ⟨_, rfl, ?_⟩; have n0_ := Aside0.mk (Kd.R_below (by (with_reducible repeat (first | apply Kd.R_alloc | apply Kd.R_drewN | apply Kd.R_drew)); exact HO375.out) hb); have n1_ := Aside0.mk (Kd.R_below (by (with_reducible repeat (first | apply Kd.R_alloc | apply Kd.R_drewN | apply Kd.R_drew)); exact HO380.out) hb); have n2_ := Aside0.mk (Kd.R_below (by (with_reducible repeat (first | apply Kd.R_alloc | apply Kd.R_drewN | apply Kd.R_drew)); exact HO385.out) hb); have n3_ := Aside0.mk (Kd.R_below (by (with_reducible repeat (first | apply Kd.R_alloc | apply Kd.R_drewN | apply Kd.R_drew)); exact HO406.out) hb); have n4_ := Aside0.mk (Kd.R_below (by (with_reducible repeat (first | apply Kd.R_alloc | apply Kd.R_drewN | apply Kd.R_drew)); exact HO411.out) hb); have n5_ := Aside0.mk (Kd.R_below (by (with_reducible repeat (first | apply Kd.R_alloc | apply Kd.R_drewN | apply Kd.R_drew)); exact HO432.out) hb); have n6_ := Aside0.mk (Kd.R_below (by (with_reducible repeat (first | apply Kd.R_alloc | apply Kd.R_drewN | apply Kd.R_drew)); exact HO437.out) hb); have n7_ := Aside0.mk (Kd.R_below (by (with_reducible repeat (first | apply Kd.R_alloc | apply Kd.R_drewN | apply Kd.R_drew)); exact HO458.out) hb); have n8_ := Aside0.mk (Kd.R_below (by (with_reducible repeat (first | apply Kd.R_alloc | apply Kd.R_drewN | apply Kd.R_drew)); exact HO463.out) hb); have n9_ := Aside0.mk (Kd.R_below (by (with_reducible repeat (first | apply Kd.R_alloc | apply Kd.R_drewN | apply Kd.R_drew)); exact HO492.out) hb); have n10_ := Aside0.mk (Kd.R_below (by (with_reducible repeat (first | apply Kd.R_alloc | apply Kd.R_drewN | apply Kd.R_drew)); exact HO495.out) hb); have n11_ := Aside0.mk (blk_below (g := gb306) (o := .cells #[.int .i64 t300, .int .i64 t301, .bool t302, .bool t303, .int .i64 t304, .int .i64 t305] 48 (0, 0)) (by (with_reducible repeat (first | refine blk_drewN ?_ _ | refine blk_drew ?_ | refine blk_alloc ?_ _)); exact BK306.out) hb); have n12_ := Aside0.mk (below_step (by repeat (first | (with_reducible first | exact HB.out | apply below_alloc | apply pw_below_drewN | apply below_drew1 | refine below_set ?_ GE306.out) | exact HB.out)) hb); clear HO375; clear HO380; clear HO385; clear HO406; clear HO411; clear HO432; clear HO437; clear HO458; clear HO463; clear HO492; clear HO495; clear BK306; clear HB; have HO375 := n0_; have HO380 := n1_; have HO385 := n2_; have HO406 := n3_; have HO411 := n4_; have HO432 := n5_; have HO437 := n6_; have HO458 := n7_; have HO463 := n8_; have HO492 := n9_; have HO495 := n10_; have BK306 := n11_; have HB := n12_; clear n0_ n1_ n2_ n3_ n4_ n5_ n6_ n7_ n8_ n9_ n10_ n11_ n12_; (try clear hb); (try clear hb2); (try clear hk); (try clear hi)) | ((with_reducible refine gate_callee (f := 19) rfl ?_); refine goesL_ (some 110) rfl rfl Try.func19 (by kernel_rfl) rfl #[.bool false, .bool false] rfl (by (try simp only [List.map_toArray, List.map_cons, List.map_nil]); first | done | rfl | (simp only [List.length_drop, List.length_take]; rfl)) ?_; (with_reducible refine (regletlaw14_gap.calls false false t516 t517 t518 t519 t520 t521 _ A139.out).mono ?_); rintro e w190 ⟨rfl, hb⟩; refine ⟨_, rfl, ?_⟩; have n0_ := Aside0.mk (Kd.R_below (by (with_reducible repeat (first | apply Kd.R_alloc | apply Kd.R_drewN | apply Kd.R_drew)); exact HO375.out) hb); have n1_ := Aside0.mk (Kd.R_below (by (with_reducible repeat (first | apply Kd.R_alloc | apply Kd.R_drewN | apply Kd.R_drew)); exact HO380.out) hb); have n2_ := Aside0.mk (Kd.R_below (by (with_reducible repeat (first | apply Kd.R_alloc | apply Kd.R_drewN | apply Kd.R_drew)); exact HO385.out) hb); have n3_ := Aside0.mk (Kd.R_below (by (with_reducible repeat (first | apply Kd.R_alloc | apply Kd.R_drewN | apply Kd.R_drew)); exact HO406.out) hb); have n4_ := Aside0.mk (Kd.R_below (by (with_reducible repeat (first | apply Kd.R_alloc | apply Kd.R_drewN | apply Kd.R_drew)); exact HO411.out) hb); have n5_ := Aside0.mk (Kd.R_below (by (with_reducible repeat (first | apply Kd.R_alloc | apply Kd.R_drewN | apply Kd.R_drew)); exact HO432.out) hb); have n6_ := Aside0.mk (Kd.R_below (by (with_reducible repeat (first | apply Kd.R_alloc | apply Kd.R_drewN | apply Kd.R_drew)); exact HO437.out) hb); have n7_ := Aside0.mk (Kd.R_below (by (with_reducible repeat (first | apply Kd.R_alloc | apply Kd.R_drewN | apply Kd.R_drew)); exact HO458.out) hb); have n8_ := Aside0.mk (Kd.R_below (by (with_reducible repeat (first | apply Kd.R_alloc | apply Kd.R_drewN | apply Kd.R_drew)); exact HO463.out) hb); have n9_ := Aside0.mk (Kd.R_below (by (with_reducible repeat (first | apply Kd.R_alloc | apply Kd.R_drewN | apply Kd.R_drew)); exact HO492.out) hb); have n10_ := Aside0.mk (Kd.R_below (by (with_reducible repeat (first | apply Kd.R_alloc | apply Kd.R_drewN | apply Kd.R_drew)); exact HO495.out) hb); have n11_ := Aside0.mk (blk_below (g := gb306) (o := .cells #[.int .i64 t300, .int .i64 t301, .bool t302, .bool t303, .int .i64 t304, .int .i64 t305] 48 (0, 0)) (by (with_reducible repeat (first | refine blk_drewN ?_ _ | refine blk_drew ?_ | refine blk_alloc ?_ _)); exact BK306.out) hb); have n12_ := Aside0.mk (below_step (by repeat (first | (with_reducible first | exact HB.out | apply below_alloc | apply pw_below_drewN | apply below_drew1 | refine below_set ?_ GE306.out) | exact HB.out)) hb); clear HO375; clear HO380; clear HO385; clear HO406; clear HO411; clear HO432; clear HO437; clear HO458; clear HO463; clear HO492; clear HO495; clear BK306; clear HB; have HO375 := n0_; have HO380 := n1_; have HO385 := n2_; have HO406 := n3_; have HO411 := n4_; have HO432 := n5_; have HO437 := n6_; have HO458 := n7_; have HO463 := n8_; have HO492 := n9_; have HO495 := n10_; have BK306 := n11_; have HB := n12_; clear n0_ n1_ n2_ n3_ n4_ n5_ n6_ n7_ n8_ n9_ n10_ n11_ n12_; (try clear hb); (try clear hb2); (try clear hk); (try clear hi)) | ((with_reducible refine gate_dst (N := 111) rfl ?_); (try (refine gate_guard (by rfl) ?_; dsimp only)); refine Kd.R_lit k48 _ 48 ?hg (N := 111) ?hd (xs := ([(⟨t516, t517, t518, t519, t520, t521⟩ : S48)] : List (S48))) (inner := [.int .i64 t516, .int .i64 t517, .bool t518, .bool t519, .int .i64 t520, .int .i64 t521]) (ok := fun _ => True) (okp := fun _ => True) ?hr ?hp (fun _ hk => hk) trivial (Below.refl _ _) (Nat.le_refl _) (by simp) ?_; (case hd => rfl); (case hg => rfl); (case hr => first | (go_simp; done) | (go_simp; rfl)); (case hp => exact (Reps.c6 (show Kd.M k48 _ _ _ (⟨t516, t517, t518, t519, t520, t521⟩ : S48) [.int .i64 t516, .int .i64 t517, .bool t518, .bool t519, .int .i64 t520, .int .i64 t521] from (k48_mkM _ _ _ (⟨t516, t517, t518, t519, t520, t521⟩ : S48) )) (Reps.none _ _))); intro v523 w191 ho192 hb hg_ hnew_; clear hg_ hnew_; (first | rw [← Ny522.out] at ho192 | (simp only [Int.reduceToNat] at ho192; rw [← Ny522.out] at ho192)); have n0_ := Aside0.mk (Kd.R_below (by (with_reducible repeat (first | apply Kd.R_alloc | apply Kd.R_drewN | apply Kd.R_drew)); exact HO375.out) hb); have n1_ := Aside0.mk (Kd.R_below (by (with_reducible repeat (first | apply Kd.R_alloc | apply Kd.R_drewN | apply Kd.R_drew)); exact HO380.out) hb); have n2_ := Aside0.mk (Kd.R_elder' (by (with_reducible repeat (first | apply Kd.R_alloc | apply Kd.R_drewN | apply Kd.R_drew)); exact HO385.out) (Kd.R_base ho192) hb); have n3_ := Aside0.mk (Kd.R_below (by (with_reducible repeat (first | apply Kd.R_alloc | apply Kd.R_drewN | apply Kd.R_drew)); exact HO406.out) hb); have n4_ := Aside0.mk (Kd.R_elder' (by (with_reducible repeat (first | apply Kd.R_alloc | apply Kd.R_drewN | apply Kd.R_drew)); exact HO411.out) (Kd.R_base ho192) hb); have n5_ := Aside0.mk (Kd.R_below (by (with_reducible repeat (first | apply Kd.R_alloc | apply Kd.R_drewN | apply Kd.R_drew)); exact HO432.out) hb); have n6_ := Aside0.mk (Kd.R_elder' (by (with_reducible repeat (first | apply Kd.R_alloc | apply Kd.R_drewN | apply Kd.R_drew)); exact HO437.out) (Kd.R_base ho192) hb); have n7_ := Aside0.mk (Kd.R_below (by (with_reducible repeat (first | apply Kd.R_alloc | apply Kd.R_drewN | apply Kd.R_drew)); exact HO458.out) hb); have n8_ := Aside0.mk (Kd.R_elder' (by (with_reducible repeat (first | apply Kd.R_alloc | apply Kd.R_drewN | apply Kd.R_drew)); exact HO463.out) (Kd.R_base ho192) hb); have n9_ := Aside0.mk (Kd.R_elder' (by (with_reducible repeat (first | apply Kd.R_alloc | apply Kd.R_drewN | apply Kd.R_drew)); exact HO492.out) (Kd.R_base ho192) hb); have n10_ := Aside0.mk (Kd.R_below (by (with_reducible repeat (first | apply Kd.R_alloc | apply Kd.R_drewN | apply Kd.R_drew)); exact HO495.out) hb); have n11_ := Aside0.mk (Kd.R_lower (Kd.R_newB (Kd.R_new' (Kd.R_new' (Kd.R_new' (Kd.R_new' (Kd.R_new' ho192 (Kd.R_lt (by (with_reducible repeat (first | apply Kd.R_alloc | apply Kd.R_drewN | apply Kd.R_drew)); exact HO385.out))) (Kd.R_lt (by (with_reducible repeat (first | apply Kd.R_alloc | apply Kd.R_drewN | apply Kd.R_drew)); exact HO411.out))) (Kd.R_lt (by (with_reducible repeat (first | apply Kd.R_alloc | apply Kd.R_drewN | apply Kd.R_drew)); exact HO437.out))) (Kd.R_lt (by (with_reducible repeat (first | apply Kd.R_alloc | apply Kd.R_drewN | apply Kd.R_drew)); exact HO463.out))) (Kd.R_lt (by (with_reducible repeat (first | apply Kd.R_alloc | apply Kd.R_drewN | apply Kd.R_drew)); exact HO492.out))) (g := gb306) (o := .cells #[.int .i64 t300, .int .i64 t301, .bool t302, .bool t303, .int .i64 t304, .int .i64 t305] 48 (0, 0)) (by (with_reducible repeat (first | refine blk_drewN ?_ _ | refine blk_drew ?_ | refine blk_alloc ?_ _)); exact BK306.out)) (below_size (by repeat (first | (with_reducible first | exact HB.out | apply below_alloc | apply pw_below_drewN | apply below_drew1 | refine below_set ?_ GE306.out) | exact HB.out)))); have n12_ := Aside0.mk (blk_below (g := gb306) (o := .cells #[.int .i64 t300, .int .i64 t301, .bool t302, .bool t303, .int .i64 t304, .int .i64 t305] 48 (0, 0)) (by (with_reducible repeat (first | refine blk_drewN ?_ _ | refine blk_drew ?_ | refine blk_alloc ?_ _)); exact BK306.out) hb); have n13_ := Aside0.mk (below_step (by repeat (first | (with_reducible first | exact HB.out | apply below_alloc | apply pw_below_drewN | apply below_drew1 | refine below_set ?_ GE306.out) | exact HB.out)) hb); clear HO375; clear HO380; clear HO385; clear HO406; clear HO411; clear HO432; clear HO437; clear HO458; clear HO463; clear HO492; clear HO495; clear BK306; clear HB; have HO375 := n0_; have HO380 := n1_; have HO385 := n2_; have HO406 := n3_; have HO411 := n4_; have HO432 := n5_; have HO437 := n6_; have HO458 := n7_; have HO463 := n8_; have HO492 := n9_; have HO495 := n10_; have HO524 := n11_; have BK306 := n12_; have HB := n13_; clear n0_ n1_ n2_ n3_ n4_ n5_ n6_ n7_ n8_ n9_ n10_ n11_ n12_ n13_; clear hb ho192) | ((with_reducible refine gate_dst (N := 112) rfl ?_); (try (refine gate_guard (by rfl) ?_; dsimp only)); refine Kd.R_lit Kd.bool _ 4 ?hg (N := 112) ?hd (xs := ([true] : List Bool)) (inner := [.bool true]) (ok := fun _ => True) (okp := fun _ => True) ?hr ?hp (fun _ hk => hk) trivial (Below.refl _ _) (Nat.le_refl _) (by simp) ?_; (case hd => rfl); (case hg => rfl); (case hr => first | (go_simp; done) | (go_simp; rfl)); (case hp => exact (Reps.one (show Kd.M Kd.bool _ _ _ true [.bool true] from rfl) (Reps.none _ _))); intro v526 w193 ho194 hb hg_ hnew_; clear hg_ hnew_; (first | rw [← Ny525.out] at ho194 | (simp only [Int.reduceToNat] at ho194; rw [← Ny525.out] at ho194)); have n0_ := Aside0.mk (Kd.R_elder' (by (with_reducible repeat (first | apply Kd.R_alloc | apply Kd.R_drewN | apply Kd.R_drew)); exact HO375.out) (Kd.R_base ho194) hb); have n1_ := Aside0.mk (Kd.R_elder' (by (with_reducible repeat (first | apply Kd.R_alloc | apply Kd.R_drewN | apply Kd.R_drew)); exact HO380.out) (Kd.R_base ho194) hb); have n2_ := Aside0.mk (Kd.R_below (by (with_reducible repeat (first | apply Kd.R_alloc | apply Kd.R_drewN | apply Kd.R_drew)); exact HO385.out) hb); have n3_ := Aside0.mk (Kd.R_elder' (by (with_reducible repeat (first | apply Kd.R_alloc | apply Kd.R_drewN | apply Kd.R_drew)); exact HO406.out) (Kd.R_base ho194) hb); have n4_ := Aside0.mk (Kd.R_below (by (with_reducible repeat (first | apply Kd.R_alloc | apply Kd.R_drewN | apply Kd.R_drew)); exact HO411.out) hb); have n5_ := Aside0.mk (Kd.R_elder' (by (with_reducible repeat (first | apply Kd.R_alloc | apply Kd.R_drewN | apply Kd.R_drew)); exact HO432.out) (Kd.R_base ho194) hb); have n6_ := Aside0.mk (Kd.R_below (by (with_reducible repeat (first | apply Kd.R_alloc | apply Kd.R_drewN | apply Kd.R_drew)); exact HO437.out) hb); have n7_ := Aside0.mk (Kd.R_elder' (by (with_reducible repeat (first | apply Kd.R_alloc | apply Kd.R_drewN | apply Kd.R_drew)); exact HO458.out) (Kd.R_base ho194) hb); have n8_ := Aside0.mk (Kd.R_below (by (with_reducible repeat (first | apply Kd.R_alloc | apply Kd.R_drewN | apply Kd.R_drew)); exact HO463.out) hb); have n9_ := Aside0.mk (Kd.R_below (by (with_reducible repeat (first | apply Kd.R_alloc | apply Kd.R_drewN | apply Kd.R_drew)); exact HO492.out) hb); have n10_ := Aside0.mk (Kd.R_elder' (by (with_reducible repeat (first | apply Kd.R_alloc | apply Kd.R_drewN | apply Kd.R_drew)); exact HO495.out) (Kd.R_base ho194) hb); have n11_ := Aside0.mk (Kd.R_below (by (with_reducible repeat (first | apply Kd.R_alloc | apply Kd.R_drewN | apply Kd.R_drew)); exact HO524.out) hb); have n12_ := Aside0.mk (Kd.R_lower (Kd.R_new' (Kd.R_new' (Kd.R_new' (Kd.R_new' (Kd.R_new' (Kd.R_new' ho194 (Kd.R_lt (by (with_reducible repeat (first | apply Kd.R_alloc | apply Kd.R_drewN | apply Kd.R_drew)); exact HO375.out))) (Kd.R_lt (by (with_reducible repeat (first | apply Kd.R_alloc | apply Kd.R_drewN | apply Kd.R_drew)); exact HO380.out))) (Kd.R_lt (by (with_reducible repeat (first | apply Kd.R_alloc | apply Kd.R_drewN | apply Kd.R_drew)); exact HO406.out))) (Kd.R_lt (by (with_reducible repeat (first | apply Kd.R_alloc | apply Kd.R_drewN | apply Kd.R_drew)); exact HO432.out))) (Kd.R_lt (by (with_reducible repeat (first | apply Kd.R_alloc | apply Kd.R_drewN | apply Kd.R_drew)); exact HO458.out))) (Kd.R_lt (by (with_reducible repeat (first | apply Kd.R_alloc | apply Kd.R_drewN | apply Kd.R_drew)); exact HO495.out))) (below_size (by repeat (first | (with_reducible first | exact HB.out | apply below_alloc | apply pw_below_drewN | apply below_drew1 | refine below_set ?_ GE306.out) | exact HB.out)))); have n13_ := Aside0.mk (blk_below (g := gb306) (o := .cells #[.int .i64 t300, .int .i64 t301, .bool t302, .bool t303, .int .i64 t304, .int .i64 t305] 48 (0, 0)) (by (with_reducible repeat (first | refine blk_drewN ?_ _ | refine blk_drew ?_ | refine blk_alloc ?_ _)); exact BK306.out) hb); have n14_ := Aside0.mk (below_step (by repeat (first | (with_reducible first | exact HB.out | apply below_alloc | apply pw_below_drewN | apply below_drew1 | refine below_set ?_ GE306.out) | exact HB.out)) hb); clear HO375; clear HO380; clear HO385; clear HO406; clear HO411; clear HO432; clear HO437; clear HO458; clear HO463; clear HO492; clear HO495; clear HO524; clear BK306; clear HB; have HO375 := n0_; have HO380 := n1_; have HO385 := n2_; have HO406 := n3_; have HO411 := n4_; have HO432 := n5_; have HO437 := n6_; have HO458 := n7_; have HO463 := n8_; have HO492 := n9_; have HO495 := n10_; have HO524 := n11_; have HO527 := n12_; have BK306 := n13_; have HB := n14_; clear n0_ n1_ n2_ n3_ n4_ n5_ n6_ n7_ n8_ n9_ n10_ n11_ n12_ n13_ n14_; clear hb ho194) | ((with_reducible refine gate_callee (f := 21) rfl ?_); refine goesL_ (some 113) rfl rfl Try.func21 (by kernel_rfl) rfl #[] rfl (by (try simp only [List.map_toArray, List.map_cons, List.map_nil]); first | done | rfl | (simp only [List.length_drop, List.length_take]; rfl)) ?_; (with_reducible refine (regletlaw14_ten.calls  t528 t529 t530 t531 t532 t533 t534 t535 t536 t537 t538 t539 t540 t541 t542 t543 t544 t545 _ A140.out).mono ?_); rintro e w195 ⟨rfl, hb⟩; refine ⟨_, rfl, ?_⟩; have n0_ := Aside0.mk (Kd.R_below (by (with_reducible repeat (first | apply Kd.R_alloc | apply Kd.R_drewN | apply Kd.R_drew)); exact HO375.out) hb); have n1_ := Aside0.mk (Kd.R_below (by (with_reducible repeat (first | apply Kd.R_alloc | apply Kd.R_drewN | apply Kd.R_drew)); exact HO380.out) hb); have n2_ := Aside0.mk (Kd.R_below (by (with_reducible repeat (first | apply Kd.R_alloc | apply Kd.R_drewN | apply Kd.R_drew)); exact HO385.out) hb); have n3_ := Aside0.mk (Kd.R_below (by (with_reducible repeat (first | apply Kd.R_alloc | apply Kd.R_drewN | apply Kd.R_drew)); exact HO406.out) hb); have n4_ := Aside0.mk (Kd.R_below (by (with_reducible repeat (first | apply Kd.R_alloc | apply Kd.R_drewN | apply Kd.R_drew)); exact HO411.out) hb); have n5_ := Aside0.mk (Kd.R_below (by (with_reducible repeat (first | apply Kd.R_alloc | apply Kd.R_drewN | apply Kd.R_drew)); exact HO432.out) hb); have n6_ := Aside0.mk (Kd.R_below (by (with_reducible repeat (first | apply Kd.R_alloc | apply Kd.R_drewN | apply Kd.R_drew)); exact HO437.out) hb); have n7_ := Aside0.mk (Kd.R_below (by (with_reducible repeat (first | apply Kd.R_alloc | apply Kd.R_drewN | apply Kd.R_drew)); exact HO458.out) hb); have n8_ := Aside0.mk (Kd.R_below (by (with_reducible repeat (first | apply Kd.R_alloc | apply Kd.R_drewN | apply Kd.R_drew)); exact HO463.out) hb); have n9_ := Aside0.mk (Kd.R_below (by (with_reducible repeat (first | apply Kd.R_alloc | apply Kd.R_drewN | apply Kd.R_drew)); exact HO492.out) hb); have n10_ := Aside0.mk (Kd.R_below (by (with_reducible repeat (first | apply Kd.R_alloc | apply Kd.R_drewN | apply Kd.R_drew)); exact HO495.out) hb); have n11_ := Aside0.mk (Kd.R_below (by (with_reducible repeat (first | apply Kd.R_alloc | apply Kd.R_drewN | apply Kd.R_drew)); exact HO524.out) hb); have n12_ := Aside0.mk (Kd.R_below (by (with_reducible repeat (first | apply Kd.R_alloc | apply Kd.R_drewN | apply Kd.R_drew)); exact HO527.out) hb); have n13_ := Aside0.mk (blk_below (g := gb306) (o := .cells #[.int .i64 t300, .int .i64 t301, .bool t302, .bool t303, .int .i64 t304, .int .i64 t305] 48 (0, 0)) (by (with_reducible repeat (first | refine blk_drewN ?_ _ | refine blk_drew ?_ | refine blk_alloc ?_ _)); exact BK306.out) hb); have n14_ := Aside0.mk (below_step (by repeat (first | (with_reducible first | exact HB.out | apply below_alloc | apply pw_below_drewN | apply below_drew1 | refine below_set ?_ GE306.out) | exact HB.out)) hb); clear HO375; clear HO380; clear HO385; clear HO406; clear HO411; clear HO432; clear HO437; clear HO458; clear HO463; clear HO492; clear HO495; clear HO524; clear HO527; clear BK306; clear HB; have HO375 := n0_; have HO380 := n1_; have HO385 := n2_; have HO406 := n3_; have HO411 := n4_; have HO432 := n5_; have HO437 := n6_; have HO458 := n7_; have HO463 := n8_; have HO492 := n9_; have HO495 := n10_; have HO524 := n11_; have HO527 := n12_; have BK306 := n13_; have HB := n14_; clear n0_ n1_ n2_ n3_ n4_ n5_ n6_ n7_ n8_ n9_ n10_ n11_ n12_ n13_ n14_; (try clear hb); (try clear hb2); (try clear hk); (try clear hi); obtain ⟨Ao196, co196, eo196⟩ := Kd.R_slice HO524.out; subst eo196; obtain ⟨Ao197, co197, eo197⟩ := Kd.R_slice HO527.out; subst eo197) | ((with_reducible refine gate_callee (f := 9) rfl ?_); refine goesL_ (some 114) rfl rfl Try.func9 (by kernel_rfl) rfl #[.int .i64 4, .slice Ao196 y522.length co196, .slice Ao197 y525.length co197, .agg #[.int .i64 t528, .int .i64 t529, .int .i64 t530, .int .i64 t531, .bool t532, .bool t533, .bool t534, .int .i64 t535, .int .i64 t536, .int .i64 t537, .int .i64 t538, .int .i64 t539, .int .i64 t540, .int .i64 t541, .int .i64 t542, .int .i64 t543, .int .i64 t544, .int .i64 t545]] rfl (by (try simp only [List.map_toArray, List.map_cons, List.map_nil]); first | done | rfl | (simp only [List.length_drop, List.length_take]; rfl)) ?_; (with_reducible refine (search_Cost.calls k 4 _ _ y522 _ _ y525 t528 t529 t530 t531 t532 t533 t534 t535 t536 t537 t538 t539 t540 t541 t542 t543 t544 t545 t546 t547 _ ?side1 ?side2 ?side3 ?side4 A141.out).mono ?_); (case side1 => repeat (first | exact (Kd.R_reads' HO524.out).2.2 | (with_reducible refine Kd.C_alloc ?_ _) | (with_reducible refine Kd.C_drewN ?_ _) | (with_reducible refine Kd.C_drew ?_))); (case side2 => exact (Kd.R_reads' HO524.out).2.1); (case side3 => repeat (first | exact (Kd.R_reads' HO527.out).2.2 | (with_reducible refine Kd.C_alloc ?_ _) | (with_reducible refine Kd.C_drewN ?_ _) | (with_reducible refine Kd.C_drew ?_))); (case side4 => exact (Kd.R_reads' HO527.out).2.1); rintro e w198 ⟨rfl, hb⟩; refine ⟨_, rfl, ?_⟩; have n0_ := Aside0.mk (Kd.R_below (by (with_reducible repeat (first | apply Kd.R_alloc | apply Kd.R_drewN | apply Kd.R_drew)); exact HO375.out) hb); have n1_ := Aside0.mk (Kd.R_below (by (with_reducible repeat (first | apply Kd.R_alloc | apply Kd.R_drewN | apply Kd.R_drew)); exact HO380.out) hb); have n2_ := Aside0.mk (Kd.R_below (by (with_reducible repeat (first | apply Kd.R_alloc | apply Kd.R_drewN | apply Kd.R_drew)); exact HO385.out) hb); have n3_ := Aside0.mk (Kd.R_below (by (with_reducible repeat (first | apply Kd.R_alloc | apply Kd.R_drewN | apply Kd.R_drew)); exact HO406.out) hb); have n4_ := Aside0.mk (Kd.R_below (by (with_reducible repeat (first | apply Kd.R_alloc | apply Kd.R_drewN | apply Kd.R_drew)); exact HO411.out) hb); have n5_ := Aside0.mk (Kd.R_below (by (with_reducible repeat (first | apply Kd.R_alloc | apply Kd.R_drewN | apply Kd.R_drew)); exact HO432.out) hb); have n6_ := Aside0.mk (Kd.R_below (by (with_reducible repeat (first | apply Kd.R_alloc | apply Kd.R_drewN | apply Kd.R_drew)); exact HO437.out) hb); have n7_ := Aside0.mk (Kd.R_below (by (with_reducible repeat (first | apply Kd.R_alloc | apply Kd.R_drewN | apply Kd.R_drew)); exact HO458.out) hb); have n8_ := Aside0.mk (Kd.R_below (by (with_reducible repeat (first | apply Kd.R_alloc | apply Kd.R_drewN | apply Kd.R_drew)); exact HO463.out) hb); have n9_ := Aside0.mk (Kd.R_below (by (with_reducible repeat (first | apply Kd.R_alloc | apply Kd.R_drewN | apply Kd.R_drew)); exact HO492.out) hb); have n10_ := Aside0.mk (Kd.R_below (by (with_reducible repeat (first | apply Kd.R_alloc | apply Kd.R_drewN | apply Kd.R_drew)); exact HO495.out) hb); have n11_ := Aside0.mk (Kd.R_below (by (with_reducible repeat (first | apply Kd.R_alloc | apply Kd.R_drewN | apply Kd.R_drew)); exact HO524.out) hb); have n12_ := Aside0.mk (Kd.R_below (by (with_reducible repeat (first | apply Kd.R_alloc | apply Kd.R_drewN | apply Kd.R_drew)); exact HO527.out) hb); have n13_ := Aside0.mk (blk_below (g := gb306) (o := .cells #[.int .i64 t300, .int .i64 t301, .bool t302, .bool t303, .int .i64 t304, .int .i64 t305] 48 (0, 0)) (by (with_reducible repeat (first | refine blk_drewN ?_ _ | refine blk_drew ?_ | refine blk_alloc ?_ _)); exact BK306.out) hb); have n14_ := Aside0.mk (below_step (by repeat (first | (with_reducible first | exact HB.out | apply below_alloc | apply pw_below_drewN | apply below_drew1 | refine below_set ?_ GE306.out) | exact HB.out)) hb); clear HO375; clear HO380; clear HO385; clear HO406; clear HO411; clear HO432; clear HO437; clear HO458; clear HO463; clear HO492; clear HO495; clear HO524; clear HO527; clear BK306; clear HB; have HO375 := n0_; have HO380 := n1_; have HO385 := n2_; have HO406 := n3_; have HO411 := n4_; have HO432 := n5_; have HO437 := n6_; have HO458 := n7_; have HO463 := n8_; have HO492 := n9_; have HO495 := n10_; have HO524 := n11_; have HO527 := n12_; have BK306 := n13_; have HB := n14_; clear n0_ n1_ n2_ n3_ n4_ n5_ n6_ n7_ n8_ n9_ n10_ n11_ n12_ n13_ n14_; (try clear hb); (try clear hb2); (try clear hk); (try clear hi)))
    have n0_ := Aside0.mk (Kd.R_drew HO375.out)
    have n1_ := Aside0.mk (Kd.R_drew HO380.out)
    have n2_ := Aside0.mk (Kd.R_drew HO385.out)
    have n3_ := Aside0.mk (Kd.R_drew HO406.out)
    have n4_ := Aside0.mk (Kd.R_drew HO411.out)
    have n5_ := Aside0.mk (Kd.R_drew HO432.out)
    have n6_ := Aside0.mk (Kd.R_drew HO437.out)
    have n7_ := Aside0.mk (Kd.R_drew HO458.out)
    have n8_ := Aside0.mk (Kd.R_drew HO463.out)
    have n9_ := Aside0.mk (Kd.R_drew HO492.out)
    have n10_ := Aside0.mk (Kd.R_drew HO495.out)
    have n11_ := Aside0.mk (Kd.R_drew HO524.out)
    have n12_ := Aside0.mk (Kd.R_drew HO527.out)
    have n13_ := Aside0.mk (blk_drew BK306.out)
    have n14_ := Aside0.mk (below_drew1 HB.out)
    clear HO375
    clear HO380
    clear HO385
    clear HO406
    clear HO411
    clear HO432
    clear HO437
    clear HO458
    clear HO463
    clear HO492
    clear HO495
    clear HO524
    clear HO527
    clear BK306
    clear HB
    have HO375 := n0_
    have HO380 := n1_
    have HO385 := n2_
    have HO406 := n3_
    have HO411 := n4_
    have HO432 := n5_
    have HO437 := n6_
    have HO458 := n7_
    have HO463 := n8_
    have HO492 := n9_
    have HO495 := n10_
    have HO524 := n11_
    have HO527 := n12_
    have BK306 := n13_
    have HB := n14_
    clear n0_ n1_ n2_ n3_ n4_ n5_ n6_ n7_ n8_ n9_ n10_ n11_ n12_ n13_ n14_
    refine start_ (n := 11) (S := fun w' => True) (ds := []) #[false, false, false, false, false, false, false, false, false, false, false] (by kernel_rfl) rfl rfl trivial (fun hHeld => ?_); refine with_tabW regletlaw14_SearchNames.tab11 regletlaw14_SearchNames.bits11 (fun HT_ HW_ => ?_)
    generalize w198.drew = w199 at HO375 HO380 HO385 HO406 HO411 HO432 HO437 HO458 HO463 HO492 HO495 HO524 HO527 BK306 HB hHeld ⊢
    refine inv_at [0, 1, 2, 3, 4, 5, 6, 7, 8, 9, 10] (fun a0_ b a w' => ∃ (v549 : Value) (v552 : Value), a = putSel a0_ b [(0, 118, .agg #[.int .i64 t300, .int .i64 t301, .bool t302, .bool t303, .int .i64 t304, .int .i64 t305]), (1, 119, .agg #[.int .i64 t300, .int .i64 t301, .bool t302, .bool t303, .int .i64 t304, .int .i64 t305]), (2, 120, v549), (3, 121, v552), (4, 122, .agg #[.int .i64 t554, .int .i64 t555, .int .i64 t556, .int .i64 t557, .bool t558, .bool t559, .bool t560, .int .i64 t561, .int .i64 t562, .int .i64 t563, .int .i64 t564, .int .i64 t565, .int .i64 t566, .int .i64 t567, .int .i64 t568, .int .i64 t569, .int .i64 t570, .int .i64 t571]), (5, 123, .tuple #[.int .i64 t572, .int .i64 t573]), (6, 117, .tuple #[.int .i64 t572, .int .i64 t573]), (7, 124, .int .i64 t572), (8, 125, .int .i64 t573), (9, 24, .int .i64 t572), (10, 25, .int .i64 t573)] ∧ (Kd.R Kd.bool 4 w' w.heap.size (fun _ => True) v374 t373) ∧ (Kd.R Kd.bool 4 w' w.heap.size (fun _ => True) v379 t378) ∧ (Kd.R k48 48 w' w.heap.size (fun _ => True) (.slice Ao160 y383.length co160) y383) ∧ (Kd.R Kd.bool 4 w' w.heap.size (fun _ => True) v405 t404) ∧ (Kd.R k48 48 w' w.heap.size (fun _ => True) (.slice Ao165 y409.length co165) y409) ∧ (Kd.R Kd.bool 4 w' w.heap.size (fun _ => True) v431 t430) ∧ (Kd.R k48 48 w' w.heap.size (fun _ => True) (.slice Ao172 y435.length co172) y435) ∧ (Kd.R Kd.bool 4 w' w.heap.size (fun _ => True) v457 t456) ∧ (Kd.R k48 48 w' w.heap.size (fun _ => True) v462 y461) ∧ (Kd.R k48 48 w' w.heap.size (fun _ => True) (.slice Ao187 y490.length co187) y490) ∧ (Kd.R Kd.bool 4 w' w.heap.size (fun _ => True) (.slice Ao188 y493.length co188) y493) ∧ (Kd.R k48 48 w' w.heap.size (fun _ => True) (.slice Ao196 y522.length co196) y522) ∧ (Kd.R Kd.bool 4 w' w.heap.size (fun _ => True) (.slice Ao197 y525.length co197) y525) ∧ (w'.heap[gb306]? = some (.cells #[.int .i64 t300, .int .i64 t301, .bool t302, .bool t303, .int .i64 t304, .int .i64 t305] 48 (0, 0))) ∧ (Below w.heap.size w w') ∧ (b 2 = true → Kd.R k48 48 w' w.heap.size (fun _ => True) v549 y548) ∧ (b 3 = true → Kd.R Kd.bool 4 w' w.heap.size (fun _ => True) v552 y551)) HT_.out HW_.out (by kernel_rfl) (by kernel_rfl) ?_ ?_ ?_
    · exact ⟨.bool false, .bool false, by simp only [putSel, Bool.false_eq_true, if_false], (Kd.R_mono HO375.out (fun _ _ => trivial)), (Kd.R_mono HO380.out (fun _ _ => trivial)), (Kd.R_mono HO385.out (fun _ _ => trivial)), (Kd.R_mono HO406.out (fun _ _ => trivial)), (Kd.R_mono HO411.out (fun _ _ => trivial)), (Kd.R_mono HO432.out (fun _ _ => trivial)), (Kd.R_mono HO437.out (fun _ _ => trivial)), (Kd.R_mono HO458.out (fun _ _ => trivial)), (Kd.R_mono HO463.out (fun _ _ => trivial)), (Kd.R_mono HO492.out (fun _ _ => trivial)), (Kd.R_mono HO495.out (fun _ _ => trivial)), (Kd.R_mono HO524.out (fun _ _ => trivial)), (Kd.R_mono HO527.out (fun _ _ => trivial)), BK306.out, HB.out, fun h_ => absurd h_ (by decide), fun h_ => absurd h_ (by decide)⟩
    · skip
      clear BK306 HB HO375 HO380 HO385 HO406 HO411 HO432 HO437 HO458 HO463 HO492 HO495 HO524 HO527
      refine steps_cons ?_ ?_
      · rintro b a w' ⟨v549, v552, ha, Q_HO375, Q_HO380, Q_HO385, Q_HO406, Q_HO411, Q_HO432, Q_HO437, Q_HO458, Q_HO463, Q_HO492, Q_HO495, Q_HO524, Q_HO527, Q_BK306, Q_HB, Q_HO550, Q_HO553⟩ hb_ hon hoff
        refine ⟨_, rfl, fun K hK => ?_⟩
        have e1 : a.tmps[1]? = some (.pointer (some ⟨gb306, 0, none⟩)) := by rw [ha]; exact (putSel_off rfl).trans rfl
        replace ha := Aside0.mk ha
        have HO375 := Aside0.mk Q_HO375
        have HO380 := Aside0.mk Q_HO380
        have HO385 := Aside0.mk Q_HO385
        have HO406 := Aside0.mk Q_HO406
        have HO411 := Aside0.mk Q_HO411
        have HO432 := Aside0.mk Q_HO432
        have HO437 := Aside0.mk Q_HO437
        have HO458 := Aside0.mk Q_HO458
        have HO463 := Aside0.mk Q_HO463
        have HO492 := Aside0.mk Q_HO492
        have HO495 := Aside0.mk Q_HO495
        have HO524 := Aside0.mk Q_HO524
        have HO527 := Aside0.mk Q_HO527
        have BK306 := Aside0.mk Q_BK306
        have HB := Aside0.mk Q_HB
        have hc0_ : w'.cell? ⟨gb306, 0, none⟩ = some (.int .i64 t300) := (blk_cell BK306.out 0).trans rfl
        have hc1_ : w'.cell? ⟨gb306, 1, none⟩ = some (.int .i64 t301) := (blk_cell BK306.out 1).trans rfl
        have hc2_ : w'.cell? ⟨gb306, 2, none⟩ = some (.bool t302) := (blk_cell BK306.out 2).trans rfl
        have hc3_ : w'.cell? ⟨gb306, 3, none⟩ = some (.bool t303) := (blk_cell BK306.out 3).trans rfl
        have hc4_ : w'.cell? ⟨gb306, 4, none⟩ = some (.int .i64 t304) := (blk_cell BK306.out 4).trans rfl
        have hc5_ : w'.cell? ⟨gb306, 5, none⟩ = some (.int .i64 t305) := (blk_cell BK306.out 5).trans rfl
        refine value_ (w1 := w') (v := .agg #[.int .i64 t300, .int .i64 t301, .bool t302, .bool t303, .int .i64 t304, .int .i64 t305]) (by rfl) rfl ?_ ?_
        · go_simp
          (try simp only [i64_w])
          try rfl
        refine hK.out _ _ ⟨v549, v552, (by rw [ha.out]; exact putSel_upk 0 hb_ rfl rfl rfl), Q_HO375, Q_HO380, Q_HO385, Q_HO406, Q_HO411, Q_HO432, Q_HO437, Q_HO458, Q_HO463, Q_HO492, Q_HO495, Q_HO524, Q_HO527, Q_BK306, Q_HB, fun h0_ => absurd ((hoff 2 (by kernel_rfl)).symm.trans h0_) (by decide), Q_HO553⟩
      refine steps_cons ?_ ?_
      · rintro b a w' ⟨v549, v552, ha, Q_HO375, Q_HO380, Q_HO385, Q_HO406, Q_HO411, Q_HO432, Q_HO437, Q_HO458, Q_HO463, Q_HO492, Q_HO495, Q_HO524, Q_HO527, Q_BK306, Q_HB, Q_HO550, Q_HO553⟩ hb_ hon hoff
        refine ⟨_, rfl, fun K hK => ?_⟩
        have e1 : a.tmps[1]? = some (.pointer (some ⟨gb306, 0, none⟩)) := by rw [ha]; exact (putSel_off rfl).trans rfl
        replace ha := Aside0.mk ha
        have HO375 := Aside0.mk Q_HO375
        have HO380 := Aside0.mk Q_HO380
        have HO385 := Aside0.mk Q_HO385
        have HO406 := Aside0.mk Q_HO406
        have HO411 := Aside0.mk Q_HO411
        have HO432 := Aside0.mk Q_HO432
        have HO437 := Aside0.mk Q_HO437
        have HO458 := Aside0.mk Q_HO458
        have HO463 := Aside0.mk Q_HO463
        have HO492 := Aside0.mk Q_HO492
        have HO495 := Aside0.mk Q_HO495
        have HO524 := Aside0.mk Q_HO524
        have HO527 := Aside0.mk Q_HO527
        have BK306 := Aside0.mk Q_BK306
        have HB := Aside0.mk Q_HB
        have hc0_ : w'.cell? ⟨gb306, 0, none⟩ = some (.int .i64 t300) := (blk_cell BK306.out 0).trans rfl
        have hc1_ : w'.cell? ⟨gb306, 1, none⟩ = some (.int .i64 t301) := (blk_cell BK306.out 1).trans rfl
        have hc2_ : w'.cell? ⟨gb306, 2, none⟩ = some (.bool t302) := (blk_cell BK306.out 2).trans rfl
        have hc3_ : w'.cell? ⟨gb306, 3, none⟩ = some (.bool t303) := (blk_cell BK306.out 3).trans rfl
        have hc4_ : w'.cell? ⟨gb306, 4, none⟩ = some (.int .i64 t304) := (blk_cell BK306.out 4).trans rfl
        have hc5_ : w'.cell? ⟨gb306, 5, none⟩ = some (.int .i64 t305) := (blk_cell BK306.out 5).trans rfl
        refine value_ (w1 := w') (v := .agg #[.int .i64 t300, .int .i64 t301, .bool t302, .bool t303, .int .i64 t304, .int .i64 t305]) (by rfl) rfl ?_ ?_
        · go_simp
          (try simp only [i64_w])
          try rfl
        refine hK.out _ _ ⟨v549, v552, (by rw [ha.out]; exact putSel_upk 1 hb_ rfl rfl rfl), Q_HO375, Q_HO380, Q_HO385, Q_HO406, Q_HO411, Q_HO432, Q_HO437, Q_HO458, Q_HO463, Q_HO492, Q_HO495, Q_HO524, Q_HO527, Q_BK306, Q_HB, fun h0_ => absurd ((hoff 2 (by kernel_rfl)).symm.trans h0_) (by decide), Q_HO553⟩
      refine steps_cons ?_ ?_
      · rintro b a w' ⟨v549, v552, ha, Q_HO375, Q_HO380, Q_HO385, Q_HO406, Q_HO411, Q_HO432, Q_HO437, Q_HO458, Q_HO463, Q_HO492, Q_HO495, Q_HO524, Q_HO527, Q_BK306, Q_HB, Q_HO550, Q_HO553⟩ hb_ hon hoff
        refine ⟨_, rfl, fun K hK => ?_⟩
        have e118 : a.tmps[118]? = some (.agg #[.int .i64 t300, .int .i64 t301, .bool t302, .bool t303, .int .i64 t304, .int .i64 t305]) := by rw [ha]; exact putSel_on (e := (0, 118, .agg #[.int .i64 t300, .int .i64 t301, .bool t302, .bool t303, .int .i64 t304, .int .i64 t305])) 0 rfl rfl (hon 0 (by kernel_rfl)) rfl
        have e119 : a.tmps[119]? = some (.agg #[.int .i64 t300, .int .i64 t301, .bool t302, .bool t303, .int .i64 t304, .int .i64 t305]) := by rw [ha]; exact putSel_on (e := (1, 119, .agg #[.int .i64 t300, .int .i64 t301, .bool t302, .bool t303, .int .i64 t304, .int .i64 t305])) 1 rfl rfl (hon 1 (by kernel_rfl)) rfl
        replace ha := Aside0.mk ha
        have HO375 := Aside0.mk Q_HO375
        have HO380 := Aside0.mk Q_HO380
        have HO385 := Aside0.mk Q_HO385
        have HO406 := Aside0.mk Q_HO406
        have HO411 := Aside0.mk Q_HO411
        have HO432 := Aside0.mk Q_HO432
        have HO437 := Aside0.mk Q_HO437
        have HO458 := Aside0.mk Q_HO458
        have HO463 := Aside0.mk Q_HO463
        have HO492 := Aside0.mk Q_HO492
        have HO495 := Aside0.mk Q_HO495
        have HO524 := Aside0.mk Q_HO524
        have HO527 := Aside0.mk Q_HO527
        have BK306 := Aside0.mk Q_BK306
        have HB := Aside0.mk Q_HB
        refine Kd.R_lit_step k48 _ 48 ?hg (N := 120) ?hd (xs := ([(⟨t300, t301, t302, t303, t304, t305⟩ : S48), (⟨t300, t301, t302, t303, t304, t305⟩ : S48)] : List (S48))) (inner := [.int .i64 t300, .int .i64 t301, .bool t302, .bool t303, .int .i64 t304, .int .i64 t305, .int .i64 t300, .int .i64 t301, .bool t302, .bool t303, .int .i64 t304, .int .i64 t305]) (ok := fun _ => True) (okp := fun _ => True) ?hr ?hp (fun _ hk => hk) trivial (Below.refl _ _) (Nat.le_refl _) (by simp) ?_; (case hd => rfl); (case hg => rfl); (case hr => first | (go_simp; done) | (go_simp; rfl)); (case hp => exact (Reps.c6 (show Kd.M k48 _ _ _ (⟨t300, t301, t302, t303, t304, t305⟩ : S48) [.int .i64 t300, .int .i64 t301, .bool t302, .bool t303, .int .i64 t304, .int .i64 t305] from (k48_mkM _ _ _ (⟨t300, t301, t302, t303, t304, t305⟩ : S48) )) (Reps.c6 (show Kd.M k48 _ _ _ (⟨t300, t301, t302, t303, t304, t305⟩ : S48) [.int .i64 t300, .int .i64 t301, .bool t302, .bool t303, .int .i64 t304, .int .i64 t305] from (k48_mkM _ _ _ (⟨t300, t301, t302, t303, t304, t305⟩ : S48) )) (Reps.none _ _))))
        intro v549 w200 ho201 hb hg_ hnew_
        clear hg_ hnew_
        (first | rw [← Ny548.out] at ho201 | (simp only [Int.reduceToNat] at ho201; rw [← Ny548.out] at ho201))
        have n0_ := Aside0.mk (Kd.R_below (HO375.out) hb)
        have n1_ := Aside0.mk (Kd.R_below (HO380.out) hb)
        have n2_ := Aside0.mk (Kd.R_elder' (HO385.out) (Kd.R_base ho201) hb)
        have n3_ := Aside0.mk (Kd.R_below (HO406.out) hb)
        have n4_ := Aside0.mk (Kd.R_elder' (HO411.out) (Kd.R_base ho201) hb)
        have n5_ := Aside0.mk (Kd.R_below (HO432.out) hb)
        have n6_ := Aside0.mk (Kd.R_elder' (HO437.out) (Kd.R_base ho201) hb)
        have n7_ := Aside0.mk (Kd.R_below (HO458.out) hb)
        have n8_ := Aside0.mk (Kd.R_elder' (HO463.out) (Kd.R_base ho201) hb)
        have n9_ := Aside0.mk (Kd.R_elder' (HO492.out) (Kd.R_base ho201) hb)
        have n10_ := Aside0.mk (Kd.R_below (HO495.out) hb)
        have n11_ := Aside0.mk (Kd.R_elder' (HO524.out) (Kd.R_base ho201) hb)
        have n12_ := Aside0.mk (Kd.R_below (HO527.out) hb)
        have n13_ := Aside0.mk (Kd.R_lower (Kd.R_newB (Kd.R_new' (Kd.R_new' (Kd.R_new' (Kd.R_new' (Kd.R_new' (Kd.R_new' ho201 (Kd.R_lt (HO385.out))) (Kd.R_lt (HO411.out))) (Kd.R_lt (HO437.out))) (Kd.R_lt (HO463.out))) (Kd.R_lt (HO492.out))) (Kd.R_lt (HO524.out))) (g := gb306) (o := .cells #[.int .i64 t300, .int .i64 t301, .bool t302, .bool t303, .int .i64 t304, .int .i64 t305] 48 (0, 0)) BK306.out) (below_size HB.out))
        have n14_ := Aside0.mk (blk_below (g := gb306) (o := .cells #[.int .i64 t300, .int .i64 t301, .bool t302, .bool t303, .int .i64 t304, .int .i64 t305] 48 (0, 0)) BK306.out hb)
        have n15_ := Aside0.mk (below_step HB.out hb)
        have z_HO553 := fun (h0_ : b 3 = true) => (show Kd.R Kd.bool 4 w200 w.heap.size (fun _ => True) v552 y551 from by first | exact (Kd.R_below ((Q_HO553 h0_)) hb) | exact Kd.R_mono (Kd.R_below ((Q_HO553 h0_)) hb) (fun _ _ => trivial))
        clear HO375
        clear HO380
        clear HO385
        clear HO406
        clear HO411
        clear HO432
        clear HO437
        clear HO458
        clear HO463
        clear HO492
        clear HO495
        clear HO524
        clear HO527
        clear BK306
        clear HB
        have HO375 := n0_
        have HO380 := n1_
        have HO385 := n2_
        have HO406 := n3_
        have HO411 := n4_
        have HO432 := n5_
        have HO437 := n6_
        have HO458 := n7_
        have HO463 := n8_
        have HO492 := n9_
        have HO495 := n10_
        have HO524 := n11_
        have HO527 := n12_
        have HO550 := n13_
        have BK306 := n14_
        have HB := n15_
        clear n0_ n1_ n2_ n3_ n4_ n5_ n6_ n7_ n8_ n9_ n10_ n11_ n12_ n13_ n14_ n15_
        clear hb ho201
        refine hK.out _ _ ⟨v549, v552, (by rw [ha.out]; exact putSel_upk 2 hb_ rfl rfl rfl), (Kd.R_mono HO375.out (fun _ _ => trivial)), (Kd.R_mono HO380.out (fun _ _ => trivial)), (Kd.R_mono HO385.out (fun _ _ => trivial)), (Kd.R_mono HO406.out (fun _ _ => trivial)), (Kd.R_mono HO411.out (fun _ _ => trivial)), (Kd.R_mono HO432.out (fun _ _ => trivial)), (Kd.R_mono HO437.out (fun _ _ => trivial)), (Kd.R_mono HO458.out (fun _ _ => trivial)), (Kd.R_mono HO463.out (fun _ _ => trivial)), (Kd.R_mono HO492.out (fun _ _ => trivial)), (Kd.R_mono HO495.out (fun _ _ => trivial)), (Kd.R_mono HO524.out (fun _ _ => trivial)), (Kd.R_mono HO527.out (fun _ _ => trivial)), BK306.out, HB.out, fun _ => (Kd.R_mono HO550.out (fun _ _ => trivial)), z_HO553⟩
      refine steps_cons ?_ ?_
      · rintro b a w' ⟨v549, v552, ha, Q_HO375, Q_HO380, Q_HO385, Q_HO406, Q_HO411, Q_HO432, Q_HO437, Q_HO458, Q_HO463, Q_HO492, Q_HO495, Q_HO524, Q_HO527, Q_BK306, Q_HB, Q_HO550, Q_HO553⟩ hb_ hon hoff
        refine ⟨_, rfl, fun K hK => ?_⟩
        replace ha := Aside0.mk ha
        have HO375 := Aside0.mk Q_HO375
        have HO380 := Aside0.mk Q_HO380
        have HO385 := Aside0.mk Q_HO385
        have HO406 := Aside0.mk Q_HO406
        have HO411 := Aside0.mk Q_HO411
        have HO432 := Aside0.mk Q_HO432
        have HO437 := Aside0.mk Q_HO437
        have HO458 := Aside0.mk Q_HO458
        have HO463 := Aside0.mk Q_HO463
        have HO492 := Aside0.mk Q_HO492
        have HO495 := Aside0.mk Q_HO495
        have HO524 := Aside0.mk Q_HO524
        have HO527 := Aside0.mk Q_HO527
        have BK306 := Aside0.mk Q_BK306
        have HB := Aside0.mk Q_HB
        refine Kd.R_lit_step Kd.bool _ 4 ?hg (N := 121) ?hd (xs := ([true, false] : List Bool)) (inner := [.bool true, .bool false]) (ok := fun _ => True) (okp := fun _ => True) ?hr ?hp (fun _ hk => hk) trivial (Below.refl _ _) (Nat.le_refl _) (by simp) ?_; (case hd => rfl); (case hg => rfl); (case hr => first | (go_simp; done) | (go_simp; rfl)); (case hp => exact (Reps.one (show Kd.M Kd.bool _ _ _ true [.bool true] from rfl) (Reps.one (show Kd.M Kd.bool _ _ _ false [.bool false] from rfl) (Reps.none _ _))))
        intro v552 w200 ho201 hb hg_ hnew_
        clear hg_ hnew_
        (first | rw [← Ny551.out] at ho201 | (simp only [Int.reduceToNat] at ho201; rw [← Ny551.out] at ho201))
        have n0_ := Aside0.mk (Kd.R_elder' (HO375.out) (Kd.R_base ho201) hb)
        have n1_ := Aside0.mk (Kd.R_elder' (HO380.out) (Kd.R_base ho201) hb)
        have n2_ := Aside0.mk (Kd.R_below (HO385.out) hb)
        have n3_ := Aside0.mk (Kd.R_elder' (HO406.out) (Kd.R_base ho201) hb)
        have n4_ := Aside0.mk (Kd.R_below (HO411.out) hb)
        have n5_ := Aside0.mk (Kd.R_elder' (HO432.out) (Kd.R_base ho201) hb)
        have n6_ := Aside0.mk (Kd.R_below (HO437.out) hb)
        have n7_ := Aside0.mk (Kd.R_elder' (HO458.out) (Kd.R_base ho201) hb)
        have n8_ := Aside0.mk (Kd.R_below (HO463.out) hb)
        have n9_ := Aside0.mk (Kd.R_below (HO492.out) hb)
        have n10_ := Aside0.mk (Kd.R_elder' (HO495.out) (Kd.R_base ho201) hb)
        have n11_ := Aside0.mk (Kd.R_below (HO524.out) hb)
        have n12_ := Aside0.mk (Kd.R_elder' (HO527.out) (Kd.R_base ho201) hb)
        have n13_ := Aside0.mk (Kd.R_lower (Kd.R_new' (Kd.R_new' (Kd.R_new' (Kd.R_new' (Kd.R_new' (Kd.R_new' (Kd.R_new' ho201 (Kd.R_lt (HO375.out))) (Kd.R_lt (HO380.out))) (Kd.R_lt (HO406.out))) (Kd.R_lt (HO432.out))) (Kd.R_lt (HO458.out))) (Kd.R_lt (HO495.out))) (Kd.R_lt (HO527.out))) (below_size HB.out))
        have n14_ := Aside0.mk (blk_below (g := gb306) (o := .cells #[.int .i64 t300, .int .i64 t301, .bool t302, .bool t303, .int .i64 t304, .int .i64 t305] 48 (0, 0)) BK306.out hb)
        have n15_ := Aside0.mk (below_step HB.out hb)
        have z_HO550 := fun (h0_ : b 2 = true) => (show Kd.R k48 48 w200 w.heap.size (fun _ => True) v549 y548 from by first | exact (Kd.R_below ((Q_HO550 h0_)) hb) | exact Kd.R_mono (Kd.R_below ((Q_HO550 h0_)) hb) (fun _ _ => trivial))
        clear HO375
        clear HO380
        clear HO385
        clear HO406
        clear HO411
        clear HO432
        clear HO437
        clear HO458
        clear HO463
        clear HO492
        clear HO495
        clear HO524
        clear HO527
        clear BK306
        clear HB
        have HO375 := n0_
        have HO380 := n1_
        have HO385 := n2_
        have HO406 := n3_
        have HO411 := n4_
        have HO432 := n5_
        have HO437 := n6_
        have HO458 := n7_
        have HO463 := n8_
        have HO492 := n9_
        have HO495 := n10_
        have HO524 := n11_
        have HO527 := n12_
        have HO553 := n13_
        have BK306 := n14_
        have HB := n15_
        clear n0_ n1_ n2_ n3_ n4_ n5_ n6_ n7_ n8_ n9_ n10_ n11_ n12_ n13_ n14_ n15_
        clear hb ho201
        refine hK.out _ _ ⟨v549, v552, (by rw [ha.out]; exact putSel_upk 3 hb_ rfl rfl rfl), (Kd.R_mono HO375.out (fun _ _ => trivial)), (Kd.R_mono HO380.out (fun _ _ => trivial)), (Kd.R_mono HO385.out (fun _ _ => trivial)), (Kd.R_mono HO406.out (fun _ _ => trivial)), (Kd.R_mono HO411.out (fun _ _ => trivial)), (Kd.R_mono HO432.out (fun _ _ => trivial)), (Kd.R_mono HO437.out (fun _ _ => trivial)), (Kd.R_mono HO458.out (fun _ _ => trivial)), (Kd.R_mono HO463.out (fun _ _ => trivial)), (Kd.R_mono HO492.out (fun _ _ => trivial)), (Kd.R_mono HO495.out (fun _ _ => trivial)), (Kd.R_mono HO524.out (fun _ _ => trivial)), (Kd.R_mono HO527.out (fun _ _ => trivial)), BK306.out, HB.out, z_HO550, fun _ => (Kd.R_mono HO553.out (fun _ _ => trivial))⟩
      refine steps_cons ?_ ?_
      · rintro b a w' ⟨v549, v552, ha, Q_HO375, Q_HO380, Q_HO385, Q_HO406, Q_HO411, Q_HO432, Q_HO437, Q_HO458, Q_HO463, Q_HO492, Q_HO495, Q_HO524, Q_HO527, Q_BK306, Q_HB, Q_HO550, Q_HO553⟩ hb_ hon hoff
        refine ⟨_, rfl, fun K hK => ?_⟩
        replace ha := Aside0.mk ha
        have HO375 := Aside0.mk Q_HO375
        have HO380 := Aside0.mk Q_HO380
        have HO385 := Aside0.mk Q_HO385
        have HO406 := Aside0.mk Q_HO406
        have HO411 := Aside0.mk Q_HO411
        have HO432 := Aside0.mk Q_HO432
        have HO437 := Aside0.mk Q_HO437
        have HO458 := Aside0.mk Q_HO458
        have HO463 := Aside0.mk Q_HO463
        have HO492 := Aside0.mk Q_HO492
        have HO495 := Aside0.mk Q_HO495
        have HO524 := Aside0.mk Q_HO524
        have HO527 := Aside0.mk Q_HO527
        have BK306 := Aside0.mk Q_BK306
        have HB := Aside0.mk Q_HB
        refine goes_ Try.func21 (by kernel_rfl) rfl #[] (by rfl) rfl rfl (by first | (simp only [List.map_toArray, List.map_cons, List.map_nil, Act.eval, Array.getD_eq_getD_getElem?, Option.getD_some]; done) | (simp only [List.map_toArray, List.map_cons, List.map_nil, Act.eval, Array.getD_eq_getD_getElem?, Option.getD_some]; rfl)) ?_
        with_reducible refine (regletlaw14_ten.calls  t554 t555 t556 t557 t558 t559 t560 t561 t562 t563 t564 t565 t566 t567 t568 t569 t570 t571 _ A142.out).mono ?_
        rintro e w200 ⟨rfl, hb⟩
        refine ⟨_, rfl, ?_⟩
        have n0_ := Aside0.mk (Kd.R_below (HO375.out) hb)
        have n1_ := Aside0.mk (Kd.R_below (HO380.out) hb)
        have n2_ := Aside0.mk (Kd.R_below (HO385.out) hb)
        have n3_ := Aside0.mk (Kd.R_below (HO406.out) hb)
        have n4_ := Aside0.mk (Kd.R_below (HO411.out) hb)
        have n5_ := Aside0.mk (Kd.R_below (HO432.out) hb)
        have n6_ := Aside0.mk (Kd.R_below (HO437.out) hb)
        have n7_ := Aside0.mk (Kd.R_below (HO458.out) hb)
        have n8_ := Aside0.mk (Kd.R_below (HO463.out) hb)
        have n9_ := Aside0.mk (Kd.R_below (HO492.out) hb)
        have n10_ := Aside0.mk (Kd.R_below (HO495.out) hb)
        have n11_ := Aside0.mk (Kd.R_below (HO524.out) hb)
        have n12_ := Aside0.mk (Kd.R_below (HO527.out) hb)
        have n13_ := Aside0.mk (blk_below (g := gb306) (o := .cells #[.int .i64 t300, .int .i64 t301, .bool t302, .bool t303, .int .i64 t304, .int .i64 t305] 48 (0, 0)) BK306.out hb)
        have n14_ := Aside0.mk (below_step HB.out hb)
        have z_HO550 := fun (h0_ : b 2 = true) => (show Kd.R k48 48 w200 w.heap.size (fun _ => True) v549 y548 from by first | exact (Kd.R_below ((Q_HO550 h0_)) hb) | exact Kd.R_mono (Kd.R_below ((Q_HO550 h0_)) hb) (fun _ _ => trivial))
        have z_HO553 := fun (h0_ : b 3 = true) => (show Kd.R Kd.bool 4 w200 w.heap.size (fun _ => True) v552 y551 from by first | exact (Kd.R_below ((Q_HO553 h0_)) hb) | exact Kd.R_mono (Kd.R_below ((Q_HO553 h0_)) hb) (fun _ _ => trivial))
        clear HO375
        clear HO380
        clear HO385
        clear HO406
        clear HO411
        clear HO432
        clear HO437
        clear HO458
        clear HO463
        clear HO492
        clear HO495
        clear HO524
        clear HO527
        clear BK306
        clear HB
        have HO375 := n0_
        have HO380 := n1_
        have HO385 := n2_
        have HO406 := n3_
        have HO411 := n4_
        have HO432 := n5_
        have HO437 := n6_
        have HO458 := n7_
        have HO463 := n8_
        have HO492 := n9_
        have HO495 := n10_
        have HO524 := n11_
        have HO527 := n12_
        have BK306 := n13_
        have HB := n14_
        clear n0_ n1_ n2_ n3_ n4_ n5_ n6_ n7_ n8_ n9_ n10_ n11_ n12_ n13_ n14_
        (try clear hb)
        (try clear hb2)
        (try clear hk)
        (try clear hi)
        refine hK.out _ _ ⟨v549, v552, (by rw [ha.out]; exact putSel_upk 4 hb_ rfl rfl rfl), (Kd.R_mono HO375.out (fun _ _ => trivial)), (Kd.R_mono HO380.out (fun _ _ => trivial)), (Kd.R_mono HO385.out (fun _ _ => trivial)), (Kd.R_mono HO406.out (fun _ _ => trivial)), (Kd.R_mono HO411.out (fun _ _ => trivial)), (Kd.R_mono HO432.out (fun _ _ => trivial)), (Kd.R_mono HO437.out (fun _ _ => trivial)), (Kd.R_mono HO458.out (fun _ _ => trivial)), (Kd.R_mono HO463.out (fun _ _ => trivial)), (Kd.R_mono HO492.out (fun _ _ => trivial)), (Kd.R_mono HO495.out (fun _ _ => trivial)), (Kd.R_mono HO524.out (fun _ _ => trivial)), (Kd.R_mono HO527.out (fun _ _ => trivial)), BK306.out, HB.out, z_HO550, z_HO553⟩
      refine steps_cons ?_ ?_
      · rintro b a w' ⟨v549, v552, ha, Q_HO375, Q_HO380, Q_HO385, Q_HO406, Q_HO411, Q_HO432, Q_HO437, Q_HO458, Q_HO463, Q_HO492, Q_HO495, Q_HO524, Q_HO527, Q_BK306, Q_HB, Q_HO550, Q_HO553⟩ hb_ hon hoff
        refine ⟨_, rfl, fun K hK => ?_⟩
        have e120 : a.tmps[120]? = some (v549) := by rw [ha]; exact putSel_on (e := (2, 120, v549)) 2 rfl rfl (hon 2 (by kernel_rfl)) rfl
        have e121 : a.tmps[121]? = some (v552) := by rw [ha]; exact putSel_on (e := (3, 121, v552)) 3 rfl rfl (hon 3 (by kernel_rfl)) rfl
        have e122 : a.tmps[122]? = some (.agg #[.int .i64 t554, .int .i64 t555, .int .i64 t556, .int .i64 t557, .bool t558, .bool t559, .bool t560, .int .i64 t561, .int .i64 t562, .int .i64 t563, .int .i64 t564, .int .i64 t565, .int .i64 t566, .int .i64 t567, .int .i64 t568, .int .i64 t569, .int .i64 t570, .int .i64 t571]) := by rw [ha]; exact putSel_on (e := (4, 122, .agg #[.int .i64 t554, .int .i64 t555, .int .i64 t556, .int .i64 t557, .bool t558, .bool t559, .bool t560, .int .i64 t561, .int .i64 t562, .int .i64 t563, .int .i64 t564, .int .i64 t565, .int .i64 t566, .int .i64 t567, .int .i64 t568, .int .i64 t569, .int .i64 t570, .int .i64 t571])) 4 rfl rfl (hon 4 (by kernel_rfl)) rfl
        replace ha := Aside0.mk ha
        have HO375 := Aside0.mk Q_HO375
        have HO380 := Aside0.mk Q_HO380
        have HO385 := Aside0.mk Q_HO385
        have HO406 := Aside0.mk Q_HO406
        have HO411 := Aside0.mk Q_HO411
        have HO432 := Aside0.mk Q_HO432
        have HO437 := Aside0.mk Q_HO437
        have HO458 := Aside0.mk Q_HO458
        have HO463 := Aside0.mk Q_HO463
        have HO492 := Aside0.mk Q_HO492
        have HO495 := Aside0.mk Q_HO495
        have HO524 := Aside0.mk Q_HO524
        have HO527 := Aside0.mk Q_HO527
        have BK306 := Aside0.mk Q_BK306
        have HB := Aside0.mk Q_HB
        have HO550 := Aside0.mk (Q_HO550 (hon 2 (by kernel_rfl)))
        have HO553 := Aside0.mk (Q_HO553 (hon 3 (by kernel_rfl)))
        obtain ⟨Ao206, co206, eo206⟩ := Kd.R_slice HO550.out
        (first | subst eo206 | (injection eo206 with f1_ f2_ f3_; have f4_ := f1_.symm; have f5_ := f3_.symm; clear f1_ f2_ f3_; subst f4_; subst f5_))
        obtain ⟨Ao207, co207, eo207⟩ := Kd.R_slice HO553.out
        (first | subst eo207 | (injection eo207 with f1_ f2_ f3_; have f4_ := f1_.symm; have f5_ := f3_.symm; clear f1_ f2_ f3_; subst f4_; subst f5_))
        refine goes_ Try.func9 (by kernel_rfl) rfl #[.int .i64 4, .slice Ao206 y548.length co206, .slice Ao207 y551.length co207, .agg #[.int .i64 t554, .int .i64 t555, .int .i64 t556, .int .i64 t557, .bool t558, .bool t559, .bool t560, .int .i64 t561, .int .i64 t562, .int .i64 t563, .int .i64 t564, .int .i64 t565, .int .i64 t566, .int .i64 t567, .int .i64 t568, .int .i64 t569, .int .i64 t570, .int .i64 t571]] (by rfl) rfl rfl (by first | (simp only [List.map_toArray, List.map_cons, List.map_nil, Act.eval, Array.getD_eq_getD_getElem?, Option.getD_some, e120, e121, e122]; done) | (simp only [List.map_toArray, List.map_cons, List.map_nil, Act.eval, Array.getD_eq_getD_getElem?, Option.getD_some, e120, e121, e122]; rfl)) ?_
        with_reducible refine (search_Cost.calls k 4 _ _ y548 _ _ y551 t554 t555 t556 t557 t558 t559 t560 t561 t562 t563 t564 t565 t566 t567 t568 t569 t570 t571 t572 t573 _ ?side1 ?side2 ?side3 ?side4 A143.out).mono ?_
        (case side1 => repeat (first | exact (Kd.R_reads' HO550.out).2.2 | (with_reducible refine Kd.C_alloc ?_ _) | (with_reducible refine Kd.C_drewN ?_ _) | (with_reducible refine Kd.C_drew ?_)))
        (case side2 => exact (Kd.R_reads' HO550.out).2.1)
        (case side3 => repeat (first | exact (Kd.R_reads' HO553.out).2.2 | (with_reducible refine Kd.C_alloc ?_ _) | (with_reducible refine Kd.C_drewN ?_ _) | (with_reducible refine Kd.C_drew ?_)))
        (case side4 => exact (Kd.R_reads' HO553.out).2.1)
        rintro e w208 ⟨rfl, hb⟩
        refine ⟨_, rfl, ?_⟩
        have n0_ := Aside0.mk (Kd.R_below (HO375.out) hb)
        have n1_ := Aside0.mk (Kd.R_below (HO380.out) hb)
        have n2_ := Aside0.mk (Kd.R_below (HO385.out) hb)
        have n3_ := Aside0.mk (Kd.R_below (HO406.out) hb)
        have n4_ := Aside0.mk (Kd.R_below (HO411.out) hb)
        have n5_ := Aside0.mk (Kd.R_below (HO432.out) hb)
        have n6_ := Aside0.mk (Kd.R_below (HO437.out) hb)
        have n7_ := Aside0.mk (Kd.R_below (HO458.out) hb)
        have n8_ := Aside0.mk (Kd.R_below (HO463.out) hb)
        have n9_ := Aside0.mk (Kd.R_below (HO492.out) hb)
        have n10_ := Aside0.mk (Kd.R_below (HO495.out) hb)
        have n11_ := Aside0.mk (Kd.R_below (HO524.out) hb)
        have n12_ := Aside0.mk (Kd.R_below (HO527.out) hb)
        have n13_ := Aside0.mk (Kd.R_below (HO550.out) hb)
        have n14_ := Aside0.mk (Kd.R_below (HO553.out) hb)
        have n15_ := Aside0.mk (blk_below (g := gb306) (o := .cells #[.int .i64 t300, .int .i64 t301, .bool t302, .bool t303, .int .i64 t304, .int .i64 t305] 48 (0, 0)) BK306.out hb)
        have n16_ := Aside0.mk (below_step HB.out hb)
        clear HO375
        clear HO380
        clear HO385
        clear HO406
        clear HO411
        clear HO432
        clear HO437
        clear HO458
        clear HO463
        clear HO492
        clear HO495
        clear HO524
        clear HO527
        clear HO550
        clear HO553
        clear BK306
        clear HB
        have HO375 := n0_
        have HO380 := n1_
        have HO385 := n2_
        have HO406 := n3_
        have HO411 := n4_
        have HO432 := n5_
        have HO437 := n6_
        have HO458 := n7_
        have HO463 := n8_
        have HO492 := n9_
        have HO495 := n10_
        have HO524 := n11_
        have HO527 := n12_
        have HO550 := n13_
        have HO553 := n14_
        have BK306 := n15_
        have HB := n16_
        clear n0_ n1_ n2_ n3_ n4_ n5_ n6_ n7_ n8_ n9_ n10_ n11_ n12_ n13_ n14_ n15_ n16_
        (try clear hb)
        (try clear hb2)
        (try clear hk)
        (try clear hi)
        refine hK.out _ _ ⟨.slice Ao206 y548.length co206, .slice Ao207 y551.length co207, (by rw [ha.out]; exact putSel_upk 5 hb_ rfl rfl rfl), (Kd.R_mono HO375.out (fun _ _ => trivial)), (Kd.R_mono HO380.out (fun _ _ => trivial)), (Kd.R_mono HO385.out (fun _ _ => trivial)), (Kd.R_mono HO406.out (fun _ _ => trivial)), (Kd.R_mono HO411.out (fun _ _ => trivial)), (Kd.R_mono HO432.out (fun _ _ => trivial)), (Kd.R_mono HO437.out (fun _ _ => trivial)), (Kd.R_mono HO458.out (fun _ _ => trivial)), (Kd.R_mono HO463.out (fun _ _ => trivial)), (Kd.R_mono HO492.out (fun _ _ => trivial)), (Kd.R_mono HO495.out (fun _ _ => trivial)), (Kd.R_mono HO524.out (fun _ _ => trivial)), (Kd.R_mono HO527.out (fun _ _ => trivial)), BK306.out, HB.out, fun _ => (Kd.R_mono HO550.out (fun _ _ => trivial)), fun _ => (Kd.R_mono HO553.out (fun _ _ => trivial))⟩
      refine steps_cons ?_ ?_
      · rintro b a w' ⟨v549, v552, ha, Q_HO375, Q_HO380, Q_HO385, Q_HO406, Q_HO411, Q_HO432, Q_HO437, Q_HO458, Q_HO463, Q_HO492, Q_HO495, Q_HO524, Q_HO527, Q_BK306, Q_HB, Q_HO550, Q_HO553⟩ hb_ hon hoff
        refine ⟨_, rfl, fun K hK => ?_⟩
        have e123 : a.tmps[123]? = some (.tuple #[.int .i64 t572, .int .i64 t573]) := by rw [ha]; exact putSel_on (e := (5, 123, .tuple #[.int .i64 t572, .int .i64 t573])) 5 rfl rfl (hon 5 (by kernel_rfl)) rfl
        replace ha := Aside0.mk ha
        have HO375 := Aside0.mk Q_HO375
        have HO380 := Aside0.mk Q_HO380
        have HO385 := Aside0.mk Q_HO385
        have HO406 := Aside0.mk Q_HO406
        have HO411 := Aside0.mk Q_HO411
        have HO432 := Aside0.mk Q_HO432
        have HO437 := Aside0.mk Q_HO437
        have HO458 := Aside0.mk Q_HO458
        have HO463 := Aside0.mk Q_HO463
        have HO492 := Aside0.mk Q_HO492
        have HO495 := Aside0.mk Q_HO495
        have HO524 := Aside0.mk Q_HO524
        have HO527 := Aside0.mk Q_HO527
        have BK306 := Aside0.mk Q_BK306
        have HB := Aside0.mk Q_HB
        have HO550 := Aside0.mk (Q_HO550 (hon 2 (by kernel_rfl)))
        have HO553 := Aside0.mk (Q_HO553 (hon 3 (by kernel_rfl)))
        refine value_ (w1 := w') (v := .tuple #[.int .i64 t572, .int .i64 t573]) (by rfl) rfl ?_ ?_
        · go_simp
          (try simp only [i64_w])
          try rfl
        refine hK.out _ _ ⟨v549, v552, (by rw [ha.out]; exact putSel_upk 6 hb_ rfl rfl rfl), Q_HO375, Q_HO380, Q_HO385, Q_HO406, Q_HO411, Q_HO432, Q_HO437, Q_HO458, Q_HO463, Q_HO492, Q_HO495, Q_HO524, Q_HO527, Q_BK306, Q_HB, Q_HO550, Q_HO553⟩
      refine steps_cons ?_ ?_
      · rintro b a w' ⟨v549, v552, ha, Q_HO375, Q_HO380, Q_HO385, Q_HO406, Q_HO411, Q_HO432, Q_HO437, Q_HO458, Q_HO463, Q_HO492, Q_HO495, Q_HO524, Q_HO527, Q_BK306, Q_HB, Q_HO550, Q_HO553⟩ hb_ hon hoff
        refine ⟨_, rfl, fun K hK => ?_⟩
        have e117 : a.tmps[117]? = some (.tuple #[.int .i64 t572, .int .i64 t573]) := by rw [ha]; exact putSel_on (e := (6, 117, .tuple #[.int .i64 t572, .int .i64 t573])) 6 rfl rfl (hon 6 (by kernel_rfl)) rfl
        replace ha := Aside0.mk ha
        have HO375 := Aside0.mk Q_HO375
        have HO380 := Aside0.mk Q_HO380
        have HO385 := Aside0.mk Q_HO385
        have HO406 := Aside0.mk Q_HO406
        have HO411 := Aside0.mk Q_HO411
        have HO432 := Aside0.mk Q_HO432
        have HO437 := Aside0.mk Q_HO437
        have HO458 := Aside0.mk Q_HO458
        have HO463 := Aside0.mk Q_HO463
        have HO492 := Aside0.mk Q_HO492
        have HO495 := Aside0.mk Q_HO495
        have HO524 := Aside0.mk Q_HO524
        have HO527 := Aside0.mk Q_HO527
        have BK306 := Aside0.mk Q_BK306
        have HB := Aside0.mk Q_HB
        have HO550 := Aside0.mk (Q_HO550 (hon 2 (by kernel_rfl)))
        have HO553 := Aside0.mk (Q_HO553 (hon 3 (by kernel_rfl)))
        refine value_ (w1 := w') (v := .int .i64 t572) (by rfl) rfl ?_ ?_
        · go_simp
          (try simp only [i64_w])
          try rfl
        refine hK.out _ _ ⟨v549, v552, (by rw [ha.out]; exact putSel_upk 7 hb_ rfl rfl rfl), Q_HO375, Q_HO380, Q_HO385, Q_HO406, Q_HO411, Q_HO432, Q_HO437, Q_HO458, Q_HO463, Q_HO492, Q_HO495, Q_HO524, Q_HO527, Q_BK306, Q_HB, Q_HO550, Q_HO553⟩
      refine steps_cons ?_ ?_
      · rintro b a w' ⟨v549, v552, ha, Q_HO375, Q_HO380, Q_HO385, Q_HO406, Q_HO411, Q_HO432, Q_HO437, Q_HO458, Q_HO463, Q_HO492, Q_HO495, Q_HO524, Q_HO527, Q_BK306, Q_HB, Q_HO550, Q_HO553⟩ hb_ hon hoff
        refine ⟨_, rfl, fun K hK => ?_⟩
        have e117 : a.tmps[117]? = some (.tuple #[.int .i64 t572, .int .i64 t573]) := by rw [ha]; exact putSel_on (e := (6, 117, .tuple #[.int .i64 t572, .int .i64 t573])) 6 rfl rfl (hon 6 (by kernel_rfl)) rfl
        replace ha := Aside0.mk ha
        have HO375 := Aside0.mk Q_HO375
        have HO380 := Aside0.mk Q_HO380
        have HO385 := Aside0.mk Q_HO385
        have HO406 := Aside0.mk Q_HO406
        have HO411 := Aside0.mk Q_HO411
        have HO432 := Aside0.mk Q_HO432
        have HO437 := Aside0.mk Q_HO437
        have HO458 := Aside0.mk Q_HO458
        have HO463 := Aside0.mk Q_HO463
        have HO492 := Aside0.mk Q_HO492
        have HO495 := Aside0.mk Q_HO495
        have HO524 := Aside0.mk Q_HO524
        have HO527 := Aside0.mk Q_HO527
        have BK306 := Aside0.mk Q_BK306
        have HB := Aside0.mk Q_HB
        have HO550 := Aside0.mk (Q_HO550 (hon 2 (by kernel_rfl)))
        have HO553 := Aside0.mk (Q_HO553 (hon 3 (by kernel_rfl)))
        refine value_ (w1 := w') (v := .int .i64 t573) (by rfl) rfl ?_ ?_
        · go_simp
          (try simp only [i64_w])
          try rfl
        refine hK.out _ _ ⟨v549, v552, (by rw [ha.out]; exact putSel_upk 8 hb_ rfl rfl rfl), Q_HO375, Q_HO380, Q_HO385, Q_HO406, Q_HO411, Q_HO432, Q_HO437, Q_HO458, Q_HO463, Q_HO492, Q_HO495, Q_HO524, Q_HO527, Q_BK306, Q_HB, Q_HO550, Q_HO553⟩
      refine steps_cons ?_ ?_
      · rintro b a w' ⟨v549, v552, ha, Q_HO375, Q_HO380, Q_HO385, Q_HO406, Q_HO411, Q_HO432, Q_HO437, Q_HO458, Q_HO463, Q_HO492, Q_HO495, Q_HO524, Q_HO527, Q_BK306, Q_HB, Q_HO550, Q_HO553⟩ hb_ hon hoff
        refine ⟨_, rfl, fun K hK => ?_⟩
        have e124 : a.tmps[124]? = some (.int .i64 t572) := by rw [ha]; exact putSel_on (e := (7, 124, .int .i64 t572)) 7 rfl rfl (hon 7 (by kernel_rfl)) rfl
        replace ha := Aside0.mk ha
        have HO375 := Aside0.mk Q_HO375
        have HO380 := Aside0.mk Q_HO380
        have HO385 := Aside0.mk Q_HO385
        have HO406 := Aside0.mk Q_HO406
        have HO411 := Aside0.mk Q_HO411
        have HO432 := Aside0.mk Q_HO432
        have HO437 := Aside0.mk Q_HO437
        have HO458 := Aside0.mk Q_HO458
        have HO463 := Aside0.mk Q_HO463
        have HO492 := Aside0.mk Q_HO492
        have HO495 := Aside0.mk Q_HO495
        have HO524 := Aside0.mk Q_HO524
        have HO527 := Aside0.mk Q_HO527
        have BK306 := Aside0.mk Q_BK306
        have HB := Aside0.mk Q_HB
        have HO550 := Aside0.mk (Q_HO550 (hon 2 (by kernel_rfl)))
        have HO553 := Aside0.mk (Q_HO553 (hon 3 (by kernel_rfl)))
        refine value_ (w1 := w') (v := .int .i64 t572) (by rfl) rfl ?_ ?_
        · go_simp
          (try simp only [i64_w])
          try rfl
        refine hK.out _ _ ⟨v549, v552, (by rw [ha.out]; exact putSel_upk 9 hb_ rfl rfl rfl), Q_HO375, Q_HO380, Q_HO385, Q_HO406, Q_HO411, Q_HO432, Q_HO437, Q_HO458, Q_HO463, Q_HO492, Q_HO495, Q_HO524, Q_HO527, Q_BK306, Q_HB, Q_HO550, Q_HO553⟩
      refine steps_cons ?_ ?_
      · rintro b a w' ⟨v549, v552, ha, Q_HO375, Q_HO380, Q_HO385, Q_HO406, Q_HO411, Q_HO432, Q_HO437, Q_HO458, Q_HO463, Q_HO492, Q_HO495, Q_HO524, Q_HO527, Q_BK306, Q_HB, Q_HO550, Q_HO553⟩ hb_ hon hoff
        refine ⟨_, rfl, fun K hK => ?_⟩
        have e125 : a.tmps[125]? = some (.int .i64 t573) := by rw [ha]; exact putSel_on (e := (8, 125, .int .i64 t573)) 8 rfl rfl (hon 8 (by kernel_rfl)) rfl
        replace ha := Aside0.mk ha
        have HO375 := Aside0.mk Q_HO375
        have HO380 := Aside0.mk Q_HO380
        have HO385 := Aside0.mk Q_HO385
        have HO406 := Aside0.mk Q_HO406
        have HO411 := Aside0.mk Q_HO411
        have HO432 := Aside0.mk Q_HO432
        have HO437 := Aside0.mk Q_HO437
        have HO458 := Aside0.mk Q_HO458
        have HO463 := Aside0.mk Q_HO463
        have HO492 := Aside0.mk Q_HO492
        have HO495 := Aside0.mk Q_HO495
        have HO524 := Aside0.mk Q_HO524
        have HO527 := Aside0.mk Q_HO527
        have BK306 := Aside0.mk Q_BK306
        have HB := Aside0.mk Q_HB
        have HO550 := Aside0.mk (Q_HO550 (hon 2 (by kernel_rfl)))
        have HO553 := Aside0.mk (Q_HO553 (hon 3 (by kernel_rfl)))
        refine value_ (w1 := w') (v := .int .i64 t573) (by rfl) rfl ?_ ?_
        · go_simp
          (try simp only [i64_w])
          try rfl
        refine hK.out _ _ ⟨v549, v552, (by rw [ha.out]; exact putSel_upk 10 hb_ rfl rfl rfl), Q_HO375, Q_HO380, Q_HO385, Q_HO406, Q_HO411, Q_HO432, Q_HO437, Q_HO458, Q_HO463, Q_HO492, Q_HO495, Q_HO524, Q_HO527, Q_BK306, Q_HB, Q_HO550, Q_HO553⟩
      exact steps_nil
    rintro b a w208 hall ⟨v549, v552, ha, Q_HO375, Q_HO380, Q_HO385, Q_HO406, Q_HO411, Q_HO432, Q_HO437, Q_HO458, Q_HO463, Q_HO492, Q_HO495, Q_HO524, Q_HO527, Q_BK306, Q_HB, Q_HO550, Q_HO553⟩
    clear BK306 HB HO375 HO380 HO385 HO406 HO411 HO432 HO437 HO458 HO463 HO492 HO495 HO524 HO527
    have hb0_ := hall 0 (by kernel_rfl)
    have hb1_ := hall 1 (by kernel_rfl)
    have hb2_ := hall 2 (by kernel_rfl)
    have hb3_ := hall 3 (by kernel_rfl)
    have hb4_ := hall 4 (by kernel_rfl)
    have hb5_ := hall 5 (by kernel_rfl)
    have hb6_ := hall 6 (by kernel_rfl)
    have hb7_ := hall 7 (by kernel_rfl)
    have hb8_ := hall 8 (by kernel_rfl)
    have hb9_ := hall 9 (by kernel_rfl)
    have hb10_ := hall 10 (by kernel_rfl)
    subst ha
    simp only [putSel, hb0_, hb1_, hb2_, hb3_, hb4_, hb5_, hb6_, hb7_, hb8_, hb9_, hb10_, if_true, Act.put, List.setIfInBounds_toArray, List.set_cons_zero, List.set_cons_succ]
    have HO375 := Aside0.mk Q_HO375
    clear Q_HO375
    have HO380 := Aside0.mk Q_HO380
    clear Q_HO380
    have HO385 := Aside0.mk Q_HO385
    clear Q_HO385
    have HO406 := Aside0.mk Q_HO406
    clear Q_HO406
    have HO411 := Aside0.mk Q_HO411
    clear Q_HO411
    have HO432 := Aside0.mk Q_HO432
    clear Q_HO432
    have HO437 := Aside0.mk Q_HO437
    clear Q_HO437
    have HO458 := Aside0.mk Q_HO458
    clear Q_HO458
    have HO463 := Aside0.mk Q_HO463
    clear Q_HO463
    have HO492 := Aside0.mk Q_HO492
    clear Q_HO492
    have HO495 := Aside0.mk Q_HO495
    clear Q_HO495
    have HO524 := Aside0.mk Q_HO524
    clear Q_HO524
    have HO527 := Aside0.mk Q_HO527
    clear Q_HO527
    have BK306 := Aside0.mk Q_BK306
    clear Q_BK306
    have HB := Aside0.mk Q_HB
    clear Q_HB
    have HO550 := Aside0.mk (Q_HO550 hb2_)
    clear Q_HO550
    have HO553 := Aside0.mk (Q_HO553 hb3_)
    clear Q_HO553
    clear hall hb0_ hb1_ hb2_ hb3_ hb4_ hb5_ hb6_ hb7_ hb8_ hb9_ hb10_
    try go_wp2
    go_ret
    exact ⟨by first | rfl | (simp [errW_none, errW_some] <;> rfl) | (simp [*, errW_none, errW_some] <;> rfl), by repeat (first | (with_reducible first | exact HB.out | apply below_alloc | apply pw_below_drewN | apply below_drew1 | refine below_set ?_ GE306.out) | exact HB.out)⟩
end Go.Proofs.Ytmihiememhfmnaa.P
