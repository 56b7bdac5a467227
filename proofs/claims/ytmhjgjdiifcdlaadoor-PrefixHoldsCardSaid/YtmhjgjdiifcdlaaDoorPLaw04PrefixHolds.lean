-- Laid by a program (wip/pr.py) out of the translation: each function as a Lean function, and the proof that the call comes to it.
import Derived.Test.YtmhjgjdiifcdlaaDoorShort
import Derived.Test.YtmhjgjdiifcdlaaDoorPBase
import Derived.Test.YtmhjgjdiifcdlaaDoorPPrefixHolds
import Derived.Test.YtmhjgjdiifcdlaaDoorPPrefixCovers
import Derived.Test.YtmhjgjdiifcdlaaDoorPPrefixCommon
import Derived.Test.YtmhjgjdiifcdlaaDoorPLaw04awake
import Derived.Test.YtmhjgjdiifcdlaaDoorPRef04Common
import Derived.Test.YtmhjgjdiifcdlaaDoorPRef04Holds
import Derived.Test.YtmhjgjdiifcdlaaDoorPRef04Covers
namespace Go.Proofs.YtmhjgjdiifcdlaaDoor.P
open Go.RowKit Go.Proofs.YtmhjgjdiifcdlaaDoorW.PrintWords Go.Proofs.YtmhjgjdiifcdlaaDoorW.PrintLast Go.Proofs.YtmhjgjdiifcdlaaDoorW.PrintMore
attribute [local go_sem] max2_int min2_int max_two min_two max_three min_three max_four min_four   -- for this text's walks alone
set_option linter.unusedVariables false
set_option linter.unusedSimpArgs false

/-! ### crosswaylaw04_PrefixHolds: function 4 -/
def crosswaylaw04_PrefixHolds.f (k : Nat) (a0_0 : Bool) (a0_1 : Int) (a0_2 : Int) (a0_3 : Int) (a1_0 : Bool) (a1_1 : Int) (a1_2 : Int) (a1_3 : Int) (a2_0 : Bool) (a2_1 : Int) (a2_2 : Int) : Option (Bool) := (crosswaylaw04_awake.f k).bind fun t368 => ((prefix_Holds.f a0_0 a0_1 a0_2 a0_3 a2_0 a2_1 a2_2).bind fun t369 => ((crosswayref04_Holds.f k a0_0 a0_1 a0_2 a0_3 a2_0 a2_1 a2_2).bind fun t370 => (if (t369 == t370) = true then ((prefix_Covers.f a0_0 a0_1 a0_2 a0_3 a1_0 a1_1 a1_2 a1_3).bind fun t371 => ((crosswayref04_Covers.f k a0_0 a0_1 a0_2 a0_3 a1_0 a1_1 a1_2 a1_3).bind fun t372 => (if t368 = true then (if (t371 == t372) = true then ((prefix_Common.f k a0_0 a0_1 a0_2 a2_0 a2_1 a2_2).bind fun t373 => ((crosswayref04_Common.f k a0_0 a0_1 a0_2 a2_0 a2_1 a2_2).bind fun t374 => (some (t373 == t374)))) else (none)) else (none)))) else (none))))
theorem crosswaylaw04_PrefixHolds.mono : ∀ a0 a1 a2 a3 a4 a5 a6 a7 a8 a9 a10 k, LeO (crosswaylaw04_PrefixHolds.f k a0 a1 a2 a3 a4 a5 a6 a7 a8 a9 a10) (crosswaylaw04_PrefixHolds.f (k + 1) a0 a1 a2 a3 a4 a5 a6 a7 a8 a9 a10) := by
 intro a0 a1 a2 a3 a4 a5 a6 a7 a8 a9 a10 k
 unfold crosswaylaw04_PrefixHolds.f
 repeat' first
   | (with_reducible exact crosswaylaw04_awake.mono _)
   | (with_reducible exact crosswayref04_Common.mono _ _ _ _ _ _ _)
   | (with_reducible exact crosswayref04_Covers.mono _ _ _ _ _ _ _ _ _)
   | (with_reducible exact crosswayref04_Holds.mono _ _ _ _ _ _ _ _)
   | (with_reducible exact prefix_Common.mono _ _ _ _ _ _ _)
   | (with_reducible exact LeO.refl _)
   | (with_reducible exact LeO.none _)
   | (with_reducible refine LeO.ite ?_ ?_)
   | (with_reducible refine LeO.bind ?_ (fun _ => ?_))
   | exact crosswaylaw04_awake.mono _
   | exact crosswayref04_Common.mono _ _ _ _ _ _ _
   | exact crosswayref04_Covers.mono _ _ _ _ _ _ _ _ _
   | exact crosswayref04_Holds.mono _ _ _ _ _ _ _ _
   | exact prefix_Common.mono _ _ _ _ _ _ _
   | exact LeO.none _
   | refine LeO.ite ?_ ?_
   | refine LeO.bind ?_ (fun _ => ?_)
def crosswaylaw04_PrefixHolds.T2 : Bool × List (List Nat × List Nat) := (true, [([], []), ([], []), ([0, 1], [0, 1]), ([], []), ([], []), ([3, 4, 2], [3, 4]), ([2, 5], [2, 5]), ([6, 5], [6]), ([7], [7]), ([7], [7]), ([8, 9, 7, 7], [7, 8, 9]), ([7], [7]), ([7], [7]), ([11, 12, 10, 7], [7, 11, 12]), ([10, 13, 7], [7, 10, 13]), ([7, 14], [7, 14]), ([15, 13, 0, 1, 2, 3, 4, 5, 6, 7, 8, 9, 10, 11, 12, 13, 14, 15], [15])])
def crosswaylaw04_PrefixHolds.B2 : List Nat := [0, 0, 3, 0, 0, 31, 63, 127, 255, 255, 1023, 255, 255, 8191, 16383, 32767, 65535]
theorem crosswaylaw04_PrefixHolds.tab2 : rtab .any (opsOf Tryd.f4 2) = crosswaylaw04_PrefixHolds.T2 := by kernel_rfl
theorem crosswaylaw04_PrefixHolds.bits2 : waitsOk crosswaylaw04_PrefixHolds.T2.2 crosswaylaw04_PrefixHolds.B2 = true := by kernel_rfl
def crosswaylaw04_PrefixHolds.T3 : Bool × List (List Nat × List Nat) := (true, [([], []), ([0], [0]), ([1], [1]), ([1, 2], [1, 2]), ([3, 1], [3]), ([4], [4]), ([5, 4], [4, 5]), ([4], [4]), ([6, 7, 4, 4], [4, 6, 7]), ([4], [4]), ([9, 4], [4, 9]), ([4], [4]), ([10, 11, 8, 4], [4, 10, 11]), ([8, 12, 4], [4, 8, 12]), ([4, 13], [4, 13]), ([14, 12, 0, 1, 2, 3, 4, 5, 6, 7, 8, 9, 10, 11, 12, 13, 14], [14])])
def crosswaylaw04_PrefixHolds.B3 : List Nat := [0, 1, 3, 7, 15, 31, 63, 31, 255, 31, 543, 31, 4095, 8191, 16383, 32767]
theorem crosswaylaw04_PrefixHolds.tab3 : rtab .any (opsOf Tryd.f4 3) = crosswaylaw04_PrefixHolds.T3 := by kernel_rfl
theorem crosswaylaw04_PrefixHolds.bits3 : waitsOk crosswaylaw04_PrefixHolds.T3.2 crosswaylaw04_PrefixHolds.B3 = true := by kernel_rfl
set_option maxHeartbeats 8000000 in
set_option maxRecDepth 100000 in
theorem crosswaylaw04_PrefixHolds.calls (k : Nat) (a0_0 : Bool) (a0_1 : Int) (a0_2 : Int) (a0_3 : Int) (a1_0 : Bool) (a1_1 : Int) (a1_2 : Int) (a1_3 : Int) (a2_0 : Bool) (a2_1 : Int) (a2_2 : Int) (r : Bool) (w : World) (hG : Glob w) (h : crosswaylaw04_PrefixHolds.f k a0_0 a0_1 a0_2 a0_3 a1_0 a1_1 a1_2 a1_3 a2_0 a2_1 a2_2 = some r) :
  Calls Tryd.prog 4 #[.agg #[.bool a0_0, .int .u64 a0_1, .int .u64 a0_2, .int .i64 a0_3], .agg #[.bool a1_0, .int .u64 a1_1, .int .u64 a1_2, .int .i64 a1_3], .agg #[.bool a2_0, .int .u64 a2_1, .int .u64 a2_2]] w fun e w' => e = .returned (.bool r) ∧ Below w.heap.size w w' := by
 have hu26 := Tryd.underlying26
 have hu24 := Tryd.underlying24
 have HG := Aside0.mk hG
 clear hG
 have HB := Aside0.mk (Below.refl w.heap.size w)
 have H : ((crosswaylaw04_awake.f k).bind fun t368 => ((prefix_Holds.f a0_0 a0_1 a0_2 a0_3 a2_0 a2_1 a2_2).bind fun t369 => ((crosswayref04_Holds.f k a0_0 a0_1 a0_2 a0_3 a2_0 a2_1 a2_2).bind fun t370 => (if (t369 == t370) = true then ((prefix_Covers.f a0_0 a0_1 a0_2 a0_3 a1_0 a1_1 a1_2 a1_3).bind fun t371 => ((crosswayref04_Covers.f k a0_0 a0_1 a0_2 a0_3 a1_0 a1_1 a1_2 a1_3).bind fun t372 => (if t368 = true then (if (t371 == t372) = true then ((prefix_Common.f k a0_0 a0_1 a0_2 a2_0 a2_1 a2_2).bind fun t373 => ((crosswayref04_Common.f k a0_0 a0_1 a0_2 a2_0 a2_1 a2_2).bind fun t374 => (some (t373 == t374)))) else (none)) else (none)))) else (none))))) = some r := h
 clear h
 replace H := Option.bind_eq_some_iff.mp H
 obtain ⟨t368, A40, H⟩ := H
 replace H : ((prefix_Holds.f a0_0 a0_1 a0_2 a0_3 a2_0 a2_1 a2_2).bind fun t369 => ((crosswayref04_Holds.f k a0_0 a0_1 a0_2 a0_3 a2_0 a2_1 a2_2).bind fun t370 => (if (t369 == t370) = true then ((prefix_Covers.f a0_0 a0_1 a0_2 a0_3 a1_0 a1_1 a1_2 a1_3).bind fun t371 => ((crosswayref04_Covers.f k a0_0 a0_1 a0_2 a0_3 a1_0 a1_1 a1_2 a1_3).bind fun t372 => (if t368 = true then (if (t371 == t372) = true then ((prefix_Common.f k a0_0 a0_1 a0_2 a2_0 a2_1 a2_2).bind fun t373 => ((crosswayref04_Common.f k a0_0 a0_1 a0_2 a2_0 a2_1 a2_2).bind fun t374 => (some (t373 == t374)))) else (none)) else (none)))) else (none)))) = some r := H
 have A4 := Aside0.mk A40
 clear A40
 replace H := Option.bind_eq_some_iff.mp H
 obtain ⟨t369, A50, H⟩ := H
 replace H : ((crosswayref04_Holds.f k a0_0 a0_1 a0_2 a0_3 a2_0 a2_1 a2_2).bind fun t370 => (if (t369 == t370) = true then ((prefix_Covers.f a0_0 a0_1 a0_2 a0_3 a1_0 a1_1 a1_2 a1_3).bind fun t371 => ((crosswayref04_Covers.f k a0_0 a0_1 a0_2 a0_3 a1_0 a1_1 a1_2 a1_3).bind fun t372 => (if t368 = true then (if (t371 == t372) = true then ((prefix_Common.f k a0_0 a0_1 a0_2 a2_0 a2_1 a2_2).bind fun t373 => ((crosswayref04_Common.f k a0_0 a0_1 a0_2 a2_0 a2_1 a2_2).bind fun t374 => (some (t373 == t374)))) else (none)) else (none)))) else (none))) = some r := H
 have A5 := Aside0.mk A50
 clear A50
 replace H := Option.bind_eq_some_iff.mp H
 obtain ⟨t370, A60, H⟩ := H
 replace H : (if (t369 == t370) = true then ((prefix_Covers.f a0_0 a0_1 a0_2 a0_3 a1_0 a1_1 a1_2 a1_3).bind fun t371 => ((crosswayref04_Covers.f k a0_0 a0_1 a0_2 a0_3 a1_0 a1_1 a1_2 a1_3).bind fun t372 => (if t368 = true then (if (t371 == t372) = true then ((prefix_Common.f k a0_0 a0_1 a0_2 a2_0 a2_1 a2_2).bind fun t373 => ((crosswayref04_Common.f k a0_0 a0_1 a0_2 a2_0 a2_1 a2_2).bind fun t374 => (some (t373 == t374)))) else (none)) else (none)))) else (none)) = some r := H
 have A6 := Aside0.mk A60
 clear A60
 by_cases c7 : (t369 == t370) = true
 ·rw [if_pos c7] at H
  have c7b0 : (t369 == t370) = true := c7
  (try (have c7b1 : decide (t369 = t370) = true := by simpa using c7))
  (try (have c7b2 : (t369 == t370) = true := by simpa using c7))
  clear c7
  replace H := Option.bind_eq_some_iff.mp H
  obtain ⟨t371, A80, H⟩ := H
  replace H : ((crosswayref04_Covers.f k a0_0 a0_1 a0_2 a0_3 a1_0 a1_1 a1_2 a1_3).bind fun t372 => (if t368 = true then (if (t371 == t372) = true then ((prefix_Common.f k a0_0 a0_1 a0_2 a2_0 a2_1 a2_2).bind fun t373 => ((crosswayref04_Common.f k a0_0 a0_1 a0_2 a2_0 a2_1 a2_2).bind fun t374 => (some (t373 == t374)))) else (none)) else (none))) = some r := H
  have A8 := Aside0.mk A80
  clear A80
  replace H := Option.bind_eq_some_iff.mp H
  obtain ⟨t372, A90, H⟩ := H
  replace H : (if t368 = true then (if (t371 == t372) = true then ((prefix_Common.f k a0_0 a0_1 a0_2 a2_0 a2_1 a2_2).bind fun t373 => ((crosswayref04_Common.f k a0_0 a0_1 a0_2 a2_0 a2_1 a2_2).bind fun t374 => (some (t373 == t374)))) else (none)) else (none)) = some r := H
  have A9 := Aside0.mk A90
  clear A90
  by_cases c10 : t368 = true
  ·subst c10
   have H1 : (if (t371 == t372) = true then ((prefix_Common.f k a0_0 a0_1 a0_2 a2_0 a2_1 a2_2).bind fun t373 => ((crosswayref04_Common.f k a0_0 a0_1 a0_2 a2_0 a2_1 a2_2).bind fun t374 => (some (t373 == t374)))) else (none)) = some r := by rw [if_pos rfl] at H; exact H
   clear H
   have H := H1
   clear H1
   by_cases c11 : (t371 == t372) = true
   ·rw [if_pos c11] at H
    have c11b0 : (t371 == t372) = true := c11
    (try (have c11b1 : decide (t371 = t372) = true := by simpa using c11))
    (try (have c11b2 : (t371 == t372) = true := by simpa using c11))
    clear c11
    replace H := Option.bind_eq_some_iff.mp H
    obtain ⟨t373, A120, H⟩ := H
    replace H : ((crosswayref04_Common.f k a0_0 a0_1 a0_2 a2_0 a2_1 a2_2).bind fun t374 => (some (t373 == t374))) = some r := H
    have A12 := Aside0.mk A120
    clear A120
    replace H := Option.bind_eq_some_iff.mp H
    obtain ⟨t374, A130, H⟩ := H
    replace H : (some (t373 == t374)) = some r := H
    have A13 := Aside0.mk A130
    clear A130
    obtain rfl := Option.some.inj H
    go_enter Tryd.func4, Tryd.ntmps4
    try go_wp2_with (first | ((with_reducible refine gate_dst (N := 3) rfl ?_); refine box_event ?hg (N := 3) ?hd (cs := #[.bool a0_0, .int .u64 a0_1, .int .u64 a0_2, .int .i64 a0_3]) (t := 26) ?hr ?_; (case hd => rfl); (case hg => rfl); (case hr => first | (go_simp; done) | (go_simp; rfl)); intro gb365 hg w14 hbox hb; have n0_ := Aside0.mk (below_step (Hb HB.out) hb); have n1_ := Aside0.mk (hbox); have n2_ := Aside0.mk ((by rw [hg]; exact (below_size (Hb HB.out)) : w.heap.size ≤ gb365)); have n3_ := Aside0.mk ((by rw [hg]; exact (below_size (Hb HB.out)) : w.heap.size ≤ gb365)); clear HB; have HB := n0_; have BK365 := n1_; have GW365 := n2_; have GE365 := n3_; clear n0_ n1_ n2_ n3_; clear hb hbox hg) | ((with_reducible refine gate_dst (N := 4) rfl ?_); refine box_event ?hg (N := 4) ?hd (cs := #[.bool a1_0, .int .u64 a1_1, .int .u64 a1_2, .int .i64 a1_3]) (t := 26) ?hr ?_; (case hd => rfl); (case hg => rfl); (case hr => first | (go_simp; done) | (go_simp; rfl)); intro gb366 hg w15 hbox hb; have n0_ := Aside0.mk (blk_below (g := gb365) (o := .cells #[.bool a0_0, .int .u64 a0_1, .int .u64 a0_2, .int .i64 a0_3] 26 (0, 0)) (St BK365.out) hb); have n1_ := Aside0.mk (below_step (Hb HB.out) hb); have n2_ := Aside0.mk (hbox); have n3_ := Aside0.mk ((by rw [hg]; exact (below_size (Hb HB.out)) : w.heap.size ≤ gb366)); have n4_ := Aside0.mk ((by rw [hg]; exact (below_size (Hb HB.out)) : w.heap.size ≤ gb366)); have n5_ := Aside0.mk ((by rw [hg]; exact Nat.ne_of_lt (blk_lt (g := gb365) (o := .cells #[.bool a0_0, .int .u64 a0_1, .int .u64 a0_2, .int .i64 a0_3] 26 (0, 0)) (St BK365.out)) : gb365 ≠ gb366)); have n6_ := Aside0.mk ((by rw [hg]; exact Nat.ne_of_gt (blk_lt (g := gb365) (o := .cells #[.bool a0_0, .int .u64 a0_1, .int .u64 a0_2, .int .i64 a0_3] 26 (0, 0)) (St BK365.out)) : gb366 ≠ gb365)); clear BK365; clear HB; have BK365 := n0_; have HB := n1_; have BK366 := n2_; have GW366 := n3_; have GE366 := n4_; have NB365_366 := n5_; have NB366_365 := n6_; clear n0_ n1_ n2_ n3_ n4_ n5_ n6_; clear hb hbox hg) | ((with_reducible refine gate_dst (N := 5) rfl ?_); refine box_event ?hg (N := 5) ?hd (cs := #[.bool a2_0, .int .u64 a2_1, .int .u64 a2_2]) (t := 24) ?hr ?_; (case hd => rfl); (case hg => rfl); (case hr => first | (go_simp; done) | (go_simp; rfl)); intro gb367 hg w16 hbox hb; have n0_ := Aside0.mk (blk_below (g := gb365) (o := .cells #[.bool a0_0, .int .u64 a0_1, .int .u64 a0_2, .int .i64 a0_3] 26 (0, 0)) (St BK365.out) hb); have n1_ := Aside0.mk (blk_below (g := gb366) (o := .cells #[.bool a1_0, .int .u64 a1_1, .int .u64 a1_2, .int .i64 a1_3] 26 (0, 0)) (St BK366.out) hb); have n2_ := Aside0.mk (below_step (Hb HB.out) hb); have n3_ := Aside0.mk (hbox); have n4_ := Aside0.mk ((by rw [hg]; exact (below_size (Hb HB.out)) : w.heap.size ≤ gb367)); have n5_ := Aside0.mk ((by rw [hg]; exact (below_size (Hb HB.out)) : w.heap.size ≤ gb367)); have n6_ := Aside0.mk ((by rw [hg]; exact Nat.ne_of_lt (blk_lt (g := gb365) (o := .cells #[.bool a0_0, .int .u64 a0_1, .int .u64 a0_2, .int .i64 a0_3] 26 (0, 0)) (St BK365.out)) : gb365 ≠ gb367)); have n7_ := Aside0.mk ((by rw [hg]; exact Nat.ne_of_gt (blk_lt (g := gb365) (o := .cells #[.bool a0_0, .int .u64 a0_1, .int .u64 a0_2, .int .i64 a0_3] 26 (0, 0)) (St BK365.out)) : gb367 ≠ gb365)); have n8_ := Aside0.mk ((by rw [hg]; exact Nat.ne_of_lt (blk_lt (g := gb366) (o := .cells #[.bool a1_0, .int .u64 a1_1, .int .u64 a1_2, .int .i64 a1_3] 26 (0, 0)) (St BK366.out)) : gb366 ≠ gb367)); have n9_ := Aside0.mk ((by rw [hg]; exact Nat.ne_of_gt (blk_lt (g := gb366) (o := .cells #[.bool a1_0, .int .u64 a1_1, .int .u64 a1_2, .int .i64 a1_3] 26 (0, 0)) (St BK366.out)) : gb367 ≠ gb366)); clear BK365; clear BK366; clear HB; have BK365 := n0_; have BK366 := n1_; have HB := n2_; have BK367 := n3_; have GW367 := n4_; have GE367 := n5_; have NB365_367 := n6_; have NB367_365 := n7_; have NB366_367 := n8_; have NB367_366 := n9_; clear n0_ n1_ n2_ n3_ n4_ n5_ n6_ n7_ n8_ n9_; clear hb hbox hg) | ((with_reducible refine gate_callee (f := 9) rfl ?_); refine goesL_ (some 9) rfl rfl Tryd.func9 (by kernel_rfl) rfl #[] rfl Ma ?_; (with_reducible refine (crosswaylaw04_awake.calls k  true _ (Glob_below HG.out (Hb HB.out)) A4.out).mono ?_); rintro e w17 ⟨rfl, hb⟩; refine ⟨_, rfl, ?_⟩; have n0_ := Aside0.mk (blk_below (g := gb365) (o := .cells #[.bool a0_0, .int .u64 a0_1, .int .u64 a0_2, .int .i64 a0_3] 26 (0, 0)) (St BK365.out) hb); have n1_ := Aside0.mk (blk_below (g := gb366) (o := .cells #[.bool a1_0, .int .u64 a1_1, .int .u64 a1_2, .int .i64 a1_3] 26 (0, 0)) (St BK366.out) hb); have n2_ := Aside0.mk (blk_below (g := gb367) (o := .cells #[.bool a2_0, .int .u64 a2_1, .int .u64 a2_2] 24 (0, 0)) (St BK367.out) hb); have n3_ := Aside0.mk (below_step (Hb HB.out) hb); clear BK365; clear BK366; clear BK367; clear HB; have BK365 := n0_; have BK366 := n1_; have BK367 := n2_; have HB := n3_; clear n0_ n1_ n2_ n3_; (try clear hb); (try clear hb2); (try clear hk); (try clear hi)))
    have n0_ := Aside0.mk (blk_drew BK365.out)
    have n1_ := Aside0.mk (blk_drew BK366.out)
    have n2_ := Aside0.mk (blk_drew BK367.out)
    have n3_ := Aside0.mk (below_drew1 HB.out)
    clear BK365
    clear BK366
    clear BK367
    clear HB
    have BK365 := n0_
    have BK366 := n1_
    have BK367 := n2_
    have HB := n3_
    clear n0_ n1_ n2_ n3_
    refine start_ (n := 17) (S := fun w' => w'.cell? ⟨gb365, 0, none⟩ = some (.bool a0_0) ∧ w'.cell? ⟨gb365, 1, none⟩ = some (.int .u64 a0_1) ∧ w'.cell? ⟨gb365, 2, none⟩ = some (.int .u64 a0_2) ∧ w'.cell? ⟨gb365, 3, none⟩ = some (.int .i64 a0_3) ∧ w'.cell? ⟨gb367, 0, none⟩ = some (.bool a2_0) ∧ w'.cell? ⟨gb367, 1, none⟩ = some (.int .u64 a2_1) ∧ w'.cell? ⟨gb367, 2, none⟩ = some (.int .u64 a2_2) ∧ w'.cell? ⟨gb366, 0, none⟩ = some (.bool a1_0) ∧ w'.cell? ⟨gb366, 1, none⟩ = some (.int .u64 a1_1) ∧ w'.cell? ⟨gb366, 2, none⟩ = some (.int .u64 a1_2) ∧ w'.cell? ⟨gb366, 3, none⟩ = some (.int .i64 a1_3)) (ds := []) #[Z,Z,Z,Z,Z,Z,Z,Z,Z,Z,Z,Z,Z,Z,Z,Z,Z] (by kernel_rfl) rfl rfl ⟨(blk_cell BK365.out 0).trans rfl, (blk_cell BK365.out 1).trans rfl, (blk_cell BK365.out 2).trans rfl, (blk_cell BK365.out 3).trans rfl, (blk_cell BK367.out 0).trans rfl, (blk_cell BK367.out 1).trans rfl, (blk_cell BK367.out 2).trans rfl, (blk_cell BK366.out 0).trans rfl, (blk_cell BK366.out 1).trans rfl, (blk_cell BK366.out 2).trans rfl, (blk_cell BK366.out 3).trans rfl⟩ (fun hHeld => ?_); refine with_tabW crosswaylaw04_PrefixHolds.tab2 crosswaylaw04_PrefixHolds.bits2 (fun HT_ HW_ => ?_)
    generalize w17.drew = w18 at BK365 BK366 BK367 HB hHeld ⊢
    refine take_ (i := 0) (N := some 10) (v := ?_) (a' := ?_) #[Y,Z,Z,Z,Z,Z,Z,Z,Z,Z,Z,Z,Z,Z,Z,Z,Z] rfl rfl (take_ofW HT_.out HW_.out (by kernel_rfl)) (fun _ _ _ h => h) (Or.inl ⟨by rfl, ?_⟩) hHeld ?_ ?_
    rotate_left
    ·rintro w' ⟨s0, s1, s2, s3, s4, s5, s6, s7, s8, s9, s10⟩
     go_simp
     with_reducible rfl
    rotate_left
    ·exact Sr
    refine take_ (i := 1) (N := some 11) (v := ?_) (a' := ?_) #[Y,Y,Z,Z,Z,Z,Z,Z,Z,Z,Z,Z,Z,Z,Z,Z,Z] rfl rfl (take_ofW HT_.out HW_.out (by kernel_rfl)) (fun _ _ _ h => h) (Or.inl ⟨by rfl, ?_⟩) hHeld ?_ ?_
    rotate_left
    ·rintro w' ⟨s0, s1, s2, s3, s4, s5, s6, s7, s8, s9, s10⟩
     go_simp
     with_reducible rfl
    rotate_left
    ·exact Sr
    refine take_ (i := 3) (N := some 13) (v := ?_) (a' := ?_) #[Y,Y,Z,Y,Z,Z,Z,Z,Z,Z,Z,Z,Z,Z,Z,Z,Z] rfl rfl (take_ofW HT_.out HW_.out (by kernel_rfl)) (fun _ _ _ h => h) (Or.inl ⟨by rfl, ?_⟩) hHeld ?_ ?_
    rotate_left
    ·rintro w' ⟨s0, s1, s2, s3, s4, s5, s6, s7, s8, s9, s10⟩
     go_simp
     with_reducible rfl
    rotate_left
    ·exact Sr
    refine take_ (i := 4) (N := some 14) (v := ?_) (a' := ?_) #[Y,Y,Z,Y,Y,Z,Z,Z,Z,Z,Z,Z,Z,Z,Z,Z,Z] rfl rfl (take_ofW HT_.out HW_.out (by kernel_rfl)) (fun _ _ _ h => h) (Or.inl ⟨by rfl, ?_⟩) hHeld ?_ ?_
    rotate_left
    ·rintro w' ⟨s0, s1, s2, s3, s4, s5, s6, s7, s8, s9, s10⟩
     go_simp
     with_reducible rfl
    rotate_left
    ·exact Sr
    refine one_ (i := 2) (N := some 12) #[Y,Y,Y,Y,Y,Z,Z,Z,Z,Z,Z,Z,Z,Z,Z,Z,Z] rfl rfl (one_of HT_.out (by kernel_rfl)) (by decide) (fun K hK => ?_)
    refine goes_ Tryd.func16 (by kernel_rfl) rfl #[.agg #[.bool a0_0, .int .u64 a0_1, .int .u64 a0_2, .int .i64 a0_3], .agg #[.bool a2_0, .int .u64 a2_1, .int .u64 a2_2]] (by rfl) rfl rfl Ma ?_
    with_reducible refine (prefix_Holds.calls a0_0 a0_1 a0_2 a0_3 a2_0 a2_1 a2_2 t369 _ A5.out).mono ?_
    rintro e w19 ⟨rfl, hb⟩
    refine ⟨_, rfl, ?_⟩
    have n0_ := Aside0.mk (blk_below (g := gb365) (o := .cells #[.bool a0_0, .int .u64 a0_1, .int .u64 a0_2, .int .i64 a0_3] 26 (0, 0)) (St BK365.out) hb)
    have n1_ := Aside0.mk (blk_below (g := gb366) (o := .cells #[.bool a1_0, .int .u64 a1_1, .int .u64 a1_2, .int .i64 a1_3] 26 (0, 0)) (St BK366.out) hb)
    have n2_ := Aside0.mk (blk_below (g := gb367) (o := .cells #[.bool a2_0, .int .u64 a2_1, .int .u64 a2_2] 24 (0, 0)) (St BK367.out) hb)
    have n3_ := Aside0.mk (below_step (Hb HB.out) hb)
    clear BK365
    clear BK366
    clear BK367
    clear HB
    have BK365 := n0_
    have BK366 := n1_
    have BK367 := n2_
    have HB := n3_
    clear n0_ n1_ n2_ n3_
    (try clear hb)
    (try clear hb2)
    (try clear hk)
    (try clear hi)
    refine hK.out _ _ ⟨(blk_cell BK365.out 0).trans rfl, (blk_cell BK365.out 1).trans rfl, (blk_cell BK365.out 2).trans rfl, (blk_cell BK365.out 3).trans rfl, (blk_cell BK367.out 0).trans rfl, (blk_cell BK367.out 1).trans rfl, (blk_cell BK367.out 2).trans rfl, (blk_cell BK366.out 0).trans rfl, (blk_cell BK366.out 1).trans rfl, (blk_cell BK366.out 2).trans rfl, (blk_cell BK366.out 3).trans rfl⟩ (fun hHeld => ?_)
    clear hK K
    refine norm_ (a' := ?_) ?_ ?_
    rotate_left
    ·show Act.put _ (some 12) _ = _
     refine Sp ?_
     rfl
    refine one_ (i := 5) (N := some 15) #[Y,Y,Y,Y,Y,Y,Z,Z,Z,Z,Z,Z,Z,Z,Z,Z,Z] rfl rfl (one_of HT_.out (by kernel_rfl)) (by decide) (fun K hK => ?_)
    refine goes_ Tryd.func17 (by kernel_rfl) rfl #[.agg #[.bool a0_0, .int .u64 a0_1, .int .u64 a0_2, .int .i64 a0_3], .agg #[.bool a2_0, .int .u64 a2_1, .int .u64 a2_2]] (by rfl) rfl rfl Ma ?_
    with_reducible refine (crosswayref04_Holds.calls k a0_0 a0_1 a0_2 a0_3 a2_0 a2_1 a2_2 t370 _ A6.out).mono ?_
    rintro e w20 ⟨rfl, hb⟩
    refine ⟨_, rfl, ?_⟩
    have n0_ := Aside0.mk (blk_below (g := gb365) (o := .cells #[.bool a0_0, .int .u64 a0_1, .int .u64 a0_2, .int .i64 a0_3] 26 (0, 0)) (St BK365.out) hb)
    have n1_ := Aside0.mk (blk_below (g := gb366) (o := .cells #[.bool a1_0, .int .u64 a1_1, .int .u64 a1_2, .int .i64 a1_3] 26 (0, 0)) (St BK366.out) hb)
    have n2_ := Aside0.mk (blk_below (g := gb367) (o := .cells #[.bool a2_0, .int .u64 a2_1, .int .u64 a2_2] 24 (0, 0)) (St BK367.out) hb)
    have n3_ := Aside0.mk (below_step (Hb HB.out) hb)
    clear BK365
    clear BK366
    clear BK367
    clear HB
    have BK365 := n0_
    have BK366 := n1_
    have BK367 := n2_
    have HB := n3_
    clear n0_ n1_ n2_ n3_
    (try clear hb)
    (try clear hb2)
    (try clear hk)
    (try clear hi)
    refine hK.out _ _ ⟨(blk_cell BK365.out 0).trans rfl, (blk_cell BK365.out 1).trans rfl, (blk_cell BK365.out 2).trans rfl, (blk_cell BK365.out 3).trans rfl, (blk_cell BK367.out 0).trans rfl, (blk_cell BK367.out 1).trans rfl, (blk_cell BK367.out 2).trans rfl, (blk_cell BK366.out 0).trans rfl, (blk_cell BK366.out 1).trans rfl, (blk_cell BK366.out 2).trans rfl, (blk_cell BK366.out 3).trans rfl⟩ (fun hHeld => ?_)
    clear hK K
    refine norm_ (a' := ?_) ?_ ?_
    rotate_left
    ·show Act.put _ (some 15) _ = _
     refine Sp ?_
     rfl
    refine pure_ (i := 6) (N := some 16) (v := ?_) (a' := ?_) #[Y,Y,Y,Y,Y,Y,Y,Z,Z,Z,Z,Z,Z,Z,Z,Z,Z] rfl rfl (any_of HT_.out (by kernel_rfl)) (fun _ _ _ h => h) (Or.inl ⟨by rfl, ?_⟩) ?_ ?_
    rotate_left
    ·exact Sw
    rotate_left
    ·exact Sr
    refine pure_ (i := 7) (N := some 17) (v := ?_) (a' := ?_) #[Y,Y,Y,Y,Y,Y,Y,Y,Z,Z,Z,Z,Z,Z,Z,Z,Z] rfl rfl (any_of HT_.out (by kernel_rfl)) (fun _ _ _ h => h) (Or.inl ⟨by rfl, ?_⟩) ?_ ?_
    rotate_left
    ·exact Sw
    rotate_left
    ·exact Sr
    refine take_ (i := 8) (N := some 18) (v := ?_) (a' := ?_) #[Y,Y,Y,Y,Y,Y,Y,Y,Y,Z,Z,Z,Z,Z,Z,Z,Z] rfl rfl (take_ofW HT_.out HW_.out (by kernel_rfl)) (fun _ _ _ h => h) (Or.inl ⟨by rfl, ?_⟩) hHeld ?_ ?_
    rotate_left
    ·rintro w' ⟨s0, s1, s2, s3, s4, s5, s6, s7, s8, s9, s10⟩
     go_simp
     with_reducible rfl
    rotate_left
    ·exact Sr
    refine take_ (i := 9) (N := some 19) (v := ?_) (a' := ?_) #[Y,Y,Y,Y,Y,Y,Y,Y,Y,Y,Z,Z,Z,Z,Z,Z,Z] rfl rfl (take_ofW HT_.out HW_.out (by kernel_rfl)) (fun _ _ _ h => h) (Or.inl ⟨by rfl, ?_⟩) hHeld ?_ ?_
    rotate_left
    ·rintro w' ⟨s0, s1, s2, s3, s4, s5, s6, s7, s8, s9, s10⟩
     go_simp
     with_reducible rfl
    rotate_left
    ·exact Sr
    refine take_ (i := 11) (N := some 21) (v := ?_) (a' := ?_) #[Y,Y,Y,Y,Y,Y,Y,Y,Y,Y,Z,Y,Z,Z,Z,Z,Z] rfl rfl (take_ofW HT_.out HW_.out (by kernel_rfl)) (fun _ _ _ h => h) (Or.inl ⟨by rfl, ?_⟩) hHeld ?_ ?_
    rotate_left
    ·rintro w' ⟨s0, s1, s2, s3, s4, s5, s6, s7, s8, s9, s10⟩
     go_simp
     with_reducible rfl
    rotate_left
    ·exact Sr
    refine take_ (i := 12) (N := some 22) (v := ?_) (a' := ?_) #[Y,Y,Y,Y,Y,Y,Y,Y,Y,Y,Z,Y,Y,Z,Z,Z,Z] rfl rfl (take_ofW HT_.out HW_.out (by kernel_rfl)) (fun _ _ _ h => h) (Or.inl ⟨by rfl, ?_⟩) hHeld ?_ ?_
    rotate_left
    ·rintro w' ⟨s0, s1, s2, s3, s4, s5, s6, s7, s8, s9, s10⟩
     go_simp
     with_reducible rfl
    rotate_left
    ·exact Sr
    refine one_ (i := 10) (N := some 20) #[Y,Y,Y,Y,Y,Y,Y,Y,Y,Y,Y,Y,Y,Z,Z,Z,Z] rfl rfl (one_of HT_.out (by kernel_rfl)) (by decide) (fun K hK => ?_)
    refine goes_ Tryd.func18 (by kernel_rfl) rfl #[.agg #[.bool a0_0, .int .u64 a0_1, .int .u64 a0_2, .int .i64 a0_3], .agg #[.bool a1_0, .int .u64 a1_1, .int .u64 a1_2, .int .i64 a1_3]] (by rfl) rfl rfl Ma ?_
    with_reducible refine (prefix_Covers.calls a0_0 a0_1 a0_2 a0_3 a1_0 a1_1 a1_2 a1_3 t371 _ A8.out).mono ?_
    rintro e w21 ⟨rfl, hb⟩
    refine ⟨_, rfl, ?_⟩
    have n0_ := Aside0.mk (blk_below (g := gb365) (o := .cells #[.bool a0_0, .int .u64 a0_1, .int .u64 a0_2, .int .i64 a0_3] 26 (0, 0)) (St BK365.out) hb)
    have n1_ := Aside0.mk (blk_below (g := gb366) (o := .cells #[.bool a1_0, .int .u64 a1_1, .int .u64 a1_2, .int .i64 a1_3] 26 (0, 0)) (St BK366.out) hb)
    have n2_ := Aside0.mk (blk_below (g := gb367) (o := .cells #[.bool a2_0, .int .u64 a2_1, .int .u64 a2_2] 24 (0, 0)) (St BK367.out) hb)
    have n3_ := Aside0.mk (below_step (Hb HB.out) hb)
    clear BK365
    clear BK366
    clear BK367
    clear HB
    have BK365 := n0_
    have BK366 := n1_
    have BK367 := n2_
    have HB := n3_
    clear n0_ n1_ n2_ n3_
    (try clear hb)
    (try clear hb2)
    (try clear hk)
    (try clear hi)
    refine hK.out _ _ ⟨(blk_cell BK365.out 0).trans rfl, (blk_cell BK365.out 1).trans rfl, (blk_cell BK365.out 2).trans rfl, (blk_cell BK365.out 3).trans rfl, (blk_cell BK367.out 0).trans rfl, (blk_cell BK367.out 1).trans rfl, (blk_cell BK367.out 2).trans rfl, (blk_cell BK366.out 0).trans rfl, (blk_cell BK366.out 1).trans rfl, (blk_cell BK366.out 2).trans rfl, (blk_cell BK366.out 3).trans rfl⟩ (fun hHeld => ?_)
    clear hK K
    refine norm_ (a' := ?_) ?_ ?_
    rotate_left
    ·show Act.put _ (some 20) _ = _
     refine Sp ?_
     rfl
    refine one_ (i := 13) (N := some 23) #[Y,Y,Y,Y,Y,Y,Y,Y,Y,Y,Y,Y,Y,Y,Z,Z,Z] rfl rfl (one_of HT_.out (by kernel_rfl)) (by decide) (fun K hK => ?_)
    refine goes_ Tryd.func19 (by kernel_rfl) rfl #[.agg #[.bool a0_0, .int .u64 a0_1, .int .u64 a0_2, .int .i64 a0_3], .agg #[.bool a1_0, .int .u64 a1_1, .int .u64 a1_2, .int .i64 a1_3]] (by rfl) rfl rfl Ma ?_
    with_reducible refine (crosswayref04_Covers.calls k a0_0 a0_1 a0_2 a0_3 a1_0 a1_1 a1_2 a1_3 t372 _ A9.out).mono ?_
    rintro e w22 ⟨rfl, hb⟩
    refine ⟨_, rfl, ?_⟩
    have n0_ := Aside0.mk (blk_below (g := gb365) (o := .cells #[.bool a0_0, .int .u64 a0_1, .int .u64 a0_2, .int .i64 a0_3] 26 (0, 0)) (St BK365.out) hb)
    have n1_ := Aside0.mk (blk_below (g := gb366) (o := .cells #[.bool a1_0, .int .u64 a1_1, .int .u64 a1_2, .int .i64 a1_3] 26 (0, 0)) (St BK366.out) hb)
    have n2_ := Aside0.mk (blk_below (g := gb367) (o := .cells #[.bool a2_0, .int .u64 a2_1, .int .u64 a2_2] 24 (0, 0)) (St BK367.out) hb)
    have n3_ := Aside0.mk (below_step (Hb HB.out) hb)
    clear BK365
    clear BK366
    clear BK367
    clear HB
    have BK365 := n0_
    have BK366 := n1_
    have BK367 := n2_
    have HB := n3_
    clear n0_ n1_ n2_ n3_
    (try clear hb)
    (try clear hb2)
    (try clear hk)
    (try clear hi)
    refine hK.out _ _ ⟨(blk_cell BK365.out 0).trans rfl, (blk_cell BK365.out 1).trans rfl, (blk_cell BK365.out 2).trans rfl, (blk_cell BK365.out 3).trans rfl, (blk_cell BK367.out 0).trans rfl, (blk_cell BK367.out 1).trans rfl, (blk_cell BK367.out 2).trans rfl, (blk_cell BK366.out 0).trans rfl, (blk_cell BK366.out 1).trans rfl, (blk_cell BK366.out 2).trans rfl, (blk_cell BK366.out 3).trans rfl⟩ (fun hHeld => ?_)
    clear hK K
    refine norm_ (a' := ?_) ?_ ?_
    rotate_left
    ·show Act.put _ (some 23) _ = _
     refine Sp ?_
     rfl
    refine pure_ (i := 14) (N := some 24) (v := ?_) (a' := ?_) #[Y,Y,Y,Y,Y,Y,Y,Y,Y,Y,Y,Y,Y,Y,Y,Z,Z] rfl rfl (any_of HT_.out (by kernel_rfl)) (fun _ _ _ h => h) (Or.inl ⟨by rfl, ?_⟩) ?_ ?_
    rotate_left
    ·exact Sw
    rotate_left
    ·exact Sr
    refine pure_ (i := 15) (N := some 25) (v := ?_) (a' := ?_) #[Y,Y,Y,Y,Y,Y,Y,Y,Y,Y,Y,Y,Y,Y,Y,Y,Z] rfl rfl (any_of HT_.out (by kernel_rfl)) (fun _ _ _ h => h) (Or.inl ⟨by rfl, ?_⟩) ?_ ?_
    rotate_left
    ·exact Sw
    rotate_left
    ·exact Sr
    refine pure_ (i := 16) (N := some 8) (v := ?_) (a' := ?_) #[Y,Y,Y,Y,Y,Y,Y,Y,Y,Y,Y,Y,Y,Y,Y,Y,Y] rfl rfl (any_of HT_.out (by kernel_rfl)) (fun _ _ _ h => h) (Or.inl ⟨by rfl, ?_⟩) ?_ ?_
    rotate_left
    ·exact Sw
    rotate_left
    ·exact Sr
    refine done_ (done_of HT_.out (by kernel_rfl)) ?_
    try go_wp2
    have n0_ := Aside0.mk (blk_drew BK365.out)
    have n1_ := Aside0.mk (blk_drew BK366.out)
    have n2_ := Aside0.mk (blk_drew BK367.out)
    have n3_ := Aside0.mk (below_drew1 HB.out)
    clear BK365
    clear BK366
    clear BK367
    clear HB
    have BK365 := n0_
    have BK366 := n1_
    have BK367 := n2_
    have HB := n3_
    clear n0_ n1_ n2_ n3_
    refine start_ (n := 16) (S := fun w' => w'.cell? ⟨gb365, 0, none⟩ = some (.bool a0_0) ∧ w'.cell? ⟨gb365, 1, none⟩ = some (.int .u64 a0_1) ∧ w'.cell? ⟨gb365, 2, none⟩ = some (.int .u64 a0_2) ∧ w'.cell? ⟨gb365, 3, none⟩ = some (.int .i64 a0_3) ∧ w'.cell? ⟨gb367, 0, none⟩ = some (.bool a2_0) ∧ w'.cell? ⟨gb367, 1, none⟩ = some (.int .u64 a2_1) ∧ w'.cell? ⟨gb367, 2, none⟩ = some (.int .u64 a2_2)) (ds := []) #[Z,Z,Z,Z,Z,Z,Z,Z,Z,Z,Z,Z,Z,Z,Z,Z] (by kernel_rfl) rfl rfl ⟨(blk_cell BK365.out 0).trans rfl, (blk_cell BK365.out 1).trans rfl, (blk_cell BK365.out 2).trans rfl, (blk_cell BK365.out 3).trans rfl, (blk_cell BK367.out 0).trans rfl, (blk_cell BK367.out 1).trans rfl, (blk_cell BK367.out 2).trans rfl⟩ (fun hHeld => ?_); refine with_tabW crosswaylaw04_PrefixHolds.tab3 crosswaylaw04_PrefixHolds.bits3 (fun HT_ HW_ => ?_)
    generalize w22.drew = w23 at BK365 BK366 BK367 HB hHeld ⊢
    refine pure_ (i := 0) (N := some 26) (v := ?_) (a' := ?_) #[Y,Z,Z,Z,Z,Z,Z,Z,Z,Z,Z,Z,Z,Z,Z,Z] rfl rfl (any_of HT_.out (by kernel_rfl)) (fun _ _ _ h => h) (Or.inl ⟨by rfl, ?_⟩) ?_ ?_
    rotate_left
    ·exact Sw
    rotate_left
    ·exact Sr
    refine pure_ (i := 1) (N := some 27) (v := ?_) (a' := ?_) #[Y,Y,Z,Z,Z,Z,Z,Z,Z,Z,Z,Z,Z,Z,Z,Z] rfl rfl (any_of HT_.out (by kernel_rfl)) (fun _ _ _ h => h) (Or.inl ⟨by rfl, ?_⟩) ?_ ?_
    rotate_left
    ·exact Sw
    rotate_left
    ·exact Sr
    refine pure_ (i := 2) (N := some 28) (v := ?_) (a' := ?_) #[Y,Y,Y,Z,Z,Z,Z,Z,Z,Z,Z,Z,Z,Z,Z,Z] rfl rfl (any_of HT_.out (by kernel_rfl)) (fun _ _ _ h => h) (Or.inl ⟨by rfl, ?_⟩) ?_ ?_
    rotate_left
    ·exact Sw
    rotate_left
    ·exact Sr
    refine pure_ (i := 3) (N := some 29) (v := ?_) (a' := ?_) #[Y,Y,Y,Y,Z,Z,Z,Z,Z,Z,Z,Z,Z,Z,Z,Z] rfl rfl (any_of HT_.out (by kernel_rfl)) (fun _ _ _ h => h) (Or.inl ⟨by rfl, ?_⟩) ?_ ?_
    rotate_left
    ·exact Sw
    rotate_left
    ·exact Sr
    refine pure_ (i := 4) (N := some 30) (v := ?_) (a' := ?_) #[Y,Y,Y,Y,Y,Z,Z,Z,Z,Z,Z,Z,Z,Z,Z,Z] rfl rfl (any_of HT_.out (by kernel_rfl)) (fun _ _ _ h => h) (Or.inl ⟨by rfl, ?_⟩) ?_ ?_
    rotate_left
    ·exact Sw
    rotate_left
    ·exact Sr
    refine pure_ (i := 5) (N := some 31) (v := ?_) (a' := ?_) #[Y,Y,Y,Y,Y,Y,Z,Z,Z,Z,Z,Z,Z,Z,Z,Z] rfl rfl (any_of HT_.out (by kernel_rfl)) (fun _ _ _ h => h) (Or.inl ⟨by rfl, ?_⟩) ?_ ?_
    rotate_left
    ·exact Sw
    rotate_left
    ·exact Sr
    refine pure_ (i := 9) (N := some 35) (v := ?_) (a' := ?_) #[Y,Y,Y,Y,Y,Y,Z,Z,Z,Y,Z,Z,Z,Z,Z,Z] rfl rfl (any_of HT_.out (by kernel_rfl)) (fun _ _ _ h => h) (Or.inl ⟨by rfl, ?_⟩) ?_ ?_
    rotate_left
    ·exact Sw
    rotate_left
    ·exact Sr
    refine take_ (i := 6) (N := some 32) (v := ?_) (a' := ?_) #[Y,Y,Y,Y,Y,Y,Y,Z,Z,Y,Z,Z,Z,Z,Z,Z] rfl rfl (take_ofW HT_.out HW_.out (by kernel_rfl)) (fun _ _ _ h => h) (Or.inl ⟨by rfl, ?_⟩) hHeld ?_ ?_
    rotate_left
    ·rintro w' ⟨s0, s1, s2, s3, s4, s5, s6⟩
     go_simp
     with_reducible rfl
    rotate_left
    ·exact Sr
    refine take_ (i := 7) (N := some 33) (v := ?_) (a' := ?_) #[Y,Y,Y,Y,Y,Y,Y,Y,Z,Y,Z,Z,Z,Z,Z,Z] rfl rfl (take_ofW HT_.out HW_.out (by kernel_rfl)) (fun _ _ _ h => h) (Or.inl ⟨by rfl, ?_⟩) hHeld ?_ ?_
    rotate_left
    ·rintro w' ⟨s0, s1, s2, s3, s4, s5, s6⟩
     go_simp
     with_reducible rfl
    rotate_left
    ·exact Sr
    refine take_ (i := 10) (N := some 36) (v := ?_) (a' := ?_) #[Y,Y,Y,Y,Y,Y,Y,Y,Z,Y,Y,Z,Z,Z,Z,Z] rfl rfl (take_ofW HT_.out HW_.out (by kernel_rfl)) (fun _ _ _ h => h) (Or.inl ⟨by rfl, ?_⟩) hHeld ?_ ?_
    rotate_left
    ·rintro w' ⟨s0, s1, s2, s3, s4, s5, s6⟩
     go_simp
     with_reducible rfl
    rotate_left
    ·exact Sr
    refine take_ (i := 11) (N := some 37) (v := ?_) (a' := ?_) #[Y,Y,Y,Y,Y,Y,Y,Y,Z,Y,Y,Y,Z,Z,Z,Z] rfl rfl (take_ofW HT_.out HW_.out (by kernel_rfl)) (fun _ _ _ h => h) (Or.inl ⟨by rfl, ?_⟩) hHeld ?_ ?_
    rotate_left
    ·rintro w' ⟨s0, s1, s2, s3, s4, s5, s6⟩
     go_simp
     with_reducible rfl
    rotate_left
    ·exact Sr
    refine one_ (i := 8) (N := some 34) #[Y,Y,Y,Y,Y,Y,Y,Y,Y,Y,Y,Y,Z,Z,Z,Z] rfl rfl (one_of HT_.out (by kernel_rfl)) (by decide) (fun K hK => ?_)
    refine goes_ Tryd.func20 (by kernel_rfl) rfl #[.agg #[.bool a0_0, .int .u64 a0_1, .int .u64 a0_2], .agg #[.bool a2_0, .int .u64 a2_1, .int .u64 a2_2]] (by rfl) rfl rfl Ma ?_
    with_reducible refine (prefix_Common.calls k a0_0 a0_1 a0_2 a2_0 a2_1 a2_2 t373 _ A12.out).mono ?_
    rintro e w24 ⟨rfl, hb⟩
    refine ⟨_, rfl, ?_⟩
    have n0_ := Aside0.mk (blk_below (g := gb365) (o := .cells #[.bool a0_0, .int .u64 a0_1, .int .u64 a0_2, .int .i64 a0_3] 26 (0, 0)) (St BK365.out) hb)
    have n1_ := Aside0.mk (blk_below (g := gb366) (o := .cells #[.bool a1_0, .int .u64 a1_1, .int .u64 a1_2, .int .i64 a1_3] 26 (0, 0)) (St BK366.out) hb)
    have n2_ := Aside0.mk (blk_below (g := gb367) (o := .cells #[.bool a2_0, .int .u64 a2_1, .int .u64 a2_2] 24 (0, 0)) (St BK367.out) hb)
    have n3_ := Aside0.mk (below_step (Hb HB.out) hb)
    clear BK365
    clear BK366
    clear BK367
    clear HB
    have BK365 := n0_
    have BK366 := n1_
    have BK367 := n2_
    have HB := n3_
    clear n0_ n1_ n2_ n3_
    (try clear hb)
    (try clear hb2)
    (try clear hk)
    (try clear hi)
    refine hK.out _ _ ⟨(blk_cell BK365.out 0).trans rfl, (blk_cell BK365.out 1).trans rfl, (blk_cell BK365.out 2).trans rfl, (blk_cell BK365.out 3).trans rfl, (blk_cell BK367.out 0).trans rfl, (blk_cell BK367.out 1).trans rfl, (blk_cell BK367.out 2).trans rfl⟩ (fun hHeld => ?_)
    clear hK K
    refine norm_ (a' := ?_) ?_ ?_
    rotate_left
    ·show Act.put _ (some 34) _ = _
     refine Sp ?_
     rfl
    refine one_ (i := 12) (N := some 38) #[Y,Y,Y,Y,Y,Y,Y,Y,Y,Y,Y,Y,Y,Z,Z,Z] rfl rfl (one_of HT_.out (by kernel_rfl)) (by decide) (fun K hK => ?_)
    refine goes_ Tryd.func21 (by kernel_rfl) rfl #[.agg #[.bool a0_0, .int .u64 a0_1, .int .u64 a0_2], .agg #[.bool a2_0, .int .u64 a2_1, .int .u64 a2_2]] (by rfl) rfl rfl Ma ?_
    with_reducible refine (crosswayref04_Common.calls k a0_0 a0_1 a0_2 a2_0 a2_1 a2_2 t374 _ A13.out).mono ?_
    rintro e w25 ⟨rfl, hb⟩
    refine ⟨_, rfl, ?_⟩
    have n0_ := Aside0.mk (blk_below (g := gb365) (o := .cells #[.bool a0_0, .int .u64 a0_1, .int .u64 a0_2, .int .i64 a0_3] 26 (0, 0)) (St BK365.out) hb)
    have n1_ := Aside0.mk (blk_below (g := gb366) (o := .cells #[.bool a1_0, .int .u64 a1_1, .int .u64 a1_2, .int .i64 a1_3] 26 (0, 0)) (St BK366.out) hb)
    have n2_ := Aside0.mk (blk_below (g := gb367) (o := .cells #[.bool a2_0, .int .u64 a2_1, .int .u64 a2_2] 24 (0, 0)) (St BK367.out) hb)
    have n3_ := Aside0.mk (below_step (Hb HB.out) hb)
    clear BK365
    clear BK366
    clear BK367
    clear HB
    have BK365 := n0_
    have BK366 := n1_
    have BK367 := n2_
    have HB := n3_
    clear n0_ n1_ n2_ n3_
    (try clear hb)
    (try clear hb2)
    (try clear hk)
    (try clear hi)
    refine hK.out _ _ ⟨(blk_cell BK365.out 0).trans rfl, (blk_cell BK365.out 1).trans rfl, (blk_cell BK365.out 2).trans rfl, (blk_cell BK365.out 3).trans rfl, (blk_cell BK367.out 0).trans rfl, (blk_cell BK367.out 1).trans rfl, (blk_cell BK367.out 2).trans rfl⟩ (fun hHeld => ?_)
    clear hK K
    refine norm_ (a' := ?_) ?_ ?_
    rotate_left
    ·show Act.put _ (some 38) _ = _
     refine Sp ?_
     rfl
    refine pure_ (i := 13) (N := some 39) (v := ?_) (a' := ?_) #[Y,Y,Y,Y,Y,Y,Y,Y,Y,Y,Y,Y,Y,Y,Z,Z] rfl rfl (any_of HT_.out (by kernel_rfl)) (fun _ _ _ h => h) (Or.inl ⟨by rfl, ?_⟩) ?_ ?_
    rotate_left
    ·exact Sw
    rotate_left
    ·exact Sr
    refine pure_ (i := 14) (N := some 40) (v := ?_) (a' := ?_) #[Y,Y,Y,Y,Y,Y,Y,Y,Y,Y,Y,Y,Y,Y,Y,Z] rfl rfl (any_of HT_.out (by kernel_rfl)) (fun _ _ _ h => h) (Or.inl ⟨by rfl, ?_⟩) ?_ ?_
    rotate_left
    ·exact Sw
    rotate_left
    ·exact Sr
    refine pure_ (i := 15) (N := some 6) (v := ?_) (a' := ?_) #[Y,Y,Y,Y,Y,Y,Y,Y,Y,Y,Y,Y,Y,Y,Y,Y] rfl rfl (any_of HT_.out (by kernel_rfl)) (fun _ _ _ h => h) (Or.inl ⟨by rfl, ?_⟩) ?_ ?_
    rotate_left
    ·exact Sw
    rotate_left
    ·exact Sr
    refine done_ (done_of HT_.out (by kernel_rfl)) ?_
    try go_wp2
    go_ret
    exact ⟨by first | rfl | (simp [errW_none, errW_some] <;> rfl) | (simp [*, errW_none, errW_some] <;> rfl), Hb HB.out⟩
   ·rw [if_neg c11] at H
    exact absurd H (by simp)
  ·replace c10 := Bool.eq_false_iff.mpr c10
   subst c10
   have H1 : (none) = some r := by rw [if_neg (show ¬ (false = true) by decide)] at H; exact H
   clear H
   have H := H1
   clear H1
   exact absurd H (by simp)
 ·rw [if_neg c7] at H
  exact absurd H (by simp)

end Go.Proofs.YtmhjgjdiifcdlaaDoor.P
