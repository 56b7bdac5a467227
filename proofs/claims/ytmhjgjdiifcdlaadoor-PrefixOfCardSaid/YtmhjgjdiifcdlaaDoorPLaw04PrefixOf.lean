-- Laid by a program (wip/pr.py) out of the translation: each function as a Lean function, and the proof that the call comes to it.
import Derived.Test.YtmhjgjdiifcdlaaDoorShort
import Derived.Test.YtmhjgjdiifcdlaaDoorPBase
import Derived.Test.YtmhjgjdiifcdlaaDoorPEq26
import Derived.Test.YtmhjgjdiifcdlaaDoorPPrefixOf
import Derived.Test.YtmhjgjdiifcdlaaDoorPPrefixBit
import Derived.Test.YtmhjgjdiifcdlaaDoorPPrefixValid
import Derived.Test.YtmhjgjdiifcdlaaDoorPLaw04awake
import Derived.Test.YtmhjgjdiifcdlaaDoorPRef04Bit
import Derived.Test.YtmhjgjdiifcdlaaDoorPRef04Of
import Derived.Test.YtmhjgjdiifcdlaaDoorPRef04Valid
namespace Go.Proofs.YtmhjgjdiifcdlaaDoor.P
open Go.RowKit Go.Proofs.YtmhjgjdiifcdlaaDoorW.PrintWords Go.Proofs.YtmhjgjdiifcdlaaDoorW.PrintLast Go.Proofs.YtmhjgjdiifcdlaaDoorW.PrintMore
attribute [local go_sem] max2_int min2_int max_two min_two max_three min_three max_four min_four   -- for this text's walks alone
set_option linter.unusedVariables false
set_option linter.unusedSimpArgs false

attribute [local go_sem high] eqA26
/-! ### crosswaylaw04_PrefixOf: function 3 -/
def crosswaylaw04_PrefixOf.f (k : Nat) (a0_0 : Bool) (a0_1 : Int) (a0_2 : Int) (a1 : Int) (a2_0 : Bool) (a2_1 : Int) (a2_2 : Int) (a2_3 : Int) : Option (Bool) := (crosswaylaw04_awake.f k).bind fun t333 => ((prefix_Of.f a0_0 a0_1 a0_2 a1).bind fun bt334 => ((crosswayref04_Of.f k a0_0 a0_1 a0_2 a1).bind fun bt340 => (if t333 = true then (if ((bt334.1 == bt340.1 && (bt334.2.1 == bt340.2.1 && (bt334.2.2.1 == bt340.2.2.1))) && (bt334.2.2.2.1 == bt340.2.2.2.1)) = true then (if bt334.2.2.2.2 = bt340.2.2.2.2 then ((prefix_Bit.f k a0_0 a0_1 a0_2 a1).bind fun t346 => ((crosswayref04_Bit.f k a0_0 a0_1 a0_2 a1).bind fun t347 => (if t346 = t347 then ((prefix_Valid.f a2_0 a2_1 a2_2 a2_3).bind fun t348 => ((crosswayref04_Valid.f k a2_0 a2_1 a2_2 a2_3).bind fun t349 => (some (t348 == t349)))) else (none)))) else (none)) else (none)) else (none))))
theorem crosswaylaw04_PrefixOf.mono : ∀ a0 a1 a2 a3 a4 a5 a6 a7 k, LeO (crosswaylaw04_PrefixOf.f k a0 a1 a2 a3 a4 a5 a6 a7) (crosswaylaw04_PrefixOf.f (k + 1) a0 a1 a2 a3 a4 a5 a6 a7) := by
 intro a0 a1 a2 a3 a4 a5 a6 a7 k
 unfold crosswaylaw04_PrefixOf.f
 repeat' first
   | (with_reducible exact crosswaylaw04_awake.mono _)
   | (with_reducible exact crosswayref04_Bit.mono _ _ _ _ _)
   | (with_reducible exact crosswayref04_Of.mono _ _ _ _ _)
   | (with_reducible exact crosswayref04_Valid.mono _ _ _ _ _)
   | (with_reducible exact prefix_Bit.mono _ _ _ _ _)
   | (with_reducible exact LeO.refl _)
   | (with_reducible exact LeO.none _)
   | (with_reducible refine LeO.ite ?_ ?_)
   | (with_reducible refine LeO.bind ?_ (fun _ => ?_))
   | exact crosswaylaw04_awake.mono _
   | exact crosswayref04_Bit.mono _ _ _ _ _
   | exact crosswayref04_Of.mono _ _ _ _ _
   | exact crosswayref04_Valid.mono _ _ _ _ _
   | exact prefix_Bit.mono _ _ _ _ _
   | exact LeO.none _
   | refine LeO.ite ?_ ?_
   | refine LeO.bind ?_ (fun _ => ?_)
def crosswaylaw04_PrefixOf.T4 : Bool × List (List Nat × List Nat) := (true, [([], []), ([0], [0]), ([1], [1]), ([1], [1]), ([2, 3, 1], [1, 2, 3]), ([1, 4], [1, 4]), ([5, 1], [5]), ([6], [6]), ([6], [6]), ([7, 8, 6], [6, 7, 8]), ([6, 9], [6, 9]), ([10, 6], [10]), ([11], [11]), ([11], [11]), ([12, 13, 11, 11], [11, 12, 13]), ([11], [11]), ([11], [11]), ([15, 16, 14, 11], [11, 15, 16]), ([14, 17, 11], [11, 14, 17]), ([11, 18], [11, 18]), ([19, 17], [19]), ([20], [20]), ([21, 20, 20], [20, 21]), ([20], [20]), ([23, 22, 20], [20, 23]), ([22, 24, 20], [20, 22, 24]), ([20, 25], [20, 25]), ([26, 24, 0, 1, 2, 3, 4, 5, 6, 7, 8, 9, 10, 11, 12, 13, 14, 15, 16, 17, 18, 19, 20, 21, 22, 23, 24, 25, 26], [26])])
def crosswaylaw04_PrefixOf.B4 : List Nat := [0, 1, 3, 3, 15, 31, 63, 127, 127, 511, 1023, 2047, 4095, 4095, 16383, 4095, 4095, 131071, 262143, 524287, 1048575, 2097151, 4194303, 2097151, 16777215, 33554431, 67108863, 134217727]
theorem crosswaylaw04_PrefixOf.tab4 : rtab .any (opsOf Tryd.f3 4) = crosswaylaw04_PrefixOf.T4 := by kernel_rfl
theorem crosswaylaw04_PrefixOf.bits4 : waitsOk crosswaylaw04_PrefixOf.T4.2 crosswaylaw04_PrefixOf.B4 = true := by kernel_rfl
set_option maxHeartbeats 8000000 in
set_option maxRecDepth 100000 in
theorem crosswaylaw04_PrefixOf.calls (k : Nat) (a0_0 : Bool) (a0_1 : Int) (a0_2 : Int) (a1 : Int) (a2_0 : Bool) (a2_1 : Int) (a2_2 : Int) (a2_3 : Int) (r : Bool) (w : World) (hG : Glob w) (h : crosswaylaw04_PrefixOf.f k a0_0 a0_1 a0_2 a1 a2_0 a2_1 a2_2 a2_3 = some r) :
  Calls Tryd.prog 3 #[.agg #[.bool a0_0, .int .u64 a0_1, .int .u64 a0_2], .int .i64 a1, .agg #[.bool a2_0, .int .u64 a2_1, .int .u64 a2_2, .int .i64 a2_3]] w fun e w' => e = .returned (.bool r) ∧ Below w.heap.size w w' := by
 have hu24 := Tryd.underlying24
 have hu26 := Tryd.underlying26
 have HG := Aside0.mk hG
 clear hG
 have HB := Aside0.mk (Below.refl w.heap.size w)
 have H : ((crosswaylaw04_awake.f k).bind fun t333 => ((prefix_Of.f a0_0 a0_1 a0_2 a1).bind fun bt334 => ((crosswayref04_Of.f k a0_0 a0_1 a0_2 a1).bind fun bt340 => (if t333 = true then (if ((bt334.1 == bt340.1 && (bt334.2.1 == bt340.2.1 && (bt334.2.2.1 == bt340.2.2.1))) && (bt334.2.2.2.1 == bt340.2.2.2.1)) = true then (if bt334.2.2.2.2 = bt340.2.2.2.2 then ((prefix_Bit.f k a0_0 a0_1 a0_2 a1).bind fun t346 => ((crosswayref04_Bit.f k a0_0 a0_1 a0_2 a1).bind fun t347 => (if t346 = t347 then ((prefix_Valid.f a2_0 a2_1 a2_2 a2_3).bind fun t348 => ((crosswayref04_Valid.f k a2_0 a2_1 a2_2 a2_3).bind fun t349 => (some (t348 == t349)))) else (none)))) else (none)) else (none)) else (none))))) = some r := h
 clear h
 replace H := Option.bind_eq_some_iff.mp H
 obtain ⟨t333, A40, H⟩ := H
 replace H : ((prefix_Of.f a0_0 a0_1 a0_2 a1).bind fun bt334 => ((crosswayref04_Of.f k a0_0 a0_1 a0_2 a1).bind fun bt340 => (if t333 = true then (if ((bt334.1 == bt340.1 && (bt334.2.1 == bt340.2.1 && (bt334.2.2.1 == bt340.2.2.1))) && (bt334.2.2.2.1 == bt340.2.2.2.1)) = true then (if bt334.2.2.2.2 = bt340.2.2.2.2 then ((prefix_Bit.f k a0_0 a0_1 a0_2 a1).bind fun t346 => ((crosswayref04_Bit.f k a0_0 a0_1 a0_2 a1).bind fun t347 => (if t346 = t347 then ((prefix_Valid.f a2_0 a2_1 a2_2 a2_3).bind fun t348 => ((crosswayref04_Valid.f k a2_0 a2_1 a2_2 a2_3).bind fun t349 => (some (t348 == t349)))) else (none)))) else (none)) else (none)) else (none)))) = some r := H
 have A4 := Aside0.mk A40
 clear A40
 replace H := Option.bind_eq_some_iff.mp H
 obtain ⟨⟨t334, t335, t336, t337, t338⟩, A50, H⟩ := H
 replace H : ((crosswayref04_Of.f k a0_0 a0_1 a0_2 a1).bind fun bt340 => (if t333 = true then (if ((t334 == bt340.1 && (t335 == bt340.2.1 && (t336 == bt340.2.2.1))) && (t337 == bt340.2.2.2.1)) = true then (if t338 = bt340.2.2.2.2 then ((prefix_Bit.f k a0_0 a0_1 a0_2 a1).bind fun t346 => ((crosswayref04_Bit.f k a0_0 a0_1 a0_2 a1).bind fun t347 => (if t346 = t347 then ((prefix_Valid.f a2_0 a2_1 a2_2 a2_3).bind fun t348 => ((crosswayref04_Valid.f k a2_0 a2_1 a2_2 a2_3).bind fun t349 => (some (t348 == t349)))) else (none)))) else (none)) else (none)) else (none))) = some r := H
 have A5 := Aside0.mk A50
 clear A50
 replace H := Option.bind_eq_some_iff.mp H
 obtain ⟨⟨t340, t341, t342, t343, t344⟩, A60, H⟩ := H
 replace H : (if t333 = true then (if ((t334 == t340 && (t335 == t341 && (t336 == t342))) && (t337 == t343)) = true then (if t338 = t344 then ((prefix_Bit.f k a0_0 a0_1 a0_2 a1).bind fun t346 => ((crosswayref04_Bit.f k a0_0 a0_1 a0_2 a1).bind fun t347 => (if t346 = t347 then ((prefix_Valid.f a2_0 a2_1 a2_2 a2_3).bind fun t348 => ((crosswayref04_Valid.f k a2_0 a2_1 a2_2 a2_3).bind fun t349 => (some (t348 == t349)))) else (none)))) else (none)) else (none)) else (none)) = some r := H
 have A6 := Aside0.mk A60
 clear A60
 by_cases c7 : t333 = true
 ·subst c7
  have H1 : (if ((t334 == t340 && (t335 == t341 && (t336 == t342))) && (t337 == t343)) = true then (if t338 = t344 then ((prefix_Bit.f k a0_0 a0_1 a0_2 a1).bind fun t346 => ((crosswayref04_Bit.f k a0_0 a0_1 a0_2 a1).bind fun t347 => (if t346 = t347 then ((prefix_Valid.f a2_0 a2_1 a2_2 a2_3).bind fun t348 => ((crosswayref04_Valid.f k a2_0 a2_1 a2_2 a2_3).bind fun t349 => (some (t348 == t349)))) else (none)))) else (none)) else (none)) = some r := by rw [if_pos rfl] at H; exact H
  clear H
  have H := H1
  clear H1
  by_cases c8 : ((t334 == t340 && (t335 == t341 && (t336 == t342))) && (t337 == t343)) = true
  ·rw [if_pos c8] at H
   have c8b0 : ((t334 == t340 && (t335 == t341 && (t336 == t342))) && (t337 == t343)) = true := c8
   clear c8
   by_cases c9 : t338 = t344
   ·rw [if_pos c9] at H
    have c9b0 : (t338 == t344) = true := beq_iff_eq.mpr c9
    have c9b1 : (t338 != t344) = false := bne_eq_false_iff_eq.mpr c9
    clear c9
    replace H := Option.bind_eq_some_iff.mp H
    obtain ⟨t346, A100, H⟩ := H
    replace H : ((crosswayref04_Bit.f k a0_0 a0_1 a0_2 a1).bind fun t347 => (if t346 = t347 then ((prefix_Valid.f a2_0 a2_1 a2_2 a2_3).bind fun t348 => ((crosswayref04_Valid.f k a2_0 a2_1 a2_2 a2_3).bind fun t349 => (some (t348 == t349)))) else (none))) = some r := H
    have A10 := Aside0.mk A100
    clear A100
    replace H := Option.bind_eq_some_iff.mp H
    obtain ⟨t347, A110, H⟩ := H
    replace H : (if t346 = t347 then ((prefix_Valid.f a2_0 a2_1 a2_2 a2_3).bind fun t348 => ((crosswayref04_Valid.f k a2_0 a2_1 a2_2 a2_3).bind fun t349 => (some (t348 == t349)))) else (none)) = some r := H
    have A11 := Aside0.mk A110
    clear A110
    by_cases c12 : t346 = t347
    ·rw [if_pos c12] at H
     have c12b0 : (t346 == t347) = true := beq_iff_eq.mpr c12
     have c12b1 : (t346 != t347) = false := bne_eq_false_iff_eq.mpr c12
     clear c12
     replace H := Option.bind_eq_some_iff.mp H
     obtain ⟨t348, A130, H⟩ := H
     replace H : ((crosswayref04_Valid.f k a2_0 a2_1 a2_2 a2_3).bind fun t349 => (some (t348 == t349))) = some r := H
     have A13 := Aside0.mk A130
     clear A130
     replace H := Option.bind_eq_some_iff.mp H
     obtain ⟨t349, A140, H⟩ := H
     replace H : (some (t348 == t349)) = some r := H
     have A14 := Aside0.mk A140
     clear A140
     obtain rfl := Option.some.inj H
     go_enter Tryd.func3, Tryd.ntmps3
     try go_wp2_with (first | ((with_reducible refine gate_dst (N := 3) rfl ?_); refine box_event ?hg (N := 3) ?hd (cs := #[.bool a0_0, .int .u64 a0_1, .int .u64 a0_2]) (t := 24) ?hr ?_; (case hd => rfl); (case hg => rfl); (case hr => first | (go_simp; done) | (go_simp; rfl)); intro gb331 hg w15 hbox hb; have n0_ := Aside0.mk (below_step (Hb HB.out) hb); have n1_ := Aside0.mk (hbox); have n2_ := Aside0.mk ((by rw [hg]; exact (below_size (Hb HB.out)) : w.heap.size ≤ gb331)); have n3_ := Aside0.mk ((by rw [hg]; exact (below_size (Hb HB.out)) : w.heap.size ≤ gb331)); clear HB; have HB := n0_; have BK331 := n1_; have GW331 := n2_; have GE331 := n3_; clear n0_ n1_ n2_ n3_; clear hb hbox hg) | ((with_reducible refine gate_dst (N := 5) rfl ?_); refine box_event ?hg (N := 5) ?hd (cs := #[.bool a2_0, .int .u64 a2_1, .int .u64 a2_2, .int .i64 a2_3]) (t := 26) ?hr ?_; (case hd => rfl); (case hg => rfl); (case hr => first | (go_simp; done) | (go_simp; rfl)); intro gb332 hg w16 hbox hb; have n0_ := Aside0.mk (blk_below (g := gb331) (o := .cells #[.bool a0_0, .int .u64 a0_1, .int .u64 a0_2] 24 (0, 0)) (St BK331.out) hb); have n1_ := Aside0.mk (below_step (Hb HB.out) hb); have n2_ := Aside0.mk (hbox); have n3_ := Aside0.mk ((by rw [hg]; exact (below_size (Hb HB.out)) : w.heap.size ≤ gb332)); have n4_ := Aside0.mk ((by rw [hg]; exact (below_size (Hb HB.out)) : w.heap.size ≤ gb332)); have n5_ := Aside0.mk ((by rw [hg]; exact Nat.ne_of_lt (blk_lt (g := gb331) (o := .cells #[.bool a0_0, .int .u64 a0_1, .int .u64 a0_2] 24 (0, 0)) (St BK331.out)) : gb331 ≠ gb332)); have n6_ := Aside0.mk ((by rw [hg]; exact Nat.ne_of_gt (blk_lt (g := gb331) (o := .cells #[.bool a0_0, .int .u64 a0_1, .int .u64 a0_2] 24 (0, 0)) (St BK331.out)) : gb332 ≠ gb331)); clear BK331; clear HB; have BK331 := n0_; have HB := n1_; have BK332 := n2_; have GW332 := n3_; have GE332 := n4_; have NB331_332 := n5_; have NB332_331 := n6_; clear n0_ n1_ n2_ n3_ n4_ n5_ n6_; clear hb hbox hg) | ((with_reducible refine gate_callee (f := 9) rfl ?_); refine goesL_ (some 12) rfl rfl Tryd.func9 (by kernel_rfl) rfl #[] rfl Ma ?_; (with_reducible refine (crosswaylaw04_awake.calls k  true _ (Glob_below HG.out (Hb HB.out)) A4.out).mono ?_); rintro e w17 ⟨rfl, hb⟩; refine ⟨_, rfl, ?_⟩; have n0_ := Aside0.mk (blk_below (g := gb331) (o := .cells #[.bool a0_0, .int .u64 a0_1, .int .u64 a0_2] 24 (0, 0)) (St BK331.out) hb); have n1_ := Aside0.mk (blk_below (g := gb332) (o := .cells #[.bool a2_0, .int .u64 a2_1, .int .u64 a2_2, .int .i64 a2_3] 26 (0, 0)) (St BK332.out) hb); have n2_ := Aside0.mk (below_step (Hb HB.out) hb); clear BK331; clear BK332; clear HB; have BK331 := n0_; have BK332 := n1_; have HB := n2_; clear n0_ n1_ n2_; (try clear hb); (try clear hb2); (try clear hk); (try clear hi); have hnb18 := NB331_332.out; have hnc18 := NB332_331.out; have hcz19_0 : w17.cell? ⟨gb331, 0, none⟩ = some (.bool a0_0) := (blk_cell BK331.out 0).trans rfl; have hcz19_1 : w17.cell? ⟨gb331, 1, none⟩ = some (.int .u64 a0_1) := (blk_cell BK331.out 1).trans rfl; have hcz19_2 : w17.cell? ⟨gb331, 2, none⟩ = some (.int .u64 a0_2) := (blk_cell BK331.out 2).trans rfl; have hfz19_0 := blk_frozen BK331.out 0; have hfz19_1 := blk_frozen BK331.out 1; have hfz19_2 := blk_frozen BK331.out 2) | ((with_reducible refine gate_callee (f := 10) rfl ?_); refine goesL_ (some 16) rfl rfl Tryd.func10 (by kernel_rfl) rfl #[.agg #[.bool a0_0, .int .u64 a0_1, .int .u64 a0_2], .int .i64 a1] rfl Ma ?_; (with_reducible refine (prefix_Of.calls a0_0 a0_1 a0_2 a1 t334 t335 t336 t337 t338 _ A5.out).mono ?_); rintro e w20 ⟨rfl, hb⟩; refine ⟨_, rfl, ?_⟩; have n0_ := Aside0.mk (blk_below (g := gb331) (o := .cells #[.bool a0_0, .int .u64 a0_1, .int .u64 a0_2] 24 (0, 0)) (St BK331.out) hb); have n1_ := Aside0.mk (blk_below (g := gb332) (o := .cells #[.bool a2_0, .int .u64 a2_1, .int .u64 a2_2, .int .i64 a2_3] 26 (0, 0)) (St BK332.out) hb); have n2_ := Aside0.mk (below_step (Hb HB.out) hb); clear BK331; clear BK332; clear HB; have BK331 := n0_; have BK332 := n1_; have HB := n2_; clear n0_ n1_ n2_; (try clear hb); (try clear hb2); (try clear hk); (try clear hi)) | ((with_reducible refine gate_dst (N := 8) rfl ?_); refine box_event ?hg (N := 8) ?hd (cs := #[.bool false, .int .u64 0, .int .u64 0, .int .i64 0]) (t := 26) ?hr ?_; (case hd => rfl); (case hg => rfl); (case hr => first | (go_simp; done) | (go_simp; rfl)); intro gb339 hg w21 hbox hb; have n0_ := Aside0.mk (blk_below (g := gb331) (o := .cells #[.bool a0_0, .int .u64 a0_1, .int .u64 a0_2] 24 (0, 0)) (St BK331.out) hb); have n1_ := Aside0.mk (blk_below (g := gb332) (o := .cells #[.bool a2_0, .int .u64 a2_1, .int .u64 a2_2, .int .i64 a2_3] 26 (0, 0)) (St BK332.out) hb); have n2_ := Aside0.mk (below_step (Hb HB.out) hb); have n3_ := Aside0.mk (hbox); have n4_ := Aside0.mk ((by rw [hg]; exact (below_size (Hb HB.out)) : w.heap.size ≤ gb339)); have n5_ := Aside0.mk ((by rw [hg]; exact (below_size (Hb HB.out)) : w.heap.size ≤ gb339)); have n6_ := Aside0.mk ((by rw [hg]; exact Nat.ne_of_lt (blk_lt (g := gb331) (o := .cells #[.bool a0_0, .int .u64 a0_1, .int .u64 a0_2] 24 (0, 0)) (St BK331.out)) : gb331 ≠ gb339)); have n7_ := Aside0.mk ((by rw [hg]; exact Nat.ne_of_gt (blk_lt (g := gb331) (o := .cells #[.bool a0_0, .int .u64 a0_1, .int .u64 a0_2] 24 (0, 0)) (St BK331.out)) : gb339 ≠ gb331)); have n8_ := Aside0.mk ((by rw [hg]; exact Nat.ne_of_lt (blk_lt (g := gb332) (o := .cells #[.bool a2_0, .int .u64 a2_1, .int .u64 a2_2, .int .i64 a2_3] 26 (0, 0)) (St BK332.out)) : gb332 ≠ gb339)); have n9_ := Aside0.mk ((by rw [hg]; exact Nat.ne_of_gt (blk_lt (g := gb332) (o := .cells #[.bool a2_0, .int .u64 a2_1, .int .u64 a2_2, .int .i64 a2_3] 26 (0, 0)) (St BK332.out)) : gb339 ≠ gb332)); clear BK331; clear BK332; clear HB; have BK331 := n0_; have BK332 := n1_; have HB := n2_; have BK339 := n3_; have GW339 := n4_; have GE339 := n5_; have NB331_339 := n6_; have NB339_331 := n7_; have NB332_339 := n8_; have NB339_332 := n9_; clear n0_ n1_ n2_ n3_ n4_ n5_ n6_ n7_ n8_ n9_; clear hb hbox hg; have hnb22 := NB339_331.out; have hnc22 := NB331_339.out; have hnb23 := NB339_332.out; have hnc23 := NB332_339.out; have hcz24_0 : w21.cell? ⟨gb339, 0, none⟩ = some (.bool false) := (blk_cell BK339.out 0).trans rfl; have hcz24_1 : w21.cell? ⟨gb339, 1, none⟩ = some (.int .u64 0) := (blk_cell BK339.out 1).trans rfl; have hcz24_2 : w21.cell? ⟨gb339, 2, none⟩ = some (.int .u64 0) := (blk_cell BK339.out 2).trans rfl; have hcz24_3 : w21.cell? ⟨gb339, 3, none⟩ = some (.int .i64 0) := (blk_cell BK339.out 3).trans rfl; have hfz24_0 := blk_frozen BK339.out 0; have hfz24_1 := blk_frozen BK339.out 1; have hfz24_2 := blk_frozen BK339.out 2; have hfz24_3 := blk_frozen BK339.out 3; have hcz25_0 : w21.cell? ⟨gb331, 0, none⟩ = some (.bool a0_0) := (blk_cell BK331.out 0).trans rfl; have hcz25_1 : w21.cell? ⟨gb331, 1, none⟩ = some (.int .u64 a0_1) := (blk_cell BK331.out 1).trans rfl; have hcz25_2 : w21.cell? ⟨gb331, 2, none⟩ = some (.int .u64 a0_2) := (blk_cell BK331.out 2).trans rfl; have hfz25_0 := blk_frozen BK331.out 0; have hfz25_1 := blk_frozen BK331.out 1; have hfz25_2 := blk_frozen BK331.out 2) | ((with_reducible refine gate_callee (f := 11) rfl ?_); refine goesL_ (some 22) rfl rfl Tryd.func11 (by kernel_rfl) rfl #[.agg #[.bool a0_0, .int .u64 a0_1, .int .u64 a0_2], .int .i64 a1] rfl Ma ?_; (with_reducible refine (crosswayref04_Of.calls k a0_0 a0_1 a0_2 a1 t340 t341 t342 t343 t344 _ A6.out).mono ?_); rintro e w26 ⟨rfl, hb⟩; refine ⟨_, rfl, ?_⟩; have n0_ := Aside0.mk (blk_below (g := gb331) (o := .cells #[.bool a0_0, .int .u64 a0_1, .int .u64 a0_2] 24 (0, 0)) (by refine St ?_; refine blk_far ?_ NB331_339.out _; refine St ?_; refine blk_far ?_ NB331_339.out _; refine St ?_; refine blk_far ?_ NB331_339.out _; refine St ?_; refine blk_far ?_ NB331_339.out _; refine St ?_; exact BK331.out) hb); have n1_ := Aside0.mk (blk_below (g := gb332) (o := .cells #[.bool a2_0, .int .u64 a2_1, .int .u64 a2_2, .int .i64 a2_3] 26 (0, 0)) (by refine St ?_; refine blk_far ?_ NB332_339.out _; refine St ?_; refine blk_far ?_ NB332_339.out _; refine St ?_; refine blk_far ?_ NB332_339.out _; refine St ?_; refine blk_far ?_ NB332_339.out _; refine St ?_; exact BK332.out) hb); have n2_ := Aside0.mk (blk_below (g := gb339) (o := .cells #[.bool t334, .int .u64 t335, .int .u64 t336, .int .i64 t337] 26 (0, 0)) (by refine St ?_; refine blk_put (cs := #[.bool t334, .int .u64 t335, .int .u64 t336, .int .i64 0]) ?_ 3 _ rfl; refine St ?_; refine blk_put (cs := #[.bool t334, .int .u64 t335, .int .u64 0, .int .i64 0]) ?_ 2 _ rfl; refine St ?_; refine blk_put (cs := #[.bool t334, .int .u64 0, .int .u64 0, .int .i64 0]) ?_ 1 _ rfl; refine St ?_; refine blk_put (cs := #[.bool false, .int .u64 0, .int .u64 0, .int .i64 0]) ?_ 0 _ rfl; refine St ?_; exact BK339.out) hb); have n3_ := Aside0.mk (below_step (Hb HB.out) hb); clear BK331; clear BK332; clear BK339; clear HB; have BK331 := n0_; have BK332 := n1_; have BK339 := n2_; have HB := n3_; clear n0_ n1_ n2_ n3_; (try clear hb); (try clear hb2); (try clear hk); (try clear hi)) | ((with_reducible refine gate_dst (N := 10) rfl ?_); refine box_event ?hg (N := 10) ?hd (cs := #[.bool false, .int .u64 0, .int .u64 0, .int .i64 0]) (t := 26) ?hr ?_; (case hd => rfl); (case hg => rfl); (case hr => first | (go_simp; done) | (go_simp; rfl)); intro gb345 hg w27 hbox hb; have n0_ := Aside0.mk (blk_below (g := gb331) (o := .cells #[.bool a0_0, .int .u64 a0_1, .int .u64 a0_2] 24 (0, 0)) (St BK331.out) hb); have n1_ := Aside0.mk (blk_below (g := gb332) (o := .cells #[.bool a2_0, .int .u64 a2_1, .int .u64 a2_2, .int .i64 a2_3] 26 (0, 0)) (St BK332.out) hb); have n2_ := Aside0.mk (blk_below (g := gb339) (o := .cells #[.bool t334, .int .u64 t335, .int .u64 t336, .int .i64 t337] 26 (0, 0)) (St BK339.out) hb); have n3_ := Aside0.mk (below_step (Hb HB.out) hb); have n4_ := Aside0.mk (hbox); have n5_ := Aside0.mk ((by rw [hg]; exact (below_size (Hb HB.out)) : w.heap.size ≤ gb345)); have n6_ := Aside0.mk ((by rw [hg]; exact (below_size (Hb HB.out)) : w.heap.size ≤ gb345)); have n7_ := Aside0.mk ((by rw [hg]; exact Nat.ne_of_lt (blk_lt (g := gb331) (o := .cells #[.bool a0_0, .int .u64 a0_1, .int .u64 a0_2] 24 (0, 0)) (St BK331.out)) : gb331 ≠ gb345)); have n8_ := Aside0.mk ((by rw [hg]; exact Nat.ne_of_gt (blk_lt (g := gb331) (o := .cells #[.bool a0_0, .int .u64 a0_1, .int .u64 a0_2] 24 (0, 0)) (St BK331.out)) : gb345 ≠ gb331)); have n9_ := Aside0.mk ((by rw [hg]; exact Nat.ne_of_lt (blk_lt (g := gb332) (o := .cells #[.bool a2_0, .int .u64 a2_1, .int .u64 a2_2, .int .i64 a2_3] 26 (0, 0)) (St BK332.out)) : gb332 ≠ gb345)); have n10_ := Aside0.mk ((by rw [hg]; exact Nat.ne_of_gt (blk_lt (g := gb332) (o := .cells #[.bool a2_0, .int .u64 a2_1, .int .u64 a2_2, .int .i64 a2_3] 26 (0, 0)) (St BK332.out)) : gb345 ≠ gb332)); have n11_ := Aside0.mk ((by rw [hg]; exact Nat.ne_of_lt (blk_lt (g := gb339) (o := .cells #[.bool t334, .int .u64 t335, .int .u64 t336, .int .i64 t337] 26 (0, 0)) (St BK339.out)) : gb339 ≠ gb345)); have n12_ := Aside0.mk ((by rw [hg]; exact Nat.ne_of_gt (blk_lt (g := gb339) (o := .cells #[.bool t334, .int .u64 t335, .int .u64 t336, .int .i64 t337] 26 (0, 0)) (St BK339.out)) : gb345 ≠ gb339)); clear BK331; clear BK332; clear BK339; clear HB; have BK331 := n0_; have BK332 := n1_; have BK339 := n2_; have HB := n3_; have BK345 := n4_; have GW345 := n5_; have GE345 := n6_; have NB331_345 := n7_; have NB345_331 := n8_; have NB332_345 := n9_; have NB345_332 := n10_; have NB339_345 := n11_; have NB345_339 := n12_; clear n0_ n1_ n2_ n3_ n4_ n5_ n6_ n7_ n8_ n9_ n10_ n11_ n12_; clear hb hbox hg; have hnb28 := NB345_331.out; have hnc28 := NB331_345.out; have hnb29 := NB345_332.out; have hnc29 := NB332_345.out; have hnb30 := NB345_339.out; have hnc30 := NB339_345.out; have hcz31_0 : w27.cell? ⟨gb345, 0, none⟩ = some (.bool false) := (blk_cell BK345.out 0).trans rfl; have hcz31_1 : w27.cell? ⟨gb345, 1, none⟩ = some (.int .u64 0) := (blk_cell BK345.out 1).trans rfl; have hcz31_2 : w27.cell? ⟨gb345, 2, none⟩ = some (.int .u64 0) := (blk_cell BK345.out 2).trans rfl; have hcz31_3 : w27.cell? ⟨gb345, 3, none⟩ = some (.int .i64 0) := (blk_cell BK345.out 3).trans rfl; have hfz31_0 := blk_frozen BK345.out 0; have hfz31_1 := blk_frozen BK345.out 1; have hfz31_2 := blk_frozen BK345.out 2; have hfz31_3 := blk_frozen BK345.out 3))
     have n0_ : Aside0 (((((w27.setCell ⟨gb345, 0, none⟩ (.bool t340)).setCell ⟨gb345, 1, none⟩ (.int .u64 t341)).setCell ⟨gb345, 2, none⟩ (.int .u64 t342)).setCell ⟨gb345, 3, none⟩ (.int .i64 t343)).heap[gb331]? = some (.cells #[.bool a0_0, .int .u64 a0_1, .int .u64 a0_2] 24 (0, 0))) := ⟨by refine St ?_; refine blk_far ?_ NB331_345.out _; refine St ?_; refine blk_far ?_ NB331_345.out _; refine St ?_; refine blk_far ?_ NB331_345.out _; refine St ?_; refine blk_far ?_ NB331_345.out _; refine St ?_; exact BK331.out⟩
     have n1_ : Aside0 (((((w27.setCell ⟨gb345, 0, none⟩ (.bool t340)).setCell ⟨gb345, 1, none⟩ (.int .u64 t341)).setCell ⟨gb345, 2, none⟩ (.int .u64 t342)).setCell ⟨gb345, 3, none⟩ (.int .i64 t343)).heap[gb332]? = some (.cells #[.bool a2_0, .int .u64 a2_1, .int .u64 a2_2, .int .i64 a2_3] 26 (0, 0))) := ⟨by refine St ?_; refine blk_far ?_ NB332_345.out _; refine St ?_; refine blk_far ?_ NB332_345.out _; refine St ?_; refine blk_far ?_ NB332_345.out _; refine St ?_; refine blk_far ?_ NB332_345.out _; refine St ?_; exact BK332.out⟩
     have n2_ : Aside0 (((((w27.setCell ⟨gb345, 0, none⟩ (.bool t340)).setCell ⟨gb345, 1, none⟩ (.int .u64 t341)).setCell ⟨gb345, 2, none⟩ (.int .u64 t342)).setCell ⟨gb345, 3, none⟩ (.int .i64 t343)).heap[gb339]? = some (.cells #[.bool t334, .int .u64 t335, .int .u64 t336, .int .i64 t337] 26 (0, 0))) := ⟨by refine St ?_; refine blk_far ?_ NB339_345.out _; refine St ?_; refine blk_far ?_ NB339_345.out _; refine St ?_; refine blk_far ?_ NB339_345.out _; refine St ?_; refine blk_far ?_ NB339_345.out _; refine St ?_; exact BK339.out⟩
     have n3_ : Aside0 (((((w27.setCell ⟨gb345, 0, none⟩ (.bool t340)).setCell ⟨gb345, 1, none⟩ (.int .u64 t341)).setCell ⟨gb345, 2, none⟩ (.int .u64 t342)).setCell ⟨gb345, 3, none⟩ (.int .i64 t343)).heap[gb345]? = some (.cells #[.bool t340, .int .u64 t341, .int .u64 t342, .int .i64 t343] 26 (0, 0))) := ⟨by refine St ?_; refine blk_put (cs := #[.bool t340, .int .u64 t341, .int .u64 t342, .int .i64 0]) ?_ 3 _ rfl; refine St ?_; refine blk_put (cs := #[.bool t340, .int .u64 t341, .int .u64 0, .int .i64 0]) ?_ 2 _ rfl; refine St ?_; refine blk_put (cs := #[.bool t340, .int .u64 0, .int .u64 0, .int .i64 0]) ?_ 1 _ rfl; refine St ?_; refine blk_put (cs := #[.bool false, .int .u64 0, .int .u64 0, .int .i64 0]) ?_ 0 _ rfl; refine St ?_; exact BK345.out⟩
     have n4_ : Aside0 (Below w.heap.size w ((((w27.setCell ⟨gb345, 0, none⟩ (.bool t340)).setCell ⟨gb345, 1, none⟩ (.int .u64 t341)).setCell ⟨gb345, 2, none⟩ (.int .u64 t342)).setCell ⟨gb345, 3, none⟩ (.int .i64 t343))) := ⟨Hb HB.out⟩
     (try clear BK331)
     (try clear BK332)
     (try clear BK339)
     (try clear BK345)
     (try clear HB)
     generalize ((((w27.setCell ⟨gb345, 0, none⟩ (.bool t340)).setCell ⟨gb345, 1, none⟩ (.int .u64 t341)).setCell ⟨gb345, 2, none⟩ (.int .u64 t342)).setCell ⟨gb345, 3, none⟩ (.int .i64 t343)) = w32 at n0_ n1_ n2_ n3_ n4_ ⊢
     have BK331 := n0_
     have BK332 := n1_
     have BK339 := n2_
     have BK345 := n3_
     have HB := n4_
     clear n0_ n1_ n2_ n3_ n4_
     have n0_ := Aside0.mk (blk_drew BK331.out)
     have n1_ := Aside0.mk (blk_drew BK332.out)
     have n2_ := Aside0.mk (blk_drew BK339.out)
     have n3_ := Aside0.mk (blk_drew BK345.out)
     have n4_ := Aside0.mk (below_drew1 HB.out)
     clear BK331
     clear BK332
     clear BK339
     clear BK345
     clear HB
     have BK331 := n0_
     have BK332 := n1_
     have BK339 := n2_
     have BK345 := n3_
     have HB := n4_
     clear n0_ n1_ n2_ n3_ n4_
     refine start_ (n := 28) (S := fun w' => w'.cell? ⟨gb339, 0, none⟩ = some (.bool t334) ∧ w'.cell? ⟨gb339, 1, none⟩ = some (.int .u64 t335) ∧ w'.cell? ⟨gb339, 2, none⟩ = some (.int .u64 t336) ∧ w'.cell? ⟨gb339, 3, none⟩ = some (.int .i64 t337) ∧ w'.cell? ⟨gb345, 0, none⟩ = some (.bool t340) ∧ w'.cell? ⟨gb345, 1, none⟩ = some (.int .u64 t341) ∧ w'.cell? ⟨gb345, 2, none⟩ = some (.int .u64 t342) ∧ w'.cell? ⟨gb345, 3, none⟩ = some (.int .i64 t343) ∧ w'.cell? ⟨gb331, 0, none⟩ = some (.bool a0_0) ∧ w'.cell? ⟨gb331, 1, none⟩ = some (.int .u64 a0_1) ∧ w'.cell? ⟨gb331, 2, none⟩ = some (.int .u64 a0_2) ∧ w'.cell? ⟨gb332, 0, none⟩ = some (.bool a2_0) ∧ w'.cell? ⟨gb332, 1, none⟩ = some (.int .u64 a2_1) ∧ w'.cell? ⟨gb332, 2, none⟩ = some (.int .u64 a2_2) ∧ w'.cell? ⟨gb332, 3, none⟩ = some (.int .i64 a2_3)) (ds := []) #[Z,Z,Z,Z,Z,Z,Z,Z,Z,Z,Z,Z,Z,Z,Z,Z,Z,Z,Z,Z,Z,Z,Z,Z,Z,Z,Z,Z] (by kernel_rfl) rfl rfl ⟨(blk_cell BK339.out 0).trans rfl, (blk_cell BK339.out 1).trans rfl, (blk_cell BK339.out 2).trans rfl, (blk_cell BK339.out 3).trans rfl, (blk_cell BK345.out 0).trans rfl, (blk_cell BK345.out 1).trans rfl, (blk_cell BK345.out 2).trans rfl, (blk_cell BK345.out 3).trans rfl, (blk_cell BK331.out 0).trans rfl, (blk_cell BK331.out 1).trans rfl, (blk_cell BK331.out 2).trans rfl, (blk_cell BK332.out 0).trans rfl, (blk_cell BK332.out 1).trans rfl, (blk_cell BK332.out 2).trans rfl, (blk_cell BK332.out 3).trans rfl⟩ (fun hHeld => ?_); refine with_tabW crosswaylaw04_PrefixOf.tab4 crosswaylaw04_PrefixOf.bits4 (fun HT_ HW_ => ?_)
     generalize w32.drew = w33 at BK331 BK332 BK339 BK345 HB hHeld ⊢
     refine pure_ (i := 0) (N := some 25) (v := ?_) (a' := ?_) #[Y,Z,Z,Z,Z,Z,Z,Z,Z,Z,Z,Z,Z,Z,Z,Z,Z,Z,Z,Z,Z,Z,Z,Z,Z,Z,Z,Z] rfl rfl (any_of HT_.out (by kernel_rfl)) (fun _ _ _ h => h) (Or.inl ⟨by rfl, ?_⟩) ?_ ?_
     rotate_left
     ·exact Sw
     rotate_left
     ·exact Sr
     refine pure_ (i := 1) (N := some 26) (v := ?_) (a' := ?_) #[Y,Y,Z,Z,Z,Z,Z,Z,Z,Z,Z,Z,Z,Z,Z,Z,Z,Z,Z,Z,Z,Z,Z,Z,Z,Z,Z,Z] rfl rfl (any_of HT_.out (by kernel_rfl)) (fun _ _ _ h => h) (Or.inl ⟨by rfl, ?_⟩) ?_ ?_
     rotate_left
     ·exact Sw
     rotate_left
     ·exact Sr
     refine take_ (i := 2) (N := some 27) (v := ?_) (a' := ?_) #[Y,Y,Y,Z,Z,Z,Z,Z,Z,Z,Z,Z,Z,Z,Z,Z,Z,Z,Z,Z,Z,Z,Z,Z,Z,Z,Z,Z] rfl rfl (take_ofW HT_.out HW_.out (by kernel_rfl)) (fun _ _ _ h => h) (Or.inl ⟨by rfl, ?_⟩) hHeld ?_ ?_
     rotate_left
     ·rintro w' ⟨s0, s1, s2, s3, s4, s5, s6, s7, s8, s9, s10, s11, s12, s13, s14⟩
      go_simp
      with_reducible rfl
     rotate_left
     ·exact Sr
     refine take_ (i := 3) (N := some 28) (v := ?_) (a' := ?_) #[Y,Y,Y,Y,Z,Z,Z,Z,Z,Z,Z,Z,Z,Z,Z,Z,Z,Z,Z,Z,Z,Z,Z,Z,Z,Z,Z,Z] rfl rfl (take_ofW HT_.out HW_.out (by kernel_rfl)) (fun _ _ _ h => h) (Or.inl ⟨by rfl, ?_⟩) hHeld ?_ ?_
     rotate_left
     ·rintro w' ⟨s0, s1, s2, s3, s4, s5, s6, s7, s8, s9, s10, s11, s12, s13, s14⟩
      go_simp
      with_reducible rfl
     rotate_left
     ·exact Sr
     refine pure_ (i := 4) (N := some 29) (v := ?_) (a' := ?_) #[Y,Y,Y,Y,Y,Z,Z,Z,Z,Z,Z,Z,Z,Z,Z,Z,Z,Z,Z,Z,Z,Z,Z,Z,Z,Z,Z,Z] rfl rfl (any_of HT_.out (by kernel_rfl)) (fun _ _ _ h => h) (Or.inl ⟨by rfl, ?_⟩) ?_ ?_
     rotate_left
     ·exact Sw
     rotate_left
     ·exact Sr
     refine pure_ (i := 5) (N := some 30) (v := ?_) (a' := ?_) #[Y,Y,Y,Y,Y,Y,Z,Z,Z,Z,Z,Z,Z,Z,Z,Z,Z,Z,Z,Z,Z,Z,Z,Z,Z,Z,Z,Z] rfl rfl (any_of HT_.out (by kernel_rfl)) (fun _ _ _ h => h) (Or.inl ⟨by rfl, ?_⟩) ?_ ?_
     rotate_left
     ·exact Sw
     rotate_left
     ·exact Sr
     refine pure_ (i := 6) (N := some 31) (v := ?_) (a' := ?_) #[Y,Y,Y,Y,Y,Y,Y,Z,Z,Z,Z,Z,Z,Z,Z,Z,Z,Z,Z,Z,Z,Z,Z,Z,Z,Z,Z,Z] rfl rfl (any_of HT_.out (by kernel_rfl)) (fun _ _ _ h => h) (Or.inl ⟨by rfl, ?_⟩) ?_ ?_
     rotate_left
     ·exact Sw
     rotate_left
     ·exact Sr
     refine pure_ (i := 7) (N := some 32) (v := ?_) (a' := ?_) #[Y,Y,Y,Y,Y,Y,Y,Y,Z,Z,Z,Z,Z,Z,Z,Z,Z,Z,Z,Z,Z,Z,Z,Z,Z,Z,Z,Z] rfl rfl (any_of HT_.out (by kernel_rfl)) (fun _ _ _ h => h) (Or.inl ⟨by rfl, ?_⟩) ?_ ?_
     rotate_left
     ·exact Sw
     rotate_left
     ·exact Sr
     refine pure_ (i := 8) (N := some 33) (v := ?_) (a' := ?_) #[Y,Y,Y,Y,Y,Y,Y,Y,Y,Z,Z,Z,Z,Z,Z,Z,Z,Z,Z,Z,Z,Z,Z,Z,Z,Z,Z,Z] rfl rfl (any_of HT_.out (by kernel_rfl)) (fun _ _ _ h => h) (Or.inl ⟨by rfl, ?_⟩) ?_ ?_
     rotate_left
     ·exact Sw
     rotate_left
     ·exact Sr
     refine pure_ (i := 9) (N := some 34) (v := ?_) (a' := ?_) #[Y,Y,Y,Y,Y,Y,Y,Y,Y,Y,Z,Z,Z,Z,Z,Z,Z,Z,Z,Z,Z,Z,Z,Z,Z,Z,Z,Z] rfl rfl (any_of HT_.out (by kernel_rfl)) (fun _ _ _ h => h) (Or.inl ⟨by rfl, ?_⟩) ?_ ?_
     rotate_left
     ·exact Sw
     rotate_left
     ·exact Sr
     refine pure_ (i := 10) (N := some 35) (v := ?_) (a' := ?_) #[Y,Y,Y,Y,Y,Y,Y,Y,Y,Y,Y,Z,Z,Z,Z,Z,Z,Z,Z,Z,Z,Z,Z,Z,Z,Z,Z,Z] rfl rfl (any_of HT_.out (by kernel_rfl)) (fun _ _ _ h => h) (Or.inl ⟨by rfl, ?_⟩) ?_ ?_
     rotate_left
     ·exact Sw
     rotate_left
     ·exact Sr
     refine pure_ (i := 11) (N := some 36) (v := ?_) (a' := ?_) #[Y,Y,Y,Y,Y,Y,Y,Y,Y,Y,Y,Y,Z,Z,Z,Z,Z,Z,Z,Z,Z,Z,Z,Z,Z,Z,Z,Z] rfl rfl (any_of HT_.out (by kernel_rfl)) (fun _ _ _ h => h) (Or.inl ⟨by rfl, ?_⟩) ?_ ?_
     rotate_left
     ·exact Sw
     rotate_left
     ·exact Sr
     refine pure_ (i := 13) (N := some 38) (v := ?_) (a' := ?_) #[Y,Y,Y,Y,Y,Y,Y,Y,Y,Y,Y,Y,Z,Y,Z,Z,Z,Z,Z,Z,Z,Z,Z,Z,Z,Z,Z,Z] rfl rfl (any_of HT_.out (by kernel_rfl)) (fun _ _ _ h => h) (Or.inl ⟨by rfl, ?_⟩) ?_ ?_
     rotate_left
     ·exact Sw
     rotate_left
     ·exact Sr
     refine pure_ (i := 16) (N := some 41) (v := ?_) (a' := ?_) #[Y,Y,Y,Y,Y,Y,Y,Y,Y,Y,Y,Y,Z,Y,Z,Z,Y,Z,Z,Z,Z,Z,Z,Z,Z,Z,Z,Z] rfl rfl (any_of HT_.out (by kernel_rfl)) (fun _ _ _ h => h) (Or.inl ⟨by rfl, ?_⟩) ?_ ?_
     rotate_left
     ·exact Sw
     rotate_left
     ·exact Sr
     refine take_ (i := 12) (N := some 37) (v := ?_) (a' := ?_) #[Y,Y,Y,Y,Y,Y,Y,Y,Y,Y,Y,Y,Y,Y,Z,Z,Y,Z,Z,Z,Z,Z,Z,Z,Z,Z,Z,Z] rfl rfl (take_ofW HT_.out HW_.out (by kernel_rfl)) (fun _ _ _ h => h) (Or.inl ⟨by rfl, ?_⟩) hHeld ?_ ?_
     rotate_left
     ·rintro w' ⟨s0, s1, s2, s3, s4, s5, s6, s7, s8, s9, s10, s11, s12, s13, s14⟩
      go_simp
      with_reducible rfl
     rotate_left
     ·exact Sr
     refine take_ (i := 15) (N := some 40) (v := ?_) (a' := ?_) #[Y,Y,Y,Y,Y,Y,Y,Y,Y,Y,Y,Y,Y,Y,Z,Y,Y,Z,Z,Z,Z,Z,Z,Z,Z,Z,Z,Z] rfl rfl (take_ofW HT_.out HW_.out (by kernel_rfl)) (fun _ _ _ h => h) (Or.inl ⟨by rfl, ?_⟩) hHeld ?_ ?_
     rotate_left
     ·rintro w' ⟨s0, s1, s2, s3, s4, s5, s6, s7, s8, s9, s10, s11, s12, s13, s14⟩
      go_simp
      with_reducible rfl
     rotate_left
     ·exact Sr
     refine one_ (i := 14) (N := some 39) #[Y,Y,Y,Y,Y,Y,Y,Y,Y,Y,Y,Y,Y,Y,Y,Y,Y,Z,Z,Z,Z,Z,Z,Z,Z,Z,Z,Z] rfl rfl (one_of HT_.out (by kernel_rfl)) (by decide) (fun K hK => ?_)
     refine goes_ Tryd.func12 (by kernel_rfl) rfl #[.agg #[.bool a0_0, .int .u64 a0_1, .int .u64 a0_2], .int .i64 a1] (by rfl) rfl rfl Ma ?_
     with_reducible refine (prefix_Bit.calls k a0_0 a0_1 a0_2 a1 t346 _ A10.out).mono ?_
     rintro e w34 ⟨rfl, hb⟩
     refine ⟨_, rfl, ?_⟩
     have n0_ := Aside0.mk (blk_below (g := gb331) (o := .cells #[.bool a0_0, .int .u64 a0_1, .int .u64 a0_2] 24 (0, 0)) (St BK331.out) hb)
     have n1_ := Aside0.mk (blk_below (g := gb332) (o := .cells #[.bool a2_0, .int .u64 a2_1, .int .u64 a2_2, .int .i64 a2_3] 26 (0, 0)) (St BK332.out) hb)
     have n2_ := Aside0.mk (blk_below (g := gb339) (o := .cells #[.bool t334, .int .u64 t335, .int .u64 t336, .int .i64 t337] 26 (0, 0)) (St BK339.out) hb)
     have n3_ := Aside0.mk (blk_below (g := gb345) (o := .cells #[.bool t340, .int .u64 t341, .int .u64 t342, .int .i64 t343] 26 (0, 0)) (St BK345.out) hb)
     have n4_ := Aside0.mk (below_step (Hb HB.out) hb)
     clear BK331
     clear BK332
     clear BK339
     clear BK345
     clear HB
     have BK331 := n0_
     have BK332 := n1_
     have BK339 := n2_
     have BK345 := n3_
     have HB := n4_
     clear n0_ n1_ n2_ n3_ n4_
     (try clear hb)
     (try clear hb2)
     (try clear hk)
     (try clear hi)
     refine hK.out _ _ ⟨(blk_cell BK339.out 0).trans rfl, (blk_cell BK339.out 1).trans rfl, (blk_cell BK339.out 2).trans rfl, (blk_cell BK339.out 3).trans rfl, (blk_cell BK345.out 0).trans rfl, (blk_cell BK345.out 1).trans rfl, (blk_cell BK345.out 2).trans rfl, (blk_cell BK345.out 3).trans rfl, (blk_cell BK331.out 0).trans rfl, (blk_cell BK331.out 1).trans rfl, (blk_cell BK331.out 2).trans rfl, (blk_cell BK332.out 0).trans rfl, (blk_cell BK332.out 1).trans rfl, (blk_cell BK332.out 2).trans rfl, (blk_cell BK332.out 3).trans rfl⟩ (fun hHeld => ?_)
     clear hK K
     refine norm_ (a' := ?_) ?_ ?_
     rotate_left
     ·show Act.put _ (some 39) _ = _
      refine Sp ?_
      rfl
     refine one_ (i := 17) (N := some 42) #[Y,Y,Y,Y,Y,Y,Y,Y,Y,Y,Y,Y,Y,Y,Y,Y,Y,Y,Z,Z,Z,Z,Z,Z,Z,Z,Z,Z] rfl rfl (one_of HT_.out (by kernel_rfl)) (by decide) (fun K hK => ?_)
     refine goes_ Tryd.func13 (by kernel_rfl) rfl #[.agg #[.bool a0_0, .int .u64 a0_1, .int .u64 a0_2], .int .i64 a1] (by rfl) rfl rfl Ma ?_
     with_reducible refine (crosswayref04_Bit.calls k a0_0 a0_1 a0_2 a1 t347 _ A11.out).mono ?_
     rintro e w35 ⟨rfl, hb⟩
     refine ⟨_, rfl, ?_⟩
     have n0_ := Aside0.mk (blk_below (g := gb331) (o := .cells #[.bool a0_0, .int .u64 a0_1, .int .u64 a0_2] 24 (0, 0)) (St BK331.out) hb)
     have n1_ := Aside0.mk (blk_below (g := gb332) (o := .cells #[.bool a2_0, .int .u64 a2_1, .int .u64 a2_2, .int .i64 a2_3] 26 (0, 0)) (St BK332.out) hb)
     have n2_ := Aside0.mk (blk_below (g := gb339) (o := .cells #[.bool t334, .int .u64 t335, .int .u64 t336, .int .i64 t337] 26 (0, 0)) (St BK339.out) hb)
     have n3_ := Aside0.mk (blk_below (g := gb345) (o := .cells #[.bool t340, .int .u64 t341, .int .u64 t342, .int .i64 t343] 26 (0, 0)) (St BK345.out) hb)
     have n4_ := Aside0.mk (below_step (Hb HB.out) hb)
     clear BK331
     clear BK332
     clear BK339
     clear BK345
     clear HB
     have BK331 := n0_
     have BK332 := n1_
     have BK339 := n2_
     have BK345 := n3_
     have HB := n4_
     clear n0_ n1_ n2_ n3_ n4_
     (try clear hb)
     (try clear hb2)
     (try clear hk)
     (try clear hi)
     refine hK.out _ _ ⟨(blk_cell BK339.out 0).trans rfl, (blk_cell BK339.out 1).trans rfl, (blk_cell BK339.out 2).trans rfl, (blk_cell BK339.out 3).trans rfl, (blk_cell BK345.out 0).trans rfl, (blk_cell BK345.out 1).trans rfl, (blk_cell BK345.out 2).trans rfl, (blk_cell BK345.out 3).trans rfl, (blk_cell BK331.out 0).trans rfl, (blk_cell BK331.out 1).trans rfl, (blk_cell BK331.out 2).trans rfl, (blk_cell BK332.out 0).trans rfl, (blk_cell BK332.out 1).trans rfl, (blk_cell BK332.out 2).trans rfl, (blk_cell BK332.out 3).trans rfl⟩ (fun hHeld => ?_)
     clear hK K
     refine norm_ (a' := ?_) ?_ ?_
     rotate_left
     ·show Act.put _ (some 42) _ = _
      refine Sp ?_
      rfl
     refine pure_ (i := 18) (N := some 43) (v := ?_) (a' := ?_) #[Y,Y,Y,Y,Y,Y,Y,Y,Y,Y,Y,Y,Y,Y,Y,Y,Y,Y,Y,Z,Z,Z,Z,Z,Z,Z,Z,Z] rfl rfl (any_of HT_.out (by kernel_rfl)) (fun _ _ _ h => h) (Or.inl ⟨by rfl, ?_⟩) ?_ ?_
     rotate_left
     ·exact Sw
     rotate_left
     ·exact Sr
     refine pure_ (i := 19) (N := some 44) (v := ?_) (a' := ?_) #[Y,Y,Y,Y,Y,Y,Y,Y,Y,Y,Y,Y,Y,Y,Y,Y,Y,Y,Y,Y,Z,Z,Z,Z,Z,Z,Z,Z] rfl rfl (any_of HT_.out (by kernel_rfl)) (fun _ _ _ h => h) (Or.inl ⟨by rfl, ?_⟩) ?_ ?_
     rotate_left
     ·exact Sw
     rotate_left
     ·exact Sr
     refine pure_ (i := 20) (N := some 45) (v := ?_) (a' := ?_) #[Y,Y,Y,Y,Y,Y,Y,Y,Y,Y,Y,Y,Y,Y,Y,Y,Y,Y,Y,Y,Y,Z,Z,Z,Z,Z,Z,Z] rfl rfl (any_of HT_.out (by kernel_rfl)) (fun _ _ _ h => h) (Or.inl ⟨by rfl, ?_⟩) ?_ ?_
     rotate_left
     ·exact Sw
     rotate_left
     ·exact Sr
     refine take_ (i := 21) (N := some 46) (v := ?_) (a' := ?_) #[Y,Y,Y,Y,Y,Y,Y,Y,Y,Y,Y,Y,Y,Y,Y,Y,Y,Y,Y,Y,Y,Y,Z,Z,Z,Z,Z,Z] rfl rfl (take_ofW HT_.out HW_.out (by kernel_rfl)) (fun _ _ _ h => h) (Or.inl ⟨by rfl, ?_⟩) hHeld ?_ ?_
     rotate_left
     ·rintro w' ⟨s0, s1, s2, s3, s4, s5, s6, s7, s8, s9, s10, s11, s12, s13, s14⟩
      go_simp
      with_reducible rfl
     rotate_left
     ·exact Sr
     refine take_ (i := 23) (N := some 48) (v := ?_) (a' := ?_) #[Y,Y,Y,Y,Y,Y,Y,Y,Y,Y,Y,Y,Y,Y,Y,Y,Y,Y,Y,Y,Y,Y,Z,Y,Z,Z,Z,Z] rfl rfl (take_ofW HT_.out HW_.out (by kernel_rfl)) (fun _ _ _ h => h) (Or.inl ⟨by rfl, ?_⟩) hHeld ?_ ?_
     rotate_left
     ·rintro w' ⟨s0, s1, s2, s3, s4, s5, s6, s7, s8, s9, s10, s11, s12, s13, s14⟩
      go_simp
      with_reducible rfl
     rotate_left
     ·exact Sr
     refine one_ (i := 22) (N := some 47) #[Y,Y,Y,Y,Y,Y,Y,Y,Y,Y,Y,Y,Y,Y,Y,Y,Y,Y,Y,Y,Y,Y,Y,Y,Z,Z,Z,Z] rfl rfl (one_of HT_.out (by kernel_rfl)) (by decide) (fun K hK => ?_)
     refine goes_ Tryd.func14 (by kernel_rfl) rfl #[.agg #[.bool a2_0, .int .u64 a2_1, .int .u64 a2_2, .int .i64 a2_3]] (by rfl) rfl rfl Ma ?_
     with_reducible refine (prefix_Valid.calls a2_0 a2_1 a2_2 a2_3 t348 _ A13.out).mono ?_
     rintro e w36 ⟨rfl, hb⟩
     refine ⟨_, rfl, ?_⟩
     have n0_ := Aside0.mk (blk_below (g := gb331) (o := .cells #[.bool a0_0, .int .u64 a0_1, .int .u64 a0_2] 24 (0, 0)) (St BK331.out) hb)
     have n1_ := Aside0.mk (blk_below (g := gb332) (o := .cells #[.bool a2_0, .int .u64 a2_1, .int .u64 a2_2, .int .i64 a2_3] 26 (0, 0)) (St BK332.out) hb)
     have n2_ := Aside0.mk (blk_below (g := gb339) (o := .cells #[.bool t334, .int .u64 t335, .int .u64 t336, .int .i64 t337] 26 (0, 0)) (St BK339.out) hb)
     have n3_ := Aside0.mk (blk_below (g := gb345) (o := .cells #[.bool t340, .int .u64 t341, .int .u64 t342, .int .i64 t343] 26 (0, 0)) (St BK345.out) hb)
     have n4_ := Aside0.mk (below_step (Hb HB.out) hb)
     clear BK331
     clear BK332
     clear BK339
     clear BK345
     clear HB
     have BK331 := n0_
     have BK332 := n1_
     have BK339 := n2_
     have BK345 := n3_
     have HB := n4_
     clear n0_ n1_ n2_ n3_ n4_
     (try clear hb)
     (try clear hb2)
     (try clear hk)
     (try clear hi)
     refine hK.out _ _ ⟨(blk_cell BK339.out 0).trans rfl, (blk_cell BK339.out 1).trans rfl, (blk_cell BK339.out 2).trans rfl, (blk_cell BK339.out 3).trans rfl, (blk_cell BK345.out 0).trans rfl, (blk_cell BK345.out 1).trans rfl, (blk_cell BK345.out 2).trans rfl, (blk_cell BK345.out 3).trans rfl, (blk_cell BK331.out 0).trans rfl, (blk_cell BK331.out 1).trans rfl, (blk_cell BK331.out 2).trans rfl, (blk_cell BK332.out 0).trans rfl, (blk_cell BK332.out 1).trans rfl, (blk_cell BK332.out 2).trans rfl, (blk_cell BK332.out 3).trans rfl⟩ (fun hHeld => ?_)
     clear hK K
     refine norm_ (a' := ?_) ?_ ?_
     rotate_left
     ·show Act.put _ (some 47) _ = _
      refine Sp ?_
      rfl
     refine one_ (i := 24) (N := some 49) #[Y,Y,Y,Y,Y,Y,Y,Y,Y,Y,Y,Y,Y,Y,Y,Y,Y,Y,Y,Y,Y,Y,Y,Y,Y,Z,Z,Z] rfl rfl (one_of HT_.out (by kernel_rfl)) (by decide) (fun K hK => ?_)
     refine goes_ Tryd.func15 (by kernel_rfl) rfl #[.agg #[.bool a2_0, .int .u64 a2_1, .int .u64 a2_2, .int .i64 a2_3]] (by rfl) rfl rfl Ma ?_
     with_reducible refine (crosswayref04_Valid.calls k a2_0 a2_1 a2_2 a2_3 t349 _ A14.out).mono ?_
     rintro e w37 ⟨rfl, hb⟩
     refine ⟨_, rfl, ?_⟩
     have n0_ := Aside0.mk (blk_below (g := gb331) (o := .cells #[.bool a0_0, .int .u64 a0_1, .int .u64 a0_2] 24 (0, 0)) (St BK331.out) hb)
     have n1_ := Aside0.mk (blk_below (g := gb332) (o := .cells #[.bool a2_0, .int .u64 a2_1, .int .u64 a2_2, .int .i64 a2_3] 26 (0, 0)) (St BK332.out) hb)
     have n2_ := Aside0.mk (blk_below (g := gb339) (o := .cells #[.bool t334, .int .u64 t335, .int .u64 t336, .int .i64 t337] 26 (0, 0)) (St BK339.out) hb)
     have n3_ := Aside0.mk (blk_below (g := gb345) (o := .cells #[.bool t340, .int .u64 t341, .int .u64 t342, .int .i64 t343] 26 (0, 0)) (St BK345.out) hb)
     have n4_ := Aside0.mk (below_step (Hb HB.out) hb)
     clear BK331
     clear BK332
     clear BK339
     clear BK345
     clear HB
     have BK331 := n0_
     have BK332 := n1_
     have BK339 := n2_
     have BK345 := n3_
     have HB := n4_
     clear n0_ n1_ n2_ n3_ n4_
     (try clear hb)
     (try clear hb2)
     (try clear hk)
     (try clear hi)
     refine hK.out _ _ ⟨(blk_cell BK339.out 0).trans rfl, (blk_cell BK339.out 1).trans rfl, (blk_cell BK339.out 2).trans rfl, (blk_cell BK339.out 3).trans rfl, (blk_cell BK345.out 0).trans rfl, (blk_cell BK345.out 1).trans rfl, (blk_cell BK345.out 2).trans rfl, (blk_cell BK345.out 3).trans rfl, (blk_cell BK331.out 0).trans rfl, (blk_cell BK331.out 1).trans rfl, (blk_cell BK331.out 2).trans rfl, (blk_cell BK332.out 0).trans rfl, (blk_cell BK332.out 1).trans rfl, (blk_cell BK332.out 2).trans rfl, (blk_cell BK332.out 3).trans rfl⟩ (fun hHeld => ?_)
     clear hK K
     refine norm_ (a' := ?_) ?_ ?_
     rotate_left
     ·show Act.put _ (some 49) _ = _
      refine Sp ?_
      rfl
     refine pure_ (i := 25) (N := some 50) (v := ?_) (a' := ?_) #[Y,Y,Y,Y,Y,Y,Y,Y,Y,Y,Y,Y,Y,Y,Y,Y,Y,Y,Y,Y,Y,Y,Y,Y,Y,Y,Z,Z] rfl rfl (any_of HT_.out (by kernel_rfl)) (fun _ _ _ h => h) (Or.inl ⟨by rfl, ?_⟩) ?_ ?_
     rotate_left
     ·exact Sw
     rotate_left
     ·exact Sr
     refine pure_ (i := 26) (N := some 51) (v := ?_) (a' := ?_) #[Y,Y,Y,Y,Y,Y,Y,Y,Y,Y,Y,Y,Y,Y,Y,Y,Y,Y,Y,Y,Y,Y,Y,Y,Y,Y,Y,Z] rfl rfl (any_of HT_.out (by kernel_rfl)) (fun _ _ _ h => h) (Or.inl ⟨by rfl, ?_⟩) ?_ ?_
     rotate_left
     ·exact Sw
     rotate_left
     ·exact Sr
     refine pure_ (i := 27) (N := some 6) (v := ?_) (a' := ?_) #[Y,Y,Y,Y,Y,Y,Y,Y,Y,Y,Y,Y,Y,Y,Y,Y,Y,Y,Y,Y,Y,Y,Y,Y,Y,Y,Y,Y] rfl rfl (any_of HT_.out (by kernel_rfl)) (fun _ _ _ h => h) (Or.inl ⟨by rfl, ?_⟩) ?_ ?_
     rotate_left
     ·exact Sw
     rotate_left
     ·exact Sr
     refine done_ (done_of HT_.out (by kernel_rfl)) ?_
     try go_wp2
     go_ret
     exact ⟨by first | rfl | (simp [errW_none, errW_some] <;> rfl) | (simp [*, errW_none, errW_some] <;> rfl), Hb HB.out⟩
    ·rw [if_neg c12] at H
     exact absurd H (by simp)
   ·rw [if_neg c9] at H
    exact absurd H (by simp)
  ·rw [if_neg c8] at H
   exact absurd H (by simp)
 ·replace c7 := Bool.eq_false_iff.mpr c7
  subst c7
  have H1 : (none) = some r := by rw [if_neg (show ¬ (false = true) by decide)] at H; exact H
  clear H
  have H := H1
  clear H1
  exact absurd H (by simp)

end Go.Proofs.YtmhjgjdiifcdlaaDoor.P
