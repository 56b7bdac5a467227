-- Laid by a program (wip/pr.py) out of the translation: each function as a Lean function, and the proof that the call comes to it.
import Derived.Test.YtmhjgjdiifcdlaaDoorShort
import Derived.Test.YtmhjgjdiifcdlaaDoorPBase
import Derived.Test.YtmhjgjdiifcdlaaDoorPEq26
import Derived.Test.YtmhjgjdiifcdlaaDoorPPrefixValid
import Derived.Test.YtmhjgjdiifcdlaaDoorPPrefixCovers
import Derived.Test.YtmhjgjdiifcdlaaDoorPPrefixLess
import Derived.Test.YtmhjgjdiifcdlaaDoorPLaw04awake
import Derived.Test.YtmhjgjdiifcdlaaDoorPRef04Less
namespace Go.Proofs.YtmhjgjdiifcdlaaDoor.P
open Go.RowKit Go.Proofs.YtmhjgjdiifcdlaaDoorW.PrintWords Go.Proofs.YtmhjgjdiifcdlaaDoorW.PrintLast Go.Proofs.YtmhjgjdiifcdlaaDoorW.PrintMore
attribute [local go_sem] max2_int min2_int max_two min_two max_three min_three max_four min_four   -- for this text's walks alone
set_option linter.unusedVariables false
set_option linter.unusedSimpArgs false

attribute [local go_sem high] eqA26
/-! ### crosswaylaw04_PrefixOrders: function 8 -/
mutual
def crosswaylaw04_PrefixOrders.j0 : Nat → Bool → Bool → Bool → Bool → Int → Int → Int → Bool → Int → Int → Int → Bool → Int → Int → Int → Option (Bool)
 | 0, _, _, _, _, _, _, _, _, _, _, _, _, _, _, _ => none
 | k + 1, x8, x9, x37, x526000, x526001, x526002, x526003, x527000, x527001, x527002, x527003, x528000, x528001, x528002, x528003 => if x37 = true then (none) else ((prefix_Valid.f x526000 x526001 x526002 x526003).bind fun t533 => (if t533 = true then ((prefix_Valid.f x527000 x527001 x527002 x527003).bind fun t534 => (crosswaylaw04_PrefixOrders.j1 k x8 x9 t534 x526000 x526001 x526002 x526003 x527000 x527001 x527002 x527003 x528000 x528001 x528002 x528003)) else (crosswaylaw04_PrefixOrders.j1 k x8 x9 false x526000 x526001 x526002 x526003 x527000 x527001 x527002 x527003 x528000 x528001 x528002 x528003)))
def crosswaylaw04_PrefixOrders.j1 : Nat → Bool → Bool → Bool → Bool → Int → Int → Int → Bool → Int → Int → Int → Bool → Int → Int → Int → Option (Bool)
 | 0, _, _, _, _, _, _, _, _, _, _, _, _, _, _, _ => none
 | k + 1, x8, x9, x10, x526000, x526001, x526002, x526003, x527000, x527001, x527002, x527003, x528000, x528001, x528002, x528003 => if x10 = true then (if ((!(x526000 == x527000) || (!(x526001 == x527001) || (!(x526002 == x527002)))) || (!(x526003 == x527003))) = true then (if x8 = true then (crosswaylaw04_PrefixOrders.j2 k x8 x9 false x526000 x526001 x526002 x526003 x527000 x527001 x527002 x527003 x528000 x528001 x528002 x528003) else (crosswaylaw04_PrefixOrders.j2 k x8 x9 (!x9) x526000 x526001 x526002 x526003 x527000 x527001 x527002 x527003 x528000 x528001 x528002 x528003)) else (crosswaylaw04_PrefixOrders.j2 k x8 x9 false x526000 x526001 x526002 x526003 x527000 x527001 x527002 x527003 x528000 x528001 x528002 x528003)) else (crosswaylaw04_PrefixOrders.j2 k x8 x9 false x526000 x526001 x526002 x526003 x527000 x527001 x527002 x527003 x528000 x528001 x528002 x528003)
def crosswaylaw04_PrefixOrders.j2 : Nat → Bool → Bool → Bool → Bool → Int → Int → Int → Bool → Int → Int → Int → Bool → Int → Int → Int → Option (Bool)
 | 0, _, _, _, _, _, _, _, _, _, _, _, _, _, _, _ => none
 | k + 1, x8, x9, x57, x526000, x526001, x526002, x526003, x527000, x527001, x527002, x527003, x528000, x528001, x528002, x528003 => if x57 = true then (none) else (if x8 = true then ((prefix_Less.f k x527000 x527001 x527002 x527003 x528000 x528001 x528002 x528003).bind fun t535 => (if t535 = true then ((prefix_Less.f k x526000 x526001 x526002 x526003 x528000 x528001 x528002 x528003).bind fun t536 => (if t536 = true then ((prefix_Covers.f x526000 x526001 x526002 x526003 x527000 x527001 x527002 x527003).bind fun t537 => (if t537 = true then (some (!x9)) else (some (!false)))) else (none))) else ((prefix_Covers.f x526000 x526001 x526002 x526003 x527000 x527001 x527002 x527003).bind fun t538 => (if t538 = true then (some (!x9)) else (some (!false)))))) else ((prefix_Covers.f x526000 x526001 x526002 x526003 x527000 x527001 x527002 x527003).bind fun t539 => (if t539 = true then (some (!x9)) else (some (!false)))))
end
def crosswaylaw04_PrefixOrders.f (k : Nat) (a0_0 : Bool) (a0_1 : Int) (a0_2 : Int) (a0_3 : Int) (a1_0 : Bool) (a1_1 : Int) (a1_2 : Int) (a1_3 : Int) (a2_0 : Bool) (a2_1 : Int) (a2_2 : Int) (a2_3 : Int) : Option (Bool) := (crosswaylaw04_awake.f k).bind fun t528 => ((prefix_Less.f k a0_0 a0_1 a0_2 a0_3 a1_0 a1_1 a1_2 a1_3).bind fun t529 => ((prefix_Less.f k a1_0 a1_1 a1_2 a1_3 a0_0 a0_1 a0_2 a0_3).bind fun t530 => (if t528 = true then ((crosswayref04_Less.f k a0_0 a0_1 a0_2 a0_3 a1_0 a1_1 a1_2 a1_3).bind fun t531 => (if (t529 != t531) = true then (crosswaylaw04_PrefixOrders.j0 k t529 t530 true a0_0 a0_1 a0_2 a0_3 a1_0 a1_1 a1_2 a1_3 a2_0 a2_1 a2_2 a2_3) else ((prefix_Less.f k a0_0 a0_1 a0_2 a0_3 a0_0 a0_1 a0_2 a0_3).bind fun t532 => (if t532 = true then (crosswaylaw04_PrefixOrders.j0 k t529 t530 true a0_0 a0_1 a0_2 a0_3 a1_0 a1_1 a1_2 a1_3 a2_0 a2_1 a2_2 a2_3) else (if t529 = true then (crosswaylaw04_PrefixOrders.j0 k t529 t530 t530 a0_0 a0_1 a0_2 a0_3 a1_0 a1_1 a1_2 a1_3 a2_0 a2_1 a2_2 a2_3) else (crosswaylaw04_PrefixOrders.j0 k t529 t530 false a0_0 a0_1 a0_2 a0_3 a1_0 a1_1 a1_2 a1_3 a2_0 a2_1 a2_2 a2_3)))))) else (crosswaylaw04_PrefixOrders.j0 k t529 t530 true a0_0 a0_1 a0_2 a0_3 a1_0 a1_1 a1_2 a1_3 a2_0 a2_1 a2_2 a2_3))))
theorem crosswaylaw04_PrefixOrders.mono_l : ∀ k, (∀ y0 y1 y2 y3 y4 y5 y6 y7 y8 y9 y10 y11 y12 y13 y14, LeO (crosswaylaw04_PrefixOrders.j0 k y0 y1 y2 y3 y4 y5 y6 y7 y8 y9 y10 y11 y12 y13 y14) (crosswaylaw04_PrefixOrders.j0 (k + 1) y0 y1 y2 y3 y4 y5 y6 y7 y8 y9 y10 y11 y12 y13 y14)) ∧ (∀ y0 y1 y2 y3 y4 y5 y6 y7 y8 y9 y10 y11 y12 y13 y14, LeO (crosswaylaw04_PrefixOrders.j1 k y0 y1 y2 y3 y4 y5 y6 y7 y8 y9 y10 y11 y12 y13 y14) (crosswaylaw04_PrefixOrders.j1 (k + 1) y0 y1 y2 y3 y4 y5 y6 y7 y8 y9 y10 y11 y12 y13 y14)) ∧ (∀ y0 y1 y2 y3 y4 y5 y6 y7 y8 y9 y10 y11 y12 y13 y14, LeO (crosswaylaw04_PrefixOrders.j2 k y0 y1 y2 y3 y4 y5 y6 y7 y8 y9 y10 y11 y12 y13 y14) (crosswaylaw04_PrefixOrders.j2 (k + 1) y0 y1 y2 y3 y4 y5 y6 y7 y8 y9 y10 y11 y12 y13 y14))
 | 0 => ⟨fun _ _ _ _ _ _ _ _ _ _ _ _ _ _ _ r h => by simp [crosswaylaw04_PrefixOrders.j0] at h, fun _ _ _ _ _ _ _ _ _ _ _ _ _ _ _ r h => by simp [crosswaylaw04_PrefixOrders.j1] at h, fun _ _ _ _ _ _ _ _ _ _ _ _ _ _ _ r h => by simp [crosswaylaw04_PrefixOrders.j2] at h⟩
 | k + 1 => by
  obtain ⟨ih0, ih1, ih2⟩ := crosswaylaw04_PrefixOrders.mono_l k
  refine ⟨?_, ?_, ?_⟩
  ·intro y0 y1 y2 y3 y4 y5 y6 y7 y8 y9 y10 y11 y12 y13 y14
   unfold crosswaylaw04_PrefixOrders.j0
   repeat' first
   | (with_reducible exact ih0 _ _ _ _ _ _ _ _ _ _ _ _ _ _ _)
   | (with_reducible exact ih1 _ _ _ _ _ _ _ _ _ _ _ _ _ _ _)
   | (with_reducible exact ih2 _ _ _ _ _ _ _ _ _ _ _ _ _ _ _)
   | (with_reducible exact crosswaylaw04_awake.mono _)
   | (with_reducible exact crosswayref04_Less.mono _ _ _ _ _ _ _ _ _)
   | (with_reducible exact prefix_Less.mono _ _ _ _ _ _ _ _ _)
   | (with_reducible exact LeO.refl _)
   | (with_reducible exact LeO.none _)
   | (with_reducible refine LeO.ite ?_ ?_)
   | (with_reducible refine LeO.bind ?_ (fun _ => ?_))
   | exact ih0 _ _ _ _ _ _ _ _ _ _ _ _ _ _ _
   | exact ih1 _ _ _ _ _ _ _ _ _ _ _ _ _ _ _
   | exact ih2 _ _ _ _ _ _ _ _ _ _ _ _ _ _ _
   | exact crosswaylaw04_awake.mono _
   | exact crosswayref04_Less.mono _ _ _ _ _ _ _ _ _
   | exact prefix_Less.mono _ _ _ _ _ _ _ _ _
   | exact LeO.none _
   | refine LeO.ite ?_ ?_
   | refine LeO.bind ?_ (fun _ => ?_)
  ·intro y0 y1 y2 y3 y4 y5 y6 y7 y8 y9 y10 y11 y12 y13 y14
   unfold crosswaylaw04_PrefixOrders.j1
   repeat' first
   | (with_reducible exact ih0 _ _ _ _ _ _ _ _ _ _ _ _ _ _ _)
   | (with_reducible exact ih1 _ _ _ _ _ _ _ _ _ _ _ _ _ _ _)
   | (with_reducible exact ih2 _ _ _ _ _ _ _ _ _ _ _ _ _ _ _)
   | (with_reducible exact crosswaylaw04_awake.mono _)
   | (with_reducible exact crosswayref04_Less.mono _ _ _ _ _ _ _ _ _)
   | (with_reducible exact prefix_Less.mono _ _ _ _ _ _ _ _ _)
   | (with_reducible exact LeO.refl _)
   | (with_reducible exact LeO.none _)
   | (with_reducible refine LeO.ite ?_ ?_)
   | (with_reducible refine LeO.bind ?_ (fun _ => ?_))
   | exact ih0 _ _ _ _ _ _ _ _ _ _ _ _ _ _ _
   | exact ih1 _ _ _ _ _ _ _ _ _ _ _ _ _ _ _
   | exact ih2 _ _ _ _ _ _ _ _ _ _ _ _ _ _ _
   | exact crosswaylaw04_awake.mono _
   | exact crosswayref04_Less.mono _ _ _ _ _ _ _ _ _
   | exact prefix_Less.mono _ _ _ _ _ _ _ _ _
   | exact LeO.none _
   | refine LeO.ite ?_ ?_
   | refine LeO.bind ?_ (fun _ => ?_)
  ·intro y0 y1 y2 y3 y4 y5 y6 y7 y8 y9 y10 y11 y12 y13 y14
   unfold crosswaylaw04_PrefixOrders.j2
   repeat' first
   | (with_reducible exact ih0 _ _ _ _ _ _ _ _ _ _ _ _ _ _ _)
   | (with_reducible exact ih1 _ _ _ _ _ _ _ _ _ _ _ _ _ _ _)
   | (with_reducible exact ih2 _ _ _ _ _ _ _ _ _ _ _ _ _ _ _)
   | (with_reducible exact crosswaylaw04_awake.mono _)
   | (with_reducible exact crosswayref04_Less.mono _ _ _ _ _ _ _ _ _)
   | (with_reducible exact prefix_Less.mono _ _ _ _ _ _ _ _ _)
   | (with_reducible exact LeO.refl _)
   | (with_reducible exact LeO.none _)
   | (with_reducible refine LeO.ite ?_ ?_)
   | (with_reducible refine LeO.bind ?_ (fun _ => ?_))
   | exact ih0 _ _ _ _ _ _ _ _ _ _ _ _ _ _ _
   | exact ih1 _ _ _ _ _ _ _ _ _ _ _ _ _ _ _
   | exact ih2 _ _ _ _ _ _ _ _ _ _ _ _ _ _ _
   | exact crosswaylaw04_awake.mono _
   | exact crosswayref04_Less.mono _ _ _ _ _ _ _ _ _
   | exact prefix_Less.mono _ _ _ _ _ _ _ _ _
   | exact LeO.none _
   | refine LeO.ite ?_ ?_
   | refine LeO.bind ?_ (fun _ => ?_)
theorem crosswaylaw04_PrefixOrders.mono : ∀ a0 a1 a2 a3 a4 a5 a6 a7 a8 a9 a10 a11 k, LeO (crosswaylaw04_PrefixOrders.f k a0 a1 a2 a3 a4 a5 a6 a7 a8 a9 a10 a11) (crosswaylaw04_PrefixOrders.f (k + 1) a0 a1 a2 a3 a4 a5 a6 a7 a8 a9 a10 a11) := by
 intro a0 a1 a2 a3 a4 a5 a6 a7 a8 a9 a10 a11 k
 obtain ⟨ih0, ih1, ih2⟩ := crosswaylaw04_PrefixOrders.mono_l k
 unfold crosswaylaw04_PrefixOrders.f
 repeat' first
   | (with_reducible exact ih0 _ _ _ _ _ _ _ _ _ _ _ _ _ _ _)
   | (with_reducible exact ih1 _ _ _ _ _ _ _ _ _ _ _ _ _ _ _)
   | (with_reducible exact ih2 _ _ _ _ _ _ _ _ _ _ _ _ _ _ _)
   | (with_reducible exact crosswaylaw04_awake.mono _)
   | (with_reducible exact crosswayref04_Less.mono _ _ _ _ _ _ _ _ _)
   | (with_reducible exact prefix_Less.mono _ _ _ _ _ _ _ _ _)
   | (with_reducible exact LeO.refl _)
   | (with_reducible exact LeO.none _)
   | (with_reducible refine LeO.ite ?_ ?_)
   | (with_reducible refine LeO.bind ?_ (fun _ => ?_))
   | exact ih0 _ _ _ _ _ _ _ _ _ _ _ _ _ _ _
   | exact ih1 _ _ _ _ _ _ _ _ _ _ _ _ _ _ _
   | exact ih2 _ _ _ _ _ _ _ _ _ _ _ _ _ _ _
   | exact crosswaylaw04_awake.mono _
   | exact crosswayref04_Less.mono _ _ _ _ _ _ _ _ _
   | exact prefix_Less.mono _ _ _ _ _ _ _ _ _
   | exact LeO.none _
   | refine LeO.ite ?_ ?_
   | refine LeO.bind ?_ (fun _ => ?_)
set_option maxHeartbeats 8000000 in
set_option maxRecDepth 100000 in
theorem crosswaylaw04_PrefixOrders.calls (k : Nat) (a0_0 : Bool) (a0_1 : Int) (a0_2 : Int) (a0_3 : Int) (a1_0 : Bool) (a1_1 : Int) (a1_2 : Int) (a1_3 : Int) (a2_0 : Bool) (a2_1 : Int) (a2_2 : Int) (a2_3 : Int) (r : Bool) (w : World) (hG : Glob w) (h : crosswaylaw04_PrefixOrders.f k a0_0 a0_1 a0_2 a0_3 a1_0 a1_1 a1_2 a1_3 a2_0 a2_1 a2_2 a2_3 = some r) :
  Calls Tryd.prog 8 #[.agg #[.bool a0_0, .int .u64 a0_1, .int .u64 a0_2, .int .i64 a0_3], .agg #[.bool a1_0, .int .u64 a1_1, .int .u64 a1_2, .int .i64 a1_3], .agg #[.bool a2_0, .int .u64 a2_1, .int .u64 a2_2, .int .i64 a2_3]] w fun e w' => e = .returned (.bool r) ∧ Below w.heap.size w w' := by
 have hu26 := Tryd.underlying26
 have HG := Aside0.mk hG
 clear hG
 have HB := Aside0.mk (Below.refl w.heap.size w)
 have H : ((crosswaylaw04_awake.f k).bind fun t528 => ((prefix_Less.f k a0_0 a0_1 a0_2 a0_3 a1_0 a1_1 a1_2 a1_3).bind fun t529 => ((prefix_Less.f k a1_0 a1_1 a1_2 a1_3 a0_0 a0_1 a0_2 a0_3).bind fun t530 => (if t528 = true then ((crosswayref04_Less.f k a0_0 a0_1 a0_2 a0_3 a1_0 a1_1 a1_2 a1_3).bind fun t531 => (if (t529 != t531) = true then (crosswaylaw04_PrefixOrders.j0 k t529 t530 true a0_0 a0_1 a0_2 a0_3 a1_0 a1_1 a1_2 a1_3 a2_0 a2_1 a2_2 a2_3) else ((prefix_Less.f k a0_0 a0_1 a0_2 a0_3 a0_0 a0_1 a0_2 a0_3).bind fun t532 => (if t532 = true then (crosswaylaw04_PrefixOrders.j0 k t529 t530 true a0_0 a0_1 a0_2 a0_3 a1_0 a1_1 a1_2 a1_3 a2_0 a2_1 a2_2 a2_3) else (if t529 = true then (crosswaylaw04_PrefixOrders.j0 k t529 t530 t530 a0_0 a0_1 a0_2 a0_3 a1_0 a1_1 a1_2 a1_3 a2_0 a2_1 a2_2 a2_3) else (crosswaylaw04_PrefixOrders.j0 k t529 t530 false a0_0 a0_1 a0_2 a0_3 a1_0 a1_1 a1_2 a1_3 a2_0 a2_1 a2_2 a2_3)))))) else (crosswaylaw04_PrefixOrders.j0 k t529 t530 true a0_0 a0_1 a0_2 a0_3 a1_0 a1_1 a1_2 a1_3 a2_0 a2_1 a2_2 a2_3))))) = some r := h
 clear h
 replace H := Option.bind_eq_some_iff.mp H
 obtain ⟨t528, A40, H⟩ := H
 replace H : ((prefix_Less.f k a0_0 a0_1 a0_2 a0_3 a1_0 a1_1 a1_2 a1_3).bind fun t529 => ((prefix_Less.f k a1_0 a1_1 a1_2 a1_3 a0_0 a0_1 a0_2 a0_3).bind fun t530 => (if t528 = true then ((crosswayref04_Less.f k a0_0 a0_1 a0_2 a0_3 a1_0 a1_1 a1_2 a1_3).bind fun t531 => (if (t529 != t531) = true then (crosswaylaw04_PrefixOrders.j0 k t529 t530 true a0_0 a0_1 a0_2 a0_3 a1_0 a1_1 a1_2 a1_3 a2_0 a2_1 a2_2 a2_3) else ((prefix_Less.f k a0_0 a0_1 a0_2 a0_3 a0_0 a0_1 a0_2 a0_3).bind fun t532 => (if t532 = true then (crosswaylaw04_PrefixOrders.j0 k t529 t530 true a0_0 a0_1 a0_2 a0_3 a1_0 a1_1 a1_2 a1_3 a2_0 a2_1 a2_2 a2_3) else (if t529 = true then (crosswaylaw04_PrefixOrders.j0 k t529 t530 t530 a0_0 a0_1 a0_2 a0_3 a1_0 a1_1 a1_2 a1_3 a2_0 a2_1 a2_2 a2_3) else (crosswaylaw04_PrefixOrders.j0 k t529 t530 false a0_0 a0_1 a0_2 a0_3 a1_0 a1_1 a1_2 a1_3 a2_0 a2_1 a2_2 a2_3)))))) else (crosswaylaw04_PrefixOrders.j0 k t529 t530 true a0_0 a0_1 a0_2 a0_3 a1_0 a1_1 a1_2 a1_3 a2_0 a2_1 a2_2 a2_3)))) = some r := H
 have A4 := Aside0.mk A40
 clear A40
 replace H := Option.bind_eq_some_iff.mp H
 obtain ⟨t529, A50, H⟩ := H
 replace H : ((prefix_Less.f k a1_0 a1_1 a1_2 a1_3 a0_0 a0_1 a0_2 a0_3).bind fun t530 => (if t528 = true then ((crosswayref04_Less.f k a0_0 a0_1 a0_2 a0_3 a1_0 a1_1 a1_2 a1_3).bind fun t531 => (if (t529 != t531) = true then (crosswaylaw04_PrefixOrders.j0 k t529 t530 true a0_0 a0_1 a0_2 a0_3 a1_0 a1_1 a1_2 a1_3 a2_0 a2_1 a2_2 a2_3) else ((prefix_Less.f k a0_0 a0_1 a0_2 a0_3 a0_0 a0_1 a0_2 a0_3).bind fun t532 => (if t532 = true then (crosswaylaw04_PrefixOrders.j0 k t529 t530 true a0_0 a0_1 a0_2 a0_3 a1_0 a1_1 a1_2 a1_3 a2_0 a2_1 a2_2 a2_3) else (if t529 = true then (crosswaylaw04_PrefixOrders.j0 k t529 t530 t530 a0_0 a0_1 a0_2 a0_3 a1_0 a1_1 a1_2 a1_3 a2_0 a2_1 a2_2 a2_3) else (crosswaylaw04_PrefixOrders.j0 k t529 t530 false a0_0 a0_1 a0_2 a0_3 a1_0 a1_1 a1_2 a1_3 a2_0 a2_1 a2_2 a2_3)))))) else (crosswaylaw04_PrefixOrders.j0 k t529 t530 true a0_0 a0_1 a0_2 a0_3 a1_0 a1_1 a1_2 a1_3 a2_0 a2_1 a2_2 a2_3))) = some r := H
 have A5 := Aside0.mk A50
 clear A50
 replace H := Option.bind_eq_some_iff.mp H
 obtain ⟨t530, A60, H⟩ := H
 replace H : (if t528 = true then ((crosswayref04_Less.f k a0_0 a0_1 a0_2 a0_3 a1_0 a1_1 a1_2 a1_3).bind fun t531 => (if (t529 != t531) = true then (crosswaylaw04_PrefixOrders.j0 k t529 t530 true a0_0 a0_1 a0_2 a0_3 a1_0 a1_1 a1_2 a1_3 a2_0 a2_1 a2_2 a2_3) else ((prefix_Less.f k a0_0 a0_1 a0_2 a0_3 a0_0 a0_1 a0_2 a0_3).bind fun t532 => (if t532 = true then (crosswaylaw04_PrefixOrders.j0 k t529 t530 true a0_0 a0_1 a0_2 a0_3 a1_0 a1_1 a1_2 a1_3 a2_0 a2_1 a2_2 a2_3) else (if t529 = true then (crosswaylaw04_PrefixOrders.j0 k t529 t530 t530 a0_0 a0_1 a0_2 a0_3 a1_0 a1_1 a1_2 a1_3 a2_0 a2_1 a2_2 a2_3) else (crosswaylaw04_PrefixOrders.j0 k t529 t530 false a0_0 a0_1 a0_2 a0_3 a1_0 a1_1 a1_2 a1_3 a2_0 a2_1 a2_2 a2_3)))))) else (crosswaylaw04_PrefixOrders.j0 k t529 t530 true a0_0 a0_1 a0_2 a0_3 a1_0 a1_1 a1_2 a1_3 a2_0 a2_1 a2_2 a2_3)) = some r := H
 have A6 := Aside0.mk A60
 clear A60
 have HC7 := Aside0.mk H
 clear H
 go_enter Tryd.func8, Tryd.ntmps8
 go_upto_region 4 with (first | ((with_reducible refine gate_dst (N := 3) rfl ?_); refine box_event ?hg (N := 3) ?hd (cs := #[.bool a0_0, .int .u64 a0_1, .int .u64 a0_2, .int .i64 a0_3]) (t := 26) ?hr ?_; (case hd => rfl); (case hg => rfl); (case hr => first | (go_simp; done) | (go_simp; rfl)); intro gb525 hg w8 hbox hb; have n0_ := Aside0.mk (below_step (Hb HB.out) hb); have n1_ := Aside0.mk (hbox); have n2_ := Aside0.mk ((by rw [hg]; exact (below_size (Hb HB.out)) : w.heap.size ≤ gb525)); have n3_ := Aside0.mk ((by rw [hg]; exact (below_size (Hb HB.out)) : w.heap.size ≤ gb525)); clear HB; have HB := n0_; have BK525 := n1_; have GW525 := n2_; have GE525 := n3_; clear n0_ n1_ n2_ n3_; clear hb hbox hg) | ((with_reducible refine gate_dst (N := 4) rfl ?_); refine box_event ?hg (N := 4) ?hd (cs := #[.bool a1_0, .int .u64 a1_1, .int .u64 a1_2, .int .i64 a1_3]) (t := 26) ?hr ?_; (case hd => rfl); (case hg => rfl); (case hr => first | (go_simp; done) | (go_simp; rfl)); intro gb526 hg w9 hbox hb; have n0_ := Aside0.mk (blk_below (g := gb525) (o := .cells #[.bool a0_0, .int .u64 a0_1, .int .u64 a0_2, .int .i64 a0_3] 26 (0, 0)) (St BK525.out) hb); have n1_ := Aside0.mk (below_step (Hb HB.out) hb); have n2_ := Aside0.mk (hbox); have n3_ := Aside0.mk ((by rw [hg]; exact (below_size (Hb HB.out)) : w.heap.size ≤ gb526)); have n4_ := Aside0.mk ((by rw [hg]; exact (below_size (Hb HB.out)) : w.heap.size ≤ gb526)); have n5_ := Aside0.mk ((by rw [hg]; exact Nat.ne_of_lt (blk_lt (g := gb525) (o := .cells #[.bool a0_0, .int .u64 a0_1, .int .u64 a0_2, .int .i64 a0_3] 26 (0, 0)) (St BK525.out)) : gb525 ≠ gb526)); have n6_ := Aside0.mk ((by rw [hg]; exact Nat.ne_of_gt (blk_lt (g := gb525) (o := .cells #[.bool a0_0, .int .u64 a0_1, .int .u64 a0_2, .int .i64 a0_3] 26 (0, 0)) (St BK525.out)) : gb526 ≠ gb525)); clear BK525; clear HB; have BK525 := n0_; have HB := n1_; have BK526 := n2_; have GW526 := n3_; have GE526 := n4_; have NB525_526 := n5_; have NB526_525 := n6_; clear n0_ n1_ n2_ n3_ n4_ n5_ n6_; clear hb hbox hg) | ((with_reducible refine gate_dst (N := 5) rfl ?_); refine box_event ?hg (N := 5) ?hd (cs := #[.bool a2_0, .int .u64 a2_1, .int .u64 a2_2, .int .i64 a2_3]) (t := 26) ?hr ?_; (case hd => rfl); (case hg => rfl); (case hr => first | (go_simp; done) | (go_simp; rfl)); intro gb527 hg w10 hbox hb; have n0_ := Aside0.mk (blk_below (g := gb525) (o := .cells #[.bool a0_0, .int .u64 a0_1, .int .u64 a0_2, .int .i64 a0_3] 26 (0, 0)) (St BK525.out) hb); have n1_ := Aside0.mk (blk_below (g := gb526) (o := .cells #[.bool a1_0, .int .u64 a1_1, .int .u64 a1_2, .int .i64 a1_3] 26 (0, 0)) (St BK526.out) hb); have n2_ := Aside0.mk (below_step (Hb HB.out) hb); have n3_ := Aside0.mk (hbox); have n4_ := Aside0.mk ((by rw [hg]; exact (below_size (Hb HB.out)) : w.heap.size ≤ gb527)); have n5_ := Aside0.mk ((by rw [hg]; exact (below_size (Hb HB.out)) : w.heap.size ≤ gb527)); have n6_ := Aside0.mk ((by rw [hg]; exact Nat.ne_of_lt (blk_lt (g := gb525) (o := .cells #[.bool a0_0, .int .u64 a0_1, .int .u64 a0_2, .int .i64 a0_3] 26 (0, 0)) (St BK525.out)) : gb525 ≠ gb527)); have n7_ := Aside0.mk ((by rw [hg]; exact Nat.ne_of_gt (blk_lt (g := gb525) (o := .cells #[.bool a0_0, .int .u64 a0_1, .int .u64 a0_2, .int .i64 a0_3] 26 (0, 0)) (St BK525.out)) : gb527 ≠ gb525)); have n8_ := Aside0.mk ((by rw [hg]; exact Nat.ne_of_lt (blk_lt (g := gb526) (o := .cells #[.bool a1_0, .int .u64 a1_1, .int .u64 a1_2, .int .i64 a1_3] 26 (0, 0)) (St BK526.out)) : gb526 ≠ gb527)); have n9_ := Aside0.mk ((by rw [hg]; exact Nat.ne_of_gt (blk_lt (g := gb526) (o := .cells #[.bool a1_0, .int .u64 a1_1, .int .u64 a1_2, .int .i64 a1_3] 26 (0, 0)) (St BK526.out)) : gb527 ≠ gb526)); clear BK525; clear BK526; clear HB; have BK525 := n0_; have BK526 := n1_; have HB := n2_; have BK527 := n3_; have GW527 := n4_; have GE527 := n5_; have NB525_527 := n6_; have NB527_525 := n7_; have NB526_527 := n8_; have NB527_526 := n9_; clear n0_ n1_ n2_ n3_ n4_ n5_ n6_ n7_ n8_ n9_; clear hb hbox hg) | ((with_reducible refine gate_callee (f := 9) rfl ?_); refine goesL_ (some 11) rfl rfl Tryd.func9 (by kernel_rfl) rfl #[] rfl Ma ?_; (with_reducible refine (crosswaylaw04_awake.calls k  t528 _ (Glob_below HG.out (Hb HB.out)) A4.out).mono ?_); rintro e w11 ⟨rfl, hb⟩; refine ⟨_, rfl, ?_⟩; have n0_ := Aside0.mk (blk_below (g := gb525) (o := .cells #[.bool a0_0, .int .u64 a0_1, .int .u64 a0_2, .int .i64 a0_3] 26 (0, 0)) (St BK525.out) hb); have n1_ := Aside0.mk (blk_below (g := gb526) (o := .cells #[.bool a1_0, .int .u64 a1_1, .int .u64 a1_2, .int .i64 a1_3] 26 (0, 0)) (St BK526.out) hb); have n2_ := Aside0.mk (blk_below (g := gb527) (o := .cells #[.bool a2_0, .int .u64 a2_1, .int .u64 a2_2, .int .i64 a2_3] 26 (0, 0)) (St BK527.out) hb); have n3_ := Aside0.mk (below_step (Hb HB.out) hb); clear BK525; clear BK526; clear BK527; clear HB; have BK525 := n0_; have BK526 := n1_; have BK527 := n2_; have HB := n3_; clear n0_ n1_ n2_ n3_; (try clear hb); (try clear hb2); (try clear hk); (try clear hi); have hnb12 := NB525_526.out; have hnc12 := NB526_525.out; have hnb13 := NB525_527.out; have hnc13 := NB527_525.out; have hcz14_0 : w11.cell? ⟨gb525, 0, none⟩ = some (.bool a0_0) := (blk_cell BK525.out 0).trans rfl; have hcz14_1 : w11.cell? ⟨gb525, 1, none⟩ = some (.int .u64 a0_1) := (blk_cell BK525.out 1).trans rfl; have hcz14_2 : w11.cell? ⟨gb525, 2, none⟩ = some (.int .u64 a0_2) := (blk_cell BK525.out 2).trans rfl; have hcz14_3 : w11.cell? ⟨gb525, 3, none⟩ = some (.int .i64 a0_3) := (blk_cell BK525.out 3).trans rfl; have hfz14_0 := blk_frozen BK525.out 0; have hfz14_1 := blk_frozen BK525.out 1; have hfz14_2 := blk_frozen BK525.out 2; have hfz14_3 := blk_frozen BK525.out 3; have hnb15 := NB526_527.out; have hnc15 := NB527_526.out; have hcz16_0 : w11.cell? ⟨gb526, 0, none⟩ = some (.bool a1_0) := (blk_cell BK526.out 0).trans rfl; have hcz16_1 : w11.cell? ⟨gb526, 1, none⟩ = some (.int .u64 a1_1) := (blk_cell BK526.out 1).trans rfl; have hcz16_2 : w11.cell? ⟨gb526, 2, none⟩ = some (.int .u64 a1_2) := (blk_cell BK526.out 2).trans rfl; have hcz16_3 : w11.cell? ⟨gb526, 3, none⟩ = some (.int .i64 a1_3) := (blk_cell BK526.out 3).trans rfl; have hfz16_0 := blk_frozen BK526.out 0; have hfz16_1 := blk_frozen BK526.out 1; have hfz16_2 := blk_frozen BK526.out 2; have hfz16_3 := blk_frozen BK526.out 3) | ((with_reducible refine gate_callee (f := 26) rfl ?_); refine goesL_ (some 14) rfl rfl Tryd.func26 (by kernel_rfl) rfl #[.agg #[.bool a0_0, .int .u64 a0_1, .int .u64 a0_2, .int .i64 a0_3], .agg #[.bool a1_0, .int .u64 a1_1, .int .u64 a1_2, .int .i64 a1_3]] rfl Ma ?_; (with_reducible refine (prefix_Less.calls k a0_0 a0_1 a0_2 a0_3 a1_0 a1_1 a1_2 a1_3 t529 _ A5.out).mono ?_); rintro e w17 ⟨rfl, hb⟩; refine ⟨_, rfl, ?_⟩; have n0_ := Aside0.mk (blk_below (g := gb525) (o := .cells #[.bool a0_0, .int .u64 a0_1, .int .u64 a0_2, .int .i64 a0_3] 26 (0, 0)) (St BK525.out) hb); have n1_ := Aside0.mk (blk_below (g := gb526) (o := .cells #[.bool a1_0, .int .u64 a1_1, .int .u64 a1_2, .int .i64 a1_3] 26 (0, 0)) (St BK526.out) hb); have n2_ := Aside0.mk (blk_below (g := gb527) (o := .cells #[.bool a2_0, .int .u64 a2_1, .int .u64 a2_2, .int .i64 a2_3] 26 (0, 0)) (St BK527.out) hb); have n3_ := Aside0.mk (below_step (Hb HB.out) hb); clear BK525; clear BK526; clear BK527; clear HB; have BK525 := n0_; have BK526 := n1_; have BK527 := n2_; have HB := n3_; clear n0_ n1_ n2_ n3_; (try clear hb); (try clear hb2); (try clear hk); (try clear hi); have hcz18_0 : w17.cell? ⟨gb526, 0, none⟩ = some (.bool a1_0) := (blk_cell BK526.out 0).trans rfl; have hcz18_1 : w17.cell? ⟨gb526, 1, none⟩ = some (.int .u64 a1_1) := (blk_cell BK526.out 1).trans rfl; have hcz18_2 : w17.cell? ⟨gb526, 2, none⟩ = some (.int .u64 a1_2) := (blk_cell BK526.out 2).trans rfl; have hcz18_3 : w17.cell? ⟨gb526, 3, none⟩ = some (.int .i64 a1_3) := (blk_cell BK526.out 3).trans rfl; have hfz18_0 := blk_frozen BK526.out 0; have hfz18_1 := blk_frozen BK526.out 1; have hfz18_2 := blk_frozen BK526.out 2; have hfz18_3 := blk_frozen BK526.out 3; have hcz19_0 : w17.cell? ⟨gb525, 0, none⟩ = some (.bool a0_0) := (blk_cell BK525.out 0).trans rfl; have hcz19_1 : w17.cell? ⟨gb525, 1, none⟩ = some (.int .u64 a0_1) := (blk_cell BK525.out 1).trans rfl; have hcz19_2 : w17.cell? ⟨gb525, 2, none⟩ = some (.int .u64 a0_2) := (blk_cell BK525.out 2).trans rfl; have hcz19_3 : w17.cell? ⟨gb525, 3, none⟩ = some (.int .i64 a0_3) := (blk_cell BK525.out 3).trans rfl; have hfz19_0 := blk_frozen BK525.out 0; have hfz19_1 := blk_frozen BK525.out 1; have hfz19_2 := blk_frozen BK525.out 2; have hfz19_3 := blk_frozen BK525.out 3) | ((with_reducible refine gate_callee (f := 26) rfl ?_); refine goesL_ (some 17) rfl rfl Tryd.func26 (by kernel_rfl) rfl #[.agg #[.bool a1_0, .int .u64 a1_1, .int .u64 a1_2, .int .i64 a1_3], .agg #[.bool a0_0, .int .u64 a0_1, .int .u64 a0_2, .int .i64 a0_3]] rfl Ma ?_; (with_reducible refine (prefix_Less.calls k a1_0 a1_1 a1_2 a1_3 a0_0 a0_1 a0_2 a0_3 t530 _ A6.out).mono ?_); rintro e w20 ⟨rfl, hb⟩; refine ⟨_, rfl, ?_⟩; have n0_ := Aside0.mk (blk_below (g := gb525) (o := .cells #[.bool a0_0, .int .u64 a0_1, .int .u64 a0_2, .int .i64 a0_3] 26 (0, 0)) (St BK525.out) hb); have n1_ := Aside0.mk (blk_below (g := gb526) (o := .cells #[.bool a1_0, .int .u64 a1_1, .int .u64 a1_2, .int .i64 a1_3] 26 (0, 0)) (St BK526.out) hb); have n2_ := Aside0.mk (blk_below (g := gb527) (o := .cells #[.bool a2_0, .int .u64 a2_1, .int .u64 a2_2, .int .i64 a2_3] 26 (0, 0)) (St BK527.out) hb); have n3_ := Aside0.mk (below_step (Hb HB.out) hb); clear BK525; clear BK526; clear BK527; clear HB; have BK525 := n0_; have BK526 := n1_; have BK527 := n2_; have HB := n3_; clear n0_ n1_ n2_ n3_; (try clear hb); (try clear hb2); (try clear hk); (try clear hi)))
 (try simp only [Act.put, List.setIfInBounds_toArray, List.set_cons_zero, List.set_cons_succ])
 go_cut [37] (fun v37 wc => ∃ (kq : Nat) (x37_6 : Bool), v37 = .bool x37_6 ∧ Aside0 (crosswaylaw04_PrefixOrders.j0 kq t529 t530 x37_6 a0_0 a0_1 a0_2 a0_3 a1_0 a1_1 a1_2 a1_3 a2_0 a2_1 a2_2 a2_3 = some r) ∧ Aside0 (kq ≤ k) ∧ Aside0 (wc.heap[gb525]? = some (.cells #[.bool a0_0, .int .u64 a0_1, .int .u64 a0_2, .int .i64 a0_3] 26 (0, 0))) ∧ Aside0 (wc.heap[gb526]? = some (.cells #[.bool a1_0, .int .u64 a1_1, .int .u64 a1_2, .int .i64 a1_3] 26 (0, 0))) ∧ Aside0 (wc.heap[gb527]? = some (.cells #[.bool a2_0, .int .u64 a2_1, .int .u64 a2_2, .int .i64 a2_3] 26 (0, 0))) ∧ Aside0 (Below w.heap.size w wc))
 case first =>
  have H := HC7.out
  clear HC7
  by_cases c21 : t528 = true
  ·subst c21
   have H1 : ((crosswayref04_Less.f k a0_0 a0_1 a0_2 a0_3 a1_0 a1_1 a1_2 a1_3).bind fun t531 => (if (t529 != t531) = true then (crosswaylaw04_PrefixOrders.j0 k t529 t530 true a0_0 a0_1 a0_2 a0_3 a1_0 a1_1 a1_2 a1_3 a2_0 a2_1 a2_2 a2_3) else ((prefix_Less.f k a0_0 a0_1 a0_2 a0_3 a0_0 a0_1 a0_2 a0_3).bind fun t532 => (if t532 = true then (crosswaylaw04_PrefixOrders.j0 k t529 t530 true a0_0 a0_1 a0_2 a0_3 a1_0 a1_1 a1_2 a1_3 a2_0 a2_1 a2_2 a2_3) else (if t529 = true then (crosswaylaw04_PrefixOrders.j0 k t529 t530 t530 a0_0 a0_1 a0_2 a0_3 a1_0 a1_1 a1_2 a1_3 a2_0 a2_1 a2_2 a2_3) else (crosswaylaw04_PrefixOrders.j0 k t529 t530 false a0_0 a0_1 a0_2 a0_3 a1_0 a1_1 a1_2 a1_3 a2_0 a2_1 a2_2 a2_3)))))) = some r := by rw [if_pos rfl] at H; exact H
   clear H
   have H := H1
   clear H1
   replace H := Option.bind_eq_some_iff.mp H
   obtain ⟨t531, A220, H⟩ := H
   replace H : (if (t529 != t531) = true then (crosswaylaw04_PrefixOrders.j0 k t529 t530 true a0_0 a0_1 a0_2 a0_3 a1_0 a1_1 a1_2 a1_3 a2_0 a2_1 a2_2 a2_3) else ((prefix_Less.f k a0_0 a0_1 a0_2 a0_3 a0_0 a0_1 a0_2 a0_3).bind fun t532 => (if t532 = true then (crosswaylaw04_PrefixOrders.j0 k t529 t530 true a0_0 a0_1 a0_2 a0_3 a1_0 a1_1 a1_2 a1_3 a2_0 a2_1 a2_2 a2_3) else (if t529 = true then (crosswaylaw04_PrefixOrders.j0 k t529 t530 t530 a0_0 a0_1 a0_2 a0_3 a1_0 a1_1 a1_2 a1_3 a2_0 a2_1 a2_2 a2_3) else (crosswaylaw04_PrefixOrders.j0 k t529 t530 false a0_0 a0_1 a0_2 a0_3 a1_0 a1_1 a1_2 a1_3 a2_0 a2_1 a2_2 a2_3))))) = some r := H
   have A22 := Aside0.mk A220
   clear A220
   by_cases c23 : (t529 != t531) = true
   ·rw [if_pos c23] at H
    have c23b0 : (t529 != t531) = true := c23
    (try (have c23b1 : decide (t529 = t531) = false := by simpa using c23))
    (try (have c23b2 : (t529 == t531) = false := by simpa using c23))
    (try (have c23b3 : ¬ (t529 = t531) := by simpa using c23))
    clear c23
    (first | rw [c23b0] | (simp only [i64_w, i32_w]; rw [c23b0]) | skip)
    have H' := Aside0.mk H
    clear H
    have hnb24 := NB525_526.out
    have hnc24 := NB526_525.out
    have hnb25 := NB525_527.out
    have hnc25 := NB527_525.out
    have hcz26_0 : w20.cell? ⟨gb525, 0, none⟩ = some (.bool a0_0) := (blk_cell BK525.out 0).trans rfl
    have hcz26_1 : w20.cell? ⟨gb525, 1, none⟩ = some (.int .u64 a0_1) := (blk_cell BK525.out 1).trans rfl
    have hcz26_2 : w20.cell? ⟨gb525, 2, none⟩ = some (.int .u64 a0_2) := (blk_cell BK525.out 2).trans rfl
    have hcz26_3 : w20.cell? ⟨gb525, 3, none⟩ = some (.int .i64 a0_3) := (blk_cell BK525.out 3).trans rfl
    have hfz26_0 := blk_frozen BK525.out 0
    have hfz26_1 := blk_frozen BK525.out 1
    have hfz26_2 := blk_frozen BK525.out 2
    have hfz26_3 := blk_frozen BK525.out 3
    have hnb27 := NB526_527.out
    have hnc27 := NB527_526.out
    have hcz28_0 : w20.cell? ⟨gb526, 0, none⟩ = some (.bool a1_0) := (blk_cell BK526.out 0).trans rfl
    have hcz28_1 : w20.cell? ⟨gb526, 1, none⟩ = some (.int .u64 a1_1) := (blk_cell BK526.out 1).trans rfl
    have hcz28_2 : w20.cell? ⟨gb526, 2, none⟩ = some (.int .u64 a1_2) := (blk_cell BK526.out 2).trans rfl
    have hcz28_3 : w20.cell? ⟨gb526, 3, none⟩ = some (.int .i64 a1_3) := (blk_cell BK526.out 3).trans rfl
    have hfz28_0 := blk_frozen BK526.out 0
    have hfz28_1 := blk_frozen BK526.out 1
    have hfz28_2 := blk_frozen BK526.out 2
    have hfz28_3 := blk_frozen BK526.out 3
    go_wp2_with (first | (go_at_call 27; (with_reducible refine (crosswayref04_Less.calls k a0_0 a0_1 a0_2 a0_3 a1_0 a1_1 a1_2 a1_3 t531 _ A22.out).mono ?_); rintro e w29 ⟨rfl, hb⟩; have n0_ := Aside0.mk (blk_below (g := gb525) (o := .cells #[.bool a0_0, .int .u64 a0_1, .int .u64 a0_2, .int .i64 a0_3] 26 (0, 0)) (St BK525.out) hb); have n1_ := Aside0.mk (blk_below (g := gb526) (o := .cells #[.bool a1_0, .int .u64 a1_1, .int .u64 a1_2, .int .i64 a1_3] 26 (0, 0)) (St BK526.out) hb); have n2_ := Aside0.mk (blk_below (g := gb527) (o := .cells #[.bool a2_0, .int .u64 a2_1, .int .u64 a2_2, .int .i64 a2_3] 26 (0, 0)) (St BK527.out) hb); have n3_ := Aside0.mk (below_step (Hb HB.out) hb); clear BK525; clear BK526; clear BK527; clear HB; have BK525 := n0_; have BK526 := n1_; have BK527 := n2_; have HB := n3_; clear n0_ n1_ n2_ n3_; (try clear hb); (try clear hb2); (try clear hk); (try clear hi)))
    go_meet
    case rel => exact ⟨_, (true), (by first | rfl | (simp; done) | (simp [*]; done)), H', ⟨by first | omega | exact Nat.le_refl _⟩, ⟨St BK525.out⟩, ⟨St BK526.out⟩, ⟨St BK527.out⟩, ⟨Hb HB.out⟩⟩
   ·rw [if_neg c23] at H
    have c23b0 : (t529 != t531) = false := by simpa using c23
    (try (have c23b1 : decide (t529 = t531) = true := by simpa using c23))
    (try (have c23b2 : (t529 == t531) = true := by simpa using c23))
    clear c23
    (first | rw [c23b0] | (simp only [i64_w, i32_w]; rw [c23b0]) | skip)
    replace H := Option.bind_eq_some_iff.mp H
    obtain ⟨t532, A300, H⟩ := H
    replace H : (if t532 = true then (crosswaylaw04_PrefixOrders.j0 k t529 t530 true a0_0 a0_1 a0_2 a0_3 a1_0 a1_1 a1_2 a1_3 a2_0 a2_1 a2_2 a2_3) else (if t529 = true then (crosswaylaw04_PrefixOrders.j0 k t529 t530 t530 a0_0 a0_1 a0_2 a0_3 a1_0 a1_1 a1_2 a1_3 a2_0 a2_1 a2_2 a2_3) else (crosswaylaw04_PrefixOrders.j0 k t529 t530 false a0_0 a0_1 a0_2 a0_3 a1_0 a1_1 a1_2 a1_3 a2_0 a2_1 a2_2 a2_3))) = some r := H
    have A30 := Aside0.mk A300
    clear A300
    by_cases c31 : t532 = true
    ·subst c31
     have H1 : (crosswaylaw04_PrefixOrders.j0 k t529 t530 true a0_0 a0_1 a0_2 a0_3 a1_0 a1_1 a1_2 a1_3 a2_0 a2_1 a2_2 a2_3) = some r := by rw [if_pos rfl] at H; exact H
     clear H
     have H := H1
     clear H1
     have H' := Aside0.mk H
     clear H
     have hnb32 := NB525_526.out
     have hnc32 := NB526_525.out
     have hnb33 := NB525_527.out
     have hnc33 := NB527_525.out
     have hcz34_0 : w20.cell? ⟨gb525, 0, none⟩ = some (.bool a0_0) := (blk_cell BK525.out 0).trans rfl
     have hcz34_1 : w20.cell? ⟨gb525, 1, none⟩ = some (.int .u64 a0_1) := (blk_cell BK525.out 1).trans rfl
     have hcz34_2 : w20.cell? ⟨gb525, 2, none⟩ = some (.int .u64 a0_2) := (blk_cell BK525.out 2).trans rfl
     have hcz34_3 : w20.cell? ⟨gb525, 3, none⟩ = some (.int .i64 a0_3) := (blk_cell BK525.out 3).trans rfl
     have hfz34_0 := blk_frozen BK525.out 0
     have hfz34_1 := blk_frozen BK525.out 1
     have hfz34_2 := blk_frozen BK525.out 2
     have hfz34_3 := blk_frozen BK525.out 3
     have hnb35 := NB526_527.out
     have hnc35 := NB527_526.out
     have hcz36_0 : w20.cell? ⟨gb526, 0, none⟩ = some (.bool a1_0) := (blk_cell BK526.out 0).trans rfl
     have hcz36_1 : w20.cell? ⟨gb526, 1, none⟩ = some (.int .u64 a1_1) := (blk_cell BK526.out 1).trans rfl
     have hcz36_2 : w20.cell? ⟨gb526, 2, none⟩ = some (.int .u64 a1_2) := (blk_cell BK526.out 2).trans rfl
     have hcz36_3 : w20.cell? ⟨gb526, 3, none⟩ = some (.int .i64 a1_3) := (blk_cell BK526.out 3).trans rfl
     have hfz36_0 := blk_frozen BK526.out 0
     have hfz36_1 := blk_frozen BK526.out 1
     have hfz36_2 := blk_frozen BK526.out 2
     have hfz36_3 := blk_frozen BK526.out 3
     go_wp2_with (first | (go_at_call 27; (with_reducible refine (crosswayref04_Less.calls k a0_0 a0_1 a0_2 a0_3 a1_0 a1_1 a1_2 a1_3 t531 _ A22.out).mono ?_); rintro e w37 ⟨rfl, hb⟩; have n0_ := Aside0.mk (blk_below (g := gb525) (o := .cells #[.bool a0_0, .int .u64 a0_1, .int .u64 a0_2, .int .i64 a0_3] 26 (0, 0)) (St BK525.out) hb); have n1_ := Aside0.mk (blk_below (g := gb526) (o := .cells #[.bool a1_0, .int .u64 a1_1, .int .u64 a1_2, .int .i64 a1_3] 26 (0, 0)) (St BK526.out) hb); have n2_ := Aside0.mk (blk_below (g := gb527) (o := .cells #[.bool a2_0, .int .u64 a2_1, .int .u64 a2_2, .int .i64 a2_3] 26 (0, 0)) (St BK527.out) hb); have n3_ := Aside0.mk (below_step (Hb HB.out) hb); clear BK525; clear BK526; clear BK527; clear HB; have BK525 := n0_; have BK526 := n1_; have BK527 := n2_; have HB := n3_; clear n0_ n1_ n2_ n3_; (try clear hb); (try clear hb2); (try clear hk); (try clear hi); have hcz38_0 : w37.cell? ⟨gb525, 0, none⟩ = some (.bool a0_0) := (blk_cell BK525.out 0).trans rfl; have hcz38_1 : w37.cell? ⟨gb525, 1, none⟩ = some (.int .u64 a0_1) := (blk_cell BK525.out 1).trans rfl; have hcz38_2 : w37.cell? ⟨gb525, 2, none⟩ = some (.int .u64 a0_2) := (blk_cell BK525.out 2).trans rfl; have hcz38_3 : w37.cell? ⟨gb525, 3, none⟩ = some (.int .i64 a0_3) := (blk_cell BK525.out 3).trans rfl; have hfz38_0 := blk_frozen BK525.out 0; have hfz38_1 := blk_frozen BK525.out 1; have hfz38_2 := blk_frozen BK525.out 2; have hfz38_3 := blk_frozen BK525.out 3) | (go_at_call 26; (with_reducible refine (prefix_Less.calls k a0_0 a0_1 a0_2 a0_3 a0_0 a0_1 a0_2 a0_3 true _ A30.out).mono ?_); rintro e w39 ⟨rfl, hb⟩; have n0_ := Aside0.mk (blk_below (g := gb525) (o := .cells #[.bool a0_0, .int .u64 a0_1, .int .u64 a0_2, .int .i64 a0_3] 26 (0, 0)) (St BK525.out) hb); have n1_ := Aside0.mk (blk_below (g := gb526) (o := .cells #[.bool a1_0, .int .u64 a1_1, .int .u64 a1_2, .int .i64 a1_3] 26 (0, 0)) (St BK526.out) hb); have n2_ := Aside0.mk (blk_below (g := gb527) (o := .cells #[.bool a2_0, .int .u64 a2_1, .int .u64 a2_2, .int .i64 a2_3] 26 (0, 0)) (St BK527.out) hb); have n3_ := Aside0.mk (below_step (Hb HB.out) hb); clear BK525; clear BK526; clear BK527; clear HB; have BK525 := n0_; have BK526 := n1_; have BK527 := n2_; have HB := n3_; clear n0_ n1_ n2_ n3_; (try clear hb); (try clear hb2); (try clear hk); (try clear hi)))
     go_meet
     case rel => exact ⟨_, (true), (by first | rfl | (simp; done) | (simp [*]; done)), H', ⟨by first | omega | exact Nat.le_refl _⟩, ⟨St BK525.out⟩, ⟨St BK526.out⟩, ⟨St BK527.out⟩, ⟨Hb HB.out⟩⟩
    ·replace c31 := Bool.eq_false_iff.mpr c31
     subst c31
     have H1 : (if t529 = true then (crosswaylaw04_PrefixOrders.j0 k t529 t530 t530 a0_0 a0_1 a0_2 a0_3 a1_0 a1_1 a1_2 a1_3 a2_0 a2_1 a2_2 a2_3) else (crosswaylaw04_PrefixOrders.j0 k t529 t530 false a0_0 a0_1 a0_2 a0_3 a1_0 a1_1 a1_2 a1_3 a2_0 a2_1 a2_2 a2_3)) = some r := by rw [if_neg (show ¬ (false = true) by decide)] at H; exact H
     clear H
     have H := H1
     clear H1
     by_cases c40 : t529 = true
     ·subst c40
      have H1 : (crosswaylaw04_PrefixOrders.j0 k true t530 t530 a0_0 a0_1 a0_2 a0_3 a1_0 a1_1 a1_2 a1_3 a2_0 a2_1 a2_2 a2_3) = some r := by rw [if_pos rfl] at H; exact H
      clear H
      have H := H1
      clear H1
      have H' := Aside0.mk H
      clear H
      have hnb41 := NB525_526.out
      have hnc41 := NB526_525.out
      have hnb42 := NB525_527.out
      have hnc42 := NB527_525.out
      have hcz43_0 : w20.cell? ⟨gb525, 0, none⟩ = some (.bool a0_0) := (blk_cell BK525.out 0).trans rfl
      have hcz43_1 : w20.cell? ⟨gb525, 1, none⟩ = some (.int .u64 a0_1) := (blk_cell BK525.out 1).trans rfl
      have hcz43_2 : w20.cell? ⟨gb525, 2, none⟩ = some (.int .u64 a0_2) := (blk_cell BK525.out 2).trans rfl
      have hcz43_3 : w20.cell? ⟨gb525, 3, none⟩ = some (.int .i64 a0_3) := (blk_cell BK525.out 3).trans rfl
      have hfz43_0 := blk_frozen BK525.out 0
      have hfz43_1 := blk_frozen BK525.out 1
      have hfz43_2 := blk_frozen BK525.out 2
      have hfz43_3 := blk_frozen BK525.out 3
      have hnb44 := NB526_527.out
      have hnc44 := NB527_526.out
      have hcz45_0 : w20.cell? ⟨gb526, 0, none⟩ = some (.bool a1_0) := (blk_cell BK526.out 0).trans rfl
      have hcz45_1 : w20.cell? ⟨gb526, 1, none⟩ = some (.int .u64 a1_1) := (blk_cell BK526.out 1).trans rfl
      have hcz45_2 : w20.cell? ⟨gb526, 2, none⟩ = some (.int .u64 a1_2) := (blk_cell BK526.out 2).trans rfl
      have hcz45_3 : w20.cell? ⟨gb526, 3, none⟩ = some (.int .i64 a1_3) := (blk_cell BK526.out 3).trans rfl
      have hfz45_0 := blk_frozen BK526.out 0
      have hfz45_1 := blk_frozen BK526.out 1
      have hfz45_2 := blk_frozen BK526.out 2
      have hfz45_3 := blk_frozen BK526.out 3
      go_wp2_with (first | (go_at_call 27; (with_reducible refine (crosswayref04_Less.calls k a0_0 a0_1 a0_2 a0_3 a1_0 a1_1 a1_2 a1_3 t531 _ A22.out).mono ?_); rintro e w46 ⟨rfl, hb⟩; have n0_ := Aside0.mk (blk_below (g := gb525) (o := .cells #[.bool a0_0, .int .u64 a0_1, .int .u64 a0_2, .int .i64 a0_3] 26 (0, 0)) (St BK525.out) hb); have n1_ := Aside0.mk (blk_below (g := gb526) (o := .cells #[.bool a1_0, .int .u64 a1_1, .int .u64 a1_2, .int .i64 a1_3] 26 (0, 0)) (St BK526.out) hb); have n2_ := Aside0.mk (blk_below (g := gb527) (o := .cells #[.bool a2_0, .int .u64 a2_1, .int .u64 a2_2, .int .i64 a2_3] 26 (0, 0)) (St BK527.out) hb); have n3_ := Aside0.mk (below_step (Hb HB.out) hb); clear BK525; clear BK526; clear BK527; clear HB; have BK525 := n0_; have BK526 := n1_; have BK527 := n2_; have HB := n3_; clear n0_ n1_ n2_ n3_; (try clear hb); (try clear hb2); (try clear hk); (try clear hi); have hcz47_0 : w46.cell? ⟨gb525, 0, none⟩ = some (.bool a0_0) := (blk_cell BK525.out 0).trans rfl; have hcz47_1 : w46.cell? ⟨gb525, 1, none⟩ = some (.int .u64 a0_1) := (blk_cell BK525.out 1).trans rfl; have hcz47_2 : w46.cell? ⟨gb525, 2, none⟩ = some (.int .u64 a0_2) := (blk_cell BK525.out 2).trans rfl; have hcz47_3 : w46.cell? ⟨gb525, 3, none⟩ = some (.int .i64 a0_3) := (blk_cell BK525.out 3).trans rfl; have hfz47_0 := blk_frozen BK525.out 0; have hfz47_1 := blk_frozen BK525.out 1; have hfz47_2 := blk_frozen BK525.out 2; have hfz47_3 := blk_frozen BK525.out 3) | (go_at_call 26; (with_reducible refine (prefix_Less.calls k a0_0 a0_1 a0_2 a0_3 a0_0 a0_1 a0_2 a0_3 false _ A30.out).mono ?_); rintro e w48 ⟨rfl, hb⟩; have n0_ := Aside0.mk (blk_below (g := gb525) (o := .cells #[.bool a0_0, .int .u64 a0_1, .int .u64 a0_2, .int .i64 a0_3] 26 (0, 0)) (St BK525.out) hb); have n1_ := Aside0.mk (blk_below (g := gb526) (o := .cells #[.bool a1_0, .int .u64 a1_1, .int .u64 a1_2, .int .i64 a1_3] 26 (0, 0)) (St BK526.out) hb); have n2_ := Aside0.mk (blk_below (g := gb527) (o := .cells #[.bool a2_0, .int .u64 a2_1, .int .u64 a2_2, .int .i64 a2_3] 26 (0, 0)) (St BK527.out) hb); have n3_ := Aside0.mk (below_step (Hb HB.out) hb); clear BK525; clear BK526; clear BK527; clear HB; have BK525 := n0_; have BK526 := n1_; have BK527 := n2_; have HB := n3_; clear n0_ n1_ n2_ n3_; (try clear hb); (try clear hb2); (try clear hk); (try clear hi)))
      go_meet
      case rel => exact ⟨_, (t530), (by first | rfl | (simp; done) | (simp [*]; done)), H', ⟨by first | omega | exact Nat.le_refl _⟩, ⟨St BK525.out⟩, ⟨St BK526.out⟩, ⟨St BK527.out⟩, ⟨Hb HB.out⟩⟩
     ·replace c40 := Bool.eq_false_iff.mpr c40
      subst c40
      have H1 : (crosswaylaw04_PrefixOrders.j0 k false t530 false a0_0 a0_1 a0_2 a0_3 a1_0 a1_1 a1_2 a1_3 a2_0 a2_1 a2_2 a2_3) = some r := by rw [if_neg (show ¬ (false = true) by decide)] at H; exact H
      clear H
      have H := H1
      clear H1
      have H' := Aside0.mk H
      clear H
      have hnb49 := NB525_526.out
      have hnc49 := NB526_525.out
      have hnb50 := NB525_527.out
      have hnc50 := NB527_525.out
      have hcz51_0 : w20.cell? ⟨gb525, 0, none⟩ = some (.bool a0_0) := (blk_cell BK525.out 0).trans rfl
      have hcz51_1 : w20.cell? ⟨gb525, 1, none⟩ = some (.int .u64 a0_1) := (blk_cell BK525.out 1).trans rfl
      have hcz51_2 : w20.cell? ⟨gb525, 2, none⟩ = some (.int .u64 a0_2) := (blk_cell BK525.out 2).trans rfl
      have hcz51_3 : w20.cell? ⟨gb525, 3, none⟩ = some (.int .i64 a0_3) := (blk_cell BK525.out 3).trans rfl
      have hfz51_0 := blk_frozen BK525.out 0
      have hfz51_1 := blk_frozen BK525.out 1
      have hfz51_2 := blk_frozen BK525.out 2
      have hfz51_3 := blk_frozen BK525.out 3
      have hnb52 := NB526_527.out
      have hnc52 := NB527_526.out
      have hcz53_0 : w20.cell? ⟨gb526, 0, none⟩ = some (.bool a1_0) := (blk_cell BK526.out 0).trans rfl
      have hcz53_1 : w20.cell? ⟨gb526, 1, none⟩ = some (.int .u64 a1_1) := (blk_cell BK526.out 1).trans rfl
      have hcz53_2 : w20.cell? ⟨gb526, 2, none⟩ = some (.int .u64 a1_2) := (blk_cell BK526.out 2).trans rfl
      have hcz53_3 : w20.cell? ⟨gb526, 3, none⟩ = some (.int .i64 a1_3) := (blk_cell BK526.out 3).trans rfl
      have hfz53_0 := blk_frozen BK526.out 0
      have hfz53_1 := blk_frozen BK526.out 1
      have hfz53_2 := blk_frozen BK526.out 2
      have hfz53_3 := blk_frozen BK526.out 3
      go_wp2_with (first | (go_at_call 27; (with_reducible refine (crosswayref04_Less.calls k a0_0 a0_1 a0_2 a0_3 a1_0 a1_1 a1_2 a1_3 t531 _ A22.out).mono ?_); rintro e w54 ⟨rfl, hb⟩; have n0_ := Aside0.mk (blk_below (g := gb525) (o := .cells #[.bool a0_0, .int .u64 a0_1, .int .u64 a0_2, .int .i64 a0_3] 26 (0, 0)) (St BK525.out) hb); have n1_ := Aside0.mk (blk_below (g := gb526) (o := .cells #[.bool a1_0, .int .u64 a1_1, .int .u64 a1_2, .int .i64 a1_3] 26 (0, 0)) (St BK526.out) hb); have n2_ := Aside0.mk (blk_below (g := gb527) (o := .cells #[.bool a2_0, .int .u64 a2_1, .int .u64 a2_2, .int .i64 a2_3] 26 (0, 0)) (St BK527.out) hb); have n3_ := Aside0.mk (below_step (Hb HB.out) hb); clear BK525; clear BK526; clear BK527; clear HB; have BK525 := n0_; have BK526 := n1_; have BK527 := n2_; have HB := n3_; clear n0_ n1_ n2_ n3_; (try clear hb); (try clear hb2); (try clear hk); (try clear hi); have hcz55_0 : w54.cell? ⟨gb525, 0, none⟩ = some (.bool a0_0) := (blk_cell BK525.out 0).trans rfl; have hcz55_1 : w54.cell? ⟨gb525, 1, none⟩ = some (.int .u64 a0_1) := (blk_cell BK525.out 1).trans rfl; have hcz55_2 : w54.cell? ⟨gb525, 2, none⟩ = some (.int .u64 a0_2) := (blk_cell BK525.out 2).trans rfl; have hcz55_3 : w54.cell? ⟨gb525, 3, none⟩ = some (.int .i64 a0_3) := (blk_cell BK525.out 3).trans rfl; have hfz55_0 := blk_frozen BK525.out 0; have hfz55_1 := blk_frozen BK525.out 1; have hfz55_2 := blk_frozen BK525.out 2; have hfz55_3 := blk_frozen BK525.out 3) | (go_at_call 26; (with_reducible refine (prefix_Less.calls k a0_0 a0_1 a0_2 a0_3 a0_0 a0_1 a0_2 a0_3 false _ A30.out).mono ?_); rintro e w56 ⟨rfl, hb⟩; have n0_ := Aside0.mk (blk_below (g := gb525) (o := .cells #[.bool a0_0, .int .u64 a0_1, .int .u64 a0_2, .int .i64 a0_3] 26 (0, 0)) (St BK525.out) hb); have n1_ := Aside0.mk (blk_below (g := gb526) (o := .cells #[.bool a1_0, .int .u64 a1_1, .int .u64 a1_2, .int .i64 a1_3] 26 (0, 0)) (St BK526.out) hb); have n2_ := Aside0.mk (blk_below (g := gb527) (o := .cells #[.bool a2_0, .int .u64 a2_1, .int .u64 a2_2, .int .i64 a2_3] 26 (0, 0)) (St BK527.out) hb); have n3_ := Aside0.mk (below_step (Hb HB.out) hb); clear BK525; clear BK526; clear BK527; clear HB; have BK525 := n0_; have BK526 := n1_; have BK527 := n2_; have HB := n3_; clear n0_ n1_ n2_ n3_; (try clear hb); (try clear hb2); (try clear hk); (try clear hi)))
      go_meet
      case rel => exact ⟨_, (false), (by first | rfl | (simp; done) | (simp [*]; done)), H', ⟨by first | omega | exact Nat.le_refl _⟩, ⟨St BK525.out⟩, ⟨St BK526.out⟩, ⟨St BK527.out⟩, ⟨Hb HB.out⟩⟩
  ·replace c21 := Bool.eq_false_iff.mpr c21
   subst c21
   have H1 : (crosswaylaw04_PrefixOrders.j0 k t529 t530 true a0_0 a0_1 a0_2 a0_3 a1_0 a1_1 a1_2 a1_3 a2_0 a2_1 a2_2 a2_3) = some r := by rw [if_neg (show ¬ (false = true) by decide)] at H; exact H
   clear H
   have H := H1
   clear H1
   have H' := Aside0.mk H
   clear H
   go_wp2
   go_meet
   case rel => exact ⟨_, (true), (by first | rfl | (simp; done) | (simp [*]; done)), H', ⟨by first | omega | exact Nat.le_refl _⟩, ⟨St BK525.out⟩, ⟨St BK526.out⟩, ⟨St BK527.out⟩, ⟨Hb HB.out⟩⟩
 case rest =>
  clear HC7
  try clear c1
  try clear c2
  try clear p2
  try clear c3
  try clear c4
  try clear c5
  try clear c8
  try clear c9
  try clear c12
  try clear c13
  try clear c15
  try clear c21
  try clear c23
  try clear c23b0
  try clear c23b1
  try clear c23b2
  try clear c24
  try clear c25
  try clear c26
  try clear c27
  try clear c31
  try clear c32
  try clear c33
  try clear c35
  try clear c40
  try clear c41
  try clear c42
  try clear c44
  try clear c49
  try clear c50
  try clear c52
  try clear hcz14_0
  try clear hcz14_1
  try clear hcz14_2
  try clear hcz14_3
  try clear hcz16_0
  try clear hcz16_1
  try clear hcz16_2
  try clear hcz16_3
  try clear hcz18_0
  try clear hcz18_1
  try clear hcz18_2
  try clear hcz18_3
  try clear hcz19_0
  try clear hcz19_1
  try clear hcz19_2
  try clear hcz19_3
  try clear hcz26_0
  try clear hcz26_1
  try clear hcz26_2
  try clear hcz26_3
  try clear hcz28_0
  try clear hcz28_1
  try clear hcz28_2
  try clear hcz28_3
  try clear hcz34_0
  try clear hcz34_1
  try clear hcz34_2
  try clear hcz34_3
  try clear hcz36_0
  try clear hcz36_1
  try clear hcz36_2
  try clear hcz36_3
  try clear hcz38_0
  try clear hcz38_1
  try clear hcz38_2
  try clear hcz38_3
  try clear hcz43_0
  try clear hcz43_1
  try clear hcz43_2
  try clear hcz43_3
  try clear hcz45_0
  try clear hcz45_1
  try clear hcz45_2
  try clear hcz45_3
  try clear hcz47_0
  try clear hcz47_1
  try clear hcz47_2
  try clear hcz47_3
  try clear hcz51_0
  try clear hcz51_1
  try clear hcz51_2
  try clear hcz51_3
  try clear hcz53_0
  try clear hcz53_1
  try clear hcz53_2
  try clear hcz53_3
  try clear hcz55_0
  try clear hcz55_1
  try clear hcz55_2
  try clear hcz55_3
  try clear hfz14_0
  try clear hfz14_1
  try clear hfz14_2
  try clear hfz14_3
  try clear hfz16_0
  try clear hfz16_1
  try clear hfz16_2
  try clear hfz16_3
  try clear hfz18_0
  try clear hfz18_1
  try clear hfz18_2
  try clear hfz18_3
  try clear hfz19_0
  try clear hfz19_1
  try clear hfz19_2
  try clear hfz19_3
  try clear hfz26_0
  try clear hfz26_1
  try clear hfz26_2
  try clear hfz26_3
  try clear hfz28_0
  try clear hfz28_1
  try clear hfz28_2
  try clear hfz28_3
  try clear hfz34_0
  try clear hfz34_1
  try clear hfz34_2
  try clear hfz34_3
  try clear hfz36_0
  try clear hfz36_1
  try clear hfz36_2
  try clear hfz36_3
  try clear hfz38_0
  try clear hfz38_1
  try clear hfz38_2
  try clear hfz38_3
  try clear hfz43_0
  try clear hfz43_1
  try clear hfz43_2
  try clear hfz43_3
  try clear hfz45_0
  try clear hfz45_1
  try clear hfz45_2
  try clear hfz45_3
  try clear hfz47_0
  try clear hfz47_1
  try clear hfz47_2
  try clear hfz47_3
  try clear hfz51_0
  try clear hfz51_1
  try clear hfz51_2
  try clear hfz51_3
  try clear hfz53_0
  try clear hfz53_1
  try clear hfz53_2
  try clear hfz53_3
  try clear hfz55_0
  try clear hfz55_1
  try clear hfz55_2
  try clear hfz55_3
  obtain ⟨kq, x37_6, rfl, HA, HJ6, BK525, BK526, BK527, HB⟩ := hcut
  cases kq with
  | zero => exact absurd HA.out (by simp [crosswaylaw04_PrefixOrders.j0])
  | succ kj6 =>
   have H := HA.out
   clear HA
   simp only [crosswaylaw04_PrefixOrders.j0] at H
   by_cases c57 : x37_6 = true
   ·subst c57
    have H1 : (none) = some r := by rw [if_pos rfl] at H; exact H
    clear H
    have H := H1
    clear H1
    exact absurd H (by simp)
   ·replace c57 := Bool.eq_false_iff.mpr c57
    subst c57
    have H1 : ((prefix_Valid.f a0_0 a0_1 a0_2 a0_3).bind fun t533 => (if t533 = true then ((prefix_Valid.f a1_0 a1_1 a1_2 a1_3).bind fun t534 => (crosswaylaw04_PrefixOrders.j1 kj6 t529 t530 t534 a0_0 a0_1 a0_2 a0_3 a1_0 a1_1 a1_2 a1_3 a2_0 a2_1 a2_2 a2_3)) else (crosswaylaw04_PrefixOrders.j1 kj6 t529 t530 false a0_0 a0_1 a0_2 a0_3 a1_0 a1_1 a1_2 a1_3 a2_0 a2_1 a2_2 a2_3))) = some r := by rw [if_neg (show ¬ (false = true) by decide)] at H; exact H
    clear H
    have H := H1
    clear H1
    have HC58 := Aside0.mk H
    clear H
    go_upto_region 6 with (fail)
    go_cut [10] (fun v10 wc => ∃ (kq : Nat) (x10_57 : Bool), v10 = .bool x10_57 ∧ Aside0 (crosswaylaw04_PrefixOrders.j1 kq t529 t530 x10_57 a0_0 a0_1 a0_2 a0_3 a1_0 a1_1 a1_2 a1_3 a2_0 a2_1 a2_2 a2_3 = some r) ∧ Aside0 (kq ≤ kj6) ∧ Aside0 (wc.heap[gb525]? = some (.cells #[.bool a0_0, .int .u64 a0_1, .int .u64 a0_2, .int .i64 a0_3] 26 (0, 0))) ∧ Aside0 (wc.heap[gb526]? = some (.cells #[.bool a1_0, .int .u64 a1_1, .int .u64 a1_2, .int .i64 a1_3] 26 (0, 0))) ∧ Aside0 (wc.heap[gb527]? = some (.cells #[.bool a2_0, .int .u64 a2_1, .int .u64 a2_2, .int .i64 a2_3] 26 (0, 0))) ∧ Aside0 (Below w.heap.size w wc))
    case first =>
     have H := HC58.out
     clear HC58
     replace H := Option.bind_eq_some_iff.mp H
     obtain ⟨t533, A590, H⟩ := H
     replace H : (if t533 = true then ((prefix_Valid.f a1_0 a1_1 a1_2 a1_3).bind fun t534 => (crosswaylaw04_PrefixOrders.j1 kj6 t529 t530 t534 a0_0 a0_1 a0_2 a0_3 a1_0 a1_1 a1_2 a1_3 a2_0 a2_1 a2_2 a2_3)) else (crosswaylaw04_PrefixOrders.j1 kj6 t529 t530 false a0_0 a0_1 a0_2 a0_3 a1_0 a1_1 a1_2 a1_3 a2_0 a2_1 a2_2 a2_3)) = some r := H
     have A59 := Aside0.mk A590
     clear A590
     by_cases c60 : t533 = true
     ·subst c60
      have H1 : ((prefix_Valid.f a1_0 a1_1 a1_2 a1_3).bind fun t534 => (crosswaylaw04_PrefixOrders.j1 kj6 t529 t530 t534 a0_0 a0_1 a0_2 a0_3 a1_0 a1_1 a1_2 a1_3 a2_0 a2_1 a2_2 a2_3)) = some r := by rw [if_pos rfl] at H; exact H
      clear H
      have H := H1
      clear H1
      replace H := Option.bind_eq_some_iff.mp H
      obtain ⟨t534, A610, H⟩ := H
      replace H : (crosswaylaw04_PrefixOrders.j1 kj6 t529 t530 t534 a0_0 a0_1 a0_2 a0_3 a1_0 a1_1 a1_2 a1_3 a2_0 a2_1 a2_2 a2_3) = some r := H
      have A61 := Aside0.mk A610
      clear A610
      have H' := Aside0.mk H
      clear H
      have hnb62 := NB525_526.out
      have hnc62 := NB526_525.out
      have hnb63 := NB525_527.out
      have hnc63 := NB527_525.out
      have hcz64_0 : wc.cell? ⟨gb525, 0, none⟩ = some (.bool a0_0) := (blk_cell BK525.out 0).trans rfl
      have hcz64_1 : wc.cell? ⟨gb525, 1, none⟩ = some (.int .u64 a0_1) := (blk_cell BK525.out 1).trans rfl
      have hcz64_2 : wc.cell? ⟨gb525, 2, none⟩ = some (.int .u64 a0_2) := (blk_cell BK525.out 2).trans rfl
      have hcz64_3 : wc.cell? ⟨gb525, 3, none⟩ = some (.int .i64 a0_3) := (blk_cell BK525.out 3).trans rfl
      have hfz64_0 := blk_frozen BK525.out 0
      have hfz64_1 := blk_frozen BK525.out 1
      have hfz64_2 := blk_frozen BK525.out 2
      have hfz64_3 := blk_frozen BK525.out 3
      go_wp2_with (first | ((with_reducible refine gate_callee (f := 14) rfl ?_); refine goesL_ (some 39) rfl rfl Tryd.func14 (by kernel_rfl) rfl #[.agg #[.bool a0_0, .int .u64 a0_1, .int .u64 a0_2, .int .i64 a0_3]] rfl Ma ?_; (with_reducible refine (prefix_Valid.calls a0_0 a0_1 a0_2 a0_3 true _ A59.out).mono ?_); rintro e w65 ⟨rfl, hb⟩; refine ⟨_, rfl, ?_⟩; have n0_ := Aside0.mk (blk_below (g := gb525) (o := .cells #[.bool a0_0, .int .u64 a0_1, .int .u64 a0_2, .int .i64 a0_3] 26 (0, 0)) (St BK525.out) hb); have n1_ := Aside0.mk (blk_below (g := gb526) (o := .cells #[.bool a1_0, .int .u64 a1_1, .int .u64 a1_2, .int .i64 a1_3] 26 (0, 0)) (St BK526.out) hb); have n2_ := Aside0.mk (blk_below (g := gb527) (o := .cells #[.bool a2_0, .int .u64 a2_1, .int .u64 a2_2, .int .i64 a2_3] 26 (0, 0)) (St BK527.out) hb); have n3_ := Aside0.mk (below_step (Hb HB.out) hb); clear BK525; clear BK526; clear BK527; clear HB; have BK525 := n0_; have BK526 := n1_; have BK527 := n2_; have HB := n3_; clear n0_ n1_ n2_ n3_; (try clear hb); (try clear hb2); (try clear hk); (try clear hi); have hnb66 := NB526_527.out; have hnc66 := NB527_526.out; have hcz67_0 : w65.cell? ⟨gb526, 0, none⟩ = some (.bool a1_0) := (blk_cell BK526.out 0).trans rfl; have hcz67_1 : w65.cell? ⟨gb526, 1, none⟩ = some (.int .u64 a1_1) := (blk_cell BK526.out 1).trans rfl; have hcz67_2 : w65.cell? ⟨gb526, 2, none⟩ = some (.int .u64 a1_2) := (blk_cell BK526.out 2).trans rfl; have hcz67_3 : w65.cell? ⟨gb526, 3, none⟩ = some (.int .i64 a1_3) := (blk_cell BK526.out 3).trans rfl; have hfz67_0 := blk_frozen BK526.out 0; have hfz67_1 := blk_frozen BK526.out 1; have hfz67_2 := blk_frozen BK526.out 2; have hfz67_3 := blk_frozen BK526.out 3) | (go_at_call 14; (with_reducible refine (prefix_Valid.calls a1_0 a1_1 a1_2 a1_3 t534 _ A61.out).mono ?_); rintro e w68 ⟨rfl, hb⟩; have n0_ := Aside0.mk (blk_below (g := gb525) (o := .cells #[.bool a0_0, .int .u64 a0_1, .int .u64 a0_2, .int .i64 a0_3] 26 (0, 0)) (St BK525.out) hb); have n1_ := Aside0.mk (blk_below (g := gb526) (o := .cells #[.bool a1_0, .int .u64 a1_1, .int .u64 a1_2, .int .i64 a1_3] 26 (0, 0)) (St BK526.out) hb); have n2_ := Aside0.mk (blk_below (g := gb527) (o := .cells #[.bool a2_0, .int .u64 a2_1, .int .u64 a2_2, .int .i64 a2_3] 26 (0, 0)) (St BK527.out) hb); have n3_ := Aside0.mk (below_step (Hb HB.out) hb); clear BK525; clear BK526; clear BK527; clear HB; have BK525 := n0_; have BK526 := n1_; have BK527 := n2_; have HB := n3_; clear n0_ n1_ n2_ n3_; (try clear hb); (try clear hb2); (try clear hk); (try clear hi)))
      go_meet
      case rel => exact ⟨_, (t534), (by first | rfl | (simp; done) | (simp [*]; done)), H', ⟨by have := HJ6.out; first | omega | exact Nat.le_refl _⟩, ⟨St BK525.out⟩, ⟨St BK526.out⟩, ⟨St BK527.out⟩, ⟨Hb HB.out⟩⟩
     ·replace c60 := Bool.eq_false_iff.mpr c60
      subst c60
      have H1 : (crosswaylaw04_PrefixOrders.j1 kj6 t529 t530 false a0_0 a0_1 a0_2 a0_3 a1_0 a1_1 a1_2 a1_3 a2_0 a2_1 a2_2 a2_3) = some r := by rw [if_neg (show ¬ (false = true) by decide)] at H; exact H
      clear H
      have H := H1
      clear H1
      have H' := Aside0.mk H
      clear H
      have hnb69 := NB525_526.out
      have hnc69 := NB526_525.out
      have hnb70 := NB525_527.out
      have hnc70 := NB527_525.out
      have hcz71_0 : wc.cell? ⟨gb525, 0, none⟩ = some (.bool a0_0) := (blk_cell BK525.out 0).trans rfl
      have hcz71_1 : wc.cell? ⟨gb525, 1, none⟩ = some (.int .u64 a0_1) := (blk_cell BK525.out 1).trans rfl
      have hcz71_2 : wc.cell? ⟨gb525, 2, none⟩ = some (.int .u64 a0_2) := (blk_cell BK525.out 2).trans rfl
      have hcz71_3 : wc.cell? ⟨gb525, 3, none⟩ = some (.int .i64 a0_3) := (blk_cell BK525.out 3).trans rfl
      have hfz71_0 := blk_frozen BK525.out 0
      have hfz71_1 := blk_frozen BK525.out 1
      have hfz71_2 := blk_frozen BK525.out 2
      have hfz71_3 := blk_frozen BK525.out 3
      go_wp2_with (first | ((with_reducible refine gate_callee (f := 14) rfl ?_); refine goesL_ (some 39) rfl rfl Tryd.func14 (by kernel_rfl) rfl #[.agg #[.bool a0_0, .int .u64 a0_1, .int .u64 a0_2, .int .i64 a0_3]] rfl Ma ?_; (with_reducible refine (prefix_Valid.calls a0_0 a0_1 a0_2 a0_3 false _ A59.out).mono ?_); rintro e w72 ⟨rfl, hb⟩; refine ⟨_, rfl, ?_⟩; have n0_ := Aside0.mk (blk_below (g := gb525) (o := .cells #[.bool a0_0, .int .u64 a0_1, .int .u64 a0_2, .int .i64 a0_3] 26 (0, 0)) (St BK525.out) hb); have n1_ := Aside0.mk (blk_below (g := gb526) (o := .cells #[.bool a1_0, .int .u64 a1_1, .int .u64 a1_2, .int .i64 a1_3] 26 (0, 0)) (St BK526.out) hb); have n2_ := Aside0.mk (blk_below (g := gb527) (o := .cells #[.bool a2_0, .int .u64 a2_1, .int .u64 a2_2, .int .i64 a2_3] 26 (0, 0)) (St BK527.out) hb); have n3_ := Aside0.mk (below_step (Hb HB.out) hb); clear BK525; clear BK526; clear BK527; clear HB; have BK525 := n0_; have BK526 := n1_; have BK527 := n2_; have HB := n3_; clear n0_ n1_ n2_ n3_; (try clear hb); (try clear hb2); (try clear hk); (try clear hi)))
      go_meet
      case rel => exact ⟨_, (false), (by first | rfl | (simp; done) | (simp [*]; done)), H', ⟨by have := HJ6.out; first | omega | exact Nat.le_refl _⟩, ⟨St BK525.out⟩, ⟨St BK526.out⟩, ⟨St BK527.out⟩, ⟨Hb HB.out⟩⟩
    case rest =>
     clear HC58
     try clear c1
     try clear c2
     try clear p2
     try clear c3
     try clear c4
     try clear c5
     try clear c6
     try clear c7
     try clear c8
     try clear c9
     try clear c12
     try clear c13
     try clear c14
     try clear c15
     try clear c21
     try clear c23
     try clear c23b0
     try clear c23b1
     try clear c23b2
     try clear c24
     try clear c25
     try clear c26
     try clear c27
     try clear c31
     try clear c32
     try clear c33
     try clear c35
     try clear c40
     try clear c41
     try clear c42
     try clear c44
     try clear c49
     try clear c50
     try clear c52
     try clear c57
     try clear c60
     try clear c62
     try clear c63
     try clear c66
     try clear c69
     try clear c70
     try clear hcz14_0
     try clear hcz14_1
     try clear hcz14_2
     try clear hcz14_3
     try clear hcz16_0
     try clear hcz16_1
     try clear hcz16_2
     try clear hcz16_3
     try clear hcz18_0
     try clear hcz18_1
     try clear hcz18_2
     try clear hcz18_3
     try clear hcz19_0
     try clear hcz19_1
     try clear hcz19_2
     try clear hcz19_3
     try clear hcz26_0
     try clear hcz26_1
     try clear hcz26_2
     try clear hcz26_3
     try clear hcz28_0
     try clear hcz28_1
     try clear hcz28_2
     try clear hcz28_3
     try clear hcz34_0
     try clear hcz34_1
     try clear hcz34_2
     try clear hcz34_3
     try clear hcz36_0
     try clear hcz36_1
     try clear hcz36_2
     try clear hcz36_3
     try clear hcz38_0
     try clear hcz38_1
     try clear hcz38_2
     try clear hcz38_3
     try clear hcz43_0
     try clear hcz43_1
     try clear hcz43_2
     try clear hcz43_3
     try clear hcz45_0
     try clear hcz45_1
     try clear hcz45_2
     try clear hcz45_3
     try clear hcz47_0
     try clear hcz47_1
     try clear hcz47_2
     try clear hcz47_3
     try clear hcz51_0
     try clear hcz51_1
     try clear hcz51_2
     try clear hcz51_3
     try clear hcz53_0
     try clear hcz53_1
     try clear hcz53_2
     try clear hcz53_3
     try clear hcz55_0
     try clear hcz55_1
     try clear hcz55_2
     try clear hcz55_3
     try clear hcz64_0
     try clear hcz64_1
     try clear hcz64_2
     try clear hcz64_3
     try clear hcz67_0
     try clear hcz67_1
     try clear hcz67_2
     try clear hcz67_3
     try clear hcz71_0
     try clear hcz71_1
     try clear hcz71_2
     try clear hcz71_3
     try clear hfz14_0
     try clear hfz14_1
     try clear hfz14_2
     try clear hfz14_3
     try clear hfz16_0
     try clear hfz16_1
     try clear hfz16_2
     try clear hfz16_3
     try clear hfz18_0
     try clear hfz18_1
     try clear hfz18_2
     try clear hfz18_3
     try clear hfz19_0
     try clear hfz19_1
     try clear hfz19_2
     try clear hfz19_3
     try clear hfz26_0
     try clear hfz26_1
     try clear hfz26_2
     try clear hfz26_3
     try clear hfz28_0
     try clear hfz28_1
     try clear hfz28_2
     try clear hfz28_3
     try clear hfz34_0
     try clear hfz34_1
     try clear hfz34_2
     try clear hfz34_3
     try clear hfz36_0
     try clear hfz36_1
     try clear hfz36_2
     try clear hfz36_3
     try clear hfz38_0
     try clear hfz38_1
     try clear hfz38_2
     try clear hfz38_3
     try clear hfz43_0
     try clear hfz43_1
     try clear hfz43_2
     try clear hfz43_3
     try clear hfz45_0
     try clear hfz45_1
     try clear hfz45_2
     try clear hfz45_3
     try clear hfz47_0
     try clear hfz47_1
     try clear hfz47_2
     try clear hfz47_3
     try clear hfz51_0
     try clear hfz51_1
     try clear hfz51_2
     try clear hfz51_3
     try clear hfz53_0
     try clear hfz53_1
     try clear hfz53_2
     try clear hfz53_3
     try clear hfz55_0
     try clear hfz55_1
     try clear hfz55_2
     try clear hfz55_3
     try clear hfz64_0
     try clear hfz64_1
     try clear hfz64_2
     try clear hfz64_3
     try clear hfz67_0
     try clear hfz67_1
     try clear hfz67_2
     try clear hfz67_3
     try clear hfz71_0
     try clear hfz71_1
     try clear hfz71_2
     try clear hfz71_3
     try clear p2
     obtain ⟨kq, x10_57, rfl, HA, HJ57, BK525, BK526, BK527, HB⟩ := hcut
     cases kq with
     | zero => exact absurd HA.out (by simp [crosswaylaw04_PrefixOrders.j1])
     | succ kj57 =>
      have H := HA.out
      clear HA
      simp only [crosswaylaw04_PrefixOrders.j1] at H
      have HC73 := Aside0.mk H
      clear H
      go_upto_region 7 with (fail)
      go_cut [57] (fun v57 wc => ∃ (kq : Nat) (x57_72 : Bool), v57 = .bool x57_72 ∧ Aside0 (crosswaylaw04_PrefixOrders.j2 kq t529 t530 x57_72 a0_0 a0_1 a0_2 a0_3 a1_0 a1_1 a1_2 a1_3 a2_0 a2_1 a2_2 a2_3 = some r) ∧ Aside0 (kq ≤ kj57) ∧ Aside0 (wc.heap[gb525]? = some (.cells #[.bool a0_0, .int .u64 a0_1, .int .u64 a0_2, .int .i64 a0_3] 26 (0, 0))) ∧ Aside0 (wc.heap[gb526]? = some (.cells #[.bool a1_0, .int .u64 a1_1, .int .u64 a1_2, .int .i64 a1_3] 26 (0, 0))) ∧ Aside0 (wc.heap[gb527]? = some (.cells #[.bool a2_0, .int .u64 a2_1, .int .u64 a2_2, .int .i64 a2_3] 26 (0, 0))) ∧ Aside0 (Below w.heap.size w wc))
      case first =>
       have H := HC73.out
       clear HC73
       by_cases c74 : x10_57 = true
       ·subst c74
        have H1 : (if ((!(a0_0 == a1_0) || (!(a0_1 == a1_1) || (!(a0_2 == a1_2)))) || (!(a0_3 == a1_3))) = true then (if t529 = true then (crosswaylaw04_PrefixOrders.j2 kj57 t529 t530 false a0_0 a0_1 a0_2 a0_3 a1_0 a1_1 a1_2 a1_3 a2_0 a2_1 a2_2 a2_3) else (crosswaylaw04_PrefixOrders.j2 kj57 t529 t530 (!t530) a0_0 a0_1 a0_2 a0_3 a1_0 a1_1 a1_2 a1_3 a2_0 a2_1 a2_2 a2_3)) else (crosswaylaw04_PrefixOrders.j2 kj57 t529 t530 false a0_0 a0_1 a0_2 a0_3 a1_0 a1_1 a1_2 a1_3 a2_0 a2_1 a2_2 a2_3)) = some r := by rw [if_pos rfl] at H; exact H
        clear H
        have H := H1
        clear H1
        by_cases c75 : ((!(a0_0 == a1_0) || (!(a0_1 == a1_1) || (!(a0_2 == a1_2)))) || (!(a0_3 == a1_3))) = true
        ·rw [if_pos c75] at H
         have c75b0 : ((!(a0_0 == a1_0) || (!(a0_1 == a1_1) || (!(a0_2 == a1_2)))) || (!(a0_3 == a1_3))) = true := c75
         clear c75
         (first | rw [c75b0] | (simp only [i64_w, i32_w]; rw [c75b0]) | skip)
         by_cases c76 : t529 = true
         ·subst c76
          have H1 : (crosswaylaw04_PrefixOrders.j2 kj57 true t530 false a0_0 a0_1 a0_2 a0_3 a1_0 a1_1 a1_2 a1_3 a2_0 a2_1 a2_2 a2_3) = some r := by rw [if_pos rfl] at H; exact H
          clear H
          have H := H1
          clear H1
          have H' := Aside0.mk H
          clear H
          have hnb77 := NB525_526.out
          have hnc77 := NB526_525.out
          have hnb78 := NB525_527.out
          have hnc78 := NB527_525.out
          have hcz79_0 : wc.cell? ⟨gb525, 0, none⟩ = some (.bool a0_0) := (blk_cell BK525.out 0).trans rfl
          have hcz79_1 : wc.cell? ⟨gb525, 1, none⟩ = some (.int .u64 a0_1) := (blk_cell BK525.out 1).trans rfl
          have hcz79_2 : wc.cell? ⟨gb525, 2, none⟩ = some (.int .u64 a0_2) := (blk_cell BK525.out 2).trans rfl
          have hcz79_3 : wc.cell? ⟨gb525, 3, none⟩ = some (.int .i64 a0_3) := (blk_cell BK525.out 3).trans rfl
          have hfz79_0 := blk_frozen BK525.out 0
          have hfz79_1 := blk_frozen BK525.out 1
          have hfz79_2 := blk_frozen BK525.out 2
          have hfz79_3 := blk_frozen BK525.out 3
          have hnb80 := NB526_527.out
          have hnc80 := NB527_526.out
          have hcz81_0 : wc.cell? ⟨gb526, 0, none⟩ = some (.bool a1_0) := (blk_cell BK526.out 0).trans rfl
          have hcz81_1 : wc.cell? ⟨gb526, 1, none⟩ = some (.int .u64 a1_1) := (blk_cell BK526.out 1).trans rfl
          have hcz81_2 : wc.cell? ⟨gb526, 2, none⟩ = some (.int .u64 a1_2) := (blk_cell BK526.out 2).trans rfl
          have hcz81_3 : wc.cell? ⟨gb526, 3, none⟩ = some (.int .i64 a1_3) := (blk_cell BK526.out 3).trans rfl
          have hfz81_0 := blk_frozen BK526.out 0
          have hfz81_1 := blk_frozen BK526.out 1
          have hfz81_2 := blk_frozen BK526.out 2
          have hfz81_3 := blk_frozen BK526.out 3
          go_wp2
          go_meet
          case rel => exact ⟨_, (false), (by first | rfl | (simp; done) | (simp [*]; done)), H', ⟨by have := HJ6.out; have := HJ57.out; first | omega | exact Nat.le_refl _⟩, ⟨St BK525.out⟩, ⟨St BK526.out⟩, ⟨St BK527.out⟩, ⟨Hb HB.out⟩⟩
         ·replace c76 := Bool.eq_false_iff.mpr c76
          subst c76
          have H1 : (crosswaylaw04_PrefixOrders.j2 kj57 false t530 (!t530) a0_0 a0_1 a0_2 a0_3 a1_0 a1_1 a1_2 a1_3 a2_0 a2_1 a2_2 a2_3) = some r := by rw [if_neg (show ¬ (false = true) by decide)] at H; exact H
          clear H
          have H := H1
          clear H1
          have H' := Aside0.mk H
          clear H
          have hnb82 := NB525_526.out
          have hnc82 := NB526_525.out
          have hnb83 := NB525_527.out
          have hnc83 := NB527_525.out
          have hcz84_0 : wc.cell? ⟨gb525, 0, none⟩ = some (.bool a0_0) := (blk_cell BK525.out 0).trans rfl
          have hcz84_1 : wc.cell? ⟨gb525, 1, none⟩ = some (.int .u64 a0_1) := (blk_cell BK525.out 1).trans rfl
          have hcz84_2 : wc.cell? ⟨gb525, 2, none⟩ = some (.int .u64 a0_2) := (blk_cell BK525.out 2).trans rfl
          have hcz84_3 : wc.cell? ⟨gb525, 3, none⟩ = some (.int .i64 a0_3) := (blk_cell BK525.out 3).trans rfl
          have hfz84_0 := blk_frozen BK525.out 0
          have hfz84_1 := blk_frozen BK525.out 1
          have hfz84_2 := blk_frozen BK525.out 2
          have hfz84_3 := blk_frozen BK525.out 3
          have hnb85 := NB526_527.out
          have hnc85 := NB527_526.out
          have hcz86_0 : wc.cell? ⟨gb526, 0, none⟩ = some (.bool a1_0) := (blk_cell BK526.out 0).trans rfl
          have hcz86_1 : wc.cell? ⟨gb526, 1, none⟩ = some (.int .u64 a1_1) := (blk_cell BK526.out 1).trans rfl
          have hcz86_2 : wc.cell? ⟨gb526, 2, none⟩ = some (.int .u64 a1_2) := (blk_cell BK526.out 2).trans rfl
          have hcz86_3 : wc.cell? ⟨gb526, 3, none⟩ = some (.int .i64 a1_3) := (blk_cell BK526.out 3).trans rfl
          have hfz86_0 := blk_frozen BK526.out 0
          have hfz86_1 := blk_frozen BK526.out 1
          have hfz86_2 := blk_frozen BK526.out 2
          have hfz86_3 := blk_frozen BK526.out 3
          go_wp2
          go_meet
          case rel => exact ⟨_, (!t530), (by first | rfl | (simp; done) | (simp [*]; done)), H', ⟨by have := HJ6.out; have := HJ57.out; first | omega | exact Nat.le_refl _⟩, ⟨St BK525.out⟩, ⟨St BK526.out⟩, ⟨St BK527.out⟩, ⟨Hb HB.out⟩⟩
        ·rw [if_neg c75] at H
         have c75b0 : ((!(a0_0 == a1_0) || (!(a0_1 == a1_1) || (!(a0_2 == a1_2)))) || (!(a0_3 == a1_3))) = false := by simpa using c75
         clear c75
         (first | rw [c75b0] | (simp only [i64_w, i32_w]; rw [c75b0]) | skip)
         have H' := Aside0.mk H
         clear H
         have hnb87 := NB525_526.out
         have hnc87 := NB526_525.out
         have hnb88 := NB525_527.out
         have hnc88 := NB527_525.out
         have hcz89_0 : wc.cell? ⟨gb525, 0, none⟩ = some (.bool a0_0) := (blk_cell BK525.out 0).trans rfl
         have hcz89_1 : wc.cell? ⟨gb525, 1, none⟩ = some (.int .u64 a0_1) := (blk_cell BK525.out 1).trans rfl
         have hcz89_2 : wc.cell? ⟨gb525, 2, none⟩ = some (.int .u64 a0_2) := (blk_cell BK525.out 2).trans rfl
         have hcz89_3 : wc.cell? ⟨gb525, 3, none⟩ = some (.int .i64 a0_3) := (blk_cell BK525.out 3).trans rfl
         have hfz89_0 := blk_frozen BK525.out 0
         have hfz89_1 := blk_frozen BK525.out 1
         have hfz89_2 := blk_frozen BK525.out 2
         have hfz89_3 := blk_frozen BK525.out 3
         have hnb90 := NB526_527.out
         have hnc90 := NB527_526.out
         have hcz91_0 : wc.cell? ⟨gb526, 0, none⟩ = some (.bool a1_0) := (blk_cell BK526.out 0).trans rfl
         have hcz91_1 : wc.cell? ⟨gb526, 1, none⟩ = some (.int .u64 a1_1) := (blk_cell BK526.out 1).trans rfl
         have hcz91_2 : wc.cell? ⟨gb526, 2, none⟩ = some (.int .u64 a1_2) := (blk_cell BK526.out 2).trans rfl
         have hcz91_3 : wc.cell? ⟨gb526, 3, none⟩ = some (.int .i64 a1_3) := (blk_cell BK526.out 3).trans rfl
         have hfz91_0 := blk_frozen BK526.out 0
         have hfz91_1 := blk_frozen BK526.out 1
         have hfz91_2 := blk_frozen BK526.out 2
         have hfz91_3 := blk_frozen BK526.out 3
         go_wp2
         go_meet
         case rel => exact ⟨_, (false), (by first | rfl | (simp; done) | (simp [*]; done)), H', ⟨by have := HJ6.out; have := HJ57.out; first | omega | exact Nat.le_refl _⟩, ⟨St BK525.out⟩, ⟨St BK526.out⟩, ⟨St BK527.out⟩, ⟨Hb HB.out⟩⟩
       ·replace c74 := Bool.eq_false_iff.mpr c74
        subst c74
        have H1 : (crosswaylaw04_PrefixOrders.j2 kj57 t529 t530 false a0_0 a0_1 a0_2 a0_3 a1_0 a1_1 a1_2 a1_3 a2_0 a2_1 a2_2 a2_3) = some r := by rw [if_neg (show ¬ (false = true) by decide)] at H; exact H
        clear H
        have H := H1
        clear H1
        have H' := Aside0.mk H
        clear H
        go_wp2
        go_meet
        case rel => exact ⟨_, (false), (by first | rfl | (simp; done) | (simp [*]; done)), H', ⟨by have := HJ6.out; have := HJ57.out; first | omega | exact Nat.le_refl _⟩, ⟨St BK525.out⟩, ⟨St BK526.out⟩, ⟨St BK527.out⟩, ⟨Hb HB.out⟩⟩
      case rest =>
       clear HC73
       try clear c1
       try clear c2
       try clear p2
       try clear c3
       try clear c4
       try clear c5
       try clear c6
       try clear c7
       try clear c8
       try clear c9
       try clear c12
       try clear c13
       try clear c14
       try clear c15
       try clear c21
       try clear c23
       try clear c23b0
       try clear c23b1
       try clear c23b2
       try clear c24
       try clear c25
       try clear c26
       try clear c27
       try clear c31
       try clear c32
       try clear c33
       try clear c35
       try clear c40
       try clear c41
       try clear c42
       try clear c44
       try clear c49
       try clear c50
       try clear c52
       try clear c57
       try clear c60
       try clear c62
       try clear c63
       try clear c66
       try clear c69
       try clear c70
       try clear c74
       try clear c75
       try clear c75b0
       try clear c76
       try clear c77
       try clear c78
       try clear c80
       try clear c82
       try clear c83
       try clear c85
       try clear c87
       try clear c88
       try clear c90
       try clear hcz14_0
       try clear hcz14_1
       try clear hcz14_2
       try clear hcz14_3
       try clear hcz16_0
       try clear hcz16_1
       try clear hcz16_2
       try clear hcz16_3
       try clear hcz18_0
       try clear hcz18_1
       try clear hcz18_2
       try clear hcz18_3
       try clear hcz19_0
       try clear hcz19_1
       try clear hcz19_2
       try clear hcz19_3
       try clear hcz26_0
       try clear hcz26_1
       try clear hcz26_2
       try clear hcz26_3
       try clear hcz28_0
       try clear hcz28_1
       try clear hcz28_2
       try clear hcz28_3
       try clear hcz34_0
       try clear hcz34_1
       try clear hcz34_2
       try clear hcz34_3
       try clear hcz36_0
       try clear hcz36_1
       try clear hcz36_2
       try clear hcz36_3
       try clear hcz38_0
       try clear hcz38_1
       try clear hcz38_2
       try clear hcz38_3
       try clear hcz43_0
       try clear hcz43_1
       try clear hcz43_2
       try clear hcz43_3
       try clear hcz45_0
       try clear hcz45_1
       try clear hcz45_2
       try clear hcz45_3
       try clear hcz47_0
       try clear hcz47_1
       try clear hcz47_2
       try clear hcz47_3
       try clear hcz51_0
       try clear hcz51_1
       try clear hcz51_2
       try clear hcz51_3
       try clear hcz53_0
       try clear hcz53_1
       try clear hcz53_2
       try clear hcz53_3
       try clear hcz55_0
       try clear hcz55_1
       try clear hcz55_2
       try clear hcz55_3
       try clear hcz64_0
       try clear hcz64_1
       try clear hcz64_2
       try clear hcz64_3
       try clear hcz67_0
       try clear hcz67_1
       try clear hcz67_2
       try clear hcz67_3
       try clear hcz71_0
       try clear hcz71_1
       try clear hcz71_2
       try clear hcz71_3
       try clear hcz79_0
       try clear hcz79_1
       try clear hcz79_2
       try clear hcz79_3
       try clear hcz81_0
       try clear hcz81_1
       try clear hcz81_2
       try clear hcz81_3
       try clear hcz84_0
       try clear hcz84_1
       try clear hcz84_2
       try clear hcz84_3
       try clear hcz86_0
       try clear hcz86_1
       try clear hcz86_2
       try clear hcz86_3
       try clear hcz89_0
       try clear hcz89_1
       try clear hcz89_2
       try clear hcz89_3
       try clear hcz91_0
       try clear hcz91_1
       try clear hcz91_2
       try clear hcz91_3
       try clear hfz14_0
       try clear hfz14_1
       try clear hfz14_2
       try clear hfz14_3
       try clear hfz16_0
       try clear hfz16_1
       try clear hfz16_2
       try clear hfz16_3
       try clear hfz18_0
       try clear hfz18_1
       try clear hfz18_2
       try clear hfz18_3
       try clear hfz19_0
       try clear hfz19_1
       try clear hfz19_2
       try clear hfz19_3
       try clear hfz26_0
       try clear hfz26_1
       try clear hfz26_2
       try clear hfz26_3
       try clear hfz28_0
       try clear hfz28_1
       try clear hfz28_2
       try clear hfz28_3
       try clear hfz34_0
       try clear hfz34_1
       try clear hfz34_2
       try clear hfz34_3
       try clear hfz36_0
       try clear hfz36_1
       try clear hfz36_2
       try clear hfz36_3
       try clear hfz38_0
       try clear hfz38_1
       try clear hfz38_2
       try clear hfz38_3
       try clear hfz43_0
       try clear hfz43_1
       try clear hfz43_2
       try clear hfz43_3
       try clear hfz45_0
       try clear hfz45_1
       try clear hfz45_2
       try clear hfz45_3
       try clear hfz47_0
       try clear hfz47_1
       try clear hfz47_2
       try clear hfz47_3
       try clear hfz51_0
       try clear hfz51_1
       try clear hfz51_2
       try clear hfz51_3
       try clear hfz53_0
       try clear hfz53_1
       try clear hfz53_2
       try clear hfz53_3
       try clear hfz55_0
       try clear hfz55_1
       try clear hfz55_2
       try clear hfz55_3
       try clear hfz64_0
       try clear hfz64_1
       try clear hfz64_2
       try clear hfz64_3
       try clear hfz67_0
       try clear hfz67_1
       try clear hfz67_2
       try clear hfz67_3
       try clear hfz71_0
       try clear hfz71_1
       try clear hfz71_2
       try clear hfz71_3
       try clear hfz79_0
       try clear hfz79_1
       try clear hfz79_2
       try clear hfz79_3
       try clear hfz81_0
       try clear hfz81_1
       try clear hfz81_2
       try clear hfz81_3
       try clear hfz84_0
       try clear hfz84_1
       try clear hfz84_2
       try clear hfz84_3
       try clear hfz86_0
       try clear hfz86_1
       try clear hfz86_2
       try clear hfz86_3
       try clear hfz89_0
       try clear hfz89_1
       try clear hfz89_2
       try clear hfz89_3
       try clear hfz91_0
       try clear hfz91_1
       try clear hfz91_2
       try clear hfz91_3
       try clear p2
       obtain ⟨kq, x57_72, rfl, HA, HJ72, BK525, BK526, BK527, HB⟩ := hcut
       cases kq with
       | zero => exact absurd HA.out (by simp [crosswaylaw04_PrefixOrders.j2])
       | succ kj72 =>
        have H := HA.out
        clear HA
        simp only [crosswaylaw04_PrefixOrders.j2] at H
        by_cases c92 : x57_72 = true
        ·subst c92
         have H1 : (none) = some r := by rw [if_pos rfl] at H; exact H
         clear H
         have H := H1
         clear H1
         exact absurd H (by simp)
        ·replace c92 := Bool.eq_false_iff.mpr c92
         subst c92
         have H1 : (if t529 = true then ((prefix_Less.f kj72 a1_0 a1_1 a1_2 a1_3 a2_0 a2_1 a2_2 a2_3).bind fun t535 => (if t535 = true then ((prefix_Less.f kj72 a0_0 a0_1 a0_2 a0_3 a2_0 a2_1 a2_2 a2_3).bind fun t536 => (if t536 = true then ((prefix_Covers.f a0_0 a0_1 a0_2 a0_3 a1_0 a1_1 a1_2 a1_3).bind fun t537 => (if t537 = true then (some (!t530)) else (some (!false)))) else (none))) else ((prefix_Covers.f a0_0 a0_1 a0_2 a0_3 a1_0 a1_1 a1_2 a1_3).bind fun t538 => (if t538 = true then (some (!t530)) else (some (!false)))))) else ((prefix_Covers.f a0_0 a0_1 a0_2 a0_3 a1_0 a1_1 a1_2 a1_3).bind fun t539 => (if t539 = true then (some (!t530)) else (some (!false))))) = some r := by rw [if_neg (show ¬ (false = true) by decide)] at H; exact H
         clear H
         have H := H1
         clear H1
         by_cases c93 : t529 = true
         ·subst c93
          have H1 : ((prefix_Less.f kj72 a1_0 a1_1 a1_2 a1_3 a2_0 a2_1 a2_2 a2_3).bind fun t535 => (if t535 = true then ((prefix_Less.f kj72 a0_0 a0_1 a0_2 a0_3 a2_0 a2_1 a2_2 a2_3).bind fun t536 => (if t536 = true then ((prefix_Covers.f a0_0 a0_1 a0_2 a0_3 a1_0 a1_1 a1_2 a1_3).bind fun t537 => (if t537 = true then (some (!t530)) else (some (!false)))) else (none))) else ((prefix_Covers.f a0_0 a0_1 a0_2 a0_3 a1_0 a1_1 a1_2 a1_3).bind fun t538 => (if t538 = true then (some (!t530)) else (some (!false)))))) = some r := by rw [if_pos rfl] at H; exact H
          clear H
          have H := H1
          clear H1
          replace H := Option.bind_eq_some_iff.mp H
          obtain ⟨t535, A940, H⟩ := H
          replace H : (if t535 = true then ((prefix_Less.f kj72 a0_0 a0_1 a0_2 a0_3 a2_0 a2_1 a2_2 a2_3).bind fun t536 => (if t536 = true then ((prefix_Covers.f a0_0 a0_1 a0_2 a0_3 a1_0 a1_1 a1_2 a1_3).bind fun t537 => (if t537 = true then (some (!t530)) else (some (!false)))) else (none))) else ((prefix_Covers.f a0_0 a0_1 a0_2 a0_3 a1_0 a1_1 a1_2 a1_3).bind fun t538 => (if t538 = true then (some (!t530)) else (some (!false))))) = some r := H
          have A94 := Aside0.mk A940
          clear A940
          by_cases c95 : t535 = true
          ·subst c95
           have H1 : ((prefix_Less.f kj72 a0_0 a0_1 a0_2 a0_3 a2_0 a2_1 a2_2 a2_3).bind fun t536 => (if t536 = true then ((prefix_Covers.f a0_0 a0_1 a0_2 a0_3 a1_0 a1_1 a1_2 a1_3).bind fun t537 => (if t537 = true then (some (!t530)) else (some (!false)))) else (none))) = some r := by rw [if_pos rfl] at H; exact H
           clear H
           have H := H1
           clear H1
           replace H := Option.bind_eq_some_iff.mp H
           obtain ⟨t536, A960, H⟩ := H
           replace H : (if t536 = true then ((prefix_Covers.f a0_0 a0_1 a0_2 a0_3 a1_0 a1_1 a1_2 a1_3).bind fun t537 => (if t537 = true then (some (!t530)) else (some (!false)))) else (none)) = some r := H
           have A96 := Aside0.mk A960
           clear A960
           by_cases c97 : t536 = true
           ·subst c97
            have H1 : ((prefix_Covers.f a0_0 a0_1 a0_2 a0_3 a1_0 a1_1 a1_2 a1_3).bind fun t537 => (if t537 = true then (some (!t530)) else (some (!false)))) = some r := by rw [if_pos rfl] at H; exact H
            clear H
            have H := H1
            clear H1
            replace H := Option.bind_eq_some_iff.mp H
            obtain ⟨t537, A980, H⟩ := H
            replace H : (if t537 = true then (some (!t530)) else (some (!false))) = some r := H
            have A98 := Aside0.mk A980
            clear A980
            by_cases c99 : t537 = true
            ·subst c99
             have H1 : (some (!t530)) = some r := by rw [if_pos rfl] at H; exact H
             clear H
             have H := H1
             clear H1
             obtain rfl := Option.some.inj H
             have hnb100 := NB526_525.out
             have hnc100 := NB525_526.out
             have hnb101 := NB526_527.out
             have hnc101 := NB527_526.out
             have hcz102_0 : wc.cell? ⟨gb526, 0, none⟩ = some (.bool a1_0) := (blk_cell BK526.out 0).trans rfl
             have hcz102_1 : wc.cell? ⟨gb526, 1, none⟩ = some (.int .u64 a1_1) := (blk_cell BK526.out 1).trans rfl
             have hcz102_2 : wc.cell? ⟨gb526, 2, none⟩ = some (.int .u64 a1_2) := (blk_cell BK526.out 2).trans rfl
             have hcz102_3 : wc.cell? ⟨gb526, 3, none⟩ = some (.int .i64 a1_3) := (blk_cell BK526.out 3).trans rfl
             have hfz102_0 := blk_frozen BK526.out 0
             have hfz102_1 := blk_frozen BK526.out 1
             have hfz102_2 := blk_frozen BK526.out 2
             have hfz102_3 := blk_frozen BK526.out 3
             have hnb103 := NB527_525.out
             have hnc103 := NB525_527.out
             have hcz104_0 : wc.cell? ⟨gb527, 0, none⟩ = some (.bool a2_0) := (blk_cell BK527.out 0).trans rfl
             have hcz104_1 : wc.cell? ⟨gb527, 1, none⟩ = some (.int .u64 a2_1) := (blk_cell BK527.out 1).trans rfl
             have hcz104_2 : wc.cell? ⟨gb527, 2, none⟩ = some (.int .u64 a2_2) := (blk_cell BK527.out 2).trans rfl
             have hcz104_3 : wc.cell? ⟨gb527, 3, none⟩ = some (.int .i64 a2_3) := (blk_cell BK527.out 3).trans rfl
             have hfz104_0 := blk_frozen BK527.out 0
             have hfz104_1 := blk_frozen BK527.out 1
             have hfz104_2 := blk_frozen BK527.out 2
             have hfz104_3 := blk_frozen BK527.out 3
             go_wp2_with (first | (go_at_call 26; (with_reducible refine (prefix_Less.calls kj72 a1_0 a1_1 a1_2 a1_3 a2_0 a2_1 a2_2 a2_3 true _ A94.out).mono ?_); rintro e w105 ⟨rfl, hb⟩; have n0_ := Aside0.mk (blk_below (g := gb525) (o := .cells #[.bool a0_0, .int .u64 a0_1, .int .u64 a0_2, .int .i64 a0_3] 26 (0, 0)) (St BK525.out) hb); have n1_ := Aside0.mk (blk_below (g := gb526) (o := .cells #[.bool a1_0, .int .u64 a1_1, .int .u64 a1_2, .int .i64 a1_3] 26 (0, 0)) (St BK526.out) hb); have n2_ := Aside0.mk (blk_below (g := gb527) (o := .cells #[.bool a2_0, .int .u64 a2_1, .int .u64 a2_2, .int .i64 a2_3] 26 (0, 0)) (St BK527.out) hb); have n3_ := Aside0.mk (below_step (Hb HB.out) hb); clear BK525; clear BK526; clear BK527; clear HB; have BK525 := n0_; have BK526 := n1_; have BK527 := n2_; have HB := n3_; clear n0_ n1_ n2_ n3_; (try clear hb); (try clear hb2); (try clear hk); (try clear hi); have hcz106_0 : w105.cell? ⟨gb525, 0, none⟩ = some (.bool a0_0) := (blk_cell BK525.out 0).trans rfl; have hcz106_1 : w105.cell? ⟨gb525, 1, none⟩ = some (.int .u64 a0_1) := (blk_cell BK525.out 1).trans rfl; have hcz106_2 : w105.cell? ⟨gb525, 2, none⟩ = some (.int .u64 a0_2) := (blk_cell BK525.out 2).trans rfl; have hcz106_3 : w105.cell? ⟨gb525, 3, none⟩ = some (.int .i64 a0_3) := (blk_cell BK525.out 3).trans rfl; have hfz106_0 := blk_frozen BK525.out 0; have hfz106_1 := blk_frozen BK525.out 1; have hfz106_2 := blk_frozen BK525.out 2; have hfz106_3 := blk_frozen BK525.out 3; have hcz107_0 : w105.cell? ⟨gb527, 0, none⟩ = some (.bool a2_0) := (blk_cell BK527.out 0).trans rfl; have hcz107_1 : w105.cell? ⟨gb527, 1, none⟩ = some (.int .u64 a2_1) := (blk_cell BK527.out 1).trans rfl; have hcz107_2 : w105.cell? ⟨gb527, 2, none⟩ = some (.int .u64 a2_2) := (blk_cell BK527.out 2).trans rfl; have hcz107_3 : w105.cell? ⟨gb527, 3, none⟩ = some (.int .i64 a2_3) := (blk_cell BK527.out 3).trans rfl; have hfz107_0 := blk_frozen BK527.out 0; have hfz107_1 := blk_frozen BK527.out 1; have hfz107_2 := blk_frozen BK527.out 2; have hfz107_3 := blk_frozen BK527.out 3) | (go_at_call 26; (with_reducible refine (prefix_Less.calls kj72 a0_0 a0_1 a0_2 a0_3 a2_0 a2_1 a2_2 a2_3 true _ A96.out).mono ?_); rintro e w108 ⟨rfl, hb⟩; have n0_ := Aside0.mk (blk_below (g := gb525) (o := .cells #[.bool a0_0, .int .u64 a0_1, .int .u64 a0_2, .int .i64 a0_3] 26 (0, 0)) (St BK525.out) hb); have n1_ := Aside0.mk (blk_below (g := gb526) (o := .cells #[.bool a1_0, .int .u64 a1_1, .int .u64 a1_2, .int .i64 a1_3] 26 (0, 0)) (St BK526.out) hb); have n2_ := Aside0.mk (blk_below (g := gb527) (o := .cells #[.bool a2_0, .int .u64 a2_1, .int .u64 a2_2, .int .i64 a2_3] 26 (0, 0)) (St BK527.out) hb); have n3_ := Aside0.mk (below_step (Hb HB.out) hb); clear BK525; clear BK526; clear BK527; clear HB; have BK525 := n0_; have BK526 := n1_; have BK527 := n2_; have HB := n3_; clear n0_ n1_ n2_ n3_; (try clear hb); (try clear hb2); (try clear hk); (try clear hi); have hcz109_0 : w108.cell? ⟨gb525, 0, none⟩ = some (.bool a0_0) := (blk_cell BK525.out 0).trans rfl; have hcz109_1 : w108.cell? ⟨gb525, 1, none⟩ = some (.int .u64 a0_1) := (blk_cell BK525.out 1).trans rfl; have hcz109_2 : w108.cell? ⟨gb525, 2, none⟩ = some (.int .u64 a0_2) := (blk_cell BK525.out 2).trans rfl; have hcz109_3 : w108.cell? ⟨gb525, 3, none⟩ = some (.int .i64 a0_3) := (blk_cell BK525.out 3).trans rfl; have hfz109_0 := blk_frozen BK525.out 0; have hfz109_1 := blk_frozen BK525.out 1; have hfz109_2 := blk_frozen BK525.out 2; have hfz109_3 := blk_frozen BK525.out 3; have hcz110_0 : w108.cell? ⟨gb526, 0, none⟩ = some (.bool a1_0) := (blk_cell BK526.out 0).trans rfl; have hcz110_1 : w108.cell? ⟨gb526, 1, none⟩ = some (.int .u64 a1_1) := (blk_cell BK526.out 1).trans rfl; have hcz110_2 : w108.cell? ⟨gb526, 2, none⟩ = some (.int .u64 a1_2) := (blk_cell BK526.out 2).trans rfl; have hcz110_3 : w108.cell? ⟨gb526, 3, none⟩ = some (.int .i64 a1_3) := (blk_cell BK526.out 3).trans rfl; have hfz110_0 := blk_frozen BK526.out 0; have hfz110_1 := blk_frozen BK526.out 1; have hfz110_2 := blk_frozen BK526.out 2; have hfz110_3 := blk_frozen BK526.out 3) | (go_at_call 18; (with_reducible refine (prefix_Covers.calls a0_0 a0_1 a0_2 a0_3 a1_0 a1_1 a1_2 a1_3 true _ A98.out).mono ?_); rintro e w111 ⟨rfl, hb⟩; have n0_ := Aside0.mk (blk_below (g := gb525) (o := .cells #[.bool a0_0, .int .u64 a0_1, .int .u64 a0_2, .int .i64 a0_3] 26 (0, 0)) (St BK525.out) hb); have n1_ := Aside0.mk (blk_below (g := gb526) (o := .cells #[.bool a1_0, .int .u64 a1_1, .int .u64 a1_2, .int .i64 a1_3] 26 (0, 0)) (St BK526.out) hb); have n2_ := Aside0.mk (blk_below (g := gb527) (o := .cells #[.bool a2_0, .int .u64 a2_1, .int .u64 a2_2, .int .i64 a2_3] 26 (0, 0)) (St BK527.out) hb); have n3_ := Aside0.mk (below_step (Hb HB.out) hb); clear BK525; clear BK526; clear BK527; clear HB; have BK525 := n0_; have BK526 := n1_; have BK527 := n2_; have HB := n3_; clear n0_ n1_ n2_ n3_; (try clear hb); (try clear hb2); (try clear hk); (try clear hi)))
             go_ret
             exact ⟨by first | rfl | (simp [errW_none, errW_some] <;> rfl) | (simp [*, errW_none, errW_some] <;> rfl), Hb HB.out⟩
            ·replace c99 := Bool.eq_false_iff.mpr c99
             subst c99
             have H1 : (some (!false)) = some r := by rw [if_neg (show ¬ (false = true) by decide)] at H; exact H
             clear H
             have H := H1
             clear H1
             obtain rfl := Option.some.inj H
             have hnb112 := NB526_525.out
             have hnc112 := NB525_526.out
             have hnb113 := NB526_527.out
             have hnc113 := NB527_526.out
             have hcz114_0 : wc.cell? ⟨gb526, 0, none⟩ = some (.bool a1_0) := (blk_cell BK526.out 0).trans rfl
             have hcz114_1 : wc.cell? ⟨gb526, 1, none⟩ = some (.int .u64 a1_1) := (blk_cell BK526.out 1).trans rfl
             have hcz114_2 : wc.cell? ⟨gb526, 2, none⟩ = some (.int .u64 a1_2) := (blk_cell BK526.out 2).trans rfl
             have hcz114_3 : wc.cell? ⟨gb526, 3, none⟩ = some (.int .i64 a1_3) := (blk_cell BK526.out 3).trans rfl
             have hfz114_0 := blk_frozen BK526.out 0
             have hfz114_1 := blk_frozen BK526.out 1
             have hfz114_2 := blk_frozen BK526.out 2
             have hfz114_3 := blk_frozen BK526.out 3
             have hnb115 := NB527_525.out
             have hnc115 := NB525_527.out
             have hcz116_0 : wc.cell? ⟨gb527, 0, none⟩ = some (.bool a2_0) := (blk_cell BK527.out 0).trans rfl
             have hcz116_1 : wc.cell? ⟨gb527, 1, none⟩ = some (.int .u64 a2_1) := (blk_cell BK527.out 1).trans rfl
             have hcz116_2 : wc.cell? ⟨gb527, 2, none⟩ = some (.int .u64 a2_2) := (blk_cell BK527.out 2).trans rfl
             have hcz116_3 : wc.cell? ⟨gb527, 3, none⟩ = some (.int .i64 a2_3) := (blk_cell BK527.out 3).trans rfl
             have hfz116_0 := blk_frozen BK527.out 0
             have hfz116_1 := blk_frozen BK527.out 1
             have hfz116_2 := blk_frozen BK527.out 2
             have hfz116_3 := blk_frozen BK527.out 3
             go_wp2_with (first | (go_at_call 26; (with_reducible refine (prefix_Less.calls kj72 a1_0 a1_1 a1_2 a1_3 a2_0 a2_1 a2_2 a2_3 true _ A94.out).mono ?_); rintro e w117 ⟨rfl, hb⟩; have n0_ := Aside0.mk (blk_below (g := gb525) (o := .cells #[.bool a0_0, .int .u64 a0_1, .int .u64 a0_2, .int .i64 a0_3] 26 (0, 0)) (St BK525.out) hb); have n1_ := Aside0.mk (blk_below (g := gb526) (o := .cells #[.bool a1_0, .int .u64 a1_1, .int .u64 a1_2, .int .i64 a1_3] 26 (0, 0)) (St BK526.out) hb); have n2_ := Aside0.mk (blk_below (g := gb527) (o := .cells #[.bool a2_0, .int .u64 a2_1, .int .u64 a2_2, .int .i64 a2_3] 26 (0, 0)) (St BK527.out) hb); have n3_ := Aside0.mk (below_step (Hb HB.out) hb); clear BK525; clear BK526; clear BK527; clear HB; have BK525 := n0_; have BK526 := n1_; have BK527 := n2_; have HB := n3_; clear n0_ n1_ n2_ n3_; (try clear hb); (try clear hb2); (try clear hk); (try clear hi); have hcz118_0 : w117.cell? ⟨gb525, 0, none⟩ = some (.bool a0_0) := (blk_cell BK525.out 0).trans rfl; have hcz118_1 : w117.cell? ⟨gb525, 1, none⟩ = some (.int .u64 a0_1) := (blk_cell BK525.out 1).trans rfl; have hcz118_2 : w117.cell? ⟨gb525, 2, none⟩ = some (.int .u64 a0_2) := (blk_cell BK525.out 2).trans rfl; have hcz118_3 : w117.cell? ⟨gb525, 3, none⟩ = some (.int .i64 a0_3) := (blk_cell BK525.out 3).trans rfl; have hfz118_0 := blk_frozen BK525.out 0; have hfz118_1 := blk_frozen BK525.out 1; have hfz118_2 := blk_frozen BK525.out 2; have hfz118_3 := blk_frozen BK525.out 3; have hcz119_0 : w117.cell? ⟨gb527, 0, none⟩ = some (.bool a2_0) := (blk_cell BK527.out 0).trans rfl; have hcz119_1 : w117.cell? ⟨gb527, 1, none⟩ = some (.int .u64 a2_1) := (blk_cell BK527.out 1).trans rfl; have hcz119_2 : w117.cell? ⟨gb527, 2, none⟩ = some (.int .u64 a2_2) := (blk_cell BK527.out 2).trans rfl; have hcz119_3 : w117.cell? ⟨gb527, 3, none⟩ = some (.int .i64 a2_3) := (blk_cell BK527.out 3).trans rfl; have hfz119_0 := blk_frozen BK527.out 0; have hfz119_1 := blk_frozen BK527.out 1; have hfz119_2 := blk_frozen BK527.out 2; have hfz119_3 := blk_frozen BK527.out 3) | (go_at_call 26; (with_reducible refine (prefix_Less.calls kj72 a0_0 a0_1 a0_2 a0_3 a2_0 a2_1 a2_2 a2_3 true _ A96.out).mono ?_); rintro e w120 ⟨rfl, hb⟩; have n0_ := Aside0.mk (blk_below (g := gb525) (o := .cells #[.bool a0_0, .int .u64 a0_1, .int .u64 a0_2, .int .i64 a0_3] 26 (0, 0)) (St BK525.out) hb); have n1_ := Aside0.mk (blk_below (g := gb526) (o := .cells #[.bool a1_0, .int .u64 a1_1, .int .u64 a1_2, .int .i64 a1_3] 26 (0, 0)) (St BK526.out) hb); have n2_ := Aside0.mk (blk_below (g := gb527) (o := .cells #[.bool a2_0, .int .u64 a2_1, .int .u64 a2_2, .int .i64 a2_3] 26 (0, 0)) (St BK527.out) hb); have n3_ := Aside0.mk (below_step (Hb HB.out) hb); clear BK525; clear BK526; clear BK527; clear HB; have BK525 := n0_; have BK526 := n1_; have BK527 := n2_; have HB := n3_; clear n0_ n1_ n2_ n3_; (try clear hb); (try clear hb2); (try clear hk); (try clear hi); have hcz121_0 : w120.cell? ⟨gb525, 0, none⟩ = some (.bool a0_0) := (blk_cell BK525.out 0).trans rfl; have hcz121_1 : w120.cell? ⟨gb525, 1, none⟩ = some (.int .u64 a0_1) := (blk_cell BK525.out 1).trans rfl; have hcz121_2 : w120.cell? ⟨gb525, 2, none⟩ = some (.int .u64 a0_2) := (blk_cell BK525.out 2).trans rfl; have hcz121_3 : w120.cell? ⟨gb525, 3, none⟩ = some (.int .i64 a0_3) := (blk_cell BK525.out 3).trans rfl; have hfz121_0 := blk_frozen BK525.out 0; have hfz121_1 := blk_frozen BK525.out 1; have hfz121_2 := blk_frozen BK525.out 2; have hfz121_3 := blk_frozen BK525.out 3; have hcz122_0 : w120.cell? ⟨gb526, 0, none⟩ = some (.bool a1_0) := (blk_cell BK526.out 0).trans rfl; have hcz122_1 : w120.cell? ⟨gb526, 1, none⟩ = some (.int .u64 a1_1) := (blk_cell BK526.out 1).trans rfl; have hcz122_2 : w120.cell? ⟨gb526, 2, none⟩ = some (.int .u64 a1_2) := (blk_cell BK526.out 2).trans rfl; have hcz122_3 : w120.cell? ⟨gb526, 3, none⟩ = some (.int .i64 a1_3) := (blk_cell BK526.out 3).trans rfl; have hfz122_0 := blk_frozen BK526.out 0; have hfz122_1 := blk_frozen BK526.out 1; have hfz122_2 := blk_frozen BK526.out 2; have hfz122_3 := blk_frozen BK526.out 3) | (go_at_call 18; (with_reducible refine (prefix_Covers.calls a0_0 a0_1 a0_2 a0_3 a1_0 a1_1 a1_2 a1_3 false _ A98.out).mono ?_); rintro e w123 ⟨rfl, hb⟩; have n0_ := Aside0.mk (blk_below (g := gb525) (o := .cells #[.bool a0_0, .int .u64 a0_1, .int .u64 a0_2, .int .i64 a0_3] 26 (0, 0)) (St BK525.out) hb); have n1_ := Aside0.mk (blk_below (g := gb526) (o := .cells #[.bool a1_0, .int .u64 a1_1, .int .u64 a1_2, .int .i64 a1_3] 26 (0, 0)) (St BK526.out) hb); have n2_ := Aside0.mk (blk_below (g := gb527) (o := .cells #[.bool a2_0, .int .u64 a2_1, .int .u64 a2_2, .int .i64 a2_3] 26 (0, 0)) (St BK527.out) hb); have n3_ := Aside0.mk (below_step (Hb HB.out) hb); clear BK525; clear BK526; clear BK527; clear HB; have BK525 := n0_; have BK526 := n1_; have BK527 := n2_; have HB := n3_; clear n0_ n1_ n2_ n3_; (try clear hb); (try clear hb2); (try clear hk); (try clear hi)))
             go_ret
             exact ⟨by first | rfl | (simp [errW_none, errW_some] <;> rfl) | (simp [*, errW_none, errW_some] <;> rfl), Hb HB.out⟩
           ·replace c97 := Bool.eq_false_iff.mpr c97
            subst c97
            have H1 : (none) = some r := by rw [if_neg (show ¬ (false = true) by decide)] at H; exact H
            clear H
            have H := H1
            clear H1
            exact absurd H (by simp)
          ·replace c95 := Bool.eq_false_iff.mpr c95
           subst c95
           have H1 : ((prefix_Covers.f a0_0 a0_1 a0_2 a0_3 a1_0 a1_1 a1_2 a1_3).bind fun t538 => (if t538 = true then (some (!t530)) else (some (!false)))) = some r := by rw [if_neg (show ¬ (false = true) by decide)] at H; exact H
           clear H
           have H := H1
           clear H1
           replace H := Option.bind_eq_some_iff.mp H
           obtain ⟨t538, A1240, H⟩ := H
           replace H : (if t538 = true then (some (!t530)) else (some (!false))) = some r := H
           have A124 := Aside0.mk A1240
           clear A1240
           by_cases c125 : t538 = true
           ·subst c125
            have H1 : (some (!t530)) = some r := by rw [if_pos rfl] at H; exact H
            clear H
            have H := H1
            clear H1
            obtain rfl := Option.some.inj H
            have hnb126 := NB526_525.out
            have hnc126 := NB525_526.out
            have hnb127 := NB526_527.out
            have hnc127 := NB527_526.out
            have hcz128_0 : wc.cell? ⟨gb526, 0, none⟩ = some (.bool a1_0) := (blk_cell BK526.out 0).trans rfl
            have hcz128_1 : wc.cell? ⟨gb526, 1, none⟩ = some (.int .u64 a1_1) := (blk_cell BK526.out 1).trans rfl
            have hcz128_2 : wc.cell? ⟨gb526, 2, none⟩ = some (.int .u64 a1_2) := (blk_cell BK526.out 2).trans rfl
            have hcz128_3 : wc.cell? ⟨gb526, 3, none⟩ = some (.int .i64 a1_3) := (blk_cell BK526.out 3).trans rfl
            have hfz128_0 := blk_frozen BK526.out 0
            have hfz128_1 := blk_frozen BK526.out 1
            have hfz128_2 := blk_frozen BK526.out 2
            have hfz128_3 := blk_frozen BK526.out 3
            have hnb129 := NB527_525.out
            have hnc129 := NB525_527.out
            have hcz130_0 : wc.cell? ⟨gb527, 0, none⟩ = some (.bool a2_0) := (blk_cell BK527.out 0).trans rfl
            have hcz130_1 : wc.cell? ⟨gb527, 1, none⟩ = some (.int .u64 a2_1) := (blk_cell BK527.out 1).trans rfl
            have hcz130_2 : wc.cell? ⟨gb527, 2, none⟩ = some (.int .u64 a2_2) := (blk_cell BK527.out 2).trans rfl
            have hcz130_3 : wc.cell? ⟨gb527, 3, none⟩ = some (.int .i64 a2_3) := (blk_cell BK527.out 3).trans rfl
            have hfz130_0 := blk_frozen BK527.out 0
            have hfz130_1 := blk_frozen BK527.out 1
            have hfz130_2 := blk_frozen BK527.out 2
            have hfz130_3 := blk_frozen BK527.out 3
            go_wp2_with (first | (go_at_call 26; (with_reducible refine (prefix_Less.calls kj72 a1_0 a1_1 a1_2 a1_3 a2_0 a2_1 a2_2 a2_3 false _ A94.out).mono ?_); rintro e w131 ⟨rfl, hb⟩; have n0_ := Aside0.mk (blk_below (g := gb525) (o := .cells #[.bool a0_0, .int .u64 a0_1, .int .u64 a0_2, .int .i64 a0_3] 26 (0, 0)) (St BK525.out) hb); have n1_ := Aside0.mk (blk_below (g := gb526) (o := .cells #[.bool a1_0, .int .u64 a1_1, .int .u64 a1_2, .int .i64 a1_3] 26 (0, 0)) (St BK526.out) hb); have n2_ := Aside0.mk (blk_below (g := gb527) (o := .cells #[.bool a2_0, .int .u64 a2_1, .int .u64 a2_2, .int .i64 a2_3] 26 (0, 0)) (St BK527.out) hb); have n3_ := Aside0.mk (below_step (Hb HB.out) hb); clear BK525; clear BK526; clear BK527; clear HB; have BK525 := n0_; have BK526 := n1_; have BK527 := n2_; have HB := n3_; clear n0_ n1_ n2_ n3_; (try clear hb); (try clear hb2); (try clear hk); (try clear hi); have hcz132_0 : w131.cell? ⟨gb525, 0, none⟩ = some (.bool a0_0) := (blk_cell BK525.out 0).trans rfl; have hcz132_1 : w131.cell? ⟨gb525, 1, none⟩ = some (.int .u64 a0_1) := (blk_cell BK525.out 1).trans rfl; have hcz132_2 : w131.cell? ⟨gb525, 2, none⟩ = some (.int .u64 a0_2) := (blk_cell BK525.out 2).trans rfl; have hcz132_3 : w131.cell? ⟨gb525, 3, none⟩ = some (.int .i64 a0_3) := (blk_cell BK525.out 3).trans rfl; have hfz132_0 := blk_frozen BK525.out 0; have hfz132_1 := blk_frozen BK525.out 1; have hfz132_2 := blk_frozen BK525.out 2; have hfz132_3 := blk_frozen BK525.out 3; have hcz133_0 : w131.cell? ⟨gb526, 0, none⟩ = some (.bool a1_0) := (blk_cell BK526.out 0).trans rfl; have hcz133_1 : w131.cell? ⟨gb526, 1, none⟩ = some (.int .u64 a1_1) := (blk_cell BK526.out 1).trans rfl; have hcz133_2 : w131.cell? ⟨gb526, 2, none⟩ = some (.int .u64 a1_2) := (blk_cell BK526.out 2).trans rfl; have hcz133_3 : w131.cell? ⟨gb526, 3, none⟩ = some (.int .i64 a1_3) := (blk_cell BK526.out 3).trans rfl; have hfz133_0 := blk_frozen BK526.out 0; have hfz133_1 := blk_frozen BK526.out 1; have hfz133_2 := blk_frozen BK526.out 2; have hfz133_3 := blk_frozen BK526.out 3) | (go_at_call 18; (with_reducible refine (prefix_Covers.calls a0_0 a0_1 a0_2 a0_3 a1_0 a1_1 a1_2 a1_3 true _ A124.out).mono ?_); rintro e w134 ⟨rfl, hb⟩; have n0_ := Aside0.mk (blk_below (g := gb525) (o := .cells #[.bool a0_0, .int .u64 a0_1, .int .u64 a0_2, .int .i64 a0_3] 26 (0, 0)) (St BK525.out) hb); have n1_ := Aside0.mk (blk_below (g := gb526) (o := .cells #[.bool a1_0, .int .u64 a1_1, .int .u64 a1_2, .int .i64 a1_3] 26 (0, 0)) (St BK526.out) hb); have n2_ := Aside0.mk (blk_below (g := gb527) (o := .cells #[.bool a2_0, .int .u64 a2_1, .int .u64 a2_2, .int .i64 a2_3] 26 (0, 0)) (St BK527.out) hb); have n3_ := Aside0.mk (below_step (Hb HB.out) hb); clear BK525; clear BK526; clear BK527; clear HB; have BK525 := n0_; have BK526 := n1_; have BK527 := n2_; have HB := n3_; clear n0_ n1_ n2_ n3_; (try clear hb); (try clear hb2); (try clear hk); (try clear hi)))
            go_ret
            exact ⟨by first | rfl | (simp [errW_none, errW_some] <;> rfl) | (simp [*, errW_none, errW_some] <;> rfl), Hb HB.out⟩
           ·replace c125 := Bool.eq_false_iff.mpr c125
            subst c125
            have H1 : (some (!false)) = some r := by rw [if_neg (show ¬ (false = true) by decide)] at H; exact H
            clear H
            have H := H1
            clear H1
            obtain rfl := Option.some.inj H
            have hnb135 := NB526_525.out
            have hnc135 := NB525_526.out
            have hnb136 := NB526_527.out
            have hnc136 := NB527_526.out
            have hcz137_0 : wc.cell? ⟨gb526, 0, none⟩ = some (.bool a1_0) := (blk_cell BK526.out 0).trans rfl
            have hcz137_1 : wc.cell? ⟨gb526, 1, none⟩ = some (.int .u64 a1_1) := (blk_cell BK526.out 1).trans rfl
            have hcz137_2 : wc.cell? ⟨gb526, 2, none⟩ = some (.int .u64 a1_2) := (blk_cell BK526.out 2).trans rfl
            have hcz137_3 : wc.cell? ⟨gb526, 3, none⟩ = some (.int .i64 a1_3) := (blk_cell BK526.out 3).trans rfl
            have hfz137_0 := blk_frozen BK526.out 0
            have hfz137_1 := blk_frozen BK526.out 1
            have hfz137_2 := blk_frozen BK526.out 2
            have hfz137_3 := blk_frozen BK526.out 3
            have hnb138 := NB527_525.out
            have hnc138 := NB525_527.out
            have hcz139_0 : wc.cell? ⟨gb527, 0, none⟩ = some (.bool a2_0) := (blk_cell BK527.out 0).trans rfl
            have hcz139_1 : wc.cell? ⟨gb527, 1, none⟩ = some (.int .u64 a2_1) := (blk_cell BK527.out 1).trans rfl
            have hcz139_2 : wc.cell? ⟨gb527, 2, none⟩ = some (.int .u64 a2_2) := (blk_cell BK527.out 2).trans rfl
            have hcz139_3 : wc.cell? ⟨gb527, 3, none⟩ = some (.int .i64 a2_3) := (blk_cell BK527.out 3).trans rfl
            have hfz139_0 := blk_frozen BK527.out 0
            have hfz139_1 := blk_frozen BK527.out 1
            have hfz139_2 := blk_frozen BK527.out 2
            have hfz139_3 := blk_frozen BK527.out 3
            go_wp2_with (first | (go_at_call 26; (with_reducible refine (prefix_Less.calls kj72 a1_0 a1_1 a1_2 a1_3 a2_0 a2_1 a2_2 a2_3 false _ A94.out).mono ?_); rintro e w140 ⟨rfl, hb⟩; have n0_ := Aside0.mk (blk_below (g := gb525) (o := .cells #[.bool a0_0, .int .u64 a0_1, .int .u64 a0_2, .int .i64 a0_3] 26 (0, 0)) (St BK525.out) hb); have n1_ := Aside0.mk (blk_below (g := gb526) (o := .cells #[.bool a1_0, .int .u64 a1_1, .int .u64 a1_2, .int .i64 a1_3] 26 (0, 0)) (St BK526.out) hb); have n2_ := Aside0.mk (blk_below (g := gb527) (o := .cells #[.bool a2_0, .int .u64 a2_1, .int .u64 a2_2, .int .i64 a2_3] 26 (0, 0)) (St BK527.out) hb); have n3_ := Aside0.mk (below_step (Hb HB.out) hb); clear BK525; clear BK526; clear BK527; clear HB; have BK525 := n0_; have BK526 := n1_; have BK527 := n2_; have HB := n3_; clear n0_ n1_ n2_ n3_; (try clear hb); (try clear hb2); (try clear hk); (try clear hi); have hcz141_0 : w140.cell? ⟨gb525, 0, none⟩ = some (.bool a0_0) := (blk_cell BK525.out 0).trans rfl; have hcz141_1 : w140.cell? ⟨gb525, 1, none⟩ = some (.int .u64 a0_1) := (blk_cell BK525.out 1).trans rfl; have hcz141_2 : w140.cell? ⟨gb525, 2, none⟩ = some (.int .u64 a0_2) := (blk_cell BK525.out 2).trans rfl; have hcz141_3 : w140.cell? ⟨gb525, 3, none⟩ = some (.int .i64 a0_3) := (blk_cell BK525.out 3).trans rfl; have hfz141_0 := blk_frozen BK525.out 0; have hfz141_1 := blk_frozen BK525.out 1; have hfz141_2 := blk_frozen BK525.out 2; have hfz141_3 := blk_frozen BK525.out 3; have hcz142_0 : w140.cell? ⟨gb526, 0, none⟩ = some (.bool a1_0) := (blk_cell BK526.out 0).trans rfl; have hcz142_1 : w140.cell? ⟨gb526, 1, none⟩ = some (.int .u64 a1_1) := (blk_cell BK526.out 1).trans rfl; have hcz142_2 : w140.cell? ⟨gb526, 2, none⟩ = some (.int .u64 a1_2) := (blk_cell BK526.out 2).trans rfl; have hcz142_3 : w140.cell? ⟨gb526, 3, none⟩ = some (.int .i64 a1_3) := (blk_cell BK526.out 3).trans rfl; have hfz142_0 := blk_frozen BK526.out 0; have hfz142_1 := blk_frozen BK526.out 1; have hfz142_2 := blk_frozen BK526.out 2; have hfz142_3 := blk_frozen BK526.out 3) | (go_at_call 18; (with_reducible refine (prefix_Covers.calls a0_0 a0_1 a0_2 a0_3 a1_0 a1_1 a1_2 a1_3 false _ A124.out).mono ?_); rintro e w143 ⟨rfl, hb⟩; have n0_ := Aside0.mk (blk_below (g := gb525) (o := .cells #[.bool a0_0, .int .u64 a0_1, .int .u64 a0_2, .int .i64 a0_3] 26 (0, 0)) (St BK525.out) hb); have n1_ := Aside0.mk (blk_below (g := gb526) (o := .cells #[.bool a1_0, .int .u64 a1_1, .int .u64 a1_2, .int .i64 a1_3] 26 (0, 0)) (St BK526.out) hb); have n2_ := Aside0.mk (blk_below (g := gb527) (o := .cells #[.bool a2_0, .int .u64 a2_1, .int .u64 a2_2, .int .i64 a2_3] 26 (0, 0)) (St BK527.out) hb); have n3_ := Aside0.mk (below_step (Hb HB.out) hb); clear BK525; clear BK526; clear BK527; clear HB; have BK525 := n0_; have BK526 := n1_; have BK527 := n2_; have HB := n3_; clear n0_ n1_ n2_ n3_; (try clear hb); (try clear hb2); (try clear hk); (try clear hi)))
            go_ret
            exact ⟨by first | rfl | (simp [errW_none, errW_some] <;> rfl) | (simp [*, errW_none, errW_some] <;> rfl), Hb HB.out⟩
         ·replace c93 := Bool.eq_false_iff.mpr c93
          subst c93
          have H1 : ((prefix_Covers.f a0_0 a0_1 a0_2 a0_3 a1_0 a1_1 a1_2 a1_3).bind fun t539 => (if t539 = true then (some (!t530)) else (some (!false)))) = some r := by rw [if_neg (show ¬ (false = true) by decide)] at H; exact H
          clear H
          have H := H1
          clear H1
          replace H := Option.bind_eq_some_iff.mp H
          obtain ⟨t539, A1440, H⟩ := H
          replace H : (if t539 = true then (some (!t530)) else (some (!false))) = some r := H
          have A144 := Aside0.mk A1440
          clear A1440
          by_cases c145 : t539 = true
          ·subst c145
           have H1 : (some (!t530)) = some r := by rw [if_pos rfl] at H; exact H
           clear H
           have H := H1
           clear H1
           obtain rfl := Option.some.inj H
           have hnb146 := NB525_526.out
           have hnc146 := NB526_525.out
           have hnb147 := NB525_527.out
           have hnc147 := NB527_525.out
           have hcz148_0 : wc.cell? ⟨gb525, 0, none⟩ = some (.bool a0_0) := (blk_cell BK525.out 0).trans rfl
           have hcz148_1 : wc.cell? ⟨gb525, 1, none⟩ = some (.int .u64 a0_1) := (blk_cell BK525.out 1).trans rfl
           have hcz148_2 : wc.cell? ⟨gb525, 2, none⟩ = some (.int .u64 a0_2) := (blk_cell BK525.out 2).trans rfl
           have hcz148_3 : wc.cell? ⟨gb525, 3, none⟩ = some (.int .i64 a0_3) := (blk_cell BK525.out 3).trans rfl
           have hfz148_0 := blk_frozen BK525.out 0
           have hfz148_1 := blk_frozen BK525.out 1
           have hfz148_2 := blk_frozen BK525.out 2
           have hfz148_3 := blk_frozen BK525.out 3
           have hnb149 := NB526_527.out
           have hnc149 := NB527_526.out
           have hcz150_0 : wc.cell? ⟨gb526, 0, none⟩ = some (.bool a1_0) := (blk_cell BK526.out 0).trans rfl
           have hcz150_1 : wc.cell? ⟨gb526, 1, none⟩ = some (.int .u64 a1_1) := (blk_cell BK526.out 1).trans rfl
           have hcz150_2 : wc.cell? ⟨gb526, 2, none⟩ = some (.int .u64 a1_2) := (blk_cell BK526.out 2).trans rfl
           have hcz150_3 : wc.cell? ⟨gb526, 3, none⟩ = some (.int .i64 a1_3) := (blk_cell BK526.out 3).trans rfl
           have hfz150_0 := blk_frozen BK526.out 0
           have hfz150_1 := blk_frozen BK526.out 1
           have hfz150_2 := blk_frozen BK526.out 2
           have hfz150_3 := blk_frozen BK526.out 3
           go_wp2_with (first | (go_at_call 18; (with_reducible refine (prefix_Covers.calls a0_0 a0_1 a0_2 a0_3 a1_0 a1_1 a1_2 a1_3 true _ A144.out).mono ?_); rintro e w151 ⟨rfl, hb⟩; have n0_ := Aside0.mk (blk_below (g := gb525) (o := .cells #[.bool a0_0, .int .u64 a0_1, .int .u64 a0_2, .int .i64 a0_3] 26 (0, 0)) (St BK525.out) hb); have n1_ := Aside0.mk (blk_below (g := gb526) (o := .cells #[.bool a1_0, .int .u64 a1_1, .int .u64 a1_2, .int .i64 a1_3] 26 (0, 0)) (St BK526.out) hb); have n2_ := Aside0.mk (blk_below (g := gb527) (o := .cells #[.bool a2_0, .int .u64 a2_1, .int .u64 a2_2, .int .i64 a2_3] 26 (0, 0)) (St BK527.out) hb); have n3_ := Aside0.mk (below_step (Hb HB.out) hb); clear BK525; clear BK526; clear BK527; clear HB; have BK525 := n0_; have BK526 := n1_; have BK527 := n2_; have HB := n3_; clear n0_ n1_ n2_ n3_; (try clear hb); (try clear hb2); (try clear hk); (try clear hi)))
           go_ret
           exact ⟨by first | rfl | (simp [errW_none, errW_some] <;> rfl) | (simp [*, errW_none, errW_some] <;> rfl), Hb HB.out⟩
          ·replace c145 := Bool.eq_false_iff.mpr c145
           subst c145
           have H1 : (some (!false)) = some r := by rw [if_neg (show ¬ (false = true) by decide)] at H; exact H
           clear H
           have H := H1
           clear H1
           obtain rfl := Option.some.inj H
           have hnb152 := NB525_526.out
           have hnc152 := NB526_525.out
           have hnb153 := NB525_527.out
           have hnc153 := NB527_525.out
           have hcz154_0 : wc.cell? ⟨gb525, 0, none⟩ = some (.bool a0_0) := (blk_cell BK525.out 0).trans rfl
           have hcz154_1 : wc.cell? ⟨gb525, 1, none⟩ = some (.int .u64 a0_1) := (blk_cell BK525.out 1).trans rfl
           have hcz154_2 : wc.cell? ⟨gb525, 2, none⟩ = some (.int .u64 a0_2) := (blk_cell BK525.out 2).trans rfl
           have hcz154_3 : wc.cell? ⟨gb525, 3, none⟩ = some (.int .i64 a0_3) := (blk_cell BK525.out 3).trans rfl
           have hfz154_0 := blk_frozen BK525.out 0
           have hfz154_1 := blk_frozen BK525.out 1
           have hfz154_2 := blk_frozen BK525.out 2
           have hfz154_3 := blk_frozen BK525.out 3
           have hnb155 := NB526_527.out
           have hnc155 := NB527_526.out
           have hcz156_0 : wc.cell? ⟨gb526, 0, none⟩ = some (.bool a1_0) := (blk_cell BK526.out 0).trans rfl
           have hcz156_1 : wc.cell? ⟨gb526, 1, none⟩ = some (.int .u64 a1_1) := (blk_cell BK526.out 1).trans rfl
           have hcz156_2 : wc.cell? ⟨gb526, 2, none⟩ = some (.int .u64 a1_2) := (blk_cell BK526.out 2).trans rfl
           have hcz156_3 : wc.cell? ⟨gb526, 3, none⟩ = some (.int .i64 a1_3) := (blk_cell BK526.out 3).trans rfl
           have hfz156_0 := blk_frozen BK526.out 0
           have hfz156_1 := blk_frozen BK526.out 1
           have hfz156_2 := blk_frozen BK526.out 2
           have hfz156_3 := blk_frozen BK526.out 3
           go_wp2_with (first | (go_at_call 18; (with_reducible refine (prefix_Covers.calls a0_0 a0_1 a0_2 a0_3 a1_0 a1_1 a1_2 a1_3 false _ A144.out).mono ?_); rintro e w157 ⟨rfl, hb⟩; have n0_ := Aside0.mk (blk_below (g := gb525) (o := .cells #[.bool a0_0, .int .u64 a0_1, .int .u64 a0_2, .int .i64 a0_3] 26 (0, 0)) (St BK525.out) hb); have n1_ := Aside0.mk (blk_below (g := gb526) (o := .cells #[.bool a1_0, .int .u64 a1_1, .int .u64 a1_2, .int .i64 a1_3] 26 (0, 0)) (St BK526.out) hb); have n2_ := Aside0.mk (blk_below (g := gb527) (o := .cells #[.bool a2_0, .int .u64 a2_1, .int .u64 a2_2, .int .i64 a2_3] 26 (0, 0)) (St BK527.out) hb); have n3_ := Aside0.mk (below_step (Hb HB.out) hb); clear BK525; clear BK526; clear BK527; clear HB; have BK525 := n0_; have BK526 := n1_; have BK527 := n2_; have HB := n3_; clear n0_ n1_ n2_ n3_; (try clear hb); (try clear hb2); (try clear hk); (try clear hi)))
           go_ret
           exact ⟨by first | rfl | (simp [errW_none, errW_some] <;> rfl) | (simp [*, errW_none, errW_some] <;> rfl), Hb HB.out⟩

end Go.Proofs.YtmhjgjdiifcdlaaDoor.P
