-- Laid by a program (wip/pr.py) out of the translation: each function as a Lean function, and the proof that the call comes to it.
import Derived.Test.YtmhjgjdiifcdlaaDoorShort
import Derived.Test.YtmhjgjdiifcdlaaDoorPBase
import Derived.Test.YtmhjgjdiifcdlaaDoorPEq26
import Derived.Test.YtmhjgjdiifcdlaaDoorPPrefixOf
import Derived.Test.YtmhjgjdiifcdlaaDoorPPrefixBit
import Derived.Test.YtmhjgjdiifcdlaaDoorPPrefixValid
import Derived.Test.YtmhjgjdiifcdlaaDoorPPrefixHolds
import Derived.Test.YtmhjgjdiifcdlaaDoorPPrefixCovers
import Derived.Test.YtmhjgjdiifcdlaaDoorPPrefixCommon
import Derived.Test.YtmhjgjdiifcdlaaDoorPPrefixPrint
import Derived.Test.YtmhjgjdiifcdlaaDoorPPrefixParse
import Derived.Test.YtmhjgjdiifcdlaaDoorPPrefixHalves
import Derived.Test.YtmhjgjdiifcdlaaDoorPPrefixLess
import Derived.Test.YtmhjgjdiifcdlaaDoorPLaw04ten
namespace Go.Proofs.YtmhjgjdiifcdlaaDoor.P
open Go.RowKit Go.Proofs.YtmhjgjdiifcdlaaDoorW.PrintWords Go.Proofs.YtmhjgjdiifcdlaaDoorW.PrintLast Go.Proofs.YtmhjgjdiifcdlaaDoorW.PrintMore
attribute [local go_sem] max2_int min2_int max_two min_two max_three min_three max_four min_four   -- for this text's walks alone
set_option linter.unusedVariables false
set_option linter.unusedSimpArgs false

attribute [local go_sem high] eqA26
/-! ### crosswaylaw04_awake: function 9 -/
def crosswaylaw04_awake.f (k : Nat)  : Option (Bool) := (prefix_Of.f false 0 167772161 8).bind fun bt210 => ((crosswaylaw04_ten.f 8).bind fun bt216 => ((prefix_Halves.f k bt216.1 bt216.2.1 bt216.2.2.1 bt216.2.2.2).bind fun bt220 => ((prefix_Parse.f k (⟨#[49, 48, 46, 48, 46, 48, 46, 48, 47, 56]⟩ : ByteArray)).bind fun bt231 => ((prefix_Parse.f k (⟨#[49, 48, 46, 48, 46, 48, 46, 49, 47, 56]⟩ : ByteArray)).bind fun bt237 => (if bt210.2.2.2.2 = 0 then ((crosswaylaw04_ten.f 8).bind fun bt243 => (if ((bt210.1 == bt243.1 && (bt210.2.1 == bt243.2.1 && (bt210.2.2.1 == bt243.2.2.1))) && (bt210.2.2.2.1 == bt243.2.2.2)) = true then (if bt220.2.2.2.2.2.2.2.2 = 0 then ((crosswaylaw04_ten.f 9).bind fun bt247 => (if ((bt220.1 == bt247.1 && (bt220.2.1 == bt247.2.1 && (bt220.2.2.1 == bt247.2.2.1))) && (bt220.2.2.2.1 == bt247.2.2.2)) = true then (if bt231.2.2.2.2 = 0 then (if ((bt231.1 == bt210.1 && (bt231.2.1 == bt210.2.1 && (bt231.2.2.1 == bt210.2.2.1))) && (bt231.2.2.2.1 == bt210.2.2.2.1)) = true then (if bt237.2.2.2.2 = 30 then ((prefix_Print.f bt210.1 bt210.2.1 bt210.2.2.1 bt210.2.2.2.1).bind fun t251 => (if t251.toList = ([49, 48, 46, 48, 46, 48, 46, 48, 47, 56] : List UInt8) then ((prefix_Valid.f bt210.1 bt210.2.1 bt210.2.2.1 bt210.2.2.2.1).bind fun t252 => ((prefix_Holds.f bt210.1 bt210.2.1 bt210.2.2.1 bt210.2.2.2.1 false 0 167772161).bind fun t253 => (if t253 = true then ((prefix_Covers.f bt210.1 bt210.2.1 bt210.2.2.1 bt210.2.2.2.1 bt220.1 bt220.2.1 bt220.2.2.1 bt220.2.2.2.1).bind fun t254 => (if t254 = true then ((prefix_Bit.f k false 0 1 31).bind fun t255 => (if t255 = 1 then ((prefix_Common.f k bt220.1 bt220.2.1 bt220.2.2.1 bt220.2.2.2.2.1 bt220.2.2.2.2.2.1 bt220.2.2.2.2.2.2.1).bind fun t256 => (if t256 = 8 then ((prefix_Less.f k bt210.1 bt210.2.1 bt210.2.2.1 bt210.2.2.2.1 bt220.1 bt220.2.1 bt220.2.2.1 bt220.2.2.2.1).bind fun t257 => (if ((!bt220.2.2.2.2.1 && (bt220.2.2.2.2.2.1 == 0 && (bt220.2.2.2.2.2.2.1 == 176160768))) && (bt220.2.2.2.2.2.2.2.1 == 9)) = true then (if t252 = true then (some t257) else (none)) else (none))) else (none))) else (none))) else (none))) else (none)))) else (none))) else (none)) else (none)) else (none)) else (none))) else (none)) else (none))) else (none))))))
theorem crosswaylaw04_awake.mono : ∀ k, LeO (crosswaylaw04_awake.f k ) (crosswaylaw04_awake.f (k + 1) ) := by
 intro  k
 unfold crosswaylaw04_awake.f
 repeat' first
   | (with_reducible exact prefix_Bit.mono _ _ _ _ _)
   | (with_reducible exact prefix_Common.mono _ _ _ _ _ _ _)
   | (with_reducible exact prefix_Halves.mono _ _ _ _ _)
   | (with_reducible exact prefix_Less.mono _ _ _ _ _ _ _ _ _)
   | (with_reducible exact prefix_Parse.mono _ _)
   | (with_reducible exact LeO.refl _)
   | (with_reducible exact LeO.none _)
   | (with_reducible refine LeO.ite ?_ ?_)
   | (with_reducible refine LeO.bind ?_ (fun _ => ?_))
   | exact prefix_Bit.mono _ _ _ _ _
   | exact prefix_Common.mono _ _ _ _ _ _ _
   | exact prefix_Halves.mono _ _ _ _ _
   | exact prefix_Less.mono _ _ _ _ _ _ _ _ _
   | exact prefix_Parse.mono _ _
   | exact LeO.none _
   | refine LeO.ite ?_ ?_
   | refine LeO.bind ?_ (fun _ => ?_)
def crosswaylaw04_awake.T5 : Bool × List (List Nat × List Nat) := (true, [([], []), ([0], [0]), ([1], [1]), ([2], [2]), ([2, 2], [2]), ([3, 4, 2], [2, 3, 4]), ([2, 5], [2, 5]), ([6, 4], [6]), ([7], [7]), ([8, 7], [7, 8]), ([7, 9], [7, 9]), ([10, 7], [10]), ([11], [11]), ([11, 11], [11]), ([12, 13, 11], [11, 12, 13]), ([11, 14], [11, 14]), ([15, 13], [15]), ([16], [16]), ([16], [16]), ([18, 16], [16, 18]), ([17, 19, 16], [16, 17, 19]), ([16, 20], [16, 20]), ([21, 16, 0, 1, 2, 3, 4, 5, 6, 7, 8, 9, 10, 11, 12, 13, 14, 15, 16, 17, 18, 19, 20, 21], [21])])
def crosswaylaw04_awake.B5 : List Nat := [0, 1, 3, 7, 7, 31, 63, 127, 255, 511, 1023, 2047, 4095, 4095, 16383, 32767, 65535, 131071, 131071, 393215, 1048575, 2097151, 4194303]
theorem crosswaylaw04_awake.tab5 : rtab .any (opsOf Tryd.f9 5) = crosswaylaw04_awake.T5 := by kernel_rfl
theorem crosswaylaw04_awake.bits5 : waitsOk crosswaylaw04_awake.T5.2 crosswaylaw04_awake.B5 = true := by kernel_rfl
set_option maxHeartbeats 8000000 in
set_option maxRecDepth 100000 in
theorem crosswaylaw04_awake.calls (k : Nat)  (r : Bool) (w : World) (hG : Glob w) (h : crosswaylaw04_awake.f k  = some r) :
  Calls Tryd.prog 9 #[] w fun e w' => e = .returned (.bool r) ∧ Below w.heap.size w w' := by
 have hu24 := Tryd.underlying24
 have hu26 := Tryd.underlying26
 have HG := Aside0.mk hG
 clear hG
 have HB := Aside0.mk (Below.refl w.heap.size w)
 have H : ((prefix_Of.f false 0 167772161 8).bind fun bt210 => ((crosswaylaw04_ten.f 8).bind fun bt216 => ((prefix_Halves.f k bt216.1 bt216.2.1 bt216.2.2.1 bt216.2.2.2).bind fun bt220 => ((prefix_Parse.f k (⟨#[49, 48, 46, 48, 46, 48, 46, 48, 47, 56]⟩ : ByteArray)).bind fun bt231 => ((prefix_Parse.f k (⟨#[49, 48, 46, 48, 46, 48, 46, 49, 47, 56]⟩ : ByteArray)).bind fun bt237 => (if bt210.2.2.2.2 = 0 then ((crosswaylaw04_ten.f 8).bind fun bt243 => (if ((bt210.1 == bt243.1 && (bt210.2.1 == bt243.2.1 && (bt210.2.2.1 == bt243.2.2.1))) && (bt210.2.2.2.1 == bt243.2.2.2)) = true then (if bt220.2.2.2.2.2.2.2.2 = 0 then ((crosswaylaw04_ten.f 9).bind fun bt247 => (if ((bt220.1 == bt247.1 && (bt220.2.1 == bt247.2.1 && (bt220.2.2.1 == bt247.2.2.1))) && (bt220.2.2.2.1 == bt247.2.2.2)) = true then (if bt231.2.2.2.2 = 0 then (if ((bt231.1 == bt210.1 && (bt231.2.1 == bt210.2.1 && (bt231.2.2.1 == bt210.2.2.1))) && (bt231.2.2.2.1 == bt210.2.2.2.1)) = true then (if bt237.2.2.2.2 = 30 then ((prefix_Print.f bt210.1 bt210.2.1 bt210.2.2.1 bt210.2.2.2.1).bind fun t251 => (if t251.toList = ([49, 48, 46, 48, 46, 48, 46, 48, 47, 56] : List UInt8) then ((prefix_Valid.f bt210.1 bt210.2.1 bt210.2.2.1 bt210.2.2.2.1).bind fun t252 => ((prefix_Holds.f bt210.1 bt210.2.1 bt210.2.2.1 bt210.2.2.2.1 false 0 167772161).bind fun t253 => (if t253 = true then ((prefix_Covers.f bt210.1 bt210.2.1 bt210.2.2.1 bt210.2.2.2.1 bt220.1 bt220.2.1 bt220.2.2.1 bt220.2.2.2.1).bind fun t254 => (if t254 = true then ((prefix_Bit.f k false 0 1 31).bind fun t255 => (if t255 = 1 then ((prefix_Common.f k bt220.1 bt220.2.1 bt220.2.2.1 bt220.2.2.2.2.1 bt220.2.2.2.2.2.1 bt220.2.2.2.2.2.2.1).bind fun t256 => (if t256 = 8 then ((prefix_Less.f k bt210.1 bt210.2.1 bt210.2.2.1 bt210.2.2.2.1 bt220.1 bt220.2.1 bt220.2.2.1 bt220.2.2.2.1).bind fun t257 => (if ((!bt220.2.2.2.2.1 && (bt220.2.2.2.2.2.1 == 0 && (bt220.2.2.2.2.2.2.1 == 176160768))) && (bt220.2.2.2.2.2.2.2.1 == 9)) = true then (if t252 = true then (some t257) else (none)) else (none))) else (none))) else (none))) else (none))) else (none)))) else (none))) else (none)) else (none)) else (none)) else (none))) else (none)) else (none))) else (none))))))) = some r := h
 clear h
 replace H := Option.bind_eq_some_iff.mp H
 obtain ⟨⟨t210, t211, t212, t213, t214⟩, A10, H⟩ := H
 replace H : ((crosswaylaw04_ten.f 8).bind fun bt216 => ((prefix_Halves.f k bt216.1 bt216.2.1 bt216.2.2.1 bt216.2.2.2).bind fun bt220 => ((prefix_Parse.f k (⟨#[49, 48, 46, 48, 46, 48, 46, 48, 47, 56]⟩ : ByteArray)).bind fun bt231 => ((prefix_Parse.f k (⟨#[49, 48, 46, 48, 46, 48, 46, 49, 47, 56]⟩ : ByteArray)).bind fun bt237 => (if t214 = 0 then ((crosswaylaw04_ten.f 8).bind fun bt243 => (if ((t210 == bt243.1 && (t211 == bt243.2.1 && (t212 == bt243.2.2.1))) && (t213 == bt243.2.2.2)) = true then (if bt220.2.2.2.2.2.2.2.2 = 0 then ((crosswaylaw04_ten.f 9).bind fun bt247 => (if ((bt220.1 == bt247.1 && (bt220.2.1 == bt247.2.1 && (bt220.2.2.1 == bt247.2.2.1))) && (bt220.2.2.2.1 == bt247.2.2.2)) = true then (if bt231.2.2.2.2 = 0 then (if ((bt231.1 == t210 && (bt231.2.1 == t211 && (bt231.2.2.1 == t212))) && (bt231.2.2.2.1 == t213)) = true then (if bt237.2.2.2.2 = 30 then ((prefix_Print.f t210 t211 t212 t213).bind fun t251 => (if t251.toList = ([49, 48, 46, 48, 46, 48, 46, 48, 47, 56] : List UInt8) then ((prefix_Valid.f t210 t211 t212 t213).bind fun t252 => ((prefix_Holds.f t210 t211 t212 t213 false 0 167772161).bind fun t253 => (if t253 = true then ((prefix_Covers.f t210 t211 t212 t213 bt220.1 bt220.2.1 bt220.2.2.1 bt220.2.2.2.1).bind fun t254 => (if t254 = true then ((prefix_Bit.f k false 0 1 31).bind fun t255 => (if t255 = 1 then ((prefix_Common.f k bt220.1 bt220.2.1 bt220.2.2.1 bt220.2.2.2.2.1 bt220.2.2.2.2.2.1 bt220.2.2.2.2.2.2.1).bind fun t256 => (if t256 = 8 then ((prefix_Less.f k t210 t211 t212 t213 bt220.1 bt220.2.1 bt220.2.2.1 bt220.2.2.2.1).bind fun t257 => (if ((!bt220.2.2.2.2.1 && (bt220.2.2.2.2.2.1 == 0 && (bt220.2.2.2.2.2.2.1 == 176160768))) && (bt220.2.2.2.2.2.2.2.1 == 9)) = true then (if t252 = true then (some t257) else (none)) else (none))) else (none))) else (none))) else (none))) else (none)))) else (none))) else (none)) else (none)) else (none)) else (none))) else (none)) else (none))) else (none)))))) = some r := H
 have A1 := Aside0.mk A10
 clear A10
 replace H := Option.bind_eq_some_iff.mp H
 obtain ⟨⟨t216, t217, t218, t219⟩, A20, H⟩ := H
 replace H : ((prefix_Halves.f k t216 t217 t218 t219).bind fun bt220 => ((prefix_Parse.f k (⟨#[49, 48, 46, 48, 46, 48, 46, 48, 47, 56]⟩ : ByteArray)).bind fun bt231 => ((prefix_Parse.f k (⟨#[49, 48, 46, 48, 46, 48, 46, 49, 47, 56]⟩ : ByteArray)).bind fun bt237 => (if t214 = 0 then ((crosswaylaw04_ten.f 8).bind fun bt243 => (if ((t210 == bt243.1 && (t211 == bt243.2.1 && (t212 == bt243.2.2.1))) && (t213 == bt243.2.2.2)) = true then (if bt220.2.2.2.2.2.2.2.2 = 0 then ((crosswaylaw04_ten.f 9).bind fun bt247 => (if ((bt220.1 == bt247.1 && (bt220.2.1 == bt247.2.1 && (bt220.2.2.1 == bt247.2.2.1))) && (bt220.2.2.2.1 == bt247.2.2.2)) = true then (if bt231.2.2.2.2 = 0 then (if ((bt231.1 == t210 && (bt231.2.1 == t211 && (bt231.2.2.1 == t212))) && (bt231.2.2.2.1 == t213)) = true then (if bt237.2.2.2.2 = 30 then ((prefix_Print.f t210 t211 t212 t213).bind fun t251 => (if t251.toList = ([49, 48, 46, 48, 46, 48, 46, 48, 47, 56] : List UInt8) then ((prefix_Valid.f t210 t211 t212 t213).bind fun t252 => ((prefix_Holds.f t210 t211 t212 t213 false 0 167772161).bind fun t253 => (if t253 = true then ((prefix_Covers.f t210 t211 t212 t213 bt220.1 bt220.2.1 bt220.2.2.1 bt220.2.2.2.1).bind fun t254 => (if t254 = true then ((prefix_Bit.f k false 0 1 31).bind fun t255 => (if t255 = 1 then ((prefix_Common.f k bt220.1 bt220.2.1 bt220.2.2.1 bt220.2.2.2.2.1 bt220.2.2.2.2.2.1 bt220.2.2.2.2.2.2.1).bind fun t256 => (if t256 = 8 then ((prefix_Less.f k t210 t211 t212 t213 bt220.1 bt220.2.1 bt220.2.2.1 bt220.2.2.2.1).bind fun t257 => (if ((!bt220.2.2.2.2.1 && (bt220.2.2.2.2.2.1 == 0 && (bt220.2.2.2.2.2.2.1 == 176160768))) && (bt220.2.2.2.2.2.2.2.1 == 9)) = true then (if t252 = true then (some t257) else (none)) else (none))) else (none))) else (none))) else (none))) else (none)))) else (none))) else (none)) else (none)) else (none)) else (none))) else (none)) else (none))) else (none))))) = some r := H
 have A2 := Aside0.mk A20
 clear A20
 replace H := Option.bind_eq_some_iff.mp H
 obtain ⟨⟨t220, t221, t222, t223, t224, t225, t226, t227, t228⟩, A30, H⟩ := H
 replace H : ((prefix_Parse.f k (⟨#[49, 48, 46, 48, 46, 48, 46, 48, 47, 56]⟩ : ByteArray)).bind fun bt231 => ((prefix_Parse.f k (⟨#[49, 48, 46, 48, 46, 48, 46, 49, 47, 56]⟩ : ByteArray)).bind fun bt237 => (if t214 = 0 then ((crosswaylaw04_ten.f 8).bind fun bt243 => (if ((t210 == bt243.1 && (t211 == bt243.2.1 && (t212 == bt243.2.2.1))) && (t213 == bt243.2.2.2)) = true then (if t228 = 0 then ((crosswaylaw04_ten.f 9).bind fun bt247 => (if ((t220 == bt247.1 && (t221 == bt247.2.1 && (t222 == bt247.2.2.1))) && (t223 == bt247.2.2.2)) = true then (if bt231.2.2.2.2 = 0 then (if ((bt231.1 == t210 && (bt231.2.1 == t211 && (bt231.2.2.1 == t212))) && (bt231.2.2.2.1 == t213)) = true then (if bt237.2.2.2.2 = 30 then ((prefix_Print.f t210 t211 t212 t213).bind fun t251 => (if t251.toList = ([49, 48, 46, 48, 46, 48, 46, 48, 47, 56] : List UInt8) then ((prefix_Valid.f t210 t211 t212 t213).bind fun t252 => ((prefix_Holds.f t210 t211 t212 t213 false 0 167772161).bind fun t253 => (if t253 = true then ((prefix_Covers.f t210 t211 t212 t213 t220 t221 t222 t223).bind fun t254 => (if t254 = true then ((prefix_Bit.f k false 0 1 31).bind fun t255 => (if t255 = 1 then ((prefix_Common.f k t220 t221 t222 t224 t225 t226).bind fun t256 => (if t256 = 8 then ((prefix_Less.f k t210 t211 t212 t213 t220 t221 t222 t223).bind fun t257 => (if ((!t224 && (t225 == 0 && (t226 == 176160768))) && (t227 == 9)) = true then (if t252 = true then (some t257) else (none)) else (none))) else (none))) else (none))) else (none))) else (none)))) else (none))) else (none)) else (none)) else (none)) else (none))) else (none)) else (none))) else (none)))) = some r := H
 have A3 := Aside0.mk A30
 clear A30
 replace H := Option.bind_eq_some_iff.mp H
 obtain ⟨⟨t231, t232, t233, t234, t235⟩, A40, H⟩ := H
 replace H : ((prefix_Parse.f k (⟨#[49, 48, 46, 48, 46, 48, 46, 49, 47, 56]⟩ : ByteArray)).bind fun bt237 => (if t214 = 0 then ((crosswaylaw04_ten.f 8).bind fun bt243 => (if ((t210 == bt243.1 && (t211 == bt243.2.1 && (t212 == bt243.2.2.1))) && (t213 == bt243.2.2.2)) = true then (if t228 = 0 then ((crosswaylaw04_ten.f 9).bind fun bt247 => (if ((t220 == bt247.1 && (t221 == bt247.2.1 && (t222 == bt247.2.2.1))) && (t223 == bt247.2.2.2)) = true then (if t235 = 0 then (if ((t231 == t210 && (t232 == t211 && (t233 == t212))) && (t234 == t213)) = true then (if bt237.2.2.2.2 = 30 then ((prefix_Print.f t210 t211 t212 t213).bind fun t251 => (if t251.toList = ([49, 48, 46, 48, 46, 48, 46, 48, 47, 56] : List UInt8) then ((prefix_Valid.f t210 t211 t212 t213).bind fun t252 => ((prefix_Holds.f t210 t211 t212 t213 false 0 167772161).bind fun t253 => (if t253 = true then ((prefix_Covers.f t210 t211 t212 t213 t220 t221 t222 t223).bind fun t254 => (if t254 = true then ((prefix_Bit.f k false 0 1 31).bind fun t255 => (if t255 = 1 then ((prefix_Common.f k t220 t221 t222 t224 t225 t226).bind fun t256 => (if t256 = 8 then ((prefix_Less.f k t210 t211 t212 t213 t220 t221 t222 t223).bind fun t257 => (if ((!t224 && (t225 == 0 && (t226 == 176160768))) && (t227 == 9)) = true then (if t252 = true then (some t257) else (none)) else (none))) else (none))) else (none))) else (none))) else (none)))) else (none))) else (none)) else (none)) else (none)) else (none))) else (none)) else (none))) else (none))) = some r := H
 have A4 := Aside0.mk A40
 clear A40
 replace H := Option.bind_eq_some_iff.mp H
 obtain ⟨⟨t237, t238, t239, t240, t241⟩, A50, H⟩ := H
 replace H : (if t214 = 0 then ((crosswaylaw04_ten.f 8).bind fun bt243 => (if ((t210 == bt243.1 && (t211 == bt243.2.1 && (t212 == bt243.2.2.1))) && (t213 == bt243.2.2.2)) = true then (if t228 = 0 then ((crosswaylaw04_ten.f 9).bind fun bt247 => (if ((t220 == bt247.1 && (t221 == bt247.2.1 && (t222 == bt247.2.2.1))) && (t223 == bt247.2.2.2)) = true then (if t235 = 0 then (if ((t231 == t210 && (t232 == t211 && (t233 == t212))) && (t234 == t213)) = true then (if t241 = 30 then ((prefix_Print.f t210 t211 t212 t213).bind fun t251 => (if t251.toList = ([49, 48, 46, 48, 46, 48, 46, 48, 47, 56] : List UInt8) then ((prefix_Valid.f t210 t211 t212 t213).bind fun t252 => ((prefix_Holds.f t210 t211 t212 t213 false 0 167772161).bind fun t253 => (if t253 = true then ((prefix_Covers.f t210 t211 t212 t213 t220 t221 t222 t223).bind fun t254 => (if t254 = true then ((prefix_Bit.f k false 0 1 31).bind fun t255 => (if t255 = 1 then ((prefix_Common.f k t220 t221 t222 t224 t225 t226).bind fun t256 => (if t256 = 8 then ((prefix_Less.f k t210 t211 t212 t213 t220 t221 t222 t223).bind fun t257 => (if ((!t224 && (t225 == 0 && (t226 == 176160768))) && (t227 == 9)) = true then (if t252 = true then (some t257) else (none)) else (none))) else (none))) else (none))) else (none))) else (none)))) else (none))) else (none)) else (none)) else (none)) else (none))) else (none)) else (none))) else (none)) = some r := H
 have A5 := Aside0.mk A50
 clear A50
 by_cases c6 : t214 = 0
 ·rw [if_pos c6] at H
  have c6b0 : (t214 == 0) = true := beq_iff_eq.mpr c6
  have c6b1 : (t214 != 0) = false := bne_eq_false_iff_eq.mpr c6
  clear c6
  replace H := Option.bind_eq_some_iff.mp H
  obtain ⟨⟨t243, t244, t245, t246⟩, A70, H⟩ := H
  replace H : (if ((t210 == t243 && (t211 == t244 && (t212 == t245))) && (t213 == t246)) = true then (if t228 = 0 then ((crosswaylaw04_ten.f 9).bind fun bt247 => (if ((t220 == bt247.1 && (t221 == bt247.2.1 && (t222 == bt247.2.2.1))) && (t223 == bt247.2.2.2)) = true then (if t235 = 0 then (if ((t231 == t210 && (t232 == t211 && (t233 == t212))) && (t234 == t213)) = true then (if t241 = 30 then ((prefix_Print.f t210 t211 t212 t213).bind fun t251 => (if t251.toList = ([49, 48, 46, 48, 46, 48, 46, 48, 47, 56] : List UInt8) then ((prefix_Valid.f t210 t211 t212 t213).bind fun t252 => ((prefix_Holds.f t210 t211 t212 t213 false 0 167772161).bind fun t253 => (if t253 = true then ((prefix_Covers.f t210 t211 t212 t213 t220 t221 t222 t223).bind fun t254 => (if t254 = true then ((prefix_Bit.f k false 0 1 31).bind fun t255 => (if t255 = 1 then ((prefix_Common.f k t220 t221 t222 t224 t225 t226).bind fun t256 => (if t256 = 8 then ((prefix_Less.f k t210 t211 t212 t213 t220 t221 t222 t223).bind fun t257 => (if ((!t224 && (t225 == 0 && (t226 == 176160768))) && (t227 == 9)) = true then (if t252 = true then (some t257) else (none)) else (none))) else (none))) else (none))) else (none))) else (none)))) else (none))) else (none)) else (none)) else (none)) else (none))) else (none)) else (none)) = some r := H
  have A7 := Aside0.mk A70
  clear A70
  by_cases c8 : ((t210 == t243 && (t211 == t244 && (t212 == t245))) && (t213 == t246)) = true
  ·rw [if_pos c8] at H
   have c8b0 : ((t210 == t243 && (t211 == t244 && (t212 == t245))) && (t213 == t246)) = true := c8
   clear c8
   by_cases c9 : t228 = 0
   ·rw [if_pos c9] at H
    have c9b0 : (t228 == 0) = true := beq_iff_eq.mpr c9
    have c9b1 : (t228 != 0) = false := bne_eq_false_iff_eq.mpr c9
    clear c9
    replace H := Option.bind_eq_some_iff.mp H
    obtain ⟨⟨t247, t248, t249, t250⟩, A100, H⟩ := H
    replace H : (if ((t220 == t247 && (t221 == t248 && (t222 == t249))) && (t223 == t250)) = true then (if t235 = 0 then (if ((t231 == t210 && (t232 == t211 && (t233 == t212))) && (t234 == t213)) = true then (if t241 = 30 then ((prefix_Print.f t210 t211 t212 t213).bind fun t251 => (if t251.toList = ([49, 48, 46, 48, 46, 48, 46, 48, 47, 56] : List UInt8) then ((prefix_Valid.f t210 t211 t212 t213).bind fun t252 => ((prefix_Holds.f t210 t211 t212 t213 false 0 167772161).bind fun t253 => (if t253 = true then ((prefix_Covers.f t210 t211 t212 t213 t220 t221 t222 t223).bind fun t254 => (if t254 = true then ((prefix_Bit.f k false 0 1 31).bind fun t255 => (if t255 = 1 then ((prefix_Common.f k t220 t221 t222 t224 t225 t226).bind fun t256 => (if t256 = 8 then ((prefix_Less.f k t210 t211 t212 t213 t220 t221 t222 t223).bind fun t257 => (if ((!t224 && (t225 == 0 && (t226 == 176160768))) && (t227 == 9)) = true then (if t252 = true then (some t257) else (none)) else (none))) else (none))) else (none))) else (none))) else (none)))) else (none))) else (none)) else (none)) else (none)) else (none)) = some r := H
    have A10 := Aside0.mk A100
    clear A100
    by_cases c11 : ((t220 == t247 && (t221 == t248 && (t222 == t249))) && (t223 == t250)) = true
    ·rw [if_pos c11] at H
     have c11b0 : ((t220 == t247 && (t221 == t248 && (t222 == t249))) && (t223 == t250)) = true := c11
     clear c11
     by_cases c12 : t235 = 0
     ·rw [if_pos c12] at H
      have c12b0 : (t235 == 0) = true := beq_iff_eq.mpr c12
      have c12b1 : (t235 != 0) = false := bne_eq_false_iff_eq.mpr c12
      clear c12
      by_cases c13 : ((t231 == t210 && (t232 == t211 && (t233 == t212))) && (t234 == t213)) = true
      ·rw [if_pos c13] at H
       have c13b0 : ((t231 == t210 && (t232 == t211 && (t233 == t212))) && (t234 == t213)) = true := c13
       clear c13
       by_cases c14 : t241 = 30
       ·rw [if_pos c14] at H
        have c14b0 : (t241 == 30) = true := beq_iff_eq.mpr c14
        have c14b1 : (t241 != 30) = false := bne_eq_false_iff_eq.mpr c14
        clear c14
        replace H := Option.bind_eq_some_iff.mp H
        obtain ⟨t251, A150, H⟩ := H
        replace H : (if t251.toList = ([49, 48, 46, 48, 46, 48, 46, 48, 47, 56] : List UInt8) then ((prefix_Valid.f t210 t211 t212 t213).bind fun t252 => ((prefix_Holds.f t210 t211 t212 t213 false 0 167772161).bind fun t253 => (if t253 = true then ((prefix_Covers.f t210 t211 t212 t213 t220 t221 t222 t223).bind fun t254 => (if t254 = true then ((prefix_Bit.f k false 0 1 31).bind fun t255 => (if t255 = 1 then ((prefix_Common.f k t220 t221 t222 t224 t225 t226).bind fun t256 => (if t256 = 8 then ((prefix_Less.f k t210 t211 t212 t213 t220 t221 t222 t223).bind fun t257 => (if ((!t224 && (t225 == 0 && (t226 == 176160768))) && (t227 == 9)) = true then (if t252 = true then (some t257) else (none)) else (none))) else (none))) else (none))) else (none))) else (none)))) else (none)) = some r := H
        have A15 := Aside0.mk A150
        clear A150
        by_cases c16 : t251.toList = ([49, 48, 46, 48, 46, 48, 46, 48, 47, 56] : List UInt8)
        ·rw [if_pos c16] at H
         have c16b0 : (t251.toList == ([49, 48, 46, 48, 46, 48, 46, 48, 47, 56] : List UInt8)) = true := beq_iff_eq.mpr c16
         have c16b1 : (t251.toList != ([49, 48, 46, 48, 46, 48, 46, 48, 47, 56] : List UInt8)) = false := bne_eq_false_iff_eq.mpr c16
         clear c16
         replace H := Option.bind_eq_some_iff.mp H
         obtain ⟨t252, A170, H⟩ := H
         replace H : ((prefix_Holds.f t210 t211 t212 t213 false 0 167772161).bind fun t253 => (if t253 = true then ((prefix_Covers.f t210 t211 t212 t213 t220 t221 t222 t223).bind fun t254 => (if t254 = true then ((prefix_Bit.f k false 0 1 31).bind fun t255 => (if t255 = 1 then ((prefix_Common.f k t220 t221 t222 t224 t225 t226).bind fun t256 => (if t256 = 8 then ((prefix_Less.f k t210 t211 t212 t213 t220 t221 t222 t223).bind fun t257 => (if ((!t224 && (t225 == 0 && (t226 == 176160768))) && (t227 == 9)) = true then (if t252 = true then (some t257) else (none)) else (none))) else (none))) else (none))) else (none))) else (none))) = some r := H
         have A17 := Aside0.mk A170
         clear A170
         replace H := Option.bind_eq_some_iff.mp H
         obtain ⟨t253, A180, H⟩ := H
         replace H : (if t253 = true then ((prefix_Covers.f t210 t211 t212 t213 t220 t221 t222 t223).bind fun t254 => (if t254 = true then ((prefix_Bit.f k false 0 1 31).bind fun t255 => (if t255 = 1 then ((prefix_Common.f k t220 t221 t222 t224 t225 t226).bind fun t256 => (if t256 = 8 then ((prefix_Less.f k t210 t211 t212 t213 t220 t221 t222 t223).bind fun t257 => (if ((!t224 && (t225 == 0 && (t226 == 176160768))) && (t227 == 9)) = true then (if t252 = true then (some t257) else (none)) else (none))) else (none))) else (none))) else (none))) else (none)) = some r := H
         have A18 := Aside0.mk A180
         clear A180
         by_cases c19 : t253 = true
         ·subst c19
          have H1 : ((prefix_Covers.f t210 t211 t212 t213 t220 t221 t222 t223).bind fun t254 => (if t254 = true then ((prefix_Bit.f k false 0 1 31).bind fun t255 => (if t255 = 1 then ((prefix_Common.f k t220 t221 t222 t224 t225 t226).bind fun t256 => (if t256 = 8 then ((prefix_Less.f k t210 t211 t212 t213 t220 t221 t222 t223).bind fun t257 => (if ((!t224 && (t225 == 0 && (t226 == 176160768))) && (t227 == 9)) = true then (if t252 = true then (some t257) else (none)) else (none))) else (none))) else (none))) else (none))) = some r := by rw [if_pos rfl] at H; exact H
          clear H
          have H := H1
          clear H1
          replace H := Option.bind_eq_some_iff.mp H
          obtain ⟨t254, A200, H⟩ := H
          replace H : (if t254 = true then ((prefix_Bit.f k false 0 1 31).bind fun t255 => (if t255 = 1 then ((prefix_Common.f k t220 t221 t222 t224 t225 t226).bind fun t256 => (if t256 = 8 then ((prefix_Less.f k t210 t211 t212 t213 t220 t221 t222 t223).bind fun t257 => (if ((!t224 && (t225 == 0 && (t226 == 176160768))) && (t227 == 9)) = true then (if t252 = true then (some t257) else (none)) else (none))) else (none))) else (none))) else (none)) = some r := H
          have A20 := Aside0.mk A200
          clear A200
          by_cases c21 : t254 = true
          ·subst c21
           have H1 : ((prefix_Bit.f k false 0 1 31).bind fun t255 => (if t255 = 1 then ((prefix_Common.f k t220 t221 t222 t224 t225 t226).bind fun t256 => (if t256 = 8 then ((prefix_Less.f k t210 t211 t212 t213 t220 t221 t222 t223).bind fun t257 => (if ((!t224 && (t225 == 0 && (t226 == 176160768))) && (t227 == 9)) = true then (if t252 = true then (some t257) else (none)) else (none))) else (none))) else (none))) = some r := by rw [if_pos rfl] at H; exact H
           clear H
           have H := H1
           clear H1
           replace H := Option.bind_eq_some_iff.mp H
           obtain ⟨t255, A220, H⟩ := H
           replace H : (if t255 = 1 then ((prefix_Common.f k t220 t221 t222 t224 t225 t226).bind fun t256 => (if t256 = 8 then ((prefix_Less.f k t210 t211 t212 t213 t220 t221 t222 t223).bind fun t257 => (if ((!t224 && (t225 == 0 && (t226 == 176160768))) && (t227 == 9)) = true then (if t252 = true then (some t257) else (none)) else (none))) else (none))) else (none)) = some r := H
           have A22 := Aside0.mk A220
           clear A220
           by_cases c23 : t255 = 1
           ·rw [if_pos c23] at H
            have c23b0 : (t255 == 1) = true := beq_iff_eq.mpr c23
            have c23b1 : (t255 != 1) = false := bne_eq_false_iff_eq.mpr c23
            clear c23
            replace H := Option.bind_eq_some_iff.mp H
            obtain ⟨t256, A240, H⟩ := H
            replace H : (if t256 = 8 then ((prefix_Less.f k t210 t211 t212 t213 t220 t221 t222 t223).bind fun t257 => (if ((!t224 && (t225 == 0 && (t226 == 176160768))) && (t227 == 9)) = true then (if t252 = true then (some t257) else (none)) else (none))) else (none)) = some r := H
            have A24 := Aside0.mk A240
            clear A240
            by_cases c25 : t256 = 8
            ·rw [if_pos c25] at H
             have c25b0 : (t256 == 8) = true := beq_iff_eq.mpr c25
             have c25b1 : (t256 != 8) = false := bne_eq_false_iff_eq.mpr c25
             clear c25
             replace H := Option.bind_eq_some_iff.mp H
             obtain ⟨t257, A260, H⟩ := H
             replace H : (if ((!t224 && (t225 == 0 && (t226 == 176160768))) && (t227 == 9)) = true then (if t252 = true then (some t257) else (none)) else (none)) = some r := H
             have A26 := Aside0.mk A260
             clear A260
             by_cases c27 : ((!t224 && (t225 == 0 && (t226 == 176160768))) && (t227 == 9)) = true
             ·rw [if_pos c27] at H
              have c27b0 : ((!t224 && (t225 == 0 && (t226 == 176160768))) && (t227 == 9)) = true := c27
              clear c27
              by_cases c28 : t252 = true
              ·subst c28
               have H1 : (some t257) = some r := by rw [if_pos rfl] at H; exact H
               clear H
               have H := H1
               clear H1
               obtain rfl := Option.some.inj H
               go_enter Tryd.func9, Tryd.ntmps9
               try go_wp2_with (first | ((with_reducible refine gate_callee (f := 10) rfl ?_); refine goesL_ (some 15) rfl rfl Tryd.func10 (by kernel_rfl) rfl #[.agg #[.bool false, .int .u64 0, .int .u64 167772161], .int .i64 8] rfl Ma ?_; (with_reducible refine (prefix_Of.calls false 0 167772161 8 t210 t211 t212 t213 t214 _ A1.out).mono ?_); rintro e w29 ⟨rfl, hb⟩; refine ⟨_, rfl, ?_⟩; have n0_ := Aside0.mk (below_step (Hb HB.out) hb); clear HB; have HB := n0_; clear n0_; (try clear hb); (try clear hb2); (try clear hk); (try clear hi)) | ((with_reducible refine gate_dst (N := 1) rfl ?_); refine box_event ?hg (N := 1) ?hd (cs := #[.bool false, .int .u64 0, .int .u64 0, .int .i64 0]) (t := 26) ?hr ?_; (case hd => rfl); (case hg => rfl); (case hr => first | (go_simp; done) | (go_simp; rfl)); intro gb215 hg w30 hbox hb; have n0_ := Aside0.mk (below_step (Hb HB.out) hb); have n1_ := Aside0.mk (hbox); have n2_ := Aside0.mk ((by rw [hg]; exact (below_size (Hb HB.out)) : w.heap.size ≤ gb215)); have n3_ := Aside0.mk ((by rw [hg]; exact (below_size (Hb HB.out)) : w.heap.size ≤ gb215)); clear HB; have HB := n0_; have BK215 := n1_; have GW215 := n2_; have GE215 := n3_; clear n0_ n1_ n2_ n3_; clear hb hbox hg; have hcz31_0 : w30.cell? ⟨gb215, 0, none⟩ = some (.bool false) := (blk_cell BK215.out 0).trans rfl; have hcz31_1 : w30.cell? ⟨gb215, 1, none⟩ = some (.int .u64 0) := (blk_cell BK215.out 1).trans rfl; have hcz31_2 : w30.cell? ⟨gb215, 2, none⟩ = some (.int .u64 0) := (blk_cell BK215.out 2).trans rfl; have hcz31_3 : w30.cell? ⟨gb215, 3, none⟩ = some (.int .i64 0) := (blk_cell BK215.out 3).trans rfl; have hfz31_0 := blk_frozen BK215.out 0; have hfz31_1 := blk_frozen BK215.out 1; have hfz31_2 := blk_frozen BK215.out 2; have hfz31_3 := blk_frozen BK215.out 3) | ((with_reducible refine gate_callee (f := 28) rfl ?_); refine goesL_ (some 19) rfl rfl Tryd.func28 (by kernel_rfl) rfl #[.int .i64 8] rfl Ma ?_; (with_reducible refine (crosswaylaw04_ten.calls 8 t216 t217 t218 t219 _ A2.out).mono ?_); rintro e w32 ⟨rfl, hb⟩; refine ⟨_, rfl, ?_⟩; have n0_ := Aside0.mk (blk_below (g := gb215) (o := .cells #[.bool t210, .int .u64 t211, .int .u64 t212, .int .i64 t213] 26 (0, 0)) (by refine St ?_; refine blk_put (cs := #[.bool t210, .int .u64 t211, .int .u64 t212, .int .i64 0]) ?_ 3 _ rfl; refine St ?_; refine blk_put (cs := #[.bool t210, .int .u64 t211, .int .u64 0, .int .i64 0]) ?_ 2 _ rfl; refine St ?_; refine blk_put (cs := #[.bool t210, .int .u64 0, .int .u64 0, .int .i64 0]) ?_ 1 _ rfl; refine St ?_; refine blk_put (cs := #[.bool false, .int .u64 0, .int .u64 0, .int .i64 0]) ?_ 0 _ rfl; refine St ?_; exact BK215.out) hb); have n1_ := Aside0.mk (below_step (Hb HB.out) hb); clear BK215; clear HB; have BK215 := n0_; have HB := n1_; clear n0_ n1_; (try clear hb); (try clear hb2); (try clear hk); (try clear hi)) | ((with_reducible refine gate_callee (f := 24) rfl ?_); refine goesL_ (some 20) rfl rfl Tryd.func24 (by kernel_rfl) rfl #[.agg #[.bool t216, .int .u64 t217, .int .u64 t218, .int .i64 t219]] rfl Ma ?_; (with_reducible refine (prefix_Halves.calls k t216 t217 t218 t219 t220 t221 t222 t223 t224 t225 t226 t227 t228 _ A3.out).mono ?_); rintro e w33 ⟨rfl, hb⟩; refine ⟨_, rfl, ?_⟩; have n0_ := Aside0.mk (blk_below (g := gb215) (o := .cells #[.bool t210, .int .u64 t211, .int .u64 t212, .int .i64 t213] 26 (0, 0)) (St BK215.out) hb); have n1_ := Aside0.mk (below_step (Hb HB.out) hb); clear BK215; clear HB; have BK215 := n0_; have HB := n1_; clear n0_ n1_; (try clear hb); (try clear hb2); (try clear hk); (try clear hi)) | ((with_reducible refine gate_dst (N := 3) rfl ?_); refine box_event ?hg (N := 3) ?hd (cs := #[.bool false, .int .u64 0, .int .u64 0, .int .i64 0]) (t := 26) ?hr ?_; (case hd => rfl); (case hg => rfl); (case hr => first | (go_simp; done) | (go_simp; rfl)); intro gb229 hg w34 hbox hb; have n0_ := Aside0.mk (blk_below (g := gb215) (o := .cells #[.bool t210, .int .u64 t211, .int .u64 t212, .int .i64 t213] 26 (0, 0)) (St BK215.out) hb); have n1_ := Aside0.mk (below_step (Hb HB.out) hb); have n2_ := Aside0.mk (hbox); have n3_ := Aside0.mk ((by rw [hg]; exact (below_size (Hb HB.out)) : w.heap.size ≤ gb229)); have n4_ := Aside0.mk ((by rw [hg]; exact (below_size (Hb HB.out)) : w.heap.size ≤ gb229)); have n5_ := Aside0.mk ((by rw [hg]; exact Nat.ne_of_lt (blk_lt (g := gb215) (o := .cells #[.bool t210, .int .u64 t211, .int .u64 t212, .int .i64 t213] 26 (0, 0)) (St BK215.out)) : gb215 ≠ gb229)); have n6_ := Aside0.mk ((by rw [hg]; exact Nat.ne_of_gt (blk_lt (g := gb215) (o := .cells #[.bool t210, .int .u64 t211, .int .u64 t212, .int .i64 t213] 26 (0, 0)) (St BK215.out)) : gb229 ≠ gb215)); clear BK215; clear HB; have BK215 := n0_; have HB := n1_; have BK229 := n2_; have GW229 := n3_; have GE229 := n4_; have NB215_229 := n5_; have NB229_215 := n6_; clear n0_ n1_ n2_ n3_ n4_ n5_ n6_; clear hb hbox hg) | ((with_reducible refine gate_dst (N := 4) rfl ?_); refine box_event ?hg (N := 4) ?hd (cs := #[.bool false, .int .u64 0, .int .u64 0, .int .i64 0]) (t := 26) ?hr ?_; (case hd => rfl); (case hg => rfl); (case hr => first | (go_simp; done) | (go_simp; rfl)); intro gb230 hg w35 hbox hb; have n0_ := Aside0.mk (blk_below (g := gb215) (o := .cells #[.bool t210, .int .u64 t211, .int .u64 t212, .int .i64 t213] 26 (0, 0)) (St BK215.out) hb); have n1_ := Aside0.mk (blk_below (g := gb229) (o := .cells #[.bool false, .int .u64 0, .int .u64 0, .int .i64 0] 26 (0, 0)) (St BK229.out) hb); have n2_ := Aside0.mk (below_step (Hb HB.out) hb); have n3_ := Aside0.mk (hbox); have n4_ := Aside0.mk ((by rw [hg]; exact (below_size (Hb HB.out)) : w.heap.size ≤ gb230)); have n5_ := Aside0.mk ((by rw [hg]; exact (below_size (Hb HB.out)) : w.heap.size ≤ gb230)); have n6_ := Aside0.mk ((by rw [hg]; exact Nat.ne_of_lt (blk_lt (g := gb215) (o := .cells #[.bool t210, .int .u64 t211, .int .u64 t212, .int .i64 t213] 26 (0, 0)) (St BK215.out)) : gb215 ≠ gb230)); have n7_ := Aside0.mk ((by rw [hg]; exact Nat.ne_of_gt (blk_lt (g := gb215) (o := .cells #[.bool t210, .int .u64 t211, .int .u64 t212, .int .i64 t213] 26 (0, 0)) (St BK215.out)) : gb230 ≠ gb215)); have n8_ := Aside0.mk ((by rw [hg]; exact Nat.ne_of_lt (blk_lt (g := gb229) (o := .cells #[.bool false, .int .u64 0, .int .u64 0, .int .i64 0] 26 (0, 0)) (St BK229.out)) : gb229 ≠ gb230)); have n9_ := Aside0.mk ((by rw [hg]; exact Nat.ne_of_gt (blk_lt (g := gb229) (o := .cells #[.bool false, .int .u64 0, .int .u64 0, .int .i64 0] 26 (0, 0)) (St BK229.out)) : gb230 ≠ gb229)); clear BK215; clear BK229; clear HB; have BK215 := n0_; have BK229 := n1_; have HB := n2_; have BK230 := n3_; have GW230 := n4_; have GE230 := n5_; have NB215_230 := n6_; have NB230_215 := n7_; have NB229_230 := n8_; have NB230_229 := n9_; clear n0_ n1_ n2_ n3_ n4_ n5_ n6_ n7_ n8_ n9_; clear hb hbox hg; have hnb36 := NB229_215.out; have hnc36 := NB215_229.out; have hnb37 := NB229_230.out; have hnc37 := NB230_229.out; have hcz38_0 : w35.cell? ⟨gb229, 0, none⟩ = some (.bool false) := (blk_cell BK229.out 0).trans rfl; have hcz38_1 : w35.cell? ⟨gb229, 1, none⟩ = some (.int .u64 0) := (blk_cell BK229.out 1).trans rfl; have hcz38_2 : w35.cell? ⟨gb229, 2, none⟩ = some (.int .u64 0) := (blk_cell BK229.out 2).trans rfl; have hcz38_3 : w35.cell? ⟨gb229, 3, none⟩ = some (.int .i64 0) := (blk_cell BK229.out 3).trans rfl; have hfz38_0 := blk_frozen BK229.out 0; have hfz38_1 := blk_frozen BK229.out 1; have hfz38_2 := blk_frozen BK229.out 2; have hfz38_3 := blk_frozen BK229.out 3; have hnb39 := NB230_215.out; have hnc39 := NB215_230.out; have hcz40_0 : w35.cell? ⟨gb230, 0, none⟩ = some (.bool false) := (blk_cell BK230.out 0).trans rfl; have hcz40_1 : w35.cell? ⟨gb230, 1, none⟩ = some (.int .u64 0) := (blk_cell BK230.out 1).trans rfl; have hcz40_2 : w35.cell? ⟨gb230, 2, none⟩ = some (.int .u64 0) := (blk_cell BK230.out 2).trans rfl; have hcz40_3 : w35.cell? ⟨gb230, 3, none⟩ = some (.int .i64 0) := (blk_cell BK230.out 3).trans rfl; have hfz40_0 := blk_frozen BK230.out 0; have hfz40_1 := blk_frozen BK230.out 1; have hfz40_2 := blk_frozen BK230.out 2; have hfz40_3 := blk_frozen BK230.out 3) | ((with_reducible refine gate_callee (f := 23) rfl ?_); refine goesL_ (some 25) rfl rfl Tryd.func23 (by kernel_rfl) rfl #[.string (⟨#[49, 48, 46, 48, 46, 48, 46, 48, 47, 56]⟩ : ByteArray)] rfl Ma ?_; (with_reducible refine (prefix_Parse.calls k (⟨#[49, 48, 46, 48, 46, 48, 46, 48, 47, 56]⟩ : ByteArray) t231 t232 t233 t234 t235 _ (Glob_below HG.out (Hb HB.out)) A4.out).mono ?_); rintro e w41 ⟨rfl, hb⟩; refine ⟨_, rfl, ?_⟩; have n0_ := Aside0.mk (blk_below (g := gb215) (o := .cells #[.bool t210, .int .u64 t211, .int .u64 t212, .int .i64 t213] 26 (0, 0)) (by refine St ?_; refine blk_far ?_ NB215_230.out _; refine St ?_; refine blk_far ?_ NB215_230.out _; refine St ?_; refine blk_far ?_ NB215_230.out _; refine St ?_; refine blk_far ?_ NB215_230.out _; refine St ?_; refine blk_far ?_ NB215_229.out _; refine St ?_; refine blk_far ?_ NB215_229.out _; refine St ?_; refine blk_far ?_ NB215_229.out _; refine St ?_; refine blk_far ?_ NB215_229.out _; refine St ?_; exact BK215.out) hb); have n1_ := Aside0.mk (blk_below (g := gb229) (o := .cells #[.bool t220, .int .u64 t221, .int .u64 t222, .int .i64 t223] 26 (0, 0)) (by refine St ?_; refine blk_far ?_ NB229_230.out _; refine St ?_; refine blk_far ?_ NB229_230.out _; refine St ?_; refine blk_far ?_ NB229_230.out _; refine St ?_; refine blk_far ?_ NB229_230.out _; refine St ?_; refine blk_put (cs := #[.bool t220, .int .u64 t221, .int .u64 t222, .int .i64 0]) ?_ 3 _ rfl; refine St ?_; refine blk_put (cs := #[.bool t220, .int .u64 t221, .int .u64 0, .int .i64 0]) ?_ 2 _ rfl; refine St ?_; refine blk_put (cs := #[.bool t220, .int .u64 0, .int .u64 0, .int .i64 0]) ?_ 1 _ rfl; refine St ?_; refine blk_put (cs := #[.bool false, .int .u64 0, .int .u64 0, .int .i64 0]) ?_ 0 _ rfl; refine St ?_; exact BK229.out) hb); have n2_ := Aside0.mk (blk_below (g := gb230) (o := .cells #[.bool t224, .int .u64 t225, .int .u64 t226, .int .i64 t227] 26 (0, 0)) (by refine St ?_; refine blk_put (cs := #[.bool t224, .int .u64 t225, .int .u64 t226, .int .i64 0]) ?_ 3 _ rfl; refine St ?_; refine blk_put (cs := #[.bool t224, .int .u64 t225, .int .u64 0, .int .i64 0]) ?_ 2 _ rfl; refine St ?_; refine blk_put (cs := #[.bool t224, .int .u64 0, .int .u64 0, .int .i64 0]) ?_ 1 _ rfl; refine St ?_; refine blk_put (cs := #[.bool false, .int .u64 0, .int .u64 0, .int .i64 0]) ?_ 0 _ rfl; refine St ?_; refine blk_far ?_ NB230_229.out _; refine St ?_; refine blk_far ?_ NB230_229.out _; refine St ?_; refine blk_far ?_ NB230_229.out _; refine St ?_; refine blk_far ?_ NB230_229.out _; refine St ?_; exact BK230.out) hb); have n3_ := Aside0.mk (below_step (Hb HB.out) hb); clear BK215; clear BK229; clear BK230; clear HB; have BK215 := n0_; have BK229 := n1_; have BK230 := n2_; have HB := n3_; clear n0_ n1_ n2_ n3_; (try clear hb); (try clear hb2); (try clear hk); (try clear hi)) | ((with_reducible refine gate_dst (N := 6) rfl ?_); refine box_event ?hg (N := 6) ?hd (cs := #[.bool false, .int .u64 0, .int .u64 0, .int .i64 0]) (t := 26) ?hr ?_; (case hd => rfl); (case hg => rfl); (case hr => first | (go_simp; done) | (go_simp; rfl)); intro gb236 hg w42 hbox hb; have n0_ := Aside0.mk (blk_below (g := gb215) (o := .cells #[.bool t210, .int .u64 t211, .int .u64 t212, .int .i64 t213] 26 (0, 0)) (St BK215.out) hb); have n1_ := Aside0.mk (blk_below (g := gb229) (o := .cells #[.bool t220, .int .u64 t221, .int .u64 t222, .int .i64 t223] 26 (0, 0)) (St BK229.out) hb); have n2_ := Aside0.mk (blk_below (g := gb230) (o := .cells #[.bool t224, .int .u64 t225, .int .u64 t226, .int .i64 t227] 26 (0, 0)) (St BK230.out) hb); have n3_ := Aside0.mk (below_step (Hb HB.out) hb); have n4_ := Aside0.mk (hbox); have n5_ := Aside0.mk ((by rw [hg]; exact (below_size (Hb HB.out)) : w.heap.size ≤ gb236)); have n6_ := Aside0.mk ((by rw [hg]; exact (below_size (Hb HB.out)) : w.heap.size ≤ gb236)); have n7_ := Aside0.mk ((by rw [hg]; exact Nat.ne_of_lt (blk_lt (g := gb215) (o := .cells #[.bool t210, .int .u64 t211, .int .u64 t212, .int .i64 t213] 26 (0, 0)) (St BK215.out)) : gb215 ≠ gb236)); have n8_ := Aside0.mk ((by rw [hg]; exact Nat.ne_of_gt (blk_lt (g := gb215) (o := .cells #[.bool t210, .int .u64 t211, .int .u64 t212, .int .i64 t213] 26 (0, 0)) (St BK215.out)) : gb236 ≠ gb215)); have n9_ := Aside0.mk ((by rw [hg]; exact Nat.ne_of_lt (blk_lt (g := gb229) (o := .cells #[.bool t220, .int .u64 t221, .int .u64 t222, .int .i64 t223] 26 (0, 0)) (St BK229.out)) : gb229 ≠ gb236)); have n10_ := Aside0.mk ((by rw [hg]; exact Nat.ne_of_gt (blk_lt (g := gb229) (o := .cells #[.bool t220, .int .u64 t221, .int .u64 t222, .int .i64 t223] 26 (0, 0)) (St BK229.out)) : gb236 ≠ gb229)); have n11_ := Aside0.mk ((by rw [hg]; exact Nat.ne_of_lt (blk_lt (g := gb230) (o := .cells #[.bool t224, .int .u64 t225, .int .u64 t226, .int .i64 t227] 26 (0, 0)) (St BK230.out)) : gb230 ≠ gb236)); have n12_ := Aside0.mk ((by rw [hg]; exact Nat.ne_of_gt (blk_lt (g := gb230) (o := .cells #[.bool t224, .int .u64 t225, .int .u64 t226, .int .i64 t227] 26 (0, 0)) (St BK230.out)) : gb236 ≠ gb230)); clear BK215; clear BK229; clear BK230; clear HB; have BK215 := n0_; have BK229 := n1_; have BK230 := n2_; have HB := n3_; have BK236 := n4_; have GW236 := n5_; have GE236 := n6_; have NB215_236 := n7_; have NB236_215 := n8_; have NB229_236 := n9_; have NB236_229 := n10_; have NB230_236 := n11_; have NB236_230 := n12_; clear n0_ n1_ n2_ n3_ n4_ n5_ n6_ n7_ n8_ n9_ n10_ n11_ n12_; clear hb hbox hg; have hnb43 := NB236_215.out; have hnc43 := NB215_236.out; have hnb44 := NB236_229.out; have hnc44 := NB229_236.out; have hnb45 := NB236_230.out; have hnc45 := NB230_236.out; have hcz46_0 : w42.cell? ⟨gb236, 0, none⟩ = some (.bool false) := (blk_cell BK236.out 0).trans rfl; have hcz46_1 : w42.cell? ⟨gb236, 1, none⟩ = some (.int .u64 0) := (blk_cell BK236.out 1).trans rfl; have hcz46_2 : w42.cell? ⟨gb236, 2, none⟩ = some (.int .u64 0) := (blk_cell BK236.out 2).trans rfl; have hcz46_3 : w42.cell? ⟨gb236, 3, none⟩ = some (.int .i64 0) := (blk_cell BK236.out 3).trans rfl; have hfz46_0 := blk_frozen BK236.out 0; have hfz46_1 := blk_frozen BK236.out 1; have hfz46_2 := blk_frozen BK236.out 2; have hfz46_3 := blk_frozen BK236.out 3) | ((with_reducible refine gate_callee (f := 23) rfl ?_); refine goesL_ (some 29) rfl rfl Tryd.func23 (by kernel_rfl) rfl #[.string (⟨#[49, 48, 46, 48, 46, 48, 46, 49, 47, 56]⟩ : ByteArray)] rfl Ma ?_; (with_reducible refine (prefix_Parse.calls k (⟨#[49, 48, 46, 48, 46, 48, 46, 49, 47, 56]⟩ : ByteArray) t237 t238 t239 t240 t241 _ (Glob_below HG.out (Hb HB.out)) A5.out).mono ?_); rintro e w47 ⟨rfl, hb⟩; refine ⟨_, rfl, ?_⟩; have n0_ := Aside0.mk (blk_below (g := gb215) (o := .cells #[.bool t210, .int .u64 t211, .int .u64 t212, .int .i64 t213] 26 (0, 0)) (by refine St ?_; refine blk_far ?_ NB215_236.out _; refine St ?_; refine blk_far ?_ NB215_236.out _; refine St ?_; refine blk_far ?_ NB215_236.out _; refine St ?_; refine blk_far ?_ NB215_236.out _; refine St ?_; exact BK215.out) hb); have n1_ := Aside0.mk (blk_below (g := gb229) (o := .cells #[.bool t220, .int .u64 t221, .int .u64 t222, .int .i64 t223] 26 (0, 0)) (by refine St ?_; refine blk_far ?_ NB229_236.out _; refine St ?_; refine blk_far ?_ NB229_236.out _; refine St ?_; refine blk_far ?_ NB229_236.out _; refine St ?_; refine blk_far ?_ NB229_236.out _; refine St ?_; exact BK229.out) hb); have n2_ := Aside0.mk (blk_below (g := gb230) (o := .cells #[.bool t224, .int .u64 t225, .int .u64 t226, .int .i64 t227] 26 (0, 0)) (by refine St ?_; refine blk_far ?_ NB230_236.out _; refine St ?_; refine blk_far ?_ NB230_236.out _; refine St ?_; refine blk_far ?_ NB230_236.out _; refine St ?_; refine blk_far ?_ NB230_236.out _; refine St ?_; exact BK230.out) hb); have n3_ := Aside0.mk (blk_below (g := gb236) (o := .cells #[.bool t231, .int .u64 t232, .int .u64 t233, .int .i64 t234] 26 (0, 0)) (by refine St ?_; refine blk_put (cs := #[.bool t231, .int .u64 t232, .int .u64 t233, .int .i64 0]) ?_ 3 _ rfl; refine St ?_; refine blk_put (cs := #[.bool t231, .int .u64 t232, .int .u64 0, .int .i64 0]) ?_ 2 _ rfl; refine St ?_; refine blk_put (cs := #[.bool t231, .int .u64 0, .int .u64 0, .int .i64 0]) ?_ 1 _ rfl; refine St ?_; refine blk_put (cs := #[.bool false, .int .u64 0, .int .u64 0, .int .i64 0]) ?_ 0 _ rfl; refine St ?_; exact BK236.out) hb); have n4_ := Aside0.mk (below_step (Hb HB.out) hb); clear BK215; clear BK229; clear BK230; clear BK236; clear HB; have BK215 := n0_; have BK229 := n1_; have BK230 := n2_; have BK236 := n3_; have HB := n4_; clear n0_ n1_ n2_ n3_ n4_; (try clear hb); (try clear hb2); (try clear hk); (try clear hi)) | ((with_reducible refine gate_dst (N := 8) rfl ?_); refine box_event ?hg (N := 8) ?hd (cs := #[.bool false, .int .u64 0, .int .u64 0, .int .i64 0]) (t := 26) ?hr ?_; (case hd => rfl); (case hg => rfl); (case hr => first | (go_simp; done) | (go_simp; rfl)); intro gb242 hg w48 hbox hb; have n0_ := Aside0.mk (blk_below (g := gb215) (o := .cells #[.bool t210, .int .u64 t211, .int .u64 t212, .int .i64 t213] 26 (0, 0)) (St BK215.out) hb); have n1_ := Aside0.mk (blk_below (g := gb229) (o := .cells #[.bool t220, .int .u64 t221, .int .u64 t222, .int .i64 t223] 26 (0, 0)) (St BK229.out) hb); have n2_ := Aside0.mk (blk_below (g := gb230) (o := .cells #[.bool t224, .int .u64 t225, .int .u64 t226, .int .i64 t227] 26 (0, 0)) (St BK230.out) hb); have n3_ := Aside0.mk (blk_below (g := gb236) (o := .cells #[.bool t231, .int .u64 t232, .int .u64 t233, .int .i64 t234] 26 (0, 0)) (St BK236.out) hb); have n4_ := Aside0.mk (below_step (Hb HB.out) hb); have n5_ := Aside0.mk (hbox); have n6_ := Aside0.mk ((by rw [hg]; exact (below_size (Hb HB.out)) : w.heap.size ≤ gb242)); have n7_ := Aside0.mk ((by rw [hg]; exact (below_size (Hb HB.out)) : w.heap.size ≤ gb242)); have n8_ := Aside0.mk ((by rw [hg]; exact Nat.ne_of_lt (blk_lt (g := gb215) (o := .cells #[.bool t210, .int .u64 t211, .int .u64 t212, .int .i64 t213] 26 (0, 0)) (St BK215.out)) : gb215 ≠ gb242)); have n9_ := Aside0.mk ((by rw [hg]; exact Nat.ne_of_gt (blk_lt (g := gb215) (o := .cells #[.bool t210, .int .u64 t211, .int .u64 t212, .int .i64 t213] 26 (0, 0)) (St BK215.out)) : gb242 ≠ gb215)); have n10_ := Aside0.mk ((by rw [hg]; exact Nat.ne_of_lt (blk_lt (g := gb229) (o := .cells #[.bool t220, .int .u64 t221, .int .u64 t222, .int .i64 t223] 26 (0, 0)) (St BK229.out)) : gb229 ≠ gb242)); have n11_ := Aside0.mk ((by rw [hg]; exact Nat.ne_of_gt (blk_lt (g := gb229) (o := .cells #[.bool t220, .int .u64 t221, .int .u64 t222, .int .i64 t223] 26 (0, 0)) (St BK229.out)) : gb242 ≠ gb229)); have n12_ := Aside0.mk ((by rw [hg]; exact Nat.ne_of_lt (blk_lt (g := gb230) (o := .cells #[.bool t224, .int .u64 t225, .int .u64 t226, .int .i64 t227] 26 (0, 0)) (St BK230.out)) : gb230 ≠ gb242)); have n13_ := Aside0.mk ((by rw [hg]; exact Nat.ne_of_gt (blk_lt (g := gb230) (o := .cells #[.bool t224, .int .u64 t225, .int .u64 t226, .int .i64 t227] 26 (0, 0)) (St BK230.out)) : gb242 ≠ gb230)); have n14_ := Aside0.mk ((by rw [hg]; exact Nat.ne_of_lt (blk_lt (g := gb236) (o := .cells #[.bool t231, .int .u64 t232, .int .u64 t233, .int .i64 t234] 26 (0, 0)) (St BK236.out)) : gb236 ≠ gb242)); have n15_ := Aside0.mk ((by rw [hg]; exact Nat.ne_of_gt (blk_lt (g := gb236) (o := .cells #[.bool t231, .int .u64 t232, .int .u64 t233, .int .i64 t234] 26 (0, 0)) (St BK236.out)) : gb242 ≠ gb236)); clear BK215; clear BK229; clear BK230; clear BK236; clear HB; have BK215 := n0_; have BK229 := n1_; have BK230 := n2_; have BK236 := n3_; have HB := n4_; have BK242 := n5_; have GW242 := n6_; have GE242 := n7_; have NB215_242 := n8_; have NB242_215 := n9_; have NB229_242 := n10_; have NB242_229 := n11_; have NB230_242 := n12_; have NB242_230 := n13_; have NB236_242 := n14_; have NB242_236 := n15_; clear n0_ n1_ n2_ n3_ n4_ n5_ n6_ n7_ n8_ n9_ n10_ n11_ n12_ n13_ n14_ n15_; clear hb hbox hg; have hnb49 := NB242_215.out; have hnc49 := NB215_242.out; have hnb50 := NB242_229.out; have hnc50 := NB229_242.out; have hnb51 := NB242_230.out; have hnc51 := NB230_242.out; have hnb52 := NB242_236.out; have hnc52 := NB236_242.out; have hcz53_0 : w48.cell? ⟨gb242, 0, none⟩ = some (.bool false) := (blk_cell BK242.out 0).trans rfl; have hcz53_1 : w48.cell? ⟨gb242, 1, none⟩ = some (.int .u64 0) := (blk_cell BK242.out 1).trans rfl; have hcz53_2 : w48.cell? ⟨gb242, 2, none⟩ = some (.int .u64 0) := (blk_cell BK242.out 2).trans rfl; have hcz53_3 : w48.cell? ⟨gb242, 3, none⟩ = some (.int .i64 0) := (blk_cell BK242.out 3).trans rfl; have hfz53_0 := blk_frozen BK242.out 0; have hfz53_1 := blk_frozen BK242.out 1; have hfz53_2 := blk_frozen BK242.out 2; have hfz53_3 := blk_frozen BK242.out 3))
               have n0_ : Aside0 (((((w48.setCell ⟨gb242, 0, none⟩ (.bool t237)).setCell ⟨gb242, 1, none⟩ (.int .u64 t238)).setCell ⟨gb242, 2, none⟩ (.int .u64 t239)).setCell ⟨gb242, 3, none⟩ (.int .i64 t240)).heap[gb215]? = some (.cells #[.bool t210, .int .u64 t211, .int .u64 t212, .int .i64 t213] 26 (0, 0))) := ⟨by refine St ?_; refine blk_far ?_ NB215_242.out _; refine St ?_; refine blk_far ?_ NB215_242.out _; refine St ?_; refine blk_far ?_ NB215_242.out _; refine St ?_; refine blk_far ?_ NB215_242.out _; refine St ?_; exact BK215.out⟩
               have n1_ : Aside0 (((((w48.setCell ⟨gb242, 0, none⟩ (.bool t237)).setCell ⟨gb242, 1, none⟩ (.int .u64 t238)).setCell ⟨gb242, 2, none⟩ (.int .u64 t239)).setCell ⟨gb242, 3, none⟩ (.int .i64 t240)).heap[gb229]? = some (.cells #[.bool t220, .int .u64 t221, .int .u64 t222, .int .i64 t223] 26 (0, 0))) := ⟨by refine St ?_; refine blk_far ?_ NB229_242.out _; refine St ?_; refine blk_far ?_ NB229_242.out _; refine St ?_; refine blk_far ?_ NB229_242.out _; refine St ?_; refine blk_far ?_ NB229_242.out _; refine St ?_; exact BK229.out⟩
               have n2_ : Aside0 (((((w48.setCell ⟨gb242, 0, none⟩ (.bool t237)).setCell ⟨gb242, 1, none⟩ (.int .u64 t238)).setCell ⟨gb242, 2, none⟩ (.int .u64 t239)).setCell ⟨gb242, 3, none⟩ (.int .i64 t240)).heap[gb230]? = some (.cells #[.bool t224, .int .u64 t225, .int .u64 t226, .int .i64 t227] 26 (0, 0))) := ⟨by refine St ?_; refine blk_far ?_ NB230_242.out _; refine St ?_; refine blk_far ?_ NB230_242.out _; refine St ?_; refine blk_far ?_ NB230_242.out _; refine St ?_; refine blk_far ?_ NB230_242.out _; refine St ?_; exact BK230.out⟩
               have n3_ : Aside0 (((((w48.setCell ⟨gb242, 0, none⟩ (.bool t237)).setCell ⟨gb242, 1, none⟩ (.int .u64 t238)).setCell ⟨gb242, 2, none⟩ (.int .u64 t239)).setCell ⟨gb242, 3, none⟩ (.int .i64 t240)).heap[gb236]? = some (.cells #[.bool t231, .int .u64 t232, .int .u64 t233, .int .i64 t234] 26 (0, 0))) := ⟨by refine St ?_; refine blk_far ?_ NB236_242.out _; refine St ?_; refine blk_far ?_ NB236_242.out _; refine St ?_; refine blk_far ?_ NB236_242.out _; refine St ?_; refine blk_far ?_ NB236_242.out _; refine St ?_; exact BK236.out⟩
               have n4_ : Aside0 (((((w48.setCell ⟨gb242, 0, none⟩ (.bool t237)).setCell ⟨gb242, 1, none⟩ (.int .u64 t238)).setCell ⟨gb242, 2, none⟩ (.int .u64 t239)).setCell ⟨gb242, 3, none⟩ (.int .i64 t240)).heap[gb242]? = some (.cells #[.bool t237, .int .u64 t238, .int .u64 t239, .int .i64 t240] 26 (0, 0))) := ⟨by refine St ?_; refine blk_put (cs := #[.bool t237, .int .u64 t238, .int .u64 t239, .int .i64 0]) ?_ 3 _ rfl; refine St ?_; refine blk_put (cs := #[.bool t237, .int .u64 t238, .int .u64 0, .int .i64 0]) ?_ 2 _ rfl; refine St ?_; refine blk_put (cs := #[.bool t237, .int .u64 0, .int .u64 0, .int .i64 0]) ?_ 1 _ rfl; refine St ?_; refine blk_put (cs := #[.bool false, .int .u64 0, .int .u64 0, .int .i64 0]) ?_ 0 _ rfl; refine St ?_; exact BK242.out⟩
               have n5_ : Aside0 (Below w.heap.size w ((((w48.setCell ⟨gb242, 0, none⟩ (.bool t237)).setCell ⟨gb242, 1, none⟩ (.int .u64 t238)).setCell ⟨gb242, 2, none⟩ (.int .u64 t239)).setCell ⟨gb242, 3, none⟩ (.int .i64 t240))) := ⟨Hb HB.out⟩
               (try clear BK215)
               (try clear BK229)
               (try clear BK230)
               (try clear BK236)
               (try clear BK242)
               (try clear HB)
               generalize ((((w48.setCell ⟨gb242, 0, none⟩ (.bool t237)).setCell ⟨gb242, 1, none⟩ (.int .u64 t238)).setCell ⟨gb242, 2, none⟩ (.int .u64 t239)).setCell ⟨gb242, 3, none⟩ (.int .i64 t240)) = w54 at n0_ n1_ n2_ n3_ n4_ n5_ ⊢
               have BK215 := n0_
               have BK229 := n1_
               have BK230 := n2_
               have BK236 := n3_
               have BK242 := n4_
               have HB := n5_
               clear n0_ n1_ n2_ n3_ n4_ n5_
               have n0_ := Aside0.mk (blk_drew BK215.out)
               have n1_ := Aside0.mk (blk_drew BK229.out)
               have n2_ := Aside0.mk (blk_drew BK230.out)
               have n3_ := Aside0.mk (blk_drew BK236.out)
               have n4_ := Aside0.mk (blk_drew BK242.out)
               have n5_ := Aside0.mk (below_drew1 HB.out)
               clear BK215
               clear BK229
               clear BK230
               clear BK236
               clear BK242
               clear HB
               have BK215 := n0_
               have BK229 := n1_
               have BK230 := n2_
               have BK236 := n3_
               have BK242 := n4_
               have HB := n5_
               clear n0_ n1_ n2_ n3_ n4_ n5_
               refine start_ (n := 23) (S := fun w' => w'.cell? ⟨gb215, 0, none⟩ = some (.bool t210) ∧ w'.cell? ⟨gb215, 1, none⟩ = some (.int .u64 t211) ∧ w'.cell? ⟨gb215, 2, none⟩ = some (.int .u64 t212) ∧ w'.cell? ⟨gb215, 3, none⟩ = some (.int .i64 t213) ∧ w'.cell? ⟨gb229, 0, none⟩ = some (.bool t220) ∧ w'.cell? ⟨gb229, 1, none⟩ = some (.int .u64 t221) ∧ w'.cell? ⟨gb229, 2, none⟩ = some (.int .u64 t222) ∧ w'.cell? ⟨gb229, 3, none⟩ = some (.int .i64 t223) ∧ w'.cell? ⟨gb230, 0, none⟩ = some (.bool t224) ∧ w'.cell? ⟨gb230, 1, none⟩ = some (.int .u64 t225) ∧ w'.cell? ⟨gb230, 2, none⟩ = some (.int .u64 t226) ∧ w'.cell? ⟨gb230, 3, none⟩ = some (.int .i64 t227)) (ds := []) #[Z,Z,Z,Z,Z,Z,Z,Z,Z,Z,Z,Z,Z,Z,Z,Z,Z,Z,Z,Z,Z,Z,Z] (by kernel_rfl) rfl rfl ⟨(blk_cell BK215.out 0).trans rfl, (blk_cell BK215.out 1).trans rfl, (blk_cell BK215.out 2).trans rfl, (blk_cell BK215.out 3).trans rfl, (blk_cell BK229.out 0).trans rfl, (blk_cell BK229.out 1).trans rfl, (blk_cell BK229.out 2).trans rfl, (blk_cell BK229.out 3).trans rfl, (blk_cell BK230.out 0).trans rfl, (blk_cell BK230.out 1).trans rfl, (blk_cell BK230.out 2).trans rfl, (blk_cell BK230.out 3).trans rfl⟩ (fun hHeld => ?_); refine with_tabW crosswaylaw04_awake.tab5 crosswaylaw04_awake.bits5 (fun HT_ HW_ => ?_)
               generalize w54.drew = w55 at BK215 BK229 BK230 BK236 BK242 HB hHeld ⊢
               refine pure_ (i := 0) (N := some 32) (v := ?_) (a' := ?_) #[Y,Z,Z,Z,Z,Z,Z,Z,Z,Z,Z,Z,Z,Z,Z,Z,Z,Z,Z,Z,Z,Z,Z] rfl rfl (any_of HT_.out (by kernel_rfl)) (fun _ _ _ h => h) (Or.inl ⟨by rfl, ?_⟩) ?_ ?_
               rotate_left
               ·exact Sw
               rotate_left
               ·exact Sr
               refine pure_ (i := 1) (N := some 33) (v := ?_) (a' := ?_) #[Y,Y,Z,Z,Z,Z,Z,Z,Z,Z,Z,Z,Z,Z,Z,Z,Z,Z,Z,Z,Z,Z,Z] rfl rfl (any_of HT_.out (by kernel_rfl)) (fun _ _ _ h => h) (Or.inl ⟨by rfl, ?_⟩) ?_ ?_
               rotate_left
               ·exact Sw
               rotate_left
               ·exact Sr
               refine pure_ (i := 2) (N := some 34) (v := ?_) (a' := ?_) #[Y,Y,Y,Z,Z,Z,Z,Z,Z,Z,Z,Z,Z,Z,Z,Z,Z,Z,Z,Z,Z,Z,Z] rfl rfl (any_of HT_.out (by kernel_rfl)) (fun _ _ _ h => h) (Or.inl ⟨by rfl, ?_⟩) ?_ ?_
               rotate_left
               ·exact Sw
               rotate_left
               ·exact Sr
               refine take_ (i := 3) (N := some 35) (v := ?_) (a' := ?_) #[Y,Y,Y,Y,Z,Z,Z,Z,Z,Z,Z,Z,Z,Z,Z,Z,Z,Z,Z,Z,Z,Z,Z] rfl rfl (take_ofW HT_.out HW_.out (by kernel_rfl)) (fun _ _ _ h => h) (Or.inl ⟨by rfl, ?_⟩) hHeld ?_ ?_
               rotate_left
               ·rintro w' ⟨s0, s1, s2, s3, s4, s5, s6, s7, s8, s9, s10, s11⟩
                go_simp
                with_reducible rfl
               rotate_left
               ·exact Sr
               refine one_ (i := 4) (N := some 36) #[Y,Y,Y,Y,Y,Z,Z,Z,Z,Z,Z,Z,Z,Z,Z,Z,Z,Z,Z,Z,Z,Z,Z] rfl rfl (one_of HT_.out (by kernel_rfl)) (by decide) (fun K hK => ?_)
               refine goes_ Tryd.func28 (by kernel_rfl) rfl #[.int .i64 8] (by rfl) rfl rfl Ma ?_
               with_reducible refine (crosswaylaw04_ten.calls 8 t243 t244 t245 t246 _ A7.out).mono ?_
               rintro e w56 ⟨rfl, hb⟩
               refine ⟨_, rfl, ?_⟩
               have n0_ := Aside0.mk (blk_below (g := gb215) (o := .cells #[.bool t210, .int .u64 t211, .int .u64 t212, .int .i64 t213] 26 (0, 0)) (St BK215.out) hb)
               have n1_ := Aside0.mk (blk_below (g := gb229) (o := .cells #[.bool t220, .int .u64 t221, .int .u64 t222, .int .i64 t223] 26 (0, 0)) (St BK229.out) hb)
               have n2_ := Aside0.mk (blk_below (g := gb230) (o := .cells #[.bool t224, .int .u64 t225, .int .u64 t226, .int .i64 t227] 26 (0, 0)) (St BK230.out) hb)
               have n3_ := Aside0.mk (blk_below (g := gb236) (o := .cells #[.bool t231, .int .u64 t232, .int .u64 t233, .int .i64 t234] 26 (0, 0)) (St BK236.out) hb)
               have n4_ := Aside0.mk (blk_below (g := gb242) (o := .cells #[.bool t237, .int .u64 t238, .int .u64 t239, .int .i64 t240] 26 (0, 0)) (St BK242.out) hb)
               have n5_ := Aside0.mk (below_step (Hb HB.out) hb)
               clear BK215
               clear BK229
               clear BK230
               clear BK236
               clear BK242
               clear HB
               have BK215 := n0_
               have BK229 := n1_
               have BK230 := n2_
               have BK236 := n3_
               have BK242 := n4_
               have HB := n5_
               clear n0_ n1_ n2_ n3_ n4_ n5_
               (try clear hb)
               (try clear hb2)
               (try clear hk)
               (try clear hi)
               refine hK.out _ _ ⟨(blk_cell BK215.out 0).trans rfl, (blk_cell BK215.out 1).trans rfl, (blk_cell BK215.out 2).trans rfl, (blk_cell BK215.out 3).trans rfl, (blk_cell BK229.out 0).trans rfl, (blk_cell BK229.out 1).trans rfl, (blk_cell BK229.out 2).trans rfl, (blk_cell BK229.out 3).trans rfl, (blk_cell BK230.out 0).trans rfl, (blk_cell BK230.out 1).trans rfl, (blk_cell BK230.out 2).trans rfl, (blk_cell BK230.out 3).trans rfl⟩ (fun hHeld => ?_)
               clear hK K
               refine norm_ (a' := ?_) ?_ ?_
               rotate_left
               ·show Act.put _ (some 36) _ = _
                refine Sp ?_
                rfl
               refine pure_ (i := 5) (N := some 37) (v := ?_) (a' := ?_) #[Y,Y,Y,Y,Y,Y,Z,Z,Z,Z,Z,Z,Z,Z,Z,Z,Z,Z,Z,Z,Z,Z,Z] rfl rfl (any_of HT_.out (by kernel_rfl)) (fun _ _ _ h => h) (Or.inl ⟨by rfl, ?_⟩) ?_ ?_
               rotate_left
               ·exact Sw
               rotate_left
               ·exact Sr
               refine pure_ (i := 6) (N := some 38) (v := ?_) (a' := ?_) #[Y,Y,Y,Y,Y,Y,Y,Z,Z,Z,Z,Z,Z,Z,Z,Z,Z,Z,Z,Z,Z,Z,Z] rfl rfl (any_of HT_.out (by kernel_rfl)) (fun _ _ _ h => h) (Or.inl ⟨by rfl, ?_⟩) ?_ ?_
               rotate_left
               ·exact Sw
               rotate_left
               ·exact Sr
               refine pure_ (i := 7) (N := some 39) (v := ?_) (a' := ?_) #[Y,Y,Y,Y,Y,Y,Y,Y,Z,Z,Z,Z,Z,Z,Z,Z,Z,Z,Z,Z,Z,Z,Z] rfl rfl (any_of HT_.out (by kernel_rfl)) (fun _ _ _ h => h) (Or.inl ⟨by rfl, ?_⟩) ?_ ?_
               rotate_left
               ·exact Sw
               rotate_left
               ·exact Sr
               refine pure_ (i := 8) (N := some 40) (v := ?_) (a' := ?_) #[Y,Y,Y,Y,Y,Y,Y,Y,Y,Z,Z,Z,Z,Z,Z,Z,Z,Z,Z,Z,Z,Z,Z] rfl rfl (any_of HT_.out (by kernel_rfl)) (fun _ _ _ h => h) (Or.inl ⟨by rfl, ?_⟩) ?_ ?_
               rotate_left
               ·exact Sw
               rotate_left
               ·exact Sr
               refine pure_ (i := 9) (N := some 41) (v := ?_) (a' := ?_) #[Y,Y,Y,Y,Y,Y,Y,Y,Y,Y,Z,Z,Z,Z,Z,Z,Z,Z,Z,Z,Z,Z,Z] rfl rfl (any_of HT_.out (by kernel_rfl)) (fun _ _ _ h => h) (Or.inl ⟨by rfl, ?_⟩) ?_ ?_
               rotate_left
               ·exact Sw
               rotate_left
               ·exact Sr
               refine pure_ (i := 10) (N := some 42) (v := ?_) (a' := ?_) #[Y,Y,Y,Y,Y,Y,Y,Y,Y,Y,Y,Z,Z,Z,Z,Z,Z,Z,Z,Z,Z,Z,Z] rfl rfl (any_of HT_.out (by kernel_rfl)) (fun _ _ _ h => h) (Or.inl ⟨by rfl, ?_⟩) ?_ ?_
               rotate_left
               ·exact Sw
               rotate_left
               ·exact Sr
               refine pure_ (i := 11) (N := some 43) (v := ?_) (a' := ?_) #[Y,Y,Y,Y,Y,Y,Y,Y,Y,Y,Y,Y,Z,Z,Z,Z,Z,Z,Z,Z,Z,Z,Z] rfl rfl (any_of HT_.out (by kernel_rfl)) (fun _ _ _ h => h) (Or.inl ⟨by rfl, ?_⟩) ?_ ?_
               rotate_left
               ·exact Sw
               rotate_left
               ·exact Sr
               refine take_ (i := 12) (N := some 44) (v := ?_) (a' := ?_) #[Y,Y,Y,Y,Y,Y,Y,Y,Y,Y,Y,Y,Y,Z,Z,Z,Z,Z,Z,Z,Z,Z,Z] rfl rfl (take_ofW HT_.out HW_.out (by kernel_rfl)) (fun _ _ _ h => h) (Or.inl ⟨by rfl, ?_⟩) hHeld ?_ ?_
               rotate_left
               ·rintro w' ⟨s0, s1, s2, s3, s4, s5, s6, s7, s8, s9, s10, s11⟩
                go_simp
                with_reducible rfl
               rotate_left
               ·exact Sr
               refine one_ (i := 13) (N := some 45) #[Y,Y,Y,Y,Y,Y,Y,Y,Y,Y,Y,Y,Y,Y,Z,Z,Z,Z,Z,Z,Z,Z,Z] rfl rfl (one_of HT_.out (by kernel_rfl)) (by decide) (fun K hK => ?_)
               refine goes_ Tryd.func28 (by kernel_rfl) rfl #[.int .i64 9] (by rfl) rfl rfl Ma ?_
               with_reducible refine (crosswaylaw04_ten.calls 9 t247 t248 t249 t250 _ A10.out).mono ?_
               rintro e w57 ⟨rfl, hb⟩
               refine ⟨_, rfl, ?_⟩
               have n0_ := Aside0.mk (blk_below (g := gb215) (o := .cells #[.bool t210, .int .u64 t211, .int .u64 t212, .int .i64 t213] 26 (0, 0)) (St BK215.out) hb)
               have n1_ := Aside0.mk (blk_below (g := gb229) (o := .cells #[.bool t220, .int .u64 t221, .int .u64 t222, .int .i64 t223] 26 (0, 0)) (St BK229.out) hb)
               have n2_ := Aside0.mk (blk_below (g := gb230) (o := .cells #[.bool t224, .int .u64 t225, .int .u64 t226, .int .i64 t227] 26 (0, 0)) (St BK230.out) hb)
               have n3_ := Aside0.mk (blk_below (g := gb236) (o := .cells #[.bool t231, .int .u64 t232, .int .u64 t233, .int .i64 t234] 26 (0, 0)) (St BK236.out) hb)
               have n4_ := Aside0.mk (blk_below (g := gb242) (o := .cells #[.bool t237, .int .u64 t238, .int .u64 t239, .int .i64 t240] 26 (0, 0)) (St BK242.out) hb)
               have n5_ := Aside0.mk (below_step (Hb HB.out) hb)
               clear BK215
               clear BK229
               clear BK230
               clear BK236
               clear BK242
               clear HB
               have BK215 := n0_
               have BK229 := n1_
               have BK230 := n2_
               have BK236 := n3_
               have BK242 := n4_
               have HB := n5_
               clear n0_ n1_ n2_ n3_ n4_ n5_
               (try clear hb)
               (try clear hb2)
               (try clear hk)
               (try clear hi)
               refine hK.out _ _ ⟨(blk_cell BK215.out 0).trans rfl, (blk_cell BK215.out 1).trans rfl, (blk_cell BK215.out 2).trans rfl, (blk_cell BK215.out 3).trans rfl, (blk_cell BK229.out 0).trans rfl, (blk_cell BK229.out 1).trans rfl, (blk_cell BK229.out 2).trans rfl, (blk_cell BK229.out 3).trans rfl, (blk_cell BK230.out 0).trans rfl, (blk_cell BK230.out 1).trans rfl, (blk_cell BK230.out 2).trans rfl, (blk_cell BK230.out 3).trans rfl⟩ (fun hHeld => ?_)
               clear hK K
               refine norm_ (a' := ?_) ?_ ?_
               rotate_left
               ·show Act.put _ (some 45) _ = _
                refine Sp ?_
                rfl
               refine pure_ (i := 14) (N := some 46) (v := ?_) (a' := ?_) #[Y,Y,Y,Y,Y,Y,Y,Y,Y,Y,Y,Y,Y,Y,Y,Z,Z,Z,Z,Z,Z,Z,Z] rfl rfl (any_of HT_.out (by kernel_rfl)) (fun _ _ _ h => h) (Or.inl ⟨by rfl, ?_⟩) ?_ ?_
               rotate_left
               ·exact Sw
               rotate_left
               ·exact Sr
               refine pure_ (i := 15) (N := some 47) (v := ?_) (a' := ?_) #[Y,Y,Y,Y,Y,Y,Y,Y,Y,Y,Y,Y,Y,Y,Y,Y,Z,Z,Z,Z,Z,Z,Z] rfl rfl (any_of HT_.out (by kernel_rfl)) (fun _ _ _ h => h) (Or.inl ⟨by rfl, ?_⟩) ?_ ?_
               rotate_left
               ·exact Sw
               rotate_left
               ·exact Sr
               refine pure_ (i := 16) (N := some 48) (v := ?_) (a' := ?_) #[Y,Y,Y,Y,Y,Y,Y,Y,Y,Y,Y,Y,Y,Y,Y,Y,Y,Z,Z,Z,Z,Z,Z] rfl rfl (any_of HT_.out (by kernel_rfl)) (fun _ _ _ h => h) (Or.inl ⟨by rfl, ?_⟩) ?_ ?_
               rotate_left
               ·exact Sw
               rotate_left
               ·exact Sr
               refine pure_ (i := 18) (N := some 50) (v := ?_) (a' := ?_) #[Y,Y,Y,Y,Y,Y,Y,Y,Y,Y,Y,Y,Y,Y,Y,Y,Y,Z,Y,Z,Z,Z,Z] rfl rfl (any_of HT_.out (by kernel_rfl)) (fun _ _ _ h => h) (Or.inl ⟨by rfl, ?_⟩) ?_ ?_
               rotate_left
               ·exact Sw
               rotate_left
               ·exact Sr
               refine pure_ (i := 19) (N := some 51) (v := ?_) (a' := ?_) #[Y,Y,Y,Y,Y,Y,Y,Y,Y,Y,Y,Y,Y,Y,Y,Y,Y,Z,Y,Y,Z,Z,Z] rfl rfl (any_of HT_.out (by kernel_rfl)) (fun _ _ _ h => h) (Or.inl ⟨by rfl, ?_⟩) ?_ ?_
               rotate_left
               ·exact Sw
               rotate_left
               ·exact Sr
               refine take_ (i := 17) (N := some 49) (v := ?_) (a' := ?_) #[Y,Y,Y,Y,Y,Y,Y,Y,Y,Y,Y,Y,Y,Y,Y,Y,Y,Y,Y,Y,Z,Z,Z] rfl rfl (take_ofW HT_.out HW_.out (by kernel_rfl)) (fun _ _ _ h => h) (Or.inl ⟨by rfl, ?_⟩) hHeld ?_ ?_
               rotate_left
               ·rintro w' ⟨s0, s1, s2, s3, s4, s5, s6, s7, s8, s9, s10, s11⟩
                go_simp
                with_reducible rfl
               rotate_left
               ·exact Sr
               refine pure_ (i := 20) (N := some 52) (v := ?_) (a' := ?_) #[Y,Y,Y,Y,Y,Y,Y,Y,Y,Y,Y,Y,Y,Y,Y,Y,Y,Y,Y,Y,Y,Z,Z] rfl rfl (any_of HT_.out (by kernel_rfl)) (fun _ _ _ h => h) (Or.inl ⟨by rfl, ?_⟩) ?_ ?_
               rotate_left
               ·exact Sw
               rotate_left
               ·exact Sr
               refine pure_ (i := 21) (N := some 53) (v := ?_) (a' := ?_) #[Y,Y,Y,Y,Y,Y,Y,Y,Y,Y,Y,Y,Y,Y,Y,Y,Y,Y,Y,Y,Y,Y,Z] rfl rfl (any_of HT_.out (by kernel_rfl)) (fun _ _ _ h => h) (Or.inl ⟨by rfl, ?_⟩) ?_ ?_
               rotate_left
               ·exact Sw
               rotate_left
               ·exact Sr
               refine pure_ (i := 22) (N := some 10) (v := ?_) (a' := ?_) #[Y,Y,Y,Y,Y,Y,Y,Y,Y,Y,Y,Y,Y,Y,Y,Y,Y,Y,Y,Y,Y,Y,Y] rfl rfl (any_of HT_.out (by kernel_rfl)) (fun _ _ _ h => h) (Or.inl ⟨by rfl, ?_⟩) ?_ ?_
               rotate_left
               ·exact Sw
               rotate_left
               ·exact Sr
               refine done_ (done_of HT_.out (by kernel_rfl)) ?_
               have hcz58_0 : w57.cell? ⟨gb236, 0, none⟩ = some (.bool t231) := (blk_cell BK236.out 0).trans rfl
               have hcz58_1 : w57.cell? ⟨gb236, 1, none⟩ = some (.int .u64 t232) := (blk_cell BK236.out 1).trans rfl
               have hcz58_2 : w57.cell? ⟨gb236, 2, none⟩ = some (.int .u64 t233) := (blk_cell BK236.out 2).trans rfl
               have hcz58_3 : w57.cell? ⟨gb236, 3, none⟩ = some (.int .i64 t234) := (blk_cell BK236.out 3).trans rfl
               have hfz58_0 := blk_frozen BK236.out 0
               have hfz58_1 := blk_frozen BK236.out 1
               have hfz58_2 := blk_frozen BK236.out 2
               have hfz58_3 := blk_frozen BK236.out 3
               have hcz59_0 : w57.cell? ⟨gb215, 0, none⟩ = some (.bool t210) := (blk_cell BK215.out 0).trans rfl
               have hcz59_1 : w57.cell? ⟨gb215, 1, none⟩ = some (.int .u64 t211) := (blk_cell BK215.out 1).trans rfl
               have hcz59_2 : w57.cell? ⟨gb215, 2, none⟩ = some (.int .u64 t212) := (blk_cell BK215.out 2).trans rfl
               have hcz59_3 : w57.cell? ⟨gb215, 3, none⟩ = some (.int .i64 t213) := (blk_cell BK215.out 3).trans rfl
               have hfz59_0 := blk_frozen BK215.out 0
               have hfz59_1 := blk_frozen BK215.out 1
               have hfz59_2 := blk_frozen BK215.out 2
               have hfz59_3 := blk_frozen BK215.out 3
               try go_wp2_with (first | (go_at_call 22; (with_reducible refine (prefix_Print.calls t210 t211 t212 t213 t251 _ (Glob_below HG.out (Hb HB.out)) A15.out).mono ?_); rintro e w60 ⟨rfl, hb⟩; have n0_ := Aside0.mk (blk_below (g := gb215) (o := .cells #[.bool t210, .int .u64 t211, .int .u64 t212, .int .i64 t213] 26 (0, 0)) (St BK215.out) hb); have n1_ := Aside0.mk (blk_below (g := gb229) (o := .cells #[.bool t220, .int .u64 t221, .int .u64 t222, .int .i64 t223] 26 (0, 0)) (St BK229.out) hb); have n2_ := Aside0.mk (blk_below (g := gb230) (o := .cells #[.bool t224, .int .u64 t225, .int .u64 t226, .int .i64 t227] 26 (0, 0)) (St BK230.out) hb); have n3_ := Aside0.mk (blk_below (g := gb236) (o := .cells #[.bool t231, .int .u64 t232, .int .u64 t233, .int .i64 t234] 26 (0, 0)) (St BK236.out) hb); have n4_ := Aside0.mk (blk_below (g := gb242) (o := .cells #[.bool t237, .int .u64 t238, .int .u64 t239, .int .i64 t240] 26 (0, 0)) (St BK242.out) hb); have n5_ := Aside0.mk (below_step (Hb HB.out) hb); clear BK215; clear BK229; clear BK230; clear BK236; clear BK242; clear HB; have BK215 := n0_; have BK229 := n1_; have BK230 := n2_; have BK236 := n3_; have BK242 := n4_; have HB := n5_; clear n0_ n1_ n2_ n3_ n4_ n5_; (try clear hb); (try clear hb2); (try clear hk); (try clear hi); have hcz61_0 : w60.cell? ⟨gb215, 0, none⟩ = some (.bool t210) := (blk_cell BK215.out 0).trans rfl; have hcz61_1 : w60.cell? ⟨gb215, 1, none⟩ = some (.int .u64 t211) := (blk_cell BK215.out 1).trans rfl; have hcz61_2 : w60.cell? ⟨gb215, 2, none⟩ = some (.int .u64 t212) := (blk_cell BK215.out 2).trans rfl; have hcz61_3 : w60.cell? ⟨gb215, 3, none⟩ = some (.int .i64 t213) := (blk_cell BK215.out 3).trans rfl; have hfz61_0 := blk_frozen BK215.out 0; have hfz61_1 := blk_frozen BK215.out 1; have hfz61_2 := blk_frozen BK215.out 2; have hfz61_3 := blk_frozen BK215.out 3) | (go_at_call 14; (with_reducible refine (prefix_Valid.calls t210 t211 t212 t213 true _ A17.out).mono ?_); rintro e w62 ⟨rfl, hb⟩; have n0_ := Aside0.mk (blk_below (g := gb215) (o := .cells #[.bool t210, .int .u64 t211, .int .u64 t212, .int .i64 t213] 26 (0, 0)) (St BK215.out) hb); have n1_ := Aside0.mk (blk_below (g := gb229) (o := .cells #[.bool t220, .int .u64 t221, .int .u64 t222, .int .i64 t223] 26 (0, 0)) (St BK229.out) hb); have n2_ := Aside0.mk (blk_below (g := gb230) (o := .cells #[.bool t224, .int .u64 t225, .int .u64 t226, .int .i64 t227] 26 (0, 0)) (St BK230.out) hb); have n3_ := Aside0.mk (blk_below (g := gb236) (o := .cells #[.bool t231, .int .u64 t232, .int .u64 t233, .int .i64 t234] 26 (0, 0)) (St BK236.out) hb); have n4_ := Aside0.mk (blk_below (g := gb242) (o := .cells #[.bool t237, .int .u64 t238, .int .u64 t239, .int .i64 t240] 26 (0, 0)) (St BK242.out) hb); have n5_ := Aside0.mk (below_step (Hb HB.out) hb); clear BK215; clear BK229; clear BK230; clear BK236; clear BK242; clear HB; have BK215 := n0_; have BK229 := n1_; have BK230 := n2_; have BK236 := n3_; have BK242 := n4_; have HB := n5_; clear n0_ n1_ n2_ n3_ n4_ n5_; (try clear hb); (try clear hb2); (try clear hk); (try clear hi); have hcz63_0 : w62.cell? ⟨gb215, 0, none⟩ = some (.bool t210) := (blk_cell BK215.out 0).trans rfl; have hcz63_1 : w62.cell? ⟨gb215, 1, none⟩ = some (.int .u64 t211) := (blk_cell BK215.out 1).trans rfl; have hcz63_2 : w62.cell? ⟨gb215, 2, none⟩ = some (.int .u64 t212) := (blk_cell BK215.out 2).trans rfl; have hcz63_3 : w62.cell? ⟨gb215, 3, none⟩ = some (.int .i64 t213) := (blk_cell BK215.out 3).trans rfl; have hfz63_0 := blk_frozen BK215.out 0; have hfz63_1 := blk_frozen BK215.out 1; have hfz63_2 := blk_frozen BK215.out 2; have hfz63_3 := blk_frozen BK215.out 3) | ((with_reducible refine gate_callee (f := 16) rfl ?_); refine goesL_ (some 76) rfl rfl Tryd.func16 (by kernel_rfl) rfl #[.agg #[.bool t210, .int .u64 t211, .int .u64 t212, .int .i64 t213], .agg #[.bool false, .int .u64 0, .int .u64 167772161]] rfl Ma ?_; (with_reducible refine (prefix_Holds.calls t210 t211 t212 t213 false 0 167772161 true _ A18.out).mono ?_); rintro e w64 ⟨rfl, hb⟩; refine ⟨_, rfl, ?_⟩; have n0_ := Aside0.mk (blk_below (g := gb215) (o := .cells #[.bool t210, .int .u64 t211, .int .u64 t212, .int .i64 t213] 26 (0, 0)) (St BK215.out) hb); have n1_ := Aside0.mk (blk_below (g := gb229) (o := .cells #[.bool t220, .int .u64 t221, .int .u64 t222, .int .i64 t223] 26 (0, 0)) (St BK229.out) hb); have n2_ := Aside0.mk (blk_below (g := gb230) (o := .cells #[.bool t224, .int .u64 t225, .int .u64 t226, .int .i64 t227] 26 (0, 0)) (St BK230.out) hb); have n3_ := Aside0.mk (blk_below (g := gb236) (o := .cells #[.bool t231, .int .u64 t232, .int .u64 t233, .int .i64 t234] 26 (0, 0)) (St BK236.out) hb); have n4_ := Aside0.mk (blk_below (g := gb242) (o := .cells #[.bool t237, .int .u64 t238, .int .u64 t239, .int .i64 t240] 26 (0, 0)) (St BK242.out) hb); have n5_ := Aside0.mk (below_step (Hb HB.out) hb); clear BK215; clear BK229; clear BK230; clear BK236; clear BK242; clear HB; have BK215 := n0_; have BK229 := n1_; have BK230 := n2_; have BK236 := n3_; have BK242 := n4_; have HB := n5_; clear n0_ n1_ n2_ n3_ n4_ n5_; (try clear hb); (try clear hb2); (try clear hk); (try clear hi); have hcz65_0 : w64.cell? ⟨gb215, 0, none⟩ = some (.bool t210) := (blk_cell BK215.out 0).trans rfl; have hcz65_1 : w64.cell? ⟨gb215, 1, none⟩ = some (.int .u64 t211) := (blk_cell BK215.out 1).trans rfl; have hcz65_2 : w64.cell? ⟨gb215, 2, none⟩ = some (.int .u64 t212) := (blk_cell BK215.out 2).trans rfl; have hcz65_3 : w64.cell? ⟨gb215, 3, none⟩ = some (.int .i64 t213) := (blk_cell BK215.out 3).trans rfl; have hfz65_0 := blk_frozen BK215.out 0; have hfz65_1 := blk_frozen BK215.out 1; have hfz65_2 := blk_frozen BK215.out 2; have hfz65_3 := blk_frozen BK215.out 3; have hcz66_0 : w64.cell? ⟨gb229, 0, none⟩ = some (.bool t220) := (blk_cell BK229.out 0).trans rfl; have hcz66_1 : w64.cell? ⟨gb229, 1, none⟩ = some (.int .u64 t221) := (blk_cell BK229.out 1).trans rfl; have hcz66_2 : w64.cell? ⟨gb229, 2, none⟩ = some (.int .u64 t222) := (blk_cell BK229.out 2).trans rfl; have hcz66_3 : w64.cell? ⟨gb229, 3, none⟩ = some (.int .i64 t223) := (blk_cell BK229.out 3).trans rfl; have hfz66_0 := blk_frozen BK229.out 0; have hfz66_1 := blk_frozen BK229.out 1; have hfz66_2 := blk_frozen BK229.out 2; have hfz66_3 := blk_frozen BK229.out 3) | (go_at_call 18; (with_reducible refine (prefix_Covers.calls t210 t211 t212 t213 t220 t221 t222 t223 true _ A20.out).mono ?_); rintro e w67 ⟨rfl, hb⟩; have n0_ := Aside0.mk (blk_below (g := gb215) (o := .cells #[.bool t210, .int .u64 t211, .int .u64 t212, .int .i64 t213] 26 (0, 0)) (St BK215.out) hb); have n1_ := Aside0.mk (blk_below (g := gb229) (o := .cells #[.bool t220, .int .u64 t221, .int .u64 t222, .int .i64 t223] 26 (0, 0)) (St BK229.out) hb); have n2_ := Aside0.mk (blk_below (g := gb230) (o := .cells #[.bool t224, .int .u64 t225, .int .u64 t226, .int .i64 t227] 26 (0, 0)) (St BK230.out) hb); have n3_ := Aside0.mk (blk_below (g := gb236) (o := .cells #[.bool t231, .int .u64 t232, .int .u64 t233, .int .i64 t234] 26 (0, 0)) (St BK236.out) hb); have n4_ := Aside0.mk (blk_below (g := gb242) (o := .cells #[.bool t237, .int .u64 t238, .int .u64 t239, .int .i64 t240] 26 (0, 0)) (St BK242.out) hb); have n5_ := Aside0.mk (below_step (Hb HB.out) hb); clear BK215; clear BK229; clear BK230; clear BK236; clear BK242; clear HB; have BK215 := n0_; have BK229 := n1_; have BK230 := n2_; have BK236 := n3_; have BK242 := n4_; have HB := n5_; clear n0_ n1_ n2_ n3_ n4_ n5_; (try clear hb); (try clear hb2); (try clear hk); (try clear hi)) | (go_at_call 12; (with_reducible refine (prefix_Bit.calls k false 0 1 31 t255 _ A22.out).mono ?_); rintro e w68 ⟨rfl, hb⟩; have n0_ := Aside0.mk (blk_below (g := gb215) (o := .cells #[.bool t210, .int .u64 t211, .int .u64 t212, .int .i64 t213] 26 (0, 0)) (St BK215.out) hb); have n1_ := Aside0.mk (blk_below (g := gb229) (o := .cells #[.bool t220, .int .u64 t221, .int .u64 t222, .int .i64 t223] 26 (0, 0)) (St BK229.out) hb); have n2_ := Aside0.mk (blk_below (g := gb230) (o := .cells #[.bool t224, .int .u64 t225, .int .u64 t226, .int .i64 t227] 26 (0, 0)) (St BK230.out) hb); have n3_ := Aside0.mk (blk_below (g := gb236) (o := .cells #[.bool t231, .int .u64 t232, .int .u64 t233, .int .i64 t234] 26 (0, 0)) (St BK236.out) hb); have n4_ := Aside0.mk (blk_below (g := gb242) (o := .cells #[.bool t237, .int .u64 t238, .int .u64 t239, .int .i64 t240] 26 (0, 0)) (St BK242.out) hb); have n5_ := Aside0.mk (below_step (Hb HB.out) hb); clear BK215; clear BK229; clear BK230; clear BK236; clear BK242; clear HB; have BK215 := n0_; have BK229 := n1_; have BK230 := n2_; have BK236 := n3_; have BK242 := n4_; have HB := n5_; clear n0_ n1_ n2_ n3_ n4_ n5_; (try clear hb); (try clear hb2); (try clear hk); (try clear hi); have hcz69_0 : w68.cell? ⟨gb229, 0, none⟩ = some (.bool t220) := (blk_cell BK229.out 0).trans rfl; have hcz69_1 : w68.cell? ⟨gb229, 1, none⟩ = some (.int .u64 t221) := (blk_cell BK229.out 1).trans rfl; have hcz69_2 : w68.cell? ⟨gb229, 2, none⟩ = some (.int .u64 t222) := (blk_cell BK229.out 2).trans rfl; have hcz69_3 : w68.cell? ⟨gb229, 3, none⟩ = some (.int .i64 t223) := (blk_cell BK229.out 3).trans rfl; have hfz69_0 := blk_frozen BK229.out 0; have hfz69_1 := blk_frozen BK229.out 1; have hfz69_2 := blk_frozen BK229.out 2; have hfz69_3 := blk_frozen BK229.out 3; have hcz70_0 : w68.cell? ⟨gb230, 0, none⟩ = some (.bool t224) := (blk_cell BK230.out 0).trans rfl; have hcz70_1 : w68.cell? ⟨gb230, 1, none⟩ = some (.int .u64 t225) := (blk_cell BK230.out 1).trans rfl; have hcz70_2 : w68.cell? ⟨gb230, 2, none⟩ = some (.int .u64 t226) := (blk_cell BK230.out 2).trans rfl; have hcz70_3 : w68.cell? ⟨gb230, 3, none⟩ = some (.int .i64 t227) := (blk_cell BK230.out 3).trans rfl; have hfz70_0 := blk_frozen BK230.out 0; have hfz70_1 := blk_frozen BK230.out 1; have hfz70_2 := blk_frozen BK230.out 2; have hfz70_3 := blk_frozen BK230.out 3) | (go_at_call 20; (with_reducible refine (prefix_Common.calls k t220 t221 t222 t224 t225 t226 t256 _ A24.out).mono ?_); rintro e w71 ⟨rfl, hb⟩; have n0_ := Aside0.mk (blk_below (g := gb215) (o := .cells #[.bool t210, .int .u64 t211, .int .u64 t212, .int .i64 t213] 26 (0, 0)) (St BK215.out) hb); have n1_ := Aside0.mk (blk_below (g := gb229) (o := .cells #[.bool t220, .int .u64 t221, .int .u64 t222, .int .i64 t223] 26 (0, 0)) (St BK229.out) hb); have n2_ := Aside0.mk (blk_below (g := gb230) (o := .cells #[.bool t224, .int .u64 t225, .int .u64 t226, .int .i64 t227] 26 (0, 0)) (St BK230.out) hb); have n3_ := Aside0.mk (blk_below (g := gb236) (o := .cells #[.bool t231, .int .u64 t232, .int .u64 t233, .int .i64 t234] 26 (0, 0)) (St BK236.out) hb); have n4_ := Aside0.mk (blk_below (g := gb242) (o := .cells #[.bool t237, .int .u64 t238, .int .u64 t239, .int .i64 t240] 26 (0, 0)) (St BK242.out) hb); have n5_ := Aside0.mk (below_step (Hb HB.out) hb); clear BK215; clear BK229; clear BK230; clear BK236; clear BK242; clear HB; have BK215 := n0_; have BK229 := n1_; have BK230 := n2_; have BK236 := n3_; have BK242 := n4_; have HB := n5_; clear n0_ n1_ n2_ n3_ n4_ n5_; (try clear hb); (try clear hb2); (try clear hk); (try clear hi); have hcz72_0 : w71.cell? ⟨gb215, 0, none⟩ = some (.bool t210) := (blk_cell BK215.out 0).trans rfl; have hcz72_1 : w71.cell? ⟨gb215, 1, none⟩ = some (.int .u64 t211) := (blk_cell BK215.out 1).trans rfl; have hcz72_2 : w71.cell? ⟨gb215, 2, none⟩ = some (.int .u64 t212) := (blk_cell BK215.out 2).trans rfl; have hcz72_3 : w71.cell? ⟨gb215, 3, none⟩ = some (.int .i64 t213) := (blk_cell BK215.out 3).trans rfl; have hfz72_0 := blk_frozen BK215.out 0; have hfz72_1 := blk_frozen BK215.out 1; have hfz72_2 := blk_frozen BK215.out 2; have hfz72_3 := blk_frozen BK215.out 3; have hcz73_0 : w71.cell? ⟨gb229, 0, none⟩ = some (.bool t220) := (blk_cell BK229.out 0).trans rfl; have hcz73_1 : w71.cell? ⟨gb229, 1, none⟩ = some (.int .u64 t221) := (blk_cell BK229.out 1).trans rfl; have hcz73_2 : w71.cell? ⟨gb229, 2, none⟩ = some (.int .u64 t222) := (blk_cell BK229.out 2).trans rfl; have hcz73_3 : w71.cell? ⟨gb229, 3, none⟩ = some (.int .i64 t223) := (blk_cell BK229.out 3).trans rfl; have hfz73_0 := blk_frozen BK229.out 0; have hfz73_1 := blk_frozen BK229.out 1; have hfz73_2 := blk_frozen BK229.out 2; have hfz73_3 := blk_frozen BK229.out 3) | (go_at_call 26; (with_reducible refine (prefix_Less.calls k t210 t211 t212 t213 t220 t221 t222 t223 t257 _ A26.out).mono ?_); rintro e w74 ⟨rfl, hb⟩; have n0_ := Aside0.mk (blk_below (g := gb215) (o := .cells #[.bool t210, .int .u64 t211, .int .u64 t212, .int .i64 t213] 26 (0, 0)) (St BK215.out) hb); have n1_ := Aside0.mk (blk_below (g := gb229) (o := .cells #[.bool t220, .int .u64 t221, .int .u64 t222, .int .i64 t223] 26 (0, 0)) (St BK229.out) hb); have n2_ := Aside0.mk (blk_below (g := gb230) (o := .cells #[.bool t224, .int .u64 t225, .int .u64 t226, .int .i64 t227] 26 (0, 0)) (St BK230.out) hb); have n3_ := Aside0.mk (blk_below (g := gb236) (o := .cells #[.bool t231, .int .u64 t232, .int .u64 t233, .int .i64 t234] 26 (0, 0)) (St BK236.out) hb); have n4_ := Aside0.mk (blk_below (g := gb242) (o := .cells #[.bool t237, .int .u64 t238, .int .u64 t239, .int .i64 t240] 26 (0, 0)) (St BK242.out) hb); have n5_ := Aside0.mk (below_step (Hb HB.out) hb); clear BK215; clear BK229; clear BK230; clear BK236; clear BK242; clear HB; have BK215 := n0_; have BK229 := n1_; have BK230 := n2_; have BK236 := n3_; have BK242 := n4_; have HB := n5_; clear n0_ n1_ n2_ n3_ n4_ n5_; (try clear hb); (try clear hb2); (try clear hk); (try clear hi)))
               go_ret
               exact ⟨by first | rfl | (simp [errW_none, errW_some] <;> rfl) | (simp [*, errW_none, errW_some] <;> rfl), Hb HB.out⟩
              ·replace c28 := Bool.eq_false_iff.mpr c28
               subst c28
               have H1 : (none) = some r := by rw [if_neg (show ¬ (false = true) by decide)] at H; exact H
               clear H
               have H := H1
               clear H1
               exact absurd H (by simp)
             ·rw [if_neg c27] at H
              exact absurd H (by simp)
            ·rw [if_neg c25] at H
             exact absurd H (by simp)
           ·rw [if_neg c23] at H
            exact absurd H (by simp)
          ·replace c21 := Bool.eq_false_iff.mpr c21
           subst c21
           have H1 : (none) = some r := by rw [if_neg (show ¬ (false = true) by decide)] at H; exact H
           clear H
           have H := H1
           clear H1
           exact absurd H (by simp)
         ·replace c19 := Bool.eq_false_iff.mpr c19
          subst c19
          have H1 : (none) = some r := by rw [if_neg (show ¬ (false = true) by decide)] at H; exact H
          clear H
          have H := H1
          clear H1
          exact absurd H (by simp)
        ·rw [if_neg c16] at H
         exact absurd H (by simp)
       ·rw [if_neg c14] at H
        exact absurd H (by simp)
      ·rw [if_neg c13] at H
       exact absurd H (by simp)
     ·rw [if_neg c12] at H
      exact absurd H (by simp)
    ·rw [if_neg c11] at H
     exact absurd H (by simp)
   ·rw [if_neg c9] at H
    exact absurd H (by simp)
  ·rw [if_neg c8] at H
   exact absurd H (by simp)
 ·rw [if_neg c6] at H
  exact absurd H (by simp)

end Go.Proofs.YtmhjgjdiifcdlaaDoor.P
