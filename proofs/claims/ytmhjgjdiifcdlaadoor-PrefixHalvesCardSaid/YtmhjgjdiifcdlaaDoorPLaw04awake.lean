-- Laid by a program (wip/pr.py) out of the translation: each function as a Lean function, and the proof that the call comes to it.
import Derived.Test.YtmhjgjdiifcdlaaDoorShort
import Derived.Test.YtmhjgjdiifcdlaaDoorPBase
import Derived.Test.YtmhjgjdiifcdlaaDoorPEq26
import Derived.Test.YtmhjgjdiifcdlaaDoorPPrefixOf
import Derived.Test.YtmhjgjdiifcdlaaDoorPPrefixBit
import Derived.Test.YtmhjgjdiifcdlaaDoorPPrefixValid
import Derived.Test.YtmhjgjdiifcdlaaDoorPPrefixHolds
import Derived.Test.YtmhjgjdiifcdlaaDoorPPrefixCovers
import Derived.Test.YtmhjgjdiifcdlaaDoorPPrefixCommon
import Derived.Test.YtmhjgjdiifcdlaaDoorPPrefixPrint
import Derived.Test.YtmhjgjdiifcdlaaDoorPPrefixParse
import Derived.Test.YtmhjgjdiifcdlaaDoorPPrefixHalves
import Derived.Test.YtmhjgjdiifcdlaaDoorPPrefixLess
import Derived.Test.YtmhjgjdiifcdlaaDoorPLaw04ten
namespace Go.Proofs.YtmhjgjdiifcdlaaDoor.P
open Go.RowKit Go.Proofs.YtmhjgjdiifcdlaaDoorW.PrintWords Go.Proofs.YtmhjgjdiifcdlaaDoorW.PrintLast Go.Proofs.YtmhjgjdiifcdlaaDoorW.PrintMore
attribute [local go_sem] max2_int min2_int max_two min_two max_three min_three max_four min_four   -- for this text's walks alone
set_option linter.unusedVariables false
set_option linter.unusedSimpArgs false

attribute [local go_sem high] eqA26
/-! ### crosswaylaw04_awake: function 9 -/
def crosswaylaw04_awake.f (k : Nat)  : Option (Bool) := (prefix_Of.f false 0 167772161 8).bind fun bt225 => ((crosswaylaw04_ten.f 8).bind fun bt231 => ((prefix_Halves.f k bt231.1 bt231.2.1 bt231.2.2.1 bt231.2.2.2).bind fun bt235 => ((prefix_Parse.f k (⟨#[49, 48, 46, 48, 46, 48, 46, 48, 47, 56]⟩ : ByteArray)).bind fun bt246 => ((prefix_Parse.f k (⟨#[49, 48, 46, 48, 46, 48, 46, 49, 47, 56]⟩ : ByteArray)).bind fun bt252 => (if bt225.2.2.2.2 = 0 then ((crosswaylaw04_ten.f 8).bind fun bt258 => (if ((bt225.1 == bt258.1 && (bt225.2.1 == bt258.2.1 && (bt225.2.2.1 == bt258.2.2.1))) && (bt225.2.2.2.1 == bt258.2.2.2)) = true then (if bt235.2.2.2.2.2.2.2.2 = 0 then ((crosswaylaw04_ten.f 9).bind fun bt262 => (if ((bt235.1 == bt262.1 && (bt235.2.1 == bt262.2.1 && (bt235.2.2.1 == bt262.2.2.1))) && (bt235.2.2.2.1 == bt262.2.2.2)) = true then (if bt246.2.2.2.2 = 0 then (if ((bt246.1 == bt225.1 && (bt246.2.1 == bt225.2.1 && (bt246.2.2.1 == bt225.2.2.1))) && (bt246.2.2.2.1 == bt225.2.2.2.1)) = true then (if bt252.2.2.2.2 = 30 then ((prefix_Print.f k bt225.1 bt225.2.1 bt225.2.2.1 bt225.2.2.2.1).bind fun t266 => (if t266.toList = ([49, 48, 46, 48, 46, 48, 46, 48, 47, 56] : List UInt8) then ((prefix_Valid.f bt225.1 bt225.2.1 bt225.2.2.1 bt225.2.2.2.1).bind fun t267 => ((prefix_Holds.f bt225.1 bt225.2.1 bt225.2.2.1 bt225.2.2.2.1 false 0 167772161).bind fun t268 => (if t268 = true then ((prefix_Covers.f bt225.1 bt225.2.1 bt225.2.2.1 bt225.2.2.2.1 bt235.1 bt235.2.1 bt235.2.2.1 bt235.2.2.2.1).bind fun t269 => (if t269 = true then ((prefix_Bit.f k false 0 1 31).bind fun t270 => (if t270 = 1 then ((prefix_Common.f k bt235.1 bt235.2.1 bt235.2.2.1 bt235.2.2.2.2.1 bt235.2.2.2.2.2.1 bt235.2.2.2.2.2.2.1).bind fun t271 => (if t271 = 8 then ((prefix_Less.f k bt225.1 bt225.2.1 bt225.2.2.1 bt225.2.2.2.1 bt235.1 bt235.2.1 bt235.2.2.1 bt235.2.2.2.1).bind fun t272 => (if ((!bt235.2.2.2.2.1 && (bt235.2.2.2.2.2.1 == 0 && (bt235.2.2.2.2.2.2.1 == 176160768))) && (bt235.2.2.2.2.2.2.2.1 == 9)) = true then (if t267 = true then (some t272) else (none)) else (none))) else (none))) else (none))) else (none))) else (none)))) else (none))) else (none)) else (none)) else (none)) else (none))) else (none)) else (none))) else (none))))))
theorem crosswaylaw04_awake.mono : ∀ k, LeO (crosswaylaw04_awake.f k ) (crosswaylaw04_awake.f (k + 1) ) := by
 intro  k
 unfold crosswaylaw04_awake.f
 repeat' first
   | (with_reducible exact prefix_Bit.mono _ _ _ _ _)
   | (with_reducible exact prefix_Common.mono _ _ _ _ _ _ _)
   | (with_reducible exact prefix_Halves.mono _ _ _ _ _)
   | (with_reducible exact prefix_Less.mono _ _ _ _ _ _ _ _ _)
   | (with_reducible exact prefix_Parse.mono _ _)
   | (with_reducible exact prefix_Print.mono _ _ _ _ _)
   | (with_reducible exact LeO.refl _)
   | (with_reducible exact LeO.none _)
   | (with_reducible refine LeO.ite ?_ ?_)
   | (with_reducible refine LeO.bind ?_ (fun _ => ?_))
   | exact prefix_Bit.mono _ _ _ _ _
   | exact prefix_Common.mono _ _ _ _ _ _ _
   | exact prefix_Halves.mono _ _ _ _ _
   | exact prefix_Less.mono _ _ _ _ _ _ _ _ _
   | exact prefix_Parse.mono _ _
   | exact prefix_Print.mono _ _ _ _ _
   | exact LeO.none _
   | refine LeO.ite ?_ ?_
   | refine LeO.bind ?_ (fun _ => ?_)
def crosswaylaw04_awake.T5 : Bool × List (List Nat × List Nat) := (true, [([], []), ([0], [0]), ([1], [1]), ([2], [2]), ([2, 2], [2]), ([3, 4, 2], [2, 3, 4]), ([2, 5], [2, 5]), ([6, 4], [6]), ([7], [7]), ([8, 7], [7, 8]), ([7, 9], [7, 9]), ([10, 7], [10]), ([11], [11]), ([11, 11], [11]), ([12, 13, 11], [11, 12, 13]), ([11, 14], [11, 14]), ([15, 13], [15]), ([16], [16]), ([16], [16]), ([18, 16], [16, 18]), ([17, 19, 16], [16, 17, 19]), ([16, 20], [16, 20]), ([21, 16, 0, 1, 2, 3, 4, 5, 6, 7, 8, 9, 10, 11, 12, 13, 14, 15, 16, 17, 18, 19, 20, 21], [21])])
def crosswaylaw04_awake.B5 : List Nat := [0, 1, 3, 7, 7, 31, 63, 127, 255, 511, 1023, 2047, 4095, 4095, 16383, 32767, 65535, 131071, 131071, 393215, 1048575, 2097151, 4194303]
theorem crosswaylaw04_awake.tab5 : rtab .any (opsOf Tryd.f9 5) = crosswaylaw04_awake.T5 := by kernel_rfl
theorem crosswaylaw04_awake.bits5 : waitsOk crosswaylaw04_awake.T5.2 crosswaylaw04_awake.B5 = true := by kernel_rfl
set_option maxHeartbeats 8000000 in
set_option maxRecDepth 100000 in
theorem crosswaylaw04_awake.calls (k : Nat)  (r : Bool) (w : World) (hG : Glob w) (h : crosswaylaw04_awake.f k  = some r) :
  Calls Tryd.prog 9 #[] w fun e w' => e = .returned (.bool r) ∧ Below w.heap.size w w' := by
 have hu24 := Tryd.underlying24
 have hu26 := Tryd.underlying26
 have HG := Aside0.mk hG
 clear hG
 have HB := Aside0.mk (Below.refl w.heap.size w)
 have H : ((prefix_Of.f false 0 167772161 8).bind fun bt225 => ((crosswaylaw04_ten.f 8).bind fun bt231 => ((prefix_Halves.f k bt231.1 bt231.2.1 bt231.2.2.1 bt231.2.2.2).bind fun bt235 => ((prefix_Parse.f k (⟨#[49, 48, 46, 48, 46, 48, 46, 48, 47, 56]⟩ : ByteArray)).bind fun bt246 => ((prefix_Parse.f k (⟨#[49, 48, 46, 48, 46, 48, 46, 49, 47, 56]⟩ : ByteArray)).bind fun bt252 => (if bt225.2.2.2.2 = 0 then ((crosswaylaw04_ten.f 8).bind fun bt258 => (if ((bt225.1 == bt258.1 && (bt225.2.1 == bt258.2.1 && (bt225.2.2.1 == bt258.2.2.1))) && (bt225.2.2.2.1 == bt258.2.2.2)) = true then (if bt235.2.2.2.2.2.2.2.2 = 0 then ((crosswaylaw04_ten.f 9).bind fun bt262 => (if ((bt235.1 == bt262.1 && (bt235.2.1 == bt262.2.1 && (bt235.2.2.1 == bt262.2.2.1))) && (bt235.2.2.2.1 == bt262.2.2.2)) = true then (if bt246.2.2.2.2 = 0 then (if ((bt246.1 == bt225.1 && (bt246.2.1 == bt225.2.1 && (bt246.2.2.1 == bt225.2.2.1))) && (bt246.2.2.2.1 == bt225.2.2.2.1)) = true then (if bt252.2.2.2.2 = 30 then ((prefix_Print.f k bt225.1 bt225.2.1 bt225.2.2.1 bt225.2.2.2.1).bind fun t266 => (if t266.toList = ([49, 48, 46, 48, 46, 48, 46, 48, 47, 56] : List UInt8) then ((prefix_Valid.f bt225.1 bt225.2.1 bt225.2.2.1 bt225.2.2.2.1).bind fun t267 => ((prefix_Holds.f bt225.1 bt225.2.1 bt225.2.2.1 bt225.2.2.2.1 false 0 167772161).bind fun t268 => (if t268 = true then ((prefix_Covers.f bt225.1 bt225.2.1 bt225.2.2.1 bt225.2.2.2.1 bt235.1 bt235.2.1 bt235.2.2.1 bt235.2.2.2.1).bind fun t269 => (if t269 = true then ((prefix_Bit.f k false 0 1 31).bind fun t270 => (if t270 = 1 then ((prefix_Common.f k bt235.1 bt235.2.1 bt235.2.2.1 bt235.2.2.2.2.1 bt235.2.2.2.2.2.1 bt235.2.2.2.2.2.2.1).bind fun t271 => (if t271 = 8 then ((prefix_Less.f k bt225.1 bt225.2.1 bt225.2.2.1 bt225.2.2.2.1 bt235.1 bt235.2.1 bt235.2.2.1 bt235.2.2.2.1).bind fun t272 => (if ((!bt235.2.2.2.2.1 && (bt235.2.2.2.2.2.1 == 0 && (bt235.2.2.2.2.2.2.1 == 176160768))) && (bt235.2.2.2.2.2.2.2.1 == 9)) = true then (if t267 = true then (some t272) else (none)) else (none))) else (none))) else (none))) else (none))) else (none)))) else (none))) else (none)) else (none)) else (none)) else (none))) else (none)) else (none))) else (none))))))) = some r := h
 clear h
 replace H := Option.bind_eq_some_iff.mp H
 obtain ⟨⟨t225, t226, t227, t228, t229⟩, A10, H⟩ := H
 replace H : ((crosswaylaw04_ten.f 8).bind fun bt231 => ((prefix_Halves.f k bt231.1 bt231.2.1 bt231.2.2.1 bt231.2.2.2).bind fun bt235 => ((prefix_Parse.f k (⟨#[49, 48, 46, 48, 46, 48, 46, 48, 47, 56]⟩ : ByteArray)).bind fun bt246 => ((prefix_Parse.f k (⟨#[49, 48, 46, 48, 46, 48, 46, 49, 47, 56]⟩ : ByteArray)).bind fun bt252 => (if t229 = 0 then ((crosswaylaw04_ten.f 8).bind fun bt258 => (if ((t225 == bt258.1 && (t226 == bt258.2.1 && (t227 == bt258.2.2.1))) && (t228 == bt258.2.2.2)) = true then (if bt235.2.2.2.2.2.2.2.2 = 0 then ((crosswaylaw04_ten.f 9).bind fun bt262 => (if ((bt235.1 == bt262.1 && (bt235.2.1 == bt262.2.1 && (bt235.2.2.1 == bt262.2.2.1))) && (bt235.2.2.2.1 == bt262.2.2.2)) = true then (if bt246.2.2.2.2 = 0 then (if ((bt246.1 == t225 && (bt246.2.1 == t226 && (bt246.2.2.1 == t227))) && (bt246.2.2.2.1 == t228)) = true then (if bt252.2.2.2.2 = 30 then ((prefix_Print.f k t225 t226 t227 t228).bind fun t266 => (if t266.toList = ([49, 48, 46, 48, 46, 48, 46, 48, 47, 56] : List UInt8) then ((prefix_Valid.f t225 t226 t227 t228).bind fun t267 => ((prefix_Holds.f t225 t226 t227 t228 false 0 167772161).bind fun t268 => (if t268 = true then ((prefix_Covers.f t225 t226 t227 t228 bt235.1 bt235.2.1 bt235.2.2.1 bt235.2.2.2.1).bind fun t269 => (if t269 = true then ((prefix_Bit.f k false 0 1 31).bind fun t270 => (if t270 = 1 then ((prefix_Common.f k bt235.1 bt235.2.1 bt235.2.2.1 bt235.2.2.2.2.1 bt235.2.2.2.2.2.1 bt235.2.2.2.2.2.2.1).bind fun t271 => (if t271 = 8 then ((prefix_Less.f k t225 t226 t227 t228 bt235.1 bt235.2.1 bt235.2.2.1 bt235.2.2.2.1).bind fun t272 => (if ((!bt235.2.2.2.2.1 && (bt235.2.2.2.2.2.1 == 0 && (bt235.2.2.2.2.2.2.1 == 176160768))) && (bt235.2.2.2.2.2.2.2.1 == 9)) = true then (if t267 = true then (some t272) else (none)) else (none))) else (none))) else (none))) else (none))) else (none)))) else (none))) else (none)) else (none)) else (none)) else (none))) else (none)) else (none))) else (none)))))) = some r := H
 have A1 := Aside0.mk A10
 clear A10
 replace H := Option.bind_eq_some_iff.mp H
 obtain ⟨⟨t231, t232, t233, t234⟩, A20, H⟩ := H
 replace H : ((prefix_Halves.f k t231 t232 t233 t234).bind fun bt235 => ((prefix_Parse.f k (⟨#[49, 48, 46, 48, 46, 48, 46, 48, 47, 56]⟩ : ByteArray)).bind fun bt246 => ((prefix_Parse.f k (⟨#[49, 48, 46, 48, 46, 48, 46, 49, 47, 56]⟩ : ByteArray)).bind fun bt252 => (if t229 = 0 then ((crosswaylaw04_ten.f 8).bind fun bt258 => (if ((t225 == bt258.1 && (t226 == bt258.2.1 && (t227 == bt258.2.2.1))) && (t228 == bt258.2.2.2)) = true then (if bt235.2.2.2.2.2.2.2.2 = 0 then ((crosswaylaw04_ten.f 9).bind fun bt262 => (if ((bt235.1 == bt262.1 && (bt235.2.1 == bt262.2.1 && (bt235.2.2.1 == bt262.2.2.1))) && (bt235.2.2.2.1 == bt262.2.2.2)) = true then (if bt246.2.2.2.2 = 0 then (if ((bt246.1 == t225 && (bt246.2.1 == t226 && (bt246.2.2.1 == t227))) && (bt246.2.2.2.1 == t228)) = true then (if bt252.2.2.2.2 = 30 then ((prefix_Print.f k t225 t226 t227 t228).bind fun t266 => (if t266.toList = ([49, 48, 46, 48, 46, 48, 46, 48, 47, 56] : List UInt8) then ((prefix_Valid.f t225 t226 t227 t228).bind fun t267 => ((prefix_Holds.f t225 t226 t227 t228 false 0 167772161).bind fun t268 => (if t268 = true then ((prefix_Covers.f t225 t226 t227 t228 bt235.1 bt235.2.1 bt235.2.2.1 bt235.2.2.2.1).bind fun t269 => (if t269 = true then ((prefix_Bit.f k false 0 1 31).bind fun t270 => (if t270 = 1 then ((prefix_Common.f k bt235.1 bt235.2.1 bt235.2.2.1 bt235.2.2.2.2.1 bt235.2.2.2.2.2.1 bt235.2.2.2.2.2.2.1).bind fun t271 => (if t271 = 8 then ((prefix_Less.f k t225 t226 t227 t228 bt235.1 bt235.2.1 bt235.2.2.1 bt235.2.2.2.1).bind fun t272 => (if ((!bt235.2.2.2.2.1 && (bt235.2.2.2.2.2.1 == 0 && (bt235.2.2.2.2.2.2.1 == 176160768))) && (bt235.2.2.2.2.2.2.2.1 == 9)) = true then (if t267 = true then (some t272) else (none)) else (none))) else (none))) else (none))) else (none))) else (none)))) else (none))) else (none)) else (none)) else (none)) else (none))) else (none)) else (none))) else (none))))) = some r := H
 have A2 := Aside0.mk A20
 clear A20
 replace H := Option.bind_eq_some_iff.mp H
 obtain ⟨⟨t235, t236, t237, t238, t239, t240, t241, t242, t243⟩, A30, H⟩ := H
 replace H : ((prefix_Parse.f k (⟨#[49, 48, 46, 48, 46, 48, 46, 48, 47, 56]⟩ : ByteArray)).bind fun bt246 => ((prefix_Parse.f k (⟨#[49, 48, 46, 48, 46, 48, 46, 49, 47, 56]⟩ : ByteArray)).bind fun bt252 => (if t229 = 0 then ((crosswaylaw04_ten.f 8).bind fun bt258 => (if ((t225 == bt258.1 && (t226 == bt258.2.1 && (t227 == bt258.2.2.1))) && (t228 == bt258.2.2.2)) = true then (if t243 = 0 then ((crosswaylaw04_ten.f 9).bind fun bt262 => (if ((t235 == bt262.1 && (t236 == bt262.2.1 && (t237 == bt262.2.2.1))) && (t238 == bt262.2.2.2)) = true then (if bt246.2.2.2.2 = 0 then (if ((bt246.1 == t225 && (bt246.2.1 == t226 && (bt246.2.2.1 == t227))) && (bt246.2.2.2.1 == t228)) = true then (if bt252.2.2.2.2 = 30 then ((prefix_Print.f k t225 t226 t227 t228).bind fun t266 => (if t266.toList = ([49, 48, 46, 48, 46, 48, 46, 48, 47, 56] : List UInt8) then ((prefix_Valid.f t225 t226 t227 t228).bind fun t267 => ((prefix_Holds.f t225 t226 t227 t228 false 0 167772161).bind fun t268 => (if t268 = true then ((prefix_Covers.f t225 t226 t227 t228 t235 t236 t237 t238).bind fun t269 => (if t269 = true then ((prefix_Bit.f k false 0 1 31).bind fun t270 => (if t270 = 1 then ((prefix_Common.f k t235 t236 t237 t239 t240 t241).bind fun t271 => (if t271 = 8 then ((prefix_Less.f k t225 t226 t227 t228 t235 t236 t237 t238).bind fun t272 => (if ((!t239 && (t240 == 0 && (t241 == 176160768))) && (t242 == 9)) = true then (if t267 = true then (some t272) else (none)) else (none))) else (none))) else (none))) else (none))) else (none)))) else (none))) else (none)) else (none)) else (none)) else (none))) else (none)) else (none))) else (none)))) = some r := H
 have A3 := Aside0.mk A30
 clear A30
 replace H := Option.bind_eq_some_iff.mp H
 obtain ⟨⟨t246, t247, t248, t249, t250⟩, A40, H⟩ := H
 replace H : ((prefix_Parse.f k (⟨#[49, 48, 46, 48, 46, 48, 46, 49, 47, 56]⟩ : ByteArray)).bind fun bt252 => (if t229 = 0 then ((crosswaylaw04_ten.f 8).bind fun bt258 => (if ((t225 == bt258.1 && (t226 == bt258.2.1 && (t227 == bt258.2.2.1))) && (t228 == bt258.2.2.2)) = true then (if t243 = 0 then ((crosswaylaw04_ten.f 9).bind fun bt262 => (if ((t235 == bt262.1 && (t236 == bt262.2.1 && (t237 == bt262.2.2.1))) && (t238 == bt262.2.2.2)) = true then (if t250 = 0 then (if ((t246 == t225 && (t247 == t226 && (t248 == t227))) && (t249 == t228)) = true then (if bt252.2.2.2.2 = 30 then ((prefix_Print.f k t225 t226 t227 t228).bind fun t266 => (if t266.toList = ([49, 48, 46, 48, 46, 48, 46, 48, 47, 56] : List UInt8) then ((prefix_Valid.f t225 t226 t227 t228).bind fun t267 => ((prefix_Holds.f t225 t226 t227 t228 false 0 167772161).bind fun t268 => (if t268 = true then ((prefix_Covers.f t225 t226 t227 t228 t235 t236 t237 t238).bind fun t269 => (if t269 = true then ((prefix_Bit.f k false 0 1 31).bind fun t270 => (if t270 = 1 then ((prefix_Common.f k t235 t236 t237 t239 t240 t241).bind fun t271 => (if t271 = 8 then ((prefix_Less.f k t225 t226 t227 t228 t235 t236 t237 t238).bind fun t272 => (if ((!t239 && (t240 == 0 && (t241 == 176160768))) && (t242 == 9)) = true then (if t267 = true then (some t272) else (none)) else (none))) else (none))) else (none))) else (none))) else (none)))) else (none))) else (none)) else (none)) else (none)) else (none))) else (none)) else (none))) else (none))) = some r := H
 have A4 := Aside0.mk A40
 clear A40
 replace H := Option.bind_eq_some_iff.mp H
 obtain ⟨⟨t252, t253, t254, t255, t256⟩, A50, H⟩ := H
 replace H : (if t229 = 0 then ((crosswaylaw04_ten.f 8).bind fun bt258 => (if ((t225 == bt258.1 && (t226 == bt258.2.1 && (t227 == bt258.2.2.1))) && (t228 == bt258.2.2.2)) = true then (if t243 = 0 then ((crosswaylaw04_ten.f 9).bind fun bt262 => (if ((t235 == bt262.1 && (t236 == bt262.2.1 && (t237 == bt262.2.2.1))) && (t238 == bt262.2.2.2)) = true then (if t250 = 0 then (if ((t246 == t225 && (t247 == t226 && (t248 == t227))) && (t249 == t228)) = true then (if t256 = 30 then ((prefix_Print.f k t225 t226 t227 t228).bind fun t266 => (if t266.toList = ([49, 48, 46, 48, 46, 48, 46, 48, 47, 56] : List UInt8) then ((prefix_Valid.f t225 t226 t227 t228).bind fun t267 => ((prefix_Holds.f t225 t226 t227 t228 false 0 167772161).bind fun t268 => (if t268 = true then ((prefix_Covers.f t225 t226 t227 t228 t235 t236 t237 t238).bind fun t269 => (if t269 = true then ((prefix_Bit.f k false 0 1 31).bind fun t270 => (if t270 = 1 then ((prefix_Common.f k t235 t236 t237 t239 t240 t241).bind fun t271 => (if t271 = 8 then ((prefix_Less.f k t225 t226 t227 t228 t235 t236 t237 t238).bind fun t272 => (if ((!t239 && (t240 == 0 && (t241 == 176160768))) && (t242 == 9)) = true then (if t267 = true then (some t272) else (none)) else (none))) else (none))) else (none))) else (none))) else (none)))) else (none))) else (none)) else (none)) else (none)) else (none))) else (none)) else (none))) else (none)) = some r := H
 have A5 := Aside0.mk A50
 clear A50
 by_cases c6 : t229 = 0
 ·rw [if_pos c6] at H
  have c6b0 : (t229 == 0) = true := beq_iff_eq.mpr c6
  have c6b1 : (t229 != 0) = false := bne_eq_false_iff_eq.mpr c6
  clear c6
  replace H := Option.bind_eq_some_iff.mp H
  obtain ⟨⟨t258, t259, t260, t261⟩, A70, H⟩ := H
  replace H : (if ((t225 == t258 && (t226 == t259 && (t227 == t260))) && (t228 == t261)) = true then (if t243 = 0 then ((crosswaylaw04_ten.f 9).bind fun bt262 => (if ((t235 == bt262.1 && (t236 == bt262.2.1 && (t237 == bt262.2.2.1))) && (t238 == bt262.2.2.2)) = true then (if t250 = 0 then (if ((t246 == t225 && (t247 == t226 && (t248 == t227))) && (t249 == t228)) = true then (if t256 = 30 then ((prefix_Print.f k t225 t226 t227 t228).bind fun t266 => (if t266.toList = ([49, 48, 46, 48, 46, 48, 46, 48, 47, 56] : List UInt8) then ((prefix_Valid.f t225 t226 t227 t228).bind fun t267 => ((prefix_Holds.f t225 t226 t227 t228 false 0 167772161).bind fun t268 => (if t268 = true then ((prefix_Covers.f t225 t226 t227 t228 t235 t236 t237 t238).bind fun t269 => (if t269 = true then ((prefix_Bit.f k false 0 1 31).bind fun t270 => (if t270 = 1 then ((prefix_Common.f k t235 t236 t237 t239 t240 t241).bind fun t271 => (if t271 = 8 then ((prefix_Less.f k t225 t226 t227 t228 t235 t236 t237 t238).bind fun t272 => (if ((!t239 && (t240 == 0 && (t241 == 176160768))) && (t242 == 9)) = true then (if t267 = true then (some t272) else (none)) else (none))) else (none))) else (none))) else (none))) else (none)))) else (none))) else (none)) else (none)) else (none)) else (none))) else (none)) else (none)) = some r := H
  have A7 := Aside0.mk A70
  clear A70
  by_cases c8 : ((t225 == t258 && (t226 == t259 && (t227 == t260))) && (t228 == t261)) = true
  ·rw [if_pos c8] at H
   have c8b0 : ((t225 == t258 && (t226 == t259 && (t227 == t260))) && (t228 == t261)) = true := c8
   clear c8
   by_cases c9 : t243 = 0
   ·rw [if_pos c9] at H
    have c9b0 : (t243 == 0) = true := beq_iff_eq.mpr c9
    have c9b1 : (t243 != 0) = false := bne_eq_false_iff_eq.mpr c9
    clear c9
    replace H := Option.bind_eq_some_iff.mp H
    obtain ⟨⟨t262, t263, t264, t265⟩, A100, H⟩ := H
    replace H : (if ((t235 == t262 && (t236 == t263 && (t237 == t264))) && (t238 == t265)) = true then (if t250 = 0 then (if ((t246 == t225 && (t247 == t226 && (t248 == t227))) && (t249 == t228)) = true then (if t256 = 30 then ((prefix_Print.f k t225 t226 t227 t228).bind fun t266 => (if t266.toList = ([49, 48, 46, 48, 46, 48, 46, 48, 47, 56] : List UInt8) then ((prefix_Valid.f t225 t226 t227 t228).bind fun t267 => ((prefix_Holds.f t225 t226 t227 t228 false 0 167772161).bind fun t268 => (if t268 = true then ((prefix_Covers.f t225 t226 t227 t228 t235 t236 t237 t238).bind fun t269 => (if t269 = true then ((prefix_Bit.f k false 0 1 31).bind fun t270 => (if t270 = 1 then ((prefix_Common.f k t235 t236 t237 t239 t240 t241).bind fun t271 => (if t271 = 8 then ((prefix_Less.f k t225 t226 t227 t228 t235 t236 t237 t238).bind fun t272 => (if ((!t239 && (t240 == 0 && (t241 == 176160768))) && (t242 == 9)) = true then (if t267 = true then (some t272) else (none)) else (none))) else (none))) else (none))) else (none))) else (none)))) else (none))) else (none)) else (none)) else (none)) else (none)) = some r := H
    have A10 := Aside0.mk A100
    clear A100
    by_cases c11 : ((t235 == t262 && (t236 == t263 && (t237 == t264))) && (t238 == t265)) = true
    ·rw [if_pos c11] at H
     have c11b0 : ((t235 == t262 && (t236 == t263 && (t237 == t264))) && (t238 == t265)) = true := c11
     clear c11
     by_cases c12 : t250 = 0
     ·rw [if_pos c12] at H
      have c12b0 : (t250 == 0) = true := beq_iff_eq.mpr c12
      have c12b1 : (t250 != 0) = false := bne_eq_false_iff_eq.mpr c12
      clear c12
      by_cases c13 : ((t246 == t225 && (t247 == t226 && (t248 == t227))) && (t249 == t228)) = true
      ·rw [if_pos c13] at H
       have c13b0 : ((t246 == t225 && (t247 == t226 && (t248 == t227))) && (t249 == t228)) = true := c13
       clear c13
       by_cases c14 : t256 = 30
       ·rw [if_pos c14] at H
        have c14b0 : (t256 == 30) = true := beq_iff_eq.mpr c14
        have c14b1 : (t256 != 30) = false := bne_eq_false_iff_eq.mpr c14
        clear c14
        replace H := Option.bind_eq_some_iff.mp H
        obtain ⟨t266, A150, H⟩ := H
        replace H : (if t266.toList = ([49, 48, 46, 48, 46, 48, 46, 48, 47, 56] : List UInt8) then ((prefix_Valid.f t225 t226 t227 t228).bind fun t267 => ((prefix_Holds.f t225 t226 t227 t228 false 0 167772161).bind fun t268 => (if t268 = true then ((prefix_Covers.f t225 t226 t227 t228 t235 t236 t237 t238).bind fun t269 => (if t269 = true then ((prefix_Bit.f k false 0 1 31).bind fun t270 => (if t270 = 1 then ((prefix_Common.f k t235 t236 t237 t239 t240 t241).bind fun t271 => (if t271 = 8 then ((prefix_Less.f k t225 t226 t227 t228 t235 t236 t237 t238).bind fun t272 => (if ((!t239 && (t240 == 0 && (t241 == 176160768))) && (t242 == 9)) = true then (if t267 = true then (some t272) else (none)) else (none))) else (none))) else (none))) else (none))) else (none)))) else (none)) = some r := H
        have A15 := Aside0.mk A150
        clear A150
        by_cases c16 : t266.toList = ([49, 48, 46, 48, 46, 48, 46, 48, 47, 56] : List UInt8)
        ·rw [if_pos c16] at H
         have c16b0 : (t266.toList == ([49, 48, 46, 48, 46, 48, 46, 48, 47, 56] : List UInt8)) = true := beq_iff_eq.mpr c16
         have c16b1 : (t266.toList != ([49, 48, 46, 48, 46, 48, 46, 48, 47, 56] : List UInt8)) = false := bne_eq_false_iff_eq.mpr c16
         clear c16
         replace H := Option.bind_eq_some_iff.mp H
         obtain ⟨t267, A170, H⟩ := H
         replace H : ((prefix_Holds.f t225 t226 t227 t228 false 0 167772161).bind fun t268 => (if t268 = true then ((prefix_Covers.f t225 t226 t227 t228 t235 t236 t237 t238).bind fun t269 => (if t269 = true then ((prefix_Bit.f k false 0 1 31).bind fun t270 => (if t270 = 1 then ((prefix_Common.f k t235 t236 t237 t239 t240 t241).bind fun t271 => (if t271 = 8 then ((prefix_Less.f k t225 t226 t227 t228 t235 t236 t237 t238).bind fun t272 => (if ((!t239 && (t240 == 0 && (t241 == 176160768))) && (t242 == 9)) = true then (if t267 = true then (some t272) else (none)) else (none))) else (none))) else (none))) else (none))) else (none))) = some r := H
         have A17 := Aside0.mk A170
         clear A170
         replace H := Option.bind_eq_some_iff.mp H
         obtain ⟨t268, A180, H⟩ := H
         replace H : (if t268 = true then ((prefix_Covers.f t225 t226 t227 t228 t235 t236 t237 t238).bind fun t269 => (if t269 = true then ((prefix_Bit.f k false 0 1 31).bind fun t270 => (if t270 = 1 then ((prefix_Common.f k t235 t236 t237 t239 t240 t241).bind fun t271 => (if t271 = 8 then ((prefix_Less.f k t225 t226 t227 t228 t235 t236 t237 t238).bind fun t272 => (if ((!t239 && (t240 == 0 && (t241 == 176160768))) && (t242 == 9)) = true then (if t267 = true then (some t272) else (none)) else (none))) else (none))) else (none))) else (none))) else (none)) = some r := H
         have A18 := Aside0.mk A180
         clear A180
         by_cases c19 : t268 = true
         ·subst c19
          have H1 : ((prefix_Covers.f t225 t226 t227 t228 t235 t236 t237 t238).bind fun t269 => (if t269 = true then ((prefix_Bit.f k false 0 1 31).bind fun t270 => (if t270 = 1 then ((prefix_Common.f k t235 t236 t237 t239 t240 t241).bind fun t271 => (if t271 = 8 then ((prefix_Less.f k t225 t226 t227 t228 t235 t236 t237 t238).bind fun t272 => (if ((!t239 && (t240 == 0 && (t241 == 176160768))) && (t242 == 9)) = true then (if t267 = true then (some t272) else (none)) else (none))) else (none))) else (none))) else (none))) = some r := by rw [if_pos rfl] at H; exact H
          clear H
          have H := H1
          clear H1
          replace H := Option.bind_eq_some_iff.mp H
          obtain ⟨t269, A200, H⟩ := H
          replace H : (if t269 = true then ((prefix_Bit.f k false 0 1 31).bind fun t270 => (if t270 = 1 then ((prefix_Common.f k t235 t236 t237 t239 t240 t241).bind fun t271 => (if t271 = 8 then ((prefix_Less.f k t225 t226 t227 t228 t235 t236 t237 t238).bind fun t272 => (if ((!t239 && (t240 == 0 && (t241 == 176160768))) && (t242 == 9)) = true then (if t267 = true then (some t272) else (none)) else (none))) else (none))) else (none))) else (none)) = some r := H
          have A20 := Aside0.mk A200
          clear A200
          by_cases c21 : t269 = true
          ·subst c21
           have H1 : ((prefix_Bit.f k false 0 1 31).bind fun t270 => (if t270 = 1 then ((prefix_Common.f k t235 t236 t237 t239 t240 t241).bind fun t271 => (if t271 = 8 then ((prefix_Less.f k t225 t226 t227 t228 t235 t236 t237 t238).bind fun t272 => (if ((!t239 && (t240 == 0 && (t241 == 176160768))) && (t242 == 9)) = true then (if t267 = true then (some t272) else (none)) else (none))) else (none))) else (none))) = some r := by rw [if_pos rfl] at H; exact H
           clear H
           have H := H1
           clear H1
           replace H := Option.bind_eq_some_iff.mp H
           obtain ⟨t270, A220, H⟩ := H
           replace H : (if t270 = 1 then ((prefix_Common.f k t235 t236 t237 t239 t240 t241).bind fun t271 => (if t271 = 8 then ((prefix_Less.f k t225 t226 t227 t228 t235 t236 t237 t238).bind fun t272 => (if ((!t239 && (t240 == 0 && (t241 == 176160768))) && (t242 == 9)) = true then (if t267 = true then (some t272) else (none)) else (none))) else (none))) else (none)) = some r := H
           have A22 := Aside0.mk A220
           clear A220
           by_cases c23 : t270 = 1
           ·rw [if_pos c23] at H
            have c23b0 : (t270 == 1) = true := beq_iff_eq.mpr c23
            have c23b1 : (t270 != 1) = false := bne_eq_false_iff_eq.mpr c23
            clear c23
            replace H := Option.bind_eq_some_iff.mp H
            obtain ⟨t271, A240, H⟩ := H
            replace H : (if t271 = 8 then ((prefix_Less.f k t225 t226 t227 t228 t235 t236 t237 t238).bind fun t272 => (if ((!t239 && (t240 == 0 && (t241 == 176160768))) && (t242 == 9)) = true then (if t267 = true then (some t272) else (none)) else (none))) else (none)) = some r := H
            have A24 := Aside0.mk A240
            clear A240
            by_cases c25 : t271 = 8
            ·rw [if_pos c25] at H
             have c25b0 : (t271 == 8) = true := beq_iff_eq.mpr c25
             have c25b1 : (t271 != 8) = false := bne_eq_false_iff_eq.mpr c25
             clear c25
             replace H := Option.bind_eq_some_iff.mp H
             obtain ⟨t272, A260, H⟩ := H
             replace H : (if ((!t239 && (t240 == 0 && (t241 == 176160768))) && (t242 == 9)) = true then (if t267 = true then (some t272) else (none)) else (none)) = some r := H
             have A26 := Aside0.mk A260
             clear A260
             by_cases c27 : ((!t239 && (t240 == 0 && (t241 == 176160768))) && (t242 == 9)) = true
             ·rw [if_pos c27] at H
              have c27b0 : ((!t239 && (t240 == 0 && (t241 == 176160768))) && (t242 == 9)) = true := c27
              clear c27
              by_cases c28 : t267 = true
              ·subst c28
               have H1 : (some t272) = some r := by rw [if_pos rfl] at H; exact H
               clear H
               have H := H1
               clear H1
               obtain rfl := Option.some.inj H
               go_enter Tryd.func9, Tryd.ntmps9
               try go_wp2_with (first | ((with_reducible refine gate_callee (f := 10) rfl ?_); refine goesL_ (some 15) rfl rfl Tryd.func10 (by kernel_rfl) rfl #[.agg #[.bool false, .int .u64 0, .int .u64 167772161], .int .i64 8] rfl Ma ?_; (with_reducible refine (prefix_Of.calls false 0 167772161 8 t225 t226 t227 t228 t229 _ A1.out).mono ?_); rintro e w29 ⟨rfl, hb⟩; refine ⟨_, rfl, ?_⟩; have n0_ := Aside0.mk (below_step (Hb HB.out) hb); clear HB; have HB := n0_; clear n0_; (try clear hb); (try clear hb2); (try clear hk); (try clear hi)) | ((with_reducible refine gate_dst (N := 1) rfl ?_); refine box_event ?hg (N := 1) ?hd (cs := #[.bool false, .int .u64 0, .int .u64 0, .int .i64 0]) (t := 26) ?hr ?_; (case hd => rfl); (case hg => rfl); (case hr => first | (go_simp; done) | (go_simp; rfl)); intro gb230 hg w30 hbox hb; have n0_ := Aside0.mk (below_step (Hb HB.out) hb); have n1_ := Aside0.mk (hbox); have n2_ := Aside0.mk ((by rw [hg]; exact (below_size (Hb HB.out)) : w.heap.size ≤ gb230)); have n3_ := Aside0.mk ((by rw [hg]; exact (below_size (Hb HB.out)) : w.heap.size ≤ gb230)); clear HB; have HB := n0_; have BK230 := n1_; have GW230 := n2_; have GE230 := n3_; clear n0_ n1_ n2_ n3_; clear hb hbox hg; have hcz31_0 : w30.cell? ⟨gb230, 0, none⟩ = some (.bool false) := (blk_cell BK230.out 0).trans rfl; have hcz31_1 : w30.cell? ⟨gb230, 1, none⟩ = some (.int .u64 0) := (blk_cell BK230.out 1).trans rfl; have hcz31_2 : w30.cell? ⟨gb230, 2, none⟩ = some (.int .u64 0) := (blk_cell BK230.out 2).trans rfl; have hcz31_3 : w30.cell? ⟨gb230, 3, none⟩ = some (.int .i64 0) := (blk_cell BK230.out 3).trans rfl; have hfz31_0 := blk_frozen BK230.out 0; have hfz31_1 := blk_frozen BK230.out 1; have hfz31_2 := blk_frozen BK230.out 2; have hfz31_3 := blk_frozen BK230.out 3) | ((with_reducible refine gate_callee (f := 28) rfl ?_); refine goesL_ (some 19) rfl rfl Tryd.func28 (by kernel_rfl) rfl #[.int .i64 8] rfl Ma ?_; (with_reducible refine (crosswaylaw04_ten.calls 8 t231 t232 t233 t234 _ A2.out).mono ?_); rintro e w32 ⟨rfl, hb⟩; refine ⟨_, rfl, ?_⟩; have n0_ := Aside0.mk (blk_below (g := gb230) (o := .cells #[.bool t225, .int .u64 t226, .int .u64 t227, .int .i64 t228] 26 (0, 0)) (by refine St ?_; refine blk_put (cs := #[.bool t225, .int .u64 t226, .int .u64 t227, .int .i64 0]) ?_ 3 _ rfl; refine St ?_; refine blk_put (cs := #[.bool t225, .int .u64 t226, .int .u64 0, .int .i64 0]) ?_ 2 _ rfl; refine St ?_; refine blk_put (cs := #[.bool t225, .int .u64 0, .int .u64 0, .int .i64 0]) ?_ 1 _ rfl; refine St ?_; refine blk_put (cs := #[.bool false, .int .u64 0, .int .u64 0, .int .i64 0]) ?_ 0 _ rfl; refine St ?_; exact BK230.out) hb); have n1_ := Aside0.mk (below_step (Hb HB.out) hb); clear BK230; clear HB; have BK230 := n0_; have HB := n1_; clear n0_ n1_; (try clear hb); (try clear hb2); (try clear hk); (try clear hi)) | ((with_reducible refine gate_callee (f := 24) rfl ?_); refine goesL_ (some 20) rfl rfl Tryd.func24 (by kernel_rfl) rfl #[.agg #[.bool t231, .int .u64 t232, .int .u64 t233, .int .i64 t234]] rfl Ma ?_; (with_reducible refine (prefix_Halves.calls k t231 t232 t233 t234 t235 t236 t237 t238 t239 t240 t241 t242 t243 _ A3.out).mono ?_); rintro e w33 ⟨rfl, hb⟩; refine ⟨_, rfl, ?_⟩; have n0_ := Aside0.mk (blk_below (g := gb230) (o := .cells #[.bool t225, .int .u64 t226, .int .u64 t227, .int .i64 t228] 26 (0, 0)) (St BK230.out) hb); have n1_ := Aside0.mk (below_step (Hb HB.out) hb); clear BK230; clear HB; have BK230 := n0_; have HB := n1_; clear n0_ n1_; (try clear hb); (try clear hb2); (try clear hk); (try clear hi)) | ((with_reducible refine gate_dst (N := 3) rfl ?_); refine box_event ?hg (N := 3) ?hd (cs := #[.bool false, .int .u64 0, .int .u64 0, .int .i64 0]) (t := 26) ?hr ?_; (case hd => rfl); (case hg => rfl); (case hr => first | (go_simp; done) | (go_simp; rfl)); intro gb244 hg w34 hbox hb; have n0_ := Aside0.mk (blk_below (g := gb230) (o := .cells #[.bool t225, .int .u64 t226, .int .u64 t227, .int .i64 t228] 26 (0, 0)) (St BK230.out) hb); have n1_ := Aside0.mk (below_step (Hb HB.out) hb); have n2_ := Aside0.mk (hbox); have n3_ := Aside0.mk ((by rw [hg]; exact (below_size (Hb HB.out)) : w.heap.size ≤ gb244)); have n4_ := Aside0.mk ((by rw [hg]; exact (below_size (Hb HB.out)) : w.heap.size ≤ gb244)); have n5_ := Aside0.mk ((by rw [hg]; exact Nat.ne_of_lt (blk_lt (g := gb230) (o := .cells #[.bool t225, .int .u64 t226, .int .u64 t227, .int .i64 t228] 26 (0, 0)) (St BK230.out)) : gb230 ≠ gb244)); have n6_ := Aside0.mk ((by rw [hg]; exact Nat.ne_of_gt (blk_lt (g := gb230) (o := .cells #[.bool t225, .int .u64 t226, .int .u64 t227, .int .i64 t228] 26 (0, 0)) (St BK230.out)) : gb244 ≠ gb230)); clear BK230; clear HB; have BK230 := n0_; have HB := n1_; have BK244 := n2_; have GW244 := n3_; have GE244 := n4_; have NB230_244 := n5_; have NB244_230 := n6_; clear n0_ n1_ n2_ n3_ n4_ n5_ n6_; clear hb hbox hg) | ((with_reducible refine gate_dst (N := 4) rfl ?_); refine box_event ?hg (N := 4) ?hd (cs := #[.bool false, .int .u64 0, .int .u64 0, .int .i64 0]) (t := 26) ?hr ?_; (case hd => rfl); (case hg => rfl); (case hr => first | (go_simp; done) | (go_simp; rfl)); intro gb245 hg w35 hbox hb; have n0_ := Aside0.mk (blk_below (g := gb230) (o := .cells #[.bool t225, .int .u64 t226, .int .u64 t227, .int .i64 t228] 26 (0, 0)) (St BK230.out) hb); have n1_ := Aside0.mk (blk_below (g := gb244) (o := .cells #[.bool false, .int .u64 0, .int .u64 0, .int .i64 0] 26 (0, 0)) (St BK244.out) hb); have n2_ := Aside0.mk (below_step (Hb HB.out) hb); have n3_ := Aside0.mk (hbox); have n4_ := Aside0.mk ((by rw [hg]; exact (below_size (Hb HB.out)) : w.heap.size ≤ gb245)); have n5_ := Aside0.mk ((by rw [hg]; exact (below_size (Hb HB.out)) : w.heap.size ≤ gb245)); have n6_ := Aside0.mk ((by rw [hg]; exact Nat.ne_of_lt (blk_lt (g := gb230) (o := .cells #[.bool t225, .int .u64 t226, .int .u64 t227, .int .i64 t228] 26 (0, 0)) (St BK230.out)) : gb230 ≠ gb245)); have n7_ := Aside0.mk ((by rw [hg]; exact Nat.ne_of_gt (blk_lt (g := gb230) (o := .cells #[.bool t225, .int .u64 t226, .int .u64 t227, .int .i64 t228] 26 (0, 0)) (St BK230.out)) : gb245 ≠ gb230)); have n8_ := Aside0.mk ((by rw [hg]; exact Nat.ne_of_lt (blk_lt (g := gb244) (o := .cells #[.bool false, .int .u64 0, .int .u64 0, .int .i64 0] 26 (0, 0)) (St BK244.out)) : gb244 ≠ gb245)); have n9_ := Aside0.mk ((by rw [hg]; exact Nat.ne_of_gt (blk_lt (g := gb244) (o := .cells #[.bool false, .int .u64 0, .int .u64 0, .int .i64 0] 26 (0, 0)) (St BK244.out)) : gb245 ≠ gb244)); clear BK230; clear BK244; clear HB; have BK230 := n0_; have BK244 := n1_; have HB := n2_; have BK245 := n3_; have GW245 := n4_; have GE245 := n5_; have NB230_245 := n6_; have NB245_230 := n7_; have NB244_245 := n8_; have NB245_244 := n9_; clear n0_ n1_ n2_ n3_ n4_ n5_ n6_ n7_ n8_ n9_; clear hb hbox hg; have hnb36 := NB244_230.out; have hnc36 := NB230_244.out; have hnb37 := NB244_245.out; have hnc37 := NB245_244.out; have hcz38_0 : w35.cell? ⟨gb244, 0, none⟩ = some (.bool false) := (blk_cell BK244.out 0).trans rfl; have hcz38_1 : w35.cell? ⟨gb244, 1, none⟩ = some (.int .u64 0) := (blk_cell BK244.out 1).trans rfl; have hcz38_2 : w35.cell? ⟨gb244, 2, none⟩ = some (.int .u64 0) := (blk_cell BK244.out 2).trans rfl; have hcz38_3 : w35.cell? ⟨gb244, 3, none⟩ = some (.int .i64 0) := (blk_cell BK244.out 3).trans rfl; have hfz38_0 := blk_frozen BK244.out 0; have hfz38_1 := blk_frozen BK244.out 1; have hfz38_2 := blk_frozen BK244.out 2; have hfz38_3 := blk_frozen BK244.out 3; have hnb39 := NB245_230.out; have hnc39 := NB230_245.out; have hcz40_0 : w35.cell? ⟨gb245, 0, none⟩ = some (.bool false) := (blk_cell BK245.out 0).trans rfl; have hcz40_1 : w35.cell? ⟨gb245, 1, none⟩ = some (.int .u64 0) := (blk_cell BK245.out 1).trans rfl; have hcz40_2 : w35.cell? ⟨gb245, 2, none⟩ = some (.int .u64 0) := (blk_cell BK245.out 2).trans rfl; have hcz40_3 : w35.cell? ⟨gb245, 3, none⟩ = some (.int .i64 0) := (blk_cell BK245.out 3).trans rfl; have hfz40_0 := blk_frozen BK245.out 0; have hfz40_1 := blk_frozen BK245.out 1; have hfz40_2 := blk_frozen BK245.out 2; have hfz40_3 := blk_frozen BK245.out 3) | ((with_reducible refine gate_callee (f := 23) rfl ?_); refine goesL_ (some 25) rfl rfl Tryd.func23 (by kernel_rfl) rfl #[.string (⟨#[49, 48, 46, 48, 46, 48, 46, 48, 47, 56]⟩ : ByteArray)] rfl Ma ?_; (with_reducible refine (prefix_Parse.calls k (⟨#[49, 48, 46, 48, 46, 48, 46, 48, 47, 56]⟩ : ByteArray) t246 t247 t248 t249 t250 _ (Glob_below HG.out (Hb HB.out)) A4.out).mono ?_); rintro e w41 ⟨rfl, hb⟩; refine ⟨_, rfl, ?_⟩; have n0_ := Aside0.mk (blk_below (g := gb230) (o := .cells #[.bool t225, .int .u64 t226, .int .u64 t227, .int .i64 t228] 26 (0, 0)) (by refine St ?_; refine blk_far ?_ NB230_245.out _; refine St ?_; refine blk_far ?_ NB230_245.out _; refine St ?_; refine blk_far ?_ NB230_245.out _; refine St ?_; refine blk_far ?_ NB230_245.out _; refine St ?_; refine blk_far ?_ NB230_244.out _; refine St ?_; refine blk_far ?_ NB230_244.out _; refine St ?_; refine blk_far ?_ NB230_244.out _; refine St ?_; refine blk_far ?_ NB230_244.out _; refine St ?_; exact BK230.out) hb); have n1_ := Aside0.mk (blk_below (g := gb244) (o := .cells #[.bool t235, .int .u64 t236, .int .u64 t237, .int .i64 t238] 26 (0, 0)) (by refine St ?_; refine blk_far ?_ NB244_245.out _; refine St ?_; refine blk_far ?_ NB244_245.out _; refine St ?_; refine blk_far ?_ NB244_245.out _; refine St ?_; refine blk_far ?_ NB244_245.out _; refine St ?_; refine blk_put (cs := #[.bool t235, .int .u64 t236, .int .u64 t237, .int .i64 0]) ?_ 3 _ rfl; refine St ?_; refine blk_put (cs := #[.bool t235, .int .u64 t236, .int .u64 0, .int .i64 0]) ?_ 2 _ rfl; refine St ?_; refine blk_put (cs := #[.bool t235, .int .u64 0, .int .u64 0, .int .i64 0]) ?_ 1 _ rfl; refine St ?_; refine blk_put (cs := #[.bool false, .int .u64 0, .int .u64 0, .int .i64 0]) ?_ 0 _ rfl; refine St ?_; exact BK244.out) hb); have n2_ := Aside0.mk (blk_below (g := gb245) (o := .cells #[.bool t239, .int .u64 t240, .int .u64 t241, .int .i64 t242] 26 (0, 0)) (by refine St ?_; refine blk_put (cs := #[.bool t239, .int .u64 t240, .int .u64 t241, .int .i64 0]) ?_ 3 _ rfl; refine St ?_; refine blk_put (cs := #[.bool t239, .int .u64 t240, .int .u64 0, .int .i64 0]) ?_ 2 _ rfl; refine St ?_; refine blk_put (cs := #[.bool t239, .int .u64 0, .int .u64 0, .int .i64 0]) ?_ 1 _ rfl; refine St ?_; refine blk_put (cs := #[.bool false, .int .u64 0, .int .u64 0, .int .i64 0]) ?_ 0 _ rfl; refine St ?_; refine blk_far ?_ NB245_244.out _; refine St ?_; refine blk_far ?_ NB245_244.out _; refine St ?_; refine blk_far ?_ NB245_244.out _; refine St ?_; refine blk_far ?_ NB245_244.out _; refine St ?_; exact BK245.out) hb); have n3_ := Aside0.mk (below_step (Hb HB.out) hb); clear BK230; clear BK244; clear BK245; clear HB; have BK230 := n0_; have BK244 := n1_; have BK245 := n2_; have HB := n3_; clear n0_ n1_ n2_ n3_; (try clear hb); (try clear hb2); (try clear hk); (try clear hi)) | ((with_reducible refine gate_dst (N := 6) rfl ?_); refine box_event ?hg (N := 6) ?hd (cs := #[.bool false, .int .u64 0, .int .u64 0, .int .i64 0]) (t := 26) ?hr ?_; (case hd => rfl); (case hg => rfl); (case hr => first | (go_simp; done) | (go_simp; rfl)); intro gb251 hg w42 hbox hb; have n0_ := Aside0.mk (blk_below (g := gb230) (o := .cells #[.bool t225, .int .u64 t226, .int .u64 t227, .int .i64 t228] 26 (0, 0)) (St BK230.out) hb); have n1_ := Aside0.mk (blk_below (g := gb244) (o := .cells #[.bool t235, .int .u64 t236, .int .u64 t237, .int .i64 t238] 26 (0, 0)) (St BK244.out) hb); have n2_ := Aside0.mk (blk_below (g := gb245) (o := .cells #[.bool t239, .int .u64 t240, .int .u64 t241, .int .i64 t242] 26 (0, 0)) (St BK245.out) hb); have n3_ := Aside0.mk (below_step (Hb HB.out) hb); have n4_ := Aside0.mk (hbox); have n5_ := Aside0.mk ((by rw [hg]; exact (below_size (Hb HB.out)) : w.heap.size ≤ gb251)); have n6_ := Aside0.mk ((by rw [hg]; exact (below_size (Hb HB.out)) : w.heap.size ≤ gb251)); have n7_ := Aside0.mk ((by rw [hg]; exact Nat.ne_of_lt (blk_lt (g := gb230) (o := .cells #[.bool t225, .int .u64 t226, .int .u64 t227, .int .i64 t228] 26 (0, 0)) (St BK230.out)) : gb230 ≠ gb251)); have n8_ := Aside0.mk ((by rw [hg]; exact Nat.ne_of_gt (blk_lt (g := gb230) (o := .cells #[.bool t225, .int .u64 t226, .int .u64 t227, .int .i64 t228] 26 (0, 0)) (St BK230.out)) : gb251 ≠ gb230)); have n9_ := Aside0.mk ((by rw [hg]; exact Nat.ne_of_lt (blk_lt (g := gb244) (o := .cells #[.bool t235, .int .u64 t236, .int .u64 t237, .int .i64 t238] 26 (0, 0)) (St BK244.out)) : gb244 ≠ gb251)); have n10_ := Aside0.mk ((by rw [hg]; exact Nat.ne_of_gt (blk_lt (g := gb244) (o := .cells #[.bool t235, .int .u64 t236, .int .u64 t237, .int .i64 t238] 26 (0, 0)) (St BK244.out)) : gb251 ≠ gb244)); have n11_ := Aside0.mk ((by rw [hg]; exact Nat.ne_of_lt (blk_lt (g := gb245) (o := .cells #[.bool t239, .int .u64 t240, .int .u64 t241, .int .i64 t242] 26 (0, 0)) (St BK245.out)) : gb245 ≠ gb251)); have n12_ := Aside0.mk ((by rw [hg]; exact Nat.ne_of_gt (blk_lt (g := gb245) (o := .cells #[.bool t239, .int .u64 t240, .int .u64 t241, .int .i64 t242] 26 (0, 0)) (St BK245.out)) : gb251 ≠ gb245)); clear BK230; clear BK244; clear BK245; clear HB; have BK230 := n0_; have BK244 := n1_; have BK245 := n2_; have HB := n3_; have BK251 := n4_; have GW251 := n5_; have GE251 := n6_; have NB230_251 := n7_; have NB251_230 := n8_; have NB244_251 := n9_; have NB251_244 := n10_; have NB245_251 := n11_; have NB251_245 := n12_; clear n0_ n1_ n2_ n3_ n4_ n5_ n6_ n7_ n8_ n9_ n10_ n11_ n12_; clear hb hbox hg; have hnb43 := NB251_230.out; have hnc43 := NB230_251.out; have hnb44 := NB251_244.out; have hnc44 := NB244_251.out; have hnb45 := NB251_245.out; have hnc45 := NB245_251.out; have hcz46_0 : w42.cell? ⟨gb251, 0, none⟩ = some (.bool false) := (blk_cell BK251.out 0).trans rfl; have hcz46_1 : w42.cell? ⟨gb251, 1, none⟩ = some (.int .u64 0) := (blk_cell BK251.out 1).trans rfl; have hcz46_2 : w42.cell? ⟨gb251, 2, none⟩ = some (.int .u64 0) := (blk_cell BK251.out 2).trans rfl; have hcz46_3 : w42.cell? ⟨gb251, 3, none⟩ = some (.int .i64 0) := (blk_cell BK251.out 3).trans rfl; have hfz46_0 := blk_frozen BK251.out 0; have hfz46_1 := blk_frozen BK251.out 1; have hfz46_2 := blk_frozen BK251.out 2; have hfz46_3 := blk_frozen BK251.out 3) | ((with_reducible refine gate_callee (f := 23) rfl ?_); refine goesL_ (some 29) rfl rfl Tryd.func23 (by kernel_rfl) rfl #[.string (⟨#[49, 48, 46, 48, 46, 48, 46, 49, 47, 56]⟩ : ByteArray)] rfl Ma ?_; (with_reducible refine (prefix_Parse.calls k (⟨#[49, 48, 46, 48, 46, 48, 46, 49, 47, 56]⟩ : ByteArray) t252 t253 t254 t255 t256 _ (Glob_below HG.out (Hb HB.out)) A5.out).mono ?_); rintro e w47 ⟨rfl, hb⟩; refine ⟨_, rfl, ?_⟩; have n0_ := Aside0.mk (blk_below (g := gb230) (o := .cells #[.bool t225, .int .u64 t226, .int .u64 t227, .int .i64 t228] 26 (0, 0)) (by refine St ?_; refine blk_far ?_ NB230_251.out _; refine St ?_; refine blk_far ?_ NB230_251.out _; refine St ?_; refine blk_far ?_ NB230_251.out _; refine St ?_; refine blk_far ?_ NB230_251.out _; refine St ?_; exact BK230.out) hb); have n1_ := Aside0.mk (blk_below (g := gb244) (o := .cells #[.bool t235, .int .u64 t236, .int .u64 t237, .int .i64 t238] 26 (0, 0)) (by refine St ?_; refine blk_far ?_ NB244_251.out _; refine St ?_; refine blk_far ?_ NB244_251.out _; refine St ?_; refine blk_far ?_ NB244_251.out _; refine St ?_; refine blk_far ?_ NB244_251.out _; refine St ?_; exact BK244.out) hb); have n2_ := Aside0.mk (blk_below (g := gb245) (o := .cells #[.bool t239, .int .u64 t240, .int .u64 t241, .int .i64 t242] 26 (0, 0)) (by refine St ?_; refine blk_far ?_ NB245_251.out _; refine St ?_; refine blk_far ?_ NB245_251.out _; refine St ?_; refine blk_far ?_ NB245_251.out _; refine St ?_; refine blk_far ?_ NB245_251.out _; refine St ?_; exact BK245.out) hb); have n3_ := Aside0.mk (blk_below (g := gb251) (o := .cells #[.bool t246, .int .u64 t247, .int .u64 t248, .int .i64 t249] 26 (0, 0)) (by refine St ?_; refine blk_put (cs := #[.bool t246, .int .u64 t247, .int .u64 t248, .int .i64 0]) ?_ 3 _ rfl; refine St ?_; refine blk_put (cs := #[.bool t246, .int .u64 t247, .int .u64 0, .int .i64 0]) ?_ 2 _ rfl; refine St ?_; refine blk_put (cs := #[.bool t246, .int .u64 0, .int .u64 0, .int .i64 0]) ?_ 1 _ rfl; refine St ?_; refine blk_put (cs := #[.bool false, .int .u64 0, .int .u64 0, .int .i64 0]) ?_ 0 _ rfl; refine St ?_; exact BK251.out) hb); have n4_ := Aside0.mk (below_step (Hb HB.out) hb); clear BK230; clear BK244; clear BK245; clear BK251; clear HB; have BK230 := n0_; have BK244 := n1_; have BK245 := n2_; have BK251 := n3_; have HB := n4_; clear n0_ n1_ n2_ n3_ n4_; (try clear hb); (try clear hb2); (try clear hk); (try clear hi)) | ((with_reducible refine gate_dst (N := 8) rfl ?_); refine box_event ?hg (N := 8) ?hd (cs := #[.bool false, .int .u64 0, .int .u64 0, .int .i64 0]) (t := 26) ?hr ?_; (case hd => rfl); (case hg => rfl); (case hr => first | (go_simp; done) | (go_simp; rfl)); intro gb257 hg w48 hbox hb; have n0_ := Aside0.mk (blk_below (g := gb230) (o := .cells #[.bool t225, .int .u64 t226, .int .u64 t227, .int .i64 t228] 26 (0, 0)) (St BK230.out) hb); have n1_ := Aside0.mk (blk_below (g := gb244) (o := .cells #[.bool t235, .int .u64 t236, .int .u64 t237, .int .i64 t238] 26 (0, 0)) (St BK244.out) hb); have n2_ := Aside0.mk (blk_below (g := gb245) (o := .cells #[.bool t239, .int .u64 t240, .int .u64 t241, .int .i64 t242] 26 (0, 0)) (St BK245.out) hb); have n3_ := Aside0.mk (blk_below (g := gb251) (o := .cells #[.bool t246, .int .u64 t247, .int .u64 t248, .int .i64 t249] 26 (0, 0)) (St BK251.out) hb); have n4_ := Aside0.mk (below_step (Hb HB.out) hb); have n5_ := Aside0.mk (hbox); have n6_ := Aside0.mk ((by rw [hg]; exact (below_size (Hb HB.out)) : w.heap.size ≤ gb257)); have n7_ := Aside0.mk ((by rw [hg]; exact (below_size (Hb HB.out)) : w.heap.size ≤ gb257)); have n8_ := Aside0.mk ((by rw [hg]; exact Nat.ne_of_lt (blk_lt (g := gb230) (o := .cells #[.bool t225, .int .u64 t226, .int .u64 t227, .int .i64 t228] 26 (0, 0)) (St BK230.out)) : gb230 ≠ gb257)); have n9_ := Aside0.mk ((by rw [hg]; exact Nat.ne_of_gt (blk_lt (g := gb230) (o := .cells #[.bool t225, .int .u64 t226, .int .u64 t227, .int .i64 t228] 26 (0, 0)) (St BK230.out)) : gb257 ≠ gb230)); have n10_ := Aside0.mk ((by rw [hg]; exact Nat.ne_of_lt (blk_lt (g := gb244) (o := .cells #[.bool t235, .int .u64 t236, .int .u64 t237, .int .i64 t238] 26 (0, 0)) (St BK244.out)) : gb244 ≠ gb257)); have n11_ := Aside0.mk ((by rw [hg]; exact Nat.ne_of_gt (blk_lt (g := gb244) (o := .cells #[.bool t235, .int .u64 t236, .int .u64 t237, .int .i64 t238] 26 (0, 0)) (St BK244.out)) : gb257 ≠ gb244)); have n12_ := Aside0.mk ((by rw [hg]; exact Nat.ne_of_lt (blk_lt (g := gb245) (o := .cells #[.bool t239, .int .u64 t240, .int .u64 t241, .int .i64 t242] 26 (0, 0)) (St BK245.out)) : gb245 ≠ gb257)); have n13_ := Aside0.mk ((by rw [hg]; exact Nat.ne_of_gt (blk_lt (g := gb245) (o := .cells #[.bool t239, .int .u64 t240, .int .u64 t241, .int .i64 t242] 26 (0, 0)) (St BK245.out)) : gb257 ≠ gb245)); have n14_ := Aside0.mk ((by rw [hg]; exact Nat.ne_of_lt (blk_lt (g := gb251) (o := .cells #[.bool t246, .int .u64 t247, .int .u64 t248, .int .i64 t249] 26 (0, 0)) (St BK251.out)) : gb251 ≠ gb257)); have n15_ := Aside0.mk ((by rw [hg]; exact Nat.ne_of_gt (blk_lt (g := gb251) (o := .cells #[.bool t246, .int .u64 t247, .int .u64 t248, .int .i64 t249] 26 (0, 0)) (St BK251.out)) : gb257 ≠ gb251)); clear BK230; clear BK244; clear BK245; clear BK251; clear HB; have BK230 := n0_; have BK244 := n1_; have BK245 := n2_; have BK251 := n3_; have HB := n4_; have BK257 := n5_; have GW257 := n6_; have GE257 := n7_; have NB230_257 := n8_; have NB257_230 := n9_; have NB244_257 := n10_; have NB257_244 := n11_; have NB245_257 := n12_; have NB257_245 := n13_; have NB251_257 := n14_; have NB257_251 := n15_; clear n0_ n1_ n2_ n3_ n4_ n5_ n6_ n7_ n8_ n9_ n10_ n11_ n12_ n13_ n14_ n15_; clear hb hbox hg; have hnb49 := NB257_230.out; have hnc49 := NB230_257.out; have hnb50 := NB257_244.out; have hnc50 := NB244_257.out; have hnb51 := NB257_245.out; have hnc51 := NB245_257.out; have hnb52 := NB257_251.out; have hnc52 := NB251_257.out; have hcz53_0 : w48.cell? ⟨gb257, 0, none⟩ = some (.bool false) := (blk_cell BK257.out 0).trans rfl; have hcz53_1 : w48.cell? ⟨gb257, 1, none⟩ = some (.int .u64 0) := (blk_cell BK257.out 1).trans rfl; have hcz53_2 : w48.cell? ⟨gb257, 2, none⟩ = some (.int .u64 0) := (blk_cell BK257.out 2).trans rfl; have hcz53_3 : w48.cell? ⟨gb257, 3, none⟩ = some (.int .i64 0) := (blk_cell BK257.out 3).trans rfl; have hfz53_0 := blk_frozen BK257.out 0; have hfz53_1 := blk_frozen BK257.out 1; have hfz53_2 := blk_frozen BK257.out 2; have hfz53_3 := blk_frozen BK257.out 3))
               have n0_ : Aside0 (((((w48.setCell ⟨gb257, 0, none⟩ (.bool t252)).setCell ⟨gb257, 1, none⟩ (.int .u64 t253)).setCell ⟨gb257, 2, none⟩ (.int .u64 t254)).setCell ⟨gb257, 3, none⟩ (.int .i64 t255)).heap[gb230]? = some (.cells #[.bool t225, .int .u64 t226, .int .u64 t227, .int .i64 t228] 26 (0, 0))) := ⟨by refine St ?_; refine blk_far ?_ NB230_257.out _; refine St ?_; refine blk_far ?_ NB230_257.out _; refine St ?_; refine blk_far ?_ NB230_257.out _; refine St ?_; refine blk_far ?_ NB230_257.out _; refine St ?_; exact BK230.out⟩
               have n1_ : Aside0 (((((w48.setCell ⟨gb257, 0, none⟩ (.bool t252)).setCell ⟨gb257, 1, none⟩ (.int .u64 t253)).setCell ⟨gb257, 2, none⟩ (.int .u64 t254)).setCell ⟨gb257, 3, none⟩ (.int .i64 t255)).heap[gb244]? = some (.cells #[.bool t235, .int .u64 t236, .int .u64 t237, .int .i64 t238] 26 (0, 0))) := ⟨by refine St ?_; refine blk_far ?_ NB244_257.out _; refine St ?_; refine blk_far ?_ NB244_257.out _; refine St ?_; refine blk_far ?_ NB244_257.out _; refine St ?_; refine blk_far ?_ NB244_257.out _; refine St ?_; exact BK244.out⟩
               have n2_ : Aside0 (((((w48.setCell ⟨gb257, 0, none⟩ (.bool t252)).setCell ⟨gb257, 1, none⟩ (.int .u64 t253)).setCell ⟨gb257, 2, none⟩ (.int .u64 t254)).setCell ⟨gb257, 3, none⟩ (.int .i64 t255)).heap[gb245]? = some (.cells #[.bool t239, .int .u64 t240, .int .u64 t241, .int .i64 t242] 26 (0, 0))) := ⟨by refine St ?_; refine blk_far ?_ NB245_257.out _; refine St ?_; refine blk_far ?_ NB245_257.out _; refine St ?_; refine blk_far ?_ NB245_257.out _; refine St ?_; refine blk_far ?_ NB245_257.out _; refine St ?_; exact BK245.out⟩
               have n3_ : Aside0 (((((w48.setCell ⟨gb257, 0, none⟩ (.bool t252)).setCell ⟨gb257, 1, none⟩ (.int .u64 t253)).setCell ⟨gb257, 2, none⟩ (.int .u64 t254)).setCell ⟨gb257, 3, none⟩ (.int .i64 t255)).heap[gb251]? = some (.cells #[.bool t246, .int .u64 t247, .int .u64 t248, .int .i64 t249] 26 (0, 0))) := ⟨by refine St ?_; refine blk_far ?_ NB251_257.out _; refine St ?_; refine blk_far ?_ NB251_257.out _; refine St ?_; refine blk_far ?_ NB251_257.out _; refine St ?_; refine blk_far ?_ NB251_257.out _; refine St ?_; exact BK251.out⟩
               have n4_ : Aside0 (((((w48.setCell ⟨gb257, 0, none⟩ (.bool t252)).setCell ⟨gb257, 1, none⟩ (.int .u64 t253)).setCell ⟨gb257, 2, none⟩ (.int .u64 t254)).setCell ⟨gb257, 3, none⟩ (.int .i64 t255)).heap[gb257]? = some (.cells #[.bool t252, .int .u64 t253, .int .u64 t254, .int .i64 t255] 26 (0, 0))) := ⟨by refine St ?_; refine blk_put (cs := #[.bool t252, .int .u64 t253, .int .u64 t254, .int .i64 0]) ?_ 3 _ rfl; refine St ?_; refine blk_put (cs := #[.bool t252, .int .u64 t253, .int .u64 0, .int .i64 0]) ?_ 2 _ rfl; refine St ?_; refine blk_put (cs := #[.bool t252, .int .u64 0, .int .u64 0, .int .i64 0]) ?_ 1 _ rfl; refine St ?_; refine blk_put (cs := #[.bool false, .int .u64 0, .int .u64 0, .int .i64 0]) ?_ 0 _ rfl; refine St ?_; exact BK257.out⟩
               have n5_ : Aside0 (Below w.heap.size w ((((w48.setCell ⟨gb257, 0, none⟩ (.bool t252)).setCell ⟨gb257, 1, none⟩ (.int .u64 t253)).setCell ⟨gb257, 2, none⟩ (.int .u64 t254)).setCell ⟨gb257, 3, none⟩ (.int .i64 t255))) := ⟨Hb HB.out⟩
               (try clear BK230)
               (try clear BK244)
               (try clear BK245)
               (try clear BK251)
               (try clear BK257)
               (try clear HB)
               generalize ((((w48.setCell ⟨gb257, 0, none⟩ (.bool t252)).setCell ⟨gb257, 1, none⟩ (.int .u64 t253)).setCell ⟨gb257, 2, none⟩ (.int .u64 t254)).setCell ⟨gb257, 3, none⟩ (.int .i64 t255)) = w54 at n0_ n1_ n2_ n3_ n4_ n5_ ⊢
               have BK230 := n0_
               have BK244 := n1_
               have BK245 := n2_
               have BK251 := n3_
               have BK257 := n4_
               have HB := n5_
               clear n0_ n1_ n2_ n3_ n4_ n5_
               have n0_ := Aside0.mk (blk_drew BK230.out)
               have n1_ := Aside0.mk (blk_drew BK244.out)
               have n2_ := Aside0.mk (blk_drew BK245.out)
               have n3_ := Aside0.mk (blk_drew BK251.out)
               have n4_ := Aside0.mk (blk_drew BK257.out)
               have n5_ := Aside0.mk (below_drew1 HB.out)
               clear BK230
               clear BK244
               clear BK245
               clear BK251
               clear BK257
               clear HB
               have BK230 := n0_
               have BK244 := n1_
               have BK245 := n2_
               have BK251 := n3_
               have BK257 := n4_
               have HB := n5_
               clear n0_ n1_ n2_ n3_ n4_ n5_
               refine start_ (n := 23) (S := fun w' => w'.cell? ⟨gb230, 0, none⟩ = some (.bool t225) ∧ w'.cell? ⟨gb230, 1, none⟩ = some (.int .u64 t226) ∧ w'.cell? ⟨gb230, 2, none⟩ = some (.int .u64 t227) ∧ w'.cell? ⟨gb230, 3, none⟩ = some (.int .i64 t228) ∧ w'.cell? ⟨gb244, 0, none⟩ = some (.bool t235) ∧ w'.cell? ⟨gb244, 1, none⟩ = some (.int .u64 t236) ∧ w'.cell? ⟨gb244, 2, none⟩ = some (.int .u64 t237) ∧ w'.cell? ⟨gb244, 3, none⟩ = some (.int .i64 t238) ∧ w'.cell? ⟨gb245, 0, none⟩ = some (.bool t239) ∧ w'.cell? ⟨gb245, 1, none⟩ = some (.int .u64 t240) ∧ w'.cell? ⟨gb245, 2, none⟩ = some (.int .u64 t241) ∧ w'.cell? ⟨gb245, 3, none⟩ = some (.int .i64 t242)) (ds := []) #[Z,Z,Z,Z,Z,Z,Z,Z,Z,Z,Z,Z,Z,Z,Z,Z,Z,Z,Z,Z,Z,Z,Z] (by kernel_rfl) rfl rfl ⟨(blk_cell BK230.out 0).trans rfl, (blk_cell BK230.out 1).trans rfl, (blk_cell BK230.out 2).trans rfl, (blk_cell BK230.out 3).trans rfl, (blk_cell BK244.out 0).trans rfl, (blk_cell BK244.out 1).trans rfl, (blk_cell BK244.out 2).trans rfl, (blk_cell BK244.out 3).trans rfl, (blk_cell BK245.out 0).trans rfl, (blk_cell BK245.out 1).trans rfl, (blk_cell BK245.out 2).trans rfl, (blk_cell BK245.out 3).trans rfl⟩ (fun hHeld => ?_); refine with_tabW crosswaylaw04_awake.tab5 crosswaylaw04_awake.bits5 (fun HT_ HW_ => ?_)
               generalize w54.drew = w55 at BK230 BK244 BK245 BK251 BK257 HB hHeld ⊢
               refine pure_ (i := 0) (N := some 32) (v := ?_) (a' := ?_) #[Y,Z,Z,Z,Z,Z,Z,Z,Z,Z,Z,Z,Z,Z,Z,Z,Z,Z,Z,Z,Z,Z,Z] rfl rfl (any_of HT_.out (by kernel_rfl)) (fun _ _ _ h => h) (Or.inl ⟨by rfl, ?_⟩) ?_ ?_
               rotate_left
               ·exact Sw
               rotate_left
               ·exact Sr
               refine pure_ (i := 1) (N := some 33) (v := ?_) (a' := ?_) #[Y,Y,Z,Z,Z,Z,Z,Z,Z,Z,Z,Z,Z,Z,Z,Z,Z,Z,Z,Z,Z,Z,Z] rfl rfl (any_of HT_.out (by kernel_rfl)) (fun _ _ _ h => h) (Or.inl ⟨by rfl, ?_⟩) ?_ ?_
               rotate_left
               ·exact Sw
               rotate_left
               ·exact Sr
               refine pure_ (i := 2) (N := some 34) (v := ?_) (a' := ?_) #[Y,Y,Y,Z,Z,Z,Z,Z,Z,Z,Z,Z,Z,Z,Z,Z,Z,Z,Z,Z,Z,Z,Z] rfl rfl (any_of HT_.out (by kernel_rfl)) (fun _ _ _ h => h) (Or.inl ⟨by rfl, ?_⟩) ?_ ?_
               rotate_left
               ·exact Sw
               rotate_left
               ·exact Sr
               refine take_ (i := 3) (N := some 35) (v := ?_) (a' := ?_) #[Y,Y,Y,Y,Z,Z,Z,Z,Z,Z,Z,Z,Z,Z,Z,Z,Z,Z,Z,Z,Z,Z,Z] rfl rfl (take_ofW HT_.out HW_.out (by kernel_rfl)) (fun _ _ _ h => h) (Or.inl ⟨by rfl, ?_⟩) hHeld ?_ ?_
               rotate_left
               ·rintro w' ⟨s0, s1, s2, s3, s4, s5, s6, s7, s8, s9, s10, s11⟩
                go_simp
                with_reducible rfl
               rotate_left
               ·exact Sr
               refine one_ (i := 4) (N := some 36) #[Y,Y,Y,Y,Y,Z,Z,Z,Z,Z,Z,Z,Z,Z,Z,Z,Z,Z,Z,Z,Z,Z,Z] rfl rfl (one_of HT_.out (by kernel_rfl)) (by decide) (fun K hK => ?_)
               refine goes_ Tryd.func28 (by kernel_rfl) rfl #[.int .i64 8] (by rfl) rfl rfl Ma ?_
               with_reducible refine (crosswaylaw04_ten.calls 8 t258 t259 t260 t261 _ A7.out).mono ?_
               rintro e w56 ⟨rfl, hb⟩
               refine ⟨_, rfl, ?_⟩
               have n0_ := Aside0.mk (blk_below (g := gb230) (o := .cells #[.bool t225, .int .u64 t226, .int .u64 t227, .int .i64 t228] 26 (0, 0)) (St BK230.out) hb)
               have n1_ := Aside0.mk (blk_below (g := gb244) (o := .cells #[.bool t235, .int .u64 t236, .int .u64 t237, .int .i64 t238] 26 (0, 0)) (St BK244.out) hb)
               have n2_ := Aside0.mk (blk_below (g := gb245) (o := .cells #[.bool t239, .int .u64 t240, .int .u64 t241, .int .i64 t242] 26 (0, 0)) (St BK245.out) hb)
               have n3_ := Aside0.mk (blk_below (g := gb251) (o := .cells #[.bool t246, .int .u64 t247, .int .u64 t248, .int .i64 t249] 26 (0, 0)) (St BK251.out) hb)
               have n4_ := Aside0.mk (blk_below (g := gb257) (o := .cells #[.bool t252, .int .u64 t253, .int .u64 t254, .int .i64 t255] 26 (0, 0)) (St BK257.out) hb)
               have n5_ := Aside0.mk (below_step (Hb HB.out) hb)
               clear BK230
               clear BK244
               clear BK245
               clear BK251
               clear BK257
               clear HB
               have BK230 := n0_
               have BK244 := n1_
               have BK245 := n2_
               have BK251 := n3_
               have BK257 := n4_
               have HB := n5_
               clear n0_ n1_ n2_ n3_ n4_ n5_
               (try clear hb)
               (try clear hb2)
               (try clear hk)
               (try clear hi)
               refine hK.out _ _ ⟨(blk_cell BK230.out 0).trans rfl, (blk_cell BK230.out 1).trans rfl, (blk_cell BK230.out 2).trans rfl, (blk_cell BK230.out 3).trans rfl, (blk_cell BK244.out 0).trans rfl, (blk_cell BK244.out 1).trans rfl, (blk_cell BK244.out 2).trans rfl, (blk_cell BK244.out 3).trans rfl, (blk_cell BK245.out 0).trans rfl, (blk_cell BK245.out 1).trans rfl, (blk_cell BK245.out 2).trans rfl, (blk_cell BK245.out 3).trans rfl⟩ (fun hHeld => ?_)
               clear hK K
               refine norm_ (a' := ?_) ?_ ?_
               rotate_left
               ·show Act.put _ (some 36) _ = _
                refine Sp ?_
                rfl
               refine pure_ (i := 5) (N := some 37) (v := ?_) (a' := ?_) #[Y,Y,Y,Y,Y,Y,Z,Z,Z,Z,Z,Z,Z,Z,Z,Z,Z,Z,Z,Z,Z,Z,Z] rfl rfl (any_of HT_.out (by kernel_rfl)) (fun _ _ _ h => h) (Or.inl ⟨by rfl, ?_⟩) ?_ ?_
               rotate_left
               ·exact Sw
               rotate_left
               ·exact Sr
               refine pure_ (i := 6) (N := some 38) (v := ?_) (a' := ?_) #[Y,Y,Y,Y,Y,Y,Y,Z,Z,Z,Z,Z,Z,Z,Z,Z,Z,Z,Z,Z,Z,Z,Z] rfl rfl (any_of HT_.out (by kernel_rfl)) (fun _ _ _ h => h) (Or.inl ⟨by rfl, ?_⟩) ?_ ?_
               rotate_left
               ·exact Sw
               rotate_left
               ·exact Sr
               refine pure_ (i := 7) (N := some 39) (v := ?_) (a' := ?_) #[Y,Y,Y,Y,Y,Y,Y,Y,Z,Z,Z,Z,Z,Z,Z,Z,Z,Z,Z,Z,Z,Z,Z] rfl rfl (any_of HT_.out (by kernel_rfl)) (fun _ _ _ h => h) (Or.inl ⟨by rfl, ?_⟩) ?_ ?_
               rotate_left
               ·exact Sw
               rotate_left
               ·exact Sr
               refine pure_ (i := 8) (N := some 40) (v := ?_) (a' := ?_) #[Y,Y,Y,Y,Y,Y,Y,Y,Y,Z,Z,Z,Z,Z,Z,Z,Z,Z,Z,Z,Z,Z,Z] rfl rfl (any_of HT_.out (by kernel_rfl)) (fun _ _ _ h => h) (Or.inl ⟨by rfl, ?_⟩) ?_ ?_
               rotate_left
               ·exact Sw
               rotate_left
               ·exact Sr
               refine pure_ (i := 9) (N := some 41) (v := ?_) (a' := ?_) #[Y,Y,Y,Y,Y,Y,Y,Y,Y,Y,Z,Z,Z,Z,Z,Z,Z,Z,Z,Z,Z,Z,Z] rfl rfl (any_of HT_.out (by kernel_rfl)) (fun _ _ _ h => h) (Or.inl ⟨by rfl, ?_⟩) ?_ ?_
               rotate_left
               ·exact Sw
               rotate_left
               ·exact Sr
               refine pure_ (i := 10) (N := some 42) (v := ?_) (a' := ?_) #[Y,Y,Y,Y,Y,Y,Y,Y,Y,Y,Y,Z,Z,Z,Z,Z,Z,Z,Z,Z,Z,Z,Z] rfl rfl (any_of HT_.out (by kernel_rfl)) (fun _ _ _ h => h) (Or.inl ⟨by rfl, ?_⟩) ?_ ?_
               rotate_left
               ·exact Sw
               rotate_left
               ·exact Sr
               refine pure_ (i := 11) (N := some 43) (v := ?_) (a' := ?_) #[Y,Y,Y,Y,Y,Y,Y,Y,Y,Y,Y,Y,Z,Z,Z,Z,Z,Z,Z,Z,Z,Z,Z] rfl rfl (any_of HT_.out (by kernel_rfl)) (fun _ _ _ h => h) (Or.inl ⟨by rfl, ?_⟩) ?_ ?_
               rotate_left
               ·exact Sw
               rotate_left
               ·exact Sr
               refine take_ (i := 12) (N := some 44) (v := ?_) (a' := ?_) #[Y,Y,Y,Y,Y,Y,Y,Y,Y,Y,Y,Y,Y,Z,Z,Z,Z,Z,Z,Z,Z,Z,Z] rfl rfl (take_ofW HT_.out HW_.out (by kernel_rfl)) (fun _ _ _ h => h) (Or.inl ⟨by rfl, ?_⟩) hHeld ?_ ?_
               rotate_left
               ·rintro w' ⟨s0, s1, s2, s3, s4, s5, s6, s7, s8, s9, s10, s11⟩
                go_simp
                with_reducible rfl
               rotate_left
               ·exact Sr
               refine one_ (i := 13) (N := some 45) #[Y,Y,Y,Y,Y,Y,Y,Y,Y,Y,Y,Y,Y,Y,Z,Z,Z,Z,Z,Z,Z,Z,Z] rfl rfl (one_of HT_.out (by kernel_rfl)) (by decide) (fun K hK => ?_)
               refine goes_ Tryd.func28 (by kernel_rfl) rfl #[.int .i64 9] (by rfl) rfl rfl Ma ?_
               with_reducible refine (crosswaylaw04_ten.calls 9 t262 t263 t264 t265 _ A10.out).mono ?_
               rintro e w57 ⟨rfl, hb⟩
               refine ⟨_, rfl, ?_⟩
               have n0_ := Aside0.mk (blk_below (g := gb230) (o := .cells #[.bool t225, .int .u64 t226, .int .u64 t227, .int .i64 t228] 26 (0, 0)) (St BK230.out) hb)
               have n1_ := Aside0.mk (blk_below (g := gb244) (o := .cells #[.bool t235, .int .u64 t236, .int .u64 t237, .int .i64 t238] 26 (0, 0)) (St BK244.out) hb)
               have n2_ := Aside0.mk (blk_below (g := gb245) (o := .cells #[.bool t239, .int .u64 t240, .int .u64 t241, .int .i64 t242] 26 (0, 0)) (St BK245.out) hb)
               have n3_ := Aside0.mk (blk_below (g := gb251) (o := .cells #[.bool t246, .int .u64 t247, .int .u64 t248, .int .i64 t249] 26 (0, 0)) (St BK251.out) hb)
               have n4_ := Aside0.mk (blk_below (g := gb257) (o := .cells #[.bool t252, .int .u64 t253, .int .u64 t254, .int .i64 t255] 26 (0, 0)) (St BK257.out) hb)
               have n5_ := Aside0.mk (below_step (Hb HB.out) hb)
               clear BK230
               clear BK244
               clear BK245
               clear BK251
               clear BK257
               clear HB
               have BK230 := n0_
               have BK244 := n1_
               have BK245 := n2_
               have BK251 := n3_
               have BK257 := n4_
               have HB := n5_
               clear n0_ n1_ n2_ n3_ n4_ n5_
               (try clear hb)
               (try clear hb2)
               (try clear hk)
               (try clear hi)
               refine hK.out _ _ ⟨(blk_cell BK230.out 0).trans rfl, (blk_cell BK230.out 1).trans rfl, (blk_cell BK230.out 2).trans rfl, (blk_cell BK230.out 3).trans rfl, (blk_cell BK244.out 0).trans rfl, (blk_cell BK244.out 1).trans rfl, (blk_cell BK244.out 2).trans rfl, (blk_cell BK244.out 3).trans rfl, (blk_cell BK245.out 0).trans rfl, (blk_cell BK245.out 1).trans rfl, (blk_cell BK245.out 2).trans rfl, (blk_cell BK245.out 3).trans rfl⟩ (fun hHeld => ?_)
               clear hK K
               refine norm_ (a' := ?_) ?_ ?_
               rotate_left
               ·show Act.put _ (some 45) _ = _
                refine Sp ?_
                rfl
               refine pure_ (i := 14) (N := some 46) (v := ?_) (a' := ?_) #[Y,Y,Y,Y,Y,Y,Y,Y,Y,Y,Y,Y,Y,Y,Y,Z,Z,Z,Z,Z,Z,Z,Z] rfl rfl (any_of HT_.out (by kernel_rfl)) (fun _ _ _ h => h) (Or.inl ⟨by rfl, ?_⟩) ?_ ?_
               rotate_left
               ·exact Sw
               rotate_left
               ·exact Sr
               refine pure_ (i := 15) (N := some 47) (v := ?_) (a' := ?_) #[Y,Y,Y,Y,Y,Y,Y,Y,Y,Y,Y,Y,Y,Y,Y,Y,Z,Z,Z,Z,Z,Z,Z] rfl rfl (any_of HT_.out (by kernel_rfl)) (fun _ _ _ h => h) (Or.inl ⟨by rfl, ?_⟩) ?_ ?_
               rotate_left
               ·exact Sw
               rotate_left
               ·exact Sr
               refine pure_ (i := 16) (N := some 48) (v := ?_) (a' := ?_) #[Y,Y,Y,Y,Y,Y,Y,Y,Y,Y,Y,Y,Y,Y,Y,Y,Y,Z,Z,Z,Z,Z,Z] rfl rfl (any_of HT_.out (by kernel_rfl)) (fun _ _ _ h => h) (Or.inl ⟨by rfl, ?_⟩) ?_ ?_
               rotate_left
               ·exact Sw
               rotate_left
               ·exact Sr
               refine pure_ (i := 18) (N := some 50) (v := ?_) (a' := ?_) #[Y,Y,Y,Y,Y,Y,Y,Y,Y,Y,Y,Y,Y,Y,Y,Y,Y,Z,Y,Z,Z,Z,Z] rfl rfl (any_of HT_.out (by kernel_rfl)) (fun _ _ _ h => h) (Or.inl ⟨by rfl, ?_⟩) ?_ ?_
               rotate_left
               ·exact Sw
               rotate_left
               ·exact Sr
               refine pure_ (i := 19) (N := some 51) (v := ?_) (a' := ?_) #[Y,Y,Y,Y,Y,Y,Y,Y,Y,Y,Y,Y,Y,Y,Y,Y,Y,Z,Y,Y,Z,Z,Z] rfl rfl (any_of HT_.out (by kernel_rfl)) (fun _ _ _ h => h) (Or.inl ⟨by rfl, ?_⟩) ?_ ?_
               rotate_left
               ·exact Sw
               rotate_left
               ·exact Sr
               refine take_ (i := 17) (N := some 49) (v := ?_) (a' := ?_) #[Y,Y,Y,Y,Y,Y,Y,Y,Y,Y,Y,Y,Y,Y,Y,Y,Y,Y,Y,Y,Z,Z,Z] rfl rfl (take_ofW HT_.out HW_.out (by kernel_rfl)) (fun _ _ _ h => h) (Or.inl ⟨by rfl, ?_⟩) hHeld ?_ ?_
               rotate_left
               ·rintro w' ⟨s0, s1, s2, s3, s4, s5, s6, s7, s8, s9, s10, s11⟩
                go_simp
                with_reducible rfl
               rotate_left
               ·exact Sr
               refine pure_ (i := 20) (N := some 52) (v := ?_) (a' := ?_) #[Y,Y,Y,Y,Y,Y,Y,Y,Y,Y,Y,Y,Y,Y,Y,Y,Y,Y,Y,Y,Y,Z,Z] rfl rfl (any_of HT_.out (by kernel_rfl)) (fun _ _ _ h => h) (Or.inl ⟨by rfl, ?_⟩) ?_ ?_
               rotate_left
               ·exact Sw
               rotate_left
               ·exact Sr
               refine pure_ (i := 21) (N := some 53) (v := ?_) (a' := ?_) #[Y,Y,Y,Y,Y,Y,Y,Y,Y,Y,Y,Y,Y,Y,Y,Y,Y,Y,Y,Y,Y,Y,Z] rfl rfl (any_of HT_.out (by kernel_rfl)) (fun _ _ _ h => h) (Or.inl ⟨by rfl, ?_⟩) ?_ ?_
               rotate_left
               ·exact Sw
               rotate_left
               ·exact Sr
               refine pure_ (i := 22) (N := some 10) (v := ?_) (a' := ?_) #[Y,Y,Y,Y,Y,Y,Y,Y,Y,Y,Y,Y,Y,Y,Y,Y,Y,Y,Y,Y,Y,Y,Y] rfl rfl (any_of HT_.out (by kernel_rfl)) (fun _ _ _ h => h) (Or.inl ⟨by rfl, ?_⟩) ?_ ?_
               rotate_left
               ·exact Sw
               rotate_left
               ·exact Sr
               refine done_ (done_of HT_.out (by kernel_rfl)) ?_
               have hcz58_0 : w57.cell? ⟨gb251, 0, none⟩ = some (.bool t246) := (blk_cell BK251.out 0).trans rfl
               have hcz58_1 : w57.cell? ⟨gb251, 1, none⟩ = some (.int .u64 t247) := (blk_cell BK251.out 1).trans rfl
               have hcz58_2 : w57.cell? ⟨gb251, 2, none⟩ = some (.int .u64 t248) := (blk_cell BK251.out 2).trans rfl
               have hcz58_3 : w57.cell? ⟨gb251, 3, none⟩ = some (.int .i64 t249) := (blk_cell BK251.out 3).trans rfl
               have hfz58_0 := blk_frozen BK251.out 0
               have hfz58_1 := blk_frozen BK251.out 1
               have hfz58_2 := blk_frozen BK251.out 2
               have hfz58_3 := blk_frozen BK251.out 3
               have hcz59_0 : w57.cell? ⟨gb230, 0, none⟩ = some (.bool t225) := (blk_cell BK230.out 0).trans rfl
               have hcz59_1 : w57.cell? ⟨gb230, 1, none⟩ = some (.int .u64 t226) := (blk_cell BK230.out 1).trans rfl
               have hcz59_2 : w57.cell? ⟨gb230, 2, none⟩ = some (.int .u64 t227) := (blk_cell BK230.out 2).trans rfl
               have hcz59_3 : w57.cell? ⟨gb230, 3, none⟩ = some (.int .i64 t228) := (blk_cell BK230.out 3).trans rfl
               have hfz59_0 := blk_frozen BK230.out 0
               have hfz59_1 := blk_frozen BK230.out 1
               have hfz59_2 := blk_frozen BK230.out 2
               have hfz59_3 := blk_frozen BK230.out 3
               try go_wp2_with (first | (go_at_call 22; (with_reducible refine (prefix_Print.calls k t225 t226 t227 t228 t266 _ (Glob_below HG.out (Hb HB.out)) A15.out).mono ?_); rintro e w60 ⟨rfl, hb⟩; have n0_ := Aside0.mk (blk_below (g := gb230) (o := .cells #[.bool t225, .int .u64 t226, .int .u64 t227, .int .i64 t228] 26 (0, 0)) (St BK230.out) hb); have n1_ := Aside0.mk (blk_below (g := gb244) (o := .cells #[.bool t235, .int .u64 t236, .int .u64 t237, .int .i64 t238] 26 (0, 0)) (St BK244.out) hb); have n2_ := Aside0.mk (blk_below (g := gb245) (o := .cells #[.bool t239, .int .u64 t240, .int .u64 t241, .int .i64 t242] 26 (0, 0)) (St BK245.out) hb); have n3_ := Aside0.mk (blk_below (g := gb251) (o := .cells #[.bool t246, .int .u64 t247, .int .u64 t248, .int .i64 t249] 26 (0, 0)) (St BK251.out) hb); have n4_ := Aside0.mk (blk_below (g := gb257) (o := .cells #[.bool t252, .int .u64 t253, .int .u64 t254, .int .i64 t255] 26 (0, 0)) (St BK257.out) hb); have n5_ := Aside0.mk (below_step (Hb HB.out) hb); clear BK230; clear BK244; clear BK245; clear BK251; clear BK257; clear HB; have BK230 := n0_; have BK244 := n1_; have BK245 := n2_; have BK251 := n3_; have BK257 := n4_; have HB := n5_; clear n0_ n1_ n2_ n3_ n4_ n5_; (try clear hb); (try clear hb2); (try clear hk); (try clear hi); have hcz61_0 : w60.cell? ⟨gb230, 0, none⟩ = some (.bool t225) := (blk_cell BK230.out 0).trans rfl; have hcz61_1 : w60.cell? ⟨gb230, 1, none⟩ = some (.int .u64 t226) := (blk_cell BK230.out 1).trans rfl; have hcz61_2 : w60.cell? ⟨gb230, 2, none⟩ = some (.int .u64 t227) := (blk_cell BK230.out 2).trans rfl; have hcz61_3 : w60.cell? ⟨gb230, 3, none⟩ = some (.int .i64 t228) := (blk_cell BK230.out 3).trans rfl; have hfz61_0 := blk_frozen BK230.out 0; have hfz61_1 := blk_frozen BK230.out 1; have hfz61_2 := blk_frozen BK230.out 2; have hfz61_3 := blk_frozen BK230.out 3) | (go_at_call 14; (with_reducible refine (prefix_Valid.calls t225 t226 t227 t228 true _ A17.out).mono ?_); rintro e w62 ⟨rfl, hb⟩; have n0_ := Aside0.mk (blk_below (g := gb230) (o := .cells #[.bool t225, .int .u64 t226, .int .u64 t227, .int .i64 t228] 26 (0, 0)) (St BK230.out) hb); have n1_ := Aside0.mk (blk_below (g := gb244) (o := .cells #[.bool t235, .int .u64 t236, .int .u64 t237, .int .i64 t238] 26 (0, 0)) (St BK244.out) hb); have n2_ := Aside0.mk (blk_below (g := gb245) (o := .cells #[.bool t239, .int .u64 t240, .int .u64 t241, .int .i64 t242] 26 (0, 0)) (St BK245.out) hb); have n3_ := Aside0.mk (blk_below (g := gb251) (o := .cells #[.bool t246, .int .u64 t247, .int .u64 t248, .int .i64 t249] 26 (0, 0)) (St BK251.out) hb); have n4_ := Aside0.mk (blk_below (g := gb257) (o := .cells #[.bool t252, .int .u64 t253, .int .u64 t254, .int .i64 t255] 26 (0, 0)) (St BK257.out) hb); have n5_ := Aside0.mk (below_step (Hb HB.out) hb); clear BK230; clear BK244; clear BK245; clear BK251; clear BK257; clear HB; have BK230 := n0_; have BK244 := n1_; have BK245 := n2_; have BK251 := n3_; have BK257 := n4_; have HB := n5_; clear n0_ n1_ n2_ n3_ n4_ n5_; (try clear hb); (try clear hb2); (try clear hk); (try clear hi); have hcz63_0 : w62.cell? ⟨gb230, 0, none⟩ = some (.bool t225) := (blk_cell BK230.out 0).trans rfl; have hcz63_1 : w62.cell? ⟨gb230, 1, none⟩ = some (.int .u64 t226) := (blk_cell BK230.out 1).trans rfl; have hcz63_2 : w62.cell? ⟨gb230, 2, none⟩ = some (.int .u64 t227) := (blk_cell BK230.out 2).trans rfl; have hcz63_3 : w62.cell? ⟨gb230, 3, none⟩ = some (.int .i64 t228) := (blk_cell BK230.out 3).trans rfl; have hfz63_0 := blk_frozen BK230.out 0; have hfz63_1 := blk_frozen BK230.out 1; have hfz63_2 := blk_frozen BK230.out 2; have hfz63_3 := blk_frozen BK230.out 3) | ((with_reducible refine gate_callee (f := 16) rfl ?_); refine goesL_ (some 76) rfl rfl Tryd.func16 (by kernel_rfl) rfl #[.agg #[.bool t225, .int .u64 t226, .int .u64 t227, .int .i64 t228], .agg #[.bool false, .int .u64 0, .int .u64 167772161]] rfl Ma ?_; (with_reducible refine (prefix_Holds.calls t225 t226 t227 t228 false 0 167772161 true _ A18.out).mono ?_); rintro e w64 ⟨rfl, hb⟩; refine ⟨_, rfl, ?_⟩; have n0_ := Aside0.mk (blk_below (g := gb230) (o := .cells #[.bool t225, .int .u64 t226, .int .u64 t227, .int .i64 t228] 26 (0, 0)) (St BK230.out) hb); have n1_ := Aside0.mk (blk_below (g := gb244) (o := .cells #[.bool t235, .int .u64 t236, .int .u64 t237, .int .i64 t238] 26 (0, 0)) (St BK244.out) hb); have n2_ := Aside0.mk (blk_below (g := gb245) (o := .cells #[.bool t239, .int .u64 t240, .int .u64 t241, .int .i64 t242] 26 (0, 0)) (St BK245.out) hb); have n3_ := Aside0.mk (blk_below (g := gb251) (o := .cells #[.bool t246, .int .u64 t247, .int .u64 t248, .int .i64 t249] 26 (0, 0)) (St BK251.out) hb); have n4_ := Aside0.mk (blk_below (g := gb257) (o := .cells #[.bool t252, .int .u64 t253, .int .u64 t254, .int .i64 t255] 26 (0, 0)) (St BK257.out) hb); have n5_ := Aside0.mk (below_step (Hb HB.out) hb); clear BK230; clear BK244; clear BK245; clear BK251; clear BK257; clear HB; have BK230 := n0_; have BK244 := n1_; have BK245 := n2_; have BK251 := n3_; have BK257 := n4_; have HB := n5_; clear n0_ n1_ n2_ n3_ n4_ n5_; (try clear hb); (try clear hb2); (try clear hk); (try clear hi); have hcz65_0 : w64.cell? ⟨gb230, 0, none⟩ = some (.bool t225) := (blk_cell BK230.out 0).trans rfl; have hcz65_1 : w64.cell? ⟨gb230, 1, none⟩ = some (.int .u64 t226) := (blk_cell BK230.out 1).trans rfl; have hcz65_2 : w64.cell? ⟨gb230, 2, none⟩ = some (.int .u64 t227) := (blk_cell BK230.out 2).trans rfl; have hcz65_3 : w64.cell? ⟨gb230, 3, none⟩ = some (.int .i64 t228) := (blk_cell BK230.out 3).trans rfl; have hfz65_0 := blk_frozen BK230.out 0; have hfz65_1 := blk_frozen BK230.out 1; have hfz65_2 := blk_frozen BK230.out 2; have hfz65_3 := blk_frozen BK230.out 3; have hcz66_0 : w64.cell? ⟨gb244, 0, none⟩ = some (.bool t235) := (blk_cell BK244.out 0).trans rfl; have hcz66_1 : w64.cell? ⟨gb244, 1, none⟩ = some (.int .u64 t236) := (blk_cell BK244.out 1).trans rfl; have hcz66_2 : w64.cell? ⟨gb244, 2, none⟩ = some (.int .u64 t237) := (blk_cell BK244.out 2).trans rfl; have hcz66_3 : w64.cell? ⟨gb244, 3, none⟩ = some (.int .i64 t238) := (blk_cell BK244.out 3).trans rfl; have hfz66_0 := blk_frozen BK244.out 0; have hfz66_1 := blk_frozen BK244.out 1; have hfz66_2 := blk_frozen BK244.out 2; have hfz66_3 := blk_frozen BK244.out 3) | (go_at_call 18; (with_reducible refine (prefix_Covers.calls t225 t226 t227 t228 t235 t236 t237 t238 true _ A20.out).mono ?_); rintro e w67 ⟨rfl, hb⟩; have n0_ := Aside0.mk (blk_below (g := gb230) (o := .cells #[.bool t225, .int .u64 t226, .int .u64 t227, .int .i64 t228] 26 (0, 0)) (St BK230.out) hb); have n1_ := Aside0.mk (blk_below (g := gb244) (o := .cells #[.bool t235, .int .u64 t236, .int .u64 t237, .int .i64 t238] 26 (0, 0)) (St BK244.out) hb); have n2_ := Aside0.mk (blk_below (g := gb245) (o := .cells #[.bool t239, .int .u64 t240, .int .u64 t241, .int .i64 t242] 26 (0, 0)) (St BK245.out) hb); have n3_ := Aside0.mk (blk_below (g := gb251) (o := .cells #[.bool t246, .int .u64 t247, .int .u64 t248, .int .i64 t249] 26 (0, 0)) (St BK251.out) hb); have n4_ := Aside0.mk (blk_below (g := gb257) (o := .cells #[.bool t252, .int .u64 t253, .int .u64 t254, .int .i64 t255] 26 (0, 0)) (St BK257.out) hb); have n5_ := Aside0.mk (below_step (Hb HB.out) hb); clear BK230; clear BK244; clear BK245; clear BK251; clear BK257; clear HB; have BK230 := n0_; have BK244 := n1_; have BK245 := n2_; have BK251 := n3_; have BK257 := n4_; have HB := n5_; clear n0_ n1_ n2_ n3_ n4_ n5_; (try clear hb); (try clear hb2); (try clear hk); (try clear hi)) | (go_at_call 12; (with_reducible refine (prefix_Bit.calls k false 0 1 31 t270 _ A22.out).mono ?_); rintro e w68 ⟨rfl, hb⟩; have n0_ := Aside0.mk (blk_below (g := gb230) (o := .cells #[.bool t225, .int .u64 t226, .int .u64 t227, .int .i64 t228] 26 (0, 0)) (St BK230.out) hb); have n1_ := Aside0.mk (blk_below (g := gb244) (o := .cells #[.bool t235, .int .u64 t236, .int .u64 t237, .int .i64 t238] 26 (0, 0)) (St BK244.out) hb); have n2_ := Aside0.mk (blk_below (g := gb245) (o := .cells #[.bool t239, .int .u64 t240, .int .u64 t241, .int .i64 t242] 26 (0, 0)) (St BK245.out) hb); have n3_ := Aside0.mk (blk_below (g := gb251) (o := .cells #[.bool t246, .int .u64 t247, .int .u64 t248, .int .i64 t249] 26 (0, 0)) (St BK251.out) hb); have n4_ := Aside0.mk (blk_below (g := gb257) (o := .cells #[.bool t252, .int .u64 t253, .int .u64 t254, .int .i64 t255] 26 (0, 0)) (St BK257.out) hb); have n5_ := Aside0.mk (below_step (Hb HB.out) hb); clear BK230; clear BK244; clear BK245; clear BK251; clear BK257; clear HB; have BK230 := n0_; have BK244 := n1_; have BK245 := n2_; have BK251 := n3_; have BK257 := n4_; have HB := n5_; clear n0_ n1_ n2_ n3_ n4_ n5_; (try clear hb); (try clear hb2); (try clear hk); (try clear hi); have hcz69_0 : w68.cell? ⟨gb244, 0, none⟩ = some (.bool t235) := (blk_cell BK244.out 0).trans rfl; have hcz69_1 : w68.cell? ⟨gb244, 1, none⟩ = some (.int .u64 t236) := (blk_cell BK244.out 1).trans rfl; have hcz69_2 : w68.cell? ⟨gb244, 2, none⟩ = some (.int .u64 t237) := (blk_cell BK244.out 2).trans rfl; have hcz69_3 : w68.cell? ⟨gb244, 3, none⟩ = some (.int .i64 t238) := (blk_cell BK244.out 3).trans rfl; have hfz69_0 := blk_frozen BK244.out 0; have hfz69_1 := blk_frozen BK244.out 1; have hfz69_2 := blk_frozen BK244.out 2; have hfz69_3 := blk_frozen BK244.out 3; have hcz70_0 : w68.cell? ⟨gb245, 0, none⟩ = some (.bool t239) := (blk_cell BK245.out 0).trans rfl; have hcz70_1 : w68.cell? ⟨gb245, 1, none⟩ = some (.int .u64 t240) := (blk_cell BK245.out 1).trans rfl; have hcz70_2 : w68.cell? ⟨gb245, 2, none⟩ = some (.int .u64 t241) := (blk_cell BK245.out 2).trans rfl; have hcz70_3 : w68.cell? ⟨gb245, 3, none⟩ = some (.int .i64 t242) := (blk_cell BK245.out 3).trans rfl; have hfz70_0 := blk_frozen BK245.out 0; have hfz70_1 := blk_frozen BK245.out 1; have hfz70_2 := blk_frozen BK245.out 2; have hfz70_3 := blk_frozen BK245.out 3) | (go_at_call 20; (with_reducible refine (prefix_Common.calls k t235 t236 t237 t239 t240 t241 t271 _ A24.out).mono ?_); rintro e w71 ⟨rfl, hb⟩; have n0_ := Aside0.mk (blk_below (g := gb230) (o := .cells #[.bool t225, .int .u64 t226, .int .u64 t227, .int .i64 t228] 26 (0, 0)) (St BK230.out) hb); have n1_ := Aside0.mk (blk_below (g := gb244) (o := .cells #[.bool t235, .int .u64 t236, .int .u64 t237, .int .i64 t238] 26 (0, 0)) (St BK244.out) hb); have n2_ := Aside0.mk (blk_below (g := gb245) (o := .cells #[.bool t239, .int .u64 t240, .int .u64 t241, .int .i64 t242] 26 (0, 0)) (St BK245.out) hb); have n3_ := Aside0.mk (blk_below (g := gb251) (o := .cells #[.bool t246, .int .u64 t247, .int .u64 t248, .int .i64 t249] 26 (0, 0)) (St BK251.out) hb); have n4_ := Aside0.mk (blk_below (g := gb257) (o := .cells #[.bool t252, .int .u64 t253, .int .u64 t254, .int .i64 t255] 26 (0, 0)) (St BK257.out) hb); have n5_ := Aside0.mk (below_step (Hb HB.out) hb); clear BK230; clear BK244; clear BK245; clear BK251; clear BK257; clear HB; have BK230 := n0_; have BK244 := n1_; have BK245 := n2_; have BK251 := n3_; have BK257 := n4_; have HB := n5_; clear n0_ n1_ n2_ n3_ n4_ n5_; (try clear hb); (try clear hb2); (try clear hk); (try clear hi); have hcz72_0 : w71.cell? ⟨gb230, 0, none⟩ = some (.bool t225) := (blk_cell BK230.out 0).trans rfl; have hcz72_1 : w71.cell? ⟨gb230, 1, none⟩ = some (.int .u64 t226) := (blk_cell BK230.out 1).trans rfl; have hcz72_2 : w71.cell? ⟨gb230, 2, none⟩ = some (.int .u64 t227) := (blk_cell BK230.out 2).trans rfl; have hcz72_3 : w71.cell? ⟨gb230, 3, none⟩ = some (.int .i64 t228) := (blk_cell BK230.out 3).trans rfl; have hfz72_0 := blk_frozen BK230.out 0; have hfz72_1 := blk_frozen BK230.out 1; have hfz72_2 := blk_frozen BK230.out 2; have hfz72_3 := blk_frozen BK230.out 3; have hcz73_0 : w71.cell? ⟨gb244, 0, none⟩ = some (.bool t235) := (blk_cell BK244.out 0).trans rfl; have hcz73_1 : w71.cell? ⟨gb244, 1, none⟩ = some (.int .u64 t236) := (blk_cell BK244.out 1).trans rfl; have hcz73_2 : w71.cell? ⟨gb244, 2, none⟩ = some (.int .u64 t237) := (blk_cell BK244.out 2).trans rfl; have hcz73_3 : w71.cell? ⟨gb244, 3, none⟩ = some (.int .i64 t238) := (blk_cell BK244.out 3).trans rfl; have hfz73_0 := blk_frozen BK244.out 0; have hfz73_1 := blk_frozen BK244.out 1; have hfz73_2 := blk_frozen BK244.out 2; have hfz73_3 := blk_frozen BK244.out 3) | (go_at_call 26; (with_reducible refine (prefix_Less.calls k t225 t226 t227 t228 t235 t236 t237 t238 t272 _ A26.out).mono ?_); rintro e w74 ⟨rfl, hb⟩; have n0_ := Aside0.mk (blk_below (g := gb230) (o := .cells #[.bool t225, .int .u64 t226, .int .u64 t227, .int .i64 t228] 26 (0, 0)) (St BK230.out) hb); have n1_ := Aside0.mk (blk_below (g := gb244) (o := .cells #[.bool t235, .int .u64 t236, .int .u64 t237, .int .i64 t238] 26 (0, 0)) (St BK244.out) hb); have n2_ := Aside0.mk (blk_below (g := gb245) (o := .cells #[.bool t239, .int .u64 t240, .int .u64 t241, .int .i64 t242] 26 (0, 0)) (St BK245.out) hb); have n3_ := Aside0.mk (blk_below (g := gb251) (o := .cells #[.bool t246, .int .u64 t247, .int .u64 t248, .int .i64 t249] 26 (0, 0)) (St BK251.out) hb); have n4_ := Aside0.mk (blk_below (g := gb257) (o := .cells #[.bool t252, .int .u64 t253, .int .u64 t254, .int .i64 t255] 26 (0, 0)) (St BK257.out) hb); have n5_ := Aside0.mk (below_step (Hb HB.out) hb); clear BK230; clear BK244; clear BK245; clear BK251; clear BK257; clear HB; have BK230 := n0_; have BK244 := n1_; have BK245 := n2_; have BK251 := n3_; have BK257 := n4_; have HB := n5_; clear n0_ n1_ n2_ n3_ n4_ n5_; (try clear hb); (try clear hb2); (try clear hk); (try clear hi)))
               go_ret
               exact ⟨by first | rfl | (simp [errW_none, errW_some] <;> rfl) | (simp [*, errW_none, errW_some] <;> rfl), Hb HB.out⟩
              ·replace c28 := Bool.eq_false_iff.mpr c28
               subst c28
               have H1 : (none) = some r := by rw [if_neg (show ¬ (false = true) by decide)] at H; exact H
               clear H
               have H := H1
               clear H1
               exact absurd H (by simp)
             ·rw [if_neg c27] at H
              exact absurd H (by simp)
            ·rw [if_neg c25] at H
             exact absurd H (by simp)
           ·rw [if_neg c23] at H
            exact absurd H (by simp)
          ·replace c21 := Bool.eq_false_iff.mpr c21
           subst c21
           have H1 : (none) = some r := by rw [if_neg (show ¬ (false = true) by decide)] at H; exact H
           clear H
           have H := H1
           clear H1
           exact absurd H (by simp)
         ·replace c19 := Bool.eq_false_iff.mpr c19
          subst c19
          have H1 : (none) = some r := by rw [if_neg (show ¬ (false = true) by decide)] at H; exact H
          clear H
          have H := H1
          clear H1
          exact absurd H (by simp)
        ·rw [if_neg c16] at H
         exact absurd H (by simp)
       ·rw [if_neg c14] at H
        exact absurd H (by simp)
      ·rw [if_neg c13] at H
       exact absurd H (by simp)
     ·rw [if_neg c12] at H
      exact absurd H (by simp)
    ·rw [if_neg c11] at H
     exact absurd H (by simp)
   ·rw [if_neg c9] at H
    exact absurd H (by simp)
  ·rw [if_neg c8] at H
   exact absurd H (by simp)
 ·rw [if_neg c6] at H
  exact absurd H (by simp)

end Go.Proofs.YtmhjgjdiifcdlaaDoor.P
