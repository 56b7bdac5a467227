/- The law PrefixOf, in plain numbers. -/
import Derived.Test.YtmhjgjdiifcdlaaDoorAwake
import Derived.Test.YtmhjgjdiifcdlaaDoorPure4
import Derived.Test.YtmhjgjdiifcdlaaDoorPLaw04PrefixOf
set_option linter.unusedVariables false
namespace Go.Proofs.YtmhjgjdiifcdlaaDoor.Pure1
open Go.RowKit Go.Proofs.YtmhjgjdiifcdlaaDoor.P Go.Proofs.YtmhjgjdiifcdlaaDoor.Nat_ Go.Proofs.YtmhjgjdiifcdlaaDoorW.PrintWords Go.Proofs.YtmhjgjdiifcdlaaDoorW.PrintMore

theorem PrefixOf_ev (s : Bool) (h l : Nat) (hh : B64 h) (hl : B64 l) (i : Int) (hi0 : -9223372036854775808 ≤ i) (hi1 : i < 9223372036854775808) (s' : Bool) (h' l' : Nat) (hh' : B64 h') (hl' : B64 l') (m' : Int) :
    Ev (fun k => crosswaylaw04_PrefixOf.f k s h l i s' h' l' m') true := by
  obtain ⟨K1, e1⟩ := awake_ev
  obtain ⟨K2, e2⟩ := rOf_ev s h l hh hl i
  obtain ⟨K3, e3⟩ := Bit_ev s h l hh hl i hi0 hi1
  obtain ⟨K4, e4⟩ := rBit_ev s h l hh hl i hi0 hi1
  obtain ⟨K5, e5⟩ := rValid_ev s' h' l' hh' hl' m'
  refine ⟨K1 + K2 + K3 + K4 + K5, fun k hk => ?_⟩
  have e1 := e1 k (by omega)
  have e2 := e2 k (by omega)
  have e3 := e3 k (by omega)
  have e4 := e4 k (by omega)
  have e5 := e5 k (by omega)
  simp only at e1 e2 e3 e4 e5
  show crosswaylaw04_PrefixOf.f k s h l i s' h' l' m' = some true
  unfold crosswaylaw04_PrefixOf.f
  rw [e1, Of_is s h l hh hl i, e2]
  simp only [Option.bind_some]
  rw [e3, e4, Valid_is s' h' l' hh' hl' m', e5]
  simp
end Go.Proofs.YtmhjgjdiifcdlaaDoor.Pure1
