/- The law PrefixHolds, in plain numbers. -/
import Derived.Test.YtmhjgjdiifcdlaaDoorAwake
import Derived.Test.YtmhjgjdiifcdlaaDoorPure5
import Derived.Test.YtmhjgjdiifcdlaaDoorPLaw04PrefixHolds
set_option linter.unusedVariables false
namespace Go.Proofs.YtmhjgjdiifcdlaaDoor.Pure1
open Go.RowKit Go.Proofs.YtmhjgjdiifcdlaaDoor.P Go.Proofs.YtmhjgjdiifcdlaaDoor.Nat_ Go.Proofs.YtmhjgjdiifcdlaaDoorW.PrintWords Go.Proofs.YtmhjgjdiifcdlaaDoorW.PrintMore

theorem PrefixHolds_ev (s : Bool) (h l : Nat) (hh : B64 h) (hl : B64 l) (m : Int) (s1 : Bool) (h1 l1 : Nat) (hh1 : B64 h1) (hl1 : B64 l1) (m1 : Int) (s' : Bool) (h' l' : Nat) (hh' : B64 h') (hl' : B64 l') :
    Ev (fun k => crosswaylaw04_PrefixHolds.f k s h l m s1 h1 l1 m1 s' h' l') true := by
  obtain ⟨K1, e1⟩ := awake_ev
  obtain ⟨K2, e2⟩ := rHolds_ev s h l m s' h' l' hh hl hh' hl'
  obtain ⟨K3, e3⟩ := rCovers_ev s h l m s1 h1 l1 m1 hh hl hh1 hl1
  obtain ⟨n, ⟨K4, e4⟩, hn⟩ := pCommon_ev s h l s' h' l' hh hl hh' hl'
  obtain ⟨n', ⟨K5, e5⟩, hn'⟩ := rCommon_ev s h l s' h' l' hh hl hh' hl'
  obtain rfl := IsCommon_unique hn hn'
  refine ⟨K1 + K2 + K3 + K4 + K5, fun k hk => ?_⟩
  have e1 := e1 k (by omega)
  have e2 := e2 k (by omega)
  have e3 := e3 k (by omega)
  have e4 := e4 k (by omega)
  have e5 := e5 k (by omega)
  simp only at e1 e2 e3 e4 e5
  show crosswaylaw04_PrefixHolds.f k s h l m s1 h1 l1 m1 s' h' l' = some true
  unfold crosswaylaw04_PrefixHolds.f
  rw [e1, Holds_is s h l hh hl m s' h' l' hh' hl', e2]
  simp only [Option.bind_some]
  rw [Covers_is s h l hh hl m s1 h1 l1 hh1 hl1 m1, e3]
  simp only [Option.bind_some]
  rw [e4, e5]
  simp
end Go.Proofs.YtmhjgjdiifcdlaaDoor.Pure1
