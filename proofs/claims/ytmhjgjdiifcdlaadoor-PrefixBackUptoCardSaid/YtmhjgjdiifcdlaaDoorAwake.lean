/- The law's first call (awake) answers yes. -/
import Derived.Test.YtmhjgjdiifcdlaaDoorPLaw04awake
namespace Go.Proofs.YtmhjgjdiifcdlaaDoor.Pure1
open Go.RowKit Go.Proofs.YtmhjgjdiifcdlaaDoor.P Go.Proofs.YtmhjgjdiifcdlaaDoorW.PrintWords
theorem awake_40 : crosswaylaw04_awake.f 40 = some true := by decide +kernel
theorem awake_ev : Ev (fun k => crosswaylaw04_awake.f k) true := Ev.of crosswaylaw04_awake.mono awake_40
end Go.Proofs.YtmhjgjdiifcdlaaDoor.Pure1
