/- A start that fits: every listed variable holds what the row says. -/
import Derived.Test.YtmhjgjdiifcdlaaDoorRow
set_option maxRecDepth 100000
namespace Go.Proofs.YtmhjgjdiifcdlaaDoor.Row
open Go.ChangeShapes Go.WideShapes Go.ChangeAt Go.RowKit

/-- The rows' list: one and the same in all of them. -/
abbrev laidL : List (String × DataW Unit) := Rows.prefixOfRow.laid
theorem inPow : ("internal/strconv.uint64pow10", Rows.laid_internal_strconv_uint64pow10) ∈ laidL := .tail _ (.tail _ (.head _))
theorem inRng : ("strconv.ErrRange", Rows.laid_strconv_ErrRange) ∈ laidL := .tail _ (.tail _ (.tail _ (.tail _ (.head _))))
theorem inSyn : ("strconv.ErrSyntax", Rows.laid_strconv_ErrSyntax) ∈ laidL := .tail _ (.tail _ (.tail _ (.tail _ (.tail _ (.head _)))))
theorem inDeb : ("math/bits.deBruijn64tab", Rows.laid_math_bits_deBruijn64tab) ∈ laidL := .tail _ (.head _)
theorem plainL : (laidL.all fun x => x.2.handleName?.isNone) = true := by kernel_rfl
noncomputable abbrev wit (os : Os) : World := World.laidAll Tryd.prog os laidL
theorem wit_laid (os : Os) (args : Array Value) : laidMetH Tryd.prog laidL ((wit os).forCall (fun _ _ => 0) ⟨#[], args, []⟩).memory := by
  rw [MakeChecks.laidMetH_plain _ _ _ plainL]; exact laidMet_laidAll _ (by kernel_rfl) (by kernel_rfl)
theorem wit_rest (os : Os) : ((wit os).heap.toList.drop Tryd.prog.globals.size).take ((begin Tryd.prog (fun _ _ => 0) default).world.heap.size - Tryd.prog.globals.size) =
      (begin Tryd.prog (fun _ _ => 0) default).world.heap.toList.drop Tryd.prog.globals.size := by kernel_rfl
theorem wit_vars (os : Os) : (wit os).variablesRefB Tryd.prog = true := by kernel_rfl
theorem globL {W : World} (hL : laidMetH Tryd.prog laidL W) (hS : W.ShapedOpen Tryd.prog) : P.Glob W := glob_of plainL inPow inRng inSyn inDeb hL hS
end Go.Proofs.YtmhjgjdiifcdlaaDoor.Row
