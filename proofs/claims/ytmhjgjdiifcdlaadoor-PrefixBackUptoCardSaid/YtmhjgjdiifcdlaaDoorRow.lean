/- What the rows' own conditions give a walk: the library's variables (Glob), and the arguments opened: an address, a prefix; and a start that fits. -/
import Derived.Test.YtmhjgjdiifcdlaaDoorPure1
import Derived.Test.YtmhjgjdiifcdlaaDoorGiven
import Derived.Test.YtmhjgjdiifcdlaaDoorCards
import Derived.Test.YtmhjgjdiifcdlaaDoorTie
import Derived.ProofKit
import Derived.Lay
import Derived.Shelf.Vars
import Derived.Lib.LaidU8
import Derived.OpenShut
import Derived.Deep.DeepHandedRow
import Derived.Deep.DeepWitnessRowRef
import Derived.Lib.LaidTab
set_option linter.unusedVariables false
set_option maxRecDepth 100000
namespace Go.Proofs.YtmhjgjdiifcdlaaDoor.Row
open Go.ChangeShapes Go.WideShapes Go.ChangeAt Go.RowKit Go.Proofs.YtmhjgjdiifcdlaaDoor.P Go.Proofs.YtmhjgjdiifcdlaaDoor.Pure1

theorem own : ownKnob Tryd.prog.godebug = none := by kernel_rfl
theorem laidOut : laidOutB Tryd.prog = true := by kernel_rfl
theorem cells3 : Tryd.prog.cellsOf 3 = 1 := by kernel_rfl
theorem cells4 : Tryd.prog.cellsOf 4 = 1 := by kernel_rfl
theorem cells22 : Tryd.prog.cellsOf 22 = 1 := by kernel_rfl
theorem cells24 : Tryd.prog.cellsOf 24 = 3 := by kernel_rfl
theorem cells26 : Tryd.prog.cellsOf 26 = 4 := by kernel_rfl

section
variable {H : Type} {enc : TypeId × Value → H} {W : World} {base : Nat} {sp : Nat → Bool} {held : Bool}
theorem nat_of_u64 {n : Int} (h : (Lit.int .u64 n).wf = true) : ∃ k : Nat, B64 k ∧ n = (k : Int) := by
  have hx : 0 ≤ n ∧ n ≤ 18446744073709551615 := by simpa [Lit.wf, IntKind.min, IntKind.max, IntKind.signed, IntKind.bits] using h
  exact ⟨n.toNat, by unfold B64; omega, by omega⟩
theorem i64_of {n : Int} (h : (Lit.int .i64 n).wf = true) : -9223372036854775808 ≤ n ∧ n < 9223372036854775808 := by
  have hx : -9223372036854775808 ≤ n ∧ n ≤ 9223372036854775807 := by simpa [Lit.wf, IntKind.min, IntKind.max, IntKind.signed, IntKind.bits] using h
  omega
theorem three {α : Type} : ∀ (l : List α), l.length = 3 → ∃ a b c, l = [a, b, c]
  | [a, b, c], _ => ⟨a, b, c, rfl⟩
theorem four {α : Type} : ∀ (l : List α), l.length = 4 → ∃ a b c d, l = [a, b, c, d]
  | [a, b, c, d], _ => ⟨a, b, c, d, rfl⟩
theorem cells_addr {fuel : Nat} {cs : List Value} {x : DataW H × List MemPlace} (h : DataW.trod enc Tryd.prog W base sp held fuel 24 cs = some x) :
    ∃ (s : Bool) (hi lo : Nat), B64 hi ∧ B64 lo ∧ cs = [.bool s, .int .u64 hi, .int .u64 lo] := by
  obtain ⟨xs, n, _, _, hl, hx, hall⟩ := DataW.trod_struct Tryd.underlying24 h
  rw [cells24] at hl
  obtain ⟨a, b, c, rfl⟩ := three cs hl
  obtain ⟨xa, xb, xc, rfl⟩ := three xs hx
  have h0 : DataW.trod enc Tryd.prog W base sp held n 4 (([a, b, c].drop 0).take (Tryd.prog.cellsOf 4)) = some xa := hall 0 _ rfl
  have h1 : DataW.trod enc Tryd.prog W base sp held n 22 (([a, b, c].drop 1).take (Tryd.prog.cellsOf 22)) = some xb := hall 1 _ rfl
  have h2 : DataW.trod enc Tryd.prog W base sp held n 22 (([a, b, c].drop 2).take (Tryd.prog.cellsOf 22)) = some xc := hall 2 _ rfl
  rw [cells4] at h0
  rw [cells22] at h1 h2
  obtain ⟨s, e0, _⟩ := DataW.trod_bool Tryd.underlying4 h0
  obtain ⟨n1, e1, _, w1⟩ := DataW.trod_int Tryd.underlying22 h1
  obtain ⟨n2, e2, _, w2⟩ := DataW.trod_int Tryd.underlying22 h2
  obtain ⟨k1, b1, rfl⟩ := nat_of_u64 w1
  obtain ⟨k2, b2, rfl⟩ := nat_of_u64 w2
  cases e0; cases e1; cases e2
  exact ⟨s, k1, k2, b1, b2, rfl⟩
theorem open_addr {v : Value} {d : DataW H} {p : List MemPlace} (hv : Value.okWide Tryd.prog W .any base 24 v) (h : DataW.Trod enc Tryd.prog W 0 sp held 24 v d p) :
    ∃ (s : Bool) (hi lo : Nat), B64 hi ∧ B64 lo ∧ v = .agg #[.bool s, .int .u64 hi, .int .u64 lo] := by
  obtain ⟨cs, rfl, _⟩ := okWide_struct Tryd.underlying24 hv
  obtain ⟨fuel, hf⟩ := h
  obtain ⟨s, hi, lo, b1, b2, e⟩ := cells_addr hf
  obtain ⟨cs⟩ := cs
  simp [Value.cells] at e
  subst e
  exact ⟨s, hi, lo, b1, b2, rfl⟩
theorem open_pfx {v : Value} {d : DataW H} {p : List MemPlace} (hv : Value.okWide Tryd.prog W .any base 26 v) (h : DataW.Trod enc Tryd.prog W 0 sp held 26 v d p) :
    ∃ (s : Bool) (hi lo : Nat) (m : Int), B64 hi ∧ B64 lo ∧ -9223372036854775808 ≤ m ∧ m < 9223372036854775808 ∧ v = .agg #[.bool s, .int .u64 hi, .int .u64 lo, .int .i64 m] := by
  obtain ⟨cs, rfl, _⟩ := okWide_struct Tryd.underlying26 hv
  obtain ⟨fuel, hf⟩ := h
  obtain ⟨xs, n, _, _, hl, hx, hall⟩ := DataW.trod_struct Tryd.underlying26 hf
  obtain ⟨cs⟩ := cs
  simp only [Value.cells] at hl hall
  rw [cells26] at hl
  obtain ⟨a, b, c, d, rfl⟩ := four cs hl
  obtain ⟨xa, xb, rfl⟩ : ∃ xa xb, xs = [xa, xb] := by
    match xs, hx with
    | [xa, xb], _ => exact ⟨xa, xb, rfl⟩
  have h0 : DataW.trod enc Tryd.prog W 0 sp held n 24 (([a, b, c, d].drop 0).take (Tryd.prog.cellsOf 24)) = some xa := hall 0 _ rfl
  have h1 : DataW.trod enc Tryd.prog W 0 sp held n 3 (([a, b, c, d].drop 3).take (Tryd.prog.cellsOf 3)) = some xb := hall 1 _ rfl
  rw [cells24] at h0
  rw [cells3] at h1
  obtain ⟨s, hi, lo, b1, b2, e0⟩ := cells_addr h0
  obtain ⟨m, e1, _, w1⟩ := DataW.trod_int Tryd.underlying3 h1
  obtain ⟨m1, m2⟩ := i64_of w1
  cases e0; cases e1
  exact ⟨s, hi, lo, m, b1, b2, m1, m2, rfl⟩
end

/-- WHAT A ROW's LIST, AND THE WORLD's SHAPE, GIVE. -/
theorem iface_var {W : World} {n nm : String} {d : DataW Unit} {g : Nat} {ti : TypeId} {ms : Array (String × TypeId)} (h : Lib.VarReads Tryd.prog W n (.iface nm d)) (hg : Tryd.prog.globalNamed n = some g) (ht : (Tryd.prog.globals[g]?).map (·.type) = some ti) (hi : Tryd.prog.underlying ti = some (.interface ms)) :
    ∃ tp p, W.var? Tryd.prog n = some #[.iface tp p] := by
  obtain ⟨g0, t0, cs0, f0, p0, hg0, ht0, hv0, hd0⟩ := h
  obtain rfl := Option.some.inj (hg.symm.trans hg0)
  obtain rfl := Option.some.inj (ht.symm.trans ht0)
  obtain ⟨_, u, v, e, _, _⟩ := iface_of_trod hi hd0
  obtain ⟨l0⟩ := cs0
  simp only at e
  subst e
  exact ⟨u, v, hv0⟩
noncomputable abbrev powT : TypeId := (Tryd.prog.globals[1]?).elim 0 (·.type)
theorem powU : Tryd.prog.underlying powT = some (.array 20 22) := by kernel_rfl
theorem powC : Tryd.prog.cellsOf powT = 20 := by kernel_rfl
theorem lenRow : ((begin Tryd.prog (fun _ _ => 0) default).world.heap[0]?).bind Obj.row? = some (#[.int .i64 0], 3) := by kernel_rfl
theorem lenLt : 0 < Tryd.prog.globals.size := of_decide_eq_true (by kernel_rfl)
noncomputable abbrev debT : TypeId := (Tryd.prog.globals[5]?).elim 0 (·.type)
theorem debU : Tryd.prog.underlying debT = some (.array 64 5) := by kernel_rfl
theorem debC : Tryd.prog.cellsOf debT = 64 := by kernel_rfl
theorem cells5 : Tryd.prog.cellsOf 5 = 1 := by kernel_rfl
theorem g_deb : Tryd.prog.globalNamed "math/bits.deBruijn64tab" = some 5 := by kernel_rfl
def debTab : List Int := [0, 1, 56, 2, 57, 49, 28, 3, 61, 58, 42, 50, 38, 29, 17, 4, 62, 47, 59, 36, 45, 43, 51, 22, 53, 39, 33, 30, 24, 18, 12, 5, 63, 55, 48, 27, 60, 41, 37, 16, 46, 35, 44, 21, 52, 32, 23, 11, 54, 26, 40, 15, 34, 20, 31, 10, 25, 14, 19, 9, 13, 8, 7, 6]
theorem deb_cell {W : World} (h : Lib.VarReads Tryd.prog W "math/bits.deBruijn64tab" Rows.laid_math_bits_deBruijn64tab) : W.cell? ⟨5, 15, none⟩ = some (.int .u8 4) := by
  obtain ⟨g0, t0, cs0, f0, p0, hg0, ht0, hv0, hd0⟩ := h
  obtain rfl := Option.some.inj (g_deb.symm.trans hg0)
  obtain rfl := Option.some.inj ((show (Tryd.prog.globals[5]?).map (·.type) = some debT by kernel_rfl).symm.trans ht0)
  have e : (Rows.laid_math_bits_deBruijn64tab : DataW Unit) = Lib.tabData .u8 debTab := by rfl
  rw [e] at hd0
  have := Lib.cells_of_tab debU Tryd.underlying5 cells5 debC hd0
  obtain ⟨cs0⟩ := cs0
  simp only at this
  subst this
  have h0 := World.var?_cell g_deb hv0 15
  rw [h0]
  rfl
theorem glob_of {laid : List (String × DataW Unit)} {W : World} (hp : (laid.all fun x => x.2.handleName?.isNone) = true) (h1 : ("internal/strconv.uint64pow10", Rows.laid_internal_strconv_uint64pow10) ∈ laid) (h2 : ("strconv.ErrRange", Rows.laid_strconv_ErrRange) ∈ laid) (h3 : ("strconv.ErrSyntax", Rows.laid_strconv_ErrSyntax) ∈ laid) (h4 : ("math/bits.deBruijn64tab", Rows.laid_math_bits_deBruijn64tab) ∈ laid)
    (h : laidMetH Tryd.prog laid W) (hs : W.ShapedOpen Tryd.prog) : Glob W := by
  rw [MakeChecks.laidMetH_plain _ _ _ hp] at h
  refine ⟨cell_of_shapedOpen_int hs lenLt lenRow rfl (by kernel_rfl) (by kernel_rfl) Tryd.underlying3, iface_var (Lib.laidMet.reads h h3) g_syn (by kernel_rfl) Tryd.underlying77, iface_var (Lib.laidMet.reads h h2) g_rng (by kernel_rfl) Tryd.underlying77, ?_, deb_cell (Lib.laidMet.reads h h4)⟩
  obtain ⟨g0, t0, cs0, f0, p0, hg0, ht0, hv0, hd0⟩ := Lib.laidMet.reads h h1
  obtain rfl := Option.some.inj (g_pow.symm.trans hg0)
  obtain rfl := Option.some.inj ((show (Tryd.prog.globals[1]?).map (·.type) = some powT by kernel_rfl).symm.trans ht0)
  have e : (Rows.laid_internal_strconv_uint64pow10 : DataW Unit) = Lib.tabData .u64 Lib.pow10Tab := by rfl
  rw [e] at hd0
  have := Lib.cells_of_tab powU Tryd.underlying22 cells22 powC hd0
  obtain ⟨cs0⟩ := cs0
  simp only at this
  subst this
  exact hv0
end Go.Proofs.YtmhjgjdiifcdlaaDoor.Row
