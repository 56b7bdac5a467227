/- strconv.ParseUint at base 16, and addr.number at base 10 and 16. Condition: the world holds the library's tables (Glob). -/
import Derived.Test.YtmhjgjdiifcdlaaDoorHex
set_option linter.unusedVariables false
namespace Go.Proofs.YtmhjgjdiifcdlaaDoor.P
open Go.RowKit Go.Proofs.YtmhjgjdiifcdlaaDoorW.PrintWords

set_option maxRecDepth 100000 in
theorem pux_ok (s : ByteArray) (hne : s.size ≠ 0) (hs : s.size ≤ 8) (u : Nat) (h : hexN 0 s.data.toList = some u) (w : World) :
    Calls Tryd.prog 58 #[.string s, .int .i64 16, .int .i64 64] w fun e w' => e = .returned (.tuple #[.int .u64 u, .nilIface]) ∧ Below w.heap.size w w' := by
  have hI := internal_hex s hne hs w
  rw [h] at hI
  have hI : Calls Tryd.prog 69 #[.string s, .int .i64 16, .int .i64 64] w fun e w' => e = .returned (.tuple #[.int .u64 u, .nilIface]) ∧ w' = Lib.bytesWorld w 5 s := hI
  clear h
  go_enter Tryd.func58, Tryd.ntmps58
  go_wp2_with (go_at_call 69; refine hI.mono ?_; rintro e W1 ⟨rfl, rfl⟩)
  go_ret2
  exact ⟨rfl, below_bytes _ _ _⟩
set_option maxHeartbeats 4000000 in
set_option maxRecDepth 100000 in
theorem pux_syn (s : ByteArray) (hne : s.size ≠ 0) (hs : s.size ≤ 8) (h : hexN 0 s.data.toList = none) (w : World) (hG : Glob w) :
    Calls Tryd.prog 58 #[.string s, .int .i64 16, .int .i64 64] w fun e w' => ∃ N : Nat, e = .returned (.tuple #[.int .u64 0, .iface 109 (.pointer (some ⟨N, 0, none⟩))]) ∧ Below w.heap.size w w' := by
  obtain ⟨tp, p, hvar⟩ := hG.syn
  have hv : w.cell? ⟨2, 0, none⟩ = some (.iface tp p) := by have h0 := World.var?_cell g_syn hvar 0; simpa using h0
  have hI := internal_hex s hne hs w
  rw [h] at hI
  have hI : Calls Tryd.prog 69 #[.string s, .int .i64 16, .int .i64 64] w fun e w' => e = .returned (.tuple #[.int .u64 0, .iface 106 (.int .i64 2)]) ∧ w' = Lib.bytesWorld w 5 s := hI
  have hb1 : Below w.heap.size w (Lib.bytesWorld w 5 s) := below_bytes _ _ _
  have hv1 : (Lib.bytesWorld w 5 s).cell? ⟨2, 0, none⟩ = some (.iface tp p) := (hb1.cell (show (⟨2, 0, none⟩ : Addr).block < w.heap.size from Lib.lt_of_cell hv)).trans hv
  have hT := AnyPu.strconv_toError_syntax { Tryd.laysPu14 with } ⟨#[80, 97, 114, 115, 101, 85, 105, 110, 116]⟩ s 16 64 (.iface tp p) (Lib.bytesWorld w 5 s) (by omega) hv1 (Or.inr ⟨tp, p, rfl⟩)
  have hT : Calls Tryd.prog 70 #[.string ⟨#[80, 97, 114, 115, 101, 85, 105, 110, 116]⟩, .string s, .int .i64 16, .int .i64 64, .iface 106 (.int .i64 2)] (Lib.bytesWorld w 5 s) fun e w' => ∃ N : Nat, e = .returned (.iface 109 (.pointer (some ⟨N, 0, none⟩))) ∧ Below (Lib.bytesWorld w 5 s).heap.size (Lib.bytesWorld w 5 s) w' := by
    refine hT.mono ?_
    rintro e w' ⟨N, he, _, _, hb⟩
    exact ⟨N, he, hb⟩
  clear h hv hv1 hvar hG
  generalize Lib.bytesWorld w 5 s = W0 at hI hb1 hT
  go_enter Tryd.func58, Tryd.ntmps58
  go_wp2_with (go_at_call 69; refine hI.mono ?_; rintro e W1 ⟨rfl, rfl⟩)
  go_wp2_with (go_at_call 70; refine hT.mono ?_; rintro e W2 ⟨N, rfl, hb2⟩)
  go_ret2
  exact ⟨N, rfl, hb1.trans (hb2.mono hb1.size)⟩
end Go.Proofs.YtmhjgjdiifcdlaaDoor.P
