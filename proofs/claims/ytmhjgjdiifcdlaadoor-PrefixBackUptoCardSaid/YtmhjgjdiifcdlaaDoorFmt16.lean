/- internal/strconv.FormatUint at base 16, below 65536. -/
import Derived.Test.YtmhjgjdiifcdlaaDoorFmt
set_option linter.unusedVariables false
namespace Go.Proofs.YtmhjgjdiifcdlaaDoor.P
open Go.RowKit Go.Proofs.YtmhjgjdiifcdlaaDoorW.PrintWords

def hx (d : Nat) : UInt8 := UInt8.ofNat (if d < 10 then 48 + d else 87 + d)
def hex4 (n : Nat) : List UInt8 := if n < 16 then [hx n] else if n < 256 then [hx (n / 16), hx (n % 16)] else if n < 4096 then [hx (n / 256), hx (n / 16 % 16), hx (n % 16)] else [hx (n / 4096), hx (n / 256 % 16), hx (n / 16 % 16), hx (n % 16)]

set_option maxRecDepth 100000 in
theorem pow16 (w : World) : Calls Tryd.prog 91 #[.int .i64 16] w fun e w' => e = .returned (.bool true) ∧ w' = w := by
  go_enter Tryd.func91, Tryd.ntmps91
  go_wp2
  go_ret
  exact ⟨by first | rfl | decide, rfl⟩
set_option maxRecDepth 100000 in
theorem trail16 (w : World) (hc : w.cell? ⟨5, 15, none⟩ = some (.int .u8 4)) : Calls Tryd.prog 92 #[.int .u64 16] w fun e w' => e = .returned (.int .i64 4) ∧ w' = w := by
  have inner : Calls Tryd.prog 103 #[.int .u64 16] w fun e w' => e = .returned (.int .i64 4) ∧ w' = w := by
    go_enter Tryd.func103, Tryd.ntmps103
    have e1 : IntKind.u64.wrap ((Go.bits .and .u64 16 (IntKind.u64.wrap (-16))) * 285870213051353865) / 288230376151711744 = 15 := by decide
    go_wp2
    go_ret
    exact ⟨rfl, rfl⟩
  go_enter Tryd.func92, Tryd.ntmps92
  go_wp2_with (go_at_call 103; refine inner.mono ?_; rintro e w' ⟨rfl, rfl⟩)
  go_ret
  exact ⟨rfl, rfl⟩
theorem digit_at (d : Nat) (h : d < 16) (h' : d < (⟨#[48, 49, 50, 51, 52, 53, 54, 55, 56, 57, 97, 98, 99, 100, 101, 102, 103, 104, 105, 106, 107, 108, 109, 110, 111, 112, 113, 114, 115, 116, 117, 118, 119, 120, 121, 122]⟩ : ByteArray).size) : (⟨#[48, 49, 50, 51, 52, 53, 54, 55, 56, 57, 97, 98, 99, 100, 101, 102, 103, 104, 105, 106, 107, 108, 109, 110, 111, 112, 113, 114, 115, 116, 117, 118, 119, 120, 121, 122]⟩ : ByteArray)[d] = hx d := by
  rcases (show d = 0 ∨ d = 1 ∨ d = 2 ∨ d = 3 ∨ d = 4 ∨ d = 5 ∨ d = 6 ∨ d = 7 ∨ d = 8 ∨ d = 9 ∨ d = 10 ∨ d = 11 ∨ d = 12 ∨ d = 13 ∨ d = 14 ∨ d = 15 from by omega) with rfl | rfl | rfl | rfl | rfl | rfl | rfl | rfl | rfl | rfl | rfl | rfl | rfl | rfl | rfl | rfl <;> rfl
theorem and15 (u : Nat) (h : u < 65536) : Go.bits .and .u64 (u : Int) 15 = ((u % 16 : Nat) : Int) := by
  rw [show (15 : Int) = ((15 : Nat) : Int) from rfl, bits_and_u64_nat _ _ (by omega) (by omega)]
  have : u &&& 15 = u % 16 := Nat.and_two_pow_sub_one_eq_mod u 4
  rw [this]
set_option maxHeartbeats 8000000 in
set_option maxRecDepth 100000 in
theorem bits_hex1 (u0 : Nat) (w : World) (hc : w.cell? ⟨5, 15, none⟩ = some (.int .u8 4))
    (hl : u0 < 16) :
    Calls Tryd.prog 74 #[.slice none 0 0, .int .u64 u0, .int .i64 16, .bool false, .bool false] w fun e w' => e = .returned (.tuple #[.slice none 0 0, .string ⟨#[hx u0]⟩]) ∧ Below w.heap.size w w' := by
  have hcv : ∀ e0 : UInt8, (convert 48 9 (.slice (some ⟨w.heap.size, 64, none⟩) 1 1)).run Tryd.prog (w.alloc (.cells (Tryd.zeroCells115.setIfInBounds 64 (.int .u8 e0.toNat)) 115)) = .ok (.string ⟨#[e0]⟩) (w.alloc (.cells (Tryd.zeroCells115.setIfInBounds 64 (.int .u8 e0.toNat)) 115)) := by
    intro e0
    exact run_convert_bytes_back (P := Tryd.prog) _ 48 9 5 ⟨w.heap.size, 64, none⟩ 1 [e0] Tryd.underlying48 Tryd.underlying5 Tryd.underlying9 (fun j hj => by
      have hj0 : j = 0 := by simp at hj; omega
      rcases hj0 with rfl <;> (rw [Lib.add_plain, World.cell?_alloc_new]; rfl))
  have hl' : (u0 : Int) < 16 := by omega
  go_enter Tryd.func74, Tryd.ntmps74
  go_wp2_with (first | (go_at_call 91; refine (pow16 _).mono ?_; rintro e w' ⟨rfl, rfl⟩) | (go_at_call 92; refine (trail16 _ ?_).mono ?_; rotate_left; rintro e w' ⟨rfl, rfl⟩))
  · refine wp_loop_rounds 1 ?_
    rw [rounds_succ]
    go_wp2
    go_ret2
    refine ⟨?_, by repeat (first | exact Below.refl _ _ | apply pw_below_drewN | apply below_drew1 | apply below_alloc)⟩
    have q := digit_at u0 hl
    simp only [digit_at _ hl]
    rfl
  · rw [World.cell?_alloc_old]
    · exact hc
    · exact Nat.ne_of_lt (World.block_lt_of_cell? w ⟨_, 15, none⟩ hc)
set_option maxHeartbeats 8000000 in
set_option maxRecDepth 100000 in
theorem bits_hex2 (u0 : Nat) (u1 : Nat) (d0 : Nat) (w : World) (hc : w.cell? ⟨5, 15, none⟩ = some (.int .u8 4))
    (hl : u1 < 16) (ha0 : Go.bits .and .u64 (u0 : Int) 15 = (d0 : Int)) (hd0 : d0 < 16) (hv0 : (u0 : Int) / 16 = (u1 : Int)) (hg0 : 16 ≤ (u0 : Int)) :
    Calls Tryd.prog 74 #[.slice none 0 0, .int .u64 u0, .int .i64 16, .bool false, .bool false] w fun e w' => e = .returned (.tuple #[.slice none 0 0, .string ⟨#[hx u1, hx d0]⟩]) ∧ Below w.heap.size w w' := by
  have hcv : ∀ e0 e1 : UInt8, (convert 48 9 (.slice (some ⟨w.heap.size, 63, none⟩) 2 2)).run Tryd.prog (w.alloc (.cells ((Tryd.zeroCells115.setIfInBounds 64 (.int .u8 e0.toNat)).setIfInBounds 63 (.int .u8 e1.toNat)) 115)) = .ok (.string ⟨#[e1, e0]⟩) (w.alloc (.cells ((Tryd.zeroCells115.setIfInBounds 64 (.int .u8 e0.toNat)).setIfInBounds 63 (.int .u8 e1.toNat)) 115)) := by
    intro e0 e1
    exact run_convert_bytes_back (P := Tryd.prog) _ 48 9 5 ⟨w.heap.size, 63, none⟩ 2 [e1, e0] Tryd.underlying48 Tryd.underlying5 Tryd.underlying9 (fun j hj => by
      have hj0 : j = 0 ∨ j = 1 := by simp at hj; omega
      rcases hj0 with rfl | rfl <;> (rw [Lib.add_plain, World.cell?_alloc_new]; rfl))
  have hl' : (u1 : Int) < 16 := by omega
  go_enter Tryd.func74, Tryd.ntmps74
  go_wp2_with (first | (go_at_call 91; refine (pow16 _).mono ?_; rintro e w' ⟨rfl, rfl⟩) | (go_at_call 92; refine (trail16 _ ?_).mono ?_; rotate_left; rintro e w' ⟨rfl, rfl⟩))
  · refine wp_loop_rounds 2 ?_
    rw [rounds_succ]
    go_wp2
    rw [rounds_succ]
    go_wp2
    go_ret2
    refine ⟨?_, by repeat (first | exact Below.refl _ _ | apply pw_below_drewN | apply below_drew1 | apply below_alloc)⟩
    have q := digit_at u1 hl
    have q0 := digit_at d0 hd0
    simp only [digit_at _ hl, digit_at _ hd0]
    rfl
  · rw [World.cell?_alloc_old]
    · exact hc
    · exact Nat.ne_of_lt (World.block_lt_of_cell? w ⟨_, 15, none⟩ hc)
set_option maxHeartbeats 8000000 in
set_option maxRecDepth 100000 in
theorem bits_hex3 (u0 : Nat) (u1 : Nat) (u2 : Nat) (d0 : Nat) (d1 : Nat) (w : World) (hc : w.cell? ⟨5, 15, none⟩ = some (.int .u8 4))
    (hl : u2 < 16) (ha0 : Go.bits .and .u64 (u0 : Int) 15 = (d0 : Int)) (hd0 : d0 < 16) (hv0 : (u0 : Int) / 16 = (u1 : Int)) (hg0 : 16 ≤ (u0 : Int)) (ha1 : Go.bits .and .u64 (u1 : Int) 15 = (d1 : Int)) (hd1 : d1 < 16) (hv1 : (u1 : Int) / 16 = (u2 : Int)) (hg1 : 16 ≤ (u1 : Int)) :
    Calls Tryd.prog 74 #[.slice none 0 0, .int .u64 u0, .int .i64 16, .bool false, .bool false] w fun e w' => e = .returned (.tuple #[.slice none 0 0, .string ⟨#[hx u2, hx d1, hx d0]⟩]) ∧ Below w.heap.size w w' := by
  have hcv : ∀ e0 e1 e2 : UInt8, (convert 48 9 (.slice (some ⟨w.heap.size, 62, none⟩) 3 3)).run Tryd.prog (w.alloc (.cells (((Tryd.zeroCells115.setIfInBounds 64 (.int .u8 e0.toNat)).setIfInBounds 63 (.int .u8 e1.toNat)).setIfInBounds 62 (.int .u8 e2.toNat)) 115)) = .ok (.string ⟨#[e2, e1, e0]⟩) (w.alloc (.cells (((Tryd.zeroCells115.setIfInBounds 64 (.int .u8 e0.toNat)).setIfInBounds 63 (.int .u8 e1.toNat)).setIfInBounds 62 (.int .u8 e2.toNat)) 115)) := by
    intro e0 e1 e2
    exact run_convert_bytes_back (P := Tryd.prog) _ 48 9 5 ⟨w.heap.size, 62, none⟩ 3 [e2, e1, e0] Tryd.underlying48 Tryd.underlying5 Tryd.underlying9 (fun j hj => by
      have hj0 : j = 0 ∨ j = 1 ∨ j = 2 := by simp at hj; omega
      rcases hj0 with rfl | rfl | rfl <;> (rw [Lib.add_plain, World.cell?_alloc_new]; rfl))
  have hl' : (u2 : Int) < 16 := by omega
  go_enter Tryd.func74, Tryd.ntmps74
  go_wp2_with (first | (go_at_call 91; refine (pow16 _).mono ?_; rintro e w' ⟨rfl, rfl⟩) | (go_at_call 92; refine (trail16 _ ?_).mono ?_; rotate_left; rintro e w' ⟨rfl, rfl⟩))
  · refine wp_loop_rounds 3 ?_
    rw [rounds_succ]
    go_wp2
    rw [rounds_succ]
    go_wp2
    rw [rounds_succ]
    go_wp2
    go_ret2
    refine ⟨?_, by repeat (first | exact Below.refl _ _ | apply pw_below_drewN | apply below_drew1 | apply below_alloc)⟩
    have q := digit_at u2 hl
    have q0 := digit_at d0 hd0
    have q1 := digit_at d1 hd1
    simp only [digit_at _ hl, digit_at _ hd0, digit_at _ hd1]
    rfl
  · rw [World.cell?_alloc_old]
    · exact hc
    · exact Nat.ne_of_lt (World.block_lt_of_cell? w ⟨_, 15, none⟩ hc)
set_option maxHeartbeats 8000000 in
set_option maxRecDepth 100000 in
theorem bits_hex4 (u0 : Nat) (u1 : Nat) (u2 : Nat) (u3 : Nat) (d0 : Nat) (d1 : Nat) (d2 : Nat) (w : World) (hc : w.cell? ⟨5, 15, none⟩ = some (.int .u8 4))
    (hl : u3 < 16) (ha0 : Go.bits .and .u64 (u0 : Int) 15 = (d0 : Int)) (hd0 : d0 < 16) (hv0 : (u0 : Int) / 16 = (u1 : Int)) (hg0 : 16 ≤ (u0 : Int)) (ha1 : Go.bits .and .u64 (u1 : Int) 15 = (d1 : Int)) (hd1 : d1 < 16) (hv1 : (u1 : Int) / 16 = (u2 : Int)) (hg1 : 16 ≤ (u1 : Int)) (ha2 : Go.bits .and .u64 (u2 : Int) 15 = (d2 : Int)) (hd2 : d2 < 16) (hv2 : (u2 : Int) / 16 = (u3 : Int)) (hg2 : 16 ≤ (u2 : Int)) :
    Calls Tryd.prog 74 #[.slice none 0 0, .int .u64 u0, .int .i64 16, .bool false, .bool false] w fun e w' => e = .returned (.tuple #[.slice none 0 0, .string ⟨#[hx u3, hx d2, hx d1, hx d0]⟩]) ∧ Below w.heap.size w w' := by
  have hcv : ∀ e0 e1 e2 e3 : UInt8, (convert 48 9 (.slice (some ⟨w.heap.size, 61, none⟩) 4 4)).run Tryd.prog (w.alloc (.cells ((((Tryd.zeroCells115.setIfInBounds 64 (.int .u8 e0.toNat)).setIfInBounds 63 (.int .u8 e1.toNat)).setIfInBounds 62 (.int .u8 e2.toNat)).setIfInBounds 61 (.int .u8 e3.toNat)) 115)) = .ok (.string ⟨#[e3, e2, e1, e0]⟩) (w.alloc (.cells ((((Tryd.zeroCells115.setIfInBounds 64 (.int .u8 e0.toNat)).setIfInBounds 63 (.int .u8 e1.toNat)).setIfInBounds 62 (.int .u8 e2.toNat)).setIfInBounds 61 (.int .u8 e3.toNat)) 115)) := by
    intro e0 e1 e2 e3
    exact run_convert_bytes_back (P := Tryd.prog) _ 48 9 5 ⟨w.heap.size, 61, none⟩ 4 [e3, e2, e1, e0] Tryd.underlying48 Tryd.underlying5 Tryd.underlying9 (fun j hj => by
      have hj0 : j = 0 ∨ j = 1 ∨ j = 2 ∨ j = 3 := by simp at hj; omega
      rcases hj0 with rfl | rfl | rfl | rfl <;> (rw [Lib.add_plain, World.cell?_alloc_new]; rfl))
  have hl' : (u3 : Int) < 16 := by omega
  go_enter Tryd.func74, Tryd.ntmps74
  go_wp2_with (first | (go_at_call 91; refine (pow16 _).mono ?_; rintro e w' ⟨rfl, rfl⟩) | (go_at_call 92; refine (trail16 _ ?_).mono ?_; rotate_left; rintro e w' ⟨rfl, rfl⟩))
  · refine wp_loop_rounds 4 ?_
    rw [rounds_succ]
    go_wp2
    rw [rounds_succ]
    go_wp2
    rw [rounds_succ]
    go_wp2
    rw [rounds_succ]
    go_wp2
    go_ret2
    refine ⟨?_, by repeat (first | exact Below.refl _ _ | apply pw_below_drewN | apply below_drew1 | apply below_alloc)⟩
    have q := digit_at u3 hl
    have q0 := digit_at d0 hd0
    have q1 := digit_at d1 hd1
    have q2 := digit_at d2 hd2
    simp only [digit_at _ hl, digit_at _ hd0, digit_at _ hd1, digit_at _ hd2]
    rfl
  · rw [World.cell?_alloc_old]
    · exact hc
    · exact Nat.ne_of_lt (World.block_lt_of_cell? w ⟨_, 15, none⟩ hc)
end Go.Proofs.YtmhjgjdiifcdlaaDoor.P
