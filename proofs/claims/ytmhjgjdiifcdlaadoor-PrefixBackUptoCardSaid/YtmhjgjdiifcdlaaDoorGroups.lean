/- addr.split, addr.joined, addr.gap: the eight groups of an address. -/
import Derived.Test.YtmhjgjdiifcdlaaDoorGiven
import Derived.RegionTactic
import Derived.ChangeAlike
import Derived.BigRegion
set_option linter.unusedVariables false
namespace Go.Proofs.YtmhjgjdiifcdlaaDoor.P
open Go.RowKit Go.Proofs.YtmhjgjdiifcdlaaDoorW.PrintWords

set_option maxHeartbeats 8000000 in
set_option maxRecDepth 100000 in
theorem split_raw (s : Bool) (hi lo : Nat) (h1 : hi < 18446744073709551616) (h2 : lo < 18446744073709551616) (w : World) :
    Calls Tryd.prog 51 #[.agg #[.bool s, .int .u64 hi, .int .u64 lo]] w fun e w' => e = .returned (.agg #[.int .u16 ((hi : Int) / 281474976710656), .int .u16 (IntKind.u16.wrap ((hi : Int) / 4294967296)), .int .u16 (IntKind.u16.wrap ((hi : Int) / 65536)), .int .u16 (IntKind.u16.wrap (hi : Int)), .int .u16 ((lo : Int) / 281474976710656), .int .u16 (IntKind.u16.wrap ((lo : Int) / 4294967296)), .int .u16 (IntKind.u16.wrap ((lo : Int) / 65536)), .int .u16 (IntKind.u16.wrap (lo : Int))]) ∧ Below w.heap.size w w' := by
  have hu24 := Tryd.underlying24
  go_enter Tryd.func51, Tryd.ntmps51
  go_wp2
  refine wp_loop_rounds 5 ?_
  rw [rounds_succ]
  go_wp2
  rw [rounds_succ]
  go_wp2
  rw [rounds_succ]
  go_wp2
  rw [rounds_succ]
  go_wp2
  rw [rounds_succ]
  go_wp2
  refine bodyPost_ret (by simp [results, go_sem]; try rfl) rfl ?_
  exact ⟨rfl, by repeat (first | exact Below.refl _ _ | apply pw_below_drewN | apply below_drew1 | apply below_alloc)⟩
theorem u16_at (n k : Nat) : IntKind.u16.wrap ((n : Int) / (k : Int)) = ((n / k % 65536 : Nat) : Int) := by
  rw [IntKind.wrap_u16]
  omega
theorem u16_of (n : Nat) : IntKind.u16.wrap (n : Int) = ((n % 65536 : Nat) : Int) := by
  rw [IntKind.wrap_u16]
  omega
/-- the eight groups -/
def grp (hi lo : Nat) : List Nat := [hi / 281474976710656, hi / 4294967296 % 65536, hi / 65536 % 65536, hi % 65536, lo / 281474976710656, lo / 4294967296 % 65536, lo / 65536 % 65536, lo % 65536]
theorem split_calls (s : Bool) (hi lo : Nat) (h1 : hi < 18446744073709551616) (h2 : lo < 18446744073709551616) (w : World) :
    Calls Tryd.prog 51 #[.agg #[.bool s, .int .u64 hi, .int .u64 lo]] w fun e w' => e = .returned (.agg ((grp hi lo).map fun (n : Nat) => Value.int .u16 (n : Int)).toArray) ∧ Below w.heap.size w w' := by
  refine (split_raw s hi lo h1 h2 w).mono fun e w' ⟨he, hb⟩ => ⟨?_, hb⟩
  have a1 := u16_at hi 4294967296
  have a2 := u16_at hi 65536
  have a3 := u16_of hi
  have b1 := u16_at lo 4294967296
  have b2 := u16_at lo 65536
  have b3 := u16_of lo
  rw [he]
  rw [show ((4294967296 : Nat) : Int) = 4294967296 from rfl] at a1 b1
  rw [show ((65536 : Nat) : Int) = 65536 from rfl] at a2 b2
  rw [a1, a2, a3, b1, b2, b3]
  rfl

def jn (a b c d : Int) : Int := Go.bits .or .u64 (IntKind.u64.wrap (Go.bits .or .u64 (IntKind.u64.wrap (Go.bits .or .u64 (IntKind.u64.wrap (Go.bits .or .u64 0 (IntKind.u64.wrap a) * 65536)) (IntKind.u64.wrap b) * 65536)) (IntKind.u64.wrap c) * 65536)) (IntKind.u64.wrap d)
set_option maxHeartbeats 8000000 in
set_option maxRecDepth 100000 in
theorem joined_raw (a b c d e f g h : Int) (w : World) :
    Calls Tryd.prog 68 #[.agg #[.int .u16 a, .int .u16 b, .int .u16 c, .int .u16 d, .int .u16 e, .int .u16 f, .int .u16 g, .int .u16 h]] w fun ee w' => ee = .returned (.agg #[.bool true, .int .u64 (jn a b c d), .int .u64 (jn e f g h)]) ∧ Below w.heap.size w w' := by
  have hu24 := Tryd.underlying24
  go_enter Tryd.func68, Tryd.ntmps68
  go_wp2
  refine wp_loop_rounds 5 ?_
  rw [rounds_succ]
  go_wp2
  go_region
  go_wp2
  go_region
  go_wp2
  rw [rounds_succ]
  go_wp2
  go_region
  go_wp2
  go_region
  go_wp2
  rw [rounds_succ]
  go_wp2
  go_region
  go_wp2
  go_region
  go_wp2
  rw [rounds_succ]
  go_wp2
  go_region
  go_wp2
  go_region
  go_wp2
  rw [rounds_succ]
  go_wp2
  refine bodyPost_ret (by simp [results, go_sem]; try rfl) rfl ?_
  exact ⟨rfl, by repeat (first | exact Below.refl _ _ | apply pw_below_drewN | apply below_drew1 | apply below_alloc)⟩
theorem or_step (x a : Nat) (hx : x < 281474976710656) (ha : a < 65536) : Go.bits .or .u64 (IntKind.u64.wrap ((x : Int) * 65536)) (IntKind.u64.wrap (a : Int)) = ((x * 65536 + a : Nat) : Int) := by
  have e1 : IntKind.u64.wrap ((x : Int) * 65536) = ((x * 65536 : Nat) : Int) := by rw [IntKind.wrap_u64]; omega
  have e2 : IntKind.u64.wrap (a : Int) = (a : Int) := by rw [IntKind.wrap_u64]; omega
  rw [e1, e2, bits_or_u64_nat _ _ (by omega) (by omega)]
  have h : x * 65536 ||| a = x * 65536 + a := by
    have := Nat.two_pow_add_eq_or_of_lt (i := 16) (b := a) (by omega) x
    rw [show (2 : Nat) ^ 16 = 65536 from by decide] at this
    rw [Nat.mul_comm x 65536]
    exact this.symm
  rw [h]
theorem jn_eq (a b c d : Nat) (ha : a < 65536) (hb : b < 65536) (hc : c < 65536) (hd : d < 65536) : jn a b c d = ((((a * 65536 + b) * 65536 + c) * 65536 + d : Nat) : Int) := by
  unfold jn
  have e0 : Go.bits .or .u64 0 (IntKind.u64.wrap (a : Int)) = (a : Int) := by
    have e2 : IntKind.u64.wrap (a : Int) = (a : Int) := by rw [IntKind.wrap_u64]; omega
    rw [e2, show (0 : Int) = ((0 : Nat) : Int) from rfl, bits_or_u64_nat _ _ (by omega) (by omega)]
    simp
  rw [e0, or_step a b (by omega) hb, or_step _ c (by omega) hc, or_step _ d (by omega) hd]
end Go.Proofs.YtmhjgjdiifcdlaaDoor.P
