/- Plain arithmetic for prefixes: an address of w bits is a number V below 2^w; its first m bits are V / 2^(w-m). -/
import Derived.Laws.Entries
import Derived.RowKit
import Derived.Lib.BitFns
set_option linter.unusedVariables false
namespace Go.Proofs.YtmhjgjdiifcdlaaDoor.Nat_
open Go.RowKit

theorem w64 {x : Int} (h : -9223372036854775808 ≤ x) (h' : x < 9223372036854775808) : wrap64 x = x := by unfold wrap64; omega

/-- the first m of w bits, the rest 0 -/
def cutN (w m V : Nat) : Nat := V / 2 ^ (w - m) * 2 ^ (w - m)
/-- bit i of w, from the left -/
def bitN (w i V : Nat) : Nat := V / 2 ^ (w - 1 - i) % 2
/-- two numbers agree in just their first n of w bits -/
def Agree (w x y n : Nat) : Prop := n ≤ w ∧ x / 2 ^ (w - n) = y / 2 ^ (w - n) ∧ (n < w → x / 2 ^ (w - n - 1) ≠ y / 2 ^ (w - n - 1))

theorem div_step (V s : Nat) : V / 2 ^ s = 2 * (V / 2 ^ (s + 1)) + V / 2 ^ s % 2 := by
  rw [Nat.pow_succ, ← Nat.div_div_eq_div_mul]
  omega
theorem div_mono {x y s t : Nat} (h : x / 2 ^ s = y / 2 ^ s) (hst : s ≤ t) : x / 2 ^ t = y / 2 ^ t := by
  obtain ⟨d, rfl⟩ : ∃ d, t = s + d := ⟨t - s, by omega⟩
  rw [Nat.pow_add, ← Nat.div_div_eq_div_mul, ← Nat.div_div_eq_div_mul, h]
theorem cut_div (w m V : Nat) : cutN w m V / 2 ^ (w - m) = V / 2 ^ (w - m) := by
  unfold cutN
  exact Nat.mul_div_cancel _ (Nat.two_pow_pos _)
theorem cut_inj {w m x y : Nat} : cutN w m x = cutN w m y ↔ x / 2 ^ (w - m) = y / 2 ^ (w - m) := by
  constructor
  · intro h
    have h2 := congrArg (· / 2 ^ (w - m)) h
    simpa [cut_div] using h2
  · intro h
    unfold cutN
    rw [h]
theorem cut_le (w m V : Nat) : cutN w m V ≤ V := Nat.div_mul_le_self _ _
theorem cut_all (w V : Nat) : cutN w w V = V := by simp [cutN]
theorem cut_cut {w m n V : Nat} (h : m ≤ n) : cutN w m (cutN w n V) = cutN w m V := by
  refine cut_inj.2 (div_mono (s := w - n) ?_ (by omega))
  exact cut_div w n V
theorem agree_unique {w x y n n' : Nat} (h : Agree w x y n) (h' : Agree w x y n') : n = n' := by
  obtain ⟨h1, h2, h3⟩ := h
  obtain ⟨h1', h2', h3'⟩ := h'
  rcases Nat.lt_trichotomy n n' with hlt | rfl | hlt
  · exact absurd (div_mono h2' (by omega)) (h3 (by omega))
  · rfl
  · exact absurd (div_mono h2 (by omega)) (h3' (by omega))
theorem agree_ge {w x y n m : Nat} (h : Agree w x y n) (hm : m ≤ w) : m ≤ n ↔ x / 2 ^ (w - m) = y / 2 ^ (w - m) := by
  obtain ⟨h1, h2, h3⟩ := h
  constructor
  · intro hmn
    exact div_mono h2 (by omega)
  · intro he
    rcases Nat.lt_or_ge n m with hlt | hge
    · exact absurd (div_mono he (by omega)) (h3 (by omega))
    · exact hge

/-! Two halves of 64 bits. -/
theorem hl_div_hi {h l s : Nat} (hl : l < 2 ^ 64) (hs : 64 ≤ s) : (h * 2 ^ 64 + l) / 2 ^ s = h / 2 ^ (s - 64) := by
  obtain ⟨d, rfl⟩ : ∃ d, s = 64 + d := ⟨s - 64, by omega⟩
  rw [Nat.pow_add, ← Nat.div_div_eq_div_mul, show 64 + d - 64 = d from by omega]
  congr 1
  omega
theorem hl_div_lo {h l s : Nat} (hs : s ≤ 64) : (h * 2 ^ 64 + l) / 2 ^ s = h * 2 ^ (64 - s) + l / 2 ^ s := by
  have e : (2 : Nat) ^ 64 = 2 ^ (64 - s) * 2 ^ s := by rw [← Nat.pow_add]; congr 1; omega
  rw [e, ← Nat.mul_assoc, Nat.add_comm, Nat.add_mul_div_right _ _ (Nat.two_pow_pos _), Nat.add_comm]
theorem cut_hi {h l m : Nat} (hl : l < 2 ^ 64) (hm : m ≤ 64) : cutN 128 m (h * 2 ^ 64 + l) = cutN 64 m h * 2 ^ 64 := by
  unfold cutN
  rw [hl_div_hi hl (by omega), show 128 - m - 64 = 64 - m from by omega, show 128 - m = (64 - m) + 64 from by omega, Nat.pow_add, Nat.mul_assoc]
theorem cut_lo {h l m : Nat} (hm : 64 ≤ m) : cutN 128 m (h * 2 ^ 64 + l) = h * 2 ^ 64 + cutN 64 (m - 64) l := by
  unfold cutN
  rw [hl_div_lo (by omega), show 64 - (m - 64) = 128 - m from by omega, Nat.add_mul, Nat.mul_assoc, ← Nat.pow_add, show 64 - (128 - m) + (128 - m) = 64 from by omega]
theorem bit_hi {h l i : Nat} (hl : l < 2 ^ 64) (hi : i < 64) : bitN 128 i (h * 2 ^ 64 + l) = bitN 64 i h := by
  unfold bitN
  rw [hl_div_hi hl (by omega), show 128 - 1 - i - 64 = 64 - 1 - i from by omega]
theorem bit_lo {h l i : Nat} (hi : 64 ≤ i) (hi' : i < 128) : bitN 128 i (h * 2 ^ 64 + l) = bitN 64 (i - 64) l := by
  unfold bitN
  rw [hl_div_lo (by omega), show 64 - 1 - (i - 64) = 128 - 1 - i from by omega]
  obtain ⟨d, hd⟩ : ∃ d, 64 - (128 - 1 - i) = d + 1 := ⟨64 - (128 - 1 - i) - 1, by omega⟩
  rw [hd, Nat.pow_succ, ← Nat.mul_assoc]
  omega

/-! bytes -/
theorem byte_bit {V w j : Nat} (hj : j < 8) (hw : 8 ≤ w) (q : Nat) (hq : 8 * q + 8 ≤ w) : (V / 2 ^ (w - 8 - 8 * q) % 256) / 2 ^ (7 - j) % 2 = bitN w (8 * q + j) V := by
  unfold bitN
  have e : w - 1 - (8 * q + j) = (w - 8 - 8 * q) + (7 - j) := by omega
  rw [e, Nat.pow_add, ← Nat.div_div_eq_div_mul]
  have : ∀ (x s : Nat), s < 8 → x % 256 / 2 ^ s % 2 = x / 2 ^ s % 2 := by
    intro x s hs
    match s, hs with
    | 0, _ => omega
    | 1, _ => omega
    | 2, _ => omega
    | 3, _ => omega
    | 4, _ => omega
    | 5, _ => omega
    | 6, _ => omega
    | 7, _ => omega
  exact this _ _ (by omega)
theorem byte_step (V w q : Nat) (hq : 8 * q + 8 ≤ w) : V / 2 ^ (w - 8 * (q + 1)) = 256 * (V / 2 ^ (w - 8 * q)) + V / 2 ^ (w - 8 - 8 * q) % 256 := by
  have e : w - 8 * q = (w - 8 - 8 * q) + 8 := by omega
  have e2 : w - 8 * (q + 1) = w - 8 - 8 * q := by omega
  rw [e, e2, Nat.pow_add, ← Nat.div_div_eq_div_mul]
  omega

/-! the model's bit operations on numbers -/
theorem bits_nat (op : BinOp) (k : IntKind) (x y : Nat) : True := trivial
end Go.Proofs.YtmhjgjdiifcdlaaDoor.Nat_
