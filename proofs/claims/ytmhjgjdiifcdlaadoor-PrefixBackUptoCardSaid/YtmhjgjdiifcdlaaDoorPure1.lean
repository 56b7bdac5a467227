/- What the printed functions of prefixes come to, in plain numbers. -/
import Derived.Test.YtmhjgjdiifcdlaaDoorNat
import Derived.Test.YtmhjgjdiifcdlaaDoorPPrefixOf
import Derived.Test.YtmhjgjdiifcdlaaDoorPPrefixValid
import Derived.Test.YtmhjgjdiifcdlaaDoorPPrefixBit
import Derived.Laws.Bits64b
import Derived.Laws.BitsAllLaws
set_option linter.unusedVariables false
namespace Go.Proofs.YtmhjgjdiifcdlaaDoor.Pure1
open Go.RowKit Go.Proofs.YtmhjgjdiifcdlaaDoor.P Go.Proofs.YtmhjgjdiifcdlaaDoor.Nat_ Go.Proofs.YtmhjgjdiifcdlaaDoorW.PrintWords Go.Proofs.YtmhjgjdiifcdlaaDoorW.PrintMore

def validN (six : Bool) (h l : Nat) : Bool := six || (decide (h = 0) && decide (l < 4294967296))
def widthN (six : Bool) : Nat := if six then 128 else 32
def valN (six : Bool) (h l : Nat) : Nat := if six then h * 2 ^ 64 + l else l
def cutH (six : Bool) (h m : Nat) : Nat := if six then cutN 64 (min m 64) h else 0
def cutL (six : Bool) (l m : Nat) : Nat := if six then cutN 64 (m - 64) l else cutN 32 m l
def B64 (n : Nat) : Prop := n < 2 ^ 64

theorem val_lt {six : Bool} {h l : Nat} (hh : B64 h) (hl : B64 l) (hv : validN six h l = true) : valN six h l < 2 ^ widthN six := by
  unfold B64 at hh hl
  cases six with
  | true => simp only [valN, widthN, if_true]; omega
  | false => simp [valN, widthN, validN] at hv ⊢; omega
theorem val_inj {six : Bool} {h l h' l' : Nat} (hl : B64 l) (hl' : B64 l') (hv : validN six h l = true) (hv' : validN six h' l' = true) : valN six h l = valN six h' l' ↔ h = h' ∧ l = l' := by
  unfold B64 at hl hl'
  cases six with
  | true => simp only [valN, if_true]; omega
  | false => simp [valN, validN] at hv hv' ⊢; omega
theorem val_cut {six : Bool} {h l m : Nat} (hl : B64 l) (hm : m ≤ widthN six) : valN six (cutH six h m) (cutL six l m) = cutN (widthN six) m (valN six h l) := by
  unfold B64 at hl
  cases six with
  | true =>
    simp only [valN, cutH, cutL, widthN, if_true]
    rcases Nat.le_total m 64 with hm' | hm'
    · rw [cut_hi hl hm', show min m 64 = m from by omega, show m - 64 = 0 from by omega]
      have : cutN 64 0 l = 0 := by unfold cutN; rw [Nat.div_eq_of_lt (by simpa using hl), Nat.zero_mul]
      omega
    · rw [cut_lo hm', show min m 64 = 64 from by omega, cut_all]
  | false => simp [valN, cutL, widthN]
theorem cutL_lt {six : Bool} {l m : Nat} (hl : B64 l) : B64 (cutL six l m) := by
  unfold B64 cutL at *
  split
  · exact Nat.lt_of_le_of_lt (cut_le _ _ _) hl
  · exact Nat.lt_of_le_of_lt (cut_le _ _ _) hl
theorem cutH_lt {six : Bool} {h m : Nat} (hh : B64 h) : B64 (cutH six h m) := by
  unfold B64 cutH at *
  split
  · exact Nat.lt_of_le_of_lt (cut_le _ _ _) hh
  · omega
theorem cut_valid {six : Bool} {h l m : Nat} (hv : validN six h l = true) : validN six (cutH six h m) (cutL six l m) = true := by
  cases six with
  | true => rfl
  | false =>
    simp [validN, cutH, cutL] at hv ⊢
    exact Nat.lt_of_le_of_lt (cut_le _ _ _) hv.2

/-! ### the program -/
theorem addr_Valid_is (six : Bool) (h l : Nat) : addr_Valid.f six h l = some (validN six h l) := by
  unfold addr_Valid.f validN
  cases six with
  | true => simp
  | false =>
    rw [if_neg (by decide)]
    by_cases h0 : h = 0
    · subst h0
      rw [if_pos (by rfl)]
      by_cases hl : l < 4294967296
      · rw [decide_eq_true (by omega), decide_eq_true hl]; rfl
      · rw [decide_eq_false (by omega), decide_eq_false hl]; rfl
    · rw [if_neg (by omega), decide_eq_false h0]; rfl
theorem width_is (six : Bool) (h l : Int) : prefix_width.f six h l = some (widthN six : Int) := by
  unfold prefix_width.f widthN
  cases six <;> simp
theorem first_is (n : Nat) (hn : B64 n) (m : Int) (hm0 : -1000 ≤ m) (hm1 : m ≤ 1000) (w : Nat) (hw : w ≤ 64) : prefix_first.f n m w = some ((cutN w (min m.toNat w) n : Nat) : Int) := by
  unfold B64 at hn
  have e : wrap64 ((w : Int) - mn (mx m 0) w) = ((w - min m.toNat w : Nat) : Int) := by
    unfold mn mx
    rw [w64] <;> (repeat' split) <;> omega
  unfold prefix_first.f
  rw [e, if_pos (by omega)]
  unfold shl shr
  have e2 : min ((w - min m.toNat w : Nat) : Int).toNat IntKind.u64.bits = w - min m.toNat w := by
    show min _ 64 = _
    omega
  rw [e2, IntKind.wrap_u64]
  have h1 := cut_le w (min m.toNat w) n
  unfold cutN at h1 ⊢
  generalize w - min m.toNat w = s at *
  have hx : ((n : Int) / 2 ^ s * 2 ^ s) = ((n / 2 ^ s * 2 ^ s : Nat) : Int) := by
    rw [Int.natCast_mul, Int.natCast_ediv, Int.natCast_pow]; rfl
  rw [hx]
  generalize n / 2 ^ s * 2 ^ s = y at *
  congr 1
  omega

theorem cut_is (six : Bool) (h l : Nat) (hh : B64 h) (hl : B64 l) (m : Int) (hm0 : 0 ≤ m) (hm1 : m ≤ widthN six) :
    prefix_cut.f six h l m = some (six, (cutH six h m.toNat : Int), (cutL six l m.toNat : Int)) := by
  unfold prefix_cut.f
  cases six with
  | true =>
    have hm2 : m ≤ 128 := by simpa [widthN] using hm1
    rw [if_pos rfl, w64 (by omega) (by omega)]
    have e1 := first_is h hh m (by omega) (by omega) 64 (by omega)
    have e2 := first_is l hl (m - 64) (by omega) (by omega) 64 (by omega)
    rw [show ((64 : Nat) : Int) = 64 from rfl] at e1 e2
    rw [e1, e2]
    simp only [Option.bind_some, cutH, cutL, if_true]
    rw [show min (m - 64).toNat 64 = m.toNat - 64 from by omega]
  | false =>
    have hm2 : m ≤ 32 := by simpa [widthN] using hm1
    rw [if_neg (by decide)]
    have e1 := first_is l hl m (by omega) (by omega) 32 (by omega)
    rw [show ((32 : Nat) : Int) = 32 from rfl] at e1
    rw [e1]
    simp only [Option.bind_some, cutH, cutL]
    rw [show min m.toNat 32 = m.toNat from by omega]
    rfl

def validP (six : Bool) (h l : Nat) (m : Int) : Bool := validN six h l && (decide (0 ≤ m) && (decide (m ≤ widthN six) && (decide (cutH six h m.toNat = h) && decide (cutL six l m.toNat = l))))
theorem beq_cast (a b : Nat) : ((a : Int) == (b : Int)) = decide (a = b) := by
  rw [Bool.eq_iff_iff]; simp only [beq_iff_eq, decide_eq_true_eq]; omega
theorem Valid_is (six : Bool) (h l : Nat) (hh : B64 h) (hl : B64 l) (m : Int) : prefix_Valid.f six h l m = some (validP six h l m) := by
  unfold prefix_Valid.f validP
  rw [addr_Valid_is, Option.bind_some]
  cases hv : validN six h l with
  | false => rfl
  | true =>
    rw [if_pos rfl]
    by_cases h0 : m ≥ 0
    · rw [if_pos h0, width_is, Option.bind_some, decide_eq_true (p := 0 ≤ m) h0]
      by_cases h1 : m ≤ widthN six
      · rw [if_pos h1, cut_is six h l hh hl m h0 h1, decide_eq_true h1]
        simp only [Option.bind_some, beq_cast, beq_self_eq_true, Bool.true_and]
      · rw [if_neg h1, decide_eq_false h1]; rfl
    · rw [if_neg h0, decide_eq_false (p := 0 ≤ m) h0]; rfl

def ofP (six : Bool) (h l : Nat) (m : Int) : Bool × Int × Int × Int × Int :=
  if validN six h l && (decide (0 ≤ m) && decide (m ≤ widthN six)) then (six, (cutH six h m.toNat : Int), (cutL six l m.toNat : Int), m, 0) else (false, 0, 0, 0, 1)
theorem Of_is (six : Bool) (h l : Nat) (hh : B64 h) (hl : B64 l) (m : Int) : prefix_Of.f six h l m = some (ofP six h l m) := by
  unfold prefix_Of.f ofP
  rw [addr_Valid_is, Option.bind_some]
  cases hv : validN six h l with
  | false => rfl
  | true =>
    rw [if_pos rfl]
    by_cases h0 : m < 0
    · rw [if_pos h0, decide_eq_false (p := 0 ≤ m) (by omega)]; rfl
    · rw [if_neg h0, width_is, Option.bind_some, decide_eq_true (p := 0 ≤ m) (by omega)]
      by_cases h1 : m > widthN six
      · rw [if_pos h1, decide_eq_false (p := m ≤ widthN six) (by omega)]; rfl
      · rw [if_neg h1, cut_is six h l hh hl m (by omega) (by omega), decide_eq_true (p := m ≤ widthN six) (by omega)]; rfl

def bitP (six : Bool) (h l : Nat) (i : Int) : Int := if validN six h l && (decide (0 ≤ i) && decide (i < widthN six)) then (bitN (widthN six) i.toNat (valN six h l) : Int) else 0
theorem and_one (x : Nat) (hx : x < 2 ^ 64) : Go.bits .and .u64 (x : Int) 1 = ((x % 2 : Nat) : Int) := by
  have := bits_and_u64_nat x 1 hx (by omega)
  rw [show ((1 : Nat) : Int) = 1 from rfl] at this
  rw [this, Nat.and_one_is_mod]
theorem shr_nat (x : Nat) (s : Int) (h0 : 0 ≤ s) (h1 : s ≤ 64) : shr .u64 (x : Int) s = ((x / 2 ^ s.toNat : Nat) : Int) := by
  unfold shr
  have : min s.toNat IntKind.u64.bits = s.toNat := by show min _ 64 = _; omega
  rw [this, Int.natCast_ediv, Int.natCast_pow]; rfl
theorem Bit_ev (six : Bool) (h l : Nat) (hh : B64 h) (hl : B64 l) (i : Int) (hi0 : -9223372036854775808 ≤ i) (hi1 : i < 9223372036854775808) : Ev (fun k => prefix_Bit.f k six h l i) (bitP six h l i) := by
  refine ⟨1, fun k hk => ?_⟩
  obtain ⟨k, rfl⟩ : ∃ m, k = m + 1 := ⟨k - 1, by omega⟩
  show prefix_Bit.f (k + 1) six h l i = _
  unfold prefix_Bit.f bitP
  rw [addr_Valid_is, Option.bind_some]
  cases hv : validN six h l with
  | false => rfl
  | true =>
    rw [if_pos rfl]
    by_cases h0 : i < 0
    · rw [if_pos h0, decide_eq_false (p := 0 ≤ i) (by omega)]; rfl
    · rw [if_neg h0, width_is, Option.bind_some, decide_eq_true (p := 0 ≤ i) (by omega)]
      by_cases h1 : i ≥ widthN six
      · rw [decide_eq_true h1, decide_eq_false (p := i < widthN six) (by omega)]; rfl
      · rw [decide_eq_false h1, decide_eq_true (p := i < widthN six) (by omega)]
        simp only [prefix_Bit.j0]
        unfold B64 at hh hl
        have hsm : ∀ (x s : Nat), x < 2 ^ 64 → x / 2 ^ s < 2 ^ 64 := fun x s hx => Nat.lt_of_le_of_lt (Nat.div_le_self _ _) hx
        cases six with
        | true =>
          have h2 : i < 128 := by simp [widthN] at h1; omega
          rw [if_neg (by decide), if_pos rfl]
          simp only [widthN, valN, if_true, Bool.and_self]
          by_cases h3 : i < 64
          · rw [if_pos h3, w64 (by omega) (by omega), if_pos (by omega), shr_nat _ _ (by omega) (by omega), and_one _ (hsm _ _ hh), w64 (by omega) (by omega), bit_hi hl (by omega)]
            unfold bitN
            rw [show (63 - i).toNat = 64 - 1 - i.toNat from by omega]
          · rw [if_neg h3, w64 (by omega) (by omega), if_pos (by omega), shr_nat _ _ (by omega) (by omega), and_one _ (hsm _ _ hl), w64 (by omega) (by omega), bit_lo (by omega) (by omega)]
            unfold bitN
            rw [show (127 - i).toNat = 64 - 1 - (i.toNat - 64) from by omega]
        | false =>
          have h2 : i < 32 := by simp [widthN] at h1; omega
          rw [if_neg (by decide), if_neg (by decide)]
          simp only [widthN, valN, Bool.and_self, if_true]
          rw [w64 (by omega) (by omega), if_pos (by omega), shr_nat _ _ (by omega) (by omega), and_one _ (hsm _ _ hl), w64 (by omega) (by omega)]
          unfold bitN
          rw [show (31 - i).toNat = 32 - 1 - i.toNat from by omega]
          rfl
end Go.Proofs.YtmhjgjdiifcdlaaDoor.Pure1
