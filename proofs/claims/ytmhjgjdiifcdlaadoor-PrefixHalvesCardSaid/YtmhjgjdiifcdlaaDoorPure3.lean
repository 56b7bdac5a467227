/- What the reference's functions of prefixes come to, in plain numbers. -/
import Derived.Test.YtmhjgjdiifcdlaaDoorPure1
import Derived.Test.YtmhjgjdiifcdlaaDoorPRef04Of
import Derived.Test.YtmhjgjdiifcdlaaDoorPRef04Valid
set_option linter.unusedVariables false
namespace Go.Proofs.YtmhjgjdiifcdlaaDoor.Pure1
open Go.RowKit Go.Proofs.YtmhjgjdiifcdlaaDoor.P Go.Proofs.YtmhjgjdiifcdlaaDoor.Nat_ Go.Proofs.YtmhjgjdiifcdlaaDoorW.PrintWords Go.Proofs.YtmhjgjdiifcdlaaDoorW.PrintMore

theorem rValid_is (six : Bool) (h l : Nat) : crosswayref03_Valid.f six h l = some (validN six h l) := addr_Valid_is six h l
theorem rWidth_is (six : Bool) (h l : Int) : crosswayref04_Width.f six h l = some (widthN six : Int) := width_is six h l

theorem getD_left (a b : List Int) (i : Nat) (h : i < a.length) : (a ++ b).getD i 0 = a.getD i 0 := by
  rw [List.getD_eq_getElem?_getD, List.getD_eq_getElem?_getD, List.getElem?_append_left h]
theorem getD_right (a b : List Int) (i : Nat) (h : a.length ≤ i) : (a ++ b).getD i 0 = b.getD (i - a.length) 0 := by
  rw [List.getD_eq_getElem?_getD, List.getD_eq_getElem?_getD, List.getElem?_append_right h]
/-- the last c bytes of a number, the greatest ahead -/
def be : Nat → Nat → List Int
  | 0, _ => []
  | c + 1, n => ((n / 256 ^ c % 256 : Nat) : Int) :: be c n
theorem be_length (c n : Nat) : (be c n).length = c := by
  induction c with
  | zero => rfl
  | succ c ih => simp [be, ih]
theorem be_get (n : Nat) : ∀ (c i : Nat), i < c → (be c n).getD i 0 = ((n / 256 ^ (c - 1 - i) % 256 : Nat) : Int) := by
  intro c
  induction c with
  | zero => intro i h; omega
  | succ c ih =>
    intro i h
    cases i with
    | zero => simp [be]
    | succ i =>
      rw [be, List.getD_cons_succ, ih i (by omega), show c + 1 - 1 - (i + 1) = c - 1 - i from by omega]

theorem put_l1 (n : Nat) (hn : B64 n) (b : List Int) (hb : b.length < 100) (i : Nat) (hi : i < 8) (r : List Int)
    (h : Ev (fun k => crosswayref01_Put.l0 k n (b ++ [((n / 256 ^ i % 256 : Nat) : Int)]) ((i : Int) - 1)) r) :
    ∀ (d j : Nat), j + d = i → Ev (fun k => crosswayref01_Put.l1 k n b i ((n / 256 ^ j : Nat) : Int) j) r := by
  intro d
  unfold B64 at hn
  induction d with
  | zero =>
    intro j hj
    refine Ev.step (fun k => ?_) h
    simp only [crosswayref01_Put.l1]
    obtain rfl : j = i := by omega
    rw [if_neg (by omega), if_pos (by omega)]
    have e : ∀ y : Nat, Int.tmod (y : Int) 256 % 256 = ((y % 256 : Nat) : Int) := fun y => by
      rw [Int.tmod_eq_emod_of_nonneg (Int.natCast_nonneg _)]; omega
    rw [e, w64 (by omega) (by omega)]
  | succ d ih =>
    intro j hj
    refine Ev.step (fun k => ?_) (ih (j + 1) (by omega))
    simp only [crosswayref01_Put.l1]
    have hle : n / 256 ^ j ≤ n := Nat.div_le_self _ _
    rw [if_pos (by omega), w64 (by omega) (by omega), IntKind.wrap_u64, Int.tdiv_eq_ediv_of_nonneg (Int.natCast_nonneg _)]
    rw [Nat.pow_succ, ← Nat.div_div_eq_div_mul]
    congr 1
    · generalize n / 256 ^ j = y at *
      omega
theorem put_l0 (n : Nat) (hn : B64 n) : ∀ (c : Nat) (b : List Int), c ≤ 8 → b.length + c < 100 → Ev (fun k => crosswayref01_Put.l0 k n b ((c : Int) - 1)) (b ++ be c n) := by
  intro c
  induction c with
  | zero =>
    intro b _ _
    refine ⟨1, fun k hk => ?_⟩
    obtain ⟨k, rfl⟩ : ∃ m, k = m + 1 := ⟨k - 1, by omega⟩
    simp only [crosswayref01_Put.l0]
    rw [if_neg (by omega)]
    simp [be]
  | succ c ih =>
    intro b hc hb
    have h1 := ih (b ++ [((n / 256 ^ c % 256 : Nat) : Int)]) (by omega) (by simp; omega)
    have h2 := put_l1 n hn b (by omega) c (by omega) _ h1 c 0 (by omega)
    rw [Nat.pow_zero, Nat.div_one] at h2
    rw [show b ++ be (c + 1) n = b ++ [((n / 256 ^ c % 256 : Nat) : Int)] ++ be c n from by simp [be]]
    refine Ev.step (fun k => ?_) h2
    simp only [crosswayref01_Put.l0]
    rw [if_pos (by omega)]
    rw [show ((c + 1 : Nat) : Int) - 1 = (c : Int) from by omega]
    rfl
theorem Put_ev (n : Nat) (hn : B64 n) (c : Nat) (b : List Int) (hc : c ≤ 8) (hb : b.length < 50) : Ev (fun k => crosswayref01_Put.f k b c n) (b ++ be c n) := by
  refine Ev.congr (fun k => ?_) (put_l0 n hn c b hc (by omega))
  unfold crosswayref01_Put.f
  rw [if_pos (by simp; omega)]
  have e : mn (mx (c : Int) 0) 8 - 1 = (c : Int) - 1 := by
    unfold mn mx; split <;> split <;> omega
  rw [e]
  rfl

def bytesN (six : Bool) (h l : Nat) : List Int := if six then be 8 h ++ be 8 l else be 4 l
theorem Bytes_ev (six : Bool) (h l : Nat) (hh : B64 h) (hl : B64 l) (hv : validN six h l = true) : Ev (fun k => crosswayref03_Bytes.f k six h l) (bytesN six h l) := by
  cases six with
  | true =>
    have h1 := Put_ev h hh 8 [] (by omega) (by simp)
    have h2 := Put_ev l hl 8 (be 8 h) (by omega) (by rw [be_length]; omega)
    refine Ev.congr (fun k => ?_) (Ev.bind (f := fun k t => crosswayref01_Put.f k t 8 l) h1 h2)
    unfold crosswayref03_Bytes.f
    rw [rValid_is, hv, Option.bind_some, if_pos rfl, if_pos rfl]
    simp
  | false =>
    have h1 := Put_ev l hl 4 [] (by omega) (by simp)
    refine Ev.congr (fun k => ?_) h1
    unfold crosswayref03_Bytes.f
    rw [rValid_is, hv, Option.bind_some, if_pos rfl, if_neg (by decide)]
    simp
theorem bytesN_length (six : Bool) (h l : Nat) : 8 * (bytesN six h l).length = widthN six := by
  cases six <;> simp [bytesN, widthN, be_length]
theorem bytesN_get (six : Bool) (h l : Nat) (hl : B64 l) (q : Nat) (hq : 8 * q + 8 ≤ widthN six) : (bytesN six h l).getD q 0 = ((valN six h l / 2 ^ (widthN six - 8 - 8 * q) % 256 : Nat) : Int) := by
  unfold B64 at hl
  have e256 : ∀ s, (256 : Nat) ^ s = 2 ^ (8 * s) := fun s => by rw [show (256 : Nat) = 2 ^ 8 from rfl, ← Nat.pow_mul]
  cases six with
  | true =>
    simp only [bytesN, widthN, valN, if_true] at hq ⊢
    rcases Nat.lt_or_ge q 8 with h8 | h8
    · rw [getD_left _ _ _ (by rw [be_length]; exact h8), be_get _ _ _ h8, e256, hl_div_hi hl (by omega)]
      rw [show 8 * (8 - 1 - q) = 128 - 8 - 8 * q - 64 from by omega]
    · rw [getD_right _ _ _ (by rw [be_length]; exact h8), be_length, be_get _ _ _ (by omega), e256, hl_div_lo (by omega)]
      rw [show 8 * (8 - 1 - (q - 8)) = 128 - 8 - 8 * q from by omega]
      obtain ⟨d, hd⟩ : ∃ d, 64 - (128 - 8 - 8 * q) = d + 8 := ⟨64 - (128 - 8 - 8 * q) - 8, by omega⟩
      rw [hd, Nat.pow_add, ← Nat.mul_assoc]
      congr 1
      omega
  | false =>
    simp only [bytesN, widthN, valN] at hq ⊢
    have hq' : 8 * q + 8 ≤ 32 := by simpa using hq
    simp only [Bool.false_eq_true, if_false]
    rw [be_get _ _ _ (by omega), e256, show 8 * (4 - 1 - q) = 32 - 8 - 8 * q from by omega]

theorem bit_l0 (c : Nat) (hc : c < 256) : ∀ (d j : Nat), j + d = 7 → Ev (fun k => crosswayref04_Bit.l0 k c j) ((c / 2 ^ d % 2 : Nat) : Int) := by
  intro d
  induction d generalizing c with
  | zero =>
    intro j hj
    refine ⟨1, fun k hk => ?_⟩
    obtain ⟨k, rfl⟩ : ∃ m, k = m + 1 := ⟨k - 1, by omega⟩
    simp only [crosswayref04_Bit.l0]
    rw [if_neg (by omega), Int.tmod_eq_emod_of_nonneg (Int.natCast_nonneg _)]
    simp
  | succ d ih =>
    intro j hj
    have h := ih (c / 2) (by omega) (j + 1) (by omega)
    rw [show c / 2 ^ (d + 1) = c / 2 / 2 ^ d from by rw [Nat.pow_succ, Nat.mul_comm, Nat.div_div_eq_div_mul]]
    refine Ev.step (fun k => ?_) h
    simp only [crosswayref04_Bit.l0]
    rw [if_pos (by omega), w64 (x := (j : Int) + 1) (by omega) (by omega), Int.tdiv_eq_ediv_of_nonneg (Int.natCast_nonneg _), w64 (by omega) (by omega)]
    congr 1
theorem rBit_ev (six : Bool) (h l : Nat) (hh : B64 h) (hl : B64 l) (i : Int) (hi0 : -9223372036854775808 ≤ i) (hi1 : i < 9223372036854775808) : Ev (fun k => crosswayref04_Bit.f k six h l i) (bitP six h l i) := by
  unfold bitP
  cases hv : validN six h l with
  | false =>
    refine ⟨1, fun k hk => ?_⟩
    obtain ⟨k, rfl⟩ : ∃ m, k = m + 1 := ⟨k - 1, by omega⟩
    show crosswayref04_Bit.f (k + 1) six h l i = _
    unfold crosswayref04_Bit.f
    rw [rValid_is, Option.bind_some, hv]
    rfl
  | true =>
    by_cases h0 : i < 0
    · refine ⟨1, fun k hk => ?_⟩
      obtain ⟨k, rfl⟩ : ∃ m, k = m + 1 := ⟨k - 1, by omega⟩
      show crosswayref04_Bit.f (k + 1) six h l i = _
      unfold crosswayref04_Bit.f
      rw [rValid_is, Option.bind_some, hv, if_pos rfl, if_pos h0, decide_eq_false (p := 0 ≤ i) (by omega)]
      rfl
    · by_cases h1 : i ≥ widthN six
      · refine ⟨1, fun k hk => ?_⟩
        obtain ⟨k, rfl⟩ : ∃ m, k = m + 1 := ⟨k - 1, by omega⟩
        show crosswayref04_Bit.f (k + 1) six h l i = _
        unfold crosswayref04_Bit.f
        rw [rValid_is, Option.bind_some, hv, if_pos rfl, if_neg h0, rWidth_is, Option.bind_some, decide_eq_true h1, decide_eq_false (p := i < widthN six) (by omega), decide_eq_true (p := 0 ≤ i) (by omega)]
        rfl
      · rw [decide_eq_true (p := i < widthN six) (by omega), decide_eq_true (p := 0 ≤ i) (by omega)]
        simp only [Bool.and_self, if_true]
        obtain ⟨i, rfl⟩ := Int.eq_ofNat_of_zero_le (show 0 ≤ i by omega)
        have hw : widthN six = 32 ∨ widthN six = 128 := by cases six <;> simp [widthN]
        have hq : 8 * (i / 8) + 8 ≤ widthN six := by omega
        have hB := Bytes_ev six h l hh hl hv
        have hlen := bytesN_length six h l
        have hget := bytesN_get six h l hl (i / 8) hq
        have hb := bit_l0 (valN six h l / 2 ^ (widthN six - 8 - 8 * (i / 8)) % 256) (by omega) (7 - i % 8) (i % 8) (by omega)
        rw [byte_bit (V := valN six h l) (w := widthN six) (j := i % 8) (by omega) (by omega) (i / 8) hq, show 8 * (i / 8) + i % 8 = i from by omega] at hb
        refine Ev.congr (fun k => ?_) (Ev.step (g := fun k => crosswayref04_Bit.j0 k i false six h l) (fun k => ?_) (Ev.bind (f := fun k t => if 0 ≤ (wrap64 (Int.tdiv (i : Int) 8)) then (if (wrap64 (Int.tdiv (i : Int) 8)) < (t.length : Int) then (crosswayref04_Bit.l0 k (wrap64 (rd t (wrap64 (Int.tdiv (i : Int) 8)))) (Int.tmod (i : Int) 8)) else none) else none) hB ?_))
        · unfold crosswayref04_Bit.f
          rw [rValid_is, Option.bind_some, hv, if_pos rfl, if_neg h0, rWidth_is, Option.bind_some, decide_eq_false h1]
        · simp only [crosswayref04_Bit.j0]
          rw [if_neg (by decide)]
        · refine Ev.congr (fun k => ?_) hb
          have e1 : wrap64 (Int.tdiv (i : Int) 8) = ((i / 8 : Nat) : Int) := by
            rw [Int.tdiv_eq_ediv_of_nonneg (Int.natCast_nonneg _), w64 (by omega) (by omega)]; omega
          have e2 : Int.tmod (i : Int) 8 = ((i % 8 : Nat) : Int) := by
            rw [Int.tmod_eq_emod_of_nonneg (Int.natCast_nonneg _)]; omega
          rw [e1, e2, if_pos (by omega), if_pos (by omega)]
          have e3 : rd (bytesN six h l) ((i / 8 : Nat) : Int) = ((valN six h l / 2 ^ (widthN six - 8 - 8 * (i / 8)) % 256 : Nat) : Int) := hget
          rw [e3, w64 (by omega) (by omega)]

/-- bits that are told make the number whose bits they are -/
theorem of_l0 (six : Bool) (L : List Int) (H Lo : Nat) (hH : B64 H) (hLo : B64 Lo) (hlen : L.length = widthN six)
    (hb : ∀ i, i < widthN six → L.getD i 0 = (bitN (widthN six) i (valN six H Lo) : Int)) (h0 : six = false → H = 0 ∧ Lo < 2 ^ 32) :
    ∀ (d j : Nat), j + d = widthN six → Ev (fun k => crosswayref04_of.l0 k six L j six (if six = true then H / 2 ^ (64 - j) else 0 : Nat) (if six = true then (if j ≤ 64 then 0 else Lo / 2 ^ (128 - j)) else Lo / 2 ^ (32 - j) : Nat)) (six, (H : Int), (Lo : Int)) := by
  intro d
  unfold B64 at hH hLo
  induction d with
  | zero =>
    intro j hj
    refine ⟨1, fun k hk => ?_⟩
    obtain ⟨k, rfl⟩ : ∃ m, k = m + 1 := ⟨k - 1, by omega⟩
    simp only [crosswayref04_of.l0]
    rw [if_neg (by omega)]
    cases six with
    | true =>
      obtain rfl : j = 128 := by simpa [widthN] using hj
      simp
    | false =>
      obtain rfl : j = 32 := by simpa [widthN] using hj
      simp [(h0 rfl).1]
  | succ d ih =>
    intro j hj
    refine Ev.step (fun k => ?_) (ih (j + 1) (by omega))
    simp only [crosswayref04_of.l0]
    have hbj := hb j (by omega)
    have e3 : rd L (j : Int) = (bitN (widthN six) j (valN six H Lo) : Int) := hbj
    have hj' : j < 128 := by cases six <;> simp [widthN] at hj <;> omega
    rw [if_pos (by omega), e3, w64 (x := (j : Int) + 1) (by omega) (by omega)]
    have hbit : bitN (widthN six) j (valN six H Lo) < 2 := by unfold bitN; omega
    have hs : ∀ (X w : Nat), X < 2 ^ 64 → j < w → IntKind.u64.wrap (IntKind.u64.wrap (((X / 2 ^ (w - j) : Nat) : Int) * 2) + IntKind.u64.wrap ((bitN w j X : Nat) : Int)) = ((X / 2 ^ (w - (j + 1)) : Nat) : Int) := by
      intro X w hX hw
      have hst := div_step X (w - (j + 1))
      rw [show w - (j + 1) + 1 = w - j from by omega] at hst
      have hle : X / 2 ^ (w - (j + 1)) ≤ X := Nat.div_le_self _ _
      have hbb : bitN w j X = X / 2 ^ (w - (j + 1)) % 2 := by unfold bitN; rw [show w - 1 - j = w - (j + 1) from by omega]
      rw [IntKind.wrap_u64, IntKind.wrap_u64, IntKind.wrap_u64, hbb]
      generalize X / 2 ^ (w - (j + 1)) = y at *
      generalize X / 2 ^ (w - j) = z at *
      omega
    cases six with
    | true =>
      simp only [if_true, valN, widthN] at *
      by_cases h64 : j < 64
      · rw [if_pos (by omega), if_pos (by omega), bit_hi hLo h64]
        have := hs H 64 hH h64
        rw [this, if_pos (by omega), if_pos (by omega)]
        rfl
      · rw [if_neg (by omega), if_pos (by omega), bit_lo (by omega) (by omega)]
        have := hs Lo 128 hLo (by omega)
        have e5 : bitN 64 (j - 64) Lo = bitN 128 j Lo := by unfold bitN; rw [show 64 - 1 - (j - 64) = 128 - 1 - j from by omega]
        rw [e5]
        rw [show 64 - j = 0 from by omega, show 64 - (j + 1) = 0 from by omega, if_neg (show ¬ j + 1 ≤ 64 by omega), ← this]
        by_cases h65 : j ≤ 64
        · obtain rfl : j = 64 := by omega
          rw [if_pos (by omega), show Lo / 2 ^ (128 - 64) = 0 from Nat.div_eq_of_lt (by simpa using hLo)]
          rfl
        · rw [if_neg h65]
          rfl
    | false =>
      simp only [valN, widthN, Bool.false_eq_true, if_false] at *
      rw [if_pos (by omega)]
      have := hs Lo 32 hLo (by omega)
      rw [this]
      rfl
theorem of_ev (six : Bool) (L : List Int) (H Lo : Nat) (hH : B64 H) (hLo : B64 Lo) (hlen : L.length = widthN six)
    (hb : ∀ i, i < widthN six → L.getD i 0 = (bitN (widthN six) i (valN six H Lo) : Int)) (h0 : six = false → H = 0 ∧ Lo < 2 ^ 32) :
    Ev (fun k => crosswayref04_of.f k six L) (six, (H : Int), (Lo : Int)) := by
  have h := of_l0 six L H Lo hH hLo hlen hb h0 (widthN six) 0 (by omega)
  refine Ev.congr (fun k => ?_) h
  unfold crosswayref04_of.f
  unfold B64 at *
  cases six with
  | true =>
    rw [if_pos rfl, if_pos rfl, if_pos (by omega), show H / 2 ^ (64 - 0) = 0 from Nat.div_eq_of_lt (by simpa using hH)]
    rfl
  | false =>
    have := (h0 rfl).2
    rw [if_neg (by decide), if_neg (by decide), show Lo / 2 ^ (32 - 0) = 0 from Nat.div_eq_of_lt (by simpa using this)]
    rfl
end Go.Proofs.YtmhjgjdiifcdlaaDoor.Pure1
