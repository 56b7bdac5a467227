/- What Bytes, Common of the program come to, in plain numbers. -/
import Derived.Test.YtmhjgjdiifcdlaaDoorPure4b
import Derived.Test.YtmhjgjdiifcdlaaDoorPPrefixCommon
set_option linter.unusedVariables false
namespace Go.Proofs.YtmhjgjdiifcdlaaDoor.Pure1
open Go.RowKit Go.Proofs.YtmhjgjdiifcdlaaDoor.P Go.Proofs.YtmhjgjdiifcdlaaDoor.Nat_ Go.Proofs.YtmhjgjdiifcdlaaDoorW.PrintWords Go.Proofs.YtmhjgjdiifcdlaaDoorW.PrintMore

theorem be_take (c n j : Nat) (h : j < c) : (be c n).take (j + 1) = (be c n).take j ++ [((n / 256 ^ (c - 1 - j) % 256 : Nat) : Int)] := by
  have hl : j < (be c n).length := by rw [be_length]; exact h
  rw [List.take_succ_eq_append_getElem hl]
  have := be_get n c j h
  rw [List.getD_eq_getElem?_getD, List.getElem?_eq_getElem hl] at this
  simp only [Option.getD_some] at this
  rw [this]
theorem byte_of (n : Nat) (c j : Nat) (hc : c ≤ 8) (hj : j < c) : shr .u64 (n : Int) ((8 * c - 8 - 8 * j : Nat) : Int) % 256 = ((n / 256 ^ (c - 1 - j) % 256 : Nat) : Int) := by
  rw [shr_nat _ _ (by omega) (by omega), show (256 : Nat) = 2 ^ 8 from rfl, ← Nat.pow_mul]
  rw [show ((8 * c - 8 - 8 * j : Nat) : Int).toNat = 8 * (c - 1 - j) from by omega]
  omega
theorem bytes_l2 (six : Bool) (h l : Nat) (pre : List Int) (hp : pre.length < 50) : ∀ (d j : Nat), j + d = 4 → Ev (fun k => addr_Bytes.l2 k (pre ++ (be 4 l).take j) j six h l) (pre ++ be 4 l) := by
  intro d
  induction d with
  | zero =>
    intro j hj
    obtain rfl : j = 4 := by omega
    refine Ev.step (fun k => ?_) (Ev.now _)
    simp only [addr_Bytes.l2]
    rw [if_neg (by omega), List.take_of_length_le (by rw [be_length]; omega)]
  | succ d ih =>
    intro j hj
    refine Ev.step (fun k => ?_) (ih (j + 1) (by omega))
    simp only [addr_Bytes.l2]
    rw [if_pos (by omega), w64 (x := 8 * (j : Int)) (by omega) (by omega), w64 (x := 24 - 8 * (j : Int)) (by omega) (by omega), if_pos (by omega), if_pos (by simp [be_length]; omega), w64 (x := (j : Int) + 1) (by omega) (by omega)]
    rw [show (24 - 8 * (j : Int)) = ((8 * 4 - 8 - 8 * j : Nat) : Int) from by omega, byte_of l 4 j (by omega) (by omega), List.append_assoc, ← be_take 4 l j (by omega)]
    rfl
theorem bytes_l1 (six : Bool) (h l : Nat) (pre : List Int) (hp : pre.length < 50) : ∀ (d j : Nat), j + d = 8 → Ev (fun k => addr_Bytes.l1 k (pre ++ (be 8 l).take j) j six h l) (pre ++ be 8 l) := by
  intro d
  induction d with
  | zero =>
    intro j hj
    obtain rfl : j = 8 := by omega
    refine Ev.step (fun k => ?_) (Ev.now _)
    simp only [addr_Bytes.l1]
    rw [if_neg (by omega), List.take_of_length_le (by rw [be_length]; omega)]
  | succ d ih =>
    intro j hj
    refine Ev.step (fun k => ?_) (ih (j + 1) (by omega))
    simp only [addr_Bytes.l1]
    rw [if_pos (by omega), w64 (x := 8 * (j : Int)) (by omega) (by omega), w64 (x := 56 - 8 * (j : Int)) (by omega) (by omega), if_pos (by omega), if_pos (by simp [be_length]; omega), w64 (x := (j : Int) + 1) (by omega) (by omega)]
    rw [show (56 - 8 * (j : Int)) = ((8 * 8 - 8 - 8 * j : Nat) : Int) from by omega, byte_of l 8 j (by omega) (by omega), List.append_assoc, ← be_take 8 l j (by omega)]
    rfl
theorem bytes_l0 (six : Bool) (h l : Nat) : ∀ (d j : Nat), j + d = 8 → Ev (fun k => addr_Bytes.l0 k ((be 8 h).take j) j six h l) (be 8 h ++ be 8 l) := by
  intro d
  induction d with
  | zero =>
    intro j hj
    obtain rfl : j = 8 := by omega
    have h1 := bytes_l1 six h l (be 8 h) (by rw [be_length]; omega) 8 0 (by omega)
    refine Ev.step (fun k => ?_) h1
    simp only [addr_Bytes.l0]
    rw [if_neg (by omega), List.take_of_length_le (by rw [be_length]; omega)]
    simp
  | succ d ih =>
    intro j hj
    refine Ev.step (fun k => ?_) (ih (j + 1) (by omega))
    simp only [addr_Bytes.l0]
    rw [if_pos (by omega), w64 (x := 8 * (j : Int)) (by omega) (by omega), w64 (x := 56 - 8 * (j : Int)) (by omega) (by omega), if_pos (by omega), if_pos (by simp [be_length]; omega), w64 (x := (j : Int) + 1) (by omega) (by omega)]
    rw [show (56 - 8 * (j : Int)) = ((8 * 8 - 8 - 8 * j : Nat) : Int) from by omega, byte_of h 8 j (by omega) (by omega), ← be_take 8 h j (by omega)]
    rfl
theorem pBytes_ev (six : Bool) (h l : Nat) (hv : validN six h l = true) : Ev (fun k => addr_Bytes.f k six h l) (bytesN six h l) := by
  cases six with
  | true =>
    have h1 := bytes_l0 true h l 8 0 (by omega)
    refine Ev.congr (fun k => ?_) h1
    unfold addr_Bytes.f
    rw [addr_Valid_is, hv, Option.bind_some, if_pos rfl, if_pos rfl]
    rfl
  | false =>
    have h1 := bytes_l2 false h l [] (by simp) 4 0 (by omega)
    refine Ev.congr (fun k => ?_) h1
    unfold addr_Bytes.f
    rw [addr_Valid_is, hv, Option.bind_some, if_pos rfl, if_neg (by decide)]
    rfl

theorem lens : ∀ d : Fin 256, d.val = 0 ∨ (1 ≤ Lib.bitLen d.val ∧ Lib.bitLen d.val ≤ 8 ∧ d.val / 2 ^ Lib.bitLen d.val = 0 ∧ ¬ d.val / 2 ^ (Lib.bitLen d.val - 1) = 0) := by decide +kernel
theorem xor_zero {x y : Nat} : x ^^^ y = 0 ↔ x = y := by
  constructor
  · intro h
    apply Nat.eq_of_testBit_eq
    intro i
    have h2 := congrArg (fun z => Nat.testBit z i) h
    simp only [Nat.testBit_xor, Nat.zero_testBit] at h2
    cases hx : x.testBit i <;> cases hy : y.testBit i <;> simp [hx, hy] at h2 ⊢
  · rintro rfl
    exact Nat.xor_self x
theorem xor_div (x y s : Nat) : (x ^^^ y) / 2 ^ s = 0 ↔ x / 2 ^ s = y / 2 ^ s := by
  rw [← Nat.shiftRight_eq_div_pow, ← Nat.shiftRight_eq_div_pow, ← Nat.shiftRight_eq_div_pow, Nat.shiftRight_xor_distrib]
  exact xor_zero
theorem pairs {x y : Nat} (hx : x < 256) (hy : y < 256) (e : x ≠ y) : 1 ≤ Lib.bitLen (x ^^^ y) ∧ Lib.bitLen (x ^^^ y) ≤ 8 ∧ x / 2 ^ Lib.bitLen (x ^^^ y) = y / 2 ^ Lib.bitLen (x ^^^ y) ∧ ¬ x / 2 ^ (Lib.bitLen (x ^^^ y) - 1) = y / 2 ^ (Lib.bitLen (x ^^^ y) - 1) := by
  have h := lens ⟨x ^^^ y, Nat.xor_lt_two_pow (n := 8) hx hy⟩
  rw [← xor_div, ← xor_div]
  rcases h with h | h
  · exact absurd (xor_zero.1 h) e
  · exact h
theorem div_part (A x b : Nat) (hb : b ≤ 8) (hx : x < 256) : (256 * A + x) / 2 ^ b = 2 ^ (8 - b) * A + x / 2 ^ b := by
  match b, hb with
  | 0, _ => omega
  | 1, _ => omega
  | 2, _ => omega
  | 3, _ => omega
  | 4, _ => omega
  | 5, _ => omega
  | 6, _ => omega
  | 7, _ => omega
  | 8, _ => omega
theorem pcommon_l0 (s : Bool) (h l h' l' : Nat) (hl : B64 l) (hl' : B64 l') :
    ∀ (d i : Nat), 8 * (i + d) = widthN s → valN s h l / 2 ^ (widthN s - 8 * i) = valN s h' l' / 2 ^ (widthN s - 8 * i) →
      ∃ c : Nat, Ev (fun k => prefix_Common.l0 k ((8 * i : Nat) : Int) (bytesN s h l) (bytesN s h' l') ((bytesN s h l).length : Int) i) (c : Int) ∧ Agree (widthN s) (valN s h l) (valN s h' l') c := by
  have hw : widthN s ≤ 128 := by cases s <;> simp [widthN]
  have hL := bytesN_length s h l
  have hL' := bytesN_length s h' l'
  intro d
  induction d with
  | zero =>
    intro i hi he
    refine ⟨8 * i, Ev.step (fun k => ?_) (Ev.now _), by omega, he, by omega⟩
    simp only [prefix_Common.l0]
    rw [if_neg (by omega)]
  | succ d ih =>
    intro i hi he
    have g := bytesN_get s h l hl i (by omega)
    have g' := bytesN_get s h' l' hl' i (by omega)
    have s1 := byte_step (valN s h l) (widthN s) i (by omega)
    have s2 := byte_step (valN s h' l') (widthN s) i (by omega)
    generalize hx : valN s h l / 2 ^ (widthN s - 8 - 8 * i) % 256 = x at g s1
    generalize hy : valN s h' l' / 2 ^ (widthN s - 8 - 8 * i) % 256 = y at g' s2
    have hx8 : x < 256 := by omega
    have hy8 : y < 256 := by omega
    have r1 : rd (bytesN s h l) (i : Int) = (x : Int) := g
    have r2 : rd (bytesN s h' l') (i : Int) = (y : Int) := g'
    have hxor := u8_xor_nat x y hx8 hy8
    have hxl : x ^^^ y < 256 := Nat.xor_lt_two_pow (n := 8) hx8 hy8
    have hlz : bits_LeadingZeros8.f ((x ^^^ y : Nat) : Int) = some (8 - (Lib.bitLen (x ^^^ y) : Int)) := by
      unfold bits_LeadingZeros8.f
      rw [if_pos (by omega), if_pos (by omega)]
      rfl
    have hble : Lib.bitLen (x ^^^ y) ≤ 8 := Lib.bitLen_le8 ⟨x ^^^ y, hxl⟩
    have hmn : mn 8 (8 - (Lib.bitLen (x ^^^ y) : Int)) = 8 - (Lib.bitLen (x ^^^ y) : Int) := by
      unfold mn; split <;> omega
    by_cases e : x = y
    · subst e
      obtain ⟨c, hc, ha⟩ := ih (i + 1) (by omega) (by rw [s1, s2, he])
      refine ⟨c, Ev.step (fun k => ?_) hc, ha⟩
      simp only [prefix_Common.l0]
      rw [if_pos (by omega), if_pos (by omega), if_pos (by omega), if_pos (by omega), r1, r2, hxor, hlz, Option.bind_some, hmn, Nat.xor_self, if_pos (by rfl)]
      rw [show (Lib.bitLen 0 : Int) = 0 from by decide, w64 (by omega) (by omega), w64 (x := (i : Int) + 1) (by omega) (by omega)]
      congr 1
    · have hp := pairs hx8 hy8 e
      · obtain ⟨p1, p2, p3, p4⟩ := hp
        have hne : ((x ^^^ y : Nat) : Int) ≠ 0 := by
          intro h0
          have : x ^^^ y = 0 := by omega
          rw [this] at p1
          exact absurd p1 (by decide)
        generalize Lib.bitLen (x ^^^ y) = b at *
        refine ⟨8 * i + 8 - b, Ev.step (fun k => ?_) (Ev.now _), by omega, ?_, fun _ => ?_⟩
        · simp only [prefix_Common.l0]
          rw [if_pos (by omega), if_pos (by omega), if_pos (by omega), if_pos (by omega), r1, r2, hxor, hlz, Option.bind_some, hmn, if_neg hne, w64 (by omega) (by omega)]
          congr 1
          omega
        · rw [show widthN s - (8 * i + 8 - b) = (widthN s - 8 * (i + 1)) + b from by omega, Nat.pow_add, ← Nat.div_div_eq_div_mul, ← Nat.div_div_eq_div_mul, s1, s2, div_part _ _ _ p2 hx8, div_part _ _ _ p2 hy8, he, p3]
        · rw [show widthN s - (8 * i + 8 - b) - 1 = (widthN s - 8 * (i + 1)) + (b - 1) from by omega, Nat.pow_add, ← Nat.div_div_eq_div_mul, ← Nat.div_div_eq_div_mul, s1, s2, div_part _ _ _ (by omega) hx8, div_part _ _ _ (by omega) hy8, he]
          intro h0
          exact p4 (by omega)
theorem pCommon_ev (s : Bool) (h l : Nat) (s' : Bool) (h' l' : Nat) (hh : B64 h) (hl : B64 l) (hh' : B64 h') (hl' : B64 l') :
    ∃ n : Int, Ev (fun k => prefix_Common.f k s h l s' h' l') n ∧ IsCommon s h l s' h' l' n := by
  unfold IsCommon
  cases hv : validN s h l with
  | false =>
    refine ⟨-1, Ev.congr (fun k => ?_) (Ev.now _), by simp⟩
    unfold prefix_Common.f
    rw [addr_Valid_is, Option.bind_some, hv, if_neg (by decide)]
  | true =>
    cases hv' : validN s' h' l' with
    | false =>
      refine ⟨-1, Ev.congr (fun k => ?_) (Ev.now _), by simp⟩
      unfold prefix_Common.f
      rw [addr_Valid_is, Option.bind_some, addr_Valid_is, Option.bind_some, hv, hv', if_pos rfl, if_neg (by decide)]
    | true =>
      by_cases e : s = s'
      · subst e
        have e0 : (true && (true && s == s)) = true := by simp
        simp only [e0, if_true]
        have hw := val_lt hh hl hv
        have hw' := val_lt hh' hl' hv'
        have hL := bytesN_length s h l
        obtain ⟨c, hc, ha⟩ := pcommon_l0 s h l h' l' hl hl' (bytesN s h l).length 0 (by omega) (by rw [Nat.mul_zero, Nat.sub_zero, Nat.div_eq_of_lt hw, Nat.div_eq_of_lt hw'])
        refine ⟨c, Ev.congr (fun k => ?_) (Ev.bind (f := fun k t => (addr_Bytes.f k s h' l').bind fun t' => prefix_Common.l0 k 0 t t' (t.length : Int) 0) (pBytes_ev s h l hv) (Ev.bind (f := fun k t' => prefix_Common.l0 k 0 (bytesN s h l) t' ((bytesN s h l).length : Int) 0) (pBytes_ev s h' l' hv') hc)), c, rfl, ha⟩
        unfold prefix_Common.f
        rw [addr_Valid_is, Option.bind_some, addr_Valid_is, Option.bind_some, hv, hv', if_pos rfl, if_pos rfl, if_neg (by simp)]
      · have e2 : (s == s') = false := by simpa using e
        refine ⟨-1, Ev.congr (fun k => ?_) (Ev.now _), by simp [e2]⟩
        unfold prefix_Common.f
        rw [addr_Valid_is, Option.bind_some, addr_Valid_is, Option.bind_some, hv, hv', if_pos rfl, if_pos rfl, if_pos (by simpa using e)]

/-! Halves -/
end Go.Proofs.YtmhjgjdiifcdlaaDoor.Pure1
