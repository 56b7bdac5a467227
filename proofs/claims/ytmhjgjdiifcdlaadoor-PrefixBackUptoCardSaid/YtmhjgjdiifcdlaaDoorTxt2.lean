/- Numbers as texts and back; addresses as texts and back. -/
import Derived.Test.YtmhjgjdiifcdlaaDoorTxt
import Derived.Test.YtmhjgjdiifcdlaaDoorFmt16
import Derived.Test.YtmhjgjdiifcdlaaDoorHex
set_option linter.unusedVariables false
namespace Go.Proofs.YtmhjgjdiifcdlaaDoor.Txt
open Go.Proofs.YtmhjgjdiifcdlaaDoor.P

/-! ### base 10 -/
def decN : Nat → List UInt8 → Option Nat
  | acc, [] => some acc
  | acc, c :: r => if 48 ≤ c.toNat ∧ c.toNat ≤ 57 then decN (acc * 10 + (c.toNat - 48)) r else none
theorem parse_dec (M : Nat) (hM : 9999 ≤ M) : ∀ (l : List UInt8) (acc b : Nat), acc < b → b * 10 ^ l.length ≤ 10000 →
    Lib.parseUintM M acc l = match decN acc l with | some u => .ok u | none => Lib.parseUintB 64 []
  | [], acc, b, _, _ => rfl
  | c :: r, acc, b, h, hb => by
    have hp : 0 < 10 ^ r.length := Nat.pow_pos (by omega)
    have e : b * 10 ^ (c :: r).length = b * 10 * 10 ^ r.length := by rw [List.length_cons, Nat.pow_succ, Nat.mul_assoc, Nat.mul_comm 10 _]
    rw [e] at hb
    have hb' : b * 10 ≤ 10000 := Nat.le_trans (Nat.le_mul_of_pos_right _ hp) hb
    unfold Lib.parseUintM decN
    by_cases hd : 48 ≤ c.toNat ∧ c.toNat ≤ 57
    · rw [if_pos hd, if_pos hd, if_neg (by omega), if_neg (by omega)]
      exact parse_dec M hM r _ (b * 10) (by omega) hb
    · rw [if_neg hd, if_neg hd]; rfl
theorem parse_dec3 (B : Nat) (hB : 9999 ≤ 2 ^ B - 1) (l : List UInt8) (h0 : l ≠ []) (h : l.length ≤ 3) : Lib.parseUintB B l = match decN 0 l with | some u => .ok u | none => Lib.parseUintB 64 [] := by
  unfold Lib.parseUintB
  rw [if_neg h0]
  refine parse_dec _ hB l 0 1 (by omega) ?_
  have : 10 ^ l.length ≤ 10 ^ 3 := Nat.pow_le_pow_right (by omega) h
  omega
theorem dig_nat (n : Nat) (h : n < 10) : (dig n).toNat = 48 + n := by
  unfold dig
  rw [UInt8.toNat_ofNat']
  omega
theorem dec3_back (n : Nat) (h : n < 1000) : decN 0 (dec3 n) = some n := by
  unfold dec3
  have hd : ∀ m, m < 10 → 48 ≤ (dig m).toNat ∧ (dig m).toNat ≤ 57 := fun m hm => by rw [dig_nat m hm]; omega
  by_cases h1 : n < 10
  · rw [if_pos h1, decN, if_pos (hd _ h1), decN, dig_nat _ h1]
    congr 1; omega
  · rw [if_neg h1]
    by_cases h2 : n < 100
    · rw [if_pos h2, decN, if_pos (hd _ (by omega)), decN, if_pos (hd _ (by omega)), decN, dig_nat _ (by omega), dig_nat _ (by omega)]
      congr 1; omega
    · rw [if_neg h2, decN, if_pos (hd _ (by omega)), decN, if_pos (hd _ (by omega)), decN, if_pos (hd _ (by omega)), decN, dig_nat _ (by omega), dig_nat _ (by omega), dig_nat _ (by omega)]
      congr 1; omega
theorem dec3_ne (n : Nat) : dec3 n ≠ [] := by unfold dec3; split <;> (try split) <;> simp
theorem dec3_len (n : Nat) : (dec3 n).length ≤ 3 := by unfold dec3; split <;> (try split) <;> simp
theorem dec3_mem (n : Nat) (h : n < 1000) {c : UInt8} (hc : c ∈ dec3 n) : 48 ≤ c.toNat ∧ c.toNat ≤ 57 := by
  have hd : ∀ m, m < 10 → 48 ≤ (dig m).toNat ∧ (dig m).toNat ≤ 57 := fun m hm => by rw [dig_nat m hm]; omega
  unfold dec3 at hc
  by_cases h1 : n < 10
  · rw [if_pos h1] at hc
    rw [List.mem_singleton.1 hc]; exact hd _ h1
  · rw [if_neg h1] at hc
    by_cases h2 : n < 100
    · rw [if_pos h2] at hc
      rcases List.mem_cons.1 hc with rfl | hc
      · exact hd _ (by omega)
      · rw [List.mem_singleton.1 hc]; exact hd _ (by omega)
    · rw [if_neg h2] at hc
      rcases List.mem_cons.1 hc with rfl | hc
      · exact hd _ (by omega)
      · rcases List.mem_cons.1 hc with rfl | hc
        · exact hd _ (by omega)
        · rw [List.mem_singleton.1 hc]; exact hd _ (by omega)
theorem dec3_head (n : Nat) (h : n < 1000) (hl : 1 < (dec3 n).length) : (dec3 n).head? ≠ some 48 := by
  have key : ∀ m, m < 10 → m ≠ 0 → dig m ≠ 48 := fun m hm h0 e => by
    have := congrArg UInt8.toNat e
    rw [dig_nat m hm] at this
    have e48 : (48 : UInt8).toNat = 48 := rfl
    omega
  unfold dec3 at hl ⊢
  by_cases h1 : n < 10
  · rw [if_pos h1] at hl; simp at hl
  · rw [if_neg h1] at hl ⊢
    by_cases h2 : n < 100
    · rw [if_pos h2]
      simp only [List.head?_cons]
      intro e; exact key _ (by omega) (by omega) (Option.some.inj e)
    · rw [if_neg h2]
      simp only [List.head?_cons]
      intro e; exact key _ (by omega) (by omega) (Option.some.inj e)
theorem dec3_free (n : Nat) (h : n < 1000) {c : UInt8} (hc : c.toNat < 48 ∨ 57 < c.toNat) : c ∉ dec3 n := fun hm => by
  have := dec3_mem n h hm
  omega

/-! ### base 16 -/
theorem hx_back : ∀ d, d < 16 → hexd (hx d) = some d := by decide
theorem hx_free : ∀ d, d < 16 → hx d ≠ 58 ∧ hx d ≠ 46 ∧ hx d ≠ 47 := by decide
theorem hex4_back (n : Nat) (h : n < 65536) : hexN 0 (hex4 n) = some n := by
  unfold hex4
  have st : ∀ acc d r, d < 16 → hexN acc (hx d :: r) = hexN (acc * 16 + d) r := fun acc d r hd => by rw [hexN, hx_back d hd]
  by_cases h1 : n < 16
  · rw [if_pos h1, st _ _ _ h1, hexN]; congr 1; omega
  · rw [if_neg h1]
    by_cases h2 : n < 256
    · rw [if_pos h2, st _ _ _ (by omega), st _ _ _ (by omega), hexN]; congr 1; omega
    · rw [if_neg h2]
      by_cases h3 : n < 4096
      · rw [if_pos h3, st _ _ _ (by omega), st _ _ _ (by omega), st _ _ _ (by omega), hexN]; congr 1; omega
      · rw [if_neg h3, st _ _ _ (by omega), st _ _ _ (by omega), st _ _ _ (by omega), st _ _ _ (by omega), hexN]; congr 1; omega
theorem hex4_ne (n : Nat) : hex4 n ≠ [] := by unfold hex4; split <;> (try split) <;> (try split) <;> simp
theorem hex4_len (n : Nat) : (hex4 n).length ≤ 4 := by unfold hex4; split <;> (try split) <;> (try split) <;> simp
theorem hex4_mem (n : Nat) (h : n < 65536) {c : UInt8} (hc : c ∈ hex4 n) : ∃ d, d < 16 ∧ c = hx d := by
  unfold hex4 at hc
  by_cases h1 : n < 16
  · rw [if_pos h1] at hc
    simp only [List.mem_cons, List.not_mem_nil, or_false] at hc
    exact ⟨_, h1, hc⟩
  · rw [if_neg h1] at hc
    by_cases h2 : n < 256
    · rw [if_pos h2] at hc
      simp only [List.mem_cons, List.not_mem_nil, or_false] at hc
      rcases hc with rfl | rfl <;> exact ⟨_, by omega, rfl⟩
    · rw [if_neg h2] at hc
      by_cases h3 : n < 4096
      · rw [if_pos h3] at hc
        simp only [List.mem_cons, List.not_mem_nil, or_false] at hc
        rcases hc with rfl | rfl | rfl <;> exact ⟨_, by omega, rfl⟩
      · rw [if_neg h3] at hc
        simp only [List.mem_cons, List.not_mem_nil, or_false] at hc
        rcases hc with rfl | rfl | rfl | rfl <;> exact ⟨_, by omega, rfl⟩
theorem hex4_free (n : Nat) (h : n < 65536) : (58 : UInt8) ∉ hex4 n ∧ (46 : UInt8) ∉ hex4 n ∧ (47 : UInt8) ∉ hex4 n := by
  refine ⟨fun hc => ?_, fun hc => ?_, fun hc => ?_⟩
  · obtain ⟨d, hd, e⟩ := hex4_mem n h hc; exact (hx_free d hd).1 e.symm
  · obtain ⟨d, hd, e⟩ := hex4_mem n h hc; exact (hx_free d hd).2.1 e.symm
  · obtain ⟨d, hd, e⟩ := hex4_mem n h hc; exact (hx_free d hd).2.2 e.symm

/-! ### reading -/
/-- a number of 0 to 255 -/
def dec8 (w : List UInt8) : Option Nat :=
  if w.length = 0 ∨ 3 < w.length then none else match decN 0 w with
    | some u => if u > 255 ∨ (1 < w.length ∧ w.head? = some 48) then none else some u
    | none => none
def fourL : Nat → List (List UInt8) → Option Nat
  | acc, [] => some acc
  | acc, w :: r => match dec8 w with
    | some n => fourL (acc * 256 + n) r
    | none => none
def p4 (s : List UInt8) : Option Nat := if (splitL 46 s).length = 4 then fourL 0 (splitL 46 s) else none
/-- a group -/
def grp16 (w : List UInt8) : Option Nat := if w.length = 0 ∨ 4 < w.length then none else hexN 0 w
def grps : List (List UInt8) → Option (List Nat)
  | [] => some []
  | w :: r => match grp16 w with
    | some n => (grps r).map (n :: ·)
    | none => none
def rowL (s : List UInt8) : Option (List Nat) := if s = [] then some [] else grps (splitL 58 s)
def sixJ (x y : List Nat) (short : Bool) : Option (List Nat) :=
  if short then (if x.length + y.length > 7 then none else some (x ++ (List.replicate (8 - x.length - y.length) 0 ++ y))) else if x.length + y.length ≠ 8 then none else some (x ++ y)
def sixL (s : List UInt8) : Option (List Nat) :=
  match rowL (Lib.cut s [58, 58]).1 with
  | some x => match rowL (Lib.cut s [58, 58]).2.1 with
    | some y => sixJ x y (Lib.cut s [58, 58]).2.2
    | none => none
  | none => none
/-- four groups as a number -/
def j4 (a b c d : Nat) : Nat := ((a * 65536 + b) * 65536 + c) * 65536 + d
def hi8 (g : List Nat) : Nat := j4 (g.getD 0 0) (g.getD 1 0) (g.getD 2 0) (g.getD 3 0)
def lo8 (g : List Nat) : Nat := j4 (g.getD 4 0) (g.getD 5 0) (g.getD 6 0) (g.getD 7 0)
def parseA (s : List UInt8) : Option (Bool × Nat × Nat) :=
  match p4 s with
  | some lo => some (false, 0, lo)
  | none => match sixL s with
    | some g => some (true, hi8 g, lo8 g)
    | none => none

/-! ### telling -/
def print4 (lo : Nat) : List UInt8 := Lib.join [dec3 (lo / 16777216 % 256), dec3 (lo / 65536 % 256), dec3 (lo / 256 % 256), dec3 (lo % 256)] [46]
def textsL (l : List Nat) : List UInt8 := Lib.join (l.map hex4) [58]
def print6 (g : List Nat) (ft : Nat × Nat) : List UInt8 := if ft.2 = 0 then textsL g else textsL (g.take ft.1) ++ ([58, 58] ++ textsL (g.drop ft.2))

theorem dec8_back (n : Nat) (h : n < 256) : dec8 (dec3 n) = some n := by
  unfold dec8
  have h0 := dec3_ne n
  have h1 := dec3_len n
  have h2 : (dec3 n).length ≠ 0 := fun e => h0 (List.eq_nil_of_length_eq_zero e)
  rw [if_neg (by omega), dec3_back n (by omega)]
  simp only
  rw [if_neg]
  rintro (hx | ⟨hx, hy⟩)
  · omega
  · exact dec3_head n (by omega) hx hy
theorem p4_back (lo : Nat) (h : lo < 4294967296) : p4 (print4 lo) = some lo := by
  unfold p4 print4
  have hf : ∀ x ∈ [dec3 (lo / 16777216 % 256), dec3 (lo / 65536 % 256), dec3 (lo / 256 % 256), dec3 (lo % 256)], (46 : UInt8) ∉ x := by
    intro x hx
    simp only [List.mem_cons, List.not_mem_nil, or_false] at hx
    rcases hx with rfl | rfl | rfl | rfl <;> exact dec3_free _ (by omega) (.inl (by decide))
  rw [splitL_join (by simp) hf]
  simp only [List.length_cons, List.length_nil, if_pos]
  rw [fourL, dec8_back _ (by omega)]
  simp only
  rw [fourL, dec8_back _ (by omega)]
  simp only
  rw [fourL, dec8_back _ (by omega)]
  simp only
  rw [fourL, dec8_back _ (by omega)]
  simp only
  rw [fourL]
  congr 1
  omega
theorem grp16_back (n : Nat) (h : n < 65536) : grp16 (hex4 n) = some n := by
  unfold grp16
  have h0 := hex4_ne n
  have h1 := hex4_len n
  have h2 : (hex4 n).length ≠ 0 := fun e => h0 (List.eq_nil_of_length_eq_zero e)
  rw [if_neg (by omega), hex4_back n h]
theorem grps_back : ∀ (l : List Nat), (∀ x ∈ l, x < 65536) → grps (l.map hex4) = some l
  | [], _ => rfl
  | x :: r, h => by
    rw [List.map_cons, grps, grp16_back x (h x List.mem_cons_self)]
    simp only
    rw [grps_back r (fun y hy => h y (List.mem_cons_of_mem _ hy))]
    rfl
theorem texts_ne {l : List Nat} (h : l ≠ []) : textsL l ≠ [] := by
  cases l with
  | nil => exact absurd rfl h
  | cons x r =>
    unfold textsL
    rw [List.map_cons, Lib.join_cons]
    intro e
    exact hex4_ne x (List.append_eq_nil_iff.1 e).1
theorem rowL_back (l : List Nat) (h : ∀ x ∈ l, x < 65536) : rowL (textsL l) = some l := by
  unfold rowL
  cases l with
  | nil => rfl
  | cons x r =>
    rw [if_neg (texts_ne (by simp))]
    unfold textsL
    rw [splitL_join (by simp), grps_back _ h]
    intro y hy
    obtain ⟨n, hn, rfl⟩ := List.mem_map.1 hy
    exact (hex4_free n (h n hn)).1
theorem texts_parts (l : List Nat) (h : ∀ x ∈ l, x < 65536) : ∀ y ∈ l.map hex4, (58 : UInt8) ∉ y ∧ y ≠ [] := by
  intro y hy
  obtain ⟨n, hn, rfl⟩ := List.mem_map.1 hy
  exact ⟨(hex4_free n (h n hn)).1, hex4_ne n⟩
/-- where the gap may be -/
def GapOk (g : List Nat) (ft : Nat × Nat) : Prop := ft.2 = 0 ∨ (ft.1 < ft.2 ∧ ft.2 ≤ 8 ∧ g = g.take ft.1 ++ (List.replicate (ft.2 - ft.1) 0 ++ g.drop ft.2))
theorem sixL_back (g : List Nat) (hl : g.length = 8) (h : ∀ x ∈ g, x < 65536) (ft : Nat × Nat) (hg : GapOk g ft) : sixL (print6 g ft) = some g := by
  unfold sixL print6
  by_cases h0 : ft.2 = 0
  · rw [if_pos h0]
    have hc : cutG [58, 58] (textsL g) = none := by
      have := cutG2_join (texts_parts g h) []
      rw [List.append_nil] at this
      exact this
    rw [cut_is (by simp), hc]
    simp only
    rw [rowL_back g h]
    simp only
    rw [show rowL [] = some [] from rfl]
    simp only [sixJ, List.length_nil, List.append_nil]
    rw [if_neg (by decide), if_neg (by omega)]
  · rcases hg with hg | ⟨h1, h2, h3⟩
    · exact absurd hg h0
    · rw [if_neg h0]
      have ht : ∀ x ∈ g.take ft.1, x < 65536 := fun x hx => h x (List.mem_of_mem_take hx)
      have hd : ∀ x ∈ g.drop ft.2, x < 65536 := fun x hx => h x (List.mem_of_mem_drop hx)
      have hc : cutG [58, 58] (textsL (g.take ft.1) ++ ([58, 58] ++ textsL (g.drop ft.2))) = some (textsL (g.take ft.1), textsL (g.drop ft.2)) := by
        have := cutG2_join (texts_parts _ ht) ([58, 58] ++ textsL (g.drop ft.2))
        rw [show ([58, 58] ++ textsL (g.drop ft.2) : List UInt8) = 58 :: 58 :: textsL (g.drop ft.2) from rfl, cutG2_here] at this
        refine this.trans ?_
        simp [textsL]
      rw [cut_is (by simp), hc]
      simp only
      rw [rowL_back _ ht]
      simp only
      rw [rowL_back _ hd]
      simp only [sixJ, if_true]
      have e1 : (g.take ft.1).length = ft.1 := by rw [List.length_take]; omega
      have e2 : (g.drop ft.2).length = 8 - ft.2 := by rw [List.length_drop]; omega
      rw [if_neg (by omega), e1, e2, show 8 - ft.1 - (8 - ft.2) = ft.2 - ft.1 from by omega, ← h3]
theorem print6_free (g : List Nat) (h : ∀ x ∈ g, x < 65536) (ft : Nat × Nat) {c : UInt8} (hc : c = 46 ∨ c = 47) : c ∉ print6 g ft := by
  have key : ∀ l : List Nat, (∀ x ∈ l, x < 65536) → c ∉ textsL l := by
    intro l hl
    refine join_free ?_ ?_
    · intro y hy
      obtain ⟨n, hn, rfl⟩ := List.mem_map.1 hy
      have hf := hex4_free n (hl n hn)
      rcases hc with rfl | rfl
      · exact hf.2.1
      · exact hf.2.2
    · rcases hc with rfl | rfl <;> decide
  unfold print6
  split
  · exact key g h
  · intro hm
    rcases List.mem_append.1 hm with h1 | h1
    · exact key _ (fun x hx => h x (List.mem_of_mem_take hx)) h1
    · rcases List.mem_append.1 h1 with h2 | h2
      · rcases hc with rfl | rfl <;> simp at h2
      · exact key _ (fun x hx => h x (List.mem_of_mem_drop hx)) h2
theorem print4_free (lo : Nat) : (47 : UInt8) ∉ print4 lo := by
  unfold print4
  refine join_free ?_ (by decide)
  intro x hx
  simp only [List.mem_cons, List.not_mem_nil, or_false] at hx
  rcases hx with rfl | rfl | rfl | rfl <;> exact dec3_free _ (by omega) (.inl (by decide))
theorem p4_print6 (g : List Nat) (h : ∀ x ∈ g, x < 65536) (ft : Nat × Nat) : p4 (print6 g ft) = none := by
  unfold p4
  rw [splitL_free (print6_free g h ft (.inl rfl)), if_neg (by simp)]
theorem parseA_4 (lo : Nat) (h : lo < 4294967296) : parseA (print4 lo) = some (false, 0, lo) := by
  unfold parseA
  rw [p4_back lo h]
theorem parseA_6 (g : List Nat) (hl : g.length = 8) (h : ∀ x ∈ g, x < 65536) (ft : Nat × Nat) (hg : GapOk g ft) : parseA (print6 g ft) = some (true, hi8 g, lo8 g) := by
  unfold parseA
  rw [p4_print6 g h ft, sixL_back g hl h ft hg]

/-! ### what is read may be -/
theorem dec8_le {w : List UInt8} {n : Nat} (h : dec8 w = some n) : n ≤ 255 := by
  unfold dec8 at h
  split at h
  · cases h
  · split at h
    · split at h
      · cases h
      · obtain rfl := Option.some.inj h; omega
    · cases h
theorem fourL_lt : ∀ (l : List (List UInt8)) (acc n b : Nat), acc < b → fourL acc l = some n → n < b * 256 ^ l.length
  | [], acc, n, b, hb, h => by
    obtain rfl := Option.some.inj h
    simpa using hb
  | w :: r, acc, n, b, hb, h => by
    unfold fourL at h
    cases hd : dec8 w with
    | none => rw [hd] at h; cases h
    | some m =>
      rw [hd] at h
      have hm := dec8_le hd
      have := fourL_lt r _ n (b * 256) (by omega) h
      rw [List.length_cons, Nat.pow_succ]
      rw [Nat.mul_assoc, Nat.mul_comm 256] at this
      exact this
theorem p4_lt {s : List UInt8} {n : Nat} (h : p4 s = some n) : n < 4294967296 := by
  unfold p4 at h
  split at h
  · next hl =>
    have := fourL_lt _ 0 n 1 (by omega) h
    rw [hl] at this
    simpa using this
  · cases h
theorem hexN_lt : ∀ (l : List UInt8) (acc n b : Nat), acc < b → hexN acc l = some n → n < b * 16 ^ l.length
  | [], acc, n, b, hb, h => by
    obtain rfl := Option.some.inj h
    simpa using hb
  | c :: r, acc, n, b, hb, h => by
    unfold hexN at h
    cases hd : hexd c with
    | none => rw [hd] at h; cases h
    | some m =>
      rw [hd] at h
      have hm := hexd_lt hd
      have := hexN_lt r _ n (b * 16) (by omega) h
      rw [List.length_cons, Nat.pow_succ]
      rw [Nat.mul_assoc, Nat.mul_comm 16] at this
      exact this
theorem grp16_lt {w : List UInt8} {n : Nat} (h : grp16 w = some n) : n < 65536 := by
  unfold grp16 at h
  split at h
  · cases h
  · next hl =>
    have h1 := hexN_lt w 0 n 1 (by omega) h
    have : 16 ^ w.length ≤ 16 ^ 4 := Nat.pow_le_pow_right (by omega) (by omega)
    omega
theorem grps_lt : ∀ (l : List (List UInt8)) (g : List Nat), grps l = some g → ∀ x ∈ g, x < 65536
  | [], g, h => by
    obtain rfl := Option.some.inj h
    intro x hx; cases hx
  | w :: r, g, h => by
    unfold grps at h
    cases hd : grp16 w with
    | none => rw [hd] at h; cases h
    | some m =>
      rw [hd] at h
      simp only at h
      cases hr : grps r with
      | none => rw [hr] at h; cases h
      | some t =>
        rw [hr] at h
        obtain rfl := Option.some.inj h
        intro x hx
        rcases List.mem_cons.1 hx with rfl | hx
        · exact grp16_lt hd
        · exact grps_lt r t hr x hx
theorem rowL_lt {s : List UInt8} {g : List Nat} (h : rowL s = some g) : ∀ x ∈ g, x < 65536 := by
  unfold rowL at h
  split at h
  · obtain rfl := Option.some.inj h
    intro x hx; cases hx
  · exact grps_lt _ g h
theorem sixL_lt {s : List UInt8} {g : List Nat} (h : sixL s = some g) : g.length = 8 ∧ ∀ x ∈ g, x < 65536 := by
  unfold sixL at h
  cases hx : rowL (Lib.cut s [58, 58]).1 with
  | none => rw [hx] at h; cases h
  | some x =>
    rw [hx] at h
    simp only at h
    cases hy : rowL (Lib.cut s [58, 58]).2.1 with
    | none => rw [hy] at h; cases h
    | some y =>
      rw [hy] at h
      simp only [sixJ] at h
      have bx := rowL_lt hx
      have bY := rowL_lt hy
      split at h
      · split at h
        · cases h
        · obtain rfl := Option.some.inj h
          refine ⟨by simp; omega, fun z hz => ?_⟩
          rcases List.mem_append.1 hz with h1 | h1
          · exact bx z h1
          · rcases List.mem_append.1 h1 with h2 | h2
            · rw [(List.mem_replicate.1 h2).2]; omega
            · exact bY z h2
      · split at h
        · cases h
        · obtain rfl := Option.some.inj h
          refine ⟨by simp; omega, fun z hz => ?_⟩
          rcases List.mem_append.1 hz with h1 | h1
          · exact bx z h1
          · exact bY z h1
end Go.Proofs.YtmhjgjdiifcdlaaDoor.Txt
