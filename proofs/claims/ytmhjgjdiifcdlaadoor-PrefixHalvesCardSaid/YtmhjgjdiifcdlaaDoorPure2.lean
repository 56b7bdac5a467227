/- What the program's Holds, Covers, Less, Halves and Common come to, in plain numbers. -/
import Derived.Test.YtmhjgjdiifcdlaaDoorPure1
import Derived.Test.YtmhjgjdiifcdlaaDoorPPrefixHolds
import Derived.Test.YtmhjgjdiifcdlaaDoorPPrefixCovers
import Derived.Test.YtmhjgjdiifcdlaaDoorPPrefixLess
import Derived.Test.YtmhjgjdiifcdlaaDoorPPrefixHalves
set_option linter.unusedVariables false
namespace Go.Proofs.YtmhjgjdiifcdlaaDoor.Pure1
open Go.RowKit Go.Proofs.YtmhjgjdiifcdlaaDoor.P Go.Proofs.YtmhjgjdiifcdlaaDoor.Nat_ Go.Proofs.YtmhjgjdiifcdlaaDoorW.PrintWords Go.Proofs.YtmhjgjdiifcdlaaDoorW.PrintMore

def sameN (w m x y : Nat) : Bool := decide (x / 2 ^ (w - m) = y / 2 ^ (w - m))
theorem validP_parts {six : Bool} {h l : Nat} {m : Int} (hv : validP six h l m = true) : validN six h l = true ∧ 0 ≤ m ∧ m ≤ widthN six ∧ cutH six h m.toNat = h ∧ cutL six l m.toNat = l := by
  simpa [validP] using hv
theorem validP_cut {six : Bool} {h l : Nat} {m : Int} (hl : B64 l) (hv : validP six h l m = true) : cutN (widthN six) m.toNat (valN six h l) = valN six h l := by
  obtain ⟨h1, h2, h3, h4, h5⟩ := validP_parts hv
  rw [← val_cut hl (by omega), h4, h5]
theorem validP_of {six : Bool} {h l : Nat} {m : Int} (hl : B64 l) (h1 : validN six h l = true) (h2 : 0 ≤ m) (h3 : m ≤ widthN six) (h4 : cutN (widthN six) m.toNat (valN six h l) = valN six h l) : validP six h l m = true := by
  rw [← val_cut hl (by omega)] at h4
  have h5 := (val_inj (cutL_lt hl) hl (cut_valid h1) h1).1 h4
  simp [validP, h1, h2, h3, h5.1, h5.2]

def holdsP (s : Bool) (h l : Nat) (m : Int) (s' : Bool) (h' l' : Nat) : Bool :=
  validP s h l m && (validN s' h' l' && ((s == s') && sameN (widthN s) m.toNat (valN s' h' l') (valN s h l)))
theorem cut_eq_iff {s : Bool} {h l h' l' : Nat} {m : Int} (hl : B64 l) (hl' : B64 l') (hp : validP s h l m = true) (hv' : validN s h' l' = true) :
    (decide (cutH s h' m.toNat = h) && decide (cutL s l' m.toNat = l)) = sameN (widthN s) m.toNat (valN s h' l') (valN s h l) := by
  obtain ⟨h1, h2, h3, h4, h5⟩ := validP_parts hp
  rw [Bool.eq_iff_iff]
  simp only [Bool.and_eq_true, decide_eq_true_eq, sameN]
  rw [← val_inj (cutL_lt hl') hl (cut_valid hv') h1, val_cut hl' (by omega)]
  have e := validP_cut hl hp
  constructor
  · intro h
    exact cut_inj.1 (h.trans e.symm)
  · intro h
    exact (cut_inj.2 h).trans e
theorem Holds_is (s : Bool) (h l : Nat) (hh : B64 h) (hl : B64 l) (m : Int) (s' : Bool) (h' l' : Nat) (hh' : B64 h') (hl' : B64 l') :
    prefix_Holds.f s h l m s' h' l' = some (holdsP s h l m s' h' l') := by
  unfold prefix_Holds.f holdsP
  rw [Valid_is s h l hh hl m, Option.bind_some]
  cases hp : validP s h l m with
  | false => rfl
  | true =>
    rw [if_pos rfl, addr_Valid_is, Option.bind_some]
    cases hv : validN s' h' l' with
    | false => rfl
    | true =>
      rw [if_pos rfl]
      obtain ⟨h1, h2, h3, h4, h5⟩ := validP_parts hp
      by_cases e : s = s'
      · subst e
        rw [if_pos (by simp), cut_is s h' l' hh' hl' m h2 h3]
        simp only [Option.bind_some, beq_cast, beq_self_eq_true, Bool.true_and]
        rw [cut_eq_iff hl hl' hp hv]
      · rw [if_neg (by simpa using e)]
        have : (s == s') = false := by simpa using e
        rw [this]; rfl
def coversP (s : Bool) (h l : Nat) (m : Int) (s' : Bool) (h' l' : Nat) (m' : Int) : Bool := validP s' h' l' m' && (decide (m ≤ m') && holdsP s h l m s' h' l')
theorem Covers_is (s : Bool) (h l : Nat) (hh : B64 h) (hl : B64 l) (m : Int) (s' : Bool) (h' l' : Nat) (hh' : B64 h') (hl' : B64 l') (m' : Int) :
    prefix_Covers.f s h l m s' h' l' m' = some (coversP s h l m s' h' l' m') := by
  unfold prefix_Covers.f coversP
  rw [Valid_is s' h' l' hh' hl' m', Option.bind_some]
  cases hp : validP s' h' l' m' with
  | false => rfl
  | true =>
    rw [if_pos rfl]
    by_cases e : m ≤ m'
    · rw [if_pos e, Holds_is s h l hh hl m s' h' l' hh' hl', decide_eq_true e]; rfl
    · rw [if_neg e, decide_eq_false e]; rfl

def lessA (s : Bool) (h l : Nat) (s' : Bool) (h' l' : Nat) : Bool :=
  validN s h l && (validN s' h' l' && if s = s' then decide (valN s h l < valN s' h' l') else s')
theorem addr_Less_ev (s : Bool) (h l : Nat) (hh : B64 h) (hl : B64 l) (s' : Bool) (h' l' : Nat) (hh' : B64 h') (hl' : B64 l') :
    Ev (fun k => addr_Less.f k s h l s' h' l') (lessA s h l s' h' l') := by
  refine ⟨1, fun k hk => ?_⟩
  obtain ⟨k, rfl⟩ : ∃ m, k = m + 1 := ⟨k - 1, by omega⟩
  show addr_Less.f (k + 1) s h l s' h' l' = _
  unfold addr_Less.f lessA
  rw [addr_Valid_is, Option.bind_some]
  cases hv : validN s h l with
  | false => rfl
  | true =>
    rw [if_pos rfl, addr_Valid_is, Option.bind_some]
    cases hv' : validN s' h' l' with
    | false => rfl
    | true =>
      rw [if_pos rfl]
      simp only [addr_Less.j0, beq_cast, Bool.true_and]
      unfold B64 at *
      by_cases e : s = s'
      · subst e
        rw [if_pos rfl]
        by_cases e2 : h = h' ∧ l = l'
        · obtain ⟨rfl, rfl⟩ := e2
          rw [if_pos (by simp)]
          simp
        · rw [if_neg (by simpa using e2), if_neg (by simp)]
          cases s with
          | true =>
            simp only [valN, if_true]
            by_cases e3 : h = h'
            · subst e3
              rw [if_pos rfl]
              congr 1
              rw [Bool.eq_iff_iff, decide_eq_true_eq, decide_eq_true_eq]; omega
            · rw [if_neg (by omega)]
              congr 1
              rw [Bool.eq_iff_iff, decide_eq_true_eq, decide_eq_true_eq]; omega
          | false =>
            simp [validN] at hv hv'
            obtain ⟨rfl, _⟩ := hv
            obtain ⟨rfl, _⟩ := hv'
            rw [if_pos rfl]
            simp [valN]
      · have e2 : (s == s') = false := by simpa using e
        rw [e2, if_neg (by simp), if_pos (by simpa using e), if_neg e]
def lessP (s : Bool) (h l : Nat) (m : Int) (s' : Bool) (h' l' : Nat) (m' : Int) : Bool :=
  validP s h l m && (validP s' h' l' m' && (lessA s h l s' h' l' || (decide (s = s' ∧ h = h' ∧ l = l') && decide (m < m'))))
theorem Less_ev (s : Bool) (h l : Nat) (hh : B64 h) (hl : B64 l) (m : Int) (s' : Bool) (h' l' : Nat) (hh' : B64 h') (hl' : B64 l') (m' : Int) :
    Ev (fun k => prefix_Less.f k s h l m s' h' l' m') (lessP s h l m s' h' l' m') := by
  obtain ⟨K, hK⟩ := addr_Less_ev s h l hh hl s' h' l' hh' hl'
  refine ⟨K, fun k hk => ?_⟩
  have h1 := hK k hk
  simp only at h1
  show prefix_Less.f k s h l m s' h' l' m' = _
  unfold prefix_Less.f lessP
  rw [Valid_is s h l hh hl m, Option.bind_some]
  cases hv : validP s h l m with
  | false => rfl
  | true =>
    rw [if_pos rfl, Valid_is s' h' l' hh' hl' m', Option.bind_some]
    cases hv' : validP s' h' l' m' with
    | false => rfl
    | true =>
      rw [if_pos rfl, h1, Option.bind_some]
      cases hL : lessA s h l s' h' l' with
      | true => rfl
      | false =>
        rw [if_neg (by decide)]
        simp only [beq_cast]
        have e : (s == s' && (decide (h = h') && decide (l = l'))) = decide (s = s' ∧ h = h' ∧ l = l') := by
          rw [Bool.eq_iff_iff]; simp
        rw [e]
        cases decide (s = s' ∧ h = h' ∧ l = l') <;> rfl
end Go.Proofs.YtmhjgjdiifcdlaaDoor.Pure1
