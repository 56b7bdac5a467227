/- What Less of the reference comes to, in plain numbers. -/
import Derived.Test.YtmhjgjdiifcdlaaDoorPure2
import Derived.Test.YtmhjgjdiifcdlaaDoorPure4
import Derived.Test.YtmhjgjdiifcdlaaDoorPRef04Less
set_option linter.unusedVariables false
namespace Go.Proofs.YtmhjgjdiifcdlaaDoor.Pure1
open Go.RowKit Go.Proofs.YtmhjgjdiifcdlaaDoor.P Go.Proofs.YtmhjgjdiifcdlaaDoor.Nat_ Go.Proofs.YtmhjgjdiifcdlaaDoorW.PrintWords Go.Proofs.YtmhjgjdiifcdlaaDoorW.PrintMore

theorem rLessA_ev (s : Bool) (h l : Nat) (hh : B64 h) (hl : B64 l) (s' : Bool) (h' l' : Nat) (hh' : B64 h') (hl' : B64 l') :
    Ev (fun k => crosswayref03_Less.f k s h l s' h' l') (lessA s h l s' h' l') := by
  refine ⟨1, fun k hk => ?_⟩
  obtain ⟨k, rfl⟩ : ∃ m, k = m + 1 := ⟨k - 1, by omega⟩
  show crosswayref03_Less.f (k + 1) s h l s' h' l' = _
  unfold crosswayref03_Less.f lessA
  rw [rValid_is, Option.bind_some]
  cases hv : validN s h l with
  | false => simp only [crosswayref03_Less.j0]; rfl
  | true =>
    rw [if_pos rfl, rValid_is, Option.bind_some]
    cases hv' : validN s' h' l' with
    | false => simp only [crosswayref03_Less.j0]; rfl
    | true =>
      simp only [crosswayref03_Less.j0, Bool.true_and]
      unfold B64 at *
      rw [if_neg (by decide)]
      by_cases e : s = s'
      · subst e
        rw [if_neg (by simp), if_pos rfl]
        cases s with
        | true =>
          simp only [valN, if_true]
          by_cases e3 : h < h'
          · rw [if_pos (by omega), decide_eq_true (by omega)]
          · rw [if_neg (by omega)]
            by_cases e4 : h = h'
            · subst e4
              rw [if_pos rfl]
              congr 1
              rw [Bool.eq_iff_iff, decide_eq_true_eq, decide_eq_true_eq]; omega
            · rw [if_neg (by omega), decide_eq_false (by omega)]
        | false =>
          simp [validN] at hv hv'
          obtain ⟨rfl, _⟩ := hv
          obtain ⟨rfl, _⟩ := hv'
          rw [if_neg (by omega), if_pos rfl]
          simp [valN]
      · rw [if_pos (by simpa using e), if_neg e]
theorem rLess_ev (s : Bool) (h l : Nat) (hh : B64 h) (hl : B64 l) (m : Int) (s' : Bool) (h' l' : Nat) (hh' : B64 h') (hl' : B64 l') (m' : Int) :
    Ev (fun k => crosswayref04_Less.f k s h l m s' h' l' m') (lessP s h l m s' h' l' m') := by
  obtain ⟨K, hK⟩ := rLessA_ev s h l hh hl s' h' l' hh' hl'
  obtain ⟨K1, hK1⟩ := rValid_ev s h l hh hl m
  obtain ⟨K2, hK2⟩ := rValid_ev s' h' l' hh' hl' m'
  refine ⟨max K (max K1 K2), fun k hk => ?_⟩
  have h1 := hK k (by omega)
  have h2 := hK1 k (by omega)
  have h3 := hK2 k (by omega)
  simp only at h1 h2 h3
  show crosswayref04_Less.f k s h l m s' h' l' m' = _
  unfold crosswayref04_Less.f lessP
  rw [h2, Option.bind_some, h3, Option.bind_some]
  cases hv : validP s h l m with
  | false => rfl
  | true =>
    rw [if_pos rfl]
    cases hv' : validP s' h' l' m' with
    | false => rfl
    | true =>
      rw [if_pos rfl, h1, Option.bind_some]
      cases hL : lessA s h l s' h' l' with
      | true => rfl
      | false =>
        rw [if_neg (by decide)]
        simp only [beq_cast]
        have e : (s == s' && (decide (h = h') && decide (l = l'))) = decide (s = s' ∧ h = h' ∧ l = l') := by
          rw [Bool.eq_iff_iff]; simp
        rw [e]
        cases decide (s = s' ∧ h = h' ∧ l = l') <;> rfl
end Go.Proofs.YtmhjgjdiifcdlaaDoor.Pure1
