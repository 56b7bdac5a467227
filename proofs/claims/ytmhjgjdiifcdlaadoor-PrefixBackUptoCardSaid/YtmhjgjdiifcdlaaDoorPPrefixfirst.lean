-- Laid by a program (wip/pr.py) out of the translation: each function as a Lean function, and the proof that the call comes to it.
import Derived.Test.YtmhjgjdiifcdlaaDoorShort
import Derived.Test.YtmhjgjdiifcdlaaDoorPBase
namespace Go.Proofs.YtmhjgjdiifcdlaaDoor.P
open Go.RowKit Go.Proofs.YtmhjgjdiifcdlaaDoorW.PrintWords Go.Proofs.YtmhjgjdiifcdlaaDoorW.PrintLast Go.Proofs.YtmhjgjdiifcdlaaDoorW.PrintMore
attribute [local go_sem] max2_int min2_int max_two min_two max_three min_three max_four min_four   -- for this text's walks alone
set_option linter.unusedVariables false
set_option linter.unusedSimpArgs false

/-! ### prefix_first: function 46 -/
def prefix_first.f (a0 : Int) (a1 : Int) (a2 : Int) : Option (Int) := if 0 ≤ (wrap64 (a2 - (mn (mx a1 0) a2))) then (some (shl .u64 (shr .u64 a0 (wrap64 (a2 - (mn (mx a1 0) a2)))) (wrap64 (a2 - (mn (mx a1 0) a2))))) else (none)
set_option maxHeartbeats 8000000 in
set_option maxRecDepth 100000 in
theorem prefix_first.calls (a0 : Int) (a1 : Int) (a2 : Int) (r : Int) (w : World) (h : prefix_first.f a0 a1 a2 = some r) :
  Calls Tryd.prog 46 #[.int .u64 a0, .int .i64 a1, .int .i64 a2] w fun e w' => e = .returned (.int .u64 r) ∧ Below w.heap.size w w' := by
 have HB := Aside0.mk (Below.refl w.heap.size w)
 have H : (if 0 ≤ (wrap64 (a2 - (mn (mx a1 0) a2))) then (some (shl .u64 (shr .u64 a0 (wrap64 (a2 - (mn (mx a1 0) a2)))) (wrap64 (a2 - (mn (mx a1 0) a2))))) else (none)) = some r := h
 clear h
 obtain ⟨ji4, hji4⟩ : ∃ j_ : Int, (mx a1 0) = j_ := ⟨_, rfl⟩
 replace H : (if 0 ≤ (wrap64 (a2 - (mn (ji4) a2))) then (some (shl .u64 (shr .u64 a0 (wrap64 (a2 - (mn (ji4) a2)))) (wrap64 (a2 - (mn (ji4) a2))))) else (none)) = some r := by first | (rw [hji4] at H; exact H) | (simp only [hji4] at H ⊢; exact H)
 (try (have hji4l : 0 ≤ ji4 := by (rw [← hji4]; unfold mx; (repeat' split) <;> omega)))
 (try (have hji4m : 0 ≤ ji4 := by omega))
 have hji4_ : (if a1 < 0 then 0 else a1) = ji4 := hji4
 obtain ⟨ji5, hji5⟩ : ∃ j_ : Int, (mn (ji4) a2) = j_ := ⟨_, rfl⟩
 replace H : (if 0 ≤ (wrap64 (a2 - (ji5))) then (some (shl .u64 (shr .u64 a0 (wrap64 (a2 - (ji5)))) (wrap64 (a2 - (ji5))))) else (none)) = some r := by first | (rw [hji5] at H; exact H) | (simp only [hji5] at H ⊢; exact H)
 have hji5_ : (if a2 < (ji4) then a2 else (ji4)) = ji5 := hji5
 obtain ⟨ji6, hji6⟩ : ∃ j_ : Int, (wrap64 (a2 - (ji5))) = j_ := ⟨_, rfl⟩
 replace H : (if 0 ≤ (ji6) then (some (shl .u64 (shr .u64 a0 (ji6)) (ji6))) else (none)) = some r := by first | (rw [hji6] at H; exact H) | (simp only [hji6] at H ⊢; exact H)
 have hji6w : (IntKind.i64.wrap (a2 - (ji5))) = ji6 := (i64_w _).trans hji6
 by_cases c7 : 0 ≤ (ji6)
 ·rw [if_pos c7] at H
  have c7b0 := eq_true c7
  have c7b1 : decide (0 ≤ (ji6)) = true := decide_eq_true c7
  clear c7
  obtain ⟨ji8, hji8⟩ : ∃ j_ : Int, (shr .u64 a0 (ji6)) = j_ := ⟨_, rfl⟩
  replace H : (some (shl .u64 (ji8) (ji6))) = some r := by first | (rw [hji8] at H; exact H) | (simp only [hji8] at H ⊢; exact H)
  have hji8_ : (a0 / 2 ^ min (ji6).toNat 64) = ji8 := hji8
  have hji8z : (ji6) ≤ 64 → (a0 / 2 ^ (ji6).toNat) = ji8 := shr_small hji8
  have c9b0 := eq_true (of_decide_eq_true (by first | (with_reducible assumption) | assumption) : 0 ≤ (ji6))
  obtain ⟨ji10, hji10⟩ : ∃ j_ : Int, (shl .u64 (ji8) (ji6)) = j_ := ⟨_, rfl⟩
  replace H : (some ji10) = some r := by first | (rw [hji10] at H; exact H) | (simp only [hji10] at H ⊢; exact H)
  have hji10_ : (IntKind.u64.wrap ((ji8) * 2 ^ min (ji6).toNat 64)) = ji10 := hji10
  have hji10z : (ji6) ≤ 64 → (IntKind.u64.wrap ((ji8) * 2 ^ (ji6).toNat)) = ji10 := shl_small hji10
  obtain rfl := Option.some.inj H
  go_enter Tryd.func46, Tryd.ntmps46
  go_wp2
  go_ret
  exact ⟨by first | rfl | (simp [errW_none, errW_some] <;> rfl) | (simp only [← hji4, ← hji5, ← hji6, ← hji8, ← hji10]; first | rfl | (simp [errW_none, errW_some] <;> rfl)) | (simp [*, errW_none, errW_some] <;> rfl), Hb HB.out⟩
 ·rw [if_neg c7] at H
  exact absurd H (by simp)

end Go.Proofs.YtmhjgjdiifcdlaaDoor.P
