/- The law PrefixHalves, in plain numbers, and its call. -/
import Derived.Test.YtmhjgjdiifcdlaaDoorAwake
import Derived.Test.YtmhjgjdiifcdlaaDoorPure5b
import Derived.Test.YtmhjgjdiifcdlaaDoorHalvesWalk
set_option linter.unusedVariables false
namespace Go.Proofs.YtmhjgjdiifcdlaaDoor.Pure1
open Go.RowKit Go.Proofs.YtmhjgjdiifcdlaaDoor.P Go.Proofs.YtmhjgjdiifcdlaaDoor.Nat_ Go.Proofs.YtmhjgjdiifcdlaaDoorW.PrintWords Go.Proofs.YtmhjgjdiifcdlaaDoorW.PrintMore

/-- The two halves, in numbers. -/
structure HalfFacts (s : Bool) (h l : Nat) (m : Int) : Prop where
  bh : B64 (halfH s h m.toNat)
  bl : B64 (halfL s l m.toNat)
  vx : validP s h l (m + 1) = true
  vy : validP s (halfH s h m.toNat) (halfL s l m.toNat) (m + 1) = true
  val : valN s (halfH s h m.toNat) (halfL s l m.toNat) = valN s h l + 2 ^ (widthN s - 1 - m.toNat)
  mod : valN s h l % 2 ^ (widthN s - m.toNat) = 0

theorem half_facts {s : Bool} {h l : Nat} {m : Int} (hh : B64 h) (hl : B64 l) (hp : validP s h l m = true) (hm : m < widthN s) : HalfFacts s h l m := by
  obtain ⟨bh, bl, b4⟩ := half_lt hh hl hp hm
  obtain ⟨v1, v2, v3, v4, v5⟩ := validP_parts hp
  have hmn : m.toNat < widthN s := by omega
  have hv := val_half v1 hmn
  have hmod := cut_mod (validP_cut hl hp)
  have e1 : (m + 1).toNat = m.toNat + 1 := by omega
  have e2 : widthN s - m.toNat = (widthN s - (m.toNat + 1)) + 1 := by omega
  have e3 : widthN s - 1 - m.toNat = widthN s - (m.toNat + 1) := by omega
  rw [e2, Nat.pow_succ] at hmod
  have hx0 : valN s h l % 2 ^ (widthN s - (m.toNat + 1)) = 0 := by
    have := Nat.mod_mul_right_mod (valN s h l) (2 ^ (widthN s - (m.toNat + 1))) 2
    rw [hmod] at this
    simpa using this.symm
  have cutof : ∀ V, V % 2 ^ (widthN s - (m.toNat + 1)) = 0 → cutN (widthN s) (m + 1).toNat V = V := by
    intro V hV
    unfold cutN
    rw [e1]
    exact Nat.div_mul_cancel (Nat.dvd_of_mod_eq_zero hV)
  have vn : validN s (halfH s h m.toNat) (halfL s l m.toNat) = true := by
    unfold validN
    cases s with
    | true => rfl
    | false =>
      obtain ⟨c1, c2⟩ := b4 rfl
      simp only [Bool.false_or, Bool.and_eq_true, decide_eq_true_eq]
      exact ⟨c1, by omega⟩
  refine ⟨bh, bl, validP_of hl v1 (by omega) (by omega) (cutof _ hx0), validP_of bl vn (by omega) (by omega) (cutof _ ?_), hv, ?_⟩
  · rw [hv, e3, Nat.add_mod, hx0]; simp
  · rw [e2, Nat.pow_succ]; exact hmod

theorem half_div {A V w m : Nat} (hm : m < w) (hV : V % 2 ^ (w - m) = 0) : ∃ q, V / 2 ^ (w - (m + 1)) = 2 * q ∧ V / 2 ^ (w - m) = q ∧ (V + 2 ^ (w - 1 - m)) / 2 ^ (w - (m + 1)) = 2 * q + 1 ∧ (V + 2 ^ (w - 1 - m)) / 2 ^ (w - m) = q ∧ A / 2 ^ (w - m) = A / 2 ^ (w - (m + 1)) / 2 := by
  have e2 : w - m = (w - (m + 1)) + 1 := by omega
  have e3 : w - 1 - m = w - (m + 1) := by omega
  have hp : 0 < 2 ^ (w - (m + 1)) := Nat.two_pow_pos _
  refine ⟨V / 2 ^ (w - m), ?_, rfl, ?_, ?_, ?_⟩
  · rw [e2, Nat.pow_succ, ← Nat.div_div_eq_div_mul]
    have : V / 2 ^ (w - (m + 1)) % 2 = 0 := by
      rw [e2, Nat.pow_succ] at hV
      have h1 := Nat.mod_mul_right_div_self V (2 ^ (w - (m + 1))) 2
      rw [hV, Nat.zero_div] at h1
      exact h1.symm
    omega
  · rw [e3, Nat.add_div_right _ hp]
    rw [e2, Nat.pow_succ, ← Nat.div_div_eq_div_mul]
    have : V / 2 ^ (w - (m + 1)) % 2 = 0 := by
      rw [e2, Nat.pow_succ] at hV
      have h1 := Nat.mod_mul_right_div_self V (2 ^ (w - (m + 1))) 2
      rw [hV, Nat.zero_div] at h1
      exact h1.symm
    omega
  · rw [e3, e2, Nat.pow_succ, ← Nat.div_div_eq_div_mul, Nat.add_div_right _ hp, ← Nat.div_div_eq_div_mul]
    have : V / 2 ^ (w - (m + 1)) % 2 = 0 := by
      rw [e2, Nat.pow_succ] at hV
      have h1 := Nat.mod_mul_right_div_self V (2 ^ (w - (m + 1))) 2
      rw [hV, Nat.zero_div] at h1
      exact h1.symm
    omega
  · rw [e2, Nat.pow_succ, ← Nat.div_div_eq_div_mul]

theorem PrefixHalves_call (s : Bool) (h l : Nat) (hh : B64 h) (hl : B64 l) (m : Int) (s' : Bool) (h' l' : Nat) (hh' : B64 h') (hl' : B64 l') (w : World) (hG : Glob w) :
    Calls Tryd.prog 6 #[.agg #[.bool s, .int .u64 h, .int .u64 l, .int .i64 m], .agg #[.bool s', .int .u64 h', .int .u64 l']] w fun e w' => e = .returned (.bool true) ∧ Below w.heap.size w w' := by
  obtain ⟨K1, e1⟩ := awake_ev
  obtain ⟨K2, eh⟩ := pHalves_ev s h l hh hl m
  cases hp : validP s h l m with
  | false =>
    have e1 := e1 (K1 + K2) (by omega)
    have eh := eh (K1 + K2) (by omega)
    unfold halvesP at eh
    rw [hp] at eh
    exact crosswaylaw04_PrefixHalves.walk_no (K1 + K2) s h l m s' h' l' false w hG e1 eh ((Valid_is s h l hh hl m).trans (congrArg some hp)) (.inl rfl)
  | true =>
    obtain ⟨v1, v2, v3, v4, v5⟩ := validP_parts hp
    by_cases hm : m < widthN s
    · have F := half_facts hh hl hp hm
      obtain ⟨K3, rh⟩ := rHalves_ev s h l hh hl m
      obtain ⟨K4, l1⟩ := Less_ev s h l hh hl m s h l hh hl (m + 1)
      obtain ⟨K5, l2⟩ := Less_ev s h l hh hl (m + 1) s (halfH s h m.toNat) (halfL s l m.toNat) F.bh F.bl (m + 1)
      have e1 := e1 (K1 + K2 + K3 + K4 + K5) (by omega)
      have eh := eh (K1 + K2 + K3 + K4 + K5) (by omega)
      have rh := rh (K1 + K2 + K3 + K4 + K5) (by omega)
      have l1 := l1 (K1 + K2 + K3 + K4 + K5) (by omega)
      have l2 := l2 (K1 + K2 + K3 + K4 + K5) (by omega)
      unfold halvesP at eh rh
      rw [hp, decide_eq_true hm] at eh rh
      simp only [Bool.and_self, if_true] at eh rh
      obtain ⟨q, q1, q2, q3, q4, q5⟩ := half_div (A := valN s' h' l') (w := widthN s) (m := m.toNat) (by omega) F.mod
      have e3 : (m + 1).toNat = m.toNat + 1 := by omega
      have vxn := (validP_parts F.vx).1
      have vyn := (validP_parts F.vy).1
      have hpos : 0 < 2 ^ (widthN s - 1 - m.toNat) := Nat.two_pow_pos _
      -- whom they hold
      have hHp : ∀ a b, holdsP s h l m s a b = (validN s a b && decide (valN s a b / 2 ^ (widthN s - m.toNat) = q)) := by
        intro a b
        unfold holdsP sameN
        rw [hp, q2]; simp
      have cxp : coversP s h l m s h l (m + 1) = true := by
        unfold coversP
        rw [F.vx, hHp, v1, q2]
        simp <;> omega
      have cyp : coversP s h l m s (halfH s h m.toNat) (halfL s l m.toNat) (m + 1) = true := by
        unfold coversP
        rw [F.vy, hHp, vyn, F.val, q4]
        simp <;> omega
      have cxy : coversP s h l (m + 1) s (halfH s h m.toNat) (halfL s l m.toNat) (m + 1) = false := by
        unfold coversP holdsP sameN
        rw [F.vx, F.vy, vyn, F.val, e3, q3, q1]
        simp <;> omega
      have cyx : coversP s (halfH s h m.toNat) (halfL s l m.toNat) (m + 1) s h l (m + 1) = false := by
        unfold coversP holdsP sameN
        rw [F.vx, F.vy, v1, F.val, e3, q3, q1]
        simp <;> omega
      have cpx : coversP s h l (m + 1) s h l m = false := by
        unfold coversP
        rw [decide_eq_false (p := m + 1 ≤ m) (by omega)]
        simp
      have lpx : lessP s h l m s h l (m + 1) = true := by
        unfold lessP
        rw [hp, F.vx, decide_eq_true (p := m < m + 1) (by omega)]
        simp
      have lxy : lessP s h l (m + 1) s (halfH s h m.toNat) (halfL s l m.toNat) (m + 1) = true := by
        unfold lessP lessA
        rw [F.vx, F.vy, vyn, v1, F.val]
        simp <;> omega
      rw [lpx] at l1
      rw [lxy] at l2
      have H1 := (Holds_is s h l hh hl m s' h' l' hh' hl')
      have H2 := (Holds_is s h l hh hl (m + 1) s' h' l' hh' hl')
      have H3 := (Holds_is s (halfH s h m.toNat) (halfL s l m.toNat) F.bh F.bl (m + 1) s' h' l' hh' hl')
      have C1 := (Covers_is s h l hh hl m s h l hh hl (m + 1)).trans (congrArg some cxp)
      have C2 := (Covers_is s h l hh hl m s (halfH s h m.toNat) (halfL s l m.toNat) F.bh F.bl (m + 1)).trans (congrArg some cyp)
      have C3 := (Covers_is s h l hh hl (m + 1) s (halfH s h m.toNat) (halfL s l m.toNat) F.bh F.bl (m + 1)).trans (congrArg some cxy)
      have C4 := (Covers_is s (halfH s h m.toNat) (halfL s l m.toNat) F.bh F.bl (m + 1) s h l hh hl (m + 1)).trans (congrArg some cyx)
      have C5 := (Covers_is s h l hh hl (m + 1) s h l hh hl m).trans (congrArg some cpx)
      have h2 : holdsP s h l m s' h' l' = (holdsP s h l (m + 1) s' h' l' != holdsP s (halfH s h m.toNat) (halfL s l m.toNat) (m + 1) s' h' l') ∧ (holdsP s h l (m + 1) s' h' l' && holdsP s (halfH s h m.toNat) (halfL s l m.toNat) (m + 1) s' h' l') = false := by
        unfold holdsP sameN
        rw [hp, F.vx, F.vy, F.val, e3, q1, q2, q3, q5]
        cases validN s' h' l' with
        | false => simp
        | true =>
          cases (s == s') with
          | false => simp
          | true =>
            simp only [Bool.true_and]
            by_cases a : valN s' h' l' / 2 ^ (widthN s - (m.toNat + 1)) = 2 * q
            · rw [decide_eq_true a, decide_eq_false (p := valN s' h' l' / 2 ^ (widthN s - (m.toNat + 1)) = 2 * q + 1) (by omega), decide_eq_true (p := valN s' h' l' / 2 ^ (widthN s - (m.toNat + 1)) / 2 = q) (by omega)]
              decide
            · by_cases b : valN s' h' l' / 2 ^ (widthN s - (m.toNat + 1)) = 2 * q + 1
              · rw [decide_eq_false a, decide_eq_true b, decide_eq_true (p := valN s' h' l' / 2 ^ (widthN s - (m.toNat + 1)) / 2 = q) (by omega)]
                decide
              · rw [decide_eq_false a, decide_eq_false b, decide_eq_false (p := valN s' h' l' / 2 ^ (widthN s - (m.toNat + 1)) / 2 = q) (by omega)]
                decide
      have W := crosswaylaw04_PrefixHalves.walk_ok (K1 + K2 + K3 + K4 + K5) s h l m s' h' l' _ _ _ _ _ _ _ _ _ _ _ _ _ _ _ _ _ _ _ _ _ w hG e1 eh H1 H2 H3 C1 C2 C3 C4 C5 rh l1 l2 rfl rfl (by rw [h2.1]; simp) h2.2 (by simp)
      refine W.mono fun e w' ⟨he, hb⟩ => ⟨?_, hb⟩
      rw [he]
      simp
    · have e1 := e1 (K1 + K2) (by omega)
      have eh := eh (K1 + K2) (by omega)
      unfold halvesP at eh
      rw [hp, decide_eq_false hm] at eh
      refine crosswaylaw04_PrefixHalves.walk_no (K1 + K2) s h l m s' h' l' true w hG e1 eh ((Valid_is s h l hh hl m).trans (congrArg some hp)) (.inr ?_)
      cases s with
      | true => simp only [widthN, if_true] at hm v3; exact .inl ⟨rfl, rfl, by omega⟩
      | false => simp [widthN] at hm v3; exact .inr ⟨rfl, rfl, by omega⟩
end Go.Proofs.YtmhjgjdiifcdlaaDoor.Pure1
