/- What the reference's Cut, Of, Valid, Common, Holds, Covers, Less come to, in plain numbers. -/
import Derived.Test.YtmhjgjdiifcdlaaDoorPure2
import Derived.Test.YtmhjgjdiifcdlaaDoorPure4
import Derived.Test.YtmhjgjdiifcdlaaDoorPRef04Covers
set_option linter.unusedVariables false
namespace Go.Proofs.YtmhjgjdiifcdlaaDoor.Pure1
open Go.RowKit Go.Proofs.YtmhjgjdiifcdlaaDoor.P Go.Proofs.YtmhjgjdiifcdlaaDoor.Nat_ Go.Proofs.YtmhjgjdiifcdlaaDoorW.PrintWords Go.Proofs.YtmhjgjdiifcdlaaDoorW.PrintMore

/-! Common -/
def IsCommon (s : Bool) (h l : Nat) (s' : Bool) (h' l' : Nat) (n : Int) : Prop :=
  if validN s h l && (validN s' h' l' && s == s') then ∃ c : Nat, n = c ∧ Agree (widthN s) (valN s h l) (valN s h' l') c else n = -1
theorem IsCommon_unique {s : Bool} {h l : Nat} {s' : Bool} {h' l' : Nat} {n n' : Int} (a : IsCommon s h l s' h' l' n) (b : IsCommon s h l s' h' l' n') : n = n' := by
  unfold IsCommon at a b
  split at a
  · rw [if_pos ‹_›] at b
    obtain ⟨c, rfl, hc⟩ := a
    obtain ⟨c', rfl, hc'⟩ := b
    rw [agree_unique hc hc']
  · rw [if_neg ‹_›] at b
    omega
theorem common_l0 (s : Bool) (h l h' l' : Nat) (hh : B64 h) (hl : B64 l) (hh' : B64 h') (hl' : B64 l') (hv : validN s h l = true) (hv' : validN s h' l' = true) :
    ∀ (d j : Nat), j + d = widthN s → valN s h l / 2 ^ (widthN s - j) = valN s h' l' / 2 ^ (widthN s - j) →
      ∃ c : Nat, Ev (fun k => crosswayref04_Common.l0 k j s h l s h' l') (c : Int) ∧ Agree (widthN s) (valN s h l) (valN s h' l') c := by
  have hw : widthN s ≤ 128 := by cases s <;> simp [widthN]
  intro d
  induction d with
  | zero =>
    intro j hj he
    refine ⟨j, Ev.step (fun k => ?_) (Ev.now _), by omega, he, by omega⟩
    simp only [crosswayref04_Common.l0]
    rw [rWidth_is, Option.bind_some, if_neg (by omega)]
  | succ d ih =>
    intro j hj he
    have hb := rBit_ev s h l hh hl (j : Int) (by omega) (by omega)
    have hb' := rBit_ev s h' l' hh' hl' (j : Int) (by omega) (by omega)
    rw [bitP_at s h l hv j (by omega)] at hb
    rw [bitP_at s h' l' hv' j (by omega)] at hb'
    have e1 : bitN (widthN s) j (valN s h l) = valN s h l / 2 ^ (widthN s - (j + 1)) % 2 := by unfold bitN; rw [show widthN s - 1 - j = widthN s - (j + 1) from by omega]
    have e2 : bitN (widthN s) j (valN s h' l') = valN s h' l' / 2 ^ (widthN s - (j + 1)) % 2 := by unfold bitN; rw [show widthN s - 1 - j = widthN s - (j + 1) from by omega]
    have d1 := div_step (valN s h l) (widthN s - (j + 1))
    have d2 := div_step (valN s h' l') (widthN s - (j + 1))
    rw [show widthN s - (j + 1) + 1 = widthN s - j from by omega] at d1 d2
    by_cases e : bitN (widthN s) j (valN s h l) = bitN (widthN s) j (valN s h' l')
    · obtain ⟨c, hc, ha⟩ := ih (j + 1) (by omega) (by rw [d1, d2, he, ← e1, ← e2, e])
      refine ⟨c, Ev.step (fun k => ?_) (Ev.bind (f := fun k t => (crosswayref04_Bit.f k s h' l' j).bind fun t341 => (if t = t341 then (crosswayref04_Common.l0 k ((j + 1 : Nat) : Int) s h l s h' l') else (some (j : Int)))) hb
        (Ev.bind (f := fun k t => if (bitN (widthN s) j (valN s h l) : Int) = t then (crosswayref04_Common.l0 k ((j + 1 : Nat) : Int) s h l s h' l') else (some (j : Int))) hb' (Ev.congr (fun k => ?_) hc))), ha⟩
      · simp only [crosswayref04_Common.l0]
        rw [rWidth_is, Option.bind_some, if_pos (by omega), w64 (x := (j : Int) + 1) (by omega) (by omega)]
        rfl
      · rw [if_pos (by rw [e])]
    · refine ⟨j, Ev.step (fun k => ?_) (Ev.bind (f := fun k t => (crosswayref04_Bit.f k s h' l' j).bind fun t341 => (if t = t341 then (crosswayref04_Common.l0 k ((j + 1 : Nat) : Int) s h l s h' l') else (some (j : Int)))) hb
        (Ev.bind (f := fun k t => if (bitN (widthN s) j (valN s h l) : Int) = t then (crosswayref04_Common.l0 k ((j + 1 : Nat) : Int) s h l s h' l') else (some (j : Int))) hb' (Ev.congr (fun k => ?_) (Ev.now _)))), by omega, he, fun _ => ?_⟩
      · simp only [crosswayref04_Common.l0]
        rw [rWidth_is, Option.bind_some, if_pos (by omega), w64 (x := (j : Int) + 1) (by omega) (by omega)]
        rfl
      · rw [if_neg (by omega)]
      · intro e3
        rw [show widthN s - j - 1 = widthN s - (j + 1) from by omega] at e3
        exact e (by rw [e1, e2, e3])
theorem rCommon_ev (s : Bool) (h l : Nat) (s' : Bool) (h' l' : Nat) (hh : B64 h) (hl : B64 l) (hh' : B64 h') (hl' : B64 l') :
    ∃ n : Int, Ev (fun k => crosswayref04_Common.f k s h l s' h' l') n ∧ IsCommon s h l s' h' l' n := by
  have hno : ∀ (c : Bool), c = true → Ev (fun k => crosswayref04_Common.j0 k c s h l s' h' l') (-1 : Int) := by
    intro c hc
    refine Ev.step (f := fun _ => some (-1)) (fun k => ?_) (Ev.now _)
    simp only [crosswayref04_Common.j0]
    rw [if_pos hc]
  unfold IsCommon
  cases hv : validN s h l with
  | false =>
    refine ⟨-1, Ev.congr (fun k => ?_) (hno true rfl), by simp⟩
    unfold crosswayref04_Common.f
    rw [rValid_is, Option.bind_some, rValid_is, Option.bind_some, hv, if_neg (by decide)]
  | true =>
    cases hv' : validN s' h' l' with
    | false =>
      refine ⟨-1, Ev.congr (fun k => ?_) (hno true rfl), by simp⟩
      unfold crosswayref04_Common.f
      rw [rValid_is, Option.bind_some, rValid_is, Option.bind_some, hv, hv', if_pos rfl, if_neg (by decide)]
    | true =>
      by_cases e : s = s'
      · subst e
        have e0 : (true && (true && s == s)) = true := by simp
        simp only [e0, if_true]
        have hw := val_lt hh hl hv
        have hw' := val_lt hh' hl' hv'
        obtain ⟨c, hc, ha⟩ := common_l0 s h l h' l' hh hl hh' hl' hv hv' (widthN s) 0 (by omega) (by rw [Nat.sub_zero, Nat.div_eq_of_lt hw, Nat.div_eq_of_lt hw'])
        refine ⟨c, Ev.congr (fun k => ?_) (Ev.step (g := fun k => crosswayref04_Common.j0 k false s h l s h' l') (fun k => ?_) hc), c, rfl, ha⟩
        · unfold crosswayref04_Common.f
          rw [rValid_is, Option.bind_some, rValid_is, Option.bind_some, hv, hv', if_pos rfl, if_pos rfl]
          simp
        · simp only [crosswayref04_Common.j0]
          rw [if_neg (by decide)]
          rfl
      · have e2 : (s == s') = false := by simpa using e
        refine ⟨-1, Ev.congr (fun k => ?_) (hno true rfl), by simp [e2]⟩
        unfold crosswayref04_Common.f
        rw [rValid_is, Option.bind_some, rValid_is, Option.bind_some, hv, hv', if_pos rfl, if_pos rfl, show (s != s') = true from by simpa using e]
theorem rHolds_ev (s : Bool) (h l : Nat) (m : Int) (s' : Bool) (h' l' : Nat) (hh : B64 h) (hl : B64 l) (hh' : B64 h') (hl' : B64 l') :
    Ev (fun k => crosswayref04_Holds.f k s h l m s' h' l') (holdsP s h l m s' h' l') := by
  have hV := rValid_ev s h l hh hl m
  unfold holdsP
  cases hp : validP s h l m with
  | false =>
    rw [hp] at hV
    refine Ev.congr (fun k => ?_) (Ev.bind (f := fun k t => if t = true then ((crosswayref04_Common.f k s h l s' h' l').bind fun t => (some (decide (t ≥ m)))) else (some false)) hV (Ev.congr (fun k => ?_) (Ev.now _)))
    · unfold crosswayref04_Holds.f; rfl
    · rfl
  | true =>
    rw [hp] at hV
    obtain ⟨n, hn, hc⟩ := rCommon_ev s h l s' h' l' hh hl hh' hl'
    obtain ⟨h1, h2, h3, h4, h5⟩ := validP_parts hp
    refine Ev.congr (fun k => ?_) (Ev.bind (f := fun k t => if t = true then ((crosswayref04_Common.f k s h l s' h' l').bind fun t => (some (decide (t ≥ m)))) else (some false)) hV (Ev.congr (fun k => ?_) (Ev.bind (f := fun k t => some (decide (t ≥ m))) hn (Ev.congr (fun k => ?_) (Ev.now _)))))
    · unfold crosswayref04_Holds.f; rfl
    · rfl
    · congr 1
      unfold IsCommon at hc
      rw [h1] at hc
      cases hv' : validN s' h' l' with
      | false =>
        rw [hv'] at hc
        simp at hc
        subst hc
        rw [decide_eq_false (by omega)]; rfl
      | true =>
        rw [hv'] at hc
        by_cases e : s = s'
        · subst e
          simp at hc
          obtain ⟨c, rfl, ha⟩ := hc
          have := agree_ge ha (m := m.toNat) (by omega)
          simp only [sameN, beq_self_eq_true, Bool.true_and]
          rw [Bool.eq_iff_iff, decide_eq_true_eq, decide_eq_true_eq]
          constructor
          · intro h; exact (this.1 (by omega)).symm
          · intro h
            have := this.2 h.symm
            omega
        · have e2 : (s == s') = false := by simpa using e
          rw [e2] at hc
          simp at hc
          subst hc
          rw [e2, decide_eq_false (by omega)]; rfl
theorem rCovers_ev (s : Bool) (h l : Nat) (m : Int) (s' : Bool) (h' l' : Nat) (m' : Int) (hh : B64 h) (hl : B64 l) (hh' : B64 h') (hl' : B64 l') :
    Ev (fun k => crosswayref04_Covers.f k s h l m s' h' l' m') (coversP s h l m s' h' l' m') := by
  have hV := rValid_ev s' h' l' hh' hl' m'
  have hH := rHolds_ev s h l m s' h' l' hh hl hh' hl'
  unfold coversP
  refine Ev.congr (fun k => ?_) (Ev.bind (f := fun k t => if t = true then (if m ≤ m' then ((crosswayref04_Holds.f k s h l m s' h' l').bind fun t => (some t)) else (some false)) else (some false)) hV ?_)
  · unfold crosswayref04_Covers.f; rfl
  · cases validP s' h' l' m' with
    | false => exact Ev.congr (fun k => rfl) (Ev.now _)
    | true =>
      by_cases e : m ≤ m'
      · rw [decide_eq_true e]
        refine Ev.congr (fun k => ?_) (Ev.bind (f := fun k t => some t) hH (Ev.now _))
        rw [if_pos rfl, if_pos e]
      · rw [decide_eq_false e]
        refine Ev.congr (fun k => ?_) (Ev.now _)
        rw [if_pos rfl, if_neg e]; rfl
end Go.Proofs.YtmhjgjdiifcdlaaDoor.Pure1
