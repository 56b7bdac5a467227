/- What the reference's Cut, Of, Valid, Common, Holds, Covers, Less come to, in plain numbers. -/
import Derived.Test.YtmhjgjdiifcdlaaDoorPure3
set_option linter.unusedVariables false
namespace Go.Proofs.YtmhjgjdiifcdlaaDoor.Pure1
open Go.RowKit Go.Proofs.YtmhjgjdiifcdlaaDoor.P Go.Proofs.YtmhjgjdiifcdlaaDoor.Nat_ Go.Proofs.YtmhjgjdiifcdlaaDoorW.PrintWords Go.Proofs.YtmhjgjdiifcdlaaDoorW.PrintMore

theorem bit_cut (w m i V : Nat) (hi : i < w) (hm : m ≤ w) : bitN w i (cutN w m V) = if i < m then bitN w i V else 0 := by
  unfold bitN cutN
  by_cases h : i < m
  · rw [if_pos h]
    obtain ⟨d, hd⟩ : ∃ d, w - 1 - i = (w - m) + d := ⟨w - 1 - i - (w - m), by omega⟩
    rw [hd, Nat.pow_add, ← Nat.div_div_eq_div_mul, ← Nat.div_div_eq_div_mul, Nat.mul_div_cancel _ (Nat.two_pow_pos _)]
  · rw [if_neg h]
    obtain ⟨d, hd⟩ : ∃ d, w - m = (w - 1 - i) + (d + 1) := ⟨w - m - (w - 1 - i) - 1, by omega⟩
    rw [hd, Nat.pow_add, Nat.pow_succ, Nat.mul_comm (2 ^ (w - 1 - i)), ← Nat.mul_assoc, Nat.mul_div_cancel _ (Nat.two_pow_pos _), ← Nat.mul_assoc]
    omega

theorem getD_set (L : List Int) (i j : Nat) (x : Int) (hi : i < L.length) : (L.set i x).getD j 0 = if j = i then x else L.getD j 0 := by
  rw [List.getD_eq_getElem?_getD, List.getD_eq_getElem?_getD, List.getElem?_set]
  by_cases h : i = j
  · subst h; simp [hi]
  · rw [if_neg h, if_neg (fun e => h e.symm)]

theorem bitP_at (six : Bool) (h l : Nat) (hv : validN six h l = true) (i : Nat) (hi : i < widthN six) : bitP six h l i = (bitN (widthN six) i (valN six h l) : Int) := by
  unfold bitP
  rw [hv, decide_eq_true (p := (0 : Int) ≤ (i : Int)) (by omega), decide_eq_true (p := (i : Int) < (widthN six : Int)) (by omega)]
  simp

theorem cut_l0 (six : Bool) (h l : Nat) (hh : B64 h) (hl : B64 l) (hv : validN six h l = true) (m : Nat) (hm : m ≤ widthN six) :
    ∀ (d j : Nat) (L : List Int), j + d = m → L.length = widthN six → (∀ i, i < widthN six → L.getD i 0 = if i < j then (bitN (widthN six) i (valN six h l) : Int) else 0) →
      Ev (fun k => crosswayref04_Cut.l0 k m L j six h l) (six, (cutH six h m : Int), (cutL six l m : Int)) := by
  intro d
  induction d with
  | zero =>
    intro j L hj hlen hL
    obtain rfl : j = m := by omega
    have ho := of_ev six L (cutH six h j) (cutL six l j) (cutH_lt hh) (cutL_lt hl) hlen (fun i hi => by
      rw [hL i hi, val_cut hl hm, bit_cut _ _ _ _ hi hm]
      split <;> rfl) (fun e => by
        subst e
        have hv' := cut_valid (m := j) hv
        simp [validN] at hv'
        exact ⟨hv'.1, by omega⟩)
    refine Ev.step (f := fun k => (crosswayref04_of.f k six L).bind fun bt => some (bt.1, bt.2.1, bt.2.2)) (fun k => ?_) (Ev.bind (f := fun k bt => some (bt.1, bt.2.1, bt.2.2)) ho (Ev.now _))
    simp only [crosswayref04_Cut.l0]
    by_cases hx : (j : Int) < (L.length : Int)
    · rw [if_pos hx, if_neg (by omega)]
    · rw [if_neg hx]
  | succ d ih =>
    intro j L hj hlen hL
    have hjw : j < widthN six := by omega
    have hw : widthN six ≤ 128 := by cases six <;> simp [widthN]
    have hb := rBit_ev six h l hh hl (j : Int) (by omega) (by omega)
    rw [bitP_at six h l hv j hjw] at hb
    have hr := ih (j + 1) (L.set j (bitN (widthN six) j (valN six h l) : Int)) (by omega) (by simpa using hlen) (fun i hi => by
      rw [getD_set _ _ _ _ (by omega)]
      by_cases e : i = j
      · subst e; rw [if_pos rfl, if_pos (by omega)]
      · rw [if_neg e, hL i hi]
        by_cases e2 : i < j
        · rw [if_pos e2, if_pos (by omega)]
        · rw [if_neg e2, if_neg (by omega)])
    refine Ev.step (fun k => ?_) (Ev.bind (f := fun k t => crosswayref04_Cut.l0 k m (L.set j t) ((j + 1 : Nat) : Int) six h l) hb hr)
    simp only [crosswayref04_Cut.l0]
    rw [if_pos (by omega), if_pos (by omega), w64 (x := (j : Int) + 1) (by omega) (by omega)]
    have e : (0 : Int) ≤ (j : Int) := by omega
    simp only [e, if_true]
    rfl
theorem rCut_ev (six : Bool) (h l : Nat) (hh : B64 h) (hl : B64 l) (hv : validN six h l = true) (m : Int) (hm0 : 0 ≤ m) (hm : m ≤ widthN six) :
    Ev (fun k => crosswayref04_Cut.f k six h l m) (six, (cutH six h m.toNat : Int), (cutL six l m.toNat : Int)) := by
  obtain ⟨m, rfl⟩ := Int.eq_ofNat_of_zero_le hm0
  have hw : widthN six ≤ 128 := by cases six <;> simp [widthN]
  have h0 := cut_l0 six h l hh hl hv m (by omega) m 0 (List.replicate (widthN six) 0) (by omega) (by simp) (fun i hi => by simp [List.getD_eq_getElem?_getD, hi])
  refine Ev.congr (fun k => ?_) h0
  unfold crosswayref04_Cut.f
  rw [rWidth_is, Option.bind_some, if_pos (by omega), if_pos (by omega)]
  rfl
theorem rValid_ev (six : Bool) (h l : Nat) (hh : B64 h) (hl : B64 l) (m : Int) : Ev (fun k => crosswayref04_Valid.f k six h l m) (validP six h l m) := by
  unfold validP
  cases hv : validN six h l with
  | false =>
    refine Ev.congr (fun k => ?_) (Ev.now _)
    unfold crosswayref04_Valid.f
    rw [rValid_is, Option.bind_some, hv]; rfl
  | true =>
    by_cases h0 : m ≥ 0
    · by_cases h1 : m ≤ widthN six
      · have hc := rCut_ev six h l hh hl hv m h0 h1
        refine Ev.congr (fun k => ?_) (Ev.bind (f := fun k bt => some (bt.1 == six && (bt.2.1 == (h : Int) && (bt.2.2 == (l : Int))))) hc ?_)
        · unfold crosswayref04_Valid.f
          rw [rValid_is, Option.bind_some, hv, if_pos rfl, if_pos h0, rWidth_is, Option.bind_some, if_pos h1]
        · refine Ev.congr (fun k => ?_) (Ev.now _)
          rw [decide_eq_true (p := 0 ≤ m) h0, decide_eq_true h1]
          simp only [beq_cast, beq_self_eq_true, Bool.true_and]
      · refine Ev.congr (fun k => ?_) (Ev.now _)
        unfold crosswayref04_Valid.f
        rw [rValid_is, Option.bind_some, hv, if_pos rfl, if_pos h0, rWidth_is, Option.bind_some, if_neg h1, decide_eq_false h1, decide_eq_true (p := 0 ≤ m) h0]; rfl
    · refine Ev.congr (fun k => ?_) (Ev.now _)
      unfold crosswayref04_Valid.f
      rw [rValid_is, Option.bind_some, hv, if_pos rfl, if_neg h0, decide_eq_false (p := 0 ≤ m) h0]; rfl
theorem rOf_ev (six : Bool) (h l : Nat) (hh : B64 h) (hl : B64 l) (m : Int) : Ev (fun k => crosswayref04_Of.f k six h l m) (ofP six h l m) := by
  unfold ofP
  cases hv : validN six h l with
  | false =>
    refine Ev.congr (fun k => ?_) (Ev.now _)
    unfold crosswayref04_Of.f
    rw [rValid_is, Option.bind_some, hv]; rfl
  | true =>
    by_cases h0 : m < 0
    · refine Ev.congr (fun k => ?_) (Ev.now _)
      unfold crosswayref04_Of.f
      rw [rValid_is, Option.bind_some, hv, if_pos rfl, if_pos h0, decide_eq_false (p := 0 ≤ m) (by omega)]; rfl
    · by_cases h1 : m > widthN six
      · refine Ev.congr (fun k => ?_) (Ev.now _)
        unfold crosswayref04_Of.f
        rw [rValid_is, Option.bind_some, hv, if_pos rfl, if_neg h0, rWidth_is, Option.bind_some, if_pos h1, decide_eq_true (p := 0 ≤ m) (by omega), decide_eq_false (p := m ≤ widthN six) (by omega)]; rfl
      · have hc := rCut_ev six h l hh hl hv m (by omega) (by omega)
        refine Ev.congr (fun k => ?_) (Ev.bind (f := fun k bt => some (bt.1, bt.2.1, bt.2.2, m, (0 : Int))) hc ?_)
        · unfold crosswayref04_Of.f
          rw [rValid_is, Option.bind_some, hv, if_pos rfl, if_neg h0, rWidth_is, Option.bind_some, if_neg h1]
        · refine Ev.congr (fun k => ?_) (Ev.now _)
          rw [decide_eq_true (p := 0 ≤ m) (by omega), decide_eq_true (p := m ≤ widthN six) (by omega)]
          rfl
end Go.Proofs.YtmhjgjdiifcdlaaDoor.Pure1
