/- The law PrefixNests, in plain numbers, and its call. -/
import Derived.Test.YtmhjgjdiifcdlaaDoorAwake
import Derived.Test.YtmhjgjdiifcdlaaDoorPure2
import Derived.Test.YtmhjgjdiifcdlaaDoorNestsWalk
set_option linter.unusedVariables false
namespace Go.Proofs.YtmhjgjdiifcdlaaDoor.Pure1
open Go.RowKit Go.Proofs.YtmhjgjdiifcdlaaDoor.P Go.Proofs.YtmhjgjdiifcdlaaDoor.Nat_ Go.Proofs.YtmhjgjdiifcdlaaDoorW.PrintWords Go.Proofs.YtmhjgjdiifcdlaaDoorW.PrintMore

theorem same_up {w m n x y : Nat} (hmn : m ≤ n) (hn : n ≤ w) (h : sameN w n x y = true) : sameN w m x y = true := by
  unfold sameN at h ⊢
  simp only [decide_eq_true_eq] at h ⊢
  exact div_mono h (by omega)
theorem same_tr {w m x y z : Nat} (h : sameN w m x y = true) (h' : sameN w m y z = true) : sameN w m x z = true := by
  unfold sameN at h h' ⊢
  simp only [decide_eq_true_eq] at h h' ⊢
  omega
theorem same_sy {w m x y : Nat} (h : sameN w m x y = true) : sameN w m y x = true := by
  unfold sameN at h ⊢
  simp only [decide_eq_true_eq] at h ⊢
  omega

/-- What 'holds' says. -/
theorem holds_iff {s : Bool} {h l : Nat} {m : Int} {s' : Bool} {h' l' : Nat} : holdsP s h l m s' h' l' = true ↔ validP s h l m = true ∧ validN s' h' l' = true ∧ s = s' ∧ sameN (widthN s) m.toNat (valN s' h' l') (valN s h l) = true := by
  unfold holdsP
  simp only [Bool.and_eq_true, beq_iff_eq]
theorem covers_iff {s : Bool} {h l : Nat} {m : Int} {s' : Bool} {h' l' : Nat} {m' : Int} : coversP s h l m s' h' l' m' = true ↔ validP s' h' l' m' = true ∧ m ≤ m' ∧ holdsP s h l m s' h' l' = true := by
  unfold coversP
  simp only [Bool.and_eq_true, decide_eq_true_eq]
/-- Whoever is held by the lesser is held by the greater. -/
theorem nest_up {s : Bool} {h l : Nat} {m : Int} {s1 : Bool} {h1 l1 : Nat} {m1 : Int} {s' : Bool} {h' l' : Nat} (hc : coversP s h l m s1 h1 l1 m1 = true) (hh : holdsP s1 h1 l1 m1 s' h' l' = true) : holdsP s h l m s' h' l' = true := by
  obtain ⟨vq, hm, hp⟩ := covers_iff.1 hc
  obtain ⟨vp, _, rfl, e1⟩ := holds_iff.1 hp
  obtain ⟨_, va, rfl, e2⟩ := holds_iff.1 hh
  obtain ⟨_, _, q3, _, _⟩ := validP_parts vq
  obtain ⟨_, p2, _, _, _⟩ := validP_parts vp
  exact holds_iff.2 ⟨vp, va, rfl, same_tr (same_up (by omega) (by omega) e2) e1⟩
/-- Of two that hold one and the same, one covers the other. -/
theorem nest_or {s : Bool} {h l : Nat} {m : Int} {s1 : Bool} {h1 l1 : Nat} {m1 : Int} {s' : Bool} {h' l' : Nat} (hp : holdsP s h l m s' h' l' = true) (hq : holdsP s1 h1 l1 m1 s' h' l' = true) : coversP s h l m s1 h1 l1 m1 = true ∨ coversP s1 h1 l1 m1 s h l m = true := by
  obtain ⟨vp, va, rfl, e1⟩ := holds_iff.1 hp
  obtain ⟨vq, _, rfl, e2⟩ := holds_iff.1 hq
  obtain ⟨p1, p2, p3, _, _⟩ := validP_parts vp
  obtain ⟨q1, q2, q3, _, _⟩ := validP_parts vq
  rcases Int.le_total m m1 with hm | hm
  · exact .inl (covers_iff.2 ⟨vq, hm, holds_iff.2 ⟨vp, q1, rfl, same_tr (same_sy (same_up (by omega) (by omega) e2)) e1⟩⟩)
  · exact .inr (covers_iff.2 ⟨vp, hm, holds_iff.2 ⟨vq, p1, rfl, same_tr (same_sy (same_up (by omega) (by omega) e1)) e2⟩⟩)
theorem nest_eq {s : Bool} {h l : Nat} {m : Int} {s1 : Bool} {h1 l1 : Nat} {m1 : Int} (hl : B64 l) (hl1 : B64 l1) (hp : coversP s h l m s1 h1 l1 m1 = true) (hq : coversP s1 h1 l1 m1 s h l m = true) : (s = s1 ∧ h = h1 ∧ l = l1 ∧ m = m1) ∧ validP s h l m = true := by
  obtain ⟨vq, hm, a⟩ := covers_iff.1 hp
  obtain ⟨vp, hm', b⟩ := covers_iff.1 hq
  obtain ⟨_, _, rfl, e1⟩ := holds_iff.1 a
  obtain rfl : m = m1 := by omega
  have c1 := validP_cut hl vp
  have c2 := validP_cut hl1 vq
  unfold sameN at e1
  simp only [decide_eq_true_eq] at e1
  have e := cut_inj.2 e1
  rw [c1, c2] at e
  obtain ⟨rfl, rfl⟩ := (val_inj hl1 hl (validP_parts vq).1 (validP_parts vp).1).1 e
  exact ⟨⟨rfl, rfl, rfl, rfl⟩, vp⟩
theorem nest_self {s : Bool} {h l : Nat} {m : Int} (v : validP s h l m = true) : coversP s h l m s h l m = true :=
  covers_iff.2 ⟨v, Int.le_refl _, holds_iff.2 ⟨v, (validP_parts v).1, rfl, by unfold sameN; simp⟩⟩

theorem PrefixNests_call (s : Bool) (h l : Nat) (hh : B64 h) (hl : B64 l) (m : Int) (s1 : Bool) (h1 l1 : Nat) (hh1 : B64 h1) (hl1 : B64 l1) (m1 : Int) (s' : Bool) (h' l' : Nat) (hh' : B64 h') (hl' : B64 l') (w : World) (hG : Glob w) :
    Calls Tryd.prog 7 #[.agg #[.bool s, .int .u64 h, .int .u64 l, .int .i64 m], .agg #[.bool s1, .int .u64 h1, .int .u64 l1, .int .i64 m1], .agg #[.bool s', .int .u64 h', .int .u64 l']] w fun e w' => e = .returned (.bool true) ∧ Below w.heap.size w w' := by
  refine crosswaylaw04_PrefixNests.walk 40 s h l m s1 h1 l1 m1 s' h' l' _ _ _ _ _ w hG awake_40 (Covers_is s h l hh hl m s1 h1 l1 hh1 hl1 m1) (Covers_is s1 h1 l1 hh1 hl1 m1 s h l hh hl m) (Holds_is s h l hh hl m s' h' l' hh' hl') (Holds_is s1 h1 l1 hh1 hl1 m1 s' h' l' hh' hl') (Valid_is s h l hh hl m) ?_ ?_ ?_ ?_
  · cases a : coversP s h l m s1 h1 l1 m1 <;> cases b : holdsP s1 h1 l1 m1 s' h' l' <;> first | rfl | simp [nest_up a b]
  · cases a : coversP s1 h1 l1 m1 s h l m <;> cases b : holdsP s h l m s' h' l' <;> first | rfl | simp [nest_up a b]
  · cases a : holdsP s h l m s' h' l' <;> cases b : holdsP s1 h1 l1 m1 s' h' l' <;> first
      | rfl
      | (rcases nest_or a b with c | c
         · simp [c]
         · simp [c])
  · by_cases e : s = s1 ∧ h = h1 ∧ l = l1 ∧ m = m1
    · obtain ⟨rfl, rfl, rfl, rfl⟩ := e
      have : ((s == s && ((h : Int) == (h : Int) && ((l : Int) == (l : Int)))) && (m == m)) = true := by simp
      rw [this]
      cases v : validP s h l m with
      | true => simp [nest_self v]
      | false =>
        have : coversP s h l m s h l m = false := by
          cases c : coversP s h l m s h l m with
          | false => rfl
          | true => have := (covers_iff.1 c).1; rw [v] at this; cases this
        simp [this]
    · have : ((s == s1 && ((h : Int) == (h1 : Int) && ((l : Int) == (l1 : Int)))) && (m == m1)) = false := by
        cases c : ((s == s1 && ((h : Int) == (h1 : Int) && ((l : Int) == (l1 : Int)))) && (m == m1)) with
        | false => rfl
        | true =>
          simp only [Bool.and_eq_true, beq_iff_eq] at c
          exact absurd ⟨c.1.1, by omega, by omega, c.2⟩ e
      rw [this]
      cases a : coversP s h l m s1 h1 l1 m1 <;> cases b : coversP s1 h1 l1 m1 s h l m <;> first | rfl | exact absurd (nest_eq hl hl1 a b).1 e
end Go.Proofs.YtmhjgjdiifcdlaaDoor.Pure1
