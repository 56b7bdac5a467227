/- The law PrefixOrders, in plain numbers. -/
import Derived.Test.YtmhjgjdiifcdlaaDoorAwake
import Derived.Test.YtmhjgjdiifcdlaaDoorPure5c
import Derived.Test.YtmhjgjdiifcdlaaDoorPLaw04PrefixOrders
set_option linter.unusedVariables false
namespace Go.Proofs.YtmhjgjdiifcdlaaDoor.Pure1
open Go.RowKit Go.Proofs.YtmhjgjdiifcdlaaDoor.P Go.Proofs.YtmhjgjdiifcdlaaDoor.Nat_ Go.Proofs.YtmhjgjdiifcdlaaDoorW.PrintWords Go.Proofs.YtmhjgjdiifcdlaaDoorW.PrintMore

theorem lessP_iff (s : Bool) (h l : Nat) (hl : B64 l) (m : Int) (s' : Bool) (h' l' : Nat) (hl' : B64 l') (m' : Int) :
    lessP s h l m s' h' l' m' = true ↔ validP s h l m = true ∧ validP s' h' l' m' = true ∧ ((s = s' ∧ (valN s h l < valN s' h' l' ∨ (valN s h l = valN s' h' l' ∧ m < m'))) ∨ (s ≠ s' ∧ s' = true)) := by
  unfold lessP
  cases hp : validP s h l m with
  | false => simp
  | true =>
    cases hq : validP s' h' l' m' with
    | false => simp
    | true =>
      have v1 := (validP_parts hp).1
      have v2 := (validP_parts hq).1
      unfold lessA
      rw [v1, v2]
      by_cases e : s = s'
      · subst e
        have hi := val_inj hl hl' v1 v2
        rw [if_pos rfl]
        simp only [Bool.true_and, Bool.or_eq_true, decide_eq_true_eq, Bool.and_eq_true, true_and, ne_eq, not_true_eq_false, false_and, or_false]
        rw [hi]
      · rw [if_neg e]
        simp [e]

theorem covers_le {s : Bool} {h l : Nat} {m : Int} {s' : Bool} {h' l' : Nat} {m' : Int} (hl : B64 l) (hc : coversP s h l m s' h' l' m' = true) : s = s' ∧ valN s h l ≤ valN s' h' l' ∧ m ≤ m' := by
  unfold coversP holdsP sameN at hc
  simp only [Bool.and_eq_true, decide_eq_true_eq, beq_iff_eq] at hc
  obtain ⟨_, hm, hp, _, rfl, he⟩ := hc
  refine ⟨rfl, ?_, hm⟩
  have hcut := validP_cut hl hp
  have h2 := cut_inj.2 he
  rw [hcut] at h2
  rw [← h2]
  exact cut_le _ _ _

theorem PrefixOrders_ev (s : Bool) (h l : Nat) (hh : B64 h) (hl : B64 l) (m : Int) (s1 : Bool) (h1 l1 : Nat) (hh1 : B64 h1) (hl1 : B64 l1) (m1 : Int) (s' : Bool) (h' l' : Nat) (hh' : B64 h') (hl' : B64 l') (m' : Int) :
    Ev (fun k => crosswaylaw04_PrefixOrders.f k s h l m s1 h1 l1 m1 s' h' l' m') true := by
  obtain ⟨K1, e1⟩ := awake_ev
  obtain ⟨K2, pq⟩ := Less_ev s h l hh hl m s1 h1 l1 hh1 hl1 m1
  obtain ⟨K3, qp⟩ := Less_ev s1 h1 l1 hh1 hl1 m1 s h l hh hl m
  obtain ⟨K4, rpq⟩ := rLess_ev s h l hh hl m s1 h1 l1 hh1 hl1 m1
  obtain ⟨K5, pp⟩ := Less_ev s h l hh hl m s h l hh hl m
  obtain ⟨K6, qr⟩ := Less_ev s1 h1 l1 hh1 hl1 m1 s' h' l' hh' hl' m'
  obtain ⟨K7, pr⟩ := Less_ev s h l hh hl m s' h' l' hh' hl' m'
  have ipq := lessP_iff s h l hl m s1 h1 l1 hl1 m1
  have iqp := lessP_iff s1 h1 l1 hl1 m1 s h l hl m
  have ipp := lessP_iff s h l hl m s h l hl m
  have iqr := lessP_iff s1 h1 l1 hl1 m1 s' h' l' hl' m'
  have ipr := lessP_iff s h l hl m s' h' l' hl' m'
  have f1 : lessP s h l m s h l m = false := by
    cases hx : lessP s h l m s h l m with
    | false => rfl
    | true =>
      obtain ⟨_, _, a⟩ := ipp.1 hx
      rcases a with ⟨_, a⟩ | ⟨a, _⟩
      · omega
      · exact absurd rfl a
  have f2 : lessP s h l m s1 h1 l1 m1 = true → lessP s1 h1 l1 m1 s h l m = false := by
    intro hx
    cases hy : lessP s1 h1 l1 m1 s h l m with
    | false => rfl
    | true =>
      obtain ⟨_, _, a⟩ := ipq.1 hx
      obtain ⟨_, _, b⟩ := iqp.1 hy
      rcases a with ⟨rfl, a⟩ | ⟨a1, a2⟩
      · rcases b with ⟨_, b⟩ | ⟨b1, _⟩
        · omega
        · exact absurd rfl b1
      · rcases b with ⟨b1, _⟩ | ⟨_, b2⟩
        · exact absurd b1.symm a1
        · exact absurd (b2.trans a2.symm) a1
  have f3 : validP s h l m = true → validP s1 h1 l1 m1 = true → ¬ (s = s1 ∧ h = h1 ∧ l = l1 ∧ m = m1) → lessP s h l m s1 h1 l1 m1 = false → lessP s1 h1 l1 m1 s h l m = true := by
    intro vp vq hne hx
    have nx : ¬ lessP s h l m s1 h1 l1 m1 = true := by rw [hx]; simp
    rw [ipq] at nx
    rw [iqp]
    refine ⟨vq, vp, ?_⟩
    by_cases e : s = s1
    · subst e
      have hi := val_inj hl hl1 (validP_parts vp).1 (validP_parts vq).1
      refine .inl ⟨rfl, ?_⟩
      have n1 : ¬ (valN s h l < valN s h1 l1 ∨ (valN s h l = valN s h1 l1 ∧ m < m1)) := fun c => nx ⟨vp, vq, .inl ⟨rfl, c⟩⟩
      by_cases ev : valN s h l = valN s h1 l1
      · obtain ⟨rfl, rfl⟩ := hi.1 ev
        have : m ≠ m1 := fun c => hne ⟨rfl, rfl, rfl, c⟩
        omega
      · omega
    · refine .inr ⟨fun c => e c.symm, ?_⟩
      cases s with
      | true => rfl
      | false =>
        cases s1 with
        | false => exact absurd rfl e
        | true => exact absurd ⟨vp, vq, .inr ⟨by decide, rfl⟩⟩ nx
  have f4 : lessP s h l m s1 h1 l1 m1 = true → lessP s1 h1 l1 m1 s' h' l' m' = true → lessP s h l m s' h' l' m' = true := by
    intro hx hy
    obtain ⟨vp, vq, a⟩ := ipq.1 hx
    obtain ⟨_, vr, b⟩ := iqr.1 hy
    rw [ipr]
    refine ⟨vp, vr, ?_⟩
    rcases a with ⟨rfl, a⟩ | ⟨a1, rfl⟩
    · rcases b with ⟨rfl, b⟩ | ⟨b1, b2⟩
      · exact .inl ⟨rfl, by omega⟩
      · exact .inr ⟨b1, b2⟩
    · rcases b with ⟨rfl, b⟩ | ⟨b1, b2⟩
      · exact .inr ⟨a1, rfl⟩
      · exact absurd b2.symm b1
  have f5 : coversP s h l m s1 h1 l1 m1 = true → lessP s1 h1 l1 m1 s h l m = false := by
    intro hc
    obtain ⟨rfl, a, b⟩ := covers_le hl hc
    cases hy : lessP s h1 l1 m1 s h l m with
    | false => rfl
    | true =>
      obtain ⟨_, _, c⟩ := iqp.1 hy
      rcases c with ⟨_, c⟩ | ⟨c, _⟩
      · omega
      · exact absurd rfl c
  have hV := Valid_is s h l hh hl m
  have hV1 := Valid_is s1 h1 l1 hh1 hl1 m1
  have hC := Covers_is s h l hh hl m s1 h1 l1 hh1 hl1 m1
  refine ⟨K1 + K2 + K3 + K4 + K5 + K6 + K7 + 3, fun k hk => ?_⟩
  obtain ⟨k, rfl⟩ : ∃ n, k = n + 3 := ⟨k - 3, by omega⟩
  have e1 := e1 (k + 3) (by omega)
  have pq := pq (k + 3) (by omega)
  have qp := qp (k + 3) (by omega)
  have rpq := rpq (k + 3) (by omega)
  have pp := pp (k + 3) (by omega)
  have qr := qr k (by omega)
  have pr := pr k (by omega)
  simp only at e1 pq qp rpq pp qr pr
  have j2 : crosswaylaw04_PrefixOrders.j2 (k + 1) (lessP s h l m s1 h1 l1 m1) (lessP s1 h1 l1 m1 s h l m) false s h l m s1 h1 l1 m1 s' h' l' m' = some true := by
    have fin : ((prefix_Covers.f s h l m s1 h1 l1 m1).bind fun t => if t = true then some (!(lessP s1 h1 l1 m1 s h l m)) else some (!false)) = some true := by
      rw [hC, Option.bind_some]
      by_cases c : coversP s h l m s1 h1 l1 m1 = true
      · rw [if_pos c, f5 c]; rfl
      · rw [if_neg c]; rfl
    rw [crosswaylaw04_PrefixOrders.j2]
    rw [if_neg (by decide)]
    by_cases c : lessP s h l m s1 h1 l1 m1 = true
    · rw [if_pos c, qr, Option.bind_some]
      by_cases c2 : lessP s1 h1 l1 m1 s' h' l' m' = true
      · rw [if_pos c2, pr, Option.bind_some, if_pos (f4 c c2)]
        exact fin
      · rw [if_neg c2]
        exact fin
    · rw [if_neg c]
      exact fin
  have j1 : ∀ b : Bool, (b = true → validP s h l m = true ∧ validP s1 h1 l1 m1 = true) → crosswaylaw04_PrefixOrders.j1 (k + 2) (lessP s h l m s1 h1 l1 m1) (lessP s1 h1 l1 m1 s h l m) b s h l m s1 h1 l1 m1 s' h' l' m' = some true := by
    intro b hb
    rw [crosswaylaw04_PrefixOrders.j1]
    by_cases c : b = true
    · rw [if_pos c]
      obtain ⟨vp, vq⟩ := hb c
      by_cases c2 : ((!(s == s1) || (!((h : Int) == (h1 : Int)) || (!((l : Int) == (l1 : Int))))) || (!(m == m1))) = true
      · rw [if_pos c2]
        by_cases c3 : lessP s h l m s1 h1 l1 m1 = true
        · rw [if_pos c3]; exact j2
        · rw [if_neg c3]
          have hne : ¬ (s = s1 ∧ h = h1 ∧ l = l1 ∧ m = m1) := by
            rintro ⟨rfl, rfl, rfl, rfl⟩
            simp at c2
          rw [show (!(lessP s1 h1 l1 m1 s h l m)) = false from by rw [f3 vp vq hne (by simpa using c3)]; rfl]
          exact j2
      · rw [if_neg c2]; exact j2
    · rw [if_neg c]; exact j2
  have j0 : crosswaylaw04_PrefixOrders.j0 (k + 3) (lessP s h l m s1 h1 l1 m1) (lessP s1 h1 l1 m1 s h l m) false s h l m s1 h1 l1 m1 s' h' l' m' = some true := by
    rw [crosswaylaw04_PrefixOrders.j0]
    rw [if_neg (by decide), hV, Option.bind_some]
    by_cases c : validP s h l m = true
    · rw [if_pos c, hV1, Option.bind_some]
      exact j1 _ (fun e => ⟨c, e⟩)
    · rw [if_neg c]
      exact j1 _ (fun e => by cases e)
  show crosswaylaw04_PrefixOrders.f (k + 3) s h l m s1 h1 l1 m1 s' h' l' m' = some true
  unfold crosswaylaw04_PrefixOrders.f
  rw [e1, Option.bind_some, pq, Option.bind_some, qp, Option.bind_some, if_pos rfl, rpq, Option.bind_some, if_neg (by simp), pp, Option.bind_some, f1, if_neg (by decide)]
  by_cases c : lessP s h l m s1 h1 l1 m1 = true
  · rw [if_pos c]
    rw [f2 c]
    rw [f2 c] at j0
    exact j0
  · rw [if_neg c]
    exact j0
end Go.Proofs.YtmhjgjdiifcdlaaDoor.Pure1
