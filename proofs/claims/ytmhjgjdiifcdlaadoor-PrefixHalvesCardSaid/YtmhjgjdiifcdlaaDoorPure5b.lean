/- What Halves of the program and of the reference come to, in plain numbers. -/
import Derived.Test.YtmhjgjdiifcdlaaDoorPure2
import Derived.Test.YtmhjgjdiifcdlaaDoorPure4
import Derived.Test.YtmhjgjdiifcdlaaDoorPRef04Halves
set_option linter.unusedVariables false
namespace Go.Proofs.YtmhjgjdiifcdlaaDoor.Pure1
open Go.RowKit Go.Proofs.YtmhjgjdiifcdlaaDoor.P Go.Proofs.YtmhjgjdiifcdlaaDoor.Nat_ Go.Proofs.YtmhjgjdiifcdlaaDoorW.PrintWords Go.Proofs.YtmhjgjdiifcdlaaDoorW.PrintMore

theorem or_two (x s : Nat) (hx : x % 2 ^ (s + 1) = 0) : x ||| 2 ^ s = x + 2 ^ s := by
  have h := Nat.two_pow_add_eq_or_of_lt (i := s + 1) (b := 2 ^ s) (Nat.pow_lt_pow_right (by omega) (by omega)) (x / 2 ^ (s + 1))
  have e : 2 ^ (s + 1) * (x / 2 ^ (s + 1)) = x := by
    have := Nat.div_add_mod x (2 ^ (s + 1))
    omega
  rw [e] at h
  exact h.symm
theorem shl_one (s : Int) (h0 : 0 ≤ s) (h1 : s < 64) : shl .u64 1 s = ((2 ^ s.toNat : Nat) : Int) := by
  unfold shl
  have : min s.toNat IntKind.u64.bits = s.toNat := by show min _ 64 = _; omega
  rw [this, IntKind.wrap_u64, Int.one_mul]
  have hp : 2 ^ s.toNat < 2 ^ 64 := Nat.pow_lt_pow_right (by omega) (by omega)
  have e : ((2 : Int) ^ s.toNat) = ((2 ^ s.toNat : Nat) : Int) := by rw [Int.natCast_pow]; rfl
  rw [e]
  generalize 2 ^ s.toNat = y at *
  omega
def halfH (six : Bool) (h m : Nat) : Nat := if six then (if m < 64 then h + 2 ^ (63 - m) else h) else 0
def halfL (six : Bool) (l m : Nat) : Nat := if six then (if m < 64 then l else l + 2 ^ (127 - m)) else l + 2 ^ (31 - m)
def halvesP (six : Bool) (h l : Nat) (m : Int) : Bool × Int × Int × Int × Bool × Int × Int × Int × Int :=
  if validP six h l m && decide (m < widthN six) then (six, h, l, m + 1, six, halfH six h m.toNat, halfL six l m.toNat, m + 1, 0) else (false, 0, 0, 0, false, 0, 0, 0, 1)
theorem cut_mod {w m V : Nat} (h : cutN w m V = V) : V % 2 ^ (w - m) = 0 := by
  unfold cutN at h
  have := Nat.div_add_mod V (2 ^ (w - m))
  rw [Nat.mul_comm] at this
  omega
theorem add_lt {x W s : Nat} (hx : x < 2 ^ W) (hz : x % 2 ^ (s + 1) = 0) (hs : s + 1 ≤ W) : x + 2 ^ s < 2 ^ W := by
  have h1 := Nat.div_add_mod x (2 ^ (s + 1))
  rw [hz] at h1
  have e : (2 : Nat) ^ W = 2 ^ (s + 1) * 2 ^ (W - (s + 1)) := by rw [← Nat.pow_add]; congr 1; omega
  have e2 : (2 : Nat) ^ (s + 1) = 2 * 2 ^ s := by rw [Nat.pow_succ]; omega
  have hpos := Nat.two_pow_pos s
  rw [e] at hx ⊢
  rw [e2] at hx h1 ⊢
  generalize 2 ^ s = P at *
  generalize x / (2 * P) = q at *
  generalize 2 ^ (W - (s + 1)) = M at *
  have hq : q < M := by
    rcases Nat.lt_or_ge q M with hl | hg
    · exact hl
    · have := Nat.mul_le_mul_left (2 * P) hg
      omega
  have := Nat.mul_le_mul_left (2 * P) (show q + 1 ≤ M from hq)
  rw [Nat.mul_add] at this
  omega
/-- the parts' low bits are 0 -/
theorem parts_mod {six : Bool} {h l : Nat} {m : Int} (hp : validP six h l m = true) (hm : m < widthN six) :
    (six = true → m < 64 → h % 2 ^ (63 - m.toNat + 1) = 0) ∧ (six = true → 64 ≤ m → l % 2 ^ (127 - m.toNat + 1) = 0) ∧ (six = false → l % 2 ^ (31 - m.toNat + 1) = 0) := by
  obtain ⟨h1, h2, h3, h4, h5⟩ := validP_parts hp
  refine ⟨?_, ?_, ?_⟩
  · rintro rfl h6
    simp only [cutH, if_true] at h4
    have := cut_mod h4
    rw [show 63 - m.toNat + 1 = 64 - min m.toNat 64 from by omega]
    exact this
  · rintro rfl h6
    simp only [widthN, if_true] at hm
    simp only [cutL, if_true] at h5
    have := cut_mod h5
    rw [show 127 - m.toNat + 1 = 64 - (m.toNat - 64) from by omega]
    exact this
  · rintro rfl
    simp [widthN] at hm
    simp [cutL] at h5
    have := cut_mod h5
    rw [show 31 - m.toNat + 1 = 32 - m.toNat from by omega]
    exact this
theorem half_lt {six : Bool} {h l : Nat} {m : Int} (hh : B64 h) (hl : B64 l) (hp : validP six h l m = true) (hm : m < widthN six) :
    B64 (halfH six h m.toNat) ∧ B64 (halfL six l m.toNat) ∧ (six = false → halfH six h m.toNat = 0 ∧ halfL six l m.toNat < 2 ^ 32) := by
  obtain ⟨p1, p2, p3⟩ := parts_mod hp hm
  obtain ⟨h1, h2, h3, h4, h5⟩ := validP_parts hp
  unfold B64 at *
  cases six with
  | true =>
    simp only [widthN, if_true] at hm
    simp only [halfH, halfL, if_true]
    refine ⟨?_, ?_, by simp⟩
    · split
      · exact add_lt hh (p1 rfl (by omega)) (by omega)
      · exact hh
    · split
      · exact hl
      · exact add_lt hl (p2 rfl (by omega)) (by omega)
  | false =>
    simp [widthN] at hm
    simp [validN] at h1
    have hL : l + 2 ^ (31 - m.toNat) < 2 ^ 32 := add_lt (by simpa using h1.2) (p3 rfl) (by omega)
    simp only [halfH, halfL, Bool.false_eq_true, if_false]
    exact ⟨by omega, by omega, fun _ => ⟨by first | trivial | rfl, hL⟩⟩
theorem val_half {six : Bool} {h l m : Nat} (hv : validN six h l = true) (hm : m < widthN six) : valN six (halfH six h m) (halfL six l m) = valN six h l + 2 ^ (widthN six - 1 - m) := by
  cases six with
  | true =>
    simp only [valN, halfH, halfL, widthN, if_true] at *
    by_cases h6 : m < 64
    · rw [if_pos h6, if_pos h6, show 128 - 1 - m = 63 - m + 64 from by omega, Nat.pow_add, Nat.add_mul]
      omega
    · rw [if_neg h6, if_neg h6, show 128 - 1 - m = 127 - m from by omega]
      omega
  | false => simp [valN, halfL, widthN]
theorem bit_half (w m i V : Nat) (hi : i < w) (hm : m < w) (hz : V % 2 ^ (w - m) = 0) : bitN w i (V + 2 ^ (w - 1 - m)) = if i < m then bitN w i V else if i = m then 1 else 0 := by
  have h1 := Nat.div_add_mod V (2 ^ (w - m))
  rw [hz] at h1
  have e2 : (2 : Nat) ^ (w - m) = 2 ^ (w - 1 - m) * 2 := by rw [← Nat.pow_succ]; congr 1; omega
  have hpos := Nat.two_pow_pos (w - 1 - m)
  unfold bitN
  generalize V / 2 ^ (w - m) = q at h1
  have hV : V = 2 ^ (w - 1 - m) * (2 * q) := by rw [← h1, e2, Nat.mul_assoc]; rfl
  have hV2 : V + 2 ^ (w - 1 - m) = 2 ^ (w - 1 - m) * (2 * q + 1) := by rw [hV, Nat.mul_add, Nat.mul_one]
  rw [hV2]
  by_cases h : i < m
  · rw [if_pos h, hV]
    obtain ⟨d, hd⟩ : ∃ d, w - 1 - i = (w - 1 - m) + (1 + d) := ⟨m - i - 1, by omega⟩
    rw [hd, Nat.pow_add, ← Nat.div_div_eq_div_mul, ← Nat.div_div_eq_div_mul, Nat.mul_div_cancel_left _ hpos, Nat.mul_div_cancel_left _ hpos, Nat.pow_add, ← Nat.div_div_eq_div_mul, ← Nat.div_div_eq_div_mul]
    congr 2
    omega
  · rw [if_neg h]
    by_cases h' : i = m
    · subst h'
      rw [if_pos rfl, Nat.mul_div_cancel_left _ hpos]
      omega
    · rw [if_neg h']
      obtain ⟨d, hd⟩ : ∃ d, w - 1 - m = (w - 1 - i) + (d + 1) := ⟨i - m - 1, by omega⟩
      rw [hd, Nat.pow_add, Nat.mul_assoc, Nat.mul_div_cancel_left _ (Nat.two_pow_pos _), Nat.pow_succ, Nat.mul_assoc]
      rw [Nat.mul_comm, Nat.mul_assoc]
      omega

theorem pHalves_ev (six : Bool) (h l : Nat) (hh : B64 h) (hl : B64 l) (m : Int) : Ev (fun k => prefix_Halves.f k six h l m) (halvesP six h l m) := by
  have hno : ∀ (c : Bool), c = true → Ev (fun k => prefix_Halves.j0 k c six h l m) (false, 0, 0, 0, false, 0, 0, 0, 1) := by
    intro c hc
    refine Ev.step (f := fun _ => some (false, 0, 0, 0, false, 0, 0, 0, 1)) (fun k => ?_) (Ev.now _)
    simp only [prefix_Halves.j0]
    rw [if_pos hc]
  unfold halvesP
  cases hp : validP six h l m with
  | false =>
    refine Ev.congr (fun k => ?_) (hno true rfl)
    unfold prefix_Halves.f
    rw [Valid_is six h l hh hl m, Option.bind_some, hp, if_neg (by decide)]
  | true =>
    obtain ⟨h1, h2, h3, h4, h5⟩ := validP_parts hp
    by_cases e : m = widthN six
    · rw [decide_eq_false (p := m < widthN six) (by omega)]
      refine Ev.congr (fun k => ?_) (hno true rfl)
      unfold prefix_Halves.f
      rw [Valid_is six h l hh hl m, Option.bind_some, hp, if_pos rfl, width_is, Option.bind_some, show (m == (widthN six : Int)) = true from by simpa using e]
    · have hm : m < widthN six := by omega
      rw [decide_eq_true hm]
      obtain ⟨p1, p2, p3⟩ := parts_mod hp hm
      refine Ev.congr (fun k => ?_) (Ev.step (g := fun k => prefix_Halves.j0 k false six h l m) (f := fun _ => some (six, (h : Int), (l : Int), m + 1, six, (halfH six h m.toNat : Int), (halfL six l m.toNat : Int), m + 1, 0)) (fun k => ?_) (Ev.now _))
      · unfold prefix_Halves.f
        rw [Valid_is six h l hh hl m, Option.bind_some, hp, if_pos rfl, width_is, Option.bind_some, show (m == (widthN six : Int)) = false from by simpa using e]
      · simp only [prefix_Halves.j0]
        unfold B64 at hh hl
        rw [if_neg (by decide)]
        cases six with
        | true =>
          simp only [widthN, if_true] at hm
          simp only [halfH, halfL, if_true]
          by_cases h6 : m < 64
          · have hp2 : 2 ^ (63 - m.toNat) < 2 ^ 64 := Nat.pow_lt_pow_right (by omega) (by omega)
            rw [if_pos h6, w64 (x := 63 - m) (by omega) (by omega), if_pos (by omega), w64 (x := m + 1) (by omega) (by omega), shl_one _ (by omega) (by omega), bits_or_u64_nat _ _ hh (by simpa [show (63 - m).toNat = 63 - m.toNat from by omega] using hp2),
              show (63 - m).toNat = 63 - m.toNat from by omega, or_two _ _ (p1 rfl h6), if_pos (by omega), if_pos (by omega)]
          · have hp2 : 2 ^ (127 - m.toNat) < 2 ^ 64 := Nat.pow_lt_pow_right (by omega) (by omega)
            rw [if_neg h6, w64 (x := 127 - m) (by omega) (by omega), if_pos (by omega), w64 (x := m + 1) (by omega) (by omega), shl_one _ (by omega) (by omega), bits_or_u64_nat _ _ hl (by simpa [show (127 - m).toNat = 127 - m.toNat from by omega] using hp2),
              show (127 - m).toNat = 127 - m.toNat from by omega, or_two _ _ (p2 rfl (by omega)), if_neg (by omega), if_neg (by omega)]
        | false =>
          simp [widthN] at hm
          simp [validN] at h1
          have hp2 : 2 ^ (31 - m.toNat) < 2 ^ 64 := Nat.pow_lt_pow_right (by omega) (by omega)
          rw [if_neg (by decide), w64 (x := 31 - m) (by omega) (by omega), if_pos (by omega), w64 (x := m + 1) (by omega) (by omega), shl_one _ (by omega) (by omega), bits_or_u64_nat _ _ hl (by simpa [show (31 - m).toNat = 31 - m.toNat from by omega] using hp2),
            show (31 - m).toNat = 31 - m.toNat from by omega, or_two _ _ (p3 rfl), h1.1]
          rfl

theorem rhalves_l0 (six : Bool) (h l : Nat) (hh : B64 h) (hl : B64 l) (m : Int) (hp : validP six h l m = true) (hm : m < widthN six) :
    ∀ (d j : Nat) (L : List Int), j + d = m.toNat → L.length = widthN six → (∀ i, i < widthN six → L.getD i 0 = if i < j then (bitN (widthN six) i (valN six h l) : Int) else 0) →
      Ev (fun k => crosswayref04_Halves.l0 k L j six h l m) (six, (h : Int), (l : Int), m + 1, six, (halfH six h m.toNat : Int), (halfL six l m.toNat : Int), m + 1, 0) := by
  obtain ⟨h1, h2, h3, h4, h5⟩ := validP_parts hp
  have hw : widthN six ≤ 128 := by cases six <;> simp [widthN]
  have hv0 := validP_cut hl hp
  intro d
  induction d with
  | zero =>
    intro j L hj hlen hL
    obtain rfl : j = m.toNat := by omega
    obtain ⟨b1, b2, b3⟩ := half_lt hh hl hp hm
    have ho := of_ev six (L.set m.toNat 1) (halfH six h m.toNat) (halfL six l m.toNat) b1 b2 (by simpa using hlen) (fun i hi => by
      rw [getD_set _ _ _ _ (by omega), val_half h1 (by omega), bit_half _ _ _ _ hi (by omega) (cut_mod hv0)]
      by_cases e : i < m.toNat
      · rw [if_neg (by omega), hL i hi, if_pos e, if_pos e]
      · rw [if_neg e]
        by_cases e2 : i = m.toNat
        · rw [if_pos e2, if_pos e2]; rfl
        · rw [if_neg e2, if_neg e2, hL i hi, if_neg e]; rfl) b3
    refine Ev.step (f := fun k => (crosswayref04_of.f k six (L.set m.toNat 1)).bind fun bt => some (six, (h : Int), (l : Int), m + 1, bt.1, bt.2.1, bt.2.2, m + 1, 0)) (fun k => ?_) (Ev.bind (f := fun k bt => some (six, (h : Int), (l : Int), m + 1, bt.1, bt.2.1, bt.2.2, m + 1, 0)) ho (Ev.now _))
    simp only [crosswayref04_Halves.l0]
    rw [if_neg (by omega), if_pos (by omega), if_pos (by omega), w64 (x := m + 1) (by omega) (by omega)]
  | succ d ih =>
    intro j L hj hlen hL
    have hb := rBit_ev six h l hh hl (j : Int) (by omega) (by omega)
    rw [bitP_at six h l h1 j (by omega)] at hb
    have hr := ih (j + 1) (L.set j (bitN (widthN six) j (valN six h l) : Int)) (by omega) (by simpa using hlen) (fun i hi => by
      rw [getD_set _ _ _ _ (by omega)]
      by_cases e : i = j
      · subst e; rw [if_pos rfl, if_pos (by omega)]
      · rw [if_neg e, hL i hi]
        by_cases e2 : i < j
        · rw [if_pos e2, if_pos (by omega)]
        · rw [if_neg e2, if_neg (by omega)])
    refine Ev.step (fun k => ?_) (Ev.bind (f := fun k t => crosswayref04_Halves.l0 k (L.set j t) ((j + 1 : Nat) : Int) six h l m) hb hr)
    simp only [crosswayref04_Halves.l0]
    rw [if_pos (by omega), w64 (x := (j : Int) + 1) (by omega) (by omega)]
    have e : (0 : Int) ≤ (j : Int) := by omega
    have e' : (j : Int) < (L.length : Int) := by omega
    simp only [e, e', if_true]
    rfl
theorem rHalves_ev (six : Bool) (h l : Nat) (hh : B64 h) (hl : B64 l) (m : Int) : Ev (fun k => crosswayref04_Halves.f k six h l m) (halvesP six h l m) := by
  have hV := rValid_ev six h l hh hl m
  have hno : ∀ (c : Bool), c = true → Ev (fun k => crosswayref04_Halves.j0 k c six h l m) (false, 0, 0, 0, false, 0, 0, 0, 1) := by
    intro c hc
    refine Ev.step (f := fun _ => some (false, 0, 0, 0, false, 0, 0, 0, 1)) (fun k => ?_) (Ev.now _)
    simp only [crosswayref04_Halves.j0]
    rw [if_pos hc]
  unfold halvesP
  refine Ev.congr (fun k => ?_) (Ev.bind (f := fun k t => if t = true then ((crosswayref04_Width.f six h l).bind fun t => (crosswayref04_Halves.j0 k (m == t) six h l m)) else (crosswayref04_Halves.j0 k true six h l m)) hV ?_)
  · unfold crosswayref04_Halves.f; rfl
  · cases hp : validP six h l m with
    | false =>
      refine Ev.congr (fun k => ?_) (hno true rfl)
      rw [if_neg (by decide)]
    | true =>
      obtain ⟨h1, h2, h3, h4, h5⟩ := validP_parts hp
      by_cases e : m = widthN six
      · rw [decide_eq_false (p := m < widthN six) (by omega)]
        refine Ev.congr (fun k => ?_) (hno true rfl)
        rw [if_pos rfl, rWidth_is, Option.bind_some, show (m == (widthN six : Int)) = true from by simpa using e]
      · have hm : m < widthN six := by omega
        rw [decide_eq_true hm]
        have hw : widthN six ≤ 128 := by cases six <;> simp [widthN]
        have h0 := rhalves_l0 six h l hh hl m hp hm m.toNat 0 (List.replicate (widthN six) 0) (by omega) (by simp) (fun i hi => by simp [List.getD_eq_getElem?_getD, hi])
        refine Ev.congr (fun k => ?_) (Ev.step (g := fun k => crosswayref04_Halves.j0 k false six h l m) (fun k => ?_) h0)
        · rw [if_pos rfl, rWidth_is, Option.bind_some, show (m == (widthN six : Int)) = false from by simpa using e]
        · simp only [crosswayref04_Halves.j0]
          rw [if_neg (by decide), rWidth_is, Option.bind_some, if_pos (by omega), if_pos (by omega)]
          rfl

/-! Less of the reference -/
end Go.Proofs.YtmhjgjdiifcdlaaDoor.Pure1
