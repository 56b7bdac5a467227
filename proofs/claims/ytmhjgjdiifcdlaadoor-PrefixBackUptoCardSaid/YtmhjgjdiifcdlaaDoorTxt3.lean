/- The longest row of groups of 0; an address, a prefix as a text and back. -/
import Derived.Test.YtmhjgjdiifcdlaaDoorTxt2
import Derived.Test.YtmhjgjdiifcdlaaDoorGroups
import Derived.Test.YtmhjgjdiifcdlaaDoorPure1
set_option linter.unusedVariables false
namespace Go.Proofs.YtmhjgjdiifcdlaaDoor.Txt
open Go.Proofs.YtmhjgjdiifcdlaaDoor.P Go.Proofs.YtmhjgjdiifcdlaaDoor.Pure1

/-- how many of the first groups are 0 -/
def zr : List Nat → Nat
  | [] => 0
  | x :: r => if x = 0 then zr r + 1 else 0
def gapF : Nat → List Nat → Nat × Nat → Nat × Nat
  | _, [], ft => ft
  | i, x :: r, ft => gapF (i + 1) r (if ft.2 - ft.1 < zr (x :: r) then (i, i + zr (x :: r)) else ft)
def gapL (g : List Nat) : Nat × Nat :=
  if zr g = 8 then (0, 8) else if (gapF 0 g (0, 0)).2 - (gapF 0 g (0, 0)).1 < 2 then (0, 0) else gapF 0 g (0, 0)
theorem zr_le : ∀ l : List Nat, zr l ≤ l.length
  | [] => Nat.le_refl _
  | x :: r => by
    have := zr_le r
    unfold zr
    split <;> simp only [List.length_cons] <;> omega
theorem zr_app : ∀ l : List Nat, l = List.replicate (zr l) 0 ++ l.drop (zr l)
  | [] => rfl
  | x :: r => by
    unfold zr
    split
    · next h =>
      have := zr_app r
      rw [List.replicate_succ, List.cons_append, List.drop_succ_cons, ← this, h]
    · rfl
def Run (g : List Nat) (ft : Nat × Nat) : Prop := ft.1 ≤ ft.2 ∧ ft.2 ≤ g.length ∧ g = g.take ft.1 ++ (List.replicate (ft.2 - ft.1) 0 ++ g.drop ft.2)
theorem gapF_run (g : List Nat) : ∀ (r pre : List Nat) (ft : Nat × Nat), g = pre ++ r → Run g ft → Run g (gapF pre.length r ft)
  | [], pre, ft, _, h => h
  | x :: r, pre, ft, e, h => by
    unfold gapF
    have e' : g = (pre ++ [x]) ++ r := by rw [e]; simp
    have := gapF_run g r (pre ++ [x]) (if ft.2 - ft.1 < zr (x :: r) then (pre.length, pre.length + zr (x :: r)) else ft) e' ?_
    · rw [List.length_append, List.length_singleton] at this
      exact this
    · split
      · have hz := zr_le (x :: r)
        refine ⟨by simp, ?_, ?_⟩
        · rw [e, List.length_append]; simp only; omega
        · simp only [Nat.add_sub_cancel_left]
          have e1 : g.take pre.length = pre := by rw [e]; simp
          have e2 : g.drop (pre.length + zr (x :: r)) = (x :: r).drop (zr (x :: r)) := by rw [e]; simp [List.drop_append]
          rw [e1, e2, ← zr_app, ← e]
      · exact h
theorem gapL_ok (g : List Nat) (hl : g.length = 8) : GapOk g (gapL g) := by
  unfold gapL
  split
  · next h =>
    refine .inr ⟨by decide, by decide, ?_⟩
    have := zr_app g
    rw [h] at this
    simpa using this
  · split
    · exact .inl rfl
    · next h =>
      obtain ⟨h1, h2, h3⟩ := gapF_run g g [] (0, 0) (by simp) ⟨by simp, by simp, by simp⟩
      simp only [List.length_nil] at h1 h2 h3
      exact .inr ⟨by omega, by omega, h3⟩

theorem grp_len (hi lo : Nat) : (grp hi lo).length = 8 := rfl
theorem grp_lt (hi lo : Nat) (h1 : B64 hi) (h2 : B64 lo) : ∀ x ∈ grp hi lo, x < 65536 := by
  unfold B64 at h1 h2
  intro x hx
  simp only [grp, List.mem_cons, List.not_mem_nil, or_false] at hx
  rcases hx with rfl | rfl | rfl | rfl | rfl | rfl | rfl | rfl <;> omega
theorem hi8_grp (hi lo : Nat) : hi8 (grp hi lo) = hi := by
  unfold hi8 j4 grp
  simp only [List.getD_cons_zero, List.getD_cons_succ]
  omega
theorem lo8_grp (hi lo : Nat) : lo8 (grp hi lo) = lo := by
  unfold lo8 j4 grp
  simp only [List.getD_cons_zero, List.getD_cons_succ]
  omega
def addrPrint (s : Bool) (hi lo : Nat) : List UInt8 := if s then print6 (grp hi lo) (gapL (grp hi lo)) else print4 lo
theorem parseA_print (s : Bool) (hi lo : Nat) (h1 : B64 hi) (h2 : B64 lo) (hv : validN s hi lo = true) : parseA (addrPrint s hi lo) = some (s, hi, lo) := by
  unfold addrPrint
  cases s with
  | true => rw [if_pos rfl, parseA_6 _ (grp_len _ _) (grp_lt hi lo h1 h2) _ (gapL_ok _ (grp_len _ _)), hi8_grp, lo8_grp]
  | false =>
    have hv' : hi = 0 ∧ lo < 4294967296 := by simpa [validN] using hv
    rw [if_neg (by decide), parseA_4 lo hv'.2, hv'.1]
theorem addrPrint_free (s : Bool) (hi lo : Nat) (h1 : B64 hi) (h2 : B64 lo) : (47 : UInt8) ∉ addrPrint s hi lo := by
  unfold addrPrint
  split
  · exact print6_free _ (grp_lt hi lo h1 h2) _ (.inr rfl)
  · exact print4_free lo
theorem j4_lt {a b c d : Nat} (ha : a < 65536) (hb : b < 65536) (hc : c < 65536) (hd : d < 65536) : j4 a b c d < 2 ^ 64 := by unfold j4; omega
theorem getD_lt {g : List Nat} (h : ∀ x ∈ g, x < 65536) (i : Nat) : g.getD i 0 < 65536 := by
  rw [List.getD_eq_getElem?_getD]
  cases hi : g[i]? with
  | none => simp
  | some x => exact h x (List.mem_of_getElem? hi)
theorem parseA_valid {t : List UInt8} {s : Bool} {hi lo : Nat} (h : parseA t = some (s, hi, lo)) : B64 hi ∧ B64 lo ∧ validN s hi lo = true := by
  unfold parseA at h
  cases hp : p4 t with
  | some n =>
    rw [hp] at h
    simp only [Option.some.injEq, Prod.mk.injEq] at h
    obtain ⟨rfl, rfl, rfl⟩ := h
    have := p4_lt hp
    exact ⟨by unfold B64; omega, by unfold B64; omega, by simp [validN]; omega⟩
  | none =>
    rw [hp] at h
    simp only at h
    cases hs : sixL t with
    | none => rw [hs] at h; cases h
    | some g =>
      rw [hs] at h
      simp only [Option.some.injEq, Prod.mk.injEq] at h
      obtain ⟨rfl, rfl, rfl⟩ := h
      obtain ⟨_, hg⟩ := sixL_lt hs
      exact ⟨j4_lt (getD_lt hg _) (getD_lt hg _) (getD_lt hg _) (getD_lt hg _), j4_lt (getD_lt hg _) (getD_lt hg _) (getD_lt hg _) (getD_lt hg _), rfl⟩

/-! ### prefixes -/
def manyL (w : List UInt8) : Int :=
  if w.length = 0 ∨ 3 < w.length ∨ (w.head? = some 48 ∧ 1 < w.length) then -1 else match decN 0 w with
    | some u => u
    | none => -1
def parseP (t : List UInt8) : Bool × Nat × Nat × Int × Int :=
  match cutG [47] t with
  | none => (false, 0, 0, 0, 30)
  | some (a, b) => match parseA a with
    | none => (false, 0, 0, 0, 20)
    | some (s, h, l) => if validP s h l (manyL b) = true then (s, h, l, manyL b, 0) else (false, 0, 0, 0, 30)
def printP (s : Bool) (h l : Nat) (m : Int) : List UInt8 := if validP s h l m = true then addrPrint s h l ++ (47 :: dec3 m.toNat) else []
theorem manyL_back (n : Nat) (h : n < 1000) : manyL (dec3 n) = n := by
  unfold manyL
  have h0 := dec3_ne n
  have h1 := dec3_len n
  have h2 : (dec3 n).length ≠ 0 := fun e => h0 (List.eq_nil_of_length_eq_zero e)
  rw [if_neg, dec3_back n h]
  rintro (hx | hx | ⟨hx, hy⟩)
  · omega
  · omega
  · exact dec3_head n h hy hx
theorem validP_bits {s : Bool} {h l : Nat} {m : Int} (hv : validP s h l m = true) : validN s h l = true ∧ 0 ≤ m ∧ m ≤ 128 := by
  have h1 : validN s h l = true ∧ 0 ≤ m ∧ m ≤ widthN s ∧ cutH s h m.toNat = h ∧ cutL s l m.toNat = l := by simpa [validP] using hv
  obtain ⟨a, b, c, _⟩ := h1
  refine ⟨a, b, ?_⟩
  unfold widthN at c
  split at c <;> omega
theorem parseP_print (s : Bool) (h l : Nat) (m : Int) (h1 : B64 h) (h2 : B64 l) (hv : validP s h l m = true) : parseP (printP s h l m) = (s, h, l, m, 0) := by
  obtain ⟨v1, v2, v3⟩ := validP_bits hv
  unfold printP parseP
  rw [if_pos hv, cutG_one (addrPrint_free s h l h1 h2)]
  simp only
  rw [parseA_print s h l h1 h2 v1]
  simp only
  rw [manyL_back _ (by omega), show ((m.toNat : Nat) : Int) = m from by omega, if_pos hv]
theorem printP_ne (s : Bool) (h l : Nat) (m : Int) : printP s h l m ≠ [] ↔ validP s h l m = true := by
  unfold printP
  split
  · next hv => simp [hv]
  · next hv => simp [hv]
theorem parseP_valid {t : List UInt8} {s : Bool} {h l : Nat} {m : Int} (hp : parseP t = (s, h, l, m, 0)) : B64 h ∧ B64 l ∧ validP s h l m = true := by
  unfold parseP at hp
  split at hp
  · simp at hp
  · split at hp
    · simp at hp
    · next hA =>
      split at hp
      · next hv =>
        simp only [Prod.mk.injEq] at hp
        obtain ⟨rfl, rfl, rfl, rfl, _⟩ := hp
        obtain ⟨a, b, c⟩ := parseA_valid hA
        exact ⟨a, b, hv⟩
      · simp at hp
theorem parseP_not {t : List UInt8} {s : Bool} {h l : Nat} {m e : Int} (hp : parseP t = (s, h, l, m, e)) (he : e ≠ 0) : s = false ∧ h = 0 ∧ l = 0 ∧ m = 0 := by
  unfold parseP at hp
  split at hp
  · simp only [Prod.mk.injEq] at hp
    obtain ⟨rfl, rfl, rfl, rfl, _⟩ := hp
    simp
  · split at hp
    · simp only [Prod.mk.injEq] at hp
      obtain ⟨rfl, rfl, rfl, rfl, _⟩ := hp
      simp
    · split at hp
      · simp only [Prod.mk.injEq] at hp
        obtain ⟨rfl, rfl, rfl, rfl, h0⟩ := hp
        exact absurd h0.symm he
      · simp only [Prod.mk.injEq] at hp
        obtain ⟨rfl, rfl, rfl, rfl, _⟩ := hp
        simp
theorem print_len (l : List Nat) : (textsL l).length ≤ 5 * l.length := by
  unfold textsL
  cases l with
  | nil => simp [Lib.join, List.intercalate]
  | cons x r =>
    rw [List.map_cons, Lib.join_length]
    have key : ∀ r : List Nat, Lib.lens (r.map hex4) ≤ 4 * r.length := by
      intro r
      induction r with
      | nil => simp [Lib.lens]
      | cons y r ih =>
        have := hex4_len y
        simp only [Lib.lens, List.map_cons, List.sum_cons, List.length_cons] at ih ⊢
        omega
    have := key (x :: r)
    rw [List.map_cons] at this
    simp only [List.length_cons, List.length_map, List.length_nil] at this ⊢
    omega
theorem addrPrint_len (s : Bool) (hi lo : Nat) : (addrPrint s hi lo).length ≤ 100 := by
  unfold addrPrint
  split
  · unfold print6
    split
    · have := print_len (grp hi lo)
      rw [grp_len] at this
      omega
    · have a := print_len ((grp hi lo).take (gapL (grp hi lo)).1)
      have b := print_len ((grp hi lo).drop (gapL (grp hi lo)).2)
      rw [List.length_take, grp_len] at a
      rw [List.length_drop, grp_len] at b
      simp only [List.length_append, List.length_cons, List.length_nil]
      omega
  · unfold print4
    rw [Lib.join_length]
    have a := dec3_len (lo / 16777216 % 256)
    have b := dec3_len (lo / 65536 % 256)
    have c := dec3_len (lo / 256 % 256)
    have d := dec3_len (lo % 256)
    simp [Lib.lens]
    omega
end Go.Proofs.YtmhjgjdiifcdlaaDoor.Txt
