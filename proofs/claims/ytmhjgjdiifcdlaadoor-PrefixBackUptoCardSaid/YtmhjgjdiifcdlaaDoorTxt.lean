/- Plain texts: a text split by a byte, cut at a text, joined; what one undoes of the other. -/
import Derived.Lib.SplitLaws
import Derived.Lib.Join
set_option linter.unusedVariables false
namespace Go.Proofs.YtmhjgjdiifcdlaaDoor.Txt

def splitL (c : UInt8) : List UInt8 → List (List UInt8)
  | [] => [[]]
  | x :: r => if x = c then [] :: splitL c r else match splitL c r with
    | [] => [[x]]
    | h :: t => (x :: h) :: t
theorem splitL_ne (c : UInt8) : ∀ l, splitL c l ≠ []
  | [] => by simp [splitL]
  | x :: r => by
    unfold splitL
    split
    · simp
    · split <;> simp
theorem splitL_cons_eq (c : UInt8) (r : List UInt8) : splitL c (c :: r) = [] :: splitL c r := by rw [splitL, if_pos rfl]
theorem splitL_cons_ne {c x : UInt8} (h : x ≠ c) {r : List UInt8} {a : List UInt8} {t : List (List UInt8)} (e : splitL c r = a :: t) : splitL c (x :: r) = (x :: a) :: t := by
  rw [splitL, if_neg h, e]
theorem index_cons_eq (c : UInt8) (r : List UInt8) : Lib.index (c :: r) [c] = 0 := by
  rw [Lib.index]; simp [List.isPrefixOf]
theorem index_cons_ne {c x : UInt8} (h : x ≠ c) (r : List UInt8) : Lib.index (x :: r) [c] = if Lib.index r [c] == -1 then -1 else Lib.index r [c] + 1 := by
  have hp : ([c] : List UInt8).isPrefixOf (x :: r) = false := by simp [List.isPrefixOf, Ne.symm h]
  rw [Lib.index, hp]; simp
theorem splitK_one (c : UInt8) : ∀ s : List UInt8, Lib.splitK [c] 0 (Lib.count s [c]) s = splitL c s
  | [] => by rw [Lib.count_miss (by simp [Lib.index])]; rfl
  | x :: r => by
    by_cases h : x = c
    · subst h
      rw [Lib.count_cons_eq, Nat.add_comm, Lib.splitK, index_cons_eq, if_neg (by decide), splitL_cons_eq]
      simp only [Int.toNat_zero, Nat.zero_add, List.take_zero, List.length_singleton, List.drop_succ_cons, List.drop_zero]
      rw [splitK_one x r]
    · rw [Lib.count_cons_ne x c r h]
      have ih := splitK_one c r
      cases hk : Lib.count r [c] with
      | zero =>
        rw [hk] at ih
        exact (splitL_cons_ne h ih.symm).symm
      | succ k =>
        rw [hk] at ih
        have hm : Lib.index r [c] ≠ -1 := by
          intro e
          rw [Lib.count_miss e] at hk
          cases hk
        have hge := Lib.index_ge r [c]
        obtain ⟨j, hj⟩ : ∃ j : Nat, Lib.index r [c] = j := ⟨(Lib.index r [c]).toNat, by omega⟩
        rw [Lib.splitK, hj, if_neg (by rw [beq_iff_eq]; omega)] at ih
        have e2 := splitL_cons_ne h ih.symm
        rw [e2, Lib.splitK, index_cons_ne h, hj, if_neg (by rw [if_neg (by rw [beq_iff_eq]; omega), beq_iff_eq]; omega), if_neg (by rw [beq_iff_eq]; omega)]
        simp only [Int.toNat_natCast, Nat.add_zero, List.length_singleton]
        rw [show ((j : Int) + 1).toNat = j + 1 from by omega]
        simp
theorem splitB_one (c : UInt8) (s : ByteArray) : (Lib.splitB ⟨#[c]⟩ 0 (Lib.countB s ⟨#[c]⟩) s).map (·.data.toList) = splitL c s.data.toList := by
  rw [Lib.splitB_data]
  exact splitK_one c s.data.toList

/-- no byte c in a text -/
def Free (c : UInt8) (l : List UInt8) : Prop := c ∉ l
theorem splitL_app {c : UInt8} {x : List UInt8} (h : c ∉ x) {r : List UInt8} {a : List UInt8} {t : List (List UInt8)} (e : splitL c r = a :: t) : splitL c (x ++ r) = (x ++ a) :: t := by
  induction x with
  | nil => simpa using e
  | cons y x ih =>
    have h' : c ∉ x := fun hx => h (List.mem_cons_of_mem _ hx)
    have hy : y ≠ c := fun e => h (by rw [e]; exact List.mem_cons_self)
    exact splitL_cons_ne hy (ih h')
theorem splitL_free {c : UInt8} {x : List UInt8} (h : c ∉ x) : splitL c x = [x] := by
  have := splitL_app (r := []) (a := []) (t := []) h rfl
  simpa using this
theorem splitL_joinTail (c : UInt8) : ∀ (r : List (List UInt8)), (∀ x ∈ r, c ∉ x) → splitL c (Lib.joinTail [c] r) = [] :: r
  | [], _ => rfl
  | y :: r, h => by
    have ih := splitL_joinTail c r (fun x hx => h x (List.mem_cons_of_mem _ hx))
    have e : Lib.joinTail [c] (y :: r) = c :: (y ++ Lib.joinTail [c] r) := by simp [Lib.joinTail]
    rw [e, splitL_cons_eq, splitL_app (h y List.mem_cons_self) ih, List.append_nil]
theorem splitL_join {c : UInt8} {l : List (List UInt8)} (hl : l ≠ []) (h : ∀ x ∈ l, c ∉ x) : splitL c (Lib.join l [c]) = l := by
  cases l with
  | nil => exact absurd rfl hl
  | cons x r =>
    rw [Lib.join_cons, splitL_app (h x List.mem_cons_self) (splitL_joinTail c r (fun y hy => h y (List.mem_cons_of_mem _ hy))), List.append_nil]

/-- a text cut at the first place of another one -/
def cutG (sep : List UInt8) : List UInt8 → Option (List UInt8 × List UInt8)
  | [] => none
  | a :: r => if sep.isPrefixOf (a :: r) = true then some ([], (a :: r).drop sep.length) else (cutG sep r).map fun x => (a :: x.1, x.2)
theorem cutG_index {sep : List UInt8} (hs : sep ≠ []) : ∀ s : List UInt8, cutG sep s = if Lib.index s sep == -1 then none else some (s.take (Lib.index s sep).toNat, s.drop ((Lib.index s sep).toNat + sep.length))
  | [] => by
    have e : Lib.index [] sep = -1 := by cases sep with
      | nil => exact absurd rfl hs
      | cons a t => simp [Lib.index]
    rw [e]; rfl
  | a :: r => by
    have ih := cutG_index hs r
    by_cases hp : sep.isPrefixOf (a :: r) = true
    · have e : Lib.index (a :: r) sep = 0 := by rw [Lib.index, if_pos hp]
      rw [cutG, if_pos hp, e, if_neg (by decide)]
      simp
    · have hp' : sep.isPrefixOf (a :: r) = false := Bool.eq_false_iff.2 hp
      have e : Lib.index (a :: r) sep = if Lib.index r sep == -1 then -1 else Lib.index r sep + 1 := by rw [Lib.index, hp']; simp
      rw [cutG, if_neg hp, ih, e]
      by_cases hm : Lib.index r sep = -1
      · rw [hm]; rfl
      · have hge := Lib.index_ge r sep
        obtain ⟨j, hj⟩ : ∃ j : Nat, Lib.index r sep = j := ⟨(Lib.index r sep).toNat, by omega⟩
        rw [hj, if_neg (by rw [beq_iff_eq]; omega), if_neg (by rw [if_neg (by rw [beq_iff_eq]; omega), beq_iff_eq]; omega), if_neg (by rw [beq_iff_eq]; omega)]
        simp only [Option.map_some, Int.toNat_natCast]
        rw [show ((j : Int) + 1).toNat = j + 1 from by omega, show j + 1 + sep.length = (j + sep.length) + 1 from by omega]
        simp
theorem cut_is {sep : List UInt8} (hs : sep ≠ []) (s : List UInt8) : Lib.cut s sep = match cutG sep s with | some x => (x.1, x.2, true) | none => (s, [], false) := by
  unfold Lib.cut
  rw [cutG_index hs]
  have hge := Lib.index_ge s sep
  by_cases hm : Lib.index s sep = -1
  · rw [hm]; rfl
  · rw [if_pos (by omega), if_neg (by rw [beq_iff_eq]; exact hm)]
theorem cutG_one {c : UInt8} {x : List UInt8} (h : c ∉ x) (y : List UInt8) : cutG [c] (x ++ c :: y) = some (x, y) := by
  induction x with
  | nil => simp [cutG, List.isPrefixOf]
  | cons a x ih =>
    have h' : c ∉ x := fun hx => h (List.mem_cons_of_mem _ hx)
    have ha : a ≠ c := fun e => h (by rw [e]; exact List.mem_cons_self)
    have hp : ([c] : List UInt8).isPrefixOf (a :: (x ++ c :: y)) = false := by simp [List.isPrefixOf, Ne.symm ha]
    rw [List.cons_append, cutG, if_neg (by rw [hp]; decide), ih h']
    rfl
theorem cutG_one_none {c : UInt8} {x : List UInt8} (h : c ∉ x) : cutG [c] x = none := by
  induction x with
  | nil => rfl
  | cons a x ih =>
    have h' : c ∉ x := fun hx => h (List.mem_cons_of_mem _ hx)
    have ha : a ≠ c := fun e => h (by rw [e]; exact List.mem_cons_self)
    have hp : ([c] : List UInt8).isPrefixOf (a :: x) = false := by simp [List.isPrefixOf, Ne.symm ha]
    rw [cutG, if_neg (by rw [hp]; decide), ih h']
    rfl
/-- what is cut at a byte is put together again -/
theorem cutG_one_back {c : UInt8} : ∀ {s x y : List UInt8}, cutG [c] s = some (x, y) → s = x ++ c :: y ∧ c ∉ x
  | [], x, y, h => by cases h
  | a :: r, x, y, h => by
    unfold cutG at h
    by_cases ha : a = c
    · subst ha
      simp [List.isPrefixOf] at h
      obtain ⟨rfl, rfl⟩ := h
      simp
    · have hp : ([c] : List UInt8).isPrefixOf (a :: r) = false := by simp [List.isPrefixOf, Ne.symm ha]
      rw [hp, if_neg (by decide)] at h
      cases hc : cutG [c] r with
      | none => rw [hc] at h; cases h
      | some q =>
        obtain ⟨x', y'⟩ := q
        rw [hc] at h
        simp only [Option.map_some, Option.some.injEq, Prod.mk.injEq] at h
        obtain ⟨rfl, rfl⟩ := h
        obtain ⟨e, hn⟩ := cutG_one_back hc
        refine ⟨by rw [e]; rfl, fun hm => ?_⟩
        rcases List.mem_cons.1 hm with h1 | h1
        · exact ha h1.symm
        · exact hn h1

/-! two equal bytes as the text at which is cut -/
theorem pre2_ne {c a : UInt8} (h : a ≠ c) (r : List UInt8) : ([c, c] : List UInt8).isPrefixOf (a :: r) = false := by simp [List.isPrefixOf, Ne.symm h]
theorem cutG2_free {c : UInt8} {x : List UInt8} (h : c ∉ x) (R : List UInt8) : cutG [c, c] (x ++ R) = (cutG [c, c] R).map fun q => (x ++ q.1, q.2) := by
  induction x with
  | nil => cases hq : cutG [c, c] R <;> simp [hq]
  | cons a x ih =>
    have h' : c ∉ x := fun hx => h (List.mem_cons_of_mem _ hx)
    have ha : a ≠ c := fun e => h (by rw [e]; exact List.mem_cons_self)
    rw [List.cons_append, cutG, if_neg (by rw [pre2_ne ha]; decide), ih h', Option.map_map]
    rfl
theorem cutG2_sep {c a : UInt8} (ha : a ≠ c) (r : List UInt8) : cutG [c, c] (c :: a :: r) = (cutG [c, c] (a :: r)).map fun q => (c :: q.1, q.2) := by
  have hp : ([c, c] : List UInt8).isPrefixOf (c :: a :: r) = false := by simp [List.isPrefixOf, Ne.symm ha]
  rw [cutG, if_neg (by rw [hp]; decide)]
theorem cutG2_here (c : UInt8) (B : List UInt8) : cutG [c, c] (c :: c :: B) = some ([], B) := by
  rw [cutG, if_pos (by simp [List.isPrefixOf])]
  simp
theorem cutG2_tail (c : UInt8) (R : List UInt8) : ∀ (r : List (List UInt8)), (∀ x ∈ r, c ∉ x ∧ x ≠ []) → cutG [c, c] (Lib.joinTail [c] r ++ R) = (cutG [c, c] R).map fun q => (Lib.joinTail [c] r ++ q.1, q.2)
  | [], _ => by
    cases hq : cutG [c, c] R <;> simp [Lib.joinTail, hq]
  | y :: r, h => by
    have ih := cutG2_tail c R r (fun x hx => h x (List.mem_cons_of_mem _ hx))
    obtain ⟨hc, hn⟩ := h y List.mem_cons_self
    have e : Lib.joinTail [c] (y :: r) = c :: (y ++ Lib.joinTail [c] r) := by simp [Lib.joinTail]
    have h2 := cutG2_free hc (Lib.joinTail [c] r ++ R)
    cases y with
    | nil => exact absurd rfl hn
    | cons b y =>
      have hb : b ≠ c := fun e => hc (by rw [e]; exact List.mem_cons_self)
      rw [e, List.cons_append, List.append_assoc, List.cons_append, cutG2_sep hb]
      rw [List.cons_append] at h2
      rw [h2, ih, Option.map_map, Option.map_map]
      congr 1
      funext q
      simp
theorem cutG2_join {c : UInt8} {l : List (List UInt8)} (h : ∀ x ∈ l, c ∉ x ∧ x ≠ []) (R : List UInt8) : cutG [c, c] (Lib.join l [c] ++ R) = (cutG [c, c] R).map fun q => (Lib.join l [c] ++ q.1, q.2) := by
  cases l with
  | nil => cases hq : cutG [c, c] R <;> simp [Lib.join, List.intercalate, hq]
  | cons x r =>
    rw [Lib.join_cons, List.append_assoc, cutG2_free (h x List.mem_cons_self).1, cutG2_tail c R r (fun y hy => h y (List.mem_cons_of_mem _ hy)), Option.map_map]
    congr 1
    funext q
    simp
theorem join_free {c d : UInt8} {l : List (List UInt8)} (h : ∀ x ∈ l, c ∉ x) (hd : c ≠ d) : c ∉ Lib.join l [d] := by
  cases l with
  | nil => simp [Lib.join, List.intercalate]
  | cons x r =>
    rw [Lib.join_cons]
    intro hm
    rcases List.mem_append.1 hm with h1 | h1
    · exact h x List.mem_cons_self h1
    · unfold Lib.joinTail at h1
      obtain ⟨z, hz, hc⟩ := List.mem_flatten.1 h1
      obtain ⟨y, hy, rfl⟩ := List.mem_map.1 hz
      rcases List.mem_append.1 hc with h2 | h2
      · exact hd (List.mem_singleton.1 h2)
      · exact h y (List.mem_cons_of_mem _ hy) h2
end Go.Proofs.YtmhjgjdiifcdlaaDoor.Txt
