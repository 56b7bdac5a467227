/- Contracts of strconv.FormatUint (ten, below a hundred), strings.Join, in the shape in which the printed functions use them. Condition: the world holds the library's tables (Glob). -/
import Derived.Test.YtmhjgjdiifcdlaaDoorFmt16
set_option linter.unusedVariables false
namespace Go.Proofs.YtmhjgjdiifcdlaaDoor.P
open Go.RowKit Go.Proofs.YtmhjgjdiifcdlaaDoorW.PrintWords

theorem internal_fmt16 (u : Nat) (hu : u < 65536) (w : World) (hG : Glob w) :
    Calls Tryd.prog 59 #[.int .u64 u, .int .i64 16] w fun e w' => e = .returned (.string ⟨(hex4 u).toArray⟩) ∧ Below w.heap.size w w' := by
  have hI : Calls Tryd.prog 74 #[.slice none 0 0, .int .u64 u, .int .i64 16, .bool false, .bool false] w fun e w' => e = .returned (.tuple #[.slice none 0 0, .string ⟨(hex4 u).toArray⟩]) ∧ Below w.heap.size w w' := by
    unfold hex4
    by_cases h1 : u < 16
    · rw [if_pos h1]; exact bits_hex1 u w hG.deb h1
    · rw [if_neg h1]
      by_cases h2 : u < 256
      · rw [if_pos h2]
        exact bits_hex2 u (u / 16) (u % 16) w hG.deb (by omega) (and15 _ (by omega)) (by omega) (by omega) (by omega)
      · rw [if_neg h2]
        by_cases h3 : u < 4096
        · rw [if_pos h3, show u / 256 = u / 16 / 16 from by omega]
          exact bits_hex3 u (u / 16) (u / 16 / 16) (u % 16) (u / 16 % 16) w hG.deb (by omega) (and15 _ (by omega)) (by omega) (by omega) (by omega) (and15 _ (by omega)) (by omega) (by omega) (by omega)
        · rw [if_neg h3, show u / 4096 = u / 16 / 16 / 16 from by omega, show u / 256 = u / 16 / 16 from by omega]
          exact bits_hex4 u (u / 16) (u / 16 / 16) (u / 16 / 16 / 16) (u % 16) (u / 16 % 16) (u / 16 / 16 % 16) w hG.deb (by omega) (and15 _ (by omega)) (by omega) (by omega) (by omega) (and15 _ (by omega)) (by omega) (by omega) (by omega) (and15 _ (by omega)) (by omega) (by omega) (by omega)
  clear hG
  go_enter Tryd.func59, Tryd.ntmps59
  go_wp2_with (go_at_call 74; refine hI.mono ?_; rintro e w' ⟨rfl, hb⟩)
  go_ret
  exact ⟨rfl, by repeat (first | exact hb | apply pw_below_drewN | apply below_drew1)⟩
theorem internal_fmt10 (u : Nat) (hu : u < 1000) (w : World) (hG : Glob w) :
    Calls Tryd.prog 59 #[.int .u64 u, .int .i64 10] w fun e w' => e = .returned (.string ⟨(dec3 u).toArray⟩) ∧ Below w.heap.size w w' := by
  rw [← dec3_eq u hu]
  by_cases h : u < 100
  · clear hG
    go_enter Tryd.func59, Tryd.ntmps59
    have hw : (u : Int) % 18446744073709551616 = u := by omega
    go_wp2_with (go_at_call 71; refine (Tryd.internal_strconv_small u h _).mono ?_; rintro e w' ⟨rfl, rfl⟩)
    all_goals go_ret
    all_goals exact ⟨rfl, by repeat (first | exact Below.refl _ _ | apply pw_below_drewN | apply below_drew1 | apply below_alloc)⟩
  · exact internal_dec u (by omega) (by omega) w hG
def strconv_FormatUint.f (a0 a1 : Int) : Option ByteArray :=
  if a1 = 10 then if 0 ≤ a0 then if a0 < 1000 then some ⟨(dec3 a0.toNat).toArray⟩ else none else none
  else if a1 = 16 then if 0 ≤ a0 then if a0 < 65536 then some ⟨(hex4 a0.toNat).toArray⟩ else none else none else none
theorem strconv_FormatUint.calls (a0 a1 : Int) (r : ByteArray) (w : World) (hG : Glob w) (h : strconv_FormatUint.f a0 a1 = some r) :
    Calls Tryd.prog 49 #[.int .u64 a0, .int .i64 a1] w fun e w' => e = .returned (.string r) ∧ Below w.heap.size w w' := by
  have inner : Calls Tryd.prog 59 #[.int .u64 a0, .int .i64 a1] w fun e w' => e = .returned (.string r) ∧ Below w.heap.size w w' := by
    unfold strconv_FormatUint.f at h
    by_cases h1 : a1 = 10
    · rw [if_pos h1] at h
      subst h1
      by_cases h0 : 0 ≤ a0
      · rw [if_pos h0] at h
        by_cases h2 : a0 < 1000
        · rw [if_pos h2] at h
          obtain rfl := Option.some.inj h
          obtain ⟨n, rfl⟩ : ∃ n : Nat, a0 = n := ⟨a0.toNat, by omega⟩
          exact internal_fmt10 n (by omega) w hG
        · rw [if_neg h2] at h; cases h
      · rw [if_neg h0] at h; cases h
    · rw [if_neg h1] at h
      by_cases h16 : a1 = 16
      · rw [if_pos h16] at h
        subst h16
        by_cases h0 : 0 ≤ a0
        · rw [if_pos h0] at h
          by_cases h2 : a0 < 65536
          · rw [if_pos h2] at h
            obtain rfl := Option.some.inj h
            obtain ⟨n, rfl⟩ : ∃ n : Nat, a0 = n := ⟨a0.toNat, by omega⟩
            exact internal_fmt16 n (by omega) w hG
          · rw [if_neg h2] at h; cases h
        · rw [if_neg h0] at h; cases h
      · rw [if_neg h16] at h; cases h
  clear h hG
  go_enter Tryd.func49, Tryd.ntmps49
  go_wp2_with (go_at_call 59; refine inner.mono ?_; rintro e w' ⟨rfl, hb⟩)
  all_goals go_ret
  all_goals exact ⟨rfl, by repeat (first | exact hb | apply pw_below_drewN | apply below_drew1 | apply below_alloc)⟩

def joinB (l : List ByteArray) (s : ByteArray) : ByteArray := ⟨(Lib.join (l.map (·.data.toList)) s.data.toList).toArray⟩
def strings_Join.f (l0 : List ByteArray) (a1 : ByteArray) : Option ByteArray :=
  if (Lib.join (l0.map (·.data.toList)) a1.data.toList).length ≤ 140737488355328 then if l0.length ≤ 140737488355328 then some (joinB l0 a1) else none else none
theorem strings_Join.calls (A0 : Option Addr) (c0 : Nat) (l0 : List ByteArray) (a1 : ByteArray) (r : ByteArray) (w : World) (hr0 : Kd.C Kd.string w A0 l0.length l0) (hc0 : l0.length ≤ c0) (h : strings_Join.f l0 a1 = some r) :
    Calls Tryd.prog 50 #[.slice A0 l0.length c0, .string a1] w fun e w' => e = .returned (.string r) ∧ Below w.heap.size w w' := by
  unfold strings_Join.f at h
  by_cases h0 : l0.length = 0
  · obtain rfl := List.eq_nil_of_length_eq_zero h0
    rw [if_pos (by simp [Lib.join, List.intercalate]), if_pos (by simp)] at h
    obtain rfl := Option.some.inj h
    refine (Tryd.strings_Join_none A0 c0 a1 w).mono ?_
    rintro e w' ⟨rfl, rfl⟩
    exact ⟨rfl, Below.refl _ _⟩
  · by_cases h1 : (Lib.join (l0.map (·.data.toList)) a1.data.toList).length ≤ 140737488355328
    · rw [if_pos h1] at h
      by_cases h2 : l0.length ≤ 140737488355328
      · rw [if_pos h2] at h
        obtain rfl := Option.some.inj h
        obtain ⟨ad, rfl, hz⟩ := Kd.at_string hr0 0 (by omega) (by omega)
        obtain ⟨bk, o, no⟩ := ad
        obtain rfl : no = none := by
          cases no with
          | none => rfl
          | some z =>
            have e : (⟨bk, o, some z⟩ : Addr).add (Int.toNat 0) = ⟨bk, o, some z⟩ := rfl
            rw [e] at hz
            unfold World.cell? at hz
            split at hz <;> cases hz
        have hcells : ∀ (j : Nat) x, l0[j]? = some x → w.cell? ⟨bk, o + j, none⟩ = some (.string x) := by
          intro j x hj
          have hlt : j < l0.length := (List.getElem?_eq_some_iff.1 hj).1
          obtain ⟨ad', e, hc⟩ := Kd.at_string hr0 (j : Int) (by omega) (by omega)
          cases e
          rw [show rdOf ByteArray.empty l0 (j : Int) = x from by simp [rdOf, List.getD_eq_getElem?_getD, hj]] at hc
          rw [Int.toNat_natCast] at hc
          unfold Addr.add at hc
          split at hc
          · next hj0 => rw [hj0]; exact hc
          · exact hc
        refine (Tryd.strings_Join bk o c0 l0 a1 w hcells ?_ h2 hc0 h1).mono ?_
        · exact World.block_lt_of_cell? w ⟨bk, o, none⟩ hz
        · rintro e w' ⟨rfl, hb⟩
          exact ⟨rfl, hb⟩
      · rw [if_neg h2] at h; cases h
    · rw [if_neg h1] at h; cases h
end Go.Proofs.YtmhjgjdiifcdlaaDoor.P
