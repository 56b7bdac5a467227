/- Contracts of strconv.FormatUint (ten, below a hundred), strings.Join, in the shape in which the printed functions use them; addr.six tells nothing. Condition: the world holds the library's tables (Glob). -/
import Derived.Test.YtmhjgjdiifcdlaaDoorGiven
set_option linter.unusedVariables false
namespace Go.Proofs.YtmhjgjdiifcdlaaDoor.P
open Go.RowKit Go.Proofs.YtmhjgjdiifcdlaaDoorW.PrintWords

def addr_six.f (a0 : ByteArray) : Option (Bool × Int × Int × Bool) := none
theorem addr_six.calls (a0 : ByteArray) (r1 : Bool) (r2 r3 : Int) (r4 : Bool) (w : World) (hG : Glob w) (h : addr_six.f a0 = some (r1, r2, r3, r4)) :
    Calls Tryd.prog 57 #[.string a0] w fun e w' => e = .returned (.tuple #[.agg #[.bool r1, .int .u64 r2, .int .u64 r3], .bool r4]) ∧ Below w.heap.size w w' := by
  cases h

def strconv_FormatUint.f (a0 a1 : Int) : Option ByteArray :=
  if a1 = 10 then if 0 ≤ a0 then if a0 < 100 then some ⟨(dec3 a0.toNat).toArray⟩ else none else none else none
theorem strconv_FormatUint.calls (a0 a1 : Int) (r : ByteArray) (w : World) (hG : Glob w) (h : strconv_FormatUint.f a0 a1 = some r) :
    Calls Tryd.prog 49 #[.int .u64 a0, .int .i64 a1] w fun e w' => e = .returned (.string r) ∧ Below w.heap.size w w' := by
  unfold strconv_FormatUint.f at h
  by_cases h1 : a1 = 10
  · rw [if_pos h1] at h
    subst h1
    by_cases h0 : 0 ≤ a0
    · rw [if_pos h0] at h
      by_cases h2 : a0 < 100
      · rw [if_pos h2] at h
        obtain rfl := Option.some.inj h
        clear h
        obtain ⟨n, rfl⟩ : ∃ n : Nat, a0 = n := ⟨a0.toNat, by omega⟩
        have hn : n < 100 := by omega
        rw [Int.toNat_natCast, ← dec3_eq n (by omega)]
        have inner : ∀ w : World, Calls Tryd.prog 59 #[.int .u64 n, .int .i64 10] w fun e w' => e = .returned (.string ⟨(Lib.decDigits n).toArray⟩) ∧ Below w.heap.size w w' := by
          intro w
          go_enter Tryd.func59, Tryd.ntmps59
          have hw : (n : Int) % 18446744073709551616 = n := by omega
          go_wp2_with (go_at_call 71; refine (Tryd.internal_strconv_small n hn _).mono ?_; rintro e w' ⟨rfl, rfl⟩)
          all_goals go_ret
          all_goals exact ⟨rfl, by repeat (first | exact Below.refl _ _ | apply pw_below_drewN | apply below_drew1 | apply below_alloc)⟩
        go_enter Tryd.func49, Tryd.ntmps49
        go_wp2_with (go_at_call 59; refine (inner _).mono ?_; rintro e w' ⟨rfl, hb⟩)
        all_goals go_ret
        all_goals exact ⟨rfl, by repeat (first | exact hb | apply pw_below_drewN | apply below_drew1 | apply below_alloc)⟩
      · rw [if_neg h2] at h; cases h
    · rw [if_neg h0] at h; cases h
  · rw [if_neg h1] at h; cases h

def joinB (l : List ByteArray) (s : ByteArray) : ByteArray := ⟨(Lib.join (l.map (·.data.toList)) s.data.toList).toArray⟩
def strings_Join.f (l0 : List ByteArray) (a1 : ByteArray) : Option ByteArray :=
  if l0.length = 0 then none else if (Lib.join (l0.map (·.data.toList)) a1.data.toList).length ≤ 140737488355328 then if l0.length ≤ 140737488355328 then some (joinB l0 a1) else none else none
theorem strings_Join.calls (A0 : Option Addr) (c0 : Nat) (l0 : List ByteArray) (a1 : ByteArray) (r : ByteArray) (w : World) (hr0 : Kd.C Kd.string w A0 l0.length l0) (hc0 : l0.length ≤ c0) (h : strings_Join.f l0 a1 = some r) :
    Calls Tryd.prog 50 #[.slice A0 l0.length c0, .string a1] w fun e w' => e = .returned (.string r) ∧ Below w.heap.size w w' := by
  unfold strings_Join.f at h
  by_cases h0 : l0.length = 0
  · rw [if_pos h0] at h; cases h
  · rw [if_neg h0] at h
    by_cases h1 : (Lib.join (l0.map (·.data.toList)) a1.data.toList).length ≤ 140737488355328
    · rw [if_pos h1] at h
      by_cases h2 : l0.length ≤ 140737488355328
      · rw [if_pos h2] at h
        obtain rfl := Option.some.inj h
        obtain ⟨ad, rfl, hz⟩ := Kd.at_string hr0 0 (by omega) (by omega)
        obtain ⟨bk, o, no⟩ := ad
        obtain rfl : no = none := by
          cases no with
          | none => rfl
          | some z =>
            have e : (⟨bk, o, some z⟩ : Addr).add (Int.toNat 0) = ⟨bk, o, some z⟩ := rfl
            rw [e] at hz
            unfold World.cell? at hz
            split at hz <;> cases hz
        have hcells : ∀ (j : Nat) x, l0[j]? = some x → w.cell? ⟨bk, o + j, none⟩ = some (.string x) := by
          intro j x hj
          have hlt : j < l0.length := (List.getElem?_eq_some_iff.1 hj).1
          obtain ⟨ad', e, hc⟩ := Kd.at_string hr0 (j : Int) (by omega) (by omega)
          cases e
          rw [show rdOf ByteArray.empty l0 (j : Int) = x from by simp [rdOf, List.getD_eq_getElem?_getD, hj]] at hc
          rw [Int.toNat_natCast] at hc
          unfold Addr.add at hc
          split at hc
          · next hj0 => rw [hj0]; exact hc
          · exact hc
        refine (Tryd.strings_Join bk o c0 l0 a1 w hcells ?_ h2 hc0 h1).mono ?_
        · exact World.block_lt_of_cell? w ⟨bk, o, none⟩ hz
        · rintro e w' ⟨rfl, hb⟩
          exact ⟨rfl, hb⟩
      · rw [if_neg h2] at h; cases h
    · rw [if_neg h1] at h; cases h
end Go.Proofs.YtmhjgjdiifcdlaaDoor.P
