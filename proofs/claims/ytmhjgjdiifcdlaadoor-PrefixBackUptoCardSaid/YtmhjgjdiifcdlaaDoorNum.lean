/- Contract of addr.number at base 10 and 16, in the shape in which the printed functions use it. Condition: the world holds the library's tables (Glob). -/
import Derived.Test.YtmhjgjdiifcdlaaDoorHex2
set_option linter.unusedVariables false
namespace Go.Proofs.YtmhjgjdiifcdlaaDoor.P
open Go.RowKit Go.Proofs.YtmhjgjdiifcdlaaDoorW.PrintWords

/-! ### addr.number -/
def addr_number.f (a0 : ByteArray) (a1 a2 : Int) : Option (Int × Bool) :=
  if a2 ≤ 1000 then
    if a0.size = 0 then some (0, false)
    else if (a0.size : Int) > a2 then some (0, false)
    else if a1 = 10 then
      match Lib.parseUintB 64 a0.data.toList with
      | .ok u => some (u, true)
      | .range => none
      | _ => some (0, false)
    else if a1 = 16 then
      if a2 ≤ 8 then
        match hexN 0 a0.data.toList with
        | some u => some (u, true)
        | none => some (0, false)
      else none
    else none
  else none
set_option maxRecDepth 100000 in
theorem addr_number.calls (a0 : ByteArray) (a1 a2 : Int) (r1 : Int) (r2 : Bool) (w : World) (hG : Glob w) (h : addr_number.f a0 a1 a2 = some (r1, r2)) :
    Calls Tryd.prog 66 #[.string a0, .int .i64 a1, .int .i64 a2] w fun e w' => e = .returned (.tuple #[.int .u64 r1, .bool r2]) ∧ Below w.heap.size w w' := by
  have hu := Tryd.underlying77
  unfold addr_number.f at h
  by_cases h2 : a2 ≤ 1000
  · rw [if_pos h2] at h
    by_cases h0 : a0.size = 0
    · rw [if_pos h0] at h
      simp only [Option.some.injEq, Prod.mk.injEq] at h
      obtain ⟨rfl, rfl⟩ := h
      have e0 : a0.toList = [] := toList_nil h0
      go_enter Tryd.func66, Tryd.ntmps66
      go_wp2
      go_ret2
      exact ⟨rfl, by repeat (first | exact Below.refl _ _ | apply pw_below_drewN | apply below_drew1)⟩
    · rw [if_neg h0] at h
      have e0 := toList_ne h0
      have e1 : a0.toList.isEmpty = false := by simpa using e0
      have e2 : a0.size ≤ 9223372036854775807 ∨ 9223372036854775807 < a0.size := by omega
      by_cases h3 : (a0.size : Int) > a2
      · rw [if_pos h3] at h
        simp only [Option.some.injEq, Prod.mk.injEq] at h
        obtain ⟨rfl, rfl⟩ := h
        clear h2 h0
        go_enter Tryd.func66, Tryd.ntmps66
        go_wp2
        go_ret2
        exact ⟨rfl, by repeat (first | exact Below.refl _ _ | apply pw_below_drewN | apply below_drew1)⟩
      · rw [if_neg h3] at h
        by_cases h4 : a1 = 10
        · rw [if_pos h4] at h
          subst h4
          have hs : a0.size ≤ 1000 := by omega
          cases hp : Lib.parseUintB 64 a0.data.toList with
          | ok u =>
            rw [hp] at h
            simp only [Option.some.injEq, Prod.mk.injEq] at h
            obtain ⟨rfl, rfl⟩ := h
            have HP := Lib.hid hp
            clear hp h0 h2
            go_enter Tryd.func66, Tryd.ntmps66
            go_wp2_with (go_at_call 58; refine (pu_ok _ hs _ HP.out _).mono ?_; rintro e w' ⟨rfl, hb⟩)
            go_quiet (fail)
            go_wp2
            go_ret2
            exact ⟨rfl, by repeat (first | exact hb | apply pw_below_drewN | apply below_drew1)⟩
          | range => rw [hp] at h; cases h
          | _ =>
            rw [hp] at h
            simp only [Option.some.injEq, Prod.mk.injEq] at h
            obtain ⟨rfl, rfl⟩ := h
            have HP := Lib.hid hp
            have HG := Aside0.mk hG
            clear hp h0 h2 hG
            go_enter Tryd.func66, Tryd.ntmps66
            go_wp2_with (go_at_call 58; refine (pu_syn _ hs HP.out _ (Glob_drawn HG.out (by first | exact Drawn0.refl _ | exact (Drawn0.refl _).step _))).mono ?_; rintro e w' ⟨N, rfl, hb⟩)
            go_quiet (fail)
            go_wp2
            go_ret2
            exact ⟨rfl, by repeat (first | exact hb | apply pw_below_drewN | apply below_drew1)⟩
        · rw [if_neg h4] at h
          by_cases h5 : a1 = 16
          · rw [if_pos h5] at h
            subst h5
            by_cases h6 : a2 ≤ 8
            · rw [if_pos h6] at h
              have hs : a0.size ≤ 8 := by omega
              cases hp : hexN 0 a0.data.toList with
              | some u =>
                rw [hp] at h
                simp only [Option.some.injEq, Prod.mk.injEq] at h
                obtain ⟨rfl, rfl⟩ := h
                have HP := Lib.hid hp
                have H0 := Lib.hid h0
                clear hp h0 h2 h4 h6
                go_enter Tryd.func66, Tryd.ntmps66
                go_wp2_with (go_at_call 58; refine (pux_ok _ H0.out hs _ HP.out _).mono ?_; rintro e w' ⟨rfl, hb⟩)
                go_quiet (fail)
                go_wp2
                go_ret2
                exact ⟨rfl, by repeat (first | exact hb | apply pw_below_drewN | apply below_drew1)⟩
              | none =>
                rw [hp] at h
                simp only [Option.some.injEq, Prod.mk.injEq] at h
                obtain ⟨rfl, rfl⟩ := h
                have HP := Lib.hid hp
                have H0 := Lib.hid h0
                have HG := Aside0.mk hG
                clear hp h0 h2 hG h4 h6
                go_enter Tryd.func66, Tryd.ntmps66
                go_wp2_with (go_at_call 58; refine (pux_syn _ H0.out hs HP.out _ (Glob_drawn HG.out (by first | exact Drawn0.refl _ | exact (Drawn0.refl _).step _))).mono ?_; rintro e w' ⟨N, rfl, hb⟩)
                go_quiet (fail)
                go_wp2
                go_ret2
                exact ⟨rfl, by repeat (first | exact hb | apply pw_below_drewN | apply below_drew1)⟩
            · rw [if_neg h6] at h; cases h
          · rw [if_neg h5] at h; cases h
  · rw [if_neg h2] at h; cases h
end Go.Proofs.YtmhjgjdiifcdlaaDoor.P
