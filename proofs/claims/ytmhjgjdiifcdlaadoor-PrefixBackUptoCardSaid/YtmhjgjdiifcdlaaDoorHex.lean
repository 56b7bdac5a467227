/- internal/strconv.ParseUint and strconv.ParseUint at base 16, of one to eight bytes: what hexN says of them. Condition: the world holds the library's tables (Glob). After the library's proof at base 10. -/
import Derived.Test.YtmhjgjdiifcdlaaDoorGiven
import Derived.Shelf.Pu.ToError
import Derived.Laws.Closers25
import Derived.Laws.Closers25b
import Derived.BigCall
import Derived.BigGuard
set_option linter.unusedVariables false
namespace Go.Proofs.YtmhjgjdiifcdlaaDoor.P
open Go.RowKit Go.Proofs.YtmhjgjdiifcdlaaDoorW.PrintWords

/-- a digit of base 16 -/
def hexd (c : UInt8) : Option Nat :=
  if 48 ≤ c.toNat ∧ c.toNat ≤ 57 then some (c.toNat - 48)
  else if 97 ≤ Go.bits .or .u8 (c.toNat : Int) 32 ∧ Go.bits .or .u8 (c.toNat : Int) 32 ≤ 102 then some ((Go.bits .or .u8 (c.toNat : Int) 32).toNat - 87) else none
def hexN : Nat → List UInt8 → Option Nat
  | acc, [] => some acc
  | acc, c :: r => match hexd c with
    | some d => hexN (acc * 16 + d) r
    | none => none
theorem hexd_lt {c : UInt8} {d : Nat} (h : hexd c = some d) : d < 16 := by
  unfold hexd at h
  split at h
  · obtain rfl := Option.some.inj h; omega
  · split at h
    · obtain rfl := Option.some.inj h; omega
    · cases h
def hexTuple (o : Option Nat) : Value := match o with
  | some u => .tuple #[.int .u64 u, .nilIface]
  | none => .tuple #[.int .u64 0, .iface 106 (.int .i64 2)]

theorem lower_calls (c : Int) (w : World) : Calls Tryd.prog 82 #[.int .u8 c] w fun e w' => e = .returned (.int .u8 (Go.bits .or .u8 c 32)) ∧ w' = w := by
  go_enter Tryd.func82, Tryd.ntmps82
  go_wp2
  go_ret
  exact ⟨rfl, rfl⟩

set_option maxHeartbeats 32000000 in
set_option maxRecDepth 100000 in
theorem internal_hex (t : ByteArray) (hne : t.size ≠ 0) (hmax : t.size ≤ 8) (w : World) :
    Calls Tryd.prog 69 #[.string t, .int .i64 16, .int .i64 64] w fun e w' => e = .returned (hexTuple (hexN 0 t.data.toList)) ∧ w' = Lib.bytesWorld w 5 t := by
  have hemp : t.toList.isEmpty = false := by
    rw [← decide_eq_emptyBytes]
    exact decide_eq_false (fun h => hne (by rw [h]; rfl))
  have hcv := Lib.run_convert_string_bytes (P := Tryd.prog) w 9 48 5 t (u := .string) Tryd.underlying9 Tryd.underlying48 Tryd.underlying5
  have hB : ∀ j, j < t.size → (Lib.bytesWorld w 5 t).cell? ⟨w.heap.size, j, none⟩ = some (.int .u8 (t.data.toList.getD j 0).toNat) := fun j hj => Lib.bytesWorld_cell w 5 t j hj
  obtain ⟨W1, hW1⟩ : ∃ W1, W1 = Lib.bytesWorld w 5 t := ⟨_, rfl⟩
  rw [← hW1] at hcv hB ⊢
  clear hW1
  obtain ⟨bs, hL⟩ : ∃ bs, bs = t.data.toList := ⟨_, rfl⟩
  have hLn : bs.length = t.size := by rw [hL, Lib.size_eq]
  rw [← hL] at hB ⊢
  clear hL
  have hmv : IntKind.u64.wrap (IntKind.u64.wrap 18446744073709551616 - 1) = 18446744073709551615 := by
    rw [IntKind.wrap_u64, IntKind.wrap_u64]
    decide
  go_enter Tryd.func69, Tryd.ntmps69
  go_wp2
  go_loop [12, 13, 101] (fun vu vn vi => ∃ (k acc : Nat) (a : Int), vu = .bool false ∧ vn = .int .u64 a ∧ vi = .int .i64 k ∧ k ≤ t.size ∧ Hid (a = (acc : Int) ∧ acc < 16 ^ k ∧ hexN 0 bs = hexN acc (bs.drop k)))
    (fun _ _ vi => t.size - (intOf vi).toNat)
  case atStart => exact ⟨0, 0, 0, rfl, rfl, rfl, by omega, rfl, by simp, rfl⟩
  case round =>
    obtain ⟨k, acc, a, rfl, rfl, rfl, hk, hh⟩ := hrel
    obtain ⟨ha, hacc, hdec⟩ := hh.out
    clear hh
    have a0 : 0 ≤ a := by omega
    by_cases hkn : k < t.size
    · have hc := hB k hkn
      have hdrop : bs.drop k = bs[k]'(by omega) :: bs.drop (k + 1) := List.drop_eq_getElem_cons (by omega)
      have hget : bs.getD k 0 = bs[k]'(by omega) := by simp [List.getD, List.getElem?_eq_getElem (show k < bs.length by omega)]
      rw [hdrop] at hdec
      rw [hget] at hc
      generalize bs[k]'(by omega) = c at hc hdec
      have hc256 : c.toNat < 256 := c.toNat_lt
      have hp : 16 ^ k ≤ 16 ^ 7 := Nat.pow_le_pow_right (by omega) (by omega)
      have hp1 : 16 ^ (k + 1) = 16 ^ k * 16 := Nat.pow_succ ..
      have hpv : (16 : Nat) ^ 7 = 268435456 := by decide
      have icut : a < 1152921504606846976 := by omega
      clear hB hdrop hget
      by_cases hdig : 48 ≤ c.toNat ∧ c.toNat ≤ 57
      · obtain ⟨hd0, hd1⟩ := hdig
        have hF : hexN acc (c :: bs.drop (k + 1)) = hexN (acc * 16 + (c.toNat - 48)) (bs.drop (k + 1)) := by simp [hexN, hexd, hd0, hd1]
        have HN : Hid (a * 16 + ((c.toNat : Int) - 48) = ((acc * 16 + (c.toNat - 48) : Nat) : Int) ∧ acc * 16 + (c.toNat - 48) < 16 ^ (k + 1) ∧ hexN 0 bs = hexN (acc * 16 + (c.toNat - 48)) (bs.drop (k + 1))) := Lib.hid ⟨by omega, by omega, hdec.trans hF⟩
        have iov : a * 16 + ((c.toNat : Int) - 48) < 18446744073709551616 := by omega
        have i16 : (c.toNat : Int) - 48 < 16 := by omega
        clear hacc hF hdec ha hp hp1 hpv
        go_wp2
        refine ⟨⟨k + 1, acc * 16 + (c.toNat - 48), a * 16 + ((c.toNat : Int) - 48), rfl, (by first | rfl | (congr 1; omega)), (by first | rfl | (congr 1; omega)), by omega, HN⟩, by simp [intOf]; omega⟩
      · by_cases h95 : c.toNat = 95
        · have hF : hexN acc (c :: bs.drop (k + 1)) = none := by
            have : hexd c = none := by unfold hexd; rw [h95]; decide
            simp [hexN, this]
          rw [hF] at hdec
          have hu0 := bits_lo_u8 .or 95 32
          have hu1 := bits_hi_u8 .or 95 32
          rw [h95] at hc
          clear hacc hF ha hp hp1 hpv hdig hc256 h95
          go_wp2_with (go_at_call 82; refine (lower_calls _ _).mono ?_; rintro e w' ⟨rfl, rfl⟩)
          all_goals go_ret2
          all_goals first | exact ⟨rfl, rfl⟩ | exact ⟨by rw [hdec]; rfl, rfl⟩
        · obtain ⟨lv, hlv⟩ : ∃ lv, Go.bits .or .u8 (c.toNat : Int) 32 = lv := ⟨_, rfl⟩
          have hv0 := bits_lo_u8 .or (c.toNat : Int) 32
          have hv1 := bits_hi_u8 .or (c.toNat : Int) 32
          have hC : ∀ w, Calls Tryd.prog 82 #[.int .u8 (c.toNat : Int)] w fun e w' => e = .returned (.int .u8 lv) ∧ w' = w := by
            intro w
            have := lower_calls (c.toNat : Int) w
            rw [hlv] at this
            exact this
          rw [hlv] at hv0 hv1
          have i95 : ((c.toNat : Int) == 95) = false := by simp; omega
          have j95 : ¬ (c.toNat : Int) = 95 := by omega
          by_cases hlet : 97 ≤ lv ∧ lv ≤ 102
          · have hF : hexN acc (c :: bs.drop (k + 1)) = hexN (acc * 16 + (lv.toNat - 87)) (bs.drop (k + 1)) := by simp [hexN, hexd, hdig, hlv, hlet]
            obtain ⟨hl0, hl1⟩ := hlet
            have HN : Hid (a * 16 + (lv - 97 + 10) = ((acc * 16 + (lv.toNat - 87) : Nat) : Int) ∧ acc * 16 + (lv.toNat - 87) < 16 ^ (k + 1) ∧ hexN 0 bs = hexN (acc * 16 + (lv.toNat - 87)) (bs.drop (k + 1))) := Lib.hid ⟨by omega, by omega, hdec.trans hF⟩
            have iov : a * 16 + (lv - 97 + 10) < 18446744073709551616 := by omega
            have i16 : lv - 97 + 10 < 16 := by omega
            have i17 : lv ≤ 122 := by omega
            clear hacc hF hdec ha hp hp1 hpv hlv hl1
            go_wp2_with (go_at_call 82; refine (hC _).mono ?_; rintro e w' ⟨rfl, rfl⟩)
            all_goals refine ⟨⟨k + 1, acc * 16 + (lv.toNat - 87), a * 16 + (lv - 97 + 10), rfl, (by first | rfl | (congr 1; omega)), (by first | rfl | (congr 1; omega)), by omega, HN⟩, by simp [intOf]; omega⟩
          · have hF : hexN acc (c :: bs.drop (k + 1)) = none := by simp [hexN, hexd, hdig, hlv, hlet]
            rw [hF] at hdec
            clear hacc hF ha hp hp1 hpv hlv
            go_wp2_with (go_at_call 82; refine (hC _).mono ?_; rintro e w' ⟨rfl, rfl⟩)
            all_goals go_ret2
            all_goals first | exact ⟨rfl, rfl⟩ | exact ⟨by rw [hdec]; rfl, rfl⟩
    · have hkk : k = t.size := by omega
      subst hkk
      have hF : hexN acc (bs.drop t.size) = some acc := by rw [List.drop_eq_nil_of_le (by omega)]; rfl
      rw [hF] at hdec
      subst ha
      clear hacc hF a0
      go_wp2
      go_ret2
      exact ⟨rfl, rfl⟩
end Go.Proofs.YtmhjgjdiifcdlaaDoor.P
