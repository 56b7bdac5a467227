/- Contracts of library functions and of functions with library calls, in the shape in which the printed functions use them: each says: when the Lean function tells a result, the call returns it and leaves what was there as it was. Condition: the world holds the library's tables (Glob). -/
import Derived.Test.YtmhjgjdiifcdlaaDoorKW
import Derived.Test.YtmhjgjdiifcdlaaDoorKS
import Derived.WalkKit
import Derived.WalkLawsBesides
import Derived.WalkSpells
import Derived.WideLaws
import Derived.Lib.LaidTab
import Derived.Lib.Hide
import Derived.Lib.ParseIntBCases
import Derived.Lib.AppendIntMem
import Derived.Deep.QuietTactic
import Derived.BigQuiet
set_option linter.unusedVariables false
namespace Go.Proofs.YtmhjgjdiifcdlaaDoor.P
open Go.RowKit Go.Proofs.YtmhjgjdiifcdlaaDoorW.PrintWords

/-- What the world holds of the library's variables. -/
structure Glob (w : World) : Prop where
  len : ∃ m : Int, w.cell? ⟨0, 0, none⟩ = some (.int .i64 m)
  syn : ∃ tp p, w.var? Tryd.prog "strconv.ErrSyntax" = some #[.iface tp p]
  rng : ∃ tp p, w.var? Tryd.prog "strconv.ErrRange" = some #[.iface tp p]
  pow : Lib.TabIs Tryd.prog w "internal/strconv.uint64pow10" .u64 Lib.pow10Tab
  deb : w.cell? ⟨5, 15, none⟩ = some (.int .u8 4)

theorem g_syn : Tryd.prog.globalNamed "strconv.ErrSyntax" = some 2 := by kernel_rfl
theorem g_rng : Tryd.prog.globalNamed "strconv.ErrRange" = some 3 := by kernel_rfl
theorem g_pow : Tryd.prog.globalNamed "internal/strconv.uint64pow10" = some 1 := by kernel_rfl

theorem var_lt {P : Program} {w : World} {n : String} {cs : Array Value} {g : Nat} (hg : P.globalNamed n = some g) (h : w.var? P n = some cs) (h0 : 0 < cs.size) : g < w.heap.size := by
  unfold World.var? at h
  simp only [hg, Option.bind_some] at h
  rcases Nat.lt_or_ge g w.heap.size with hl | hl
  · exact hl
  · rw [Array.getElem?_eq_none hl] at h
    cases h

theorem Glob_below {w w' : World} (h : Glob w) (hb : Below w.heap.size w w') : Glob w' := by
  obtain ⟨⟨m, hm⟩, ⟨tp, p, hs⟩, ⟨tr, q, hr⟩, hp, hd⟩ := h
  refine ⟨⟨m, (hb.cell (p := ⟨_, 0, none⟩) (World.block_lt_of_cell? w _ hm)).trans hm⟩, ⟨tp, p, var?_below hb g_syn (var_lt g_syn hs (by simp)) hs⟩, ⟨tr, q, var?_below hb g_rng (var_lt g_rng hr (by simp)) hr⟩, ?_, (hb.cell (p := ⟨_, 15, none⟩) (World.block_lt_of_cell? w _ hd)).trans hd⟩
  exact var?_below hb g_pow (var_lt g_pow hp (by decide)) hp
theorem Glob_drawn {w w' : World} (h : Glob w) (hb : Drawn0 w w') : Glob w' := Glob_below h hb.below

/-! ### strings.Cut -/
def strings_Cut.f (a0 a1 : ByteArray) : Option (ByteArray × ByteArray × Bool) :=
  if a0.size < 4294967281 then some (⟨(Lib.cut a0.data.toList a1.data.toList).1.toArray⟩, ⟨(Lib.cut a0.data.toList a1.data.toList).2.1.toArray⟩, (Lib.cut a0.data.toList a1.data.toList).2.2) else none
theorem strings_Cut.calls (a0 a1 : ByteArray) (r1 r2 : ByteArray) (r3 : Bool) (w : World) (hG : Glob w) (h : strings_Cut.f a0 a1 = some (r1, r2, r3)) :
    Calls Tryd.prog 40 #[.string a0, .string a1] w fun e w' => e = .returned (.tuple #[.string r1, .string r2, .bool r3]) ∧ Below w.heap.size w w' := by
  unfold strings_Cut.f at h
  by_cases hs : a0.size < 4294967281
  · rw [if_pos hs] at h
    simp only [Option.some.injEq, Prod.mk.injEq] at h
    obtain ⟨rfl, rfl, rfl⟩ := h
    obtain ⟨m, hm⟩ := hG.len
    refine (Tryd.strings_Cut a0 a1 m w hs hm).mono ?_
    rintro e w' ⟨rfl, n, rfl⟩
    exact ⟨rfl, pw_below_drewN (Below.refl _ _) n⟩
  · rw [if_neg hs] at h; cases h

/-! ### strings.Split -/
def strings_Split.f (a0 a1 : ByteArray) : Option (List ByteArray) :=
  if a0.size < 4294967281 ∧ 1 ≤ a1.size then some (Lib.splitB a1 0 (Lib.countB a0 a1) a0) else none
theorem split_len (a0 a1 : ByteArray) (h1 : 1 ≤ a1.size) : (Lib.splitB a1 0 (Lib.countB a0 a1) a0).length = Lib.countB a0 a1 + 1 := Lib.splitB_all a1 h1 0 _ a0 rfl
theorem strings_Split.calls (a0 a1 : ByteArray) (r : List ByteArray) (w : World) (hG : Glob w) (h : strings_Split.f a0 a1 = some r) :
    Calls Tryd.prog 65 #[.string a0, .string a1] w fun e w' => ∃ v0_ : Value, e = .returned (v0_) ∧ Kd.R Kd.string 9 w' w.heap.size (fun _ => True) v0_ r ∧ Below w.heap.size w w' := by
  unfold strings_Split.f at h
  by_cases hs : a0.size < 4294967281 ∧ 1 ≤ a1.size
  · rw [if_pos hs] at h
    obtain rfl := Option.some.inj h
    obtain ⟨m, hm⟩ := hG.len
    refine (Tryd.strings_Split a0 a1 m w hs.1 hm hs.2).mono ?_
    rintro e w' ⟨rfl, rfl⟩
    have hl := split_len a0 a1 hs.2
    refine ⟨_, rfl, ⟨fun k _ => trivial, ?_⟩, (Below.refl _ _).alloc (Nat.le_refl _) _⟩
    have hm : (Lib.splitB a1 0 (Lib.countB a0 a1) a0).length ≤ 9223372036854775807 := by
      have := Lib.countB_le a1 hs.2 a0.size a0 (Nat.le_refl _)
      omega
    have hr : Reps (Kd.string.M (w.alloc (.cells ((Lib.splitB a1 0 (Lib.countB a0 a1) a0).map Value.string).toArray 9)) w.heap.size (fun k => True ∧ some k ≠ (Value.slice (some ⟨w.heap.size, 0, none⟩) (Lib.countB a0 a1 + 1) (Lib.countB a0 a1 + 1)).ownBlock)) 1 (Lib.splitB a1 0 (Lib.countB a0 a1) a0) ((Lib.splitB a1 0 (Lib.countB a0 a1) a0).map Value.string) := by
      refine ⟨by simp, fun j p hj => ?_⟩
      have hlt := (List.getElem?_eq_some_iff.1 hj).1
      show _ = [Value.string p]
      rw [Nat.mul_one, List.drop_eq_getElem_cons (by simpa using hlt), List.take_succ_cons, List.take_zero]
      have e := (List.getElem?_eq_some_iff.1 hj).2
      simp [e]
    have h2 := OwnRow.lit w w.heap.size (e := 9) hr (Nat.le_refl _) hm
    rw [hl] at h2
    exact h2
  · rw [if_neg hs] at h; cases h

/-! ### strconv.ParseUint, base 10 -/
theorem below_bytes (w : World) (e : TypeId) (s : ByteArray) : Below w.heap.size w (Lib.bytesWorld w e s) := bytes_below (Below.refl _ _) (Nat.le_refl _) e s
theorem pu_ok (s : ByteArray) (hs : s.size ≤ 1000) (u : Nat) (h : Lib.parseUintB 64 s.data.toList = .ok u) (w : World) :
    Calls Tryd.prog 58 #[.string s, .int .i64 10, .int .i64 64] w fun e w' => e = .returned (.tuple #[.int .u64 u, .nilIface]) ∧ Below w.heap.size w w' := by
  refine (Tryd.strconv_ParseUint_10_at64_ok s (by omega) u h w).mono ?_
  rintro e w' ⟨rfl, rfl | rfl⟩
  · exact ⟨rfl, Below.refl _ _⟩
  · exact ⟨rfl, below_bytes _ _ _⟩
theorem pu_syn (s : ByteArray) (hs : s.size ≤ 1000) (h : Lib.parseUintB 64 s.data.toList = Lib.parseUintB 64 []) (w : World) (hG : Glob w) :
    Calls Tryd.prog 58 #[.string s, .int .i64 10, .int .i64 64] w fun e w' => ∃ N : Nat, e = .returned (.tuple #[.int .u64 0, .iface 109 (.pointer (some ⟨N, 0, none⟩))]) ∧ Below w.heap.size w w' := by
  obtain ⟨tp, p, hv⟩ := hG.syn
  refine (Tryd.strconv_ParseUint_10_at64_syntax_var s (by omega) h tp p w hv).mono ?_
  rintro e w' ⟨N, rfl, _, _, hb⟩
  exact ⟨N, rfl, hb⟩

theorem pu16_ok (s : ByteArray) (hs : s.size ≤ 1000) (u : Nat) (h : Lib.parseUintB 16 s.data.toList = .ok u) (w : World) :
    Calls Tryd.prog 58 #[.string s, .int .i64 10, .int .i64 16] w fun e w' => e = .returned (.tuple #[.int .u64 u, .nilIface]) ∧ Below w.heap.size w w' := by
  refine (Tryd.strconv_ParseUint_10_at16_ok s (by omega) u h w).mono ?_
  rintro e w' ⟨rfl, rfl | rfl⟩
  · exact ⟨rfl, Below.refl _ _⟩
  · exact ⟨rfl, below_bytes _ _ _⟩
theorem pu16_syn (s : ByteArray) (hs : s.size ≤ 1000) (h : Lib.parseUintB 16 s.data.toList = Lib.parseUintB 64 []) (w : World) (hG : Glob w) :
    Calls Tryd.prog 58 #[.string s, .int .i64 10, .int .i64 16] w fun e w' => ∃ N : Nat, e = .returned (.tuple #[.int .u64 0, .iface 109 (.pointer (some ⟨N, 0, none⟩))]) ∧ Below w.heap.size w w' := by
  obtain ⟨tp, p, hv⟩ := hG.syn
  refine (Tryd.strconv_ParseUint_10_at16_syntax_var s (by omega) h tp p w hv).mono ?_
  rintro e w' ⟨N, rfl, _, _, hb⟩
  exact ⟨N, rfl, hb⟩

set_option maxRecDepth 100000 in
theorem pu_le {l : List UInt8} {u : Nat} (h : Lib.parseUintB 16 l = .ok u) : u ≤ 65535 := by
  unfold Lib.parseUintB at h
  split at h
  · cases h
  · exact Lib.parseUintM_le _ _ 0 u (by omega) h
theorem toList_nil {s : ByteArray} (h : s.size = 0) : s.toList = [] := by
  rw [ByteArray.toList_eq]
  exact List.eq_nil_of_length_eq_zero (by rw [Array.length_toList]; exact h)
theorem toList_ne {s : ByteArray} (h : s.size ≠ 0) : ¬ s.toList = [] := by
  rw [ByteArray.toList_eq]
  intro e
  have : s.data.toList.length = 0 := by rw [e]; rfl
  rw [Array.length_toList] at this
  exact h this
/-! ### strconv.Itoa -/
def dig (n : Nat) : UInt8 := UInt8.ofNat (48 + n)
/-- the decimal digits of a number below 1000 -/
def dec3 (n : Nat) : List UInt8 := if n < 10 then [dig n] else if n < 100 then [dig (n / 10), dig (n % 10)] else [dig (n / 100), dig (n / 10 % 10), dig (n % 10)]
theorem dec3_eq (n : Nat) (h : n < 1000) : Lib.decDigits n = dec3 n := by
  unfold dec3
  by_cases h1 : n < 10
  · rw [if_pos h1, Lib.decDigits, dif_pos h1]; rfl
  · rw [if_neg h1, Lib.decDigits, dif_neg h1]
    by_cases h2 : n < 100
    · rw [if_pos h2, Lib.decDigits, dif_pos (by omega)]; rfl
    · rw [if_neg h2, Lib.decDigits, dif_neg (by omega), Lib.decDigits, dif_pos (by omega), show n / 10 / 10 = n / 100 from by omega]; rfl
def strconv_Itoa.f (a0 : Int) : Option ByteArray :=
  if 0 ≤ a0 then if a0 < 1000 then some ⟨(dec3 a0.toNat).toArray⟩ else none else none
theorem strconv_Itoa.calls (a0 : Int) (r : ByteArray) (w : World) (hG : Glob w) (h : strconv_Itoa.f a0 = some r) :
    Calls Tryd.prog 39 #[.int .i64 a0] w fun e w' => e = .returned (.string r) ∧ Below w.heap.size w w' := by
  unfold strconv_Itoa.f at h
  by_cases h0 : 0 ≤ a0
  · rw [if_pos h0] at h
    by_cases h1 : a0 < 1000
    · rw [if_pos h1] at h
      obtain rfl := Option.some.inj h
      refine (Tryd.strconv_Itoa a0 (by omega) (by omega) w hG.pow).mono ?_
      rintro e w' ⟨rfl, k, os, rfl⟩
      refine ⟨?_, Lib.below_grow _ _ (Nat.le_refl _) k os⟩
      have e0 : Lib.itoa a0 = Lib.decDigits a0.toNat := by unfold Lib.itoa; rw [if_neg (by omega)]
      rw [e0, dec3_eq _ (by omega)]
    · rw [if_neg h1] at h; cases h
  · rw [if_neg h0] at h; cases h

/-! ### prefix.many -/
def prefix_many.f (a0 : ByteArray) : Option Int :=
  if a0.size = 0 then some (-1)
  else if (a0.size : Int) > 3 then some (-1)
  else if bt a0 0 = 48 ∧ 1 < a0.size then some (-1)
  else match Lib.parseUintB 16 a0.data.toList with
    | .ok u => some u
    | .range => none
    | _ => some (-1)
set_option maxRecDepth 100000 in
theorem prefix_many.calls (a0 : ByteArray) (r : Int) (w : World) (hG : Glob w) (h : prefix_many.f a0 = some r) :
    Calls Tryd.prog 42 #[.string a0] w fun e w' => e = .returned (.int .i64 r) ∧ Below w.heap.size w w' := by
  have hu := Tryd.underlying77
  unfold prefix_many.f at h
  by_cases h0 : a0.size = 0
  · rw [if_pos h0] at h
    obtain rfl := Option.some.inj h
    have e0 := toList_nil h0
    clear h h0
    go_enter Tryd.func42, Tryd.ntmps42
    go_wp2
    go_ret
    exact ⟨rfl, by repeat (first | exact Below.refl _ _ | apply pw_below_drewN | apply below_drew1)⟩
  · rw [if_neg h0] at h
    have e0 := toList_ne h0
    have e1 : a0.toList.isEmpty = false := by simpa using e0
    by_cases h3 : (a0.size : Int) > 3
    · rw [if_pos h3] at h
      obtain rfl := Option.some.inj h
      have h4 : decide (3 < a0.size) = true := by simp; omega
      clear h h0
      go_enter Tryd.func42, Tryd.ntmps42
      go_wp2
      go_ret
      exact ⟨rfl, by repeat (first | exact Below.refl _ _ | apply pw_below_drewN | apply below_drew1)⟩
    · rw [if_neg h3] at h
      have h4 : decide (3 < a0.size) = false := by simp; omega
      have hx : ∀ h : 0 < a0.size, ((a0[0]'h).toNat : Int) = bt a0 0 := bt_at a0 0
      have h9 : 0 < a0.size := by omega
      by_cases h5 : bt a0 0 = 48 ∧ 1 < a0.size
      · rw [if_pos h5] at h
        obtain rfl := Option.some.inj h
        obtain ⟨h5, h6⟩ := h5
        have h7 : decide (1 < a0.size) = true := by simp; omega
        have h8 : (bt a0 0 == 48) = true := by simpa using h5
        clear h h0 h5
        go_enter Tryd.func42, Tryd.ntmps42
        go_wp2
        go_ret
        exact ⟨rfl, by repeat (first | exact Below.refl _ _ | apply pw_below_drewN | apply below_drew1)⟩
      · rw [if_neg h5] at h
        have hs : a0.size ≤ 1000 := by omega
        cases hp : Lib.parseUintB 16 a0.data.toList with
        | ok u =>
          rw [hp] at h
          obtain rfl := Option.some.inj h
          have hle : u ≤ 65535 := pu_le hp
          have HP := Lib.hid hp
          clear hp h0
          by_cases h6 : bt a0 0 = 48
          · have h7 : decide (1 < a0.size) = false := by simp; omega
            have h10 : a0.size ≤ 1 := by omega
            have h11 : ¬ 1 < a0.size := by omega
            have h8 : (bt a0 0 == 48) = true := by simpa using h6
            clear h6 h5
            go_enter Tryd.func42, Tryd.ntmps42
            go_wp2_with (go_at_call 58; refine (pu16_ok _ hs _ HP.out _).mono ?_; rintro e w' ⟨rfl, hb⟩)
            go_ret
            exact ⟨rfl, by repeat (first | exact hb | apply pw_below_drewN | apply below_drew1)⟩
          · have h8 : (bt a0 0 == 48) = false := by simpa using h6
            clear h6 h5
            go_enter Tryd.func42, Tryd.ntmps42
            go_wp2_with (go_at_call 58; refine (pu16_ok _ hs _ HP.out _).mono ?_; rintro e w' ⟨rfl, hb⟩)
            go_ret
            exact ⟨rfl, by repeat (first | exact hb | apply pw_below_drewN | apply below_drew1)⟩
        | range => rw [hp] at h; cases h
        | _ =>
          rw [hp] at h
          obtain rfl := Option.some.inj h
          have HP := Lib.hid hp
          have HG := Aside0.mk hG
          clear hp h0 hG
          by_cases h6 : bt a0 0 = 48
          · have h7 : decide (1 < a0.size) = false := by simp; omega
            have h10 : a0.size ≤ 1 := by omega
            have h11 : ¬ 1 < a0.size := by omega
            have h8 : (bt a0 0 == 48) = true := by simpa using h6
            clear h6 h5
            go_enter Tryd.func42, Tryd.ntmps42
            go_wp2_with (go_at_call 58; refine (pu16_syn _ hs HP.out _ (Glob_drawn HG.out (by first | exact Drawn0.refl _ | exact (Drawn0.refl _).step _))).mono ?_; rintro e w' ⟨N, rfl, hb⟩)
            go_ret
            exact ⟨rfl, by repeat (first | exact hb | apply pw_below_drewN | apply below_drew1)⟩
          · have h8 : (bt a0 0 == 48) = false := by simpa using h6
            clear h6 h5
            go_enter Tryd.func42, Tryd.ntmps42
            go_wp2_with (go_at_call 58; refine (pu16_syn _ hs HP.out _ (Glob_drawn HG.out (by first | exact Drawn0.refl _ | exact (Drawn0.refl _).step _))).mono ?_; rintro e w' ⟨N, rfl, hb⟩)
            go_ret
            exact ⟨rfl, by repeat (first | exact hb | apply pw_below_drewN | apply below_drew1)⟩

/-! ### bits.LeadingZeros8 -/
def bits_LeadingZeros8.f (a0 : Int) : Option Int := if 0 ≤ a0 then if a0 ≤ 255 then some (8 - (Lib.bitLen a0.toNat : Int)) else none else none
theorem bits_LeadingZeros8.calls (a0 : Int) (r : Int) (w : World) (h : bits_LeadingZeros8.f a0 = some r) :
    Calls Tryd.prog 37 #[.int .u8 a0] w fun e w' => e = .returned (.int .i64 r) ∧ Drawn0 w w' := by
  unfold bits_LeadingZeros8.f at h
  by_cases h0 : 0 ≤ a0
  · rw [if_pos h0] at h
    by_cases h1 : a0 ≤ 255
    · rw [if_pos h1] at h
      obtain rfl := Option.some.inj h
      refine (Tryd.bits_LeadingZeros8 a0 w h0 h1).mono ?_
      rintro e w' ⟨rfl, rfl⟩
      exact ⟨rfl, Drawn0.refl _⟩
    · rw [if_neg h1] at h; cases h
  · rw [if_neg h0] at h; cases h
end Go.Proofs.YtmhjgjdiifcdlaaDoor.P
