/- addr.Print at every address: what it tells, and its contract. Condition: the world holds the library's tables (Glob). -/
import Derived.Test.YtmhjgjdiifcdlaaDoorTell1
set_option linter.unusedVariables false
namespace Go.Proofs.YtmhjgjdiifcdlaaDoor.P
open Go.RowKit Go.Proofs.YtmhjgjdiifcdlaaDoorW.PrintWords Go.Proofs.YtmhjgjdiifcdlaaDoorW.PrintLast Go.Proofs.YtmhjgjdiifcdlaaDoorW.PrintMore Go.Proofs.YtmhjgjdiifcdlaaDoor.Txt Go.Proofs.YtmhjgjdiifcdlaaDoor.Nat_ Go.Proofs.YtmhjgjdiifcdlaaDoor.Pure1

def ofL (l : List UInt8) : ByteArray := ⟨l.toArray⟩
theorem ofL_list (l : List UInt8) : (ofL l).data.toList = l := rfl
theorem ofL_size (l : List UInt8) : (ofL l).size = l.length := by show l.toArray.size = _; simp
theorem fmt16_f (x : Nat) (hx : x < 65536) : strconv_FormatUint.f (IntKind.u64.wrap (x : Int)) 16 = some (ofL (hex4 x)) := by
  have e : IntKind.u64.wrap (x : Int) = (x : Int) := by rw [IntKind.wrap_u64]; omega
  unfold strconv_FormatUint.f
  rw [e, if_neg (by decide), if_pos rfl, if_pos (by omega), if_pos (by omega), Int.toNat_natCast]
  rfl
theorem fmt10_f (x : Nat) (hx : x < 1000) : strconv_FormatUint.f (x : Int) 10 = some (ofL (dec3 x)) := by
  unfold strconv_FormatUint.f
  rw [if_pos rfl, if_pos (by omega), if_pos (by omega), Int.toNat_natCast]
  rfl
theorem join_f (l : List (List UInt8)) (sep : List UInt8) (h : (Lib.join l sep).length ≤ 1000) (h2 : l.length ≤ 1000) : strings_Join.f (l.map ofL) (ofL sep) = some (ofL (Lib.join l sep)) := by
  have e : (l.map ofL).map (·.data.toList) = l := by rw [List.map_map]; exact List.map_id' l
  unfold strings_Join.f
  rw [e, ofL_list, if_pos (by omega), if_pos (by rw [List.length_map]; omega)]
  unfold joinB
  rw [e, ofL_list]
  rfl
theorem texts_l0 (G : List Nat) (hl : G.length ≤ 8) (hG : ∀ x ∈ G, x < 65536) : ∀ (rest pre : List Nat) (k : Nat), G = pre ++ rest → rest.length < k →
    addr_texts.l0 k (pre.map (fun x => ofL (hex4 x)) ++ List.replicate rest.length (⟨#[]⟩ : ByteArray)) (G.map fun (n : Nat) => (n : Int)) ((G.map fun (n : Nat) => (n : Int)).length : Int) (pre.length : Int) = some (ofL (textsL G))
  | [], pre, k, e, hk => by
    obtain ⟨k, rfl⟩ : ∃ m, k = m + 1 := ⟨k - 1, by omega⟩
    rw [List.append_nil] at e
    subst e
    unfold addr_texts.l0
    rw [if_neg (by simp), List.length_nil, List.replicate_zero, List.append_nil]
    have h1 := print_len G
    have := join_f (G.map hex4) [58] (by unfold textsL at h1; omega) (by rw [List.length_map]; omega)
    rw [List.map_map] at this
    have e2 : strings_Join.f (G.map fun x => ofL (hex4 x)) ⟨#[58]⟩ = some (ofL (textsL G)) := this
    rw [e2]
    rfl
  | x :: rest, pre, k, e, hk => by
    obtain ⟨k, rfl⟩ : ∃ m, k = m + 1 := ⟨k - 1, by simp at hk; omega⟩
    have hx : x < 65536 := hG x (by rw [e]; simp)
    have hlen : G.length = pre.length + (rest.length + 1) := by rw [e]; simp
    have ih := texts_l0 G hl hG rest (pre ++ [x]) k (by rw [e]; simp) (by simp at hk ⊢; omega)
    have hr : rd (G.map fun (n : Nat) => (n : Int)) (pre.length : Int) = (x : Int) := by
      show (G.map fun (n : Nat) => (n : Int)).getD (Int.toNat (pre.length : Int)) 0 = _
      rw [Int.toNat_natCast, e]
      simp [List.getD_eq_getElem?_getD]
    unfold addr_texts.l0
    rw [if_pos (by rw [List.length_map]; omega), if_pos (by omega), if_pos (by rw [List.length_map]; omega), hr, fmt16_f x hx]
    simp only [Option.bind_some]
    rw [if_pos (by simp; omega), w64 (by omega) (by omega), Int.toNat_natCast]
    have e3 : (pre.map (fun x => ofL (hex4 x)) ++ List.replicate (x :: rest).length (⟨#[]⟩ : ByteArray)).set pre.length (ofL (hex4 x)) = (pre ++ [x]).map (fun x => ofL (hex4 x)) ++ List.replicate rest.length (⟨#[]⟩ : ByteArray) := by
      rw [List.length_cons, List.replicate_succ, List.set_append_right _ _ (by simp)]
      simp
    rw [e3]
    rw [List.length_append, List.length_singleton] at ih
    rw [← ih]
    congr 1
theorem texts_f (G : List Nat) (hl : G.length ≤ 8) (hG : ∀ x ∈ G, x < 65536) : addr_texts.f 9 (G.map fun (n : Nat) => (n : Int)) = some (ofL (textsL G)) := by
  have h := texts_l0 G hl hG G [] 9 rfl (by omega)
  unfold addr_texts.f
  rw [if_pos (by omega), if_pos (by rw [List.length_map]; omega)]
  rw [List.map_nil, List.nil_append, List.length_nil] at h
  rw [Int.toNat_natCast, List.length_map]
  rw [List.length_map] at h
  exact h

/-! ### four numbers -/
theorem byte_f (lo s : Nat) (hlo : lo < 18446744073709551616) (hs : s ≤ 24) : strconv_FormatUint.f (Go.bits .and .u64 (shr .u64 (lo : Int) (s : Int)) 255) 10 = some (ofL (dec3 (lo / 2 ^ s % 256))) := by
  have e : Go.bits .and .u64 (shr .u64 (lo : Int) (s : Int)) 255 = ((lo / 2 ^ s % 256 : Nat) : Int) := by
    rw [shr_nat lo (s : Int) (by omega) (by omega), Int.toNat_natCast]
    have hle : lo / 2 ^ s ≤ lo := Nat.div_le_self _ _
    rw [show (255 : Int) = ((255 : Nat) : Int) from rfl, bits_and_u64_nat _ _ (by omega) (by omega)]
    have : lo / 2 ^ s &&& 255 = lo / 2 ^ s % 256 := Nat.and_two_pow_sub_one_eq_mod _ 8
    rw [this]
  rw [e, fmt10_f _ (by omega)]
theorem print4_f (hi lo : Nat) (hv : validN false hi lo = true) : addr_Print4.f 5 false hi lo = some (ofL (print4 lo)) := by
  have hv' : hi = 0 ∧ lo < 4294967296 := by simpa [validN] using hv
  obtain ⟨rfl, hlo⟩ := hv'
  have b0 := byte_f lo 24 (by omega) (by omega)
  have b1 := byte_f lo 16 (by omega) (by omega)
  have b2 := byte_f lo 8 (by omega) (by omega)
  have b3 := byte_f lo 0 (by omega) (by omega)
  unfold addr_Print4.f
  rw [addr_Valid_is, hv, Option.bind_some, if_pos rfl, if_neg (by decide), if_pos (by omega)]
  have st : ∀ (k : Nat) (l : List ByteArray) (i : Nat) (t : ByteArray), l.length = 4 → i < 4 → strconv_FormatUint.f (Go.bits .and .u64 (shr .u64 (lo : Int) ((24 - 8 * i : Nat) : Int)) 255) 10 = some t →
      addr_Print4.l0 (k + 1) l (i : Int) false (0 : Nat) lo = addr_Print4.l0 k (l.set i t) ((i + 1 : Nat) : Int) false (0 : Nat) lo := by
    intro k l i t hl hi ht
    conv => lhs; unfold addr_Print4.l0
    rw [if_pos (by omega)]
    have e : wrap64 (24 - wrap64 (8 * (i : Int))) = ((24 - 8 * i : Nat) : Int) := by
      rw [w64 (x := 8 * (i : Int)) (by omega) (by omega), w64 (by omega) (by omega)]; omega
    rw [e, if_pos (by omega), ht]
    simp only [Option.bind_some]
    rw [if_pos (by omega), if_pos (by omega), Int.toNat_natCast, w64 (by omega) (by omega)]
    rfl
  have s0 := st 4 (List.replicate 4 (⟨#[]⟩ : ByteArray)) 0 _ rfl (by omega) b0
  have s1 := st 3 ((List.replicate 4 (⟨#[]⟩ : ByteArray)).set 0 (ofL (dec3 (lo / 2 ^ 24 % 256)))) 1 _ rfl (by omega) b1
  have s2 := st 2 (((List.replicate 4 (⟨#[]⟩ : ByteArray)).set 0 (ofL (dec3 (lo / 2 ^ 24 % 256)))).set 1 (ofL (dec3 (lo / 2 ^ 16 % 256)))) 2 _ rfl (by omega) b2
  have s3 := st 1 ((((List.replicate 4 (⟨#[]⟩ : ByteArray)).set 0 (ofL (dec3 (lo / 2 ^ 24 % 256)))).set 1 (ofL (dec3 (lo / 2 ^ 16 % 256)))).set 2 (ofL (dec3 (lo / 2 ^ 8 % 256)))) 3 _ rfl (by omega) b3
  refine s0.trans (s1.trans (s2.trans (s3.trans ?_)))
  unfold addr_Print4.l0
  rw [if_neg (by omega)]
  have := join_f [dec3 (lo / 16777216 % 256), dec3 (lo / 65536 % 256), dec3 (lo / 256 % 256), dec3 (lo % 256)] [46] ?_ (by simp)
  · have e2 : (((((List.replicate 4 (⟨#[]⟩ : ByteArray)).set 0 (ofL (dec3 (lo / 2 ^ 24 % 256)))).set 1 (ofL (dec3 (lo / 2 ^ 16 % 256)))).set 2 (ofL (dec3 (lo / 2 ^ 8 % 256)))).set 3 (ofL (dec3 (lo / 2 ^ 0 % 256)))) = [dec3 (lo / 16777216 % 256), dec3 (lo / 65536 % 256), dec3 (lo / 256 % 256), dec3 (lo % 256)].map ofL := by
      rw [show (2 : Nat) ^ 24 = 16777216 from rfl, show (2 : Nat) ^ 16 = 65536 from rfl, show (2 : Nat) ^ 8 = 256 from rfl, Nat.pow_zero, Nat.div_one]
      rfl
    rw [e2]
    have e3 : strings_Join.f _ ⟨#[46]⟩ = _ := this
    rw [e3]
    rfl
  · have := addrPrint_len false 0 lo
    simp only [addrPrint, Bool.false_eq_true, if_false, print4] at this
    omega

/-! ### the contract -/
def addr_Print.f (a0_0 : Bool) (a0_1 a0_2 : Int) : Option ByteArray :=
  if 0 ≤ a0_1 ∧ a0_1 < 18446744073709551616 ∧ 0 ≤ a0_2 ∧ a0_2 < 18446744073709551616 then
    some (if validN a0_0 a0_1.toNat a0_2.toNat = true then ofL (addrPrint a0_0 a0_1.toNat a0_2.toNat) else ⟨#[]⟩) else none
theorem addr_Print.calls (a0_0 : Bool) (a0_1 a0_2 : Int) (r : ByteArray) (w : World) (hG : Glob w) (h : addr_Print.f a0_0 a0_1 a0_2 = some r) :
    Calls Tryd.prog 38 #[.agg #[.bool a0_0, .int .u64 a0_1, .int .u64 a0_2]] w fun e w' => e = .returned (.string r) ∧ Below w.heap.size w w' := by
  unfold addr_Print.f at h
  by_cases hb : 0 ≤ a0_1 ∧ a0_1 < 18446744073709551616 ∧ 0 ≤ a0_2 ∧ a0_2 < 18446744073709551616
  · rw [if_pos hb] at h
    obtain rfl := Option.some.inj h
    obtain ⟨b1, b2, b3, b4⟩ := hb
    obtain ⟨hi, rfl⟩ := Int.eq_ofNat_of_zero_le b1
    obtain ⟨lo, rfl⟩ := Int.eq_ofNat_of_zero_le b3
    simp only [Int.toNat_natCast]
    by_cases hv : validN a0_0 hi lo = true
    · rw [if_pos hv]
      cases a0_0 with
      | false =>
        refine addr_Print4.calls 5 false hi lo _ w hG ?_
        rw [print4_f hi lo hv]
        rfl
      | true =>
        have hlt := grp_lt hi lo (by unfold B64; omega) (by unfold B64; omega)
        have hlen := addrPrint_len true hi lo
        have hok := gapL_ok (grp hi lo) (grp_len hi lo)
        have hrun : (gapL (grp hi lo)).2 ≤ 8 := by
          rcases hok with h0 | ⟨h1, h2, _⟩
          · omega
          · exact h2
        have htx := texts_f (grp hi lo) (by rw [grp_len]; omega) hlt
        have hta := texts_f ((grp hi lo).take (gapL (grp hi lo)).1) (by rw [List.length_take, grp_len]; omega) (fun x hx => hlt x (List.mem_of_mem_take hx))
        have htb := texts_f ((grp hi lo).drop (gapL (grp hi lo)).2) (by rw [List.length_drop, grp_len]; omega) (fun x hx => hlt x (List.mem_of_mem_drop hx))
        rw [List.map_take] at hta
        rw [List.map_drop] at htb
        have hgl : gapL (grp hi lo) = ((gapL (grp hi lo)).1, (gapL (grp hi lo)).2) := rfl
        simp only [addrPrint, if_true, print6] at hlen ⊢
        by_cases h0 : (gapL (grp hi lo)).2 = 0
        · rw [if_pos h0]
          exact print6_one hi lo (by omega) (by omega) w hG _ _ _ _ _ _ _ _ rfl _ _ hgl _ 9 h0 htx
        · rw [if_neg h0]
          rw [if_neg h0, List.length_append, List.length_append] at hlen
          have hF : (gapL (grp hi lo)).1 ≤ (gapL (grp hi lo)).2 := by
            rcases hok with h1 | ⟨h1, _, _⟩
            · exact absurd h1 h0
            · omega
          have e : ofL (textsL ((grp hi lo).take (gapL (grp hi lo)).1) ++ ([58, 58] ++ textsL ((grp hi lo).drop (gapL (grp hi lo)).2))) = (ofL (textsL ((grp hi lo).take (gapL (grp hi lo)).1)) ++ (⟨#[58, 58]⟩ : ByteArray)) ++ ofL (textsL ((grp hi lo).drop (gapL (grp hi lo)).2)) := by
            apply ByteArray.ext
            simp [ofL]
          rw [e]
          by_cases h8 : 8 = (gapL (grp hi lo)).2
          · rw [← h8] at htb hgl hF ⊢
            exact print6_all hi lo (by omega) (by omega) w hG _ _ _ _ _ _ _ _ rfl _ hgl _ 9 _ (by rw [ofL_size]; omega) (by rw [ofL_size, h8]; omega) hF hta htb
          · exact print6_two hi lo (by omega) (by omega) w hG _ _ _ _ _ _ _ _ rfl _ _ hgl _ 9 _ (by rw [ofL_size]; omega) (by rw [ofL_size]; omega) h0 hF hrun h8 hta htb
    · rw [if_neg hv]
      refine addr_Print4.calls 0 a0_0 hi lo _ w hG ?_
      unfold addr_Print4.f
      rw [addr_Valid_is, Bool.eq_false_iff.2 hv]
      rfl
  · rw [if_neg hb] at h; cases h
end Go.Proofs.YtmhjgjdiifcdlaaDoor.P
