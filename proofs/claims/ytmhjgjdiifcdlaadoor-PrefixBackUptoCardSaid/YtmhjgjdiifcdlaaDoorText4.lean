/- What the program's Parse and Print of prefixes come to, in plain texts. -/
import Derived.Test.YtmhjgjdiifcdlaaDoorTell
import Derived.Test.YtmhjgjdiifcdlaaDoorSix
import Derived.Test.YtmhjgjdiifcdlaaDoorPPrefixParse
import Derived.Test.YtmhjgjdiifcdlaaDoorPPrefixPrint
set_option linter.unusedVariables false
namespace Go.Proofs.YtmhjgjdiifcdlaaDoor.Txt
open Go.RowKit Go.Proofs.YtmhjgjdiifcdlaaDoorW.PrintWords Go.Proofs.YtmhjgjdiifcdlaaDoorW.PrintLast Go.Proofs.YtmhjgjdiifcdlaaDoorW.PrintMore Go.Proofs.YtmhjgjdiifcdlaaDoor.P Go.Proofs.YtmhjgjdiifcdlaaDoor.Nat_ Go.Proofs.YtmhjgjdiifcdlaaDoor.Pure1

theorem list_size (w : ByteArray) : w.data.toList.length = w.size := by rw [Lib.size_eq]
theorem head_bt (w : ByteArray) (h : 0 < w.size) : bt w 0 = 48 ↔ w.data.toList.head? = some 48 := by
  obtain ⟨⟨l⟩⟩ := w
  cases l with
  | nil => simp [ByteArray.size] at h
  | cons c r =>
    have e : bt ⟨⟨c :: r⟩⟩ 0 = (c.toNat : Int) := by
      unfold bt
      rw [dif_pos (by simp [ByteArray.size])]
      rfl
    rw [e]
    simp only [List.head?_cons, Option.some.injEq]
    constructor
    · intro hc
      have : c.toNat = (48 : UInt8).toNat := by
        show c.toNat = 48
        omega
      exact UInt8.toNat_inj.1 this
    · rintro rfl; rfl
theorem number10 (w : ByteArray) : addr_number.f w 10 3 = some (if w.data.toList.length = 0 ∨ 3 < w.data.toList.length then (0, false) else match decN 0 w.data.toList with | some n => ((n : Int), true) | none => (0, false)) := by
  have hs := list_size w
  unfold addr_number.f
  rw [hs, if_pos (by decide)]
  by_cases h0 : w.size = 0
  · rw [if_pos h0, if_pos (.inl h0)]
  · rw [if_neg h0]
    by_cases h4 : (w.size : Int) > 3
    · rw [if_pos h4, if_pos (.inr (by omega))]
    · rw [if_neg h4, if_pos rfl, if_neg (by omega), parse_dec3 64 (by decide) _ (fun e => h0 (by rw [← hs, e]; rfl)) (by omega)]
      cases decN 0 w.data.toList <;> rfl
theorem four_yes (ws : List ByteArray) (hn : ws.length ≤ 4294967296) (k i : Nat) (hi : i < ws.length) (x : Int) (n : Nat) (hd : dec8 (ws.getD i ByteArray.empty).data.toList = some n) :
    addr_four.l0 (k + 1) ws ws (ws.length : Int) (i : Int) false 0 x = addr_four.l0 k ws ws (ws.length : Int) ((i + 1 : Nat) : Int) false 0 (Go.bits .or .u64 (IntKind.u64.wrap (x * 256)) (n : Int)) := by
  conv => lhs; unfold addr_four.l0
  have hr : rdOf ByteArray.empty ws (i : Int) = ws.getD i ByteArray.empty := by
    show ws.getD (Int.toNat (i : Int)) _ = _
    rw [Int.toNat_natCast]
  have hs := list_size (ws.getD i ByteArray.empty)
  rw [if_pos (by omega), if_pos (by omega), if_pos (by omega), hr, number10]
  unfold dec8 at hd
  by_cases hl : (ws.getD i ByteArray.empty).data.toList.length = 0 ∨ 3 < (ws.getD i ByteArray.empty).data.toList.length
  · rw [if_pos hl] at hd; cases hd
  · rw [if_neg hl] at hd ⊢
    cases hD : decN 0 (ws.getD i ByteArray.empty).data.toList with
    | none => rw [hD] at hd; cases hd
    | some u =>
      rw [hD] at hd
      simp only at hd
      split at hd
      · cases hd
      · next hu =>
        obtain rfl := Option.some.inj hd
        simp only [Option.bind_some, if_true]
        rw [if_neg (by omega), w64 (by omega) (by omega)]
        by_cases h1 : ((ws.getD i ByteArray.empty).size : Int) > 1
        · rw [if_pos h1, if_pos (by omega), if_neg (fun e => hu (.inr ⟨by omega, (head_bt _ (by omega)).1 e⟩))]
          rfl
        · rw [if_neg h1]
          rfl
theorem four_no (ws : List ByteArray) (hn : ws.length ≤ 4294967296) (k i : Nat) (hi : i < ws.length) (x : Int) (hd : dec8 (ws.getD i ByteArray.empty).data.toList = none) :
    addr_four.l0 (k + 1) ws ws (ws.length : Int) (i : Int) false 0 x = some (false, 0, 0, false) := by
  conv => lhs; unfold addr_four.l0
  have hr : rdOf ByteArray.empty ws (i : Int) = ws.getD i ByteArray.empty := by
    show ws.getD (Int.toNat (i : Int)) _ = _
    rw [Int.toNat_natCast]
  have hs := list_size (ws.getD i ByteArray.empty)
  rw [if_pos (by omega), if_pos (by omega), if_pos (by omega), hr, number10]
  unfold dec8 at hd
  by_cases hl : (ws.getD i ByteArray.empty).data.toList.length = 0 ∨ 3 < (ws.getD i ByteArray.empty).data.toList.length
  · rw [if_pos hl]; rfl
  · rw [if_neg hl] at hd ⊢
    cases hD : decN 0 (ws.getD i ByteArray.empty).data.toList with
    | none => rfl
    | some u =>
      rw [hD] at hd
      simp only at hd
      split at hd
      · next hu =>
        simp only [Option.bind_some, if_true]
        by_cases h2 : (u : Int) > 255
        · rw [if_pos h2]
        · rw [if_neg h2]
          rcases hu with hu | ⟨h3, h4⟩
          · omega
          · rw [if_pos (by omega), if_pos (by omega), if_pos ((head_bt _ (by omega)).2 h4)]
      · cases hd
theorem four_end (ws : List ByteArray) (k : Nat) (x : Int) : addr_four.l0 (k + 1) ws ws (ws.length : Int) (ws.length : Int) false 0 x = some (false, 0, x, ((ws.length : Int) == 4)) := by
  conv => lhs; unfold addr_four.l0
  rw [if_neg (by omega)]
def allD : List ByteArray → Bool
  | [] => true
  | w :: r => (dec8 w.data.toList).isSome && allD r
theorem four_any (ws : List ByteArray) (hn : ws.length ≤ 4294967296) : ∀ (rest pre : List ByteArray) (x : Int) (k : Nat), ws = pre ++ rest → rest.length < k →
    ∃ y : Int, addr_four.l0 k ws ws (ws.length : Int) (pre.length : Int) false 0 x = some (false, 0, y, allD rest && (ws.length : Int) == 4)
  | [], pre, x, k, e, hk => by
    obtain ⟨k, rfl⟩ : ∃ m, k = m + 1 := ⟨k - 1, by omega⟩
    have e2 : pre.length = ws.length := by rw [e]; simp
    rw [e2]
    exact ⟨x, four_end ws k x⟩
  | w :: rest, pre, x, k, e, hk => by
    obtain ⟨k, rfl⟩ : ∃ m, k = m + 1 := ⟨k - 1, by simp at hk; omega⟩
    have hlen : ws.length = pre.length + (rest.length + 1) := by rw [e]; simp
    have hw : ws.getD pre.length ByteArray.empty = w := by rw [e]; simp [List.getD_eq_getElem?_getD]
    cases hd : dec8 w.data.toList with
    | none => exact ⟨0, by rw [four_no ws hn k pre.length (by omega) x (by rw [hw]; exact hd)]; simp [allD, hd]⟩
    | some n =>
      obtain ⟨y, hy⟩ := four_any ws hn rest (pre ++ [w]) (Go.bits .or .u64 (IntKind.u64.wrap (x * 256)) (n : Int)) k (by rw [e]; simp) (by simp at hk ⊢; omega)
      rw [List.length_append, List.length_singleton] at hy
      refine ⟨y, ?_⟩
      rw [four_yes ws hn k pre.length (by omega) x n (by rw [hw]; exact hd), hy]
      simp [allD, hd]
theorem allD_four : ∀ (ws : List ByteArray) (acc : Nat), allD ws = (fourL acc (ws.map (·.data.toList))).isSome
  | [], acc => rfl
  | w :: r, acc => by
    rw [List.map_cons, fourL, allD]
    cases hd : dec8 w.data.toList with
    | none => rfl
    | some n => simpa using allD_four r (acc * 256 + n)
theorem or_byte (x n : Nat) (hx : x < 16777216) (hn : n < 256) : Go.bits .or .u64 (IntKind.u64.wrap ((x : Int) * 256)) (n : Int) = ((x * 256 + n : Nat) : Int) := by
  have e1 : IntKind.u64.wrap ((x : Int) * 256) = ((x * 256 : Nat) : Int) := by rw [IntKind.wrap_u64]; omega
  rw [e1, bits_or_u64_nat _ _ (by omega) (by omega)]
  have h : x * 256 ||| n = x * 256 + n := by
    have := Nat.two_pow_add_eq_or_of_lt (i := 8) (b := n) (by omega) x
    rw [show (2 : Nat) ^ 8 = 256 from by decide] at this
    rw [Nat.mul_comm x 256]
    exact this.symm
  rw [h]
theorem four_f (s : ByteArray) (hs : s.size < 4294967281) (k : Nat) (hk : s.size + 10 ≤ k) :
    ∃ y : Int, addr_four.f k s = some (false, 0, y, (p4 s.data.toList).isSome) ∧ ∀ n, p4 s.data.toList = some n → y = (n : Int) := by
  have e : strings_Split.f s ⟨#[46]⟩ = some (Lib.splitB ⟨#[46]⟩ 0 (Lib.countB s ⟨#[46]⟩) s) := by
    unfold strings_Split.f
    rw [if_pos ⟨hs, by decide⟩]
  have hl := split_len s ⟨#[46]⟩ (by decide)
  have hc := Lib.countB_le ⟨#[46]⟩ (by decide) s.size s (Nat.le_refl _)
  have hb := splitB_one 46 s
  unfold addr_four.f
  rw [e, Option.bind_some]
  generalize Lib.splitB ⟨#[46]⟩ 0 (Lib.countB s ⟨#[46]⟩) s = ws at *
  have hn : ws.length ≤ 4294967296 := by omega
  have hL : (splitL 46 s.data.toList).length = ws.length := by rw [← hb, List.length_map]
  by_cases h4 : ws.length = 4
  · match ws, h4 with
    | [w0, w1, w2, w3], _ =>
      have hp : p4 s.data.toList = fourL 0 ([w0, w1, w2, w3].map (·.data.toList)) := by
        unfold p4
        rw [if_pos (by rw [hL]; rfl), hb]
      have any := four_any [w0, w1, w2, w3] hn [w0, w1, w2, w3] [] 0 k rfl (by simp; omega)
      rw [hp]
      obtain ⟨k, rfl⟩ : ∃ m, k = m + 5 := ⟨k - 5, by omega⟩
      cases h0 : fourL 0 ([w0, w1, w2, w3].map (·.data.toList)) with
      | none =>
        obtain ⟨y, hy⟩ := any
        rw [allD_four _ 0, h0] at hy
        exact ⟨y, hy, fun n hn => by cases hn⟩
      | some n =>
        simp only [List.map_cons, List.map_nil, fourL] at h0
        cases d0 : dec8 w0.data.toList with
        | none => rw [d0] at h0; cases h0
        | some n0 =>
          rw [d0] at h0
          simp only at h0
          cases d1 : dec8 w1.data.toList with
          | none => rw [d1] at h0; cases h0
          | some n1 =>
            rw [d1] at h0
            simp only at h0
            cases d2 : dec8 w2.data.toList with
            | none => rw [d2] at h0; cases h0
            | some n2 =>
              rw [d2] at h0
              simp only at h0
              cases d3 : dec8 w3.data.toList with
              | none => rw [d3] at h0; cases h0
              | some n3 =>
                rw [d3] at h0
                simp only [Option.some.injEq] at h0
                subst h0
                have b0 := dec8_le d0
                have b1 := dec8_le d1
                have b2 := dec8_le d2
                have b3 := dec8_le d3
                obtain ⟨z1, hz1⟩ : ∃ z, z = n0 * 256 + n1 := ⟨_, rfl⟩
                obtain ⟨z2, hz2⟩ : ∃ z, z = z1 * 256 + n2 := ⟨_, rfl⟩
                obtain ⟨z3, hz3⟩ : ∃ z, z = z2 * 256 + n3 := ⟨_, rfl⟩
                have o0 := or_byte 0 n0 (by omega) (by omega)
                have o1 := or_byte n0 n1 (by omega) (by omega)
                have o2 := or_byte z1 n2 (by omega) (by omega)
                have o3 := or_byte z2 n3 (by omega) (by omega)
                rw [show (0 : Nat) * 256 + n0 = n0 from by omega, show (((0 : Nat) : Int)) = 0 from rfl] at o0
                rw [← hz1] at o1
                rw [← hz2] at o2
                rw [← hz3] at o3
                have s0 := four_yes [w0, w1, w2, w3] hn (k + 4) 0 (by simp) 0 n0 d0
                have s1 := four_yes [w0, w1, w2, w3] hn (k + 3) 1 (by simp) ((n0 : Nat) : Int) n1 d1
                have s2 := four_yes [w0, w1, w2, w3] hn (k + 2) 2 (by simp) ((z1 : Nat) : Int) n2 d2
                have s3 := four_yes [w0, w1, w2, w3] hn (k + 1) 3 (by simp) ((z2 : Nat) : Int) n3 d3
                have fe := four_end [w0, w1, w2, w3] k ((z3 : Nat) : Int)
                rw [o0] at s0
                rw [o1] at s1
                rw [o2] at s2
                rw [o3] at s3
                have f1 := s0.trans s1
                have f2 := f1.trans s2
                have f3 := f2.trans s3
                have f4 := f3.trans fe
                refine ⟨(z3 : Int), f4, fun n hn => ?_⟩
                have hn' := Option.some.inj hn
                omega
  · have hp : p4 s.data.toList = none := by
      unfold p4
      rw [if_neg (by rw [hL]; exact h4)]
    rw [hp]
    obtain ⟨y, hy⟩ := four_any ws hn ws [] 0 k rfl (by omega)
    rw [List.length_nil] at hy
    have e4 : ((ws.length : Int) == 4) = false := by rw [beq_eq_false_iff_ne]; omega
    rw [e4, Bool.and_false] at hy
    exact ⟨y, hy, fun n hn => by cases hn⟩
theorem addr_Parse_f (s : ByteArray) (hs : s.size < 4294967281) (k : Nat) (hk : s.size + 10 ≤ k) :
    addr_Parse.f k s = some (match parseA s.data.toList with | some (b, h, l) => (b, (h : Int), (l : Int), 0) | none => (false, 0, 0, 20)) := by
  obtain ⟨y, hy, hv⟩ := four_f s hs k hk
  unfold addr_Parse.f parseA
  rw [hy, Option.bind_some]
  cases hp : p4 s.data.toList with
  | some n => rw [hv n hp]; rfl
  | none =>
    have e6 : addr_six.f s = some (match sixL s.data.toList with | some g => (true, (hi8 g : Int), (lo8 g : Int), true) | none => (false, 0, 0, false)) := by
      unfold addr_six.f
      rw [if_pos hs]
      rfl
    simp only [Option.isSome_none, Bool.false_eq_true, if_false]
    rw [e6, Option.bind_some]
    cases sixL s.data.toList <;> rfl
theorem many_f (w : ByteArray) : prefix_many.f w = some (manyL w.data.toList) := by
  have hs := list_size w
  unfold prefix_many.f manyL
  rw [hs]
  by_cases h0 : w.size = 0
  · rw [if_pos h0, if_pos (.inl h0)]
  · rw [if_neg h0]
    by_cases h3 : (w.size : Int) > 3
    · rw [if_pos h3, if_pos (.inr (.inl (by omega)))]
    · rw [if_neg h3]
      by_cases h5 : bt w 0 = 48 ∧ 1 < w.size
      · rw [if_pos h5, if_pos (.inr (.inr ⟨(head_bt w (by omega)).1 h5.1, h5.2⟩))]
      · rw [if_neg h5, if_neg, parse_dec3 16 (by decide) _ (fun e => h0 (by rw [← hs, e]; rfl)) (by omega)]
        · cases decN 0 w.data.toList <;> rfl
        · rintro (hx | hx | ⟨hx, hy⟩)
          · exact h0 hx
          · omega
          · exact h5 ⟨(head_bt w (by omega)).2 hx, hy⟩
def parseI (t : List UInt8) : Bool × Int × Int × Int × Int := ((parseP t).1, ((parseP t).2.1 : Int), ((parseP t).2.2.1 : Int), (parseP t).2.2.2.1, (parseP t).2.2.2.2)
theorem prefix_Parse_f (s : ByteArray) (hs : s.size < 4294967281) (k : Nat) (hk : s.size + 10 ≤ k) : prefix_Parse.f k s = some (parseI s.data.toList) := by
  have hc : strings_Cut.f s ⟨#[47]⟩ = some (ofL (Lib.cut s.data.toList [47]).1, ofL (Lib.cut s.data.toList [47]).2.1, (Lib.cut s.data.toList [47]).2.2) := by
    unfold strings_Cut.f
    rw [if_pos hs]
    rfl
  have hz := cut_size s.data.toList [47]
  have hsz := list_size s
  unfold prefix_Parse.f parseI
  rw [hc, Option.bind_some]
  have hcut := cut_is (sep := [47]) (by simp) s.data.toList
  unfold parseP
  cases hg : cutG [47] s.data.toList with
  | none =>
    rw [hg] at hcut
    rw [hcut]
    rfl
  | some q =>
    obtain ⟨a, b⟩ := q
    rw [hg] at hcut
    simp only at hcut
    rw [hcut] at hz ⊢
    simp only [if_true]
    have ha := addr_Parse_f (ofL a) (by rw [ofL_size]; have := hz.1; simp only at this; omega) k (by rw [ofL_size]; have := hz.1; simp only at this; omega)
    rw [ofL_list] at ha
    rw [ha, Option.bind_some]
    cases hA : parseA a with
    | none => rfl
    | some p =>
      obtain ⟨f, h, l⟩ := p
      obtain ⟨bh, bl, _⟩ := parseA_valid hA
      simp only [if_true]
      rw [many_f, Option.bind_some, ofL_list, Valid_is f h l bh bl, Option.bind_some]
      cases validP f h l (manyL b) <;> rfl
theorem ofL_app3 (a b : List UInt8) (c : UInt8) : (ofL a ++ (⟨#[c]⟩ : ByteArray)) ++ ofL b = ofL (a ++ c :: b) := by
  apply ByteArray.ext
  simp [ofL]
theorem prefix_Print_f (s : Bool) (h l : Nat) (m : Int) (bh : B64 h) (bl : B64 l) : prefix_Print.f s h l m = some (ofL (printP s h l m)) := by
  unfold prefix_Print.f printP
  rw [Valid_is s h l bh bl, Option.bind_some]
  cases hv : validP s h l m with
  | false => rfl
  | true =>
    obtain ⟨v1, v2, v3⟩ := validP_bits hv
    have e1 : addr_Print.f s (h : Int) (l : Int) = some (ofL (addrPrint s h l)) := by
      unfold B64 at bh bl
      unfold addr_Print.f
      rw [if_pos (by omega), Int.toNat_natCast, Int.toNat_natCast, if_pos v1]
    have e2 : strconv_Itoa.f m = some (ofL (dec3 m.toNat)) := by
      unfold strconv_Itoa.f
      rw [if_pos v2, if_pos (by omega)]
      rfl
    have l1 := addrPrint_len s h l
    have l2 := dec3_len m.toNat
    rw [if_pos rfl, if_pos rfl, e1, Option.bind_some, if_pos (by rw [ofL_size]; omega), e2, Option.bind_some, if_pos (by rw [ByteArray.size_append, ofL_size, ofL_size]; show _ + 1 + _ ≤ _; omega)]
    rw [ofL_app3]
end Go.Proofs.YtmhjgjdiifcdlaaDoor.Txt
