/- The law PrefixBack, in plain texts, and its call. -/
import Derived.Test.YtmhjgjdiifcdlaaDoorAwake
import Derived.Test.YtmhjgjdiifcdlaaDoorText4
import Derived.Test.YtmhjgjdiifcdlaaDoorBackWalk
set_option linter.unusedVariables false
namespace Go.Proofs.YtmhjgjdiifcdlaaDoor.Pure1
open Go.RowKit Go.Proofs.YtmhjgjdiifcdlaaDoor.P Go.Proofs.YtmhjgjdiifcdlaaDoor.Nat_ Go.Proofs.YtmhjgjdiifcdlaaDoor.Txt Go.Proofs.YtmhjgjdiifcdlaaDoorW.PrintWords Go.Proofs.YtmhjgjdiifcdlaaDoorW.PrintMore

theorem ofL_back (a : ByteArray) : ofL a.data.toList = a := by
  obtain ⟨⟨l⟩⟩ := a
  rfl
theorem printP_len (s : Bool) (h l : Nat) (m : Int) : (printP s h l m).length ≤ 200 := by
  unfold printP
  split
  · have := addrPrint_len s h l
    have := dec3_len m.toNat
    simp only [List.length_append, List.length_cons]
    omega
  · simp
theorem back_text (s : Bool) (h l : Nat) (m : Int) (bh : B64 h) (bl : B64 l) (hv : validP s h l m = true) (k : Nat) (hk : 300 ≤ k) : prefix_Parse.f k (ofL (printP s h l m)) = some (s, (h : Int), (l : Int), m, 0) := by
  have hn := printP_len s h l m
  rw [prefix_Parse_f _ (by rw [ofL_size]; omega) k (by rw [ofL_size]; omega), ofL_list]
  unfold parseI
  rw [parseP_print s h l m bh bl hv]
theorem PrefixBack_call (s : Bool) (h l : Nat) (bh : B64 h) (bl : B64 l) (m : Int) (a1 : ByteArray) (ha : a1.size < 4294967281) (w : World) (hG : Glob w) :
    Calls Tryd.prog 5 #[.agg #[.bool s, .int .u64 h, .int .u64 l, .int .i64 m], .string a1] w fun e w' => e = .returned (.bool true) ∧ Below w.heap.size w w' := by
  obtain ⟨K, hK⟩ := awake_ev
  have h1 := hK (K + a1.size + 300) (by omega)
  simp only at h1
  have h2 := prefix_Print_f s h l m bh bl
  have h3 := Valid_is s h l bh bl m
  have h5 := prefix_Parse_f a1 (by omega) (K + a1.size + 300) (by omega)
  have h4 : prefix_Parse.f (K + a1.size + 300) (ofL (printP s h l m)) = some (parseI (printP s h l m)) := by
    have hn := printP_len s h l m
    rw [prefix_Parse_f _ (by rw [ofL_size]; omega) _ (by rw [ofL_size]; omega), ofL_list]
  obtain ⟨qs, qh, ql, qm, e5, hq⟩ : ∃ qs qh ql qm e5, parseP a1.data.toList = (qs, qh, ql, qm, e5) := ⟨_, _, _, _, _, rfl⟩
  rw [show parseI a1.data.toList = (qs, (qh : Int), (ql : Int), qm, e5) from by unfold parseI; rw [hq]] at h5
  have tl : (ofL (printP s h l m)).toList = printP s h l m := by rw [ByteArray.toList_eq, ofL_list]
  by_cases he : e5 = 0
  · subst he
    obtain ⟨qb1, qb2, qv⟩ := parseP_valid hq
    have h6 := prefix_Print_f qs qh ql qm qb1 qb2
    have h7 := back_text qs qh ql qm qb1 qb2 qv (K + a1.size + 300) (by omega)
    have h8 := Valid_is qs qh ql qb1 qb2 qm
    rw [qv] at h8
    cases hv : validP s h l m with
    | true =>
      rw [hv] at h3
      have h4' := back_text s h l m bh bl hv (K + a1.size + 300) (by omega)
      exact PrefixBack_walk_11 _ s h l m a1 w hG h1 _ h2 h3 h4' (by rw [tl]; exact (printP_ne s h l m).2 hv) qs qh ql qm _ h5 h6 h7 h8
    | false =>
      rw [hv] at h3
      have e0 : printP s h l m = [] := by unfold printP; rw [hv]; rfl
      rw [e0] at h4
      exact PrefixBack_walk_01 _ s h l m a1 w hG h1 _ (by rw [tl]; exact e0) h2 h3 (by rw [e0]; exact h4) qs qh ql qm _ h5 h6 h7 h8
  · obtain ⟨rfl, rfl, rfl, rfl⟩ := parseP_not hq he
    have he' : (e5 == 0) = false := by rw [beq_eq_false_iff_ne]; exact he
    cases hv : validP s h l m with
    | true =>
      rw [hv] at h3
      have h4' := back_text s h l m bh bl hv (K + a1.size + 300) (by omega)
      exact PrefixBack_walk_10 _ s h l m a1 w hG h1 _ h2 h3 h4' (by rw [tl]; exact (printP_ne s h l m).2 hv) e5 he' h5
    | false =>
      rw [hv] at h3
      have e0 : printP s h l m = [] := by unfold printP; rw [hv]; rfl
      rw [e0] at h4
      exact PrefixBack_walk_00 _ s h l m a1 w hG h1 _ (by rw [tl]; exact e0) h2 h3 (by rw [e0]; exact h4) e5 he' h5
end Go.Proofs.YtmhjgjdiifcdlaaDoor.Pure1
