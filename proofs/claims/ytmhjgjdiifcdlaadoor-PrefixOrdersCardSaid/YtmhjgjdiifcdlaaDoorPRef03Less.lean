-- Laid by a program (wip/pr.py) out of the translation: each function as a Lean function, and the proof that the call comes to it.
import Derived.Test.YtmhjgjdiifcdlaaDoorShort
import Derived.Test.YtmhjgjdiifcdlaaDoorPBase
import Derived.Test.YtmhjgjdiifcdlaaDoorPRef03Valid
namespace Go.Proofs.YtmhjgjdiifcdlaaDoor.P
open Go.RowKit Go.Proofs.YtmhjgjdiifcdlaaDoorW.PrintWords Go.Proofs.YtmhjgjdiifcdlaaDoorW.PrintLast Go.Proofs.YtmhjgjdiifcdlaaDoorW.PrintMore
attribute [local go_sem] max2_int min2_int max_two min_two max_three min_three max_four min_four   -- for this text's walks alone
set_option linter.unusedVariables false
set_option linter.unusedSimpArgs false

/-! ### crosswayref03_Less: function 45 -/
def crosswayref03_Less.j0 : Nat → Bool → Bool → Int → Int → Bool → Int → Int → Option (Bool)
 | 0, _, _, _, _, _, _, _ => none
 | k + 1, x12, x517000, x517001, x517002, x518000, x518001, x518002 => if x12 = true then (some false) else (if (x517000 != x518000) = true then (some x518000) else (if x517001 < x518001 then (some true) else (if x517001 = x518001 then (some (decide (x517002 < x518002))) else (some false))))
def crosswayref03_Less.f (k : Nat) (a0_0 : Bool) (a0_1 : Int) (a0_2 : Int) (a1_0 : Bool) (a1_1 : Int) (a1_2 : Int) : Option (Bool) := (crosswayref03_Valid.f a0_0 a0_1 a0_2).bind fun t518 => (if t518 = true then ((crosswayref03_Valid.f a1_0 a1_1 a1_2).bind fun t519 => (crosswayref03_Less.j0 k (!t519) a0_0 a0_1 a0_2 a1_0 a1_1 a1_2)) else (crosswayref03_Less.j0 k true a0_0 a0_1 a0_2 a1_0 a1_1 a1_2))
theorem crosswayref03_Less.mono_l : ∀ k, (∀ y0 y1 y2 y3 y4 y5 y6, LeO (crosswayref03_Less.j0 k y0 y1 y2 y3 y4 y5 y6) (crosswayref03_Less.j0 (k + 1) y0 y1 y2 y3 y4 y5 y6))
 | 0 => fun _ _ _ _ _ _ _ r h => by simp [crosswayref03_Less.j0] at h
 | k + 1 => by
  have ih0 := crosswayref03_Less.mono_l k
  ·intro y0 y1 y2 y3 y4 y5 y6
   unfold crosswayref03_Less.j0
   repeat' first
   | (with_reducible exact ih0 _ _ _ _ _ _ _)
   | (with_reducible exact LeO.refl _)
   | (with_reducible exact LeO.none _)
   | (with_reducible refine LeO.ite ?_ ?_)
   | (with_reducible refine LeO.bind ?_ (fun _ => ?_))
   | exact ih0 _ _ _ _ _ _ _
   | exact LeO.none _
   | refine LeO.ite ?_ ?_
   | refine LeO.bind ?_ (fun _ => ?_)
theorem crosswayref03_Less.mono : ∀ a0 a1 a2 a3 a4 a5 k, LeO (crosswayref03_Less.f k a0 a1 a2 a3 a4 a5) (crosswayref03_Less.f (k + 1) a0 a1 a2 a3 a4 a5) := by
 intro a0 a1 a2 a3 a4 a5 k
 have ih0 := crosswayref03_Less.mono_l k
 unfold crosswayref03_Less.f
 repeat' first
   | (with_reducible exact ih0 _ _ _ _ _ _ _)
   | (with_reducible exact LeO.refl _)
   | (with_reducible exact LeO.none _)
   | (with_reducible refine LeO.ite ?_ ?_)
   | (with_reducible refine LeO.bind ?_ (fun _ => ?_))
   | exact ih0 _ _ _ _ _ _ _
   | exact LeO.none _
   | refine LeO.ite ?_ ?_
   | refine LeO.bind ?_ (fun _ => ?_)
set_option maxHeartbeats 8000000 in
set_option maxRecDepth 100000 in
theorem crosswayref03_Less.calls (k : Nat) (a0_0 : Bool) (a0_1 : Int) (a0_2 : Int) (a1_0 : Bool) (a1_1 : Int) (a1_2 : Int) (r : Bool) (w : World) (h : crosswayref03_Less.f k a0_0 a0_1 a0_2 a1_0 a1_1 a1_2 = some r) :
  Calls Tryd.prog 45 #[.agg #[.bool a0_0, .int .u64 a0_1, .int .u64 a0_2], .agg #[.bool a1_0, .int .u64 a1_1, .int .u64 a1_2]] w fun e w' => e = .returned (.bool r) ∧ Below w.heap.size w w' := by
 have hu24 := Tryd.underlying24
 have HB := Aside0.mk (Below.refl w.heap.size w)
 have H : ((crosswayref03_Valid.f a0_0 a0_1 a0_2).bind fun t518 => (if t518 = true then ((crosswayref03_Valid.f a1_0 a1_1 a1_2).bind fun t519 => (crosswayref03_Less.j0 k (!t519) a0_0 a0_1 a0_2 a1_0 a1_1 a1_2)) else (crosswayref03_Less.j0 k true a0_0 a0_1 a0_2 a1_0 a1_1 a1_2))) = some r := h
 clear h
 have HC3 := Aside0.mk H
 clear H
 go_enter Tryd.func45, Tryd.ntmps45
 go_upto_region 1 with (first | ((with_reducible refine gate_dst (N := 2) rfl ?_); refine box_event ?hg (N := 2) ?hd (cs := #[.bool a0_0, .int .u64 a0_1, .int .u64 a0_2]) (t := 24) ?hr ?_; (case hd => rfl); (case hg => rfl); (case hr => first | (go_simp; done) | (go_simp; rfl)); intro gb516 hg w4 hbox hb; have n0_ := Aside0.mk (below_step (Hb HB.out) hb); have n1_ := Aside0.mk (hbox); have n2_ := Aside0.mk ((by rw [hg]; exact (below_size (Hb HB.out)) : w.heap.size ≤ gb516)); have n3_ := Aside0.mk ((by rw [hg]; exact (below_size (Hb HB.out)) : w.heap.size ≤ gb516)); clear HB; have HB := n0_; have BK516 := n1_; have GW516 := n2_; have GE516 := n3_; clear n0_ n1_ n2_ n3_; clear hb hbox hg) | ((with_reducible refine gate_dst (N := 3) rfl ?_); refine box_event ?hg (N := 3) ?hd (cs := #[.bool a1_0, .int .u64 a1_1, .int .u64 a1_2]) (t := 24) ?hr ?_; (case hd => rfl); (case hg => rfl); (case hr => first | (go_simp; done) | (go_simp; rfl)); intro gb517 hg w5 hbox hb; have n0_ := Aside0.mk (blk_below (g := gb516) (o := .cells #[.bool a0_0, .int .u64 a0_1, .int .u64 a0_2] 24 (0, 0)) (St BK516.out) hb); have n1_ := Aside0.mk (below_step (Hb HB.out) hb); have n2_ := Aside0.mk (hbox); have n3_ := Aside0.mk ((by rw [hg]; exact (below_size (Hb HB.out)) : w.heap.size ≤ gb517)); have n4_ := Aside0.mk ((by rw [hg]; exact (below_size (Hb HB.out)) : w.heap.size ≤ gb517)); have n5_ := Aside0.mk ((by rw [hg]; exact Nat.ne_of_lt (blk_lt (g := gb516) (o := .cells #[.bool a0_0, .int .u64 a0_1, .int .u64 a0_2] 24 (0, 0)) (St BK516.out)) : gb516 ≠ gb517)); have n6_ := Aside0.mk ((by rw [hg]; exact Nat.ne_of_gt (blk_lt (g := gb516) (o := .cells #[.bool a0_0, .int .u64 a0_1, .int .u64 a0_2] 24 (0, 0)) (St BK516.out)) : gb517 ≠ gb516)); clear BK516; clear HB; have BK516 := n0_; have HB := n1_; have BK517 := n2_; have GW517 := n3_; have GE517 := n4_; have NB516_517 := n5_; have NB517_516 := n6_; clear n0_ n1_ n2_ n3_ n4_ n5_ n6_; clear hb hbox hg))
 (try simp only [Act.put, List.setIfInBounds_toArray, List.set_cons_zero, List.set_cons_succ])
 go_cut [12] (fun v12 wc => ∃ (kq : Nat) (x12_2 : Bool), v12 = .bool x12_2 ∧ Aside0 (crosswayref03_Less.j0 kq x12_2 a0_0 a0_1 a0_2 a1_0 a1_1 a1_2 = some r) ∧ Aside0 (kq ≤ k) ∧ Aside0 (wc.heap[gb516]? = some (.cells #[.bool a0_0, .int .u64 a0_1, .int .u64 a0_2] 24 (0, 0))) ∧ Aside0 (wc.heap[gb517]? = some (.cells #[.bool a1_0, .int .u64 a1_1, .int .u64 a1_2] 24 (0, 0))) ∧ Aside0 (Below w.heap.size w wc))
 case first =>
  have H := HC3.out
  clear HC3
  replace H := Option.bind_eq_some_iff.mp H
  obtain ⟨t518, A60, H⟩ := H
  replace H : (if t518 = true then ((crosswayref03_Valid.f a1_0 a1_1 a1_2).bind fun t519 => (crosswayref03_Less.j0 k (!t519) a0_0 a0_1 a0_2 a1_0 a1_1 a1_2)) else (crosswayref03_Less.j0 k true a0_0 a0_1 a0_2 a1_0 a1_1 a1_2)) = some r := H
  have A6 := Aside0.mk A60
  clear A60
  by_cases c7 : t518 = true
  ·subst c7
   have H1 : ((crosswayref03_Valid.f a1_0 a1_1 a1_2).bind fun t519 => (crosswayref03_Less.j0 k (!t519) a0_0 a0_1 a0_2 a1_0 a1_1 a1_2)) = some r := by rw [if_pos rfl] at H; exact H
   clear H
   have H := H1
   clear H1
   replace H := Option.bind_eq_some_iff.mp H
   obtain ⟨t519, A80, H⟩ := H
   replace H : (crosswayref03_Less.j0 k (!t519) a0_0 a0_1 a0_2 a1_0 a1_1 a1_2) = some r := H
   have A8 := Aside0.mk A80
   clear A80
   have H' := Aside0.mk H
   clear H
   have hnb9 := NB516_517.out
   have hnc9 := NB517_516.out
   have hcz10_0 : w5.cell? ⟨gb516, 0, none⟩ = some (.bool a0_0) := (blk_cell BK516.out 0).trans rfl
   have hcz10_1 : w5.cell? ⟨gb516, 1, none⟩ = some (.int .u64 a0_1) := (blk_cell BK516.out 1).trans rfl
   have hcz10_2 : w5.cell? ⟨gb516, 2, none⟩ = some (.int .u64 a0_2) := (blk_cell BK516.out 2).trans rfl
   have hfz10_0 := blk_frozen BK516.out 0
   have hfz10_1 := blk_frozen BK516.out 1
   have hfz10_2 := blk_frozen BK516.out 2
   go_wp2_with (first | ((with_reducible refine gate_callee (f := 32) rfl ?_); refine goesL_ (some 6) rfl rfl Tryd.func32 (by kernel_rfl) rfl #[.agg #[.bool a0_0, .int .u64 a0_1, .int .u64 a0_2]] rfl Ma ?_; (with_reducible refine (crosswayref03_Valid.calls a0_0 a0_1 a0_2 true _ A6.out).mono ?_); rintro e w11 ⟨rfl, hb⟩; refine ⟨_, rfl, ?_⟩; have n0_ := Aside0.mk (blk_below (g := gb516) (o := .cells #[.bool a0_0, .int .u64 a0_1, .int .u64 a0_2] 24 (0, 0)) (St BK516.out) hb); have n1_ := Aside0.mk (blk_below (g := gb517) (o := .cells #[.bool a1_0, .int .u64 a1_1, .int .u64 a1_2] 24 (0, 0)) (St BK517.out) hb); have n2_ := Aside0.mk (below_step (Hb HB.out) hb); clear BK516; clear BK517; clear HB; have BK516 := n0_; have BK517 := n1_; have HB := n2_; clear n0_ n1_ n2_; (try clear hb); (try clear hb2); (try clear hk); (try clear hi); have hcz12_0 : w11.cell? ⟨gb517, 0, none⟩ = some (.bool a1_0) := (blk_cell BK517.out 0).trans rfl; have hcz12_1 : w11.cell? ⟨gb517, 1, none⟩ = some (.int .u64 a1_1) := (blk_cell BK517.out 1).trans rfl; have hcz12_2 : w11.cell? ⟨gb517, 2, none⟩ = some (.int .u64 a1_2) := (blk_cell BK517.out 2).trans rfl; have hfz12_0 := blk_frozen BK517.out 0; have hfz12_1 := blk_frozen BK517.out 1; have hfz12_2 := blk_frozen BK517.out 2) | (go_at_call 32; (with_reducible refine (crosswayref03_Valid.calls a1_0 a1_1 a1_2 t519 _ A8.out).mono ?_); rintro e w13 ⟨rfl, hb⟩; have n0_ := Aside0.mk (blk_below (g := gb516) (o := .cells #[.bool a0_0, .int .u64 a0_1, .int .u64 a0_2] 24 (0, 0)) (St BK516.out) hb); have n1_ := Aside0.mk (blk_below (g := gb517) (o := .cells #[.bool a1_0, .int .u64 a1_1, .int .u64 a1_2] 24 (0, 0)) (St BK517.out) hb); have n2_ := Aside0.mk (below_step (Hb HB.out) hb); clear BK516; clear BK517; clear HB; have BK516 := n0_; have BK517 := n1_; have HB := n2_; clear n0_ n1_ n2_; (try clear hb); (try clear hb2); (try clear hk); (try clear hi)))
   go_meet
   case rel => exact ⟨_, (!t519), (by first | rfl | (simp; done) | (simp [*]; done)), H', ⟨by first | omega | exact Nat.le_refl _⟩, ⟨St BK516.out⟩, ⟨St BK517.out⟩, ⟨Hb HB.out⟩⟩
  ·replace c7 := Bool.eq_false_iff.mpr c7
   subst c7
   have H1 : (crosswayref03_Less.j0 k true a0_0 a0_1 a0_2 a1_0 a1_1 a1_2) = some r := by rw [if_neg (show ¬ (false = true) by decide)] at H; exact H
   clear H
   have H := H1
   clear H1
   have H' := Aside0.mk H
   clear H
   have hnb14 := NB516_517.out
   have hnc14 := NB517_516.out
   have hcz15_0 : w5.cell? ⟨gb516, 0, none⟩ = some (.bool a0_0) := (blk_cell BK516.out 0).trans rfl
   have hcz15_1 : w5.cell? ⟨gb516, 1, none⟩ = some (.int .u64 a0_1) := (blk_cell BK516.out 1).trans rfl
   have hcz15_2 : w5.cell? ⟨gb516, 2, none⟩ = some (.int .u64 a0_2) := (blk_cell BK516.out 2).trans rfl
   have hfz15_0 := blk_frozen BK516.out 0
   have hfz15_1 := blk_frozen BK516.out 1
   have hfz15_2 := blk_frozen BK516.out 2
   go_wp2_with (first | ((with_reducible refine gate_callee (f := 32) rfl ?_); refine goesL_ (some 6) rfl rfl Tryd.func32 (by kernel_rfl) rfl #[.agg #[.bool a0_0, .int .u64 a0_1, .int .u64 a0_2]] rfl Ma ?_; (with_reducible refine (crosswayref03_Valid.calls a0_0 a0_1 a0_2 false _ A6.out).mono ?_); rintro e w16 ⟨rfl, hb⟩; refine ⟨_, rfl, ?_⟩; have n0_ := Aside0.mk (blk_below (g := gb516) (o := .cells #[.bool a0_0, .int .u64 a0_1, .int .u64 a0_2] 24 (0, 0)) (St BK516.out) hb); have n1_ := Aside0.mk (blk_below (g := gb517) (o := .cells #[.bool a1_0, .int .u64 a1_1, .int .u64 a1_2] 24 (0, 0)) (St BK517.out) hb); have n2_ := Aside0.mk (below_step (Hb HB.out) hb); clear BK516; clear BK517; clear HB; have BK516 := n0_; have BK517 := n1_; have HB := n2_; clear n0_ n1_ n2_; (try clear hb); (try clear hb2); (try clear hk); (try clear hi)))
   go_meet
   case rel => exact ⟨_, (true), (by first | rfl | (simp; done) | (simp [*]; done)), H', ⟨by first | omega | exact Nat.le_refl _⟩, ⟨St BK516.out⟩, ⟨St BK517.out⟩, ⟨Hb HB.out⟩⟩
 case rest =>
  clear HC3
  try clear c1
  try clear p2
  try clear c3
  try clear c4
  try clear c7
  try clear c9
  try clear c14
  try clear hcz10_0
  try clear hcz10_1
  try clear hcz10_2
  try clear hcz12_0
  try clear hcz12_1
  try clear hcz12_2
  try clear hcz15_0
  try clear hcz15_1
  try clear hcz15_2
  try clear hfz10_0
  try clear hfz10_1
  try clear hfz10_2
  try clear hfz12_0
  try clear hfz12_1
  try clear hfz12_2
  try clear hfz15_0
  try clear hfz15_1
  try clear hfz15_2
  obtain ⟨kq, x12_2, rfl, HA, HJ2, BK516, BK517, HB⟩ := hcut
  cases kq with
  | zero => exact absurd HA.out (by simp [crosswayref03_Less.j0])
  | succ kj2 =>
   have H := HA.out
   clear HA
   simp only [crosswayref03_Less.j0] at H
   by_cases c17 : x12_2 = true
   ·subst c17
    have H1 : (some false) = some r := by rw [if_pos rfl] at H; exact H
    clear H
    have H := H1
    clear H1
    obtain rfl := Option.some.inj H
    go_wp2
    go_ret
    exact ⟨by first | rfl | (simp [errW_none, errW_some] <;> rfl) | (simp [*, errW_none, errW_some] <;> rfl), Hb HB.out⟩
   ·replace c17 := Bool.eq_false_iff.mpr c17
    subst c17
    have H1 : (if (a0_0 != a1_0) = true then (some a1_0) else (if a0_1 < a1_1 then (some true) else (if a0_1 = a1_1 then (some (decide (a0_2 < a1_2))) else (some false)))) = some r := by rw [if_neg (show ¬ (false = true) by decide)] at H; exact H
    clear H
    have H := H1
    clear H1
    by_cases c18 : (a0_0 != a1_0) = true
    ·rw [if_pos c18] at H
     have c18b0 : (a0_0 != a1_0) = true := c18
     (try (have c18b1 : decide (a0_0 = a1_0) = false := by simpa using c18))
     (try (have c18b2 : (a0_0 == a1_0) = false := by simpa using c18))
     (try (have c18b3 : ¬ (a0_0 = a1_0) := by simpa using c18))
     clear c18
     obtain rfl := Option.some.inj H
     have hnb19 := NB516_517.out
     have hnc19 := NB517_516.out
     have hcz20_0 : wc.cell? ⟨gb516, 0, none⟩ = some (.bool a0_0) := (blk_cell BK516.out 0).trans rfl
     have hcz20_1 : wc.cell? ⟨gb516, 1, none⟩ = some (.int .u64 a0_1) := (blk_cell BK516.out 1).trans rfl
     have hcz20_2 : wc.cell? ⟨gb516, 2, none⟩ = some (.int .u64 a0_2) := (blk_cell BK516.out 2).trans rfl
     have hfz20_0 := blk_frozen BK516.out 0
     have hfz20_1 := blk_frozen BK516.out 1
     have hfz20_2 := blk_frozen BK516.out 2
     have hcz21_0 : wc.cell? ⟨gb517, 0, none⟩ = some (.bool a1_0) := (blk_cell BK517.out 0).trans rfl
     have hcz21_1 : wc.cell? ⟨gb517, 1, none⟩ = some (.int .u64 a1_1) := (blk_cell BK517.out 1).trans rfl
     have hcz21_2 : wc.cell? ⟨gb517, 2, none⟩ = some (.int .u64 a1_2) := (blk_cell BK517.out 2).trans rfl
     have hfz21_0 := blk_frozen BK517.out 0
     have hfz21_1 := blk_frozen BK517.out 1
     have hfz21_2 := blk_frozen BK517.out 2
     go_wp2
     go_ret
     exact ⟨by first | rfl | (simp [errW_none, errW_some] <;> rfl) | (simp [*, errW_none, errW_some] <;> rfl), Hb HB.out⟩
    ·rw [if_neg c18] at H
     have c18b0 : (a0_0 != a1_0) = false := by simpa using c18
     (try (have c18b1 : decide (a0_0 = a1_0) = true := by simpa using c18))
     (try (have c18b2 : (a0_0 == a1_0) = true := by simpa using c18))
     clear c18
     by_cases c22 : a0_1 < a1_1
     ·rw [if_pos c22] at H
      have c22b0 : decide (a0_1 < a1_1) = true := decide_eq_true c22
      clear c22
      obtain rfl := Option.some.inj H
      have hnb23 := NB516_517.out
      have hnc23 := NB517_516.out
      have hcz24_0 : wc.cell? ⟨gb516, 0, none⟩ = some (.bool a0_0) := (blk_cell BK516.out 0).trans rfl
      have hcz24_1 : wc.cell? ⟨gb516, 1, none⟩ = some (.int .u64 a0_1) := (blk_cell BK516.out 1).trans rfl
      have hcz24_2 : wc.cell? ⟨gb516, 2, none⟩ = some (.int .u64 a0_2) := (blk_cell BK516.out 2).trans rfl
      have hfz24_0 := blk_frozen BK516.out 0
      have hfz24_1 := blk_frozen BK516.out 1
      have hfz24_2 := blk_frozen BK516.out 2
      have hcz25_0 : wc.cell? ⟨gb517, 0, none⟩ = some (.bool a1_0) := (blk_cell BK517.out 0).trans rfl
      have hcz25_1 : wc.cell? ⟨gb517, 1, none⟩ = some (.int .u64 a1_1) := (blk_cell BK517.out 1).trans rfl
      have hcz25_2 : wc.cell? ⟨gb517, 2, none⟩ = some (.int .u64 a1_2) := (blk_cell BK517.out 2).trans rfl
      have hfz25_0 := blk_frozen BK517.out 0
      have hfz25_1 := blk_frozen BK517.out 1
      have hfz25_2 := blk_frozen BK517.out 2
      go_wp2
      go_ret
      exact ⟨by first | rfl | (simp [errW_none, errW_some] <;> rfl) | (simp [*, errW_none, errW_some] <;> rfl), Hb HB.out⟩
     ·rw [if_neg c22] at H
      have c22b0 : decide (a0_1 < a1_1) = false := decide_eq_false c22
      clear c22
      by_cases c26 : a0_1 = a1_1
      ·rw [if_pos c26] at H
       have c26b0 : (a0_1 == a1_1) = true := beq_iff_eq.mpr c26
       have c26b1 : (a0_1 != a1_1) = false := bne_eq_false_iff_eq.mpr c26
       clear c26
       obtain rfl := Option.some.inj H
       have hnb27 := NB516_517.out
       have hnc27 := NB517_516.out
       have hcz28_0 : wc.cell? ⟨gb516, 0, none⟩ = some (.bool a0_0) := (blk_cell BK516.out 0).trans rfl
       have hcz28_1 : wc.cell? ⟨gb516, 1, none⟩ = some (.int .u64 a0_1) := (blk_cell BK516.out 1).trans rfl
       have hcz28_2 : wc.cell? ⟨gb516, 2, none⟩ = some (.int .u64 a0_2) := (blk_cell BK516.out 2).trans rfl
       have hfz28_0 := blk_frozen BK516.out 0
       have hfz28_1 := blk_frozen BK516.out 1
       have hfz28_2 := blk_frozen BK516.out 2
       have hcz29_0 : wc.cell? ⟨gb517, 0, none⟩ = some (.bool a1_0) := (blk_cell BK517.out 0).trans rfl
       have hcz29_1 : wc.cell? ⟨gb517, 1, none⟩ = some (.int .u64 a1_1) := (blk_cell BK517.out 1).trans rfl
       have hcz29_2 : wc.cell? ⟨gb517, 2, none⟩ = some (.int .u64 a1_2) := (blk_cell BK517.out 2).trans rfl
       have hfz29_0 := blk_frozen BK517.out 0
       have hfz29_1 := blk_frozen BK517.out 1
       have hfz29_2 := blk_frozen BK517.out 2
       go_wp2
       go_ret
       exact ⟨by first | rfl | (simp [errW_none, errW_some] <;> rfl) | (simp [*, errW_none, errW_some] <;> rfl), Hb HB.out⟩
      ·rw [if_neg c26] at H
       have c26b0 : (a0_1 == a1_1) = false := beq_eq_false_iff_ne.mpr c26
       have c26b1 : (a0_1 != a1_1) = true := bne_iff_ne.mpr c26
       obtain rfl := Option.some.inj H
       have hnb30 := NB516_517.out
       have hnc30 := NB517_516.out
       have hcz31_0 : wc.cell? ⟨gb516, 0, none⟩ = some (.bool a0_0) := (blk_cell BK516.out 0).trans rfl
       have hcz31_1 : wc.cell? ⟨gb516, 1, none⟩ = some (.int .u64 a0_1) := (blk_cell BK516.out 1).trans rfl
       have hcz31_2 : wc.cell? ⟨gb516, 2, none⟩ = some (.int .u64 a0_2) := (blk_cell BK516.out 2).trans rfl
       have hfz31_0 := blk_frozen BK516.out 0
       have hfz31_1 := blk_frozen BK516.out 1
       have hfz31_2 := blk_frozen BK516.out 2
       have hcz32_0 : wc.cell? ⟨gb517, 0, none⟩ = some (.bool a1_0) := (blk_cell BK517.out 0).trans rfl
       have hcz32_1 : wc.cell? ⟨gb517, 1, none⟩ = some (.int .u64 a1_1) := (blk_cell BK517.out 1).trans rfl
       have hcz32_2 : wc.cell? ⟨gb517, 2, none⟩ = some (.int .u64 a1_2) := (blk_cell BK517.out 2).trans rfl
       have hfz32_0 := blk_frozen BK517.out 0
       have hfz32_1 := blk_frozen BK517.out 1
       have hfz32_2 := blk_frozen BK517.out 2
       go_wp2
       go_ret
       exact ⟨by first | rfl | (simp [errW_none, errW_some] <;> rfl) | (simp [*, errW_none, errW_some] <;> rfl), Hb HB.out⟩

end Go.Proofs.YtmhjgjdiifcdlaaDoor.P
