-- Laid by a program (wip/pr.py) out of the translation: each function as a Lean function, and the proof that the call comes to it.
import Derived.Test.YtmhjgjdiifcdlaaDoorShort
import Derived.Test.YtmhjgjdiifcdlaaDoorPBase
import Derived.Test.YtmhjgjdiifcdlaaDoorPRef04Width
import Derived.Test.YtmhjgjdiifcdlaaDoorPRef04Bit
import Derived.Test.YtmhjgjdiifcdlaaDoorPRef04of
import Derived.Test.YtmhjgjdiifcdlaaDoorPRef04Valid
namespace Go.Proofs.YtmhjgjdiifcdlaaDoor.P
open Go.RowKit Go.Proofs.YtmhjgjdiifcdlaaDoorW.PrintWords Go.Proofs.YtmhjgjdiifcdlaaDoorW.PrintLast Go.Proofs.YtmhjgjdiifcdlaaDoorW.PrintMore
attribute [local go_sem] max2_int min2_int max_two min_two max_three min_three max_four min_four   -- for this text's walks alone
set_option linter.unusedVariables false
set_option linter.unusedSimpArgs false

/-! ### crosswayref04_Halves: function 25 -/
mutual
def crosswayref04_Halves.j0 : Nat → Bool → Bool → Int → Int → Int → Option (Bool × Int × Int × Int × Bool × Int × Int × Int × Int)
 | 0, _, _, _, _, _ => none
 | k + 1, x19, x400000, x400001, x400002, x400003 => if x19 = true then (some (false, 0, 0, 0, false, 0, 0, 0, 1)) else ((crosswayref04_Width.f x400000 x400001 x400002).bind fun t404 => (if 0 ≤ t404 then (if (t404 : Int).toNat ≤ 35184372088832 then (crosswayref04_Halves.l0 k (List.replicate (t404 : Int).toNat 0) 0 x400000 x400001 x400002 x400003) else (none)) else (none)))
def crosswayref04_Halves.l0 : Nat → List Int → Int → Bool → Int → Int → Int → Option (Bool × Int × Int × Int × Bool × Int × Int × Int × Int)
 | 0, _, _, _, _, _, _ => none
 | k + 1, x6, x7, x400000, x400001, x400002, x400003 => if x7 < x400003 then ((crosswayref04_Bit.f k x400000 x400001 x400002 x7).bind fun t408 => (if 0 ≤ x7 then (if x7 < (x6.length : Int) then (crosswayref04_Halves.l0 k (x6.set (x7 : Int).toNat t408) (wrap64 (x7 + 1)) x400000 x400001 x400002 x400003) else (none)) else (none))) else (if 0 ≤ x400003 then (if x400003 < (x6.length : Int) then ((crosswayref04_of.f k x400000 (x6.set (x400003 : Int).toNat 1)).bind fun bt411 => (some (x400000, x400001, x400002, wrap64 (x400003 + 1), bt411.1, bt411.2.1, bt411.2.2, wrap64 (x400003 + 1), 0))) else (none)) else (none))
end
def crosswayref04_Halves.f (k : Nat) (a0_0 : Bool) (a0_1 : Int) (a0_2 : Int) (a0_3 : Int) : Option (Bool × Int × Int × Int × Bool × Int × Int × Int × Int) := (crosswayref04_Valid.f k a0_0 a0_1 a0_2 a0_3).bind fun t402 => (if t402 = true then ((crosswayref04_Width.f a0_0 a0_1 a0_2).bind fun t403 => (crosswayref04_Halves.j0 k (a0_3 == t403) a0_0 a0_1 a0_2 a0_3)) else (crosswayref04_Halves.j0 k true a0_0 a0_1 a0_2 a0_3))
theorem crosswayref04_Halves.mono_l : ∀ k, (∀ y0 y1 y2 y3 y4, LeO (crosswayref04_Halves.j0 k y0 y1 y2 y3 y4) (crosswayref04_Halves.j0 (k + 1) y0 y1 y2 y3 y4)) ∧ (∀ y0 y1 y2 y3 y4 y5, LeO (crosswayref04_Halves.l0 k y0 y1 y2 y3 y4 y5) (crosswayref04_Halves.l0 (k + 1) y0 y1 y2 y3 y4 y5))
 | 0 => ⟨fun _ _ _ _ _ r h => by simp [crosswayref04_Halves.j0] at h, fun _ _ _ _ _ _ r h => by simp [crosswayref04_Halves.l0] at h⟩
 | k + 1 => by
  obtain ⟨ih0, ih1⟩ := crosswayref04_Halves.mono_l k
  refine ⟨?_, ?_⟩
  ·intro y0 y1 y2 y3 y4
   unfold crosswayref04_Halves.j0
   repeat' first
   | (with_reducible exact ih0 _ _ _ _ _)
   | (with_reducible exact ih1 _ _ _ _ _ _)
   | (with_reducible exact crosswayref04_Bit.mono _ _ _ _ _)
   | (with_reducible exact crosswayref04_Valid.mono _ _ _ _ _)
   | (with_reducible exact crosswayref04_of.mono _ _ _)
   | (with_reducible exact LeO.refl _)
   | (with_reducible exact LeO.none _)
   | (with_reducible refine LeO.ite ?_ ?_)
   | (with_reducible refine LeO.bind ?_ (fun _ => ?_))
   | exact ih0 _ _ _ _ _
   | exact ih1 _ _ _ _ _ _
   | exact crosswayref04_Bit.mono _ _ _ _ _
   | exact crosswayref04_Valid.mono _ _ _ _ _
   | exact crosswayref04_of.mono _ _ _
   | exact LeO.none _
   | refine LeO.ite ?_ ?_
   | refine LeO.bind ?_ (fun _ => ?_)
  ·intro y0 y1 y2 y3 y4 y5
   unfold crosswayref04_Halves.l0
   repeat' first
   | (with_reducible exact ih0 _ _ _ _ _)
   | (with_reducible exact ih1 _ _ _ _ _ _)
   | (with_reducible exact crosswayref04_Bit.mono _ _ _ _ _)
   | (with_reducible exact crosswayref04_Valid.mono _ _ _ _ _)
   | (with_reducible exact crosswayref04_of.mono _ _ _)
   | (with_reducible exact LeO.refl _)
   | (with_reducible exact LeO.none _)
   | (with_reducible refine LeO.ite ?_ ?_)
   | (with_reducible refine LeO.bind ?_ (fun _ => ?_))
   | exact ih0 _ _ _ _ _
   | exact ih1 _ _ _ _ _ _
   | exact crosswayref04_Bit.mono _ _ _ _ _
   | exact crosswayref04_Valid.mono _ _ _ _ _
   | exact crosswayref04_of.mono _ _ _
   | exact LeO.none _
   | refine LeO.ite ?_ ?_
   | refine LeO.bind ?_ (fun _ => ?_)
theorem crosswayref04_Halves.mono : ∀ a0 a1 a2 a3 k, LeO (crosswayref04_Halves.f k a0 a1 a2 a3) (crosswayref04_Halves.f (k + 1) a0 a1 a2 a3) := by
 intro a0 a1 a2 a3 k
 obtain ⟨ih0, ih1⟩ := crosswayref04_Halves.mono_l k
 unfold crosswayref04_Halves.f
 repeat' first
   | (with_reducible exact ih0 _ _ _ _ _)
   | (with_reducible exact ih1 _ _ _ _ _ _)
   | (with_reducible exact crosswayref04_Bit.mono _ _ _ _ _)
   | (with_reducible exact crosswayref04_Valid.mono _ _ _ _ _)
   | (with_reducible exact crosswayref04_of.mono _ _ _)
   | (with_reducible exact LeO.refl _)
   | (with_reducible exact LeO.none _)
   | (with_reducible refine LeO.ite ?_ ?_)
   | (with_reducible refine LeO.bind ?_ (fun _ => ?_))
   | exact ih0 _ _ _ _ _
   | exact ih1 _ _ _ _ _ _
   | exact crosswayref04_Bit.mono _ _ _ _ _
   | exact crosswayref04_Valid.mono _ _ _ _ _
   | exact crosswayref04_of.mono _ _ _
   | exact LeO.none _
   | refine LeO.ite ?_ ?_
   | refine LeO.bind ?_ (fun _ => ?_)
def crosswayref04_Halves.T2 : Bool × List (List Nat × List Nat) := (true, [([], []), ([0], [0]), ([1], [1]), ([2], [2]), ([3, 2], [2, 3]), ([2], [2]), ([5, 2], [2, 5]), ([6, 2, 2], [2, 6]), ([4, 7, 2], [2, 4, 7]), ([2, 8], [2, 8])])
def crosswayref04_Halves.B2 : List Nat := [0, 1, 3, 7, 15, 7, 39, 103, 255, 511]
theorem crosswayref04_Halves.tab2 : rtab .any (opsOf Tryd.f25 2) = crosswayref04_Halves.T2 := by kernel_rfl
theorem crosswayref04_Halves.bits2 : waitsOk crosswayref04_Halves.T2.2 crosswayref04_Halves.B2 = true := by kernel_rfl
def crosswayref04_Halves.T10 : Bool × List (List Nat × List Nat) := (true, [([], []), ([0], [0]), ([], []), ([2], [2]), ([3], [3]), ([1, 4], [1, 4]), ([], []), ([6], [6]), ([7], [7]), ([], []), ([8, 9], [8, 9]), ([], []), ([11], [11]), ([12], [12]), ([10, 13], [10, 13]), ([5, 10, 0, 1, 2, 3, 4, 5], [5]), ([14, 15, 0, 1, 2, 3, 4, 5, 6, 7, 8, 9, 10, 11, 12, 13, 14, 15], [14]), ([16, 0, 1, 2, 3, 4, 5, 6, 7, 8, 9, 10, 11, 12, 13, 14, 15, 16], [])])
def crosswayref04_Halves.B10 : List Nat := [0, 1, 0, 4, 12, 31, 0, 64, 192, 0, 960, 0, 2048, 6144, 16320, 2047, 65535, 131071]
theorem crosswayref04_Halves.tab10 : rtab .any (opsOf Tryd.f25 10) = crosswayref04_Halves.T10 := by kernel_rfl
theorem crosswayref04_Halves.bits10 : waitsOk crosswayref04_Halves.T10.2 crosswayref04_Halves.B10 = true := by kernel_rfl
set_option maxHeartbeats 8000000 in
set_option maxRecDepth 100000 in
theorem crosswayref04_Halves.calls (k : Nat) (a0_0 : Bool) (a0_1 : Int) (a0_2 : Int) (a0_3 : Int) (r1 : Bool) (r2 : Int) (r3 : Int) (r4 : Int) (r5 : Bool) (r6 : Int) (r7 : Int) (r8 : Int) (r9 : Int) (w : World) (h : crosswayref04_Halves.f k a0_0 a0_1 a0_2 a0_3 = some (r1, r2, r3, r4, r5, r6, r7, r8, r9)) :
  Calls Tryd.prog 25 #[.agg #[.bool a0_0, .int .u64 a0_1, .int .u64 a0_2, .int .i64 a0_3]] w fun e w' => e = .returned (.tuple #[.agg #[.bool r1, .int .u64 r2, .int .u64 r3, .int .i64 r4], .agg #[.bool r5, .int .u64 r6, .int .u64 r7, .int .i64 r8], .int .i64 r9]) ∧ Below w.heap.size w w' := by
 have hu26 := Tryd.underlying26
 have hu24 := Tryd.underlying24
 have HB := Aside0.mk (Below.refl w.heap.size w)
 have H : ((crosswayref04_Valid.f k a0_0 a0_1 a0_2 a0_3).bind fun t402 => (if t402 = true then ((crosswayref04_Width.f a0_0 a0_1 a0_2).bind fun t403 => (crosswayref04_Halves.j0 k (a0_3 == t403) a0_0 a0_1 a0_2 a0_3)) else (crosswayref04_Halves.j0 k true a0_0 a0_1 a0_2 a0_3))) = some (r1, r2, r3, r4, r5, r6, r7, r8, r9) := h
 clear h
 replace H := Option.bind_eq_some_iff.mp H
 obtain ⟨t402, A20, H⟩ := H
 replace H : (if t402 = true then ((crosswayref04_Width.f a0_0 a0_1 a0_2).bind fun t403 => (crosswayref04_Halves.j0 k (a0_3 == t403) a0_0 a0_1 a0_2 a0_3)) else (crosswayref04_Halves.j0 k true a0_0 a0_1 a0_2 a0_3)) = some (r1, r2, r3, r4, r5, r6, r7, r8, r9) := H
 have A2 := Aside0.mk A20
 clear A20
 have HC3 := Aside0.mk H
 clear H
 go_enter Tryd.func25, Tryd.ntmps25
 go_upto_region 2 with (first | ((with_reducible refine gate_dst (N := 1) rfl ?_); refine box_event ?hg (N := 1) ?hd (cs := #[.bool a0_0, .int .u64 a0_1, .int .u64 a0_2, .int .i64 a0_3]) (t := 26) ?hr ?_; (case hd => rfl); (case hg => rfl); (case hr => first | (go_simp; done) | (go_simp; rfl)); intro gb399 hg w4 hbox hb; have n0_ := Aside0.mk (below_step (Hb HB.out) hb); have n1_ := Aside0.mk (hbox); have n2_ := Aside0.mk ((by rw [hg]; exact (below_size (Hb HB.out)) : w.heap.size ≤ gb399)); have n3_ := Aside0.mk ((by rw [hg]; exact (below_size (Hb HB.out)) : w.heap.size ≤ gb399)); clear HB; have HB := n0_; have BK399 := n1_; have GW399 := n2_; have GE399 := n3_; clear n0_ n1_ n2_ n3_; clear hb hbox hg) | ((with_reducible refine gate_dst (N := 2) rfl ?_); refine box_event ?hg (N := 2) ?hd (cs := #[.bool false, .int .u64 0, .int .u64 0, .int .i64 0]) (t := 26) ?hr ?_; (case hd => rfl); (case hg => rfl); (case hr => first | (go_simp; done) | (go_simp; rfl)); intro gb400 hg w5 hbox hb; have n0_ := Aside0.mk (blk_below (g := gb399) (o := .cells #[.bool a0_0, .int .u64 a0_1, .int .u64 a0_2, .int .i64 a0_3] 26 (0, 0)) (St BK399.out) hb); have n1_ := Aside0.mk (below_step (Hb HB.out) hb); have n2_ := Aside0.mk (hbox); have n3_ := Aside0.mk ((by rw [hg]; exact (below_size (Hb HB.out)) : w.heap.size ≤ gb400)); have n4_ := Aside0.mk ((by rw [hg]; exact (below_size (Hb HB.out)) : w.heap.size ≤ gb400)); have n5_ := Aside0.mk ((by rw [hg]; exact Nat.ne_of_lt (blk_lt (g := gb399) (o := .cells #[.bool a0_0, .int .u64 a0_1, .int .u64 a0_2, .int .i64 a0_3] 26 (0, 0)) (St BK399.out)) : gb399 ≠ gb400)); have n6_ := Aside0.mk ((by rw [hg]; exact Nat.ne_of_gt (blk_lt (g := gb399) (o := .cells #[.bool a0_0, .int .u64 a0_1, .int .u64 a0_2, .int .i64 a0_3] 26 (0, 0)) (St BK399.out)) : gb400 ≠ gb399)); clear BK399; clear HB; have BK399 := n0_; have HB := n1_; have BK400 := n2_; have GW400 := n3_; have GE400 := n4_; have NB399_400 := n5_; have NB400_399 := n6_; clear n0_ n1_ n2_ n3_ n4_ n5_ n6_; clear hb hbox hg) | ((with_reducible refine gate_dst (N := 3) rfl ?_); refine box_event ?hg (N := 3) ?hd (cs := #[.bool false, .int .u64 0, .int .u64 0, .int .i64 0]) (t := 26) ?hr ?_; (case hd => rfl); (case hg => rfl); (case hr => first | (go_simp; done) | (go_simp; rfl)); intro gb401 hg w6 hbox hb; have n0_ := Aside0.mk (blk_below (g := gb399) (o := .cells #[.bool a0_0, .int .u64 a0_1, .int .u64 a0_2, .int .i64 a0_3] 26 (0, 0)) (St BK399.out) hb); have n1_ := Aside0.mk (blk_below (g := gb400) (o := .cells #[.bool false, .int .u64 0, .int .u64 0, .int .i64 0] 26 (0, 0)) (St BK400.out) hb); have n2_ := Aside0.mk (below_step (Hb HB.out) hb); have n3_ := Aside0.mk (hbox); have n4_ := Aside0.mk ((by rw [hg]; exact (below_size (Hb HB.out)) : w.heap.size ≤ gb401)); have n5_ := Aside0.mk ((by rw [hg]; exact (below_size (Hb HB.out)) : w.heap.size ≤ gb401)); have n6_ := Aside0.mk ((by rw [hg]; exact Nat.ne_of_lt (blk_lt (g := gb399) (o := .cells #[.bool a0_0, .int .u64 a0_1, .int .u64 a0_2, .int .i64 a0_3] 26 (0, 0)) (St BK399.out)) : gb399 ≠ gb401)); have n7_ := Aside0.mk ((by rw [hg]; exact Nat.ne_of_gt (blk_lt (g := gb399) (o := .cells #[.bool a0_0, .int .u64 a0_1, .int .u64 a0_2, .int .i64 a0_3] 26 (0, 0)) (St BK399.out)) : gb401 ≠ gb399)); have n8_ := Aside0.mk ((by rw [hg]; exact Nat.ne_of_lt (blk_lt (g := gb400) (o := .cells #[.bool false, .int .u64 0, .int .u64 0, .int .i64 0] 26 (0, 0)) (St BK400.out)) : gb400 ≠ gb401)); have n9_ := Aside0.mk ((by rw [hg]; exact Nat.ne_of_gt (blk_lt (g := gb400) (o := .cells #[.bool false, .int .u64 0, .int .u64 0, .int .i64 0] 26 (0, 0)) (St BK400.out)) : gb401 ≠ gb400)); clear BK399; clear BK400; clear HB; have BK399 := n0_; have BK400 := n1_; have HB := n2_; have BK401 := n3_; have GW401 := n4_; have GE401 := n5_; have NB399_401 := n6_; have NB401_399 := n7_; have NB400_401 := n8_; have NB401_400 := n9_; clear n0_ n1_ n2_ n3_ n4_ n5_ n6_ n7_ n8_ n9_; clear hb hbox hg; have hnb7 := NB399_400.out; have hnc7 := NB400_399.out; have hnb8 := NB399_401.out; have hnc8 := NB401_399.out; have hcz9_0 : w6.cell? ⟨gb399, 0, none⟩ = some (.bool a0_0) := (blk_cell BK399.out 0).trans rfl; have hcz9_1 : w6.cell? ⟨gb399, 1, none⟩ = some (.int .u64 a0_1) := (blk_cell BK399.out 1).trans rfl; have hcz9_2 : w6.cell? ⟨gb399, 2, none⟩ = some (.int .u64 a0_2) := (blk_cell BK399.out 2).trans rfl; have hcz9_3 : w6.cell? ⟨gb399, 3, none⟩ = some (.int .i64 a0_3) := (blk_cell BK399.out 3).trans rfl; have hfz9_0 := blk_frozen BK399.out 0; have hfz9_1 := blk_frozen BK399.out 1; have hfz9_2 := blk_frozen BK399.out 2; have hfz9_3 := blk_frozen BK399.out 3) | ((with_reducible refine gate_callee (f := 15) rfl ?_); refine goesL_ (some 9) rfl rfl Tryd.func15 (by kernel_rfl) rfl #[.agg #[.bool a0_0, .int .u64 a0_1, .int .u64 a0_2, .int .i64 a0_3]] rfl Ma ?_; (with_reducible refine (crosswayref04_Valid.calls k a0_0 a0_1 a0_2 a0_3 t402 _ A2.out).mono ?_); rintro e w10 ⟨rfl, hb⟩; refine ⟨_, rfl, ?_⟩; have n0_ := Aside0.mk (blk_below (g := gb399) (o := .cells #[.bool a0_0, .int .u64 a0_1, .int .u64 a0_2, .int .i64 a0_3] 26 (0, 0)) (St BK399.out) hb); have n1_ := Aside0.mk (blk_below (g := gb400) (o := .cells #[.bool false, .int .u64 0, .int .u64 0, .int .i64 0] 26 (0, 0)) (St BK400.out) hb); have n2_ := Aside0.mk (blk_below (g := gb401) (o := .cells #[.bool false, .int .u64 0, .int .u64 0, .int .i64 0] 26 (0, 0)) (St BK401.out) hb); have n3_ := Aside0.mk (below_step (Hb HB.out) hb); clear BK399; clear BK400; clear BK401; clear HB; have BK399 := n0_; have BK400 := n1_; have BK401 := n2_; have HB := n3_; clear n0_ n1_ n2_ n3_; (try clear hb); (try clear hb2); (try clear hk); (try clear hi)))
 (try simp only [Act.put, List.setIfInBounds_toArray, List.set_cons_zero, List.set_cons_succ])
 go_cut [19] (fun v19 wc => ∃ (kq : Nat) (x19_2 : Bool), v19 = .bool x19_2 ∧ Aside0 (crosswayref04_Halves.j0 kq x19_2 a0_0 a0_1 a0_2 a0_3 = some (r1, r2, r3, r4, r5, r6, r7, r8, r9)) ∧ Aside0 (kq ≤ k) ∧ Aside0 (wc.heap[gb399]? = some (.cells #[.bool a0_0, .int .u64 a0_1, .int .u64 a0_2, .int .i64 a0_3] 26 (0, 0))) ∧ Aside0 (wc.heap[gb400]? = some (.cells #[.bool false, .int .u64 0, .int .u64 0, .int .i64 0] 26 (0, 0))) ∧ Aside0 (wc.heap[gb401]? = some (.cells #[.bool false, .int .u64 0, .int .u64 0, .int .i64 0] 26 (0, 0))) ∧ Aside0 (Below w.heap.size w wc))
 case first =>
  have H := HC3.out
  clear HC3
  by_cases c11 : t402 = true
  ·subst c11
   have H1 : ((crosswayref04_Width.f a0_0 a0_1 a0_2).bind fun t403 => (crosswayref04_Halves.j0 k (a0_3 == t403) a0_0 a0_1 a0_2 a0_3)) = some (r1, r2, r3, r4, r5, r6, r7, r8, r9) := by rw [if_pos rfl] at H; exact H
   clear H
   have H := H1
   clear H1
   replace H := Option.bind_eq_some_iff.mp H
   obtain ⟨t403, A120, H⟩ := H
   replace H : (crosswayref04_Halves.j0 k (a0_3 == t403) a0_0 a0_1 a0_2 a0_3) = some (r1, r2, r3, r4, r5, r6, r7, r8, r9) := H
   have A12 := Aside0.mk A120
   clear A120
   have H' := Aside0.mk H
   clear H
   try go_wp2
   have n0_ := Aside0.mk (blk_drew BK399.out)
   have n1_ := Aside0.mk (blk_drew BK400.out)
   have n2_ := Aside0.mk (blk_drew BK401.out)
   have n3_ := Aside0.mk (below_drew1 HB.out)
   clear BK399
   clear BK400
   clear BK401
   clear HB
   have BK399 := n0_
   have BK400 := n1_
   have BK401 := n2_
   have HB := n3_
   clear n0_ n1_ n2_ n3_
   refine start_ (n := 10) (S := fun w' => w'.cell? ⟨gb399, 0, none⟩ = some (.bool a0_0) ∧ w'.cell? ⟨gb399, 1, none⟩ = some (.int .u64 a0_1) ∧ w'.cell? ⟨gb399, 2, none⟩ = some (.int .u64 a0_2) ∧ w'.cell? ⟨gb399, 3, none⟩ = some (.int .i64 a0_3)) (ds := []) #[Z,Z,Z,Z,Z,Z,Z,Z,Z,Z] (by kernel_rfl) rfl rfl ⟨(blk_cell BK399.out 0).trans rfl, (blk_cell BK399.out 1).trans rfl, (blk_cell BK399.out 2).trans rfl, (blk_cell BK399.out 3).trans rfl⟩ (fun hHeld => ?_); refine with_tabW crosswayref04_Halves.tab2 crosswayref04_Halves.bits2 (fun HT_ HW_ => ?_)
   generalize w10.drew = w13 at BK399 BK400 BK401 HB hHeld ⊢
   refine pure_ (i := 0) (N := some 10) (v := ?_) (a' := ?_) #[Y,Z,Z,Z,Z,Z,Z,Z,Z,Z] rfl rfl (any_of HT_.out (by kernel_rfl)) (fun _ _ _ h => h) (Or.inl ⟨by rfl, ?_⟩) ?_ ?_
   rotate_left
   ·exact Sw
   rotate_left
   ·exact Sr
   refine pure_ (i := 1) (N := some 11) (v := ?_) (a' := ?_) #[Y,Y,Z,Z,Z,Z,Z,Z,Z,Z] rfl rfl (any_of HT_.out (by kernel_rfl)) (fun _ _ _ h => h) (Or.inl ⟨by rfl, ?_⟩) ?_ ?_
   rotate_left
   ·exact Sw
   rotate_left
   ·exact Sr
   refine pure_ (i := 2) (N := some 12) (v := ?_) (a' := ?_) #[Y,Y,Y,Z,Z,Z,Z,Z,Z,Z] rfl rfl (any_of HT_.out (by kernel_rfl)) (fun _ _ _ h => h) (Or.inl ⟨by rfl, ?_⟩) ?_ ?_
   rotate_left
   ·exact Sw
   rotate_left
   ·exact Sr
   refine pure_ (i := 3) (N := some 13) (v := ?_) (a' := ?_) #[Y,Y,Y,Y,Z,Z,Z,Z,Z,Z] rfl rfl (any_of HT_.out (by kernel_rfl)) (fun _ _ _ h => h) (Or.inl ⟨by rfl, ?_⟩) ?_ ?_
   rotate_left
   ·exact Sw
   rotate_left
   ·exact Sr
   refine pure_ (i := 5) (N := some 15) (v := ?_) (a' := ?_) #[Y,Y,Y,Y,Z,Y,Z,Z,Z,Z] rfl rfl (any_of HT_.out (by kernel_rfl)) (fun _ _ _ h => h) (Or.inl ⟨by rfl, ?_⟩) ?_ ?_
   rotate_left
   ·exact Sw
   rotate_left
   ·exact Sr
   refine take_ (i := 4) (N := some 14) (v := ?_) (a' := ?_) #[Y,Y,Y,Y,Y,Y,Z,Z,Z,Z] rfl rfl (take_ofW HT_.out HW_.out (by kernel_rfl)) (fun _ _ _ h => h) (Or.inl ⟨by rfl, ?_⟩) hHeld ?_ ?_
   rotate_left
   ·rintro w' ⟨s0, s1, s2, s3⟩
    go_simp
    with_reducible rfl
   rotate_left
   ·exact Sr
   refine take_ (i := 6) (N := some 16) (v := ?_) (a' := ?_) #[Y,Y,Y,Y,Y,Y,Y,Z,Z,Z] rfl rfl (take_ofW HT_.out HW_.out (by kernel_rfl)) (fun _ _ _ h => h) (Or.inl ⟨by rfl, ?_⟩) hHeld ?_ ?_
   rotate_left
   ·rintro w' ⟨s0, s1, s2, s3⟩
    go_simp
    with_reducible rfl
   rotate_left
   ·exact Sr
   refine one_ (i := 7) (N := some 17) #[Y,Y,Y,Y,Y,Y,Y,Y,Z,Z] rfl rfl (one_of HT_.out (by kernel_rfl)) (by decide) (fun K hK => ?_)
   refine goes_ Tryd.func33 (by kernel_rfl) rfl #[.agg #[.bool a0_0, .int .u64 a0_1, .int .u64 a0_2]] (by rfl) rfl rfl Ma ?_
   with_reducible refine (crosswayref04_Width.calls a0_0 a0_1 a0_2 t403 _ A12.out).mono ?_
   rintro e w14 ⟨rfl, hb⟩
   refine ⟨_, rfl, ?_⟩
   have n0_ := Aside0.mk (blk_below (g := gb399) (o := .cells #[.bool a0_0, .int .u64 a0_1, .int .u64 a0_2, .int .i64 a0_3] 26 (0, 0)) (St BK399.out) hb)
   have n1_ := Aside0.mk (blk_below (g := gb400) (o := .cells #[.bool false, .int .u64 0, .int .u64 0, .int .i64 0] 26 (0, 0)) (St BK400.out) hb)
   have n2_ := Aside0.mk (blk_below (g := gb401) (o := .cells #[.bool false, .int .u64 0, .int .u64 0, .int .i64 0] 26 (0, 0)) (St BK401.out) hb)
   have n3_ := Aside0.mk (below_step (Hb HB.out) hb)
   clear BK399
   clear BK400
   clear BK401
   clear HB
   have BK399 := n0_
   have BK400 := n1_
   have BK401 := n2_
   have HB := n3_
   clear n0_ n1_ n2_ n3_
   (try clear hb)
   (try clear hb2)
   (try clear hk)
   (try clear hi)
   refine hK.out _ _ ⟨(blk_cell BK399.out 0).trans rfl, (blk_cell BK399.out 1).trans rfl, (blk_cell BK399.out 2).trans rfl, (blk_cell BK399.out 3).trans rfl⟩ (fun hHeld => ?_)
   clear hK K
   refine norm_ (a' := ?_) ?_ ?_
   rotate_left
   ·show Act.put _ (some 17) _ = _
    refine Sp ?_
    rfl
   refine pure_ (i := 8) (N := some 18) (v := ?_) (a' := ?_) #[Y,Y,Y,Y,Y,Y,Y,Y,Y,Z] rfl rfl (any_of HT_.out (by kernel_rfl)) (fun _ _ _ h => h) (Or.inl ⟨by rfl, ?_⟩) ?_ ?_
   rotate_left
   ·exact Sw
   rotate_left
   ·exact Sr
   refine pure_ (i := 9) (N := some 19) (v := ?_) (a' := ?_) #[Y,Y,Y,Y,Y,Y,Y,Y,Y,Y] rfl rfl (any_of HT_.out (by kernel_rfl)) (fun _ _ _ h => h) (Or.inl ⟨by rfl, ?_⟩) ?_ ?_
   rotate_left
   ·exact Sw
   rotate_left
   ·exact Sr
   refine done_ (done_of HT_.out (by kernel_rfl)) ?_
   try go_wp2
   go_meet
   case rel => exact ⟨_, ((a0_3 == t403)), (by first | rfl | (simp; done) | (simp [*]; done)), H', ⟨by first | omega | exact Nat.le_refl _⟩, ⟨St BK399.out⟩, ⟨St BK400.out⟩, ⟨St BK401.out⟩, ⟨Hb HB.out⟩⟩
  ·replace c11 := Bool.eq_false_iff.mpr c11
   subst c11
   have H1 : (crosswayref04_Halves.j0 k true a0_0 a0_1 a0_2 a0_3) = some (r1, r2, r3, r4, r5, r6, r7, r8, r9) := by rw [if_neg (show ¬ (false = true) by decide)] at H; exact H
   clear H
   have H := H1
   clear H1
   have H' := Aside0.mk H
   clear H
   try go_wp2
   have n0_ := Aside0.mk (blk_drew BK399.out)
   have n1_ := Aside0.mk (blk_drew BK400.out)
   have n2_ := Aside0.mk (blk_drew BK401.out)
   have n3_ := Aside0.mk (below_drew1 HB.out)
   clear BK399
   clear BK400
   clear BK401
   clear HB
   have BK399 := n0_
   have BK400 := n1_
   have BK401 := n2_
   have HB := n3_
   clear n0_ n1_ n2_ n3_
   refine start_ (n := 10) (S := fun w' => True) (ds := []) #[Z,Z,Z,Z,Z,Z,Z,Z,Z,Z] (by kernel_rfl) rfl rfl trivial (fun hHeld => ?_); refine with_tabW crosswayref04_Halves.tab2 crosswayref04_Halves.bits2 (fun HT_ HW_ => ?_)
   generalize w10.drew = w15 at BK399 BK400 BK401 HB hHeld ⊢
   refine pure_ (i := 0) (N := some 10) (v := ?_) (a' := ?_) #[Y,Z,Z,Z,Z,Z,Z,Z,Z,Z] rfl rfl (any_of HT_.out (by kernel_rfl)) (fun _ _ _ h => h) (Or.inl ⟨by rfl, ?_⟩) ?_ ?_
   rotate_left
   ·exact Sw
   rotate_left
   ·exact Sr
   refine pure_ (i := 1) (N := some 11) (v := ?_) (a' := ?_) #[Y,Y,Z,Z,Z,Z,Z,Z,Z,Z] rfl rfl (any_of HT_.out (by kernel_rfl)) (fun _ _ _ h => h) (Or.inl ⟨by rfl, ?_⟩) ?_ ?_
   rotate_left
   ·exact Sw
   rotate_left
   ·exact Sr
   refine pure_ (i := 2) (N := some 12) (v := ?_) (a' := ?_) #[Y,Y,Y,Z,Z,Z,Z,Z,Z,Z] rfl rfl (any_of HT_.out (by kernel_rfl)) (fun _ _ _ h => h) (Or.inl ⟨by rfl, ?_⟩) ?_ ?_
   rotate_left
   ·exact Sw
   rotate_left
   ·exact Sr
   refine pure_ (i := 3) (N := some 13) (v := undef) (a' := ?_) #[Y,Y,Y,Y,Z,Z,Z,Z,Z,Z] rfl rfl (any_of HT_.out (by kernel_rfl)) (fun _ _ _ h => h) (Or.inr ⟨by rfl, rfl⟩) ?_ ?_
   rotate_left
   ·exact Sr
   refine pure_ (i := 4) (N := some 14) (v := undef) (a' := ?_) #[Y,Y,Y,Y,Y,Z,Z,Z,Z,Z] rfl rfl (any_of HT_.out (by kernel_rfl)) (fun _ _ _ h => h) (Or.inr ⟨by rfl, rfl⟩) ?_ ?_
   rotate_left
   ·exact Sr
   refine pure_ (i := 5) (N := some 15) (v := undef) (a' := ?_) #[Y,Y,Y,Y,Y,Y,Z,Z,Z,Z] rfl rfl (any_of HT_.out (by kernel_rfl)) (fun _ _ _ h => h) (Or.inr ⟨by rfl, rfl⟩) ?_ ?_
   rotate_left
   ·exact Sr
   refine pure_ (i := 6) (N := some 16) (v := undef) (a' := ?_) #[Y,Y,Y,Y,Y,Y,Y,Z,Z,Z] rfl rfl (any_of HT_.out (by kernel_rfl)) (fun _ _ _ h => h) (Or.inr ⟨by rfl, rfl⟩) ?_ ?_
   rotate_left
   ·exact Sr
   refine pure_ (i := 7) (N := some 17) (v := undef) (a' := ?_) #[Y,Y,Y,Y,Y,Y,Y,Y,Z,Z] rfl rfl (any_of HT_.out (by kernel_rfl)) (fun _ _ _ h => h) (Or.inr ⟨by rfl, rfl⟩) ?_ ?_
   rotate_left
   ·exact Sr
   refine pure_ (i := 8) (N := some 18) (v := undef) (a' := ?_) #[Y,Y,Y,Y,Y,Y,Y,Y,Y,Z] rfl rfl (any_of HT_.out (by kernel_rfl)) (fun _ _ _ h => h) (Or.inr ⟨by rfl, rfl⟩) ?_ ?_
   rotate_left
   ·exact Sr
   refine pure_ (i := 9) (N := some 19) (v := ?_) (a' := ?_) #[Y,Y,Y,Y,Y,Y,Y,Y,Y,Y] rfl rfl (any_of HT_.out (by kernel_rfl)) (fun _ _ _ h => h) (Or.inl ⟨by rfl, ?_⟩) ?_ ?_
   rotate_left
   ·exact Sw
   rotate_left
   ·exact Sr
   refine done_ (done_of HT_.out (by kernel_rfl)) ?_
   try go_wp2
   go_meet
   case rel => exact ⟨_, (true), (by first | rfl | (simp; done) | (simp [*]; done)), H', ⟨by first | omega | exact Nat.le_refl _⟩, ⟨St BK399.out⟩, ⟨St BK400.out⟩, ⟨St BK401.out⟩, ⟨Hb HB.out⟩⟩
 case rest =>
  clear HC3
  try clear c1
  try clear c2
  try clear p2
  try clear c3
  try clear c7
  try clear c8
  try clear c11
  try clear c15
  try clear hcz9_0
  try clear hcz9_1
  try clear hcz9_2
  try clear hcz9_3
  try clear hfz9_0
  try clear hfz9_1
  try clear hfz9_2
  try clear hfz9_3
  obtain ⟨kq, x19_2, rfl, HA, HJ2, BK399, BK400, BK401, HB⟩ := hcut
  cases kq with
  | zero => exact absurd HA.out (by simp [crosswayref04_Halves.j0])
  | succ kj2 =>
   have H := HA.out
   clear HA
   simp only [crosswayref04_Halves.j0] at H
   by_cases c16 : x19_2 = true
   ·subst c16
    have H1 : (some (false, 0, 0, 0, false, 0, 0, 0, 1)) = some (r1, r2, r3, r4, r5, r6, r7, r8, r9) := by rw [if_pos rfl] at H; exact H
    clear H
    have H := H1
    clear H1
    simp only [Option.some.injEq, Prod.mk.injEq] at H
    obtain ⟨rfl, rfl, rfl, rfl, rfl, rfl, rfl, rfl, rfl⟩ := H
    have hnb17 := NB400_399.out
    have hnc17 := NB399_400.out
    have hnb18 := NB400_401.out
    have hnc18 := NB401_400.out
    have hcz19_0 : wc.cell? ⟨gb400, 0, none⟩ = some (.bool false) := (blk_cell BK400.out 0).trans rfl
    have hcz19_1 : wc.cell? ⟨gb400, 1, none⟩ = some (.int .u64 0) := (blk_cell BK400.out 1).trans rfl
    have hcz19_2 : wc.cell? ⟨gb400, 2, none⟩ = some (.int .u64 0) := (blk_cell BK400.out 2).trans rfl
    have hcz19_3 : wc.cell? ⟨gb400, 3, none⟩ = some (.int .i64 0) := (blk_cell BK400.out 3).trans rfl
    have hfz19_0 := blk_frozen BK400.out 0
    have hfz19_1 := blk_frozen BK400.out 1
    have hfz19_2 := blk_frozen BK400.out 2
    have hfz19_3 := blk_frozen BK400.out 3
    have hnb20 := NB401_399.out
    have hnc20 := NB399_401.out
    have hcz21_0 : wc.cell? ⟨gb401, 0, none⟩ = some (.bool false) := (blk_cell BK401.out 0).trans rfl
    have hcz21_1 : wc.cell? ⟨gb401, 1, none⟩ = some (.int .u64 0) := (blk_cell BK401.out 1).trans rfl
    have hcz21_2 : wc.cell? ⟨gb401, 2, none⟩ = some (.int .u64 0) := (blk_cell BK401.out 2).trans rfl
    have hcz21_3 : wc.cell? ⟨gb401, 3, none⟩ = some (.int .i64 0) := (blk_cell BK401.out 3).trans rfl
    have hfz21_0 := blk_frozen BK401.out 0
    have hfz21_1 := blk_frozen BK401.out 1
    have hfz21_2 := blk_frozen BK401.out 2
    have hfz21_3 := blk_frozen BK401.out 3
    go_wp2
    refine bodyPost_ret (results_list (rs := [.cell 2 26, .cell 3 26, .tmp 4]) rfl (by simp) (.cell gb400 26 #[.bool false, .int .u64 0, .int .u64 0, .int .i64 0] (0, 0) _ rfl (by refine St ?_; refine blk_far ?_ NB400_401.out _; refine St ?_; refine blk_far ?_ NB400_401.out _; refine St ?_; refine blk_far ?_ NB400_401.out _; refine St ?_; refine blk_far ?_ NB400_401.out _; refine St ?_; refine blk_put (cs := #[.bool false, .int .u64 0, .int .u64 0, .int .i64 0]) ?_ 3 _ rfl; refine St ?_; refine blk_put (cs := #[.bool false, .int .u64 0, .int .u64 0, .int .i64 0]) ?_ 2 _ rfl; refine St ?_; refine blk_put (cs := #[.bool false, .int .u64 0, .int .u64 0, .int .i64 0]) ?_ 1 _ rfl; refine St ?_; refine blk_put (cs := #[.bool false, .int .u64 0, .int .u64 0, .int .i64 0]) ?_ 0 _ rfl; refine St ?_; exact BK400.out) Tryd.underlying26 rfl (by kernel_rfl) (.cell gb401 26 #[.bool false, .int .u64 0, .int .u64 0, .int .i64 0] (0, 0) _ rfl (by refine St ?_; refine blk_put (cs := #[.bool false, .int .u64 0, .int .u64 0, .int .i64 0]) ?_ 3 _ rfl; refine St ?_; refine blk_put (cs := #[.bool false, .int .u64 0, .int .u64 0, .int .i64 0]) ?_ 2 _ rfl; refine St ?_; refine blk_put (cs := #[.bool false, .int .u64 0, .int .u64 0, .int .i64 0]) ?_ 1 _ rfl; refine St ?_; refine blk_put (cs := #[.bool false, .int .u64 0, .int .u64 0, .int .i64 0]) ?_ 0 _ rfl; refine St ?_; refine blk_far ?_ NB401_400.out _; refine St ?_; refine blk_far ?_ NB401_400.out _; refine St ?_; refine blk_far ?_ NB401_400.out _; refine St ?_; refine blk_far ?_ NB401_400.out _; refine St ?_; exact BK401.out) Tryd.underlying26 rfl (by kernel_rfl) (.tmp .nil)))) rfl ?_
    exact ⟨by first | rfl | (simp [errW_none, errW_some] <;> rfl) | (simp [*, errW_none, errW_some] <;> rfl), Hb HB.out⟩
   ·replace c16 := Bool.eq_false_iff.mpr c16
    subst c16
    have H1 : ((crosswayref04_Width.f a0_0 a0_1 a0_2).bind fun t404 => (if 0 ≤ t404 then (if (t404 : Int).toNat ≤ 35184372088832 then (crosswayref04_Halves.l0 kj2 (List.replicate (t404 : Int).toNat 0) 0 a0_0 a0_1 a0_2 a0_3) else (none)) else (none))) = some (r1, r2, r3, r4, r5, r6, r7, r8, r9) := by rw [if_neg (show ¬ (false = true) by decide)] at H; exact H
    clear H
    have H := H1
    clear H1
    replace H := Option.bind_eq_some_iff.mp H
    obtain ⟨t404, A220, H⟩ := H
    replace H : (if 0 ≤ t404 then (if (t404 : Int).toNat ≤ 35184372088832 then (crosswayref04_Halves.l0 kj2 (List.replicate (t404 : Int).toNat 0) 0 a0_0 a0_1 a0_2 a0_3) else (none)) else (none)) = some (r1, r2, r3, r4, r5, r6, r7, r8, r9) := H
    have A22 := Aside0.mk A220
    clear A220
    by_cases c23 : 0 ≤ t404
    ·rw [if_pos c23] at H
     have c23b0 := eq_true c23
     have c23b1 : decide (0 ≤ t404) = true := decide_eq_true c23
     clear c23
     by_cases c24 : (t404 : Int).toNat ≤ 35184372088832
     ·rw [if_pos c24] at H
      have c24b0 := eq_true c24
      have c24b1 : decide ((t404 : Int).toNat ≤ 35184372088832) = true := decide_eq_true c24
      clear c24
      obtain ⟨y405, hy405⟩ : ∃ y_ : List Int, y_ = (List.replicate (t404 : Int).toNat 0) := ⟨_, rfl⟩
      replace H : (crosswayref04_Halves.l0 kj2 y405 0 a0_0 a0_1 a0_2 a0_3) = some (r1, r2, r3, r4, r5, r6, r7, r8, r9) := by first | (rw [hy405]; with_reducible exact H) | (have H2_ := (Option.bind_some _ _).symm.trans H; rw [hy405]; with_reducible exact H2_) | (have H2_ := (Option.bind_some _ _).symm.trans H; with_reducible exact H2_) | with_reducible exact H | (rw [hy405]; exact H) | exact H
      have Ny405 := Aside0.mk hy405
      clear hy405
      have H' := Aside0.mk H
      clear H
      have hnb25 := NB399_400.out
      have hnc25 := NB400_399.out
      have hnb26 := NB399_401.out
      have hnc26 := NB401_399.out
      have hcz27_0 : wc.cell? ⟨gb399, 0, none⟩ = some (.bool a0_0) := (blk_cell BK399.out 0).trans rfl
      have hcz27_1 : wc.cell? ⟨gb399, 1, none⟩ = some (.int .u64 a0_1) := (blk_cell BK399.out 1).trans rfl
      have hcz27_2 : wc.cell? ⟨gb399, 2, none⟩ = some (.int .u64 a0_2) := (blk_cell BK399.out 2).trans rfl
      have hcz27_3 : wc.cell? ⟨gb399, 3, none⟩ = some (.int .i64 a0_3) := (blk_cell BK399.out 3).trans rfl
      have hfz27_0 := blk_frozen BK399.out 0
      have hfz27_1 := blk_frozen BK399.out 1
      have hfz27_2 := blk_frozen BK399.out 2
      have hfz27_3 := blk_frozen BK399.out 3
      go_wp2_with (first | ((with_reducible refine gate_callee (f := 33) rfl ?_); refine goesL_ (some 24) rfl rfl Tryd.func33 (by kernel_rfl) rfl #[.agg #[.bool a0_0, .int .u64 a0_1, .int .u64 a0_2]] rfl Ma ?_; (with_reducible refine (crosswayref04_Width.calls a0_0 a0_1 a0_2 t404 _ A22.out).mono ?_); rintro e w28 ⟨rfl, hb⟩; refine ⟨_, rfl, ?_⟩; have n0_ := Aside0.mk (blk_below (g := gb399) (o := .cells #[.bool a0_0, .int .u64 a0_1, .int .u64 a0_2, .int .i64 a0_3] 26 (0, 0)) (St BK399.out) hb); have n1_ := Aside0.mk (blk_below (g := gb400) (o := .cells #[.bool false, .int .u64 0, .int .u64 0, .int .i64 0] 26 (0, 0)) (St BK400.out) hb); have n2_ := Aside0.mk (blk_below (g := gb401) (o := .cells #[.bool false, .int .u64 0, .int .u64 0, .int .i64 0] 26 (0, 0)) (St BK401.out) hb); have n3_ := Aside0.mk (below_step (Hb HB.out) hb); clear BK399; clear BK400; clear BK401; clear HB; have BK399 := n0_; have BK400 := n1_; have BK401 := n2_; have HB := n3_; clear n0_ n1_ n2_ n3_; (try clear hb); (try clear hb2); (try clear hk); (try clear hi)) | ((with_reducible refine gate_dst (N := 25) rfl ?_); refine Kd.R_make (Kd.int .i64) _ 3 rfl (N := 25) rfl 58 _ _ rfl t404 rfl rfl Tryd.underlying58 (.int .i64 0) 8 info3 rfl (by decide) (by omega) 0 (ok := fun _ => True) (okp := fun _ => True) rfl (fun _ hk => hk) trivial (of_decide_eq_true (by first | (with_reducible assumption) | assumption)) (Nat.le_trans (Nat.mul_le_mul_right _ (of_decide_eq_true (by first | (with_reducible assumption) | assumption) : t404.toNat ≤ 35184372088832)) (by omega)) (Below.refl _ _) (Nat.le_refl _) ?_; intro v406 w29 ho30 hb hg_ hnew_; clear hg_ hnew_; (first | rw [← Ny405.out] at ho30 | (simp only [Int.reduceToNat] at ho30; rw [← Ny405.out] at ho30)); have n0_ := Aside0.mk (Kd.R_lower ho30 (below_size (Hb HB.out))); have n1_ := Aside0.mk (blk_below (g := gb399) (o := .cells #[.bool a0_0, .int .u64 a0_1, .int .u64 a0_2, .int .i64 a0_3] 26 (0, 0)) (St BK399.out) hb); have n2_ := Aside0.mk (blk_below (g := gb400) (o := .cells #[.bool false, .int .u64 0, .int .u64 0, .int .i64 0] 26 (0, 0)) (St BK400.out) hb); have n3_ := Aside0.mk (blk_below (g := gb401) (o := .cells #[.bool false, .int .u64 0, .int .u64 0, .int .i64 0] 26 (0, 0)) (St BK401.out) hb); have n4_ := Aside0.mk (below_step (Hb HB.out) hb); clear BK399; clear BK400; clear BK401; clear HB; have HO407 := n0_; have BK399 := n1_; have BK400 := n2_; have BK401 := n3_; have HB := n4_; clear n0_ n1_ n2_ n3_ n4_; clear hb ho30))
      go_loopg [7] kj2 (fun kq v7 w' => ∃ (x6_2 : List Int) (x7_2 : Int), v7 = .int .i64 x7_2 ∧ Aside0 (crosswayref04_Halves.l0 kq x6_2 x7_2 a0_0 a0_1 a0_2 a0_3 = some (r1, r2, r3, r4, r5, r6, r7, r8, r9)) ∧ Aside0 (kq ≤ kj2) ∧ Aside0 (Kd.R (Kd.int .i64) 3 w' w.heap.size (fun _ => True) v406 x6_2) ∧ Aside0 (w'.heap[gb399]? = some (.cells #[.bool a0_0, .int .u64 a0_1, .int .u64 a0_2, .int .i64 a0_3] 26 (0, 0))) ∧ Aside0 (w'.heap[gb400]? = some (.cells #[.bool false, .int .u64 0, .int .u64 0, .int .i64 0] 26 (0, 0))) ∧ Aside0 (w'.heap[gb401]? = some (.cells #[.bool false, .int .u64 0, .int .u64 0, .int .i64 0] 26 (0, 0))) ∧ Aside0 (Below w.heap.size w w'))
      case atStart => exact ⟨(y405), (0), (by first | rfl | (simp; done) | (simp [*]; done)), H', ⟨Nat.le_refl _⟩, ⟨by (with_reducible repeat (first | apply Kd.R_alloc | apply Kd.R_drewN | apply Kd.R_drew)); exact HO407.out⟩, ⟨St BK399.out⟩, ⟨St BK400.out⟩, ⟨St BK401.out⟩, ⟨Hb HB.out⟩⟩
      case round =>
       clear H'
       try clear c1
       try clear c2
       try clear p2
       try clear c3
       try clear c7
       try clear c8
       try clear c11
       try clear c15
       try clear c16
       try clear c17
       try clear c18
       try clear c20
       try clear c23
       try clear c23b0
       try clear c23b1
       try clear c24
       try clear c24b0
       try clear c24b1
       try clear c25
       try clear c26
       try clear hcz19_0
       try clear hcz19_1
       try clear hcz19_2
       try clear hcz19_3
       try clear hcz21_0
       try clear hcz21_1
       try clear hcz21_2
       try clear hcz21_3
       try clear hcz27_0
       try clear hcz27_1
       try clear hcz27_2
       try clear hcz27_3
       try clear hcz9_0
       try clear hcz9_1
       try clear hcz9_2
       try clear hcz9_3
       try clear hfz19_0
       try clear hfz19_1
       try clear hfz19_2
       try clear hfz19_3
       try clear hfz21_0
       try clear hfz21_1
       try clear hfz21_2
       try clear hfz21_3
       try clear hfz27_0
       try clear hfz27_1
       try clear hfz27_2
       try clear hfz27_3
       try clear hfz9_0
       try clear hfz9_1
       try clear hfz9_2
       try clear hfz9_3
       try clear p2
       obtain ⟨x6_2, x7_2, rfl, HA, HK2, HO_6, BK399, BK400, BK401, HB⟩ := hrel
       cases gk with
       | zero => exact absurd HA.out (by simp [crosswayref04_Halves.l0])
       | succ k2 =>
        have H := HA.out
        clear HA
        simp only [crosswayref04_Halves.l0] at H
        by_cases c31 : x7_2 < a0_3
        ·rw [if_pos c31] at H
         have c31b0 : decide (x7_2 < a0_3) = true := decide_eq_true c31
         clear c31
         replace H := Option.bind_eq_some_iff.mp H
         obtain ⟨t408, A320, H⟩ := H
         replace H : (if 0 ≤ x7_2 then (if x7_2 < (x6_2.length : Int) then (crosswayref04_Halves.l0 k2 (x6_2.set (x7_2 : Int).toNat t408) (wrap64 (x7_2 + 1)) a0_0 a0_1 a0_2 a0_3) else (none)) else (none)) = some (r1, r2, r3, r4, r5, r6, r7, r8, r9) := H
         have A32 := Aside0.mk A320
         clear A320
         by_cases c33 : 0 ≤ x7_2
         ·rw [if_pos c33] at H
          have c33b0 : decide (0 ≤ x7_2) = true := decide_eq_true c33
          clear c33
          by_cases c34 : x7_2 < (x6_2.length : Int)
          ·rw [if_pos c34] at H
           have c34b0 : decide (x7_2 < (x6_2.length : Int)) = true := decide_eq_true c34
           clear c34
           obtain ⟨y409, hy409⟩ : ∃ y_ : List Int, y_ = (x6_2.set (x7_2 : Int).toNat t408) := ⟨_, rfl⟩
           replace H : (crosswayref04_Halves.l0 k2 y409 (wrap64 (x7_2 + 1)) a0_0 a0_1 a0_2 a0_3) = some (r1, r2, r3, r4, r5, r6, r7, r8, r9) := by first | (rw [hy409]; with_reducible exact H) | (have H2_ := (Option.bind_some _ _).symm.trans H; rw [hy409]; with_reducible exact H2_) | (have H2_ := (Option.bind_some _ _).symm.trans H; with_reducible exact H2_) | with_reducible exact H | (rw [hy409]; exact H) | exact H
           have Ny409 := Aside0.mk hy409
           clear hy409
           have H' := Aside0.mk H
           clear H
           have hnb36 := NB399_400.out
           have hnc36 := NB400_399.out
           have hnb37 := NB399_401.out
           have hnc37 := NB401_399.out
           have hcz38_0 : wr.cell? ⟨gb399, 0, none⟩ = some (.bool a0_0) := (blk_cell BK399.out 0).trans rfl
           have hcz38_1 : wr.cell? ⟨gb399, 1, none⟩ = some (.int .u64 a0_1) := (blk_cell BK399.out 1).trans rfl
           have hcz38_2 : wr.cell? ⟨gb399, 2, none⟩ = some (.int .u64 a0_2) := (blk_cell BK399.out 2).trans rfl
           have hcz38_3 : wr.cell? ⟨gb399, 3, none⟩ = some (.int .i64 a0_3) := (blk_cell BK399.out 3).trans rfl
           have hfz38_0 := blk_frozen BK399.out 0
           have hfz38_1 := blk_frozen BK399.out 1
           have hfz38_2 := blk_frozen BK399.out 2
           have hfz38_3 := blk_frozen BK399.out 3
           go_wp2_with (first | ((with_reducible refine gate_callee (f := 13) rfl ?_); refine goesL_ (some 37) rfl rfl Tryd.func13 (by kernel_rfl) rfl #[.agg #[.bool a0_0, .int .u64 a0_1, .int .u64 a0_2], .int .i64 x7_2] rfl Ma ?_; (with_reducible refine (crosswayref04_Bit.calls k2 a0_0 a0_1 a0_2 x7_2 t408 _ A32.out).mono ?_); rintro e w39 ⟨rfl, hb⟩; refine ⟨_, rfl, ?_⟩; have n0_ := Aside0.mk (Kd.R_below (by (with_reducible repeat (first | apply Kd.R_alloc | apply Kd.R_drewN | apply Kd.R_drew)); exact HO_6.out) hb); have n1_ := Aside0.mk (blk_below (g := gb399) (o := .cells #[.bool a0_0, .int .u64 a0_1, .int .u64 a0_2, .int .i64 a0_3] 26 (0, 0)) (St BK399.out) hb); have n2_ := Aside0.mk (blk_below (g := gb400) (o := .cells #[.bool false, .int .u64 0, .int .u64 0, .int .i64 0] 26 (0, 0)) (St BK400.out) hb); have n3_ := Aside0.mk (blk_below (g := gb401) (o := .cells #[.bool false, .int .u64 0, .int .u64 0, .int .i64 0] 26 (0, 0)) (St BK401.out) hb); have n4_ := Aside0.mk (below_step (Hb HB.out) hb); clear HO_6; clear BK399; clear BK400; clear BK401; clear HB; have HO_6 := n0_; have BK399 := n1_; have BK400 := n2_; have BK401 := n3_; have HB := n4_; clear n0_ n1_ n2_ n3_ n4_; (try clear hb); (try clear hb2); (try clear hk); (try clear hi); have p35 : 0 ≤ (x7_2 : Int) := of_decide_eq_true (by first | (with_reducible assumption) | assumption); have q35 : (x7_2 : Int) < ((x6_2.length : Int) : Int) := of_decide_eq_true (by first | (with_reducible assumption) | assumption); obtain ⟨go35, co35, eo35, gb35, gl35, cl35, HG35⟩ := Kd.R_form HO_6.out (by omega); (first | cases eo35 | (injection eo35 with ea_ en_ ec_; (first | subst ea_ | (injection ea_ with ea_; subst ea_)); subst ec_; clear en_)); have GB35 := Aside0.mk gb35; have GG35 := Aside0.mk HG35; clear gb35 gl35 HG35; obtain ⟨hx35_0, hf35_0⟩ := Kd.R_celln 0 HO_6.out (x7_2 : Int) p35 q35; replace p35 := eq_true p35; replace q35 := eq_true q35; obtain ⟨hy40_, hz40_⟩ := Kd.R_celln 0 HO_6.out (x7_2 : Int) (of_decide_eq_true (by first | (with_reducible assumption) | assumption)) (of_decide_eq_true (by first | (with_reducible assumption) | assumption)); have HP40 := Kd.R_putg HO_6.out (x7_2 : Int) t408) | ((with_reducible refine gate_store (t := 3) (p := 38) rfl ?_); refine store_event (t := 3) (p := 38) (v := ?vo_w41) (w1 := (w39.setCell ⟨go35, (x7_2 : Int).toNat, none⟩ (.int .i64 t408))) ?hg ?ho ?hn ?hr ?_; (case ho => rfl); (case hg => rfl); (case hn => rfl); (case hr => first | (go_simp; done) | (go_simp; rfl)); intro w41 hw; have hg : w39.grownBy w41 (some go35) := (by rw [hw]; exact HP40.2); have hp_ : Kd.R (Kd.int .i64) 3 w41 w.heap.size (fun _ => True) (.slice (some ⟨go35, 0, none⟩) x6_2.length co35) y409 := (by rw [hw, Ny409.out]; exact HP40.1); clear HP40; have n0_ := Aside0.mk (hp_); have n1_ := Aside0.mk (blk_grown (g := gb399) (o := .cells #[.bool a0_0, .int .u64 a0_1, .int .u64 a0_2, .int .i64 a0_3] 26 (0, 0)) (St BK399.out) hg (Kd.R_ne HO_6.out BK399.out (by decide))); have n2_ := Aside0.mk (blk_grown (g := gb400) (o := .cells #[.bool false, .int .u64 0, .int .u64 0, .int .i64 0] 26 (0, 0)) (St BK400.out) hg (Kd.R_ne HO_6.out BK400.out (by decide))); have n3_ := Aside0.mk (blk_grown (g := gb401) (o := .cells #[.bool false, .int .u64 0, .int .u64 0, .int .i64 0] 26 (0, 0)) (St BK401.out) hg (Kd.R_ne HO_6.out BK401.out (by decide))); have n4_ := Aside0.mk ((by rw [hw]; exact below_set (HB.out) GB35.out : Below w.heap.size w w41)); clear HO_6; clear BK399; clear BK400; clear BK401; clear HB; have HO_6 := n0_; have BK399 := n1_; have BK400 := n2_; have BK401 := n3_; have HB := n4_; clear n0_ n1_ n2_ n3_ n4_; clear hg hw hp_))
           go_roundg k2
           case measure => have := HJ2.out; have := HK2.out; omega
           case rel => exact ⟨(y409), (wrap64 (x7_2 + 1)), (by first | rfl | (simp; done) | (simp [*]; done)), H', ⟨by have := HJ2.out; have := HK2.out; omega⟩, ⟨by (with_reducible repeat (first | apply Kd.R_alloc | apply Kd.R_drewN | apply Kd.R_drew)); exact HO_6.out⟩, ⟨St BK399.out⟩, ⟨St BK400.out⟩, ⟨St BK401.out⟩, ⟨Hb HB.out⟩⟩
          ·rw [if_neg c34] at H
           exact absurd H (by simp)
         ·rw [if_neg c33] at H
          exact absurd H (by simp)
        ·rw [if_neg c31] at H
         have c31b0 : decide (x7_2 < a0_3) = false := decide_eq_false c31
         clear c31
         by_cases c42 : 0 ≤ a0_3
         ·rw [if_pos c42] at H
          have c42b0 : decide (0 ≤ a0_3) = true := decide_eq_true c42
          clear c42
          by_cases c43 : a0_3 < (x6_2.length : Int)
          ·rw [if_pos c43] at H
           have c43b0 : decide (a0_3 < (x6_2.length : Int)) = true := decide_eq_true c43
           clear c43
           obtain ⟨y410, hy410⟩ : ∃ y_ : List Int, y_ = (x6_2.set (a0_3 : Int).toNat 1) := ⟨_, rfl⟩
           replace H : ((crosswayref04_of.f k2 a0_0 y410).bind fun bt411 => (some (a0_0, a0_1, a0_2, wrap64 (a0_3 + 1), bt411.1, bt411.2.1, bt411.2.2, wrap64 (a0_3 + 1), 0))) = some (r1, r2, r3, r4, r5, r6, r7, r8, r9) := by first | (rw [hy410]; with_reducible exact H) | (have H2_ := (Option.bind_some _ _).symm.trans H; rw [hy410]; with_reducible exact H2_) | (have H2_ := (Option.bind_some _ _).symm.trans H; with_reducible exact H2_) | with_reducible exact H | (rw [hy410]; exact H) | exact H
           have Ny410 := Aside0.mk hy410
           clear hy410
           replace H := Option.bind_eq_some_iff.mp H
           obtain ⟨⟨t411, t412, t413⟩, A450, H⟩ := H
           replace H : (some (a0_0, a0_1, a0_2, wrap64 (a0_3 + 1), t411, t412, t413, wrap64 (a0_3 + 1), 0)) = some (r1, r2, r3, r4, r5, r6, r7, r8, r9) := H
           have A45 := Aside0.mk A450
           clear A450
           simp only [Option.some.injEq, Prod.mk.injEq] at H
           obtain ⟨rfl, rfl, rfl, rfl, rfl, rfl, rfl, rfl, rfl⟩ := H
           have hnb46 := NB399_400.out
           have hnc46 := NB400_399.out
           have hnb47 := NB399_401.out
           have hnc47 := NB401_399.out
           have hcz48_0 : wr.cell? ⟨gb399, 0, none⟩ = some (.bool a0_0) := (blk_cell BK399.out 0).trans rfl
           have hcz48_1 : wr.cell? ⟨gb399, 1, none⟩ = some (.int .u64 a0_1) := (blk_cell BK399.out 1).trans rfl
           have hcz48_2 : wr.cell? ⟨gb399, 2, none⟩ = some (.int .u64 a0_2) := (blk_cell BK399.out 2).trans rfl
           have hcz48_3 : wr.cell? ⟨gb399, 3, none⟩ = some (.int .i64 a0_3) := (blk_cell BK399.out 3).trans rfl
           have hfz48_0 := blk_frozen BK399.out 0
           have hfz48_1 := blk_frozen BK399.out 1
           have hfz48_2 := blk_frozen BK399.out 2
           have hfz48_3 := blk_frozen BK399.out 3
           have p44 : 0 ≤ (a0_3 : Int) := of_decide_eq_true (by first | (with_reducible assumption) | assumption)
           have q44 : (a0_3 : Int) < ((x6_2.length : Int) : Int) := of_decide_eq_true (by first | (with_reducible assumption) | assumption)
           obtain ⟨go44, co44, eo44, gb44, gl44, cl44, HG44⟩ := Kd.R_form HO_6.out (by omega)
           (first | cases eo44 | (injection eo44 with ea_ en_ ec_; (first | subst ea_ | (injection ea_ with ea_; subst ea_)); subst ec_; clear en_))
           have GB44 := Aside0.mk gb44
           have GG44 := Aside0.mk HG44
           clear gb44 gl44 HG44
           obtain ⟨hx44_0, hf44_0⟩ := Kd.R_celln 0 HO_6.out (a0_3 : Int) p44 q44
           replace p44 := eq_true p44
           replace q44 := eq_true q44
           have HP49 := Kd.R_putg HO_6.out (a0_3 : Int) 1
           try go_wp2_with (first | ((with_reducible refine gate_store (t := 3) (p := 42) rfl ?_); refine store_event (t := 3) (p := 42) (v := ?vo_w50) (w1 := (wr.setCell ⟨go44, (a0_3 : Int).toNat, none⟩ (.int .i64 1))) ?hg ?ho ?hn ?hr ?_; (case ho => rfl); (case hg => rfl); (case hn => rfl); (case hr => first | (go_simp; done) | (go_simp; rfl)); intro w50 hw; have hg : wr.grownBy w50 (some go44) := (by rw [hw]; exact HP49.2); have hp_ : Kd.R (Kd.int .i64) 3 w50 w.heap.size (fun _ => True) (.slice (some ⟨go44, 0, none⟩) x6_2.length co44) y410 := (by rw [hw, Ny410.out]; exact HP49.1); clear HP49; have n0_ := Aside0.mk (hp_); have n1_ := Aside0.mk (blk_grown (g := gb399) (o := .cells #[.bool a0_0, .int .u64 a0_1, .int .u64 a0_2, .int .i64 a0_3] 26 (0, 0)) (St BK399.out) hg (Kd.R_ne HO_6.out BK399.out (by decide))); have n2_ := Aside0.mk (blk_grown (g := gb400) (o := .cells #[.bool false, .int .u64 0, .int .u64 0, .int .i64 0] 26 (0, 0)) (St BK400.out) hg (Kd.R_ne HO_6.out BK400.out (by decide))); have n3_ := Aside0.mk (blk_grown (g := gb401) (o := .cells #[.bool false, .int .u64 0, .int .u64 0, .int .i64 0] 26 (0, 0)) (St BK401.out) hg (Kd.R_ne HO_6.out BK401.out (by decide))); have n4_ := Aside0.mk ((by rw [hw]; exact below_set (HB.out) GB44.out : Below w.heap.size w w50)); clear HO_6; clear BK399; clear BK400; clear BK401; clear HB; have HO_6 := n0_; have BK399 := n1_; have BK400 := n2_; have BK401 := n3_; have HB := n4_; clear n0_ n1_ n2_ n3_ n4_; clear hg hw hp_))
           have n0_ := Aside0.mk (Kd.R_drew HO_6.out)
           have n1_ := Aside0.mk (blk_drew BK399.out)
           have n2_ := Aside0.mk (blk_drew BK400.out)
           have n3_ := Aside0.mk (blk_drew BK401.out)
           have n4_ := Aside0.mk (below_drew1 HB.out)
           clear HO_6
           clear BK399
           clear BK400
           clear BK401
           clear HB
           have HO_6 := n0_
           have BK399 := n1_
           have BK400 := n2_
           have BK401 := n3_
           have HB := n4_
           clear n0_ n1_ n2_ n3_ n4_
           refine start_ (n := 18) (S := fun w' => w'.cell? ⟨gb399, 0, none⟩ = some (.bool a0_0) ∧ w'.cell? ⟨gb399, 1, none⟩ = some (.int .u64 a0_1) ∧ w'.cell? ⟨gb399, 2, none⟩ = some (.int .u64 a0_2) ∧ w'.cell? ⟨gb399, 3, none⟩ = some (.int .i64 a0_3)) (ds := []) #[Z,Z,Z,Z,Z,Z,Z,Z,Z,Z,Z,Z,Z,Z,Z,Z,Z,Z] (by kernel_rfl) rfl rfl ⟨(blk_cell BK399.out 0).trans rfl, (blk_cell BK399.out 1).trans rfl, (blk_cell BK399.out 2).trans rfl, (blk_cell BK399.out 3).trans rfl⟩ (fun hHeld => ?_); refine with_tabW crosswayref04_Halves.tab10 crosswayref04_Halves.bits10 (fun HT_ HW_ => ?_)
           generalize w50.drew = w51 at HO_6 BK399 BK400 BK401 HB hHeld ⊢
           refine pure_ (i := 0) (N := some 43) (v := ?_) (a' := ?_) #[Y,Z,Z,Z,Z,Z,Z,Z,Z,Z,Z,Z,Z,Z,Z,Z,Z,Z] rfl rfl (any_of HT_.out (by kernel_rfl)) (fun _ _ _ h => h) (Or.inl ⟨by rfl, ?_⟩) ?_ ?_
           rotate_left
           ·exact Sw
           rotate_left
           ·exact Sr
           refine pure_ (i := 2) (N := some 45) (v := ?_) (a' := ?_) #[Y,Z,Y,Z,Z,Z,Z,Z,Z,Z,Z,Z,Z,Z,Z,Z,Z,Z] rfl rfl (any_of HT_.out (by kernel_rfl)) (fun _ _ _ h => h) (Or.inl ⟨by rfl, ?_⟩) ?_ ?_
           rotate_left
           ·exact Sw
           rotate_left
           ·exact Sr
           refine pure_ (i := 6) (N := some 49) (v := ?_) (a' := ?_) #[Y,Z,Y,Z,Z,Z,Y,Z,Z,Z,Z,Z,Z,Z,Z,Z,Z,Z] rfl rfl (any_of HT_.out (by kernel_rfl)) (fun _ _ _ h => h) (Or.inl ⟨by rfl, ?_⟩) ?_ ?_
           rotate_left
           ·exact Sw
           rotate_left
           ·exact Sr
           refine pure_ (i := 7) (N := some 50) (v := ?_) (a' := ?_) #[Y,Z,Y,Z,Z,Z,Y,Y,Z,Z,Z,Z,Z,Z,Z,Z,Z,Z] rfl rfl (any_of HT_.out (by kernel_rfl)) (fun _ _ _ h => h) (Or.inl ⟨by rfl, ?_⟩) ?_ ?_
           rotate_left
           ·exact Sw
           rotate_left
           ·exact Sr
           refine pure_ (i := 9) (N := some 52) (v := ?_) (a' := ?_) #[Y,Z,Y,Z,Z,Z,Y,Y,Z,Y,Z,Z,Z,Z,Z,Z,Z,Z] rfl rfl (any_of HT_.out (by kernel_rfl)) (fun _ _ _ h => h) (Or.inl ⟨by rfl, ?_⟩) ?_ ?_
           rotate_left
           ·exact Sw
           rotate_left
           ·exact Sr
           refine pure_ (i := 11) (N := some 54) (v := ?_) (a' := ?_) #[Y,Z,Y,Z,Z,Z,Y,Y,Z,Y,Z,Y,Z,Z,Z,Z,Z,Z] rfl rfl (any_of HT_.out (by kernel_rfl)) (fun _ _ _ h => h) (Or.inl ⟨by rfl, ?_⟩) ?_ ?_
           rotate_left
           ·exact Sw
           rotate_left
           ·exact Sr
           refine take_ (i := 1) (N := some 44) (v := ?_) (a' := ?_) #[Y,Y,Y,Z,Z,Z,Y,Y,Z,Y,Z,Y,Z,Z,Z,Z,Z,Z] rfl rfl (take_ofW HT_.out HW_.out (by kernel_rfl)) (fun _ _ _ h => h) (Or.inl ⟨by rfl, ?_⟩) hHeld ?_ ?_
           rotate_left
           ·rintro w' ⟨s0, s1, s2, s3⟩
            go_simp
            with_reducible rfl
           rotate_left
           ·exact Sr
           refine take_ (i := 3) (N := some 46) (v := ?_) (a' := ?_) #[Y,Y,Y,Y,Z,Z,Y,Y,Z,Y,Z,Y,Z,Z,Z,Z,Z,Z] rfl rfl (take_ofW HT_.out HW_.out (by kernel_rfl)) (fun _ _ _ h => h) (Or.inl ⟨by rfl, ?_⟩) hHeld ?_ ?_
           rotate_left
           ·rintro w' ⟨s0, s1, s2, s3⟩
            go_simp
            with_reducible rfl
           rotate_left
           ·exact Sr
           refine pure_ (i := 4) (N := some 47) (v := ?_) (a' := ?_) #[Y,Y,Y,Y,Y,Z,Y,Y,Z,Y,Z,Y,Z,Z,Z,Z,Z,Z] rfl rfl (any_of HT_.out (by kernel_rfl)) (fun _ _ _ h => h) (Or.inl ⟨by rfl, ?_⟩) ?_ ?_
           rotate_left
           ·exact Sw
           rotate_left
           ·exact Sr
           refine pure_ (i := 5) (N := some 48) (v := ?_) (a' := ?_) #[Y,Y,Y,Y,Y,Y,Y,Y,Z,Y,Z,Y,Z,Z,Z,Z,Z,Z] rfl rfl (any_of HT_.out (by kernel_rfl)) (fun _ _ _ h => h) (Or.inl ⟨by rfl, ?_⟩) ?_ ?_
           rotate_left
           ·exact Sw
           rotate_left
           ·exact Sr
           refine take_ (i := 8) (N := some 51) (v := ?_) (a' := ?_) #[Y,Y,Y,Y,Y,Y,Y,Y,Y,Y,Z,Y,Z,Z,Z,Z,Z,Z] rfl rfl (take_ofW HT_.out HW_.out (by kernel_rfl)) (fun _ _ _ h => h) (Or.inl ⟨by rfl, ?_⟩) hHeld ?_ ?_
           rotate_left
           ·rintro w' ⟨s0, s1, s2, s3⟩
            go_simp
            with_reducible rfl
           rotate_left
           ·exact Sr
           refine take_ (i := 12) (N := some 55) (v := ?_) (a' := ?_) #[Y,Y,Y,Y,Y,Y,Y,Y,Y,Y,Z,Y,Y,Z,Z,Z,Z,Z] rfl rfl (take_ofW HT_.out HW_.out (by kernel_rfl)) (fun _ _ _ h => h) (Or.inl ⟨by rfl, ?_⟩) hHeld ?_ ?_
           rotate_left
           ·rintro w' ⟨s0, s1, s2, s3⟩
            go_simp
            with_reducible rfl
           rotate_left
           ·exact Sr
           refine pure_ (i := 13) (N := some 56) (v := ?_) (a' := ?_) #[Y,Y,Y,Y,Y,Y,Y,Y,Y,Y,Z,Y,Y,Y,Z,Z,Z,Z] rfl rfl (any_of HT_.out (by kernel_rfl)) (fun _ _ _ h => h) (Or.inl ⟨by rfl, ?_⟩) ?_ ?_
           rotate_left
           ·exact Sw
           rotate_left
           ·exact Sr
           refine one_ (i := 10) (N := some 53) #[Y,Y,Y,Y,Y,Y,Y,Y,Y,Y,Y,Y,Y,Y,Z,Z,Z,Z] rfl rfl (one_of HT_.out (by kernel_rfl)) (by decide) (fun K hK => ?_)
           refine goes_ Tryd.func43 (by kernel_rfl) rfl #[.bool a0_0, .slice (some ⟨go44, 0, none⟩) y410.length co44] (by rfl) rfl rfl (by (try simp only [List.map_toArray, List.map_cons, List.map_nil]); first | done | (rw [show y410.length = x6_2.length from (Kd.R_reads' HO_6.out).1.symm] <;> rfl) | rfl | (simp only [List.length_drop, List.length_take]; rfl)) ?_
           with_reducible refine (crosswayref04_of.calls k2 a0_0 _ _ y410 t411 t412 t413 _ ?side1 ?side2 A45.out).mono ?_
           (case side1 => repeat (first | exact (Kd.R_reads' HO_6.out).2.2 | (with_reducible refine Kd.C_alloc ?_ _) | (with_reducible refine Kd.C_drewN ?_ _) | (with_reducible refine Kd.C_drew ?_)))
           (case side2 => rw [show y410.length = x6_2.length from (Kd.R_reads' HO_6.out).1.symm]; exact (Kd.R_reads' HO_6.out).2.1)
           rintro e w52 ⟨rfl, hb⟩
           refine ⟨_, rfl, ?_⟩
           have n0_ := Aside0.mk (Kd.R_below (by (with_reducible repeat (first | apply Kd.R_alloc | apply Kd.R_drewN | apply Kd.R_drew)); exact HO_6.out) hb)
           have n1_ := Aside0.mk (blk_below (g := gb399) (o := .cells #[.bool a0_0, .int .u64 a0_1, .int .u64 a0_2, .int .i64 a0_3] 26 (0, 0)) (St BK399.out) hb)
           have n2_ := Aside0.mk (blk_below (g := gb400) (o := .cells #[.bool false, .int .u64 0, .int .u64 0, .int .i64 0] 26 (0, 0)) (St BK400.out) hb)
           have n3_ := Aside0.mk (blk_below (g := gb401) (o := .cells #[.bool false, .int .u64 0, .int .u64 0, .int .i64 0] 26 (0, 0)) (St BK401.out) hb)
           have n4_ := Aside0.mk (below_step (Hb HB.out) hb)
           clear HO_6
           clear BK399
           clear BK400
           clear BK401
           clear HB
           have HO_6 := n0_
           have BK399 := n1_
           have BK400 := n2_
           have BK401 := n3_
           have HB := n4_
           clear n0_ n1_ n2_ n3_ n4_
           (try clear hb)
           (try clear hb2)
           (try clear hk)
           (try clear hi)
           refine hK.out _ _ ⟨(blk_cell BK399.out 0).trans rfl, (blk_cell BK399.out 1).trans rfl, (blk_cell BK399.out 2).trans rfl, (blk_cell BK399.out 3).trans rfl⟩ (fun hHeld => ?_)
           clear hK K
           refine norm_ (a' := ?_) ?_ ?_
           rotate_left
           ·show Act.put _ (some 53) _ = _
            refine Sp ?_
            rfl
           refine pure_ (i := 14) (N := some 57) (v := ?_) (a' := ?_) #[Y,Y,Y,Y,Y,Y,Y,Y,Y,Y,Y,Y,Y,Y,Y,Z,Z,Z] rfl rfl (any_of HT_.out (by kernel_rfl)) (fun _ _ _ h => h) (Or.inl ⟨by rfl, ?_⟩) ?_ ?_
           rotate_left
           ·exact Sw
           rotate_left
           ·exact Sr
           refine one_ (i := 15) (N := none) #[Y,Y,Y,Y,Y,Y,Y,Y,Y,Y,Y,Y,Y,Y,Y,Y,Z,Z] rfl rfl (one_of HT_.out (by kernel_rfl)) (by decide) (fun K hK => ?_)
           have hs53 : w52.cell? ⟨gb400, 0, none⟩ = some (.bool false) := (blk_cell BK400.out 0).trans rfl
           have hfs53 := blk_frozen BK400.out 0
           have hns53_0 := NB399_400.out
           have hns53_2 := NB401_400.out
           have hms53_0 := NB400_399.out
           have hms53_2 := NB400_401.out
           have hs54 : w52.cell? ⟨gb400, 1, none⟩ = some (.int .u64 0) := (blk_cell BK400.out 1).trans rfl
           have hfs54 := blk_frozen BK400.out 1
           have hns54_0 := NB399_400.out
           have hns54_2 := NB401_400.out
           have hms54_0 := NB400_399.out
           have hms54_2 := NB400_401.out
           have hs55 : w52.cell? ⟨gb400, 2, none⟩ = some (.int .u64 0) := (blk_cell BK400.out 2).trans rfl
           have hfs55 := blk_frozen BK400.out 2
           have hns55_0 := NB399_400.out
           have hns55_2 := NB401_400.out
           have hms55_0 := NB400_399.out
           have hms55_2 := NB400_401.out
           have hs56 : w52.cell? ⟨gb400, 3, none⟩ = some (.int .i64 0) := (blk_cell BK400.out 3).trans rfl
           have hfs56 := blk_frozen BK400.out 3
           have hns56_0 := NB399_400.out
           have hns56_2 := NB401_400.out
           have hms56_0 := NB400_399.out
           have hms56_2 := NB400_401.out
           refine skip_ (w1 := ?_) (by rfl) rfl ?_ ?_
           rotate_left
           ·go_simp
            rfl
           refine hK.out _ _ ⟨((cell_far (p := ⟨gb400, _, none⟩) NB399_400.out _).trans (((cell_far (p := ⟨gb400, _, none⟩) NB399_400.out _).trans (((cell_far (p := ⟨gb400, _, none⟩) NB399_400.out _).trans (((cell_far (p := ⟨gb400, _, none⟩) NB399_400.out _).trans (hHeld.1)))))))), ((cell_far (p := ⟨gb400, _, none⟩) NB399_400.out _).trans (((cell_far (p := ⟨gb400, _, none⟩) NB399_400.out _).trans (((cell_far (p := ⟨gb400, _, none⟩) NB399_400.out _).trans (((cell_far (p := ⟨gb400, _, none⟩) NB399_400.out _).trans (hHeld.2.1)))))))), ((cell_far (p := ⟨gb400, _, none⟩) NB399_400.out _).trans (((cell_far (p := ⟨gb400, _, none⟩) NB399_400.out _).trans (((cell_far (p := ⟨gb400, _, none⟩) NB399_400.out _).trans (((cell_far (p := ⟨gb400, _, none⟩) NB399_400.out _).trans (hHeld.2.2.1)))))))), ((cell_far (p := ⟨gb400, _, none⟩) NB399_400.out _).trans (((cell_far (p := ⟨gb400, _, none⟩) NB399_400.out _).trans (((cell_far (p := ⟨gb400, _, none⟩) NB399_400.out _).trans (((cell_far (p := ⟨gb400, _, none⟩) NB399_400.out _).trans (hHeld.2.2.2))))))))⟩ (fun hHeld => ?_)
           clear hK K
           refine one_ (i := 16) (N := none) #[Y,Y,Y,Y,Y,Y,Y,Y,Y,Y,Y,Y,Y,Y,Y,Y,Y,Z] rfl rfl (one_of HT_.out (by kernel_rfl)) (by decide) (fun K hK => ?_)
           have hs57 : w52.cell? ⟨gb401, 0, none⟩ = some (.bool false) := (blk_cell BK401.out 0).trans rfl
           have hfs57 := blk_frozen BK401.out 0
           have hns57_0 := NB399_401.out
           have hns57_1 := NB400_401.out
           have hms57_0 := NB401_399.out
           have hms57_1 := NB401_400.out
           have hs58 : w52.cell? ⟨gb401, 1, none⟩ = some (.int .u64 0) := (blk_cell BK401.out 1).trans rfl
           have hfs58 := blk_frozen BK401.out 1
           have hns58_0 := NB399_401.out
           have hns58_1 := NB400_401.out
           have hms58_0 := NB401_399.out
           have hms58_1 := NB401_400.out
           have hs59 : w52.cell? ⟨gb401, 2, none⟩ = some (.int .u64 0) := (blk_cell BK401.out 2).trans rfl
           have hfs59 := blk_frozen BK401.out 2
           have hns59_0 := NB399_401.out
           have hns59_1 := NB400_401.out
           have hms59_0 := NB401_399.out
           have hms59_1 := NB401_400.out
           have hs60 : w52.cell? ⟨gb401, 3, none⟩ = some (.int .i64 0) := (blk_cell BK401.out 3).trans rfl
           have hfs60 := blk_frozen BK401.out 3
           have hns60_0 := NB399_401.out
           have hns60_1 := NB400_401.out
           have hms60_0 := NB401_399.out
           have hms60_1 := NB401_400.out
           refine skip_ (w1 := ?_) (by rfl) rfl ?_ ?_
           rotate_left
           ·go_simp
            rfl
           refine hK.out _ _ ⟨((cell_far (p := ⟨gb401, _, none⟩) NB399_401.out _).trans (((cell_far (p := ⟨gb401, _, none⟩) NB399_401.out _).trans (((cell_far (p := ⟨gb401, _, none⟩) NB399_401.out _).trans (((cell_far (p := ⟨gb401, _, none⟩) NB399_401.out _).trans (hHeld.1)))))))), ((cell_far (p := ⟨gb401, _, none⟩) NB399_401.out _).trans (((cell_far (p := ⟨gb401, _, none⟩) NB399_401.out _).trans (((cell_far (p := ⟨gb401, _, none⟩) NB399_401.out _).trans (((cell_far (p := ⟨gb401, _, none⟩) NB399_401.out _).trans (hHeld.2.1)))))))), ((cell_far (p := ⟨gb401, _, none⟩) NB399_401.out _).trans (((cell_far (p := ⟨gb401, _, none⟩) NB399_401.out _).trans (((cell_far (p := ⟨gb401, _, none⟩) NB399_401.out _).trans (((cell_far (p := ⟨gb401, _, none⟩) NB399_401.out _).trans (hHeld.2.2.1)))))))), ((cell_far (p := ⟨gb401, _, none⟩) NB399_401.out _).trans (((cell_far (p := ⟨gb401, _, none⟩) NB399_401.out _).trans (((cell_far (p := ⟨gb401, _, none⟩) NB399_401.out _).trans (((cell_far (p := ⟨gb401, _, none⟩) NB399_401.out _).trans (hHeld.2.2.2))))))))⟩ (fun hHeld => ?_)
           clear hK K
           refine pure_ (i := 17) (N := some 4) (v := ?_) (a' := ?_) #[Y,Y,Y,Y,Y,Y,Y,Y,Y,Y,Y,Y,Y,Y,Y,Y,Y,Y] rfl rfl (any_of HT_.out (by kernel_rfl)) (fun _ _ _ h => h) (Or.inl ⟨by rfl, ?_⟩) ?_ ?_
           rotate_left
           ·exact Sw
           rotate_left
           ·exact Sr
           refine done_ (done_of HT_.out (by kernel_rfl)) ?_
           try go_wp2
           refine bodyPost_ret (results_list (rs := [.cell 2 26, .cell 3 26, .tmp 4]) rfl (by simp) (.cell gb400 26 #[.bool a0_0, .int .u64 a0_1, .int .u64 a0_2, .int .i64 (wrap64 (a0_3 + 1))] (0, 0) _ rfl (by refine St ?_; refine blk_far ?_ NB400_401.out _; refine St ?_; refine blk_far ?_ NB400_401.out _; refine St ?_; refine blk_far ?_ NB400_401.out _; refine St ?_; refine blk_far ?_ NB400_401.out _; refine St ?_; refine blk_put (cs := #[.bool a0_0, .int .u64 a0_1, .int .u64 a0_2, .int .i64 0]) ?_ 3 _ rfl; refine St ?_; refine blk_put (cs := #[.bool a0_0, .int .u64 a0_1, .int .u64 0, .int .i64 0]) ?_ 2 _ rfl; refine St ?_; refine blk_put (cs := #[.bool a0_0, .int .u64 0, .int .u64 0, .int .i64 0]) ?_ 1 _ rfl; refine St ?_; refine blk_put (cs := #[.bool false, .int .u64 0, .int .u64 0, .int .i64 0]) ?_ 0 _ rfl; refine St ?_; exact BK400.out) Tryd.underlying26 rfl (by kernel_rfl) (.cell gb401 26 #[.bool t411, .int .u64 t412, .int .u64 t413, .int .i64 (wrap64 (a0_3 + 1))] (0, 0) _ rfl (by refine St ?_; refine blk_put (cs := #[.bool t411, .int .u64 t412, .int .u64 t413, .int .i64 0]) ?_ 3 _ rfl; refine St ?_; refine blk_put (cs := #[.bool t411, .int .u64 t412, .int .u64 0, .int .i64 0]) ?_ 2 _ rfl; refine St ?_; refine blk_put (cs := #[.bool t411, .int .u64 0, .int .u64 0, .int .i64 0]) ?_ 1 _ rfl; refine St ?_; refine blk_put (cs := #[.bool false, .int .u64 0, .int .u64 0, .int .i64 0]) ?_ 0 _ rfl; refine St ?_; refine blk_far ?_ NB401_400.out _; refine St ?_; refine blk_far ?_ NB401_400.out _; refine St ?_; refine blk_far ?_ NB401_400.out _; refine St ?_; refine blk_far ?_ NB401_400.out _; refine St ?_; exact BK401.out) Tryd.underlying26 rfl (by kernel_rfl) (.tmp .nil)))) rfl ?_
           exact ⟨by first | rfl | (simp [errW_none, errW_some] <;> rfl) | (simp [*, errW_none, errW_some] <;> rfl), Hb HB.out⟩
          ·rw [if_neg c43] at H
           exact absurd H (by simp)
         ·rw [if_neg c42] at H
          exact absurd H (by simp)
     ·rw [if_neg c24] at H
      exact absurd H (by simp)
    ·rw [if_neg c23] at H
     exact absurd H (by simp)

end Go.Proofs.YtmhjgjdiifcdlaaDoor.P
