-- Laid by a program (wip/pr.py) out of the translation: each function as a Lean function, and the proof that the call comes to it.
import Derived.Test.YtmhjgjdiifcdlaaDoorShort
import Derived.Test.YtmhjgjdiifcdlaaDoorPBase
import Derived.Test.YtmhjgjdiifcdlaaDoorPPrefixwidth
import Derived.Test.YtmhjgjdiifcdlaaDoorPPrefixValid
namespace Go.Proofs.YtmhjgjdiifcdlaaDoor.P
open Go.RowKit Go.Proofs.YtmhjgjdiifcdlaaDoorW.PrintWords Go.Proofs.YtmhjgjdiifcdlaaDoorW.PrintLast Go.Proofs.YtmhjgjdiifcdlaaDoorW.PrintMore
attribute [local go_sem] max2_int min2_int max_two min_two max_three min_three max_four min_four   -- for this text's walks alone
set_option linter.unusedVariables false
set_option linter.unusedSimpArgs false

/-! ### prefix_Halves: function 24 -/
def prefix_Halves.j0 : Nat → Bool → Bool → Int → Int → Int → Option (Bool × Int × Int × Int × Bool × Int × Int × Int × Int)
 | 0, _, _, _, _, _ => none
 | k + 1, x17, x194000, x194001, x194002, x194003 => if x17 = true then (some (false, 0, 0, 0, false, 0, 0, 0, 1)) else (if x194000 = true then (if x194003 < 64 then (if 0 ≤ (wrap64 (63 - x194003)) then (some (x194000, x194001, x194002, wrap64 (x194003 + 1), x194000, Go.bits .or .u64 x194001 (shl .u64 1 (wrap64 (63 - x194003))), x194002, wrap64 (x194003 + 1), 0)) else (none)) else (if 0 ≤ (wrap64 (127 - x194003)) then (some (x194000, x194001, x194002, wrap64 (x194003 + 1), x194000, x194001, Go.bits .or .u64 x194002 (shl .u64 1 (wrap64 (127 - x194003))), wrap64 (x194003 + 1), 0)) else (none))) else (if 0 ≤ (wrap64 (31 - x194003)) then (some (x194000, x194001, x194002, wrap64 (x194003 + 1), x194000, x194001, Go.bits .or .u64 x194002 (shl .u64 1 (wrap64 (31 - x194003))), wrap64 (x194003 + 1), 0)) else (none)))
def prefix_Halves.f (k : Nat) (a0_0 : Bool) (a0_1 : Int) (a0_2 : Int) (a0_3 : Int) : Option (Bool × Int × Int × Int × Bool × Int × Int × Int × Int) := (prefix_Valid.f a0_0 a0_1 a0_2 a0_3).bind fun t196 => (if t196 = true then ((prefix_width.f a0_0 a0_1 a0_2).bind fun t197 => (prefix_Halves.j0 k (a0_3 == t197) a0_0 a0_1 a0_2 a0_3)) else (prefix_Halves.j0 k true a0_0 a0_1 a0_2 a0_3))
theorem prefix_Halves.mono_l : ∀ k, (∀ y0 y1 y2 y3 y4, LeO (prefix_Halves.j0 k y0 y1 y2 y3 y4) (prefix_Halves.j0 (k + 1) y0 y1 y2 y3 y4))
 | 0 => fun _ _ _ _ _ r h => by simp [prefix_Halves.j0] at h
 | k + 1 => by
  have ih0 := prefix_Halves.mono_l k
  ·intro y0 y1 y2 y3 y4
   unfold prefix_Halves.j0
   repeat' first
   | (with_reducible exact ih0 _ _ _ _ _)
   | (with_reducible exact LeO.refl _)
   | (with_reducible exact LeO.none _)
   | (with_reducible refine LeO.ite ?_ ?_)
   | (with_reducible refine LeO.bind ?_ (fun _ => ?_))
   | exact ih0 _ _ _ _ _
   | exact LeO.none _
   | refine LeO.ite ?_ ?_
   | refine LeO.bind ?_ (fun _ => ?_)
theorem prefix_Halves.mono : ∀ a0 a1 a2 a3 k, LeO (prefix_Halves.f k a0 a1 a2 a3) (prefix_Halves.f (k + 1) a0 a1 a2 a3) := by
 intro a0 a1 a2 a3 k
 have ih0 := prefix_Halves.mono_l k
 unfold prefix_Halves.f
 repeat' first
   | (with_reducible exact ih0 _ _ _ _ _)
   | (with_reducible exact LeO.refl _)
   | (with_reducible exact LeO.none _)
   | (with_reducible refine LeO.ite ?_ ?_)
   | (with_reducible refine LeO.bind ?_ (fun _ => ?_))
   | exact ih0 _ _ _ _ _
   | exact LeO.none _
   | refine LeO.ite ?_ ?_
   | refine LeO.bind ?_ (fun _ => ?_)
def prefix_Halves.T1 : Bool × List (List Nat × List Nat) := (true, [([], []), ([0], [0]), ([1], [1]), ([2, 1], [2]), ([3], [3]), ([4, 3], [3, 4]), ([3], [3]), ([6, 3], [3, 6]), ([7, 3, 3], [3, 7]), ([5, 8, 3], [3, 5, 8]), ([3, 9], [3, 9])])
def prefix_Halves.B1 : List Nat := [0, 1, 3, 7, 15, 31, 15, 79, 207, 511, 1023]
theorem prefix_Halves.tab1 : rtab .any (opsOf Tryd.f24 1) = prefix_Halves.T1 := by kernel_rfl
theorem prefix_Halves.bits1 : waitsOk prefix_Halves.T1.2 prefix_Halves.B1 = true := by kernel_rfl
def prefix_Halves.T5 : Bool × List (List Nat × List Nat) := (true, [([], []), ([0], [0]), ([1], [1]), ([], []), ([3], [3]), ([4], [4]), ([5], [5]), ([2, 6], [2, 6]), ([0, 1, 2, 3, 4, 5, 6, 7], []), ([8, 0, 1, 2, 3, 4, 5, 6, 7], [8]), ([9, 7, 0, 1, 2, 3, 4, 5, 6, 7], [7, 9])])
def prefix_Halves.B5 : List Nat := [0, 1, 3, 0, 8, 24, 56, 127, 255, 511, 1023]
theorem prefix_Halves.tab5 : rtab .any (opsOf Tryd.f24 5) = prefix_Halves.T5 := by kernel_rfl
theorem prefix_Halves.bits5 : waitsOk prefix_Halves.T5.2 prefix_Halves.B5 = true := by kernel_rfl
def prefix_Halves.T7 : Bool × List (List Nat × List Nat) := (true, [([], []), ([0], [0]), ([1], [1]), ([], []), ([3], [3]), ([4], [4]), ([5], [5]), ([2, 6], [2, 6]), ([0, 1, 2, 3, 4, 5, 6, 7], []), ([8, 0, 1, 2, 3, 4, 5, 6, 7], [8]), ([9, 7, 0, 1, 2, 3, 4, 5, 6, 7], [7, 9])])
def prefix_Halves.B7 : List Nat := [0, 1, 3, 0, 8, 24, 56, 127, 255, 511, 1023]
theorem prefix_Halves.tab7 : rtab .any (opsOf Tryd.f24 7) = prefix_Halves.T7 := by kernel_rfl
theorem prefix_Halves.bits7 : waitsOk prefix_Halves.T7.2 prefix_Halves.B7 = true := by kernel_rfl
def prefix_Halves.T9 : Bool × List (List Nat × List Nat) := (true, [([], []), ([0], [0]), ([1], [1]), ([], []), ([3], [3]), ([4], [4]), ([5], [5]), ([2, 6], [2, 6]), ([0, 1, 2, 3, 4, 5, 6, 7], []), ([8, 0, 1, 2, 3, 4, 5, 6, 7], [8]), ([9, 7, 0, 1, 2, 3, 4, 5, 6, 7], [7, 9])])
def prefix_Halves.B9 : List Nat := [0, 1, 3, 0, 8, 24, 56, 127, 255, 511, 1023]
theorem prefix_Halves.tab9 : rtab .any (opsOf Tryd.f24 9) = prefix_Halves.T9 := by kernel_rfl
theorem prefix_Halves.bits9 : waitsOk prefix_Halves.T9.2 prefix_Halves.B9 = true := by kernel_rfl
set_option maxHeartbeats 8000000 in
set_option maxRecDepth 100000 in
theorem prefix_Halves.calls (k : Nat) (a0_0 : Bool) (a0_1 : Int) (a0_2 : Int) (a0_3 : Int) (r1 : Bool) (r2 : Int) (r3 : Int) (r4 : Int) (r5 : Bool) (r6 : Int) (r7 : Int) (r8 : Int) (r9 : Int) (w : World) (h : prefix_Halves.f k a0_0 a0_1 a0_2 a0_3 = some (r1, r2, r3, r4, r5, r6, r7, r8, r9)) :
  Calls Tryd.prog 24 #[.agg #[.bool a0_0, .int .u64 a0_1, .int .u64 a0_2, .int .i64 a0_3]] w fun e w' => e = .returned (.tuple #[.agg #[.bool r1, .int .u64 r2, .int .u64 r3, .int .i64 r4], .agg #[.bool r5, .int .u64 r6, .int .u64 r7, .int .i64 r8], .int .i64 r9]) ∧ Below w.heap.size w w' := by
 have hu26 := Tryd.underlying26
 have hu24 := Tryd.underlying24
 have HB := Aside0.mk (Below.refl w.heap.size w)
 have H : ((prefix_Valid.f a0_0 a0_1 a0_2 a0_3).bind fun t196 => (if t196 = true then ((prefix_width.f a0_0 a0_1 a0_2).bind fun t197 => (prefix_Halves.j0 k (a0_3 == t197) a0_0 a0_1 a0_2 a0_3)) else (prefix_Halves.j0 k true a0_0 a0_1 a0_2 a0_3))) = some (r1, r2, r3, r4, r5, r6, r7, r8, r9) := h
 clear h
 have HC2 := Aside0.mk H
 clear H
 go_enter Tryd.func24, Tryd.ntmps24
 go_upto_region 1 with (first | ((with_reducible refine gate_dst (N := 1) rfl ?_); refine box_event ?hg (N := 1) ?hd (cs := #[.bool a0_0, .int .u64 a0_1, .int .u64 a0_2, .int .i64 a0_3]) (t := 26) ?hr ?_; (case hd => rfl); (case hg => rfl); (case hr => first | (go_simp; done) | (go_simp; rfl)); intro gb193 hg w3 hbox hb; have n0_ := Aside0.mk (below_step (Hb HB.out) hb); have n1_ := Aside0.mk (hbox); have n2_ := Aside0.mk ((by rw [hg]; exact (below_size (Hb HB.out)) : w.heap.size ≤ gb193)); have n3_ := Aside0.mk ((by rw [hg]; exact (below_size (Hb HB.out)) : w.heap.size ≤ gb193)); clear HB; have HB := n0_; have BK193 := n1_; have GW193 := n2_; have GE193 := n3_; clear n0_ n1_ n2_ n3_; clear hb hbox hg) | ((with_reducible refine gate_dst (N := 2) rfl ?_); refine box_event ?hg (N := 2) ?hd (cs := #[.bool false, .int .u64 0, .int .u64 0, .int .i64 0]) (t := 26) ?hr ?_; (case hd => rfl); (case hg => rfl); (case hr => first | (go_simp; done) | (go_simp; rfl)); intro gb194 hg w4 hbox hb; have n0_ := Aside0.mk (blk_below (g := gb193) (o := .cells #[.bool a0_0, .int .u64 a0_1, .int .u64 a0_2, .int .i64 a0_3] 26 (0, 0)) (St BK193.out) hb); have n1_ := Aside0.mk (below_step (Hb HB.out) hb); have n2_ := Aside0.mk (hbox); have n3_ := Aside0.mk ((by rw [hg]; exact (below_size (Hb HB.out)) : w.heap.size ≤ gb194)); have n4_ := Aside0.mk ((by rw [hg]; exact (below_size (Hb HB.out)) : w.heap.size ≤ gb194)); have n5_ := Aside0.mk ((by rw [hg]; exact Nat.ne_of_lt (blk_lt (g := gb193) (o := .cells #[.bool a0_0, .int .u64 a0_1, .int .u64 a0_2, .int .i64 a0_3] 26 (0, 0)) (St BK193.out)) : gb193 ≠ gb194)); have n6_ := Aside0.mk ((by rw [hg]; exact Nat.ne_of_gt (blk_lt (g := gb193) (o := .cells #[.bool a0_0, .int .u64 a0_1, .int .u64 a0_2, .int .i64 a0_3] 26 (0, 0)) (St BK193.out)) : gb194 ≠ gb193)); clear BK193; clear HB; have BK193 := n0_; have HB := n1_; have BK194 := n2_; have GW194 := n3_; have GE194 := n4_; have NB193_194 := n5_; have NB194_193 := n6_; clear n0_ n1_ n2_ n3_ n4_ n5_ n6_; clear hb hbox hg) | ((with_reducible refine gate_dst (N := 3) rfl ?_); refine box_event ?hg (N := 3) ?hd (cs := #[.bool false, .int .u64 0, .int .u64 0, .int .i64 0]) (t := 26) ?hr ?_; (case hd => rfl); (case hg => rfl); (case hr => first | (go_simp; done) | (go_simp; rfl)); intro gb195 hg w5 hbox hb; have n0_ := Aside0.mk (blk_below (g := gb193) (o := .cells #[.bool a0_0, .int .u64 a0_1, .int .u64 a0_2, .int .i64 a0_3] 26 (0, 0)) (St BK193.out) hb); have n1_ := Aside0.mk (blk_below (g := gb194) (o := .cells #[.bool false, .int .u64 0, .int .u64 0, .int .i64 0] 26 (0, 0)) (St BK194.out) hb); have n2_ := Aside0.mk (below_step (Hb HB.out) hb); have n3_ := Aside0.mk (hbox); have n4_ := Aside0.mk ((by rw [hg]; exact (below_size (Hb HB.out)) : w.heap.size ≤ gb195)); have n5_ := Aside0.mk ((by rw [hg]; exact (below_size (Hb HB.out)) : w.heap.size ≤ gb195)); have n6_ := Aside0.mk ((by rw [hg]; exact Nat.ne_of_lt (blk_lt (g := gb193) (o := .cells #[.bool a0_0, .int .u64 a0_1, .int .u64 a0_2, .int .i64 a0_3] 26 (0, 0)) (St BK193.out)) : gb193 ≠ gb195)); have n7_ := Aside0.mk ((by rw [hg]; exact Nat.ne_of_gt (blk_lt (g := gb193) (o := .cells #[.bool a0_0, .int .u64 a0_1, .int .u64 a0_2, .int .i64 a0_3] 26 (0, 0)) (St BK193.out)) : gb195 ≠ gb193)); have n8_ := Aside0.mk ((by rw [hg]; exact Nat.ne_of_lt (blk_lt (g := gb194) (o := .cells #[.bool false, .int .u64 0, .int .u64 0, .int .i64 0] 26 (0, 0)) (St BK194.out)) : gb194 ≠ gb195)); have n9_ := Aside0.mk ((by rw [hg]; exact Nat.ne_of_gt (blk_lt (g := gb194) (o := .cells #[.bool false, .int .u64 0, .int .u64 0, .int .i64 0] 26 (0, 0)) (St BK194.out)) : gb195 ≠ gb194)); clear BK193; clear BK194; clear HB; have BK193 := n0_; have BK194 := n1_; have HB := n2_; have BK195 := n3_; have GW195 := n4_; have GE195 := n5_; have NB193_195 := n6_; have NB195_193 := n7_; have NB194_195 := n8_; have NB195_194 := n9_; clear n0_ n1_ n2_ n3_ n4_ n5_ n6_ n7_ n8_ n9_; clear hb hbox hg))
 (try simp only [Act.put, List.setIfInBounds_toArray, List.set_cons_zero, List.set_cons_succ])
 go_cut [17] (fun v17 wc => ∃ (kq : Nat) (x17_1 : Bool), v17 = .bool x17_1 ∧ Aside0 (prefix_Halves.j0 kq x17_1 a0_0 a0_1 a0_2 a0_3 = some (r1, r2, r3, r4, r5, r6, r7, r8, r9)) ∧ Aside0 (kq ≤ k) ∧ Aside0 (wc.heap[gb193]? = some (.cells #[.bool a0_0, .int .u64 a0_1, .int .u64 a0_2, .int .i64 a0_3] 26 (0, 0))) ∧ Aside0 (wc.heap[gb194]? = some (.cells #[.bool false, .int .u64 0, .int .u64 0, .int .i64 0] 26 (0, 0))) ∧ Aside0 (wc.heap[gb195]? = some (.cells #[.bool false, .int .u64 0, .int .u64 0, .int .i64 0] 26 (0, 0))) ∧ Aside0 (Below w.heap.size w wc))
 case first =>
  have H := HC2.out
  clear HC2
  replace H := Option.bind_eq_some_iff.mp H
  obtain ⟨t196, A60, H⟩ := H
  replace H : (if t196 = true then ((prefix_width.f a0_0 a0_1 a0_2).bind fun t197 => (prefix_Halves.j0 k (a0_3 == t197) a0_0 a0_1 a0_2 a0_3)) else (prefix_Halves.j0 k true a0_0 a0_1 a0_2 a0_3)) = some (r1, r2, r3, r4, r5, r6, r7, r8, r9) := H
  have A6 := Aside0.mk A60
  clear A60
  by_cases c7 : t196 = true
  ·subst c7
   have H1 : ((prefix_width.f a0_0 a0_1 a0_2).bind fun t197 => (prefix_Halves.j0 k (a0_3 == t197) a0_0 a0_1 a0_2 a0_3)) = some (r1, r2, r3, r4, r5, r6, r7, r8, r9) := by rw [if_pos rfl] at H; exact H
   clear H
   have H := H1
   clear H1
   replace H := Option.bind_eq_some_iff.mp H
   obtain ⟨t197, A80, H⟩ := H
   replace H : (prefix_Halves.j0 k (a0_3 == t197) a0_0 a0_1 a0_2 a0_3) = some (r1, r2, r3, r4, r5, r6, r7, r8, r9) := H
   have A8 := Aside0.mk A80
   clear A80
   have H' := Aside0.mk H
   clear H
   try go_wp2
   have n0_ := Aside0.mk (blk_drew BK193.out)
   have n1_ := Aside0.mk (blk_drew BK194.out)
   have n2_ := Aside0.mk (blk_drew BK195.out)
   have n3_ := Aside0.mk (below_drew1 HB.out)
   clear BK193
   clear BK194
   clear BK195
   clear HB
   have BK193 := n0_
   have BK194 := n1_
   have BK195 := n2_
   have HB := n3_
   clear n0_ n1_ n2_ n3_
   refine start_ (n := 11) (S := fun w' => w'.cell? ⟨gb193, 0, none⟩ = some (.bool a0_0) ∧ w'.cell? ⟨gb193, 1, none⟩ = some (.int .u64 a0_1) ∧ w'.cell? ⟨gb193, 2, none⟩ = some (.int .u64 a0_2) ∧ w'.cell? ⟨gb193, 3, none⟩ = some (.int .i64 a0_3)) (ds := []) #[Z,Z,Z,Z,Z,Z,Z,Z,Z,Z,Z] (by kernel_rfl) rfl rfl ⟨(blk_cell BK193.out 0).trans rfl, (blk_cell BK193.out 1).trans rfl, (blk_cell BK193.out 2).trans rfl, (blk_cell BK193.out 3).trans rfl⟩ (fun hHeld => ?_); refine with_tabW prefix_Halves.tab1 prefix_Halves.bits1 (fun HT_ HW_ => ?_)
   generalize w5.drew = w9 at BK193 BK194 BK195 HB hHeld ⊢
   refine take_ (i := 0) (N := some 7) (v := ?_) (a' := ?_) #[Y,Z,Z,Z,Z,Z,Z,Z,Z,Z,Z] rfl rfl (take_ofW HT_.out HW_.out (by kernel_rfl)) (fun _ _ _ h => h) (Or.inl ⟨by rfl, ?_⟩) hHeld ?_ ?_
   rotate_left
   ·rintro w' ⟨s0, s1, s2, s3⟩
    go_simp
    with_reducible rfl
   rotate_left
   ·exact Sr
   refine one_ (i := 1) (N := some 8) #[Y,Y,Z,Z,Z,Z,Z,Z,Z,Z,Z] rfl rfl (one_of HT_.out (by kernel_rfl)) (by decide) (fun K hK => ?_)
   refine goes_ Tryd.func14 (by kernel_rfl) rfl #[.agg #[.bool a0_0, .int .u64 a0_1, .int .u64 a0_2, .int .i64 a0_3]] (by rfl) rfl rfl Ma ?_
   with_reducible refine (prefix_Valid.calls a0_0 a0_1 a0_2 a0_3 true _ A6.out).mono ?_
   rintro e w10 ⟨rfl, hb⟩
   refine ⟨_, rfl, ?_⟩
   have n0_ := Aside0.mk (blk_below (g := gb193) (o := .cells #[.bool a0_0, .int .u64 a0_1, .int .u64 a0_2, .int .i64 a0_3] 26 (0, 0)) (St BK193.out) hb)
   have n1_ := Aside0.mk (blk_below (g := gb194) (o := .cells #[.bool false, .int .u64 0, .int .u64 0, .int .i64 0] 26 (0, 0)) (St BK194.out) hb)
   have n2_ := Aside0.mk (blk_below (g := gb195) (o := .cells #[.bool false, .int .u64 0, .int .u64 0, .int .i64 0] 26 (0, 0)) (St BK195.out) hb)
   have n3_ := Aside0.mk (below_step (Hb HB.out) hb)
   clear BK193
   clear BK194
   clear BK195
   clear HB
   have BK193 := n0_
   have BK194 := n1_
   have BK195 := n2_
   have HB := n3_
   clear n0_ n1_ n2_ n3_
   (try clear hb)
   (try clear hb2)
   (try clear hk)
   (try clear hi)
   refine hK.out _ _ ⟨(blk_cell BK193.out 0).trans rfl, (blk_cell BK193.out 1).trans rfl, (blk_cell BK193.out 2).trans rfl, (blk_cell BK193.out 3).trans rfl⟩ (fun hHeld => ?_)
   clear hK K
   refine norm_ (a' := ?_) ?_ ?_
   rotate_left
   ·show Act.put _ (some 8) _ = _
    refine Sp ?_
    rfl
   refine pure_ (i := 2) (N := some 9) (v := ?_) (a' := ?_) #[Y,Y,Y,Z,Z,Z,Z,Z,Z,Z,Z] rfl rfl (any_of HT_.out (by kernel_rfl)) (fun _ _ _ h => h) (Or.inl ⟨by rfl, ?_⟩) ?_ ?_
   rotate_left
   ·exact Sw
   rotate_left
   ·exact Sr
   refine pure_ (i := 3) (N := some 10) (v := ?_) (a' := ?_) #[Y,Y,Y,Y,Z,Z,Z,Z,Z,Z,Z] rfl rfl (any_of HT_.out (by kernel_rfl)) (fun _ _ _ h => h) (Or.inl ⟨by rfl, ?_⟩) ?_ ?_
   rotate_left
   ·exact Sw
   rotate_left
   ·exact Sr
   refine pure_ (i := 4) (N := some 11) (v := ?_) (a' := ?_) #[Y,Y,Y,Y,Y,Z,Z,Z,Z,Z,Z] rfl rfl (any_of HT_.out (by kernel_rfl)) (fun _ _ _ h => h) (Or.inl ⟨by rfl, ?_⟩) ?_ ?_
   rotate_left
   ·exact Sw
   rotate_left
   ·exact Sr
   refine pure_ (i := 6) (N := some 13) (v := ?_) (a' := ?_) #[Y,Y,Y,Y,Y,Z,Y,Z,Z,Z,Z] rfl rfl (any_of HT_.out (by kernel_rfl)) (fun _ _ _ h => h) (Or.inl ⟨by rfl, ?_⟩) ?_ ?_
   rotate_left
   ·exact Sw
   rotate_left
   ·exact Sr
   refine take_ (i := 5) (N := some 12) (v := ?_) (a' := ?_) #[Y,Y,Y,Y,Y,Y,Y,Z,Z,Z,Z] rfl rfl (take_ofW HT_.out HW_.out (by kernel_rfl)) (fun _ _ _ h => h) (Or.inl ⟨by rfl, ?_⟩) hHeld ?_ ?_
   rotate_left
   ·rintro w' ⟨s0, s1, s2, s3⟩
    go_simp
    with_reducible rfl
   rotate_left
   ·exact Sr
   refine take_ (i := 7) (N := some 14) (v := ?_) (a' := ?_) #[Y,Y,Y,Y,Y,Y,Y,Y,Z,Z,Z] rfl rfl (take_ofW HT_.out HW_.out (by kernel_rfl)) (fun _ _ _ h => h) (Or.inl ⟨by rfl, ?_⟩) hHeld ?_ ?_
   rotate_left
   ·rintro w' ⟨s0, s1, s2, s3⟩
    go_simp
    with_reducible rfl
   rotate_left
   ·exact Sr
   refine one_ (i := 8) (N := some 15) #[Y,Y,Y,Y,Y,Y,Y,Y,Y,Z,Z] rfl rfl (one_of HT_.out (by kernel_rfl)) (by decide) (fun K hK => ?_)
   refine goes_ Tryd.func30 (by kernel_rfl) rfl #[.agg #[.bool a0_0, .int .u64 a0_1, .int .u64 a0_2]] (by rfl) rfl rfl Ma ?_
   with_reducible refine (prefix_width.calls a0_0 a0_1 a0_2 t197 _ A8.out).mono ?_
   rintro e w11 ⟨rfl, hb⟩
   refine ⟨_, rfl, ?_⟩
   have n0_ := Aside0.mk (blk_below (g := gb193) (o := .cells #[.bool a0_0, .int .u64 a0_1, .int .u64 a0_2, .int .i64 a0_3] 26 (0, 0)) (St BK193.out) hb)
   have n1_ := Aside0.mk (blk_below (g := gb194) (o := .cells #[.bool false, .int .u64 0, .int .u64 0, .int .i64 0] 26 (0, 0)) (St BK194.out) hb)
   have n2_ := Aside0.mk (blk_below (g := gb195) (o := .cells #[.bool false, .int .u64 0, .int .u64 0, .int .i64 0] 26 (0, 0)) (St BK195.out) hb)
   have n3_ := Aside0.mk (below_step (Hb HB.out) hb)
   clear BK193
   clear BK194
   clear BK195
   clear HB
   have BK193 := n0_
   have BK194 := n1_
   have BK195 := n2_
   have HB := n3_
   clear n0_ n1_ n2_ n3_
   (try clear hb)
   (try clear hb2)
   (try clear hk)
   (try clear hi)
   refine hK.out _ _ ⟨(blk_cell BK193.out 0).trans rfl, (blk_cell BK193.out 1).trans rfl, (blk_cell BK193.out 2).trans rfl, (blk_cell BK193.out 3).trans rfl⟩ (fun hHeld => ?_)
   clear hK K
   refine norm_ (a' := ?_) ?_ ?_
   rotate_left
   ·show Act.put _ (some 15) _ = _
    refine Sp ?_
    rfl
   refine pure_ (i := 9) (N := some 16) (v := ?_) (a' := ?_) #[Y,Y,Y,Y,Y,Y,Y,Y,Y,Y,Z] rfl rfl (any_of HT_.out (by kernel_rfl)) (fun _ _ _ h => h) (Or.inl ⟨by rfl, ?_⟩) ?_ ?_
   rotate_left
   ·exact Sw
   rotate_left
   ·exact Sr
   refine pure_ (i := 10) (N := some 17) (v := ?_) (a' := ?_) #[Y,Y,Y,Y,Y,Y,Y,Y,Y,Y,Y] rfl rfl (any_of HT_.out (by kernel_rfl)) (fun _ _ _ h => h) (Or.inl ⟨by rfl, ?_⟩) ?_ ?_
   rotate_left
   ·exact Sw
   rotate_left
   ·exact Sr
   refine done_ (done_of HT_.out (by kernel_rfl)) ?_
   try go_wp2
   go_meet
   case rel => exact ⟨_, ((a0_3 == t197)), (by first | rfl | (simp; done) | (simp [*]; done)), H', ⟨by first | omega | exact Nat.le_refl _⟩, ⟨St BK193.out⟩, ⟨St BK194.out⟩, ⟨St BK195.out⟩, ⟨Hb HB.out⟩⟩
  ·replace c7 := Bool.eq_false_iff.mpr c7
   subst c7
   have H1 : (prefix_Halves.j0 k true a0_0 a0_1 a0_2 a0_3) = some (r1, r2, r3, r4, r5, r6, r7, r8, r9) := by rw [if_neg (show ¬ (false = true) by decide)] at H; exact H
   clear H
   have H := H1
   clear H1
   have H' := Aside0.mk H
   clear H
   try go_wp2
   have n0_ := Aside0.mk (blk_drew BK193.out)
   have n1_ := Aside0.mk (blk_drew BK194.out)
   have n2_ := Aside0.mk (blk_drew BK195.out)
   have n3_ := Aside0.mk (below_drew1 HB.out)
   clear BK193
   clear BK194
   clear BK195
   clear HB
   have BK193 := n0_
   have BK194 := n1_
   have BK195 := n2_
   have HB := n3_
   clear n0_ n1_ n2_ n3_
   refine start_ (n := 11) (S := fun w' => w'.cell? ⟨gb193, 0, none⟩ = some (.bool a0_0) ∧ w'.cell? ⟨gb193, 1, none⟩ = some (.int .u64 a0_1) ∧ w'.cell? ⟨gb193, 2, none⟩ = some (.int .u64 a0_2) ∧ w'.cell? ⟨gb193, 3, none⟩ = some (.int .i64 a0_3)) (ds := []) #[Z,Z,Z,Z,Z,Z,Z,Z,Z,Z,Z] (by kernel_rfl) rfl rfl ⟨(blk_cell BK193.out 0).trans rfl, (blk_cell BK193.out 1).trans rfl, (blk_cell BK193.out 2).trans rfl, (blk_cell BK193.out 3).trans rfl⟩ (fun hHeld => ?_); refine with_tabW prefix_Halves.tab1 prefix_Halves.bits1 (fun HT_ HW_ => ?_)
   generalize w5.drew = w12 at BK193 BK194 BK195 HB hHeld ⊢
   refine take_ (i := 0) (N := some 7) (v := ?_) (a' := ?_) #[Y,Z,Z,Z,Z,Z,Z,Z,Z,Z,Z] rfl rfl (take_ofW HT_.out HW_.out (by kernel_rfl)) (fun _ _ _ h => h) (Or.inl ⟨by rfl, ?_⟩) hHeld ?_ ?_
   rotate_left
   ·rintro w' ⟨s0, s1, s2, s3⟩
    go_simp
    with_reducible rfl
   rotate_left
   ·exact Sr
   refine one_ (i := 1) (N := some 8) #[Y,Y,Z,Z,Z,Z,Z,Z,Z,Z,Z] rfl rfl (one_of HT_.out (by kernel_rfl)) (by decide) (fun K hK => ?_)
   refine goes_ Tryd.func14 (by kernel_rfl) rfl #[.agg #[.bool a0_0, .int .u64 a0_1, .int .u64 a0_2, .int .i64 a0_3]] (by rfl) rfl rfl Ma ?_
   with_reducible refine (prefix_Valid.calls a0_0 a0_1 a0_2 a0_3 false _ A6.out).mono ?_
   rintro e w13 ⟨rfl, hb⟩
   refine ⟨_, rfl, ?_⟩
   have n0_ := Aside0.mk (blk_below (g := gb193) (o := .cells #[.bool a0_0, .int .u64 a0_1, .int .u64 a0_2, .int .i64 a0_3] 26 (0, 0)) (St BK193.out) hb)
   have n1_ := Aside0.mk (blk_below (g := gb194) (o := .cells #[.bool false, .int .u64 0, .int .u64 0, .int .i64 0] 26 (0, 0)) (St BK194.out) hb)
   have n2_ := Aside0.mk (blk_below (g := gb195) (o := .cells #[.bool false, .int .u64 0, .int .u64 0, .int .i64 0] 26 (0, 0)) (St BK195.out) hb)
   have n3_ := Aside0.mk (below_step (Hb HB.out) hb)
   clear BK193
   clear BK194
   clear BK195
   clear HB
   have BK193 := n0_
   have BK194 := n1_
   have BK195 := n2_
   have HB := n3_
   clear n0_ n1_ n2_ n3_
   (try clear hb)
   (try clear hb2)
   (try clear hk)
   (try clear hi)
   refine hK.out _ _ ⟨(blk_cell BK193.out 0).trans rfl, (blk_cell BK193.out 1).trans rfl, (blk_cell BK193.out 2).trans rfl, (blk_cell BK193.out 3).trans rfl⟩ (fun hHeld => ?_)
   clear hK K
   refine norm_ (a' := ?_) ?_ ?_
   rotate_left
   ·show Act.put _ (some 8) _ = _
    refine Sp ?_
    rfl
   refine pure_ (i := 2) (N := some 9) (v := ?_) (a' := ?_) #[Y,Y,Y,Z,Z,Z,Z,Z,Z,Z,Z] rfl rfl (any_of HT_.out (by kernel_rfl)) (fun _ _ _ h => h) (Or.inl ⟨by rfl, ?_⟩) ?_ ?_
   rotate_left
   ·exact Sw
   rotate_left
   ·exact Sr
   refine pure_ (i := 3) (N := some 10) (v := ?_) (a' := ?_) #[Y,Y,Y,Y,Z,Z,Z,Z,Z,Z,Z] rfl rfl (any_of HT_.out (by kernel_rfl)) (fun _ _ _ h => h) (Or.inl ⟨by rfl, ?_⟩) ?_ ?_
   rotate_left
   ·exact Sw
   rotate_left
   ·exact Sr
   refine pure_ (i := 4) (N := some 11) (v := undef) (a' := ?_) #[Y,Y,Y,Y,Y,Z,Z,Z,Z,Z,Z] rfl rfl (any_of HT_.out (by kernel_rfl)) (fun _ _ _ h => h) (Or.inr ⟨by rfl, rfl⟩) ?_ ?_
   rotate_left
   ·exact Sr
   refine pure_ (i := 5) (N := some 12) (v := undef) (a' := ?_) #[Y,Y,Y,Y,Y,Y,Z,Z,Z,Z,Z] rfl rfl (any_of HT_.out (by kernel_rfl)) (fun _ _ _ h => h) (Or.inr ⟨by rfl, rfl⟩) ?_ ?_
   rotate_left
   ·exact Sr
   refine pure_ (i := 6) (N := some 13) (v := undef) (a' := ?_) #[Y,Y,Y,Y,Y,Y,Y,Z,Z,Z,Z] rfl rfl (any_of HT_.out (by kernel_rfl)) (fun _ _ _ h => h) (Or.inr ⟨by rfl, rfl⟩) ?_ ?_
   rotate_left
   ·exact Sr
   refine pure_ (i := 7) (N := some 14) (v := undef) (a' := ?_) #[Y,Y,Y,Y,Y,Y,Y,Y,Z,Z,Z] rfl rfl (any_of HT_.out (by kernel_rfl)) (fun _ _ _ h => h) (Or.inr ⟨by rfl, rfl⟩) ?_ ?_
   rotate_left
   ·exact Sr
   refine pure_ (i := 8) (N := some 15) (v := undef) (a' := ?_) #[Y,Y,Y,Y,Y,Y,Y,Y,Y,Z,Z] rfl rfl (any_of HT_.out (by kernel_rfl)) (fun _ _ _ h => h) (Or.inr ⟨by rfl, rfl⟩) ?_ ?_
   rotate_left
   ·exact Sr
   refine pure_ (i := 9) (N := some 16) (v := undef) (a' := ?_) #[Y,Y,Y,Y,Y,Y,Y,Y,Y,Y,Z] rfl rfl (any_of HT_.out (by kernel_rfl)) (fun _ _ _ h => h) (Or.inr ⟨by rfl, rfl⟩) ?_ ?_
   rotate_left
   ·exact Sr
   refine pure_ (i := 10) (N := some 17) (v := ?_) (a' := ?_) #[Y,Y,Y,Y,Y,Y,Y,Y,Y,Y,Y] rfl rfl (any_of HT_.out (by kernel_rfl)) (fun _ _ _ h => h) (Or.inl ⟨by rfl, ?_⟩) ?_ ?_
   rotate_left
   ·exact Sw
   rotate_left
   ·exact Sr
   refine done_ (done_of HT_.out (by kernel_rfl)) ?_
   try go_wp2
   go_meet
   case rel => exact ⟨_, (true), (by first | rfl | (simp; done) | (simp [*]; done)), H', ⟨by first | omega | exact Nat.le_refl _⟩, ⟨St BK193.out⟩, ⟨St BK194.out⟩, ⟨St BK195.out⟩, ⟨Hb HB.out⟩⟩
 case rest =>
  clear HC2
  try clear c1
  try clear c2
  try clear p2
  try clear c3
  try clear c7
  obtain ⟨kq, x17_1, rfl, HA, HJ1, BK193, BK194, BK195, HB⟩ := hcut
  cases kq with
  | zero => exact absurd HA.out (by simp [prefix_Halves.j0])
  | succ kj1 =>
   have H := HA.out
   clear HA
   simp only [prefix_Halves.j0] at H
   by_cases c14 : x17_1 = true
   ·subst c14
    have H1 : (some (false, 0, 0, 0, false, 0, 0, 0, 1)) = some (r1, r2, r3, r4, r5, r6, r7, r8, r9) := by rw [if_pos rfl] at H; exact H
    clear H
    have H := H1
    clear H1
    simp only [Option.some.injEq, Prod.mk.injEq] at H
    obtain ⟨rfl, rfl, rfl, rfl, rfl, rfl, rfl, rfl, rfl⟩ := H
    have hnb15 := NB194_193.out
    have hnc15 := NB193_194.out
    have hnb16 := NB194_195.out
    have hnc16 := NB195_194.out
    have hcz17_0 : wc.cell? ⟨gb194, 0, none⟩ = some (.bool false) := (blk_cell BK194.out 0).trans rfl
    have hcz17_1 : wc.cell? ⟨gb194, 1, none⟩ = some (.int .u64 0) := (blk_cell BK194.out 1).trans rfl
    have hcz17_2 : wc.cell? ⟨gb194, 2, none⟩ = some (.int .u64 0) := (blk_cell BK194.out 2).trans rfl
    have hcz17_3 : wc.cell? ⟨gb194, 3, none⟩ = some (.int .i64 0) := (blk_cell BK194.out 3).trans rfl
    have hfz17_0 := blk_frozen BK194.out 0
    have hfz17_1 := blk_frozen BK194.out 1
    have hfz17_2 := blk_frozen BK194.out 2
    have hfz17_3 := blk_frozen BK194.out 3
    have hnb18 := NB195_193.out
    have hnc18 := NB193_195.out
    have hcz19_0 : wc.cell? ⟨gb195, 0, none⟩ = some (.bool false) := (blk_cell BK195.out 0).trans rfl
    have hcz19_1 : wc.cell? ⟨gb195, 1, none⟩ = some (.int .u64 0) := (blk_cell BK195.out 1).trans rfl
    have hcz19_2 : wc.cell? ⟨gb195, 2, none⟩ = some (.int .u64 0) := (blk_cell BK195.out 2).trans rfl
    have hcz19_3 : wc.cell? ⟨gb195, 3, none⟩ = some (.int .i64 0) := (blk_cell BK195.out 3).trans rfl
    have hfz19_0 := blk_frozen BK195.out 0
    have hfz19_1 := blk_frozen BK195.out 1
    have hfz19_2 := blk_frozen BK195.out 2
    have hfz19_3 := blk_frozen BK195.out 3
    go_wp2
    refine bodyPost_ret (results_list (rs := [.cell 2 26, .cell 3 26, .tmp 4]) rfl (by simp) (.cell gb194 26 #[.bool false, .int .u64 0, .int .u64 0, .int .i64 0] (0, 0) _ rfl (by refine St ?_; refine blk_far ?_ NB194_195.out _; refine St ?_; refine blk_far ?_ NB194_195.out _; refine St ?_; refine blk_far ?_ NB194_195.out _; refine St ?_; refine blk_far ?_ NB194_195.out _; refine St ?_; refine blk_put (cs := #[.bool false, .int .u64 0, .int .u64 0, .int .i64 0]) ?_ 3 _ rfl; refine St ?_; refine blk_put (cs := #[.bool false, .int .u64 0, .int .u64 0, .int .i64 0]) ?_ 2 _ rfl; refine St ?_; refine blk_put (cs := #[.bool false, .int .u64 0, .int .u64 0, .int .i64 0]) ?_ 1 _ rfl; refine St ?_; refine blk_put (cs := #[.bool false, .int .u64 0, .int .u64 0, .int .i64 0]) ?_ 0 _ rfl; refine St ?_; exact BK194.out) Tryd.underlying26 rfl (by kernel_rfl) (.cell gb195 26 #[.bool false, .int .u64 0, .int .u64 0, .int .i64 0] (0, 0) _ rfl (by refine St ?_; refine blk_put (cs := #[.bool false, .int .u64 0, .int .u64 0, .int .i64 0]) ?_ 3 _ rfl; refine St ?_; refine blk_put (cs := #[.bool false, .int .u64 0, .int .u64 0, .int .i64 0]) ?_ 2 _ rfl; refine St ?_; refine blk_put (cs := #[.bool false, .int .u64 0, .int .u64 0, .int .i64 0]) ?_ 1 _ rfl; refine St ?_; refine blk_put (cs := #[.bool false, .int .u64 0, .int .u64 0, .int .i64 0]) ?_ 0 _ rfl; refine St ?_; refine blk_far ?_ NB195_194.out _; refine St ?_; refine blk_far ?_ NB195_194.out _; refine St ?_; refine blk_far ?_ NB195_194.out _; refine St ?_; refine blk_far ?_ NB195_194.out _; refine St ?_; exact BK195.out) Tryd.underlying26 rfl (by kernel_rfl) (.tmp .nil)))) rfl ?_
    exact ⟨by first | rfl | (simp [errW_none, errW_some] <;> rfl) | (simp [*, errW_none, errW_some] <;> rfl), Hb HB.out⟩
   ·replace c14 := Bool.eq_false_iff.mpr c14
    subst c14
    have H1 : (if a0_0 = true then (if a0_3 < 64 then (if 0 ≤ (wrap64 (63 - a0_3)) then (some (a0_0, a0_1, a0_2, wrap64 (a0_3 + 1), a0_0, Go.bits .or .u64 a0_1 (shl .u64 1 (wrap64 (63 - a0_3))), a0_2, wrap64 (a0_3 + 1), 0)) else (none)) else (if 0 ≤ (wrap64 (127 - a0_3)) then (some (a0_0, a0_1, a0_2, wrap64 (a0_3 + 1), a0_0, a0_1, Go.bits .or .u64 a0_2 (shl .u64 1 (wrap64 (127 - a0_3))), wrap64 (a0_3 + 1), 0)) else (none))) else (if 0 ≤ (wrap64 (31 - a0_3)) then (some (a0_0, a0_1, a0_2, wrap64 (a0_3 + 1), a0_0, a0_1, Go.bits .or .u64 a0_2 (shl .u64 1 (wrap64 (31 - a0_3))), wrap64 (a0_3 + 1), 0)) else (none))) = some (r1, r2, r3, r4, r5, r6, r7, r8, r9) := by rw [if_neg (show ¬ (false = true) by decide)] at H; exact H
    clear H
    have H := H1
    clear H1
    by_cases c20 : a0_0 = true
    ·subst c20
     have H1 : (if a0_3 < 64 then (if 0 ≤ (wrap64 (63 - a0_3)) then (some (true, a0_1, a0_2, wrap64 (a0_3 + 1), true, Go.bits .or .u64 a0_1 (shl .u64 1 (wrap64 (63 - a0_3))), a0_2, wrap64 (a0_3 + 1), 0)) else (none)) else (if 0 ≤ (wrap64 (127 - a0_3)) then (some (true, a0_1, a0_2, wrap64 (a0_3 + 1), true, a0_1, Go.bits .or .u64 a0_2 (shl .u64 1 (wrap64 (127 - a0_3))), wrap64 (a0_3 + 1), 0)) else (none))) = some (r1, r2, r3, r4, r5, r6, r7, r8, r9) := by rw [if_pos rfl] at H; exact H
     clear H
     have H := H1
     clear H1
     by_cases c21 : a0_3 < 64
     ·rw [if_pos c21] at H
      have c21b0 : decide (a0_3 < 64) = true := decide_eq_true c21
      clear c21
      obtain ⟨ji22, hji22⟩ : ∃ j_ : Int, (wrap64 (63 - a0_3)) = j_ := ⟨_, rfl⟩
      replace H : (if 0 ≤ (ji22) then (some (true, a0_1, a0_2, wrap64 (a0_3 + 1), true, Go.bits .or .u64 a0_1 (shl .u64 1 (ji22)), a0_2, wrap64 (a0_3 + 1), 0)) else (none)) = some (r1, r2, r3, r4, r5, r6, r7, r8, r9) := by first | (rw [hji22] at H; exact H) | (simp only [hji22] at H ⊢; exact H)
      have hji22w : (IntKind.i64.wrap (63 - a0_3)) = ji22 := (i64_w _).trans hji22
      by_cases c23 : 0 ≤ (ji22)
      ·rw [if_pos c23] at H
       have c23b0 := eq_true c23
       have c23b1 : decide (0 ≤ (ji22)) = true := decide_eq_true c23
       clear c23
       obtain ⟨ji24, hji24⟩ : ∃ j_ : Int, (shl .u64 1 (ji22)) = j_ := ⟨_, rfl⟩
       replace H : (some (true, a0_1, a0_2, wrap64 (a0_3 + 1), true, Go.bits .or .u64 a0_1 (ji24), a0_2, wrap64 (a0_3 + 1), 0)) = some (r1, r2, r3, r4, r5, r6, r7, r8, r9) := by first | (rw [hji24] at H; exact H) | (simp only [hji24] at H ⊢; exact H)
       have hji24_ : (IntKind.u64.wrap (1 * 2 ^ min (ji22).toNat 64)) = ji24 := hji24
       have hji24z : (ji22) ≤ 64 → (IntKind.u64.wrap (1 * 2 ^ (ji22).toNat)) = ji24 := shl_small hji24
       have hji24u : (IntKind.u64.wrap (2 ^ min (ji22).toNat 64)) = ji24 := by have h_ := hji24_; rw [Int.one_mul] at h_; exact h_
       have hji24v : (ji22) ≤ 64 → (IntKind.u64.wrap (2 ^ (ji22).toNat)) = ji24 := fun hle_ => by have h_ := hji24z hle_; rw [Int.one_mul] at h_; exact h_
       simp only [Option.some.injEq, Prod.mk.injEq] at H
       obtain ⟨rfl, rfl, rfl, rfl, rfl, rfl, rfl, rfl, rfl⟩ := H
       have hnb25 := NB193_194.out
       have hnc25 := NB194_193.out
       have hnb26 := NB193_195.out
       have hnc26 := NB195_193.out
       have hcz27_0 : wc.cell? ⟨gb193, 0, none⟩ = some (.bool true) := (blk_cell BK193.out 0).trans rfl
       have hcz27_1 : wc.cell? ⟨gb193, 1, none⟩ = some (.int .u64 a0_1) := (blk_cell BK193.out 1).trans rfl
       have hcz27_2 : wc.cell? ⟨gb193, 2, none⟩ = some (.int .u64 a0_2) := (blk_cell BK193.out 2).trans rfl
       have hcz27_3 : wc.cell? ⟨gb193, 3, none⟩ = some (.int .i64 a0_3) := (blk_cell BK193.out 3).trans rfl
       have hfz27_0 := blk_frozen BK193.out 0
       have hfz27_1 := blk_frozen BK193.out 1
       have hfz27_2 := blk_frozen BK193.out 2
       have hfz27_3 := blk_frozen BK193.out 3
       try go_wp2_with (first | ((with_reducible refine gate_dst (N := 5) rfl ?_); refine box_event ?hg (N := 5) ?hd (cs := #[.bool false, .int .u64 0, .int .u64 0, .int .i64 0]) (t := 26) ?hr ?_; (case hd => rfl); (case hg => rfl); (case hr => first | (go_simp; done) | (go_simp; rfl)); intro gb198 hg w28 hbox hb; have n0_ := Aside0.mk (blk_below (g := gb193) (o := .cells #[.bool true, .int .u64 a0_1, .int .u64 a0_2, .int .i64 a0_3] 26 (0, 0)) (St BK193.out) hb); have n1_ := Aside0.mk (blk_below (g := gb194) (o := .cells #[.bool false, .int .u64 0, .int .u64 0, .int .i64 0] 26 (0, 0)) (St BK194.out) hb); have n2_ := Aside0.mk (blk_below (g := gb195) (o := .cells #[.bool false, .int .u64 0, .int .u64 0, .int .i64 0] 26 (0, 0)) (St BK195.out) hb); have n3_ := Aside0.mk (below_step (Hb HB.out) hb); have n4_ := Aside0.mk (hbox); have n5_ := Aside0.mk ((by rw [hg]; exact (below_size (Hb HB.out)) : w.heap.size ≤ gb198)); have n6_ := Aside0.mk ((by rw [hg]; exact (below_size (Hb HB.out)) : w.heap.size ≤ gb198)); have n7_ := Aside0.mk ((by rw [hg]; exact Nat.ne_of_lt (blk_lt (g := gb193) (o := .cells #[.bool true, .int .u64 a0_1, .int .u64 a0_2, .int .i64 a0_3] 26 (0, 0)) (St BK193.out)) : gb193 ≠ gb198)); have n8_ := Aside0.mk ((by rw [hg]; exact Nat.ne_of_gt (blk_lt (g := gb193) (o := .cells #[.bool true, .int .u64 a0_1, .int .u64 a0_2, .int .i64 a0_3] 26 (0, 0)) (St BK193.out)) : gb198 ≠ gb193)); have n9_ := Aside0.mk ((by rw [hg]; exact Nat.ne_of_lt (blk_lt (g := gb194) (o := .cells #[.bool false, .int .u64 0, .int .u64 0, .int .i64 0] 26 (0, 0)) (St BK194.out)) : gb194 ≠ gb198)); have n10_ := Aside0.mk ((by rw [hg]; exact Nat.ne_of_gt (blk_lt (g := gb194) (o := .cells #[.bool false, .int .u64 0, .int .u64 0, .int .i64 0] 26 (0, 0)) (St BK194.out)) : gb198 ≠ gb194)); have n11_ := Aside0.mk ((by rw [hg]; exact Nat.ne_of_lt (blk_lt (g := gb195) (o := .cells #[.bool false, .int .u64 0, .int .u64 0, .int .i64 0] 26 (0, 0)) (St BK195.out)) : gb195 ≠ gb198)); have n12_ := Aside0.mk ((by rw [hg]; exact Nat.ne_of_gt (blk_lt (g := gb195) (o := .cells #[.bool false, .int .u64 0, .int .u64 0, .int .i64 0] 26 (0, 0)) (St BK195.out)) : gb198 ≠ gb195)); clear BK193; clear BK194; clear BK195; clear HB; have BK193 := n0_; have BK194 := n1_; have BK195 := n2_; have HB := n3_; have BK198 := n4_; have GW198 := n5_; have GE198 := n6_; have NB193_198 := n7_; have NB198_193 := n8_; have NB194_198 := n9_; have NB198_194 := n10_; have NB195_198 := n11_; have NB198_195 := n12_; clear n0_ n1_ n2_ n3_ n4_ n5_ n6_ n7_ n8_ n9_ n10_ n11_ n12_; clear hb hbox hg; have hnb29 := NB198_193.out; have hnc29 := NB193_198.out; have hnb30 := NB198_194.out; have hnc30 := NB194_198.out; have hnb31 := NB198_195.out; have hnc31 := NB195_198.out; have hcz32_0 : w28.cell? ⟨gb198, 0, none⟩ = some (.bool false) := (blk_cell BK198.out 0).trans rfl; have hcz32_1 : w28.cell? ⟨gb198, 1, none⟩ = some (.int .u64 0) := (blk_cell BK198.out 1).trans rfl; have hcz32_2 : w28.cell? ⟨gb198, 2, none⟩ = some (.int .u64 0) := (blk_cell BK198.out 2).trans rfl; have hcz32_3 : w28.cell? ⟨gb198, 3, none⟩ = some (.int .i64 0) := (blk_cell BK198.out 3).trans rfl; have hfz32_0 := blk_frozen BK198.out 0; have hfz32_1 := blk_frozen BK198.out 1; have hfz32_2 := blk_frozen BK198.out 2; have hfz32_3 := blk_frozen BK198.out 3) | ((with_reducible refine gate_dst (N := 6) rfl ?_); refine box_event ?hg (N := 6) ?hd (cs := #[.bool false, .int .u64 0, .int .u64 0, .int .i64 0]) (t := 26) ?hr ?_; (case hd => rfl); (case hg => rfl); (case hr => first | (go_simp; done) | (go_simp; rfl)); intro gb199 hg w33 hbox hb; have n0_ := Aside0.mk (blk_below (g := gb193) (o := .cells #[.bool true, .int .u64 a0_1, .int .u64 a0_2, .int .i64 a0_3] 26 (0, 0)) (by refine St ?_; refine blk_far ?_ NB193_198.out _; refine St ?_; refine blk_far ?_ NB193_198.out _; refine St ?_; refine blk_far ?_ NB193_198.out _; refine St ?_; refine blk_far ?_ NB193_198.out _; refine St ?_; exact BK193.out) hb); have n1_ := Aside0.mk (blk_below (g := gb194) (o := .cells #[.bool false, .int .u64 0, .int .u64 0, .int .i64 0] 26 (0, 0)) (by refine St ?_; refine blk_far ?_ NB194_198.out _; refine St ?_; refine blk_far ?_ NB194_198.out _; refine St ?_; refine blk_far ?_ NB194_198.out _; refine St ?_; refine blk_far ?_ NB194_198.out _; refine St ?_; exact BK194.out) hb); have n2_ := Aside0.mk (blk_below (g := gb195) (o := .cells #[.bool false, .int .u64 0, .int .u64 0, .int .i64 0] 26 (0, 0)) (by refine St ?_; refine blk_far ?_ NB195_198.out _; refine St ?_; refine blk_far ?_ NB195_198.out _; refine St ?_; refine blk_far ?_ NB195_198.out _; refine St ?_; refine blk_far ?_ NB195_198.out _; refine St ?_; exact BK195.out) hb); have n3_ := Aside0.mk (blk_below (g := gb198) (o := .cells #[.bool true, .int .u64 a0_1, .int .u64 a0_2, .int .i64 (wrap64 (a0_3 + 1))] 26 (0, 0)) (by refine St ?_; refine blk_put (cs := #[.bool true, .int .u64 a0_1, .int .u64 a0_2, .int .i64 0]) ?_ 3 _ rfl; refine St ?_; refine blk_put (cs := #[.bool true, .int .u64 a0_1, .int .u64 0, .int .i64 0]) ?_ 2 _ rfl; refine St ?_; refine blk_put (cs := #[.bool true, .int .u64 0, .int .u64 0, .int .i64 0]) ?_ 1 _ rfl; refine St ?_; refine blk_put (cs := #[.bool false, .int .u64 0, .int .u64 0, .int .i64 0]) ?_ 0 _ rfl; refine St ?_; exact BK198.out) hb); have n4_ := Aside0.mk (below_step (Hb HB.out) hb); have n5_ := Aside0.mk (hbox); have n6_ := Aside0.mk ((by rw [hg]; exact (below_size (Hb HB.out)) : w.heap.size ≤ gb199)); have n7_ := Aside0.mk ((by rw [hg]; exact (below_size (Hb HB.out)) : w.heap.size ≤ gb199)); have n8_ := Aside0.mk ((by rw [hg]; exact Nat.ne_of_lt (blk_lt (g := gb193) (o := .cells #[.bool true, .int .u64 a0_1, .int .u64 a0_2, .int .i64 a0_3] 26 (0, 0)) (by refine St ?_; refine blk_far ?_ NB193_198.out _; refine St ?_; refine blk_far ?_ NB193_198.out _; refine St ?_; refine blk_far ?_ NB193_198.out _; refine St ?_; refine blk_far ?_ NB193_198.out _; refine St ?_; exact BK193.out)) : gb193 ≠ gb199)); have n9_ := Aside0.mk ((by rw [hg]; exact Nat.ne_of_gt (blk_lt (g := gb193) (o := .cells #[.bool true, .int .u64 a0_1, .int .u64 a0_2, .int .i64 a0_3] 26 (0, 0)) (by refine St ?_; refine blk_far ?_ NB193_198.out _; refine St ?_; refine blk_far ?_ NB193_198.out _; refine St ?_; refine blk_far ?_ NB193_198.out _; refine St ?_; refine blk_far ?_ NB193_198.out _; refine St ?_; exact BK193.out)) : gb199 ≠ gb193)); have n10_ := Aside0.mk ((by rw [hg]; exact Nat.ne_of_lt (blk_lt (g := gb194) (o := .cells #[.bool false, .int .u64 0, .int .u64 0, .int .i64 0] 26 (0, 0)) (by refine St ?_; refine blk_far ?_ NB194_198.out _; refine St ?_; refine blk_far ?_ NB194_198.out _; refine St ?_; refine blk_far ?_ NB194_198.out _; refine St ?_; refine blk_far ?_ NB194_198.out _; refine St ?_; exact BK194.out)) : gb194 ≠ gb199)); have n11_ := Aside0.mk ((by rw [hg]; exact Nat.ne_of_gt (blk_lt (g := gb194) (o := .cells #[.bool false, .int .u64 0, .int .u64 0, .int .i64 0] 26 (0, 0)) (by refine St ?_; refine blk_far ?_ NB194_198.out _; refine St ?_; refine blk_far ?_ NB194_198.out _; refine St ?_; refine blk_far ?_ NB194_198.out _; refine St ?_; refine blk_far ?_ NB194_198.out _; refine St ?_; exact BK194.out)) : gb199 ≠ gb194)); have n12_ := Aside0.mk ((by rw [hg]; exact Nat.ne_of_lt (blk_lt (g := gb195) (o := .cells #[.bool false, .int .u64 0, .int .u64 0, .int .i64 0] 26 (0, 0)) (by refine St ?_; refine blk_far ?_ NB195_198.out _; refine St ?_; refine blk_far ?_ NB195_198.out _; refine St ?_; refine blk_far ?_ NB195_198.out _; refine St ?_; refine blk_far ?_ NB195_198.out _; refine St ?_; exact BK195.out)) : gb195 ≠ gb199)); have n13_ := Aside0.mk ((by rw [hg]; exact Nat.ne_of_gt (blk_lt (g := gb195) (o := .cells #[.bool false, .int .u64 0, .int .u64 0, .int .i64 0] 26 (0, 0)) (by refine St ?_; refine blk_far ?_ NB195_198.out _; refine St ?_; refine blk_far ?_ NB195_198.out _; refine St ?_; refine blk_far ?_ NB195_198.out _; refine St ?_; refine blk_far ?_ NB195_198.out _; refine St ?_; exact BK195.out)) : gb199 ≠ gb195)); have n14_ := Aside0.mk ((by rw [hg]; exact Nat.ne_of_lt (blk_lt (g := gb198) (o := .cells #[.bool true, .int .u64 a0_1, .int .u64 a0_2, .int .i64 (wrap64 (a0_3 + 1))] 26 (0, 0)) (by refine St ?_; refine blk_put (cs := #[.bool true, .int .u64 a0_1, .int .u64 a0_2, .int .i64 0]) ?_ 3 _ rfl; refine St ?_; refine blk_put (cs := #[.bool true, .int .u64 a0_1, .int .u64 0, .int .i64 0]) ?_ 2 _ rfl; refine St ?_; refine blk_put (cs := #[.bool true, .int .u64 0, .int .u64 0, .int .i64 0]) ?_ 1 _ rfl; refine St ?_; refine blk_put (cs := #[.bool false, .int .u64 0, .int .u64 0, .int .i64 0]) ?_ 0 _ rfl; refine St ?_; exact BK198.out)) : gb198 ≠ gb199)); have n15_ := Aside0.mk ((by rw [hg]; exact Nat.ne_of_gt (blk_lt (g := gb198) (o := .cells #[.bool true, .int .u64 a0_1, .int .u64 a0_2, .int .i64 (wrap64 (a0_3 + 1))] 26 (0, 0)) (by refine St ?_; refine blk_put (cs := #[.bool true, .int .u64 a0_1, .int .u64 a0_2, .int .i64 0]) ?_ 3 _ rfl; refine St ?_; refine blk_put (cs := #[.bool true, .int .u64 a0_1, .int .u64 0, .int .i64 0]) ?_ 2 _ rfl; refine St ?_; refine blk_put (cs := #[.bool true, .int .u64 0, .int .u64 0, .int .i64 0]) ?_ 1 _ rfl; refine St ?_; refine blk_put (cs := #[.bool false, .int .u64 0, .int .u64 0, .int .i64 0]) ?_ 0 _ rfl; refine St ?_; exact BK198.out)) : gb199 ≠ gb198)); clear BK193; clear BK194; clear BK195; clear BK198; clear HB; have BK193 := n0_; have BK194 := n1_; have BK195 := n2_; have BK198 := n3_; have HB := n4_; have BK199 := n5_; have GW199 := n6_; have GE199 := n7_; have NB193_199 := n8_; have NB199_193 := n9_; have NB194_199 := n10_; have NB199_194 := n11_; have NB195_199 := n12_; have NB199_195 := n13_; have NB198_199 := n14_; have NB199_198 := n15_; clear n0_ n1_ n2_ n3_ n4_ n5_ n6_ n7_ n8_ n9_ n10_ n11_ n12_ n13_ n14_ n15_; clear hb hbox hg; have hnb34 := NB199_193.out; have hnc34 := NB193_199.out; have hnb35 := NB199_194.out; have hnc35 := NB194_199.out; have hnb36 := NB199_195.out; have hnc36 := NB195_199.out; have hnb37 := NB199_198.out; have hnc37 := NB198_199.out; have hcz38_0 : w33.cell? ⟨gb199, 0, none⟩ = some (.bool false) := (blk_cell BK199.out 0).trans rfl; have hcz38_1 : w33.cell? ⟨gb199, 1, none⟩ = some (.int .u64 0) := (blk_cell BK199.out 1).trans rfl; have hcz38_2 : w33.cell? ⟨gb199, 2, none⟩ = some (.int .u64 0) := (blk_cell BK199.out 2).trans rfl; have hcz38_3 : w33.cell? ⟨gb199, 3, none⟩ = some (.int .i64 0) := (blk_cell BK199.out 3).trans rfl; have hfz38_0 := blk_frozen BK199.out 0; have hfz38_1 := blk_frozen BK199.out 1; have hfz38_2 := blk_frozen BK199.out 2; have hfz38_3 := blk_frozen BK199.out 3; have hcz39_0 : w33.cell? ⟨gb193, 0, none⟩ = some (.bool true) := (blk_cell BK193.out 0).trans rfl; have hcz39_1 : w33.cell? ⟨gb193, 1, none⟩ = some (.int .u64 a0_1) := (blk_cell BK193.out 1).trans rfl; have hcz39_2 : w33.cell? ⟨gb193, 2, none⟩ = some (.int .u64 a0_2) := (blk_cell BK193.out 2).trans rfl; have hcz39_3 : w33.cell? ⟨gb193, 3, none⟩ = some (.int .i64 a0_3) := (blk_cell BK193.out 3).trans rfl; have hfz39_0 := blk_frozen BK193.out 0; have hfz39_1 := blk_frozen BK193.out 1; have hfz39_2 := blk_frozen BK193.out 2; have hfz39_3 := blk_frozen BK193.out 3))
       have n0_ : Aside0 (((((w33.setCell ⟨gb199, 0, none⟩ (.bool true)).setCell ⟨gb199, 1, none⟩ (.int .u64 a0_1)).setCell ⟨gb199, 2, none⟩ (.int .u64 a0_2)).setCell ⟨gb199, 3, none⟩ (.int .i64 (wrap64 (a0_3 + 1)))).heap[gb193]? = some (.cells #[.bool true, .int .u64 a0_1, .int .u64 a0_2, .int .i64 a0_3] 26 (0, 0))) := ⟨by refine St ?_; refine blk_far ?_ NB193_199.out _; refine St ?_; refine blk_far ?_ NB193_199.out _; refine St ?_; refine blk_far ?_ NB193_199.out _; refine St ?_; refine blk_far ?_ NB193_199.out _; refine St ?_; exact BK193.out⟩
       have n1_ : Aside0 (((((w33.setCell ⟨gb199, 0, none⟩ (.bool true)).setCell ⟨gb199, 1, none⟩ (.int .u64 a0_1)).setCell ⟨gb199, 2, none⟩ (.int .u64 a0_2)).setCell ⟨gb199, 3, none⟩ (.int .i64 (wrap64 (a0_3 + 1)))).heap[gb194]? = some (.cells #[.bool false, .int .u64 0, .int .u64 0, .int .i64 0] 26 (0, 0))) := ⟨by refine St ?_; refine blk_far ?_ NB194_199.out _; refine St ?_; refine blk_far ?_ NB194_199.out _; refine St ?_; refine blk_far ?_ NB194_199.out _; refine St ?_; refine blk_far ?_ NB194_199.out _; refine St ?_; exact BK194.out⟩
       have n2_ : Aside0 (((((w33.setCell ⟨gb199, 0, none⟩ (.bool true)).setCell ⟨gb199, 1, none⟩ (.int .u64 a0_1)).setCell ⟨gb199, 2, none⟩ (.int .u64 a0_2)).setCell ⟨gb199, 3, none⟩ (.int .i64 (wrap64 (a0_3 + 1)))).heap[gb195]? = some (.cells #[.bool false, .int .u64 0, .int .u64 0, .int .i64 0] 26 (0, 0))) := ⟨by refine St ?_; refine blk_far ?_ NB195_199.out _; refine St ?_; refine blk_far ?_ NB195_199.out _; refine St ?_; refine blk_far ?_ NB195_199.out _; refine St ?_; refine blk_far ?_ NB195_199.out _; refine St ?_; exact BK195.out⟩
       have n3_ : Aside0 (((((w33.setCell ⟨gb199, 0, none⟩ (.bool true)).setCell ⟨gb199, 1, none⟩ (.int .u64 a0_1)).setCell ⟨gb199, 2, none⟩ (.int .u64 a0_2)).setCell ⟨gb199, 3, none⟩ (.int .i64 (wrap64 (a0_3 + 1)))).heap[gb198]? = some (.cells #[.bool true, .int .u64 a0_1, .int .u64 a0_2, .int .i64 (wrap64 (a0_3 + 1))] 26 (0, 0))) := ⟨by refine St ?_; refine blk_far ?_ NB198_199.out _; refine St ?_; refine blk_far ?_ NB198_199.out _; refine St ?_; refine blk_far ?_ NB198_199.out _; refine St ?_; refine blk_far ?_ NB198_199.out _; refine St ?_; exact BK198.out⟩
       have n4_ : Aside0 (((((w33.setCell ⟨gb199, 0, none⟩ (.bool true)).setCell ⟨gb199, 1, none⟩ (.int .u64 a0_1)).setCell ⟨gb199, 2, none⟩ (.int .u64 a0_2)).setCell ⟨gb199, 3, none⟩ (.int .i64 (wrap64 (a0_3 + 1)))).heap[gb199]? = some (.cells #[.bool true, .int .u64 a0_1, .int .u64 a0_2, .int .i64 (wrap64 (a0_3 + 1))] 26 (0, 0))) := ⟨by refine St ?_; refine blk_put (cs := #[.bool true, .int .u64 a0_1, .int .u64 a0_2, .int .i64 0]) ?_ 3 _ rfl; refine St ?_; refine blk_put (cs := #[.bool true, .int .u64 a0_1, .int .u64 0, .int .i64 0]) ?_ 2 _ rfl; refine St ?_; refine blk_put (cs := #[.bool true, .int .u64 0, .int .u64 0, .int .i64 0]) ?_ 1 _ rfl; refine St ?_; refine blk_put (cs := #[.bool false, .int .u64 0, .int .u64 0, .int .i64 0]) ?_ 0 _ rfl; refine St ?_; exact BK199.out⟩
       have n5_ : Aside0 (Below w.heap.size w ((((w33.setCell ⟨gb199, 0, none⟩ (.bool true)).setCell ⟨gb199, 1, none⟩ (.int .u64 a0_1)).setCell ⟨gb199, 2, none⟩ (.int .u64 a0_2)).setCell ⟨gb199, 3, none⟩ (.int .i64 (wrap64 (a0_3 + 1))))) := ⟨Hb HB.out⟩
       (try clear BK193)
       (try clear BK194)
       (try clear BK195)
       (try clear BK198)
       (try clear BK199)
       (try clear HB)
       generalize ((((w33.setCell ⟨gb199, 0, none⟩ (.bool true)).setCell ⟨gb199, 1, none⟩ (.int .u64 a0_1)).setCell ⟨gb199, 2, none⟩ (.int .u64 a0_2)).setCell ⟨gb199, 3, none⟩ (.int .i64 (wrap64 (a0_3 + 1)))) = w40 at n0_ n1_ n2_ n3_ n4_ n5_ ⊢
       have BK193 := n0_
       have BK194 := n1_
       have BK195 := n2_
       have BK198 := n3_
       have BK199 := n4_
       have HB := n5_
       clear n0_ n1_ n2_ n3_ n4_ n5_
       have n0_ := Aside0.mk (blk_drew BK193.out)
       have n1_ := Aside0.mk (blk_drew BK194.out)
       have n2_ := Aside0.mk (blk_drew BK195.out)
       have n3_ := Aside0.mk (blk_drew BK198.out)
       have n4_ := Aside0.mk (blk_drew BK199.out)
       have n5_ := Aside0.mk (below_drew1 HB.out)
       clear BK193
       clear BK194
       clear BK195
       clear BK198
       clear BK199
       clear HB
       have BK193 := n0_
       have BK194 := n1_
       have BK195 := n2_
       have BK198 := n3_
       have BK199 := n4_
       have HB := n5_
       clear n0_ n1_ n2_ n3_ n4_ n5_
       refine start_ (n := 11) (S := fun w' => w'.cell? ⟨gb199, 0, none⟩ = some (.bool true) ∧ w'.cell? ⟨gb199, 1, none⟩ = some (.int .u64 a0_1) ∧ w'.cell? ⟨gb199, 2, none⟩ = some (.int .u64 a0_2) ∧ w'.cell? ⟨gb199, 3, none⟩ = some (.int .i64 (wrap64 (a0_3 + 1))) ∧ w'.cell? ⟨gb193, 0, none⟩ = some (.bool true) ∧ w'.cell? ⟨gb193, 1, none⟩ = some (.int .u64 a0_1) ∧ w'.cell? ⟨gb193, 2, none⟩ = some (.int .u64 a0_2) ∧ w'.cell? ⟨gb193, 3, none⟩ = some (.int .i64 a0_3)) (ds := [10]) #[Z,Z,Z,Z,Z,Z,Z,Z,Z,Z,Z] (by kernel_rfl) rfl rfl ⟨(blk_cell BK199.out 0).trans rfl, (blk_cell BK199.out 1).trans rfl, (blk_cell BK199.out 2).trans rfl, (blk_cell BK199.out 3).trans rfl, (blk_cell BK193.out 0).trans rfl, (blk_cell BK193.out 1).trans rfl, (blk_cell BK193.out 2).trans rfl, (blk_cell BK193.out 3).trans rfl⟩ (fun hHeld => ?_); refine with_tabW prefix_Halves.tab9 prefix_Halves.bits9 (fun HT_ HW_ => ?_)
       generalize w40.drew = w41 at BK193 BK194 BK195 BK198 BK199 HB hHeld ⊢
       refine pure_ (i := 0) (N := some 56) (v := ?_) (a' := ?_) #[Y,Z,Z,Z,Z,Z,Z,Z,Z,Z,Z] rfl rfl (any_of HT_.out (by kernel_rfl)) (fun _ _ _ h => h) (Or.inl ⟨by rfl, ?_⟩) ?_ ?_
       rotate_left
       ·exact Sw
       rotate_left
       ·exact Sr
       refine pure_ (i := 1) (N := some 57) (v := ?_) (a' := ?_) #[Y,Y,Z,Z,Z,Z,Z,Z,Z,Z,Z] rfl rfl (any_of HT_.out (by kernel_rfl)) (fun _ _ _ h => h) (Or.inl ⟨by rfl, ?_⟩) ?_ ?_
       rotate_left
       ·exact Sw
       rotate_left
       ·exact Sr
       refine pure_ (i := 3) (N := some 59) (v := ?_) (a' := ?_) #[Y,Y,Z,Y,Z,Z,Z,Z,Z,Z,Z] rfl rfl (any_of HT_.out (by kernel_rfl)) (fun _ _ _ h => h) (Or.inl ⟨by rfl, ?_⟩) ?_ ?_
       rotate_left
       ·exact Sw
       rotate_left
       ·exact Sr
       refine take_ (i := 2) (N := some 58) (v := ?_) (a' := ?_) #[Y,Y,Y,Y,Z,Z,Z,Z,Z,Z,Z] rfl rfl (take_ofW HT_.out HW_.out (by kernel_rfl)) (fun _ _ _ h => h) (Or.inl ⟨by rfl, ?_⟩) hHeld ?_ ?_
       rotate_left
       ·rintro w' ⟨s0, s1, s2, s3, s4, s5, s6, s7⟩
        go_simp
        with_reducible rfl
       rotate_left
       ·exact Sr
       refine take_ (i := 4) (N := some 60) (v := ?_) (a' := ?_) #[Y,Y,Y,Y,Y,Z,Z,Z,Z,Z,Z] rfl rfl (take_ofW HT_.out HW_.out (by kernel_rfl)) (fun _ _ _ h => h) (Or.inl ⟨by rfl, ?_⟩) hHeld ?_ ?_
       rotate_left
       ·rintro w' ⟨s0, s1, s2, s3, s4, s5, s6, s7⟩
        go_simp
        with_reducible rfl
       rotate_left
       ·exact Sr
       refine pure_ (i := 5) (N := some 61) (v := ?_) (a' := ?_) #[Y,Y,Y,Y,Y,Y,Z,Z,Z,Z,Z] rfl rfl (any_of HT_.out (by kernel_rfl)) (fun _ _ _ h => h) (Or.inl ⟨by rfl, ?_⟩) ?_ ?_
       rotate_left
       ·exact Sw
       rotate_left
       ·exact Sr
       refine pure_ (i := 6) (N := some 62) (v := ?_) (a' := ?_) #[Y,Y,Y,Y,Y,Y,Y,Z,Z,Z,Z] rfl rfl (any_of HT_.out (by kernel_rfl)) (fun _ _ _ h => h) (Or.inl ⟨by rfl, ?_⟩) ?_ ?_
       rotate_left
       ·exact Sw
       rotate_left
       ·exact Sr
       refine pure_ (i := 7) (N := some 63) (v := ?_) (a' := ?_) #[Y,Y,Y,Y,Y,Y,Y,Y,Z,Z,Z] rfl rfl (any_of HT_.out (by kernel_rfl)) (fun _ _ _ h => h) (Or.inl ⟨by rfl, ?_⟩) ?_ ?_
       rotate_left
       ·exact Sw
       rotate_left
       ·exact Sr
       refine pure_ (i := 8) (N := some 64) (v := ?_) (a' := ?_) #[Y,Y,Y,Y,Y,Y,Y,Y,Y,Z,Z] rfl rfl (any_of HT_.out (by kernel_rfl)) (fun _ _ _ h => h) (Or.inl ⟨by rfl, ?_⟩) ?_ ?_
       rotate_left
       ·exact Sw
       rotate_left
       ·exact Sr
       refine pure_ (i := 9) (N := some 65) (v := ?_) (a' := ?_) #[Y,Y,Y,Y,Y,Y,Y,Y,Y,Y,Z] rfl rfl (any_of HT_.out (by kernel_rfl)) (fun _ _ _ h => h) (Or.inl ⟨by rfl, ?_⟩) ?_ ?_
       rotate_left
       ·exact Sw
       rotate_left
       ·exact Sr
       refine last_ (i := 10) (N := none) #[Y,Y,Y,Y,Y,Y,Y,Y,Y,Y,Y] rfl rfl (one_of HT_.out (by kernel_rfl)) (by decide) (fun K hK => ?_)
       have hs42 : w41.cell? ⟨gb199, 1, none⟩ = some (.int .u64 a0_1) := (blk_cell BK199.out 1).trans rfl
       have hfs42 := blk_frozen BK199.out 1
       have hns42_0 := NB193_199.out
       have hns42_1 := NB194_199.out
       have hns42_2 := NB195_199.out
       have hns42_3 := NB198_199.out
       have hms42_0 := NB199_193.out
       have hms42_1 := NB199_194.out
       have hms42_2 := NB199_195.out
       have hms42_3 := NB199_198.out
       refine skip_ (w1 := ?_) (by rfl) rfl ?_ ?_
       rotate_left
       ·go_simp
        rfl
       refine hK.out _ _ ?_
       clear hK K
       refine done_ (done_of HT_.out (by kernel_rfl)) ?_
       try go_wp2
       have n0_ : Aside0 ((w41.setCell ⟨gb199, 1, none⟩ (.int .u64 (Go.bits .or .u64 a0_1 (ji24)))).heap[gb193]? = some (.cells #[.bool true, .int .u64 a0_1, .int .u64 a0_2, .int .i64 a0_3] 26 (0, 0))) := ⟨by refine St ?_; refine blk_far ?_ NB193_199.out _; refine St ?_; exact BK193.out⟩
       have n1_ : Aside0 ((w41.setCell ⟨gb199, 1, none⟩ (.int .u64 (Go.bits .or .u64 a0_1 (ji24)))).heap[gb194]? = some (.cells #[.bool false, .int .u64 0, .int .u64 0, .int .i64 0] 26 (0, 0))) := ⟨by refine St ?_; refine blk_far ?_ NB194_199.out _; refine St ?_; exact BK194.out⟩
       have n2_ : Aside0 ((w41.setCell ⟨gb199, 1, none⟩ (.int .u64 (Go.bits .or .u64 a0_1 (ji24)))).heap[gb195]? = some (.cells #[.bool false, .int .u64 0, .int .u64 0, .int .i64 0] 26 (0, 0))) := ⟨by refine St ?_; refine blk_far ?_ NB195_199.out _; refine St ?_; exact BK195.out⟩
       have n3_ : Aside0 ((w41.setCell ⟨gb199, 1, none⟩ (.int .u64 (Go.bits .or .u64 a0_1 (ji24)))).heap[gb198]? = some (.cells #[.bool true, .int .u64 a0_1, .int .u64 a0_2, .int .i64 (wrap64 (a0_3 + 1))] 26 (0, 0))) := ⟨by refine St ?_; refine blk_far ?_ NB198_199.out _; refine St ?_; exact BK198.out⟩
       have n4_ : Aside0 ((w41.setCell ⟨gb199, 1, none⟩ (.int .u64 (Go.bits .or .u64 a0_1 (ji24)))).heap[gb199]? = some (.cells #[.bool true, .int .u64 (Go.bits .or .u64 a0_1 (ji24)), .int .u64 a0_2, .int .i64 (wrap64 (a0_3 + 1))] 26 (0, 0))) := ⟨by refine St ?_; refine blk_put (cs := #[.bool true, .int .u64 a0_1, .int .u64 a0_2, .int .i64 (wrap64 (a0_3 + 1))]) ?_ 1 _ rfl; refine St ?_; exact BK199.out⟩
       have n5_ : Aside0 (Below w.heap.size w (w41.setCell ⟨gb199, 1, none⟩ (.int .u64 (Go.bits .or .u64 a0_1 (ji24))))) := ⟨Hb HB.out⟩
       (try clear BK193)
       (try clear BK194)
       (try clear BK195)
       (try clear BK198)
       (try clear BK199)
       (try clear HB)
       generalize (w41.setCell ⟨gb199, 1, none⟩ (.int .u64 (Go.bits .or .u64 a0_1 (ji24)))) = w43 at n0_ n1_ n2_ n3_ n4_ n5_ ⊢
       have BK193 := n0_
       have BK194 := n1_
       have BK195 := n2_
       have BK198 := n3_
       have BK199 := n4_
       have HB := n5_
       clear n0_ n1_ n2_ n3_ n4_ n5_
       have n0_ := Aside0.mk (blk_drew BK193.out)
       have n1_ := Aside0.mk (blk_drew BK194.out)
       have n2_ := Aside0.mk (blk_drew BK195.out)
       have n3_ := Aside0.mk (blk_drew BK198.out)
       have n4_ := Aside0.mk (blk_drew BK199.out)
       have n5_ := Aside0.mk (below_drew1 HB.out)
       clear BK193
       clear BK194
       clear BK195
       clear BK198
       clear BK199
       clear HB
       have BK193 := n0_
       have BK194 := n1_
       have BK195 := n2_
       have BK198 := n3_
       have BK199 := n4_
       have HB := n5_
       clear n0_ n1_ n2_ n3_ n4_ n5_
       refine start_ (n := 5) (S := fun w' => w'.cell? ⟨gb198, 0, none⟩ = some (.bool true) ∧ w'.cell? ⟨gb198, 1, none⟩ = some (.int .u64 a0_1) ∧ w'.cell? ⟨gb198, 2, none⟩ = some (.int .u64 a0_2) ∧ w'.cell? ⟨gb198, 3, none⟩ = some (.int .i64 (wrap64 (a0_3 + 1))) ∧ w'.cell? ⟨gb199, 0, none⟩ = some (.bool true) ∧ w'.cell? ⟨gb199, 1, none⟩ = some (.int .u64 (Go.bits .or .u64 a0_1 (ji24))) ∧ w'.cell? ⟨gb199, 2, none⟩ = some (.int .u64 a0_2) ∧ w'.cell? ⟨gb199, 3, none⟩ = some (.int .i64 (wrap64 (a0_3 + 1)))) (ds := []) #[Z,Z,Z,Z,Z] (by kernel_rfl) rfl rfl ⟨(blk_cell BK198.out 0).trans rfl, (blk_cell BK198.out 1).trans rfl, (blk_cell BK198.out 2).trans rfl, (blk_cell BK198.out 3).trans rfl, (blk_cell BK199.out 0).trans rfl, (blk_cell BK199.out 1).trans rfl, (blk_cell BK199.out 2).trans rfl, (blk_cell BK199.out 3).trans rfl⟩ (fun hHeld => ?_)
       generalize w43.drew = w44 at BK193 BK194 BK195 BK198 BK199 HB hHeld ⊢
       refine take_ (i := 0) (N := some 66) (v := ?_) (a' := ?_) #[Y,Z,Z,Z,Z] rfl rfl (by kernel_rfl) (fun _ _ _ h => h) (Or.inl ⟨by rfl, ?_⟩) hHeld ?_ ?_
       rotate_left
       ·rintro w' ⟨s0, s1, s2, s3, s4, s5, s6, s7⟩
        go_simp
        with_reducible rfl
       rotate_left
       ·exact Sr
       refine take_ (i := 1) (N := some 67) (v := ?_) (a' := ?_) #[Y,Y,Z,Z,Z] rfl rfl (by kernel_rfl) (fun _ _ _ h => h) (Or.inl ⟨by rfl, ?_⟩) hHeld ?_ ?_
       rotate_left
       ·rintro w' ⟨s0, s1, s2, s3, s4, s5, s6, s7⟩
        go_simp
        with_reducible rfl
       rotate_left
       ·exact Sr
       refine one_ (i := 2) (N := none) #[Y,Y,Y,Z,Z] rfl rfl (by kernel_rfl) (by decide) (fun K hK => ?_)
       have hs45 : w44.cell? ⟨gb194, 0, none⟩ = some (.bool false) := (blk_cell BK194.out 0).trans rfl
       have hfs45 := blk_frozen BK194.out 0
       have hns45_0 := NB193_194.out
       have hns45_2 := NB195_194.out
       have hns45_3 := NB198_194.out
       have hns45_4 := NB199_194.out
       have hms45_0 := NB194_193.out
       have hms45_2 := NB194_195.out
       have hms45_3 := NB194_198.out
       have hms45_4 := NB194_199.out
       have hs46 : w44.cell? ⟨gb194, 1, none⟩ = some (.int .u64 0) := (blk_cell BK194.out 1).trans rfl
       have hfs46 := blk_frozen BK194.out 1
       have hns46_0 := NB193_194.out
       have hns46_2 := NB195_194.out
       have hns46_3 := NB198_194.out
       have hns46_4 := NB199_194.out
       have hms46_0 := NB194_193.out
       have hms46_2 := NB194_195.out
       have hms46_3 := NB194_198.out
       have hms46_4 := NB194_199.out
       have hs47 : w44.cell? ⟨gb194, 2, none⟩ = some (.int .u64 0) := (blk_cell BK194.out 2).trans rfl
       have hfs47 := blk_frozen BK194.out 2
       have hns47_0 := NB193_194.out
       have hns47_2 := NB195_194.out
       have hns47_3 := NB198_194.out
       have hns47_4 := NB199_194.out
       have hms47_0 := NB194_193.out
       have hms47_2 := NB194_195.out
       have hms47_3 := NB194_198.out
       have hms47_4 := NB194_199.out
       have hs48 : w44.cell? ⟨gb194, 3, none⟩ = some (.int .i64 0) := (blk_cell BK194.out 3).trans rfl
       have hfs48 := blk_frozen BK194.out 3
       have hns48_0 := NB193_194.out
       have hns48_2 := NB195_194.out
       have hns48_3 := NB198_194.out
       have hns48_4 := NB199_194.out
       have hms48_0 := NB194_193.out
       have hms48_2 := NB194_195.out
       have hms48_3 := NB194_198.out
       have hms48_4 := NB194_199.out
       refine skip_ (w1 := ?_) (by rfl) rfl ?_ ?_
       rotate_left
       ·go_simp
        rfl
       refine hK.out _ _ ⟨((cell_far (p := ⟨gb194, _, none⟩) NB198_194.out _).trans (((cell_far (p := ⟨gb194, _, none⟩) NB198_194.out _).trans (((cell_far (p := ⟨gb194, _, none⟩) NB198_194.out _).trans (((cell_far (p := ⟨gb194, _, none⟩) NB198_194.out _).trans (hHeld.1)))))))), ((cell_far (p := ⟨gb194, _, none⟩) NB198_194.out _).trans (((cell_far (p := ⟨gb194, _, none⟩) NB198_194.out _).trans (((cell_far (p := ⟨gb194, _, none⟩) NB198_194.out _).trans (((cell_far (p := ⟨gb194, _, none⟩) NB198_194.out _).trans (hHeld.2.1)))))))), ((cell_far (p := ⟨gb194, _, none⟩) NB198_194.out _).trans (((cell_far (p := ⟨gb194, _, none⟩) NB198_194.out _).trans (((cell_far (p := ⟨gb194, _, none⟩) NB198_194.out _).trans (((cell_far (p := ⟨gb194, _, none⟩) NB198_194.out _).trans (hHeld.2.2.1)))))))), ((cell_far (p := ⟨gb194, _, none⟩) NB198_194.out _).trans (((cell_far (p := ⟨gb194, _, none⟩) NB198_194.out _).trans (((cell_far (p := ⟨gb194, _, none⟩) NB198_194.out _).trans (((cell_far (p := ⟨gb194, _, none⟩) NB198_194.out _).trans (hHeld.2.2.2.1)))))))), ((cell_far (p := ⟨gb194, _, none⟩) NB199_194.out _).trans (((cell_far (p := ⟨gb194, _, none⟩) NB199_194.out _).trans (((cell_far (p := ⟨gb194, _, none⟩) NB199_194.out _).trans (((cell_far (p := ⟨gb194, _, none⟩) NB199_194.out _).trans (hHeld.2.2.2.2.1)))))))), ((cell_far (p := ⟨gb194, _, none⟩) NB199_194.out _).trans (((cell_far (p := ⟨gb194, _, none⟩) NB199_194.out _).trans (((cell_far (p := ⟨gb194, _, none⟩) NB199_194.out _).trans (((cell_far (p := ⟨gb194, _, none⟩) NB199_194.out _).trans (hHeld.2.2.2.2.2.1)))))))), ((cell_far (p := ⟨gb194, _, none⟩) NB199_194.out _).trans (((cell_far (p := ⟨gb194, _, none⟩) NB199_194.out _).trans (((cell_far (p := ⟨gb194, _, none⟩) NB199_194.out _).trans (((cell_far (p := ⟨gb194, _, none⟩) NB199_194.out _).trans (hHeld.2.2.2.2.2.2.1)))))))), ((cell_far (p := ⟨gb194, _, none⟩) NB199_194.out _).trans (((cell_far (p := ⟨gb194, _, none⟩) NB199_194.out _).trans (((cell_far (p := ⟨gb194, _, none⟩) NB199_194.out _).trans (((cell_far (p := ⟨gb194, _, none⟩) NB199_194.out _).trans (hHeld.2.2.2.2.2.2.2))))))))⟩ (fun hHeld => ?_)
       clear hK K
       refine one_ (i := 3) (N := none) #[Y,Y,Y,Y,Z] rfl rfl (by kernel_rfl) (by decide) (fun K hK => ?_)
       have hs49 : w44.cell? ⟨gb195, 0, none⟩ = some (.bool false) := (blk_cell BK195.out 0).trans rfl
       have hfs49 := blk_frozen BK195.out 0
       have hns49_0 := NB193_195.out
       have hns49_1 := NB194_195.out
       have hns49_3 := NB198_195.out
       have hns49_4 := NB199_195.out
       have hms49_0 := NB195_193.out
       have hms49_1 := NB195_194.out
       have hms49_3 := NB195_198.out
       have hms49_4 := NB195_199.out
       have hs50 : w44.cell? ⟨gb195, 1, none⟩ = some (.int .u64 0) := (blk_cell BK195.out 1).trans rfl
       have hfs50 := blk_frozen BK195.out 1
       have hns50_0 := NB193_195.out
       have hns50_1 := NB194_195.out
       have hns50_3 := NB198_195.out
       have hns50_4 := NB199_195.out
       have hms50_0 := NB195_193.out
       have hms50_1 := NB195_194.out
       have hms50_3 := NB195_198.out
       have hms50_4 := NB195_199.out
       have hs51 : w44.cell? ⟨gb195, 2, none⟩ = some (.int .u64 0) := (blk_cell BK195.out 2).trans rfl
       have hfs51 := blk_frozen BK195.out 2
       have hns51_0 := NB193_195.out
       have hns51_1 := NB194_195.out
       have hns51_3 := NB198_195.out
       have hns51_4 := NB199_195.out
       have hms51_0 := NB195_193.out
       have hms51_1 := NB195_194.out
       have hms51_3 := NB195_198.out
       have hms51_4 := NB195_199.out
       have hs52 : w44.cell? ⟨gb195, 3, none⟩ = some (.int .i64 0) := (blk_cell BK195.out 3).trans rfl
       have hfs52 := blk_frozen BK195.out 3
       have hns52_0 := NB193_195.out
       have hns52_1 := NB194_195.out
       have hns52_3 := NB198_195.out
       have hns52_4 := NB199_195.out
       have hms52_0 := NB195_193.out
       have hms52_1 := NB195_194.out
       have hms52_3 := NB195_198.out
       have hms52_4 := NB195_199.out
       refine skip_ (w1 := ?_) (by rfl) rfl ?_ ?_
       rotate_left
       ·go_simp
        rfl
       refine hK.out _ _ ⟨((cell_far (p := ⟨gb195, _, none⟩) NB198_195.out _).trans (((cell_far (p := ⟨gb195, _, none⟩) NB198_195.out _).trans (((cell_far (p := ⟨gb195, _, none⟩) NB198_195.out _).trans (((cell_far (p := ⟨gb195, _, none⟩) NB198_195.out _).trans (hHeld.1)))))))), ((cell_far (p := ⟨gb195, _, none⟩) NB198_195.out _).trans (((cell_far (p := ⟨gb195, _, none⟩) NB198_195.out _).trans (((cell_far (p := ⟨gb195, _, none⟩) NB198_195.out _).trans (((cell_far (p := ⟨gb195, _, none⟩) NB198_195.out _).trans (hHeld.2.1)))))))), ((cell_far (p := ⟨gb195, _, none⟩) NB198_195.out _).trans (((cell_far (p := ⟨gb195, _, none⟩) NB198_195.out _).trans (((cell_far (p := ⟨gb195, _, none⟩) NB198_195.out _).trans (((cell_far (p := ⟨gb195, _, none⟩) NB198_195.out _).trans (hHeld.2.2.1)))))))), ((cell_far (p := ⟨gb195, _, none⟩) NB198_195.out _).trans (((cell_far (p := ⟨gb195, _, none⟩) NB198_195.out _).trans (((cell_far (p := ⟨gb195, _, none⟩) NB198_195.out _).trans (((cell_far (p := ⟨gb195, _, none⟩) NB198_195.out _).trans (hHeld.2.2.2.1)))))))), ((cell_far (p := ⟨gb195, _, none⟩) NB199_195.out _).trans (((cell_far (p := ⟨gb195, _, none⟩) NB199_195.out _).trans (((cell_far (p := ⟨gb195, _, none⟩) NB199_195.out _).trans (((cell_far (p := ⟨gb195, _, none⟩) NB199_195.out _).trans (hHeld.2.2.2.2.1)))))))), ((cell_far (p := ⟨gb195, _, none⟩) NB199_195.out _).trans (((cell_far (p := ⟨gb195, _, none⟩) NB199_195.out _).trans (((cell_far (p := ⟨gb195, _, none⟩) NB199_195.out _).trans (((cell_far (p := ⟨gb195, _, none⟩) NB199_195.out _).trans (hHeld.2.2.2.2.2.1)))))))), ((cell_far (p := ⟨gb195, _, none⟩) NB199_195.out _).trans (((cell_far (p := ⟨gb195, _, none⟩) NB199_195.out _).trans (((cell_far (p := ⟨gb195, _, none⟩) NB199_195.out _).trans (((cell_far (p := ⟨gb195, _, none⟩) NB199_195.out _).trans (hHeld.2.2.2.2.2.2.1)))))))), ((cell_far (p := ⟨gb195, _, none⟩) NB199_195.out _).trans (((cell_far (p := ⟨gb195, _, none⟩) NB199_195.out _).trans (((cell_far (p := ⟨gb195, _, none⟩) NB199_195.out _).trans (((cell_far (p := ⟨gb195, _, none⟩) NB199_195.out _).trans (hHeld.2.2.2.2.2.2.2))))))))⟩ (fun hHeld => ?_)
       clear hK K
       refine pure_ (i := 4) (N := some 4) (v := ?_) (a' := ?_) #[Y,Y,Y,Y,Y] rfl rfl (by kernel_rfl) (fun _ _ _ h => h) (Or.inl ⟨by rfl, ?_⟩) ?_ ?_
       rotate_left
       ·exact Sw
       rotate_left
       ·exact Sr
       refine done_ (by kernel_rfl) ?_
       try go_wp2
       refine bodyPost_ret (results_list (rs := [.cell 2 26, .cell 3 26, .tmp 4]) rfl (by simp) (.cell gb194 26 #[.bool true, .int .u64 a0_1, .int .u64 a0_2, .int .i64 (wrap64 (a0_3 + 1))] (0, 0) _ rfl (by refine St ?_; refine blk_far ?_ NB194_195.out _; refine St ?_; refine blk_far ?_ NB194_195.out _; refine St ?_; refine blk_far ?_ NB194_195.out _; refine St ?_; refine blk_far ?_ NB194_195.out _; refine St ?_; refine blk_put (cs := #[.bool true, .int .u64 a0_1, .int .u64 a0_2, .int .i64 0]) ?_ 3 _ rfl; refine St ?_; refine blk_put (cs := #[.bool true, .int .u64 a0_1, .int .u64 0, .int .i64 0]) ?_ 2 _ rfl; refine St ?_; refine blk_put (cs := #[.bool true, .int .u64 0, .int .u64 0, .int .i64 0]) ?_ 1 _ rfl; refine St ?_; refine blk_put (cs := #[.bool false, .int .u64 0, .int .u64 0, .int .i64 0]) ?_ 0 _ rfl; refine St ?_; exact BK194.out) Tryd.underlying26 rfl (by kernel_rfl) (.cell gb195 26 #[.bool true, .int .u64 (Go.bits .or .u64 a0_1 (ji24)), .int .u64 a0_2, .int .i64 (wrap64 (a0_3 + 1))] (0, 0) _ rfl (by refine St ?_; refine blk_put (cs := #[.bool true, .int .u64 (Go.bits .or .u64 a0_1 (ji24)), .int .u64 a0_2, .int .i64 0]) ?_ 3 _ rfl; refine St ?_; refine blk_put (cs := #[.bool true, .int .u64 (Go.bits .or .u64 a0_1 (ji24)), .int .u64 0, .int .i64 0]) ?_ 2 _ rfl; refine St ?_; refine blk_put (cs := #[.bool true, .int .u64 0, .int .u64 0, .int .i64 0]) ?_ 1 _ rfl; refine St ?_; refine blk_put (cs := #[.bool false, .int .u64 0, .int .u64 0, .int .i64 0]) ?_ 0 _ rfl; refine St ?_; refine blk_far ?_ NB195_194.out _; refine St ?_; refine blk_far ?_ NB195_194.out _; refine St ?_; refine blk_far ?_ NB195_194.out _; refine St ?_; refine blk_far ?_ NB195_194.out _; refine St ?_; exact BK195.out) Tryd.underlying26 rfl (by kernel_rfl) (.tmp .nil)))) rfl ?_
       exact ⟨by first | rfl | (simp [errW_none, errW_some] <;> rfl) | (simp only [← hji22, ← hji24]; first | rfl | (simp [errW_none, errW_some] <;> rfl)) | (simp [*, errW_none, errW_some] <;> rfl), Hb HB.out⟩
      ·rw [if_neg c23] at H
       exact absurd H (by simp)
     ·rw [if_neg c21] at H
      have c21b0 : decide (a0_3 < 64) = false := decide_eq_false c21
      clear c21
      obtain ⟨ji53, hji53⟩ : ∃ j_ : Int, (wrap64 (127 - a0_3)) = j_ := ⟨_, rfl⟩
      replace H : (if 0 ≤ (ji53) then (some (true, a0_1, a0_2, wrap64 (a0_3 + 1), true, a0_1, Go.bits .or .u64 a0_2 (shl .u64 1 (ji53)), wrap64 (a0_3 + 1), 0)) else (none)) = some (r1, r2, r3, r4, r5, r6, r7, r8, r9) := by first | (rw [hji53] at H; exact H) | (simp only [hji53] at H ⊢; exact H)
      have hji53w : (IntKind.i64.wrap (127 - a0_3)) = ji53 := (i64_w _).trans hji53
      by_cases c54 : 0 ≤ (ji53)
      ·rw [if_pos c54] at H
       have c54b0 := eq_true c54
       have c54b1 : decide (0 ≤ (ji53)) = true := decide_eq_true c54
       clear c54
       obtain ⟨ji55, hji55⟩ : ∃ j_ : Int, (shl .u64 1 (ji53)) = j_ := ⟨_, rfl⟩
       replace H : (some (true, a0_1, a0_2, wrap64 (a0_3 + 1), true, a0_1, Go.bits .or .u64 a0_2 (ji55), wrap64 (a0_3 + 1), 0)) = some (r1, r2, r3, r4, r5, r6, r7, r8, r9) := by first | (rw [hji55] at H; exact H) | (simp only [hji55] at H ⊢; exact H)
       have hji55_ : (IntKind.u64.wrap (1 * 2 ^ min (ji53).toNat 64)) = ji55 := hji55
       have hji55z : (ji53) ≤ 64 → (IntKind.u64.wrap (1 * 2 ^ (ji53).toNat)) = ji55 := shl_small hji55
       have hji55u : (IntKind.u64.wrap (2 ^ min (ji53).toNat 64)) = ji55 := by have h_ := hji55_; rw [Int.one_mul] at h_; exact h_
       have hji55v : (ji53) ≤ 64 → (IntKind.u64.wrap (2 ^ (ji53).toNat)) = ji55 := fun hle_ => by have h_ := hji55z hle_; rw [Int.one_mul] at h_; exact h_
       simp only [Option.some.injEq, Prod.mk.injEq] at H
       obtain ⟨rfl, rfl, rfl, rfl, rfl, rfl, rfl, rfl, rfl⟩ := H
       have hnb56 := NB193_194.out
       have hnc56 := NB194_193.out
       have hnb57 := NB193_195.out
       have hnc57 := NB195_193.out
       have hcz58_0 : wc.cell? ⟨gb193, 0, none⟩ = some (.bool true) := (blk_cell BK193.out 0).trans rfl
       have hcz58_1 : wc.cell? ⟨gb193, 1, none⟩ = some (.int .u64 a0_1) := (blk_cell BK193.out 1).trans rfl
       have hcz58_2 : wc.cell? ⟨gb193, 2, none⟩ = some (.int .u64 a0_2) := (blk_cell BK193.out 2).trans rfl
       have hcz58_3 : wc.cell? ⟨gb193, 3, none⟩ = some (.int .i64 a0_3) := (blk_cell BK193.out 3).trans rfl
       have hfz58_0 := blk_frozen BK193.out 0
       have hfz58_1 := blk_frozen BK193.out 1
       have hfz58_2 := blk_frozen BK193.out 2
       have hfz58_3 := blk_frozen BK193.out 3
       try go_wp2_with (first | ((with_reducible refine gate_dst (N := 5) rfl ?_); refine box_event ?hg (N := 5) ?hd (cs := #[.bool false, .int .u64 0, .int .u64 0, .int .i64 0]) (t := 26) ?hr ?_; (case hd => rfl); (case hg => rfl); (case hr => first | (go_simp; done) | (go_simp; rfl)); intro gb198 hg w59 hbox hb; have n0_ := Aside0.mk (blk_below (g := gb193) (o := .cells #[.bool true, .int .u64 a0_1, .int .u64 a0_2, .int .i64 a0_3] 26 (0, 0)) (St BK193.out) hb); have n1_ := Aside0.mk (blk_below (g := gb194) (o := .cells #[.bool false, .int .u64 0, .int .u64 0, .int .i64 0] 26 (0, 0)) (St BK194.out) hb); have n2_ := Aside0.mk (blk_below (g := gb195) (o := .cells #[.bool false, .int .u64 0, .int .u64 0, .int .i64 0] 26 (0, 0)) (St BK195.out) hb); have n3_ := Aside0.mk (below_step (Hb HB.out) hb); have n4_ := Aside0.mk (hbox); have n5_ := Aside0.mk ((by rw [hg]; exact (below_size (Hb HB.out)) : w.heap.size ≤ gb198)); have n6_ := Aside0.mk ((by rw [hg]; exact (below_size (Hb HB.out)) : w.heap.size ≤ gb198)); have n7_ := Aside0.mk ((by rw [hg]; exact Nat.ne_of_lt (blk_lt (g := gb193) (o := .cells #[.bool true, .int .u64 a0_1, .int .u64 a0_2, .int .i64 a0_3] 26 (0, 0)) (St BK193.out)) : gb193 ≠ gb198)); have n8_ := Aside0.mk ((by rw [hg]; exact Nat.ne_of_gt (blk_lt (g := gb193) (o := .cells #[.bool true, .int .u64 a0_1, .int .u64 a0_2, .int .i64 a0_3] 26 (0, 0)) (St BK193.out)) : gb198 ≠ gb193)); have n9_ := Aside0.mk ((by rw [hg]; exact Nat.ne_of_lt (blk_lt (g := gb194) (o := .cells #[.bool false, .int .u64 0, .int .u64 0, .int .i64 0] 26 (0, 0)) (St BK194.out)) : gb194 ≠ gb198)); have n10_ := Aside0.mk ((by rw [hg]; exact Nat.ne_of_gt (blk_lt (g := gb194) (o := .cells #[.bool false, .int .u64 0, .int .u64 0, .int .i64 0] 26 (0, 0)) (St BK194.out)) : gb198 ≠ gb194)); have n11_ := Aside0.mk ((by rw [hg]; exact Nat.ne_of_lt (blk_lt (g := gb195) (o := .cells #[.bool false, .int .u64 0, .int .u64 0, .int .i64 0] 26 (0, 0)) (St BK195.out)) : gb195 ≠ gb198)); have n12_ := Aside0.mk ((by rw [hg]; exact Nat.ne_of_gt (blk_lt (g := gb195) (o := .cells #[.bool false, .int .u64 0, .int .u64 0, .int .i64 0] 26 (0, 0)) (St BK195.out)) : gb198 ≠ gb195)); clear BK193; clear BK194; clear BK195; clear HB; have BK193 := n0_; have BK194 := n1_; have BK195 := n2_; have HB := n3_; have BK198 := n4_; have GW198 := n5_; have GE198 := n6_; have NB193_198 := n7_; have NB198_193 := n8_; have NB194_198 := n9_; have NB198_194 := n10_; have NB195_198 := n11_; have NB198_195 := n12_; clear n0_ n1_ n2_ n3_ n4_ n5_ n6_ n7_ n8_ n9_ n10_ n11_ n12_; clear hb hbox hg; have hnb60 := NB198_193.out; have hnc60 := NB193_198.out; have hnb61 := NB198_194.out; have hnc61 := NB194_198.out; have hnb62 := NB198_195.out; have hnc62 := NB195_198.out; have hcz63_0 : w59.cell? ⟨gb198, 0, none⟩ = some (.bool false) := (blk_cell BK198.out 0).trans rfl; have hcz63_1 : w59.cell? ⟨gb198, 1, none⟩ = some (.int .u64 0) := (blk_cell BK198.out 1).trans rfl; have hcz63_2 : w59.cell? ⟨gb198, 2, none⟩ = some (.int .u64 0) := (blk_cell BK198.out 2).trans rfl; have hcz63_3 : w59.cell? ⟨gb198, 3, none⟩ = some (.int .i64 0) := (blk_cell BK198.out 3).trans rfl; have hfz63_0 := blk_frozen BK198.out 0; have hfz63_1 := blk_frozen BK198.out 1; have hfz63_2 := blk_frozen BK198.out 2; have hfz63_3 := blk_frozen BK198.out 3) | ((with_reducible refine gate_dst (N := 6) rfl ?_); refine box_event ?hg (N := 6) ?hd (cs := #[.bool false, .int .u64 0, .int .u64 0, .int .i64 0]) (t := 26) ?hr ?_; (case hd => rfl); (case hg => rfl); (case hr => first | (go_simp; done) | (go_simp; rfl)); intro gb199 hg w64 hbox hb; have n0_ := Aside0.mk (blk_below (g := gb193) (o := .cells #[.bool true, .int .u64 a0_1, .int .u64 a0_2, .int .i64 a0_3] 26 (0, 0)) (by refine St ?_; refine blk_far ?_ NB193_198.out _; refine St ?_; refine blk_far ?_ NB193_198.out _; refine St ?_; refine blk_far ?_ NB193_198.out _; refine St ?_; refine blk_far ?_ NB193_198.out _; refine St ?_; exact BK193.out) hb); have n1_ := Aside0.mk (blk_below (g := gb194) (o := .cells #[.bool false, .int .u64 0, .int .u64 0, .int .i64 0] 26 (0, 0)) (by refine St ?_; refine blk_far ?_ NB194_198.out _; refine St ?_; refine blk_far ?_ NB194_198.out _; refine St ?_; refine blk_far ?_ NB194_198.out _; refine St ?_; refine blk_far ?_ NB194_198.out _; refine St ?_; exact BK194.out) hb); have n2_ := Aside0.mk (blk_below (g := gb195) (o := .cells #[.bool false, .int .u64 0, .int .u64 0, .int .i64 0] 26 (0, 0)) (by refine St ?_; refine blk_far ?_ NB195_198.out _; refine St ?_; refine blk_far ?_ NB195_198.out _; refine St ?_; refine blk_far ?_ NB195_198.out _; refine St ?_; refine blk_far ?_ NB195_198.out _; refine St ?_; exact BK195.out) hb); have n3_ := Aside0.mk (blk_below (g := gb198) (o := .cells #[.bool true, .int .u64 a0_1, .int .u64 a0_2, .int .i64 (wrap64 (a0_3 + 1))] 26 (0, 0)) (by refine St ?_; refine blk_put (cs := #[.bool true, .int .u64 a0_1, .int .u64 a0_2, .int .i64 0]) ?_ 3 _ rfl; refine St ?_; refine blk_put (cs := #[.bool true, .int .u64 a0_1, .int .u64 0, .int .i64 0]) ?_ 2 _ rfl; refine St ?_; refine blk_put (cs := #[.bool true, .int .u64 0, .int .u64 0, .int .i64 0]) ?_ 1 _ rfl; refine St ?_; refine blk_put (cs := #[.bool false, .int .u64 0, .int .u64 0, .int .i64 0]) ?_ 0 _ rfl; refine St ?_; exact BK198.out) hb); have n4_ := Aside0.mk (below_step (Hb HB.out) hb); have n5_ := Aside0.mk (hbox); have n6_ := Aside0.mk ((by rw [hg]; exact (below_size (Hb HB.out)) : w.heap.size ≤ gb199)); have n7_ := Aside0.mk ((by rw [hg]; exact (below_size (Hb HB.out)) : w.heap.size ≤ gb199)); have n8_ := Aside0.mk ((by rw [hg]; exact Nat.ne_of_lt (blk_lt (g := gb193) (o := .cells #[.bool true, .int .u64 a0_1, .int .u64 a0_2, .int .i64 a0_3] 26 (0, 0)) (by refine St ?_; refine blk_far ?_ NB193_198.out _; refine St ?_; refine blk_far ?_ NB193_198.out _; refine St ?_; refine blk_far ?_ NB193_198.out _; refine St ?_; refine blk_far ?_ NB193_198.out _; refine St ?_; exact BK193.out)) : gb193 ≠ gb199)); have n9_ := Aside0.mk ((by rw [hg]; exact Nat.ne_of_gt (blk_lt (g := gb193) (o := .cells #[.bool true, .int .u64 a0_1, .int .u64 a0_2, .int .i64 a0_3] 26 (0, 0)) (by refine St ?_; refine blk_far ?_ NB193_198.out _; refine St ?_; refine blk_far ?_ NB193_198.out _; refine St ?_; refine blk_far ?_ NB193_198.out _; refine St ?_; refine blk_far ?_ NB193_198.out _; refine St ?_; exact BK193.out)) : gb199 ≠ gb193)); have n10_ := Aside0.mk ((by rw [hg]; exact Nat.ne_of_lt (blk_lt (g := gb194) (o := .cells #[.bool false, .int .u64 0, .int .u64 0, .int .i64 0] 26 (0, 0)) (by refine St ?_; refine blk_far ?_ NB194_198.out _; refine St ?_; refine blk_far ?_ NB194_198.out _; refine St ?_; refine blk_far ?_ NB194_198.out _; refine St ?_; refine blk_far ?_ NB194_198.out _; refine St ?_; exact BK194.out)) : gb194 ≠ gb199)); have n11_ := Aside0.mk ((by rw [hg]; exact Nat.ne_of_gt (blk_lt (g := gb194) (o := .cells #[.bool false, .int .u64 0, .int .u64 0, .int .i64 0] 26 (0, 0)) (by refine St ?_; refine blk_far ?_ NB194_198.out _; refine St ?_; refine blk_far ?_ NB194_198.out _; refine St ?_; refine blk_far ?_ NB194_198.out _; refine St ?_; refine blk_far ?_ NB194_198.out _; refine St ?_; exact BK194.out)) : gb199 ≠ gb194)); have n12_ := Aside0.mk ((by rw [hg]; exact Nat.ne_of_lt (blk_lt (g := gb195) (o := .cells #[.bool false, .int .u64 0, .int .u64 0, .int .i64 0] 26 (0, 0)) (by refine St ?_; refine blk_far ?_ NB195_198.out _; refine St ?_; refine blk_far ?_ NB195_198.out _; refine St ?_; refine blk_far ?_ NB195_198.out _; refine St ?_; refine blk_far ?_ NB195_198.out _; refine St ?_; exact BK195.out)) : gb195 ≠ gb199)); have n13_ := Aside0.mk ((by rw [hg]; exact Nat.ne_of_gt (blk_lt (g := gb195) (o := .cells #[.bool false, .int .u64 0, .int .u64 0, .int .i64 0] 26 (0, 0)) (by refine St ?_; refine blk_far ?_ NB195_198.out _; refine St ?_; refine blk_far ?_ NB195_198.out _; refine St ?_; refine blk_far ?_ NB195_198.out _; refine St ?_; refine blk_far ?_ NB195_198.out _; refine St ?_; exact BK195.out)) : gb199 ≠ gb195)); have n14_ := Aside0.mk ((by rw [hg]; exact Nat.ne_of_lt (blk_lt (g := gb198) (o := .cells #[.bool true, .int .u64 a0_1, .int .u64 a0_2, .int .i64 (wrap64 (a0_3 + 1))] 26 (0, 0)) (by refine St ?_; refine blk_put (cs := #[.bool true, .int .u64 a0_1, .int .u64 a0_2, .int .i64 0]) ?_ 3 _ rfl; refine St ?_; refine blk_put (cs := #[.bool true, .int .u64 a0_1, .int .u64 0, .int .i64 0]) ?_ 2 _ rfl; refine St ?_; refine blk_put (cs := #[.bool true, .int .u64 0, .int .u64 0, .int .i64 0]) ?_ 1 _ rfl; refine St ?_; refine blk_put (cs := #[.bool false, .int .u64 0, .int .u64 0, .int .i64 0]) ?_ 0 _ rfl; refine St ?_; exact BK198.out)) : gb198 ≠ gb199)); have n15_ := Aside0.mk ((by rw [hg]; exact Nat.ne_of_gt (blk_lt (g := gb198) (o := .cells #[.bool true, .int .u64 a0_1, .int .u64 a0_2, .int .i64 (wrap64 (a0_3 + 1))] 26 (0, 0)) (by refine St ?_; refine blk_put (cs := #[.bool true, .int .u64 a0_1, .int .u64 a0_2, .int .i64 0]) ?_ 3 _ rfl; refine St ?_; refine blk_put (cs := #[.bool true, .int .u64 a0_1, .int .u64 0, .int .i64 0]) ?_ 2 _ rfl; refine St ?_; refine blk_put (cs := #[.bool true, .int .u64 0, .int .u64 0, .int .i64 0]) ?_ 1 _ rfl; refine St ?_; refine blk_put (cs := #[.bool false, .int .u64 0, .int .u64 0, .int .i64 0]) ?_ 0 _ rfl; refine St ?_; exact BK198.out)) : gb199 ≠ gb198)); clear BK193; clear BK194; clear BK195; clear BK198; clear HB; have BK193 := n0_; have BK194 := n1_; have BK195 := n2_; have BK198 := n3_; have HB := n4_; have BK199 := n5_; have GW199 := n6_; have GE199 := n7_; have NB193_199 := n8_; have NB199_193 := n9_; have NB194_199 := n10_; have NB199_194 := n11_; have NB195_199 := n12_; have NB199_195 := n13_; have NB198_199 := n14_; have NB199_198 := n15_; clear n0_ n1_ n2_ n3_ n4_ n5_ n6_ n7_ n8_ n9_ n10_ n11_ n12_ n13_ n14_ n15_; clear hb hbox hg; have hnb65 := NB199_193.out; have hnc65 := NB193_199.out; have hnb66 := NB199_194.out; have hnc66 := NB194_199.out; have hnb67 := NB199_195.out; have hnc67 := NB195_199.out; have hnb68 := NB199_198.out; have hnc68 := NB198_199.out; have hcz69_0 : w64.cell? ⟨gb199, 0, none⟩ = some (.bool false) := (blk_cell BK199.out 0).trans rfl; have hcz69_1 : w64.cell? ⟨gb199, 1, none⟩ = some (.int .u64 0) := (blk_cell BK199.out 1).trans rfl; have hcz69_2 : w64.cell? ⟨gb199, 2, none⟩ = some (.int .u64 0) := (blk_cell BK199.out 2).trans rfl; have hcz69_3 : w64.cell? ⟨gb199, 3, none⟩ = some (.int .i64 0) := (blk_cell BK199.out 3).trans rfl; have hfz69_0 := blk_frozen BK199.out 0; have hfz69_1 := blk_frozen BK199.out 1; have hfz69_2 := blk_frozen BK199.out 2; have hfz69_3 := blk_frozen BK199.out 3; have hcz70_0 : w64.cell? ⟨gb193, 0, none⟩ = some (.bool true) := (blk_cell BK193.out 0).trans rfl; have hcz70_1 : w64.cell? ⟨gb193, 1, none⟩ = some (.int .u64 a0_1) := (blk_cell BK193.out 1).trans rfl; have hcz70_2 : w64.cell? ⟨gb193, 2, none⟩ = some (.int .u64 a0_2) := (blk_cell BK193.out 2).trans rfl; have hcz70_3 : w64.cell? ⟨gb193, 3, none⟩ = some (.int .i64 a0_3) := (blk_cell BK193.out 3).trans rfl; have hfz70_0 := blk_frozen BK193.out 0; have hfz70_1 := blk_frozen BK193.out 1; have hfz70_2 := blk_frozen BK193.out 2; have hfz70_3 := blk_frozen BK193.out 3))
       have n0_ : Aside0 (((((w64.setCell ⟨gb199, 0, none⟩ (.bool true)).setCell ⟨gb199, 1, none⟩ (.int .u64 a0_1)).setCell ⟨gb199, 2, none⟩ (.int .u64 a0_2)).setCell ⟨gb199, 3, none⟩ (.int .i64 (wrap64 (a0_3 + 1)))).heap[gb193]? = some (.cells #[.bool true, .int .u64 a0_1, .int .u64 a0_2, .int .i64 a0_3] 26 (0, 0))) := ⟨by refine St ?_; refine blk_far ?_ NB193_199.out _; refine St ?_; refine blk_far ?_ NB193_199.out _; refine St ?_; refine blk_far ?_ NB193_199.out _; refine St ?_; refine blk_far ?_ NB193_199.out _; refine St ?_; exact BK193.out⟩
       have n1_ : Aside0 (((((w64.setCell ⟨gb199, 0, none⟩ (.bool true)).setCell ⟨gb199, 1, none⟩ (.int .u64 a0_1)).setCell ⟨gb199, 2, none⟩ (.int .u64 a0_2)).setCell ⟨gb199, 3, none⟩ (.int .i64 (wrap64 (a0_3 + 1)))).heap[gb194]? = some (.cells #[.bool false, .int .u64 0, .int .u64 0, .int .i64 0] 26 (0, 0))) := ⟨by refine St ?_; refine blk_far ?_ NB194_199.out _; refine St ?_; refine blk_far ?_ NB194_199.out _; refine St ?_; refine blk_far ?_ NB194_199.out _; refine St ?_; refine blk_far ?_ NB194_199.out _; refine St ?_; exact BK194.out⟩
       have n2_ : Aside0 (((((w64.setCell ⟨gb199, 0, none⟩ (.bool true)).setCell ⟨gb199, 1, none⟩ (.int .u64 a0_1)).setCell ⟨gb199, 2, none⟩ (.int .u64 a0_2)).setCell ⟨gb199, 3, none⟩ (.int .i64 (wrap64 (a0_3 + 1)))).heap[gb195]? = some (.cells #[.bool false, .int .u64 0, .int .u64 0, .int .i64 0] 26 (0, 0))) := ⟨by refine St ?_; refine blk_far ?_ NB195_199.out _; refine St ?_; refine blk_far ?_ NB195_199.out _; refine St ?_; refine blk_far ?_ NB195_199.out _; refine St ?_; refine blk_far ?_ NB195_199.out _; refine St ?_; exact BK195.out⟩
       have n3_ : Aside0 (((((w64.setCell ⟨gb199, 0, none⟩ (.bool true)).setCell ⟨gb199, 1, none⟩ (.int .u64 a0_1)).setCell ⟨gb199, 2, none⟩ (.int .u64 a0_2)).setCell ⟨gb199, 3, none⟩ (.int .i64 (wrap64 (a0_3 + 1)))).heap[gb198]? = some (.cells #[.bool true, .int .u64 a0_1, .int .u64 a0_2, .int .i64 (wrap64 (a0_3 + 1))] 26 (0, 0))) := ⟨by refine St ?_; refine blk_far ?_ NB198_199.out _; refine St ?_; refine blk_far ?_ NB198_199.out _; refine St ?_; refine blk_far ?_ NB198_199.out _; refine St ?_; refine blk_far ?_ NB198_199.out _; refine St ?_; exact BK198.out⟩
       have n4_ : Aside0 (((((w64.setCell ⟨gb199, 0, none⟩ (.bool true)).setCell ⟨gb199, 1, none⟩ (.int .u64 a0_1)).setCell ⟨gb199, 2, none⟩ (.int .u64 a0_2)).setCell ⟨gb199, 3, none⟩ (.int .i64 (wrap64 (a0_3 + 1)))).heap[gb199]? = some (.cells #[.bool true, .int .u64 a0_1, .int .u64 a0_2, .int .i64 (wrap64 (a0_3 + 1))] 26 (0, 0))) := ⟨by refine St ?_; refine blk_put (cs := #[.bool true, .int .u64 a0_1, .int .u64 a0_2, .int .i64 0]) ?_ 3 _ rfl; refine St ?_; refine blk_put (cs := #[.bool true, .int .u64 a0_1, .int .u64 0, .int .i64 0]) ?_ 2 _ rfl; refine St ?_; refine blk_put (cs := #[.bool true, .int .u64 0, .int .u64 0, .int .i64 0]) ?_ 1 _ rfl; refine St ?_; refine blk_put (cs := #[.bool false, .int .u64 0, .int .u64 0, .int .i64 0]) ?_ 0 _ rfl; refine St ?_; exact BK199.out⟩
       have n5_ : Aside0 (Below w.heap.size w ((((w64.setCell ⟨gb199, 0, none⟩ (.bool true)).setCell ⟨gb199, 1, none⟩ (.int .u64 a0_1)).setCell ⟨gb199, 2, none⟩ (.int .u64 a0_2)).setCell ⟨gb199, 3, none⟩ (.int .i64 (wrap64 (a0_3 + 1))))) := ⟨Hb HB.out⟩
       (try clear BK193)
       (try clear BK194)
       (try clear BK195)
       (try clear BK198)
       (try clear BK199)
       (try clear HB)
       generalize ((((w64.setCell ⟨gb199, 0, none⟩ (.bool true)).setCell ⟨gb199, 1, none⟩ (.int .u64 a0_1)).setCell ⟨gb199, 2, none⟩ (.int .u64 a0_2)).setCell ⟨gb199, 3, none⟩ (.int .i64 (wrap64 (a0_3 + 1)))) = w71 at n0_ n1_ n2_ n3_ n4_ n5_ ⊢
       have BK193 := n0_
       have BK194 := n1_
       have BK195 := n2_
       have BK198 := n3_
       have BK199 := n4_
       have HB := n5_
       clear n0_ n1_ n2_ n3_ n4_ n5_
       have n0_ := Aside0.mk (blk_drew BK193.out)
       have n1_ := Aside0.mk (blk_drew BK194.out)
       have n2_ := Aside0.mk (blk_drew BK195.out)
       have n3_ := Aside0.mk (blk_drew BK198.out)
       have n4_ := Aside0.mk (blk_drew BK199.out)
       have n5_ := Aside0.mk (below_drew1 HB.out)
       clear BK193
       clear BK194
       clear BK195
       clear BK198
       clear BK199
       clear HB
       have BK193 := n0_
       have BK194 := n1_
       have BK195 := n2_
       have BK198 := n3_
       have BK199 := n4_
       have HB := n5_
       clear n0_ n1_ n2_ n3_ n4_ n5_
       refine start_ (n := 11) (S := fun w' => w'.cell? ⟨gb199, 0, none⟩ = some (.bool true) ∧ w'.cell? ⟨gb199, 1, none⟩ = some (.int .u64 a0_1) ∧ w'.cell? ⟨gb199, 2, none⟩ = some (.int .u64 a0_2) ∧ w'.cell? ⟨gb199, 3, none⟩ = some (.int .i64 (wrap64 (a0_3 + 1))) ∧ w'.cell? ⟨gb193, 0, none⟩ = some (.bool true) ∧ w'.cell? ⟨gb193, 1, none⟩ = some (.int .u64 a0_1) ∧ w'.cell? ⟨gb193, 2, none⟩ = some (.int .u64 a0_2) ∧ w'.cell? ⟨gb193, 3, none⟩ = some (.int .i64 a0_3)) (ds := [10]) #[Z,Z,Z,Z,Z,Z,Z,Z,Z,Z,Z] (by kernel_rfl) rfl rfl ⟨(blk_cell BK199.out 0).trans rfl, (blk_cell BK199.out 1).trans rfl, (blk_cell BK199.out 2).trans rfl, (blk_cell BK199.out 3).trans rfl, (blk_cell BK193.out 0).trans rfl, (blk_cell BK193.out 1).trans rfl, (blk_cell BK193.out 2).trans rfl, (blk_cell BK193.out 3).trans rfl⟩ (fun hHeld => ?_); refine with_tabW prefix_Halves.tab5 prefix_Halves.bits5 (fun HT_ HW_ => ?_)
       generalize w71.drew = w72 at BK193 BK194 BK195 BK198 BK199 HB hHeld ⊢
       refine pure_ (i := 0) (N := some 27) (v := ?_) (a' := ?_) #[Y,Z,Z,Z,Z,Z,Z,Z,Z,Z,Z] rfl rfl (any_of HT_.out (by kernel_rfl)) (fun _ _ _ h => h) (Or.inl ⟨by rfl, ?_⟩) ?_ ?_
       rotate_left
       ·exact Sw
       rotate_left
       ·exact Sr
       refine pure_ (i := 1) (N := some 28) (v := ?_) (a' := ?_) #[Y,Y,Z,Z,Z,Z,Z,Z,Z,Z,Z] rfl rfl (any_of HT_.out (by kernel_rfl)) (fun _ _ _ h => h) (Or.inl ⟨by rfl, ?_⟩) ?_ ?_
       rotate_left
       ·exact Sw
       rotate_left
       ·exact Sr
       refine pure_ (i := 3) (N := some 30) (v := ?_) (a' := ?_) #[Y,Y,Z,Y,Z,Z,Z,Z,Z,Z,Z] rfl rfl (any_of HT_.out (by kernel_rfl)) (fun _ _ _ h => h) (Or.inl ⟨by rfl, ?_⟩) ?_ ?_
       rotate_left
       ·exact Sw
       rotate_left
       ·exact Sr
       refine take_ (i := 2) (N := some 29) (v := ?_) (a' := ?_) #[Y,Y,Y,Y,Z,Z,Z,Z,Z,Z,Z] rfl rfl (take_ofW HT_.out HW_.out (by kernel_rfl)) (fun _ _ _ h => h) (Or.inl ⟨by rfl, ?_⟩) hHeld ?_ ?_
       rotate_left
       ·rintro w' ⟨s0, s1, s2, s3, s4, s5, s6, s7⟩
        go_simp
        with_reducible rfl
       rotate_left
       ·exact Sr
       refine take_ (i := 4) (N := some 31) (v := ?_) (a' := ?_) #[Y,Y,Y,Y,Y,Z,Z,Z,Z,Z,Z] rfl rfl (take_ofW HT_.out HW_.out (by kernel_rfl)) (fun _ _ _ h => h) (Or.inl ⟨by rfl, ?_⟩) hHeld ?_ ?_
       rotate_left
       ·rintro w' ⟨s0, s1, s2, s3, s4, s5, s6, s7⟩
        go_simp
        with_reducible rfl
       rotate_left
       ·exact Sr
       refine pure_ (i := 5) (N := some 32) (v := ?_) (a' := ?_) #[Y,Y,Y,Y,Y,Y,Z,Z,Z,Z,Z] rfl rfl (any_of HT_.out (by kernel_rfl)) (fun _ _ _ h => h) (Or.inl ⟨by rfl, ?_⟩) ?_ ?_
       rotate_left
       ·exact Sw
       rotate_left
       ·exact Sr
       refine pure_ (i := 6) (N := some 33) (v := ?_) (a' := ?_) #[Y,Y,Y,Y,Y,Y,Y,Z,Z,Z,Z] rfl rfl (any_of HT_.out (by kernel_rfl)) (fun _ _ _ h => h) (Or.inl ⟨by rfl, ?_⟩) ?_ ?_
       rotate_left
       ·exact Sw
       rotate_left
       ·exact Sr
       refine pure_ (i := 7) (N := some 34) (v := ?_) (a' := ?_) #[Y,Y,Y,Y,Y,Y,Y,Y,Z,Z,Z] rfl rfl (any_of HT_.out (by kernel_rfl)) (fun _ _ _ h => h) (Or.inl ⟨by rfl, ?_⟩) ?_ ?_
       rotate_left
       ·exact Sw
       rotate_left
       ·exact Sr
       refine pure_ (i := 8) (N := some 35) (v := ?_) (a' := ?_) #[Y,Y,Y,Y,Y,Y,Y,Y,Y,Z,Z] rfl rfl (any_of HT_.out (by kernel_rfl)) (fun _ _ _ h => h) (Or.inl ⟨by rfl, ?_⟩) ?_ ?_
       rotate_left
       ·exact Sw
       rotate_left
       ·exact Sr
       refine pure_ (i := 9) (N := some 36) (v := ?_) (a' := ?_) #[Y,Y,Y,Y,Y,Y,Y,Y,Y,Y,Z] rfl rfl (any_of HT_.out (by kernel_rfl)) (fun _ _ _ h => h) (Or.inl ⟨by rfl, ?_⟩) ?_ ?_
       rotate_left
       ·exact Sw
       rotate_left
       ·exact Sr
       refine last_ (i := 10) (N := none) #[Y,Y,Y,Y,Y,Y,Y,Y,Y,Y,Y] rfl rfl (one_of HT_.out (by kernel_rfl)) (by decide) (fun K hK => ?_)
       have hs73 : w72.cell? ⟨gb199, 2, none⟩ = some (.int .u64 a0_2) := (blk_cell BK199.out 2).trans rfl
       have hfs73 := blk_frozen BK199.out 2
       have hns73_0 := NB193_199.out
       have hns73_1 := NB194_199.out
       have hns73_2 := NB195_199.out
       have hns73_3 := NB198_199.out
       have hms73_0 := NB199_193.out
       have hms73_1 := NB199_194.out
       have hms73_2 := NB199_195.out
       have hms73_3 := NB199_198.out
       refine skip_ (w1 := ?_) (by rfl) rfl ?_ ?_
       rotate_left
       ·go_simp
        rfl
       refine hK.out _ _ ?_
       clear hK K
       refine done_ (done_of HT_.out (by kernel_rfl)) ?_
       try go_wp2
       have n0_ : Aside0 ((w72.setCell ⟨gb199, 2, none⟩ (.int .u64 (Go.bits .or .u64 a0_2 (ji55)))).heap[gb193]? = some (.cells #[.bool true, .int .u64 a0_1, .int .u64 a0_2, .int .i64 a0_3] 26 (0, 0))) := ⟨by refine St ?_; refine blk_far ?_ NB193_199.out _; refine St ?_; exact BK193.out⟩
       have n1_ : Aside0 ((w72.setCell ⟨gb199, 2, none⟩ (.int .u64 (Go.bits .or .u64 a0_2 (ji55)))).heap[gb194]? = some (.cells #[.bool false, .int .u64 0, .int .u64 0, .int .i64 0] 26 (0, 0))) := ⟨by refine St ?_; refine blk_far ?_ NB194_199.out _; refine St ?_; exact BK194.out⟩
       have n2_ : Aside0 ((w72.setCell ⟨gb199, 2, none⟩ (.int .u64 (Go.bits .or .u64 a0_2 (ji55)))).heap[gb195]? = some (.cells #[.bool false, .int .u64 0, .int .u64 0, .int .i64 0] 26 (0, 0))) := ⟨by refine St ?_; refine blk_far ?_ NB195_199.out _; refine St ?_; exact BK195.out⟩
       have n3_ : Aside0 ((w72.setCell ⟨gb199, 2, none⟩ (.int .u64 (Go.bits .or .u64 a0_2 (ji55)))).heap[gb198]? = some (.cells #[.bool true, .int .u64 a0_1, .int .u64 a0_2, .int .i64 (wrap64 (a0_3 + 1))] 26 (0, 0))) := ⟨by refine St ?_; refine blk_far ?_ NB198_199.out _; refine St ?_; exact BK198.out⟩
       have n4_ : Aside0 ((w72.setCell ⟨gb199, 2, none⟩ (.int .u64 (Go.bits .or .u64 a0_2 (ji55)))).heap[gb199]? = some (.cells #[.bool true, .int .u64 a0_1, .int .u64 (Go.bits .or .u64 a0_2 (ji55)), .int .i64 (wrap64 (a0_3 + 1))] 26 (0, 0))) := ⟨by refine St ?_; refine blk_put (cs := #[.bool true, .int .u64 a0_1, .int .u64 a0_2, .int .i64 (wrap64 (a0_3 + 1))]) ?_ 2 _ rfl; refine St ?_; exact BK199.out⟩
       have n5_ : Aside0 (Below w.heap.size w (w72.setCell ⟨gb199, 2, none⟩ (.int .u64 (Go.bits .or .u64 a0_2 (ji55))))) := ⟨Hb HB.out⟩
       (try clear BK193)
       (try clear BK194)
       (try clear BK195)
       (try clear BK198)
       (try clear BK199)
       (try clear HB)
       generalize (w72.setCell ⟨gb199, 2, none⟩ (.int .u64 (Go.bits .or .u64 a0_2 (ji55)))) = w74 at n0_ n1_ n2_ n3_ n4_ n5_ ⊢
       have BK193 := n0_
       have BK194 := n1_
       have BK195 := n2_
       have BK198 := n3_
       have BK199 := n4_
       have HB := n5_
       clear n0_ n1_ n2_ n3_ n4_ n5_
       have n0_ := Aside0.mk (blk_drew BK193.out)
       have n1_ := Aside0.mk (blk_drew BK194.out)
       have n2_ := Aside0.mk (blk_drew BK195.out)
       have n3_ := Aside0.mk (blk_drew BK198.out)
       have n4_ := Aside0.mk (blk_drew BK199.out)
       have n5_ := Aside0.mk (below_drew1 HB.out)
       clear BK193
       clear BK194
       clear BK195
       clear BK198
       clear BK199
       clear HB
       have BK193 := n0_
       have BK194 := n1_
       have BK195 := n2_
       have BK198 := n3_
       have BK199 := n4_
       have HB := n5_
       clear n0_ n1_ n2_ n3_ n4_ n5_
       refine start_ (n := 5) (S := fun w' => w'.cell? ⟨gb198, 0, none⟩ = some (.bool true) ∧ w'.cell? ⟨gb198, 1, none⟩ = some (.int .u64 a0_1) ∧ w'.cell? ⟨gb198, 2, none⟩ = some (.int .u64 a0_2) ∧ w'.cell? ⟨gb198, 3, none⟩ = some (.int .i64 (wrap64 (a0_3 + 1))) ∧ w'.cell? ⟨gb199, 0, none⟩ = some (.bool true) ∧ w'.cell? ⟨gb199, 1, none⟩ = some (.int .u64 a0_1) ∧ w'.cell? ⟨gb199, 2, none⟩ = some (.int .u64 (Go.bits .or .u64 a0_2 (ji55))) ∧ w'.cell? ⟨gb199, 3, none⟩ = some (.int .i64 (wrap64 (a0_3 + 1)))) (ds := []) #[Z,Z,Z,Z,Z] (by kernel_rfl) rfl rfl ⟨(blk_cell BK198.out 0).trans rfl, (blk_cell BK198.out 1).trans rfl, (blk_cell BK198.out 2).trans rfl, (blk_cell BK198.out 3).trans rfl, (blk_cell BK199.out 0).trans rfl, (blk_cell BK199.out 1).trans rfl, (blk_cell BK199.out 2).trans rfl, (blk_cell BK199.out 3).trans rfl⟩ (fun hHeld => ?_)
       generalize w74.drew = w75 at BK193 BK194 BK195 BK198 BK199 HB hHeld ⊢
       refine take_ (i := 0) (N := some 66) (v := ?_) (a' := ?_) #[Y,Z,Z,Z,Z] rfl rfl (by kernel_rfl) (fun _ _ _ h => h) (Or.inl ⟨by rfl, ?_⟩) hHeld ?_ ?_
       rotate_left
       ·rintro w' ⟨s0, s1, s2, s3, s4, s5, s6, s7⟩
        go_simp
        with_reducible rfl
       rotate_left
       ·exact Sr
       refine take_ (i := 1) (N := some 67) (v := ?_) (a' := ?_) #[Y,Y,Z,Z,Z] rfl rfl (by kernel_rfl) (fun _ _ _ h => h) (Or.inl ⟨by rfl, ?_⟩) hHeld ?_ ?_
       rotate_left
       ·rintro w' ⟨s0, s1, s2, s3, s4, s5, s6, s7⟩
        go_simp
        with_reducible rfl
       rotate_left
       ·exact Sr
       refine one_ (i := 2) (N := none) #[Y,Y,Y,Z,Z] rfl rfl (by kernel_rfl) (by decide) (fun K hK => ?_)
       have hs76 : w75.cell? ⟨gb194, 0, none⟩ = some (.bool false) := (blk_cell BK194.out 0).trans rfl
       have hfs76 := blk_frozen BK194.out 0
       have hns76_0 := NB193_194.out
       have hns76_2 := NB195_194.out
       have hns76_3 := NB198_194.out
       have hns76_4 := NB199_194.out
       have hms76_0 := NB194_193.out
       have hms76_2 := NB194_195.out
       have hms76_3 := NB194_198.out
       have hms76_4 := NB194_199.out
       have hs77 : w75.cell? ⟨gb194, 1, none⟩ = some (.int .u64 0) := (blk_cell BK194.out 1).trans rfl
       have hfs77 := blk_frozen BK194.out 1
       have hns77_0 := NB193_194.out
       have hns77_2 := NB195_194.out
       have hns77_3 := NB198_194.out
       have hns77_4 := NB199_194.out
       have hms77_0 := NB194_193.out
       have hms77_2 := NB194_195.out
       have hms77_3 := NB194_198.out
       have hms77_4 := NB194_199.out
       have hs78 : w75.cell? ⟨gb194, 2, none⟩ = some (.int .u64 0) := (blk_cell BK194.out 2).trans rfl
       have hfs78 := blk_frozen BK194.out 2
       have hns78_0 := NB193_194.out
       have hns78_2 := NB195_194.out
       have hns78_3 := NB198_194.out
       have hns78_4 := NB199_194.out
       have hms78_0 := NB194_193.out
       have hms78_2 := NB194_195.out
       have hms78_3 := NB194_198.out
       have hms78_4 := NB194_199.out
       have hs79 : w75.cell? ⟨gb194, 3, none⟩ = some (.int .i64 0) := (blk_cell BK194.out 3).trans rfl
       have hfs79 := blk_frozen BK194.out 3
       have hns79_0 := NB193_194.out
       have hns79_2 := NB195_194.out
       have hns79_3 := NB198_194.out
       have hns79_4 := NB199_194.out
       have hms79_0 := NB194_193.out
       have hms79_2 := NB194_195.out
       have hms79_3 := NB194_198.out
       have hms79_4 := NB194_199.out
       refine skip_ (w1 := ?_) (by rfl) rfl ?_ ?_
       rotate_left
       ·go_simp
        rfl
       refine hK.out _ _ ⟨((cell_far (p := ⟨gb194, _, none⟩) NB198_194.out _).trans (((cell_far (p := ⟨gb194, _, none⟩) NB198_194.out _).trans (((cell_far (p := ⟨gb194, _, none⟩) NB198_194.out _).trans (((cell_far (p := ⟨gb194, _, none⟩) NB198_194.out _).trans (hHeld.1)))))))), ((cell_far (p := ⟨gb194, _, none⟩) NB198_194.out _).trans (((cell_far (p := ⟨gb194, _, none⟩) NB198_194.out _).trans (((cell_far (p := ⟨gb194, _, none⟩) NB198_194.out _).trans (((cell_far (p := ⟨gb194, _, none⟩) NB198_194.out _).trans (hHeld.2.1)))))))), ((cell_far (p := ⟨gb194, _, none⟩) NB198_194.out _).trans (((cell_far (p := ⟨gb194, _, none⟩) NB198_194.out _).trans (((cell_far (p := ⟨gb194, _, none⟩) NB198_194.out _).trans (((cell_far (p := ⟨gb194, _, none⟩) NB198_194.out _).trans (hHeld.2.2.1)))))))), ((cell_far (p := ⟨gb194, _, none⟩) NB198_194.out _).trans (((cell_far (p := ⟨gb194, _, none⟩) NB198_194.out _).trans (((cell_far (p := ⟨gb194, _, none⟩) NB198_194.out _).trans (((cell_far (p := ⟨gb194, _, none⟩) NB198_194.out _).trans (hHeld.2.2.2.1)))))))), ((cell_far (p := ⟨gb194, _, none⟩) NB199_194.out _).trans (((cell_far (p := ⟨gb194, _, none⟩) NB199_194.out _).trans (((cell_far (p := ⟨gb194, _, none⟩) NB199_194.out _).trans (((cell_far (p := ⟨gb194, _, none⟩) NB199_194.out _).trans (hHeld.2.2.2.2.1)))))))), ((cell_far (p := ⟨gb194, _, none⟩) NB199_194.out _).trans (((cell_far (p := ⟨gb194, _, none⟩) NB199_194.out _).trans (((cell_far (p := ⟨gb194, _, none⟩) NB199_194.out _).trans (((cell_far (p := ⟨gb194, _, none⟩) NB199_194.out _).trans (hHeld.2.2.2.2.2.1)))))))), ((cell_far (p := ⟨gb194, _, none⟩) NB199_194.out _).trans (((cell_far (p := ⟨gb194, _, none⟩) NB199_194.out _).trans (((cell_far (p := ⟨gb194, _, none⟩) NB199_194.out _).trans (((cell_far (p := ⟨gb194, _, none⟩) NB199_194.out _).trans (hHeld.2.2.2.2.2.2.1)))))))), ((cell_far (p := ⟨gb194, _, none⟩) NB199_194.out _).trans (((cell_far (p := ⟨gb194, _, none⟩) NB199_194.out _).trans (((cell_far (p := ⟨gb194, _, none⟩) NB199_194.out _).trans (((cell_far (p := ⟨gb194, _, none⟩) NB199_194.out _).trans (hHeld.2.2.2.2.2.2.2))))))))⟩ (fun hHeld => ?_)
       clear hK K
       refine one_ (i := 3) (N := none) #[Y,Y,Y,Y,Z] rfl rfl (by kernel_rfl) (by decide) (fun K hK => ?_)
       have hs80 : w75.cell? ⟨gb195, 0, none⟩ = some (.bool false) := (blk_cell BK195.out 0).trans rfl
       have hfs80 := blk_frozen BK195.out 0
       have hns80_0 := NB193_195.out
       have hns80_1 := NB194_195.out
       have hns80_3 := NB198_195.out
       have hns80_4 := NB199_195.out
       have hms80_0 := NB195_193.out
       have hms80_1 := NB195_194.out
       have hms80_3 := NB195_198.out
       have hms80_4 := NB195_199.out
       have hs81 : w75.cell? ⟨gb195, 1, none⟩ = some (.int .u64 0) := (blk_cell BK195.out 1).trans rfl
       have hfs81 := blk_frozen BK195.out 1
       have hns81_0 := NB193_195.out
       have hns81_1 := NB194_195.out
       have hns81_3 := NB198_195.out
       have hns81_4 := NB199_195.out
       have hms81_0 := NB195_193.out
       have hms81_1 := NB195_194.out
       have hms81_3 := NB195_198.out
       have hms81_4 := NB195_199.out
       have hs82 : w75.cell? ⟨gb195, 2, none⟩ = some (.int .u64 0) := (blk_cell BK195.out 2).trans rfl
       have hfs82 := blk_frozen BK195.out 2
       have hns82_0 := NB193_195.out
       have hns82_1 := NB194_195.out
       have hns82_3 := NB198_195.out
       have hns82_4 := NB199_195.out
       have hms82_0 := NB195_193.out
       have hms82_1 := NB195_194.out
       have hms82_3 := NB195_198.out
       have hms82_4 := NB195_199.out
       have hs83 : w75.cell? ⟨gb195, 3, none⟩ = some (.int .i64 0) := (blk_cell BK195.out 3).trans rfl
       have hfs83 := blk_frozen BK195.out 3
       have hns83_0 := NB193_195.out
       have hns83_1 := NB194_195.out
       have hns83_3 := NB198_195.out
       have hns83_4 := NB199_195.out
       have hms83_0 := NB195_193.out
       have hms83_1 := NB195_194.out
       have hms83_3 := NB195_198.out
       have hms83_4 := NB195_199.out
       refine skip_ (w1 := ?_) (by rfl) rfl ?_ ?_
       rotate_left
       ·go_simp
        rfl
       refine hK.out _ _ ⟨((cell_far (p := ⟨gb195, _, none⟩) NB198_195.out _).trans (((cell_far (p := ⟨gb195, _, none⟩) NB198_195.out _).trans (((cell_far (p := ⟨gb195, _, none⟩) NB198_195.out _).trans (((cell_far (p := ⟨gb195, _, none⟩) NB198_195.out _).trans (hHeld.1)))))))), ((cell_far (p := ⟨gb195, _, none⟩) NB198_195.out _).trans (((cell_far (p := ⟨gb195, _, none⟩) NB198_195.out _).trans (((cell_far (p := ⟨gb195, _, none⟩) NB198_195.out _).trans (((cell_far (p := ⟨gb195, _, none⟩) NB198_195.out _).trans (hHeld.2.1)))))))), ((cell_far (p := ⟨gb195, _, none⟩) NB198_195.out _).trans (((cell_far (p := ⟨gb195, _, none⟩) NB198_195.out _).trans (((cell_far (p := ⟨gb195, _, none⟩) NB198_195.out _).trans (((cell_far (p := ⟨gb195, _, none⟩) NB198_195.out _).trans (hHeld.2.2.1)))))))), ((cell_far (p := ⟨gb195, _, none⟩) NB198_195.out _).trans (((cell_far (p := ⟨gb195, _, none⟩) NB198_195.out _).trans (((cell_far (p := ⟨gb195, _, none⟩) NB198_195.out _).trans (((cell_far (p := ⟨gb195, _, none⟩) NB198_195.out _).trans (hHeld.2.2.2.1)))))))), ((cell_far (p := ⟨gb195, _, none⟩) NB199_195.out _).trans (((cell_far (p := ⟨gb195, _, none⟩) NB199_195.out _).trans (((cell_far (p := ⟨gb195, _, none⟩) NB199_195.out _).trans (((cell_far (p := ⟨gb195, _, none⟩) NB199_195.out _).trans (hHeld.2.2.2.2.1)))))))), ((cell_far (p := ⟨gb195, _, none⟩) NB199_195.out _).trans (((cell_far (p := ⟨gb195, _, none⟩) NB199_195.out _).trans (((cell_far (p := ⟨gb195, _, none⟩) NB199_195.out _).trans (((cell_far (p := ⟨gb195, _, none⟩) NB199_195.out _).trans (hHeld.2.2.2.2.2.1)))))))), ((cell_far (p := ⟨gb195, _, none⟩) NB199_195.out _).trans (((cell_far (p := ⟨gb195, _, none⟩) NB199_195.out _).trans (((cell_far (p := ⟨gb195, _, none⟩) NB199_195.out _).trans (((cell_far (p := ⟨gb195, _, none⟩) NB199_195.out _).trans (hHeld.2.2.2.2.2.2.1)))))))), ((cell_far (p := ⟨gb195, _, none⟩) NB199_195.out _).trans (((cell_far (p := ⟨gb195, _, none⟩) NB199_195.out _).trans (((cell_far (p := ⟨gb195, _, none⟩) NB199_195.out _).trans (((cell_far (p := ⟨gb195, _, none⟩) NB199_195.out _).trans (hHeld.2.2.2.2.2.2.2))))))))⟩ (fun hHeld => ?_)
       clear hK K
       refine pure_ (i := 4) (N := some 4) (v := ?_) (a' := ?_) #[Y,Y,Y,Y,Y] rfl rfl (by kernel_rfl) (fun _ _ _ h => h) (Or.inl ⟨by rfl, ?_⟩) ?_ ?_
       rotate_left
       ·exact Sw
       rotate_left
       ·exact Sr
       refine done_ (by kernel_rfl) ?_
       try go_wp2
       refine bodyPost_ret (results_list (rs := [.cell 2 26, .cell 3 26, .tmp 4]) rfl (by simp) (.cell gb194 26 #[.bool true, .int .u64 a0_1, .int .u64 a0_2, .int .i64 (wrap64 (a0_3 + 1))] (0, 0) _ rfl (by refine St ?_; refine blk_far ?_ NB194_195.out _; refine St ?_; refine blk_far ?_ NB194_195.out _; refine St ?_; refine blk_far ?_ NB194_195.out _; refine St ?_; refine blk_far ?_ NB194_195.out _; refine St ?_; refine blk_put (cs := #[.bool true, .int .u64 a0_1, .int .u64 a0_2, .int .i64 0]) ?_ 3 _ rfl; refine St ?_; refine blk_put (cs := #[.bool true, .int .u64 a0_1, .int .u64 0, .int .i64 0]) ?_ 2 _ rfl; refine St ?_; refine blk_put (cs := #[.bool true, .int .u64 0, .int .u64 0, .int .i64 0]) ?_ 1 _ rfl; refine St ?_; refine blk_put (cs := #[.bool false, .int .u64 0, .int .u64 0, .int .i64 0]) ?_ 0 _ rfl; refine St ?_; exact BK194.out) Tryd.underlying26 rfl (by kernel_rfl) (.cell gb195 26 #[.bool true, .int .u64 a0_1, .int .u64 (Go.bits .or .u64 a0_2 (ji55)), .int .i64 (wrap64 (a0_3 + 1))] (0, 0) _ rfl (by refine St ?_; refine blk_put (cs := #[.bool true, .int .u64 a0_1, .int .u64 (Go.bits .or .u64 a0_2 (ji55)), .int .i64 0]) ?_ 3 _ rfl; refine St ?_; refine blk_put (cs := #[.bool true, .int .u64 a0_1, .int .u64 0, .int .i64 0]) ?_ 2 _ rfl; refine St ?_; refine blk_put (cs := #[.bool true, .int .u64 0, .int .u64 0, .int .i64 0]) ?_ 1 _ rfl; refine St ?_; refine blk_put (cs := #[.bool false, .int .u64 0, .int .u64 0, .int .i64 0]) ?_ 0 _ rfl; refine St ?_; refine blk_far ?_ NB195_194.out _; refine St ?_; refine blk_far ?_ NB195_194.out _; refine St ?_; refine blk_far ?_ NB195_194.out _; refine St ?_; refine blk_far ?_ NB195_194.out _; refine St ?_; exact BK195.out) Tryd.underlying26 rfl (by kernel_rfl) (.tmp .nil)))) rfl ?_
       exact ⟨by first | rfl | (simp [errW_none, errW_some] <;> rfl) | (simp only [← hji53, ← hji55]; first | rfl | (simp [errW_none, errW_some] <;> rfl)) | (simp [*, errW_none, errW_some] <;> rfl), Hb HB.out⟩
      ·rw [if_neg c54] at H
       exact absurd H (by simp)
    ·replace c20 := Bool.eq_false_iff.mpr c20
     subst c20
     have H1 : (if 0 ≤ (wrap64 (31 - a0_3)) then (some (false, a0_1, a0_2, wrap64 (a0_3 + 1), false, a0_1, Go.bits .or .u64 a0_2 (shl .u64 1 (wrap64 (31 - a0_3))), wrap64 (a0_3 + 1), 0)) else (none)) = some (r1, r2, r3, r4, r5, r6, r7, r8, r9) := by rw [if_neg (show ¬ (false = true) by decide)] at H; exact H
     clear H
     have H := H1
     clear H1
     obtain ⟨ji84, hji84⟩ : ∃ j_ : Int, (wrap64 (31 - a0_3)) = j_ := ⟨_, rfl⟩
     replace H : (if 0 ≤ (ji84) then (some (false, a0_1, a0_2, wrap64 (a0_3 + 1), false, a0_1, Go.bits .or .u64 a0_2 (shl .u64 1 (ji84)), wrap64 (a0_3 + 1), 0)) else (none)) = some (r1, r2, r3, r4, r5, r6, r7, r8, r9) := by first | (rw [hji84] at H; exact H) | (simp only [hji84] at H ⊢; exact H)
     have hji84w : (IntKind.i64.wrap (31 - a0_3)) = ji84 := (i64_w _).trans hji84
     by_cases c85 : 0 ≤ (ji84)
     ·rw [if_pos c85] at H
      have c85b0 := eq_true c85
      have c85b1 : decide (0 ≤ (ji84)) = true := decide_eq_true c85
      clear c85
      obtain ⟨ji86, hji86⟩ : ∃ j_ : Int, (shl .u64 1 (ji84)) = j_ := ⟨_, rfl⟩
      replace H : (some (false, a0_1, a0_2, wrap64 (a0_3 + 1), false, a0_1, Go.bits .or .u64 a0_2 (ji86), wrap64 (a0_3 + 1), 0)) = some (r1, r2, r3, r4, r5, r6, r7, r8, r9) := by first | (rw [hji86] at H; exact H) | (simp only [hji86] at H ⊢; exact H)
      have hji86_ : (IntKind.u64.wrap (1 * 2 ^ min (ji84).toNat 64)) = ji86 := hji86
      have hji86z : (ji84) ≤ 64 → (IntKind.u64.wrap (1 * 2 ^ (ji84).toNat)) = ji86 := shl_small hji86
      have hji86u : (IntKind.u64.wrap (2 ^ min (ji84).toNat 64)) = ji86 := by have h_ := hji86_; rw [Int.one_mul] at h_; exact h_
      have hji86v : (ji84) ≤ 64 → (IntKind.u64.wrap (2 ^ (ji84).toNat)) = ji86 := fun hle_ => by have h_ := hji86z hle_; rw [Int.one_mul] at h_; exact h_
      simp only [Option.some.injEq, Prod.mk.injEq] at H
      obtain ⟨rfl, rfl, rfl, rfl, rfl, rfl, rfl, rfl, rfl⟩ := H
      have hnb87 := NB193_194.out
      have hnc87 := NB194_193.out
      have hnb88 := NB193_195.out
      have hnc88 := NB195_193.out
      have hcz89_0 : wc.cell? ⟨gb193, 0, none⟩ = some (.bool false) := (blk_cell BK193.out 0).trans rfl
      have hcz89_1 : wc.cell? ⟨gb193, 1, none⟩ = some (.int .u64 a0_1) := (blk_cell BK193.out 1).trans rfl
      have hcz89_2 : wc.cell? ⟨gb193, 2, none⟩ = some (.int .u64 a0_2) := (blk_cell BK193.out 2).trans rfl
      have hcz89_3 : wc.cell? ⟨gb193, 3, none⟩ = some (.int .i64 a0_3) := (blk_cell BK193.out 3).trans rfl
      have hfz89_0 := blk_frozen BK193.out 0
      have hfz89_1 := blk_frozen BK193.out 1
      have hfz89_2 := blk_frozen BK193.out 2
      have hfz89_3 := blk_frozen BK193.out 3
      try go_wp2_with (first | ((with_reducible refine gate_dst (N := 5) rfl ?_); refine box_event ?hg (N := 5) ?hd (cs := #[.bool false, .int .u64 0, .int .u64 0, .int .i64 0]) (t := 26) ?hr ?_; (case hd => rfl); (case hg => rfl); (case hr => first | (go_simp; done) | (go_simp; rfl)); intro gb198 hg w90 hbox hb; have n0_ := Aside0.mk (blk_below (g := gb193) (o := .cells #[.bool false, .int .u64 a0_1, .int .u64 a0_2, .int .i64 a0_3] 26 (0, 0)) (St BK193.out) hb); have n1_ := Aside0.mk (blk_below (g := gb194) (o := .cells #[.bool false, .int .u64 0, .int .u64 0, .int .i64 0] 26 (0, 0)) (St BK194.out) hb); have n2_ := Aside0.mk (blk_below (g := gb195) (o := .cells #[.bool false, .int .u64 0, .int .u64 0, .int .i64 0] 26 (0, 0)) (St BK195.out) hb); have n3_ := Aside0.mk (below_step (Hb HB.out) hb); have n4_ := Aside0.mk (hbox); have n5_ := Aside0.mk ((by rw [hg]; exact (below_size (Hb HB.out)) : w.heap.size ≤ gb198)); have n6_ := Aside0.mk ((by rw [hg]; exact (below_size (Hb HB.out)) : w.heap.size ≤ gb198)); have n7_ := Aside0.mk ((by rw [hg]; exact Nat.ne_of_lt (blk_lt (g := gb193) (o := .cells #[.bool false, .int .u64 a0_1, .int .u64 a0_2, .int .i64 a0_3] 26 (0, 0)) (St BK193.out)) : gb193 ≠ gb198)); have n8_ := Aside0.mk ((by rw [hg]; exact Nat.ne_of_gt (blk_lt (g := gb193) (o := .cells #[.bool false, .int .u64 a0_1, .int .u64 a0_2, .int .i64 a0_3] 26 (0, 0)) (St BK193.out)) : gb198 ≠ gb193)); have n9_ := Aside0.mk ((by rw [hg]; exact Nat.ne_of_lt (blk_lt (g := gb194) (o := .cells #[.bool false, .int .u64 0, .int .u64 0, .int .i64 0] 26 (0, 0)) (St BK194.out)) : gb194 ≠ gb198)); have n10_ := Aside0.mk ((by rw [hg]; exact Nat.ne_of_gt (blk_lt (g := gb194) (o := .cells #[.bool false, .int .u64 0, .int .u64 0, .int .i64 0] 26 (0, 0)) (St BK194.out)) : gb198 ≠ gb194)); have n11_ := Aside0.mk ((by rw [hg]; exact Nat.ne_of_lt (blk_lt (g := gb195) (o := .cells #[.bool false, .int .u64 0, .int .u64 0, .int .i64 0] 26 (0, 0)) (St BK195.out)) : gb195 ≠ gb198)); have n12_ := Aside0.mk ((by rw [hg]; exact Nat.ne_of_gt (blk_lt (g := gb195) (o := .cells #[.bool false, .int .u64 0, .int .u64 0, .int .i64 0] 26 (0, 0)) (St BK195.out)) : gb198 ≠ gb195)); clear BK193; clear BK194; clear BK195; clear HB; have BK193 := n0_; have BK194 := n1_; have BK195 := n2_; have HB := n3_; have BK198 := n4_; have GW198 := n5_; have GE198 := n6_; have NB193_198 := n7_; have NB198_193 := n8_; have NB194_198 := n9_; have NB198_194 := n10_; have NB195_198 := n11_; have NB198_195 := n12_; clear n0_ n1_ n2_ n3_ n4_ n5_ n6_ n7_ n8_ n9_ n10_ n11_ n12_; clear hb hbox hg; have hnb91 := NB198_193.out; have hnc91 := NB193_198.out; have hnb92 := NB198_194.out; have hnc92 := NB194_198.out; have hnb93 := NB198_195.out; have hnc93 := NB195_198.out; have hcz94_0 : w90.cell? ⟨gb198, 0, none⟩ = some (.bool false) := (blk_cell BK198.out 0).trans rfl; have hcz94_1 : w90.cell? ⟨gb198, 1, none⟩ = some (.int .u64 0) := (blk_cell BK198.out 1).trans rfl; have hcz94_2 : w90.cell? ⟨gb198, 2, none⟩ = some (.int .u64 0) := (blk_cell BK198.out 2).trans rfl; have hcz94_3 : w90.cell? ⟨gb198, 3, none⟩ = some (.int .i64 0) := (blk_cell BK198.out 3).trans rfl; have hfz94_0 := blk_frozen BK198.out 0; have hfz94_1 := blk_frozen BK198.out 1; have hfz94_2 := blk_frozen BK198.out 2; have hfz94_3 := blk_frozen BK198.out 3) | ((with_reducible refine gate_dst (N := 6) rfl ?_); refine box_event ?hg (N := 6) ?hd (cs := #[.bool false, .int .u64 0, .int .u64 0, .int .i64 0]) (t := 26) ?hr ?_; (case hd => rfl); (case hg => rfl); (case hr => first | (go_simp; done) | (go_simp; rfl)); intro gb199 hg w95 hbox hb; have n0_ := Aside0.mk (blk_below (g := gb193) (o := .cells #[.bool false, .int .u64 a0_1, .int .u64 a0_2, .int .i64 a0_3] 26 (0, 0)) (by refine St ?_; refine blk_far ?_ NB193_198.out _; refine St ?_; refine blk_far ?_ NB193_198.out _; refine St ?_; refine blk_far ?_ NB193_198.out _; refine St ?_; refine blk_far ?_ NB193_198.out _; refine St ?_; exact BK193.out) hb); have n1_ := Aside0.mk (blk_below (g := gb194) (o := .cells #[.bool false, .int .u64 0, .int .u64 0, .int .i64 0] 26 (0, 0)) (by refine St ?_; refine blk_far ?_ NB194_198.out _; refine St ?_; refine blk_far ?_ NB194_198.out _; refine St ?_; refine blk_far ?_ NB194_198.out _; refine St ?_; refine blk_far ?_ NB194_198.out _; refine St ?_; exact BK194.out) hb); have n2_ := Aside0.mk (blk_below (g := gb195) (o := .cells #[.bool false, .int .u64 0, .int .u64 0, .int .i64 0] 26 (0, 0)) (by refine St ?_; refine blk_far ?_ NB195_198.out _; refine St ?_; refine blk_far ?_ NB195_198.out _; refine St ?_; refine blk_far ?_ NB195_198.out _; refine St ?_; refine blk_far ?_ NB195_198.out _; refine St ?_; exact BK195.out) hb); have n3_ := Aside0.mk (blk_below (g := gb198) (o := .cells #[.bool false, .int .u64 a0_1, .int .u64 a0_2, .int .i64 (wrap64 (a0_3 + 1))] 26 (0, 0)) (by refine St ?_; refine blk_put (cs := #[.bool false, .int .u64 a0_1, .int .u64 a0_2, .int .i64 0]) ?_ 3 _ rfl; refine St ?_; refine blk_put (cs := #[.bool false, .int .u64 a0_1, .int .u64 0, .int .i64 0]) ?_ 2 _ rfl; refine St ?_; refine blk_put (cs := #[.bool false, .int .u64 0, .int .u64 0, .int .i64 0]) ?_ 1 _ rfl; refine St ?_; refine blk_put (cs := #[.bool false, .int .u64 0, .int .u64 0, .int .i64 0]) ?_ 0 _ rfl; refine St ?_; exact BK198.out) hb); have n4_ := Aside0.mk (below_step (Hb HB.out) hb); have n5_ := Aside0.mk (hbox); have n6_ := Aside0.mk ((by rw [hg]; exact (below_size (Hb HB.out)) : w.heap.size ≤ gb199)); have n7_ := Aside0.mk ((by rw [hg]; exact (below_size (Hb HB.out)) : w.heap.size ≤ gb199)); have n8_ := Aside0.mk ((by rw [hg]; exact Nat.ne_of_lt (blk_lt (g := gb193) (o := .cells #[.bool false, .int .u64 a0_1, .int .u64 a0_2, .int .i64 a0_3] 26 (0, 0)) (by refine St ?_; refine blk_far ?_ NB193_198.out _; refine St ?_; refine blk_far ?_ NB193_198.out _; refine St ?_; refine blk_far ?_ NB193_198.out _; refine St ?_; refine blk_far ?_ NB193_198.out _; refine St ?_; exact BK193.out)) : gb193 ≠ gb199)); have n9_ := Aside0.mk ((by rw [hg]; exact Nat.ne_of_gt (blk_lt (g := gb193) (o := .cells #[.bool false, .int .u64 a0_1, .int .u64 a0_2, .int .i64 a0_3] 26 (0, 0)) (by refine St ?_; refine blk_far ?_ NB193_198.out _; refine St ?_; refine blk_far ?_ NB193_198.out _; refine St ?_; refine blk_far ?_ NB193_198.out _; refine St ?_; refine blk_far ?_ NB193_198.out _; refine St ?_; exact BK193.out)) : gb199 ≠ gb193)); have n10_ := Aside0.mk ((by rw [hg]; exact Nat.ne_of_lt (blk_lt (g := gb194) (o := .cells #[.bool false, .int .u64 0, .int .u64 0, .int .i64 0] 26 (0, 0)) (by refine St ?_; refine blk_far ?_ NB194_198.out _; refine St ?_; refine blk_far ?_ NB194_198.out _; refine St ?_; refine blk_far ?_ NB194_198.out _; refine St ?_; refine blk_far ?_ NB194_198.out _; refine St ?_; exact BK194.out)) : gb194 ≠ gb199)); have n11_ := Aside0.mk ((by rw [hg]; exact Nat.ne_of_gt (blk_lt (g := gb194) (o := .cells #[.bool false, .int .u64 0, .int .u64 0, .int .i64 0] 26 (0, 0)) (by refine St ?_; refine blk_far ?_ NB194_198.out _; refine St ?_; refine blk_far ?_ NB194_198.out _; refine St ?_; refine blk_far ?_ NB194_198.out _; refine St ?_; refine blk_far ?_ NB194_198.out _; refine St ?_; exact BK194.out)) : gb199 ≠ gb194)); have n12_ := Aside0.mk ((by rw [hg]; exact Nat.ne_of_lt (blk_lt (g := gb195) (o := .cells #[.bool false, .int .u64 0, .int .u64 0, .int .i64 0] 26 (0, 0)) (by refine St ?_; refine blk_far ?_ NB195_198.out _; refine St ?_; refine blk_far ?_ NB195_198.out _; refine St ?_; refine blk_far ?_ NB195_198.out _; refine St ?_; refine blk_far ?_ NB195_198.out _; refine St ?_; exact BK195.out)) : gb195 ≠ gb199)); have n13_ := Aside0.mk ((by rw [hg]; exact Nat.ne_of_gt (blk_lt (g := gb195) (o := .cells #[.bool false, .int .u64 0, .int .u64 0, .int .i64 0] 26 (0, 0)) (by refine St ?_; refine blk_far ?_ NB195_198.out _; refine St ?_; refine blk_far ?_ NB195_198.out _; refine St ?_; refine blk_far ?_ NB195_198.out _; refine St ?_; refine blk_far ?_ NB195_198.out _; refine St ?_; exact BK195.out)) : gb199 ≠ gb195)); have n14_ := Aside0.mk ((by rw [hg]; exact Nat.ne_of_lt (blk_lt (g := gb198) (o := .cells #[.bool false, .int .u64 a0_1, .int .u64 a0_2, .int .i64 (wrap64 (a0_3 + 1))] 26 (0, 0)) (by refine St ?_; refine blk_put (cs := #[.bool false, .int .u64 a0_1, .int .u64 a0_2, .int .i64 0]) ?_ 3 _ rfl; refine St ?_; refine blk_put (cs := #[.bool false, .int .u64 a0_1, .int .u64 0, .int .i64 0]) ?_ 2 _ rfl; refine St ?_; refine blk_put (cs := #[.bool false, .int .u64 0, .int .u64 0, .int .i64 0]) ?_ 1 _ rfl; refine St ?_; refine blk_put (cs := #[.bool false, .int .u64 0, .int .u64 0, .int .i64 0]) ?_ 0 _ rfl; refine St ?_; exact BK198.out)) : gb198 ≠ gb199)); have n15_ := Aside0.mk ((by rw [hg]; exact Nat.ne_of_gt (blk_lt (g := gb198) (o := .cells #[.bool false, .int .u64 a0_1, .int .u64 a0_2, .int .i64 (wrap64 (a0_3 + 1))] 26 (0, 0)) (by refine St ?_; refine blk_put (cs := #[.bool false, .int .u64 a0_1, .int .u64 a0_2, .int .i64 0]) ?_ 3 _ rfl; refine St ?_; refine blk_put (cs := #[.bool false, .int .u64 a0_1, .int .u64 0, .int .i64 0]) ?_ 2 _ rfl; refine St ?_; refine blk_put (cs := #[.bool false, .int .u64 0, .int .u64 0, .int .i64 0]) ?_ 1 _ rfl; refine St ?_; refine blk_put (cs := #[.bool false, .int .u64 0, .int .u64 0, .int .i64 0]) ?_ 0 _ rfl; refine St ?_; exact BK198.out)) : gb199 ≠ gb198)); clear BK193; clear BK194; clear BK195; clear BK198; clear HB; have BK193 := n0_; have BK194 := n1_; have BK195 := n2_; have BK198 := n3_; have HB := n4_; have BK199 := n5_; have GW199 := n6_; have GE199 := n7_; have NB193_199 := n8_; have NB199_193 := n9_; have NB194_199 := n10_; have NB199_194 := n11_; have NB195_199 := n12_; have NB199_195 := n13_; have NB198_199 := n14_; have NB199_198 := n15_; clear n0_ n1_ n2_ n3_ n4_ n5_ n6_ n7_ n8_ n9_ n10_ n11_ n12_ n13_ n14_ n15_; clear hb hbox hg; have hnb96 := NB199_193.out; have hnc96 := NB193_199.out; have hnb97 := NB199_194.out; have hnc97 := NB194_199.out; have hnb98 := NB199_195.out; have hnc98 := NB195_199.out; have hnb99 := NB199_198.out; have hnc99 := NB198_199.out; have hcz100_0 : w95.cell? ⟨gb199, 0, none⟩ = some (.bool false) := (blk_cell BK199.out 0).trans rfl; have hcz100_1 : w95.cell? ⟨gb199, 1, none⟩ = some (.int .u64 0) := (blk_cell BK199.out 1).trans rfl; have hcz100_2 : w95.cell? ⟨gb199, 2, none⟩ = some (.int .u64 0) := (blk_cell BK199.out 2).trans rfl; have hcz100_3 : w95.cell? ⟨gb199, 3, none⟩ = some (.int .i64 0) := (blk_cell BK199.out 3).trans rfl; have hfz100_0 := blk_frozen BK199.out 0; have hfz100_1 := blk_frozen BK199.out 1; have hfz100_2 := blk_frozen BK199.out 2; have hfz100_3 := blk_frozen BK199.out 3; have hcz101_0 : w95.cell? ⟨gb193, 0, none⟩ = some (.bool false) := (blk_cell BK193.out 0).trans rfl; have hcz101_1 : w95.cell? ⟨gb193, 1, none⟩ = some (.int .u64 a0_1) := (blk_cell BK193.out 1).trans rfl; have hcz101_2 : w95.cell? ⟨gb193, 2, none⟩ = some (.int .u64 a0_2) := (blk_cell BK193.out 2).trans rfl; have hcz101_3 : w95.cell? ⟨gb193, 3, none⟩ = some (.int .i64 a0_3) := (blk_cell BK193.out 3).trans rfl; have hfz101_0 := blk_frozen BK193.out 0; have hfz101_1 := blk_frozen BK193.out 1; have hfz101_2 := blk_frozen BK193.out 2; have hfz101_3 := blk_frozen BK193.out 3))
      have n0_ : Aside0 (((((w95.setCell ⟨gb199, 0, none⟩ (.bool false)).setCell ⟨gb199, 1, none⟩ (.int .u64 a0_1)).setCell ⟨gb199, 2, none⟩ (.int .u64 a0_2)).setCell ⟨gb199, 3, none⟩ (.int .i64 (wrap64 (a0_3 + 1)))).heap[gb193]? = some (.cells #[.bool false, .int .u64 a0_1, .int .u64 a0_2, .int .i64 a0_3] 26 (0, 0))) := ⟨by refine St ?_; refine blk_far ?_ NB193_199.out _; refine St ?_; refine blk_far ?_ NB193_199.out _; refine St ?_; refine blk_far ?_ NB193_199.out _; refine St ?_; refine blk_far ?_ NB193_199.out _; refine St ?_; exact BK193.out⟩
      have n1_ : Aside0 (((((w95.setCell ⟨gb199, 0, none⟩ (.bool false)).setCell ⟨gb199, 1, none⟩ (.int .u64 a0_1)).setCell ⟨gb199, 2, none⟩ (.int .u64 a0_2)).setCell ⟨gb199, 3, none⟩ (.int .i64 (wrap64 (a0_3 + 1)))).heap[gb194]? = some (.cells #[.bool false, .int .u64 0, .int .u64 0, .int .i64 0] 26 (0, 0))) := ⟨by refine St ?_; refine blk_far ?_ NB194_199.out _; refine St ?_; refine blk_far ?_ NB194_199.out _; refine St ?_; refine blk_far ?_ NB194_199.out _; refine St ?_; refine blk_far ?_ NB194_199.out _; refine St ?_; exact BK194.out⟩
      have n2_ : Aside0 (((((w95.setCell ⟨gb199, 0, none⟩ (.bool false)).setCell ⟨gb199, 1, none⟩ (.int .u64 a0_1)).setCell ⟨gb199, 2, none⟩ (.int .u64 a0_2)).setCell ⟨gb199, 3, none⟩ (.int .i64 (wrap64 (a0_3 + 1)))).heap[gb195]? = some (.cells #[.bool false, .int .u64 0, .int .u64 0, .int .i64 0] 26 (0, 0))) := ⟨by refine St ?_; refine blk_far ?_ NB195_199.out _; refine St ?_; refine blk_far ?_ NB195_199.out _; refine St ?_; refine blk_far ?_ NB195_199.out _; refine St ?_; refine blk_far ?_ NB195_199.out _; refine St ?_; exact BK195.out⟩
      have n3_ : Aside0 (((((w95.setCell ⟨gb199, 0, none⟩ (.bool false)).setCell ⟨gb199, 1, none⟩ (.int .u64 a0_1)).setCell ⟨gb199, 2, none⟩ (.int .u64 a0_2)).setCell ⟨gb199, 3, none⟩ (.int .i64 (wrap64 (a0_3 + 1)))).heap[gb198]? = some (.cells #[.bool false, .int .u64 a0_1, .int .u64 a0_2, .int .i64 (wrap64 (a0_3 + 1))] 26 (0, 0))) := ⟨by refine St ?_; refine blk_far ?_ NB198_199.out _; refine St ?_; refine blk_far ?_ NB198_199.out _; refine St ?_; refine blk_far ?_ NB198_199.out _; refine St ?_; refine blk_far ?_ NB198_199.out _; refine St ?_; exact BK198.out⟩
      have n4_ : Aside0 (((((w95.setCell ⟨gb199, 0, none⟩ (.bool false)).setCell ⟨gb199, 1, none⟩ (.int .u64 a0_1)).setCell ⟨gb199, 2, none⟩ (.int .u64 a0_2)).setCell ⟨gb199, 3, none⟩ (.int .i64 (wrap64 (a0_3 + 1)))).heap[gb199]? = some (.cells #[.bool false, .int .u64 a0_1, .int .u64 a0_2, .int .i64 (wrap64 (a0_3 + 1))] 26 (0, 0))) := ⟨by refine St ?_; refine blk_put (cs := #[.bool false, .int .u64 a0_1, .int .u64 a0_2, .int .i64 0]) ?_ 3 _ rfl; refine St ?_; refine blk_put (cs := #[.bool false, .int .u64 a0_1, .int .u64 0, .int .i64 0]) ?_ 2 _ rfl; refine St ?_; refine blk_put (cs := #[.bool false, .int .u64 0, .int .u64 0, .int .i64 0]) ?_ 1 _ rfl; refine St ?_; refine blk_put (cs := #[.bool false, .int .u64 0, .int .u64 0, .int .i64 0]) ?_ 0 _ rfl; refine St ?_; exact BK199.out⟩
      have n5_ : Aside0 (Below w.heap.size w ((((w95.setCell ⟨gb199, 0, none⟩ (.bool false)).setCell ⟨gb199, 1, none⟩ (.int .u64 a0_1)).setCell ⟨gb199, 2, none⟩ (.int .u64 a0_2)).setCell ⟨gb199, 3, none⟩ (.int .i64 (wrap64 (a0_3 + 1))))) := ⟨Hb HB.out⟩
      (try clear BK193)
      (try clear BK194)
      (try clear BK195)
      (try clear BK198)
      (try clear BK199)
      (try clear HB)
      generalize ((((w95.setCell ⟨gb199, 0, none⟩ (.bool false)).setCell ⟨gb199, 1, none⟩ (.int .u64 a0_1)).setCell ⟨gb199, 2, none⟩ (.int .u64 a0_2)).setCell ⟨gb199, 3, none⟩ (.int .i64 (wrap64 (a0_3 + 1)))) = w102 at n0_ n1_ n2_ n3_ n4_ n5_ ⊢
      have BK193 := n0_
      have BK194 := n1_
      have BK195 := n2_
      have BK198 := n3_
      have BK199 := n4_
      have HB := n5_
      clear n0_ n1_ n2_ n3_ n4_ n5_
      have n0_ := Aside0.mk (blk_drew BK193.out)
      have n1_ := Aside0.mk (blk_drew BK194.out)
      have n2_ := Aside0.mk (blk_drew BK195.out)
      have n3_ := Aside0.mk (blk_drew BK198.out)
      have n4_ := Aside0.mk (blk_drew BK199.out)
      have n5_ := Aside0.mk (below_drew1 HB.out)
      clear BK193
      clear BK194
      clear BK195
      clear BK198
      clear BK199
      clear HB
      have BK193 := n0_
      have BK194 := n1_
      have BK195 := n2_
      have BK198 := n3_
      have BK199 := n4_
      have HB := n5_
      clear n0_ n1_ n2_ n3_ n4_ n5_
      refine start_ (n := 11) (S := fun w' => w'.cell? ⟨gb199, 0, none⟩ = some (.bool false) ∧ w'.cell? ⟨gb199, 1, none⟩ = some (.int .u64 a0_1) ∧ w'.cell? ⟨gb199, 2, none⟩ = some (.int .u64 a0_2) ∧ w'.cell? ⟨gb199, 3, none⟩ = some (.int .i64 (wrap64 (a0_3 + 1))) ∧ w'.cell? ⟨gb193, 0, none⟩ = some (.bool false) ∧ w'.cell? ⟨gb193, 1, none⟩ = some (.int .u64 a0_1) ∧ w'.cell? ⟨gb193, 2, none⟩ = some (.int .u64 a0_2) ∧ w'.cell? ⟨gb193, 3, none⟩ = some (.int .i64 a0_3)) (ds := [10]) #[Z,Z,Z,Z,Z,Z,Z,Z,Z,Z,Z] (by kernel_rfl) rfl rfl ⟨(blk_cell BK199.out 0).trans rfl, (blk_cell BK199.out 1).trans rfl, (blk_cell BK199.out 2).trans rfl, (blk_cell BK199.out 3).trans rfl, (blk_cell BK193.out 0).trans rfl, (blk_cell BK193.out 1).trans rfl, (blk_cell BK193.out 2).trans rfl, (blk_cell BK193.out 3).trans rfl⟩ (fun hHeld => ?_); refine with_tabW prefix_Halves.tab7 prefix_Halves.bits7 (fun HT_ HW_ => ?_)
      generalize w102.drew = w103 at BK193 BK194 BK195 BK198 BK199 HB hHeld ⊢
      refine pure_ (i := 0) (N := some 42) (v := ?_) (a' := ?_) #[Y,Z,Z,Z,Z,Z,Z,Z,Z,Z,Z] rfl rfl (any_of HT_.out (by kernel_rfl)) (fun _ _ _ h => h) (Or.inl ⟨by rfl, ?_⟩) ?_ ?_
      rotate_left
      ·exact Sw
      rotate_left
      ·exact Sr
      refine pure_ (i := 1) (N := some 43) (v := ?_) (a' := ?_) #[Y,Y,Z,Z,Z,Z,Z,Z,Z,Z,Z] rfl rfl (any_of HT_.out (by kernel_rfl)) (fun _ _ _ h => h) (Or.inl ⟨by rfl, ?_⟩) ?_ ?_
      rotate_left
      ·exact Sw
      rotate_left
      ·exact Sr
      refine pure_ (i := 3) (N := some 45) (v := ?_) (a' := ?_) #[Y,Y,Z,Y,Z,Z,Z,Z,Z,Z,Z] rfl rfl (any_of HT_.out (by kernel_rfl)) (fun _ _ _ h => h) (Or.inl ⟨by rfl, ?_⟩) ?_ ?_
      rotate_left
      ·exact Sw
      rotate_left
      ·exact Sr
      refine take_ (i := 2) (N := some 44) (v := ?_) (a' := ?_) #[Y,Y,Y,Y,Z,Z,Z,Z,Z,Z,Z] rfl rfl (take_ofW HT_.out HW_.out (by kernel_rfl)) (fun _ _ _ h => h) (Or.inl ⟨by rfl, ?_⟩) hHeld ?_ ?_
      rotate_left
      ·rintro w' ⟨s0, s1, s2, s3, s4, s5, s6, s7⟩
       go_simp
       with_reducible rfl
      rotate_left
      ·exact Sr
      refine take_ (i := 4) (N := some 46) (v := ?_) (a' := ?_) #[Y,Y,Y,Y,Y,Z,Z,Z,Z,Z,Z] rfl rfl (take_ofW HT_.out HW_.out (by kernel_rfl)) (fun _ _ _ h => h) (Or.inl ⟨by rfl, ?_⟩) hHeld ?_ ?_
      rotate_left
      ·rintro w' ⟨s0, s1, s2, s3, s4, s5, s6, s7⟩
       go_simp
       with_reducible rfl
      rotate_left
      ·exact Sr
      refine pure_ (i := 5) (N := some 47) (v := ?_) (a' := ?_) #[Y,Y,Y,Y,Y,Y,Z,Z,Z,Z,Z] rfl rfl (any_of HT_.out (by kernel_rfl)) (fun _ _ _ h => h) (Or.inl ⟨by rfl, ?_⟩) ?_ ?_
      rotate_left
      ·exact Sw
      rotate_left
      ·exact Sr
      refine pure_ (i := 6) (N := some 48) (v := ?_) (a' := ?_) #[Y,Y,Y,Y,Y,Y,Y,Z,Z,Z,Z] rfl rfl (any_of HT_.out (by kernel_rfl)) (fun _ _ _ h => h) (Or.inl ⟨by rfl, ?_⟩) ?_ ?_
      rotate_left
      ·exact Sw
      rotate_left
      ·exact Sr
      refine pure_ (i := 7) (N := some 49) (v := ?_) (a' := ?_) #[Y,Y,Y,Y,Y,Y,Y,Y,Z,Z,Z] rfl rfl (any_of HT_.out (by kernel_rfl)) (fun _ _ _ h => h) (Or.inl ⟨by rfl, ?_⟩) ?_ ?_
      rotate_left
      ·exact Sw
      rotate_left
      ·exact Sr
      refine pure_ (i := 8) (N := some 50) (v := ?_) (a' := ?_) #[Y,Y,Y,Y,Y,Y,Y,Y,Y,Z,Z] rfl rfl (any_of HT_.out (by kernel_rfl)) (fun _ _ _ h => h) (Or.inl ⟨by rfl, ?_⟩) ?_ ?_
      rotate_left
      ·exact Sw
      rotate_left
      ·exact Sr
      refine pure_ (i := 9) (N := some 51) (v := ?_) (a' := ?_) #[Y,Y,Y,Y,Y,Y,Y,Y,Y,Y,Z] rfl rfl (any_of HT_.out (by kernel_rfl)) (fun _ _ _ h => h) (Or.inl ⟨by rfl, ?_⟩) ?_ ?_
      rotate_left
      ·exact Sw
      rotate_left
      ·exact Sr
      refine last_ (i := 10) (N := none) #[Y,Y,Y,Y,Y,Y,Y,Y,Y,Y,Y] rfl rfl (one_of HT_.out (by kernel_rfl)) (by decide) (fun K hK => ?_)
      have hs104 : w103.cell? ⟨gb199, 2, none⟩ = some (.int .u64 a0_2) := (blk_cell BK199.out 2).trans rfl
      have hfs104 := blk_frozen BK199.out 2
      have hns104_0 := NB193_199.out
      have hns104_1 := NB194_199.out
      have hns104_2 := NB195_199.out
      have hns104_3 := NB198_199.out
      have hms104_0 := NB199_193.out
      have hms104_1 := NB199_194.out
      have hms104_2 := NB199_195.out
      have hms104_3 := NB199_198.out
      refine skip_ (w1 := ?_) (by rfl) rfl ?_ ?_
      rotate_left
      ·go_simp
       rfl
      refine hK.out _ _ ?_
      clear hK K
      refine done_ (done_of HT_.out (by kernel_rfl)) ?_
      try go_wp2
      have n0_ : Aside0 ((w103.setCell ⟨gb199, 2, none⟩ (.int .u64 (Go.bits .or .u64 a0_2 (ji86)))).heap[gb193]? = some (.cells #[.bool false, .int .u64 a0_1, .int .u64 a0_2, .int .i64 a0_3] 26 (0, 0))) := ⟨by refine St ?_; refine blk_far ?_ NB193_199.out _; refine St ?_; exact BK193.out⟩
      have n1_ : Aside0 ((w103.setCell ⟨gb199, 2, none⟩ (.int .u64 (Go.bits .or .u64 a0_2 (ji86)))).heap[gb194]? = some (.cells #[.bool false, .int .u64 0, .int .u64 0, .int .i64 0] 26 (0, 0))) := ⟨by refine St ?_; refine blk_far ?_ NB194_199.out _; refine St ?_; exact BK194.out⟩
      have n2_ : Aside0 ((w103.setCell ⟨gb199, 2, none⟩ (.int .u64 (Go.bits .or .u64 a0_2 (ji86)))).heap[gb195]? = some (.cells #[.bool false, .int .u64 0, .int .u64 0, .int .i64 0] 26 (0, 0))) := ⟨by refine St ?_; refine blk_far ?_ NB195_199.out _; refine St ?_; exact BK195.out⟩
      have n3_ : Aside0 ((w103.setCell ⟨gb199, 2, none⟩ (.int .u64 (Go.bits .or .u64 a0_2 (ji86)))).heap[gb198]? = some (.cells #[.bool false, .int .u64 a0_1, .int .u64 a0_2, .int .i64 (wrap64 (a0_3 + 1))] 26 (0, 0))) := ⟨by refine St ?_; refine blk_far ?_ NB198_199.out _; refine St ?_; exact BK198.out⟩
      have n4_ : Aside0 ((w103.setCell ⟨gb199, 2, none⟩ (.int .u64 (Go.bits .or .u64 a0_2 (ji86)))).heap[gb199]? = some (.cells #[.bool false, .int .u64 a0_1, .int .u64 (Go.bits .or .u64 a0_2 (ji86)), .int .i64 (wrap64 (a0_3 + 1))] 26 (0, 0))) := ⟨by refine St ?_; refine blk_put (cs := #[.bool false, .int .u64 a0_1, .int .u64 a0_2, .int .i64 (wrap64 (a0_3 + 1))]) ?_ 2 _ rfl; refine St ?_; exact BK199.out⟩
      have n5_ : Aside0 (Below w.heap.size w (w103.setCell ⟨gb199, 2, none⟩ (.int .u64 (Go.bits .or .u64 a0_2 (ji86))))) := ⟨Hb HB.out⟩
      (try clear BK193)
      (try clear BK194)
      (try clear BK195)
      (try clear BK198)
      (try clear BK199)
      (try clear HB)
      generalize (w103.setCell ⟨gb199, 2, none⟩ (.int .u64 (Go.bits .or .u64 a0_2 (ji86)))) = w105 at n0_ n1_ n2_ n3_ n4_ n5_ ⊢
      have BK193 := n0_
      have BK194 := n1_
      have BK195 := n2_
      have BK198 := n3_
      have BK199 := n4_
      have HB := n5_
      clear n0_ n1_ n2_ n3_ n4_ n5_
      have n0_ := Aside0.mk (blk_drew BK193.out)
      have n1_ := Aside0.mk (blk_drew BK194.out)
      have n2_ := Aside0.mk (blk_drew BK195.out)
      have n3_ := Aside0.mk (blk_drew BK198.out)
      have n4_ := Aside0.mk (blk_drew BK199.out)
      have n5_ := Aside0.mk (below_drew1 HB.out)
      clear BK193
      clear BK194
      clear BK195
      clear BK198
      clear BK199
      clear HB
      have BK193 := n0_
      have BK194 := n1_
      have BK195 := n2_
      have BK198 := n3_
      have BK199 := n4_
      have HB := n5_
      clear n0_ n1_ n2_ n3_ n4_ n5_
      refine start_ (n := 5) (S := fun w' => w'.cell? ⟨gb198, 0, none⟩ = some (.bool false) ∧ w'.cell? ⟨gb198, 1, none⟩ = some (.int .u64 a0_1) ∧ w'.cell? ⟨gb198, 2, none⟩ = some (.int .u64 a0_2) ∧ w'.cell? ⟨gb198, 3, none⟩ = some (.int .i64 (wrap64 (a0_3 + 1))) ∧ w'.cell? ⟨gb199, 0, none⟩ = some (.bool false) ∧ w'.cell? ⟨gb199, 1, none⟩ = some (.int .u64 a0_1) ∧ w'.cell? ⟨gb199, 2, none⟩ = some (.int .u64 (Go.bits .or .u64 a0_2 (ji86))) ∧ w'.cell? ⟨gb199, 3, none⟩ = some (.int .i64 (wrap64 (a0_3 + 1)))) (ds := []) #[Z,Z,Z,Z,Z] (by kernel_rfl) rfl rfl ⟨(blk_cell BK198.out 0).trans rfl, (blk_cell BK198.out 1).trans rfl, (blk_cell BK198.out 2).trans rfl, (blk_cell BK198.out 3).trans rfl, (blk_cell BK199.out 0).trans rfl, (blk_cell BK199.out 1).trans rfl, (blk_cell BK199.out 2).trans rfl, (blk_cell BK199.out 3).trans rfl⟩ (fun hHeld => ?_)
      generalize w105.drew = w106 at BK193 BK194 BK195 BK198 BK199 HB hHeld ⊢
      refine take_ (i := 0) (N := some 66) (v := ?_) (a' := ?_) #[Y,Z,Z,Z,Z] rfl rfl (by kernel_rfl) (fun _ _ _ h => h) (Or.inl ⟨by rfl, ?_⟩) hHeld ?_ ?_
      rotate_left
      ·rintro w' ⟨s0, s1, s2, s3, s4, s5, s6, s7⟩
       go_simp
       with_reducible rfl
      rotate_left
      ·exact Sr
      refine take_ (i := 1) (N := some 67) (v := ?_) (a' := ?_) #[Y,Y,Z,Z,Z] rfl rfl (by kernel_rfl) (fun _ _ _ h => h) (Or.inl ⟨by rfl, ?_⟩) hHeld ?_ ?_
      rotate_left
      ·rintro w' ⟨s0, s1, s2, s3, s4, s5, s6, s7⟩
       go_simp
       with_reducible rfl
      rotate_left
      ·exact Sr
      refine one_ (i := 2) (N := none) #[Y,Y,Y,Z,Z] rfl rfl (by kernel_rfl) (by decide) (fun K hK => ?_)
      have hs107 : w106.cell? ⟨gb194, 0, none⟩ = some (.bool false) := (blk_cell BK194.out 0).trans rfl
      have hfs107 := blk_frozen BK194.out 0
      have hns107_0 := NB193_194.out
      have hns107_2 := NB195_194.out
      have hns107_3 := NB198_194.out
      have hns107_4 := NB199_194.out
      have hms107_0 := NB194_193.out
      have hms107_2 := NB194_195.out
      have hms107_3 := NB194_198.out
      have hms107_4 := NB194_199.out
      have hs108 : w106.cell? ⟨gb194, 1, none⟩ = some (.int .u64 0) := (blk_cell BK194.out 1).trans rfl
      have hfs108 := blk_frozen BK194.out 1
      have hns108_0 := NB193_194.out
      have hns108_2 := NB195_194.out
      have hns108_3 := NB198_194.out
      have hns108_4 := NB199_194.out
      have hms108_0 := NB194_193.out
      have hms108_2 := NB194_195.out
      have hms108_3 := NB194_198.out
      have hms108_4 := NB194_199.out
      have hs109 : w106.cell? ⟨gb194, 2, none⟩ = some (.int .u64 0) := (blk_cell BK194.out 2).trans rfl
      have hfs109 := blk_frozen BK194.out 2
      have hns109_0 := NB193_194.out
      have hns109_2 := NB195_194.out
      have hns109_3 := NB198_194.out
      have hns109_4 := NB199_194.out
      have hms109_0 := NB194_193.out
      have hms109_2 := NB194_195.out
      have hms109_3 := NB194_198.out
      have hms109_4 := NB194_199.out
      have hs110 : w106.cell? ⟨gb194, 3, none⟩ = some (.int .i64 0) := (blk_cell BK194.out 3).trans rfl
      have hfs110 := blk_frozen BK194.out 3
      have hns110_0 := NB193_194.out
      have hns110_2 := NB195_194.out
      have hns110_3 := NB198_194.out
      have hns110_4 := NB199_194.out
      have hms110_0 := NB194_193.out
      have hms110_2 := NB194_195.out
      have hms110_3 := NB194_198.out
      have hms110_4 := NB194_199.out
      refine skip_ (w1 := ?_) (by rfl) rfl ?_ ?_
      rotate_left
      ·go_simp
       rfl
      refine hK.out _ _ ⟨((cell_far (p := ⟨gb194, _, none⟩) NB198_194.out _).trans (((cell_far (p := ⟨gb194, _, none⟩) NB198_194.out _).trans (((cell_far (p := ⟨gb194, _, none⟩) NB198_194.out _).trans (((cell_far (p := ⟨gb194, _, none⟩) NB198_194.out _).trans (hHeld.1)))))))), ((cell_far (p := ⟨gb194, _, none⟩) NB198_194.out _).trans (((cell_far (p := ⟨gb194, _, none⟩) NB198_194.out _).trans (((cell_far (p := ⟨gb194, _, none⟩) NB198_194.out _).trans (((cell_far (p := ⟨gb194, _, none⟩) NB198_194.out _).trans (hHeld.2.1)))))))), ((cell_far (p := ⟨gb194, _, none⟩) NB198_194.out _).trans (((cell_far (p := ⟨gb194, _, none⟩) NB198_194.out _).trans (((cell_far (p := ⟨gb194, _, none⟩) NB198_194.out _).trans (((cell_far (p := ⟨gb194, _, none⟩) NB198_194.out _).trans (hHeld.2.2.1)))))))), ((cell_far (p := ⟨gb194, _, none⟩) NB198_194.out _).trans (((cell_far (p := ⟨gb194, _, none⟩) NB198_194.out _).trans (((cell_far (p := ⟨gb194, _, none⟩) NB198_194.out _).trans (((cell_far (p := ⟨gb194, _, none⟩) NB198_194.out _).trans (hHeld.2.2.2.1)))))))), ((cell_far (p := ⟨gb194, _, none⟩) NB199_194.out _).trans (((cell_far (p := ⟨gb194, _, none⟩) NB199_194.out _).trans (((cell_far (p := ⟨gb194, _, none⟩) NB199_194.out _).trans (((cell_far (p := ⟨gb194, _, none⟩) NB199_194.out _).trans (hHeld.2.2.2.2.1)))))))), ((cell_far (p := ⟨gb194, _, none⟩) NB199_194.out _).trans (((cell_far (p := ⟨gb194, _, none⟩) NB199_194.out _).trans (((cell_far (p := ⟨gb194, _, none⟩) NB199_194.out _).trans (((cell_far (p := ⟨gb194, _, none⟩) NB199_194.out _).trans (hHeld.2.2.2.2.2.1)))))))), ((cell_far (p := ⟨gb194, _, none⟩) NB199_194.out _).trans (((cell_far (p := ⟨gb194, _, none⟩) NB199_194.out _).trans (((cell_far (p := ⟨gb194, _, none⟩) NB199_194.out _).trans (((cell_far (p := ⟨gb194, _, none⟩) NB199_194.out _).trans (hHeld.2.2.2.2.2.2.1)))))))), ((cell_far (p := ⟨gb194, _, none⟩) NB199_194.out _).trans (((cell_far (p := ⟨gb194, _, none⟩) NB199_194.out _).trans (((cell_far (p := ⟨gb194, _, none⟩) NB199_194.out _).trans (((cell_far (p := ⟨gb194, _, none⟩) NB199_194.out _).trans (hHeld.2.2.2.2.2.2.2))))))))⟩ (fun hHeld => ?_)
      clear hK K
      refine one_ (i := 3) (N := none) #[Y,Y,Y,Y,Z] rfl rfl (by kernel_rfl) (by decide) (fun K hK => ?_)
      have hs111 : w106.cell? ⟨gb195, 0, none⟩ = some (.bool false) := (blk_cell BK195.out 0).trans rfl
      have hfs111 := blk_frozen BK195.out 0
      have hns111_0 := NB193_195.out
      have hns111_1 := NB194_195.out
      have hns111_3 := NB198_195.out
      have hns111_4 := NB199_195.out
      have hms111_0 := NB195_193.out
      have hms111_1 := NB195_194.out
      have hms111_3 := NB195_198.out
      have hms111_4 := NB195_199.out
      have hs112 : w106.cell? ⟨gb195, 1, none⟩ = some (.int .u64 0) := (blk_cell BK195.out 1).trans rfl
      have hfs112 := blk_frozen BK195.out 1
      have hns112_0 := NB193_195.out
      have hns112_1 := NB194_195.out
      have hns112_3 := NB198_195.out
      have hns112_4 := NB199_195.out
      have hms112_0 := NB195_193.out
      have hms112_1 := NB195_194.out
      have hms112_3 := NB195_198.out
      have hms112_4 := NB195_199.out
      have hs113 : w106.cell? ⟨gb195, 2, none⟩ = some (.int .u64 0) := (blk_cell BK195.out 2).trans rfl
      have hfs113 := blk_frozen BK195.out 2
      have hns113_0 := NB193_195.out
      have hns113_1 := NB194_195.out
      have hns113_3 := NB198_195.out
      have hns113_4 := NB199_195.out
      have hms113_0 := NB195_193.out
      have hms113_1 := NB195_194.out
      have hms113_3 := NB195_198.out
      have hms113_4 := NB195_199.out
      have hs114 : w106.cell? ⟨gb195, 3, none⟩ = some (.int .i64 0) := (blk_cell BK195.out 3).trans rfl
      have hfs114 := blk_frozen BK195.out 3
      have hns114_0 := NB193_195.out
      have hns114_1 := NB194_195.out
      have hns114_3 := NB198_195.out
      have hns114_4 := NB199_195.out
      have hms114_0 := NB195_193.out
      have hms114_1 := NB195_194.out
      have hms114_3 := NB195_198.out
      have hms114_4 := NB195_199.out
      refine skip_ (w1 := ?_) (by rfl) rfl ?_ ?_
      rotate_left
      ·go_simp
       rfl
      refine hK.out _ _ ⟨((cell_far (p := ⟨gb195, _, none⟩) NB198_195.out _).trans (((cell_far (p := ⟨gb195, _, none⟩) NB198_195.out _).trans (((cell_far (p := ⟨gb195, _, none⟩) NB198_195.out _).trans (((cell_far (p := ⟨gb195, _, none⟩) NB198_195.out _).trans (hHeld.1)))))))), ((cell_far (p := ⟨gb195, _, none⟩) NB198_195.out _).trans (((cell_far (p := ⟨gb195, _, none⟩) NB198_195.out _).trans (((cell_far (p := ⟨gb195, _, none⟩) NB198_195.out _).trans (((cell_far (p := ⟨gb195, _, none⟩) NB198_195.out _).trans (hHeld.2.1)))))))), ((cell_far (p := ⟨gb195, _, none⟩) NB198_195.out _).trans (((cell_far (p := ⟨gb195, _, none⟩) NB198_195.out _).trans (((cell_far (p := ⟨gb195, _, none⟩) NB198_195.out _).trans (((cell_far (p := ⟨gb195, _, none⟩) NB198_195.out _).trans (hHeld.2.2.1)))))))), ((cell_far (p := ⟨gb195, _, none⟩) NB198_195.out _).trans (((cell_far (p := ⟨gb195, _, none⟩) NB198_195.out _).trans (((cell_far (p := ⟨gb195, _, none⟩) NB198_195.out _).trans (((cell_far (p := ⟨gb195, _, none⟩) NB198_195.out _).trans (hHeld.2.2.2.1)))))))), ((cell_far (p := ⟨gb195, _, none⟩) NB199_195.out _).trans (((cell_far (p := ⟨gb195, _, none⟩) NB199_195.out _).trans (((cell_far (p := ⟨gb195, _, none⟩) NB199_195.out _).trans (((cell_far (p := ⟨gb195, _, none⟩) NB199_195.out _).trans (hHeld.2.2.2.2.1)))))))), ((cell_far (p := ⟨gb195, _, none⟩) NB199_195.out _).trans (((cell_far (p := ⟨gb195, _, none⟩) NB199_195.out _).trans (((cell_far (p := ⟨gb195, _, none⟩) NB199_195.out _).trans (((cell_far (p := ⟨gb195, _, none⟩) NB199_195.out _).trans (hHeld.2.2.2.2.2.1)))))))), ((cell_far (p := ⟨gb195, _, none⟩) NB199_195.out _).trans (((cell_far (p := ⟨gb195, _, none⟩) NB199_195.out _).trans (((cell_far (p := ⟨gb195, _, none⟩) NB199_195.out _).trans (((cell_far (p := ⟨gb195, _, none⟩) NB199_195.out _).trans (hHeld.2.2.2.2.2.2.1)))))))), ((cell_far (p := ⟨gb195, _, none⟩) NB199_195.out _).trans (((cell_far (p := ⟨gb195, _, none⟩) NB199_195.out _).trans (((cell_far (p := ⟨gb195, _, none⟩) NB199_195.out _).trans (((cell_far (p := ⟨gb195, _, none⟩) NB199_195.out _).trans (hHeld.2.2.2.2.2.2.2))))))))⟩ (fun hHeld => ?_)
      clear hK K
      refine pure_ (i := 4) (N := some 4) (v := ?_) (a' := ?_) #[Y,Y,Y,Y,Y] rfl rfl (by kernel_rfl) (fun _ _ _ h => h) (Or.inl ⟨by rfl, ?_⟩) ?_ ?_
      rotate_left
      ·exact Sw
      rotate_left
      ·exact Sr
      refine done_ (by kernel_rfl) ?_
      try go_wp2
      refine bodyPost_ret (results_list (rs := [.cell 2 26, .cell 3 26, .tmp 4]) rfl (by simp) (.cell gb194 26 #[.bool false, .int .u64 a0_1, .int .u64 a0_2, .int .i64 (wrap64 (a0_3 + 1))] (0, 0) _ rfl (by refine St ?_; refine blk_far ?_ NB194_195.out _; refine St ?_; refine blk_far ?_ NB194_195.out _; refine St ?_; refine blk_far ?_ NB194_195.out _; refine St ?_; refine blk_far ?_ NB194_195.out _; refine St ?_; refine blk_put (cs := #[.bool false, .int .u64 a0_1, .int .u64 a0_2, .int .i64 0]) ?_ 3 _ rfl; refine St ?_; refine blk_put (cs := #[.bool false, .int .u64 a0_1, .int .u64 0, .int .i64 0]) ?_ 2 _ rfl; refine St ?_; refine blk_put (cs := #[.bool false, .int .u64 0, .int .u64 0, .int .i64 0]) ?_ 1 _ rfl; refine St ?_; refine blk_put (cs := #[.bool false, .int .u64 0, .int .u64 0, .int .i64 0]) ?_ 0 _ rfl; refine St ?_; exact BK194.out) Tryd.underlying26 rfl (by kernel_rfl) (.cell gb195 26 #[.bool false, .int .u64 a0_1, .int .u64 (Go.bits .or .u64 a0_2 (ji86)), .int .i64 (wrap64 (a0_3 + 1))] (0, 0) _ rfl (by refine St ?_; refine blk_put (cs := #[.bool false, .int .u64 a0_1, .int .u64 (Go.bits .or .u64 a0_2 (ji86)), .int .i64 0]) ?_ 3 _ rfl; refine St ?_; refine blk_put (cs := #[.bool false, .int .u64 a0_1, .int .u64 0, .int .i64 0]) ?_ 2 _ rfl; refine St ?_; refine blk_put (cs := #[.bool false, .int .u64 0, .int .u64 0, .int .i64 0]) ?_ 1 _ rfl; refine St ?_; refine blk_put (cs := #[.bool false, .int .u64 0, .int .u64 0, .int .i64 0]) ?_ 0 _ rfl; refine St ?_; refine blk_far ?_ NB195_194.out _; refine St ?_; refine blk_far ?_ NB195_194.out _; refine St ?_; refine blk_far ?_ NB195_194.out _; refine St ?_; refine blk_far ?_ NB195_194.out _; refine St ?_; exact BK195.out) Tryd.underlying26 rfl (by kernel_rfl) (.tmp .nil)))) rfl ?_
      exact ⟨by first | rfl | (simp [errW_none, errW_some] <;> rfl) | (simp only [← hji84, ← hji86]; first | rfl | (simp [errW_none, errW_some] <;> rfl)) | (simp [*, errW_none, errW_some] <;> rfl), Hb HB.out⟩
     ·rw [if_neg c85] at H
      exact absurd H (by simp)

end Go.Proofs.YtmhjgjdiifcdlaaDoor.P
