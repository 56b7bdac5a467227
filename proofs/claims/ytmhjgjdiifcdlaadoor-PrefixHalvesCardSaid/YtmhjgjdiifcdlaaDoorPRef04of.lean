-- Laid by a program (wip/pr.py) out of the translation: each function as a Lean function, and the proof that the call comes to it.
import Derived.Test.YtmhjgjdiifcdlaaDoorShort
import Derived.Test.YtmhjgjdiifcdlaaDoorPBase
namespace Go.Proofs.YtmhjgjdiifcdlaaDoor.P
open Go.RowKit Go.Proofs.YtmhjgjdiifcdlaaDoorW.PrintWords Go.Proofs.YtmhjgjdiifcdlaaDoorW.PrintLast Go.Proofs.YtmhjgjdiifcdlaaDoorW.PrintMore
attribute [local go_sem] max2_int min2_int max_two min_two max_three min_three max_four min_four   -- for this text's walks alone
set_option linter.unusedVariables false
set_option linter.unusedSimpArgs false

/-! ### crosswayref04_of: function 43 -/
def crosswayref04_of.l0 : Nat → Bool → List Int → Int → Bool → Int → Int → Option (Bool × Int × Int)
 | 0, _, _, _, _, _, _ => none
 | k + 1, x0, x1, x6, x301000, x301001, x301002 => if x6 < (x1.length : Int) then (if x0 = true then (if x6 < 64 then (if 0 ≤ x6 then (crosswayref04_of.l0 k x0 x1 (wrap64 (x6 + 1)) x301000 (IntKind.u64.wrap ((IntKind.u64.wrap (x301001 * 2)) + (IntKind.u64.wrap (rd x1 x6)))) x301002) else (none)) else (if 0 ≤ x6 then (crosswayref04_of.l0 k x0 x1 (wrap64 (x6 + 1)) x301000 x301001 (IntKind.u64.wrap ((IntKind.u64.wrap (x301002 * 2)) + (IntKind.u64.wrap (rd x1 x6))))) else (none))) else (if 0 ≤ x6 then (crosswayref04_of.l0 k x0 x1 (wrap64 (x6 + 1)) x301000 x301001 (IntKind.u64.wrap ((IntKind.u64.wrap (x301002 * 2)) + (IntKind.u64.wrap (rd x1 x6))))) else (none))) else (some (x301000, x301001, x301002))
def crosswayref04_of.f (k : Nat) (a0 : Bool) (l1 : List Int) : Option (Bool × Int × Int) := crosswayref04_of.l0 k a0 l1 0 a0 0 0
theorem crosswayref04_of.mono_l : ∀ k, (∀ y0 y1 y2 y3 y4 y5, LeO (crosswayref04_of.l0 k y0 y1 y2 y3 y4 y5) (crosswayref04_of.l0 (k + 1) y0 y1 y2 y3 y4 y5))
 | 0 => fun _ _ _ _ _ _ r h => by simp [crosswayref04_of.l0] at h
 | k + 1 => by
  have ih0 := crosswayref04_of.mono_l k
  ·intro y0 y1 y2 y3 y4 y5
   unfold crosswayref04_of.l0
   repeat' first
   | (with_reducible exact ih0 _ _ _ _ _ _)
   | (with_reducible exact LeO.refl _)
   | (with_reducible exact LeO.none _)
   | (with_reducible refine LeO.ite ?_ ?_)
   | (with_reducible refine LeO.bind ?_ (fun _ => ?_))
   | exact ih0 _ _ _ _ _ _
   | exact LeO.none _
   | refine LeO.ite ?_ ?_
   | refine LeO.bind ?_ (fun _ => ?_)
theorem crosswayref04_of.mono : ∀ a0 a1 k, LeO (crosswayref04_of.f k a0 a1) (crosswayref04_of.f (k + 1) a0 a1) := by
 intro a0 a1 k
 have ih0 := crosswayref04_of.mono_l k
 unfold crosswayref04_of.f
 repeat' first
   | (with_reducible exact ih0 _ _ _ _ _ _)
   | (with_reducible exact LeO.refl _)
   | (with_reducible exact LeO.none _)
   | (with_reducible refine LeO.ite ?_ ?_)
   | (with_reducible refine LeO.bind ?_ (fun _ => ?_))
   | exact ih0 _ _ _ _ _ _
   | exact LeO.none _
   | refine LeO.ite ?_ ?_
   | refine LeO.bind ?_ (fun _ => ?_)
def crosswayref04_of.T6 : Bool × List (List Nat × List Nat) := (true, [([], []), ([0], [0]), ([1], [1]), ([], []), ([], []), ([3, 4], [3, 4]), ([5], [5]), ([6], [6]), ([2, 7], [2, 7]), ([0, 1, 2, 3, 4, 5, 6, 7, 8], []), ([9, 8, 0, 1, 2, 3, 4, 5, 6, 7, 8], [8, 9])])
def crosswayref04_of.B6 : List Nat := [0, 1, 3, 0, 0, 24, 56, 120, 255, 511, 1023]
theorem crosswayref04_of.tab6 : rtab .any (opsOf Tryd.f43 6) = crosswayref04_of.T6 := by kernel_rfl
theorem crosswayref04_of.bits6 : waitsOk crosswayref04_of.T6.2 crosswayref04_of.B6 = true := by kernel_rfl
def crosswayref04_of.T7 : Bool × List (List Nat × List Nat) := (true, [([], []), ([0], [0]), ([1], [1]), ([], []), ([], []), ([3, 4], [3, 4]), ([5], [5]), ([6], [6]), ([2, 7], [2, 7]), ([0, 1, 2, 3, 4, 5, 6, 7, 8], []), ([9, 8, 0, 1, 2, 3, 4, 5, 6, 7, 8], [8, 9])])
def crosswayref04_of.B7 : List Nat := [0, 1, 3, 0, 0, 24, 56, 120, 255, 511, 1023]
theorem crosswayref04_of.tab7 : rtab .any (opsOf Tryd.f43 7) = crosswayref04_of.T7 := by kernel_rfl
theorem crosswayref04_of.bits7 : waitsOk crosswayref04_of.T7.2 crosswayref04_of.B7 = true := by kernel_rfl
set_option maxHeartbeats 8000000 in
set_option maxRecDepth 100000 in
theorem crosswayref04_of.calls (k : Nat) (a0 : Bool) (A1 : Option Addr) (c1 : Nat) (l1 : List Int) (r1 : Bool) (r2 : Int) (r3 : Int) (w : World) (hr1 : Kd.C (Kd.int .i64) w A1 l1.length l1) (hc1 : l1.length ≤ c1) (h : crosswayref04_of.f k a0 l1 = some (r1, r2, r3)) :
  Calls Tryd.prog 43 #[.bool a0, .slice A1 l1.length c1] w fun e w' => e = .returned (.agg #[.bool r1, .int .u64 r2, .int .u64 r3]) ∧ Below w.heap.size w w' := by
 have hu24 := Tryd.underlying24
 have HR1 := Aside0.mk hr1
 have HC1 := Aside0.mk hc1
 clear hr1 hc1
 have HB := Aside0.mk (Below.refl w.heap.size w)
 have H : (crosswayref04_of.l0 k a0 l1 0 a0 0 0) = some (r1, r2, r3) := h
 clear h
 have H' := Aside0.mk H
 clear H
 go_enter Tryd.func43, Tryd.ntmps43
 go_wp2_with (first | ((with_reducible refine gate_dst (N := 4) rfl ?_); refine box_event ?hg (N := 4) ?hd (cs := #[.bool false, .int .u64 0, .int .u64 0]) (t := 24) ?hr ?_; (case hd => rfl); (case hg => rfl); (case hr => first | (go_simp; done) | (go_simp; rfl)); intro gb299 hg w3 hbox hb; have n0_ := Aside0.mk (below_step (Hb HB.out) hb); have n1_ := Aside0.mk (hbox); have n2_ := Aside0.mk ((by rw [hg]; exact (below_size (Hb HB.out)) : w.heap.size ≤ gb299)); have n3_ := Aside0.mk ((by rw [hg]; exact (below_size (Hb HB.out)) : w.heap.size ≤ gb299)); clear HB; have HB := n0_; have BK299 := n1_; have GW299 := n2_; have GE299 := n3_; clear n0_ n1_ n2_ n3_; clear hb hbox hg) | ((with_reducible refine gate_dst (N := 5) rfl ?_); refine box_event ?hg (N := 5) ?hd (cs := #[.bool false, .int .u64 0, .int .u64 0]) (t := 24) ?hr ?_; (case hd => rfl); (case hg => rfl); (case hr => first | (go_simp; done) | (go_simp; rfl)); intro gb300 hg w4 hbox hb; have n0_ := Aside0.mk (blk_below (g := gb299) (o := .cells #[.bool false, .int .u64 0, .int .u64 0] 24 (0, 0)) (St BK299.out) hb); have n1_ := Aside0.mk (below_step (Hb HB.out) hb); have n2_ := Aside0.mk (hbox); have n3_ := Aside0.mk ((by rw [hg]; exact (below_size (Hb HB.out)) : w.heap.size ≤ gb300)); have n4_ := Aside0.mk ((by rw [hg]; exact (below_size (Hb HB.out)) : w.heap.size ≤ gb300)); have n5_ := Aside0.mk ((by rw [hg]; exact Nat.ne_of_lt (blk_lt (g := gb299) (o := .cells #[.bool false, .int .u64 0, .int .u64 0] 24 (0, 0)) (St BK299.out)) : gb299 ≠ gb300)); have n6_ := Aside0.mk ((by rw [hg]; exact Nat.ne_of_gt (blk_lt (g := gb299) (o := .cells #[.bool false, .int .u64 0, .int .u64 0] 24 (0, 0)) (St BK299.out)) : gb300 ≠ gb299)); clear BK299; clear HB; have BK299 := n0_; have HB := n1_; have BK300 := n2_; have GW300 := n3_; have GE300 := n4_; have NB299_300 := n5_; have NB300_299 := n6_; clear n0_ n1_ n2_ n3_ n4_ n5_ n6_; clear hb hbox hg; have hnb5 := NB300_299.out; have hnc5 := NB299_300.out; have hcz6_0 : w4.cell? ⟨gb300, 0, none⟩ = some (.bool false) := (blk_cell BK300.out 0).trans rfl; have hcz6_1 : w4.cell? ⟨gb300, 1, none⟩ = some (.int .u64 0) := (blk_cell BK300.out 1).trans rfl; have hcz6_2 : w4.cell? ⟨gb300, 2, none⟩ = some (.int .u64 0) := (blk_cell BK300.out 2).trans rfl; have hfz6_0 := blk_frozen BK300.out 0; have hfz6_1 := blk_frozen BK300.out 1; have hfz6_2 := blk_frozen BK300.out 2))
 go_loopg [6] k (fun kq v6 w' => ∃ (x6_1 : Int) (x301001_1 : Int) (x301002_1 : Int), v6 = .int .i64 x6_1 ∧ Aside0 (crosswayref04_of.l0 kq a0 l1 x6_1 a0 x301001_1 x301002_1 = some (r1, r2, r3)) ∧ Aside0 (kq ≤ k) ∧ Aside0 (w'.heap[gb299]? = some (.cells #[.bool false, .int .u64 0, .int .u64 0] 24 (0, 0))) ∧ Aside0 (w'.heap[gb300]? = some (.cells #[.bool a0, .int .u64 x301001_1, .int .u64 x301002_1] 24 (0, 0))) ∧ Aside0 (Below w.heap.size w w'))
 case atStart => exact ⟨(0), (0), (0), (by first | rfl | (simp; done) | (simp [*]; done)), H', ⟨Nat.le_refl _⟩, ⟨by refine St ?_; refine blk_far ?_ NB299_300.out _; refine St ?_; refine blk_far ?_ NB299_300.out _; refine St ?_; refine blk_far ?_ NB299_300.out _; refine St ?_; exact BK299.out⟩, ⟨by refine St ?_; refine blk_put (cs := #[.bool a0, .int .u64 0, .int .u64 0]) ?_ 2 _ rfl; refine St ?_; refine blk_put (cs := #[.bool a0, .int .u64 0, .int .u64 0]) ?_ 1 _ rfl; refine St ?_; refine blk_put (cs := #[.bool false, .int .u64 0, .int .u64 0]) ?_ 0 _ rfl; refine St ?_; exact BK300.out⟩, ⟨Hb HB.out⟩⟩
 case round =>
  clear H'
  try clear c1
  try clear p2
  try clear c4
  try clear c5
  try clear hcz6_0
  try clear hcz6_1
  try clear hcz6_2
  try clear hfz6_0
  try clear hfz6_1
  try clear hfz6_2
  obtain ⟨x6_1, x301001_1, x301002_1, rfl, HA, HK1, BK299, BK300, HB⟩ := hrel
  cases gk with
  | zero => exact absurd HA.out (by simp [crosswayref04_of.l0])
  | succ k1 =>
   have H := HA.out
   clear HA
   simp only [crosswayref04_of.l0] at H
   by_cases c7 : x6_1 < (l1.length : Int)
   ·rw [if_pos c7] at H
    have c7b0 : decide (x6_1 < (l1.length : Int)) = true := decide_eq_true c7
    clear c7
    by_cases c8 : a0 = true
    ·subst c8
     have H1 : (if x6_1 < 64 then (if 0 ≤ x6_1 then (crosswayref04_of.l0 k1 true l1 (wrap64 (x6_1 + 1)) true (IntKind.u64.wrap ((IntKind.u64.wrap (x301001_1 * 2)) + (IntKind.u64.wrap (rd l1 x6_1)))) x301002_1) else (none)) else (if 0 ≤ x6_1 then (crosswayref04_of.l0 k1 true l1 (wrap64 (x6_1 + 1)) true x301001_1 (IntKind.u64.wrap ((IntKind.u64.wrap (x301002_1 * 2)) + (IntKind.u64.wrap (rd l1 x6_1))))) else (none))) = some (r1, r2, r3) := by rw [if_pos rfl] at H; exact H
     clear H
     have H := H1
     clear H1
     by_cases c9 : x6_1 < 64
     ·rw [if_pos c9] at H
      have c9b0 : decide (x6_1 < 64) = true := decide_eq_true c9
      clear c9
      by_cases c10 : 0 ≤ x6_1
      ·rw [if_pos c10] at H
       have c10b0 : decide (0 ≤ x6_1) = true := decide_eq_true c10
       clear c10
       have H' := Aside0.mk H
       clear H
       try go_wp2
       have n0_ := Aside0.mk (blk_drew BK299.out)
       have n1_ := Aside0.mk (blk_drew BK300.out)
       have n2_ := Aside0.mk (below_drew1 HB.out)
       clear BK299
       clear BK300
       clear HB
       have BK299 := n0_
       have BK300 := n1_
       have HB := n2_
       clear n0_ n1_ n2_
       have p301 : 0 ≤ (x6_1 : Int) := of_decide_eq_true (by first | (with_reducible assumption) | assumption)
       have q301 : x6_1 < (l1.length : Int) := of_decide_eq_true (by first | (with_reducible assumption) | assumption)
       obtain ⟨ad301, e301, hx301_0⟩ := Kd.at_int HR1.out x6_1 p301 q301
       have hw301_0 := hx301_0
       cases e301
       replace hx301_0 := (HB.out.cell (World.block_lt_of_cell? w _ hx301_0)).trans hx301_0
       replace p301 := eq_true p301
       replace q301 := eq_true q301
       refine start_ (n := 11) (S := fun w' => w'.cell? ⟨gb300, 0, none⟩ = some (.bool true) ∧ w'.cell? ⟨gb300, 1, none⟩ = some (.int .u64 x301001_1) ∧ w'.cell? ⟨gb300, 2, none⟩ = some (.int .u64 x301002_1) ∧ w'.cell? (ad301.add (x6_1).toNat) = some (.int .i64 (rd l1 x6_1))) (ds := [10]) #[Z,Z,Z,Z,Z,Z,Z,Z,Z,Z,Z] (by kernel_rfl) rfl rfl ⟨(blk_cell BK300.out 0).trans rfl, (blk_cell BK300.out 1).trans rfl, (blk_cell BK300.out 2).trans rfl, ((HB.out.cell (World.block_lt_of_cell? w _ hw301_0)).trans hw301_0)⟩ (fun hHeld => ?_); refine with_tabW crosswayref04_of.tab6 crosswayref04_of.bits6 (fun HT_ HW_ => ?_)
       generalize wr.drew = w11 at BK299 BK300 HB hx301_0 hHeld ⊢
       refine pure_ (i := 0) (N := some 20) (v := ?_) (a' := ?_) #[Y,Z,Z,Z,Z,Z,Z,Z,Z,Z,Z] rfl rfl (any_of HT_.out (by kernel_rfl)) (fun _ _ _ h => h) (Or.inl ⟨by rfl, ?_⟩) ?_ ?_
       rotate_left
       ·exact Sw
       rotate_left
       ·exact Sr
       refine pure_ (i := 3) (N := some 23) (v := ?_) (a' := ?_) #[Y,Z,Z,Y,Z,Z,Z,Z,Z,Z,Z] rfl rfl (any_of HT_.out (by kernel_rfl)) (fun _ _ _ h => h) (Or.inl ⟨by rfl, ?_⟩) ?_ ?_
       rotate_left
       ·exact Sw
       rotate_left
       ·exact Sr
       refine pure_ (i := 4) (N := some 24) (v := ?_) (a' := ?_) #[Y,Z,Z,Y,Y,Z,Z,Z,Z,Z,Z] rfl rfl (any_of HT_.out (by kernel_rfl)) (fun _ _ _ h => h) (Or.inl ⟨by rfl, ?_⟩) ?_ ?_
       rotate_left
       ·exact Sw
       rotate_left
       ·exact Sr
       refine pure_ (i := 5) (N := some 25) (v := ?_) (a' := ?_) #[Y,Z,Z,Y,Y,Y,Z,Z,Z,Z,Z] rfl rfl (any_of HT_.out (by kernel_rfl)) (fun _ _ _ h => h) (Or.inl ⟨by rfl, ?_⟩) ?_ ?_
       rotate_left
       ·exact Sw
       rotate_left
       ·exact Sr
       refine take_ (i := 1) (N := some 21) (v := ?_) (a' := ?_) #[Y,Y,Z,Y,Y,Y,Z,Z,Z,Z,Z] rfl rfl (take_ofW HT_.out HW_.out (by kernel_rfl)) (fun _ _ _ h => h) (Or.inl ⟨by rfl, ?_⟩) hHeld ?_ ?_
       rotate_left
       ·rintro w' ⟨s0, s1, s2, s3⟩
        go_simp
        with_reducible rfl
       rotate_left
       ·exact Sr
       refine pure_ (i := 2) (N := some 22) (v := ?_) (a' := ?_) #[Y,Y,Y,Y,Y,Y,Z,Z,Z,Z,Z] rfl rfl (any_of HT_.out (by kernel_rfl)) (fun _ _ _ h => h) (Or.inl ⟨by rfl, ?_⟩) ?_ ?_
       rotate_left
       ·exact Sw
       rotate_left
       ·exact Sr
       refine take_ (i := 6) (N := some 26) (v := ?_) (a' := ?_) #[Y,Y,Y,Y,Y,Y,Y,Z,Z,Z,Z] rfl rfl (take_ofW HT_.out HW_.out (by kernel_rfl)) (fun _ _ _ h => h) (Or.inl ⟨by rfl, ?_⟩) hHeld ?_ ?_
       rotate_left
       ·rintro w' ⟨s0, s1, s2, s3⟩
        go_simp
        with_reducible rfl
       rotate_left
       ·exact Sr
       refine pure_ (i := 7) (N := some 27) (v := ?_) (a' := ?_) #[Y,Y,Y,Y,Y,Y,Y,Y,Z,Z,Z] rfl rfl (any_of HT_.out (by kernel_rfl)) (fun _ _ _ h => h) (Or.inl ⟨by rfl, ?_⟩) ?_ ?_
       rotate_left
       ·exact Sw
       rotate_left
       ·exact Sr
       refine pure_ (i := 8) (N := some 28) (v := ?_) (a' := ?_) #[Y,Y,Y,Y,Y,Y,Y,Y,Y,Z,Z] rfl rfl (any_of HT_.out (by kernel_rfl)) (fun _ _ _ h => h) (Or.inl ⟨by rfl, ?_⟩) ?_ ?_
       rotate_left
       ·exact Sw
       rotate_left
       ·exact Sr
       refine pure_ (i := 9) (N := some 29) (v := ?_) (a' := ?_) #[Y,Y,Y,Y,Y,Y,Y,Y,Y,Y,Z] rfl rfl (any_of HT_.out (by kernel_rfl)) (fun _ _ _ h => h) (Or.inl ⟨by rfl, ?_⟩) ?_ ?_
       rotate_left
       ·exact Sw
       rotate_left
       ·exact Sr
       refine last_ (i := 10) (N := none) #[Y,Y,Y,Y,Y,Y,Y,Y,Y,Y,Y] rfl rfl (one_of HT_.out (by kernel_rfl)) (by decide) (fun K hK => ?_)
       have hs12 : w11.cell? ⟨gb300, 1, none⟩ = some (.int .u64 x301001_1) := (blk_cell BK300.out 1).trans rfl
       have hfs12 := blk_frozen BK300.out 1
       have hns12_0 := NB299_300.out
       have hms12_0 := NB300_299.out
       refine skip_ (w1 := ?_) (by rfl) rfl ?_ ?_
       rotate_left
       ·go_simp
        rfl
       refine hK.out _ _ ?_
       clear hK K
       refine done_ (done_of HT_.out (by kernel_rfl)) ?_
       try go_wp2
       go_roundg k1
       case measure => have := HK1.out; omega
       case rel => exact ⟨(wrap64 (x6_1 + 1)), (IntKind.u64.wrap ((IntKind.u64.wrap (x301001_1 * 2)) + (IntKind.u64.wrap (rd l1 x6_1)))), (x301002_1), (by first | rfl | (simp; done) | (simp [*]; done)), H', ⟨by have := HK1.out; omega⟩, ⟨by refine St ?_; refine blk_far ?_ NB299_300.out _; refine St ?_; exact BK299.out⟩, ⟨by refine St ?_; refine blk_put (cs := #[.bool true, .int .u64 x301001_1, .int .u64 x301002_1]) ?_ 1 _ rfl; refine St ?_; exact BK300.out⟩, ⟨Hb HB.out⟩⟩
      ·rw [if_neg c10] at H
       exact absurd H (by simp)
     ·rw [if_neg c9] at H
      have c9b0 : decide (x6_1 < 64) = false := decide_eq_false c9
      clear c9
      by_cases c13 : 0 ≤ x6_1
      ·rw [if_pos c13] at H
       have c13b0 : decide (0 ≤ x6_1) = true := decide_eq_true c13
       clear c13
       have H' := Aside0.mk H
       clear H
       try go_wp2
       have n0_ := Aside0.mk (blk_drew BK299.out)
       have n1_ := Aside0.mk (blk_drew BK300.out)
       have n2_ := Aside0.mk (below_drew1 HB.out)
       clear BK299
       clear BK300
       clear HB
       have BK299 := n0_
       have BK300 := n1_
       have HB := n2_
       clear n0_ n1_ n2_
       have p302 : 0 ≤ (x6_1 : Int) := of_decide_eq_true (by first | (with_reducible assumption) | assumption)
       have q302 : x6_1 < (l1.length : Int) := of_decide_eq_true (by first | (with_reducible assumption) | assumption)
       obtain ⟨ad302, e302, hx302_0⟩ := Kd.at_int HR1.out x6_1 p302 q302
       have hw302_0 := hx302_0
       cases e302
       replace hx302_0 := (HB.out.cell (World.block_lt_of_cell? w _ hx302_0)).trans hx302_0
       replace p302 := eq_true p302
       replace q302 := eq_true q302
       refine start_ (n := 11) (S := fun w' => w'.cell? ⟨gb300, 0, none⟩ = some (.bool true) ∧ w'.cell? ⟨gb300, 1, none⟩ = some (.int .u64 x301001_1) ∧ w'.cell? ⟨gb300, 2, none⟩ = some (.int .u64 x301002_1) ∧ w'.cell? (ad302.add (x6_1).toNat) = some (.int .i64 (rd l1 x6_1))) (ds := [10]) #[Z,Z,Z,Z,Z,Z,Z,Z,Z,Z,Z] (by kernel_rfl) rfl rfl ⟨(blk_cell BK300.out 0).trans rfl, (blk_cell BK300.out 1).trans rfl, (blk_cell BK300.out 2).trans rfl, ((HB.out.cell (World.block_lt_of_cell? w _ hw302_0)).trans hw302_0)⟩ (fun hHeld => ?_); refine with_tabW crosswayref04_of.tab7 crosswayref04_of.bits7 (fun HT_ HW_ => ?_)
       generalize wr.drew = w14 at BK299 BK300 HB hx302_0 hHeld ⊢
       refine pure_ (i := 0) (N := some 30) (v := ?_) (a' := ?_) #[Y,Z,Z,Z,Z,Z,Z,Z,Z,Z,Z] rfl rfl (any_of HT_.out (by kernel_rfl)) (fun _ _ _ h => h) (Or.inl ⟨by rfl, ?_⟩) ?_ ?_
       rotate_left
       ·exact Sw
       rotate_left
       ·exact Sr
       refine pure_ (i := 3) (N := some 33) (v := ?_) (a' := ?_) #[Y,Z,Z,Y,Z,Z,Z,Z,Z,Z,Z] rfl rfl (any_of HT_.out (by kernel_rfl)) (fun _ _ _ h => h) (Or.inl ⟨by rfl, ?_⟩) ?_ ?_
       rotate_left
       ·exact Sw
       rotate_left
       ·exact Sr
       refine pure_ (i := 4) (N := some 34) (v := ?_) (a' := ?_) #[Y,Z,Z,Y,Y,Z,Z,Z,Z,Z,Z] rfl rfl (any_of HT_.out (by kernel_rfl)) (fun _ _ _ h => h) (Or.inl ⟨by rfl, ?_⟩) ?_ ?_
       rotate_left
       ·exact Sw
       rotate_left
       ·exact Sr
       refine pure_ (i := 5) (N := some 35) (v := ?_) (a' := ?_) #[Y,Z,Z,Y,Y,Y,Z,Z,Z,Z,Z] rfl rfl (any_of HT_.out (by kernel_rfl)) (fun _ _ _ h => h) (Or.inl ⟨by rfl, ?_⟩) ?_ ?_
       rotate_left
       ·exact Sw
       rotate_left
       ·exact Sr
       refine take_ (i := 1) (N := some 31) (v := ?_) (a' := ?_) #[Y,Y,Z,Y,Y,Y,Z,Z,Z,Z,Z] rfl rfl (take_ofW HT_.out HW_.out (by kernel_rfl)) (fun _ _ _ h => h) (Or.inl ⟨by rfl, ?_⟩) hHeld ?_ ?_
       rotate_left
       ·rintro w' ⟨s0, s1, s2, s3⟩
        go_simp
        with_reducible rfl
       rotate_left
       ·exact Sr
       refine pure_ (i := 2) (N := some 32) (v := ?_) (a' := ?_) #[Y,Y,Y,Y,Y,Y,Z,Z,Z,Z,Z] rfl rfl (any_of HT_.out (by kernel_rfl)) (fun _ _ _ h => h) (Or.inl ⟨by rfl, ?_⟩) ?_ ?_
       rotate_left
       ·exact Sw
       rotate_left
       ·exact Sr
       refine take_ (i := 6) (N := some 36) (v := ?_) (a' := ?_) #[Y,Y,Y,Y,Y,Y,Y,Z,Z,Z,Z] rfl rfl (take_ofW HT_.out HW_.out (by kernel_rfl)) (fun _ _ _ h => h) (Or.inl ⟨by rfl, ?_⟩) hHeld ?_ ?_
       rotate_left
       ·rintro w' ⟨s0, s1, s2, s3⟩
        go_simp
        with_reducible rfl
       rotate_left
       ·exact Sr
       refine pure_ (i := 7) (N := some 37) (v := ?_) (a' := ?_) #[Y,Y,Y,Y,Y,Y,Y,Y,Z,Z,Z] rfl rfl (any_of HT_.out (by kernel_rfl)) (fun _ _ _ h => h) (Or.inl ⟨by rfl, ?_⟩) ?_ ?_
       rotate_left
       ·exact Sw
       rotate_left
       ·exact Sr
       refine pure_ (i := 8) (N := some 38) (v := ?_) (a' := ?_) #[Y,Y,Y,Y,Y,Y,Y,Y,Y,Z,Z] rfl rfl (any_of HT_.out (by kernel_rfl)) (fun _ _ _ h => h) (Or.inl ⟨by rfl, ?_⟩) ?_ ?_
       rotate_left
       ·exact Sw
       rotate_left
       ·exact Sr
       refine pure_ (i := 9) (N := some 39) (v := ?_) (a' := ?_) #[Y,Y,Y,Y,Y,Y,Y,Y,Y,Y,Z] rfl rfl (any_of HT_.out (by kernel_rfl)) (fun _ _ _ h => h) (Or.inl ⟨by rfl, ?_⟩) ?_ ?_
       rotate_left
       ·exact Sw
       rotate_left
       ·exact Sr
       refine last_ (i := 10) (N := none) #[Y,Y,Y,Y,Y,Y,Y,Y,Y,Y,Y] rfl rfl (one_of HT_.out (by kernel_rfl)) (by decide) (fun K hK => ?_)
       have hs15 : w14.cell? ⟨gb300, 2, none⟩ = some (.int .u64 x301002_1) := (blk_cell BK300.out 2).trans rfl
       have hfs15 := blk_frozen BK300.out 2
       have hns15_0 := NB299_300.out
       have hms15_0 := NB300_299.out
       refine skip_ (w1 := ?_) (by rfl) rfl ?_ ?_
       rotate_left
       ·go_simp
        rfl
       refine hK.out _ _ ?_
       clear hK K
       refine done_ (done_of HT_.out (by kernel_rfl)) ?_
       try go_wp2
       go_roundg k1
       case measure => have := HK1.out; omega
       case rel => exact ⟨(wrap64 (x6_1 + 1)), (x301001_1), (IntKind.u64.wrap ((IntKind.u64.wrap (x301002_1 * 2)) + (IntKind.u64.wrap (rd l1 x6_1)))), (by first | rfl | (simp; done) | (simp [*]; done)), H', ⟨by have := HK1.out; omega⟩, ⟨by refine St ?_; refine blk_far ?_ NB299_300.out _; refine St ?_; exact BK299.out⟩, ⟨by refine St ?_; refine blk_put (cs := #[.bool true, .int .u64 x301001_1, .int .u64 x301002_1]) ?_ 2 _ rfl; refine St ?_; exact BK300.out⟩, ⟨Hb HB.out⟩⟩
      ·rw [if_neg c13] at H
       exact absurd H (by simp)
    ·replace c8 := Bool.eq_false_iff.mpr c8
     subst c8
     have H1 : (if 0 ≤ x6_1 then (crosswayref04_of.l0 k1 false l1 (wrap64 (x6_1 + 1)) false x301001_1 (IntKind.u64.wrap ((IntKind.u64.wrap (x301002_1 * 2)) + (IntKind.u64.wrap (rd l1 x6_1))))) else (none)) = some (r1, r2, r3) := by rw [if_neg (show ¬ (false = true) by decide)] at H; exact H
     clear H
     have H := H1
     clear H1
     by_cases c16 : 0 ≤ x6_1
     ·rw [if_pos c16] at H
      have c16b0 : decide (0 ≤ x6_1) = true := decide_eq_true c16
      clear c16
      have H' := Aside0.mk H
      clear H
      try go_wp2
      have n0_ := Aside0.mk (blk_drew BK299.out)
      have n1_ := Aside0.mk (blk_drew BK300.out)
      have n2_ := Aside0.mk (below_drew1 HB.out)
      clear BK299
      clear BK300
      clear HB
      have BK299 := n0_
      have BK300 := n1_
      have HB := n2_
      clear n0_ n1_ n2_
      have p303 : 0 ≤ (x6_1 : Int) := of_decide_eq_true (by first | (with_reducible assumption) | assumption)
      have q303 : x6_1 < (l1.length : Int) := of_decide_eq_true (by first | (with_reducible assumption) | assumption)
      obtain ⟨ad303, e303, hx303_0⟩ := Kd.at_int HR1.out x6_1 p303 q303
      have hw303_0 := hx303_0
      cases e303
      replace hx303_0 := (HB.out.cell (World.block_lt_of_cell? w _ hx303_0)).trans hx303_0
      replace p303 := eq_true p303
      replace q303 := eq_true q303
      refine start_ (n := 11) (S := fun w' => w'.cell? ⟨gb300, 0, none⟩ = some (.bool false) ∧ w'.cell? ⟨gb300, 1, none⟩ = some (.int .u64 x301001_1) ∧ w'.cell? ⟨gb300, 2, none⟩ = some (.int .u64 x301002_1) ∧ w'.cell? (ad303.add (x6_1).toNat) = some (.int .i64 (rd l1 x6_1))) (ds := [10]) #[Z,Z,Z,Z,Z,Z,Z,Z,Z,Z,Z] (by kernel_rfl) rfl rfl ⟨(blk_cell BK300.out 0).trans rfl, (blk_cell BK300.out 1).trans rfl, (blk_cell BK300.out 2).trans rfl, ((HB.out.cell (World.block_lt_of_cell? w _ hw303_0)).trans hw303_0)⟩ (fun hHeld => ?_); refine with_tabW crosswayref04_of.tab7 crosswayref04_of.bits7 (fun HT_ HW_ => ?_)
      generalize wr.drew = w17 at BK299 BK300 HB hx303_0 hHeld ⊢
      refine pure_ (i := 0) (N := some 30) (v := ?_) (a' := ?_) #[Y,Z,Z,Z,Z,Z,Z,Z,Z,Z,Z] rfl rfl (any_of HT_.out (by kernel_rfl)) (fun _ _ _ h => h) (Or.inl ⟨by rfl, ?_⟩) ?_ ?_
      rotate_left
      ·exact Sw
      rotate_left
      ·exact Sr
      refine pure_ (i := 3) (N := some 33) (v := ?_) (a' := ?_) #[Y,Z,Z,Y,Z,Z,Z,Z,Z,Z,Z] rfl rfl (any_of HT_.out (by kernel_rfl)) (fun _ _ _ h => h) (Or.inl ⟨by rfl, ?_⟩) ?_ ?_
      rotate_left
      ·exact Sw
      rotate_left
      ·exact Sr
      refine pure_ (i := 4) (N := some 34) (v := ?_) (a' := ?_) #[Y,Z,Z,Y,Y,Z,Z,Z,Z,Z,Z] rfl rfl (any_of HT_.out (by kernel_rfl)) (fun _ _ _ h => h) (Or.inl ⟨by rfl, ?_⟩) ?_ ?_
      rotate_left
      ·exact Sw
      rotate_left
      ·exact Sr
      refine pure_ (i := 5) (N := some 35) (v := ?_) (a' := ?_) #[Y,Z,Z,Y,Y,Y,Z,Z,Z,Z,Z] rfl rfl (any_of HT_.out (by kernel_rfl)) (fun _ _ _ h => h) (Or.inl ⟨by rfl, ?_⟩) ?_ ?_
      rotate_left
      ·exact Sw
      rotate_left
      ·exact Sr
      refine take_ (i := 1) (N := some 31) (v := ?_) (a' := ?_) #[Y,Y,Z,Y,Y,Y,Z,Z,Z,Z,Z] rfl rfl (take_ofW HT_.out HW_.out (by kernel_rfl)) (fun _ _ _ h => h) (Or.inl ⟨by rfl, ?_⟩) hHeld ?_ ?_
      rotate_left
      ·rintro w' ⟨s0, s1, s2, s3⟩
       go_simp
       with_reducible rfl
      rotate_left
      ·exact Sr
      refine pure_ (i := 2) (N := some 32) (v := ?_) (a' := ?_) #[Y,Y,Y,Y,Y,Y,Z,Z,Z,Z,Z] rfl rfl (any_of HT_.out (by kernel_rfl)) (fun _ _ _ h => h) (Or.inl ⟨by rfl, ?_⟩) ?_ ?_
      rotate_left
      ·exact Sw
      rotate_left
      ·exact Sr
      refine take_ (i := 6) (N := some 36) (v := ?_) (a' := ?_) #[Y,Y,Y,Y,Y,Y,Y,Z,Z,Z,Z] rfl rfl (take_ofW HT_.out HW_.out (by kernel_rfl)) (fun _ _ _ h => h) (Or.inl ⟨by rfl, ?_⟩) hHeld ?_ ?_
      rotate_left
      ·rintro w' ⟨s0, s1, s2, s3⟩
       go_simp
       with_reducible rfl
      rotate_left
      ·exact Sr
      refine pure_ (i := 7) (N := some 37) (v := ?_) (a' := ?_) #[Y,Y,Y,Y,Y,Y,Y,Y,Z,Z,Z] rfl rfl (any_of HT_.out (by kernel_rfl)) (fun _ _ _ h => h) (Or.inl ⟨by rfl, ?_⟩) ?_ ?_
      rotate_left
      ·exact Sw
      rotate_left
      ·exact Sr
      refine pure_ (i := 8) (N := some 38) (v := ?_) (a' := ?_) #[Y,Y,Y,Y,Y,Y,Y,Y,Y,Z,Z] rfl rfl (any_of HT_.out (by kernel_rfl)) (fun _ _ _ h => h) (Or.inl ⟨by rfl, ?_⟩) ?_ ?_
      rotate_left
      ·exact Sw
      rotate_left
      ·exact Sr
      refine pure_ (i := 9) (N := some 39) (v := ?_) (a' := ?_) #[Y,Y,Y,Y,Y,Y,Y,Y,Y,Y,Z] rfl rfl (any_of HT_.out (by kernel_rfl)) (fun _ _ _ h => h) (Or.inl ⟨by rfl, ?_⟩) ?_ ?_
      rotate_left
      ·exact Sw
      rotate_left
      ·exact Sr
      refine last_ (i := 10) (N := none) #[Y,Y,Y,Y,Y,Y,Y,Y,Y,Y,Y] rfl rfl (one_of HT_.out (by kernel_rfl)) (by decide) (fun K hK => ?_)
      have hs18 : w17.cell? ⟨gb300, 2, none⟩ = some (.int .u64 x301002_1) := (blk_cell BK300.out 2).trans rfl
      have hfs18 := blk_frozen BK300.out 2
      have hns18_0 := NB299_300.out
      have hms18_0 := NB300_299.out
      refine skip_ (w1 := ?_) (by rfl) rfl ?_ ?_
      rotate_left
      ·go_simp
       rfl
      refine hK.out _ _ ?_
      clear hK K
      refine done_ (done_of HT_.out (by kernel_rfl)) ?_
      try go_wp2
      go_roundg k1
      case measure => have := HK1.out; omega
      case rel => exact ⟨(wrap64 (x6_1 + 1)), (x301001_1), (IntKind.u64.wrap ((IntKind.u64.wrap (x301002_1 * 2)) + (IntKind.u64.wrap (rd l1 x6_1)))), (by first | rfl | (simp; done) | (simp [*]; done)), H', ⟨by have := HK1.out; omega⟩, ⟨by refine St ?_; refine blk_far ?_ NB299_300.out _; refine St ?_; exact BK299.out⟩, ⟨by refine St ?_; refine blk_put (cs := #[.bool false, .int .u64 x301001_1, .int .u64 x301002_1]) ?_ 2 _ rfl; refine St ?_; exact BK300.out⟩, ⟨Hb HB.out⟩⟩
     ·rw [if_neg c16] at H
      exact absurd H (by simp)
   ·rw [if_neg c7] at H
    have c7b0 : decide (x6_1 < (l1.length : Int)) = false := decide_eq_false c7
    clear c7
    simp only [Option.some.injEq, Prod.mk.injEq] at H
    obtain ⟨rfl, rfl, rfl⟩ := H
    have hnb19 := NB300_299.out
    have hnc19 := NB299_300.out
    have hcz20_0 : wr.cell? ⟨gb300, 0, none⟩ = some (.bool a0) := (blk_cell BK300.out 0).trans rfl
    have hcz20_1 : wr.cell? ⟨gb300, 1, none⟩ = some (.int .u64 x301001_1) := (blk_cell BK300.out 1).trans rfl
    have hcz20_2 : wr.cell? ⟨gb300, 2, none⟩ = some (.int .u64 x301002_1) := (blk_cell BK300.out 2).trans rfl
    have hfz20_0 := blk_frozen BK300.out 0
    have hfz20_1 := blk_frozen BK300.out 1
    have hfz20_2 := blk_frozen BK300.out 2
    have hcz21_0 : wr.cell? ⟨gb299, 0, none⟩ = some (.bool false) := (blk_cell BK299.out 0).trans rfl
    have hcz21_1 : wr.cell? ⟨gb299, 1, none⟩ = some (.int .u64 0) := (blk_cell BK299.out 1).trans rfl
    have hcz21_2 : wr.cell? ⟨gb299, 2, none⟩ = some (.int .u64 0) := (blk_cell BK299.out 2).trans rfl
    have hfz21_0 := blk_frozen BK299.out 0
    have hfz21_1 := blk_frozen BK299.out 1
    have hfz21_2 := blk_frozen BK299.out 2
    go_wp2
    refine bodyPost_ret (results_cell_row rfl _ _ gb299 24 #[.bool a0, .int .u64 x301001_1, .int .u64 x301002_1] (0, 0) _ rfl (by refine St ?_; refine blk_put (cs := #[.bool a0, .int .u64 x301001_1, .int .u64 0]) ?_ 2 _ rfl; refine St ?_; refine blk_put (cs := #[.bool a0, .int .u64 0, .int .u64 0]) ?_ 1 _ rfl; refine St ?_; refine blk_put (cs := #[.bool false, .int .u64 0, .int .u64 0]) ?_ 0 _ rfl; refine St ?_; exact BK299.out) Tryd.underlying24 rfl (by kernel_rfl)) rfl ?_
    exact ⟨by first | rfl | (simp [errW_none, errW_some] <;> rfl) | (simp [*, errW_none, errW_some] <;> rfl), Hb HB.out⟩

end Go.Proofs.YtmhjgjdiifcdlaaDoor.P
