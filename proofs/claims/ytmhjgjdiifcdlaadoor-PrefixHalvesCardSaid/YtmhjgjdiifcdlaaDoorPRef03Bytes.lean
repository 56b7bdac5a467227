-- Laid by a program (wip/pr.py) out of the translation: each function as a Lean function, and the proof that the call comes to it.
import Derived.Test.YtmhjgjdiifcdlaaDoorShort
import Derived.Test.YtmhjgjdiifcdlaaDoorPBase
import Derived.Test.YtmhjgjdiifcdlaaDoorPRef03Valid
import Derived.Test.YtmhjgjdiifcdlaaDoorPRef01Put
namespace Go.Proofs.YtmhjgjdiifcdlaaDoor.P
open Go.RowKit Go.Proofs.YtmhjgjdiifcdlaaDoorW.PrintWords Go.Proofs.YtmhjgjdiifcdlaaDoorW.PrintLast Go.Proofs.YtmhjgjdiifcdlaaDoorW.PrintMore
attribute [local go_sem] max2_int min2_int max_two min_two max_three min_three max_four min_four   -- for this text's walks alone
set_option linter.unusedVariables false
set_option linter.unusedSimpArgs false

/-! ### crosswayref03_Bytes: function 35 -/
def crosswayref03_Bytes.f (k : Nat) (a0_0 : Bool) (a0_1 : Int) (a0_2 : Int) : Option (List Int) := (crosswayref03_Valid.f a0_0 a0_1 a0_2).bind fun t282 => (if t282 = true then (if a0_0 = true then ((crosswayref01_Put.f k ([] : List Int) 8 a0_1).bind fun t283 => ((crosswayref01_Put.f k t283 8 a0_2).bind fun t286 => (some t286))) else ((crosswayref01_Put.f k ([] : List Int) 4 a0_2).bind fun t289 => (some t289))) else (some ([] : List Int)))
theorem crosswayref03_Bytes.mono : ∀ a0 a1 a2 k, LeO (crosswayref03_Bytes.f k a0 a1 a2) (crosswayref03_Bytes.f (k + 1) a0 a1 a2) := by
 intro a0 a1 a2 k
 unfold crosswayref03_Bytes.f
 repeat' first
   | (with_reducible exact crosswayref01_Put.mono _ _ _ _)
   | (with_reducible exact LeO.refl _)
   | (with_reducible exact LeO.none _)
   | (with_reducible refine LeO.ite ?_ ?_)
   | (with_reducible refine LeO.bind ?_ (fun _ => ?_))
   | exact crosswayref01_Put.mono _ _ _ _
   | exact LeO.none _
   | refine LeO.ite ?_ ?_
   | refine LeO.bind ?_ (fun _ => ?_)
set_option maxHeartbeats 8000000 in
set_option maxRecDepth 100000 in
theorem crosswayref03_Bytes.calls (k : Nat) (a0_0 : Bool) (a0_1 : Int) (a0_2 : Int) (r : List Int) (w : World) (h : crosswayref03_Bytes.f k a0_0 a0_1 a0_2 = some r) :
  Calls Tryd.prog 35 #[.agg #[.bool a0_0, .int .u64 a0_1, .int .u64 a0_2]] w fun e w' => ∃ v0_ : Value, e = .returned (v0_) ∧ Kd.R (Kd.int .u8) 5 w' w.heap.size (fun _ => True) v0_ r ∧ Below w.heap.size w w' := by
 have hu24 := Tryd.underlying24
 have HB := Aside0.mk (Below.refl w.heap.size w)
 have H : ((crosswayref03_Valid.f a0_0 a0_1 a0_2).bind fun t282 => (if t282 = true then (if a0_0 = true then ((crosswayref01_Put.f k ([] : List Int) 8 a0_1).bind fun t283 => ((crosswayref01_Put.f k t283 8 a0_2).bind fun t286 => (some t286))) else ((crosswayref01_Put.f k ([] : List Int) 4 a0_2).bind fun t289 => (some t289))) else (some ([] : List Int)))) = some r := h
 clear h
 replace H := Option.bind_eq_some_iff.mp H
 obtain ⟨t282, A20, H⟩ := H
 replace H : (if t282 = true then (if a0_0 = true then ((crosswayref01_Put.f k ([] : List Int) 8 a0_1).bind fun t283 => ((crosswayref01_Put.f k t283 8 a0_2).bind fun t286 => (some t286))) else ((crosswayref01_Put.f k ([] : List Int) 4 a0_2).bind fun t289 => (some t289))) else (some ([] : List Int))) = some r := H
 have A2 := Aside0.mk A20
 clear A20
 by_cases c3 : t282 = true
 ·subst c3
  have H1 : (if a0_0 = true then ((crosswayref01_Put.f k ([] : List Int) 8 a0_1).bind fun t283 => ((crosswayref01_Put.f k t283 8 a0_2).bind fun t286 => (some t286))) else ((crosswayref01_Put.f k ([] : List Int) 4 a0_2).bind fun t289 => (some t289))) = some r := by rw [if_pos rfl] at H; exact H
  clear H
  have H := H1
  clear H1
  by_cases c4 : a0_0 = true
  ·subst c4
   have H1 : ((crosswayref01_Put.f k ([] : List Int) 8 a0_1).bind fun t283 => ((crosswayref01_Put.f k t283 8 a0_2).bind fun t286 => (some t286))) = some r := by rw [if_pos rfl] at H; exact H
   clear H
   have H := H1
   clear H1
   replace H := Option.bind_eq_some_iff.mp H
   obtain ⟨t283, A50, H⟩ := H
   replace H : ((crosswayref01_Put.f k t283 8 a0_2).bind fun t286 => (some t286)) = some r := H
   have A5 := Aside0.mk A50
   clear A50
   replace H := Option.bind_eq_some_iff.mp H
   obtain ⟨t286, A60, H⟩ := H
   replace H : (some t286) = some r := H
   have A6 := Aside0.mk A60
   clear A60
   obtain rfl := Option.some.inj H
   go_enter Tryd.func35, Tryd.ntmps35
   try go_wp2_with (first | ((with_reducible refine gate_dst (N := 1) rfl ?_); refine box_event ?hg (N := 1) ?hd (cs := #[.bool true, .int .u64 a0_1, .int .u64 a0_2]) (t := 24) ?hr ?_; (case hd => rfl); (case hg => rfl); (case hr => first | (go_simp; done) | (go_simp; rfl)); intro gb281 hg w7 hbox hb; have n0_ := Aside0.mk (below_step (Hb HB.out) hb); have n1_ := Aside0.mk (hbox); have n2_ := Aside0.mk ((by rw [hg]; exact (below_size (Hb HB.out)) : w.heap.size ≤ gb281)); have n3_ := Aside0.mk ((by rw [hg]; exact (below_size (Hb HB.out)) : w.heap.size ≤ gb281)); clear HB; have HB := n0_; have BK281 := n1_; have GW281 := n2_; have GE281 := n3_; clear n0_ n1_ n2_ n3_; clear hb hbox hg; have hcz8_0 : w7.cell? ⟨gb281, 0, none⟩ = some (.bool true) := (blk_cell BK281.out 0).trans rfl; have hcz8_1 : w7.cell? ⟨gb281, 1, none⟩ = some (.int .u64 a0_1) := (blk_cell BK281.out 1).trans rfl; have hcz8_2 : w7.cell? ⟨gb281, 2, none⟩ = some (.int .u64 a0_2) := (blk_cell BK281.out 2).trans rfl; have hfz8_0 := blk_frozen BK281.out 0; have hfz8_1 := blk_frozen BK281.out 1; have hfz8_2 := blk_frozen BK281.out 2) | ((with_reducible refine gate_callee (f := 32) rfl ?_); refine goesL_ (some 4) rfl rfl Tryd.func32 (by kernel_rfl) rfl #[.agg #[.bool true, .int .u64 a0_1, .int .u64 a0_2]] rfl Ma ?_; (with_reducible refine (crosswayref03_Valid.calls true a0_1 a0_2 true _ A2.out).mono ?_); rintro e w9 ⟨rfl, hb⟩; refine ⟨_, rfl, ?_⟩; have n0_ := Aside0.mk (blk_below (g := gb281) (o := .cells #[.bool true, .int .u64 a0_1, .int .u64 a0_2] 24 (0, 0)) (St BK281.out) hb); have n1_ := Aside0.mk (below_step (Hb HB.out) hb); clear BK281; clear HB; have BK281 := n0_; have HB := n1_; clear n0_ n1_; (try clear hb); (try clear hb2); (try clear hk); (try clear hi); have hcz10_0 : w9.cell? ⟨gb281, 0, none⟩ = some (.bool true) := (blk_cell BK281.out 0).trans rfl; have hcz10_1 : w9.cell? ⟨gb281, 1, none⟩ = some (.int .u64 a0_1) := (blk_cell BK281.out 1).trans rfl; have hcz10_2 : w9.cell? ⟨gb281, 2, none⟩ = some (.int .u64 a0_2) := (blk_cell BK281.out 2).trans rfl; have hfz10_0 := blk_frozen BK281.out 0; have hfz10_1 := blk_frozen BK281.out 1; have hfz10_2 := blk_frozen BK281.out 2))
   have n0_ := Aside0.mk (blk_drew BK281.out)
   have n1_ := Aside0.mk (below_drew1 HB.out)
   clear BK281
   clear HB
   have BK281 := n0_
   have HB := n1_
   clear n0_ n1_
   refine start_ (n := 7) (S := fun w' => w'.cell? ⟨gb281, 0, none⟩ = some (.bool true) ∧ w'.cell? ⟨gb281, 1, none⟩ = some (.int .u64 a0_1) ∧ w'.cell? ⟨gb281, 2, none⟩ = some (.int .u64 a0_2)) (ds := []) #[Z,Z,Z,Z,Z,Z,Z] (by kernel_rfl) rfl rfl ⟨(blk_cell BK281.out 0).trans rfl, (blk_cell BK281.out 1).trans rfl, (blk_cell BK281.out 2).trans rfl⟩ (fun hHeld => ?_)
   generalize w9.drew = w11 at BK281 HB hHeld ⊢
   refine pure_ (i := 0) (N := some 8) (v := ?_) (a' := ?_) #[Y,Z,Z,Z,Z,Z,Z] rfl rfl (by kernel_rfl) (fun _ _ _ h => h) (Or.inl ⟨by rfl, ?_⟩) ?_ ?_
   rotate_left
   ·exact Sw
   rotate_left
   ·exact Sr
   refine pure_ (i := 3) (N := some 11) (v := ?_) (a' := ?_) #[Y,Z,Z,Y,Z,Z,Z] rfl rfl (by kernel_rfl) (fun _ _ _ h => h) (Or.inl ⟨by rfl, ?_⟩) ?_ ?_
   rotate_left
   ·exact Sw
   rotate_left
   ·exact Sr
   refine take_ (i := 1) (N := some 9) (v := ?_) (a' := ?_) #[Y,Y,Z,Y,Z,Z,Z] rfl rfl (by kernel_rfl) (fun _ _ _ h => h) (Or.inl ⟨by rfl, ?_⟩) hHeld ?_ ?_
   rotate_left
   ·rintro w' ⟨s0, s1, s2⟩
    go_simp
    with_reducible rfl
   rotate_left
   ·exact Sr
   refine take_ (i := 4) (N := some 12) (v := ?_) (a' := ?_) #[Y,Y,Z,Y,Y,Z,Z] rfl rfl (by kernel_rfl) (fun _ _ _ h => h) (Or.inl ⟨by rfl, ?_⟩) hHeld ?_ ?_
   rotate_left
   ·rintro w' ⟨s0, s1, s2⟩
    go_simp
    with_reducible rfl
   rotate_left
   ·exact Sr
   refine one_ (i := 2) (N := some 10) #[Y,Y,Y,Y,Y,Z,Z] rfl rfl (by kernel_rfl) (by decide) (fun K hK => ?_)
   refine goes_ Tryd.func47 (by kernel_rfl) rfl #[.slice none 0 0, .int .i64 8, .int .u64 a0_1] (by rfl) rfl rfl Ma ?_
   refine (crosswayref01_Put.calls k _ _ ([] : List Int) 8 a0_1 t283 _ ?side1 ?side2 A5.out).mono ?_
   (case side1 => exact Kd.C_nil _ _)
   (case side2 => exact Nat.le_refl _)
   rintro e w12 ⟨v284, rfl, ho0, hb⟩
   refine ⟨_, rfl, ?_⟩
   have n0_ := Aside0.mk (Kd.R_lower ho0 (below_size (Hb HB.out)))
   have n1_ := Aside0.mk (blk_below (g := gb281) (o := .cells #[.bool true, .int .u64 a0_1, .int .u64 a0_2] 24 (0, 0)) (St BK281.out) hb)
   have n2_ := Aside0.mk (below_step (Hb HB.out) hb)
   clear BK281
   clear HB
   have HO285 := n0_
   have BK281 := n1_
   have HB := n2_
   clear n0_ n1_ n2_
   (try clear hb)
   (try clear hb2)
   (try clear hk)
   (try clear hi)
   (try clear ho0)
   obtain ⟨Ao13, co13, eo13⟩ := Kd.R_slice HO285.out
   (first | subst eo13 | (injection eo13 with f1_ f2_ f3_; have f4_ := f1_.symm; have f5_ := f3_.symm; clear f1_ f2_ f3_; subst f4_; subst f5_))
   refine hK.out _ _ ⟨(blk_cell BK281.out 0).trans rfl, (blk_cell BK281.out 1).trans rfl, (blk_cell BK281.out 2).trans rfl⟩ (fun hHeld => ?_)
   clear hK K
   refine norm_ (a' := ?_) ?_ ?_
   rotate_left
   ·show Act.put _ (some 10) _ = _
    refine Sp ?_
    rfl
   refine one_ (i := 5) (N := some 13) #[Y,Y,Y,Y,Y,Y,Z] rfl rfl (by kernel_rfl) (by decide) (fun K hK => ?_)
   refine goes_ Tryd.func47 (by kernel_rfl) rfl #[.slice Ao13 t283.length co13, .int .i64 8, .int .u64 a0_2] (by rfl) rfl rfl Ma ?_
   with_reducible refine (crosswayref01_Put.calls k _ _ t283 8 a0_2 t286 _ ?side1 ?side2 A6.out).mono ?_
   (case side1 => repeat (first | exact (Kd.R_reads' HO285.out).2.2 | (with_reducible refine Kd.C_alloc ?_ _) | (with_reducible refine Kd.C_drewN ?_ _) | (with_reducible refine Kd.C_drew ?_)))
   (case side2 => exact (Kd.R_reads' HO285.out).2.1)
   rintro e w14 ⟨v287, rfl, ho0, hb⟩
   refine ⟨_, rfl, ?_⟩
   have n0_ := Aside0.mk (Kd.R_elder' (by (with_reducible repeat (first | apply Kd.R_alloc | apply Kd.R_drewN | apply Kd.R_drew)); exact HO285.out) (Kd.R_base ho0) hb)
   have n1_ := Aside0.mk (Kd.R_lower (Kd.R_new' ho0 (Kd.R_lt (by (with_reducible repeat (first | apply Kd.R_alloc | apply Kd.R_drewN | apply Kd.R_drew)); exact HO285.out))) (below_size (Hb HB.out)))
   have n2_ := Aside0.mk (blk_below (g := gb281) (o := .cells #[.bool true, .int .u64 a0_1, .int .u64 a0_2] 24 (0, 0)) (St BK281.out) hb)
   have n3_ := Aside0.mk (below_step (Hb HB.out) hb)
   clear HO285
   clear BK281
   clear HB
   have HO285 := n0_
   have HO288 := n1_
   have BK281 := n2_
   have HB := n3_
   clear n0_ n1_ n2_ n3_
   (try clear hb)
   (try clear hb2)
   (try clear hk)
   (try clear hi)
   (try clear ho0)
   refine hK.out _ _ ⟨(blk_cell BK281.out 0).trans rfl, (blk_cell BK281.out 1).trans rfl, (blk_cell BK281.out 2).trans rfl⟩ (fun hHeld => ?_)
   clear hK K
   refine norm_ (a' := ?_) ?_ ?_
   rotate_left
   ·show Act.put _ (some 13) _ = _
    refine Sp ?_
    rfl
   refine pure_ (i := 6) (N := some 2) (v := ?_) (a' := ?_) #[Y,Y,Y,Y,Y,Y,Y] rfl rfl (by kernel_rfl) (fun _ _ _ h => h) (Or.inl ⟨by rfl, ?_⟩) ?_ ?_
   rotate_left
   ·exact Sw
   rotate_left
   ·exact Sr
   refine done_ (by kernel_rfl) ?_
   try go_wp2
   go_ret
   exact ⟨_, by first | rfl | (simp [errW_none, errW_some] <;> rfl) | (simp [*, errW_none, errW_some] <;> rfl), by (with_reducible repeat (first | apply Kd.R_alloc | apply Kd.R_drewN | apply Kd.R_drew)); exact Kd.R_mono HO288.out (fun _ hk => trivial), Hb HB.out⟩
  ·replace c4 := Bool.eq_false_iff.mpr c4
   subst c4
   have H1 : ((crosswayref01_Put.f k ([] : List Int) 4 a0_2).bind fun t289 => (some t289)) = some r := by rw [if_neg (show ¬ (false = true) by decide)] at H; exact H
   clear H
   have H := H1
   clear H1
   replace H := Option.bind_eq_some_iff.mp H
   obtain ⟨t289, A150, H⟩ := H
   replace H : (some t289) = some r := H
   have A15 := Aside0.mk A150
   clear A150
   obtain rfl := Option.some.inj H
   go_enter Tryd.func35, Tryd.ntmps35
   go_wp2_with (first | ((with_reducible refine gate_dst (N := 1) rfl ?_); refine box_event ?hg (N := 1) ?hd (cs := #[.bool false, .int .u64 a0_1, .int .u64 a0_2]) (t := 24) ?hr ?_; (case hd => rfl); (case hg => rfl); (case hr => first | (go_simp; done) | (go_simp; rfl)); intro gb281 hg w16 hbox hb; have n0_ := Aside0.mk (below_step (Hb HB.out) hb); have n1_ := Aside0.mk (hbox); have n2_ := Aside0.mk ((by rw [hg]; exact (below_size (Hb HB.out)) : w.heap.size ≤ gb281)); have n3_ := Aside0.mk ((by rw [hg]; exact (below_size (Hb HB.out)) : w.heap.size ≤ gb281)); clear HB; have HB := n0_; have BK281 := n1_; have GW281 := n2_; have GE281 := n3_; clear n0_ n1_ n2_ n3_; clear hb hbox hg; have hcz17_0 : w16.cell? ⟨gb281, 0, none⟩ = some (.bool false) := (blk_cell BK281.out 0).trans rfl; have hcz17_1 : w16.cell? ⟨gb281, 1, none⟩ = some (.int .u64 a0_1) := (blk_cell BK281.out 1).trans rfl; have hcz17_2 : w16.cell? ⟨gb281, 2, none⟩ = some (.int .u64 a0_2) := (blk_cell BK281.out 2).trans rfl; have hfz17_0 := blk_frozen BK281.out 0; have hfz17_1 := blk_frozen BK281.out 1; have hfz17_2 := blk_frozen BK281.out 2) | ((with_reducible refine gate_callee (f := 32) rfl ?_); refine goesL_ (some 4) rfl rfl Tryd.func32 (by kernel_rfl) rfl #[.agg #[.bool false, .int .u64 a0_1, .int .u64 a0_2]] rfl Ma ?_; (with_reducible refine (crosswayref03_Valid.calls false a0_1 a0_2 true _ A2.out).mono ?_); rintro e w18 ⟨rfl, hb⟩; refine ⟨_, rfl, ?_⟩; have n0_ := Aside0.mk (blk_below (g := gb281) (o := .cells #[.bool false, .int .u64 a0_1, .int .u64 a0_2] 24 (0, 0)) (St BK281.out) hb); have n1_ := Aside0.mk (below_step (Hb HB.out) hb); clear BK281; clear HB; have BK281 := n0_; have HB := n1_; clear n0_ n1_; (try clear hb); (try clear hb2); (try clear hk); (try clear hi); have hcz19_0 : w18.cell? ⟨gb281, 0, none⟩ = some (.bool false) := (blk_cell BK281.out 0).trans rfl; have hcz19_1 : w18.cell? ⟨gb281, 1, none⟩ = some (.int .u64 a0_1) := (blk_cell BK281.out 1).trans rfl; have hcz19_2 : w18.cell? ⟨gb281, 2, none⟩ = some (.int .u64 a0_2) := (blk_cell BK281.out 2).trans rfl; have hfz19_0 := blk_frozen BK281.out 0; have hfz19_1 := blk_frozen BK281.out 1; have hfz19_2 := blk_frozen BK281.out 2) | ((with_reducible refine gate_callee (f := 47) rfl ?_); refine goesL_ (some 16) rfl rfl Tryd.func47 (by kernel_rfl) rfl #[.slice none 0 0, .int .i64 4, .int .u64 a0_2] rfl Ma ?_; (refine (crosswayref01_Put.calls k _ _ ([] : List Int) 4 a0_2 t289 _ ?side1 ?side2 A15.out).mono ?_); (case side1 => exact Kd.C_nil _ _); (case side2 => exact Nat.le_refl _); rintro e w20 ⟨v290, rfl, ho0, hb⟩; refine ⟨_, rfl, ?_⟩; have n0_ := Aside0.mk (Kd.R_lower ho0 (below_size (Hb HB.out))); have n1_ := Aside0.mk (blk_below (g := gb281) (o := .cells #[.bool false, .int .u64 a0_1, .int .u64 a0_2] 24 (0, 0)) (St BK281.out) hb); have n2_ := Aside0.mk (below_step (Hb HB.out) hb); clear BK281; clear HB; have HO291 := n0_; have BK281 := n1_; have HB := n2_; clear n0_ n1_ n2_; (try clear hb); (try clear hb2); (try clear hk); (try clear hi); (try clear ho0)))
   go_ret
   exact ⟨_, by first | rfl | (simp [errW_none, errW_some] <;> rfl) | (simp [*, errW_none, errW_some] <;> rfl), by (with_reducible repeat (first | apply Kd.R_alloc | apply Kd.R_drewN | apply Kd.R_drew)); exact HO291.out, Hb HB.out⟩
 ·replace c3 := Bool.eq_false_iff.mpr c3
  subst c3
  have H1 : (some ([] : List Int)) = some r := by rw [if_neg (show ¬ (false = true) by decide)] at H; exact H
  clear H
  have H := H1
  clear H1
  obtain rfl := Option.some.inj H
  go_enter Tryd.func35, Tryd.ntmps35
  go_wp2_with (first | ((with_reducible refine gate_dst (N := 1) rfl ?_); refine box_event ?hg (N := 1) ?hd (cs := #[.bool a0_0, .int .u64 a0_1, .int .u64 a0_2]) (t := 24) ?hr ?_; (case hd => rfl); (case hg => rfl); (case hr => first | (go_simp; done) | (go_simp; rfl)); intro gb281 hg w21 hbox hb; have n0_ := Aside0.mk (below_step (Hb HB.out) hb); have n1_ := Aside0.mk (hbox); have n2_ := Aside0.mk ((by rw [hg]; exact (below_size (Hb HB.out)) : w.heap.size ≤ gb281)); have n3_ := Aside0.mk ((by rw [hg]; exact (below_size (Hb HB.out)) : w.heap.size ≤ gb281)); clear HB; have HB := n0_; have BK281 := n1_; have GW281 := n2_; have GE281 := n3_; clear n0_ n1_ n2_ n3_; clear hb hbox hg; have hcz22_0 : w21.cell? ⟨gb281, 0, none⟩ = some (.bool a0_0) := (blk_cell BK281.out 0).trans rfl; have hcz22_1 : w21.cell? ⟨gb281, 1, none⟩ = some (.int .u64 a0_1) := (blk_cell BK281.out 1).trans rfl; have hcz22_2 : w21.cell? ⟨gb281, 2, none⟩ = some (.int .u64 a0_2) := (blk_cell BK281.out 2).trans rfl; have hfz22_0 := blk_frozen BK281.out 0; have hfz22_1 := blk_frozen BK281.out 1; have hfz22_2 := blk_frozen BK281.out 2) | ((with_reducible refine gate_callee (f := 32) rfl ?_); refine goesL_ (some 4) rfl rfl Tryd.func32 (by kernel_rfl) rfl #[.agg #[.bool a0_0, .int .u64 a0_1, .int .u64 a0_2]] rfl Ma ?_; (with_reducible refine (crosswayref03_Valid.calls a0_0 a0_1 a0_2 false _ A2.out).mono ?_); rintro e w23 ⟨rfl, hb⟩; refine ⟨_, rfl, ?_⟩; have n0_ := Aside0.mk (blk_below (g := gb281) (o := .cells #[.bool a0_0, .int .u64 a0_1, .int .u64 a0_2] 24 (0, 0)) (St BK281.out) hb); have n1_ := Aside0.mk (below_step (Hb HB.out) hb); clear BK281; clear HB; have BK281 := n0_; have HB := n1_; clear n0_ n1_; (try clear hb); (try clear hb2); (try clear hk); (try clear hi)))
  go_ret
  exact ⟨_, by first | rfl | (simp [errW_none, errW_some] <;> rfl) | (simp [*, errW_none, errW_some] <;> rfl), by first | exact Kd.R_nil _ _ _ _ _ | exact Kd.N_nil _ _ _ _ _ | exact Kd.V_nil _ _ _ _ _ | exact Kd.Q_nil _ _ _ _ _ | exact Kd.S_nil _ _ _ _ _, Hb HB.out⟩

end Go.Proofs.YtmhjgjdiifcdlaaDoor.P
