-- Laid by a program (wip/pr.py) out of the translation: each function as a Lean function, and the proof that the call comes to it.
import Derived.Test.YtmhjgjdiifcdlaaDoorShort
import Derived.Test.YtmhjgjdiifcdlaaDoorPBase
import Derived.Test.YtmhjgjdiifcdlaaDoorPPrefixValid
import Derived.Test.YtmhjgjdiifcdlaaDoorPAddrParse
import Derived.Test.YtmhjgjdiifcdlaaDoorGiven
namespace Go.Proofs.YtmhjgjdiifcdlaaDoor.P
open Go.RowKit Go.Proofs.YtmhjgjdiifcdlaaDoorW.PrintWords Go.Proofs.YtmhjgjdiifcdlaaDoorW.PrintLast Go.Proofs.YtmhjgjdiifcdlaaDoorW.PrintMore
attribute [local go_sem] max2_int min2_int max_two min_two max_three min_three max_four min_four   -- for this text's walks alone
set_option linter.unusedVariables false
set_option linter.unusedSimpArgs false

/-! ### prefix_Parse: function 23 -/
def prefix_Parse.f (k : Nat) (a0 : ByteArray) : Option (Bool × Int × Int × Int × Int) := (strings_Cut.f a0 (⟨#[47]⟩ : ByteArray)).bind fun bt182 => (if bt182.2.2 = true then ((addr_Parse.f k bt182.1).bind fun bt185 => (if bt185.2.2.2 = 0 then ((prefix_many.f bt182.2.1).bind fun t190 => ((prefix_Valid.f bt185.1 bt185.2.1 bt185.2.2.1 t190).bind fun t192 => (if t192 = true then (some (bt185.1, bt185.2.1, bt185.2.2.1, t190, 0)) else (some (false, 0, 0, 0, 30))))) else (some (false, 0, 0, 0, bt185.2.2.2)))) else (some (false, 0, 0, 0, 30)))
theorem prefix_Parse.mono : ∀ a0 k, LeO (prefix_Parse.f k a0) (prefix_Parse.f (k + 1) a0) := by
 intro a0 k
 unfold prefix_Parse.f
 repeat' first
   | (with_reducible exact addr_Parse.mono _ _)
   | (with_reducible exact LeO.refl _)
   | (with_reducible exact LeO.none _)
   | (with_reducible refine LeO.ite ?_ ?_)
   | (with_reducible refine LeO.bind ?_ (fun _ => ?_))
   | exact addr_Parse.mono _ _
   | exact LeO.none _
   | refine LeO.ite ?_ ?_
   | refine LeO.bind ?_ (fun _ => ?_)
set_option maxHeartbeats 8000000 in
set_option maxRecDepth 100000 in
theorem prefix_Parse.calls (k : Nat) (a0 : ByteArray) (r1 : Bool) (r2 : Int) (r3 : Int) (r4 : Int) (r5 : Int) (w : World) (hG : Glob w) (h : prefix_Parse.f k a0 = some (r1, r2, r3, r4, r5)) :
  Calls Tryd.prog 23 #[.string a0] w fun e w' => e = .returned (.tuple #[.agg #[.bool r1, .int .u64 r2, .int .u64 r3, .int .i64 r4], .int .i64 r5]) ∧ Below w.heap.size w w' := by
 have hu26 := Tryd.underlying26
 have hu24 := Tryd.underlying24
 have HG := Aside0.mk hG
 clear hG
 have HB := Aside0.mk (Below.refl w.heap.size w)
 have H : ((strings_Cut.f a0 (⟨#[47]⟩ : ByteArray)).bind fun bt182 => (if bt182.2.2 = true then ((addr_Parse.f k bt182.1).bind fun bt185 => (if bt185.2.2.2 = 0 then ((prefix_many.f bt182.2.1).bind fun t190 => ((prefix_Valid.f bt185.1 bt185.2.1 bt185.2.2.1 t190).bind fun t192 => (if t192 = true then (some (bt185.1, bt185.2.1, bt185.2.2.1, t190, 0)) else (some (false, 0, 0, 0, 30))))) else (some (false, 0, 0, 0, bt185.2.2.2)))) else (some (false, 0, 0, 0, 30)))) = some (r1, r2, r3, r4, r5) := h
 clear h
 replace H := Option.bind_eq_some_iff.mp H
 obtain ⟨⟨t182, t183, t184⟩, A20, H⟩ := H
 replace H : (if t184 = true then ((addr_Parse.f k t182).bind fun bt185 => (if bt185.2.2.2 = 0 then ((prefix_many.f t183).bind fun t190 => ((prefix_Valid.f bt185.1 bt185.2.1 bt185.2.2.1 t190).bind fun t192 => (if t192 = true then (some (bt185.1, bt185.2.1, bt185.2.2.1, t190, 0)) else (some (false, 0, 0, 0, 30))))) else (some (false, 0, 0, 0, bt185.2.2.2)))) else (some (false, 0, 0, 0, 30))) = some (r1, r2, r3, r4, r5) := H
 have A2 := Aside0.mk A20
 clear A20
 by_cases c3 : t184 = true
 ·subst c3
  have H1 : ((addr_Parse.f k t182).bind fun bt185 => (if bt185.2.2.2 = 0 then ((prefix_many.f t183).bind fun t190 => ((prefix_Valid.f bt185.1 bt185.2.1 bt185.2.2.1 t190).bind fun t192 => (if t192 = true then (some (bt185.1, bt185.2.1, bt185.2.2.1, t190, 0)) else (some (false, 0, 0, 0, 30))))) else (some (false, 0, 0, 0, bt185.2.2.2)))) = some (r1, r2, r3, r4, r5) := by rw [if_pos rfl] at H; exact H
  clear H
  have H := H1
  clear H1
  replace H := Option.bind_eq_some_iff.mp H
  obtain ⟨⟨t185, t186, t187, t188⟩, A40, H⟩ := H
  replace H : (if t188 = 0 then ((prefix_many.f t183).bind fun t190 => ((prefix_Valid.f t185 t186 t187 t190).bind fun t192 => (if t192 = true then (some (t185, t186, t187, t190, 0)) else (some (false, 0, 0, 0, 30))))) else (some (false, 0, 0, 0, t188))) = some (r1, r2, r3, r4, r5) := H
  have A4 := Aside0.mk A40
  clear A40
  by_cases c5 : t188 = 0
  ·rw [if_pos c5] at H
   have c5b0 : (t188 == 0) = true := beq_iff_eq.mpr c5
   have c5b1 : (t188 != 0) = false := bne_eq_false_iff_eq.mpr c5
   clear c5
   replace H := Option.bind_eq_some_iff.mp H
   obtain ⟨t190, A60, H⟩ := H
   replace H : ((prefix_Valid.f t185 t186 t187 t190).bind fun t192 => (if t192 = true then (some (t185, t186, t187, t190, 0)) else (some (false, 0, 0, 0, 30)))) = some (r1, r2, r3, r4, r5) := H
   have A6 := Aside0.mk A60
   clear A60
   replace H := Option.bind_eq_some_iff.mp H
   obtain ⟨t192, A70, H⟩ := H
   replace H : (if t192 = true then (some (t185, t186, t187, t190, 0)) else (some (false, 0, 0, 0, 30))) = some (r1, r2, r3, r4, r5) := H
   have A7 := Aside0.mk A70
   clear A70
   by_cases c8 : t192 = true
   ·subst c8
    have H1 : (some (t185, t186, t187, t190, 0)) = some (r1, r2, r3, r4, r5) := by rw [if_pos rfl] at H; exact H
    clear H
    have H := H1
    clear H1
    simp only [Option.some.injEq, Prod.mk.injEq] at H
    obtain ⟨rfl, rfl, rfl, rfl, rfl⟩ := H
    go_enter Tryd.func23, Tryd.ntmps23
    try go_wp2_with (first | ((with_reducible refine gate_dst (N := 2) rfl ?_); refine box_event ?hg (N := 2) ?hd (cs := #[.bool false, .int .u64 0, .int .u64 0, .int .i64 0]) (t := 26) ?hr ?_; (case hd => rfl); (case hg => rfl); (case hr => first | (go_simp; done) | (go_simp; rfl)); intro gb181 hg w9 hbox hb; have n0_ := Aside0.mk (below_step (Hb HB.out) hb); have n1_ := Aside0.mk (hbox); have n2_ := Aside0.mk ((by rw [hg]; exact (below_size (Hb HB.out)) : w.heap.size ≤ gb181)); have n3_ := Aside0.mk ((by rw [hg]; exact (below_size (Hb HB.out)) : w.heap.size ≤ gb181)); clear HB; have HB := n0_; have BK181 := n1_; have GW181 := n2_; have GE181 := n3_; clear n0_ n1_ n2_ n3_; clear hb hbox hg) | ((with_reducible refine gate_callee (f := 40) rfl ?_); refine goesL_ (some 12) rfl rfl Tryd.func40 (by kernel_rfl) rfl #[.string a0, .string (⟨#[47]⟩ : ByteArray)] rfl Ma ?_; (with_reducible refine (strings_Cut.calls a0 (⟨#[47]⟩ : ByteArray) t182 t183 true _ (Glob_below HG.out (Hb HB.out)) A2.out).mono ?_); rintro e w10 ⟨rfl, hb⟩; refine ⟨_, rfl, ?_⟩; have n0_ := Aside0.mk (blk_below (g := gb181) (o := .cells #[.bool false, .int .u64 0, .int .u64 0, .int .i64 0] 26 (0, 0)) (St BK181.out) hb); have n1_ := Aside0.mk (below_step (Hb HB.out) hb); clear BK181; clear HB; have BK181 := n0_; have HB := n1_; clear n0_ n1_; (try clear hb); (try clear hb2); (try clear hk); (try clear hi)) | ((with_reducible refine gate_callee (f := 41) rfl ?_); refine goesL_ (some 21) rfl rfl Tryd.func41 (by kernel_rfl) rfl #[.string t182] rfl Ma ?_; (with_reducible refine (addr_Parse.calls k t182 t185 t186 t187 t188 _ (Glob_below HG.out (Hb HB.out)) A4.out).mono ?_); rintro e w11 ⟨rfl, hb⟩; refine ⟨_, rfl, ?_⟩; have n0_ := Aside0.mk (blk_below (g := gb181) (o := .cells #[.bool false, .int .u64 0, .int .u64 0, .int .i64 0] 26 (0, 0)) (St BK181.out) hb); have n1_ := Aside0.mk (below_step (Hb HB.out) hb); clear BK181; clear HB; have BK181 := n0_; have HB := n1_; clear n0_ n1_; (try clear hb); (try clear hb2); (try clear hk); (try clear hi)) | ((with_reducible refine gate_dst (N := 7) rfl ?_); refine box_event ?hg (N := 7) ?hd (cs := #[.bool false, .int .u64 0, .int .u64 0]) (t := 24) ?hr ?_; (case hd => rfl); (case hg => rfl); (case hr => first | (go_simp; done) | (go_simp; rfl)); intro gb189 hg w12 hbox hb; have n0_ := Aside0.mk (blk_below (g := gb181) (o := .cells #[.bool false, .int .u64 0, .int .u64 0, .int .i64 0] 26 (0, 0)) (St BK181.out) hb); have n1_ := Aside0.mk (below_step (Hb HB.out) hb); have n2_ := Aside0.mk (hbox); have n3_ := Aside0.mk ((by rw [hg]; exact (below_size (Hb HB.out)) : w.heap.size ≤ gb189)); have n4_ := Aside0.mk ((by rw [hg]; exact (below_size (Hb HB.out)) : w.heap.size ≤ gb189)); have n5_ := Aside0.mk ((by rw [hg]; exact Nat.ne_of_lt (blk_lt (g := gb181) (o := .cells #[.bool false, .int .u64 0, .int .u64 0, .int .i64 0] 26 (0, 0)) (St BK181.out)) : gb181 ≠ gb189)); have n6_ := Aside0.mk ((by rw [hg]; exact Nat.ne_of_gt (blk_lt (g := gb181) (o := .cells #[.bool false, .int .u64 0, .int .u64 0, .int .i64 0] 26 (0, 0)) (St BK181.out)) : gb189 ≠ gb181)); clear BK181; clear HB; have BK181 := n0_; have HB := n1_; have BK189 := n2_; have GW189 := n3_; have GE189 := n4_; have NB181_189 := n5_; have NB189_181 := n6_; clear n0_ n1_ n2_ n3_ n4_ n5_ n6_; clear hb hbox hg; have hnb13 := NB189_181.out; have hnc13 := NB181_189.out; have hcz14_0 : w12.cell? ⟨gb189, 0, none⟩ = some (.bool false) := (blk_cell BK189.out 0).trans rfl; have hcz14_1 : w12.cell? ⟨gb189, 1, none⟩ = some (.int .u64 0) := (blk_cell BK189.out 1).trans rfl; have hcz14_2 : w12.cell? ⟨gb189, 2, none⟩ = some (.int .u64 0) := (blk_cell BK189.out 2).trans rfl; have hfz14_0 := blk_frozen BK189.out 0; have hfz14_1 := blk_frozen BK189.out 1; have hfz14_2 := blk_frozen BK189.out 2))
    have n0_ : Aside0 ((((w12.setCell ⟨gb189, 0, none⟩ (.bool t185)).setCell ⟨gb189, 1, none⟩ (.int .u64 t186)).setCell ⟨gb189, 2, none⟩ (.int .u64 t187)).heap[gb181]? = some (.cells #[.bool false, .int .u64 0, .int .u64 0, .int .i64 0] 26 (0, 0))) := ⟨by refine St ?_; refine blk_far ?_ NB181_189.out _; refine St ?_; refine blk_far ?_ NB181_189.out _; refine St ?_; refine blk_far ?_ NB181_189.out _; refine St ?_; exact BK181.out⟩
    have n1_ : Aside0 ((((w12.setCell ⟨gb189, 0, none⟩ (.bool t185)).setCell ⟨gb189, 1, none⟩ (.int .u64 t186)).setCell ⟨gb189, 2, none⟩ (.int .u64 t187)).heap[gb189]? = some (.cells #[.bool t185, .int .u64 t186, .int .u64 t187] 24 (0, 0))) := ⟨by refine St ?_; refine blk_put (cs := #[.bool t185, .int .u64 t186, .int .u64 0]) ?_ 2 _ rfl; refine St ?_; refine blk_put (cs := #[.bool t185, .int .u64 0, .int .u64 0]) ?_ 1 _ rfl; refine St ?_; refine blk_put (cs := #[.bool false, .int .u64 0, .int .u64 0]) ?_ 0 _ rfl; refine St ?_; exact BK189.out⟩
    have n2_ : Aside0 (Below w.heap.size w (((w12.setCell ⟨gb189, 0, none⟩ (.bool t185)).setCell ⟨gb189, 1, none⟩ (.int .u64 t186)).setCell ⟨gb189, 2, none⟩ (.int .u64 t187))) := ⟨Hb HB.out⟩
    (try clear BK181)
    (try clear BK189)
    (try clear HB)
    generalize (((w12.setCell ⟨gb189, 0, none⟩ (.bool t185)).setCell ⟨gb189, 1, none⟩ (.int .u64 t186)).setCell ⟨gb189, 2, none⟩ (.int .u64 t187)) = w15 at n0_ n1_ n2_ ⊢
    have BK181 := n0_
    have BK189 := n1_
    have HB := n2_
    clear n0_ n1_ n2_
    have n0_ := Aside0.mk (blk_drew BK181.out)
    have n1_ := Aside0.mk (blk_drew BK189.out)
    have n2_ := Aside0.mk (below_drew1 HB.out)
    clear BK181
    clear BK189
    clear HB
    have BK181 := n0_
    have BK189 := n1_
    have HB := n2_
    clear n0_ n1_ n2_
    refine start_ (n := 6) (S := fun w' => w'.cell? ⟨gb189, 0, none⟩ = some (.bool t185) ∧ w'.cell? ⟨gb189, 1, none⟩ = some (.int .u64 t186) ∧ w'.cell? ⟨gb189, 2, none⟩ = some (.int .u64 t187)) (ds := []) #[Z,Z,Z,Z,Z,Z] (by kernel_rfl) rfl rfl ⟨(blk_cell BK189.out 0).trans rfl, (blk_cell BK189.out 1).trans rfl, (blk_cell BK189.out 2).trans rfl⟩ (fun hHeld => ?_)
    generalize w15.drew = w16 at BK181 BK189 HB hHeld ⊢
    refine pure_ (i := 1) (N := some 29) (v := ?_) (a' := ?_) #[Z,Y,Z,Z,Z,Z] rfl rfl (by kernel_rfl) (fun _ _ _ h => h) (Or.inl ⟨by rfl, ?_⟩) ?_ ?_
    rotate_left
    ·exact Sw
    rotate_left
    ·exact Sr
    refine take_ (i := 0) (N := some 28) (v := ?_) (a' := ?_) #[Y,Y,Z,Z,Z,Z] rfl rfl (by kernel_rfl) (fun _ _ _ h => h) (Or.inl ⟨by rfl, ?_⟩) hHeld ?_ ?_
    rotate_left
    ·rintro w' ⟨s0, s1, s2⟩
     go_simp
     with_reducible rfl
    rotate_left
    ·exact Sr
    refine join_ (σ := Nat) 1 #[Y,Y,Y,Y,Y,Z] (fun s_ => [(30, .int .i64 t190), (9, .pointer (some ⟨s_, 0, none⟩)), (31, .agg #[.bool t185, .int .u64 t186, .int .u64 t187, .int .i64 t190])]) (fun s_ w' => (w'.cell? ⟨gb189, 0, none⟩ = some (.bool t185) ∧ w'.cell? ⟨gb189, 1, none⟩ = some (.int .u64 t186) ∧ w'.cell? ⟨gb189, 2, none⟩ = some (.int .u64 t187)) ∧ (w'.heap[gb181]? = some (.cells #[.bool false, .int .u64 0, .int .u64 0, .int .i64 0] 26 (0, 0))) ∧ (w'.heap[gb189]? = some (.cells #[.bool t185, .int .u64 t186, .int .u64 t187] 24 (0, 0))) ∧ (w'.heap[s_]? = some (.cells #[.bool false, .int .u64 0, .int .u64 0, .int .i64 0] 26 (0, 0))) ∧ (w.heap.size ≤ s_) ∧ (w.heap.size ≤ s_) ∧ (gb181 ≠ s_) ∧ (s_ ≠ gb181) ∧ (gb189 ≠ s_) ∧ (s_ ≠ gb189) ∧ (Below w.heap.size w w')) ?_ ?_
    rotate_left
    ·intro hCont
     refine two_ (i := 2) (j := 4) (Ni := some 30) (Nj := some 9) #[Y,Y,Y,Z,Z,Z] #[Y,Y,Z,Z,Y,Z] rfl rfl rfl rfl (by kernel_rfl) (by decide) (by decide) (fun K hK => ?_) (fun K hK => ?_)
     ·skip
      refine goes_ Tryd.func42 (by kernel_rfl) rfl #[.string t183] (by rfl) rfl rfl Ma ?_
      with_reducible refine (prefix_many.calls t183 t190 _ (Glob_below HG.out (Hb HB.out)) A6.out).mono ?_
      rintro e w17 ⟨rfl, hb⟩
      refine ⟨_, rfl, ?_⟩
      have n0_ := Aside0.mk (blk_below (g := gb181) (o := .cells #[.bool false, .int .u64 0, .int .u64 0, .int .i64 0] 26 (0, 0)) (St BK181.out) hb)
      have n1_ := Aside0.mk (blk_below (g := gb189) (o := .cells #[.bool t185, .int .u64 t186, .int .u64 t187] 24 (0, 0)) (St BK189.out) hb)
      have n2_ := Aside0.mk (below_step (Hb HB.out) hb)
      clear BK181
      clear BK189
      clear HB
      have BK181 := n0_
      have BK189 := n1_
      have HB := n2_
      clear n0_ n1_ n2_
      (try clear hb)
      (try clear hb2)
      (try clear hk)
      (try clear hi)
      refine hK.out _ _ ⟨(blk_cell BK189.out 0).trans rfl, (blk_cell BK189.out 1).trans rfl, (blk_cell BK189.out 2).trans rfl⟩ (fun hHeld => ?_)
      clear hK K
      refine norm_ (a' := ?_) ?_ ?_
      rotate_left
      ·show Act.put _ (some 30) _ = _
       refine Sp ?_
       rfl
      refine pure_ (i := 3) (N := some 31) (v := ?_) (a' := ?_) #[Y,Y,Y,Y,Z,Z] rfl rfl (by kernel_rfl) (fun _ _ _ h => h) (Or.inl ⟨by rfl, ?_⟩) ?_ ?_
      rotate_left
      ·exact Sw
      rotate_left
      ·exact Sr
      refine one_ (i := 4) (N := some 9) #[Y,Y,Y,Y,Y,Z] rfl rfl (by kernel_rfl) (by decide) (fun K hK => ?_)
      refine box_step ?hg (N := 9) ?hd (cs := #[.bool false, .int .u64 0, .int .u64 0, .int .i64 0]) (t := 26) ?hr ?_; (case hd => rfl); (case hg => rfl); (case hr => first | (go_simp; done) | (go_simp; rfl))
      intro gb191 hg w18 hbox hb
      have n0_ := Aside0.mk (blk_below (g := gb181) (o := .cells #[.bool false, .int .u64 0, .int .u64 0, .int .i64 0] 26 (0, 0)) (St BK181.out) hb)
      have n1_ := Aside0.mk (blk_below (g := gb189) (o := .cells #[.bool t185, .int .u64 t186, .int .u64 t187] 24 (0, 0)) (St BK189.out) hb)
      have n2_ := Aside0.mk (below_step (Hb HB.out) hb)
      have n3_ := Aside0.mk (hbox)
      have n4_ := Aside0.mk ((by rw [hg]; exact (below_size (Hb HB.out)) : w.heap.size ≤ gb191))
      have n5_ := Aside0.mk ((by rw [hg]; exact (below_size (Hb HB.out)) : w.heap.size ≤ gb191))
      have n6_ := Aside0.mk ((by rw [hg]; exact Nat.ne_of_lt (blk_lt (g := gb181) (o := .cells #[.bool false, .int .u64 0, .int .u64 0, .int .i64 0] 26 (0, 0)) (St BK181.out)) : gb181 ≠ gb191))
      have n7_ := Aside0.mk ((by rw [hg]; exact Nat.ne_of_gt (blk_lt (g := gb181) (o := .cells #[.bool false, .int .u64 0, .int .u64 0, .int .i64 0] 26 (0, 0)) (St BK181.out)) : gb191 ≠ gb181))
      have n8_ := Aside0.mk ((by rw [hg]; exact Nat.ne_of_lt (blk_lt (g := gb189) (o := .cells #[.bool t185, .int .u64 t186, .int .u64 t187] 24 (0, 0)) (St BK189.out)) : gb189 ≠ gb191))
      have n9_ := Aside0.mk ((by rw [hg]; exact Nat.ne_of_gt (blk_lt (g := gb189) (o := .cells #[.bool t185, .int .u64 t186, .int .u64 t187] 24 (0, 0)) (St BK189.out)) : gb191 ≠ gb189))
      clear BK181
      clear BK189
      clear HB
      have BK181 := n0_
      have BK189 := n1_
      have HB := n2_
      have BK191 := n3_
      have GW191 := n4_
      have GE191 := n5_
      have NB181_191 := n6_
      have NB191_181 := n7_
      have NB189_191 := n8_
      have NB191_189 := n9_
      clear n0_ n1_ n2_ n3_ n4_ n5_ n6_ n7_ n8_ n9_
      clear hb hbox hg
      refine hK.out _ _ ⟨(blk_cell BK189.out 0).trans rfl, (blk_cell BK189.out 1).trans rfl, (blk_cell BK189.out 2).trans rfl⟩ (fun hHeld => ?_)
      clear hK K
      refine norm_ (a' := ?_) ?_ ?_
      rotate_left
      ·show Act.put _ (some 9) _ = _
       refine Sp ?_
       rfl
      exact norm_ (by simp only [putAll, Act.put, List.setIfInBounds_toArray, List.set_cons_zero, List.set_cons_succ]) (hCont (gb191) _ ⟨hHeld, (St BK181.out), (St BK189.out), (St BK191.out), GW191.out, GE191.out, NB181_191.out, NB191_181.out, NB189_191.out, NB191_189.out, (Hb HB.out)⟩)
     ·skip
      refine box_step ?hg (N := 9) ?hd (cs := #[.bool false, .int .u64 0, .int .u64 0, .int .i64 0]) (t := 26) ?hr ?_; (case hd => rfl); (case hg => rfl); (case hr => first | (go_simp; done) | (go_simp; rfl))
      intro gb191 hg w17 hbox hb
      have n0_ := Aside0.mk (blk_below (g := gb181) (o := .cells #[.bool false, .int .u64 0, .int .u64 0, .int .i64 0] 26 (0, 0)) (St BK181.out) hb)
      have n1_ := Aside0.mk (blk_below (g := gb189) (o := .cells #[.bool t185, .int .u64 t186, .int .u64 t187] 24 (0, 0)) (St BK189.out) hb)
      have n2_ := Aside0.mk (below_step (Hb HB.out) hb)
      have n3_ := Aside0.mk (hbox)
      have n4_ := Aside0.mk ((by rw [hg]; exact (below_size (Hb HB.out)) : w.heap.size ≤ gb191))
      have n5_ := Aside0.mk ((by rw [hg]; exact (below_size (Hb HB.out)) : w.heap.size ≤ gb191))
      have n6_ := Aside0.mk ((by rw [hg]; exact Nat.ne_of_lt (blk_lt (g := gb181) (o := .cells #[.bool false, .int .u64 0, .int .u64 0, .int .i64 0] 26 (0, 0)) (St BK181.out)) : gb181 ≠ gb191))
      have n7_ := Aside0.mk ((by rw [hg]; exact Nat.ne_of_gt (blk_lt (g := gb181) (o := .cells #[.bool false, .int .u64 0, .int .u64 0, .int .i64 0] 26 (0, 0)) (St BK181.out)) : gb191 ≠ gb181))
      have n8_ := Aside0.mk ((by rw [hg]; exact Nat.ne_of_lt (blk_lt (g := gb189) (o := .cells #[.bool t185, .int .u64 t186, .int .u64 t187] 24 (0, 0)) (St BK189.out)) : gb189 ≠ gb191))
      have n9_ := Aside0.mk ((by rw [hg]; exact Nat.ne_of_gt (blk_lt (g := gb189) (o := .cells #[.bool t185, .int .u64 t186, .int .u64 t187] 24 (0, 0)) (St BK189.out)) : gb191 ≠ gb189))
      clear BK181
      clear BK189
      clear HB
      have BK181 := n0_
      have BK189 := n1_
      have HB := n2_
      have BK191 := n3_
      have GW191 := n4_
      have GE191 := n5_
      have NB181_191 := n6_
      have NB191_181 := n7_
      have NB189_191 := n8_
      have NB191_189 := n9_
      clear n0_ n1_ n2_ n3_ n4_ n5_ n6_ n7_ n8_ n9_
      clear hb hbox hg
      refine hK.out _ _ ⟨(blk_cell BK189.out 0).trans rfl, (blk_cell BK189.out 1).trans rfl, (blk_cell BK189.out 2).trans rfl⟩ (fun hHeld => ?_)
      clear hK K
      refine norm_ (a' := ?_) ?_ ?_
      rotate_left
      ·show Act.put _ (some 9) _ = _
       refine Sp ?_
       rfl
      refine one_ (i := 2) (N := some 30) #[Y,Y,Y,Z,Y,Z] rfl rfl (by kernel_rfl) (by decide) (fun K hK => ?_)
      refine goes_ Tryd.func42 (by kernel_rfl) rfl #[.string t183] (by rfl) rfl rfl Ma ?_
      with_reducible refine (prefix_many.calls t183 t190 _ (Glob_below HG.out (Hb HB.out)) A6.out).mono ?_
      rintro e w18 ⟨rfl, hb⟩
      refine ⟨_, rfl, ?_⟩
      have n0_ := Aside0.mk (blk_below (g := gb181) (o := .cells #[.bool false, .int .u64 0, .int .u64 0, .int .i64 0] 26 (0, 0)) (St BK181.out) hb)
      have n1_ := Aside0.mk (blk_below (g := gb189) (o := .cells #[.bool t185, .int .u64 t186, .int .u64 t187] 24 (0, 0)) (St BK189.out) hb)
      have n2_ := Aside0.mk (blk_below (g := gb191) (o := .cells #[.bool false, .int .u64 0, .int .u64 0, .int .i64 0] 26 (0, 0)) (St BK191.out) hb)
      have n3_ := Aside0.mk (below_step (Hb HB.out) hb)
      clear BK181
      clear BK189
      clear BK191
      clear HB
      have BK181 := n0_
      have BK189 := n1_
      have BK191 := n2_
      have HB := n3_
      clear n0_ n1_ n2_ n3_
      (try clear hb)
      (try clear hb2)
      (try clear hk)
      (try clear hi)
      refine hK.out _ _ ⟨(blk_cell BK189.out 0).trans rfl, (blk_cell BK189.out 1).trans rfl, (blk_cell BK189.out 2).trans rfl⟩ (fun hHeld => ?_)
      clear hK K
      refine norm_ (a' := ?_) ?_ ?_
      rotate_left
      ·show Act.put _ (some 30) _ = _
       refine Sp ?_
       rfl
      refine pure_ (i := 3) (N := some 31) (v := ?_) (a' := ?_) #[Y,Y,Y,Y,Y,Z] rfl rfl (by kernel_rfl) (fun _ _ _ h => h) (Or.inl ⟨by rfl, ?_⟩) ?_ ?_
      rotate_left
      ·exact Sw
      rotate_left
      ·exact Sr
      exact norm_ (by simp only [putAll, Act.put, List.setIfInBounds_toArray, List.set_cons_zero, List.set_cons_succ]) (hCont (gb191) _ ⟨hHeld, (St BK181.out), (St BK189.out), (St BK191.out), GW191.out, GE191.out, NB181_191.out, NB191_181.out, NB189_191.out, NB191_189.out, (Hb HB.out)⟩)
    rintro gb191 w19 ⟨hS_, h0_, h1_, h2_, h3_, h4_, h5_, h6_, h7_, h8_, h9_⟩
    have n0_ : Aside0 (w19.heap[gb181]? = some (.cells #[.bool false, .int .u64 0, .int .u64 0, .int .i64 0] 26 (0, 0))) := ⟨h0_⟩
    have n1_ : Aside0 (w19.heap[gb189]? = some (.cells #[.bool t185, .int .u64 t186, .int .u64 t187] 24 (0, 0))) := ⟨h1_⟩
    have n2_ : Aside0 (w19.heap[gb191]? = some (.cells #[.bool false, .int .u64 0, .int .u64 0, .int .i64 0] 26 (0, 0))) := ⟨h2_⟩
    have n3_ : Aside0 (w.heap.size ≤ gb191) := ⟨h3_⟩
    have n4_ : Aside0 (w.heap.size ≤ gb191) := ⟨h4_⟩
    have n5_ : Aside0 (gb181 ≠ gb191) := ⟨h5_⟩
    have n6_ : Aside0 (gb191 ≠ gb181) := ⟨h6_⟩
    have n7_ : Aside0 (gb189 ≠ gb191) := ⟨h7_⟩
    have n8_ : Aside0 (gb191 ≠ gb189) := ⟨h8_⟩
    have n9_ : Aside0 (Below w.heap.size w w19) := ⟨h9_⟩
    clear BK181
    clear BK189
    clear HB
    clear h0_ h1_ h2_ h3_ h4_ h5_ h6_ h7_ h8_ h9_
    have BK181 := n0_
    have BK189 := n1_
    have BK191 := n2_
    have GW191 := n3_
    have GE191 := n4_
    have NB181_191 := n5_
    have NB191_181 := n6_
    have NB189_191 := n7_
    have NB191_189 := n8_
    have HB := n9_
    clear n0_ n1_ n2_ n3_ n4_ n5_ n6_ n7_ n8_ n9_
    have hHeld : w19.cell? ⟨gb189, 0, none⟩ = some (.bool t185) ∧ w19.cell? ⟨gb189, 1, none⟩ = some (.int .u64 t186) ∧ w19.cell? ⟨gb189, 2, none⟩ = some (.int .u64 t187) := hS_
    refine norm_ (a' := ?_) ?_ ?_
    rotate_left
    ·simp only [putAll, Act.put, List.setIfInBounds_toArray, List.set_cons_zero, List.set_cons_succ]
     rfl
    refine one_ (i := 5) (N := none) #[Y,Y,Y,Y,Y,Y] rfl rfl (by kernel_rfl) (by decide) (fun K hK => ?_)
    have hs20 : w19.cell? ⟨gb191, 0, none⟩ = some (.bool false) := (blk_cell BK191.out 0).trans rfl
    have hfs20 := blk_frozen BK191.out 0
    have hns20_0 := NB181_191.out
    have hns20_1 := NB189_191.out
    have hms20_0 := NB191_181.out
    have hms20_1 := NB191_189.out
    have hs21 : w19.cell? ⟨gb191, 1, none⟩ = some (.int .u64 0) := (blk_cell BK191.out 1).trans rfl
    have hfs21 := blk_frozen BK191.out 1
    have hns21_0 := NB181_191.out
    have hns21_1 := NB189_191.out
    have hms21_0 := NB191_181.out
    have hms21_1 := NB191_189.out
    have hs22 : w19.cell? ⟨gb191, 2, none⟩ = some (.int .u64 0) := (blk_cell BK191.out 2).trans rfl
    have hfs22 := blk_frozen BK191.out 2
    have hns22_0 := NB181_191.out
    have hns22_1 := NB189_191.out
    have hms22_0 := NB191_181.out
    have hms22_1 := NB191_189.out
    have hs23 : w19.cell? ⟨gb191, 3, none⟩ = some (.int .i64 0) := (blk_cell BK191.out 3).trans rfl
    have hfs23 := blk_frozen BK191.out 3
    have hns23_0 := NB181_191.out
    have hns23_1 := NB189_191.out
    have hms23_0 := NB191_181.out
    have hms23_1 := NB191_189.out
    refine skip_ (w1 := ?_) (by rfl) rfl ?_ ?_
    rotate_left
    ·go_simp
     rfl
    refine hK.out _ _ ⟨((cell_far (p := ⟨gb191, _, none⟩) NB189_191.out _).trans (((cell_far (p := ⟨gb191, _, none⟩) NB189_191.out _).trans (((cell_far (p := ⟨gb191, _, none⟩) NB189_191.out _).trans (((cell_far (p := ⟨gb191, _, none⟩) NB189_191.out _).trans (hHeld.1)))))))), ((cell_far (p := ⟨gb191, _, none⟩) NB189_191.out _).trans (((cell_far (p := ⟨gb191, _, none⟩) NB189_191.out _).trans (((cell_far (p := ⟨gb191, _, none⟩) NB189_191.out _).trans (((cell_far (p := ⟨gb191, _, none⟩) NB189_191.out _).trans (hHeld.2.1)))))))), ((cell_far (p := ⟨gb191, _, none⟩) NB189_191.out _).trans (((cell_far (p := ⟨gb191, _, none⟩) NB189_191.out _).trans (((cell_far (p := ⟨gb191, _, none⟩) NB189_191.out _).trans (((cell_far (p := ⟨gb191, _, none⟩) NB189_191.out _).trans (hHeld.2.2))))))))⟩ (fun hHeld => ?_)
    clear hK K
    refine done_ (by kernel_rfl) ?_
    have hnb24 := NB191_181.out
    have hnc24 := NB181_191.out
    have hnb25 := NB191_189.out
    have hnc25 := NB189_191.out
    have hcz26_0 : w19.cell? ⟨gb191, 0, none⟩ = some (.bool false) := (blk_cell BK191.out 0).trans rfl
    have hcz26_1 : w19.cell? ⟨gb191, 1, none⟩ = some (.int .u64 0) := (blk_cell BK191.out 1).trans rfl
    have hcz26_2 : w19.cell? ⟨gb191, 2, none⟩ = some (.int .u64 0) := (blk_cell BK191.out 2).trans rfl
    have hcz26_3 : w19.cell? ⟨gb191, 3, none⟩ = some (.int .i64 0) := (blk_cell BK191.out 3).trans rfl
    have hfz26_0 := blk_frozen BK191.out 0
    have hfz26_1 := blk_frozen BK191.out 1
    have hfz26_2 := blk_frozen BK191.out 2
    have hfz26_3 := blk_frozen BK191.out 3
    try go_wp2_with (first | ((with_reducible refine gate_callee (f := 14) rfl ?_); refine goesL_ (some 33) rfl rfl Tryd.func14 (by kernel_rfl) rfl #[.agg #[.bool t185, .int .u64 t186, .int .u64 t187, .int .i64 t190]] rfl Ma ?_; (with_reducible refine (prefix_Valid.calls t185 t186 t187 t190 true _ A7.out).mono ?_); rintro e w27 ⟨rfl, hb⟩; refine ⟨_, rfl, ?_⟩; have n0_ := Aside0.mk (blk_below (g := gb181) (o := .cells #[.bool false, .int .u64 0, .int .u64 0, .int .i64 0] 26 (0, 0)) (by refine St ?_; refine blk_far ?_ NB181_191.out _; refine St ?_; refine blk_far ?_ NB181_191.out _; refine St ?_; refine blk_far ?_ NB181_191.out _; refine St ?_; refine blk_far ?_ NB181_191.out _; refine St ?_; exact BK181.out) hb); have n1_ := Aside0.mk (blk_below (g := gb189) (o := .cells #[.bool t185, .int .u64 t186, .int .u64 t187] 24 (0, 0)) (by refine St ?_; refine blk_far ?_ NB189_191.out _; refine St ?_; refine blk_far ?_ NB189_191.out _; refine St ?_; refine blk_far ?_ NB189_191.out _; refine St ?_; refine blk_far ?_ NB189_191.out _; refine St ?_; exact BK189.out) hb); have n2_ := Aside0.mk (blk_below (g := gb191) (o := .cells #[.bool t185, .int .u64 t186, .int .u64 t187, .int .i64 t190] 26 (0, 0)) (by refine St ?_; refine blk_put (cs := #[.bool t185, .int .u64 t186, .int .u64 t187, .int .i64 0]) ?_ 3 _ rfl; refine St ?_; refine blk_put (cs := #[.bool t185, .int .u64 t186, .int .u64 0, .int .i64 0]) ?_ 2 _ rfl; refine St ?_; refine blk_put (cs := #[.bool t185, .int .u64 0, .int .u64 0, .int .i64 0]) ?_ 1 _ rfl; refine St ?_; refine blk_put (cs := #[.bool false, .int .u64 0, .int .u64 0, .int .i64 0]) ?_ 0 _ rfl; refine St ?_; exact BK191.out) hb); have n3_ := Aside0.mk (below_step (Hb HB.out) hb); clear BK181; clear BK189; clear BK191; clear HB; have BK181 := n0_; have BK189 := n1_; have BK191 := n2_; have HB := n3_; clear n0_ n1_ n2_ n3_; (try clear hb); (try clear hb2); (try clear hk); (try clear hi); have hcz28_0 : w27.cell? ⟨gb191, 0, none⟩ = some (.bool t185) := (blk_cell BK191.out 0).trans rfl; have hcz28_1 : w27.cell? ⟨gb191, 1, none⟩ = some (.int .u64 t186) := (blk_cell BK191.out 1).trans rfl; have hcz28_2 : w27.cell? ⟨gb191, 2, none⟩ = some (.int .u64 t187) := (blk_cell BK191.out 2).trans rfl; have hcz28_3 : w27.cell? ⟨gb191, 3, none⟩ = some (.int .i64 t190) := (blk_cell BK191.out 3).trans rfl; have hfz28_0 := blk_frozen BK191.out 0; have hfz28_1 := blk_frozen BK191.out 1; have hfz28_2 := blk_frozen BK191.out 2; have hfz28_3 := blk_frozen BK191.out 3; have hcz29_0 : w27.cell? ⟨gb181, 0, none⟩ = some (.bool false) := (blk_cell BK181.out 0).trans rfl; have hcz29_1 : w27.cell? ⟨gb181, 1, none⟩ = some (.int .u64 0) := (blk_cell BK181.out 1).trans rfl; have hcz29_2 : w27.cell? ⟨gb181, 2, none⟩ = some (.int .u64 0) := (blk_cell BK181.out 2).trans rfl; have hcz29_3 : w27.cell? ⟨gb181, 3, none⟩ = some (.int .i64 0) := (blk_cell BK181.out 3).trans rfl; have hfz29_0 := blk_frozen BK181.out 0; have hfz29_1 := blk_frozen BK181.out 1; have hfz29_2 := blk_frozen BK181.out 2; have hfz29_3 := blk_frozen BK181.out 3))
    refine bodyPost_ret (results_ct rfl _ _ gb181 26 #[.bool t185, .int .u64 t186, .int .u64 t187, .int .i64 t190] (0, 0) _ rfl (by refine St ?_; refine blk_put (cs := #[.bool t185, .int .u64 t186, .int .u64 t187, .int .i64 0]) ?_ 3 _ rfl; refine St ?_; refine blk_put (cs := #[.bool t185, .int .u64 t186, .int .u64 0, .int .i64 0]) ?_ 2 _ rfl; refine St ?_; refine blk_put (cs := #[.bool t185, .int .u64 0, .int .u64 0, .int .i64 0]) ?_ 1 _ rfl; refine St ?_; refine blk_put (cs := #[.bool false, .int .u64 0, .int .u64 0, .int .i64 0]) ?_ 0 _ rfl; refine St ?_; exact BK181.out) Tryd.underlying26 rfl (by kernel_rfl)) rfl ?_
    exact ⟨by first | rfl | (simp [errW_none, errW_some] <;> rfl) | (simp [*, errW_none, errW_some] <;> rfl), Hb HB.out⟩
   ·replace c8 := Bool.eq_false_iff.mpr c8
    subst c8
    have H1 : (some (false, 0, 0, 0, 30)) = some (r1, r2, r3, r4, r5) := by rw [if_neg (show ¬ (false = true) by decide)] at H; exact H
    clear H
    have H := H1
    clear H1
    simp only [Option.some.injEq, Prod.mk.injEq] at H
    obtain ⟨rfl, rfl, rfl, rfl, rfl⟩ := H
    go_enter Tryd.func23, Tryd.ntmps23
    try go_wp2_with (first | ((with_reducible refine gate_dst (N := 2) rfl ?_); refine box_event ?hg (N := 2) ?hd (cs := #[.bool false, .int .u64 0, .int .u64 0, .int .i64 0]) (t := 26) ?hr ?_; (case hd => rfl); (case hg => rfl); (case hr => first | (go_simp; done) | (go_simp; rfl)); intro gb181 hg w30 hbox hb; have n0_ := Aside0.mk (below_step (Hb HB.out) hb); have n1_ := Aside0.mk (hbox); have n2_ := Aside0.mk ((by rw [hg]; exact (below_size (Hb HB.out)) : w.heap.size ≤ gb181)); have n3_ := Aside0.mk ((by rw [hg]; exact (below_size (Hb HB.out)) : w.heap.size ≤ gb181)); clear HB; have HB := n0_; have BK181 := n1_; have GW181 := n2_; have GE181 := n3_; clear n0_ n1_ n2_ n3_; clear hb hbox hg) | ((with_reducible refine gate_callee (f := 40) rfl ?_); refine goesL_ (some 12) rfl rfl Tryd.func40 (by kernel_rfl) rfl #[.string a0, .string (⟨#[47]⟩ : ByteArray)] rfl Ma ?_; (with_reducible refine (strings_Cut.calls a0 (⟨#[47]⟩ : ByteArray) t182 t183 true _ (Glob_below HG.out (Hb HB.out)) A2.out).mono ?_); rintro e w31 ⟨rfl, hb⟩; refine ⟨_, rfl, ?_⟩; have n0_ := Aside0.mk (blk_below (g := gb181) (o := .cells #[.bool false, .int .u64 0, .int .u64 0, .int .i64 0] 26 (0, 0)) (St BK181.out) hb); have n1_ := Aside0.mk (below_step (Hb HB.out) hb); clear BK181; clear HB; have BK181 := n0_; have HB := n1_; clear n0_ n1_; (try clear hb); (try clear hb2); (try clear hk); (try clear hi)) | ((with_reducible refine gate_callee (f := 41) rfl ?_); refine goesL_ (some 21) rfl rfl Tryd.func41 (by kernel_rfl) rfl #[.string t182] rfl Ma ?_; (with_reducible refine (addr_Parse.calls k t182 t185 t186 t187 t188 _ (Glob_below HG.out (Hb HB.out)) A4.out).mono ?_); rintro e w32 ⟨rfl, hb⟩; refine ⟨_, rfl, ?_⟩; have n0_ := Aside0.mk (blk_below (g := gb181) (o := .cells #[.bool false, .int .u64 0, .int .u64 0, .int .i64 0] 26 (0, 0)) (St BK181.out) hb); have n1_ := Aside0.mk (below_step (Hb HB.out) hb); clear BK181; clear HB; have BK181 := n0_; have HB := n1_; clear n0_ n1_; (try clear hb); (try clear hb2); (try clear hk); (try clear hi)) | ((with_reducible refine gate_dst (N := 7) rfl ?_); refine box_event ?hg (N := 7) ?hd (cs := #[.bool false, .int .u64 0, .int .u64 0]) (t := 24) ?hr ?_; (case hd => rfl); (case hg => rfl); (case hr => first | (go_simp; done) | (go_simp; rfl)); intro gb189 hg w33 hbox hb; have n0_ := Aside0.mk (blk_below (g := gb181) (o := .cells #[.bool false, .int .u64 0, .int .u64 0, .int .i64 0] 26 (0, 0)) (St BK181.out) hb); have n1_ := Aside0.mk (below_step (Hb HB.out) hb); have n2_ := Aside0.mk (hbox); have n3_ := Aside0.mk ((by rw [hg]; exact (below_size (Hb HB.out)) : w.heap.size ≤ gb189)); have n4_ := Aside0.mk ((by rw [hg]; exact (below_size (Hb HB.out)) : w.heap.size ≤ gb189)); have n5_ := Aside0.mk ((by rw [hg]; exact Nat.ne_of_lt (blk_lt (g := gb181) (o := .cells #[.bool false, .int .u64 0, .int .u64 0, .int .i64 0] 26 (0, 0)) (St BK181.out)) : gb181 ≠ gb189)); have n6_ := Aside0.mk ((by rw [hg]; exact Nat.ne_of_gt (blk_lt (g := gb181) (o := .cells #[.bool false, .int .u64 0, .int .u64 0, .int .i64 0] 26 (0, 0)) (St BK181.out)) : gb189 ≠ gb181)); clear BK181; clear HB; have BK181 := n0_; have HB := n1_; have BK189 := n2_; have GW189 := n3_; have GE189 := n4_; have NB181_189 := n5_; have NB189_181 := n6_; clear n0_ n1_ n2_ n3_ n4_ n5_ n6_; clear hb hbox hg; have hnb34 := NB189_181.out; have hnc34 := NB181_189.out; have hcz35_0 : w33.cell? ⟨gb189, 0, none⟩ = some (.bool false) := (blk_cell BK189.out 0).trans rfl; have hcz35_1 : w33.cell? ⟨gb189, 1, none⟩ = some (.int .u64 0) := (blk_cell BK189.out 1).trans rfl; have hcz35_2 : w33.cell? ⟨gb189, 2, none⟩ = some (.int .u64 0) := (blk_cell BK189.out 2).trans rfl; have hfz35_0 := blk_frozen BK189.out 0; have hfz35_1 := blk_frozen BK189.out 1; have hfz35_2 := blk_frozen BK189.out 2))
    have n0_ : Aside0 ((((w33.setCell ⟨gb189, 0, none⟩ (.bool t185)).setCell ⟨gb189, 1, none⟩ (.int .u64 t186)).setCell ⟨gb189, 2, none⟩ (.int .u64 t187)).heap[gb181]? = some (.cells #[.bool false, .int .u64 0, .int .u64 0, .int .i64 0] 26 (0, 0))) := ⟨by refine St ?_; refine blk_far ?_ NB181_189.out _; refine St ?_; refine blk_far ?_ NB181_189.out _; refine St ?_; refine blk_far ?_ NB181_189.out _; refine St ?_; exact BK181.out⟩
    have n1_ : Aside0 ((((w33.setCell ⟨gb189, 0, none⟩ (.bool t185)).setCell ⟨gb189, 1, none⟩ (.int .u64 t186)).setCell ⟨gb189, 2, none⟩ (.int .u64 t187)).heap[gb189]? = some (.cells #[.bool t185, .int .u64 t186, .int .u64 t187] 24 (0, 0))) := ⟨by refine St ?_; refine blk_put (cs := #[.bool t185, .int .u64 t186, .int .u64 0]) ?_ 2 _ rfl; refine St ?_; refine blk_put (cs := #[.bool t185, .int .u64 0, .int .u64 0]) ?_ 1 _ rfl; refine St ?_; refine blk_put (cs := #[.bool false, .int .u64 0, .int .u64 0]) ?_ 0 _ rfl; refine St ?_; exact BK189.out⟩
    have n2_ : Aside0 (Below w.heap.size w (((w33.setCell ⟨gb189, 0, none⟩ (.bool t185)).setCell ⟨gb189, 1, none⟩ (.int .u64 t186)).setCell ⟨gb189, 2, none⟩ (.int .u64 t187))) := ⟨Hb HB.out⟩
    (try clear BK181)
    (try clear BK189)
    (try clear HB)
    generalize (((w33.setCell ⟨gb189, 0, none⟩ (.bool t185)).setCell ⟨gb189, 1, none⟩ (.int .u64 t186)).setCell ⟨gb189, 2, none⟩ (.int .u64 t187)) = w36 at n0_ n1_ n2_ ⊢
    have BK181 := n0_
    have BK189 := n1_
    have HB := n2_
    clear n0_ n1_ n2_
    have n0_ := Aside0.mk (blk_drew BK181.out)
    have n1_ := Aside0.mk (blk_drew BK189.out)
    have n2_ := Aside0.mk (below_drew1 HB.out)
    clear BK181
    clear BK189
    clear HB
    have BK181 := n0_
    have BK189 := n1_
    have HB := n2_
    clear n0_ n1_ n2_
    refine start_ (n := 6) (S := fun w' => w'.cell? ⟨gb189, 0, none⟩ = some (.bool t185) ∧ w'.cell? ⟨gb189, 1, none⟩ = some (.int .u64 t186) ∧ w'.cell? ⟨gb189, 2, none⟩ = some (.int .u64 t187)) (ds := []) #[Z,Z,Z,Z,Z,Z] (by kernel_rfl) rfl rfl ⟨(blk_cell BK189.out 0).trans rfl, (blk_cell BK189.out 1).trans rfl, (blk_cell BK189.out 2).trans rfl⟩ (fun hHeld => ?_)
    generalize w36.drew = w37 at BK181 BK189 HB hHeld ⊢
    refine pure_ (i := 1) (N := some 29) (v := ?_) (a' := ?_) #[Z,Y,Z,Z,Z,Z] rfl rfl (by kernel_rfl) (fun _ _ _ h => h) (Or.inl ⟨by rfl, ?_⟩) ?_ ?_
    rotate_left
    ·exact Sw
    rotate_left
    ·exact Sr
    refine take_ (i := 0) (N := some 28) (v := ?_) (a' := ?_) #[Y,Y,Z,Z,Z,Z] rfl rfl (by kernel_rfl) (fun _ _ _ h => h) (Or.inl ⟨by rfl, ?_⟩) hHeld ?_ ?_
    rotate_left
    ·rintro w' ⟨s0, s1, s2⟩
     go_simp
     with_reducible rfl
    rotate_left
    ·exact Sr
    refine join_ (σ := Nat) 1 #[Y,Y,Y,Y,Y,Z] (fun s_ => [(30, .int .i64 t190), (9, .pointer (some ⟨s_, 0, none⟩)), (31, .agg #[.bool t185, .int .u64 t186, .int .u64 t187, .int .i64 t190])]) (fun s_ w' => (w'.cell? ⟨gb189, 0, none⟩ = some (.bool t185) ∧ w'.cell? ⟨gb189, 1, none⟩ = some (.int .u64 t186) ∧ w'.cell? ⟨gb189, 2, none⟩ = some (.int .u64 t187)) ∧ (w'.heap[gb181]? = some (.cells #[.bool false, .int .u64 0, .int .u64 0, .int .i64 0] 26 (0, 0))) ∧ (w'.heap[gb189]? = some (.cells #[.bool t185, .int .u64 t186, .int .u64 t187] 24 (0, 0))) ∧ (w'.heap[s_]? = some (.cells #[.bool false, .int .u64 0, .int .u64 0, .int .i64 0] 26 (0, 0))) ∧ (w.heap.size ≤ s_) ∧ (w.heap.size ≤ s_) ∧ (gb181 ≠ s_) ∧ (s_ ≠ gb181) ∧ (gb189 ≠ s_) ∧ (s_ ≠ gb189) ∧ (Below w.heap.size w w')) ?_ ?_
    rotate_left
    ·intro hCont
     refine two_ (i := 2) (j := 4) (Ni := some 30) (Nj := some 9) #[Y,Y,Y,Z,Z,Z] #[Y,Y,Z,Z,Y,Z] rfl rfl rfl rfl (by kernel_rfl) (by decide) (by decide) (fun K hK => ?_) (fun K hK => ?_)
     ·skip
      refine goes_ Tryd.func42 (by kernel_rfl) rfl #[.string t183] (by rfl) rfl rfl Ma ?_
      with_reducible refine (prefix_many.calls t183 t190 _ (Glob_below HG.out (Hb HB.out)) A6.out).mono ?_
      rintro e w38 ⟨rfl, hb⟩
      refine ⟨_, rfl, ?_⟩
      have n0_ := Aside0.mk (blk_below (g := gb181) (o := .cells #[.bool false, .int .u64 0, .int .u64 0, .int .i64 0] 26 (0, 0)) (St BK181.out) hb)
      have n1_ := Aside0.mk (blk_below (g := gb189) (o := .cells #[.bool t185, .int .u64 t186, .int .u64 t187] 24 (0, 0)) (St BK189.out) hb)
      have n2_ := Aside0.mk (below_step (Hb HB.out) hb)
      clear BK181
      clear BK189
      clear HB
      have BK181 := n0_
      have BK189 := n1_
      have HB := n2_
      clear n0_ n1_ n2_
      (try clear hb)
      (try clear hb2)
      (try clear hk)
      (try clear hi)
      refine hK.out _ _ ⟨(blk_cell BK189.out 0).trans rfl, (blk_cell BK189.out 1).trans rfl, (blk_cell BK189.out 2).trans rfl⟩ (fun hHeld => ?_)
      clear hK K
      refine norm_ (a' := ?_) ?_ ?_
      rotate_left
      ·show Act.put _ (some 30) _ = _
       refine Sp ?_
       rfl
      refine pure_ (i := 3) (N := some 31) (v := ?_) (a' := ?_) #[Y,Y,Y,Y,Z,Z] rfl rfl (by kernel_rfl) (fun _ _ _ h => h) (Or.inl ⟨by rfl, ?_⟩) ?_ ?_
      rotate_left
      ·exact Sw
      rotate_left
      ·exact Sr
      refine one_ (i := 4) (N := some 9) #[Y,Y,Y,Y,Y,Z] rfl rfl (by kernel_rfl) (by decide) (fun K hK => ?_)
      refine box_step ?hg (N := 9) ?hd (cs := #[.bool false, .int .u64 0, .int .u64 0, .int .i64 0]) (t := 26) ?hr ?_; (case hd => rfl); (case hg => rfl); (case hr => first | (go_simp; done) | (go_simp; rfl))
      intro gb191 hg w39 hbox hb
      have n0_ := Aside0.mk (blk_below (g := gb181) (o := .cells #[.bool false, .int .u64 0, .int .u64 0, .int .i64 0] 26 (0, 0)) (St BK181.out) hb)
      have n1_ := Aside0.mk (blk_below (g := gb189) (o := .cells #[.bool t185, .int .u64 t186, .int .u64 t187] 24 (0, 0)) (St BK189.out) hb)
      have n2_ := Aside0.mk (below_step (Hb HB.out) hb)
      have n3_ := Aside0.mk (hbox)
      have n4_ := Aside0.mk ((by rw [hg]; exact (below_size (Hb HB.out)) : w.heap.size ≤ gb191))
      have n5_ := Aside0.mk ((by rw [hg]; exact (below_size (Hb HB.out)) : w.heap.size ≤ gb191))
      have n6_ := Aside0.mk ((by rw [hg]; exact Nat.ne_of_lt (blk_lt (g := gb181) (o := .cells #[.bool false, .int .u64 0, .int .u64 0, .int .i64 0] 26 (0, 0)) (St BK181.out)) : gb181 ≠ gb191))
      have n7_ := Aside0.mk ((by rw [hg]; exact Nat.ne_of_gt (blk_lt (g := gb181) (o := .cells #[.bool false, .int .u64 0, .int .u64 0, .int .i64 0] 26 (0, 0)) (St BK181.out)) : gb191 ≠ gb181))
      have n8_ := Aside0.mk ((by rw [hg]; exact Nat.ne_of_lt (blk_lt (g := gb189) (o := .cells #[.bool t185, .int .u64 t186, .int .u64 t187] 24 (0, 0)) (St BK189.out)) : gb189 ≠ gb191))
      have n9_ := Aside0.mk ((by rw [hg]; exact Nat.ne_of_gt (blk_lt (g := gb189) (o := .cells #[.bool t185, .int .u64 t186, .int .u64 t187] 24 (0, 0)) (St BK189.out)) : gb191 ≠ gb189))
      clear BK181
      clear BK189
      clear HB
      have BK181 := n0_
      have BK189 := n1_
      have HB := n2_
      have BK191 := n3_
      have GW191 := n4_
      have GE191 := n5_
      have NB181_191 := n6_
      have NB191_181 := n7_
      have NB189_191 := n8_
      have NB191_189 := n9_
      clear n0_ n1_ n2_ n3_ n4_ n5_ n6_ n7_ n8_ n9_
      clear hb hbox hg
      refine hK.out _ _ ⟨(blk_cell BK189.out 0).trans rfl, (blk_cell BK189.out 1).trans rfl, (blk_cell BK189.out 2).trans rfl⟩ (fun hHeld => ?_)
      clear hK K
      refine norm_ (a' := ?_) ?_ ?_
      rotate_left
      ·show Act.put _ (some 9) _ = _
       refine Sp ?_
       rfl
      exact norm_ (by simp only [putAll, Act.put, List.setIfInBounds_toArray, List.set_cons_zero, List.set_cons_succ]) (hCont (gb191) _ ⟨hHeld, (St BK181.out), (St BK189.out), (St BK191.out), GW191.out, GE191.out, NB181_191.out, NB191_181.out, NB189_191.out, NB191_189.out, (Hb HB.out)⟩)
     ·skip
      refine box_step ?hg (N := 9) ?hd (cs := #[.bool false, .int .u64 0, .int .u64 0, .int .i64 0]) (t := 26) ?hr ?_; (case hd => rfl); (case hg => rfl); (case hr => first | (go_simp; done) | (go_simp; rfl))
      intro gb191 hg w38 hbox hb
      have n0_ := Aside0.mk (blk_below (g := gb181) (o := .cells #[.bool false, .int .u64 0, .int .u64 0, .int .i64 0] 26 (0, 0)) (St BK181.out) hb)
      have n1_ := Aside0.mk (blk_below (g := gb189) (o := .cells #[.bool t185, .int .u64 t186, .int .u64 t187] 24 (0, 0)) (St BK189.out) hb)
      have n2_ := Aside0.mk (below_step (Hb HB.out) hb)
      have n3_ := Aside0.mk (hbox)
      have n4_ := Aside0.mk ((by rw [hg]; exact (below_size (Hb HB.out)) : w.heap.size ≤ gb191))
      have n5_ := Aside0.mk ((by rw [hg]; exact (below_size (Hb HB.out)) : w.heap.size ≤ gb191))
      have n6_ := Aside0.mk ((by rw [hg]; exact Nat.ne_of_lt (blk_lt (g := gb181) (o := .cells #[.bool false, .int .u64 0, .int .u64 0, .int .i64 0] 26 (0, 0)) (St BK181.out)) : gb181 ≠ gb191))
      have n7_ := Aside0.mk ((by rw [hg]; exact Nat.ne_of_gt (blk_lt (g := gb181) (o := .cells #[.bool false, .int .u64 0, .int .u64 0, .int .i64 0] 26 (0, 0)) (St BK181.out)) : gb191 ≠ gb181))
      have n8_ := Aside0.mk ((by rw [hg]; exact Nat.ne_of_lt (blk_lt (g := gb189) (o := .cells #[.bool t185, .int .u64 t186, .int .u64 t187] 24 (0, 0)) (St BK189.out)) : gb189 ≠ gb191))
      have n9_ := Aside0.mk ((by rw [hg]; exact Nat.ne_of_gt (blk_lt (g := gb189) (o := .cells #[.bool t185, .int .u64 t186, .int .u64 t187] 24 (0, 0)) (St BK189.out)) : gb191 ≠ gb189))
      clear BK181
      clear BK189
      clear HB
      have BK181 := n0_
      have BK189 := n1_
      have HB := n2_
      have BK191 := n3_
      have GW191 := n4_
      have GE191 := n5_
      have NB181_191 := n6_
      have NB191_181 := n7_
      have NB189_191 := n8_
      have NB191_189 := n9_
      clear n0_ n1_ n2_ n3_ n4_ n5_ n6_ n7_ n8_ n9_
      clear hb hbox hg
      refine hK.out _ _ ⟨(blk_cell BK189.out 0).trans rfl, (blk_cell BK189.out 1).trans rfl, (blk_cell BK189.out 2).trans rfl⟩ (fun hHeld => ?_)
      clear hK K
      refine norm_ (a' := ?_) ?_ ?_
      rotate_left
      ·show Act.put _ (some 9) _ = _
       refine Sp ?_
       rfl
      refine one_ (i := 2) (N := some 30) #[Y,Y,Y,Z,Y,Z] rfl rfl (by kernel_rfl) (by decide) (fun K hK => ?_)
      refine goes_ Tryd.func42 (by kernel_rfl) rfl #[.string t183] (by rfl) rfl rfl Ma ?_
      with_reducible refine (prefix_many.calls t183 t190 _ (Glob_below HG.out (Hb HB.out)) A6.out).mono ?_
      rintro e w39 ⟨rfl, hb⟩
      refine ⟨_, rfl, ?_⟩
      have n0_ := Aside0.mk (blk_below (g := gb181) (o := .cells #[.bool false, .int .u64 0, .int .u64 0, .int .i64 0] 26 (0, 0)) (St BK181.out) hb)
      have n1_ := Aside0.mk (blk_below (g := gb189) (o := .cells #[.bool t185, .int .u64 t186, .int .u64 t187] 24 (0, 0)) (St BK189.out) hb)
      have n2_ := Aside0.mk (blk_below (g := gb191) (o := .cells #[.bool false, .int .u64 0, .int .u64 0, .int .i64 0] 26 (0, 0)) (St BK191.out) hb)
      have n3_ := Aside0.mk (below_step (Hb HB.out) hb)
      clear BK181
      clear BK189
      clear BK191
      clear HB
      have BK181 := n0_
      have BK189 := n1_
      have BK191 := n2_
      have HB := n3_
      clear n0_ n1_ n2_ n3_
      (try clear hb)
      (try clear hb2)
      (try clear hk)
      (try clear hi)
      refine hK.out _ _ ⟨(blk_cell BK189.out 0).trans rfl, (blk_cell BK189.out 1).trans rfl, (blk_cell BK189.out 2).trans rfl⟩ (fun hHeld => ?_)
      clear hK K
      refine norm_ (a' := ?_) ?_ ?_
      rotate_left
      ·show Act.put _ (some 30) _ = _
       refine Sp ?_
       rfl
      refine pure_ (i := 3) (N := some 31) (v := ?_) (a' := ?_) #[Y,Y,Y,Y,Y,Z] rfl rfl (by kernel_rfl) (fun _ _ _ h => h) (Or.inl ⟨by rfl, ?_⟩) ?_ ?_
      rotate_left
      ·exact Sw
      rotate_left
      ·exact Sr
      exact norm_ (by simp only [putAll, Act.put, List.setIfInBounds_toArray, List.set_cons_zero, List.set_cons_succ]) (hCont (gb191) _ ⟨hHeld, (St BK181.out), (St BK189.out), (St BK191.out), GW191.out, GE191.out, NB181_191.out, NB191_181.out, NB189_191.out, NB191_189.out, (Hb HB.out)⟩)
    rintro gb191 w40 ⟨hS_, h0_, h1_, h2_, h3_, h4_, h5_, h6_, h7_, h8_, h9_⟩
    have n0_ : Aside0 (w40.heap[gb181]? = some (.cells #[.bool false, .int .u64 0, .int .u64 0, .int .i64 0] 26 (0, 0))) := ⟨h0_⟩
    have n1_ : Aside0 (w40.heap[gb189]? = some (.cells #[.bool t185, .int .u64 t186, .int .u64 t187] 24 (0, 0))) := ⟨h1_⟩
    have n2_ : Aside0 (w40.heap[gb191]? = some (.cells #[.bool false, .int .u64 0, .int .u64 0, .int .i64 0] 26 (0, 0))) := ⟨h2_⟩
    have n3_ : Aside0 (w.heap.size ≤ gb191) := ⟨h3_⟩
    have n4_ : Aside0 (w.heap.size ≤ gb191) := ⟨h4_⟩
    have n5_ : Aside0 (gb181 ≠ gb191) := ⟨h5_⟩
    have n6_ : Aside0 (gb191 ≠ gb181) := ⟨h6_⟩
    have n7_ : Aside0 (gb189 ≠ gb191) := ⟨h7_⟩
    have n8_ : Aside0 (gb191 ≠ gb189) := ⟨h8_⟩
    have n9_ : Aside0 (Below w.heap.size w w40) := ⟨h9_⟩
    clear BK181
    clear BK189
    clear HB
    clear h0_ h1_ h2_ h3_ h4_ h5_ h6_ h7_ h8_ h9_
    have BK181 := n0_
    have BK189 := n1_
    have BK191 := n2_
    have GW191 := n3_
    have GE191 := n4_
    have NB181_191 := n5_
    have NB191_181 := n6_
    have NB189_191 := n7_
    have NB191_189 := n8_
    have HB := n9_
    clear n0_ n1_ n2_ n3_ n4_ n5_ n6_ n7_ n8_ n9_
    have hHeld : w40.cell? ⟨gb189, 0, none⟩ = some (.bool t185) ∧ w40.cell? ⟨gb189, 1, none⟩ = some (.int .u64 t186) ∧ w40.cell? ⟨gb189, 2, none⟩ = some (.int .u64 t187) := hS_
    refine norm_ (a' := ?_) ?_ ?_
    rotate_left
    ·simp only [putAll, Act.put, List.setIfInBounds_toArray, List.set_cons_zero, List.set_cons_succ]
     rfl
    refine one_ (i := 5) (N := none) #[Y,Y,Y,Y,Y,Y] rfl rfl (by kernel_rfl) (by decide) (fun K hK => ?_)
    have hs41 : w40.cell? ⟨gb191, 0, none⟩ = some (.bool false) := (blk_cell BK191.out 0).trans rfl
    have hfs41 := blk_frozen BK191.out 0
    have hns41_0 := NB181_191.out
    have hns41_1 := NB189_191.out
    have hms41_0 := NB191_181.out
    have hms41_1 := NB191_189.out
    have hs42 : w40.cell? ⟨gb191, 1, none⟩ = some (.int .u64 0) := (blk_cell BK191.out 1).trans rfl
    have hfs42 := blk_frozen BK191.out 1
    have hns42_0 := NB181_191.out
    have hns42_1 := NB189_191.out
    have hms42_0 := NB191_181.out
    have hms42_1 := NB191_189.out
    have hs43 : w40.cell? ⟨gb191, 2, none⟩ = some (.int .u64 0) := (blk_cell BK191.out 2).trans rfl
    have hfs43 := blk_frozen BK191.out 2
    have hns43_0 := NB181_191.out
    have hns43_1 := NB189_191.out
    have hms43_0 := NB191_181.out
    have hms43_1 := NB191_189.out
    have hs44 : w40.cell? ⟨gb191, 3, none⟩ = some (.int .i64 0) := (blk_cell BK191.out 3).trans rfl
    have hfs44 := blk_frozen BK191.out 3
    have hns44_0 := NB181_191.out
    have hns44_1 := NB189_191.out
    have hms44_0 := NB191_181.out
    have hms44_1 := NB191_189.out
    refine skip_ (w1 := ?_) (by rfl) rfl ?_ ?_
    rotate_left
    ·go_simp
     rfl
    refine hK.out _ _ ⟨((cell_far (p := ⟨gb191, _, none⟩) NB189_191.out _).trans (((cell_far (p := ⟨gb191, _, none⟩) NB189_191.out _).trans (((cell_far (p := ⟨gb191, _, none⟩) NB189_191.out _).trans (((cell_far (p := ⟨gb191, _, none⟩) NB189_191.out _).trans (hHeld.1)))))))), ((cell_far (p := ⟨gb191, _, none⟩) NB189_191.out _).trans (((cell_far (p := ⟨gb191, _, none⟩) NB189_191.out _).trans (((cell_far (p := ⟨gb191, _, none⟩) NB189_191.out _).trans (((cell_far (p := ⟨gb191, _, none⟩) NB189_191.out _).trans (hHeld.2.1)))))))), ((cell_far (p := ⟨gb191, _, none⟩) NB189_191.out _).trans (((cell_far (p := ⟨gb191, _, none⟩) NB189_191.out _).trans (((cell_far (p := ⟨gb191, _, none⟩) NB189_191.out _).trans (((cell_far (p := ⟨gb191, _, none⟩) NB189_191.out _).trans (hHeld.2.2))))))))⟩ (fun hHeld => ?_)
    clear hK K
    refine done_ (by kernel_rfl) ?_
    have hnb45 := NB191_181.out
    have hnc45 := NB181_191.out
    have hnb46 := NB191_189.out
    have hnc46 := NB189_191.out
    have hcz47_0 : w40.cell? ⟨gb191, 0, none⟩ = some (.bool false) := (blk_cell BK191.out 0).trans rfl
    have hcz47_1 : w40.cell? ⟨gb191, 1, none⟩ = some (.int .u64 0) := (blk_cell BK191.out 1).trans rfl
    have hcz47_2 : w40.cell? ⟨gb191, 2, none⟩ = some (.int .u64 0) := (blk_cell BK191.out 2).trans rfl
    have hcz47_3 : w40.cell? ⟨gb191, 3, none⟩ = some (.int .i64 0) := (blk_cell BK191.out 3).trans rfl
    have hfz47_0 := blk_frozen BK191.out 0
    have hfz47_1 := blk_frozen BK191.out 1
    have hfz47_2 := blk_frozen BK191.out 2
    have hfz47_3 := blk_frozen BK191.out 3
    try go_wp2_with (first | ((with_reducible refine gate_callee (f := 14) rfl ?_); refine goesL_ (some 33) rfl rfl Tryd.func14 (by kernel_rfl) rfl #[.agg #[.bool t185, .int .u64 t186, .int .u64 t187, .int .i64 t190]] rfl Ma ?_; (with_reducible refine (prefix_Valid.calls t185 t186 t187 t190 false _ A7.out).mono ?_); rintro e w48 ⟨rfl, hb⟩; refine ⟨_, rfl, ?_⟩; have n0_ := Aside0.mk (blk_below (g := gb181) (o := .cells #[.bool false, .int .u64 0, .int .u64 0, .int .i64 0] 26 (0, 0)) (by refine St ?_; refine blk_far ?_ NB181_191.out _; refine St ?_; refine blk_far ?_ NB181_191.out _; refine St ?_; refine blk_far ?_ NB181_191.out _; refine St ?_; refine blk_far ?_ NB181_191.out _; refine St ?_; exact BK181.out) hb); have n1_ := Aside0.mk (blk_below (g := gb189) (o := .cells #[.bool t185, .int .u64 t186, .int .u64 t187] 24 (0, 0)) (by refine St ?_; refine blk_far ?_ NB189_191.out _; refine St ?_; refine blk_far ?_ NB189_191.out _; refine St ?_; refine blk_far ?_ NB189_191.out _; refine St ?_; refine blk_far ?_ NB189_191.out _; refine St ?_; exact BK189.out) hb); have n2_ := Aside0.mk (blk_below (g := gb191) (o := .cells #[.bool t185, .int .u64 t186, .int .u64 t187, .int .i64 t190] 26 (0, 0)) (by refine St ?_; refine blk_put (cs := #[.bool t185, .int .u64 t186, .int .u64 t187, .int .i64 0]) ?_ 3 _ rfl; refine St ?_; refine blk_put (cs := #[.bool t185, .int .u64 t186, .int .u64 0, .int .i64 0]) ?_ 2 _ rfl; refine St ?_; refine blk_put (cs := #[.bool t185, .int .u64 0, .int .u64 0, .int .i64 0]) ?_ 1 _ rfl; refine St ?_; refine blk_put (cs := #[.bool false, .int .u64 0, .int .u64 0, .int .i64 0]) ?_ 0 _ rfl; refine St ?_; exact BK191.out) hb); have n3_ := Aside0.mk (below_step (Hb HB.out) hb); clear BK181; clear BK189; clear BK191; clear HB; have BK181 := n0_; have BK189 := n1_; have BK191 := n2_; have HB := n3_; clear n0_ n1_ n2_ n3_; (try clear hb); (try clear hb2); (try clear hk); (try clear hi); have hcz49_0 : w48.cell? ⟨gb181, 0, none⟩ = some (.bool false) := (blk_cell BK181.out 0).trans rfl; have hcz49_1 : w48.cell? ⟨gb181, 1, none⟩ = some (.int .u64 0) := (blk_cell BK181.out 1).trans rfl; have hcz49_2 : w48.cell? ⟨gb181, 2, none⟩ = some (.int .u64 0) := (blk_cell BK181.out 2).trans rfl; have hcz49_3 : w48.cell? ⟨gb181, 3, none⟩ = some (.int .i64 0) := (blk_cell BK181.out 3).trans rfl; have hfz49_0 := blk_frozen BK181.out 0; have hfz49_1 := blk_frozen BK181.out 1; have hfz49_2 := blk_frozen BK181.out 2; have hfz49_3 := blk_frozen BK181.out 3))
    refine bodyPost_ret (results_ct rfl _ _ gb181 26 #[.bool false, .int .u64 0, .int .u64 0, .int .i64 0] (0, 0) _ rfl (by refine St ?_; refine blk_put (cs := #[.bool false, .int .u64 0, .int .u64 0, .int .i64 0]) ?_ 3 _ rfl; refine St ?_; refine blk_put (cs := #[.bool false, .int .u64 0, .int .u64 0, .int .i64 0]) ?_ 2 _ rfl; refine St ?_; refine blk_put (cs := #[.bool false, .int .u64 0, .int .u64 0, .int .i64 0]) ?_ 1 _ rfl; refine St ?_; refine blk_put (cs := #[.bool false, .int .u64 0, .int .u64 0, .int .i64 0]) ?_ 0 _ rfl; refine St ?_; exact BK181.out) Tryd.underlying26 rfl (by kernel_rfl)) rfl ?_
    exact ⟨by first | rfl | (simp [errW_none, errW_some] <;> rfl) | (simp [*, errW_none, errW_some] <;> rfl), Hb HB.out⟩
  ·rw [if_neg c5] at H
   have c5b0 : (t188 == 0) = false := beq_eq_false_iff_ne.mpr c5
   have c5b1 : (t188 != 0) = true := bne_iff_ne.mpr c5
   simp only [Option.some.injEq, Prod.mk.injEq] at H
   obtain ⟨rfl, rfl, rfl, rfl, rfl⟩ := H
   go_enter Tryd.func23, Tryd.ntmps23
   go_wp2_with (first | ((with_reducible refine gate_dst (N := 2) rfl ?_); refine box_event ?hg (N := 2) ?hd (cs := #[.bool false, .int .u64 0, .int .u64 0, .int .i64 0]) (t := 26) ?hr ?_; (case hd => rfl); (case hg => rfl); (case hr => first | (go_simp; done) | (go_simp; rfl)); intro gb181 hg w50 hbox hb; have n0_ := Aside0.mk (below_step (Hb HB.out) hb); have n1_ := Aside0.mk (hbox); have n2_ := Aside0.mk ((by rw [hg]; exact (below_size (Hb HB.out)) : w.heap.size ≤ gb181)); have n3_ := Aside0.mk ((by rw [hg]; exact (below_size (Hb HB.out)) : w.heap.size ≤ gb181)); clear HB; have HB := n0_; have BK181 := n1_; have GW181 := n2_; have GE181 := n3_; clear n0_ n1_ n2_ n3_; clear hb hbox hg) | ((with_reducible refine gate_callee (f := 40) rfl ?_); refine goesL_ (some 12) rfl rfl Tryd.func40 (by kernel_rfl) rfl #[.string a0, .string (⟨#[47]⟩ : ByteArray)] rfl Ma ?_; (with_reducible refine (strings_Cut.calls a0 (⟨#[47]⟩ : ByteArray) t182 t183 true _ (Glob_below HG.out (Hb HB.out)) A2.out).mono ?_); rintro e w51 ⟨rfl, hb⟩; refine ⟨_, rfl, ?_⟩; have n0_ := Aside0.mk (blk_below (g := gb181) (o := .cells #[.bool false, .int .u64 0, .int .u64 0, .int .i64 0] 26 (0, 0)) (St BK181.out) hb); have n1_ := Aside0.mk (below_step (Hb HB.out) hb); clear BK181; clear HB; have BK181 := n0_; have HB := n1_; clear n0_ n1_; (try clear hb); (try clear hb2); (try clear hk); (try clear hi)) | ((with_reducible refine gate_callee (f := 41) rfl ?_); refine goesL_ (some 21) rfl rfl Tryd.func41 (by kernel_rfl) rfl #[.string t182] rfl Ma ?_; (with_reducible refine (addr_Parse.calls k t182 t185 t186 t187 t188 _ (Glob_below HG.out (Hb HB.out)) A4.out).mono ?_); rintro e w52 ⟨rfl, hb⟩; refine ⟨_, rfl, ?_⟩; have n0_ := Aside0.mk (blk_below (g := gb181) (o := .cells #[.bool false, .int .u64 0, .int .u64 0, .int .i64 0] 26 (0, 0)) (St BK181.out) hb); have n1_ := Aside0.mk (below_step (Hb HB.out) hb); clear BK181; clear HB; have BK181 := n0_; have HB := n1_; clear n0_ n1_; (try clear hb); (try clear hb2); (try clear hk); (try clear hi)) | ((with_reducible refine gate_dst (N := 7) rfl ?_); refine box_event ?hg (N := 7) ?hd (cs := #[.bool false, .int .u64 0, .int .u64 0]) (t := 24) ?hr ?_; (case hd => rfl); (case hg => rfl); (case hr => first | (go_simp; done) | (go_simp; rfl)); intro gb189 hg w53 hbox hb; have n0_ := Aside0.mk (blk_below (g := gb181) (o := .cells #[.bool false, .int .u64 0, .int .u64 0, .int .i64 0] 26 (0, 0)) (St BK181.out) hb); have n1_ := Aside0.mk (below_step (Hb HB.out) hb); have n2_ := Aside0.mk (hbox); have n3_ := Aside0.mk ((by rw [hg]; exact (below_size (Hb HB.out)) : w.heap.size ≤ gb189)); have n4_ := Aside0.mk ((by rw [hg]; exact (below_size (Hb HB.out)) : w.heap.size ≤ gb189)); have n5_ := Aside0.mk ((by rw [hg]; exact Nat.ne_of_lt (blk_lt (g := gb181) (o := .cells #[.bool false, .int .u64 0, .int .u64 0, .int .i64 0] 26 (0, 0)) (St BK181.out)) : gb181 ≠ gb189)); have n6_ := Aside0.mk ((by rw [hg]; exact Nat.ne_of_gt (blk_lt (g := gb181) (o := .cells #[.bool false, .int .u64 0, .int .u64 0, .int .i64 0] 26 (0, 0)) (St BK181.out)) : gb189 ≠ gb181)); clear BK181; clear HB; have BK181 := n0_; have HB := n1_; have BK189 := n2_; have GW189 := n3_; have GE189 := n4_; have NB181_189 := n5_; have NB189_181 := n6_; clear n0_ n1_ n2_ n3_ n4_ n5_ n6_; clear hb hbox hg; have hnb54 := NB189_181.out; have hnc54 := NB181_189.out; have hcz55_0 : w53.cell? ⟨gb189, 0, none⟩ = some (.bool false) := (blk_cell BK189.out 0).trans rfl; have hcz55_1 : w53.cell? ⟨gb189, 1, none⟩ = some (.int .u64 0) := (blk_cell BK189.out 1).trans rfl; have hcz55_2 : w53.cell? ⟨gb189, 2, none⟩ = some (.int .u64 0) := (blk_cell BK189.out 2).trans rfl; have hfz55_0 := blk_frozen BK189.out 0; have hfz55_1 := blk_frozen BK189.out 1; have hfz55_2 := blk_frozen BK189.out 2; have hcz56_0 : w53.cell? ⟨gb181, 0, none⟩ = some (.bool false) := (blk_cell BK181.out 0).trans rfl; have hcz56_1 : w53.cell? ⟨gb181, 1, none⟩ = some (.int .u64 0) := (blk_cell BK181.out 1).trans rfl; have hcz56_2 : w53.cell? ⟨gb181, 2, none⟩ = some (.int .u64 0) := (blk_cell BK181.out 2).trans rfl; have hcz56_3 : w53.cell? ⟨gb181, 3, none⟩ = some (.int .i64 0) := (blk_cell BK181.out 3).trans rfl; have hfz56_0 := blk_frozen BK181.out 0; have hfz56_1 := blk_frozen BK181.out 1; have hfz56_2 := blk_frozen BK181.out 2; have hfz56_3 := blk_frozen BK181.out 3))
   refine bodyPost_ret (results_ct rfl _ _ gb181 26 #[.bool false, .int .u64 0, .int .u64 0, .int .i64 0] (0, 0) _ rfl (by refine St ?_; refine blk_put (cs := #[.bool false, .int .u64 0, .int .u64 0, .int .i64 0]) ?_ 3 _ rfl; refine St ?_; refine blk_put (cs := #[.bool false, .int .u64 0, .int .u64 0, .int .i64 0]) ?_ 2 _ rfl; refine St ?_; refine blk_put (cs := #[.bool false, .int .u64 0, .int .u64 0, .int .i64 0]) ?_ 1 _ rfl; refine St ?_; refine blk_put (cs := #[.bool false, .int .u64 0, .int .u64 0, .int .i64 0]) ?_ 0 _ rfl; refine St ?_; refine blk_far ?_ NB181_189.out _; refine St ?_; refine blk_far ?_ NB181_189.out _; refine St ?_; refine blk_far ?_ NB181_189.out _; refine St ?_; exact BK181.out) Tryd.underlying26 rfl (by kernel_rfl)) rfl ?_
   exact ⟨by first | rfl | (simp [errW_none, errW_some] <;> rfl) | (simp [*, errW_none, errW_some] <;> rfl), Hb HB.out⟩
 ·replace c3 := Bool.eq_false_iff.mpr c3
  subst c3
  have H1 : (some (false, 0, 0, 0, 30)) = some (r1, r2, r3, r4, r5) := by rw [if_neg (show ¬ (false = true) by decide)] at H; exact H
  clear H
  have H := H1
  clear H1
  simp only [Option.some.injEq, Prod.mk.injEq] at H
  obtain ⟨rfl, rfl, rfl, rfl, rfl⟩ := H
  go_enter Tryd.func23, Tryd.ntmps23
  go_wp2_with (first | ((with_reducible refine gate_dst (N := 2) rfl ?_); refine box_event ?hg (N := 2) ?hd (cs := #[.bool false, .int .u64 0, .int .u64 0, .int .i64 0]) (t := 26) ?hr ?_; (case hd => rfl); (case hg => rfl); (case hr => first | (go_simp; done) | (go_simp; rfl)); intro gb181 hg w57 hbox hb; have n0_ := Aside0.mk (below_step (Hb HB.out) hb); have n1_ := Aside0.mk (hbox); have n2_ := Aside0.mk ((by rw [hg]; exact (below_size (Hb HB.out)) : w.heap.size ≤ gb181)); have n3_ := Aside0.mk ((by rw [hg]; exact (below_size (Hb HB.out)) : w.heap.size ≤ gb181)); clear HB; have HB := n0_; have BK181 := n1_; have GW181 := n2_; have GE181 := n3_; clear n0_ n1_ n2_ n3_; clear hb hbox hg) | ((with_reducible refine gate_callee (f := 40) rfl ?_); refine goesL_ (some 12) rfl rfl Tryd.func40 (by kernel_rfl) rfl #[.string a0, .string (⟨#[47]⟩ : ByteArray)] rfl Ma ?_; (with_reducible refine (strings_Cut.calls a0 (⟨#[47]⟩ : ByteArray) t182 t183 false _ (Glob_below HG.out (Hb HB.out)) A2.out).mono ?_); rintro e w58 ⟨rfl, hb⟩; refine ⟨_, rfl, ?_⟩; have n0_ := Aside0.mk (blk_below (g := gb181) (o := .cells #[.bool false, .int .u64 0, .int .u64 0, .int .i64 0] 26 (0, 0)) (St BK181.out) hb); have n1_ := Aside0.mk (below_step (Hb HB.out) hb); clear BK181; clear HB; have BK181 := n0_; have HB := n1_; clear n0_ n1_; (try clear hb); (try clear hb2); (try clear hk); (try clear hi); have hcz59_0 : w58.cell? ⟨gb181, 0, none⟩ = some (.bool false) := (blk_cell BK181.out 0).trans rfl; have hcz59_1 : w58.cell? ⟨gb181, 1, none⟩ = some (.int .u64 0) := (blk_cell BK181.out 1).trans rfl; have hcz59_2 : w58.cell? ⟨gb181, 2, none⟩ = some (.int .u64 0) := (blk_cell BK181.out 2).trans rfl; have hcz59_3 : w58.cell? ⟨gb181, 3, none⟩ = some (.int .i64 0) := (blk_cell BK181.out 3).trans rfl; have hfz59_0 := blk_frozen BK181.out 0; have hfz59_1 := blk_frozen BK181.out 1; have hfz59_2 := blk_frozen BK181.out 2; have hfz59_3 := blk_frozen BK181.out 3))
  refine bodyPost_ret (results_ct rfl _ _ gb181 26 #[.bool false, .int .u64 0, .int .u64 0, .int .i64 0] (0, 0) _ rfl (by refine St ?_; refine blk_put (cs := #[.bool false, .int .u64 0, .int .u64 0, .int .i64 0]) ?_ 3 _ rfl; refine St ?_; refine blk_put (cs := #[.bool false, .int .u64 0, .int .u64 0, .int .i64 0]) ?_ 2 _ rfl; refine St ?_; refine blk_put (cs := #[.bool false, .int .u64 0, .int .u64 0, .int .i64 0]) ?_ 1 _ rfl; refine St ?_; refine blk_put (cs := #[.bool false, .int .u64 0, .int .u64 0, .int .i64 0]) ?_ 0 _ rfl; refine St ?_; exact BK181.out) Tryd.underlying26 rfl (by kernel_rfl)) rfl ?_
  exact ⟨by first | rfl | (simp [errW_none, errW_some] <;> rfl) | (simp [*, errW_none, errW_some] <;> rfl), Hb HB.out⟩

end Go.Proofs.YtmhjgjdiifcdlaaDoor.P
