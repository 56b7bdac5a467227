-- Laid by a program (wip/pr.py) out of the translation: each function as a Lean function, and the proof that the call comes to it.
import Derived.Test.YtmhjgjdiifcdlaaDoorShort
import Derived.Test.YtmhjgjdiifcdlaaDoorPBase
import Derived.Test.YtmhjgjdiifcdlaaDoorGiven
import Derived.Test.YtmhjgjdiifcdlaaDoorNum
namespace Go.Proofs.YtmhjgjdiifcdlaaDoor.P
open Go.RowKit Go.Proofs.YtmhjgjdiifcdlaaDoorW.PrintWords Go.Proofs.YtmhjgjdiifcdlaaDoorW.PrintLast Go.Proofs.YtmhjgjdiifcdlaaDoorW.PrintMore
attribute [local go_sem] max2_int min2_int max_two min_two max_three min_three max_four min_four   -- for this text's walks alone
set_option linter.unusedVariables false
set_option linter.unusedSimpArgs false

/-! ### addr_four: function 56 -/
def addr_four.l0 : Nat → List ByteArray → List ByteArray → Int → Int → Bool → Int → Int → Option (Bool × Int × Int × Bool)
 | 0, _, _, _, _, _, _, _ => none
 | k + 1, x4, x13, x14, x15, x168000, x168001, x168002 => if x15 < x14 then (if 0 ≤ x15 then (if x15 < (x13.length : Int) then ((addr_number.f (rdOf ByteArray.empty x13 x15) 10 3).bind fun bt169 => (if bt169.2 = true then (if bt169.1 > 255 then (some (false, 0, 0, false)) else (if ((rdOf ByteArray.empty x13 x15).size : Int) > 1 then (if 0 < ((rdOf ByteArray.empty x13 x15).size : Int) then (if (bt (rdOf ByteArray.empty x13 x15) 0) = 48 then (some (false, 0, 0, false)) else (addr_four.l0 k x4 x13 x14 (wrap64 (x15 + 1)) x168000 x168001 (Go.bits .or .u64 (IntKind.u64.wrap (x168002 * 256)) bt169.1))) else (none)) else (addr_four.l0 k x4 x13 x14 (wrap64 (x15 + 1)) x168000 x168001 (Go.bits .or .u64 (IntKind.u64.wrap (x168002 * 256)) bt169.1)))) else (some (false, 0, 0, false)))) else (none)) else (none)) else (some (x168000, x168001, x168002, ((x4.length : Int) == 4)))
def addr_four.f (k : Nat) (a0 : ByteArray) : Option (Bool × Int × Int × Bool) := (strings_Split.f a0 (⟨#[46]⟩ : ByteArray)).bind fun t164 => (addr_four.l0 k t164 t164 (t164.length : Int) 0 false 0 0)
theorem addr_four.mono_l : ∀ k, (∀ y0 y1 y2 y3 y4 y5 y6, LeO (addr_four.l0 k y0 y1 y2 y3 y4 y5 y6) (addr_four.l0 (k + 1) y0 y1 y2 y3 y4 y5 y6))
 | 0 => fun _ _ _ _ _ _ _ r h => by simp [addr_four.l0] at h
 | k + 1 => by
  have ih0 := addr_four.mono_l k
  ·intro y0 y1 y2 y3 y4 y5 y6
   unfold addr_four.l0
   repeat' first
   | (with_reducible exact ih0 _ _ _ _ _ _ _)
   | (with_reducible exact LeO.refl _)
   | (with_reducible exact LeO.none _)
   | (with_reducible refine LeO.ite ?_ ?_)
   | (with_reducible refine LeO.bind ?_ (fun _ => ?_))
   | exact ih0 _ _ _ _ _ _ _
   | exact LeO.none _
   | refine LeO.ite ?_ ?_
   | refine LeO.bind ?_ (fun _ => ?_)
theorem addr_four.mono : ∀ a0 k, LeO (addr_four.f k a0) (addr_four.f (k + 1) a0) := by
 intro a0 k
 have ih0 := addr_four.mono_l k
 unfold addr_four.f
 repeat' first
   | (with_reducible exact ih0 _ _ _ _ _ _ _)
   | (with_reducible exact LeO.refl _)
   | (with_reducible exact LeO.none _)
   | (with_reducible refine LeO.ite ?_ ?_)
   | (with_reducible refine LeO.bind ?_ (fun _ => ?_))
   | exact ih0 _ _ _ _ _ _ _
   | exact LeO.none _
   | refine LeO.ite ?_ ?_
   | refine LeO.bind ?_ (fun _ => ?_)
set_option maxHeartbeats 8000000 in
set_option maxRecDepth 100000 in
theorem addr_four.calls (k : Nat) (a0 : ByteArray) (r1 : Bool) (r2 : Int) (r3 : Int) (r4 : Bool) (w : World) (hG : Glob w) (h : addr_four.f k a0 = some (r1, r2, r3, r4)) :
  Calls Tryd.prog 56 #[.string a0] w fun e w' => e = .returned (.tuple #[.agg #[.bool r1, .int .u64 r2, .int .u64 r3], .bool r4]) ∧ Below w.heap.size w w' := by
 have hu24 := Tryd.underlying24
 have HG := Aside0.mk hG
 clear hG
 have HB := Aside0.mk (Below.refl w.heap.size w)
 have H : ((strings_Split.f a0 (⟨#[46]⟩ : ByteArray)).bind fun t164 => (addr_four.l0 k t164 t164 (t164.length : Int) 0 false 0 0)) = some (r1, r2, r3, r4) := h
 clear h
 replace H := Option.bind_eq_some_iff.mp H
 obtain ⟨t164, A20, H⟩ := H
 replace H : (addr_four.l0 k t164 t164 (t164.length : Int) 0 false 0 0) = some (r1, r2, r3, r4) := H
 have A2 := Aside0.mk A20
 clear A20
 have H' := Aside0.mk H
 clear H
 go_enter Tryd.func56, Tryd.ntmps56
 go_wp2_with (first | ((with_reducible refine gate_dst (N := 2) rfl ?_); (try (refine gate_guard (by rfl) ?_; dsimp only)); refine box_event ?hg (N := 2) ?hd (cs := #[.bool false, .int .u64 0, .int .u64 0]) (t := 24) ?hr ?_; (case hd => rfl); (case hg => rfl); (case hr => first | (go_simp; done) | (go_simp; rfl)); intro gb163 hg w3 hbox hb; have n0_ := Aside0.mk (below_step (Hb HB.out) hb); have n1_ := Aside0.mk (hbox); have n2_ := Aside0.mk ((by rw [hg]; exact (below_size (Hb HB.out)) : w.heap.size ≤ gb163)); have n3_ := Aside0.mk ((by rw [hg]; exact (below_size (Hb HB.out)) : w.heap.size ≤ gb163)); clear HB; have HB := n0_; have BK163 := n1_; have GW163 := n2_; have GE163 := n3_; clear n0_ n1_ n2_ n3_; clear hb hbox hg) | ((with_reducible refine gate_callee (f := 65) rfl ?_); refine goesL_ (some 11) rfl rfl Tryd.func65 (by kernel_rfl) rfl #[.string a0, .string (⟨#[46]⟩ : ByteArray)] rfl Ma ?_; (with_reducible refine (strings_Split.calls a0 (⟨#[46]⟩ : ByteArray) t164 _ (Glob_below HG.out (Hb HB.out)) A2.out).mono ?_); rintro e w4 ⟨v165, rfl, ho0, hb⟩; refine ⟨_, rfl, ?_⟩; have n0_ := Aside0.mk (Kd.R_lower ho0 (below_size (Hb HB.out))); have n1_ := Aside0.mk (blk_below (g := gb163) (o := .cells #[.bool false, .int .u64 0, .int .u64 0] 24 (0, 0)) (St BK163.out) hb); have n2_ := Aside0.mk (below_step (Hb HB.out) hb); clear BK163; clear HB; have HO166 := n0_; have BK163 := n1_; have HB := n2_; clear n0_ n1_ n2_; (try clear hb); (try clear hb2); (try clear hk); (try clear hi); (try clear ho0)) | ((with_reducible refine gate_dst (N := 5) rfl ?_); (try (refine gate_guard (by rfl) ?_; dsimp only)); refine box_event ?hg (N := 5) ?hd (cs := #[.bool false, .int .u64 0, .int .u64 0]) (t := 24) ?hr ?_; (case hd => rfl); (case hg => rfl); (case hr => first | (go_simp; done) | (go_simp; rfl)); intro gb167 hg w5 hbox hb; have n0_ := Aside0.mk (Kd.R_below (by (with_reducible repeat (first | apply Kd.R_alloc | apply Kd.R_drewN | apply Kd.R_drew)); exact HO166.out) hb); have n1_ := Aside0.mk (blk_below (g := gb163) (o := .cells #[.bool false, .int .u64 0, .int .u64 0] 24 (0, 0)) (St BK163.out) hb); have n2_ := Aside0.mk (below_step (Hb HB.out) hb); have n3_ := Aside0.mk (hbox); have n4_ := Aside0.mk ((by rw [hg]; exact (below_size (Hb HB.out)) : w.heap.size ≤ gb167)); have n5_ := Aside0.mk ((by rw [hg]; exact (below_size (Hb HB.out)) : w.heap.size ≤ gb167)); have n6_ := Aside0.mk ((by rw [hg]; exact Nat.ne_of_lt (blk_lt (g := gb163) (o := .cells #[.bool false, .int .u64 0, .int .u64 0] 24 (0, 0)) (St BK163.out)) : gb163 ≠ gb167)); have n7_ := Aside0.mk ((by rw [hg]; exact Nat.ne_of_gt (blk_lt (g := gb163) (o := .cells #[.bool false, .int .u64 0, .int .u64 0] 24 (0, 0)) (St BK163.out)) : gb167 ≠ gb163)); clear HO166; clear BK163; clear HB; have HO166 := n0_; have BK163 := n1_; have HB := n2_; have BK167 := n3_; have GW167 := n4_; have GE167 := n5_; have NB163_167 := n6_; have NB167_163 := n7_; clear n0_ n1_ n2_ n3_ n4_ n5_ n6_ n7_; clear hb hbox hg; have hnb6 := NB167_163.out; have hnc6 := NB163_167.out; have hcz7_0 : w5.cell? ⟨gb167, 0, none⟩ = some (.bool false) := (blk_cell BK167.out 0).trans rfl; have hcz7_1 : w5.cell? ⟨gb167, 1, none⟩ = some (.int .u64 0) := (blk_cell BK167.out 1).trans rfl; have hcz7_2 : w5.cell? ⟨gb167, 2, none⟩ = some (.int .u64 0) := (blk_cell BK167.out 2).trans rfl; have hfz7_0 := blk_frozen BK167.out 0; have hfz7_1 := blk_frozen BK167.out 1; have hfz7_2 := blk_frozen BK167.out 2; obtain ⟨Ao8, co8, eo8⟩ := Kd.R_slice HO166.out; subst eo8))
 go_loopg [15] k (fun kq v15 w' => ∃ (x15_1 : Int) (x164000_1 : Bool) (x164001_1 : Int) (x164002_1 : Int) (x168002_1 : Int), v15 = .int .i64 x15_1 ∧ Aside0 (addr_four.l0 kq t164 t164 (t164.length : Int) x15_1 false 0 x168002_1 = some (r1, r2, r3, r4)) ∧ Aside0 (kq ≤ k) ∧ Aside0 (Kd.R Kd.string 9 w' w.heap.size (fun _ => True) (.slice Ao8 t164.length co8) t164) ∧ Aside0 (Kd.R Kd.string 9 w' w.heap.size (fun _ => True) (.slice Ao8 t164.length co8) t164) ∧ Aside0 (w'.heap[gb163]? = some (.cells #[.bool x164000_1, .int .u64 x164001_1, .int .u64 x164002_1] 24 (0, 0))) ∧ Aside0 (w'.heap[gb167]? = some (.cells #[.bool false, .int .u64 0, .int .u64 x168002_1] 24 (0, 0))) ∧ Aside0 (Below w.heap.size w w'))
 case atStart => exact ⟨(0), (false), (0), (0), (0), (by first | rfl | (simp; done) | (simp [*]; done)), H', ⟨Nat.le_refl _⟩, ⟨by (with_reducible repeat (first | apply Kd.R_alloc | apply Kd.R_drewN | apply Kd.R_drew)); exact Kd.R_mono (Kd.R_far (p := ⟨gb167, 2, none⟩) (Kd.R_far (p := ⟨gb167, 1, none⟩) (Kd.R_far (p := ⟨gb167, 0, none⟩) (Kd.R_types HO166.out BK167.out (by decide)) (fun _ hk => hk.2) (.bool false)) (fun _ hk => hk.2) (.int .u64 0)) (fun _ hk => hk.2) (.int .u64 0)) (fun _ hk => trivial)⟩, ⟨by (with_reducible repeat (first | apply Kd.R_alloc | apply Kd.R_drewN | apply Kd.R_drew)); exact Kd.R_mono (Kd.R_far (p := ⟨gb167, 2, none⟩) (Kd.R_far (p := ⟨gb167, 1, none⟩) (Kd.R_far (p := ⟨gb167, 0, none⟩) (Kd.R_types HO166.out BK167.out (by decide)) (fun _ hk => hk.2) (.bool false)) (fun _ hk => hk.2) (.int .u64 0)) (fun _ hk => hk.2) (.int .u64 0)) (fun _ hk => trivial)⟩, ⟨by refine St ?_; refine blk_far ?_ NB163_167.out _; refine St ?_; refine blk_far ?_ NB163_167.out _; refine St ?_; refine blk_far ?_ NB163_167.out _; refine St ?_; exact BK163.out⟩, ⟨by refine St ?_; refine blk_put (cs := #[.bool false, .int .u64 0, .int .u64 0]) ?_ 2 _ rfl; refine St ?_; refine blk_put (cs := #[.bool false, .int .u64 0, .int .u64 0]) ?_ 1 _ rfl; refine St ?_; refine blk_put (cs := #[.bool false, .int .u64 0, .int .u64 0]) ?_ 0 _ rfl; refine St ?_; exact BK167.out⟩, ⟨Hb HB.out⟩⟩
 case round =>
  clear H'
  try clear p2
  try clear c5
  try clear c6
  try clear hcz7_0
  try clear hcz7_1
  try clear hcz7_2
  try clear hfz7_0
  try clear hfz7_1
  try clear hfz7_2
  obtain ⟨x15_1, x164000_1, x164001_1, x164002_1, x168002_1, rfl, HA, HK1, HO_4, HO_13, BK163, BK167, HB⟩ := hrel
  cases gk with
  | zero => exact absurd HA.out (by simp [addr_four.l0])
  | succ k1 =>
   have H := HA.out
   clear HA
   simp only [addr_four.l0] at H
   by_cases c9 : x15_1 < (t164.length : Int)
   ·rw [if_pos c9] at H
    have c9b0 : decide (x15_1 < (t164.length : Int)) = true := decide_eq_true c9
    clear c9
    by_cases c10 : 0 ≤ x15_1
    ·rw [if_pos c10] at H
     have c10b0 : decide (0 ≤ x15_1) = true := decide_eq_true c10
     clear c10
     by_cases c11 : x15_1 < (t164.length : Int)
     ·rw [if_pos c11] at H
      have c11b0 : decide (x15_1 < (t164.length : Int)) = true := decide_eq_true c11
      clear c11
      replace H := Option.bind_eq_some_iff.mp H
      obtain ⟨⟨t169, t170⟩, A120, H⟩ := H
      replace H : (if t170 = true then (if t169 > 255 then (some (false, 0, 0, false)) else (if ((rdOf ByteArray.empty t164 x15_1).size : Int) > 1 then (if 0 < ((rdOf ByteArray.empty t164 x15_1).size : Int) then (if (bt (rdOf ByteArray.empty t164 x15_1) 0) = 48 then (some (false, 0, 0, false)) else (addr_four.l0 k1 t164 t164 (t164.length : Int) (wrap64 (x15_1 + 1)) false 0 (Go.bits .or .u64 (IntKind.u64.wrap (x168002_1 * 256)) t169))) else (none)) else (addr_four.l0 k1 t164 t164 (t164.length : Int) (wrap64 (x15_1 + 1)) false 0 (Go.bits .or .u64 (IntKind.u64.wrap (x168002_1 * 256)) t169)))) else (some (false, 0, 0, false))) = some (r1, r2, r3, r4) := H
      have A12 := Aside0.mk A120
      clear A120
      by_cases c13 : t170 = true
      ·subst c13
       have H1 : (if t169 > 255 then (some (false, 0, 0, false)) else (if ((rdOf ByteArray.empty t164 x15_1).size : Int) > 1 then (if 0 < ((rdOf ByteArray.empty t164 x15_1).size : Int) then (if (bt (rdOf ByteArray.empty t164 x15_1) 0) = 48 then (some (false, 0, 0, false)) else (addr_four.l0 k1 t164 t164 (t164.length : Int) (wrap64 (x15_1 + 1)) false 0 (Go.bits .or .u64 (IntKind.u64.wrap (x168002_1 * 256)) t169))) else (none)) else (addr_four.l0 k1 t164 t164 (t164.length : Int) (wrap64 (x15_1 + 1)) false 0 (Go.bits .or .u64 (IntKind.u64.wrap (x168002_1 * 256)) t169)))) = some (r1, r2, r3, r4) := by rw [if_pos rfl] at H; exact H
       clear H
       have H := H1
       clear H1
       by_cases c14 : t169 > 255
       ·rw [if_pos c14] at H
        have c14b0 : decide (255 < t169) = true := decide_eq_true c14
        clear c14
        simp only [Option.some.injEq, Prod.mk.injEq] at H
        obtain ⟨rfl, rfl, rfl, rfl⟩ := H
        have p168 : 0 ≤ (x15_1 : Int) := of_decide_eq_true (by first | (with_reducible assumption) | assumption)
        have q168 : x15_1 < (t164.length : Int) := of_decide_eq_true (by first | (with_reducible assumption) | assumption)
        obtain ⟨ad168, e168, hx168_0⟩ := Kd.at_string (Kd.R_reads' HO_13.out).2.2 x15_1 p168 q168
        cases e168
        replace p168 := eq_true p168
        replace q168 := eq_true q168
        go_wp2_with (first | ((with_reducible refine gate_callee (f := 66) rfl ?_); refine goesL_ (some 21) rfl rfl Tryd.func66 (by kernel_rfl) rfl #[.string (rdOf ByteArray.empty t164 x15_1), .int .i64 10, .int .i64 3] rfl Ma ?_; (with_reducible refine (addr_number.calls (rdOf ByteArray.empty t164 x15_1) 10 3 t169 true _ (Glob_below HG.out (Hb HB.out)) A12.out).mono ?_); rintro e w15 ⟨rfl, hb⟩; refine ⟨_, rfl, ?_⟩; have n0_ := Aside0.mk (Kd.R_below (by (with_reducible repeat (first | apply Kd.R_alloc | apply Kd.R_drewN | apply Kd.R_drew)); exact HO_4.out) hb); have n1_ := Aside0.mk (Kd.R_below (by (with_reducible repeat (first | apply Kd.R_alloc | apply Kd.R_drewN | apply Kd.R_drew)); exact HO_13.out) hb); have n2_ := Aside0.mk (blk_below (g := gb163) (o := .cells #[.bool x164000_1, .int .u64 x164001_1, .int .u64 x164002_1] 24 (0, 0)) (St BK163.out) hb); have n3_ := Aside0.mk (blk_below (g := gb167) (o := .cells #[.bool false, .int .u64 0, .int .u64 x168002_1] 24 (0, 0)) (St BK167.out) hb); have n4_ := Aside0.mk (below_step (Hb HB.out) hb); clear HO_4; clear HO_13; clear BK163; clear BK167; clear HB; have HO_4 := n0_; have HO_13 := n1_; have BK163 := n2_; have BK167 := n3_; have HB := n4_; clear n0_ n1_ n2_ n3_ n4_; (try clear hb); (try clear hb2); (try clear hk); (try clear hi); have hnb16 := NB163_167.out; have hnc16 := NB167_163.out; have hcz17_0 : w15.cell? ⟨gb163, 0, none⟩ = some (.bool x164000_1) := (blk_cell BK163.out 0).trans rfl; have hcz17_1 : w15.cell? ⟨gb163, 1, none⟩ = some (.int .u64 x164001_1) := (blk_cell BK163.out 1).trans rfl; have hcz17_2 : w15.cell? ⟨gb163, 2, none⟩ = some (.int .u64 x164002_1) := (blk_cell BK163.out 2).trans rfl; have hfz17_0 := blk_frozen BK163.out 0; have hfz17_1 := blk_frozen BK163.out 1; have hfz17_2 := blk_frozen BK163.out 2))
        refine bodyPost_ret (results_ct rfl _ _ gb163 24 #[.bool false, .int .u64 0, .int .u64 0] (0, 0) _ rfl (by refine St ?_; refine blk_put (cs := #[.bool false, .int .u64 0, .int .u64 x164002_1]) ?_ 2 _ rfl; refine St ?_; refine blk_put (cs := #[.bool false, .int .u64 x164001_1, .int .u64 x164002_1]) ?_ 1 _ rfl; refine St ?_; refine blk_put (cs := #[.bool x164000_1, .int .u64 x164001_1, .int .u64 x164002_1]) ?_ 0 _ rfl; refine St ?_; exact BK163.out) Tryd.underlying24 rfl (by kernel_rfl)) rfl ?_
        exact ⟨by first | rfl | (simp [errW_none, errW_some] <;> rfl) | (simp [*, errW_none, errW_some] <;> rfl), Hb HB.out⟩
       ·rw [if_neg c14] at H
        have c14b0 : decide (255 < t169) = false := decide_eq_false c14
        clear c14
        by_cases c18 : ((rdOf ByteArray.empty t164 x15_1).size : Int) > 1
        ·rw [if_pos c18] at H
         have c18b0 : decide (1 < ((rdOf ByteArray.empty t164 x15_1).size : Int)) = true := decide_eq_true c18
         have c18b1 : decide (1 < (rdOf ByteArray.empty t164 x15_1).size) = true := decide_eq_true (by omega)
         clear c18
         by_cases c19 : 0 < ((rdOf ByteArray.empty t164 x15_1).size : Int)
         ·rw [if_pos c19] at H
          have c19b0 : decide (0 < ((rdOf ByteArray.empty t164 x15_1).size : Int)) = true := decide_eq_true c19
          have c19b1 : decide (0 < (rdOf ByteArray.empty t164 x15_1).size) = true := decide_eq_true (by omega)
          clear c19
          by_cases c21 : (bt (rdOf ByteArray.empty t164 x15_1) 0) = 48
          ·rw [if_pos c21] at H
           have c21b0 : ((bt (rdOf ByteArray.empty t164 x15_1) 0) == 48) = true := beq_iff_eq.mpr c21
           have c21b1 : ((bt (rdOf ByteArray.empty t164 x15_1) 0) != 48) = false := bne_eq_false_iff_eq.mpr c21
           clear c21
           simp only [Option.some.injEq, Prod.mk.injEq] at H
           obtain ⟨rfl, rfl, rfl, rfl⟩ := H
           have p168 : 0 ≤ (x15_1 : Int) := of_decide_eq_true (by first | (with_reducible assumption) | assumption)
           have q168 : x15_1 < (t164.length : Int) := of_decide_eq_true (by first | (with_reducible assumption) | assumption)
           obtain ⟨ad168, e168, hx168_0⟩ := Kd.at_string (Kd.R_reads' HO_13.out).2.2 x15_1 p168 q168
           cases e168
           replace p168 := eq_true p168
           replace q168 := eq_true q168
           go_wp2_with (first | ((with_reducible refine gate_callee (f := 66) rfl ?_); refine goesL_ (some 21) rfl rfl Tryd.func66 (by kernel_rfl) rfl #[.string (rdOf ByteArray.empty t164 x15_1), .int .i64 10, .int .i64 3] rfl Ma ?_; (with_reducible refine (addr_number.calls (rdOf ByteArray.empty t164 x15_1) 10 3 t169 true _ (Glob_below HG.out (Hb HB.out)) A12.out).mono ?_); rintro e w22 ⟨rfl, hb⟩; refine ⟨_, rfl, ?_⟩; have n0_ := Aside0.mk (Kd.R_below (by (with_reducible repeat (first | apply Kd.R_alloc | apply Kd.R_drewN | apply Kd.R_drew)); exact HO_4.out) hb); have n1_ := Aside0.mk (Kd.R_below (by (with_reducible repeat (first | apply Kd.R_alloc | apply Kd.R_drewN | apply Kd.R_drew)); exact HO_13.out) hb); have n2_ := Aside0.mk (blk_below (g := gb163) (o := .cells #[.bool x164000_1, .int .u64 x164001_1, .int .u64 x164002_1] 24 (0, 0)) (St BK163.out) hb); have n3_ := Aside0.mk (blk_below (g := gb167) (o := .cells #[.bool false, .int .u64 0, .int .u64 x168002_1] 24 (0, 0)) (St BK167.out) hb); have n4_ := Aside0.mk (below_step (Hb HB.out) hb); clear HO_4; clear HO_13; clear BK163; clear BK167; clear HB; have HO_4 := n0_; have HO_13 := n1_; have BK163 := n2_; have BK167 := n3_; have HB := n4_; clear n0_ n1_ n2_ n3_ n4_; (try clear hb); (try clear hb2); (try clear hk); (try clear hi); have p20 : 0 ≤ (0 : Int) := (by omega); have q20 : 0 < (rdOf ByteArray.empty t164 x15_1).size := (by have : (0 : Int) < ((rdOf ByteArray.empty t164 x15_1).size : Int) := of_decide_eq_true (by first | (with_reducible assumption) | assumption); omega); have hx20 : ∀ h : 0 < (rdOf ByteArray.empty t164 x15_1).size, (((rdOf ByteArray.empty t164 x15_1)[0]'h).toNat : Int) = bt (rdOf ByteArray.empty t164 x15_1) 0 := bt_at (rdOf ByteArray.empty t164 x15_1) 0; clear p20; have qi20 : (0 < ((rdOf ByteArray.empty t164 x15_1).size : Int)) = True := eq_true (of_decide_eq_true (by first | (with_reducible assumption) | assumption)); replace q20 := eq_true q20; have hnb23 := NB163_167.out; have hnc23 := NB167_163.out; have hcz24_0 : w22.cell? ⟨gb163, 0, none⟩ = some (.bool x164000_1) := (blk_cell BK163.out 0).trans rfl; have hcz24_1 : w22.cell? ⟨gb163, 1, none⟩ = some (.int .u64 x164001_1) := (blk_cell BK163.out 1).trans rfl; have hcz24_2 : w22.cell? ⟨gb163, 2, none⟩ = some (.int .u64 x164002_1) := (blk_cell BK163.out 2).trans rfl; have hfz24_0 := blk_frozen BK163.out 0; have hfz24_1 := blk_frozen BK163.out 1; have hfz24_2 := blk_frozen BK163.out 2))
           refine bodyPost_ret (results_ct rfl _ _ gb163 24 #[.bool false, .int .u64 0, .int .u64 0] (0, 0) _ rfl (by refine St ?_; refine blk_put (cs := #[.bool false, .int .u64 0, .int .u64 x164002_1]) ?_ 2 _ rfl; refine St ?_; refine blk_put (cs := #[.bool false, .int .u64 x164001_1, .int .u64 x164002_1]) ?_ 1 _ rfl; refine St ?_; refine blk_put (cs := #[.bool x164000_1, .int .u64 x164001_1, .int .u64 x164002_1]) ?_ 0 _ rfl; refine St ?_; exact BK163.out) Tryd.underlying24 rfl (by kernel_rfl)) rfl ?_
           exact ⟨by first | rfl | (simp [errW_none, errW_some] <;> rfl) | (simp [*, errW_none, errW_some] <;> rfl), Hb HB.out⟩
          ·rw [if_neg c21] at H
           have c21b0 : ((bt (rdOf ByteArray.empty t164 x15_1) 0) == 48) = false := beq_eq_false_iff_ne.mpr c21
           have c21b1 : ((bt (rdOf ByteArray.empty t164 x15_1) 0) != 48) = true := bne_iff_ne.mpr c21
           have H' := Aside0.mk H
           clear H
           have p168 : 0 ≤ (x15_1 : Int) := of_decide_eq_true (by first | (with_reducible assumption) | assumption)
           have q168 : x15_1 < (t164.length : Int) := of_decide_eq_true (by first | (with_reducible assumption) | assumption)
           obtain ⟨ad168, e168, hx168_0⟩ := Kd.at_string (Kd.R_reads' HO_13.out).2.2 x15_1 p168 q168
           cases e168
           replace p168 := eq_true p168
           replace q168 := eq_true q168
           go_wp2_with (first | ((with_reducible refine gate_callee (f := 66) rfl ?_); refine goesL_ (some 21) rfl rfl Tryd.func66 (by kernel_rfl) rfl #[.string (rdOf ByteArray.empty t164 x15_1), .int .i64 10, .int .i64 3] rfl Ma ?_; (with_reducible refine (addr_number.calls (rdOf ByteArray.empty t164 x15_1) 10 3 t169 true _ (Glob_below HG.out (Hb HB.out)) A12.out).mono ?_); rintro e w25 ⟨rfl, hb⟩; refine ⟨_, rfl, ?_⟩; have n0_ := Aside0.mk (Kd.R_below (by (with_reducible repeat (first | apply Kd.R_alloc | apply Kd.R_drewN | apply Kd.R_drew)); exact HO_4.out) hb); have n1_ := Aside0.mk (Kd.R_below (by (with_reducible repeat (first | apply Kd.R_alloc | apply Kd.R_drewN | apply Kd.R_drew)); exact HO_13.out) hb); have n2_ := Aside0.mk (blk_below (g := gb163) (o := .cells #[.bool x164000_1, .int .u64 x164001_1, .int .u64 x164002_1] 24 (0, 0)) (St BK163.out) hb); have n3_ := Aside0.mk (blk_below (g := gb167) (o := .cells #[.bool false, .int .u64 0, .int .u64 x168002_1] 24 (0, 0)) (St BK167.out) hb); have n4_ := Aside0.mk (below_step (Hb HB.out) hb); clear HO_4; clear HO_13; clear BK163; clear BK167; clear HB; have HO_4 := n0_; have HO_13 := n1_; have BK163 := n2_; have BK167 := n3_; have HB := n4_; clear n0_ n1_ n2_ n3_ n4_; (try clear hb); (try clear hb2); (try clear hk); (try clear hi); have p20 : 0 ≤ (0 : Int) := (by omega); have q20 : 0 < (rdOf ByteArray.empty t164 x15_1).size := (by have : (0 : Int) < ((rdOf ByteArray.empty t164 x15_1).size : Int) := of_decide_eq_true (by first | (with_reducible assumption) | assumption); omega); have hx20 : ∀ h : 0 < (rdOf ByteArray.empty t164 x15_1).size, (((rdOf ByteArray.empty t164 x15_1)[0]'h).toNat : Int) = bt (rdOf ByteArray.empty t164 x15_1) 0 := bt_at (rdOf ByteArray.empty t164 x15_1) 0; clear p20; have qi20 : (0 < ((rdOf ByteArray.empty t164 x15_1).size : Int)) = True := eq_true (of_decide_eq_true (by first | (with_reducible assumption) | assumption)); replace q20 := eq_true q20; have hnb26 := NB167_163.out; have hnc26 := NB163_167.out; have hcz27_0 : w25.cell? ⟨gb167, 0, none⟩ = some (.bool false) := (blk_cell BK167.out 0).trans rfl; have hcz27_1 : w25.cell? ⟨gb167, 1, none⟩ = some (.int .u64 0) := (blk_cell BK167.out 1).trans rfl; have hcz27_2 : w25.cell? ⟨gb167, 2, none⟩ = some (.int .u64 x168002_1) := (blk_cell BK167.out 2).trans rfl; have hfz27_0 := blk_frozen BK167.out 0; have hfz27_1 := blk_frozen BK167.out 1; have hfz27_2 := blk_frozen BK167.out 2))
           go_roundg k1
           case measure => have := HK1.out; omega
           case rel => exact ⟨(wrap64 (x15_1 + 1)), (x164000_1), (x164001_1), (x164002_1), (Go.bits .or .u64 (IntKind.u64.wrap (x168002_1 * 256)) t169), (by first | rfl | (simp; done) | (simp [*]; done)), H', ⟨by have := HK1.out; omega⟩, ⟨by (with_reducible repeat (first | apply Kd.R_alloc | apply Kd.R_drewN | apply Kd.R_drew)); exact Kd.R_mono (Kd.R_far (p := ⟨gb167, 2, none⟩) (Kd.R_types HO_4.out BK167.out (by decide)) (fun _ hk => hk.2) (.int .u64 (Go.bits .or .u64 (IntKind.u64.wrap (x168002_1 * 256)) t169))) (fun _ hk => trivial)⟩, ⟨by (with_reducible repeat (first | apply Kd.R_alloc | apply Kd.R_drewN | apply Kd.R_drew)); exact Kd.R_mono (Kd.R_far (p := ⟨gb167, 2, none⟩) (Kd.R_types HO_13.out BK167.out (by decide)) (fun _ hk => hk.2) (.int .u64 (Go.bits .or .u64 (IntKind.u64.wrap (x168002_1 * 256)) t169))) (fun _ hk => trivial)⟩, ⟨by refine St ?_; refine blk_far ?_ NB163_167.out _; refine St ?_; exact BK163.out⟩, ⟨by refine St ?_; refine blk_put (cs := #[.bool false, .int .u64 0, .int .u64 x168002_1]) ?_ 2 _ rfl; refine St ?_; exact BK167.out⟩, ⟨Hb HB.out⟩⟩
         ·rw [if_neg c19] at H
          exact absurd H (by simp)
        ·rw [if_neg c18] at H
         have c18b0 : decide (1 < ((rdOf ByteArray.empty t164 x15_1).size : Int)) = false := decide_eq_false c18
         have c18b1 : decide (1 < (rdOf ByteArray.empty t164 x15_1).size) = false := decide_eq_false (by omega)
         clear c18
         have H' := Aside0.mk H
         clear H
         have p168 : 0 ≤ (x15_1 : Int) := of_decide_eq_true (by first | (with_reducible assumption) | assumption)
         have q168 : x15_1 < (t164.length : Int) := of_decide_eq_true (by first | (with_reducible assumption) | assumption)
         obtain ⟨ad168, e168, hx168_0⟩ := Kd.at_string (Kd.R_reads' HO_13.out).2.2 x15_1 p168 q168
         cases e168
         replace p168 := eq_true p168
         replace q168 := eq_true q168
         go_wp2_with (first | ((with_reducible refine gate_callee (f := 66) rfl ?_); refine goesL_ (some 21) rfl rfl Tryd.func66 (by kernel_rfl) rfl #[.string (rdOf ByteArray.empty t164 x15_1), .int .i64 10, .int .i64 3] rfl Ma ?_; (with_reducible refine (addr_number.calls (rdOf ByteArray.empty t164 x15_1) 10 3 t169 true _ (Glob_below HG.out (Hb HB.out)) A12.out).mono ?_); rintro e w28 ⟨rfl, hb⟩; refine ⟨_, rfl, ?_⟩; have n0_ := Aside0.mk (Kd.R_below (by (with_reducible repeat (first | apply Kd.R_alloc | apply Kd.R_drewN | apply Kd.R_drew)); exact HO_4.out) hb); have n1_ := Aside0.mk (Kd.R_below (by (with_reducible repeat (first | apply Kd.R_alloc | apply Kd.R_drewN | apply Kd.R_drew)); exact HO_13.out) hb); have n2_ := Aside0.mk (blk_below (g := gb163) (o := .cells #[.bool x164000_1, .int .u64 x164001_1, .int .u64 x164002_1] 24 (0, 0)) (St BK163.out) hb); have n3_ := Aside0.mk (blk_below (g := gb167) (o := .cells #[.bool false, .int .u64 0, .int .u64 x168002_1] 24 (0, 0)) (St BK167.out) hb); have n4_ := Aside0.mk (below_step (Hb HB.out) hb); clear HO_4; clear HO_13; clear BK163; clear BK167; clear HB; have HO_4 := n0_; have HO_13 := n1_; have BK163 := n2_; have BK167 := n3_; have HB := n4_; clear n0_ n1_ n2_ n3_ n4_; (try clear hb); (try clear hb2); (try clear hk); (try clear hi); have hnb29 := NB167_163.out; have hnc29 := NB163_167.out; have hcz30_0 : w28.cell? ⟨gb167, 0, none⟩ = some (.bool false) := (blk_cell BK167.out 0).trans rfl; have hcz30_1 : w28.cell? ⟨gb167, 1, none⟩ = some (.int .u64 0) := (blk_cell BK167.out 1).trans rfl; have hcz30_2 : w28.cell? ⟨gb167, 2, none⟩ = some (.int .u64 x168002_1) := (blk_cell BK167.out 2).trans rfl; have hfz30_0 := blk_frozen BK167.out 0; have hfz30_1 := blk_frozen BK167.out 1; have hfz30_2 := blk_frozen BK167.out 2))
         go_roundg k1
         case measure => have := HK1.out; omega
         case rel => exact ⟨(wrap64 (x15_1 + 1)), (x164000_1), (x164001_1), (x164002_1), (Go.bits .or .u64 (IntKind.u64.wrap (x168002_1 * 256)) t169), (by first | rfl | (simp; done) | (simp [*]; done)), H', ⟨by have := HK1.out; omega⟩, ⟨by (with_reducible repeat (first | apply Kd.R_alloc | apply Kd.R_drewN | apply Kd.R_drew)); exact Kd.R_mono (Kd.R_far (p := ⟨gb167, 2, none⟩) (Kd.R_types HO_4.out BK167.out (by decide)) (fun _ hk => hk.2) (.int .u64 (Go.bits .or .u64 (IntKind.u64.wrap (x168002_1 * 256)) t169))) (fun _ hk => trivial)⟩, ⟨by (with_reducible repeat (first | apply Kd.R_alloc | apply Kd.R_drewN | apply Kd.R_drew)); exact Kd.R_mono (Kd.R_far (p := ⟨gb167, 2, none⟩) (Kd.R_types HO_13.out BK167.out (by decide)) (fun _ hk => hk.2) (.int .u64 (Go.bits .or .u64 (IntKind.u64.wrap (x168002_1 * 256)) t169))) (fun _ hk => trivial)⟩, ⟨by refine St ?_; refine blk_far ?_ NB163_167.out _; refine St ?_; exact BK163.out⟩, ⟨by refine St ?_; refine blk_put (cs := #[.bool false, .int .u64 0, .int .u64 x168002_1]) ?_ 2 _ rfl; refine St ?_; exact BK167.out⟩, ⟨Hb HB.out⟩⟩
      ·replace c13 := Bool.eq_false_iff.mpr c13
       subst c13
       have H1 : (some (false, 0, 0, false)) = some (r1, r2, r3, r4) := by rw [if_neg (show ¬ (false = true) by decide)] at H; exact H
       clear H
       have H := H1
       clear H1
       simp only [Option.some.injEq, Prod.mk.injEq] at H
       obtain ⟨rfl, rfl, rfl, rfl⟩ := H
       have p168 : 0 ≤ (x15_1 : Int) := of_decide_eq_true (by first | (with_reducible assumption) | assumption)
       have q168 : x15_1 < (t164.length : Int) := of_decide_eq_true (by first | (with_reducible assumption) | assumption)
       obtain ⟨ad168, e168, hx168_0⟩ := Kd.at_string (Kd.R_reads' HO_13.out).2.2 x15_1 p168 q168
       cases e168
       replace p168 := eq_true p168
       replace q168 := eq_true q168
       go_wp2_with (first | ((with_reducible refine gate_callee (f := 66) rfl ?_); refine goesL_ (some 21) rfl rfl Tryd.func66 (by kernel_rfl) rfl #[.string (rdOf ByteArray.empty t164 x15_1), .int .i64 10, .int .i64 3] rfl Ma ?_; (with_reducible refine (addr_number.calls (rdOf ByteArray.empty t164 x15_1) 10 3 t169 false _ (Glob_below HG.out (Hb HB.out)) A12.out).mono ?_); rintro e w31 ⟨rfl, hb⟩; refine ⟨_, rfl, ?_⟩; have n0_ := Aside0.mk (Kd.R_below (by (with_reducible repeat (first | apply Kd.R_alloc | apply Kd.R_drewN | apply Kd.R_drew)); exact HO_4.out) hb); have n1_ := Aside0.mk (Kd.R_below (by (with_reducible repeat (first | apply Kd.R_alloc | apply Kd.R_drewN | apply Kd.R_drew)); exact HO_13.out) hb); have n2_ := Aside0.mk (blk_below (g := gb163) (o := .cells #[.bool x164000_1, .int .u64 x164001_1, .int .u64 x164002_1] 24 (0, 0)) (St BK163.out) hb); have n3_ := Aside0.mk (blk_below (g := gb167) (o := .cells #[.bool false, .int .u64 0, .int .u64 x168002_1] 24 (0, 0)) (St BK167.out) hb); have n4_ := Aside0.mk (below_step (Hb HB.out) hb); clear HO_4; clear HO_13; clear BK163; clear BK167; clear HB; have HO_4 := n0_; have HO_13 := n1_; have BK163 := n2_; have BK167 := n3_; have HB := n4_; clear n0_ n1_ n2_ n3_ n4_; (try clear hb); (try clear hb2); (try clear hk); (try clear hi); have hnb32 := NB163_167.out; have hnc32 := NB167_163.out; have hcz33_0 : w31.cell? ⟨gb163, 0, none⟩ = some (.bool x164000_1) := (blk_cell BK163.out 0).trans rfl; have hcz33_1 : w31.cell? ⟨gb163, 1, none⟩ = some (.int .u64 x164001_1) := (blk_cell BK163.out 1).trans rfl; have hcz33_2 : w31.cell? ⟨gb163, 2, none⟩ = some (.int .u64 x164002_1) := (blk_cell BK163.out 2).trans rfl; have hfz33_0 := blk_frozen BK163.out 0; have hfz33_1 := blk_frozen BK163.out 1; have hfz33_2 := blk_frozen BK163.out 2))
       refine bodyPost_ret (results_ct rfl _ _ gb163 24 #[.bool false, .int .u64 0, .int .u64 0] (0, 0) _ rfl (by refine St ?_; refine blk_put (cs := #[.bool false, .int .u64 0, .int .u64 x164002_1]) ?_ 2 _ rfl; refine St ?_; refine blk_put (cs := #[.bool false, .int .u64 x164001_1, .int .u64 x164002_1]) ?_ 1 _ rfl; refine St ?_; refine blk_put (cs := #[.bool x164000_1, .int .u64 x164001_1, .int .u64 x164002_1]) ?_ 0 _ rfl; refine St ?_; exact BK163.out) Tryd.underlying24 rfl (by kernel_rfl)) rfl ?_
       exact ⟨by first | rfl | (simp [errW_none, errW_some] <;> rfl) | (simp [*, errW_none, errW_some] <;> rfl), Hb HB.out⟩
     ·rw [if_neg c11] at H
      exact absurd H (by simp)
    ·rw [if_neg c10] at H
     exact absurd H (by simp)
   ·rw [if_neg c9] at H
    have c9b0 : decide (x15_1 < (t164.length : Int)) = false := decide_eq_false c9
    clear c9
    simp only [Option.some.injEq, Prod.mk.injEq] at H
    obtain ⟨rfl, rfl, rfl, rfl⟩ := H
    have hnb34 := NB167_163.out
    have hnc34 := NB163_167.out
    have hcz35_0 : wr.cell? ⟨gb167, 0, none⟩ = some (.bool false) := (blk_cell BK167.out 0).trans rfl
    have hcz35_1 : wr.cell? ⟨gb167, 1, none⟩ = some (.int .u64 0) := (blk_cell BK167.out 1).trans rfl
    have hcz35_2 : wr.cell? ⟨gb167, 2, none⟩ = some (.int .u64 x168002_1) := (blk_cell BK167.out 2).trans rfl
    have hfz35_0 := blk_frozen BK167.out 0
    have hfz35_1 := blk_frozen BK167.out 1
    have hfz35_2 := blk_frozen BK167.out 2
    have hcz36_0 : wr.cell? ⟨gb163, 0, none⟩ = some (.bool x164000_1) := (blk_cell BK163.out 0).trans rfl
    have hcz36_1 : wr.cell? ⟨gb163, 1, none⟩ = some (.int .u64 x164001_1) := (blk_cell BK163.out 1).trans rfl
    have hcz36_2 : wr.cell? ⟨gb163, 2, none⟩ = some (.int .u64 x164002_1) := (blk_cell BK163.out 2).trans rfl
    have hfz36_0 := blk_frozen BK163.out 0
    have hfz36_1 := blk_frozen BK163.out 1
    have hfz36_2 := blk_frozen BK163.out 2
    go_wp2
    refine bodyPost_ret (results_ct rfl _ _ gb163 24 #[.bool false, .int .u64 0, .int .u64 x168002_1] (0, 0) _ rfl (by refine St ?_; refine blk_put (cs := #[.bool false, .int .u64 0, .int .u64 x164002_1]) ?_ 2 _ rfl; refine St ?_; refine blk_put (cs := #[.bool false, .int .u64 x164001_1, .int .u64 x164002_1]) ?_ 1 _ rfl; refine St ?_; refine blk_put (cs := #[.bool x164000_1, .int .u64 x164001_1, .int .u64 x164002_1]) ?_ 0 _ rfl; refine St ?_; exact BK163.out) Tryd.underlying24 rfl (by kernel_rfl)) rfl ?_
    exact ⟨by first | rfl | (simp [errW_none, errW_some] <;> rfl) | (simp [*, errW_none, errW_some] <;> rfl), Hb HB.out⟩

end Go.Proofs.YtmhjgjdiifcdlaaDoor.P
