/- addr.Print at every address. Condition: the world holds the library's tables (Glob). -/
import Derived.Test.YtmhjgjdiifcdlaaDoorGap
import Derived.Test.YtmhjgjdiifcdlaaDoorPAddrtexts
import Derived.Test.YtmhjgjdiifcdlaaDoorPAddrPrint4
import Derived.Test.YtmhjgjdiifcdlaaDoorShort
import Derived.ChangeAlike
import Derived.Deep.RegionWith
set_option linter.unusedVariables false
namespace Go.Proofs.YtmhjgjdiifcdlaaDoor.P
open Go.RowKit Go.Proofs.YtmhjgjdiifcdlaaDoorW.PrintWords Go.Proofs.YtmhjgjdiifcdlaaDoor.Txt Go.Proofs.YtmhjgjdiifcdlaaDoor.Nat_

/-- eight cells of a block, as a row of numbers -/
theorem row8 {w : World} {b : Nat} {G : List Nat} {t : TypeId} (hg : w.heap[b]? = some (.cells (G.map fun (n : Nat) => Value.int .u16 (n : Int)).toArray t (0, 0))) (hl : G.length = 8) : Kd.C (Kd.int .u16) w (some ⟨b, 0, none⟩) (G.map fun (n : Nat) => (n : Int)).length (G.map fun (n : Nat) => (n : Int)) := by
  refine Kd.C_of_reads (d := 0) ⟨rfl, by rw [List.length_map]; omega, fun _ => ⟨_, rfl, fun j hj => ?_⟩⟩
  rw [List.length_map] at hj
  have e : (⟨b, 0, none⟩ : Addr).add j = ⟨b, j, none⟩ := by unfold Addr.add; by_cases h : j = 0 <;> simp [h]
  rw [e, blk_cell hg]
  simp [List.getElem?_eq_getElem hj, List.getD_eq_getElem?_getD]

theorem texts_cut (k b F n c : Nat) (G : List Nat) (x : ByteArray) (w : World) {t : TypeId} (hg : w.heap[b]? = some (.cells (G.map fun (n : Nat) => Value.int .u16 (n : Int)).toArray t (0, 0))) (hl : G.length = 8) (hF : F ≤ 8 ∧ n = F ∧ c = 8) (hG : Glob w)
    (hx : addr_texts.f k ((G.map fun (n : Nat) => (n : Int)).take F) = some x) :
    Calls Tryd.prog 53 #[.slice (some ⟨b, 0, none⟩) n c] w fun e w' => e = .returned (.string x) ∧ Below w.heap.size w w' := by
  obtain ⟨hF, rfl, rfl⟩ := hF
  have hL : ((G.map fun (n : Nat) => (n : Int)).take n).length = n := by rw [List.length_take, List.length_map]; omega
  have := addr_texts.calls k (some ⟨b, 0, none⟩) 8 _ x w (Kd.C_take (m := n) (row8 hg hl) (by rw [List.length_map]; omega)) (by omega) hG hx
  rw [hL] at this
  exact this

theorem texts_cut2 (k b T o n c : Nat) (G : List Nat) (x : ByteArray) (w : World) {t : TypeId} (hg : w.heap[b]? = some (.cells (G.map fun (n : Nat) => Value.int .u16 (n : Int)).toArray t (0, 0))) (hl : G.length = 8) (hT : T ≤ 8 ∧ (8 = T ∧ o = 0 ∨ ¬ 8 = T ∧ o = T) ∧ n = 8 - T ∧ c = 8 - T) (hG : Glob w)
    (hx : addr_texts.f k ((G.map fun (n : Nat) => (n : Int)).drop T) = some x) :
    Calls Tryd.prog 53 #[.slice (some ⟨b, o, none⟩) n c] w fun e w' => e = .returned (.string x) ∧ Below w.heap.size w w' := by
  obtain ⟨hT, ho, rfl, rfl⟩ := hT
  have hL : ((G.map fun (n : Nat) => (n : Int)).drop T).length = 8 - T := by rw [List.length_drop, List.length_map]; omega
  have hC := Kd.C_drop (m := T) (c := 8) (row8 hg hl) (by rw [List.length_map]; omega) (by rw [List.length_map]; omega)
  have hA : (if 8 = T then some (⟨b, 0, none⟩ : Addr) else (some (⟨b, 0, none⟩ : Addr)).map (·.add (T * (Kd.int .u16).sz))) = some ⟨b, o, none⟩ := by
    rcases ho with ⟨h1, rfl⟩ | ⟨h1, rfl⟩
    · rw [if_pos h1]
    · rw [if_neg h1]
      show some (Addr.add _ (o * 1)) = _
      unfold Addr.add
      by_cases h0 : o = 0 <;> simp [h0]
  rw [hA] at hC
  have := addr_texts.calls k (some ⟨b, o, none⟩) (8 - T) _ x w hC (by omega) hG hx
  rw [hL] at this
  exact this

set_option maxHeartbeats 8000000 in
set_option maxRecDepth 100000 in
theorem print6_one (hi lo : Nat) (h1 : hi < 18446744073709551616) (h2 : lo < 18446744073709551616) (w : World) (hG : Glob w) (a b c d e f g h : Nat) (hq : grp hi lo = [a, b, c, d, e, f, g, h]) (F T : Nat) (hgap : gapL [a, b, c, d, e, f, g, h] = (F, T)) (x : ByteArray) (k : Nat)
    (hT : T = 0) (hx : addr_texts.f k [(a : Int), b, c, d, e, f, g, h] = some x) :
    Calls Tryd.prog 38 #[.agg #[.bool true, .int .u64 hi, .int .u64 lo]] w fun ee w' => ee = .returned (.string x) ∧ Below w.heap.size w w' := by
  have HG := Aside0.mk hG
  have hgr := fun w => gap_raw a b c d e f g h w
  rw [hgap] at hgr
  have HX := Aside0.mk hx
  clear hx
  subst hT
  clear hG
  have HB := Aside0.mk (Below.refl w.heap.size w)
  have hv : addr_Valid.f true hi lo = some true := by unfold addr_Valid.f; rw [if_pos rfl]
  have HV := Aside0.mk hv
  have hs : ∀ w, Calls Tryd.prog 51 #[.agg #[.bool true, .int .u64 hi, .int .u64 lo]] w fun e' w' => e' = .returned (.agg #[.int .u16 a, .int .u16 b, .int .u16 c, .int .u16 d, .int .u16 e, .int .u16 f, .int .u16 g, .int .u16 h]) ∧ Below w.heap.size w w' := by
    intro w
    have := split_calls true hi lo h1 h2 w
    rw [hq] at this
    exact this
  go_enter Tryd.func38, Tryd.ntmps38
  go_wp2_with (first
    | ((with_reducible refine gate_dst (N := 1) rfl ?_); refine box_event ?hg (N := 1) ?hd (cs := #[.bool true, .int .u64 hi, .int .u64 lo]) (t := 24) ?hr ?_; (case hd => rfl); (case hg => rfl); (case hr => first | (go_simp; done) | (go_simp; rfl)); intro gb1 hg w1 hbox hb; have HB1 := Aside0.mk (below_step (Hb HB.out) hb); have BK := Aside0.mk hbox; clear hb hbox hg; have hz0 : w1.cell? ⟨gb1, 0, none⟩ = some (.bool true) := (blk_cell BK.out 0).trans rfl; have hz1 : w1.cell? ⟨gb1, 1, none⟩ = some (.int .u64 hi) := (blk_cell BK.out 1).trans rfl; have hz2 : w1.cell? ⟨gb1, 2, none⟩ = some (.int .u64 lo) := (blk_cell BK.out 2).trans rfl)
    | (go_at_call 29; refine (addr_Valid.calls true hi lo true _ HV.out).mono ?_; rintro e w2 ⟨rfl, hb⟩; have HB2 := Aside0.mk (below_step (Hb HB1.out) hb); have BK2 := Aside0.mk (blk_below (g := gb1) (o := .cells #[.bool true, .int .u64 hi, .int .u64 lo] 24 (0, 0)) (St BK.out) hb); have hy0 : w2.cell? ⟨gb1, 0, none⟩ = some (.bool true) := (blk_cell BK2.out 0).trans rfl; have hy1 : w2.cell? ⟨gb1, 1, none⟩ = some (.int .u64 hi) := (blk_cell BK2.out 1).trans rfl; have hy2 : w2.cell? ⟨gb1, 2, none⟩ = some (.int .u64 lo) := (blk_cell BK2.out 2).trans rfl; clear hb)
    | (go_at_call 51; refine (hs _).mono ?_; rintro e w3 ⟨rfl, hb⟩; have HB3 := Aside0.mk (below_step (Hb HB2.out) hb); clear hb)
    | ((with_reducible refine gate_dst (N := 5) rfl ?_); (try (refine gate_guard (by rfl) ?_; dsimp only)); refine box_event ?hg (N := 5) ?hd (cs := #[.int .u16 0, .int .u16 0, .int .u16 0, .int .u16 0, .int .u16 0, .int .u16 0, .int .u16 0, .int .u16 0]) (t := 68) ?hr ?_; (case hd => rfl); (case hg => rfl); (case hr => first | (go_simp; done) | (go_simp; rfl)); intro gb5 hg w4 hbox hb; have HB4 := Aside0.mk (below_step (Hb HB3.out) hb); have GE5 := Aside0.mk ((by rw [hg]; exact (below_size (Hb HB3.out)) : w.heap.size ≤ gb5)); have BZ := Aside0.mk hbox; clear hb hbox hg; have hc0 : w4.cell? ⟨gb5, 0, none⟩ = some (.int .u16 0) := (blk_cell BZ.out 0).trans rfl; have hc1 : w4.cell? ⟨gb5, 1, none⟩ = some (.int .u16 0) := (blk_cell BZ.out 1).trans rfl; have hc2 : w4.cell? ⟨gb5, 2, none⟩ = some (.int .u16 0) := (blk_cell BZ.out 2).trans rfl; have hc3 : w4.cell? ⟨gb5, 3, none⟩ = some (.int .u16 0) := (blk_cell BZ.out 3).trans rfl; have hc4 : w4.cell? ⟨gb5, 4, none⟩ = some (.int .u16 0) := (blk_cell BZ.out 4).trans rfl; have hc5 : w4.cell? ⟨gb5, 5, none⟩ = some (.int .u16 0) := (blk_cell BZ.out 5).trans rfl; have hc6 : w4.cell? ⟨gb5, 6, none⟩ = some (.int .u16 0) := (blk_cell BZ.out 6).trans rfl; have hc7 : w4.cell? ⟨gb5, 7, none⟩ = some (.int .u16 0) := (blk_cell BZ.out 7).trans rfl; have hf0 := blk_frozen BZ.out 0; have hf1 := blk_frozen BZ.out 1; have hf2 := blk_frozen BZ.out 2; have hf3 := blk_frozen BZ.out 3; have hf4 := blk_frozen BZ.out 4; have hf5 := blk_frozen BZ.out 5; have hf6 := blk_frozen BZ.out 6; have hf7 := blk_frozen BZ.out 7)
    | (go_at_call 52; refine (hgr _).mono ?_; rintro e w5 ⟨rfl, hb⟩; have HB5 := Aside0.mk (below_step (Hb HB4.out) hb); have BG := Aside0.mk (blk_below (g := gb5) (o := .cells #[.int .u16 a, .int .u16 b, .int .u16 c, .int .u16 d, .int .u16 e, .int .u16 f, .int .u16 g, .int .u16 h] 68 (0, 0)) (by refine blk_put (cs := #[.int .u16 a, .int .u16 b, .int .u16 c, .int .u16 d, .int .u16 e, .int .u16 f, .int .u16 g, .int .u16 0]) ?_ 7 _ rfl; refine blk_put (cs := #[.int .u16 a, .int .u16 b, .int .u16 c, .int .u16 d, .int .u16 e, .int .u16 f, .int .u16 0, .int .u16 0]) ?_ 6 _ rfl; refine blk_put (cs := #[.int .u16 a, .int .u16 b, .int .u16 c, .int .u16 d, .int .u16 e, .int .u16 0, .int .u16 0, .int .u16 0]) ?_ 5 _ rfl; refine blk_put (cs := #[.int .u16 a, .int .u16 b, .int .u16 c, .int .u16 d, .int .u16 0, .int .u16 0, .int .u16 0, .int .u16 0]) ?_ 4 _ rfl; refine blk_put (cs := #[.int .u16 a, .int .u16 b, .int .u16 c, .int .u16 0, .int .u16 0, .int .u16 0, .int .u16 0, .int .u16 0]) ?_ 3 _ rfl; refine blk_put (cs := #[.int .u16 a, .int .u16 b, .int .u16 0, .int .u16 0, .int .u16 0, .int .u16 0, .int .u16 0, .int .u16 0]) ?_ 2 _ rfl; refine blk_put (cs := #[.int .u16 a, .int .u16 0, .int .u16 0, .int .u16 0, .int .u16 0, .int .u16 0, .int .u16 0, .int .u16 0]) ?_ 1 _ rfl; refine blk_put (cs := #[.int .u16 0, .int .u16 0, .int .u16 0, .int .u16 0, .int .u16 0, .int .u16 0, .int .u16 0, .int .u16 0]) ?_ 0 _ rfl; exact BZ.out) hb); clear hb)
    | (go_at_call 53; go_loud (refine (addr_texts.calls k (some ⟨gb5, 0, none⟩) 8 [(a : Int), b, c, d, e, f, g, h] x _ (row8 (G := [a, b, c, d, e, f, g, h]) BG.out rfl) (Nat.le_refl 8) (Glob_below HG.out (Hb HB5.out)) HX.out).mono ?_; rintro e w6 ⟨rfl, hb⟩; have HB6 := Aside0.mk (below_step (Hb HB5.out) hb); clear hb)))
  go_ret
  exact ⟨rfl, HB6.out⟩

set_option maxHeartbeats 8000000 in
set_option maxRecDepth 100000 in
theorem print6_two (hi lo : Nat) (h1 : hi < 18446744073709551616) (h2 : lo < 18446744073709551616) (w : World) (hG : Glob w) (a b c d e f g h : Nat) (hq : grp hi lo = [a, b, c, d, e, f, g, h]) (F T : Nat) (hgap : gapL [a, b, c, d, e, f, g, h] = (F, T)) (x : ByteArray) (k : Nat)
    (y : ByteArray) (hxs : x.size ≤ 1000) (hys : y.size ≤ 1000) (hT : T ≠ 0) (hF : F ≤ T) (hT8 : T ≤ 8) (h8 : ¬ 8 = T) (hx : addr_texts.f k (([a, b, c, d, e, f, g, h].map fun (n : Nat) => (n : Int)).take F) = some x) (hy : addr_texts.f k (([a, b, c, d, e, f, g, h].map fun (n : Nat) => (n : Int)).drop T) = some y) :
    Calls Tryd.prog 38 #[.agg #[.bool true, .int .u64 hi, .int .u64 lo]] w fun ee w' => ee = .returned (.string ((x ++ (⟨#[58, 58]⟩ : ByteArray)) ++ y)) ∧ Below w.heap.size w w' := by
  have HG := Aside0.mk hG
  have hgr := fun w => gap_raw a b c d e f g h w
  rw [hgap] at hgr
  have HX := Aside0.mk hx
  clear hx
  have HY := Aside0.mk hy
  clear hy
  have hs1 : x.size + 2 ≤ 9223372036854775807 := by omega
  have hs2 := eq_true hs1
  have hs3 : (x ++ (⟨#[58, 58]⟩ : ByteArray)).size + y.size ≤ 9223372036854775807 := by rw [ByteArray.size_append]; show x.size + 2 + y.size ≤ _; omega
  have hs4 := eq_true hs3
  have hs5 : ¬ 9223372036854775807 < x.size + 2 := by omega
  have hs6 : ¬ 9223372036854775807 < x.size + 2 + y.size := by omega
  have hal : Tryd.prog.arrayLen 68 = 8 := by kernel_rfl
  have hF8 : (F : Int) ≤ 8 := by omega
  have hT8' : (T : Int) ≤ 8 := by omega
  have hF9 : (F : Int) ≤ ((Tryd.prog.arrayLen 68 : Nat) : Int) := by rw [hal]; omega
  have hT9 : (T : Int) ≤ ((Tryd.prog.arrayLen 68 : Nat) : Int) := by rw [hal]; omega
  have hT0 : ((T : Int) == 0) = false := by rw [beq_eq_false_iff_ne]; omega
  clear hG
  have HB := Aside0.mk (Below.refl w.heap.size w)
  have hv : addr_Valid.f true hi lo = some true := by unfold addr_Valid.f; rw [if_pos rfl]
  have HV := Aside0.mk hv
  have hs : ∀ w, Calls Tryd.prog 51 #[.agg #[.bool true, .int .u64 hi, .int .u64 lo]] w fun e' w' => e' = .returned (.agg #[.int .u16 a, .int .u16 b, .int .u16 c, .int .u16 d, .int .u16 e, .int .u16 f, .int .u16 g, .int .u16 h]) ∧ Below w.heap.size w w' := by
    intro w
    have := split_calls true hi lo h1 h2 w
    rw [hq] at this
    exact this
  go_enter Tryd.func38, Tryd.ntmps38
  go_wp2_with (first
    | ((with_reducible refine gate_dst (N := 1) rfl ?_); refine box_event ?hg (N := 1) ?hd (cs := #[.bool true, .int .u64 hi, .int .u64 lo]) (t := 24) ?hr ?_; (case hd => rfl); (case hg => rfl); (case hr => first | (go_simp; done) | (go_simp; rfl)); intro gb1 hg w1 hbox hb; have HB1 := Aside0.mk (below_step (Hb HB.out) hb); have BK := Aside0.mk hbox; clear hb hbox hg; have hz0 : w1.cell? ⟨gb1, 0, none⟩ = some (.bool true) := (blk_cell BK.out 0).trans rfl; have hz1 : w1.cell? ⟨gb1, 1, none⟩ = some (.int .u64 hi) := (blk_cell BK.out 1).trans rfl; have hz2 : w1.cell? ⟨gb1, 2, none⟩ = some (.int .u64 lo) := (blk_cell BK.out 2).trans rfl)
    | (go_at_call 29; refine (addr_Valid.calls true hi lo true _ HV.out).mono ?_; rintro e w2 ⟨rfl, hb⟩; have HB2 := Aside0.mk (below_step (Hb HB1.out) hb); have BK2 := Aside0.mk (blk_below (g := gb1) (o := .cells #[.bool true, .int .u64 hi, .int .u64 lo] 24 (0, 0)) (St BK.out) hb); have hy0 : w2.cell? ⟨gb1, 0, none⟩ = some (.bool true) := (blk_cell BK2.out 0).trans rfl; have hy1 : w2.cell? ⟨gb1, 1, none⟩ = some (.int .u64 hi) := (blk_cell BK2.out 1).trans rfl; have hy2 : w2.cell? ⟨gb1, 2, none⟩ = some (.int .u64 lo) := (blk_cell BK2.out 2).trans rfl; clear hb)
    | (go_at_call 51; refine (hs _).mono ?_; rintro e w3 ⟨rfl, hb⟩; have HB3 := Aside0.mk (below_step (Hb HB2.out) hb); clear hb)
    | ((with_reducible refine gate_dst (N := 5) rfl ?_); (try (refine gate_guard (by rfl) ?_; dsimp only)); refine box_event ?hg (N := 5) ?hd (cs := #[.int .u16 0, .int .u16 0, .int .u16 0, .int .u16 0, .int .u16 0, .int .u16 0, .int .u16 0, .int .u16 0]) (t := 68) ?hr ?_; (case hd => rfl); (case hg => rfl); (case hr => first | (go_simp; done) | (go_simp; rfl)); intro gb5 hg w4 hbox hb; have HB4 := Aside0.mk (below_step (Hb HB3.out) hb); have GE5 := Aside0.mk ((by rw [hg]; exact (below_size (Hb HB3.out)) : w.heap.size ≤ gb5)); have BZ := Aside0.mk hbox; clear hb hbox hg; have hc0 : w4.cell? ⟨gb5, 0, none⟩ = some (.int .u16 0) := (blk_cell BZ.out 0).trans rfl; have hc1 : w4.cell? ⟨gb5, 1, none⟩ = some (.int .u16 0) := (blk_cell BZ.out 1).trans rfl; have hc2 : w4.cell? ⟨gb5, 2, none⟩ = some (.int .u16 0) := (blk_cell BZ.out 2).trans rfl; have hc3 : w4.cell? ⟨gb5, 3, none⟩ = some (.int .u16 0) := (blk_cell BZ.out 3).trans rfl; have hc4 : w4.cell? ⟨gb5, 4, none⟩ = some (.int .u16 0) := (blk_cell BZ.out 4).trans rfl; have hc5 : w4.cell? ⟨gb5, 5, none⟩ = some (.int .u16 0) := (blk_cell BZ.out 5).trans rfl; have hc6 : w4.cell? ⟨gb5, 6, none⟩ = some (.int .u16 0) := (blk_cell BZ.out 6).trans rfl; have hc7 : w4.cell? ⟨gb5, 7, none⟩ = some (.int .u16 0) := (blk_cell BZ.out 7).trans rfl; have hf0 := blk_frozen BZ.out 0; have hf1 := blk_frozen BZ.out 1; have hf2 := blk_frozen BZ.out 2; have hf3 := blk_frozen BZ.out 3; have hf4 := blk_frozen BZ.out 4; have hf5 := blk_frozen BZ.out 5; have hf6 := blk_frozen BZ.out 6; have hf7 := blk_frozen BZ.out 7)
    | (go_at_call 52; refine (hgr _).mono ?_; rintro e w5 ⟨rfl, hb⟩; have HB5 := Aside0.mk (below_step (Hb HB4.out) hb); have BG := Aside0.mk (blk_below (g := gb5) (o := .cells #[.int .u16 a, .int .u16 b, .int .u16 c, .int .u16 d, .int .u16 e, .int .u16 f, .int .u16 g, .int .u16 h] 68 (0, 0)) (by refine blk_put (cs := #[.int .u16 a, .int .u16 b, .int .u16 c, .int .u16 d, .int .u16 e, .int .u16 f, .int .u16 g, .int .u16 0]) ?_ 7 _ rfl; refine blk_put (cs := #[.int .u16 a, .int .u16 b, .int .u16 c, .int .u16 d, .int .u16 e, .int .u16 f, .int .u16 0, .int .u16 0]) ?_ 6 _ rfl; refine blk_put (cs := #[.int .u16 a, .int .u16 b, .int .u16 c, .int .u16 d, .int .u16 e, .int .u16 0, .int .u16 0, .int .u16 0]) ?_ 5 _ rfl; refine blk_put (cs := #[.int .u16 a, .int .u16 b, .int .u16 c, .int .u16 d, .int .u16 0, .int .u16 0, .int .u16 0, .int .u16 0]) ?_ 4 _ rfl; refine blk_put (cs := #[.int .u16 a, .int .u16 b, .int .u16 c, .int .u16 0, .int .u16 0, .int .u16 0, .int .u16 0, .int .u16 0]) ?_ 3 _ rfl; refine blk_put (cs := #[.int .u16 a, .int .u16 b, .int .u16 0, .int .u16 0, .int .u16 0, .int .u16 0, .int .u16 0, .int .u16 0]) ?_ 2 _ rfl; refine blk_put (cs := #[.int .u16 a, .int .u16 0, .int .u16 0, .int .u16 0, .int .u16 0, .int .u16 0, .int .u16 0, .int .u16 0]) ?_ 1 _ rfl; refine blk_put (cs := #[.int .u16 0, .int .u16 0, .int .u16 0, .int .u16 0, .int .u16 0, .int .u16 0, .int .u16 0, .int .u16 0]) ?_ 0 _ rfl; exact BZ.out) hb); clear hb))
  go_region_with (first
    | (go_at_call_of 53 F; refine (texts_cut k gb5 F F 8 [a, b, c, d, e, f, g, h] x _ (St BG.out) rfl ⟨by omega, rfl, rfl⟩ (Glob_below HG.out (Hb HB5.out)) HX.out).mono ?_; rintro e w6 ⟨rfl, hb⟩; have HB6 := Aside0.mk (below_step (Hb HB5.out) hb); have BG6 := Aside0.mk (blk_below (g := gb5) (o := .cells #[.int .u16 a, .int .u16 b, .int .u16 c, .int .u16 d, .int .u16 e, .int .u16 f, .int .u16 g, .int .u16 h] 68 (0, 0)) (St BG.out) hb); clear hb)
    | (go_at_call 53; refine (texts_cut2 k gb5 T T (8 - T) (8 - T) [a, b, c, d, e, f, g, h] y _ (St BG6.out) rfl ⟨by omega, by omega, by omega, by omega⟩ (Glob_below HG.out (Hb HB6.out)) HY.out).mono ?_; rintro e w7 ⟨rfl, hb⟩; have HB7 := Aside0.mk (below_step (Hb HB6.out) hb); clear hb))
  go_wp2
  go_ret
  exact ⟨rfl, HB7.out⟩

set_option maxHeartbeats 8000000 in
set_option maxRecDepth 100000 in
theorem print6_all (hi lo : Nat) (h1 : hi < 18446744073709551616) (h2 : lo < 18446744073709551616) (w : World) (hG : Glob w) (a b c d e f g h : Nat) (hq : grp hi lo = [a, b, c, d, e, f, g, h]) (F : Nat) (hgap : gapL [a, b, c, d, e, f, g, h] = (F, 8)) (x : ByteArray) (k : Nat)
    (y : ByteArray) (hxs : x.size ≤ 1000) (hys : y.size ≤ 1000) (hF : F ≤ 8) (hx : addr_texts.f k (([a, b, c, d, e, f, g, h].map fun (n : Nat) => (n : Int)).take F) = some x) (hy : addr_texts.f k (([a, b, c, d, e, f, g, h].map fun (n : Nat) => (n : Int)).drop 8) = some y) :
    Calls Tryd.prog 38 #[.agg #[.bool true, .int .u64 hi, .int .u64 lo]] w fun ee w' => ee = .returned (.string ((x ++ (⟨#[58, 58]⟩ : ByteArray)) ++ y)) ∧ Below w.heap.size w w' := by
  have HG := Aside0.mk hG
  have hgr := fun w => gap_raw a b c d e f g h w
  rw [hgap] at hgr
  have HX := Aside0.mk hx
  clear hx
  have HY := Aside0.mk hy
  clear hy
  have hs1 : x.size + 2 ≤ 9223372036854775807 := by omega
  have hs2 := eq_true hs1
  have hs3 : (x ++ (⟨#[58, 58]⟩ : ByteArray)).size + y.size ≤ 9223372036854775807 := by rw [ByteArray.size_append]; show x.size + 2 + y.size ≤ _; omega
  have hs4 := eq_true hs3
  have hs5 : ¬ 9223372036854775807 < x.size + 2 := by omega
  have hs6 : ¬ 9223372036854775807 < x.size + 2 + y.size := by omega
  have hal : Tryd.prog.arrayLen 68 = 8 := by kernel_rfl
  have hF8 : (F : Int) ≤ 8 := by omega
  have hF9 : (F : Int) ≤ ((Tryd.prog.arrayLen 68 : Nat) : Int) := by rw [hal]; omega
  clear hG
  have HB := Aside0.mk (Below.refl w.heap.size w)
  have hv : addr_Valid.f true hi lo = some true := by unfold addr_Valid.f; rw [if_pos rfl]
  have HV := Aside0.mk hv
  have hs : ∀ w, Calls Tryd.prog 51 #[.agg #[.bool true, .int .u64 hi, .int .u64 lo]] w fun e' w' => e' = .returned (.agg #[.int .u16 a, .int .u16 b, .int .u16 c, .int .u16 d, .int .u16 e, .int .u16 f, .int .u16 g, .int .u16 h]) ∧ Below w.heap.size w w' := by
    intro w
    have := split_calls true hi lo h1 h2 w
    rw [hq] at this
    exact this
  go_enter Tryd.func38, Tryd.ntmps38
  go_wp2_with (first
    | ((with_reducible refine gate_dst (N := 1) rfl ?_); refine box_event ?hg (N := 1) ?hd (cs := #[.bool true, .int .u64 hi, .int .u64 lo]) (t := 24) ?hr ?_; (case hd => rfl); (case hg => rfl); (case hr => first | (go_simp; done) | (go_simp; rfl)); intro gb1 hg w1 hbox hb; have HB1 := Aside0.mk (below_step (Hb HB.out) hb); have BK := Aside0.mk hbox; clear hb hbox hg; have hz0 : w1.cell? ⟨gb1, 0, none⟩ = some (.bool true) := (blk_cell BK.out 0).trans rfl; have hz1 : w1.cell? ⟨gb1, 1, none⟩ = some (.int .u64 hi) := (blk_cell BK.out 1).trans rfl; have hz2 : w1.cell? ⟨gb1, 2, none⟩ = some (.int .u64 lo) := (blk_cell BK.out 2).trans rfl)
    | (go_at_call 29; refine (addr_Valid.calls true hi lo true _ HV.out).mono ?_; rintro e w2 ⟨rfl, hb⟩; have HB2 := Aside0.mk (below_step (Hb HB1.out) hb); have BK2 := Aside0.mk (blk_below (g := gb1) (o := .cells #[.bool true, .int .u64 hi, .int .u64 lo] 24 (0, 0)) (St BK.out) hb); have hy0 : w2.cell? ⟨gb1, 0, none⟩ = some (.bool true) := (blk_cell BK2.out 0).trans rfl; have hy1 : w2.cell? ⟨gb1, 1, none⟩ = some (.int .u64 hi) := (blk_cell BK2.out 1).trans rfl; have hy2 : w2.cell? ⟨gb1, 2, none⟩ = some (.int .u64 lo) := (blk_cell BK2.out 2).trans rfl; clear hb)
    | (go_at_call 51; refine (hs _).mono ?_; rintro e w3 ⟨rfl, hb⟩; have HB3 := Aside0.mk (below_step (Hb HB2.out) hb); clear hb)
    | ((with_reducible refine gate_dst (N := 5) rfl ?_); (try (refine gate_guard (by rfl) ?_; dsimp only)); refine box_event ?hg (N := 5) ?hd (cs := #[.int .u16 0, .int .u16 0, .int .u16 0, .int .u16 0, .int .u16 0, .int .u16 0, .int .u16 0, .int .u16 0]) (t := 68) ?hr ?_; (case hd => rfl); (case hg => rfl); (case hr => first | (go_simp; done) | (go_simp; rfl)); intro gb5 hg w4 hbox hb; have HB4 := Aside0.mk (below_step (Hb HB3.out) hb); have GE5 := Aside0.mk ((by rw [hg]; exact (below_size (Hb HB3.out)) : w.heap.size ≤ gb5)); have BZ := Aside0.mk hbox; clear hb hbox hg; have hc0 : w4.cell? ⟨gb5, 0, none⟩ = some (.int .u16 0) := (blk_cell BZ.out 0).trans rfl; have hc1 : w4.cell? ⟨gb5, 1, none⟩ = some (.int .u16 0) := (blk_cell BZ.out 1).trans rfl; have hc2 : w4.cell? ⟨gb5, 2, none⟩ = some (.int .u16 0) := (blk_cell BZ.out 2).trans rfl; have hc3 : w4.cell? ⟨gb5, 3, none⟩ = some (.int .u16 0) := (blk_cell BZ.out 3).trans rfl; have hc4 : w4.cell? ⟨gb5, 4, none⟩ = some (.int .u16 0) := (blk_cell BZ.out 4).trans rfl; have hc5 : w4.cell? ⟨gb5, 5, none⟩ = some (.int .u16 0) := (blk_cell BZ.out 5).trans rfl; have hc6 : w4.cell? ⟨gb5, 6, none⟩ = some (.int .u16 0) := (blk_cell BZ.out 6).trans rfl; have hc7 : w4.cell? ⟨gb5, 7, none⟩ = some (.int .u16 0) := (blk_cell BZ.out 7).trans rfl; have hf0 := blk_frozen BZ.out 0; have hf1 := blk_frozen BZ.out 1; have hf2 := blk_frozen BZ.out 2; have hf3 := blk_frozen BZ.out 3; have hf4 := blk_frozen BZ.out 4; have hf5 := blk_frozen BZ.out 5; have hf6 := blk_frozen BZ.out 6; have hf7 := blk_frozen BZ.out 7)
    | (go_at_call 52; refine (hgr _).mono ?_; rintro e w5 ⟨rfl, hb⟩; have HB5 := Aside0.mk (below_step (Hb HB4.out) hb); have BG := Aside0.mk (blk_below (g := gb5) (o := .cells #[.int .u16 a, .int .u16 b, .int .u16 c, .int .u16 d, .int .u16 e, .int .u16 f, .int .u16 g, .int .u16 h] 68 (0, 0)) (by refine blk_put (cs := #[.int .u16 a, .int .u16 b, .int .u16 c, .int .u16 d, .int .u16 e, .int .u16 f, .int .u16 g, .int .u16 0]) ?_ 7 _ rfl; refine blk_put (cs := #[.int .u16 a, .int .u16 b, .int .u16 c, .int .u16 d, .int .u16 e, .int .u16 f, .int .u16 0, .int .u16 0]) ?_ 6 _ rfl; refine blk_put (cs := #[.int .u16 a, .int .u16 b, .int .u16 c, .int .u16 d, .int .u16 e, .int .u16 0, .int .u16 0, .int .u16 0]) ?_ 5 _ rfl; refine blk_put (cs := #[.int .u16 a, .int .u16 b, .int .u16 c, .int .u16 d, .int .u16 0, .int .u16 0, .int .u16 0, .int .u16 0]) ?_ 4 _ rfl; refine blk_put (cs := #[.int .u16 a, .int .u16 b, .int .u16 c, .int .u16 0, .int .u16 0, .int .u16 0, .int .u16 0, .int .u16 0]) ?_ 3 _ rfl; refine blk_put (cs := #[.int .u16 a, .int .u16 b, .int .u16 0, .int .u16 0, .int .u16 0, .int .u16 0, .int .u16 0, .int .u16 0]) ?_ 2 _ rfl; refine blk_put (cs := #[.int .u16 a, .int .u16 0, .int .u16 0, .int .u16 0, .int .u16 0, .int .u16 0, .int .u16 0, .int .u16 0]) ?_ 1 _ rfl; refine blk_put (cs := #[.int .u16 0, .int .u16 0, .int .u16 0, .int .u16 0, .int .u16 0, .int .u16 0, .int .u16 0, .int .u16 0]) ?_ 0 _ rfl; exact BZ.out) hb); clear hb))
  go_region_with (first
    | (go_at_call_of 53 F; refine (texts_cut k gb5 F F 8 [a, b, c, d, e, f, g, h] x _ (St BG.out) rfl ⟨by omega, rfl, rfl⟩ (Glob_below HG.out (Hb HB5.out)) HX.out).mono ?_; rintro e w6 ⟨rfl, hb⟩; have HB6 := Aside0.mk (below_step (Hb HB5.out) hb); have BG6 := Aside0.mk (blk_below (g := gb5) (o := .cells #[.int .u16 a, .int .u16 b, .int .u16 c, .int .u16 d, .int .u16 e, .int .u16 f, .int .u16 g, .int .u16 h] 68 (0, 0)) (St BG.out) hb); clear hb)
    | (go_at_call 53; refine (texts_cut2 k gb5 8 0 0 0 [a, b, c, d, e, f, g, h] y _ (St BG6.out) rfl ⟨by omega, by omega, by omega, by omega⟩ (Glob_below HG.out (Hb HB6.out)) HY.out).mono ?_; rintro e w7 ⟨rfl, hb⟩; have HB7 := Aside0.mk (below_step (Hb HB6.out) hb); clear hb))
  go_wp2
  go_ret
  exact ⟨rfl, HB7.out⟩
end Go.Proofs.YtmhjgjdiifcdlaaDoor.P
