/- addr.six: groups with colons between. Condition: the world holds the library's tables (Glob). -/
import Derived.Test.YtmhjgjdiifcdlaaDoorTell
import Derived.Test.YtmhjgjdiifcdlaaDoorPAddrrow
import Derived.Laws.CopyOwn
set_option linter.unusedVariables false
namespace Go.Proofs.YtmhjgjdiifcdlaaDoor.P
open Go.RowKit Go.Proofs.YtmhjgjdiifcdlaaDoorW.PrintWords Go.Proofs.YtmhjgjdiifcdlaaDoorW.PrintLast Go.Proofs.YtmhjgjdiifcdlaaDoorW.PrintMore Go.Proofs.YtmhjgjdiifcdlaaDoor.Txt Go.Proofs.YtmhjgjdiifcdlaaDoor.Nat_ Go.Proofs.YtmhjgjdiifcdlaaDoor.Pure1

/-! ### row -/
def rowV (s : List UInt8) : List Int × Bool := match rowL s with
  | some g => (g.map fun (n : Nat) => (n : Int), true)
  | none => ([], false)
theorem number16 (w : ByteArray) : addr_number.f w 16 4 = some (match grp16 w.data.toList with | some n => ((n : Int), true) | none => (0, false)) := by
  have hs : w.data.toList.length = w.size := by rw [Lib.size_eq]
  unfold addr_number.f grp16
  rw [hs, if_pos (by decide)]
  by_cases h0 : w.size = 0
  · rw [if_pos h0, if_pos (.inl h0)]
  · rw [if_neg h0]
    by_cases h4 : (w.size : Int) > 4
    · rw [if_pos h4, if_pos (.inr (by omega))]
    · rw [if_neg h4, if_neg (by decide), if_pos rfl, if_pos (by decide), if_neg (by omega)]
      cases hexN 0 w.data.toList <;> rfl
theorem row_l0 (ws : List ByteArray) (hn : ws.length ≤ 4294967296) : ∀ (rest pre : List ByteArray) (acc : List Int) (k : Nat), ws = pre ++ rest → acc.length = pre.length → rest.length < k →
    addr_row.l0 k acc ws (ws.length : Int) (pre.length : Int) = some (match grps (rest.map (·.data.toList)) with | some g => (acc ++ g.map fun (n : Nat) => (n : Int), true) | none => ([], false))
  | [], pre, acc, k, e, ha, hk => by
    obtain ⟨k, rfl⟩ : ∃ m, k = m + 1 := ⟨k - 1, by omega⟩
    rw [List.append_nil] at e
    subst e
    unfold addr_row.l0
    rw [if_neg (by omega)]
    simp [grps]
  | x :: rest, pre, acc, k, e, ha, hk => by
    obtain ⟨k, rfl⟩ : ∃ m, k = m + 1 := ⟨k - 1, by simp at hk; omega⟩
    have hlen : ws.length = pre.length + (rest.length + 1) := by rw [e]; simp
    have hr : rdOf ByteArray.empty ws (pre.length : Int) = x := by
      show ws.getD (Int.toNat (pre.length : Int)) _ = _
      rw [Int.toNat_natCast, e]
      simp [List.getD_eq_getElem?_getD]
    unfold addr_row.l0
    rw [if_pos (by omega), if_pos (by omega), if_pos (by omega), hr, number16 x]
    simp only [Option.bind_some, List.map_cons, grps]
    cases hg : grp16 x.data.toList with
    | none => rfl
    | some n =>
      have hlt := grp16_lt hg
      have e1 : IntKind.u16.wrap (n : Int) = (n : Int) := by rw [IntKind.wrap_u16]; omega
      simp only [if_true]
      rw [if_pos (by omega), e1, w64 (by omega) (by omega)]
      have ih := row_l0 ws hn rest (pre ++ [x]) (acc ++ [(n : Int)]) k (by rw [e]; simp) (by simp [ha]) (by simp at hk ⊢; omega)
      rw [List.length_append, List.length_singleton] at ih
      rw [show ((pre.length : Int) + 1) = ((pre.length + 1 : Nat) : Int) from by omega, ih]
      cases grps (rest.map (·.data.toList)) <;> simp
theorem row_f (s : ByteArray) (hs : s.size < 4294967281) : addr_row.f (s.size + 2) s = some (rowV s.data.toList) := by
  have hs' : s.data.toList.length = s.size := by rw [Lib.size_eq]
  unfold addr_row.f rowV rowL
  rw [ByteArray.toList_eq]
  by_cases h0 : s.data.toList = []
  · rw [if_pos h0, if_pos h0]; rfl
  · rw [if_neg h0, if_neg h0]
    have e : strings_Split.f s ⟨#[58]⟩ = some (Lib.splitB ⟨#[58]⟩ 0 (Lib.countB s ⟨#[58]⟩) s) := by
      unfold strings_Split.f
      rw [if_pos ⟨hs, by decide⟩]
    have hl := split_len s ⟨#[58]⟩ (by decide)
    have hc := Lib.countB_le ⟨#[58]⟩ (by decide) s.size s (Nat.le_refl _)
    rw [e, Option.bind_some]
    have h := row_l0 (Lib.splitB ⟨#[58]⟩ 0 (Lib.countB s ⟨#[58]⟩) s) (by omega) _ [] [] (s.size + 2) rfl rfl (by omega)
    rw [List.length_nil] at h
    refine h.trans ?_
    rw [splitB_one]
    cases grps (splitL 58 s.data.toList) <;> rfl

/-! ### the walk -/
theorem C_cells {w : World} {A : Option Addr} {n : Nat} {X : List Int} (h : Kd.C (Kd.int .u16) w A n X) : 0 < (X.map (Value.int .u16)).length → ∃ ad, A = some ad ∧ ∀ j v, (X.map (Value.int .u16))[j]? = some v → w.cell? (ad.add j) = some v := by
  intro hp
  have hl := Kd.C_len h
  rw [List.length_map] at hp
  obtain ⟨ad, e, _⟩ := Kd.at_int h 0 (by omega) (by omega)
  refine ⟨ad, e, fun j v hj => ?_⟩
  have hlt : j < X.length := by
    have := (List.getElem?_eq_some_iff.1 hj).1
    rwa [List.length_map] at this
  obtain ⟨ad', e', hc⟩ := Kd.at_int h (j : Int) (by omega) (by omega)
  rw [e] at e'
  cases e'
  rw [Int.toNat_natCast] at hc
  rw [hc, ← hj]
  simp [rd, List.getD_eq_getElem?_getD, List.getElem?_eq_getElem hlt]
theorem one_cells (X : List Int) : ∀ v ∈ X.map (Value.int .u16), v.oneCell' = true := by
  intro v hv
  obtain ⟨n, _, rfl⟩ := List.mem_map.1 hv
  rfl
theorem splice_eq (X Y L : List Int) (h : X.length + Y.length ≤ 8) (hL : X ++ (List.replicate (8 - X.length - Y.length) 0 ++ Y) = L) :
    splice (splice (List.replicate 8 (Value.int .u16 0)) 0 (X.map (Value.int .u16))) (8 - Y.length) (Y.map (Value.int .u16)) = L.map (Value.int .u16) := by
  have e1 : splice (List.replicate 8 (Value.int .u16 0)) 0 (X.map (Value.int .u16)) = X.map (Value.int .u16) ++ List.replicate (8 - X.length) (Value.int .u16 0) := by
    unfold splice
    simp only [Nat.zero_add, List.take_zero, List.nil_append, List.length_map, List.drop_replicate]
  rw [e1, ← hL]
  unfold splice
  rw [List.take_append, List.drop_eq_nil_of_le (by simp; omega), List.take_of_length_le (by simp; omega), List.take_replicate]
  simp only [List.map_append, List.map_replicate, List.append_nil, List.length_map, List.append_assoc]
  rw [show min (8 - Y.length - X.length) (8 - X.length) = 8 - X.length - Y.length from by omega]
abbrev zero8 : List Value := [.int .u16 0, .int .u16 0, .int .u16 0, .int .u16 0, .int .u16 0, .int .u16 0, .int .u16 0, .int .u16 0]
set_option maxHeartbeats 8000000 in
set_option maxRecDepth 100000 in
theorem six_no (s c1 c2 : ByteArray) (short one two : Bool) (X Y : List Int) (k1 k2 : Nat) (w : World) (hG : Glob w) (hc : strings_Cut.f s ⟨#[58, 58]⟩ = some (c1, c2, short)) (h1 : addr_row.f k1 c1 = some (X, one)) (h2 : addr_row.f k2 c2 = some (Y, two))
    (hX : X.length ≤ 4294967296) (hY : Y.length ≤ 4294967296)
    (hno : one = false ∨ two = false ∨ (short = true ∧ 7 < X.length + Y.length) ∨ (short = false ∧ X.length + Y.length ≠ 8)) :
    Calls Tryd.prog 57 #[.string s] w fun e w' => e = .returned (.tuple #[.agg #[.bool false, .int .u64 0, .int .u64 0], .bool false]) ∧ Below w.heap.size w w' := by
  have HG := Aside0.mk hG
  have HC := Aside0.mk hc
  have H1 := Aside0.mk h1
  have H2 := Aside0.mk h2
  have HN := Aside0.mk hno
  clear hG hc h1 h2 hno
  have HB := Aside0.mk (Below.refl w.heap.size w)
  have key : one = false ∨ (one = true ∧ two = false) ∨ (one = true ∧ two = true ∧ short = true ∧ (7 : Int) < (X.length : Int) + (Y.length : Int)) ∨ (one = true ∧ two = true ∧ short = false ∧ (((X.length : Int) + (Y.length : Int)) == 8) = false) := by
    have hno := HN.out
    cases one with
    | false => exact .inl rfl
    | true => cases two with
      | false => exact .inr (.inl ⟨rfl, rfl⟩)
      | true => cases short with
        | true => refine .inr (.inr (.inl ⟨rfl, rfl, rfl, ?_⟩)); simp at hno; omega
        | false => refine .inr (.inr (.inr ⟨rfl, rfl, rfl, ?_⟩)); simp at hno; rw [beq_eq_false_iff_ne]; omega
  clear HN
  rcases key with rfl | ⟨rfl, rfl⟩ | ⟨rfl, rfl, rfl, hgt⟩ | ⟨rfl, rfl, rfl, hne⟩
  all_goals
    go_enter Tryd.func57, Tryd.ntmps57
    go_wp2_with (first
      | ((with_reducible refine gate_dst (N := 2) rfl ?_); (try (refine gate_guard (by rfl) ?_; dsimp only)); refine box_event ?hg (N := 2) ?hd (cs := #[.bool false, .int .u64 0, .int .u64 0]) (t := 24) ?hr ?_; (case hd => rfl); (case hg => rfl); (case hr => first | (go_simp; done) | (go_simp; rfl)); intro gb2 hg w1 hbox hb; have HB1 := Aside0.mk (below_step (Hb HB.out) hb); have GE2 := Aside0.mk ((by rw [hg]; exact (below_size (Hb HB.out)) : w.heap.size ≤ gb2)); have BR := Aside0.mk hbox; clear hb hbox hg)
      | (go_at_call 40; (refine (strings_Cut.calls s ⟨#[58, 58]⟩ c1 c2 _ _ (Glob_below HG.out (Hb HB1.out)) HC.out).mono ?_; rintro e w2 ⟨rfl, hb⟩; have HB2 := Aside0.mk (below_step (Hb HB1.out) hb); have BR2 := Aside0.mk (blk_below (g := gb2) (o := .cells #[.bool false, .int .u64 0, .int .u64 0] 24 (0, 0)) (St BR.out) hb); clear hb))
      | (go_at_call_of 67 c1; (refine (addr_row.calls k1 c1 X _ _ (Glob_below HG.out (Hb HB2.out)) H1.out).mono ?_; rintro e w3 ⟨v1, rfl, hr, hb⟩; obtain ⟨A1, n1, e1, hle1, hC1⟩ := Kd.R_reads hr; subst e1; have RX := Aside0.mk hC1; have HB3 := Aside0.mk (below_step (Hb HB2.out) hb); have BR3 := Aside0.mk (blk_below (g := gb2) (o := .cells #[.bool false, .int .u64 0, .int .u64 0] 24 (0, 0)) (St BR2.out) hb); clear hb hr hC1))
      | (go_at_call_of 67 c2; (refine (addr_row.calls k2 c2 Y _ _ (Glob_below HG.out (Hb HB3.out)) H2.out).mono ?_; rintro e w4 ⟨v2, rfl, hr, hb⟩; obtain ⟨A2, n2, e2, hle2, hC2⟩ := Kd.R_reads hr; subst e2; have RY := Aside0.mk hC2; have RX4 := Aside0.mk (Kd.C_below RX.out hb); have HB4 := Aside0.mk (below_step (Hb HB3.out) hb); have BR4 := Aside0.mk (blk_below (g := gb2) (o := .cells #[.bool false, .int .u64 0, .int .u64 0] 24 (0, 0)) (St BR3.out) hb); clear hb hr hC2; have hz0 : w4.cell? ⟨gb2, 0, none⟩ = some (.bool false) := (blk_cell BR4.out 0).trans rfl; have hz1 : w4.cell? ⟨gb2, 1, none⟩ = some (.int .u64 0) := (blk_cell BR4.out 1).trans rfl; have hz2 : w4.cell? ⟨gb2, 2, none⟩ = some (.int .u64 0) := (blk_cell BR4.out 2).trans rfl; have hf0 := blk_frozen BR4.out 0; have hf1 := blk_frozen BR4.out 1; have hf2 := blk_frozen BR4.out 2)))
    all_goals (refine bodyPost_ret (results_ct rfl _ _ gb2 24 #[.bool false, .int .u64 0, .int .u64 0] (0, 0) _ rfl (by refine St ?_; refine blk_put (cs := #[.bool false, .int .u64 0, .int .u64 0]) ?_ 2 _ rfl; refine St ?_; refine blk_put (cs := #[.bool false, .int .u64 0, .int .u64 0]) ?_ 1 _ rfl; refine St ?_; refine blk_put (cs := #[.bool false, .int .u64 0, .int .u64 0]) ?_ 0 _ rfl; refine St ?_; exact BR4.out) Tryd.underlying24 rfl (by kernel_rfl)) rfl ?_)
    all_goals exact ⟨rfl, Hb HB4.out⟩

set_option maxHeartbeats 8000000 in
set_option maxRecDepth 100000 in
theorem six_yes (s c1 c2 : ByteArray) (short : Bool) (X Y : List Int) (k1 k2 : Nat) (a b c d e f g h : Nat) (J1 J2 : Int) (hj : ∀ w, Calls Tryd.prog 68 #[.agg #[.int .u16 a, .int .u16 b, .int .u16 c, .int .u16 d, .int .u16 e, .int .u16 f, .int .u16 g, .int .u16 h]] w fun ee w' => ee = .returned (.agg #[.bool true, .int .u64 J1, .int .u64 J2]) ∧ Below w.heap.size w w') (w : World) (hG : Glob w) (hc : strings_Cut.f s ⟨#[58, 58]⟩ = some (c1, c2, short)) (h1 : addr_row.f k1 c1 = some (X, true)) (h2 : addr_row.f k2 c2 = some (Y, true))
    (hn : X.length + Y.length ≤ 8) (hyes : (short = true ∧ X.length + Y.length ≤ 7) ∨ (short = false ∧ X.length + Y.length = 8))
    (hL : X ++ (List.replicate (8 - X.length - Y.length) 0 ++ Y) = [(a : Int), b, c, d, e, f, g, h]) :
    Calls Tryd.prog 57 #[.string s] w fun ee w' => ee = .returned (.tuple #[.agg #[.bool true, .int .u64 J1, .int .u64 J2], .bool true]) ∧ Below w.heap.size w w' := by
  have HG := Aside0.mk hG
  have HC := Aside0.mk hc
  have H1 := Aside0.mk h1
  have H2 := Aside0.mk h2
  have HL := Aside0.mk hL
  have HJ := Aside0.mk hj
  clear hj
  clear hG hc h1 h2 hL
  have HB := Aside0.mk (Below.refl w.heap.size w)
  have key : (short = true ∧ ¬ (7 : Int) < (X.length : Int) + (Y.length : Int)) ∨ (short = false ∧ (((X.length : Int) + (Y.length : Int)) == 8) = true) := by
    rcases hyes with ⟨h1, h2⟩ | ⟨h1, h2⟩
    · exact .inl ⟨h1, by omega⟩
    · exact .inr ⟨h1, by rw [beq_iff_eq]; omega⟩
  clear hyes
  have hal : Tryd.prog.arrayLen 68 = 8 := by kernel_rfl
  have hy1 : (0 : Int) ≤ 8 - (Y.length : Int) := by omega
  have hy2 : (8 : Int) - (Y.length : Int) ≤ ((Tryd.prog.arrayLen 68 : Nat) : Int) := by rw [hal]; omega
  have hy3 : (Y.length : Int) ≤ 8 := by omega
  have hy4 : (8 : Int) - (Y.length : Int) ≤ 8 := by omega
  have hX : X.length ≤ 8 := by omega
  have hY : Y.length ≤ 8 := by omega
  rcases key with ⟨rfl, hgt⟩ | ⟨rfl, hne⟩
  all_goals
    go_enter Tryd.func57, Tryd.ntmps57
    go_wp2_with (first
      | ((with_reducible refine gate_dst (N := 2) rfl ?_); (try (refine gate_guard (by rfl) ?_; dsimp only)); refine box_event ?hg (N := 2) ?hd (cs := #[.bool false, .int .u64 0, .int .u64 0]) (t := 24) ?hr ?_; (case hd => rfl); (case hg => rfl); (case hr => first | (go_simp; done) | (go_simp; rfl)); intro gb2 hg w1 hbox hb; have HB1 := Aside0.mk (below_step (Hb HB.out) hb); have GE2 := Aside0.mk ((by rw [hg]; exact (below_size (Hb HB.out)) : w.heap.size ≤ gb2)); have BR := Aside0.mk hbox; clear hb hbox hg)
      | (go_at_call 40; (refine (strings_Cut.calls s ⟨#[58, 58]⟩ c1 c2 _ _ (Glob_below HG.out (Hb HB1.out)) HC.out).mono ?_; rintro e w2 ⟨rfl, hb⟩; have HB2 := Aside0.mk (below_step (Hb HB1.out) hb); have BR2 := Aside0.mk (blk_below (g := gb2) (o := .cells #[.bool false, .int .u64 0, .int .u64 0] 24 (0, 0)) (St BR.out) hb); clear hb))
      | (go_at_call_of 67 c1; (refine (addr_row.calls k1 c1 X _ _ (Glob_below HG.out (Hb HB2.out)) H1.out).mono ?_; rintro e w3 ⟨v1, rfl, hr, hb⟩; obtain ⟨A1, n1, e1, hle1, hC1⟩ := Kd.R_reads hr; subst e1; have RX := Aside0.mk hC1; have HB3 := Aside0.mk (below_step (Hb HB2.out) hb); have BR3 := Aside0.mk (blk_below (g := gb2) (o := .cells #[.bool false, .int .u64 0, .int .u64 0] 24 (0, 0)) (St BR2.out) hb); clear hb hr hC1))
      | (go_at_call_of 67 c2; (refine (addr_row.calls k2 c2 Y _ _ (Glob_below HG.out (Hb HB3.out)) H2.out).mono ?_; rintro e w4 ⟨v2, rfl, hr, hb⟩; obtain ⟨A2, n2, e2, hle2, hC2⟩ := Kd.R_reads hr; subst e2; have RY := Aside0.mk hC2; have RX4 := Aside0.mk (Kd.C_below RX.out hb); have HB4 := Aside0.mk (below_step (Hb HB3.out) hb); have BR4 := Aside0.mk (blk_below (g := gb2) (o := .cells #[.bool false, .int .u64 0, .int .u64 0] 24 (0, 0)) (St BR3.out) hb); clear hb hr hC2; have hz0 : w4.cell? ⟨gb2, 0, none⟩ = some (.bool false) := (blk_cell BR4.out 0).trans rfl; have hz1 : w4.cell? ⟨gb2, 1, none⟩ = some (.int .u64 0) := (blk_cell BR4.out 1).trans rfl; have hz2 : w4.cell? ⟨gb2, 2, none⟩ = some (.int .u64 0) := (blk_cell BR4.out 2).trans rfl; have hf0 := blk_frozen BR4.out 0; have hf1 := blk_frozen BR4.out 1; have hf2 := blk_frozen BR4.out 2))
      | ((with_reducible refine gate_dst (N := 12) rfl ?_); (try (refine gate_guard (by rfl) ?_; dsimp only)); refine box_event ?hg (N := 12) ?hd (cs := zero8.toArray) (t := 68) ?hr ?_; (case hd => rfl); (case hg => rfl); (case hr => first | (go_simp; done) | (go_simp; rfl)); intro gb12 hg w5 hbox hb; have HW5 := Aside0.mk hb; have HB5 := Aside0.mk (below_step (Hb HB4.out) hb); have GE12 := Aside0.mk ((by rw [hg]; exact Nat.le_refl _ : w4.heap.size ≤ gb12)); have BG := Aside0.mk hbox; have RX5 := Aside0.mk (Kd.C_below RX4.out hb); have RY5 := Aside0.mk (Kd.C_below RY.out hb); clear hb hbox hg)
      | ((with_reducible refine gate_dst (N := 58) rfl ?_); (refine wpList_copy_splice rfl (.tmp 56) (.tmp 57) _ _ rfl 66 Tryd.underlying73 (by kernel_rfl) _ _ 8 8 X.length n1 rfl rfl gb12 0 zero8 68 BG.out (X.map (Value.int .u16)) (by rw [List.length_map]; show _ = min _ _; omega) (fun hp => ⟨rfl, C_cells RX5.out hp⟩) (by rw [List.length_map]; show 0 + X.length ≤ 8; omega) (one_cells X) w4.heap.size w4 (Hb HW5.out) GE12.out ?_; intro w6 HG6 hB6; have HW6 := Aside0.mk hB6; have HS6 := Aside0.mk HG6.out; have HB6 := Aside0.mk (below_step (Hb HB4.out) hB6); have RY6 := Aside0.mk (Kd.C_below RY.out hB6); clear HG6 hB6))
      | ((with_reducible refine gate_dst (N := 64) rfl ?_); (refine wpList_copy_splice rfl (.tmp 62) (.tmp 63) _ _ rfl 66 Tryd.underlying73 (by kernel_rfl) _ _ _ _ Y.length n2 rfl rfl gb12 (8 - Y.length) (splice zero8 0 (X.map (Value.int .u16))) 68 HS6.out (Y.map (Value.int .u16)) (by rw [List.length_map]; show _ = min _ _; omega) (fun hp => ⟨by rw [List.length_map] at hp; rw [if_neg (by omega)], C_cells RY6.out hp⟩) (by rw [List.length_map, length_splice _ _ _ (by rw [List.length_map]; show 0 + X.length ≤ 8; omega)]; show 8 - Y.length + Y.length ≤ 8; omega) (one_cells Y) w4.heap.size w4 HW6.out GE12.out ?_; intro w7 HG7 hB7; generalize (if 8 = 8 - Y.length then (⟨gb12, 0, none⟩ : Addr) else ⟨gb12, 8 - Y.length, none⟩) = AD; generalize 8 - (8 - Y.length) = NL; have BG7 : Aside0 (w7.heap[gb12]? = some (.cells #[.int .u16 a, .int .u16 b, .int .u16 c, .int .u16 d, .int .u16 e, .int .u16 f, .int .u16 g, .int .u16 h] 68 (0, 0))) := ⟨by have h7 := HG7.out; have e7 : splice (splice zero8 0 (X.map (Value.int .u16))) (8 - Y.length) (Y.map (Value.int .u16)) = _ := splice_eq X Y _ hn HL.out; rw [e7] at h7; exact h7⟩; have HB7 := Aside0.mk (below_step (Hb HB4.out) hB7); have BR7 := Aside0.mk (blk_below (g := gb2) (o := .cells #[.bool false, .int .u64 0, .int .u64 0] 24 (0, 0)) (St BR4.out) hB7); clear HG7 hB7; have hc0 : w7.cell? ⟨gb12, 0, none⟩ = some (.int .u16 a) := (blk_cell BG7.out 0).trans rfl; have hc1 : w7.cell? ⟨gb12, 1, none⟩ = some (.int .u16 b) := (blk_cell BG7.out 1).trans rfl; have hc2 : w7.cell? ⟨gb12, 2, none⟩ = some (.int .u16 c) := (blk_cell BG7.out 2).trans rfl; have hc3 : w7.cell? ⟨gb12, 3, none⟩ = some (.int .u16 d) := (blk_cell BG7.out 3).trans rfl; have hc4 : w7.cell? ⟨gb12, 4, none⟩ = some (.int .u16 e) := (blk_cell BG7.out 4).trans rfl; have hc5 : w7.cell? ⟨gb12, 5, none⟩ = some (.int .u16 f) := (blk_cell BG7.out 5).trans rfl; have hc6 : w7.cell? ⟨gb12, 6, none⟩ = some (.int .u16 g) := (blk_cell BG7.out 6).trans rfl; have hc7 : w7.cell? ⟨gb12, 7, none⟩ = some (.int .u16 h) := (blk_cell BG7.out 7).trans rfl))
      | (go_at_call 68; (refine (HJ.out _).mono ?_; rintro ee w8 ⟨rfl, hb⟩; clear hc0 hc1 hc2 hc3 hc4 hc5 hc6 hc7 hal hy1 hy2 hy3 hy4 hX hY hn hz0 hz1 hz2 hf0 hf1 hf2; have HB8 := Aside0.mk (below_step (Hb HB7.out) hb); have BR8 := Aside0.mk (blk_below (g := gb2) (o := .cells #[.bool false, .int .u64 0, .int .u64 0] 24 (0, 0)) (St BR7.out) hb); clear hb; have hv0 : w8.cell? ⟨gb2, 0, none⟩ = some (.bool false) := (blk_cell BR8.out 0).trans rfl; have hv1 : w8.cell? ⟨gb2, 1, none⟩ = some (.int .u64 0) := (blk_cell BR8.out 1).trans rfl; have hv2 : w8.cell? ⟨gb2, 2, none⟩ = some (.int .u64 0) := (blk_cell BR8.out 2).trans rfl; have hg0 := blk_frozen BR8.out 0; have hg1 := blk_frozen BR8.out 1; have hg2 := blk_frozen BR8.out 2)))
    all_goals (refine bodyPost_ret (results_ct rfl _ _ gb2 24 #[.bool true, .int .u64 J1, .int .u64 J2] (0, 0) _ rfl (by refine St ?_; refine blk_put (cs := #[.bool true, .int .u64 J1, .int .u64 0]) ?_ 2 _ rfl; refine St ?_; refine blk_put (cs := #[.bool true, .int .u64 0, .int .u64 0]) ?_ 1 _ rfl; refine St ?_; refine blk_put (cs := #[.bool false, .int .u64 0, .int .u64 0]) ?_ 0 _ rfl; refine St ?_; exact BR8.out) Tryd.underlying24 rfl (by kernel_rfl)) rfl ?_)
    all_goals exact ⟨rfl, Hb HB8.out⟩

/-! ### the contract -/
def addr_six.f (a0 : ByteArray) : Option (Bool × Int × Int × Bool) :=
  if a0.size < 4294967281 then some (match sixL a0.data.toList with | some g => (true, (hi8 g : Int), (lo8 g : Int), true) | none => (false, 0, 0, false)) else none
theorem eight {g : List Nat} (h : g.length = 8) : ∃ a b c d e f i j, g = [a, b, c, d, e, f, i, j] := by
  match g, h with
  | [a, b, c, d, e, f, i, j], _ => exact ⟨a, b, c, d, e, f, i, j, rfl⟩
theorem cut_size (s sep : List UInt8) : (Lib.cut s sep).1.length ≤ s.length ∧ (Lib.cut s sep).2.1.length ≤ s.length := by
  unfold Lib.cut
  split
  · simp only [List.length_take, List.length_drop]; omega
  · simp
theorem grps_len : ∀ (l : List (List UInt8)) (g : List Nat), grps l = some g → g.length = l.length
  | [], g, h => by obtain rfl := Option.some.inj h; rfl
  | w :: r, g, h => by
    unfold grps at h
    cases hd : grp16 w with
    | none => rw [hd] at h; cases h
    | some m =>
      rw [hd] at h
      simp only at h
      cases hr : grps r with
      | none => rw [hr] at h; cases h
      | some t =>
        rw [hr] at h
        obtain rfl := Option.some.inj h
        simp [grps_len r t hr]
theorem splitL_len (c : UInt8) : ∀ l : List UInt8, (splitL c l).length ≤ l.length + 1
  | [] => by simp [splitL]
  | x :: r => by
    have ih := splitL_len c r
    unfold splitL
    split
    · simp; omega
    · split
      · simp
      · next h => rw [h] at ih; simp at ih ⊢; omega
theorem rowV_len (s : List UInt8) (h : s.length < 4294967281) : (rowV s).1.length ≤ 4294967296 := by
  unfold rowV
  cases hr : rowL s with
  | none => simp
  | some g =>
    simp only [List.length_map]
    unfold rowL at hr
    split at hr
    · obtain rfl := Option.some.inj hr; simp
    · have := grps_len _ _ hr
      have := splitL_len 58 s
      omega
theorem addr_six.calls (a0 : ByteArray) (r1 : Bool) (r2 r3 : Int) (r4 : Bool) (w : World) (hG : Glob w) (h : addr_six.f a0 = some (r1, r2, r3, r4)) :
    Calls Tryd.prog 57 #[.string a0] w fun e w' => e = .returned (.tuple #[.agg #[.bool r1, .int .u64 r2, .int .u64 r3], .bool r4]) ∧ Below w.heap.size w w' := by
  unfold addr_six.f at h
  by_cases hs : a0.size < 4294967281
  · rw [if_pos hs] at h
    have hs' : a0.data.toList.length = a0.size := by rw [Lib.size_eq]
    obtain ⟨z1, z2⟩ := cut_size a0.data.toList [58, 58]
    have hc : strings_Cut.f a0 ⟨#[58, 58]⟩ = some (ofL (Lib.cut a0.data.toList [58, 58]).1, ofL (Lib.cut a0.data.toList [58, 58]).2.1, (Lib.cut a0.data.toList [58, 58]).2.2) := by
      unfold strings_Cut.f
      rw [if_pos hs]
      rfl
    have q1 := row_f (ofL (Lib.cut a0.data.toList [58, 58]).1) (by rw [ofL_size]; omega)
    have q2 := row_f (ofL (Lib.cut a0.data.toList [58, 58]).2.1) (by rw [ofL_size]; omega)
    rw [ofL_list] at q1 q2
    have l1 := rowV_len (Lib.cut a0.data.toList [58, 58]).1 (by omega)
    have l2 := rowV_len (Lib.cut a0.data.toList [58, 58]).2.1 (by omega)
    have q1' : addr_row.f ((ofL (Lib.cut a0.data.toList [58, 58]).1).size + 2) (ofL (Lib.cut a0.data.toList [58, 58]).1) = some ((rowV (Lib.cut a0.data.toList [58, 58]).1).1, (rowV (Lib.cut a0.data.toList [58, 58]).1).2) := q1
    have q2' : addr_row.f ((ofL (Lib.cut a0.data.toList [58, 58]).2.1).size + 2) (ofL (Lib.cut a0.data.toList [58, 58]).2.1) = some ((rowV (Lib.cut a0.data.toList [58, 58]).2.1).1, (rowV (Lib.cut a0.data.toList [58, 58]).2.1).2) := q2
    cases hx : sixL a0.data.toList with
    | none =>
      rw [hx] at h
      simp only [Option.some.injEq, Prod.mk.injEq] at h
      obtain ⟨rfl, rfl, rfl, rfl⟩ := h
      refine six_no a0 _ _ _ _ _ _ _ _ _ w hG hc q1' q2' l1 l2 ?_
      unfold sixL at hx
      unfold rowV
      cases h1 : rowL (Lib.cut a0.data.toList [58, 58]).1 with
      | none => exact .inl rfl
      | some x =>
        rw [h1] at hx
        simp only at hx
        cases h2 : rowL (Lib.cut a0.data.toList [58, 58]).2.1 with
        | none => exact .inr (.inl rfl)
        | some y =>
          rw [h2] at hx
          simp only [sixJ] at hx
          cases hsh : (Lib.cut a0.data.toList [58, 58]).2.2 with
          | true =>
            rw [hsh, if_pos rfl] at hx
            split at hx
            · next h7 => exact .inr (.inr (.inl ⟨rfl, by simpa using h7⟩))
            · cases hx
          | false =>
            rw [hsh, if_neg (by decide)] at hx
            split at hx
            · next h7 => exact .inr (.inr (.inr ⟨rfl, by simpa using h7⟩))
            · cases hx
    | some g =>
      rw [hx] at h
      simp only [Option.some.injEq, Prod.mk.injEq] at h
      obtain ⟨rfl, rfl, rfl, rfl⟩ := h
      obtain ⟨hlen, hlt⟩ := sixL_lt hx
      obtain ⟨a, b, c, d, e, f, i, j, rfl⟩ := eight hlen
      unfold sixL at hx
      unfold rowV at q1' q2'
      cases h1 : rowL (Lib.cut a0.data.toList [58, 58]).1 with
      | none => rw [h1] at hx; cases hx
      | some x =>
        rw [h1] at hx q1'
        simp only at hx q1'
        cases h2 : rowL (Lib.cut a0.data.toList [58, 58]).2.1 with
        | none => rw [h2] at hx; cases hx
        | some y =>
          rw [h2] at hx q2'
          simp only [sixJ] at hx q2'
          have hb : ∀ z ∈ [a, b, c, d, e, f, i, j], z < 65536 := hlt
          simp only [List.mem_cons, List.not_mem_nil, or_false, forall_eq_or_imp, forall_eq] at hb
          obtain ⟨b0, b1, b2, b3, b4, b5, b6, b7⟩ := hb
          have eJ1 : ((hi8 [a, b, c, d, e, f, i, j] : Nat) : Int) = jn a b c d := (jn_eq a b c d b0 b1 b2 b3).symm
          have eJ2 : ((lo8 [a, b, c, d, e, f, i, j] : Nat) : Int) = jn e f i j := (jn_eq e f i j b4 b5 b6 b7).symm
          rw [eJ1, eJ2]
          have fin : x.length + y.length ≤ 8 → ((Lib.cut a0.data.toList [58, 58]).2.2 = true ∧ x.length + y.length ≤ 7 ∨ (Lib.cut a0.data.toList [58, 58]).2.2 = false ∧ x.length + y.length = 8) → x ++ (List.replicate (8 - x.length - y.length) 0 ++ y) = [a, b, c, d, e, f, i, j] → _ := fun n1 n2 n3 =>
            six_yes a0 _ _ _ _ _ _ _ a b c d e f i j _ _ (joined_raw a b c d e f i j) w hG hc q1' q2' (by simpa using n1) (by simpa using n2) (by
              have := congrArg (List.map fun (n : Nat) => (n : Int)) n3
              simpa using this)
          cases hsh : (Lib.cut a0.data.toList [58, 58]).2.2 with
          | true =>
            rw [hsh, if_pos rfl] at hx
            split at hx
            · cases hx
            · next h7 => exact fin (by omega) (.inl ⟨hsh, by omega⟩) (Option.some.inj hx)
          | false =>
            rw [hsh, if_neg (by decide)] at hx
            split at hx
            · cases hx
            · next h7 =>
              refine fin (by omega) (.inr ⟨hsh, by omega⟩) ?_
              have := Option.some.inj hx
              rw [show 8 - x.length - y.length = 0 from by omega]
              simpa using this
  · rw [if_neg hs] at h; cases h
end Go.Proofs.YtmhjgjdiifcdlaaDoor.P
