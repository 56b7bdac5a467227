/- addr.gap: the longest row of groups of 0. -/
import Derived.Test.YtmhjgjdiifcdlaaDoorGroups
import Derived.Test.YtmhjgjdiifcdlaaDoorTxt3
import Derived.ChangeKeysEq
set_option linter.unusedVariables false
namespace Go.Proofs.YtmhjgjdiifcdlaaDoor.P
open Go.RowKit Go.Proofs.YtmhjgjdiifcdlaaDoorW.PrintWords Go.Proofs.YtmhjgjdiifcdlaaDoor.Txt Go.Proofs.YtmhjgjdiifcdlaaDoor.Nat_

theorem zr_pos (g : List Nat) (k : Nat) (hk : k < g.length) (h : g.getD k 0 = 0) : zr (g.drop k) = zr (g.drop (k + 1)) + 1 := by
  rw [List.drop_eq_getElem_cons hk, zr, if_pos]
  rw [List.getD_eq_getElem?_getD, List.getElem?_eq_getElem hk] at h
  exact h
theorem zr_stop (g : List Nat) (k : Nat) (hk : k < g.length) (h : g.getD k 0 ≠ 0) : zr (g.drop k) = 0 := by
  rw [List.drop_eq_getElem_cons hk, zr, if_neg]
  rw [List.getD_eq_getElem?_getD, List.getElem?_eq_getElem hk] at h
  exact h

theorem gap_yes (G : List Nat) (i k f0 t0 : Nat) (hi : i < G.length) (hk : zr (G.drop i) + i = k) (h : t0 - f0 < k - i) : gapF i (G.drop i) (f0, t0) = gapF (i + 1) (G.drop (i + 1)) (i, k) := by
  rw [List.drop_eq_getElem_cons hi] at hk ⊢
  rw [gapF, if_pos (by simp only; omega), show i + zr (G[i] :: G.drop (i + 1)) = k from by omega]
theorem gap_no (G : List Nat) (i k f0 t0 : Nat) (hi : i < G.length) (hk : zr (G.drop i) + i = k) (h : ¬ t0 - f0 < k - i) : gapF i (G.drop i) (f0, t0) = gapF (i + 1) (G.drop (i + 1)) (f0, t0) := by
  rw [List.drop_eq_getElem_cons hi] at hk ⊢
  rw [gapF, if_neg (by simp only; omega)]
theorem items_step (P : Program) (w : World) (d : Nat) {e : TypeId} {k : IntKind} (he : P.underlying e = some (.int k)) (xs ys : Array Value) (i : Nat) (is : List Nat) (c : Nat) (x y : Int) (r : Bool)
    (hx : xs[i * c]? = some (.int k x)) (hy : ys[i * c]? = some (.int k y)) (h : (Op.eqItems (d + 1) e c xs ys is).run P w = .ok r w) :
    (Op.eqItems (d + 1) e c xs ys (i :: is)).run P w = .ok (x == y && r) w := by
  have px : (part e xs (i * c)).run P w = .ok (.int k x) w := by simp [part, isAgg, run_underlying he, hx]
  have py : (part e ys (i * c)).run P w = .ok (.int k y) w := by simp [part, isAgg, run_underlying he, hy]
  simp only [Op.eqItems, Sem.run_bind, px, py, Result.andThen_ok, run_equalIn_int w d e k k _ _ he]
  cases hxy : (x == y) with
  | true => simpa using h
  | false => simp
theorem eqG (a b c d e f g h : Int) (w : World) : (Op.equalIn 10000 68 (.agg #[.int .u16 a, .int .u16 b, .int .u16 c, .int .u16 d, .int .u16 e, .int .u16 f, .int .u16 g, .int .u16 h]) (.agg #[.int .u16 0, .int .u16 0, .int .u16 0, .int .u16 0, .int .u16 0, .int .u16 0, .int .u16 0, .int .u16 0])).run Tryd.prog w = .ok (a == 0 && (b == 0 && (c == 0 && (d == 0 && (e == 0 && (f == 0 && (g == 0 && (h == 0 && true)))))))) w := by
  rw [run_equalIn_array w 9999 (n := 8) (e := 66) _ _ (by kernel_rfl) (hi := (Option.eq_some_of_isSome (by kernel_rfl)))]
  have hc : Tryd.prog.cellsOf 66 = 1 := by kernel_rfl
  rw [hc, show List.range 8 = [0, 1, 2, 3, 4, 5, 6, 7] from rfl]
  refine items_step _ w 9998 Tryd.underlying66 _ _ 0 _ 1 a 0 _ rfl rfl ?_
  refine items_step _ w 9998 Tryd.underlying66 _ _ 1 _ 1 b 0 _ rfl rfl ?_
  refine items_step _ w 9998 Tryd.underlying66 _ _ 2 _ 1 c 0 _ rfl rfl ?_
  refine items_step _ w 9998 Tryd.underlying66 _ _ 3 _ 1 d 0 _ rfl rfl ?_
  refine items_step _ w 9998 Tryd.underlying66 _ _ 4 _ 1 e 0 _ rfl rfl ?_
  refine items_step _ w 9998 Tryd.underlying66 _ _ 5 _ 1 f 0 _ rfl rfl ?_
  refine items_step _ w 9998 Tryd.underlying66 _ _ 6 _ 1 g 0 _ rfl rfl ?_
  refine items_step _ w 9998 Tryd.underlying66 _ _ 7 _ 1 h 0 _ rfl rfl ?_
  simp [Op.eqItems]

set_option maxHeartbeats 8000000 in
set_option maxRecDepth 100000 in
theorem gap_raw (a b c d e f g h : Nat) (w : World) :
    Calls Tryd.prog 52 #[.agg #[.int .u16 a, .int .u16 b, .int .u16 c, .int .u16 d, .int .u16 e, .int .u16 f, .int .u16 g, .int .u16 h]] w fun ee w' => ee = .returned (.tuple #[.int .i64 (gapL [a, b, c, d, e, f, g, h]).1, .int .i64 (gapL [a, b, c, d, e, f, g, h]).2]) ∧ Below w.heap.size w w' := by
  have heq : ∀ w, (Op.equalIn 10000 68 (.agg #[.int .u16 a, .int .u16 b, .int .u16 c, .int .u16 d, .int .u16 e, .int .u16 f, .int .u16 g, .int .u16 h]) (.agg #[.int .u16 0, .int .u16 0, .int .u16 0, .int .u16 0, .int .u16 0, .int .u16 0, .int .u16 0, .int .u16 0])).run Tryd.prog w = .ok (decide (zr [a, b, c, d, e, f, g, h] = 8)) w := by
    intro w
    rw [eqG]
    congr 1
    rw [Bool.eq_iff_iff]
    simp only [Bool.and_eq_true, beq_iff_eq, decide_eq_true_eq, zr]
    repeat' split
    all_goals simp_all
  by_cases hz : zr [a, b, c, d, e, f, g, h] = 8
  · have hz' : decide (zr [a, b, c, d, e, f, g, h] = 8) = true := decide_eq_true hz
    have hg : gapL [a, b, c, d, e, f, g, h] = (0, 8) := by unfold gapL; rw [if_pos hz]
    rw [hg]
    rw [hz'] at heq
    clear hz hz' hg
    go_enter Tryd.func52, Tryd.ntmps52
    go_wp2
    go_ret2
    exact ⟨rfl, by repeat (first | exact Below.refl _ _ | apply pw_below_drewN | apply below_drew1 | apply below_alloc)⟩
  · have hz' : decide (zr [a, b, c, d, e, f, g, h] = 8) = false := decide_eq_false hz
    rw [hz'] at heq
    obtain ⟨G, hG⟩ : ∃ G, G = [a, b, c, d, e, f, g, h] := ⟨_, rfl⟩
    have hlen : G.length = 8 := by rw [hG]; rfl
    have hcell : ∀ k, k < 8 → (w.alloc (.cells #[.int .u16 a, .int .u16 b, .int .u16 c, .int .u16 d, .int .u16 e, .int .u16 f, .int .u16 g, .int .u16 h] 68)).cell? ⟨w.heap.size, k, none⟩ = some (.int .u16 (G.getD k 0 : Nat)) := by
      intro k hk
      rw [hG]
      rcases (show k = 0 ∨ k = 1 ∨ k = 2 ∨ k = 3 ∨ k = 4 ∨ k = 5 ∨ k = 6 ∨ k = 7 from by omega) with rfl | rfl | rfl | rfl | rfl | rfl | rfl | rfl <;> go_simp <;> rfl
    rw [← hG] at hz ⊢
    clear hG hz'
    have HC := Aside0.mk hcell
    clear hcell
    go_enter Tryd.func52, Tryd.ntmps52
    go_wp2
    clear heq
    have HB := Aside0.mk (below_alloc (Below.refl w.heap.size w) (.cells #[.int .u16 a, .int .u16 b, .int .u16 c, .int .u16 d, .int .u16 e, .int .u16 f, .int .u16 g, .int .u16 h] 68))
    generalize w.alloc (.cells #[.int .u16 a, .int .u16 b, .int .u16 c, .int .u16 d, .int .u16 e, .int .u16 f, .int .u16 g, .int .u16 h] 68) = W1 at HC HB ⊢
    go_loop [4, 5, 11] (fun v4 v5 v11 => ∃ (i : Nat) (ft : Nat × Nat), v11 = .int .i64 i ∧ v4 = .int .i64 ft.1 ∧ v5 = .int .i64 ft.2 ∧ i ≤ 8 ∧ Aside0 (ft.1 ≤ ft.2 ∧ ft.2 ≤ 8 ∧ gapF 0 G (0, 0) = gapF i (G.drop i) ft)) (fun _ _ v11 => 8 - (intOf v11).toNat)
    case atStart => exact ⟨0, (0, 0), rfl, rfl, rfl, by omega, ⟨by simp⟩⟩
    case round =>
      obtain ⟨i, ⟨f0, t0⟩, rfl, rfl, rfl, hi, HI⟩ := hrel
      go_wp2
      · go_loop [7] (fun v7 => ∃ k : Nat, v7 = .int .i64 k ∧ i ≤ k ∧ k ≤ 8 ∧ Aside0 (zr (G.drop i) + i = zr (G.drop k) + k)) (fun v7 => 8 - (intOf v7).toNat)
        case atStart => exact ⟨i, rfl, by omega, hi, ⟨rfl⟩⟩
        case round =>
          obtain ⟨k, rfl, hik, hk, HK⟩ := hrel
          by_cases hlt : k < 8
          · have hc := HC.out k hlt
            obtain ⟨x, hx⟩ : ∃ x, x = G.getD k 0 := ⟨_, rfl⟩
            rw [← hx] at hc
            by_cases h0 : x = 0
            · have hb : ((x : Int) == 0) = true := by rw [h0]; rfl
              have hz0 := zr_pos G k (by omega) (hx ▸ h0)
              clear hx
              go_wp2
              go_round
              case rel => exact ⟨k + 1, by go_num, by omega, by omega, ⟨by rw [HK.out, hz0]; omega⟩⟩
              case measure => simp [intOf]; omega
            · have hb : ((x : Int) == 0) = false := by rw [beq_eq_false_iff_ne]; omega
              have hz0 := zr_stop G k (by omega) (hx ▸ h0)
              clear hx
              have hik2 := HK.out
              rw [hz0] at hik2
              go_wp2
              · rename_i hgt
                have hI := HI.out
                rw [w64 (by omega) (by omega)] at hgt
                go_round
                case rel => exact ⟨i + 1, (i, k), by go_num, rfl, rfl, by omega, ⟨by simp only; omega, hk, by rw [hI.2.2]; exact gap_yes G i k f0 t0 (by omega) (by omega) (by omega)⟩⟩
                case measure => simp [intOf]; omega
              · rename_i hgt
                have hI := HI.out
                rw [w64 (by omega) (by omega)] at hgt
                go_round
                case rel => exact ⟨i + 1, (f0, t0), by go_num, rfl, rfl, by omega, ⟨hI.1, hI.2.1, by rw [hI.2.2]; exact gap_no G i k f0 t0 (by omega) (by omega) (by omega)⟩⟩
                case measure => simp [intOf]; omega
          · obtain rfl : k = 8 := by omega
            have hik2 := HK.out
            rw [List.drop_eq_nil_of_le (by omega : G.length ≤ 8)] at hik2
            simp only [zr] at hik2
            go_wp2
            · rename_i hgt
              have hI := HI.out
              rw [w64 (by omega) (by omega)] at hgt
              go_round
              case rel => exact ⟨i + 1, (i, 8), by go_num, rfl, rfl, by omega, ⟨by simp only; omega, hk, by rw [hI.2.2]; exact gap_yes G i 8 f0 t0 (by omega) (by omega) (by omega)⟩⟩
              case measure => simp [intOf]; omega
            · rename_i hgt
              have hI := HI.out
              rw [w64 (by omega) (by omega)] at hgt
              go_round
              case rel => exact ⟨i + 1, (f0, t0), by go_num, rfl, rfl, by omega, ⟨hI.1, hI.2.1, by rw [hI.2.2]; exact gap_no G i 8 f0 t0 (by omega) (by omega) (by omega)⟩⟩
              case measure => simp [intOf]; omega
      · rename_i h8 hlt2 _
        have hI := HI.out
        rw [w64 (by omega) (by omega)] at hlt2
        rw [List.drop_eq_nil_of_le (by omega : G.length ≤ i)] at hI
        simp only [gapF] at hI
        have hg : gapL G = (0, 0) := by unfold gapL; rw [if_neg hz, hI.2.2, if_pos (by simp only; omega)]
        rw [hg]
        go_ret2
        exact ⟨rfl, HB.out⟩
      · rename_i h8 hlt2 _
        have hI := HI.out
        rw [w64 (by omega) (by omega)] at hlt2
        rw [List.drop_eq_nil_of_le (by omega : G.length ≤ i)] at hI
        simp only [gapF] at hI
        have hg : gapL G = (f0, t0) := by unfold gapL; rw [if_neg hz, hI.2.2, if_neg (by simp only; omega)]
        rw [hg]
        go_ret2
        exact ⟨rfl, HB.out⟩
end Go.Proofs.YtmhjgjdiifcdlaaDoor.P
