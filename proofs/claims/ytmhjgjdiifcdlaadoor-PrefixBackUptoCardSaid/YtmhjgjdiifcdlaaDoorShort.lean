/- Three words that the printed proofs use often: a fact carried over steps that leave its block alone. -/
import Derived.Test.YtmhjgjdiifcdlaaDoorKW
namespace Go.Proofs.YtmhjgjdiifcdlaaDoor.P
open Go.RowKit Go.Proofs.YtmhjgjdiifcdlaaDoorW.PrintWords Go.Proofs.YtmhjgjdiifcdlaaDoorW.PrintLast Go.Proofs.YtmhjgjdiifcdlaaDoorW.PrintMore
abbrev Y : Bool := true
abbrev Z : Bool := false
theorem Sw {q : Prop} (f : q := by intro w'; go_simp; with_reducible rfl) : q := f
theorem Sr {q : Prop} (f : q := by simp only [Act.put, List.setIfInBounds_toArray, List.set_cons_zero, List.set_cons_succ, i64_w, i32_w]; rfl) : q := f
theorem Sp {p q : Prop} (h : p) (f : p → q := by intro h; simp only [Act.put, List.setIfInBounds_toArray, List.set_cons_zero, List.set_cons_succ, i64_w, i32_w]; exact h) : q := f h
theorem St {p q : Prop} (h : p) (f : p → q := by intro h; (with_reducible repeat (first | refine blk_drewN ?_ _ | refine blk_drew ?_ | refine blk_alloc ?_ _)); exact h) : q := f h
theorem Hb {p q : Prop} (h : p) (f : p → q := by intro h; repeat (first | (with_reducible first | exact h | apply below_alloc | apply pw_below_drewN | apply below_drew1 | refine below_set ?_ (Aside0.out (by assumption))) | exact h)) : q := f h
theorem Ma {p : Prop} (f : p := by (try simp only [List.map_toArray, List.map_cons, List.map_nil]); first | done | rfl | (simp only [List.length_drop, List.length_take]; rfl)) : p := f
end Go.Proofs.YtmhjgjdiifcdlaaDoor.P
