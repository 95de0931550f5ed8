/- More short words for the printed proofs, of my own. No program is in sight. -/
import Derived.Test.YtjggdakbphjomaaU
namespace Go.Proofs.YtjggdakbphjomaaW.PrintMore
open Go.RowKit Go.Proofs.YtjggdakbphjomaaW.PrintWords Go.Proofs.YtjggdakbphjomaaW.PrintLast
abbrev Y_ : Bool := true
abbrev N_ : Bool := false
theorem tX {P : Prop} (h : P := by intro w'; go_simp; with_reducible rfl) : P := h
theorem tH {P : Prop} (h : P := by (repeat' (with_reducible refine And.intro ?_ ?_)); all_goals (exact (blk_cell (Aside0.out (by first | (with_reducible assumption) | assumption)) _).trans (by rfl))) : P := h
theorem kF {P Q : Prop} {g g2 : Nat} (n : Aside0 (g ≠ g2)) (a : Aside0 Q) (h : g ≠ g2 → Q → P := by intro n_ q_; repeat (first | (with_reducible first | exact q_ | refine blk_drewN ?_ _ | refine blk_drew ?_ | refine blk_alloc ?_ _) | refine blk_far ?_ n_ _)) : P := h n.out a.out
end Go.Proofs.YtjggdakbphjomaaW.PrintMore
