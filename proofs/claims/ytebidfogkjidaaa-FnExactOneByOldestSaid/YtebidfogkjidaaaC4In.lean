/- Chapter 4, plain: a number is in its bounds. No condition. -/
import Derived.Test.YtebidfogkjidaaaE1
namespace Go.Proofs.Ytebidfogkjidaaa.Pure
open Go.RowKit Go.Proofs.Ytebidfogkjidaaa.E Go.Proofs.YtebidfogkjidaaaW.PrintWords Go.Proofs.YtebidfogkjidaaaW.PrintLast
theorem l1In_val (n a b : Int) : spec_l1In.f n a b = some (decide (a ≤ n ∧ n ≤ b)) := by
  unfold spec_l1In.f
  by_cases h : n ≥ a
  · rw [if_pos h]; simp [h]
  · rw [if_neg h]; simp; omega
end Go.Proofs.Ytebidfogkjidaaa.Pure
