/- Chapter 4, plain: a number is in its bounds. No condition. -/
import Derived.Test.YtglbhpimlfjglaaE4
namespace Go.Proofs.Ytglbhpimlfjglaa.Pure
open Go.RowKit Go.Proofs.Ytglbhpimlfjglaa.E Go.Proofs.YtglbhpimlfjglaaW.PrintWords Go.Proofs.YtglbhpimlfjglaaW.PrintLast
theorem l1In_val (n a b : Int) : spec_l1In.f n a b = some (decide (a ≤ n ∧ n ≤ b)) := by
  unfold spec_l1In.f
  by_cases h : n ≥ a
  · rw [if_pos h]; simp [h]
  · rw [if_neg h]; simp; omega
end Go.Proofs.Ytglbhpimlfjglaa.Pure
