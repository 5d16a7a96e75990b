/- The program's CountSets returns what the reference's returns, for all arguments. No condition. -/
import Derived.Test.YtglbhpimlfjglaaC4Prod
import Derived.Test.YtglbhpimlfjglaaE6
import Derived.Test.YtglbhpimlfjglaaE7
import Derived.Test.YtglbhpimlfjglaaE8
namespace Go.Proofs.Ytglbhpimlfjglaa.Pure
open Go.RowKit Go.Proofs.Ytglbhpimlfjglaa.E Go.Proofs.YtglbhpimlfjglaaW.PrintWords Go.Proofs.YtglbhpimlfjglaaW.PrintLast
set_option linter.unusedVariables false
set_option linter.unusedSimpArgs false

theorem FnExactCountSets : laws_FnExactCountSets.Pure := by
  intro c p hc hp
  unfold laws_FnExactCountSets.f spec_CountSets.f impl_CountSets.f impl_SetsOfProduct.f
  rw [siChildren_val]
  by_cases h : 1 ≤ c ∧ c ≤ 4 ∧ 1 ≤ p ∧ p ≤ 160000
  · rw [decide_eq_true h, if_pos h, Option.bind_some, if_pos rfl, siSets_val c p h]
    simp
  · rw [decide_eq_false h, if_neg h]
    simp
end Go.Proofs.Ytglbhpimlfjglaa.Pure
