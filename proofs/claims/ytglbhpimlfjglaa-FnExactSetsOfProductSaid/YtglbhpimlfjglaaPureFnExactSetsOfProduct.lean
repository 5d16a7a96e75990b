/- The program's SetsOfProduct returns what the reference's returns, for all arguments, in memory of the call's own. No condition. -/
import Derived.Test.YtglbhpimlfjglaaC4Prod
import Derived.Test.YtglbhpimlfjglaaC4Rows
import Derived.Test.YtglbhpimlfjglaaE12
import Derived.Test.YtglbhpimlfjglaaE3
import Derived.Test.YtglbhpimlfjglaaE6
import Derived.Test.YtglbhpimlfjglaaE7
namespace Go.Proofs.Ytglbhpimlfjglaa.Pure
open Go.RowKit Go.Proofs.Ytglbhpimlfjglaa.E Go.Proofs.YtglbhpimlfjglaaW.PrintWords Go.Proofs.YtglbhpimlfjglaaW.PrintLast
set_option linter.unusedVariables false
set_option linter.unusedSimpArgs false

theorem FnExactSetsOfProduct : laws_FnExactSetsOfProduct.Pure := by
  intro c p hc hp
  unfold spec_SetsOfProduct.f impl_SetsOfProduct.f
  rw [siChildren_val]
  by_cases h : 1 ≤ c ∧ c ≤ 4 ∧ 1 ≤ p ∧ p ≤ 160000
  · obtain ⟨k, m, ys, h1, h2, h3, h4⟩ := part_holds c.toNat (by omega) (hasProd p)
    refine ⟨k, (allSets c.toNat []).filter (hasProd p), true, m, ys, ?_, ?_, h1, h2, h3, h4⟩
    · rw [decide_eq_true h, Option.bind_some, if_pos rfl, siSets_val c p h]
      rfl
    · rw [if_pos h]
  · obtain ⟨k, m, ys, h1, h2, h3, h4⟩ := rows_hold [] (by simp) (by simp)
    refine ⟨k, [], false, m, ys, ?_, ?_, h1, h2, h3, h4⟩
    · rw [decide_eq_false h]
      rfl
    · rw [if_neg h]
end Go.Proofs.Ytglbhpimlfjglaa.Pure
