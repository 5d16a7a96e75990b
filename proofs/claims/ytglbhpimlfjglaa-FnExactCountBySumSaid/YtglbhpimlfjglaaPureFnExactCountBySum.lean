/- The program's CountBySum returns what the reference's returns, for all arguments. No condition. -/
import Derived.Test.YtglbhpimlfjglaaC4Sum
import Derived.Test.YtglbhpimlfjglaaE3
import Derived.Test.YtglbhpimlfjglaaE5
import Derived.Test.YtglbhpimlfjglaaE6
import Derived.Test.YtglbhpimlfjglaaE7
import Derived.Test.YtglbhpimlfjglaaE8
namespace Go.Proofs.Ytglbhpimlfjglaa.Pure
open Go.RowKit Go.Proofs.Ytglbhpimlfjglaa.E Go.Proofs.YtglbhpimlfjglaaW.PrintWords Go.Proofs.YtglbhpimlfjglaaW.PrintLast
set_option linter.unusedVariables false
set_option linter.unusedSimpArgs false

theorem FnExactCountBySum : laws_FnExactCountBySum.Pure := by
  intro c s hc hs
  unfold laws_FnExactCountBySum.f spec_CountBySum.f impl_CountBySum.f impl_setsOfSum.f
  rw [siSum_val]
  by_cases h : 1 ≤ c ∧ c ≤ 4 ∧ 1 ≤ s ∧ s ≤ 80
  · have e : spec_siApart.f c s 0 = some ((allSets c.toNat []).filter (hasSum s)) := by
      unfold spec_siApart.f
      rw [if_pos (by omega), bySum_all]
    rw [decide_eq_true h, if_pos h, Option.bind_some, if_pos rfl, e]
    simp
  · rw [decide_eq_false h, if_neg h]
    simp
end Go.Proofs.Ytglbhpimlfjglaa.Pure
