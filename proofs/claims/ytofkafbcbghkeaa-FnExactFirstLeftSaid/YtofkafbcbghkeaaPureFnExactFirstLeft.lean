/- The program's FirstLeft returns what the reference's returns, for all arguments. No condition. -/
import Derived.Test.YtofkafbcbghkeaaX16
import Derived.Test.YtofkafbcbghkeaaX25
import Derived.Test.YtofkafbcbghkeaaX26
import Derived.Test.YtofkafbcbghkeaaX27
namespace Go.Proofs.Ytofkafbcbghkeaa.Pure
open Go.RowKit Go.Proofs.Ytofkafbcbghkeaa.X Go.Proofs.YtofkafbcbghkeaaW.PrintWords Go.Proofs.YtofkafbcbghkeaaW.PrintLast
set_option linter.unusedVariables false
set_option linter.unusedSimpArgs false

theorem FnExactFirstLeft : laws_FnExactFirstLeft.Pure := by
  intro m s hm hs
  unfold laws_FnExactFirstLeft.f spec_FirstLeft.f impl_FirstLeft.f
  by_cases h : (s.size : Int) > 1048576
  · rw [if_pos h]
  · rw [if_neg h]
    cases hv : validLT m s
    · simp
    · cases hl : leftList m s <;> simp
end Go.Proofs.Ytofkafbcbghkeaa.Pure
