/- The program's KnownAfter returns what the reference's returns, for all arguments. No condition. -/
import Derived.Test.YtofkafbcbghkeaaE21
import Derived.Test.YtofkafbcbghkeaaE24
import Derived.Test.YtofkafbcbghkeaaE25
import Derived.Test.YtofkafbcbghkeaaE26
namespace Go.Proofs.Ytofkafbcbghkeaa.Pure
open Go.RowKit Go.Proofs.Ytofkafbcbghkeaa.E Go.Proofs.YtofkafbcbghkeaaW.PrintWords Go.Proofs.YtofkafbcbghkeaaW.PrintLast
set_option linter.unusedVariables false
set_option linter.unusedSimpArgs false

theorem FnExactKnownAfter : laws_FnExactKnownAfter.Pure := by
  intro m a b s hm ha hb hs
  unfold laws_FnExactKnownAfter.f impl_KnownAfter.f spec_KnownAfter.f
  by_cases h : (s.size : Int) > 1048576
  · rw [if_pos h]
  · rw [if_neg h]
    cases hv : (pairB m a b && kwWho s) <;> simp
end Go.Proofs.Ytofkafbcbghkeaa.Pure
