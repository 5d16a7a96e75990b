/- The program's IsTrueTalk returns what the reference's returns, for all arguments. No condition. -/
import Derived.Test.YtofkafbcbghkeaaX16
import Derived.Test.YtofkafbcbghkeaaX29
import Derived.Test.YtofkafbcbghkeaaX30
import Derived.Test.YtofkafbcbghkeaaX31
namespace Go.Proofs.Ytofkafbcbghkeaa.Pure
open Go.RowKit Go.Proofs.Ytofkafbcbghkeaa.X Go.Proofs.YtofkafbcbghkeaaW.PrintWords Go.Proofs.YtofkafbcbghkeaaW.PrintLast
set_option linter.unusedVariables false
set_option linter.unusedSimpArgs false

theorem FnExactIsTrueTalk : laws_FnExactIsTrueTalk.Pure := by
  intro m a b s hm ha hb hs
  unfold laws_FnExactIsTrueTalk.f spec_IsTrueTalk.f impl_IsTrueTalk.f
  by_cases h : (s.size : Int) > 1048576
  · rw [if_pos h]
  · rw [if_neg h]
    cases hv : (pairB m a b && talkB s) <;> simp
end Go.Proofs.Ytofkafbcbghkeaa.Pure
