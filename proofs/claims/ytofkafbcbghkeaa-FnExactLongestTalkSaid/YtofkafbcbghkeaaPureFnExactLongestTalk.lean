/- The program's LongestTalk returns what the reference's returns, for all arguments. No condition. -/
import Derived.Test.YtofkafbcbghkeaaE24
import Derived.Test.YtofkafbcbghkeaaE26
import Derived.Test.YtofkafbcbghkeaaE27
import Derived.Test.YtofkafbcbghkeaaE28
namespace Go.Proofs.Ytofkafbcbghkeaa.Pure
open Go.RowKit Go.Proofs.Ytofkafbcbghkeaa.E Go.Proofs.YtofkafbcbghkeaaW.PrintWords Go.Proofs.YtofkafbcbghkeaaW.PrintLast
set_option linter.unusedVariables false
set_option linter.unusedSimpArgs false

theorem FnExactLongestTalk : laws_FnExactLongestTalk.Pure := by
  intro m s hm hs
  unfold laws_FnExactLongestTalk.f impl_LongestTalk.f
  by_cases h : (s.size : Int) > 1048576
  · rw [if_pos h]
  · rw [if_neg h]
    unfold spec_LongestTalk.f
    cases hv : (decide (2 ≤ m ∧ m ≤ 40) && kwWho s) <;> simp
end Go.Proofs.Ytofkafbcbghkeaa.Pure
