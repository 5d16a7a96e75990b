/- The program's IsToldByTalk returns what the reference's returns, for all arguments. No condition. -/
import Derived.Test.YtofkafbcbghkeaaX16
import Derived.Test.YtofkafbcbghkeaaX21
import Derived.Test.YtofkafbcbghkeaaX23
import Derived.Test.YtofkafbcbghkeaaX24
namespace Go.Proofs.Ytofkafbcbghkeaa.Pure
open Go.RowKit Go.Proofs.Ytofkafbcbghkeaa.X Go.Proofs.YtofkafbcbghkeaaW.PrintWords Go.Proofs.YtofkafbcbghkeaaW.PrintLast
set_option linter.unusedVariables false
set_option linter.unusedSimpArgs false

theorem FnExactIsToldByTalk : laws_FnExactIsToldByTalk.Pure := by
  intro m s hm hs
  unfold laws_FnExactIsToldByTalk.f spec_IsToldByTalk.f impl_IsToldByTalk.f impl_CountLeft.f
  by_cases h : (s.size : Int) > 1048576
  · rw [if_pos h]
  · rw [if_neg h]
    cases hv : validLT m s <;> simp
end Go.Proofs.Ytofkafbcbghkeaa.Pure
