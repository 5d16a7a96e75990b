/- The program's TrueTalk returns what the reference's returns, for all arguments. No condition. -/
import Derived.Test.YtofkafbcbghkeaaE21
import Derived.Test.YtofkafbcbghkeaaE24
import Derived.Test.YtofkafbcbghkeaaE25
import Derived.Test.YtofkafbcbghkeaaE26
import Derived.Test.YtofkafbcbghkeaaE27
namespace Go.Proofs.Ytofkafbcbghkeaa.Pure
open Go.RowKit Go.Proofs.Ytofkafbcbghkeaa.E Go.Proofs.YtofkafbcbghkeaaW.PrintWords Go.Proofs.YtofkafbcbghkeaaW.PrintLast
set_option linter.unusedVariables false
set_option linter.unusedSimpArgs false

theorem FnExactTrueTalk : laws_FnExactTrueTalk.Pure := by
  intro m a b s hm ha hb hs
  unfold laws_FnExactTrueTalk.f impl_TrueTalk.f
  by_cases h : (s.size : Int) > 1048576
  · rw [if_pos h]
  · rw [if_neg h]
    unfold spec_TrueTalk.f
    cases hv : (pairB m a b && kwWho s) <;> simp
end Go.Proofs.Ytofkafbcbghkeaa.Pure
