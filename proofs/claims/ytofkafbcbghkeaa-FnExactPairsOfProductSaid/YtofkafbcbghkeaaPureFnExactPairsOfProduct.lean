/- The program's PairsOfProduct returns what the reference's returns, for all arguments, in memory of the call's own. No condition. -/
import Derived.Test.YtofkafbcbghkeaaC5Pairs
import Derived.Test.YtofkafbcbghkeaaC5Rows
import Derived.Test.YtofkafbcbghkeaaX10
import Derived.Test.YtofkafbcbghkeaaX6
import Derived.Test.YtofkafbcbghkeaaX7
namespace Go.Proofs.Ytofkafbcbghkeaa.Pure
open Go.RowKit Go.Proofs.Ytofkafbcbghkeaa.X Go.Proofs.YtofkafbcbghkeaaW.PrintWords Go.Proofs.YtofkafbcbghkeaaW.PrintLast
set_option linter.unusedVariables false
set_option linter.unusedSimpArgs false

theorem FnExactPairsOfProduct : laws_FnExactPairsOfProduct.Pure := by
  intro m t hm ht
  unfold spec_PairsOfProduct.f impl_PairsOfProduct.f
  by_cases h : (2 ≤ m ∧ m ≤ 40) ∧ 0 ≤ t
  · rw [if_pos h]
    obtain ⟨k, n, ys, h3, h4, h5, h6⟩ := pairs_hold m.toNat (by omega) (hasP t)
    exact ⟨k, _, true, n, ys, rfl, rfl, h3, h4, h5, h6⟩
  · rw [if_neg h]
    obtain ⟨k, n, ys, h3, h4, h5, h6⟩ := rows_hold [] (by simp) (by simp)
    exact ⟨k, [], false, n, ys, rfl, rfl, h3, h4, h5, h6⟩
end Go.Proofs.Ytofkafbcbghkeaa.Pure
