/- The program's PairsOfSum returns what the reference's returns, for all arguments, in memory of the call's own. No condition. -/
import Derived.Test.YtofkafbcbghkeaaC5Pairs
import Derived.Test.YtofkafbcbghkeaaC5Rows
import Derived.Test.YtofkafbcbghkeaaX11
import Derived.Test.YtofkafbcbghkeaaX12
import Derived.Test.YtofkafbcbghkeaaX13
namespace Go.Proofs.Ytofkafbcbghkeaa.Pure
open Go.RowKit Go.Proofs.Ytofkafbcbghkeaa.X Go.Proofs.YtofkafbcbghkeaaW.PrintWords Go.Proofs.YtofkafbcbghkeaaW.PrintLast
set_option linter.unusedVariables false
set_option linter.unusedSimpArgs false

theorem FnExactPairsOfSum : laws_FnExactPairsOfSum.Pure := by
  intro m t hm ht
  unfold spec_PairsOfSum.f impl_PairsOfSum.f
  by_cases h : (2 ≤ m ∧ m ≤ 40) ∧ 0 ≤ t
  · rw [if_pos h]
    obtain ⟨k, n, ys, h3, h4, h5, h6⟩ := pairs_hold m.toNat (by omega) (hasS t)
    exact ⟨k, _, true, n, ys, rfl, rfl, h3, h4, h5, h6⟩
  · rw [if_neg h]
    obtain ⟨k, n, ys, h3, h4, h5, h6⟩ := rows_hold [] (by simp) (by simp)
    exact ⟨k, [], false, n, ys, rfl, rfl, h3, h4, h5, h6⟩
end Go.Proofs.Ytofkafbcbghkeaa.Pure
