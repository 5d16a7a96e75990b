/- Chapter 5, plain: lists of pairs: held equal, marked, the marks held. No condition beyond those typed at each lemma. -/
import Derived.Test.YtofkafbcbghkeaaC5Rows
import Derived.Test.YtofkafbcbghkeaaX2
import Derived.Test.YtofkafbcbghkeaaX5
import Derived.Test.YtofkafbcbghkeaaX8
import Derived.Test.YtofkafbcbghkeaaX9
namespace Go.Proofs.Ytofkafbcbghkeaa.Pure
open Go.RowKit Go.Proofs.Ytofkafbcbghkeaa.X Go.Proofs.YtofkafbcbghkeaaW.PrintWords Go.Proofs.YtofkafbcbghkeaaW.PrintLast
set_option linter.unusedVariables false
set_option linter.unusedSimpArgs false

theorem pairs_hold (m : Nat) (hm : m ≤ 40) (q : List Int → Bool) : ∃ k n ys, laws_eqIntSS.f k ((prs m m).filter q) ((prs m m).filter q) = some true ∧ markSS k ((prs m m).filter q) 1 = some (n, ys) ∧ laws_heldIntSS.f k ys 1 = some n ∧ 0 ≤ n := by
  apply rows_hold
  · have h1 := List.length_filter_le q (prs m m)
    have h2 := prs_len m m
    have h3 : m * (m + 1) ≤ 40 * 41 := Nat.mul_le_mul (by omega) (by omega)
    omega
  · intro x hx
    obtain ⟨a, b, _, _, _, rfl⟩ := prs_mem m m x (Nat.le_refl _) (List.mem_filter.1 hx).1
    simp
end Go.Proofs.Ytofkafbcbghkeaa.Pure
