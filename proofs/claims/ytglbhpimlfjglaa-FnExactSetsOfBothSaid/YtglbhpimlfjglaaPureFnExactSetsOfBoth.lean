/- The program's SetsOfBoth returns what the reference's returns, for all arguments, in memory of the call's own. No condition. -/
import Derived.Test.YtglbhpimlfjglaaC4Both
import Derived.Test.YtglbhpimlfjglaaC4Prod
import Derived.Test.YtglbhpimlfjglaaC4Rows
import Derived.Test.YtglbhpimlfjglaaE11
import Derived.Test.YtglbhpimlfjglaaE14
import Derived.Test.YtglbhpimlfjglaaE16
import Derived.Test.YtglbhpimlfjglaaE19
import Derived.Test.YtglbhpimlfjglaaE20
namespace Go.Proofs.Ytglbhpimlfjglaa.Pure
open Go.RowKit Go.Proofs.Ytglbhpimlfjglaa.E Go.Proofs.YtglbhpimlfjglaaW.PrintWords Go.Proofs.YtglbhpimlfjglaaW.PrintLast
set_option linter.unusedVariables false
set_option linter.unusedSimpArgs false

theorem FnExactSetsOfBoth : laws_FnExactSetsOfBoth.Pure := by
  intro c p s hc hp hs
  unfold spec_SetsOfBoth.f impl_SetsOfBoth.f
  rw [siChildren_val, siSum_both]
  by_cases h : 1 ≤ c ∧ c ≤ 4 ∧ 1 ≤ p ∧ p ≤ 160000
  · rw [decide_eq_true h, Option.bind_some, if_pos rfl]
    by_cases h2 : 1 ≤ s ∧ s ≤ 80
    · have hk := okSets_part c.toNat (by omega) (hasProd p)
      obtain ⟨k, m, ys, h3, h4, h5, h6⟩ := part_holds c.toNat (by omega) (fun x => hasSum s x && hasProd p x)
      rw [← List.filter_filter] at h3 h4
      refine ⟨k, _, true, m, ys, ?_, ?_, h3, h4, h5, h6⟩
      · rw [decide_eq_true ⟨h.1, h.2.1, h2.1, h2.2⟩, Option.bind_some, if_pos rfl, siSets_val c p h, Option.bind_some, if_pos hk]
      · rw [if_pos ⟨h.1, h.2.1, h.2.2.1, h.2.2.2, h2.1, h2.2⟩]
    · obtain ⟨k, m, ys, h3, h4, h5, h6⟩ := rows_hold [] (by simp) (by simp)
      refine ⟨k, [], false, m, ys, ?_, ?_, h3, h4, h5, h6⟩
      · rw [decide_eq_false (by omega)]
        rfl
      · rw [if_neg (by omega)]
  · obtain ⟨k, m, ys, h3, h4, h5, h6⟩ := rows_hold [] (by simp) (by simp)
    refine ⟨k, [], false, m, ys, ?_, ?_, h3, h4, h5, h6⟩
    · rw [decide_eq_false h]
      rfl
    · rw [if_neg (by omega)]
end Go.Proofs.Ytglbhpimlfjglaa.Pure
