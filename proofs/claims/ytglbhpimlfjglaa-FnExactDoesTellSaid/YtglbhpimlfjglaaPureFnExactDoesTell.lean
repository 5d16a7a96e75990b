/- The program's DoesTell returns what the reference's returns, for all arguments. No condition. -/
import Derived.Test.YtglbhpimlfjglaaC4Both
import Derived.Test.YtglbhpimlfjglaaC4Prod
import Derived.Test.YtglbhpimlfjglaaE11
import Derived.Test.YtglbhpimlfjglaaE16
import Derived.Test.YtglbhpimlfjglaaE19
import Derived.Test.YtglbhpimlfjglaaE21
import Derived.Test.YtglbhpimlfjglaaE22
import Derived.Test.YtglbhpimlfjglaaE7
namespace Go.Proofs.Ytglbhpimlfjglaa.Pure
open Go.RowKit Go.Proofs.Ytglbhpimlfjglaa.E Go.Proofs.YtglbhpimlfjglaaW.PrintWords Go.Proofs.YtglbhpimlfjglaaW.PrintLast
set_option linter.unusedVariables false
set_option linter.unusedSimpArgs false

theorem FnExactDoesTell : laws_FnExactDoesTell.Pure := by
  intro c p s hc hp hs
  unfold laws_FnExactDoesTell.f spec_DoesTell.f impl_DoesTell.f impl_SetsOfBoth.f
  rw [siChildren_val, siSum_both]
  by_cases h : 1 ≤ c ∧ c ≤ 4 ∧ 1 ≤ p ∧ p ≤ 160000
  · by_cases h2 : 1 ≤ s ∧ s ≤ 80
    · have hk := okSets_part c.toNat (by omega) (hasProd p)
      have h3 : 1 ≤ c ∧ c ≤ 4 ∧ 1 ≤ s ∧ s ≤ 80 := ⟨h.1, h.2.1, h2.1, h2.2⟩
      have h4 : 1 ≤ c ∧ c ≤ 4 ∧ 1 ≤ p ∧ p ≤ 160000 ∧ 1 ≤ s ∧ s ≤ 80 := ⟨h.1, h.2.1, h.2.2.1, h.2.2.2, h2.1, h2.2⟩
      rw [decide_eq_true h, decide_eq_true h3, if_pos h4, siSets_val c p h]
      simp only [Option.bind_some, if_true, if_pos hk]
      obtain ⟨n, hn⟩ : ∃ n, n = (((allSets c.toNat []).filter (hasProd p)).filter (hasSum s)).length := ⟨_, rfl⟩
      rw [← hn]
      rcases n with _ | _ | n
      · simp
      · simp
      · have a1 : ¬ (((n + 1 + 1 : Nat) : Int) = 0) := by omega
        have a2 : (((n + 1 + 1 : Nat) : Int) == 1) = false := beq_eq_false_iff_ne.2 (by omega)
        have a3 : decide (n + 1 + 1 = 1) = false := decide_eq_false (by omega)
        have a4 : decide (0 < n + 1 + 1) = true := decide_eq_true (by omega)
        rw [if_neg a1, a2, a3, a4]
        rfl
    · have h3 : ¬ (1 ≤ c ∧ c ≤ 4 ∧ 1 ≤ s ∧ s ≤ 80) := by omega
      have h4 : ¬ (1 ≤ c ∧ c ≤ 4 ∧ 1 ≤ p ∧ p ≤ 160000 ∧ 1 ≤ s ∧ s ≤ 80) := by omega
      rw [decide_eq_true h, decide_eq_false h3, if_neg h4]
      simp
  · have h4 : ¬ (1 ≤ c ∧ c ≤ 4 ∧ 1 ≤ p ∧ p ≤ 160000 ∧ 1 ≤ s ∧ s ≤ 80) := by omega
    rw [decide_eq_false h, if_neg h4]
    simp
end Go.Proofs.Ytglbhpimlfjglaa.Pure
