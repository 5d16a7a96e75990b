/- The program's SetsApart returns what the reference's returns, for all arguments, in memory of the call's own. No condition. -/
import Derived.Test.YtglbhpimlfjglaaC4In
import Derived.Test.YtglbhpimlfjglaaC4Rows
import Derived.Test.YtglbhpimlfjglaaC4Sum
import Derived.Test.YtglbhpimlfjglaaE10
import Derived.Test.YtglbhpimlfjglaaE11
import Derived.Test.YtglbhpimlfjglaaE12
import Derived.Test.YtglbhpimlfjglaaE6
import Derived.Test.YtglbhpimlfjglaaE8
import Derived.Test.YtglbhpimlfjglaaE9
namespace Go.Proofs.Ytglbhpimlfjglaa.Pure
open Go.RowKit Go.Proofs.Ytglbhpimlfjglaa.E Go.Proofs.YtglbhpimlfjglaaW.PrintWords Go.Proofs.YtglbhpimlfjglaaW.PrintLast
set_option linter.unusedVariables false
set_option linter.unusedSimpArgs false

theorem chain_broken (ap : Int) : ∀ l : List Int, chainB ap l = !brokenB ap l
  | [] => rfl
  | [_] => rfl
  | a :: b :: r => by
    show (decide (a + ap ≤ b) && chainB ap (b :: r)) = !(decide (b - a < ap) || brokenB ap (b :: r))
    rw [chain_broken ap (b :: r), Bool.not_or]
    congr 1
    by_cases h : a + ap ≤ b
    · rw [decide_eq_true h, decide_eq_false (by omega)]; rfl
    · rw [decide_eq_false h, decide_eq_true (by omega)]; rfl
theorem apart_all (n : Nat) (s ap : Int) (h : 0 ≤ ap) : bySum n s ap [] = ((allSets n []).filter (hasSum s)).filter (fun x => !brokenB ap x) := by
  rw [bySum_eq n s [] ap ages_nil h rfl, List.filter_filter]
  apply List.filter_congr
  intro x _
  rw [chain_broken]
  show ((!brokenB ap x) && decide (sumL x = 0 + s)) = ((!brokenB ap x) && decide (sumL x = s))
  rw [Int.zero_add]
theorem FnExactSetsApart : laws_FnExactSetsApart.Pure := by
  intro c s ap hc hs hap
  unfold spec_SetsApart.f impl_SetsApart.f
  rw [siSum_val]
  by_cases h : 1 ≤ c ∧ c ≤ 4 ∧ 1 ≤ s ∧ s ≤ 80
  · rw [decide_eq_true h, Option.bind_some, if_pos rfl, l1In_val]
    by_cases h2 : 0 ≤ ap ∧ ap ≤ 20
    · obtain ⟨k, m, ys, h3, h4, h5, h6⟩ := part_holds c.toNat (by omega) (fun x => !brokenB ap x && hasSum s x)
      rw [← List.filter_filter] at h3 h4
      refine ⟨k, ((allSets c.toNat []).filter (hasSum s)).filter (fun x => !brokenB ap x), true, m, ys, ?_, ?_, h3, h4, h5, h6⟩
      · have e : spec_siApart.f c s ap = some (((allSets c.toNat []).filter (hasSum s)).filter (fun x => !brokenB ap x)) := by
          unfold spec_siApart.f
          rw [if_pos (by omega), apart_all _ _ _ h2.1]
        rw [decide_eq_true h2, e]
        rfl
      · rw [if_pos (by omega)]
    · obtain ⟨k, m, ys, h3, h4, h5, h6⟩ := rows_hold [] (by simp) (by simp)
      refine ⟨k, [], false, m, ys, ?_, ?_, h3, h4, h5, h6⟩
      · rw [decide_eq_false h2]
        rfl
      · rw [if_neg (by omega)]
  · obtain ⟨k, m, ys, h3, h4, h5, h6⟩ := rows_hold [] (by simp) (by simp)
    refine ⟨k, [], false, m, ys, ?_, ?_, h3, h4, h5, h6⟩
    · rw [decide_eq_false h]
      rfl
    · rw [if_neg (by omega)]
end Go.Proofs.Ytglbhpimlfjglaa.Pure
