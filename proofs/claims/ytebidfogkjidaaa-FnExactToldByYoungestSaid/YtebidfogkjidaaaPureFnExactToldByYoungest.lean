/- The program's ToldByYoungest returns what the reference's returns, for all arguments, in memory of the call's own. No condition. -/
import Derived.Test.YtebidfogkjidaaaC4Prod
import Derived.Test.YtebidfogkjidaaaC4Rows
import Derived.Test.YtebidfogkjidaaaC4Sets
import Derived.Test.YtebidfogkjidaaaC4Told
import Derived.Test.YtebidfogkjidaaaE14
import Derived.Test.YtebidfogkjidaaaE15
import Derived.Test.YtebidfogkjidaaaE17
import Derived.Test.YtebidfogkjidaaaE23
import Derived.Test.YtebidfogkjidaaaE25
import Derived.Test.YtebidfogkjidaaaE28
import Derived.Test.YtebidfogkjidaaaE3
namespace Go.Proofs.Ytebidfogkjidaaa.Pure
open Go.RowKit Go.Proofs.Ytebidfogkjidaaa.E Go.Proofs.YtebidfogkjidaaaW.PrintWords Go.Proofs.YtebidfogkjidaaaW.PrintLast
set_option linter.unusedVariables false
set_option linter.unusedSimpArgs false

theorem FnExactToldByYoungest : laws_FnExactToldByYoungest.Pure := by
  intro c p hc hp
  by_cases h : 1 ≤ c ∧ c ≤ 4 ∧ 1 ≤ p ∧ p ≤ 160000
  · have hk := part_ok c.toNat (by omega) (hasProd p)
    have hup : ((allSets c.toNat []).filter (hasProd p)).Pairwise fun x y => cmpL x y < 0 := List.Pairwise.filter _ (allSets_up c.toNat [])
    obtain ⟨k, m, ys, h1, h2, h3, h4⟩ := told_row false c.toNat (by omega) (hasProd p)
    refine ⟨k, toldS false ((allSets c.toNat []).filter (hasProd p)), true, m, ys, ?_, ?_, h1, h2, h3, h4⟩
    · unfold spec_ToldByYoungest.f
      rw [siChildren_val, decide_eq_true h, Option.bind_some, if_pos rfl, siSets_val c p h, Option.bind_some, if_pos (okTold_part c.toNat (by omega) (by omega) (hasProd p))]
    · unfold ToldF
      rw [if_pos h]
      exact ⟨rfl, told_ok false _ hk hup⟩
  · obtain ⟨k, m, ys, h1, h2, h3, h4⟩ := rows_hold [] (by simp) (fun x hx => absurd hx List.not_mem_nil)
    refine ⟨k, [], false, m, ys, ?_, ?_, h1, h2, h3, h4⟩
    · unfold spec_ToldByYoungest.f
      rw [siChildren_val, decide_eq_false h, Option.bind_some, if_neg (by simp)]
    · unfold ToldF
      rw [if_neg h]
      exact ⟨rfl, rfl⟩
end Go.Proofs.Ytebidfogkjidaaa.Pure
