/- The program's SumOfAgesOn returns what the reference's returns, for all arguments. No condition. -/
import Derived.Test.YtcebaiopkeaoaaaC3Fun
import Derived.Test.YtcebaiopkeaoaaaX0
import Derived.Test.YtcebaiopkeaoaaaX1
import Derived.Test.YtcebaiopkeaoaaaX16
namespace Go.Proofs.Ytcebaiopkeaoaaa.Pure
open Go.RowKit Go.Proofs.Ytcebaiopkeaoaaa.X Go.Proofs.YtcebaiopkeaoaaaW.PrintWords Go.Proofs.YtcebaiopkeaoaaaW.PrintLast
set_option linter.unusedVariables false
set_option linter.unusedSimpArgs false

theorem tail_SumOfAgesOn (l : List S30) (hs : l.length ≤ 1048576) : Ev (fun k => laws_FnExactSumOfAgesOn.j0 k l (l.map cv) false) true := by
  refine Ev.step (fun k => by rw [laws_FnExactSumOfAgesOn.j0, if_neg (by simp)]) ?_
  refine Ev.bind (ev_toDateS l hs) ?_
  refine Ev.bind (ev_eqDateS (l.map cv) (by simp; omega)) ?_
  simp only [if_true]
  exact Ev.now _
theorem FnExactSumOfAgesOn : laws_FnExactSumOfAgesOn.Pure := by
  intro l a0 b0 hm hy hw _ _
  refine Ev.rounds ?_
  unfold laws_FnExactSumOfAgesOn.f
  by_cases hs : l.length ≤ 1048576
  · rw [sz_ok hs]
    simp only [Option.bind_some, if_neg (show ¬ (1048576 - (l.length : Int) < 0) by omega)]
    refine Ev.bind (ev_toDateS l hs) ?_
    simp only [laws_toDate.f, Option.bind_some]
    refine Ev.bind (ev_specSum (l.map cv) ⟨a0, b0⟩ (by simpa using hs)) ?_
    refine Ev.bind (ev_toDateS l hs) ?_
    refine Ev.bind (ev_implSum (l.map cv) ⟨a0, b0⟩ (by simpa using hs)) ?_
    simp only [if_true, bne_self_eq_false]
    exact tail_SumOfAgesOn l hs
  · rw [sz_no hs hm]
    simp only [Option.bind_some, if_pos (show (-1 : Int) < 0 by omega)]
    exact Ev.now _

end Go.Proofs.Ytcebaiopkeaoaaa.Pure
