/- The program's AreBirthDates returns what the reference's returns, for all arguments. No condition. -/
import Derived.Test.YtcebaiopkeaoaaaC3Base
import Derived.Test.YtcebaiopkeaoaaaC3Fun
import Derived.Test.YtcebaiopkeaoaaaX6
import Derived.Test.YtcebaiopkeaoaaaX7
namespace Go.Proofs.Ytcebaiopkeaoaaa.Pure
open Go.RowKit Go.Proofs.Ytcebaiopkeaoaaa.X Go.Proofs.YtcebaiopkeaoaaaW.PrintWords Go.Proofs.YtcebaiopkeaoaaaW.PrintLast
set_option linter.unusedVariables false
set_option linter.unusedSimpArgs false

theorem FnExactAreBirthDates : laws_FnExactAreBirthDates.Pure := by
  intro l hm hy hw
  refine Ev.rounds ?_
  unfold laws_FnExactAreBirthDates.f
  by_cases hs : l.length ≤ 1048576
  · rw [sz_ok hs]
    simp only [Option.bind_some, if_neg (show ¬ (1048576 - (l.length : Int) < 0) by omega)]
    refine Ev.bind (ev_toDateS l hs) ?_
    refine Ev.bind (a := goodL (l.map cv)) ?_ ?_
    · unfold spec_AreBirthDates.f
      exact Ev.bind (ev_biGood (l.map cv) (by simp; omega)) (Ev.now _)
    refine Ev.bind (ev_toDateS l hs) ?_
    rw [ev_goodI]
    simp only [Option.bind_some, bne_self_eq_false, Bool.false_eq_true, if_false]
    refine Ev.bind (ev_toDateS l hs) ?_
    refine Ev.bind (ev_eqDateS (l.map cv) (by simp; omega)) ?_
    simp only [if_true]
    exact Ev.now _
  · rw [sz_no hs hm]
    simp only [Option.bind_some, if_pos (show (-1 : Int) < 0 by omega)]
    exact Ev.now _

end Go.Proofs.Ytcebaiopkeaoaaa.Pure
