/- The program's IsSet returns what the reference's returns, for all arguments. No condition. -/
import Derived.Test.YtdfgdhbaeaijbaaC4Base
import Derived.Test.YtdfgdhbaeaijbaaC4Conv
import Derived.Test.YtdfgdhbaeaijbaaX2
import Derived.Test.YtdfgdhbaeaijbaaX5
import Derived.Test.YtdfgdhbaeaijbaaX6
namespace Go.Proofs.Ytdfgdhbaeaijbaa.Pure
open Go.RowKit Go.Proofs.Ytdfgdhbaeaijbaa.X Go.Proofs.YtdfgdhbaeaijbaaW.PrintWords Go.Proofs.YtdfgdhbaeaijbaaW.PrintLast
set_option linter.unusedVariables false
set_option linter.unusedSimpArgs false

theorem FnExactIsSet : laws_FnExactIsSet.Pure := by
  intro l hm hy hw
  refine Ev.rounds ?_
  unfold laws_FnExactIsSet.f
  by_cases hs : l.length ≤ 1048576
  · simp only [if_neg (show ¬ ((l.length : Int) > 1048576) by omega)]
    obtain ⟨b, h1, h2, _⟩ := ev_set l (by omega)
    refine Ev.bind (ev_toIntS l hs) ?_
    refine Ev.bind (a := b) ?_ ?_
    · unfold spec_IsSet.f
      exact Ev.bind h1 (Ev.now _)
    refine Ev.bind (ev_toIntS l hs) ?_
    refine Ev.bind (a := b) ?_ ?_
    · unfold impl_IsSet.f
      exact Ev.bind h2 (Ev.now _)
    simp only [bne_self_eq_false, Bool.false_eq_true, if_false]
    refine Ev.bind (ev_toIntS l hs) ?_
    refine Ev.bind (ev_eqIntS l (by omega)) ?_
    simp only [if_true]
    exact Ev.now _
  · simp only [if_pos (show (l.length : Int) > 1048576 by omega)]
    exact Ev.now _

end Go.Proofs.Ytdfgdhbaeaijbaa.Pure
