/- The program's TwinsIn returns what the reference's returns, for all arguments. No condition. -/
import Derived.Test.YtdfgdhbaeaijbaaC4Base
import Derived.Test.YtdfgdhbaeaijbaaC4Conv
import Derived.Test.YtdfgdhbaeaijbaaX10
import Derived.Test.YtdfgdhbaeaijbaaX11
import Derived.Test.YtdfgdhbaeaijbaaX12
namespace Go.Proofs.Ytdfgdhbaeaijbaa.Pure
open Go.RowKit Go.Proofs.Ytdfgdhbaeaijbaa.X Go.Proofs.YtdfgdhbaeaijbaaW.PrintWords Go.Proofs.YtdfgdhbaeaijbaaW.PrintLast
set_option linter.unusedVariables false
set_option linter.unusedSimpArgs false

theorem twins_same (l : List Int) : ∀ i, impl_TwinsIn.tw l i = spec_TwinsIn.tw l i := by
  intro i
  induction i with
  | zero => rfl
  | succ i ih => show impl_TwinsIn.tw l i + impl_TwinsIn.row l i i = spec_TwinsIn.tw l i + spec_TwinsIn.row l i i; rw [ih]; rfl
theorem both_TwinsIn (l : List Int) (hn : l.length ≤ 9223372036854775807) : ∃ r, Ev (fun k => spec_TwinsIn.f k l) r ∧ Ev (fun k => impl_TwinsIn.f k l) r := by
  obtain ⟨b, h1, h2, hiff⟩ := ev_set l hn
  unfold spec_TwinsIn.f impl_TwinsIn.f
  cases b with
  | false =>
    refine ⟨(0, false), Ev.bind h1 ?_, Ev.bind h2 ?_⟩
    · simp only [Bool.false_eq_true, if_false]; exact Ev.now _
    · simp only [Bool.false_eq_true, if_false]; exact Ev.now _
  | true =>
    have h4 := (hiff.1 rfl).1.2
    refine ⟨((spec_TwinsIn.tw l l.length : Int), true), Ev.bind h1 ?_, Ev.bind h2 ?_⟩
    · simp only [if_true, if_pos h4]; exact Ev.now _
    · simp only [if_true, if_pos h4, twins_same]; exact Ev.now _
theorem FnExactTwinsIn : laws_FnExactTwinsIn.Pure := by
  intro l hm hy hw
  refine Ev.rounds ?_
  unfold laws_FnExactTwinsIn.f
  by_cases hs : l.length ≤ 1048576
  · simp only [if_neg (show ¬ ((l.length : Int) > 1048576) by omega)]
    obtain ⟨⟨r1, r2⟩, h1, h2⟩ := both_TwinsIn l (by omega)
    refine Ev.bind (ev_toIntS l hs) ?_
    refine Ev.bind h1 ?_
    refine Ev.bind (ev_toIntS l hs) ?_
    refine Ev.bind h2 ?_
    simp only [if_true, bne_self_eq_false, Bool.false_eq_true, if_false]
    refine Ev.step (fun k => by rw [laws_FnExactTwinsIn.j0, if_neg (by simp)]) ?_
    refine Ev.bind (ev_toIntS l hs) ?_
    refine Ev.bind (ev_eqIntS l (by omega)) ?_
    simp only [if_true]
    exact Ev.now _
  · simp only [if_pos (show (l.length : Int) > 1048576 by omega)]
    exact Ev.now _

end Go.Proofs.Ytdfgdhbaeaijbaa.Pure
