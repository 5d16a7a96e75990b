/- The program's HasOldest returns what the reference's returns, for all arguments. No condition. -/
import Derived.Test.YtdfgdhbaeaijbaaC4Base
import Derived.Test.YtdfgdhbaeaijbaaC4Conv
import Derived.Test.YtdfgdhbaeaijbaaX8
import Derived.Test.YtdfgdhbaeaijbaaX9
namespace Go.Proofs.Ytdfgdhbaeaijbaa.Pure
open Go.RowKit Go.Proofs.Ytdfgdhbaeaijbaa.X Go.Proofs.YtdfgdhbaeaijbaaW.PrintWords Go.Proofs.YtdfgdhbaeaijbaaW.PrintLast
set_option linter.unusedVariables false
set_option linter.unusedSimpArgs false

theorem val_HasOldest (l : List Int) (h : SetP l) : ∃ b, spec_siOldest.f l = some b ∧ impl_hasOldest.f l = some b := by
  obtain ⟨⟨h1, h4⟩, _⟩ := h
  unfold spec_siOldest.f impl_hasOldest.f
  have e1 : wrap64 ((l.length : Int) - 1) = (l.length : Int) - 1 := w64 (by omega) (by omega)
  have e2 : wrap64 ((l.length : Int) - 1 - 1) = (l.length : Int) - 2 := by rw [w64 (by omega) (by omega)]; omega
  have e3 : wrap64 ((l.length : Int) - 2) = (l.length : Int) - 2 := w64 (by omega) (by omega)
  rw [e1, e2, e3]
  by_cases e : (l.length : Int) = 1
  · rw [if_pos (by omega), if_pos e]; exact ⟨_, rfl, rfl⟩
  · rw [if_neg (by omega), if_neg e, if_pos (by omega), if_pos (by omega), if_pos (by omega), if_pos (by omega)]; exact ⟨_, rfl, rfl⟩
theorem both_HasOldest (l : List Int) (hn : l.length ≤ 9223372036854775807) : ∃ r, Ev (fun k => spec_HasOldest.f k l) r ∧ Ev (fun k => impl_HasOldest.f k l) r := by
  obtain ⟨b, h1, h2, hiff⟩ := ev_set l hn
  unfold spec_HasOldest.f impl_HasOldest.f
  cases b with
  | false =>
    refine ⟨(false, false), Ev.bind h1 ?_, Ev.bind h2 ?_⟩
    · simp only [Bool.false_eq_true, if_false]; exact Ev.now _
    · simp only [Bool.false_eq_true, if_false]; exact Ev.now _
  | true =>
    obtain ⟨c, e1, e2⟩ := val_HasOldest l (hiff.1 rfl)
    refine ⟨(c, true), Ev.bind h1 ?_, Ev.bind h2 ?_⟩
    · rw [e1]; simp only [if_true, Option.bind_some]; exact Ev.now _
    · rw [e2]; simp only [if_true, Option.bind_some]; exact Ev.now _
theorem FnExactHasOldest : laws_FnExactHasOldest.Pure := by
  intro l hm hy hw
  refine Ev.rounds ?_
  unfold laws_FnExactHasOldest.f
  by_cases hs : l.length ≤ 1048576
  · simp only [if_neg (show ¬ ((l.length : Int) > 1048576) by omega)]
    obtain ⟨⟨r1, r2⟩, h1, h2⟩ := both_HasOldest l (by omega)
    refine Ev.bind (ev_toIntS l hs) ?_
    refine Ev.bind h1 ?_
    refine Ev.bind (ev_toIntS l hs) ?_
    refine Ev.bind h2 ?_
    simp only [if_true, bne_self_eq_false, Bool.false_eq_true, if_false]
    refine Ev.step (fun k => by rw [laws_FnExactHasOldest.j0, if_neg (by simp)]) ?_
    refine Ev.bind (ev_toIntS l hs) ?_
    refine Ev.bind (ev_eqIntS l (by omega)) ?_
    simp only [if_true]
    exact Ev.now _
  · simp only [if_pos (show (l.length : Int) > 1048576 by omega)]
    exact Ev.now _

end Go.Proofs.Ytdfgdhbaeaijbaa.Pure
