/- The program's AgeOn returns what the reference's returns, for all arguments. No condition. -/
import Derived.Test.YtcebaiopkeaoaaaC3Base
import Derived.Test.YtcebaiopkeaoaaaC3Fun
import Derived.Test.YtcebaiopkeaoaaaX1
import Derived.Test.YtcebaiopkeaoaaaX3
import Derived.Test.YtcebaiopkeaoaaaX7
import Derived.Test.YtcebaiopkeaoaaaX8
namespace Go.Proofs.Ytcebaiopkeaoaaa.Pure
open Go.RowKit Go.Proofs.Ytcebaiopkeaoaaa.X Go.Proofs.YtcebaiopkeaoaaaW.PrintWords Go.Proofs.YtcebaiopkeaoaaaW.PrintLast
set_option linter.unusedVariables false
set_option linter.unusedSimpArgs false

theorem born_one' (b on : D) : bornL [b] on = (dateOk b && (dateOk on && decide (dy b ≤ dy on))) := by simp [bornL, goodL]
def ageV (b on : D) : Int × Bool := if bornL [b] on = true then (ageD b on, true) else (0, false)
theorem ev_specAge (b on : D) : spec_AgeOn.f b.f0 b.f1 on.f0 on.f1 = some (ageV b on) := by
  unfold spec_AgeOn.f ageV
  rw [born_one']
  cases hb : dateOk b with
  | true =>
    rw [born_val hb, Bool.true_and]
    cases ho : dateOk on with
    | false => simp
    | true =>
      rw [biAge_ok hb ho, Bool.true_and]
      simp only [Option.bind_some]
      split <;> rfl
  | false =>
    unfold spec_biBorn.f
    rw [biDate_val]
    have hb' : dateOk ⟨b.f0, b.f1⟩ = false := hb
    rw [hb']
    simp
theorem ev_implAge (b on : D) : Ev (fun k => impl_AgeOn.f k b.f0 b.f1 on.f0 on.f1) (ageV b on) := by
  unfold impl_AgeOn.f ageV
  refine Ev.bind (ev_implAges [b] on (by simp)) ?_
  unfold agesV
  cases h : bornL [b] on with
  | false => simp only [Bool.false_eq_true, if_false]; exact Ev.now _
  | true =>
    simp only [if_true]
    exact Ev.now _
theorem FnExactAgeOn : laws_FnExactAgeOn.Pure := by
  intro a b c d _ _ _ _
  refine Ev.rounds ?_
  unfold laws_FnExactAgeOn.f
  simp only [laws_toDate.f, Option.bind_some]
  rw [ev_specAge ⟨a, b⟩ ⟨c, d⟩]
  simp only [Option.bind_some]
  refine Ev.bind (ev_implAge ⟨a, b⟩ ⟨c, d⟩) ?_
  simp only [if_true, bne_self_eq_false, Bool.false_eq_true, if_false]
  exact Ev.now _

end Go.Proofs.Ytcebaiopkeaoaaa.Pure
