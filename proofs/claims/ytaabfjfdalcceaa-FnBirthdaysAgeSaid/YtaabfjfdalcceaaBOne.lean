/- Chapter 3, plain: one person. No condition beyond those typed at each lemma. -/
import Derived.Test.YtaabfjfdalcceaaC3Ages
import Derived.Test.YtaabfjfdalcceaaC3Base
import Derived.Test.YtaabfjfdalcceaaE17
import Derived.Test.YtaabfjfdalcceaaE4
import Derived.Test.YtaabfjfdalcceaaE6
import Derived.Test.YtaabfjfdalcceaaE9
namespace Go.Proofs.Ytaabfjfdalcceaa.Pure
open Go.RowKit Go.Proofs.Ytaabfjfdalcceaa.E Go.Proofs.YtaabfjfdalcceaaW.PrintWords Go.Proofs.YtaabfjfdalcceaaW.PrintLast
set_option linter.unusedVariables false
set_option linter.unusedSimpArgs false

theorem born_one' (b on : D) : bornL [b] on = (dateOk b && (dateOk on && decide (dy b ≤ dy on))) := by simp [bornL, goodL]
def ageV (b on : D) : Int × Bool := if bornL [b] on = true then (ageD b on, true) else (0, false)
theorem ev_specAge (b on : D) : spec_AgeOn.f b.f0 b.f1 on.f0 on.f1 = some (ageV b on) := by
  unfold spec_AgeOn.f ageV
  rw [born_one']
  cases hb : dateOk b with
  | true =>
    rw [born_val hb, Bool.true_and]
    cases ho : dateOk on with
    | false => simp
    | true =>
      rw [biAge_ok hb ho, Bool.true_and]
      simp only [Option.bind_some]
      split <;> rfl
  | false =>
    unfold spec_biBorn.f
    rw [biDate_val]
    have hb' : dateOk ⟨b.f0, b.f1⟩ = false := hb
    rw [hb']
    simp
theorem ev_implAge (b on : D) : Ev (fun k => impl_AgeOn.f k b.f0 b.f1 on.f0 on.f1) (ageV b on) := by
  unfold impl_AgeOn.f ageV
  refine Ev.bind (ev_implAges [b] on (by simp)) ?_
  unfold agesV
  cases h : bornL [b] on with
  | false => simp only [Bool.false_eq_true, if_false]; exact Ev.now _
  | true =>
    simp only [if_true]
    exact Ev.now _
theorem born_one (b on : D) : bornL [b] on = (dateOk b && (dateOk on && decide (dy b ≤ dy on))) := by simp [bornL, goodL]
def daysV (b on : D) : Int × Bool := if bornL [b] on = true then (dy on - dy b, true) else (0, false)
theorem ev_implDays (b on : D) : Ev (fun k => impl_DaysOld.f k b.f0 b.f1 on.f0 on.f1) (daysV b on) := by
  unfold impl_DaysOld.f daysV
  refine Ev.bind (ev_areBorn [b] on (by simp)) ?_
  cases h : bornL [b] on with
  | false => simp only [Bool.false_eq_true, if_false]; exact Ev.now _
  | true =>
    rw [born_one] at h
    simp only [Bool.and_eq_true, decide_eq_true_iff] at h
    have h1 := dy_range h.1
    have h2 := dy_range h.2.1
    rw [index_ok h.1, index_ok h.2.1]
    simp only [Option.bind_some, if_true]
    rw [w64 (by omega) (by omega)]
    exact Ev.now _

end Go.Proofs.Ytaabfjfdalcceaa.Pure
