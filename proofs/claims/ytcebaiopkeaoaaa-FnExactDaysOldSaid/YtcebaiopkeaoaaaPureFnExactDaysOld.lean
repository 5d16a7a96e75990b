/- The program's DaysOld returns what the reference's returns, for all arguments. No condition. -/
import Derived.Test.YtcebaiopkeaoaaaC3Base
import Derived.Test.YtcebaiopkeaoaaaX1
import Derived.Test.YtcebaiopkeaoaaaX2
import Derived.Test.YtcebaiopkeaoaaaX3
import Derived.Test.YtcebaiopkeaoaaaX5
namespace Go.Proofs.Ytcebaiopkeaoaaa.Pure
open Go.RowKit Go.Proofs.Ytcebaiopkeaoaaa.X Go.Proofs.YtcebaiopkeaoaaaW.PrintWords Go.Proofs.YtcebaiopkeaoaaaW.PrintLast
set_option linter.unusedVariables false
set_option linter.unusedSimpArgs false

theorem born_one (b on : D) : bornL [b] on = (dateOk b && (dateOk on && decide (dy b ≤ dy on))) := by simp [bornL, goodL]
def daysV (b on : D) : Int × Bool := if bornL [b] on = true then (dy on - dy b, true) else (0, false)
theorem specBorn_val (b on : D) : spec_biBorn.f b.f0 b.f1 on.f0 on.f1 = some (bornL [b] on) := by
  rw [born_one]
  cases hb : dateOk b with
  | true => rw [born_val hb, Bool.true_and]
  | false =>
    unfold spec_biBorn.f
    rw [biDate_val]
    have hb' : dateOk ⟨b.f0, b.f1⟩ = false := hb
    rw [hb']
    simp
theorem ev_specDays (b on : D) : spec_DaysOld.f b.f0 b.f1 on.f0 on.f1 = some (daysV b on) := by
  unfold spec_DaysOld.f daysV
  rw [specBorn_val]
  cases h : bornL [b] on with
  | false => simp
  | true =>
    rw [born_one] at h
    simp only [Bool.and_eq_true, decide_eq_true_iff] at h
    have h1 := dy_range h.1
    have h2 := dy_range h.2.1
    rw [biDays_ok h.1, biDays_ok h.2.1]
    simp only [Option.bind_some, if_true]
    rw [w64 (by omega) (by omega)]
theorem ev_implDays (b on : D) : Ev (fun k => impl_DaysOld.f k b.f0 b.f1 on.f0 on.f1) (daysV b on) := by
  unfold impl_DaysOld.f daysV
  refine Ev.bind (ev_areBorn [b] on (by simp)) ?_
  cases h : bornL [b] on with
  | false => simp only [Bool.false_eq_true, if_false]; exact Ev.now _
  | true =>
    rw [born_one] at h
    simp only [Bool.and_eq_true, decide_eq_true_iff] at h
    have h1 := dy_range h.1
    have h2 := dy_range h.2.1
    rw [index_ok h.1, index_ok h.2.1]
    simp only [Option.bind_some, if_true]
    rw [w64 (by omega) (by omega)]
    exact Ev.now _
theorem FnExactDaysOld : laws_FnExactDaysOld.Pure := by
  intro a b c d _ _ _ _
  refine Ev.rounds ?_
  unfold laws_FnExactDaysOld.f
  simp only [laws_toDate.f, Option.bind_some]
  rw [ev_specDays ⟨a, b⟩ ⟨c, d⟩]
  simp only [Option.bind_some]
  refine Ev.bind (ev_implDays ⟨a, b⟩ ⟨c, d⟩) ?_
  simp only [if_true, bne_self_eq_false, Bool.false_eq_true, if_false]
  exact Ev.now _

end Go.Proofs.Ytcebaiopkeaoaaa.Pure
