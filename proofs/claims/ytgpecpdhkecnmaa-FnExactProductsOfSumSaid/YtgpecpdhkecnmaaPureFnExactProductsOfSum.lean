/- The program's ProductsOfSum returns what the reference's returns, for all arguments, in memory of the call's own. No condition. -/
import Derived.Test.YtgpecpdhkecnmaaC4Mark
import Derived.Test.YtgpecpdhkecnmaaC4Prods
import Derived.Test.YtgpecpdhkecnmaaE14
namespace Go.Proofs.Ytgpecpdhkecnmaa.Pure
open Go.RowKit Go.Proofs.Ytgpecpdhkecnmaa.E Go.Proofs.YtgpecpdhkecnmaaW.PrintWords Go.Proofs.YtgpecpdhkecnmaaW.PrintLast
set_option linter.unusedVariables false
set_option linter.unusedSimpArgs false

theorem FnExactProductsOfSum : laws_FnExactProductsOfSum.Pure := by
  intro c p hc hp
  refine Ev.rounds ?_
  unfold laws_FnExactProductsOfSum.f
  obtain ⟨⟨r1, r2⟩, h1, h2, h8⟩ := both_ProductsOfSum c p
  simp only at h8
  refine Ev.bind h1 ?_
  refine Ev.bind h2 ?_
  refine Ev.bind (ev_eqIntS r1 (by omega)) ?_
  simp only [if_true, bne_self_eq_false]
  refine Ev.step (fun k => by rw [laws_FnExactProductsOfSum.j0, if_neg (by simp)]) ?_
  obtain ⟨x', hx, hxl, hxr⟩ := ev_markIntS r1 (by omega)
  refine Ev.bind hx ?_
  have hheld := ev_heldIntS x' (by omega) (by rw [hxl]; exact hxr)
  rw [hxl] at hheld
  refine Ev.bind hheld ?_
  simp only [if_neg (show ¬ (1 + (r1.length : Int) < 0) by omega), if_true]
  refine Ev.bind h2 ?_
  refine Ev.bind (ev_eqIntS r1 (by omega)) ?_
  simp only [if_true, bne_self_eq_false]
  refine Ev.step (fun k => by rw [laws_FnExactProductsOfSum.j1, if_neg (by simp)]) ?_
  refine Ev.bind hheld ?_
  simp only [if_neg (show ¬ (1 + (r1.length : Int) < 0) by omega), if_true]
  exact Ev.now _
end Go.Proofs.Ytgpecpdhkecnmaa.Pure
