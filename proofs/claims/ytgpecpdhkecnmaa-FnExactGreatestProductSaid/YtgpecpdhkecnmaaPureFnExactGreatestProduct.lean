/- The program's GreatestProduct returns what the reference's returns, for all arguments. No condition. -/
import Derived.Test.YtgpecpdhkecnmaaC4Mark
import Derived.Test.YtgpecpdhkecnmaaC4Prods
import Derived.Test.YtgpecpdhkecnmaaE15
namespace Go.Proofs.Ytgpecpdhkecnmaa.Pure
open Go.RowKit Go.Proofs.Ytgpecpdhkecnmaa.E Go.Proofs.YtgpecpdhkecnmaaW.PrintWords Go.Proofs.YtgpecpdhkecnmaaW.PrintLast
set_option linter.unusedVariables false
set_option linter.unusedSimpArgs false

theorem FnExactGreatestProduct : laws_FnExactGreatestProduct.Pure := by
  intro c s hc hs
  refine Ev.rounds ?_
  obtain ⟨⟨r1, r2⟩, h1, h2, h8⟩ := both_ProductsOfSum c s
  simp only at h8
  have key : ∃ q : Int × Bool, Ev (fun k => spec_GreatestProduct.f k c s) q ∧ Ev (fun k => impl_GreatestProduct.f k c s) q := by
    unfold spec_GreatestProduct.f impl_GreatestProduct.f
    cases r2 with
    | false => exact ⟨(0, false), Ev.bind h1 (by simp only [Bool.false_eq_true, if_false]; exact Ev.now _), Ev.bind h2 (by simp only [Bool.false_eq_true, if_false]; exact Ev.now _)⟩
    | true =>
      by_cases h0 : (r1.length : Int) = 0
      · exact ⟨(0, false), Ev.bind h1 (by simp only [if_true, if_pos h0]; exact Ev.now _), Ev.bind h2 (by simp only [if_true, if_pos h0]; exact Ev.now _)⟩
      · have e : wrap64 ((r1.length : Int) - 1) = (r1.length : Int) - 1 := w64 (by omega) (by omega)
        have c1 : 0 ≤ (r1.length : Int) - 1 := by omega
        have c2 : (r1.length : Int) - 1 < (r1.length : Int) := by omega
        exact ⟨(rd r1 ((r1.length : Int) - 1), true), Ev.bind h1 (by simp only [if_true, if_neg h0, e, if_pos c1, if_pos c2]; exact Ev.now _), Ev.bind h2 (by simp only [if_true, if_neg h0, e, if_pos c1, if_pos c2]; exact Ev.now _)⟩
  obtain ⟨q, k1, k2⟩ := key
  unfold laws_FnExactGreatestProduct.f
  refine Ev.bind k1 ?_
  refine Ev.bind k2 ?_
  simp only [if_true, bne_self_eq_false, Bool.false_eq_true, if_false]
  exact Ev.now _
end Go.Proofs.Ytgpecpdhkecnmaa.Pure
