/- The program's SumsOfProduct returns what the reference's returns, for all arguments, in memory of the call's own. No condition. -/
import Derived.Test.YtgpecpdhkecnmaaC4Mark
import Derived.Test.YtgpecpdhkecnmaaC4Prod
import Derived.Test.YtgpecpdhkecnmaaC4Sums
import Derived.Test.YtgpecpdhkecnmaaE10
import Derived.Test.YtgpecpdhkecnmaaE12
import Derived.Test.YtgpecpdhkecnmaaE13
import Derived.Test.YtgpecpdhkecnmaaE14
import Derived.Test.YtgpecpdhkecnmaaE5
import Derived.Test.YtgpecpdhkecnmaaE7
namespace Go.Proofs.Ytgpecpdhkecnmaa.Pure
open Go.RowKit Go.Proofs.Ytgpecpdhkecnmaa.E Go.Proofs.YtgpecpdhkecnmaaW.PrintWords Go.Proofs.YtgpecpdhkecnmaaW.PrintLast
set_option linter.unusedVariables false
set_option linter.unusedSimpArgs false

theorem both_SumsOfProduct (c p : Int) : ∃ r : List Int × Bool, Ev (fun k => spec_SumsOfProduct.f k c p) r ∧ Ev (fun k => impl_SumsOfProduct.f k c p) r ∧ r.1.length ≤ 1000 := by
  unfold spec_SumsOfProduct.f impl_SumsOfProduct.f impl_SetsOfProduct.f
  rw [siChildren_val]
  by_cases h : 1 ≤ c ∧ c ≤ 4 ∧ 1 ≤ p ∧ p ≤ 160000
  · have hk := part_ok c.toNat (by omega) (hasProd p)
    rw [decide_eq_true h, if_pos h, siSets_val c p h]
    simp only [Option.bind_some, if_true]
    obtain ⟨xs, hxs⟩ : ∃ xs, xs = (allSets c.toNat []).filter (hasProd p) := ⟨_, rfl⟩
    rw [← hxs] at hk ⊢
    refine ⟨(sumsFrom xs 1 81 0, true), ?_, ?_, ?_⟩
    · exact Ev.bind (ev_siWith xs hk 1) (Ev.now _)
    · have h1 := ev_sums xs hk
      refine Ev.congr (f := fun k => ((impl_sumsOf.f k xs).bind fun t => impl_distinct.f t).bind fun t => some (t, true)) (fun k => ?_) (Ev.bind h1 (Ev.now _))
      cases impl_sumsOf.f k xs <;> rfl
    · have := sumsFrom_len xs 1 81 0
      show (sumsFrom xs 1 81 0).length ≤ 1000
      omega
  · rw [decide_eq_false h, if_neg h]
    simp only [Option.bind_some, Bool.false_eq_true, if_false]
    exact ⟨([], false), Ev.now _, Ev.now _, by simp⟩
theorem FnExactSumsOfProduct : laws_FnExactSumsOfProduct.Pure := by
  intro c p hc hp
  refine Ev.rounds ?_
  unfold laws_FnExactSumsOfProduct.f
  obtain ⟨⟨r1, r2⟩, h1, h2, h8⟩ := both_SumsOfProduct c p
  simp only at h8
  refine Ev.bind h1 ?_
  refine Ev.bind h2 ?_
  refine Ev.bind (ev_eqIntS r1 (by omega)) ?_
  simp only [if_true, bne_self_eq_false]
  refine Ev.step (fun k => by rw [laws_FnExactSumsOfProduct.j0, if_neg (by simp)]) ?_
  obtain ⟨x', hx, hxl, hxr⟩ := ev_markIntS r1 (by omega)
  refine Ev.bind hx ?_
  have hheld := ev_heldIntS x' (by omega) (by rw [hxl]; exact hxr)
  rw [hxl] at hheld
  refine Ev.bind hheld ?_
  simp only [if_neg (show ¬ (1 + (r1.length : Int) < 0) by omega), if_true]
  refine Ev.bind h2 ?_
  refine Ev.bind (ev_eqIntS r1 (by omega)) ?_
  simp only [if_true, bne_self_eq_false]
  refine Ev.step (fun k => by rw [laws_FnExactSumsOfProduct.j1, if_neg (by simp)]) ?_
  refine Ev.bind hheld ?_
  simp only [if_neg (show ¬ (1 + (r1.length : Int) < 0) by omega), if_true]
  exact Ev.now _
end Go.Proofs.Ytgpecpdhkecnmaa.Pure
