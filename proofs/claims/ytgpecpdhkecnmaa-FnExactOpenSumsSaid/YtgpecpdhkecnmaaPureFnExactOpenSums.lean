/- The program's OpenSums returns what the reference's returns, for all arguments, in memory of the call's own. No condition. -/
import Derived.Test.YtgpecpdhkecnmaaC4Mark
import Derived.Test.YtgpecpdhkecnmaaC4Prod
import Derived.Test.YtgpecpdhkecnmaaC4Sets
import Derived.Test.YtgpecpdhkecnmaaC4Sort
import Derived.Test.YtgpecpdhkecnmaaC4Sums
import Derived.Test.YtgpecpdhkecnmaaE10
import Derived.Test.YtgpecpdhkecnmaaE12
import Derived.Test.YtgpecpdhkecnmaaE16
import Derived.Test.YtgpecpdhkecnmaaE17
import Derived.Test.YtgpecpdhkecnmaaE18
import Derived.Test.YtgpecpdhkecnmaaE5
import Derived.Test.YtgpecpdhkecnmaaE7
import Derived.Test.YtgpecpdhkecnmaaE8
namespace Go.Proofs.Ytgpecpdhkecnmaa.Pure
open Go.RowKit Go.Proofs.Ytgpecpdhkecnmaa.E Go.Proofs.YtgpecpdhkecnmaaW.PrintWords Go.Proofs.YtgpecpdhkecnmaaW.PrintLast
set_option linter.unusedVariables false
set_option linter.unusedSimpArgs false

theorem okSetsO_of (xs : List (List Int)) (hk : SetsOk xs) : okSetsO xs = true := by
  unfold okSetsO
  refine Bool.and_eq_true_iff.2 ⟨decide_eq_true hk.2, List.all_eq_true.2 fun x hx => ?_⟩
  obtain ⟨h1, h2⟩ := hk.1 x hx
  refine Bool.and_eq_true_iff.2 ⟨decide_eq_true h2, List.all_eq_true.2 fun y hy => ?_⟩
  obtain ⟨h3, h4⟩ := h1 y hy
  exact Bool.and_eq_true_iff.2 ⟨decide_eq_true h3, decide_eq_true h4⟩
theorem open_same (xs : List (List Int)) : ((sumsFrom xs 1 81 0).filter fun t => !decide (((xs.filter (hasSum t)).length : Int) < 2)) = sumsFrom xs 2 81 0 := by
  refine strict_eq _ _ (List.Pairwise.filter _ (sumsFrom_pair xs 1 81 0)) (sumsFrom_pair xs 2 81 0) fun x => ?_
  rw [List.mem_filter, sumsFrom_mem, sumsFrom_mem]
  constructor
  · rintro ⟨⟨v, h1, h2, rfl, h3⟩, h4⟩
    refine ⟨v, h1, h2, rfl, ?_⟩
    have h5 : ¬ (((xs.filter (hasSum (v : Int))).length : Int) < 2) := by simpa using h4
    have e : (xs.filter (hasSum (v : Int))).length = cntS xs v := rfl
    rw [e] at h5
    omega
  · rintro ⟨v, h1, h2, rfl, h3⟩
    refine ⟨⟨v, h1, h2, rfl, by omega⟩, ?_⟩
    have e : (xs.filter (hasSum (v : Int))).length = cntS xs v := rfl
    rw [e]
    have h5 : ¬ ((cntS xs v : Int) < 2) := by omega
    simpa using h5
theorem ev_openSums (xs : List (List Int)) (hk : SetsOk xs) : Ev (fun k => impl_openSums.f k xs) (sumsFrom xs 2 81 0) := by
  unfold impl_openSums.f
  simp only [if_pos (okSetsO_of xs hk)]
  refine Ev.bind (ev_sumsOf xs hk) ?_
  have : impl_distinct.f (xs.map sumL) = some (sumsFrom xs 1 81 0) := by
    unfold impl_distinct.f
    rw [if_pos (by rw [List.length_map]; exact hk.2), sums_same xs hk]
  rw [this]
  simp only [Option.bind_some, open_same]
  exact Ev.now _
theorem both_OpenSums (c p : Int) : ∃ r : List Int × Bool, Ev (fun k => spec_OpenSums.f k c p) r ∧ Ev (fun k => impl_OpenSums.f k c p) r ∧ r.1.length ≤ 1000 := by
  unfold spec_OpenSums.f impl_OpenSums.f impl_SetsOfProduct.f
  rw [siChildren_val]
  by_cases h : 1 ≤ c ∧ c ≤ 4 ∧ 1 ≤ p ∧ p ≤ 160000
  · have hk := part_ok c.toNat (by omega) (hasProd p)
    rw [decide_eq_true h, if_pos h, siSets_val c p h]
    simp only [Option.bind_some, if_true]
    obtain ⟨xs, hxs⟩ : ∃ xs, xs = (allSets c.toNat []).filter (hasProd p) := ⟨_, rfl⟩
    rw [← hxs] at hk ⊢
    refine ⟨(sumsFrom xs 2 81 0, true), ?_, ?_, ?_⟩
    · exact Ev.bind (ev_siWith xs hk 2) (Ev.now _)
    · exact Ev.bind (ev_openSums xs hk) (Ev.now _)
    · have := sumsFrom_len xs 2 81 0
      show (sumsFrom xs 2 81 0).length ≤ 1000
      omega
  · rw [decide_eq_false h, if_neg h]
    simp only [Option.bind_some, Bool.false_eq_true, if_false]
    exact ⟨([], false), Ev.now _, Ev.now _, by simp⟩
theorem FnExactOpenSums : laws_FnExactOpenSums.Pure := by
  intro c p hc hp
  refine Ev.rounds ?_
  unfold laws_FnExactOpenSums.f
  obtain ⟨⟨r1, r2⟩, h1, h2, h8⟩ := both_OpenSums c p
  simp only at h8
  refine Ev.bind h1 ?_
  refine Ev.bind h2 ?_
  refine Ev.bind (ev_eqIntS r1 (by omega)) ?_
  simp only [if_true, bne_self_eq_false]
  refine Ev.step (fun k => by rw [laws_FnExactOpenSums.j0, if_neg (by simp)]) ?_
  obtain ⟨x', hx, hxl, hxr⟩ := ev_markIntS r1 (by omega)
  refine Ev.bind hx ?_
  have hheld := ev_heldIntS x' (by omega) (by rw [hxl]; exact hxr)
  rw [hxl] at hheld
  refine Ev.bind hheld ?_
  simp only [if_neg (show ¬ (1 + (r1.length : Int) < 0) by omega), if_true]
  refine Ev.bind h2 ?_
  refine Ev.bind (ev_eqIntS r1 (by omega)) ?_
  simp only [if_true, bne_self_eq_false]
  refine Ev.step (fun k => by rw [laws_FnExactOpenSums.j1, if_neg (by simp)]) ?_
  refine Ev.bind hheld ?_
  simp only [if_neg (show ¬ (1 + (r1.length : Int) < 0) by omega), if_true]
  exact Ev.now _
end Go.Proofs.Ytgpecpdhkecnmaa.Pure
