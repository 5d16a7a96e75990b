/- The program's AgesOn returns what the reference's returns, for all arguments. No condition. -/
import Derived.Test.YtcebaiopkeaoaaaC3Ages
import Derived.Test.YtcebaiopkeaoaaaC3Base
import Derived.Test.YtcebaiopkeaoaaaC3Conv
import Derived.Test.YtcebaiopkeaoaaaC3Mark
import Derived.Test.YtcebaiopkeaoaaaX1
import Derived.Test.YtcebaiopkeaoaaaX30
namespace Go.Proofs.Ytcebaiopkeaoaaa.Pure
open Go.RowKit Go.Proofs.Ytcebaiopkeaoaaa.X Go.Proofs.YtcebaiopkeaoaaaW.PrintWords Go.Proofs.YtcebaiopkeaoaaaW.PrintLast
set_option linter.unusedVariables false
set_option linter.unusedSimpArgs false

theorem ages_len (l : List D) (on : D) : (agesV l on).1.length ≤ 8 := by
  unfold agesV
  cases h : bornL l on with
  | false => simp
  | true => have := born_parts h; simp; omega
theorem FnExactAgesOn : laws_FnExactAgesOn.Pure := by
  intro l a b hm hy hw _ _
  refine Ev.rounds ?_
  unfold laws_FnExactAgesOn.f
  by_cases hs : l.length ≤ 1048576
  · have hl : (l.map cv).length ≤ 1048576 := by simpa using hs
    have h8 := ages_len (l.map cv) ⟨a, b⟩
    rw [sz_ok hs]
    simp only [Option.bind_some, if_neg (show ¬ (1048576 - (l.length : Int) < 0) by omega)]
    refine Ev.bind (ev_toDateS l hs) ?_
    simp only [laws_toDate.f, Option.bind_some]
    refine Ev.bind (ev_specAges (l.map cv) ⟨a, b⟩ hl) ?_
    refine Ev.bind (ev_toDateS l hs) ?_
    refine Ev.bind (ev_implAges (l.map cv) ⟨a, b⟩ hl) ?_
    refine Ev.bind (ev_eqIntS _ (by omega)) ?_
    simp only [if_true, bne_self_eq_false]
    refine Ev.step (fun k => by rw [laws_FnExactAgesOn.j0, if_neg (by simp)]) ?_
    refine Ev.bind (ev_toDateS l hs) ?_
    refine Ev.bind (ev_eqDateS (l.map cv) (by omega)) ?_
    simp only [if_true]
    obtain ⟨r, l', hmk, hr⟩ := ev_markDateS (l.map cv) hl
    refine Ev.bind hmk ?_
    simp only [if_neg (show ¬ r < 0 by omega)]
    refine Ev.bind (ev_eqIntS _ (by omega)) ?_
    simp only [if_true, bne_self_eq_false]
    refine Ev.step (fun k => by rw [laws_FnExactAgesOn.j1, if_neg (by simp)]) ?_
    obtain ⟨x', hx, hxl, hxr⟩ := ev_markIntS (agesV (l.map cv) ⟨a, b⟩).1 (by omega)
    refine Ev.bind hx ?_
    have hheld := ev_heldIntS x' (by omega) (by rw [hxl]; exact hxr)
    rw [hxl] at hheld
    refine Ev.bind hheld ?_
    simp only [if_neg (show ¬ (1 + ((agesV (l.map cv) ⟨a, b⟩).1.length : Int) < 0) by omega), if_true]
    refine Ev.bind (ev_toDateS l hs) ?_
    simp only [laws_toDate.f, Option.bind_some]
    refine Ev.bind (ev_implAges (l.map cv) ⟨a, b⟩ hl) ?_
    refine Ev.bind (ev_eqIntS _ (by omega)) ?_
    simp only [if_true, bne_self_eq_false]
    refine Ev.step (fun k => by rw [laws_FnExactAgesOn.j2, if_neg (by simp)]) ?_
    refine Ev.bind hheld ?_
    simp only [if_neg (show ¬ (1 + ((agesV (l.map cv) ⟨a, b⟩).1.length : Int) < 0) by omega), if_true]
    exact Ev.now _
  · rw [sz_no hs hm]
    simp only [Option.bind_some, if_pos (show (-1 : Int) < 0 by omega)]
    exact Ev.now _

end Go.Proofs.Ytcebaiopkeaoaaa.Pure
