/- The program's OlderOf returns what the reference's returns, for all arguments. No condition. -/
import Derived.Test.YtfkdkikodoingaaDBase
import Derived.Test.YtfkdkikodoingaaDOlder
import Derived.Test.YtfkdkikodoingaaE10
namespace Go.Proofs.Ytfkdkikodoingaa.Pure
open Go.RowKit Go.Proofs.Ytfkdkikodoingaa.E Go.Proofs.YtfkdkikodoingaaW.PrintWords Go.Proofs.YtfkdkikodoingaaW.PrintLast
set_option linter.unusedVariables false
set_option linter.unusedSimpArgs false

theorem FnExactOlderOf : laws_FnExactOlderOf.Pure := by
  intro l hm hy hw
  refine Ev.rounds ?_
  unfold laws_FnExactOlderOf.f
  by_cases hs : l.length ≤ 1048576
  · have hl : (l.map cv).length ≤ 1048576 := by simpa using hs
    have h8 := olderR_len (l.map cv)
    rw [sz_ok hs]
    simp only [Option.bind_some, if_neg (show ¬ (1048576 - (l.length : Int) < 0) by omega)]
    refine Ev.bind (ev_toDateS l hs) ?_
    refine Ev.bind (ev_specOlder (l.map cv) hl) ?_
    refine Ev.bind (ev_toDateS l hs) ?_
    simp only [implOlder, Option.bind_some]
    refine Ev.bind (ev_eqIntS _ (by omega)) ?_
    simp only [if_true, bne_self_eq_false]
    refine Ev.step (fun k => by rw [laws_FnExactOlderOf.j0, if_neg (by simp)]) ?_
    refine Ev.bind (ev_toDateS l hs) ?_
    refine Ev.bind (ev_eqDateS (l.map cv) (by omega)) ?_
    simp only [if_true]
    obtain ⟨r, l', hmk, hr⟩ := ev_markDateS (l.map cv) hl
    refine Ev.bind hmk ?_
    simp only [if_neg (show ¬ r < 0 by omega)]
    refine Ev.bind (ev_eqIntS _ (by omega)) ?_
    simp only [if_true, bne_self_eq_false]
    refine Ev.step (fun k => by rw [laws_FnExactOlderOf.j1, if_neg (by simp)]) ?_
    obtain ⟨x', hx, hxl, hxr⟩ := ev_markIntS (olderR (l.map cv)).1 (by omega)
    refine Ev.bind hx ?_
    have hheld := ev_heldIntS x' (by omega) (by rw [hxl]; exact hxr)
    rw [hxl] at hheld
    refine Ev.bind hheld ?_
    simp only [if_neg (show ¬ (1 + ((olderR (l.map cv)).1.length : Int) < 0) by omega), if_true]
    refine Ev.bind (ev_toDateS l hs) ?_
    simp only [implOlder, Option.bind_some]
    refine Ev.bind (ev_eqIntS _ (by omega)) ?_
    simp only [if_true, bne_self_eq_false]
    refine Ev.step (fun k => by rw [laws_FnExactOlderOf.j2, if_neg (by simp)]) ?_
    refine Ev.bind hheld ?_
    simp only [if_neg (show ¬ (1 + ((olderR (l.map cv)).1.length : Int) < 0) by omega), if_true]
    exact Ev.now _
  · rw [sz_no hs hm]
    simp only [Option.bind_some, if_pos (show (-1 : Int) < 0 by omega)]
    exact Ev.now _

end Go.Proofs.Ytfkdkikodoingaa.Pure
